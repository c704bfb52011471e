/-
The law FnExactReadVar of the given program answers true at every input: the plain statement that is left when the printed walk has stepped through the code.
Conditions: the bounds of the given row (sizes of texts and lists, numbers of their kinds); none of our own.
-/
import Derived.Test.YtepjagfbdagkmaaPFnExactReadVarx2
import Derived.Laws.BitsAllLaws
namespace Go.Proofs.Ytepjagfbdagkmaa.Pure
open Go.RowKit Go.Proofs.Ytepjagfbdagkmaa.PFnExactReadVar Go.Proofs.YtepjagfbdagkmaaW.PrintWords Go.Proofs.YtepjagfbdagkmaaW.PrintLast Go.Proofs.YtepjagfbdagkmaaW.PrintMore

theorem evp {α : Type} {c : Prop} [Decidable c] {f g : Nat → Option α} {r : α} (hc : c) (h : Ev f r) : Ev (fun k => if c then f k else g k) r := Ev.congr (fun _ => if_pos hc) h
theorem evn {α : Type} {c : Prop} [Decidable c] {f g : Nat → Option α} {r : α} (hc : ¬ c) (h : Ev g r) : Ev (fun k => if c then f k else g k) r := Ev.congr (fun _ => if_neg hc) h
theorem evs {α : Type} {x y : α} (h : x = y) : Ev (fun _ => some x) y := by subst h; exact Ev.now _
theorem evc {α : Type} {x : Option α} {y : α} (h : x = some y) : Ev (fun _ => x) y := by subst h; exact Ev.now _
theorem w64 {n : Int} (h1 : -9223372036854775808 ≤ n) (h2 : n ≤ 9223372036854775807) : wrap64 n = n := IntWalk.wrap64_in n ⟨h1, h2⟩
theorem w64n (n : Nat) (h : n ≤ 9223372036854775807) : wrap64 (n : Int) = (n : Int) := w64 (by omega) (by omega)
theorem w64s (n : Nat) (h : n + 1 ≤ 9223372036854775807) : wrap64 ((n : Int) + 1) = ((n + 1 : Nat) : Int) := by rw [w64 (by omega) (by omega)]; rfl
theorem w64a (a b : Nat) (h : a + b ≤ 9223372036854775807) : wrap64 ((a : Int) + (b : Int)) = ((a + b : Nat) : Int) := by rw [w64 (by omega) (by omega)]; rfl
theorem w64m (a b : Nat) (h : a * b ≤ 9223372036854775807) : wrap64 ((a : Int) * (b : Int)) = ((a * b : Nat) : Int) := by
  have e : ((a * b : Nat) : Int) = (a : Int) * (b : Int) := Int.natCast_mul a b
  rw [w64 (by omega) (by omega), e]
theorem wf64 {n : Int} (h : (Lit.int .i64 n).wf = true) : -9223372036854775808 ≤ n ∧ n ≤ 9223372036854775807 := by
  simp [Lit.wf, IntKind.min, IntKind.max, IntKind.bits, IntKind.signed] at h
  omega
theorem bt_lo (s : ByteArray) (i : Int) : 0 ≤ bt s i := (bt_range s i).1
theorem bt_hi (s : ByteArray) (i : Int) : bt s i ≤ 255 := (bt_range s i).2
theorem wfu32 {n : Int} (h : (Lit.int .u32 n).wf = true) : 0 ≤ n ∧ n < 4294967296 := by
  simp [Lit.wf, IntKind.min, IntKind.max, IntKind.bits, IntKind.signed] at h
  omega
theorem evb {α β : Type} {x : Option α} {f : Nat → α → Option β} {a : α} {r : β} (h : x = some a) (k : Ev (fun n => f n a) r) : Ev (fun n => x.bind (f n)) r := Ev.bind (g := fun _ => x) (evc h) k
theorem i64_nat (a b : Nat) (ha : a < 9223372036854775808) (hb : b < 9223372036854775808) : Go.bits .and .i64 (a : Int) (b : Int) = ((a &&& b : Nat) : Int) ∧ Go.bits .or .i64 (a : Int) (b : Int) = ((a ||| b : Nat) : Int) :=
  bits_nat .i64 63 (by decide) (fun m h0 h1 => by rw [IntKind.wrap_i64]; omega) a b ha hb

theorem tl_inj {a b : ByteArray} : a.toList = b.toList ↔ a = b := by
  rw [ByteArray.toList_eq, ByteArray.toList_eq]
  exact ⟨fun h => ByteArray.ext (Array.toList_inj.mp h), fun h => by rw [h]⟩
theorem son_bytesOf (s : ByteArray) : strOfNums (bytesOf s) = s := by
  apply tl_inj.1
  rw [ByteArray.toList_eq, ByteArray.toList_eq, strOfNums_data, bytesOf, List.map_map]
  have : ((fun n : Int => UInt8.ofNat n.toNat) ∘ fun b : UInt8 => (b.toNat : Int)) = id := by
    funext b; simp
  rw [this, List.map_id]
theorem bytesOf_son (l : List Int) (h : ∀ b ∈ l, 0 ≤ b ∧ b ≤ 255) : bytesOf (strOfNums l) = l := by
  rw [bytesOf, strOfNums_data, List.map_map]
  have : l.map ((fun b : UInt8 => (b.toNat : Int)) ∘ fun n : Int => UInt8.ofNat n.toNat) = l.map id := by
    apply List.map_congr_left
    intro b hb
    have := h b hb
    simp only [Function.comp, id, UInt8.toNat_ofNat']
    omega
  rw [this, List.map_id]
theorem bytesOf_inj {a b : ByteArray} (h : bytesOf a = bytesOf b) : a = b := by rw [← son_bytesOf a, ← son_bytesOf b, h]
theorem bytesOf_extract (s : ByteArray) (a b : Nat) : bytesOf (s.extract a b) = ((bytesOf s).drop a).take (b - a) := by
  unfold bytesOf
  rw [ByteArray.data_extract]
  simp [List.map_take, List.map_drop, List.extract]
theorem bytesOf_append (a b : ByteArray) : bytesOf (a ++ b) = bytesOf a ++ bytesOf b := by
  unfold bytesOf
  rw [ByteArray.data_append]
  simp
theorem bytesOf_range (s : ByteArray) : ∀ b ∈ bytesOf s, 0 ≤ b ∧ b ≤ 255 := by
  intro b hb
  unfold bytesOf at hb
  obtain ⟨c, _, rfl⟩ := List.mem_map.1 hb
  have := c.toNat_lt
  omega
theorem bytesOf_drop (s : ByteArray) (i : Nat) (h : i < s.size) : (bytesOf s).drop i = bt s (i : Int) :: (bytesOf s).drop (i + 1) := by
  have hl : i < (bytesOf s).length := by rw [bytesOf_length]; exact h
  rw [List.drop_eq_getElem_cons hl]
  congr 1
  have := rd_bytesOf s (i : Int)
  rw [← this]
  unfold rd
  simp [List.getD_eq_getElem?_getD, hl]
theorem bt_nat (s : ByteArray) (i : Int) : ∃ n : Nat, bt s i = (n : Int) ∧ n < 256 := by
  have h := bt_range s i
  exact ⟨(bt s i).toNat, by omega, by omega⟩

theorem spec_l01In_is (x a b : Int) : spec_l01In.f x a b = some (decide (a ≤ x ∧ x ≤ b)) := by
  unfold spec_l01In.f
  by_cases h : x ≥ a
  · rw [if_pos h]; congr 1; rw [decide_eq_decide]; exact ⟨fun h2 => ⟨h, h2⟩, fun h2 => h2.2⟩
  · rw [if_neg h]; congr 1; symm; rw [decide_eq_false_iff_not]; exact fun h2 => h h2.1

theorem impl_in_is (x a b : Int) : impl_in.f x a b = some (decide (a ≤ x ∧ x ≤ b)) := by
  unfold impl_in.f
  by_cases h : x ≥ a
  · rw [if_pos h]; congr 1; rw [decide_eq_decide]; exact ⟨fun h2 => ⟨h, h2⟩, fun h2 => h2.2⟩
  · rw [if_neg h]; congr 1; symm; rw [decide_eq_false_iff_not]; exact fun h2 => h h2.1

def varNums (n : Nat) : List Int := if n > 127 then ((n % 128 + 128 : Nat) : Int) :: varNums (n / 128) else [(n : Int)]
termination_by n
decreasing_by omega
theorem varNums_small {n : Nat} (h : ¬ n > 127) : varNums n = [(n : Int)] := by rw [varNums, if_neg h]
theorem varNums_big {n : Nat} (h : n > 127) : varNums n = ((n % 128 + 128 : Nat) : Int) :: varNums (n / 128) := by rw [varNums, if_pos h]
theorem varNums_len (d : Nat) : ∀ n : Nat, n < 128 ^ d → 0 < d → (varNums n).length ≤ d := by
  induction d with
  | zero => intro n h h0; omega
  | succ d ih =>
    intro n h _
    by_cases hb : n > 127
    · rw [varNums_big hb]
      have hd : 0 < d := by
        rcases Nat.eq_zero_or_pos d with h0 | h0
        · subst h0; simp at h; omega
        · exact h0
      have := ih (n / 128) (by rw [Nat.pow_succ] at h; omega) hd
      simp; omega
    · rw [varNums_small hb]; simp
def vt (n : Nat) : ByteArray := strOfNums (varNums n)

/-- The number whose bytes are bs (all above 127 but the last). -/
def varVal : List Nat → Nat → Nat
  | [], x => x
  | b :: bs, x => b % 128 + 128 * varVal bs x
theorem varVal_pos : ∀ (bs : List Nat) (x : Nat), 0 < x → 0 < varVal bs x
  | [], x, h => h
  | b :: bs, x, h => by have := varVal_pos bs x h; unfold varVal; omega
theorem varNums_val : ∀ (bs : List Nat) (x : Nat), (∀ b ∈ bs, 127 < b ∧ b < 256) → x < 128 → (x = 0 → bs = []) → varNums (varVal bs x) = bs.map (fun b : Nat => (b : Int)) ++ [(x : Int)]
  | [], x, _, hx, _ => by unfold varVal; rw [varNums_small (by omega)]; rfl
  | b :: bs, x, hb, hx, h0 => by
    have hb0 := hb b (by simp)
    have hx0 : 0 < x := by
      rcases Nat.eq_zero_or_pos x with h | h
      · exact absurd (h0 h) (by simp)
      · exact h
    have hp := varVal_pos bs x hx0
    have ih := varNums_val bs x (fun c hc => hb c (by simp [hc])) hx (fun h => by omega)
    unfold varVal
    rw [varNums_big (by omega)]
    have e1 : (b % 128 + 128 * varVal bs x) % 128 + 128 = b := by omega
    have e2 : (b % 128 + 128 * varVal bs x) / 128 = varVal bs x := by omega
    rw [e1, e2, ih]; rfl
theorem varNums_ne (n : Nat) : varNums n ≠ [] := by
  by_cases h : n > 127
  · rw [varNums_big h]; simp
  · rw [varNums_small h]; simp
theorem varNums_last (n : Nat) : ∀ (l : List Int), varNums n = l ++ [0] → l = [] := by
  induction n using Nat.strongRecOn with
  | _ n ih =>
    intro l h
    by_cases hb : n > 127
    · rw [varNums_big hb] at h
      cases l with
      | nil => simp at h; exact absurd h.2 (varNums_ne _)
      | cons c l =>
        simp at h
        have := ih (n / 128) (by omega) l h.2
        subst this
        have h2 := h.2
        by_cases hb2 : n / 128 > 127
        · rw [varNums_big hb2] at h2
          simp at h2
          exact absurd h2.2 (varNums_ne _)
        · rw [varNums_small hb2] at h2
          simp at h2
          omega
    · rw [varNums_small hb] at h
      cases l with
      | nil => rfl
      | cons c l => simp at h
theorem varNums_range (n : Nat) : ∀ b ∈ varNums n, 0 ≤ b ∧ b ≤ 255 := by
  induction n using Nat.strongRecOn with
  | _ n ih =>
    by_cases hb : n > 127
    · rw [varNums_big hb]
      intro b hm
      rcases List.mem_cons.1 hm with h | h
      · subst h; omega
      · exact ih (n / 128) (by omega) b h
    · rw [varNums_small hb]
      intro b hm
      simp at hm; subst hm; omega
theorem bytesOf_vt (n : Nat) : bytesOf (vt n) = varNums n := bytesOf_son _ (varNums_range n)
theorem varVal_snoc : ∀ (bs : List Nat) (b x : Nat), varVal (bs ++ [b]) x = varVal bs (b % 128 + 128 * x)
  | [], b, x => rfl
  | c :: bs, b, x => by simp [varVal, varVal_snoc bs b x]
theorem varVal_add : ∀ (bs : List Nat) (x : Nat), varVal bs x = varVal bs 0 + 128 ^ bs.length * x
  | [], x => by simp [varVal]
  | c :: bs, x => by simp only [varVal, varVal_add bs x, List.length_cons, Nat.pow_succ, Nat.mul_add, Nat.mul_comm, Nat.mul_left_comm]; omega
theorem varVal_lt : ∀ (bs : List Nat), varVal bs 0 < 128 ^ bs.length
  | [] => by simp [varVal]
  | c :: bs => by have := varVal_lt bs; simp only [varVal, List.length_cons, Nat.pow_succ]; omega
/-- What stands in s from place p on, k bytes (all above 127, with the sum n) having been read; l more may be. -/
def rvGo (s : ByteArray) (p : Nat) : Nat → Nat → Nat → Int × Int × Bool
  | 0, _, _ => (0, 0, false)
  | l + 1, k, n => if p + k < s.size then
      (if bt s ((p + k : Nat) : Int) > 127 then rvGo s p l (k + 1) (n + 128 ^ k * ((bt s ((p + k : Nat) : Int)).toNat % 128))
       else if (bt s ((p + k : Nat) : Int) = 0 ∧ k > 0) ∨ n + 128 ^ k * (bt s ((p + k : Nat) : Int)).toNat > 1000000000 then (0, 0, false)
       else (((n + 128 ^ k * (bt s ((p + k : Nat) : Int)).toNat : Nat) : Int), ((p + k + 1 : Nat) : Int), true))
    else (0, 0, false)
def readVar (s : ByteArray) (at_ : Int) : Int × Int × Bool := if 0 ≤ at_ ∧ at_ ≤ s.size then rvGo s at_.toNat 5 0 0 else (0, 0, false)

theorem spec_l01Var_l (d : Nat) : ∀ (n : Nat) (acc : List Int), n < 128 ^ d → n ≤ 9223372036854775807 → acc.length + d < 140737488355328 → Ev (fun k => spec_l01Var.l0 k (n : Int) acc) (strOfNums (acc ++ varNums n)) := by
  induction d with
  | zero =>
    intro n acc h h2 h3
    obtain rfl : n = 0 := by simp at h; omega
    refine Ev.step (fun k => by rw [spec_l01Var.l0]) (evn (by simp) (evp (by omega) (evs ?_)))
    rw [varNums_small (by omega)]; rfl
  | succ d ih =>
    intro n acc h h2 h3
    by_cases hb : n > 127
    · refine Ev.step (fun k => by rw [spec_l01Var.l0]) (evp (by omega) (evp (by omega) ?_))
      have e1 : wrap64 (Int.tdiv (n : Int) 128) = ((n / 128 : Nat) : Int) := by rw [Int.tdiv_eq_ediv_of_nonneg (by omega), w64 (by omega) (by omega)]; rfl
      have e2 : (wrap64 ((Int.tmod (n : Int) 128) + 128)) % 256 = ((n % 128 + 128 : Nat) : Int) := by rw [Int.tmod_eq_emod_of_nonneg (by omega), w64 (by omega) (by omega)]; omega
      rw [e1, e2, varNums_big hb]
      have := ih (n / 128) (acc ++ [((n % 128 + 128 : Nat) : Int)]) (by rw [Nat.pow_succ] at h; omega) (by omega) (by simp; omega)
      rw [List.append_assoc] at this
      exact this
    · refine Ev.step (fun k => by rw [spec_l01Var.l0]) (evn (by omega) (evp (by omega) (evs ?_)))
      rw [varNums_small hb, Int.emod_eq_of_lt (by omega) (by omega)]
theorem spec_l01Var_is (n : Nat) (h : n ≤ 9223372036854775807) : Ev (fun k => spec_l01Var.f k (n : Int)) (vt n) := by
  have := spec_l01Var_l 9 n [] (by omega) h (by simp)
  simpa [spec_l01Var.f, vt] using this

theorem i64_and127 (n : Nat) (h : n ≤ 9223372036854775807) : Go.bits .and .i64 (n : Int) 127 = ((n % 128 : Nat) : Int) := by
  have := (i64_nat n 127 (by omega) (by omega)).1
  rw [nat_mask7] at this
  exact this

theorem shl_i64 (a m : Nat) (hm : m ≤ 64) (h : a * 2 ^ m < 9223372036854775808) : shl .i64 (a : Int) (m : Int) = ((a * 2 ^ m : Nat) : Int) := by
  have e : (((m : Int)).toNat) = m := rfl
  have e2 : min m IntKind.i64.bits = m := Nat.min_eq_left hm
  unfold shl
  rw [e, e2]
  have e3 : (a : Int) * 2 ^ m = ((a * 2 ^ m : Nat) : Int) := by simp
  rw [e3, IntKind.wrap_i64]
  omega
theorem rv_or (n x k : Nat) (hn : n < 128 ^ k) (hx : x < 128) (hk : k < 5) : Go.bits .or .i64 (n : Int) (shl .i64 (x : Int) ((7 * k : Nat) : Int)) = ((n + 128 ^ k * x : Nat) : Int) := by
  have e0 : (2 : Nat) ^ (7 * k) = 128 ^ k := by rw [Nat.pow_mul]
  have hp : 128 ^ k ≤ 128 ^ 4 := Nat.pow_le_pow_right (by omega) (by omega)
  have hmul : x * 128 ^ k ≤ 127 * 128 ^ 4 := Nat.mul_le_mul (by omega) hp
  rw [shl_i64 x (7 * k) (by omega) (by rw [e0]; omega), e0, (i64_nat n (x * 128 ^ k) (by omega) (by omega)).2]
  rw [Nat.or_comm, nat_join (7 * k) (x * 128 ^ k) n (by rw [e0]; exact Nat.mul_mod_left _ _) (by rw [e0]; exact hn), Nat.add_comm, Nat.mul_comm]
theorem impl_ReadVar_l (s : ByteArray) (hs : s.size ≤ 140737488351232) (p : Nat) (hp : p ≤ s.size) (l : Nat) : ∀ (k n : Nat), k + l = 5 → n < 128 ^ k → Ev (fun r => impl_ReadVar.l0 r s (p : Int) (n : Int) (k : Int)) (rvGo s p l k n) := by
  induction l with
  | zero =>
    intro k n hk hn
    refine Ev.step (fun r => by rw [impl_ReadVar.l0]) ?_
    refine evn (by omega) (Ev.step (fun r => by rw [impl_ReadVar.j1]) ?_)
    exact evn (by simp) (evs rfl)
  | succ l ih =>
    intro k n hk hn
    have HN := Aside0.mk hn
    clear hn
    have hk5 : k < 5 := by omega
    have e0 := w64a p k (by omega)
    refine Ev.step (fun r => by rw [impl_ReadVar.l0]) ?_
    refine evp (by omega) (Ev.step (fun r => by rw [impl_ReadVar.j1]) ?_)
    rw [e0]
    unfold rvGo
    by_cases h1 : p + k < s.size
    · rw [if_pos h1]
      refine evp (by rw [decide_eq_true_eq]; omega) (evp (by omega) (evp (by omega) ?_))
      obtain ⟨b, hb, hb2⟩ := bt_nat s ((p + k : Nat) : Int)
      have e1 : wrap64 (7 * (k : Int)) = ((7 * k : Nat) : Int) := w64m 7 k (by omega)
      have e2 := w64n b (by omega)
      have e3 := i64_and127 b (Nat.le_trans (Nat.le_of_lt hb2) (by decide))
      have e4 := Aside0.mk (rv_or n (b % 128) k HN.out (Nat.mod_lt _ (by decide)) hk5)
      have e5 := w64s k (by omega)
      have e6 := w64s (p + k) (by omega)
      have e7 : ((b : Nat) : Int).toNat = b := rfl
      simp only [hb, e1, e2, e3, e4.out, e5, e6, e7]
      clear e0 e1 e2 e3 e4 e5 e6 e7
      generalize hm : 128 ^ k = m at *
      have HM := Aside0.mk hm
      clear hm
      refine evp (by omega) ?_
      by_cases h2 : (b : Int) > 127
      · rw [if_pos h2]
        refine evp h2 (ih (k + 1) _ (by omega) ?_)
        rw [Nat.pow_succ, HM.out]
        have h3 : m * (b % 128) ≤ m * 127 := Nat.mul_le_mul_left _ (by omega)
        have h4 := HN.out
        omega
      · rw [if_neg h2]
        have e8 : b % 128 = b := by omega
        rw [e8]
        refine evn h2 ?_
        by_cases h3 : (b : Int) = 0
        · refine evp h3 ?_
          by_cases h4 : (k : Int) > 0
          · exact evp h4 (evs (by rw [if_pos (.inl ⟨h3, by omega⟩)]))
          · refine evn h4 ?_
            by_cases h5 : ((n + m * b : Nat) : Int) > 1000000000
            · exact evp h5 (evs (by rw [if_pos (.inr (by omega))]))
            · exact evn h5 (evs (by rw [if_neg (by omega)]))
        · refine evn h3 ?_
          by_cases h5 : ((n + m * b : Nat) : Int) > 1000000000
          · exact evp h5 (evs (by rw [if_pos (.inr (by omega))]))
          · exact evn h5 (evs (by rw [if_neg (by omega)]))
    · rw [if_neg h1]
      exact evn (by rw [decide_eq_true_eq]; omega) (Ev.now _)
theorem impl_ReadVar_is (s : ByteArray) (hs : s.size ≤ 140737488351232) (p : Int) : Ev (fun r => impl_ReadVar.f r s p) (readVar s p) := by
  unfold readVar
  refine evb (impl_in_is _ _ _) ?_
  by_cases h : 0 ≤ p ∧ p ≤ s.size
  · rw [if_pos h]
    obtain ⟨q, rfl⟩ := Int.eq_ofNat_of_zero_le h.1
    exact evp (by simpa using h) (impl_ReadVar_l s hs q (by omega) 5 0 0 (by omega) (by omega))
  · rw [if_neg h]
    exact evn (by simpa using h) (Ev.now _)

/-- The bytes of s from p on, as numbers. -/
def btsN (s : ByteArray) (p k : Nat) : List Nat := (List.range k).map fun j => (bt s ((p + j : Nat) : Int)).toNat
theorem btsN_succ (s : ByteArray) (p k : Nat) : btsN s p (k + 1) = btsN s p k ++ [(bt s ((p + k : Nat) : Int)).toNat] := by simp [btsN, List.range_succ]
theorem btsN_len (s : ByteArray) (p k : Nat) : (btsN s p k).length = k := by simp [btsN]
theorem btsN_extract (s : ByteArray) (p k : Nat) (h : p + k ≤ s.size) : (btsN s p k).map (fun b : Nat => (b : Int)) = bytesOf (s.extract p (p + k)) := by
  induction k with
  | zero => rw [bytesOf_extract]; simp [btsN]
  | succ k ih =>
    rw [btsN_succ, List.map_append, ih (by omega), bytesOf_extract, bytesOf_extract]
    have e1 : p + (k + 1) - p = k + 1 := by omega
    have e2 : p + k - p = k := by omega
    rw [e1, e2]
    have hd := bytesOf_drop s (p + k) (by omega)
    have hl : k < ((bytesOf s).drop p).length := by rw [List.length_drop, bytesOf_length]; omega
    rw [List.take_succ_eq_append_getElem hl]
    congr 1
    have hg : ((bytesOf s).drop p)[k] = bt s ((p + k : Nat) : Int) := by
      rw [List.getElem_drop]
      have hl2 : p + k < (bytesOf s).length := by rw [bytesOf_length]; omega
      have := rd_bytesOf s ((p + k : Nat) : Int)
      rw [← this]
      unfold rd
      have e3 : ((p + k : Nat) : Int).toNat = p + k := rfl
      rw [e3]
      simp [List.getD_eq_getElem?_getD, hl2]
    rw [hg]
    have := bt_lo s ((p + k : Nat) : Int)
    simp only [List.map_cons, List.map_nil]
    congr 1
    omega
theorem spec_ReadVar_l (s : ByteArray) (hs : s.size ≤ 140737488351232) (p : Nat) (hp : p ≤ s.size) (l : Nat) : ∀ (k : Nat), k + l = 5 → p + k ≤ s.size → (∀ b ∈ btsN s p k, 127 < b ∧ b < 256) → Ev (fun r => spec_ReadVar.l0 r s (p : Int) ((varVal (btsN s p k) 0 : Nat) : Int) ((128 ^ k : Nat) : Int) ((p + k : Nat) : Int)) (rvGo s p l k (varVal (btsN s p k) 0)) := by
  induction l with
  | zero =>
    intro k hk hpk hb
    have e0 : wrap64 ((p : Int) + 5) = ((p + 5 : Nat) : Int) := w64a p 5 (by omega)
    refine Ev.step (fun r => by rw [spec_ReadVar.l0]) ?_
    rw [e0]
    have hj : Ev (fun r => spec_ReadVar.j1 r s (p : Int) ((varVal (btsN s p k) 0 : Nat) : Int) ((128 ^ k : Nat) : Int) ((p + k : Nat) : Int) false) (rvGo s p 0 k (varVal (btsN s p k) 0)) := by
      refine Ev.step (fun r => by rw [spec_ReadVar.j1]) ?_
      exact evn (by simp) (evs rfl)
    have hd : decide (((p + k : Nat) : Int) < ((p + 5 : Nat) : Int)) = false := by simp; omega
    rw [hd]
    by_cases h1 : ((p + k : Nat) : Int) < (s.size : Int)
    · exact evp h1 hj
    · exact evn h1 hj
  | succ l ih =>
    intro k hk hpk hb
    have e0 : wrap64 ((p : Int) + 5) = ((p + 5 : Nat) : Int) := w64a p 5 (by omega)
    have HV := Aside0.mk (varVal_lt (btsN s p k))
    rw [btsN_len] at HV
    have HP : Aside0 (128 ^ k ≤ 128 ^ 4) := ⟨Nat.pow_le_pow_right (by omega) (by omega)⟩
    have hd : decide (((p + k : Nat) : Int) < ((p + 5 : Nat) : Int)) = true := by rw [decide_eq_true_eq]; omega
    refine Ev.step (fun r => by rw [spec_ReadVar.l0]) ?_
    rw [e0]
    clear e0
    unfold rvGo
    by_cases h1 : p + k < s.size
    · rw [if_pos h1]
      refine evp (by omega) ?_
      rw [hd]
      clear hd
      refine Ev.step (fun r => by rw [spec_ReadVar.j1]) ?_
      refine evp rfl (evp (by omega) (evp (by omega) ?_))
      obtain ⟨b, hbe, hb2⟩ := bt_nat s ((p + k : Nat) : Int)
      have hk4 : k + 1 ≤ 5 := by omega
      have hmul : 128 ^ k * (b % 128) ≤ 128 ^ 4 * 127 := Nat.mul_le_mul HP.out (by omega)
      have hsum : varVal (btsN s p k) 0 + 128 ^ k * (b % 128) ≤ 9223372036854775807 := by
        have h1 := HV.out
        have h2 := HP.out
        generalize 128 ^ k = m at *
        generalize varVal (btsN s p k) 0 = v at *
        clear hbe hb
        omega
      have hmul2 : 128 ^ k * (b % 128) ≤ 9223372036854775807 := Nat.le_trans (Nat.le_add_left _ _) hsum
      have e2 := w64n b (by omega)
      have e3 : Int.tmod (b : Int) 128 = ((b % 128 : Nat) : Int) := by rw [Int.tmod_eq_emod_of_nonneg (Int.natCast_nonneg b)]; rfl
      have e4 : ((b % 128 : Nat) : Int) * ((128 ^ k : Nat) : Int) = ((128 ^ k * (b % 128) : Nat) : Int) := by rw [Nat.mul_comm, Int.natCast_mul]
      have e5 := w64n (128 ^ k * (b % 128)) hmul2
      have e6 := w64a (varVal (btsN s p k) 0) (128 ^ k * (b % 128)) hsum
      have e7 := w64s (p + k) (by clear hmul hsum hmul2 e2 e3 e4 e5 e6; omega)
      have e8 : wrap64 (((128 ^ k : Nat) : Int) * 128) = ((128 ^ (k + 1) : Nat) : Int) := by
        rw [Nat.pow_succ]
        exact w64m (128 ^ k) 128 (Nat.le_trans (Nat.mul_le_mul_right 128 HP.out) (by decide))
      have e9 : ((b : Nat) : Int).toNat = b := rfl
      simp only [hbe, e2, e3, e4, e5, e6, e7, e8, e9]
      have HX : Aside0 (bytesOf (s.extract p (p + k + 1)) = (btsN s p k).map (fun b : Nat => (b : Int)) ++ [(b : Int)]) := ⟨by
        rw [Nat.add_assoc, ← btsN_extract s p (k + 1) (by clear hmul hsum hmul2 e2 e3 e4 e5 e6 e7 e8; omega), btsN_succ, List.map_append, hbe]; rfl⟩
      have HS : Aside0 (btsN s p (k + 1) = btsN s p k ++ [b]) := ⟨by rw [btsN_succ, hbe]; rfl⟩
      have HVal : Aside0 (varVal (btsN s p k) (b % 128) = varVal (btsN s p k) 0 + 128 ^ k * (b % 128)) := ⟨by have := varVal_add (btsN s p k) (b % 128); rw [btsN_len] at this; exact this⟩
      clear hmul hmul2 e2 e3 e4 e5 e6 e7 e8 e9 HV HP hbe
      by_cases h2 : (b : Int) < 128
      · have e10 : b % 128 = b := by clear hsum; omega
        rw [e10] at HVal hsum
        rw [e10, if_neg (by omega)]
        clear e10
        refine evp h2 ?_
        rw [← HVal.out] at hsum ⊢
        obtain ⟨v, hv⟩ : ∃ v, v = varVal (btsN s p k) b := ⟨_, rfl⟩
        rw [← hv] at hsum ⊢
        have HW := Aside0.mk hv
        clear hv
        by_cases h5 : (v : Int) > 1000000000
        · exact evp h5 (evs (by rw [if_pos (.inr (by omega))]))
        · refine evn h5 (Ev.bind (spec_l01Var_is _ hsum) (evp (by omega) (evp (by omega) (evp (by omega) ?_))))
          have e11 : ((p : Int)).toNat = p := rfl
          have e12 : (((p + k + 1 : Nat) : Int)).toNat = p + k + 1 := rfl
          rw [e11, e12]
          by_cases h6 : b = 0 ∧ k > 0
          · refine evn (fun h => ?_) (evs (by rw [if_pos (.inl ⟨by omega, h6.2⟩)]))
            have h := congrArg bytesOf (tl_inj.1 h)
            rw [bytesOf_vt, HX.out, h6.1] at h
            have h := varNums_last _ _ h
            have h := congrArg List.length h
            rw [List.length_map, btsN_len] at h
            simp at h; omega
          · refine evp ?_ (evs (by rw [if_neg (by omega)]))
            apply tl_inj.2
            apply bytesOf_inj
            rw [bytesOf_vt, HX.out, HW.out]
            refine varNums_val _ _ hb (by omega) (fun h => ?_)
            have : k = 0 := by omega
            subst this
            rfl
      · rw [if_pos (by omega)]
        refine evn h2 ?_
        have hv : varVal (btsN s p (k + 1)) 0 = varVal (btsN s p k) 0 + 128 ^ k * (b % 128) := by rw [HS.out, varVal_snoc, Nat.mul_zero, Nat.add_zero, HVal.out]
        have := ih (k + 1) (by omega) (by omega) (by
          intro c hc
          rw [HS.out] at hc
          rcases List.mem_append.1 hc with h | h
          · exact hb c h
          · simp at h; subst h; omega)
        rw [hv] at this
        exact this
    · rw [if_neg h1]
      refine evn (by omega) (Ev.step (fun r => by rw [spec_ReadVar.j1]) ?_)
      exact evn (by simp) (Ev.now _)
theorem spec_ReadVar_is (s : ByteArray) (hs : s.size ≤ 140737488351232) (p : Int) : Ev (fun r => spec_ReadVar.f r s p) (readVar s p) := by
  unfold readVar
  refine evb (spec_l01In_is _ _ _) ?_
  by_cases h : 0 ≤ p ∧ p ≤ s.size
  · rw [if_pos h]
    obtain ⟨q, rfl⟩ := Int.eq_ofNat_of_zero_le h.1
    have := spec_ReadVar_l s hs q (by omega) 5 0 (by omega) (by omega) (by simp [btsN])
    exact evp (by simpa using h) this
  · rw [if_neg h]
    exact evn (by simpa using h) (Ev.now _)

theorem FnExactReadVar : laws_FnExactReadVar.Pure := by
  intro s p hs hp
  refine Ev.rounds (g := fun k => laws_FnExactReadVar.f k s p) ?_
  simp only [laws_FnExactReadVar.f]
  by_cases h0 : (s.size : Int) > 1048576
  · exact evp h0 (Ev.now _)
  · exact evn h0 (Ev.bind (spec_ReadVar_is s hs p) (Ev.bind (impl_ReadVar_is s hs p) (evp rfl (evp rfl (evn (by simp) (Ev.now _))))))

end Go.Proofs.Ytepjagfbdagkmaa.Pure
