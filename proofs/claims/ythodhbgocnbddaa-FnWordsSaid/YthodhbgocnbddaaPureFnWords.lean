/-
The law FnWords of the given program answers true at every input: the plain statement that is left when the printed walk has stepped through the code.
Conditions: the bounds of the given row (sizes of texts and lists, numbers of their kinds); none of our own.
-/
import Derived.Test.YthodhbgocnbddaaPFnWordsx17
import Derived.Laws.BitsAllLaws
import Derived.Test.YthodhbgocnbddaaDig
namespace Go.Proofs.Ythodhbgocnbddaa.Pure
open Go.RowKit Go.Proofs.Ythodhbgocnbddaa.PFnWords Go.Proofs.YthodhbgocnbddaaW.PrintWords Go.Proofs.YthodhbgocnbddaaW.PrintLast Go.Proofs.YthodhbgocnbddaaW.PrintMore Go.Proofs.Ythodhbgocnbddaa.Sha Go.Proofs.Ythodhbgocnbddaa.Blk Go.Proofs.Ythodhbgocnbddaa.Dig
set_option linter.unusedVariables false

theorem evp {α : Type} {c : Prop} [Decidable c] {f g : Nat → Option α} {r : α} (hc : c) (h : Ev f r) : Ev (fun k => if c then f k else g k) r := Ev.congr (fun _ => if_pos hc) h
theorem evn {α : Type} {c : Prop} [Decidable c] {f g : Nat → Option α} {r : α} (hc : ¬ c) (h : Ev g r) : Ev (fun k => if c then f k else g k) r := Ev.congr (fun _ => if_neg hc) h
theorem evs {α : Type} {x y : α} (h : x = y) : Ev (fun _ => some x) y := by subst h; exact Ev.now _
theorem evc {α : Type} {x : Option α} {y : α} (h : x = some y) : Ev (fun _ => x) y := by subst h; exact Ev.now _
theorem w64 {n : Int} (h1 : -9223372036854775808 ≤ n) (h2 : n ≤ 9223372036854775807) : wrap64 n = n := IntWalk.wrap64_in n ⟨h1, h2⟩
theorem w64n (n : Nat) (h : n ≤ 9223372036854775807) : wrap64 (n : Int) = (n : Int) := w64 (by omega) (by omega)
theorem w64s (n : Nat) (h : n + 1 ≤ 9223372036854775807) : wrap64 ((n : Int) + 1) = ((n + 1 : Nat) : Int) := by rw [w64 (by omega) (by omega)]; rfl
theorem w64a (a b : Nat) (h : a + b ≤ 9223372036854775807) : wrap64 ((a : Int) + (b : Int)) = ((a + b : Nat) : Int) := by rw [w64 (by omega) (by omega)]; rfl
theorem w64m (a b : Nat) (h : a * b ≤ 9223372036854775807) : wrap64 ((a : Int) * (b : Int)) = ((a * b : Nat) : Int) := by
  have e : ((a * b : Nat) : Int) = (a : Int) * (b : Int) := Int.natCast_mul a b
  rw [w64 (by omega) (by omega), e]
theorem wf64 {n : Int} (h : (Lit.int .i64 n).wf = true) : -9223372036854775808 ≤ n ∧ n ≤ 9223372036854775807 := by
  simp [Lit.wf, IntKind.min, IntKind.max, IntKind.bits, IntKind.signed] at h
  omega
theorem bt_lo (s : ByteArray) (i : Int) : 0 ≤ bt s i := (bt_range s i).1
theorem bt_hi (s : ByteArray) (i : Int) : bt s i ≤ 255 := (bt_range s i).2
theorem wfu32 {n : Int} (h : (Lit.int .u32 n).wf = true) : 0 ≤ n ∧ n < 4294967296 := by
  simp [Lit.wf, IntKind.min, IntKind.max, IntKind.bits, IntKind.signed] at h
  omega
theorem evb {α β : Type} {x : Option α} {f : Nat → α → Option β} {a : α} {r : β} (h : x = some a) (k : Ev (fun n => f n a) r) : Ev (fun n => x.bind (f n)) r := Ev.bind (g := fun _ => x) (evc h) k
theorem i64_nat (a b : Nat) (ha : a < 9223372036854775808) (hb : b < 9223372036854775808) : Go.bits .and .i64 (a : Int) (b : Int) = ((a &&& b : Nat) : Int) ∧ Go.bits .or .i64 (a : Int) (b : Int) = ((a ||| b : Nat) : Int) :=
  bits_nat .i64 63 (by decide) (fun m h0 h1 => by rw [IntKind.wrap_i64]; omega) a b ha hb

theorem evo {α : Type} {g : Nat → Option α} {r : α} (h : ∀ m, g (m + 1) = some r) : Ev g r := ⟨1, fun k hk => by obtain ⟨m, rfl⟩ : ∃ m, k = m + 1 := ⟨k - 1, by omega⟩; exact h m⟩

theorem tl_inj {a b : ByteArray} : a.toList = b.toList ↔ a = b := by
  rw [ByteArray.toList_eq, ByteArray.toList_eq]
  exact ⟨fun h => ByteArray.ext (Array.toList_inj.mp h), fun h => by rw [h]⟩
theorem son_bytesOf (s : ByteArray) : strOfNums (bytesOf s) = s := by
  apply tl_inj.1
  rw [ByteArray.toList_eq, ByteArray.toList_eq, strOfNums_data, bytesOf, List.map_map]
  have : ((fun n : Int => UInt8.ofNat n.toNat) ∘ fun b : UInt8 => (b.toNat : Int)) = id := by
    funext b; simp
  rw [this, List.map_id]
theorem bytesOf_son (l : List Int) (h : ∀ b ∈ l, 0 ≤ b ∧ b ≤ 255) : bytesOf (strOfNums l) = l := by
  rw [bytesOf, strOfNums_data, List.map_map]
  have : l.map ((fun b : UInt8 => (b.toNat : Int)) ∘ fun n : Int => UInt8.ofNat n.toNat) = l.map id := by
    apply List.map_congr_left
    intro b hb
    have := h b hb
    simp only [Function.comp, id, UInt8.toNat_ofNat']
    omega
  rw [this, List.map_id]
theorem bytesOf_inj {a b : ByteArray} (h : bytesOf a = bytesOf b) : a = b := by rw [← son_bytesOf a, ← son_bytesOf b, h]
theorem bytesOf_extract (s : ByteArray) (a b : Nat) : bytesOf (s.extract a b) = ((bytesOf s).drop a).take (b - a) := by
  unfold bytesOf
  rw [ByteArray.data_extract]
  simp [List.map_take, List.map_drop, List.extract]
theorem bytesOf_append (a b : ByteArray) : bytesOf (a ++ b) = bytesOf a ++ bytesOf b := by
  unfold bytesOf
  rw [ByteArray.data_append]
  simp
theorem bytesOf_range (s : ByteArray) : ∀ b ∈ bytesOf s, 0 ≤ b ∧ b ≤ 255 := by
  intro b hb
  unfold bytesOf at hb
  obtain ⟨c, _, rfl⟩ := List.mem_map.1 hb
  have := c.toNat_lt
  omega
theorem bytesOf_drop (s : ByteArray) (i : Nat) (h : i < s.size) : (bytesOf s).drop i = bt s (i : Int) :: (bytesOf s).drop (i + 1) := by
  have hl : i < (bytesOf s).length := by rw [bytesOf_length]; exact h
  rw [List.drop_eq_getElem_cons hl]
  congr 1
  have := rd_bytesOf s (i : Int)
  rw [← this]
  unfold rd
  simp [List.getD_eq_getElem?_getD, hl]
theorem bt_nat (s : ByteArray) (i : Int) : ∃ n : Nat, bt s i = (n : Int) ∧ n < 256 := by
  have h := bt_range s i
  exact ⟨(bt s i).toNat, by omega, by omega⟩

theorem rd_nat (l : List Int) (i : Nat) (h : i < l.length) : rd l (i : Int) = l[i] := by
  unfold rd
  rw [Int.toNat_natCast, List.getD_eq_getElem?_getD, List.getElem?_eq_getElem h]
  rfl

theorem spec_l01In_is (x a b : Int) : spec_l01In.f x a b = some (decide (a ≤ x ∧ x ≤ b)) := by
  unfold spec_l01In.f
  by_cases h : x ≥ a
  · rw [if_pos h]; congr 1; rw [decide_eq_decide]; exact ⟨fun h2 => ⟨h, h2⟩, fun h2 => h2.2⟩
  · rw [if_neg h]; congr 1; symm; rw [decide_eq_false_iff_not]; exact fun h2 => h h2.1

theorem impl_in_is (x a b : Int) : impl_in.f x a b = some (decide (a ≤ x ∧ x ≤ b)) := by
  unfold impl_in.f
  by_cases h : x ≥ a
  · rw [if_pos h]; congr 1; rw [decide_eq_decide]; exact ⟨fun h2 => ⟨h, h2⟩, fun h2 => h2.2⟩
  · rw [if_neg h]; congr 1; symm; rw [decide_eq_false_iff_not]; exact fun h2 => h h2.1

def varNums (n : Nat) : List Int := if n > 127 then ((n % 128 + 128 : Nat) : Int) :: varNums (n / 128) else [(n : Int)]
termination_by n
decreasing_by omega
theorem varNums_small {n : Nat} (h : ¬ n > 127) : varNums n = [(n : Int)] := by rw [varNums, if_neg h]
theorem varNums_big {n : Nat} (h : n > 127) : varNums n = ((n % 128 + 128 : Nat) : Int) :: varNums (n / 128) := by rw [varNums, if_pos h]
theorem varNums_len (d : Nat) : ∀ n : Nat, n < 128 ^ d → 0 < d → (varNums n).length ≤ d := by
  induction d with
  | zero => intro n h h0; omega
  | succ d ih =>
    intro n h _
    by_cases hb : n > 127
    · rw [varNums_big hb]
      have hd : 0 < d := by
        rcases Nat.eq_zero_or_pos d with h0 | h0
        · subst h0; simp at h; omega
        · exact h0
      have := ih (n / 128) (by rw [Nat.pow_succ] at h; omega) hd
      simp; omega
    · rw [varNums_small hb]; simp
def vt (n : Nat) : ByteArray := strOfNums (varNums n)

/-- The number whose bytes are bs (all above 127 but the last). -/
def varVal : List Nat → Nat → Nat
  | [], x => x
  | b :: bs, x => b % 128 + 128 * varVal bs x
theorem varVal_pos : ∀ (bs : List Nat) (x : Nat), 0 < x → 0 < varVal bs x
  | [], x, h => h
  | b :: bs, x, h => by have := varVal_pos bs x h; unfold varVal; omega
theorem varNums_val : ∀ (bs : List Nat) (x : Nat), (∀ b ∈ bs, 127 < b ∧ b < 256) → x < 128 → (x = 0 → bs = []) → varNums (varVal bs x) = bs.map (fun b : Nat => (b : Int)) ++ [(x : Int)]
  | [], x, _, hx, _ => by unfold varVal; rw [varNums_small (by omega)]; rfl
  | b :: bs, x, hb, hx, h0 => by
    have hb0 := hb b (by simp)
    have hx0 : 0 < x := by
      rcases Nat.eq_zero_or_pos x with h | h
      · exact absurd (h0 h) (by simp)
      · exact h
    have hp := varVal_pos bs x hx0
    have ih := varNums_val bs x (fun c hc => hb c (by simp [hc])) hx (fun h => by omega)
    unfold varVal
    rw [varNums_big (by omega)]
    have e1 : (b % 128 + 128 * varVal bs x) % 128 + 128 = b := by omega
    have e2 : (b % 128 + 128 * varVal bs x) / 128 = varVal bs x := by omega
    rw [e1, e2, ih]; rfl
theorem varNums_ne (n : Nat) : varNums n ≠ [] := by
  by_cases h : n > 127
  · rw [varNums_big h]; simp
  · rw [varNums_small h]; simp
theorem varNums_last (n : Nat) : ∀ (l : List Int), varNums n = l ++ [0] → l = [] := by
  induction n using Nat.strongRecOn with
  | _ n ih =>
    intro l h
    by_cases hb : n > 127
    · rw [varNums_big hb] at h
      cases l with
      | nil => simp at h; exact absurd h.2 (varNums_ne _)
      | cons c l =>
        simp at h
        have := ih (n / 128) (by omega) l h.2
        subst this
        have h2 := h.2
        by_cases hb2 : n / 128 > 127
        · rw [varNums_big hb2] at h2
          simp at h2
          exact absurd h2.2 (varNums_ne _)
        · rw [varNums_small hb2] at h2
          simp at h2
          omega
    · rw [varNums_small hb] at h
      cases l with
      | nil => rfl
      | cons c l => simp at h
theorem varNums_range (n : Nat) : ∀ b ∈ varNums n, 0 ≤ b ∧ b ≤ 255 := by
  induction n using Nat.strongRecOn with
  | _ n ih =>
    by_cases hb : n > 127
    · rw [varNums_big hb]
      intro b hm
      rcases List.mem_cons.1 hm with h | h
      · subst h; omega
      · exact ih (n / 128) (by omega) b h
    · rw [varNums_small hb]
      intro b hm
      simp at hm; subst hm; omega
theorem bytesOf_vt (n : Nat) : bytesOf (vt n) = varNums n := bytesOf_son _ (varNums_range n)
theorem varVal_snoc : ∀ (bs : List Nat) (b x : Nat), varVal (bs ++ [b]) x = varVal bs (b % 128 + 128 * x)
  | [], b, x => rfl
  | c :: bs, b, x => by simp [varVal, varVal_snoc bs b x]
theorem varVal_add : ∀ (bs : List Nat) (x : Nat), varVal bs x = varVal bs 0 + 128 ^ bs.length * x
  | [], x => by simp [varVal]
  | c :: bs, x => by simp only [varVal, varVal_add bs x, List.length_cons, Nat.pow_succ, Nat.mul_add, Nat.mul_comm, Nat.mul_left_comm]; omega
theorem varVal_lt : ∀ (bs : List Nat), varVal bs 0 < 128 ^ bs.length
  | [] => by simp [varVal]
  | c :: bs => by have := varVal_lt bs; simp only [varVal, List.length_cons, Nat.pow_succ]; omega
/-- What stands in s from place p on, k bytes (all above 127, with the sum n) having been read; l more may be. -/
def rvGo (s : ByteArray) (p : Nat) : Nat → Nat → Nat → Int × Int × Bool
  | 0, _, _ => (0, 0, false)
  | l + 1, k, n => if p + k < s.size then
      (if bt s ((p + k : Nat) : Int) > 127 then rvGo s p l (k + 1) (n + 128 ^ k * ((bt s ((p + k : Nat) : Int)).toNat % 128))
       else if (bt s ((p + k : Nat) : Int) = 0 ∧ k > 0) ∨ n + 128 ^ k * (bt s ((p + k : Nat) : Int)).toNat > 1000000000 then (0, 0, false)
       else (((n + 128 ^ k * (bt s ((p + k : Nat) : Int)).toNat : Nat) : Int), ((p + k + 1 : Nat) : Int), true))
    else (0, 0, false)
def readVar (s : ByteArray) (at_ : Int) : Int × Int × Bool := if 0 ≤ at_ ∧ at_ ≤ s.size then rvGo s at_.toNat 5 0 0 else (0, 0, false)

theorem spec_l01Var_l (d : Nat) : ∀ (n : Nat) (acc : List Int), n < 128 ^ d → n ≤ 9223372036854775807 → acc.length + d < 140737488355328 → Ev (fun k => spec_l01Var.l0 k (n : Int) acc) (strOfNums (acc ++ varNums n)) := by
  induction d with
  | zero =>
    intro n acc h h2 h3
    obtain rfl : n = 0 := by simp at h; omega
    refine Ev.step (fun k => by rw [spec_l01Var.l0]) (evn (by simp) (evp (by omega) (evs ?_)))
    rw [varNums_small (by omega)]; rfl
  | succ d ih =>
    intro n acc h h2 h3
    by_cases hb : n > 127
    · refine Ev.step (fun k => by rw [spec_l01Var.l0]) (evp (by omega) (evp (by omega) ?_))
      have e1 : wrap64 (Int.tdiv (n : Int) 128) = ((n / 128 : Nat) : Int) := by rw [Int.tdiv_eq_ediv_of_nonneg (by omega), w64 (by omega) (by omega)]; rfl
      have e2 : (wrap64 ((Int.tmod (n : Int) 128) + 128)) % 256 = ((n % 128 + 128 : Nat) : Int) := by rw [Int.tmod_eq_emod_of_nonneg (by omega), w64 (by omega) (by omega)]; omega
      rw [e1, e2, varNums_big hb]
      have := ih (n / 128) (acc ++ [((n % 128 + 128 : Nat) : Int)]) (by rw [Nat.pow_succ] at h; omega) (by omega) (by simp; omega)
      rw [List.append_assoc] at this
      exact this
    · refine Ev.step (fun k => by rw [spec_l01Var.l0]) (evn (by omega) (evp (by omega) (evs ?_)))
      rw [varNums_small hb, Int.emod_eq_of_lt (by omega) (by omega)]
theorem spec_l01Var_is (n : Nat) (h : n ≤ 9223372036854775807) : Ev (fun k => spec_l01Var.f k (n : Int)) (vt n) := by
  have := spec_l01Var_l 9 n [] (by omega) h (by simp)
  simpa [spec_l01Var.f, vt] using this

theorem i64_and127 (n : Nat) (h : n ≤ 9223372036854775807) : Go.bits .and .i64 (n : Int) 127 = ((n % 128 : Nat) : Int) := by
  have := (i64_nat n 127 (by omega) (by omega)).1
  rw [nat_mask7] at this
  exact this

theorem i64_or128 (x : Nat) (h : x < 128) : Go.bits .or .i64 (x : Int) 128 = ((x + 128 : Nat) : Int) := by
  have := (i64_nat x 128 (by omega) (by omega)).2
  rw [Nat.or_comm, nat_join 7 128 x (by decide) (by omega), Nat.add_comm] at this
  exact this
theorem impl_varText_l (d : Nat) : ∀ (n : Nat) (acc : List Int), n < 128 ^ d → n ≤ 9223372036854775807 → acc.length + d < 140737488355328 → Ev (fun k => impl_varText.l0 k (n : Int) acc) (strOfNums (acc ++ varNums n)) := by
  induction d with
  | zero =>
    intro n acc h h2 h3
    obtain rfl : n = 0 := by simp at h; omega
    refine Ev.step (fun k => by rw [impl_varText.l0]) (evn (by simp) (evp (by omega) (evs ?_)))
    rw [varNums_small (by omega)]; rfl
  | succ d ih =>
    intro n acc h h2 h3
    by_cases hb : n > 127
    · refine Ev.step (fun k => by rw [impl_varText.l0]) (evp (by omega) (evp (by omega) ?_))
      have e1 : (n : Int) / 128 = ((n / 128 : Nat) : Int) := rfl
      have e2 : (Go.bits .or .i64 (Go.bits .and .i64 (n : Int) 127) 128) % 256 = ((n % 128 + 128 : Nat) : Int) := by rw [i64_and127 n h2, i64_or128 _ (by omega)]; omega
      rw [e1, e2, varNums_big hb]
      have := ih (n / 128) (acc ++ [((n % 128 + 128 : Nat) : Int)]) (by rw [Nat.pow_succ] at h; omega) (by omega) (by simp; omega)
      rw [List.append_assoc] at this
      exact this
    · refine Ev.step (fun k => by rw [impl_varText.l0]) (evn (by omega) (evp (by omega) (evs ?_)))
      rw [varNums_small hb, Int.emod_eq_of_lt (by omega) (by omega)]
theorem impl_varText_is (n : Nat) (h : n ≤ 9223372036854775807) : Ev (fun k => impl_varText.f k (n : Int)) (vt n) := by
  have := impl_varText_l 9 n [] (by omega) h (by simp)
  simpa [impl_varText.f, vt] using this

theorem shl_i64 (a m : Nat) (hm : m ≤ 64) (h : a * 2 ^ m < 9223372036854775808) : shl .i64 (a : Int) (m : Int) = ((a * 2 ^ m : Nat) : Int) := by
  have e : (((m : Int)).toNat) = m := rfl
  have e2 : min m IntKind.i64.bits = m := Nat.min_eq_left hm
  unfold shl
  rw [e, e2]
  have e3 : (a : Int) * 2 ^ m = ((a * 2 ^ m : Nat) : Int) := by simp
  rw [e3, IntKind.wrap_i64]
  omega
theorem rv_or (n x k : Nat) (hn : n < 128 ^ k) (hx : x < 128) (hk : k < 5) : Go.bits .or .i64 (n : Int) (shl .i64 (x : Int) ((7 * k : Nat) : Int)) = ((n + 128 ^ k * x : Nat) : Int) := by
  have e0 : (2 : Nat) ^ (7 * k) = 128 ^ k := by rw [Nat.pow_mul]
  have hp : 128 ^ k ≤ 128 ^ 4 := Nat.pow_le_pow_right (by omega) (by omega)
  have hmul : x * 128 ^ k ≤ 127 * 128 ^ 4 := Nat.mul_le_mul (by omega) hp
  rw [shl_i64 x (7 * k) (by omega) (by rw [e0]; omega), e0, (i64_nat n (x * 128 ^ k) (by omega) (by omega)).2]
  rw [Nat.or_comm, nat_join (7 * k) (x * 128 ^ k) n (by rw [e0]; exact Nat.mul_mod_left _ _) (by rw [e0]; exact hn), Nat.add_comm, Nat.mul_comm]
theorem impl_ReadVar_l (s : ByteArray) (hs : s.size ≤ 140737488351232) (p : Nat) (hp : p ≤ s.size) (l : Nat) : ∀ (k n : Nat), k + l = 5 → n < 128 ^ k → Ev (fun r => impl_ReadVar.l0 r s (p : Int) (n : Int) (k : Int)) (rvGo s p l k n) := by
  induction l with
  | zero =>
    intro k n hk hn
    refine Ev.step (fun r => by rw [impl_ReadVar.l0]) ?_
    refine evn (by omega) (Ev.step (fun r => by rw [impl_ReadVar.j1]) ?_)
    exact evn (by simp) (evs rfl)
  | succ l ih =>
    intro k n hk hn
    have HN := Aside0.mk hn
    clear hn
    have hk5 : k < 5 := by omega
    have e0 := w64a p k (by omega)
    refine Ev.step (fun r => by rw [impl_ReadVar.l0]) ?_
    refine evp (by omega) (Ev.step (fun r => by rw [impl_ReadVar.j1]) ?_)
    rw [e0]
    unfold rvGo
    by_cases h1 : p + k < s.size
    · rw [if_pos h1]
      refine evp (by rw [decide_eq_true_eq]; omega) (evp (by omega) (evp (by omega) ?_))
      obtain ⟨b, hb, hb2⟩ := bt_nat s ((p + k : Nat) : Int)
      have e1 : wrap64 (7 * (k : Int)) = ((7 * k : Nat) : Int) := w64m 7 k (by omega)
      have e2 := w64n b (by omega)
      have e3 := i64_and127 b (Nat.le_trans (Nat.le_of_lt hb2) (by decide))
      have e4 := Aside0.mk (rv_or n (b % 128) k HN.out (Nat.mod_lt _ (by decide)) hk5)
      have e5 := w64s k (by omega)
      have e6 := w64s (p + k) (by omega)
      have e7 : ((b : Nat) : Int).toNat = b := rfl
      simp only [hb, e1, e2, e3, e4.out, e5, e6, e7]
      clear e0 e1 e2 e3 e4 e5 e6 e7
      generalize hm : 128 ^ k = m at *
      have HM := Aside0.mk hm
      clear hm
      refine evp (by omega) ?_
      by_cases h2 : (b : Int) > 127
      · rw [if_pos h2]
        refine evp h2 (ih (k + 1) _ (by omega) ?_)
        rw [Nat.pow_succ, HM.out]
        have h3 : m * (b % 128) ≤ m * 127 := Nat.mul_le_mul_left _ (by omega)
        have h4 := HN.out
        omega
      · rw [if_neg h2]
        have e8 : b % 128 = b := by omega
        rw [e8]
        refine evn h2 ?_
        by_cases h3 : (b : Int) = 0
        · refine evp h3 ?_
          by_cases h4 : (k : Int) > 0
          · exact evp h4 (evs (by rw [if_pos (.inl ⟨h3, by omega⟩)]))
          · refine evn h4 ?_
            by_cases h5 : ((n + m * b : Nat) : Int) > 1000000000
            · exact evp h5 (evs (by rw [if_pos (.inr (by omega))]))
            · exact evn h5 (evs (by rw [if_neg (by omega)]))
        · refine evn h3 ?_
          by_cases h5 : ((n + m * b : Nat) : Int) > 1000000000
          · exact evp h5 (evs (by rw [if_pos (.inr (by omega))]))
          · exact evn h5 (evs (by rw [if_neg (by omega)]))
    · rw [if_neg h1]
      exact evn (by rw [decide_eq_true_eq]; omega) (Ev.now _)
theorem impl_ReadVar_is (s : ByteArray) (hs : s.size ≤ 140737488351232) (p : Int) : Ev (fun r => impl_ReadVar.f r s p) (readVar s p) := by
  unfold readVar
  refine evb (impl_in_is _ _ _) ?_
  by_cases h : 0 ≤ p ∧ p ≤ s.size
  · rw [if_pos h]
    obtain ⟨q, rfl⟩ := Int.eq_ofNat_of_zero_le h.1
    exact evp (by simpa using h) (impl_ReadVar_l s hs q (by omega) 5 0 0 (by omega) (by omega))
  · rw [if_neg h]
    exact evn (by simpa using h) (Ev.now _)

/-- The bytes of s from p on, as numbers. -/
def btsN (s : ByteArray) (p k : Nat) : List Nat := (List.range k).map fun j => (bt s ((p + j : Nat) : Int)).toNat
theorem btsN_succ (s : ByteArray) (p k : Nat) : btsN s p (k + 1) = btsN s p k ++ [(bt s ((p + k : Nat) : Int)).toNat] := by simp [btsN, List.range_succ]
theorem btsN_len (s : ByteArray) (p k : Nat) : (btsN s p k).length = k := by simp [btsN]
theorem btsN_extract (s : ByteArray) (p k : Nat) (h : p + k ≤ s.size) : (btsN s p k).map (fun b : Nat => (b : Int)) = bytesOf (s.extract p (p + k)) := by
  induction k with
  | zero => rw [bytesOf_extract]; simp [btsN]
  | succ k ih =>
    rw [btsN_succ, List.map_append, ih (by omega), bytesOf_extract, bytesOf_extract]
    have e1 : p + (k + 1) - p = k + 1 := by omega
    have e2 : p + k - p = k := by omega
    rw [e1, e2]
    have hd := bytesOf_drop s (p + k) (by omega)
    have hl : k < ((bytesOf s).drop p).length := by rw [List.length_drop, bytesOf_length]; omega
    rw [List.take_succ_eq_append_getElem hl]
    congr 1
    have hg : ((bytesOf s).drop p)[k] = bt s ((p + k : Nat) : Int) := by
      rw [List.getElem_drop]
      have hl2 : p + k < (bytesOf s).length := by rw [bytesOf_length]; omega
      have := rd_bytesOf s ((p + k : Nat) : Int)
      rw [← this]
      unfold rd
      have e3 : ((p + k : Nat) : Int).toNat = p + k := rfl
      rw [e3]
      simp [List.getD_eq_getElem?_getD, hl2]
    rw [hg]
    have := bt_lo s ((p + k : Nat) : Int)
    simp only [List.map_cons, List.map_nil]
    congr 1
    omega
theorem spec_ReadVar_l (s : ByteArray) (hs : s.size ≤ 140737488351232) (p : Nat) (hp : p ≤ s.size) (l : Nat) : ∀ (k : Nat), k + l = 5 → p + k ≤ s.size → (∀ b ∈ btsN s p k, 127 < b ∧ b < 256) → Ev (fun r => spec_ReadVar.l0 r s (p : Int) ((varVal (btsN s p k) 0 : Nat) : Int) ((128 ^ k : Nat) : Int) ((p + k : Nat) : Int)) (rvGo s p l k (varVal (btsN s p k) 0)) := by
  induction l with
  | zero =>
    intro k hk hpk hb
    have e0 : wrap64 ((p : Int) + 5) = ((p + 5 : Nat) : Int) := w64a p 5 (by omega)
    refine Ev.step (fun r => by rw [spec_ReadVar.l0]) ?_
    rw [e0]
    have hj : Ev (fun r => spec_ReadVar.j1 r s (p : Int) ((varVal (btsN s p k) 0 : Nat) : Int) ((128 ^ k : Nat) : Int) ((p + k : Nat) : Int) false) (rvGo s p 0 k (varVal (btsN s p k) 0)) := by
      refine Ev.step (fun r => by rw [spec_ReadVar.j1]) ?_
      exact evn (by simp) (evs rfl)
    have hd : decide (((p + k : Nat) : Int) < ((p + 5 : Nat) : Int)) = false := by simp; omega
    rw [hd]
    by_cases h1 : ((p + k : Nat) : Int) < (s.size : Int)
    · exact evp h1 hj
    · exact evn h1 hj
  | succ l ih =>
    intro k hk hpk hb
    have e0 : wrap64 ((p : Int) + 5) = ((p + 5 : Nat) : Int) := w64a p 5 (by omega)
    have HV := Aside0.mk (varVal_lt (btsN s p k))
    rw [btsN_len] at HV
    have HP : Aside0 (128 ^ k ≤ 128 ^ 4) := ⟨Nat.pow_le_pow_right (by omega) (by omega)⟩
    have hd : decide (((p + k : Nat) : Int) < ((p + 5 : Nat) : Int)) = true := by rw [decide_eq_true_eq]; omega
    refine Ev.step (fun r => by rw [spec_ReadVar.l0]) ?_
    rw [e0]
    clear e0
    unfold rvGo
    by_cases h1 : p + k < s.size
    · rw [if_pos h1]
      refine evp (by omega) ?_
      rw [hd]
      clear hd
      refine Ev.step (fun r => by rw [spec_ReadVar.j1]) ?_
      refine evp rfl (evp (by omega) (evp (by omega) ?_))
      obtain ⟨b, hbe, hb2⟩ := bt_nat s ((p + k : Nat) : Int)
      have hk4 : k + 1 ≤ 5 := by omega
      have hmul : 128 ^ k * (b % 128) ≤ 128 ^ 4 * 127 := Nat.mul_le_mul HP.out (by omega)
      have hsum : varVal (btsN s p k) 0 + 128 ^ k * (b % 128) ≤ 9223372036854775807 := by
        have h1 := HV.out
        have h2 := HP.out
        generalize 128 ^ k = m at *
        generalize varVal (btsN s p k) 0 = v at *
        clear hbe hb
        omega
      have hmul2 : 128 ^ k * (b % 128) ≤ 9223372036854775807 := Nat.le_trans (Nat.le_add_left _ _) hsum
      have e2 := w64n b (by omega)
      have e3 : Int.tmod (b : Int) 128 = ((b % 128 : Nat) : Int) := by rw [Int.tmod_eq_emod_of_nonneg (Int.natCast_nonneg b)]; rfl
      have e4 : ((b % 128 : Nat) : Int) * ((128 ^ k : Nat) : Int) = ((128 ^ k * (b % 128) : Nat) : Int) := by rw [Nat.mul_comm, Int.natCast_mul]
      have e5 := w64n (128 ^ k * (b % 128)) hmul2
      have e6 := w64a (varVal (btsN s p k) 0) (128 ^ k * (b % 128)) hsum
      have e7 := w64s (p + k) (by clear hmul hsum hmul2 e2 e3 e4 e5 e6; omega)
      have e8 : wrap64 (((128 ^ k : Nat) : Int) * 128) = ((128 ^ (k + 1) : Nat) : Int) := by
        rw [Nat.pow_succ]
        exact w64m (128 ^ k) 128 (Nat.le_trans (Nat.mul_le_mul_right 128 HP.out) (by decide))
      have e9 : ((b : Nat) : Int).toNat = b := rfl
      simp only [hbe, e2, e3, e4, e5, e6, e7, e8, e9]
      have HX : Aside0 (bytesOf (s.extract p (p + k + 1)) = (btsN s p k).map (fun b : Nat => (b : Int)) ++ [(b : Int)]) := ⟨by
        rw [Nat.add_assoc, ← btsN_extract s p (k + 1) (by clear hmul hsum hmul2 e2 e3 e4 e5 e6 e7 e8; omega), btsN_succ, List.map_append, hbe]; rfl⟩
      have HS : Aside0 (btsN s p (k + 1) = btsN s p k ++ [b]) := ⟨by rw [btsN_succ, hbe]; rfl⟩
      have HVal : Aside0 (varVal (btsN s p k) (b % 128) = varVal (btsN s p k) 0 + 128 ^ k * (b % 128)) := ⟨by have := varVal_add (btsN s p k) (b % 128); rw [btsN_len] at this; exact this⟩
      clear hmul hmul2 e2 e3 e4 e5 e6 e7 e8 e9 HV HP hbe
      by_cases h2 : (b : Int) < 128
      · have e10 : b % 128 = b := by clear hsum; omega
        rw [e10] at HVal hsum
        rw [e10, if_neg (by omega)]
        clear e10
        refine evp h2 ?_
        rw [← HVal.out] at hsum ⊢
        obtain ⟨v, hv⟩ : ∃ v, v = varVal (btsN s p k) b := ⟨_, rfl⟩
        rw [← hv] at hsum ⊢
        have HW := Aside0.mk hv
        clear hv
        by_cases h5 : (v : Int) > 1000000000
        · exact evp h5 (evs (by rw [if_pos (.inr (by omega))]))
        · refine evn h5 (Ev.bind (spec_l01Var_is _ hsum) (evp (by omega) (evp (by omega) (evp (by omega) ?_))))
          have e11 : ((p : Int)).toNat = p := rfl
          have e12 : (((p + k + 1 : Nat) : Int)).toNat = p + k + 1 := rfl
          rw [e11, e12]
          by_cases h6 : b = 0 ∧ k > 0
          · refine evn (fun h => ?_) (evs (by rw [if_pos (.inl ⟨by omega, h6.2⟩)]))
            have h := congrArg bytesOf (tl_inj.1 h)
            rw [bytesOf_vt, HX.out, h6.1] at h
            have h := varNums_last _ _ h
            have h := congrArg List.length h
            rw [List.length_map, btsN_len] at h
            simp at h; omega
          · refine evp ?_ (evs (by rw [if_neg (by omega)]))
            apply tl_inj.2
            apply bytesOf_inj
            rw [bytesOf_vt, HX.out, HW.out]
            refine varNums_val _ _ hb (by omega) (fun h => ?_)
            have : k = 0 := by omega
            subst this
            rfl
      · rw [if_pos (by omega)]
        refine evn h2 ?_
        have hv : varVal (btsN s p (k + 1)) 0 = varVal (btsN s p k) 0 + 128 ^ k * (b % 128) := by rw [HS.out, varVal_snoc, Nat.mul_zero, Nat.add_zero, HVal.out]
        have := ih (k + 1) (by omega) (by omega) (by
          intro c hc
          rw [HS.out] at hc
          rcases List.mem_append.1 hc with h | h
          · exact hb c h
          · simp at h; subst h; omega)
        rw [hv] at this
        exact this
    · rw [if_neg h1]
      refine evn (by omega) (Ev.step (fun r => by rw [spec_ReadVar.j1]) ?_)
      exact evn (by simp) (Ev.now _)
theorem spec_ReadVar_is (s : ByteArray) (hs : s.size ≤ 140737488351232) (p : Int) : Ev (fun r => spec_ReadVar.f r s p) (readVar s p) := by
  unfold readVar
  refine evb (spec_l01In_is _ _ _) ?_
  by_cases h : 0 ≤ p ∧ p ≤ s.size
  · rw [if_pos h]
    obtain ⟨q, rfl⟩ := Int.eq_ofNat_of_zero_le h.1
    have := spec_ReadVar_l s hs q (by omega) 5 0 (by omega) (by omega) (by simp [btsN])
    exact evp (by simpa using h) this
  · rw [if_neg h]
    exact evn (by simpa using h) (Ev.now _)

def roleB (w n : Int) : Bool := decide (0 ≤ w ∧ w ≤ 5) && decide (0 ≤ n ∧ n ≤ 3)
theorem spec_RoleOk_is (w n : Int) : spec_RoleOk.f w n = some (roleB w n) := by
  simp only [spec_RoleOk.f, spec_l01In_is, Option.bind_some, roleB]
  cases decide (0 ≤ w ∧ w ≤ 5) <;> rfl
theorem impl_RoleOk_is (w n : Int) : impl_RoleOk.f w n = some (roleB w n) := by
  simp only [impl_RoleOk.f, impl_in_is, Option.bind_some, roleB]
  cases decide (0 ≤ w ∧ w ≤ 5) <;> rfl

def credB (k o n w aw an bw bn u z : Int) : Bool :=
  roleB o n && decide (1 ≤ u ∧ u ≤ 9999) && decide (0 ≤ z ∧ z ≤ 99) &&
    (if k = 1 then decide (0 ≤ w ∧ w ≤ 5) && (aw == 0 && an == 0) && (bw == 0 && bn == 0)
     else if k = 2 then decide (w = 0) && roleB aw an && (bw == 0 && bn == 0)
     else if k = 3 then decide (w = 0) && roleB aw an && roleB bw bn && (bw == 0)
     else if k = 4 then decide (w = 0) && roleB aw an && roleB bw bn
     else false)
theorem ifb {α : Type} {b : Bool} {x y : α} : (if b = true then x else y) = (match b with | true => x | false => y) := by cases b <;> rfl
theorem spec_CredOk_is (m : Nat) (k o n w aw an bw bn u z : Int) : spec_CredOk.f (m + 1) k o n w aw an bw bn u z = some (credB k o n w aw an bw bn u z) := by
  simp only [spec_CredOk.f, spec_CredOk.j0, spec_RoleOk_is, spec_l01In_is, Option.bind_some, credB]
  cases roleB o n
  · rfl
  cases decide (1 ≤ u ∧ u ≤ 9999)
  · rfl
  cases decide (0 ≤ z ∧ z ≤ 99)
  · rfl
  simp only [if_true, Bool.not_true, Bool.true_and]
  rw [if_neg (by decide)]
  by_cases h1 : k = 1
  · rw [if_pos h1, if_pos h1]
    cases decide (0 ≤ w ∧ w ≤ 5)
    · rfl
    cases (aw == 0 && an == 0)
    · rfl
    rfl
  rw [if_neg h1, if_neg h1]
  by_cases h2 : k = 2
  · rw [if_pos h2, if_pos h2]
    by_cases h : w = 0
    · rw [if_pos h, decide_eq_true h]
      cases roleB aw an <;> rfl
    · rw [if_neg h, decide_eq_false h]; rfl
  rw [if_neg h2, if_neg h2]
  by_cases h3 : k = 3
  · rw [if_pos h3, if_pos h3]
    by_cases h : w = 0
    · rw [if_pos h, decide_eq_true h]
      cases roleB aw an
      · rfl
      cases roleB bw bn <;> rfl
    · rw [if_neg h, decide_eq_false h]; rfl
  rw [if_neg h3, if_neg h3]
  by_cases h4 : k = 4
  · rw [if_pos h4, if_pos h4]
    by_cases h : w = 0
    · rw [if_pos h, decide_eq_true h]
      cases roleB aw an <;> rfl
    · rw [if_neg h, decide_eq_false h]; rfl
  rw [if_neg h4, if_neg h4]
theorem impl_RoleOk_eq : impl_RoleOk.f = spec_RoleOk.f := by funext a b; rw [spec_RoleOk_is, impl_RoleOk_is]
theorem impl_isPerson_is (w : Int) : impl_isPerson.f w = some (decide (0 ≤ w ∧ w ≤ 5)) := by unfold impl_isPerson.f; rw [impl_in_is]; rfl
theorem impl_CredOk_eq (m : Nat) (k o n w aw an bw bn u z : Int) : impl_CredOk.f (m + 1) k o n w aw an bw bn u z = spec_CredOk.f (m + 1) k o n w aw an bw bn u z := by
  simp only [impl_CredOk.f, impl_CredOk.j0, spec_CredOk.f, spec_CredOk.j0, impl_RoleOk_eq, impl_isPerson_is, impl_in_is, spec_l01In_is]
theorem impl_CredOk_is (m : Nat) (k o n w aw an bw bn u z : Int) : impl_CredOk.f (m + 1) k o n w aw an bw bn u z = some (credB k o n w aw an bw bn u z) := (impl_CredOk_eq m k o n w aw an bw bn u z).trans (spec_CredOk_is m k o n w aw an bw bn u z)

theorem vt_size (n : Nat) (h : n < 128 ^ 9) : (vt n).size ≤ 9 := by unfold vt; rw [strOfNums_size]; exact varNums_len 9 n h (by omega)
def small (n : Int) : Prop := 0 ≤ n ∧ n ≤ 9999
theorem vt_small {n : Int} (h : small n) : (vt n.toNat).size ≤ 9 := vt_size _ (by unfold small at h; omega)
theorem spec_Var_small {n : Int} (h : small n) : Ev (fun k => spec_l01Var.f k n) (vt n.toNat) := by
  have := spec_l01Var_is n.toNat (by unfold small at h; omega)
  rwa [Int.toNat_of_nonneg h.1] at this
theorem impl_Var_small {n : Int} (h : small n) : Ev (fun k => impl_varText.f k n) (vt n.toNat) := by
  have := impl_varText_is n.toNat (by unfold small at h; omega)
  rwa [Int.toNat_of_nonneg h.1] at this
theorem credB_small {k o n w aw an bw bn u z : Int} (h : credB k o n w aw an bw bn u z = true) : small k ∧ small o ∧ small n ∧ small w ∧ small aw ∧ small an ∧ small bw ∧ small bn ∧ small u ∧ small z := by
  simp only [credB, roleB, Bool.and_eq_true, decide_eq_true_eq] at h
  obtain ⟨⟨⟨⟨ho, hn⟩, hu⟩, hz⟩, hr⟩ := h
  unfold small
  split at hr
  · simp only [Bool.and_eq_true, decide_eq_true_eq, beq_iff_eq] at hr; omega
  · split at hr
    · simp only [Bool.and_eq_true, decide_eq_true_eq, beq_iff_eq] at hr; omega
    · split at hr
      · simp only [Bool.and_eq_true, decide_eq_true_eq, beq_iff_eq] at hr; omega
      · split at hr
        · simp only [Bool.and_eq_true, decide_eq_true_eq] at hr; omega
        · simp at hr
def credT (k o n w aw an bw bn u z : Int) : ByteArray :=
  if credB k o n w aw an bw bn u z = true then vt k.toNat ++ vt o.toNat ++ vt n.toNat ++ vt w.toNat ++ vt aw.toNat ++ vt an.toNat ++ vt bw.toNat ++ vt bn.toNat ++ vt u.toNat ++ vt z.toNat else ⟨#[]⟩
theorem spec_CredText_is (k o n w aw an bw bn u z : Int) : Ev (fun m => spec_CredText.f m k o n w aw an bw bn u z) (credT k o n w aw an bw bn u z) := by
  unfold spec_CredText.f credT
  refine Ev.bind (evo fun m => spec_CredOk_is m k o n w aw an bw bn u z) ?_
  by_cases h : credB k o n w aw an bw bn u z = true
  · obtain ⟨h0, h1, h2, h3, h4, h5, h6, h7, h8, h9⟩ := credB_small h
    have s0 := vt_small h0
    have s1 := vt_small h1
    have s2 := vt_small h2
    have s3 := vt_small h3
    have s4 := vt_small h4
    have s5 := vt_small h5
    have s6 := vt_small h6
    have s7 := vt_small h7
    have s8 := vt_small h8
    have s9 := vt_small h9
    rw [if_pos h]
    refine evp h ?_
    refine Ev.bind (spec_Var_small h0) (Ev.bind (spec_Var_small h1) (evp (by omega) ?_))
    refine Ev.bind (spec_Var_small h2) (evp (by simp only [ByteArray.size_append]; omega) ?_)
    refine Ev.bind (spec_Var_small h3) (evp (by simp only [ByteArray.size_append]; omega) ?_)
    refine Ev.bind (spec_Var_small h4) (evp (by simp only [ByteArray.size_append]; omega) ?_)
    refine Ev.bind (spec_Var_small h5) (evp (by simp only [ByteArray.size_append]; omega) ?_)
    refine Ev.bind (spec_Var_small h6) (evp (by simp only [ByteArray.size_append]; omega) ?_)
    refine Ev.bind (spec_Var_small h7) (evp (by simp only [ByteArray.size_append]; omega) ?_)
    refine Ev.bind (spec_Var_small h8) (evp (by simp only [ByteArray.size_append]; omega) ?_)
    refine Ev.bind (spec_Var_small h9) (evp (by simp only [ByteArray.size_append]; omega) (evs rfl))
  · rw [if_neg h]
    exact evn h (evs rfl)
def joinVt (acc : ByteArray) (l : List Int) : ByteArray := l.foldl (fun t n => t ++ vt n.toNat) acc
theorem impl_CredText_l (l : List Int) (hl : ∀ x ∈ l, small x) (hn : l.length ≤ 1000) : ∀ (d i : Nat) (acc : ByteArray), i + d = l.length → acc.size ≤ 9 * i → Ev (fun m => impl_CredText.l0 m acc l (l.length : Int) (i : Int)) (joinVt acc (l.drop i)) := by
  intro d
  induction d with
  | zero =>
    intro i acc h _
    refine Ev.step (fun k => by rw [impl_CredText.l0]) ?_
    refine evn (by omega) (evs ?_)
    rw [List.drop_of_length_le (by omega)]
    rfl
  | succ d ih =>
    intro i acc h ha
    have hi : i < l.length := by omega
    have hs : small (rd l (i : Int)) := by rw [rd_nat l i hi]; exact hl _ (List.getElem_mem _)
    have := vt_small hs
    refine Ev.step (fun k => by rw [impl_CredText.l0]) ?_
    refine evp (by omega) (evp (by omega) (evp (by omega) (Ev.bind (impl_Var_small hs) (evp (by omega) ?_))))
    rw [w64s i (by omega)]
    have e := ih (i + 1) (acc ++ vt (rd l (i : Int)).toNat) (by omega) (by rw [ByteArray.size_append]; omega)
    rw [List.drop_eq_getElem_cons hi, ← rd_nat l i hi]
    exact e
theorem impl_CredText_is (k o n w aw an bw bn u z : Int) : Ev (fun m => impl_CredText.f m k o n w aw an bw bn u z) (credT k o n w aw an bw bn u z) := by
  unfold impl_CredText.f credT
  refine Ev.bind (evo fun m => impl_CredOk_is m k o n w aw an bw bn u z) ?_
  by_cases h : credB k o n w aw an bw bn u z = true
  · obtain ⟨h0, h1, h2, h3, h4, h5, h6, h7, h8, h9⟩ := credB_small h
    rw [if_pos h]
    refine evp h (evb rfl ?_)
    have e := impl_CredText_l [k, o, n, w, aw, an, bw, bn, u, z] (by
      intro x hx
      simp only [List.mem_cons, List.not_mem_nil, or_false] at hx
      rcases hx with rfl | rfl | rfl | rfl | rfl | rfl | rfl | rfl | rfl | rfl <;> assumption) (by simp) 10 0 ⟨#[]⟩ rfl (Nat.le_refl _)
    have ej : joinVt ⟨#[]⟩ (List.drop 0 [k, o, n, w, aw, an, bw, bn, u, z]) = vt k.toNat ++ vt o.toNat ++ vt n.toNat ++ vt w.toNat ++ vt aw.toNat ++ vt an.toNat ++ vt bw.toNat ++ vt bn.toNat ++ vt u.toNat ++ vt z.toNat := by
      simp only [joinVt, List.drop_zero, List.foldl_cons, List.foldl_nil]
      rw [show (⟨#[]⟩ : ByteArray) ++ vt k.toNat = vt k.toNat from ByteArray.empty_append]
    rw [ej] at e
    exact e
  · rw [if_neg h]
    exact evn h (evs rfl)

theorem rvGo_text (s : ByteArray) (p : Nat) (l : Nat) : ∀ (k : Nat), p + k ≤ s.size → (∀ b ∈ btsN s p k, 127 < b ∧ b < 256) → ∀ (v nx : Int), rvGo s p l k (varVal (btsN s p k) 0) = (v, nx, true) →
    ∃ n m : Nat, v = (n : Int) ∧ nx = (m : Int) ∧ p ≤ m ∧ m ≤ s.size ∧ n ≤ 1000000000 ∧ s.extract p m = vt n := by
  induction l with
  | zero => intro k _ _ v nx h; simp [rvGo] at h
  | succ l ih =>
    intro k hpk hb v nx h
    unfold rvGo at h
    by_cases h1 : p + k < s.size
    · rw [if_pos h1] at h
      obtain ⟨b, hbe, hb2⟩ := bt_nat s ((p + k : Nat) : Int)
      have HX : bytesOf (s.extract p (p + k + 1)) = (btsN s p k).map (fun b : Nat => (b : Int)) ++ [(b : Int)] := by
        rw [Nat.add_assoc, ← btsN_extract s p (k + 1) (by omega), btsN_succ, List.map_append, hbe]; rfl
      have HS : btsN s p (k + 1) = btsN s p k ++ [b] := by rw [btsN_succ, hbe]; rfl
      rw [hbe] at h
      by_cases h2 : (b : Int) > 127
      · rw [if_pos h2] at h
        have hv : varVal (btsN s p (k + 1)) 0 = varVal (btsN s p k) 0 + 128 ^ k * (b % 128) := by
          have := varVal_add (btsN s p k) (b % 128)
          rw [btsN_len] at this
          rw [HS, varVal_snoc, Nat.mul_zero, Nat.add_zero, this]
        have e9 : ((b : Nat) : Int).toNat = b := rfl
        rw [e9, ← hv] at h
        exact ih (k + 1) (by omega) (by
          intro c hc
          rw [HS] at hc
          rcases List.mem_append.1 hc with h | h
          · exact hb c h
          · simp at h; subst h; omega) v nx h
      · rw [if_neg h2] at h
        have e9 : ((b : Nat) : Int).toNat = b := rfl
        rw [e9] at h
        have hval : varVal (btsN s p k) b = varVal (btsN s p k) 0 + 128 ^ k * b := by
          have := varVal_add (btsN s p k) b
          rw [btsN_len] at this
          exact this
        rw [← hval] at h
        by_cases h3 : ((b : Int) = 0 ∧ k > 0) ∨ varVal (btsN s p k) b > 1000000000
        · rw [if_pos h3] at h; simp at h
        · rw [if_neg h3] at h
          simp only [Prod.mk.injEq, and_true] at h
          refine ⟨varVal (btsN s p k) b, p + k + 1, h.1.symm, h.2.symm, by omega, by omega, by omega, ?_⟩
          apply bytesOf_inj
          rw [bytesOf_vt, HX]
          symm
          refine varNums_val _ _ hb (by omega) (fun h => ?_)
          have : k = 0 := by
            rcases Nat.eq_zero_or_pos k with h0 | h0
            · exact h0
            · exact absurd (Or.inl ⟨by omega, h0⟩) h3
          subst this
          rfl
    · rw [if_neg h1] at h; simp at h
theorem readVar_text (s : ByteArray) (p : Nat) (v nx : Int) (h : readVar s (p : Int) = (v, nx, true)) : ∃ n m : Nat, v = (n : Int) ∧ nx = (m : Int) ∧ p ≤ m ∧ m ≤ s.size ∧ n ≤ 1000000000 ∧ s.extract p m = vt n := by
  unfold readVar at h
  by_cases c : 0 ≤ (p : Int) ∧ (p : Int) ≤ s.size
  · rw [if_pos c] at h
    exact rvGo_text s p 5 0 (by omega) (by simp [btsN]) v nx h
  · rw [if_neg c] at h; simp at h

abbrev T11 := Int × Int × Int × Int × Int × Int × Int × Int × Int × Int × Bool
def zero11 : T11 := (0, 0, 0, 0, 0, 0, 0, 0, 0, 0, false)
def tup (l : List Int) : T11 := (rd l 0, rd l 1, rd l 2, rd l 3, rd l 4, rd l 5, rd l 6, rd l 7, rd l 8, rd l 9, true)
def lOk (l : List Int) : Bool := credB (rd l 0) (rd l 1) (rd l 2) (rd l 3) (rd l 4) (rd l 5) (rd l 6) (rd l 7) (rd l 8) (rd l 9)
def rdN (s : ByteArray) : Nat → Int → List Int → Option (List Int × Int)
  | 0, a, acc => some (acc, a)
  | d + 1, a, acc => if (readVar s a).2.2 = true then rdN s d (readVar s a).2.1 (acc ++ [(readVar s a).1]) else none
theorem extract_join (s : ByteArray) (a b : Nat) (h : a ≤ b) : s.extract 0 a ++ s.extract a b = s.extract 0 b := by
  apply bytesOf_inj
  rw [bytesOf_append, bytesOf_extract, bytesOf_extract, bytesOf_extract, List.drop_zero, Nat.sub_zero, Nat.sub_zero]
  have : b = a + (b - a) := by omega
  conv => rhs; rw [this, List.take_add]
theorem rdN_text (s : ByteArray) : ∀ (d : Nat) (a : Nat) (acc l : List Int) (e : Int), rdN s d (a : Int) acc = some (l, e) → a ≤ s.size → s.extract 0 a = joinVt ⟨#[]⟩ acc → ∃ m : Nat, e = (m : Int) ∧ m ≤ s.size ∧ s.extract 0 m = joinVt ⟨#[]⟩ l ∧ l.length = acc.length + d := by
  intro d
  induction d with
  | zero =>
    intro a acc l e h ha hs
    simp only [rdN, Option.some.injEq, Prod.mk.injEq] at h
    obtain ⟨rfl, rfl⟩ := h
    exact ⟨a, rfl, ha, hs, rfl⟩
  | succ d ih =>
    intro a acc l e h ha hs
    simp only [rdN] at h
    by_cases c : (readVar s (a : Int)).2.2 = true
    · rw [if_pos c] at h
      obtain ⟨n, m, h1, h2, h3, h4, _, h5⟩ := readVar_text s a (readVar s (a : Int)).1 (readVar s (a : Int)).2.1 (by rw [← c])
      rw [h1, h2] at h
      obtain ⟨m', k1, k2, k3, k4⟩ := ih m (acc ++ [(n : Int)]) l e h h4 (by
        unfold joinVt
        rw [List.foldl_append]
        show _ = joinVt ⟨#[]⟩ acc ++ vt n
        rw [← hs, ← h5, extract_join s a m h3])
      refine ⟨m', k1, k2, k3, ?_⟩
      rw [k4, List.length_append]
      simp; omega
    · rw [if_neg c] at h; simp at h
theorem list10 {l : List Int} (h : l.length = 10) : ∃ a b c d e f g i j k, l = [a, b, c, d, e, f, g, i, j, k] := by
  match l, h with
  | [a, b, c, d, e, f, g, i, j, k], _ => exact ⟨a, b, c, d, e, f, g, i, j, k, rfl⟩
def readCred (s : ByteArray) : T11 :=
  match rdN s 10 0 [] with
  | none => zero11
  | some (l, e) => if lOk l = true ∧ e = (s.size : Int) then tup l else zero11
theorem credT_join (l : List Int) (h : l.length = 10) (hc : lOk l = true) : credT (rd l 0) (rd l 1) (rd l 2) (rd l 3) (rd l 4) (rd l 5) (rd l 6) (rd l 7) (rd l 8) (rd l 9) = joinVt ⟨#[]⟩ l := by
  unfold credT
  rw [if_pos (show credB (rd l 0) (rd l 1) (rd l 2) (rd l 3) (rd l 4) (rd l 5) (rd l 6) (rd l 7) (rd l 8) (rd l 9) = true from hc)]
  obtain ⟨a, b, c, d, e, f, g, i, j, k, rfl⟩ := list10 h
  simp only [joinVt, List.foldl_cons, List.foldl_nil]
  rw [show (⟨#[]⟩ : ByteArray) ++ vt a.toNat = vt a.toNat from ByteArray.empty_append]
  rfl
theorem extract_all (s : ByteArray) (m : Nat) (hm : m ≤ s.size) : s.extract 0 m = s ↔ m = s.size := by
  constructor
  · intro h
    have := congrArg ByteArray.size h
    rw [ByteArray.size_extract] at this
    omega
  · intro h
    subst h
    apply bytesOf_inj
    rw [bytesOf_extract, List.drop_zero, Nat.sub_zero, List.take_of_length_le (by rw [bytesOf_length]; exact Nat.le_refl _)]
theorem spec_ReadCred_l (s : ByteArray) (hs : s.size ≤ 140737488351232) : ∀ (d i : Nat) (a : Int) (acc : List Int), i + d = 10 → acc.length = i → (∀ l e, rdN s d a acc = some (l, e) → ∃ m : Nat, e = (m : Int) ∧ m ≤ s.size ∧ s.extract 0 m = joinVt ⟨#[]⟩ l) →
    Ev (fun k => spec_ReadCred.l0 k s acc a (i : Int)) (match rdN s d a acc with | none => zero11 | some (l, e) => if lOk l = true ∧ e = (s.size : Int) then tup l else zero11) := by
  intro d
  induction d with
  | zero =>
    intro i a acc h1 h2 h3
    obtain ⟨m, k1, k2, k3⟩ := h3 acc a rfl
    simp only [rdN]
    refine Ev.step (fun k => by rw [spec_ReadCred.l0]) (evn (by omega) ?_)
    refine evp (by omega) (evp (by omega) (evp (by omega) (evp (by omega) (evp (by omega) (evp (by omega) (evp (by omega) (evp (by omega) (evp (by omega) (evp (by omega) ?_)))))))))
    refine Ev.bind (evo fun q => spec_CredOk_is q _ _ _ _ _ _ _ _ _ _) ?_
    by_cases c : lOk acc = true
    · refine evp c (Ev.bind (spec_CredText_is _ _ _ _ _ _ _ _ _ _) ?_)
      rw [credT_join acc (by omega) c, ← k3]
      by_cases ce : m = s.size
      · rw [show (if lOk acc = true ∧ a = (s.size : Int) then tup acc else zero11) = tup acc from if_pos ⟨c, by omega⟩]
        exact evp (by rw [(extract_all s m k2).2 ce]) (evs rfl)
      · rw [show (if lOk acc = true ∧ a = (s.size : Int) then tup acc else zero11) = zero11 from if_neg (fun h => ce (by omega))]
        exact evn (fun h => ce ((extract_all s m k2).1 (tl_inj.1 h))) (evs rfl)
    · rw [show (if lOk acc = true ∧ a = (s.size : Int) then tup acc else zero11) = zero11 from if_neg (fun h => c h.1)]
      exact evn c (evs rfl)
  | succ d ih =>
    intro i a acc h1 h2 h3
    refine Ev.step (fun k => by rw [spec_ReadCred.l0]) (evp (by omega) (Ev.bind (spec_ReadVar_is s hs a) ?_))
    by_cases c : (readVar s a).2.2 = true
    · have hr : rdN s (d + 1) a acc = rdN s d (readVar s a).2.1 (acc ++ [(readVar s a).1]) := if_pos c
      rw [hr] at h3 ⊢
      refine evp c (evp (by omega) ?_)
      rw [w64s i (by omega)]
      exact ih (i + 1) _ _ (by omega) (by rw [List.length_append, h2]; rfl) h3
    · have hr : rdN s (d + 1) a acc = none := if_neg c
      rw [hr]
      exact evn c (evs rfl)
theorem rdN_good (s : ByteArray) (l : List Int) (e : Int) (h : rdN s 10 0 [] = some (l, e)) : ∃ m : Nat, e = (m : Int) ∧ m ≤ s.size ∧ s.extract 0 m = joinVt ⟨#[]⟩ l := by
  obtain ⟨m, k1, k2, k3, _⟩ := rdN_text s 10 0 [] l e h (Nat.zero_le _) (by
    apply bytesOf_inj
    rw [bytesOf_extract]
    rfl)
  exact ⟨m, k1, k2, k3⟩
theorem spec_ReadCred_is (s : ByteArray) (hs : s.size ≤ 140737488351232) : Ev (fun k => spec_ReadCred.f k s) (readCred s) := spec_ReadCred_l s hs 10 0 0 [] rfl rfl (fun l e h => rdN_good s l e h)
theorem impl_readVars_l (s : ByteArray) (hs : s.size ≤ 140737488351232) : ∀ (d i : Nat) (a : Int) (acc : List Int), i + d = 10 → acc.length = i →
    Ev (fun k => impl_readVars.l0 k s a acc 10 (i : Int)) (match rdN s d a acc with | none => (([] : List Int), (0 : Int), false) | some (l, e) => (l, e, true)) := by
  intro d
  induction d with
  | zero =>
    intro i a acc h1 h2
    refine Ev.step (fun k => by rw [impl_readVars.l0]) ?_
    exact evn (by omega) (evs rfl)
  | succ d ih =>
    intro i a acc h1 h2
    refine Ev.step (fun k => by rw [impl_readVars.l0]) (evp (by omega) (Ev.bind (impl_ReadVar_is s hs a) ?_))
    by_cases c : (readVar s a).2.2 = true
    · have hr : rdN s (d + 1) a acc = rdN s d (readVar s a).2.1 (acc ++ [(readVar s a).1]) := if_pos c
      rw [hr]
      refine evp c (evp (by omega) ?_)
      rw [w64s i (by omega)]
      exact ih (i + 1) _ _ (by omega) (by rw [List.length_append, h2]; rfl)
    · have hr : rdN s (d + 1) a acc = none := if_neg c
      rw [hr]
      exact evn c (evs rfl)
theorem impl_ReadCred_is (s : ByteArray) (hs : s.size ≤ 140737488351232) : Ev (fun k => impl_ReadCred.f k s) (readCred s) := by
  unfold impl_ReadCred.f readCred
  refine Ev.bind (impl_readVars_l s hs 10 0 0 [] rfl rfl) ?_
  cases h : rdN s 10 0 [] with
  | none =>
    refine evn (by simp) (Ev.step (fun k => by rw [impl_ReadCred.j0]) ?_)
    exact evp rfl (evs rfl)
  | some p =>
    obtain ⟨l, e⟩ := p
    obtain ⟨_, _, _, _, hl⟩ := rdN_text s 10 0 [] l e h (Nat.zero_le _) (by apply bytesOf_inj; rw [bytesOf_extract]; rfl)
    have hl10 : l.length = 10 := by simpa using hl
    refine evp rfl ?_
    dsimp only
    refine Ev.step (fun k => by rw [impl_ReadCred.j0]) ?_
    by_cases ce : e = (s.size : Int)
    · refine evn (by simp [ce]) ?_
      refine evp (by omega) (evp (by omega) (evp (by omega) (evp (by omega) (evp (by omega) (evp (by omega) (evp (by omega) (evp (by omega) (evp (by omega) (evp (by omega) ?_)))))))))
      refine Ev.bind (evo fun q => impl_CredOk_is q _ _ _ _ _ _ _ _ _ _) ?_
      by_cases c : lOk l = true
      · exact evp c (evs (show tup l = _ from (if_pos ⟨c, ce⟩).symm))
      · exact evn c (evs (show zero11 = _ from (if_neg (fun h => c h.1)).symm))
    · refine evp (by simpa using ce) (evs (show zero11 = _ from (if_neg (fun h => ce h.2)).symm))

theorem son_app (a b : List Int) : strOfNums (a ++ b) = strOfNums a ++ strOfNums b := by
  apply tl_inj.1
  rw [ByteArray.toList_eq, ByteArray.toList_eq, ByteArray.data_append, Array.toList_append, strOfNums_data, strOfNums_data, strOfNums_data, List.map_append]
theorem son_byt (s : ByteArray) : strOfNums (Pad.byt s) = s := son_bytesOf s
theorem son_zeros (m : Nat) : strOfNums (List.replicate m 0) = ⟨(List.replicate m (0 : UInt8)).toArray⟩ := by
  apply tl_inj.1
  rw [ByteArray.toList_eq, ByteArray.toList_eq, strOfNums_data, List.map_replicate]
  simp
theorem impl_PadText_l0 (k : Nat) (x : ByteArray) (n : Int) (hx : x.size ≤ 9223372036854775000) : impl_PadText.l0 (k + 9) x n [0, 0, 0, 0, 0, 0, 0, 0] 7 = some (x ++ strOfNums (Pad.be8 n)) := by
  have w7 : wrap64 (7 - 1) = 6 := by unfold wrap64; omega
  have w6 : wrap64 (6 - 1) = 5 := by unfold wrap64; omega
  have w5 : wrap64 (5 - 1) = 4 := by unfold wrap64; omega
  have w4 : wrap64 (4 - 1) = 3 := by unfold wrap64; omega
  have w3 : wrap64 (3 - 1) = 2 := by unfold wrap64; omega
  have w2 : wrap64 (2 - 1) = 1 := by unfold wrap64; omega
  have w1 : wrap64 (1 - 1) = 0 := by unfold wrap64; omega
  have w0 : wrap64 (0 - 1) = -1 := by unfold wrap64; omega
  rw [impl_PadText.l0, if_pos (by decide), if_pos (by decide), if_pos (by simp), w7]
  rw [impl_PadText.l0, if_pos (by decide), if_pos (by decide), if_pos (by simp), w6]
  rw [impl_PadText.l0, if_pos (by decide), if_pos (by decide), if_pos (by simp), w5]
  rw [impl_PadText.l0, if_pos (by decide), if_pos (by decide), if_pos (by simp), w4]
  rw [impl_PadText.l0, if_pos (by decide), if_pos (by decide), if_pos (by simp), w3]
  rw [impl_PadText.l0, if_pos (by decide), if_pos (by decide), if_pos (by simp), w2]
  rw [impl_PadText.l0, if_pos (by decide), if_pos (by decide), if_pos (by simp), w1]
  rw [impl_PadText.l0, if_pos (by decide), if_pos (by decide), if_pos (by simp), w0]
  have e : (((((((([0, 0, 0, 0, 0, 0, 0, 0] : List Int).set (7 : Int).toNat (n % 256)).set (6 : Int).toNat (n / 256 % 256)).set (5 : Int).toNat (n / 256 / 256 % 256)).set (4 : Int).toNat (n / 256 / 256 / 256 % 256)).set (3 : Int).toNat (n / 256 / 256 / 256 / 256 % 256)).set (2 : Int).toNat (n / 256 / 256 / 256 / 256 / 256 % 256)).set (1 : Int).toNat (n / 256 / 256 / 256 / 256 / 256 / 256 % 256)).set (0 : Int).toNat (n / 256 / 256 / 256 / 256 / 256 / 256 / 256 % 256) = Pad.be8 n := by
    show [n / 256 / 256 / 256 / 256 / 256 / 256 / 256 % 256, n / 256 / 256 / 256 / 256 / 256 / 256 % 256, n / 256 / 256 / 256 / 256 / 256 % 256, n / 256 / 256 / 256 / 256 % 256, n / 256 / 256 / 256 % 256, n / 256 / 256 % 256, n / 256 % 256, n % 256] = _
    unfold Pad.be8
    simp only [List.cons.injEq, and_true]
    omega
  rw [e, impl_PadText.l0, if_neg (by decide), if_pos (by rw [strOfNums_size]; show x.size + 8 ≤ _; omega)]
theorem impl_PadText_is (s : ByteArray) (hs : s.size ≤ 140737488351232) : Ev (fun k => impl_PadText.f k s) (strOfNums (Pad.padB s)) := by
  unfold impl_PadText.f
  refine evp (by omega) ?_
  have hz : (s ++ (⟨#[128]⟩ : ByteArray)).size = s.size + 1 := by rw [ByteArray.size_append]; rfl
  rw [hz]
  have hm : (((56 - (((s.size + 1 : Nat) : Int) % 64)) + 64) % 64).toNat = Pad.padK s.size := by unfold Pad.padK; omega
  have hr : strings_Repeat.f (⟨#[0]⟩ : ByteArray) (((56 - (((s.size + 1 : Nat) : Int) % 64)) + 64) % 64) = some (strOfNums (List.replicate (Pad.padK s.size) 0)) := by
    unfold strings_Repeat.f
    rw [if_pos ⟨by omega, by omega, by decide⟩, hm, son_zeros]
    have : Lib.repeatL [(0 : UInt8)] (Pad.padK s.size) = List.replicate (Pad.padK s.size) 0 := by
      have h := Lib.repeatL_replicate (0 : UInt8) 1 (Pad.padK s.size)
      rw [Nat.mul_one] at h
      exact h
    rw [show (⟨#[0]⟩ : ByteArray).data.toList = [(0 : UInt8)] from rfl, this]
  refine evb hr ?_
  have hk : Pad.padK s.size < 64 := by unfold Pad.padK; omega
  have hz2 : (strOfNums (List.replicate (Pad.padK s.size) 0)).size = Pad.padK s.size := by rw [strOfNums_size, List.length_replicate]
  refine evp (by rw [hz2]; omega) (evp (by omega) ?_)
  have hn : wrap64 (8 * (s.size : Int)) = 8 * (s.size : Int) := w64 (by omega) (by omega)
  rw [hn]
  refine ⟨9, fun k hk => ?_⟩
  obtain ⟨m, rfl⟩ : ∃ m, k = m + 9 := ⟨k - 9, by omega⟩
  have h := impl_PadText_l0 m ((s ++ (⟨#[128]⟩ : ByteArray)) ++ strOfNums (List.replicate (Pad.padK s.size) 0)) (8 * (s.size : Int)) (by rw [ByteArray.size_append, hz, hz2]; omega)
  refine Eq.trans h ?_
  congr 1
  unfold Pad.padB
  rw [son_app, son_app, son_app, son_byt]
  rfl

theorem bits_xor_comm (k : IntKind) (a b : Int) : Go.bits .xor k a b = Go.bits .xor k b a := by
  simp only [Go.bits, BitVec.xor_comm]
theorem impl_turn_is (x n : Int) (h0 : 0 ≤ n) (h1 : n ≤ 32) : impl_turn.f x n = some (tn x n) := by
  unfold impl_turn.f
  have e : wrap64 (32 - n) = 32 - n := w64 (by omega) (by omega)
  have b : IntKind.u32.bits = 32 := rfl
  rw [if_pos h0, e, if_pos (by omega)]
  unfold shr shl tn
  rw [b, Nat.min_eq_left (by omega), Nat.min_eq_left (by omega), IntKind.wrap_u32']
theorem impl_schedule_l1 (b : ByteArray) : ∀ (d i : Nat) (p : List Int), i + d = 64 → 16 ≤ i → p.length = i → schedGo d p = sched b → Ev (fun k => impl_schedule.l1 k p (i : Int)) (sched b) := by
  intro d
  induction d with
  | zero =>
    intro i p h1 h2 h3 h4
    refine Ev.step (fun k => by rw [impl_schedule.l1]) (evn (by omega) (evs ?_))
    rw [schedGo] at h4
    exact h4
  | succ d ih =>
    intro i p h1 h2 h3 h4
    have e15 : wrap64 ((i : Int) - 15) = ((p.length : Int) - 15) := by rw [w64 (by omega) (by omega)]; omega
    have e2 : wrap64 ((i : Int) - 2) = ((p.length : Int) - 2) := by rw [w64 (by omega) (by omega)]; omega
    have e16 : wrap64 ((i : Int) - 16) = ((p.length : Int) - 16) := by rw [w64 (by omega) (by omega)]; omega
    have e7 : wrap64 ((i : Int) - 7) = ((p.length : Int) - 7) := by rw [w64 (by omega) (by omega)]; omega
    have e1 : wrap64 ((i : Int) + 1) = ((i + 1 : Nat) : Int) := w64s i (by omega)
    refine Ev.step (fun k => by rw [impl_schedule.l1]) ?_
    simp only [e15, e2, e16, e7, e1]
    refine evp (by omega) (evp (by omega) (evp (by omega) (evp (by omega) (evp (by omega) ?_))))
    refine evb (impl_turn_is _ _ (by omega) (by omega)) (evb (impl_turn_is _ _ (by omega) (by omega)) (evb (impl_turn_is _ _ (by omega) (by omega)) (evb (impl_turn_is _ _ (by omega) (by omega)) ?_)))
    refine evp (by omega) (evp (by omega) (evp (by omega) (evp (by omega) (evp (by omega) ?_))))
    refine Ev.congr (fun k => ?_) (ih (i + 1) (p ++ [nextW' p (p.length : Int)]) (by omega) (by omega) (by rw [List.length_append, h3]; rfl) h4)
    congr 3
    unfold nextW' nextW
    simp only [Int.emod_add_emod]
theorem impl_schedule_l0 (b : ByteArray) (hb : b.size = 64) : ∀ (d i : Nat), i + d = 16 → Ev (fun k => impl_schedule.l0 k b (w16 b i) (i : Int)) (sched b) := by
  intro d
  induction d with
  | zero =>
    intro i h1
    have hi : i = 16 := by omega
    subst hi
    refine Ev.step (fun k => by rw [impl_schedule.l0]) (evn (by decide) ?_)
    exact impl_schedule_l1 b 48 16 (w16 b 16) (by omega) (by omega) (by simp [w16]) rfl
  | succ d ih =>
    intro i h1
    have hl : (w16 b i).length = i := by simp [w16]
    have e0 : wrap64 (4 * (i : Int)) = 4 * (i : Int) := w64 (by omega) (by omega)
    have e1 : wrap64 (4 * (i : Int) + 1) = 4 * (i : Int) + 1 := w64 (by omega) (by omega)
    have e2 : wrap64 (4 * (i : Int) + 2) = 4 * (i : Int) + 2 := w64 (by omega) (by omega)
    have e3 : wrap64 (4 * (i : Int) + 3) = 4 * (i : Int) + 3 := w64 (by omega) (by omega)
    have e5 : wrap64 ((i : Int) + 1) = ((i + 1 : Nat) : Int) := w64s i (by omega)
    refine Ev.step (fun k => by rw [impl_schedule.l0]) ?_
    simp only [e0, e1, e2, e3, e5]
    refine evp (by omega) (evp (by omega) (evp (by omega) (evp (by omega) (evp (by omega) (evp (by omega) (evp (by omega) (evp (by omega) (evp (by omega) (evp (by omega) ?_)))))))))
    refine Ev.congr (fun k => ?_) (ih (i + 1) (by omega))
    have : w16 b (i + 1) = w16 b i ++ [word b (i : Int)] := by simp [w16, List.range_succ]
    rw [this]
    rfl
theorem impl_schedule_is (b : ByteArray) (hb : b.size = 64) : Ev (fun k => impl_schedule.f k b) (sched b) := impl_schedule_l0 b hb 16 0 rfl
theorem impl_ShaBlock_l2 (h s : List Int) (hh : h.length = 8) (hs : s.length = 8) (hr : ∀ x ∈ h, 0 ≤ x ∧ x ≤ 4294967295) : ∀ (d i : Nat), i + d = 8 → Ev (fun k => impl_ShaBlock.l2 k ((fin h s).take i ++ h.drop i) s 8 (i : Int)) (fin h s) := by
  have hf : (fin h s).length = 8 := fin_len hh hs
  intro d
  induction d with
  | zero =>
    intro i h1
    have hi : i = 8 := by omega
    subst hi
    refine Ev.step (fun k => by rw [impl_ShaBlock.l2]) (evn (by decide) (evs ?_))
    rw [List.take_of_length_le (by omega), List.drop_of_length_le (by omega), List.append_nil]
  | succ d ih =>
    intro i h1
    have hl : ((fin h s).take i ++ h.drop i).length = 8 := by rw [List.length_append, List.length_take, List.length_drop]; omega
    refine Ev.step (fun k => by rw [impl_ShaBlock.l2]) ?_
    refine evp (by omega) (evp (by omega) (evp (by omega) (evp (by omega) ?_)))
    rw [w64s i (by omega)]
    refine Ev.congr (fun k => ?_) (ih (i + 1) (by omega))
    rw [← fin_step h s i hh hs (by omega)]
    simp only [Int.toNat_natCast, Int.emod_add_emod]
theorem rnd_is (s : List Int) (k w : Int) : rnd s k w = [((((((((((rd s 7) + (Go.bits .xor .u32 (Go.bits .xor .u32 (tn (rd s 4) 6) (tn (rd s 4) 11)) (tn (rd s 4) 25))) % 4294967296) + (Go.bits .xor .u32 (Go.bits .and .u32 (rd s 4) (rd s 5)) (Go.bits .and .u32 (Go.bits .xor .u32 IntKind.u32.max (rd s 4)) (rd s 6)))) % 4294967296) + k) % 4294967296) + w) % 4294967296) + (((Go.bits .xor .u32 (Go.bits .xor .u32 (tn (rd s 0) 2) (tn (rd s 0) 13)) (tn (rd s 0) 22)) + (Go.bits .xor .u32 (Go.bits .xor .u32 (Go.bits .and .u32 (rd s 0) (rd s 1)) (Go.bits .and .u32 (rd s 0) (rd s 2))) (Go.bits .and .u32 (rd s 1) (rd s 2)))) % 4294967296)) % 4294967296, rd s 0, rd s 1, rd s 2, ((rd s 3) + (((((((((rd s 7) + (Go.bits .xor .u32 (Go.bits .xor .u32 (tn (rd s 4) 6) (tn (rd s 4) 11)) (tn (rd s 4) 25))) % 4294967296) + (Go.bits .xor .u32 (Go.bits .and .u32 (rd s 4) (rd s 5)) (Go.bits .and .u32 (Go.bits .xor .u32 IntKind.u32.max (rd s 4)) (rd s 6)))) % 4294967296) + k) % 4294967296) + w) % 4294967296)) % 4294967296, rd s 4, rd s 5, rd s 6] := by
  have hm : IntKind.u32.max = 4294967295 := rfl
  unfold rnd
  rw [hm, bits_xor_comm .u32 4294967295 (rd s 4)]
  simp only [Int.emod_add_emod, r1, r2]
theorem keys_len : keys.length = 64 := rfl
theorem rndsGo_drop (ks ws s : List Int) (i : Nat) (h1 : i < ks.length) (h2 : i < ws.length) : rndsGo (ks.drop i) (ws.drop i) s = rndsGo (ks.drop (i + 1)) (ws.drop (i + 1)) (rnd s (rd ks (i : Int)) (rd ws (i : Int))) := by
  rw [drop_rd ks i h1, drop_rd ws i h2, rndsGo]
theorem impl_ShaBlock_l1 (h : List Int) (ws t : List Int) (hw : ws.length = 64) (hh : h.length = 8) (hr : ∀ x ∈ h, 0 ≤ x ∧ x ≤ 4294967295) : ∀ (d i : Nat) (s : List Int), i + d = 64 → s.length = 8 → rndsGo (keys.drop i) (ws.drop i) s = t → Ev (fun k => impl_ShaBlock.l1 k h s keys ws 64 (i : Int)) (fin h t) := by
  intro d
  induction d with
  | zero =>
    intro i s h1 h2 h3
    have hi : i = 64 := by omega
    subst hi
    refine Ev.step (fun k => by rw [impl_ShaBlock.l1]) (evn (by decide) ?_)
    rw [List.drop_of_length_le (by rw [keys_len]; exact Nat.le_refl _), rndsGo_nil] at h3
    subst h3
    have := impl_ShaBlock_l2 h s hh h2 hr 8 0 rfl
    rw [List.take_zero, List.drop_zero, List.nil_append] at this
    rw [h2]
    exact this
  | succ d ih =>
    intro i s h1 h2 h3
    have hk := keys_len
    refine Ev.step (fun k => by rw [impl_ShaBlock.l1]) ?_
    refine evp (by omega) (evp (by omega) (evp (by omega) (evp (by omega) (evp (by omega) (evp (by omega) ?_)))))
    refine evb (impl_turn_is _ _ (by omega) (by omega)) (evb (impl_turn_is _ _ (by omega) (by omega)) (evb (impl_turn_is _ _ (by omega) (by omega)) ?_))
    refine evp (by omega) (evp (by omega) (evp (by omega) ?_))
    refine evb (impl_turn_is _ _ (by omega) (by omega)) (evb (impl_turn_is _ _ (by omega) (by omega)) (evb (impl_turn_is _ _ (by omega) (by omega)) ?_))
    refine evp (by omega) (evp (by omega) (evp (by omega) ?_))
    rw [← rnd_is, w64s i (by omega)]
    refine ih (i + 1) _ (by omega) (rnd_len _ _ _) ?_
    rw [← h3]
    exact (rndsGo_drop keys ws s i (by omega) (by omega)).symm
def shaB (h : List Int) (b : ByteArray) : List Int := if h.length = 8 ∧ b.size = 64 ∧ (∀ x ∈ h, 0 ≤ x ∧ x ≤ 4294967295) then blk h b else h
theorem impl_rounds_is : impl_rounds.f = some keys := rfl
theorem impl_ShaBlock_l0 (h : List Int) (b : ByteArray) (hb : b.size = 64) (hh : h.length = 8) : ∀ (d i : Nat), i + d = 8 → (∀ j, j < i → 0 ≤ rd h (j : Int) ∧ rd h (j : Int) ≤ 4294967295) → Ev (fun k => impl_ShaBlock.l0 k b h (h.take i ++ List.replicate (8 - i) 0) h 8 (i : Int)) (shaB h b) := by
  intro d
  induction d with
  | zero =>
    intro i h1 h2
    have hi : i = 8 := by omega
    subst hi
    have hr : ∀ x ∈ h, 0 ≤ x ∧ x ≤ 4294967295 := by
      intro x hx
      obtain ⟨j, hj, rfl⟩ := List.mem_iff_getElem.1 hx
      have := h2 j (by omega)
      rwa [rd_nat h j hj] at this
    refine Ev.step (fun k => by rw [impl_ShaBlock.l0]) (evn (by decide) (evb impl_rounds_is (Ev.bind (impl_schedule_is b hb) ?_)))
    have e : shaB h b = fin h (rndsGo keys (sched b) h) := by unfold shaB; rw [if_pos ⟨hh, hb, hr⟩]; rfl
    rw [e, sched_len, List.take_of_length_le (by omega), show 8 - 8 = 0 from rfl, List.replicate_zero, List.append_nil]
    exact impl_ShaBlock_l1 h (sched b) _ (sched_len b) hh hr 64 0 h rfl hh rfl
  | succ d ih =>
    intro i h1 h2
    have hl : (h.take i ++ List.replicate (8 - i) (0 : Int)).length = 8 := by rw [List.length_append, List.length_take, List.length_replicate]; omega
    refine Ev.step (fun k => by rw [impl_ShaBlock.l0]) ?_
    refine evp (by omega) (evp (by omega) (evp (by omega) (evb (impl_in_is _ _ _) ?_)))
    by_cases hc : 0 ≤ rd h (i : Int) ∧ rd h (i : Int) ≤ 4294967295
    · refine evp (decide_eq_true hc) (evp (by omega) ?_)
      rw [w64s i (by omega)]
      refine Ev.congr (fun k => ?_) (ih (i + 1) (by omega) ?_)
      · congr 1
        rw [Int.emod_eq_of_lt hc.1 (by omega), Int.toNat_natCast, List.set_append_right _ _ (by rw [List.length_take]; omega), List.length_take, show i - min i h.length = 0 by omega, show 8 - i = (8 - (i + 1)) + 1 by omega, List.replicate_succ, List.set_cons_zero, List.take_succ_eq_append_getElem (by omega : i < h.length), List.append_assoc, rd_nat h i (by omega)]
        rfl
      · intro j hj
        by_cases hji : j = i
        · subst hji; exact hc
        · exact h2 j (by omega)
    · refine evn (by rw [decide_eq_false hc]; simp) (evs ?_)
      unfold shaB
      rw [if_neg]
      rintro ⟨_, _, hr⟩
      exact hc (by rw [rd_nat h i (by omega)]; exact hr _ (List.getElem_mem _))
theorem impl_ShaBlock_is (h : List Int) (b : ByteArray) (hl : h.length < 17592186044416) : Ev (fun k => impl_ShaBlock.f k h b) (shaB h b) := by
  unfold impl_ShaBlock.f
  refine evb rfl (evp (by simpa using hl) (evb rfl ?_))
  rw [List.nil_append]
  by_cases h8 : h.length = 8
  · refine evp (by omega) (Ev.step (fun k => by rw [impl_ShaBlock.j0]) ?_)
    by_cases hb : b.size = 64
    · refine evn (by simp [hb]) (evp (by omega) ?_)
      rw [h8]
      exact impl_ShaBlock_l0 h b hb h8 8 0 rfl (fun j hj => by omega)
    · refine evp (by simp; omega) (evs ?_)
      unfold shaB
      rw [if_neg (fun hc => hb hc.2.1)]
  · refine evn (by omega) (Ev.step (fun k => by rw [impl_ShaBlock.j0]) (evp rfl (evs ?_)))
    unfold shaB
    rw [if_neg (fun hc => h8 hc.1)]

theorem shaB_blk (h : List Int) (b : ByteArray) (h8 : h.length = 8) (hb : b.size = 64) (hr : ∀ x ∈ h, 0 ≤ x ∧ x ≤ 4294967295) : shaB h b = blk h b := by unfold shaB; rw [if_pos ⟨h8, hb, hr⟩]
theorem impl_Digest_l1 (h : List Int) (h8 : h.length = 8) : ∀ (d i : Nat), i + d = 8 → Ev (fun k => impl_Digest.l1 k (digB (h.take i)) h 8 (i : Int)) (strOfNums (digB h)) := by
  intro d
  induction d with
  | zero =>
    intro i h1
    have hi : i = 8 := by omega
    subst hi
    refine Ev.step (fun k => by rw [impl_Digest.l1]) (evn (by decide) (evs ?_))
    rw [List.take_of_length_le (by omega)]
  | succ d ih =>
    intro i h1
    refine Ev.step (fun k => by rw [impl_Digest.l1]) ?_
    have hl : (digB (h.take i)).length = 4 * i := by rw [digB_len, List.length_take]; omega
    refine evp (by omega) (evp (by omega) (evp (by omega) (evb rfl (evp ?_ ?_))))
    · rw [hl]; simp; omega
    · rw [w64s i (by omega)]
      refine Ev.congr (fun k => ?_) (ih (i + 1) (by omega))
      rw [List.take_succ_eq_append_getElem (by omega : i < h.length), digB_app, ← rd_nat h i (by omega)]
      rfl
theorem impl_Digest_l0 (p : ByteArray) (m : Nat) (hp : p.size = 64 * m) (hm : p.size ≤ 140737488355328) (t : List Int) : ∀ (d i : Nat) (h : List Int), i + d = m → h.length = 8 → (∀ x ∈ h, 0 ≤ x ∧ x ≤ 4294967295) → blocksGo d h p (64 * i) = t → Ev (fun k => impl_Digest.l0 k h p ((64 * i : Nat) : Int)) (strOfNums (digB t)) := by
  intro d
  induction d with
  | zero =>
    intro i h h1 h8 hr ht
    refine Ev.step (fun k => by rw [impl_Digest.l0]) (evn (by omega) ?_)
    rw [blocksGo] at ht
    subst ht
    rw [h8]
    exact impl_Digest_l1 h h8 8 0 rfl
  | succ d ih =>
    intro i h h1 h8 hr ht
    have e : wrap64 (((64 * i : Nat) : Int) + 64) = ((64 * (i + 1) : Nat) : Int) := by rw [w64 (by omega) (by omega)]; omega
    have hb : (p.extract (64 * i) (64 * i + 64)).size = 64 := by rw [ByteArray.size_extract]; omega
    refine Ev.step (fun k => by rw [impl_Digest.l0]) ?_
    rw [e]
    refine evp (by omega) (evp (by omega) (evp (by omega) (evp (by omega) ?_)))
    rw [Int.toNat_natCast, Int.toNat_natCast, show 64 * (i + 1) = 64 * i + 64 by omega]
    refine Ev.bind (impl_ShaBlock_is h _ (by omega)) ?_
    rw [shaB_blk h _ h8 hb hr]
    have hs := rndsGo_len keys (sched (p.extract (64 * i) (64 * i + 64))) h h8
    have := ih (i + 1) (blk h (p.extract (64 * i) (64 * i + 64))) (by omega) (blk_len _ h8) fin_range ?_
    · rw [show 64 * (i + 1) = 64 * i + 64 by omega] at this
      exact this
    · rw [← ht, blocksGo]
      rfl
theorem impl_Digest_is (s : ByteArray) (hs : s.size ≤ 140737488351232) : Ev (fun k => impl_Digest.f k s) (dig s) := by
  unfold impl_Digest.f
  refine evb (a := first) rfl (Ev.bind (impl_PadText_is s hs) ?_)
  have hsz : (strOfNums (Pad.padB s)).size = 64 * ((s.size + 9 + Pad.padK s.size) / 64) := by rw [strOfNums_size, padB_len]
  have hk : Pad.padK s.size < 64 := by unfold Pad.padK; omega
  exact impl_Digest_l0 (strOfNums (Pad.padB s)) _ hsz (by rw [hsz]; omega) _ _ 0 first (Nat.zero_add _) rfl (by decide) rfl
theorem blocksGo_len : ∀ (d : Nat) (h : List Int) (p : ByteArray) (i : Nat), h.length = 8 → (blocksGo d h p i).length = 8
  | 0, _, _, _, h => h
  | d + 1, h, p, i, h8 => blocksGo_len d _ p _ (blk_len _ h8)
theorem dig_size (s : ByteArray) : (dig s).size = 32 := by
  unfold dig
  rw [strOfNums_size, digB_len, blocksGo_len _ _ _ _ rfl]

theorem spec_Digest_is (s : ByteArray) (hs : s.size ≤ 140737488351232) : spec_Digest.f s = some (dig s) := by
  unfold spec_Digest.f
  rw [if_pos hs]

theorem roleB_in {w n : Int} (h : roleB w n = true) : (0 ≤ w ∧ w ≤ 5) ∧ (0 ≤ n ∧ n ≤ 3) := by
  simpa only [roleB, Bool.and_eq_true, decide_eq_true_eq] using h
theorem spec_Var_in {n : Int} (h : 0 ≤ n) (h2 : n ≤ 1000000000) : Ev (fun k => spec_l01Var.f k n) (vt n.toNat) := by
  have := spec_l01Var_is n.toNat (by omega)
  rwa [Int.toNat_of_nonneg h] at this
theorem impl_Var_in {n : Int} (h : 0 ≤ n) (h2 : n ≤ 1000000000) : Ev (fun k => impl_varText.f k n) (vt n.toNat) := by
  have := impl_varText_is n.toNat (by omega)
  rwa [Int.toNat_of_nonneg h] at this
def place (w n : Int) : Int := if roleB w n = true then wrap64 (bt (dig (vt w.toNat ++ vt n.toNat)) 0) else 0
theorem spec_PlaceOf_is (w n : Int) : Ev (fun k => spec_PlaceOf.f k w n) (place w n) := by
  unfold spec_PlaceOf.f place
  refine evb (spec_RoleOk_is w n) ?_
  by_cases h : roleB w n = true
  · obtain ⟨h1, h2⟩ := roleB_in h
    have s1 := vt_size w.toNat (by omega)
    have s2 := vt_size n.toNat (by omega)
    rw [if_pos h]
    refine evp h (Ev.bind (spec_Var_in h1.1 (by omega)) (Ev.bind (spec_Var_in h2.1 (by omega)) (evp (by omega) (evb (spec_Digest_is _ (by rw [ByteArray.size_append]; omega)) ?_))))
    exact evp (by rw [dig_size]; omega) (evs rfl)
  · rw [if_neg h]
    exact evn h (evs rfl)
theorem impl_PlaceOf_is (w n : Int) : Ev (fun k => impl_PlaceOf.f k w n) (place w n) := by
  unfold impl_PlaceOf.f place
  refine evb (impl_RoleOk_is w n) ?_
  by_cases h : roleB w n = true
  · obtain ⟨h1, h2⟩ := roleB_in h
    have s1 := vt_size w.toNat (by omega)
    have s2 := vt_size n.toNat (by omega)
    rw [if_pos h]
    refine evp h (Ev.bind (impl_Var_in h1.1 (by omega)) (Ev.bind (impl_Var_in h2.1 (by omega)) (evp (by omega) (Ev.bind (impl_Digest_is _ (by rw [ByteArray.size_append]; omega)) ?_))))
    exact evp (by rw [dig_size]; omega) (evs rfl)
  · rw [if_neg h]
    exact evn h (evs rfl)

theorem spec_CredLess_is (k o n w aw an bw bn u z k' o' n' w' aw' an' bw' bn' u' z' : Int) : Ev (fun m => spec_CredLess.f m k o n w aw an bw bn u z k' o' n' w' aw' an' bw' bn' u' z') (Op.bytesLess (credT k o n w aw an bw bn u z).toList (credT k' o' n' w' aw' an' bw' bn' u' z').toList) :=
  Ev.bind (spec_CredText_is k o n w aw an bw bn u z) (Ev.bind (spec_CredText_is k' o' n' w' aw' an' bw' bn' u' z') (evs rfl))
theorem impl_CredLess_is (k o n w aw an bw bn u z k' o' n' w' aw' an' bw' bn' u' z' : Int) : Ev (fun m => impl_CredLess.f m k o n w aw an bw bn u z k' o' n' w' aw' an' bw' bn' u' z') (Op.bytesLess (credT k o n w aw an bw bn u z).toList (credT k' o' n' w' aw' an' bw' bn' u' z').toList) :=
  Ev.bind (impl_CredText_is k o n w aw an bw bn u z) (Ev.bind (impl_CredText_is k' o' n' w' aw' an' bw' bn' u' z') (evs rfl))

theorem bt_head (s : ByteArray) (i : Nat) (c : Int) (tl : List Int) (h : (bytesOf s).drop i = c :: tl) : i < s.size ∧ bt s (i : Int) = c ∧ (bytesOf s).drop (i + 1) = tl := by
  have hlt : i < s.size := by
    rcases Nat.lt_or_ge i s.size with h1 | h1
    · exact h1
    · rw [List.drop_eq_nil_of_le (by rw [bytesOf_length]; exact h1)] at h
      cases h
  rw [bytesOf_drop s i hlt] at h
  injection h with h1 h2
  exact ⟨hlt, h1, h2⟩
theorem pow128_split (m x : Nat) : m * (x % 128) + 128 * m * (x / 128) = m * x := by
  have h : m * x = m * (128 * (x / 128) + x % 128) := by rw [Nat.div_add_mod]
  rw [h, Nat.mul_add, Nat.add_comm]
  congr 1
  rw [Nat.mul_comm 128 m, Nat.mul_assoc]
theorem rvGo_vt (s : ByteArray) (p : Nat) (tl : List Int) (l : Nat) : ∀ (k n x : Nat), (varNums x).length ≤ l → (x = 0 → k = 0) → n + 128 ^ k * x ≤ 1000000000 → (bytesOf s).drop (p + k) = varNums x ++ tl →
    rvGo s p l k n = (((n + 128 ^ k * x : Nat) : Int), ((p + k + (varNums x).length : Nat) : Int), true) := by
  induction l with
  | zero => intro k n x h1; exact absurd (List.length_eq_zero_iff.1 (Nat.le_zero.1 h1)) (varNums_ne x)
  | succ l ih =>
    intro k n x h1 h2 h3 h4
    by_cases hb : x > 127
    · rw [varNums_big hb] at h1 h4 ⊢
      obtain ⟨a1, a2, a3⟩ := bt_head s (p + k) _ _ h4
      unfold rvGo
      rw [if_pos a1, a2, if_pos (by omega)]
      have e : (((x % 128 + 128 : Nat) : Int)).toNat % 128 = x % 128 := by
        have : (((x % 128 + 128 : Nat) : Int)).toNat = x % 128 + 128 := rfl
        rw [this]; omega
      rw [e]
      have hs := pow128_split (128 ^ k) x
      have hp : 128 ^ (k + 1) = 128 * 128 ^ k := by rw [Nat.pow_succ, Nat.mul_comm]
      have hv : n + 128 ^ k * (x % 128) + 128 ^ (k + 1) * (x / 128) = n + 128 ^ k * x := by rw [hp, Nat.add_assoc, hs]
      have := ih (k + 1) (n + 128 ^ k * (x % 128)) (x / 128) (by simp at h1; omega) (fun h => by exfalso; clear hv hs hp; omega) (by rw [hv]; exact h3) a3
      rw [this, hv]
      simp only [List.length_cons]
      have e2 : p + (k + 1) + (varNums (x / 128)).length = p + k + ((varNums (x / 128)).length + 1) := by clear hv hs hp h3; omega
      rw [e2]
    · rw [varNums_small hb] at h1 h4 ⊢
      obtain ⟨a1, a2, a3⟩ := bt_head s (p + k) _ _ h4
      unfold rvGo
      rw [if_pos a1, a2, if_neg (by omega)]
      have e : ((x : Nat) : Int).toNat = x := rfl
      rw [e]
      have hc : ¬ (((x : Int) = 0 ∧ k > 0) ∨ n + 128 ^ k * x > 1000000000) := by
        rintro (⟨c1, c2⟩ | c)
        · have := h2 (by omega); omega
        · exact absurd h3 (Nat.not_le.2 c)
      rw [if_neg hc]
      rfl
theorem readVar_vt (s : ByteArray) (p x : Nat) (tl : List Int) (hx : x ≤ 1000000000) (h : (bytesOf s).drop p = varNums x ++ tl) : readVar s (p : Int) = ((x : Int), ((p + (varNums x).length : Nat) : Int), true) := by
  have hp : p < s.size := by
    rcases Nat.lt_or_ge p s.size with h1 | h1
    · exact h1
    · rw [List.drop_eq_nil_of_le (by rw [bytesOf_length]; exact h1)] at h
      have := congrArg List.length h
      simp only [List.length_nil, List.length_append] at this
      exact absurd (List.length_eq_zero_iff.1 (by omega)) (varNums_ne x)
  unfold readVar
  rw [if_pos ⟨by omega, by omega⟩]
  have := rvGo_vt s p tl 5 0 0 x (varNums_len 5 x (by omega) (by omega)) (fun _ => rfl) (by omega) (by simpa using h)
  have e : ((p : Nat) : Int).toNat = p := rfl
  rw [e, this]
  simp
theorem vt_len (n : Nat) : (vt n).size = (varNums n).length := by rw [← bytesOf_length, bytesOf_vt]

theorem i64_and255 (a : Int) : 0 ≤ Go.bits .and .i64 a 255 ∧ Go.bits .and .i64 a 255 ≤ 255 := by
  show 0 ≤ IntKind.i64.wrap ((BitVec.ofInt 64 a &&& BitVec.ofInt 64 255).toNat : Int) ∧ IntKind.i64.wrap ((BitVec.ofInt 64 a &&& BitVec.ofInt 64 255).toNat : Int) ≤ 255
  rw [BitVec.toNat_and, show (BitVec.ofInt 64 255).toNat = 255 from rfl, nat_mask8, IntKind.wrap_i64]
  omega
theorem rd_range {l : List Int} (hl : ∀ x ∈ l, (Lit.int .u8 x).wf = true) (i : Int) : 0 ≤ rd l i ∧ rd l i ≤ 255 := by
  unfold rd
  rw [List.getD_eq_getElem?_getD]
  cases h : l[i.toNat]? with
  | none => simp
  | some x =>
    have := hl x (List.mem_of_getElem? h)
    simp [Lit.wf, IntKind.min, IntKind.max, IntKind.bits, IntKind.signed] at this
    simp only [Option.getD_some]
    omega
theorem spec_l01New_l (l : List Int) : ∀ (d i : Nat) (h : Int), i + d = 4000 → ∃ h', Ev (fun k => spec_l01New.l0 k l h (i : Int)) (l, 0, h') := by
  intro d
  induction d with
  | zero =>
    intro i h h1
    refine ⟨h, Ev.step (fun k => by rw [spec_l01New.l0]) ?_⟩
    by_cases c : (i : Int) < (l.length : Int)
    · exact evp c (evn (by omega) (evs rfl))
    · exact evn c (evs rfl)
  | succ d ih =>
    intro i h h1
    by_cases c : (i : Int) < (l.length : Int)
    · obtain ⟨h', hh⟩ := ih (i + 1) (Go.bits .and .i64 (wrap64 ((wrap64 ((wrap64 (h * 131)) + (wrap64 (rd l (i : Int))))) + 7)) 1073741823) (by omega)
      refine ⟨h', Ev.step (fun k => by rw [spec_l01New.l0]) (evp c (evp (by omega) (evp (by omega) ?_)))⟩
      rw [w64s i (by omega)]
      exact hh
    · exact ⟨h, Ev.step (fun k => by rw [spec_l01New.l0]) (evn c (evs rfl))⟩
theorem spec_l01New_is (l : List Int) : ∃ h', Ev (fun k => spec_l01New.f k l) (l, 0, h') := spec_l01New_l l 4000 0 _ rfl
theorem spec_l01Byte_is (l : List Int) (hl : ∀ x ∈ l, (Lit.int .u8 x).wf = true) (hm : l.length ≤ 9223372036854775000) (i : Nat) (h : Int) : ∃ (x : Int) (i' : Nat) (h' : Int), spec_l01Byte.f l (i : Int) h = some (x, (i' : Int), h') ∧ 0 ≤ x ∧ x ≤ 255 := by
  unfold spec_l01Byte.f
  by_cases c : (i : Int) < (l.length : Int)
  · rw [if_pos c, if_pos (by omega)]
    rw [w64s i (by omega)]
    exact ⟨_, i + 1, _, rfl, i64_and255 _⟩
  · rw [if_neg c]
    exact ⟨_, i, _, rfl, i64_and255 _⟩
theorem spec_l01Below_is (l : List Int) (hl : ∀ x ∈ l, (Lit.int .u8 x).wf = true) (hm : l.length ≤ 9223372036854775000) (i : Nat) (h n : Int) (hn : 0 < n) : ∃ (x : Int) (i' : Nat) (h' : Int), spec_l01Below.f l (i : Int) h n = some (x, (i' : Int), h') ∧ 0 ≤ x ∧ x < n := by
  unfold spec_l01Below.f
  rw [if_neg (by omega)]
  by_cases c : n ≤ 256
  · rw [if_pos c]
    obtain ⟨x, i', h', e, r1, r2⟩ := spec_l01Byte_is l hl hm i h
    rw [e, Option.bind_some, if_neg (by omega)]
    refine ⟨_, i', h', rfl, ?_, ?_⟩
    · exact Int.tmod_nonneg _ r1
    · exact Int.tmod_lt_of_pos _ hn
  · rw [if_neg c]
    obtain ⟨x, i1, h1, e1, a1, a2⟩ := spec_l01Byte_is l hl hm i h
    obtain ⟨y, i2, h2, e2, b1, b2⟩ := spec_l01Byte_is l hl hm i1 h1
    obtain ⟨z, i3, h3, e3, c1, c2⟩ := spec_l01Byte_is l hl hm i2 h2
    obtain ⟨u, i4, h4, e4, d1, d2⟩ := spec_l01Byte_is l hl hm i3 h3
    rw [e1, Option.bind_some]
    dsimp only
    rw [e2, Option.bind_some]
    dsimp only
    rw [e3, Option.bind_some]
    dsimp only
    rw [e4, Option.bind_some, if_neg (by omega)]
    have q1 : wrap64 (x * 16777216) = x * 16777216 := w64 (by omega) (by omega)
    have q2 : wrap64 (y * 65536) = y * 65536 := w64 (by omega) (by omega)
    have q3 : wrap64 (z * 256) = z * 256 := w64 (by omega) (by omega)
    have q4 : wrap64 (x * 16777216 + y * 65536) = x * 16777216 + y * 65536 := w64 (by omega) (by omega)
    have q5 : wrap64 (x * 16777216 + y * 65536 + z * 256) = x * 16777216 + y * 65536 + z * 256 := w64 (by omega) (by omega)
    have q6 : wrap64 (x * 16777216 + y * 65536 + z * 256 + u) = x * 16777216 + y * 65536 + z * 256 + u := w64 (by omega) (by omega)
    rw [q1, q2, q3, q4, q5, q6]
    exact ⟨_, i4, h4, rfl, Int.tmod_nonneg _ (by omega), Int.tmod_lt_of_pos _ hn⟩

theorem spec_l01Text_l (l : List Int) (hl : ∀ x ∈ l, (Lit.int .u8 x).wf = true) (hm : l.length ≤ 9223372036854775000) (n : Int) (hn : n ≤ 5000) : ∀ (d i : Nat) (acc : List Int) (a : Nat) (h : Int), (i : Int) + d = max n 0 → acc.length = i →
    ∃ (t : ByteArray) (a' : Nat) (h' : Int), (t.size : Int) = max n 0 ∧ Ev (fun k => spec_l01Text.l0 k n acc (i : Int) l (a : Int) h) (t, (a' : Int), h') := by
  intro d
  induction d with
  | zero =>
    intro i acc a h h1 h2
    refine ⟨strOfNums acc, a, h, by rw [strOfNums_size]; omega, Ev.step (fun k => by rw [spec_l01Text.l0]) ?_⟩
    exact evn (by omega) (evs rfl)
  | succ d ih =>
    intro i acc a h h1 h2
    obtain ⟨x, a1, h1', e, _, _⟩ := spec_l01Byte_is l hl hm a h
    obtain ⟨t, a', h', t1, t2⟩ := ih (i + 1) (acc ++ [x % 256]) a1 h1' (by omega) (by rw [List.length_append, h2]; rfl)
    refine ⟨t, a', h', t1, Ev.step (fun k => by rw [spec_l01Text.l0]) (evp (by omega) (evb e ?_))⟩
    refine evp (by omega) ?_
    rw [w64s i (by omega)]
    exact t2
theorem spec_l01Text_is (l : List Int) (hl : ∀ x ∈ l, (Lit.int .u8 x).wf = true) (hm : l.length ≤ 9223372036854775000) (a : Nat) (h n : Int) : ∃ (t : ByteArray) (a' : Nat) (h' : Int), (t.size : Int) = max (min n 5000) 0 ∧ Ev (fun k => spec_l01Text.f k l (a : Int) h n) (t, (a' : Int), h') := by
  unfold spec_l01Text.f
  by_cases c : n > 5000
  · obtain ⟨t, a', h', t1, t2⟩ := spec_l01Text_l l hl hm 5000 (by omega) 5000 0 [] a h (by omega) rfl
    refine ⟨t, a', h', by omega, evp c ?_⟩
    refine Ev.step (fun k => by rw [spec_l01Text.j0]) ?_
    exact t2
  · obtain ⟨t, a', h', t1, t2⟩ := spec_l01Text_l l hl hm n (by omega) n.toNat 0 [] a h (by omega) rfl
    refine ⟨t, a', h', by omega, evn c ?_⟩
    refine Ev.step (fun k => by rw [spec_l01Text.j0]) ?_
    exact t2
theorem rd_mem (l : List Int) (i : Int) (h0 : 0 ≤ i) (h1 : i < l.length) : rd l i ∈ l := by
  unfold rd
  rw [List.getD_eq_getElem?_getD, List.getElem?_eq_getElem (by omega)]
  exact List.getElem_mem _
theorem spec_l01PickInt_is (l : List Int) (hl : ∀ x ∈ l, (Lit.int .u8 x).wf = true) (hm : l.length ≤ 9223372036854775000) (a : Nat) (h : Int) (s : List Int) (hs : 0 < s.length) : ∃ (x : Int) (a' : Nat) (h' : Int), spec_l01PickInt.f l (a : Int) h s = some (x, (a' : Int), h') ∧ x ∈ s := by
  unfold spec_l01PickInt.f
  obtain ⟨x, a', h', e, r1, r2⟩ := spec_l01Below_is l hl hm a h (s.length : Int) (by omega)
  rw [e, Option.bind_some, if_pos r1, if_pos r2]
  exact ⟨_, a', h', rfl, rd_mem s x r1 r2⟩
theorem spec_l05Role_is (l : List Int) (hl : ∀ x ∈ l, (Lit.int .u8 x).wf = true) (hm : l.length ≤ 9223372036854775000) (i : Nat) (h : Int) : ∃ (a b : Int) (i' : Nat) (h' : Int), spec_l05Role.f l (i : Int) h = some (a, b, (i' : Int), h') ∧ roleB a b = true := by
  unfold spec_l05Role.f
  obtain ⟨x, i1, h1, e, x0, x1⟩ := spec_l01Below_is l hl hm i h 3 (by decide)
  rw [e, Option.bind_some]
  obtain ⟨y, i2, h2, e2, y0, y1⟩ := spec_l01Below_is l hl hm i1 h1 2 (by decide)
  dsimp only
  rw [e2, Option.bind_some]
  refine ⟨_, _, _, _, rfl, ?_⟩
  unfold roleB
  rw [decide_eq_true (show 0 ≤ x ∧ x ≤ 5 by omega), decide_eq_true (show 0 ≤ y ∧ y ≤ 3 by omega)]
  rfl
theorem spec_l05Cred_is (l : List Int) (hl : ∀ x ∈ l, (Lit.int .u8 x).wf = true) (hm : l.length ≤ 9223372036854775000) (i : Nat) (h : Int) : ∃ (a0 a1 a2 a3 a4 a5 a6 a7 a8 a9 : Int) (i' : Nat) (h' : Int), spec_l05Cred.f l (i : Int) h = some (a0, a1, a2, a3, a4, a5, a6, a7, a8, a9, (i' : Int), h') ∧ credB a0 a1 a2 a3 a4 a5 a6 a7 a8 a9 = true := by
  unfold spec_l05Cred.f
  obtain ⟨k, i1, h1, e1, k1⟩ := spec_l01PickInt_is l hl hm i h [1, 1, 2, 3, 4] (by decide)
  rw [e1, Option.bind_some]
  obtain ⟨a, b, i2, h2, e2, r1⟩ := spec_l05Role_is l hl hm i1 h1
  dsimp only
  rw [e2, Option.bind_some]
  obtain ⟨u, i3, h3, e3, u1⟩ := spec_l01PickInt_is l hl hm i2 h2 [5, 50, 9999, 2] (by decide)
  dsimp only
  rw [e3, Option.bind_some]
  obtain ⟨z, i4, h4, e4, z0, z1⟩ := spec_l01Below_is l hl hm i3 h3 2 (by decide)
  dsimp only
  rw [e4, Option.bind_some]
  dsimp only
  have hu : 1 ≤ u ∧ u ≤ 9999 := by
    have hx : ∀ x ∈ ([5, 50, 9999, 2] : List Int), 1 ≤ x ∧ x ≤ 9999 := by decide
    exact hx u u1
  have hz : 0 ≤ z ∧ z ≤ 99 := by omega
  by_cases c1 : k = 1
  · rw [if_pos c1]
    obtain ⟨x, i5, h5, e5, x0, x1⟩ := spec_l01Below_is l hl hm i4 h4 6 (by decide)
    rw [e5, Option.bind_some]
    refine ⟨_, _, _, _, _, _, _, _, _, _, _, _, rfl, ?_⟩
    unfold credB
    rw [r1, decide_eq_true hu, decide_eq_true hz, if_pos c1, decide_eq_true (show 0 ≤ x ∧ x ≤ 5 by omega)]
    rfl
  rw [if_neg c1]
  by_cases c2 : k = 2
  · rw [if_pos c2]
    obtain ⟨x, y, i5, h5, e5, r2⟩ := spec_l05Role_is l hl hm i4 h4
    rw [e5, Option.bind_some]
    refine ⟨_, _, _, _, _, _, _, _, _, _, _, _, rfl, ?_⟩
    unfold credB
    rw [r1, decide_eq_true hu, decide_eq_true hz, if_neg c1, if_pos c2, r2]
    rfl
  rw [if_neg c2]
  by_cases c3 : k = 3
  · rw [if_pos c3]
    obtain ⟨x, y, i5, h5, e5, r2⟩ := spec_l05Role_is l hl hm i4 h4
    rw [e5, Option.bind_some]
    obtain ⟨v, i6, h6, e6, v0, v1⟩ := spec_l01Below_is l hl hm i5 h5 2 (by decide)
    dsimp only
    rw [e6, Option.bind_some]
    refine ⟨_, _, _, _, _, _, _, _, _, _, _, _, rfl, ?_⟩
    have r3 : roleB 0 v = true := by
      unfold roleB
      rw [decide_eq_true (show (0 : Int) ≤ 0 ∧ (0 : Int) ≤ 5 by decide), decide_eq_true (show 0 ≤ v ∧ v ≤ 3 by omega)]
      rfl
    unfold credB
    rw [r1, decide_eq_true hu, decide_eq_true hz, if_neg c1, if_neg c2, if_pos c3, r2, r3]
    rfl
  rw [if_neg c3]
  by_cases c4 : k = 4
  · rw [if_pos c4]
    obtain ⟨x, y, i5, h5, e5, r2⟩ := spec_l05Role_is l hl hm i4 h4
    rw [e5, Option.bind_some]
    obtain ⟨v, t, i6, h6, e6, r3⟩ := spec_l05Role_is l hl hm i5 h5
    dsimp only
    rw [e6, Option.bind_some]
    refine ⟨_, _, _, _, _, _, _, _, _, _, _, _, rfl, ?_⟩
    unfold credB
    rw [r1, decide_eq_true hu, decide_eq_true hz, if_neg c1, if_neg c2, if_neg c3, if_pos c4, r2, r3]
    rfl
  · have hx : ∀ x ∈ ([1, 1, 2, 3, 4] : List Int), x = 1 ∨ x = 2 ∨ x = 3 ∨ x = 4 := by decide
    have := hx k k1
    omega

theorem spec_l05Any_is (l : List Int) (hl : ∀ x ∈ l, (Lit.int .u8 x).wf = true) (hm : l.length ≤ 9223372036854775000) (i : Nat) (h : Int) : ∃ (a0 a1 a2 a3 a4 a5 a6 a7 a8 a9 : Int) (i' : Nat) (h' : Int), spec_l05Any.f l (i : Int) h = some (a0, a1, a2, a3, a4, a5, a6, a7, a8, a9, (i' : Int), h') := by
  unfold spec_l05Any.f
  obtain ⟨k, i1, h1, e1, k0, k1⟩ := spec_l01Below_is l hl hm i h 10 (by decide)
  rw [e1, Option.bind_some]
  obtain ⟨y, i2, h2, e2, y0, y1⟩ := spec_l01Below_is l hl hm i1 h1 60 (by decide)
  dsimp only
  rw [e2, Option.bind_some]
  obtain ⟨a0, a1, a2, a3, a4, a5, a6, a7, a8, a9, i3, h3, e3, -⟩ := spec_l05Cred_is l hl hm i2 h2
  dsimp only
  rw [e3, Option.bind_some]
  dsimp only
  by_cases c0 : k = 0
  · rw [if_pos c0]
    exact ⟨_, _, _, _, _, _, _, _, _, _, _, _, rfl⟩
  rw [if_neg c0]
  by_cases c1 : k = 1
  · rw [if_pos c1]
    exact ⟨_, _, _, _, _, _, _, _, _, _, _, _, rfl⟩
  rw [if_neg c1]
  by_cases c2 : k = 2
  · rw [if_pos c2]
    exact ⟨_, _, _, _, _, _, _, _, _, _, _, _, rfl⟩
  rw [if_neg c2]
  by_cases c3 : k = 3
  · rw [if_pos c3]
    exact ⟨_, _, _, _, _, _, _, _, _, _, _, _, rfl⟩
  rw [if_neg c3]
  by_cases c4 : k = 4
  · have t0 : 0 ≤ Int.tmod y 3 := Int.tmod_nonneg _ y0
    have t1 : Int.tmod y 3 < (([0, 10000, 1] : List Int).length : Int) := Int.tmod_lt_of_pos _ (by decide)
    rw [if_pos c4, Option.bind_some, if_pos t0, if_pos t1]
    exact ⟨_, _, _, _, _, _, _, _, _, _, _, _, rfl⟩
  rw [if_neg c4]
  exact ⟨_, _, _, _, _, _, _, _, _, _, _, _, rfl⟩
theorem spec_l05AnyRole_is (l : List Int) (hl : ∀ x ∈ l, (Lit.int .u8 x).wf = true) (hm : l.length ≤ 9223372036854775000) (i : Nat) (h : Int) : ∃ (a b : Int) (i' : Nat) (h' : Int), spec_l05AnyRole.f l (i : Int) h = some (a, b, (i' : Int), h') := by
  unfold spec_l05AnyRole.f
  obtain ⟨a, b, i1, h1, e1, -⟩ := spec_l05Role_is l hl hm i h
  rw [e1, Option.bind_some]
  obtain ⟨y, i2, h2, e2, y0, y1⟩ := spec_l01Below_is l hl hm i1 h1 8 (by decide)
  dsimp only
  rw [e2, Option.bind_some]
  dsimp only
  by_cases c0 : y = 0
  · obtain ⟨x, i3, h3, e3, -⟩ := spec_l01PickInt_is l hl hm i2 h2 [(-1), 6, 5] (by decide)
    rw [if_pos c0, e3, Option.bind_some]
    exact ⟨_, _, _, _, rfl⟩
  rw [if_neg c0]
  by_cases c1 : y = 1
  · obtain ⟨x, i3, h3, e3, -⟩ := spec_l01PickInt_is l hl hm i2 h2 [(-1), 4, 3] (by decide)
    rw [if_pos c1, e3, Option.bind_some]
    exact ⟨_, _, _, _, rfl⟩
  rw [if_neg c1]
  exact ⟨_, _, _, _, rfl⟩

theorem spec_l01Once_is (l : List Int) (hl : ∀ x ∈ l, (Lit.int .u8 x).wf = true) (hm : l.length ≤ 9223372036854775000) (i : Nat) (h n : Int) (hn : 0 < n) : ∃ (b : Bool) (i' : Nat) (h' : Int), spec_l01Once.f l (i : Int) h n = some (b, (i' : Int), h') := by
  obtain ⟨y, i2, h2, e3, y0, y1⟩ := spec_l01Below_is l hl hm i h n hn
  refine ⟨(y == 0), i2, h2, ?_⟩
  unfold spec_l01Once.f
  rw [e3, Option.bind_some]
theorem spec_DrawWord_is (l : List Int) (hl : ∀ x ∈ l, (Lit.int .u8 x).wf = true) (hm : l.length ≤ 9223372036854775000) : ∃ (a0 a1 a2 a3 a4 a5 a6 a7 a8 a9 : Int), Ev (fun k => spec_DrawWord.f k l) (a0, a1, a2, a3, a4, a5, a6, a7, a8, a9) ∧ credB a0 a1 a2 a3 a4 a5 a6 a7 a8 a9 = true := by
  obtain ⟨h0, e0⟩ := spec_l01New_is l
  obtain ⟨a0, a1, a2, a3, a4, a5, a6, a7, a8, a9, i2, h2, e2, e3⟩ := spec_l05Cred_is l hl hm 0 h0
  exact ⟨a0, a1, a2, a3, a4, a5, a6, a7, a8, a9, Ev.bind e0 (evb e2 (Ev.now _)), e3⟩
theorem spec_DrawCredOk_is (l : List Int) (hl : ∀ x ∈ l, (Lit.int .u8 x).wf = true) (hm : l.length ≤ 9223372036854775000) : ∃ (a0 a1 a2 a3 a4 a5 a6 a7 a8 a9 : Int), Ev (fun k => spec_DrawCredOk.f k l) (a0, a1, a2, a3, a4, a5, a6, a7, a8, a9) := by
  obtain ⟨h0, e0⟩ := spec_l01New_is l
  obtain ⟨a0, a1, a2, a3, a4, a5, a6, a7, a8, a9, i2, h2, e2⟩ := spec_l05Any_is l hl hm 0 h0
  exact ⟨a0, a1, a2, a3, a4, a5, a6, a7, a8, a9, Ev.bind e0 (evb e2 (Ev.now _))⟩
theorem spec_DrawCredLess_is (l : List Int) (hl : ∀ x ∈ l, (Lit.int .u8 x).wf = true) (hm : l.length ≤ 9223372036854775000) : ∃ (a0 a1 a2 a3 a4 a5 a6 a7 a8 a9 b0 b1 b2 b3 b4 b5 b6 b7 b8 b9 : Int), Ev (fun k => spec_DrawCredLess.f k l) (a0, a1, a2, a3, a4, a5, a6, a7, a8, a9, b0, b1, b2, b3, b4, b5, b6, b7, b8, b9) := by
  obtain ⟨h0, e0⟩ := spec_l01New_is l
  obtain ⟨a0, a1, a2, a3, a4, a5, a6, a7, a8, a9, i2, h2, e2⟩ := spec_l05Any_is l hl hm 0 h0
  obtain ⟨b0, b1, b2, b3, b4, b5, b6, b7, b8, b9, i3, h3, e3⟩ := spec_l05Any_is l hl hm i2 h2
  exact ⟨a0, a1, a2, a3, a4, a5, a6, a7, a8, a9, b0, b1, b2, b3, b4, b5, b6, b7, b8, b9, Ev.bind e0 (evb e2 (evb e3 (Ev.now _)))⟩
theorem spec_DrawRoleOk_is (l : List Int) (hl : ∀ x ∈ l, (Lit.int .u8 x).wf = true) (hm : l.length ≤ 9223372036854775000) : ∃ a b : Int, Ev (fun k => spec_DrawRoleOk.f k l) (a, b) := by
  obtain ⟨h0, e0⟩ := spec_l01New_is l
  obtain ⟨a, b, i2, h2, e2⟩ := spec_l05AnyRole_is l hl hm 0 h0
  exact ⟨a, b, Ev.bind e0 (evb e2 (Ev.now _))⟩
theorem credT_size (k o n w aw an bw bn u z : Int) : (credT k o n w aw an bw bn u z).size ≤ 90 := by
  unfold credT
  by_cases hc : credB k o n w aw an bw bn u z = true
  · rw [if_pos hc]
    obtain ⟨s0, s1, s2, s3, s4, s5, s6, s7, s8, s9⟩ := credB_small hc
    have q0 := vt_small s0
    have q1 := vt_small s1
    have q2 := vt_small s2
    have q3 := vt_small s3
    have q4 := vt_small s4
    have q5 := vt_small s5
    have q6 := vt_small s6
    have q7 := vt_small s7
    have q8 := vt_small s8
    have q9 := vt_small s9
    simp only [ByteArray.size_append]
    omega
  · rw [if_neg hc]
    decide
theorem spec_Spoilt_j (l : List Int) (hl : ∀ x ∈ l, (Lit.int .u8 x).wf = true) (hm : l.length ≤ 9223372036854775000) (s : ByteArray) (hs : s.size ≤ 1000) (b : Bool) (i : Nat) (h : Int) (hb : b = true) : ∃ (t : ByteArray) (i' : Nat) (h' : Int), Ev (fun k => spec_l02Spoilt.j0 k s b l (i : Int) h) (t, (i' : Int), h') ∧ t.size ≤ 3000 := by
  by_cases c : (s.size : Int) > 0
  · obtain ⟨x, i1, h1, e1, x0, x1⟩ := spec_l01Below_is l hl hm i h (s.size : Int) (by omega)
    obtain ⟨t, i2, h2, q, e2⟩ := spec_l01Text_is l hl hm i1 h1 1
    have ht : t.size = 1 := by omega
    have ew : wrap64 (x + 1) = x + 1 := w64 (by omega) (by omega)
    have z1 : (s.extract 0 x.toNat).size ≤ 1000 := by rw [ByteArray.size_extract]; omega
    have z2 : (s.extract (x + 1).toNat s.size).size ≤ 1000 := by rw [ByteArray.size_extract]; omega
    have z3 : (s.extract 0 x.toNat ++ t).size ≤ 1001 := by rw [ByteArray.size_append]; omega
    refine ⟨(s.extract 0 x.toNat ++ t) ++ s.extract (x + 1).toNat s.size, i2, h2, ?_, by rw [ByteArray.size_append]; omega⟩
    refine Ev.step (fun k => by rw [spec_l02Spoilt.j0]) ?_
    refine evp hb (evp c ?_)
    refine evb e1 ?_
    dsimp only
    refine evp x0 ?_
    refine evp (by omega) ?_
    refine Ev.bind e2 ?_
    dsimp only
    rw [ew]
    refine evp (by omega) ?_
    refine evp (by omega) ?_
    refine evp (by omega) ?_
    refine evp (by omega) ?_
    exact Ev.now _
  · refine ⟨s, i, h, ?_, by omega⟩
    refine Ev.step (fun k => by rw [spec_l02Spoilt.j0]) ?_
    refine evp hb ?_
    exact evn c (Ev.now _)
theorem spec_Spoilt_is (l : List Int) (hl : ∀ x ∈ l, (Lit.int .u8 x).wf = true) (hm : l.length ≤ 9223372036854775000) (s : ByteArray) (hs : s.size ≤ 1000) (i : Nat) (h : Int) : ∃ (t : ByteArray) (i' : Nat) (h' : Int), Ev (fun k => spec_l02Spoilt.f k l (i : Int) h s) (t, (i' : Int), h') ∧ t.size ≤ 3000 := by
  obtain ⟨v, i1, h1, e1, v0, v1⟩ := spec_l01Below_is l hl hm i h 12 (by decide)
  by_cases c0 : v = 0
  · obtain ⟨t, i2, h2, q, e2⟩ := spec_l01Text_is l hl hm i1 h1 1
    have ht : t.size = 1 := by omega
    exact ⟨s ++ t, i2, h2, evb e1 (evp c0 (Ev.bind e2 (evp (by dsimp only; omega) (Ev.now _)))), by rw [ByteArray.size_append]; omega⟩
  by_cases c1 : v = 1
  · have ew : wrap64 ((s.size : Int) + 1) = (s.size : Int) + 1 := w64 (by omega) (by omega)
    obtain ⟨x, i2, h2, e2, x0, x1⟩ := spec_l01Below_is l hl hm i1 h1 ((s.size : Int) + 1) (by omega)
    refine ⟨s.extract 0 x.toNat, i2, h2, evb e1 (evn c0 (evp c1 ?_)), by rw [ByteArray.size_extract]; omega⟩
    rw [ew]
    exact evb e2 (evp x0 (evp (by dsimp only; omega) (Ev.now _)))
  by_cases c2 : v = 2
  · obtain ⟨t, i2, h2, e2, q⟩ := spec_Spoilt_j l hl hm s hs (v == 2) i1 h1 (by rw [c2]; rfl)
    exact ⟨t, i2, h2, evb e1 (evn c0 (evn c1 (evp c2 e2))), q⟩
  by_cases c3 : v = 3
  · obtain ⟨t, i2, h2, e2, q⟩ := spec_Spoilt_j l hl hm s hs (v == 3) i1 h1 (by rw [c3]; rfl)
    exact ⟨t, i2, h2, evb e1 (evn c0 (evn c1 (evn c2 e2))), q⟩
  · have hf : (v == 3) = false := by simpa using c3
    exact ⟨s, i1, h1, evb e1 (evn c0 (evn c1 (evn c2 (Ev.step (fun k => by rw [spec_l02Spoilt.j0]) (evn (by rw [hf]; decide) (Ev.now _)))))), by omega⟩
theorem spec_DrawReadCred_is (l : List Int) (hl : ∀ x ∈ l, (Lit.int .u8 x).wf = true) (hm : l.length ≤ 9223372036854775000) : ∃ t : ByteArray, Ev (fun k => spec_DrawReadCred.f k l) t ∧ t.size ≤ 3000 := by
  obtain ⟨h0, e0⟩ := spec_l01New_is l
  obtain ⟨a0, a1, a2, a3, a4, a5, a6, a7, a8, a9, i2, h2, e2⟩ := spec_l05Any_is l hl hm 0 h0
  have hs := credT_size a0 a1 a2 a3 a4 a5 a6 a7 a8 a9
  have ec := spec_CredText_is a0 a1 a2 a3 a4 a5 a6 a7 a8 a9
  generalize credT a0 a1 a2 a3 a4 a5 a6 a7 a8 a9 = s at hs ec
  obtain ⟨b, i3, h3, e3⟩ := spec_l01Once_is l hl hm i2 h2 3 (by decide)
  by_cases c : b = true
  · obtain ⟨t, i4, h4, e4, q⟩ := spec_Spoilt_is l hl hm s (by omega) i3 h3
    exact ⟨t, Ev.bind e0 (evb e2 (Ev.bind ec (evb e3 (evp c (Ev.bind e4 (Ev.now _)))))), q⟩
  · exact ⟨s, Ev.bind e0 (evb e2 (Ev.bind ec (evb e3 (evn c (Ev.now _))))), by omega⟩

theorem rdN_vts (s : ByteArray) : ∀ (vs : List Int) (p : Nat) (acc : List Int) (tl : List Int), (∀ v ∈ vs, small v) → (bytesOf s).drop p = vs.flatMap (fun v => varNums v.toNat) ++ tl →
    rdN s vs.length (p : Int) acc = some (acc ++ vs, ((p + (vs.flatMap fun v => varNums v.toNat).length : Nat) : Int))
  | [], p, acc, tl, _, _ => by rw [List.append_nil]; rfl
  | v :: vs, p, acc, tl, hv, h => by
    have hs := hv v (List.mem_cons_self ..)
    have h1 : (bytesOf s).drop p = varNums v.toNat ++ (vs.flatMap (fun v => varNums v.toNat) ++ tl) := by rw [h, List.flatMap_cons, List.append_assoc]
    have hr := readVar_vt s p v.toNat _ (by unfold small at hs; omega) h1
    have h2 : (bytesOf s).drop (p + (varNums v.toNat).length) = vs.flatMap (fun v => varNums v.toNat) ++ tl := by
      rw [← List.drop_drop, h1, List.drop_left]
    have ih := rdN_vts s vs (p + (varNums v.toNat).length) (acc ++ [v]) tl (fun x hx => hv x (List.mem_cons_of_mem _ hx)) h2
    have hvv : ((v.toNat : Nat) : Int) = v := by unfold small at hs; omega
    rw [List.length_cons, rdN, hr, if_pos rfl]
    dsimp only
    rw [hvv, ih, List.append_assoc, List.flatMap_cons, List.length_append, Nat.add_assoc]
    rfl
theorem credT_bytes {k o n w aw an bw bn u z : Int} (hc : credB k o n w aw an bw bn u z = true) : bytesOf (credT k o n w aw an bw bn u z) = [k, o, n, w, aw, an, bw, bn, u, z].flatMap (fun v => varNums v.toNat) := by
  unfold credT
  rw [if_pos hc]
  simp only [bytesOf_append, bytesOf_vt, List.flatMap_cons, List.flatMap_nil, List.append_assoc, List.append_nil]
theorem readCred_credT {k o n w aw an bw bn u z : Int} (hc : credB k o n w aw an bw bn u z = true) : readCred (credT k o n w aw an bw bn u z) = (k, o, n, w, aw, an, bw, bn, u, z, true) := by
  have hb := credT_bytes hc
  obtain ⟨s0, s1, s2, s3, s4, s5, s6, s7, s8, s9⟩ := credB_small hc
  have hr := rdN_vts (credT k o n w aw an bw bn u z) [k, o, n, w, aw, an, bw, bn, u, z] 0 [] [] (by
    intro v hv
    simp only [List.mem_cons, List.not_mem_nil, or_false] at hv
    rcases hv with rfl | rfl | rfl | rfl | rfl | rfl | rfl | rfl | rfl | rfl <;> assumption) (by rw [List.drop_zero, List.append_nil]; exact hb)
  have hl : ([k, o, n, w, aw, an, bw, bn, u, z].flatMap (fun v => varNums v.toNat)).length = (credT k o n w aw an bw bn u z).size := by rw [← hb, bytesOf_length]
  rw [hl, Nat.zero_add] at hr
  have hr' : rdN (credT k o n w aw an bw bn u z) 10 0 [] = some ([k, o, n, w, aw, an, bw, bn, u, z], ((credT k o n w aw an bw bn u z).size : Int)) := hr
  unfold readCred
  rw [hr']
  dsimp only
  rw [if_pos ⟨hc, rfl⟩]
  rfl
theorem less_asym : ∀ x y : List UInt8, Op.bytesLess x y = true → Op.bytesLess y x = false
  | [], [], h => by simp [Op.bytesLess] at h
  | [], _ :: _, _ => rfl
  | _ :: _, [], h => by simp [Op.bytesLess] at h
  | a :: x, b :: y, h => by
    have ih := less_asym x y
    simp only [Op.bytesLess, Bool.or_eq_true, Bool.and_eq_true, decide_eq_true_eq, beq_iff_eq] at h
    simp only [Op.bytesLess, Bool.or_eq_false_iff, Bool.and_eq_false_iff, decide_eq_false_iff_not, beq_eq_false_iff_ne]
    rcases h with h | ⟨rfl, h⟩
    · refine ⟨?_, Or.inl ?_⟩
      · rw [UInt8.lt_iff_toNat_lt] at h ⊢
        omega
      · rintro rfl
        rw [UInt8.lt_iff_toNat_lt] at h
        omega
    · refine ⟨?_, Or.inr (ih h)⟩
      rw [UInt8.lt_iff_toNat_lt]
      omega
theorem place_in (w n : Int) : place w n ≥ 0 ∧ place w n < 256 := by
  unfold place
  by_cases h : roleB w n = true
  · rw [if_pos h]
    have h0 := bt_lo (dig (vt w.toNat ++ vt n.toNat)) 0
    have h1 := bt_hi (dig (vt w.toNat ++ vt n.toNat)) 0
    rw [w64 (by omega) (by omega)]
    omega
  · rw [if_neg h]
    decide
theorem FnWords : laws_FnWords.Pure := by
  intro l hm hm2 hl
  refine Ev.rounds (g := fun k => laws_FnWords.f k l) ?_
  unfold laws_FnWords.f
  refine evb (a := decide ((l.length : Int) > 1048576)) rfl ?_
  by_cases h0 : (l.length : Int) > 1048576
  · exact evp (decide_eq_true h0) (Ev.now _)
  have hlen : l.length ≤ 9223372036854775000 := by omega
  refine evn (by simpa using h0) ?_
  obtain ⟨c0, c1, c2, c3, c4, c5, c6, c7, c8, c9, e1, hc⟩ := spec_DrawWord_is l hl hlen
  obtain ⟨u, e2, hu⟩ := spec_DrawReadCred_is l hl hlen
  obtain ⟨d0, d1, d2, d3, d4, d5, d6, d7, d8, d9, e3⟩ := spec_DrawCredOk_is l hl hlen
  obtain ⟨a0, a1, a2, a3, a4, a5, a6, a7, a8, a9, b0, b1, b2, b3, b4, b5, b6, b7, b8, b9, e4⟩ := spec_DrawCredLess_is l hl hlen
  obtain ⟨r0, r1, e5⟩ := spec_DrawRoleOk_is l hl hlen
  have hsz := credT_size c0 c1 c2 c3 c4 c5 c6 c7 c8 c9
  have er := impl_ReadCred_is (credT c0 c1 c2 c3 c4 c5 c6 c7 c8 c9) (by omega)
  rw [readCred_credT hc] at er
  refine Ev.bind e1 (Ev.bind (impl_CredText_is c0 c1 c2 c3 c4 c5 c6 c7 c8 c9) (Ev.bind er (Ev.bind e2 (Ev.bind (impl_ReadCred_is u (by omega)) (Ev.bind (spec_ReadCred_is u (by omega)) (Ev.bind e3 (Ev.bind e4 (Ev.bind e5 (Ev.bind (impl_PlaceOf_is c1 c2) ?_)))))))))
  refine evp rfl (evp (by simp) (Ev.bind (evo fun m => impl_CredOk_is m c0 c1 c2 c3 c4 c5 c6 c7 c8 c9) (evp hc (evp (by simp) (evp (by simp) ?_)))))
  refine Ev.bind (evo fun m => impl_CredOk_is m d0 d1 d2 d3 d4 d5 d6 d7 d8 d9) (Ev.bind (evo fun m => spec_CredOk_is m d0 d1 d2 d3 d4 d5 d6 d7 d8 d9) (evp (by simp) ?_))
  refine Ev.bind (impl_CredText_is d0 d1 d2 d3 d4 d5 d6 d7 d8 d9) (Ev.bind (spec_CredText_is d0 d1 d2 d3 d4 d5 d6 d7 d8 d9) (evp rfl ?_))
  refine Ev.bind (impl_CredLess_is a0 a1 a2 a3 a4 a5 a6 a7 a8 a9 b0 b1 b2 b3 b4 b5 b6 b7 b8 b9) (Ev.bind (spec_CredLess_is a0 a1 a2 a3 a4 a5 a6 a7 a8 a9 b0 b1 b2 b3 b4 b5 b6 b7 b8 b9) (evp (by simp) ?_))
  refine Ev.bind (impl_CredLess_is a0 a1 a2 a3 a4 a5 a6 a7 a8 a9 b0 b1 b2 b3 b4 b5 b6 b7 b8 b9) ?_
  obtain ⟨p0, p1⟩ := place_in c1 c2
  by_cases q : Op.bytesLess (credT a0 a1 a2 a3 a4 a5 a6 a7 a8 a9).toList (credT b0 b1 b2 b3 b4 b5 b6 b7 b8 b9).toList = true
  · refine evp q (Ev.bind (impl_CredLess_is b0 b1 b2 b3 b4 b5 b6 b7 b8 b9 a0 a1 a2 a3 a4 a5 a6 a7 a8 a9) (evn (by rw [less_asym _ _ q]; decide) ?_))
    exact evb (impl_RoleOk_is r0 r1) (evb (spec_RoleOk_is r0 r1) (evp (by simp) (Ev.bind (impl_PlaceOf_is r0 r1) (Ev.bind (spec_PlaceOf_is r0 r1) (evp rfl (evp p0 (evs (decide_eq_true p1))))))))
  · refine evn q ?_
    exact evb (impl_RoleOk_is r0 r1) (evb (spec_RoleOk_is r0 r1) (evp (by simp) (Ev.bind (impl_PlaceOf_is r0 r1) (Ev.bind (spec_PlaceOf_is r0 r1) (evp rfl (evp p0 (evs (decide_eq_true p1))))))))

end Go.Proofs.Ythodhbgocnbddaa.Pure
