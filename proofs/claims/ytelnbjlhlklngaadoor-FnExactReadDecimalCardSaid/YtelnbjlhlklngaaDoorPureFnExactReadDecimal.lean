/-
The law FnExactReadDecimal of the given program answers true at every input: the plain statement that is left when the printed walk has stepped through the code.
Conditions: the bounds of the given row (sizes of texts and lists, numbers of their kinds); none of our own.
-/
import Derived.Test.YtelnbjlhlklngaaDoorPFnExactReadDecimalx1
import Derived.Laws.BitsAllLaws
namespace Go.Proofs.YtelnbjlhlklngaaDoor.Pure
open Go.RowKit Go.Proofs.YtelnbjlhlklngaaDoor.PFnExactReadDecimal Go.Proofs.YtelnbjlhlklngaaDoorW.PrintWords Go.Proofs.YtelnbjlhlklngaaDoorW.PrintLast Go.Proofs.YtelnbjlhlklngaaDoorW.PrintMore
set_option linter.unusedVariables false

theorem evp {α : Type} {c : Prop} [Decidable c] {f g : Nat → Option α} {r : α} (hc : c) (h : Ev f r) : Ev (fun k => if c then f k else g k) r := Ev.congr (fun _ => if_pos hc) h
theorem evn {α : Type} {c : Prop} [Decidable c] {f g : Nat → Option α} {r : α} (hc : ¬ c) (h : Ev g r) : Ev (fun k => if c then f k else g k) r := Ev.congr (fun _ => if_neg hc) h
theorem evs {α : Type} {x y : α} (h : x = y) : Ev (fun _ => some x) y := by subst h; exact Ev.now _
theorem evc {α : Type} {x : Option α} {y : α} (h : x = some y) : Ev (fun _ => x) y := by subst h; exact Ev.now _
theorem w64 {n : Int} (h1 : -9223372036854775808 ≤ n) (h2 : n ≤ 9223372036854775807) : wrap64 n = n := IntWalk.wrap64_in n ⟨h1, h2⟩
theorem w64n (n : Nat) (h : n ≤ 9223372036854775807) : wrap64 (n : Int) = (n : Int) := w64 (by omega) (by omega)
theorem w64s (n : Nat) (h : n + 1 ≤ 9223372036854775807) : wrap64 ((n : Int) + 1) = ((n + 1 : Nat) : Int) := by rw [w64 (by omega) (by omega)]; rfl
theorem w64a (a b : Nat) (h : a + b ≤ 9223372036854775807) : wrap64 ((a : Int) + (b : Int)) = ((a + b : Nat) : Int) := by rw [w64 (by omega) (by omega)]; rfl
theorem w64m (a b : Nat) (h : a * b ≤ 9223372036854775807) : wrap64 ((a : Int) * (b : Int)) = ((a * b : Nat) : Int) := by
  have e : ((a * b : Nat) : Int) = (a : Int) * (b : Int) := Int.natCast_mul a b
  rw [w64 (by omega) (by omega), e]
theorem wf64 {n : Int} (h : (Lit.int .i64 n).wf = true) : -9223372036854775808 ≤ n ∧ n ≤ 9223372036854775807 := by
  simp [Lit.wf, IntKind.min, IntKind.max, IntKind.bits, IntKind.signed] at h
  omega
theorem bt_lo (s : ByteArray) (i : Int) : 0 ≤ bt s i := (bt_range s i).1
theorem bt_hi (s : ByteArray) (i : Int) : bt s i ≤ 255 := (bt_range s i).2
theorem wfu32 {n : Int} (h : (Lit.int .u32 n).wf = true) : 0 ≤ n ∧ n < 4294967296 := by
  simp [Lit.wf, IntKind.min, IntKind.max, IntKind.bits, IntKind.signed] at h
  omega
theorem evb {α β : Type} {x : Option α} {f : Nat → α → Option β} {a : α} {r : β} (h : x = some a) (k : Ev (fun n => f n a) r) : Ev (fun n => x.bind (f n)) r := Ev.bind (g := fun _ => x) (evc h) k
theorem i64_nat (a b : Nat) (ha : a < 9223372036854775808) (hb : b < 9223372036854775808) : Go.bits .and .i64 (a : Int) (b : Int) = ((a &&& b : Nat) : Int) ∧ Go.bits .or .i64 (a : Int) (b : Int) = ((a ||| b : Nat) : Int) :=
  bits_nat .i64 63 (by decide) (fun m h0 h1 => by rw [IntKind.wrap_i64]; omega) a b ha hb

theorem tl_inj {a b : ByteArray} : a.toList = b.toList ↔ a = b := by
  rw [ByteArray.toList_eq, ByteArray.toList_eq]
  exact ⟨fun h => ByteArray.ext (Array.toList_inj.mp h), fun h => by rw [h]⟩
theorem son_bytesOf (s : ByteArray) : strOfNums (bytesOf s) = s := by
  apply tl_inj.1
  rw [ByteArray.toList_eq, ByteArray.toList_eq, strOfNums_data, bytesOf, List.map_map]
  have : ((fun n : Int => UInt8.ofNat n.toNat) ∘ fun b : UInt8 => (b.toNat : Int)) = id := by
    funext b; simp
  rw [this, List.map_id]
theorem bytesOf_son (l : List Int) (h : ∀ b ∈ l, 0 ≤ b ∧ b ≤ 255) : bytesOf (strOfNums l) = l := by
  rw [bytesOf, strOfNums_data, List.map_map]
  have : l.map ((fun b : UInt8 => (b.toNat : Int)) ∘ fun n : Int => UInt8.ofNat n.toNat) = l.map id := by
    apply List.map_congr_left
    intro b hb
    have := h b hb
    simp only [Function.comp, id, UInt8.toNat_ofNat']
    omega
  rw [this, List.map_id]
theorem bytesOf_inj {a b : ByteArray} (h : bytesOf a = bytesOf b) : a = b := by rw [← son_bytesOf a, ← son_bytesOf b, h]
theorem bytesOf_extract (s : ByteArray) (a b : Nat) : bytesOf (s.extract a b) = ((bytesOf s).drop a).take (b - a) := by
  unfold bytesOf
  rw [ByteArray.data_extract]
  simp [List.map_take, List.map_drop, List.extract]
theorem bytesOf_append (a b : ByteArray) : bytesOf (a ++ b) = bytesOf a ++ bytesOf b := by
  unfold bytesOf
  rw [ByteArray.data_append]
  simp
theorem bytesOf_range (s : ByteArray) : ∀ b ∈ bytesOf s, 0 ≤ b ∧ b ≤ 255 := by
  intro b hb
  unfold bytesOf at hb
  obtain ⟨c, _, rfl⟩ := List.mem_map.1 hb
  have := c.toNat_lt
  omega
theorem bytesOf_drop (s : ByteArray) (i : Nat) (h : i < s.size) : (bytesOf s).drop i = bt s (i : Int) :: (bytesOf s).drop (i + 1) := by
  have hl : i < (bytesOf s).length := by rw [bytesOf_length]; exact h
  rw [List.drop_eq_getElem_cons hl]
  congr 1
  have := rd_bytesOf s (i : Int)
  rw [← this]
  unfold rd
  simp [List.getD_eq_getElem?_getD, hl]
theorem bt_nat (s : ByteArray) (i : Int) : ∃ n : Nat, bt s i = (n : Int) ∧ n < 256 := by
  have h := bt_range s i
  exact ⟨(bt s i).toNat, by omega, by omega⟩

theorem dc_nd : ∀ (m n : Nat), n < 10 ^ m → 0 < m → Lib.nDigits n ≤ m := by
  intro m
  induction m with
  | zero => intro n _ h0; omega
  | succ m ih =>
    intro n hn _
    rw [Lib.nDigits]
    split
    · omega
    · rename_i h10
      have hm : 0 < m := by
        rcases Nat.eq_zero_or_pos m with h0 | h0
        · subst h0; omega
        · exact h0
      have : n / 10 < 10 ^ m := by rw [Nat.pow_succ] at hn; omega
      have := ih (n / 10) this hm
      omega
theorem dc_fig (d : Nat) (h : d < 10) : spec_l01Figure.f (d : Int) = some ((48 + d : Nat) : Int) := by
  unfold spec_l01Figure.f
  rw [if_pos (by omega), w64 (by omega) (by omega)]
  congr 1
  omega
theorem dc_strFig (d : Nat) : strOfNums [((48 + d : Nat) : Int)] = ⟨#[UInt8.ofNat (48 + d)]⟩ := rfl
theorem dc_parts (x : Int) : (Int.tmod x 10 < 0 → -(Int.tmod x 10) = ((x.natAbs % 10 : Nat) : Int)) ∧ (¬ Int.tmod x 10 < 0 → Int.tmod x 10 = ((x.natAbs % 10 : Nat) : Int)) ∧ (Int.tdiv x 10).natAbs = x.natAbs / 10 := by
  have h2 := Int.natAbs_tdiv x 10
  have h3 := Int.natAbs_tmod x 10
  refine ⟨?_, ?_, ?_⟩
  · intro h; have : (Int.tmod x 10).natAbs = x.natAbs % 10 := h3; omega
  · intro h; have : (Int.tmod x 10).natAbs = x.natAbs % 10 := h3; omega
  · exact h2
theorem dc_step (k : Nat) (x : Int) (b : Bool) (s : ByteArray) (h0 : -9223372036854775808 ≤ x) (h1 : x ≤ 9223372036854775807) (hx : x ≠ 0) (hs : s.size ≤ 1000) :
    spec_Decimal.l0 (k + 1) x b s = spec_Decimal.l0 k (Int.tdiv x 10) b (⟨#[UInt8.ofNat (48 + x.natAbs % 10)]⟩ ++ s) := by
  obtain ⟨p1, p2, p3⟩ := dc_parts x
  have hd : x.natAbs % 10 < 10 := Nat.mod_lt _ (by decide)
  have hq : wrap64 (Int.tdiv x 10) = Int.tdiv x 10 := by
    have : x.natAbs / 10 ≤ x.natAbs := Nat.div_le_self _ _
    apply w64 <;> omega
  have hsz : (strOfNums [((48 + x.natAbs % 10 : Nat) : Int)]).size + s.size ≤ 9223372036854775807 := by
    have : (strOfNums [((48 + x.natAbs % 10 : Nat) : Int)]).size = 1 := rfl
    omega
  rw [spec_Decimal.l0, if_neg hx, hq]
  split
  · rename_i h
    rw [p1 h, w64 (by omega) (by omega), dc_fig _ hd]
    simp only [Option.bind_some]
    rw [if_pos hsz, dc_strFig]
  · rename_i h
    rw [p2 h, dc_fig _ hd]
    simp only [Option.bind_some]
    rw [if_pos hsz, dc_strFig]
def dc_pre (b : Bool) : ByteArray := if b then ⟨#[45]⟩ else ⟨#[]⟩
theorem dc_zero (b : Bool) (s : ByteArray) (hs : s.size ≤ 1000) : spec_Decimal.l0 1 0 b s = some (dc_pre b ++ s) := by
  rw [spec_Decimal.l0, if_pos rfl]
  cases b
  · simp [dc_pre]
    apply ByteArray.ext; simp
  · rw [if_pos rfl, if_pos (by omega)]; rfl
theorem dc_loop : ∀ (u : Nat) (x : Int) (b : Bool) (s : ByteArray), x.natAbs = u → -9223372036854775808 ≤ x → x ≤ 9223372036854775807 → x ≠ 0 → s.size + Lib.nDigits u ≤ 1000 →
    ∃ k, spec_Decimal.l0 k x b s = some (dc_pre b ++ (⟨(Lib.decDigits u).toArray⟩ ++ s)) := by
  intro u
  induction u using Nat.strongRecOn with
  | _ u ih =>
    intro x b s hu h0 h1 hx hs
    have hd := (dc_parts x).2.2
    rw [hu] at hd
    by_cases h10 : u < 10
    · refine ⟨2, ?_⟩
      have hz : Int.tdiv x 10 = 0 := by omega
      rw [dc_step 1 x b s h0 h1 hx (by omega), hz, dc_zero _ _ (by
        rw [Lib.nDigits_small h10] at hs
        have : (ByteArray.mk #[UInt8.ofNat (48 + x.natAbs % 10)] ++ s).size = 1 + s.size := by rw [ByteArray.size_append]; rfl
        omega)]
      rw [hu, Nat.mod_eq_of_lt h10, Lib.decDigits, dif_pos h10]
    · have hn : Lib.nDigits u = Lib.nDigits (u / 10) + 1 := by rw [Lib.nDigits, dif_neg h10]
      obtain ⟨k, e⟩ := ih (u / 10) (by omega) (Int.tdiv x 10) b (⟨#[UInt8.ofNat (48 + u % 10)]⟩ ++ s) hd (by omega) (by omega) (by omega) (by
        have : (ByteArray.mk #[UInt8.ofNat (48 + u % 10)] ++ s).size = 1 + s.size := by rw [ByteArray.size_append]; rfl
        omega)
      refine ⟨k + 1, ?_⟩
      rw [dc_step k x b s h0 h1 hx (by omega), hu, e]
      have hu' : Lib.decDigits u = Lib.decDigits (u / 10) ++ [UInt8.ofNat (48 + u % 10)] := by rw [Lib.decDigits, dif_neg h10]
      rw [hu']
      congr 2
      apply ByteArray.ext; simp
theorem dc_main (n : Int) (h0 : -9223372036854775808 ≤ n) (h1 : n ≤ 9223372036854775807) : ∃ k, spec_Decimal.f k n = some ⟨(Lib.itoa n).toArray⟩ := by
  by_cases hz : n = 0
  · subst hz
    refine ⟨0, ?_⟩
    rw [spec_Decimal.f, if_pos rfl]
    have : Lib.itoa 0 = [48] := by unfold Lib.itoa; rw [if_neg (by omega), Lib.decDigits, dif_pos (by decide)]; rfl
    rw [this]
  · obtain ⟨k, e⟩ := dc_loop n.natAbs n (decide (n < 0)) ⟨#[]⟩ rfl h0 h1 hz (by
      have := dc_nd 20 n.natAbs (by omega) (by omega)
      have : (ByteArray.mk #[]).size = 0 := rfl
      omega)
    refine ⟨k, ?_⟩
    rw [spec_Decimal.f, if_neg hz, e]
    unfold Lib.itoa dc_pre
    congr 1
    by_cases hn : n < 0
    · rw [if_pos hn, if_pos (decide_eq_true hn)]
      apply ByteArray.ext; simp
    · rw [if_neg hn, decide_eq_false hn]
      have : n.toNat = n.natAbs := by omega
      rw [this]
      apply ByteArray.ext; simp
theorem spec_Decimal_is (n : Int) (h0 : -9223372036854775808 ≤ n) (h1 : n ≤ 9223372036854775807) : Ev (fun k => spec_Decimal.f k n) ⟨(Lib.itoa n).toArray⟩ := by
  obtain ⟨k, e⟩ := dc_main n h0 h1
  exact Ev.of (spec_Decimal.mono n) e

def stepV (a : Nat) (b : UInt8) : Nat := 10 * a + (b.toNat - 48)
def dgt (b : UInt8) : Bool := decide (48 ≤ b.toNat) && decide (b.toNat ≤ 57)
theorem fold_ge : ∀ (l : List UInt8) (a : Nat), a ≤ l.foldl stepV a
  | [], a => Nat.le_refl _
  | b :: l, a => by
    have := fold_ge l (stepV a b)
    have h2 : a ≤ stepV a b := by unfold stepV; omega
    rw [List.foldl_cons]
    omega
theorem dig_of (d : Nat) (h : d < 10) : (UInt8.ofNat (48 + d)).toNat = 48 + d := by
  rw [UInt8.toNat_ofNat']
  omega
theorem dd_all (n : Nat) : (Lib.decDigits n).all dgt = true := by
  induction n using Nat.strongRecOn with
  | _ n ih =>
    rw [Lib.decDigits]
    split
    · rename_i h
      unfold dgt
      simp only [List.all_cons, List.all_nil, dig_of n h, Bool.and_true, Bool.and_eq_true, decide_eq_true_eq]
      omega
    · rename_i h
      rw [List.all_append, ih (n / 10) (by omega)]
      have := dig_of (n % 10) (by omega)
      unfold dgt
      simp only [List.all_cons, List.all_nil, this, Bool.and_true, Bool.true_and, Bool.and_eq_true, decide_eq_true_eq]
      omega
theorem dd_val (n : Nat) : (Lib.decDigits n).foldl stepV 0 = n := by
  induction n using Nat.strongRecOn with
  | _ n ih =>
    rw [Lib.decDigits]
    split
    · rename_i h
      simp only [List.foldl_cons, List.foldl_nil, stepV, dig_of n h]
      omega
    · rename_i h
      rw [List.foldl_append, ih (n / 10) (by omega)]
      have := dig_of (n % 10) (by omega)
      simp only [List.foldl_cons, List.foldl_nil, stepV, this]
      omega
theorem parse_fold : ∀ (l : List UInt8) (a : Nat), l.all dgt = true → l.foldl stepV a ≤ 10000000000 → Lib.parseUint10 a l = .ok (l.foldl stepV a)
  | [], a, _, _ => rfl
  | b :: l, a, h, hv => by
    rw [List.all_cons, Bool.and_eq_true] at h
    have hb := h.1
    simp [dgt] at hb
    rw [List.foldl_cons] at hv ⊢
    have h2 := fold_ge l (stepV a b)
    have h3 : stepV a b = a * 10 + (b.toNat - 48) := by unfold stepV; omega
    have ih := parse_fold l (stepV a b) h.2 hv
    rw [Lib.parseUint10, if_pos hb, if_neg (by omega), if_neg (by omega), ← h3, ih]
theorem dd_len (n : Nat) (h : n ≤ 1000000000) : (Lib.decDigits n).length ≤ 10 := by
  rw [Lib.decDigits_length]
  exact dc_nd 10 n (by omega) (by omega)
theorem atoi_dd (n : Nat) (h : n ≤ 1000000000) : Lib.atoiAll (Lib.decDigits n) = .ok (n : Int) := by
  have hp := parse_fold (Lib.decDigits n) 0 (dd_all n) (by rw [dd_val]; omega)
  rw [dd_val] at hp
  have ha := dd_all n
  cases hl : Lib.decDigits n with
  | nil =>
    have := Lib.decDigits_length n
    rw [hl] at this
    have h2 : 0 < Lib.nDigits n := by rw [Lib.nDigits]; split <;> omega
    simp at this
    omega
  | cons c r =>
    rw [hl] at hp ha
    rw [List.all_cons, Bool.and_eq_true] at ha
    have hc := ha.1
    simp [dgt] at hc
    have e : (if c.toNat = 43 ∨ c.toNat = 45 then r else c :: r) = c :: r := if_neg (by omega)
    have ep : Lib.parseMag (c :: r) = .ok n := by unfold Lib.parseMag; rw [if_neg (by simp), hp]
    simp only [Lib.atoiAll, e, ep]
    rw [if_neg (by omega), if_neg (by omega), if_neg (by omega)]
theorem itoa_nat (v : Int) (h : 0 ≤ v) : Lib.itoa v = Lib.decDigits v.toNat := by unfold Lib.itoa; rw [if_neg (by omega)]
theorem rdV_yes (s : ByteArray) (n : Nat) (h : n ≤ 1000000000) (e : s.data.toList = Lib.decDigits n) : TabN.rdV s = ((n : Int), true) := by
  unfold TabN.rdV
  rw [e, atoi_dd n h]
  dsimp only
  rw [if_pos ⟨by omega, by omega⟩, ByteArray.toList_eq, e, itoa_nat _ (by omega)]
  simp
theorem rdV_no (s : ByteArray) (h : ¬ ∃ n : Nat, n ≤ 1000000000 ∧ s.data.toList = Lib.decDigits n) : TabN.rdV s = (0, false) := by
  unfold TabN.rdV
  split
  · rename_i v hv
    split
    · rename_i hc
      split
      · rename_i he
        exfalso
        apply h
        refine ⟨v.toNat, by omega, ?_⟩
        rw [← itoa_nat v hc.1, ← ByteArray.toList_eq]
        exact (eq_of_beq he).symm
      · rfl
    · rfl
  · rfl

open Classical in
noncomputable def finD (s : ByteArray) (v : Nat) : Int × Bool := if v > 1000000000 then (0, false) else if Lib.decDigits v = s.data.toList then ((v : Int), true) else (0, false)
open Classical in
noncomputable def resD (s : ByteArray) (a : Nat) (l : List UInt8) : Int × Bool := if l.all dgt = true then finD s (l.foldl stepV a) else (0, false)
theorem bt_at' (s : ByteArray) (i : Nat) (b : UInt8) (l : List UInt8) (h : s.data.toList.drop i = b :: l) : bt s (i : Int) = (b.toNat : Int) ∧ i < s.size := by
  have hi : i < s.data.toList.length := by
    rcases Nat.lt_or_ge i s.data.toList.length with h1 | h1
    · exact h1
    · rw [List.drop_of_length_le h1] at h; cases h
  have hs : i < s.size := by rw [Array.length_toList] at hi; exact hi
  have hd := bytesOf_drop s i hs
  unfold bytesOf at hd
  rw [← List.map_drop, h, List.map_cons] at hd
  exact ⟨(List.cons.inj hd).1.symm, hs⟩
theorem rd_go (s : ByteArray) (hs : s.size ≤ 10) : ∀ (d i a : Nat), i + d = s.size → a < 10 ^ i → Ev (fun k => spec_ReadDecimal.l0 k s (a : Int) (i : Int)) (resD s a (s.data.toList.drop i)) := by
  have hlen : s.data.toList.length = s.size := by rw [Array.length_toList]; rfl
  intro d
  induction d with
  | zero =>
    intro i a hd ha
    have h10 : (10 : Nat) ^ i ≤ 10 ^ 10 := Nat.pow_le_pow_right (by omega) (by omega)
    rw [List.drop_of_length_le (by omega)]
    have e : resD s a [] = finD s a := by unfold resD; simp
    rw [e]
    unfold finD
    refine Ev.step (fun k => by rw [spec_ReadDecimal.l0]) (evn (by omega) ?_)
    by_cases hg : a > 1000000000
    · rw [if_pos hg]
      exact evp (by omega) (Ev.now _)
    rw [if_neg hg]
    refine evn (by omega) (Ev.bind (spec_Decimal_is (a : Int) (by omega) (by omega)) ?_)
    have et : (ByteArray.mk (Lib.itoa (a : Int)).toArray).toList = Lib.decDigits a := by rw [ByteArray.toList_eq, itoa_nat _ (by omega)]; simp
    have es : s.toList = s.data.toList := ByteArray.toList_eq _
    by_cases he : Lib.decDigits a = s.data.toList
    · rw [if_pos he]
      exact evp (by rw [et, es]; exact he) (Ev.now _)
    · rw [if_neg he]
      exact evn (by rw [et, es]; exact he) (Ev.now _)
  | succ d ih =>
    intro i a hd ha
    have h9 : (10 : Nat) ^ i ≤ 10 ^ 9 := Nat.pow_le_pow_right (by omega) (by omega)
    obtain ⟨c, l, hl⟩ : ∃ c l, s.data.toList.drop i = c :: l := ⟨_, _, List.drop_eq_getElem_cons (by omega)⟩
    obtain ⟨hbt, hlt⟩ := bt_at' s i c l hl
    have hl1 : l = s.data.toList.drop (i + 1) := by
      have := congrArg List.tail hl
      rw [List.tail_drop] at this
      exact this.symm
    have hc := c.toNat_lt
    rw [hl]
    refine Ev.step (fun k => by rw [spec_ReadDecimal.l0]) (evp (by omega) (evp (by omega) ?_))
    rw [hbt]
    have bad : dgt c = false → resD s a (c :: l) = (0, false) := fun h => by unfold resD; rw [List.all_cons, h]; simp
    by_cases h1 : (c.toNat : Int) < 48
    · rw [bad (by simp [dgt]; omega)]
      exact evp h1 (Ev.now _)
    refine evn h1 ?_
    by_cases h2 : (c.toNat : Int) > 57
    · rw [bad (by simp [dgt]; omega)]
      exact evp h2 (Ev.now _)
    refine evn h2 ?_
    have hok : dgt c = true := by simp [dgt]; omega
    have e : resD s a (c :: l) = resD s (stepV a c) l := by unfold resD; rw [List.all_cons, hok, Bool.true_and, List.foldl_cons]
    have hst : (stepV a c : Int) = 10 * (a : Int) + (c.toNat : Int) - 48 := by unfold stepV; omega
    rw [e, w64s i (by omega), w64 (n := 10 * (a : Int)) (by omega) (by omega), w64 (n := (c.toNat : Int)) (by omega) (by omega), w64 (n := 10 * (a : Int) + (c.toNat : Int)) (by omega) (by omega), w64 (n := 10 * (a : Int) + (c.toNat : Int) - 48) (by omega) (by omega), ← hst, hl1]
    refine ih (i + 1) (stepV a c) (by omega) ?_
    have : stepV a c ≤ 10 * a + 9 := by unfold stepV; omega
    rw [Nat.pow_succ]
    omega
theorem spec_rd_yes (s : ByteArray) (n : Nat) (h : n ≤ 1000000000) (e : s.data.toList = Lib.decDigits n) : Ev (fun k => spec_ReadDecimal.f k s) ((n : Int), true) := by
  have hlen : s.data.toList.length = s.size := by rw [Array.length_toList]; rfl
  have h10 := dd_len n h
  rw [← e, hlen] at h10
  refine evn (by omega) ?_
  have := rd_go s h10 s.size 0 0 (by omega) (by decide)
  rw [List.drop_zero] at this
  have er : resD s 0 s.data.toList = ((n : Int), true) := by
    unfold resD finD
    rw [e, dd_val, if_pos (dd_all n), if_neg (by omega), if_pos rfl]
  rw [er] at this
  exact this
theorem spec_rd_no (s : ByteArray) (h : ¬ ∃ n : Nat, n ≤ 1000000000 ∧ s.data.toList = Lib.decDigits n) : Ev (fun k => spec_ReadDecimal.f k s) (0, false) := by
  by_cases h10 : (s.size : Int) > 10
  · exact evp h10 (Ev.now _)
  refine evn h10 ?_
  have := rd_go s (by omega) s.size 0 0 (by omega) (by decide)
  rw [List.drop_zero] at this
  have er : resD s 0 s.data.toList = (0, false) := by
    unfold resD finD
    split
    · split
      · rfl
      · split
        · rename_i h2 h3
          exact absurd ⟨_, by omega, h3.symm⟩ h
        · rfl
    · rfl
  rw [er] at this
  exact this

theorem FnExactReadDecimal : laws_FnExactReadDecimal.Pure := by
  intro s hs
  refine Ev.rounds (g := fun k => laws_FnExactReadDecimal.f k s) ?_
  simp only [laws_FnExactReadDecimal.f]
  by_cases h0 : (s.size : Int) > 1048576
  · exact evp h0 (Ev.now _)
  have hi : impl_ReadDecimal.f s = some (TabN.rdV s) := by unfold impl_ReadDecimal.f; rw [if_pos (by omega)]
  refine evn h0 ?_
  by_cases h : ∃ n : Nat, n ≤ 1000000000 ∧ s.data.toList = Lib.decDigits n
  · obtain ⟨n, hn, e⟩ := h
    refine Ev.bind (spec_rd_yes s n hn e) (evb hi ?_)
    rw [rdV_yes s n hn e]
    exact evp rfl (evn (by simp) (Ev.now _))
  · refine Ev.bind (spec_rd_no s h) (evb hi ?_)
    rw [rdV_no s h]
    exact evp rfl (evn (by decide) (Ev.now _))

end Go.Proofs.YtelnbjlhlklngaaDoor.Pure
