/-
The law FnExactUnhex of the given program answers true at every input: the plain statement that is left when the printed walk has stepped through the code.
Conditions: the bounds of the given row (sizes of texts and lists, numbers of their kinds); none of our own.
-/
import Derived.Test.YtepjagfbdagkmaaPFnExactUnhexx1
import Derived.Laws.BitsAllLaws
namespace Go.Proofs.Ytepjagfbdagkmaa.Pure
open Go.RowKit Go.Proofs.Ytepjagfbdagkmaa.PFnExactUnhex Go.Proofs.YtepjagfbdagkmaaW.PrintWords Go.Proofs.YtepjagfbdagkmaaW.PrintLast Go.Proofs.YtepjagfbdagkmaaW.PrintMore

theorem evp {α : Type} {c : Prop} [Decidable c] {f g : Nat → Option α} {r : α} (hc : c) (h : Ev f r) : Ev (fun k => if c then f k else g k) r := Ev.congr (fun _ => if_pos hc) h
theorem evn {α : Type} {c : Prop} [Decidable c] {f g : Nat → Option α} {r : α} (hc : ¬ c) (h : Ev g r) : Ev (fun k => if c then f k else g k) r := Ev.congr (fun _ => if_neg hc) h
theorem evs {α : Type} {x y : α} (h : x = y) : Ev (fun _ => some x) y := by subst h; exact Ev.now _
theorem evc {α : Type} {x : Option α} {y : α} (h : x = some y) : Ev (fun _ => x) y := by subst h; exact Ev.now _
theorem w64 {n : Int} (h1 : -9223372036854775808 ≤ n) (h2 : n ≤ 9223372036854775807) : wrap64 n = n := IntWalk.wrap64_in n ⟨h1, h2⟩
theorem w64n (n : Nat) (h : n ≤ 9223372036854775807) : wrap64 (n : Int) = (n : Int) := w64 (by omega) (by omega)
theorem w64s (n : Nat) (h : n + 1 ≤ 9223372036854775807) : wrap64 ((n : Int) + 1) = ((n + 1 : Nat) : Int) := by rw [w64 (by omega) (by omega)]; rfl
theorem w64a (a b : Nat) (h : a + b ≤ 9223372036854775807) : wrap64 ((a : Int) + (b : Int)) = ((a + b : Nat) : Int) := by rw [w64 (by omega) (by omega)]; rfl
theorem w64m (a b : Nat) (h : a * b ≤ 9223372036854775807) : wrap64 ((a : Int) * (b : Int)) = ((a * b : Nat) : Int) := by
  have e : ((a * b : Nat) : Int) = (a : Int) * (b : Int) := Int.natCast_mul a b
  rw [w64 (by omega) (by omega), e]
theorem wf64 {n : Int} (h : (Lit.int .i64 n).wf = true) : -9223372036854775808 ≤ n ∧ n ≤ 9223372036854775807 := by
  simp [Lit.wf, IntKind.min, IntKind.max, IntKind.bits, IntKind.signed] at h
  omega
theorem bt_lo (s : ByteArray) (i : Int) : 0 ≤ bt s i := (bt_range s i).1
theorem bt_hi (s : ByteArray) (i : Int) : bt s i ≤ 255 := (bt_range s i).2
theorem wfu32 {n : Int} (h : (Lit.int .u32 n).wf = true) : 0 ≤ n ∧ n < 4294967296 := by
  simp [Lit.wf, IntKind.min, IntKind.max, IntKind.bits, IntKind.signed] at h
  omega
theorem evb {α β : Type} {x : Option α} {f : Nat → α → Option β} {a : α} {r : β} (h : x = some a) (k : Ev (fun n => f n a) r) : Ev (fun n => x.bind (f n)) r := Ev.bind (g := fun _ => x) (evc h) k
theorem i64_nat (a b : Nat) (ha : a < 9223372036854775808) (hb : b < 9223372036854775808) : Go.bits .and .i64 (a : Int) (b : Int) = ((a &&& b : Nat) : Int) ∧ Go.bits .or .i64 (a : Int) (b : Int) = ((a ||| b : Nat) : Int) :=
  bits_nat .i64 63 (by decide) (fun m h0 h1 => by rw [IntKind.wrap_i64]; omega) a b ha hb

theorem tl_inj {a b : ByteArray} : a.toList = b.toList ↔ a = b := by
  rw [ByteArray.toList_eq, ByteArray.toList_eq]
  exact ⟨fun h => ByteArray.ext (Array.toList_inj.mp h), fun h => by rw [h]⟩
theorem son_bytesOf (s : ByteArray) : strOfNums (bytesOf s) = s := by
  apply tl_inj.1
  rw [ByteArray.toList_eq, ByteArray.toList_eq, strOfNums_data, bytesOf, List.map_map]
  have : ((fun n : Int => UInt8.ofNat n.toNat) ∘ fun b : UInt8 => (b.toNat : Int)) = id := by
    funext b; simp
  rw [this, List.map_id]
theorem bytesOf_son (l : List Int) (h : ∀ b ∈ l, 0 ≤ b ∧ b ≤ 255) : bytesOf (strOfNums l) = l := by
  rw [bytesOf, strOfNums_data, List.map_map]
  have : l.map ((fun b : UInt8 => (b.toNat : Int)) ∘ fun n : Int => UInt8.ofNat n.toNat) = l.map id := by
    apply List.map_congr_left
    intro b hb
    have := h b hb
    simp only [Function.comp, id, UInt8.toNat_ofNat']
    omega
  rw [this, List.map_id]
theorem bytesOf_inj {a b : ByteArray} (h : bytesOf a = bytesOf b) : a = b := by rw [← son_bytesOf a, ← son_bytesOf b, h]
theorem bytesOf_extract (s : ByteArray) (a b : Nat) : bytesOf (s.extract a b) = ((bytesOf s).drop a).take (b - a) := by
  unfold bytesOf
  rw [ByteArray.data_extract]
  simp [List.map_take, List.map_drop, List.extract]
theorem bytesOf_append (a b : ByteArray) : bytesOf (a ++ b) = bytesOf a ++ bytesOf b := by
  unfold bytesOf
  rw [ByteArray.data_append]
  simp
theorem bytesOf_range (s : ByteArray) : ∀ b ∈ bytesOf s, 0 ≤ b ∧ b ≤ 255 := by
  intro b hb
  unfold bytesOf at hb
  obtain ⟨c, _, rfl⟩ := List.mem_map.1 hb
  have := c.toNat_lt
  omega
theorem bytesOf_drop (s : ByteArray) (i : Nat) (h : i < s.size) : (bytesOf s).drop i = bt s (i : Int) :: (bytesOf s).drop (i + 1) := by
  have hl : i < (bytesOf s).length := by rw [bytesOf_length]; exact h
  rw [List.drop_eq_getElem_cons hl]
  congr 1
  have := rd_bytesOf s (i : Int)
  rw [← this]
  unfold rd
  simp [List.getD_eq_getElem?_getD, hl]
theorem bt_nat (s : ByteArray) (i : Int) : ∃ n : Nat, bt s i = (n : Int) ∧ n < 256 := by
  have h := bt_range s i
  exact ⟨(bt s i).toNat, by omega, by omega⟩

def hexV (x : Nat) : Int := if 48 ≤ x ∧ x ≤ 57 then (x : Int) - 48 else if 97 ≤ x ∧ x ≤ 102 then (x : Int) - 87 else -1
theorem hexV_lt (x : Nat) : hexV x < 16 := by unfold hexV; split <;> (try split) <;> omega
theorem hexV_ge (x : Nat) : -1 ≤ hexV x := by unfold hexV; split <;> (try split) <;> omega
def unhexGo : List Int → List Int → ByteArray × Bool
  | acc, a :: b :: l => if hexV a.toNat < 0 ∨ hexV b.toNat < 0 then (⟨#[]⟩, false) else unhexGo (acc ++ [16 * hexV a.toNat + hexV b.toNat]) l
  | acc, _ => (strOfNums acc, true)
theorem unhexGo_cons (acc : List Int) (a b : Int) (l : List Int) : unhexGo acc (a :: b :: l) = if hexV a.toNat < 0 ∨ hexV b.toNat < 0 then (⟨#[]⟩, false) else unhexGo (acc ++ [16 * hexV a.toNat + hexV b.toNat]) l := by rw [unhexGo]
def unhexOf (s : ByteArray) : ByteArray × Bool := if s.size ≤ 40000 ∧ s.size % 2 = 0 then unhexGo [] (bytesOf s) else (⟨#[]⟩, false)

theorem hexV_a {n : Nat} (h : 48 ≤ n ∧ n ≤ 57) : hexV n = (n : Int) - 48 := by unfold hexV; rw [if_pos h]
theorem hexV_b {n : Nat} (h : 97 ≤ n ∧ n ≤ 102) : hexV n = (n : Int) - 87 := by unfold hexV; rw [if_neg (by omega), if_pos h]
theorem hexV_c {n : Nat} (h : ¬ (48 ≤ n ∧ n ≤ 57)) (h2 : ¬ (97 ≤ n ∧ n ≤ 102)) : hexV n = -1 := by unfold hexV; rw [if_neg h, if_neg h2]
theorem spec_l01Value_is (n : Nat) (h : n < 256) : Ev (fun k => spec_l01Value.f k (n : Int)) (hexV n) := by
  unfold spec_l01Value.f
  by_cases h1 : (n : Int) ≥ 48
  · refine evp h1 (Ev.step (fun k => by rw [spec_l01Value.j0]) ?_)
    by_cases h2 : (n : Int) ≤ 57
    · refine evp (by simpa using h2) (evs ?_)
      rw [hexV_a ⟨by omega, by omega⟩, w64n n (by omega), w64 (by omega) (by omega)]
    · refine evn (by simpa using h2) ?_
      by_cases h3 : (n : Int) ≥ 97
      · refine evp h3 ?_
        by_cases h4 : (n : Int) ≤ 102
        · refine evp h4 (evs ?_)
          rw [hexV_b ⟨by omega, by omega⟩, w64n n (by omega), w64 (n := (n : Int) - 97) (by omega) (by omega), w64 (by omega) (by omega)]
          omega
        · exact evn h4 (evs (by rw [hexV_c (by omega) (by omega)]))
      · exact evn h3 (evs (by rw [hexV_c (by omega) (by omega)]))
  · refine evn h1 (Ev.step (fun k => by rw [spec_l01Value.j0]) ?_)
    refine evn (by simp) (evn (by omega) (evs ?_))
    rw [hexV_c (by omega) (by omega)]
theorem spec_Unhex_l (s : ByteArray) (hs : s.size ≤ 40000) (d : Nat) : ∀ (i : Nat) (acc : List Int), i + 2 * d = s.size → acc.length + d ≤ 20000 → Ev (fun k => spec_Unhex.l0 k s acc (i : Int)) (unhexGo acc ((bytesOf s).drop i)) := by
  induction d with
  | zero =>
    intro i acc hi ha
    refine Ev.step (fun k => by rw [spec_Unhex.l0]) (evn (by omega) (evs ?_))
    rw [List.drop_eq_nil_of_le (by rw [bytesOf_length]; omega)]
    rfl
  | succ d ih =>
    intro i acc hi ha
    refine Ev.step (fun k => by rw [spec_Unhex.l0]) (evp (by omega) (evp (by omega) ?_))
    rw [w64s i (by omega)]
    obtain ⟨m, hm, hm2⟩ := bt_nat s (i : Int)
    obtain ⟨n, hn, hn2⟩ := bt_nat s ((i + 1 : Nat) : Int)
    rw [bytesOf_drop s i (by omega), bytesOf_drop s (i + 1) (by omega), hm, hn, unhexGo_cons]
    have e1 : ((m : Nat) : Int).toNat = m := rfl
    have e2 : ((n : Nat) : Int).toNat = n := rfl
    rw [e1, e2]
    refine Ev.bind (spec_l01Value_is m hm2) (evp (by omega) (evp (by omega) (Ev.bind (spec_l01Value_is n hn2) ?_)))
    by_cases h1 : hexV m < 0
    · exact evp h1 (evs (by rw [if_pos (.inl h1)]))
    · refine evn h1 ?_
      by_cases h2 : hexV n < 0
      · exact evp h2 (evs (by rw [if_pos (.inr h2)]))
      · refine evn h2 (evp (by omega) ?_)
        rw [if_neg (by omega)]
        have h3 := hexV_lt m
        have h4 := hexV_lt n
        have e3 : (wrap64 ((wrap64 (16 * hexV m)) + hexV n)) % 256 = 16 * hexV m + hexV n := by
          rw [w64 (n := 16 * hexV m) (by omega) (by omega), w64 (by omega) (by omega)]; omega
        have e4 : wrap64 ((i : Int) + 2) = ((i + 2 : Nat) : Int) := w64a i 2 (by omega)
        rw [e3, e4]
        exact ih (i + 2) _ (by omega) (by rw [List.length_append, List.length_singleton]; omega)
theorem spec_Unhex_is (s : ByteArray) : Ev (fun k => spec_Unhex.f k s) (unhexOf s) := by
  unfold spec_Unhex.f unhexOf
  by_cases h : (s.size : Int) > 40000
  · rw [if_neg (by omega)]
    refine evp h (Ev.step (fun k => by rw [spec_Unhex.j0]) ?_)
    exact evp rfl (Ev.now _)
  · refine evn h (Ev.step (fun k => by rw [spec_Unhex.j0]) ?_)
    by_cases h2 : (s.size : Int) % 2 = 0
    · rw [if_pos ⟨by omega, by omega⟩]
      have h3 := spec_Unhex_l s (by omega) (s.size / 2) 0 [] (by omega) (by simp; omega)
      exact evn (by simp [h2]) h3
    · rw [if_neg (by omega)]
      exact evp (by simp; omega) (Ev.now _)

theorem indexHex (n : Nat) (h : n < 256) : strings_IndexByte.f (⟨#[48, 49, 50, 51, 52, 53, 54, 55, 56, 57, 97, 98, 99, 100, 101, 102]⟩ : ByteArray) (n : Int) = some (hexV n) := by
  have : ∀ y : Fin 256, strings_IndexByte.f (⟨#[48, 49, 50, 51, 52, 53, 54, 55, 56, 57, 97, 98, 99, 100, 101, 102]⟩ : ByteArray) ((y.val : Nat) : Int) = some (hexV y.val) := by decide +kernel
  exact this ⟨n, h⟩
theorem or_hex (a b : Int) (ha : 0 ≤ a) (ha2 : a < 16) (hb : 0 ≤ b) (hb2 : b < 16) : (Go.bits .or .i64 (wrap64 (a * 16)) b) % 256 = 16 * a + b := by
  obtain ⟨x, rfl⟩ := Int.eq_ofNat_of_zero_le ha
  obtain ⟨y, rfl⟩ := Int.eq_ofNat_of_zero_le hb
  have e : wrap64 ((x : Int) * 16) = ((x * 16 : Nat) : Int) := w64m x 16 (by omega)
  rw [e, (i64_nat (x * 16) y (by omega) (by omega)).2, nat_join 4 (x * 16) y (by omega) (by omega)]
  omega
theorem impl_Unhex_l (s : ByteArray) (hs : s.size ≤ 40000) (d : Nat) : ∀ (i : Nat) (acc : List Int), i + 2 * d = s.size → acc.length + d ≤ 20000 → Ev (fun k => impl_Unhex.l0 k s acc (i : Int)) (unhexGo acc ((bytesOf s).drop i)) := by
  induction d with
  | zero =>
    intro i acc hi ha
    refine Ev.step (fun k => by rw [impl_Unhex.l0]) (evn (by omega) (evs ?_))
    rw [List.drop_eq_nil_of_le (by rw [bytesOf_length]; omega)]
    rfl
  | succ d ih =>
    intro i acc hi ha
    refine Ev.step (fun k => by rw [impl_Unhex.l0]) (evp (by omega) (evp (by omega) ?_))
    rw [w64s i (by omega)]
    obtain ⟨m, hm, hm2⟩ := bt_nat s (i : Int)
    obtain ⟨n, hn, hn2⟩ := bt_nat s ((i + 1 : Nat) : Int)
    rw [bytesOf_drop s i (by omega), bytesOf_drop s (i + 1) (by omega), hm, hn, unhexGo_cons]
    have e1 : ((m : Nat) : Int).toNat = m := rfl
    have e2 : ((n : Nat) : Int).toNat = n := rfl
    rw [e1, e2]
    refine evb (indexHex m hm2) (evp (by omega) (evp (by omega) (evb (indexHex n hn2) ?_)))
    by_cases h1 : hexV m < 0
    · exact evp h1 (evs (by rw [if_pos (.inl h1)]))
    · refine evn h1 ?_
      by_cases h2 : hexV n < 0
      · exact evp h2 (evs (by rw [if_pos (.inr h2)]))
      · refine evn h2 (evp (by omega) ?_)
        rw [if_neg (by omega), or_hex _ _ (by omega) (hexV_lt m) (by omega) (hexV_lt n)]
        have e4 : wrap64 ((i : Int) + 2) = ((i + 2 : Nat) : Int) := w64a i 2 (by omega)
        rw [e4]
        exact ih (i + 2) _ (by omega) (by rw [List.length_append, List.length_singleton]; omega)
theorem impl_Unhex_is (s : ByteArray) : Ev (fun k => impl_Unhex.f k s) (unhexOf s) := by
  unfold impl_Unhex.f unhexOf
  by_cases h2 : (s.size : Int) % 2 = 0
  · refine evp h2 (Ev.step (fun k => by rw [impl_Unhex.j0]) ?_)
    by_cases h : (s.size : Int) > 40000
    · rw [if_neg (by omega)]
      exact evp (by simpa using h) (Ev.now _)
    · rw [if_pos ⟨by omega, by omega⟩]
      have h3 := impl_Unhex_l s (by omega) (s.size / 2) 0 [] (by omega) (by simp; omega)
      exact evn (by simpa using h) h3
  · rw [if_neg (by omega)]
    refine evn h2 (Ev.step (fun k => by rw [impl_Unhex.j0]) ?_)
    exact evp rfl (Ev.now _)

theorem FnExactUnhex : laws_FnExactUnhex.Pure := by
  intro s hs
  refine Ev.rounds (g := fun k => laws_FnExactUnhex.f k s) ?_
  simp only [laws_FnExactUnhex.f]
  by_cases h0 : (s.size : Int) > 1048576
  · exact evp h0 (Ev.now _)
  · exact evn h0 (Ev.bind (spec_Unhex_is s) (Ev.bind (impl_Unhex_is s) (evp rfl (evn (by simp) (Ev.now _)))))

end Go.Proofs.Ytepjagfbdagkmaa.Pure
