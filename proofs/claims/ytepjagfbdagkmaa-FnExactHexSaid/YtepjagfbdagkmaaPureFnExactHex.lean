/-
The law FnExactHex of the given program answers true at every input: the plain statement that is left when the printed walk has stepped through the code.
Conditions: the bounds of the given row (sizes of texts and lists, numbers of their kinds); none of our own.
-/
import Derived.Test.YtepjagfbdagkmaaPFnExactHexx1
import Derived.Laws.BitsAllLaws
namespace Go.Proofs.Ytepjagfbdagkmaa.Pure
open Go.RowKit Go.Proofs.Ytepjagfbdagkmaa.PFnExactHex Go.Proofs.YtepjagfbdagkmaaW.PrintWords Go.Proofs.YtepjagfbdagkmaaW.PrintLast Go.Proofs.YtepjagfbdagkmaaW.PrintMore

theorem evp {α : Type} {c : Prop} [Decidable c] {f g : Nat → Option α} {r : α} (hc : c) (h : Ev f r) : Ev (fun k => if c then f k else g k) r := Ev.congr (fun _ => if_pos hc) h
theorem evn {α : Type} {c : Prop} [Decidable c] {f g : Nat → Option α} {r : α} (hc : ¬ c) (h : Ev g r) : Ev (fun k => if c then f k else g k) r := Ev.congr (fun _ => if_neg hc) h
theorem evs {α : Type} {x y : α} (h : x = y) : Ev (fun _ => some x) y := by subst h; exact Ev.now _
theorem evc {α : Type} {x : Option α} {y : α} (h : x = some y) : Ev (fun _ => x) y := by subst h; exact Ev.now _
theorem w64 {n : Int} (h1 : -9223372036854775808 ≤ n) (h2 : n ≤ 9223372036854775807) : wrap64 n = n := IntWalk.wrap64_in n ⟨h1, h2⟩
theorem w64n (n : Nat) (h : n ≤ 9223372036854775807) : wrap64 (n : Int) = (n : Int) := w64 (by omega) (by omega)
theorem w64s (n : Nat) (h : n + 1 ≤ 9223372036854775807) : wrap64 ((n : Int) + 1) = ((n + 1 : Nat) : Int) := by rw [w64 (by omega) (by omega)]; rfl
theorem w64a (a b : Nat) (h : a + b ≤ 9223372036854775807) : wrap64 ((a : Int) + (b : Int)) = ((a + b : Nat) : Int) := by rw [w64 (by omega) (by omega)]; rfl
theorem w64m (a b : Nat) (h : a * b ≤ 9223372036854775807) : wrap64 ((a : Int) * (b : Int)) = ((a * b : Nat) : Int) := by
  have e : ((a * b : Nat) : Int) = (a : Int) * (b : Int) := Int.natCast_mul a b
  rw [w64 (by omega) (by omega), e]
theorem wf64 {n : Int} (h : (Lit.int .i64 n).wf = true) : -9223372036854775808 ≤ n ∧ n ≤ 9223372036854775807 := by
  simp [Lit.wf, IntKind.min, IntKind.max, IntKind.bits, IntKind.signed] at h
  omega
theorem bt_lo (s : ByteArray) (i : Int) : 0 ≤ bt s i := (bt_range s i).1
theorem bt_hi (s : ByteArray) (i : Int) : bt s i ≤ 255 := (bt_range s i).2
theorem wfu32 {n : Int} (h : (Lit.int .u32 n).wf = true) : 0 ≤ n ∧ n < 4294967296 := by
  simp [Lit.wf, IntKind.min, IntKind.max, IntKind.bits, IntKind.signed] at h
  omega
theorem evb {α β : Type} {x : Option α} {f : Nat → α → Option β} {a : α} {r : β} (h : x = some a) (k : Ev (fun n => f n a) r) : Ev (fun n => x.bind (f n)) r := Ev.bind (g := fun _ => x) (evc h) k
theorem i64_nat (a b : Nat) (ha : a < 9223372036854775808) (hb : b < 9223372036854775808) : Go.bits .and .i64 (a : Int) (b : Int) = ((a &&& b : Nat) : Int) ∧ Go.bits .or .i64 (a : Int) (b : Int) = ((a ||| b : Nat) : Int) :=
  bits_nat .i64 63 (by decide) (fun m h0 h1 => by rw [IntKind.wrap_i64]; omega) a b ha hb

theorem tl_inj {a b : ByteArray} : a.toList = b.toList ↔ a = b := by
  rw [ByteArray.toList_eq, ByteArray.toList_eq]
  exact ⟨fun h => ByteArray.ext (Array.toList_inj.mp h), fun h => by rw [h]⟩
theorem son_bytesOf (s : ByteArray) : strOfNums (bytesOf s) = s := by
  apply tl_inj.1
  rw [ByteArray.toList_eq, ByteArray.toList_eq, strOfNums_data, bytesOf, List.map_map]
  have : ((fun n : Int => UInt8.ofNat n.toNat) ∘ fun b : UInt8 => (b.toNat : Int)) = id := by
    funext b; simp
  rw [this, List.map_id]
theorem bytesOf_son (l : List Int) (h : ∀ b ∈ l, 0 ≤ b ∧ b ≤ 255) : bytesOf (strOfNums l) = l := by
  rw [bytesOf, strOfNums_data, List.map_map]
  have : l.map ((fun b : UInt8 => (b.toNat : Int)) ∘ fun n : Int => UInt8.ofNat n.toNat) = l.map id := by
    apply List.map_congr_left
    intro b hb
    have := h b hb
    simp only [Function.comp, id, UInt8.toNat_ofNat']
    omega
  rw [this, List.map_id]
theorem bytesOf_inj {a b : ByteArray} (h : bytesOf a = bytesOf b) : a = b := by rw [← son_bytesOf a, ← son_bytesOf b, h]
theorem bytesOf_extract (s : ByteArray) (a b : Nat) : bytesOf (s.extract a b) = ((bytesOf s).drop a).take (b - a) := by
  unfold bytesOf
  rw [ByteArray.data_extract]
  simp [List.map_take, List.map_drop, List.extract]
theorem bytesOf_append (a b : ByteArray) : bytesOf (a ++ b) = bytesOf a ++ bytesOf b := by
  unfold bytesOf
  rw [ByteArray.data_append]
  simp
theorem bytesOf_range (s : ByteArray) : ∀ b ∈ bytesOf s, 0 ≤ b ∧ b ≤ 255 := by
  intro b hb
  unfold bytesOf at hb
  obtain ⟨c, _, rfl⟩ := List.mem_map.1 hb
  have := c.toNat_lt
  omega
theorem bytesOf_drop (s : ByteArray) (i : Nat) (h : i < s.size) : (bytesOf s).drop i = bt s (i : Int) :: (bytesOf s).drop (i + 1) := by
  have hl : i < (bytesOf s).length := by rw [bytesOf_length]; exact h
  rw [List.drop_eq_getElem_cons hl]
  congr 1
  have := rd_bytesOf s (i : Int)
  rw [← this]
  unfold rd
  simp [List.getD_eq_getElem?_getD, hl]
theorem bt_nat (s : ByteArray) (i : Int) : ∃ n : Nat, bt s i = (n : Int) ∧ n < 256 := by
  have h := bt_range s i
  exact ⟨(bt s i).toNat, by omega, by omega⟩

def hexD (x : Nat) : Int := if x < 10 then ((48 + x : Nat) : Int) else ((87 + x : Nat) : Int)
def hexL (l : List Int) : List Int := l.flatMap fun b => [hexD (b.toNat / 16), hexD (b.toNat % 16)]
theorem hexL_cons (b : Int) (l : List Int) : hexL (b :: l) = [hexD (b.toNat / 16), hexD (b.toNat % 16)] ++ hexL l := rfl
def hexOf (s : ByteArray) : ByteArray × Bool := if s.size > 20000 then (⟨#[]⟩, false) else (strOfNums (hexL (bytesOf s)), true)

theorem spec_l01Figure_is (x : Nat) (h : x < 16) : spec_l01Figure.f (x : Int) = some (hexD x) := by
  unfold spec_l01Figure.f hexD
  by_cases h1 : x < 10
  · rw [if_pos (by omega), if_pos h1, w64 (by omega) (by omega)]
    congr 1; omega
  · rw [if_neg (by omega), if_neg h1, w64 (n := 97 + (x : Int)) (by omega) (by omega), w64 (by omega) (by omega)]
    congr 1; omega
theorem spec_Hex_l (s : ByteArray) (hs : s.size ≤ 20000) (d : Nat) : ∀ (i : Nat) (acc : List Int), i + d = s.size → acc.length + 2 * d ≤ 40000 → Ev (fun k => spec_Hex.l0 k s acc (i : Int)) (strOfNums (acc ++ hexL ((bytesOf s).drop i)), true) := by
  induction d with
  | zero =>
    intro i acc hi ha
    refine Ev.step (fun k => by rw [spec_Hex.l0]) (evn (by omega) (evs ?_))
    rw [List.drop_eq_nil_of_le (by rw [bytesOf_length]; omega)]
    simp [hexL]
  | succ d ih =>
    intro i acc hi ha
    refine Ev.step (fun k => by rw [spec_Hex.l0]) (evp (by omega) (evp (by omega) ?_))
    obtain ⟨n, hn, hn2⟩ := bt_nat s (i : Int)
    have e1 : wrap64 (Int.tdiv (wrap64 (bt s (i : Int))) 16) = ((n / 16 : Nat) : Int) := by
      rw [hn, w64 (n := (n : Int)) (by omega) (by omega), Int.tdiv_eq_ediv_of_nonneg (by omega), w64 (by omega) (by omega)]; rfl
    have e2 : Int.tmod (wrap64 (bt s (i : Int))) 16 = ((n % 16 : Nat) : Int) := by
      rw [hn, w64 (n := (n : Int)) (by omega) (by omega), Int.tmod_eq_emod_of_nonneg (by omega)]; rfl
    rw [e1, e2]
    refine evb (spec_l01Figure_is _ (by omega)) (evb (spec_l01Figure_is _ (by omega)) (evb rfl (evp (by simp; omega) ?_)))
    rw [w64 (by omega) (by omega)]
    have := ih (i + 1) (acc ++ [hexD (n / 16), hexD (n % 16)]) (by omega) (by simp; omega)
    rw [bytesOf_drop s i (by omega), hn, hexL_cons, ← List.append_assoc]
    exact this
theorem spec_Hex_is (s : ByteArray) : Ev (fun k => spec_Hex.f k s) (hexOf s) := by
  unfold hexOf
  simp only [spec_Hex.f]
  by_cases h : (s.size : Int) > 20000
  · exact evp h (evs (by rw [if_pos (by omega)]))
  · refine evn h ?_
    rw [if_neg (by omega)]
    have := spec_Hex_l s (by omega) s.size 0 [] (by omega) (by simp; omega)
    simpa using this

theorem u8_and15' (n : Nat) (h : n < 256) : Go.bits .and .u8 (n : Int) 15 = ((n % 16 : Nat) : Int) := by
  have := u8_and_nat n 15 h (by omega)
  rw [nat_mask4] at this
  exact this
theorem hexTab (x : Nat) (h : x < 16) : bt (⟨#[48, 49, 50, 51, 52, 53, 54, 55, 56, 57, 97, 98, 99, 100, 101, 102]⟩ : ByteArray) (x : Int) = hexD x := by
  have : ∀ y : Fin 16, bt (⟨#[48, 49, 50, 51, 52, 53, 54, 55, 56, 57, 97, 98, 99, 100, 101, 102]⟩ : ByteArray) ((y.val : Nat) : Int) = hexD y.val := by decide
  exact this ⟨x, h⟩
theorem impl_Hex_l (s : ByteArray) (hs : s.size ≤ 20000) (d : Nat) : ∀ (i : Nat) (acc : List Int), i + d = s.size → acc.length + 2 * d ≤ 40000 → Ev (fun k => impl_Hex.l0 k s acc (s.size : Int) (i : Int)) (strOfNums (acc ++ hexL ((bytesOf s).drop i)), true) := by
  induction d with
  | zero =>
    intro i acc hi ha
    refine Ev.step (fun k => by rw [impl_Hex.l0]) (evn (by omega) (evs ?_))
    rw [List.drop_eq_nil_of_le (by rw [bytesOf_length]; omega)]
    simp [hexL]
  | succ d ih =>
    intro i acc hi ha
    obtain ⟨n, hn, hn2⟩ := bt_nat s (i : Int)
    refine Ev.step (fun k => by rw [impl_Hex.l0]) (evp (by omega) (evp (by omega) (evp (by omega) ?_)))
    rw [hn, u8_and15' n hn2]
    have e1 : (n : Int) / 16 = ((n / 16 : Nat) : Int) := rfl
    rw [e1]
    refine evp (by omega) (evp (by omega) (evp (by omega) (evp (by omega) (evb rfl (evp (by simp; omega) ?_)))))
    rw [w64 (by omega) (by omega), hexTab _ (by omega), hexTab _ (by omega)]
    have := ih (i + 1) (acc ++ [hexD (n / 16), hexD (n % 16)]) (by omega) (by simp; omega)
    rw [bytesOf_drop s i (by omega), hn, hexL_cons, ← List.append_assoc]
    exact this
theorem impl_Hex_is (s : ByteArray) : Ev (fun k => impl_Hex.f k s) (hexOf s) := by
  unfold hexOf
  simp only [impl_Hex.f]
  by_cases h : (s.size : Int) > 20000
  · exact evp h (evs (by rw [if_pos (by omega)]))
  · refine evn h ?_
    rw [if_neg (by omega)]
    have := impl_Hex_l s (by omega) s.size 0 [] (by omega) (by simp; omega)
    simpa using this

theorem FnExactHex : laws_FnExactHex.Pure := by
  intro s hs
  refine Ev.rounds (g := fun k => laws_FnExactHex.f k s) ?_
  simp only [laws_FnExactHex.f]
  by_cases h0 : (s.size : Int) > 1048576
  · exact evp h0 (Ev.now _)
  · exact evn h0 (Ev.bind (spec_Hex_is s) (Ev.bind (impl_Hex_is s) (evp rfl (evn (by simp) (Ev.now _)))))

end Go.Proofs.Ytepjagfbdagkmaa.Pure
