/-
The law FnExactSumOf of the given program answers true at every input: the plain statement that is left when the printed walk has stepped through the code.
Conditions: the bounds of the given row (sizes of texts and lists, numbers of their kinds); none of our own.
-/
import Derived.Test.YtepjagfbdagkmaaPFnExactSumOfx1
import Derived.Laws.BitsAllLaws
namespace Go.Proofs.Ytepjagfbdagkmaa.Pure
open Go.RowKit Go.Proofs.Ytepjagfbdagkmaa.PFnExactSumOf Go.Proofs.YtepjagfbdagkmaaW.PrintWords Go.Proofs.YtepjagfbdagkmaaW.PrintLast Go.Proofs.YtepjagfbdagkmaaW.PrintMore

theorem evp {α : Type} {c : Prop} [Decidable c] {f g : Nat → Option α} {r : α} (hc : c) (h : Ev f r) : Ev (fun k => if c then f k else g k) r := Ev.congr (fun _ => if_pos hc) h
theorem evn {α : Type} {c : Prop} [Decidable c] {f g : Nat → Option α} {r : α} (hc : ¬ c) (h : Ev g r) : Ev (fun k => if c then f k else g k) r := Ev.congr (fun _ => if_neg hc) h
theorem evs {α : Type} {x y : α} (h : x = y) : Ev (fun _ => some x) y := by subst h; exact Ev.now _
theorem evc {α : Type} {x : Option α} {y : α} (h : x = some y) : Ev (fun _ => x) y := by subst h; exact Ev.now _
theorem w64 {n : Int} (h1 : -9223372036854775808 ≤ n) (h2 : n ≤ 9223372036854775807) : wrap64 n = n := IntWalk.wrap64_in n ⟨h1, h2⟩
theorem w64n (n : Nat) (h : n ≤ 9223372036854775807) : wrap64 (n : Int) = (n : Int) := w64 (by omega) (by omega)
theorem w64s (n : Nat) (h : n + 1 ≤ 9223372036854775807) : wrap64 ((n : Int) + 1) = ((n + 1 : Nat) : Int) := by rw [w64 (by omega) (by omega)]; rfl
theorem w64a (a b : Nat) (h : a + b ≤ 9223372036854775807) : wrap64 ((a : Int) + (b : Int)) = ((a + b : Nat) : Int) := by rw [w64 (by omega) (by omega)]; rfl
theorem w64m (a b : Nat) (h : a * b ≤ 9223372036854775807) : wrap64 ((a : Int) * (b : Int)) = ((a * b : Nat) : Int) := by
  have e : ((a * b : Nat) : Int) = (a : Int) * (b : Int) := Int.natCast_mul a b
  rw [w64 (by omega) (by omega), e]
theorem wf64 {n : Int} (h : (Lit.int .i64 n).wf = true) : -9223372036854775808 ≤ n ∧ n ≤ 9223372036854775807 := by
  simp [Lit.wf, IntKind.min, IntKind.max, IntKind.bits, IntKind.signed] at h
  omega
theorem bt_lo (s : ByteArray) (i : Int) : 0 ≤ bt s i := (bt_range s i).1
theorem bt_hi (s : ByteArray) (i : Int) : bt s i ≤ 255 := (bt_range s i).2
theorem wfu32 {n : Int} (h : (Lit.int .u32 n).wf = true) : 0 ≤ n ∧ n < 4294967296 := by
  simp [Lit.wf, IntKind.min, IntKind.max, IntKind.bits, IntKind.signed] at h
  omega
theorem evb {α β : Type} {x : Option α} {f : Nat → α → Option β} {a : α} {r : β} (h : x = some a) (k : Ev (fun n => f n a) r) : Ev (fun n => x.bind (f n)) r := Ev.bind (g := fun _ => x) (evc h) k
theorem i64_nat (a b : Nat) (ha : a < 9223372036854775808) (hb : b < 9223372036854775808) : Go.bits .and .i64 (a : Int) (b : Int) = ((a &&& b : Nat) : Int) ∧ Go.bits .or .i64 (a : Int) (b : Int) = ((a ||| b : Nat) : Int) :=
  bits_nat .i64 63 (by decide) (fun m h0 h1 => by rw [IntKind.wrap_i64]; omega) a b ha hb

theorem tl_inj {a b : ByteArray} : a.toList = b.toList ↔ a = b := by
  rw [ByteArray.toList_eq, ByteArray.toList_eq]
  exact ⟨fun h => ByteArray.ext (Array.toList_inj.mp h), fun h => by rw [h]⟩
theorem son_bytesOf (s : ByteArray) : strOfNums (bytesOf s) = s := by
  apply tl_inj.1
  rw [ByteArray.toList_eq, ByteArray.toList_eq, strOfNums_data, bytesOf, List.map_map]
  have : ((fun n : Int => UInt8.ofNat n.toNat) ∘ fun b : UInt8 => (b.toNat : Int)) = id := by
    funext b; simp
  rw [this, List.map_id]
theorem bytesOf_son (l : List Int) (h : ∀ b ∈ l, 0 ≤ b ∧ b ≤ 255) : bytesOf (strOfNums l) = l := by
  rw [bytesOf, strOfNums_data, List.map_map]
  have : l.map ((fun b : UInt8 => (b.toNat : Int)) ∘ fun n : Int => UInt8.ofNat n.toNat) = l.map id := by
    apply List.map_congr_left
    intro b hb
    have := h b hb
    simp only [Function.comp, id, UInt8.toNat_ofNat']
    omega
  rw [this, List.map_id]
theorem bytesOf_inj {a b : ByteArray} (h : bytesOf a = bytesOf b) : a = b := by rw [← son_bytesOf a, ← son_bytesOf b, h]
theorem bytesOf_extract (s : ByteArray) (a b : Nat) : bytesOf (s.extract a b) = ((bytesOf s).drop a).take (b - a) := by
  unfold bytesOf
  rw [ByteArray.data_extract]
  simp [List.map_take, List.map_drop, List.extract]
theorem bytesOf_append (a b : ByteArray) : bytesOf (a ++ b) = bytesOf a ++ bytesOf b := by
  unfold bytesOf
  rw [ByteArray.data_append]
  simp
theorem bytesOf_range (s : ByteArray) : ∀ b ∈ bytesOf s, 0 ≤ b ∧ b ≤ 255 := by
  intro b hb
  unfold bytesOf at hb
  obtain ⟨c, _, rfl⟩ := List.mem_map.1 hb
  have := c.toNat_lt
  omega
theorem bytesOf_drop (s : ByteArray) (i : Nat) (h : i < s.size) : (bytesOf s).drop i = bt s (i : Int) :: (bytesOf s).drop (i + 1) := by
  have hl : i < (bytesOf s).length := by rw [bytesOf_length]; exact h
  rw [List.drop_eq_getElem_cons hl]
  congr 1
  have := rd_bytesOf s (i : Int)
  rw [← this]
  unfold rd
  simp [List.getD_eq_getElem?_getD, hl]
theorem bt_nat (s : ByteArray) (i : Int) : ∃ n : Nat, bt s i = (n : Int) ∧ n < 256 := by
  have h := bt_range s i
  exact ⟨(bt s i).toNat, by omega, by omega⟩

def crcStep (x : Int) : Int := if x % 2 = 1 then Go.bits .xor .u32 (x / 2) 3558460437 else x / 2
def crc8 : Nat → Int → Int
  | 0, x => x
  | d + 1, x => crc8 d (crcStep x)
def crcL (x : Int) (l : List Int) : Int := l.foldl (fun x b => crc8 8 (Go.bits .xor .u32 x b)) x
theorem u32_xor_range {a b : Int} (h1 : 0 ≤ a) (h2 : a < 4294967296) (h3 : 0 ≤ b) (h4 : b < 4294967296) : 0 ≤ Go.bits .xor .u32 a b ∧ Go.bits .xor .u32 a b < 4294967296 := by
  rw [u32_xor a b h1 h2 h3 h4]
  have : a.toNat ^^^ b.toNat < 2 ^ 32 := Nat.xor_lt_two_pow (by omega) (by omega)
  omega
theorem crcStep_range {x : Int} (h1 : 0 ≤ x) (h2 : x < 4294967296) : 0 ≤ crcStep x ∧ crcStep x < 4294967296 := by
  unfold crcStep
  split
  · exact u32_xor_range (by omega) (by omega) (by omega) (by omega)
  · omega
theorem crc8_range (d : Nat) : ∀ {x : Int}, 0 ≤ x → x < 4294967296 → 0 ≤ crc8 d x ∧ crc8 d x < 4294967296 := by
  induction d with
  | zero => intro x h1 h2; exact ⟨h1, h2⟩
  | succ d ih => intro x h1 h2; have := crcStep_range h1 h2; exact ih this.1 this.2
theorem crcL_range (l : List Int) : ∀ {x : Int}, 0 ≤ x → x < 4294967296 → (∀ b ∈ l, 0 ≤ b ∧ b ≤ 255) → 0 ≤ crcL x l ∧ crcL x l < 4294967296 := by
  induction l with
  | nil => intro x h1 h2 _; exact ⟨h1, h2⟩
  | cons b l ih =>
    intro x h1 h2 hb
    have hb0 := hb b (by simp)
    have h3 := u32_xor_range h1 h2 hb0.1 (by omega)
    have h4 := crc8_range 8 h3.1 h3.2
    exact ih h4.1 h4.2 (fun c hc => hb c (by simp [hc]))
theorem crcL_drop (s : ByteArray) (x : Int) (i : Nat) (h : i < s.size) : crcL x ((bytesOf s).drop i) = crcL (crc8 8 (Go.bits .xor .u32 x (bt s (i : Int)))) ((bytesOf s).drop (i + 1)) := by
  rw [bytesOf_drop s i h]; rfl
def crcS (x : Int) (s : ByteArray) : Int := crcL x (bytesOf s)
theorem crcS_range {x : Int} (s : ByteArray) (h1 : 0 ≤ x) (h2 : x < 4294967296) : 0 ≤ crcS x s ∧ crcS x s < 4294967296 := crcL_range _ h1 h2 (bytesOf_range s)

theorem spec_SumMore_l1 (s : ByteArray) (i : Int) (r : Int) (d : Nat) : ∀ (x : Int), 0 ≤ x → x < 4294967296 → d ≤ 8 → Ev (fun k => spec_SumMore.l0 k (crc8 d x) s (wrap64 (i + 1))) r → Ev (fun k => spec_SumMore.l1 k x s i (8 - (d : Int))) r := by
  induction d with
  | zero =>
    intro x h1 h2 _ h
    refine Ev.step (fun k => by rw [spec_SumMore.l1]) (evn (by omega) ?_)
    exact h
  | succ d ih =>
    intro x h1 h2 hd h
    have hr := crcStep_range h1 h2
    have h' := ih (crcStep x) hr.1 hr.2 (by omega) h
    have ew : wrap64 (8 - ((d + 1 : Nat) : Int) + 1) = 8 - (d : Int) := by rw [w64 (by omega) (by omega)]; omega
    have et : Int.tmod x 2 = x % 2 := Int.tmod_eq_emod_of_nonneg h1
    have ed : Int.tdiv x 2 % 4294967296 = x / 2 := by rw [Int.tdiv_eq_ediv_of_nonneg h1]; omega
    refine Ev.step (fun k => by rw [spec_SumMore.l1]) (evp (by omega) ?_)
    rw [et, ed, ew]
    unfold crcStep at h'
    by_cases hp : x % 2 = 1
    · rw [if_pos hp] at h'; exact evp hp h'
    · rw [if_neg hp] at h'; exact evn hp h'
theorem spec_SumMore_l0 (s : ByteArray) (hs : s.size ≤ 140737488351232) (d : Nat) : ∀ (x : Int) (i : Nat), 0 ≤ x → x < 4294967296 → i + d = s.size → Ev (fun k => spec_SumMore.l0 k x s (i : Int)) (crcL x ((bytesOf s).drop i)) := by
  induction d with
  | zero =>
    intro x i h1 h2 hi
    refine Ev.step (fun k => by rw [spec_SumMore.l0]) (evn (by omega) (evs ?_))
    rw [List.drop_eq_nil_of_le (by rw [bytesOf_length]; omega)]; rfl
  | succ d ih =>
    intro x i h1 h2 hi
    have hb := bt_range s (i : Int)
    have eb : bt s (i : Int) % 4294967296 = bt s (i : Int) := Int.emod_eq_of_lt hb.1 (by omega)
    have hx := u32_xor_range h1 h2 hb.1 (by omega)
    have hc := crc8_range 8 hx.1 hx.2
    refine Ev.step (fun k => by rw [spec_SumMore.l0]) (evp (by omega) (evp (by omega) ?_))
    rw [eb]
    refine spec_SumMore_l1 s i _ 8 _ hx.1 hx.2 (by omega) ?_
    rw [w64 (by omega) (by omega), crcL_drop s x i (by omega)]
    exact ih _ (i + 1) hc.1 hc.2 (by omega)
theorem spec_SumMore_is (x : Int) (s : ByteArray) (hs : s.size ≤ 140737488351232) (h1 : 0 ≤ x) (h2 : x < 4294967296) : Ev (fun k => spec_SumMore.f k x s) (crcS x s) := by
  have := spec_SumMore_l0 s hs s.size x 0 h1 h2 (by omega)
  simpa [spec_SumMore.f, crcS] using this

theorem u32_and1 {x : Int} (h1 : 0 ≤ x) (h2 : x < 4294967296) : Go.bits .and .u32 x 1 = x % 2 := by
  rw [u32_and x 1 h1 h2 (by omega) (by omega)]
  have : x.toNat &&& Int.toNat 1 = x.toNat % 2 := nat_mask1 x.toNat
  rw [this]; omega
theorem impl_SumMore_l1 (s : ByteArray) (n i : Int) (r : Int) (d : Nat) : ∀ (x : Int), 0 ≤ x → x < 4294967296 → d ≤ 8 → Ev (fun k => impl_SumMore.l0 k (crc8 d x) s n (wrap64 (i + 1))) r → Ev (fun k => impl_SumMore.l1 k x s n i (8 - (d : Int))) r := by
  induction d with
  | zero =>
    intro x h1 h2 _ h
    refine Ev.step (fun k => by rw [impl_SumMore.l1]) (evn (by omega) ?_)
    exact h
  | succ d ih =>
    intro x h1 h2 hd h
    have hr := crcStep_range h1 h2
    have h' := ih (crcStep x) hr.1 hr.2 (by omega) h
    have ew : wrap64 (8 - ((d + 1 : Nat) : Int) + 1) = 8 - (d : Int) := by rw [w64 (by omega) (by omega)]; omega
    refine Ev.step (fun k => by rw [impl_SumMore.l1]) (evp (by omega) ?_)
    rw [u32_and1 h1 h2, ew]
    unfold crcStep at h'
    by_cases hp : x % 2 = 1
    · rw [if_pos hp] at h'; exact evp hp h'
    · rw [if_neg hp] at h'; exact evn hp h'
theorem impl_SumMore_l0 (s : ByteArray) (hs : s.size ≤ 140737488351232) (d : Nat) : ∀ (x : Int) (i : Nat), 0 ≤ x → x < 4294967296 → i + d = s.size → Ev (fun k => impl_SumMore.l0 k x s (s.size : Int) (i : Int)) (crcL x ((bytesOf s).drop i)) := by
  induction d with
  | zero =>
    intro x i h1 h2 hi
    refine Ev.step (fun k => by rw [impl_SumMore.l0]) (evn (by omega) (evs ?_))
    rw [List.drop_eq_nil_of_le (by rw [bytesOf_length]; omega)]; rfl
  | succ d ih =>
    intro x i h1 h2 hi
    have hb := bt_range s (i : Int)
    have eb : bt s (i : Int) % 4294967296 = bt s (i : Int) := Int.emod_eq_of_lt hb.1 (by omega)
    have hx := u32_xor_range h1 h2 hb.1 (by omega)
    have hc := crc8_range 8 hx.1 hx.2
    refine Ev.step (fun k => by rw [impl_SumMore.l0]) (evp (by omega) (evp (by omega) (evp (by omega) ?_)))
    rw [eb]
    refine impl_SumMore_l1 s _ i _ 8 _ hx.1 hx.2 (by omega) ?_
    rw [w64 (by omega) (by omega), crcL_drop s x i (by omega)]
    exact ih _ (i + 1) hc.1 hc.2 (by omega)
theorem impl_SumMore_is (x : Int) (s : ByteArray) (hs : s.size ≤ 140737488351232) (h1 : 0 ≤ x) (h2 : x < 4294967296) : Ev (fun k => impl_SumMore.f k x s) (crcS x s) := by
  have := impl_SumMore_l0 s hs s.size x 0 h1 h2 (by omega)
  simpa [impl_SumMore.f, crcS] using this

theorem spec_SumOf_is (s : ByteArray) (hs : s.size ≤ 140737488351232) : Ev (fun k => spec_SumOf.f k s) (crcS 4294967295 s) := Ev.bind (spec_SumMore_is _ s hs (by omega) (by omega)) (Ev.now _)
theorem impl_SumOf_is (s : ByteArray) (hs : s.size ≤ 140737488351232) : Ev (fun k => impl_SumOf.f k s) (crcS 4294967295 s) := Ev.bind (impl_SumMore_is _ s hs (by omega) (by omega)) (Ev.now _)

theorem FnExactSumOf : laws_FnExactSumOf.Pure := by
  intro s hs
  refine Ev.rounds (g := fun k => laws_FnExactSumOf.f k s) ?_
  simp only [laws_FnExactSumOf.f]
  by_cases h0 : (s.size : Int) > 1048576
  · exact evp h0 (Ev.now _)
  · exact evn h0 (Ev.bind (spec_SumOf_is s hs) (Ev.bind (impl_SumOf_is s hs) (evp rfl (Ev.now _))))

end Go.Proofs.Ytepjagfbdagkmaa.Pure
