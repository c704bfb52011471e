/-
The law FnTurned of the given program answers true at every input: the plain statement that is left when the printed walk has stepped through the code.
Conditions: the bounds of the given row (sizes of texts and lists, numbers of their kinds); none of our own.
-/
import Derived.Test.YtkgbmimekaebfaaPFnTurnedx2
import Derived.Laws.BitsAllLaws
import Derived.Test.YtkgbmimekaebfaaBytes
namespace Go.Proofs.Ytkgbmimekaebfaa.Pure
open Go.RowKit Go.Proofs.Ytkgbmimekaebfaa.PFnTurned Go.Proofs.YtkgbmimekaebfaaW.PrintWords Go.Proofs.YtkgbmimekaebfaaW.PrintLast Go.Proofs.YtkgbmimekaebfaaW.PrintMore
set_option linter.unusedVariables false

theorem evp {α : Type} {c : Prop} [Decidable c] {f g : Nat → Option α} {r : α} (hc : c) (h : Ev f r) : Ev (fun k => if c then f k else g k) r := Ev.congr (fun _ => if_pos hc) h
theorem evn {α : Type} {c : Prop} [Decidable c] {f g : Nat → Option α} {r : α} (hc : ¬ c) (h : Ev g r) : Ev (fun k => if c then f k else g k) r := Ev.congr (fun _ => if_neg hc) h
theorem evs {α : Type} {x y : α} (h : x = y) : Ev (fun _ => some x) y := by subst h; exact Ev.now _
theorem evc {α : Type} {x : Option α} {y : α} (h : x = some y) : Ev (fun _ => x) y := by subst h; exact Ev.now _
theorem w64 {n : Int} (h1 : -9223372036854775808 ≤ n) (h2 : n ≤ 9223372036854775807) : wrap64 n = n := IntWalk.wrap64_in n ⟨h1, h2⟩
theorem w64n (n : Nat) (h : n ≤ 9223372036854775807) : wrap64 (n : Int) = (n : Int) := w64 (by omega) (by omega)
theorem w64s (n : Nat) (h : n + 1 ≤ 9223372036854775807) : wrap64 ((n : Int) + 1) = ((n + 1 : Nat) : Int) := by rw [w64 (by omega) (by omega)]; rfl
theorem w64a (a b : Nat) (h : a + b ≤ 9223372036854775807) : wrap64 ((a : Int) + (b : Int)) = ((a + b : Nat) : Int) := by rw [w64 (by omega) (by omega)]; rfl
theorem w64m (a b : Nat) (h : a * b ≤ 9223372036854775807) : wrap64 ((a : Int) * (b : Int)) = ((a * b : Nat) : Int) := by
  have e : ((a * b : Nat) : Int) = (a : Int) * (b : Int) := Int.natCast_mul a b
  rw [w64 (by omega) (by omega), e]
theorem wf64 {n : Int} (h : (Lit.int .i64 n).wf = true) : -9223372036854775808 ≤ n ∧ n ≤ 9223372036854775807 := by
  simp [Lit.wf, IntKind.min, IntKind.max, IntKind.bits, IntKind.signed] at h
  omega
theorem bt_lo (s : ByteArray) (i : Int) : 0 ≤ bt s i := (bt_range s i).1
theorem bt_hi (s : ByteArray) (i : Int) : bt s i ≤ 255 := (bt_range s i).2
theorem wfu32 {n : Int} (h : (Lit.int .u32 n).wf = true) : 0 ≤ n ∧ n < 4294967296 := by
  simp [Lit.wf, IntKind.min, IntKind.max, IntKind.bits, IntKind.signed] at h
  omega
theorem evb {α β : Type} {x : Option α} {f : Nat → α → Option β} {a : α} {r : β} (h : x = some a) (k : Ev (fun n => f n a) r) : Ev (fun n => x.bind (f n)) r := Ev.bind (g := fun _ => x) (evc h) k
theorem i64_nat (a b : Nat) (ha : a < 9223372036854775808) (hb : b < 9223372036854775808) : Go.bits .and .i64 (a : Int) (b : Int) = ((a &&& b : Nat) : Int) ∧ Go.bits .or .i64 (a : Int) (b : Int) = ((a ||| b : Nat) : Int) :=
  bits_nat .i64 63 (by decide) (fun m h0 h1 => by rw [IntKind.wrap_i64]; omega) a b ha hb

theorem tl_inj {a b : ByteArray} : a.toList = b.toList ↔ a = b := by
  rw [ByteArray.toList_eq, ByteArray.toList_eq]
  exact ⟨fun h => ByteArray.ext (Array.toList_inj.mp h), fun h => by rw [h]⟩
theorem son_bytesOf (s : ByteArray) : strOfNums (bytesOf s) = s := by
  apply tl_inj.1
  rw [ByteArray.toList_eq, ByteArray.toList_eq, strOfNums_data, bytesOf, List.map_map]
  have : ((fun n : Int => UInt8.ofNat n.toNat) ∘ fun b : UInt8 => (b.toNat : Int)) = id := by
    funext b; simp
  rw [this, List.map_id]
theorem bytesOf_son (l : List Int) (h : ∀ b ∈ l, 0 ≤ b ∧ b ≤ 255) : bytesOf (strOfNums l) = l := by
  rw [bytesOf, strOfNums_data, List.map_map]
  have : l.map ((fun b : UInt8 => (b.toNat : Int)) ∘ fun n : Int => UInt8.ofNat n.toNat) = l.map id := by
    apply List.map_congr_left
    intro b hb
    have := h b hb
    simp only [Function.comp, id, UInt8.toNat_ofNat']
    omega
  rw [this, List.map_id]
theorem bytesOf_inj {a b : ByteArray} (h : bytesOf a = bytesOf b) : a = b := by rw [← son_bytesOf a, ← son_bytesOf b, h]
theorem bytesOf_extract (s : ByteArray) (a b : Nat) : bytesOf (s.extract a b) = ((bytesOf s).drop a).take (b - a) := by
  unfold bytesOf
  rw [ByteArray.data_extract]
  simp [List.map_take, List.map_drop, List.extract]
theorem bytesOf_append (a b : ByteArray) : bytesOf (a ++ b) = bytesOf a ++ bytesOf b := by
  unfold bytesOf
  rw [ByteArray.data_append]
  simp
theorem bytesOf_range (s : ByteArray) : ∀ b ∈ bytesOf s, 0 ≤ b ∧ b ≤ 255 := by
  intro b hb
  unfold bytesOf at hb
  obtain ⟨c, _, rfl⟩ := List.mem_map.1 hb
  have := c.toNat_lt
  omega
theorem bytesOf_drop (s : ByteArray) (i : Nat) (h : i < s.size) : (bytesOf s).drop i = bt s (i : Int) :: (bytesOf s).drop (i + 1) := by
  have hl : i < (bytesOf s).length := by rw [bytesOf_length]; exact h
  rw [List.drop_eq_getElem_cons hl]
  congr 1
  have := rd_bytesOf s (i : Int)
  rw [← this]
  unfold rd
  simp [List.getD_eq_getElem?_getD, hl]
theorem bt_nat (s : ByteArray) (i : Int) : ∃ n : Nat, bt s i = (n : Int) ∧ n < 256 := by
  have h := bt_range s i
  exact ⟨(bt s i).toNat, by omega, by omega⟩

theorem rd_nat (l : List Int) (i : Nat) (h : i < l.length) : rd l (i : Int) = l[i] := by
  unfold rd
  rw [Int.toNat_natCast, List.getD_eq_getElem?_getD, List.getElem?_eq_getElem h]
  rfl

theorem impl_in_is (x a b : Int) : impl_in.f x a b = some (decide (a ≤ x ∧ x ≤ b)) := by
  unfold impl_in.f
  by_cases h : x ≥ a
  · rw [if_pos h]; congr 1; rw [decide_eq_decide]; exact ⟨fun h2 => ⟨h, h2⟩, fun h2 => h2.2⟩
  · rw [if_neg h]; congr 1; symm; rw [decide_eq_false_iff_not]; exact fun h2 => h h2.1

def crcStep (x : Int) : Int := if x % 2 = 1 then Go.bits .xor .u32 (x / 2) 3558460437 else x / 2
def crc8 : Nat → Int → Int
  | 0, x => x
  | d + 1, x => crc8 d (crcStep x)
def crcL (x : Int) (l : List Int) : Int := l.foldl (fun x b => crc8 8 (Go.bits .xor .u32 x b)) x
theorem u32_xor_range {a b : Int} (h1 : 0 ≤ a) (h2 : a < 4294967296) (h3 : 0 ≤ b) (h4 : b < 4294967296) : 0 ≤ Go.bits .xor .u32 a b ∧ Go.bits .xor .u32 a b < 4294967296 := by
  rw [u32_xor a b h1 h2 h3 h4]
  have : a.toNat ^^^ b.toNat < 2 ^ 32 := Nat.xor_lt_two_pow (by omega) (by omega)
  omega
theorem crcStep_range {x : Int} (h1 : 0 ≤ x) (h2 : x < 4294967296) : 0 ≤ crcStep x ∧ crcStep x < 4294967296 := by
  unfold crcStep
  split
  · exact u32_xor_range (by omega) (by omega) (by omega) (by omega)
  · omega
theorem crc8_range (d : Nat) : ∀ {x : Int}, 0 ≤ x → x < 4294967296 → 0 ≤ crc8 d x ∧ crc8 d x < 4294967296 := by
  induction d with
  | zero => intro x h1 h2; exact ⟨h1, h2⟩
  | succ d ih => intro x h1 h2; have := crcStep_range h1 h2; exact ih this.1 this.2
theorem crcL_range (l : List Int) : ∀ {x : Int}, 0 ≤ x → x < 4294967296 → (∀ b ∈ l, 0 ≤ b ∧ b ≤ 255) → 0 ≤ crcL x l ∧ crcL x l < 4294967296 := by
  induction l with
  | nil => intro x h1 h2 _; exact ⟨h1, h2⟩
  | cons b l ih =>
    intro x h1 h2 hb
    have hb0 := hb b (by simp)
    have h3 := u32_xor_range h1 h2 hb0.1 (by omega)
    have h4 := crc8_range 8 h3.1 h3.2
    exact ih h4.1 h4.2 (fun c hc => hb c (by simp [hc]))
theorem crcL_drop (s : ByteArray) (x : Int) (i : Nat) (h : i < s.size) : crcL x ((bytesOf s).drop i) = crcL (crc8 8 (Go.bits .xor .u32 x (bt s (i : Int)))) ((bytesOf s).drop (i + 1)) := by
  rw [bytesOf_drop s i h]; rfl
def crcS (x : Int) (s : ByteArray) : Int := crcL x (bytesOf s)
theorem crcS_range {x : Int} (s : ByteArray) (h1 : 0 ≤ x) (h2 : x < 4294967296) : 0 ≤ crcS x s ∧ crcS x s < 4294967296 := crcL_range _ h1 h2 (bytesOf_range s)

theorem xor_cancel {a b c : Int} (ha : 0 ≤ a) (ha' : a < 4294967296) (hb : 0 ≤ b) (hb' : b < 4294967296) (hc : 0 ≤ c) (hc' : c < 4294967296) (h : Go.bits .xor .u32 a c = Go.bits .xor .u32 b c) : a = b := by
  rw [u32_xor a c ha ha' hc hc', u32_xor b c hb hb' hc hc'] at h
  have h' : a.toNat ^^^ c.toNat = b.toNat ^^^ c.toNat := by exact_mod_cast h
  have : a.toNat = b.toNat := by simpa [Nat.xor_assoc] using congrArg (· ^^^ c.toNat) h'
  omega
theorem xor_cancel' {a b c : Int} (ha : 0 ≤ a) (ha' : a < 4294967296) (hb : 0 ≤ b) (hb' : b < 4294967296) (hc : 0 ≤ c) (hc' : c < 4294967296) (h : Go.bits .xor .u32 c a = Go.bits .xor .u32 c b) : a = b := by
  rw [u32_xor c a hc hc' ha ha', u32_xor c b hc hc' hb hb'] at h
  have h' : c.toNat ^^^ a.toNat = c.toNat ^^^ b.toNat := by exact_mod_cast h
  have : a.toNat = b.toNat := by simpa [← Nat.xor_assoc] using congrArg (c.toNat ^^^ ·) h'
  omega
theorem xor_big {a : Int} (ha : 0 ≤ a) (ha' : a < 2147483648) : 2147483648 ≤ Go.bits .xor .u32 a 3558460437 := by
  rw [u32_xor a 3558460437 (by omega) (by omega) (by omega) (by omega)]
  have e : Nat.testBit (a.toNat ^^^ 3558460437) 31 = true := by
    rw [Nat.testBit_xor, Nat.testBit_lt_two_pow (by omega : a.toNat < 2 ^ 31)]
    decide
  have := Nat.ge_two_pow_of_testBit e
  show (2147483648 : Int) ≤ ((a.toNat ^^^ 3558460437 : Nat) : Int)
  omega
theorem crcStep_inj {x y : Int} (hx : 0 ≤ x) (hx' : x < 4294967296) (hy : 0 ≤ y) (hy' : y < 4294967296) (h : crcStep x = crcStep y) : x = y := by
  unfold crcStep at h
  by_cases c1 : x % 2 = 1 <;> by_cases c2 : y % 2 = 1
  · rw [if_pos c1, if_pos c2] at h
    have := xor_cancel (by omega) (by omega) (by omega) (by omega) (by omega) (by omega) h
    omega
  · rw [if_pos c1, if_neg c2] at h
    have := xor_big (a := x / 2) (by omega) (by omega)
    omega
  · rw [if_neg c1, if_pos c2] at h
    have := xor_big (a := y / 2) (by omega) (by omega)
    omega
  · rw [if_neg c1, if_neg c2] at h
    omega
theorem crc8_inj (d : Nat) : ∀ {x y : Int}, 0 ≤ x → x < 4294967296 → 0 ≤ y → y < 4294967296 → crc8 d x = crc8 d y → x = y := by
  induction d with
  | zero => intro x y _ _ _ _ h; exact h
  | succ d ih =>
    intro x y h1 h2 h3 h4 h
    have r1 := crcStep_range h1 h2
    have r2 := crcStep_range h3 h4
    exact crcStep_inj h1 h2 h3 h4 (ih r1.1 r1.2 r2.1 r2.2 h)
theorem crcL_inj (l : List Int) : ∀ {x y : Int}, 0 ≤ x → x < 4294967296 → 0 ≤ y → y < 4294967296 → (∀ b ∈ l, 0 ≤ b ∧ b ≤ 255) → crcL x l = crcL y l → x = y := by
  induction l with
  | nil => intro x y _ _ _ _ _ h; exact h
  | cons b l ih =>
    intro x y h1 h2 h3 h4 hb h
    have hb0 := hb b (by simp)
    have r1 := u32_xor_range h1 h2 hb0.1 (by omega)
    have r2 := u32_xor_range h3 h4 hb0.1 (by omega)
    have q1 := crc8_range 8 r1.1 r1.2
    have q2 := crc8_range 8 r2.1 r2.2
    have := crc8_inj 8 r1.1 r1.2 r2.1 r2.2 (ih q1.1 q1.2 q2.1 q2.2 (fun c hc => hb c (by simp [hc])) h)
    exact xor_cancel h1 h2 h3 h4 hb0.1 (by omega) this
theorem crcL_app (x : Int) (p q : List Int) : crcL x (p ++ q) = crcL (crcL x p) q := by unfold crcL; exact List.foldl_append
theorem crcL_turn (p q : List Int) (b c : Int) {x : Int} (h1 : 0 ≤ x) (h2 : x < 4294967296) (hp : ∀ b ∈ p, 0 ≤ b ∧ b ≤ 255) (hq : ∀ b ∈ q, 0 ≤ b ∧ b ≤ 255) (hb : 0 ≤ b ∧ b ≤ 255) (hc : 0 ≤ c ∧ c ≤ 255) (h : crcL x (p ++ b :: q) = crcL x (p ++ c :: q)) : b = c := by
  rw [crcL_app, crcL_app] at h
  have r := crcL_range p h1 h2 hp
  have r1 := u32_xor_range r.1 r.2 hb.1 (by omega)
  have r2 := u32_xor_range r.1 r.2 hc.1 (by omega)
  have q1 := crc8_range 8 r1.1 r1.2
  have q2 := crc8_range 8 r2.1 r2.2
  have := crc8_inj 8 r1.1 r1.2 r2.1 r2.2 (crcL_inj q q1.1 q1.2 q2.1 q2.2 hq h)
  exact xor_cancel' hb.1 (by omega) hc.1 (by omega) r.1 r.2 this

theorem u32_and1 {x : Int} (h1 : 0 ≤ x) (h2 : x < 4294967296) : Go.bits .and .u32 x 1 = x % 2 := by
  rw [u32_and x 1 h1 h2 (by omega) (by omega)]
  have : x.toNat &&& Int.toNat 1 = x.toNat % 2 := nat_mask1 x.toNat
  rw [this]; omega
theorem impl_SumMore_l1 (s : ByteArray) (n i : Int) (r : Int) (d : Nat) : ∀ (x : Int), 0 ≤ x → x < 4294967296 → d ≤ 8 → Ev (fun k => impl_SumMore.l0 k (crc8 d x) s n (wrap64 (i + 1))) r → Ev (fun k => impl_SumMore.l1 k x s n i (8 - (d : Int))) r := by
  induction d with
  | zero =>
    intro x h1 h2 _ h
    refine Ev.step (fun k => by rw [impl_SumMore.l1]) (evn (by omega) ?_)
    exact h
  | succ d ih =>
    intro x h1 h2 hd h
    have hr := crcStep_range h1 h2
    have h' := ih (crcStep x) hr.1 hr.2 (by omega) h
    have ew : wrap64 (8 - ((d + 1 : Nat) : Int) + 1) = 8 - (d : Int) := by rw [w64 (by omega) (by omega)]; omega
    refine Ev.step (fun k => by rw [impl_SumMore.l1]) (evp (by omega) ?_)
    rw [u32_and1 h1 h2, ew]
    unfold crcStep at h'
    by_cases hp : x % 2 = 1
    · rw [if_pos hp] at h'; exact evp hp h'
    · rw [if_neg hp] at h'; exact evn hp h'
theorem impl_SumMore_l0 (s : ByteArray) (hs : s.size ≤ 140737488351232) (d : Nat) : ∀ (x : Int) (i : Nat), 0 ≤ x → x < 4294967296 → i + d = s.size → Ev (fun k => impl_SumMore.l0 k x s (s.size : Int) (i : Int)) (crcL x ((bytesOf s).drop i)) := by
  induction d with
  | zero =>
    intro x i h1 h2 hi
    refine Ev.step (fun k => by rw [impl_SumMore.l0]) (evn (by omega) (evs ?_))
    rw [List.drop_eq_nil_of_le (by rw [bytesOf_length]; omega)]; rfl
  | succ d ih =>
    intro x i h1 h2 hi
    have hb := bt_range s (i : Int)
    have eb : bt s (i : Int) % 4294967296 = bt s (i : Int) := Int.emod_eq_of_lt hb.1 (by omega)
    have hx := u32_xor_range h1 h2 hb.1 (by omega)
    have hc := crc8_range 8 hx.1 hx.2
    refine Ev.step (fun k => by rw [impl_SumMore.l0]) (evp (by omega) (evp (by omega) (evp (by omega) ?_)))
    rw [eb]
    refine impl_SumMore_l1 s _ i _ 8 _ hx.1 hx.2 (by omega) ?_
    rw [w64 (by omega) (by omega), crcL_drop s x i (by omega)]
    exact ih _ (i + 1) hc.1 hc.2 (by omega)
theorem impl_SumMore_is (x : Int) (s : ByteArray) (hs : s.size ≤ 140737488351232) (h1 : 0 ≤ x) (h2 : x < 4294967296) : Ev (fun k => impl_SumMore.f k x s) (crcS x s) := by
  have := impl_SumMore_l0 s hs s.size x 0 h1 h2 (by omega)
  simpa [impl_SumMore.f, crcS] using this

theorem i64_and255 (a : Int) : 0 ≤ Go.bits .and .i64 a 255 ∧ Go.bits .and .i64 a 255 ≤ 255 := by
  show 0 ≤ IntKind.i64.wrap ((BitVec.ofInt 64 a &&& BitVec.ofInt 64 255).toNat : Int) ∧ IntKind.i64.wrap ((BitVec.ofInt 64 a &&& BitVec.ofInt 64 255).toNat : Int) ≤ 255
  rw [BitVec.toNat_and, show (BitVec.ofInt 64 255).toNat = 255 from rfl, nat_mask8, IntKind.wrap_i64]
  omega
theorem rd_range {l : List Int} (hl : ∀ x ∈ l, (Lit.int .u8 x).wf = true) (i : Int) : 0 ≤ rd l i ∧ rd l i ≤ 255 := by
  unfold rd
  rw [List.getD_eq_getElem?_getD]
  cases h : l[i.toNat]? with
  | none => simp
  | some x =>
    have := hl x (List.mem_of_getElem? h)
    simp [Lit.wf, IntKind.min, IntKind.max, IntKind.bits, IntKind.signed] at this
    simp only [Option.getD_some]
    omega
theorem spec_l01New_l (l : List Int) : ∀ (d i : Nat) (h : Int), i + d = 4000 → ∃ h', Ev (fun k => spec_l01New.l0 k l h (i : Int)) (l, 0, h') := by
  intro d
  induction d with
  | zero =>
    intro i h h1
    refine ⟨h, Ev.step (fun k => by rw [spec_l01New.l0]) ?_⟩
    by_cases c : (i : Int) < (l.length : Int)
    · exact evp c (evn (by omega) (evs rfl))
    · exact evn c (evs rfl)
  | succ d ih =>
    intro i h h1
    by_cases c : (i : Int) < (l.length : Int)
    · obtain ⟨h', hh⟩ := ih (i + 1) (Go.bits .and .i64 (wrap64 ((wrap64 ((wrap64 (h * 131)) + (wrap64 (rd l (i : Int))))) + 7)) 1073741823) (by omega)
      refine ⟨h', Ev.step (fun k => by rw [spec_l01New.l0]) (evp c (evp (by omega) (evp (by omega) ?_)))⟩
      rw [w64s i (by omega)]
      exact hh
    · exact ⟨h, Ev.step (fun k => by rw [spec_l01New.l0]) (evn c (evs rfl))⟩
theorem spec_l01New_is (l : List Int) : ∃ h', Ev (fun k => spec_l01New.f k l) (l, 0, h') := spec_l01New_l l 4000 0 _ rfl
theorem spec_l01Byte_is (l : List Int) (hl : ∀ x ∈ l, (Lit.int .u8 x).wf = true) (hm : l.length ≤ 9223372036854775000) (i : Nat) (h : Int) : ∃ (x : Int) (i' : Nat) (h' : Int), spec_l01Byte.f l (i : Int) h = some (x, (i' : Int), h') ∧ 0 ≤ x ∧ x ≤ 255 := by
  unfold spec_l01Byte.f
  by_cases c : (i : Int) < (l.length : Int)
  · rw [if_pos c, if_pos (by omega)]
    rw [w64s i (by omega)]
    exact ⟨_, i + 1, _, rfl, i64_and255 _⟩
  · rw [if_neg c]
    exact ⟨_, i, _, rfl, i64_and255 _⟩
theorem spec_l01Below_is (l : List Int) (hl : ∀ x ∈ l, (Lit.int .u8 x).wf = true) (hm : l.length ≤ 9223372036854775000) (i : Nat) (h n : Int) (hn : 0 < n) : ∃ (x : Int) (i' : Nat) (h' : Int), spec_l01Below.f l (i : Int) h n = some (x, (i' : Int), h') ∧ 0 ≤ x ∧ x < n := by
  unfold spec_l01Below.f
  rw [if_neg (by omega)]
  by_cases c : n ≤ 256
  · rw [if_pos c]
    obtain ⟨x, i', h', e, r1, r2⟩ := spec_l01Byte_is l hl hm i h
    rw [e, Option.bind_some, if_neg (by omega)]
    refine ⟨_, i', h', rfl, ?_, ?_⟩
    · exact Int.tmod_nonneg _ r1
    · exact Int.tmod_lt_of_pos _ hn
  · rw [if_neg c]
    obtain ⟨x, i1, h1, e1, a1, a2⟩ := spec_l01Byte_is l hl hm i h
    obtain ⟨y, i2, h2, e2, b1, b2⟩ := spec_l01Byte_is l hl hm i1 h1
    obtain ⟨z, i3, h3, e3, c1, c2⟩ := spec_l01Byte_is l hl hm i2 h2
    obtain ⟨u, i4, h4, e4, d1, d2⟩ := spec_l01Byte_is l hl hm i3 h3
    rw [e1, Option.bind_some]
    dsimp only
    rw [e2, Option.bind_some]
    dsimp only
    rw [e3, Option.bind_some]
    dsimp only
    rw [e4, Option.bind_some, if_neg (by omega)]
    have q1 : wrap64 (x * 16777216) = x * 16777216 := w64 (by omega) (by omega)
    have q2 : wrap64 (y * 65536) = y * 65536 := w64 (by omega) (by omega)
    have q3 : wrap64 (z * 256) = z * 256 := w64 (by omega) (by omega)
    have q4 : wrap64 (x * 16777216 + y * 65536) = x * 16777216 + y * 65536 := w64 (by omega) (by omega)
    have q5 : wrap64 (x * 16777216 + y * 65536 + z * 256) = x * 16777216 + y * 65536 + z * 256 := w64 (by omega) (by omega)
    have q6 : wrap64 (x * 16777216 + y * 65536 + z * 256 + u) = x * 16777216 + y * 65536 + z * 256 + u := w64 (by omega) (by omega)
    rw [q1, q2, q3, q4, q5, q6]
    exact ⟨_, i4, h4, rfl, Int.tmod_nonneg _ (by omega), Int.tmod_lt_of_pos _ hn⟩

theorem spec_DrawPlaces_l (l : List Int) (hl : ∀ x ∈ l, (Lit.int .u8 x).wf = true) (hm : l.length ≤ 9223372036854775000) : ∀ (d i : Nat) (acc : List Int) (at_ : Nat) (h : Int), i + d = 12 → acc.length = i → (∀ x ∈ acc, 0 ≤ x ∧ x < 10000) →
    ∃ p : List Int, p.length = 12 ∧ (∀ x ∈ p, 0 ≤ x ∧ x < 10000) ∧ Ev (fun k => spec_DrawPlaces.l0 k acc (i : Int) l (at_ : Int) h) p := by
  intro d
  induction d with
  | zero =>
    intro i acc a h h1 h2 h3
    exact ⟨acc, by omega, h3, Ev.step (fun k => by rw [spec_DrawPlaces.l0]) (evn (by omega) (evs rfl))⟩
  | succ d ih =>
    intro i acc a h h1 h2 h3
    obtain ⟨x, a', h', e, r1, r2⟩ := spec_l01Below_is l hl hm a h 10000 (by omega)
    obtain ⟨p, p1, p2, p3⟩ := ih (i + 1) (acc ++ [x]) a' h' (by omega) (by rw [List.length_append, h2]; rfl) (fun y hy => by
      rcases List.mem_append.1 hy with hy | hy
      · exact h3 y hy
      · simp at hy; subst hy; exact ⟨r1, r2⟩)
    refine ⟨p, p1, p2, Ev.step (fun k => by rw [spec_DrawPlaces.l0]) (evp (by omega) (evb e ?_))⟩
    refine evp (by omega) ?_
    rw [w64s i (by omega)]
    exact p3
theorem spec_DrawPlaces_is (l : List Int) (hl : ∀ x ∈ l, (Lit.int .u8 x).wf = true) (hm : l.length ≤ 9223372036854775000) : ∃ p : List Int, p.length = 12 ∧ (∀ x ∈ p, 0 ≤ x ∧ x < 10000) ∧ Ev (fun k => spec_DrawPlaces.f k l) p := by
  obtain ⟨h0, e0⟩ := spec_l01New_is l
  obtain ⟨x, i1, h1, e1, _, _⟩ := spec_l01Byte_is l hl hm 0 h0
  obtain ⟨p, p1, p2, p3⟩ := spec_DrawPlaces_l l hl hm 12 0 [] i1 h1 rfl rfl (fun x hx => by simp at hx)
  exact ⟨p, p1, p2, Ev.bind e0 (evb e1 p3)⟩

theorem spec_l01Text_l (l : List Int) (hl : ∀ x ∈ l, (Lit.int .u8 x).wf = true) (hm : l.length ≤ 9223372036854775000) (n : Int) (hn : n ≤ 5000) : ∀ (d i : Nat) (acc : List Int) (a : Nat) (h : Int), (i : Int) + d = max n 0 → acc.length = i →
    ∃ (t : ByteArray) (a' : Nat) (h' : Int), (t.size : Int) = max n 0 ∧ Ev (fun k => spec_l01Text.l0 k n acc (i : Int) l (a : Int) h) (t, (a' : Int), h') := by
  intro d
  induction d with
  | zero =>
    intro i acc a h h1 h2
    refine ⟨strOfNums acc, a, h, by rw [strOfNums_size]; omega, Ev.step (fun k => by rw [spec_l01Text.l0]) ?_⟩
    exact evn (by omega) (evs rfl)
  | succ d ih =>
    intro i acc a h h1 h2
    obtain ⟨x, a1, h1', e, _, _⟩ := spec_l01Byte_is l hl hm a h
    obtain ⟨t, a', h', t1, t2⟩ := ih (i + 1) (acc ++ [x % 256]) a1 h1' (by omega) (by rw [List.length_append, h2]; rfl)
    refine ⟨t, a', h', t1, Ev.step (fun k => by rw [spec_l01Text.l0]) (evp (by omega) (evb e ?_))⟩
    refine evp (by omega) ?_
    rw [w64s i (by omega)]
    exact t2
theorem spec_l01Text_is (l : List Int) (hl : ∀ x ∈ l, (Lit.int .u8 x).wf = true) (hm : l.length ≤ 9223372036854775000) (a : Nat) (h n : Int) : ∃ (t : ByteArray) (a' : Nat) (h' : Int), (t.size : Int) = max (min n 5000) 0 ∧ Ev (fun k => spec_l01Text.f k l (a : Int) h n) (t, (a' : Int), h') := by
  unfold spec_l01Text.f
  by_cases c : n > 5000
  · obtain ⟨t, a', h', t1, t2⟩ := spec_l01Text_l l hl hm 5000 (by omega) 5000 0 [] a h (by omega) rfl
    refine ⟨t, a', h', by omega, evp c ?_⟩
    refine Ev.step (fun k => by rw [spec_l01Text.j0]) ?_
    exact t2
  · obtain ⟨t, a', h', t1, t2⟩ := spec_l01Text_l l hl hm n (by omega) n.toNat 0 [] a h (by omega) rfl
    refine ⟨t, a', h', by omega, evn c ?_⟩
    refine Ev.step (fun k => by rw [spec_l01Text.j0]) ?_
    exact t2
theorem rd_mem (l : List Int) (i : Int) (h0 : 0 ≤ i) (h1 : i < l.length) : rd l i ∈ l := by
  unfold rd
  rw [List.getD_eq_getElem?_getD, List.getElem?_eq_getElem (by omega)]
  exact List.getElem_mem _

theorem impl_SumOf_is (s : ByteArray) (hs : s.size ≤ 140737488351232) : Ev (fun k => impl_SumOf.f k s) (crcS 4294967295 s) := Ev.bind (impl_SumMore_is _ s hs (by omega) (by omega)) (Ev.now _)
def four (x : Int) : ByteArray := strOfNums [(x / 16777216) % 256, (x / 65536) % 256, (x / 256) % 256, x % 256]
theorem four_size (x : Int) : (four x).size = 4 := by unfold four; rw [strOfNums_size]; rfl
theorem impl_seal_is (s : ByteArray) (hs : s.size ≤ 140737488351232) : Ev (fun k => impl_seal.f k s) (four (crcS 4294967295 s)) := Ev.bind (impl_SumOf_is s hs) (Ev.now _)
def unsealed (s : ByteArray) : ByteArray × Bool :=
  if 4 ≤ s.size ∧ s.size ≤ 20004 ∧ (s.extract (s.size - 4) s.size).toList = (four (crcS 4294967295 (s.extract 0 (s.size - 4)))).toList then (s.extract 0 (s.size - 4), true) else (⟨#[]⟩, false)
theorem extract_le (s : ByteArray) (i j : Nat) (hs : s.size ≤ 140737488351232) : (s.extract i j).size ≤ 140737488351232 := by rw [ByteArray.size_extract]; omega
theorem impl_Unsealed_is (s : ByteArray) (hs : s.size ≤ 140737488351232) : Ev (fun k => impl_Unsealed.f k s) (unsealed s) := by
  unfold impl_Unsealed.f unsealed
  have e0 : wrap64 ((s.size : Int) - 4) = (s.size : Int) - 4 := w64 (by omega) (by omega)
  simp only [e0]
  refine evb (impl_in_is _ _ _) ?_
  by_cases h1 : 0 ≤ (s.size : Int) - 4 ∧ (s.size : Int) - 4 ≤ 20000
  · refine evp (by simpa using h1) (evp (by omega) (evp (by omega) ?_))
    have e1 : ((s.size : Int) - 4).toNat = s.size - 4 := by omega
    simp only [e1]
    refine Ev.bind (impl_seal_is _ (extract_le s _ _ hs)) ?_
    by_cases h3 : (s.extract (s.size - 4) s.size).toList = (four (crcS 4294967295 (s.extract 0 (s.size - 4)))).toList
    · exact evp h3 (evs (by rw [if_pos ⟨by omega, by omega, h3⟩]))
    · exact evn h3 (evs (by rw [if_neg (fun h => h3 h.2.2)]))
  · exact evn (by simpa using h1) (evs (by rw [if_neg (by omega)]))
def fourL (x : Int) : List Int := [(x / 16777216) % 256, (x / 65536) % 256, (x / 256) % 256, x % 256]
theorem bytesOf_four (x : Int) : bytesOf (four x) = fourL x := bytesOf_son _ (by
  intro b hb
  simp only [List.mem_cons, List.not_mem_nil, or_false] at hb
  rcases hb with rfl | rfl | rfl | rfl <;> omega)
theorem fourL_inj {x y : Int} (hx : 0 ≤ x) (hx2 : x < 4294967296) (hy : 0 ≤ y) (hy2 : y < 4294967296) (h : fourL x = fourL y) : x = y := by
  simp only [fourL, List.cons.injEq, and_true] at h
  omega
theorem unsealed_own (s : ByteArray) (hs : s.size ≤ 20000) : unsealed (s ++ four (crcS 4294967295 s)) = (s, true) := by
  have h4 := four_size (crcS 4294967295 s)
  have hz : (s ++ four (crcS 4294967295 s)).size = s.size + 4 := by rw [ByteArray.size_append, h4]
  have e1 : (s ++ four (crcS 4294967295 s)).extract 0 s.size = s := by
    apply bytesOf_inj
    rw [bytesOf_extract, bytesOf_append, List.drop_zero, Nat.sub_zero, List.take_append_of_le_length (by rw [bytesOf_length]; exact Nat.le_refl _), List.take_of_length_le (by rw [bytesOf_length]; exact Nat.le_refl _)]
  have e2 : (s ++ four (crcS 4294967295 s)).extract s.size (s.size + 4) = four (crcS 4294967295 s) := by
    apply bytesOf_inj
    rw [bytesOf_extract, bytesOf_append, List.drop_append_of_le_length (by rw [bytesOf_length]; exact Nat.le_refl _), List.drop_of_length_le (by rw [bytesOf_length]; exact Nat.le_refl _), List.nil_append, List.take_of_length_le (by rw [bytesOf_length, h4]; omega)]
  unfold unsealed
  rw [hz, Nat.add_sub_cancel, e1, e2, if_pos ⟨by omega, by omega, rfl⟩]
theorem u8_xor_range (b m : Int) (hb : 0 ≤ b ∧ b ≤ 255) (hm : 0 ≤ m ∧ m ≤ 255) : 0 ≤ Go.bits .xor .u8 b m ∧ Go.bits .xor .u8 b m ≤ 255 := by
  rw [u8_xor b m hb.1 (by omega) hm.1 (by omega)]
  have : b.toNat ^^^ m.toNat < 2 ^ 8 := Nat.xor_lt_two_pow (by omega) (by omega)
  omega
theorem u8_xor_ne (b m : Int) (hb : 0 ≤ b ∧ b ≤ 255) (hm : 1 ≤ m ∧ m ≤ 255) : Go.bits .xor .u8 b m ≠ b := by
  rw [u8_xor b m hb.1 (by omega) (by omega) (by omega)]
  intro h
  have h2 : b.toNat ^^^ m.toNat = b.toNat := by omega
  have h3 : m.toNat = 0 := by
    have := congrArg (b.toNat ^^^ ·) h2
    simpa [← Nat.xor_assoc] using this
  omega
theorem split_at (l : List Int) (i : Nat) (h : i < l.length) (x : Int) : l = l.take i ++ l[i] :: l.drop (i + 1) ∧ l.set i x = l.take i ++ x :: l.drop (i + 1) := by
  constructor
  · conv => lhs; rw [← List.take_append_drop i l, List.drop_eq_getElem_cons h]
  · rw [List.set_eq_take_append_cons_drop, if_pos h]
theorem unsealed_turned (s : ByteArray) (hs : s.size ≤ 20000) (i : Nat) (m : Int) (hm : 1 ≤ m ∧ m ≤ 255) (hi : i < s.size + 4) : (unsealed (Bytes.turnB (s ++ four (crcS 4294967295 s)) i m)).2 = false := by
  have h4 := four_size (crcS 4294967295 s)
  generalize ht : s ++ four (crcS 4294967295 s) = t
  have hz : t.size = s.size + 4 := by rw [← ht, ByteArray.size_append, h4]
  have hb := bt_range t (i : Int)
  have hx := u8_xor_range (bt t (i : Int)) m hb ⟨by omega, hm.2⟩
  have hxn := u8_xor_ne (bt t (i : Int)) m hb hm
  have hl : (bytesOf t).length = s.size + 4 := by rw [bytesOf_length, hz]
  have hbt : bytesOf t = bytesOf s ++ fourL (crcS 4294967295 s) := by rw [← ht, bytesOf_append, bytesOf_four]
  have hg : (bytesOf t)[i]'(by omega) = bt t (i : Int) := by rw [← rd_bytesOf t (i : Int), rd_nat _ i (by omega)]
  unfold Bytes.turnB
  rw [show Bytes.byt t = bytesOf t from rfl]
  generalize Go.bits .xor .u8 (bt t (i : Int)) m = x at hx hxn
  have hu : bytesOf (strOfNums ((bytesOf t).set i x)) = (bytesOf t).set i x := bytesOf_son _ (by
    intro b hb2
    rcases List.mem_or_eq_of_mem_set hb2 with h1 | h1
    · exact bytesOf_range t b h1
    · rw [h1]; exact hx)
  generalize strOfNums ((bytesOf t).set i x) = u at hu
  have huz : u.size = s.size + 4 := by rw [← bytesOf_length, hu, List.length_set, hl]
  unfold unsealed
  by_cases c : 4 ≤ u.size ∧ u.size ≤ 20004 ∧ (u.extract (u.size - 4) u.size).toList = (four (crcS 4294967295 (u.extract 0 (u.size - 4)))).toList
  · exfalso
    have h := congrArg bytesOf (tl_inj.1 c.2.2)
    rw [huz, Nat.add_sub_cancel, bytesOf_four, bytesOf_extract, hu] at h
    have hcs : crcS 4294967295 (u.extract 0 s.size) = crcL 4294967295 (((bytesOf t).set i x).take s.size) := by
      unfold crcS
      rw [bytesOf_extract, hu, List.drop_zero, Nat.sub_zero]
    rw [hcs] at h
    have hsl : (bytesOf s).length = s.size := bytesOf_length s
    by_cases ci : i < s.size
    · have e1 : ((bytesOf t).set i x).drop s.size = fourL (crcS 4294967295 s) := by
        rw [List.drop_set_of_lt ci, hbt, List.drop_append_of_le_length (by omega), List.drop_of_length_le (by omega), List.nil_append]
      have e2 : ((bytesOf t).set i x).take s.size = (bytesOf s).set i x := by
        rw [List.take_set, hbt, List.take_append_of_le_length (by omega), List.take_of_length_le (by omega)]
      rw [e1, e2, List.take_of_length_le (by simp [fourL])] at h
      have hr1 := crcS_range s (show (0 : Int) ≤ 4294967295 by omega) (by omega)
      have hset : ∀ b ∈ (bytesOf s).set i x, 0 ≤ b ∧ b ≤ 255 := by
        intro b hb2
        rcases List.mem_or_eq_of_mem_set hb2 with h1 | h1
        · exact bytesOf_range s b h1
        · rw [h1]; exact hx
      have hr2 := crcL_range ((bytesOf s).set i x) (show (0 : Int) ≤ 4294967295 by omega) (by omega) hset
      have hc := fourL_inj hr1.1 hr1.2 hr2.1 hr2.2 h
      unfold crcS at hc
      obtain ⟨q1, q2⟩ := split_at (bytesOf s) i (by omega) x
      rw [q2] at hc
      conv at hc => lhs; rw [q1]
      have hsi : (bytesOf s)[i]'(by omega) = bt t (i : Int) := by
        rw [← hg]
        simp only [hbt]
        rw [List.getElem_append_left (by omega)]
      have := crcL_turn ((bytesOf s).take i) ((bytesOf s).drop (i + 1)) _ x (show (0 : Int) ≤ 4294967295 by omega) (by omega) (fun b hb2 => bytesOf_range s b (List.mem_of_mem_take hb2)) (fun b hb2 => bytesOf_range s b (List.mem_of_mem_drop hb2)) (bytesOf_range s _ (List.getElem_mem _)) hx hc
      rw [hsi] at this
      exact hxn this.symm
    · have e2 : ((bytesOf t).set i x).take s.size = bytesOf s := by
        rw [List.take_set_of_le (by omega), hbt, List.take_append_of_le_length (by omega), List.take_of_length_le (by omega)]
      rw [e2] at h
      have hd : (bytesOf t).drop s.size = fourL (crcS 4294967295 s) := by rw [hbt, List.drop_append_of_le_length (by omega), List.drop_of_length_le (by omega), List.nil_append]
      rw [List.take_of_length_le (by rw [List.length_drop, List.length_set]; omega)] at h
      have e4 : ((bytesOf t).set i x).drop s.size = (bytesOf t).drop s.size := by rw [h, hd]; rfl
      have e5 := congrArg (fun l => l[i - s.size]?) e4
      simp only [List.getElem?_drop] at e5
      rw [show s.size + (i - s.size) = i by omega, List.getElem?_set_self (by omega), List.getElem?_eq_getElem (by omega), hg] at e5
      exact hxn (Option.some.inj e5)
  · rw [if_neg c]
theorem spec_DrawSumOf_is (l : List Int) (hl : ∀ x ∈ l, (Lit.int .u8 x).wf = true) (hm : l.length ≤ 9223372036854775000) : ∃ t : ByteArray, t.size ≤ 5000 ∧ Ev (fun k => spec_DrawSumOf.f k l) t := by
  obtain ⟨h0, e0⟩ := spec_l01New_is l
  obtain ⟨n, a1, h1, e1, n1, n2⟩ := spec_l01Below_is l hl hm 0 h0 40 (by omega)
  obtain ⟨t, a2, h2, t1, t2⟩ := spec_l01Text_is l hl hm a1 h1 n
  exact ⟨t, by omega, Ev.bind e0 (evb e1 (Ev.bind t2 (evs rfl)))⟩
theorem impl_Sealed_is (s : ByteArray) (hs : s.size ≤ 20000) : Ev (fun k => impl_Sealed.f k s) (s ++ four (crcS 4294967295 s), true) := by
  unfold impl_Sealed.f
  have h4 := four_size (crcS 4294967295 s)
  exact evn (by omega) (Ev.bind (impl_seal_is s (by omega)) (evp (by omega) (evs rfl)))
theorem crcS_app (x : Int) (a b : ByteArray) : crcS x (a ++ b) = crcS (crcS x a) b := by
  unfold crcS
  rw [bytesOf_append, crcL_app]
theorem FnTurned : laws_FnTurned.Pure := by
  intro l hl hl8 hw
  refine Ev.rounds (g := fun k => laws_FnTurned.f k l) ?_
  unfold laws_FnTurned.f
  have hlm : l.length ≤ 9223372036854775000 := by simp only [maxLen] at hl; omega
  obtain ⟨s, hs, s2⟩ := spec_DrawSumOf_is l hw hlm
  obtain ⟨p, p1, p2, p3⟩ := spec_DrawPlaces_is l hw hlm
  refine evb rfl ?_
  by_cases c : (l.length : Int) > 1048576
  · exact evp (decide_eq_true c) (Ev.now _)
  refine evn (by simpa using c) (Ev.bind s2 (Ev.bind p3 (Ev.bind (impl_Sealed_is s (by omega)) ?_)))
  have h4 := four_size (crcS 4294967295 s)
  have hz : (s ++ four (crcS 4294967295 s)).size = s.size + 4 := by rw [ByteArray.size_append, h4]
  have hu := impl_Unsealed_is (s ++ four (crcS 4294967295 s)) (by rw [hz]; omega)
  rw [unsealed_own s (by omega)] at hu
  have q0 := p2 _ (rd_mem p 0 (by omega) (by omega))
  have q1 := p2 _ (rd_mem p 1 (by omega) (by omega))
  refine Ev.bind hu (evp ⟨rfl, rfl, rfl, hz, (by rw [hz]; omega), by omega, ⟨by omega, by omega⟩, by omega, by omega⟩ ?_)
  have ht := unsealed_turned s (by omega) ((rd p 0).toNat % (s ++ four (crcS 4294967295 s)).size) (1 + rd p 1 % 255) ⟨by omega, by omega⟩ (by rw [← hz]; exact Nat.mod_lt _ (by omega))
  have htz : (Bytes.turnB (s ++ four (crcS 4294967295 s)) ((rd p 0).toNat % (s ++ four (crcS 4294967295 s)).size) (1 + rd p 1 % 255)).size = s.size + 4 := by
    unfold Bytes.turnB
    rw [strOfNums_size, List.length_set, Bytes.byt_len, hz]
  dsimp only
  refine Ev.bind (impl_Unsealed_is (Bytes.turnB (s ++ four (crcS 4294967295 s)) ((rd p 0).toNat % (s ++ four (crcS 4294967295 s)).size) (1 + rd p 1 % 255)) (by rw [htz]; omega)) (evp ht ?_)
  have hr := crcS_range s (show (0 : Int) ≤ 4294967295 by omega) (by omega)
  refine Ev.bind (impl_SumOf_is s (by omega)) (Ev.bind (impl_SumMore_is _ (⟨#[120]⟩ : ByteArray) (by decide) hr.1 hr.2) (Ev.bind (impl_SumOf_is _ (by rw [ByteArray.size_append]; show s.size + 1 ≤ _; omega)) (evp ?_ (Ev.now _))))
  rw [crcS_app]

end Go.Proofs.Ytkgbmimekaebfaa.Pure
