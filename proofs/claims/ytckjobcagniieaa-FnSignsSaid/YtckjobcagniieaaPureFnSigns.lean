/-
The law FnSigns of the given program answers true at every input: the plain statement that is left when the printed walk has stepped through the code.
Conditions: the bounds of the given row (sizes of texts and lists, numbers of their kinds); none of our own.
-/
import Derived.Test.YtckjobcagniieaaPFnSignsx9
import Derived.Laws.BitsAllLaws
import Derived.Test.YtckjobcagniieaaQuadsD
import Derived.Test.YtckjobcagniieaaLevels
import Derived.Test.YtckjobcagniieaaFormed
namespace Go.Proofs.Ytckjobcagniieaa.Pure
open Go.RowKit Go.Proofs.Ytckjobcagniieaa.PFnSigns Go.Proofs.YtckjobcagniieaaW.PrintWords Go.Proofs.YtckjobcagniieaaW.PrintLast Go.Proofs.YtckjobcagniieaaW.PrintMore Go.Proofs.Ytckjobcagniieaa.Sha Go.Proofs.Ytckjobcagniieaa.Blk Go.Proofs.Ytckjobcagniieaa.Dig Go.Proofs.Ytckjobcagniieaa.Quads
set_option linter.unusedVariables false

theorem evp {α : Type} {c : Prop} [Decidable c] {f g : Nat → Option α} {r : α} (hc : c) (h : Ev f r) : Ev (fun k => if c then f k else g k) r := Ev.congr (fun _ => if_pos hc) h
theorem evn {α : Type} {c : Prop} [Decidable c] {f g : Nat → Option α} {r : α} (hc : ¬ c) (h : Ev g r) : Ev (fun k => if c then f k else g k) r := Ev.congr (fun _ => if_neg hc) h
theorem evs {α : Type} {x y : α} (h : x = y) : Ev (fun _ => some x) y := by subst h; exact Ev.now _
theorem evc {α : Type} {x : Option α} {y : α} (h : x = some y) : Ev (fun _ => x) y := by subst h; exact Ev.now _
theorem w64 {n : Int} (h1 : -9223372036854775808 ≤ n) (h2 : n ≤ 9223372036854775807) : wrap64 n = n := IntWalk.wrap64_in n ⟨h1, h2⟩
theorem w64n (n : Nat) (h : n ≤ 9223372036854775807) : wrap64 (n : Int) = (n : Int) := w64 (by omega) (by omega)
theorem w64s (n : Nat) (h : n + 1 ≤ 9223372036854775807) : wrap64 ((n : Int) + 1) = ((n + 1 : Nat) : Int) := by rw [w64 (by omega) (by omega)]; rfl
theorem w64a (a b : Nat) (h : a + b ≤ 9223372036854775807) : wrap64 ((a : Int) + (b : Int)) = ((a + b : Nat) : Int) := by rw [w64 (by omega) (by omega)]; rfl
theorem w64m (a b : Nat) (h : a * b ≤ 9223372036854775807) : wrap64 ((a : Int) * (b : Int)) = ((a * b : Nat) : Int) := by
  have e : ((a * b : Nat) : Int) = (a : Int) * (b : Int) := Int.natCast_mul a b
  rw [w64 (by omega) (by omega), e]
theorem wf64 {n : Int} (h : (Lit.int .i64 n).wf = true) : -9223372036854775808 ≤ n ∧ n ≤ 9223372036854775807 := by
  simp [Lit.wf, IntKind.min, IntKind.max, IntKind.bits, IntKind.signed] at h
  omega
theorem bt_lo (s : ByteArray) (i : Int) : 0 ≤ bt s i := (bt_range s i).1
theorem bt_hi (s : ByteArray) (i : Int) : bt s i ≤ 255 := (bt_range s i).2
theorem wfu32 {n : Int} (h : (Lit.int .u32 n).wf = true) : 0 ≤ n ∧ n < 4294967296 := by
  simp [Lit.wf, IntKind.min, IntKind.max, IntKind.bits, IntKind.signed] at h
  omega
theorem evb {α β : Type} {x : Option α} {f : Nat → α → Option β} {a : α} {r : β} (h : x = some a) (k : Ev (fun n => f n a) r) : Ev (fun n => x.bind (f n)) r := Ev.bind (g := fun _ => x) (evc h) k
theorem i64_nat (a b : Nat) (ha : a < 9223372036854775808) (hb : b < 9223372036854775808) : Go.bits .and .i64 (a : Int) (b : Int) = ((a &&& b : Nat) : Int) ∧ Go.bits .or .i64 (a : Int) (b : Int) = ((a ||| b : Nat) : Int) :=
  bits_nat .i64 63 (by decide) (fun m h0 h1 => by rw [IntKind.wrap_i64]; omega) a b ha hb

theorem tl_inj {a b : ByteArray} : a.toList = b.toList ↔ a = b := by
  rw [ByteArray.toList_eq, ByteArray.toList_eq]
  exact ⟨fun h => ByteArray.ext (Array.toList_inj.mp h), fun h => by rw [h]⟩
theorem son_bytesOf (s : ByteArray) : strOfNums (bytesOf s) = s := by
  apply tl_inj.1
  rw [ByteArray.toList_eq, ByteArray.toList_eq, strOfNums_data, bytesOf, List.map_map]
  have : ((fun n : Int => UInt8.ofNat n.toNat) ∘ fun b : UInt8 => (b.toNat : Int)) = id := by
    funext b; simp
  rw [this, List.map_id]
theorem bytesOf_son (l : List Int) (h : ∀ b ∈ l, 0 ≤ b ∧ b ≤ 255) : bytesOf (strOfNums l) = l := by
  rw [bytesOf, strOfNums_data, List.map_map]
  have : l.map ((fun b : UInt8 => (b.toNat : Int)) ∘ fun n : Int => UInt8.ofNat n.toNat) = l.map id := by
    apply List.map_congr_left
    intro b hb
    have := h b hb
    simp only [Function.comp, id, UInt8.toNat_ofNat']
    omega
  rw [this, List.map_id]
theorem bytesOf_inj {a b : ByteArray} (h : bytesOf a = bytesOf b) : a = b := by rw [← son_bytesOf a, ← son_bytesOf b, h]
theorem bytesOf_extract (s : ByteArray) (a b : Nat) : bytesOf (s.extract a b) = ((bytesOf s).drop a).take (b - a) := by
  unfold bytesOf
  rw [ByteArray.data_extract]
  simp [List.map_take, List.map_drop, List.extract]
theorem bytesOf_append (a b : ByteArray) : bytesOf (a ++ b) = bytesOf a ++ bytesOf b := by
  unfold bytesOf
  rw [ByteArray.data_append]
  simp
theorem bytesOf_range (s : ByteArray) : ∀ b ∈ bytesOf s, 0 ≤ b ∧ b ≤ 255 := by
  intro b hb
  unfold bytesOf at hb
  obtain ⟨c, _, rfl⟩ := List.mem_map.1 hb
  have := c.toNat_lt
  omega
theorem bytesOf_drop (s : ByteArray) (i : Nat) (h : i < s.size) : (bytesOf s).drop i = bt s (i : Int) :: (bytesOf s).drop (i + 1) := by
  have hl : i < (bytesOf s).length := by rw [bytesOf_length]; exact h
  rw [List.drop_eq_getElem_cons hl]
  congr 1
  have := rd_bytesOf s (i : Int)
  rw [← this]
  unfold rd
  simp [List.getD_eq_getElem?_getD, hl]
theorem bt_nat (s : ByteArray) (i : Int) : ∃ n : Nat, bt s i = (n : Int) ∧ n < 256 := by
  have h := bt_range s i
  exact ⟨(bt s i).toNat, by omega, by omega⟩

theorem spec_l01In_is (x a b : Int) : spec_l01In.f x a b = some (decide (a ≤ x ∧ x ≤ b)) := by
  unfold spec_l01In.f
  by_cases h : x ≥ a
  · rw [if_pos h]; congr 1; rw [decide_eq_decide]; exact ⟨fun h2 => ⟨h, h2⟩, fun h2 => h2.2⟩
  · rw [if_neg h]; congr 1; symm; rw [decide_eq_false_iff_not]; exact fun h2 => h h2.1

theorem impl_in_is (x a b : Int) : impl_in.f x a b = some (decide (a ≤ x ∧ x ≤ b)) := by
  unfold impl_in.f
  by_cases h : x ≥ a
  · rw [if_pos h]; congr 1; rw [decide_eq_decide]; exact ⟨fun h2 => ⟨h, h2⟩, fun h2 => h2.2⟩
  · rw [if_neg h]; congr 1; symm; rw [decide_eq_false_iff_not]; exact fun h2 => h h2.1

def varNums (n : Nat) : List Int := if n > 127 then ((n % 128 + 128 : Nat) : Int) :: varNums (n / 128) else [(n : Int)]
termination_by n
decreasing_by omega
theorem varNums_small {n : Nat} (h : ¬ n > 127) : varNums n = [(n : Int)] := by rw [varNums, if_neg h]
theorem varNums_big {n : Nat} (h : n > 127) : varNums n = ((n % 128 + 128 : Nat) : Int) :: varNums (n / 128) := by rw [varNums, if_pos h]
theorem varNums_len (d : Nat) : ∀ n : Nat, n < 128 ^ d → 0 < d → (varNums n).length ≤ d := by
  induction d with
  | zero => intro n h h0; omega
  | succ d ih =>
    intro n h _
    by_cases hb : n > 127
    · rw [varNums_big hb]
      have hd : 0 < d := by
        rcases Nat.eq_zero_or_pos d with h0 | h0
        · subst h0; simp at h; omega
        · exact h0
      have := ih (n / 128) (by rw [Nat.pow_succ] at h; omega) hd
      simp; omega
    · rw [varNums_small hb]; simp
def vt (n : Nat) : ByteArray := strOfNums (varNums n)

theorem spec_l01Var_l (d : Nat) : ∀ (n : Nat) (acc : List Int), n < 128 ^ d → n ≤ 9223372036854775807 → acc.length + d < 140737488355328 → Ev (fun k => spec_l01Var.l0 k (n : Int) acc) (strOfNums (acc ++ varNums n)) := by
  induction d with
  | zero =>
    intro n acc h h2 h3
    obtain rfl : n = 0 := by simp at h; omega
    refine Ev.step (fun k => by rw [spec_l01Var.l0]) (evn (by simp) (evp (by omega) (evs ?_)))
    rw [varNums_small (by omega)]; rfl
  | succ d ih =>
    intro n acc h h2 h3
    by_cases hb : n > 127
    · refine Ev.step (fun k => by rw [spec_l01Var.l0]) (evp (by omega) (evp (by omega) ?_))
      have e1 : wrap64 (Int.tdiv (n : Int) 128) = ((n / 128 : Nat) : Int) := by rw [Int.tdiv_eq_ediv_of_nonneg (by omega), w64 (by omega) (by omega)]; rfl
      have e2 : (wrap64 ((Int.tmod (n : Int) 128) + 128)) % 256 = ((n % 128 + 128 : Nat) : Int) := by rw [Int.tmod_eq_emod_of_nonneg (by omega), w64 (by omega) (by omega)]; omega
      rw [e1, e2, varNums_big hb]
      have := ih (n / 128) (acc ++ [((n % 128 + 128 : Nat) : Int)]) (by rw [Nat.pow_succ] at h; omega) (by omega) (by simp; omega)
      rw [List.append_assoc] at this
      exact this
    · refine Ev.step (fun k => by rw [spec_l01Var.l0]) (evn (by omega) (evp (by omega) (evs ?_)))
      rw [varNums_small hb, Int.emod_eq_of_lt (by omega) (by omega)]
theorem spec_l01Var_is (n : Nat) (h : n ≤ 9223372036854775807) : Ev (fun k => spec_l01Var.f k (n : Int)) (vt n) := by
  have := spec_l01Var_l 9 n [] (by omega) h (by simp)
  simpa [spec_l01Var.f, vt] using this

theorem i64_and127 (n : Nat) (h : n ≤ 9223372036854775807) : Go.bits .and .i64 (n : Int) 127 = ((n % 128 : Nat) : Int) := by
  have := (i64_nat n 127 (by omega) (by omega)).1
  rw [nat_mask7] at this
  exact this

theorem i64_or128 (x : Nat) (h : x < 128) : Go.bits .or .i64 (x : Int) 128 = ((x + 128 : Nat) : Int) := by
  have := (i64_nat x 128 (by omega) (by omega)).2
  rw [Nat.or_comm, nat_join 7 128 x (by decide) (by omega), Nat.add_comm] at this
  exact this
theorem impl_varText_l (d : Nat) : ∀ (n : Nat) (acc : List Int), n < 128 ^ d → n ≤ 9223372036854775807 → acc.length + d < 140737488355328 → Ev (fun k => impl_varText.l0 k (n : Int) acc) (strOfNums (acc ++ varNums n)) := by
  induction d with
  | zero =>
    intro n acc h h2 h3
    obtain rfl : n = 0 := by simp at h; omega
    refine Ev.step (fun k => by rw [impl_varText.l0]) (evn (by simp) (evp (by omega) (evs ?_)))
    rw [varNums_small (by omega)]; rfl
  | succ d ih =>
    intro n acc h h2 h3
    by_cases hb : n > 127
    · refine Ev.step (fun k => by rw [impl_varText.l0]) (evp (by omega) (evp (by omega) ?_))
      have e1 : (n : Int) / 128 = ((n / 128 : Nat) : Int) := rfl
      have e2 : (Go.bits .or .i64 (Go.bits .and .i64 (n : Int) 127) 128) % 256 = ((n % 128 + 128 : Nat) : Int) := by rw [i64_and127 n h2, i64_or128 _ (by omega)]; omega
      rw [e1, e2, varNums_big hb]
      have := ih (n / 128) (acc ++ [((n % 128 + 128 : Nat) : Int)]) (by rw [Nat.pow_succ] at h; omega) (by omega) (by simp; omega)
      rw [List.append_assoc] at this
      exact this
    · refine Ev.step (fun k => by rw [impl_varText.l0]) (evn (by omega) (evp (by omega) (evs ?_)))
      rw [varNums_small hb, Int.emod_eq_of_lt (by omega) (by omega)]
theorem impl_varText_is (n : Nat) (h : n ≤ 9223372036854775807) : Ev (fun k => impl_varText.f k (n : Int)) (vt n) := by
  have := impl_varText_l 9 n [] (by omega) h (by simp)
  simpa [impl_varText.f, vt] using this

theorem rd_nat (l : List Int) (i : Nat) (h : i < l.length) : rd l (i : Int) = l[i] := by
  unfold rd
  rw [Int.toNat_natCast, List.getD_eq_getElem?_getD, List.getElem?_eq_getElem h]
  rfl

theorem son_app (a b : List Int) : strOfNums (a ++ b) = strOfNums a ++ strOfNums b := by
  apply tl_inj.1
  rw [ByteArray.toList_eq, ByteArray.toList_eq, ByteArray.data_append, Array.toList_append, strOfNums_data, strOfNums_data, strOfNums_data, List.map_append]
theorem son_byt (s : ByteArray) : strOfNums (Pad.byt s) = s := son_bytesOf s
theorem son_zeros (m : Nat) : strOfNums (List.replicate m 0) = ⟨(List.replicate m (0 : UInt8)).toArray⟩ := by
  apply tl_inj.1
  rw [ByteArray.toList_eq, ByteArray.toList_eq, strOfNums_data, List.map_replicate]
  simp
theorem impl_PadText_l0 (k : Nat) (x : ByteArray) (n : Int) (hx : x.size ≤ 9223372036854775000) : impl_PadText.l0 (k + 9) x n [0, 0, 0, 0, 0, 0, 0, 0] 7 = some (x ++ strOfNums (Pad.be8 n)) := by
  have w7 : wrap64 (7 - 1) = 6 := by unfold wrap64; omega
  have w6 : wrap64 (6 - 1) = 5 := by unfold wrap64; omega
  have w5 : wrap64 (5 - 1) = 4 := by unfold wrap64; omega
  have w4 : wrap64 (4 - 1) = 3 := by unfold wrap64; omega
  have w3 : wrap64 (3 - 1) = 2 := by unfold wrap64; omega
  have w2 : wrap64 (2 - 1) = 1 := by unfold wrap64; omega
  have w1 : wrap64 (1 - 1) = 0 := by unfold wrap64; omega
  have w0 : wrap64 (0 - 1) = -1 := by unfold wrap64; omega
  rw [impl_PadText.l0, if_pos (by decide), if_pos (by decide), if_pos (by simp), w7]
  rw [impl_PadText.l0, if_pos (by decide), if_pos (by decide), if_pos (by simp), w6]
  rw [impl_PadText.l0, if_pos (by decide), if_pos (by decide), if_pos (by simp), w5]
  rw [impl_PadText.l0, if_pos (by decide), if_pos (by decide), if_pos (by simp), w4]
  rw [impl_PadText.l0, if_pos (by decide), if_pos (by decide), if_pos (by simp), w3]
  rw [impl_PadText.l0, if_pos (by decide), if_pos (by decide), if_pos (by simp), w2]
  rw [impl_PadText.l0, if_pos (by decide), if_pos (by decide), if_pos (by simp), w1]
  rw [impl_PadText.l0, if_pos (by decide), if_pos (by decide), if_pos (by simp), w0]
  have e : (((((((([0, 0, 0, 0, 0, 0, 0, 0] : List Int).set (7 : Int).toNat (n % 256)).set (6 : Int).toNat (n / 256 % 256)).set (5 : Int).toNat (n / 256 / 256 % 256)).set (4 : Int).toNat (n / 256 / 256 / 256 % 256)).set (3 : Int).toNat (n / 256 / 256 / 256 / 256 % 256)).set (2 : Int).toNat (n / 256 / 256 / 256 / 256 / 256 % 256)).set (1 : Int).toNat (n / 256 / 256 / 256 / 256 / 256 / 256 % 256)).set (0 : Int).toNat (n / 256 / 256 / 256 / 256 / 256 / 256 / 256 % 256) = Pad.be8 n := by
    show [n / 256 / 256 / 256 / 256 / 256 / 256 / 256 % 256, n / 256 / 256 / 256 / 256 / 256 / 256 % 256, n / 256 / 256 / 256 / 256 / 256 % 256, n / 256 / 256 / 256 / 256 % 256, n / 256 / 256 / 256 % 256, n / 256 / 256 % 256, n / 256 % 256, n % 256] = _
    unfold Pad.be8
    simp only [List.cons.injEq, and_true]
    omega
  rw [e, impl_PadText.l0, if_neg (by decide), if_pos (by rw [strOfNums_size]; show x.size + 8 ≤ _; omega)]
theorem impl_PadText_is (s : ByteArray) (hs : s.size ≤ 140737488351232) : Ev (fun k => impl_PadText.f k s) (strOfNums (Pad.padB s)) := by
  unfold impl_PadText.f
  refine evp (by omega) ?_
  have hz : (s ++ (⟨#[128]⟩ : ByteArray)).size = s.size + 1 := by rw [ByteArray.size_append]; rfl
  rw [hz]
  have hm : (((56 - (((s.size + 1 : Nat) : Int) % 64)) + 64) % 64).toNat = Pad.padK s.size := by unfold Pad.padK; omega
  have hr : strings_Repeat.f (⟨#[0]⟩ : ByteArray) (((56 - (((s.size + 1 : Nat) : Int) % 64)) + 64) % 64) = some (strOfNums (List.replicate (Pad.padK s.size) 0)) := by
    unfold strings_Repeat.f
    rw [if_pos ⟨by omega, by omega, by decide⟩, hm, son_zeros]
    have : Lib.repeatL [(0 : UInt8)] (Pad.padK s.size) = List.replicate (Pad.padK s.size) 0 := by
      have h := Lib.repeatL_replicate (0 : UInt8) 1 (Pad.padK s.size)
      rw [Nat.mul_one] at h
      exact h
    rw [show (⟨#[0]⟩ : ByteArray).data.toList = [(0 : UInt8)] from rfl, this]
  refine evb hr ?_
  have hk : Pad.padK s.size < 64 := by unfold Pad.padK; omega
  have hz2 : (strOfNums (List.replicate (Pad.padK s.size) 0)).size = Pad.padK s.size := by rw [strOfNums_size, List.length_replicate]
  refine evp (by rw [hz2]; omega) (evp (by omega) ?_)
  have hn : wrap64 (8 * (s.size : Int)) = 8 * (s.size : Int) := w64 (by omega) (by omega)
  rw [hn]
  refine ⟨9, fun k hk => ?_⟩
  obtain ⟨m, rfl⟩ : ∃ m, k = m + 9 := ⟨k - 9, by omega⟩
  have h := impl_PadText_l0 m ((s ++ (⟨#[128]⟩ : ByteArray)) ++ strOfNums (List.replicate (Pad.padK s.size) 0)) (8 * (s.size : Int)) (by rw [ByteArray.size_append, hz, hz2]; omega)
  refine Eq.trans h ?_
  congr 1
  unfold Pad.padB
  rw [son_app, son_app, son_app, son_byt]
  rfl

theorem bits_xor_comm (k : IntKind) (a b : Int) : Go.bits .xor k a b = Go.bits .xor k b a := by
  simp only [Go.bits, BitVec.xor_comm]
theorem impl_turn_is (x n : Int) (h0 : 0 ≤ n) (h1 : n ≤ 32) : impl_turn.f x n = some (tn x n) := by
  unfold impl_turn.f
  have e : wrap64 (32 - n) = 32 - n := w64 (by omega) (by omega)
  have b : IntKind.u32.bits = 32 := rfl
  rw [if_pos h0, e, if_pos (by omega)]
  unfold shr shl tn
  rw [b, Nat.min_eq_left (by omega), Nat.min_eq_left (by omega), IntKind.wrap_u32']
theorem impl_schedule_l1 (b : ByteArray) : ∀ (d i : Nat) (p : List Int), i + d = 64 → 16 ≤ i → p.length = i → schedGo d p = sched b → Ev (fun k => impl_schedule.l1 k p (i : Int)) (sched b) := by
  intro d
  induction d with
  | zero =>
    intro i p h1 h2 h3 h4
    refine Ev.step (fun k => by rw [impl_schedule.l1]) (evn (by omega) (evs ?_))
    rw [schedGo] at h4
    exact h4
  | succ d ih =>
    intro i p h1 h2 h3 h4
    have e15 : wrap64 ((i : Int) - 15) = ((p.length : Int) - 15) := by rw [w64 (by omega) (by omega)]; omega
    have e2 : wrap64 ((i : Int) - 2) = ((p.length : Int) - 2) := by rw [w64 (by omega) (by omega)]; omega
    have e16 : wrap64 ((i : Int) - 16) = ((p.length : Int) - 16) := by rw [w64 (by omega) (by omega)]; omega
    have e7 : wrap64 ((i : Int) - 7) = ((p.length : Int) - 7) := by rw [w64 (by omega) (by omega)]; omega
    have e1 : wrap64 ((i : Int) + 1) = ((i + 1 : Nat) : Int) := w64s i (by omega)
    refine Ev.step (fun k => by rw [impl_schedule.l1]) ?_
    simp only [e15, e2, e16, e7, e1]
    refine evp (by omega) (evp (by omega) (evp (by omega) (evp (by omega) (evp (by omega) ?_))))
    refine evb (impl_turn_is _ _ (by omega) (by omega)) (evb (impl_turn_is _ _ (by omega) (by omega)) (evb (impl_turn_is _ _ (by omega) (by omega)) (evb (impl_turn_is _ _ (by omega) (by omega)) ?_)))
    refine evp (by omega) (evp (by omega) (evp (by omega) (evp (by omega) (evp (by omega) ?_))))
    refine Ev.congr (fun k => ?_) (ih (i + 1) (p ++ [nextW' p (p.length : Int)]) (by omega) (by omega) (by rw [List.length_append, h3]; rfl) h4)
    congr 3
    unfold nextW' nextW
    simp only [Int.emod_add_emod]
theorem impl_schedule_l0 (b : ByteArray) (hb : b.size = 64) : ∀ (d i : Nat), i + d = 16 → Ev (fun k => impl_schedule.l0 k b (w16 b i) (i : Int)) (sched b) := by
  intro d
  induction d with
  | zero =>
    intro i h1
    have hi : i = 16 := by omega
    subst hi
    refine Ev.step (fun k => by rw [impl_schedule.l0]) (evn (by decide) ?_)
    exact impl_schedule_l1 b 48 16 (w16 b 16) (by omega) (by omega) (by simp [w16]) rfl
  | succ d ih =>
    intro i h1
    have hl : (w16 b i).length = i := by simp [w16]
    have e0 : wrap64 (4 * (i : Int)) = 4 * (i : Int) := w64 (by omega) (by omega)
    have e1 : wrap64 (4 * (i : Int) + 1) = 4 * (i : Int) + 1 := w64 (by omega) (by omega)
    have e2 : wrap64 (4 * (i : Int) + 2) = 4 * (i : Int) + 2 := w64 (by omega) (by omega)
    have e3 : wrap64 (4 * (i : Int) + 3) = 4 * (i : Int) + 3 := w64 (by omega) (by omega)
    have e5 : wrap64 ((i : Int) + 1) = ((i + 1 : Nat) : Int) := w64s i (by omega)
    refine Ev.step (fun k => by rw [impl_schedule.l0]) ?_
    simp only [e0, e1, e2, e3, e5]
    refine evp (by omega) (evp (by omega) (evp (by omega) (evp (by omega) (evp (by omega) (evp (by omega) (evp (by omega) (evp (by omega) (evp (by omega) (evp (by omega) ?_)))))))))
    refine Ev.congr (fun k => ?_) (ih (i + 1) (by omega))
    have : w16 b (i + 1) = w16 b i ++ [word b (i : Int)] := by simp [w16, List.range_succ]
    rw [this]
    rfl
theorem impl_schedule_is (b : ByteArray) (hb : b.size = 64) : Ev (fun k => impl_schedule.f k b) (sched b) := impl_schedule_l0 b hb 16 0 rfl
theorem impl_ShaBlock_l2 (h s : List Int) (hh : h.length = 8) (hs : s.length = 8) (hr : ∀ x ∈ h, 0 ≤ x ∧ x ≤ 4294967295) : ∀ (d i : Nat), i + d = 8 → Ev (fun k => impl_ShaBlock.l2 k ((fin h s).take i ++ h.drop i) s 8 (i : Int)) (fin h s) := by
  have hf : (fin h s).length = 8 := fin_len hh hs
  intro d
  induction d with
  | zero =>
    intro i h1
    have hi : i = 8 := by omega
    subst hi
    refine Ev.step (fun k => by rw [impl_ShaBlock.l2]) (evn (by decide) (evs ?_))
    rw [List.take_of_length_le (by omega), List.drop_of_length_le (by omega), List.append_nil]
  | succ d ih =>
    intro i h1
    have hl : ((fin h s).take i ++ h.drop i).length = 8 := by rw [List.length_append, List.length_take, List.length_drop]; omega
    refine Ev.step (fun k => by rw [impl_ShaBlock.l2]) ?_
    refine evp (by omega) (evp (by omega) (evp (by omega) (evp (by omega) ?_)))
    rw [w64s i (by omega)]
    refine Ev.congr (fun k => ?_) (ih (i + 1) (by omega))
    rw [← fin_step h s i hh hs (by omega)]
    simp only [Int.toNat_natCast, Int.emod_add_emod]
theorem rnd_is (s : List Int) (k w : Int) : rnd s k w = [((((((((((rd s 7) + (Go.bits .xor .u32 (Go.bits .xor .u32 (tn (rd s 4) 6) (tn (rd s 4) 11)) (tn (rd s 4) 25))) % 4294967296) + (Go.bits .xor .u32 (Go.bits .and .u32 (rd s 4) (rd s 5)) (Go.bits .and .u32 (Go.bits .xor .u32 IntKind.u32.max (rd s 4)) (rd s 6)))) % 4294967296) + k) % 4294967296) + w) % 4294967296) + (((Go.bits .xor .u32 (Go.bits .xor .u32 (tn (rd s 0) 2) (tn (rd s 0) 13)) (tn (rd s 0) 22)) + (Go.bits .xor .u32 (Go.bits .xor .u32 (Go.bits .and .u32 (rd s 0) (rd s 1)) (Go.bits .and .u32 (rd s 0) (rd s 2))) (Go.bits .and .u32 (rd s 1) (rd s 2)))) % 4294967296)) % 4294967296, rd s 0, rd s 1, rd s 2, ((rd s 3) + (((((((((rd s 7) + (Go.bits .xor .u32 (Go.bits .xor .u32 (tn (rd s 4) 6) (tn (rd s 4) 11)) (tn (rd s 4) 25))) % 4294967296) + (Go.bits .xor .u32 (Go.bits .and .u32 (rd s 4) (rd s 5)) (Go.bits .and .u32 (Go.bits .xor .u32 IntKind.u32.max (rd s 4)) (rd s 6)))) % 4294967296) + k) % 4294967296) + w) % 4294967296)) % 4294967296, rd s 4, rd s 5, rd s 6] := by
  have hm : IntKind.u32.max = 4294967295 := rfl
  unfold rnd
  rw [hm, bits_xor_comm .u32 4294967295 (rd s 4)]
  simp only [Int.emod_add_emod, r1, r2]
theorem keys_len : keys.length = 64 := rfl
theorem rndsGo_drop (ks ws s : List Int) (i : Nat) (h1 : i < ks.length) (h2 : i < ws.length) : rndsGo (ks.drop i) (ws.drop i) s = rndsGo (ks.drop (i + 1)) (ws.drop (i + 1)) (rnd s (rd ks (i : Int)) (rd ws (i : Int))) := by
  rw [drop_rd ks i h1, drop_rd ws i h2, rndsGo]
theorem impl_ShaBlock_l1 (h : List Int) (ws t : List Int) (hw : ws.length = 64) (hh : h.length = 8) (hr : ∀ x ∈ h, 0 ≤ x ∧ x ≤ 4294967295) : ∀ (d i : Nat) (s : List Int), i + d = 64 → s.length = 8 → rndsGo (keys.drop i) (ws.drop i) s = t → Ev (fun k => impl_ShaBlock.l1 k h s keys ws 64 (i : Int)) (fin h t) := by
  intro d
  induction d with
  | zero =>
    intro i s h1 h2 h3
    have hi : i = 64 := by omega
    subst hi
    refine Ev.step (fun k => by rw [impl_ShaBlock.l1]) (evn (by decide) ?_)
    rw [List.drop_of_length_le (by rw [keys_len]; exact Nat.le_refl _), rndsGo_nil] at h3
    subst h3
    have := impl_ShaBlock_l2 h s hh h2 hr 8 0 rfl
    rw [List.take_zero, List.drop_zero, List.nil_append] at this
    rw [h2]
    exact this
  | succ d ih =>
    intro i s h1 h2 h3
    have hk := keys_len
    refine Ev.step (fun k => by rw [impl_ShaBlock.l1]) ?_
    refine evp (by omega) (evp (by omega) (evp (by omega) (evp (by omega) (evp (by omega) (evp (by omega) ?_)))))
    refine evb (impl_turn_is _ _ (by omega) (by omega)) (evb (impl_turn_is _ _ (by omega) (by omega)) (evb (impl_turn_is _ _ (by omega) (by omega)) ?_))
    refine evp (by omega) (evp (by omega) (evp (by omega) ?_))
    refine evb (impl_turn_is _ _ (by omega) (by omega)) (evb (impl_turn_is _ _ (by omega) (by omega)) (evb (impl_turn_is _ _ (by omega) (by omega)) ?_))
    refine evp (by omega) (evp (by omega) (evp (by omega) ?_))
    rw [← rnd_is, w64s i (by omega)]
    refine ih (i + 1) _ (by omega) (rnd_len _ _ _) ?_
    rw [← h3]
    exact (rndsGo_drop keys ws s i (by omega) (by omega)).symm
def shaB (h : List Int) (b : ByteArray) : List Int := if h.length = 8 ∧ b.size = 64 ∧ (∀ x ∈ h, 0 ≤ x ∧ x ≤ 4294967295) then blk h b else h
theorem impl_rounds_is : impl_rounds.f = some keys := rfl
theorem impl_ShaBlock_l0 (h : List Int) (b : ByteArray) (hb : b.size = 64) (hh : h.length = 8) : ∀ (d i : Nat), i + d = 8 → (∀ j, j < i → 0 ≤ rd h (j : Int) ∧ rd h (j : Int) ≤ 4294967295) → Ev (fun k => impl_ShaBlock.l0 k b h (h.take i ++ List.replicate (8 - i) 0) h 8 (i : Int)) (shaB h b) := by
  intro d
  induction d with
  | zero =>
    intro i h1 h2
    have hi : i = 8 := by omega
    subst hi
    have hr : ∀ x ∈ h, 0 ≤ x ∧ x ≤ 4294967295 := by
      intro x hx
      obtain ⟨j, hj, rfl⟩ := List.mem_iff_getElem.1 hx
      have := h2 j (by omega)
      rwa [rd_nat h j hj] at this
    refine Ev.step (fun k => by rw [impl_ShaBlock.l0]) (evn (by decide) (evb impl_rounds_is (Ev.bind (impl_schedule_is b hb) ?_)))
    have e : shaB h b = fin h (rndsGo keys (sched b) h) := by unfold shaB; rw [if_pos ⟨hh, hb, hr⟩]; rfl
    rw [e, sched_len, List.take_of_length_le (by omega), show 8 - 8 = 0 from rfl, List.replicate_zero, List.append_nil]
    exact impl_ShaBlock_l1 h (sched b) _ (sched_len b) hh hr 64 0 h rfl hh rfl
  | succ d ih =>
    intro i h1 h2
    have hl : (h.take i ++ List.replicate (8 - i) (0 : Int)).length = 8 := by rw [List.length_append, List.length_take, List.length_replicate]; omega
    refine Ev.step (fun k => by rw [impl_ShaBlock.l0]) ?_
    refine evp (by omega) (evp (by omega) (evp (by omega) (evb (impl_in_is _ _ _) ?_)))
    by_cases hc : 0 ≤ rd h (i : Int) ∧ rd h (i : Int) ≤ 4294967295
    · refine evp (decide_eq_true hc) (evp (by omega) ?_)
      rw [w64s i (by omega)]
      refine Ev.congr (fun k => ?_) (ih (i + 1) (by omega) ?_)
      · congr 1
        rw [Int.emod_eq_of_lt hc.1 (by omega), Int.toNat_natCast, List.set_append_right _ _ (by rw [List.length_take]; omega), List.length_take, show i - min i h.length = 0 by omega, show 8 - i = (8 - (i + 1)) + 1 by omega, List.replicate_succ, List.set_cons_zero, List.take_succ_eq_append_getElem (by omega : i < h.length), List.append_assoc, rd_nat h i (by omega)]
        rfl
      · intro j hj
        by_cases hji : j = i
        · subst hji; exact hc
        · exact h2 j (by omega)
    · refine evn (by rw [decide_eq_false hc]; simp) (evs ?_)
      unfold shaB
      rw [if_neg]
      rintro ⟨_, _, hr⟩
      exact hc (by rw [rd_nat h i (by omega)]; exact hr _ (List.getElem_mem _))
theorem impl_ShaBlock_is (h : List Int) (b : ByteArray) (hl : h.length < 17592186044416) : Ev (fun k => impl_ShaBlock.f k h b) (shaB h b) := by
  unfold impl_ShaBlock.f
  refine evb rfl (evp (by simpa using hl) (evb rfl ?_))
  rw [List.nil_append]
  by_cases h8 : h.length = 8
  · refine evp (by omega) (Ev.step (fun k => by rw [impl_ShaBlock.j0]) ?_)
    by_cases hb : b.size = 64
    · refine evn (by simp [hb]) (evp (by omega) ?_)
      rw [h8]
      exact impl_ShaBlock_l0 h b hb h8 8 0 rfl (fun j hj => by omega)
    · refine evp (by simp; omega) (evs ?_)
      unfold shaB
      rw [if_neg (fun hc => hb hc.2.1)]
  · refine evn (by omega) (Ev.step (fun k => by rw [impl_ShaBlock.j0]) (evp rfl (evs ?_)))
    unfold shaB
    rw [if_neg (fun hc => h8 hc.1)]

theorem shaB_blk (h : List Int) (b : ByteArray) (h8 : h.length = 8) (hb : b.size = 64) (hr : ∀ x ∈ h, 0 ≤ x ∧ x ≤ 4294967295) : shaB h b = blk h b := by unfold shaB; rw [if_pos ⟨h8, hb, hr⟩]
theorem impl_Digest_l1 (h : List Int) (h8 : h.length = 8) : ∀ (d i : Nat), i + d = 8 → Ev (fun k => impl_Digest.l1 k (digB (h.take i)) h 8 (i : Int)) (strOfNums (digB h)) := by
  intro d
  induction d with
  | zero =>
    intro i h1
    have hi : i = 8 := by omega
    subst hi
    refine Ev.step (fun k => by rw [impl_Digest.l1]) (evn (by decide) (evs ?_))
    rw [List.take_of_length_le (by omega)]
  | succ d ih =>
    intro i h1
    refine Ev.step (fun k => by rw [impl_Digest.l1]) ?_
    have hl : (digB (h.take i)).length = 4 * i := by rw [digB_len, List.length_take]; omega
    refine evp (by omega) (evp (by omega) (evp (by omega) (evb rfl (evp ?_ ?_))))
    · rw [hl]; simp; omega
    · rw [w64s i (by omega)]
      refine Ev.congr (fun k => ?_) (ih (i + 1) (by omega))
      rw [List.take_succ_eq_append_getElem (by omega : i < h.length), digB_app, ← rd_nat h i (by omega)]
      rfl
theorem impl_Digest_l0 (p : ByteArray) (m : Nat) (hp : p.size = 64 * m) (hm : p.size ≤ 140737488355328) (t : List Int) : ∀ (d i : Nat) (h : List Int), i + d = m → h.length = 8 → (∀ x ∈ h, 0 ≤ x ∧ x ≤ 4294967295) → blocksGo d h p (64 * i) = t → Ev (fun k => impl_Digest.l0 k h p ((64 * i : Nat) : Int)) (strOfNums (digB t)) := by
  intro d
  induction d with
  | zero =>
    intro i h h1 h8 hr ht
    refine Ev.step (fun k => by rw [impl_Digest.l0]) (evn (by omega) ?_)
    rw [blocksGo] at ht
    subst ht
    rw [h8]
    exact impl_Digest_l1 h h8 8 0 rfl
  | succ d ih =>
    intro i h h1 h8 hr ht
    have e : wrap64 (((64 * i : Nat) : Int) + 64) = ((64 * (i + 1) : Nat) : Int) := by rw [w64 (by omega) (by omega)]; omega
    have hb : (p.extract (64 * i) (64 * i + 64)).size = 64 := by rw [ByteArray.size_extract]; omega
    refine Ev.step (fun k => by rw [impl_Digest.l0]) ?_
    rw [e]
    refine evp (by omega) (evp (by omega) (evp (by omega) (evp (by omega) ?_)))
    rw [Int.toNat_natCast, Int.toNat_natCast, show 64 * (i + 1) = 64 * i + 64 by omega]
    refine Ev.bind (impl_ShaBlock_is h _ (by omega)) ?_
    rw [shaB_blk h _ h8 hb hr]
    have hs := rndsGo_len keys (sched (p.extract (64 * i) (64 * i + 64))) h h8
    have := ih (i + 1) (blk h (p.extract (64 * i) (64 * i + 64))) (by omega) (blk_len _ h8) fin_range ?_
    · rw [show 64 * (i + 1) = 64 * i + 64 by omega] at this
      exact this
    · rw [← ht, blocksGo]
      rfl
theorem impl_Digest_is (s : ByteArray) (hs : s.size ≤ 140737488351232) : Ev (fun k => impl_Digest.f k s) (dig s) := by
  unfold impl_Digest.f
  refine evb (a := first) rfl (Ev.bind (impl_PadText_is s hs) ?_)
  have hsz : (strOfNums (Pad.padB s)).size = 64 * ((s.size + 9 + Pad.padK s.size) / 64) := by rw [strOfNums_size, padB_len]
  have hk : Pad.padK s.size < 64 := by unfold Pad.padK; omega
  exact impl_Digest_l0 (strOfNums (Pad.padB s)) _ hsz (by rw [hsz]; omega) _ _ 0 first (Nat.zero_add _) rfl (by decide) rfl
theorem blocksGo_len : ∀ (d : Nat) (h : List Int) (p : ByteArray) (i : Nat), h.length = 8 → (blocksGo d h p i).length = 8
  | 0, _, _, _, h => h
  | d + 1, h, p, i, h8 => blocksGo_len d _ p _ (blk_len _ h8)
theorem dig_size (s : ByteArray) : (dig s).size = 32 := by
  unfold dig
  rw [strOfNums_size, digB_len, blocksGo_len _ _ _ _ rfl]

theorem spec_Digest_is (s : ByteArray) (hs : s.size ≤ 140737488351232) : spec_Digest.f s = some (dig s) := by
  unfold spec_Digest.f
  rw [if_pos hs]

def cutD (s : ByteArray) (n : Nat) : ByteArray := (dig s).extract 0 n
theorem cutD_size (s : ByteArray) (n : Nat) (h : n ≤ 32) : (cutD s n).size = n := by
  unfold cutD
  rw [ByteArray.size_extract, dig_size]
  omega
def cutW (s : ByteArray) (w : Int) : ByteArray := if 1 ≤ w ∧ w ≤ 32 then cutD s w.toNat else ⟨#[]⟩
theorem impl_CutDigest_is (s : ByteArray) (w : Int) (hs : s.size ≤ 140737488351232) : Ev (fun k => impl_CutDigest.f k s w) (cutW s w) := by
  unfold impl_CutDigest.f cutW
  refine evb (impl_in_is _ _ _) ?_
  by_cases h : 1 ≤ w ∧ w ≤ 32
  · rw [if_pos h]
    refine evp (by simpa using h) (Ev.bind (impl_Digest_is s hs) (evp (by omega) (evp (by rw [dig_size]; omega) (evs rfl))))
  · rw [if_neg h]
    exact evn (by simpa using h) (evs rfl)

theorem spec_CutDigest_is (s : ByteArray) (w : Int) (hs : s.size ≤ 140737488351232) : spec_CutDigest.f s w = some (cutW s w) := by
  unfold spec_CutDigest.f cutW
  rw [spec_l01In_is, Option.bind_some]
  by_cases h : 1 ≤ w ∧ w ≤ 32
  · rw [if_pos (by simpa using h), if_pos h, spec_Digest_is s hs, Option.bind_some, if_pos (by omega), if_pos (by rw [dig_size]; omega)]
    rfl
  · rw [if_neg (by simpa using h), if_neg h]

theorem spec_l04Cut_is (s : ByteArray) (hs : s.size ≤ 140737488351232) : spec_l04Cut.f s = some (cutD s 8) := by
  unfold spec_l04Cut.f
  rw [spec_CutDigest_is s 8 hs]
  rfl
theorem impl_short_is (c : Int) (s : ByteArray) (hs : s.size ≤ 140737488350000) : Ev (fun k => impl_short.f k c s) (cutD (strOfNums [c] ++ s) 8) := by
  unfold impl_short.f
  have h1 : (strOfNums [c]).size = 1 := by rw [strOfNums_size]; rfl
  refine evb rfl (evp (by rw [h1]; omega) ?_)
  refine Ev.bind (impl_CutDigest_is _ 8 (by rw [ByteArray.size_append, h1]; omega)) (evs rfl)

theorem vt_size (n : Nat) (h : n < 128 ^ 9) : (vt n).size ≤ 9 := by unfold vt; rw [strOfNums_size]; exact varNums_len 9 n h (by omega)
theorem vt_few {n : Int} (h : 0 ≤ n ∧ n ≤ 1000000) : (vt n.toNat).size ≤ 9 := vt_size _ (by omega)
theorem spec_Var_few {n : Int} (h : 0 ≤ n ∧ n ≤ 1000000) : Ev (fun k => spec_l01Var.f k n) (vt n.toNat) := by
  have := spec_l01Var_is n.toNat (by omega)
  rwa [Int.toNat_of_nonneg h.1] at this
theorem impl_Var_few {n : Int} (h : 0 ≤ n ∧ n ≤ 1000000) : Ev (fun k => impl_varText.f k n) (vt n.toNat) := by
  have := impl_varText_is n.toNat (by omega)
  rwa [Int.toNat_of_nonneg h.1] at this
def few (n : Int) : Prop := 0 ≤ n ∧ n ≤ 1000000
instance (n : Int) : Decidable (few n) := by unfold few; exact inferInstance
def secret (a b c : Int) : ByteArray := if few a ∧ few b ∧ few c then cutD ((⟨#[115]⟩ : ByteArray) ++ vt a.toNat ++ vt b.toNat ++ vt c.toNat) 8 else ⟨#[]⟩
theorem secret_size (a b c : Int) : (secret a b c).size ≤ 8 := by
  unfold secret
  split
  · rw [cutD_size _ _ (by omega)]; omega
  · show 0 ≤ 8; omega
theorem spec_Few_is (n : Int) : spec_l04Few.f n = some (decide (few n)) := by
  unfold spec_l04Few.f
  rw [spec_l01In_is]
  rfl
theorem size115 (t : ByteArray) : ((⟨#[115]⟩ : ByteArray) ++ t).size = 1 + t.size := by rw [ByteArray.size_append]; rfl
theorem spec_Secret_j (a b c : Int) (x : Bool) (hx : x = ! decide (few a ∧ few b ∧ few c)) : Ev (fun k => spec_SecretOf.j0 k a b c x) (secret a b c) := by
  refine Ev.step (fun k => by rw [spec_SecretOf.j0]) ?_
  subst hx
  by_cases h : few a ∧ few b ∧ few c
  · have ha := vt_few h.1
    have hb := vt_few h.2.1
    have hc := vt_few h.2.2
    refine evn (by simp [h]) (Ev.bind (spec_Var_few h.1) (evp (by omega) (Ev.bind (spec_Var_few h.2.1) (evp (by rw [size115]; omega) (Ev.bind (spec_Var_few h.2.2) (evp (by rw [ByteArray.size_append, size115]; omega) ?_))))))
    refine evb (spec_l04Cut_is _ (by rw [ByteArray.size_append, ByteArray.size_append, size115]; omega)) (evs ?_)
    unfold secret
    rw [if_pos h]
  · refine evp (by rw [decide_eq_false h]; rfl) (evs ?_)
    unfold secret
    rw [if_neg h]
theorem spec_SecretOf_is (a b c : Int) : Ev (fun k => spec_SecretOf.f k a b c) (secret a b c) := by
  unfold spec_SecretOf.f
  refine evb (spec_Few_is a) ?_
  by_cases ha : few a
  · refine evp (by simp [ha]) (evb (spec_Few_is b) ?_)
    by_cases hb : few b
    · exact evp (by simp [hb]) (evb (spec_Few_is c) (spec_Secret_j a b c _ (by simp [ha, hb])))
    · exact evn (by simp [hb]) (spec_Secret_j a b c _ (by simp [hb]))
  · exact evn (by simp [ha]) (spec_Secret_j a b c _ (by simp [ha]))
theorem impl_Secret_j (a b c : Int) (x : Bool) (hx : x = ! decide (few a ∧ few b ∧ few c)) : Ev (fun k => impl_SecretOf.j0 k a b c x) (secret a b c) := by
  refine Ev.step (fun k => by rw [impl_SecretOf.j0]) ?_
  subst hx
  by_cases h : few a ∧ few b ∧ few c
  · have ha := vt_few h.1
    have hb := vt_few h.2.1
    have hc := vt_few h.2.2
    refine evn (by simp [h]) (Ev.bind (impl_Var_few h.1) (Ev.bind (impl_Var_few h.2.1) (evp (by omega) (Ev.bind (impl_Var_few h.2.2) (evp (by rw [ByteArray.size_append]; omega) ?_)))))
    refine Ev.bind (impl_short_is 115 _ (by rw [ByteArray.size_append, ByteArray.size_append]; omega)) (evs ?_)
    unfold secret
    rw [if_pos h, ByteArray.append_assoc, ByteArray.append_assoc, ByteArray.append_assoc]
    rfl
  · refine evp (by rw [decide_eq_false h]; rfl) (evs ?_)
    unfold secret
    rw [if_neg h]
theorem impl_SecretOf_is (a b c : Int) : Ev (fun k => impl_SecretOf.f k a b c) (secret a b c) := by
  unfold impl_SecretOf.f
  refine evb (impl_in_is a _ _) ?_
  by_cases ha : few a
  · refine evp (decide_eq_true ha) (evb (impl_in_is b _ _) ?_)
    by_cases hb : few b
    · refine evp (decide_eq_true hb) (evb (impl_in_is c _ _) (impl_Secret_j a b c _ ?_))
      have e : decide (0 ≤ c ∧ c ≤ 1000000) = decide (few c) := rfl
      rw [e]
      simp [ha, hb]
    · exact evn (fun h => hb (of_decide_eq_true h)) (impl_Secret_j a b c _ (by simp [hb]))
  · exact evn (fun h => ha (of_decide_eq_true h)) (impl_Secret_j a b c _ (by simp [ha]))

def chainN : Nat → ByteArray → ByteArray
  | 0, t => t
  | n + 1, t => chainN n (cutD ((⟨#[99]⟩ : ByteArray) ++ t) 8)
theorem size99 (t : ByteArray) : ((⟨#[99]⟩ : ByteArray) ++ t).size = 1 + t.size := by rw [ByteArray.size_append]; rfl
def chainC (n : Int) : Nat := (min n 3).toNat
theorem spec_ChainOf_l (n : Int) : ∀ (d i : Nat) (t : ByteArray), i + d = chainC n → t.size ≤ 140737488350000 → Ev (fun k => spec_ChainOf.l0 k t n (i : Int)) (chainN d t) := by
  intro d
  induction d with
  | zero =>
    intro i t h _
    refine Ev.step (fun k => by rw [spec_ChainOf.l0]) ?_
    unfold chainC at h
    by_cases h1 : (i : Int) < n
    · exact evp h1 (evn (by omega) (evs rfl))
    · exact evn h1 (evs rfl)
  | succ d ih =>
    intro i t h ht
    refine Ev.step (fun k => by rw [spec_ChainOf.l0]) ?_
    have h' := h
    unfold chainC at h'
    refine evp (by omega) (evp (by omega) (evp (by omega) (evb (spec_l04Cut_is _ (by rw [size99]; omega)) ?_)))
    rw [w64s i (by omega)]
    exact ih (i + 1) _ (by omega) (by rw [cutD_size _ _ (by omega)]; omega)
theorem spec_ChainOf_is (t : ByteArray) (n : Int) (ht : t.size ≤ 140737488350000) : Ev (fun k => spec_ChainOf.f k t n) (chainN (chainC n) t) := spec_ChainOf_l n (chainC n) 0 t (Nat.zero_add _) ht
theorem impl_ChainOf_l (c : Nat) (hc : c ≤ 3) : ∀ (d i : Nat) (t : ByteArray), i + d = c → t.size ≤ 140737488350000 → Ev (fun k => impl_ChainOf.l0 k t (c : Int) (i : Int)) (chainN d t) := by
  intro d
  induction d with
  | zero =>
    intro i t h _
    refine Ev.step (fun k => by rw [impl_ChainOf.l0]) ?_
    exact evn (by omega) (evs rfl)
  | succ d ih =>
    intro i t h ht
    refine Ev.step (fun k => by rw [impl_ChainOf.l0]) ?_
    refine evp (by omega) (Ev.bind (impl_short_is 99 t ht) ?_)
    rw [w64s i (by omega)]
    exact ih (i + 1) _ (by omega) (by rw [cutD_size _ _ (by omega)]; omega)
theorem impl_ChainOf_is (t : ByteArray) (n : Int) (ht : t.size ≤ 140737488350000) : Ev (fun k => impl_ChainOf.f k t n) (chainN (chainC n) t) := by
  unfold impl_ChainOf.f
  have e : mx 0 (mn n 3) = (chainC n : Int) := by unfold mx mn chainC; omega
  rw [e]
  exact impl_ChainOf_l (chainC n) (by unfold chainC; omega) (chainC n) 0 t (Nat.zero_add _) ht
theorem chainN_size : ∀ (n : Nat) (t : ByteArray), 0 < n → (chainN n t).size = 8
  | 0, _, h => absurd h (by omega)
  | 1, t, _ => cutD_size _ _ (by omega)
  | n + 2, t, _ => chainN_size (n + 1) _ (by omega)

def allN (a b : Int) : Nat → ByteArray
  | 0 => ⟨#[]⟩
  | i + 1 => allN a b i ++ chainN 3 (secret a b (i : Int))
theorem allN_size (a b : Int) : ∀ i : Nat, (allN a b i).size = 8 * i
  | 0 => rfl
  | i + 1 => by rw [allN, ByteArray.size_append, allN_size a b i, chainN_size _ _ (by omega)]; omega
def leafKey (a b : Int) : ByteArray := cutD ((⟨#[108]⟩ : ByteArray) ++ allN a b 11) 8
theorem size108 (t : ByteArray) : ((⟨#[108]⟩ : ByteArray) ++ t).size = 1 + t.size := by rw [ByteArray.size_append]; rfl
theorem spec_LeafKey_l (a b : Int) : ∀ (d i : Nat), i + d = 11 → Ev (fun k => spec_LeafKey.l0 k a b ((⟨#[108]⟩ : ByteArray) ++ allN a b i) (i : Int)) (leafKey a b) := by
  intro d
  induction d with
  | zero =>
    intro i h
    have hi : i = 11 := by omega
    subst hi
    refine Ev.step (fun k => by rw [spec_LeafKey.l0]) (evn (by omega) ?_)
    exact evb (spec_l04Cut_is _ (by rw [size108, allN_size]; omega)) (evs rfl)
  | succ d ih =>
    intro i h
    refine Ev.step (fun k => by rw [spec_LeafKey.l0]) (evp (by omega) ?_)
    have hs := secret_size a b (i : Int)
    refine Ev.bind (spec_SecretOf_is a b (i : Int)) (Ev.bind (spec_ChainOf_is _ 3 (by omega)) ?_)
    have e : chainC 3 = 3 := rfl
    rw [e]
    refine evp (by rw [size108, allN_size, chainN_size _ _ (by omega)]; omega) ?_
    rw [w64s i (by omega), ByteArray.append_assoc]
    exact ih (i + 1) (by omega)
theorem spec_LeafKey_is (a b : Int) : Ev (fun k => spec_LeafKey.f k a b) (leafKey a b) := spec_LeafKey_l a b 11 0 rfl
theorem impl_LeafKey_l (a b : Int) : ∀ (d i : Nat), i + d = 11 → Ev (fun k => impl_LeafKey.l0 k a b (allN a b i) (i : Int)) (leafKey a b) := by
  intro d
  induction d with
  | zero =>
    intro i h
    have hi : i = 11 := by omega
    subst hi
    refine Ev.step (fun k => by rw [impl_LeafKey.l0]) (evn (by omega) ?_)
    exact Ev.bind (impl_short_is 108 _ (by rw [allN_size]; omega)) (evs rfl)
  | succ d ih =>
    intro i h
    refine Ev.step (fun k => by rw [impl_LeafKey.l0]) (evp (by omega) ?_)
    have hs := secret_size a b (i : Int)
    refine Ev.bind (impl_SecretOf_is a b (i : Int)) (Ev.bind (impl_ChainOf_is _ 3 (by omega)) ?_)
    have e : chainC 3 = 3 := rfl
    rw [e]
    refine evp (by rw [allN_size, chainN_size _ _ (by omega)]; omega) ?_
    rw [w64s i (by omega)]
    exact ih (i + 1) (by omega)
theorem impl_LeafKey_is (a b : Int) : Ev (fun k => impl_LeafKey.f k a b) (leafKey a b) := impl_LeafKey_l a b 11 0 rfl

def nodeK (x y : ByteArray) : ByteArray := cutD ((⟨#[110]⟩ : ByteArray) ++ (x ++ y)) 8
theorem leafKey_size (a b : Int) : (leafKey a b).size = 8 := cutD_size _ 8 (by omega)
theorem nodeK_size (x y : ByteArray) : (nodeK x y).size = 8 := cutD_size _ 8 (by omega)
def tree (s : Int) : List (List ByteArray) :=
  [[leafKey s 0, leafKey s 1, leafKey s 2, leafKey s 3], [nodeK (leafKey s 0) (leafKey s 1), nodeK (leafKey s 2) (leafKey s 3)], [nodeK (nodeK (leafKey s 0) (leafKey s 1)) (nodeK (leafKey s 2) (leafKey s 3))]]
def keyOf (s : Int) : ByteArray := nodeK (nodeK (leafKey s 0) (leafKey s 1)) (nodeK (leafKey s 2) (leafKey s 3))
theorem spec_node (x y : ByteArray) (hx : x.size = 8) (hy : y.size = 8) : spec_l04Cut.f (((⟨#[110]⟩ : ByteArray) ++ x) ++ y) = some (nodeK x y) := by
  rw [spec_l04Cut_is _ (by rw [ByteArray.size_append, ByteArray.size_append, hx, hy]; decide), ByteArray.append_assoc]
  rfl
theorem impl_node (x y : ByteArray) (hx : x.size = 8) (hy : y.size = 8) : Ev (fun k => impl_short.f k 110 (x ++ y)) (nodeK x y) := impl_short_is 110 _ (by rw [ByteArray.size_append, hx, hy]; decide)
theorem sz8 {x : ByteArray} (h : x.size = 8) : x.size ≤ 1000 := by omega
theorem spec_l04Rows_is (s : Int) : Ev (fun k => spec_l04Rows.f k s) (tree s) := by
  unfold spec_l04Rows.f Levels.treeOf
  have l := fun i => leafKey_size s i
  refine Ev.bind (spec_LeafKey_is s 0) (Ev.bind (spec_LeafKey_is s 1) (Ev.bind (spec_LeafKey_is s 2) (Ev.bind (spec_LeafKey_is s 3) ?_)))
  refine evb (spec_node _ _ (l _) (l _)) (evb (spec_node _ _ (l _) (l _)) (evb (spec_node _ _ (nodeK_size _ _) (nodeK_size _ _)) ?_))
  exact evp ⟨sz8 (l _), sz8 (l _), sz8 (l _), sz8 (l _), sz8 (nodeK_size _ _), sz8 (nodeK_size _ _), sz8 (nodeK_size _ _)⟩ (Ev.now _)
theorem impl_levels_is (s : Int) : Ev (fun k => impl_levels.f k s) (tree s) := by
  unfold impl_levels.f Levels.treeOf
  have l := fun i => leafKey_size s i
  refine Ev.bind (impl_LeafKey_is s 0) (Ev.bind (impl_LeafKey_is s 1) (Ev.bind (impl_LeafKey_is s 2) (Ev.bind (impl_LeafKey_is s 3) ?_)))
  refine Ev.bind (impl_node _ _ (l _) (l _)) (Ev.bind (impl_node _ _ (l _) (l _)) (Ev.bind (impl_node _ _ (nodeK_size _ _) (nodeK_size _ _)) ?_))
  exact evp ⟨sz8 (l _), sz8 (l _), sz8 (l _), sz8 (l _), sz8 (nodeK_size _ _), sz8 (nodeK_size _ _), sz8 (nodeK_size _ _)⟩ (Ev.now _)

theorem spec_KeyOf_is (s : Int) : Ev (fun k => spec_KeyOf.f k s) (keyOf s) := by
  unfold spec_KeyOf.f
  refine Ev.bind (spec_l04Rows_is s) ?_
  have e : wrap64 (((tree s).length : Int) - 1) = 2 := (w64 (n := (3 : Int) - 1) (by decide) (by decide)).trans (by decide)
  rw [e]
  exact evp (by decide) (evp (by show (2 : Int) < 3; decide) (evp (by show (0 : Int) < 1; decide) (Ev.now _)))
theorem impl_KeyOf_is (s : Int) : Ev (fun k => impl_KeyOf.f k s) (keyOf s) := by
  unfold impl_KeyOf.f
  refine Ev.bind (impl_levels_is s) ?_
  have e : wrap64 (((tree s).length : Int) - 1) = 2 := (w64 (n := (3 : Int) - 1) (by decide) (by decide)).trans (by decide)
  rw [e]
  exact evp (by decide) (evp (by show (2 : Int) < 3; decide) (evp (by show (0 : Int) < 1; decide) (Ev.now _)))

theorem i64_and3 (n : Nat) (h : n ≤ 9223372036854775807) : Go.bits .and .i64 (n : Int) 3 = ((n % 4 : Nat) : Int) := by
  have := (i64_nat n 3 (by omega) (by omega)).1
  rw [nat_mask2] at this
  exact this
def qn (n : Nat) : List Int := [((n / 64 % 4 : Nat) : Int), ((n / 16 % 4 : Nat) : Int), ((n / 4 % 4 : Nat) : Int), ((n % 4 : Nat) : Int)]
def qs (n : Nat) : Int := ((n / 64 % 4 + n / 16 % 4 + n / 4 % 4 + n % 4 : Nat) : Int)
theorem quadL_nat (n : Nat) (h : n < 256) : quadL (n : Int) = qn n := by
  have a := i64_and3 (n / 64) (by omega)
  have b := i64_and3 (n / 16) (by omega)
  have c := i64_and3 (n / 4) (by omega)
  have d := i64_and3 n (by omega)
  unfold quadL qn
  rw [← a, ← b, ← c, ← d]
  rfl
theorem qval (n s : Nat) (m : Int) (hn : n < 256) (hm : m = (s : Int)) (hs : s ≤ 6) (hu : IntKind.u64.wrap m = m) : Go.bits .and .i64 (shr .i64 (wrap64 (n : Int)) (IntKind.u64.wrap m)) 3 = ((n / 2 ^ s % 4 : Nat) : Int) := by
  rw [hu, hm, w64 (by omega) (by omega)]
  unfold shr
  have b : IntKind.i64.bits = 64 := rfl
  rw [b, Int.toNat_natCast, Nat.min_eq_left (by omega)]
  have e : (n : Int) / 2 ^ s = ((n / 2 ^ s : Nat) : Int) := by norm_cast
  rw [e]
  exact i64_and3 _ (Nat.le_trans (Nat.div_le_self _ _) (by omega))
theorem miss8 (x1 x2 x3 x4 x5 x6 x7 x8 : Int) (h1 : 0 ≤ x1 ∧ x1 ≤ 3) (h2 : 0 ≤ x2 ∧ x2 ≤ 3) (h3 : 0 ≤ x3 ∧ x3 ≤ 3) (h4 : 0 ≤ x4 ∧ x4 ≤ 3) (h5 : 0 ≤ x5 ∧ x5 ≤ 3) (h6 : 0 ≤ x6 ∧ x6 ≤ 3) (h7 : 0 ≤ x7 ∧ x7 ≤ 3) (h8 : 0 ≤ x8 ∧ x8 ≤ 3) :
    missOf [x1, x2, x3, x4, x5, x6, x7, x8] 8 = 24 - (x1 + x2 + x3 + x4 + x5 + x6 + x7 + x8) := by
  show wrap64 (wrap64 (wrap64 (wrap64 (wrap64 (wrap64 (wrap64 (wrap64 (24 - x1) - x2) - x3) - x4) - x5) - x6) - x7) - x8) = _
  rw [show wrap64 (24 - x1) = 24 - x1 from w64 (by omega) (by omega)]
  rw [show wrap64 (24 - x1 - x2) = 24 - x1 - x2 from w64 (by omega) (by omega)]
  rw [show wrap64 (24 - x1 - x2 - x3) = 24 - x1 - x2 - x3 from w64 (by omega) (by omega)]
  rw [show wrap64 (24 - x1 - x2 - x3 - x4) = 24 - x1 - x2 - x3 - x4 from w64 (by omega) (by omega)]
  rw [show wrap64 (24 - x1 - x2 - x3 - x4 - x5) = 24 - x1 - x2 - x3 - x4 - x5 from w64 (by omega) (by omega)]
  rw [show wrap64 (24 - x1 - x2 - x3 - x4 - x5 - x6) = 24 - x1 - x2 - x3 - x4 - x5 - x6 from w64 (by omega) (by omega)]
  rw [show wrap64 (24 - x1 - x2 - x3 - x4 - x5 - x6 - x7) = 24 - x1 - x2 - x3 - x4 - x5 - x6 - x7 from w64 (by omega) (by omega)]
  rw [show wrap64 (24 - x1 - x2 - x3 - x4 - x5 - x6 - x7 - x8) = 24 - x1 - x2 - x3 - x4 - x5 - x6 - x7 - x8 from w64 (by omega) (by omega)]
  omega
theorem impl_QuadsOf_is (t : ByteArray) (ht : t.size ≤ 140737488351232) : Ev (fun k => impl_QuadsOf.f k t) (quads (dig t)) := by
  unfold impl_QuadsOf.f
  exact Ev.bind (impl_Digest_is t ht) (evp (dig_size t) (Ev.now _))
theorem quads_len (d : ByteArray) : (quads d).length = 11 := rfl

theorem rdOf_nat {α : Type} (d : α) (l : List α) (i : Nat) (h : i < l.length) : rdOf d l (i : Int) = l[i] := by
  unfold rdOf
  rw [Int.toNat_natCast, List.getD_eq_getElem?_getD, List.getElem?_eq_getElem h]
  rfl

def endsN (s l : Int) (q : List Int) (n : Nat) : List ByteArray := (List.range n).map fun i : Nat => chainN (chainC (rd q (i : Int))) (secret s l (i : Int))
theorem endsN_succ (s l : Int) (q : List Int) (n : Nat) : endsN s l q n ++ [chainN (chainC (rd q (n : Int))) (secret s l (n : Int))] = endsN s l q (n + 1) := by
  unfold endsN
  rw [List.range_succ, List.map_append]
  rfl
theorem endsN_len (s l : Int) (q : List Int) (n : Nat) : (endsN s l q n).length = n := by simp [endsN]
def up1 (x : Int) : Int := Go.bits .xor .i64 x 1
def half (x : Int) : Int := wrap64 (Int.tdiv x 2)
def wayOf (T : List (List ByteArray)) (l : Int) : List ByteArray := [rdOf ByteArray.empty (rd_L5 T 0) (up1 l), rdOf ByteArray.empty (rd_L5 T 1) (up1 (half l))]
def sgOk (s l : Int) : Prop := (0 ≤ l ∧ l ≤ 3) ∧ few s
instance (s l : Int) : Decidable (sgOk s l) := inferInstanceAs (Decidable (_ ∧ _))
def sigOf (s l : Int) (t : ByteArray) : Int × List ByteArray × List ByteArray × Bool := if sgOk s l then (l, endsN s l (quads (dig t)) 11, wayOf (tree s) l, true) else (0, [], [], false)
theorem four (l : Int) (h : 0 ≤ l ∧ l ≤ 3) : (0 ≤ up1 l ∧ up1 l < 4) ∧ (0 ≤ up1 (half l) ∧ up1 (half l) < 2) := by
  have e : half l = Int.tdiv l 2 := by
    apply w64
    · obtain rfl | rfl | rfl | rfl : l = 0 ∨ l = 1 ∨ l = 2 ∨ l = 3 := by omega
      all_goals decide
    · obtain rfl | rfl | rfl | rfl : l = 0 ∨ l = 1 ∨ l = 2 ∨ l = 3 := by omega
      all_goals decide
  rw [e]
  obtain rfl | rfl | rfl | rfl : l = 0 ∨ l = 1 ∨ l = 2 ∨ l = 3 := by omega
  all_goals decide
theorem tree_len (s : Int) : (tree s).length = 3 ∧ (rd_L5 (tree s) 0).length = 4 ∧ (rd_L5 (tree s) 1).length = 2 := ⟨rfl, rfl, rfl⟩
theorem wr1 : wrap64 ((0 : Int) + 1) = 1 := (w64 (by decide) (by decide)).trans (by decide)
theorem wr2 : wrap64 ((1 : Int) + 1) = 2 := (w64 (by decide) (by decide)).trans (by decide)
theorem wr3 : wrap64 ((2 : Int) + 1) = 3 := (w64 (by decide) (by decide)).trans (by decide)
theorem impl_Sign_l1 (s l a : Int) (e : List ByteArray) (hl : 0 ≤ l ∧ l ≤ 3) : Ev (fun k => impl_SignText.l1 k (tree s) l 0 a e []) (a, e, wayOf (tree s) l, true) := by
  obtain ⟨⟨u1, u2⟩, u3, u4⟩ := four l hl
  obtain ⟨t1, t2, t3⟩ := tree_len s
  refine Ev.step (fun k => by rw [impl_SignText.l1]) ?_
  rw [wr1, t1]
  refine evp (by decide) (evp (by decide) (evp (by decide) (evp u1 (evp (by rw [t2]; exact u2) (evp (by decide) ?_)))))
  refine Ev.step (fun k => by rw [impl_SignText.l1]) ?_
  rw [wr2, t1]
  refine evp (by decide) (evp (by decide) (evp (by decide) (evp u3 (evp (by rw [t3]; exact u4) (evp (by simp) ?_)))))
  refine Ev.step (fun k => by rw [impl_SignText.l1]) ?_
  exact evn (by decide) (Ev.now _)
theorem impl_Sign_l0 (s l a : Int) (q : List Int) (hq : q.length = 11) (hl : 0 ≤ l ∧ l ≤ 3) : ∀ (d i : Nat), i + d = 11 → Ev (fun k => impl_SignText.l0 k s l q 11 (i : Int) a (endsN s l q i)) (a, endsN s l q 11, wayOf (tree s) l, true) := by
  intro d
  induction d with
  | zero =>
    intro i h
    obtain rfl : i = 11 := by omega
    refine Ev.step (fun k => by rw [impl_SignText.l0]) (evn (by omega) ?_)
    exact Ev.bind (impl_levels_is s) (impl_Sign_l1 s l a _ hl)
  | succ d ih =>
    intro i h
    have hs := secret_size s l (i : Int)
    refine Ev.step (fun k => by rw [impl_SignText.l0]) (evp (by omega) (evp (by omega) (evp (by omega) ?_)))
    refine Ev.bind (impl_SecretOf_is s l (i : Int)) ?_
    refine Ev.bind (impl_ChainOf_is _ _ (by omega)) (evp (by rw [endsN_len]; omega) ?_)
    rw [w64s i (by omega), endsN_succ]
    exact ih (i + 1) (by omega)
theorem impl_Sign_j (s l : Int) (t : ByteArray) (ht : t.size ≤ 140737488351232) (x : Bool) (hx : x = ! decide (sgOk s l)) : Ev (fun k => impl_SignText.j0 k s l t x) (sigOf s l t) := by
  refine Ev.step (fun k => by rw [impl_SignText.j0]) ?_
  unfold sigOf
  by_cases h : sgOk s l
  · rw [if_pos h]
    rw [decide_eq_true h] at hx
    refine evn (by rw [hx]; decide) ?_
    refine Ev.bind (impl_QuadsOf_is t ht) ?_
    rw [quads_len]
    exact impl_Sign_l0 s l l _ (quads_len _) h.1 11 0 rfl
  · rw [if_neg h]
    rw [decide_eq_false h] at hx
    exact evp (by rw [hx]; rfl) (Ev.now _)
theorem impl_SignText_is (s l : Int) (t : ByteArray) (ht : t.size ≤ 140737488351232) : Ev (fun k => impl_SignText.f k s l t) (sigOf s l t) := by
  refine evb (impl_in_is l 0 3) ?_
  by_cases h : 0 ≤ l ∧ l ≤ 3
  · refine evp (decide_eq_true h) (evb (impl_in_is s 0 1000000) (impl_Sign_j s l t ht _ ?_))
    congr 1
    rw [decide_eq_decide]
    exact ⟨fun h2 => ⟨h, h2⟩, fun h2 => h2.2⟩
  · refine evn (by simpa using h) (impl_Sign_j s l t ht _ ?_)
    rw [decide_eq_false (fun h2 : sgOk s l => h h2.1)]
    rfl
theorem sigOf_len (s l : Int) (t : ByteArray) : (sigOf s l t).2.1.length ≤ 11 ∧ (sigOf s l t).2.2.1.length ≤ 2 := by
  unfold sigOf
  by_cases h : sgOk s l
  · rw [if_pos h]
    exact ⟨by rw [endsN_len]; omega, by simp [wayOf]⟩
  · rw [if_neg h]; simp

def chE (q : List Int) (e : List ByteArray) (i : Nat) : ByteArray := chainN (chainC (wrap64 (3 - rd q (i : Int)))) (rdOf ByteArray.empty e (i : Int))
def allS (q : List Int) (e : List ByteArray) : Nat → ByteArray
  | 0 => ⟨#[]⟩
  | i + 1 => allS q e i ++ chE q e i
theorem chainN_le : ∀ (n : Nat) (t : ByteArray), t.size ≤ 8 → (chainN n t).size ≤ 8
  | 0, t, h => h
  | n + 1, t, h => by rw [chainN_size _ _ (by omega)]; omega
theorem allS_size (q : List Int) (e : List ByteArray) (he : ∀ i : Nat, (rdOf ByteArray.empty e (i : Int)).size ≤ 8) : ∀ i : Nat, (allS q e i).size ≤ 8 * i
  | 0 => by rw [allS]; decide
  | i + 1 => by
    have h1 := chainN_le (chainC (wrap64 (3 - rd q (i : Int)))) _ (he i)
    have h2 := allS_size q e he i
    rw [allS, ByteArray.size_append]
    unfold chE
    omega
def climb (now : ByteArray) (at_ : Int) : List ByteArray → ByteArray
  | [] => now
  | w :: l => climb (if Int.tmod at_ 2 = 0 then nodeK now w else nodeK w now) (wrap64 (Int.tdiv at_ 2)) l
def signedB (key t : ByteArray) (n : Int) (e w : List ByteArray) : Bool :=
  if Formed.formedB n e w = true then (climb (cutD ((⟨#[108]⟩ : ByteArray) ++ allS (quads (dig t)) e 11) 8) n w).toList == key.toList else false
theorem formed_open {n : Int} {e w : List ByteArray} (h : Formed.formedB n e w = true) : (0 ≤ n ∧ n ≤ 3) ∧ e.length = 11 ∧ w.length = 2 ∧ (∀ t ∈ e, t.size = 8) ∧ (∀ t ∈ w, t.size = 8) := by
  unfold Formed.formedB at h
  simp only [Bool.and_eq_true, decide_eq_true_eq, Bool.not_eq_true'] at h
  obtain ⟨⟨⟨⟨h1, h2⟩, h3⟩, h4⟩, h5⟩ := h
  have go : ∀ l : List ByteArray, l.any Formed.badT = false → ∀ t ∈ l, t.size = 8 := by
    intro l hl t ht
    have := List.any_eq_false.1 hl t ht
    unfold Formed.badT at this
    simp at this
    omega
  exact ⟨h1, h2, h3, go e h4, go w h5⟩
theorem formed_mk {n : Int} {e w : List ByteArray} (h1 : 0 ≤ n ∧ n ≤ 3) (h2 : e.length = 11) (h3 : w.length = 2) (h4 : ∀ t ∈ e, t.size = 8) (h5 : ∀ t ∈ w, t.size = 8) : Formed.formedB n e w = true := by
  have go : ∀ l : List ByteArray, (∀ t ∈ l, t.size = 8) → l.any Formed.badT = false := by
    intro l hl
    rw [List.any_eq_false]
    intro t ht
    unfold Formed.badT
    simp [hl t ht]
  unfold Formed.formedB
  rw [decide_eq_true h1, decide_eq_true h2, decide_eq_true h3, go e h4, go w h5]
  rfl
theorem rd8 {l : List ByteArray} (h : ∀ t ∈ l, t.size = 8) (i : Nat) : (rdOf ByteArray.empty l (i : Int)).size ≤ 8 := by
  unfold rdOf
  rw [List.getD_eq_getElem?_getD]
  cases e : l[((i : Nat) : Int).toNat]? with
  | none => show ByteArray.empty.size ≤ 8; decide
  | some t =>
    have := h t (List.mem_of_getElem? e)
    simp only [Option.getD_some]
    omega
theorem impl_Formed_is (n : Int) (e w : List ByteArray) (he : e.length ≤ 4000000) (hw : w.length ≤ 4000000) : impl_signFormed.f n e w = some (Formed.formedB n e w) := by unfold impl_signFormed.f; rw [if_pos ⟨he, hw⟩]
theorem drop_w (w : List ByteArray) (i : Nat) (h : i < w.length) : w.drop i = rdOf ByteArray.empty w (i : Int) :: w.drop (i + 1) := Formed.drop_str w i h
theorem impl_By_l1 (key : ByteArray) (w : List ByteArray) (hw : w.length ≤ 1000) (h8 : ∀ t ∈ w, t.size = 8) : ∀ (d i : Nat) (now : ByteArray) (a : Int), i + d = w.length → now.size ≤ 8 → Ev (fun k => impl_SignedBy.l1 k key now a w (w.length : Int) (i : Int)) ((climb now a (w.drop i)).toList == key.toList) := by
  intro d
  induction d with
  | zero =>
    intro i now a h hn
    refine Ev.step (fun k => by rw [impl_SignedBy.l1]) (evn (by omega) (evs ?_))
    rw [List.drop_of_length_le (by omega)]; rfl
  | succ d ih =>
    intro i now a h hn
    have hr := rd8 h8 i
    refine Ev.step (fun k => by rw [impl_SignedBy.l1]) (evp (by omega) (evp (by omega) (evp (by omega) ?_)))
    rw [drop_w w i (by omega), climb]
    by_cases c : Int.tmod a 2 = 0
    · rw [if_pos c]
      refine evp c (evp (by omega) ?_)
      refine Ev.bind (impl_short_is 110 _ (by rw [ByteArray.size_append]; omega)) ?_
      rw [w64s i (by omega)]
      exact ih (i + 1) _ _ (by omega) (by rw [cutD_size _ _ (by omega)]; omega)
    · rw [if_neg c]
      refine evn c (evp (by omega) ?_)
      refine Ev.bind (impl_short_is 110 _ (by rw [ByteArray.size_append]; omega)) ?_
      rw [w64s i (by omega)]
      exact ih (i + 1) _ _ (by omega) (by rw [cutD_size _ _ (by omega)]; omega)
theorem impl_By_l0 (key : ByteArray) (q : List Int) (hq : q.length = 11) (n : Int) (e w : List ByteArray) (he : e.length = 11) (hw : w.length = 2) (h8 : ∀ t ∈ e, t.size = 8) (h9 : ∀ t ∈ w, t.size = 8) : ∀ (d i : Nat), i + d = 11 → Ev (fun k => impl_SignedBy.l0 k key (allS q e i) q 11 (i : Int) n e w) ((climb (cutD ((⟨#[108]⟩ : ByteArray) ++ allS q e 11) 8) n w).toList == key.toList) := by
  have hz := allS_size q e (rd8 h8)
  intro d
  induction d with
  | zero =>
    intro i h
    obtain rfl : i = 11 := by omega
    have := hz 11
    refine Ev.step (fun k => by rw [impl_SignedBy.l0]) (evn (by omega) (Ev.bind (impl_short_is 108 _ (by omega)) ?_))
    exact impl_By_l1 key w (by omega) h9 2 0 _ n (by omega) (by rw [cutD_size _ _ (by omega)]; omega)
  | succ d ih =>
    intro i h
    have hr := rd8 h8 i
    have h1 := hz i
    refine Ev.step (fun k => by rw [impl_SignedBy.l0]) (evp (by omega) (evp (by omega) (evp (by omega) (evp (by omega) ?_))))
    refine Ev.bind (impl_ChainOf_is _ _ (by omega)) ?_
    have h2 := chainN_le (chainC (wrap64 (3 - rd q (i : Int)))) _ hr
    refine evp (by omega) ?_
    rw [w64s i (by omega)]
    exact ih (i + 1) (by omega)
theorem impl_SignedBy_is (key t : ByteArray) (ht : t.size ≤ 140737488351232) (n : Int) (e w : List ByteArray) (he : e.length ≤ 4000000) (hw : w.length ≤ 4000000) : Ev (fun k => impl_SignedBy.f k key t n e w) (signedB key t n e w) := by
  unfold signedB
  refine evb (impl_Formed_is n e w he hw) ?_
  by_cases h : Formed.formedB n e w = true
  · obtain ⟨h1, h2, h3, h4, h5⟩ := formed_open h
    rw [if_pos h]
    refine evp h (Ev.bind (impl_QuadsOf_is t ht) ?_)
    rw [quads_len]
    exact impl_By_l0 key (quads (dig t)) (quads_len _) n e w h2 h3 h4 h5 11 0 rfl
  · rw [if_neg h]
    exact evn h (Ev.now _)

theorem i64_and255 (a : Int) : 0 ≤ Go.bits .and .i64 a 255 ∧ Go.bits .and .i64 a 255 ≤ 255 := by
  show 0 ≤ IntKind.i64.wrap ((BitVec.ofInt 64 a &&& BitVec.ofInt 64 255).toNat : Int) ∧ IntKind.i64.wrap ((BitVec.ofInt 64 a &&& BitVec.ofInt 64 255).toNat : Int) ≤ 255
  rw [BitVec.toNat_and, show (BitVec.ofInt 64 255).toNat = 255 from rfl, nat_mask8, IntKind.wrap_i64]
  omega
theorem rd_range {l : List Int} (hl : ∀ x ∈ l, (Lit.int .u8 x).wf = true) (i : Int) : 0 ≤ rd l i ∧ rd l i ≤ 255 := by
  unfold rd
  rw [List.getD_eq_getElem?_getD]
  cases h : l[i.toNat]? with
  | none => simp
  | some x =>
    have := hl x (List.mem_of_getElem? h)
    simp [Lit.wf, IntKind.min, IntKind.max, IntKind.bits, IntKind.signed] at this
    simp only [Option.getD_some]
    omega
theorem spec_l01New_l (l : List Int) : ∀ (d i : Nat) (h : Int), i + d = 4000 → ∃ h', Ev (fun k => spec_l01New.l0 k l h (i : Int)) (l, 0, h') := by
  intro d
  induction d with
  | zero =>
    intro i h h1
    refine ⟨h, Ev.step (fun k => by rw [spec_l01New.l0]) ?_⟩
    by_cases c : (i : Int) < (l.length : Int)
    · exact evp c (evn (by omega) (evs rfl))
    · exact evn c (evs rfl)
  | succ d ih =>
    intro i h h1
    by_cases c : (i : Int) < (l.length : Int)
    · obtain ⟨h', hh⟩ := ih (i + 1) (Go.bits .and .i64 (wrap64 ((wrap64 ((wrap64 (h * 131)) + (wrap64 (rd l (i : Int))))) + 7)) 1073741823) (by omega)
      refine ⟨h', Ev.step (fun k => by rw [spec_l01New.l0]) (evp c (evp (by omega) (evp (by omega) ?_)))⟩
      rw [w64s i (by omega)]
      exact hh
    · exact ⟨h, Ev.step (fun k => by rw [spec_l01New.l0]) (evn c (evs rfl))⟩
theorem spec_l01New_is (l : List Int) : ∃ h', Ev (fun k => spec_l01New.f k l) (l, 0, h') := spec_l01New_l l 4000 0 _ rfl
theorem spec_l01Byte_is (l : List Int) (hl : ∀ x ∈ l, (Lit.int .u8 x).wf = true) (hm : l.length ≤ 9223372036854775000) (i : Nat) (h : Int) : ∃ (x : Int) (i' : Nat) (h' : Int), spec_l01Byte.f l (i : Int) h = some (x, (i' : Int), h') ∧ 0 ≤ x ∧ x ≤ 255 := by
  unfold spec_l01Byte.f
  by_cases c : (i : Int) < (l.length : Int)
  · rw [if_pos c, if_pos (by omega)]
    rw [w64s i (by omega)]
    exact ⟨_, i + 1, _, rfl, i64_and255 _⟩
  · rw [if_neg c]
    exact ⟨_, i, _, rfl, i64_and255 _⟩
theorem spec_l01Below_is (l : List Int) (hl : ∀ x ∈ l, (Lit.int .u8 x).wf = true) (hm : l.length ≤ 9223372036854775000) (i : Nat) (h n : Int) (hn : 0 < n) : ∃ (x : Int) (i' : Nat) (h' : Int), spec_l01Below.f l (i : Int) h n = some (x, (i' : Int), h') ∧ 0 ≤ x ∧ x < n := by
  unfold spec_l01Below.f
  rw [if_neg (by omega)]
  by_cases c : n ≤ 256
  · rw [if_pos c]
    obtain ⟨x, i', h', e, r1, r2⟩ := spec_l01Byte_is l hl hm i h
    rw [e, Option.bind_some, if_neg (by omega)]
    refine ⟨_, i', h', rfl, ?_, ?_⟩
    · exact Int.tmod_nonneg _ r1
    · exact Int.tmod_lt_of_pos _ hn
  · rw [if_neg c]
    obtain ⟨x, i1, h1, e1, a1, a2⟩ := spec_l01Byte_is l hl hm i h
    obtain ⟨y, i2, h2, e2, b1, b2⟩ := spec_l01Byte_is l hl hm i1 h1
    obtain ⟨z, i3, h3, e3, c1, c2⟩ := spec_l01Byte_is l hl hm i2 h2
    obtain ⟨u, i4, h4, e4, d1, d2⟩ := spec_l01Byte_is l hl hm i3 h3
    rw [e1, Option.bind_some]
    dsimp only
    rw [e2, Option.bind_some]
    dsimp only
    rw [e3, Option.bind_some]
    dsimp only
    rw [e4, Option.bind_some, if_neg (by omega)]
    have q1 : wrap64 (x * 16777216) = x * 16777216 := w64 (by omega) (by omega)
    have q2 : wrap64 (y * 65536) = y * 65536 := w64 (by omega) (by omega)
    have q3 : wrap64 (z * 256) = z * 256 := w64 (by omega) (by omega)
    have q4 : wrap64 (x * 16777216 + y * 65536) = x * 16777216 + y * 65536 := w64 (by omega) (by omega)
    have q5 : wrap64 (x * 16777216 + y * 65536 + z * 256) = x * 16777216 + y * 65536 + z * 256 := w64 (by omega) (by omega)
    have q6 : wrap64 (x * 16777216 + y * 65536 + z * 256 + u) = x * 16777216 + y * 65536 + z * 256 + u := w64 (by omega) (by omega)
    rw [q1, q2, q3, q4, q5, q6]
    exact ⟨_, i4, h4, rfl, Int.tmod_nonneg _ (by omega), Int.tmod_lt_of_pos _ hn⟩

theorem spec_l01Text_l (l : List Int) (hl : ∀ x ∈ l, (Lit.int .u8 x).wf = true) (hm : l.length ≤ 9223372036854775000) (n : Int) (hn : n ≤ 5000) : ∀ (d i : Nat) (acc : List Int) (a : Nat) (h : Int), (i : Int) + d = max n 0 → acc.length = i →
    ∃ (t : ByteArray) (a' : Nat) (h' : Int), (t.size : Int) = max n 0 ∧ Ev (fun k => spec_l01Text.l0 k n acc (i : Int) l (a : Int) h) (t, (a' : Int), h') := by
  intro d
  induction d with
  | zero =>
    intro i acc a h h1 h2
    refine ⟨strOfNums acc, a, h, by rw [strOfNums_size]; omega, Ev.step (fun k => by rw [spec_l01Text.l0]) ?_⟩
    exact evn (by omega) (evs rfl)
  | succ d ih =>
    intro i acc a h h1 h2
    obtain ⟨x, a1, h1', e, _, _⟩ := spec_l01Byte_is l hl hm a h
    obtain ⟨t, a', h', t1, t2⟩ := ih (i + 1) (acc ++ [x % 256]) a1 h1' (by omega) (by rw [List.length_append, h2]; rfl)
    refine ⟨t, a', h', t1, Ev.step (fun k => by rw [spec_l01Text.l0]) (evp (by omega) (evb e ?_))⟩
    refine evp (by omega) ?_
    rw [w64s i (by omega)]
    exact t2
theorem spec_l01Text_is (l : List Int) (hl : ∀ x ∈ l, (Lit.int .u8 x).wf = true) (hm : l.length ≤ 9223372036854775000) (a : Nat) (h n : Int) : ∃ (t : ByteArray) (a' : Nat) (h' : Int), (t.size : Int) = max (min n 5000) 0 ∧ Ev (fun k => spec_l01Text.f k l (a : Int) h n) (t, (a' : Int), h') := by
  unfold spec_l01Text.f
  by_cases c : n > 5000
  · obtain ⟨t, a', h', t1, t2⟩ := spec_l01Text_l l hl hm 5000 (by omega) 5000 0 [] a h (by omega) rfl
    refine ⟨t, a', h', by omega, evp c ?_⟩
    refine Ev.step (fun k => by rw [spec_l01Text.j0]) ?_
    exact t2
  · obtain ⟨t, a', h', t1, t2⟩ := spec_l01Text_l l hl hm n (by omega) n.toNat 0 [] a h (by omega) rfl
    refine ⟨t, a', h', by omega, evn c ?_⟩
    refine Ev.step (fun k => by rw [spec_l01Text.j0]) ?_
    exact t2
theorem rd_mem (l : List Int) (i : Int) (h0 : 0 ≤ i) (h1 : i < l.length) : rd l i ∈ l := by
  unfold rd
  rw [List.getD_eq_getElem?_getD, List.getElem?_eq_getElem (by omega)]
  exact List.getElem_mem _
theorem spec_l01PickInt_is (l : List Int) (hl : ∀ x ∈ l, (Lit.int .u8 x).wf = true) (hm : l.length ≤ 9223372036854775000) (a : Nat) (h : Int) (s : List Int) (hs : 0 < s.length) : ∃ (x : Int) (a' : Nat) (h' : Int), spec_l01PickInt.f l (a : Int) h s = some (x, (a' : Int), h') ∧ x ∈ s := by
  unfold spec_l01PickInt.f
  obtain ⟨x, a', h', e, r1, r2⟩ := spec_l01Below_is l hl hm a h (s.length : Int) (by omega)
  rw [e, Option.bind_some, if_pos r1, if_pos r2]
  exact ⟨_, a', h', rfl, rd_mem s x r1 r2⟩
theorem spec_l03Some_is (l : List Int) (hl : ∀ x ∈ l, (Lit.int .u8 x).wf = true) (hm : l.length ≤ 9223372036854775000) (a : Nat) (h : Int) : ∃ (t : ByteArray) (a' : Nat) (h' : Int), t.size ≤ 5000 ∧ Ev (fun k => spec_l03Some.f k l (a : Int) h) (t, (a' : Int), h') := by
  obtain ⟨x, a1, h1, e, _⟩ := spec_l01PickInt_is l hl hm a h [0, 1, 3, 9, 54, 55, 56, 63, 64, 65, 119, 120, 200] (by simp)
  obtain ⟨t, a2, h2, t1, t2⟩ := spec_l01Text_is l hl hm a1 h1 x
  exact ⟨t, a2, h2, by omega, evb e (Ev.bind t2 (evs rfl))⟩
theorem spec_DrawTextOf_is (l : List Int) (hl : ∀ x ∈ l, (Lit.int .u8 x).wf = true) (hm : l.length ≤ 9223372036854775000) : ∃ t : ByteArray, t.size ≤ 5000 ∧ Ev (fun k => spec_DrawTextOf.f k l) t := by
  obtain ⟨h0, e0⟩ := spec_l01New_is l
  obtain ⟨t, a, h, t1, t2⟩ := spec_l03Some_is l hl hm 0 h0
  exact ⟨t, t1, Ev.bind e0 (Ev.bind t2 (evs rfl))⟩

theorem spec_DrawPlaces_l (l : List Int) (hl : ∀ x ∈ l, (Lit.int .u8 x).wf = true) (hm : l.length ≤ 9223372036854775000) : ∀ (d i : Nat) (acc : List Int) (at_ : Nat) (h : Int), i + d = 12 → acc.length = i → (∀ x ∈ acc, 0 ≤ x ∧ x < 10000) →
    ∃ p : List Int, p.length = 12 ∧ (∀ x ∈ p, 0 ≤ x ∧ x < 10000) ∧ Ev (fun k => spec_DrawPlaces.l0 k acc (i : Int) l (at_ : Int) h) p := by
  intro d
  induction d with
  | zero =>
    intro i acc a h h1 h2 h3
    exact ⟨acc, by omega, h3, Ev.step (fun k => by rw [spec_DrawPlaces.l0]) (evn (by omega) (evs rfl))⟩
  | succ d ih =>
    intro i acc a h h1 h2 h3
    obtain ⟨x, a', h', e, r1, r2⟩ := spec_l01Below_is l hl hm a h 10000 (by omega)
    obtain ⟨p, p1, p2, p3⟩ := ih (i + 1) (acc ++ [x]) a' h' (by omega) (by rw [List.length_append, h2]; rfl) (fun y hy => by
      rcases List.mem_append.1 hy with hy | hy
      · exact h3 y hy
      · simp at hy; subst hy; exact ⟨r1, r2⟩)
    refine ⟨p, p1, p2, Ev.step (fun k => by rw [spec_DrawPlaces.l0]) (evp (by omega) (evb e ?_))⟩
    refine evp (by omega) ?_
    rw [w64s i (by omega)]
    exact p3
theorem spec_DrawPlaces_is (l : List Int) (hl : ∀ x ∈ l, (Lit.int .u8 x).wf = true) (hm : l.length ≤ 9223372036854775000) : ∃ p : List Int, p.length = 12 ∧ (∀ x ∈ p, 0 ≤ x ∧ x < 10000) ∧ Ev (fun k => spec_DrawPlaces.f k l) p := by
  obtain ⟨h0, e0⟩ := spec_l01New_is l
  obtain ⟨x, i1, h1, e1, _, _⟩ := spec_l01Byte_is l hl hm 0 h0
  obtain ⟨p, p1, p2, p3⟩ := spec_DrawPlaces_l l hl hm 12 0 [] i1 h1 rfl rfl (fun x hx => by simp at hx)
  exact ⟨p, p1, p2, Ev.bind e0 (evb e1 p3)⟩

theorem mod4 (n : Nat) : 0 ≤ ((n % 4 : Nat) : Int) ∧ ((n % 4 : Nat) : Int) ≤ 3 := by omega
theorem join24 (m : Nat) (h : m ≤ 24) : 16 * ((m / 16 % 4 : Nat) : Int) + 4 * ((m / 4 % 4 : Nat) : Int) + ((m % 4 : Nat) : Int) = (m : Int) := by omega
/-- The eleven numbers of a digest: a, .. h from two bytes, and what they lack. -/
theorem quads_form (d : ByteArray) : ∃ x1 x2 x3 x4 x5 x6 x7 x8 y1 y2 y3 : Int, quads d = [x1, x2, x3, x4, x5, x6, x7, x8, y1, y2, y3] ∧ (0 ≤ x1 ∧ x1 ≤ 3) ∧ (0 ≤ x2 ∧ x2 ≤ 3) ∧ (0 ≤ x3 ∧ x3 ≤ 3) ∧ (0 ≤ x4 ∧ x4 ≤ 3) ∧ (0 ≤ x5 ∧ x5 ≤ 3) ∧ (0 ≤ x6 ∧ x6 ≤ 3) ∧ (0 ≤ x7 ∧ x7 ≤ 3) ∧ (0 ≤ x8 ∧ x8 ≤ 3) ∧
    (0 ≤ y1 ∧ y1 ≤ 3) ∧ (0 ≤ y2 ∧ y2 ≤ 3) ∧ (0 ≤ y3 ∧ y3 ≤ 3) ∧ x1 + x2 + x3 + x4 + x5 + x6 + x7 + x8 + 16 * y1 + 4 * y2 + y3 = 24 := by
  obtain ⟨a, ha, ha2⟩ := bt_nat d 0
  obtain ⟨b, hb, hb2⟩ := bt_nat d 1
  have e8 : quads8 d = qn a ++ qn b := by unfold quads8; rw [ha, hb, quadL_nat a ha2, quadL_nat b hb2]
  have hm : missOf (quads8 d) 8 = 24 - (qs a + qs b) := by
    rw [e8]
    refine (miss8 _ _ _ _ _ _ _ _ ?_ ?_ ?_ ?_ ?_ ?_ ?_ ?_).trans ?_
    all_goals (try (constructor <;> omega))
    unfold qs
    omega
  have hq : 0 ≤ qs a + qs b ∧ qs a + qs b ≤ 24 := by unfold qs; omega
  obtain ⟨m, hm2⟩ := Int.eq_ofNat_of_zero_le (show 0 ≤ 24 - (qs a + qs b) by omega)
  have hm3 : m ≤ 24 := by omega
  have x1 := i64_and3 (m / 16) (by omega)
  have x2 := i64_and3 (m / 4) (by omega)
  have x3 := i64_and3 m (by omega)
  refine ⟨((a / 64 % 4 : Nat) : Int), ((a / 16 % 4 : Nat) : Int), ((a / 4 % 4 : Nat) : Int), ((a % 4 : Nat) : Int), ((b / 64 % 4 : Nat) : Int), ((b / 16 % 4 : Nat) : Int), ((b / 4 % 4 : Nat) : Int), ((b % 4 : Nat) : Int), ((m / 16 % 4 : Nat) : Int), ((m / 4 % 4 : Nat) : Int), ((m % 4 : Nat) : Int), ?_, mod4 _, mod4 _, mod4 _, mod4 _, mod4 _, mod4 _, mod4 _, mod4 _, mod4 _, mod4 _, mod4 _, ?_⟩
  · unfold quads
    rw [hm, e8, hm2, show (m : Int) / 16 = ((m / 16 : Nat) : Int) from rfl, show (m : Int) / 4 = ((m / 4 : Nat) : Int) from rfl, x1, x2, x3]
    rfl
  · have hj := join24 m hm3
    have ha : qs a = ((a / 64 % 4 : Nat) : Int) + ((a / 16 % 4 : Nat) : Int) + ((a / 4 % 4 : Nat) : Int) + ((a % 4 : Nat) : Int) := by unfold qs; push_cast; rfl
    have hb' : qs b = ((b / 64 % 4 : Nat) : Int) + ((b / 16 % 4 : Nat) : Int) + ((b / 4 % 4 : Nat) : Int) + ((b % 4 : Nat) : Int) := by unfold qs; push_cast; rfl
    rw [ha, hb'] at hm2
    clear hm hq x1 x2 x3 e8 ha hb' hb ha2 hb2
    generalize ((a / 64 % 4 : Nat) : Int) = u1 at *
    generalize ((a / 16 % 4 : Nat) : Int) = u2 at *
    generalize ((a / 4 % 4 : Nat) : Int) = u3 at *
    generalize ((a % 4 : Nat) : Int) = u4 at *
    generalize ((b / 64 % 4 : Nat) : Int) = u5 at *
    generalize ((b / 16 % 4 : Nat) : Int) = u6 at *
    generalize ((b / 4 % 4 : Nat) : Int) = u7 at *
    generalize ((b % 4 : Nat) : Int) = u8 at *
    generalize ((m / 16 % 4 : Nat) : Int) = u9 at *
    generalize ((m / 4 % 4 : Nat) : Int) = u10 at *
    generalize ((m % 4 : Nat) : Int) = u11 at *
    have h3 : 24 - (u1 + u2 + u3 + u4 + (u5 + u6 + u7 + u8)) = (m : Int) := hm2
    omega
theorem chain_chain : ∀ (b a : Nat) (t : ByteArray), chainN a (chainN b t) = chainN (b + a) t
  | 0, a, t => by rw [chainN, Nat.zero_add]
  | b + 1, a, t => by
    have : b + 1 + a = (b + a) + 1 := by omega
    rw [this, chainN, chainN]
    exact chain_chain b a _
theorem chain_up (t : ByteArray) (q : Int) (h : 0 ≤ q ∧ q ≤ 3) : chainN (chainC (wrap64 (3 - q))) (chainN (chainC q) t) = chainN 3 t := by
  rw [chain_chain, w64 (by omega) (by omega)]
  congr 1
  unfold chainC
  omega
theorem endsN_rd (s l : Int) (q : List Int) (i : Nat) (h : i < 11) : rdOf ByteArray.empty (endsN s l q 11) (i : Int) = chainN (chainC (rd q (i : Int))) (secret s l (i : Int)) := by
  rw [rdOf_nat _ _ i (by rw [endsN_len]; exact h)]
  simp [endsN]
theorem quads_rd (d : ByteArray) (i : Nat) (h : i < 11) : 0 ≤ rd (quads d) (i : Int) ∧ rd (quads d) (i : Int) ≤ 3 := by
  obtain ⟨x1, x2, x3, x4, x5, x6, x7, x8, y1, y2, y3, e, h1, h2, h3, h4, h5, h6, h7, h8, g1, g2, g3, _⟩ := quads_form d
  rw [e]
  obtain rfl | rfl | rfl | rfl | rfl | rfl | rfl | rfl | rfl | rfl | rfl : i = 0 ∨ i = 1 ∨ i = 2 ∨ i = 3 ∨ i = 4 ∨ i = 5 ∨ i = 6 ∨ i = 7 ∨ i = 8 ∨ i = 9 ∨ i = 10 := by omega
  all_goals assumption
def sm (q : List Int) : Nat → Int
  | 0 => 0
  | i + 1 => if i < 8 then sm q i + rd q (i : Int) else sm q i
theorem sm_le (d : ByteArray) : ∀ i : Nat, i ≤ 11 → 0 ≤ sm (quads d) i ∧ sm (quads d) i ≤ 3 * (i : Int)
  | 0, _ => by rw [sm]; omega
  | i + 1, h => by
    have h1 := sm_le d i (by omega)
    have h2 := quads_rd d i (by omega)
    rw [sm]
    split <;> omega
theorem sm_all (d : ByteArray) : sm (quads d) 11 + 16 * rd (quads d) 8 + 4 * rd (quads d) 9 + rd (quads d) 10 = 24 := by
  obtain ⟨x1, x2, x3, x4, x5, x6, x7, x8, y1, y2, y3, e, h1, h2, h3, h4, h5, h6, h7, h8, g1, g2, g3, hs⟩ := quads_form d
  rw [e]
  have : sm [x1, x2, x3, x4, x5, x6, x7, x8, y1, y2, y3] 11 = 0 + x1 + x2 + x3 + x4 + x5 + x6 + x7 + x8 := rfl
  rw [this]
  show 0 + x1 + x2 + x3 + x4 + x5 + x6 + x7 + x8 + 16 * y1 + 4 * y2 + y3 = 24
  omega
theorem secret8 (s l i : Int) (h : few s ∧ few l ∧ few i) : (secret s l i).size = 8 := by
  unfold secret
  rw [if_pos h, cutD_size _ _ (by omega)]
theorem allS_allN (s l : Int) (d : ByteArray) : ∀ i : Nat, i ≤ 11 → allS (quads d) (endsN s l (quads d) 11) i = allN s l i
  | 0, _ => rfl
  | i + 1, h => by
    rw [allS, allN, allS_allN s l d i (by omega)]
    congr 1
    unfold chE
    rw [endsN_rd s l _ i (by omega), chain_up _ _ (quads_rd d i (by omega))]
theorem chain8 (n : Nat) (t : ByteArray) (h : t.size = 8) : (chainN n t).size = 8 := by
  cases n with
  | zero => exact h
  | succ n => exact chainN_size _ _ (by omega)
theorem signed_ok (s l : Int) (t : ByteArray) (h : sgOk s l) : signedB (keyOf s) t l (endsN s l (quads (dig t)) 11) (wayOf (tree s) l) = true := by
  obtain ⟨hl, hs⟩ := h
  have hf : Formed.formedB l (endsN s l (quads (dig t)) 11) (wayOf (tree s) l) = true := by
    refine formed_mk hl (endsN_len _ _ _ _) rfl ?_ ?_
    · intro u hu
      unfold endsN at hu
      obtain ⟨i, hi, rfl⟩ := List.mem_map.1 hu
      have := List.mem_range.1 hi
      exact chain8 _ _ (secret8 _ _ _ ⟨hs, ⟨by omega, by omega⟩, ⟨by omega, by omega⟩⟩)
    · intro u hu
      obtain ⟨⟨u1, u2⟩, u3, u4⟩ := four l hl
      unfold wayOf at hu
      simp only [List.mem_cons, List.not_mem_nil, or_false] at hu
      rcases hu with rfl | rfl
      · obtain ⟨n, hn⟩ := Int.eq_ofNat_of_zero_le u1
        rw [hn] at u2 ⊢
        have : n = 0 ∨ n = 1 ∨ n = 2 ∨ n = 3 := by omega
        rcases this with rfl | rfl | rfl | rfl
        all_goals exact leafKey_size _ _
      · obtain ⟨n, hn⟩ := Int.eq_ofNat_of_zero_le u3
        rw [hn] at u4 ⊢
        have : n = 0 ∨ n = 1 := by omega
        rcases this with rfl | rfl
        all_goals exact nodeK_size _ _
  unfold signedB
  rw [if_pos hf, allS_allN s l (dig t) 11 (by omega)]
  have e : climb (cutD ((⟨#[108]⟩ : ByteArray) ++ allN s l 11) 8) l (wayOf (tree s) l) = keyOf s := by
    show climb (leafKey s l) l (wayOf (tree s) l) = keyOf s
    have hh : ∀ x : Int, 0 ≤ x ∧ x ≤ 3 → wrap64 (Int.tdiv x 2) = Int.tdiv x 2 := by
      intro x hx
      obtain rfl | rfl | rfl | rfl : x = 0 ∨ x = 1 ∨ x = 2 ∨ x = 3 := by omega
      all_goals exact w64 (by decide) (by decide)
    unfold wayOf half
    rw [hh l hl]
    obtain rfl | rfl | rfl | rfl : l = 0 ∨ l = 1 ∨ l = 2 ∨ l = 3 := by omega
    all_goals (simp only [climb]; rw [hh _ (by decide)]; rfl)
  rw [e]
  simp
theorem sum24 (S a b c : Int) (hS : 0 ≤ S ∧ S ≤ 3 * ((11 : Nat) : Int)) (ha : 0 ≤ a ∧ a ≤ 3) (hb : 0 ≤ b ∧ b ≤ 3) (hc : 0 ≤ c ∧ c ≤ 3) (h : S + 16 * a + 4 * b + c = 24) : wrap64 (wrap64 (wrap64 (S + wrap64 (16 * a)) + wrap64 (4 * b)) + c) = 24 := by
  rw [show wrap64 (16 * a) = 16 * a from w64 (by omega) (by omega), show wrap64 (4 * b) = 4 * b from w64 (by omega) (by omega), show wrap64 (S + 16 * a) = S + 16 * a from w64 (by omega) (by omega), show wrap64 (S + 16 * a + 4 * b) = S + 16 * a + 4 * b from w64 (by omega) (by omega), show wrap64 (S + 16 * a + 4 * b + c) = S + 16 * a + 4 * b + c from w64 (by omega) (by omega)]
  exact h
theorem sg_l (t : ByteArray) (ht : t.size ≤ 100000) (s l : Int) (h : sgOk s l) : ∀ (d i : Nat), i + d = 11 → Ev (fun k => laws_FnSigns.l0 k t s l true (quads (dig t)) (sm (quads (dig t)) i) (i : Int) l (endsN s l (quads (dig t)) 11) (wayOf (tree s) l)) true := by
  have hq := quads_rd (dig t)
  have hsm := sm_le (dig t)
  have hql := quads_len (dig t)
  have hen := endsN_len s l (quads (dig t)) 11
  intro d
  induction d with
  | zero =>
    intro i hi
    obtain rfl : i = 11 := by omega
    have hall := sm_all (dig t)
    have b8 := hq 8 (by omega)
    have b9 := hq 9 (by omega)
    have b10 := hq 10 (by omega)
    have bs := hsm 11 (by omega)
    have c8 : ((8 : Nat) : Int) = 8 := rfl
    have c9 : ((9 : Nat) : Int) = 9 := rfl
    have c10 : ((10 : Nat) : Int) = 10 := rfl
    rw [c8] at b8
    rw [c9] at b9
    rw [c10] at b10
    refine Ev.step (fun k => by rw [laws_FnSigns.l0]) (evn (by rw [hql]; decide) (evp rfl (evp (by rw [hql]; decide) (evp (by rw [hql]; decide) (evp (by rw [hql]; decide) (evp ?_ ?_))))))
    · exact sum24 _ _ _ _ bs b8 b9 b10 hall
    · refine Ev.bind (impl_KeyOf_is s) (Ev.bind (impl_SignedBy_is (keyOf s) t (by omega) l _ _ (by rw [hen]; omega) (by simp [wayOf])) ?_)
      refine evp (signed_ok s l t h) (Ev.bind (impl_KeyOf_is s) (Ev.bind (spec_KeyOf_is s) (evp rfl ?_)))
      refine Ev.bind (impl_LeafKey_is s l) (Ev.bind (spec_LeafKey_is s l) (evp rfl (Ev.bind (impl_KeyOf_is s) (evs ?_))))
      have : (keyOf s).size = 8 := nodeK_size _ _
      rw [this]
      rfl
  | succ d ih =>
    intro i hi
    have b := hq i (by omega)
    have bs := hsm i (by omega)
    have hs := secret_size s l (i : Int)
    have hj : Ev (fun k => laws_FnSigns.j3 k t s l true (quads (dig t)) (sm (quads (dig t)) (i + 1)) (i : Int) l (endsN s l (quads (dig t)) 11) (wayOf (tree s) l)) true := by
      refine Ev.step (fun k => by rw [laws_FnSigns.j3]) (evp (by omega) (evp (by rw [hen]; omega) (evp (by rw [hql]; omega) ?_)))
      rw [endsN_rd s l _ i (by omega)]
      have hc := chainN_le (chainC (rd (quads (dig t)) (i : Int))) _ hs
      refine Ev.bind (spec_ChainOf_is _ _ (by omega)) (Ev.bind (impl_SecretOf_is s l (i : Int)) (Ev.bind (spec_ChainOf_is _ 3 (by omega)) ?_))
      have e3 : chainC 3 = 3 := rfl
      rw [chain_up _ _ b, e3]
      refine evp rfl ?_
      rw [w64s i (by omega)]
      exact ih (i + 1) (by omega)
    have hj2 : Ev (fun k => laws_FnSigns.j2 k t s l true (quads (dig t)) (sm (quads (dig t)) i) (i : Int) false l (endsN s l (quads (dig t)) 11) (wayOf (tree s) l)) true := by
      refine Ev.step (fun k => by rw [laws_FnSigns.j2]) (evn (by decide) ?_)
      by_cases c : i < 8
      · refine evp (by omega) (evp (by omega) (evp (by rw [hql]; omega) ?_))
        rw [w64 (by omega) (by omega)]
        rw [sm, if_pos c] at hj
        exact hj
      · refine evn (by omega) ?_
        rw [sm, if_neg c] at hj
        exact hj
    refine Ev.step (fun k => by rw [laws_FnSigns.l0]) (evp (by rw [hql]; omega) (evp (by omega) (evn (by omega) ?_)))
    have : decide (rd (quads (dig t)) (i : Int) > 3) = false := decide_eq_false (by omega)
    rw [this]
    exact hj2
theorem FnSigns : laws_FnSigns.Pure := by
  intro l _ hm hl
  have hm' : l.length ≤ 9223372036854775000 := by omega
  refine Ev.rounds (g := fun k => laws_FnSigns.f k l) ?_
  refine evb (show laws_big.f l = some (decide ((l.length : Int) > 1048576)) from rfl) ?_
  by_cases hb : (l.length : Int) > 1048576
  · exact evp (by simpa using hb) (Ev.now _)
  refine evn (by simpa using hb) ?_
  obtain ⟨p, p1, p2, p3⟩ := spec_DrawPlaces_is l hl hm'
  obtain ⟨t, t1, t2⟩ := spec_DrawTextOf_is l hl hm'
  refine Ev.bind p3 (Ev.bind t2 (evp (by omega) (evp (by omega) ?_)))
  have q0 : 0 ≤ rd p 0 ∧ rd p 0 < 10000 := p2 _ (rd_mem p 0 (by omega) (by omega))
  have q1 : 0 ≤ rd p 1 ∧ rd p 1 < 10000 := p2 _ (rd_mem p 1 (by omega) (by omega))
  generalize rd p 0 = s at q0 ⊢
  have hl4 : 0 ≤ Int.tmod (rd p 1) 4 ∧ Int.tmod (rd p 1) 4 ≤ 3 := ⟨Int.tmod_nonneg _ q1.1, by have := Int.tmod_lt_of_pos (rd p 1) (show (0 : Int) < 4 by decide); omega⟩
  generalize Int.tmod (rd p 1) 4 = f at hl4 ⊢
  have hok : sgOk s f := ⟨hl4, by unfold few; omega⟩
  have hsig : sigOf s f t = (f, endsN s f (quads (dig t)) 11, wayOf (tree s) f, true) := by unfold sigOf; rw [if_pos hok]
  refine Ev.bind (impl_SignText_is s f t (by omega)) (Ev.bind (impl_QuadsOf_is t (by omega)) ?_)
  rw [hsig]
  refine evp rfl (evp (by rw [quads_len]; rfl) ?_)
  refine Ev.step (fun k => by rw [laws_FnSigns.j0]) (evn (by rw [endsN_len]; decide) ?_)
  exact sg_l t (by omega) s f hok 11 0 rfl

end Go.Proofs.Ytckjobcagniieaa.Pure
