/-
The law FnSignsTold of the given program answers true at every input: the plain statement that is left when the printed walk has stepped through the code.
Conditions: the bounds of the given row (sizes of texts and lists, numbers of their kinds); none of our own.
-/
import Derived.Test.YtckjobcagniieaaPFnSignsToldx13
import Derived.Laws.BitsAllLaws
import Derived.Test.YtckjobcagniieaaQuadsD
import Derived.Test.YtckjobcagniieaaLevels
import Derived.Test.YtckjobcagniieaaFormed
namespace Go.Proofs.Ytckjobcagniieaa.Pure
open Go.RowKit Go.Proofs.Ytckjobcagniieaa.PFnSignsTold Go.Proofs.YtckjobcagniieaaW.PrintWords Go.Proofs.YtckjobcagniieaaW.PrintLast Go.Proofs.YtckjobcagniieaaW.PrintMore Go.Proofs.Ytckjobcagniieaa.Sha Go.Proofs.Ytckjobcagniieaa.Blk Go.Proofs.Ytckjobcagniieaa.Dig Go.Proofs.Ytckjobcagniieaa.Quads
set_option linter.unusedVariables false

theorem evp {α : Type} {c : Prop} [Decidable c] {f g : Nat → Option α} {r : α} (hc : c) (h : Ev f r) : Ev (fun k => if c then f k else g k) r := Ev.congr (fun _ => if_pos hc) h
theorem evn {α : Type} {c : Prop} [Decidable c] {f g : Nat → Option α} {r : α} (hc : ¬ c) (h : Ev g r) : Ev (fun k => if c then f k else g k) r := Ev.congr (fun _ => if_neg hc) h
theorem evs {α : Type} {x y : α} (h : x = y) : Ev (fun _ => some x) y := by subst h; exact Ev.now _
theorem evc {α : Type} {x : Option α} {y : α} (h : x = some y) : Ev (fun _ => x) y := by subst h; exact Ev.now _
theorem w64 {n : Int} (h1 : -9223372036854775808 ≤ n) (h2 : n ≤ 9223372036854775807) : wrap64 n = n := IntWalk.wrap64_in n ⟨h1, h2⟩
theorem w64n (n : Nat) (h : n ≤ 9223372036854775807) : wrap64 (n : Int) = (n : Int) := w64 (by omega) (by omega)
theorem w64s (n : Nat) (h : n + 1 ≤ 9223372036854775807) : wrap64 ((n : Int) + 1) = ((n + 1 : Nat) : Int) := by rw [w64 (by omega) (by omega)]; rfl
theorem w64a (a b : Nat) (h : a + b ≤ 9223372036854775807) : wrap64 ((a : Int) + (b : Int)) = ((a + b : Nat) : Int) := by rw [w64 (by omega) (by omega)]; rfl
theorem w64m (a b : Nat) (h : a * b ≤ 9223372036854775807) : wrap64 ((a : Int) * (b : Int)) = ((a * b : Nat) : Int) := by
  have e : ((a * b : Nat) : Int) = (a : Int) * (b : Int) := Int.natCast_mul a b
  rw [w64 (by omega) (by omega), e]
theorem wf64 {n : Int} (h : (Lit.int .i64 n).wf = true) : -9223372036854775808 ≤ n ∧ n ≤ 9223372036854775807 := by
  simp [Lit.wf, IntKind.min, IntKind.max, IntKind.bits, IntKind.signed] at h
  omega
theorem bt_lo (s : ByteArray) (i : Int) : 0 ≤ bt s i := (bt_range s i).1
theorem bt_hi (s : ByteArray) (i : Int) : bt s i ≤ 255 := (bt_range s i).2
theorem wfu32 {n : Int} (h : (Lit.int .u32 n).wf = true) : 0 ≤ n ∧ n < 4294967296 := by
  simp [Lit.wf, IntKind.min, IntKind.max, IntKind.bits, IntKind.signed] at h
  omega
theorem evb {α β : Type} {x : Option α} {f : Nat → α → Option β} {a : α} {r : β} (h : x = some a) (k : Ev (fun n => f n a) r) : Ev (fun n => x.bind (f n)) r := Ev.bind (g := fun _ => x) (evc h) k
theorem i64_nat (a b : Nat) (ha : a < 9223372036854775808) (hb : b < 9223372036854775808) : Go.bits .and .i64 (a : Int) (b : Int) = ((a &&& b : Nat) : Int) ∧ Go.bits .or .i64 (a : Int) (b : Int) = ((a ||| b : Nat) : Int) :=
  bits_nat .i64 63 (by decide) (fun m h0 h1 => by rw [IntKind.wrap_i64]; omega) a b ha hb

theorem tl_inj {a b : ByteArray} : a.toList = b.toList ↔ a = b := by
  rw [ByteArray.toList_eq, ByteArray.toList_eq]
  exact ⟨fun h => ByteArray.ext (Array.toList_inj.mp h), fun h => by rw [h]⟩
theorem son_bytesOf (s : ByteArray) : strOfNums (bytesOf s) = s := by
  apply tl_inj.1
  rw [ByteArray.toList_eq, ByteArray.toList_eq, strOfNums_data, bytesOf, List.map_map]
  have : ((fun n : Int => UInt8.ofNat n.toNat) ∘ fun b : UInt8 => (b.toNat : Int)) = id := by
    funext b; simp
  rw [this, List.map_id]
theorem bytesOf_son (l : List Int) (h : ∀ b ∈ l, 0 ≤ b ∧ b ≤ 255) : bytesOf (strOfNums l) = l := by
  rw [bytesOf, strOfNums_data, List.map_map]
  have : l.map ((fun b : UInt8 => (b.toNat : Int)) ∘ fun n : Int => UInt8.ofNat n.toNat) = l.map id := by
    apply List.map_congr_left
    intro b hb
    have := h b hb
    simp only [Function.comp, id, UInt8.toNat_ofNat']
    omega
  rw [this, List.map_id]
theorem bytesOf_inj {a b : ByteArray} (h : bytesOf a = bytesOf b) : a = b := by rw [← son_bytesOf a, ← son_bytesOf b, h]
theorem bytesOf_extract (s : ByteArray) (a b : Nat) : bytesOf (s.extract a b) = ((bytesOf s).drop a).take (b - a) := by
  unfold bytesOf
  rw [ByteArray.data_extract]
  simp [List.map_take, List.map_drop, List.extract]
theorem bytesOf_append (a b : ByteArray) : bytesOf (a ++ b) = bytesOf a ++ bytesOf b := by
  unfold bytesOf
  rw [ByteArray.data_append]
  simp
theorem bytesOf_range (s : ByteArray) : ∀ b ∈ bytesOf s, 0 ≤ b ∧ b ≤ 255 := by
  intro b hb
  unfold bytesOf at hb
  obtain ⟨c, _, rfl⟩ := List.mem_map.1 hb
  have := c.toNat_lt
  omega
theorem bytesOf_drop (s : ByteArray) (i : Nat) (h : i < s.size) : (bytesOf s).drop i = bt s (i : Int) :: (bytesOf s).drop (i + 1) := by
  have hl : i < (bytesOf s).length := by rw [bytesOf_length]; exact h
  rw [List.drop_eq_getElem_cons hl]
  congr 1
  have := rd_bytesOf s (i : Int)
  rw [← this]
  unfold rd
  simp [List.getD_eq_getElem?_getD, hl]
theorem bt_nat (s : ByteArray) (i : Int) : ∃ n : Nat, bt s i = (n : Int) ∧ n < 256 := by
  have h := bt_range s i
  exact ⟨(bt s i).toNat, by omega, by omega⟩

theorem spec_l01In_is (x a b : Int) : spec_l01In.f x a b = some (decide (a ≤ x ∧ x ≤ b)) := by
  unfold spec_l01In.f
  by_cases h : x ≥ a
  · rw [if_pos h]; congr 1; rw [decide_eq_decide]; exact ⟨fun h2 => ⟨h, h2⟩, fun h2 => h2.2⟩
  · rw [if_neg h]; congr 1; symm; rw [decide_eq_false_iff_not]; exact fun h2 => h h2.1

theorem impl_in_is (x a b : Int) : impl_in.f x a b = some (decide (a ≤ x ∧ x ≤ b)) := by
  unfold impl_in.f
  by_cases h : x ≥ a
  · rw [if_pos h]; congr 1; rw [decide_eq_decide]; exact ⟨fun h2 => ⟨h, h2⟩, fun h2 => h2.2⟩
  · rw [if_neg h]; congr 1; symm; rw [decide_eq_false_iff_not]; exact fun h2 => h h2.1

def varNums (n : Nat) : List Int := if n > 127 then ((n % 128 + 128 : Nat) : Int) :: varNums (n / 128) else [(n : Int)]
termination_by n
decreasing_by omega
theorem varNums_small {n : Nat} (h : ¬ n > 127) : varNums n = [(n : Int)] := by rw [varNums, if_neg h]
theorem varNums_big {n : Nat} (h : n > 127) : varNums n = ((n % 128 + 128 : Nat) : Int) :: varNums (n / 128) := by rw [varNums, if_pos h]
theorem varNums_len (d : Nat) : ∀ n : Nat, n < 128 ^ d → 0 < d → (varNums n).length ≤ d := by
  induction d with
  | zero => intro n h h0; omega
  | succ d ih =>
    intro n h _
    by_cases hb : n > 127
    · rw [varNums_big hb]
      have hd : 0 < d := by
        rcases Nat.eq_zero_or_pos d with h0 | h0
        · subst h0; simp at h; omega
        · exact h0
      have := ih (n / 128) (by rw [Nat.pow_succ] at h; omega) hd
      simp; omega
    · rw [varNums_small hb]; simp
def vt (n : Nat) : ByteArray := strOfNums (varNums n)

theorem spec_l01Var_l (d : Nat) : ∀ (n : Nat) (acc : List Int), n < 128 ^ d → n ≤ 9223372036854775807 → acc.length + d < 140737488355328 → Ev (fun k => spec_l01Var.l0 k (n : Int) acc) (strOfNums (acc ++ varNums n)) := by
  induction d with
  | zero =>
    intro n acc h h2 h3
    obtain rfl : n = 0 := by simp at h; omega
    refine Ev.step (fun k => by rw [spec_l01Var.l0]) (evn (by simp) (evp (by omega) (evs ?_)))
    rw [varNums_small (by omega)]; rfl
  | succ d ih =>
    intro n acc h h2 h3
    by_cases hb : n > 127
    · refine Ev.step (fun k => by rw [spec_l01Var.l0]) (evp (by omega) (evp (by omega) ?_))
      have e1 : wrap64 (Int.tdiv (n : Int) 128) = ((n / 128 : Nat) : Int) := by rw [Int.tdiv_eq_ediv_of_nonneg (by omega), w64 (by omega) (by omega)]; rfl
      have e2 : (wrap64 ((Int.tmod (n : Int) 128) + 128)) % 256 = ((n % 128 + 128 : Nat) : Int) := by rw [Int.tmod_eq_emod_of_nonneg (by omega), w64 (by omega) (by omega)]; omega
      rw [e1, e2, varNums_big hb]
      have := ih (n / 128) (acc ++ [((n % 128 + 128 : Nat) : Int)]) (by rw [Nat.pow_succ] at h; omega) (by omega) (by simp; omega)
      rw [List.append_assoc] at this
      exact this
    · refine Ev.step (fun k => by rw [spec_l01Var.l0]) (evn (by omega) (evp (by omega) (evs ?_)))
      rw [varNums_small hb, Int.emod_eq_of_lt (by omega) (by omega)]
theorem spec_l01Var_is (n : Nat) (h : n ≤ 9223372036854775807) : Ev (fun k => spec_l01Var.f k (n : Int)) (vt n) := by
  have := spec_l01Var_l 9 n [] (by omega) h (by simp)
  simpa [spec_l01Var.f, vt] using this

theorem i64_and127 (n : Nat) (h : n ≤ 9223372036854775807) : Go.bits .and .i64 (n : Int) 127 = ((n % 128 : Nat) : Int) := by
  have := (i64_nat n 127 (by omega) (by omega)).1
  rw [nat_mask7] at this
  exact this

theorem i64_or128 (x : Nat) (h : x < 128) : Go.bits .or .i64 (x : Int) 128 = ((x + 128 : Nat) : Int) := by
  have := (i64_nat x 128 (by omega) (by omega)).2
  rw [Nat.or_comm, nat_join 7 128 x (by decide) (by omega), Nat.add_comm] at this
  exact this
theorem impl_varText_l (d : Nat) : ∀ (n : Nat) (acc : List Int), n < 128 ^ d → n ≤ 9223372036854775807 → acc.length + d < 140737488355328 → Ev (fun k => impl_varText.l0 k (n : Int) acc) (strOfNums (acc ++ varNums n)) := by
  induction d with
  | zero =>
    intro n acc h h2 h3
    obtain rfl : n = 0 := by simp at h; omega
    refine Ev.step (fun k => by rw [impl_varText.l0]) (evn (by simp) (evp (by omega) (evs ?_)))
    rw [varNums_small (by omega)]; rfl
  | succ d ih =>
    intro n acc h h2 h3
    by_cases hb : n > 127
    · refine Ev.step (fun k => by rw [impl_varText.l0]) (evp (by omega) (evp (by omega) ?_))
      have e1 : (n : Int) / 128 = ((n / 128 : Nat) : Int) := rfl
      have e2 : (Go.bits .or .i64 (Go.bits .and .i64 (n : Int) 127) 128) % 256 = ((n % 128 + 128 : Nat) : Int) := by rw [i64_and127 n h2, i64_or128 _ (by omega)]; omega
      rw [e1, e2, varNums_big hb]
      have := ih (n / 128) (acc ++ [((n % 128 + 128 : Nat) : Int)]) (by rw [Nat.pow_succ] at h; omega) (by omega) (by simp; omega)
      rw [List.append_assoc] at this
      exact this
    · refine Ev.step (fun k => by rw [impl_varText.l0]) (evn (by omega) (evp (by omega) (evs ?_)))
      rw [varNums_small hb, Int.emod_eq_of_lt (by omega) (by omega)]
theorem impl_varText_is (n : Nat) (h : n ≤ 9223372036854775807) : Ev (fun k => impl_varText.f k (n : Int)) (vt n) := by
  have := impl_varText_l 9 n [] (by omega) h (by simp)
  simpa [impl_varText.f, vt] using this

theorem rd_nat (l : List Int) (i : Nat) (h : i < l.length) : rd l (i : Int) = l[i] := by
  unfold rd
  rw [Int.toNat_natCast, List.getD_eq_getElem?_getD, List.getElem?_eq_getElem h]
  rfl

theorem son_app (a b : List Int) : strOfNums (a ++ b) = strOfNums a ++ strOfNums b := by
  apply tl_inj.1
  rw [ByteArray.toList_eq, ByteArray.toList_eq, ByteArray.data_append, Array.toList_append, strOfNums_data, strOfNums_data, strOfNums_data, List.map_append]
theorem son_byt (s : ByteArray) : strOfNums (Pad.byt s) = s := son_bytesOf s
theorem son_zeros (m : Nat) : strOfNums (List.replicate m 0) = ⟨(List.replicate m (0 : UInt8)).toArray⟩ := by
  apply tl_inj.1
  rw [ByteArray.toList_eq, ByteArray.toList_eq, strOfNums_data, List.map_replicate]
  simp
theorem impl_PadText_l0 (k : Nat) (x : ByteArray) (n : Int) (hx : x.size ≤ 9223372036854775000) : impl_PadText.l0 (k + 9) x n [0, 0, 0, 0, 0, 0, 0, 0] 7 = some (x ++ strOfNums (Pad.be8 n)) := by
  have w7 : wrap64 (7 - 1) = 6 := by unfold wrap64; omega
  have w6 : wrap64 (6 - 1) = 5 := by unfold wrap64; omega
  have w5 : wrap64 (5 - 1) = 4 := by unfold wrap64; omega
  have w4 : wrap64 (4 - 1) = 3 := by unfold wrap64; omega
  have w3 : wrap64 (3 - 1) = 2 := by unfold wrap64; omega
  have w2 : wrap64 (2 - 1) = 1 := by unfold wrap64; omega
  have w1 : wrap64 (1 - 1) = 0 := by unfold wrap64; omega
  have w0 : wrap64 (0 - 1) = -1 := by unfold wrap64; omega
  rw [impl_PadText.l0, if_pos (by decide), if_pos (by decide), if_pos (by simp), w7]
  rw [impl_PadText.l0, if_pos (by decide), if_pos (by decide), if_pos (by simp), w6]
  rw [impl_PadText.l0, if_pos (by decide), if_pos (by decide), if_pos (by simp), w5]
  rw [impl_PadText.l0, if_pos (by decide), if_pos (by decide), if_pos (by simp), w4]
  rw [impl_PadText.l0, if_pos (by decide), if_pos (by decide), if_pos (by simp), w3]
  rw [impl_PadText.l0, if_pos (by decide), if_pos (by decide), if_pos (by simp), w2]
  rw [impl_PadText.l0, if_pos (by decide), if_pos (by decide), if_pos (by simp), w1]
  rw [impl_PadText.l0, if_pos (by decide), if_pos (by decide), if_pos (by simp), w0]
  have e : (((((((([0, 0, 0, 0, 0, 0, 0, 0] : List Int).set (7 : Int).toNat (n % 256)).set (6 : Int).toNat (n / 256 % 256)).set (5 : Int).toNat (n / 256 / 256 % 256)).set (4 : Int).toNat (n / 256 / 256 / 256 % 256)).set (3 : Int).toNat (n / 256 / 256 / 256 / 256 % 256)).set (2 : Int).toNat (n / 256 / 256 / 256 / 256 / 256 % 256)).set (1 : Int).toNat (n / 256 / 256 / 256 / 256 / 256 / 256 % 256)).set (0 : Int).toNat (n / 256 / 256 / 256 / 256 / 256 / 256 / 256 % 256) = Pad.be8 n := by
    show [n / 256 / 256 / 256 / 256 / 256 / 256 / 256 % 256, n / 256 / 256 / 256 / 256 / 256 / 256 % 256, n / 256 / 256 / 256 / 256 / 256 % 256, n / 256 / 256 / 256 / 256 % 256, n / 256 / 256 / 256 % 256, n / 256 / 256 % 256, n / 256 % 256, n % 256] = _
    unfold Pad.be8
    simp only [List.cons.injEq, and_true]
    omega
  rw [e, impl_PadText.l0, if_neg (by decide), if_pos (by rw [strOfNums_size]; show x.size + 8 ≤ _; omega)]
theorem impl_PadText_is (s : ByteArray) (hs : s.size ≤ 140737488351232) : Ev (fun k => impl_PadText.f k s) (strOfNums (Pad.padB s)) := by
  unfold impl_PadText.f
  refine evp (by omega) ?_
  have hz : (s ++ (⟨#[128]⟩ : ByteArray)).size = s.size + 1 := by rw [ByteArray.size_append]; rfl
  rw [hz]
  have hm : (((56 - (((s.size + 1 : Nat) : Int) % 64)) + 64) % 64).toNat = Pad.padK s.size := by unfold Pad.padK; omega
  have hr : strings_Repeat.f (⟨#[0]⟩ : ByteArray) (((56 - (((s.size + 1 : Nat) : Int) % 64)) + 64) % 64) = some (strOfNums (List.replicate (Pad.padK s.size) 0)) := by
    unfold strings_Repeat.f
    rw [if_pos ⟨by omega, by omega, by decide⟩, hm, son_zeros]
    have : Lib.repeatL [(0 : UInt8)] (Pad.padK s.size) = List.replicate (Pad.padK s.size) 0 := by
      have h := Lib.repeatL_replicate (0 : UInt8) 1 (Pad.padK s.size)
      rw [Nat.mul_one] at h
      exact h
    rw [show (⟨#[0]⟩ : ByteArray).data.toList = [(0 : UInt8)] from rfl, this]
  refine evb hr ?_
  have hk : Pad.padK s.size < 64 := by unfold Pad.padK; omega
  have hz2 : (strOfNums (List.replicate (Pad.padK s.size) 0)).size = Pad.padK s.size := by rw [strOfNums_size, List.length_replicate]
  refine evp (by rw [hz2]; omega) (evp (by omega) ?_)
  have hn : wrap64 (8 * (s.size : Int)) = 8 * (s.size : Int) := w64 (by omega) (by omega)
  rw [hn]
  refine ⟨9, fun k hk => ?_⟩
  obtain ⟨m, rfl⟩ : ∃ m, k = m + 9 := ⟨k - 9, by omega⟩
  have h := impl_PadText_l0 m ((s ++ (⟨#[128]⟩ : ByteArray)) ++ strOfNums (List.replicate (Pad.padK s.size) 0)) (8 * (s.size : Int)) (by rw [ByteArray.size_append, hz, hz2]; omega)
  refine Eq.trans h ?_
  congr 1
  unfold Pad.padB
  rw [son_app, son_app, son_app, son_byt]
  rfl

theorem bits_xor_comm (k : IntKind) (a b : Int) : Go.bits .xor k a b = Go.bits .xor k b a := by
  simp only [Go.bits, BitVec.xor_comm]
theorem impl_turn_is (x n : Int) (h0 : 0 ≤ n) (h1 : n ≤ 32) : impl_turn.f x n = some (tn x n) := by
  unfold impl_turn.f
  have e : wrap64 (32 - n) = 32 - n := w64 (by omega) (by omega)
  have b : IntKind.u32.bits = 32 := rfl
  rw [if_pos h0, e, if_pos (by omega)]
  unfold shr shl tn
  rw [b, Nat.min_eq_left (by omega), Nat.min_eq_left (by omega), IntKind.wrap_u32']
theorem impl_schedule_l1 (b : ByteArray) : ∀ (d i : Nat) (p : List Int), i + d = 64 → 16 ≤ i → p.length = i → schedGo d p = sched b → Ev (fun k => impl_schedule.l1 k p (i : Int)) (sched b) := by
  intro d
  induction d with
  | zero =>
    intro i p h1 h2 h3 h4
    refine Ev.step (fun k => by rw [impl_schedule.l1]) (evn (by omega) (evs ?_))
    rw [schedGo] at h4
    exact h4
  | succ d ih =>
    intro i p h1 h2 h3 h4
    have e15 : wrap64 ((i : Int) - 15) = ((p.length : Int) - 15) := by rw [w64 (by omega) (by omega)]; omega
    have e2 : wrap64 ((i : Int) - 2) = ((p.length : Int) - 2) := by rw [w64 (by omega) (by omega)]; omega
    have e16 : wrap64 ((i : Int) - 16) = ((p.length : Int) - 16) := by rw [w64 (by omega) (by omega)]; omega
    have e7 : wrap64 ((i : Int) - 7) = ((p.length : Int) - 7) := by rw [w64 (by omega) (by omega)]; omega
    have e1 : wrap64 ((i : Int) + 1) = ((i + 1 : Nat) : Int) := w64s i (by omega)
    refine Ev.step (fun k => by rw [impl_schedule.l1]) ?_
    simp only [e15, e2, e16, e7, e1]
    refine evp (by omega) (evp (by omega) (evp (by omega) (evp (by omega) (evp (by omega) ?_))))
    refine evb (impl_turn_is _ _ (by omega) (by omega)) (evb (impl_turn_is _ _ (by omega) (by omega)) (evb (impl_turn_is _ _ (by omega) (by omega)) (evb (impl_turn_is _ _ (by omega) (by omega)) ?_)))
    refine evp (by omega) (evp (by omega) (evp (by omega) (evp (by omega) (evp (by omega) ?_))))
    refine Ev.congr (fun k => ?_) (ih (i + 1) (p ++ [nextW' p (p.length : Int)]) (by omega) (by omega) (by rw [List.length_append, h3]; rfl) h4)
    congr 3
    unfold nextW' nextW
    simp only [Int.emod_add_emod]
theorem impl_schedule_l0 (b : ByteArray) (hb : b.size = 64) : ∀ (d i : Nat), i + d = 16 → Ev (fun k => impl_schedule.l0 k b (w16 b i) (i : Int)) (sched b) := by
  intro d
  induction d with
  | zero =>
    intro i h1
    have hi : i = 16 := by omega
    subst hi
    refine Ev.step (fun k => by rw [impl_schedule.l0]) (evn (by decide) ?_)
    exact impl_schedule_l1 b 48 16 (w16 b 16) (by omega) (by omega) (by simp [w16]) rfl
  | succ d ih =>
    intro i h1
    have hl : (w16 b i).length = i := by simp [w16]
    have e0 : wrap64 (4 * (i : Int)) = 4 * (i : Int) := w64 (by omega) (by omega)
    have e1 : wrap64 (4 * (i : Int) + 1) = 4 * (i : Int) + 1 := w64 (by omega) (by omega)
    have e2 : wrap64 (4 * (i : Int) + 2) = 4 * (i : Int) + 2 := w64 (by omega) (by omega)
    have e3 : wrap64 (4 * (i : Int) + 3) = 4 * (i : Int) + 3 := w64 (by omega) (by omega)
    have e5 : wrap64 ((i : Int) + 1) = ((i + 1 : Nat) : Int) := w64s i (by omega)
    refine Ev.step (fun k => by rw [impl_schedule.l0]) ?_
    simp only [e0, e1, e2, e3, e5]
    refine evp (by omega) (evp (by omega) (evp (by omega) (evp (by omega) (evp (by omega) (evp (by omega) (evp (by omega) (evp (by omega) (evp (by omega) (evp (by omega) ?_)))))))))
    refine Ev.congr (fun k => ?_) (ih (i + 1) (by omega))
    have : w16 b (i + 1) = w16 b i ++ [word b (i : Int)] := by simp [w16, List.range_succ]
    rw [this]
    rfl
theorem impl_schedule_is (b : ByteArray) (hb : b.size = 64) : Ev (fun k => impl_schedule.f k b) (sched b) := impl_schedule_l0 b hb 16 0 rfl
theorem impl_ShaBlock_l2 (h s : List Int) (hh : h.length = 8) (hs : s.length = 8) (hr : ∀ x ∈ h, 0 ≤ x ∧ x ≤ 4294967295) : ∀ (d i : Nat), i + d = 8 → Ev (fun k => impl_ShaBlock.l2 k ((fin h s).take i ++ h.drop i) s 8 (i : Int)) (fin h s) := by
  have hf : (fin h s).length = 8 := fin_len hh hs
  intro d
  induction d with
  | zero =>
    intro i h1
    have hi : i = 8 := by omega
    subst hi
    refine Ev.step (fun k => by rw [impl_ShaBlock.l2]) (evn (by decide) (evs ?_))
    rw [List.take_of_length_le (by omega), List.drop_of_length_le (by omega), List.append_nil]
  | succ d ih =>
    intro i h1
    have hl : ((fin h s).take i ++ h.drop i).length = 8 := by rw [List.length_append, List.length_take, List.length_drop]; omega
    refine Ev.step (fun k => by rw [impl_ShaBlock.l2]) ?_
    refine evp (by omega) (evp (by omega) (evp (by omega) (evp (by omega) ?_)))
    rw [w64s i (by omega)]
    refine Ev.congr (fun k => ?_) (ih (i + 1) (by omega))
    rw [← fin_step h s i hh hs (by omega)]
    simp only [Int.toNat_natCast, Int.emod_add_emod]
theorem rnd_is (s : List Int) (k w : Int) : rnd s k w = [((((((((((rd s 7) + (Go.bits .xor .u32 (Go.bits .xor .u32 (tn (rd s 4) 6) (tn (rd s 4) 11)) (tn (rd s 4) 25))) % 4294967296) + (Go.bits .xor .u32 (Go.bits .and .u32 (rd s 4) (rd s 5)) (Go.bits .and .u32 (Go.bits .xor .u32 IntKind.u32.max (rd s 4)) (rd s 6)))) % 4294967296) + k) % 4294967296) + w) % 4294967296) + (((Go.bits .xor .u32 (Go.bits .xor .u32 (tn (rd s 0) 2) (tn (rd s 0) 13)) (tn (rd s 0) 22)) + (Go.bits .xor .u32 (Go.bits .xor .u32 (Go.bits .and .u32 (rd s 0) (rd s 1)) (Go.bits .and .u32 (rd s 0) (rd s 2))) (Go.bits .and .u32 (rd s 1) (rd s 2)))) % 4294967296)) % 4294967296, rd s 0, rd s 1, rd s 2, ((rd s 3) + (((((((((rd s 7) + (Go.bits .xor .u32 (Go.bits .xor .u32 (tn (rd s 4) 6) (tn (rd s 4) 11)) (tn (rd s 4) 25))) % 4294967296) + (Go.bits .xor .u32 (Go.bits .and .u32 (rd s 4) (rd s 5)) (Go.bits .and .u32 (Go.bits .xor .u32 IntKind.u32.max (rd s 4)) (rd s 6)))) % 4294967296) + k) % 4294967296) + w) % 4294967296)) % 4294967296, rd s 4, rd s 5, rd s 6] := by
  have hm : IntKind.u32.max = 4294967295 := rfl
  unfold rnd
  rw [hm, bits_xor_comm .u32 4294967295 (rd s 4)]
  simp only [Int.emod_add_emod, r1, r2]
theorem keys_len : keys.length = 64 := rfl
theorem rndsGo_drop (ks ws s : List Int) (i : Nat) (h1 : i < ks.length) (h2 : i < ws.length) : rndsGo (ks.drop i) (ws.drop i) s = rndsGo (ks.drop (i + 1)) (ws.drop (i + 1)) (rnd s (rd ks (i : Int)) (rd ws (i : Int))) := by
  rw [drop_rd ks i h1, drop_rd ws i h2, rndsGo]
theorem impl_ShaBlock_l1 (h : List Int) (ws t : List Int) (hw : ws.length = 64) (hh : h.length = 8) (hr : ∀ x ∈ h, 0 ≤ x ∧ x ≤ 4294967295) : ∀ (d i : Nat) (s : List Int), i + d = 64 → s.length = 8 → rndsGo (keys.drop i) (ws.drop i) s = t → Ev (fun k => impl_ShaBlock.l1 k h s keys ws 64 (i : Int)) (fin h t) := by
  intro d
  induction d with
  | zero =>
    intro i s h1 h2 h3
    have hi : i = 64 := by omega
    subst hi
    refine Ev.step (fun k => by rw [impl_ShaBlock.l1]) (evn (by decide) ?_)
    rw [List.drop_of_length_le (by rw [keys_len]; exact Nat.le_refl _), rndsGo_nil] at h3
    subst h3
    have := impl_ShaBlock_l2 h s hh h2 hr 8 0 rfl
    rw [List.take_zero, List.drop_zero, List.nil_append] at this
    rw [h2]
    exact this
  | succ d ih =>
    intro i s h1 h2 h3
    have hk := keys_len
    refine Ev.step (fun k => by rw [impl_ShaBlock.l1]) ?_
    refine evp (by omega) (evp (by omega) (evp (by omega) (evp (by omega) (evp (by omega) (evp (by omega) ?_)))))
    refine evb (impl_turn_is _ _ (by omega) (by omega)) (evb (impl_turn_is _ _ (by omega) (by omega)) (evb (impl_turn_is _ _ (by omega) (by omega)) ?_))
    refine evp (by omega) (evp (by omega) (evp (by omega) ?_))
    refine evb (impl_turn_is _ _ (by omega) (by omega)) (evb (impl_turn_is _ _ (by omega) (by omega)) (evb (impl_turn_is _ _ (by omega) (by omega)) ?_))
    refine evp (by omega) (evp (by omega) (evp (by omega) ?_))
    rw [← rnd_is, w64s i (by omega)]
    refine ih (i + 1) _ (by omega) (rnd_len _ _ _) ?_
    rw [← h3]
    exact (rndsGo_drop keys ws s i (by omega) (by omega)).symm
def shaB (h : List Int) (b : ByteArray) : List Int := if h.length = 8 ∧ b.size = 64 ∧ (∀ x ∈ h, 0 ≤ x ∧ x ≤ 4294967295) then blk h b else h
theorem impl_rounds_is : impl_rounds.f = some keys := rfl
theorem impl_ShaBlock_l0 (h : List Int) (b : ByteArray) (hb : b.size = 64) (hh : h.length = 8) : ∀ (d i : Nat), i + d = 8 → (∀ j, j < i → 0 ≤ rd h (j : Int) ∧ rd h (j : Int) ≤ 4294967295) → Ev (fun k => impl_ShaBlock.l0 k b h (h.take i ++ List.replicate (8 - i) 0) h 8 (i : Int)) (shaB h b) := by
  intro d
  induction d with
  | zero =>
    intro i h1 h2
    have hi : i = 8 := by omega
    subst hi
    have hr : ∀ x ∈ h, 0 ≤ x ∧ x ≤ 4294967295 := by
      intro x hx
      obtain ⟨j, hj, rfl⟩ := List.mem_iff_getElem.1 hx
      have := h2 j (by omega)
      rwa [rd_nat h j hj] at this
    refine Ev.step (fun k => by rw [impl_ShaBlock.l0]) (evn (by decide) (evb impl_rounds_is (Ev.bind (impl_schedule_is b hb) ?_)))
    have e : shaB h b = fin h (rndsGo keys (sched b) h) := by unfold shaB; rw [if_pos ⟨hh, hb, hr⟩]; rfl
    rw [e, sched_len, List.take_of_length_le (by omega), show 8 - 8 = 0 from rfl, List.replicate_zero, List.append_nil]
    exact impl_ShaBlock_l1 h (sched b) _ (sched_len b) hh hr 64 0 h rfl hh rfl
  | succ d ih =>
    intro i h1 h2
    have hl : (h.take i ++ List.replicate (8 - i) (0 : Int)).length = 8 := by rw [List.length_append, List.length_take, List.length_replicate]; omega
    refine Ev.step (fun k => by rw [impl_ShaBlock.l0]) ?_
    refine evp (by omega) (evp (by omega) (evp (by omega) (evb (impl_in_is _ _ _) ?_)))
    by_cases hc : 0 ≤ rd h (i : Int) ∧ rd h (i : Int) ≤ 4294967295
    · refine evp (decide_eq_true hc) (evp (by omega) ?_)
      rw [w64s i (by omega)]
      refine Ev.congr (fun k => ?_) (ih (i + 1) (by omega) ?_)
      · congr 1
        rw [Int.emod_eq_of_lt hc.1 (by omega), Int.toNat_natCast, List.set_append_right _ _ (by rw [List.length_take]; omega), List.length_take, show i - min i h.length = 0 by omega, show 8 - i = (8 - (i + 1)) + 1 by omega, List.replicate_succ, List.set_cons_zero, List.take_succ_eq_append_getElem (by omega : i < h.length), List.append_assoc, rd_nat h i (by omega)]
        rfl
      · intro j hj
        by_cases hji : j = i
        · subst hji; exact hc
        · exact h2 j (by omega)
    · refine evn (by rw [decide_eq_false hc]; simp) (evs ?_)
      unfold shaB
      rw [if_neg]
      rintro ⟨_, _, hr⟩
      exact hc (by rw [rd_nat h i (by omega)]; exact hr _ (List.getElem_mem _))
theorem impl_ShaBlock_is (h : List Int) (b : ByteArray) (hl : h.length < 17592186044416) : Ev (fun k => impl_ShaBlock.f k h b) (shaB h b) := by
  unfold impl_ShaBlock.f
  refine evb rfl (evp (by simpa using hl) (evb rfl ?_))
  rw [List.nil_append]
  by_cases h8 : h.length = 8
  · refine evp (by omega) (Ev.step (fun k => by rw [impl_ShaBlock.j0]) ?_)
    by_cases hb : b.size = 64
    · refine evn (by simp [hb]) (evp (by omega) ?_)
      rw [h8]
      exact impl_ShaBlock_l0 h b hb h8 8 0 rfl (fun j hj => by omega)
    · refine evp (by simp; omega) (evs ?_)
      unfold shaB
      rw [if_neg (fun hc => hb hc.2.1)]
  · refine evn (by omega) (Ev.step (fun k => by rw [impl_ShaBlock.j0]) (evp rfl (evs ?_)))
    unfold shaB
    rw [if_neg (fun hc => h8 hc.1)]

theorem shaB_blk (h : List Int) (b : ByteArray) (h8 : h.length = 8) (hb : b.size = 64) (hr : ∀ x ∈ h, 0 ≤ x ∧ x ≤ 4294967295) : shaB h b = blk h b := by unfold shaB; rw [if_pos ⟨h8, hb, hr⟩]
theorem impl_Digest_l1 (h : List Int) (h8 : h.length = 8) : ∀ (d i : Nat), i + d = 8 → Ev (fun k => impl_Digest.l1 k (digB (h.take i)) h 8 (i : Int)) (strOfNums (digB h)) := by
  intro d
  induction d with
  | zero =>
    intro i h1
    have hi : i = 8 := by omega
    subst hi
    refine Ev.step (fun k => by rw [impl_Digest.l1]) (evn (by decide) (evs ?_))
    rw [List.take_of_length_le (by omega)]
  | succ d ih =>
    intro i h1
    refine Ev.step (fun k => by rw [impl_Digest.l1]) ?_
    have hl : (digB (h.take i)).length = 4 * i := by rw [digB_len, List.length_take]; omega
    refine evp (by omega) (evp (by omega) (evp (by omega) (evb rfl (evp ?_ ?_))))
    · rw [hl]; simp; omega
    · rw [w64s i (by omega)]
      refine Ev.congr (fun k => ?_) (ih (i + 1) (by omega))
      rw [List.take_succ_eq_append_getElem (by omega : i < h.length), digB_app, ← rd_nat h i (by omega)]
      rfl
theorem impl_Digest_l0 (p : ByteArray) (m : Nat) (hp : p.size = 64 * m) (hm : p.size ≤ 140737488355328) (t : List Int) : ∀ (d i : Nat) (h : List Int), i + d = m → h.length = 8 → (∀ x ∈ h, 0 ≤ x ∧ x ≤ 4294967295) → blocksGo d h p (64 * i) = t → Ev (fun k => impl_Digest.l0 k h p ((64 * i : Nat) : Int)) (strOfNums (digB t)) := by
  intro d
  induction d with
  | zero =>
    intro i h h1 h8 hr ht
    refine Ev.step (fun k => by rw [impl_Digest.l0]) (evn (by omega) ?_)
    rw [blocksGo] at ht
    subst ht
    rw [h8]
    exact impl_Digest_l1 h h8 8 0 rfl
  | succ d ih =>
    intro i h h1 h8 hr ht
    have e : wrap64 (((64 * i : Nat) : Int) + 64) = ((64 * (i + 1) : Nat) : Int) := by rw [w64 (by omega) (by omega)]; omega
    have hb : (p.extract (64 * i) (64 * i + 64)).size = 64 := by rw [ByteArray.size_extract]; omega
    refine Ev.step (fun k => by rw [impl_Digest.l0]) ?_
    rw [e]
    refine evp (by omega) (evp (by omega) (evp (by omega) (evp (by omega) ?_)))
    rw [Int.toNat_natCast, Int.toNat_natCast, show 64 * (i + 1) = 64 * i + 64 by omega]
    refine Ev.bind (impl_ShaBlock_is h _ (by omega)) ?_
    rw [shaB_blk h _ h8 hb hr]
    have hs := rndsGo_len keys (sched (p.extract (64 * i) (64 * i + 64))) h h8
    have := ih (i + 1) (blk h (p.extract (64 * i) (64 * i + 64))) (by omega) (blk_len _ h8) fin_range ?_
    · rw [show 64 * (i + 1) = 64 * i + 64 by omega] at this
      exact this
    · rw [← ht, blocksGo]
      rfl
theorem impl_Digest_is (s : ByteArray) (hs : s.size ≤ 140737488351232) : Ev (fun k => impl_Digest.f k s) (dig s) := by
  unfold impl_Digest.f
  refine evb (a := first) rfl (Ev.bind (impl_PadText_is s hs) ?_)
  have hsz : (strOfNums (Pad.padB s)).size = 64 * ((s.size + 9 + Pad.padK s.size) / 64) := by rw [strOfNums_size, padB_len]
  have hk : Pad.padK s.size < 64 := by unfold Pad.padK; omega
  exact impl_Digest_l0 (strOfNums (Pad.padB s)) _ hsz (by rw [hsz]; omega) _ _ 0 first (Nat.zero_add _) rfl (by decide) rfl
theorem blocksGo_len : ∀ (d : Nat) (h : List Int) (p : ByteArray) (i : Nat), h.length = 8 → (blocksGo d h p i).length = 8
  | 0, _, _, _, h => h
  | d + 1, h, p, i, h8 => blocksGo_len d _ p _ (blk_len _ h8)
theorem dig_size (s : ByteArray) : (dig s).size = 32 := by
  unfold dig
  rw [strOfNums_size, digB_len, blocksGo_len _ _ _ _ rfl]

theorem spec_Digest_is (s : ByteArray) (hs : s.size ≤ 140737488351232) : spec_Digest.f s = some (dig s) := by
  unfold spec_Digest.f
  rw [if_pos hs]

def cutD (s : ByteArray) (n : Nat) : ByteArray := (dig s).extract 0 n
theorem cutD_size (s : ByteArray) (n : Nat) (h : n ≤ 32) : (cutD s n).size = n := by
  unfold cutD
  rw [ByteArray.size_extract, dig_size]
  omega
def cutW (s : ByteArray) (w : Int) : ByteArray := if 1 ≤ w ∧ w ≤ 32 then cutD s w.toNat else ⟨#[]⟩
theorem impl_CutDigest_is (s : ByteArray) (w : Int) (hs : s.size ≤ 140737488351232) : Ev (fun k => impl_CutDigest.f k s w) (cutW s w) := by
  unfold impl_CutDigest.f cutW
  refine evb (impl_in_is _ _ _) ?_
  by_cases h : 1 ≤ w ∧ w ≤ 32
  · rw [if_pos h]
    refine evp (by simpa using h) (Ev.bind (impl_Digest_is s hs) (evp (by omega) (evp (by rw [dig_size]; omega) (evs rfl))))
  · rw [if_neg h]
    exact evn (by simpa using h) (evs rfl)

theorem spec_CutDigest_is (s : ByteArray) (w : Int) (hs : s.size ≤ 140737488351232) : spec_CutDigest.f s w = some (cutW s w) := by
  unfold spec_CutDigest.f cutW
  rw [spec_l01In_is, Option.bind_some]
  by_cases h : 1 ≤ w ∧ w ≤ 32
  · rw [if_pos (by simpa using h), if_pos h, spec_Digest_is s hs, Option.bind_some, if_pos (by omega), if_pos (by rw [dig_size]; omega)]
    rfl
  · rw [if_neg (by simpa using h), if_neg h]

theorem spec_l04Cut_is (s : ByteArray) (hs : s.size ≤ 140737488351232) : spec_l04Cut.f s = some (cutD s 8) := by
  unfold spec_l04Cut.f
  rw [spec_CutDigest_is s 8 hs]
  rfl
theorem impl_short_is (c : Int) (s : ByteArray) (hs : s.size ≤ 140737488350000) : Ev (fun k => impl_short.f k c s) (cutD (strOfNums [c] ++ s) 8) := by
  unfold impl_short.f
  have h1 : (strOfNums [c]).size = 1 := by rw [strOfNums_size]; rfl
  refine evb rfl (evp (by rw [h1]; omega) ?_)
  refine Ev.bind (impl_CutDigest_is _ 8 (by rw [ByteArray.size_append, h1]; omega)) (evs rfl)

theorem vt_size (n : Nat) (h : n < 128 ^ 9) : (vt n).size ≤ 9 := by unfold vt; rw [strOfNums_size]; exact varNums_len 9 n h (by omega)
theorem vt_few {n : Int} (h : 0 ≤ n ∧ n ≤ 1000000) : (vt n.toNat).size ≤ 9 := vt_size _ (by omega)
theorem spec_Var_few {n : Int} (h : 0 ≤ n ∧ n ≤ 1000000) : Ev (fun k => spec_l01Var.f k n) (vt n.toNat) := by
  have := spec_l01Var_is n.toNat (by omega)
  rwa [Int.toNat_of_nonneg h.1] at this
theorem impl_Var_few {n : Int} (h : 0 ≤ n ∧ n ≤ 1000000) : Ev (fun k => impl_varText.f k n) (vt n.toNat) := by
  have := impl_varText_is n.toNat (by omega)
  rwa [Int.toNat_of_nonneg h.1] at this
def few (n : Int) : Prop := 0 ≤ n ∧ n ≤ 1000000
instance (n : Int) : Decidable (few n) := by unfold few; exact inferInstance
def secret (a b c : Int) : ByteArray := if few a ∧ few b ∧ few c then cutD ((⟨#[115]⟩ : ByteArray) ++ vt a.toNat ++ vt b.toNat ++ vt c.toNat) 8 else ⟨#[]⟩
theorem secret_size (a b c : Int) : (secret a b c).size ≤ 8 := by
  unfold secret
  split
  · rw [cutD_size _ _ (by omega)]; omega
  · show 0 ≤ 8; omega
theorem spec_Few_is (n : Int) : spec_l04Few.f n = some (decide (few n)) := by
  unfold spec_l04Few.f
  rw [spec_l01In_is]
  rfl
theorem size115 (t : ByteArray) : ((⟨#[115]⟩ : ByteArray) ++ t).size = 1 + t.size := by rw [ByteArray.size_append]; rfl
theorem spec_Secret_j (a b c : Int) (x : Bool) (hx : x = ! decide (few a ∧ few b ∧ few c)) : Ev (fun k => spec_SecretOf.j0 k a b c x) (secret a b c) := by
  refine Ev.step (fun k => by rw [spec_SecretOf.j0]) ?_
  subst hx
  by_cases h : few a ∧ few b ∧ few c
  · have ha := vt_few h.1
    have hb := vt_few h.2.1
    have hc := vt_few h.2.2
    refine evn (by simp [h]) (Ev.bind (spec_Var_few h.1) (evp (by omega) (Ev.bind (spec_Var_few h.2.1) (evp (by rw [size115]; omega) (Ev.bind (spec_Var_few h.2.2) (evp (by rw [ByteArray.size_append, size115]; omega) ?_))))))
    refine evb (spec_l04Cut_is _ (by rw [ByteArray.size_append, ByteArray.size_append, size115]; omega)) (evs ?_)
    unfold secret
    rw [if_pos h]
  · refine evp (by rw [decide_eq_false h]; rfl) (evs ?_)
    unfold secret
    rw [if_neg h]
theorem spec_SecretOf_is (a b c : Int) : Ev (fun k => spec_SecretOf.f k a b c) (secret a b c) := by
  unfold spec_SecretOf.f
  refine evb (spec_Few_is a) ?_
  by_cases ha : few a
  · refine evp (by simp [ha]) (evb (spec_Few_is b) ?_)
    by_cases hb : few b
    · exact evp (by simp [hb]) (evb (spec_Few_is c) (spec_Secret_j a b c _ (by simp [ha, hb])))
    · exact evn (by simp [hb]) (spec_Secret_j a b c _ (by simp [hb]))
  · exact evn (by simp [ha]) (spec_Secret_j a b c _ (by simp [ha]))
theorem impl_Secret_j (a b c : Int) (x : Bool) (hx : x = ! decide (few a ∧ few b ∧ few c)) : Ev (fun k => impl_SecretOf.j0 k a b c x) (secret a b c) := by
  refine Ev.step (fun k => by rw [impl_SecretOf.j0]) ?_
  subst hx
  by_cases h : few a ∧ few b ∧ few c
  · have ha := vt_few h.1
    have hb := vt_few h.2.1
    have hc := vt_few h.2.2
    refine evn (by simp [h]) (Ev.bind (impl_Var_few h.1) (Ev.bind (impl_Var_few h.2.1) (evp (by omega) (Ev.bind (impl_Var_few h.2.2) (evp (by rw [ByteArray.size_append]; omega) ?_)))))
    refine Ev.bind (impl_short_is 115 _ (by rw [ByteArray.size_append, ByteArray.size_append]; omega)) (evs ?_)
    unfold secret
    rw [if_pos h, ByteArray.append_assoc, ByteArray.append_assoc, ByteArray.append_assoc]
    rfl
  · refine evp (by rw [decide_eq_false h]; rfl) (evs ?_)
    unfold secret
    rw [if_neg h]
theorem impl_SecretOf_is (a b c : Int) : Ev (fun k => impl_SecretOf.f k a b c) (secret a b c) := by
  unfold impl_SecretOf.f
  refine evb (impl_in_is a _ _) ?_
  by_cases ha : few a
  · refine evp (decide_eq_true ha) (evb (impl_in_is b _ _) ?_)
    by_cases hb : few b
    · refine evp (decide_eq_true hb) (evb (impl_in_is c _ _) (impl_Secret_j a b c _ ?_))
      have e : decide (0 ≤ c ∧ c ≤ 1000000) = decide (few c) := rfl
      rw [e]
      simp [ha, hb]
    · exact evn (fun h => hb (of_decide_eq_true h)) (impl_Secret_j a b c _ (by simp [hb]))
  · exact evn (fun h => ha (of_decide_eq_true h)) (impl_Secret_j a b c _ (by simp [ha]))

def chainN : Nat → ByteArray → ByteArray
  | 0, t => t
  | n + 1, t => chainN n (cutD ((⟨#[99]⟩ : ByteArray) ++ t) 8)
theorem size99 (t : ByteArray) : ((⟨#[99]⟩ : ByteArray) ++ t).size = 1 + t.size := by rw [ByteArray.size_append]; rfl
def chainC (n : Int) : Nat := (min n 3).toNat
theorem spec_ChainOf_l (n : Int) : ∀ (d i : Nat) (t : ByteArray), i + d = chainC n → t.size ≤ 140737488350000 → Ev (fun k => spec_ChainOf.l0 k t n (i : Int)) (chainN d t) := by
  intro d
  induction d with
  | zero =>
    intro i t h _
    refine Ev.step (fun k => by rw [spec_ChainOf.l0]) ?_
    unfold chainC at h
    by_cases h1 : (i : Int) < n
    · exact evp h1 (evn (by omega) (evs rfl))
    · exact evn h1 (evs rfl)
  | succ d ih =>
    intro i t h ht
    refine Ev.step (fun k => by rw [spec_ChainOf.l0]) ?_
    have h' := h
    unfold chainC at h'
    refine evp (by omega) (evp (by omega) (evp (by omega) (evb (spec_l04Cut_is _ (by rw [size99]; omega)) ?_)))
    rw [w64s i (by omega)]
    exact ih (i + 1) _ (by omega) (by rw [cutD_size _ _ (by omega)]; omega)
theorem spec_ChainOf_is (t : ByteArray) (n : Int) (ht : t.size ≤ 140737488350000) : Ev (fun k => spec_ChainOf.f k t n) (chainN (chainC n) t) := spec_ChainOf_l n (chainC n) 0 t (Nat.zero_add _) ht
theorem impl_ChainOf_l (c : Nat) (hc : c ≤ 3) : ∀ (d i : Nat) (t : ByteArray), i + d = c → t.size ≤ 140737488350000 → Ev (fun k => impl_ChainOf.l0 k t (c : Int) (i : Int)) (chainN d t) := by
  intro d
  induction d with
  | zero =>
    intro i t h _
    refine Ev.step (fun k => by rw [impl_ChainOf.l0]) ?_
    exact evn (by omega) (evs rfl)
  | succ d ih =>
    intro i t h ht
    refine Ev.step (fun k => by rw [impl_ChainOf.l0]) ?_
    refine evp (by omega) (Ev.bind (impl_short_is 99 t ht) ?_)
    rw [w64s i (by omega)]
    exact ih (i + 1) _ (by omega) (by rw [cutD_size _ _ (by omega)]; omega)
theorem impl_ChainOf_is (t : ByteArray) (n : Int) (ht : t.size ≤ 140737488350000) : Ev (fun k => impl_ChainOf.f k t n) (chainN (chainC n) t) := by
  unfold impl_ChainOf.f
  have e : mx 0 (mn n 3) = (chainC n : Int) := by unfold mx mn chainC; omega
  rw [e]
  exact impl_ChainOf_l (chainC n) (by unfold chainC; omega) (chainC n) 0 t (Nat.zero_add _) ht
theorem chainN_size : ∀ (n : Nat) (t : ByteArray), 0 < n → (chainN n t).size = 8
  | 0, _, h => absurd h (by omega)
  | 1, t, _ => cutD_size _ _ (by omega)
  | n + 2, t, _ => chainN_size (n + 1) _ (by omega)

def allN (a b : Int) : Nat → ByteArray
  | 0 => ⟨#[]⟩
  | i + 1 => allN a b i ++ chainN 3 (secret a b (i : Int))
theorem allN_size (a b : Int) : ∀ i : Nat, (allN a b i).size = 8 * i
  | 0 => rfl
  | i + 1 => by rw [allN, ByteArray.size_append, allN_size a b i, chainN_size _ _ (by omega)]; omega
def leafKey (a b : Int) : ByteArray := cutD ((⟨#[108]⟩ : ByteArray) ++ allN a b 11) 8
theorem size108 (t : ByteArray) : ((⟨#[108]⟩ : ByteArray) ++ t).size = 1 + t.size := by rw [ByteArray.size_append]; rfl
theorem spec_LeafKey_l (a b : Int) : ∀ (d i : Nat), i + d = 11 → Ev (fun k => spec_LeafKey.l0 k a b ((⟨#[108]⟩ : ByteArray) ++ allN a b i) (i : Int)) (leafKey a b) := by
  intro d
  induction d with
  | zero =>
    intro i h
    have hi : i = 11 := by omega
    subst hi
    refine Ev.step (fun k => by rw [spec_LeafKey.l0]) (evn (by omega) ?_)
    exact evb (spec_l04Cut_is _ (by rw [size108, allN_size]; omega)) (evs rfl)
  | succ d ih =>
    intro i h
    refine Ev.step (fun k => by rw [spec_LeafKey.l0]) (evp (by omega) ?_)
    have hs := secret_size a b (i : Int)
    refine Ev.bind (spec_SecretOf_is a b (i : Int)) (Ev.bind (spec_ChainOf_is _ 3 (by omega)) ?_)
    have e : chainC 3 = 3 := rfl
    rw [e]
    refine evp (by rw [size108, allN_size, chainN_size _ _ (by omega)]; omega) ?_
    rw [w64s i (by omega), ByteArray.append_assoc]
    exact ih (i + 1) (by omega)
theorem spec_LeafKey_is (a b : Int) : Ev (fun k => spec_LeafKey.f k a b) (leafKey a b) := spec_LeafKey_l a b 11 0 rfl
theorem impl_LeafKey_l (a b : Int) : ∀ (d i : Nat), i + d = 11 → Ev (fun k => impl_LeafKey.l0 k a b (allN a b i) (i : Int)) (leafKey a b) := by
  intro d
  induction d with
  | zero =>
    intro i h
    have hi : i = 11 := by omega
    subst hi
    refine Ev.step (fun k => by rw [impl_LeafKey.l0]) (evn (by omega) ?_)
    exact Ev.bind (impl_short_is 108 _ (by rw [allN_size]; omega)) (evs rfl)
  | succ d ih =>
    intro i h
    refine Ev.step (fun k => by rw [impl_LeafKey.l0]) (evp (by omega) ?_)
    have hs := secret_size a b (i : Int)
    refine Ev.bind (impl_SecretOf_is a b (i : Int)) (Ev.bind (impl_ChainOf_is _ 3 (by omega)) ?_)
    have e : chainC 3 = 3 := rfl
    rw [e]
    refine evp (by rw [allN_size, chainN_size _ _ (by omega)]; omega) ?_
    rw [w64s i (by omega)]
    exact ih (i + 1) (by omega)
theorem impl_LeafKey_is (a b : Int) : Ev (fun k => impl_LeafKey.f k a b) (leafKey a b) := impl_LeafKey_l a b 11 0 rfl

def nodeK (x y : ByteArray) : ByteArray := cutD ((⟨#[110]⟩ : ByteArray) ++ (x ++ y)) 8
theorem leafKey_size (a b : Int) : (leafKey a b).size = 8 := cutD_size _ 8 (by omega)
theorem nodeK_size (x y : ByteArray) : (nodeK x y).size = 8 := cutD_size _ 8 (by omega)
def tree (s : Int) : List (List ByteArray) :=
  [[leafKey s 0, leafKey s 1, leafKey s 2, leafKey s 3], [nodeK (leafKey s 0) (leafKey s 1), nodeK (leafKey s 2) (leafKey s 3)], [nodeK (nodeK (leafKey s 0) (leafKey s 1)) (nodeK (leafKey s 2) (leafKey s 3))]]
def keyOf (s : Int) : ByteArray := nodeK (nodeK (leafKey s 0) (leafKey s 1)) (nodeK (leafKey s 2) (leafKey s 3))
theorem spec_node (x y : ByteArray) (hx : x.size = 8) (hy : y.size = 8) : spec_l04Cut.f (((⟨#[110]⟩ : ByteArray) ++ x) ++ y) = some (nodeK x y) := by
  rw [spec_l04Cut_is _ (by rw [ByteArray.size_append, ByteArray.size_append, hx, hy]; decide), ByteArray.append_assoc]
  rfl
theorem impl_node (x y : ByteArray) (hx : x.size = 8) (hy : y.size = 8) : Ev (fun k => impl_short.f k 110 (x ++ y)) (nodeK x y) := impl_short_is 110 _ (by rw [ByteArray.size_append, hx, hy]; decide)
theorem sz8 {x : ByteArray} (h : x.size = 8) : x.size ≤ 1000 := by omega
theorem spec_l04Rows_is (s : Int) : Ev (fun k => spec_l04Rows.f k s) (tree s) := by
  unfold spec_l04Rows.f Levels.treeOf
  have l := fun i => leafKey_size s i
  refine Ev.bind (spec_LeafKey_is s 0) (Ev.bind (spec_LeafKey_is s 1) (Ev.bind (spec_LeafKey_is s 2) (Ev.bind (spec_LeafKey_is s 3) ?_)))
  refine evb (spec_node _ _ (l _) (l _)) (evb (spec_node _ _ (l _) (l _)) (evb (spec_node _ _ (nodeK_size _ _) (nodeK_size _ _)) ?_))
  exact evp ⟨sz8 (l _), sz8 (l _), sz8 (l _), sz8 (l _), sz8 (nodeK_size _ _), sz8 (nodeK_size _ _), sz8 (nodeK_size _ _)⟩ (Ev.now _)
theorem impl_levels_is (s : Int) : Ev (fun k => impl_levels.f k s) (tree s) := by
  unfold impl_levels.f Levels.treeOf
  have l := fun i => leafKey_size s i
  refine Ev.bind (impl_LeafKey_is s 0) (Ev.bind (impl_LeafKey_is s 1) (Ev.bind (impl_LeafKey_is s 2) (Ev.bind (impl_LeafKey_is s 3) ?_)))
  refine Ev.bind (impl_node _ _ (l _) (l _)) (Ev.bind (impl_node _ _ (l _) (l _)) (Ev.bind (impl_node _ _ (nodeK_size _ _) (nodeK_size _ _)) ?_))
  exact evp ⟨sz8 (l _), sz8 (l _), sz8 (l _), sz8 (l _), sz8 (nodeK_size _ _), sz8 (nodeK_size _ _), sz8 (nodeK_size _ _)⟩ (Ev.now _)

theorem spec_KeyOf_is (s : Int) : Ev (fun k => spec_KeyOf.f k s) (keyOf s) := by
  unfold spec_KeyOf.f
  refine Ev.bind (spec_l04Rows_is s) ?_
  have e : wrap64 (((tree s).length : Int) - 1) = 2 := (w64 (n := (3 : Int) - 1) (by decide) (by decide)).trans (by decide)
  rw [e]
  exact evp (by decide) (evp (by show (2 : Int) < 3; decide) (evp (by show (0 : Int) < 1; decide) (Ev.now _)))
theorem i64_and3 (n : Nat) (h : n ≤ 9223372036854775807) : Go.bits .and .i64 (n : Int) 3 = ((n % 4 : Nat) : Int) := by
  have := (i64_nat n 3 (by omega) (by omega)).1
  rw [nat_mask2] at this
  exact this
def qn (n : Nat) : List Int := [((n / 64 % 4 : Nat) : Int), ((n / 16 % 4 : Nat) : Int), ((n / 4 % 4 : Nat) : Int), ((n % 4 : Nat) : Int)]
def qs (n : Nat) : Int := ((n / 64 % 4 + n / 16 % 4 + n / 4 % 4 + n % 4 : Nat) : Int)
theorem quadL_nat (n : Nat) (h : n < 256) : quadL (n : Int) = qn n := by
  have a := i64_and3 (n / 64) (by omega)
  have b := i64_and3 (n / 16) (by omega)
  have c := i64_and3 (n / 4) (by omega)
  have d := i64_and3 n (by omega)
  unfold quadL qn
  rw [← a, ← b, ← c, ← d]
  rfl
theorem qval (n s : Nat) (m : Int) (hn : n < 256) (hm : m = (s : Int)) (hs : s ≤ 6) (hu : IntKind.u64.wrap m = m) : Go.bits .and .i64 (shr .i64 (wrap64 (n : Int)) (IntKind.u64.wrap m)) 3 = ((n / 2 ^ s % 4 : Nat) : Int) := by
  rw [hu, hm, w64 (by omega) (by omega)]
  unfold shr
  have b : IntKind.i64.bits = 64 := rfl
  rw [b, Int.toNat_natCast, Nat.min_eq_left (by omega)]
  have e : (n : Int) / 2 ^ s = ((n / 2 ^ s : Nat) : Int) := by norm_cast
  rw [e]
  exact i64_and3 _ (Nat.le_trans (Nat.div_le_self _ _) (by omega))
theorem spec_Quads_l1 (d : ByteArray) (hd : d.size = 32) (i : Nat) (hi : i < 2) (n : Nat) (hn : n < 256) (hb : bt d (i : Int) = (n : Int)) (acc : List Int) (ha : acc.length ≤ 100) (s : Int) (h0 : 0 ≤ s) (h1 : s ≤ 100) (r : List Int)
    (h : Ev (fun k => spec_QuadsOf.l0 k d (acc ++ qn n) (s + qs n) ((i + 1 : Nat) : Int)) r) : Ev (fun k => spec_QuadsOf.l1 k d acc s (i : Int) 6) r := by
  have u6 : IntKind.u64.wrap 6 = 6 := rfl
  have u4 : IntKind.u64.wrap 4 = 4 := rfl
  have u2 : IntKind.u64.wrap 2 = 2 := rfl
  have u0 : IntKind.u64.wrap 0 = 0 := rfl
  have w6 : wrap64 (6 - 2) = 4 := by unfold wrap64; omega
  have w4 : wrap64 (4 - 2) = 2 := by unfold wrap64; omega
  have w2 : wrap64 (2 - 2) = 0 := by unfold wrap64; omega
  have w0 : wrap64 (0 - 2) = -2 := by unfold wrap64; omega
  have v6 := qval n 6 6 hn rfl (by omega) u6
  have v4 := qval n 4 4 hn rfl (by omega) u4
  have v2 := qval n 2 2 hn rfl (by omega) u2
  have v0 := qval n 0 0 hn rfl (by omega) u0
  refine Ev.step (fun k => by rw [spec_QuadsOf.l1]) ?_
  rw [hb, v6, w6, w64 (by omega) (by omega)]
  refine evp (by omega) (evp (by omega) (evp (by omega) (evp (by rw [u6]; omega) (evp (by omega) ?_))))
  refine Ev.step (fun k => by rw [spec_QuadsOf.l1]) ?_
  rw [hb, v4, w4, w64 (by omega) (by omega)]
  refine evp (by omega) (evp (by omega) (evp (by omega) (evp (by rw [u4]; omega) (evp (by simp; omega) ?_))))
  refine Ev.step (fun k => by rw [spec_QuadsOf.l1]) ?_
  rw [hb, v2, w2, w64 (by omega) (by omega)]
  refine evp (by omega) (evp (by omega) (evp (by omega) (evp (by rw [u2]; omega) (evp (by simp; omega) ?_))))
  refine Ev.step (fun k => by rw [spec_QuadsOf.l1]) ?_
  rw [hb, v0, w0, w64 (by omega) (by omega)]
  refine evp (by omega) (evp (by omega) (evp (by omega) (evp (by rw [u0]; omega) (evp (by simp; omega) ?_))))
  refine Ev.step (fun k => by rw [spec_QuadsOf.l1]) (evn (by omega) ?_)
  rw [w64s i (by omega)]
  have e1 : acc ++ [((n / 2 ^ 6 % 4 : Nat) : Int)] ++ [((n / 2 ^ 4 % 4 : Nat) : Int)] ++ [((n / 2 ^ 2 % 4 : Nat) : Int)] ++ [((n / 2 ^ 0 % 4 : Nat) : Int)] = acc ++ qn n := by
    simp [qn]
  have e2 : s + ((n / 2 ^ 6 % 4 : Nat) : Int) + ((n / 2 ^ 4 % 4 : Nat) : Int) + ((n / 2 ^ 2 % 4 : Nat) : Int) + ((n / 2 ^ 0 % 4 : Nat) : Int) = s + qs n := by
    unfold qs
    simp
    omega
  rw [e1, e2]
  exact h
theorem miss8 (x1 x2 x3 x4 x5 x6 x7 x8 : Int) (h1 : 0 ≤ x1 ∧ x1 ≤ 3) (h2 : 0 ≤ x2 ∧ x2 ≤ 3) (h3 : 0 ≤ x3 ∧ x3 ≤ 3) (h4 : 0 ≤ x4 ∧ x4 ≤ 3) (h5 : 0 ≤ x5 ∧ x5 ≤ 3) (h6 : 0 ≤ x6 ∧ x6 ≤ 3) (h7 : 0 ≤ x7 ∧ x7 ≤ 3) (h8 : 0 ≤ x8 ∧ x8 ≤ 3) :
    missOf [x1, x2, x3, x4, x5, x6, x7, x8] 8 = 24 - (x1 + x2 + x3 + x4 + x5 + x6 + x7 + x8) := by
  show wrap64 (wrap64 (wrap64 (wrap64 (wrap64 (wrap64 (wrap64 (wrap64 (24 - x1) - x2) - x3) - x4) - x5) - x6) - x7) - x8) = _
  rw [show wrap64 (24 - x1) = 24 - x1 from w64 (by omega) (by omega)]
  rw [show wrap64 (24 - x1 - x2) = 24 - x1 - x2 from w64 (by omega) (by omega)]
  rw [show wrap64 (24 - x1 - x2 - x3) = 24 - x1 - x2 - x3 from w64 (by omega) (by omega)]
  rw [show wrap64 (24 - x1 - x2 - x3 - x4) = 24 - x1 - x2 - x3 - x4 from w64 (by omega) (by omega)]
  rw [show wrap64 (24 - x1 - x2 - x3 - x4 - x5) = 24 - x1 - x2 - x3 - x4 - x5 from w64 (by omega) (by omega)]
  rw [show wrap64 (24 - x1 - x2 - x3 - x4 - x5 - x6) = 24 - x1 - x2 - x3 - x4 - x5 - x6 from w64 (by omega) (by omega)]
  rw [show wrap64 (24 - x1 - x2 - x3 - x4 - x5 - x6 - x7) = 24 - x1 - x2 - x3 - x4 - x5 - x6 - x7 from w64 (by omega) (by omega)]
  rw [show wrap64 (24 - x1 - x2 - x3 - x4 - x5 - x6 - x7 - x8) = 24 - x1 - x2 - x3 - x4 - x5 - x6 - x7 - x8 from w64 (by omega) (by omega)]
  omega
theorem spec_QuadsOf_is (t : ByteArray) (ht : t.size ≤ 140737488351232) : Ev (fun k => spec_QuadsOf.f k t) (quads (dig t)) := by
  unfold spec_QuadsOf.f
  refine evb (spec_Digest_is t ht) ?_
  have hd := dig_size t
  obtain ⟨a, ha, ha2⟩ := bt_nat (dig t) 0
  obtain ⟨b, hb, hb2⟩ := bt_nat (dig t) 1
  have e8 : quads8 (dig t) = qn a ++ qn b := by unfold quads8; rw [ha, hb, quadL_nat a ha2, quadL_nat b hb2]
  have hm : missOf (quads8 (dig t)) 8 = 24 - (qs a + qs b) := by
    rw [e8]
    refine (miss8 _ _ _ _ _ _ _ _ ?_ ?_ ?_ ?_ ?_ ?_ ?_ ?_).trans ?_
    all_goals (try (constructor <;> omega))
    unfold qs
    omega
  refine Ev.step (fun k => by rw [spec_QuadsOf.l0]) (evp (by omega) ?_)
  refine spec_Quads_l1 (dig t) hd 0 (by omega) a ha2 ha [] (by simp) 0 (by omega) (by omega) _ ?_
  refine Ev.step (fun k => by rw [spec_QuadsOf.l0]) (evp (by omega) ?_)
  refine spec_Quads_l1 (dig t) hd 1 (by omega) b hb2 hb (qn a) (by simp [qn]) (0 + qs a) (by unfold qs; omega) (by unfold qs; omega) _ ?_
  refine Ev.step (fun k => by rw [spec_QuadsOf.l0]) (evn (by omega) ?_)
  refine evb rfl (evp (by simp [qn]) (evs ?_))
  have hq : 0 ≤ qs a + qs b ∧ qs a + qs b ≤ 24 := by unfold qs; omega
  obtain ⟨m, hm2⟩ := Int.eq_ofNat_of_zero_le (show 0 ≤ 24 - (qs a + qs b) by omega)
  have hm3 : m ≤ 24 := by omega
  unfold quads
  rw [hm, e8, hm2, show 24 - (0 + qs a + qs b) = (m : Int) by omega, show wrap64 (m : Int) = (m : Int) from w64 (by omega) (by omega)]
  have x1 := i64_and3 (m / 16) (by omega)
  have x2 := i64_and3 (m / 4) (by omega)
  have x3 := i64_and3 m (by omega)
  rw [show (m : Int) / 16 = ((m / 16 : Nat) : Int) from rfl, show (m : Int) / 4 = ((m / 4 : Nat) : Int) from rfl, x1, x2, x3]
  congr 1
  have t1 : Int.tdiv (m : Int) 16 = (m : Int) / 16 := Int.tdiv_eq_ediv_of_nonneg (by omega)
  have t2 : Int.tdiv (m : Int) 4 = (m : Int) / 4 := Int.tdiv_eq_ediv_of_nonneg (by omega)
  rw [t1, t2, show wrap64 ((m : Int) / 16) = (m : Int) / 16 from w64 (by omega) (by omega), show wrap64 ((m : Int) / 4) = (m : Int) / 4 from w64 (by omega) (by omega), Int.tmod_eq_emod_of_nonneg (by omega), Int.tmod_eq_emod_of_nonneg (by omega)]
  simp only [List.cons.injEq, and_true]
  omega
theorem impl_QuadsOf_is (t : ByteArray) (ht : t.size ≤ 140737488351232) : Ev (fun k => impl_QuadsOf.f k t) (quads (dig t)) := by
  unfold impl_QuadsOf.f
  exact Ev.bind (impl_Digest_is t ht) (evp (dig_size t) (Ev.now _))
theorem quads_len (d : ByteArray) : (quads d).length = 11 := rfl

theorem rdOf_nat {α : Type} (d : α) (l : List α) (i : Nat) (h : i < l.length) : rdOf d l (i : Int) = l[i] := by
  unfold rdOf
  rw [Int.toNat_natCast, List.getD_eq_getElem?_getD, List.getElem?_eq_getElem h]
  rfl

def endsN (s l : Int) (q : List Int) (n : Nat) : List ByteArray := (List.range n).map fun i : Nat => chainN (chainC (rd q (i : Int))) (secret s l (i : Int))
theorem endsN_succ (s l : Int) (q : List Int) (n : Nat) : endsN s l q n ++ [chainN (chainC (rd q (n : Int))) (secret s l (n : Int))] = endsN s l q (n + 1) := by
  unfold endsN
  rw [List.range_succ, List.map_append]
  rfl
theorem endsN_len (s l : Int) (q : List Int) (n : Nat) : (endsN s l q n).length = n := by simp [endsN]
def up1 (x : Int) : Int := Go.bits .xor .i64 x 1
def half (x : Int) : Int := wrap64 (Int.tdiv x 2)
def wayOf (T : List (List ByteArray)) (l : Int) : List ByteArray := [rdOf ByteArray.empty (rd_L5 T 0) (up1 l), rdOf ByteArray.empty (rd_L5 T 1) (up1 (half l))]
def sgOk (s l : Int) : Prop := (0 ≤ l ∧ l ≤ 3) ∧ few s
instance (s l : Int) : Decidable (sgOk s l) := inferInstanceAs (Decidable (_ ∧ _))
def sigOf (s l : Int) (t : ByteArray) : Int × List ByteArray × List ByteArray × Bool := if sgOk s l then (l, endsN s l (quads (dig t)) 11, wayOf (tree s) l, true) else (0, [], [], false)
theorem four (l : Int) (h : 0 ≤ l ∧ l ≤ 3) : (0 ≤ up1 l ∧ up1 l < 4) ∧ (0 ≤ up1 (half l) ∧ up1 (half l) < 2) := by
  have e : half l = Int.tdiv l 2 := by
    apply w64
    · obtain rfl | rfl | rfl | rfl : l = 0 ∨ l = 1 ∨ l = 2 ∨ l = 3 := by omega
      all_goals decide
    · obtain rfl | rfl | rfl | rfl : l = 0 ∨ l = 1 ∨ l = 2 ∨ l = 3 := by omega
      all_goals decide
  rw [e]
  obtain rfl | rfl | rfl | rfl : l = 0 ∨ l = 1 ∨ l = 2 ∨ l = 3 := by omega
  all_goals decide
theorem tree_len (s : Int) : (tree s).length = 3 ∧ (rd_L5 (tree s) 0).length = 4 ∧ (rd_L5 (tree s) 1).length = 2 := ⟨rfl, rfl, rfl⟩
theorem wr1 : wrap64 ((0 : Int) + 1) = 1 := (w64 (by decide) (by decide)).trans (by decide)
theorem wr2 : wrap64 ((1 : Int) + 1) = 2 := (w64 (by decide) (by decide)).trans (by decide)
theorem wr3 : wrap64 ((2 : Int) + 1) = 3 := (w64 (by decide) (by decide)).trans (by decide)
theorem spec_Sign_l1 (s l a : Int) (e : List ByteArray) (hl : 0 ≤ l ∧ l ≤ 3) : Ev (fun k => spec_SignText.l1 k (tree s) l 0 a e []) (a, e, wayOf (tree s) l, true) := by
  obtain ⟨⟨u1, u2⟩, u3, u4⟩ := four l hl
  obtain ⟨t1, t2, t3⟩ := tree_len s
  refine Ev.step (fun k => by rw [spec_SignText.l1]) ?_
  rw [wr1, t1]
  refine evp (by decide) (evp (by decide) (evp (by decide) (evp u1 (evp (by rw [t2]; exact u2) (evp (by decide) ?_)))))
  refine Ev.step (fun k => by rw [spec_SignText.l1]) ?_
  rw [wr2, t1]
  refine evp (by decide) (evp (by decide) (evp (by decide) (evp u3 (evp (by rw [t3]; exact u4) (evp (by simp) ?_)))))
  refine Ev.step (fun k => by rw [spec_SignText.l1]) ?_
  rw [wr3, t1]
  exact evn (by decide) (Ev.now _)
theorem impl_Sign_l1 (s l a : Int) (e : List ByteArray) (hl : 0 ≤ l ∧ l ≤ 3) : Ev (fun k => impl_SignText.l1 k (tree s) l 0 a e []) (a, e, wayOf (tree s) l, true) := by
  obtain ⟨⟨u1, u2⟩, u3, u4⟩ := four l hl
  obtain ⟨t1, t2, t3⟩ := tree_len s
  refine Ev.step (fun k => by rw [impl_SignText.l1]) ?_
  rw [wr1, t1]
  refine evp (by decide) (evp (by decide) (evp (by decide) (evp u1 (evp (by rw [t2]; exact u2) (evp (by decide) ?_)))))
  refine Ev.step (fun k => by rw [impl_SignText.l1]) ?_
  rw [wr2, t1]
  refine evp (by decide) (evp (by decide) (evp (by decide) (evp u3 (evp (by rw [t3]; exact u4) (evp (by simp) ?_)))))
  refine Ev.step (fun k => by rw [impl_SignText.l1]) ?_
  exact evn (by decide) (Ev.now _)
theorem spec_Sign_l0 (s l a : Int) (q : List Int) (hq : q.length = 11) (hl : 0 ≤ l ∧ l ≤ 3) : ∀ (d i : Nat), i + d = 11 → Ev (fun k => spec_SignText.l0 k s l q (i : Int) a (endsN s l q i)) (a, endsN s l q 11, wayOf (tree s) l, true) := by
  intro d
  induction d with
  | zero =>
    intro i h
    obtain rfl : i = 11 := by omega
    refine Ev.step (fun k => by rw [spec_SignText.l0]) (evn (by omega) ?_)
    exact Ev.bind (spec_l04Rows_is s) (spec_Sign_l1 s l a _ hl)
  | succ d ih =>
    intro i h
    have hs := secret_size s l (i : Int)
    refine Ev.step (fun k => by rw [spec_SignText.l0]) (evp (by omega) ?_)
    refine Ev.bind (spec_SecretOf_is s l (i : Int)) (evp (by omega) (evp (by omega) ?_))
    refine Ev.bind (spec_ChainOf_is _ _ (by omega)) (evp (by rw [endsN_len]; omega) ?_)
    rw [w64s i (by omega), endsN_succ]
    exact ih (i + 1) (by omega)
theorem impl_Sign_l0 (s l a : Int) (q : List Int) (hq : q.length = 11) (hl : 0 ≤ l ∧ l ≤ 3) : ∀ (d i : Nat), i + d = 11 → Ev (fun k => impl_SignText.l0 k s l q 11 (i : Int) a (endsN s l q i)) (a, endsN s l q 11, wayOf (tree s) l, true) := by
  intro d
  induction d with
  | zero =>
    intro i h
    obtain rfl : i = 11 := by omega
    refine Ev.step (fun k => by rw [impl_SignText.l0]) (evn (by omega) ?_)
    exact Ev.bind (impl_levels_is s) (impl_Sign_l1 s l a _ hl)
  | succ d ih =>
    intro i h
    have hs := secret_size s l (i : Int)
    refine Ev.step (fun k => by rw [impl_SignText.l0]) (evp (by omega) (evp (by omega) (evp (by omega) ?_)))
    refine Ev.bind (impl_SecretOf_is s l (i : Int)) ?_
    refine Ev.bind (impl_ChainOf_is _ _ (by omega)) (evp (by rw [endsN_len]; omega) ?_)
    rw [w64s i (by omega), endsN_succ]
    exact ih (i + 1) (by omega)
theorem spec_Sign_j (s l : Int) (t : ByteArray) (ht : t.size ≤ 140737488351232) (x : Bool) (hx : x = ! decide (sgOk s l)) : Ev (fun k => spec_SignText.j0 k s l t x) (sigOf s l t) := by
  refine Ev.step (fun k => by rw [spec_SignText.j0]) ?_
  unfold sigOf
  by_cases h : sgOk s l
  · rw [if_pos h]
    rw [decide_eq_true h] at hx
    refine evn (by rw [hx]; decide) ?_
    exact Ev.bind (spec_QuadsOf_is t ht) (spec_Sign_l0 s l l _ (quads_len _) h.1 11 0 rfl)
  · rw [if_neg h]
    rw [decide_eq_false h] at hx
    exact evp (by rw [hx]; rfl) (Ev.now _)
theorem impl_Sign_j (s l : Int) (t : ByteArray) (ht : t.size ≤ 140737488351232) (x : Bool) (hx : x = ! decide (sgOk s l)) : Ev (fun k => impl_SignText.j0 k s l t x) (sigOf s l t) := by
  refine Ev.step (fun k => by rw [impl_SignText.j0]) ?_
  unfold sigOf
  by_cases h : sgOk s l
  · rw [if_pos h]
    rw [decide_eq_true h] at hx
    refine evn (by rw [hx]; decide) ?_
    refine Ev.bind (impl_QuadsOf_is t ht) ?_
    rw [quads_len]
    exact impl_Sign_l0 s l l _ (quads_len _) h.1 11 0 rfl
  · rw [if_neg h]
    rw [decide_eq_false h] at hx
    exact evp (by rw [hx]; rfl) (Ev.now _)
theorem spec_SignText_is (s l : Int) (t : ByteArray) (ht : t.size ≤ 140737488351232) : Ev (fun k => spec_SignText.f k s l t) (sigOf s l t) := by
  refine evb (spec_l01In_is l 0 3) ?_
  by_cases h : 0 ≤ l ∧ l ≤ 3
  · refine evp (decide_eq_true h) (evb (spec_Few_is s) (spec_Sign_j s l t ht _ ?_))
    congr 1
    rw [decide_eq_decide]
    exact ⟨fun h2 => ⟨h, h2⟩, fun h2 => h2.2⟩
  · refine evn (by simpa using h) (spec_Sign_j s l t ht _ ?_)
    rw [decide_eq_false (fun h2 : sgOk s l => h h2.1)]
    rfl
theorem impl_SignText_is (s l : Int) (t : ByteArray) (ht : t.size ≤ 140737488351232) : Ev (fun k => impl_SignText.f k s l t) (sigOf s l t) := by
  refine evb (impl_in_is l 0 3) ?_
  by_cases h : 0 ≤ l ∧ l ≤ 3
  · refine evp (decide_eq_true h) (evb (impl_in_is s 0 1000000) (impl_Sign_j s l t ht _ ?_))
    congr 1
    rw [decide_eq_decide]
    exact ⟨fun h2 => ⟨h, h2⟩, fun h2 => h2.2⟩
  · refine evn (by simpa using h) (impl_Sign_j s l t ht _ ?_)
    rw [decide_eq_false (fun h2 : sgOk s l => h h2.1)]
    rfl
theorem sigOf_len (s l : Int) (t : ByteArray) : (sigOf s l t).2.1.length ≤ 11 ∧ (sigOf s l t).2.2.1.length ≤ 2 := by
  unfold sigOf
  by_cases h : sgOk s l
  · rw [if_pos h]
    exact ⟨by rw [endsN_len]; omega, by simp [wayOf]⟩
  · rw [if_neg h]; simp

def chE (q : List Int) (e : List ByteArray) (i : Nat) : ByteArray := chainN (chainC (wrap64 (3 - rd q (i : Int)))) (rdOf ByteArray.empty e (i : Int))
def allS (q : List Int) (e : List ByteArray) : Nat → ByteArray
  | 0 => ⟨#[]⟩
  | i + 1 => allS q e i ++ chE q e i
theorem chainN_le : ∀ (n : Nat) (t : ByteArray), t.size ≤ 8 → (chainN n t).size ≤ 8
  | 0, t, h => h
  | n + 1, t, h => by rw [chainN_size _ _ (by omega)]; omega
theorem allS_size (q : List Int) (e : List ByteArray) (he : ∀ i : Nat, (rdOf ByteArray.empty e (i : Int)).size ≤ 8) : ∀ i : Nat, (allS q e i).size ≤ 8 * i
  | 0 => by rw [allS]; decide
  | i + 1 => by
    have h1 := chainN_le (chainC (wrap64 (3 - rd q (i : Int)))) _ (he i)
    have h2 := allS_size q e he i
    rw [allS, ByteArray.size_append]
    unfold chE
    omega
def climb (now : ByteArray) (at_ : Int) : List ByteArray → ByteArray
  | [] => now
  | w :: l => climb (if Int.tmod at_ 2 = 0 then nodeK now w else nodeK w now) (wrap64 (Int.tdiv at_ 2)) l
def signedB (key t : ByteArray) (n : Int) (e w : List ByteArray) : Bool :=
  if Formed.formedB n e w = true then (climb (cutD ((⟨#[108]⟩ : ByteArray) ++ allS (quads (dig t)) e 11) 8) n w).toList == key.toList else false
theorem formed_open {n : Int} {e w : List ByteArray} (h : Formed.formedB n e w = true) : (0 ≤ n ∧ n ≤ 3) ∧ e.length = 11 ∧ w.length = 2 ∧ (∀ t ∈ e, t.size = 8) ∧ (∀ t ∈ w, t.size = 8) := by
  unfold Formed.formedB at h
  simp only [Bool.and_eq_true, decide_eq_true_eq, Bool.not_eq_true'] at h
  obtain ⟨⟨⟨⟨h1, h2⟩, h3⟩, h4⟩, h5⟩ := h
  have go : ∀ l : List ByteArray, l.any Formed.badT = false → ∀ t ∈ l, t.size = 8 := by
    intro l hl t ht
    have := List.any_eq_false.1 hl t ht
    unfold Formed.badT at this
    simp at this
    omega
  exact ⟨h1, h2, h3, go e h4, go w h5⟩
theorem formed_mk {n : Int} {e w : List ByteArray} (h1 : 0 ≤ n ∧ n ≤ 3) (h2 : e.length = 11) (h3 : w.length = 2) (h4 : ∀ t ∈ e, t.size = 8) (h5 : ∀ t ∈ w, t.size = 8) : Formed.formedB n e w = true := by
  have go : ∀ l : List ByteArray, (∀ t ∈ l, t.size = 8) → l.any Formed.badT = false := by
    intro l hl
    rw [List.any_eq_false]
    intro t ht
    unfold Formed.badT
    simp [hl t ht]
  unfold Formed.formedB
  rw [decide_eq_true h1, decide_eq_true h2, decide_eq_true h3, go e h4, go w h5]
  rfl
theorem rd8 {l : List ByteArray} (h : ∀ t ∈ l, t.size = 8) (i : Nat) : (rdOf ByteArray.empty l (i : Int)).size ≤ 8 := by
  unfold rdOf
  rw [List.getD_eq_getElem?_getD]
  cases e : l[((i : Nat) : Int).toNat]? with
  | none => show ByteArray.empty.size ≤ 8; decide
  | some t =>
    have := h t (List.mem_of_getElem? e)
    simp only [Option.getD_some]
    omega
theorem spec_l04Steps_is : Ev (fun k => spec_l04Steps.f k) 2 := by
  show Ev (fun k => spec_l04Steps.l0 k 0 4) 2
  have e1 : wrap64 ((0 : Int) + 1) = 1 := (w64 (by decide) (by decide)).trans (by decide)
  have e2 : wrap64 (Int.tdiv 4 2) = 2 := (w64 (by decide) (by decide)).trans (by decide)
  have e3 : wrap64 ((1 : Int) + 1) = 2 := (w64 (by decide) (by decide)).trans (by decide)
  have e4 : wrap64 (Int.tdiv 2 2) = 1 := (w64 (by decide) (by decide)).trans (by decide)
  refine Ev.step (fun k => by rw [spec_l04Steps.l0]) ?_
  rw [e1, e2]
  refine evp (by decide) (Ev.step (fun k => by rw [spec_l04Steps.l0]) ?_)
  rw [e3, e4]
  exact evp (by decide) (Ev.step (fun k => by rw [spec_l04Steps.l0]) (evn (by decide) (Ev.now _)))
theorem spec_l04Long_l (l : List ByteArray) (hl : l.length ≤ 4000000) : ∀ (d i : Nat), i + d = l.length → Ev (fun k => spec_l04Long.l0 k l (i : Int)) (!((l.drop i).any Formed.badT)) := by
  intro d
  induction d with
  | zero =>
    intro i h
    refine Ev.step (fun k => by rw [spec_l04Long.l0]) (evn (by omega) (evs ?_))
    rw [List.drop_of_length_le (by omega)]; rfl
  | succ d ih =>
    intro i h
    refine Ev.step (fun k => by rw [spec_l04Long.l0]) (evp (by omega) (evp (by omega) ?_))
    rw [Formed.drop_str l i (by omega), List.any_cons]
    by_cases c : ((rdOf ByteArray.empty l (i : Int)).size : Int) = 8
    · refine evp c ?_
      rw [w64s i (by omega)]
      have hb : Formed.badT (rdOf ByteArray.empty l (i : Int)) = false := by unfold Formed.badT; simp [c]
      rw [hb, Bool.false_or]
      exact ih (i + 1) (by omega)
    · refine evn c (evs ?_)
      have hb : Formed.badT (rdOf ByteArray.empty l (i : Int)) = true := by unfold Formed.badT; simpa using c
      rw [hb]; rfl
theorem spec_l04Long_is (l : List ByteArray) (hl : l.length ≤ 4000000) : Ev (fun k => spec_l04Long.f k l) (!(l.any Formed.badT)) := spec_l04Long_l l hl l.length 0 (Nat.zero_add _)
theorem spec_l04Form_is (n : Int) (e w : List ByteArray) : Ev (fun k => spec_l04Form.f k n e w) (Formed.formedB n e w) := by
  unfold Formed.formedB
  refine evb (spec_l01In_is n 0 3) ?_
  by_cases h1 : 0 ≤ n ∧ n ≤ 3
  · refine evp (decide_eq_true h1) ?_
    rw [decide_eq_true h1]
    by_cases h2 : e.length = 11
    · refine evp (by omega) (Ev.bind spec_l04Steps_is ?_)
      rw [decide_eq_true h2]
      by_cases h3 : w.length = 2
      · refine evp (by omega) (Ev.bind (spec_l04Long_is e (by omega)) ?_)
        rw [decide_eq_true h3]
        cases hb : e.any Formed.badT
        · exact evp rfl (Ev.bind (spec_l04Long_is w (by omega)) (Ev.now _))
        · exact evn (by decide) (Ev.now _)
      · refine evn (by omega) (evs ?_)
        rw [decide_eq_false h3]; rfl
    · refine evn (by omega) (evs ?_)
      rw [decide_eq_false h2]; rfl
  · refine evn (by simpa using h1) (evs ?_)
    rw [decide_eq_false h1]; rfl
theorem impl_Formed_is (n : Int) (e w : List ByteArray) (he : e.length ≤ 4000000) (hw : w.length ≤ 4000000) : impl_signFormed.f n e w = some (Formed.formedB n e w) := by unfold impl_signFormed.f; rw [if_pos ⟨he, hw⟩]
theorem drop_w (w : List ByteArray) (i : Nat) (h : i < w.length) : w.drop i = rdOf ByteArray.empty w (i : Int) :: w.drop (i + 1) := Formed.drop_str w i h
theorem spec_By_l1 (key : ByteArray) (n : Int) (e w : List ByteArray) (hw : w.length ≤ 1000) (h8 : ∀ t ∈ w, t.size = 8) : ∀ (d i : Nat) (now : ByteArray) (a : Int), i + d = w.length → now.size ≤ 8 → Ev (fun k => spec_SignedBy.l1 k key now a (i : Int) n e w) ((climb now a (w.drop i)).toList == key.toList) := by
  intro d
  induction d with
  | zero =>
    intro i now a h hn
    refine Ev.step (fun k => by rw [spec_SignedBy.l1]) (evn (by omega) (evs ?_))
    rw [List.drop_of_length_le (by omega)]; rfl
  | succ d ih =>
    intro i now a h hn
    have hr := rd8 h8 i
    have z : (⟨#[110]⟩ : ByteArray).size = 1 := rfl
    refine Ev.step (fun k => by rw [spec_SignedBy.l1]) (evp (by omega) ?_)
    rw [drop_w w i (by omega), climb]
    by_cases c : Int.tmod a 2 = 0
    · rw [if_pos c]
      refine evp c (evp (by omega) (evp (by omega) (evp (by rw [ByteArray.size_append]; omega) ?_)))
      refine evb (spec_l04Cut_is _ (by rw [ByteArray.size_append, ByteArray.size_append]; omega)) ?_
      rw [w64s i (by omega), ByteArray.append_assoc]
      exact ih (i + 1) _ _ (by omega) (by rw [cutD_size _ _ (by omega)]; omega)
    · rw [if_neg c]
      refine evn c (evp (by omega) (evp (by omega) (evp (by rw [ByteArray.size_append]; omega) ?_)))
      refine evb (spec_l04Cut_is _ (by rw [ByteArray.size_append, ByteArray.size_append]; omega)) ?_
      rw [w64s i (by omega), ByteArray.append_assoc]
      exact ih (i + 1) _ _ (by omega) (by rw [cutD_size _ _ (by omega)]; omega)
theorem impl_By_l1 (key : ByteArray) (w : List ByteArray) (hw : w.length ≤ 1000) (h8 : ∀ t ∈ w, t.size = 8) : ∀ (d i : Nat) (now : ByteArray) (a : Int), i + d = w.length → now.size ≤ 8 → Ev (fun k => impl_SignedBy.l1 k key now a w (w.length : Int) (i : Int)) ((climb now a (w.drop i)).toList == key.toList) := by
  intro d
  induction d with
  | zero =>
    intro i now a h hn
    refine Ev.step (fun k => by rw [impl_SignedBy.l1]) (evn (by omega) (evs ?_))
    rw [List.drop_of_length_le (by omega)]; rfl
  | succ d ih =>
    intro i now a h hn
    have hr := rd8 h8 i
    refine Ev.step (fun k => by rw [impl_SignedBy.l1]) (evp (by omega) (evp (by omega) (evp (by omega) ?_)))
    rw [drop_w w i (by omega), climb]
    by_cases c : Int.tmod a 2 = 0
    · rw [if_pos c]
      refine evp c (evp (by omega) ?_)
      refine Ev.bind (impl_short_is 110 _ (by rw [ByteArray.size_append]; omega)) ?_
      rw [w64s i (by omega)]
      exact ih (i + 1) _ _ (by omega) (by rw [cutD_size _ _ (by omega)]; omega)
    · rw [if_neg c]
      refine evn c (evp (by omega) ?_)
      refine Ev.bind (impl_short_is 110 _ (by rw [ByteArray.size_append]; omega)) ?_
      rw [w64s i (by omega)]
      exact ih (i + 1) _ _ (by omega) (by rw [cutD_size _ _ (by omega)]; omega)
theorem spec_By_l0 (key : ByteArray) (q : List Int) (hq : q.length = 11) (n : Int) (e w : List ByteArray) (he : e.length = 11) (hw : w.length = 2) (h8 : ∀ t ∈ e, t.size = 8) (h9 : ∀ t ∈ w, t.size = 8) : ∀ (d i : Nat), i + d = 11 → Ev (fun k => spec_SignedBy.l0 k key q ((⟨#[108]⟩ : ByteArray) ++ allS q e i) (i : Int) n e w) ((climb (cutD ((⟨#[108]⟩ : ByteArray) ++ allS q e 11) 8) n w).toList == key.toList) := by
  have hz := allS_size q e (rd8 h8)
  intro d
  induction d with
  | zero =>
    intro i h
    obtain rfl : i = 11 := by omega
    have := hz 11
    refine Ev.step (fun k => by rw [spec_SignedBy.l0]) (evn (by omega) (evb (spec_l04Cut_is _ (by rw [size108]; omega)) ?_))
    exact spec_By_l1 key n e w (by omega) h9 2 0 _ n (by omega) (by rw [cutD_size _ _ (by omega)]; omega)
  | succ d ih =>
    intro i h
    have hr := rd8 h8 i
    have h1 := hz i
    refine Ev.step (fun k => by rw [spec_SignedBy.l0]) (evp (by omega) (evp (by omega) (evp (by omega) (evp (by omega) ?_))))
    refine Ev.bind (spec_ChainOf_is _ _ (by omega)) ?_
    have h2 := chainN_le (chainC (wrap64 (3 - rd q (i : Int)))) _ hr
    refine evp (by rw [size108]; omega) ?_
    rw [w64s i (by omega), ByteArray.append_assoc]
    exact ih (i + 1) (by omega)
theorem impl_By_l0 (key : ByteArray) (q : List Int) (hq : q.length = 11) (n : Int) (e w : List ByteArray) (he : e.length = 11) (hw : w.length = 2) (h8 : ∀ t ∈ e, t.size = 8) (h9 : ∀ t ∈ w, t.size = 8) : ∀ (d i : Nat), i + d = 11 → Ev (fun k => impl_SignedBy.l0 k key (allS q e i) q 11 (i : Int) n e w) ((climb (cutD ((⟨#[108]⟩ : ByteArray) ++ allS q e 11) 8) n w).toList == key.toList) := by
  have hz := allS_size q e (rd8 h8)
  intro d
  induction d with
  | zero =>
    intro i h
    obtain rfl : i = 11 := by omega
    have := hz 11
    refine Ev.step (fun k => by rw [impl_SignedBy.l0]) (evn (by omega) (Ev.bind (impl_short_is 108 _ (by omega)) ?_))
    exact impl_By_l1 key w (by omega) h9 2 0 _ n (by omega) (by rw [cutD_size _ _ (by omega)]; omega)
  | succ d ih =>
    intro i h
    have hr := rd8 h8 i
    have h1 := hz i
    refine Ev.step (fun k => by rw [impl_SignedBy.l0]) (evp (by omega) (evp (by omega) (evp (by omega) (evp (by omega) ?_))))
    refine Ev.bind (impl_ChainOf_is _ _ (by omega)) ?_
    have h2 := chainN_le (chainC (wrap64 (3 - rd q (i : Int)))) _ hr
    refine evp (by omega) ?_
    rw [w64s i (by omega)]
    exact ih (i + 1) (by omega)
theorem spec_SignedBy_is (key t : ByteArray) (ht : t.size ≤ 140737488351232) (n : Int) (e w : List ByteArray) : Ev (fun k => spec_SignedBy.f k key t n e w) (signedB key t n e w) := by
  unfold signedB
  refine Ev.bind (spec_l04Form_is n e w) ?_
  by_cases h : Formed.formedB n e w = true
  · obtain ⟨h1, h2, h3, h4, h5⟩ := formed_open h
    rw [if_pos h]
    refine evp h (Ev.bind (spec_QuadsOf_is t ht) ?_)
    have := spec_By_l0 key (quads (dig t)) (quads_len _) n e w h2 h3 h4 h5 11 0 rfl
    have e0 : (⟨#[108]⟩ : ByteArray) ++ allS (quads (dig t)) e 0 = ⟨#[108]⟩ := rfl
    rw [e0] at this
    exact this
  · rw [if_neg h]
    exact evn h (Ev.now _)
theorem impl_SignedBy_is (key t : ByteArray) (ht : t.size ≤ 140737488351232) (n : Int) (e w : List ByteArray) (he : e.length ≤ 4000000) (hw : w.length ≤ 4000000) : Ev (fun k => impl_SignedBy.f k key t n e w) (signedB key t n e w) := by
  unfold signedB
  refine evb (impl_Formed_is n e w he hw) ?_
  by_cases h : Formed.formedB n e w = true
  · obtain ⟨h1, h2, h3, h4, h5⟩ := formed_open h
    rw [if_pos h]
    refine evp h (Ev.bind (impl_QuadsOf_is t ht) ?_)
    rw [quads_len]
    exact impl_By_l0 key (quads (dig t)) (quads_len _) n e w h2 h3 h4 h5 11 0 rfl
  · rw [if_neg h]
    exact evn h (Ev.now _)

theorem i64_and255 (a : Int) : 0 ≤ Go.bits .and .i64 a 255 ∧ Go.bits .and .i64 a 255 ≤ 255 := by
  show 0 ≤ IntKind.i64.wrap ((BitVec.ofInt 64 a &&& BitVec.ofInt 64 255).toNat : Int) ∧ IntKind.i64.wrap ((BitVec.ofInt 64 a &&& BitVec.ofInt 64 255).toNat : Int) ≤ 255
  rw [BitVec.toNat_and, show (BitVec.ofInt 64 255).toNat = 255 from rfl, nat_mask8, IntKind.wrap_i64]
  omega
theorem rd_range {l : List Int} (hl : ∀ x ∈ l, (Lit.int .u8 x).wf = true) (i : Int) : 0 ≤ rd l i ∧ rd l i ≤ 255 := by
  unfold rd
  rw [List.getD_eq_getElem?_getD]
  cases h : l[i.toNat]? with
  | none => simp
  | some x =>
    have := hl x (List.mem_of_getElem? h)
    simp [Lit.wf, IntKind.min, IntKind.max, IntKind.bits, IntKind.signed] at this
    simp only [Option.getD_some]
    omega
theorem spec_l01New_l (l : List Int) : ∀ (d i : Nat) (h : Int), i + d = 4000 → ∃ h', Ev (fun k => spec_l01New.l0 k l h (i : Int)) (l, 0, h') := by
  intro d
  induction d with
  | zero =>
    intro i h h1
    refine ⟨h, Ev.step (fun k => by rw [spec_l01New.l0]) ?_⟩
    by_cases c : (i : Int) < (l.length : Int)
    · exact evp c (evn (by omega) (evs rfl))
    · exact evn c (evs rfl)
  | succ d ih =>
    intro i h h1
    by_cases c : (i : Int) < (l.length : Int)
    · obtain ⟨h', hh⟩ := ih (i + 1) (Go.bits .and .i64 (wrap64 ((wrap64 ((wrap64 (h * 131)) + (wrap64 (rd l (i : Int))))) + 7)) 1073741823) (by omega)
      refine ⟨h', Ev.step (fun k => by rw [spec_l01New.l0]) (evp c (evp (by omega) (evp (by omega) ?_)))⟩
      rw [w64s i (by omega)]
      exact hh
    · exact ⟨h, Ev.step (fun k => by rw [spec_l01New.l0]) (evn c (evs rfl))⟩
theorem spec_l01New_is (l : List Int) : ∃ h', Ev (fun k => spec_l01New.f k l) (l, 0, h') := spec_l01New_l l 4000 0 _ rfl
theorem spec_l01Byte_is (l : List Int) (hl : ∀ x ∈ l, (Lit.int .u8 x).wf = true) (hm : l.length ≤ 9223372036854775000) (i : Nat) (h : Int) : ∃ (x : Int) (i' : Nat) (h' : Int), spec_l01Byte.f l (i : Int) h = some (x, (i' : Int), h') ∧ 0 ≤ x ∧ x ≤ 255 := by
  unfold spec_l01Byte.f
  by_cases c : (i : Int) < (l.length : Int)
  · rw [if_pos c, if_pos (by omega)]
    rw [w64s i (by omega)]
    exact ⟨_, i + 1, _, rfl, i64_and255 _⟩
  · rw [if_neg c]
    exact ⟨_, i, _, rfl, i64_and255 _⟩
theorem spec_l01Below_is (l : List Int) (hl : ∀ x ∈ l, (Lit.int .u8 x).wf = true) (hm : l.length ≤ 9223372036854775000) (i : Nat) (h n : Int) (hn : 0 < n) : ∃ (x : Int) (i' : Nat) (h' : Int), spec_l01Below.f l (i : Int) h n = some (x, (i' : Int), h') ∧ 0 ≤ x ∧ x < n := by
  unfold spec_l01Below.f
  rw [if_neg (by omega)]
  by_cases c : n ≤ 256
  · rw [if_pos c]
    obtain ⟨x, i', h', e, r1, r2⟩ := spec_l01Byte_is l hl hm i h
    rw [e, Option.bind_some, if_neg (by omega)]
    refine ⟨_, i', h', rfl, ?_, ?_⟩
    · exact Int.tmod_nonneg _ r1
    · exact Int.tmod_lt_of_pos _ hn
  · rw [if_neg c]
    obtain ⟨x, i1, h1, e1, a1, a2⟩ := spec_l01Byte_is l hl hm i h
    obtain ⟨y, i2, h2, e2, b1, b2⟩ := spec_l01Byte_is l hl hm i1 h1
    obtain ⟨z, i3, h3, e3, c1, c2⟩ := spec_l01Byte_is l hl hm i2 h2
    obtain ⟨u, i4, h4, e4, d1, d2⟩ := spec_l01Byte_is l hl hm i3 h3
    rw [e1, Option.bind_some]
    dsimp only
    rw [e2, Option.bind_some]
    dsimp only
    rw [e3, Option.bind_some]
    dsimp only
    rw [e4, Option.bind_some, if_neg (by omega)]
    have q1 : wrap64 (x * 16777216) = x * 16777216 := w64 (by omega) (by omega)
    have q2 : wrap64 (y * 65536) = y * 65536 := w64 (by omega) (by omega)
    have q3 : wrap64 (z * 256) = z * 256 := w64 (by omega) (by omega)
    have q4 : wrap64 (x * 16777216 + y * 65536) = x * 16777216 + y * 65536 := w64 (by omega) (by omega)
    have q5 : wrap64 (x * 16777216 + y * 65536 + z * 256) = x * 16777216 + y * 65536 + z * 256 := w64 (by omega) (by omega)
    have q6 : wrap64 (x * 16777216 + y * 65536 + z * 256 + u) = x * 16777216 + y * 65536 + z * 256 + u := w64 (by omega) (by omega)
    rw [q1, q2, q3, q4, q5, q6]
    exact ⟨_, i4, h4, rfl, Int.tmod_nonneg _ (by omega), Int.tmod_lt_of_pos _ hn⟩

theorem rd_mem (l : List Int) (i : Int) (h0 : 0 ≤ i) (h1 : i < l.length) : rd l i ∈ l := by
  unfold rd
  rw [List.getD_eq_getElem?_getD, List.getElem?_eq_getElem (by omega)]
  exact List.getElem_mem _
theorem spec_l01PickInt_is (l : List Int) (hl : ∀ x ∈ l, (Lit.int .u8 x).wf = true) (hm : l.length ≤ 9223372036854775000) (a : Nat) (h : Int) (s : List Int) (hs : 0 < s.length) : ∃ (x : Int) (a' : Nat) (h' : Int), spec_l01PickInt.f l (a : Int) h s = some (x, (a' : Int), h') ∧ x ∈ s := by
  unfold spec_l01PickInt.f
  obtain ⟨x, a', h', e, r1, r2⟩ := spec_l01Below_is l hl hm a h (s.length : Int) (by omega)
  rw [e, Option.bind_some, if_pos r1, if_pos r2]
  exact ⟨_, a', h', rfl, rd_mem s x r1 r2⟩
theorem rdOf_mem (l : List ByteArray) (i : Int) (h0 : 0 ≤ i) (h1 : i < l.length) : rdOf ByteArray.empty l i ∈ l := by
  obtain ⟨n, rfl⟩ : ∃ n : Nat, i = (n : Int) := ⟨i.toNat, by omega⟩
  have hn : n < l.length := by omega
  unfold rdOf
  rw [Int.toNat_natCast, List.getD_eq_getElem?_getD, List.getElem?_eq_getElem hn]
  exact List.getElem_mem hn
theorem spec_l01Pick_is (l : List Int) (hl : ∀ x ∈ l, (Lit.int .u8 x).wf = true) (hm : l.length ≤ 9223372036854775000) (a : Nat) (h : Int) (s : List ByteArray) (hs : 0 < s.length) : ∃ (x : ByteArray) (a' : Nat) (h' : Int), spec_l01Pick.f l (a : Int) h s = some (x, (a' : Int), h') ∧ x ∈ s := by
  obtain ⟨x, a', h', e, e1, e2⟩ := spec_l01Below_is l hl hm a h (s.length : Int) (by omega)
  refine ⟨_, a', h', ?_, rdOf_mem s x e1 e2⟩
  unfold spec_l01Pick.f
  rw [e, Option.bind_some, if_pos e1, if_pos e2]
theorem spec_l04Text_is (l : List Int) (hl : ∀ x ∈ l, (Lit.int .u8 x).wf = true) (hm : l.length ≤ 9223372036854775000) (a : Nat) (h : Int) : ∃ (t : ByteArray) (a' : Nat) (h' : Int), spec_l04Text.f l (a : Int) h = some (t, (a' : Int), h') ∧ t.size ≤ 100 := by
  unfold spec_l04Text.f
  obtain ⟨t, a', h', e, e1⟩ := spec_l01Pick_is l hl hm a h [(⟨#[]⟩ : ByteArray), (⟨#[97]⟩ : ByteArray), (⟨#[119, 111, 114, 100]⟩ : ByteArray), (⟨#[115, 111, 109, 101, 32, 116, 101, 120, 116, 32, 104, 101, 114, 101]⟩ : ByteArray)] (by decide)
  rw [e, Option.bind_some]
  refine ⟨t, a', h', rfl, ?_⟩
  have hx : ∀ x ∈ [(⟨#[]⟩ : ByteArray), (⟨#[97]⟩ : ByteArray), (⟨#[119, 111, 114, 100]⟩ : ByteArray), (⟨#[115, 111, 109, 101, 32, 116, 101, 120, 116, 32, 104, 101, 114, 101]⟩ : ByteArray)], x.size ≤ 100 := by decide
  exact hx t e1
theorem spec_DrawSecretOf_is (l : List Int) (hl : ∀ x ∈ l, (Lit.int .u8 x).wf = true) (hm : l.length ≤ 9223372036854775000) : ∃ a b c : Int, Ev (fun k => spec_DrawSecretOf.f k l) (a, b, c) := by
  obtain ⟨h0, e0⟩ := spec_l01New_is l
  obtain ⟨x, a1, h1, e1, -⟩ := spec_l01PickInt_is l hl hm 0 h0 [0, 7, 1000000, 1000001, (-1)] (by decide)
  obtain ⟨y, a2, h2, e2, -, -⟩ := spec_l01Below_is l hl hm a1 h1 5 (by decide)
  obtain ⟨z, a3, h3, e3, -, -⟩ := spec_l01Below_is l hl hm a2 h2 11 (by decide)
  exact ⟨x, y, wrap64 (z - 1), Ev.bind e0 (evb e1 (evb e2 (evb e3 (Ev.now _))))⟩
theorem spec_DrawSignText_is (l : List Int) (hl : ∀ x ∈ l, (Lit.int .u8 x).wf = true) (hm : l.length ≤ 9223372036854775000) : ∃ (a b : Int) (t : ByteArray), Ev (fun k => spec_DrawSignText.f k l) (a, b, t) ∧ t.size ≤ 100 := by
  obtain ⟨h0, e0⟩ := spec_l01New_is l
  obtain ⟨a, b, c, e1⟩ := spec_DrawSecretOf_is l hl hm
  obtain ⟨y, a2, h2, e2, -, -⟩ := spec_l01Below_is l hl hm 0 h0 2 (by decide)
  obtain ⟨t, a3, h3, e3, e4⟩ := spec_l04Text_is l hl hm a2 h2
  exact ⟨a, wrap64 (b - y), t, Ev.bind e0 (Ev.bind e1 (evb e2 (evb e3 (Ev.now _)))), e4⟩
theorem spec_DrawChainOf_is (l : List Int) (hl : ∀ x ∈ l, (Lit.int .u8 x).wf = true) (hm : l.length ≤ 9223372036854775000) : ∃ (t : ByteArray) (n : Int), Ev (fun k => spec_DrawChainOf.f k l) (t, n) ∧ t.size ≤ 100 := by
  obtain ⟨h0, e0⟩ := spec_l01New_is l
  obtain ⟨x, a1, h1, e1, -⟩ := spec_l01PickInt_is l hl hm 0 h0 [0, 1, 2, 3, 4, (-1), 9223372036854775807] (by decide)
  obtain ⟨t, a3, h3, e3, e4⟩ := spec_l04Text_is l hl hm a1 h1
  exact ⟨t, x, Ev.bind e0 (evb e1 (evb e3 (Ev.now _))), e4⟩
theorem spec_l04Any_is (l : List Int) (hl : ∀ x ∈ l, (Lit.int .u8 x).wf = true) (hm : l.length ≤ 9223372036854775000) (a : Nat) (h : Int) : ∃ (s : Int) (t : ByteArray) (n : Int) (e w : List ByteArray) (a' : Nat) (h' : Int), Ev (fun k => spec_l04Any.f k l (a : Int) h) (s, t, n, e, w, (a' : Int), h') ∧ t.size ≤ 101 ∧ e.length ≤ 11 ∧ w.length ≤ 2 := by
  obtain ⟨s, a1, h1, e1, hs⟩ := spec_l01PickInt_is l hl hm a h [0, 7, 1000, 1007] (by decide)
  obtain ⟨t, a2, h2, e2, ht⟩ := spec_l04Text_is l hl hm a1 h1
  obtain ⟨n, a3, h3, e3, n0, n1⟩ := spec_l01Below_is l hl hm a2 h2 4 (by decide)
  obtain ⟨v, a4, h4, e4, v0, v1⟩ := spec_l01Below_is l hl hm a3 h3 8 (by decide)
  have hf : few s := by
    have hx : ∀ x ∈ ([0, 7, 1000, 1007] : List Int), 0 ≤ x ∧ x ≤ 1000000 := by decide
    exact hx s hs
  have hsig := spec_SignText_is s n t (by omega)
  have hsg : sigOf s n t = (n, endsN s n (quads (dig t)) 11, wayOf (tree s) n, true) := if_pos ⟨⟨n0, by omega⟩, hf⟩
  rw [hsg] at hsig
  have hE : (endsN s n (quads (dig t)) 11).length = 11 := endsN_len _ _ _ _
  have hW : (wayOf (tree s) n).length = 2 := rfl
  generalize endsN s n (quads (dig t)) 11 = E at hsig hE
  generalize wayOf (tree s) n = W at hsig hW
  by_cases c0 : v = 0
  · obtain ⟨x, a5, h5, e5, -, -⟩ := spec_l01Below_is l hl hm a4 h4 6 (by decide)
    exact ⟨s, t, wrap64 (x - 1), E, W, a5, h5, evb e1 (evb e2 (evb e3 (Ev.bind hsig (evb e4 (evp c0 (evb e5 (Ev.now _))))))), by omega, by omega, by omega⟩
  by_cases c1 : v = 1
  · obtain ⟨x, a5, h5, e5, x0, x1⟩ := spec_l01Below_is l hl hm a4 h4 (E.length : Int) (by omega)
    refine ⟨s, t, n, E.set x.toNat (⟨#[49, 50, 51, 52, 53, 54, 55, 56]⟩ : ByteArray), W, a5, h5, evb e1 (evb e2 (evb e3 (Ev.bind hsig (evb e4 (evn c0 (evp c1 (evb rfl (evp ?_ (evb rfl ?_))))))))), by omega, by rw [List.length_set]; omega, by omega⟩
    · show 0 + E.length < _
      omega
    · rw [List.nil_append]
      exact evb e5 (evp x0 (evp x1 (Ev.now _)))
  by_cases c2 : v = 2
  · exact ⟨s, t, n, E, W.drop (1 : Int).toNat, a4, h4, evb e1 (evb e2 (evb e3 (Ev.bind hsig (evb e4 (evn c0 (evn c1 (evp c2 (evp (by dsimp only; omega) (Ev.now _))))))))), by omega, by omega, by rw [List.length_drop]; omega⟩
  by_cases c3 : v = 3
  · refine ⟨s, t ++ (⟨#[120]⟩ : ByteArray), n, E, W, a4, h4, evb e1 (evb e2 (evb e3 (Ev.bind hsig (evb e4 (evn c0 (evn c1 (evn c2 (evp c3 (evp (by dsimp only; omega) (Ev.now _)))))))))), ?_, by omega, by omega⟩
    rw [ByteArray.size_append]
    have : (⟨#[120]⟩ : ByteArray).size = 1 := rfl
    omega
  by_cases c4 : v = 4
  · refine ⟨s, t, n, [(⟨#[49]⟩ : ByteArray)] ++ E.drop 1, W, a4, h4, evb e1 (evb e2 (evb e3 (Ev.bind hsig (evb e4 (evn c0 (evn c1 (evn c2 (evn c3 (evp c4 (evb rfl (evp (by dsimp only; omega) (evb rfl (evp ?_ (Ev.now _)))))))))))))), by omega, ?_, by omega⟩
    · show 1 + (E.drop 1).length < _
      rw [List.length_drop]
      omega
    · rw [List.length_append, List.length_drop]
      show 1 + (E.length - 1) ≤ 11
      omega
  · exact ⟨s, t, n, E, W, a4, h4, evb e1 (evb e2 (evb e3 (Ev.bind hsig (evb e4 (evn c0 (evn c1 (evn c2 (evn c3 (evn c4 (Ev.now _)))))))))), by omega, by omega, by omega⟩
theorem spec_DrawSignedBy_is (l : List Int) (hl : ∀ x ∈ l, (Lit.int .u8 x).wf = true) (hm : l.length ≤ 9223372036854775000) : ∃ (key t : ByteArray) (n : Int) (e w : List ByteArray), Ev (fun k => spec_DrawSignedBy.f k l) (key, t, n, e, w) ∧ t.size ≤ 101 ∧ e.length ≤ 11 ∧ w.length ≤ 2 := by
  obtain ⟨h0, e0⟩ := spec_l01New_is l
  obtain ⟨s, t, n, e, w, a1, h1, e1, r⟩ := spec_l04Any_is l hl hm 0 h0
  exact ⟨keyOf s, t, n, e, w, Ev.bind e0 (Ev.bind e1 (Ev.bind (spec_KeyOf_is s) (Ev.now _))), r⟩

theorem chain_chain : ∀ (b a : Nat) (t : ByteArray), chainN a (chainN b t) = chainN (b + a) t
  | 0, a, t => by rw [chainN, Nat.zero_add]
  | b + 1, a, t => by
    have : b + 1 + a = (b + a) + 1 := by omega
    rw [this, chainN, chainN]
    exact chain_chain b a _
theorem sameTexts_l (l : List ByteArray) (hl : l.length ≤ 4000000) : ∀ (d i : Nat), i + d = l.length → Ev (fun k => laws_sameTexts.l0 k l l (i : Int)) true := by
  intro d
  induction d with
  | zero =>
    intro i h
    exact Ev.step (fun k => by rw [laws_sameTexts.l0]) (evn (by omega) (Ev.now _))
  | succ d ih =>
    intro i h
    refine Ev.step (fun k => by rw [laws_sameTexts.l0]) (evp (by omega) (evp (by omega) (evp (by omega) (evp rfl ?_))))
    rw [w64s i (by omega)]
    exact ih (i + 1) (by omega)
theorem sameTexts_is (l : List ByteArray) (hl : l.length ≤ 4000000) : Ev (fun k => laws_sameTexts.f k l l) true := evp rfl (sameTexts_l l hl l.length 0 (Nat.zero_add _))
theorem sameSign_is (n : Int) (e w : List ByteArray) (he : e.length ≤ 4000000) (hw : w.length ≤ 4000000) : Ev (fun k => laws_sameSign.f k n e w n e w) true := evp rfl (Ev.bind (sameTexts_is e he) (evp rfl (Ev.bind (sameTexts_is w hw) (Ev.now _))))
theorem sameInts_l (l : List Int) (hl : l.length ≤ 4000000) : ∀ (d i : Nat), i + d = l.length → Ev (fun k => laws_sameInts.l0 k l l (i : Int)) true := by
  intro d
  induction d with
  | zero =>
    intro i h
    exact Ev.step (fun k => by rw [laws_sameInts.l0]) (evn (by omega) (Ev.now _))
  | succ d ih =>
    intro i h
    refine Ev.step (fun k => by rw [laws_sameInts.l0]) (evp (by omega) (evp (by omega) (evp (by omega) (evp rfl ?_))))
    rw [w64s i (by omega)]
    exact ih (i + 1) (by omega)
theorem sameInts_is (l : List Int) (hl : l.length ≤ 4000000) : Ev (fun k => laws_sameInts.f k l l) true := evp rfl (sameInts_l l hl l.length 0 (Nat.zero_add _))
theorem FnSignsTold : laws_FnSignsTold.Pure := by
  intro l hm hm2 hl
  refine Ev.rounds (g := fun k => laws_FnSignsTold.f k l) ?_
  simp only [laws_FnSignsTold.f, laws_big.f]
  refine evb rfl ?_
  by_cases h0 : (l.length : Int) > 1048576
  · exact evp (decide_eq_true h0) (Ev.now _)
  have hlen : l.length ≤ 9223372036854775000 := by omega
  refine evn (by simpa using h0) ?_
  obtain ⟨s, n, t, e1, ht⟩ := spec_DrawSignText_is l hl hlen
  obtain ⟨key, u, m, E, W, e2, hu, hE, hW⟩ := spec_DrawSignedBy_is l hl hlen
  obtain ⟨x, q, e3, hx⟩ := spec_DrawChainOf_is l hl hlen
  obtain ⟨c, d, e, e4⟩ := spec_DrawSecretOf_is l hl hlen
  obtain ⟨g1, g2⟩ := sigOf_len s n t
  refine Ev.bind e1 (Ev.bind (impl_SignText_is s n t (by omega)) (Ev.bind (spec_SignText_is s n t (by omega)) (Ev.bind e2 (Ev.bind e3 (Ev.bind e4 (evp (by simp) (Ev.bind (sameSign_is _ _ _ (by omega) (by omega)) (evp rfl ?_))))))))
  refine Ev.bind (impl_SignedBy_is key u (by omega) m E W (by omega) (by omega)) (Ev.bind (spec_SignedBy_is key u (by omega) m E W) (evp (by simp) ?_))
  refine Ev.bind (impl_ChainOf_is x q (by omega)) (Ev.bind (spec_ChainOf_is x q (by omega)) (evp rfl ?_))
  refine Ev.bind (impl_SecretOf_is c d e) (Ev.bind (spec_SecretOf_is c d e) (evp rfl ?_))
  refine Ev.bind (impl_QuadsOf_is u (by omega)) (Ev.bind (spec_QuadsOf_is u (by omega)) (Ev.bind (sameInts_is _ (by rw [quads_len]; decide)) (evp rfl ?_)))
  have h8 : (chainN (chainC 1) x).size = 8 := chainN_size _ _ (by decide)
  refine Ev.bind (impl_ChainOf_is x 1 (by omega)) (Ev.bind (impl_ChainOf_is (chainN (chainC 1) x) 2 (by omega)) (Ev.bind (impl_ChainOf_is x 3 (by omega)) (evs ?_)))
  rw [chain_chain, show chainC 1 + chainC 2 = chainC 3 by decide]
  exact beq_self_eq_true _

end Go.Proofs.Ytckjobcagniieaa.Pure
