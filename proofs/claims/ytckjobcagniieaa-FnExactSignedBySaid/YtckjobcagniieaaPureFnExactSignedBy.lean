/-
The law FnExactSignedBy of the given program answers true at every input: the plain statement that is left when the printed walk has stepped through the code.
Conditions: the bounds of the given row (sizes of texts and lists, numbers of their kinds); none of our own.
-/
import Derived.Test.YtckjobcagniieaaPFnExactSignedByx8
import Derived.Laws.BitsAllLaws
import Derived.Test.YtckjobcagniieaaQuadsD
import Derived.Test.YtckjobcagniieaaLevels
import Derived.Test.YtckjobcagniieaaFormed
namespace Go.Proofs.Ytckjobcagniieaa.Pure
open Go.RowKit Go.Proofs.Ytckjobcagniieaa.PFnExactSignedBy Go.Proofs.YtckjobcagniieaaW.PrintWords Go.Proofs.YtckjobcagniieaaW.PrintLast Go.Proofs.YtckjobcagniieaaW.PrintMore Go.Proofs.Ytckjobcagniieaa.Sha Go.Proofs.Ytckjobcagniieaa.Blk Go.Proofs.Ytckjobcagniieaa.Dig Go.Proofs.Ytckjobcagniieaa.Quads
set_option linter.unusedVariables false

theorem evp {α : Type} {c : Prop} [Decidable c] {f g : Nat → Option α} {r : α} (hc : c) (h : Ev f r) : Ev (fun k => if c then f k else g k) r := Ev.congr (fun _ => if_pos hc) h
theorem evn {α : Type} {c : Prop} [Decidable c] {f g : Nat → Option α} {r : α} (hc : ¬ c) (h : Ev g r) : Ev (fun k => if c then f k else g k) r := Ev.congr (fun _ => if_neg hc) h
theorem evs {α : Type} {x y : α} (h : x = y) : Ev (fun _ => some x) y := by subst h; exact Ev.now _
theorem evc {α : Type} {x : Option α} {y : α} (h : x = some y) : Ev (fun _ => x) y := by subst h; exact Ev.now _
theorem w64 {n : Int} (h1 : -9223372036854775808 ≤ n) (h2 : n ≤ 9223372036854775807) : wrap64 n = n := IntWalk.wrap64_in n ⟨h1, h2⟩
theorem w64n (n : Nat) (h : n ≤ 9223372036854775807) : wrap64 (n : Int) = (n : Int) := w64 (by omega) (by omega)
theorem w64s (n : Nat) (h : n + 1 ≤ 9223372036854775807) : wrap64 ((n : Int) + 1) = ((n + 1 : Nat) : Int) := by rw [w64 (by omega) (by omega)]; rfl
theorem w64a (a b : Nat) (h : a + b ≤ 9223372036854775807) : wrap64 ((a : Int) + (b : Int)) = ((a + b : Nat) : Int) := by rw [w64 (by omega) (by omega)]; rfl
theorem w64m (a b : Nat) (h : a * b ≤ 9223372036854775807) : wrap64 ((a : Int) * (b : Int)) = ((a * b : Nat) : Int) := by
  have e : ((a * b : Nat) : Int) = (a : Int) * (b : Int) := Int.natCast_mul a b
  rw [w64 (by omega) (by omega), e]
theorem wf64 {n : Int} (h : (Lit.int .i64 n).wf = true) : -9223372036854775808 ≤ n ∧ n ≤ 9223372036854775807 := by
  simp [Lit.wf, IntKind.min, IntKind.max, IntKind.bits, IntKind.signed] at h
  omega
theorem bt_lo (s : ByteArray) (i : Int) : 0 ≤ bt s i := (bt_range s i).1
theorem bt_hi (s : ByteArray) (i : Int) : bt s i ≤ 255 := (bt_range s i).2
theorem wfu32 {n : Int} (h : (Lit.int .u32 n).wf = true) : 0 ≤ n ∧ n < 4294967296 := by
  simp [Lit.wf, IntKind.min, IntKind.max, IntKind.bits, IntKind.signed] at h
  omega
theorem evb {α β : Type} {x : Option α} {f : Nat → α → Option β} {a : α} {r : β} (h : x = some a) (k : Ev (fun n => f n a) r) : Ev (fun n => x.bind (f n)) r := Ev.bind (g := fun _ => x) (evc h) k
theorem i64_nat (a b : Nat) (ha : a < 9223372036854775808) (hb : b < 9223372036854775808) : Go.bits .and .i64 (a : Int) (b : Int) = ((a &&& b : Nat) : Int) ∧ Go.bits .or .i64 (a : Int) (b : Int) = ((a ||| b : Nat) : Int) :=
  bits_nat .i64 63 (by decide) (fun m h0 h1 => by rw [IntKind.wrap_i64]; omega) a b ha hb

theorem tl_inj {a b : ByteArray} : a.toList = b.toList ↔ a = b := by
  rw [ByteArray.toList_eq, ByteArray.toList_eq]
  exact ⟨fun h => ByteArray.ext (Array.toList_inj.mp h), fun h => by rw [h]⟩
theorem son_bytesOf (s : ByteArray) : strOfNums (bytesOf s) = s := by
  apply tl_inj.1
  rw [ByteArray.toList_eq, ByteArray.toList_eq, strOfNums_data, bytesOf, List.map_map]
  have : ((fun n : Int => UInt8.ofNat n.toNat) ∘ fun b : UInt8 => (b.toNat : Int)) = id := by
    funext b; simp
  rw [this, List.map_id]
theorem bytesOf_son (l : List Int) (h : ∀ b ∈ l, 0 ≤ b ∧ b ≤ 255) : bytesOf (strOfNums l) = l := by
  rw [bytesOf, strOfNums_data, List.map_map]
  have : l.map ((fun b : UInt8 => (b.toNat : Int)) ∘ fun n : Int => UInt8.ofNat n.toNat) = l.map id := by
    apply List.map_congr_left
    intro b hb
    have := h b hb
    simp only [Function.comp, id, UInt8.toNat_ofNat']
    omega
  rw [this, List.map_id]
theorem bytesOf_inj {a b : ByteArray} (h : bytesOf a = bytesOf b) : a = b := by rw [← son_bytesOf a, ← son_bytesOf b, h]
theorem bytesOf_extract (s : ByteArray) (a b : Nat) : bytesOf (s.extract a b) = ((bytesOf s).drop a).take (b - a) := by
  unfold bytesOf
  rw [ByteArray.data_extract]
  simp [List.map_take, List.map_drop, List.extract]
theorem bytesOf_append (a b : ByteArray) : bytesOf (a ++ b) = bytesOf a ++ bytesOf b := by
  unfold bytesOf
  rw [ByteArray.data_append]
  simp
theorem bytesOf_range (s : ByteArray) : ∀ b ∈ bytesOf s, 0 ≤ b ∧ b ≤ 255 := by
  intro b hb
  unfold bytesOf at hb
  obtain ⟨c, _, rfl⟩ := List.mem_map.1 hb
  have := c.toNat_lt
  omega
theorem bytesOf_drop (s : ByteArray) (i : Nat) (h : i < s.size) : (bytesOf s).drop i = bt s (i : Int) :: (bytesOf s).drop (i + 1) := by
  have hl : i < (bytesOf s).length := by rw [bytesOf_length]; exact h
  rw [List.drop_eq_getElem_cons hl]
  congr 1
  have := rd_bytesOf s (i : Int)
  rw [← this]
  unfold rd
  simp [List.getD_eq_getElem?_getD, hl]
theorem bt_nat (s : ByteArray) (i : Int) : ∃ n : Nat, bt s i = (n : Int) ∧ n < 256 := by
  have h := bt_range s i
  exact ⟨(bt s i).toNat, by omega, by omega⟩

theorem spec_l01In_is (x a b : Int) : spec_l01In.f x a b = some (decide (a ≤ x ∧ x ≤ b)) := by
  unfold spec_l01In.f
  by_cases h : x ≥ a
  · rw [if_pos h]; congr 1; rw [decide_eq_decide]; exact ⟨fun h2 => ⟨h, h2⟩, fun h2 => h2.2⟩
  · rw [if_neg h]; congr 1; symm; rw [decide_eq_false_iff_not]; exact fun h2 => h h2.1

theorem impl_in_is (x a b : Int) : impl_in.f x a b = some (decide (a ≤ x ∧ x ≤ b)) := by
  unfold impl_in.f
  by_cases h : x ≥ a
  · rw [if_pos h]; congr 1; rw [decide_eq_decide]; exact ⟨fun h2 => ⟨h, h2⟩, fun h2 => h2.2⟩
  · rw [if_neg h]; congr 1; symm; rw [decide_eq_false_iff_not]; exact fun h2 => h h2.1

theorem rd_nat (l : List Int) (i : Nat) (h : i < l.length) : rd l (i : Int) = l[i] := by
  unfold rd
  rw [Int.toNat_natCast, List.getD_eq_getElem?_getD, List.getElem?_eq_getElem h]
  rfl

theorem son_app (a b : List Int) : strOfNums (a ++ b) = strOfNums a ++ strOfNums b := by
  apply tl_inj.1
  rw [ByteArray.toList_eq, ByteArray.toList_eq, ByteArray.data_append, Array.toList_append, strOfNums_data, strOfNums_data, strOfNums_data, List.map_append]
theorem son_byt (s : ByteArray) : strOfNums (Pad.byt s) = s := son_bytesOf s
theorem son_zeros (m : Nat) : strOfNums (List.replicate m 0) = ⟨(List.replicate m (0 : UInt8)).toArray⟩ := by
  apply tl_inj.1
  rw [ByteArray.toList_eq, ByteArray.toList_eq, strOfNums_data, List.map_replicate]
  simp
theorem impl_PadText_l0 (k : Nat) (x : ByteArray) (n : Int) (hx : x.size ≤ 9223372036854775000) : impl_PadText.l0 (k + 9) x n [0, 0, 0, 0, 0, 0, 0, 0] 7 = some (x ++ strOfNums (Pad.be8 n)) := by
  have w7 : wrap64 (7 - 1) = 6 := by unfold wrap64; omega
  have w6 : wrap64 (6 - 1) = 5 := by unfold wrap64; omega
  have w5 : wrap64 (5 - 1) = 4 := by unfold wrap64; omega
  have w4 : wrap64 (4 - 1) = 3 := by unfold wrap64; omega
  have w3 : wrap64 (3 - 1) = 2 := by unfold wrap64; omega
  have w2 : wrap64 (2 - 1) = 1 := by unfold wrap64; omega
  have w1 : wrap64 (1 - 1) = 0 := by unfold wrap64; omega
  have w0 : wrap64 (0 - 1) = -1 := by unfold wrap64; omega
  rw [impl_PadText.l0, if_pos (by decide), if_pos (by decide), if_pos (by simp), w7]
  rw [impl_PadText.l0, if_pos (by decide), if_pos (by decide), if_pos (by simp), w6]
  rw [impl_PadText.l0, if_pos (by decide), if_pos (by decide), if_pos (by simp), w5]
  rw [impl_PadText.l0, if_pos (by decide), if_pos (by decide), if_pos (by simp), w4]
  rw [impl_PadText.l0, if_pos (by decide), if_pos (by decide), if_pos (by simp), w3]
  rw [impl_PadText.l0, if_pos (by decide), if_pos (by decide), if_pos (by simp), w2]
  rw [impl_PadText.l0, if_pos (by decide), if_pos (by decide), if_pos (by simp), w1]
  rw [impl_PadText.l0, if_pos (by decide), if_pos (by decide), if_pos (by simp), w0]
  have e : (((((((([0, 0, 0, 0, 0, 0, 0, 0] : List Int).set (7 : Int).toNat (n % 256)).set (6 : Int).toNat (n / 256 % 256)).set (5 : Int).toNat (n / 256 / 256 % 256)).set (4 : Int).toNat (n / 256 / 256 / 256 % 256)).set (3 : Int).toNat (n / 256 / 256 / 256 / 256 % 256)).set (2 : Int).toNat (n / 256 / 256 / 256 / 256 / 256 % 256)).set (1 : Int).toNat (n / 256 / 256 / 256 / 256 / 256 / 256 % 256)).set (0 : Int).toNat (n / 256 / 256 / 256 / 256 / 256 / 256 / 256 % 256) = Pad.be8 n := by
    show [n / 256 / 256 / 256 / 256 / 256 / 256 / 256 % 256, n / 256 / 256 / 256 / 256 / 256 / 256 % 256, n / 256 / 256 / 256 / 256 / 256 % 256, n / 256 / 256 / 256 / 256 % 256, n / 256 / 256 / 256 % 256, n / 256 / 256 % 256, n / 256 % 256, n % 256] = _
    unfold Pad.be8
    simp only [List.cons.injEq, and_true]
    omega
  rw [e, impl_PadText.l0, if_neg (by decide), if_pos (by rw [strOfNums_size]; show x.size + 8 ≤ _; omega)]
theorem impl_PadText_is (s : ByteArray) (hs : s.size ≤ 140737488351232) : Ev (fun k => impl_PadText.f k s) (strOfNums (Pad.padB s)) := by
  unfold impl_PadText.f
  refine evp (by omega) ?_
  have hz : (s ++ (⟨#[128]⟩ : ByteArray)).size = s.size + 1 := by rw [ByteArray.size_append]; rfl
  rw [hz]
  have hm : (((56 - (((s.size + 1 : Nat) : Int) % 64)) + 64) % 64).toNat = Pad.padK s.size := by unfold Pad.padK; omega
  have hr : strings_Repeat.f (⟨#[0]⟩ : ByteArray) (((56 - (((s.size + 1 : Nat) : Int) % 64)) + 64) % 64) = some (strOfNums (List.replicate (Pad.padK s.size) 0)) := by
    unfold strings_Repeat.f
    rw [if_pos ⟨by omega, by omega, by decide⟩, hm, son_zeros]
    have : Lib.repeatL [(0 : UInt8)] (Pad.padK s.size) = List.replicate (Pad.padK s.size) 0 := by
      have h := Lib.repeatL_replicate (0 : UInt8) 1 (Pad.padK s.size)
      rw [Nat.mul_one] at h
      exact h
    rw [show (⟨#[0]⟩ : ByteArray).data.toList = [(0 : UInt8)] from rfl, this]
  refine evb hr ?_
  have hk : Pad.padK s.size < 64 := by unfold Pad.padK; omega
  have hz2 : (strOfNums (List.replicate (Pad.padK s.size) 0)).size = Pad.padK s.size := by rw [strOfNums_size, List.length_replicate]
  refine evp (by rw [hz2]; omega) (evp (by omega) ?_)
  have hn : wrap64 (8 * (s.size : Int)) = 8 * (s.size : Int) := w64 (by omega) (by omega)
  rw [hn]
  refine ⟨9, fun k hk => ?_⟩
  obtain ⟨m, rfl⟩ : ∃ m, k = m + 9 := ⟨k - 9, by omega⟩
  have h := impl_PadText_l0 m ((s ++ (⟨#[128]⟩ : ByteArray)) ++ strOfNums (List.replicate (Pad.padK s.size) 0)) (8 * (s.size : Int)) (by rw [ByteArray.size_append, hz, hz2]; omega)
  refine Eq.trans h ?_
  congr 1
  unfold Pad.padB
  rw [son_app, son_app, son_app, son_byt]
  rfl

theorem bits_xor_comm (k : IntKind) (a b : Int) : Go.bits .xor k a b = Go.bits .xor k b a := by
  simp only [Go.bits, BitVec.xor_comm]
theorem impl_turn_is (x n : Int) (h0 : 0 ≤ n) (h1 : n ≤ 32) : impl_turn.f x n = some (tn x n) := by
  unfold impl_turn.f
  have e : wrap64 (32 - n) = 32 - n := w64 (by omega) (by omega)
  have b : IntKind.u32.bits = 32 := rfl
  rw [if_pos h0, e, if_pos (by omega)]
  unfold shr shl tn
  rw [b, Nat.min_eq_left (by omega), Nat.min_eq_left (by omega), IntKind.wrap_u32']
theorem impl_schedule_l1 (b : ByteArray) : ∀ (d i : Nat) (p : List Int), i + d = 64 → 16 ≤ i → p.length = i → schedGo d p = sched b → Ev (fun k => impl_schedule.l1 k p (i : Int)) (sched b) := by
  intro d
  induction d with
  | zero =>
    intro i p h1 h2 h3 h4
    refine Ev.step (fun k => by rw [impl_schedule.l1]) (evn (by omega) (evs ?_))
    rw [schedGo] at h4
    exact h4
  | succ d ih =>
    intro i p h1 h2 h3 h4
    have e15 : wrap64 ((i : Int) - 15) = ((p.length : Int) - 15) := by rw [w64 (by omega) (by omega)]; omega
    have e2 : wrap64 ((i : Int) - 2) = ((p.length : Int) - 2) := by rw [w64 (by omega) (by omega)]; omega
    have e16 : wrap64 ((i : Int) - 16) = ((p.length : Int) - 16) := by rw [w64 (by omega) (by omega)]; omega
    have e7 : wrap64 ((i : Int) - 7) = ((p.length : Int) - 7) := by rw [w64 (by omega) (by omega)]; omega
    have e1 : wrap64 ((i : Int) + 1) = ((i + 1 : Nat) : Int) := w64s i (by omega)
    refine Ev.step (fun k => by rw [impl_schedule.l1]) ?_
    simp only [e15, e2, e16, e7, e1]
    refine evp (by omega) (evp (by omega) (evp (by omega) (evp (by omega) (evp (by omega) ?_))))
    refine evb (impl_turn_is _ _ (by omega) (by omega)) (evb (impl_turn_is _ _ (by omega) (by omega)) (evb (impl_turn_is _ _ (by omega) (by omega)) (evb (impl_turn_is _ _ (by omega) (by omega)) ?_)))
    refine evp (by omega) (evp (by omega) (evp (by omega) (evp (by omega) (evp (by omega) ?_))))
    refine Ev.congr (fun k => ?_) (ih (i + 1) (p ++ [nextW' p (p.length : Int)]) (by omega) (by omega) (by rw [List.length_append, h3]; rfl) h4)
    congr 3
    unfold nextW' nextW
    simp only [Int.emod_add_emod]
theorem impl_schedule_l0 (b : ByteArray) (hb : b.size = 64) : ∀ (d i : Nat), i + d = 16 → Ev (fun k => impl_schedule.l0 k b (w16 b i) (i : Int)) (sched b) := by
  intro d
  induction d with
  | zero =>
    intro i h1
    have hi : i = 16 := by omega
    subst hi
    refine Ev.step (fun k => by rw [impl_schedule.l0]) (evn (by decide) ?_)
    exact impl_schedule_l1 b 48 16 (w16 b 16) (by omega) (by omega) (by simp [w16]) rfl
  | succ d ih =>
    intro i h1
    have hl : (w16 b i).length = i := by simp [w16]
    have e0 : wrap64 (4 * (i : Int)) = 4 * (i : Int) := w64 (by omega) (by omega)
    have e1 : wrap64 (4 * (i : Int) + 1) = 4 * (i : Int) + 1 := w64 (by omega) (by omega)
    have e2 : wrap64 (4 * (i : Int) + 2) = 4 * (i : Int) + 2 := w64 (by omega) (by omega)
    have e3 : wrap64 (4 * (i : Int) + 3) = 4 * (i : Int) + 3 := w64 (by omega) (by omega)
    have e5 : wrap64 ((i : Int) + 1) = ((i + 1 : Nat) : Int) := w64s i (by omega)
    refine Ev.step (fun k => by rw [impl_schedule.l0]) ?_
    simp only [e0, e1, e2, e3, e5]
    refine evp (by omega) (evp (by omega) (evp (by omega) (evp (by omega) (evp (by omega) (evp (by omega) (evp (by omega) (evp (by omega) (evp (by omega) (evp (by omega) ?_)))))))))
    refine Ev.congr (fun k => ?_) (ih (i + 1) (by omega))
    have : w16 b (i + 1) = w16 b i ++ [word b (i : Int)] := by simp [w16, List.range_succ]
    rw [this]
    rfl
theorem impl_schedule_is (b : ByteArray) (hb : b.size = 64) : Ev (fun k => impl_schedule.f k b) (sched b) := impl_schedule_l0 b hb 16 0 rfl
theorem impl_ShaBlock_l2 (h s : List Int) (hh : h.length = 8) (hs : s.length = 8) (hr : ∀ x ∈ h, 0 ≤ x ∧ x ≤ 4294967295) : ∀ (d i : Nat), i + d = 8 → Ev (fun k => impl_ShaBlock.l2 k ((fin h s).take i ++ h.drop i) s 8 (i : Int)) (fin h s) := by
  have hf : (fin h s).length = 8 := fin_len hh hs
  intro d
  induction d with
  | zero =>
    intro i h1
    have hi : i = 8 := by omega
    subst hi
    refine Ev.step (fun k => by rw [impl_ShaBlock.l2]) (evn (by decide) (evs ?_))
    rw [List.take_of_length_le (by omega), List.drop_of_length_le (by omega), List.append_nil]
  | succ d ih =>
    intro i h1
    have hl : ((fin h s).take i ++ h.drop i).length = 8 := by rw [List.length_append, List.length_take, List.length_drop]; omega
    refine Ev.step (fun k => by rw [impl_ShaBlock.l2]) ?_
    refine evp (by omega) (evp (by omega) (evp (by omega) (evp (by omega) ?_)))
    rw [w64s i (by omega)]
    refine Ev.congr (fun k => ?_) (ih (i + 1) (by omega))
    rw [← fin_step h s i hh hs (by omega)]
    simp only [Int.toNat_natCast, Int.emod_add_emod]
theorem rnd_is (s : List Int) (k w : Int) : rnd s k w = [((((((((((rd s 7) + (Go.bits .xor .u32 (Go.bits .xor .u32 (tn (rd s 4) 6) (tn (rd s 4) 11)) (tn (rd s 4) 25))) % 4294967296) + (Go.bits .xor .u32 (Go.bits .and .u32 (rd s 4) (rd s 5)) (Go.bits .and .u32 (Go.bits .xor .u32 IntKind.u32.max (rd s 4)) (rd s 6)))) % 4294967296) + k) % 4294967296) + w) % 4294967296) + (((Go.bits .xor .u32 (Go.bits .xor .u32 (tn (rd s 0) 2) (tn (rd s 0) 13)) (tn (rd s 0) 22)) + (Go.bits .xor .u32 (Go.bits .xor .u32 (Go.bits .and .u32 (rd s 0) (rd s 1)) (Go.bits .and .u32 (rd s 0) (rd s 2))) (Go.bits .and .u32 (rd s 1) (rd s 2)))) % 4294967296)) % 4294967296, rd s 0, rd s 1, rd s 2, ((rd s 3) + (((((((((rd s 7) + (Go.bits .xor .u32 (Go.bits .xor .u32 (tn (rd s 4) 6) (tn (rd s 4) 11)) (tn (rd s 4) 25))) % 4294967296) + (Go.bits .xor .u32 (Go.bits .and .u32 (rd s 4) (rd s 5)) (Go.bits .and .u32 (Go.bits .xor .u32 IntKind.u32.max (rd s 4)) (rd s 6)))) % 4294967296) + k) % 4294967296) + w) % 4294967296)) % 4294967296, rd s 4, rd s 5, rd s 6] := by
  have hm : IntKind.u32.max = 4294967295 := rfl
  unfold rnd
  rw [hm, bits_xor_comm .u32 4294967295 (rd s 4)]
  simp only [Int.emod_add_emod, r1, r2]
theorem keys_len : keys.length = 64 := rfl
theorem rndsGo_drop (ks ws s : List Int) (i : Nat) (h1 : i < ks.length) (h2 : i < ws.length) : rndsGo (ks.drop i) (ws.drop i) s = rndsGo (ks.drop (i + 1)) (ws.drop (i + 1)) (rnd s (rd ks (i : Int)) (rd ws (i : Int))) := by
  rw [drop_rd ks i h1, drop_rd ws i h2, rndsGo]
theorem impl_ShaBlock_l1 (h : List Int) (ws t : List Int) (hw : ws.length = 64) (hh : h.length = 8) (hr : ∀ x ∈ h, 0 ≤ x ∧ x ≤ 4294967295) : ∀ (d i : Nat) (s : List Int), i + d = 64 → s.length = 8 → rndsGo (keys.drop i) (ws.drop i) s = t → Ev (fun k => impl_ShaBlock.l1 k h s keys ws 64 (i : Int)) (fin h t) := by
  intro d
  induction d with
  | zero =>
    intro i s h1 h2 h3
    have hi : i = 64 := by omega
    subst hi
    refine Ev.step (fun k => by rw [impl_ShaBlock.l1]) (evn (by decide) ?_)
    rw [List.drop_of_length_le (by rw [keys_len]; exact Nat.le_refl _), rndsGo_nil] at h3
    subst h3
    have := impl_ShaBlock_l2 h s hh h2 hr 8 0 rfl
    rw [List.take_zero, List.drop_zero, List.nil_append] at this
    rw [h2]
    exact this
  | succ d ih =>
    intro i s h1 h2 h3
    have hk := keys_len
    refine Ev.step (fun k => by rw [impl_ShaBlock.l1]) ?_
    refine evp (by omega) (evp (by omega) (evp (by omega) (evp (by omega) (evp (by omega) (evp (by omega) ?_)))))
    refine evb (impl_turn_is _ _ (by omega) (by omega)) (evb (impl_turn_is _ _ (by omega) (by omega)) (evb (impl_turn_is _ _ (by omega) (by omega)) ?_))
    refine evp (by omega) (evp (by omega) (evp (by omega) ?_))
    refine evb (impl_turn_is _ _ (by omega) (by omega)) (evb (impl_turn_is _ _ (by omega) (by omega)) (evb (impl_turn_is _ _ (by omega) (by omega)) ?_))
    refine evp (by omega) (evp (by omega) (evp (by omega) ?_))
    rw [← rnd_is, w64s i (by omega)]
    refine ih (i + 1) _ (by omega) (rnd_len _ _ _) ?_
    rw [← h3]
    exact (rndsGo_drop keys ws s i (by omega) (by omega)).symm
def shaB (h : List Int) (b : ByteArray) : List Int := if h.length = 8 ∧ b.size = 64 ∧ (∀ x ∈ h, 0 ≤ x ∧ x ≤ 4294967295) then blk h b else h
theorem impl_rounds_is : impl_rounds.f = some keys := rfl
theorem impl_ShaBlock_l0 (h : List Int) (b : ByteArray) (hb : b.size = 64) (hh : h.length = 8) : ∀ (d i : Nat), i + d = 8 → (∀ j, j < i → 0 ≤ rd h (j : Int) ∧ rd h (j : Int) ≤ 4294967295) → Ev (fun k => impl_ShaBlock.l0 k b h (h.take i ++ List.replicate (8 - i) 0) h 8 (i : Int)) (shaB h b) := by
  intro d
  induction d with
  | zero =>
    intro i h1 h2
    have hi : i = 8 := by omega
    subst hi
    have hr : ∀ x ∈ h, 0 ≤ x ∧ x ≤ 4294967295 := by
      intro x hx
      obtain ⟨j, hj, rfl⟩ := List.mem_iff_getElem.1 hx
      have := h2 j (by omega)
      rwa [rd_nat h j hj] at this
    refine Ev.step (fun k => by rw [impl_ShaBlock.l0]) (evn (by decide) (evb impl_rounds_is (Ev.bind (impl_schedule_is b hb) ?_)))
    have e : shaB h b = fin h (rndsGo keys (sched b) h) := by unfold shaB; rw [if_pos ⟨hh, hb, hr⟩]; rfl
    rw [e, sched_len, List.take_of_length_le (by omega), show 8 - 8 = 0 from rfl, List.replicate_zero, List.append_nil]
    exact impl_ShaBlock_l1 h (sched b) _ (sched_len b) hh hr 64 0 h rfl hh rfl
  | succ d ih =>
    intro i h1 h2
    have hl : (h.take i ++ List.replicate (8 - i) (0 : Int)).length = 8 := by rw [List.length_append, List.length_take, List.length_replicate]; omega
    refine Ev.step (fun k => by rw [impl_ShaBlock.l0]) ?_
    refine evp (by omega) (evp (by omega) (evp (by omega) (evb (impl_in_is _ _ _) ?_)))
    by_cases hc : 0 ≤ rd h (i : Int) ∧ rd h (i : Int) ≤ 4294967295
    · refine evp (decide_eq_true hc) (evp (by omega) ?_)
      rw [w64s i (by omega)]
      refine Ev.congr (fun k => ?_) (ih (i + 1) (by omega) ?_)
      · congr 1
        rw [Int.emod_eq_of_lt hc.1 (by omega), Int.toNat_natCast, List.set_append_right _ _ (by rw [List.length_take]; omega), List.length_take, show i - min i h.length = 0 by omega, show 8 - i = (8 - (i + 1)) + 1 by omega, List.replicate_succ, List.set_cons_zero, List.take_succ_eq_append_getElem (by omega : i < h.length), List.append_assoc, rd_nat h i (by omega)]
        rfl
      · intro j hj
        by_cases hji : j = i
        · subst hji; exact hc
        · exact h2 j (by omega)
    · refine evn (by rw [decide_eq_false hc]; simp) (evs ?_)
      unfold shaB
      rw [if_neg]
      rintro ⟨_, _, hr⟩
      exact hc (by rw [rd_nat h i (by omega)]; exact hr _ (List.getElem_mem _))
theorem impl_ShaBlock_is (h : List Int) (b : ByteArray) (hl : h.length < 17592186044416) : Ev (fun k => impl_ShaBlock.f k h b) (shaB h b) := by
  unfold impl_ShaBlock.f
  refine evb rfl (evp (by simpa using hl) (evb rfl ?_))
  rw [List.nil_append]
  by_cases h8 : h.length = 8
  · refine evp (by omega) (Ev.step (fun k => by rw [impl_ShaBlock.j0]) ?_)
    by_cases hb : b.size = 64
    · refine evn (by simp [hb]) (evp (by omega) ?_)
      rw [h8]
      exact impl_ShaBlock_l0 h b hb h8 8 0 rfl (fun j hj => by omega)
    · refine evp (by simp; omega) (evs ?_)
      unfold shaB
      rw [if_neg (fun hc => hb hc.2.1)]
  · refine evn (by omega) (Ev.step (fun k => by rw [impl_ShaBlock.j0]) (evp rfl (evs ?_)))
    unfold shaB
    rw [if_neg (fun hc => h8 hc.1)]

theorem shaB_blk (h : List Int) (b : ByteArray) (h8 : h.length = 8) (hb : b.size = 64) (hr : ∀ x ∈ h, 0 ≤ x ∧ x ≤ 4294967295) : shaB h b = blk h b := by unfold shaB; rw [if_pos ⟨h8, hb, hr⟩]
theorem impl_Digest_l1 (h : List Int) (h8 : h.length = 8) : ∀ (d i : Nat), i + d = 8 → Ev (fun k => impl_Digest.l1 k (digB (h.take i)) h 8 (i : Int)) (strOfNums (digB h)) := by
  intro d
  induction d with
  | zero =>
    intro i h1
    have hi : i = 8 := by omega
    subst hi
    refine Ev.step (fun k => by rw [impl_Digest.l1]) (evn (by decide) (evs ?_))
    rw [List.take_of_length_le (by omega)]
  | succ d ih =>
    intro i h1
    refine Ev.step (fun k => by rw [impl_Digest.l1]) ?_
    have hl : (digB (h.take i)).length = 4 * i := by rw [digB_len, List.length_take]; omega
    refine evp (by omega) (evp (by omega) (evp (by omega) (evb rfl (evp ?_ ?_))))
    · rw [hl]; simp; omega
    · rw [w64s i (by omega)]
      refine Ev.congr (fun k => ?_) (ih (i + 1) (by omega))
      rw [List.take_succ_eq_append_getElem (by omega : i < h.length), digB_app, ← rd_nat h i (by omega)]
      rfl
theorem impl_Digest_l0 (p : ByteArray) (m : Nat) (hp : p.size = 64 * m) (hm : p.size ≤ 140737488355328) (t : List Int) : ∀ (d i : Nat) (h : List Int), i + d = m → h.length = 8 → (∀ x ∈ h, 0 ≤ x ∧ x ≤ 4294967295) → blocksGo d h p (64 * i) = t → Ev (fun k => impl_Digest.l0 k h p ((64 * i : Nat) : Int)) (strOfNums (digB t)) := by
  intro d
  induction d with
  | zero =>
    intro i h h1 h8 hr ht
    refine Ev.step (fun k => by rw [impl_Digest.l0]) (evn (by omega) ?_)
    rw [blocksGo] at ht
    subst ht
    rw [h8]
    exact impl_Digest_l1 h h8 8 0 rfl
  | succ d ih =>
    intro i h h1 h8 hr ht
    have e : wrap64 (((64 * i : Nat) : Int) + 64) = ((64 * (i + 1) : Nat) : Int) := by rw [w64 (by omega) (by omega)]; omega
    have hb : (p.extract (64 * i) (64 * i + 64)).size = 64 := by rw [ByteArray.size_extract]; omega
    refine Ev.step (fun k => by rw [impl_Digest.l0]) ?_
    rw [e]
    refine evp (by omega) (evp (by omega) (evp (by omega) (evp (by omega) ?_)))
    rw [Int.toNat_natCast, Int.toNat_natCast, show 64 * (i + 1) = 64 * i + 64 by omega]
    refine Ev.bind (impl_ShaBlock_is h _ (by omega)) ?_
    rw [shaB_blk h _ h8 hb hr]
    have hs := rndsGo_len keys (sched (p.extract (64 * i) (64 * i + 64))) h h8
    have := ih (i + 1) (blk h (p.extract (64 * i) (64 * i + 64))) (by omega) (blk_len _ h8) fin_range ?_
    · rw [show 64 * (i + 1) = 64 * i + 64 by omega] at this
      exact this
    · rw [← ht, blocksGo]
      rfl
theorem impl_Digest_is (s : ByteArray) (hs : s.size ≤ 140737488351232) : Ev (fun k => impl_Digest.f k s) (dig s) := by
  unfold impl_Digest.f
  refine evb (a := first) rfl (Ev.bind (impl_PadText_is s hs) ?_)
  have hsz : (strOfNums (Pad.padB s)).size = 64 * ((s.size + 9 + Pad.padK s.size) / 64) := by rw [strOfNums_size, padB_len]
  have hk : Pad.padK s.size < 64 := by unfold Pad.padK; omega
  exact impl_Digest_l0 (strOfNums (Pad.padB s)) _ hsz (by rw [hsz]; omega) _ _ 0 first (Nat.zero_add _) rfl (by decide) rfl
theorem blocksGo_len : ∀ (d : Nat) (h : List Int) (p : ByteArray) (i : Nat), h.length = 8 → (blocksGo d h p i).length = 8
  | 0, _, _, _, h => h
  | d + 1, h, p, i, h8 => blocksGo_len d _ p _ (blk_len _ h8)
theorem dig_size (s : ByteArray) : (dig s).size = 32 := by
  unfold dig
  rw [strOfNums_size, digB_len, blocksGo_len _ _ _ _ rfl]

theorem spec_Digest_is (s : ByteArray) (hs : s.size ≤ 140737488351232) : spec_Digest.f s = some (dig s) := by
  unfold spec_Digest.f
  rw [if_pos hs]

def cutD (s : ByteArray) (n : Nat) : ByteArray := (dig s).extract 0 n
theorem cutD_size (s : ByteArray) (n : Nat) (h : n ≤ 32) : (cutD s n).size = n := by
  unfold cutD
  rw [ByteArray.size_extract, dig_size]
  omega
def cutW (s : ByteArray) (w : Int) : ByteArray := if 1 ≤ w ∧ w ≤ 32 then cutD s w.toNat else ⟨#[]⟩
theorem impl_CutDigest_is (s : ByteArray) (w : Int) (hs : s.size ≤ 140737488351232) : Ev (fun k => impl_CutDigest.f k s w) (cutW s w) := by
  unfold impl_CutDigest.f cutW
  refine evb (impl_in_is _ _ _) ?_
  by_cases h : 1 ≤ w ∧ w ≤ 32
  · rw [if_pos h]
    refine evp (by simpa using h) (Ev.bind (impl_Digest_is s hs) (evp (by omega) (evp (by rw [dig_size]; omega) (evs rfl))))
  · rw [if_neg h]
    exact evn (by simpa using h) (evs rfl)

theorem spec_CutDigest_is (s : ByteArray) (w : Int) (hs : s.size ≤ 140737488351232) : spec_CutDigest.f s w = some (cutW s w) := by
  unfold spec_CutDigest.f cutW
  rw [spec_l01In_is, Option.bind_some]
  by_cases h : 1 ≤ w ∧ w ≤ 32
  · rw [if_pos (by simpa using h), if_pos h, spec_Digest_is s hs, Option.bind_some, if_pos (by omega), if_pos (by rw [dig_size]; omega)]
    rfl
  · rw [if_neg (by simpa using h), if_neg h]

theorem spec_l04Cut_is (s : ByteArray) (hs : s.size ≤ 140737488351232) : spec_l04Cut.f s = some (cutD s 8) := by
  unfold spec_l04Cut.f
  rw [spec_CutDigest_is s 8 hs]
  rfl
theorem impl_short_is (c : Int) (s : ByteArray) (hs : s.size ≤ 140737488350000) : Ev (fun k => impl_short.f k c s) (cutD (strOfNums [c] ++ s) 8) := by
  unfold impl_short.f
  have h1 : (strOfNums [c]).size = 1 := by rw [strOfNums_size]; rfl
  refine evb rfl (evp (by rw [h1]; omega) ?_)
  refine Ev.bind (impl_CutDigest_is _ 8 (by rw [ByteArray.size_append, h1]; omega)) (evs rfl)

def chainN : Nat → ByteArray → ByteArray
  | 0, t => t
  | n + 1, t => chainN n (cutD ((⟨#[99]⟩ : ByteArray) ++ t) 8)
theorem size99 (t : ByteArray) : ((⟨#[99]⟩ : ByteArray) ++ t).size = 1 + t.size := by rw [ByteArray.size_append]; rfl
def chainC (n : Int) : Nat := (min n 3).toNat
theorem spec_ChainOf_l (n : Int) : ∀ (d i : Nat) (t : ByteArray), i + d = chainC n → t.size ≤ 140737488350000 → Ev (fun k => spec_ChainOf.l0 k t n (i : Int)) (chainN d t) := by
  intro d
  induction d with
  | zero =>
    intro i t h _
    refine Ev.step (fun k => by rw [spec_ChainOf.l0]) ?_
    unfold chainC at h
    by_cases h1 : (i : Int) < n
    · exact evp h1 (evn (by omega) (evs rfl))
    · exact evn h1 (evs rfl)
  | succ d ih =>
    intro i t h ht
    refine Ev.step (fun k => by rw [spec_ChainOf.l0]) ?_
    have h' := h
    unfold chainC at h'
    refine evp (by omega) (evp (by omega) (evp (by omega) (evb (spec_l04Cut_is _ (by rw [size99]; omega)) ?_)))
    rw [w64s i (by omega)]
    exact ih (i + 1) _ (by omega) (by rw [cutD_size _ _ (by omega)]; omega)
theorem spec_ChainOf_is (t : ByteArray) (n : Int) (ht : t.size ≤ 140737488350000) : Ev (fun k => spec_ChainOf.f k t n) (chainN (chainC n) t) := spec_ChainOf_l n (chainC n) 0 t (Nat.zero_add _) ht
theorem impl_ChainOf_l (c : Nat) (hc : c ≤ 3) : ∀ (d i : Nat) (t : ByteArray), i + d = c → t.size ≤ 140737488350000 → Ev (fun k => impl_ChainOf.l0 k t (c : Int) (i : Int)) (chainN d t) := by
  intro d
  induction d with
  | zero =>
    intro i t h _
    refine Ev.step (fun k => by rw [impl_ChainOf.l0]) ?_
    exact evn (by omega) (evs rfl)
  | succ d ih =>
    intro i t h ht
    refine Ev.step (fun k => by rw [impl_ChainOf.l0]) ?_
    refine evp (by omega) (Ev.bind (impl_short_is 99 t ht) ?_)
    rw [w64s i (by omega)]
    exact ih (i + 1) _ (by omega) (by rw [cutD_size _ _ (by omega)]; omega)
theorem impl_ChainOf_is (t : ByteArray) (n : Int) (ht : t.size ≤ 140737488350000) : Ev (fun k => impl_ChainOf.f k t n) (chainN (chainC n) t) := by
  unfold impl_ChainOf.f
  have e : mx 0 (mn n 3) = (chainC n : Int) := by unfold mx mn chainC; omega
  rw [e]
  exact impl_ChainOf_l (chainC n) (by unfold chainC; omega) (chainC n) 0 t (Nat.zero_add _) ht
theorem chainN_size : ∀ (n : Nat) (t : ByteArray), 0 < n → (chainN n t).size = 8
  | 0, _, h => absurd h (by omega)
  | 1, t, _ => cutD_size _ _ (by omega)
  | n + 2, t, _ => chainN_size (n + 1) _ (by omega)

def nodeK (x y : ByteArray) : ByteArray := cutD ((⟨#[110]⟩ : ByteArray) ++ (x ++ y)) 8
theorem size108 (t : ByteArray) : ((⟨#[108]⟩ : ByteArray) ++ t).size = 1 + t.size := by rw [ByteArray.size_append]; rfl

theorem i64_and3 (n : Nat) (h : n ≤ 9223372036854775807) : Go.bits .and .i64 (n : Int) 3 = ((n % 4 : Nat) : Int) := by
  have := (i64_nat n 3 (by omega) (by omega)).1
  rw [nat_mask2] at this
  exact this
def qn (n : Nat) : List Int := [((n / 64 % 4 : Nat) : Int), ((n / 16 % 4 : Nat) : Int), ((n / 4 % 4 : Nat) : Int), ((n % 4 : Nat) : Int)]
def qs (n : Nat) : Int := ((n / 64 % 4 + n / 16 % 4 + n / 4 % 4 + n % 4 : Nat) : Int)
theorem quadL_nat (n : Nat) (h : n < 256) : quadL (n : Int) = qn n := by
  have a := i64_and3 (n / 64) (by omega)
  have b := i64_and3 (n / 16) (by omega)
  have c := i64_and3 (n / 4) (by omega)
  have d := i64_and3 n (by omega)
  unfold quadL qn
  rw [← a, ← b, ← c, ← d]
  rfl
theorem qval (n s : Nat) (m : Int) (hn : n < 256) (hm : m = (s : Int)) (hs : s ≤ 6) (hu : IntKind.u64.wrap m = m) : Go.bits .and .i64 (shr .i64 (wrap64 (n : Int)) (IntKind.u64.wrap m)) 3 = ((n / 2 ^ s % 4 : Nat) : Int) := by
  rw [hu, hm, w64 (by omega) (by omega)]
  unfold shr
  have b : IntKind.i64.bits = 64 := rfl
  rw [b, Int.toNat_natCast, Nat.min_eq_left (by omega)]
  have e : (n : Int) / 2 ^ s = ((n / 2 ^ s : Nat) : Int) := by norm_cast
  rw [e]
  exact i64_and3 _ (Nat.le_trans (Nat.div_le_self _ _) (by omega))
theorem spec_Quads_l1 (d : ByteArray) (hd : d.size = 32) (i : Nat) (hi : i < 2) (n : Nat) (hn : n < 256) (hb : bt d (i : Int) = (n : Int)) (acc : List Int) (ha : acc.length ≤ 100) (s : Int) (h0 : 0 ≤ s) (h1 : s ≤ 100) (r : List Int)
    (h : Ev (fun k => spec_QuadsOf.l0 k d (acc ++ qn n) (s + qs n) ((i + 1 : Nat) : Int)) r) : Ev (fun k => spec_QuadsOf.l1 k d acc s (i : Int) 6) r := by
  have u6 : IntKind.u64.wrap 6 = 6 := rfl
  have u4 : IntKind.u64.wrap 4 = 4 := rfl
  have u2 : IntKind.u64.wrap 2 = 2 := rfl
  have u0 : IntKind.u64.wrap 0 = 0 := rfl
  have w6 : wrap64 (6 - 2) = 4 := by unfold wrap64; omega
  have w4 : wrap64 (4 - 2) = 2 := by unfold wrap64; omega
  have w2 : wrap64 (2 - 2) = 0 := by unfold wrap64; omega
  have w0 : wrap64 (0 - 2) = -2 := by unfold wrap64; omega
  have v6 := qval n 6 6 hn rfl (by omega) u6
  have v4 := qval n 4 4 hn rfl (by omega) u4
  have v2 := qval n 2 2 hn rfl (by omega) u2
  have v0 := qval n 0 0 hn rfl (by omega) u0
  refine Ev.step (fun k => by rw [spec_QuadsOf.l1]) ?_
  rw [hb, v6, w6, w64 (by omega) (by omega)]
  refine evp (by omega) (evp (by omega) (evp (by omega) (evp (by rw [u6]; omega) (evp (by omega) ?_))))
  refine Ev.step (fun k => by rw [spec_QuadsOf.l1]) ?_
  rw [hb, v4, w4, w64 (by omega) (by omega)]
  refine evp (by omega) (evp (by omega) (evp (by omega) (evp (by rw [u4]; omega) (evp (by simp; omega) ?_))))
  refine Ev.step (fun k => by rw [spec_QuadsOf.l1]) ?_
  rw [hb, v2, w2, w64 (by omega) (by omega)]
  refine evp (by omega) (evp (by omega) (evp (by omega) (evp (by rw [u2]; omega) (evp (by simp; omega) ?_))))
  refine Ev.step (fun k => by rw [spec_QuadsOf.l1]) ?_
  rw [hb, v0, w0, w64 (by omega) (by omega)]
  refine evp (by omega) (evp (by omega) (evp (by omega) (evp (by rw [u0]; omega) (evp (by simp; omega) ?_))))
  refine Ev.step (fun k => by rw [spec_QuadsOf.l1]) (evn (by omega) ?_)
  rw [w64s i (by omega)]
  have e1 : acc ++ [((n / 2 ^ 6 % 4 : Nat) : Int)] ++ [((n / 2 ^ 4 % 4 : Nat) : Int)] ++ [((n / 2 ^ 2 % 4 : Nat) : Int)] ++ [((n / 2 ^ 0 % 4 : Nat) : Int)] = acc ++ qn n := by
    simp [qn]
  have e2 : s + ((n / 2 ^ 6 % 4 : Nat) : Int) + ((n / 2 ^ 4 % 4 : Nat) : Int) + ((n / 2 ^ 2 % 4 : Nat) : Int) + ((n / 2 ^ 0 % 4 : Nat) : Int) = s + qs n := by
    unfold qs
    simp
    omega
  rw [e1, e2]
  exact h
theorem miss8 (x1 x2 x3 x4 x5 x6 x7 x8 : Int) (h1 : 0 ≤ x1 ∧ x1 ≤ 3) (h2 : 0 ≤ x2 ∧ x2 ≤ 3) (h3 : 0 ≤ x3 ∧ x3 ≤ 3) (h4 : 0 ≤ x4 ∧ x4 ≤ 3) (h5 : 0 ≤ x5 ∧ x5 ≤ 3) (h6 : 0 ≤ x6 ∧ x6 ≤ 3) (h7 : 0 ≤ x7 ∧ x7 ≤ 3) (h8 : 0 ≤ x8 ∧ x8 ≤ 3) :
    missOf [x1, x2, x3, x4, x5, x6, x7, x8] 8 = 24 - (x1 + x2 + x3 + x4 + x5 + x6 + x7 + x8) := by
  show wrap64 (wrap64 (wrap64 (wrap64 (wrap64 (wrap64 (wrap64 (wrap64 (24 - x1) - x2) - x3) - x4) - x5) - x6) - x7) - x8) = _
  rw [show wrap64 (24 - x1) = 24 - x1 from w64 (by omega) (by omega)]
  rw [show wrap64 (24 - x1 - x2) = 24 - x1 - x2 from w64 (by omega) (by omega)]
  rw [show wrap64 (24 - x1 - x2 - x3) = 24 - x1 - x2 - x3 from w64 (by omega) (by omega)]
  rw [show wrap64 (24 - x1 - x2 - x3 - x4) = 24 - x1 - x2 - x3 - x4 from w64 (by omega) (by omega)]
  rw [show wrap64 (24 - x1 - x2 - x3 - x4 - x5) = 24 - x1 - x2 - x3 - x4 - x5 from w64 (by omega) (by omega)]
  rw [show wrap64 (24 - x1 - x2 - x3 - x4 - x5 - x6) = 24 - x1 - x2 - x3 - x4 - x5 - x6 from w64 (by omega) (by omega)]
  rw [show wrap64 (24 - x1 - x2 - x3 - x4 - x5 - x6 - x7) = 24 - x1 - x2 - x3 - x4 - x5 - x6 - x7 from w64 (by omega) (by omega)]
  rw [show wrap64 (24 - x1 - x2 - x3 - x4 - x5 - x6 - x7 - x8) = 24 - x1 - x2 - x3 - x4 - x5 - x6 - x7 - x8 from w64 (by omega) (by omega)]
  omega
theorem spec_QuadsOf_is (t : ByteArray) (ht : t.size ≤ 140737488351232) : Ev (fun k => spec_QuadsOf.f k t) (quads (dig t)) := by
  unfold spec_QuadsOf.f
  refine evb (spec_Digest_is t ht) ?_
  have hd := dig_size t
  obtain ⟨a, ha, ha2⟩ := bt_nat (dig t) 0
  obtain ⟨b, hb, hb2⟩ := bt_nat (dig t) 1
  have e8 : quads8 (dig t) = qn a ++ qn b := by unfold quads8; rw [ha, hb, quadL_nat a ha2, quadL_nat b hb2]
  have hm : missOf (quads8 (dig t)) 8 = 24 - (qs a + qs b) := by
    rw [e8]
    refine (miss8 _ _ _ _ _ _ _ _ ?_ ?_ ?_ ?_ ?_ ?_ ?_ ?_).trans ?_
    all_goals (try (constructor <;> omega))
    unfold qs
    omega
  refine Ev.step (fun k => by rw [spec_QuadsOf.l0]) (evp (by omega) ?_)
  refine spec_Quads_l1 (dig t) hd 0 (by omega) a ha2 ha [] (by simp) 0 (by omega) (by omega) _ ?_
  refine Ev.step (fun k => by rw [spec_QuadsOf.l0]) (evp (by omega) ?_)
  refine spec_Quads_l1 (dig t) hd 1 (by omega) b hb2 hb (qn a) (by simp [qn]) (0 + qs a) (by unfold qs; omega) (by unfold qs; omega) _ ?_
  refine Ev.step (fun k => by rw [spec_QuadsOf.l0]) (evn (by omega) ?_)
  refine evb rfl (evp (by simp [qn]) (evs ?_))
  have hq : 0 ≤ qs a + qs b ∧ qs a + qs b ≤ 24 := by unfold qs; omega
  obtain ⟨m, hm2⟩ := Int.eq_ofNat_of_zero_le (show 0 ≤ 24 - (qs a + qs b) by omega)
  have hm3 : m ≤ 24 := by omega
  unfold quads
  rw [hm, e8, hm2, show 24 - (0 + qs a + qs b) = (m : Int) by omega, show wrap64 (m : Int) = (m : Int) from w64 (by omega) (by omega)]
  have x1 := i64_and3 (m / 16) (by omega)
  have x2 := i64_and3 (m / 4) (by omega)
  have x3 := i64_and3 m (by omega)
  rw [show (m : Int) / 16 = ((m / 16 : Nat) : Int) from rfl, show (m : Int) / 4 = ((m / 4 : Nat) : Int) from rfl, x1, x2, x3]
  congr 1
  have t1 : Int.tdiv (m : Int) 16 = (m : Int) / 16 := Int.tdiv_eq_ediv_of_nonneg (by omega)
  have t2 : Int.tdiv (m : Int) 4 = (m : Int) / 4 := Int.tdiv_eq_ediv_of_nonneg (by omega)
  rw [t1, t2, show wrap64 ((m : Int) / 16) = (m : Int) / 16 from w64 (by omega) (by omega), show wrap64 ((m : Int) / 4) = (m : Int) / 4 from w64 (by omega) (by omega), Int.tmod_eq_emod_of_nonneg (by omega), Int.tmod_eq_emod_of_nonneg (by omega)]
  simp only [List.cons.injEq, and_true]
  omega
theorem impl_QuadsOf_is (t : ByteArray) (ht : t.size ≤ 140737488351232) : Ev (fun k => impl_QuadsOf.f k t) (quads (dig t)) := by
  unfold impl_QuadsOf.f
  exact Ev.bind (impl_Digest_is t ht) (evp (dig_size t) (Ev.now _))
theorem quads_len (d : ByteArray) : (quads d).length = 11 := rfl

theorem rdOf_nat {α : Type} (d : α) (l : List α) (i : Nat) (h : i < l.length) : rdOf d l (i : Int) = l[i] := by
  unfold rdOf
  rw [Int.toNat_natCast, List.getD_eq_getElem?_getD, List.getElem?_eq_getElem h]
  rfl

def chE (q : List Int) (e : List ByteArray) (i : Nat) : ByteArray := chainN (chainC (wrap64 (3 - rd q (i : Int)))) (rdOf ByteArray.empty e (i : Int))
def allS (q : List Int) (e : List ByteArray) : Nat → ByteArray
  | 0 => ⟨#[]⟩
  | i + 1 => allS q e i ++ chE q e i
theorem chainN_le : ∀ (n : Nat) (t : ByteArray), t.size ≤ 8 → (chainN n t).size ≤ 8
  | 0, t, h => h
  | n + 1, t, h => by rw [chainN_size _ _ (by omega)]; omega
theorem allS_size (q : List Int) (e : List ByteArray) (he : ∀ i : Nat, (rdOf ByteArray.empty e (i : Int)).size ≤ 8) : ∀ i : Nat, (allS q e i).size ≤ 8 * i
  | 0 => by rw [allS]; decide
  | i + 1 => by
    have h1 := chainN_le (chainC (wrap64 (3 - rd q (i : Int)))) _ (he i)
    have h2 := allS_size q e he i
    rw [allS, ByteArray.size_append]
    unfold chE
    omega
def climb (now : ByteArray) (at_ : Int) : List ByteArray → ByteArray
  | [] => now
  | w :: l => climb (if Int.tmod at_ 2 = 0 then nodeK now w else nodeK w now) (wrap64 (Int.tdiv at_ 2)) l
def signedB (key t : ByteArray) (n : Int) (e w : List ByteArray) : Bool :=
  if Formed.formedB n e w = true then (climb (cutD ((⟨#[108]⟩ : ByteArray) ++ allS (quads (dig t)) e 11) 8) n w).toList == key.toList else false
theorem formed_open {n : Int} {e w : List ByteArray} (h : Formed.formedB n e w = true) : (0 ≤ n ∧ n ≤ 3) ∧ e.length = 11 ∧ w.length = 2 ∧ (∀ t ∈ e, t.size = 8) ∧ (∀ t ∈ w, t.size = 8) := by
  unfold Formed.formedB at h
  simp only [Bool.and_eq_true, decide_eq_true_eq, Bool.not_eq_true'] at h
  obtain ⟨⟨⟨⟨h1, h2⟩, h3⟩, h4⟩, h5⟩ := h
  have go : ∀ l : List ByteArray, l.any Formed.badT = false → ∀ t ∈ l, t.size = 8 := by
    intro l hl t ht
    have := List.any_eq_false.1 hl t ht
    unfold Formed.badT at this
    simp at this
    omega
  exact ⟨h1, h2, h3, go e h4, go w h5⟩
theorem formed_mk {n : Int} {e w : List ByteArray} (h1 : 0 ≤ n ∧ n ≤ 3) (h2 : e.length = 11) (h3 : w.length = 2) (h4 : ∀ t ∈ e, t.size = 8) (h5 : ∀ t ∈ w, t.size = 8) : Formed.formedB n e w = true := by
  have go : ∀ l : List ByteArray, (∀ t ∈ l, t.size = 8) → l.any Formed.badT = false := by
    intro l hl
    rw [List.any_eq_false]
    intro t ht
    unfold Formed.badT
    simp [hl t ht]
  unfold Formed.formedB
  rw [decide_eq_true h1, decide_eq_true h2, decide_eq_true h3, go e h4, go w h5]
  rfl
theorem rd8 {l : List ByteArray} (h : ∀ t ∈ l, t.size = 8) (i : Nat) : (rdOf ByteArray.empty l (i : Int)).size ≤ 8 := by
  unfold rdOf
  rw [List.getD_eq_getElem?_getD]
  cases e : l[((i : Nat) : Int).toNat]? with
  | none => show ByteArray.empty.size ≤ 8; decide
  | some t =>
    have := h t (List.mem_of_getElem? e)
    simp only [Option.getD_some]
    omega
theorem spec_l04Steps_is : Ev (fun k => spec_l04Steps.f k) 2 := by
  show Ev (fun k => spec_l04Steps.l0 k 0 4) 2
  have e1 : wrap64 ((0 : Int) + 1) = 1 := (w64 (by decide) (by decide)).trans (by decide)
  have e2 : wrap64 (Int.tdiv 4 2) = 2 := (w64 (by decide) (by decide)).trans (by decide)
  have e3 : wrap64 ((1 : Int) + 1) = 2 := (w64 (by decide) (by decide)).trans (by decide)
  have e4 : wrap64 (Int.tdiv 2 2) = 1 := (w64 (by decide) (by decide)).trans (by decide)
  refine Ev.step (fun k => by rw [spec_l04Steps.l0]) ?_
  rw [e1, e2]
  refine evp (by decide) (Ev.step (fun k => by rw [spec_l04Steps.l0]) ?_)
  rw [e3, e4]
  exact evp (by decide) (Ev.step (fun k => by rw [spec_l04Steps.l0]) (evn (by decide) (Ev.now _)))
theorem spec_l04Long_l (l : List ByteArray) (hl : l.length ≤ 4000000) : ∀ (d i : Nat), i + d = l.length → Ev (fun k => spec_l04Long.l0 k l (i : Int)) (!((l.drop i).any Formed.badT)) := by
  intro d
  induction d with
  | zero =>
    intro i h
    refine Ev.step (fun k => by rw [spec_l04Long.l0]) (evn (by omega) (evs ?_))
    rw [List.drop_of_length_le (by omega)]; rfl
  | succ d ih =>
    intro i h
    refine Ev.step (fun k => by rw [spec_l04Long.l0]) (evp (by omega) (evp (by omega) ?_))
    rw [Formed.drop_str l i (by omega), List.any_cons]
    by_cases c : ((rdOf ByteArray.empty l (i : Int)).size : Int) = 8
    · refine evp c ?_
      rw [w64s i (by omega)]
      have hb : Formed.badT (rdOf ByteArray.empty l (i : Int)) = false := by unfold Formed.badT; simp [c]
      rw [hb, Bool.false_or]
      exact ih (i + 1) (by omega)
    · refine evn c (evs ?_)
      have hb : Formed.badT (rdOf ByteArray.empty l (i : Int)) = true := by unfold Formed.badT; simpa using c
      rw [hb]; rfl
theorem spec_l04Long_is (l : List ByteArray) (hl : l.length ≤ 4000000) : Ev (fun k => spec_l04Long.f k l) (!(l.any Formed.badT)) := spec_l04Long_l l hl l.length 0 (Nat.zero_add _)
theorem spec_l04Form_is (n : Int) (e w : List ByteArray) : Ev (fun k => spec_l04Form.f k n e w) (Formed.formedB n e w) := by
  unfold Formed.formedB
  refine evb (spec_l01In_is n 0 3) ?_
  by_cases h1 : 0 ≤ n ∧ n ≤ 3
  · refine evp (decide_eq_true h1) ?_
    rw [decide_eq_true h1]
    by_cases h2 : e.length = 11
    · refine evp (by omega) (Ev.bind spec_l04Steps_is ?_)
      rw [decide_eq_true h2]
      by_cases h3 : w.length = 2
      · refine evp (by omega) (Ev.bind (spec_l04Long_is e (by omega)) ?_)
        rw [decide_eq_true h3]
        cases hb : e.any Formed.badT
        · exact evp rfl (Ev.bind (spec_l04Long_is w (by omega)) (Ev.now _))
        · exact evn (by decide) (Ev.now _)
      · refine evn (by omega) (evs ?_)
        rw [decide_eq_false h3]; rfl
    · refine evn (by omega) (evs ?_)
      rw [decide_eq_false h2]; rfl
  · refine evn (by simpa using h1) (evs ?_)
    rw [decide_eq_false h1]; rfl
theorem impl_Formed_is (n : Int) (e w : List ByteArray) (he : e.length ≤ 4000000) (hw : w.length ≤ 4000000) : impl_signFormed.f n e w = some (Formed.formedB n e w) := by unfold impl_signFormed.f; rw [if_pos ⟨he, hw⟩]
theorem drop_w (w : List ByteArray) (i : Nat) (h : i < w.length) : w.drop i = rdOf ByteArray.empty w (i : Int) :: w.drop (i + 1) := Formed.drop_str w i h
theorem spec_By_l1 (key : ByteArray) (n : Int) (e w : List ByteArray) (hw : w.length ≤ 1000) (h8 : ∀ t ∈ w, t.size = 8) : ∀ (d i : Nat) (now : ByteArray) (a : Int), i + d = w.length → now.size ≤ 8 → Ev (fun k => spec_SignedBy.l1 k key now a (i : Int) n e w) ((climb now a (w.drop i)).toList == key.toList) := by
  intro d
  induction d with
  | zero =>
    intro i now a h hn
    refine Ev.step (fun k => by rw [spec_SignedBy.l1]) (evn (by omega) (evs ?_))
    rw [List.drop_of_length_le (by omega)]; rfl
  | succ d ih =>
    intro i now a h hn
    have hr := rd8 h8 i
    have z : (⟨#[110]⟩ : ByteArray).size = 1 := rfl
    refine Ev.step (fun k => by rw [spec_SignedBy.l1]) (evp (by omega) ?_)
    rw [drop_w w i (by omega), climb]
    by_cases c : Int.tmod a 2 = 0
    · rw [if_pos c]
      refine evp c (evp (by omega) (evp (by omega) (evp (by rw [ByteArray.size_append]; omega) ?_)))
      refine evb (spec_l04Cut_is _ (by rw [ByteArray.size_append, ByteArray.size_append]; omega)) ?_
      rw [w64s i (by omega), ByteArray.append_assoc]
      exact ih (i + 1) _ _ (by omega) (by rw [cutD_size _ _ (by omega)]; omega)
    · rw [if_neg c]
      refine evn c (evp (by omega) (evp (by omega) (evp (by rw [ByteArray.size_append]; omega) ?_)))
      refine evb (spec_l04Cut_is _ (by rw [ByteArray.size_append, ByteArray.size_append]; omega)) ?_
      rw [w64s i (by omega), ByteArray.append_assoc]
      exact ih (i + 1) _ _ (by omega) (by rw [cutD_size _ _ (by omega)]; omega)
theorem impl_By_l1 (key : ByteArray) (w : List ByteArray) (hw : w.length ≤ 1000) (h8 : ∀ t ∈ w, t.size = 8) : ∀ (d i : Nat) (now : ByteArray) (a : Int), i + d = w.length → now.size ≤ 8 → Ev (fun k => impl_SignedBy.l1 k key now a w (w.length : Int) (i : Int)) ((climb now a (w.drop i)).toList == key.toList) := by
  intro d
  induction d with
  | zero =>
    intro i now a h hn
    refine Ev.step (fun k => by rw [impl_SignedBy.l1]) (evn (by omega) (evs ?_))
    rw [List.drop_of_length_le (by omega)]; rfl
  | succ d ih =>
    intro i now a h hn
    have hr := rd8 h8 i
    refine Ev.step (fun k => by rw [impl_SignedBy.l1]) (evp (by omega) (evp (by omega) (evp (by omega) ?_)))
    rw [drop_w w i (by omega), climb]
    by_cases c : Int.tmod a 2 = 0
    · rw [if_pos c]
      refine evp c (evp (by omega) ?_)
      refine Ev.bind (impl_short_is 110 _ (by rw [ByteArray.size_append]; omega)) ?_
      rw [w64s i (by omega)]
      exact ih (i + 1) _ _ (by omega) (by rw [cutD_size _ _ (by omega)]; omega)
    · rw [if_neg c]
      refine evn c (evp (by omega) ?_)
      refine Ev.bind (impl_short_is 110 _ (by rw [ByteArray.size_append]; omega)) ?_
      rw [w64s i (by omega)]
      exact ih (i + 1) _ _ (by omega) (by rw [cutD_size _ _ (by omega)]; omega)
theorem spec_By_l0 (key : ByteArray) (q : List Int) (hq : q.length = 11) (n : Int) (e w : List ByteArray) (he : e.length = 11) (hw : w.length = 2) (h8 : ∀ t ∈ e, t.size = 8) (h9 : ∀ t ∈ w, t.size = 8) : ∀ (d i : Nat), i + d = 11 → Ev (fun k => spec_SignedBy.l0 k key q ((⟨#[108]⟩ : ByteArray) ++ allS q e i) (i : Int) n e w) ((climb (cutD ((⟨#[108]⟩ : ByteArray) ++ allS q e 11) 8) n w).toList == key.toList) := by
  have hz := allS_size q e (rd8 h8)
  intro d
  induction d with
  | zero =>
    intro i h
    obtain rfl : i = 11 := by omega
    have := hz 11
    refine Ev.step (fun k => by rw [spec_SignedBy.l0]) (evn (by omega) (evb (spec_l04Cut_is _ (by rw [size108]; omega)) ?_))
    exact spec_By_l1 key n e w (by omega) h9 2 0 _ n (by omega) (by rw [cutD_size _ _ (by omega)]; omega)
  | succ d ih =>
    intro i h
    have hr := rd8 h8 i
    have h1 := hz i
    refine Ev.step (fun k => by rw [spec_SignedBy.l0]) (evp (by omega) (evp (by omega) (evp (by omega) (evp (by omega) ?_))))
    refine Ev.bind (spec_ChainOf_is _ _ (by omega)) ?_
    have h2 := chainN_le (chainC (wrap64 (3 - rd q (i : Int)))) _ hr
    refine evp (by rw [size108]; omega) ?_
    rw [w64s i (by omega), ByteArray.append_assoc]
    exact ih (i + 1) (by omega)
theorem impl_By_l0 (key : ByteArray) (q : List Int) (hq : q.length = 11) (n : Int) (e w : List ByteArray) (he : e.length = 11) (hw : w.length = 2) (h8 : ∀ t ∈ e, t.size = 8) (h9 : ∀ t ∈ w, t.size = 8) : ∀ (d i : Nat), i + d = 11 → Ev (fun k => impl_SignedBy.l0 k key (allS q e i) q 11 (i : Int) n e w) ((climb (cutD ((⟨#[108]⟩ : ByteArray) ++ allS q e 11) 8) n w).toList == key.toList) := by
  have hz := allS_size q e (rd8 h8)
  intro d
  induction d with
  | zero =>
    intro i h
    obtain rfl : i = 11 := by omega
    have := hz 11
    refine Ev.step (fun k => by rw [impl_SignedBy.l0]) (evn (by omega) (Ev.bind (impl_short_is 108 _ (by omega)) ?_))
    exact impl_By_l1 key w (by omega) h9 2 0 _ n (by omega) (by rw [cutD_size _ _ (by omega)]; omega)
  | succ d ih =>
    intro i h
    have hr := rd8 h8 i
    have h1 := hz i
    refine Ev.step (fun k => by rw [impl_SignedBy.l0]) (evp (by omega) (evp (by omega) (evp (by omega) (evp (by omega) ?_))))
    refine Ev.bind (impl_ChainOf_is _ _ (by omega)) ?_
    have h2 := chainN_le (chainC (wrap64 (3 - rd q (i : Int)))) _ hr
    refine evp (by omega) ?_
    rw [w64s i (by omega)]
    exact ih (i + 1) (by omega)
theorem spec_SignedBy_is (key t : ByteArray) (ht : t.size ≤ 140737488351232) (n : Int) (e w : List ByteArray) : Ev (fun k => spec_SignedBy.f k key t n e w) (signedB key t n e w) := by
  unfold signedB
  refine Ev.bind (spec_l04Form_is n e w) ?_
  by_cases h : Formed.formedB n e w = true
  · obtain ⟨h1, h2, h3, h4, h5⟩ := formed_open h
    rw [if_pos h]
    refine evp h (Ev.bind (spec_QuadsOf_is t ht) ?_)
    have := spec_By_l0 key (quads (dig t)) (quads_len _) n e w h2 h3 h4 h5 11 0 rfl
    have e0 : (⟨#[108]⟩ : ByteArray) ++ allS (quads (dig t)) e 0 = ⟨#[108]⟩ := rfl
    rw [e0] at this
    exact this
  · rw [if_neg h]
    exact evn h (Ev.now _)
theorem impl_SignedBy_is (key t : ByteArray) (ht : t.size ≤ 140737488351232) (n : Int) (e w : List ByteArray) (he : e.length ≤ 4000000) (hw : w.length ≤ 4000000) : Ev (fun k => impl_SignedBy.f k key t n e w) (signedB key t n e w) := by
  unfold signedB
  refine evb (impl_Formed_is n e w he hw) ?_
  by_cases h : Formed.formedB n e w = true
  · obtain ⟨h1, h2, h3, h4, h5⟩ := formed_open h
    rw [if_pos h]
    refine evp h (Ev.bind (impl_QuadsOf_is t ht) ?_)
    rw [quads_len]
    exact impl_By_l0 key (quads (dig t)) (quads_len _) n e w h2 h3 h4 h5 11 0 rfl
  · rw [if_neg h]
    exact evn h (Ev.now _)

theorem szStringS_l (l : List ByteArray) (hs : ∀ s ∈ l, s.size ≤ 9223372036854775807) : ∀ (d i : Nat) (x : Int), i + d = l.length → l.length ≤ 4000000 → -1 ≤ x → x ≤ 4000000 → ∃ y : Int, -1 ≤ y ∧ y ≤ 4000000 ∧ Ev (fun k => laws_szStringS.l0 k l x (i : Int)) y := by
  intro d
  induction d with
  | zero =>
    intro i x h hl h0 h1
    exact ⟨x, h0, h1, Ev.step (fun k => by rw [laws_szStringS.l0]) (evn (by omega) (Ev.now _))⟩
  | succ d ih =>
    intro i x h hl h0 h1
    have hz : (rdOf ByteArray.empty l (i : Int)).size ≤ 9223372036854775807 := by
      rw [rdOf_nat _ _ i (by omega)]
      exact hs _ (List.getElem_mem _)
    by_cases hx : x = -1
    · by_cases hz2 : ((rdOf ByteArray.empty l (i : Int)).size : Int) ≤ 9223372036854775806
      · refine ⟨-1, by omega, by omega, Ev.step (fun k => by rw [laws_szStringS.l0]) (evp (by omega) (evp (by omega) ?_))⟩
        rw [w64 (by omega) (by omega)]
        exact evp (by omega) (Ev.now _)
      · refine ⟨-1, by omega, by omega, Ev.step (fun k => by rw [laws_szStringS.l0]) (evp (by omega) (evp (by omega) ?_))⟩
        rw [w64 (by omega) (by omega)]
        exact evp (by omega) (Ev.now _)
    · by_cases c : x - ((rdOf ByteArray.empty l (i : Int)).size : Int) < 0
      · refine ⟨-1, by omega, by omega, Ev.step (fun k => by rw [laws_szStringS.l0]) (evp (by omega) (evp (by omega) ?_))⟩
        rw [w64 (by omega) (by omega)]
        exact evp c (Ev.now _)
      · obtain ⟨y, y0, y1, e⟩ := ih (i + 1) (x - ((rdOf ByteArray.empty l (i : Int)).size : Int)) (by omega) hl (by omega) (by omega)
        refine ⟨y, y0, y1, Ev.step (fun k => by rw [laws_szStringS.l0]) (evp (by omega) (evp (by omega) ?_))⟩
        rw [w64 (by omega) (by omega)]
        refine evn c ?_
        rw [w64s i (by omega)]
        exact e
theorem szStringS_is (l : List ByteArray) (hl : l.length ≤ 9223372036854775807) (hs : ∀ s ∈ l, s.size ≤ 9223372036854775807) (x : Int) (h0 : 0 ≤ x) (h1 : x ≤ 4000000) : ∃ y : Int, -1 ≤ y ∧ y ≤ 4000000 ∧ Ev (fun k => laws_szStringS.f k l x) y ∧ (¬ y < 0 → l.length ≤ 4000000) := by
  unfold laws_szStringS.f
  rw [w64 (by omega) (by omega)]
  by_cases c : x - (l.length : Int) < 0
  · exact ⟨-1, by omega, by omega, evp c (Ev.now _), fun h => absurd (by omega) h⟩
  · obtain ⟨y, y0, y1, e⟩ := szStringS_l l hs l.length 0 (x - (l.length : Int)) (by omega) (by omega) (by omega) (by omega)
    exact ⟨y, y0, y1, evn c e, fun _ => by omega⟩
theorem toStringS_l (l : List ByteArray) (hl : l.length ≤ 4000000) : ∀ (d i : Nat) (acc : List ByteArray), i + d = l.length → acc = l.take i ++ List.replicate d (⟨#[]⟩ : ByteArray) → Ev (fun k => laws_toStringS.l0 k l acc (i : Int)) l := by
  intro d
  induction d with
  | zero =>
    intro i acc h ha
    refine Ev.step (fun k => by rw [laws_toStringS.l0]) (evn (by omega) (evs ?_))
    rw [ha, List.take_of_length_le (by omega)]
    simp
  | succ d ih =>
    intro i acc h ha
    have hal : acc.length = l.length := by rw [ha, List.length_append, List.length_take, List.length_replicate]; omega
    refine Ev.step (fun k => by rw [laws_toStringS.l0]) (evp (by omega) (evp (by omega) (evp (by omega) ?_)))
    rw [w64s i (by omega)]
    refine ih (i + 1) _ (by omega) ?_
    have e : (((i : Nat) : Int)).toNat = i := rfl
    rw [e, ha, rdOf_nat _ _ i (by omega), List.set_append_right _ _ (by rw [List.length_take]; omega), List.length_take, show i - min i l.length = 0 by omega, List.replicate_succ, List.set_cons_zero, List.take_succ_eq_append_getElem (by omega : i < l.length), List.append_assoc]
    rfl
theorem toStringS_is (l : List ByteArray) (hl : l.length ≤ 4000000) : Ev (fun k => laws_toStringS.f k l) l := by
  unfold laws_toStringS.f
  refine evp (by omega) (evp (by omega) ?_)
  exact toStringS_l l hl l.length 0 _ (by omega) (by rw [Int.toNat_natCast]; simp)
theorem toSig_is (n : Int) (e w : List ByteArray) (he : e.length ≤ 4000000) (hw : w.length ≤ 4000000) : Ev (fun k => laws_toSignature.f k n e w) (n, e, w) := Ev.bind (toStringS_is e he) (Ev.bind (toStringS_is w hw) (Ev.now _))
theorem eqStr_l (l : List ByteArray) (hl : l.length ≤ 4000000) : ∀ (d i : Nat), i + d = l.length → Ev (fun k => laws_eqStringS.l0 k l l (i : Int)) true := by
  intro d
  induction d with
  | zero =>
    intro i h
    exact Ev.step (fun k => by rw [laws_eqStringS.l0]) (evn (by omega) (Ev.now _))
  | succ d ih =>
    intro i h
    refine Ev.step (fun k => by rw [laws_eqStringS.l0]) (evp (by omega) (evp (by omega) (evp (by omega) (evp rfl ?_))))
    rw [w64s i (by omega)]
    exact ih (i + 1) (by omega)
theorem eqStr_is (l : List ByteArray) (hl : l.length ≤ 4000000) : Ev (fun k => laws_eqStringS.f k l l) true := evp rfl (eqStr_l l hl l.length 0 (Nat.zero_add _))
theorem FnExactSignedBy : laws_FnExactSignedBy.Pure := by
  intro a0 a1 n e w _ hz1 _ m1 s1 m2 s2
  have hm : maxLen ≤ 9223372036854775807 := by decide
  refine Ev.rounds (g := fun k => laws_FnExactSignedBy.f k a0 a1 n e w) ?_
  by_cases c0 : (a0.size : Int) > 1048576
  · exact evp c0 (Ev.now _)
  refine evn c0 ?_
  by_cases c1 : (a1.size : Int) > 1048576
  · exact evp c1 (Ev.now _)
  refine evn c1 ?_
  obtain ⟨y, y0, y1, ey, hy⟩ := szStringS_is e (by omega) (fun s hs => Nat.le_trans (s1 s hs) hm) 1048576 (by omega) (by omega)
  by_cases c2 : y < 0
  · refine Ev.bind (Ev.bind ey (evp c2 (Ev.now _))) (evp (by decide) (Ev.now _))
  obtain ⟨z, z0, z1, ez, hz⟩ := szStringS_is w (by omega) (fun s hs => Nat.le_trans (s2 s hs) hm) y (by omega) y1
  by_cases c3 : z < 0
  · refine Ev.bind (Ev.bind ey (evn c2 (Ev.bind ez (evp c3 (Ev.now _))))) (evp (by decide) (Ev.now _))
  have he := hy c2
  have hw := hz c3
  refine Ev.bind (Ev.bind ey (evn c2 (Ev.bind ez (evn c3 (Ev.now _))))) (evn c3 ?_)
  refine Ev.bind (toSig_is n e w he hw) (Ev.bind (spec_SignedBy_is a0 a1 hz1 n e w) (Ev.bind (toSig_is n e w he hw) (Ev.bind (impl_SignedBy_is a0 a1 hz1 n e w he hw) ?_)))
  refine evn (by simp) (Ev.bind (toSig_is n e w he hw) ?_)
  refine Ev.bind (evp rfl (Ev.bind (eqStr_is e he) (evp rfl (Ev.bind (eqStr_is w hw) (evp rfl (Ev.now _)))))) (evp rfl (Ev.now _))

end Go.Proofs.Ytckjobcagniieaa.Pure
