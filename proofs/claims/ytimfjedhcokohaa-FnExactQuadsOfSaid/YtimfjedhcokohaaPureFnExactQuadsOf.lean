/-
The law FnExactQuadsOf of the given program answers true at every input: the plain statement that is left when the printed walk has stepped through the code.
Conditions: the bounds of the given row (sizes of texts and lists, numbers of their kinds); none of our own.
-/
import Derived.Test.YtimfjedhcokohaaPFnExactQuadsOfx4
import Derived.Laws.BitsAllLaws
import Derived.Test.YtimfjedhcokohaaStart
import Derived.Test.YtimfjedhcokohaaShaB
import Derived.Test.YtimfjedhcokohaaQuads
namespace Go.Proofs.Ytimfjedhcokohaa.Pure
open Go.RowKit Go.Proofs.Ytimfjedhcokohaa.PFnExactQuadsOf Go.Proofs.YtimfjedhcokohaaW.PrintWords Go.Proofs.YtimfjedhcokohaaW.PrintLast Go.Proofs.YtimfjedhcokohaaW.PrintMore Go.Proofs.Ytimfjedhcokohaa.Sha Go.Proofs.Ytimfjedhcokohaa.Blk Go.Proofs.Ytimfjedhcokohaa.Dig Go.Proofs.Ytimfjedhcokohaa.Start Go.Proofs.Ytimfjedhcokohaa.ShaB Go.Proofs.Ytimfjedhcokohaa.Quads
set_option linter.unusedVariables false

theorem evp {α : Type} {c : Prop} [Decidable c] {f g : Nat → Option α} {r : α} (hc : c) (h : Ev f r) : Ev (fun k => if c then f k else g k) r := Ev.congr (fun _ => if_pos hc) h
theorem evn {α : Type} {c : Prop} [Decidable c] {f g : Nat → Option α} {r : α} (hc : ¬ c) (h : Ev g r) : Ev (fun k => if c then f k else g k) r := Ev.congr (fun _ => if_neg hc) h
theorem evs {α : Type} {x y : α} (h : x = y) : Ev (fun _ => some x) y := by subst h; exact Ev.now _
theorem evc {α : Type} {x : Option α} {y : α} (h : x = some y) : Ev (fun _ => x) y := by subst h; exact Ev.now _
theorem w64 {n : Int} (h1 : -9223372036854775808 ≤ n) (h2 : n ≤ 9223372036854775807) : wrap64 n = n := IntWalk.wrap64_in n ⟨h1, h2⟩
theorem w64n (n : Nat) (h : n ≤ 9223372036854775807) : wrap64 (n : Int) = (n : Int) := w64 (by omega) (by omega)
theorem w64s (n : Nat) (h : n + 1 ≤ 9223372036854775807) : wrap64 ((n : Int) + 1) = ((n + 1 : Nat) : Int) := by rw [w64 (by omega) (by omega)]; rfl
theorem w64a (a b : Nat) (h : a + b ≤ 9223372036854775807) : wrap64 ((a : Int) + (b : Int)) = ((a + b : Nat) : Int) := by rw [w64 (by omega) (by omega)]; rfl
theorem w64m (a b : Nat) (h : a * b ≤ 9223372036854775807) : wrap64 ((a : Int) * (b : Int)) = ((a * b : Nat) : Int) := by
  have e : ((a * b : Nat) : Int) = (a : Int) * (b : Int) := Int.natCast_mul a b
  rw [w64 (by omega) (by omega), e]
theorem wf64 {n : Int} (h : (Lit.int .i64 n).wf = true) : -9223372036854775808 ≤ n ∧ n ≤ 9223372036854775807 := by
  simp [Lit.wf, IntKind.min, IntKind.max, IntKind.bits, IntKind.signed] at h
  omega
theorem bt_lo (s : ByteArray) (i : Int) : 0 ≤ bt s i := (bt_range s i).1
theorem bt_hi (s : ByteArray) (i : Int) : bt s i ≤ 255 := (bt_range s i).2
theorem wfu32 {n : Int} (h : (Lit.int .u32 n).wf = true) : 0 ≤ n ∧ n < 4294967296 := by
  simp [Lit.wf, IntKind.min, IntKind.max, IntKind.bits, IntKind.signed] at h
  omega
theorem evb {α β : Type} {x : Option α} {f : Nat → α → Option β} {a : α} {r : β} (h : x = some a) (k : Ev (fun n => f n a) r) : Ev (fun n => x.bind (f n)) r := Ev.bind (g := fun _ => x) (evc h) k
theorem i64_nat (a b : Nat) (ha : a < 9223372036854775808) (hb : b < 9223372036854775808) : Go.bits .and .i64 (a : Int) (b : Int) = ((a &&& b : Nat) : Int) ∧ Go.bits .or .i64 (a : Int) (b : Int) = ((a ||| b : Nat) : Int) :=
  bits_nat .i64 63 (by decide) (fun m h0 h1 => by rw [IntKind.wrap_i64]; omega) a b ha hb

theorem tl_inj {a b : ByteArray} : a.toList = b.toList ↔ a = b := by
  rw [ByteArray.toList_eq, ByteArray.toList_eq]
  exact ⟨fun h => ByteArray.ext (Array.toList_inj.mp h), fun h => by rw [h]⟩
theorem son_bytesOf (s : ByteArray) : strOfNums (bytesOf s) = s := by
  apply tl_inj.1
  rw [ByteArray.toList_eq, ByteArray.toList_eq, strOfNums_data, bytesOf, List.map_map]
  have : ((fun n : Int => UInt8.ofNat n.toNat) ∘ fun b : UInt8 => (b.toNat : Int)) = id := by
    funext b; simp
  rw [this, List.map_id]
theorem bytesOf_son (l : List Int) (h : ∀ b ∈ l, 0 ≤ b ∧ b ≤ 255) : bytesOf (strOfNums l) = l := by
  rw [bytesOf, strOfNums_data, List.map_map]
  have : l.map ((fun b : UInt8 => (b.toNat : Int)) ∘ fun n : Int => UInt8.ofNat n.toNat) = l.map id := by
    apply List.map_congr_left
    intro b hb
    have := h b hb
    simp only [Function.comp, id, UInt8.toNat_ofNat']
    omega
  rw [this, List.map_id]
theorem bytesOf_inj {a b : ByteArray} (h : bytesOf a = bytesOf b) : a = b := by rw [← son_bytesOf a, ← son_bytesOf b, h]
theorem bytesOf_extract (s : ByteArray) (a b : Nat) : bytesOf (s.extract a b) = ((bytesOf s).drop a).take (b - a) := by
  unfold bytesOf
  rw [ByteArray.data_extract]
  simp [List.map_take, List.map_drop, List.extract]
theorem bytesOf_append (a b : ByteArray) : bytesOf (a ++ b) = bytesOf a ++ bytesOf b := by
  unfold bytesOf
  rw [ByteArray.data_append]
  simp
theorem bytesOf_range (s : ByteArray) : ∀ b ∈ bytesOf s, 0 ≤ b ∧ b ≤ 255 := by
  intro b hb
  unfold bytesOf at hb
  obtain ⟨c, _, rfl⟩ := List.mem_map.1 hb
  have := c.toNat_lt
  omega
theorem bytesOf_drop (s : ByteArray) (i : Nat) (h : i < s.size) : (bytesOf s).drop i = bt s (i : Int) :: (bytesOf s).drop (i + 1) := by
  have hl : i < (bytesOf s).length := by rw [bytesOf_length]; exact h
  rw [List.drop_eq_getElem_cons hl]
  congr 1
  have := rd_bytesOf s (i : Int)
  rw [← this]
  unfold rd
  simp [List.getD_eq_getElem?_getD, hl]
theorem bt_nat (s : ByteArray) (i : Int) : ∃ n : Nat, bt s i = (n : Int) ∧ n < 256 := by
  have h := bt_range s i
  exact ⟨(bt s i).toNat, by omega, by omega⟩

theorem impl_in_is (x a b : Int) : impl_in.f x a b = some (decide (a ≤ x ∧ x ≤ b)) := by
  unfold impl_in.f
  by_cases h : x ≥ a
  · rw [if_pos h]; congr 1; rw [decide_eq_decide]; exact ⟨fun h2 => ⟨h, h2⟩, fun h2 => h2.2⟩
  · rw [if_neg h]; congr 1; symm; rw [decide_eq_false_iff_not]; exact fun h2 => h h2.1

theorem rd_nat (l : List Int) (i : Nat) (h : i < l.length) : rd l (i : Int) = l[i] := by
  unfold rd
  rw [Int.toNat_natCast, List.getD_eq_getElem?_getD, List.getElem?_eq_getElem h]
  rfl

theorem son_app (a b : List Int) : strOfNums (a ++ b) = strOfNums a ++ strOfNums b := by
  apply tl_inj.1
  rw [ByteArray.toList_eq, ByteArray.toList_eq, ByteArray.data_append, Array.toList_append, strOfNums_data, strOfNums_data, strOfNums_data, List.map_append]
theorem son_byt (s : ByteArray) : strOfNums (Pad.byt s) = s := son_bytesOf s
theorem son_zeros (m : Nat) : strOfNums (List.replicate m 0) = ⟨(List.replicate m (0 : UInt8)).toArray⟩ := by
  apply tl_inj.1
  rw [ByteArray.toList_eq, ByteArray.toList_eq, strOfNums_data, List.map_replicate]
  simp
theorem impl_PadText_l0 (k : Nat) (x : ByteArray) (n : Int) (hx : x.size ≤ 9223372036854775000) : impl_PadText.l0 (k + 9) x n [0, 0, 0, 0, 0, 0, 0, 0] 7 = some (x ++ strOfNums (Pad.be8 n)) := by
  have w7 : wrap64 (7 - 1) = 6 := by unfold wrap64; omega
  have w6 : wrap64 (6 - 1) = 5 := by unfold wrap64; omega
  have w5 : wrap64 (5 - 1) = 4 := by unfold wrap64; omega
  have w4 : wrap64 (4 - 1) = 3 := by unfold wrap64; omega
  have w3 : wrap64 (3 - 1) = 2 := by unfold wrap64; omega
  have w2 : wrap64 (2 - 1) = 1 := by unfold wrap64; omega
  have w1 : wrap64 (1 - 1) = 0 := by unfold wrap64; omega
  have w0 : wrap64 (0 - 1) = -1 := by unfold wrap64; omega
  rw [impl_PadText.l0, if_pos (by decide), if_pos (by decide), if_pos (by simp), w7]
  rw [impl_PadText.l0, if_pos (by decide), if_pos (by decide), if_pos (by simp), w6]
  rw [impl_PadText.l0, if_pos (by decide), if_pos (by decide), if_pos (by simp), w5]
  rw [impl_PadText.l0, if_pos (by decide), if_pos (by decide), if_pos (by simp), w4]
  rw [impl_PadText.l0, if_pos (by decide), if_pos (by decide), if_pos (by simp), w3]
  rw [impl_PadText.l0, if_pos (by decide), if_pos (by decide), if_pos (by simp), w2]
  rw [impl_PadText.l0, if_pos (by decide), if_pos (by decide), if_pos (by simp), w1]
  rw [impl_PadText.l0, if_pos (by decide), if_pos (by decide), if_pos (by simp), w0]
  have e : (((((((([0, 0, 0, 0, 0, 0, 0, 0] : List Int).set (7 : Int).toNat (n % 256)).set (6 : Int).toNat (n / 256 % 256)).set (5 : Int).toNat (n / 256 / 256 % 256)).set (4 : Int).toNat (n / 256 / 256 / 256 % 256)).set (3 : Int).toNat (n / 256 / 256 / 256 / 256 % 256)).set (2 : Int).toNat (n / 256 / 256 / 256 / 256 / 256 % 256)).set (1 : Int).toNat (n / 256 / 256 / 256 / 256 / 256 / 256 % 256)).set (0 : Int).toNat (n / 256 / 256 / 256 / 256 / 256 / 256 / 256 % 256) = Pad.be8 n := by
    show [n / 256 / 256 / 256 / 256 / 256 / 256 / 256 % 256, n / 256 / 256 / 256 / 256 / 256 / 256 % 256, n / 256 / 256 / 256 / 256 / 256 % 256, n / 256 / 256 / 256 / 256 % 256, n / 256 / 256 / 256 % 256, n / 256 / 256 % 256, n / 256 % 256, n % 256] = _
    unfold Pad.be8
    simp only [List.cons.injEq, and_true]
    omega
  rw [e, impl_PadText.l0, if_neg (by decide), if_pos (by rw [strOfNums_size]; show x.size + 8 ≤ _; omega)]
theorem impl_PadText_is (s : ByteArray) (hs : s.size ≤ 140737488351232) : Ev (fun k => impl_PadText.f k s) (strOfNums (Pad.padB s)) := by
  unfold impl_PadText.f
  refine evp (by omega) ?_
  have hz : (s ++ (⟨#[128]⟩ : ByteArray)).size = s.size + 1 := by rw [ByteArray.size_append]; rfl
  rw [hz]
  have hm : (((56 - (((s.size + 1 : Nat) : Int) % 64)) + 64) % 64).toNat = Pad.padK s.size := by unfold Pad.padK; omega
  have hr : strings_Repeat.f (⟨#[0]⟩ : ByteArray) (((56 - (((s.size + 1 : Nat) : Int) % 64)) + 64) % 64) = some (strOfNums (List.replicate (Pad.padK s.size) 0)) := by
    unfold strings_Repeat.f
    rw [if_pos ⟨by omega, by omega, by decide⟩, hm, son_zeros]
    have : Lib.repeatL [(0 : UInt8)] (Pad.padK s.size) = List.replicate (Pad.padK s.size) 0 := by
      have h := Lib.repeatL_replicate (0 : UInt8) 1 (Pad.padK s.size)
      rw [Nat.mul_one] at h
      exact h
    rw [show (⟨#[0]⟩ : ByteArray).data.toList = [(0 : UInt8)] from rfl, this]
  refine evb hr ?_
  have hk : Pad.padK s.size < 64 := by unfold Pad.padK; omega
  have hz2 : (strOfNums (List.replicate (Pad.padK s.size) 0)).size = Pad.padK s.size := by rw [strOfNums_size, List.length_replicate]
  refine evp (by rw [hz2]; omega) (evp (by omega) ?_)
  have hn : wrap64 (8 * (s.size : Int)) = 8 * (s.size : Int) := w64 (by omega) (by omega)
  rw [hn]
  refine ⟨9, fun k hk => ?_⟩
  obtain ⟨m, rfl⟩ : ∃ m, k = m + 9 := ⟨k - 9, by omega⟩
  have h := impl_PadText_l0 m ((s ++ (⟨#[128]⟩ : ByteArray)) ++ strOfNums (List.replicate (Pad.padK s.size) 0)) (8 * (s.size : Int)) (by rw [ByteArray.size_append, hz, hz2]; omega)
  refine Eq.trans h ?_
  congr 1
  unfold Pad.padB
  rw [son_app, son_app, son_app, son_byt]
  rfl

theorem bits_xor_comm (k : IntKind) (a b : Int) : Go.bits .xor k a b = Go.bits .xor k b a := by
  simp only [Go.bits, BitVec.xor_comm]
theorem impl_turn_is (x n : Int) (h0 : 0 ≤ n) (h1 : n ≤ 32) : impl_turn.f x n = some (tn x n) := by
  unfold impl_turn.f
  have e : wrap64 (32 - n) = 32 - n := w64 (by omega) (by omega)
  have b : IntKind.u32.bits = 32 := rfl
  rw [if_pos h0, e, if_pos (by omega)]
  unfold shr shl tn
  rw [b, Nat.min_eq_left (by omega), Nat.min_eq_left (by omega), IntKind.wrap_u32']
theorem impl_schedule_l1 (b : ByteArray) : ∀ (d i : Nat) (p : List Int), i + d = 64 → 16 ≤ i → p.length = i → schedGo d p = sched b → Ev (fun k => impl_schedule.l1 k p (i : Int)) (sched b) := by
  intro d
  induction d with
  | zero =>
    intro i p h1 h2 h3 h4
    refine Ev.step (fun k => by rw [impl_schedule.l1]) (evn (by omega) (evs ?_))
    rw [schedGo] at h4
    exact h4
  | succ d ih =>
    intro i p h1 h2 h3 h4
    have e15 : wrap64 ((i : Int) - 15) = ((p.length : Int) - 15) := by rw [w64 (by omega) (by omega)]; omega
    have e2 : wrap64 ((i : Int) - 2) = ((p.length : Int) - 2) := by rw [w64 (by omega) (by omega)]; omega
    have e16 : wrap64 ((i : Int) - 16) = ((p.length : Int) - 16) := by rw [w64 (by omega) (by omega)]; omega
    have e7 : wrap64 ((i : Int) - 7) = ((p.length : Int) - 7) := by rw [w64 (by omega) (by omega)]; omega
    have e1 : wrap64 ((i : Int) + 1) = ((i + 1 : Nat) : Int) := w64s i (by omega)
    refine Ev.step (fun k => by rw [impl_schedule.l1]) ?_
    simp only [e15, e2, e16, e7, e1]
    refine evp (by omega) (evp (by omega) (evp (by omega) (evp (by omega) (evp (by omega) ?_))))
    refine evb (impl_turn_is _ _ (by omega) (by omega)) (evb (impl_turn_is _ _ (by omega) (by omega)) (evb (impl_turn_is _ _ (by omega) (by omega)) (evb (impl_turn_is _ _ (by omega) (by omega)) ?_)))
    refine evp (by omega) (evp (by omega) (evp (by omega) (evp (by omega) (evp (by omega) ?_))))
    refine Ev.congr (fun k => ?_) (ih (i + 1) (p ++ [nextW' p (p.length : Int)]) (by omega) (by omega) (by rw [List.length_append, h3]; rfl) h4)
    congr 3
    unfold nextW' nextW
    simp only [Int.emod_add_emod]
theorem impl_schedule_l0 (b : ByteArray) (hb : b.size = 64) : ∀ (d i : Nat), i + d = 16 → Ev (fun k => impl_schedule.l0 k b (w16 b i) (i : Int)) (sched b) := by
  intro d
  induction d with
  | zero =>
    intro i h1
    have hi : i = 16 := by omega
    subst hi
    refine Ev.step (fun k => by rw [impl_schedule.l0]) (evn (by decide) ?_)
    exact impl_schedule_l1 b 48 16 (w16 b 16) (by omega) (by omega) (by simp [w16]) rfl
  | succ d ih =>
    intro i h1
    have hl : (w16 b i).length = i := by simp [w16]
    have e0 : wrap64 (4 * (i : Int)) = 4 * (i : Int) := w64 (by omega) (by omega)
    have e1 : wrap64 (4 * (i : Int) + 1) = 4 * (i : Int) + 1 := w64 (by omega) (by omega)
    have e2 : wrap64 (4 * (i : Int) + 2) = 4 * (i : Int) + 2 := w64 (by omega) (by omega)
    have e3 : wrap64 (4 * (i : Int) + 3) = 4 * (i : Int) + 3 := w64 (by omega) (by omega)
    have e5 : wrap64 ((i : Int) + 1) = ((i + 1 : Nat) : Int) := w64s i (by omega)
    refine Ev.step (fun k => by rw [impl_schedule.l0]) ?_
    simp only [e0, e1, e2, e3, e5]
    refine evp (by omega) (evp (by omega) (evp (by omega) (evp (by omega) (evp (by omega) (evp (by omega) (evp (by omega) (evp (by omega) (evp (by omega) (evp (by omega) ?_)))))))))
    refine Ev.congr (fun k => ?_) (ih (i + 1) (by omega))
    have : w16 b (i + 1) = w16 b i ++ [word b (i : Int)] := by simp [w16, List.range_succ]
    rw [this]
    rfl
theorem impl_schedule_is (b : ByteArray) (hb : b.size = 64) : Ev (fun k => impl_schedule.f k b) (sched b) := impl_schedule_l0 b hb 16 0 rfl
theorem impl_ShaBlock_l2 (h s : List Int) (hh : h.length = 8) (hs : s.length = 8) (hr : ∀ x ∈ h, 0 ≤ x ∧ x ≤ 4294967295) : ∀ (d i : Nat), i + d = 8 → Ev (fun k => impl_ShaBlock.l2 k ((fin h s).take i ++ h.drop i) s 8 (i : Int)) (fin h s) := by
  have hf : (fin h s).length = 8 := fin_len hh hs
  intro d
  induction d with
  | zero =>
    intro i h1
    have hi : i = 8 := by omega
    subst hi
    refine Ev.step (fun k => by rw [impl_ShaBlock.l2]) (evn (by decide) (evs ?_))
    rw [List.take_of_length_le (by omega), List.drop_of_length_le (by omega), List.append_nil]
  | succ d ih =>
    intro i h1
    have hl : ((fin h s).take i ++ h.drop i).length = 8 := by rw [List.length_append, List.length_take, List.length_drop]; omega
    refine Ev.step (fun k => by rw [impl_ShaBlock.l2]) ?_
    refine evp (by omega) (evp (by omega) (evp (by omega) (evp (by omega) ?_)))
    rw [w64s i (by omega)]
    refine Ev.congr (fun k => ?_) (ih (i + 1) (by omega))
    rw [← fin_step h s i hh hs (by omega)]
    simp only [Int.toNat_natCast, Int.emod_add_emod]
theorem rnd_is (s : List Int) (k w : Int) : rnd s k w = [((((((((((rd s 7) + (Go.bits .xor .u32 (Go.bits .xor .u32 (tn (rd s 4) 6) (tn (rd s 4) 11)) (tn (rd s 4) 25))) % 4294967296) + (Go.bits .xor .u32 (Go.bits .and .u32 (rd s 4) (rd s 5)) (Go.bits .and .u32 (Go.bits .xor .u32 IntKind.u32.max (rd s 4)) (rd s 6)))) % 4294967296) + k) % 4294967296) + w) % 4294967296) + (((Go.bits .xor .u32 (Go.bits .xor .u32 (tn (rd s 0) 2) (tn (rd s 0) 13)) (tn (rd s 0) 22)) + (Go.bits .xor .u32 (Go.bits .xor .u32 (Go.bits .and .u32 (rd s 0) (rd s 1)) (Go.bits .and .u32 (rd s 0) (rd s 2))) (Go.bits .and .u32 (rd s 1) (rd s 2)))) % 4294967296)) % 4294967296, rd s 0, rd s 1, rd s 2, ((rd s 3) + (((((((((rd s 7) + (Go.bits .xor .u32 (Go.bits .xor .u32 (tn (rd s 4) 6) (tn (rd s 4) 11)) (tn (rd s 4) 25))) % 4294967296) + (Go.bits .xor .u32 (Go.bits .and .u32 (rd s 4) (rd s 5)) (Go.bits .and .u32 (Go.bits .xor .u32 IntKind.u32.max (rd s 4)) (rd s 6)))) % 4294967296) + k) % 4294967296) + w) % 4294967296)) % 4294967296, rd s 4, rd s 5, rd s 6] := by
  have hm : IntKind.u32.max = 4294967295 := rfl
  unfold rnd
  rw [hm, bits_xor_comm .u32 4294967295 (rd s 4)]
  simp only [Int.emod_add_emod, r1, r2]
theorem keys_len : keys.length = 64 := rfl
theorem rndsGo_drop (ks ws s : List Int) (i : Nat) (h1 : i < ks.length) (h2 : i < ws.length) : rndsGo (ks.drop i) (ws.drop i) s = rndsGo (ks.drop (i + 1)) (ws.drop (i + 1)) (rnd s (rd ks (i : Int)) (rd ws (i : Int))) := by
  rw [drop_rd ks i h1, drop_rd ws i h2, rndsGo]
theorem impl_ShaBlock_l1 (h : List Int) (ws t : List Int) (hw : ws.length = 64) (hh : h.length = 8) (hr : ∀ x ∈ h, 0 ≤ x ∧ x ≤ 4294967295) : ∀ (d i : Nat) (s : List Int), i + d = 64 → s.length = 8 → rndsGo (keys.drop i) (ws.drop i) s = t → Ev (fun k => impl_ShaBlock.l1 k h s keys ws 64 (i : Int)) (fin h t) := by
  intro d
  induction d with
  | zero =>
    intro i s h1 h2 h3
    have hi : i = 64 := by omega
    subst hi
    refine Ev.step (fun k => by rw [impl_ShaBlock.l1]) (evn (by decide) ?_)
    rw [List.drop_of_length_le (by rw [keys_len]; exact Nat.le_refl _), rndsGo_nil] at h3
    subst h3
    have := impl_ShaBlock_l2 h s hh h2 hr 8 0 rfl
    rw [List.take_zero, List.drop_zero, List.nil_append] at this
    rw [h2]
    exact this
  | succ d ih =>
    intro i s h1 h2 h3
    have hk := keys_len
    refine Ev.step (fun k => by rw [impl_ShaBlock.l1]) ?_
    refine evp (by omega) (evp (by omega) (evp (by omega) (evp (by omega) (evp (by omega) (evp (by omega) ?_)))))
    refine evb (impl_turn_is _ _ (by omega) (by omega)) (evb (impl_turn_is _ _ (by omega) (by omega)) (evb (impl_turn_is _ _ (by omega) (by omega)) ?_))
    refine evp (by omega) (evp (by omega) (evp (by omega) ?_))
    refine evb (impl_turn_is _ _ (by omega) (by omega)) (evb (impl_turn_is _ _ (by omega) (by omega)) (evb (impl_turn_is _ _ (by omega) (by omega)) ?_))
    refine evp (by omega) (evp (by omega) (evp (by omega) ?_))
    rw [← rnd_is, w64s i (by omega)]
    refine ih (i + 1) _ (by omega) (rnd_len _ _ _) ?_
    rw [← h3]
    exact (rndsGo_drop keys ws s i (by omega) (by omega)).symm
def shaB (h : List Int) (b : ByteArray) : List Int := if h.length = 8 ∧ b.size = 64 ∧ (∀ x ∈ h, 0 ≤ x ∧ x ≤ 4294967295) then blk h b else h
theorem impl_rounds_is : impl_rounds.f = some keys := rfl
theorem impl_ShaBlock_l0 (h : List Int) (b : ByteArray) (hb : b.size = 64) (hh : h.length = 8) : ∀ (d i : Nat), i + d = 8 → (∀ j, j < i → 0 ≤ rd h (j : Int) ∧ rd h (j : Int) ≤ 4294967295) → Ev (fun k => impl_ShaBlock.l0 k b h (h.take i ++ List.replicate (8 - i) 0) h 8 (i : Int)) (shaB h b) := by
  intro d
  induction d with
  | zero =>
    intro i h1 h2
    have hi : i = 8 := by omega
    subst hi
    have hr : ∀ x ∈ h, 0 ≤ x ∧ x ≤ 4294967295 := by
      intro x hx
      obtain ⟨j, hj, rfl⟩ := List.mem_iff_getElem.1 hx
      have := h2 j (by omega)
      rwa [rd_nat h j hj] at this
    refine Ev.step (fun k => by rw [impl_ShaBlock.l0]) (evn (by decide) (evb impl_rounds_is (Ev.bind (impl_schedule_is b hb) ?_)))
    have e : shaB h b = fin h (rndsGo keys (sched b) h) := by unfold shaB; rw [if_pos ⟨hh, hb, hr⟩]; rfl
    rw [e, sched_len, List.take_of_length_le (by omega), show 8 - 8 = 0 from rfl, List.replicate_zero, List.append_nil]
    exact impl_ShaBlock_l1 h (sched b) _ (sched_len b) hh hr 64 0 h rfl hh rfl
  | succ d ih =>
    intro i h1 h2
    have hl : (h.take i ++ List.replicate (8 - i) (0 : Int)).length = 8 := by rw [List.length_append, List.length_take, List.length_replicate]; omega
    refine Ev.step (fun k => by rw [impl_ShaBlock.l0]) ?_
    refine evp (by omega) (evp (by omega) (evp (by omega) (evb (impl_in_is _ _ _) ?_)))
    by_cases hc : 0 ≤ rd h (i : Int) ∧ rd h (i : Int) ≤ 4294967295
    · refine evp (decide_eq_true hc) (evp (by omega) ?_)
      rw [w64s i (by omega)]
      refine Ev.congr (fun k => ?_) (ih (i + 1) (by omega) ?_)
      · congr 1
        rw [Int.emod_eq_of_lt hc.1 (by omega), Int.toNat_natCast, List.set_append_right _ _ (by rw [List.length_take]; omega), List.length_take, show i - min i h.length = 0 by omega, show 8 - i = (8 - (i + 1)) + 1 by omega, List.replicate_succ, List.set_cons_zero, List.take_succ_eq_append_getElem (by omega : i < h.length), List.append_assoc, rd_nat h i (by omega)]
        rfl
      · intro j hj
        by_cases hji : j = i
        · subst hji; exact hc
        · exact h2 j (by omega)
    · refine evn (by rw [decide_eq_false hc]; simp) (evs ?_)
      unfold shaB
      rw [if_neg]
      rintro ⟨_, _, hr⟩
      exact hc (by rw [rd_nat h i (by omega)]; exact hr _ (List.getElem_mem _))
theorem impl_ShaBlock_is (h : List Int) (b : ByteArray) (hl : h.length < 17592186044416) : Ev (fun k => impl_ShaBlock.f k h b) (shaB h b) := by
  unfold impl_ShaBlock.f
  refine evb rfl (evp (by simpa using hl) (evb rfl ?_))
  rw [List.nil_append]
  by_cases h8 : h.length = 8
  · refine evp (by omega) (Ev.step (fun k => by rw [impl_ShaBlock.j0]) ?_)
    by_cases hb : b.size = 64
    · refine evn (by simp [hb]) (evp (by omega) ?_)
      rw [h8]
      exact impl_ShaBlock_l0 h b hb h8 8 0 rfl (fun j hj => by omega)
    · refine evp (by simp; omega) (evs ?_)
      unfold shaB
      rw [if_neg (fun hc => hb hc.2.1)]
  · refine evn (by omega) (Ev.step (fun k => by rw [impl_ShaBlock.j0]) (evp rfl (evs ?_)))
    unfold shaB
    rw [if_neg (fun hc => h8 hc.1)]

theorem shaB_blk (h : List Int) (b : ByteArray) (h8 : h.length = 8) (hb : b.size = 64) (hr : ∀ x ∈ h, 0 ≤ x ∧ x ≤ 4294967295) : shaB h b = blk h b := by unfold shaB; rw [if_pos ⟨h8, hb, hr⟩]
theorem impl_Digest_l1 (h : List Int) (h8 : h.length = 8) : ∀ (d i : Nat), i + d = 8 → Ev (fun k => impl_Digest.l1 k (digB (h.take i)) h 8 (i : Int)) (strOfNums (digB h)) := by
  intro d
  induction d with
  | zero =>
    intro i h1
    have hi : i = 8 := by omega
    subst hi
    refine Ev.step (fun k => by rw [impl_Digest.l1]) (evn (by decide) (evs ?_))
    rw [List.take_of_length_le (by omega)]
  | succ d ih =>
    intro i h1
    refine Ev.step (fun k => by rw [impl_Digest.l1]) ?_
    have hl : (digB (h.take i)).length = 4 * i := by rw [digB_len, List.length_take]; omega
    refine evp (by omega) (evp (by omega) (evp (by omega) (evb rfl (evp ?_ ?_))))
    · rw [hl]; simp; omega
    · rw [w64s i (by omega)]
      refine Ev.congr (fun k => ?_) (ih (i + 1) (by omega))
      rw [List.take_succ_eq_append_getElem (by omega : i < h.length), digB_app, ← rd_nat h i (by omega)]
      rfl
theorem impl_Digest_l0 (p : ByteArray) (m : Nat) (hp : p.size = 64 * m) (hm : p.size ≤ 140737488355328) (t : List Int) : ∀ (d i : Nat) (h : List Int), i + d = m → h.length = 8 → (∀ x ∈ h, 0 ≤ x ∧ x ≤ 4294967295) → blocksGo d h p (64 * i) = t → Ev (fun k => impl_Digest.l0 k h p ((64 * i : Nat) : Int)) (strOfNums (digB t)) := by
  intro d
  induction d with
  | zero =>
    intro i h h1 h8 hr ht
    refine Ev.step (fun k => by rw [impl_Digest.l0]) (evn (by omega) ?_)
    rw [blocksGo] at ht
    subst ht
    rw [h8]
    exact impl_Digest_l1 h h8 8 0 rfl
  | succ d ih =>
    intro i h h1 h8 hr ht
    have e : wrap64 (((64 * i : Nat) : Int) + 64) = ((64 * (i + 1) : Nat) : Int) := by rw [w64 (by omega) (by omega)]; omega
    have hb : (p.extract (64 * i) (64 * i + 64)).size = 64 := by rw [ByteArray.size_extract]; omega
    refine Ev.step (fun k => by rw [impl_Digest.l0]) ?_
    rw [e]
    refine evp (by omega) (evp (by omega) (evp (by omega) (evp (by omega) ?_)))
    rw [Int.toNat_natCast, Int.toNat_natCast, show 64 * (i + 1) = 64 * i + 64 by omega]
    refine Ev.bind (impl_ShaBlock_is h _ (by omega)) ?_
    rw [shaB_blk h _ h8 hb hr]
    have hs := rndsGo_len keys (sched (p.extract (64 * i) (64 * i + 64))) h h8
    have := ih (i + 1) (blk h (p.extract (64 * i) (64 * i + 64))) (by omega) (blk_len _ h8) fin_range ?_
    · rw [show 64 * (i + 1) = 64 * i + 64 by omega] at this
      exact this
    · rw [← ht, blocksGo]
      rfl
theorem impl_Digest_is (s : ByteArray) (hs : s.size ≤ 140737488351232) : Ev (fun k => impl_Digest.f k s) (dig s) := by
  unfold impl_Digest.f
  refine evb (a := first) rfl (Ev.bind (impl_PadText_is s hs) ?_)
  have hsz : (strOfNums (Pad.padB s)).size = 64 * ((s.size + 9 + Pad.padK s.size) / 64) := by rw [strOfNums_size, padB_len]
  have hk : Pad.padK s.size < 64 := by unfold Pad.padK; omega
  exact impl_Digest_l0 (strOfNums (Pad.padB s)) _ hsz (by rw [hsz]; omega) _ _ 0 first (Nat.zero_add _) rfl (by decide) rfl
theorem blocksGo_len : ∀ (d : Nat) (h : List Int) (p : ByteArray) (i : Nat), h.length = 8 → (blocksGo d h p i).length = 8
  | 0, _, _, _, h => h
  | d + 1, h, p, i, h8 => blocksGo_len d _ p _ (blk_len _ h8)
theorem dig_size (s : ByteArray) : (dig s).size = 32 := by
  unfold dig
  rw [strOfNums_size, digB_len, blocksGo_len _ _ _ _ rfl]

theorem spec_Digest_is (s : ByteArray) (hs : s.size ≤ 140737488351232) : spec_Digest.f s = some (dig s) := by
  unfold spec_Digest.f
  rw [if_pos hs]

theorem laws_eqIntS_l (l : List Int) (hl : l.length ≤ 4000000) : ∀ (d i : Nat), i + d = l.length → Ev (fun k => laws_eqIntS.l0 k l l (i : Int)) true := by
  intro d
  induction d with
  | zero =>
    intro i h
    refine Ev.step (fun k => by rw [laws_eqIntS.l0]) ?_
    exact evn (by omega) (evs rfl)
  | succ d ih =>
    intro i h
    refine Ev.step (fun k => by rw [laws_eqIntS.l0]) ?_
    refine evp (by omega) (evp (by omega) (evp (by omega) (evp rfl ?_)))
    rw [w64s i (by omega)]
    exact ih (i + 1) (by omega)
theorem laws_eqIntS_is (l : List Int) (hl : l.length ≤ 4000000) : Ev (fun k => laws_eqIntS.f k l l) true := by
  unfold laws_eqIntS.f
  exact evp rfl (laws_eqIntS_l l hl l.length 0 (Nat.zero_add _))

def ramp (n : Nat) : List Int := (List.range n).map fun i : Nat => (i : Int) + 1
theorem ramp_len (n : Nat) : (ramp n).length = n := by simp [ramp]
theorem ramp_rd (n i : Nat) (h : i < n) : rd (ramp n) (i : Int) = (i : Int) + 1 := by
  rw [rd_nat _ i (by rw [ramp_len]; exact h)]
  simp [ramp]
theorem ramp_take (n i : Nat) (h : i < n) : (ramp n).take (i + 1) = (ramp n).take i ++ [(i : Int) + 1] := by
  rw [List.take_succ_eq_append_getElem (by rw [ramp_len]; exact h), ← rd_nat _ i (by rw [ramp_len]; exact h), ramp_rd n i h]
theorem laws_markIntS_l (l : List Int) (hl : l.length ≤ 4000000) : ∀ (d i : Nat), i + d = l.length → Ev (fun k => laws_markIntS.l0 k ((ramp l.length).take i ++ l.drop i) ((i : Int) + 1) (i : Int)) ((l.length : Int) + 1, ramp l.length) := by
  intro d
  induction d with
  | zero =>
    intro i h
    refine Ev.step (fun k => by rw [laws_markIntS.l0]) ?_
    have hi : i = l.length := by omega
    subst hi
    refine evn (by rw [List.length_append, List.length_take, List.length_drop, ramp_len]; omega) (evs ?_)
    rw [List.take_of_length_le (by rw [ramp_len]; exact Nat.le_refl _), List.drop_of_length_le (Nat.le_refl _), List.append_nil]
  | succ d ih =>
    intro i h
    have hn : ((ramp l.length).take i ++ l.drop i).length = l.length := by rw [List.length_append, List.length_take, List.length_drop, ramp_len]; omega
    refine Ev.step (fun k => by rw [laws_markIntS.l0]) ?_
    refine evp (by omega) (evp (by omega) ?_)
    have e1 : wrap64 ((i : Int) + 1 + 1) = ((i + 1 : Nat) : Int) + 1 := by rw [w64 (by omega) (by omega)]; omega
    rw [w64s i (by omega), e1]
    refine Ev.congr (fun k => ?_) (ih (i + 1) (by omega))
    congr 1
    rw [ramp_take _ i (by omega), Int.toNat_natCast, List.set_append_right _ _ (by rw [List.length_take, ramp_len]; omega), List.length_take, ramp_len, show i - min i l.length = 0 by omega, List.drop_eq_getElem_cons (by omega : i < l.length), List.set_cons_zero, List.append_assoc]
    rfl
theorem laws_markIntS_is (l : List Int) (hl : l.length ≤ 4000000) : Ev (fun k => laws_markIntS.f k l 1) ((l.length : Int) + 1, ramp l.length) := laws_markIntS_l l hl l.length 0 (Nat.zero_add _)
theorem laws_heldIntS_l (n : Nat) (hl : n ≤ 4000000) : ∀ (d i : Nat), i + d = n → Ev (fun k => laws_heldIntS.l0 k (ramp n) ((i : Int) + 1) (i : Int)) ((n : Int) + 1) := by
  have hr := ramp_len n
  intro d
  induction d with
  | zero =>
    intro i h
    refine Ev.step (fun k => by rw [laws_heldIntS.l0]) ?_
    refine evn (by omega) (evs ?_)
    omega
  | succ d ih =>
    intro i h
    refine Ev.step (fun k => by rw [laws_heldIntS.l0]) ?_
    refine evp (by omega) (evp (by omega) (evp (ramp_rd n i (by omega)) ?_))
    have e1 : wrap64 ((i : Int) + 1 + 1) = ((i + 1 : Nat) : Int) + 1 := by rw [w64 (by omega) (by omega)]; omega
    rw [w64s i (by omega), e1]
    exact ih (i + 1) (by omega)
theorem laws_heldIntS_is (n : Nat) (hl : n ≤ 4000000) : Ev (fun k => laws_heldIntS.f k (ramp n) 1) ((n : Int) + 1) := laws_heldIntS_l n hl n 0 (Nat.zero_add _)

theorem i64_and3 (n : Nat) (h : n ≤ 9223372036854775807) : Go.bits .and .i64 (n : Int) 3 = ((n % 4 : Nat) : Int) := by
  have := (i64_nat n 3 (by omega) (by omega)).1
  rw [nat_mask2] at this
  exact this
def qn (n : Nat) : List Int := [((n / 64 % 4 : Nat) : Int), ((n / 16 % 4 : Nat) : Int), ((n / 4 % 4 : Nat) : Int), ((n % 4 : Nat) : Int)]
def qs (n : Nat) : Int := ((n / 64 % 4 + n / 16 % 4 + n / 4 % 4 + n % 4 : Nat) : Int)
theorem quadL_nat (n : Nat) (h : n < 256) : quadL (n : Int) = qn n := by
  have a := i64_and3 (n / 64) (by omega)
  have b := i64_and3 (n / 16) (by omega)
  have c := i64_and3 (n / 4) (by omega)
  have d := i64_and3 n (by omega)
  unfold quadL qn
  rw [← a, ← b, ← c, ← d]
  rfl
theorem qval (n s : Nat) (m : Int) (hn : n < 256) (hm : m = (s : Int)) (hs : s ≤ 6) (hu : IntKind.u64.wrap m = m) : Go.bits .and .i64 (shr .i64 (wrap64 (n : Int)) (IntKind.u64.wrap m)) 3 = ((n / 2 ^ s % 4 : Nat) : Int) := by
  rw [hu, hm, w64 (by omega) (by omega)]
  unfold shr
  have b : IntKind.i64.bits = 64 := rfl
  rw [b, Int.toNat_natCast, Nat.min_eq_left (by omega)]
  have e : (n : Int) / 2 ^ s = ((n / 2 ^ s : Nat) : Int) := by norm_cast
  rw [e]
  exact i64_and3 _ (Nat.le_trans (Nat.div_le_self _ _) (by omega))
theorem spec_Quads_l1 (d : ByteArray) (hd : d.size = 32) (i : Nat) (hi : i < 2) (n : Nat) (hn : n < 256) (hb : bt d (i : Int) = (n : Int)) (acc : List Int) (ha : acc.length ≤ 100) (s : Int) (h0 : 0 ≤ s) (h1 : s ≤ 100) (r : List Int)
    (h : Ev (fun k => spec_QuadsOf.l0 k d (acc ++ qn n) (s + qs n) ((i + 1 : Nat) : Int)) r) : Ev (fun k => spec_QuadsOf.l1 k d acc s (i : Int) 6) r := by
  have u6 : IntKind.u64.wrap 6 = 6 := rfl
  have u4 : IntKind.u64.wrap 4 = 4 := rfl
  have u2 : IntKind.u64.wrap 2 = 2 := rfl
  have u0 : IntKind.u64.wrap 0 = 0 := rfl
  have w6 : wrap64 (6 - 2) = 4 := by unfold wrap64; omega
  have w4 : wrap64 (4 - 2) = 2 := by unfold wrap64; omega
  have w2 : wrap64 (2 - 2) = 0 := by unfold wrap64; omega
  have w0 : wrap64 (0 - 2) = -2 := by unfold wrap64; omega
  have v6 := qval n 6 6 hn rfl (by omega) u6
  have v4 := qval n 4 4 hn rfl (by omega) u4
  have v2 := qval n 2 2 hn rfl (by omega) u2
  have v0 := qval n 0 0 hn rfl (by omega) u0
  refine Ev.step (fun k => by rw [spec_QuadsOf.l1]) ?_
  rw [hb, v6, w6, w64 (by omega) (by omega)]
  refine evp (by omega) (evp (by omega) (evp (by omega) (evp (by rw [u6]; omega) (evp (by omega) ?_))))
  refine Ev.step (fun k => by rw [spec_QuadsOf.l1]) ?_
  rw [hb, v4, w4, w64 (by omega) (by omega)]
  refine evp (by omega) (evp (by omega) (evp (by omega) (evp (by rw [u4]; omega) (evp (by simp; omega) ?_))))
  refine Ev.step (fun k => by rw [spec_QuadsOf.l1]) ?_
  rw [hb, v2, w2, w64 (by omega) (by omega)]
  refine evp (by omega) (evp (by omega) (evp (by omega) (evp (by rw [u2]; omega) (evp (by simp; omega) ?_))))
  refine Ev.step (fun k => by rw [spec_QuadsOf.l1]) ?_
  rw [hb, v0, w0, w64 (by omega) (by omega)]
  refine evp (by omega) (evp (by omega) (evp (by omega) (evp (by rw [u0]; omega) (evp (by simp; omega) ?_))))
  refine Ev.step (fun k => by rw [spec_QuadsOf.l1]) (evn (by omega) ?_)
  rw [w64s i (by omega)]
  have e1 : acc ++ [((n / 2 ^ 6 % 4 : Nat) : Int)] ++ [((n / 2 ^ 4 % 4 : Nat) : Int)] ++ [((n / 2 ^ 2 % 4 : Nat) : Int)] ++ [((n / 2 ^ 0 % 4 : Nat) : Int)] = acc ++ qn n := by
    simp [qn]
  have e2 : s + ((n / 2 ^ 6 % 4 : Nat) : Int) + ((n / 2 ^ 4 % 4 : Nat) : Int) + ((n / 2 ^ 2 % 4 : Nat) : Int) + ((n / 2 ^ 0 % 4 : Nat) : Int) = s + qs n := by
    unfold qs
    simp
    omega
  rw [e1, e2]
  exact h
theorem miss8 (x1 x2 x3 x4 x5 x6 x7 x8 : Int) (h1 : 0 ≤ x1 ∧ x1 ≤ 3) (h2 : 0 ≤ x2 ∧ x2 ≤ 3) (h3 : 0 ≤ x3 ∧ x3 ≤ 3) (h4 : 0 ≤ x4 ∧ x4 ≤ 3) (h5 : 0 ≤ x5 ∧ x5 ≤ 3) (h6 : 0 ≤ x6 ∧ x6 ≤ 3) (h7 : 0 ≤ x7 ∧ x7 ≤ 3) (h8 : 0 ≤ x8 ∧ x8 ≤ 3) :
    missOf [x1, x2, x3, x4, x5, x6, x7, x8] 8 = 24 - (x1 + x2 + x3 + x4 + x5 + x6 + x7 + x8) := by
  show wrap64 (wrap64 (wrap64 (wrap64 (wrap64 (wrap64 (wrap64 (wrap64 (24 - x1) - x2) - x3) - x4) - x5) - x6) - x7) - x8) = _
  rw [show wrap64 (24 - x1) = 24 - x1 from w64 (by omega) (by omega)]
  rw [show wrap64 (24 - x1 - x2) = 24 - x1 - x2 from w64 (by omega) (by omega)]
  rw [show wrap64 (24 - x1 - x2 - x3) = 24 - x1 - x2 - x3 from w64 (by omega) (by omega)]
  rw [show wrap64 (24 - x1 - x2 - x3 - x4) = 24 - x1 - x2 - x3 - x4 from w64 (by omega) (by omega)]
  rw [show wrap64 (24 - x1 - x2 - x3 - x4 - x5) = 24 - x1 - x2 - x3 - x4 - x5 from w64 (by omega) (by omega)]
  rw [show wrap64 (24 - x1 - x2 - x3 - x4 - x5 - x6) = 24 - x1 - x2 - x3 - x4 - x5 - x6 from w64 (by omega) (by omega)]
  rw [show wrap64 (24 - x1 - x2 - x3 - x4 - x5 - x6 - x7) = 24 - x1 - x2 - x3 - x4 - x5 - x6 - x7 from w64 (by omega) (by omega)]
  rw [show wrap64 (24 - x1 - x2 - x3 - x4 - x5 - x6 - x7 - x8) = 24 - x1 - x2 - x3 - x4 - x5 - x6 - x7 - x8 from w64 (by omega) (by omega)]
  omega
theorem spec_QuadsOf_is (t : ByteArray) (ht : t.size ≤ 140737488351232) : Ev (fun k => spec_QuadsOf.f k t) (quads (dig t)) := by
  unfold spec_QuadsOf.f
  refine evb (spec_Digest_is t ht) ?_
  have hd := dig_size t
  obtain ⟨a, ha, ha2⟩ := bt_nat (dig t) 0
  obtain ⟨b, hb, hb2⟩ := bt_nat (dig t) 1
  have e8 : quads8 (dig t) = qn a ++ qn b := by unfold quads8; rw [ha, hb, quadL_nat a ha2, quadL_nat b hb2]
  have hm : missOf (quads8 (dig t)) 8 = 24 - (qs a + qs b) := by
    rw [e8]
    refine (miss8 _ _ _ _ _ _ _ _ ?_ ?_ ?_ ?_ ?_ ?_ ?_ ?_).trans ?_
    all_goals (try (constructor <;> omega))
    unfold qs
    omega
  refine Ev.step (fun k => by rw [spec_QuadsOf.l0]) (evp (by omega) ?_)
  refine spec_Quads_l1 (dig t) hd 0 (by omega) a ha2 ha [] (by simp) 0 (by omega) (by omega) _ ?_
  refine Ev.step (fun k => by rw [spec_QuadsOf.l0]) (evp (by omega) ?_)
  refine spec_Quads_l1 (dig t) hd 1 (by omega) b hb2 hb (qn a) (by simp [qn]) (0 + qs a) (by unfold qs; omega) (by unfold qs; omega) _ ?_
  refine Ev.step (fun k => by rw [spec_QuadsOf.l0]) (evn (by omega) ?_)
  refine evb rfl (evp (by simp [qn]) (evs ?_))
  have hq : 0 ≤ qs a + qs b ∧ qs a + qs b ≤ 24 := by unfold qs; omega
  obtain ⟨m, hm2⟩ := Int.eq_ofNat_of_zero_le (show 0 ≤ 24 - (qs a + qs b) by omega)
  have hm3 : m ≤ 24 := by omega
  unfold quads
  rw [hm, e8, hm2, show 24 - (0 + qs a + qs b) = (m : Int) by omega, show wrap64 (m : Int) = (m : Int) from w64 (by omega) (by omega)]
  have x1 := i64_and3 (m / 16) (by omega)
  have x2 := i64_and3 (m / 4) (by omega)
  have x3 := i64_and3 m (by omega)
  rw [show (m : Int) / 16 = ((m / 16 : Nat) : Int) from rfl, show (m : Int) / 4 = ((m / 4 : Nat) : Int) from rfl, x1, x2, x3]
  congr 1
  have t1 : Int.tdiv (m : Int) 16 = (m : Int) / 16 := Int.tdiv_eq_ediv_of_nonneg (by omega)
  have t2 : Int.tdiv (m : Int) 4 = (m : Int) / 4 := Int.tdiv_eq_ediv_of_nonneg (by omega)
  rw [t1, t2, show wrap64 ((m : Int) / 16) = (m : Int) / 16 from w64 (by omega) (by omega), show wrap64 ((m : Int) / 4) = (m : Int) / 4 from w64 (by omega) (by omega), Int.tmod_eq_emod_of_nonneg (by omega), Int.tmod_eq_emod_of_nonneg (by omega)]
  simp only [List.cons.injEq, and_true]
  omega
theorem impl_QuadsOf_is (t : ByteArray) (ht : t.size ≤ 140737488351232) : Ev (fun k => impl_QuadsOf.f k t) (quads (dig t)) := by
  unfold impl_QuadsOf.f
  exact Ev.bind (impl_Digest_is t ht) (evp (dig_size t) (Ev.now _))
theorem quads_len (d : ByteArray) : (quads d).length = 11 := rfl
theorem FnExactQuadsOf : laws_FnExactQuadsOf.Pure := by
  intro s hs
  refine Ev.rounds (g := fun k => laws_FnExactQuadsOf.f k s) ?_
  simp only [laws_FnExactQuadsOf.f]
  by_cases h0 : (s.size : Int) > 1048576
  · exact evp h0 (Ev.now _)
  have hl : (quads (dig s)).length ≤ 4000000 := by rw [quads_len]; omega
  refine evn h0 (Ev.bind (spec_QuadsOf_is s (by omega)) (Ev.bind (impl_QuadsOf_is s (by omega)) (Ev.bind (laws_eqIntS_is _ hl) (evp rfl ?_))))
  refine Ev.bind (laws_markIntS_is _ hl) (Ev.bind (laws_heldIntS_is _ hl) (evn (by omega) (evp rfl ?_)))
  refine Ev.bind (impl_QuadsOf_is s (by omega)) (Ev.bind (laws_eqIntS_is _ hl) (evp rfl ?_))
  exact Ev.bind (laws_heldIntS_is _ hl) (evn (by omega) (evp rfl (Ev.now _)))

end Go.Proofs.Ytimfjedhcokohaa.Pure
