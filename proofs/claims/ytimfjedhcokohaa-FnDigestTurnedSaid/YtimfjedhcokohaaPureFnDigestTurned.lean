/-
The law FnDigestTurned of the given program answers true at every input: the plain statement that is left when the printed walk has stepped through the code.
Conditions: the bounds of the given row (sizes of texts and lists, numbers of their kinds); none of our own.
-/
import Derived.Test.YtimfjedhcokohaaPFnDigestTurnedx5
import Derived.Laws.BitsAllLaws
import Derived.Test.YtimfjedhcokohaaStart
import Derived.Test.YtimfjedhcokohaaShaB
import Derived.Test.YtimfjedhcokohaaQuads
import Derived.Test.YtimfjedhcokohaaTurn
namespace Go.Proofs.Ytimfjedhcokohaa.Pure
open Go.RowKit Go.Proofs.Ytimfjedhcokohaa.PFnDigestTurned Go.Proofs.YtimfjedhcokohaaW.PrintWords Go.Proofs.YtimfjedhcokohaaW.PrintLast Go.Proofs.YtimfjedhcokohaaW.PrintMore Go.Proofs.Ytimfjedhcokohaa.Sha Go.Proofs.Ytimfjedhcokohaa.Blk Go.Proofs.Ytimfjedhcokohaa.Dig Go.Proofs.Ytimfjedhcokohaa.Start Go.Proofs.Ytimfjedhcokohaa.Turn
set_option linter.unusedVariables false

theorem evp {α : Type} {c : Prop} [Decidable c] {f g : Nat → Option α} {r : α} (hc : c) (h : Ev f r) : Ev (fun k => if c then f k else g k) r := Ev.congr (fun _ => if_pos hc) h
theorem evn {α : Type} {c : Prop} [Decidable c] {f g : Nat → Option α} {r : α} (hc : ¬ c) (h : Ev g r) : Ev (fun k => if c then f k else g k) r := Ev.congr (fun _ => if_neg hc) h
theorem evs {α : Type} {x y : α} (h : x = y) : Ev (fun _ => some x) y := by subst h; exact Ev.now _
theorem evc {α : Type} {x : Option α} {y : α} (h : x = some y) : Ev (fun _ => x) y := by subst h; exact Ev.now _
theorem w64 {n : Int} (h1 : -9223372036854775808 ≤ n) (h2 : n ≤ 9223372036854775807) : wrap64 n = n := IntWalk.wrap64_in n ⟨h1, h2⟩
theorem w64n (n : Nat) (h : n ≤ 9223372036854775807) : wrap64 (n : Int) = (n : Int) := w64 (by omega) (by omega)
theorem w64s (n : Nat) (h : n + 1 ≤ 9223372036854775807) : wrap64 ((n : Int) + 1) = ((n + 1 : Nat) : Int) := by rw [w64 (by omega) (by omega)]; rfl
theorem w64a (a b : Nat) (h : a + b ≤ 9223372036854775807) : wrap64 ((a : Int) + (b : Int)) = ((a + b : Nat) : Int) := by rw [w64 (by omega) (by omega)]; rfl
theorem w64m (a b : Nat) (h : a * b ≤ 9223372036854775807) : wrap64 ((a : Int) * (b : Int)) = ((a * b : Nat) : Int) := by
  have e : ((a * b : Nat) : Int) = (a : Int) * (b : Int) := Int.natCast_mul a b
  rw [w64 (by omega) (by omega), e]
theorem wf64 {n : Int} (h : (Lit.int .i64 n).wf = true) : -9223372036854775808 ≤ n ∧ n ≤ 9223372036854775807 := by
  simp [Lit.wf, IntKind.min, IntKind.max, IntKind.bits, IntKind.signed] at h
  omega
theorem bt_lo (s : ByteArray) (i : Int) : 0 ≤ bt s i := (bt_range s i).1
theorem bt_hi (s : ByteArray) (i : Int) : bt s i ≤ 255 := (bt_range s i).2
theorem wfu32 {n : Int} (h : (Lit.int .u32 n).wf = true) : 0 ≤ n ∧ n < 4294967296 := by
  simp [Lit.wf, IntKind.min, IntKind.max, IntKind.bits, IntKind.signed] at h
  omega
theorem evb {α β : Type} {x : Option α} {f : Nat → α → Option β} {a : α} {r : β} (h : x = some a) (k : Ev (fun n => f n a) r) : Ev (fun n => x.bind (f n)) r := Ev.bind (g := fun _ => x) (evc h) k
theorem i64_nat (a b : Nat) (ha : a < 9223372036854775808) (hb : b < 9223372036854775808) : Go.bits .and .i64 (a : Int) (b : Int) = ((a &&& b : Nat) : Int) ∧ Go.bits .or .i64 (a : Int) (b : Int) = ((a ||| b : Nat) : Int) :=
  bits_nat .i64 63 (by decide) (fun m h0 h1 => by rw [IntKind.wrap_i64]; omega) a b ha hb

theorem tl_inj {a b : ByteArray} : a.toList = b.toList ↔ a = b := by
  rw [ByteArray.toList_eq, ByteArray.toList_eq]
  exact ⟨fun h => ByteArray.ext (Array.toList_inj.mp h), fun h => by rw [h]⟩
theorem son_bytesOf (s : ByteArray) : strOfNums (bytesOf s) = s := by
  apply tl_inj.1
  rw [ByteArray.toList_eq, ByteArray.toList_eq, strOfNums_data, bytesOf, List.map_map]
  have : ((fun n : Int => UInt8.ofNat n.toNat) ∘ fun b : UInt8 => (b.toNat : Int)) = id := by
    funext b; simp
  rw [this, List.map_id]
theorem bytesOf_son (l : List Int) (h : ∀ b ∈ l, 0 ≤ b ∧ b ≤ 255) : bytesOf (strOfNums l) = l := by
  rw [bytesOf, strOfNums_data, List.map_map]
  have : l.map ((fun b : UInt8 => (b.toNat : Int)) ∘ fun n : Int => UInt8.ofNat n.toNat) = l.map id := by
    apply List.map_congr_left
    intro b hb
    have := h b hb
    simp only [Function.comp, id, UInt8.toNat_ofNat']
    omega
  rw [this, List.map_id]
theorem bytesOf_inj {a b : ByteArray} (h : bytesOf a = bytesOf b) : a = b := by rw [← son_bytesOf a, ← son_bytesOf b, h]
theorem bytesOf_extract (s : ByteArray) (a b : Nat) : bytesOf (s.extract a b) = ((bytesOf s).drop a).take (b - a) := by
  unfold bytesOf
  rw [ByteArray.data_extract]
  simp [List.map_take, List.map_drop, List.extract]
theorem bytesOf_append (a b : ByteArray) : bytesOf (a ++ b) = bytesOf a ++ bytesOf b := by
  unfold bytesOf
  rw [ByteArray.data_append]
  simp
theorem bytesOf_range (s : ByteArray) : ∀ b ∈ bytesOf s, 0 ≤ b ∧ b ≤ 255 := by
  intro b hb
  unfold bytesOf at hb
  obtain ⟨c, _, rfl⟩ := List.mem_map.1 hb
  have := c.toNat_lt
  omega
theorem bytesOf_drop (s : ByteArray) (i : Nat) (h : i < s.size) : (bytesOf s).drop i = bt s (i : Int) :: (bytesOf s).drop (i + 1) := by
  have hl : i < (bytesOf s).length := by rw [bytesOf_length]; exact h
  rw [List.drop_eq_getElem_cons hl]
  congr 1
  have := rd_bytesOf s (i : Int)
  rw [← this]
  unfold rd
  simp [List.getD_eq_getElem?_getD, hl]
theorem bt_nat (s : ByteArray) (i : Int) : ∃ n : Nat, bt s i = (n : Int) ∧ n < 256 := by
  have h := bt_range s i
  exact ⟨(bt s i).toNat, by omega, by omega⟩

theorem impl_in_is (x a b : Int) : impl_in.f x a b = some (decide (a ≤ x ∧ x ≤ b)) := by
  unfold impl_in.f
  by_cases h : x ≥ a
  · rw [if_pos h]; congr 1; rw [decide_eq_decide]; exact ⟨fun h2 => ⟨h, h2⟩, fun h2 => h2.2⟩
  · rw [if_neg h]; congr 1; symm; rw [decide_eq_false_iff_not]; exact fun h2 => h h2.1

theorem rd_nat (l : List Int) (i : Nat) (h : i < l.length) : rd l (i : Int) = l[i] := by
  unfold rd
  rw [Int.toNat_natCast, List.getD_eq_getElem?_getD, List.getElem?_eq_getElem h]
  rfl

theorem son_app (a b : List Int) : strOfNums (a ++ b) = strOfNums a ++ strOfNums b := by
  apply tl_inj.1
  rw [ByteArray.toList_eq, ByteArray.toList_eq, ByteArray.data_append, Array.toList_append, strOfNums_data, strOfNums_data, strOfNums_data, List.map_append]
theorem son_byt (s : ByteArray) : strOfNums (Pad.byt s) = s := son_bytesOf s
theorem son_zeros (m : Nat) : strOfNums (List.replicate m 0) = ⟨(List.replicate m (0 : UInt8)).toArray⟩ := by
  apply tl_inj.1
  rw [ByteArray.toList_eq, ByteArray.toList_eq, strOfNums_data, List.map_replicate]
  simp
theorem impl_PadText_l0 (k : Nat) (x : ByteArray) (n : Int) (hx : x.size ≤ 9223372036854775000) : impl_PadText.l0 (k + 9) x n [0, 0, 0, 0, 0, 0, 0, 0] 7 = some (x ++ strOfNums (Pad.be8 n)) := by
  have w7 : wrap64 (7 - 1) = 6 := by unfold wrap64; omega
  have w6 : wrap64 (6 - 1) = 5 := by unfold wrap64; omega
  have w5 : wrap64 (5 - 1) = 4 := by unfold wrap64; omega
  have w4 : wrap64 (4 - 1) = 3 := by unfold wrap64; omega
  have w3 : wrap64 (3 - 1) = 2 := by unfold wrap64; omega
  have w2 : wrap64 (2 - 1) = 1 := by unfold wrap64; omega
  have w1 : wrap64 (1 - 1) = 0 := by unfold wrap64; omega
  have w0 : wrap64 (0 - 1) = -1 := by unfold wrap64; omega
  rw [impl_PadText.l0, if_pos (by decide), if_pos (by decide), if_pos (by simp), w7]
  rw [impl_PadText.l0, if_pos (by decide), if_pos (by decide), if_pos (by simp), w6]
  rw [impl_PadText.l0, if_pos (by decide), if_pos (by decide), if_pos (by simp), w5]
  rw [impl_PadText.l0, if_pos (by decide), if_pos (by decide), if_pos (by simp), w4]
  rw [impl_PadText.l0, if_pos (by decide), if_pos (by decide), if_pos (by simp), w3]
  rw [impl_PadText.l0, if_pos (by decide), if_pos (by decide), if_pos (by simp), w2]
  rw [impl_PadText.l0, if_pos (by decide), if_pos (by decide), if_pos (by simp), w1]
  rw [impl_PadText.l0, if_pos (by decide), if_pos (by decide), if_pos (by simp), w0]
  have e : (((((((([0, 0, 0, 0, 0, 0, 0, 0] : List Int).set (7 : Int).toNat (n % 256)).set (6 : Int).toNat (n / 256 % 256)).set (5 : Int).toNat (n / 256 / 256 % 256)).set (4 : Int).toNat (n / 256 / 256 / 256 % 256)).set (3 : Int).toNat (n / 256 / 256 / 256 / 256 % 256)).set (2 : Int).toNat (n / 256 / 256 / 256 / 256 / 256 % 256)).set (1 : Int).toNat (n / 256 / 256 / 256 / 256 / 256 / 256 % 256)).set (0 : Int).toNat (n / 256 / 256 / 256 / 256 / 256 / 256 / 256 % 256) = Pad.be8 n := by
    show [n / 256 / 256 / 256 / 256 / 256 / 256 / 256 % 256, n / 256 / 256 / 256 / 256 / 256 / 256 % 256, n / 256 / 256 / 256 / 256 / 256 % 256, n / 256 / 256 / 256 / 256 % 256, n / 256 / 256 / 256 % 256, n / 256 / 256 % 256, n / 256 % 256, n % 256] = _
    unfold Pad.be8
    simp only [List.cons.injEq, and_true]
    omega
  rw [e, impl_PadText.l0, if_neg (by decide), if_pos (by rw [strOfNums_size]; show x.size + 8 ≤ _; omega)]
theorem impl_PadText_is (s : ByteArray) (hs : s.size ≤ 140737488351232) : Ev (fun k => impl_PadText.f k s) (strOfNums (Pad.padB s)) := by
  unfold impl_PadText.f
  refine evp (by omega) ?_
  have hz : (s ++ (⟨#[128]⟩ : ByteArray)).size = s.size + 1 := by rw [ByteArray.size_append]; rfl
  rw [hz]
  have hm : (((56 - (((s.size + 1 : Nat) : Int) % 64)) + 64) % 64).toNat = Pad.padK s.size := by unfold Pad.padK; omega
  have hr : strings_Repeat.f (⟨#[0]⟩ : ByteArray) (((56 - (((s.size + 1 : Nat) : Int) % 64)) + 64) % 64) = some (strOfNums (List.replicate (Pad.padK s.size) 0)) := by
    unfold strings_Repeat.f
    rw [if_pos ⟨by omega, by omega, by decide⟩, hm, son_zeros]
    have : Lib.repeatL [(0 : UInt8)] (Pad.padK s.size) = List.replicate (Pad.padK s.size) 0 := by
      have h := Lib.repeatL_replicate (0 : UInt8) 1 (Pad.padK s.size)
      rw [Nat.mul_one] at h
      exact h
    rw [show (⟨#[0]⟩ : ByteArray).data.toList = [(0 : UInt8)] from rfl, this]
  refine evb hr ?_
  have hk : Pad.padK s.size < 64 := by unfold Pad.padK; omega
  have hz2 : (strOfNums (List.replicate (Pad.padK s.size) 0)).size = Pad.padK s.size := by rw [strOfNums_size, List.length_replicate]
  refine evp (by rw [hz2]; omega) (evp (by omega) ?_)
  have hn : wrap64 (8 * (s.size : Int)) = 8 * (s.size : Int) := w64 (by omega) (by omega)
  rw [hn]
  refine ⟨9, fun k hk => ?_⟩
  obtain ⟨m, rfl⟩ : ∃ m, k = m + 9 := ⟨k - 9, by omega⟩
  have h := impl_PadText_l0 m ((s ++ (⟨#[128]⟩ : ByteArray)) ++ strOfNums (List.replicate (Pad.padK s.size) 0)) (8 * (s.size : Int)) (by rw [ByteArray.size_append, hz, hz2]; omega)
  refine Eq.trans h ?_
  congr 1
  unfold Pad.padB
  rw [son_app, son_app, son_app, son_byt]
  rfl

theorem bits_xor_comm (k : IntKind) (a b : Int) : Go.bits .xor k a b = Go.bits .xor k b a := by
  simp only [Go.bits, BitVec.xor_comm]
theorem impl_turn_is (x n : Int) (h0 : 0 ≤ n) (h1 : n ≤ 32) : impl_turn.f x n = some (tn x n) := by
  unfold impl_turn.f
  have e : wrap64 (32 - n) = 32 - n := w64 (by omega) (by omega)
  have b : IntKind.u32.bits = 32 := rfl
  rw [if_pos h0, e, if_pos (by omega)]
  unfold shr shl tn
  rw [b, Nat.min_eq_left (by omega), Nat.min_eq_left (by omega), IntKind.wrap_u32']
theorem impl_schedule_l1 (b : ByteArray) : ∀ (d i : Nat) (p : List Int), i + d = 64 → 16 ≤ i → p.length = i → schedGo d p = sched b → Ev (fun k => impl_schedule.l1 k p (i : Int)) (sched b) := by
  intro d
  induction d with
  | zero =>
    intro i p h1 h2 h3 h4
    refine Ev.step (fun k => by rw [impl_schedule.l1]) (evn (by omega) (evs ?_))
    rw [schedGo] at h4
    exact h4
  | succ d ih =>
    intro i p h1 h2 h3 h4
    have e15 : wrap64 ((i : Int) - 15) = ((p.length : Int) - 15) := by rw [w64 (by omega) (by omega)]; omega
    have e2 : wrap64 ((i : Int) - 2) = ((p.length : Int) - 2) := by rw [w64 (by omega) (by omega)]; omega
    have e16 : wrap64 ((i : Int) - 16) = ((p.length : Int) - 16) := by rw [w64 (by omega) (by omega)]; omega
    have e7 : wrap64 ((i : Int) - 7) = ((p.length : Int) - 7) := by rw [w64 (by omega) (by omega)]; omega
    have e1 : wrap64 ((i : Int) + 1) = ((i + 1 : Nat) : Int) := w64s i (by omega)
    refine Ev.step (fun k => by rw [impl_schedule.l1]) ?_
    simp only [e15, e2, e16, e7, e1]
    refine evp (by omega) (evp (by omega) (evp (by omega) (evp (by omega) (evp (by omega) ?_))))
    refine evb (impl_turn_is _ _ (by omega) (by omega)) (evb (impl_turn_is _ _ (by omega) (by omega)) (evb (impl_turn_is _ _ (by omega) (by omega)) (evb (impl_turn_is _ _ (by omega) (by omega)) ?_)))
    refine evp (by omega) (evp (by omega) (evp (by omega) (evp (by omega) (evp (by omega) ?_))))
    refine Ev.congr (fun k => ?_) (ih (i + 1) (p ++ [nextW' p (p.length : Int)]) (by omega) (by omega) (by rw [List.length_append, h3]; rfl) h4)
    congr 3
    unfold nextW' nextW
    simp only [Int.emod_add_emod]
theorem impl_schedule_l0 (b : ByteArray) (hb : b.size = 64) : ∀ (d i : Nat), i + d = 16 → Ev (fun k => impl_schedule.l0 k b (w16 b i) (i : Int)) (sched b) := by
  intro d
  induction d with
  | zero =>
    intro i h1
    have hi : i = 16 := by omega
    subst hi
    refine Ev.step (fun k => by rw [impl_schedule.l0]) (evn (by decide) ?_)
    exact impl_schedule_l1 b 48 16 (w16 b 16) (by omega) (by omega) (by simp [w16]) rfl
  | succ d ih =>
    intro i h1
    have hl : (w16 b i).length = i := by simp [w16]
    have e0 : wrap64 (4 * (i : Int)) = 4 * (i : Int) := w64 (by omega) (by omega)
    have e1 : wrap64 (4 * (i : Int) + 1) = 4 * (i : Int) + 1 := w64 (by omega) (by omega)
    have e2 : wrap64 (4 * (i : Int) + 2) = 4 * (i : Int) + 2 := w64 (by omega) (by omega)
    have e3 : wrap64 (4 * (i : Int) + 3) = 4 * (i : Int) + 3 := w64 (by omega) (by omega)
    have e5 : wrap64 ((i : Int) + 1) = ((i + 1 : Nat) : Int) := w64s i (by omega)
    refine Ev.step (fun k => by rw [impl_schedule.l0]) ?_
    simp only [e0, e1, e2, e3, e5]
    refine evp (by omega) (evp (by omega) (evp (by omega) (evp (by omega) (evp (by omega) (evp (by omega) (evp (by omega) (evp (by omega) (evp (by omega) (evp (by omega) ?_)))))))))
    refine Ev.congr (fun k => ?_) (ih (i + 1) (by omega))
    have : w16 b (i + 1) = w16 b i ++ [word b (i : Int)] := by simp [w16, List.range_succ]
    rw [this]
    rfl
theorem impl_schedule_is (b : ByteArray) (hb : b.size = 64) : Ev (fun k => impl_schedule.f k b) (sched b) := impl_schedule_l0 b hb 16 0 rfl
theorem impl_ShaBlock_l2 (h s : List Int) (hh : h.length = 8) (hs : s.length = 8) (hr : ∀ x ∈ h, 0 ≤ x ∧ x ≤ 4294967295) : ∀ (d i : Nat), i + d = 8 → Ev (fun k => impl_ShaBlock.l2 k ((fin h s).take i ++ h.drop i) s 8 (i : Int)) (fin h s) := by
  have hf : (fin h s).length = 8 := fin_len hh hs
  intro d
  induction d with
  | zero =>
    intro i h1
    have hi : i = 8 := by omega
    subst hi
    refine Ev.step (fun k => by rw [impl_ShaBlock.l2]) (evn (by decide) (evs ?_))
    rw [List.take_of_length_le (by omega), List.drop_of_length_le (by omega), List.append_nil]
  | succ d ih =>
    intro i h1
    have hl : ((fin h s).take i ++ h.drop i).length = 8 := by rw [List.length_append, List.length_take, List.length_drop]; omega
    refine Ev.step (fun k => by rw [impl_ShaBlock.l2]) ?_
    refine evp (by omega) (evp (by omega) (evp (by omega) (evp (by omega) ?_)))
    rw [w64s i (by omega)]
    refine Ev.congr (fun k => ?_) (ih (i + 1) (by omega))
    rw [← fin_step h s i hh hs (by omega)]
    simp only [Int.toNat_natCast, Int.emod_add_emod]
theorem rnd_is (s : List Int) (k w : Int) : rnd s k w = [((((((((((rd s 7) + (Go.bits .xor .u32 (Go.bits .xor .u32 (tn (rd s 4) 6) (tn (rd s 4) 11)) (tn (rd s 4) 25))) % 4294967296) + (Go.bits .xor .u32 (Go.bits .and .u32 (rd s 4) (rd s 5)) (Go.bits .and .u32 (Go.bits .xor .u32 IntKind.u32.max (rd s 4)) (rd s 6)))) % 4294967296) + k) % 4294967296) + w) % 4294967296) + (((Go.bits .xor .u32 (Go.bits .xor .u32 (tn (rd s 0) 2) (tn (rd s 0) 13)) (tn (rd s 0) 22)) + (Go.bits .xor .u32 (Go.bits .xor .u32 (Go.bits .and .u32 (rd s 0) (rd s 1)) (Go.bits .and .u32 (rd s 0) (rd s 2))) (Go.bits .and .u32 (rd s 1) (rd s 2)))) % 4294967296)) % 4294967296, rd s 0, rd s 1, rd s 2, ((rd s 3) + (((((((((rd s 7) + (Go.bits .xor .u32 (Go.bits .xor .u32 (tn (rd s 4) 6) (tn (rd s 4) 11)) (tn (rd s 4) 25))) % 4294967296) + (Go.bits .xor .u32 (Go.bits .and .u32 (rd s 4) (rd s 5)) (Go.bits .and .u32 (Go.bits .xor .u32 IntKind.u32.max (rd s 4)) (rd s 6)))) % 4294967296) + k) % 4294967296) + w) % 4294967296)) % 4294967296, rd s 4, rd s 5, rd s 6] := by
  have hm : IntKind.u32.max = 4294967295 := rfl
  unfold rnd
  rw [hm, bits_xor_comm .u32 4294967295 (rd s 4)]
  simp only [Int.emod_add_emod, r1, r2]
theorem keys_len : keys.length = 64 := rfl
theorem rndsGo_drop (ks ws s : List Int) (i : Nat) (h1 : i < ks.length) (h2 : i < ws.length) : rndsGo (ks.drop i) (ws.drop i) s = rndsGo (ks.drop (i + 1)) (ws.drop (i + 1)) (rnd s (rd ks (i : Int)) (rd ws (i : Int))) := by
  rw [drop_rd ks i h1, drop_rd ws i h2, rndsGo]
theorem impl_ShaBlock_l1 (h : List Int) (ws t : List Int) (hw : ws.length = 64) (hh : h.length = 8) (hr : ∀ x ∈ h, 0 ≤ x ∧ x ≤ 4294967295) : ∀ (d i : Nat) (s : List Int), i + d = 64 → s.length = 8 → rndsGo (keys.drop i) (ws.drop i) s = t → Ev (fun k => impl_ShaBlock.l1 k h s keys ws 64 (i : Int)) (fin h t) := by
  intro d
  induction d with
  | zero =>
    intro i s h1 h2 h3
    have hi : i = 64 := by omega
    subst hi
    refine Ev.step (fun k => by rw [impl_ShaBlock.l1]) (evn (by decide) ?_)
    rw [List.drop_of_length_le (by rw [keys_len]; exact Nat.le_refl _), rndsGo_nil] at h3
    subst h3
    have := impl_ShaBlock_l2 h s hh h2 hr 8 0 rfl
    rw [List.take_zero, List.drop_zero, List.nil_append] at this
    rw [h2]
    exact this
  | succ d ih =>
    intro i s h1 h2 h3
    have hk := keys_len
    refine Ev.step (fun k => by rw [impl_ShaBlock.l1]) ?_
    refine evp (by omega) (evp (by omega) (evp (by omega) (evp (by omega) (evp (by omega) (evp (by omega) ?_)))))
    refine evb (impl_turn_is _ _ (by omega) (by omega)) (evb (impl_turn_is _ _ (by omega) (by omega)) (evb (impl_turn_is _ _ (by omega) (by omega)) ?_))
    refine evp (by omega) (evp (by omega) (evp (by omega) ?_))
    refine evb (impl_turn_is _ _ (by omega) (by omega)) (evb (impl_turn_is _ _ (by omega) (by omega)) (evb (impl_turn_is _ _ (by omega) (by omega)) ?_))
    refine evp (by omega) (evp (by omega) (evp (by omega) ?_))
    rw [← rnd_is, w64s i (by omega)]
    refine ih (i + 1) _ (by omega) (rnd_len _ _ _) ?_
    rw [← h3]
    exact (rndsGo_drop keys ws s i (by omega) (by omega)).symm
def shaB (h : List Int) (b : ByteArray) : List Int := if h.length = 8 ∧ b.size = 64 ∧ (∀ x ∈ h, 0 ≤ x ∧ x ≤ 4294967295) then blk h b else h
theorem impl_rounds_is : impl_rounds.f = some keys := rfl
theorem impl_ShaBlock_l0 (h : List Int) (b : ByteArray) (hb : b.size = 64) (hh : h.length = 8) : ∀ (d i : Nat), i + d = 8 → (∀ j, j < i → 0 ≤ rd h (j : Int) ∧ rd h (j : Int) ≤ 4294967295) → Ev (fun k => impl_ShaBlock.l0 k b h (h.take i ++ List.replicate (8 - i) 0) h 8 (i : Int)) (shaB h b) := by
  intro d
  induction d with
  | zero =>
    intro i h1 h2
    have hi : i = 8 := by omega
    subst hi
    have hr : ∀ x ∈ h, 0 ≤ x ∧ x ≤ 4294967295 := by
      intro x hx
      obtain ⟨j, hj, rfl⟩ := List.mem_iff_getElem.1 hx
      have := h2 j (by omega)
      rwa [rd_nat h j hj] at this
    refine Ev.step (fun k => by rw [impl_ShaBlock.l0]) (evn (by decide) (evb impl_rounds_is (Ev.bind (impl_schedule_is b hb) ?_)))
    have e : shaB h b = fin h (rndsGo keys (sched b) h) := by unfold shaB; rw [if_pos ⟨hh, hb, hr⟩]; rfl
    rw [e, sched_len, List.take_of_length_le (by omega), show 8 - 8 = 0 from rfl, List.replicate_zero, List.append_nil]
    exact impl_ShaBlock_l1 h (sched b) _ (sched_len b) hh hr 64 0 h rfl hh rfl
  | succ d ih =>
    intro i h1 h2
    have hl : (h.take i ++ List.replicate (8 - i) (0 : Int)).length = 8 := by rw [List.length_append, List.length_take, List.length_replicate]; omega
    refine Ev.step (fun k => by rw [impl_ShaBlock.l0]) ?_
    refine evp (by omega) (evp (by omega) (evp (by omega) (evb (impl_in_is _ _ _) ?_)))
    by_cases hc : 0 ≤ rd h (i : Int) ∧ rd h (i : Int) ≤ 4294967295
    · refine evp (decide_eq_true hc) (evp (by omega) ?_)
      rw [w64s i (by omega)]
      refine Ev.congr (fun k => ?_) (ih (i + 1) (by omega) ?_)
      · congr 1
        rw [Int.emod_eq_of_lt hc.1 (by omega), Int.toNat_natCast, List.set_append_right _ _ (by rw [List.length_take]; omega), List.length_take, show i - min i h.length = 0 by omega, show 8 - i = (8 - (i + 1)) + 1 by omega, List.replicate_succ, List.set_cons_zero, List.take_succ_eq_append_getElem (by omega : i < h.length), List.append_assoc, rd_nat h i (by omega)]
        rfl
      · intro j hj
        by_cases hji : j = i
        · subst hji; exact hc
        · exact h2 j (by omega)
    · refine evn (by rw [decide_eq_false hc]; simp) (evs ?_)
      unfold shaB
      rw [if_neg]
      rintro ⟨_, _, hr⟩
      exact hc (by rw [rd_nat h i (by omega)]; exact hr _ (List.getElem_mem _))
theorem impl_ShaBlock_is (h : List Int) (b : ByteArray) (hl : h.length < 17592186044416) : Ev (fun k => impl_ShaBlock.f k h b) (shaB h b) := by
  unfold impl_ShaBlock.f
  refine evb rfl (evp (by simpa using hl) (evb rfl ?_))
  rw [List.nil_append]
  by_cases h8 : h.length = 8
  · refine evp (by omega) (Ev.step (fun k => by rw [impl_ShaBlock.j0]) ?_)
    by_cases hb : b.size = 64
    · refine evn (by simp [hb]) (evp (by omega) ?_)
      rw [h8]
      exact impl_ShaBlock_l0 h b hb h8 8 0 rfl (fun j hj => by omega)
    · refine evp (by simp; omega) (evs ?_)
      unfold shaB
      rw [if_neg (fun hc => hb hc.2.1)]
  · refine evn (by omega) (Ev.step (fun k => by rw [impl_ShaBlock.j0]) (evp rfl (evs ?_)))
    unfold shaB
    rw [if_neg (fun hc => h8 hc.1)]

theorem shaB_blk (h : List Int) (b : ByteArray) (h8 : h.length = 8) (hb : b.size = 64) (hr : ∀ x ∈ h, 0 ≤ x ∧ x ≤ 4294967295) : shaB h b = blk h b := by unfold shaB; rw [if_pos ⟨h8, hb, hr⟩]
theorem impl_Digest_l1 (h : List Int) (h8 : h.length = 8) : ∀ (d i : Nat), i + d = 8 → Ev (fun k => impl_Digest.l1 k (digB (h.take i)) h 8 (i : Int)) (strOfNums (digB h)) := by
  intro d
  induction d with
  | zero =>
    intro i h1
    have hi : i = 8 := by omega
    subst hi
    refine Ev.step (fun k => by rw [impl_Digest.l1]) (evn (by decide) (evs ?_))
    rw [List.take_of_length_le (by omega)]
  | succ d ih =>
    intro i h1
    refine Ev.step (fun k => by rw [impl_Digest.l1]) ?_
    have hl : (digB (h.take i)).length = 4 * i := by rw [digB_len, List.length_take]; omega
    refine evp (by omega) (evp (by omega) (evp (by omega) (evb rfl (evp ?_ ?_))))
    · rw [hl]; simp; omega
    · rw [w64s i (by omega)]
      refine Ev.congr (fun k => ?_) (ih (i + 1) (by omega))
      rw [List.take_succ_eq_append_getElem (by omega : i < h.length), digB_app, ← rd_nat h i (by omega)]
      rfl
theorem impl_Digest_l0 (p : ByteArray) (m : Nat) (hp : p.size = 64 * m) (hm : p.size ≤ 140737488355328) (t : List Int) : ∀ (d i : Nat) (h : List Int), i + d = m → h.length = 8 → (∀ x ∈ h, 0 ≤ x ∧ x ≤ 4294967295) → blocksGo d h p (64 * i) = t → Ev (fun k => impl_Digest.l0 k h p ((64 * i : Nat) : Int)) (strOfNums (digB t)) := by
  intro d
  induction d with
  | zero =>
    intro i h h1 h8 hr ht
    refine Ev.step (fun k => by rw [impl_Digest.l0]) (evn (by omega) ?_)
    rw [blocksGo] at ht
    subst ht
    rw [h8]
    exact impl_Digest_l1 h h8 8 0 rfl
  | succ d ih =>
    intro i h h1 h8 hr ht
    have e : wrap64 (((64 * i : Nat) : Int) + 64) = ((64 * (i + 1) : Nat) : Int) := by rw [w64 (by omega) (by omega)]; omega
    have hb : (p.extract (64 * i) (64 * i + 64)).size = 64 := by rw [ByteArray.size_extract]; omega
    refine Ev.step (fun k => by rw [impl_Digest.l0]) ?_
    rw [e]
    refine evp (by omega) (evp (by omega) (evp (by omega) (evp (by omega) ?_)))
    rw [Int.toNat_natCast, Int.toNat_natCast, show 64 * (i + 1) = 64 * i + 64 by omega]
    refine Ev.bind (impl_ShaBlock_is h _ (by omega)) ?_
    rw [shaB_blk h _ h8 hb hr]
    have hs := rndsGo_len keys (sched (p.extract (64 * i) (64 * i + 64))) h h8
    have := ih (i + 1) (blk h (p.extract (64 * i) (64 * i + 64))) (by omega) (blk_len _ h8) fin_range ?_
    · rw [show 64 * (i + 1) = 64 * i + 64 by omega] at this
      exact this
    · rw [← ht, blocksGo]
      rfl
theorem impl_Digest_is (s : ByteArray) (hs : s.size ≤ 140737488351232) : Ev (fun k => impl_Digest.f k s) (dig s) := by
  unfold impl_Digest.f
  refine evb (a := first) rfl (Ev.bind (impl_PadText_is s hs) ?_)
  have hsz : (strOfNums (Pad.padB s)).size = 64 * ((s.size + 9 + Pad.padK s.size) / 64) := by rw [strOfNums_size, padB_len]
  have hk : Pad.padK s.size < 64 := by unfold Pad.padK; omega
  exact impl_Digest_l0 (strOfNums (Pad.padB s)) _ hsz (by rw [hsz]; omega) _ _ 0 first (Nat.zero_add _) rfl (by decide) rfl
theorem blocksGo_len : ∀ (d : Nat) (h : List Int) (p : ByteArray) (i : Nat), h.length = 8 → (blocksGo d h p i).length = 8
  | 0, _, _, _, h => h
  | d + 1, h, p, i, h8 => blocksGo_len d _ p _ (blk_len _ h8)
theorem dig_size (s : ByteArray) : (dig s).size = 32 := by
  unfold dig
  rw [strOfNums_size, digB_len, blocksGo_len _ _ _ _ rfl]

theorem spec_Digest_is (s : ByteArray) (hs : s.size ≤ 140737488351232) : spec_Digest.f s = some (dig s) := by
  unfold spec_Digest.f
  rw [if_pos hs]

def cutD (s : ByteArray) (n : Nat) : ByteArray := (dig s).extract 0 n
theorem cutD_size (s : ByteArray) (n : Nat) (h : n ≤ 32) : (cutD s n).size = n := by
  unfold cutD
  rw [ByteArray.size_extract, dig_size]
  omega
def cutW (s : ByteArray) (w : Int) : ByteArray := if 1 ≤ w ∧ w ≤ 32 then cutD s w.toNat else ⟨#[]⟩
theorem impl_CutDigest_is (s : ByteArray) (w : Int) (hs : s.size ≤ 140737488351232) : Ev (fun k => impl_CutDigest.f k s w) (cutW s w) := by
  unfold impl_CutDigest.f cutW
  refine evb (impl_in_is _ _ _) ?_
  by_cases h : 1 ≤ w ∧ w ≤ 32
  · rw [if_pos h]
    refine evp (by simpa using h) (Ev.bind (impl_Digest_is s hs) (evp (by omega) (evp (by rw [dig_size]; omega) (evs rfl))))
  · rw [if_neg h]
    exact evn (by simpa using h) (evs rfl)

theorem i64_and255 (a : Int) : 0 ≤ Go.bits .and .i64 a 255 ∧ Go.bits .and .i64 a 255 ≤ 255 := by
  show 0 ≤ IntKind.i64.wrap ((BitVec.ofInt 64 a &&& BitVec.ofInt 64 255).toNat : Int) ∧ IntKind.i64.wrap ((BitVec.ofInt 64 a &&& BitVec.ofInt 64 255).toNat : Int) ≤ 255
  rw [BitVec.toNat_and, show (BitVec.ofInt 64 255).toNat = 255 from rfl, nat_mask8, IntKind.wrap_i64]
  omega
theorem rd_range {l : List Int} (hl : ∀ x ∈ l, (Lit.int .u8 x).wf = true) (i : Int) : 0 ≤ rd l i ∧ rd l i ≤ 255 := by
  unfold rd
  rw [List.getD_eq_getElem?_getD]
  cases h : l[i.toNat]? with
  | none => simp
  | some x =>
    have := hl x (List.mem_of_getElem? h)
    simp [Lit.wf, IntKind.min, IntKind.max, IntKind.bits, IntKind.signed] at this
    simp only [Option.getD_some]
    omega
theorem spec_l01New_l (l : List Int) : ∀ (d i : Nat) (h : Int), i + d = 4000 → ∃ h', Ev (fun k => spec_l01New.l0 k l h (i : Int)) (l, 0, h') := by
  intro d
  induction d with
  | zero =>
    intro i h h1
    refine ⟨h, Ev.step (fun k => by rw [spec_l01New.l0]) ?_⟩
    by_cases c : (i : Int) < (l.length : Int)
    · exact evp c (evn (by omega) (evs rfl))
    · exact evn c (evs rfl)
  | succ d ih =>
    intro i h h1
    by_cases c : (i : Int) < (l.length : Int)
    · obtain ⟨h', hh⟩ := ih (i + 1) (Go.bits .and .i64 (wrap64 ((wrap64 ((wrap64 (h * 131)) + (wrap64 (rd l (i : Int))))) + 7)) 1073741823) (by omega)
      refine ⟨h', Ev.step (fun k => by rw [spec_l01New.l0]) (evp c (evp (by omega) (evp (by omega) ?_)))⟩
      rw [w64s i (by omega)]
      exact hh
    · exact ⟨h, Ev.step (fun k => by rw [spec_l01New.l0]) (evn c (evs rfl))⟩
theorem spec_l01New_is (l : List Int) : ∃ h', Ev (fun k => spec_l01New.f k l) (l, 0, h') := spec_l01New_l l 4000 0 _ rfl
theorem spec_l01Byte_is (l : List Int) (hl : ∀ x ∈ l, (Lit.int .u8 x).wf = true) (hm : l.length ≤ 9223372036854775000) (i : Nat) (h : Int) : ∃ (x : Int) (i' : Nat) (h' : Int), spec_l01Byte.f l (i : Int) h = some (x, (i' : Int), h') ∧ 0 ≤ x ∧ x ≤ 255 := by
  unfold spec_l01Byte.f
  by_cases c : (i : Int) < (l.length : Int)
  · rw [if_pos c, if_pos (by omega)]
    rw [w64s i (by omega)]
    exact ⟨_, i + 1, _, rfl, i64_and255 _⟩
  · rw [if_neg c]
    exact ⟨_, i, _, rfl, i64_and255 _⟩
theorem spec_l01Below_is (l : List Int) (hl : ∀ x ∈ l, (Lit.int .u8 x).wf = true) (hm : l.length ≤ 9223372036854775000) (i : Nat) (h n : Int) (hn : 0 < n) : ∃ (x : Int) (i' : Nat) (h' : Int), spec_l01Below.f l (i : Int) h n = some (x, (i' : Int), h') ∧ 0 ≤ x ∧ x < n := by
  unfold spec_l01Below.f
  rw [if_neg (by omega)]
  by_cases c : n ≤ 256
  · rw [if_pos c]
    obtain ⟨x, i', h', e, r1, r2⟩ := spec_l01Byte_is l hl hm i h
    rw [e, Option.bind_some, if_neg (by omega)]
    refine ⟨_, i', h', rfl, ?_, ?_⟩
    · exact Int.tmod_nonneg _ r1
    · exact Int.tmod_lt_of_pos _ hn
  · rw [if_neg c]
    obtain ⟨x, i1, h1, e1, a1, a2⟩ := spec_l01Byte_is l hl hm i h
    obtain ⟨y, i2, h2, e2, b1, b2⟩ := spec_l01Byte_is l hl hm i1 h1
    obtain ⟨z, i3, h3, e3, c1, c2⟩ := spec_l01Byte_is l hl hm i2 h2
    obtain ⟨u, i4, h4, e4, d1, d2⟩ := spec_l01Byte_is l hl hm i3 h3
    rw [e1, Option.bind_some]
    dsimp only
    rw [e2, Option.bind_some]
    dsimp only
    rw [e3, Option.bind_some]
    dsimp only
    rw [e4, Option.bind_some, if_neg (by omega)]
    have q1 : wrap64 (x * 16777216) = x * 16777216 := w64 (by omega) (by omega)
    have q2 : wrap64 (y * 65536) = y * 65536 := w64 (by omega) (by omega)
    have q3 : wrap64 (z * 256) = z * 256 := w64 (by omega) (by omega)
    have q4 : wrap64 (x * 16777216 + y * 65536) = x * 16777216 + y * 65536 := w64 (by omega) (by omega)
    have q5 : wrap64 (x * 16777216 + y * 65536 + z * 256) = x * 16777216 + y * 65536 + z * 256 := w64 (by omega) (by omega)
    have q6 : wrap64 (x * 16777216 + y * 65536 + z * 256 + u) = x * 16777216 + y * 65536 + z * 256 + u := w64 (by omega) (by omega)
    rw [q1, q2, q3, q4, q5, q6]
    exact ⟨_, i4, h4, rfl, Int.tmod_nonneg _ (by omega), Int.tmod_lt_of_pos _ hn⟩

theorem spec_DrawPlaces_l (l : List Int) (hl : ∀ x ∈ l, (Lit.int .u8 x).wf = true) (hm : l.length ≤ 9223372036854775000) : ∀ (d i : Nat) (acc : List Int) (at_ : Nat) (h : Int), i + d = 12 → acc.length = i → (∀ x ∈ acc, 0 ≤ x ∧ x < 10000) →
    ∃ p : List Int, p.length = 12 ∧ (∀ x ∈ p, 0 ≤ x ∧ x < 10000) ∧ Ev (fun k => spec_DrawPlaces.l0 k acc (i : Int) l (at_ : Int) h) p := by
  intro d
  induction d with
  | zero =>
    intro i acc a h h1 h2 h3
    exact ⟨acc, by omega, h3, Ev.step (fun k => by rw [spec_DrawPlaces.l0]) (evn (by omega) (evs rfl))⟩
  | succ d ih =>
    intro i acc a h h1 h2 h3
    obtain ⟨x, a', h', e, r1, r2⟩ := spec_l01Below_is l hl hm a h 10000 (by omega)
    obtain ⟨p, p1, p2, p3⟩ := ih (i + 1) (acc ++ [x]) a' h' (by omega) (by rw [List.length_append, h2]; rfl) (fun y hy => by
      rcases List.mem_append.1 hy with hy | hy
      · exact h3 y hy
      · simp at hy; subst hy; exact ⟨r1, r2⟩)
    refine ⟨p, p1, p2, Ev.step (fun k => by rw [spec_DrawPlaces.l0]) (evp (by omega) (evb e ?_))⟩
    refine evp (by omega) ?_
    rw [w64s i (by omega)]
    exact p3
theorem spec_DrawPlaces_is (l : List Int) (hl : ∀ x ∈ l, (Lit.int .u8 x).wf = true) (hm : l.length ≤ 9223372036854775000) : ∃ p : List Int, p.length = 12 ∧ (∀ x ∈ p, 0 ≤ x ∧ x < 10000) ∧ Ev (fun k => spec_DrawPlaces.f k l) p := by
  obtain ⟨h0, e0⟩ := spec_l01New_is l
  obtain ⟨x, i1, h1, e1, _, _⟩ := spec_l01Byte_is l hl hm 0 h0
  obtain ⟨p, p1, p2, p3⟩ := spec_DrawPlaces_l l hl hm 12 0 [] i1 h1 rfl rfl (fun x hx => by simp at hx)
  exact ⟨p, p1, p2, Ev.bind e0 (evb e1 p3)⟩

theorem spec_l01Text_l (l : List Int) (hl : ∀ x ∈ l, (Lit.int .u8 x).wf = true) (hm : l.length ≤ 9223372036854775000) (n : Int) (hn : n ≤ 5000) : ∀ (d i : Nat) (acc : List Int) (a : Nat) (h : Int), (i : Int) + d = max n 0 → acc.length = i →
    ∃ (t : ByteArray) (a' : Nat) (h' : Int), (t.size : Int) = max n 0 ∧ Ev (fun k => spec_l01Text.l0 k n acc (i : Int) l (a : Int) h) (t, (a' : Int), h') := by
  intro d
  induction d with
  | zero =>
    intro i acc a h h1 h2
    refine ⟨strOfNums acc, a, h, by rw [strOfNums_size]; omega, Ev.step (fun k => by rw [spec_l01Text.l0]) ?_⟩
    exact evn (by omega) (evs rfl)
  | succ d ih =>
    intro i acc a h h1 h2
    obtain ⟨x, a1, h1', e, _, _⟩ := spec_l01Byte_is l hl hm a h
    obtain ⟨t, a', h', t1, t2⟩ := ih (i + 1) (acc ++ [x % 256]) a1 h1' (by omega) (by rw [List.length_append, h2]; rfl)
    refine ⟨t, a', h', t1, Ev.step (fun k => by rw [spec_l01Text.l0]) (evp (by omega) (evb e ?_))⟩
    refine evp (by omega) ?_
    rw [w64s i (by omega)]
    exact t2
theorem spec_l01Text_is (l : List Int) (hl : ∀ x ∈ l, (Lit.int .u8 x).wf = true) (hm : l.length ≤ 9223372036854775000) (a : Nat) (h n : Int) : ∃ (t : ByteArray) (a' : Nat) (h' : Int), (t.size : Int) = max (min n 5000) 0 ∧ Ev (fun k => spec_l01Text.f k l (a : Int) h n) (t, (a' : Int), h') := by
  unfold spec_l01Text.f
  by_cases c : n > 5000
  · obtain ⟨t, a', h', t1, t2⟩ := spec_l01Text_l l hl hm 5000 (by omega) 5000 0 [] a h (by omega) rfl
    refine ⟨t, a', h', by omega, evp c ?_⟩
    refine Ev.step (fun k => by rw [spec_l01Text.j0]) ?_
    exact t2
  · obtain ⟨t, a', h', t1, t2⟩ := spec_l01Text_l l hl hm n (by omega) n.toNat 0 [] a h (by omega) rfl
    refine ⟨t, a', h', by omega, evn c ?_⟩
    refine Ev.step (fun k => by rw [spec_l01Text.j0]) ?_
    exact t2
theorem rd_mem (l : List Int) (i : Int) (h0 : 0 ≤ i) (h1 : i < l.length) : rd l i ∈ l := by
  unfold rd
  rw [List.getD_eq_getElem?_getD, List.getElem?_eq_getElem (by omega)]
  exact List.getElem_mem _
theorem spec_l01PickInt_is (l : List Int) (hl : ∀ x ∈ l, (Lit.int .u8 x).wf = true) (hm : l.length ≤ 9223372036854775000) (a : Nat) (h : Int) (s : List Int) (hs : 0 < s.length) : ∃ (x : Int) (a' : Nat) (h' : Int), spec_l01PickInt.f l (a : Int) h s = some (x, (a' : Int), h') ∧ x ∈ s := by
  unfold spec_l01PickInt.f
  obtain ⟨x, a', h', e, r1, r2⟩ := spec_l01Below_is l hl hm a h (s.length : Int) (by omega)
  rw [e, Option.bind_some, if_pos r1, if_pos r2]
  exact ⟨_, a', h', rfl, rd_mem s x r1 r2⟩
theorem spec_l03Some_is (l : List Int) (hl : ∀ x ∈ l, (Lit.int .u8 x).wf = true) (hm : l.length ≤ 9223372036854775000) (a : Nat) (h : Int) : ∃ (t : ByteArray) (a' : Nat) (h' : Int), t.size ≤ 5000 ∧ Ev (fun k => spec_l03Some.f k l (a : Int) h) (t, (a' : Int), h') := by
  obtain ⟨x, a1, h1, e, _⟩ := spec_l01PickInt_is l hl hm a h [0, 1, 3, 9, 54, 55, 56, 63, 64, 65, 119, 120, 200] (by simp)
  obtain ⟨t, a2, h2, t1, t2⟩ := spec_l01Text_is l hl hm a1 h1 x
  exact ⟨t, a2, h2, by omega, evb e (Ev.bind t2 (evs rfl))⟩
theorem spec_DrawTextOf_is (l : List Int) (hl : ∀ x ∈ l, (Lit.int .u8 x).wf = true) (hm : l.length ≤ 9223372036854775000) : ∃ t : ByteArray, t.size ≤ 5000 ∧ Ev (fun k => spec_DrawTextOf.f k l) t := by
  obtain ⟨h0, e0⟩ := spec_l01New_is l
  obtain ⟨t, a, h, t1, t2⟩ := spec_l03Some_is l hl hm 0 h0
  exact ⟨t, t1, Ev.bind e0 (Ev.bind t2 (evs rfl))⟩

theorem pad_begins (t : ByteArray) : (strOfNums (Pad.padB t)).extract 0 t.size = t := by
  apply bytesOf_inj
  have e : strOfNums (Pad.padB t) = t ++ strOfNums ([128] ++ (List.replicate (Pad.padK t.size) 0 ++ Pad.be8 (8 * (t.size : Int)))) := by
    unfold Pad.padB
    rw [List.append_assoc, List.append_assoc, son_app, son_byt]
  rw [e, bytesOf_extract, bytesOf_append, List.drop_zero, Nat.sub_zero, List.take_append_of_le_length (by rw [bytesOf_length]; exact Nat.le_refl _), List.take_of_length_le (by rw [bytesOf_length]; exact Nat.le_refl _)]

def hexD (x : Nat) : Int := if x < 10 then ((48 + x : Nat) : Int) else ((87 + x : Nat) : Int)
def hexL (l : List Int) : List Int := l.flatMap fun b => [hexD (b.toNat / 16), hexD (b.toNat % 16)]
theorem hexL_cons (b : Int) (l : List Int) : hexL (b :: l) = [hexD (b.toNat / 16), hexD (b.toNat % 16)] ++ hexL l := rfl
def hexOf (s : ByteArray) : ByteArray × Bool := if s.size > 20000 then (⟨#[]⟩, false) else (strOfNums (hexL (bytesOf s)), true)

theorem u8_and15' (n : Nat) (h : n < 256) : Go.bits .and .u8 (n : Int) 15 = ((n % 16 : Nat) : Int) := by
  have := u8_and_nat n 15 h (by omega)
  rw [nat_mask4] at this
  exact this
theorem hexTab (x : Nat) (h : x < 16) : bt (⟨#[48, 49, 50, 51, 52, 53, 54, 55, 56, 57, 97, 98, 99, 100, 101, 102]⟩ : ByteArray) (x : Int) = hexD x := by
  have : ∀ y : Fin 16, bt (⟨#[48, 49, 50, 51, 52, 53, 54, 55, 56, 57, 97, 98, 99, 100, 101, 102]⟩ : ByteArray) ((y.val : Nat) : Int) = hexD y.val := by decide
  exact this ⟨x, h⟩
theorem impl_Hex_l (s : ByteArray) (hs : s.size ≤ 20000) (d : Nat) : ∀ (i : Nat) (acc : List Int), i + d = s.size → acc.length + 2 * d ≤ 40000 → Ev (fun k => impl_Hex.l0 k s acc (s.size : Int) (i : Int)) (strOfNums (acc ++ hexL ((bytesOf s).drop i)), true) := by
  induction d with
  | zero =>
    intro i acc hi ha
    refine Ev.step (fun k => by rw [impl_Hex.l0]) (evn (by omega) (evs ?_))
    rw [List.drop_eq_nil_of_le (by rw [bytesOf_length]; omega)]
    simp [hexL]
  | succ d ih =>
    intro i acc hi ha
    obtain ⟨n, hn, hn2⟩ := bt_nat s (i : Int)
    refine Ev.step (fun k => by rw [impl_Hex.l0]) (evp (by omega) (evp (by omega) (evp (by omega) ?_)))
    rw [hn, u8_and15' n hn2]
    have e1 : (n : Int) / 16 = ((n / 16 : Nat) : Int) := rfl
    rw [e1]
    refine evp (by omega) (evp (by omega) (evp (by omega) (evp (by omega) (evb rfl (evp (by simp; omega) ?_)))))
    rw [w64 (by omega) (by omega), hexTab _ (by omega), hexTab _ (by omega)]
    have := ih (i + 1) (acc ++ [hexD (n / 16), hexD (n % 16)]) (by omega) (by simp; omega)
    rw [bytesOf_drop s i (by omega), hn, hexL_cons, ← List.append_assoc]
    exact this
theorem impl_Hex_is (s : ByteArray) : Ev (fun k => impl_Hex.f k s) (hexOf s) := by
  unfold hexOf
  simp only [impl_Hex.f]
  by_cases h : (s.size : Int) > 20000
  · exact evp h (evs (by rw [if_pos (by omega)]))
  · refine evn h ?_
    rw [if_neg (by omega)]
    have := impl_Hex_l s (by omega) s.size 0 [] (by omega) (by simp; omega)
    simpa using this

theorem byt_bytesOf (t : ByteArray) : Pad.byt t = bytesOf t := rfl
theorem u8_xor_range (b m : Int) (hb : 0 ≤ b ∧ b ≤ 255) (hm : 0 ≤ m ∧ m ≤ 255) : 0 ≤ Go.bits .xor .u8 b m ∧ Go.bits .xor .u8 b m ≤ 255 := by
  rw [u8_xor b m hb.1 (by omega) hm.1 (by omega)]
  have : b.toNat ^^^ m.toNat < 2 ^ 8 := Nat.xor_lt_two_pow (by omega) (by omega)
  omega
theorem u8_xor_ne (b m : Int) (hb : 0 ≤ b ∧ b ≤ 255) (hm : 1 ≤ m ∧ m ≤ 255) : Go.bits .xor .u8 b m ≠ b := by
  rw [u8_xor b m hb.1 (by omega) (by omega) (by omega)]
  intro h
  have h2 : b.toNat ^^^ m.toNat = b.toNat := by omega
  have h3 : m.toNat = 0 := by
    have := congrArg (b.toNat ^^^ ·) h2
    simpa [← Nat.xor_assoc] using this
  omega
theorem turnB_size (t : ByteArray) (i : Nat) (m : Int) : (turnB t i m).size = t.size := by unfold turnB; rw [strOfNums_size, List.length_set, byt_bytesOf, bytesOf_length]
theorem turnB_ne (t : ByteArray) (i : Nat) (hi : i < t.size) (m : Int) (hm : 1 ≤ m ∧ m ≤ 255) : turnB t i m ≠ t := by
  intro h
  have hb := bt_range t (i : Int)
  have hx := u8_xor_range (bt t (i : Int)) m hb ⟨by omega, hm.2⟩
  have e := congrArg bytesOf h
  unfold turnB at e
  rw [byt_bytesOf, bytesOf_son _ (by
    intro b hb2
    rcases List.mem_or_eq_of_mem_set hb2 with h1 | h1
    · exact bytesOf_range t b h1
    · rw [h1]; exact hx)] at e
  have hl : i < (bytesOf t).length := by rw [bytesOf_length]; exact hi
  have e2 : ((bytesOf t).set i (Go.bits .xor .u8 (bt t (i : Int)) m))[i]'(by rw [List.length_set]; exact hl) = (bytesOf t)[i] := by
    simp only [e]
  rw [List.getElem_set_self] at e2
  have e3 : (bytesOf t)[i] = bt t (i : Int) := by rw [← rd_bytesOf t (i : Int), rd_nat _ i hl]
  rw [e3] at e2
  exact u8_xor_ne _ m hb hm e2

theorem hexL_len : ∀ l : List Int, (hexL l).length = 2 * l.length
  | [] => rfl
  | b :: l => by rw [hexL_cons, List.length_append, hexL_len l]; simp; omega
theorem impl_DigestHex_is (s : ByteArray) (hs : s.size ≤ 140737488351232) : Ev (fun k => impl_DigestHex.f k s) (hexOf (dig s)).1 := Ev.bind (impl_Digest_is s hs) (Ev.bind (impl_Hex_is (dig s)) (evs rfl))
theorem digestHex_size (s : ByteArray) : ((hexOf (dig s)).1).size = 64 := by
  unfold hexOf
  rw [if_neg (by rw [dig_size]; omega), strOfNums_size, hexL_len, bytesOf_length, dig_size]
theorem FnDigestTurned : laws_FnDigestTurned.Pure := by
  intro l hl hl8 hw
  refine Ev.rounds (g := fun k => laws_FnDigestTurned.f k l) ?_
  unfold laws_FnDigestTurned.f
  have hlm : l.length ≤ 9223372036854775000 := by simp only [maxLen] at hl; omega
  obtain ⟨t0, ht0, t2⟩ := spec_DrawTextOf_is l hw hlm
  obtain ⟨p, p1, p2, p3⟩ := spec_DrawPlaces_is l hw hlm
  refine evb rfl ?_
  by_cases c : (l.length : Int) > 1048576
  · exact evp (decide_eq_true c) (Ev.now _)
  have hsz : (t0 ++ (⟨#[120]⟩ : ByteArray)).size = t0.size + 1 := by rw [ByteArray.size_append]; rfl
  generalize ht : t0 ++ (⟨#[120]⟩ : ByteArray) = t at hsz
  refine evn (by simpa using c) (Ev.bind t2 (evp (by omega) (Ev.bind p3 ?_)))
  rw [ht]
  have q0 := p2 _ (rd_mem p 0 (by omega) (by omega))
  have q1 := p2 _ (rd_mem p 1 (by omega) (by omega))
  have q2 := p2 _ (rd_mem p 2 (by omega) (by omega))
  have hu : laws_turned.f t p = some (turnB t ((rd p 0).toNat % t.size) (1 + rd p 1 % 255)) := by
    unfold laws_turned.f
    rw [if_pos ⟨by omega, by omega, by omega, ⟨by omega, by omega⟩, by omega, by omega⟩]
  have hus := turnB_size t ((rd p 0).toNat % t.size) (1 + rd p 1 % 255)
  have hne := turnB_ne t ((rd p 0).toNat % t.size) (Nat.mod_lt _ (by omega)) (1 + rd p 1 % 255) ⟨by omega, by omega⟩
  generalize turnB t ((rd p 0).toNat % t.size) (1 + rd p 1 % 255) = u at hu hus hne
  have ew : wrap64 (1 + Int.tmod (rd p 2) 32) = 1 + rd p 2 % 32 := by rw [Int.tmod_eq_emod_of_nonneg q2.1, w64 (by omega) (by omega)]
  rw [ew]
  have hd := dig_size t
  have e0 : (cutW t 0).toList = [] := by unfold cutW; rw [if_neg (by omega), ByteArray.toList_eq]
  have e33 : (cutW t 33).toList = [] := by unfold cutW; rw [if_neg (by omega), ByteArray.toList_eq]
  refine evb hu (evp (by omega) (Ev.bind (impl_Digest_is t (by omega)) (evb (spec_Digest_is t (by omega)) (evp rfl ?_))))
  refine Ev.bind (impl_Digest_is u (by omega)) (evb (spec_Digest_is u (by omega)) (evp rfl ?_))
  refine Ev.bind (impl_CutDigest_is t _ (by omega)) (Ev.bind (impl_Digest_is t (by omega)) (evp (by omega) (evp (by omega) (evp ?_ ?_))))
  · unfold cutW; rw [if_pos ⟨by omega, by omega⟩]; rfl
  refine Ev.bind (impl_CutDigest_is t 0 (by omega)) (evp e0 ?_)
  refine Ev.bind (impl_CutDigest_is t 33 (by omega)) (evp e33 ?_)
  refine Ev.bind (impl_DigestHex_is u (by omega)) (evp (by rw [digestHex_size]; rfl) ?_)
  refine Ev.bind (impl_PadText_is t (by omega)) (Ev.bind (impl_PadText_is u (by omega)) (evs ?_))
  rw [bne_iff_ne]
  intro h
  have h2 := tl_inj.1 h
  have h3 := pad_begins t
  rw [h2, ← hus, pad_begins u] at h3
  exact hne h3

end Go.Proofs.Ytimfjedhcokohaa.Pure
