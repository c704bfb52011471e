/-
The reference's block of SHA-256 (spec.l03Block, which works on arrays) comes to the plain function 'Sha.blk'; its first numbers and its keys.
Conditions: a state of eight numbers, a block of 64 bytes, 64 keys.
-/
import Derived.Test.YthodhbgocnbddaaProg
import Derived.Test.YthodhbgocnbddaaSha
import Derived.Deep.QuietTactic
import Derived.BigQuiet
import Derived.BigRegion
import Derived.Laws.Rows
import Derived.Laws.Tables
namespace Go.Proofs.Ythodhbgocnbddaa.Blk
open Go.RowKit Go.Proofs.YthodhbgocnbddaaW.PrintWords Go.Proofs.YthodhbgocnbddaaW.PrintLast Go.Proofs.YthodhbgocnbddaaW.PrintMore Go.Proofs.Ythodhbgocnbddaa.Sha
set_option linter.unusedVariables false

def Z (n : Nat) : List Int := List.replicate n 0
/-- The arrays of l03Block: four blocks behind w. -/
structure WH (w wr : World) (hs ks ws : List Int) : Prop where
  bel : Below w.heap.size w wr
  sz : wr.heap.size = w.heap.size + 1 + 1 + 1 + 1
  h0 : wr.heap[w.heap.size]? = some (.cells (nums .u32 hs).toArray 64 (0, 0))
  h1 : wr.heap[w.heap.size + 1]? = some (.cells (nums .u32 ks).toArray 66 (0, 0))
  h2 : wr.heap[w.heap.size + 1 + 1]? = some (.cells (nums .u32 (Z 8)).toArray 64 (0, 0))
  h3 : wr.heap[w.heap.size + 1 + 1 + 1]? = some (.cells (nums .u32 ws).toArray 66 (0, 0))
theorem setRow_heap_same (w : World) (g : Nat) (cs old : Array Value) (t : TypeId) (h : w.heap[g]? = some (.cells old t (0, 0))) : (w.setRow g cs).heap[g]? = some (.cells cs t (0, 0)) := by
  simp [World.setRow, Array.getElem?_modify, h]
theorem setRow_heap_other (w : World) (g j : Nat) (cs : Array Value) (h : j ≠ g) : (w.setRow g cs).heap[j]? = w.heap[j]? := by
  simp [World.setRow, Array.getElem?_modify, Ne.symm h]
theorem below_setRow {B : Nat} {w wr : World} (h : Below B w wr) (g : Nat) (cs : Array Value) (hg : B ≤ g) : Below B w (wr.setRow g cs) :=
  ⟨h.os, h.tape, h.output, by have := h.size; simpa using this, fun i hi => (setRow_heap_other wr g i cs (by omega)).trans (h.block i hi)⟩
theorem cell_nums {wr : World} {g t : Nat} {ws : List Int} (h : wr.heap[g]? = some (.cells (nums .u32 ws).toArray t (0, 0))) (i : Nat) (hi : i < ws.length) : wr.cell? ⟨g, i, none⟩ = some (.int .u32 (rd ws (i : Int))) := by
  rw [cell_of_row wr g i _ t (0, 0) h]
  simp [nums, rd, List.getD_eq_getElem?_getD, hi]
theorem set_nums {wr : World} {g t : Nat} {ws : List Int} (h : wr.heap[g]? = some (.cells (nums .u32 ws).toArray t (0, 0))) (i : Nat) (x : Int) : (wr.setCell ⟨g, i, none⟩ (.int .u32 x)).heap[g]? = some (.cells (nums .u32 (ws.set i x)).toArray t (0, 0)) := by
  rw [heap_setCell_same wr g i _ t _ h]
  simp [nums, List.map_set]
theorem WH.start (w : World) (h ks : List Int) (old : Array Value) : WH w (((((w.alloc (.cells (nums .u32 h).toArray 64)).alloc (.cells (nums .u32 ks).toArray 66)).alloc (.cells (nums .u32 (Z 8)).toArray 64)).alloc (.cells old 66)).setRow (w.heap.size + 1 + 1 + 1) (nums .u32 (Z 64)).toArray) h ks (Z 64) := by
  have e1 : (w.alloc (.cells (nums .u32 h).toArray 64)).heap.size = w.heap.size + 1 := by simp
  have e2 : ((w.alloc (.cells (nums .u32 h).toArray 64)).alloc (.cells (nums .u32 ks).toArray 66)).heap.size = w.heap.size + 1 + 1 := by simp
  have e3 : (((w.alloc (.cells (nums .u32 h).toArray 64)).alloc (.cells (nums .u32 ks).toArray 66)).alloc (.cells (nums .u32 (Z 8)).toArray 64)).heap.size = w.heap.size + 1 + 1 + 1 := by simp
  refine ⟨below_setRow (below_alloc (below_alloc (below_alloc (below_alloc (Below.refl _ _) _) _) _) _) _ _ (by omega), by simp, ?_, ?_, ?_, ?_⟩
  · rw [setRow_heap_other _ _ _ _ (by omega), Below.heap_alloc _ _ _ (by simp; omega), Below.heap_alloc _ _ _ (by simp; omega), Below.heap_alloc _ _ _ (by simp)]
    exact heap_alloc_new _ _
  · rw [setRow_heap_other _ _ _ _ (by omega), Below.heap_alloc _ _ _ (by simp), Below.heap_alloc _ _ _ (by simp)]
    have := heap_alloc_new (w.alloc (.cells (nums .u32 h).toArray 64)) (.cells (nums .u32 ks).toArray 66)
    rwa [e1] at this
  · rw [setRow_heap_other _ _ _ _ (by omega), Below.heap_alloc _ _ _ (by simp)]
    have := heap_alloc_new ((w.alloc (.cells (nums .u32 h).toArray 64)).alloc (.cells (nums .u32 ks).toArray 66)) (.cells (nums .u32 (Z 8)).toArray 64)
    rwa [e2] at this
  · refine setRow_heap_same _ _ _ old 66 ?_
    have := heap_alloc_new (((w.alloc (.cells (nums .u32 h).toArray 64)).alloc (.cells (nums .u32 ks).toArray 66)).alloc (.cells (nums .u32 (Z 8)).toArray 64)) (.cells old 66)
    rwa [e3] at this
theorem WH.drew {w wr : World} {hs ks ws : List Int} (h : WH w wr hs ks ws) : WH w wr.drew hs ks ws := ⟨below_drew h.bel, h.sz, h.h0, h.h1, h.h2, h.h3⟩
theorem WH.drewN {w wr : World} {hs ks ws : List Int} (h : WH w wr hs ks ws) (n : Nat) : WH w (wr.drewN n) hs ks ws := ⟨pw_below_drewN h.bel n, h.sz, h.h0, h.h1, h.h2, h.h3⟩
theorem WH.setW {w wr : World} {hs ks ws : List Int} (h : WH w wr hs ks ws) (i : Nat) (x : Int) : WH w (wr.setCell ⟨w.heap.size + 1 + 1 + 1, i, none⟩ (.int .u32 x)) hs ks (ws.set i x) :=
  ⟨h.bel.setCell (by show w.heap.size ≤ w.heap.size + 1 + 1 + 1; omega) _, by have := h.sz; simpa [World.setCell] using this, by rw [heap_setCell_other _ _ _ _ (by show w.heap.size ≠ w.heap.size + 1 + 1 + 1; omega)]; exact h.h0,
    by rw [heap_setCell_other _ _ _ _ (by show w.heap.size + 1 ≠ w.heap.size + 1 + 1 + 1; omega)]; exact h.h1, by rw [heap_setCell_other _ _ _ _ (by show w.heap.size + 1 + 1 ≠ w.heap.size + 1 + 1 + 1; omega)]; exact h.h2, set_nums h.h3 i x⟩
theorem list8 {l : List Int} (h : l.length = 8) : ∃ a0 a1 a2 a3 a4 a5 a6 a7, l = [a0, a1, a2, a3, a4, a5, a6, a7] := by
  match l, h with
  | [a0, a1, a2, a3, a4, a5, a6, a7], _ => exact ⟨a0, a1, a2, a3, a4, a5, a6, a7, rfl⟩
theorem nums_size (k : IntKind) (l : List Int) : (nums k l).toArray.size = l.length := by simp [nums]
theorem nums_one (l : List Int) : ((nums .u32 l).toArray.all (·.oneCell')) = true := by
  simp [nums, Value.oneCell']
theorem info77 : (Try.prog.info? 64).map (·.size) = some 8 := by kernel_rfl
theorem size77 {l : List Int} (h : l.length = 8) : (Try.prog.info? 64).map (·.size) = some (nums .u32 l).toArray.size := by rw [info77, nums_size, h]
/-- With s, a fifth block. -/
structure WS (w wr : World) (hs ks ws ss : List Int) : Prop where
  bel : Below w.heap.size w wr
  h0 : wr.heap[w.heap.size]? = some (.cells (nums .u32 hs).toArray 64 (0, 0))
  h1 : wr.heap[w.heap.size + 1]? = some (.cells (nums .u32 ks).toArray 66 (0, 0))
  h2 : wr.heap[w.heap.size + 1 + 1]? = some (.cells (nums .u32 (Z 8)).toArray 64 (0, 0))
  h3 : wr.heap[w.heap.size + 1 + 1 + 1]? = some (.cells (nums .u32 ws).toArray 66 (0, 0))
  h4 : wr.heap[w.heap.size + 1 + 1 + 1 + 1]? = some (.cells (nums .u32 ss).toArray 64 (0, 0))
theorem WS.start {w wr : World} {hs ks ws : List Int} (h : WH w wr hs ks ws) {cs : Array Value} : WS w ((wr.alloc (.cells cs 64)).setRow (w.heap.size + 1 + 1 + 1 + 1) (nums .u32 hs).toArray) hs ks ws hs := by
  have hz := h.sz
  refine ⟨below_setRow (h.bel.alloc h.bel.size _) _ _ (by omega), ?_, ?_, ?_, ?_, ?_⟩
  · rw [setRow_heap_other _ _ _ _ (by omega), Below.heap_alloc _ _ _ (by omega)]; exact h.h0
  · rw [setRow_heap_other _ _ _ _ (by omega), Below.heap_alloc _ _ _ (by omega)]; exact h.h1
  · rw [setRow_heap_other _ _ _ _ (by omega), Below.heap_alloc _ _ _ (by omega)]; exact h.h2
  · rw [setRow_heap_other _ _ _ _ (by omega), Below.heap_alloc _ _ _ (by omega)]; exact h.h3
  · refine setRow_heap_same _ _ _ cs 64 ?_
    have := heap_alloc_new wr (.cells cs 64)
    rwa [hz] at this
theorem WS.drew {w wr : World} {hs ks ws ss : List Int} (h : WS w wr hs ks ws ss) : WS w wr.drew hs ks ws ss := ⟨below_drew h.bel, h.h0, h.h1, h.h2, h.h3, h.h4⟩
theorem WS.drewN {w wr : World} {hs ks ws ss : List Int} (h : WS w wr hs ks ws ss) (n : Nat) : WS w (wr.drewN n) hs ks ws ss := ⟨pw_below_drewN h.bel n, h.h0, h.h1, h.h2, h.h3, h.h4⟩
theorem WS.setS {w wr : World} {hs ks ws ss : List Int} (h : WS w wr hs ks ws ss) (i : Nat) (x : Int) : WS w (wr.setCell ⟨w.heap.size + 1 + 1 + 1 + 1, i, none⟩ (.int .u32 x)) hs ks ws (ss.set i x) := by
  refine ⟨h.bel.setCell (by show w.heap.size ≤ w.heap.size + 1 + 1 + 1 + 1; omega) _, ?_, ?_, ?_, ?_, set_nums h.h4 i x⟩
  · rw [heap_setCell_other _ _ _ _ (by show w.heap.size ≠ w.heap.size + 1 + 1 + 1 + 1; omega)]; exact h.h0
  · rw [heap_setCell_other _ _ _ _ (by show w.heap.size + 1 ≠ w.heap.size + 1 + 1 + 1 + 1; omega)]; exact h.h1
  · rw [heap_setCell_other _ _ _ _ (by show w.heap.size + 1 + 1 ≠ w.heap.size + 1 + 1 + 1 + 1; omega)]; exact h.h2
  · rw [heap_setCell_other _ _ _ _ (by show w.heap.size + 1 + 1 + 1 ≠ w.heap.size + 1 + 1 + 1 + 1; omega)]; exact h.h3
theorem WS.setH {w wr : World} {hs ks ws ss : List Int} (h : WS w wr hs ks ws ss) (i : Nat) (x : Int) : WS w (wr.setCell ⟨w.heap.size, i, none⟩ (.int .u32 x)) (hs.set i x) ks ws ss := by
  refine ⟨h.bel.setCell (by show w.heap.size ≤ w.heap.size; omega) _, set_nums h.h0 i x, ?_, ?_, ?_, ?_⟩
  · rw [heap_setCell_other _ _ _ _ (by show w.heap.size + 1 ≠ w.heap.size; omega)]; exact h.h1
  · rw [heap_setCell_other _ _ _ _ (by show w.heap.size + 1 + 1 ≠ w.heap.size; omega)]; exact h.h2
  · rw [heap_setCell_other _ _ _ _ (by show w.heap.size + 1 + 1 + 1 ≠ w.heap.size; omega)]; exact h.h3
  · rw [heap_setCell_other _ _ _ _ (by show w.heap.size + 1 + 1 + 1 + 1 ≠ w.heap.size; omega)]; exact h.h4
theorem drop_rd (l : List Int) (i : Nat) (h : i < l.length) : l.drop i = rd l (i : Int) :: l.drop (i + 1) := by
  rw [List.drop_eq_getElem_cons h]
  simp [rd, List.getD_eq_getElem?_getD, h]
theorem r1_flat (s0 s1 s2 s3 s4 s5 s6 s7 K W : Int) : (s3 + r1 [s0, s1, s2, s3, s4, s5, s6, s7] K W) % 4294967296 = (s3 + (s7 + Go.bits .xor .u32 (Go.bits .xor .u32 (tn s4 6) (tn s4 11)) (tn s4 25) + Go.bits .xor .u32 (Go.bits .and .u32 s4 s5) (Go.bits .and .u32 (Go.bits .xor .u32 s4 4294967295) s6) + K + W)) % 4294967296 := by
  simp [r1, rd]
theorem r0_flat (s0 s1 s2 s3 s4 s5 s6 s7 K W : Int) : (r1 [s0, s1, s2, s3, s4, s5, s6, s7] K W + r2 [s0, s1, s2, s3, s4, s5, s6, s7]) % 4294967296 = (s7 + Go.bits .xor .u32 (Go.bits .xor .u32 (tn s4 6) (tn s4 11)) (tn s4 25) + Go.bits .xor .u32 (Go.bits .and .u32 s4 s5) (Go.bits .and .u32 (Go.bits .xor .u32 s4 4294967295) s6) + K + W + (Go.bits .xor .u32 (Go.bits .xor .u32 (tn s0 2) (tn s0 13)) (tn s0 22) + Go.bits .xor .u32 (Go.bits .xor .u32 (Go.bits .and .u32 s0 s1) (Go.bits .and .u32 s0 s2)) (Go.bits .and .u32 s1 s2))) % 4294967296 := by
  simp [r1, r2, rd]
theorem rndsGo_nil (ws s : List Int) : rndsGo [] ws s = s := by rw [rndsGo]; exact fun _ _ _ _ h => by cases h
theorem fin_step (h s : List Int) (i : Nat) (hh : h.length = 8) (hs : s.length = 8) (hi : i < 8) :
    ((fin h s).take i ++ h.drop i).set i ((rd ((fin h s).take i ++ h.drop i) (i : Int) + rd s (i : Int)) % 4294967296) = (fin h s).take (i + 1) ++ h.drop (i + 1) := by
  have hf : (fin h s).length = 8 := fin_len hh hs
  have e1 : rd ((fin h s).take i ++ h.drop i) (i : Int) = rd h (i : Int) := by
    simp [rd, List.getD_eq_getElem?_getD, List.getElem?_append_right, hf, Nat.min_eq_left (Nat.le_of_lt hi)]
  have hl : ((fin h s).take i).length = i := by rw [List.length_take, hf]; omega
  rw [e1, List.set_append_right _ _ (by omega), hl, Nat.sub_self, drop_rd h i (by omega), List.set_cons_zero, List.take_succ_eq_append_getElem (by omega : i < (fin h s).length), List.append_assoc]
  congr 1
  rw [List.singleton_append]
  congr 1
  unfold fin
  rw [List.getElem_zipWith]
  simp [rd, List.getD_eq_getElem?_getD, hh, hs, hi]
theorem rd_left (p q : List Int) (j : Nat) (h : j < p.length) : rd (p ++ q) (j : Int) = rd p (j : Int) := by
  simp [rd, List.getD_eq_getElem?_getD, List.getElem?_append_left h]
theorem set_next (p q : List Int) (x : Int) {i : Nat} (hp : p.length = i) (hi : i < 64) (hq : q = p ++ [x]) : (p ++ Z (64 - i)).set i x = q ++ Z (64 - (i + 1)) := by
  subst hq
  have e : Z (64 - i) = 0 :: Z (64 - (i + 1)) := by
    have : 64 - i = (64 - (i + 1)) + 1 := by omega
    rw [this]; rfl
  rw [e, List.set_append_right _ _ (by omega), hp]
  simp
set_option maxRecDepth 100000 in
theorem turn_calls (x n : Int) (h0 : 0 ≤ n) (h1 : n ≤ 32) (w : World) : Calls Try.prog 54 #[.int .u32 x, .int .u64 n] w fun e w' => e = .returned (.int .u32 (tn x n)) ∧ w' = w := by
  go_enter Try.func54, Try.ntmps54
  go_wp2
  go_ret
  exact ⟨rfl, rfl⟩
theorem turn_quiet (x n : Int) (h0 : 0 ≤ n) (h1 : n ≤ 32) (w : World) (m : Nat) : Calls Try.prog 54 #[.int .u32 x, .int .u64 n] (w.drewN m) fun e w' => e = .returned (.int .u32 (tn x n)) ∧ ∃ j, w' = w.drewN j :=
  (turn_calls x n h0 h1 _).mono fun _ _ ⟨he, hw⟩ => ⟨he, m, hw⟩
set_option maxHeartbeats 8000000 in
set_option maxRecDepth 100000 in
theorem block_calls (h : List Int) (h8 : h.length = 8) (b : ByteArray) (hb : b.size = 64) (ks : List Int) (k64 : ks.length = 64) (w : World) :
    Calls Try.prog 48 #[.agg (nums .u32 h).toArray, .string b, .agg (nums .u32 ks).toArray] w fun e w' => e = .returned (.agg (nums .u32 (fin h (rndsGo ks (sched b) h))).toArray) ∧ Below w.heap.size w w' := by
  have H8 := Aside0.mk h8
  have HB := Aside0.mk hb
  have K64 := Aside0.mk k64
  clear h8 hb k64
  go_enter Try.func48, Try.ntmps48
  go_wp2_with (refine wpList_store_row rfl 66 (.tmp 7) (.tmp 21) rfl (w.heap.size + 1 + 1 + 1) (nums .u32 (Z 64)).toArray rfl rfl 66 _ ?hh (by kernel_rfl) rfl (by kernel_rfl) ?_)
  case hh =>
    have e3 : (((w.alloc (.cells (nums .u32 h).toArray 64)).alloc (.cells (nums .u32 ks).toArray 66)).alloc (.cells (nums .u32 (Z 8)).toArray 64)).heap.size = w.heap.size + 1 + 1 + 1 := by simp
    have := heap_alloc_new (((w.alloc (.cells (nums .u32 h).toArray 64)).alloc (.cells (nums .u32 ks).toArray 66)).alloc (.cells (nums .u32 (Z 8)).toArray 64)) (.cells (nums .u32 (Z 64)).toArray 66)
    rw [e3] at this
    exact this
  go_loopg [8] 20 (fun kq v8 w' => ∃ (i : Nat), v8 = .int .i64 i ∧ i + kq = 20 ∧ i ≤ 16 ∧ Aside0 (WH w w' h ks (w16 b i ++ Z (64 - i))))
  case atStart => exact ⟨0, rfl, by omega, by omega, ⟨WH.start w h ks _⟩⟩
  case round =>
    obtain ⟨i, rfl, hk, hi, HW⟩ := hrel
    by_cases hlt : i < 16
    · have hb := HB.out
      have b0 := bt_at b (4 * (i : Int))
      have b1 := bt_at b (4 * (i : Int) + 1)
      have b2 := bt_at b (4 * (i : Int) + 2)
      have b3 := bt_at b (4 * (i : Int) + 3)
      have hcell := cell_nums HW.out.h3 i (by simp [w16, Z]; omega)
      have hfz := blk_frozen HW.out.h3 i
      go_wp2
      go_region
      clear hcell hfz b0 b1 b2 b3 hb
      go_wp2
      cases gk with
      | zero => omega
      | succ gk =>
        go_roundg gk
        case measure => omega
        case rel =>
          refine ⟨i + 1, by go_num, by omega, by omega, ⟨?_⟩⟩
          have h1 := (HW.out.setW i (word b (i : Int))).drew
          have e1 : (w16 b i ++ Z (64 - i)).set i (word b (i : Int)) = w16 b (i + 1) ++ Z (64 - (i + 1)) := set_next _ _ _ (by simp [w16]) (by omega) (by simp [w16, List.range_succ])
          rw [e1] at h1
          exact h1
    · obtain rfl : i = 16 := by omega
      go_wp2_with fail
      clear hi hk hlt
      have e0 : w16 b 16 ++ Z (64 - 16) = w16 b 16 ++ Z (64 - 16) := rfl
      go_loopg [9, 10, 11] 60 (fun kq v9 v10 v11 w' => ∃ (i : Nat) (p : List Int), v9 = .int .i64 i ∧ i + kq = 76 ∧ 16 ≤ i ∧ i ≤ 64 ∧ p.length = i ∧ Aside0 (schedGo (64 - i) p = sched b) ∧ Aside0 (WH w w' h ks (p ++ Z (64 - i))))
      case atStart => exact ⟨16, w16 b 16, rfl, by omega, by omega, by omega, by simp [w16], ⟨rfl⟩, HW⟩
      case round =>
        obtain ⟨i, p, rfl, hk, hi0, hi, hp, HS, HW⟩ := hrel
        have HP := Aside0.mk hp
        by_cases hlt : i < 64
        · have hl : (p ++ Z (64 - i)).length = 64 := by simp [Z]; omega
          have c15 := cell_nums HW.out.h3 (i - 15) (by omega)
          have c2 := cell_nums HW.out.h3 (i - 2) (by omega)
          clear hp hl
          go_wp2
          go_quiet ((go_at_call 54; exact turn_quiet _ _ (by omega) (by omega) _ _))
          have HW1 := Aside0.mk (HW.out.drewN nq)
          clear c15 c2 HW
          generalize wr.drewN nq = w1 at HW1 ⊢
          have hl : (p ++ Z (64 - i)).length = 64 := by have := HP.out; simp [Z]; omega
          have c2 := cell_nums HW1.out.h3 (i - 2) (by omega)
          clear hl
          go_wp2
          go_quiet ((go_at_call 54; exact turn_quiet _ _ (by omega) (by omega) _ _))
          have HW2 := Aside0.mk (HW1.out.drewN nq)
          clear c2 HW1
          generalize w1.drewN nq = w2 at HW2 ⊢
          have hl : (p ++ Z (64 - i)).length = 64 := by have := HP.out; simp [Z]; omega
          have c16 := cell_nums HW2.out.h3 (i - 16) (by omega)
          have c7 := cell_nums HW2.out.h3 (i - 7) (by omega)
          have c0 := cell_nums HW2.out.h3 i (by omega)
          have hfz := blk_frozen HW2.out.h3 i
          clear hl
          go_wp2
          go_region
          clear c16 c7 c0 hfz
          go_wp2
          cases gk with
          | zero => omega
          | succ gk =>
            go_roundg gk
            case measure => omega
            case rel =>
              have hp := HP.out
              refine ⟨i + 1, p ++ [nextW' p (p.length : Int)], by go_num, by omega, by omega, by omega, by simp; omega, ⟨?_⟩, ⟨?_⟩⟩
              · have h1 := HS.out
                have e : 64 - i = (64 - (i + 1)) + 1 := by omega
                rw [e] at h1
                exact h1
              · have h1 := (HW2.out.setW i (nextW' p (p.length : Int))).drew
                rw [set_next p (p ++ [nextW' p (p.length : Int)]) _ hp (by omega) rfl] at h1
                have e16 := rd_left p (Z (64 - i)) (i - 16) (by omega)
                have e15 := rd_left p (Z (64 - i)) (i - 15) (by omega)
                have e7 := rd_left p (Z (64 - i)) (i - 7) (by omega)
                have e2 := rd_left p (Z (64 - i)) (i - 2) (by omega)
                have k16 : ((i - 16 : Nat) : Int) = (p.length : Int) - 16 := by omega
                have k15 : ((i - 15 : Nat) : Int) = (p.length : Int) - 15 := by omega
                have k7 : ((i - 7 : Nat) : Int) = (p.length : Int) - 7 := by omega
                have k2 : ((i - 2 : Nat) : Int) = (p.length : Int) - 2 := by omega
                rw [e16, e15, e7, e2, k16, k15, k7, k2]
                exact h1
        · obtain rfl : i = 64 := by omega
          clear hi hi0 hlt hk
          have hs : p = sched b := by
            have h1 := HS.out
            rw [Nat.sub_self, schedGo] at h1
            exact h1
          have HW3 : Aside0 (WH w wr h ks (sched b)) := ⟨by
            have h1 := HW.out
            rw [Nat.sub_self, hs] at h1
            rwa [show Z 0 = [] from rfl, List.append_nil] at h1⟩
          clear HW HS HP hp hs
          have hsz := HW3.out.sz
          obtain ⟨x0, x1, x2, x3, x4, x5, x6, x7, hx⟩ := list8 H8.out
          have HX := Aside0.mk hx
          clear hx
          go_wp2_with (first
            | (refine wpList_load_row rfl 64 (.tmp 3) rfl w.heap.size rfl 64 (nums .u32 h).toArray (0, 0) _ HW3.out.h0 Try.underlying64 rfl (size77 H8.out) ?_)
            | (refine wpList_store_row rfl 64 (.tmp 12) (.tmp 110) rfl (w.heap.size + 1 + 1 + 1 + 1) (nums .u32 h).toArray rfl rfl 64 (nums .u32 (Z 8)).toArray (by have h1 := heap_alloc_new wr (.cells (nums .u32 (Z 8)).toArray 64); rw [HW3.out.sz] at h1; exact h1) (size77 H8.out) (by rw [nums_size, nums_size, H8.out]; rfl) (nums_one _) ?_))
          have HS0 := Aside0.mk (WS.start (cs := #[Value.int IntKind.u32 0, Value.int IntKind.u32 0, Value.int IntKind.u32 0, Value.int IntKind.u32 0, Value.int IntKind.u32 0, Value.int IntKind.u32 0, Value.int IntKind.u32 0, Value.int IntKind.u32 0]) HW3.out)
          clear hsz HW3
          generalize (wr.alloc (Obj.cells #[Value.int IntKind.u32 0, Value.int IntKind.u32 0, Value.int IntKind.u32 0, Value.int IntKind.u32 0, Value.int IntKind.u32 0, Value.int IntKind.u32 0, Value.int IntKind.u32 0, Value.int IntKind.u32 0] 64)).setRow (w.heap.size + 1 + 1 + 1 + 1) (nums .u32 h).toArray = wz at HS0 ⊢
          go_loopg [13, 14, 15, 16, 17, 18, 19] 70 (fun kq v13 v14 v15 v16 v17 v18 v19 w' => ∃ (i : Nat) (s0 s1 s2 s3 s4 s5 s6 s7 : Int), v13 = .int .i64 i ∧ i + kq = 70 ∧ i ≤ 64 ∧ Aside0 (rndsGo (ks.drop i) ((sched b).drop i) [s0, s1, s2, s3, s4, s5, s6, s7] = rndsGo ks (sched b) h) ∧ Aside0 (WS w w' h ks (sched b) [s0, s1, s2, s3, s4, s5, s6, s7]))
          case atStart => exact ⟨0, x0, x1, x2, x3, x4, x5, x6, x7, rfl, by omega, by omega, ⟨by rw [← HX.out]; rfl⟩, ⟨by rw [← HX.out]; exact HS0.out⟩⟩
          case round =>
            clear HS0 HX
            obtain ⟨i, s0, s1, s2, s3, s4, s5, s6, s7, rfl, hk, hi, HE, HS⟩ := hrel
            by_cases hlt : i < 64
            · have f0 : wr.cell? ⟨w.heap.size + 1 + 1 + 1 + 1, 0, none⟩ = some (.int .u32 s0) := cell_nums HS.out.h4 0 (by simp)
              have f1 : wr.cell? ⟨w.heap.size + 1 + 1 + 1 + 1, 1, none⟩ = some (.int .u32 s1) := cell_nums HS.out.h4 1 (by simp)
              have f2 : wr.cell? ⟨w.heap.size + 1 + 1 + 1 + 1, 2, none⟩ = some (.int .u32 s2) := cell_nums HS.out.h4 2 (by simp)
              have f4 : wr.cell? ⟨w.heap.size + 1 + 1 + 1 + 1, 4, none⟩ = some (.int .u32 s4) := cell_nums HS.out.h4 4 (by simp)
              have f5 : wr.cell? ⟨w.heap.size + 1 + 1 + 1 + 1, 5, none⟩ = some (.int .u32 s5) := cell_nums HS.out.h4 5 (by simp)
              have f6 : wr.cell? ⟨w.heap.size + 1 + 1 + 1 + 1, 6, none⟩ = some (.int .u32 s6) := cell_nums HS.out.h4 6 (by simp)
              go_wp2
              go_quiet ((go_at_call 54; exact turn_quiet _ _ (by omega) (by omega) _ _))
              have HS1 := Aside0.mk (HS.out.drewN nq)
              go_wp2
              clear f0 f1 f2 f4 f5 f6 HS
              generalize wr.drewN nq = w1 at HS1 ⊢
              have f7 : w1.cell? ⟨w.heap.size + 1 + 1 + 1 + 1, 7, none⟩ = some (.int .u32 s7) := cell_nums HS1.out.h4 7 (by simp)
              have fk := cell_nums HS1.out.h1 i (by rw [K64.out]; exact hlt)
              have fw := cell_nums HS1.out.h3 i (by rw [sched_len]; exact hlt)
              go_quiet (fail)
              have HS2 := Aside0.mk (HS1.out.drewN nq)
              clear f7 fk fw HS1
              go_wp2
              generalize w1.drewN nq = w2 at HS2 ⊢
              have f0 : w2.cell? ⟨w.heap.size + 1 + 1 + 1 + 1, 0, none⟩ = some (.int .u32 s0) := cell_nums HS2.out.h4 0 (by simp)
              go_quiet ((go_at_call 54; exact turn_quiet _ _ (by omega) (by omega) _ _))
              have HS3 := Aside0.mk (HS2.out.drewN nq)
              clear f0 HS2
              generalize w2.drewN nq = w3 at HS3 ⊢
              have f0 : w3.cell? ⟨w.heap.size + 1 + 1 + 1 + 1, 0, none⟩ = some (.int .u32 s0) := cell_nums HS3.out.h4 0 (by simp)
              have f1 : w3.cell? ⟨w.heap.size + 1 + 1 + 1 + 1, 1, none⟩ = some (.int .u32 s1) := cell_nums HS3.out.h4 1 (by simp)
              have f2 : w3.cell? ⟨w.heap.size + 1 + 1 + 1 + 1, 2, none⟩ = some (.int .u32 s2) := cell_nums HS3.out.h4 2 (by simp)
              have f3 : w3.cell? ⟨w.heap.size + 1 + 1 + 1 + 1, 3, none⟩ = some (.int .u32 s3) := cell_nums HS3.out.h4 3 (by simp)
              have f4 : w3.cell? ⟨w.heap.size + 1 + 1 + 1 + 1, 4, none⟩ = some (.int .u32 s4) := cell_nums HS3.out.h4 4 (by simp)
              have f5 : w3.cell? ⟨w.heap.size + 1 + 1 + 1 + 1, 5, none⟩ = some (.int .u32 s5) := cell_nums HS3.out.h4 5 (by simp)
              have f6 : w3.cell? ⟨w.heap.size + 1 + 1 + 1 + 1, 6, none⟩ = some (.int .u32 s6) := cell_nums HS3.out.h4 6 (by simp)
              have f7 : w3.cell? ⟨w.heap.size + 1 + 1 + 1 + 1, 7, none⟩ = some (.int .u32 s7) := cell_nums HS3.out.h4 7 (by simp)
              have z0 := blk_frozen HS3.out.h4 0
              have z1 := blk_frozen HS3.out.h4 1
              have z2 := blk_frozen HS3.out.h4 2
              have z3 := blk_frozen HS3.out.h4 3
              have z4 := blk_frozen HS3.out.h4 4
              have z5 := blk_frozen HS3.out.h4 5
              have z6 := blk_frozen HS3.out.h4 6
              have z7 := blk_frozen HS3.out.h4 7
              go_wp2
              clear f0 f1 f2 f3 f4 f5 f6 f7 z0 z1 z2 z3 z4 z5 z6 z7
              cases gk with
              | zero => omega
              | succ gk =>
                go_roundg gk
                case measure => omega
                case rel =>
                  refine ⟨i + 1, (r1 [s0, s1, s2, s3, s4, s5, s6, s7] (rd ks (i : Int)) (rd (sched b) (i : Int)) + r2 [s0, s1, s2, s3, s4, s5, s6, s7]) % 4294967296, s0, s1, s2, (s3 + r1 [s0, s1, s2, s3, s4, s5, s6, s7] (rd ks (i : Int)) (rd (sched b) (i : Int))) % 4294967296, s4, s5, s6, by go_num, by omega, by omega, ⟨?_⟩, ⟨?_⟩⟩
                  · have h1 := HE.out
                    rw [drop_rd ks i (by rw [K64.out]; exact hlt), drop_rd (sched b) i (by rw [sched_len]; exact hlt), rndsGo] at h1
                    exact h1
                  · rw [r1_flat, r0_flat]
                    exact (((((((HS3.out.setS 7 s6).setS 6 s5).setS 5 s4).setS 4 _).setS 3 s2).setS 2 s1).setS 1 s0).setS 0 _
            · obtain rfl : i = 64 := by omega
              clear hi hk hlt
              have he : rndsGo ks (sched b) h = [s0, s1, s2, s3, s4, s5, s6, s7] := by
                have h1 := HE.out
                rw [List.drop_eq_nil_of_le (by rw [K64.out]; exact Nat.le_refl _), rndsGo_nil] at h1
                exact h1.symm
              have HE2 := Aside0.mk he
              clear HE he
              go_wp2_with fail
              go_loopg [20] 20 (fun kq v20 w' => ∃ (i : Nat), v20 = .int .i64 i ∧ i + kq = 20 ∧ i ≤ 8 ∧ Aside0 (WS w w' ((fin h [s0, s1, s2, s3, s4, s5, s6, s7]).take i ++ h.drop i) ks (sched b) [s0, s1, s2, s3, s4, s5, s6, s7]))
              case atStart => exact ⟨0, rfl, by omega, by omega, HS⟩
              case round =>
                clear HS
                obtain ⟨i, rfl, hk, hi, HS⟩ := hrel
                by_cases hlt : i < 8
                · have hfl : (fin h [s0, s1, s2, s3, s4, s5, s6, s7]).length = 8 := fin_len H8.out rfl
                  have fh := cell_nums HS.out.h0 i (by rw [List.length_append, List.length_take, List.length_drop, H8.out, hfl]; omega)
                  have fs := cell_nums HS.out.h4 i (by simpa using hlt)
                  have fz := blk_frozen HS.out.h0 i
                  clear hfl
                  go_wp2
                  go_region
                  clear fh fs fz
                  go_wp2
                  cases gk with
                  | zero => omega
                  | succ gk =>
                    go_roundg gk
                    case measure => omega
                    case rel =>
                      refine ⟨i + 1, by go_num, by omega, by omega, ⟨?_⟩⟩
                      have h1 := (HS.out.setH i ((rd ((fin h [s0, s1, s2, s3, s4, s5, s6, s7]).take i ++ h.drop i) (i : Int) + rd [s0, s1, s2, s3, s4, s5, s6, s7] (i : Int)) % 4294967296)).drew
                      rw [fin_step h _ i H8.out rfl hlt] at h1
                      exact h1
                · obtain rfl : i = 8 := by omega
                  clear hi hk hlt
                  have hfl : (fin h [s0, s1, s2, s3, s4, s5, s6, s7]).length = 8 := fin_len H8.out rfl
                  have HF := Aside0.mk hfl
                  have h1 := HS.out
                  rw [List.take_of_length_le (by rw [hfl]; exact Nat.le_refl _), List.drop_eq_nil_of_le (by rw [H8.out]; exact Nat.le_refl _), List.append_nil, ← HE2.out] at h1
                  rw [← HE2.out] at hfl
                  have HS5 := Aside0.mk h1
                  have HL := Aside0.mk hfl
                  clear h1 HS hfl HF
                  go_wp2_with (first
                    | (refine wpList_load_row rfl 64 (.tmp 3) rfl w.heap.size rfl 64 (nums .u32 (fin h (rndsGo ks (sched b) h))).toArray (0, 0) _ HS5.out.h0 Try.underlying64 rfl (size77 HL.out) ?_)
                    | (refine wpList_store_row rfl 64 (.tmp 6) (.tmp 223) rfl (w.heap.size + 1 + 1) (nums .u32 (fin h (rndsGo ks (sched b) h))).toArray rfl rfl 64 (nums .u32 (Z 8)).toArray HS5.out.h2 (size77 HL.out) (by rw [nums_size, nums_size, HL.out]; rfl) (nums_one _) ?_))
                  refine bodyPost_ret (v := .agg (nums .u32 (fin h (rndsGo ks (sched b) h))).toArray) (results_cell_row rfl _ _ (w.heap.size + 1 + 1) 64 _ (0, 0) _ rfl (setRow_heap_same _ _ _ _ 64 HS5.out.h2) Try.underlying64 rfl (size77 HL.out)) rfl ⟨rfl, ?_⟩
                  exact below_setRow HS5.out.bel _ _ (by omega)
end Go.Proofs.Ythodhbgocnbddaa.Blk
