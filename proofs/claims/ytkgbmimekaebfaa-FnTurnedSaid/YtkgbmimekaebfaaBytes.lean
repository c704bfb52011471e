/-
The bytes of a text in memory of their own: a row whose spare cells may be written, and a byte of it turned.
Conditions: none.
-/
import Derived.Test.YtkgbmimekaebfaaProg
import Derived.Test.YtkgbmimekaebfaaWMore
import Derived.Deep.QuietTactic
import Derived.BigQuiet
import Derived.BigRegion
import Derived.Laws.Rows
import Derived.Lib.ConvBytes
namespace Go.Proofs.Ytkgbmimekaebfaa.Bytes
open Go.RowKit Go.Proofs.YtkgbmimekaebfaaW.PrintWords Go.Proofs.YtkgbmimekaebfaaW.PrintLast Go.Proofs.YtkgbmimekaebfaaW.PrintMore
set_option linter.unusedVariables false
set_option linter.unusedSimpArgs false
/-- A row of bytes that the call made: its spare cells may be written; the mark of a conversion lies behind them. -/
def BR (w : World) (base g cap : Nat) (xs : List Int) : Prop :=
  ∃ cur fz, base ≤ g ∧ w.heap[g]? = some (.cells cur 5 fz) ∧ (fz = (0, 0) ∨ cap ≤ fz.1) ∧ xs.length ≤ cap ∧ cap ≤ maxLen ∧ cur.size = cap ∧ cur.toList.take xs.length = nums .u8 xs
theorem BR.cell {w : World} {base g cap : Nat} {xs : List Int} (h : BR w base g cap xs) : ∀ j u, (nums .u8 xs)[j]? = some u → w.cell? ⟨g, j, none⟩ = some u := by
  obtain ⟨cur, fz, _, hg, _, hl, _, hc, ht⟩ := h
  intro j u hu
  rw [cell_of_row w g j cur _ fz hg]
  rw [← ht, List.getElem?_take] at hu
  split at hu
  · simpa using hu
  · cases hu
theorem BR.spare {w : World} {base g cap : Nat} {xs : List Int} (h : BR w base g cap xs) (j : Nat) (hj : j < cap) : (w.cell? ⟨g, j, none⟩).isSome = true ∧ w.frozen? ⟨g, j, none⟩ = false := by
  obtain ⟨cur, fz, _, hg, hf, hl, _, hc, ht⟩ := h
  refine ⟨by rw [cell_of_row w g j cur _ fz hg]; simp [hc, hj], ?_⟩
  obtain ⟨lo, hi⟩ := fz
  simp only [World.frozen?, hg, Bool.and_eq_false_iff, decide_eq_false_iff_not]
  rcases hf with hf | hf
  · cases hf; right; omega
  · left; simp only at hf; omega
theorem BR.mono {w w' : World} {base g cap : Nat} {xs : List Int} (h : BR w base g cap xs) (hb : w'.heap[g]? = w.heap[g]?) : BR w' base g cap xs := by
  obtain ⟨cur, fz, h0, hg, h1⟩ := h
  exact ⟨cur, fz, h0, hb.trans hg, h1⟩
def byt (t : ByteArray) : List Int := t.data.toList.map fun b => (b.toNat : Int)
theorem byt_len (t : ByteArray) : (byt t).length = t.size := by rw [byt, List.length_map, Array.length_toList]; rfl
theorem BR.conv (w : World) (t : ByteArray) (ht : t.size ≤ 140737488355328) : BR (Go.Lib.bytesWorld w 5 t) w.heap.size w.heap.size (grownCap w t.size 0 5) (byt t) := by
  have hge := grownCap_ge w t.size 0 5
  have hle := grownCap_le_maxLen w t.size 0 5 (by simp only [maxLen]; omega)
  have hsz : (Go.Lib.bytesCells w 5 t).size = grownCap w t.size 0 5 := by
    simp only [Go.Lib.bytesCells, Array.size_append, Array.size_map, Array.size_replicate]
    have : t.data.size = t.size := rfl
    omega
  refine ⟨_, _, Nat.le_refl _, Go.Lib.bytesWorld_at_new w 5 t, .inr (by rw [hsz]; exact Nat.le_refl _), by rw [byt_len]; exact hge, hle, hsz, ?_⟩
  rw [byt_len, Go.Lib.bytesCells, Array.toList_append, List.take_append_of_le_length (by rw [Array.length_toList, Array.size_map]; exact Nat.le_refl _), List.take_of_length_le (by rw [Array.length_toList, Array.size_map]; exact Nat.le_refl _)]
  simp [byt, nums]
theorem below_conv (w : World) (t : ByteArray) : Below w.heap.size w (Go.Lib.bytesWorld w 5 t) :=
  ⟨rfl, rfl, rfl, by rw [Go.Lib.bytesWorld_size]; omega, fun i hi => Go.Lib.bytesWorld_at_old w 5 t i hi⟩
theorem nums_get (k : IntKind) (l : List Int) (q : Nat) (h : q < l.length) : (nums k l)[q]? = some (.int k (l.getD q 0)) := by
  simp [nums, List.getD_eq_getElem?_getD, List.getElem?_eq_getElem h]
theorem BR.set {w : World} {base g cap : Nat} {xs : List Int} (h : BR w base g cap xs) (i : Nat) (x : Int) : BR (w.setCell ⟨g, i, none⟩ (.int .u8 x)) base g cap (xs.set i x) := by
  obtain ⟨cur, fz, h0, hg, hf, hl, hm, hc, ht⟩ := h
  refine ⟨cur.setIfInBounds i (.int .u8 x), fz, h0, ?_, hf, by simpa using hl, hm, by simpa using hc, ?_⟩
  · rw [setCell_eq_setRow w g i cur _ fz _ hg]; exact setRow_heap w g cur _ _ fz hg
  · rw [Array.toList_setIfInBounds, List.length_set, List.take_set, ht]
    simp [nums, List.map_set]
def turnB (t : ByteArray) (i : Nat) (m : Int) : ByteArray := strOfNums ((byt t).set i (Go.bits .xor .u8 (bt t (i : Int)) m))
end Go.Proofs.Ytkgbmimekaebfaa.Bytes
