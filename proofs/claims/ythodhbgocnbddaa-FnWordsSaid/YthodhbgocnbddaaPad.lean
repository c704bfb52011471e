/-
The reference's padding (spec.PadText) comes to a plain function on texts.
Conditions: a text of at most 2^40 bytes.
-/
import Derived.Test.YthodhbgocnbddaaBlk
import Derived.ArgAppend
import Derived.Lib.ConvBytes
namespace Go.Proofs.Ythodhbgocnbddaa.Pad
open Go.RowKit Go.Proofs.Ythodhbgocnbddaa.Blk Go.Proofs.YthodhbgocnbddaaW.PrintWords Go.Proofs.YthodhbgocnbddaaW.PrintLast Go.Proofs.YthodhbgocnbddaaW.PrintMore
set_option linter.unusedVariables false
set_option linter.unusedSimpArgs false

/-- A row of bytes that the call made: its spare cells may be written; the mark of a conversion lies behind them. -/
def BR (w : World) (base g cap : Nat) (xs : List Int) : Prop :=
  ∃ cur fz, base ≤ g ∧ w.heap[g]? = some (.cells cur 5 fz) ∧ (fz = (0, 0) ∨ cap ≤ fz.1) ∧ xs.length ≤ cap ∧ cap ≤ maxLen ∧ cur.size = cap ∧ cur.toList.take xs.length = nums .u8 xs
theorem BR.cell {w : World} {base g cap : Nat} {xs : List Int} (h : BR w base g cap xs) : ∀ j u, (nums .u8 xs)[j]? = some u → w.cell? ⟨g, j, none⟩ = some u := by
  obtain ⟨cur, fz, _, hg, _, hl, _, hc, ht⟩ := h
  intro j u hu
  rw [cell_of_row w g j cur _ fz hg]
  rw [← ht, List.getElem?_take] at hu
  split at hu
  · simpa using hu
  · cases hu
theorem BR.spare {w : World} {base g cap : Nat} {xs : List Int} (h : BR w base g cap xs) (j : Nat) (hj : j < cap) : (w.cell? ⟨g, j, none⟩).isSome = true ∧ w.frozen? ⟨g, j, none⟩ = false := by
  obtain ⟨cur, fz, _, hg, hf, hl, _, hc, ht⟩ := h
  refine ⟨by rw [cell_of_row w g j cur _ fz hg]; simp [hc, hj], ?_⟩
  obtain ⟨lo, hi⟩ := fz
  simp only [World.frozen?, hg, Bool.and_eq_false_iff, decide_eq_false_iff_not]
  rcases hf with hf | hf
  · cases hf; right; omega
  · left; simp only at hf; omega
theorem BR.mono {w w' : World} {base g cap : Nat} {xs : List Int} (h : BR w base g cap xs) (hb : w'.heap[g]? = w.heap[g]?) : BR w' base g cap xs := by
  obtain ⟨cur, fz, h0, hg, h1⟩ := h
  exact ⟨cur, fz, h0, hb.trans hg, h1⟩
theorem BR.lt {w : World} {base g cap : Nat} {xs : List Int} (h : BR w base g cap xs) : g < w.heap.size := by
  obtain ⟨cur, fz, h0, hg, h1⟩ := h
  exact (Array.getElem?_eq_some_iff.mp hg).1
theorem BR.put {w : World} {base g cap : Nat} {xs : List Int} (h : BR w base g cap xs) (x : Int) (hr : xs.length + 1 ≤ cap) : BR (w.setCell ⟨g, xs.length, none⟩ (.int .u8 x)) base g cap (xs ++ [x]) := by
  obtain ⟨cur, fz, h0, hg, hf, hl, hm, hc, ht⟩ := h
  refine ⟨cur.setIfInBounds xs.length (.int .u8 x), fz, h0, ?_, hf, by simpa using hr, hm, by simpa using hc, ?_⟩
  · rw [setCell_eq_setRow w g xs.length cur _ fz _ hg]; exact setRow_heap w g cur _ _ fz hg
  · rw [Array.toList_setIfInBounds, List.length_append]
    show List.take (xs.length + 1) _ = _
    have hlt : xs.length < (cur.toList.set xs.length (.int .u8 x)).length := by simp; omega
    rw [List.take_succ_eq_append_getElem hlt, List.take_set_of_le (by omega), ht]
    simp [nums]
theorem BR.mk0 {w : World} {base g cap : Nat} {xs : List Int} (h : w.ownsRow base 5 1 (.slice (some ⟨g, 0, none⟩) xs.length cap) xs.length (nums .u8 xs)) : BR w base g cap xs := by
  rcases h.2 with ⟨h1, _⟩ | ⟨g', cap', cur, h1, hb, hg, hl, hm, hc, ht⟩
  · cases h1
  · cases h1
    exact ⟨cur, (0, 0), hb, hg, .inl rfl, hl, hm, by simpa using hc, by simpa using ht⟩
theorem info_u8 : ∃ i, Try.prog.info? 5 = some i ∧ i.zero = some (.int .u8 0) ∧ i.size = 1 ∧ i.bytes = 1 := by
  have h : ((Try.prog.info? 5).map fun i => (i.zero, i.size, i.bytes)) = some (some (.int .u8 0), 1, 1) := by kernel_rfl
  cases hi : Try.prog.info? 5 with
  | none => rw [hi] at h; cases h
  | some i =>
    rw [hi] at h
    simp only [Option.map_some, Option.some.injEq, Prod.mk.injEq] at h
    exact ⟨i, rfl, h.1, h.2.1, h.2.2⟩
/-- 'append(out, x)' of one byte. -/
theorem wpList_br {w : World} {ops : Array Oper} {rest : List Oper} {o : Oper} {a : Act} {Q : Exit → Act → World → Prop}
    (hg : o.guard = none) (s x : Operand) (hop : o.op = Op.call { callee := Callee.builtin Builtin.append, args := #[s, x], argTypes := #[22, 22] })
    {w0 : World} {g cap : Nat} (ys : List Int) {n : Nat} (hn : n = ys.length) (hs : a.eval s = .slice (some ⟨g, 0, none⟩) n cap) (h : BR w w0.heap.size g cap ys) (hb : Below w0.heap.size w0 w) (hl : ys.length + 1 ≤ 140737488355328)
    (ad : Addr) (c : Nat) (y : Int) (hx : a.eval x = .slice (some ad) 1 c) (hc : w.cell? ad = some (.int .u8 y))
    (hK : ∀ g' cap' w', BR w' w0.heap.size g' cap' (ys ++ [y]) → Below w0.heap.size w0 w' → wpList Try.prog ops Q rest (a.put o.dst (.slice (some ⟨g', 0, none⟩) (n + 1) cap')) w') :
    wpList Try.prog ops Q (o :: rest) a w := by
  subst hn
  obtain ⟨i, i1, i2, i3, i4⟩ := info_u8
  refine wpList_append_arg w hg s x 22 hop 5 i (.int .u8 0) 1 1 Try.underlying22 i1 i2 i3 i4 rfl (by omega) g 0 ys.length cap (nums .u8 ys) hs (by simp [nums]) (fun j u hj => by rw [Nat.zero_add]; exact h.cell j u hj) ad 1 c [.int .u8 y] hx rfl ?_ ?_ ?_ (by simp only [maxLen]; omega) (by omega) ?_ ?_
  · intro j u hj
    cases j with
    | zero => cases hj; rw [show ad.add 0 = ad by unfold Addr.add; split <;> simp_all]; exact hc
    | succ j => cases hj
  · intro u hu
    simp at hu
    subst hu
    rfl
  · intro hr j hj
    have : j = 0 := by simpa using hj
    subst this
    have h1 := h.spare (0 + ys.length * 1 + 0) (by omega)
    exact h1
  · intro hr
    refine hK g cap _ ?_ ?_
    · have h1 := h.put y hr
      rw [show w.setCells g (0 + ys.length * 1) [.int .u8 y] = w.setCell ⟨g, ys.length, none⟩ (.int .u8 y) by rw [show 0 + ys.length * 1 = ys.length by omega]; rfl]
      exact h1
    · obtain ⟨cur, fz, h0, _⟩ := h
      rw [show w.setCells g (0 + ys.length * 1) [.int .u8 y] = w.setCell ⟨g, ys.length, none⟩ (.int .u8 y) by rw [show 0 + ys.length * 1 = ys.length by omega]; rfl]
      exact hb.setCell h0 _
  · intro hgr v' w' ho hgw
    rcases ho.2 with ⟨_, h1⟩ | ⟨g', cap', cur, h1, hb2, rest'⟩
    · omega
    · subst h1
      refine hK g' cap' w' ?_ ?_
      · refine BR.mk0 (xs := ys ++ [y]) ?_
        have e1 : nums .u8 (ys ++ [y]) = nums .u8 ys ++ [.int .u8 y] := by simp [nums]
        rw [e1, List.length_append]
        exact ⟨ho.1, .inr ⟨g', cap', cur, rfl, Nat.le_trans hb.size hb2, rest'⟩⟩
      · exact ⟨hgw.os.trans hb.os, hgw.tape.trans hb.tape, hgw.output.trans hb.output, Nat.le_trans hb.size hgw.size, fun i hi => (hgw.block i (Nat.lt_of_lt_of_le hi hb.size) (by simp)).trans (hb.block i hi)⟩
def byt (t : ByteArray) : List Int := t.data.toList.map fun b => (b.toNat : Int)
def padK (n : Nat) : Nat := (119 - n % 64) % 64
def be8 (x : Int) : List Int := [x / 72057594037927936 % 256, x / 281474976710656 % 256, x / 1099511627776 % 256, x / 4294967296 % 256, x / 16777216 % 256, x / 65536 % 256, x / 256 % 256, x % 256]
def padB (t : ByteArray) : List Int := byt t ++ [128] ++ List.replicate (padK t.size) 0 ++ be8 (8 * (t.size : Int))
theorem byt_len (t : ByteArray) : (byt t).length = t.size := by rw [byt, List.length_map, Array.length_toList]; rfl
theorem BR.conv (w : World) (t : ByteArray) (ht : t.size ≤ 140737488355328) : BR (Go.Lib.bytesWorld w 5 t) w.heap.size w.heap.size (grownCap w t.size 0 5) (byt t) := by
  have hge := grownCap_ge w t.size 0 5
  have hle := grownCap_le_maxLen w t.size 0 5 (by simp only [maxLen]; omega)
  have hsz : (Go.Lib.bytesCells w 5 t).size = grownCap w t.size 0 5 := by
    simp only [Go.Lib.bytesCells, Array.size_append, Array.size_map, Array.size_replicate]
    have : t.data.size = t.size := rfl
    omega
  refine ⟨_, _, Nat.le_refl _, Go.Lib.bytesWorld_at_new w 5 t, .inr (by rw [hsz]; exact Nat.le_refl _), by rw [byt_len]; exact hge, hle, hsz, ?_⟩
  rw [byt_len, Go.Lib.bytesCells, Array.toList_append, List.take_append_of_le_length (by rw [Array.length_toList, Array.size_map]; exact Nat.le_refl _), List.take_of_length_le (by rw [Array.length_toList, Array.size_map]; exact Nat.le_refl _)]
  simp [byt, nums]
theorem below_conv (w : World) (t : ByteArray) : Below w.heap.size w (Go.Lib.bytesWorld w 5 t) :=
  ⟨rfl, rfl, rfl, by rw [Go.Lib.bytesWorld_size]; omega, fun i hi => Go.Lib.bytesWorld_at_old w 5 t i hi⟩
theorem BR.alloc {w : World} {base g cap : Nat} {xs : List Int} (h : BR w base g cap xs) (o : Obj) : BR (w.alloc o) base g cap xs := h.mono (Below.heap_alloc _ _ _ h.lt)
theorem cell_lit (w : World) (x : Int) : (w.alloc (.cells #[.int .u8 x] 5)).cell? ⟨w.heap.size, 0, none⟩ = some (.int .u8 x) := by
  rw [cell_of_row _ _ _ _ _ _ (heap_alloc_new w _)]; rfl
set_option maxHeartbeats 8000000 in
set_option maxRecDepth 100000 in
theorem pad_calls (t : ByteArray) (ht : t.size ≤ 140737488351232) (w : World) :
    Calls Try.prog 47 #[.string t] w fun e w' => e = .returned (.string (strOfNums (padB t))) ∧ Below w.heap.size w w' := by
  go_enter Try.func47, Try.ntmps47
  have cv := Go.Lib.run_convert_string_bytes (P := Try.prog) w 9 22 5 t Try.underlying9 Try.underlying22 Try.underlying5
  have HB := Aside0.mk (BR.conv w t (by omega))
  have HL := Aside0.mk (below_conv w t)
  go_wp2_with (refine wpList_br rfl (.tmp 8) (.tmp 9) rfl (w0 := w) (byt t) (byt_len t).symm rfl (HB.out.alloc _) (below_alloc HL.out _) (by rw [byt_len]; omega) ⟨(Lib.bytesWorld w 5 t).heap.size, 0, none⟩ 1 128 rfl (cell_lit _ _) ?_; intro g cap w1 hbr hbl)
  clear HB HL cv
  go_loopg [3] (padK t.size + 5) (fun kq v3 w' => ∃ (j g cap : Nat), v3 = .slice (some ⟨g, 0, none⟩) (t.size + 1 + j) cap ∧ j + kq = padK t.size + 5 ∧ j ≤ padK t.size ∧ Aside0 (BR w' w.heap.size g cap (byt t ++ [128] ++ List.replicate j 0)) ∧ Aside0 (Below w.heap.size w w'))
  case atStart => exact ⟨0, g, cap, rfl, by omega, by omega, ⟨by rw [List.replicate_zero, List.append_nil]; exact hbr⟩, ⟨hbl⟩⟩
  case round =>
    clear hbr hbl
    obtain ⟨j, g, cap, rfl, hk, hj, HB, HL⟩ := hrel
    by_cases hlt : j < padK t.size
    · have hne : ¬ (((t.size : Int) + 1 + (j : Int)) % 64 = 56) := by unfold padK at hlt; omega
      have hl3 : Aside0 (t.size + 1 + j = (byt t ++ [128] ++ List.replicate j 0).length) := ⟨by simp [byt_len]; omega⟩
      go_wp2_with (refine wpList_br rfl (.tmp 15) (.tmp 16) rfl (w0 := w) (byt t ++ [128] ++ List.replicate j 0) hl3.out rfl (HB.out.alloc _) (below_alloc HL.out _) (by rw [← hl3.out]; unfold padK at hlt; omega) ⟨wr.heap.size, 0, none⟩ 1 0 rfl (cell_lit _ _) ?_; intro g2 cap2 w2 hbr hbl)
      go_roundg (gk - 1)
      case measure => omega
      case rel => exact ⟨j + 1, g2, cap2, rfl, by omega, by omega, ⟨by rw [List.replicate_succ', ← List.append_assoc]; exact hbr⟩, ⟨hbl⟩⟩
    · have hjk : j = padK t.size := by omega
      subst hjk
      have heq : (((t.size : Int) + 1 + (padK t.size : Int)) % 64 = 56) := by unfold padK; omega
      have hpk : padK t.size < 64 := by unfold padK; omega
      have hl3 : Aside0 (t.size + 1 + padK t.size = (byt t ++ [128] ++ List.replicate (padK t.size) 0).length) := ⟨by simp [byt_len]; omega⟩
      go_wp2_with fail
      clear heq
      have hl4 : Aside0 (∀ j, j ≤ 8 → t.size + 1 + padK t.size + j = (byt t ++ [128] ++ List.replicate (padK t.size) 0 ++ (be8 (8 * (t.size : Int))).take j).length) := ⟨fun j hj => by
        rw [List.length_append, ← hl3.out, List.length_take]
        show _ = _ + min j 8
        omega⟩
      go_loopg [3, 5] 12 (fun kq v3 v5 w' => ∃ (j g cap : Nat), v3 = .slice (some ⟨g, 0, none⟩) (t.size + 1 + padK t.size + j) cap ∧ v5 = .int .i64 (7 - (j : Int)) ∧ j + kq = 12 ∧ j ≤ 8 ∧ Aside0 (BR w' w.heap.size g cap (byt t ++ [128] ++ List.replicate (padK t.size) 0 ++ (be8 (8 * (t.size : Int))).take j)) ∧ Aside0 (Below w.heap.size w w'))
      case atStart => exact ⟨0, g, cap, rfl, rfl, by omega, by omega, ⟨by rw [List.take_zero, List.append_nil]; exact HB.out⟩, HL⟩
      case round =>
        clear HB HL
        obtain ⟨j, g, cap, rfl, rfl, hk, hj, HB, HL⟩ := hrel
        obtain rfl | rfl | rfl | rfl | rfl | rfl | rfl | rfl | rfl : j = 0 ∨ j = 1 ∨ j = 2 ∨ j = 3 ∨ j = 4 ∨ j = 5 ∨ j = 6 ∨ j = 7 ∨ j = 8 := by omega
        · go_wp2_with (refine wpList_br rfl (.tmp 25) (.tmp 32) rfl (w0 := w) (byt t ++ [128] ++ List.replicate (padK t.size) 0 ++ (be8 (8 * (t.size : Int))).take 0) (hl4.out 0 (by omega)) rfl (HB.out.alloc _) (below_alloc HL.out _) (by rw [← hl4.out 0 (by omega)]; omega) ⟨wr.heap.size, 0, none⟩ 1 _ rfl (cell_lit _ _) ?_; intro g2 cap2 w2 hbr hbl)
          go_roundg (gk - 1)
          case measure => omega
          case rel => exact ⟨1, g2, cap2, rfl, by rfl, by omega, by omega, ⟨by rw [List.append_assoc, show 8 * (t.size : Int) / 72057594037927936 = 8 * (t.size : Int) / 72057594037927936 % 256 by omega] at hbr; exact hbr⟩, ⟨hbl⟩⟩
        · go_wp2_with (refine wpList_br rfl (.tmp 25) (.tmp 32) rfl (w0 := w) (byt t ++ [128] ++ List.replicate (padK t.size) 0 ++ (be8 (8 * (t.size : Int))).take 1) (hl4.out 1 (by omega)) rfl (HB.out.alloc _) (below_alloc HL.out _) (by rw [← hl4.out 1 (by omega)]; omega) ⟨wr.heap.size, 0, none⟩ 1 _ rfl (cell_lit _ _) ?_; intro g2 cap2 w2 hbr hbl)
          go_roundg (gk - 1)
          case measure => omega
          case rel => exact ⟨2, g2, cap2, rfl, by rfl, by omega, by omega, ⟨by rw [List.append_assoc, show 8 * (t.size : Int) / 281474976710656 = 8 * (t.size : Int) / 281474976710656 % 256 by omega] at hbr; exact hbr⟩, ⟨hbl⟩⟩
        · go_wp2_with (refine wpList_br rfl (.tmp 25) (.tmp 32) rfl (w0 := w) (byt t ++ [128] ++ List.replicate (padK t.size) 0 ++ (be8 (8 * (t.size : Int))).take 2) (hl4.out 2 (by omega)) rfl (HB.out.alloc _) (below_alloc HL.out _) (by rw [← hl4.out 2 (by omega)]; omega) ⟨wr.heap.size, 0, none⟩ 1 _ rfl (cell_lit _ _) ?_; intro g2 cap2 w2 hbr hbl)
          go_roundg (gk - 1)
          case measure => omega
          case rel => exact ⟨3, g2, cap2, rfl, by rfl, by omega, by omega, ⟨by rw [List.append_assoc] at hbr; exact hbr⟩, ⟨hbl⟩⟩
        · go_wp2_with (refine wpList_br rfl (.tmp 25) (.tmp 32) rfl (w0 := w) (byt t ++ [128] ++ List.replicate (padK t.size) 0 ++ (be8 (8 * (t.size : Int))).take 3) (hl4.out 3 (by omega)) rfl (HB.out.alloc _) (below_alloc HL.out _) (by rw [← hl4.out 3 (by omega)]; omega) ⟨wr.heap.size, 0, none⟩ 1 _ rfl (cell_lit _ _) ?_; intro g2 cap2 w2 hbr hbl)
          go_roundg (gk - 1)
          case measure => omega
          case rel => exact ⟨4, g2, cap2, rfl, by rfl, by omega, by omega, ⟨by rw [List.append_assoc] at hbr; exact hbr⟩, ⟨hbl⟩⟩
        · go_wp2_with (refine wpList_br rfl (.tmp 25) (.tmp 32) rfl (w0 := w) (byt t ++ [128] ++ List.replicate (padK t.size) 0 ++ (be8 (8 * (t.size : Int))).take 4) (hl4.out 4 (by omega)) rfl (HB.out.alloc _) (below_alloc HL.out _) (by rw [← hl4.out 4 (by omega)]; omega) ⟨wr.heap.size, 0, none⟩ 1 _ rfl (cell_lit _ _) ?_; intro g2 cap2 w2 hbr hbl)
          go_roundg (gk - 1)
          case measure => omega
          case rel => exact ⟨5, g2, cap2, rfl, by rfl, by omega, by omega, ⟨by rw [List.append_assoc] at hbr; exact hbr⟩, ⟨hbl⟩⟩
        · go_wp2_with (refine wpList_br rfl (.tmp 25) (.tmp 32) rfl (w0 := w) (byt t ++ [128] ++ List.replicate (padK t.size) 0 ++ (be8 (8 * (t.size : Int))).take 5) (hl4.out 5 (by omega)) rfl (HB.out.alloc _) (below_alloc HL.out _) (by rw [← hl4.out 5 (by omega)]; omega) ⟨wr.heap.size, 0, none⟩ 1 _ rfl (cell_lit _ _) ?_; intro g2 cap2 w2 hbr hbl)
          go_roundg (gk - 1)
          case measure => omega
          case rel => exact ⟨6, g2, cap2, rfl, by rfl, by omega, by omega, ⟨by rw [List.append_assoc] at hbr; exact hbr⟩, ⟨hbl⟩⟩
        · go_wp2_with (refine wpList_br rfl (.tmp 25) (.tmp 32) rfl (w0 := w) (byt t ++ [128] ++ List.replicate (padK t.size) 0 ++ (be8 (8 * (t.size : Int))).take 6) (hl4.out 6 (by omega)) rfl (HB.out.alloc _) (below_alloc HL.out _) (by rw [← hl4.out 6 (by omega)]; omega) ⟨wr.heap.size, 0, none⟩ 1 _ rfl (cell_lit _ _) ?_; intro g2 cap2 w2 hbr hbl)
          go_roundg (gk - 1)
          case measure => omega
          case rel => exact ⟨7, g2, cap2, rfl, by rfl, by omega, by omega, ⟨by rw [List.append_assoc] at hbr; exact hbr⟩, ⟨hbl⟩⟩
        · go_wp2_with (refine wpList_br rfl (.tmp 25) (.tmp 32) rfl (w0 := w) (byt t ++ [128] ++ List.replicate (padK t.size) 0 ++ (be8 (8 * (t.size : Int))).take 7) (hl4.out 7 (by omega)) rfl (HB.out.alloc _) (below_alloc HL.out _) (by rw [← hl4.out 7 (by omega)]; omega) ⟨wr.heap.size, 0, none⟩ 1 _ rfl (cell_lit _ _) ?_; intro g2 cap2 w2 hbr hbl)
          go_roundg (gk - 1)
          case measure => omega
          case rel => exact ⟨8, g2, cap2, rfl, by rfl, by omega, by omega, ⟨by rw [List.append_assoc] at hbr; exact hbr⟩, ⟨hbl⟩⟩
        · have hst := run_convert_bytes_arg (P := Try.prog) wr 22 5 Try.underlying22 Try.underlying5 g 0 (t.size + 1 + padK t.size + 8) cap (padB t) (hl4.out 8 (by omega)).symm (fun q hq => by
            rw [Nat.zero_add]
            have hq2 : q < (padB t).length := by have := hl4.out 8 (by omega); unfold padB; show q < (byt t ++ [128] ++ List.replicate (padK t.size) 0 ++ (be8 (8 * (t.size : Int))).take 8).length; omega
            have h1 := HB.out.cell q (.int .u8 ((padB t).getD q 0)) (by
              show (nums .u8 (padB t))[q]? = _
              simp [nums, List.getD_eq_getElem?_getD, List.getElem?_eq_getElem hq2])
            exact h1) 9 Try.underlying9
          go_wp2_with fail
          go_ret
          exact ⟨rfl, HL.out⟩
end Go.Proofs.Ythodhbgocnbddaa.Pad
