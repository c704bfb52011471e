/-
The reference's digest (spec.l03First, l03Keys, PadText, Digest, ShaStart, ShaBlock) comes to plain functions on texts.
Conditions: a text of at most 2^40 bytes.
-/
import Derived.Test.YthodhbgocnbddaaBlk
import Derived.Test.YthodhbgocnbddaaPad
import Derived.Deep.RegionLaw
import Derived.Deep.RegionWith
namespace Go.Proofs.Ythodhbgocnbddaa.Dig
open Go.RowKit Go.Proofs.YthodhbgocnbddaaW.PrintWords Go.Proofs.YthodhbgocnbddaaW.PrintLast Go.Proofs.YthodhbgocnbddaaW.PrintMore Go.Proofs.Ythodhbgocnbddaa.Sha Go.Proofs.Ythodhbgocnbddaa.Blk Go.Proofs.Ythodhbgocnbddaa.Pad
set_option linter.unusedVariables false
set_option linter.unusedSimpArgs false

set_option maxRecDepth 100000 in
theorem first_calls (w : World) : Calls Try.prog 45 #[] w fun e w' => e = .returned (.agg (nums .u32 first).toArray) ∧ Below w.heap.size w w' := by
  go_enter Try.func45, Try.ntmps45
  go_wp2
  exact bodyPost_ret (v := .agg (nums .u32 first).toArray) (results_cell_row rfl _ _ w.heap.size 64 (nums .u32 first).toArray (0, 0) _ rfl (heap_alloc_new _ _) Try.underlying64 rfl (by kernel_rfl)) rfl ⟨rfl, below_alloc (Below.refl _ _) _⟩
set_option maxHeartbeats 4000000 in
set_option maxRecDepth 100000 in
theorem keys_calls (w : World) : Calls Try.prog 46 #[] w fun e w' => e = .returned (.agg (nums .u32 keys).toArray) ∧ Below w.heap.size w w' := by
  go_enter Try.func46, Try.ntmps46
  go_wp2_with (refine wpList_store_row rfl 66 _ _ rfl w.heap.size _ rfl rfl 66 _ (heap_alloc_new _ _) (by kernel_rfl) rfl (by kernel_rfl) ?_)
  trace "walked"
  refine bodyPost_ret (results_cell_row rfl _ _ w.heap.size 66 _ (0, 0) _ rfl (setRow_heap_same _ _ _ _ 66 (heap_alloc_new _ _)) Try.underlying66 rfl (by kernel_rfl)) rfl ⟨by kernel_rfl, below_setRow (below_alloc (Below.refl _ _) _) _ _ (Nat.le_refl _)⟩
def blocksGo : Nat → List Int → ByteArray → Nat → List Int
  | 0, h, _, _ => h
  | d + 1, h, p, i => blocksGo d (blk h (p.extract i (i + 64))) p (i + 64)
def be4 (x : Int) : List Int := [x / 16777216 % 256, x / 65536 % 256, x / 256 % 256, x % 256]
def digB (h : List Int) : List Int := h.flatMap be4
/-- What the loop over the blocks holds: the state in block g, the keys in block g1. -/
structure WD (w wr : World) (g g1 : Nat) (hs : List Int) : Prop where
  bel : Below w.heap.size w wr
  ge : w.heap.size ≤ g
  ne : g ≠ g1
  h0 : wr.heap[g]? = some (.cells (nums .u32 hs).toArray 64 (0, 0))
  h1 : wr.heap[g1]? = some (.cells (nums .u32 keys).toArray 66 (0, 0))
theorem gen_calls {P : Program} {f : FuncId} {args : Array Value} {R : Ending → World → Prop} {Q : World → Prop} (W : World) (hQ : Q W) (h : ∀ W', Q W' → Calls P f args W' R) : Calls P f args W R := h W hQ
theorem store_new {w w1 : World} (h : Below w.heap.size w w1) (cs new : Array Value) (t : TypeId) : Below w.heap.size w ((w1.alloc (.cells cs t)).setRow w1.heap.size new) ∧ ((w1.alloc (.cells cs t)).setRow w1.heap.size new).heap[w1.heap.size]? = some (.cells new t (0, 0)) ∧ w1.heap.size < ((w1.alloc (.cells cs t)).setRow w1.heap.size new).heap.size :=
  ⟨below_setRow (h.alloc h.size _) _ _ h.size, setRow_heap_same _ _ _ _ t (heap_alloc_new _ _), by simp⟩
theorem store_new2 {w w1 : World} {g : Nat} {o : Obj} (h : Below w.heap.size w w1) (hg : w1.heap[g]? = some o) (hl : g < w1.heap.size) (cs new : Array Value) (t : TypeId) : Below w.heap.size w ((w1.alloc (.cells cs t)).setRow w1.heap.size new) ∧ ((w1.alloc (.cells cs t)).setRow w1.heap.size new).heap[g]? = some o ∧ ((w1.alloc (.cells cs t)).setRow w1.heap.size new).heap[w1.heap.size]? = some (.cells new t (0, 0)) ∧ w1.heap.size < ((w1.alloc (.cells cs t)).setRow w1.heap.size new).heap.size :=
  ⟨below_setRow (h.alloc h.size _) _ _ h.size, by rw [setRow_heap_other _ _ _ _ (by omega), Below.heap_alloc _ _ _ hl]; exact hg, setRow_heap_same _ _ _ _ t (heap_alloc_new _ _), by simp⟩
theorem pw_below_below {w w1 w2 : World} (h : Below w.heap.size w w1) (k : Below w1.heap.size w1 w2) : Below w.heap.size w w2 := below_then h h.size k
theorem exec_load_row {P : Program} {w : World} {o : Oper} {a : Act} (ty : TypeId) (x : Operand) (ho : o.op = .load ty x)
    (g : Nat) (hx : a.eval x = .pointer (some ⟨g, 0, none⟩)) (t : TypeId) (cs : Array Value) (fr : Nat × Nat) (d : TypeDesc) (hg : w.heap[g]? = some (.cells cs t fr))
    (hu : P.underlying ty = some d) (hd : (match d with | .struct _ | .array _ _ => true | _ => false) = true) (hi : (P.info? ty).map (·.size) = some cs.size) :
    (execOp a.eval o).run P w = .ok (.value (.agg cs)) w := by
  unfold execOp
  simp only [ho, hx, Instr.loadAt, Instr.sureAddr, Sem.run_bind, Sem.run_pure, Result.andThen_ok, run_loadVar_row w g t ty cs fr d hg hu hd hi]
theorem exec_store_row {P : Program} {w : World} {o : Oper} {a : Act} (ty : TypeId) (x y : Operand) (ho : o.op = .store ty x y)
    (g : Nat) (cells : Array Value) (hx : a.eval x = .pointer (some ⟨g, 0, none⟩)) (hy : a.eval y = .agg cells)
    (t : TypeId) (old : Array Value) (hg : w.heap[g]? = some (.cells old t (0, 0))) (hi : (P.info? ty).map (·.size) = some cells.size)
    (hold : old.size = cells.size) (h1 : cells.all (·.oneCell') = true) : (execOp a.eval o).run P w = .ok .skip (w.setRow g cells) := by
  unfold execOp
  simp only [ho, hx, hy, Instr.storeAt, Instr.sureAddr, Sem.run_bind, Sem.run_pure, Result.andThen_ok, run_storeVar_row w g t ty old cells hg hi hold h1]
def z32 : List Int := List.replicate 32 0
theorem set_four (P R : List Int) (a b c d : Int) (n : Nat) (hn : P.length = n) : ((((P ++ 0 :: 0 :: 0 :: 0 :: R).set n a).set (n + 1) b).set (n + 2) c).set (n + 3) d = P ++ [a, b, c, d] ++ R := by
  subst hn
  simp [List.set_append]
theorem digB_app (a b : List Int) : digB (a ++ b) = digB a ++ digB b := List.flatMap_append
theorem digB_len : ∀ h : List Int, (digB h).length = 4 * h.length
  | [] => rfl
  | x :: h => by
    have := digB_len h
    unfold digB at this ⊢
    rw [List.flatMap_cons, List.length_append, this]
    simp [be4]; omega
theorem digB_step (h : List Int) (j : Nat) (hl : h.length = 8) (hj : j < 8) :
    (((((digB h).take (4 * j) ++ List.replicate (32 - 4 * j) 0).set (4 * j) (rd h (j : Int) / 16777216 % 256)).set (4 * j + 1) (rd h (j : Int) / 65536 % 256)).set (4 * j + 2) (rd h (j : Int) / 256 % 256)).set (4 * j + 3) (rd h (j : Int) % 256) = (digB h).take (4 * (j + 1)) ++ List.replicate (32 - 4 * (j + 1)) 0 := by
  have e1 : digB h = digB (h.take j) ++ (be4 (rd h (j : Int)) ++ digB (h.drop (j + 1))) := by
    conv => lhs; rw [← List.take_append_drop j h, drop_rd h j (by omega)]
    rw [digB_app]; rfl
  have l1 : (digB (h.take j)).length = 4 * j := by rw [digB_len, List.length_take]; omega
  have t1 : (digB h).take (4 * j) = digB (h.take j) := by rw [e1, List.take_append_of_le_length (by omega), List.take_of_length_le (by omega)]
  have t2 : (digB h).take (4 * (j + 1)) = digB (h.take j) ++ be4 (rd h (j : Int)) := by
    rw [e1, ← List.append_assoc, List.take_append_of_le_length (by rw [List.length_append, l1]; simp [be4]; omega), List.take_of_length_le (by rw [List.length_append, l1]; simp [be4]; omega)]
  have r1 : List.replicate (32 - 4 * j) (0 : Int) = 0 :: 0 :: 0 :: 0 :: List.replicate (32 - 4 * (j + 1)) 0 := by
    rw [show 32 - 4 * j = (32 - 4 * (j + 1)) + 1 + 1 + 1 + 1 by omega]; rfl
  rw [t1, t2, r1, set_four _ _ _ _ _ _ _ l1]
  rfl
theorem cell_nums' {wr : World} {g t : Nat} {k : IntKind} {ws : List Int} (h : wr.heap[g]? = some (.cells (nums k ws).toArray t (0, 0))) (i : Nat) (hi : i < ws.length) : wr.cell? ⟨g, i, none⟩ = some (.int k (rd ws (i : Int))) := by
  rw [cell_of_row wr g i _ t (0, 0) h]
  simp [nums, rd, List.getD_eq_getElem?_getD, hi]
theorem set_nums' {wr : World} {g t : Nat} {k : IntKind} {ws : List Int} (h : wr.heap[g]? = some (.cells (nums k ws).toArray t (0, 0))) (i : Nat) (x : Int) : (wr.setCell ⟨g, i, none⟩ (.int k x)).heap[g]? = some (.cells (nums k (ws.set i x)).toArray t (0, 0)) := by
  rw [heap_setCell_same wr g i _ t _ h]
  simp [nums, List.map_set]
/-- What the loop over the eight numbers holds: the state in block g, the bytes in block g2. -/
structure WE (w wr : World) (g g2 : Nat) (hs ds : List Int) : Prop where
  bel : Below w.heap.size w wr
  ge : w.heap.size ≤ g2
  ne : g ≠ g2
  h0 : wr.heap[g]? = some (.cells (nums .u32 hs).toArray 64 (0, 0))
  h2 : wr.heap[g2]? = some (.cells (nums .u8 ds).toArray 5 (0, 0))
theorem make32 : ∀ W : World, (Instr.makeSlice 22 (.int .i64 32) (.int .i64 32)).run Try.prog W = .ok (.slice (some ⟨W.heap.size, 0, none⟩) 32 32) (W.alloc (.cells (nums .u8 (z32)).toArray 5)) := by
  intro W
  have h := print_make_of (P := Try.prog) 22 5 (.int .u8 0) 1 Try.underlying22 (by kernel_rfl) rfl (by omega) 32 (by omega) W
  rw [show (nums .u8 (z32)).toArray = madeCells #[.int .u8 0] 32 by kernel_rfl]
  exact h
theorem heap_lt {w : World} {g : Nat} {o : Obj} (h : w.heap[g]? = some o) : g < w.heap.size := (Array.getElem?_eq_some_iff.mp h).1
theorem WE.start {w wr : World} {g g1 : Nat} {hs : List Int} (h : WD w wr g g1 hs) : WE w (wr.alloc (.cells (nums .u8 (z32)).toArray 5)) g wr.heap.size hs (z32) :=
  ⟨h.bel.alloc h.bel.size _, h.bel.size, Nat.ne_of_lt (heap_lt h.h0), by rw [Below.heap_alloc _ _ _ (heap_lt h.h0)]; exact h.h0, heap_alloc_new _ _⟩
theorem WE.set {w wr : World} {g g2 : Nat} {hs ds : List Int} (h : WE w wr g g2 hs ds) (i : Nat) (x : Int) : WE w (wr.setCell ⟨g2, i, none⟩ (.int .u8 x)) g g2 hs (ds.set i x) :=
  ⟨h.bel.setCell h.ge _, h.ge, h.ne, by rw [heap_setCell_other _ _ _ _ h.ne]; exact h.h0, set_nums' h.h2 i x⟩
theorem size80 : (Try.prog.info? 66).map (·.size) = some (nums .u32 keys).toArray.size := by kernel_rfl
theorem slice_blk {p : ByteArray} (i m : Nat) (hp : p.size = 64 * m) (hlt : i < m) (hm : p.size ≤ 140737488355328) (w : World) : (Instr.slice 9 (Value.string p) (some (Value.int IntKind.i64 (64 * (i : Int)))) (some (Value.int IntKind.i64 (wrap64 (64 * (i : Int) + 64)))) none).run Try.prog w = .ok (.string (p.extract (64 * i) (64 * i + 64))) w := by
  have h1 : wrap64 (64 * (i : Int) + 64) = 64 * (i : Int) + 64 := by unfold wrap64; omega
  have h2 : (64 * (i : Int)).toNat = 64 * i := by omega
  have h3 : (64 * (i : Int) + 64).toNat = 64 * i + 64 := by omega
  have h4 : (64 * (i : Int) + 64) ≤ p.size := by omega
  rw [h1]
  simp [Instr.slice, run_underlying Try.underlying9, Instr.sliceBounds, run_sliceBound, sliced, h2, h3, h4, (by omega : (0 : Int) ≤ 64 * (i : Int)), (by omega : (0 : Int) ≤ 64 * (i : Int) + 64), (by omega : (64 * (i : Int)) ≤ 64 * (i : Int) + 64)]
set_option maxHeartbeats 8000000 in
set_option maxRecDepth 100000 in
theorem digest_calls (t p : ByteArray) (m : Nat) (hp : p.size = 64 * m) (hm : p.size ≤ 140737488355328) (hpad : ∀ W : World, Calls Try.prog 47 #[.string t] W fun e w' => e = .returned (.string p) ∧ Below W.heap.size W w') (w : World) :
    Calls Try.prog 36 #[.string t] w fun e w' => e = .returned (.string (strOfNums (digB (blocksGo m first p 0)))) ∧ Below w.heap.size w w' := by
  have HP := Aside0.mk hp
  have HPD := Aside0.mk hpad
  clear hp hpad
  go_enter Try.func36, Try.ntmps36
  go_wp2_with fail
  refine (first_calls w).mono ?_
  rintro e w1 ⟨rfl, hb1⟩
  have HB1 := Aside0.mk hb1
  clear hb1
  go_wp2_with (refine wpList_store_row rfl 64 (.tmp 3) (.tmp 9) rfl w1.heap.size (nums .u32 first).toArray rfl rfl 64 _ (heap_alloc_new _ _) (by kernel_rfl) rfl (by kernel_rfl) ?_)
  refine gen_calls (Q := fun W' => Below w.heap.size w W' ∧ W'.heap[w1.heap.size]? = some (.cells (nums .u32 first).toArray 64 (0, 0)) ∧ w1.heap.size < W'.heap.size) _ (store_new HB1.out _ _ 64) (fun W2 F => ?_)
  have hge := HB1.out.size
  clear HB1
  generalize w1.heap.size = g at F hge ⊢
  have F2 := Aside0.mk F
  clear F
  refine (keys_calls W2).mono ?_
  rintro e w3 ⟨rfl, hb3⟩
  have F3 := Aside0.mk (And.intro (pw_below_below F2.out.1 hb3) (And.intro ((hb3.block g F2.out.2.2).trans F2.out.2.1) (Nat.lt_of_lt_of_le F2.out.2.2 hb3.size)))
  clear hb3 F2
  go_wp2_with (refine wpList_store_row rfl 66 (.tmp 4) (.tmp 10) rfl w3.heap.size (nums .u32 keys).toArray rfl rfl 66 _ (heap_alloc_new _ _) size80 (by kernel_rfl) (nums_one _) ?_)
  refine gen_calls (Q := fun W' => Below w.heap.size w W' ∧ W'.heap[g]? = some (.cells (nums .u32 first).toArray 64 (0, 0)) ∧ W'.heap[w3.heap.size]? = some (.cells (nums .u32 keys).toArray 66 (0, 0)) ∧ w3.heap.size < W'.heap.size) _ (store_new2 F3.out.1 F3.out.2.1 F3.out.2.2 _ _ 66) (fun W4 F => ?_)
  have hgl := F3.out.2.2
  clear F3
  generalize w3.heap.size = g1 at F hgl ⊢
  have F4 := Aside0.mk F
  clear F
  refine (HPD.out W4).mono ?_
  rintro e w5 ⟨rfl, hb5⟩
  have F5 : Aside0 (WD w w5 g g1 first) := ⟨⟨pw_below_below F4.out.1 hb5, hge, by omega, (hb5.block g (by have := F4.out.2.2.2; omega)).trans F4.out.2.1, (hb5.block g1 F4.out.2.2.2).trans F4.out.2.2.1⟩⟩
  clear hb5 F4 HPD
  go_wp2_with fail
  go_loopg [6] (m + 5) (fun kq v6 w' => ∃ (i : Nat) (hs : List Int), v6 = .int .i64 ((64 * i : Nat) : Int) ∧ i + kq = m + 5 ∧ i ≤ m ∧ hs.length = 8 ∧ Aside0 (blocksGo (m - i) hs p (64 * i) = blocksGo m first p 0) ∧ Aside0 (WD w w' g g1 hs))
  case atStart => exact ⟨0, first, rfl, by omega, by omega, rfl, ⟨rfl⟩, F5⟩
  case round =>
    clear F5
    obtain ⟨i, hs, rfl, hk, hi, h8, HE, HW⟩ := hrel
    have H8 := Aside0.mk h8
    have hp := HP.out
    clear h8
    by_cases hlt : i < m
    · have hmi : 64 * i + 64 ≤ 64 * m := by omega
      have hm2 : 64 * i + 64 ≤ 140737488355328 := by omega
      go_wp2_with fail
      refine start_ (n := 9) (S := fun w' => w'.heap[g]? = some (.cells (nums .u32 hs).toArray 64 (0, 0)) ∧ w'.heap[g1]? = some (.cells (nums .u32 keys).toArray 66 (0, 0)) ∧ Below w.heap.size w w') (ds := [8]) #[false, false, false, false, false, false, false, false, false] (by kernel_rfl) rfl rfl ⟨HW.out.h0, HW.out.h1, below_drew HW.out.bel⟩ (fun hHeld => ?_)
      have hgg := HW.out.ge
      have hgn := HW.out.ne
      clear HW
      generalize wr.drew = w6 at hHeld ⊢
      have HH := Aside0.mk hHeld
      clear hHeld
      refine pure_ (i := 1) (N := some 20) (v := ?_) (a' := ?_) #[false, true, false, false, false, false, false, false, false] rfl rfl (by kernel_rfl) (fun _ _ _ h => h) (Or.inl ⟨by rfl, ?_⟩) ?_ ?_
      rotate_left
      · intro w'
        go_simp
        with_reducible rfl
      rotate_left
      · simp only [Act.put, List.setIfInBounds_toArray, List.set_cons_zero, List.set_cons_succ, i64_w, i32_w]
        rfl
      refine pure_ (i := 2) (N := some 21) (v := ?_) (a' := ?_) #[false, true, true, false, false, false, false, false, false] rfl rfl (by kernel_rfl) (fun _ _ _ h => h) (Or.inl ⟨by rfl, ?_⟩) ?_ ?_
      rotate_left
      · intro w'
        go_simp
        with_reducible rfl
      rotate_left
      · simp only [Act.put, List.setIfInBounds_toArray, List.set_cons_zero, List.set_cons_succ, i64_w, i32_w]
        rfl
      refine pure_ (i := 3) (N := some 22) (v := ?_) (a' := ?_) #[false, true, true, true, false, false, false, false, false] rfl rfl (by kernel_rfl) (fun _ _ _ h => h) (Or.inl ⟨by rfl, ?_⟩) ?_ ?_
      rotate_left
      · intro w'
        go_simp
        with_reducible rfl
      rotate_left
      · simp only [Act.put, List.setIfInBounds_toArray, List.set_cons_zero, List.set_cons_succ, i64_w, i32_w]
        rfl
      refine pure_ (i := 4) (N := some 23) (v := ?_) (a' := ?_) #[false, true, true, true, true, false, false, false, false] rfl rfl (by kernel_rfl) (fun _ _ _ h => h) (Or.inl ⟨by rfl, ?_⟩) ?_ ?_
      rotate_left
      · intro w'
        go_simp
        with_reducible rfl
      rotate_left
      · simp only [Act.put, List.setIfInBounds_toArray, List.set_cons_zero, List.set_cons_succ, i64_w, i32_w]
        rfl
      refine pure_ (i := 5) (N := some 24) (v := .string (p.extract (64 * i) (64 * i + 64))) (a' := ?_) #[false, true, true, true, true, true, false, false, false] rfl rfl (by kernel_rfl) (fun _ _ _ h => h) (Or.inl ⟨by rfl, ?_⟩) ?_ ?_
      · intro w'
        go_simp
        rw [show (Instr.slice 9 (Value.string p) (some (Value.int IntKind.i64 (64 * (i : Int)))) (some (Value.int IntKind.i64 (wrap64 (64 * (i : Int) + 64)))) none).run Try.prog w' = .ok (.string (p.extract (64 * i) (64 * i + 64))) w' from slice_blk i m hp hlt hm w']
        rfl
      rotate_left
      · simp only [Act.put, List.setIfInBounds_toArray, List.set_cons_zero, List.set_cons_succ, i64_w, i32_w]
        rfl
      refine take_ (i := 0) (N := some 19) (v := ?_) (a' := ?_) #[true, true, true, true, true, true, false, false, false] rfl rfl (by kernel_rfl) (fun _ _ _ h => h) (Or.inl ⟨by rfl, ?_⟩) HH.out ?_ ?_
      rotate_left
      · rintro w' ⟨s0, s1, s2⟩
        refine exec_load_row 64 (.tmp 3) ?_ g ?_ 64 (nums .u32 hs).toArray (0, 0) _ s0 Try.underlying64 rfl (size77 H8.out) <;> rfl
      rotate_left
      · simp only [Act.put, List.setIfInBounds_toArray, List.set_cons_zero, List.set_cons_succ, i64_w, i32_w]
        rfl
      refine take_ (i := 6) (N := some 25) (v := ?_) (a' := ?_) #[true, true, true, true, true, true, true, false, false] rfl rfl (by kernel_rfl) (fun _ _ _ h => h) (Or.inl ⟨by rfl, ?_⟩) HH.out ?_ ?_
      rotate_left
      · rintro w' ⟨s0, s1, s2⟩
        refine exec_load_row 66 (.tmp 4) ?_ g1 ?_ 66 (nums .u32 keys).toArray (0, 0) _ s1 Try.underlying66 rfl size80 <;> rfl
      rotate_left
      · simp only [Act.put, List.setIfInBounds_toArray, List.set_cons_zero, List.set_cons_succ, i64_w, i32_w]
        rfl
      refine one_ (i := 7) (N := some 26) #[true, true, true, true, true, true, true, true, false] rfl rfl (by kernel_rfl) (by decide) (fun K hK => ?_)
      refine goes_ Try.func48 (by kernel_rfl) rfl #[.agg (nums .u32 hs).toArray, .string (p.extract (64 * i) (64 * i + 64)), .agg (nums .u32 keys).toArray] (by rfl) rfl rfl (by simp only [List.map_toArray, List.map_cons, List.map_nil]; rfl) ?_
      refine (block_calls hs H8.out _ (by rw [ByteArray.size_extract]; omega) keys rfl _).mono ?_
      rintro e w7 ⟨rfl, hb7⟩
      refine ⟨_, rfl, ?_⟩
      refine hK.out _ _ ⟨(hb7.block g ?_).trans HH.out.1, (hb7.block g1 ?_).trans HH.out.2.1, pw_below_below HH.out.2.2 hb7⟩ (fun hHeld => ?_)
      · exact heap_lt HH.out.1
      · exact heap_lt HH.out.2.1
      clear HH hb7 hK K
      have HH := Aside0.mk hHeld
      clear hHeld
      have HB8 := Aside0.mk (blk_len (p.extract (64 * i) (64 * i + 64)) H8.out)
      refine norm_ (a' := ?_) ?_ ?_
      rotate_left
      · show Act.put _ (some 26) _ = _
        simp only [Act.put, List.setIfInBounds_toArray, List.set_cons_zero, List.set_cons_succ, i64_w, i32_w]
        rfl
      refine last_ (i := 8) (N := none) #[true, true, true, true, true, true, true, true, true] rfl rfl (by kernel_rfl) (by decide) (fun K hK => ?_)
      refine skip_ (w1 := w7.setRow g (nums .u32 (blk hs (p.extract (64 * i) (64 * i + 64)))).toArray) (by rfl) rfl ?_ ?_
      · refine exec_store_row 64 (.tmp 3) (.tmp 26) ?_ g _ ?_ ?_ 64 (nums .u32 hs).toArray HH.out.1 (size77 HB8.out) ?_ (nums_one _)
        · rfl
        · rfl
        · rfl
        · simp [nums, H8.out, HB8.out]
      refine hK.out _ _ ?_
      clear hK K
      refine done_ (by kernel_rfl) ?_
      have HW : Aside0 (WD w (w7.setRow g (nums .u32 (blk hs (p.extract (64 * i) (64 * i + 64)))).toArray) g g1 (blk hs (p.extract (64 * i) (64 * i + 64)))) := ⟨⟨below_setRow HH.out.2.2 _ _ hgg, hgg, hgn, setRow_heap_same _ _ _ _ 64 HH.out.1, by rw [setRow_heap_other _ _ _ _ (Ne.symm hgn)]; exact HH.out.2.1⟩⟩
      clear HH
      generalize w7.setRow g (nums .u32 (blk hs (p.extract (64 * i) (64 * i + 64)))).toArray = w8 at HW ⊢
      go_wp2
      go_roundg (gk - 1)
      case measure => omega
      case rel => exact ⟨i + 1, _, by push_cast; rw [Int.mul_add, Int.mul_one], by omega, by omega, HB8.out, ⟨by rw [← HE.out, show m - i = (m - (i + 1)) + 1 by omega]; rfl⟩, HW⟩
    · have him : i = m := by omega
      have hE := HE.out
      clear HE
      subst him
      rw [Nat.sub_self] at hE
      have hE2 : Aside0 (hs = blocksGo i first p 0) := ⟨hE⟩
      clear hE
      have hgg := HW.out.ge
      have mk := make32
      have HWE := Aside0.mk (WE.start HW.out)
      have hgl : g < wr.heap.size := heap_lt HW.out.h0
      clear HW
      go_wp2_with fail
      clear mk
      generalize wr.alloc (.cells (nums .u8 (z32)).toArray 5) = w9 at HWE ⊢
      generalize wr.heap.size = g2 at HWE hgl ⊢
      trace "A"
      go_loopg [8] 12 (fun kq v8 w' => ∃ (j : Nat), v8 = .int .i64 (j : Int) ∧ j + kq = 12 ∧ j ≤ 8 ∧ Aside0 (WE w w' g g2 hs ((digB hs).take (4 * j) ++ List.replicate (32 - 4 * j) 0)))
      case atStart => exact ⟨0, rfl, by omega, by omega, ⟨by have h1 := HWE.out; rwa [Nat.mul_zero, List.take_zero, Nat.sub_zero, List.nil_append, ← z32]⟩⟩
      case round =>
        clear HWE
        obtain ⟨j, rfl, hk, hj, HWE⟩ := hrel
        by_cases hlt : j < 8
        · have c0 := cell_nums HWE.out.h0 j (by rw [H8.out]; exact hlt)
          have hdl : Aside0 (((digB hs).take (4 * j) ++ List.replicate (32 - 4 * j) 0).length = 32) := ⟨by rw [List.length_append, List.length_take, List.length_replicate, digB_len, H8.out]; omega⟩
          have e0 := cell_nums' HWE.out.h2 (4 * j) (by rw [hdl.out]; omega)
          have e1 := cell_nums' HWE.out.h2 (4 * j + 1) (by rw [hdl.out]; omega)
          have e2 := cell_nums' HWE.out.h2 (4 * j + 2) (by rw [hdl.out]; omega)
          have e3 := cell_nums' HWE.out.h2 (4 * j + 3) (by rw [hdl.out]; omega)
          have z0 := blk_frozen HWE.out.h2 (4 * j)
          have z1 := blk_frozen HWE.out.h2 (4 * j + 1)
          have z2 := blk_frozen HWE.out.h2 (4 * j + 2)
          have z3 := blk_frozen HWE.out.h2 (4 * j + 3)
          have hne : g ≠ g2 := HWE.out.ne
          go_wp2_with fail
          go_roundg (gk - 1)
          case measure => omega
          case rel => exact ⟨j + 1, by push_cast; rfl, by omega, by omega, ⟨by have h1 := (((HWE.out.set (4 * j) (rd hs (j : Int) / 16777216 % 256)).set (4 * j + 1) (rd hs (j : Int) / 65536 % 256)).set (4 * j + 2) (rd hs (j : Int) / 256 % 256)).set (4 * j + 3) (rd hs (j : Int) % 256); rwa [digB_step hs j H8.out hlt] at h1⟩⟩
        · have hj8 : j = 8 := by omega
          have HR : Aside0 (WE w wr g g2 hs (digB hs)) := ⟨by
            have h1 := HWE.out
            subst hj8
            rwa [List.take_of_length_le (by rw [digB_len, H8.out]; exact Nat.le_refl _), show 32 - 4 * 8 = 0 from rfl, List.replicate_zero, List.append_nil] at h1⟩
          clear HWE
          have hst := run_convert_bytes_arg (P := Try.prog) wr 22 5 Try.underlying22 Try.underlying5 g2 0 32 32 (digB hs) (by rw [digB_len, H8.out]) (fun q hq => by
            have h1 := cell_nums' HR.out.h2 q (by rw [digB_len, H8.out]; omega)
            rw [Nat.zero_add, h1]; rfl) 9 Try.underlying9
          go_wp2_with fail
          go_ret
          exact ⟨by rw [← hE2.out]; rfl, HR.out.bel⟩
def dig (t : ByteArray) : ByteArray := strOfNums (digB (blocksGo ((t.size + 9 + padK t.size) / 64) first (strOfNums (padB t)) 0))
theorem padB_len (t : ByteArray) : (padB t).length = 64 * ((t.size + 9 + padK t.size) / 64) := by
  have h : (padB t).length = t.size + 9 + padK t.size := by
    unfold padB
    rw [List.length_append, List.length_append, List.length_append, byt_len, List.length_replicate]
    show t.size + 1 + padK t.size + 8 = _
    omega
  rw [h]; unfold padK; omega
theorem spec_digest (t : ByteArray) (ht : t.size ≤ 140737488351232) (w : World) :
    Calls Try.prog 36 #[.string t] w fun e w' => e = .returned (.string (dig t)) ∧ Below w.heap.size w w' := by
  refine digest_calls t (strOfNums (padB t)) _ (by rw [strOfNums_size, padB_len]) ?_ (fun W => pad_calls t ht W) w
  rw [strOfNums_size, padB_len]
  have : padK t.size < 64 := by unfold padK; omega
  omega
end Go.Proofs.Ythodhbgocnbddaa.Dig
