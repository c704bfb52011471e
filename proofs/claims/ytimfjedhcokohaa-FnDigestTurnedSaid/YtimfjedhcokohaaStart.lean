/-
The reference's first state (spec.ShaStart), as a slice.
Conditions: none.
-/
import Derived.Test.YtimfjedhcokohaaDig
namespace Go.Proofs.Ytimfjedhcokohaa.Start
open Go.RowKit Go.Proofs.YtimfjedhcokohaaW.PrintWords Go.Proofs.YtimfjedhcokohaaW.PrintLast Go.Proofs.YtimfjedhcokohaaW.PrintMore Go.Proofs.Ytimfjedhcokohaa.Sha Go.Proofs.Ytimfjedhcokohaa.Blk Go.Proofs.Ytimfjedhcokohaa.Dig
set_option linter.unusedVariables false
set_option linter.unusedSimpArgs false
theorem info_i64 : (Try.prog.info? 3).map (fun i => (i.zero, i.size, i.bytes)) = some (some (.int .i64 0), 1, 8) := by kernel_rfl
theorem R_own {α : Type} {d : Kd α} {e base : Nat} {ok : Nat → Prop} {w : World} {v : Value} {xs : List α} (h : d.R e w base ok v xs) : ∀ k, v.ownBlock = some k → ok k := h.1
theorem take_rd (l : List Int) (i : Nat) (h : i < l.length) : l.take i ++ [rd l (i : Int)] = l.take (i + 1) := by
  rw [List.take_succ_eq_append_getElem h]
  simp [rd, List.getD_eq_getElem?_getD, h]
theorem first_bound (i : Nat) (h : i < 8) : 0 ≤ rd first (i : Int) ∧ rd first (i : Int) ≤ 4294967295 := by
  obtain rfl | rfl | rfl | rfl | rfl | rfl | rfl | rfl : i = 0 ∨ i = 1 ∨ i = 2 ∨ i = 3 ∨ i = 4 ∨ i = 5 ∨ i = 6 ∨ i = 7 := by omega
  all_goals (constructor <;> decide)
set_option maxHeartbeats 8000000 in
set_option maxRecDepth 100000 in
theorem start_calls (w : World) : Calls Try.prog 22 #[] w fun e w' => ∃ v : Value, e = .returned v ∧ Kd.R (Kd.int .i64) 3 w' w.heap.size (fun _ => True) v first ∧ Below w.heap.size w w' := by
  go_enter Try.func22, Try.ntmps22
  go_wp2_with fail
  refine (first_calls w).mono ?_
  rintro e w1 ⟨rfl, hb1⟩
  have HB1 := Aside0.mk hb1
  clear hb1
  go_upto_region 2 with (refine wpList_store_row rfl 77 (.tmp 1) (.tmp 4) rfl w1.heap.size (nums .u32 first).toArray rfl rfl 77 _ (heap_alloc_new _ _) (by kernel_rfl) rfl (by kernel_rfl) ?_)
  have F0 := Aside0.mk (store_new HB1.out #[Value.int IntKind.u32 0, Value.int IntKind.u32 0, Value.int IntKind.u32 0, Value.int IntKind.u32 0, Value.int IntKind.u32 0, Value.int IntKind.u32 0, Value.int IntKind.u32 0, Value.int IntKind.u32 0] (nums .u32 first).toArray 77)
  have hge := HB1.out.size
  clear HB1
  generalize ((w1.alloc (Obj.cells #[Value.int IntKind.u32 0, Value.int IntKind.u32 0, Value.int IntKind.u32 0, Value.int IntKind.u32 0, Value.int IntKind.u32 0, Value.int IntKind.u32 0, Value.int IntKind.u32 0, Value.int IntKind.u32 0] 77)).setRow w1.heap.size (nums IntKind.u32 first).toArray) = W2 at F0 ⊢
  generalize w1.heap.size = g at F0 hge ⊢
  go_wp2_with ((with_reducible refine gate_dst (N := 5) rfl ?_); (try (refine gate_guard (by rfl) ?_; dsimp only)); refine Kd.R_lit (Kd.int .i64) w.heap.size 3 ?hg (N := 5) ?hd (xs := ([] : List Int)) (inner := []) (ok := fun k => k ≠ g) (okp := fun _ => False) ?hr ?hp (fun _ hk => hk.elim) ?hf F0.out.1 F0.out.1.size (by simp) ?_; (case hd => rfl); (case hg => rfl); (case hr => first | (go_simp; done) | (go_simp; rfl)); (case hp => exact (Reps.none _ _)); (case hf => exact (Nat.ne_of_gt F0.out.2.2)); intro v w3 hR hB hG hN)
  have HG : Aside0 (w3.heap[g]? = some (.cells (nums .u32 first).toArray 77 (0, 0))) := ⟨(hG.block g F0.out.2.2 (by simp)).trans F0.out.2.1⟩
  have HR := Aside0.mk hR
  have HB := Aside0.mk hB
  clear hR hB hG hN F0
  go_loopg [2, 3] 12 (fun kq v2 v3 w' => ∃ (i : Nat), v3 = .int .i64 (i : Int) ∧ i + kq = 12 ∧ i ≤ 8 ∧ Aside0 (w'.heap[g]? = some (.cells (nums .u32 first).toArray 77 (0, 0))) ∧ Aside0 (Kd.R (Kd.int .i64) 3 w' w.heap.size (fun k => k ≠ g) v2 (first.take i)) ∧ Aside0 (Below w.heap.size w w'))
  case atStart => exact ⟨0, rfl, by omega, by omega, HG, HR, HB⟩
  case round =>
    clear HG HR HB
    obtain ⟨i, rfl, hk, hi, HG, HR, HB⟩ := hrel
    by_cases hlt : i < 8
    · have c0 := cell_nums HG.out i hlt
      obtain ⟨hf0, hf1⟩ := first_bound i hlt
      have hsl : Aside0 (w.heap.size ≤ wr.heap.size) := ⟨HB.out.size⟩
      have hgl : Aside0 (g < wr.heap.size) := ⟨heap_lt HG.out⟩
      go_wp2_with ((with_reducible refine gate_builtin (b := .append) (xs := #[.tmp 10, .tmp 15]) rfl ?_); at_builtin; refine Kd.R_append (Kd.int .i64) (w0 := w) w.heap.size rfl (.tmp 10) (.tmp 15) 22 3 (.int .i64 0) 8 rfl Try.underlying22 info_i64 rfl (by decide) (by decide) u2 (first.take i) (rd first (i : Int)) [.int .i64 (rd first (i : Int))] (fun k => k ≠ g) (fun _ => False) rfl rfl ?aP (fun _ hk => hk.elim) (fun k hk => Nat.ne_of_gt (Nat.lt_of_lt_of_le hgl.out hk)) HR.out HB.out hsl.out ?aL ?_; (case aP => exact rfl); (case aL => rw [List.length_take]; omega); intro v4 w4 ho hb hgr hat)
      go_roundg (gk - 1)
      case measure => omega
      case rel => exact ⟨i + 1, by push_cast; rfl, by omega, by omega, ⟨(hgr.block g hgl.out (fun he => R_own HR.out g he.symm rfl)).trans HG.out⟩, ⟨by rw [take_rd first i hlt] at ho; exact ho⟩, ⟨hb⟩⟩
    · have hi8 : i = 8 := by omega
      subst hi8
      go_wp2_with fail
      go_ret
      exact ⟨_, rfl, Kd.R_mono HR.out (fun _ _ => trivial), HB.out⟩
end Go.Proofs.Ytimfjedhcokohaa.Start
