/-
The reference's ShaBlock, on slices of numbers, comes to the plain function 'shaBlk'.
Conditions: a state that fits into memory.
-/
import Derived.Test.YtimfjedhcokohaaStart
namespace Go.Proofs.Ytimfjedhcokohaa.ShaB
open Go.RowKit Go.Proofs.YtimfjedhcokohaaW.PrintWords Go.Proofs.YtimfjedhcokohaaW.PrintLast Go.Proofs.YtimfjedhcokohaaW.PrintMore Go.Proofs.Ytimfjedhcokohaa.Sha Go.Proofs.Ytimfjedhcokohaa.Blk Go.Proofs.Ytimfjedhcokohaa.Dig Go.Proofs.Ytimfjedhcokohaa.Start
set_option linter.unusedVariables false
set_option linter.unusedSimpArgs false
def shaBlk (h : List Int) (b : ByteArray) : List Int := if h.length = 8 ∧ b.size = 64 ∧ (∀ x ∈ h, 0 ≤ x ∧ x ≤ 4294967295) then blk h b else h
theorem rd_get (l : List Int) (i : Nat) (h : i < l.length) : rd l (i : Int) = l[i] := by
  unfold rd
  rw [Int.toNat_natCast, List.getD_eq_getElem?_getD, List.getElem?_eq_getElem h]
  rfl
set_option maxRecDepth 100000 in
theorem in_calls (a b c : Int) (w : World) : Calls Try.prog 72 #[.int .i64 a, .int .i64 b, .int .i64 c] w fun e w' => e = .returned (.bool (decide (b ≤ a ∧ a ≤ c))) ∧ w' = w := by
  by_cases h : a ≥ b
  · have E : Aside0 (decide (b ≤ a ∧ a ≤ c) = decide (a ≤ c)) := ⟨by rw [decide_eq_decide]; exact ⟨fun h2 => h2.2, fun h2 => ⟨h, h2⟩⟩⟩
    rw [E.out]
    go_enter Try.func72, Try.ntmps72
    go_wp2
    go_ret
    exact ⟨rfl, rfl⟩
  · have E : Aside0 (decide (b ≤ a ∧ a ≤ c) = false) := ⟨decide_eq_false (fun h2 => h h2.1)⟩
    rw [E.out]
    go_enter Try.func72, Try.ntmps72
    go_wp2
    go_ret
    exact ⟨rfl, rfl⟩
theorem set_next8 (l : List Int) (i : Nat) (x : Int) (hl : l.length = 8) (hi : i < 8) (hx : x = rd l (i : Int)) : (l.take i ++ Z (8 - i)).set i x = l.take (i + 1) ++ Z (8 - (i + 1)) := by
  subst hx
  have e : Z (8 - i) = 0 :: Z (8 - (i + 1)) := by
    have : 8 - i = (8 - (i + 1)) + 1 := by omega
    rw [this]; rfl
  rw [e, List.set_append_right _ _ (by rw [List.length_take]; omega), List.length_take, show i - min i l.length = 0 by omega, List.set_cons_zero, ← take_rd l i (by omega), List.append_assoc]
  rfl
theorem set_over8 (b l : List Int) (j : Nat) (hb : b.length = 8) (hl : l.length = 8) (hj : j < 8) : (b.take j ++ l.drop j).set j (rd b (j : Int)) = b.take (j + 1) ++ l.drop (j + 1) := by
  rw [List.set_append_right _ _ (by rw [List.length_take]; omega), List.length_take, show j - min j b.length = 0 by omega, drop_rd l j (by omega), List.set_cons_zero, ← take_rd b j (by omega), List.append_assoc]
  rfl
set_option maxHeartbeats 8000000 in
set_option maxRecDepth 100000 in
theorem shab_calls (A0 : Option Addr) (c0 : Nat) (l0 : List Int) (a1 : ByteArray) (w : World) (hl : l0.length < 17592186044416) (hr0 : Kd.C (Kd.int .i64) w A0 l0.length l0) (hc0 : l0.length ≤ c0) :
    Calls Try.prog 27 #[.slice A0 l0.length c0, .string a1] w fun e w' => ∃ v : Value, e = .returned v ∧ Kd.R (Kd.int .i64) 3 w' w.heap.size (fun _ => True) v (shaBlk l0 a1) ∧ Below w.heap.size w w' := by
  have HR0 := Aside0.mk hr0
  have HC0 := Aside0.mk hc0
  have LM := Aside0.mk hl
  have HB := Aside0.mk (Below.refl w.heap.size w)
  clear hr0 hc0 hl
  go_enter Try.func27, Try.ntmps27
  go_upto_region 2 with (first
    | ((with_reducible refine gate_dst (N := 9) rfl ?_); (try (refine gate_guard (by rfl) ?_; dsimp only)); refine Kd.R_lit (Kd.int .i64) _ 3 ?hg (N := 9) ?hd (xs := ([] : List Int)) (inner := []) (ok := fun _ => True) (okp := fun _ => True) ?hr ?hp (fun _ hk => hk) trivial (Below.refl _ _) (Nat.le_refl _) (by simp) ?_; (case hd => rfl); (case hg => rfl); (case hr => first | (go_simp; done) | (go_simp; rfl)); (case hp => exact (Reps.none _ _)); intro v125 w5 ho6 hb hg_ hnew_; clear hg_ hnew_; have n0_ := Aside0.mk (Kd.R_lower ho6 (below_size HB.out)); have n1_ := Aside0.mk (below_step HB.out hb); clear HB; have HO126 := n0_; have HB := n1_; clear n0_ n1_; clear hb ho6)
    | ((with_reducible refine gate_builtin (b := .append) (xs := #[.tmp 9, .tmp 10]) rfl ?_); (try (refine gate_guard (by rfl) ?_; dsimp only)); at_builtin; refine Kd.R_append_rows (Kd.int .i64) (w0 := w) w.heap.size rfl (.tmp 9) (.tmp 10) 22 3 (.int .i64 0) 8 rfl Try.underlying22 info_i64 rfl (by decide) (by omega) v125 ([] : List Int) l0 _ _ _ (fun _ => True) (fun _ => False) rfl rfl ?aO ?aR (fun _ _ h => h) (fun _ h => h.elim) ?aF ?aB ?aS ?aL ?_; (case aR => exact (Kd.C_below HR0.out HB.out)); (case aB => exact HB.out); (case aF => exact (fun _ _ => trivial)); (case aO => exact HO126.out); (case aS => exact below_size HB.out); (case aL => have := LM.out; simp only [List.length_nil]; omega); intro v128 w7 ho hb hg hat; have n0_ := Aside0.mk hb; have n1_ := Aside0.mk ho; clear HB; clear HO126; have HB := n0_; have HO := n1_; clear n0_ n1_; clear ho hb hg hat))
  rw [List.nil_append] at HO
  by_cases c8 : l0.length = 8
  · by_cases c64 : a1.size = 64
    · have H8 := Aside0.mk c8
      have H64 := Aside0.mk c64
      have c8i : (l0.length : Int) = 8 := by omega
      have c64i : (a1.size : Int) = 64 := by omega
      go_wp2_with (refine wpList_store_row rfl 77 (.tmp 6) (.tmp 21) rfl w7.heap.size (nums .u32 (Z 8)).toArray rfl rfl 77 _ (heap_alloc_new _ _) (by kernel_rfl) rfl (by kernel_rfl) ?_)
      clear c8i c64i c8 c64
      have F0 := Aside0.mk (store_new (w := w) HB.out #[Value.int IntKind.u32 0, Value.int IntKind.u32 0, Value.int IntKind.u32 0, Value.int IntKind.u32 0, Value.int IntKind.u32 0, Value.int IntKind.u32 0, Value.int IntKind.u32 0, Value.int IntKind.u32 0] (nums .u32 (Z 8)).toArray 77)
      have F1 := Aside0.mk (store_new (w := w7) (Below.refl _ _) #[Value.int IntKind.u32 0, Value.int IntKind.u32 0, Value.int IntKind.u32 0, Value.int IntKind.u32 0, Value.int IntKind.u32 0, Value.int IntKind.u32 0, Value.int IntKind.u32 0, Value.int IntKind.u32 0] (nums .u32 (Z 8)).toArray 77)
      have HO2 : Aside0 (Kd.R (Kd.int .i64) 3 w7 w.heap.size (fun k => k ≠ w7.heap.size) v128 l0) := ⟨Kd.R_mono (Kd.R_elderB HO.out w7.heap.size (Nat.le_refl _)) (fun _ hk => hk.2)⟩
      have hge := HB.out.size
      clear HO HB
      have HO3 := Aside0.mk (Kd.R_below HO2.out F1.out.1)
      clear HO2 F1
      generalize ((w7.alloc (Obj.cells #[Value.int IntKind.u32 0, Value.int IntKind.u32 0, Value.int IntKind.u32 0, Value.int IntKind.u32 0, Value.int IntKind.u32 0, Value.int IntKind.u32 0, Value.int IntKind.u32 0, Value.int IntKind.u32 0] 77)).setRow w7.heap.size (nums IntKind.u32 (Z 8)).toArray) = W8 at F0 HO3 ⊢
      generalize w7.heap.size = g at F0 HO3 hge ⊢
      go_loopg [7] 12 (fun kq v7 w' => ∃ (i : Nat), v7 = .int .i64 (i : Int) ∧ i + kq = 12 ∧ i ≤ 8 ∧ Aside0 (∀ j, j < i → 0 ≤ rd l0 (j : Int) ∧ rd l0 (j : Int) ≤ 4294967295) ∧ Aside0 (w'.heap[g]? = some (.cells (nums .u32 (l0.take i ++ Z (8 - i))).toArray 77 (0, 0))) ∧ Aside0 (Kd.R (Kd.int .i64) 3 w' w.heap.size (fun k => k ≠ g) v128 l0) ∧ Aside0 (Below w.heap.size w w'))
      case atStart => exact ⟨0, rfl, by omega, by omega, ⟨fun j hj => by omega⟩, ⟨F0.out.2.1⟩, HO3, ⟨F0.out.1⟩⟩
      case round =>
        clear F0 HO3
        obtain ⟨i, rfl, hk, hi, HI, HG, HO, HB⟩ := hrel
        by_cases hlt : i < 8
        · have hii : (i : Int) < (l0.length : Int) := by have := H8.out; omega
          obtain ⟨ad, ea, hx0⟩ := Kd.at_int (Kd.C_below HR0.out HB.out) (i : Int) (by omega) hii
          cases ea
          rw [Int.toNat_natCast] at hx0
          go_wp2_with fail
          refine (in_calls _ _ _ _).mono ?_
          rintro e w' ⟨rfl, rfl⟩
          by_cases hin : 0 ≤ rd l0 (i : Int) ∧ rd l0 (i : Int) ≤ 4294967295
          · have HIN := Aside0.mk hin
            rw [decide_eq_true hin]
            clear hin
            have hl8 : Aside0 ((l0.take i ++ Z (8 - i)).length = 8) := ⟨by rw [List.length_append, List.length_take]; have := H8.out; simp only [Z, List.length_replicate]; omega⟩
            have hcell := cell_nums HG.out i (by rw [hl8.out]; exact hlt)
            have hfz := blk_frozen HG.out i
            go_wp2_with fail
            go_roundg (gk - 1)
            case measure => omega
            case rel =>
              refine ⟨i + 1, by push_cast; rfl, by omega, by omega, ⟨fun j hj => ?_⟩, ⟨?_⟩, ⟨Kd.R_move HO.out (fun k hk => heap_setCell_other _ _ _ _ hk)⟩, ⟨HB.out.setCell hge _⟩⟩
              · by_cases hji : j = i
                · subst hji; exact HIN.out
                · exact HI.out j (by omega)
              · rw [← set_next8 l0 i (rd l0 (i : Int) % 4294967296) H8.out hlt (by have := HIN.out; omega)]
                exact set_nums HG.out i _
          · have hin2 : decide (0 ≤ rd l0 (i : Int) ∧ rd l0 (i : Int) ≤ 4294967295) = false := decide_eq_false hin
            have e : Aside0 (shaBlk l0 a1 = l0) := ⟨by unfold shaBlk; rw [if_neg (fun h => hin (by rw [rd_get l0 i (by have := H8.out; omega)]; exact h.2.2 _ (List.getElem_mem _)))]⟩
            rw [hin2]
            clear hin hin2
            go_wp2_with fail
            go_ret
            exact ⟨_, rfl, by rw [e.out]; exact Kd.R_mono HO.out (fun _ _ => trivial), HB.out⟩
        · have hi8 : i = 8 := by omega
          subst hi8
          have HR : Aside0 (∀ x ∈ l0, 0 ≤ x ∧ x ≤ 4294967295) := ⟨fun x hx => by
            obtain ⟨j, hj, rfl⟩ := List.mem_iff_getElem.1 hx
            have := HI.out j (by have := H8.out; omega)
            rwa [rd_get l0 j hj] at this⟩
          have HG2 : Aside0 (wr.heap[g]? = some (.cells (nums .u32 l0).toArray 77 (0, 0))) := ⟨by
            have h1 := HG.out
            rwa [List.take_of_length_le (by rw [H8.out]; exact Nat.le_refl _), show Z (8 - 8) = [] from rfl, List.append_nil] at h1⟩
          clear HG HI hi hlt hk
          have E : Aside0 (shaBlk l0 a1 = blk l0 a1) := ⟨by unfold shaBlk; rw [if_pos ⟨H8.out, H64.out, HR.out⟩]⟩
          go_wp2_with fail
          refine start_ (n := 5) (S := fun w' => w'.heap[g]? = some (.cells (nums .u32 l0).toArray 77 (0, 0)) ∧ Below w.heap.size w w' ∧ Kd.R (Kd.int .i64) 3 w' w.heap.size (fun k => k ≠ g) v128 l0) (ds := [4]) #[false, false, false, false, false] (by kernel_rfl) rfl rfl ⟨HG2.out, below_drew HB.out, Kd.R_drew HO.out⟩ (fun hHeld => ?_)
          clear HG2 HB HO
          generalize wr.drew = w6 at hHeld ⊢
          have HH := Aside0.mk hHeld
          clear hHeld
          refine pure_ (i := 1) (N := some 41) (v := ?_) (a' := ?_) #[false, true, false, false, false] rfl rfl (by kernel_rfl) (fun _ _ _ h => h) (Or.inl ⟨by rfl, ?_⟩) ?_ ?_
          rotate_left
          · intro w'
            go_simp
            with_reducible rfl
          rotate_left
          · simp only [Act.put, List.setIfInBounds_toArray, List.set_cons_zero, List.set_cons_succ, i64_w, i32_w]
            rfl
          refine take_ (i := 0) (N := some 40) (v := ?_) (a' := ?_) #[true, true, false, false, false] rfl rfl (by kernel_rfl) (fun _ _ _ h => h) (Or.inl ⟨by rfl, ?_⟩) HH.out ?_ ?_
          rotate_left
          · rintro w' ⟨s0, s1, s2⟩
            refine exec_load_row 77 (.tmp 6) ?_ g ?_ 77 (nums .u32 l0).toArray (0, 0) _ s0 Try.underlying77 rfl (size77 H8.out) <;> rfl
          rotate_left
          · simp only [Act.put, List.setIfInBounds_toArray, List.set_cons_zero, List.set_cons_succ, i64_w, i32_w]
            rfl
          refine one_ (i := 2) (N := some 42) #[true, true, true, false, false] rfl rfl (by kernel_rfl) (by decide) (fun K hK => ?_)
          refine goes_ Try.func74 (by kernel_rfl) rfl #[] (by rfl) rfl rfl (by simp) ?_
          refine (keys_calls _).mono ?_
          rintro e w7b ⟨rfl, hb7⟩
          refine ⟨_, rfl, ?_⟩
          refine hK.out _ _ ⟨(hb7.block g (heap_lt HH.out.1)).trans HH.out.1, pw_below_below HH.out.2.1 hb7, Kd.R_below HH.out.2.2 hb7⟩ (fun hHeld => ?_)
          clear HH hb7 hK K
          have HH := Aside0.mk hHeld
          clear hHeld
          refine norm_ (a' := ?_) ?_ ?_
          rotate_left
          · show Act.put _ (some 42) _ = _
            simp only [Act.put, List.setIfInBounds_toArray, List.set_cons_zero, List.set_cons_succ, i64_w, i32_w]
            rfl
          refine one_ (i := 3) (N := some 43) #[true, true, true, true, false] rfl rfl (by kernel_rfl) (by decide) (fun K hK => ?_)
          refine goes_ Try.func73 (by kernel_rfl) rfl #[.agg (nums .u32 l0).toArray, .string a1, .agg (nums .u32 keys).toArray] (by rfl) rfl rfl (by simp only [List.map_toArray, List.map_cons, List.map_nil]; rfl) ?_
          refine (block_calls l0 H8.out a1 H64.out keys rfl _).mono ?_
          rintro e w8 ⟨rfl, hb7⟩
          refine ⟨_, rfl, ?_⟩
          refine hK.out _ _ ⟨(hb7.block g (heap_lt HH.out.1)).trans HH.out.1, pw_below_below HH.out.2.1 hb7, Kd.R_below HH.out.2.2 hb7⟩ (fun hHeld => ?_)
          clear HH hb7 hK K
          have HH := Aside0.mk hHeld
          clear hHeld
          have HB8 := Aside0.mk (blk_len a1 H8.out)
          have HF8 : Aside0 (∀ x ∈ blk l0 a1, 0 ≤ x ∧ x ≤ 4294967295) := ⟨fin_range⟩
          refine norm_ (a' := ?_) ?_ ?_
          rotate_left
          · show Act.put _ (some 43) _ = _
            simp only [Act.put, List.setIfInBounds_toArray, List.set_cons_zero, List.set_cons_succ, i64_w, i32_w]
            rfl
          refine last_ (i := 4) (N := none) #[true, true, true, true, true] rfl rfl (by kernel_rfl) (by decide) (fun K hK => ?_)
          refine skip_ (w1 := w8.setRow g (nums .u32 (blk l0 a1)).toArray) (by rfl) rfl ?_ ?_
          · refine exec_store_row 77 (.tmp 6) (.tmp 43) ?_ g _ ?_ ?_ 77 (nums .u32 l0).toArray HH.out.1 (size77 HB8.out) ?_ (nums_one _)
            · rfl
            · rfl
            · rfl
            · simp [nums, H8.out, HB8.out]
          refine hK.out _ _ ?_
          clear hK K
          refine done_ (by kernel_rfl) ?_
          have HG : Aside0 ((w8.setRow g (nums .u32 (blk l0 a1)).toArray).heap[g]? = some (.cells (nums .u32 (blk l0 a1)).toArray 77 (0, 0))) := ⟨setRow_heap_same _ _ _ _ 77 HH.out.1⟩
          have HB : Aside0 (Below w.heap.size w (w8.setRow g (nums .u32 (blk l0 a1)).toArray)) := ⟨below_setRow HH.out.2.1 _ _ hge⟩
          have HO : Aside0 (Kd.R (Kd.int .i64) 3 (w8.setRow g (nums .u32 (blk l0 a1)).toArray) w.heap.size (fun k => k ≠ g) v128 l0) := ⟨Kd.R_move HH.out.2.2 (fun k hk => setRow_heap_other _ _ _ _ hk)⟩
          clear HH
          generalize w8.setRow g (nums .u32 (blk l0 a1)).toArray = w9 at HG HB HO ⊢
          obtain ⟨go, co, eo, gb, gl, cl, HGO⟩ := Kd.R_form HO.out (by have := H8.out; omega)
          have GB := Aside0.mk gb
          clear gb gl HGO
          cases eo
          have hne : go ≠ g := R_own HO.out go rfl
          rw [H8.out] at HO ⊢
          go_wp2_with fail
          go_loopg [8] 12 (fun kq v8 w' => ∃ (j : Nat), v8 = .int .i64 (j : Int) ∧ j + kq = 12 ∧ j ≤ 8 ∧ Aside0 (w'.heap[g]? = some (.cells (nums .u32 (blk l0 a1)).toArray 77 (0, 0))) ∧ Aside0 (Kd.R (Kd.int .i64) 3 w' w.heap.size (fun k => k ≠ g) (.slice (some ⟨go, 0, none⟩) 8 co) ((blk l0 a1).take j ++ l0.drop j)) ∧ Aside0 (Below w.heap.size w w'))
          case atStart => exact ⟨0, rfl, by omega, by omega, HG, ⟨by rw [List.take_zero, List.drop_zero, List.nil_append]; exact HO.out⟩, HB⟩
          case round =>
            clear HG HB HO
            obtain ⟨j, rfl, hk, hj, HG, HO, HB⟩ := hrel
            by_cases hlt : j < 8
            · have hl8 : Aside0 (((blk l0 a1).take j ++ l0.drop j).length = 8) := ⟨by rw [List.length_append, List.length_take, List.length_drop]; have := H8.out; have := HB8.out; omega⟩
              have hcell := cell_nums HG.out j (by rw [HB8.out]; exact hlt)
              have hx1 := (HF8.out (rd (blk l0 a1) (j : Int)) (by rw [rd_get _ j (by rw [HB8.out]; exact hlt)]; exact List.getElem_mem _)).1
              have hx2 := (HF8.out (rd (blk l0 a1) (j : Int)) (by rw [rd_get _ j (by rw [HB8.out]; exact hlt)]; exact List.getElem_mem _)).2
              have HO1 : Aside0 (Kd.R (Kd.int .i64) 3 wr w.heap.size (fun k => k ≠ g) (.slice (some ⟨go, 0, none⟩) ((blk l0 a1).take j ++ l0.drop j).length co) ((blk l0 a1).take j ++ l0.drop j)) := ⟨by rw [hl8.out]; exact HO.out⟩
              obtain ⟨hxo, hfo⟩ := Kd.R_celln 0 HO1.out (j : Int) (by omega) (by rw [hl8.out]; omega)
              have HP := Aside0.mk (Kd.R_putg HO1.out (j : Int) (rd (blk l0 a1) (j : Int)))
              rw [hl8.out, Int.toNat_natCast, set_over8 _ _ j HB8.out H8.out hlt] at HP
              clear HO1 hl8
              simp only [Int.toNat_natCast, Nat.add_zero] at hxo hfo
              go_wp2_with fail
              go_roundg (gk - 1)
              case measure => omega
              case rel => exact ⟨j + 1, by push_cast; rfl, by omega, by omega, ⟨(heap_setCell_other _ _ _ _ (Ne.symm hne)).trans HG.out⟩, ⟨HP.out.1⟩, ⟨HB.out.setCell GB.out _⟩⟩
            · have hj8 : j = 8 := by omega
              subst hj8
              have HO2 : Aside0 (Kd.R (Kd.int .i64) 3 wr w.heap.size (fun k => k ≠ g) (.slice (some ⟨go, 0, none⟩) 8 co) (blk l0 a1)) := ⟨by
                have h1 := HO.out
                rwa [List.take_of_length_le (by rw [HB8.out]; exact Nat.le_refl _), List.drop_of_length_le (by rw [H8.out]; exact Nat.le_refl _), List.append_nil] at h1⟩
              clear HO
              go_wp2_with fail
              go_ret
              exact ⟨_, rfl, by rw [E.out]; exact Kd.R_mono HO2.out (fun _ _ => trivial), HB.out⟩
    · have e : Aside0 (shaBlk l0 a1 = l0) := ⟨by unfold shaBlk; rw [if_neg (fun h => c64 h.2.1)]⟩
      go_wp2
      go_ret
      exact ⟨_, rfl, by rw [e.out]; exact HO.out, HB.out⟩
  · have e : Aside0 (shaBlk l0 a1 = l0) := ⟨by unfold shaBlk; rw [if_neg (fun h => c8 h.1)]⟩
    go_wp2
    go_ret
    exact ⟨_, rfl, by rw [e.out]; exact HO.out, HB.out⟩
end Go.Proofs.Ytimfjedhcokohaa.ShaB
