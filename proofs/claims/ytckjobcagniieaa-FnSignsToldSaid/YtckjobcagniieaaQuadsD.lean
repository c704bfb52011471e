/-
The program's QuadsOf comes to a plain function of the digest.
Conditions: the digest has 32 bytes.
-/
import Derived.Test.YtckjobcagniieaaDig
import Derived.Test.YtckjobcagniieaaVRepsOne
namespace Go.Proofs.Ytckjobcagniieaa.Quads
open Go.RowKit Go.Proofs.YtckjobcagniieaaW.PrintWords Go.Proofs.YtckjobcagniieaaW.PrintLast Go.Proofs.YtckjobcagniieaaW.PrintMore Go.Proofs.Ytckjobcagniieaa.Blk Go.Proofs.Ytckjobcagniieaa.Pad Go.Proofs.Ytckjobcagniieaa.Dig
set_option linter.unusedVariables false
set_option linter.unusedSimpArgs false
theorem take_rd (l : List Int) (i : Nat) (h : i < l.length) : l.take i ++ [rd l (i : Int)] = l.take (i + 1) := by
  rw [List.take_succ_eq_append_getElem h]
  simp [rd, List.getD_eq_getElem?_getD, h]
theorem info_i64 : (Try.prog.info? 3).map (fun i => (i.zero, i.size, i.bytes)) = some (some (.int .i64 0), 1, 8) := by kernel_rfl
theorem R_own {α : Type} {d : Kd α} {e base : Nat} {ok : Nat → Prop} {w : World} {v : Value} {xs : List α} (h : d.R e w base ok v xs) : ∀ k, v.ownBlock = some k → ok k := h.1
def quadL (b : Int) : List Int := [Go.bits .and .i64 (b / 64) 3, Go.bits .and .i64 (b / 16) 3, Go.bits .and .i64 (b / 4) 3, Go.bits .and .i64 b 3]
def quads8 (d : ByteArray) : List Int := quadL (bt d 0) ++ quadL (bt d 1)
def missOf (q : List Int) (n : Nat) : Int := (q.take n).foldl (fun m x => wrap64 (m - x)) 24
def quads (d : ByteArray) : List Int := quads8 d ++ [Go.bits .and .i64 (missOf (quads8 d) 8 / 16) 3, Go.bits .and .i64 (missOf (quads8 d) 8 / 4) 3, Go.bits .and .i64 (missOf (quads8 d) 8) 3]
theorem missOf_succ (q : List Int) (n : Nat) (h : n < q.length) : missOf q (n + 1) = wrap64 (missOf q n - rd q (n : Int)) := by
  unfold missOf
  rw [← take_rd q n h, List.foldl_append]
  rfl
theorem quads8_rd (d : ByteArray) (i j : Nat) (hi : i < 2) (hj : j < 4) : rd (quads8 d) ((4 * i + j : Nat) : Int) = rd (quadL (bt d (i : Int))) (j : Int) := by
  obtain rfl | rfl : i = 0 ∨ i = 1 := by omega
  all_goals (obtain rfl | rfl | rfl | rfl : j = 0 ∨ j = 1 ∨ j = 2 ∨ j = 3 := by omega)
  all_goals rfl
set_option maxHeartbeats 8000000 in
set_option maxRecDepth 100000 in
theorem quads_calls (t d : ByteArray) (hd : d.size = 32) (hdig : ∀ W : World, Calls Try.prog 42 #[.string t] W fun e w' => e = .returned (.string d) ∧ Below W.heap.size W w') (w : World) :
    Calls Try.prog 12 #[.string t] w fun e w' => ∃ v : Value, e = .returned v ∧ Kd.R (Kd.int .i64) 3 w' w.heap.size (fun _ => True) v (quads d) ∧ Below w.heap.size w w' := by
  have HD := Aside0.mk hdig
  have HS := Aside0.mk hd
  clear hdig hd
  go_enter Try.func12, Try.ntmps12
  go_wp2_with fail
  refine (HD.out _).mono ?_
  rintro e w1 ⟨rfl, hb1⟩
  have HB1 := Aside0.mk hb1
  clear hb1 HD
  go_upto_region 4 with ((with_reducible refine gate_dst (N := 12) rfl ?_); (try (refine gate_guard (by rfl) ?_; dsimp only)); refine Kd.R_lit (Kd.int .i64) w.heap.size 3 ?hg (N := 12) ?hd (xs := ([] : List Int)) (inner := []) (ok := fun _ => True) (okp := fun _ => False) ?hr ?hp (fun _ hk => hk.elim) ?hf HB1.out HB1.out.size (by simp) ?_; (case hd => rfl); (case hg => rfl); (case hr => first | (go_simp; done) | (go_simp; rfl)); (case hp => exact (Reps.none _ _)); (case hf => trivial); intro v w3 hR hB hG hN)
  have HR := Aside0.mk (Kd.R_below (Kd.R_mono (Kd.R_elderB hR w3.heap.size (Nat.le_refl _)) (fun _ hk => hk.2)) (below_conv w3 (d.extract 0 2)))
  have HB := Aside0.mk (below_then hB hB.size (below_conv w3 (d.extract 0 2)))
  have hs2 : (d.extract 0 2).size = 2 := by rw [ByteArray.size_extract, HS.out]; rfl
  have HC := Aside0.mk (BR.conv w3 (d.extract 0 2) (by omega))
  have hge := hB.size
  have HS2 := Aside0.mk hs2
  have hd32 : (d.size : Int) = 32 := by rw [HS.out]; rfl
  have cv := Go.Lib.run_convert_string_bytes (P := Try.prog) w3 9 22 5 (d.extract 0 2) Try.underlying9 Try.underlying22 Try.underlying5
  clear hR hB hG hN HB1
  go_wp2_with fail
  clear cv hd32
  generalize grownCap w3 (d.extract 0 2).size 0 5 = cap at HC ⊢
  generalize Lib.bytesWorld w3 5 (d.extract 0 2) = w4 at HR HB HC ⊢
  generalize w3.heap.size = g at HR HC hge ⊢
  have hb2 : Aside0 (byt (d.extract 0 2) = [bt d 0, bt d 1]) := ⟨by
    have e : byt (d.extract 0 2) = (bytesOf d).take 2 := by
      unfold byt bytesOf
      rw [ByteArray.data_extract]
      simp [List.map_take, List.extract]
    rw [e]
    have l : (bytesOf d).length = 32 := by rw [bytesOf_length, HS.out]
    have a0 : rd (bytesOf d) 0 = bt d 0 := rd_bytesOf d 0
    have a1 : rd (bytesOf d) 1 = bt d 1 := rd_bytesOf d 1
    have t1 := take_rd (bytesOf d) 0 (by omega)
    have t2 := take_rd (bytesOf d) 1 (by omega)
    rw [← t2, ← t1]
    show _ ++ [rd (bytesOf d) 0] ++ [rd (bytesOf d) 1] = _
    rw [a0, a1]
    rfl⟩
  have hb4 : Aside0 (∀ (W : World), W.heap[g]? = w4.heap[g]? → ∀ i : Nat, i < 2 → W.cell? ⟨g, i, none⟩ = some (.int .u8 (bt d (i : Int)))) := ⟨fun W hW i hi => by
    have h1 := HC.out.mono hW
    rw [hb2.out] at h1
    refine h1.cell i _ ?_
    obtain rfl | rfl : i = 0 ∨ i = 1 := by omega
    · rfl
    · rfl⟩
  have HG := Aside0.mk (rfl : w4.heap[g]? = w4.heap[g]?)
  have hgl : Aside0 (g < w4.heap.size) := ⟨HC.out.lt⟩
  have hq8 : Aside0 ((quads8 d).length = 8) := ⟨rfl⟩
  clear hb2 HC
  (try rw [HS2.out])
  go_loopg [4, 5, 17] 6 (fun kq v4 v5 v17 w' => ∃ (i : Nat), v17 = .int .i64 (i : Int) ∧ i + kq = 6 ∧ i ≤ 2 ∧ v5 = .int .i64 (missOf (quads8 d) (4 * i)) ∧ Aside0 (Kd.R (Kd.int .i64) 3 w' w.heap.size (fun k => k ≠ g) v4 ((quads8 d).take (4 * i))) ∧ Aside0 (Below w.heap.size w w') ∧ Aside0 (w'.heap[g]? = w4.heap[g]?) ∧ Aside0 (g < w'.heap.size))
  case atStart => exact ⟨0, rfl, by omega, by omega, rfl, HR, HB, HG, hgl⟩
  case round =>
    clear HR HB HG
    obtain ⟨i, rfl, hk, hi, rfl, HR, HB, HG, HL⟩ := hrel
    by_cases hlt : i < 2
    · have hcell := hb4.out wr HG.out i hlt
      have b0 := (bt_range d (i : Int)).1
      have b1 := (bt_range d (i : Int)).2
      go_wp2_with fail
      clear hcell
      rw [decide_eq_true (show (i : Int) < 2 by omega)]
      obtain ⟨gko, rfl⟩ : ∃ n, gk = n + 1 := ⟨gk - 1, by omega⟩
      go_loopg [4, 5, 8] 8 (fun kq v4 v5 v8 w' => ∃ (j : Nat), v8 = .int .i64 (6 - 2 * (j : Int)) ∧ j + kq = 8 ∧ j ≤ 4 ∧ v5 = .int .i64 (missOf (quads8 d) (4 * i + j)) ∧ Aside0 (Kd.R (Kd.int .i64) 3 w' w.heap.size (fun k => k ≠ g) v4 ((quads8 d).take (4 * i + j))) ∧ Aside0 (Below w.heap.size w w') ∧ Aside0 (w'.heap[g]? = w4.heap[g]?) ∧ Aside0 (g < w'.heap.size))
      case atStart => exact ⟨0, rfl, by omega, by omega, rfl, HR, HB, HG, HL⟩
      case round =>
        clear HR HB HG HL
        obtain ⟨j, rfl, hk2, hj, rfl, HR, HB, HG, HL⟩ := hrel
        have hsl : Aside0 (w.heap.size ≤ wr.heap.size) := ⟨HB.out.size⟩
        by_cases hlt2 : j < 4
        · obtain rfl | rfl | rfl | rfl : j = 0 ∨ j = 1 ∨ j = 2 ∨ j = 3 := by omega
          · have hq : Aside0 (rd (quads8 d) ((4 * i : Nat) : Int) = (Go.bits .and .i64 (bt d (i : Int) / 64) 3)) := ⟨quads8_rd d i 0 hlt (by omega)⟩
            have hm0 : Aside0 (missOf (quads8 d) (4 * i + 1) = wrap64 (missOf (quads8 d) (4 * i) - (Go.bits .and .i64 (bt d (i : Int) / 64) 3))) := ⟨(missOf_succ _ _ (by rw [hq8.out]; omega)).trans (by rw [hq.out])⟩
            go_wp2_with ((with_reducible refine gate_builtin (b := .append) (xs := #[.tmp 30, .tmp 32]) rfl ?_); at_builtin; refine Kd.R_append (Kd.int .i64) (w0 := w) w.heap.size rfl (.tmp 30) (.tmp 32) 24 3 (.int .i64 0) 8 rfl Try.underlying24 info_i64 rfl (by decide) (by decide) u4 ((quads8 d).take (4 * i)) (Go.bits .and .i64 (bt d (i : Int) / 64) 3) [.int .i64 (Go.bits .and .i64 (bt d (i : Int) / 64) 3)] (fun k => k ≠ g) (fun _ => False) rfl rfl ?aP (fun _ hk => hk.elim) (fun k hk => Nat.ne_of_gt (Nat.lt_of_lt_of_le HL.out hk)) HR.out HB.out hsl.out ?aL ?_; (case aP => exact rfl); (case aL => rw [List.length_take]; omega); intro v5' w5 ho hb hgr hat)
            go_roundg (gk - 1)
            case measure => omega
            case rel => exact ⟨1, by rfl, by omega, by omega, congrArg (Value.int IntKind.i64) hm0.out.symm, ⟨by rw [← hq.out, take_rd _ _ (by rw [hq8.out]; omega)] at ho; exact ho⟩, ⟨hb⟩, ⟨(hgr.block g HL.out (fun he => R_own HR.out g he.symm rfl)).trans HG.out⟩, ⟨Nat.lt_of_lt_of_le HL.out hgr.size⟩⟩
          · have hq : Aside0 (rd (quads8 d) ((4 * i + 1 : Nat) : Int) = (Go.bits .and .i64 (bt d (i : Int) / 16) 3)) := ⟨quads8_rd d i 1 hlt (by omega)⟩
            have hm1 : Aside0 (missOf (quads8 d) (4 * i + 1 + 1) = wrap64 (missOf (quads8 d) (4 * i + 1) - (Go.bits .and .i64 (bt d (i : Int) / 16) 3))) := ⟨(missOf_succ _ _ (by rw [hq8.out]; omega)).trans (by rw [hq.out])⟩
            go_wp2_with ((with_reducible refine gate_builtin (b := .append) (xs := #[.tmp 30, .tmp 32]) rfl ?_); at_builtin; refine Kd.R_append (Kd.int .i64) (w0 := w) w.heap.size rfl (.tmp 30) (.tmp 32) 24 3 (.int .i64 0) 8 rfl Try.underlying24 info_i64 rfl (by decide) (by decide) u4 ((quads8 d).take (4 * i + 1)) (Go.bits .and .i64 (bt d (i : Int) / 16) 3) [.int .i64 (Go.bits .and .i64 (bt d (i : Int) / 16) 3)] (fun k => k ≠ g) (fun _ => False) rfl rfl ?aP (fun _ hk => hk.elim) (fun k hk => Nat.ne_of_gt (Nat.lt_of_lt_of_le HL.out hk)) HR.out HB.out hsl.out ?aL ?_; (case aP => exact rfl); (case aL => rw [List.length_take]; omega); intro v5' w5 ho hb hgr hat)
            go_roundg (gk - 1)
            case measure => omega
            case rel => exact ⟨2, by rfl, by omega, by omega, congrArg (Value.int IntKind.i64) hm1.out.symm, ⟨by rw [← hq.out, take_rd _ _ (by rw [hq8.out]; omega)] at ho; exact ho⟩, ⟨hb⟩, ⟨(hgr.block g HL.out (fun he => R_own HR.out g he.symm rfl)).trans HG.out⟩, ⟨Nat.lt_of_lt_of_le HL.out hgr.size⟩⟩
          · have hq : Aside0 (rd (quads8 d) ((4 * i + 2 : Nat) : Int) = (Go.bits .and .i64 (bt d (i : Int) / 4) 3)) := ⟨quads8_rd d i 2 hlt (by omega)⟩
            have hm2 : Aside0 (missOf (quads8 d) (4 * i + 2 + 1) = wrap64 (missOf (quads8 d) (4 * i + 2) - (Go.bits .and .i64 (bt d (i : Int) / 4) 3))) := ⟨(missOf_succ _ _ (by rw [hq8.out]; omega)).trans (by rw [hq.out])⟩
            go_wp2_with ((with_reducible refine gate_builtin (b := .append) (xs := #[.tmp 30, .tmp 32]) rfl ?_); at_builtin; refine Kd.R_append (Kd.int .i64) (w0 := w) w.heap.size rfl (.tmp 30) (.tmp 32) 24 3 (.int .i64 0) 8 rfl Try.underlying24 info_i64 rfl (by decide) (by decide) u4 ((quads8 d).take (4 * i + 2)) (Go.bits .and .i64 (bt d (i : Int) / 4) 3) [.int .i64 (Go.bits .and .i64 (bt d (i : Int) / 4) 3)] (fun k => k ≠ g) (fun _ => False) rfl rfl ?aP (fun _ hk => hk.elim) (fun k hk => Nat.ne_of_gt (Nat.lt_of_lt_of_le HL.out hk)) HR.out HB.out hsl.out ?aL ?_; (case aP => exact rfl); (case aL => rw [List.length_take]; omega); intro v5' w5 ho hb hgr hat)
            go_roundg (gk - 1)
            case measure => omega
            case rel => exact ⟨3, by rfl, by omega, by omega, congrArg (Value.int IntKind.i64) hm2.out.symm, ⟨by rw [← hq.out, take_rd _ _ (by rw [hq8.out]; omega)] at ho; exact ho⟩, ⟨hb⟩, ⟨(hgr.block g HL.out (fun he => R_own HR.out g he.symm rfl)).trans HG.out⟩, ⟨Nat.lt_of_lt_of_le HL.out hgr.size⟩⟩
          · have hq : Aside0 (rd (quads8 d) ((4 * i + 3 : Nat) : Int) = (Go.bits .and .i64 (bt d (i : Int)) 3)) := ⟨quads8_rd d i 3 hlt (by omega)⟩
            have hm3 : Aside0 (missOf (quads8 d) (4 * i + 3 + 1) = wrap64 (missOf (quads8 d) (4 * i + 3) - (Go.bits .and .i64 (bt d (i : Int)) 3))) := ⟨(missOf_succ _ _ (by rw [hq8.out]; omega)).trans (by rw [hq.out])⟩
            go_wp2_with ((with_reducible refine gate_builtin (b := .append) (xs := #[.tmp 30, .tmp 32]) rfl ?_); at_builtin; refine Kd.R_append (Kd.int .i64) (w0 := w) w.heap.size rfl (.tmp 30) (.tmp 32) 24 3 (.int .i64 0) 8 rfl Try.underlying24 info_i64 rfl (by decide) (by decide) u4 ((quads8 d).take (4 * i + 3)) (Go.bits .and .i64 (bt d (i : Int)) 3) [.int .i64 (Go.bits .and .i64 (bt d (i : Int)) 3)] (fun k => k ≠ g) (fun _ => False) rfl rfl ?aP (fun _ hk => hk.elim) (fun k hk => Nat.ne_of_gt (Nat.lt_of_lt_of_le HL.out hk)) HR.out HB.out hsl.out ?aL ?_; (case aP => exact rfl); (case aL => rw [List.length_take]; omega); intro v5' w5 ho hb hgr hat)
            go_roundg (gk - 1)
            case measure => omega
            case rel => exact ⟨4, by rfl, by omega, by omega, congrArg (Value.int IntKind.i64) hm3.out.symm, ⟨by rw [← hq.out, take_rd _ _ (by rw [hq8.out]; omega)] at ho; exact ho⟩, ⟨hb⟩, ⟨(hgr.block g HL.out (fun he => R_own HR.out g he.symm rfl)).trans HG.out⟩, ⟨Nat.lt_of_lt_of_le HL.out hgr.size⟩⟩
        · have hj4 : j = 4 := by omega
          subst hj4
          go_wp2_with fail
          go_roundg gko
          case measure => omega
          case rel => exact ⟨i + 1, by push_cast; rfl, by omega, by omega, by rw [show 4 * (i + 1) = 4 * i + 4 by omega], ⟨by rw [show 4 * (i + 1) = 4 * i + 4 by omega]; exact HR.out⟩, HB, HG, HL⟩
    · have hi2 : i = 2 := by omega
      subst hi2
      have hsl : Aside0 (w.heap.size ≤ wr.heap.size) := ⟨HB.out.size⟩
      rw [show 4 * 2 = 8 from rfl]
      have HR8 : Aside0 (Kd.R (Kd.int .i64) 3 wr w.heap.size (fun _ => True) u4 (quads8 d)) := ⟨Kd.R_mono (by have h1 := HR.out; rwa [List.take_of_length_le (by rw [hq8.out]; exact Nat.le_refl _)] at h1) (fun _ _ => trivial)⟩
      clear HR HG hi hlt
      go_wp2_with (first
        | ((with_reducible refine gate_dst (N := 47) rfl ?_); (try (refine gate_guard (by rfl) ?_; dsimp only)); refine Kd.R_lit (Kd.int .i64) w.heap.size 3 ?hg (N := 47) ?hd (xs := ([(Go.bits .and .i64 (missOf (quads8 d) 8 / 16) 3), (Go.bits .and .i64 (missOf (quads8 d) 8 / 4) 3), (Go.bits .and .i64 (missOf (quads8 d) 8) 3)] : List Int)) (inner := [.int .i64 (Go.bits .and .i64 (missOf (quads8 d) 8 / 16) 3), .int .i64 (Go.bits .and .i64 (missOf (quads8 d) 8 / 4) 3), .int .i64 (Go.bits .and .i64 (missOf (quads8 d) 8) 3)]) (ok := fun _ => True) (okp := fun _ => True) ?hr ?hp (fun _ hk => hk) trivial HB.out hsl.out (by simp) ?_; (case hd => rfl); (case hg => rfl); (case hr => first | (go_simp; done) | (go_simp; rfl)); (case hp => exact (Reps.one (show Kd.M (Kd.int .i64) _ _ _ (Go.bits .and .i64 (missOf (quads8 d) 8 / 16) 3) [.int .i64 (Go.bits .and .i64 (missOf (quads8 d) 8 / 16) 3)] from rfl) (Reps.one (show Kd.M (Kd.int .i64) _ _ _ (Go.bits .and .i64 (missOf (quads8 d) 8 / 4) 3) [.int .i64 (Go.bits .and .i64 (missOf (quads8 d) 8 / 4) 3)] from rfl) (Reps.one (show Kd.M (Kd.int .i64) _ _ _ (Go.bits .and .i64 (missOf (quads8 d) 8) 3) [.int .i64 (Go.bits .and .i64 (missOf (quads8 d) 8) 3)] from rfl) (Reps.none _ _))))); intro v47 w47 hR47 hB47 hG47 hN47; have HO8 := Aside0.mk (Kd.R_mono (Kd.R_move (Kd.R_bound HR8.out) (fun k hk => hG47.block k hk.2.2.1 (by simp))) (fun _ _ => trivial) : Kd.R (Kd.int .i64) 3 w47 w.heap.size (fun _ => True) u4 (quads8 d)); obtain ⟨g47, c47, e47, gb47, gl47, cl47, HG47b⟩ := Kd.R_form hR47 (by simp); cases e47; have HB47 := Aside0.mk hB47; have HR47 := Aside0.mk hR47; clear hB47 hR47 hG47 hN47 gb47 gl47 cl47 HG47b)
        | ((with_reducible refine gate_builtin (b := .append) (xs := #[.tmp 38, .tmp 47]) rfl ?_); at_builtin; refine Kd.R_append_rows (Kd.int .i64) (w0 := w) w.heap.size rfl (.tmp 38) (.tmp 47) 24 3 (.int .i64 0) 8 rfl Try.underlying24 info_i64 rfl (by decide) (by omega) u4 (quads8 d) [(Go.bits .and .i64 (missOf (quads8 d) 8 / 16) 3), (Go.bits .and .i64 (missOf (quads8 d) 8 / 4) 3), (Go.bits .and .i64 (missOf (quads8 d) 8) 3)] _ _ _ (fun _ => True) (fun _ => False) rfl rfl ?aO ?aR (fun _ _ h => h) (fun _ h => h.elim) (fun _ _ => trivial) ?aB ?aS ?aL ?_; (case aR => exact (Kd.R_reads' HR47.out).2.2); (case aB => exact HB47.out); (case aS => exact HB47.out.size); (case aL => rw [hq8.out]; simp); (case aO => exact HO8.out); intro v48 w48 ho48 hb48 hg48 hat48))
      go_ret
      exact ⟨_, rfl, ho48, hb48⟩
end Go.Proofs.Ytckjobcagniieaa.Quads
