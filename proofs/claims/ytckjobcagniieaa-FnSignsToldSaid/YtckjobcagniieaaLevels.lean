/-
The program's levels and the reference's l04Rows come to three rows of four, two and one texts.
Conditions: the texts are those of the leaves and of the pairs, each at most 1000 bytes long.
-/
import Derived.Test.YtckjobcagniieaaQuadsD
import Derived.StillTailTactics
namespace Go.Proofs.Ytckjobcagniieaa.Levels
open Go.RowKit Go.Proofs.YtckjobcagniieaaW.PrintWords Go.Proofs.YtckjobcagniieaaW.PrintLast Go.Proofs.YtckjobcagniieaaW.PrintMore Go.Proofs.Ytckjobcagniieaa.Blk Go.Proofs.Ytckjobcagniieaa.Pad Go.Proofs.Ytckjobcagniieaa.Dig Go.Proofs.Ytckjobcagniieaa.Quads
set_option linter.unusedVariables false
set_option linter.unusedSimpArgs false
theorem info_str : (Try.prog.info? 9).map (fun i => (i.zero, i.size, i.bytes)) = some (some (.string ⟨#[]⟩), 1, 16) := by kernel_rfl
theorem info_row : (Try.prog.info? 27).map (fun i => (i.zero, i.size, i.bytes)) = some (some (.slice none 0 0), 1, 24) := by kernel_rfl
/-- The rows: four, two, one. -/
structure Lv (r : Nat → List ByteArray) : Prop where
  l0 : (r 0).length = 4
  l1 : (r 1).length = 2
  l2 : (r 2).length = 1
  sz : ∀ q, ∀ t ∈ r q, t.size ≤ 1000
def nth (l : List ByteArray) (i : Nat) : ByteArray := l.getD i ByteArray.empty
theorem nth_take (l : List ByteArray) (i : Nat) (h : i < l.length) : l.take i ++ [nth l i] = l.take (i + 1) := by
  rw [List.take_succ_eq_append_getElem h]
  simp [nth, List.getD_eq_getElem?_getD, h]
theorem nth_rd (l : List ByteArray) (i : Nat) : rdOf ByteArray.empty l (i : Int) = nth l i := rfl
theorem Lv.len {r : Nat → List ByteArray} (h : Lv r) (q : Nat) (hq : q < 2) : (r q).length = 2 * (r (q + 1)).length ∧ (r q).length ≤ 4 ∧ 2 ≤ (r q).length := by
  have h0 := h.l0
  have h1 := h.l1
  have h2 := h.l2
  obtain rfl | rfl : q = 0 ∨ q = 1 := by omega
  · show (r 0).length = 2 * (r 1).length ∧ _
    omega
  · show (r 1).length = 2 * (r 2).length ∧ _
    omega
theorem Lv.nsz {r : Nat → List ByteArray} (h : Lv r) (q i : Nat) (hi : i < (r q).length) : (nth (r q) i).size ≤ 1000 := by
  refine h.sz q _ ?_
  simp [nth, List.getD_eq_getElem?_getD, hi]
def rowsTo (r : Nat → List ByteArray) (q : Nat) : List (List ByteArray) := (List.range q).map r
theorem rowsTo_succ (r : Nat → List ByteArray) (q : Nat) : rowsTo r q ++ [r q] = rowsTo r (q + 1) := by
  unfold rowsTo
  rw [List.range_succ, List.map_append]
  rfl
theorem rowsTo_len (r : Nat → List ByteArray) (q : Nat) : (rowsTo r q).length = q := by simp [rowsTo]
theorem w64s' (n : Nat) (h : n ≤ 1000000) : wrap64 ((n : Int) + 1) = (n : Int) + 1 := IntWalk.wrap64_in _ ⟨by omega, by omega⟩
theorem pairs_in (x j n m : Nat) (hx : x = 2 * j) (hn : n = 2 * m) (h4 : n ≤ 4) (hj : j < m) : (0 : Int) ≤ (x : Int) ∧ (x : Int) < (n : Int) ∧ 0 ≤ wrap64 ((x : Int) + 1) ∧ wrap64 ((x : Int) + 1) < (n : Int) ∧ wrap64 ((x : Int) + 1) = ((x + 1 : Nat) : Int) := by
  rw [w64s' x (by omega)]
  omega
theorem pairs_out (x j n m : Nat) (hx : x = 2 * j) (hn : n = 2 * m) (h4 : n ≤ 4) (hj : j = m) : ¬ wrap64 ((x : Int) + 1) < (n : Int) := by
  rw [w64s' x (by omega)]
  omega
theorem no_long1 {a : ByteArray} (h : a.size ≤ 1000) : ¬ 9223372036854775807 < 1 + a.size := by omega
theorem no_long2 {a b : ByteArray} (h : a.size ≤ 1000) (h2 : b.size ≤ 1000) : ¬ 9223372036854775807 < 1 + a.size + b.size := by omega
theorem pairs_lt (x j n m : Nat) (hx : x = 2 * j) (hn : n = 2 * m) (hj : j < m) : x < n ∧ x + 1 < n := by omega
theorem pairs_j (j n m : Nat) (hn : n = 2 * m) (h4 : n ≤ 4) (hj : j < m) : j < 4 := by omega
theorem take_small (l : List ByteArray) (j : Nat) (h : j < 4) : ((l.take j).length + 1) * 16 ≤ 140737488355328 := by
  rw [List.length_take]
  omega
theorem cell_drew {w : World} {a : Addr} {v : Option Value} (h : w.cell? a = v) : w.drew.cell? a = v := h
theorem no_long3 {a b : ByteArray} (h : a.size ≤ 1000) (h2 : b.size ≤ 1000) : ¬ 9223372036854775807 < a.size + b.size := by omega
theorem pairs_outI (x j n m : Nat) (hx : x = 2 * j) (hn : n = 2 * m) (hj : j = m) : ¬ (x : Int) < (n : Int) := by omega
def treeOf (leaf : Nat → Option ByteArray) (cut : ByteArray → ByteArray → Option ByteArray) : Option (List (List ByteArray)) :=
  (leaf 0).bind fun a => (leaf 1).bind fun b => (leaf 2).bind fun c => (leaf 3).bind fun d => (cut a b).bind fun e => (cut c d).bind fun g => (cut e g).bind fun h =>
    if a.size ≤ 1000 ∧ b.size ≤ 1000 ∧ c.size ≤ 1000 ∧ d.size ≤ 1000 ∧ e.size ≤ 1000 ∧ g.size ≤ 1000 ∧ h.size ≤ 1000 then some [[a, b, c, d], [e, g], [h]] else none
theorem treeOf_some {leaf : Nat → Option ByteArray} {cut : ByteArray → ByteArray → Option ByteArray} {x : List (List ByteArray)} : treeOf leaf cut = some x ↔
    ∃ a b c d e g h, leaf 0 = some a ∧ leaf 1 = some b ∧ leaf 2 = some c ∧ leaf 3 = some d ∧ cut a b = some e ∧ cut c d = some g ∧ cut e g = some h ∧
      (a.size ≤ 1000 ∧ b.size ≤ 1000 ∧ c.size ≤ 1000 ∧ d.size ≤ 1000 ∧ e.size ≤ 1000 ∧ g.size ≤ 1000 ∧ h.size ≤ 1000) ∧ x = [[a, b, c, d], [e, g], [h]] := by
  unfold treeOf
  simp only [Option.bind_eq_some_iff]
  constructor
  · rintro ⟨a, ha, b, hb, c, hc, d, hd, e, he, g, hg, h, hh, hx⟩
    split at hx
    · rename_i hs
      injection hx with hx
      exact ⟨a, b, c, d, e, g, h, ha, hb, hc, hd, he, hg, hh, hs, hx.symm⟩
    · cases hx
  · rintro ⟨a, b, c, d, e, g, h, ha, hb, hc, hd, he, hg, hh, hs, rfl⟩
    exact ⟨a, ha, b, hb, c, hc, d, hd, e, he, g, hg, h, hh, by rw [if_pos hs]⟩
theorem treeOf_mono {leaf leaf' : Nat → Option ByteArray} {cut cut' : ByteArray → ByteArray → Option ByteArray} (hl : ∀ i r, leaf i = some r → leaf' i = some r) (hc : ∀ a b r, cut a b = some r → cut' a b = some r) {x : List (List ByteArray)} (h : treeOf leaf cut = some x) : treeOf leaf' cut' = some x := by
  obtain ⟨a, b, c, d, e, g, k, h1, h2, h3, h4, h5, h6, h7, hs, hx⟩ := treeOf_some.1 h
  exact treeOf_some.2 ⟨a, b, c, d, e, g, k, hl _ _ h1, hl _ _ h2, hl _ _ h3, hl _ _ h4, hc _ _ _ h5, hc _ _ _ h6, hc _ _ _ h7, hs, hx⟩
theorem treeOf_open {leaf : Nat → Option ByteArray} {cut : ByteArray → ByteArray → Option ByteArray} {x : List (List ByteArray)} (h : treeOf leaf cut = some x) :
    ∃ r : Nat → List ByteArray, Lv r ∧ x = rowsTo r 3 ∧ (∀ i, i < 4 → leaf i = some (nth (r 0) i)) ∧ (∀ q i, q < 2 → i < (r (q + 1)).length → cut (nth (r q) (2 * i)) (nth (r q) (2 * i + 1)) = some (nth (r (q + 1)) i)) := by
  obtain ⟨a, b, c, d, e, g, k, h1, h2, h3, h4, h5, h6, h7, ⟨s1, s2, s3, s4, s5, s6, s7⟩, hx⟩ := treeOf_some.1 h
  refine ⟨fun q => match q with | 0 => [a, b, c, d] | 1 => [e, g] | 2 => [k] | _ => [], ⟨rfl, rfl, rfl, ?_⟩, hx, ?_, ?_⟩
  · intro q t ht
    match q, ht with
    | 0, ht =>
      simp only [List.mem_cons, List.not_mem_nil, or_false] at ht
      rcases ht with rfl | rfl | rfl | rfl <;> assumption
    | 1, ht =>
      simp only [List.mem_cons, List.not_mem_nil, or_false] at ht
      rcases ht with rfl | rfl <;> assumption
    | 2, ht =>
      simp only [List.mem_cons, List.not_mem_nil, or_false] at ht
      subst ht; assumption
    | q + 3, ht => simp at ht
  · intro i hi
    obtain rfl | rfl | rfl | rfl : i = 0 ∨ i = 1 ∨ i = 2 ∨ i = 3 := by omega
    · exact h1
    · exact h2
    · exact h3
    · exact h4
  · intro q i hq hi
    obtain rfl | rfl : q = 0 ∨ q = 1 := by omega
    · have hi2 : i < 2 := hi
      obtain rfl | rfl : i = 0 ∨ i = 1 := by omega
      · exact h5
      · exact h6
    · have hi2 : i < 1 := hi
      obtain rfl : i = 0 := by omega
      exact h7
theorem one_rep {α : Type} {M : Nat → α → List Value → Prop} {p : α} {v : Value} (h : M 0 p [v]) : ∀ j x, [p][j]? = some x → M j x (([v].drop (j * 1)).take 1) := by
  intro j x hj
  cases j with
  | zero =>
    simp only [List.getElem?_cons_zero, Option.some.injEq] at hj
    subst hj
    exact h
  | succ j => simp at hj
abbrev RT (w : World) (base : Nat) (ok : Nat → Prop) (v : Value) (l : List ByteArray) : Prop := Kd.R Kd.string 9 w base ok v l
abbrev RR (w : World) (base : Nat) (ok : Nat → Prop) (v : Value) (l : List (List ByteArray)) : Prop := Kd.S (Kd.slice 9 Kd.string) 27 w base ok v l
theorem rt_types : ∀ q, q ∈ 9 :: Kd.string.E → q ≠ 27 := by
  intro q hq
  rcases List.mem_cons.1 hq with rfl | h
  · decide
  · cases h
theorem pairs_next (x j m : Nat) {n : Nat} (hx : x = 2 * j) (hn : n = 2 * m) (h4 : n ≤ 4) (hj : j < m) : wrap64 ((x : Int) + 2) = ((x + 2 : Nat) : Int) := by
  have : wrap64 ((x : Int) + 2) = (x : Int) + 2 := IntWalk.wrap64_in _ ⟨by omega, by omega⟩
  rw [this]
  omega
set_option maxHeartbeats 8000000 in
set_option maxRecDepth 100000 in
theorem rows_calls (r : Nat → List ByteArray) (hr : Lv r) (s : Int)
    (hleaf : ∀ i : Nat, i < 4 → ∀ W : World, Calls Try.prog 19 #[.int .i64 s, .int .i64 (i : Int)] W fun e w' => e = .returned (.string (nth (r 0) i)) ∧ Below W.heap.size W w')
    (hcut : ∀ q i : Nat, q < 2 → i < (r (q + 1)).length → ∀ W : World, Calls Try.prog 43 #[.string ((⟨#[110]⟩ ++ nth (r q) (2 * i)) ++ nth (r q) (2 * i + 1))] W fun e w' => e = .returned (.string (nth (r (q + 1)) i)) ∧ Below W.heap.size W w') (w : World) :
    Calls Try.prog 47 #[.int .i64 s] w fun e w' => ∃ v : Value, e = .returned v ∧ RR w' w.heap.size (fun _ => True) v (rowsTo r 3) ∧ Below w.heap.size w w' := by
  have HLV := Aside0.mk hr
  have HLF := Aside0.mk hleaf
  have HCT := Aside0.mk hcut
  have hl0 := hr.l0
  have HL0 := Aside0.mk hl0
  clear hr hleaf hcut hl0
  go_enter Try.func47, Try.ntmps47
  go_upto_region 2 with ((with_reducible refine gate_dst (N := 8) rfl ?_); (try (refine gate_guard (by rfl) ?_; dsimp only)); refine Kd.R_lit Kd.string w.heap.size 9 ?hg (N := 8) ?hd (xs := ([] : List ByteArray)) (inner := []) (ok := fun _ => True) (okp := fun _ => False) ?hr ?hp (fun _ hk => hk.elim) ?hf (Below.refl _ _) (Nat.le_refl _) (by simp) ?_; (case hd => rfl); (case hg => rfl); (case hr => first | (go_simp; done) | (go_simp; rfl)); (case hp => exact (Reps.none _ _)); (case hf => trivial); intro v w1 hR hB hG hN)
  have HR := Aside0.mk hR
  have HB := Aside0.mk hB
  clear hR hB hG hN
  go_wp2_with fail
  go_loopg [3, 4] 6 (fun kq v3 v4 w' => ∃ (i : Nat), v4 = .int .i64 (i : Int) ∧ i + kq = 6 ∧ i ≤ 4 ∧ Aside0 (RT w' w.heap.size (fun _ => True) v3 ((r 0).take i)) ∧ Aside0 (Below w.heap.size w w'))
  case atStart => exact ⟨0, rfl, by omega, by omega, HR, HB⟩
  case round =>
    clear HR HB
    obtain ⟨i, rfl, hk, hi, HR, HB⟩ := hrel
    have hsl : Aside0 (w.heap.size ≤ wr.heap.size) := ⟨HB.out.size⟩
    by_cases hlt : i < 4
    · have hcall := HLF.out i hlt
      go_wp2_with fail
      refine (hcall wr).mono ?_
      rintro e w2 ⟨rfl, hb2⟩
      have HR2 := Aside0.mk (Kd.R_below HR.out hb2)
      have HB2 := Aside0.mk (below_then HB.out hsl.out hb2)
      have hsl2 : Aside0 (w.heap.size ≤ w2.heap.size) := ⟨HB2.out.size⟩
      clear hcall hb2
      go_wp2_with ((with_reducible refine gate_builtin (b := .append) (xs := #[.tmp 13, .tmp 17]) rfl ?_); at_builtin; refine Kd.R_append Kd.string (w0 := w) w.heap.size rfl (.tmp 13) (.tmp 17) 27 9 (.string ⟨#[]⟩) 16 rfl Try.underlying27 info_str rfl (by decide) (by decide) u3 ((r 0).take i) (nth (r 0) i) [.string (nth (r 0) i)] (fun _ => True) (fun _ => False) rfl rfl ?aP (fun _ hk => hk.elim) (fun k hk => trivial) HR2.out HB2.out hsl2.out ?aL ?_; (case aP => exact rfl); (case aL => rw [List.length_take]; omega); intro v5' w5 ho hb hgr hat)
      go_roundg (gk - 1)
      case measure => omega
      case rel => exact ⟨i + 1, by push_cast; rfl, by omega, by omega, ⟨by rw [nth_take _ _ (by rw [HL0.out]; exact hlt)] at ho; exact ho⟩, ⟨hb⟩⟩
    · have hi4 : i = 4 := by omega
      subst hi4
      have HR4 : Aside0 (RT wr w.heap.size (fun _ => True) u3 (r 0)) := ⟨by have h1 := HR.out; rwa [List.take_of_length_le (by rw [HL0.out]; exact Nat.le_refl _)] at h1⟩
      obtain ⟨g3, c3, e3, _⟩ := Kd.R_form HR4.out (by rw [HL0.out]; omega)
      subst e3
      clear HR hi hlt
      go_upto_region 7 with ((with_reducible refine gate_dst (N := 20) rfl ?_); (try (refine gate_guard (by rfl) ?_; dsimp only)); refine Kd.S_lits (Kd.slice 9 Kd.string) w.heap.size 27 ?hg (N := 20) ?hd (xs := [r 0]) (inner := [.slice (some ⟨g3, 0, none⟩) (r 0).length c3]) (ok := fun _ => True) (fun j _ => j = 0) ?hr (by rfl) ?hp (fun i j k hi hj => hi.trans hj.symm) (fun _ _ _ => trivial) ?hf HB.out hsl.out (by simp) ?_; (case hd => rfl); (case hg => rfl); (case hr => first | (go_simp; done) | (go_simp; rfl)); (case hp => exact one_rep ⟨_, rfl, Kd.R_mono HR4.out (fun _ _ => rfl)⟩); (case hf => trivial); intro v5 w5 hR hB hG hN)
      have HR5 := Aside0.mk (Kd.R_grown HR4.out hG (fun k _ => by simp))
      have HO5 := Aside0.mk hR
      have HB5 := Aside0.mk hB
      clear hR hB hG hN HR4 HB
      go_wp2_with fail
      go_loopg [3, 5] 6 (fun kq v3 v5 w' => ∃ (q c3 : Nat) (a3 : Addr), v3 = .slice (some a3) (r q).length c3 ∧ q + kq = 6 ∧ q ≤ 2 ∧ Aside0 (RT w' w.heap.size (fun _ => True) (.slice (some a3) (r q).length c3) (r q)) ∧ Aside0 (RR w' w.heap.size (fun _ => True) v5 (rowsTo r (q + 1))) ∧ Aside0 (Below w.heap.size w w'))
      case atStart => exact ⟨0, c3, ⟨g3, 0, none⟩, rfl, by omega, by omega, HR5, HO5, HB5⟩
      case round =>
        clear HR5 HO5 HB5
        obtain ⟨q, c3, a3, rfl, hkq, hq, HR, HO, HB⟩ := hrel
        have hsl : Aside0 (w.heap.size ≤ wr.heap.size) := ⟨HB.out.size⟩
        by_cases hq2 : q < 2
        · obtain ⟨hn1, hn2, hn3⟩ := HLV.out.len q hq2
          have HN1 := Aside0.mk hn1
          have HN2 := Aside0.mk hn2
          clear hn1 hn2
          have HS1 := Aside0.mk (Kd.R_mono (Kd.R_bound HR.out) (fun k hk => hk.2.2.1) : RT wr w.heap.size (fun k => k < wr.heap.size) (.slice (some a3) (r q).length c3) (r q))
          have HS2 := Aside0.mk (Kd.S_mono (Kd.S_bound HO.out) (fun k hk => hk.2.2.1) : RR wr w.heap.size (fun k => k < wr.heap.size) u5 (rowsTo r (q + 1)))
          clear HR HO
          generalize hS : wr.heap.size = S at HS1 HS2 hsl
          have HSE := Aside0.mk hS
          clear hS
          go_upto_region 9 with ((with_reducible refine gate_dst (N := 24) rfl ?_); (try (refine gate_guard (by rfl) ?_; dsimp only)); refine Kd.R_lit Kd.string w.heap.size 9 ?hg (N := 24) ?hd (xs := ([] : List ByteArray)) (inner := []) (ok := fun k => S ≤ k) (okp := fun _ => False) ?hr ?hp (fun _ hk => hk.elim) ?hf HB.out (by rw [HSE.out]; exact hsl.out) (by simp) ?_; (case hd => rfl); (case hg => rfl); (case hr => first | (go_simp; done) | (go_simp; rfl)); (case hp => exact (Reps.none _ _)); (case hf => exact Nat.le_of_eq HSE.out.symm); intro v6 w6 hR hB hG hN)
          have HN6 := Aside0.mk hR
          have HB6 := Aside0.mk hB
          have HT6 := Aside0.mk (Kd.R_grown HS1.out hG (fun k _ => by simp))
          have HO6 := Aside0.mk (Kd.S_grown HS2.out hG (fun k _ => by simp))
          have HS6 : Aside0 (S ≤ w6.heap.size) := ⟨by have := hG.size; rw [HSE.out] at this; exact this⟩
          clear hR hB hG hN HS1 HS2 HB HSE
          go_wp2_with fail
          obtain ⟨gko, rfl⟩ : ∃ n, gk = n + 1 := ⟨gk - 1, by omega⟩
          go_loopg [6, 7] 6 (fun kq v6 v7 w' => ∃ (j x : Nat), v7 = .int .i64 (x : Int) ∧ j + kq = 6 ∧ j ≤ (r (q + 1)).length ∧ x = 2 * j ∧ Aside0 (RT w' w.heap.size (fun k => S ≤ k) v6 ((r (q + 1)).take j)) ∧ Aside0 (RT w' w.heap.size (fun k => k < S) (.slice (some a3) (r q).length c3) (r q)) ∧ Aside0 (RR w' w.heap.size (fun k => k < S) u5 (rowsTo r (q + 1))) ∧ Aside0 (Below w.heap.size w w') ∧ Aside0 (S ≤ w'.heap.size))
          case atStart => exact ⟨0, 0, rfl, by omega, by omega, rfl, HN6, HT6, HO6, HB6, HS6⟩
          case round =>
            clear HN6 HT6 HO6 HB6 HS6
            obtain ⟨j, x, rfl, hk2, hj, hx, HN, HT, HO, HB, HS⟩ := hrel
            have HX := Aside0.mk hx
            clear hx
            have hC := (Kd.R_reads' HT.out).2.2
            by_cases hlt2 : j < (r (q + 1)).length
            · obtain ⟨p1, p2, p3, p4, p5⟩ := pairs_in x j _ _ HX.out HN1.out HN2.out hlt2
              obtain ⟨ad1, e1, hx1⟩ := Kd.at_string hC (x : Int) p1 p2
              cases e1
              obtain ⟨ad2, e2, hx2⟩ := Kd.at_string hC (wrap64 ((x : Int) + 1)) p3 p4
              cases e2
              have hcall := HCT.out q j hq2 hlt2
              rw [← HX.out, ← nth_rd (r q) x, ← nth_rd (r q) (x + 1), ← p5] at hcall
              have z1 : ¬ 9223372036854775807 < 1 + (rdOf ByteArray.empty (r q) (x : Int)).size := by
                rw [nth_rd]
                exact no_long1 (HLV.out.nsz q x (pairs_lt x j _ _ HX.out HN1.out hlt2).1)
              have z2 : ¬ 9223372036854775807 < 1 + (rdOf ByteArray.empty (r q) (x : Int)).size + (rdOf ByteArray.empty (r q) (wrap64 ((x : Int) + 1))).size := by
                rw [p5, nth_rd, nth_rd]
                exact no_long2 (HLV.out.nsz q x (pairs_lt x j _ _ HX.out HN1.out hlt2).1) (HLV.out.nsz q (x + 1) (pairs_lt x j _ _ HX.out HN1.out hlt2).2)
              have hj4 : j < 4 := pairs_j j _ _ HN1.out HN2.out hlt2
              clear hC p5
              obtain ⟨y, hy⟩ : ∃ y, wrap64 ((x : Int) + 1) = y := ⟨_, rfl⟩
              rw [hy] at p3 p4 hx2 z2 hcall
              obtain ⟨tA, hA⟩ : ∃ tA, rdOf ByteArray.empty (r q) (x : Int) = tA := ⟨_, rfl⟩
              obtain ⟨tB, hB⟩ : ∃ tB, rdOf ByteArray.empty (r q) y = tB := ⟨_, rfl⟩
              rw [hA] at hx1 z1 z2 hcall
              rw [hB] at hx2 z2 hcall
              clear hA hB
              go_wp2_with fail
              refine start_ (n := 16) (S := fun w' => w'.cell? (a3.add x) = some (.string tA) ∧ w'.cell? (a3.add y.toNat) = some (.string tB)) (ds := [12, 13, 14]) #[false, false, false, false, false, false, false, false, false, false, false, false, false, false, false, false] (by kernel_rfl) rfl rfl ⟨cell_drew (show wr.cell? (a3.add x) = _ from hx1), cell_drew hx2⟩ (fun hHeld => ?_)
              refine pure_ (i := 0) (N := some 32) (v := ?_) (a' := ?_) #[true, false, false, false, false, false, false, false, false, false, false, false, false, false, false, false] rfl rfl (by kernel_rfl) (fun _ _ _ h => h) (Or.inl ⟨by rfl, ?_⟩) ?_ ?_
              rotate_left
              · intro w'
                go_simp
                with_reducible rfl
              rotate_left
              · simp only [Act.put, List.setIfInBounds_toArray, List.set_cons_zero, List.set_cons_succ, i64_w, i32_w]
                rfl
              refine pure_ (i := 1) (N := some 33) (v := ?_) (a' := ?_) #[true, true, false, false, false, false, false, false, false, false, false, false, false, false, false, false] rfl rfl (by kernel_rfl) (fun _ _ _ h => h) (Or.inl ⟨by rfl, ?_⟩) ?_ ?_
              rotate_left
              · intro w'
                go_simp
                with_reducible rfl
              rotate_left
              · simp only [Act.put, List.setIfInBounds_toArray, List.set_cons_zero, List.set_cons_succ, i64_w, i32_w]
                rfl
              refine pure_ (i := 2) (N := some 34) (v := ?_) (a' := ?_) #[true, true, true, false, false, false, false, false, false, false, false, false, false, false, false, false] rfl rfl (by kernel_rfl) (fun _ _ _ h => h) (Or.inl ⟨by rfl, ?_⟩) ?_ ?_
              rotate_left
              · intro w'
                go_simp
                with_reducible rfl
              rotate_left
              · simp only [Act.put, List.setIfInBounds_toArray, List.set_cons_zero, List.set_cons_succ, i64_w, i32_w]
                rfl
              refine pure_ (i := 3) (N := some 35) (v := ?_) (a' := ?_) #[true, true, true, true, false, false, false, false, false, false, false, false, false, false, false, false] rfl rfl (by kernel_rfl) (fun _ _ _ h => h) (Or.inl ⟨by rfl, ?_⟩) ?_ ?_
              rotate_left
              · intro w'
                go_simp
                with_reducible rfl
              rotate_left
              · simp only [Act.put, List.setIfInBounds_toArray, List.set_cons_zero, List.set_cons_succ, i64_w, i32_w]
                rfl
              refine pure_ (i := 6) (N := some 38) (v := ?_) (a' := ?_) #[true, true, true, true, false, false, true, false, false, false, false, false, false, false, false, false] rfl rfl (by kernel_rfl) (fun _ _ _ h => h) (Or.inl ⟨by rfl, ?_⟩) ?_ ?_
              rotate_left
              · intro w'
                go_simp
                with_reducible rfl
              rotate_left
              · simp only [Act.put, List.setIfInBounds_toArray, List.set_cons_zero, List.set_cons_succ, i64_w, i32_w]
                rfl
              refine pure_ (i := 7) (N := some 39) (v := ?_) (a' := ?_) #[true, true, true, true, false, false, true, true, false, false, false, false, false, false, false, false] rfl rfl (by kernel_rfl) (fun _ _ _ h => h) (Or.inl ⟨by rfl, ?_⟩) ?_ ?_
              rotate_left
              · intro w'
                go_simp
                with_reducible rfl
              rotate_left
              · simp only [Act.put, List.setIfInBounds_toArray, List.set_cons_zero, List.set_cons_succ, i64_w, i32_w]
                rfl
              refine pure_ (i := 8) (N := some 40) (v := ?_) (a' := ?_) #[true, true, true, true, false, false, true, true, true, false, false, false, false, false, false, false] rfl rfl (by kernel_rfl) (fun _ _ _ h => h) (Or.inl ⟨by rfl, ?_⟩) ?_ ?_
              rotate_left
              · intro w'
                go_simp
                with_reducible rfl
              rotate_left
              · simp only [Act.put, List.setIfInBounds_toArray, List.set_cons_zero, List.set_cons_succ, i64_w, i32_w]
                rfl
              refine pure_ (i := 9) (N := some 41) (v := ?_) (a' := ?_) #[true, true, true, true, false, false, true, true, true, true, false, false, false, false, false, false] rfl rfl (by kernel_rfl) (fun _ _ _ h => h) (Or.inl ⟨by rfl, ?_⟩) ?_ ?_
              rotate_left
              · intro w'
                go_simp
                with_reducible rfl
              rotate_left
              · simp only [Act.put, List.setIfInBounds_toArray, List.set_cons_zero, List.set_cons_succ, i64_w, i32_w]
                rfl
              refine take_ (i := 4) (N := some 36) (v := ?_) (a' := ?_) #[true, true, true, true, true, false, true, true, true, true, false, false, false, false, false, false] rfl rfl (by kernel_rfl) (fun _ _ _ h => h) (Or.inl ⟨by rfl, ?_⟩) hHeld ?_ ?_
              rotate_left
              · rintro w' ⟨s0, s1⟩
                go_simp
                with_reducible rfl
              rotate_left
              · simp only [Act.put, List.setIfInBounds_toArray, List.set_cons_zero, List.set_cons_succ, i64_w, i32_w]
                rfl
              refine pure_ (i := 5) (N := some 37) (v := ?_) (a' := ?_) #[true, true, true, true, true, true, true, true, true, true, false, false, false, false, false, false] rfl rfl (by kernel_rfl) (fun _ _ _ h => h) (Or.inl ⟨by rfl, ?_⟩) ?_ ?_
              rotate_left
              · intro w'
                go_simp
                with_reducible rfl
              rotate_left
              · simp only [Act.put, List.setIfInBounds_toArray, List.set_cons_zero, List.set_cons_succ, i64_w, i32_w]
                rfl
              refine take_ (i := 10) (N := some 42) (v := ?_) (a' := ?_) #[true, true, true, true, true, true, true, true, true, true, true, false, false, false, false, false] rfl rfl (by kernel_rfl) (fun _ _ _ h => h) (Or.inl ⟨by rfl, ?_⟩) hHeld ?_ ?_
              rotate_left
              · rintro w' ⟨s0, s1⟩
                go_simp
                with_reducible rfl
              rotate_left
              · simp only [Act.put, List.setIfInBounds_toArray, List.set_cons_zero, List.set_cons_succ, i64_w, i32_w]
                rfl
              refine pure_ (i := 11) (N := some 43) (v := ?_) (a' := ?_) #[true, true, true, true, true, true, true, true, true, true, true, true, false, false, false, false] rfl rfl (by kernel_rfl) (fun _ _ _ h => h) (Or.inl ⟨by rfl, ?_⟩) ?_ ?_
              rotate_left
              · intro w'
                go_simp
                with_reducible rfl
              rotate_left
              · simp only [Act.put, List.setIfInBounds_toArray, List.set_cons_zero, List.set_cons_succ, i64_w, i32_w]
                rfl
              refine last_ (i := 12) (N := some 44) #[true, true, true, true, true, true, true, true, true, true, true, true, true, false, false, false] rfl rfl (by kernel_rfl) (by decide) (fun K hK => ?_)
              refine goes_ Try.func43 (by kernel_rfl) rfl #[.string ((⟨#[110]⟩ ++ tA) ++ tB)] (by rfl) rfl rfl (by simp only [List.map_toArray, List.map_cons, List.map_nil]; rfl) ?_
              with_reducible refine (hcall _).mono ?_
              rintro e w2 ⟨rfl, hb2⟩
              refine ⟨_, rfl, ?_⟩
              have HN7 := Aside0.mk (Kd.R_below (Kd.R_drew HN.out) hb2)
              have HT7 := Aside0.mk (Kd.R_below (Kd.R_drew HT.out) hb2)
              have HO7 := Aside0.mk (Kd.S_below (Kd.S_step (w1 := wr.drew) HO.out (fun _ _ _ => rfl)) hb2)
              have HB7 := Aside0.mk (below_then (below_drew HB.out) (show w.heap.size ≤ wr.drew.heap.size from HB.out.size) hb2)
              have hsl7 : Aside0 (w.heap.size ≤ w2.heap.size) := ⟨HB7.out.size⟩
              have HS7 : Aside0 (S ≤ w2.heap.size) := ⟨Nat.le_trans HS.out hb2.size⟩
              clear hb2
              refine hK.out _ _ ?_
              clear hK K
              refine norm_ (a' := ?_) ?_ ?_
              rotate_left
              · show Act.put _ (some 44) _ = _
                simp only [Act.put, List.setIfInBounds_toArray, List.set_cons_zero, List.set_cons_succ, i64_w, i32_w]
                rfl
              refine last_ (i := 13) (N := some 45) #[true, true, true, true, true, true, true, true, true, true, true, true, true, true, false, false] rfl rfl (by kernel_rfl) (by decide) (fun K hK => ?_)
              refine value_ (w1 := ?_) (v := ?_) (by rfl) rfl ?_ ?_
              rotate_left 2
              · go_simp
                constructor
                · rfl
                · rfl
              refine hK.out _ _ ?_
              clear hK K
              refine norm_ (a' := ?_) ?_ ?_
              rotate_left
              · show Act.put _ (some 45) _ = _
                simp only [Act.put, List.setIfInBounds_toArray, List.set_cons_zero, List.set_cons_succ, i64_w, i32_w]
                rfl
              refine last_ (i := 14) (N := some 46) #[true, true, true, true, true, true, true, true, true, true, true, true, true, true, true, false] rfl rfl (by kernel_rfl) (by decide) (fun K hK => ?_)
              refine Kd.R_append_step Kd.string (w0 := w) w.heap.size (by rfl) (.tmp 32) (.tmp 45) 27 9 (.string ⟨#[]⟩) 16 rfl Try.underlying27 info_str rfl (by decide) (by decide) u6 ((r (q + 1)).take j) (nth (r (q + 1)) j) [.string (nth (r (q + 1)) j)] (fun k => S ≤ k) (fun _ => False) rfl rfl ?aP (fun _ hk => hk.elim) ?aF ?aO ?aB ?aS ?aL ?_
              case aP => exact rfl
              case aF => exact fun k hk => Nat.le_trans HS7.out hk
              case aO => exact HN7.out
              case aB => exact HB7.out
              case aS => exact hsl7.out
              case aL => exact take_small _ _ hj4
              intro v8 w8 ho hb hgr hat
              have HT8 := Aside0.mk (Kd.R_grown HT7.out hgr (fun k hk he => Nat.lt_irrefl _ (Nat.lt_of_lt_of_le hk (R_own HN7.out k he.symm))))
              have HO8 := Aside0.mk (Kd.S_grown HO7.out hgr (fun k hk he => Nat.lt_irrefl _ (Nat.lt_of_lt_of_le hk (R_own HN7.out k he.symm))))
              have HS8 : Aside0 (S ≤ w8.heap.size) := ⟨Nat.le_trans HS7.out hgr.size⟩
              clear HN7 HT7 HO7 HB7 hsl7 HS7 hgr hat
              refine hK.out _ _ ?_
              clear hK K
              refine norm_ (a' := ?_) ?_ ?_
              rotate_left
              · show Act.put _ (some 46) _ = _
                simp only [Act.put, List.setIfInBounds_toArray, List.set_cons_zero, List.set_cons_succ, i64_w, i32_w]
                rfl
              refine pure_ (i := 15) (N := some 6) (v := ?_) (a' := ?_) #[true, true, true, true, true, true, true, true, true, true, true, true, true, true, true, true] rfl rfl (by kernel_rfl) (fun _ _ _ h => h) (Or.inl ⟨by rfl, ?_⟩) ?_ ?_
              rotate_left
              · intro w'
                go_simp
                with_reducible rfl
              rotate_left
              · simp only [Act.put, List.setIfInBounds_toArray, List.set_cons_zero, List.set_cons_succ, i64_w, i32_w]
                rfl
              refine done_ (by kernel_rfl) ?_
              clear p1 p2 p3 p4 z1 z2 hx1 hx2 hy
              go_wp2_with fail
              go_roundg (gk - 1)
              case measure => omega
              case rel => exact ⟨j + 1, x + 2, congrArg (Value.int IntKind.i64) (by rw [pairs_next x j _ HX.out HN1.out HN2.out hlt2]), by omega, by omega, by rw [HX.out]; omega, ⟨by rw [nth_take _ _ hlt2] at ho; exact ho⟩, HT8, HO8, ⟨hb⟩, HS8⟩
            · have hj2 : j = (r (q + 1)).length := by omega
              have hnc : ¬ wrap64 ((x : Int) + 1) < ((r q).length : Int) := pairs_out x j _ _ HX.out HN1.out HN2.out hj2
              have HN6 : Aside0 (RT wr w.heap.size (fun k => S ≤ k) u6 (r (q + 1))) := ⟨by have h1 := HN.out; rwa [List.take_of_length_le (Nat.le_of_eq hj2.symm)] at h1⟩
              obtain ⟨g6, c6, e6, _⟩ := Kd.R_form HN6.out (by have := HN1.out; omega)
              subst e6
              have HO6 := Aside0.mk (Kd.S_mono HO.out (fun k hk => ⟨trivial, Nat.not_le.2 hk⟩) : RR wr w.heap.size (fun k => True ∧ ¬ S ≤ k) u5 (rowsTo r (q + 1)))
              have hown : Aside0 (∀ k, S ≤ k → some k ≠ u5.ownBlock) := ⟨fun k hk he => Nat.lt_irrefl _ (Nat.lt_of_lt_of_le (R_own (Kd.S_R HO.out) k he.symm) hk)⟩
              clear HN HT HO hC
              have hsl0 : Aside0 (w.heap.size ≤ wr.heap.size) := ⟨HB.out.size⟩
              go_wp2_with ((with_reducible refine gate_builtin (b := .append) (xs := #[.tmp 47, .tmp 49]) rfl ?_); at_builtin; refine Kd.S_append (Kd.slice 9 Kd.string) (w0 := w) w.heap.size rfl (.tmp 47) (.tmp 49) 61 27 (.slice none 0 0) 24 rfl Try.underlying61 info_row rfl (by decide) (by decide) u5 (rowsTo r (q + 1)) (r (q + 1)) [.slice (some ⟨g6, 0, none⟩) (r (q + 1)).length c6] (fun _ => True) (fun k => S ≤ k) rfl rfl ?aP (fun k hk => ⟨trivial, hown.out k hk⟩) (fun k hk => trivial) HO6.out HB.out hsl0.out ?aL ?_; (case aP => exact ⟨_, rfl, HN6.out⟩); (case aL => rw [rowsTo_len]; omega); intro v8 w8 ho hb hgr hat)
              clear hnc
              have HR8 := Aside0.mk (Kd.R_mono (Kd.R_over HN6.out (Kd.S_R HO6.out) rt_types hgr) (fun _ _ => trivial) : RT w8 w.heap.size (fun _ => True) (.slice (some ⟨g6, 0, none⟩) (r (q + 1)).length c6) (r (q + 1)))
              go_roundg gko
              case measure => omega
              case rel => exact ⟨q + 1, c6, ⟨g6, 0, none⟩, rfl, by omega, by omega, HR8, ⟨by rw [rowsTo_succ] at ho; exact ho⟩, ⟨hb⟩⟩
        · have hq3 : q = 2 := by omega
          subst hq3
          have hl : (r 2).length = 1 := HLV.out.l2
          go_wp2_with fail
          go_ret
          exact ⟨_, rfl, HO.out, HB.out⟩
set_option maxHeartbeats 8000000 in
set_option maxRecDepth 100000 in
theorem levels_calls (r : Nat → List ByteArray) (hr : Lv r) (s : Int)
    (hleaf : ∀ i : Nat, i < 4 → ∀ W : World, Calls Try.prog 18 #[.int .i64 s, .int .i64 (i : Int)] W fun e w' => e = .returned (.string (nth (r 0) i)) ∧ Below W.heap.size W w')
    (hcut : ∀ q i : Nat, q < 2 → i < (r (q + 1)).length → ∀ W : World, Calls Try.prog 44 #[.int .u8 110, .string (nth (r q) (2 * i) ++ nth (r q) (2 * i + 1))] W fun e w' => e = .returned (.string (nth (r (q + 1)) i)) ∧ Below W.heap.size W w') (w : World) :
    Calls Try.prog 41 #[.int .i64 s] w fun e w' => ∃ v : Value, e = .returned v ∧ RR w' w.heap.size (fun _ => True) v (rowsTo r 3) ∧ Below w.heap.size w w' := by
  have HLV := Aside0.mk hr
  have HLF := Aside0.mk hleaf
  have HCT := Aside0.mk hcut
  have hl0 := hr.l0
  have HL0 := Aside0.mk hl0
  clear hr hleaf hcut hl0
  go_enter Try.func41, Try.ntmps41
  go_upto_region 2 with ((with_reducible refine gate_dst (N := 8) rfl ?_); (try (refine gate_guard (by rfl) ?_; dsimp only)); refine Kd.R_lit Kd.string w.heap.size 9 ?hg (N := 8) ?hd (xs := ([] : List ByteArray)) (inner := []) (ok := fun _ => True) (okp := fun _ => False) ?hr ?hp (fun _ hk => hk.elim) ?hf (Below.refl _ _) (Nat.le_refl _) (by simp) ?_; (case hd => rfl); (case hg => rfl); (case hr => first | (go_simp; done) | (go_simp; rfl)); (case hp => exact (Reps.none _ _)); (case hf => trivial); intro v w1 hR hB hG hN)
  have HR := Aside0.mk hR
  have HB := Aside0.mk hB
  clear hR hB hG hN
  go_wp2_with fail
  go_loopg [3, 9] 6 (fun kq v3 v9 w' => ∃ (i : Nat), v9 = .int .i64 (i : Int) ∧ i + kq = 6 ∧ i ≤ 4 ∧ Aside0 (RT w' w.heap.size (fun _ => True) v3 ((r 0).take i)) ∧ Aside0 (Below w.heap.size w w'))
  case atStart => exact ⟨0, rfl, by omega, by omega, HR, HB⟩
  case round =>
    clear HR HB
    obtain ⟨i, rfl, hk, hi, HR, HB⟩ := hrel
    have hsl : Aside0 (w.heap.size ≤ wr.heap.size) := ⟨HB.out.size⟩
    by_cases hlt : i < 4
    · have hcall := HLF.out i hlt
      go_wp2_with fail
      refine (hcall wr).mono ?_
      rintro e w2 ⟨rfl, hb2⟩
      have HR2 := Aside0.mk (Kd.R_below HR.out hb2)
      have HB2 := Aside0.mk (below_then HB.out hsl.out hb2)
      have hsl2 : Aside0 (w.heap.size ≤ w2.heap.size) := ⟨HB2.out.size⟩
      clear hcall hb2
      go_wp2_with ((with_reducible refine gate_builtin (b := .append) (xs := #[.tmp 12, .tmp 16]) rfl ?_); at_builtin; refine Kd.R_append Kd.string (w0 := w) w.heap.size rfl (.tmp 12) (.tmp 16) 27 9 (.string ⟨#[]⟩) 16 rfl Try.underlying27 info_str rfl (by decide) (by decide) u3 ((r 0).take i) (nth (r 0) i) [.string (nth (r 0) i)] (fun _ => True) (fun _ => False) rfl rfl ?aP (fun _ hk => hk.elim) (fun k hk => trivial) HR2.out HB2.out hsl2.out ?aL ?_; (case aP => exact rfl); (case aL => rw [List.length_take]; omega); intro v5' w5 ho hb hgr hat)
      go_roundg (gk - 1)
      case measure => omega
      case rel => exact ⟨i + 1, by push_cast; rfl, by omega, by omega, ⟨by rw [nth_take _ _ (by rw [HL0.out]; exact hlt)] at ho; exact ho⟩, ⟨hb⟩⟩
    · have hi4 : i = 4 := by omega
      subst hi4
      have HR4 : Aside0 (RT wr w.heap.size (fun _ => True) u3 (r 0)) := ⟨by have h1 := HR.out; rwa [List.take_of_length_le (by rw [HL0.out]; exact Nat.le_refl _)] at h1⟩
      obtain ⟨g3, c3, e3, _⟩ := Kd.R_form HR4.out (by rw [HL0.out]; omega)
      subst e3
      clear HR hi hlt
      go_upto_region 8 with ((with_reducible refine gate_dst (N := 20) rfl ?_); (try (refine gate_guard (by rfl) ?_; dsimp only)); refine Kd.S_lits (Kd.slice 9 Kd.string) w.heap.size 27 ?hg (N := 20) ?hd (xs := [r 0]) (inner := [.slice (some ⟨g3, 0, none⟩) (r 0).length c3]) (ok := fun _ => True) (fun j _ => j = 0) ?hr (by rfl) ?hp (fun i j k hi hj => hi.trans hj.symm) (fun _ _ _ => trivial) ?hf HB.out hsl.out (by simp) ?_; (case hd => rfl); (case hg => rfl); (case hr => first | (go_simp; done) | (go_simp; rfl)); (case hp => exact one_rep ⟨_, rfl, Kd.R_mono HR4.out (fun _ _ => rfl)⟩); (case hf => trivial); intro v5 w5 hR hB hG hN)
      have HR5 := Aside0.mk (Kd.R_grown HR4.out hG (fun k _ => by simp))
      have HO5 := Aside0.mk hR
      have HB5 := Aside0.mk hB
      clear hR hB hG hN HR4 HB
      go_wp2_with fail
      go_loopg [3, 5] 6 (fun kq v3 v5 w' => ∃ (q c3 : Nat) (a3 : Addr), v3 = .slice (some a3) (r q).length c3 ∧ q + kq = 6 ∧ q ≤ 2 ∧ Aside0 (RT w' w.heap.size (fun _ => True) (.slice (some a3) (r q).length c3) (r q)) ∧ Aside0 (RR w' w.heap.size (fun _ => True) v5 (rowsTo r (q + 1))) ∧ Aside0 (Below w.heap.size w w'))
      case atStart => exact ⟨0, c3, ⟨g3, 0, none⟩, rfl, by omega, by omega, HR5, HO5, HB5⟩
      case round =>
        clear HR5 HO5 HB5
        obtain ⟨q, c3, a3, rfl, hkq, hq, HR, HO, HB⟩ := hrel
        have hsl : Aside0 (w.heap.size ≤ wr.heap.size) := ⟨HB.out.size⟩
        by_cases hq2 : q < 2
        · obtain ⟨hn1, hn2, hn3⟩ := HLV.out.len q hq2
          have HN1 := Aside0.mk hn1
          have HN2 := Aside0.mk hn2
          clear hn1 hn2
          have HS1 := Aside0.mk (Kd.R_mono (Kd.R_bound HR.out) (fun k hk => hk.2.2.1) : RT wr w.heap.size (fun k => k < wr.heap.size) (.slice (some a3) (r q).length c3) (r q))
          have HS2 := Aside0.mk (Kd.S_mono (Kd.S_bound HO.out) (fun k hk => hk.2.2.1) : RR wr w.heap.size (fun k => k < wr.heap.size) u5 (rowsTo r (q + 1)))
          clear HR HO
          generalize hS : wr.heap.size = S at HS1 HS2 hsl
          have HSE := Aside0.mk hS
          clear hS
          go_upto_region 10 with ((with_reducible refine gate_dst (N := 24) rfl ?_); (try (refine gate_guard (by rfl) ?_; dsimp only)); refine Kd.R_lit Kd.string w.heap.size 9 ?hg (N := 24) ?hd (xs := ([] : List ByteArray)) (inner := []) (ok := fun k => S ≤ k) (okp := fun _ => False) ?hr ?hp (fun _ hk => hk.elim) ?hf HB.out (by rw [HSE.out]; exact hsl.out) (by simp) ?_; (case hd => rfl); (case hg => rfl); (case hr => first | (go_simp; done) | (go_simp; rfl)); (case hp => exact (Reps.none _ _)); (case hf => exact Nat.le_of_eq HSE.out.symm); intro v6 w6 hR hB hG hN)
          have HN6 := Aside0.mk hR
          have HB6 := Aside0.mk hB
          have HT6 := Aside0.mk (Kd.R_grown HS1.out hG (fun k _ => by simp))
          have HO6 := Aside0.mk (Kd.S_grown HS2.out hG (fun k _ => by simp))
          have HS6 : Aside0 (S ≤ w6.heap.size) := ⟨by have := hG.size; rw [HSE.out] at this; exact this⟩
          clear hR hB hG hN HS1 HS2 HB HSE
          go_wp2_with fail
          obtain ⟨gko, rfl⟩ : ∃ n, gk = n + 1 := ⟨gk - 1, by omega⟩
          go_loopg [6, 7] 6 (fun kq v6 v7 w' => ∃ (j x : Nat), v7 = .int .i64 (x : Int) ∧ j + kq = 6 ∧ j ≤ (r (q + 1)).length ∧ x = 2 * j ∧ Aside0 (RT w' w.heap.size (fun k => S ≤ k) v6 ((r (q + 1)).take j)) ∧ Aside0 (RT w' w.heap.size (fun k => k < S) (.slice (some a3) (r q).length c3) (r q)) ∧ Aside0 (RR w' w.heap.size (fun k => k < S) u5 (rowsTo r (q + 1))) ∧ Aside0 (Below w.heap.size w w') ∧ Aside0 (S ≤ w'.heap.size))
          case atStart => exact ⟨0, 0, rfl, by omega, by omega, rfl, HN6, HT6, HO6, HB6, HS6⟩
          case round =>
            clear HN6 HT6 HO6 HB6 HS6
            obtain ⟨j, x, rfl, hk2, hj, hx, HN, HT, HO, HB, HS⟩ := hrel
            have HX := Aside0.mk hx
            clear hx
            have hC := (Kd.R_reads' HT.out).2.2
            by_cases hlt2 : j < (r (q + 1)).length
            · obtain ⟨p1, p2, p3, p4, p5⟩ := pairs_in x j _ _ HX.out HN1.out HN2.out hlt2
              obtain ⟨ad1, e1, hx1⟩ := Kd.at_string hC (x : Int) p1 p2
              cases e1
              obtain ⟨ad2, e2, hx2⟩ := Kd.at_string hC (wrap64 ((x : Int) + 1)) p3 p4
              cases e2
              have hcall := HCT.out q j hq2 hlt2
              rw [← HX.out, ← nth_rd (r q) x, ← nth_rd (r q) (x + 1), ← p5] at hcall
              have z1 : ¬ 9223372036854775807 < (rdOf ByteArray.empty (r q) (x : Int)).size + (rdOf ByteArray.empty (r q) (wrap64 ((x : Int) + 1))).size := by
                rw [p5, nth_rd, nth_rd]
                exact no_long3 (HLV.out.nsz q x (pairs_lt x j _ _ HX.out HN1.out hlt2).1) (HLV.out.nsz q (x + 1) (pairs_lt x j _ _ HX.out HN1.out hlt2).2)
              have hj4 : j < 4 := pairs_j j _ _ HN1.out HN2.out hlt2
              clear hC p5
              obtain ⟨y, hy⟩ : ∃ y, wrap64 ((x : Int) + 1) = y := ⟨_, rfl⟩
              rw [hy] at p3 p4 hx2 z1 hcall
              obtain ⟨tA, hA⟩ : ∃ tA, rdOf ByteArray.empty (r q) (x : Int) = tA := ⟨_, rfl⟩
              obtain ⟨tB, hB⟩ : ∃ tB, rdOf ByteArray.empty (r q) y = tB := ⟨_, rfl⟩
              rw [hA] at hx1 z1 hcall
              rw [hB] at hx2 z1 hcall
              clear hA hB
              go_wp2_with fail
              refine start_ (n := 15) (S := fun w' => w'.cell? (a3.add x) = some (.string tA) ∧ w'.cell? (a3.add y.toNat) = some (.string tB)) (ds := [11, 12, 13]) #[false, false, false, false, false, false, false, false, false, false, false, false, false, false, false] (by kernel_rfl) rfl rfl ⟨cell_drew (show wr.cell? (a3.add x) = _ from hx1), cell_drew hx2⟩ (fun hHeld => ?_)
              refine pure_ (i := 0) (N := some 31) (v := ?_) (a' := ?_) #[true, false, false, false, false, false, false, false, false, false, false, false, false, false, false] rfl rfl (by kernel_rfl) (fun _ _ _ h => h) (Or.inl ⟨by rfl, ?_⟩) ?_ ?_
              rotate_left
              · intro w'
                go_simp
                with_reducible rfl
              rotate_left
              · simp only [Act.put, List.setIfInBounds_toArray, List.set_cons_zero, List.set_cons_succ, i64_w, i32_w]
                rfl
              refine pure_ (i := 1) (N := some 32) (v := ?_) (a' := ?_) #[true, true, false, false, false, false, false, false, false, false, false, false, false, false, false] rfl rfl (by kernel_rfl) (fun _ _ _ h => h) (Or.inl ⟨by rfl, ?_⟩) ?_ ?_
              rotate_left
              · intro w'
                go_simp
                with_reducible rfl
              rotate_left
              · simp only [Act.put, List.setIfInBounds_toArray, List.set_cons_zero, List.set_cons_succ, i64_w, i32_w]
                rfl
              refine pure_ (i := 2) (N := some 33) (v := ?_) (a' := ?_) #[true, true, true, false, false, false, false, false, false, false, false, false, false, false, false] rfl rfl (by kernel_rfl) (fun _ _ _ h => h) (Or.inl ⟨by rfl, ?_⟩) ?_ ?_
              rotate_left
              · intro w'
                go_simp
                with_reducible rfl
              rotate_left
              · simp only [Act.put, List.setIfInBounds_toArray, List.set_cons_zero, List.set_cons_succ, i64_w, i32_w]
                rfl
              refine pure_ (i := 3) (N := some 34) (v := ?_) (a' := ?_) #[true, true, true, true, false, false, false, false, false, false, false, false, false, false, false] rfl rfl (by kernel_rfl) (fun _ _ _ h => h) (Or.inl ⟨by rfl, ?_⟩) ?_ ?_
              rotate_left
              · intro w'
                go_simp
                with_reducible rfl
              rotate_left
              · simp only [Act.put, List.setIfInBounds_toArray, List.set_cons_zero, List.set_cons_succ, i64_w, i32_w]
                rfl
              refine pure_ (i := 5) (N := some 36) (v := ?_) (a' := ?_) #[true, true, true, true, false, true, false, false, false, false, false, false, false, false, false] rfl rfl (by kernel_rfl) (fun _ _ _ h => h) (Or.inl ⟨by rfl, ?_⟩) ?_ ?_
              rotate_left
              · intro w'
                go_simp
                with_reducible rfl
              rotate_left
              · simp only [Act.put, List.setIfInBounds_toArray, List.set_cons_zero, List.set_cons_succ, i64_w, i32_w]
                rfl
              refine pure_ (i := 6) (N := some 37) (v := ?_) (a' := ?_) #[true, true, true, true, false, true, true, false, false, false, false, false, false, false, false] rfl rfl (by kernel_rfl) (fun _ _ _ h => h) (Or.inl ⟨by rfl, ?_⟩) ?_ ?_
              rotate_left
              · intro w'
                go_simp
                with_reducible rfl
              rotate_left
              · simp only [Act.put, List.setIfInBounds_toArray, List.set_cons_zero, List.set_cons_succ, i64_w, i32_w]
                rfl
              refine pure_ (i := 7) (N := some 38) (v := ?_) (a' := ?_) #[true, true, true, true, false, true, true, true, false, false, false, false, false, false, false] rfl rfl (by kernel_rfl) (fun _ _ _ h => h) (Or.inl ⟨by rfl, ?_⟩) ?_ ?_
              rotate_left
              · intro w'
                go_simp
                with_reducible rfl
              rotate_left
              · simp only [Act.put, List.setIfInBounds_toArray, List.set_cons_zero, List.set_cons_succ, i64_w, i32_w]
                rfl
              refine pure_ (i := 8) (N := some 39) (v := ?_) (a' := ?_) #[true, true, true, true, false, true, true, true, true, false, false, false, false, false, false] rfl rfl (by kernel_rfl) (fun _ _ _ h => h) (Or.inl ⟨by rfl, ?_⟩) ?_ ?_
              rotate_left
              · intro w'
                go_simp
                with_reducible rfl
              rotate_left
              · simp only [Act.put, List.setIfInBounds_toArray, List.set_cons_zero, List.set_cons_succ, i64_w, i32_w]
                rfl
              refine take_ (i := 4) (N := some 35) (v := ?_) (a' := ?_) #[true, true, true, true, true, true, true, true, true, false, false, false, false, false, false] rfl rfl (by kernel_rfl) (fun _ _ _ h => h) (Or.inl ⟨by rfl, ?_⟩) hHeld ?_ ?_
              rotate_left
              · rintro w' ⟨s0, s1⟩
                go_simp
                with_reducible rfl
              rotate_left
              · simp only [Act.put, List.setIfInBounds_toArray, List.set_cons_zero, List.set_cons_succ, i64_w, i32_w]
                rfl
              refine take_ (i := 9) (N := some 40) (v := ?_) (a' := ?_) #[true, true, true, true, true, true, true, true, true, true, false, false, false, false, false] rfl rfl (by kernel_rfl) (fun _ _ _ h => h) (Or.inl ⟨by rfl, ?_⟩) hHeld ?_ ?_
              rotate_left
              · rintro w' ⟨s0, s1⟩
                go_simp
                with_reducible rfl
              rotate_left
              · simp only [Act.put, List.setIfInBounds_toArray, List.set_cons_zero, List.set_cons_succ, i64_w, i32_w]
                rfl
              refine pure_ (i := 10) (N := some 41) (v := ?_) (a' := ?_) #[true, true, true, true, true, true, true, true, true, true, true, false, false, false, false] rfl rfl (by kernel_rfl) (fun _ _ _ h => h) (Or.inl ⟨by rfl, ?_⟩) ?_ ?_
              rotate_left
              · intro w'
                go_simp
                with_reducible rfl
              rotate_left
              · simp only [Act.put, List.setIfInBounds_toArray, List.set_cons_zero, List.set_cons_succ, i64_w, i32_w]
                rfl
              refine last_ (i := 11) (N := some 42) #[true, true, true, true, true, true, true, true, true, true, true, true, false, false, false] rfl rfl (by kernel_rfl) (by decide) (fun K hK => ?_)
              refine goes_ Try.func44 (by kernel_rfl) rfl #[.int .u8 110, .string (tA ++ tB)] (by rfl) rfl rfl (by simp only [List.map_toArray, List.map_cons, List.map_nil]; rfl) ?_
              with_reducible refine (hcall _).mono ?_
              rintro e w2 ⟨rfl, hb2⟩
              refine ⟨_, rfl, ?_⟩
              have HN7 := Aside0.mk (Kd.R_below (Kd.R_drew HN.out) hb2)
              have HT7 := Aside0.mk (Kd.R_below (Kd.R_drew HT.out) hb2)
              have HO7 := Aside0.mk (Kd.S_below (Kd.S_step (w1 := wr.drew) HO.out (fun _ _ _ => rfl)) hb2)
              have HB7 := Aside0.mk (below_then (below_drew HB.out) (show w.heap.size ≤ wr.drew.heap.size from HB.out.size) hb2)
              have hsl7 : Aside0 (w.heap.size ≤ w2.heap.size) := ⟨HB7.out.size⟩
              have HS7 : Aside0 (S ≤ w2.heap.size) := ⟨Nat.le_trans HS.out hb2.size⟩
              clear hb2
              refine hK.out _ _ ?_
              clear hK K
              refine norm_ (a' := ?_) ?_ ?_
              rotate_left
              · show Act.put _ (some 42) _ = _
                simp only [Act.put, List.setIfInBounds_toArray, List.set_cons_zero, List.set_cons_succ, i64_w, i32_w]
                rfl
              refine last_ (i := 12) (N := some 43) #[true, true, true, true, true, true, true, true, true, true, true, true, true, false, false] rfl rfl (by kernel_rfl) (by decide) (fun K hK => ?_)
              refine value_ (w1 := ?_) (v := ?_) (by rfl) rfl ?_ ?_
              rotate_left 2
              · go_simp
                constructor
                · rfl
                · rfl
              refine hK.out _ _ ?_
              clear hK K
              refine norm_ (a' := ?_) ?_ ?_
              rotate_left
              · show Act.put _ (some 43) _ = _
                simp only [Act.put, List.setIfInBounds_toArray, List.set_cons_zero, List.set_cons_succ, i64_w, i32_w]
                rfl
              refine last_ (i := 13) (N := some 44) #[true, true, true, true, true, true, true, true, true, true, true, true, true, true, false] rfl rfl (by kernel_rfl) (by decide) (fun K hK => ?_)
              refine Kd.R_append_step Kd.string (w0 := w) w.heap.size (by rfl) (.tmp 31) (.tmp 43) 27 9 (.string ⟨#[]⟩) 16 rfl Try.underlying27 info_str rfl (by decide) (by decide) u6 ((r (q + 1)).take j) (nth (r (q + 1)) j) [.string (nth (r (q + 1)) j)] (fun k => S ≤ k) (fun _ => False) rfl rfl ?aP (fun _ hk => hk.elim) ?aF ?aO ?aB ?aS ?aL ?_
              case aP => exact rfl
              case aF => exact fun k hk => Nat.le_trans HS7.out hk
              case aO => exact HN7.out
              case aB => exact HB7.out
              case aS => exact hsl7.out
              case aL => exact take_small _ _ hj4
              intro v8 w8 ho hb hgr hat
              have HT8 := Aside0.mk (Kd.R_grown HT7.out hgr (fun k hk he => Nat.lt_irrefl _ (Nat.lt_of_lt_of_le hk (R_own HN7.out k he.symm))))
              have HO8 := Aside0.mk (Kd.S_grown HO7.out hgr (fun k hk he => Nat.lt_irrefl _ (Nat.lt_of_lt_of_le hk (R_own HN7.out k he.symm))))
              have HS8 : Aside0 (S ≤ w8.heap.size) := ⟨Nat.le_trans HS7.out hgr.size⟩
              clear HN7 HT7 HO7 HB7 hsl7 HS7 hgr hat
              refine hK.out _ _ ?_
              clear hK K
              refine norm_ (a' := ?_) ?_ ?_
              rotate_left
              · show Act.put _ (some 44) _ = _
                simp only [Act.put, List.setIfInBounds_toArray, List.set_cons_zero, List.set_cons_succ, i64_w, i32_w]
                rfl
              refine pure_ (i := 14) (N := some 6) (v := ?_) (a' := ?_) #[true, true, true, true, true, true, true, true, true, true, true, true, true, true, true] rfl rfl (by kernel_rfl) (fun _ _ _ h => h) (Or.inl ⟨by rfl, ?_⟩) ?_ ?_
              rotate_left
              · intro w'
                go_simp
                with_reducible rfl
              rotate_left
              · simp only [Act.put, List.setIfInBounds_toArray, List.set_cons_zero, List.set_cons_succ, i64_w, i32_w]
                rfl
              refine done_ (by kernel_rfl) ?_
              clear p1 p2 p3 p4 z1 hx1 hx2 hy
              go_wp2_with fail
              go_roundg (gk - 1)
              case measure => omega
              case rel => exact ⟨j + 1, x + 2, congrArg (Value.int IntKind.i64) (by rw [pairs_next x j _ HX.out HN1.out HN2.out hlt2]), by omega, by omega, by rw [HX.out]; omega, ⟨by rw [nth_take _ _ hlt2] at ho; exact ho⟩, HT8, HO8, ⟨hb⟩, HS8⟩
            · have hj2 : j = (r (q + 1)).length := by omega
              have hnc : ¬ (x : Int) < ((r q).length : Int) := pairs_outI x j _ _ HX.out HN1.out hj2
              have HN6 : Aside0 (RT wr w.heap.size (fun k => S ≤ k) u6 (r (q + 1))) := ⟨by have h1 := HN.out; rwa [List.take_of_length_le (Nat.le_of_eq hj2.symm)] at h1⟩
              obtain ⟨g6, c6, e6, _⟩ := Kd.R_form HN6.out (by have := HN1.out; omega)
              subst e6
              have HO6 := Aside0.mk (Kd.S_mono HO.out (fun k hk => ⟨trivial, Nat.not_le.2 hk⟩) : RR wr w.heap.size (fun k => True ∧ ¬ S ≤ k) u5 (rowsTo r (q + 1)))
              have hown : Aside0 (∀ k, S ≤ k → some k ≠ u5.ownBlock) := ⟨fun k hk he => Nat.lt_irrefl _ (Nat.lt_of_lt_of_le (R_own (Kd.S_R HO.out) k he.symm) hk)⟩
              clear HN HT HO hC
              have hsl0 : Aside0 (w.heap.size ≤ wr.heap.size) := ⟨HB.out.size⟩
              go_wp2_with ((with_reducible refine gate_builtin (b := .append) (xs := #[.tmp 46, .tmp 48]) rfl ?_); at_builtin; refine Kd.S_append (Kd.slice 9 Kd.string) (w0 := w) w.heap.size rfl (.tmp 46) (.tmp 48) 61 27 (.slice none 0 0) 24 rfl Try.underlying61 info_row rfl (by decide) (by decide) u5 (rowsTo r (q + 1)) (r (q + 1)) [.slice (some ⟨g6, 0, none⟩) (r (q + 1)).length c6] (fun _ => True) (fun k => S ≤ k) rfl rfl ?aP (fun k hk => ⟨trivial, hown.out k hk⟩) (fun k hk => trivial) HO6.out HB.out hsl0.out ?aL ?_; (case aP => exact ⟨_, rfl, HN6.out⟩); (case aL => rw [rowsTo_len]; omega); intro v8 w8 ho hb hgr hat)
              clear hnc
              have HR8 := Aside0.mk (Kd.R_mono (Kd.R_over HN6.out (Kd.S_R HO6.out) rt_types hgr) (fun _ _ => trivial) : RT w8 w.heap.size (fun _ => True) (.slice (some ⟨g6, 0, none⟩) (r (q + 1)).length c6) (r (q + 1)))
              go_roundg gko
              case measure => omega
              case rel => exact ⟨q + 1, c6, ⟨g6, 0, none⟩, rfl, by omega, by omega, HR8, ⟨by rw [rowsTo_succ] at ho; exact ho⟩, ⟨hb⟩⟩
        · have hq3 : q = 2 := by omega
          subst hq3
          have hl : (r 2).length = 1 := HLV.out.l2
          go_wp2_with fail
          go_ret
          exact ⟨_, rfl, HO.out, HB.out⟩
end Go.Proofs.Ytckjobcagniieaa.Levels
