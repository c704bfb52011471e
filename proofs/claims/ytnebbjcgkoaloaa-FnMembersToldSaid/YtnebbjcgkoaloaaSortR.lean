/-
slices.SortFunc of a slice of circles by the program's byRole: the row holds its circles sorted by Who and Name; nothing else turns.
Conditions: every circle has Who in 0 .. 5 and Name in 0 .. 3; fewer than 4000001 circles.
-/
import Derived.Test.YtnebbjcgkoaloaaSortLay
namespace Go.Proofs.Ytnebbjcgkoaloaa.SortR
open Go Go.Proofs Go.Shelf Go.RowKit Go.Lib Go.Sort
set_option linter.unusedVariables false
set_option linter.unusedSimpArgs false
abbrev RS := Fin 6 × Fin 4
def enc (x : RS) : List Value := [.int .i64 (x.1.val : Int), .int .i64 (x.2.val : Int)]
def cf (x y : RS) : Int := if (x.1.val : Int) = (y.1.val : Int) then (x.2.val : Int) - (y.2.val : Int) else (x.1.val : Int) - (y.1.val : Int)
theorem cf_lt (x y : RS) : (ltOf cf x y = true ↔ (x.1.val < y.1.val ∨ (x.1.val = y.1.val ∧ x.2.val < y.2.val))) := by
  unfold ltOf cf
  by_cases h : (x.1.val : Int) = (y.1.val : Int)
  · rw [if_pos h]
    simp only [decide_eq_true_eq]
    omega
  · rw [if_neg h]
    simp only [decide_eq_true_eq]
    omega
theorem cf_nlt (x y : RS) : (ltOf cf x y = false ↔ ¬ (x.1.val < y.1.val ∨ (x.1.val = y.1.val ∧ x.2.val < y.2.val))) := by
  rw [← cf_lt]
  simp
theorem cf_swo : SWO (ltOf cf) where
  irrefl x := by rw [cf_nlt]; omega
  trans x y z h1 h2 := by rw [cf_lt] at *; omega
  ntrans x y z h1 h2 := by rw [cf_nlt] at *; omega
set_option maxHeartbeats 4000000 in
theorem byRole_calls (a b c d : Int) (a0 : 0 ≤ a) (a1 : a ≤ 5) (b0 : 0 ≤ b) (b1 : b ≤ 3) (c0 : 0 ≤ c) (c1 : c ≤ 5) (d0 : 0 ≤ d) (d1 : d ≤ 3) (W : World) :
    Calls Try.prog 54 #[.agg #[.int .i64 a, .int .i64 b], .agg #[.int .i64 c, .int .i64 d]] W fun e w' => e = .returned (.int .i64 (if a = c then b - d else a - c)) ∧ ∃ q os', w' = grow (W.drewN q) os' := by
  by_cases h : a = c
  · subst h
    rw [if_pos rfl]
    go_enter Try.func54, Try.ntmps54
    go_wp2
    go_ret
    exact ⟨rfl, 0, _, by rw [alloc_eq_grow, alloc_eq_grow, grow_grow]; rfl⟩
  · rw [if_neg h]
    go_enter Try.func54, Try.ntmps54
    go_wp2
    go_ret
    exact ⟨rfl, 0, _, by rw [alloc_eq_grow, alloc_eq_grow, grow_grow]; rfl⟩
theorem fin_b {n : Nat} (x : Fin n) : 0 ≤ (x.val : Int) ∧ (x.val : Int) ≤ (n : Int) - 1 := by have := x.isLt; omega
theorem cmpLays (g off size : Nat) (w : World) : CmpLays Try.prog 54 #[] enc 2 cf g off size w :=
  fun _ _ _ _ x y => byRole_calls _ _ _ _ (fin_b x.1).1 (by have := (fin_b x.1).2; omega) (fin_b x.2).1 (by have := (fin_b x.2).2; omega) (fin_b y.1).1 (by have := (fin_b y.1).2; omega) (fin_b y.2).1 (by have := (fin_b y.2).2; omega) _
theorem len_calls (x : Int) (w : World) (h0 : 0 ≤ x) (h1 : x ≤ 18446744073709551615) :
    Calls Try.prog 76 #[.int .u64 x] w fun e w' => e = .returned (.int .i64 (Lib.bitLen x.toNat : Nat)) ∧ w' = w := Any.bits_Len (SlLaysF0.n15.bits (P := Try.prog) (ρ := Try.sortRole_ren) { Try.sortRole with }) x w h0 h1
set_option maxHeartbeats 2000000 in
theorem ins_none (p : Option Addr) (cap : Nat) (fv : Value) (w : World) :
    Calls Try.prog 83 #[.slice p 0 cap, .int .i64 0, .int .i64 0, fv] w fun e w' => e = .returned (.tuple #[]) ∧ w' = w := by
  go_enter Try.func83, Try.ntmps83
  go_wp2
  refine wp_loop_rounds 1 ?_
  rw [rounds_succ]
  go_wp2
  go_end0
  exact ⟨rfl, rfl⟩
set_option maxRecDepth 100000 in
set_option maxHeartbeats 2000000 in
theorem pdq_none (p : Option Addr) (cap : Nat) (lim : Int) (fv : Value) (w : World) :
    Calls Try.prog 75 #[.slice p 0 cap, .int .i64 0, .int .i64 0, .int .i64 lim, fv] w fun e w' => e = .returned (.tuple #[]) ∧ w' = w := by
  have hi := fun W => ins_none p cap fv W
  go_enter Try.func75, Try.ntmps75
  go_wp2
  refine wp_loop_rounds 1 ?_
  rw [rounds_succ]
  go_wp2_with (go_at_call 83; refine (hi _).mono ?_; rintro e w' ⟨rfl, rfl⟩)
  (try simp only [Exit.inBlock, Exit.then]); refine bodyPost_ret (results_none rfl _ _ _) rfl ?_
  exact ⟨rfl, rfl⟩
set_option maxHeartbeats 2000000 in
theorem sort_none (p : Option Addr) (cap : Nat) (fv : Value) (w : World) :
    Calls Try.prog 53 #[.slice p 0 cap, fv] w fun e w' => e = .returned (.tuple #[]) ∧ w' = w := by
  have hp := fun lim W => pdq_none p cap lim fv W
  have hl : ∀ W, Calls Try.prog 76 #[.int .u64 0] W fun e w' => e = .returned (.int .i64 (Lib.bitLen 0 : Nat)) ∧ w' = W := fun W => by
    exact len_calls 0 W (by omega) (by omega)
  go_enter Try.func53, Try.ntmps53
  go_wp2_with (first | (go_at_call 76; refine (hl _).mono ?_; rintro e w' ⟨rfl, rfl⟩) | (go_at_call 75; refine (hp _ _).mono ?_; rintro e w' ⟨rfl, rfl⟩))
  go_end0
  exact ⟨rfl, rfl⟩
def sortL (l : List RS) : List RS := (pdq (ltOf cf) l.toArray 0 l.length (Lib.bitLen l.length) true true).toList
theorem sortL_spec (l : List RS) : (sortL l).length = l.length ∧ (sortL l).Perm l ∧ ∀ i j, i < j → j < l.length → ltOf cf (sortL l)[j]! (sortL l)[i]! = false := by
  have h := pdq_sorts (ltOf cf) cf_swo l.toArray 0 l.length (Lib.bitLen l.length) true true (Nat.zero_le _) (by simp) (Or.inl rfl)
  obtain ⟨⟨h1, _, h3⟩, h4⟩ := h
  have h1' : (pdq (ltOf cf) l.toArray 0 l.length (Lib.bitLen l.length) true true).size = l.length := by rw [h1]; simp
  refine ⟨by unfold sortL; rw [Array.length_toList]; exact h1', ?_, ?_⟩
  · rw [Array.extract_eq_self_of_le (by rw [h1']; exact Nat.le_refl _), Array.extract_eq_self_of_le (by simp)] at h3
    exact h3
  · intro i j hij hj
    have := h4 i j (Nat.zero_le _) hij hj
    unfold sortL
    rw [Array.getElem!_toList, Array.getElem!_toList]
    exact this
theorem flat_get : ∀ (l : List RS) (t : Nat), t < l.length * 2 → (l.flatMap enc)[t]? = some ((enc l[t / 2]!)[t % 2]!)
  | [], t, h => by simp at h
  | x :: l, 0, h => by simp [enc]
  | x :: l, 1, h => by simp [enc]
  | x :: l, t + 2, h => by
    have ih := flat_get l t (by simp at h; omega)
    rw [List.flatMap_cons, List.getElem?_append_right (by simp [enc])]
    have e1 : (t + 2) / 2 = t / 2 + 1 := by omega
    have e2 : (t + 2) % 2 = t % 2 := by omega
    rw [show t + 2 - (enc x).length = t by simp [enc], ih, e1, e2]
    simp
theorem flat_len : ∀ (l : List RS), (l.flatMap enc).length = l.length * 2
  | [] => rfl
  | x :: l => by rw [List.flatMap_cons, List.length_append, flat_len l, List.length_cons]; simp [enc]; omega
theorem flatK_list (d : Array RS) : (flatK enc 2 d).toList = d.toList.flatMap enc := by
  apply List.ext_getElem?
  intro t
  by_cases h : t < d.size * 2
  · rw [flat_get d.toList t (by simpa using h)]
    unfold flatK
    have ht2 : t / 2 < d.size := by omega
    simp [h]
    rw [getElem!_pos d (t / 2) ht2, Array.getElem?_eq_getElem ht2]
    rfl
  · rw [List.getElem?_eq_none (by unfold flatK; simp; omega), List.getElem?_eq_none (by rw [flat_len]; simp; omega)]
set_option maxHeartbeats 2000000 in
theorem sort_calls (l : List RS) (g cap : Nat) (cur : Array Value) (w : World) (hg : w.heap[g]? = some (.cells cur 27 (0, 0))) (hs : cur.size = cap * 2) (hn : l.length ≤ cap) (hl : l.length ≤ 4000000)
    (hc : cur.toList.take (l.length * 2) = l.flatMap enc) :
    Calls Try.prog 53 #[.slice (some ⟨g, 0, none⟩) l.length cap, .func (.func 54) #[] #[]] w fun e w' =>
      e = .returned (.tuple #[]) ∧ (∃ cur', w'.heap[g]? = some (.cells cur' 27 (0, 0)) ∧ cur'.size = cap * 2 ∧ cur'.toList.take (l.length * 2) = (sortL l).flatMap enc) ∧
        w'.os = w.os ∧ w'.tape = w.tape ∧ w'.output = w.output ∧ w.heap.size ≤ w'.heap.size ∧ ∀ k, k < w.heap.size → k ≠ g → w'.heap[k]? = w.heap[k]? := by
  have hlt : g < w.heap.size := by
    rcases Nat.lt_or_ge g w.heap.size with h | h
    · exact h
    · rw [Array.getElem?_eq_none h] at hg
      cases hg
  have eg : ∀ args w, (callFunc 54 args).run Try.prog w = .ok (.enter 54 args) w := enters_of Try.func54 (by kernel_rfl) rfl
  have hH : HoldsK enc 2 w g 0 l.toArray := by
    intro j hj
    have hj2 : j < l.length * 2 := by simpa using hj
    have hcell : cur[j]? = some ((flatK enc 2 l.toArray)[j]!) := by
      have h1 : (cur.toList.take (l.length * 2))[j]? = (l.flatMap enc)[j]? := by rw [hc]
      rw [List.getElem?_take_of_lt hj2, ← flatK_list l.toArray] at h1
      rw [← Array.getElem?_toList, h1, Array.getElem?_toList, Array.getElem?_eq_getElem hj, getElem!_pos _ j hj]
    refine ⟨?_, ?_⟩
    · simp only [World.cell?, hg, Nat.zero_add]
      exact hcell
    · simp [World.frozen?, hg]
  have hcon := AnyQ.slices_SortFunc_eq Try.sortRole 2 Try.isAgg27 Try.sizeOf27 enc (fun _ => rfl) (fun x v hv => by simp [enc] at hv; rcases hv with rfl | rfl <;> rfl) cf cf_swo 54 #[] g 0 cap l.toArray w eg (cmpLays g 0 _ w) hH hlt (by simp; omega)
  have hsz : l.toArray.size = l.length := by simp
  rw [hsz] at hcon
  refine hcon.mono ?_
  rintro e w' ⟨rfl, n, os, rfl⟩
  have hd : (pdq (ltOf cf) l.toArray 0 l.length (Lib.bitLen l.length) true true).toList = sortL l := rfl
  have hdl := (sortL_spec l).1
  generalize pdq (ltOf cf) l.toArray 0 l.length (Lib.bitLen l.length) true true = dk at hd
  have hds : dk.size = l.length := by rw [← hdl, ← hd, Array.length_toList]
  have hblk : ∀ k, k < w.heap.size → (sortWorldK enc 2 w g 0 n dk os).heap[k]? = (mapBlock w g (putCells id 0 (flatK enc 2 dk))).heap[k]? := by
    intro k hk
    show ((mapBlock (Sort.ahead w n) g (putCells id 0 (flatK enc 2 dk))).heap ++ os)[k]? = _
    rw [Array.getElem?_append_left (by simp [mapBlock, Sort.ahead]; exact hk)]
    rfl
  refine ⟨rfl, ⟨putCells id 0 (flatK enc 2 dk) cur, ?_, ?_, ?_⟩, rfl, rfl, rfl, ?_, ?_⟩
  · rw [hblk g hlt]
    simp [mapBlock, Array.getElem?_modify, hg, onCells]
  · simp [putCells, hs]
  · rw [← hd, ← flatK_list]
    have hfl : (flatK enc 2 dk).size = l.length * 2 := by unfold flatK; simp [hds]
    apply List.ext_getElem?
    intro t
    by_cases ht : t < l.length * 2
    · have hcs : t < cur.size := by rw [hs]; omega
      rw [List.getElem?_take_of_lt ht, Array.getElem?_toList, Array.getElem?_toList]
      unfold putCells
      rw [Array.getElem?_mapIdx, Array.getElem?_eq_getElem hcs, Option.map_some, if_pos ⟨Nat.zero_le _, by omega⟩, Array.getElem?_eq_getElem (by omega), Nat.sub_zero, getElem!_pos _ t (by omega)]
      rfl
    · rw [List.getElem?_eq_none (by rw [List.length_take]; omega), List.getElem?_eq_none (by rw [Array.length_toList]; omega)]
  · show w.heap.size ≤ ((mapBlock (Sort.ahead w n) g (putCells id 0 (flatK enc 2 dk))).heap ++ os).size
    simp [mapBlock, Sort.ahead]
  · intro k hk hkg
    rw [hblk k hk]
    simp [mapBlock, Array.getElem?_modify, Ne.symm hkg]
end Go.Proofs.Ytnebbjcgkoaloaa.SortR
