/-
The program's signFormed answers whether a signature has its form: the leaf in 0 .. 3, eleven ends and two texts on the way, each of eight bytes.
Conditions: none.
-/
import Derived.Test.YtckjobcagniieaaQuadsD
namespace Go.Proofs.Ytckjobcagniieaa.Formed
open Go.RowKit Go.Proofs.YtckjobcagniieaaW.PrintWords Go.Proofs.YtckjobcagniieaaW.PrintLast Go.Proofs.YtckjobcagniieaaW.PrintMore
set_option linter.unusedVariables false
set_option linter.unusedSimpArgs false
def badT (t : ByteArray) : Bool := ((t.size : Int) != 8)
def idxBad : List ByteArray → Nat → Int
  | [], _ => -1
  | t :: l, i => if badT t = true then (i : Int) else idxBad l (i + 1)
theorem idxBad_any : ∀ (l : List ByteArray) (i : Nat), decide (idxBad l i ≥ 0) = l.any badT
  | [], i => by simp [idxBad]
  | t :: l, i => by
    unfold idxBad
    by_cases h : badT t = true
    · rw [if_pos h, List.any_cons, h]
      simp
    · rw [if_neg h, List.any_cons, idxBad_any l (i + 1), Bool.eq_false_iff.mpr h]
      simp
set_option maxHeartbeats 4000000 in
theorem bad_calls (t : ByteArray) (w : World) : Calls Try.prog 68 #[.string t] w fun e w' => e = .returned (.bool (badT t)) ∧ w' = w := by
  unfold badT
  go_enter Try.func68, Try.ntmps68
  go_wp2
  go_ret
  exact ⟨rfl, rfl⟩
theorem drop_str (l : List ByteArray) (i : Nat) (h : i < l.length) : l.drop i = rdOf ByteArray.empty l (i : Int) :: l.drop (i + 1) := by
  rw [List.drop_eq_getElem_cons h]
  congr 1
  unfold rdOf
  simp [List.getD_eq_getElem?_getD, h]
theorem w64s' (n : Nat) (h : n ≤ 4000000) : wrap64 ((n : Int) + 1) = ((n + 1 : Nat) : Int) := (IntWalk.wrap64_in _ ⟨by omega, by omega⟩).trans (by omega)
set_option maxHeartbeats 4000000 in
theorem index_calls (l : List ByteArray) (A : Option Addr) (c : Nat) (w : World) (hl : Kd.C Kd.string w A l.length l) (h0 : l.length ≤ 4000000) :
    Calls Try.prog 82 #[.slice A l.length c, .func (Fn.func 68) #[] #[]] w fun e w' => e = .returned (.int .i64 (idxBad l 0)) ∧ w' = w := by
  have HL := Aside0.mk hl
  have H0 := Aside0.mk h0
  clear hl h0
  go_enter Try.func82, Try.ntmps82
  go_wp2_with fail
  go_loopg [8] (l.length + 2) (fun kq v8 w' => ∃ (i : Nat), v8 = .int .i64 (i : Int) ∧ i + kq = l.length + 2 ∧ i ≤ l.length ∧ w' = w ∧ Aside0 (idxBad (l.drop i) i = idxBad l 0))
  case atStart => exact ⟨0, rfl, by omega, by omega, rfl, ⟨rfl⟩⟩
  case round =>
    obtain ⟨i, rfl, hk, hi, rfl, hx⟩ := hrel
    by_cases hlt : i < l.length
    · obtain ⟨ad, e1, hx1⟩ := Kd.at_string HL.out (i : Int) (by omega) (by omega)
      cases e1
      have hd := Aside0.mk (drop_str l i hlt)
      have hlt2 : (i : Int) < (l.length : Int) := by omega
      obtain ⟨t, ht⟩ : ∃ t, rdOf ByteArray.empty l (i : Int) = t := ⟨_, rfl⟩
      rw [ht] at hx1
      replace hx1 : wr.cell? (ad.add i) = some (.string t) := hx1
      have HT := Aside0.mk ht
      clear ht
      go_wp2_with fail
      refine (bad_calls t wr).mono ?_
      rintro e w1 ⟨rfl, rfl⟩
      by_cases hb : badT t = true
      · go_wp2_with fail
        go_ret
        refine ⟨?_, rfl⟩
        rw [← hx.out, hd.out, HT.out, idxBad, if_pos hb]
        rfl
      · replace hb := Bool.eq_false_iff.mpr hb
        go_wp2_with fail
        go_roundg (gk - 1)
        case measure => omega
        case rel => exact ⟨i + 1, congrArg (Value.int IntKind.i64) (w64s' i (by have := H0.out; omega)), by omega, by omega, rfl, ⟨by rw [← hx.out, hd.out, HT.out, idxBad, if_neg (by rw [hb]; decide)]⟩⟩
    · have hi2 : i = l.length := by omega
      subst hi2
      have hx2 : Aside0 (idxBad l 0 = -1) := ⟨by rw [← hx.out, List.drop_length]; rfl⟩
      go_wp2_with fail
      go_ret
      exact ⟨by rw [hx2.out]; rfl, rfl⟩
set_option maxHeartbeats 4000000 in
theorem contains_calls (l : List ByteArray) (A : Option Addr) (c : Nat) (w : World) (hl : Kd.C Kd.string w A l.length l) (h0 : l.length ≤ 4000000) (b : Bool) (hb : l.any badT = b) :
    Calls Try.prog 69 #[.slice A l.length c, .func (Fn.func 68) #[] #[]] w fun e w' => e = .returned (.bool b) ∧ w' = w := by
  have HC := Aside0.mk (index_calls l A c w hl h0)
  have HE := Aside0.mk ((idxBad_any l 0).trans hb)
  clear hl h0 hb
  go_enter Try.func69, Try.ntmps69
  go_wp2_with fail
  refine HC.out.mono ?_
  rintro e w1 ⟨rfl, rfl⟩
  go_wp2_with fail
  go_ret
  exact ⟨congrArg (fun x => Ending.returned (Value.bool x)) HE.out, rfl⟩
def formedB (n : Int) (l1 l2 : List ByteArray) : Bool := decide (0 ≤ n ∧ n ≤ 3) && decide (l1.length = 11) && decide (l2.length = 2) && !(l1.any badT) && !(l2.any badT)
set_option maxHeartbeats 4000000 in
theorem in_calls (a b c : Int) (w : World) : Calls Try.prog 40 #[.int .i64 a, .int .i64 b, .int .i64 c] w fun e w' => e = .returned (.bool (decide (b ≤ a ∧ a ≤ c))) ∧ w' = w := by
  by_cases h1 : b ≤ a
  · by_cases h2 : a ≤ c
    · rw [decide_eq_true (show b ≤ a ∧ a ≤ c from ⟨h1, h2⟩)]
      go_enter Try.func40, Try.ntmps40
      go_wp2_with fail
      go_ret
      exact ⟨rfl, rfl⟩
    · rw [decide_eq_false (show ¬ (b ≤ a ∧ a ≤ c) from fun h => h2 h.2)]
      go_enter Try.func40, Try.ntmps40
      go_wp2_with fail
      go_ret
      exact ⟨rfl, rfl⟩
  · rw [decide_eq_false (show ¬ (b ≤ a ∧ a ≤ c) from fun h => h1 h.1)]
    go_enter Try.func40, Try.ntmps40
    go_wp2_with fail
    go_ret
    exact ⟨rfl, rfl⟩
abbrev boxed (w : World) (n : Int) (A1 : Option Addr) (n1 c1 : Nat) (A2 : Option Addr) (n2 c2 : Nat) : World := w.alloc (Obj.cells #[Value.int IntKind.i64 n, Value.slice A1 n1 c1, Value.slice A2 n2 c2] 29)
set_option maxHeartbeats 4000000 in
theorem formed_walk (n : Int) (A1 : Option Addr) (n1 c1 : Nat) (A2 : Option Addr) (n2 c2 : Nat) (b1 b2 : Bool) (w : World)
    (h1 : Calls Try.prog 69 #[.slice A1 n1 c1, .func (Fn.func 68) #[] #[]] (boxed w n A1 n1 c1 A2 n2 c2) fun e w' => e = .returned (.bool b1) ∧ w' = boxed w n A1 n1 c1 A2 n2 c2)
    (h2 : Calls Try.prog 69 #[.slice A2 n2 c2, .func (Fn.func 68) #[] #[]] (boxed w n A1 n1 c1 A2 n2 c2) fun e w' => e = .returned (.bool b2) ∧ w' = boxed w n A1 n1 c1 A2 n2 c2) :
    Calls Try.prog 46 #[.agg #[.int .i64 n, .slice A1 n1 c1, .slice A2 n2 c2]] w fun e w' => e = .returned (.bool (decide (0 ≤ n ∧ n ≤ 3) && decide (n1 = 11) && decide (n2 = 2) && !b1 && !b2)) ∧ Below w.heap.size w w' := by
  have hB : Aside0 (Below w.heap.size w (boxed w n A1 n1 c1 A2 n2 c2)) := ⟨below_alloc (Below.refl _ _) _⟩
  have H1 := Aside0.mk h1
  have H2 := Aside0.mk h2
  clear h1 h2
  cases e0 : decide (0 ≤ n ∧ n ≤ 3)
  · go_enter Try.func46, Try.ntmps46
    go_wp2_with fail
    refine (in_calls n 0 3 _).mono ?_
    rintro e w1 ⟨rfl, rfl⟩
    rw [e0]
    go_wp2_with fail
    go_ret
    exact ⟨rfl, hB.out⟩
  · by_cases e3 : n1 = 11
    · subst e3
      by_cases e4 : n2 = 2
      · subst e4
        cases b1
        · cases b2
          · go_enter Try.func46, Try.ntmps46
            go_wp2_with fail
            refine (in_calls n 0 3 _).mono ?_
            rintro e w1 ⟨rfl, rfl⟩
            rw [e0]
            go_wp2_with fail
            refine H1.out.mono ?_
            rintro e w1 ⟨rfl, rfl⟩
            go_wp2_with fail
            refine H2.out.mono ?_
            rintro e w1 ⟨rfl, rfl⟩
            go_wp2_with fail
            go_ret
            exact ⟨rfl, hB.out⟩
          · go_enter Try.func46, Try.ntmps46
            go_wp2_with fail
            refine (in_calls n 0 3 _).mono ?_
            rintro e w1 ⟨rfl, rfl⟩
            rw [e0]
            go_wp2_with fail
            refine H1.out.mono ?_
            rintro e w1 ⟨rfl, rfl⟩
            go_wp2_with fail
            refine H2.out.mono ?_
            rintro e w1 ⟨rfl, rfl⟩
            go_wp2_with fail
            go_ret
            exact ⟨rfl, hB.out⟩
        · go_enter Try.func46, Try.ntmps46
          go_wp2_with fail
          refine (in_calls n 0 3 _).mono ?_
          rintro e w1 ⟨rfl, rfl⟩
          rw [e0]
          go_wp2_with fail
          refine H1.out.mono ?_
          rintro e w1 ⟨rfl, rfl⟩
          go_wp2_with fail
          go_ret
          exact ⟨rfl, hB.out⟩
      · have g4 : ((n2 : Int) == 2) = false := beq_eq_false_iff_ne.mpr (by omega)
        have E4 := Aside0.mk e4
        clear e4
        go_enter Try.func46, Try.ntmps46
        go_wp2_with fail
        refine (in_calls n 0 3 _).mono ?_
        rintro e w1 ⟨rfl, rfl⟩
        rw [e0]
        go_wp2_with fail
        go_ret
        refine ⟨?_, hB.out⟩
        rw [decide_eq_false E4.out]
        rfl
    · have g3 : ((n1 : Int) == 11) = false := beq_eq_false_iff_ne.mpr (by omega)
      have E3 := Aside0.mk e3
      clear e3
      go_enter Try.func46, Try.ntmps46
      go_wp2_with fail
      refine (in_calls n 0 3 _).mono ?_
      rintro e w1 ⟨rfl, rfl⟩
      rw [e0]
      go_wp2_with fail
      go_ret
      refine ⟨?_, hB.out⟩
      rw [decide_eq_false E3.out]
      rfl
theorem formed_calls (n : Int) (A1 : Option Addr) (c1 : Nat) (l1 : List ByteArray) (A2 : Option Addr) (c2 : Nat) (l2 : List ByteArray) (w : World) (hl1 : Kd.C Kd.string w A1 l1.length l1) (hl2 : Kd.C Kd.string w A2 l2.length l2) (h1 : l1.length ≤ 4000000) (h2 : l2.length ≤ 4000000) :
    Calls Try.prog 46 #[.agg #[.int .i64 n, .slice A1 l1.length c1, .slice A2 l2.length c2]] w fun e w' => e = .returned (.bool (formedB n l1 l2)) ∧ Below w.heap.size w w' :=
  have hB : Below w.heap.size w (boxed w n A1 l1.length c1 A2 l2.length c2) := below_alloc (Below.refl _ _) _
  formed_walk n A1 l1.length c1 A2 l2.length c2 _ _ w (contains_calls l1 A1 c1 _ (Kd.C_below hl1 hB) h1 _ rfl) (contains_calls l2 A2 c2 _ (Kd.C_below hl2 hB) h2 _ rfl)
end Go.Proofs.Ytckjobcagniieaa.Formed
