/-
A struct of a whole number and two slices of strings among the arguments, opened: the number and the two lists.
Conditions: the type's shape.
-/
import Derived.Test.YtckjobcagniieaaRowst
import Derived.SliceStrings
namespace Go.Proofs.Ytckjobcagniieaa.Sig
open Go.RowKit Go.Proofs.YtckjobcagniieaaW.PrintWords Go.Deep Go.ChangeShapes Go.WideShapes
section
variable {H : Type} {enc : TypeId × Value → H} {P : Program} {w : World} {base : Nat} {spare : Nat → Bool} {held : Bool}
theorem strs_open {t e : TypeId} {fuel : Nat} {cs : List Value} {x : DataW H × List MemPlace} (ht : P.underlying t = some (.slice e)) (he : P.underlying e = some .string) (hc : P.cellsOf e = 1) (h : DataW.trod enc P w base spare held fuel t cs = some x) :
    ∃ (A : Option Addr) (c : Nat) (l : List ByteArray), cs = [.slice A l.length c] ∧ Kd.C Kd.string w A l.length l ∧ l.length ≤ c ∧ l.length ≤ maxLen ∧ ∀ s ∈ l, s.size ≤ maxLen := by
  rcases open_strings ht he hc h with ⟨rfl, _⟩ | ⟨a, len, cap, ss, rfl, _, hl, hm, hz, _, hcell, hsz⟩
  · exact ⟨none, 0, [], rfl, ⟨rfl, by simp, fun h => absurd h (by simp)⟩, Nat.le_refl _, Nat.zero_le _, fun s hs => by cases hs⟩
  · have hls : len ≤ ss.length := by rw [hz]; split <;> omega
    have hlen : (ss.take len).length = len := by rw [List.length_take]; omega
    refine ⟨some a, cap, ss.take len, by rw [hlen], ⟨rfl, by rw [hlen]; simp only [maxLen] at hm; omega, fun _ => ⟨a, rfl, fun j p hp => ?_⟩⟩, by rw [hlen]; exact hl, by rw [hlen]; omega, fun s hs => hsz s (List.mem_of_mem_take hs)⟩
    have hj : j < len := by
      have := (List.getElem?_eq_some_iff.1 hp).1
      omega
    rw [List.getElem?_take_of_lt hj] at hp
    have hg : ss.getD j ByteArray.empty = p := by rw [List.getD_eq_getElem?_getD, hp]; rfl
    refine ⟨[.string p], rfl, rfl, fun i u hu => ?_⟩
    cases i with
    | zero =>
      have hu' : Value.string p = u := by simpa using hu
      subst hu'
      have := hcell j (by omega)
      rw [hg] at this
      show w.cell? (a.add (j * 1 + 0)) = _
      rw [Nat.mul_one, Nat.add_zero]
      exact this
    | succ i => simp at hu
theorem sig_open {t ti ts te : TypeId} {f0 f1 f2 : Field} {m : Nat} {cs : List Value} {x : DataW H × List MemPlace} (hu : P.underlying t = some (.struct #[f0, f1, f2])) (h0 : f0.type = ti ∧ f0.offset = 0) (h1 : f1.type = ts ∧ f1.offset = 1) (h2 : f2.type = ts ∧ f2.offset = 2)
    (hi : P.underlying ti = some (.int .i64)) (hs : P.underlying ts = some (.slice te)) (he : P.underlying te = some .string) (hci : P.cellsOf ti = 1) (hcs : P.cellsOf ts = 1) (hce : P.cellsOf te = 1)
    (hl3 : cs.length = 3) (hx : DataW.trod enc P w base spare held m t cs = some x) :
    ∃ (n : Int) (A1 : Option Addr) (c1 : Nat) (l1 : List ByteArray) (A2 : Option Addr) (c2 : Nat) (l2 : List ByteArray), cs = [.int .i64 n, .slice A1 l1.length c1, .slice A2 l2.length c2] ∧ (Lit.int .i64 n).wf = true ∧
      Kd.C Kd.string w A1 l1.length l1 ∧ l1.length ≤ c1 ∧ l1.length ≤ maxLen ∧ (∀ s ∈ l1, s.size ≤ maxLen) ∧ Kd.C Kd.string w A2 l2.length l2 ∧ l2.length ≤ c2 ∧ l2.length ≤ maxLen ∧ ∀ s ∈ l2, s.size ≤ maxLen := by
  obtain ⟨xs, n', rfl, _, hl, hxl, hf⟩ := DataW.trod_struct hu hx
  match cs, hl3 with
  | [v0, v1, v2], _ =>
    have e0 := hf 0 f0 rfl
    have e1 := hf 1 f1 rfl
    have e2 := hf 2 f2 rfl
    have g : ∀ i, i < 3 → ∃ y, xs[i]? = some y := fun i hi => ⟨xs[i]'(by rw [hxl]; exact hi), List.getElem?_eq_getElem _⟩
    obtain ⟨y0, z0⟩ := g 0 (by omega)
    obtain ⟨y1, z1⟩ := g 1 (by omega)
    obtain ⟨y2, z2⟩ := g 2 (by omega)
    rw [h0.1, h0.2, hci, z0] at e0
    rw [h1.1, h1.2, hcs, z1] at e1
    rw [h2.1, h2.2, hcs, z2] at e2
    obtain ⟨n, hn, _, hw⟩ := DataW.trod_int hi e0
    obtain ⟨A1, c1, l1, q1, r1⟩ := strs_open hs he hce e1
    obtain ⟨A2, c2, l2, q2, r2⟩ := strs_open hs he hce e2
    simp at hn q1 q2
    subst hn q1 q2
    exact ⟨n, A1, c1, l1, A2, c2, l2, rfl, hw, r1.1, r1.2.1, r1.2.2.1, r1.2.2.2, r2⟩
end
end Go.Proofs.Ytckjobcagniieaa.Sig
