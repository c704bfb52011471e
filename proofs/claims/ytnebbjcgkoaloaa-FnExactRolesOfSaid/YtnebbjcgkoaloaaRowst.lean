/-
A slice of structs whose cells are whole numbers, opened: the list of its elements, each as the print's kinds tell it.
Conditions: the element type's shape, told by 'kindsAt'.
-/
import Derived.Test.YtnebbjcgkoaloaaFlat
import Derived.Test.YtnebbjcgkoaloaaVWords
import Derived.Deep.Slices
namespace Go.Proofs.Ytnebbjcgkoaloaa.Rowst
open Go.RowKit Go.Proofs.YtnebbjcgkoaloaaW.PrintWords Go.Deep Go.ChangeShapes Go.WideShapes Go.Proofs.Ytnebbjcgkoaloaa.Flat
theorem rows_of {α : Type} (R : α → List Value → Prop) (size : Nat) (W : World) (a : Addr) : ∀ len : Nat, len ≤ 9223372036854775807 →
    (∀ i, i < len → ∃ s cs, cs.length = size ∧ R s cs ∧ ∀ (j : Nat) (u : Value), cs[j]? = some u → W.cell? (a.add (i * size + j)) = some u) →
    ∃ l : List α, l.length = len ∧ ReadsRow R size W (some a) len l := by
  intro len
  induction len with
  | zero => intro _ _; exact ⟨[], rfl, rfl, by omega, fun h => absurd h (by omega)⟩
  | succ n ih =>
    intro hn h
    obtain ⟨l, hl, hr⟩ := ih (by omega) (fun i hi => h i (by omega))
    obtain ⟨s, cs, h1, h2, h3⟩ := h n (by omega)
    refine ⟨l ++ [s], by rw [List.length_append, hl]; rfl, by rw [List.length_append, hl]; rfl, hn, fun _ => ⟨a, rfl, fun j p hp => ?_⟩⟩
    by_cases hj : j < n
    · rw [List.getElem?_append_left (by omega)] at hp
      obtain ⟨ad, e, hc⟩ := hr.2.2 (by omega)
      cases e
      exact hc j p hp
    · have hj2 : j = n := by
        have := (List.getElem?_eq_some_iff.1 hp).1
        rw [List.length_append, hl] at this
        simp at this
        omega
      subst hj2
      rw [List.getElem?_append_right (by omega), hl, Nat.sub_self] at hp
      cases hp
      exact ⟨cs, h1, h2, h3⟩
section
variable {H : Type} {enc : TypeId × Value → H} {P : Program} {w : World} {base : Nat} {spare : Nat → Bool} {held : Bool}
theorem slice_of {α : Type} (R : α → List Value → Prop) {t e : TypeId} {ks : List IntKind} (ht : P.underlying t = some (.slice e)) (hk : kindsAt P 6 e = some ks) (hC : P.cellsOf e = ks.length)
    (hR : ∀ zs : List Int, zs.length = ks.length → ∃ s : α, R s (ints ks zs)) {a0 : Option Addr} {len0 cap0 fuel : Nat} {x : DataW H × List MemPlace}
    (h : DataW.trod enc P w base spare held fuel t [.slice a0 len0 cap0] = some x) :
    ∃ l : List α, l.length = len0 ∧ ReadsRow R ks.length w a0 len0 l ∧ len0 ≤ cap0 ∧ len0 ≤ maxLen := by
  rcases open_slice ht h with ⟨hcs, _⟩ | ⟨a, len, cap, m, n, D, Pl, hcs, hb, hl, hm, hmm, hx, hi⟩
  · simp at hcs
    obtain ⟨rfl, rfl, rfl⟩ := hcs
    exact ⟨[], rfl, ⟨rfl, by omega, fun h => absurd h (by omega)⟩, by omega, by omega⟩
  · simp at hcs
    obtain ⟨rfl, rfl, rfl⟩ := hcs
    have hlm : len0 ≤ m := by rw [hmm]; split <;> omega
    obtain ⟨l, h1, h2⟩ := rows_of R ks.length w a len0 (by simp only [maxLen] at hm; omega) (fun i hi' => by
      obtain ⟨cs', hc, ht'⟩ := hi i (by omega)
      obtain ⟨zs, e1, e2, e3⟩ := flat_open 6 e ks n cs' _ hk ht' hC
      obtain ⟨s, hs⟩ := hR zs e1
      obtain ⟨_, hcl, hat⟩ := World.cells?_some hc
      refine ⟨s, cs', by rw [hcl, hC], by rw [e2]; exact hs, fun j u hu => ?_⟩
      have hj : j < cs'.length := (List.getElem?_eq_some_iff.1 hu).1
      rw [← Go.Deep.add_add, ← hC, hat j (by omega)]
      exact hu)
    exact ⟨l, h1, h2, hl, by omega⟩
end
end Go.Proofs.Ytnebbjcgkoaloaa.Rowst
