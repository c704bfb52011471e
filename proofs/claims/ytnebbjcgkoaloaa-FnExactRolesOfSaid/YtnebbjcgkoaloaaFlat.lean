/-
A struct whose cells are whole numbers, also inside further structs, opened: its value is the row of its numbers.
Conditions: its type's shape, told by 'kindsAt' (found by reckoning).
-/
import Derived.ChangeArms
import Derived.WideShapes
import Derived.WalkKit
import Derived.ProofKit
namespace Go.Proofs.Ytnebbjcgkoaloaa.Flat
open Go.ChangeShapes Go.WideShapes Go.RowKit
def fieldsK (g : TypeId → Option (List IntKind)) (P : Program) : Nat → List Field → Option (List IntKind)
  | _, [] => some []
  | off, f :: fs =>
    match g f.type with
    | some ks => if f.offset = off ∧ P.cellsOf f.type = ks.length then (match fieldsK g P (off + ks.length) fs with | some r => some (ks ++ r) | none => none) else none
    | none => none
def kindsAt (P : Program) : Nat → TypeId → Option (List IntKind)
  | 0, _ => none
  | n + 1, t =>
    match P.underlying t with
    | some (.int k) => some [k]
    | some (.struct fs) => fieldsK (kindsAt P n) P 0 fs.toList
    | _ => none
def ints (ks : List IntKind) (zs : List Int) : List Value := List.zipWith Value.int ks zs
def wfs (ks : List IntKind) (zs : List Int) : Prop := ∀ p ∈ List.zip ks zs, (Lit.int p.1 p.2).wf = true
theorem ints_app {k1 k2 : List IntKind} {z1 z2 : List Int} (h : k1.length = z1.length) : ints (k1 ++ k2) (z1 ++ z2) = ints k1 z1 ++ ints k2 z2 := by
  unfold ints; rw [List.zipWith_append h]
theorem wfs_app {k1 k2 : List IntKind} {z1 z2 : List Int} (h : k1.length = z1.length) (h1 : wfs k1 z1) (h2 : wfs k2 z2) : wfs (k1 ++ k2) (z1 ++ z2) := by
  intro p hp
  rw [List.zip_append h] at hp
  rcases List.mem_append.1 hp with hp | hp
  · exact h1 p hp
  · exact h2 p hp
section
variable {H : Type} {enc : TypeId × Value → H} {P : Program} {w : World} {base : Nat} {spare : Nat → Bool} {held : Bool}
theorem fields_open (n : Nat) (IH : ∀ (t : TypeId) (ks : List IntKind) (m : Nat) (cs : List Value) (x : DataW H × List MemPlace), kindsAt P n t = some ks → DataW.trod enc P w base spare held m t cs = some x → P.cellsOf t = ks.length → ∃ zs : List Int, zs.length = ks.length ∧ cs = ints ks zs ∧ wfs ks zs) :
    ∀ (fs : List Field) (off : Nat) (ks : List IntKind) (cs : List Value), fieldsK (kindsAt P n) P off fs = some ks → cs.length = off + ks.length →
      (∀ f ∈ fs, ∃ m x, DataW.trod enc P w base spare held m f.type ((cs.drop f.offset).take (P.cellsOf f.type)) = some x) → ∃ zs : List Int, zs.length = ks.length ∧ cs.drop off = ints ks zs ∧ wfs ks zs := by
  intro fs
  induction fs with
  | nil =>
    intro off ks cs h hl _
    simp only [fieldsK, Option.some.injEq] at h
    subst h
    exact ⟨[], rfl, by simp only [List.length_nil, Nat.add_zero] at hl; rw [List.drop_of_length_le (by omega)]; rfl, fun p hp => by simp at hp⟩
  | cons f fs ih =>
    intro off ks cs h hl hf
    simp only [fieldsK] at h
    cases hk : kindsAt P n f.type with
    | none => rw [hk] at h; simp at h
    | some k1 =>
      rw [hk] at h
      simp only at h
      by_cases hc : f.offset = off ∧ P.cellsOf f.type = k1.length
      · rw [if_pos hc] at h
        cases hr : fieldsK (kindsAt P n) P (off + k1.length) fs with
        | none => rw [hr] at h; simp at h
        | some k2 =>
          rw [hr] at h
          simp only [Option.some.injEq] at h
          subst h
          rw [List.length_append] at hl
          obtain ⟨m, x, hx⟩ := hf f (by simp)
          obtain ⟨z1, l1, e1, w1⟩ := IH _ _ _ _ _ hk hx hc.2
          obtain ⟨z2, l2, e2, w2⟩ := ih (off + k1.length) k2 cs hr (by omega) (fun g hg => hf g (by simp [hg]))
          refine ⟨z1 ++ z2, by rw [List.length_append, List.length_append, l1, l2], ?_, wfs_app l1.symm w1 w2⟩
          rw [ints_app l1.symm, ← e1, ← e2, hc.1, hc.2, ← List.drop_drop, List.take_append_drop]
      · rw [if_neg hc] at h; simp at h
theorem flat_open : ∀ (n : Nat) (t : TypeId) (ks : List IntKind) (m : Nat) (cs : List Value) (x : DataW H × List MemPlace), kindsAt P n t = some ks → DataW.trod enc P w base spare held m t cs = some x → P.cellsOf t = ks.length → ∃ zs : List Int, zs.length = ks.length ∧ cs = ints ks zs ∧ wfs ks zs := by
  intro n
  induction n with
  | zero => intro t ks m cs x h; simp [kindsAt] at h
  | succ n ih =>
    intro t ks m cs x h hx hC
    simp only [kindsAt] at h
    cases hu : P.underlying t with
    | none => rw [hu] at h; simp at h
    | some d =>
      rw [hu] at h
      cases d with
      | int k =>
        simp only [Option.some.injEq] at h
        subst h
        obtain ⟨z, rfl, _, hw⟩ := DataW.trod_int hu hx
        exact ⟨[z], rfl, rfl, fun p hp => by simp at hp; subst hp; exact hw⟩
      | struct fs =>
        simp only at h
        obtain ⟨xs, n', rfl, _, hl, hxl, hf⟩ := DataW.trod_struct hu hx
        have := fields_open n ih fs.toList 0 ks cs h (by omega) (fun f hf' => by
          obtain ⟨i, hi⟩ := List.mem_iff_getElem?.1 hf'
          have hi' : fs[i]? = some f := by simpa using hi
          have hlt : i < fs.size := (Array.getElem?_eq_some_iff.1 hi').1
          exact ⟨n', xs[i]'(by omega), by rw [hf i f hi', List.getElem?_eq_getElem (by omega)]⟩)
        simpa using this
      | _ => simp at h
end
end Go.Proofs.Ytnebbjcgkoaloaa.Flat
