/- What the code that one law of the given program reaches computes, function by function, each with its proof over the given translation.
Conditions: none of our own. (Laid by a program of this session, wip/xp/xp.py; some contracts are typed by hand.) -/
import Derived.Test.YtckjobcagniieaaPFnExactSignedByx7
namespace Go.Proofs.Ytckjobcagniieaa.PFnExactSignedBy
open Go.RowKit Go.Proofs.YtckjobcagniieaaW.PrintWords Go.Proofs.YtckjobcagniieaaW.PrintLast Go.Proofs.YtckjobcagniieaaW.PrintMore
attribute [local go_sem] max2_int min2_int max_two min_two max_three min_three max_four min_four   -- for this text's walks alone
set_option linter.unusedVariables false
set_option linter.unusedSimpArgs false

/-- THE ONE PURE STATEMENT of laws_FnExactSignedBy: yours. -/
def laws_FnExactSignedBy.Pure : Prop := ∀ (a0 a1 : ByteArray) (n : Int) (l1 l2 : List ByteArray), a0.size ≤ 140737488351232 → a1.size ≤ 140737488351232 → (Lit.int .i64 n).wf = true → l1.length ≤ maxLen → (∀ s ∈ l1, s.size ≤ maxLen) → l2.length ≤ maxLen → (∀ s ∈ l2, s.size ≤ maxLen) → ∃ k, laws_FnExactSignedBy.f k a0 a1 n l1 l2 = some true
theorem laws_FnExactSignedBy.walk (P : laws_FnExactSignedBy.Pure) (a0 a1 : ByteArray) (n : Int) (A1 : Option Addr) (c1 : Nat) (l1 : List ByteArray) (A2 : Option Addr) (c2 : Nat) (l2 : List ByteArray) (w : World) (y0 : a0.size ≤ 140737488351232) (y1 : a1.size ≤ 140737488351232) (hn : (Lit.int .i64 n).wf = true)
    (h1 : Kd.C Kd.string w A1 l1.length l1) (k1 : l1.length ≤ c1) (m1 : l1.length ≤ maxLen) (s1 : ∀ s ∈ l1, s.size ≤ maxLen) (h2 : Kd.C Kd.string w A2 l2.length l2) (k2 : l2.length ≤ c2) (m2 : l2.length ≤ maxLen) (s2 : ∀ s ∈ l2, s.size ≤ maxLen) :
    Calls Try.prog 5 #[.string a0, .string a1, .agg #[.int .i64 n, .slice A1 l1.length c1, .slice A2 l2.length c2]] w fun e w' => e = .returned (.bool true) ∧ Below w.heap.size w w' := by
  obtain ⟨k, h⟩ := P a0 a1 n l1 l2 y0 y1 hn m1 s1 m2 s2
  refine (laws_FnExactSignedBy.calls k a0 a1 n A1 c1 l1 A2 c2 l2 true w h1 k1 h2 k2 h rfl).mono ?_
  rintro e w' ⟨rfl, hd⟩
  exact ⟨rfl, hd⟩

end Go.Proofs.Ytckjobcagniieaa.PFnExactSignedBy
