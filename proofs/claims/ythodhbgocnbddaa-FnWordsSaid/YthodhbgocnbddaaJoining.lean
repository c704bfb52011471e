/-
Why a row's joining facts hold where the program's order of beginnings starts with the words of a cut: the order is one long text, which is read once, by its first words alone.
Conditions: the first two words are 'cut' and 'at'; the program lays nothing later and bears no reflection.
-/
import Derived.JoinedTies
import Derived.ChangeFn
import Derived.JoinedOf
namespace Go.Proofs.Ythodhbgocnbddaa.Joining
theorem head2 {α : Type} {l : List α} {a b : α} (h : l.take 2 = [a, b]) : ∃ r, l = a :: b :: r := by
  match l, h with
  | x :: y :: r, h => simp only [List.take_succ_cons, List.take_zero, List.cons.injEq, and_true] at h; exact ⟨r, by rw [h.1, h.2]⟩
theorem words {P : Program} (h : ∃ l : List Char, P.initOrder = String.ofList l ∧ (behindMainWord (wordsSigns l)).take 2 = ["cut".toList, "at".toList]) : ∃ r, behindMainWord (wordsSigns P.initOrder.toList) = "cut".toList :: "at".toList :: r := by
  obtain ⟨l, h1, h2⟩ := h
  rw [h1, String.toList_ofList]
  exact head2 h2
theorem strip (r : List (List Char)) : stripLifts liftWords ("cut".toList :: "at".toList :: r) = ([], "cut".toList :: "at".toList :: r) := by rfl
theorem make {P : Program} (h : ∃ r, behindMainWord (wordsSigns P.initOrder.toList) = "cut".toList :: "at".toList :: r) : (P.make == some Make.cut) = true := by
  obtain ⟨r, h⟩ := h
  unfold Program.make
  rw [h]
  rfl
theorem lift {P : Program} (h : ∃ r, behindMainWord (wordsSigns P.initOrder.toList) = "cut".toList :: "at".toList :: r) : (false == P.liftsFinal) = true := by
  obtain ⟨r, h⟩ := h
  unfold Program.liftsFinal Program.headLifts
  simp only [h, strip]
  rfl
theorem may {P : Program} (h : ∃ r, behindMainWord (wordsSigns P.initOrder.toList) = "cut".toList :: "at".toList :: r) (h1 : P.laysLater = false) (h2 : P.bearsReflect = false) (h3 : P.doorFits [] = true) : P.mayEnter = true := by
  obtain ⟨r, h⟩ := h
  unfold Program.mayEnter
  rw [h]
  simp only [strip, h1, h2, h3]
  rfl
end Go.Proofs.Ythodhbgocnbddaa.Joining
