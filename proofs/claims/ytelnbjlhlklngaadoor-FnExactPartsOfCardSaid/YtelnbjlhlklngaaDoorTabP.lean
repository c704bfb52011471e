/- The table that strings.Fields reads, and how it stays; strings.Fields in the form that the texts of the laws take.
Conditions: the table of white space lies where the program's text lays it. -/
import Derived.Test.YtelnbjlhlklngaaDoorWMore
import Derived.Test.YtelnbjlhlklngaaDoorShelf
import Derived.Lib.SmallJoins
import Derived.Lib.LaidTab
import Derived.LaidSub
import Derived.RangeFuncRecord
import Derived.MakeChecks
namespace Go.Proofs.YtelnbjlhlklngaaDoor.TabP
open Go.RowKit Go.Lib Go.Joins Go.Proofs.YtelnbjlhlklngaaDoorW.PrintWords Go.Proofs.YtelnbjlhlklngaaDoorW.PrintLast Go.Proofs.YtelnbjlhlklngaaDoorW.PrintMore

theorem gtab : Tryd.prog.globalNamed "strings.asciiSpace" = some 0 := by kernel_rfl
abbrev Tab (w : World) : Prop := Lib.TabIs Tryd.prog w "strings.asciiSpace" .u8 Lib.asciiSpaceTab
theorem tab_to {w w' : World} (h : Tab w) (hb : RowKit.Below w.heap.size w w') : Tab w' := tab_stays gtab h hb (Nat.le_refl _)
theorem tab_of {laid : List (String × DataW Unit)} {W : World} (e0 : (laid.all fun x => x.2.handleName?.isNone) = true) (e : (laid.filter fun x => x.1 == "strings.asciiSpace") = [("strings.asciiSpace", Lib.tabData .u8 Lib.asciiSpaceTab)])
    (h : laidMetH Tryd.prog laid W) : Tab W := by
  rw [MakeChecks.laidMetH_plain _ _ _ e0] at h
  have h2 := h.filter (fun x => x.1 == "strings.asciiSpace")
  rw [e] at h2
  exact Lib.tabIs_of_head (n := 256) (t := 59) (e := 5) gtab (by kernel_rfl) (by kernel_rfl) (by kernel_rfl) (by kernel_rfl) (by kernel_rfl) h2
theorem cnt_le : ∀ (b : Bool) (l : List UInt8), Lib.cntF b l ≤ l.length
  | _, [] => Nat.le_refl _
  | b, x :: l => by
    have := cnt_le (Lib.isSp x) l
    rw [Lib.cntF, List.length_cons]
    split <;> omega
theorem fields_own (w : World) (l : List ByteArray) (hl : l.length ≤ maxLen) :
    (w.alloc (.cells (l.map Value.string).toArray 9)).ownsRow w.heap.size 9 1 (.slice (some ⟨w.heap.size, 0, none⟩) l.length l.length) l.length (encs Value.string l) := by
  refine ⟨by simp [encs], .inr ⟨w.heap.size, l.length, (l.map Value.string).toArray, rfl, Nat.le_refl _, ?_, Nat.le_refl _, hl, by simp, ?_⟩⟩
  · rw [World.alloc_heap_new]
  · simp only [encs, Nat.mul_one]; rw [List.take_of_length_le (by simp)]
def fieldsB (s : ByteArray) : List ByteArray := (Lib.fields s.data.toList).map fun l => ⟨l.toArray⟩
theorem fields_R (s : ByteArray) (w : World) (hs : s.size < 4294967281) (hascii : ∀ (j : Nat) b, s.data.toList[j]? = some b → b.toNat < 128) (htab : Tab w) :
    Calls Tryd.prog 27 #[.string s] w fun e w' => ∃ v0_ : Value, e = .returned v0_ ∧ Kd.R Kd.string 9 w' w.heap.size (fun _ => True) v0_ (fieldsB s) ∧ Below w.heap.size w w' :=
  (Tryd.strings_Fields s w hs hascii htab).mono fun e w' ⟨he, hw⟩ => by
    have hl : (fieldsB s).length = (Lib.fields s.data.toList).length := by simp [fieldsB]
    have hm : (fieldsB s).length ≤ maxLen := by
      have h1 := Lib.fields_length s.data.toList
      have h2 := cnt_le true s.data.toList
      have h3 : s.data.toList.length = s.size := by rw [Array.length_toList]; rfl
      have h4 : maxLen = 9223372036854775807 := rfl
      omega
    have h := fields_own w (fieldsB s) hm
    refine ⟨_, he, ?_, ?_⟩
    · rw [hw, ← hl]
      have e1 : ((Lib.fields s.data.toList).map fun l => Value.string ⟨l.toArray⟩) = (fieldsB s).map Value.string := by simp [fieldsB]
      rw [e1]
      exact Kd.R_of_own h (fun _ _ => trivial)
    · rw [hw]; exact below_alloc (Below.refl _ _) _
end Go.Proofs.YtelnbjlhlklngaaDoor.TabP
