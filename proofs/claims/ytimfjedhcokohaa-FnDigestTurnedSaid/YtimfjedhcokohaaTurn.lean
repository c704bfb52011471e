/-
A text with one byte turned (laws.turned) comes to a plain function.
Conditions: the text is not empty; the list has two numbers, none below 0.
-/
import Derived.Test.YtimfjedhcokohaaPad
namespace Go.Proofs.Ytimfjedhcokohaa.Turn
open Go.RowKit Go.Proofs.YtimfjedhcokohaaW.PrintWords Go.Proofs.YtimfjedhcokohaaW.PrintLast Go.Proofs.YtimfjedhcokohaaW.PrintMore Go.Proofs.Ytimfjedhcokohaa.Pad
set_option linter.unusedVariables false
set_option linter.unusedSimpArgs false
def turnB (t : ByteArray) (i : Nat) (m : Int) : ByteArray := strOfNums ((byt t).set i (Go.bits .xor .u8 (bt t (i : Int)) m))
theorem nums_get (k : IntKind) (l : List Int) (q : Nat) (h : q < l.length) : (nums k l)[q]? = some (.int k (l.getD q 0)) := by
  simp [nums, List.getD_eq_getElem?_getD, List.getElem?_eq_getElem h]
theorem BR.set {w : World} {base g cap : Nat} {xs : List Int} (h : BR w base g cap xs) (i : Nat) (x : Int) : BR (w.setCell ⟨g, i, none⟩ (.int .u8 x)) base g cap (xs.set i x) := by
  obtain ⟨cur, fz, h0, hg, hf, hl, hm, hc, ht⟩ := h
  refine ⟨cur.setIfInBounds i (.int .u8 x), fz, h0, ?_, hf, by simpa using hl, hm, by simpa using hc, ?_⟩
  · rw [setCell_eq_setRow w g i cur _ fz _ hg]; exact setRow_heap w g cur _ _ fz hg
  · rw [Array.toList_setIfInBounds, List.length_set, List.take_set, ht]
    simp [nums, List.map_set]
set_option maxHeartbeats 8000000 in
set_option maxRecDepth 100000 in
theorem turned_calls (t : ByteArray) (A1 : Option Addr) (c1 : Nat) (l1 : List Int) (w : World) (hr1 : Kd.C (Kd.int .i64) w A1 l1.length l1) (hc1 : l1.length ≤ c1) (ht : 0 < t.size) (ht2 : t.size ≤ 140737488355328) (hl : 2 ≤ l1.length) (a c : Nat) (ha : rd l1 0 = (a : Int)) (hc : rd l1 1 = (c : Int)) (ha2 : a ≤ 1000000000) (hc2 : c ≤ 1000000000) :
    Calls Try.prog 52 #[.string t, .slice A1 l1.length c1] w fun e w' => e = .returned (.string (turnB t (a % t.size) (1 + (c : Int) % 255))) ∧ Below w.heap.size w w' := by
  have hr2 := Kd.C_below hr1 (below_conv w t)
  obtain ⟨ad, ea, hx0⟩ := Kd.at_int hr2 0 (by omega) (by omega)
  cases ea
  obtain ⟨ad', ea, hx1⟩ := Kd.at_int hr2 1 (by omega) (by omega)
  cases ea
  rw [ha] at hx0
  rw [hc] at hx1
  simp only [Int.toNat_zero, Int.toNat_one] at hx0 hx1
  have HX0 := Aside0.mk hx0
  have HX1 := Aside0.mk hx1
  clear hr2
  have HB := Aside0.mk (BR.conv w t (by omega))
  have HL := Aside0.mk (below_conv w t)
  have cv := Go.Lib.run_convert_string_bytes (P := Try.prog) w 9 32 5 t Try.underlying9 Try.underlying32 Try.underlying5
  clear hx0 hx1 hr1
  go_enter Try.func52, Try.ntmps52
  go_wp2_with fail
  clear cv
  have hlt : a % t.size < t.size := Nat.mod_lt _ ht
  have hcell : (Lib.bytesWorld w 5 t).cell? ⟨w.heap.size, a % t.size, none⟩ = some (.int .u8 (bt t ((a % t.size : Nat) : Int))) := HB.out.cell _ _ (by
    have e : (nums .u8 (byt t))[a % t.size]? = some (.int .u8 (rd (bytesOf t) ((a % t.size : Nat) : Int))) := by
      rw [List.getElem?_eq_getElem (by simp [nums, byt_len, hlt])]
      simp only [nums, List.getElem_map, rd, Int.toNat_natCast, List.getD_eq_getElem?_getD]
      rw [List.getElem?_eq_getElem (by rw [bytesOf_length]; exact hlt)]
      rfl
    rw [e, rd_bytesOf])
  have hsp := HB.out.spare (a % t.size) (by obtain ⟨cur, fz, _, _, _, hl, _⟩ := HB.out; rw [byt_len] at hl; omega)
  have hfz := hsp.2
  have hx0 := HX0.out
  have hx1 := HX1.out
  rw [show ad.add 0 = ad by unfold Addr.add; split <;> simp_all] at hx0
  rw [show ad.add 1 = (⟨ad.block, ad.off + 1, none⟩ : Addr) from rfl] at hx1
  have e1 : Int.tmod (a : Int) (t.size : Int) = ((a % t.size : Nat) : Int) := rfl
  have e2 : Int.tmod (c : Int) 255 = ((c % 255 : Nat) : Int) := rfl
  clear HX0 HX1 hsp
  have HT := Aside0.mk ht
  go_region
  clear hx0 hx1 e1 e2 hcell hfz
  have ei : ((a % t.size : Nat) : Int) = (a : Int) % (t.size : Int) := rfl
  rw [← ei]
  have HB2 := Aside0.mk (BR.set HB.out (a % t.size) (Go.bits .xor .u8 (bt t ((a % t.size : Nat) : Int)) (1 + (c : Int) % 255)))
  have HL2 := Aside0.mk (below_drew (Below.setCell HL.out (p := ⟨w.heap.size, a % t.size, none⟩) (Nat.le_refl _) (.int .u8 (Go.bits .xor .u8 (bt t ((a % t.size : Nat) : Int)) (1 + (c : Int) % 255)))))
  have HB3 : Aside0 (BR (((Lib.bytesWorld w 5 t).setCell ⟨w.heap.size, a % t.size, none⟩ (.int .u8 (Go.bits .xor .u8 (bt t ((a % t.size : Nat) : Int)) (1 + (c : Int) % 255)))).drew) w.heap.size w.heap.size (grownCap w t.size 0 5) ((byt t).set (a % t.size) (Go.bits .xor .u8 (bt t ((a % t.size : Nat) : Int)) (1 + (c : Int) % 255)))) := ⟨HB2.out.mono rfl⟩
  clear HB HL HB2 ei hlt ht
  generalize (((Lib.bytesWorld w 5 t).setCell ⟨w.heap.size, a % t.size, none⟩ (.int .u8 (Go.bits .xor .u8 (bt t ((a % t.size : Nat) : Int)) (1 + (c : Int) % 255)))).drew) = w5 at HL2 HB3 ⊢
  have hst := run_convert_bytes_arg (P := Try.prog) w5 32 5 Try.underlying32 Try.underlying5 w.heap.size 0 t.size (grownCap w t.size 0 5) ((byt t).set (a % t.size) (Go.bits .xor .u8 (bt t ((a % t.size : Nat) : Int)) (1 + (c : Int) % 255))) (by rw [List.length_set, byt_len]) (fun q hq => by
    rw [Nat.zero_add]
    refine HB3.out.cell q _ ?_
    have hq2 : q < ((byt t).set (a % t.size) (Go.bits .xor .u8 (bt t ((a % t.size : Nat) : Int)) (1 + (c : Int) % 255))).length := by rw [List.length_set, byt_len]; exact hq
    exact nums_get _ _ q hq2) 9 Try.underlying9
  go_wp2_with fail
  go_ret
  exact ⟨rfl, HL2.out⟩
end Go.Proofs.Ytimfjedhcokohaa.Turn
