/- The reference's Decimal writes the decimal numeral: plain Lean, no program in sight.
Conditions: none but the range of int. -/
import Derived.Test.YtelnbjlhlklngaaDoorDecA
import Derived.Lib.ItoaLen
namespace Go.Proofs.YtelnbjlhlklngaaDoor.DecP
open Go.RowKit Go.Lib
open Go.Proofs.YtelnbjlhlklngaaDoorW.PrintWords
open Go.Proofs.YtelnbjlhlklngaaDoor.PFnExactDecimal

theorem w64 {n : Int} (h1 : -9223372036854775808 ≤ n) (h2 : n ≤ 9223372036854775807) : wrap64 n = n := IntWalk.wrap64_in n ⟨h1, h2⟩
theorem fig (d : Nat) (h : d < 10) : spec_l01Figure.f (d : Int) = some ((48 + d : Nat) : Int) := by
  unfold spec_l01Figure.f
  rw [if_pos (by omega), w64 (by omega) (by omega)]
  congr 1
  omega
theorem strFig (d : Nat) : strOfNums [((48 + d : Nat) : Int)] = ⟨#[UInt8.ofNat (48 + d)]⟩ := rfl
theorem parts (x : Int) : (Int.tmod x 10 < 0 → -(Int.tmod x 10) = ((x.natAbs % 10 : Nat) : Int)) ∧ (¬ Int.tmod x 10 < 0 → Int.tmod x 10 = ((x.natAbs % 10 : Nat) : Int)) ∧ (Int.tdiv x 10).natAbs = x.natAbs / 10 := by
  have h2 := Int.natAbs_tdiv x 10
  have h3 := Int.natAbs_tmod x 10
  refine ⟨?_, ?_, ?_⟩
  · intro h; have : (Int.tmod x 10).natAbs = x.natAbs % 10 := h3; omega
  · intro h; have : (Int.tmod x 10).natAbs = x.natAbs % 10 := h3; omega
  · exact h2
theorem step (k : Nat) (x : Int) (b : Bool) (s : ByteArray) (h0 : -9223372036854775808 ≤ x) (h1 : x ≤ 9223372036854775807) (hx : x ≠ 0) (hs : s.size ≤ 1000) :
    spec_Decimal.l0 (k + 1) x b s = spec_Decimal.l0 k (Int.tdiv x 10) b (⟨#[UInt8.ofNat (48 + x.natAbs % 10)]⟩ ++ s) := by
  obtain ⟨p1, p2, p3⟩ := parts x
  have hd : x.natAbs % 10 < 10 := Nat.mod_lt _ (by decide)
  have hq : wrap64 (Int.tdiv x 10) = Int.tdiv x 10 := by
    have : x.natAbs / 10 ≤ x.natAbs := Nat.div_le_self _ _
    apply w64 <;> omega
  have hsz : (strOfNums [((48 + x.natAbs % 10 : Nat) : Int)]).size + s.size ≤ 9223372036854775807 := by
    have : (strOfNums [((48 + x.natAbs % 10 : Nat) : Int)]).size = 1 := rfl
    omega
  rw [spec_Decimal.l0, if_neg hx, hq]
  split
  · rename_i h
    rw [p1 h, w64 (by omega) (by omega), fig _ hd]
    simp only [Option.bind_some]
    rw [if_pos hsz, strFig]
  · rename_i h
    rw [p2 h, fig _ hd]
    simp only [Option.bind_some]
    rw [if_pos hsz, strFig]
def pre (b : Bool) : ByteArray := if b then ⟨#[45]⟩ else ⟨#[]⟩
theorem zero (b : Bool) (s : ByteArray) (hs : s.size ≤ 1000) : spec_Decimal.l0 1 0 b s = some (pre b ++ s) := by
  rw [spec_Decimal.l0, if_pos rfl]
  cases b
  · simp [pre]
    apply ByteArray.ext; simp
  · rw [if_pos rfl, if_pos (by omega)]; rfl
theorem loop : ∀ (u : Nat) (x : Int) (b : Bool) (s : ByteArray), x.natAbs = u → -9223372036854775808 ≤ x → x ≤ 9223372036854775807 → x ≠ 0 → s.size + nDigits u ≤ 1000 →
    ∃ k, spec_Decimal.l0 k x b s = some (pre b ++ (⟨(decDigits u).toArray⟩ ++ s)) := by
  intro u
  induction u using Nat.strongRecOn with
  | _ u ih =>
    intro x b s hu h0 h1 hx hs
    have hd := (parts x).2.2
    rw [hu] at hd
    by_cases h10 : u < 10
    · refine ⟨2, ?_⟩
      have hz : Int.tdiv x 10 = 0 := by omega
      rw [step 1 x b s h0 h1 hx (by omega), hz, zero _ _ (by
        rw [nDigits_small h10] at hs
        have : (ByteArray.mk #[UInt8.ofNat (48 + x.natAbs % 10)] ++ s).size = 1 + s.size := by rw [ByteArray.size_append]; rfl
        omega)]
      rw [hu, Nat.mod_eq_of_lt h10, decDigits, dif_pos h10]
    · have hn : nDigits u = nDigits (u / 10) + 1 := by rw [nDigits, dif_neg h10]
      obtain ⟨k, e⟩ := ih (u / 10) (by omega) (Int.tdiv x 10) b (⟨#[UInt8.ofNat (48 + u % 10)]⟩ ++ s) hd (by omega) (by omega) (by omega) (by
        have : (ByteArray.mk #[UInt8.ofNat (48 + u % 10)] ++ s).size = 1 + s.size := by rw [ByteArray.size_append]; rfl
        omega)
      refine ⟨k + 1, ?_⟩
      rw [step k x b s h0 h1 hx (by omega), hu, e]
      have hu' : decDigits u = decDigits (u / 10) ++ [UInt8.ofNat (48 + u % 10)] := by rw [decDigits, dif_neg h10]
      rw [hu']
      congr 2
      apply ByteArray.ext; simp
theorem main (n : Int) (h0 : -9223372036854775808 ≤ n) (h1 : n ≤ 9223372036854775807) : ∃ k, spec_Decimal.f k n = some ⟨(itoa n).toArray⟩ := by
  by_cases hz : n = 0
  · subst hz
    refine ⟨0, ?_⟩
    rw [spec_Decimal.f, if_pos rfl]
    have : itoa 0 = [48] := by unfold itoa; rw [if_neg (by omega), decDigits, dif_pos (by decide)]; rfl
    rw [this]
  · obtain ⟨k, e⟩ := loop n.natAbs n (decide (n < 0)) ⟨#[]⟩ rfl h0 h1 hz (by
      have := nDigits_le20 n.natAbs (by omega)
      have : (ByteArray.mk #[]).size = 0 := rfl
      omega)
    refine ⟨k, ?_⟩
    rw [spec_Decimal.f, if_neg hz, e]
    unfold itoa pre
    congr 1
    by_cases hn : n < 0
    · rw [if_pos hn, if_pos (decide_eq_true hn)]
      apply ByteArray.ext; simp
    · rw [if_neg hn, decide_eq_false hn]
      have : n.toNat = n.natAbs := by omega
      rw [this]
      apply ByteArray.ext; simp
end Go.Proofs.YtelnbjlhlklngaaDoor.DecP
