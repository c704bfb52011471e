/- The tables and the two errors that strconv.Itoa and strconv.Atoi read, and how they stay; impl.Decimal and impl.ReadDecimal.
Conditions: the table and the two errors lie where the program's text lays them. -/
import Derived.Test.YtelnbjlhlklngaaDoorPFnExactDecimalx0
import Derived.Test.YtelnbjlhlklngaaDoorWMore
import Derived.Test.YtelnbjlhlklngaaDoorWGuard
import Derived.Test.YtelnbjlhlklngaaDoorShelfN
import Derived.Lib.SmallJoins
import Derived.Lib.AppendIntMem
import Derived.Lib.LaidTab
import Derived.Lib.AtoiErrMem
import Derived.Stop.LaidErr
import Derived.LaidSub
import Derived.MakeChecks
namespace Go.Proofs.YtelnbjlhlklngaaDoor.TabN
open Go.RowKit Go.Lib Go.Joins Go.Sort Go.Proofs.YtelnbjlhlklngaaDoorW.PrintWords Go.Proofs.YtelnbjlhlklngaaDoorW.PrintLast Go.Proofs.YtelnbjlhlklngaaDoorW.PrintMore
set_option linter.unusedVariables false
set_option linter.unusedSimpArgs false

theorem gpow : Tryd.prog.globalNamed "internal/strconv.uint64pow10" = some 5 := by kernel_rfl
theorem gsyn : Tryd.prog.globalNamed "strconv.ErrSyntax" = some 2 := by kernel_rfl
theorem gran : Tryd.prog.globalNamed "strconv.ErrRange" = some 3 := by kernel_rfl
abbrev Tab10 (w : World) : Prop := Lib.TabIs Tryd.prog w "internal/strconv.uint64pow10" .u64 Lib.pow10Tab
theorem tab10_to {w w' : World} (h : Tab10 w) (hb : RowKit.Below w.heap.size w w') : Tab10 w' := tab_stays gpow h hb (Nat.le_refl _)
structure Tab (w : World) : Prop where
  ten : Tab10 w
  syn : ∃ tp p, w.var? Tryd.prog "strconv.ErrSyntax" = some #[.iface tp p]
  ran : ∃ tp p, w.var? Tryd.prog "strconv.ErrRange" = some #[.iface tp p]
theorem tab_to {w w' : World} (h : Tab w) (hb : RowKit.Below w.heap.size w w') : Tab w' :=
  ⟨tab10_to h.ten hb, by obtain ⟨tp, p, e⟩ := h.syn; exact ⟨tp, p, var_stays gsyn e hb (Nat.le_refl _)⟩, by obtain ⟨tp, p, e⟩ := h.ran; exact ⟨tp, p, var_stays gran e hb (Nat.le_refl _)⟩⟩
theorem below_itoa (w : World) (k : Nat) (os : Array Obj) : RowKit.Below w.heap.size w (grow (w.drewN k) os) := Go.Lib.below_grow _ _ (Nat.le_refl _) _ _
theorem below_of_drawn0 {w w' : World} (h : Drawn0 w w') : RowKit.Below w.heap.size w w' := by
  obtain ⟨k, rfl⟩ := h
  exact pw_below_drewN (Below.refl _ _) _
theorem Itoa (n : Int) (h0 : -9223372036854775808 ≤ n) (h1 : n ≤ 9223372036854775807) (w : World) (htab : Tab10 w) :
    Calls Tryd.prog 26 #[.int .i64 n] w fun e w' => e = .returned (.string ⟨(Lib.itoa n).toArray⟩) ∧ RowKit.Below w.heap.size w w' :=
  (Tryd.strconv_Itoa n h0 h1 w htab).mono fun e w' ⟨h, k, os, hw⟩ => ⟨h, hw ▸ below_itoa _ _ _⟩
set_option maxRecDepth 100000 in
theorem impl_Decimal.calls (n : Int) (h0 : -9223372036854775808 ≤ n) (h1 : n ≤ 9223372036854775807) (w : World) (htab : Tab10 w) :
    Calls Tryd.prog 8 #[.int .i64 n] w fun e w' => e = .returned (.string ⟨(Lib.itoa n).toArray⟩) ∧ RowKit.Below w.heap.size w w' := by
  have HB := Aside0.mk (RowKit.Below.refl w.heap.size w)
  go_enter Tryd.func8, Tryd.ntmps8
  go_wp2_with (first | ((with_reducible refine gate_callee (f := 26) rfl ?_); (try (refine gate_guard (by rfl) ?_; dsimp only)); refine goesL_ (some 4) rfl rfl Tryd.func26 (by kernel_rfl) rfl #[.int .i64 n] rfl (by (try simp only [List.map_toArray, List.map_cons, List.map_nil]); first | done | rfl) ?_; (with_reducible refine (Itoa n h0 h1 _ (tab10_to htab (by repeat (first | (with_reducible first | exact HB.out | apply below_alloc | apply pw_below_drewN | apply below_drew1) | exact HB.out)))).mono ?_); rintro e w6 ⟨rfl, hb⟩; refine ⟨_, rfl, ?_⟩; have n0_ := Aside0.mk (below_step (by repeat (first | (with_reducible first | exact HB.out | apply below_alloc | apply pw_below_drewN | apply below_drew1) | exact HB.out)) hb); clear HB; have HB := n0_; clear n0_; clear hb))
  go_ret
  exact ⟨by first | rfl, (by repeat (first | (with_reducible first | exact HB.out | apply below_alloc | apply pw_below_drewN | apply below_drew1) | exact HB.out))⟩
def impl_in.f (a0 : Int) (a1 : Int) (a2 : Int) : Option (Bool) := if a0 ≥ a1 then (some (decide (a0 ≤ a2))) else (some false)
set_option maxHeartbeats 8000000 in
set_option maxRecDepth 100000 in
theorem impl_in.calls (a0 : Int) (a1 : Int) (a2 : Int) (r : Bool) (w : World) (h : decide (a1 ≤ a0 ∧ a0 ≤ a2) = r) :
    Calls Tryd.prog 30 #[.int .i64 a0, .int .i64 a1, .int .i64 a2] w fun e w' => e = .returned (.bool r) ∧ Drawn0 w w' := by
  subst h
  by_cases c4 : a0 ≥ a1
  · have c4b0 : decide (a1 ≤ a0) = true := decide_eq_true c4
    have e : decide (a1 ≤ a0 ∧ a0 ≤ a2) = decide (a0 ≤ a2) := by simp [c4]
    rw [e]
    clear c4 e
    go_enter Tryd.func30, Tryd.ntmps30
    go_wp2
    go_ret
    exact ⟨by first | rfl | (simp; done) | (simp [*]; done), by repeat (first | exact Drawn0.refl _ | apply Drawn0.step)⟩
  · have c4b0 : decide (a1 ≤ a0) = false := decide_eq_false c4
    have e : decide (a1 ≤ a0 ∧ a0 ≤ a2) = false := decide_eq_false (fun h => c4 h.1)
    rw [e]
    clear c4 e
    go_enter Tryd.func30, Tryd.ntmps30
    go_wp2
    go_ret
    exact ⟨by first | rfl | (simp; done) | (simp [*]; done), by repeat (first | exact Drawn0.refl _ | apply Drawn0.step)⟩

set_option maxHeartbeats 8000000 in
set_option maxRecDepth 100000 in
theorem rd_err (s : ByteArray) (n : Int) (w : World) (H : ∀ W, RowKit.Below w.heap.size w W → Calls Tryd.prog 29 #[.string s] W fun e w' => ∃ N, e = .returned (.tuple #[.int .i64 n, .iface 77 (.pointer (some ⟨N, 0, none⟩))]) ∧ RowKit.Below W.heap.size W w') :
    Calls Tryd.prog 15 #[.string s] w fun e w' => e = .returned (.tuple #[.int .i64 0, .bool false]) ∧ RowKit.Below w.heap.size w w' := by
  have HB := Aside0.mk (RowKit.Below.refl w.heap.size w)
  go_enter Tryd.func15, Tryd.ntmps15
  go_wp2_with (first | ((with_reducible refine gate_callee (f := 29) rfl ?_); (try (refine gate_guard (by rfl) ?_; dsimp only)); refine goesL_ (some 8) rfl rfl Tryd.func29 (by kernel_rfl) rfl #[.string s] rfl (by (try simp only [List.map_toArray, List.map_cons, List.map_nil]); first | done | rfl) ?_; (with_reducible refine (H _ (by repeat (first | (with_reducible first | exact HB.out | apply below_alloc | apply pw_below_drewN | apply below_drew1) | exact HB.out))).mono ?_); rintro e w6 ⟨N, rfl, hb⟩; refine ⟨_, rfl, ?_⟩; have n0_ := Aside0.mk (below_step (by repeat (first | (with_reducible first | exact HB.out | apply below_alloc | apply pw_below_drewN | apply below_drew1) | exact HB.out)) hb); clear HB; have HB := n0_; clear n0_; clear hb))
  go_ret2
  exact ⟨by first | rfl | (simp; done) | (simp [*]; done), (by repeat (first | (with_reducible first | exact HB.out | apply below_alloc | apply pw_below_drewN | apply below_drew1) | exact HB.out))⟩
set_option maxHeartbeats 8000000 in
set_option maxRecDepth 100000 in
theorem rd_out (s : ByteArray) (v : Int) (w : World) (hv : decide (0 ≤ v ∧ v ≤ 1000000000) = false) (H : ∀ W, RowKit.Below w.heap.size w W → Calls Tryd.prog 29 #[.string s] W fun e w' => e = .returned (.tuple #[.int .i64 v, .nilIface]) ∧ RowKit.Below W.heap.size W w') :
    Calls Tryd.prog 15 #[.string s] w fun e w' => e = .returned (.tuple #[.int .i64 0, .bool false]) ∧ RowKit.Below w.heap.size w w' := by
  have HB := Aside0.mk (RowKit.Below.refl w.heap.size w)
  go_enter Tryd.func15, Tryd.ntmps15
  go_wp2_with (first | ((with_reducible refine gate_callee (f := 29) rfl ?_); (try (refine gate_guard (by rfl) ?_; dsimp only)); refine goesL_ (some 8) rfl rfl Tryd.func29 (by kernel_rfl) rfl #[.string s] rfl (by (try simp only [List.map_toArray, List.map_cons, List.map_nil]); first | done | rfl) ?_; (with_reducible refine (H _ (by repeat (first | (with_reducible first | exact HB.out | apply below_alloc | apply pw_below_drewN | apply below_drew1) | exact HB.out))).mono ?_); rintro e w6 ⟨rfl, hb⟩; refine ⟨_, rfl, ?_⟩; have n0_ := Aside0.mk (below_step (by repeat (first | (with_reducible first | exact HB.out | apply below_alloc | apply pw_below_drewN | apply below_drew1) | exact HB.out)) hb); clear HB; have HB := n0_; clear n0_; clear hb) | ((with_reducible refine gate_callee (f := 30) rfl ?_); (try (refine gate_guard (by rfl) ?_; dsimp only)); refine goesL_ (some 15) rfl rfl Tryd.func30 (by kernel_rfl) rfl #[.int .i64 v, .int .i64 0, .int .i64 1000000000] rfl (by (try simp only [List.map_toArray, List.map_cons, List.map_nil]); first | done | rfl) ?_; (with_reducible refine (impl_in.calls v 0 1000000000 false _ hv).mono ?_); rintro e w7 ⟨rfl, hd⟩; have hb := below_of_drawn0 hd; clear hd; refine ⟨_, rfl, ?_⟩; have n0_ := Aside0.mk (below_step (by repeat (first | (with_reducible first | exact HB.out | apply below_alloc | apply pw_below_drewN | apply below_drew1) | exact HB.out)) hb); clear HB; have HB := n0_; clear n0_; clear hb))
  go_ret2
  exact ⟨by first | rfl | (simp; done) | (simp [*]; done), (by repeat (first | (with_reducible first | exact HB.out | apply below_alloc | apply pw_below_drewN | apply below_drew1) | exact HB.out))⟩
set_option maxHeartbeats 8000000 in
set_option maxRecDepth 100000 in
theorem rd_in (s : ByteArray) (v : Int) (w : World) (htab : Tab10 w) (hv : 0 ≤ v ∧ v ≤ 1000000000) (b : Bool) (hb0 : ((Lib.itoa v) == s.toList) = b) (H : ∀ W, RowKit.Below w.heap.size w W → Calls Tryd.prog 29 #[.string s] W fun e w' => e = .returned (.tuple #[.int .i64 v, .nilIface]) ∧ RowKit.Below W.heap.size W w') :
    Calls Tryd.prog 15 #[.string s] w fun e w' => e = .returned (.tuple #[.int .i64 (if b then v else 0), .bool b]) ∧ RowKit.Below w.heap.size w w' := by
  have HB := Aside0.mk (RowKit.Below.refl w.heap.size w)
  have hd : decide (0 ≤ v ∧ v ≤ 1000000000) = true := decide_eq_true hv
  cases b
  · simp only [Bool.false_eq_true, if_false]
    have hn : (Lib.itoa v != s.toList) = true := by simp only [bne, hb0]; rfl
    go_enter Tryd.func15, Tryd.ntmps15
    go_wp2_with (first | ((with_reducible refine gate_callee (f := 29) rfl ?_); (try (refine gate_guard (by rfl) ?_; dsimp only)); refine goesL_ (some 8) rfl rfl Tryd.func29 (by kernel_rfl) rfl #[.string s] rfl (by (try simp only [List.map_toArray, List.map_cons, List.map_nil]); first | done | rfl) ?_; (with_reducible refine (H _ (by repeat (first | (with_reducible first | exact HB.out | apply below_alloc | apply pw_below_drewN | apply below_drew1) | exact HB.out))).mono ?_); rintro e w6 ⟨rfl, hb⟩; refine ⟨_, rfl, ?_⟩; have n0_ := Aside0.mk (below_step (by repeat (first | (with_reducible first | exact HB.out | apply below_alloc | apply pw_below_drewN | apply below_drew1) | exact HB.out)) hb); clear HB; have HB := n0_; clear n0_; clear hb) | ((with_reducible refine gate_callee (f := 30) rfl ?_); (try (refine gate_guard (by rfl) ?_; dsimp only)); refine goesL_ (some 15) rfl rfl Tryd.func30 (by kernel_rfl) rfl #[.int .i64 v, .int .i64 0, .int .i64 1000000000] rfl (by (try simp only [List.map_toArray, List.map_cons, List.map_nil]); first | done | rfl) ?_; (with_reducible refine (impl_in.calls v 0 1000000000 true _ hd).mono ?_); rintro e w7 ⟨rfl, hdr⟩; have hb := below_of_drawn0 hdr; clear hdr; refine ⟨_, rfl, ?_⟩; have n0_ := Aside0.mk (below_step (by repeat (first | (with_reducible first | exact HB.out | apply below_alloc | apply pw_below_drewN | apply below_drew1) | exact HB.out)) hb); clear HB; have HB := n0_; clear n0_; clear hb) | ((with_reducible refine gate_callee (f := 8) rfl ?_); (try (refine gate_guard (by rfl) ?_; dsimp only)); refine goesL_ (some 20) rfl rfl Tryd.func8 (by kernel_rfl) rfl #[.int .i64 v] rfl (by (try simp only [List.map_toArray, List.map_cons, List.map_nil]); first | done | rfl) ?_; (with_reducible refine (impl_Decimal.calls v (by omega) (by omega) _ (tab10_to htab (by repeat (first | (with_reducible first | exact HB.out | apply below_alloc | apply pw_below_drewN | apply below_drew1) | exact HB.out)))).mono ?_); rintro e w8 ⟨rfl, hb⟩; refine ⟨_, rfl, ?_⟩; have n0_ := Aside0.mk (below_step (by repeat (first | (with_reducible first | exact HB.out | apply below_alloc | apply pw_below_drewN | apply below_drew1) | exact HB.out)) hb); clear HB; have HB := n0_; clear n0_; clear hb))
    go_ret2
    exact ⟨by first | rfl | (simp; done) | (simp [*]; done), (by repeat (first | (with_reducible first | exact HB.out | apply below_alloc | apply pw_below_drewN | apply below_drew1) | exact HB.out))⟩
  · simp only [if_true]
    have hn : (Lib.itoa v != s.toList) = false := by simp only [bne, hb0]; rfl
    go_enter Tryd.func15, Tryd.ntmps15
    go_wp2_with (first | ((with_reducible refine gate_callee (f := 29) rfl ?_); (try (refine gate_guard (by rfl) ?_; dsimp only)); refine goesL_ (some 8) rfl rfl Tryd.func29 (by kernel_rfl) rfl #[.string s] rfl (by (try simp only [List.map_toArray, List.map_cons, List.map_nil]); first | done | rfl) ?_; (with_reducible refine (H _ (by repeat (first | (with_reducible first | exact HB.out | apply below_alloc | apply pw_below_drewN | apply below_drew1) | exact HB.out))).mono ?_); rintro e w6 ⟨rfl, hb⟩; refine ⟨_, rfl, ?_⟩; have n0_ := Aside0.mk (below_step (by repeat (first | (with_reducible first | exact HB.out | apply below_alloc | apply pw_below_drewN | apply below_drew1) | exact HB.out)) hb); clear HB; have HB := n0_; clear n0_; clear hb) | ((with_reducible refine gate_callee (f := 30) rfl ?_); (try (refine gate_guard (by rfl) ?_; dsimp only)); refine goesL_ (some 15) rfl rfl Tryd.func30 (by kernel_rfl) rfl #[.int .i64 v, .int .i64 0, .int .i64 1000000000] rfl (by (try simp only [List.map_toArray, List.map_cons, List.map_nil]); first | done | rfl) ?_; (with_reducible refine (impl_in.calls v 0 1000000000 true _ hd).mono ?_); rintro e w7 ⟨rfl, hdr⟩; have hb := below_of_drawn0 hdr; clear hdr; refine ⟨_, rfl, ?_⟩; have n0_ := Aside0.mk (below_step (by repeat (first | (with_reducible first | exact HB.out | apply below_alloc | apply pw_below_drewN | apply below_drew1) | exact HB.out)) hb); clear HB; have HB := n0_; clear n0_; clear hb) | ((with_reducible refine gate_callee (f := 8) rfl ?_); (try (refine gate_guard (by rfl) ?_; dsimp only)); refine goesL_ (some 20) rfl rfl Tryd.func8 (by kernel_rfl) rfl #[.int .i64 v] rfl (by (try simp only [List.map_toArray, List.map_cons, List.map_nil]); first | done | rfl) ?_; (with_reducible refine (impl_Decimal.calls v (by omega) (by omega) _ (tab10_to htab (by repeat (first | (with_reducible first | exact HB.out | apply below_alloc | apply pw_below_drewN | apply below_drew1) | exact HB.out)))).mono ?_); rintro e w8 ⟨rfl, hb⟩; refine ⟨_, rfl, ?_⟩; have n0_ := Aside0.mk (below_step (by repeat (first | (with_reducible first | exact HB.out | apply below_alloc | apply pw_below_drewN | apply below_drew1) | exact HB.out)) hb); clear HB; have HB := n0_; clear n0_; clear hb))
    go_ret2
    exact ⟨by first | rfl | (simp; done) | (simp [*]; done), (by repeat (first | (with_reducible first | exact HB.out | apply below_alloc | apply pw_below_drewN | apply below_drew1) | exact HB.out))⟩

/-- What ReadDecimal answers. -/
def rdV (s : ByteArray) : Int × Bool :=
  match Lib.atoiAll s.data.toList with
  | .ok v => if 0 ≤ v ∧ v ≤ 1000000000 then (if Lib.itoa v == s.toList then (v, true) else (0, false)) else (0, false)
  | _ => (0, false)
theorem impl_ReadDecimal.calls (s : ByteArray) (hs : s.size ≤ 281474976710656) (w : World) (htab : Tab w) :
    Calls Tryd.prog 15 #[.string s] w fun e w' => e = .returned (.tuple #[.int .i64 (rdV s).1, .bool (rdV s).2]) ∧ RowKit.Below w.heap.size w w' := by
  unfold rdV
  cases h : Lib.atoiAll s.data.toList with
  | ok v =>
    have H : ∀ W, RowKit.Below w.heap.size w W → Calls Tryd.prog 29 #[.string s] W fun e w' => e = .returned (.tuple #[.int .i64 v, .nilIface]) ∧ RowKit.Below W.heap.size W w' := fun W _ =>
      (Tryd.strconv_Atoi_ok s (by omega) v h W).mono fun e w' ⟨he, hw⟩ => ⟨he, by
        rcases hw with rfl | ⟨t, rfl⟩
        · exact Below.refl _ _
        · exact Lib.bytesWorld_below _ _ _⟩
    dsimp only
    by_cases c : 0 ≤ v ∧ v ≤ 1000000000
    · rw [if_pos c]
      cases b : (Lib.itoa v == s.toList) with
      | true => have := rd_in s v w htab.ten c true b H; simpa using this
      | false => have := rd_in s v w htab.ten c false b H; simpa using this
    · rw [if_neg c]
      exact rd_out s v w (decide_eq_false c) H
  | range =>
    exact rd_err s (Lib.atoiSat s.data.toList) w fun W hb => by
      obtain ⟨tp, p, e⟩ := (tab_to htab hb).ran
      exact (Tryd.strconv_Atoi_range_var s hs h tp p W e).mono fun e w' ⟨N, he, _, _, hb⟩ => ⟨N, he, hb⟩
  | _ =>
    exact rd_err s 0 w fun W hb => by
      obtain ⟨tp, p, e⟩ := (tab_to htab hb).syn
      exact (Any.strconv_Atoi_syntax_var Tryd.laysC172 s hs h tp p W e).mono fun e w' ⟨N, he, _, _, hb⟩ => ⟨N, he, hb⟩
theorem star : "*" ++ "errors.errorString" = "*errors.errorString" := by decide
theorem row112 (u : TypeId) (h : Tryd.prog.typeName? 3 u = some "*errors.errorString") : u = 112 :=
  typeName_ptr_named (nm := "errors.errorString") (by rw [star]; kernel_rfl) (by kernel_rfl) (by decide) u (by rw [star]; exact h)
/-- A row's list gives what the walks ask. -/
theorem tab_of {laid : List (String × DataW Unit)} {W : World} (e0 : (laid.all fun x => x.2.handleName?.isNone) = true)
    (e : (laid.filter fun x => x.1 == "internal/strconv.uint64pow10") = [("internal/strconv.uint64pow10", Lib.tabData .u64 Lib.pow10Tab)])
    (e2 : (laid.filter fun x => x.1 == "strconv.ErrRange") = [("strconv.ErrRange", .iface "*errors.errorString" (.ptr (.agg [.lit (.string [118, 97, 108, 117, 101, 32, 111, 117, 116, 32, 111, 102, 32, 114, 97, 110, 103, 101])])))])
    (e3 : (laid.filter fun x => x.1 == "strconv.ErrSyntax") = [("strconv.ErrSyntax", .iface "*errors.errorString" (.ptr (.agg [.lit (.string [105, 110, 118, 97, 108, 105, 100, 32, 115, 121, 110, 116, 97, 120])])))])
    (h : laidMetH Tryd.prog laid W) : Tab W := by
  rw [MakeChecks.laidMetH_plain _ _ _ e0] at h
  have h1 := h.filter (fun x => x.1 == "internal/strconv.uint64pow10")
  have h2 := h.filter (fun x => x.1 == "strconv.ErrRange")
  have h3 := h.filter (fun x => x.1 == "strconv.ErrSyntax")
  rw [e] at h1
  rw [e2] at h2
  rw [e3] at h3
  refine ⟨Lib.tabIs_of_head (n := 20) (t := 105) (e := 81) gpow (by kernel_rfl) (by kernel_rfl) (by kernel_rfl) (by kernel_rfl) (by kernel_rfl) h1, ?_, ?_⟩
  · obtain ⟨a, z, hv, _⟩ := Go.laid_sentinel h3 gsyn (by kernel_rfl) Tryd.underlying46 row112 Tryd.underlying112 Tryd.underlying114 rfl rfl Tryd.underlying9 (by kernel_rfl) (by kernel_rfl)
    exact ⟨_, _, hv⟩
  · obtain ⟨a, z, hv, _⟩ := Go.laid_sentinel h2 gran (by kernel_rfl) Tryd.underlying46 row112 Tryd.underlying112 Tryd.underlying114 rfl rfl Tryd.underlying9 (by kernel_rfl) (by kernel_rfl)
    exact ⟨_, _, hv⟩
end Go.Proofs.YtelnbjlhlklngaaDoor.TabN
