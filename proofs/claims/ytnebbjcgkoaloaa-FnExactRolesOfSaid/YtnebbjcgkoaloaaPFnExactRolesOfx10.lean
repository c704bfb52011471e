/- What the code that one law of the given program reaches computes, function by function, each with its proof over the given translation.
Conditions: none of our own. (Laid by a program of this session, wip/xp/xp.py; some contracts are typed by hand.) -/
import Derived.Test.YtnebbjcgkoaloaaPFnExactRolesOfx0
import Derived.Test.YtnebbjcgkoaloaaPFnExactRolesOfx5
import Derived.Test.YtnebbjcgkoaloaaPFnExactRolesOfx6
import Derived.Test.YtnebbjcgkoaloaaPFnExactRolesOfx9
namespace Go.Proofs.Ytnebbjcgkoaloaa.PFnExactRolesOf
open Go.RowKit Go.Proofs.YtnebbjcgkoaloaaW.PrintWords Go.Proofs.YtnebbjcgkoaloaaW.PrintLast Go.Proofs.YtnebbjcgkoaloaaW.PrintMore
attribute [local go_sem] max2_int min2_int max_two min_two max_three min_three max_four min_four   -- for this text's walks alone
set_option linter.unusedVariables false
set_option linter.unusedSimpArgs false

/-! ### laws_markRoleS: function 34 -/
def laws_markRoleS.l0 : Nat → List (S27) → Int → Int → Option (Int × (List (S27)))
 | 0, _, _, _ => none
 | k + 1, x0, x1, x5 => if x5 < (x0.length : Int) then (if 0 ≤ x5 then ((some (x0.set (x5 : Int).toNat (⟨x1, (rd_T27 x0 x5).f1⟩ : S27) : List (S27))).bind fun y299 => (laws_markRoleS.l0 k (y299.set (x5 : Int).toNat (⟨(rd_T27 y299 x5).f0, wrap64 (x1 + 1)⟩ : S27)) (wrap64 ((wrap64 (x1 + 1)) + 1)) (wrap64 (x5 + 1)))) else (none)) else (some (x1, x0))
def laws_markRoleS.f (k : Nat) (l0 : List (S27)) (a1 : Int) : Option (Int × (List (S27))) := laws_markRoleS.l0 k l0 a1 0
theorem laws_markRoleS.mono_l : ∀ k, (∀ y0 y1 y2, LeO (laws_markRoleS.l0 k y0 y1 y2) (laws_markRoleS.l0 (k + 1) y0 y1 y2))
 | 0 => fun _ _ _ r h => by simp [laws_markRoleS.l0] at h
 | k + 1 => by
  have ih0 := laws_markRoleS.mono_l k
  ·intro y0 y1 y2
   unfold laws_markRoleS.l0
   repeat' first
   | (with_reducible exact ih0 _ _ _)
   | (with_reducible exact LeO.refl _)
   | (with_reducible exact LeO.none _)
   | (with_reducible refine LeO.ite ?_ ?_)
   | (with_reducible refine LeO.bind ?_ (fun _ => ?_))
   | exact ih0 _ _ _
   | exact LeO.none _
   | refine LeO.ite ?_ ?_
   | refine LeO.bind ?_ (fun _ => ?_)
theorem laws_markRoleS.mono : ∀ a0 a1 k, LeO (laws_markRoleS.f k a0 a1) (laws_markRoleS.f (k + 1) a0 a1) := by
 intro a0 a1 k
 have ih0 := laws_markRoleS.mono_l k
 unfold laws_markRoleS.f
 repeat' first
   | (with_reducible exact ih0 _ _ _)
   | (with_reducible exact LeO.refl _)
   | (with_reducible exact LeO.none _)
   | (with_reducible refine LeO.ite ?_ ?_)
   | (with_reducible refine LeO.bind ?_ (fun _ => ?_))
   | exact ih0 _ _ _
   | exact LeO.none _
   | refine LeO.ite ?_ ?_
   | refine LeO.bind ?_ (fun _ => ?_)
set_option maxHeartbeats 8000000 in
set_option maxRecDepth 100000 in
theorem laws_markRoleS.calls (k : Nat) (P0_ : Nat → Prop) (u9000_ : Value) (l0 : List (S27)) (a1 : Int) (r1 : Int) (r2 : List (S27)) (w0 w : World) (hB : Below w0.heap.size w0 w) (ho0 : Kd.R k27 27 w w0.heap.size P0_ u9000_ l0) (h : laws_markRoleS.f k l0 a1 = some (r1, r2)) :
  Calls Try.prog 34 #[u9000_, .int .i64 a1] w fun e w' => e = .returned (.int .i64 r1) ∧ Kd.R k27 27 w' w0.heap.size (fun k_ => (P0_ k_ ∨ w.heap.size ≤ k_)) u9000_ r2 ∧ Below w0.heap.size w0 w' ∧ Kept w w' (fun k_ => P0_ k_) := by
 have HO0 := Aside0.mk (show Kd.R k27 27 w w0.heap.size (fun k_ => (P0_ k_ ∨ w.heap.size ≤ k_)) u9000_ l0 from Kd.R_mono ho0 (fun k_ hk => (.inl hk)))
 have HK := Aside0.mk (Kept.refl w (fun k_ => P0_ k_))
 have HW0 := Aside0.mk hB.size
 have HB := Aside0.mk hB
 clear hB
 have H : (laws_markRoleS.l0 k l0 a1 0) = some (r1, r2) := h
 clear h
 have H' := Aside0.mk H
 clear H
 go_enter Try.func34, Try.ntmps34
 go_wp2
 go_loopg [1, 5] k (fun kq v1 v5 w' => ∃ (x0_1 : List (S27)) (x1_1 : Int) (x5_1 : Int), v1 = .int .i64 x1_1 ∧ v5 = .int .i64 x5_1 ∧ Aside0 (laws_markRoleS.l0 kq x0_1 x1_1 x5_1 = some (r1, r2)) ∧ Aside0 (kq ≤ k) ∧ Aside0 (Kd.R k27 27 w' w0.heap.size (fun k_ => (P0_ k_ ∨ w.heap.size ≤ k_)) u9000_ x0_1) ∧ Aside0 (Kept w w' (fun k_ => P0_ k_)) ∧ Aside0 (Below w0.heap.size w0 w'))
 case atStart => exact ⟨(l0), (a1), (0), (by first | rfl | (simp; done) | (simp [*]; done)), (by first | rfl | (simp; done) | (simp [*]; done)), H', ⟨Nat.le_refl _⟩, ⟨sqR HO0⟩, ⟨by repeat (first | (with_reducible first | exact HK.out | apply Kept.alloc | apply Kept.drewN | apply Kept.drew) | exact HK.out)⟩, ⟨sqB⟩⟩
 case round =>
  clear H'
  try clear p2
  obtain ⟨x0_1, x1_1, x5_1, rfl, rfl, HA, HK1, HO_0, HK, HB⟩ := hrel
  cases gk with
  | zero => exact absurd HA.out (by simp [laws_markRoleS.l0])
  | succ k1 =>
   have H := HA.out
   clear HA
   simp only [laws_markRoleS.l0] at H
   by_cases c3 : x5_1 < (x0_1.length : Int)
   ·rw [if_pos c3] at H
    have c3b0 : decide (x5_1 < (x0_1.length : Int)) = true := decide_eq_true c3
    clear c3
    by_cases c4 : 0 ≤ x5_1
    ·rw [if_pos c4] at H
     have c4b0 : decide (0 ≤ x5_1) = true := decide_eq_true c4
     clear c4
     obtain ⟨y299, hy299⟩ : ∃ y_ : List (S27), y_ = (x0_1.set (x5_1 : Int).toNat (⟨x1_1, (rd_T27 x0_1 x5_1).f1⟩ : S27)) := ⟨_, rfl⟩
     replace H : (laws_markRoleS.l0 k1 (y299.set (x5_1 : Int).toNat (⟨(rd_T27 y299 x5_1).f0, wrap64 (x1_1 + 1)⟩ : S27)) (wrap64 ((wrap64 (x1_1 + 1)) + 1)) (wrap64 (x5_1 + 1))) = some (r1, r2) := by first | (rw [hy299]; with_reducible exact H) | (have H2_ := (Option.bind_some _ _).symm.trans H; rw [hy299]; with_reducible exact H2_) | (have H2_ := (Option.bind_some _ _).symm.trans H; with_reducible exact H2_) | with_reducible exact H | (rw [hy299]; exact H) | exact H
     have Ny299 := Aside0.mk hy299
     clear hy299
     obtain ⟨y300, hy300⟩ : ∃ y_ : List (S27), y_ = (y299.set (x5_1 : Int).toNat (⟨(rd_T27 y299 x5_1).f0, wrap64 (x1_1 + 1)⟩ : S27)) := ⟨_, rfl⟩
     replace H : (laws_markRoleS.l0 k1 y300 (wrap64 ((wrap64 (x1_1 + 1)) + 1)) (wrap64 (x5_1 + 1))) = some (r1, r2) := by first | (rw [hy300]; with_reducible exact H) | (have H2_ := (Option.bind_some _ _).symm.trans H; rw [hy300]; with_reducible exact H2_) | (have H2_ := (Option.bind_some _ _).symm.trans H; with_reducible exact H2_) | with_reducible exact H | (rw [hy300]; exact H) | exact H
     have Ny300 := Aside0.mk hy300
     clear hy300
     have H' := Aside0.mk H
     clear H
     obtain ⟨Ao7, co7, eo7⟩ := Kd.R_slice HO_0.out
     subst eo7
     have p5 : 0 ≤ (x5_1 : Int) := sqD
     have q5 : (x5_1 : Int) < ((x0_1.length : Int) : Int) := sqD
     obtain ⟨go5, co5, eo5, gb5, gl5, cl5, HG5⟩ := Kd.R_form HO_0.out (by omega)
     (first | cases eo5 | (injection eo5 with ea_ en_ ec_; (first | subst ea_ | (injection ea_ with ea_; subst ea_)); subst ec_; clear en_))
     have GB5 := Aside0.mk gb5
     have GG5 := Aside0.mk HG5
     clear gb5 gl5 HG5
     have HMgo5 := Aside0.mk (show (P0_ go5 ∨ w.heap.size ≤ go5) from (HO_0.out.1 _ rfl))
     obtain ⟨ce5, hcl5, hM5, hcc5, hfr5⟩ := Kd.R_elem HO_0.out z27 (x5_1 : Int) p5 q5
     obtain rfl := k27_openM hM5
     have hx5_0 : wr.cell? ⟨go5, (x5_1 : Int).toNat * 2, none⟩ = some (.int .i64 ((rd_T27 x0_1 x5_1).f0)) := hcc5 0 _ rfl
     have hx5_1 : wr.cell? ⟨go5, (x5_1 : Int).toNat * 2 + 1, none⟩ = some (.int .i64 ((rd_T27 x0_1 x5_1).f1)) := hcc5 1 _ rfl
     have hf5_0 : wr.frozen? ⟨go5, (x5_1 : Int).toNat * 2, none⟩ = false := hfr5 0
     have hf5_1 : wr.frozen? ⟨go5, (x5_1 : Int).toNat * 2 + 1, none⟩ = false := hfr5 1
     clear hcl5 hcc5 hfr5 hM5
     replace p5 := eq_true p5
     replace q5 := eq_true q5
     have HX8 := Aside0.mk (show Kd.R k27 27 wr w0.heap.size (fun k_ => (P0_ k_ ∨ w.heap.size ≤ k_)) (.slice (some ⟨go5, 0, none⟩) x0_1.length co7) x0_1 from (sqR HO_0))
     obtain ⟨ce8, hcl8, hM8, hcc8, hfr8⟩ := Kd.R_elem HX8.out z27 (x5_1 : Int) (sqD) (by have h_ : (x5_1 : Int) < ((x0_1.length : Int) : Int) := sqD; first | exact h_ | (have e_ := (Kd.R_reads' HO_0.out).1; omega) | simpa using h_)
     obtain rfl := k27_openM hM8
     have HP8 := Kd.R_seg HX8.out (x5_1 : Int) (sqD) (by have h_ : (x5_1 : Int) < ((x0_1.length : Int) : Int) := sqD; first | exact h_ | (have e_ := (Kd.R_reads' HO_0.out).1; omega) | simpa using h_) (seg := [.int .i64 x1_1]) (j := 0) hcl8 hcc8 (show 1 ≤ 2 from by decide) (x' := (⟨x1_1, (rd_T27 x0_1 x5_1).f1⟩ : S27)) (k27_mkM _ _ _ (⟨x1_1, (rd_T27 x0_1 x5_1).f1⟩ : S27) ) (fun _ hk => hk)
     have hx8_0 := hcc8 0 _ rfl
     (try simp only [show (k27).sz = 2 from rfl, Nat.mul_one, Nat.add_zero] at hx8_0)
     have hf8_0 := hfr8 0
     (try simp only [show (k27).sz = 2 from rfl, Nat.mul_one, Nat.add_zero] at hf8_0)
     clear hcl8 hcc8 hfr8 hM8
     go_wp2_with (first | ((with_reducible refine gate_store (t := 3) (p := 16) rfl ?_); refine store_event (t := 3) (p := 16) (v := ?vo_w9) (w1 := (wr.setCell ⟨go5, (x5_1 : Int).toNat * 2, none⟩ (.int .i64 x1_1))) ?hg ?ho ?hn ?hr ?_; (case ho => rfl); (case hg => rfl); (case hn => rfl); (case hr => first | (go_simp; done) | (go_simp; rfl)); intro w9 hw; have hg : wr.grownBy w9 (some go5) := (by rw [hw]; exact HP8.2); have hp_ : Kd.R k27 27 w9 w0.heap.size (fun k_ => (P0_ k_ ∨ w.heap.size ≤ k_)) (.slice (some ⟨go5, 0, none⟩) x0_1.length co7) y299 := (by rw [hw, Ny299.out]; exact HP8.1); clear HP8; have n0_ := Aside0.mk (hp_); have n1_ := Aside0.mk ((by rw [hw]; exact below_set (HB.out) GB5.out : Below w0.heap.size w0 w9)); have n2_ := Aside0.mk (Kept.of_grown (S := (fun k_ => P0_ k_)) hg (by repeat (first | (with_reducible first | exact HK.out | apply Kept.alloc | apply Kept.drewN | apply Kept.drew) | exact HK.out)) (fun k_ e_ => (HO_0.out.1 k_ e_))); clear HO_0; clear HB; clear HK; have HO_0 := n0_; have HB := n1_; have HK := n2_; clear n0_ n1_ n2_; clear hg hw hp_; have p6 : 0 ≤ (x5_1 : Int) := sqD; have q6 : (x5_1 : Int) < ((x0_1.length : Int) : Int) := sqD; obtain ⟨ce6, hcl6, hM6, hcc6, hfr6⟩ := Kd.R_elem HO_0.out z27 (x5_1 : Int) p6 q6; obtain rfl := k27_openM hM6; have hx6_0 : w9.cell? ⟨go5, (x5_1 : Int).toNat * 2, none⟩ = some (.int .i64 ((rd_T27 y299 x5_1).f0)) := hcc6 0 _ rfl; have hx6_1 : w9.cell? ⟨go5, (x5_1 : Int).toNat * 2 + 1, none⟩ = some (.int .i64 ((rd_T27 y299 x5_1).f1)) := hcc6 1 _ rfl; have hf6_0 : w9.frozen? ⟨go5, (x5_1 : Int).toNat * 2, none⟩ = false := hfr6 0; have hf6_1 : w9.frozen? ⟨go5, (x5_1 : Int).toNat * 2 + 1, none⟩ = false := hfr6 1; clear hcl6 hcc6 hfr6 hM6; replace p6 := eq_true p6; replace q6 := eq_true q6; have HX10 := Aside0.mk (show Kd.R k27 27 w9 w0.heap.size (fun k_ => (P0_ k_ ∨ w.heap.size ≤ k_)) (.slice (some ⟨go5, 0, none⟩) x0_1.length co7) y299 from (sqR HO_0)); obtain ⟨ce10, hcl10, hM10, hcc10, hfr10⟩ := Kd.R_elem HX10.out z27 (x5_1 : Int) (sqD) (by have h_ : (x5_1 : Int) < ((x0_1.length : Int) : Int) := sqD; first | exact h_ | (have e_ := (Kd.R_reads' HO_0.out).1; omega) | simpa using h_); obtain rfl := k27_openM hM10; have HP10 := Kd.R_seg HX10.out (x5_1 : Int) (sqD) (by have h_ : (x5_1 : Int) < ((x0_1.length : Int) : Int) := sqD; first | exact h_ | (have e_ := (Kd.R_reads' HO_0.out).1; omega) | simpa using h_) (seg := [.int .i64 (wrap64 (x1_1 + 1))]) (j := 1) hcl10 hcc10 (show 2 ≤ 2 from by decide) (x' := (⟨(rd_T27 y299 x5_1).f0, wrap64 (x1_1 + 1)⟩ : S27)) (k27_mkM _ _ _ (⟨(rd_T27 y299 x5_1).f0, wrap64 (x1_1 + 1)⟩ : S27) ) (fun _ hk => hk); have hx10_1 := hcc10 1 _ rfl; (try simp only [show (k27).sz = 2 from rfl, Nat.mul_one, Nat.add_zero] at hx10_1); have hf10_1 := hfr10 1; (try simp only [show (k27).sz = 2 from rfl, Nat.mul_one, Nat.add_zero] at hf10_1); clear hcl10 hcc10 hfr10 hM10) | ((with_reducible refine gate_store (t := 3) (p := 23) rfl ?_); refine store_event (t := 3) (p := 23) (v := ?vo_w11) (w1 := (w9.setCell ⟨go5, (x5_1 : Int).toNat * 2 + 1, none⟩ (.int .i64 (wrap64 (x1_1 + 1))))) ?hg ?ho ?hn ?hr ?_; (case ho => rfl); (case hg => rfl); (case hn => rfl); (case hr => first | (go_simp; done) | (go_simp; rfl)); intro w11 hw; have hg : w9.grownBy w11 (some go5) := (by rw [hw]; exact HP10.2); have hp_ : Kd.R k27 27 w11 w0.heap.size (fun k_ => (P0_ k_ ∨ w.heap.size ≤ k_)) (.slice (some ⟨go5, 0, none⟩) x0_1.length co7) y300 := (by rw [hw, Ny300.out]; exact HP10.1); clear HP10; have n0_ := Aside0.mk (hp_); have n1_ := Aside0.mk ((by rw [hw]; exact below_set (HB.out) GB5.out : Below w0.heap.size w0 w11)); have n2_ := Aside0.mk (Kept.of_grown (S := (fun k_ => P0_ k_)) hg (by repeat (first | (with_reducible first | exact HK.out | apply Kept.alloc | apply Kept.drewN | apply Kept.drew) | exact HK.out)) (fun k_ e_ => (HO_0.out.1 k_ e_))); clear HO_0; clear HB; clear HK; have HO_0 := n0_; have HB := n1_; have HK := n2_; clear n0_ n1_ n2_; clear hg hw hp_))
     go_roundg k1
     case measure => have := HK1.out; omega
     case rel => exact ⟨(y300), (wrap64 ((wrap64 (x1_1 + 1)) + 1)), (wrap64 (x5_1 + 1)), (by first | rfl | (simp; done) | (simp [*]; done)), (by first | rfl | (simp; done) | (simp [*]; done)), H', ⟨by have := HK1.out; omega⟩, ⟨sqR HO_0⟩, ⟨by repeat (first | (with_reducible first | exact HK.out | apply Kept.alloc | apply Kept.drewN | apply Kept.drew) | exact HK.out)⟩, ⟨sqB⟩⟩
    ·rw [if_neg c4] at H
     exact absurd H (by simp)
   ·rw [if_neg c3] at H
    have c3b0 : decide (x5_1 < (x0_1.length : Int)) = false := decide_eq_false c3
    clear c3
    simp only [Option.some.injEq, Prod.mk.injEq] at H
    obtain ⟨rfl, rfl⟩ := H
    obtain ⟨Ao12, co12, eo12⟩ := Kd.R_slice HO_0.out
    subst eo12
    go_wp2
    go_ret
    exact ⟨sqE, sqR HO_0, sqB, by repeat (first | (with_reducible first | exact HK.out | apply Kept.alloc | apply Kept.drewN | apply Kept.drew) | exact HK.out)⟩

/-! ### laws_heldRoleS: function 35 -/
def laws_heldRoleS.l0 : Nat → List (S27) → Int → Int → Option (Int)
 | 0, _, _, _ => none
 | k + 1, x0, x1, x5 => if x5 < (x0.length : Int) then (if 0 ≤ x5 then (if ((rd_T27 x0 x5).f0) = x1 then (if ((rd_T27 x0 x5).f1) = (wrap64 (x1 + 1)) then (laws_heldRoleS.l0 k x0 (wrap64 ((wrap64 (x1 + 1)) + 1)) (wrap64 (x5 + 1))) else (some (-1))) else (some (-1))) else (none)) else (some x1)
def laws_heldRoleS.f (k : Nat) (l0 : List (S27)) (a1 : Int) : Option (Int) := laws_heldRoleS.l0 k l0 a1 0
theorem laws_heldRoleS.mono_l : ∀ k, (∀ y0 y1 y2, LeO (laws_heldRoleS.l0 k y0 y1 y2) (laws_heldRoleS.l0 (k + 1) y0 y1 y2))
 | 0 => fun _ _ _ r h => by simp [laws_heldRoleS.l0] at h
 | k + 1 => by
  have ih0 := laws_heldRoleS.mono_l k
  ·intro y0 y1 y2
   unfold laws_heldRoleS.l0
   repeat' first
   | (with_reducible exact ih0 _ _ _)
   | (with_reducible exact LeO.refl _)
   | (with_reducible exact LeO.none _)
   | (with_reducible refine LeO.ite ?_ ?_)
   | (with_reducible refine LeO.bind ?_ (fun _ => ?_))
   | exact ih0 _ _ _
   | exact LeO.none _
   | refine LeO.ite ?_ ?_
   | refine LeO.bind ?_ (fun _ => ?_)
theorem laws_heldRoleS.mono : ∀ a0 a1 k, LeO (laws_heldRoleS.f k a0 a1) (laws_heldRoleS.f (k + 1) a0 a1) := by
 intro a0 a1 k
 have ih0 := laws_heldRoleS.mono_l k
 unfold laws_heldRoleS.f
 repeat' first
   | (with_reducible exact ih0 _ _ _)
   | (with_reducible exact LeO.refl _)
   | (with_reducible exact LeO.none _)
   | (with_reducible refine LeO.ite ?_ ?_)
   | (with_reducible refine LeO.bind ?_ (fun _ => ?_))
   | exact ih0 _ _ _
   | exact LeO.none _
   | refine LeO.ite ?_ ?_
   | refine LeO.bind ?_ (fun _ => ?_)
set_option maxHeartbeats 8000000 in
set_option maxRecDepth 100000 in
theorem laws_heldRoleS.calls (k : Nat) (A0 : Option Addr) (c0 : Nat) (l0 : List (S27)) (a1 : Int) (r : Int) (w : World) (hr0 : Kd.C k27 w A0 l0.length l0) (hc0 : l0.length ≤ c0) (h : laws_heldRoleS.f k l0 a1 = some r) :
  Calls Try.prog 35 #[.slice A0 l0.length c0, .int .i64 a1] w fun e w' => e = .returned (.int .i64 r) ∧ Drawn0 w w' := by
 have HR0 := Aside0.mk hr0
 have HC0 := Aside0.mk hc0
 clear hr0 hc0
 have H : (laws_heldRoleS.l0 k l0 a1 0) = some r := h
 clear h
 have H' := Aside0.mk H
 clear H
 go_enter Try.func35, Try.ntmps35
 go_wp2
 go_loopg [1, 5] k (fun kq v1 v5 w' => ∃ (x1_1 : Int) (x5_1 : Int), v1 = .int .i64 x1_1 ∧ v5 = .int .i64 x5_1 ∧ Aside0 (laws_heldRoleS.l0 kq l0 x1_1 x5_1 = some r) ∧ Aside0 (kq ≤ k) ∧ Drawn0 w w')
 case atStart => exact ⟨(a1), (0), (by first | rfl | (simp; done) | (simp [*]; done)), (by first | rfl | (simp; done) | (simp [*]; done)), H', ⟨Nat.le_refl _⟩, by repeat (first | exact Drawn0.refl _ | apply Drawn0.step)⟩
 case round =>
  clear H'
  try clear p2
  obtain ⟨x1_1, x5_1, rfl, rfl, HA, HK1, ⟨m1, rfl⟩⟩ := hrel
  cases gk with
  | zero => exact absurd HA.out (by simp [laws_heldRoleS.l0])
  | succ k1 =>
   have H := HA.out
   clear HA
   simp only [laws_heldRoleS.l0] at H
   by_cases c3 : x5_1 < (l0.length : Int)
   ·rw [if_pos c3] at H
    have c3b0 : decide (x5_1 < (l0.length : Int)) = true := decide_eq_true c3
    clear c3
    by_cases c4 : 0 ≤ x5_1
    ·rw [if_pos c4] at H
     have c4b0 : decide (0 ≤ x5_1) = true := decide_eq_true c4
     clear c4
     by_cases c5 : ((rd_T27 l0 x5_1).f0) = x1_1
     ·rw [if_pos c5] at H
      have c5b0 : (((rd_T27 l0 x5_1).f0) == x1_1) = true := beq_iff_eq.mpr c5
      have c5b1 : (((rd_T27 l0 x5_1).f0) != x1_1) = false := bne_eq_false_iff_eq.mpr c5
      clear c5
      by_cases c6 : ((rd_T27 l0 x5_1).f1) = (wrap64 (x1_1 + 1))
      ·rw [if_pos c6] at H
       have c6b0 : (((rd_T27 l0 x5_1).f1) == (wrap64 (x1_1 + 1))) = true := beq_iff_eq.mpr c6
       have c6b1 : (((rd_T27 l0 x5_1).f1) != (wrap64 (x1_1 + 1))) = false := bne_eq_false_iff_eq.mpr c6
       clear c6
       have H' := Aside0.mk H
       clear H
       have p301 : 0 ≤ (x5_1 : Int) := sqD
       have q301 : x5_1 < (l0.length : Int) := sqD
       obtain ⟨ad301, e301, hx301_0, hx301_1⟩ := at_T27 HR0.out x5_1 p301 q301
       cases e301
       replace p301 := eq_true p301
       replace q301 := eq_true q301
       have p302 : 0 ≤ (x5_1 : Int) := sqD
       have q302 : x5_1 < (l0.length : Int) := sqD
       obtain ⟨ad302, e302, hx302_0, hx302_1⟩ := at_T27 HR0.out x5_1 p302 q302
       obtain rfl : ad301 = ad302 := (by injection e302)
       replace p302 := eq_true p302
       replace q302 := eq_true q302
       go_wp2
       go_roundg k1
       case measure => have := HK1.out; omega
       case rel => exact ⟨(wrap64 ((wrap64 (x1_1 + 1)) + 1)), (wrap64 (x5_1 + 1)), (by first | rfl | (simp; done) | (simp [*]; done)), (by first | rfl | (simp; done) | (simp [*]; done)), H', ⟨by have := HK1.out; omega⟩, by repeat (first | exact Drawn0.refl _ | apply Drawn0.step)⟩
      ·rw [if_neg c6] at H
       have c6b0 : (((rd_T27 l0 x5_1).f1) == (wrap64 (x1_1 + 1))) = false := beq_eq_false_iff_ne.mpr c6
       have c6b1 : (((rd_T27 l0 x5_1).f1) != (wrap64 (x1_1 + 1))) = true := bne_iff_ne.mpr c6
       obtain rfl := Option.some.inj H
       have p301 : 0 ≤ (x5_1 : Int) := sqD
       have q301 : x5_1 < (l0.length : Int) := sqD
       obtain ⟨ad301, e301, hx301_0, hx301_1⟩ := at_T27 HR0.out x5_1 p301 q301
       cases e301
       replace p301 := eq_true p301
       replace q301 := eq_true q301
       have p302 : 0 ≤ (x5_1 : Int) := sqD
       have q302 : x5_1 < (l0.length : Int) := sqD
       obtain ⟨ad302, e302, hx302_0, hx302_1⟩ := at_T27 HR0.out x5_1 p302 q302
       obtain rfl : ad301 = ad302 := (by injection e302)
       replace p302 := eq_true p302
       replace q302 := eq_true q302
       go_wp2
       go_ret
       exact ⟨by first | rfl | (simp; done) | (simp [*]; done), by repeat (first | exact Drawn0.refl _ | apply Drawn0.step)⟩
     ·rw [if_neg c5] at H
      have c5b0 : (((rd_T27 l0 x5_1).f0) == x1_1) = false := beq_eq_false_iff_ne.mpr c5
      have c5b1 : (((rd_T27 l0 x5_1).f0) != x1_1) = true := bne_iff_ne.mpr c5
      obtain rfl := Option.some.inj H
      have p301 : 0 ≤ (x5_1 : Int) := sqD
      have q301 : x5_1 < (l0.length : Int) := sqD
      obtain ⟨ad301, e301, hx301_0, hx301_1⟩ := at_T27 HR0.out x5_1 p301 q301
      cases e301
      replace p301 := eq_true p301
      replace q301 := eq_true q301
      go_wp2
      go_ret
      exact ⟨by first | rfl | (simp; done) | (simp [*]; done), by repeat (first | exact Drawn0.refl _ | apply Drawn0.step)⟩
    ·rw [if_neg c4] at H
     exact absurd H (by simp)
   ·rw [if_neg c3] at H
    have c3b0 : decide (x5_1 < (l0.length : Int)) = false := decide_eq_false c3
    clear c3
    obtain rfl := Option.some.inj H
    go_wp2
    go_ret
    exact ⟨by first | rfl | (simp; done) | (simp [*]; done), by repeat (first | exact Drawn0.refl _ | apply Drawn0.step)⟩

/-! ### laws_FnExactRolesOf: function 7 -/
def laws_FnExactRolesOf.j0 : Nat → List (S85) → Int → List (S27) → List (S27) → Bool → Option (Bool)
 | 0, _, _, _, _, _ => none
 | k + 1, x0, x1, x6, x8, x46 => if x46 = true then (some false) else ((laws_markRoleS.f k x8 1).bind fun bt324 => ((laws_heldRoleS.f k bt324.2 1).bind fun t326 => (if t326 < 0 then (some false) else (if t326 = bt324.1 then ((laws_toCredS.f k x0).bind fun t327 => ((impl_RolesOf.f k t327 x1).bind fun t330 => ((laws_eqRoleS.f k t330 x6).bind fun t333 => (if t333 = true then ((laws_heldRoleS.f k bt324.2 1).bind fun t334 => (if t334 < 0 then (some false) else (if t334 = bt324.1 then (some true) else (some false)))) else (some false))))) else (some false)))))
def laws_FnExactRolesOf.f (k : Nat) (l0 : List (S85)) (a1 : Int) : Option (Bool) := (laws_szCredS.f l0 1048576).bind fun t303 => (if t303 < 0 then (some true) else ((laws_toCredS.f k l0).bind fun t304 => ((spec_RolesOf.f k t304 a1).bind fun t307 => ((laws_toCredS.f k l0).bind fun t310 => ((impl_RolesOf.f k t310 a1).bind fun t313 => ((laws_eqRoleS.f k t313 t307).bind fun t316 => (if t316 = true then ((laws_toCredS.f k l0).bind fun t317 => ((laws_eqCredS.f k t310 t317).bind fun t320 => (if t320 = true then ((laws_markCredS.f k t310 1).bind fun bt321 => (if bt321.1 < 0 then (laws_FnExactRolesOf.j0 k l0 a1 t307 t313 true) else ((laws_eqRoleS.f k t313 t307).bind fun t323 => (laws_FnExactRolesOf.j0 k l0 a1 t307 t313 (!t323))))) else (some false)))) else (some false))))))))
theorem laws_FnExactRolesOf.mono_l : ∀ k, (∀ y0 y1 y2 y3 y4, LeO (laws_FnExactRolesOf.j0 k y0 y1 y2 y3 y4) (laws_FnExactRolesOf.j0 (k + 1) y0 y1 y2 y3 y4))
 | 0 => fun _ _ _ _ _ r h => by simp [laws_FnExactRolesOf.j0] at h
 | k + 1 => by
  have ih0 := laws_FnExactRolesOf.mono_l k
  ·intro y0 y1 y2 y3 y4
   unfold laws_FnExactRolesOf.j0
   repeat' first
   | (with_reducible exact ih0 _ _ _ _ _)
   | (with_reducible exact impl_RolesOf.mono _ _ _)
   | (with_reducible exact laws_eqCredS.mono _ _ _)
   | (with_reducible exact laws_eqRoleS.mono _ _ _)
   | (with_reducible exact laws_heldRoleS.mono _ _ _)
   | (with_reducible exact laws_markCredS.mono _ _ _)
   | (with_reducible exact laws_markRoleS.mono _ _ _)
   | (with_reducible exact laws_toCredS.mono _ _)
   | (with_reducible exact spec_RolesOf.mono _ _ _)
   | (with_reducible exact LeO.refl _)
   | (with_reducible exact LeO.none _)
   | (with_reducible refine LeO.ite ?_ ?_)
   | (with_reducible refine LeO.bind ?_ (fun _ => ?_))
   | exact ih0 _ _ _ _ _
   | exact impl_RolesOf.mono _ _ _
   | exact laws_eqCredS.mono _ _ _
   | exact laws_eqRoleS.mono _ _ _
   | exact laws_heldRoleS.mono _ _ _
   | exact laws_markCredS.mono _ _ _
   | exact laws_markRoleS.mono _ _ _
   | exact laws_toCredS.mono _ _
   | exact spec_RolesOf.mono _ _ _
   | exact LeO.none _
   | refine LeO.ite ?_ ?_
   | refine LeO.bind ?_ (fun _ => ?_)
theorem laws_FnExactRolesOf.mono : ∀ a0 a1 k, LeO (laws_FnExactRolesOf.f k a0 a1) (laws_FnExactRolesOf.f (k + 1) a0 a1) := by
 intro a0 a1 k
 have ih0 := laws_FnExactRolesOf.mono_l k
 unfold laws_FnExactRolesOf.f
 repeat' first
   | (with_reducible exact ih0 _ _ _ _ _)
   | (with_reducible exact impl_RolesOf.mono _ _ _)
   | (with_reducible exact laws_eqCredS.mono _ _ _)
   | (with_reducible exact laws_eqRoleS.mono _ _ _)
   | (with_reducible exact laws_heldRoleS.mono _ _ _)
   | (with_reducible exact laws_markCredS.mono _ _ _)
   | (with_reducible exact laws_markRoleS.mono _ _ _)
   | (with_reducible exact laws_toCredS.mono _ _)
   | (with_reducible exact spec_RolesOf.mono _ _ _)
   | (with_reducible exact LeO.refl _)
   | (with_reducible exact LeO.none _)
   | (with_reducible refine LeO.ite ?_ ?_)
   | (with_reducible refine LeO.bind ?_ (fun _ => ?_))
   | exact ih0 _ _ _ _ _
   | exact impl_RolesOf.mono _ _ _
   | exact laws_eqCredS.mono _ _ _
   | exact laws_eqRoleS.mono _ _ _
   | exact laws_heldRoleS.mono _ _ _
   | exact laws_markCredS.mono _ _ _
   | exact laws_markRoleS.mono _ _ _
   | exact laws_toCredS.mono _ _
   | exact spec_RolesOf.mono _ _ _
   | exact LeO.none _
   | refine LeO.ite ?_ ?_
   | refine LeO.bind ?_ (fun _ => ?_)
set_option maxHeartbeats 8000000 in
set_option maxRecDepth 100000 in
theorem laws_FnExactRolesOf.calls (k : Nat) (A0 : Option Addr) (c0 : Nat) (l0 : List (S85)) (a1 : Int) (r : Bool) (w : World) (hr0 : Kd.C k85 w A0 l0.length l0) (hc0 : l0.length ≤ c0) (h : laws_FnExactRolesOf.f k l0 a1 = some r) (hrt : r = true) :
  Calls Try.prog 7 #[.slice A0 l0.length c0, .int .i64 a1] w fun e w' => e = .returned (.bool r) ∧ Below w.heap.size w w' := by
 have HRT := Aside0.mk hrt
 clear hrt
 have HR0 := Aside0.mk hr0
 have HC0 := Aside0.mk hc0
 clear hr0 hc0
 have HB := Aside0.mk (Below.refl w.heap.size w)
 have H : ((laws_szCredS.f l0 1048576).bind fun t303 => (if t303 < 0 then (some true) else ((laws_toCredS.f k l0).bind fun t304 => ((spec_RolesOf.f k t304 a1).bind fun t307 => ((laws_toCredS.f k l0).bind fun t310 => ((impl_RolesOf.f k t310 a1).bind fun t313 => ((laws_eqRoleS.f k t313 t307).bind fun t316 => (if t316 = true then ((laws_toCredS.f k l0).bind fun t317 => ((laws_eqCredS.f k t310 t317).bind fun t320 => (if t320 = true then ((laws_markCredS.f k t310 1).bind fun bt321 => (if bt321.1 < 0 then (laws_FnExactRolesOf.j0 k l0 a1 t307 t313 true) else ((laws_eqRoleS.f k t313 t307).bind fun t323 => (laws_FnExactRolesOf.j0 k l0 a1 t307 t313 (!t323))))) else (some false)))) else (some false))))))))) = some r := h
 clear h
 replace H := Option.bind_eq_some_iff.mp H
 obtain ⟨t303, A30, H⟩ := H
 replace H : (if t303 < 0 then (some true) else ((laws_toCredS.f k l0).bind fun t304 => ((spec_RolesOf.f k t304 a1).bind fun t307 => ((laws_toCredS.f k l0).bind fun t310 => ((impl_RolesOf.f k t310 a1).bind fun t313 => ((laws_eqRoleS.f k t313 t307).bind fun t316 => (if t316 = true then ((laws_toCredS.f k l0).bind fun t317 => ((laws_eqCredS.f k t310 t317).bind fun t320 => (if t320 = true then ((laws_markCredS.f k t310 1).bind fun bt321 => (if bt321.1 < 0 then (laws_FnExactRolesOf.j0 k l0 a1 t307 t313 true) else ((laws_eqRoleS.f k t313 t307).bind fun t323 => (laws_FnExactRolesOf.j0 k l0 a1 t307 t313 (!t323))))) else (some false)))) else (some false)))))))) = some r := H
 have A3 := Aside0.mk A30
 clear A30
 by_cases c4 : t303 < 0
 ·rw [if_pos c4] at H
  have c4b0 : decide (t303 < 0) = true := decide_eq_true c4
  clear c4
  obtain rfl := Option.some.inj H
  go_enter Try.func7, Try.ntmps7
  go_wp2_with (first | ((with_reducible refine gate_callee (f := 19) rfl ?_); refine goesL_ (some 15) rfl rfl Try.func19 (by kernel_rfl) rfl #[.slice A0 l0.length c0, .int .i64 1048576] rfl sqA ?_; (with_reducible refine (laws_szCredS.calls _ _ l0 1048576 t303 _ ?side1 ?side2 A3.out).mono ?_); (case side1 => repeat (first | exact HR0.out | (with_reducible refine Kd.C_alloc ?_ _) | (with_reducible refine Kd.C_drewN ?_ _) | (with_reducible refine Kd.C_drew ?_))); (case side2 => exact HC0.out); rintro e w' ⟨rfl, ⟨nd, rfl⟩⟩; refine ⟨_, rfl, ?_⟩))
  go_ret
  exact ⟨sqE, sqB⟩
 ·rw [if_neg c4] at H
  have c4b0 : decide (t303 < 0) = false := decide_eq_false c4
  clear c4
  replace H := Option.bind_eq_some_iff.mp H
  obtain ⟨t304, A50, H⟩ := H
  replace H : ((spec_RolesOf.f k t304 a1).bind fun t307 => ((laws_toCredS.f k l0).bind fun t310 => ((impl_RolesOf.f k t310 a1).bind fun t313 => ((laws_eqRoleS.f k t313 t307).bind fun t316 => (if t316 = true then ((laws_toCredS.f k l0).bind fun t317 => ((laws_eqCredS.f k t310 t317).bind fun t320 => (if t320 = true then ((laws_markCredS.f k t310 1).bind fun bt321 => (if bt321.1 < 0 then (laws_FnExactRolesOf.j0 k l0 a1 t307 t313 true) else ((laws_eqRoleS.f k t313 t307).bind fun t323 => (laws_FnExactRolesOf.j0 k l0 a1 t307 t313 (!t323))))) else (some false)))) else (some false)))))) = some r := H
  have A5 := Aside0.mk A50
  clear A50
  replace H := Option.bind_eq_some_iff.mp H
  obtain ⟨t307, A60, H⟩ := H
  replace H : ((laws_toCredS.f k l0).bind fun t310 => ((impl_RolesOf.f k t310 a1).bind fun t313 => ((laws_eqRoleS.f k t313 t307).bind fun t316 => (if t316 = true then ((laws_toCredS.f k l0).bind fun t317 => ((laws_eqCredS.f k t310 t317).bind fun t320 => (if t320 = true then ((laws_markCredS.f k t310 1).bind fun bt321 => (if bt321.1 < 0 then (laws_FnExactRolesOf.j0 k l0 a1 t307 t313 true) else ((laws_eqRoleS.f k t313 t307).bind fun t323 => (laws_FnExactRolesOf.j0 k l0 a1 t307 t313 (!t323))))) else (some false)))) else (some false))))) = some r := H
  have A6 := Aside0.mk A60
  clear A60
  replace H := Option.bind_eq_some_iff.mp H
  obtain ⟨t310, A70, H⟩ := H
  replace H : ((impl_RolesOf.f k t310 a1).bind fun t313 => ((laws_eqRoleS.f k t313 t307).bind fun t316 => (if t316 = true then ((laws_toCredS.f k l0).bind fun t317 => ((laws_eqCredS.f k t310 t317).bind fun t320 => (if t320 = true then ((laws_markCredS.f k t310 1).bind fun bt321 => (if bt321.1 < 0 then (laws_FnExactRolesOf.j0 k l0 a1 t307 t313 true) else ((laws_eqRoleS.f k t313 t307).bind fun t323 => (laws_FnExactRolesOf.j0 k l0 a1 t307 t313 (!t323))))) else (some false)))) else (some false)))) = some r := H
  have A7 := Aside0.mk A70
  clear A70
  replace H := Option.bind_eq_some_iff.mp H
  obtain ⟨t313, A80, H⟩ := H
  replace H : ((laws_eqRoleS.f k t313 t307).bind fun t316 => (if t316 = true then ((laws_toCredS.f k l0).bind fun t317 => ((laws_eqCredS.f k t310 t317).bind fun t320 => (if t320 = true then ((laws_markCredS.f k t310 1).bind fun bt321 => (if bt321.1 < 0 then (laws_FnExactRolesOf.j0 k l0 a1 t307 t313 true) else ((laws_eqRoleS.f k t313 t307).bind fun t323 => (laws_FnExactRolesOf.j0 k l0 a1 t307 t313 (!t323))))) else (some false)))) else (some false))) = some r := H
  have A8 := Aside0.mk A80
  clear A80
  replace H := Option.bind_eq_some_iff.mp H
  obtain ⟨t316, A90, H⟩ := H
  replace H : (if t316 = true then ((laws_toCredS.f k l0).bind fun t317 => ((laws_eqCredS.f k t310 t317).bind fun t320 => (if t320 = true then ((laws_markCredS.f k t310 1).bind fun bt321 => (if bt321.1 < 0 then (laws_FnExactRolesOf.j0 k l0 a1 t307 t313 true) else ((laws_eqRoleS.f k t313 t307).bind fun t323 => (laws_FnExactRolesOf.j0 k l0 a1 t307 t313 (!t323))))) else (some false)))) else (some false)) = some r := H
  have A9 := Aside0.mk A90
  clear A90
  by_cases c10 : t316 = true
  ·subst c10
   have H1 : ((laws_toCredS.f k l0).bind fun t317 => ((laws_eqCredS.f k t310 t317).bind fun t320 => (if t320 = true then ((laws_markCredS.f k t310 1).bind fun bt321 => (if bt321.1 < 0 then (laws_FnExactRolesOf.j0 k l0 a1 t307 t313 true) else ((laws_eqRoleS.f k t313 t307).bind fun t323 => (laws_FnExactRolesOf.j0 k l0 a1 t307 t313 (!t323))))) else (some false)))) = some r := by rw [if_pos rfl] at H; exact H
   clear H
   have H := H1
   clear H1
   replace H := Option.bind_eq_some_iff.mp H
   obtain ⟨t317, A110, H⟩ := H
   replace H : ((laws_eqCredS.f k t310 t317).bind fun t320 => (if t320 = true then ((laws_markCredS.f k t310 1).bind fun bt321 => (if bt321.1 < 0 then (laws_FnExactRolesOf.j0 k l0 a1 t307 t313 true) else ((laws_eqRoleS.f k t313 t307).bind fun t323 => (laws_FnExactRolesOf.j0 k l0 a1 t307 t313 (!t323))))) else (some false))) = some r := H
   have A11 := Aside0.mk A110
   clear A110
   replace H := Option.bind_eq_some_iff.mp H
   obtain ⟨t320, A120, H⟩ := H
   replace H : (if t320 = true then ((laws_markCredS.f k t310 1).bind fun bt321 => (if bt321.1 < 0 then (laws_FnExactRolesOf.j0 k l0 a1 t307 t313 true) else ((laws_eqRoleS.f k t313 t307).bind fun t323 => (laws_FnExactRolesOf.j0 k l0 a1 t307 t313 (!t323))))) else (some false)) = some r := H
   have A12 := Aside0.mk A120
   clear A120
   by_cases c13 : t320 = true
   ·subst c13
    have H1 : ((laws_markCredS.f k t310 1).bind fun bt321 => (if bt321.1 < 0 then (laws_FnExactRolesOf.j0 k l0 a1 t307 t313 true) else ((laws_eqRoleS.f k t313 t307).bind fun t323 => (laws_FnExactRolesOf.j0 k l0 a1 t307 t313 (!t323))))) = some r := by rw [if_pos rfl] at H; exact H
    clear H
    have H := H1
    clear H1
    replace H := Option.bind_eq_some_iff.mp H
    obtain ⟨⟨t321, t322⟩, A140, H⟩ := H
    replace H : (if t321 < 0 then (laws_FnExactRolesOf.j0 k l0 a1 t307 t313 true) else ((laws_eqRoleS.f k t313 t307).bind fun t323 => (laws_FnExactRolesOf.j0 k l0 a1 t307 t313 (!t323)))) = some r := H
    have A14 := Aside0.mk A140
    clear A140
    have HC15 := Aside0.mk H
    clear H
    go_enter Try.func7, Try.ntmps7
    go_upto_region 14 with (first | ((with_reducible refine gate_callee (f := 19) rfl ?_); refine goesL_ (some 15) rfl rfl Try.func19 (by kernel_rfl) rfl #[.slice A0 l0.length c0, .int .i64 1048576] rfl sqA ?_; (with_reducible refine (laws_szCredS.calls _ _ l0 1048576 t303 _ ?side1 ?side2 A3.out).mono ?_); (case side1 => repeat (first | exact HR0.out | (with_reducible refine Kd.C_alloc ?_ _) | (with_reducible refine Kd.C_drewN ?_ _) | (with_reducible refine Kd.C_drew ?_))); (case side2 => exact HC0.out); rintro e w' ⟨rfl, ⟨nd, rfl⟩⟩; refine ⟨_, rfl, ?_⟩) | ((with_reducible refine gate_callee (f := 21) rfl ?_); refine goesL_ (some 19) rfl rfl Try.func21 (by kernel_rfl) rfl #[.slice A0 l0.length c0] rfl sqA ?_; (with_reducible refine (laws_toCredS.calls k _ _ l0 t304 _ ?side1 ?side2 A5.out).mono ?_); (case side1 => repeat (first | exact HR0.out | (with_reducible refine Kd.C_alloc ?_ _) | (with_reducible refine Kd.C_drewN ?_ _) | (with_reducible refine Kd.C_drew ?_))); (case side2 => exact HC0.out); rintro e w16 ⟨v305, rfl, ho0, hb⟩; refine ⟨_, rfl, ?_⟩; have HO306 := Aside0.mk (Kd.R_lower ho0 (below_size (sqB))); replace HB := sqS hb; (try clear hb); (try clear hb2); (try clear hk); (try clear hi); (try clear ho0); obtain ⟨Ao17, co17, eo17⟩ := Kd.R_slice HO306.out; subst eo17) | ((with_reducible refine gate_callee (f := 32) rfl ?_); refine goesL_ (some 21) rfl rfl Try.func32 (by kernel_rfl) rfl #[.slice Ao17 t304.length co17, .int .i64 a1] rfl sqA ?_; (with_reducible refine (spec_RolesOf.calls k _ _ t304 a1 t307 _ ?side1 ?side2 A6.out).mono ?_); (case side1 => repeat (first | exact (Kd.R_reads' HO306.out).2.2 | (with_reducible refine Kd.C_alloc ?_ _) | (with_reducible refine Kd.C_drewN ?_ _) | (with_reducible refine Kd.C_drew ?_))); (case side2 => exact (Kd.R_reads' HO306.out).2.1); rintro e w18 ⟨v308, rfl, ho0, hb⟩; refine ⟨_, rfl, ?_⟩; replace HO306 := Aside0.mk (Kd.R_below (sqR HO306) hb); have HO309 := Aside0.mk (Kd.R_lower ho0 (below_size (sqB))); replace HB := sqS hb; (try clear hb); (try clear hb2); (try clear hk); (try clear hi); (try clear ho0)) | ((with_reducible refine gate_callee (f := 21) rfl ?_); refine goesL_ (some 23) rfl rfl Try.func21 (by kernel_rfl) rfl #[.slice A0 l0.length c0] rfl sqA ?_; (with_reducible refine (laws_toCredS.calls k _ _ l0 t310 _ ?side1 ?side2 A7.out).mono ?_); (case side1 => repeat (first | exact (Kd.C_below HR0.out HB.out) | (with_reducible refine Kd.C_alloc ?_ _) | (with_reducible refine Kd.C_drewN ?_ _) | (with_reducible refine Kd.C_drew ?_))); (case side2 => exact HC0.out); rintro e w19 ⟨v311, rfl, ho0, hb⟩; refine ⟨_, rfl, ?_⟩; have n0_ := Aside0.mk (Kd.R_elder' (sqR HO306) (Kd.R_base ho0) hb); have n1_ := Aside0.mk (Kd.R_below (sqR HO309) hb); have n2_ := Aside0.mk (Kd.R_lower (Kd.R_new' ho0 (Kd.R_lt (sqR HO306))) (below_size (sqB))); have n3_ := sqS hb; clear HO306; clear HO309; clear HB; have HO306 := n0_; have HO309 := n1_; have HO312 := n2_; have HB := n3_; clear n0_ n1_ n2_ n3_; (try clear hb); (try clear hb2); (try clear hk); (try clear hi); (try clear ho0); obtain ⟨Ao20, co20, eo20⟩ := Kd.R_slice HO312.out; subst eo20) | ((with_reducible refine gate_callee (f := 17) rfl ?_); refine goesL_ (some 26) rfl rfl Try.func17 (by kernel_rfl) rfl #[.slice Ao20 t310.length co20, .int .i64 a1] rfl sqA ?_; (with_reducible refine (impl_RolesOf.calls k _ _ t310 a1 t313 _ ?side1 ?side2 A8.out).mono ?_); (case side1 => repeat (first | exact (Kd.R_reads' HO312.out).2.2 | (with_reducible refine Kd.C_alloc ?_ _) | (with_reducible refine Kd.C_drewN ?_ _) | (with_reducible refine Kd.C_drew ?_))); (case side2 => exact (Kd.R_reads' HO312.out).2.1); rintro e w21 ⟨v314, rfl, ho0, hb⟩; refine ⟨_, rfl, ?_⟩; have n0_ := Aside0.mk (Kd.R_below (sqR HO306) hb); have n1_ := Aside0.mk (Kd.R_elder' (sqR HO309) (Kd.R_base ho0) hb); have n2_ := Aside0.mk (Kd.R_below (sqR HO312) hb); have n3_ := Aside0.mk (Kd.R_lower (Kd.R_new' ho0 (Kd.R_lt (sqR HO309))) (below_size (sqB))); have n4_ := sqS hb; clear HO306; clear HO309; clear HO312; clear HB; have HO306 := n0_; have HO309 := n1_; have HO312 := n2_; have HO315 := n3_; have HB := n4_; clear n0_ n1_ n2_ n3_ n4_; (try clear hb); (try clear hb2); (try clear hk); (try clear hi); (try clear ho0); obtain ⟨Ao22, co22, eo22⟩ := Kd.R_slice HO315.out; subst eo22; obtain ⟨Ao23, co23, eo23⟩ := Kd.R_slice HO309.out; subst eo23) | ((with_reducible refine gate_callee (f := 33) rfl ?_); refine goesL_ (some 29) rfl rfl Try.func33 (by kernel_rfl) rfl #[.slice Ao22 t313.length co22, .slice Ao23 t307.length co23] rfl sqA ?_; (with_reducible refine (laws_eqRoleS.calls k _ _ t313 _ _ t307 true _ ?side1 ?side2 ?side3 ?side4 A9.out).mono ?_); (case side1 => repeat (first | exact (Kd.R_reads' HO315.out).2.2 | (with_reducible refine Kd.C_alloc ?_ _) | (with_reducible refine Kd.C_drewN ?_ _) | (with_reducible refine Kd.C_drew ?_))); (case side2 => exact (Kd.R_reads' HO315.out).2.1); (case side3 => repeat (first | exact (Kd.R_reads' HO309.out).2.2 | (with_reducible refine Kd.C_alloc ?_ _) | (with_reducible refine Kd.C_drewN ?_ _) | (with_reducible refine Kd.C_drew ?_))); (case side4 => exact (Kd.R_reads' HO309.out).2.1); rintro e w24 ⟨rfl, hb⟩; refine ⟨_, rfl, ?_⟩; replace HO306 := Aside0.mk (Kd.R_below (sqR HO306) hb); replace HO309 := Aside0.mk (Kd.R_below (sqR HO309) hb); replace HO312 := Aside0.mk (Kd.R_below (sqR HO312) hb); replace HO315 := Aside0.mk (Kd.R_below (sqR HO315) hb); replace HB := sqS hb; (try clear hb); (try clear hb2); (try clear hk); (try clear hi)) | ((with_reducible refine gate_callee (f := 21) rfl ?_); refine goesL_ (some 33) rfl rfl Try.func21 (by kernel_rfl) rfl #[.slice A0 l0.length c0] rfl sqA ?_; (with_reducible refine (laws_toCredS.calls k _ _ l0 t317 _ ?side1 ?side2 A11.out).mono ?_); (case side1 => repeat (first | exact (Kd.C_below HR0.out HB.out) | (with_reducible refine Kd.C_alloc ?_ _) | (with_reducible refine Kd.C_drewN ?_ _) | (with_reducible refine Kd.C_drew ?_))); (case side2 => exact HC0.out); rintro e w25 ⟨v318, rfl, ho0, hb⟩; refine ⟨_, rfl, ?_⟩; have n0_ := Aside0.mk (Kd.R_elder' (sqR HO306) (Kd.R_base ho0) hb); have n1_ := Aside0.mk (Kd.R_below (sqR HO309) hb); have n2_ := Aside0.mk (Kd.R_elder' (sqR HO312) (Kd.R_base ho0) hb); have n3_ := Aside0.mk (Kd.R_below (sqR HO315) hb); have n4_ := Aside0.mk (Kd.R_lower (Kd.R_new' (Kd.R_new' ho0 (Kd.R_lt (sqR HO306))) (Kd.R_lt (sqR HO312))) (below_size (sqB))); have n5_ := sqS hb; clear HO306; clear HO309; clear HO312; clear HO315; clear HB; have HO306 := n0_; have HO309 := n1_; have HO312 := n2_; have HO315 := n3_; have HO319 := n4_; have HB := n5_; clear n0_ n1_ n2_ n3_ n4_ n5_; (try clear hb); (try clear hb2); (try clear hk); (try clear hi); (try clear ho0); obtain ⟨Ao26, co26, eo26⟩ := Kd.R_slice HO319.out; subst eo26) | ((with_reducible refine gate_callee (f := 23) rfl ?_); refine goesL_ (some 34) rfl rfl Try.func23 (by kernel_rfl) rfl #[.slice Ao20 t310.length co20, .slice Ao26 t317.length co26] rfl sqA ?_; (with_reducible refine (laws_eqCredS.calls k _ _ t310 _ _ t317 true _ ?side1 ?side2 ?side3 ?side4 A12.out rfl).mono ?_); (case side1 => repeat (first | exact (Kd.R_reads' HO312.out).2.2 | (with_reducible refine Kd.C_alloc ?_ _) | (with_reducible refine Kd.C_drewN ?_ _) | (with_reducible refine Kd.C_drew ?_))); (case side2 => exact (Kd.R_reads' HO312.out).2.1); (case side3 => repeat (first | exact (Kd.R_reads' HO319.out).2.2 | (with_reducible refine Kd.C_alloc ?_ _) | (with_reducible refine Kd.C_drewN ?_ _) | (with_reducible refine Kd.C_drew ?_))); (case side4 => exact (Kd.R_reads' HO319.out).2.1); rintro e w27 ⟨rfl, hb⟩; refine ⟨_, rfl, ?_⟩; replace HO306 := Aside0.mk (Kd.R_below (sqR HO306) hb); replace HO309 := Aside0.mk (Kd.R_below (sqR HO309) hb); replace HO312 := Aside0.mk (Kd.R_below (sqR HO312) hb); replace HO315 := Aside0.mk (Kd.R_below (sqR HO315) hb); replace HO319 := Aside0.mk (Kd.R_below (sqR HO319) hb); replace HB := sqS hb; (try clear hb); (try clear hb2); (try clear hk); (try clear hi)) | ((with_reducible refine gate_callee (f := 25) rfl ?_); refine goesL_ (some 38) rfl rfl Try.func25 (by kernel_rfl) rfl #[.slice Ao20 t310.length co20, .int .i64 1] rfl sqA ?_; (with_reducible refine (laws_markCredS.calls k (fun k_ => some k_ = (.slice Ao20 t310.length co20 : Value).ownBlock) (.slice Ao20 t310.length co20) t310 1 t321 t322 w _ ?side1 ?side2 A14.out).mono ?_); (case side1 => repeat (first | (with_reducible first | exact HB.out | apply below_alloc | apply pw_below_drewN | apply below_drew1) | exact HB.out)); (case side2 => exact Kd.R_tight rfl HO312.out); rintro e w28 ⟨rfl, hy0, hb, hkp⟩; refine ⟨_, rfl, ?_⟩; have n0_ := Aside0.mk (Kd.R_mono (ok' := fun k_ => some k_ ≠ (.slice Ao20 t310.length co20 : Value).ownBlock ∧ some k_ ≠ (.slice Ao26 t317.length co26 : Value).ownBlock) (Kd.R_keptB (HO306.out) hkp (fun k_ hk_ hs_ => (hk_.1.2) hs_)) (fun k_ hk_ => ⟨hk_.1.1.2, hk_.1.2⟩)); have n1_ := Aside0.mk (Kd.R_mono (ok' := fun k_ => some k_ ≠ (.slice Ao22 t313.length co22 : Value).ownBlock) (Kd.R_keptB ((Kd.R_apart' HO309.out (Kd.R_typed HO312.out) (by decide))) hkp (fun k_ hk_ hs_ => (hk_.2) hs_)) (fun k_ hk_ => hk_.1.1.2)); have n2_ := Aside0.mk (Kd.R_reok rfl hy0 (fun k_ e_ => HO312.out.1 k_ e_)); have n3_ := Aside0.mk (Kd.R_mono (ok' := fun k_ => some k_ ≠ (.slice Ao23 t307.length co23 : Value).ownBlock) (Kd.R_keptB ((Kd.R_apart' HO315.out (Kd.R_typed HO312.out) (by decide))) hkp (fun k_ hk_ hs_ => (hk_.2) hs_)) (fun k_ hk_ => hk_.1.1.2)); have n4_ := Aside0.mk (Kd.R_mono (ok' := fun k_ => some k_ ≠ (.slice Ao17 t304.length co17 : Value).ownBlock ∧ some k_ ≠ (.slice Ao20 t310.length co20 : Value).ownBlock) (Kd.R_keptB (HO319.out) hkp (fun k_ hk_ hs_ => (hk_.2) hs_)) (fun k_ hk_ => ⟨hk_.1.1.2, hk_.1.2⟩)); have n5_ := Aside0.mk (hb); clear HO306; clear HO309; clear HO312; clear HO315; clear HO319; clear HB; have HO306 := n0_; have HO309 := n1_; have HO312 := n2_; have HO315 := n3_; have HO319 := n4_; have HB := n5_; clear n0_ n1_ n2_ n3_ n4_ n5_; (try clear hb); (try clear hkp); (try clear hy0)))
    (try simp only [Act.put, List.setIfInBounds_toArray, List.set_cons_zero, List.set_cons_succ])
    go_cut [46] (fun v46 wc => ∃ (kq : Nat) (x46_14 : Bool), v46 = .bool x46_14 ∧ Aside0 (laws_FnExactRolesOf.j0 kq l0 a1 t307 t313 x46_14 = some r) ∧ Aside0 (kq ≤ k) ∧ Aside0 (Kd.R k27 27 wc w.heap.size (fun k_ => some k_ ≠ ((.slice Ao22 t313.length co22) : Value).ownBlock) (.slice Ao23 t307.length co23) t307) ∧ Aside0 (Kd.R k27 27 wc w.heap.size (fun k_ => some k_ ≠ ((.slice Ao23 t307.length co23) : Value).ownBlock) (.slice Ao22 t313.length co22) t313) ∧ Aside0 (Below w.heap.size w wc))
    case first =>
     have H := HC15.out
     clear HC15
     by_cases c29 : t321 < 0
     ·rw [if_pos c29] at H
      have c29b0 : decide (t321 < 0) = true := decide_eq_true c29
      clear c29
      (first | rw [c29b0] | (simp only [i64_w, i32_w]; rw [c29b0]) | skip)
      have H' := Aside0.mk H
      clear H
      go_wp2
      go_meet
      case rel => exact ⟨_, (true), (by first | rfl | (simp; done) | (simp [*]; done)), H', ⟨by first | omega | exact Nat.le_refl _⟩, ⟨sqR HO309⟩, ⟨sqR HO315⟩, ⟨sqB⟩⟩
     ·rw [if_neg c29] at H
      have c29b0 : decide (t321 < 0) = false := decide_eq_false c29
      clear c29
      (first | rw [c29b0] | (simp only [i64_w, i32_w]; rw [c29b0]) | skip)
      replace H := Option.bind_eq_some_iff.mp H
      obtain ⟨t323, A300, H⟩ := H
      replace H : (laws_FnExactRolesOf.j0 k l0 a1 t307 t313 (!t323)) = some r := H
      have A30 := Aside0.mk A300
      clear A300
      have H' := Aside0.mk H
      clear H
      go_wp2_with (first | (go_at_call 33; (with_reducible refine (laws_eqRoleS.calls k _ _ t313 _ _ t307 t323 _ ?side1 ?side2 ?side3 ?side4 A30.out).mono ?_); (case side1 => repeat (first | exact (Kd.R_reads' HO315.out).2.2 | (with_reducible refine Kd.C_alloc ?_ _) | (with_reducible refine Kd.C_drewN ?_ _) | (with_reducible refine Kd.C_drew ?_))); (case side2 => exact (Kd.R_reads' HO315.out).2.1); (case side3 => repeat (first | exact (Kd.R_reads' HO309.out).2.2 | (with_reducible refine Kd.C_alloc ?_ _) | (with_reducible refine Kd.C_drewN ?_ _) | (with_reducible refine Kd.C_drew ?_))); (case side4 => exact (Kd.R_reads' HO309.out).2.1); rintro e w31 ⟨rfl, hb⟩; replace HO306 := Aside0.mk (Kd.R_below (sqR HO306) hb); replace HO309 := Aside0.mk (Kd.R_below (sqR HO309) hb); replace HO312 := Aside0.mk (Kd.R_below (sqR HO312) hb); replace HO315 := Aside0.mk (Kd.R_below (sqR HO315) hb); replace HO319 := Aside0.mk (Kd.R_below (sqR HO319) hb); replace HB := sqS hb; (try clear hb); (try clear hb2); (try clear hk); (try clear hi)))
      go_meet
      case rel => exact ⟨_, (!t323), (by first | rfl | (simp; done) | (simp [*]; done)), H', ⟨by first | omega | exact Nat.le_refl _⟩, ⟨sqR HO309⟩, ⟨sqR HO315⟩, ⟨sqB⟩⟩
    case rest =>
     clear HC15
     try clear c1
     try clear c2
     try clear p2
     try clear c3
     try clear c4
     try clear c4b0
     try clear c7
     try clear c10
     try clear c13
     try clear c17
     try clear c19
     try clear c21
     try clear c23
     try clear c25
     try clear c29
     try clear c29b0
     obtain ⟨kq, x46_14, rfl, HA, HJ14, HO_6, HO_8, HB⟩ := hcut
     cases kq with
     | zero => exact absurd HA.out (by simp [laws_FnExactRolesOf.j0])
     | succ kj14 =>
      have H := HA.out
      clear HA
      simp only [laws_FnExactRolesOf.j0] at H
      by_cases c32 : x46_14 = true
      ·subst c32
       have H1 : (some false) = some r := by rw [if_pos rfl] at H; exact H
       exact absurd ((Option.some.inj H1).trans HRT.out) (by decide)
      ·replace c32 := Bool.eq_false_iff.mpr c32
       subst c32
       have H1 : ((laws_markRoleS.f kj14 t313 1).bind fun bt324 => ((laws_heldRoleS.f kj14 bt324.2 1).bind fun t326 => (if t326 < 0 then (some false) else (if t326 = bt324.1 then ((laws_toCredS.f kj14 l0).bind fun t327 => ((impl_RolesOf.f kj14 t327 a1).bind fun t330 => ((laws_eqRoleS.f kj14 t330 t307).bind fun t333 => (if t333 = true then ((laws_heldRoleS.f kj14 bt324.2 1).bind fun t334 => (if t334 < 0 then (some false) else (if t334 = bt324.1 then (some true) else (some false)))) else (some false))))) else (some false))))) = some r := by rw [if_neg (show ¬ (false = true) by decide)] at H; exact H
       clear H
       have H := H1
       clear H1
       replace H := Option.bind_eq_some_iff.mp H
       obtain ⟨⟨t324, t325⟩, A330, H⟩ := H
       replace H : ((laws_heldRoleS.f kj14 t325 1).bind fun t326 => (if t326 < 0 then (some false) else (if t326 = t324 then ((laws_toCredS.f kj14 l0).bind fun t327 => ((impl_RolesOf.f kj14 t327 a1).bind fun t330 => ((laws_eqRoleS.f kj14 t330 t307).bind fun t333 => (if t333 = true then ((laws_heldRoleS.f kj14 t325 1).bind fun t334 => (if t334 < 0 then (some false) else (if t334 = t324 then (some true) else (some false)))) else (some false))))) else (some false)))) = some r := H
       have A33 := Aside0.mk A330
       clear A330
       replace H := Option.bind_eq_some_iff.mp H
       obtain ⟨t326, A340, H⟩ := H
       replace H : (if t326 < 0 then (some false) else (if t326 = t324 then ((laws_toCredS.f kj14 l0).bind fun t327 => ((impl_RolesOf.f kj14 t327 a1).bind fun t330 => ((laws_eqRoleS.f kj14 t330 t307).bind fun t333 => (if t333 = true then ((laws_heldRoleS.f kj14 t325 1).bind fun t334 => (if t334 < 0 then (some false) else (if t334 = t324 then (some true) else (some false)))) else (some false))))) else (some false))) = some r := H
       have A34 := Aside0.mk A340
       clear A340
       by_cases c35 : t326 < 0
       ·rw [if_pos c35] at H
        exact absurd ((Option.some.inj H).trans HRT.out) (by decide)
       ·rw [if_neg c35] at H
        have c35b0 : decide (t326 < 0) = false := decide_eq_false c35
        clear c35
        by_cases c37 : t326 = t324
        ·rw [if_pos c37] at H
         have c37b0 : (t326 == t324) = true := beq_iff_eq.mpr c37
         have c37b1 : (t326 != t324) = false := bne_eq_false_iff_eq.mpr c37
         clear c37
         replace H := Option.bind_eq_some_iff.mp H
         obtain ⟨t327, A380, H⟩ := H
         replace H : ((impl_RolesOf.f kj14 t327 a1).bind fun t330 => ((laws_eqRoleS.f kj14 t330 t307).bind fun t333 => (if t333 = true then ((laws_heldRoleS.f kj14 t325 1).bind fun t334 => (if t334 < 0 then (some false) else (if t334 = t324 then (some true) else (some false)))) else (some false)))) = some r := H
         have A38 := Aside0.mk A380
         clear A380
         replace H := Option.bind_eq_some_iff.mp H
         obtain ⟨t330, A390, H⟩ := H
         replace H : ((laws_eqRoleS.f kj14 t330 t307).bind fun t333 => (if t333 = true then ((laws_heldRoleS.f kj14 t325 1).bind fun t334 => (if t334 < 0 then (some false) else (if t334 = t324 then (some true) else (some false)))) else (some false))) = some r := H
         have A39 := Aside0.mk A390
         clear A390
         replace H := Option.bind_eq_some_iff.mp H
         obtain ⟨t333, A400, H⟩ := H
         replace H : (if t333 = true then ((laws_heldRoleS.f kj14 t325 1).bind fun t334 => (if t334 < 0 then (some false) else (if t334 = t324 then (some true) else (some false)))) else (some false)) = some r := H
         have A40 := Aside0.mk A400
         clear A400
         by_cases c41 : t333 = true
         ·subst c41
          have H1 : ((laws_heldRoleS.f kj14 t325 1).bind fun t334 => (if t334 < 0 then (some false) else (if t334 = t324 then (some true) else (some false)))) = some r := by rw [if_pos rfl] at H; exact H
          clear H
          have H := H1
          clear H1
          replace H := Option.bind_eq_some_iff.mp H
          obtain ⟨t334, A420, H⟩ := H
          replace H : (if t334 < 0 then (some false) else (if t334 = t324 then (some true) else (some false))) = some r := H
          have A42 := Aside0.mk A420
          clear A420
          by_cases c43 : t334 < 0
          ·rw [if_pos c43] at H
           exact absurd ((Option.some.inj H).trans HRT.out) (by decide)
          ·rw [if_neg c43] at H
           have c43b0 : decide (t334 < 0) = false := decide_eq_false c43
           clear c43
           by_cases c50 : t334 = t324
           ·rw [if_pos c50] at H
            have c50b0 : (t334 == t324) = true := beq_iff_eq.mpr c50
            have c50b1 : (t334 != t324) = false := bne_eq_false_iff_eq.mpr c50
            clear c50
            obtain rfl := Option.some.inj H
            go_wp2_with (first | ((with_reducible refine gate_callee (f := 34) rfl ?_); refine goesL_ (some 49) rfl rfl Try.func34 (by kernel_rfl) rfl #[.slice Ao22 t313.length co22, .int .i64 1] rfl sqA ?_; (with_reducible refine (laws_markRoleS.calls kj14 (fun k_ => some k_ = (.slice Ao22 t313.length co22 : Value).ownBlock) (.slice Ao22 t313.length co22) t313 1 t324 t325 w _ ?side1 ?side2 A33.out).mono ?_); (case side1 => repeat (first | (with_reducible first | exact HB.out | apply below_alloc | apply pw_below_drewN | apply below_drew1) | exact HB.out)); (case side2 => exact Kd.R_tight rfl HO_8.out); rintro e w51 ⟨rfl, hy0, hb, hkp⟩; refine ⟨_, rfl, ?_⟩; replace HO_6 := Aside0.mk (Kd.R_mono (ok' := fun k_ => some k_ ≠ (.slice Ao22 t313.length co22 : Value).ownBlock) (Kd.R_keptB (HO_6.out) hkp (fun k_ hk_ hs_ => (hk_) hs_)) (fun k_ hk_ => hk_.1)); replace HO_8 := Aside0.mk (Kd.R_reok rfl hy0 (fun k_ e_ => HO_8.out.1 k_ e_)); replace HB := Aside0.mk (hb); (try clear hb); (try clear hkp); (try clear hy0)) | ((with_reducible refine gate_callee (f := 35) rfl ?_); refine goesL_ (some 52) rfl rfl Try.func35 (by kernel_rfl) rfl #[.slice Ao22 t325.length co22, .int .i64 1] rfl (by (try simp only [List.map_toArray, List.map_cons, List.map_nil]); first | done | (rw [show t325.length = t313.length from (Kd.R_reads' HO_8.out).1.symm] <;> rfl) | rfl | (simp only [List.length_drop, List.length_take]; rfl)) ?_; (with_reducible refine (laws_heldRoleS.calls kj14 _ _ t325 1 t326 _ ?side1 ?side2 A34.out).mono ?_); (case side1 => repeat (first | exact (Kd.R_reads' HO_8.out).2.2 | (with_reducible refine Kd.C_alloc ?_ _) | (with_reducible refine Kd.C_drewN ?_ _) | (with_reducible refine Kd.C_drew ?_))); (case side2 => rw [show t325.length = t313.length from (Kd.R_reads' HO_8.out).1.symm]; exact (Kd.R_reads' HO_8.out).2.1); rintro e w' ⟨rfl, ⟨nd, rfl⟩⟩; refine ⟨_, rfl, ?_⟩) | ((with_reducible refine gate_callee (f := 21) rfl ?_); refine goesL_ (some 59) rfl rfl Try.func21 (by kernel_rfl) rfl #[.slice A0 l0.length c0] rfl sqA ?_; (with_reducible refine (laws_toCredS.calls kj14 _ _ l0 t327 _ ?side1 ?side2 A38.out).mono ?_); (case side1 => repeat (first | exact (Kd.C_below HR0.out (sqB)) | (with_reducible refine Kd.C_alloc ?_ _) | (with_reducible refine Kd.C_drewN ?_ _) | (with_reducible refine Kd.C_drew ?_))); (case side2 => exact HC0.out); rintro e w52 ⟨v328, rfl, ho0, hb⟩; refine ⟨_, rfl, ?_⟩; replace HO_6 := Aside0.mk (Kd.R_below (sqR HO_6) hb); replace HO_8 := Aside0.mk (Kd.R_below (sqR HO_8) hb); have HO329 := Aside0.mk (Kd.R_lower ho0 (below_size (sqB))); replace HB := sqS hb; (try clear hb); (try clear hb2); (try clear hk); (try clear hi); (try clear ho0); obtain ⟨Ao53, co53, eo53⟩ := Kd.R_slice HO329.out; subst eo53) | ((with_reducible refine gate_callee (f := 17) rfl ?_); refine goesL_ (some 61) rfl rfl Try.func17 (by kernel_rfl) rfl #[.slice Ao53 t327.length co53, .int .i64 a1] rfl sqA ?_; (with_reducible refine (impl_RolesOf.calls kj14 _ _ t327 a1 t330 _ ?side1 ?side2 A39.out).mono ?_); (case side1 => repeat (first | exact (Kd.R_reads' HO329.out).2.2 | (with_reducible refine Kd.C_alloc ?_ _) | (with_reducible refine Kd.C_drewN ?_ _) | (with_reducible refine Kd.C_drew ?_))); (case side2 => exact (Kd.R_reads' HO329.out).2.1); rintro e w54 ⟨v331, rfl, ho0, hb⟩; refine ⟨_, rfl, ?_⟩; have n0_ := Aside0.mk (Kd.R_elder' (sqR HO_6) (Kd.R_base ho0) hb); have n1_ := Aside0.mk (Kd.R_elder' (sqR HO_8) (Kd.R_base ho0) hb); have n2_ := Aside0.mk (Kd.R_below (sqR HO329) hb); have n3_ := Aside0.mk (Kd.R_lower (Kd.R_new' (Kd.R_new' ho0 (Kd.R_lt (sqR HO_6))) (Kd.R_lt (sqR HO_8))) (below_size (sqB))); have n4_ := sqS hb; clear HO_6; clear HO_8; clear HO329; clear HB; have HO_6 := n0_; have HO_8 := n1_; have HO329 := n2_; have HO332 := n3_; have HB := n4_; clear n0_ n1_ n2_ n3_ n4_; (try clear hb); (try clear hb2); (try clear hk); (try clear hi); (try clear ho0); obtain ⟨Ao55, co55, eo55⟩ := Kd.R_slice HO332.out; subst eo55) | ((with_reducible refine gate_callee (f := 33) rfl ?_); refine goesL_ (some 64) rfl rfl Try.func33 (by kernel_rfl) rfl #[.slice Ao55 t330.length co55, .slice Ao23 t307.length co23] rfl sqA ?_; (with_reducible refine (laws_eqRoleS.calls kj14 _ _ t330 _ _ t307 true _ ?side1 ?side2 ?side3 ?side4 A40.out).mono ?_); (case side1 => repeat (first | exact (Kd.R_reads' HO332.out).2.2 | (with_reducible refine Kd.C_alloc ?_ _) | (with_reducible refine Kd.C_drewN ?_ _) | (with_reducible refine Kd.C_drew ?_))); (case side2 => exact (Kd.R_reads' HO332.out).2.1); (case side3 => repeat (first | exact (Kd.R_reads' HO_6.out).2.2 | (with_reducible refine Kd.C_alloc ?_ _) | (with_reducible refine Kd.C_drewN ?_ _) | (with_reducible refine Kd.C_drew ?_))); (case side4 => exact (Kd.R_reads' HO_6.out).2.1); rintro e w56 ⟨rfl, hb⟩; refine ⟨_, rfl, ?_⟩; replace HO_6 := Aside0.mk (Kd.R_below (sqR HO_6) hb); replace HO_8 := Aside0.mk (Kd.R_below (sqR HO_8) hb); replace HO329 := Aside0.mk (Kd.R_below (sqR HO329) hb); replace HO332 := Aside0.mk (Kd.R_below (sqR HO332) hb); replace HB := sqS hb; (try clear hb); (try clear hb2); (try clear hk); (try clear hi)) | ((with_reducible refine gate_callee (f := 35) rfl ?_); refine goesL_ (some 68) rfl rfl Try.func35 (by kernel_rfl) rfl #[.slice Ao22 t325.length co22, .int .i64 1] rfl (by (try simp only [List.map_toArray, List.map_cons, List.map_nil]); first | done | (rw [show t325.length = t313.length from (Kd.R_reads' HO_8.out).1.symm] <;> rfl) | rfl | (simp only [List.length_drop, List.length_take]; rfl)) ?_; (with_reducible refine (laws_heldRoleS.calls kj14 _ _ t325 1 t334 _ ?side1 ?side2 A42.out).mono ?_); (case side1 => repeat (first | exact (Kd.R_reads' HO_8.out).2.2 | (with_reducible refine Kd.C_alloc ?_ _) | (with_reducible refine Kd.C_drewN ?_ _) | (with_reducible refine Kd.C_drew ?_))); (case side2 => rw [show t325.length = t313.length from (Kd.R_reads' HO_8.out).1.symm]; exact (Kd.R_reads' HO_8.out).2.1); rintro e w' ⟨rfl, ⟨nd, rfl⟩⟩; refine ⟨_, rfl, ?_⟩))
            go_ret
            exact ⟨sqE, sqB⟩
           ·rw [if_neg c50] at H
            exact absurd ((Option.some.inj H).trans HRT.out) (by decide)
         ·replace c41 := Bool.eq_false_iff.mpr c41
          subst c41
          have H1 : (some false) = some r := by rw [if_neg (show ¬ (false = true) by decide)] at H; exact H
          exact absurd ((Option.some.inj H1).trans HRT.out) (by decide)
        ·rw [if_neg c37] at H
         exact absurd ((Option.some.inj H).trans HRT.out) (by decide)
   ·replace c13 := Bool.eq_false_iff.mpr c13
    subst c13
    have H1 : (some false) = some r := by rw [if_neg (show ¬ (false = true) by decide)] at H; exact H
    exact absurd ((Option.some.inj H1).trans HRT.out) (by decide)
  ·replace c10 := Bool.eq_false_iff.mpr c10
   subst c10
   have H1 : (some false) = some r := by rw [if_neg (show ¬ (false = true) by decide)] at H; exact H
   exact absurd ((Option.some.inj H1).trans HRT.out) (by decide)

/-- THE ONE PURE STATEMENT of laws_FnExactRolesOf: yours. -/
def laws_FnExactRolesOf.Pure : Prop := ∀ (l0 : List (S85)) (a1 : Int), l0.length ≤ maxLen → (Lit.int .i64 a1).wf = true → ∃ k, laws_FnExactRolesOf.f k l0 a1 = some true
theorem laws_FnExactRolesOf.walk (P : laws_FnExactRolesOf.Pure) (A0 : Option Addr) (c0 : Nat) (l0 : List (S85)) (a1 : Int) (w : World) (hr0 : Kd.C k85 w A0 l0.length l0) (hc0 : l0.length ≤ c0) (hm0 : l0.length ≤ maxLen) (w1 : (Lit.int .i64 a1).wf = true) :
  Calls Try.prog 7 #[.slice A0 l0.length c0, .int .i64 a1] w fun e w' => e = .returned (.bool true) ∧ Below w.heap.size w w' := by
 obtain ⟨k, h⟩ := P l0 a1 hm0 w1
 refine (laws_FnExactRolesOf.calls k A0 c0 l0 a1 true w hr0 hc0 h rfl).mono ?_
 rintro e w' ⟨rfl, hd⟩
 exact ⟨rfl, hd⟩

end Go.Proofs.Ytnebbjcgkoaloaa.PFnExactRolesOf
