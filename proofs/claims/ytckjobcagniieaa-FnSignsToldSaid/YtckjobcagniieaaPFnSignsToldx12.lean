/- What the code that one law of the given program reaches computes, function by function, each with its proof over the given translation.
Conditions: none of our own. (Laid by a program of this session, wip/xp/xp.py; some contracts are typed by hand.) -/
import Derived.Test.YtckjobcagniieaaPFnSignsToldx0
import Derived.Test.YtckjobcagniieaaPFnSignsToldx10
import Derived.Test.YtckjobcagniieaaPFnSignsToldx11
namespace Go.Proofs.Ytckjobcagniieaa.PFnSignsTold
open Go.RowKit Go.Proofs.YtckjobcagniieaaW.PrintWords Go.Proofs.YtckjobcagniieaaW.PrintLast Go.Proofs.YtckjobcagniieaaW.PrintMore
attribute [local go_sem] max2_int min2_int max_two min_two max_three min_three max_four min_four   -- for this text's walks alone
set_option linter.unusedVariables false
set_option linter.unusedSimpArgs false

/-! ### spec_DrawSignedBy: function 28 -/
def spec_DrawSignedBy.f (k : Nat) (l0 : List Int) : Option (ByteArray × ByteArray × Int × List ByteArray × List ByteArray) := (spec_l01New.f k l0).bind fun bt452 => ((spec_l04Any.f k bt452.1 bt452.2.1 bt452.2.2).bind fun bt456 => ((spec_KeyOf.f k bt456.1).bind fun t468 => (some (t468, bt456.2.1, bt456.2.2.1, bt456.2.2.2.1, bt456.2.2.2.2.1))))
theorem spec_DrawSignedBy.mono : ∀ a0 k, LeO (spec_DrawSignedBy.f k a0) (spec_DrawSignedBy.f (k + 1) a0) := by
 intro a0 k
 unfold spec_DrawSignedBy.f
 repeat' first
   | (with_reducible exact spec_KeyOf.mono _ _)
   | (with_reducible exact spec_l01New.mono _ _)
   | (with_reducible exact spec_l04Any.mono _ _ _ _)
   | (with_reducible exact LeO.refl _)
   | (with_reducible exact LeO.none _)
   | (with_reducible refine LeO.ite ?_ ?_)
   | (with_reducible refine LeO.bind ?_ (fun _ => ?_))
   | exact spec_KeyOf.mono _ _
   | exact spec_l01New.mono _ _
   | exact spec_l04Any.mono _ _ _ _
   | exact LeO.none _
   | refine LeO.ite ?_ ?_
   | refine LeO.bind ?_ (fun _ => ?_)
set_option maxHeartbeats 8000000 in
set_option maxRecDepth 100000 in
theorem spec_DrawSignedBy.calls (k : Nat) (A0 : Option Addr) (c0 : Nat) (l0 : List Int) (r1 : ByteArray) (r2 : ByteArray) (r3 : Int) (r4 : List ByteArray) (r5 : List ByteArray) (w : World) (hr0 : Kd.C (Kd.int .u8) w A0 l0.length l0) (hc0 : l0.length ≤ c0) (h : spec_DrawSignedBy.f k l0 = some (r1, r2, r3, r4, r5)) :
  Calls Try.prog 28 #[.slice A0 l0.length c0] w fun e w' => ∃ v3_ v4_ : Value, e = .returned (.tuple #[.string r1, .string r2, .agg #[.int .i64 r3, v3_, v4_]]) ∧ Kd.R Kd.string 9 w' w.heap.size (fun k_ => some k_ ≠ (v4_ : Value).ownBlock) v3_ r4 ∧ Kd.Q Kd.string 9 w' w.heap.size (fun k_ => some k_ ≠ (v3_ : Value).ownBlock) v4_ r5 ∧ Below w.heap.size w w' := by
 have hu29 := Try.underlying29
 have HR0 := Aside0.mk hr0
 have HC0 := Aside0.mk hc0
 clear hr0 hc0
 have HB := Aside0.mk (Below.refl w.heap.size w)
 have H : ((spec_l01New.f k l0).bind fun bt452 => ((spec_l04Any.f k bt452.1 bt452.2.1 bt452.2.2).bind fun bt456 => ((spec_KeyOf.f k bt456.1).bind fun t468 => (some (t468, bt456.2.1, bt456.2.2.1, bt456.2.2.2.1, bt456.2.2.2.2.1))))) = some (r1, r2, r3, r4, r5) := h
 clear h
 replace H := Option.bind_eq_some_iff.mp H
 obtain ⟨⟨t452, t453, t454⟩, A20, H⟩ := H
 try dsimp only at H
 have A2 := Aside0.mk A20
 clear A20
 replace H := Option.bind_eq_some_iff.mp H
 obtain ⟨⟨t456, t457, t458, t459, t462, t465, t466⟩, A30, H⟩ := H
 try dsimp only at H
 have A3 := Aside0.mk A30
 clear A30
 replace H := Option.bind_eq_some_iff.mp H
 obtain ⟨t468, A40, H⟩ := H
 try dsimp only at H
 have A4 := Aside0.mk A40
 clear A40
 simp only [Option.some.injEq, Prod.mk.injEq] at H
 obtain ⟨rfl, rfl, rfl, rfl, rfl⟩ := H
 go_enter Try.func28, Try.ntmps28
 try go_wp2_with (first | ((with_reducible refine gate_dst (N := 4) rfl ?_); refine sqX (N := 4) (cs := #[.int .i64 0, .slice none 0 0, .slice none 0 0]) (t := 29) ?_; intro gb451 hg w5 hbox hb; have BK451 := Aside0.mk (hbox); have GW451 := sqG hg; have GE451 := sqG hg; replace HB := sqS hb; clear hb hbox hg) | ((with_reducible refine gate_callee (f := 36) rfl ?_); refine goesL_ (some 10) rfl rfl Try.func36 (by kernel_rfl) rfl #[.slice A0 l0.length c0] rfl sqA ?_; (with_reducible refine (spec_l01New.calls k _ _ l0 t452 t453 t454 w _ ?side1 ?side2 ?side3 A2.out).mono ?_); (case side1 => exact sqB); (case side2 => exact HR0.out); (case side3 => exact HC0.out); rintro e w6 ⟨g455, rfl, hi, hb, hb2⟩; refine ⟨_, rfl, ?_⟩; have HI455 := Aside0.mk (hi); have NB455_451 := Aside0.mk (IsS74.ne_blk hi (blk_below (g := gb451) (o := .cells #[.int .i64 0, .slice none 0 0, .slice none 0 0] 29 (0, 0)) (sqK BK451) hb2) (by decide)); have NB451_455 := Aside0.mk (Ne.symm (IsS74.ne_blk hi (blk_below (g := gb451) (o := .cells #[.int .i64 0, .slice none 0 0, .slice none 0 0] 29 (0, 0)) (sqK BK451) hb2) (by decide))); replace BK451 := Aside0.mk (blk_below (g := gb451) (o := .cells #[.int .i64 0, .slice none 0 0, .slice none 0 0] 29 (0, 0)) (sqK BK451) hb2); replace HB := Aside0.mk (hb); (try clear hb); (try clear hb2); (try clear hk); (try clear hi)) | ((with_reducible refine gate_callee (f := 57) rfl ?_); refine goesL_ (some 11) rfl rfl Try.func57 (by kernel_rfl) rfl #[.pointer (some ⟨g455, 0, none⟩)] rfl sqA ?_; (with_reducible refine (spec_l04Any.calls k g455 t452 t453 t454 t456 t457 t458 t459 t462 t465 t466 w _ ?side1 ?side2 A3.out).mono ?_); (case side1 => exact sqI74 HI455); (case side2 => exact sqB); rintro e w7 ⟨v460, v463, rfl, ho0, ho1, hi, hb, hk⟩; refine ⟨_, rfl, ?_⟩; replace BK451 := Aside0.mk (KeepBut.blk hk (g' := gb451) (o := .cells #[.int .i64 0, .slice none 0 0, .slice none 0 0] 29 (0, 0)) (sqK BK451) NB451_455.out (by simp)); have HO461 := Aside0.mk (Kd.R_lower ho0 (below_size (sqB))); have HO464 := Aside0.mk (Kd.Q_lower ho1 (below_size (sqB))); replace HI455 := Aside0.mk (hi); replace HB := Aside0.mk (hb); (try clear hb); (try clear hb2); (try clear hk); (try clear hi); (try clear ho0); (try clear ho1)) | ((with_reducible refine gate_dst (N := 7) rfl ?_); refine sqX (N := 7) (cs := #[.int .i64 0, .slice none 0 0, .slice none 0 0]) (t := 29) ?_; intro gb467 hg w8 hbox hb; replace HO461 := Aside0.mk (Kd.R_below (sqR HO461) hb); replace HO464 := Aside0.mk (Kd.Q_below (by (with_reducible repeat (first | apply Kd.Q_alloc | apply Kd.Q_drewN | apply Kd.Q_drew)); exact HO464.out) hb); have BK467 := Aside0.mk (hbox); have GW467 := sqG hg; have GE467 := sqG hg; have NB451_467 := sqN BK451 hg; have NB467_451 := sqM BK451 hg; replace BK451 := sqL BK451 hb; have NB455_467 := Aside0.mk ((by rw [hg]; exact Nat.ne_of_lt (IsS74.lt (show IsS74 w _ g455 t452 t465 t466 from sqI74 HI455)) : g455 ≠ gb467)); have NB467_455 := Aside0.mk ((by rw [hg]; exact Nat.ne_of_gt (IsS74.lt (show IsS74 w _ g455 t452 t465 t466 from sqI74 HI455)) : gb467 ≠ g455)); replace HI455 := Aside0.mk (IsS74.below (sqI74 HI455) hb); replace HB := sqS hb; clear hb hbox hg; have hnb9 := NB467_451.out; have hnc9 := NB451_467.out; have hnb10 := NB467_455.out; have hnc10 := NB455_467.out; obtain ⟨hcz11_0, hcz11_1, hcz11_2, hfz11_0, hfz11_1, hfz11_2⟩ := sqC3 BK467; obtain ⟨Ao12, co12, eo12⟩ := Kd.R_slice HO461.out; subst eo12; obtain ⟨Ao13, co13, eo13, _⟩ := Kd.Q_slice HO464.out; subst eo13))
 have n0_ : Aside0 (Kd.R Kd.string 9 (((w8.setCell ⟨gb467, 0, none⟩ (.int .i64 t458)).setCell ⟨gb467, 1, none⟩ (.slice Ao12 t459.length co12)).setCell ⟨gb467, 2, none⟩ (.slice Ao13 t462.length co13)) w.heap.size (fun k_ => some k_ ≠ (.slice Ao13 t462.length co13 : Value).ownBlock) (.slice Ao12 t459.length co12) t459) := ⟨by (with_reducible repeat (first | apply Kd.R_alloc | apply Kd.R_drewN | apply Kd.R_drew)); exact Kd.R_mono (Kd.R_far (p := ⟨gb467, 2, none⟩) (Kd.R_far (p := ⟨gb467, 1, none⟩) (Kd.R_far (p := ⟨gb467, 0, none⟩) (Kd.R_types HO461.out BK467.out (by decide)) (fun _ hk => hk.2) (.int .i64 t458)) (fun _ hk => hk.2) (.slice Ao12 t459.length co12)) (fun _ hk => hk.2) (.slice Ao13 t462.length co13)) (fun _ hk => hk.1)⟩
 have n1_ : Aside0 (Kd.Q Kd.string 9 (((w8.setCell ⟨gb467, 0, none⟩ (.int .i64 t458)).setCell ⟨gb467, 1, none⟩ (.slice Ao12 t459.length co12)).setCell ⟨gb467, 2, none⟩ (.slice Ao13 t462.length co13)) w.heap.size (fun k_ => some k_ ≠ (.slice Ao12 t459.length co12 : Value).ownBlock) (.slice Ao13 t462.length co13) t462) := ⟨by (with_reducible repeat (first | apply Kd.Q_alloc | apply Kd.Q_drewN | apply Kd.Q_drew)); exact Kd.Q_mono (Kd.Q_far (p := ⟨gb467, 2, none⟩) (Kd.Q_far (p := ⟨gb467, 1, none⟩) (Kd.Q_far (p := ⟨gb467, 0, none⟩) (Kd.Q_types HO464.out BK467.out (by decide)) (fun _ hk => hk.2) (.int .i64 t458)) (fun _ hk => hk.2) (.slice Ao12 t459.length co12)) (fun _ hk => hk.2) (.slice Ao13 t462.length co13)) (fun _ hk => hk.1)⟩
 have n2_ : Aside0 ((((w8.setCell ⟨gb467, 0, none⟩ (.int .i64 t458)).setCell ⟨gb467, 1, none⟩ (.slice Ao12 t459.length co12)).setCell ⟨gb467, 2, none⟩ (.slice Ao13 t462.length co13)).heap[gb451]? = some (.cells #[.int .i64 0, .slice none 0 0, .slice none 0 0] 29 (0, 0))) := ⟨sqW BK451⟩
 have n3_ : Aside0 ((((w8.setCell ⟨gb467, 0, none⟩ (.int .i64 t458)).setCell ⟨gb467, 1, none⟩ (.slice Ao12 t459.length co12)).setCell ⟨gb467, 2, none⟩ (.slice Ao13 t462.length co13)).heap[gb467]? = some (.cells #[.int .i64 t458, .slice Ao12 t459.length co12, .slice Ao13 t462.length co13] 29 (0, 0))) := ⟨by (with_reducible repeat (first | refine blk_drewN ?_ _ | refine blk_drew ?_ | refine blk_alloc ?_ _)); refine blk_put (cs := #[.int .i64 t458, .slice Ao12 t459.length co12, .slice none 0 0]) ?_ 2 _ rfl; (with_reducible repeat (first | refine blk_drewN ?_ _ | refine blk_drew ?_ | refine blk_alloc ?_ _)); refine blk_put (cs := #[.int .i64 t458, .slice none 0 0, .slice none 0 0]) ?_ 1 _ rfl; (with_reducible repeat (first | refine blk_drewN ?_ _ | refine blk_drew ?_ | refine blk_alloc ?_ _)); refine blk_put (cs := #[.int .i64 0, .slice none 0 0, .slice none 0 0]) ?_ 0 _ rfl; (with_reducible repeat (first | refine blk_drewN ?_ _ | refine blk_drew ?_ | refine blk_alloc ?_ _)); exact BK467.out⟩
 have n4_ : Aside0 (IsS74 w (((w8.setCell ⟨gb467, 0, none⟩ (.int .i64 t458)).setCell ⟨gb467, 1, none⟩ (.slice Ao12 t459.length co12)).setCell ⟨gb467, 2, none⟩ (.slice Ao13 t462.length co13)) g455 t452 t465 t466) := ⟨sqI74 HI455⟩
 have n5_ : Aside0 (Below w.heap.size w (((w8.setCell ⟨gb467, 0, none⟩ (.int .i64 t458)).setCell ⟨gb467, 1, none⟩ (.slice Ao12 t459.length co12)).setCell ⟨gb467, 2, none⟩ (.slice Ao13 t462.length co13))) := ⟨sqB⟩
 (try clear HO461)
 (try clear HO464)
 (try clear BK451)
 (try clear BK467)
 (try clear HI455)
 (try clear HB)
 generalize (((w8.setCell ⟨gb467, 0, none⟩ (.int .i64 t458)).setCell ⟨gb467, 1, none⟩ (.slice Ao12 t459.length co12)).setCell ⟨gb467, 2, none⟩ (.slice Ao13 t462.length co13)) = w14 at n0_ n1_ n2_ n3_ n4_ n5_ ⊢
 have HO461 := n0_
 have HO464 := n1_
 have BK451 := n2_
 have BK467 := n3_
 have HI455 := n4_
 have HB := n5_
 clear n0_ n1_ n2_ n3_ n4_ n5_
 replace HO461 := Aside0.mk (Kd.R_drew HO461.out); replace HO464 := Aside0.mk (Kd.Q_drew HO464.out); replace BK451 := Aside0.mk (blk_drew BK451.out); replace BK467 := Aside0.mk (blk_drew BK467.out); replace HI455 := Aside0.mk (IsS74.drew HI455.out); replace HB := Aside0.mk (below_drew1 HB.out)
 refine start_ (n := 7) (S := fun w' => w'.cell? ⟨gb467, 0, none⟩ = some (.int .i64 t458) ∧ w'.cell? ⟨gb467, 1, none⟩ = some (.slice Ao12 t459.length co12) ∧ w'.cell? ⟨gb467, 2, none⟩ = some (.slice Ao13 t462.length co13)) (ds := []) #[false, false, false, false, false, false, false] (by kernel_rfl) rfl rfl sqF (fun hHeld => ?_)
 generalize w14.drew = w15 at HO461 HO464 BK451 BK467 HI455 HB hHeld ⊢
 refine sqP (i := 0) (N := some 15) #[true, false, false, false, false, false, false] rfl rfl (by kernel_rfl) ?_
 refine sqP (i := 2) (N := some 17) #[true, false, true, false, false, false, false] rfl rfl (by kernel_rfl) ?_
 refine sqTk (i := 3) (N := some 18) #[true, false, true, true, false, false, false] rfl rfl (by kernel_rfl) hHeld ?_
 refine one_ (i := 1) (N := some 16) #[true, true, true, true, false, false, false] rfl rfl (by kernel_rfl) (by decide) (fun K hK => ?_)
 refine goes_ Try.func17 (by kernel_rfl) rfl #[.int .i64 t456] (by rfl) rfl rfl sqA ?_
 with_reducible refine (spec_KeyOf.calls k t456 t468 _ A4.out).mono ?_
 rintro e w16 ⟨rfl, hb⟩
 refine ⟨_, rfl, ?_⟩
 replace HO461 := Aside0.mk (Kd.R_below (sqR HO461) hb); replace HO464 := Aside0.mk (Kd.Q_below (by (with_reducible repeat (first | apply Kd.Q_alloc | apply Kd.Q_drewN | apply Kd.Q_drew)); exact HO464.out) hb); replace BK451 := sqL BK451 hb; replace HI455 := Aside0.mk (IsS74.below (sqI74 HI455) hb); replace BK467 := sqL BK467 hb; replace HB := sqS hb
 (try clear hb)
 (try clear hb2)
 (try clear hk)
 (try clear hi)
 refine hK.out _ _ sqF (fun hHeld => ?_)
 clear hK K
 refine sqV (N := some 16) ?_
 refine sqP (i := 4) (N := some 2) #[true, true, true, true, true, false, false] rfl rfl (by kernel_rfl) ?_
 refine sqP (i := 5) (N := some 3) #[true, true, true, true, true, true, false] rfl rfl (by kernel_rfl) ?_
 refine one_ (i := 6) (N := none) #[true, true, true, true, true, true, true] rfl rfl (by kernel_rfl) (by decide) (fun K hK => ?_)
 have hs17 : w16.cell? ⟨gb451, 0, none⟩ = some (.int .i64 0) := (blk_cell BK451.out 0).trans rfl
 have hfs17 := blk_frozen BK451.out 0
 have hns17_1 := NB467_451.out
 have hms17_1 := NB451_467.out
 have hs18 : w16.cell? ⟨gb451, 1, none⟩ = some (.slice none 0 0) := (blk_cell BK451.out 1).trans rfl
 have hfs18 := blk_frozen BK451.out 1
 have hns18_1 := NB467_451.out
 have hms18_1 := NB451_467.out
 have hs19 : w16.cell? ⟨gb451, 2, none⟩ = some (.slice none 0 0) := (blk_cell BK451.out 2).trans rfl
 have hfs19 := blk_frozen BK451.out 2
 have hns19_1 := NB467_451.out
 have hms19_1 := NB451_467.out
 refine skip_ (w1 := ?_) (by rfl) rfl ?_ ?_
 rotate_left
 ·go_simp
  rfl
 refine hK.out _ _ ⟨(sqJn3 hHeld.1), (sqJn3 hHeld.2.1), (sqJn3 hHeld.2.2)⟩ (fun hHeld => ?_)
 clear hK K
 refine done_ (by kernel_rfl) ?_
 try go_wp2
 refine bodyPost_ret (results_list (rs := [.tmp 2, .tmp 3, .cell 4 29]) rfl (by simp) (.tmp (.tmp (.cell gb451 29 #[.int .i64 t458, .slice Ao12 t459.length co12, .slice Ao13 t462.length co13] (0, 0) _ rfl (by (with_reducible repeat (first | refine blk_drewN ?_ _ | refine blk_drew ?_ | refine blk_alloc ?_ _)); refine blk_put (cs := #[.int .i64 t458, .slice Ao12 t459.length co12, .slice none 0 0]) ?_ 2 _ rfl; (with_reducible repeat (first | refine blk_drewN ?_ _ | refine blk_drew ?_ | refine blk_alloc ?_ _)); refine blk_put (cs := #[.int .i64 t458, .slice none 0 0, .slice none 0 0]) ?_ 1 _ rfl; (with_reducible repeat (first | refine blk_drewN ?_ _ | refine blk_drew ?_ | refine blk_alloc ?_ _)); refine blk_put (cs := #[.int .i64 0, .slice none 0 0, .slice none 0 0]) ?_ 0 _ rfl; (with_reducible repeat (first | refine blk_drewN ?_ _ | refine blk_drew ?_ | refine blk_alloc ?_ _)); exact BK451.out) Try.underlying29 rfl (by kernel_rfl) .nil)))) rfl ?_
 exact ⟨_, _, sqE, by (with_reducible repeat (first | apply Kd.R_alloc | apply Kd.R_drewN | apply Kd.R_drew)); exact Kd.R_mono (Kd.R_far (p := ⟨gb451, 2, none⟩) (Kd.R_far (p := ⟨gb451, 1, none⟩) (Kd.R_far (p := ⟨gb451, 0, none⟩) (Kd.R_types HO461.out BK451.out (by decide)) (fun _ hk => hk.2) (.int .i64 t458)) (fun _ hk => hk.2) (.slice Ao12 t459.length co12)) (fun _ hk => hk.2) (.slice Ao13 t462.length co13)) (fun _ hk => hk.1), by (with_reducible repeat (first | apply Kd.Q_alloc | apply Kd.Q_drewN | apply Kd.Q_drew)); exact Kd.Q_mono (Kd.Q_far (p := ⟨gb451, 2, none⟩) (Kd.Q_far (p := ⟨gb451, 1, none⟩) (Kd.Q_far (p := ⟨gb451, 0, none⟩) (Kd.Q_types HO464.out BK451.out (by decide)) (fun _ hk => hk.2) (.int .i64 t458)) (fun _ hk => hk.2) (.slice Ao12 t459.length co12)) (fun _ hk => hk.2) (.slice Ao13 t462.length co13)) (fun _ hk => hk.1), sqB⟩

/-! ### spec_DrawChainOf: function 29 -/
def spec_DrawChainOf.f (k : Nat) (l0 : List Int) : Option (ByteArray × Int) := (spec_l01New.f k l0).bind fun bt469 => ((spec_l01PickInt.f bt469.1 bt469.2.1 bt469.2.2 (([0, 1, 2, 3, 4, (-1), 9223372036854775807] : List Int))).bind fun bt476 => ((spec_l04Text.f bt469.1 bt476.2.1 bt476.2.2).bind fun bt479 => (some (bt479.1, bt476.1))))
theorem spec_DrawChainOf.mono : ∀ a0 k, LeO (spec_DrawChainOf.f k a0) (spec_DrawChainOf.f (k + 1) a0) := by
 intro a0 k
 unfold spec_DrawChainOf.f
 repeat' first
   | (with_reducible exact spec_l01New.mono _ _)
   | (with_reducible exact LeO.refl _)
   | (with_reducible exact LeO.none _)
   | (with_reducible refine LeO.ite ?_ ?_)
   | (with_reducible refine LeO.bind ?_ (fun _ => ?_))
   | exact spec_l01New.mono _ _
   | exact LeO.none _
   | refine LeO.ite ?_ ?_
   | refine LeO.bind ?_ (fun _ => ?_)
set_option maxHeartbeats 8000000 in
set_option maxRecDepth 100000 in
theorem spec_DrawChainOf.calls (k : Nat) (A0 : Option Addr) (c0 : Nat) (l0 : List Int) (r1 : ByteArray) (r2 : Int) (w : World) (hr0 : Kd.C (Kd.int .u8) w A0 l0.length l0) (hc0 : l0.length ≤ c0) (h : spec_DrawChainOf.f k l0 = some (r1, r2)) :
  Calls Try.prog 29 #[.slice A0 l0.length c0] w fun e w' => e = .returned (.tuple #[.string r1, .int .i64 r2]) ∧ Below w.heap.size w w' := by
 have HR0 := Aside0.mk hr0
 have HC0 := Aside0.mk hc0
 clear hr0 hc0
 have HB := Aside0.mk (Below.refl w.heap.size w)
 have H : ((spec_l01New.f k l0).bind fun bt469 => ((spec_l01PickInt.f bt469.1 bt469.2.1 bt469.2.2 (([0, 1, 2, 3, 4, (-1), 9223372036854775807] : List Int))).bind fun bt476 => ((spec_l04Text.f bt469.1 bt476.2.1 bt476.2.2).bind fun bt479 => (some (bt479.1, bt476.1))))) = some (r1, r2) := h
 clear h
 replace H := Option.bind_eq_some_iff.mp H
 obtain ⟨⟨t469, t470, t471⟩, A20, H⟩ := H
 try dsimp only at H
 have A2 := Aside0.mk A20
 clear A20
 obtain ⟨y473, hy473⟩ : ∃ y_ : List Int, y_ = (([0, 1, 2, 3, 4, (-1), 9223372036854775807] : List Int)) := ⟨_, rfl⟩
 replace H : ((spec_l01PickInt.f t469 t470 t471 y473).bind fun bt476 => ((spec_l04Text.f t469 bt476.2.1 bt476.2.2).bind fun bt479 => (some (bt479.1, bt476.1)))) = some (r1, r2) := by first | (rw [hy473]; with_reducible exact H) | (have H2_ := (Option.bind_some _ _).symm.trans H; rw [hy473]; with_reducible exact H2_) | (have H2_ := (Option.bind_some _ _).symm.trans H; with_reducible exact H2_) | with_reducible exact H | (rw [hy473]; exact H) | exact H
 have Ny473 := Aside0.mk hy473
 clear hy473
 replace H := Option.bind_eq_some_iff.mp H
 obtain ⟨⟨t476, t477, t478⟩, A30, H⟩ := H
 try dsimp only at H
 have A3 := Aside0.mk A30
 clear A30
 replace H := Option.bind_eq_some_iff.mp H
 obtain ⟨⟨t479, t480, t481⟩, A40, H⟩ := H
 try dsimp only at H
 have A4 := Aside0.mk A40
 clear A40
 simp only [Option.some.injEq, Prod.mk.injEq] at H
 obtain ⟨rfl, rfl⟩ := H
 go_enter Try.func29, Try.ntmps29
 go_wp2_with (first | ((with_reducible refine gate_callee (f := 36) rfl ?_); refine goesL_ (some 7) rfl rfl Try.func36 (by kernel_rfl) rfl #[.slice A0 l0.length c0] rfl sqA ?_; (with_reducible refine (spec_l01New.calls k _ _ l0 t469 t470 t471 w _ ?side1 ?side2 ?side3 A2.out).mono ?_); (case side1 => exact sqB); (case side2 => exact HR0.out); (case side3 => exact HC0.out); rintro e w5 ⟨g472, rfl, hi, hb, hb2⟩; refine ⟨_, rfl, ?_⟩; have HI472 := Aside0.mk (hi); replace HB := Aside0.mk (hb); (try clear hb); (try clear hb2); (try clear hk); (try clear hi)) | ((with_reducible refine gate_dst (N := 9) rfl ?_); refine Kd.R_lit (Kd.int .i64) _ 3 ?hg (N := 9) ?hd (xs := ([0, 1, 2, 3, 4, (-1), 9223372036854775807] : List Int)) (inner := [.int .i64 0, .int .i64 1, .int .i64 2, .int .i64 3, .int .i64 4, .int .i64 (-1), .int .i64 9223372036854775807]) (ok := fun _ => True) (okp := fun _ => True) ?hr ?hp (fun _ hk => hk) trivial (Below.refl _ _) (Nat.le_refl _) (by simp) ?_; (case hd => rfl); (case hg => rfl); (case hr => first | (go_simp; done) | (go_simp; rfl)); (case hp => exact (Reps.one (show Kd.M (Kd.int .i64) _ _ _ 0 [.int .i64 0] from rfl) (Reps.one (show Kd.M (Kd.int .i64) _ _ _ 1 [.int .i64 1] from rfl) (Reps.one (show Kd.M (Kd.int .i64) _ _ _ 2 [.int .i64 2] from rfl) (Reps.one (show Kd.M (Kd.int .i64) _ _ _ 3 [.int .i64 3] from rfl) (Reps.one (show Kd.M (Kd.int .i64) _ _ _ 4 [.int .i64 4] from rfl) (Reps.one (show Kd.M (Kd.int .i64) _ _ _ (-1) [.int .i64 (-1)] from rfl) (Reps.one (show Kd.M (Kd.int .i64) _ _ _ 9223372036854775807 [.int .i64 9223372036854775807] from rfl) (Reps.none _ _))))))))); intro v474 w6 ho7 hb hg_ hnew_; clear hg_ hnew_; (first | rw [← Ny473.out] at ho7 | (simp only [Int.reduceToNat] at ho7; rw [← Ny473.out] at ho7)); have HO475 := Aside0.mk (Kd.R_lower ho7 (below_size (sqB))); replace HI472 := Aside0.mk (IsS74.below (sqI74 HI472) hb); replace HB := sqS hb; clear hb ho7; obtain ⟨Ao8, co8, eo8⟩ := Kd.R_slice HO475.out; subst eo8) | ((with_reducible refine gate_callee (f := 58) rfl ?_); refine goesL_ (some 10) rfl rfl Try.func58 (by kernel_rfl) rfl #[.pointer (some ⟨g472, 0, none⟩), .slice Ao8 y473.length co8] rfl sqA ?_; (with_reducible refine (spec_l01PickInt.calls g472 t469 t470 t471 _ _ y473 t476 t477 t478 w _ ?side1 ?side2 ?side3 ?side4 ?side5 A3.out).mono ?_); (case side1 => exact sqI74 HI472); (case side2 => exact sqB); (case side3 => repeat (first | exact (Kd.R_reads' HO475.out).2.2 | (with_reducible refine Kd.C_alloc ?_ _) | (with_reducible refine Kd.C_drewN ?_ _) | (with_reducible refine Kd.C_drew ?_))); (case side4 => exact (Kd.R_reads' HO475.out).2.1); (case side5 => exact far_slice (IsS74.own_ne HI472.out HO475.out (by decide))); rintro e w9 ⟨rfl, hi, hb, hk⟩; refine ⟨_, rfl, ?_⟩; replace HO475 := Aside0.mk (Kd.R_mono (Kd.R_keep (IsS74.apart (show IsS74 w _ g472 t469 t470 t471 from sqI74 HI472) (sqR HO475) (by decide)) hk (fun _ h => h.2)) (fun _ h => h.1)); replace HI472 := Aside0.mk (hi); replace HB := Aside0.mk (hb); (try clear hb); (try clear hb2); (try clear hk); (try clear hi)) | ((with_reducible refine gate_callee (f := 56) rfl ?_); refine goesL_ (some 12) rfl rfl Try.func56 (by kernel_rfl) rfl #[.pointer (some ⟨g472, 0, none⟩)] rfl sqA ?_; (with_reducible refine (spec_l04Text.calls g472 t469 t477 t478 t479 t480 t481 w _ ?side1 ?side2 A4.out).mono ?_); (case side1 => exact sqI74 HI472); (case side2 => exact sqB); rintro e w10 ⟨rfl, hi, hb, hk⟩; refine ⟨_, rfl, ?_⟩; replace HO475 := Aside0.mk (Kd.R_mono (Kd.R_keep (IsS74.apart (show IsS74 w _ g472 t469 t477 t478 from sqI74 HI472) (sqR HO475) (by decide)) hk (fun _ h => h.2)) (fun _ h => h.1)); replace HI472 := Aside0.mk (hi); replace HB := Aside0.mk (hb); (try clear hb); (try clear hb2); (try clear hk); (try clear hi)))
 go_ret2
 exact ⟨sqE, sqB⟩

/-! ### laws_sameTexts: function 59 -/
def laws_sameTexts.l0 : Nat → List ByteArray → List ByteArray → Int → Option (Bool)
 | 0, _, _, _ => none
 | k + 1, x0, x1, x5 => if x5 < (x0.length : Int) then (if 0 ≤ x5 then (if x5 < (x1.length : Int) then (if (rdOf ByteArray.empty x0 x5).toList = (rdOf ByteArray.empty x1 x5).toList then (laws_sameTexts.l0 k x0 x1 (wrap64 (x5 + 1))) else (some false)) else (none)) else (none)) else (some true)
def laws_sameTexts.f (k : Nat) (l0 : List ByteArray) (l1 : List ByteArray) : Option (Bool) := if (l0.length : Int) = (l1.length : Int) then (laws_sameTexts.l0 k l0 l1 0) else (some false)
theorem laws_sameTexts.mono_l : ∀ k, (∀ y0 y1 y2, LeO (laws_sameTexts.l0 k y0 y1 y2) (laws_sameTexts.l0 (k + 1) y0 y1 y2))
 | 0 => fun _ _ _ r h => by simp [laws_sameTexts.l0] at h
 | k + 1 => by
  have ih0 := laws_sameTexts.mono_l k
  ·intro y0 y1 y2
   unfold laws_sameTexts.l0
   repeat' first
   | (with_reducible exact ih0 _ _ _)
   | (with_reducible exact LeO.refl _)
   | (with_reducible exact LeO.none _)
   | (with_reducible refine LeO.ite ?_ ?_)
   | (with_reducible refine LeO.bind ?_ (fun _ => ?_))
   | exact ih0 _ _ _
   | exact LeO.none _
   | refine LeO.ite ?_ ?_
   | refine LeO.bind ?_ (fun _ => ?_)
theorem laws_sameTexts.mono : ∀ a0 a1 k, LeO (laws_sameTexts.f k a0 a1) (laws_sameTexts.f (k + 1) a0 a1) := by
 intro a0 a1 k
 have ih0 := laws_sameTexts.mono_l k
 unfold laws_sameTexts.f
 repeat' first
   | (with_reducible exact ih0 _ _ _)
   | (with_reducible exact LeO.refl _)
   | (with_reducible exact LeO.none _)
   | (with_reducible refine LeO.ite ?_ ?_)
   | (with_reducible refine LeO.bind ?_ (fun _ => ?_))
   | exact ih0 _ _ _
   | exact LeO.none _
   | refine LeO.ite ?_ ?_
   | refine LeO.bind ?_ (fun _ => ?_)
set_option maxHeartbeats 8000000 in
set_option maxRecDepth 100000 in
theorem laws_sameTexts.calls (k : Nat) (A0 : Option Addr) (c0 : Nat) (l0 : List ByteArray) (A1 : Option Addr) (c1 : Nat) (l1 : List ByteArray) (r : Bool) (w : World) (hr0 : Kd.C Kd.string w A0 l0.length l0) (hc0 : l0.length ≤ c0) (hr1 : Kd.C Kd.string w A1 l1.length l1) (hc1 : l1.length ≤ c1) (h : laws_sameTexts.f k l0 l1 = some r) :
  Calls Try.prog 59 #[.slice A0 l0.length c0, .slice A1 l1.length c1] w fun e w' => e = .returned (.bool r) ∧ Drawn0 w w' := by
 have HR0 := Aside0.mk hr0
 have HC0 := Aside0.mk hc0
 clear hr0 hc0
 have HR1 := Aside0.mk hr1
 have HC1 := Aside0.mk hc1
 clear hr1 hc1
 have H : (if (l0.length : Int) = (l1.length : Int) then (laws_sameTexts.l0 k l0 l1 0) else (some false)) = some r := h
 clear h
 by_cases c3 : (l0.length : Int) = (l1.length : Int)
 ·rw [if_pos c3] at H
  have c3b0 : ((l0.length : Int) == (l1.length : Int)) = true := beq_iff_eq.mpr c3
  have c3b1 : ((l0.length : Int) != (l1.length : Int)) = false := bne_eq_false_iff_eq.mpr c3
  have c3b2 : (l0.length == l1.length) = true := by first | simpa using c3 | (simp at c3 ⊢; omega)
  clear c3
  have H' := Aside0.mk H
  clear H
  go_enter Try.func59, Try.ntmps59
  go_wp2
  repeat (go_quiet (fail); try go_wp2)
  go_loopg [5] k (fun kq v5 w' => ∃ (x5_1 : Int), v5 = .int .i64 x5_1 ∧ Aside0 (laws_sameTexts.l0 kq l0 l1 x5_1 = some r) ∧ Aside0 (kq ≤ k) ∧ Drawn0 w w')
  case atStart => exact ⟨(0), (by first | rfl | (simp; done) | (simp [*]; done)), H', ⟨Nat.le_refl _⟩, by repeat (first | exact Drawn0.refl _ | apply Drawn0.step)⟩
  case round =>
   clear H'
   try clear c1
   try clear p2
   try clear c3
   try clear c3b0
   try clear c3b1
   try clear c3b2
   obtain ⟨x5_1, rfl, HA, HK1, ⟨m1, rfl⟩⟩ := hrel
   cases gk with
   | zero => exact absurd HA.out (by simp [laws_sameTexts.l0])
   | succ k1 =>
    have H := HA.out
    clear HA
    simp only [laws_sameTexts.l0] at H
    by_cases c4 : x5_1 < (l0.length : Int)
    ·rw [if_pos c4] at H
     have c4b0 : decide (x5_1 < (l0.length : Int)) = true := decide_eq_true c4
     clear c4
     by_cases c5 : 0 ≤ x5_1
     ·rw [if_pos c5] at H
      have c5b0 : decide (0 ≤ x5_1) = true := decide_eq_true c5
      clear c5
      by_cases c6 : x5_1 < (l1.length : Int)
      ·rw [if_pos c6] at H
       have c6b0 : decide (x5_1 < (l1.length : Int)) = true := decide_eq_true c6
       clear c6
       by_cases c7 : (rdOf ByteArray.empty l0 x5_1).toList = (rdOf ByteArray.empty l1 x5_1).toList
       ·rw [if_pos c7] at H
        have c7b0 : ((rdOf ByteArray.empty l0 x5_1).toList == (rdOf ByteArray.empty l1 x5_1).toList) = true := beq_iff_eq.mpr c7
        have c7b1 : ((rdOf ByteArray.empty l0 x5_1).toList != (rdOf ByteArray.empty l1 x5_1).toList) = false := bne_eq_false_iff_eq.mpr c7
        clear c7
        have H' := Aside0.mk H
        clear H
        have p482 : 0 ≤ (x5_1 : Int) := sqD
        have q482 : x5_1 < (l0.length : Int) := sqD
        obtain ⟨ad482, e482, hx482_0⟩ := Kd.at_string HR0.out x5_1 p482 q482
        cases e482
        replace p482 := eq_true p482
        replace q482 := eq_true q482
        have p483 : 0 ≤ (x5_1 : Int) := sqD
        have q483 : x5_1 < (l1.length : Int) := sqD
        obtain ⟨ad483, e483, hx483_0⟩ := Kd.at_string HR1.out x5_1 p483 q483
        cases e483
        replace p483 := eq_true p483
        replace q483 := eq_true q483
        go_wp2
        repeat (go_quiet (fail); try go_wp2)
        go_roundg k1
        case measure => have := HK1.out; omega
        case rel => exact ⟨(wrap64 (x5_1 + 1)), (by first | rfl | (simp; done) | (simp [*]; done)), H', ⟨by have := HK1.out; omega⟩, by repeat (first | exact Drawn0.refl _ | apply Drawn0.step)⟩
       ·rw [if_neg c7] at H
        have c7b0 : ((rdOf ByteArray.empty l0 x5_1).toList == (rdOf ByteArray.empty l1 x5_1).toList) = false := beq_eq_false_iff_ne.mpr c7
        have c7b1 : ((rdOf ByteArray.empty l0 x5_1).toList != (rdOf ByteArray.empty l1 x5_1).toList) = true := bne_iff_ne.mpr c7
        obtain rfl := Option.some.inj H
        have p482 : 0 ≤ (x5_1 : Int) := sqD
        have q482 : x5_1 < (l0.length : Int) := sqD
        obtain ⟨ad482, e482, hx482_0⟩ := Kd.at_string HR0.out x5_1 p482 q482
        cases e482
        replace p482 := eq_true p482
        replace q482 := eq_true q482
        have p483 : 0 ≤ (x5_1 : Int) := sqD
        have q483 : x5_1 < (l1.length : Int) := sqD
        obtain ⟨ad483, e483, hx483_0⟩ := Kd.at_string HR1.out x5_1 p483 q483
        cases e483
        replace p483 := eq_true p483
        replace q483 := eq_true q483
        go_wp2
        repeat (go_quiet (fail); try go_wp2)
        go_ret
        exact ⟨by first | rfl | (simp; done) | (simp [*]; done), by repeat (first | exact Drawn0.refl _ | apply Drawn0.step)⟩
      ·rw [if_neg c6] at H
       exact absurd H (by simp)
     ·rw [if_neg c5] at H
      exact absurd H (by simp)
    ·rw [if_neg c4] at H
     have c4b0 : decide (x5_1 < (l0.length : Int)) = false := decide_eq_false c4
     clear c4
     obtain rfl := Option.some.inj H
     go_wp2
     repeat (go_quiet (fail); try go_wp2)
     go_ret
     exact ⟨by first | rfl | (simp; done) | (simp [*]; done), by repeat (first | exact Drawn0.refl _ | apply Drawn0.step)⟩
 ·rw [if_neg c3] at H
  have c3b0 : ((l0.length : Int) == (l1.length : Int)) = false := beq_eq_false_iff_ne.mpr c3
  have c3b1 : ((l0.length : Int) != (l1.length : Int)) = true := bne_iff_ne.mpr c3
  have c3b2 : (l0.length == l1.length) = false := by first | simpa using c3 | (simp at c3 ⊢; omega)
  obtain rfl := Option.some.inj H
  go_enter Try.func59, Try.ntmps59
  go_wp2
  repeat (go_quiet (fail); try go_wp2)
  go_ret
  exact ⟨by first | rfl | (simp; done) | (simp [*]; done), by repeat (first | exact Drawn0.refl _ | apply Drawn0.step)⟩

/-! ### laws_sameSign: function 31 -/
def laws_sameSign.f (k : Nat) (a0_0 : Int) (l0_1 : List ByteArray) (l0_2 : List ByteArray) (a1_0 : Int) (l1_1 : List ByteArray) (l1_2 : List ByteArray) : Option (Bool) := if a0_0 = a1_0 then ((laws_sameTexts.f k l0_1 l1_1).bind fun t486 => (if t486 = true then ((laws_sameTexts.f k l0_2 l1_2).bind fun t487 => (some t487)) else (some false))) else (some false)
theorem laws_sameSign.mono : ∀ a0 a1 a2 a3 a4 a5 k, LeO (laws_sameSign.f k a0 a1 a2 a3 a4 a5) (laws_sameSign.f (k + 1) a0 a1 a2 a3 a4 a5) := by
 intro a0 a1 a2 a3 a4 a5 k
 unfold laws_sameSign.f
 repeat' first
   | (with_reducible exact laws_sameTexts.mono _ _ _)
   | (with_reducible exact LeO.refl _)
   | (with_reducible exact LeO.none _)
   | (with_reducible refine LeO.ite ?_ ?_)
   | (with_reducible refine LeO.bind ?_ (fun _ => ?_))
   | exact laws_sameTexts.mono _ _ _
   | exact LeO.none _
   | refine LeO.ite ?_ ?_
   | refine LeO.bind ?_ (fun _ => ?_)
set_option maxHeartbeats 8000000 in
set_option maxRecDepth 100000 in
theorem laws_sameSign.calls (k : Nat) (a0_0 : Int) (A0_1 : Option Addr) (c0_1 : Nat) (l0_1 : List ByteArray) (A0_2 : Option Addr) (c0_2 : Nat) (l0_2 : List ByteArray) (a1_0 : Int) (A1_1 : Option Addr) (c1_1 : Nat) (l1_1 : List ByteArray) (A1_2 : Option Addr) (c1_2 : Nat) (l1_2 : List ByteArray) (r : Bool) (w : World) (hr0_1 : Kd.C Kd.string w A0_1 l0_1.length l0_1) (hc0_1 : l0_1.length ≤ c0_1) (hr0_2 : Kd.C Kd.string w A0_2 l0_2.length l0_2) (hc0_2 : l0_2.length ≤ c0_2) (hr1_1 : Kd.C Kd.string w A1_1 l1_1.length l1_1) (hc1_1 : l1_1.length ≤ c1_1) (hr1_2 : Kd.C Kd.string w A1_2 l1_2.length l1_2) (hc1_2 : l1_2.length ≤ c1_2) (h : laws_sameSign.f k a0_0 l0_1 l0_2 a1_0 l1_1 l1_2 = some r) :
  Calls Try.prog 31 #[.agg #[.int .i64 a0_0, .slice A0_1 l0_1.length c0_1, .slice A0_2 l0_2.length c0_2], .agg #[.int .i64 a1_0, .slice A1_1 l1_1.length c1_1, .slice A1_2 l1_2.length c1_2]] w fun e w' => e = .returned (.bool r) ∧ Below w.heap.size w w' := by
 have hu29 := Try.underlying29
 have HR0_1 := Aside0.mk hr0_1
 have HC0_1 := Aside0.mk hc0_1
 clear hr0_1 hc0_1
 have HR0_2 := Aside0.mk hr0_2
 have HC0_2 := Aside0.mk hc0_2
 clear hr0_2 hc0_2
 have HR1_1 := Aside0.mk hr1_1
 have HC1_1 := Aside0.mk hc1_1
 clear hr1_1 hc1_1
 have HR1_2 := Aside0.mk hr1_2
 have HC1_2 := Aside0.mk hc1_2
 clear hr1_2 hc1_2
 have HB := Aside0.mk (Below.refl w.heap.size w)
 have H : (if a0_0 = a1_0 then ((laws_sameTexts.f k l0_1 l1_1).bind fun t486 => (if t486 = true then ((laws_sameTexts.f k l0_2 l1_2).bind fun t487 => (some t487)) else (some false))) else (some false)) = some r := h
 clear h
 by_cases c3 : a0_0 = a1_0
 ·rw [if_pos c3] at H
  have c3b0 : (a0_0 == a1_0) = true := beq_iff_eq.mpr c3
  have c3b1 : (a0_0 != a1_0) = false := bne_eq_false_iff_eq.mpr c3
  clear c3
  replace H := Option.bind_eq_some_iff.mp H
  obtain ⟨t486, A40, H⟩ := H
  try dsimp only at H
  have A4 := Aside0.mk A40
  clear A40
  by_cases c5 : t486 = true
  ·subst c5
   rw [if_pos rfl] at H
   replace H := Option.bind_eq_some_iff.mp H
   obtain ⟨t487, A60, H⟩ := H
   try dsimp only at H
   have A6 := Aside0.mk A60
   clear A60
   obtain rfl := Option.some.inj H
   go_enter Try.func31, Try.ntmps31
   go_wp2_with (first | ((with_reducible refine gate_dst (N := 2) rfl ?_); refine sqX (N := 2) (cs := #[.int .i64 a0_0, .slice A0_1 l0_1.length c0_1, .slice A0_2 l0_2.length c0_2]) (t := 29) ?_; intro gb484 hg w7 hbox hb; have BK484 := Aside0.mk (hbox); have GW484 := sqG hg; have GE484 := sqG hg; replace HB := sqS hb; clear hb hbox hg) | ((with_reducible refine gate_dst (N := 3) rfl ?_); refine sqX (N := 3) (cs := #[.int .i64 a1_0, .slice A1_1 l1_1.length c1_1, .slice A1_2 l1_2.length c1_2]) (t := 29) ?_; intro gb485 hg w8 hbox hb; have BK485 := Aside0.mk (hbox); have GW485 := sqG hg; have GE485 := sqG hg; have NB484_485 := sqN BK484 hg; have NB485_484 := sqM BK484 hg; replace BK484 := sqL BK484 hb; replace HB := sqS hb; clear hb hbox hg; have hnb9 := NB484_485.out; have hnc9 := NB485_484.out; obtain ⟨hcz10_0, hcz10_1, hcz10_2, hfz10_0, hfz10_1, hfz10_2⟩ := sqC3 BK484; obtain ⟨hcz11_0, hcz11_1, hcz11_2, hfz11_0, hfz11_1, hfz11_2⟩ := sqC3 BK485) | (go_at_call 59; (with_reducible refine (laws_sameTexts.calls k _ _ l0_1 _ _ l1_1 true _ ?side1 ?side2 ?side3 ?side4 A4.out).mono ?_); (case side1 => repeat (first | exact (Kd.C_below HR0_1.out HB.out) | (with_reducible refine Kd.C_alloc ?_ _) | (with_reducible refine Kd.C_drewN ?_ _) | (with_reducible refine Kd.C_drew ?_))); (case side2 => exact HC0_1.out); (case side3 => repeat (first | exact (Kd.C_below HR1_1.out HB.out) | (with_reducible refine Kd.C_alloc ?_ _) | (with_reducible refine Kd.C_drewN ?_ _) | (with_reducible refine Kd.C_drew ?_))); (case side4 => exact HC1_1.out); rintro e w' ⟨rfl, ⟨nd, rfl⟩⟩) | (go_at_call 59; (with_reducible refine (laws_sameTexts.calls k _ _ l0_2 _ _ l1_2 t487 _ ?side1 ?side2 ?side3 ?side4 A6.out).mono ?_); (case side1 => repeat (first | exact (Kd.C_below HR0_2.out (sqB)) | (with_reducible refine Kd.C_alloc ?_ _) | (with_reducible refine Kd.C_drewN ?_ _) | (with_reducible refine Kd.C_drew ?_))); (case side2 => exact HC0_2.out); (case side3 => repeat (first | exact (Kd.C_below HR1_2.out (sqB)) | (with_reducible refine Kd.C_alloc ?_ _) | (with_reducible refine Kd.C_drewN ?_ _) | (with_reducible refine Kd.C_drew ?_))); (case side4 => exact HC1_2.out); rintro e w' ⟨rfl, ⟨nd, rfl⟩⟩))
   go_ret
   exact ⟨sqE, sqB⟩
  ·replace c5 := Bool.eq_false_iff.mpr c5
   subst c5
   rw [if_neg (show ¬ (false = true) by decide)] at H
   obtain rfl := Option.some.inj H
   go_enter Try.func31, Try.ntmps31
   go_wp2_with (first | ((with_reducible refine gate_dst (N := 2) rfl ?_); refine sqX (N := 2) (cs := #[.int .i64 a0_0, .slice A0_1 l0_1.length c0_1, .slice A0_2 l0_2.length c0_2]) (t := 29) ?_; intro gb484 hg w12 hbox hb; have BK484 := Aside0.mk (hbox); have GW484 := sqG hg; have GE484 := sqG hg; replace HB := sqS hb; clear hb hbox hg) | ((with_reducible refine gate_dst (N := 3) rfl ?_); refine sqX (N := 3) (cs := #[.int .i64 a1_0, .slice A1_1 l1_1.length c1_1, .slice A1_2 l1_2.length c1_2]) (t := 29) ?_; intro gb485 hg w13 hbox hb; have BK485 := Aside0.mk (hbox); have GW485 := sqG hg; have GE485 := sqG hg; have NB484_485 := sqN BK484 hg; have NB485_484 := sqM BK484 hg; replace BK484 := sqL BK484 hb; replace HB := sqS hb; clear hb hbox hg; have hnb14 := NB484_485.out; have hnc14 := NB485_484.out; obtain ⟨hcz15_0, hcz15_1, hcz15_2, hfz15_0, hfz15_1, hfz15_2⟩ := sqC3 BK484; obtain ⟨hcz16_0, hcz16_1, hcz16_2, hfz16_0, hfz16_1, hfz16_2⟩ := sqC3 BK485) | (go_at_call 59; (with_reducible refine (laws_sameTexts.calls k _ _ l0_1 _ _ l1_1 false _ ?side1 ?side2 ?side3 ?side4 A4.out).mono ?_); (case side1 => repeat (first | exact (Kd.C_below HR0_1.out HB.out) | (with_reducible refine Kd.C_alloc ?_ _) | (with_reducible refine Kd.C_drewN ?_ _) | (with_reducible refine Kd.C_drew ?_))); (case side2 => exact HC0_1.out); (case side3 => repeat (first | exact (Kd.C_below HR1_1.out HB.out) | (with_reducible refine Kd.C_alloc ?_ _) | (with_reducible refine Kd.C_drewN ?_ _) | (with_reducible refine Kd.C_drew ?_))); (case side4 => exact HC1_1.out); rintro e w' ⟨rfl, ⟨nd, rfl⟩⟩))
   go_ret
   exact ⟨sqE, sqB⟩
 ·rw [if_neg c3] at H
  have c3b0 : (a0_0 == a1_0) = false := beq_eq_false_iff_ne.mpr c3
  have c3b1 : (a0_0 != a1_0) = true := bne_iff_ne.mpr c3
  obtain rfl := Option.some.inj H
  go_enter Try.func31, Try.ntmps31
  go_wp2_with (first | ((with_reducible refine gate_dst (N := 2) rfl ?_); refine sqX (N := 2) (cs := #[.int .i64 a0_0, .slice A0_1 l0_1.length c0_1, .slice A0_2 l0_2.length c0_2]) (t := 29) ?_; intro gb484 hg w17 hbox hb; have BK484 := Aside0.mk (hbox); have GW484 := sqG hg; have GE484 := sqG hg; replace HB := sqS hb; clear hb hbox hg) | ((with_reducible refine gate_dst (N := 3) rfl ?_); refine sqX (N := 3) (cs := #[.int .i64 a1_0, .slice A1_1 l1_1.length c1_1, .slice A1_2 l1_2.length c1_2]) (t := 29) ?_; intro gb485 hg w18 hbox hb; have BK485 := Aside0.mk (hbox); have GW485 := sqG hg; have GE485 := sqG hg; have NB484_485 := sqN BK484 hg; have NB485_484 := sqM BK484 hg; replace BK484 := sqL BK484 hb; replace HB := sqS hb; clear hb hbox hg; have hnb19 := NB484_485.out; have hnc19 := NB485_484.out; obtain ⟨hcz20_0, hcz20_1, hcz20_2, hfz20_0, hfz20_1, hfz20_2⟩ := sqC3 BK484; obtain ⟨hcz21_0, hcz21_1, hcz21_2, hfz21_0, hfz21_1, hfz21_2⟩ := sqC3 BK485))
  go_ret
  exact ⟨sqE, sqB⟩

/-! ### laws_sameInts: function 34 -/
def laws_sameInts.l0 : Nat → List Int → List Int → Int → Option (Bool)
 | 0, _, _, _ => none
 | k + 1, x0, x1, x5 => if x5 < (x0.length : Int) then (if 0 ≤ x5 then (if x5 < (x1.length : Int) then (if (rd x0 x5) = (rd x1 x5) then (laws_sameInts.l0 k x0 x1 (wrap64 (x5 + 1))) else (some false)) else (none)) else (none)) else (some true)
def laws_sameInts.f (k : Nat) (l0 : List Int) (l1 : List Int) : Option (Bool) := if (l0.length : Int) = (l1.length : Int) then (laws_sameInts.l0 k l0 l1 0) else (some false)
theorem laws_sameInts.mono_l : ∀ k, (∀ y0 y1 y2, LeO (laws_sameInts.l0 k y0 y1 y2) (laws_sameInts.l0 (k + 1) y0 y1 y2))
 | 0 => fun _ _ _ r h => by simp [laws_sameInts.l0] at h
 | k + 1 => by
  have ih0 := laws_sameInts.mono_l k
  ·intro y0 y1 y2
   unfold laws_sameInts.l0
   repeat' first
   | (with_reducible exact ih0 _ _ _)
   | (with_reducible exact LeO.refl _)
   | (with_reducible exact LeO.none _)
   | (with_reducible refine LeO.ite ?_ ?_)
   | (with_reducible refine LeO.bind ?_ (fun _ => ?_))
   | exact ih0 _ _ _
   | exact LeO.none _
   | refine LeO.ite ?_ ?_
   | refine LeO.bind ?_ (fun _ => ?_)
theorem laws_sameInts.mono : ∀ a0 a1 k, LeO (laws_sameInts.f k a0 a1) (laws_sameInts.f (k + 1) a0 a1) := by
 intro a0 a1 k
 have ih0 := laws_sameInts.mono_l k
 unfold laws_sameInts.f
 repeat' first
   | (with_reducible exact ih0 _ _ _)
   | (with_reducible exact LeO.refl _)
   | (with_reducible exact LeO.none _)
   | (with_reducible refine LeO.ite ?_ ?_)
   | (with_reducible refine LeO.bind ?_ (fun _ => ?_))
   | exact ih0 _ _ _
   | exact LeO.none _
   | refine LeO.ite ?_ ?_
   | refine LeO.bind ?_ (fun _ => ?_)
set_option maxHeartbeats 8000000 in
set_option maxRecDepth 100000 in
theorem laws_sameInts.calls (k : Nat) (A0 : Option Addr) (c0 : Nat) (l0 : List Int) (A1 : Option Addr) (c1 : Nat) (l1 : List Int) (r : Bool) (w : World) (hr0 : Kd.C (Kd.int .i64) w A0 l0.length l0) (hc0 : l0.length ≤ c0) (hr1 : Kd.C (Kd.int .i64) w A1 l1.length l1) (hc1 : l1.length ≤ c1) (h : laws_sameInts.f k l0 l1 = some r) :
  Calls Try.prog 34 #[.slice A0 l0.length c0, .slice A1 l1.length c1] w fun e w' => e = .returned (.bool r) ∧ Drawn0 w w' := by
 have HR0 := Aside0.mk hr0
 have HC0 := Aside0.mk hc0
 clear hr0 hc0
 have HR1 := Aside0.mk hr1
 have HC1 := Aside0.mk hc1
 clear hr1 hc1
 have H : (if (l0.length : Int) = (l1.length : Int) then (laws_sameInts.l0 k l0 l1 0) else (some false)) = some r := h
 clear h
 by_cases c3 : (l0.length : Int) = (l1.length : Int)
 ·rw [if_pos c3] at H
  have c3b0 : ((l0.length : Int) == (l1.length : Int)) = true := beq_iff_eq.mpr c3
  have c3b1 : ((l0.length : Int) != (l1.length : Int)) = false := bne_eq_false_iff_eq.mpr c3
  have c3b2 : (l0.length == l1.length) = true := by first | simpa using c3 | (simp at c3 ⊢; omega)
  clear c3
  have H' := Aside0.mk H
  clear H
  go_enter Try.func34, Try.ntmps34
  go_wp2
  repeat (go_quiet (fail); try go_wp2)
  go_loopg [5] k (fun kq v5 w' => ∃ (x5_1 : Int), v5 = .int .i64 x5_1 ∧ Aside0 (laws_sameInts.l0 kq l0 l1 x5_1 = some r) ∧ Aside0 (kq ≤ k) ∧ Drawn0 w w')
  case atStart => exact ⟨(0), (by first | rfl | (simp; done) | (simp [*]; done)), H', ⟨Nat.le_refl _⟩, by repeat (first | exact Drawn0.refl _ | apply Drawn0.step)⟩
  case round =>
   clear H'
   try clear c1
   try clear p2
   try clear c3
   try clear c3b0
   try clear c3b1
   try clear c3b2
   obtain ⟨x5_1, rfl, HA, HK1, ⟨m1, rfl⟩⟩ := hrel
   cases gk with
   | zero => exact absurd HA.out (by simp [laws_sameInts.l0])
   | succ k1 =>
    have H := HA.out
    clear HA
    simp only [laws_sameInts.l0] at H
    by_cases c4 : x5_1 < (l0.length : Int)
    ·rw [if_pos c4] at H
     have c4b0 : decide (x5_1 < (l0.length : Int)) = true := decide_eq_true c4
     clear c4
     by_cases c5 : 0 ≤ x5_1
     ·rw [if_pos c5] at H
      have c5b0 : decide (0 ≤ x5_1) = true := decide_eq_true c5
      clear c5
      by_cases c6 : x5_1 < (l1.length : Int)
      ·rw [if_pos c6] at H
       have c6b0 : decide (x5_1 < (l1.length : Int)) = true := decide_eq_true c6
       clear c6
       by_cases c7 : (rd l0 x5_1) = (rd l1 x5_1)
       ·rw [if_pos c7] at H
        have c7b0 : ((rd l0 x5_1) == (rd l1 x5_1)) = true := beq_iff_eq.mpr c7
        have c7b1 : ((rd l0 x5_1) != (rd l1 x5_1)) = false := bne_eq_false_iff_eq.mpr c7
        clear c7
        have H' := Aside0.mk H
        clear H
        have p488 : 0 ≤ (x5_1 : Int) := sqD
        have q488 : x5_1 < (l0.length : Int) := sqD
        obtain ⟨ad488, e488, hx488_0⟩ := Kd.at_int HR0.out x5_1 p488 q488
        cases e488
        replace p488 := eq_true p488
        replace q488 := eq_true q488
        have p489 : 0 ≤ (x5_1 : Int) := sqD
        have q489 : x5_1 < (l1.length : Int) := sqD
        obtain ⟨ad489, e489, hx489_0⟩ := Kd.at_int HR1.out x5_1 p489 q489
        cases e489
        replace p489 := eq_true p489
        replace q489 := eq_true q489
        go_wp2
        repeat (go_quiet (fail); try go_wp2)
        go_roundg k1
        case measure => have := HK1.out; omega
        case rel => exact ⟨(wrap64 (x5_1 + 1)), (by first | rfl | (simp; done) | (simp [*]; done)), H', ⟨by have := HK1.out; omega⟩, by repeat (first | exact Drawn0.refl _ | apply Drawn0.step)⟩
       ·rw [if_neg c7] at H
        have c7b0 : ((rd l0 x5_1) == (rd l1 x5_1)) = false := beq_eq_false_iff_ne.mpr c7
        have c7b1 : ((rd l0 x5_1) != (rd l1 x5_1)) = true := bne_iff_ne.mpr c7
        obtain rfl := Option.some.inj H
        have p488 : 0 ≤ (x5_1 : Int) := sqD
        have q488 : x5_1 < (l0.length : Int) := sqD
        obtain ⟨ad488, e488, hx488_0⟩ := Kd.at_int HR0.out x5_1 p488 q488
        cases e488
        replace p488 := eq_true p488
        replace q488 := eq_true q488
        have p489 : 0 ≤ (x5_1 : Int) := sqD
        have q489 : x5_1 < (l1.length : Int) := sqD
        obtain ⟨ad489, e489, hx489_0⟩ := Kd.at_int HR1.out x5_1 p489 q489
        cases e489
        replace p489 := eq_true p489
        replace q489 := eq_true q489
        go_wp2
        repeat (go_quiet (fail); try go_wp2)
        go_ret
        exact ⟨by first | rfl | (simp; done) | (simp [*]; done), by repeat (first | exact Drawn0.refl _ | apply Drawn0.step)⟩
      ·rw [if_neg c6] at H
       exact absurd H (by simp)
     ·rw [if_neg c5] at H
      exact absurd H (by simp)
    ·rw [if_neg c4] at H
     have c4b0 : decide (x5_1 < (l0.length : Int)) = false := decide_eq_false c4
     clear c4
     obtain rfl := Option.some.inj H
     go_wp2
     repeat (go_quiet (fail); try go_wp2)
     go_ret
     exact ⟨by first | rfl | (simp; done) | (simp [*]; done), by repeat (first | exact Drawn0.refl _ | apply Drawn0.step)⟩
 ·rw [if_neg c3] at H
  have c3b0 : ((l0.length : Int) == (l1.length : Int)) = false := beq_eq_false_iff_ne.mpr c3
  have c3b1 : ((l0.length : Int) != (l1.length : Int)) = true := bne_iff_ne.mpr c3
  have c3b2 : (l0.length == l1.length) = false := by first | simpa using c3 | (simp at c3 ⊢; omega)
  obtain rfl := Option.some.inj H
  go_enter Try.func34, Try.ntmps34
  go_wp2
  repeat (go_quiet (fail); try go_wp2)
  go_ret
  exact ⟨by first | rfl | (simp; done) | (simp [*]; done), by repeat (first | exact Drawn0.refl _ | apply Drawn0.step)⟩

end Go.Proofs.Ytckjobcagniieaa.PFnSignsTold
