/- What the code that one law of the given program reaches computes, function by function, each with its proof over the given translation.
Conditions: none of our own. (Laid by a program of this session, wip/xp/xp.py; some contracts are typed by hand.) -/
import Derived.Test.YtckjobcagniieaaPFnExactSignTextx0
import Derived.Test.YtckjobcagniieaaPFnExactSignTextx5
import Derived.Test.YtckjobcagniieaaPFnExactSignTextx6
import Derived.Test.YtckjobcagniieaaPFnExactSignTextx8
import Derived.Test.YtckjobcagniieaaPFnExactSignTextx9
namespace Go.Proofs.Ytckjobcagniieaa.PFnExactSignText
open Go.RowKit Go.Proofs.YtckjobcagniieaaW.PrintWords Go.Proofs.YtckjobcagniieaaW.PrintLast Go.Proofs.YtckjobcagniieaaW.PrintMore
attribute [local go_sem] max2_int min2_int max_two min_two max_three min_three max_four min_four   -- for this text's walks alone
set_option linter.unusedVariables false
set_option linter.unusedSimpArgs false

/-! ### laws_FnExactSignText: function 6 -/
mutual
def laws_FnExactSignText.j0 : Nat → Int → Int → ByteArray → Bool → Bool → Int → List ByteArray → List ByteArray → Int → List ByteArray → List ByteArray → Option (Bool)
  | 0, _, _, _, _, _, _, _, _, _, _, _ => none
  | k + 1, x0, x1, x2, x8, x40, x332000, x332001, x332002, x341000, x341001, x341002 => if x40 = true then (some false) else ((laws_markSignature.f k x341000 x341001 x341002 1).bind fun bt342 => ((laws_heldSignature.f k x341000 bt342.2.1 bt342.2.2 1).bind fun t345 => (if t345 < 0 then (some false) else (if t345 = bt342.1 then ((impl_SignText.f k x0 x1 x2).bind fun bt346 => ((laws_eqSignature.f k bt346.1 bt346.2.1 bt346.2.2.1 x332000 x332001 x332002).bind fun t355 => (if t355 = true then (laws_FnExactSignText.j1 k bt342.1 (bt346.2.2.2 != x8) x341000 bt342.2.1 bt342.2.2) else (laws_FnExactSignText.j1 k bt342.1 true x341000 bt342.2.1 bt342.2.2)))) else (some false)))))
def laws_FnExactSignText.j1 : Nat → Int → Bool → Int → List ByteArray → List ByteArray → Option (Bool)
  | 0, _, _, _, _, _ => none
  | k + 1, x11, x67, x341000, x341001, x341002 => if x67 = true then (some false) else ((laws_heldSignature.f k x341000 x341001 x341002 1).bind fun t356 => (if t356 < 0 then (some false) else (if t356 = x11 then (some true) else (some false))))
end
def laws_FnExactSignText.f (k : Nat) (a0 : Int) (a1 : Int) (a2 : ByteArray) : Option (Bool) := if (a2.size : Int) > 1048576 then (some true) else ((spec_SignText.f k a0 a1 a2).bind fun bt323 => ((impl_SignText.f k a0 a1 a2).bind fun bt332 => ((laws_eqSignature.f k bt332.1 bt332.2.1 bt332.2.2.1 bt323.1 bt323.2.1 bt323.2.2.1).bind fun t341 => (if t341 = true then (laws_FnExactSignText.j0 k a0 a1 a2 bt323.2.2.2 (bt332.2.2.2 != bt323.2.2.2) bt323.1 bt323.2.1 bt323.2.2.1 bt332.1 bt332.2.1 bt332.2.2.1) else (laws_FnExactSignText.j0 k a0 a1 a2 bt323.2.2.2 true bt323.1 bt323.2.1 bt323.2.2.1 bt332.1 bt332.2.1 bt332.2.2.1)))))
theorem laws_FnExactSignText.mono_l : ∀ k, (∀ y0 y1 y2 y3 y4 y5 y6 y7 y8 y9 y10, LeO (laws_FnExactSignText.j0 k y0 y1 y2 y3 y4 y5 y6 y7 y8 y9 y10) (laws_FnExactSignText.j0 (k + 1) y0 y1 y2 y3 y4 y5 y6 y7 y8 y9 y10)) ∧ (∀ y0 y1 y2 y3 y4, LeO (laws_FnExactSignText.j1 k y0 y1 y2 y3 y4) (laws_FnExactSignText.j1 (k + 1) y0 y1 y2 y3 y4))
  | 0 => ⟨fun _ _ _ _ _ _ _ _ _ _ _ r h => by simp [laws_FnExactSignText.j0] at h, fun _ _ _ _ _ r h => by simp [laws_FnExactSignText.j1] at h⟩
  | k + 1 => by
    obtain ⟨ih0, ih1⟩ := laws_FnExactSignText.mono_l k
    refine ⟨?_, ?_⟩
    · intro y0 y1 y2 y3 y4 y5 y6 y7 y8 y9 y10
      unfold laws_FnExactSignText.j0
      repeat' first
      | (with_reducible exact ih0 _ _ _ _ _ _ _ _ _ _ _)
      | (with_reducible exact ih1 _ _ _ _ _)
      | (with_reducible exact impl_SignText.mono _ _ _ _)
      | (with_reducible exact laws_eqSignature.mono _ _ _ _ _ _ _)
      | (with_reducible exact laws_heldSignature.mono _ _ _ _ _)
      | (with_reducible exact laws_markSignature.mono _ _ _ _ _)
      | (with_reducible exact spec_SignText.mono _ _ _ _)
      | (with_reducible exact LeO.refl _)
      | (with_reducible exact LeO.none _)
      | (with_reducible refine LeO.ite ?_ ?_)
      | (with_reducible refine LeO.bind ?_ (fun _ => ?_))
      | exact ih0 _ _ _ _ _ _ _ _ _ _ _
      | exact ih1 _ _ _ _ _
      | exact impl_SignText.mono _ _ _ _
      | exact laws_eqSignature.mono _ _ _ _ _ _ _
      | exact laws_heldSignature.mono _ _ _ _ _
      | exact laws_markSignature.mono _ _ _ _ _
      | exact spec_SignText.mono _ _ _ _
      | exact LeO.none _
      | refine LeO.ite ?_ ?_
      | refine LeO.bind ?_ (fun _ => ?_)
    · intro y0 y1 y2 y3 y4
      unfold laws_FnExactSignText.j1
      repeat' first
      | (with_reducible exact ih0 _ _ _ _ _ _ _ _ _ _ _)
      | (with_reducible exact ih1 _ _ _ _ _)
      | (with_reducible exact impl_SignText.mono _ _ _ _)
      | (with_reducible exact laws_eqSignature.mono _ _ _ _ _ _ _)
      | (with_reducible exact laws_heldSignature.mono _ _ _ _ _)
      | (with_reducible exact laws_markSignature.mono _ _ _ _ _)
      | (with_reducible exact spec_SignText.mono _ _ _ _)
      | (with_reducible exact LeO.refl _)
      | (with_reducible exact LeO.none _)
      | (with_reducible refine LeO.ite ?_ ?_)
      | (with_reducible refine LeO.bind ?_ (fun _ => ?_))
      | exact ih0 _ _ _ _ _ _ _ _ _ _ _
      | exact ih1 _ _ _ _ _
      | exact impl_SignText.mono _ _ _ _
      | exact laws_eqSignature.mono _ _ _ _ _ _ _
      | exact laws_heldSignature.mono _ _ _ _ _
      | exact laws_markSignature.mono _ _ _ _ _
      | exact spec_SignText.mono _ _ _ _
      | exact LeO.none _
      | refine LeO.ite ?_ ?_
      | refine LeO.bind ?_ (fun _ => ?_)
theorem laws_FnExactSignText.mono : ∀ a0 a1 a2 k, LeO (laws_FnExactSignText.f k a0 a1 a2) (laws_FnExactSignText.f (k + 1) a0 a1 a2) := by
  intro a0 a1 a2 k
  obtain ⟨ih0, ih1⟩ := laws_FnExactSignText.mono_l k
  unfold laws_FnExactSignText.f
  repeat' first
      | (with_reducible exact ih0 _ _ _ _ _ _ _ _ _ _ _)
      | (with_reducible exact ih1 _ _ _ _ _)
      | (with_reducible exact impl_SignText.mono _ _ _ _)
      | (with_reducible exact laws_eqSignature.mono _ _ _ _ _ _ _)
      | (with_reducible exact laws_heldSignature.mono _ _ _ _ _)
      | (with_reducible exact laws_markSignature.mono _ _ _ _ _)
      | (with_reducible exact spec_SignText.mono _ _ _ _)
      | (with_reducible exact LeO.refl _)
      | (with_reducible exact LeO.none _)
      | (with_reducible refine LeO.ite ?_ ?_)
      | (with_reducible refine LeO.bind ?_ (fun _ => ?_))
      | exact ih0 _ _ _ _ _ _ _ _ _ _ _
      | exact ih1 _ _ _ _ _
      | exact impl_SignText.mono _ _ _ _
      | exact laws_eqSignature.mono _ _ _ _ _ _ _
      | exact laws_heldSignature.mono _ _ _ _ _
      | exact laws_markSignature.mono _ _ _ _ _
      | exact spec_SignText.mono _ _ _ _
      | exact LeO.none _
      | refine LeO.ite ?_ ?_
      | refine LeO.bind ?_ (fun _ => ?_)
set_option maxHeartbeats 8000000 in
set_option maxRecDepth 100000 in
theorem laws_FnExactSignText.calls (k : Nat) (a0 : Int) (a1 : Int) (a2 : ByteArray) (r : Bool) (w : World) (h : laws_FnExactSignText.f k a0 a1 a2 = some r) (hrt : r = true) :
    Calls Try.prog 6 #[.int .i64 a0, .int .i64 a1, .string a2] w fun e w' => e = .returned (.bool r) ∧ Below w.heap.size w w' := by
  have HRT := Aside0.mk hrt
  clear hrt
  have hu29 := Try.underlying29
  have HB := Aside0.mk (Below.refl w.heap.size w)
  have H : (if (a2.size : Int) > 1048576 then (some true) else ((spec_SignText.f k a0 a1 a2).bind fun bt323 => ((impl_SignText.f k a0 a1 a2).bind fun bt332 => ((laws_eqSignature.f k bt332.1 bt332.2.1 bt332.2.2.1 bt323.1 bt323.2.1 bt323.2.2.1).bind fun t341 => (if t341 = true then (laws_FnExactSignText.j0 k a0 a1 a2 bt323.2.2.2 (bt332.2.2.2 != bt323.2.2.2) bt323.1 bt323.2.1 bt323.2.2.1 bt332.1 bt332.2.1 bt332.2.2.1) else (laws_FnExactSignText.j0 k a0 a1 a2 bt323.2.2.2 true bt323.1 bt323.2.1 bt323.2.2.1 bt332.1 bt332.2.1 bt332.2.2.1)))))) = some r := h
  clear h
  by_cases c4 : (a2.size : Int) > 1048576
  · rw [if_pos c4] at H
    have c4b0 : decide (1048576 < (a2.size : Int)) = true := decide_eq_true c4
    have c4b1 : decide (1048576 < a2.size) = true := decide_eq_true (by omega)
    clear c4
    obtain rfl := Option.some.inj H
    go_enter Try.func6, Try.ntmps6
    go_wp2
    go_ret
    exact ⟨by first | rfl | (simp [errW_none, errW_some] <;> rfl) | (simp [*, errW_none, errW_some] <;> rfl), by repeat (first | (with_reducible first | exact HB.out | apply below_alloc | apply pw_below_drewN | apply below_drew1) | exact HB.out)⟩
  · rw [if_neg c4] at H
    have c4b0 : decide (1048576 < (a2.size : Int)) = false := decide_eq_false c4
    have c4b1 : decide (1048576 < a2.size) = false := decide_eq_false (by omega)
    clear c4
    replace H := Option.bind_eq_some_iff.mp H
    obtain ⟨⟨t323, t324, t327, t330⟩, A50, H⟩ := H
    replace H : ((impl_SignText.f k a0 a1 a2).bind fun bt332 => ((laws_eqSignature.f k bt332.1 bt332.2.1 bt332.2.2.1 t323 t324 t327).bind fun t341 => (if t341 = true then (laws_FnExactSignText.j0 k a0 a1 a2 t330 (bt332.2.2.2 != t330) t323 t324 t327 bt332.1 bt332.2.1 bt332.2.2.1) else (laws_FnExactSignText.j0 k a0 a1 a2 t330 true t323 t324 t327 bt332.1 bt332.2.1 bt332.2.2.1)))) = some r := H
    have A5 := Aside0.mk A50
    clear A50
    replace H := Option.bind_eq_some_iff.mp H
    obtain ⟨⟨t332, t333, t336, t339⟩, A60, H⟩ := H
    replace H : ((laws_eqSignature.f k t332 t333 t336 t323 t324 t327).bind fun t341 => (if t341 = true then (laws_FnExactSignText.j0 k a0 a1 a2 t330 (t339 != t330) t323 t324 t327 t332 t333 t336) else (laws_FnExactSignText.j0 k a0 a1 a2 t330 true t323 t324 t327 t332 t333 t336))) = some r := H
    have A6 := Aside0.mk A60
    clear A60
    have HC7 := Aside0.mk H
    clear H
    go_enter Try.func6, Try.ntmps6
    go_upto_region 5 with (first | ((with_reducible refine gate_callee (f := 24) rfl ?_); refine goesL_ (some 22) rfl rfl Try.func24 (by kernel_rfl) rfl #[.int .i64 a0, .int .i64 a1, .string a2] rfl (by (try simp only [List.map_toArray, List.map_cons, List.map_nil]); first | done | rfl | (simp only [List.length_drop, List.length_take]; rfl)) ?_; (with_reducible refine (spec_SignText.calls k a0 a1 a2 t323 t324 t327 t330 _ A5.out).mono ?_); rintro e w8 ⟨v325, v328, rfl, ho0, ho1, hb⟩; refine ⟨_, rfl, ?_⟩; have n0_ := Aside0.mk (Kd.R_lower ho0 (below_size (by repeat (first | (with_reducible first | exact HB.out | apply below_alloc | apply pw_below_drewN | apply below_drew1) | exact HB.out)))); have n1_ := Aside0.mk (Kd.R_lower ho1 (below_size (by repeat (first | (with_reducible first | exact HB.out | apply below_alloc | apply pw_below_drewN | apply below_drew1) | exact HB.out)))); have n2_ := Aside0.mk (below_step (by repeat (first | (with_reducible first | exact HB.out | apply below_alloc | apply pw_below_drewN | apply below_drew1) | exact HB.out)) hb); clear HB; have HO326 := n0_; have HO329 := n1_; have HB := n2_; clear n0_ n1_ n2_; (try clear hb); (try clear hb2); (try clear hk); (try clear hi); (try clear ho0); (try clear ho1)) | ((with_reducible refine gate_dst (N := 7) rfl ?_); refine box_event ?hg (N := 7) ?hd (cs := #[.int .i64 0, .slice none 0 0, .slice none 0 0]) (t := 29) ?hr ?_; (case hd => rfl); (case hg => rfl); (case hr => first | (go_simp; done) | (go_simp; rfl)); intro gb331 hg w9 hbox hb; have n0_ := Aside0.mk (Kd.R_below (by (with_reducible repeat (first | apply Kd.R_alloc | apply Kd.R_drewN | apply Kd.R_drew)); exact HO326.out) hb); have n1_ := Aside0.mk (Kd.R_below (by (with_reducible repeat (first | apply Kd.R_alloc | apply Kd.R_drewN | apply Kd.R_drew)); exact HO329.out) hb); have n2_ := Aside0.mk (below_step (by repeat (first | (with_reducible first | exact HB.out | apply below_alloc | apply pw_below_drewN | apply below_drew1) | exact HB.out)) hb); have n3_ := Aside0.mk (hbox); have n4_ := Aside0.mk ((by rw [hg]; exact (below_size (by repeat (first | (with_reducible first | exact HB.out | apply below_alloc | apply pw_below_drewN | apply below_drew1) | exact HB.out))) : w.heap.size ≤ gb331)); have n5_ := Aside0.mk ((by rw [hg]; exact (below_size (by repeat (first | (with_reducible first | exact HB.out | apply below_alloc | apply pw_below_drewN | apply below_drew1) | exact HB.out))) : w.heap.size ≤ gb331)); clear HO326; clear HO329; clear HB; have HO326 := n0_; have HO329 := n1_; have HB := n2_; have BK331 := n3_; have GW331 := n4_; have GE331 := n5_; clear n0_ n1_ n2_ n3_ n4_ n5_; clear hb hbox hg; have hcz10_0 : w9.cell? ⟨gb331, 0, none⟩ = some (.int .i64 0) := (blk_cell BK331.out 0).trans rfl; have hcz10_1 : w9.cell? ⟨gb331, 1, none⟩ = some (.slice none 0 0) := (blk_cell BK331.out 1).trans rfl; have hcz10_2 : w9.cell? ⟨gb331, 2, none⟩ = some (.slice none 0 0) := (blk_cell BK331.out 2).trans rfl; have hfz10_0 := blk_frozen BK331.out 0; have hfz10_1 := blk_frozen BK331.out 1; have hfz10_2 := blk_frozen BK331.out 2; obtain ⟨Ao11, co11, eo11⟩ := Kd.R_slice HO326.out; subst eo11; obtain ⟨Ao12, co12, eo12⟩ := Kd.R_slice HO329.out; subst eo12) | ((with_reducible refine gate_callee (f := 11) rfl ?_); refine goesL_ (some 29) rfl rfl Try.func11 (by kernel_rfl) rfl #[.int .i64 a0, .int .i64 a1, .string a2] rfl (by (try simp only [List.map_toArray, List.map_cons, List.map_nil]); first | done | rfl | (simp only [List.length_drop, List.length_take]; rfl)) ?_; (with_reducible refine (impl_SignText.calls k a0 a1 a2 t332 t333 t336 t339 _ A6.out).mono ?_); rintro e w13 ⟨v334, v337, rfl, ho0, ho1, hb⟩; refine ⟨_, rfl, ?_⟩; have n0_ := Aside0.mk (Kd.R_mono (Kd.R_told (Kd.R_told (Kd.R_old (by (with_reducible repeat (first | apply Kd.R_alloc | apply Kd.R_drewN | apply Kd.R_drew)); exact (Kd.R_mono (Kd.R_far (p := ⟨gb331, 2, none⟩) (Kd.R_far (p := ⟨gb331, 1, none⟩) (Kd.R_far (p := ⟨gb331, 0, none⟩) (Kd.R_types HO326.out BK331.out (by decide)) (fun _ hk => hk.2) (.int .i64 t323)) (fun _ hk => hk.2) (.slice Ao11 t324.length co11)) (fun _ hk => hk.2) (.slice Ao12 t327.length co12)) (fun _ h_ => h_.1))) hb) (Kd.R_base ho0)) (Kd.R_base ho1)) (fun _ h_ => h_.1)); have n1_ := Aside0.mk (Kd.R_mono (Kd.R_told (Kd.R_told (Kd.R_old (by (with_reducible repeat (first | apply Kd.R_alloc | apply Kd.R_drewN | apply Kd.R_drew)); exact (Kd.R_mono (Kd.R_far (p := ⟨gb331, 2, none⟩) (Kd.R_far (p := ⟨gb331, 1, none⟩) (Kd.R_far (p := ⟨gb331, 0, none⟩) (Kd.R_types HO329.out BK331.out (by decide)) (fun _ hk => hk.2) (.int .i64 t323)) (fun _ hk => hk.2) (.slice Ao11 t324.length co11)) (fun _ hk => hk.2) (.slice Ao12 t327.length co12)) (fun _ h_ => h_.1))) hb) (Kd.R_base ho0)) (Kd.R_base ho1)) (fun _ h_ => h_.1)); have n2_ := Aside0.mk (Kd.R_lower (Kd.R_new' (Kd.R_new' ho0 (Kd.R_lt (by (with_reducible repeat (first | apply Kd.R_alloc | apply Kd.R_drewN | apply Kd.R_drew)); exact (Kd.R_mono (Kd.R_far (p := ⟨gb331, 2, none⟩) (Kd.R_far (p := ⟨gb331, 1, none⟩) (Kd.R_far (p := ⟨gb331, 0, none⟩) (Kd.R_types HO326.out BK331.out (by decide)) (fun _ hk => hk.2) (.int .i64 t323)) (fun _ hk => hk.2) (.slice Ao11 t324.length co11)) (fun _ hk => hk.2) (.slice Ao12 t327.length co12)) (fun _ h_ => h_.1))))) (Kd.R_lt (by (with_reducible repeat (first | apply Kd.R_alloc | apply Kd.R_drewN | apply Kd.R_drew)); exact (Kd.R_mono (Kd.R_far (p := ⟨gb331, 2, none⟩) (Kd.R_far (p := ⟨gb331, 1, none⟩) (Kd.R_far (p := ⟨gb331, 0, none⟩) (Kd.R_types HO329.out BK331.out (by decide)) (fun _ hk => hk.2) (.int .i64 t323)) (fun _ hk => hk.2) (.slice Ao11 t324.length co11)) (fun _ hk => hk.2) (.slice Ao12 t327.length co12)) (fun _ h_ => h_.1))))) (below_size (by repeat (first | (with_reducible first | exact HB.out | apply below_alloc | apply pw_below_drewN | apply below_drew1 | refine below_set ?_ GE331.out) | exact HB.out)))); have n3_ := Aside0.mk (Kd.R_lower (Kd.R_new' (Kd.R_new' ho1 (Kd.R_lt (by (with_reducible repeat (first | apply Kd.R_alloc | apply Kd.R_drewN | apply Kd.R_drew)); exact (Kd.R_mono (Kd.R_far (p := ⟨gb331, 2, none⟩) (Kd.R_far (p := ⟨gb331, 1, none⟩) (Kd.R_far (p := ⟨gb331, 0, none⟩) (Kd.R_types HO326.out BK331.out (by decide)) (fun _ hk => hk.2) (.int .i64 t323)) (fun _ hk => hk.2) (.slice Ao11 t324.length co11)) (fun _ hk => hk.2) (.slice Ao12 t327.length co12)) (fun _ h_ => h_.1))))) (Kd.R_lt (by (with_reducible repeat (first | apply Kd.R_alloc | apply Kd.R_drewN | apply Kd.R_drew)); exact (Kd.R_mono (Kd.R_far (p := ⟨gb331, 2, none⟩) (Kd.R_far (p := ⟨gb331, 1, none⟩) (Kd.R_far (p := ⟨gb331, 0, none⟩) (Kd.R_types HO329.out BK331.out (by decide)) (fun _ hk => hk.2) (.int .i64 t323)) (fun _ hk => hk.2) (.slice Ao11 t324.length co11)) (fun _ hk => hk.2) (.slice Ao12 t327.length co12)) (fun _ h_ => h_.1))))) (below_size (by repeat (first | (with_reducible first | exact HB.out | apply below_alloc | apply pw_below_drewN | apply below_drew1 | refine below_set ?_ GE331.out) | exact HB.out)))); have n4_ := Aside0.mk (blk_below (g := gb331) (o := .cells #[.int .i64 t323, .slice Ao11 t324.length co11, .slice Ao12 t327.length co12] 29 (0, 0)) (by (with_reducible repeat (first | refine blk_drewN ?_ _ | refine blk_drew ?_ | refine blk_alloc ?_ _)); refine blk_put (cs := #[.int .i64 t323, .slice Ao11 t324.length co11, .slice none 0 0]) ?_ 2 _ rfl; (with_reducible repeat (first | refine blk_drewN ?_ _ | refine blk_drew ?_ | refine blk_alloc ?_ _)); refine blk_put (cs := #[.int .i64 t323, .slice none 0 0, .slice none 0 0]) ?_ 1 _ rfl; (with_reducible repeat (first | refine blk_drewN ?_ _ | refine blk_drew ?_ | refine blk_alloc ?_ _)); refine blk_put (cs := #[.int .i64 0, .slice none 0 0, .slice none 0 0]) ?_ 0 _ rfl; (with_reducible repeat (first | refine blk_drewN ?_ _ | refine blk_drew ?_ | refine blk_alloc ?_ _)); exact BK331.out) hb); have n5_ := Aside0.mk (below_step (by repeat (first | (with_reducible first | exact HB.out | apply below_alloc | apply pw_below_drewN | apply below_drew1 | refine below_set ?_ GE331.out) | exact HB.out)) hb); clear HO326; clear HO329; clear BK331; clear HB; have HO326 := n0_; have HO329 := n1_; have HO335 := n2_; have HO338 := n3_; have BK331 := n4_; have HB := n5_; clear n0_ n1_ n2_ n3_ n4_ n5_; (try clear hb); (try clear hb2); (try clear hk); (try clear hi); (try clear ho0); (try clear ho1)) | ((with_reducible refine gate_dst (N := 9) rfl ?_); refine box_event ?hg (N := 9) ?hd (cs := #[.int .i64 0, .slice none 0 0, .slice none 0 0]) (t := 29) ?hr ?_; (case hd => rfl); (case hg => rfl); (case hr => first | (go_simp; done) | (go_simp; rfl)); intro gb340 hg w14 hbox hb; have n0_ := Aside0.mk (Kd.R_below (by (with_reducible repeat (first | apply Kd.R_alloc | apply Kd.R_drewN | apply Kd.R_drew)); exact HO326.out) hb); have n1_ := Aside0.mk (Kd.R_below (by (with_reducible repeat (first | apply Kd.R_alloc | apply Kd.R_drewN | apply Kd.R_drew)); exact HO329.out) hb); have n2_ := Aside0.mk (Kd.R_below (by (with_reducible repeat (first | apply Kd.R_alloc | apply Kd.R_drewN | apply Kd.R_drew)); exact HO335.out) hb); have n3_ := Aside0.mk (Kd.R_below (by (with_reducible repeat (first | apply Kd.R_alloc | apply Kd.R_drewN | apply Kd.R_drew)); exact HO338.out) hb); have n4_ := Aside0.mk (blk_below (g := gb331) (o := .cells #[.int .i64 t323, .slice Ao11 t324.length co11, .slice Ao12 t327.length co12] 29 (0, 0)) (by (with_reducible repeat (first | refine blk_drewN ?_ _ | refine blk_drew ?_ | refine blk_alloc ?_ _)); exact BK331.out) hb); have n5_ := Aside0.mk (below_step (by repeat (first | (with_reducible first | exact HB.out | apply below_alloc | apply pw_below_drewN | apply below_drew1 | refine below_set ?_ GE331.out) | exact HB.out)) hb); have n6_ := Aside0.mk (hbox); have n7_ := Aside0.mk ((by rw [hg]; exact (below_size (by repeat (first | (with_reducible first | exact HB.out | apply below_alloc | apply pw_below_drewN | apply below_drew1 | refine below_set ?_ GE331.out) | exact HB.out))) : w.heap.size ≤ gb340)); have n8_ := Aside0.mk ((by rw [hg]; exact (below_size (by repeat (first | (with_reducible first | exact HB.out | apply below_alloc | apply pw_below_drewN | apply below_drew1 | refine below_set ?_ GE331.out) | exact HB.out))) : w.heap.size ≤ gb340)); have n9_ := Aside0.mk ((by rw [hg]; exact Nat.ne_of_lt (blk_lt (g := gb331) (o := .cells #[.int .i64 t323, .slice Ao11 t324.length co11, .slice Ao12 t327.length co12] 29 (0, 0)) (by (with_reducible repeat (first | refine blk_drewN ?_ _ | refine blk_drew ?_ | refine blk_alloc ?_ _)); exact BK331.out)) : gb331 ≠ gb340)); have n10_ := Aside0.mk ((by rw [hg]; exact Nat.ne_of_gt (blk_lt (g := gb331) (o := .cells #[.int .i64 t323, .slice Ao11 t324.length co11, .slice Ao12 t327.length co12] 29 (0, 0)) (by (with_reducible repeat (first | refine blk_drewN ?_ _ | refine blk_drew ?_ | refine blk_alloc ?_ _)); exact BK331.out)) : gb340 ≠ gb331)); clear HO326; clear HO329; clear HO335; clear HO338; clear BK331; clear HB; have HO326 := n0_; have HO329 := n1_; have HO335 := n2_; have HO338 := n3_; have BK331 := n4_; have HB := n5_; have BK340 := n6_; have GW340 := n7_; have GE340 := n8_; have NB331_340 := n9_; have NB340_331 := n10_; clear n0_ n1_ n2_ n3_ n4_ n5_ n6_ n7_ n8_ n9_ n10_; clear hb hbox hg; have hnb15 := NB340_331.out; have hnc15 := NB331_340.out; have hcz16_0 : w14.cell? ⟨gb340, 0, none⟩ = some (.int .i64 0) := (blk_cell BK340.out 0).trans rfl; have hcz16_1 : w14.cell? ⟨gb340, 1, none⟩ = some (.slice none 0 0) := (blk_cell BK340.out 1).trans rfl; have hcz16_2 : w14.cell? ⟨gb340, 2, none⟩ = some (.slice none 0 0) := (blk_cell BK340.out 2).trans rfl; have hfz16_0 := blk_frozen BK340.out 0; have hfz16_1 := blk_frozen BK340.out 1; have hfz16_2 := blk_frozen BK340.out 2; obtain ⟨Ao17, co17, eo17⟩ := Kd.R_slice HO335.out; subst eo17; obtain ⟨Ao18, co18, eo18⟩ := Kd.R_slice HO338.out; subst eo18))
    (try simp only [Act.put, List.setIfInBounds_toArray, List.set_cons_zero, List.set_cons_succ])
    go_cut [40] (fun v40 wc => ∃ (kq : Nat) (x40_6 : Bool), v40 = .bool x40_6 ∧ Aside0 (laws_FnExactSignText.j0 kq a0 a1 a2 t330 x40_6 t323 t324 t327 t332 t333 t336 = some r) ∧ Aside0 (kq ≤ k) ∧ Aside0 (Kd.R Kd.string 9 wc w.heap.size (fun k_ => some k_ ≠ ((.slice Ao12 t327.length co12) : Value).ownBlock ∧ some k_ ≠ ((.slice Ao17 t333.length co17) : Value).ownBlock ∧ some k_ ≠ ((.slice Ao18 t336.length co18) : Value).ownBlock) (.slice Ao11 t324.length co11) t324) ∧ Aside0 (Kd.R Kd.string 9 wc w.heap.size (fun k_ => some k_ ≠ ((.slice Ao11 t324.length co11) : Value).ownBlock ∧ some k_ ≠ ((.slice Ao17 t333.length co17) : Value).ownBlock ∧ some k_ ≠ ((.slice Ao18 t336.length co18) : Value).ownBlock) (.slice Ao12 t327.length co12) t327) ∧ Aside0 (Kd.R Kd.string 9 wc w.heap.size (fun k_ => some k_ ≠ ((.slice Ao11 t324.length co11) : Value).ownBlock ∧ some k_ ≠ ((.slice Ao12 t327.length co12) : Value).ownBlock ∧ some k_ ≠ ((.slice Ao18 t336.length co18) : Value).ownBlock) (.slice Ao17 t333.length co17) t333) ∧ Aside0 (Kd.R Kd.string 9 wc w.heap.size (fun k_ => some k_ ≠ ((.slice Ao11 t324.length co11) : Value).ownBlock ∧ some k_ ≠ ((.slice Ao12 t327.length co12) : Value).ownBlock ∧ some k_ ≠ ((.slice Ao17 t333.length co17) : Value).ownBlock) (.slice Ao18 t336.length co18) t336) ∧ Aside0 (wc.heap[gb331]? = some (.cells #[.int .i64 t323, (.slice Ao11 t324.length co11), (.slice Ao12 t327.length co12)] 29 (0, 0))) ∧ Aside0 (wc.heap[gb340]? = some (.cells #[.int .i64 t332, (.slice Ao17 t333.length co17), (.slice Ao18 t336.length co18)] 29 (0, 0))) ∧ Aside0 (Below w.heap.size w wc))
    case first =>
      have H := HC7.out
      clear HC7
      replace H := Option.bind_eq_some_iff.mp H
      obtain ⟨t341, A190, H⟩ := H
      replace H : (if t341 = true then (laws_FnExactSignText.j0 k a0 a1 a2 t330 (t339 != t330) t323 t324 t327 t332 t333 t336) else (laws_FnExactSignText.j0 k a0 a1 a2 t330 true t323 t324 t327 t332 t333 t336)) = some r := H
      have A19 := Aside0.mk A190
      clear A190
      by_cases c20 : t341 = true
      · subst c20
        have H1 : (laws_FnExactSignText.j0 k a0 a1 a2 t330 (t339 != t330) t323 t324 t327 t332 t333 t336) = some r := by rw [if_pos rfl] at H; exact H
        clear H
        have H := H1
        clear H1
        have H' := Aside0.mk H
        clear H
        have hnb21 := NB340_331.out
        have hnc21 := NB331_340.out
        have hcz22_0 : w14.cell? ⟨gb340, 0, none⟩ = some (.int .i64 0) := (blk_cell BK340.out 0).trans rfl
        have hcz22_1 : w14.cell? ⟨gb340, 1, none⟩ = some (.slice none 0 0) := (blk_cell BK340.out 1).trans rfl
        have hcz22_2 : w14.cell? ⟨gb340, 2, none⟩ = some (.slice none 0 0) := (blk_cell BK340.out 2).trans rfl
        have hfz22_0 := blk_frozen BK340.out 0
        have hfz22_1 := blk_frozen BK340.out 1
        have hfz22_2 := blk_frozen BK340.out 2
        have hcz23_0 : w14.cell? ⟨gb331, 0, none⟩ = some (.int .i64 t323) := (blk_cell BK331.out 0).trans rfl
        have hcz23_1 : w14.cell? ⟨gb331, 1, none⟩ = some (.slice Ao11 t324.length co11) := (blk_cell BK331.out 1).trans rfl
        have hcz23_2 : w14.cell? ⟨gb331, 2, none⟩ = some (.slice Ao12 t327.length co12) := (blk_cell BK331.out 2).trans rfl
        have hfz23_0 := blk_frozen BK331.out 0
        have hfz23_1 := blk_frozen BK331.out 1
        have hfz23_2 := blk_frozen BK331.out 2
        go_wp2_with (first | ((with_reducible refine gate_callee (f := 23) rfl ?_); refine goesL_ (some 34) rfl rfl Try.func23 (by kernel_rfl) rfl #[.agg #[.int .i64 t332, .slice Ao17 t333.length co17, .slice Ao18 t336.length co18], .agg #[.int .i64 t323, .slice Ao11 t324.length co11, .slice Ao12 t327.length co12]] rfl (by (try simp only [List.map_toArray, List.map_cons, List.map_nil]); first | done | rfl | (simp only [List.length_drop, List.length_take]; rfl)) ?_; (with_reducible refine (laws_eqSignature.calls k t332 _ _ t333 _ _ t336 t323 _ _ t324 _ _ t327 true _ ?side1 ?side2 ?side3 ?side4 ?side5 ?side6 ?side7 ?side8 A19.out).mono ?_); (case side1 => refine (Kd.R_reads' (e := 9) (base := w.heap.size) (ok := fun k_ => ((some k_ ≠ (.slice Ao18 t336.length co18 : Value).ownBlock ∧ some k_ ≠ (.slice Ao11 t324.length co11 : Value).ownBlock) ∧ some k_ ≠ (.slice Ao12 t327.length co12 : Value).ownBlock)) (n := t333.length) (c := co17) ?_).2.2; exact (by (with_reducible repeat (first | apply Kd.R_alloc | apply Kd.R_drewN | apply Kd.R_drew)); exact (Kd.R_mono (Kd.R_far (p := ⟨gb340, 2, none⟩) (Kd.R_far (p := ⟨gb340, 1, none⟩) (Kd.R_far (p := ⟨gb340, 0, none⟩) (Kd.R_types HO335.out BK340.out (by decide)) (fun _ hk => hk.2) (.int .i64 t332)) (fun _ hk => hk.2) (.slice Ao17 t333.length co17)) (fun _ hk => hk.2) (.slice Ao18 t336.length co18)) (fun _ h_ => h_.1)))); (case side2 => exact (Kd.R_reads' HO335.out).2.1); (case side3 => refine (Kd.R_reads' (e := 9) (base := w.heap.size) (ok := fun k_ => ((some k_ ≠ (.slice Ao17 t333.length co17 : Value).ownBlock ∧ some k_ ≠ (.slice Ao11 t324.length co11 : Value).ownBlock) ∧ some k_ ≠ (.slice Ao12 t327.length co12 : Value).ownBlock)) (n := t336.length) (c := co18) ?_).2.2; exact (by (with_reducible repeat (first | apply Kd.R_alloc | apply Kd.R_drewN | apply Kd.R_drew)); exact (Kd.R_mono (Kd.R_far (p := ⟨gb340, 2, none⟩) (Kd.R_far (p := ⟨gb340, 1, none⟩) (Kd.R_far (p := ⟨gb340, 0, none⟩) (Kd.R_types HO338.out BK340.out (by decide)) (fun _ hk => hk.2) (.int .i64 t332)) (fun _ hk => hk.2) (.slice Ao17 t333.length co17)) (fun _ hk => hk.2) (.slice Ao18 t336.length co18)) (fun _ h_ => h_.1)))); (case side4 => exact (Kd.R_reads' HO338.out).2.1); (case side5 => refine (Kd.R_reads' (e := 9) (base := w.heap.size) (ok := fun k_ => ((some k_ ≠ (.slice Ao12 t327.length co12 : Value).ownBlock ∧ some k_ ≠ (.slice Ao17 t333.length co17 : Value).ownBlock) ∧ some k_ ≠ (.slice Ao18 t336.length co18 : Value).ownBlock)) (n := t324.length) (c := co11) ?_).2.2; exact (by (with_reducible repeat (first | apply Kd.R_alloc | apply Kd.R_drewN | apply Kd.R_drew)); exact (Kd.R_mono (Kd.R_far (p := ⟨gb340, 2, none⟩) (Kd.R_far (p := ⟨gb340, 1, none⟩) (Kd.R_far (p := ⟨gb340, 0, none⟩) (Kd.R_types HO326.out BK340.out (by decide)) (fun _ hk => hk.2) (.int .i64 t332)) (fun _ hk => hk.2) (.slice Ao17 t333.length co17)) (fun _ hk => hk.2) (.slice Ao18 t336.length co18)) (fun _ h_ => h_.1)))); (case side6 => exact (Kd.R_reads' HO326.out).2.1); (case side7 => refine (Kd.R_reads' (e := 9) (base := w.heap.size) (ok := fun k_ => ((some k_ ≠ (.slice Ao11 t324.length co11 : Value).ownBlock ∧ some k_ ≠ (.slice Ao17 t333.length co17 : Value).ownBlock) ∧ some k_ ≠ (.slice Ao18 t336.length co18 : Value).ownBlock)) (n := t327.length) (c := co12) ?_).2.2; exact (by (with_reducible repeat (first | apply Kd.R_alloc | apply Kd.R_drewN | apply Kd.R_drew)); exact (Kd.R_mono (Kd.R_far (p := ⟨gb340, 2, none⟩) (Kd.R_far (p := ⟨gb340, 1, none⟩) (Kd.R_far (p := ⟨gb340, 0, none⟩) (Kd.R_types HO329.out BK340.out (by decide)) (fun _ hk => hk.2) (.int .i64 t332)) (fun _ hk => hk.2) (.slice Ao17 t333.length co17)) (fun _ hk => hk.2) (.slice Ao18 t336.length co18)) (fun _ h_ => h_.1)))); (case side8 => exact (Kd.R_reads' HO329.out).2.1); rintro e w24 ⟨rfl, hb⟩; refine ⟨_, rfl, ?_⟩; have n0_ := Aside0.mk (Kd.R_below (by (with_reducible repeat (first | apply Kd.R_alloc | apply Kd.R_drewN | apply Kd.R_drew)); exact (Kd.R_mono (Kd.R_far (p := ⟨gb340, 2, none⟩) (Kd.R_far (p := ⟨gb340, 1, none⟩) (Kd.R_far (p := ⟨gb340, 0, none⟩) (Kd.R_types HO326.out BK340.out (by decide)) (fun _ hk => hk.2) (.int .i64 t332)) (fun _ hk => hk.2) (.slice Ao17 t333.length co17)) (fun _ hk => hk.2) (.slice Ao18 t336.length co18)) (fun _ h_ => h_.1))) hb); have n1_ := Aside0.mk (Kd.R_below (by (with_reducible repeat (first | apply Kd.R_alloc | apply Kd.R_drewN | apply Kd.R_drew)); exact (Kd.R_mono (Kd.R_far (p := ⟨gb340, 2, none⟩) (Kd.R_far (p := ⟨gb340, 1, none⟩) (Kd.R_far (p := ⟨gb340, 0, none⟩) (Kd.R_types HO329.out BK340.out (by decide)) (fun _ hk => hk.2) (.int .i64 t332)) (fun _ hk => hk.2) (.slice Ao17 t333.length co17)) (fun _ hk => hk.2) (.slice Ao18 t336.length co18)) (fun _ h_ => h_.1))) hb); have n2_ := Aside0.mk (Kd.R_below (by (with_reducible repeat (first | apply Kd.R_alloc | apply Kd.R_drewN | apply Kd.R_drew)); exact (Kd.R_mono (Kd.R_far (p := ⟨gb340, 2, none⟩) (Kd.R_far (p := ⟨gb340, 1, none⟩) (Kd.R_far (p := ⟨gb340, 0, none⟩) (Kd.R_types HO335.out BK340.out (by decide)) (fun _ hk => hk.2) (.int .i64 t332)) (fun _ hk => hk.2) (.slice Ao17 t333.length co17)) (fun _ hk => hk.2) (.slice Ao18 t336.length co18)) (fun _ h_ => h_.1))) hb); have n3_ := Aside0.mk (Kd.R_below (by (with_reducible repeat (first | apply Kd.R_alloc | apply Kd.R_drewN | apply Kd.R_drew)); exact (Kd.R_mono (Kd.R_far (p := ⟨gb340, 2, none⟩) (Kd.R_far (p := ⟨gb340, 1, none⟩) (Kd.R_far (p := ⟨gb340, 0, none⟩) (Kd.R_types HO338.out BK340.out (by decide)) (fun _ hk => hk.2) (.int .i64 t332)) (fun _ hk => hk.2) (.slice Ao17 t333.length co17)) (fun _ hk => hk.2) (.slice Ao18 t336.length co18)) (fun _ h_ => h_.1))) hb); have n4_ := Aside0.mk (blk_below (g := gb331) (o := .cells #[.int .i64 t323, .slice Ao11 t324.length co11, .slice Ao12 t327.length co12] 29 (0, 0)) (by (with_reducible repeat (first | refine blk_drewN ?_ _ | refine blk_drew ?_ | refine blk_alloc ?_ _)); refine blk_far ?_ NB331_340.out _; (with_reducible repeat (first | refine blk_drewN ?_ _ | refine blk_drew ?_ | refine blk_alloc ?_ _)); refine blk_far ?_ NB331_340.out _; (with_reducible repeat (first | refine blk_drewN ?_ _ | refine blk_drew ?_ | refine blk_alloc ?_ _)); refine blk_far ?_ NB331_340.out _; (with_reducible repeat (first | refine blk_drewN ?_ _ | refine blk_drew ?_ | refine blk_alloc ?_ _)); exact BK331.out) hb); have n5_ := Aside0.mk (blk_below (g := gb340) (o := .cells #[.int .i64 t332, .slice Ao17 t333.length co17, .slice Ao18 t336.length co18] 29 (0, 0)) (by (with_reducible repeat (first | refine blk_drewN ?_ _ | refine blk_drew ?_ | refine blk_alloc ?_ _)); refine blk_put (cs := #[.int .i64 t332, .slice Ao17 t333.length co17, .slice none 0 0]) ?_ 2 _ rfl; (with_reducible repeat (first | refine blk_drewN ?_ _ | refine blk_drew ?_ | refine blk_alloc ?_ _)); refine blk_put (cs := #[.int .i64 t332, .slice none 0 0, .slice none 0 0]) ?_ 1 _ rfl; (with_reducible repeat (first | refine blk_drewN ?_ _ | refine blk_drew ?_ | refine blk_alloc ?_ _)); refine blk_put (cs := #[.int .i64 0, .slice none 0 0, .slice none 0 0]) ?_ 0 _ rfl; (with_reducible repeat (first | refine blk_drewN ?_ _ | refine blk_drew ?_ | refine blk_alloc ?_ _)); exact BK340.out) hb); have n6_ := Aside0.mk (below_step (by repeat (first | (with_reducible first | exact HB.out | apply below_alloc | apply pw_below_drewN | apply below_drew1 | refine below_set ?_ GE331.out | refine below_set ?_ GE340.out) | exact HB.out)) hb); clear HO326; clear HO329; clear HO335; clear HO338; clear BK331; clear BK340; clear HB; have HO326 := n0_; have HO329 := n1_; have HO335 := n2_; have HO338 := n3_; have BK331 := n4_; have BK340 := n5_; have HB := n6_; clear n0_ n1_ n2_ n3_ n4_ n5_ n6_; (try clear hb); (try clear hb2); (try clear hk); (try clear hi)))
        go_meet
        case rel => exact ⟨_, ((t339 != t330)), (by first | rfl | (simp; done) | (simp [*]; done)), H', ⟨by first | omega | exact Nat.le_refl _⟩, ⟨by (with_reducible repeat (first | apply Kd.R_alloc | apply Kd.R_drewN | apply Kd.R_drew)); exact Kd.R_mono HO326.out (fun _ hk => ⟨hk.1.1, ⟨hk.1.2, hk.2⟩⟩)⟩, ⟨by (with_reducible repeat (first | apply Kd.R_alloc | apply Kd.R_drewN | apply Kd.R_drew)); exact Kd.R_mono HO329.out (fun _ hk => ⟨hk.1.1, ⟨hk.1.2, hk.2⟩⟩)⟩, ⟨by (with_reducible repeat (first | apply Kd.R_alloc | apply Kd.R_drewN | apply Kd.R_drew)); exact Kd.R_mono HO335.out (fun _ hk => ⟨hk.1.2, ⟨hk.2, hk.1.1⟩⟩)⟩, ⟨by (with_reducible repeat (first | apply Kd.R_alloc | apply Kd.R_drewN | apply Kd.R_drew)); exact Kd.R_mono HO338.out (fun _ hk => ⟨hk.1.2, ⟨hk.2, hk.1.1⟩⟩)⟩, ⟨by (with_reducible repeat (first | refine blk_drewN ?_ _ | refine blk_drew ?_ | refine blk_alloc ?_ _)); exact BK331.out⟩, ⟨by (with_reducible repeat (first | refine blk_drewN ?_ _ | refine blk_drew ?_ | refine blk_alloc ?_ _)); exact BK340.out⟩, ⟨by repeat (first | (with_reducible first | exact HB.out | apply below_alloc | apply pw_below_drewN | apply below_drew1 | refine below_set ?_ GE331.out | refine below_set ?_ GE340.out) | exact HB.out)⟩⟩
      · replace c20 := Bool.eq_false_iff.mpr c20
        subst c20
        have H1 : (laws_FnExactSignText.j0 k a0 a1 a2 t330 true t323 t324 t327 t332 t333 t336) = some r := by rw [if_neg (show ¬ (false = true) by decide)] at H; exact H
        clear H
        have H := H1
        clear H1
        have H' := Aside0.mk H
        clear H
        have hnb25 := NB340_331.out
        have hnc25 := NB331_340.out
        have hcz26_0 : w14.cell? ⟨gb340, 0, none⟩ = some (.int .i64 0) := (blk_cell BK340.out 0).trans rfl
        have hcz26_1 : w14.cell? ⟨gb340, 1, none⟩ = some (.slice none 0 0) := (blk_cell BK340.out 1).trans rfl
        have hcz26_2 : w14.cell? ⟨gb340, 2, none⟩ = some (.slice none 0 0) := (blk_cell BK340.out 2).trans rfl
        have hfz26_0 := blk_frozen BK340.out 0
        have hfz26_1 := blk_frozen BK340.out 1
        have hfz26_2 := blk_frozen BK340.out 2
        have hcz27_0 : w14.cell? ⟨gb331, 0, none⟩ = some (.int .i64 t323) := (blk_cell BK331.out 0).trans rfl
        have hcz27_1 : w14.cell? ⟨gb331, 1, none⟩ = some (.slice Ao11 t324.length co11) := (blk_cell BK331.out 1).trans rfl
        have hcz27_2 : w14.cell? ⟨gb331, 2, none⟩ = some (.slice Ao12 t327.length co12) := (blk_cell BK331.out 2).trans rfl
        have hfz27_0 := blk_frozen BK331.out 0
        have hfz27_1 := blk_frozen BK331.out 1
        have hfz27_2 := blk_frozen BK331.out 2
        go_wp2_with (first | ((with_reducible refine gate_callee (f := 23) rfl ?_); refine goesL_ (some 34) rfl rfl Try.func23 (by kernel_rfl) rfl #[.agg #[.int .i64 t332, .slice Ao17 t333.length co17, .slice Ao18 t336.length co18], .agg #[.int .i64 t323, .slice Ao11 t324.length co11, .slice Ao12 t327.length co12]] rfl (by (try simp only [List.map_toArray, List.map_cons, List.map_nil]); first | done | rfl | (simp only [List.length_drop, List.length_take]; rfl)) ?_; (with_reducible refine (laws_eqSignature.calls k t332 _ _ t333 _ _ t336 t323 _ _ t324 _ _ t327 false _ ?side1 ?side2 ?side3 ?side4 ?side5 ?side6 ?side7 ?side8 A19.out).mono ?_); (case side1 => refine (Kd.R_reads' (e := 9) (base := w.heap.size) (ok := fun k_ => ((some k_ ≠ (.slice Ao18 t336.length co18 : Value).ownBlock ∧ some k_ ≠ (.slice Ao11 t324.length co11 : Value).ownBlock) ∧ some k_ ≠ (.slice Ao12 t327.length co12 : Value).ownBlock)) (n := t333.length) (c := co17) ?_).2.2; exact (by (with_reducible repeat (first | apply Kd.R_alloc | apply Kd.R_drewN | apply Kd.R_drew)); exact (Kd.R_mono (Kd.R_far (p := ⟨gb340, 2, none⟩) (Kd.R_far (p := ⟨gb340, 1, none⟩) (Kd.R_far (p := ⟨gb340, 0, none⟩) (Kd.R_types HO335.out BK340.out (by decide)) (fun _ hk => hk.2) (.int .i64 t332)) (fun _ hk => hk.2) (.slice Ao17 t333.length co17)) (fun _ hk => hk.2) (.slice Ao18 t336.length co18)) (fun _ h_ => h_.1)))); (case side2 => exact (Kd.R_reads' HO335.out).2.1); (case side3 => refine (Kd.R_reads' (e := 9) (base := w.heap.size) (ok := fun k_ => ((some k_ ≠ (.slice Ao17 t333.length co17 : Value).ownBlock ∧ some k_ ≠ (.slice Ao11 t324.length co11 : Value).ownBlock) ∧ some k_ ≠ (.slice Ao12 t327.length co12 : Value).ownBlock)) (n := t336.length) (c := co18) ?_).2.2; exact (by (with_reducible repeat (first | apply Kd.R_alloc | apply Kd.R_drewN | apply Kd.R_drew)); exact (Kd.R_mono (Kd.R_far (p := ⟨gb340, 2, none⟩) (Kd.R_far (p := ⟨gb340, 1, none⟩) (Kd.R_far (p := ⟨gb340, 0, none⟩) (Kd.R_types HO338.out BK340.out (by decide)) (fun _ hk => hk.2) (.int .i64 t332)) (fun _ hk => hk.2) (.slice Ao17 t333.length co17)) (fun _ hk => hk.2) (.slice Ao18 t336.length co18)) (fun _ h_ => h_.1)))); (case side4 => exact (Kd.R_reads' HO338.out).2.1); (case side5 => refine (Kd.R_reads' (e := 9) (base := w.heap.size) (ok := fun k_ => ((some k_ ≠ (.slice Ao12 t327.length co12 : Value).ownBlock ∧ some k_ ≠ (.slice Ao17 t333.length co17 : Value).ownBlock) ∧ some k_ ≠ (.slice Ao18 t336.length co18 : Value).ownBlock)) (n := t324.length) (c := co11) ?_).2.2; exact (by (with_reducible repeat (first | apply Kd.R_alloc | apply Kd.R_drewN | apply Kd.R_drew)); exact (Kd.R_mono (Kd.R_far (p := ⟨gb340, 2, none⟩) (Kd.R_far (p := ⟨gb340, 1, none⟩) (Kd.R_far (p := ⟨gb340, 0, none⟩) (Kd.R_types HO326.out BK340.out (by decide)) (fun _ hk => hk.2) (.int .i64 t332)) (fun _ hk => hk.2) (.slice Ao17 t333.length co17)) (fun _ hk => hk.2) (.slice Ao18 t336.length co18)) (fun _ h_ => h_.1)))); (case side6 => exact (Kd.R_reads' HO326.out).2.1); (case side7 => refine (Kd.R_reads' (e := 9) (base := w.heap.size) (ok := fun k_ => ((some k_ ≠ (.slice Ao11 t324.length co11 : Value).ownBlock ∧ some k_ ≠ (.slice Ao17 t333.length co17 : Value).ownBlock) ∧ some k_ ≠ (.slice Ao18 t336.length co18 : Value).ownBlock)) (n := t327.length) (c := co12) ?_).2.2; exact (by (with_reducible repeat (first | apply Kd.R_alloc | apply Kd.R_drewN | apply Kd.R_drew)); exact (Kd.R_mono (Kd.R_far (p := ⟨gb340, 2, none⟩) (Kd.R_far (p := ⟨gb340, 1, none⟩) (Kd.R_far (p := ⟨gb340, 0, none⟩) (Kd.R_types HO329.out BK340.out (by decide)) (fun _ hk => hk.2) (.int .i64 t332)) (fun _ hk => hk.2) (.slice Ao17 t333.length co17)) (fun _ hk => hk.2) (.slice Ao18 t336.length co18)) (fun _ h_ => h_.1)))); (case side8 => exact (Kd.R_reads' HO329.out).2.1); rintro e w28 ⟨rfl, hb⟩; refine ⟨_, rfl, ?_⟩; have n0_ := Aside0.mk (Kd.R_below (by (with_reducible repeat (first | apply Kd.R_alloc | apply Kd.R_drewN | apply Kd.R_drew)); exact (Kd.R_mono (Kd.R_far (p := ⟨gb340, 2, none⟩) (Kd.R_far (p := ⟨gb340, 1, none⟩) (Kd.R_far (p := ⟨gb340, 0, none⟩) (Kd.R_types HO326.out BK340.out (by decide)) (fun _ hk => hk.2) (.int .i64 t332)) (fun _ hk => hk.2) (.slice Ao17 t333.length co17)) (fun _ hk => hk.2) (.slice Ao18 t336.length co18)) (fun _ h_ => h_.1))) hb); have n1_ := Aside0.mk (Kd.R_below (by (with_reducible repeat (first | apply Kd.R_alloc | apply Kd.R_drewN | apply Kd.R_drew)); exact (Kd.R_mono (Kd.R_far (p := ⟨gb340, 2, none⟩) (Kd.R_far (p := ⟨gb340, 1, none⟩) (Kd.R_far (p := ⟨gb340, 0, none⟩) (Kd.R_types HO329.out BK340.out (by decide)) (fun _ hk => hk.2) (.int .i64 t332)) (fun _ hk => hk.2) (.slice Ao17 t333.length co17)) (fun _ hk => hk.2) (.slice Ao18 t336.length co18)) (fun _ h_ => h_.1))) hb); have n2_ := Aside0.mk (Kd.R_below (by (with_reducible repeat (first | apply Kd.R_alloc | apply Kd.R_drewN | apply Kd.R_drew)); exact (Kd.R_mono (Kd.R_far (p := ⟨gb340, 2, none⟩) (Kd.R_far (p := ⟨gb340, 1, none⟩) (Kd.R_far (p := ⟨gb340, 0, none⟩) (Kd.R_types HO335.out BK340.out (by decide)) (fun _ hk => hk.2) (.int .i64 t332)) (fun _ hk => hk.2) (.slice Ao17 t333.length co17)) (fun _ hk => hk.2) (.slice Ao18 t336.length co18)) (fun _ h_ => h_.1))) hb); have n3_ := Aside0.mk (Kd.R_below (by (with_reducible repeat (first | apply Kd.R_alloc | apply Kd.R_drewN | apply Kd.R_drew)); exact (Kd.R_mono (Kd.R_far (p := ⟨gb340, 2, none⟩) (Kd.R_far (p := ⟨gb340, 1, none⟩) (Kd.R_far (p := ⟨gb340, 0, none⟩) (Kd.R_types HO338.out BK340.out (by decide)) (fun _ hk => hk.2) (.int .i64 t332)) (fun _ hk => hk.2) (.slice Ao17 t333.length co17)) (fun _ hk => hk.2) (.slice Ao18 t336.length co18)) (fun _ h_ => h_.1))) hb); have n4_ := Aside0.mk (blk_below (g := gb331) (o := .cells #[.int .i64 t323, .slice Ao11 t324.length co11, .slice Ao12 t327.length co12] 29 (0, 0)) (by (with_reducible repeat (first | refine blk_drewN ?_ _ | refine blk_drew ?_ | refine blk_alloc ?_ _)); refine blk_far ?_ NB331_340.out _; (with_reducible repeat (first | refine blk_drewN ?_ _ | refine blk_drew ?_ | refine blk_alloc ?_ _)); refine blk_far ?_ NB331_340.out _; (with_reducible repeat (first | refine blk_drewN ?_ _ | refine blk_drew ?_ | refine blk_alloc ?_ _)); refine blk_far ?_ NB331_340.out _; (with_reducible repeat (first | refine blk_drewN ?_ _ | refine blk_drew ?_ | refine blk_alloc ?_ _)); exact BK331.out) hb); have n5_ := Aside0.mk (blk_below (g := gb340) (o := .cells #[.int .i64 t332, .slice Ao17 t333.length co17, .slice Ao18 t336.length co18] 29 (0, 0)) (by (with_reducible repeat (first | refine blk_drewN ?_ _ | refine blk_drew ?_ | refine blk_alloc ?_ _)); refine blk_put (cs := #[.int .i64 t332, .slice Ao17 t333.length co17, .slice none 0 0]) ?_ 2 _ rfl; (with_reducible repeat (first | refine blk_drewN ?_ _ | refine blk_drew ?_ | refine blk_alloc ?_ _)); refine blk_put (cs := #[.int .i64 t332, .slice none 0 0, .slice none 0 0]) ?_ 1 _ rfl; (with_reducible repeat (first | refine blk_drewN ?_ _ | refine blk_drew ?_ | refine blk_alloc ?_ _)); refine blk_put (cs := #[.int .i64 0, .slice none 0 0, .slice none 0 0]) ?_ 0 _ rfl; (with_reducible repeat (first | refine blk_drewN ?_ _ | refine blk_drew ?_ | refine blk_alloc ?_ _)); exact BK340.out) hb); have n6_ := Aside0.mk (below_step (by repeat (first | (with_reducible first | exact HB.out | apply below_alloc | apply pw_below_drewN | apply below_drew1 | refine below_set ?_ GE331.out | refine below_set ?_ GE340.out) | exact HB.out)) hb); clear HO326; clear HO329; clear HO335; clear HO338; clear BK331; clear BK340; clear HB; have HO326 := n0_; have HO329 := n1_; have HO335 := n2_; have HO338 := n3_; have BK331 := n4_; have BK340 := n5_; have HB := n6_; clear n0_ n1_ n2_ n3_ n4_ n5_ n6_; (try clear hb); (try clear hb2); (try clear hk); (try clear hi)))
        go_meet
        case rel => exact ⟨_, (true), (by first | rfl | (simp; done) | (simp [*]; done)), H', ⟨by first | omega | exact Nat.le_refl _⟩, ⟨by (with_reducible repeat (first | apply Kd.R_alloc | apply Kd.R_drewN | apply Kd.R_drew)); exact Kd.R_mono HO326.out (fun _ hk => ⟨hk.1.1, ⟨hk.1.2, hk.2⟩⟩)⟩, ⟨by (with_reducible repeat (first | apply Kd.R_alloc | apply Kd.R_drewN | apply Kd.R_drew)); exact Kd.R_mono HO329.out (fun _ hk => ⟨hk.1.1, ⟨hk.1.2, hk.2⟩⟩)⟩, ⟨by (with_reducible repeat (first | apply Kd.R_alloc | apply Kd.R_drewN | apply Kd.R_drew)); exact Kd.R_mono HO335.out (fun _ hk => ⟨hk.1.2, ⟨hk.2, hk.1.1⟩⟩)⟩, ⟨by (with_reducible repeat (first | apply Kd.R_alloc | apply Kd.R_drewN | apply Kd.R_drew)); exact Kd.R_mono HO338.out (fun _ hk => ⟨hk.1.2, ⟨hk.2, hk.1.1⟩⟩)⟩, ⟨by (with_reducible repeat (first | refine blk_drewN ?_ _ | refine blk_drew ?_ | refine blk_alloc ?_ _)); exact BK331.out⟩, ⟨by (with_reducible repeat (first | refine blk_drewN ?_ _ | refine blk_drew ?_ | refine blk_alloc ?_ _)); exact BK340.out⟩, ⟨by repeat (first | (with_reducible first | exact HB.out | apply below_alloc | apply pw_below_drewN | apply below_drew1 | refine below_set ?_ GE331.out | refine below_set ?_ GE340.out) | exact HB.out)⟩⟩
    case rest =>
      clear HC7
      try clear c1
      try clear c2
      try clear p2
      try clear c4
      try clear c4b0
      try clear c4b1
      try clear c6
      try clear c11
      try clear c15
      try clear c20
      try clear c21
      try clear c23
      try clear c24
      try clear c25
      try clear hcz10_0
      try clear hcz10_1
      try clear hcz10_2
      try clear hcz16_0
      try clear hcz16_1
      try clear hcz16_2
      try clear hcz22_0
      try clear hcz22_1
      try clear hcz22_2
      try clear hcz23_0
      try clear hcz23_1
      try clear hcz23_2
      try clear hcz26_0
      try clear hcz26_1
      try clear hcz26_2
      try clear hcz27_0
      try clear hcz27_1
      try clear hcz27_2
      try clear hfz10_0
      try clear hfz10_1
      try clear hfz10_2
      try clear hfz16_0
      try clear hfz16_1
      try clear hfz16_2
      try clear hfz22_0
      try clear hfz22_1
      try clear hfz22_2
      try clear hfz23_0
      try clear hfz23_1
      try clear hfz23_2
      try clear hfz26_0
      try clear hfz26_1
      try clear hfz26_2
      try clear hfz27_0
      try clear hfz27_1
      try clear hfz27_2
      obtain ⟨kq, x40_6, rfl, HA, HJ6, HO_332001, HO_332002, HO_341001, HO_341002, BK331, BK340, HB⟩ := hcut
      cases kq with
      | zero => exact absurd HA.out (by simp [laws_FnExactSignText.j0])
      | succ kj6 =>
        have H := HA.out
        clear HA
        simp only [laws_FnExactSignText.j0] at H
        by_cases c29 : x40_6 = true
        · subst c29
          have H1 : (some false) = some r := by rw [if_pos rfl] at H; exact H
          exact absurd ((Option.some.inj H1).trans HRT.out) (by decide)
        · replace c29 := Bool.eq_false_iff.mpr c29
          subst c29
          have H1 : ((laws_markSignature.f kj6 t332 t333 t336 1).bind fun bt342 => ((laws_heldSignature.f kj6 t332 bt342.2.1 bt342.2.2 1).bind fun t345 => (if t345 < 0 then (some false) else (if t345 = bt342.1 then ((impl_SignText.f kj6 a0 a1 a2).bind fun bt346 => ((laws_eqSignature.f kj6 bt346.1 bt346.2.1 bt346.2.2.1 t323 t324 t327).bind fun t355 => (if t355 = true then (laws_FnExactSignText.j1 kj6 bt342.1 (bt346.2.2.2 != t330) t332 bt342.2.1 bt342.2.2) else (laws_FnExactSignText.j1 kj6 bt342.1 true t332 bt342.2.1 bt342.2.2)))) else (some false))))) = some r := by rw [if_neg (show ¬ (false = true) by decide)] at H; exact H
          clear H
          have H := H1
          clear H1
          replace H := Option.bind_eq_some_iff.mp H
          obtain ⟨⟨t342, t343, t344⟩, A300, H⟩ := H
          replace H : ((laws_heldSignature.f kj6 t332 t343 t344 1).bind fun t345 => (if t345 < 0 then (some false) else (if t345 = t342 then ((impl_SignText.f kj6 a0 a1 a2).bind fun bt346 => ((laws_eqSignature.f kj6 bt346.1 bt346.2.1 bt346.2.2.1 t323 t324 t327).bind fun t355 => (if t355 = true then (laws_FnExactSignText.j1 kj6 t342 (bt346.2.2.2 != t330) t332 t343 t344) else (laws_FnExactSignText.j1 kj6 t342 true t332 t343 t344)))) else (some false)))) = some r := H
          have A30 := Aside0.mk A300
          clear A300
          replace H := Option.bind_eq_some_iff.mp H
          obtain ⟨t345, A310, H⟩ := H
          replace H : (if t345 < 0 then (some false) else (if t345 = t342 then ((impl_SignText.f kj6 a0 a1 a2).bind fun bt346 => ((laws_eqSignature.f kj6 bt346.1 bt346.2.1 bt346.2.2.1 t323 t324 t327).bind fun t355 => (if t355 = true then (laws_FnExactSignText.j1 kj6 t342 (bt346.2.2.2 != t330) t332 t343 t344) else (laws_FnExactSignText.j1 kj6 t342 true t332 t343 t344)))) else (some false))) = some r := H
          have A31 := Aside0.mk A310
          clear A310
          by_cases c32 : t345 < 0
          · rw [if_pos c32] at H
            exact absurd ((Option.some.inj H).trans HRT.out) (by decide)
          · rw [if_neg c32] at H
            have c32b0 : decide (t345 < 0) = false := decide_eq_false c32
            clear c32
            by_cases c38 : t345 = t342
            · rw [if_pos c38] at H
              have c38b0 : (t345 == t342) = true := beq_iff_eq.mpr c38
              have c38b1 : (t345 != t342) = false := bne_eq_false_iff_eq.mpr c38
              clear c38
              replace H := Option.bind_eq_some_iff.mp H
              obtain ⟨⟨t346, t347, t350, t353⟩, A390, H⟩ := H
              replace H : ((laws_eqSignature.f kj6 t346 t347 t350 t323 t324 t327).bind fun t355 => (if t355 = true then (laws_FnExactSignText.j1 kj6 t342 (t353 != t330) t332 t343 t344) else (laws_FnExactSignText.j1 kj6 t342 true t332 t343 t344))) = some r := H
              have A39 := Aside0.mk A390
              clear A390
              have HC40 := Aside0.mk H
              clear H
              have hnb41 := NB340_331.out
              have hnc41 := NB331_340.out
              have hcz42_0 : wc.cell? ⟨gb340, 0, none⟩ = some (.int .i64 t332) := (blk_cell BK340.out 0).trans rfl
              have hcz42_1 : wc.cell? ⟨gb340, 1, none⟩ = some (.slice Ao17 t333.length co17) := (blk_cell BK340.out 1).trans rfl
              have hcz42_2 : wc.cell? ⟨gb340, 2, none⟩ = some (.slice Ao18 t336.length co18) := (blk_cell BK340.out 2).trans rfl
              have hfz42_0 := blk_frozen BK340.out 0
              have hfz42_1 := blk_frozen BK340.out 1
              have hfz42_2 := blk_frozen BK340.out 2
              go_upto_region 16 with (first | ((with_reducible refine gate_callee (f := 25) rfl ?_); refine goesL_ (some 43) rfl rfl Try.func25 (by kernel_rfl) rfl #[.agg #[.int .i64 t332, .slice Ao17 t333.length co17, .slice Ao18 t336.length co18], .int .i64 1] rfl (by (try simp only [List.map_toArray, List.map_cons, List.map_nil]); first | done | rfl | (simp only [List.length_drop, List.length_take]; rfl)) ?_; (with_reducible refine (laws_markSignature.calls kj6 t332 (fun k_ => some k_ = (.slice Ao17 t333.length co17 : Value).ownBlock) (.slice Ao17 t333.length co17) t333 (fun k_ => some k_ = (.slice Ao18 t336.length co18 : Value).ownBlock) (.slice Ao18 t336.length co18) t336 1 t342 t343 t344 w _ ?side1 ?side2 ?side3 ?side4 ?side5 A30.out).mono ?_); (case side1 => repeat (first | (with_reducible first | exact HB.out | apply below_alloc | apply pw_below_drewN | apply below_drew1 | refine below_set ?_ GE331.out | refine below_set ?_ GE340.out) | exact HB.out)); (case side2 => exact Kd.R_tight rfl HO_341001.out); (case side3 => exact fun k_ e_ => (HO_341001.out.1 k_ e_.symm).2.2); (case side4 => exact Kd.R_tight rfl HO_341002.out); (case side5 => exact fun k_ e_ => (HO_341002.out.1 k_ e_.symm).2.2); rintro e w43 ⟨rfl, hy0, hy1, hb, hkp⟩; refine ⟨_, rfl, ?_⟩; have n0_ := Aside0.mk (Kd.R_mono (ok' := fun k_ => some k_ ≠ (.slice Ao12 t327.length co12 : Value).ownBlock ∧ some k_ ≠ (.slice Ao17 t333.length co17 : Value).ownBlock ∧ some k_ ≠ (.slice Ao18 t336.length co18 : Value).ownBlock) (Kd.R_keptB (HO_332001.out) hkp (fun k_ hk_ hs_ => Or.elim hs_ (fun e_ => (hk_.2.1) e_) (fun e_ => (hk_.2.2) e_))) (fun k_ hk_ => ⟨hk_.1.1, hk_.1.2.1, hk_.1.2.2⟩)); have n1_ := Aside0.mk (Kd.R_mono (ok' := fun k_ => some k_ ≠ (.slice Ao11 t324.length co11 : Value).ownBlock ∧ some k_ ≠ (.slice Ao17 t333.length co17 : Value).ownBlock ∧ some k_ ≠ (.slice Ao18 t336.length co18 : Value).ownBlock) (Kd.R_keptB (HO_332002.out) hkp (fun k_ hk_ hs_ => Or.elim hs_ (fun e_ => (hk_.2.1) e_) (fun e_ => (hk_.2.2) e_))) (fun k_ hk_ => ⟨hk_.1.1, hk_.1.2.1, hk_.1.2.2⟩)); have n2_ := Aside0.mk (Kd.R_reok rfl hy0 (fun k_ e_ => HO_341001.out.1 k_ e_)); have n3_ := Aside0.mk (Kd.R_reok rfl hy1 (fun k_ e_ => HO_341002.out.1 k_ e_)); have n4_ := Aside0.mk (blk_kept (by (with_reducible repeat (first | refine blk_drewN ?_ _ | refine blk_drew ?_ | refine blk_alloc ?_ _)); exact BK331.out) hkp (fun hs_ => Or.elim hs_ (fun e_ => (fun e_ => (Kd.R_ne HO_341001.out BK331.out (by decide)) e_) e_) (fun e_ => (fun e_ => (Kd.R_ne HO_341002.out BK331.out (by decide)) e_) e_))); have n5_ := Aside0.mk (blk_kept (by (with_reducible repeat (first | refine blk_drewN ?_ _ | refine blk_drew ?_ | refine blk_alloc ?_ _)); exact BK340.out) hkp (fun hs_ => Or.elim hs_ (fun e_ => (fun e_ => (Kd.R_ne HO_341001.out BK340.out (by decide)) e_) e_) (fun e_ => (fun e_ => (Kd.R_ne HO_341002.out BK340.out (by decide)) e_) e_))); have n6_ := Aside0.mk (hb); clear HO_332001; clear HO_332002; clear HO_341001; clear HO_341002; clear BK331; clear BK340; clear HB; have HO_332001 := n0_; have HO_332002 := n1_; have HO_341001 := n2_; have HO_341002 := n3_; have BK331 := n4_; have BK340 := n5_; have HB := n6_; clear n0_ n1_ n2_ n3_ n4_ n5_ n6_; (try clear hb); (try clear hkp); (try clear hy0); (try clear hy1); have hcz44_0 : w43.cell? ⟨gb340, 0, none⟩ = some (.int .i64 t332) := (blk_cell BK340.out 0).trans rfl; have hcz44_1 : w43.cell? ⟨gb340, 1, none⟩ = some (.slice Ao17 t333.length co17) := (blk_cell BK340.out 1).trans rfl; have hcz44_2 : w43.cell? ⟨gb340, 2, none⟩ = some (.slice Ao18 t336.length co18) := (blk_cell BK340.out 2).trans rfl; have hfz44_0 := blk_frozen BK340.out 0; have hfz44_1 := blk_frozen BK340.out 1; have hfz44_2 := blk_frozen BK340.out 2) | ((with_reducible refine gate_callee (f := 26) rfl ?_); refine goesL_ (some 46) rfl rfl Try.func26 (by kernel_rfl) rfl #[.agg #[.int .i64 t332, .slice Ao17 t343.length co17, .slice Ao18 t344.length co18], .int .i64 1] rfl (by (try simp only [List.map_toArray, List.map_cons, List.map_nil]); first | done | (rw [show t343.length = t333.length from (Kd.R_reads' HO_341001.out).1.symm, show t344.length = t336.length from (Kd.R_reads' HO_341002.out).1.symm] <;> rfl) | rfl | (simp only [List.length_drop, List.length_take]; rfl)) ?_; (with_reducible refine (laws_heldSignature.calls kj6 t332 _ _ t343 _ _ t344 1 t345 _ ?side1 ?side2 ?side3 ?side4 A31.out).mono ?_); (case side1 => repeat (first | exact (Kd.R_reads' HO_341001.out).2.2 | (with_reducible refine Kd.C_alloc ?_ _) | (with_reducible refine Kd.C_drewN ?_ _) | (with_reducible refine Kd.C_drew ?_))); (case side2 => rw [show t343.length = t333.length from (Kd.R_reads' HO_341001.out).1.symm]; exact (Kd.R_reads' HO_341001.out).2.1); (case side3 => repeat (first | exact (Kd.R_reads' HO_341002.out).2.2 | (with_reducible refine Kd.C_alloc ?_ _) | (with_reducible refine Kd.C_drewN ?_ _) | (with_reducible refine Kd.C_drew ?_))); (case side4 => rw [show t344.length = t336.length from (Kd.R_reads' HO_341002.out).1.symm]; exact (Kd.R_reads' HO_341002.out).2.1); rintro e w45 ⟨rfl, hb⟩; refine ⟨_, rfl, ?_⟩; have n0_ := Aside0.mk (Kd.R_below (by (with_reducible repeat (first | apply Kd.R_alloc | apply Kd.R_drewN | apply Kd.R_drew)); exact HO_332001.out) hb); have n1_ := Aside0.mk (Kd.R_below (by (with_reducible repeat (first | apply Kd.R_alloc | apply Kd.R_drewN | apply Kd.R_drew)); exact HO_332002.out) hb); have n2_ := Aside0.mk (Kd.R_below (by (with_reducible repeat (first | apply Kd.R_alloc | apply Kd.R_drewN | apply Kd.R_drew)); exact HO_341001.out) hb); have n3_ := Aside0.mk (Kd.R_below (by (with_reducible repeat (first | apply Kd.R_alloc | apply Kd.R_drewN | apply Kd.R_drew)); exact HO_341002.out) hb); have n4_ := Aside0.mk (blk_below (g := gb331) (o := .cells #[.int .i64 t323, .slice Ao11 t324.length co11, .slice Ao12 t327.length co12] 29 (0, 0)) (by (with_reducible repeat (first | refine blk_drewN ?_ _ | refine blk_drew ?_ | refine blk_alloc ?_ _)); exact BK331.out) hb); have n5_ := Aside0.mk (blk_below (g := gb340) (o := .cells #[.int .i64 t332, .slice Ao17 t333.length co17, .slice Ao18 t336.length co18] 29 (0, 0)) (by (with_reducible repeat (first | refine blk_drewN ?_ _ | refine blk_drew ?_ | refine blk_alloc ?_ _)); exact BK340.out) hb); have n6_ := Aside0.mk (below_step (by repeat (first | (with_reducible first | exact HB.out | apply below_alloc | apply pw_below_drewN | apply below_drew1 | refine below_set ?_ GE331.out | refine below_set ?_ GE340.out) | exact HB.out)) hb); clear HO_332001; clear HO_332002; clear HO_341001; clear HO_341002; clear BK331; clear BK340; clear HB; have HO_332001 := n0_; have HO_332002 := n1_; have HO_341001 := n2_; have HO_341002 := n3_; have BK331 := n4_; have BK340 := n5_; have HB := n6_; clear n0_ n1_ n2_ n3_ n4_ n5_ n6_; (try clear hb); (try clear hb2); (try clear hk); (try clear hi)) | ((with_reducible refine gate_callee (f := 11) rfl ?_); refine goesL_ (some 56) rfl rfl Try.func11 (by kernel_rfl) rfl #[.int .i64 a0, .int .i64 a1, .string a2] rfl (by (try simp only [List.map_toArray, List.map_cons, List.map_nil]); first | done | rfl | (simp only [List.length_drop, List.length_take]; rfl)) ?_; (with_reducible refine (impl_SignText.calls kj6 a0 a1 a2 t346 t347 t350 t353 _ A39.out).mono ?_); rintro e w46 ⟨v348, v351, rfl, ho0, ho1, hb⟩; refine ⟨_, rfl, ?_⟩; have n0_ := Aside0.mk (Kd.R_mono (Kd.R_told (Kd.R_told (Kd.R_old (by (with_reducible repeat (first | apply Kd.R_alloc | apply Kd.R_drewN | apply Kd.R_drew)); exact HO_332001.out) hb) (Kd.R_base ho0)) (Kd.R_base ho1)) (fun _ h_ => h_.1)); have n1_ := Aside0.mk (Kd.R_mono (Kd.R_told (Kd.R_told (Kd.R_old (by (with_reducible repeat (first | apply Kd.R_alloc | apply Kd.R_drewN | apply Kd.R_drew)); exact HO_332002.out) hb) (Kd.R_base ho0)) (Kd.R_base ho1)) (fun _ h_ => h_.1)); have n2_ := Aside0.mk (Kd.R_mono (Kd.R_told (Kd.R_told (Kd.R_old (by (with_reducible repeat (first | apply Kd.R_alloc | apply Kd.R_drewN | apply Kd.R_drew)); exact HO_341001.out) hb) (Kd.R_base ho0)) (Kd.R_base ho1)) (fun _ h_ => h_.1)); have n3_ := Aside0.mk (Kd.R_mono (Kd.R_told (Kd.R_told (Kd.R_old (by (with_reducible repeat (first | apply Kd.R_alloc | apply Kd.R_drewN | apply Kd.R_drew)); exact HO_341002.out) hb) (Kd.R_base ho0)) (Kd.R_base ho1)) (fun _ h_ => h_.1)); have n4_ := Aside0.mk (Kd.R_lower (Kd.R_new' (Kd.R_new' (Kd.R_new' (Kd.R_new' ho0 (Kd.R_lt (by (with_reducible repeat (first | apply Kd.R_alloc | apply Kd.R_drewN | apply Kd.R_drew)); exact HO_332001.out))) (Kd.R_lt (by (with_reducible repeat (first | apply Kd.R_alloc | apply Kd.R_drewN | apply Kd.R_drew)); exact HO_332002.out))) (Kd.R_lt (by (with_reducible repeat (first | apply Kd.R_alloc | apply Kd.R_drewN | apply Kd.R_drew)); exact HO_341001.out))) (Kd.R_lt (by (with_reducible repeat (first | apply Kd.R_alloc | apply Kd.R_drewN | apply Kd.R_drew)); exact HO_341002.out))) (below_size (by repeat (first | (with_reducible first | exact HB.out | apply below_alloc | apply pw_below_drewN | apply below_drew1 | refine below_set ?_ GE331.out | refine below_set ?_ GE340.out) | exact HB.out)))); have n5_ := Aside0.mk (Kd.R_lower (Kd.R_new' (Kd.R_new' (Kd.R_new' (Kd.R_new' ho1 (Kd.R_lt (by (with_reducible repeat (first | apply Kd.R_alloc | apply Kd.R_drewN | apply Kd.R_drew)); exact HO_332001.out))) (Kd.R_lt (by (with_reducible repeat (first | apply Kd.R_alloc | apply Kd.R_drewN | apply Kd.R_drew)); exact HO_332002.out))) (Kd.R_lt (by (with_reducible repeat (first | apply Kd.R_alloc | apply Kd.R_drewN | apply Kd.R_drew)); exact HO_341001.out))) (Kd.R_lt (by (with_reducible repeat (first | apply Kd.R_alloc | apply Kd.R_drewN | apply Kd.R_drew)); exact HO_341002.out))) (below_size (by repeat (first | (with_reducible first | exact HB.out | apply below_alloc | apply pw_below_drewN | apply below_drew1 | refine below_set ?_ GE331.out | refine below_set ?_ GE340.out) | exact HB.out)))); have n6_ := Aside0.mk (blk_below (g := gb331) (o := .cells #[.int .i64 t323, .slice Ao11 t324.length co11, .slice Ao12 t327.length co12] 29 (0, 0)) (by (with_reducible repeat (first | refine blk_drewN ?_ _ | refine blk_drew ?_ | refine blk_alloc ?_ _)); exact BK331.out) hb); have n7_ := Aside0.mk (blk_below (g := gb340) (o := .cells #[.int .i64 t332, .slice Ao17 t333.length co17, .slice Ao18 t336.length co18] 29 (0, 0)) (by (with_reducible repeat (first | refine blk_drewN ?_ _ | refine blk_drew ?_ | refine blk_alloc ?_ _)); exact BK340.out) hb); have n8_ := Aside0.mk (below_step (by repeat (first | (with_reducible first | exact HB.out | apply below_alloc | apply pw_below_drewN | apply below_drew1 | refine below_set ?_ GE331.out | refine below_set ?_ GE340.out) | exact HB.out)) hb); clear HO_332001; clear HO_332002; clear HO_341001; clear HO_341002; clear BK331; clear BK340; clear HB; have HO_332001 := n0_; have HO_332002 := n1_; have HO_341001 := n2_; have HO_341002 := n3_; have HO349 := n4_; have HO352 := n5_; have BK331 := n6_; have BK340 := n7_; have HB := n8_; clear n0_ n1_ n2_ n3_ n4_ n5_ n6_ n7_ n8_; (try clear hb); (try clear hb2); (try clear hk); (try clear hi); (try clear ho0); (try clear ho1)) | ((with_reducible refine gate_dst (N := 13) rfl ?_); refine box_event ?hg (N := 13) ?hd (cs := #[.int .i64 0, .slice none 0 0, .slice none 0 0]) (t := 29) ?hr ?_; (case hd => rfl); (case hg => rfl); (case hr => first | (go_simp; done) | (go_simp; rfl)); intro gb354 hg w47 hbox hb; have n0_ := Aside0.mk (Kd.R_below (by (with_reducible repeat (first | apply Kd.R_alloc | apply Kd.R_drewN | apply Kd.R_drew)); exact HO_332001.out) hb); have n1_ := Aside0.mk (Kd.R_below (by (with_reducible repeat (first | apply Kd.R_alloc | apply Kd.R_drewN | apply Kd.R_drew)); exact HO_332002.out) hb); have n2_ := Aside0.mk (Kd.R_below (by (with_reducible repeat (first | apply Kd.R_alloc | apply Kd.R_drewN | apply Kd.R_drew)); exact HO_341001.out) hb); have n3_ := Aside0.mk (Kd.R_below (by (with_reducible repeat (first | apply Kd.R_alloc | apply Kd.R_drewN | apply Kd.R_drew)); exact HO_341002.out) hb); have n4_ := Aside0.mk (Kd.R_below (by (with_reducible repeat (first | apply Kd.R_alloc | apply Kd.R_drewN | apply Kd.R_drew)); exact HO349.out) hb); have n5_ := Aside0.mk (Kd.R_below (by (with_reducible repeat (first | apply Kd.R_alloc | apply Kd.R_drewN | apply Kd.R_drew)); exact HO352.out) hb); have n6_ := Aside0.mk (blk_below (g := gb331) (o := .cells #[.int .i64 t323, .slice Ao11 t324.length co11, .slice Ao12 t327.length co12] 29 (0, 0)) (by (with_reducible repeat (first | refine blk_drewN ?_ _ | refine blk_drew ?_ | refine blk_alloc ?_ _)); exact BK331.out) hb); have n7_ := Aside0.mk (blk_below (g := gb340) (o := .cells #[.int .i64 t332, .slice Ao17 t333.length co17, .slice Ao18 t336.length co18] 29 (0, 0)) (by (with_reducible repeat (first | refine blk_drewN ?_ _ | refine blk_drew ?_ | refine blk_alloc ?_ _)); exact BK340.out) hb); have n8_ := Aside0.mk (below_step (by repeat (first | (with_reducible first | exact HB.out | apply below_alloc | apply pw_below_drewN | apply below_drew1 | refine below_set ?_ GE331.out | refine below_set ?_ GE340.out) | exact HB.out)) hb); have n9_ := Aside0.mk (hbox); have n10_ := Aside0.mk ((by rw [hg]; exact (below_size (by repeat (first | (with_reducible first | exact HB.out | apply below_alloc | apply pw_below_drewN | apply below_drew1 | refine below_set ?_ GE331.out | refine below_set ?_ GE340.out) | exact HB.out))) : w.heap.size ≤ gb354)); have n11_ := Aside0.mk ((by rw [hg]; exact (below_size (by repeat (first | (with_reducible first | exact HB.out | apply below_alloc | apply pw_below_drewN | apply below_drew1 | refine below_set ?_ GE331.out | refine below_set ?_ GE340.out) | exact HB.out))) : w.heap.size ≤ gb354)); have n12_ := Aside0.mk ((by rw [hg]; exact Nat.ne_of_lt (blk_lt (g := gb331) (o := .cells #[.int .i64 t323, .slice Ao11 t324.length co11, .slice Ao12 t327.length co12] 29 (0, 0)) (by (with_reducible repeat (first | refine blk_drewN ?_ _ | refine blk_drew ?_ | refine blk_alloc ?_ _)); exact BK331.out)) : gb331 ≠ gb354)); have n13_ := Aside0.mk ((by rw [hg]; exact Nat.ne_of_gt (blk_lt (g := gb331) (o := .cells #[.int .i64 t323, .slice Ao11 t324.length co11, .slice Ao12 t327.length co12] 29 (0, 0)) (by (with_reducible repeat (first | refine blk_drewN ?_ _ | refine blk_drew ?_ | refine blk_alloc ?_ _)); exact BK331.out)) : gb354 ≠ gb331)); have n14_ := Aside0.mk ((by rw [hg]; exact Nat.ne_of_lt (blk_lt (g := gb340) (o := .cells #[.int .i64 t332, .slice Ao17 t333.length co17, .slice Ao18 t336.length co18] 29 (0, 0)) (by (with_reducible repeat (first | refine blk_drewN ?_ _ | refine blk_drew ?_ | refine blk_alloc ?_ _)); exact BK340.out)) : gb340 ≠ gb354)); have n15_ := Aside0.mk ((by rw [hg]; exact Nat.ne_of_gt (blk_lt (g := gb340) (o := .cells #[.int .i64 t332, .slice Ao17 t333.length co17, .slice Ao18 t336.length co18] 29 (0, 0)) (by (with_reducible repeat (first | refine blk_drewN ?_ _ | refine blk_drew ?_ | refine blk_alloc ?_ _)); exact BK340.out)) : gb354 ≠ gb340)); clear HO_332001; clear HO_332002; clear HO_341001; clear HO_341002; clear HO349; clear HO352; clear BK331; clear BK340; clear HB; have HO_332001 := n0_; have HO_332002 := n1_; have HO_341001 := n2_; have HO_341002 := n3_; have HO349 := n4_; have HO352 := n5_; have BK331 := n6_; have BK340 := n7_; have HB := n8_; have BK354 := n9_; have GW354 := n10_; have GE354 := n11_; have NB331_354 := n12_; have NB354_331 := n13_; have NB340_354 := n14_; have NB354_340 := n15_; clear n0_ n1_ n2_ n3_ n4_ n5_ n6_ n7_ n8_ n9_ n10_ n11_ n12_ n13_ n14_ n15_; clear hb hbox hg; have hnb48 := NB354_331.out; have hnc48 := NB331_354.out; have hnb49 := NB354_340.out; have hnc49 := NB340_354.out; have hcz50_0 : w47.cell? ⟨gb354, 0, none⟩ = some (.int .i64 0) := (blk_cell BK354.out 0).trans rfl; have hcz50_1 : w47.cell? ⟨gb354, 1, none⟩ = some (.slice none 0 0) := (blk_cell BK354.out 1).trans rfl; have hcz50_2 : w47.cell? ⟨gb354, 2, none⟩ = some (.slice none 0 0) := (blk_cell BK354.out 2).trans rfl; have hfz50_0 := blk_frozen BK354.out 0; have hfz50_1 := blk_frozen BK354.out 1; have hfz50_2 := blk_frozen BK354.out 2; obtain ⟨Ao51, co51, eo51⟩ := Kd.R_slice HO349.out; subst eo51; obtain ⟨Ao52, co52, eo52⟩ := Kd.R_slice HO352.out; subst eo52))
              (try simp only [Act.put, List.setIfInBounds_toArray, List.set_cons_zero, List.set_cons_succ])
              go_cut [67] (fun v67 wc => ∃ (kq : Nat) (x67_39 : Bool), v67 = .bool x67_39 ∧ Aside0 (laws_FnExactSignText.j1 kq t342 x67_39 t332 t343 t344 = some r) ∧ Aside0 (kq ≤ kj6) ∧ Aside0 (Kd.R Kd.string 9 wc w.heap.size (fun k_ => some k_ ≠ ((.slice Ao12 t327.length co12) : Value).ownBlock ∧ some k_ ≠ ((.slice Ao17 t333.length co17) : Value).ownBlock ∧ some k_ ≠ ((.slice Ao18 t336.length co18) : Value).ownBlock ∧ some k_ ≠ ((.slice Ao51 t347.length co51) : Value).ownBlock ∧ some k_ ≠ ((.slice Ao52 t350.length co52) : Value).ownBlock) (.slice Ao11 t324.length co11) t324) ∧ Aside0 (Kd.R Kd.string 9 wc w.heap.size (fun k_ => some k_ ≠ ((.slice Ao11 t324.length co11) : Value).ownBlock ∧ some k_ ≠ ((.slice Ao17 t333.length co17) : Value).ownBlock ∧ some k_ ≠ ((.slice Ao18 t336.length co18) : Value).ownBlock ∧ some k_ ≠ ((.slice Ao51 t347.length co51) : Value).ownBlock ∧ some k_ ≠ ((.slice Ao52 t350.length co52) : Value).ownBlock) (.slice Ao12 t327.length co12) t327) ∧ Aside0 (Kd.R Kd.string 9 wc w.heap.size (fun k_ => some k_ ≠ ((.slice Ao11 t324.length co11) : Value).ownBlock ∧ some k_ ≠ ((.slice Ao12 t327.length co12) : Value).ownBlock ∧ some k_ ≠ ((.slice Ao18 t336.length co18) : Value).ownBlock ∧ some k_ ≠ ((.slice Ao51 t347.length co51) : Value).ownBlock ∧ some k_ ≠ ((.slice Ao52 t350.length co52) : Value).ownBlock) (.slice Ao17 t333.length co17) t343) ∧ Aside0 (Kd.R Kd.string 9 wc w.heap.size (fun k_ => some k_ ≠ ((.slice Ao11 t324.length co11) : Value).ownBlock ∧ some k_ ≠ ((.slice Ao12 t327.length co12) : Value).ownBlock ∧ some k_ ≠ ((.slice Ao17 t333.length co17) : Value).ownBlock ∧ some k_ ≠ ((.slice Ao51 t347.length co51) : Value).ownBlock ∧ some k_ ≠ ((.slice Ao52 t350.length co52) : Value).ownBlock) (.slice Ao18 t336.length co18) t344) ∧ Aside0 (Kd.R Kd.string 9 wc w.heap.size (fun k_ => some k_ ≠ ((.slice Ao11 t324.length co11) : Value).ownBlock ∧ some k_ ≠ ((.slice Ao12 t327.length co12) : Value).ownBlock ∧ some k_ ≠ ((.slice Ao17 t333.length co17) : Value).ownBlock ∧ some k_ ≠ ((.slice Ao18 t336.length co18) : Value).ownBlock ∧ some k_ ≠ ((.slice Ao52 t350.length co52) : Value).ownBlock) (.slice Ao51 t347.length co51) t347) ∧ Aside0 (Kd.R Kd.string 9 wc w.heap.size (fun k_ => some k_ ≠ ((.slice Ao11 t324.length co11) : Value).ownBlock ∧ some k_ ≠ ((.slice Ao12 t327.length co12) : Value).ownBlock ∧ some k_ ≠ ((.slice Ao17 t333.length co17) : Value).ownBlock ∧ some k_ ≠ ((.slice Ao18 t336.length co18) : Value).ownBlock ∧ some k_ ≠ ((.slice Ao51 t347.length co51) : Value).ownBlock) (.slice Ao52 t350.length co52) t350) ∧ Aside0 (wc.heap[gb331]? = some (.cells #[.int .i64 t323, (.slice Ao11 t324.length co11), (.slice Ao12 t327.length co12)] 29 (0, 0))) ∧ Aside0 (wc.heap[gb340]? = some (.cells #[.int .i64 t332, (.slice Ao17 t333.length co17), (.slice Ao18 t336.length co18)] 29 (0, 0))) ∧ Aside0 (wc.heap[gb354]? = some (.cells #[.int .i64 t346, (.slice Ao51 t347.length co51), (.slice Ao52 t350.length co52)] 29 (0, 0))) ∧ Aside0 (Below w.heap.size w wc))
              case first =>
                have H := HC40.out
                clear HC40
                replace H := Option.bind_eq_some_iff.mp H
                obtain ⟨t355, A530, H⟩ := H
                replace H : (if t355 = true then (laws_FnExactSignText.j1 kj6 t342 (t353 != t330) t332 t343 t344) else (laws_FnExactSignText.j1 kj6 t342 true t332 t343 t344)) = some r := H
                have A53 := Aside0.mk A530
                clear A530
                by_cases c54 : t355 = true
                · subst c54
                  have H1 : (laws_FnExactSignText.j1 kj6 t342 (t353 != t330) t332 t343 t344) = some r := by rw [if_pos rfl] at H; exact H
                  clear H
                  have H := H1
                  clear H1
                  have H' := Aside0.mk H
                  clear H
                  have hnb55 := NB354_331.out
                  have hnc55 := NB331_354.out
                  have hnb56 := NB354_340.out
                  have hnc56 := NB340_354.out
                  have hcz57_0 : w47.cell? ⟨gb354, 0, none⟩ = some (.int .i64 0) := (blk_cell BK354.out 0).trans rfl
                  have hcz57_1 : w47.cell? ⟨gb354, 1, none⟩ = some (.slice none 0 0) := (blk_cell BK354.out 1).trans rfl
                  have hcz57_2 : w47.cell? ⟨gb354, 2, none⟩ = some (.slice none 0 0) := (blk_cell BK354.out 2).trans rfl
                  have hfz57_0 := blk_frozen BK354.out 0
                  have hfz57_1 := blk_frozen BK354.out 1
                  have hfz57_2 := blk_frozen BK354.out 2
                  have hnb58 := NB331_340.out
                  have hnc58 := NB340_331.out
                  have hcz59_0 : w47.cell? ⟨gb331, 0, none⟩ = some (.int .i64 t323) := (blk_cell BK331.out 0).trans rfl
                  have hcz59_1 : w47.cell? ⟨gb331, 1, none⟩ = some (.slice Ao11 t324.length co11) := (blk_cell BK331.out 1).trans rfl
                  have hcz59_2 : w47.cell? ⟨gb331, 2, none⟩ = some (.slice Ao12 t327.length co12) := (blk_cell BK331.out 2).trans rfl
                  have hfz59_0 := blk_frozen BK331.out 0
                  have hfz59_1 := blk_frozen BK331.out 1
                  have hfz59_2 := blk_frozen BK331.out 2
                  go_wp2_with (first | ((with_reducible refine gate_callee (f := 23) rfl ?_); refine goesL_ (some 61) rfl rfl Try.func23 (by kernel_rfl) rfl #[.agg #[.int .i64 t346, .slice Ao51 t347.length co51, .slice Ao52 t350.length co52], .agg #[.int .i64 t323, .slice Ao11 t324.length co11, .slice Ao12 t327.length co12]] rfl (by (try simp only [List.map_toArray, List.map_cons, List.map_nil]); first | done | rfl | (simp only [List.length_drop, List.length_take]; rfl)) ?_; (with_reducible refine (laws_eqSignature.calls kj6 t346 _ _ t347 _ _ t350 t323 _ _ t324 _ _ t327 true _ ?side1 ?side2 ?side3 ?side4 ?side5 ?side6 ?side7 ?side8 A53.out).mono ?_); (case side1 => refine (Kd.R_reads' (e := 9) (base := w.heap.size) (ok := fun k_ => ((((some k_ ≠ (.slice Ao52 t350.length co52 : Value).ownBlock ∧ some k_ ≠ (.slice Ao11 t324.length co11 : Value).ownBlock) ∧ some k_ ≠ (.slice Ao12 t327.length co12 : Value).ownBlock) ∧ some k_ ≠ (.slice Ao17 t333.length co17 : Value).ownBlock) ∧ some k_ ≠ (.slice Ao18 t336.length co18 : Value).ownBlock)) (n := t347.length) (c := co51) ?_).2.2; exact (by (with_reducible repeat (first | apply Kd.R_alloc | apply Kd.R_drewN | apply Kd.R_drew)); exact (Kd.R_mono (Kd.R_far (p := ⟨gb354, 2, none⟩) (Kd.R_far (p := ⟨gb354, 1, none⟩) (Kd.R_far (p := ⟨gb354, 0, none⟩) (Kd.R_types HO349.out BK354.out (by decide)) (fun _ hk => hk.2) (.int .i64 t346)) (fun _ hk => hk.2) (.slice Ao51 t347.length co51)) (fun _ hk => hk.2) (.slice Ao52 t350.length co52)) (fun _ h_ => h_.1)))); (case side2 => exact (Kd.R_reads' HO349.out).2.1); (case side3 => refine (Kd.R_reads' (e := 9) (base := w.heap.size) (ok := fun k_ => ((((some k_ ≠ (.slice Ao51 t347.length co51 : Value).ownBlock ∧ some k_ ≠ (.slice Ao11 t324.length co11 : Value).ownBlock) ∧ some k_ ≠ (.slice Ao12 t327.length co12 : Value).ownBlock) ∧ some k_ ≠ (.slice Ao17 t333.length co17 : Value).ownBlock) ∧ some k_ ≠ (.slice Ao18 t336.length co18 : Value).ownBlock)) (n := t350.length) (c := co52) ?_).2.2; exact (by (with_reducible repeat (first | apply Kd.R_alloc | apply Kd.R_drewN | apply Kd.R_drew)); exact (Kd.R_mono (Kd.R_far (p := ⟨gb354, 2, none⟩) (Kd.R_far (p := ⟨gb354, 1, none⟩) (Kd.R_far (p := ⟨gb354, 0, none⟩) (Kd.R_types HO352.out BK354.out (by decide)) (fun _ hk => hk.2) (.int .i64 t346)) (fun _ hk => hk.2) (.slice Ao51 t347.length co51)) (fun _ hk => hk.2) (.slice Ao52 t350.length co52)) (fun _ h_ => h_.1)))); (case side4 => exact (Kd.R_reads' HO352.out).2.1); (case side5 => refine (Kd.R_reads' (e := 9) (base := w.heap.size) (ok := fun k_ => (((some k_ ≠ (.slice Ao12 t327.length co12 : Value).ownBlock ∧ (some k_ ≠ (.slice Ao17 t333.length co17 : Value).ownBlock ∧ some k_ ≠ (.slice Ao18 t336.length co18 : Value).ownBlock)) ∧ some k_ ≠ (.slice Ao51 t347.length co51 : Value).ownBlock) ∧ some k_ ≠ (.slice Ao52 t350.length co52 : Value).ownBlock)) (n := t324.length) (c := co11) ?_).2.2; exact (by (with_reducible repeat (first | apply Kd.R_alloc | apply Kd.R_drewN | apply Kd.R_drew)); exact (Kd.R_mono (Kd.R_far (p := ⟨gb354, 2, none⟩) (Kd.R_far (p := ⟨gb354, 1, none⟩) (Kd.R_far (p := ⟨gb354, 0, none⟩) (Kd.R_types HO_332001.out BK354.out (by decide)) (fun _ hk => hk.2) (.int .i64 t346)) (fun _ hk => hk.2) (.slice Ao51 t347.length co51)) (fun _ hk => hk.2) (.slice Ao52 t350.length co52)) (fun _ h_ => h_.1)))); (case side6 => exact (Kd.R_reads' HO_332001.out).2.1); (case side7 => refine (Kd.R_reads' (e := 9) (base := w.heap.size) (ok := fun k_ => (((some k_ ≠ (.slice Ao11 t324.length co11 : Value).ownBlock ∧ (some k_ ≠ (.slice Ao17 t333.length co17 : Value).ownBlock ∧ some k_ ≠ (.slice Ao18 t336.length co18 : Value).ownBlock)) ∧ some k_ ≠ (.slice Ao51 t347.length co51 : Value).ownBlock) ∧ some k_ ≠ (.slice Ao52 t350.length co52 : Value).ownBlock)) (n := t327.length) (c := co12) ?_).2.2; exact (by (with_reducible repeat (first | apply Kd.R_alloc | apply Kd.R_drewN | apply Kd.R_drew)); exact (Kd.R_mono (Kd.R_far (p := ⟨gb354, 2, none⟩) (Kd.R_far (p := ⟨gb354, 1, none⟩) (Kd.R_far (p := ⟨gb354, 0, none⟩) (Kd.R_types HO_332002.out BK354.out (by decide)) (fun _ hk => hk.2) (.int .i64 t346)) (fun _ hk => hk.2) (.slice Ao51 t347.length co51)) (fun _ hk => hk.2) (.slice Ao52 t350.length co52)) (fun _ h_ => h_.1)))); (case side8 => exact (Kd.R_reads' HO_332002.out).2.1); rintro e w60 ⟨rfl, hb⟩; refine ⟨_, rfl, ?_⟩; have n0_ := Aside0.mk (Kd.R_below (by (with_reducible repeat (first | apply Kd.R_alloc | apply Kd.R_drewN | apply Kd.R_drew)); exact (Kd.R_mono (Kd.R_far (p := ⟨gb354, 2, none⟩) (Kd.R_far (p := ⟨gb354, 1, none⟩) (Kd.R_far (p := ⟨gb354, 0, none⟩) (Kd.R_types HO_332001.out BK354.out (by decide)) (fun _ hk => hk.2) (.int .i64 t346)) (fun _ hk => hk.2) (.slice Ao51 t347.length co51)) (fun _ hk => hk.2) (.slice Ao52 t350.length co52)) (fun _ h_ => h_.1))) hb); have n1_ := Aside0.mk (Kd.R_below (by (with_reducible repeat (first | apply Kd.R_alloc | apply Kd.R_drewN | apply Kd.R_drew)); exact (Kd.R_mono (Kd.R_far (p := ⟨gb354, 2, none⟩) (Kd.R_far (p := ⟨gb354, 1, none⟩) (Kd.R_far (p := ⟨gb354, 0, none⟩) (Kd.R_types HO_332002.out BK354.out (by decide)) (fun _ hk => hk.2) (.int .i64 t346)) (fun _ hk => hk.2) (.slice Ao51 t347.length co51)) (fun _ hk => hk.2) (.slice Ao52 t350.length co52)) (fun _ h_ => h_.1))) hb); have n2_ := Aside0.mk (Kd.R_below (by (with_reducible repeat (first | apply Kd.R_alloc | apply Kd.R_drewN | apply Kd.R_drew)); exact (Kd.R_mono (Kd.R_far (p := ⟨gb354, 2, none⟩) (Kd.R_far (p := ⟨gb354, 1, none⟩) (Kd.R_far (p := ⟨gb354, 0, none⟩) (Kd.R_types HO_341001.out BK354.out (by decide)) (fun _ hk => hk.2) (.int .i64 t346)) (fun _ hk => hk.2) (.slice Ao51 t347.length co51)) (fun _ hk => hk.2) (.slice Ao52 t350.length co52)) (fun _ h_ => h_.1))) hb); have n3_ := Aside0.mk (Kd.R_below (by (with_reducible repeat (first | apply Kd.R_alloc | apply Kd.R_drewN | apply Kd.R_drew)); exact (Kd.R_mono (Kd.R_far (p := ⟨gb354, 2, none⟩) (Kd.R_far (p := ⟨gb354, 1, none⟩) (Kd.R_far (p := ⟨gb354, 0, none⟩) (Kd.R_types HO_341002.out BK354.out (by decide)) (fun _ hk => hk.2) (.int .i64 t346)) (fun _ hk => hk.2) (.slice Ao51 t347.length co51)) (fun _ hk => hk.2) (.slice Ao52 t350.length co52)) (fun _ h_ => h_.1))) hb); have n4_ := Aside0.mk (Kd.R_below (by (with_reducible repeat (first | apply Kd.R_alloc | apply Kd.R_drewN | apply Kd.R_drew)); exact (Kd.R_mono (Kd.R_far (p := ⟨gb354, 2, none⟩) (Kd.R_far (p := ⟨gb354, 1, none⟩) (Kd.R_far (p := ⟨gb354, 0, none⟩) (Kd.R_types HO349.out BK354.out (by decide)) (fun _ hk => hk.2) (.int .i64 t346)) (fun _ hk => hk.2) (.slice Ao51 t347.length co51)) (fun _ hk => hk.2) (.slice Ao52 t350.length co52)) (fun _ h_ => h_.1))) hb); have n5_ := Aside0.mk (Kd.R_below (by (with_reducible repeat (first | apply Kd.R_alloc | apply Kd.R_drewN | apply Kd.R_drew)); exact (Kd.R_mono (Kd.R_far (p := ⟨gb354, 2, none⟩) (Kd.R_far (p := ⟨gb354, 1, none⟩) (Kd.R_far (p := ⟨gb354, 0, none⟩) (Kd.R_types HO352.out BK354.out (by decide)) (fun _ hk => hk.2) (.int .i64 t346)) (fun _ hk => hk.2) (.slice Ao51 t347.length co51)) (fun _ hk => hk.2) (.slice Ao52 t350.length co52)) (fun _ h_ => h_.1))) hb); have n6_ := Aside0.mk (blk_below (g := gb331) (o := .cells #[.int .i64 t323, .slice Ao11 t324.length co11, .slice Ao12 t327.length co12] 29 (0, 0)) (by (with_reducible repeat (first | refine blk_drewN ?_ _ | refine blk_drew ?_ | refine blk_alloc ?_ _)); refine blk_far ?_ NB331_354.out _; (with_reducible repeat (first | refine blk_drewN ?_ _ | refine blk_drew ?_ | refine blk_alloc ?_ _)); refine blk_far ?_ NB331_354.out _; (with_reducible repeat (first | refine blk_drewN ?_ _ | refine blk_drew ?_ | refine blk_alloc ?_ _)); refine blk_far ?_ NB331_354.out _; (with_reducible repeat (first | refine blk_drewN ?_ _ | refine blk_drew ?_ | refine blk_alloc ?_ _)); exact BK331.out) hb); have n7_ := Aside0.mk (blk_below (g := gb340) (o := .cells #[.int .i64 t332, .slice Ao17 t333.length co17, .slice Ao18 t336.length co18] 29 (0, 0)) (by (with_reducible repeat (first | refine blk_drewN ?_ _ | refine blk_drew ?_ | refine blk_alloc ?_ _)); refine blk_far ?_ NB340_354.out _; (with_reducible repeat (first | refine blk_drewN ?_ _ | refine blk_drew ?_ | refine blk_alloc ?_ _)); refine blk_far ?_ NB340_354.out _; (with_reducible repeat (first | refine blk_drewN ?_ _ | refine blk_drew ?_ | refine blk_alloc ?_ _)); refine blk_far ?_ NB340_354.out _; (with_reducible repeat (first | refine blk_drewN ?_ _ | refine blk_drew ?_ | refine blk_alloc ?_ _)); exact BK340.out) hb); have n8_ := Aside0.mk (blk_below (g := gb354) (o := .cells #[.int .i64 t346, .slice Ao51 t347.length co51, .slice Ao52 t350.length co52] 29 (0, 0)) (by (with_reducible repeat (first | refine blk_drewN ?_ _ | refine blk_drew ?_ | refine blk_alloc ?_ _)); refine blk_put (cs := #[.int .i64 t346, .slice Ao51 t347.length co51, .slice none 0 0]) ?_ 2 _ rfl; (with_reducible repeat (first | refine blk_drewN ?_ _ | refine blk_drew ?_ | refine blk_alloc ?_ _)); refine blk_put (cs := #[.int .i64 t346, .slice none 0 0, .slice none 0 0]) ?_ 1 _ rfl; (with_reducible repeat (first | refine blk_drewN ?_ _ | refine blk_drew ?_ | refine blk_alloc ?_ _)); refine blk_put (cs := #[.int .i64 0, .slice none 0 0, .slice none 0 0]) ?_ 0 _ rfl; (with_reducible repeat (first | refine blk_drewN ?_ _ | refine blk_drew ?_ | refine blk_alloc ?_ _)); exact BK354.out) hb); have n9_ := Aside0.mk (below_step (by repeat (first | (with_reducible first | exact HB.out | apply below_alloc | apply pw_below_drewN | apply below_drew1 | refine below_set ?_ GE331.out | refine below_set ?_ GE340.out | refine below_set ?_ GE354.out) | exact HB.out)) hb); clear HO_332001; clear HO_332002; clear HO_341001; clear HO_341002; clear HO349; clear HO352; clear BK331; clear BK340; clear BK354; clear HB; have HO_332001 := n0_; have HO_332002 := n1_; have HO_341001 := n2_; have HO_341002 := n3_; have HO349 := n4_; have HO352 := n5_; have BK331 := n6_; have BK340 := n7_; have BK354 := n8_; have HB := n9_; clear n0_ n1_ n2_ n3_ n4_ n5_ n6_ n7_ n8_ n9_; (try clear hb); (try clear hb2); (try clear hk); (try clear hi)))
                  go_meet
                  case rel => exact ⟨_, ((t353 != t330)), (by first | rfl | (simp; done) | (simp [*]; done)), H', ⟨by have := HJ6.out; first | omega | exact Nat.le_refl _⟩, ⟨by (with_reducible repeat (first | apply Kd.R_alloc | apply Kd.R_drewN | apply Kd.R_drew)); exact Kd.R_mono HO_332001.out (fun _ hk => ⟨hk.1.1.1, ⟨hk.1.1.2.1, ⟨hk.1.1.2.2, ⟨hk.1.2, hk.2⟩⟩⟩⟩)⟩, ⟨by (with_reducible repeat (first | apply Kd.R_alloc | apply Kd.R_drewN | apply Kd.R_drew)); exact Kd.R_mono HO_332002.out (fun _ hk => ⟨hk.1.1.1, ⟨hk.1.1.2.1, ⟨hk.1.1.2.2, ⟨hk.1.2, hk.2⟩⟩⟩⟩)⟩, ⟨by (with_reducible repeat (first | apply Kd.R_alloc | apply Kd.R_drewN | apply Kd.R_drew)); exact Kd.R_mono HO_341001.out (fun _ hk => ⟨hk.1.1.1, ⟨hk.1.1.2.1, ⟨hk.1.1.2.2, ⟨hk.1.2, hk.2⟩⟩⟩⟩)⟩, ⟨by (with_reducible repeat (first | apply Kd.R_alloc | apply Kd.R_drewN | apply Kd.R_drew)); exact Kd.R_mono HO_341002.out (fun _ hk => ⟨hk.1.1.1, ⟨hk.1.1.2.1, ⟨hk.1.1.2.2, ⟨hk.1.2, hk.2⟩⟩⟩⟩)⟩, ⟨by (with_reducible repeat (first | apply Kd.R_alloc | apply Kd.R_drewN | apply Kd.R_drew)); exact Kd.R_mono HO349.out (fun _ hk => ⟨hk.1.1.1.2, ⟨hk.1.1.2, ⟨hk.1.2, ⟨hk.2, hk.1.1.1.1⟩⟩⟩⟩)⟩, ⟨by (with_reducible repeat (first | apply Kd.R_alloc | apply Kd.R_drewN | apply Kd.R_drew)); exact Kd.R_mono HO352.out (fun _ hk => ⟨hk.1.1.1.2, ⟨hk.1.1.2, ⟨hk.1.2, ⟨hk.2, hk.1.1.1.1⟩⟩⟩⟩)⟩, ⟨by (with_reducible repeat (first | refine blk_drewN ?_ _ | refine blk_drew ?_ | refine blk_alloc ?_ _)); exact BK331.out⟩, ⟨by (with_reducible repeat (first | refine blk_drewN ?_ _ | refine blk_drew ?_ | refine blk_alloc ?_ _)); exact BK340.out⟩, ⟨by (with_reducible repeat (first | refine blk_drewN ?_ _ | refine blk_drew ?_ | refine blk_alloc ?_ _)); exact BK354.out⟩, ⟨by repeat (first | (with_reducible first | exact HB.out | apply below_alloc | apply pw_below_drewN | apply below_drew1 | refine below_set ?_ GE331.out | refine below_set ?_ GE340.out | refine below_set ?_ GE354.out) | exact HB.out)⟩⟩
                · replace c54 := Bool.eq_false_iff.mpr c54
                  subst c54
                  have H1 : (laws_FnExactSignText.j1 kj6 t342 true t332 t343 t344) = some r := by rw [if_neg (show ¬ (false = true) by decide)] at H; exact H
                  clear H
                  have H := H1
                  clear H1
                  have H' := Aside0.mk H
                  clear H
                  have hnb61 := NB354_331.out
                  have hnc61 := NB331_354.out
                  have hnb62 := NB354_340.out
                  have hnc62 := NB340_354.out
                  have hcz63_0 : w47.cell? ⟨gb354, 0, none⟩ = some (.int .i64 0) := (blk_cell BK354.out 0).trans rfl
                  have hcz63_1 : w47.cell? ⟨gb354, 1, none⟩ = some (.slice none 0 0) := (blk_cell BK354.out 1).trans rfl
                  have hcz63_2 : w47.cell? ⟨gb354, 2, none⟩ = some (.slice none 0 0) := (blk_cell BK354.out 2).trans rfl
                  have hfz63_0 := blk_frozen BK354.out 0
                  have hfz63_1 := blk_frozen BK354.out 1
                  have hfz63_2 := blk_frozen BK354.out 2
                  have hnb64 := NB331_340.out
                  have hnc64 := NB340_331.out
                  have hcz65_0 : w47.cell? ⟨gb331, 0, none⟩ = some (.int .i64 t323) := (blk_cell BK331.out 0).trans rfl
                  have hcz65_1 : w47.cell? ⟨gb331, 1, none⟩ = some (.slice Ao11 t324.length co11) := (blk_cell BK331.out 1).trans rfl
                  have hcz65_2 : w47.cell? ⟨gb331, 2, none⟩ = some (.slice Ao12 t327.length co12) := (blk_cell BK331.out 2).trans rfl
                  have hfz65_0 := blk_frozen BK331.out 0
                  have hfz65_1 := blk_frozen BK331.out 1
                  have hfz65_2 := blk_frozen BK331.out 2
                  go_wp2_with (first | ((with_reducible refine gate_callee (f := 23) rfl ?_); refine goesL_ (some 61) rfl rfl Try.func23 (by kernel_rfl) rfl #[.agg #[.int .i64 t346, .slice Ao51 t347.length co51, .slice Ao52 t350.length co52], .agg #[.int .i64 t323, .slice Ao11 t324.length co11, .slice Ao12 t327.length co12]] rfl (by (try simp only [List.map_toArray, List.map_cons, List.map_nil]); first | done | rfl | (simp only [List.length_drop, List.length_take]; rfl)) ?_; (with_reducible refine (laws_eqSignature.calls kj6 t346 _ _ t347 _ _ t350 t323 _ _ t324 _ _ t327 false _ ?side1 ?side2 ?side3 ?side4 ?side5 ?side6 ?side7 ?side8 A53.out).mono ?_); (case side1 => refine (Kd.R_reads' (e := 9) (base := w.heap.size) (ok := fun k_ => ((((some k_ ≠ (.slice Ao52 t350.length co52 : Value).ownBlock ∧ some k_ ≠ (.slice Ao11 t324.length co11 : Value).ownBlock) ∧ some k_ ≠ (.slice Ao12 t327.length co12 : Value).ownBlock) ∧ some k_ ≠ (.slice Ao17 t333.length co17 : Value).ownBlock) ∧ some k_ ≠ (.slice Ao18 t336.length co18 : Value).ownBlock)) (n := t347.length) (c := co51) ?_).2.2; exact (by (with_reducible repeat (first | apply Kd.R_alloc | apply Kd.R_drewN | apply Kd.R_drew)); exact (Kd.R_mono (Kd.R_far (p := ⟨gb354, 2, none⟩) (Kd.R_far (p := ⟨gb354, 1, none⟩) (Kd.R_far (p := ⟨gb354, 0, none⟩) (Kd.R_types HO349.out BK354.out (by decide)) (fun _ hk => hk.2) (.int .i64 t346)) (fun _ hk => hk.2) (.slice Ao51 t347.length co51)) (fun _ hk => hk.2) (.slice Ao52 t350.length co52)) (fun _ h_ => h_.1)))); (case side2 => exact (Kd.R_reads' HO349.out).2.1); (case side3 => refine (Kd.R_reads' (e := 9) (base := w.heap.size) (ok := fun k_ => ((((some k_ ≠ (.slice Ao51 t347.length co51 : Value).ownBlock ∧ some k_ ≠ (.slice Ao11 t324.length co11 : Value).ownBlock) ∧ some k_ ≠ (.slice Ao12 t327.length co12 : Value).ownBlock) ∧ some k_ ≠ (.slice Ao17 t333.length co17 : Value).ownBlock) ∧ some k_ ≠ (.slice Ao18 t336.length co18 : Value).ownBlock)) (n := t350.length) (c := co52) ?_).2.2; exact (by (with_reducible repeat (first | apply Kd.R_alloc | apply Kd.R_drewN | apply Kd.R_drew)); exact (Kd.R_mono (Kd.R_far (p := ⟨gb354, 2, none⟩) (Kd.R_far (p := ⟨gb354, 1, none⟩) (Kd.R_far (p := ⟨gb354, 0, none⟩) (Kd.R_types HO352.out BK354.out (by decide)) (fun _ hk => hk.2) (.int .i64 t346)) (fun _ hk => hk.2) (.slice Ao51 t347.length co51)) (fun _ hk => hk.2) (.slice Ao52 t350.length co52)) (fun _ h_ => h_.1)))); (case side4 => exact (Kd.R_reads' HO352.out).2.1); (case side5 => refine (Kd.R_reads' (e := 9) (base := w.heap.size) (ok := fun k_ => (((some k_ ≠ (.slice Ao12 t327.length co12 : Value).ownBlock ∧ (some k_ ≠ (.slice Ao17 t333.length co17 : Value).ownBlock ∧ some k_ ≠ (.slice Ao18 t336.length co18 : Value).ownBlock)) ∧ some k_ ≠ (.slice Ao51 t347.length co51 : Value).ownBlock) ∧ some k_ ≠ (.slice Ao52 t350.length co52 : Value).ownBlock)) (n := t324.length) (c := co11) ?_).2.2; exact (by (with_reducible repeat (first | apply Kd.R_alloc | apply Kd.R_drewN | apply Kd.R_drew)); exact (Kd.R_mono (Kd.R_far (p := ⟨gb354, 2, none⟩) (Kd.R_far (p := ⟨gb354, 1, none⟩) (Kd.R_far (p := ⟨gb354, 0, none⟩) (Kd.R_types HO_332001.out BK354.out (by decide)) (fun _ hk => hk.2) (.int .i64 t346)) (fun _ hk => hk.2) (.slice Ao51 t347.length co51)) (fun _ hk => hk.2) (.slice Ao52 t350.length co52)) (fun _ h_ => h_.1)))); (case side6 => exact (Kd.R_reads' HO_332001.out).2.1); (case side7 => refine (Kd.R_reads' (e := 9) (base := w.heap.size) (ok := fun k_ => (((some k_ ≠ (.slice Ao11 t324.length co11 : Value).ownBlock ∧ (some k_ ≠ (.slice Ao17 t333.length co17 : Value).ownBlock ∧ some k_ ≠ (.slice Ao18 t336.length co18 : Value).ownBlock)) ∧ some k_ ≠ (.slice Ao51 t347.length co51 : Value).ownBlock) ∧ some k_ ≠ (.slice Ao52 t350.length co52 : Value).ownBlock)) (n := t327.length) (c := co12) ?_).2.2; exact (by (with_reducible repeat (first | apply Kd.R_alloc | apply Kd.R_drewN | apply Kd.R_drew)); exact (Kd.R_mono (Kd.R_far (p := ⟨gb354, 2, none⟩) (Kd.R_far (p := ⟨gb354, 1, none⟩) (Kd.R_far (p := ⟨gb354, 0, none⟩) (Kd.R_types HO_332002.out BK354.out (by decide)) (fun _ hk => hk.2) (.int .i64 t346)) (fun _ hk => hk.2) (.slice Ao51 t347.length co51)) (fun _ hk => hk.2) (.slice Ao52 t350.length co52)) (fun _ h_ => h_.1)))); (case side8 => exact (Kd.R_reads' HO_332002.out).2.1); rintro e w66 ⟨rfl, hb⟩; refine ⟨_, rfl, ?_⟩; have n0_ := Aside0.mk (Kd.R_below (by (with_reducible repeat (first | apply Kd.R_alloc | apply Kd.R_drewN | apply Kd.R_drew)); exact (Kd.R_mono (Kd.R_far (p := ⟨gb354, 2, none⟩) (Kd.R_far (p := ⟨gb354, 1, none⟩) (Kd.R_far (p := ⟨gb354, 0, none⟩) (Kd.R_types HO_332001.out BK354.out (by decide)) (fun _ hk => hk.2) (.int .i64 t346)) (fun _ hk => hk.2) (.slice Ao51 t347.length co51)) (fun _ hk => hk.2) (.slice Ao52 t350.length co52)) (fun _ h_ => h_.1))) hb); have n1_ := Aside0.mk (Kd.R_below (by (with_reducible repeat (first | apply Kd.R_alloc | apply Kd.R_drewN | apply Kd.R_drew)); exact (Kd.R_mono (Kd.R_far (p := ⟨gb354, 2, none⟩) (Kd.R_far (p := ⟨gb354, 1, none⟩) (Kd.R_far (p := ⟨gb354, 0, none⟩) (Kd.R_types HO_332002.out BK354.out (by decide)) (fun _ hk => hk.2) (.int .i64 t346)) (fun _ hk => hk.2) (.slice Ao51 t347.length co51)) (fun _ hk => hk.2) (.slice Ao52 t350.length co52)) (fun _ h_ => h_.1))) hb); have n2_ := Aside0.mk (Kd.R_below (by (with_reducible repeat (first | apply Kd.R_alloc | apply Kd.R_drewN | apply Kd.R_drew)); exact (Kd.R_mono (Kd.R_far (p := ⟨gb354, 2, none⟩) (Kd.R_far (p := ⟨gb354, 1, none⟩) (Kd.R_far (p := ⟨gb354, 0, none⟩) (Kd.R_types HO_341001.out BK354.out (by decide)) (fun _ hk => hk.2) (.int .i64 t346)) (fun _ hk => hk.2) (.slice Ao51 t347.length co51)) (fun _ hk => hk.2) (.slice Ao52 t350.length co52)) (fun _ h_ => h_.1))) hb); have n3_ := Aside0.mk (Kd.R_below (by (with_reducible repeat (first | apply Kd.R_alloc | apply Kd.R_drewN | apply Kd.R_drew)); exact (Kd.R_mono (Kd.R_far (p := ⟨gb354, 2, none⟩) (Kd.R_far (p := ⟨gb354, 1, none⟩) (Kd.R_far (p := ⟨gb354, 0, none⟩) (Kd.R_types HO_341002.out BK354.out (by decide)) (fun _ hk => hk.2) (.int .i64 t346)) (fun _ hk => hk.2) (.slice Ao51 t347.length co51)) (fun _ hk => hk.2) (.slice Ao52 t350.length co52)) (fun _ h_ => h_.1))) hb); have n4_ := Aside0.mk (Kd.R_below (by (with_reducible repeat (first | apply Kd.R_alloc | apply Kd.R_drewN | apply Kd.R_drew)); exact (Kd.R_mono (Kd.R_far (p := ⟨gb354, 2, none⟩) (Kd.R_far (p := ⟨gb354, 1, none⟩) (Kd.R_far (p := ⟨gb354, 0, none⟩) (Kd.R_types HO349.out BK354.out (by decide)) (fun _ hk => hk.2) (.int .i64 t346)) (fun _ hk => hk.2) (.slice Ao51 t347.length co51)) (fun _ hk => hk.2) (.slice Ao52 t350.length co52)) (fun _ h_ => h_.1))) hb); have n5_ := Aside0.mk (Kd.R_below (by (with_reducible repeat (first | apply Kd.R_alloc | apply Kd.R_drewN | apply Kd.R_drew)); exact (Kd.R_mono (Kd.R_far (p := ⟨gb354, 2, none⟩) (Kd.R_far (p := ⟨gb354, 1, none⟩) (Kd.R_far (p := ⟨gb354, 0, none⟩) (Kd.R_types HO352.out BK354.out (by decide)) (fun _ hk => hk.2) (.int .i64 t346)) (fun _ hk => hk.2) (.slice Ao51 t347.length co51)) (fun _ hk => hk.2) (.slice Ao52 t350.length co52)) (fun _ h_ => h_.1))) hb); have n6_ := Aside0.mk (blk_below (g := gb331) (o := .cells #[.int .i64 t323, .slice Ao11 t324.length co11, .slice Ao12 t327.length co12] 29 (0, 0)) (by (with_reducible repeat (first | refine blk_drewN ?_ _ | refine blk_drew ?_ | refine blk_alloc ?_ _)); refine blk_far ?_ NB331_354.out _; (with_reducible repeat (first | refine blk_drewN ?_ _ | refine blk_drew ?_ | refine blk_alloc ?_ _)); refine blk_far ?_ NB331_354.out _; (with_reducible repeat (first | refine blk_drewN ?_ _ | refine blk_drew ?_ | refine blk_alloc ?_ _)); refine blk_far ?_ NB331_354.out _; (with_reducible repeat (first | refine blk_drewN ?_ _ | refine blk_drew ?_ | refine blk_alloc ?_ _)); exact BK331.out) hb); have n7_ := Aside0.mk (blk_below (g := gb340) (o := .cells #[.int .i64 t332, .slice Ao17 t333.length co17, .slice Ao18 t336.length co18] 29 (0, 0)) (by (with_reducible repeat (first | refine blk_drewN ?_ _ | refine blk_drew ?_ | refine blk_alloc ?_ _)); refine blk_far ?_ NB340_354.out _; (with_reducible repeat (first | refine blk_drewN ?_ _ | refine blk_drew ?_ | refine blk_alloc ?_ _)); refine blk_far ?_ NB340_354.out _; (with_reducible repeat (first | refine blk_drewN ?_ _ | refine blk_drew ?_ | refine blk_alloc ?_ _)); refine blk_far ?_ NB340_354.out _; (with_reducible repeat (first | refine blk_drewN ?_ _ | refine blk_drew ?_ | refine blk_alloc ?_ _)); exact BK340.out) hb); have n8_ := Aside0.mk (blk_below (g := gb354) (o := .cells #[.int .i64 t346, .slice Ao51 t347.length co51, .slice Ao52 t350.length co52] 29 (0, 0)) (by (with_reducible repeat (first | refine blk_drewN ?_ _ | refine blk_drew ?_ | refine blk_alloc ?_ _)); refine blk_put (cs := #[.int .i64 t346, .slice Ao51 t347.length co51, .slice none 0 0]) ?_ 2 _ rfl; (with_reducible repeat (first | refine blk_drewN ?_ _ | refine blk_drew ?_ | refine blk_alloc ?_ _)); refine blk_put (cs := #[.int .i64 t346, .slice none 0 0, .slice none 0 0]) ?_ 1 _ rfl; (with_reducible repeat (first | refine blk_drewN ?_ _ | refine blk_drew ?_ | refine blk_alloc ?_ _)); refine blk_put (cs := #[.int .i64 0, .slice none 0 0, .slice none 0 0]) ?_ 0 _ rfl; (with_reducible repeat (first | refine blk_drewN ?_ _ | refine blk_drew ?_ | refine blk_alloc ?_ _)); exact BK354.out) hb); have n9_ := Aside0.mk (below_step (by repeat (first | (with_reducible first | exact HB.out | apply below_alloc | apply pw_below_drewN | apply below_drew1 | refine below_set ?_ GE331.out | refine below_set ?_ GE340.out | refine below_set ?_ GE354.out) | exact HB.out)) hb); clear HO_332001; clear HO_332002; clear HO_341001; clear HO_341002; clear HO349; clear HO352; clear BK331; clear BK340; clear BK354; clear HB; have HO_332001 := n0_; have HO_332002 := n1_; have HO_341001 := n2_; have HO_341002 := n3_; have HO349 := n4_; have HO352 := n5_; have BK331 := n6_; have BK340 := n7_; have BK354 := n8_; have HB := n9_; clear n0_ n1_ n2_ n3_ n4_ n5_ n6_ n7_ n8_ n9_; (try clear hb); (try clear hb2); (try clear hk); (try clear hi)))
                  go_meet
                  case rel => exact ⟨_, (true), (by first | rfl | (simp; done) | (simp [*]; done)), H', ⟨by have := HJ6.out; first | omega | exact Nat.le_refl _⟩, ⟨by (with_reducible repeat (first | apply Kd.R_alloc | apply Kd.R_drewN | apply Kd.R_drew)); exact Kd.R_mono HO_332001.out (fun _ hk => ⟨hk.1.1.1, ⟨hk.1.1.2.1, ⟨hk.1.1.2.2, ⟨hk.1.2, hk.2⟩⟩⟩⟩)⟩, ⟨by (with_reducible repeat (first | apply Kd.R_alloc | apply Kd.R_drewN | apply Kd.R_drew)); exact Kd.R_mono HO_332002.out (fun _ hk => ⟨hk.1.1.1, ⟨hk.1.1.2.1, ⟨hk.1.1.2.2, ⟨hk.1.2, hk.2⟩⟩⟩⟩)⟩, ⟨by (with_reducible repeat (first | apply Kd.R_alloc | apply Kd.R_drewN | apply Kd.R_drew)); exact Kd.R_mono HO_341001.out (fun _ hk => ⟨hk.1.1.1, ⟨hk.1.1.2.1, ⟨hk.1.1.2.2, ⟨hk.1.2, hk.2⟩⟩⟩⟩)⟩, ⟨by (with_reducible repeat (first | apply Kd.R_alloc | apply Kd.R_drewN | apply Kd.R_drew)); exact Kd.R_mono HO_341002.out (fun _ hk => ⟨hk.1.1.1, ⟨hk.1.1.2.1, ⟨hk.1.1.2.2, ⟨hk.1.2, hk.2⟩⟩⟩⟩)⟩, ⟨by (with_reducible repeat (first | apply Kd.R_alloc | apply Kd.R_drewN | apply Kd.R_drew)); exact Kd.R_mono HO349.out (fun _ hk => ⟨hk.1.1.1.2, ⟨hk.1.1.2, ⟨hk.1.2, ⟨hk.2, hk.1.1.1.1⟩⟩⟩⟩)⟩, ⟨by (with_reducible repeat (first | apply Kd.R_alloc | apply Kd.R_drewN | apply Kd.R_drew)); exact Kd.R_mono HO352.out (fun _ hk => ⟨hk.1.1.1.2, ⟨hk.1.1.2, ⟨hk.1.2, ⟨hk.2, hk.1.1.1.1⟩⟩⟩⟩)⟩, ⟨by (with_reducible repeat (first | refine blk_drewN ?_ _ | refine blk_drew ?_ | refine blk_alloc ?_ _)); exact BK331.out⟩, ⟨by (with_reducible repeat (first | refine blk_drewN ?_ _ | refine blk_drew ?_ | refine blk_alloc ?_ _)); exact BK340.out⟩, ⟨by (with_reducible repeat (first | refine blk_drewN ?_ _ | refine blk_drew ?_ | refine blk_alloc ?_ _)); exact BK354.out⟩, ⟨by repeat (first | (with_reducible first | exact HB.out | apply below_alloc | apply pw_below_drewN | apply below_drew1 | refine below_set ?_ GE331.out | refine below_set ?_ GE340.out | refine below_set ?_ GE354.out) | exact HB.out)⟩⟩
              case rest =>
                clear HC40
                try clear c1
                try clear c2
                try clear p2
                try clear c3
                try clear c4
                try clear c4b0
                try clear c4b1
                try clear c5
                try clear c6
                try clear c11
                try clear c15
                try clear c20
                try clear c21
                try clear c23
                try clear c24
                try clear c25
                try clear c26
                try clear c29
                try clear c32
                try clear c32b0
                try clear c33
                try clear c38
                try clear c38b0
                try clear c38b1
                try clear c41
                try clear c48
                try clear c49
                try clear c54
                try clear c55
                try clear c56
                try clear c58
                try clear c61
                try clear c62
                try clear c64
                try clear hcz10_0
                try clear hcz10_1
                try clear hcz10_2
                try clear hcz16_0
                try clear hcz16_1
                try clear hcz16_2
                try clear hcz22_0
                try clear hcz22_1
                try clear hcz22_2
                try clear hcz23_0
                try clear hcz23_1
                try clear hcz23_2
                try clear hcz26_0
                try clear hcz26_1
                try clear hcz26_2
                try clear hcz27_0
                try clear hcz27_1
                try clear hcz27_2
                try clear hcz34_0
                try clear hcz34_1
                try clear hcz34_2
                try clear hcz36_0
                try clear hcz36_1
                try clear hcz36_2
                try clear hcz42_0
                try clear hcz42_1
                try clear hcz42_2
                try clear hcz44_0
                try clear hcz44_1
                try clear hcz44_2
                try clear hcz50_0
                try clear hcz50_1
                try clear hcz50_2
                try clear hcz57_0
                try clear hcz57_1
                try clear hcz57_2
                try clear hcz59_0
                try clear hcz59_1
                try clear hcz59_2
                try clear hcz63_0
                try clear hcz63_1
                try clear hcz63_2
                try clear hcz65_0
                try clear hcz65_1
                try clear hcz65_2
                try clear hfz10_0
                try clear hfz10_1
                try clear hfz10_2
                try clear hfz16_0
                try clear hfz16_1
                try clear hfz16_2
                try clear hfz22_0
                try clear hfz22_1
                try clear hfz22_2
                try clear hfz23_0
                try clear hfz23_1
                try clear hfz23_2
                try clear hfz26_0
                try clear hfz26_1
                try clear hfz26_2
                try clear hfz27_0
                try clear hfz27_1
                try clear hfz27_2
                try clear hfz34_0
                try clear hfz34_1
                try clear hfz34_2
                try clear hfz36_0
                try clear hfz36_1
                try clear hfz36_2
                try clear hfz42_0
                try clear hfz42_1
                try clear hfz42_2
                try clear hfz44_0
                try clear hfz44_1
                try clear hfz44_2
                try clear hfz50_0
                try clear hfz50_1
                try clear hfz50_2
                try clear hfz57_0
                try clear hfz57_1
                try clear hfz57_2
                try clear hfz59_0
                try clear hfz59_1
                try clear hfz59_2
                try clear hfz63_0
                try clear hfz63_1
                try clear hfz63_2
                try clear hfz65_0
                try clear hfz65_1
                try clear hfz65_2
                try clear p2
                obtain ⟨kq, x67_39, rfl, HA, HJ39, HO_332001, HO_332002, HO_341001, HO_341002, HO_355001, HO_355002, BK331, BK340, BK354, HB⟩ := hcut
                have hl341001_39 := (Kd.R_reads' HO_341001.out).1
                rw [hl341001_39] at HO_341001
                (try simp only [hl341001_39])
                (try simp only [hl341001_39] at BK331)
                (try simp only [hl341001_39] at BK340)
                (try simp only [hl341001_39] at BK354)
                (try simp only [hl341001_39] at HO_332001)
                (try simp only [hl341001_39] at HO_332002)
                (try simp only [hl341001_39] at HO_341002)
                (try simp only [hl341001_39] at HO_355001)
                (try simp only [hl341001_39] at HO_355002)
                have hl341002_39 := (Kd.R_reads' HO_341002.out).1
                rw [hl341002_39] at HO_341002
                (try simp only [hl341002_39])
                (try simp only [hl341002_39] at BK331)
                (try simp only [hl341002_39] at BK340)
                (try simp only [hl341002_39] at BK354)
                (try simp only [hl341002_39] at HO_332001)
                (try simp only [hl341002_39] at HO_332002)
                (try simp only [hl341002_39] at HO_341001)
                (try simp only [hl341002_39] at HO_355001)
                (try simp only [hl341002_39] at HO_355002)
                cases kq with
                | zero => exact absurd HA.out (by simp [laws_FnExactSignText.j1])
                | succ kj39 =>
                  have H := HA.out
                  clear HA
                  simp only [laws_FnExactSignText.j1] at H
                  by_cases c67 : x67_39 = true
                  · subst c67
                    have H1 : (some false) = some r := by rw [if_pos rfl] at H; exact H
                    exact absurd ((Option.some.inj H1).trans HRT.out) (by decide)
                  · replace c67 := Bool.eq_false_iff.mpr c67
                    subst c67
                    have H1 : ((laws_heldSignature.f kj39 t332 t343 t344 1).bind fun t356 => (if t356 < 0 then (some false) else (if t356 = t342 then (some true) else (some false)))) = some r := by rw [if_neg (show ¬ (false = true) by decide)] at H; exact H
                    clear H
                    have H := H1
                    clear H1
                    replace H := Option.bind_eq_some_iff.mp H
                    obtain ⟨t356, A680, H⟩ := H
                    replace H : (if t356 < 0 then (some false) else (if t356 = t342 then (some true) else (some false))) = some r := H
                    have A68 := Aside0.mk A680
                    clear A680
                    by_cases c69 : t356 < 0
                    · rw [if_pos c69] at H
                      exact absurd ((Option.some.inj H).trans HRT.out) (by decide)
                    · rw [if_neg c69] at H
                      have c69b0 : decide (t356 < 0) = false := decide_eq_false c69
                      clear c69
                      by_cases c74 : t356 = t342
                      · rw [if_pos c74] at H
                        have c74b0 : (t356 == t342) = true := beq_iff_eq.mpr c74
                        have c74b1 : (t356 != t342) = false := bne_eq_false_iff_eq.mpr c74
                        clear c74
                        obtain rfl := Option.some.inj H
                        have hnb75 := NB340_331.out
                        have hnc75 := NB331_340.out
                        have hnb76 := NB340_354.out
                        have hnc76 := NB354_340.out
                        have hcz77_0 : wc.cell? ⟨gb340, 0, none⟩ = some (.int .i64 t332) := (blk_cell BK340.out 0).trans rfl
                        have hcz77_1 : wc.cell? ⟨gb340, 1, none⟩ = some (.slice Ao17 t343.length co17) := (blk_cell BK340.out 1).trans rfl
                        have hcz77_2 : wc.cell? ⟨gb340, 2, none⟩ = some (.slice Ao18 t344.length co18) := (blk_cell BK340.out 2).trans rfl
                        have hfz77_0 := blk_frozen BK340.out 0
                        have hfz77_1 := blk_frozen BK340.out 1
                        have hfz77_2 := blk_frozen BK340.out 2
                        go_wp2_with (first | ((with_reducible refine gate_callee (f := 26) rfl ?_); refine goesL_ (some 70) rfl rfl Try.func26 (by kernel_rfl) rfl #[.agg #[.int .i64 t332, .slice Ao17 t343.length co17, .slice Ao18 t344.length co18], .int .i64 1] rfl (by (try simp only [List.map_toArray, List.map_cons, List.map_nil]); first | done | rfl | (simp only [List.length_drop, List.length_take]; rfl)) ?_; (with_reducible refine (laws_heldSignature.calls kj39 t332 _ _ t343 _ _ t344 1 t356 _ ?side1 ?side2 ?side3 ?side4 A68.out).mono ?_); (case side1 => repeat (first | exact (Kd.R_reads' HO_341001.out).2.2 | (with_reducible refine Kd.C_alloc ?_ _) | (with_reducible refine Kd.C_drewN ?_ _) | (with_reducible refine Kd.C_drew ?_))); (case side2 => exact (Kd.R_reads' HO_341001.out).2.1); (case side3 => repeat (first | exact (Kd.R_reads' HO_341002.out).2.2 | (with_reducible refine Kd.C_alloc ?_ _) | (with_reducible refine Kd.C_drewN ?_ _) | (with_reducible refine Kd.C_drew ?_))); (case side4 => exact (Kd.R_reads' HO_341002.out).2.1); rintro e w78 ⟨rfl, hb⟩; refine ⟨_, rfl, ?_⟩; have n0_ := Aside0.mk (Kd.R_below (by (with_reducible repeat (first | apply Kd.R_alloc | apply Kd.R_drewN | apply Kd.R_drew)); exact HO_332001.out) hb); have n1_ := Aside0.mk (Kd.R_below (by (with_reducible repeat (first | apply Kd.R_alloc | apply Kd.R_drewN | apply Kd.R_drew)); exact HO_332002.out) hb); have n2_ := Aside0.mk (Kd.R_below (by (with_reducible repeat (first | apply Kd.R_alloc | apply Kd.R_drewN | apply Kd.R_drew)); exact HO_341001.out) hb); have n3_ := Aside0.mk (Kd.R_below (by (with_reducible repeat (first | apply Kd.R_alloc | apply Kd.R_drewN | apply Kd.R_drew)); exact HO_341002.out) hb); have n4_ := Aside0.mk (Kd.R_below (by (with_reducible repeat (first | apply Kd.R_alloc | apply Kd.R_drewN | apply Kd.R_drew)); exact HO_355001.out) hb); have n5_ := Aside0.mk (Kd.R_below (by (with_reducible repeat (first | apply Kd.R_alloc | apply Kd.R_drewN | apply Kd.R_drew)); exact HO_355002.out) hb); have n6_ := Aside0.mk (blk_below (g := gb331) (o := .cells #[.int .i64 t323, .slice Ao11 t324.length co11, .slice Ao12 t327.length co12] 29 (0, 0)) (by (with_reducible repeat (first | refine blk_drewN ?_ _ | refine blk_drew ?_ | refine blk_alloc ?_ _)); exact BK331.out) hb); have n7_ := Aside0.mk (blk_below (g := gb340) (o := .cells #[.int .i64 t332, .slice Ao17 t343.length co17, .slice Ao18 t344.length co18] 29 (0, 0)) (by (with_reducible repeat (first | refine blk_drewN ?_ _ | refine blk_drew ?_ | refine blk_alloc ?_ _)); exact BK340.out) hb); have n8_ := Aside0.mk (blk_below (g := gb354) (o := .cells #[.int .i64 t346, .slice Ao51 t347.length co51, .slice Ao52 t350.length co52] 29 (0, 0)) (by (with_reducible repeat (first | refine blk_drewN ?_ _ | refine blk_drew ?_ | refine blk_alloc ?_ _)); exact BK354.out) hb); have n9_ := Aside0.mk (below_step (by repeat (first | (with_reducible first | exact HB.out | apply below_alloc | apply pw_below_drewN | apply below_drew1 | refine below_set ?_ GE331.out | refine below_set ?_ GE340.out | refine below_set ?_ GE354.out) | exact HB.out)) hb); clear HO_332001; clear HO_332002; clear HO_341001; clear HO_341002; clear HO_355001; clear HO_355002; clear BK331; clear BK340; clear BK354; clear HB; have HO_332001 := n0_; have HO_332002 := n1_; have HO_341001 := n2_; have HO_341002 := n3_; have HO_355001 := n4_; have HO_355002 := n5_; have BK331 := n6_; have BK340 := n7_; have BK354 := n8_; have HB := n9_; clear n0_ n1_ n2_ n3_ n4_ n5_ n6_ n7_ n8_ n9_; (try clear hb); (try clear hb2); (try clear hk); (try clear hi)))
                        go_ret
                        exact ⟨by first | rfl | (simp [errW_none, errW_some] <;> rfl) | (simp [*, errW_none, errW_some] <;> rfl), by repeat (first | (with_reducible first | exact HB.out | apply below_alloc | apply pw_below_drewN | apply below_drew1 | refine below_set ?_ GE331.out | refine below_set ?_ GE340.out | refine below_set ?_ GE354.out) | exact HB.out)⟩
                      · rw [if_neg c74] at H
                        exact absurd ((Option.some.inj H).trans HRT.out) (by decide)
            · rw [if_neg c38] at H
              exact absurd ((Option.some.inj H).trans HRT.out) (by decide)

/-- THE ONE PURE STATEMENT of laws_FnExactSignText: yours. -/
def laws_FnExactSignText.Pure : Prop := ∀ (a0 : Int) (a1 : Int) (a2 : ByteArray), (Lit.int .i64 a0).wf = true → (Lit.int .i64 a1).wf = true → a2.size ≤ 140737488351232 → ∃ k, laws_FnExactSignText.f k a0 a1 a2 = some true
theorem laws_FnExactSignText.walk (P : laws_FnExactSignText.Pure) (a0 : Int) (a1 : Int) (a2 : ByteArray) (w : World) (w0 : (Lit.int .i64 a0).wf = true) (w1 : (Lit.int .i64 a1).wf = true) (w2 : a2.size ≤ 140737488351232) :
    Calls Try.prog 6 #[.int .i64 a0, .int .i64 a1, .string a2] w fun e w' => e = .returned (.bool true) ∧ Below w.heap.size w w' := by
  obtain ⟨k, h⟩ := P a0 a1 a2 w0 w1 w2
  refine (laws_FnExactSignText.calls k a0 a1 a2 true w h rfl).mono ?_
  rintro e w' ⟨rfl, hd⟩
  exact ⟨rfl, hd⟩

end Go.Proofs.Ytckjobcagniieaa.PFnExactSignText
