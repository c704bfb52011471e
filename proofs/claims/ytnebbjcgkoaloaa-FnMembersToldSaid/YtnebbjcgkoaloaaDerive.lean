/-
The program's derive comes to a plain list of facts, each with the places by which it came.
Conditions: the contracts of what it calls, told ahead.
-/
import Derived.Test.YtnebbjcgkoaloaaVMore
import Derived.Test.YtnebbjcgkoaloaaVGuard
import Derived.Test.YtnebbjcgkoaloaaVRepsOne
import Derived.Test.YtnebbjcgkoaloaaVN
import Derived.Test.YtnebbjcgkoaloaaVNEv
import Derived.Test.YtnebbjcgkoaloaaProg
import Derived.MakeChecks
namespace Go.Proofs.Ytnebbjcgkoaloaa.Derive
open Go.RowKit Go.Proofs.YtnebbjcgkoaloaaW.PrintWords Go.Proofs.YtnebbjcgkoaloaaW.PrintLast Go.Proofs.YtnebbjcgkoaloaaW.PrintMore
set_option linter.unusedVariables false
set_option linter.unusedSimpArgs false
abbrev DK : Kd (Int × Int × Int × List Int) := Kd.pair (Kd.int .i64) (Kd.pair (Kd.int .i64) (Kd.pair (Kd.int .i64) (Kd.slice 3 (Kd.int .i64))))
theorem info_d : (Try.prog.info? 78).map (fun i => (i.zero, i.size, i.bytes)) = some (some (.agg #[(.int .i64 0), (.int .i64 0), (.int .i64 0), .slice none 0 0]), 4, 48) := by kernel_rfl
abbrev box (k ow on wh aw an bw bn un nn : Int) : Array Value := #[.int .i64 k, .int .i64 ow, .int .i64 on, .int .i64 wh, .int .i64 aw, .int .i64 an, .int .i64 bw, .int .i64 bn, .int .i64 un, .int .i64 nn]
/-- What put finds: the list so far behind a cell, the credential in a box. -/
structure St (w0 W : World) (base go gc : Nat) (v : Value) (xs : List (Int × Int × Int × List Int)) (c : Array Value) : Prop where
  out : W.heap[go]? = some (.cells #[v] 75 (0, 0))
  cred : W.heap[gc]? = some (.cells c 29 (0, 0))
  bo : base ≤ go
  bc : base ≤ gc
  rows : Kd.R DK 78 W base (fun k => k ≠ go ∧ k ≠ gc) v xs
  bel : Below base w0 W
  le : base ≤ W.heap.size
theorem St.ne {w0 W : World} {base go gc : Nat} {v : Value} {xs : List (Int × Int × Int × List Int)} {c : Array Value} (h : St w0 W base go gc v xs c) : go ≠ gc := by
  intro e
  have h1 := h.out
  rw [e, h.cred] at h1
  injection h1 with h1
  injection h1 with _ h1
  exact absurd h1 (by decide)
theorem cell_at {W : World} {g t : Nat} {c : Array Value} (h : W.heap[g]? = some (.cells c t (0, 0))) (i : Nat) (v : Value) (hv : c[i]? = some v) : W.cell? ⟨g, i, none⟩ = some v := by
  simp [World.cell?, h, hv]
theorem dk_mk {W : World} {base go gc : Nat} {ow on who : Int} {vf : Value} {fl : List Int} (hf : Kd.R (Kd.int .i64) 3 W base (fun k => k ≠ go ∧ k ≠ gc) vf fl) :
    DK.M W base (fun k => (k ≠ go ∧ k ≠ gc) ∧ ∃ cells, W.heap[k]? = some (.cells cells 3 (0, 0))) (ow, on, who, fl) [.int .i64 ow, .int .i64 on, .int .i64 who, vf] :=
  ⟨[.int .i64 ow], _, rfl, rfl, [.int .i64 on], _, rfl, rfl, [.int .i64 who], [vf], rfl, rfl, vf, rfl, Kd.R_mono (Kd.R_bound hf) (fun k hk => ⟨hk.1, by
    obtain ⟨_, _, _, q, hq, cells, hc⟩ := hk
    obtain rfl : q = 3 := by rcases List.mem_cons.1 hq with h | h; exact h; cases h
    exact ⟨cells, hc⟩⟩)⟩
theorem set_self {W : World} {g t : Nat} {v u : Value} (h : W.heap[g]? = some (.cells #[v] t (0, 0))) : (W.setCell ⟨g, 0, none⟩ u).heap[g]? = some (.cells #[u] t (0, 0)) := by
  have hl := (Array.getElem?_eq_some_iff.1 h).1
  have e : W.heap[g] = .cells #[v] t (0, 0) := (Array.getElem?_eq_some_iff.1 h).2
  simp [World.setCell, hl, Array.getElem_modify, e]
theorem frozen_at {W : World} {g t : Nat} {c : Array Value} (h : W.heap[g]? = some (.cells c t (0, 0))) (i : Nat) : W.frozen? ⟨g, i, none⟩ = false := by
  simp [World.frozen?, h]
set_option maxHeartbeats 4000000 in
set_option maxRecDepth 100000 in
theorem put_calls (w0 W : World) (base go gc : Nat) (who k ow on wh aw an bw bn un nn : Int) (Af : Option Addr) (nf cf : Nat) (v : Value) (fl : List Int) (xs : List (Int × Int × Int × List Int)) (hl : xs.length ≤ 4000000)
    (hs : St w0 W base go gc v xs (box k ow on wh aw an bw bn un nn)) (hf : Kd.R (Kd.int .i64) 3 W base (fun k => k ≠ go ∧ k ≠ gc) (.slice Af nf cf) fl) :
    Calls Try.prog 72 #[.int .i64 who, .slice Af nf cf, .pointer (some ⟨go, 0, none⟩), .pointer (some ⟨gc, 0, none⟩)] W fun e w' => e = .returned (.tuple #[]) ∧ ∃ v', St w0 w' base go gc v' (xs ++ [(ow, on, who, fl)]) (box k ow on wh aw an bw bn un nn) ∧
      W.heap.size ≤ w'.heap.size ∧ ∀ g, g < W.heap.size → g ≠ go → some g ≠ v.ownBlock → w'.heap[g]? = W.heap[g]? := by
  have h0 := cell_at hs.out 0 v rfl
  have h1 := cell_at hs.cred 1 (.int .i64 ow) rfl
  have h2 := cell_at hs.cred 2 (.int .i64 on) rfl
  have HS := Aside0.mk hs
  have HF := Aside0.mk hf
  have HL := Aside0.mk hl
  clear hs hf hl
  go_enter Try.func72, Try.ntmps72
  have hlg : Aside0 (go < W.heap.size) := ⟨(Array.getElem?_eq_some_iff.1 HS.out.out).1⟩
  have hlc : Aside0 (gc < W.heap.size) := ⟨(Array.getElem?_eq_some_iff.1 HS.out.cred).1⟩
  go_wp2_with ((with_reducible refine gate_builtin (b := .append) (xs := #[.tmp 6, .tmp 13]) rfl ?_); at_builtin; refine Kd.R_append DK (w0 := w0) base rfl (.tmp 6) (.tmp 13) 75 78 (.agg #[(.int .i64 0), (.int .i64 0), (.int .i64 0), .slice none 0 0]) 48 rfl Try.underlying75 info_d rfl (by decide) (by decide) v xs (ow, on, who, fl) [.int .i64 ow, .int .i64 on, .int .i64 who, .slice Af nf cf] (fun k => k ≠ go ∧ k ≠ gc) (fun k => (k ≠ go ∧ k ≠ gc) ∧ ∃ cells, W.heap[k]? = some (.cells cells 3 (0, 0))) rfl rfl ?aP ?aQ ?aF HS.out.rows HS.out.bel HS.out.le ?aL ?_; (case aP => exact dk_mk HF.out); (case aQ => exact fun k hk => ⟨hk.1, by obtain ⟨_, cs, hc⟩ := hk; exact Kd.R_ne HS.out.rows hc (by decide)⟩); (case aF => exact fun k hk => ⟨fun e => by have := hlg.out; omega, fun e => by have := hlc.out; omega⟩); (case aL => have := HL.out; omega); intro v5 w5 ho hb hgr hat; obtain ⟨A5, c5, rfl⟩ := Kd.R_slice ho; rw [show (xs ++ [(ow, on, who, fl)]).length = xs.length + 1 from List.length_append] at ho; have hne : some go ≠ v.ownBlock := fun e => (HS.out.rows.1 go e.symm).1 rfl; have ho5 := (hgr.block go hlg.out hne).trans HS.out.out; have e5 := cell_at ho5 0 v rfl; have f5 := frozen_at ho5 0; have HO5 := Aside0.mk ho5; have HN := Aside0.mk hne; have HO := Aside0.mk ho; have HB := Aside0.mk hb; have HG := Aside0.mk hgr; clear ho5 hne ho hb hgr hat)
  go_end0
  have hsw : ∀ g, g ≠ go → (w5.setCell ⟨go, 0, none⟩ (.slice A5 (xs.length + 1) c5)).heap[g]? = w5.heap[g]? := fun g hg => Below.heap_setCell w5 ⟨go, 0, none⟩ _ g hg
  have hsz : (w5.setCell ⟨go, 0, none⟩ (.slice A5 (xs.length + 1) c5)).heap.size = w5.heap.size := by simp [World.setCell]
  have hnc : some gc ≠ v.ownBlock := fun e => (HS.out.rows.1 gc e.symm).2 rfl
  refine ⟨rfl, _, ⟨set_self HO5.out, ?_, HS.out.bo, HS.out.bc, Kd.R_far HO.out (p := ⟨go, 0, none⟩) (fun k hk => hk.1) _, ?_, ?_⟩, ?_, ?_⟩
  · rw [hsw gc (fun e => HS.out.ne e.symm), HG.out.block gc hlc.out hnc]
    exact HS.out.cred
  · exact HB.out.setCell HS.out.bo _
  · rw [hsz]; exact Nat.le_trans HS.out.le HG.out.size
  · rw [hsz]; exact HG.out.size
  · intro g hg h1 h2
    rw [hsw g h1]
    exact HG.out.block g hg h2
theorem keep_row {W W' : World} {base go : Nat} {ok ok2 : Nat → Prop} {vp v : Value} {p : List Int} {xs : List (Int × Int × Int × List Int)} (h : Kd.R (Kd.int .i64) 3 W base ok vp p) (hv : Kd.R DK 78 W base ok2 v xs) (hok : ∀ k, ok k → k ≠ go)
    (hk : ∀ g, g < W.heap.size → g ≠ go → some g ≠ v.ownBlock → W'.heap[g]? = W.heap[g]?) : Kd.R (Kd.int .i64) 3 W' base ok vp p := by
  refine Kd.R_mono (Kd.R_step (Kd.R_bound h) (fun k ho hlt => hk k hlt (hok k ho.1) ?_)) (fun k hk => hk.1)
  obtain ⟨_, _, _, q, hq, cells, hc⟩ := ho
  obtain rfl : q = 3 := by rcases List.mem_cons.1 hq with h | h; exact h; cases h
  exact Kd.R_ne hv hc (by decide)
theorem alloc_sz (w : World) (o : Obj) : (w.alloc o).heap.size = w.heap.size + 1 := Array.size_push ..
theorem alloc_ne (w : World) (o : Obj) : (w.alloc o).heap.size ≠ w.heap.size := by rw [alloc_sz]; omega
theorem alloc_le (w : World) (o : Obj) : w.heap.size ≤ (w.alloc o).heap.size := by rw [alloc_sz]; omega
theorem alloc_at (w : World) (o : Obj) : (w.alloc o).heap[w.heap.size]? = some o := Array.getElem?_push_size ..
theorem alloc_old (w : World) (o : Obj) (g : Nat) (h : g < w.heap.size) : (w.alloc o).heap[g]? = w.heap[g]? := (World.grownBy_alloc w o none).block g h (by simp)
theorem st_start (w w1 : World) (c : Array Value) (A1 : Option Addr) (c1 : Nat) (hR : Kd.R DK 78 w1 w.heap.size (fun k => k ≠ w.heap.size) (.slice A1 0 c1) []) (hB : Below w.heap.size w w1) (hG : (w.alloc (.cells c 29)).grownBy w1 none) :
    St w (w1.alloc (.cells #[Value.slice A1 0 c1] 75)) w.heap.size w1.heap.size w.heap.size (.slice A1 0 c1) [] c := by
  have hge : w.heap.size + 1 ≤ w1.heap.size := by have := hG.size; rw [alloc_sz] at this; exact this
  refine ⟨alloc_at _ _, ?_, by omega, Nat.le_refl _, ?_, below_alloc hB _, by rw [alloc_sz]; omega⟩
  · rw [alloc_old _ _ _ (by omega), hG.block _ (by rw [alloc_sz]; omega) (by simp)]
    exact alloc_at _ _
  · exact Kd.R_mono (Kd.R_alloc (Kd.R_bound hR) _) (fun k hk => ⟨by have := hk.2.2.1; omega, hk.1⟩)
def flatM {α : Type} (g : Int → Option (List α)) : List Int → Option (List α)
  | [] => some []
  | i :: l => (g i).bind fun a => (flatM g l).bind fun b => some (a ++ b)
abbrev DV := Int × Int × Int × List Int
def g2 (n : Nat) (ow on : Int) (who : Int → Int) (i : Int) : Option (List DV) := if 0 ≤ i ∧ i < (n : Int) then some [(ow, on, who i, [i])] else none
def g3b (n : Nat) (ow on : Int) (who : Int → Int) (i j : Int) : Option (List DV) := if 0 ≤ j ∧ j < (n : Int) then some [(ow, on, who j, [i, j])] else none
def g3 (n : Nat) (whoR : Int → Int → Option (List Int)) (who : Int → Int) (ow on bn : Int) (i : Int) : Option (List DV) := if 0 ≤ i ∧ i < (n : Int) then (whoR (who i) bn).bind fun p2 => flatM (g3b n ow on who i) p2 else none
def g4 (n : Nat) (idx : Int → Int → Int → Option Int) (who : Int → Int) (ow on bw bn : Int) (i : Int) : Option (List DV) := if 0 ≤ i ∧ i < (n : Int) then (idx bw bn (who i)).bind fun j => if j ≥ 0 then some [(ow, on, who i, [i, j])] else some [] else none
/-- What derive tells: n how many facts there are, who i the one of the fact i, whoR the places of a circle, idx the place of a fact. -/
def deriveL (n : Nat) (whoR : Int → Int → Option (List Int)) (idx : Int → Int → Int → Option Int) (who : Int → Int) (k ow on wh aw an bw bn : Int) : Option (List DV) :=
  if k = 1 then some [(ow, on, wh, [])]
  else if k = 2 then (whoR aw an).bind fun p => flatM (g2 n ow on who) p
  else if k = 3 then (whoR aw an).bind fun p => flatM (g3 n whoR who ow on bn) p
  else if k = 4 then (whoR aw an).bind fun p => flatM (g4 n idx who ow on bw bn) p
  else some []
theorem flatM_cons {α : Type} {g : Int → Option (List α)} {i : Int} {l : List Int} {r : List α} (h : flatM g (i :: l) = some r) : ∃ a b, g i = some a ∧ flatM g l = some b ∧ r = a ++ b := by
  rw [flatM] at h
  obtain ⟨a, ha, h⟩ := Option.bind_eq_some_iff.1 h
  obtain ⟨b, hb, h⟩ := Option.bind_eq_some_iff.1 h
  exact ⟨a, b, ha, hb, (Option.some.inj h).symm⟩
theorem drop_int (l : List Int) (i : Nat) (h : i < l.length) : l.drop i = rd l (i : Int) :: l.drop (i + 1) := by
  rw [List.drop_eq_getElem_cons h]
  congr 1
  unfold rd
  simp [List.getD_eq_getElem?_getD, h]
theorem w64s' (n : Nat) (h : n ≤ 1000000000000) : wrap64 ((n : Int) + 1) = ((n + 1 : Nat) : Int) := (IntWalk.wrap64_in _ ⟨by omega, by omega⟩).trans (by omega)
theorem St.step {w0 W W2 : World} {base go gc : Nat} {v : Value} {xs : List DV} {c : Array Value} (h : St w0 W base go gc v xs c) (hk : ∀ g, g < W.heap.size → W2.heap[g]? = W.heap[g]?) (hle : W.heap.size ≤ W2.heap.size) (hb : Below base w0 W2) : St w0 W2 base go gc v xs c :=
  ⟨(hk go (Array.getElem?_eq_some_iff.1 h.out).1).trans h.out, (hk gc (Array.getElem?_eq_some_iff.1 h.cred).1).trans h.cred, h.bo, h.bc, Kd.R_step h.rows (fun k _ hlt => hk k hlt), hb, Nat.le_trans h.le hle⟩
theorem St.below {w0 W W2 : World} {base go gc : Nat} {v : Value} {xs : List DV} {c : Array Value} (h : St w0 W base go gc v xs c) (hb : Below W.heap.size W W2) : St w0 W2 base go gc v xs c :=
  h.step (fun g hg => hb.block g hg) hb.size (below_then h.bel h.le hb)
theorem St.lt {w0 W : World} {base go gc : Nat} {v : Value} {xs : List DV} {c : Array Value} (h : St w0 W base go gc v xs c) : go < W.heap.size ∧ gc < W.heap.size := ⟨(Array.getElem?_eq_some_iff.1 h.out).1, (Array.getElem?_eq_some_iff.1 h.cred).1⟩
theorem fresh_row {W W2 : World} {base go gc : Nat} {vp : Value} {p : List Int} (h : Kd.R (Kd.int .i64) 3 W2 W.heap.size (fun _ => True) vp p) (hb : base ≤ W.heap.size) (hl : go < W.heap.size ∧ gc < W.heap.size) : Kd.R (Kd.int .i64) 3 W2 base (fun k => k ≠ go ∧ k ≠ gc) vp p :=
  Kd.R_lower (Kd.R_mono (Kd.R_bound h) (fun k hk => ⟨by have := hk.2.1; omega, by have := hk.2.1; omega⟩)) hb
theorem row_step {W W2 : World} {base : Nat} {ok : Nat → Prop} {vp : Value} {p : List Int} (h : Kd.R (Kd.int .i64) 3 W base ok vp p) (hk : ∀ g, g < W.heap.size → W2.heap[g]? = W.heap[g]?) : Kd.R (Kd.int .i64) 3 W2 base ok vp p := Kd.R_step h (fun k _ hlt => hk k hlt)
theorem lit_own {W : World} {base go gc : Nat} (inner : List Value) (hl : base ≤ W.heap.size) (hlt : go < W.heap.size ∧ gc < W.heap.size) {p : List Int} (hp : inner.length = p.length) (hp2 : p.length ≤ 1000) (hr : ∀ ok, Reps ((Kd.int .i64).M (W.alloc (.cells inner.toArray 3)) base ok) 1 p inner) :
    Kd.R (Kd.int .i64) 3 (W.alloc (.cells inner.toArray 3)) base (fun k => k ≠ go ∧ k ≠ gc) (.slice (some ⟨W.heap.size, 0, none⟩) p.length p.length) p := by
  refine ⟨fun k hk => ?_, inner, ?_, hr _⟩
  · have : W.heap.size = k := by simpa [Value.ownBlock] using hk
    omega
  · have h2 := World.ownsRow_lit (base := base) (e := 3) (size := 1) W inner.toArray p.length hl (by simp only [maxLen]; omega) (by simp [hp])
    have h3 : (W.alloc (Obj.cells inner.toArray 3)).ownsRow base 3 1 (.slice (some ⟨W.heap.size, 0, none⟩) p.length p.length) p.length inner := by simpa using h2
    exact h3
theorem lit1 {W : World} {base go gc : Nat} (i : Int) (hl : base ≤ W.heap.size) (hlt : go < W.heap.size ∧ gc < W.heap.size) : Kd.R (Kd.int .i64) 3 (W.alloc (.cells #[.int .i64 i] 3)) base (fun k => k ≠ go ∧ k ≠ gc) (.slice (some ⟨W.heap.size, 0, none⟩) 1 1) [i] :=
  lit_own [.int .i64 i] hl hlt rfl (by simp) (fun ok => Reps.one (show Kd.M (Kd.int .i64) _ _ _ i [.int .i64 i] from rfl) (Reps.none _ _))
theorem lit2 {W : World} {base go gc : Nat} (i j : Int) (hl : base ≤ W.heap.size) (hlt : go < W.heap.size ∧ gc < W.heap.size) : Kd.R (Kd.int .i64) 3 (W.alloc (.cells #[.int .i64 i, .int .i64 j] 3)) base (fun k => k ≠ go ∧ k ≠ gc) (.slice (some ⟨W.heap.size, 0, none⟩) 2 2) [i, j] :=
  lit_own [.int .i64 i, .int .i64 j] hl hlt rfl (by simp) (fun ok => Reps.one (show Kd.M (Kd.int .i64) _ _ _ i [.int .i64 i] from rfl) (Reps.one (show Kd.M (Kd.int .i64) _ _ _ j [.int .i64 j] from rfl) (Reps.none _ _)))
theorem St.alloc {w0 W : World} {base go gc : Nat} {v : Value} {xs : List DV} {c : Array Value} (h : St w0 W base go gc v xs c) (o : Obj) : St w0 (W.alloc o) base go gc v xs c :=
  h.step (fun g hg => alloc_old W o g hg) (alloc_le W o) (h.bel.alloc h.le o)
theorem St.drew {w0 W : World} {base go gc : Nat} {v : Value} {xs : List DV} {c : Array Value} (h : St w0 W base go gc v xs c) : St w0 W.drew base go gc v xs c :=
  h.step (W2 := W.drew) (fun _ _ => rfl) (Nat.le_refl _) (below_drew h.bel)
theorem cell_drew {w : World} {a : Addr} {v : Option Value} (h : w.cell? a = v) : w.drew.cell? a = v := h
/-- Behind put, over a row made ahead of it: what the loop's row holds. -/
theorem keep_row2 {W W' : World} {base go gc : Nat} {o : Obj} {vp v : Value} {p : List Int} {xs : List DV} (h : Kd.R (Kd.int .i64) 3 W base (fun k => k ≠ go ∧ k ≠ gc) vp p) (hv : Kd.R DK 78 (W.alloc o) base (fun k => k ≠ go ∧ k ≠ gc) v xs)
    (hk : ∀ g, g < (W.alloc o).heap.size → g ≠ go → some g ≠ v.ownBlock → W'.heap[g]? = (W.alloc o).heap[g]?) : Kd.R (Kd.int .i64) 3 W' base (fun k => k ≠ go ∧ k ≠ gc) vp p :=
  keep_row (Kd.R_alloc h o) hv (fun k hk => hk.1) hk
set_option maxHeartbeats 8000000 in
set_option maxRecDepth 100000 in
theorem derive_calls (A0 : Option Addr) (n c0 : Nat) (whoR : Int → Int → Option (List Int)) (idx : Int → Int → Int → Option Int) (who : Int → Int) (k ow on wh aw an bw bn un nn : Int) (r : List DV) (hr : r.length ≤ 4000000) (w : World)
    (hwho : ∀ x y p, whoR x y = some p → ∀ W, Below w.heap.size w W → Calls Try.prog 73 #[.slice A0 n c0, .agg #[.int .i64 x, .int .i64 y]] W fun e w' => ∃ v, e = .returned v ∧ Kd.R (Kd.int .i64) 3 w' W.heap.size (fun _ => True) v p ∧ Below W.heap.size W w')
    (hidx : ∀ x y z j, idx x y z = some j → ∀ W, Below w.heap.size w W → Calls Try.prog 74 #[.slice A0 n c0, .agg #[.int .i64 x, .int .i64 y, .int .i64 z]] W fun e w' => e = .returned (.int .i64 j) ∧ Below W.heap.size W w')
    (hat : ∀ W, Below w.heap.size w W → ∀ i : Int, 0 ≤ i → i < (n : Int) → ∃ a, A0 = some a ∧ W.cell? ⟨(a.add (i.toNat * 3)).block, (a.add (i.toNat * 3)).off + 2, none⟩ = some (.int .i64 (who i)))
    (hsm : ∀ x y p, whoR x y = some p → p.length ≤ 1000000000) (h : deriveL n whoR idx who k ow on wh aw an bw bn = some r) :
    Calls Try.prog 51 #[.slice A0 n c0, .agg (box k ow on wh aw an bw bn un nn)] w fun e w' => ∃ v, e = .returned v ∧ Kd.R DK 78 w' w.heap.size (fun k => w.heap.size ≤ k) v r ∧ Below w.heap.size w w' := by
  have H := Aside0.mk h
  have HW := Aside0.mk hwho
  have HX := Aside0.mk hidx
  have HA := Aside0.mk hat
  have HR := Aside0.mk hr
  have HSM := Aside0.mk hsm
  clear h hwho hidx hat hr hsm
  go_enter Try.func51, Try.ntmps51
  go_upto_region 3 with ((with_reducible refine gate_dst (N := 16) rfl ?_); (try (refine gate_guard (by rfl) ?_; dsimp only)); refine Kd.R_lit DK w.heap.size 78 ?hg (N := 16) ?hd (xs := ([] : List (Int × Int × Int × List Int))) (inner := []) (ok := fun k => k ≠ w.heap.size) (okp := fun _ => False) ?hr ?hp (fun _ hk => hk.elim) ?hf (below_alloc (Below.refl _ _) _) ?hs (by simp) ?_; (case hd => rfl); (case hg => rfl); (case hr => first | (go_simp; done) | (go_simp; rfl)); (case hp => exact (Reps.none _ _)); (case hf => exact alloc_ne _ _); (case hs => exact alloc_le _ _); intro v1 w1 hR hB hG hN; obtain ⟨A1, c1, rfl⟩ := Kd.R_slice hR; simp only [List.length_nil] at hR)
  have HS := Aside0.mk (st_start w w1 _ A1 c1 hR hB hG)
  clear hR hB hG hN
  generalize w1.alloc (Obj.cells #[Value.slice A1 0 c1] 75) = W at HS ⊢
  generalize w1.heap.size = go at HS ⊢
  have hk0 := cell_at HS.out.cred 0 (.int .i64 k) rfl
  by_cases k1 : k = 1
  · subst k1
    have hk3 := cell_at HS.out.cred 3 (.int .i64 wh) rfl
    go_wp2_with fail
    refine (put_calls w W w.heap.size go w.heap.size wh 1 ow on wh aw an bw bn un nn none 0 0 _ [] [] (by simp) HS.out (Kd.R_nil _ _ _ _ _)).mono ?_
    rintro e w2 ⟨rfl, v', hs', hle, hkp⟩
    have hg0 := cell_at hs'.out 0 v' rfl
    have HS2 := Aside0.mk hs'
    clear hs' hle hkp hk0 hk3
    go_wp2_with fail
    go_ret
    have hr1 : r = [] ++ [(ow, on, wh, [])] := by have h := H.out; unfold deriveL at h; rw [if_pos rfl] at h; exact (Option.some.inj h).symm
    rw [hr1]
    exact ⟨_, rfl, Kd.R_mono (Kd.R_bound HS2.out.rows) (fun k hk => hk.2.1), HS2.out.bel⟩
  by_cases k2 : k = 2
  · subst k2
    obtain ⟨p, hp, hg⟩ : ∃ p, whoR aw an = some p ∧ flatM (g2 n ow on who) p = some r := by
      have h := H.out
      unfold deriveL at h
      rw [if_neg (by decide), if_pos rfl] at h
      exact Option.bind_eq_some_iff.1 h
    have HP0 := Aside0.mk hp
    have HG0 := Aside0.mk hg
    have HL : Aside0 (p.length ≤ 1000000000) := ⟨HSM.out _ _ _ hp⟩
    clear hp hg k1
    have hk4 := cell_at HS.out.cred 4 (.int .i64 aw) rfl
    have hk5 := cell_at HS.out.cred 5 (.int .i64 an) rfl
    go_wp2_with fail
    refine (HW.out aw an p HP0.out W HS.out.bel).mono ?_
    rintro e w2 ⟨v31, rfl, hp2, hb2⟩
    have HP := Aside0.mk (fresh_row hp2 HS.out.le HS.out.lt)
    have HS2 := Aside0.mk (HS.out.below hb2)
    clear hp2 hb2 HS hk0 hk4 hk5
    obtain ⟨A31, c31, e31⟩ := Kd.R_slice HP.out
    subst e31
    go_wp2_with fail
    go_loopg [33] (p.length + 2) (fun kq v33 w' => ∃ (j : Nat) (v : Value) (xs rest : List DV), v33 = .int .i64 (j : Int) ∧ j + kq = p.length + 2 ∧ j ≤ p.length ∧ Aside0 (flatM (g2 n ow on who) (p.drop j) = some rest) ∧ Aside0 (xs ++ rest = r) ∧ Aside0 (St w w' w.heap.size go w.heap.size v xs (box 2 ow on wh aw an bw bn un nn)) ∧ Aside0 (Kd.R (Kd.int .i64) 3 w' w.heap.size (fun k => k ≠ go ∧ k ≠ w.heap.size) (.slice A31 p.length c31) p))
    case atStart => exact ⟨0, _, [], r, rfl, by omega, by omega, HG0, ⟨rfl⟩, HS2, HP⟩
    case round =>
      clear HS2 HP
      obtain ⟨j, v, xs, rest, rfl, hk, hj, HG, HE, HS, HP⟩ := hrel
      by_cases hlt : j < p.length
      · have hC := (Kd.R_reads' HP.out).2.2
        obtain ⟨ad, ea, hx⟩ := Kd.at_int hC (j : Int) (by omega) (by omega)
        cases ea
        have hlt2 : (j : Int) < (p.length : Int) := by omega
        obtain ⟨i, hi⟩ : ∃ i, rd p (j : Int) = i := ⟨_, rfl⟩
        rw [hi] at hx
        replace hx : wr.cell? (ad.add j) = some (.int .i64 i) := hx
        have hgj := HG.out
        rw [drop_int p j hlt, hi] at hgj
        obtain ⟨a, b, ha, hb, hrest⟩ := flatM_cons hgj
        unfold g2 at ha
        by_cases hbd : 0 ≤ i ∧ i < (n : Int)
        · rw [if_pos hbd] at ha
          obtain rfl := Option.some.inj ha
          obtain ⟨hb0, hb1⟩ := hbd
          obtain ⟨af, ef, hc⟩ := HA.out wr HS.out.bel i hb0 hb1
          cases ef
          have HB' := Aside0.mk hb
          have HRest := Aside0.mk hrest
          clear hgj ha hb hrest hC hi
          have hxl : Aside0 (xs.length ≤ 4000000) := ⟨by have h1 := HR.out; rw [← HE.out, List.length_append] at h1; omega⟩
          go_wp2_with fail
          refine (put_calls w _ w.heap.size go w.heap.size (who i) 2 ow on wh aw an bw bn un nn _ 1 1 v [i] xs hxl.out (HS.out.alloc _) (lit1 i HS.out.le HS.out.lt)).mono ?_
          rintro e w3 ⟨rfl, v', hs', hle, hkp⟩
          have HS3 := Aside0.mk hs'
          have HP3 := Aside0.mk (keep_row2 HP.out (HS.out.alloc _).rows hkp)
          clear hs' hle hkp HS HP hx hc
          go_wp2_with fail
          go_roundg (gk - 1)
          case measure => omega
          case rel => exact ⟨j + 1, v', xs ++ [(ow, on, who i, [i])], b, congrArg (Value.int IntKind.i64) (w64s' j (by have := HL.out; omega)), by omega, by omega, HB', ⟨by rw [← HE.out, HRest.out, List.append_assoc]⟩, HS3, HP3⟩
        · rw [if_neg hbd] at ha
          exact absurd ha (by simp)
      · have hj2 : j = p.length := by omega
        subst hj2
        have hrest : rest = [] := by have h := HG.out; rw [List.drop_length, flatM] at h; exact (Option.some.inj h).symm
        have HXR : Aside0 (xs = r) := ⟨by rw [← HE.out, hrest, List.append_nil]⟩
        have hg0 := cell_at HS.out.out 0 v rfl
        clear hrest
        go_wp2_with fail
        go_ret
        rw [← HXR.out]
        exact ⟨_, rfl, Kd.R_mono (Kd.R_bound HS.out.rows) (fun k hk => hk.2.1), HS.out.bel⟩
  by_cases k3 : k = 3
  · subst k3
    obtain ⟨p, hp, hg⟩ : ∃ p, whoR aw an = some p ∧ flatM (g3 n whoR who ow on bn) p = some r := by
      have h := H.out
      unfold deriveL at h
      rw [if_neg (by decide), if_neg (by decide), if_pos rfl] at h
      exact Option.bind_eq_some_iff.1 h
    have HP0 := Aside0.mk hp
    have HG0 := Aside0.mk hg
    have HL : Aside0 (p.length ≤ 1000000000) := ⟨HSM.out _ _ _ hp⟩
    clear hp hg k1 k2
    have hk4 := cell_at HS.out.cred 4 (.int .i64 aw) rfl
    have hk5 := cell_at HS.out.cred 5 (.int .i64 an) rfl
    go_wp2_with fail
    refine (HW.out aw an p HP0.out W HS.out.bel).mono ?_
    rintro e w2 ⟨v31, rfl, hp2, hb2⟩
    have HP := Aside0.mk (fresh_row hp2 HS.out.le HS.out.lt)
    have HS2 := Aside0.mk (HS.out.below hb2)
    clear hp2 hb2 HS hk0 hk4 hk5
    obtain ⟨A31, c31, e31⟩ := Kd.R_slice HP.out
    subst e31
    go_wp2_with fail
    go_loopg [54] (p.length + 2) (fun kq v54 w' => ∃ (j : Nat) (v : Value) (xs rest : List DV), v54 = .int .i64 (j : Int) ∧ j + kq = p.length + 2 ∧ j ≤ p.length ∧ Aside0 (flatM (g3 n whoR who ow on bn) (p.drop j) = some rest) ∧ Aside0 (xs ++ rest = r) ∧ Aside0 (St w w' w.heap.size go w.heap.size v xs (box 3 ow on wh aw an bw bn un nn)) ∧ Aside0 (Kd.R (Kd.int .i64) 3 w' w.heap.size (fun k => k ≠ go ∧ k ≠ w.heap.size) (.slice A31 p.length c31) p))
    case atStart => exact ⟨0, _, [], r, rfl, by omega, by omega, HG0, ⟨rfl⟩, HS2, HP⟩
    case round =>
      clear HS2 HP
      obtain ⟨j, v, xs, rest, rfl, hk, hj, HG, HE, HS, HP⟩ := hrel
      by_cases hlt : j < p.length
      · have hC := (Kd.R_reads' HP.out).2.2
        obtain ⟨ad, ea, hx⟩ := Kd.at_int hC (j : Int) (by omega) (by omega)
        cases ea
        have hlt2 : (j : Int) < (p.length : Int) := by omega
        obtain ⟨i, hi⟩ : ∃ i, rd p (j : Int) = i := ⟨_, rfl⟩
        rw [hi] at hx
        replace hx : wr.cell? (ad.add j) = some (.int .i64 i) := hx
        have hgj := HG.out
        rw [drop_int p j hlt, hi] at hgj
        obtain ⟨a, b, ha, hb, hrest⟩ := flatM_cons hgj
        unfold g3 at ha
        by_cases hbd : 0 ≤ i ∧ i < (n : Int)
        · rw [if_pos hbd] at ha
          obtain ⟨p2, hp2, ha⟩ := Option.bind_eq_some_iff.1 ha
          obtain ⟨hb0, hb1⟩ := hbd
          obtain ⟨af, ef, hc⟩ := HA.out wr HS.out.bel i hb0 hb1
          cases ef
          have hk7 := cell_at HS.out.cred 7 (.int .i64 bn) rfl
          have HB' := Aside0.mk hb
          have HRest := Aside0.mk hrest
          have HP2 := Aside0.mk hp2
          have HAQ := Aside0.mk ha
          have HL2 : Aside0 (p2.length ≤ 1000000000) := ⟨HSM.out _ _ _ hp2⟩
          clear hgj ha hb hrest hC hi hp2
          go_wp2_with fail
          refine start_ (n := 13) (S := fun w' => w'.cell? ⟨(af.add (i.toNat * 3)).block, (af.add (i.toNat * 3)).off + 2, none⟩ = some (.int .i64 (who i)) ∧ w'.cell? ⟨w.heap.size, 7, none⟩ = some (.int .i64 bn)) (ds := [10]) #[false, false, false, false, false, false, false, false, false, false, false, false, false] (by kernel_rfl) rfl rfl ⟨cell_drew hc, cell_drew hk7⟩ (fun hHeld => ?_)
          refine pure_ (i := 0) (N := some 58) (v := ?_) (a' := ?_) #[true, false, false, false, false, false, false, false, false, false, false, false, false] rfl rfl (by kernel_rfl) (fun _ _ _ h => h) (Or.inl ⟨by rfl, ?_⟩) ?_ ?_
          rotate_left
          · intro w'
            go_simp
            with_reducible rfl
          rotate_left
          · simp only [Act.put, List.setIfInBounds_toArray, List.set_cons_zero, List.set_cons_succ, i64_w, i32_w]
            rfl
          refine pure_ (i := 1) (N := some 59) (v := ?_) (a' := ?_) #[true, true, false, false, false, false, false, false, false, false, false, false, false] rfl rfl (by kernel_rfl) (fun _ _ _ h => h) (Or.inl ⟨by rfl, ?_⟩) ?_ ?_
          rotate_left
          · intro w'
            go_simp
            with_reducible rfl
          rotate_left
          · simp only [Act.put, List.setIfInBounds_toArray, List.set_cons_zero, List.set_cons_succ, i64_w, i32_w]
            rfl
          refine pure_ (i := 2) (N := some 60) (v := ?_) (a' := ?_) #[true, true, true, false, false, false, false, false, false, false, false, false, false] rfl rfl (by kernel_rfl) (fun _ _ _ h => h) (Or.inl ⟨by rfl, ?_⟩) ?_ ?_
          rotate_left
          · intro w'
            go_simp
            with_reducible rfl
          rotate_left
          · simp only [Act.put, List.setIfInBounds_toArray, List.set_cons_zero, List.set_cons_succ, i64_w, i32_w]
            rfl
          refine pure_ (i := 3) (N := some 61) (v := ?_) (a' := ?_) #[true, true, true, true, false, false, false, false, false, false, false, false, false] rfl rfl (by kernel_rfl) (fun _ _ _ h => h) (Or.inl ⟨by rfl, ?_⟩) ?_ ?_
          rotate_left
          · intro w'
            go_simp
            with_reducible rfl
          rotate_left
          · simp only [Act.put, List.setIfInBounds_toArray, List.set_cons_zero, List.set_cons_succ, i64_w, i32_w]
            rfl
          refine pure_ (i := 4) (N := some 62) (v := ?_) (a' := ?_) #[true, true, true, true, true, false, false, false, false, false, false, false, false] rfl rfl (by kernel_rfl) (fun _ _ _ h => h) (Or.inl ⟨by rfl, ?_⟩) ?_ ?_
          rotate_left
          · intro w'
            go_simp
            with_reducible rfl
          rotate_left
          · simp only [Act.put, List.setIfInBounds_toArray, List.set_cons_zero, List.set_cons_succ, i64_w, i32_w]
            rfl
          refine pure_ (i := 6) (N := some 64) (v := ?_) (a' := ?_) #[true, true, true, true, true, false, true, false, false, false, false, false, false] rfl rfl (by kernel_rfl) (fun _ _ _ h => h) (Or.inl ⟨by rfl, ?_⟩) ?_ ?_
          rotate_left
          · intro w'
            go_simp
            with_reducible rfl
          rotate_left
          · simp only [Act.put, List.setIfInBounds_toArray, List.set_cons_zero, List.set_cons_succ, i64_w, i32_w]
            rfl
          refine pure_ (i := 7) (N := some 65) (v := ?_) (a' := ?_) #[true, true, true, true, true, false, true, true, false, false, false, false, false] rfl rfl (by kernel_rfl) (fun _ _ _ h => h) (Or.inl ⟨by rfl, ?_⟩) ?_ ?_
          rotate_left
          · intro w'
            go_simp
            with_reducible rfl
          rotate_left
          · simp only [Act.put, List.setIfInBounds_toArray, List.set_cons_zero, List.set_cons_succ, i64_w, i32_w]
            rfl
          refine pure_ (i := 12) (N := some 70) (v := ?_) (a' := ?_) #[true, true, true, true, true, false, true, true, false, false, false, false, true] rfl rfl (by kernel_rfl) (fun _ _ _ h => h) (Or.inl ⟨by rfl, ?_⟩) ?_ ?_
          rotate_left
          · intro w'
            go_simp
            with_reducible rfl
          rotate_left
          · simp only [Act.put, List.setIfInBounds_toArray, List.set_cons_zero, List.set_cons_succ, i64_w, i32_w]
            rfl
          refine take_ (i := 5) (N := some 63) (v := ?_) (a' := ?_) #[true, true, true, true, true, true, true, true, false, false, false, false, true] rfl rfl (by kernel_rfl) (fun _ _ _ h => h) (Or.inl ⟨by rfl, ?_⟩) hHeld ?_ ?_
          rotate_left
          · rintro w' ⟨s0, s1⟩
            go_simp
            with_reducible rfl
          rotate_left
          · simp only [Act.put, List.setIfInBounds_toArray, List.set_cons_zero, List.set_cons_succ, i64_w, i32_w]
            rfl
          refine take_ (i := 8) (N := some 66) (v := ?_) (a' := ?_) #[true, true, true, true, true, true, true, true, true, false, false, false, true] rfl rfl (by kernel_rfl) (fun _ _ _ h => h) (Or.inl ⟨by rfl, ?_⟩) hHeld ?_ ?_
          rotate_left
          · rintro w' ⟨s0, s1⟩
            go_simp
            with_reducible rfl
          rotate_left
          · simp only [Act.put, List.setIfInBounds_toArray, List.set_cons_zero, List.set_cons_succ, i64_w, i32_w]
            rfl
          refine pure_ (i := 9) (N := some 67) (v := ?_) (a' := ?_) #[true, true, true, true, true, true, true, true, true, true, false, false, true] rfl rfl (by kernel_rfl) (fun _ _ _ h => h) (Or.inl ⟨by rfl, ?_⟩) ?_ ?_
          rotate_left
          · intro w'
            go_simp
            with_reducible rfl
          rotate_left
          · simp only [Act.put, List.setIfInBounds_toArray, List.set_cons_zero, List.set_cons_succ, i64_w, i32_w]
            rfl
          refine last_ (i := 10) (N := some 68) #[true, true, true, true, true, true, true, true, true, true, true, false, true] rfl rfl (by kernel_rfl) (by decide) (fun K hK => ?_)
          refine goes_ Try.func73 (by kernel_rfl) rfl #[.slice (some af) n c0, .agg #[.int .i64 (who i), .int .i64 bn]] (by rfl) rfl rfl (by simp only [List.map_toArray, List.map_cons, List.map_nil]; rfl) ?_
          with_reducible refine (HW.out (who i) bn p2 HP2.out _ (below_drew HS.out.bel)).mono ?_
          rintro e w3 ⟨v68, rfl, hp2, hb2⟩
          refine ⟨_, rfl, ?_⟩
          have HQ := Aside0.mk (fresh_row hp2 HS.out.le HS.out.lt)
          have HS3 := Aside0.mk (HS.out.drew.below hb2)
          have HP3 := Aside0.mk (Kd.R_below (Kd.R_drew HP.out) hb2)
          obtain ⟨A68, c68, e68⟩ := Kd.R_slice HQ.out
          subst e68
          clear hp2 hb2
          refine hK.out _ _ ?_
          clear hK K
          refine norm_ (a' := ?_) ?_ ?_
          rotate_left
          · show Act.put _ (some 68) _ = _
            simp only [Act.put, List.setIfInBounds_toArray, List.set_cons_zero, List.set_cons_succ, i64_w, i32_w]
            rfl
          refine pure_ (i := 11) (N := some 69) (v := ?_) (a' := ?_) #[true, true, true, true, true, true, true, true, true, true, true, true, true] rfl rfl (by kernel_rfl) (fun _ _ _ h => h) (Or.inl ⟨by rfl, ?_⟩) ?_ ?_
          rotate_left
          · intro w'
            go_simp
            with_reducible rfl
          rotate_left
          · simp only [Act.put, List.setIfInBounds_toArray, List.set_cons_zero, List.set_cons_succ, i64_w, i32_w]
            rfl
          refine done_ (by kernel_rfl) ?_
          clear hk7 hx hc HS HP
          go_wp2_with fail
          obtain ⟨gko, rfl⟩ : ∃ n, gk = n + 1 := ⟨gk - 1, by omega⟩
          go_loopg [70] (p2.length + 2) (fun kq v70 w' => ∃ (m : Nat) (v : Value) (xs rest2 : List DV), v70 = .int .i64 (m : Int) ∧ m + kq = p2.length + 2 ∧ m ≤ p2.length ∧ Aside0 (flatM (g3b n ow on who i) (p2.drop m) = some rest2) ∧ Aside0 (xs ++ rest2 ++ b = r) ∧ Aside0 (St w w' w.heap.size go w.heap.size v xs (box 3 ow on wh aw an bw bn un nn)) ∧ Aside0 (Kd.R (Kd.int .i64) 3 w' w.heap.size (fun k => k ≠ go ∧ k ≠ w.heap.size) (.slice (some ad) p.length c31) p) ∧ Aside0 (Kd.R (Kd.int .i64) 3 w' w.heap.size (fun k => k ≠ go ∧ k ≠ w.heap.size) (.slice A68 p2.length c68) p2))
          case atStart => exact ⟨0, v, xs, a, rfl, by omega, by omega, HAQ, ⟨by rw [← HE.out, HRest.out, List.append_assoc]⟩, HS3, HP3, HQ⟩
          case round =>
            clear HS3 HP3 HQ HE HRest HAQ
            obtain ⟨m, v, xs, rest2, rfl, hkm, hm, HG2, HE, HS, HP, HQ⟩ := hrel
            by_cases hlm : m < p2.length
            · have hC2 := (Kd.R_reads' HQ.out).2.2
              obtain ⟨ad2, ea2, hx2⟩ := Kd.at_int hC2 (m : Int) (by omega) (by omega)
              cases ea2
              have hlm2 : (m : Int) < (p2.length : Int) := by omega
              obtain ⟨i2, hi2⟩ : ∃ i2, rd p2 (m : Int) = i2 := ⟨_, rfl⟩
              rw [hi2] at hx2
              replace hx2 : wr.cell? (ad2.add m) = some (.int .i64 i2) := hx2
              have hgm := HG2.out
              rw [drop_int p2 m hlm, hi2] at hgm
              obtain ⟨a2, b2, ha2, hb2, hrest2⟩ := flatM_cons hgm
              unfold g3b at ha2
              by_cases hbd2 : 0 ≤ i2 ∧ i2 < (n : Int)
              · rw [if_pos hbd2] at ha2
                obtain rfl := Option.some.inj ha2
                obtain ⟨hb20, hb21⟩ := hbd2
                obtain ⟨hc3⟩ : Nonempty (wr.cell? ⟨(af.add (i2.toNat * 3)).block, (af.add (i2.toNat * 3)).off + 2, none⟩ = some (.int .i64 (who i2))) := ⟨by
                  obtain ⟨af', ef', hc'⟩ := HA.out wr HS.out.bel i2 hb20 hb21
                  cases ef'
                  exact hc'⟩
                have HB2 := Aside0.mk hb2
                have HRest2 := Aside0.mk hrest2
                clear hgm ha2 hb2 hrest2 hC2 hi2
                have hxl : Aside0 (xs.length ≤ 4000000) := ⟨by have h1 := HR.out; rw [← HE.out, List.length_append, List.length_append] at h1; omega⟩
                go_wp2_with fail
                refine (put_calls w _ w.heap.size go w.heap.size (who i2) 3 ow on wh aw an bw bn un nn _ 2 2 v [i, i2] xs hxl.out (HS.out.alloc _) (lit2 i i2 HS.out.le HS.out.lt)).mono ?_
                rintro e w4 ⟨rfl, v', hs', hle, hkp⟩
                have HS4 := Aside0.mk hs'
                have HP4 := Aside0.mk (keep_row2 HP.out (HS.out.alloc _).rows hkp)
                have HQ4 := Aside0.mk (keep_row2 HQ.out (HS.out.alloc _).rows hkp)
                clear hs' hle hkp HS HP HQ hc3 hx2
                go_wp2_with fail
                go_roundg (gk - 1)
                case measure => omega
                case rel => exact ⟨m + 1, v', xs ++ [(ow, on, who i2, [i, i2])], b2, congrArg (Value.int IntKind.i64) (w64s' m (by have := HL2.out; omega)), by omega, by omega, HB2, ⟨by rw [← HE.out, HRest2.out, List.append_assoc xs]⟩, HS4, HP4, HQ4⟩
              · rw [if_neg hbd2] at ha2
                exact absurd ha2 (by simp)
            · have hm2 : m = p2.length := by omega
              subst hm2
              have hr2 : rest2 = [] := by have h := HG2.out; rw [List.drop_length, flatM] at h; exact (Option.some.inj h).symm
              have HE2 : Aside0 (xs ++ b = r) := ⟨by rw [← HE.out, hr2, List.append_nil]⟩
              clear hr2 HE HG2
              go_wp2_with fail
              go_roundg gko
              case measure => omega
              case rel => exact ⟨j + 1, v, xs, b, congrArg (Value.int IntKind.i64) (w64s' j (by have := HL.out; omega)), by omega, by omega, HB', HE2, HS, HP⟩
        · rw [if_neg hbd] at ha
          exact absurd ha (by simp)
      · have hj2 : j = p.length := by omega
        subst hj2
        have hrest : rest = [] := by have h := HG.out; rw [List.drop_length, flatM] at h; exact (Option.some.inj h).symm
        have HXR : Aside0 (xs = r) := ⟨by rw [← HE.out, hrest, List.append_nil]⟩
        have hg0 := cell_at HS.out.out 0 v rfl
        clear hrest
        go_wp2_with fail
        go_ret
        rw [← HXR.out]
        exact ⟨_, rfl, Kd.R_mono (Kd.R_bound HS.out.rows) (fun k hk => hk.2.1), HS.out.bel⟩
  by_cases k4 : k = 4
  · subst k4
    obtain ⟨p, hp, hg⟩ : ∃ p, whoR aw an = some p ∧ flatM (g4 n idx who ow on bw bn) p = some r := by
      have h := H.out
      unfold deriveL at h
      rw [if_neg (by decide), if_neg (by decide), if_neg (by decide), if_pos rfl] at h
      exact Option.bind_eq_some_iff.1 h
    have HP0 := Aside0.mk hp
    have HG0 := Aside0.mk hg
    have HL : Aside0 (p.length ≤ 1000000000) := ⟨HSM.out _ _ _ hp⟩
    clear hp hg k1 k2 k3
    have hk4 := cell_at HS.out.cred 4 (.int .i64 aw) rfl
    have hk5 := cell_at HS.out.cred 5 (.int .i64 an) rfl
    go_wp2_with fail
    refine (HW.out aw an p HP0.out W HS.out.bel).mono ?_
    rintro e w2 ⟨v31, rfl, hp2, hb2⟩
    have HP := Aside0.mk (fresh_row hp2 HS.out.le HS.out.lt)
    have HS2 := Aside0.mk (HS.out.below hb2)
    clear hp2 hb2 HS hk0 hk4 hk5
    obtain ⟨A31, c31, e31⟩ := Kd.R_slice HP.out
    subst e31
    go_wp2_with fail
    go_loopg [93] (p.length + 2) (fun kq v93 w' => ∃ (j : Nat) (v : Value) (xs rest : List DV), v93 = .int .i64 (j : Int) ∧ j + kq = p.length + 2 ∧ j ≤ p.length ∧ Aside0 (flatM (g4 n idx who ow on bw bn) (p.drop j) = some rest) ∧ Aside0 (xs ++ rest = r) ∧ Aside0 (St w w' w.heap.size go w.heap.size v xs (box 4 ow on wh aw an bw bn un nn)) ∧ Aside0 (Kd.R (Kd.int .i64) 3 w' w.heap.size (fun k => k ≠ go ∧ k ≠ w.heap.size) (.slice A31 p.length c31) p))
    case atStart => exact ⟨0, _, [], r, rfl, by omega, by omega, HG0, ⟨rfl⟩, HS2, HP⟩
    case round =>
      clear HS2 HP
      obtain ⟨j, v, xs, rest, rfl, hk, hj, HG, HE, HS, HP⟩ := hrel
      by_cases hlt : j < p.length
      · have hC := (Kd.R_reads' HP.out).2.2
        obtain ⟨ad, ea, hx⟩ := Kd.at_int hC (j : Int) (by omega) (by omega)
        cases ea
        have hlt2 : (j : Int) < (p.length : Int) := by omega
        obtain ⟨i, hi⟩ : ∃ i, rd p (j : Int) = i := ⟨_, rfl⟩
        rw [hi] at hx
        replace hx : wr.cell? (ad.add j) = some (.int .i64 i) := hx
        have hgj := HG.out
        rw [drop_int p j hlt, hi] at hgj
        obtain ⟨a, b, ha, hb, hrest⟩ := flatM_cons hgj
        unfold g4 at ha
        by_cases hbd : 0 ≤ i ∧ i < (n : Int)
        · rw [if_pos hbd] at ha
          obtain ⟨q, hq, ha⟩ := Option.bind_eq_some_iff.1 ha
          obtain ⟨hb0, hb1⟩ := hbd
          obtain ⟨af, ef, hc⟩ := HA.out wr HS.out.bel i hb0 hb1
          cases ef
          have hk6 := cell_at HS.out.cred 6 (.int .i64 bw) rfl
          have hk7 := cell_at HS.out.cred 7 (.int .i64 bn) rfl
          have HB' := Aside0.mk hb
          have HRest := Aside0.mk hrest
          have HQ := Aside0.mk hq
          have HAQ := Aside0.mk ha
          clear hgj ha hb hrest hC hi hq
          have hxl : Aside0 (xs.length ≤ 4000000) := ⟨by have h1 := HR.out; rw [← HE.out, List.length_append] at h1; omega⟩
          go_wp2_with fail
          refine start_ (n := 11) (S := fun w' => w'.cell? ⟨(af.add (i.toNat * 3)).block, (af.add (i.toNat * 3)).off + 2, none⟩ = some (.int .i64 (who i)) ∧ w'.cell? ⟨w.heap.size, 6, none⟩ = some (.int .i64 bw) ∧ w'.cell? ⟨w.heap.size, 7, none⟩ = some (.int .i64 bn)) (ds := [9]) #[false, false, false, false, false, false, false, false, false, false, false] (by kernel_rfl) rfl rfl ⟨cell_drew hc, cell_drew hk6, cell_drew hk7⟩ (fun hHeld => ?_)
          refine pure_ (i := 0) (N := some 97) (v := ?_) (a' := ?_) #[true, false, false, false, false, false, false, false, false, false, false] rfl rfl (by kernel_rfl) (fun _ _ _ h => h) (Or.inl ⟨by rfl, ?_⟩) ?_ ?_
          rotate_left
          · intro w'
            go_simp
            with_reducible rfl
          rotate_left
          · simp only [Act.put, List.setIfInBounds_toArray, List.set_cons_zero, List.set_cons_succ, i64_w, i32_w]
            rfl
          refine pure_ (i := 1) (N := some 98) (v := ?_) (a' := ?_) #[true, true, false, false, false, false, false, false, false, false, false] rfl rfl (by kernel_rfl) (fun _ _ _ h => h) (Or.inl ⟨by rfl, ?_⟩) ?_ ?_
          rotate_left
          · intro w'
            go_simp
            with_reducible rfl
          rotate_left
          · simp only [Act.put, List.setIfInBounds_toArray, List.set_cons_zero, List.set_cons_succ, i64_w, i32_w]
            rfl
          refine pure_ (i := 3) (N := some 100) (v := ?_) (a' := ?_) #[true, true, false, true, false, false, false, false, false, false, false] rfl rfl (by kernel_rfl) (fun _ _ _ h => h) (Or.inl ⟨by rfl, ?_⟩) ?_ ?_
          rotate_left
          · intro w'
            go_simp
            with_reducible rfl
          rotate_left
          · simp only [Act.put, List.setIfInBounds_toArray, List.set_cons_zero, List.set_cons_succ, i64_w, i32_w]
            rfl
          refine pure_ (i := 4) (N := some 101) (v := ?_) (a' := ?_) #[true, true, false, true, true, false, false, false, false, false, false] rfl rfl (by kernel_rfl) (fun _ _ _ h => h) (Or.inl ⟨by rfl, ?_⟩) ?_ ?_
          rotate_left
          · intro w'
            go_simp
            with_reducible rfl
          rotate_left
          · simp only [Act.put, List.setIfInBounds_toArray, List.set_cons_zero, List.set_cons_succ, i64_w, i32_w]
            rfl
          refine pure_ (i := 5) (N := some 102) (v := ?_) (a' := ?_) #[true, true, false, true, true, true, false, false, false, false, false] rfl rfl (by kernel_rfl) (fun _ _ _ h => h) (Or.inl ⟨by rfl, ?_⟩) ?_ ?_
          rotate_left
          · intro w'
            go_simp
            with_reducible rfl
          rotate_left
          · simp only [Act.put, List.setIfInBounds_toArray, List.set_cons_zero, List.set_cons_succ, i64_w, i32_w]
            rfl
          refine pure_ (i := 6) (N := some 103) (v := ?_) (a' := ?_) #[true, true, false, true, true, true, true, false, false, false, false] rfl rfl (by kernel_rfl) (fun _ _ _ h => h) (Or.inl ⟨by rfl, ?_⟩) ?_ ?_
          rotate_left
          · intro w'
            go_simp
            with_reducible rfl
          rotate_left
          · simp only [Act.put, List.setIfInBounds_toArray, List.set_cons_zero, List.set_cons_succ, i64_w, i32_w]
            rfl
          refine take_ (i := 2) (N := some 99) (v := ?_) (a' := ?_) #[true, true, true, true, true, true, true, false, false, false, false] rfl rfl (by kernel_rfl) (fun _ _ _ h => h) (Or.inl ⟨by rfl, ?_⟩) hHeld ?_ ?_
          rotate_left
          · rintro w' ⟨s0, s1, s2⟩
            go_simp
            with_reducible rfl
          rotate_left
          · simp only [Act.put, List.setIfInBounds_toArray, List.set_cons_zero, List.set_cons_succ, i64_w, i32_w]
            rfl
          refine take_ (i := 7) (N := some 104) (v := ?_) (a' := ?_) #[true, true, true, true, true, true, true, true, false, false, false] rfl rfl (by kernel_rfl) (fun _ _ _ h => h) (Or.inl ⟨by rfl, ?_⟩) hHeld ?_ ?_
          rotate_left
          · rintro w' ⟨s0, s1, s2⟩
            go_simp
            with_reducible rfl
          rotate_left
          · simp only [Act.put, List.setIfInBounds_toArray, List.set_cons_zero, List.set_cons_succ, i64_w, i32_w]
            rfl
          refine pure_ (i := 8) (N := some 105) (v := ?_) (a' := ?_) #[true, true, true, true, true, true, true, true, true, false, false] rfl rfl (by kernel_rfl) (fun _ _ _ h => h) (Or.inl ⟨by rfl, ?_⟩) ?_ ?_
          rotate_left
          · intro w'
            go_simp
            with_reducible rfl
          rotate_left
          · simp only [Act.put, List.setIfInBounds_toArray, List.set_cons_zero, List.set_cons_succ, i64_w, i32_w]
            rfl
          refine last_ (i := 9) (N := some 106) #[true, true, true, true, true, true, true, true, true, true, false] rfl rfl (by kernel_rfl) (by decide) (fun K hK => ?_)
          refine goes_ Try.func74 (by kernel_rfl) rfl #[.slice (some af) n c0, .agg #[.int .i64 bw, .int .i64 bn, .int .i64 (who i)]] (by rfl) rfl rfl (by simp only [List.map_toArray, List.map_cons, List.map_nil]; rfl) ?_
          with_reducible refine (HX.out bw bn (who i) q HQ.out _ (below_drew HS.out.bel)).mono ?_
          rintro e w3 ⟨rfl, hb2⟩
          refine ⟨_, rfl, ?_⟩
          have HS3 := Aside0.mk (HS.out.drew.below hb2)
          have HP3 := Aside0.mk (Kd.R_below (Kd.R_drew HP.out) hb2)
          have HB3 := Aside0.mk hb2
          clear hb2
          refine hK.out _ _ ?_
          clear hK K
          refine norm_ (a' := ?_) ?_ ?_
          rotate_left
          · show Act.put _ (some 106) _ = _
            simp only [Act.put, List.setIfInBounds_toArray, List.set_cons_zero, List.set_cons_succ, i64_w, i32_w]
            rfl
          refine pure_ (i := 10) (N := some 15) (v := ?_) (a' := ?_) #[true, true, true, true, true, true, true, true, true, true, true] rfl rfl (by kernel_rfl) (fun _ _ _ h => h) (Or.inl ⟨by rfl, ?_⟩) ?_ ?_
          rotate_left
          · intro w'
            go_simp
            with_reducible rfl
          rotate_left
          · simp only [Act.put, List.setIfInBounds_toArray, List.set_cons_zero, List.set_cons_succ, i64_w, i32_w]
            rfl
          refine done_ (by kernel_rfl) ?_
          clear hk6 hk7 hx
          obtain ⟨hc3⟩ : Nonempty (w3.cell? ⟨(af.add (i.toNat * 3)).block, (af.add (i.toNat * 3)).off + 2, none⟩ = some (.int .i64 (who i))) := ⟨by
            obtain ⟨af', ef', hc'⟩ := HA.out w3 HS3.out.bel i hb0 hb1
            cases ef'
            exact hc'⟩
          clear hc
          by_cases hq0 : q ≥ 0
          · have haq := HAQ.out
            rw [if_pos hq0] at haq
            obtain rfl := Option.some.inj haq
            go_wp2_with fail
            refine (put_calls w _ w.heap.size go w.heap.size (who i) 4 ow on wh aw an bw bn un nn _ 2 2 v [i, q] xs hxl.out (HS3.out.alloc _) (lit2 i q HS3.out.le HS3.out.lt)).mono ?_
            rintro e w4 ⟨rfl, v', hs', hle, hkp⟩
            have HS4 := Aside0.mk hs'
            have HP4 := Aside0.mk (keep_row2 HP3.out (HS3.out.alloc _).rows hkp)
            clear hs' hle hkp HS HP HS3 HP3 hc3
            go_wp2_with fail
            go_roundg (gk - 1)
            case measure => omega
            case rel => exact ⟨j + 1, v', xs ++ [(ow, on, who i, [i, q])], b, congrArg (Value.int IntKind.i64) (w64s' j (by have := HL.out; omega)), by omega, by omega, HB', ⟨by rw [← HE.out, HRest.out, List.append_assoc]⟩, HS4, HP4⟩
          · have haq := HAQ.out
            rw [if_neg hq0] at haq
            obtain rfl := Option.some.inj haq
            have hq1 : q < 0 := by omega
            clear hc3
            go_wp2_with fail
            go_roundg (gk - 1)
            case measure => omega
            case rel => exact ⟨j + 1, v, xs, b, congrArg (Value.int IntKind.i64) (w64s' j (by have := HL.out; omega)), by omega, by omega, HB', ⟨by rw [← HE.out, HRest.out, List.nil_append]⟩, HS3, HP3⟩
        · rw [if_neg hbd] at ha
          exact absurd ha (by simp)
      · have hj2 : j = p.length := by omega
        subst hj2
        have hrest : rest = [] := by have h := HG.out; rw [List.drop_length, flatM] at h; exact (Option.some.inj h).symm
        have HXR : Aside0 (xs = r) := ⟨by rw [← HE.out, hrest, List.append_nil]⟩
        have hg0 := cell_at HS.out.out 0 v rfl
        clear hrest
        go_wp2_with fail
        go_ret
        rw [← HXR.out]
        exact ⟨_, rfl, Kd.R_mono (Kd.R_bound HS.out.rows) (fun k hk => hk.2.1), HS.out.bel⟩
  · have hr0 : r = [] := by
      have h := H.out
      unfold deriveL at h
      rw [if_neg k1, if_neg k2, if_neg k3, if_neg k4] at h
      exact (Option.some.inj h).symm
    have HR0 := Aside0.mk hr0
    clear hr0
    have b1 : (k == 1) = false := beq_eq_false_iff_ne.mpr k1
    have b2 : (k == 2) = false := beq_eq_false_iff_ne.mpr k2
    have b3 : (k == 3) = false := beq_eq_false_iff_ne.mpr k3
    have b4 : (k == 4) = false := beq_eq_false_iff_ne.mpr k4
    clear k1 k2 k3 k4
    have hg0 := cell_at HS.out.out 0 _ rfl
    go_wp2_with fail
    go_ret
    rw [HR0.out]
    exact ⟨_, rfl, Kd.R_mono (Kd.R_bound HS.out.rows) (fun k hk => hk.2.1), HS.out.bel⟩
theorem flatM_mono {α : Type} {g g' : Int → Option (List α)} (h : ∀ i a, g i = some a → g' i = some a) : ∀ (l : List Int) (r : List α), flatM g l = some r → flatM g' l = some r
  | [], r, hr => hr
  | i :: l, r, hr => by
    obtain ⟨a, b, h1, h2, rfl⟩ := flatM_cons hr
    rw [flatM, h i a h1, flatM_mono h l b h2]
    rfl
theorem deriveL_mono {n : Nat} {whoR whoR' : Int → Int → Option (List Int)} {idx idx' : Int → Int → Int → Option Int} {who : Int → Int} {k ow on wh aw an bw bn : Int} (hw : ∀ x y p, whoR x y = some p → whoR' x y = some p) (hi : ∀ x y z j, idx x y z = some j → idx' x y z = some j) {r : List DV}
    (h : deriveL n whoR idx who k ow on wh aw an bw bn = some r) : deriveL n whoR' idx' who k ow on wh aw an bw bn = some r := by
  unfold deriveL at h ⊢
  by_cases k1 : k = 1
  · rw [if_pos k1] at h ⊢; exact h
  rw [if_neg k1] at h ⊢
  by_cases k2 : k = 2
  · rw [if_pos k2] at h ⊢
    obtain ⟨p, hp, h⟩ := Option.bind_eq_some_iff.1 h
    rw [hw _ _ _ hp]
    exact h
  rw [if_neg k2] at h ⊢
  by_cases k3 : k = 3
  · rw [if_pos k3] at h ⊢
    obtain ⟨p, hp, h⟩ := Option.bind_eq_some_iff.1 h
    rw [hw _ _ _ hp]
    refine flatM_mono (fun i a ha => ?_) p r h
    unfold g3 at ha ⊢
    by_cases c : 0 ≤ i ∧ i < (n : Int)
    · rw [if_pos c] at ha ⊢
      obtain ⟨q, hq, ha⟩ := Option.bind_eq_some_iff.1 ha
      rw [hw _ _ _ hq]
      exact ha
    · rw [if_neg c] at ha
      cases ha
  rw [if_neg k3] at h ⊢
  by_cases k4 : k = 4
  · rw [if_pos k4] at h ⊢
    obtain ⟨p, hp, h⟩ := Option.bind_eq_some_iff.1 h
    rw [hw _ _ _ hp]
    refine flatM_mono (fun i a ha => ?_) p r h
    unfold g4 at ha ⊢
    by_cases c : 0 ≤ i ∧ i < (n : Int)
    · rw [if_pos c] at ha ⊢
      obtain ⟨q, hq, ha⟩ := Option.bind_eq_some_iff.1 ha
      rw [hi _ _ _ _ hq]
      exact ha
    · rw [if_neg c] at ha
      cases ha
  rw [if_neg k4] at h ⊢
  exact h
theorem R_map {α β : Type} {d : Kd α} {d' : Kd β} (f : α → β) (hsz : d.sz = d'.sz) (hM : ∀ w base ok x cs, d.M w base ok x cs → d'.M w base ok (f x) cs) {e base : Nat} {w : World} {ok : Nat → Prop} {v : Value} {xs : List α} (h : d.R e w base ok v xs) : d'.R e w base ok v (xs.map f) := by
  obtain ⟨h0, inner, ho, hr⟩ := h
  refine ⟨h0, inner, by rw [List.length_map, ← hsz]; exact ho, by rw [List.length_map, ← hsz]; exact hr.1, fun j p hp => ?_⟩
  rw [List.getElem?_map] at hp
  obtain ⟨x, hx, rfl⟩ := Option.map_eq_some_iff.1 hp
  rw [← hsz]
  exact hM _ _ _ _ _ (hr.2 j x hx)
end Go.Proofs.Ytnebbjcgkoaloaa.Derive
