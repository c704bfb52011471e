/-
The law FnExactPartsOf of the given program answers true at every input: the plain statement that is left when the printed walk has stepped through the code.
Conditions: the bounds of the given row (sizes of texts and lists, numbers of their kinds); none of our own.
-/
import Derived.Test.YtelnbjlhlklngaaDoorPFnExactPartsOfx2
import Derived.Laws.BitsAllLaws
namespace Go.Proofs.YtelnbjlhlklngaaDoor.Pure
open Go.RowKit Go.Proofs.YtelnbjlhlklngaaDoor.PFnExactPartsOf Go.Proofs.YtelnbjlhlklngaaDoorW.PrintWords Go.Proofs.YtelnbjlhlklngaaDoorW.PrintLast Go.Proofs.YtelnbjlhlklngaaDoorW.PrintMore
set_option linter.unusedVariables false

theorem evp {α : Type} {c : Prop} [Decidable c] {f g : Nat → Option α} {r : α} (hc : c) (h : Ev f r) : Ev (fun k => if c then f k else g k) r := Ev.congr (fun _ => if_pos hc) h
theorem evn {α : Type} {c : Prop} [Decidable c] {f g : Nat → Option α} {r : α} (hc : ¬ c) (h : Ev g r) : Ev (fun k => if c then f k else g k) r := Ev.congr (fun _ => if_neg hc) h
theorem evs {α : Type} {x y : α} (h : x = y) : Ev (fun _ => some x) y := by subst h; exact Ev.now _
theorem evc {α : Type} {x : Option α} {y : α} (h : x = some y) : Ev (fun _ => x) y := by subst h; exact Ev.now _
theorem w64 {n : Int} (h1 : -9223372036854775808 ≤ n) (h2 : n ≤ 9223372036854775807) : wrap64 n = n := IntWalk.wrap64_in n ⟨h1, h2⟩
theorem w64n (n : Nat) (h : n ≤ 9223372036854775807) : wrap64 (n : Int) = (n : Int) := w64 (by omega) (by omega)
theorem w64s (n : Nat) (h : n + 1 ≤ 9223372036854775807) : wrap64 ((n : Int) + 1) = ((n + 1 : Nat) : Int) := by rw [w64 (by omega) (by omega)]; rfl
theorem w64a (a b : Nat) (h : a + b ≤ 9223372036854775807) : wrap64 ((a : Int) + (b : Int)) = ((a + b : Nat) : Int) := by rw [w64 (by omega) (by omega)]; rfl
theorem w64m (a b : Nat) (h : a * b ≤ 9223372036854775807) : wrap64 ((a : Int) * (b : Int)) = ((a * b : Nat) : Int) := by
  have e : ((a * b : Nat) : Int) = (a : Int) * (b : Int) := Int.natCast_mul a b
  rw [w64 (by omega) (by omega), e]
theorem wf64 {n : Int} (h : (Lit.int .i64 n).wf = true) : -9223372036854775808 ≤ n ∧ n ≤ 9223372036854775807 := by
  simp [Lit.wf, IntKind.min, IntKind.max, IntKind.bits, IntKind.signed] at h
  omega
theorem bt_lo (s : ByteArray) (i : Int) : 0 ≤ bt s i := (bt_range s i).1
theorem bt_hi (s : ByteArray) (i : Int) : bt s i ≤ 255 := (bt_range s i).2
theorem wfu32 {n : Int} (h : (Lit.int .u32 n).wf = true) : 0 ≤ n ∧ n < 4294967296 := by
  simp [Lit.wf, IntKind.min, IntKind.max, IntKind.bits, IntKind.signed] at h
  omega
theorem evb {α β : Type} {x : Option α} {f : Nat → α → Option β} {a : α} {r : β} (h : x = some a) (k : Ev (fun n => f n a) r) : Ev (fun n => x.bind (f n)) r := Ev.bind (g := fun _ => x) (evc h) k
theorem i64_nat (a b : Nat) (ha : a < 9223372036854775808) (hb : b < 9223372036854775808) : Go.bits .and .i64 (a : Int) (b : Int) = ((a &&& b : Nat) : Int) ∧ Go.bits .or .i64 (a : Int) (b : Int) = ((a ||| b : Nat) : Int) :=
  bits_nat .i64 63 (by decide) (fun m h0 h1 => by rw [IntKind.wrap_i64]; omega) a b ha hb

theorem tl_inj {a b : ByteArray} : a.toList = b.toList ↔ a = b := by
  rw [ByteArray.toList_eq, ByteArray.toList_eq]
  exact ⟨fun h => ByteArray.ext (Array.toList_inj.mp h), fun h => by rw [h]⟩
theorem son_bytesOf (s : ByteArray) : strOfNums (bytesOf s) = s := by
  apply tl_inj.1
  rw [ByteArray.toList_eq, ByteArray.toList_eq, strOfNums_data, bytesOf, List.map_map]
  have : ((fun n : Int => UInt8.ofNat n.toNat) ∘ fun b : UInt8 => (b.toNat : Int)) = id := by
    funext b; simp
  rw [this, List.map_id]
theorem bytesOf_son (l : List Int) (h : ∀ b ∈ l, 0 ≤ b ∧ b ≤ 255) : bytesOf (strOfNums l) = l := by
  rw [bytesOf, strOfNums_data, List.map_map]
  have : l.map ((fun b : UInt8 => (b.toNat : Int)) ∘ fun n : Int => UInt8.ofNat n.toNat) = l.map id := by
    apply List.map_congr_left
    intro b hb
    have := h b hb
    simp only [Function.comp, id, UInt8.toNat_ofNat']
    omega
  rw [this, List.map_id]
theorem bytesOf_inj {a b : ByteArray} (h : bytesOf a = bytesOf b) : a = b := by rw [← son_bytesOf a, ← son_bytesOf b, h]
theorem bytesOf_extract (s : ByteArray) (a b : Nat) : bytesOf (s.extract a b) = ((bytesOf s).drop a).take (b - a) := by
  unfold bytesOf
  rw [ByteArray.data_extract]
  simp [List.map_take, List.map_drop, List.extract]
theorem bytesOf_append (a b : ByteArray) : bytesOf (a ++ b) = bytesOf a ++ bytesOf b := by
  unfold bytesOf
  rw [ByteArray.data_append]
  simp
theorem bytesOf_range (s : ByteArray) : ∀ b ∈ bytesOf s, 0 ≤ b ∧ b ≤ 255 := by
  intro b hb
  unfold bytesOf at hb
  obtain ⟨c, _, rfl⟩ := List.mem_map.1 hb
  have := c.toNat_lt
  omega
theorem bytesOf_drop (s : ByteArray) (i : Nat) (h : i < s.size) : (bytesOf s).drop i = bt s (i : Int) :: (bytesOf s).drop (i + 1) := by
  have hl : i < (bytesOf s).length := by rw [bytesOf_length]; exact h
  rw [List.drop_eq_getElem_cons hl]
  congr 1
  have := rd_bytesOf s (i : Int)
  rw [← this]
  unfold rd
  simp [List.getD_eq_getElem?_getD, hl]
theorem bt_nat (s : ByteArray) (i : Int) : ∃ n : Nat, bt s i = (n : Int) ∧ n < 256 := by
  have h := bt_range s i
  exact ⟨(bt s i).toNat, by omega, by omega⟩

theorem rdOf_nat {α : Type} (d : α) (l : List α) (i : Nat) (h : i < l.length) : rdOf d l (i : Int) = l[i] := by
  unfold rdOf
  rw [Int.toNat_natCast, List.getD_eq_getElem?_getD, List.getElem?_eq_getElem h]
  rfl
theorem mark_ex : ∀ (m x : Nat) (s : ByteArray), x < 10 ^ m → x ≤ 4000000 → s.size + m ≤ 1000 → ∃ t, Ev (fun k => laws_markText.l0 k (x : Int) s) t := by
  intro m
  induction m with
  | zero =>
    intro x s hx _ hs
    have : x = 0 := by simpa using hx
    subst this
    exact ⟨_, Ev.step (fun k => by rw [laws_markText.l0]) (evn (by omega) (evp (by omega) (Ev.now _)))⟩
  | succ m ih =>
    intro x s hx hl hs
    by_cases h0 : x = 0
    · subst h0
      exact ⟨_, Ev.step (fun k => by rw [laws_markText.l0]) (evn (by omega) (evp (by omega) (Ev.now _)))⟩
    · have hq : x / 10 < 10 ^ m := by
        rw [Nat.pow_succ] at hx
        omega
      have e1 : wrap64 (Int.tdiv (x : Int) 10) = ((x / 10 : Nat) : Int) := by
        rw [show Int.tdiv (x : Int) 10 = ((x / 10 : Nat) : Int) from by rw [Int.tdiv_eq_ediv_of_nonneg (by omega)]; rfl]
        exact w64 (by omega) (by omega)
      obtain ⟨t, ht⟩ := ih (x / 10) (strOfNums [(wrap64 (48 + (Int.tmod (x : Int) 10))) % 256] ++ s) hq (by omega) (by
        have : (strOfNums [(wrap64 (48 + (Int.tmod (x : Int) 10))) % 256] ++ s).size = 1 + s.size := by rw [ByteArray.size_append]; rfl
        omega)
      refine ⟨t, Ev.step (fun k => by rw [laws_markText.l0]) (evp (by omega) ?_)⟩
      refine evb rfl ?_
      refine evp ?_ ?_
      · have : (strOfNums [(wrap64 (48 + (Int.tmod (x : Int) 10))) % 256]).size = 1 := rfl
        omega
      · rw [e1]; exact ht
theorem mark_f (n : Nat) (h0 : 0 < n) (h : n ≤ 4000000) : ∃ t, Ev (fun k => laws_markText.f k (n : Int)) t := by
  obtain ⟨t, ht⟩ := mark_ex 7 n ⟨#[]⟩ (by omega) h (by decide)
  exact ⟨t, evn (by omega) ht⟩
open Classical in
noncomputable def mkt (n : Nat) : ByteArray := if h : ∃ t, Ev (fun k => laws_markText.f k (n : Int)) t then Classical.choose h else ByteArray.empty
theorem mkt_is (n : Nat) (h0 : 0 < n) (h : n ≤ 4000000) : Ev (fun k => laws_markText.f k (n : Int)) (mkt n) := by
  have hx := mark_f n h0 h
  unfold mkt
  rw [dif_pos hx]
  exact Classical.choose_spec hx
noncomputable def mks (n : Nat) : List ByteArray := (List.range n).map fun i : Nat => mkt (i + 1)
theorem mks_len (n : Nat) : (mks n).length = n := by simp [mks]
theorem mks_rd (n i : Nat) (h : i < n) : rdOf ByteArray.empty (mks n) (i : Int) = mkt (i + 1) := by
  rw [rdOf_nat _ _ i (by rw [mks_len]; exact h)]
  simp [mks]
theorem mks_take (n i : Nat) (h : i < n) : (mks n).take (i + 1) = (mks n).take i ++ [mkt (i + 1)] := by
  rw [List.take_succ_eq_append_getElem (by rw [mks_len]; exact h), ← rdOf_nat ByteArray.empty _ i (by rw [mks_len]; exact h), mks_rd n i h]
theorem laws_markStringS_l (l : List ByteArray) (hl : l.length ≤ 1000000) : ∀ (d i : Nat), i + d = l.length → Ev (fun k => laws_markStringS.l0 k ((mks l.length).take i ++ l.drop i) ((i + 1 : Nat) : Int) (i : Int)) (((l.length + 1 : Nat) : Int), mks l.length) := by
  intro d
  induction d with
  | zero =>
    intro i h
    refine Ev.step (fun k => by rw [laws_markStringS.l0]) ?_
    have hi : i = l.length := by omega
    subst hi
    refine evn (by rw [List.length_append, List.length_take, List.length_drop, mks_len]; omega) (evs ?_)
    rw [List.take_of_length_le (by rw [mks_len]; exact Nat.le_refl _), List.drop_of_length_le (Nat.le_refl _), List.append_nil]
  | succ d ih =>
    intro i h
    have hn : ((mks l.length).take i ++ l.drop i).length = l.length := by rw [List.length_append, List.length_take, List.length_drop, mks_len]; omega
    refine Ev.step (fun k => by rw [laws_markStringS.l0]) ?_
    refine evp (by omega) (Ev.bind (mkt_is (i + 1) (by omega) (by omega)) (evp (by omega) ?_))
    rw [w64s i (by omega), w64s (i + 1) (by omega)]
    refine Ev.congr (fun k => ?_) (ih (i + 1) (by omega))
    congr 1
    rw [mks_take _ i (by omega), Int.toNat_natCast, List.set_append_right _ _ (by rw [List.length_take, mks_len]; omega), List.length_take, mks_len, show i - min i l.length = 0 by omega, List.drop_eq_getElem_cons (by omega : i < l.length), List.set_cons_zero, List.append_assoc]
    rfl
theorem laws_markStringS_is (l : List ByteArray) (hl : l.length ≤ 1000000) : Ev (fun k => laws_markStringS.f k l 1) (((l.length + 1 : Nat) : Int), mks l.length) := laws_markStringS_l l hl l.length 0 (Nat.zero_add _)
theorem laws_heldStringS_l (n : Nat) (hl : n ≤ 1000000) : ∀ (d i : Nat), i + d = n → Ev (fun k => laws_heldStringS.l0 k (mks n) ((i + 1 : Nat) : Int) (i : Int)) ((n + 1 : Nat) : Int) := by
  have hr := mks_len n
  intro d
  induction d with
  | zero =>
    intro i h
    refine Ev.step (fun k => by rw [laws_heldStringS.l0]) ?_
    refine evn (by omega) (evs ?_)
    omega
  | succ d ih =>
    intro i h
    refine Ev.step (fun k => by rw [laws_heldStringS.l0]) ?_
    refine evp (by omega) (evp (by omega) (Ev.bind (mkt_is (i + 1) (by omega) (by omega)) (evp (by rw [mks_rd n i (by omega)]) ?_)))
    rw [w64s i (by omega), w64s (i + 1) (by omega)]
    exact ih (i + 1) (by omega)
theorem laws_heldStringS_is (n : Nat) (hl : n ≤ 1000000) : Ev (fun k => laws_heldStringS.f k (mks n) 1) ((n + 1 : Nat) : Int) := laws_heldStringS_l n hl n 0 (Nat.zero_add _)
theorem laws_eqStringS_l (l : List ByteArray) (hl : l.length ≤ 1000000) : ∀ (d i : Nat), i + d = l.length → Ev (fun k => laws_eqStringS.l0 k l l (i : Int)) true := by
  intro d
  induction d with
  | zero =>
    intro i h
    exact Ev.step (fun k => by rw [laws_eqStringS.l0]) (evn (by omega) (Ev.now _))
  | succ d ih =>
    intro i h
    refine Ev.step (fun k => by rw [laws_eqStringS.l0]) (evp (by omega) (evp (by omega) (evp (by omega) (evp rfl ?_))))
    rw [w64s i (by omega)]
    exact ih (i + 1) (by omega)
theorem laws_eqStringS_is (l : List ByteArray) (hl : l.length ≤ 1000000) : Ev (fun k => laws_eqStringS.f k l l) true := evp rfl (laws_eqStringS_l l hl l.length 0 (Nat.zero_add _))

def okb (b : UInt8) : Bool := decide (32 ≤ b.toNat) && decide (b.toNat ≤ 126)
def fin (ws : List ByteArray) : List ByteArray × Bool := if ws.length > 10 then ([], false) else (ws, true)
def goP : List ByteArray → List UInt8 → List UInt8 → List ByteArray × Bool
  | x, cur, [] => fin (if cur.isEmpty then x else x ++ [⟨cur.toArray⟩])
  | x, cur, b :: l => if okb b then (if b.toNat = 32 then goP (if cur.isEmpty then x else x ++ [⟨cur.toArray⟩]) [] l else goP x (cur ++ [b]) l) else ([], false)
theorem sp32 (b : UInt8) (h : okb b = true) : Lib.isSp b = decide (b.toNat = 32) := by
  simp [okb] at h
  have h1 := h.1; have h2 := h.2
  have hb : b = UInt8.ofNat b.toNat := by simp
  generalize b.toNat = n at *
  subst hb
  have hn : n < 127 := by omega
  have := (show ∀ n : Fin 127, 32 ≤ n.val → Lib.isSp (UInt8.ofNat n.val) = decide (n.val = 32) by decide +kernel) ⟨n, hn⟩ h1
  exact this
theorem goP_is : ∀ (l cur : List UInt8) (x : List ByteArray), goP x cur l = if l.all okb then fin (x ++ (Lib.fieldsGo cur l).map fun f => ⟨f.toArray⟩) else ([], false) := by
  intro l
  induction l with
  | nil =>
    intro cur x
    rw [goP, List.all_nil, if_pos rfl, Lib.fieldsGo]
    cases cur <;> simp
  | cons b l ih =>
    intro cur x
    rw [goP, List.all_cons]
    by_cases hb : okb b = true
    · rw [if_pos hb, hb, Bool.true_and, Lib.fieldsGo, sp32 b hb]
      by_cases h32 : b.toNat = 32
      · rw [if_pos h32, ih]
        simp only [h32, decide_true]
        cases cur <;> simp
      · rw [if_neg h32, ih]
        simp only [h32, decide_false]
        rfl
    · rw [if_neg hb]
      have : okb b = false := by simpa using hb
      rw [this, Bool.false_and, if_neg (by simp)]
theorem bt_at (s : ByteArray) (i : Nat) (b : UInt8) (l : List UInt8) (h : s.data.toList.drop i = b :: l) : bt s (i : Int) = (b.toNat : Int) ∧ i < s.size := by
  have hi : i < s.data.toList.length := by
    rcases Nat.lt_or_ge i s.data.toList.length with h1 | h1
    · exact h1
    · rw [List.drop_of_length_le h1] at h; cases h
  have hs : i < s.size := by rw [Array.length_toList] at hi; exact hi
  have hd := bytesOf_drop s i hs
  unfold bytesOf at hd
  rw [← List.map_drop, h, List.map_cons] at hd
  exact ⟨(List.cons.inj hd).1.symm, hs⟩
theorem ex_snoc (s : ByteArray) (b i : Nat) (c : UInt8) (l cur : List UInt8) (hb : b ≤ i) (h : s.data.toList.drop i = c :: l) (hc : cur = (s.data.toList.drop b).take (i - b)) : cur ++ [c] = (s.data.toList.drop b).take (i + 1 - b) := by
  have e : i + 1 - b = (i - b) + 1 := by omega
  have h2 : (s.data.toList.drop b)[i - b]? = some c := by
    rw [List.getElem?_drop, show b + (i - b) = i by omega]
    have := congrArg (·[0]?) h
    simpa [List.getElem?_drop] using this
  rw [e, List.take_add_one, h2, hc]
  rfl
theorem ex_is (s : ByteArray) (b i : Nat) (hi : i ≤ s.size) : s.extract ((b : Nat) : Int).toNat ((i : Nat) : Int).toNat = ⟨((s.data.toList.drop b).take (i - b)).toArray⟩ := by
  apply ByteArray.ext
  rw [ByteArray.data_extract]
  apply Array.toList_inj.1
  simp [List.extract]
theorem specgo (s : ByteArray) (hs : s.size ≤ 600) : ∀ (d i b : Nat) (x : List ByteArray), i + d = s.size → b ≤ i → x.length ≤ i → 
    Ev (fun k => spec_PartsOf.l0 k s x (b : Int) (i : Int)) (goP x ((s.data.toList.drop b).take (i - b)) (s.data.toList.drop i)) := by
  have hlen : s.data.toList.length = s.size := by rw [Array.length_toList]; rfl
  intro d
  induction d with
  | zero =>
    intro i b x hd hb hx
    have hi : i = s.size := by omega
    subst hi
    rw [List.drop_of_length_le (l := s.data.toList) (i := s.size) (by omega), goP]
    refine Ev.step (fun k => by rw [spec_PartsOf.l0]) (evp (by omega) (evn (by omega) ?_))
    refine Ev.step (fun k => by rw [spec_PartsOf.j1]) (evn (by decide) (evn (by omega) ?_))
    refine Ev.step (fun k => by rw [spec_PartsOf.j2]) (evn (by decide) ?_)
    rw [w64s _ (by omega)]
    have hcl : ((s.data.toList.drop b).take (s.size - b)).length = s.size - b := by rw [List.length_take, List.length_drop]; omega
    by_cases hbi : b < s.size
    · refine evp (by omega) (evp (by omega) (evp (by omega) (evp (by omega) (evp (by omega) ?_))))
      rw [ex_is s b s.size (Nat.le_refl _)]
      have hne : ((s.data.toList.drop b).take (s.size - b)).isEmpty = false := by
        cases h : (s.data.toList.drop b).take (s.size - b) with
        | nil => rw [h] at hcl; simp at hcl; omega
        | cons _ _ => rfl
      rw [hne]
      refine Ev.step (fun k => by rw [spec_PartsOf.l0]) (evn (by omega) ?_)
      unfold fin
      by_cases hg : (x ++ [(⟨((s.data.toList.drop b).take (s.size - b)).toArray⟩ : ByteArray)]).length > 10
      · refine evp (by omega) (evs ?_)
        simp only [Bool.false_eq_true, if_false]
        rw [if_pos hg]
      · refine evn (by omega) (evs ?_)
        simp only [Bool.false_eq_true, if_false]
        rw [if_neg hg]
    · refine evn (by omega) ?_
      have he : (s.data.toList.drop b).take (s.size - b) = [] := List.eq_nil_of_length_eq_zero (by omega)
      rw [he]
      refine Ev.step (fun k => by rw [spec_PartsOf.l0]) (evn (by omega) ?_)
      unfold fin
      by_cases hg : x.length > 10
      · exact evp (by omega) (evs (by simp [hg]))
      · exact evn (by omega) (evs (by simp [hg]))
  | succ d ih =>
    intro i b x hd hb hx
    obtain ⟨c, l, hl⟩ : ∃ c l, s.data.toList.drop i = c :: l := ⟨_, _, List.drop_eq_getElem_cons (by omega)⟩
    obtain ⟨hbt, hlt⟩ := bt_at s i c l hl
    have hl1 : l = s.data.toList.drop (i + 1) := by
      have := congrArg List.tail hl
      rw [List.tail_drop] at this
      exact this.symm
    have hcl : ((s.data.toList.drop b).take (i - b)).length = i - b := by rw [List.length_take, List.length_drop]; omega
    rw [hl, goP]
    refine Ev.step (fun k => by rw [spec_PartsOf.l0]) (evp (by omega) (evp (by omega) (evp (by omega) ?_)))
    rw [hbt]
    have hc := c.toNat_lt
    by_cases h1 : (c.toNat : Int) < 32
    · refine evp h1 ?_
      rw [if_neg (by simp [okb]; omega)]
      exact Ev.step (fun k => by rw [spec_PartsOf.j1]) (evp rfl (Ev.now _))
    refine evn h1 ?_
    by_cases h2 : (c.toNat : Int) > 126
    · rw [if_neg (by simp [okb]; omega), decide_eq_true h2]
      exact Ev.step (fun k => by rw [spec_PartsOf.j1]) (evp rfl (Ev.now _))
    rw [decide_eq_false h2, if_pos (by simp [okb]; omega)]
    refine Ev.step (fun k => by rw [spec_PartsOf.j1]) (evn (by decide) (evp (by omega) (evp (by omega) ?_)))
    rw [hbt]
    by_cases h32 : c.toNat = 32
    · rw [if_pos h32]
      have e32 : ((c.toNat : Int) != 32) = false := by rw [h32]; rfl
      rw [e32]
      refine Ev.step (fun k => by rw [spec_PartsOf.j2]) (evn (by decide) ?_)
      rw [w64s _ (by omega)]
      by_cases hbi : b < i
      · refine evp (by omega) (evp (by omega) (evp (by omega) (evp (by omega) (evp (by omega) ?_))))
        rw [ex_is s b i (by omega)]
        have hne : ((s.data.toList.drop b).take (i - b)).isEmpty = false := by
          cases h : (s.data.toList.drop b).take (i - b) with
          | nil => rw [h] at hcl; simp at hcl; omega
          | cons _ _ => rfl
        rw [hne]
        simp only [Bool.false_eq_true, if_false]
        have := ih (i + 1) (i + 1) (x ++ [⟨((s.data.toList.drop b).take (i - b)).toArray⟩]) (by omega) (Nat.le_refl _) (by simp; omega)
        rw [Nat.sub_self, List.take_zero, ← hl1] at this
        exact this
      · refine evn (by omega) ?_
        have he : (s.data.toList.drop b).take (i - b) = [] := List.eq_nil_of_length_eq_zero (by omega)
        rw [he]
        have := ih (i + 1) (i + 1) x (by omega) (Nat.le_refl _) (by omega)
        rw [Nat.sub_self, List.take_zero, ← hl1] at this
        exact this
    · rw [if_neg h32]
      have e32 : ((c.toNat : Int) != 32) = true := bne_iff_ne.2 (by omega)
      rw [e32]
      refine Ev.step (fun k => by rw [spec_PartsOf.j2]) (evp rfl ?_)
      rw [w64s _ (by omega)]
      have := ih (i + 1) b x (by omega) (by omega) (by omega)
      rw [← ex_snoc s b i c l _ hb hl rfl, ← hl1] at this
      exact this
def partsV (s : ByteArray) : List ByteArray × Bool := if s.size > 600 then ([], false) else if s.data.toList.all okb then fin (TabP.fieldsB s) else ([], false)
theorem spec_PartsOf_is (s : ByteArray) : Ev (fun k => spec_PartsOf.f k s) (partsV s) := by
  unfold spec_PartsOf.f partsV
  refine evb rfl ?_
  by_cases h : s.size > 600
  · rw [if_pos h]
    exact evp (by omega) (Ev.now _)
  rw [if_neg h]
  refine evn (by omega) ?_
  have := specgo s (by omega) s.size 0 0 [] (by omega) (Nat.le_refl _) (by simp)
  rw [Nat.sub_self, List.take_zero, List.drop_zero, goP_is] at this
  exact this
theorem implgo (s : ByteArray) (hs : s.size ≤ 600) : ∀ (d i : Nat), i + d = s.size → ((s.data.toList.take i).all okb) = true →
    Ev (fun k => impl_PartsOf.l0 k s (s.size : Int) (i : Int)) (if s.data.toList.all okb then fin (TabP.fieldsB s) else ([], false)) := by
  have hlen : s.data.toList.length = s.size := by rw [Array.length_toList]; rfl
  intro d
  induction d with
  | zero =>
    intro i hd hall
    have hi : i = s.size := by omega
    subst hi
    rw [List.take_of_length_le (by omega)] at hall
    rw [if_pos hall]
    refine Ev.step (fun k => by rw [impl_PartsOf.l0]) (evn (by omega) (evb (a := TabP.fieldsB s) ?_ ?_))
    · unfold strings_Fields.f
      rw [if_pos ⟨by omega, List.all_eq_true.2 fun b hb => by
        have := List.all_eq_true.1 hall b hb
        simp [okb] at this
        exact decide_eq_true (by omega)⟩]
    · unfold fin
      by_cases hg : (TabP.fieldsB s).length > 10
      · rw [if_pos hg]; exact evp (by omega) (Ev.now _)
      · rw [if_neg hg]; exact evn (by omega) (Ev.now _)
  | succ d ih =>
    intro i hd hall
    obtain ⟨c, l, hl⟩ : ∃ c l, s.data.toList.drop i = c :: l := ⟨_, _, List.drop_eq_getElem_cons (by omega)⟩
    obtain ⟨hbt, hlt⟩ := bt_at s i c l hl
    have hmem : c ∈ s.data.toList := List.mem_of_mem_drop (i := i) (by rw [hl]; exact List.mem_cons_self)
    refine Ev.step (fun k => by rw [impl_PartsOf.l0]) (evp (by omega) (evp (by omega) (evp (by omega) ?_)))
    rw [hbt]
    have bad : okb c = false → s.data.toList.all okb = false := fun hc => by
      rw [List.all_eq_false]
      exact ⟨c, hmem, by rw [hc]; decide⟩
    by_cases h1 : (c.toNat : Int) < 32
    · rw [bad (by simp [okb]; omega)]
      exact evp h1 (Ev.now _)
    refine evn h1 ?_
    by_cases h2 : (c.toNat : Int) > 126
    · rw [bad (by simp [okb]; omega)]
      exact evp h2 (Ev.now _)
    refine evn h2 ?_
    rw [w64s _ (by omega)]
    refine ih (i + 1) (by omega) ?_
    have h3 : s.data.toList[i]? = some c := by
      have := congrArg (·[0]?) hl
      simpa [List.getElem?_drop] using this
    rw [List.take_add_one, h3, List.all_append, hall]
    simp [okb]
    omega
theorem impl_PartsOf_is (s : ByteArray) : Ev (fun k => impl_PartsOf.f k s) (partsV s) := by
  unfold impl_PartsOf.f partsV
  by_cases h : s.size > 600
  · rw [if_pos h]
    exact evp (by omega) (Ev.now _)
  rw [if_neg h]
  exact evn (by omega) (implgo s (by omega) s.size 0 (by omega) (by simp))
theorem parts_len (s : ByteArray) : (partsV s).1.length ≤ 10 := by
  unfold partsV fin
  repeat' split
  all_goals first | (simp; done) | (simp only []; omega) | (simp only [gt_iff_lt, Nat.not_lt] at *; assumption)
theorem FnExactPartsOf : laws_FnExactPartsOf.Pure := by
  intro s hs
  refine Ev.rounds (g := fun k => laws_FnExactPartsOf.f k s) ?_
  simp only [laws_FnExactPartsOf.f]
  by_cases h0 : (s.size : Int) > 1048576
  · exact evp h0 (Ev.now _)
  have hl := parts_len s
  have hb : (((partsV s).2) != (partsV s).2) = false := by simp
  refine evn h0 (Ev.bind (spec_PartsOf_is s) (Ev.bind (impl_PartsOf_is s) (Ev.bind (laws_eqStringS_is _ (by omega)) (evp rfl ?_))))
  rw [hb]
  refine Ev.step (fun k => by rw [laws_FnExactPartsOf.j0]) (evn (by decide) ?_)
  refine Ev.bind (laws_markStringS_is _ (by omega)) (Ev.bind (laws_heldStringS_is _ (by omega)) (evn (by omega) (evp rfl ?_)))
  refine Ev.bind (impl_PartsOf_is s) (Ev.bind (laws_eqStringS_is _ (by omega)) (evp rfl ?_))
  rw [hb]
  refine Ev.step (fun k => by rw [laws_FnExactPartsOf.j1]) (evn (by decide) ?_)
  exact Ev.bind (laws_heldStringS_is _ (by omega)) (evn (by omega) (evp rfl (Ev.now _)))

end Go.Proofs.YtelnbjlhlklngaaDoor.Pure
