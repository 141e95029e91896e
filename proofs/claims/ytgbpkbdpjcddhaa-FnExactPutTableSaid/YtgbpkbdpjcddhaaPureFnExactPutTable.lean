/- Of every list of tables and every table: the program's PutTable gives what the reference's PutTable gives, in new memory of its own, and its argument stays as it was. -/
import Derived.Test.YtgbpkbdpjcddhaaQx7
import Derived.Test.YtgbpkbdpjcddhaaShapes
import Derived.Test.YtgbpkbdpjcddhaaLib
set_option linter.unusedVariables false
set_option linter.unusedSimpArgs false
namespace Go.Proofs.Ytgbpkbdpjcddhaa.Pure
namespace EFnExactPutTable
open Go.RowKit Go.Proofs.YtgbpkbdpjcddhaaW.PrintWords Go.Proofs.YtgbpkbdpjcddhaaW.PrintLast Go.Proofs.YtgbpkbdpjcddhaaW.PrintMore Go.Proofs.Ytgbpkbdpjcddhaa.Lib Go.Proofs.Ytgbpkbdpjcddhaa.Q

def schAt (s : List S31) (i : Nat) : Bool :=
  wordOk (rd_T31 s i).f0 && (decide (1 ≤ (rd_T31 s i).f1 ∧ (rd_T31 s i).f1 ≤ 6) && (decide (i = 0) || Op.bytesLess (rd_T31 s ((i : Int) - 1)).f0.toList (rd_T31 s i).f0.toList))
def schFrom (s : List S31) : Nat → Nat → Bool
  | 0, _ => true
  | d + 1, i => schAt s i && schFrom s d (i + 1)
def schemaOk (s : List S31) : Bool := decide (s.length ≤ 8) && schFrom s s.length 0
theorem rdT_mem {s : List S31} {i : Nat} (h : i < s.length) : rd_T31 s i ∈ s := by
  have := getD_mem (z := z31) h
  simpa [rd_T31] using this

theorem blt_irrefl : ∀ l : List UInt8, Op.bytesLess l l = false
  | [] => rfl
  | x :: l => by
    rw [show Op.bytesLess (x :: l) (x :: l) = (decide (x < x) || (x == x && Op.bytesLess l l)) from rfl, blt_irrefl l]
    simp
theorem blt_trans : ∀ a b c : List UInt8, Op.bytesLess a b = true → Op.bytesLess b c = true → Op.bytesLess a c = true
  | [], [], _, h, _ => by cases h
  | [], _ :: _, [], _, h => by cases h
  | [], _ :: _, _ :: _, _, _ => rfl
  | _ :: _, [], _, h, _ => by cases h
  | _ :: _, _ :: _, [], _, h => by cases h
  | x :: a, y :: b, z :: c, h1, h2 => by
    rw [show Op.bytesLess (x :: a) (y :: b) = (decide (x < y) || (x == y && Op.bytesLess a b)) from rfl] at h1
    rw [show Op.bytesLess (y :: b) (z :: c) = (decide (y < z) || (y == z && Op.bytesLess b c)) from rfl] at h2
    rw [show Op.bytesLess (x :: a) (z :: c) = (decide (x < z) || (x == z && Op.bytesLess a c)) from rfl]
    simp only [Bool.or_eq_true, Bool.and_eq_true, decide_eq_true_eq, beq_iff_eq] at h1 h2 ⊢
    rcases h1 with h1 | ⟨rfl, h1⟩ <;> rcases h2 with h2 | ⟨rfl, h2⟩
    · exact .inl (UInt8.lt_trans h1 h2)
    · exact .inl h1
    · exact .inl h2
    · exact .inr ⟨rfl, blt_trans a b c h1 h2⟩
theorem blt_conn : ∀ a b : List UInt8, Op.bytesLess a b = false → Op.bytesLess b a = false → a = b
  | [], [], _, _ => rfl
  | [], _ :: _, h, _ => by cases h
  | _ :: _, [], _, h => by cases h
  | x :: a, y :: b, h1, h2 => by
    rw [show Op.bytesLess (x :: a) (y :: b) = (decide (x < y) || (x == y && Op.bytesLess a b)) from rfl] at h1
    rw [show Op.bytesLess (y :: b) (x :: a) = (decide (y < x) || (y == x && Op.bytesLess b a)) from rfl] at h2
    simp only [Bool.or_eq_false_iff, Bool.and_eq_false_iff, decide_eq_false_iff_not, beq_eq_false_iff_ne] at h1 h2
    have e : x = y := UInt8.toNat_inj.1 (by have g1 := h1.1; have g2 := h2.1; rw [UInt8.lt_iff_toNat_lt] at g1 g2; omega)
    subst e
    rw [blt_conn a b (h1.2.resolve_left (fun h => h rfl)) (h2.2.resolve_left (fun h => h rfl))]
def Asc (s : List S31) : Prop := s.Pairwise (fun a b => Op.bytesLess a.f0.toList b.f0.toList = true)
theorem asc_of : ∀ s : List S31, (∀ i, i + 1 < s.length → Op.bytesLess (s.getD i z31).f0.toList (s.getD (i + 1) z31).f0.toList = true) → Asc s
  | [], _ => List.Pairwise.nil
  | x :: r, h => by
    have ihr : Asc r := asc_of r (fun i hi => by have := h (i + 1) (by simp only [List.length_cons]; omega); simpa using this)
    refine List.Pairwise.cons (fun y hy => ?_) ihr
    cases r with
    | nil => cases hy
    | cons z r =>
      have h0 : Op.bytesLess x.f0.toList z.f0.toList = true := by simpa using h 0 (by simp)
      rcases List.mem_cons.1 hy with rfl | hy
      · exact h0
      · exact blt_trans _ _ _ h0 (List.rel_of_pairwise_cons ihr hy)
theorem schFrom_at (s : List S31) : ∀ d i, schFrom s d i = true → ∀ j, j < d → schAt s (i + j) = true
  | 0, _, _, _, h => by omega
  | d + 1, i, h, j, hj => by
    simp only [schFrom, Bool.and_eq_true] at h
    cases j with
    | zero => exact h.1
    | succ j => have := schFrom_at s d (i + 1) h.2 j (by omega); rwa [show i + 1 + j = i + (j + 1) by omega] at this
theorem schemaOk_asc {s : List S31} (h : schemaOk s = true) : Asc s := by
  refine asc_of s (fun i hi => ?_)
  simp only [schemaOk, Bool.and_eq_true] at h
  have := schFrom_at s s.length 0 h.2 (i + 1) hi
  simp only [schAt, Nat.zero_add, Bool.and_eq_true, Bool.or_eq_true, decide_eq_true_eq] at this
  have g := this.2.2.resolve_left (by omega)
  rw [show (((i + 1 : Nat) : Int) - 1) = (i : Int) by omega] at g
  exact g
def insR (nm : ByteArray) (wd : Int) : List S31 → Bool → List S31
  | [], put => if put = true then [] else [⟨nm, wd⟩]
  | x :: r, put => (if (!put && (decide (x.f0.toList = nm.toList) || Op.bytesLess nm.toList x.f0.toList)) = true then [⟨nm, wd⟩] else []) ++ ((if x.f0.toList = nm.toList then [] else [x]) ++ insR nm wd r (put || (decide (x.f0.toList = nm.toList) || Op.bytesLess nm.toList x.f0.toList)))
theorem insR_done (nm : ByteArray) (wd : Int) : ∀ r : List S31, (∀ y ∈ r, y.f0.toList ≠ nm.toList) → insR nm wd r true = r
  | [], _ => rfl
  | x :: r, h => by
    have hx := h x List.mem_cons_self
    simp only [insR, Bool.not_true, Bool.false_and, if_neg Bool.false_ne_true, if_neg hx, Bool.true_or, insR_done nm wd r (fun y hy => h y (List.mem_cons_of_mem _ hy)), List.nil_append, List.singleton_append]
theorem putT_cons (x : S31) (r : List S31) (nm : ByteArray) (wd : Int) (h : Op.bytesLess x.f0.toList nm.toList = true) : putT (x :: r) nm wd = x :: putT r nm wd := by
  have e : atT (x :: r) nm = atT r nm + 1 := by simp [atT, h]
  have e2 : rd_T31 (x :: r) ((atT r nm + 1 : Nat) : Int) = rd_T31 r (atT r nm : Int) := by simp [rd_T31]
  unfold putT
  rw [e, e2]
  simp only [List.length_cons, Nat.add_lt_add_iff_right, List.set_cons_succ, List.take_succ_cons, List.drop_succ_cons, List.cons_append]
  split <;> rfl
theorem putT_here (x : S31) (r : List S31) (nm : ByteArray) (wd : Int) (h : Op.bytesLess x.f0.toList nm.toList = false) : putT (x :: r) nm wd = if x.f0.toList = nm.toList then ⟨nm, wd⟩ :: r else ⟨nm, wd⟩ :: x :: r := by
  have e : atT (x :: r) nm = 0 := by simp [atT, h]
  unfold putT
  rw [e]
  simp [rd_T31]
theorem insR_put (nm : ByteArray) (wd : Int) : ∀ s : List S31, Asc s → insR nm wd s false = putT s nm wd
  | [], _ => by simp [insR, putT, atT]
  | x :: r, h => by
    have hr : Asc r := (List.pairwise_cons.1 h).2
    have hx := (List.pairwise_cons.1 h).1
    cases hb : Op.bytesLess x.f0.toList nm.toList with
    | true =>
      have hne : x.f0.toList ≠ nm.toList := fun e => by rw [e, blt_irrefl] at hb; cases hb
      have hn : Op.bytesLess nm.toList x.f0.toList = false := by
        cases hq : Op.bytesLess nm.toList x.f0.toList with
        | false => rfl
        | true => have := blt_trans _ _ _ hb hq; rw [blt_irrefl] at this; cases this
      rw [putT_cons x r nm wd hb, ← insR_put nm wd r hr]
      simp only [insR, Bool.not_false, decide_eq_false hne, hn, Bool.or_false, Bool.and_false, if_neg Bool.false_ne_true, if_neg hne, List.nil_append, List.singleton_append]
    | false =>
      rw [putT_here x r nm wd hb]
      by_cases hne : x.f0.toList = nm.toList
      · have hd := insR_done nm wd r (fun y hy e => by have := hx y hy; rw [hne, e, blt_irrefl] at this; cases this)
        simp only [insR, Bool.not_false, decide_eq_true hne, Bool.true_or, Bool.and_true, Bool.or_true, if_true, if_pos hne, hd, List.nil_append, List.singleton_append]
      · have hn : Op.bytesLess nm.toList x.f0.toList = true := by
          cases hq : Op.bytesLess nm.toList x.f0.toList with
          | true => rfl
          | false => exact absurd (blt_conn _ _ hb hq) hne
        have hd := insR_done nm wd r (fun y hy e => by
          have := blt_trans _ _ _ hn (hx y hy)
          rw [e, blt_irrefl] at this; cases this)
        simp only [insR, Bool.not_false, decide_eq_false hne, hn, Bool.or_true, Bool.and_true, if_true, if_neg hne, hd, List.singleton_append]
theorem insR_length (nm : ByteArray) (wd : Int) : ∀ (s : List S31) (p : Bool), (insR nm wd s p).length ≤ s.length + 1 + s.length
  | [], p => by simp only [insR]; split <;> simp
  | x :: r, p => by
    have ih := insR_length nm wd r (p || (decide (x.f0.toList = nm.toList) || Op.bytesLess nm.toList x.f0.toList))
    simp only [insR, List.length_append, List.length_cons]
    have h1 : (if (!p && (decide (x.f0.toList = nm.toList) || Op.bytesLess nm.toList x.f0.toList)) = true then [(⟨nm, wd⟩ : S31)] else []).length ≤ 1 := by split <;> simp
    have h2 : (if x.f0.toList = nm.toList then ([] : List S31) else [x]).length ≤ 1 := by split <;> simp
    omega
theorem putT_length (s : List S31) (nm : ByteArray) (wd : Int) : (putT s nm wd).length ≤ s.length + 1 := by
  have := atT_le s nm
  unfold putT
  split
  · simp
  · simp only [List.length_append, List.length_take, List.length_cons, List.length_drop]; omega
theorem putT_mem {s : List S31} {nm : ByteArray} {wd : Int} {x : S31} (h : x ∈ putT s nm wd) : x ∈ s ∨ x.f0 = nm := by
  unfold putT at h
  split at h
  · rcases List.mem_or_eq_of_mem_set h with h | h
    · exact .inl h
    · exact .inr (by rw [h])
  · rcases List.mem_append.1 h with h | h
    · exact .inl (List.mem_of_mem_take h)
    · rcases List.mem_cons.1 h with h | h
      · exact .inr (by rw [h])
      · exact .inl (List.mem_of_mem_drop h)
/-- What both give. -/
def putTab (s : List S31) (nm : ByteArray) (wd : Int) : List S31 × Bool := if (schemaOk s && schemaOk (putT s nm wd)) = true then (putT s nm wd, true) else (s, false)
theorem putTab_length (s : List S31) (nm : ByteArray) (wd : Int) (hl : s.length ≤ 1048576) : (putTab s nm wd).1.length ≤ 1048576 := by
  unfold putTab
  split
  · rename_i h
    simp only [Bool.and_eq_true, schemaOk, decide_eq_true_eq] at h
    have := h.2.1
    show (putT s nm wd).length ≤ 1048576
    omega
  · exact hl

theorem impl_in_eq (a b c : Int) : impl_in.f a b c = some (decide (b ≤ a ∧ a ≤ c)) := by
  unfold impl_in.f
  by_cases h : b ≤ a
  · rw [if_pos h]; simp [h]
  · rw [if_neg (show ¬ a ≥ b from h)]; simp [h]

theorem ev_impl_WordOk_l0 (s : ByteArray) (hs : s.size ≤ 1099511627776) : ∀ (d i : Nat), i + d = s.size → Ev (fun k => impl_WordOk.l0 k s (s.size : Int) i) (wordFrom s d i && decide (1 ≤ s.size ∧ s.size ≤ 12)) := by
  intro d
  induction d with
  | zero =>
    intro i h
    apply Ev.step
    · intro k; rw [impl_WordOk.l0]
    simp only [if_neg (show ¬ ((i : Int) < s.size) by omega), impl_in_eq, Option.bind_some, wordFrom, Bool.true_and]
    refine Ev.const (congrArg some ?_)
    exact decide_eq_decide.mpr (by omega)
  | succ d ih =>
    intro i h
    have ih' := ih (i + 1) (by omega)
    apply Ev.step
    · intro k; rw [impl_WordOk.l0]
    simp only [if_pos (show (i : Int) < s.size by omega), if_pos (show (0 : Int) ≤ i by omega), w64 (x := (i : Int) + 1) (by omega), wordFrom]
    by_cases h1 : bt s i ≥ 97
    · simp only [if_pos h1]
      by_cases h2 : bt s i ≤ 122
      · simp only [if_pos h2, show okAt s i = true by simp [okAt]; omega, Bool.true_and]; exact ih'
      · simp only [if_neg h2]
        by_cases h0 : (i : Int) = 0
        · simp only [if_pos h0, show okAt s i = false by simp [okAt]; omega, Bool.false_and]; exact Ev.now _
        · simp only [if_neg h0, if_neg (show ¬ bt s i < 48 by omega), if_pos (show bt s i > 57 by omega), show okAt s i = false by simp [okAt]; omega, Bool.false_and]; exact Ev.now _
    · simp only [if_neg h1]
      by_cases h0 : (i : Int) = 0
      · simp only [if_pos h0, show okAt s i = false by simp [okAt]; omega, Bool.false_and]; exact Ev.now _
      · simp only [if_neg h0]
        by_cases h2 : bt s i < 48
        · simp only [if_pos h2, show okAt s i = false by simp [okAt]; omega, Bool.false_and]; exact Ev.now _
        · by_cases h3 : bt s i > 57
          · simp only [if_neg h2, if_pos h3, show okAt s i = false by simp [okAt]; omega, Bool.false_and]; exact Ev.now _
          · simp only [if_neg h2, if_neg h3, show okAt s i = true by simp [okAt]; omega, Bool.true_and]; exact ih'
theorem ev_impl_WordOk (s : ByteArray) (hs : s.size ≤ 1099511627776) : Ev (fun k => impl_WordOk.f k s) (wordOk s) := by
  have := ev_impl_WordOk_l0 s hs s.size 0 (by omega)
  rw [Bool.and_comm] at this
  exact this

theorem ev_impl_SchemaOk_l0 (s : List S31) (hl : s.length ≤ 1099511627776) (hs : ∀ x ∈ s, x.f0.size ≤ 1048576) : ∀ (d i : Nat), i + d = s.length → Ev (fun k => impl_SchemaOk.l0 k s s (s.length : Int) i) (schFrom s d i && decide (s.length ≤ 8)) := by
  intro d
  induction d with
  | zero =>
    intro i h
    apply Ev.step
    · intro k; rw [impl_SchemaOk.l0]
    simp only [if_neg (show ¬ ((i : Int) < s.length) by omega), schFrom, Bool.true_and]
    exact Ev.const (congrArg some (decide_eq_decide.mpr (by omega)))
  | succ d ih =>
    intro i h
    have ih' := ih (i + 1) (by omega)
    have hm := hs _ (rdT_mem (show i < s.length by omega))
    apply Ev.step
    · intro k; rw [impl_SchemaOk.l0]
    simp only [if_pos (show (i : Int) < s.length by omega), if_pos (show (0 : Int) ≤ i by omega), w64 (x := (i : Int) + 1) (by omega), schFrom, schAt]
    refine Ev.bind (ev_impl_WordOk _ (by omega)) ?_
    by_cases h1 : wordOk (rd_T31 s i).f0 = true
    · simp only [h1, if_true, impl_in_eq, Option.bind_some, Bool.true_and]
      by_cases h2 : 1 ≤ (rd_T31 s i).f1 ∧ (rd_T31 s i).f1 ≤ 6
      · simp only [decide_eq_true h2, if_true, Bool.true_and]
        by_cases h3 : (i : Int) > 0
        · simp only [if_pos h3, w64 (x := (i : Int) - 1) (by omega), if_pos (show (0 : Int) ≤ (i : Int) - 1 by omega), if_pos (show (i : Int) - 1 < s.length by omega), decide_eq_false (show ¬ i = 0 by omega), Bool.false_or]
          by_cases h4 : Op.bytesLess (rd_T31 s ((i : Int) - 1)).f0.toList (rd_T31 s i).f0.toList = true
          · simp only [h4, if_true, Bool.true_and]; simpa using ih'
          · simp only [if_neg h4, Bool.eq_false_iff.mpr h4, Bool.false_and]; exact Ev.now _
        · simp only [if_neg h3, decide_eq_true (show i = 0 by omega), Bool.true_or, Bool.true_and]; simpa using ih'
      · simp only [decide_eq_false h2, if_neg Bool.false_ne_true, Bool.false_and]; exact Ev.now _
    · simp only [if_neg h1, Bool.eq_false_iff.mpr h1, Bool.false_and]; exact Ev.now _
theorem ev_impl_SchemaOk (s : List S31) (hl : s.length ≤ 1099511627776) (hs : ∀ x ∈ s, x.f0.size ≤ 1048576) : Ev (fun k => impl_SchemaOk.f k s) (schemaOk s) := by
  have := ev_impl_SchemaOk_l0 s hl hs s.length 0 (by omega)
  rw [Bool.and_comm] at this
  simpa [impl_SchemaOk.f, schemaOk] using this

theorem ev_impl_PutTable (s : List S31) (nm : ByteArray) (wd : Int) (hl : s.length ≤ 1048576) (hs : ∀ x ∈ s, x.f0.size ≤ 1048576) (hn : nm.size ≤ 1048576) : Ev (fun k => impl_PutTable.f k s nm wd) (putTab s nm wd) := by
  have hp := putT_length s nm wd
  simp only [impl_PutTable.f, if_pos (show s.length < 5864062014804 by omega)]
  refine Ev.bind (ev_impl_SchemaOk s (by omega) hs) ?_
  cases h1 : schemaOk s with
  | false =>
    simp only [if_neg Bool.false_ne_true]
    exact Ev.const (by simp [putTab, h1])
  | true =>
    simp only [if_true]
    refine Ev.bind (ev_impl_SchemaOk (putT s nm wd) (by omega) (fun x hx => (putT_mem hx).elim (hs x) (fun e => by rw [e]; exact hn))) ?_
    exact Ev.const (by cases h2 : schemaOk (putT s nm wd) <;> simp [putTab, h1, h2])

theorem eqTable_eq (a : ByteArray) (b : Int) : laws_eqTable.f a b a b = some true := by simp [laws_eqTable.f]

theorem ev_laws_eqTableS_l0 (x0 : List (S31)) (hl : x0.length ≤ 1099511627776) (hs : ∀ x ∈ x0, True) : ∀ (d : Nat) (i : Nat), i + d = x0.length → Ev (fun k => laws_eqTableS.l0 k x0 x0 i) true := by
  intro d
  induction d with
  | zero =>
    intro i h2
    apply Ev.step
    · intro k; rw [laws_eqTableS.l0]
    simp only [if_neg (show ¬ ((i : Int) < x0.length) by omega)]
    exact Ev.now _
  | succ d ih =>
    intro i h2
    have hg : x0[i]? = some (rd_T31 x0 (i : Int)) := by simp [rd_T31, show i < x0.length by omega]
    have hm := hs _ (List.mem_of_getElem? hg)
    apply Ev.step
    · intro k; rw [laws_eqTableS.l0]
    simp only [if_pos (show (i : Int) < x0.length by omega), if_pos (show (0 : Int) ≤ i by omega)]
    refine Ev.bind (Ev.const (eqTable_eq _ _)) ?_
    simp only [if_true, w64 (x := (i : Int) + 1) (by omega)]
    have := ih (i + 1) (by omega)
    simpa using this
theorem ev_laws_eqTableS (l : List (S31)) (h : l.length ≤ 1099511627776) (hs : ∀ x ∈ l, True) : Ev (fun k => laws_eqTableS.f k l l) true := by
  simp only [laws_eqTableS.f, if_true]
  exact ev_laws_eqTableS_l0 l h hs l.length 0 (by omega)

theorem markText_l0 : ∀ (d : Nat) (x0 : Int) (x3 : ByteArray), 0 ≤ x0 → x0 ≤ 9223372036854775807 → x0 < 10 ^ d → x3.size + d ≤ 1000 → ∃ r, laws_markText.l0 (d + 1) x0 x3 = some r
  | 0, x0, x3, h0, hb, h1, h2 => by
    have hz : x0 = 0 := by simp at h1; omega
    exact ⟨(⟨#[109]⟩ : ByteArray) ++ x3, by rw [laws_markText.l0, if_neg (by omega), if_pos (by omega)]⟩
  | d + 1, x0, x3, h0, hb, h1, h2 => by
    by_cases hp : x0 > 0
    · have hd : x0 / 10 < 10 ^ d := by
        rw [Int.pow_succ] at h1
        exact Int.ediv_lt_of_lt_mul (by omega) h1
      obtain ⟨r, hr2⟩ := markText_l0 d (x0 / 10) (strOfNums [(wrap64 (48 + (Int.tmod x0 10))) % 256] ++ x3) (by omega) (by omega) hd (by rw [ByteArray.size_append, strOfNums_size]; simp; omega)
      refine ⟨r, ?_⟩
      rw [laws_markText.l0, if_pos hp]
      simp only [Option.bind_some]
      rw [if_pos (by rw [strOfNums_size]; simp; omega), tdiv_nn h0, w64 (by omega)]
      exact hr2
    · exact ⟨(⟨#[109]⟩ : ByteArray) ++ x3, by rw [laws_markText.l0, if_neg hp, if_pos (by omega)]⟩
theorem markText_20 (x : Int) (h1 : x ≤ 9223372036854775807) : ∃ r, laws_markText.f 20 x = some r := by
  unfold laws_markText.f
  by_cases h : x ≤ 0
  · exact ⟨_, if_pos h⟩
  · rw [if_neg h]
    exact markText_l0 19 x _ (by omega) h1 (by omega) (by decide)
def mtext (x : Int) : ByteArray := (laws_markText.f 20 x).getD ⟨#[]⟩
theorem ev_markText (x : Int) (h1 : x ≤ 9223372036854775807) : Ev (fun k => laws_markText.f k x) (mtext x) := by
  obtain ⟨r, hr⟩ := markText_20 x h1
  have : mtext x = r := by simp [mtext, hr]
  rw [this]
  exact Ev.of (laws_markText.mono x) hr

def markT (a : Int) : List S31 → List S31
  | [] => []
  | _ :: xs => ⟨mtext a, a + 1⟩ :: markT (a + 2) xs
theorem markT_length : ∀ (l : List S31) (a : Int), (markT a l).length = l.length
  | [], _ => rfl
  | r :: rs, a => by simp [markT, markT_length rs]
theorem ev_markTableS_l0 : ∀ (rs dn : List S31) (a : Int), dn.length + rs.length ≤ 1048576 → 0 ≤ a → a + 2 * rs.length ≤ 4194304 →
    Ev (fun k => laws_markTableS.l0 k (dn ++ rs) a dn.length) (a + 2 * rs.length, dn ++ markT a rs)
  | [], dn, a, h1, h3, h4 => by
    apply Ev.step
    · intro k; rw [laws_markTableS.l0]
    simp only [List.append_nil, if_neg (show ¬ ((dn.length : Int) < dn.length) by omega), markT, List.length_nil]
    exact Ev.const (by simp)
  | r :: rs, dn, a, h1, h3, h4 => by
    simp only [List.length_cons] at h1 h4
    have ih := ev_markTableS_l0 rs (dn ++ [⟨mtext a, a + 1⟩]) (a + 2) (by simp; omega) (by omega) (by omega)
    apply Ev.step
    · intro k; rw [laws_markTableS.l0]
    simp only [if_pos (show (dn.length : Int) < ((dn ++ r :: rs).length : Int) by simp; omega), if_pos (show (0 : Int) ≤ dn.length by omega), w64 (x := a + 1) (by omega), w64 (x := a + 1 + 1) (by omega), w64 (x := (dn.length : Int) + 1) (by omega)]
    refine Ev.bind (ev_markText a (by omega)) ?_
    simp only [Option.bind_some, Int.toNat_natCast]
    have e : ∀ y : S31, (dn ++ r :: rs).set dn.length y = dn ++ y :: rs := fun y => by simp
    have e2 : ∀ y z : S31, (dn ++ y :: rs).set dn.length z = dn ++ [z] ++ rs := fun y z => by simp
    rw [e, e2, show rd_T31 (dn ++ (⟨mtext a, (rd_T31 (dn ++ r :: rs) (dn.length : Int)).f1⟩ : S31) :: rs) (dn.length : Int) = ⟨mtext a, (rd_T31 (dn ++ r :: rs) (dn.length : Int)).f1⟩ by simp [rd_T31]]
    rw [show a + 1 + 1 = a + 2 by omega]
    simp only [List.length_append, List.length_cons, List.length_nil] at ih
    have e3 : (a + 2 + 2 * (rs.length : Int)) = a + 2 * ((rs.length + 1 : Nat) : Int) := by omega
    rw [e3] at ih
    simpa [markT] using ih
theorem ev_markTableS (l : List S31) (hl : l.length ≤ 1048576) : Ev (fun k => laws_markTableS.f k l 1) (1 + 2 * l.length, markT 1 l) := by
  simpa [laws_markTableS.f] using ev_markTableS_l0 l [] 1 (by simp; omega) (by omega) (by omega)

theorem ev_heldTableS_l0 : ∀ (rs dn : List S31) (a : Int), dn.length + rs.length ≤ 1048576 → 0 ≤ a → a + 2 * rs.length ≤ 4194304 →
    Ev (fun k => laws_heldTableS.l0 k (dn ++ markT a rs) a dn.length) (a + 2 * rs.length)
  | [], dn, a, h1, h3, h4 => by
    apply Ev.step
    · intro k; rw [laws_heldTableS.l0]
    simp only [markT, List.append_nil, if_neg (show ¬ ((dn.length : Int) < dn.length) by omega), List.length_nil]
    exact Ev.const (by simp)
  | r :: rs, dn, a, h1, h3, h4 => by
    simp only [List.length_cons] at h1 h4
    have ih := ev_heldTableS_l0 rs (dn ++ [⟨mtext a, a + 1⟩]) (a + 2) (by simp; omega) (by omega) (by omega)
    have hrd : rd_T31 (dn ++ markT a (r :: rs)) (dn.length : Int) = ⟨mtext a, a + 1⟩ := by simp [rd_T31, markT]
    apply Ev.step
    · intro k; rw [laws_heldTableS.l0]
    simp only [hrd, if_pos (show (dn.length : Int) < ((dn ++ markT a (r :: rs)).length : Int) by simp [markT]; omega), if_pos (show (0 : Int) ≤ dn.length by omega), w64 (x := a + 1) (by omega), w64 (x := a + 1 + 1) (by omega), w64 (x := (dn.length : Int) + 1) (by omega), if_true]
    refine Ev.bind (ev_markText a (by omega)) ?_
    simp only [if_true]
    rw [show a + 1 + 1 = a + 2 by omega]
    simp only [List.length_append, List.length_cons, List.length_nil] at ih
    have e3 : (a + 2 + 2 * (rs.length : Int)) = a + 2 * ((rs.length + 1 : Nat) : Int) := by omega
    rw [e3] at ih
    simpa [markT] using ih
theorem ev_heldTableS (l : List S31) (hl : l.length ≤ 1048576) : Ev (fun k => laws_heldTableS.f k (markT 1 l) 1) (1 + 2 * l.length) := by
  simpa [laws_heldTableS.f] using ev_heldTableS_l0 l [] 1 (by simp; omega) (by omega) (by omega)

theorem szTable_eq (s : ByteArray) (n : Int) (a : Int) (h0 : 0 ≤ a) (h1 : a ≤ 1048576) (hl : s.size ≤ 9223372036854775807) : ∃ r, laws_szTable.f s n a = some r ∧ -1 ≤ r ∧ r ≤ a ∧ (0 ≤ r → s.size ≤ 1048576) := by
  by_cases hn : a - (s.size : Int) < 0
  · exact ⟨-1, by simp only [laws_szTable.f, w64 (x := a - (s.size : Int)) (by omega), if_pos hn], by omega, by omega, fun h => by omega⟩
  · exact ⟨a - s.size, by simp only [laws_szTable.f, w64 (x := a - (s.size : Int)) (by omega), if_neg hn], by omega, by omega, fun h => by omega⟩
theorem ev_szTable (x : S24) (a : Int) (h0 : 0 ≤ a) (h1 : a ≤ 1048576) (hl : x.f0.size ≤ 9223372036854775807) : ∃ r, Ev (fun _ => laws_szTable.f x.f0 x.f1 a) r ∧ -1 ≤ r ∧ r ≤ a ∧ (0 ≤ r → x.f0.size ≤ 1048576) := by
  obtain ⟨r, h, g⟩ := szTable_eq x.f0 x.f1 a h0 h1 hl
  exact ⟨r, Ev.const h, g⟩

def SmallTableS (l : List S24) : Prop := l.length ≤ 1048576 ∧ ∀ x ∈ l, x.f0.size ≤ 1048576
def cvTable (x : S24) : S31 := ⟨x.f0, x.f1⟩

theorem ev_laws_szTableS_l0 (x0 : List (S24)) (hl : x0.length ≤ 9223372036854775806) (hs : ∀ x ∈ x0, x.f0.size ≤ 9223372036854775807) : ∀ (d : Nat) (a : Int) (i : Nat), i + d = x0.length → 0 ≤ a → a ≤ 1048576 → ∃ r, Ev (fun k => laws_szTableS.l0 k x0 a i) r ∧ -1 ≤ r ∧ r ≤ a ∧ (0 ≤ r → ∀ x ∈ x0.drop i, x.f0.size ≤ 1048576) := by
  intro d
  induction d with
  | zero =>
    intro a i h2 h0 h1
    refine ⟨a, ?_, by omega, by omega, fun _ x hx => ?_⟩
    · apply Ev.step
      · intro k; rw [laws_szTableS.l0]
      simp only [if_neg (show ¬ ((i : Int) < x0.length) by omega)]
      exact Ev.now _
    · rw [List.drop_eq_nil_of_le (by omega)] at hx; cases hx
  | succ d ih =>
    intro a i h2 h0 h1
    have hg : x0[i]? = some (rd_T24 x0 (i : Int)) := by simp [rd_T24, show i < x0.length by omega]
    have hm := hs _ (List.mem_of_getElem? hg)
    obtain ⟨r1, e1, g1, g2, g3⟩ := ev_szTable (rd_T24 x0 (i : Int)) a h0 h1 hm
    have hd : x0.drop i = rd_T24 x0 (i : Int) :: x0.drop (i + 1) := by
      rw [List.drop_eq_getElem_cons (show i < x0.length by omega)]
      congr 1
      rw [List.getElem?_eq_getElem (show i < x0.length by omega)] at hg
      injection hg
    by_cases hr : r1 < 0
    · refine ⟨-1, ?_, by omega, by omega, fun h => by omega⟩
      apply Ev.step
      · intro k; rw [laws_szTableS.l0]
      simp only [if_pos (show (i : Int) < x0.length by omega), if_pos (show (0 : Int) ≤ i by omega)]
      refine Ev.bind e1 ?_
      simp only [if_pos hr]
      exact Ev.now _
    · obtain ⟨r2, e2, g4, g5, g6⟩ := ih r1 (i + 1) (by omega) (by omega) (by omega)
      refine ⟨r2, ?_, by omega, by omega, fun h x hx => ?_⟩
      · apply Ev.step
        · intro k; rw [laws_szTableS.l0]
        simp only [if_pos (show (i : Int) < x0.length by omega), if_pos (show (0 : Int) ≤ i by omega)]
        refine Ev.bind e1 ?_
        simp only [if_neg hr, w64 (x := (i : Int) + 1) (by omega)]
        simpa using e2
      · rw [hd] at hx
        rcases List.mem_cons.1 hx with rfl | hx
        · exact g3 (by omega)
        · exact g6 h x hx
theorem ev_laws_szTableS (l : List (S24)) (a : Int) (h0 : 0 ≤ a) (h1 : a ≤ 1048576) (hl : l.length ≤ 9223372036854775807) (hs : ∀ x ∈ l, x.f0.size ≤ 9223372036854775807) : ∃ r, Ev (fun k => laws_szTableS.f k l a) r ∧ -1 ≤ r ∧ r ≤ a ∧ (0 ≤ r → SmallTableS l) := by
  by_cases hn : a - (l.length : Int) < 0
  · refine ⟨-1, ?_, by omega, by omega, fun h => by omega⟩
    simp only [laws_szTableS.f, w64 (x := a - (l.length : Int)) (by omega), if_pos hn]
    exact Ev.now _
  · obtain ⟨r, e, g1, g2, g3⟩ := ev_laws_szTableS_l0 l (by omega) hs l.length (a - l.length) 0 (by omega) (by omega) (by omega)
    refine ⟨r, ?_, by omega, by omega, fun h => ⟨by omega, by simpa using g3 h⟩⟩
    simp only [laws_szTableS.f, w64 (x := a - (l.length : Int)) (by omega), if_neg hn]
    exact e

theorem ev_laws_toTableS_l0 (x0 : List (S24)) (hl : x0.length ≤ 1048576) (hs : ∀ x ∈ x0, x.f0.size ≤ 1048576) : ∀ (d : Nat) (x3 : List (S31)) (i : Nat), x3.length = x0.length → i + d = x0.length → x3.take i = (x0.map cvTable).take i → Ev (fun k => laws_toTableS.l0 k x0 x3 i) (x0.map cvTable) := by
  intro d
  induction d with
  | zero =>
    intro x3 i h1 h2 h3
    apply Ev.step
    · intro k; rw [laws_toTableS.l0]
    simp only [if_neg (show ¬ ((i : Int) < x0.length) by omega)]
    rw [take_eq_all (xs := x0.map cvTable) (by simpa using h1) (by simp; omega) h3]
    exact Ev.now _
  | succ d ih =>
    intro x3 i h1 h2 h3
    have hg : x0[i]? = some (rd_T24 x0 (i : Int)) := by simp [rd_T24, show i < x0.length by omega]
    have hm := hs _ (List.mem_of_getElem? hg)
    apply Ev.step
    · intro k; rw [laws_toTableS.l0]
    simp only [if_pos (show (i : Int) < x0.length by omega), if_pos (show (0 : Int) ≤ i by omega)]
    simp only [laws_toTable.f, Option.bind_some]
    simp only [if_pos (show (i : Int) < x3.length by omega), w64 (x := (i : Int) + 1) (by omega)]
    have := ih (x3.set i ((⟨(rd_T24 x0 (i : Int)).f0, (rd_T24 x0 (i : Int)).f1⟩ : S31))) (i + 1) (by simp [h1]) (by omega) (take_set_at (x0.map cvTable) _ _ _ (by simpa using h1) (by simp; omega) (by rw [List.getElem?_map, hg]; rfl) h3)
    first | (simpa using this) | (simpa [cvTable] using this)
theorem ev_laws_toTableS (l : List (S24)) (h : SmallTableS l) : Ev (fun k => laws_toTableS.f k l) (l.map cvTable) := by
  have h1 := h.1
  simp only [laws_toTableS.f, if_pos (show (0 : Int) ≤ l.length by omega), if_pos (show (l.length : Int).toNat ≤ 11728124029610 by omega)]
  exact ev_laws_toTableS_l0 l h.1 h.2 l.length _ 0 (by simp) (by omega) (by simp)

theorem spec_l01In_eq (a b c : Int) : spec_l01In.f a b c = some (decide (b ≤ a ∧ a ≤ c)) := by
  unfold spec_l01In.f
  by_cases h : b ≤ a
  · rw [if_pos h]; simp [h]
  · rw [if_neg h]; simp [h]

theorem ev_spec_WordOk_l0 (s : ByteArray) (hs : s.size ≤ 1099511627776) : ∀ (d i : Nat), i + d = s.size → (i = 0 → 97 ≤ bt s 0) → Ev (fun k => spec_WordOk.l0 k s i) (wordFrom s d i) := by
  intro d
  induction d with
  | zero =>
    intro i h _
    apply Ev.step
    · intro k; rw [spec_WordOk.l0]
    simp only [if_neg (show ¬ ((i : Int) < s.size) by omega)]
    exact Ev.now _
  | succ d ih =>
    intro i h h0
    have ih' := ih (i + 1) (by omega) (by omega)
    apply Ev.step
    · intro k; rw [spec_WordOk.l0]
    simp only [if_pos (show (i : Int) < s.size by omega), if_pos (show (0 : Int) ≤ i by omega), w64 (x := (i : Int) + 1) (by omega), wordFrom]
    have hi : i = 0 → 97 ≤ bt s i := by intro e; subst e; exact h0 rfl
    by_cases h1 : bt s i < 97
    · simp only [if_pos h1]
      have hp : 0 < i := by rcases Nat.eq_zero_or_pos i with e | e; · have := hi e; omega
                            · exact e
      by_cases h2 : bt s i < 48
      · simp only [if_pos h2, show okAt s i = false by simp [okAt]; omega, Bool.false_and]; exact Ev.now _
      · by_cases h3 : bt s i > 57
        · simp only [if_neg h2, if_pos h3, show okAt s i = false by simp [okAt]; omega, Bool.false_and]; exact Ev.now _
        · simp only [if_neg h2, if_neg h3, show okAt s i = true by simp [okAt]; omega, Bool.true_and]; exact ih'
    · simp only [if_neg h1]
      by_cases h2 : bt s i > 122
      · simp only [if_pos h2, if_neg (show ¬ bt s i < 48 by omega), if_pos (show bt s i > 57 by omega), show okAt s i = false by simp [okAt]; omega, Bool.false_and]; exact Ev.now _
      · simp only [if_neg h2, show okAt s i = true by simp [okAt]; omega, Bool.true_and]; exact ih'
theorem ev_spec_WordOk (s : ByteArray) (hs : s.size ≤ 1099511627776) : Ev (fun k => spec_WordOk.f k s) (wordOk s) := by
  simp only [spec_WordOk.f, spec_l01In_eq, Option.bind_some, decide_eq_true_eq, wordOk]
  by_cases h : 1 ≤ s.size ∧ s.size ≤ 12
  · simp only [if_pos (show 1 ≤ (s.size : Int) ∧ (s.size : Int) ≤ 12 by omega), if_pos (show (0 : Int) < s.size by omega), decide_eq_true h, Bool.true_and]
    apply Ev.step
    · intro k; rw [spec_WordOk.j0]
    simp only [decide_eq_true_eq]
    by_cases h1 : bt s 0 < 97
    · simp only [if_pos h1]
      obtain ⟨d, hd⟩ : ∃ d, s.size = d + 1 := ⟨s.size - 1, by omega⟩
      rw [hd, wordFrom, show okAt s 0 = false by simp [okAt]; omega, Bool.false_and]
      exact Ev.now _
    · simp only [if_neg h1]
      exact ev_spec_WordOk_l0 s hs s.size 0 (by omega) (by omega)
  · simp only [if_neg (show ¬ (1 ≤ (s.size : Int) ∧ (s.size : Int) ≤ 12) by omega), decide_eq_false h, Bool.false_and]
    apply Ev.step
    · intro k; rw [spec_WordOk.j0]
    simp only [if_true]
    exact Ev.now _

theorem ev_spec_l01Less_l0 (a b : ByteArray) (ha : a.size ≤ 1099511627776) (hb : b.size ≤ 1099511627776) : ∀ (d i : Nat), i + d = a.size → Ev (fun k => spec_l01Less.l0 k a b i) (Op.bytesLess (a.toList.drop i) (b.toList.drop i)) := by
  intro d
  induction d with
  | zero =>
    intro i h
    apply Ev.step
    · intro k; rw [spec_l01Less.l0]
    simp only [if_neg (show ¬ ((i : Int) < a.size) by omega)]
    apply Ev.step
    · intro k; rw [spec_l01Less.j1]
    simp only [if_neg Bool.false_ne_true, toList_end a i (by omega)]
    refine Ev.const (congrArg some ?_)
    by_cases hb' : i < b.size
    · obtain ⟨y, e, _⟩ := toList_drop b i hb'
      rw [e, decide_eq_true (show (a.size : Int) < b.size by omega)]; rfl
    · rw [toList_end b i (by omega), decide_eq_false (show ¬ (a.size : Int) < b.size by omega)]; rfl
  | succ d ih =>
    intro i h
    have ih' := ih (i + 1) (by omega)
    obtain ⟨x, ex, hx⟩ := toList_drop a i (by omega)
    apply Ev.step
    · intro k; rw [spec_l01Less.l0]
    simp only [if_pos (show (i : Int) < a.size by omega)]
    by_cases hb' : i < b.size
    · obtain ⟨y, ey, hy⟩ := toList_drop b i hb'
      rw [ex, ey, bytesLess_cons hx hy]
      apply Ev.step
      · intro k; rw [spec_l01Less.j1]
      simp only [decide_eq_true (show (i : Int) < b.size by omega), if_true, if_pos (show (0 : Int) ≤ i by omega), if_pos (show (i : Int) < a.size by omega), if_pos (show (i : Int) < b.size by omega), w64 (x := (i : Int) + 1) (by omega)]
      by_cases he : bt a i = bt b i
      · simp only [if_pos he, decide_eq_true he, decide_eq_false (show ¬ bt a i < bt b i by omega), Bool.false_or, Bool.true_and]
        simpa using ih'
      · simp only [if_neg he, decide_eq_false he, Bool.false_and, Bool.or_false]
        exact Ev.now _
    · rw [toList_end b i (by omega)]
      apply Ev.step
      · intro k; rw [spec_l01Less.j1]
      simp only [decide_eq_false (show ¬ (i : Int) < b.size by omega), if_neg Bool.false_ne_true]
      refine Ev.const (congrArg some ?_)
      rw [ex, decide_eq_false (show ¬ (a.size : Int) < b.size by omega)]; rfl
theorem ev_spec_l01Less (a b : ByteArray) (ha : a.size ≤ 1099511627776) (hb : b.size ≤ 1099511627776) : Ev (fun k => spec_l01Less.f k a b) (Op.bytesLess a.toList b.toList) := by
  simpa [spec_l01Less.f] using ev_spec_l01Less_l0 a b ha hb a.size 0 (by omega)

theorem ev_spec_SchemaOk_l0 (s : List S31) (hl : s.length ≤ 1099511627776) (hs : ∀ x ∈ s, x.f0.size ≤ 1048576) : ∀ (d i : Nat), i + d = s.length → Ev (fun k => spec_SchemaOk.l0 k s i) (schFrom s d i) := by
  intro d
  induction d with
  | zero =>
    intro i h
    apply Ev.step
    · intro k; rw [spec_SchemaOk.l0]
    simp only [if_neg (show ¬ ((i : Int) < s.length) by omega)]
    exact Ev.now _
  | succ d ih =>
    intro i h
    have ih' := ih (i + 1) (by omega)
    have hm := hs _ (rdT_mem (show i < s.length by omega))
    apply Ev.step
    · intro k; rw [spec_SchemaOk.l0]
    simp only [if_pos (show (i : Int) < s.length by omega), if_pos (show (0 : Int) ≤ i by omega), w64 (x := (i : Int) + 1) (by omega), schFrom, schAt]
    refine Ev.bind (ev_spec_WordOk _ (by omega)) ?_
    by_cases h1 : wordOk (rd_T31 s i).f0 = true
    · simp only [h1, if_true, spec_l01In_eq, Option.bind_some, Bool.true_and]
      by_cases h2 : 1 ≤ (rd_T31 s i).f1 ∧ (rd_T31 s i).f1 ≤ 6
      · simp only [decide_eq_true h2, if_true, Bool.true_and]
        by_cases h3 : (i : Int) > 0
        · have hm2 := hs _ (rdT_mem (show i - 1 < s.length by omega))
          rw [show ((i - 1 : Nat) : Int) = (i : Int) - 1 by omega] at hm2
          simp only [if_pos h3, w64 (x := (i : Int) - 1) (by omega), if_pos (show (0 : Int) ≤ (i : Int) - 1 by omega), if_pos (show (i : Int) - 1 < s.length by omega), decide_eq_false (show ¬ i = 0 by omega), Bool.false_or]
          refine Ev.bind (ev_spec_l01Less _ _ (by omega) (by omega)) ?_
          by_cases h4 : Op.bytesLess (rd_T31 s ((i : Int) - 1)).f0.toList (rd_T31 s i).f0.toList = true
          · simp only [h4, if_true, Bool.true_and]; simpa using ih'
          · simp only [if_neg h4, Bool.eq_false_iff.mpr h4, Bool.false_and]; exact Ev.now _
        · simp only [if_neg h3, decide_eq_true (show i = 0 by omega), Bool.true_or, Bool.true_and]; simpa using ih'
      · simp only [decide_eq_false h2, if_neg Bool.false_ne_true, Bool.false_and]; exact Ev.now _
    · simp only [if_neg h1, Bool.eq_false_iff.mpr h1, Bool.false_and]; exact Ev.now _
theorem ev_spec_SchemaOk (s : List S31) (hl : s.length ≤ 1099511627776) (hs : ∀ x ∈ s, x.f0.size ≤ 1048576) : Ev (fun k => spec_SchemaOk.f k s) (schemaOk s) := by
  simp only [spec_SchemaOk.f, schemaOk]
  by_cases h : s.length ≤ 8
  · simp only [if_neg (show ¬ (s.length : Int) > 8 by omega), decide_eq_true h, Bool.true_and]
    exact ev_spec_SchemaOk_l0 s hl hs s.length 0 (by omega)
  · simp only [if_pos (show (s.length : Int) > 8 by omega), decide_eq_false h, Bool.false_and]
    exact Ev.now _

theorem take_rdTab (s : List S31) (i : Nat) (h : i < s.length) : s.take i ++ [(⟨(rd_T31 s (i : Int)).f0, (rd_T31 s (i : Int)).f1⟩ : S31)] = s.take (i + 1) := by
  rw [List.take_succ_eq_append_getElem h, show rd_T31 s (i : Int) = s[i] by simp [rd_T31, h]]
theorem ev_spec_l03Copy_l0 (x0 : List S31) (hl : x0.length ≤ 1048576) : ∀ (d i : Nat), i + d = x0.length → Ev (fun k => spec_l03Copy.l0 k x0 (x0.take i) i) x0 := by
  intro d
  induction d with
  | zero =>
    intro i h
    apply Ev.step
    · intro k; rw [spec_l03Copy.l0]
    simp only [if_neg (show ¬ ((i : Int) < x0.length) by omega)]
    rw [List.take_of_length_le (by omega)]
    exact Ev.now _
  | succ d ih =>
    intro i h
    have ih' := ih (i + 1) (by omega)
    rw [← take_rdTab x0 i (by omega)] at ih'
    apply Ev.step
    · intro k; rw [spec_l03Copy.l0]
    simp only [if_pos (show (i : Int) < x0.length by omega), if_pos (show (0 : Int) ≤ i by omega), if_pos (show (x0.take i).length < 5864062014805 by simp; omega), w64 (x := (i : Int) + 1) (by omega)]
    simpa using ih'
theorem ev_spec_l03Copy (l : List S31) (hl : l.length ≤ 1048576) : Ev (fun k => spec_l03Copy.f k l) l := by
  simpa [spec_l03Copy.f] using ev_spec_l03Copy_l0 l hl l.length 0 (by omega)

def specRes (s out : List S31) : List S31 × Bool := if (schemaOk s && schemaOk out) = true then (out, true) else (s, false)
theorem ev_spec_PutTable_j2 (s out : List S31) (hl : s.length ≤ 1048576) (hs : ∀ x ∈ s, x.f0.size ≤ 1048576) (hl2 : out.length ≤ 4194304) (hs2 : ∀ x ∈ out, x.f0.size ≤ 1048576) : Ev (fun k => spec_PutTable.j2 k s out) (specRes s out) := by
  apply Ev.step
  · intro k; rw [spec_PutTable.j2]
  refine Ev.bind (ev_spec_SchemaOk s (by omega) hs) ?_
  cases h1 : schemaOk s with
  | false =>
    simp only [if_neg Bool.false_ne_true]
    refine Ev.bind (ev_spec_l03Copy s hl) ?_
    exact Ev.const (by simp [specRes, h1])
  | true =>
    simp only [if_true]
    refine Ev.bind (ev_spec_SchemaOk out (by omega) hs2) ?_
    cases h2 : schemaOk out with
    | false =>
      simp only [if_neg Bool.false_ne_true]
      refine Ev.bind (ev_spec_l03Copy s hl) ?_
      exact Ev.const (by simp [specRes, h1, h2])
    | true =>
      simp only [if_true]
      exact Ev.const (by simp [specRes, h1, h2])
theorem drop_rdTab (s : List S31) (i : Nat) (h : i < s.length) : s.drop i = rd_T31 s (i : Int) :: s.drop (i + 1) := by
  rw [List.drop_eq_getElem_cons h]
  simp [rd_T31, h]
theorem ev_spec_PutTable_l0 (s : List S31) (nm : ByteArray) (wd : Int) (hl : s.length ≤ 1048576) (hs : ∀ x ∈ s, x.f0.size ≤ 1048576) (hn : nm.size ≤ 1048576) : ∀ (d i : Nat) (x6 : List S31) (p : Bool), i + d = s.length → x6.length ≤ 2 * i → (∀ x ∈ x6, x.f0.size ≤ 1048576) →
    Ev (fun k => spec_PutTable.l0 k s x6 p i nm wd) (specRes s (x6 ++ insR nm wd (s.drop i) p)) := by
  intro d
  induction d with
  | zero =>
    intro i x6 p h h6 hb
    apply Ev.step
    · intro k; rw [spec_PutTable.l0]
    simp only [if_neg (show ¬ ((i : Int) < s.length) by omega), List.drop_eq_nil_of_le (show s.length ≤ i by omega), insR]
    cases p with
    | true =>
      simp only [if_true, List.append_nil]
      exact ev_spec_PutTable_j2 s x6 hl hs (by omega) hb
    | false =>
      simp only [if_neg Bool.false_ne_true, if_pos (show x6.length < 5864062014805 by omega)]
      refine ev_spec_PutTable_j2 s _ hl hs (by simp; omega) (fun x hx => ?_)
      rcases List.mem_append.1 hx with hx | hx
      · exact hb x hx
      · rw [List.mem_singleton.1 hx]; exact hn
  | succ d ih =>
    intro i x6 p h h6 hb
    have hm := hs _ (rdT_mem (show i < s.length by omega))
    have hst : ∀ (y : List S31) (q : Bool), y.length ≤ 2 * (i + 1) → (∀ x ∈ y, x.f0.size ≤ 1048576) → Ev (fun k => spec_PutTable.l0 k s y q ((i : Int) + 1) nm wd) (specRes s (y ++ insR nm wd (s.drop (i + 1)) q)) := fun y q h1 h2 => by
      have := ih (i + 1) y q (by omega) (by omega) h2
      simpa using this
    have e1 : (⟨(rd_T31 s (i : Int)).f0, (rd_T31 s (i : Int)).f1⟩ : S31) = rd_T31 s (i : Int) := rfl
    have hj : ∀ (c : Bool), Ev (fun k => spec_PutTable.j1 k s x6 p i c nm wd) (specRes s (x6 ++ ((if c = true then [(⟨nm, wd⟩ : S31)] else []) ++ ((if (rd_T31 s (i : Int)).f0.toList = nm.toList then [] else [rd_T31 s (i : Int)]) ++ insR nm wd (s.drop (i + 1)) (p || c))))) := by
      intro c
      apply Ev.step
      · intro k; rw [spec_PutTable.j1]
      cases c with
      | true =>
        simp only [if_true, if_pos (show x6.length < 5864062014805 by omega), Option.bind_some, if_pos (show (0 : Int) ≤ i by omega), if_pos (show (i : Int) < s.length by omega), w64 (x := (i : Int) + 1) (by omega), Bool.or_true]
        have hb2 : ∀ x ∈ x6 ++ [(⟨nm, wd⟩ : S31)], x.f0.size ≤ 1048576 := fun x hx => by
          rcases List.mem_append.1 hx with hx | hx
          · exact hb x hx
          · rw [List.mem_singleton.1 hx]; exact hn
        by_cases hq : (rd_T31 s (i : Int)).f0.toList = nm.toList
        · simp only [if_pos hq]
          have := hst (x6 ++ [⟨nm, wd⟩]) true (by simp; omega) hb2
          simpa using this
        · simp only [if_neg hq, e1, if_pos (show (x6 ++ [(⟨nm, wd⟩ : S31)]).length < 5864062014805 by simp; omega)]
          have := hst (x6 ++ [⟨nm, wd⟩] ++ [rd_T31 s (i : Int)]) true (by simp; omega) (fun x hx => by
            rcases List.mem_append.1 hx with hx | hx
            · exact hb2 x hx
            · rw [List.mem_singleton.1 hx]; exact hm)
          simpa using this
      | false =>
        simp only [if_neg Bool.false_ne_true, if_pos (show (0 : Int) ≤ i by omega), if_pos (show (i : Int) < s.length by omega), w64 (x := (i : Int) + 1) (by omega), Bool.or_false, List.nil_append]
        by_cases hq : (rd_T31 s (i : Int)).f0.toList = nm.toList
        · simp only [if_pos hq, List.nil_append]
          exact hst x6 p (by omega) hb
        · simp only [if_neg hq, e1, if_pos (show x6.length < 5864062014805 by omega)]
          have := hst (x6 ++ [rd_T31 s (i : Int)]) p (by simp; omega) (fun x hx => by
            rcases List.mem_append.1 hx with hx | hx
            · exact hb x hx
            · rw [List.mem_singleton.1 hx]; exact hm)
          simpa using this
    rw [drop_rdTab s i (by omega)]
    simp only [insR]
    apply Ev.step
    · intro k; rw [spec_PutTable.l0]
    simp only [if_pos (show (i : Int) < s.length by omega)]
    cases p with
    | true =>
      simp only [if_true, Bool.not_true, Bool.false_and, Bool.true_or]
      have := hj false
      simpa using this
    | false =>
      simp only [if_neg Bool.false_ne_true, if_pos (show (0 : Int) ≤ i by omega), Bool.not_false, Bool.true_and, Bool.false_or]
      by_cases hq : (rd_T31 s (i : Int)).f0.toList = nm.toList
      · simp only [if_pos hq, decide_eq_true hq, Bool.true_or, if_true]
        have := hj true
        simp only [if_true, Bool.false_or, if_pos hq] at this
        exact this
      · simp only [if_neg hq, decide_eq_false hq, Bool.false_or]
        refine Ev.bind (ev_spec_l01Less nm (rd_T31 s (i : Int)).f0 (by omega) (by omega)) ?_
        have := hj (Op.bytesLess nm.toList (rd_T31 s (i : Int)).f0.toList)
        simp only [Bool.false_or, if_neg hq] at this
        exact this
theorem ev_spec_PutTable (s : List S31) (nm : ByteArray) (wd : Int) (hl : s.length ≤ 1048576) (hs : ∀ x ∈ s, x.f0.size ≤ 1048576) (hn : nm.size ≤ 1048576) : Ev (fun k => spec_PutTable.f k s nm wd) (putTab s nm wd) := by
  have h := ev_spec_PutTable_l0 s nm wd hl hs hn s.length 0 [] false (by omega) (by simp) (by simp)
  simp only [List.drop_zero, List.nil_append] at h
  have e : specRes s (insR nm wd s false) = putTab s nm wd := by
    unfold specRes putTab
    cases h1 : schemaOk s with
    | false => simp
    | true => rw [insR_put nm wd s (schemaOk_asc h1)]
  rw [e] at h
  simpa [spec_PutTable.f] using h

theorem ev_j2 (m : List S31) (hm : m.length ≤ 1048576) : Ev (fun k => laws_FnExactPutTable.j2 k (markT 1 m) (1 + 2 * m.length) false) true := by
  apply Ev.step
  · intro k; rw [laws_FnExactPutTable.j2]
  simp only [if_neg Bool.false_ne_true]
  refine Ev.bind (ev_heldTableS m hm) ?_
  simp only [if_neg (show ¬ (1 + 2 * (m.length : Int)) < 0 by omega), if_true]
  exact Ev.now _
theorem holds : ∀ (l0 : List (S24)) (x1 : S24), (l0.length ≤ 9223372036854775807 ∧ ∀ yl0 ∈ l0, Ok24 yl0) → Ok24 x1 → ∃ k, laws_FnExactPutTable.f k l0 x1.f0 x1.f1 = some true := by
  intro l x hl hx
  apply Ev.ex
  simp only [laws_FnExactPutTable.f]
  obtain ⟨q, he, g1, g2, g3⟩ := ev_laws_szTableS l 1048576 (by omega) (by omega) hl.1 (fun x hx => (hl.2 x hx).1)
  refine Ev.bind he ?_
  by_cases hq : q < 0
  · simp only [if_pos hq]; exact Ev.now _
  simp only [if_neg hq]
  obtain ⟨q2, e2, g4, g5, g6⟩ := szTable_eq x.f0 x.f1 q (by omega) (by omega) hx.1
  refine Ev.bind (Ev.const e2) ?_
  by_cases hq2 : q2 < 0
  · simp only [if_pos hq2]; exact Ev.now _
  simp only [if_neg hq2]
  have hn := g6 (by omega)
  have hS := g3 (by omega)
  have hS1 := hS.1
  have hto := ev_laws_toTableS l hS
  have hb : ∀ x ∈ l.map cvTable, x.f0.size ≤ 1048576 := by
    intro x hx
    obtain ⟨y, hy, rfl⟩ := List.mem_map.1 hx
    exact hS.2 y hy
  have hlen : (l.map cvTable).length = l.length := List.length_map _
  generalize l.map cvTable = s at *
  generalize x.f0 = nm at *
  generalize x.f1 = wd at *
  have hto1 : ∀ k : Nat, laws_toTable.f nm wd = some (nm, wd) := fun _ => by simp [laws_toTable.f]
  have hpl := putTab_length s nm wd (by omega)
  have hsp := ev_spec_PutTable s nm wd (by omega) hb hn
  have him := ev_impl_PutTable s nm wd (by omega) hb hn
  have heq := ev_laws_eqTableS (putTab s nm wd).1 (by omega) (fun _ _ => trivial)
  refine Ev.bind hto ?_
  refine Ev.bind (Ev.const (hto1 0)) ?_
  refine Ev.bind hsp ?_
  refine Ev.bind hto ?_
  refine Ev.bind (Ev.const (hto1 0)) ?_
  refine Ev.bind him ?_
  refine Ev.bind heq ?_
  simp only [if_true, bne_self_eq_false]
  apply Ev.step
  · intro k; rw [laws_FnExactPutTable.j0]
  simp only [if_neg Bool.false_ne_true]
  refine Ev.bind hto ?_
  refine Ev.bind (ev_laws_eqTableS s (by omega) (fun _ _ => trivial)) ?_
  simp only [if_true]
  refine Ev.bind (ev_markTableS s (by omega)) ?_
  simp only [if_neg (show ¬ (1 + 2 * (s.length : Int)) < 0 by omega)]
  refine Ev.bind heq ?_
  simp only [if_true, bne_self_eq_false]
  apply Ev.step
  · intro k; rw [laws_FnExactPutTable.j1]
  simp only [if_neg Bool.false_ne_true]
  refine Ev.bind (ev_markTableS (putTab s nm wd).1 (by omega)) ?_
  simp only []
  refine Ev.bind (ev_heldTableS (putTab s nm wd).1 (by omega)) ?_
  simp only [if_neg (show ¬ (1 + 2 * ((putTab s nm wd).1.length : Int)) < 0 by omega), if_true]
  refine Ev.bind hto ?_
  refine Ev.bind (Ev.const (hto1 0)) ?_
  refine Ev.bind him ?_
  refine Ev.bind heq ?_
  simp only [if_true, bne_self_eq_false]
  exact ev_j2 _ (by omega)

end EFnExactPutTable
open Go.RowKit Go.Proofs.YtgbpkbdpjcddhaaW.PrintWords Go.Proofs.YtgbpkbdpjcddhaaW.PrintLast Go.Proofs.YtgbpkbdpjcddhaaW.PrintMore Go.Proofs.Ytgbpkbdpjcddhaa.Lib Go.Proofs.Ytgbpkbdpjcddhaa.Q
theorem FnExactPutTable : ∀ (l0 : List (S24)) (x1 : S24), (l0.length ≤ 9223372036854775807 ∧ ∀ yl0 ∈ l0, Ok24 yl0) → Ok24 x1 → ∃ k, laws_FnExactPutTable.f k l0 x1.f0 x1.f1 = some true := EFnExactPutTable.holds
end Go.Proofs.Ytgbpkbdpjcddhaa.Pure
