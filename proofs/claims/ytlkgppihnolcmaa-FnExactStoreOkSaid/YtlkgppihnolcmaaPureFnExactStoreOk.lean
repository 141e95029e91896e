/- Of every list of tables and every list of rows: the program's StoreOk gives what the reference's StoreOk gives, and its arguments stay as they were. -/
import Derived.Test.YtlkgppihnolcmaaQx6
import Derived.Test.YtlkgppihnolcmaaShapes
import Derived.Test.YtlkgppihnolcmaaLib
set_option linter.unusedVariables false
set_option linter.unusedSimpArgs false
namespace Go.Proofs.Ytlkgppihnolcmaa.Pure
namespace EFnExactStoreOk
open Go.RowKit Go.Proofs.YtlkgppihnolcmaaW.PrintWords Go.Proofs.YtlkgppihnolcmaaW.PrintLast Go.Proofs.YtlkgppihnolcmaaW.PrintMore Go.Proofs.Ytlkgppihnolcmaa.Lib Go.Proofs.Ytlkgppihnolcmaa.Q

theorem impl_in_eq (a b c : Int) : impl_in.f a b c = some (decide (b ≤ a ∧ a ≤ c)) := by
  unfold impl_in.f
  by_cases h : b ≤ a
  · rw [if_pos h]; simp [h]
  · rw [if_neg (show ¬ a ≥ b from h)]; simp [h]

theorem ev_impl_WordOk_l0 (s : ByteArray) (hs : s.size ≤ 1099511627776) : ∀ (d i : Nat), i + d = s.size → Ev (fun k => impl_WordOk.l0 k s (s.size : Int) i) (wordFrom s d i && decide (1 ≤ s.size ∧ s.size ≤ 12)) := by
  intro d
  induction d with
  | zero =>
    intro i h
    apply Ev.step
    · intro k; rw [impl_WordOk.l0]
    simp only [if_neg (show ¬ ((i : Int) < s.size) by omega), impl_in_eq, Option.bind_some, wordFrom, Bool.true_and]
    refine Ev.const (congrArg some ?_)
    exact decide_eq_decide.mpr (by omega)
  | succ d ih =>
    intro i h
    have ih' := ih (i + 1) (by omega)
    apply Ev.step
    · intro k; rw [impl_WordOk.l0]
    simp only [if_pos (show (i : Int) < s.size by omega), if_pos (show (0 : Int) ≤ i by omega), w64 (x := (i : Int) + 1) (by omega), wordFrom]
    by_cases h1 : bt s i ≥ 97
    · simp only [if_pos h1]
      by_cases h2 : bt s i ≤ 122
      · simp only [if_pos h2, show okAt s i = true by simp [okAt]; omega, Bool.true_and]; exact ih'
      · simp only [if_neg h2]
        by_cases h0 : (i : Int) = 0
        · simp only [if_pos h0, show okAt s i = false by simp [okAt]; omega, Bool.false_and]; exact Ev.now _
        · simp only [if_neg h0, if_neg (show ¬ bt s i < 48 by omega), if_pos (show bt s i > 57 by omega), show okAt s i = false by simp [okAt]; omega, Bool.false_and]; exact Ev.now _
    · simp only [if_neg h1]
      by_cases h0 : (i : Int) = 0
      · simp only [if_pos h0, show okAt s i = false by simp [okAt]; omega, Bool.false_and]; exact Ev.now _
      · simp only [if_neg h0]
        by_cases h2 : bt s i < 48
        · simp only [if_pos h2, show okAt s i = false by simp [okAt]; omega, Bool.false_and]; exact Ev.now _
        · by_cases h3 : bt s i > 57
          · simp only [if_neg h2, if_pos h3, show okAt s i = false by simp [okAt]; omega, Bool.false_and]; exact Ev.now _
          · simp only [if_neg h2, if_neg h3, show okAt s i = true by simp [okAt]; omega, Bool.true_and]; exact ih'
theorem ev_impl_WordOk (s : ByteArray) (hs : s.size ≤ 1099511627776) : Ev (fun k => impl_WordOk.f k s) (wordOk s) := by
  have := ev_impl_WordOk_l0 s hs s.size 0 (by omega)
  rw [Bool.and_comm] at this
  exact this

def schAt (s : List S42) (i : Nat) : Bool :=
  wordOk (rd_T42 s i).f0 && (decide (1 ≤ (rd_T42 s i).f1 ∧ (rd_T42 s i).f1 ≤ 6) && (decide (i = 0) || Op.bytesLess (rd_T42 s ((i : Int) - 1)).f0.toList (rd_T42 s i).f0.toList))
def schFrom (s : List S42) : Nat → Nat → Bool
  | 0, _ => true
  | d + 1, i => schAt s i && schFrom s d (i + 1)
def schemaOk (s : List S42) : Bool := decide (s.length ≤ 8) && schFrom s s.length 0
theorem rdT_mem {s : List S42} {i : Nat} (h : i < s.length) : rd_T42 s i ∈ s := by
  have := getD_mem (z := z42) h
  simpa [rd_T42] using this

theorem ev_impl_SchemaOk_l0 (s : List S42) (hl : s.length ≤ 1099511627776) (hs : ∀ x ∈ s, x.f0.size ≤ 1048576) : ∀ (d i : Nat), i + d = s.length → Ev (fun k => impl_SchemaOk.l0 k s s (s.length : Int) i) (schFrom s d i && decide (s.length ≤ 8)) := by
  intro d
  induction d with
  | zero =>
    intro i h
    apply Ev.step
    · intro k; rw [impl_SchemaOk.l0]
    simp only [if_neg (show ¬ ((i : Int) < s.length) by omega), schFrom, Bool.true_and]
    exact Ev.const (congrArg some (decide_eq_decide.mpr (by omega)))
  | succ d ih =>
    intro i h
    have ih' := ih (i + 1) (by omega)
    have hm := hs _ (rdT_mem (show i < s.length by omega))
    apply Ev.step
    · intro k; rw [impl_SchemaOk.l0]
    simp only [if_pos (show (i : Int) < s.length by omega), if_pos (show (0 : Int) ≤ i by omega), w64 (x := (i : Int) + 1) (by omega), schFrom, schAt]
    refine Ev.bind (ev_impl_WordOk _ (by omega)) ?_
    by_cases h1 : wordOk (rd_T42 s i).f0 = true
    · simp only [h1, if_true, impl_in_eq, Option.bind_some, Bool.true_and]
      by_cases h2 : 1 ≤ (rd_T42 s i).f1 ∧ (rd_T42 s i).f1 ≤ 6
      · simp only [decide_eq_true h2, if_true, Bool.true_and]
        by_cases h3 : (i : Int) > 0
        · simp only [if_pos h3, w64 (x := (i : Int) - 1) (by omega), if_pos (show (0 : Int) ≤ (i : Int) - 1 by omega), if_pos (show (i : Int) - 1 < s.length by omega), decide_eq_false (show ¬ i = 0 by omega), Bool.false_or]
          by_cases h4 : Op.bytesLess (rd_T42 s ((i : Int) - 1)).f0.toList (rd_T42 s i).f0.toList = true
          · simp only [h4, if_true, Bool.true_and]; simpa using ih'
          · simp only [if_neg h4, Bool.eq_false_iff.mpr h4, Bool.false_and]; exact Ev.now _
        · simp only [if_neg h3, decide_eq_true (show i = 0 by omega), Bool.true_or, Bool.true_and]; simpa using ih'
      · simp only [decide_eq_false h2, if_neg Bool.false_ne_true, Bool.false_and]; exact Ev.now _
    · simp only [if_neg h1, Bool.eq_false_iff.mpr h1, Bool.false_and]; exact Ev.now _
theorem ev_impl_SchemaOk (s : List S42) (hl : s.length ≤ 1099511627776) (hs : ∀ x ∈ s, x.f0.size ≤ 1048576) : Ev (fun k => impl_SchemaOk.f k s) (schemaOk s) := by
  have := ev_impl_SchemaOk_l0 s hl hs s.length 0 (by omega)
  rw [Bool.and_comm] at this
  simpa [impl_SchemaOk.f, schemaOk] using this

theorem impl_isNum_eq (a : Int) : impl_isNum.f a = some (isNumB a) := by
  unfold impl_isNum.f; rw [impl_in_eq]; rfl

def SmallIntSS (l : List (List Int)) : Prop := l.length ≤ 1048576 ∧ ∀ x ∈ l, x.length ≤ 1048576

def SmallIntSSS (l : List (List (List Int))) : Prop := l.length ≤ 1048576 ∧ ∀ x ∈ l, SmallIntSS x

def valueB (x : Int) : Bool := isNumB x || decide (x = -2000000)
def rowB (s : List S42) (i : Nat) (row : List Int) : Bool := decide ((row.length : Int) = (rd_T42 s (i : Int)).f1) && row.all valueB
def stAt (s : List S42) (r : List (List (List Int))) (i : Nat) : Bool :=
  decide ((rd_L5 r (i : Int)).length ≤ 40) && (rd_L5 r (i : Int)).all (rowB s i)
def stFrom (s : List S42) (r : List (List (List Int))) : Nat → Nat → Bool
  | 0, _ => true
  | d + 1, i => stAt s r i && stFrom s r d (i + 1)
def storeOk (s : List S42) (r : List (List (List Int))) : Bool := schemaOk s && (decide (r.length = s.length) && stFrom s r s.length 0)
theorem drop_rd3 (l : List (List (List Int))) (i : Nat) (h : i < l.length) : l.drop i = rd_L5 l (i : Int) :: l.drop (i + 1) := by
  have hg : l[i]? = some (rd_L5 l (i : Int)) := by simp [rd_L5, h]
  rw [List.drop_eq_getElem_cons h]
  congr 1
  rw [List.getElem?_eq_getElem h] at hg
  injection hg
theorem drop_rd2 (l : List (List Int)) (i : Nat) (h : i < l.length) : l.drop i = rd_L4 l (i : Int) :: l.drop (i + 1) := by
  have hg : l[i]? = some (rd_L4 l (i : Int)) := by simp [rd_L4, h]
  rw [List.drop_eq_getElem_cons h]
  congr 1
  rw [List.getElem?_eq_getElem h] at hg
  injection hg
theorem rd3_mem {l : List (List (List Int))} {i : Nat} (h : i < l.length) : rd_L5 l (i : Int) ∈ l := by
  refine List.mem_of_getElem? (i := i) ?_; simp [rd_L5, h]
theorem rd2_mem {l : List (List Int)} {i : Nat} (h : i < l.length) : rd_L4 l (i : Int) ∈ l := by
  refine List.mem_of_getElem? (i := i) ?_; simp [rd_L4, h]

theorem impl_isValue_eq (a : Int) : impl_isValue.f a = some (valueB a) := by
  unfold impl_isValue.f; rw [impl_isNum_eq, Option.bind_some]
  by_cases h : isNumB a = true
  · simp [h, valueB]
  · simp only [if_neg h]; unfold valueB; rw [Bool.eq_false_iff.mpr h, Bool.false_or]; rfl

theorem impl_StoreOk_1_eq (a : Int) : impl_StoreOk_1.f a = some ((fun a => !valueB a) a) := by
  unfold impl_StoreOk_1.f; rw [impl_isValue_eq]; rfl

theorem ev_IndexFunc_l0 (l : List Int) (hl : l.length ≤ 1099511627776) : ∀ (d i : Nat), i + d = l.length → ∃ r, Ev (fun k => slices_IndexFunc_int_int.l0 k l (l.length : Int) i) r ∧ decide (r ≥ 0) = (l.drop i).any (fun a => !valueB a) := by
  intro d
  induction d with
  | zero =>
    intro i h
    refine ⟨-1, ?_, by rw [drop_nil' (show l.length ≤ i by omega)]; rfl⟩
    apply Ev.step
    · intro k; rw [slices_IndexFunc_int_int.l0]
    simp only [if_neg (show ¬ ((i : Int) < l.length) by omega)]
    exact Ev.now _
  | succ d ih =>
    intro i h
    obtain ⟨r, e, g⟩ := ih (i + 1) (by omega)
    by_cases hp : (fun a => !valueB a) (rd l i) = true
    · have hp' := hp
      simp only [] at hp'
      refine ⟨i, ?_, ?_⟩
      · apply Ev.step
        · intro k; rw [slices_IndexFunc_int_int.l0]
        simp only [if_pos (show (i : Int) < l.length by omega), if_pos (show (0 : Int) ≤ i by omega), impl_StoreOk_1_eq, Option.bind_some]
        simp only [hp', if_true]
        exact Ev.now _
      · rw [drop_rd l i (by omega), List.any_cons]; simp only [hp', Bool.true_or]; simp
    · have hp' := Bool.eq_false_iff.mpr hp
      simp only [] at hp'
      refine ⟨r, ?_, ?_⟩
      · apply Ev.step
        · intro k; rw [slices_IndexFunc_int_int.l0]
        simp only [if_pos (show (i : Int) < l.length by omega), if_pos (show (0 : Int) ≤ i by omega), impl_StoreOk_1_eq, Option.bind_some, w64 (x := (i : Int) + 1) (by omega)]
        simp only [hp', if_neg Bool.false_ne_true]
        simpa using e
      · rw [drop_rd l i (by omega), List.any_cons]; simp only [hp', Bool.false_or]; exact g

theorem ev_ContainsFunc (l : List Int) (hl : l.length ≤ 1099511627776) : Ev (fun k => slices_ContainsFunc_int_int.f k l) (l.any (fun a => !valueB a)) := by
  obtain ⟨r, e, g⟩ := ev_IndexFunc_l0 l hl l.length 0 (by omega)
  simp only [slices_ContainsFunc_int_int.f, slices_IndexFunc_int_int.f]
  refine Ev.bind (by simpa using e) ?_
  refine Ev.const (congrArg some ?_)
  rw [g, List.drop_zero]

theorem all_valueB (l : List Int) : (l.any (fun a => !valueB a)) = !l.all valueB := by
  induction l with
  | nil => rfl
  | cons a l ih => simp [ih]
theorem ev_impl_StoreOk_l1 (s : List S42) (r : List (List (List Int))) (i : Nat) (hi2 : i < s.length) (hil : i ≤ 1048576) (q : List (List Int)) (hl : q.length ≤ 1048576) (hs : ∀ y ∈ q, y.length ≤ 1048576) (b : Bool) (nx : Ev (fun k => impl_StoreOk.l0 k s r (r.length : Int) ((i + 1 : Nat) : Int)) b) : ∀ (d j : Nat), j + d = q.length → Ev (fun k => impl_StoreOk.l1 k s i r (r.length : Int) i q (q.length : Int) j) ((q.drop j).all (rowB s i) && b) := by
  intro d
  induction d with
  | zero =>
    intro j h
    apply Ev.step
    · intro k; rw [impl_StoreOk.l1]
    simp only [if_neg (show ¬ ((j : Int) < q.length) by omega), w64 (x := (i : Int) + 1) (by omega)]
    rw [List.drop_eq_nil_of_le (by omega), List.all_nil, Bool.true_and]
    simpa using nx
  | succ d ih =>
    intro j h
    have ih' := ih (j + 1) (by omega)
    have hm := hs _ (rd2_mem (show j < q.length by omega))
    rw [drop_rd2 _ j (by omega), List.all_cons]
    apply Ev.step
    · intro k; rw [impl_StoreOk.l1]
    simp only [if_pos (show (j : Int) < q.length by omega), if_pos (show (0 : Int) ≤ j by omega), if_pos (show (0 : Int) ≤ i by omega), if_pos (show (i : Int) < s.length by omega), w64 (x := (j : Int) + 1) (by omega)]
    refine Ev_ite (fun h1 => ?_) (fun h1 => ?_)
    · refine Ev.bind (ev_ContainsFunc _ (by omega)) ?_
      rw [all_valueB]
      refine Ev_ite (fun h2 => ?_) (fun h2 => ?_)
      · have : (rd_L4 q (j : Int)).all valueB = false := by simpa using h2
        rw [show rowB s i (rd_L4 q (j : Int)) = false by unfold rowB; rw [this, Bool.and_false], Bool.false_and, Bool.false_and]; exact Ev.now _
      · have : (rd_L4 q (j : Int)).all valueB = true := by simpa using h2
        rw [show rowB s i (rd_L4 q (j : Int)) = true by unfold rowB; rw [this, decide_eq_true h1, Bool.true_and], Bool.true_and]; simpa using ih'
    · rw [show rowB s i (rd_L4 q (j : Int)) = false by unfold rowB; rw [decide_eq_false h1, Bool.false_and], Bool.false_and, Bool.false_and]; exact Ev.now _
theorem ev_impl_StoreOk_l0 (s : List S42) (r : List (List (List Int))) (hl : s.length ≤ 1048576) (hr : r.length = s.length) (hs : SmallIntSSS r) : ∀ (d i : Nat), i + d = s.length → Ev (fun k => impl_StoreOk.l0 k s r (r.length : Int) i) (stFrom s r d i) := by
  intro d
  induction d with
  | zero =>
    intro i h
    apply Ev.step
    · intro k; rw [impl_StoreOk.l0]
    simp only [if_neg (show ¬ ((i : Int) < r.length) by omega), stFrom]
    exact Ev.now _
  | succ d ih =>
    intro i h
    have ih' := ih (i + 1) (by omega)
    have hm := hs.2 _ (rd3_mem (show i < r.length by omega))
    apply Ev.step
    · intro k; rw [impl_StoreOk.l0]
    simp only [if_pos (show (0 : Int) ≤ i by omega), if_pos (show (i : Int) < r.length by omega), stFrom, stAt]
    refine Ev_ite (fun h1 => ?_) (fun h1 => ?_)
    · rw [decide_eq_false (by omega), Bool.false_and, Bool.false_and]; exact Ev.now _
    · rw [decide_eq_true (by omega), Bool.true_and]
      have := ev_impl_StoreOk_l1 s r i (by omega) (by omega) _ hm.1 hm.2 _ ih' _ 0 (Nat.zero_add _)
      rw [List.drop_zero] at this
      simpa using this
theorem ev_impl_StoreOk (s : List S42) (r : List (List (List Int))) (hl : s.length ≤ 1048576) (hs : ∀ x ∈ s, x.f0.size ≤ 1048576) (hr : SmallIntSSS r) : Ev (fun k => impl_StoreOk.f k s r) (storeOk s r) := by
  have hr1 := hr.1
  simp only [impl_StoreOk.f]
  refine Ev.bind (ev_impl_SchemaOk s (by omega) hs) ?_
  unfold storeOk
  refine Ev_ite (fun h1 => ?_) (fun h1 => ?_)
  · rw [h1, Bool.true_and]
    apply Ev.step
    · intro k; rw [impl_StoreOk.j0]
    refine Ev_ite (fun h2 => ?_) (fun h2 => ?_)
    · have : ¬ r.length = s.length := by intro e; rw [e] at h2; simp at h2
      rw [decide_eq_false this, Bool.false_and]; exact Ev.now _
    · have : r.length = s.length := by
        have : ((r.length : Int) != (s.length : Int)) = false := by simpa using h2
        have := bne_eq_false_iff_eq.mp this
        omega
      rw [decide_eq_true this, Bool.true_and]
      simpa using ev_impl_StoreOk_l0 s r hl this hr s.length 0 (by omega)
  · rw [Bool.eq_false_iff.mpr h1, Bool.false_and]
    apply Ev.step
    · intro k; rw [impl_StoreOk.j0]
    exact Ev.now _

theorem ev_eqIntS_l0 (x0 : List Int) (hl : x0.length ≤ 1099511627776) : ∀ (d : Nat) (i : Nat), i + d = x0.length → Ev (fun k => laws_eqIntS.l0 k x0 x0 i) true := by
  intro d
  induction d with
  | zero =>
    intro i h2
    apply Ev.step
    · intro k; rw [laws_eqIntS.l0]
    simp only [if_neg (show ¬ ((i : Int) < x0.length) by omega)]
    exact Ev.now _
  | succ d ih =>
    intro i h2
    apply Ev.step
    · intro k; rw [laws_eqIntS.l0]
    simp only [if_pos (show (i : Int) < x0.length by omega), if_pos (show (0 : Int) ≤ i by omega), if_true, w64 (x := (i : Int) + 1) (by omega)]
    have := ih (i + 1) (by omega)
    simpa using this
theorem ev_eqIntS (l : List Int) (h : l.length ≤ 1099511627776) : Ev (fun k => laws_eqIntS.f k l l) true := by
  simp only [laws_eqIntS.f, if_true]
  exact ev_eqIntS_l0 l h l.length 0 (by omega)

theorem ev_laws_eqIntSS_l0 (x0 : List (List Int)) (hl : x0.length ≤ 1099511627776) (hs : ∀ x ∈ x0, x.length ≤ 1099511627776) : ∀ (d : Nat) (i : Nat), i + d = x0.length → Ev (fun k => laws_eqIntSS.l0 k x0 x0 i) true := by
  intro d
  induction d with
  | zero =>
    intro i h2
    apply Ev.step
    · intro k; rw [laws_eqIntSS.l0]
    simp only [if_neg (show ¬ ((i : Int) < x0.length) by omega)]
    exact Ev.now _
  | succ d ih =>
    intro i h2
    have hg : x0[i]? = some (rd_L4 x0 (i : Int)) := by simp [rd_L4, show i < x0.length by omega]
    have hm := hs _ (List.mem_of_getElem? hg)
    apply Ev.step
    · intro k; rw [laws_eqIntSS.l0]
    simp only [if_pos (show (i : Int) < x0.length by omega), if_pos (show (0 : Int) ≤ i by omega)]
    refine Ev.bind (ev_eqIntS _ hm) ?_
    simp only [if_true, w64 (x := (i : Int) + 1) (by omega)]
    have := ih (i + 1) (by omega)
    simpa using this
theorem ev_laws_eqIntSS (l : List (List Int)) (h : l.length ≤ 1099511627776) (hs : ∀ x ∈ l, x.length ≤ 1099511627776) : Ev (fun k => laws_eqIntSS.f k l l) true := by
  simp only [laws_eqIntSS.f, if_true]
  exact ev_laws_eqIntSS_l0 l h hs l.length 0 (by omega)

theorem ev_laws_eqIntSSS_l0 (x0 : List (List (List Int))) (hl : x0.length ≤ 1099511627776) (hs : ∀ x ∈ x0, x.length ≤ 1099511627776 ∧ ∀ y ∈ x, y.length ≤ 1099511627776) : ∀ (d : Nat) (i : Nat), i + d = x0.length → Ev (fun k => laws_eqIntSSS.l0 k x0 x0 i) true := by
  intro d
  induction d with
  | zero =>
    intro i h2
    apply Ev.step
    · intro k; rw [laws_eqIntSSS.l0]
    simp only [if_neg (show ¬ ((i : Int) < x0.length) by omega)]
    exact Ev.now _
  | succ d ih =>
    intro i h2
    have hg : x0[i]? = some (rd_L5 x0 (i : Int)) := by simp [rd_L5, show i < x0.length by omega]
    have hm := hs _ (List.mem_of_getElem? hg)
    apply Ev.step
    · intro k; rw [laws_eqIntSSS.l0]
    simp only [if_pos (show (i : Int) < x0.length by omega), if_pos (show (0 : Int) ≤ i by omega)]
    refine Ev.bind (ev_laws_eqIntSS _ hm.1 hm.2) ?_
    simp only [if_true, w64 (x := (i : Int) + 1) (by omega)]
    have := ih (i + 1) (by omega)
    simpa using this
theorem ev_laws_eqIntSSS (l : List (List (List Int))) (h : l.length ≤ 1099511627776) (hs : ∀ x ∈ l, x.length ≤ 1099511627776 ∧ ∀ y ∈ x, y.length ≤ 1099511627776) : Ev (fun k => laws_eqIntSSS.f k l l) true := by
  simp only [laws_eqIntSSS.f, if_true]
  exact ev_laws_eqIntSSS_l0 l h hs l.length 0 (by omega)

theorem eqTable_eq (a : ByteArray) (b : Int) : laws_eqTable.f a b a b = some true := by simp [laws_eqTable.f]

theorem ev_laws_eqTableS_l0 (x0 : List (S42)) (hl : x0.length ≤ 1099511627776) (hs : ∀ x ∈ x0, True) : ∀ (d : Nat) (i : Nat), i + d = x0.length → Ev (fun k => laws_eqTableS.l0 k x0 x0 i) true := by
  intro d
  induction d with
  | zero =>
    intro i h2
    apply Ev.step
    · intro k; rw [laws_eqTableS.l0]
    simp only [if_neg (show ¬ ((i : Int) < x0.length) by omega)]
    exact Ev.now _
  | succ d ih =>
    intro i h2
    have hg : x0[i]? = some (rd_T42 x0 (i : Int)) := by simp [rd_T42, show i < x0.length by omega]
    have hm := hs _ (List.mem_of_getElem? hg)
    apply Ev.step
    · intro k; rw [laws_eqTableS.l0]
    simp only [if_pos (show (i : Int) < x0.length by omega), if_pos (show (0 : Int) ≤ i by omega)]
    refine Ev.bind (Ev.const (eqTable_eq _ _)) ?_
    simp only [if_true, w64 (x := (i : Int) + 1) (by omega)]
    have := ih (i + 1) (by omega)
    simpa using this
theorem ev_laws_eqTableS (l : List (S42)) (h : l.length ≤ 1099511627776) (hs : ∀ x ∈ l, True) : Ev (fun k => laws_eqTableS.f k l l) true := by
  simp only [laws_eqTableS.f, if_true]
  exact ev_laws_eqTableS_l0 l h hs l.length 0 (by omega)

theorem szIntS_eq (l : List Int) (a : Int) (h0 : 0 ≤ a) (h1 : a ≤ 1048576) (hl : l.length ≤ 9223372036854775807) : ∃ r, laws_szIntS.f l a = some r ∧ -1 ≤ r ∧ r ≤ a ∧ (0 ≤ r → l.length ≤ 1048576) := by
  by_cases hn : a - (l.length : Int) < 0
  · exact ⟨-1, by simp only [laws_szIntS.f, w64 (x := a - (l.length : Int)) (by omega), if_pos hn], by omega, by omega, fun h => by omega⟩
  · exact ⟨a - l.length, by simp only [laws_szIntS.f, w64 (x := a - (l.length : Int)) (by omega), if_neg hn], by omega, by omega, fun h => by omega⟩
theorem ev_szIntS (l : List Int) (a : Int) (h0 : 0 ≤ a) (h1 : a ≤ 1048576) (hl : l.length ≤ 9223372036854775807) : ∃ r, Ev (fun _ => laws_szIntS.f l a) r ∧ -1 ≤ r ∧ r ≤ a ∧ (0 ≤ r → l.length ≤ 1048576) := by
  obtain ⟨r, h, g⟩ := szIntS_eq l a h0 h1 hl
  exact ⟨r, Ev.const h, g⟩

theorem ev_laws_szIntSS_l0 (x0 : List (List Int)) (hl : x0.length ≤ 9223372036854775806) (hs : ∀ x ∈ x0, x.length ≤ 9223372036854775807) : ∀ (d : Nat) (a : Int) (i : Nat), i + d = x0.length → 0 ≤ a → a ≤ 1048576 → ∃ r, Ev (fun k => laws_szIntSS.l0 k x0 a i) r ∧ -1 ≤ r ∧ r ≤ a ∧ (0 ≤ r → ∀ x ∈ x0.drop i, x.length ≤ 1048576) := by
  intro d
  induction d with
  | zero =>
    intro a i h2 h0 h1
    refine ⟨a, ?_, by omega, by omega, fun _ x hx => ?_⟩
    · apply Ev.step
      · intro k; rw [laws_szIntSS.l0]
      simp only [if_neg (show ¬ ((i : Int) < x0.length) by omega)]
      exact Ev.now _
    · rw [List.drop_eq_nil_of_le (by omega)] at hx; cases hx
  | succ d ih =>
    intro a i h2 h0 h1
    have hg : x0[i]? = some (rd_L4 x0 (i : Int)) := by simp [rd_L4, show i < x0.length by omega]
    have hm := hs _ (List.mem_of_getElem? hg)
    obtain ⟨r1, e1, g1, g2, g3⟩ := ev_szIntS (rd_L4 x0 (i : Int)) a h0 h1 hm
    have hd : x0.drop i = rd_L4 x0 (i : Int) :: x0.drop (i + 1) := by
      rw [List.drop_eq_getElem_cons (show i < x0.length by omega)]
      congr 1
      rw [List.getElem?_eq_getElem (show i < x0.length by omega)] at hg
      injection hg
    by_cases hr : r1 < 0
    · refine ⟨-1, ?_, by omega, by omega, fun h => by omega⟩
      apply Ev.step
      · intro k; rw [laws_szIntSS.l0]
      simp only [if_pos (show (i : Int) < x0.length by omega), if_pos (show (0 : Int) ≤ i by omega)]
      refine Ev.bind e1 ?_
      simp only [if_pos hr]
      exact Ev.now _
    · obtain ⟨r2, e2, g4, g5, g6⟩ := ih r1 (i + 1) (by omega) (by omega) (by omega)
      refine ⟨r2, ?_, by omega, by omega, fun h x hx => ?_⟩
      · apply Ev.step
        · intro k; rw [laws_szIntSS.l0]
        simp only [if_pos (show (i : Int) < x0.length by omega), if_pos (show (0 : Int) ≤ i by omega)]
        refine Ev.bind e1 ?_
        simp only [if_neg hr, w64 (x := (i : Int) + 1) (by omega)]
        simpa using e2
      · rw [hd] at hx
        rcases List.mem_cons.1 hx with rfl | hx
        · exact g3 (by omega)
        · exact g6 h x hx
theorem ev_laws_szIntSS (l : List (List Int)) (a : Int) (h0 : 0 ≤ a) (h1 : a ≤ 1048576) (hl : l.length ≤ 9223372036854775807) (hs : ∀ x ∈ l, x.length ≤ 9223372036854775807) : ∃ r, Ev (fun k => laws_szIntSS.f k l a) r ∧ -1 ≤ r ∧ r ≤ a ∧ (0 ≤ r → SmallIntSS l) := by
  by_cases hn : a - (l.length : Int) < 0
  · refine ⟨-1, ?_, by omega, by omega, fun h => by omega⟩
    simp only [laws_szIntSS.f, w64 (x := a - (l.length : Int)) (by omega), if_pos hn]
    exact Ev.now _
  · obtain ⟨r, e, g1, g2, g3⟩ := ev_laws_szIntSS_l0 l (by omega) hs l.length (a - l.length) 0 (by omega) (by omega) (by omega)
    refine ⟨r, ?_, by omega, by omega, fun h => ⟨by omega, by simpa using g3 h⟩⟩
    simp only [laws_szIntSS.f, w64 (x := a - (l.length : Int)) (by omega), if_neg hn]
    exact e

theorem ev_laws_szIntSSS_l0 (x0 : List (List (List Int))) (hl : x0.length ≤ 9223372036854775806) (hs : ∀ x ∈ x0, x.length ≤ 9223372036854775807 ∧ ∀ y ∈ x, y.length ≤ 9223372036854775807) : ∀ (d : Nat) (a : Int) (i : Nat), i + d = x0.length → 0 ≤ a → a ≤ 1048576 → ∃ r, Ev (fun k => laws_szIntSSS.l0 k x0 a i) r ∧ -1 ≤ r ∧ r ≤ a ∧ (0 ≤ r → ∀ x ∈ x0.drop i, SmallIntSS x) := by
  intro d
  induction d with
  | zero =>
    intro a i h2 h0 h1
    refine ⟨a, ?_, by omega, by omega, fun _ x hx => ?_⟩
    · apply Ev.step
      · intro k; rw [laws_szIntSSS.l0]
      simp only [if_neg (show ¬ ((i : Int) < x0.length) by omega)]
      exact Ev.now _
    · rw [List.drop_eq_nil_of_le (by omega)] at hx; cases hx
  | succ d ih =>
    intro a i h2 h0 h1
    have hg : x0[i]? = some (rd_L5 x0 (i : Int)) := by simp [rd_L5, show i < x0.length by omega]
    have hm := hs _ (List.mem_of_getElem? hg)
    obtain ⟨r1, e1, g1, g2, g3⟩ := ev_laws_szIntSS (rd_L5 x0 (i : Int)) a h0 h1 hm.1 hm.2
    have hd : x0.drop i = rd_L5 x0 (i : Int) :: x0.drop (i + 1) := by
      rw [List.drop_eq_getElem_cons (show i < x0.length by omega)]
      congr 1
      rw [List.getElem?_eq_getElem (show i < x0.length by omega)] at hg
      injection hg
    by_cases hr : r1 < 0
    · refine ⟨-1, ?_, by omega, by omega, fun h => by omega⟩
      apply Ev.step
      · intro k; rw [laws_szIntSSS.l0]
      simp only [if_pos (show (i : Int) < x0.length by omega), if_pos (show (0 : Int) ≤ i by omega)]
      refine Ev.bind e1 ?_
      simp only [if_pos hr]
      exact Ev.now _
    · obtain ⟨r2, e2, g4, g5, g6⟩ := ih r1 (i + 1) (by omega) (by omega) (by omega)
      refine ⟨r2, ?_, by omega, by omega, fun h x hx => ?_⟩
      · apply Ev.step
        · intro k; rw [laws_szIntSSS.l0]
        simp only [if_pos (show (i : Int) < x0.length by omega), if_pos (show (0 : Int) ≤ i by omega)]
        refine Ev.bind e1 ?_
        simp only [if_neg hr, w64 (x := (i : Int) + 1) (by omega)]
        simpa using e2
      · rw [hd] at hx
        rcases List.mem_cons.1 hx with rfl | hx
        · exact g3 (by omega)
        · exact g6 h x hx
theorem ev_laws_szIntSSS (l : List (List (List Int))) (a : Int) (h0 : 0 ≤ a) (h1 : a ≤ 1048576) (hl : l.length ≤ 9223372036854775807) (hs : ∀ x ∈ l, x.length ≤ 9223372036854775807 ∧ ∀ y ∈ x, y.length ≤ 9223372036854775807) : ∃ r, Ev (fun k => laws_szIntSSS.f k l a) r ∧ -1 ≤ r ∧ r ≤ a ∧ (0 ≤ r → SmallIntSSS l) := by
  by_cases hn : a - (l.length : Int) < 0
  · refine ⟨-1, ?_, by omega, by omega, fun h => by omega⟩
    simp only [laws_szIntSSS.f, w64 (x := a - (l.length : Int)) (by omega), if_pos hn]
    exact Ev.now _
  · obtain ⟨r, e, g1, g2, g3⟩ := ev_laws_szIntSSS_l0 l (by omega) hs l.length (a - l.length) 0 (by omega) (by omega) (by omega)
    refine ⟨r, ?_, by omega, by omega, fun h => ⟨by omega, by simpa using g3 h⟩⟩
    simp only [laws_szIntSSS.f, w64 (x := a - (l.length : Int)) (by omega), if_neg hn]
    exact e

theorem szTable_eq (s : ByteArray) (n : Int) (a : Int) (h0 : 0 ≤ a) (h1 : a ≤ 1048576) (hl : s.size ≤ 9223372036854775807) : ∃ r, laws_szTable.f s n a = some r ∧ -1 ≤ r ∧ r ≤ a ∧ (0 ≤ r → s.size ≤ 1048576) := by
  by_cases hn : a - (s.size : Int) < 0
  · exact ⟨-1, by simp only [laws_szTable.f, w64 (x := a - (s.size : Int)) (by omega), if_pos hn], by omega, by omega, fun h => by omega⟩
  · exact ⟨a - s.size, by simp only [laws_szTable.f, w64 (x := a - (s.size : Int)) (by omega), if_neg hn], by omega, by omega, fun h => by omega⟩
theorem ev_szTable (x : S53) (a : Int) (h0 : 0 ≤ a) (h1 : a ≤ 1048576) (hl : x.f0.size ≤ 9223372036854775807) : ∃ r, Ev (fun _ => laws_szTable.f x.f0 x.f1 a) r ∧ -1 ≤ r ∧ r ≤ a ∧ (0 ≤ r → x.f0.size ≤ 1048576) := by
  obtain ⟨r, h, g⟩ := szTable_eq x.f0 x.f1 a h0 h1 hl
  exact ⟨r, Ev.const h, g⟩

def SmallTableS (l : List S53) : Prop := l.length ≤ 1048576 ∧ ∀ x ∈ l, x.f0.size ≤ 1048576
def cvTable (x : S53) : S42 := ⟨x.f0, x.f1⟩

theorem ev_laws_szTableS_l0 (x0 : List (S53)) (hl : x0.length ≤ 9223372036854775806) (hs : ∀ x ∈ x0, x.f0.size ≤ 9223372036854775807) : ∀ (d : Nat) (a : Int) (i : Nat), i + d = x0.length → 0 ≤ a → a ≤ 1048576 → ∃ r, Ev (fun k => laws_szTableS.l0 k x0 a i) r ∧ -1 ≤ r ∧ r ≤ a ∧ (0 ≤ r → ∀ x ∈ x0.drop i, x.f0.size ≤ 1048576) := by
  intro d
  induction d with
  | zero =>
    intro a i h2 h0 h1
    refine ⟨a, ?_, by omega, by omega, fun _ x hx => ?_⟩
    · apply Ev.step
      · intro k; rw [laws_szTableS.l0]
      simp only [if_neg (show ¬ ((i : Int) < x0.length) by omega)]
      exact Ev.now _
    · rw [List.drop_eq_nil_of_le (by omega)] at hx; cases hx
  | succ d ih =>
    intro a i h2 h0 h1
    have hg : x0[i]? = some (rd_T53 x0 (i : Int)) := by simp [rd_T53, show i < x0.length by omega]
    have hm := hs _ (List.mem_of_getElem? hg)
    obtain ⟨r1, e1, g1, g2, g3⟩ := ev_szTable (rd_T53 x0 (i : Int)) a h0 h1 hm
    have hd : x0.drop i = rd_T53 x0 (i : Int) :: x0.drop (i + 1) := by
      rw [List.drop_eq_getElem_cons (show i < x0.length by omega)]
      congr 1
      rw [List.getElem?_eq_getElem (show i < x0.length by omega)] at hg
      injection hg
    by_cases hr : r1 < 0
    · refine ⟨-1, ?_, by omega, by omega, fun h => by omega⟩
      apply Ev.step
      · intro k; rw [laws_szTableS.l0]
      simp only [if_pos (show (i : Int) < x0.length by omega), if_pos (show (0 : Int) ≤ i by omega)]
      refine Ev.bind e1 ?_
      simp only [if_pos hr]
      exact Ev.now _
    · obtain ⟨r2, e2, g4, g5, g6⟩ := ih r1 (i + 1) (by omega) (by omega) (by omega)
      refine ⟨r2, ?_, by omega, by omega, fun h x hx => ?_⟩
      · apply Ev.step
        · intro k; rw [laws_szTableS.l0]
        simp only [if_pos (show (i : Int) < x0.length by omega), if_pos (show (0 : Int) ≤ i by omega)]
        refine Ev.bind e1 ?_
        simp only [if_neg hr, w64 (x := (i : Int) + 1) (by omega)]
        simpa using e2
      · rw [hd] at hx
        rcases List.mem_cons.1 hx with rfl | hx
        · exact g3 (by omega)
        · exact g6 h x hx
theorem ev_laws_szTableS (l : List (S53)) (a : Int) (h0 : 0 ≤ a) (h1 : a ≤ 1048576) (hl : l.length ≤ 9223372036854775807) (hs : ∀ x ∈ l, x.f0.size ≤ 9223372036854775807) : ∃ r, Ev (fun k => laws_szTableS.f k l a) r ∧ -1 ≤ r ∧ r ≤ a ∧ (0 ≤ r → SmallTableS l) := by
  by_cases hn : a - (l.length : Int) < 0
  · refine ⟨-1, ?_, by omega, by omega, fun h => by omega⟩
    simp only [laws_szTableS.f, w64 (x := a - (l.length : Int)) (by omega), if_pos hn]
    exact Ev.now _
  · obtain ⟨r, e, g1, g2, g3⟩ := ev_laws_szTableS_l0 l (by omega) hs l.length (a - l.length) 0 (by omega) (by omega) (by omega)
    refine ⟨r, ?_, by omega, by omega, fun h => ⟨by omega, by simpa using g3 h⟩⟩
    simp only [laws_szTableS.f, w64 (x := a - (l.length : Int)) (by omega), if_neg hn]
    exact e

theorem ev_toIntS_l0 (x0 : List Int) (hl : x0.length ≤ 1048576) : ∀ (d : Nat) (x3 : List Int) (i : Nat), x3.length = x0.length → i + d = x0.length → x3.take i = x0.take i → Ev (fun k => laws_toIntS.l0 k x0 x3 i) x0 := by
  intro d
  induction d with
  | zero =>
    intro x3 i h1 h2 h3
    apply Ev.step
    · intro k; rw [laws_toIntS.l0]
    simp only [if_neg (show ¬ ((i : Int) < x0.length) by omega)]
    rw [take_eq_all h1 (by omega) h3]
    exact Ev.now _
  | succ d ih =>
    intro x3 i h1 h2 h3
    apply Ev.step
    · intro k; rw [laws_toIntS.l0]
    simp only [if_pos (show (i : Int) < x0.length by omega), if_pos (show (0 : Int) ≤ i by omega), if_pos (show (i : Int) < x3.length by omega), w64 (x := (i : Int) + 1) (by omega)]
    have := ih (x3.set i (rd x0 i)) (i + 1) (by simp [h1]) (by omega) (take_set_at _ _ _ _ h1 (by omega) (rd_get _ _ (by omega)) h3)
    simpa using this
theorem ev_toIntS (l : List Int) (h : l.length ≤ 1048576) : Ev (fun k => laws_toIntS.f k l) l := by
  simp only [laws_toIntS.f, if_pos (show (0 : Int) ≤ l.length by omega), if_pos (show (l.length : Int).toNat ≤ 35184372088832 by omega)]
  exact ev_toIntS_l0 l h l.length _ 0 (by simp) (by omega) (by simp)

theorem ev_laws_toIntSS_l0 (x0 : List (List Int)) (hl : x0.length ≤ 1048576) (hs : ∀ x ∈ x0, x.length ≤ 1048576) : ∀ (d : Nat) (x3 : List (List Int)) (i : Nat), x3.length = x0.length → i + d = x0.length → x3.take i = (x0.map id).take i → Ev (fun k => laws_toIntSS.l0 k x0 x3 i) (x0.map id) := by
  intro d
  induction d with
  | zero =>
    intro x3 i h1 h2 h3
    apply Ev.step
    · intro k; rw [laws_toIntSS.l0]
    simp only [if_neg (show ¬ ((i : Int) < x0.length) by omega)]
    rw [take_eq_all (xs := x0.map id) (by simpa using h1) (by simp; omega) h3]
    exact Ev.now _
  | succ d ih =>
    intro x3 i h1 h2 h3
    have hg : x0[i]? = some (rd_L4 x0 (i : Int)) := by simp [rd_L4, show i < x0.length by omega]
    have hm := hs _ (List.mem_of_getElem? hg)
    apply Ev.step
    · intro k; rw [laws_toIntSS.l0]
    simp only [if_pos (show (i : Int) < x0.length by omega), if_pos (show (0 : Int) ≤ i by omega)]
    refine Ev.bind (ev_toIntS _ hm) ?_
    simp only [if_pos (show (i : Int) < x3.length by omega), w64 (x := (i : Int) + 1) (by omega)]
    have := ih (x3.set i (rd_L4 x0 (i : Int))) (i + 1) (by simp [h1]) (by omega) (take_set_at (x0.map id) _ _ _ (by simpa using h1) (by simp; omega) (by rw [List.getElem?_map, hg]; rfl) h3)
    first | (simpa using this) | (simpa [id] using this)
theorem ev_laws_toIntSS (l : List (List Int)) (h : SmallIntSS l) : Ev (fun k => laws_toIntSS.f k l) (l.map id) := by
  have h1 := h.1
  simp only [laws_toIntSS.f, if_pos (show (0 : Int) ≤ l.length by omega), if_pos (show (l.length : Int).toNat ≤ 11728124029610 by omega)]
  exact ev_laws_toIntSS_l0 l h.1 h.2 l.length _ 0 (by simp) (by omega) (by simp)

theorem ev_laws_toIntSSS_l0 (x0 : List (List (List Int))) (hl : x0.length ≤ 1048576) (hs : ∀ x ∈ x0, SmallIntSS x) : ∀ (d : Nat) (x3 : List (List (List Int))) (i : Nat), x3.length = x0.length → i + d = x0.length → x3.take i = (x0.map id).take i → Ev (fun k => laws_toIntSSS.l0 k x0 x3 i) (x0.map id) := by
  intro d
  induction d with
  | zero =>
    intro x3 i h1 h2 h3
    apply Ev.step
    · intro k; rw [laws_toIntSSS.l0]
    simp only [if_neg (show ¬ ((i : Int) < x0.length) by omega)]
    rw [take_eq_all (xs := x0.map id) (by simpa using h1) (by simp; omega) h3]
    exact Ev.now _
  | succ d ih =>
    intro x3 i h1 h2 h3
    have hg : x0[i]? = some (rd_L5 x0 (i : Int)) := by simp [rd_L5, show i < x0.length by omega]
    have hm := hs _ (List.mem_of_getElem? hg)
    apply Ev.step
    · intro k; rw [laws_toIntSSS.l0]
    simp only [if_pos (show (i : Int) < x0.length by omega), if_pos (show (0 : Int) ≤ i by omega)]
    refine Ev.bind (ev_laws_toIntSS _ hm) ?_
    simp only [List.map_id]
    simp only [if_pos (show (i : Int) < x3.length by omega), w64 (x := (i : Int) + 1) (by omega)]
    have := ih (x3.set i (rd_L5 x0 (i : Int))) (i + 1) (by simp [h1]) (by omega) (take_set_at (x0.map id) _ _ _ (by simpa using h1) (by simp; omega) (by rw [List.getElem?_map, hg]; rfl) h3)
    first | (simpa using this) | (simpa [id] using this)
theorem ev_laws_toIntSSS (l : List (List (List Int))) (h : SmallIntSSS l) : Ev (fun k => laws_toIntSSS.f k l) (l.map id) := by
  have h1 := h.1
  simp only [laws_toIntSSS.f, if_pos (show (0 : Int) ≤ l.length by omega), if_pos (show (l.length : Int).toNat ≤ 11728124029610 by omega)]
  exact ev_laws_toIntSSS_l0 l h.1 h.2 l.length _ 0 (by simp) (by omega) (by simp)

theorem ev_laws_toTableS_l0 (x0 : List (S53)) (hl : x0.length ≤ 1048576) (hs : ∀ x ∈ x0, x.f0.size ≤ 1048576) : ∀ (d : Nat) (x3 : List (S42)) (i : Nat), x3.length = x0.length → i + d = x0.length → x3.take i = (x0.map cvTable).take i → Ev (fun k => laws_toTableS.l0 k x0 x3 i) (x0.map cvTable) := by
  intro d
  induction d with
  | zero =>
    intro x3 i h1 h2 h3
    apply Ev.step
    · intro k; rw [laws_toTableS.l0]
    simp only [if_neg (show ¬ ((i : Int) < x0.length) by omega)]
    rw [take_eq_all (xs := x0.map cvTable) (by simpa using h1) (by simp; omega) h3]
    exact Ev.now _
  | succ d ih =>
    intro x3 i h1 h2 h3
    have hg : x0[i]? = some (rd_T53 x0 (i : Int)) := by simp [rd_T53, show i < x0.length by omega]
    have hm := hs _ (List.mem_of_getElem? hg)
    apply Ev.step
    · intro k; rw [laws_toTableS.l0]
    simp only [if_pos (show (i : Int) < x0.length by omega), if_pos (show (0 : Int) ≤ i by omega)]
    simp only [laws_toTable.f, Option.bind_some]
    simp only [if_pos (show (i : Int) < x3.length by omega), w64 (x := (i : Int) + 1) (by omega)]
    have := ih (x3.set i ((⟨(rd_T53 x0 (i : Int)).f0, (rd_T53 x0 (i : Int)).f1⟩ : S42))) (i + 1) (by simp [h1]) (by omega) (take_set_at (x0.map cvTable) _ _ _ (by simpa using h1) (by simp; omega) (by rw [List.getElem?_map, hg]; rfl) h3)
    first | (simpa using this) | (simpa [cvTable] using this)
theorem ev_laws_toTableS (l : List (S53)) (h : SmallTableS l) : Ev (fun k => laws_toTableS.f k l) (l.map cvTable) := by
  have h1 := h.1
  simp only [laws_toTableS.f, if_pos (show (0 : Int) ≤ l.length by omega), if_pos (show (l.length : Int).toNat ≤ 11728124029610 by omega)]
  exact ev_laws_toTableS_l0 l h.1 h.2 l.length _ 0 (by simp) (by omega) (by simp)

theorem spec_l01In_eq (a b c : Int) : spec_l01In.f a b c = some (decide (b ≤ a ∧ a ≤ c)) := by
  unfold spec_l01In.f
  by_cases h : b ≤ a
  · rw [if_pos h]; simp [h]
  · rw [if_neg h]; simp [h]

theorem ev_spec_WordOk_l0 (s : ByteArray) (hs : s.size ≤ 1099511627776) : ∀ (d i : Nat), i + d = s.size → (i = 0 → 97 ≤ bt s 0) → Ev (fun k => spec_WordOk.l0 k s i) (wordFrom s d i) := by
  intro d
  induction d with
  | zero =>
    intro i h _
    apply Ev.step
    · intro k; rw [spec_WordOk.l0]
    simp only [if_neg (show ¬ ((i : Int) < s.size) by omega)]
    exact Ev.now _
  | succ d ih =>
    intro i h h0
    have ih' := ih (i + 1) (by omega) (by omega)
    apply Ev.step
    · intro k; rw [spec_WordOk.l0]
    simp only [if_pos (show (i : Int) < s.size by omega), if_pos (show (0 : Int) ≤ i by omega), w64 (x := (i : Int) + 1) (by omega), wordFrom]
    have hi : i = 0 → 97 ≤ bt s i := by intro e; subst e; exact h0 rfl
    by_cases h1 : bt s i < 97
    · simp only [if_pos h1]
      have hp : 0 < i := by rcases Nat.eq_zero_or_pos i with e | e; · have := hi e; omega
                            · exact e
      by_cases h2 : bt s i < 48
      · simp only [if_pos h2, show okAt s i = false by simp [okAt]; omega, Bool.false_and]; exact Ev.now _
      · by_cases h3 : bt s i > 57
        · simp only [if_neg h2, if_pos h3, show okAt s i = false by simp [okAt]; omega, Bool.false_and]; exact Ev.now _
        · simp only [if_neg h2, if_neg h3, show okAt s i = true by simp [okAt]; omega, Bool.true_and]; exact ih'
    · simp only [if_neg h1]
      by_cases h2 : bt s i > 122
      · simp only [if_pos h2, if_neg (show ¬ bt s i < 48 by omega), if_pos (show bt s i > 57 by omega), show okAt s i = false by simp [okAt]; omega, Bool.false_and]; exact Ev.now _
      · simp only [if_neg h2, show okAt s i = true by simp [okAt]; omega, Bool.true_and]; exact ih'
theorem ev_spec_WordOk (s : ByteArray) (hs : s.size ≤ 1099511627776) : Ev (fun k => spec_WordOk.f k s) (wordOk s) := by
  simp only [spec_WordOk.f, spec_l01In_eq, Option.bind_some, decide_eq_true_eq, wordOk]
  by_cases h : 1 ≤ s.size ∧ s.size ≤ 12
  · simp only [if_pos (show 1 ≤ (s.size : Int) ∧ (s.size : Int) ≤ 12 by omega), if_pos (show (0 : Int) < s.size by omega), decide_eq_true h, Bool.true_and]
    apply Ev.step
    · intro k; rw [spec_WordOk.j0]
    simp only [decide_eq_true_eq]
    by_cases h1 : bt s 0 < 97
    · simp only [if_pos h1]
      obtain ⟨d, hd⟩ : ∃ d, s.size = d + 1 := ⟨s.size - 1, by omega⟩
      rw [hd, wordFrom, show okAt s 0 = false by simp [okAt]; omega, Bool.false_and]
      exact Ev.now _
    · simp only [if_neg h1]
      exact ev_spec_WordOk_l0 s hs s.size 0 (by omega) (by omega)
  · simp only [if_neg (show ¬ (1 ≤ (s.size : Int) ∧ (s.size : Int) ≤ 12) by omega), decide_eq_false h, Bool.false_and]
    apply Ev.step
    · intro k; rw [spec_WordOk.j0]
    simp only [if_true]
    exact Ev.now _

theorem ev_spec_l01Less_l0 (a b : ByteArray) (ha : a.size ≤ 1099511627776) (hb : b.size ≤ 1099511627776) : ∀ (d i : Nat), i + d = a.size → Ev (fun k => spec_l01Less.l0 k a b i) (Op.bytesLess (a.toList.drop i) (b.toList.drop i)) := by
  intro d
  induction d with
  | zero =>
    intro i h
    apply Ev.step
    · intro k; rw [spec_l01Less.l0]
    simp only [if_neg (show ¬ ((i : Int) < a.size) by omega)]
    apply Ev.step
    · intro k; rw [spec_l01Less.j1]
    simp only [if_neg Bool.false_ne_true, toList_end a i (by omega)]
    refine Ev.const (congrArg some ?_)
    by_cases hb' : i < b.size
    · obtain ⟨y, e, _⟩ := toList_drop b i hb'
      rw [e, decide_eq_true (show (a.size : Int) < b.size by omega)]; rfl
    · rw [toList_end b i (by omega), decide_eq_false (show ¬ (a.size : Int) < b.size by omega)]; rfl
  | succ d ih =>
    intro i h
    have ih' := ih (i + 1) (by omega)
    obtain ⟨x, ex, hx⟩ := toList_drop a i (by omega)
    apply Ev.step
    · intro k; rw [spec_l01Less.l0]
    simp only [if_pos (show (i : Int) < a.size by omega)]
    by_cases hb' : i < b.size
    · obtain ⟨y, ey, hy⟩ := toList_drop b i hb'
      rw [ex, ey, bytesLess_cons hx hy]
      apply Ev.step
      · intro k; rw [spec_l01Less.j1]
      simp only [decide_eq_true (show (i : Int) < b.size by omega), if_true, if_pos (show (0 : Int) ≤ i by omega), if_pos (show (i : Int) < a.size by omega), if_pos (show (i : Int) < b.size by omega), w64 (x := (i : Int) + 1) (by omega)]
      by_cases he : bt a i = bt b i
      · simp only [if_pos he, decide_eq_true he, decide_eq_false (show ¬ bt a i < bt b i by omega), Bool.false_or, Bool.true_and]
        simpa using ih'
      · simp only [if_neg he, decide_eq_false he, Bool.false_and, Bool.or_false]
        exact Ev.now _
    · rw [toList_end b i (by omega)]
      apply Ev.step
      · intro k; rw [spec_l01Less.j1]
      simp only [decide_eq_false (show ¬ (i : Int) < b.size by omega), if_neg Bool.false_ne_true]
      refine Ev.const (congrArg some ?_)
      rw [ex, decide_eq_false (show ¬ (a.size : Int) < b.size by omega)]; rfl
theorem ev_spec_l01Less (a b : ByteArray) (ha : a.size ≤ 1099511627776) (hb : b.size ≤ 1099511627776) : Ev (fun k => spec_l01Less.f k a b) (Op.bytesLess a.toList b.toList) := by
  simpa [spec_l01Less.f] using ev_spec_l01Less_l0 a b ha hb a.size 0 (by omega)

theorem ev_spec_SchemaOk_l0 (s : List S42) (hl : s.length ≤ 1099511627776) (hs : ∀ x ∈ s, x.f0.size ≤ 1048576) : ∀ (d i : Nat), i + d = s.length → Ev (fun k => spec_SchemaOk.l0 k s i) (schFrom s d i) := by
  intro d
  induction d with
  | zero =>
    intro i h
    apply Ev.step
    · intro k; rw [spec_SchemaOk.l0]
    simp only [if_neg (show ¬ ((i : Int) < s.length) by omega)]
    exact Ev.now _
  | succ d ih =>
    intro i h
    have ih' := ih (i + 1) (by omega)
    have hm := hs _ (rdT_mem (show i < s.length by omega))
    apply Ev.step
    · intro k; rw [spec_SchemaOk.l0]
    simp only [if_pos (show (i : Int) < s.length by omega), if_pos (show (0 : Int) ≤ i by omega), w64 (x := (i : Int) + 1) (by omega), schFrom, schAt]
    refine Ev.bind (ev_spec_WordOk _ (by omega)) ?_
    by_cases h1 : wordOk (rd_T42 s i).f0 = true
    · simp only [h1, if_true, spec_l01In_eq, Option.bind_some, Bool.true_and]
      by_cases h2 : 1 ≤ (rd_T42 s i).f1 ∧ (rd_T42 s i).f1 ≤ 6
      · simp only [decide_eq_true h2, if_true, Bool.true_and]
        by_cases h3 : (i : Int) > 0
        · have hm2 := hs _ (rdT_mem (show i - 1 < s.length by omega))
          rw [show ((i - 1 : Nat) : Int) = (i : Int) - 1 by omega] at hm2
          simp only [if_pos h3, w64 (x := (i : Int) - 1) (by omega), if_pos (show (0 : Int) ≤ (i : Int) - 1 by omega), if_pos (show (i : Int) - 1 < s.length by omega), decide_eq_false (show ¬ i = 0 by omega), Bool.false_or]
          refine Ev.bind (ev_spec_l01Less _ _ (by omega) (by omega)) ?_
          by_cases h4 : Op.bytesLess (rd_T42 s ((i : Int) - 1)).f0.toList (rd_T42 s i).f0.toList = true
          · simp only [h4, if_true, Bool.true_and]; simpa using ih'
          · simp only [if_neg h4, Bool.eq_false_iff.mpr h4, Bool.false_and]; exact Ev.now _
        · simp only [if_neg h3, decide_eq_true (show i = 0 by omega), Bool.true_or, Bool.true_and]; simpa using ih'
      · simp only [decide_eq_false h2, if_neg Bool.false_ne_true, Bool.false_and]; exact Ev.now _
    · simp only [if_neg h1, Bool.eq_false_iff.mpr h1, Bool.false_and]; exact Ev.now _
theorem ev_spec_SchemaOk (s : List S42) (hl : s.length ≤ 1099511627776) (hs : ∀ x ∈ s, x.f0.size ≤ 1048576) : Ev (fun k => spec_SchemaOk.f k s) (schemaOk s) := by
  simp only [spec_SchemaOk.f, schemaOk]
  by_cases h : s.length ≤ 8
  · simp only [if_neg (show ¬ (s.length : Int) > 8 by omega), decide_eq_true h, Bool.true_and]
    exact ev_spec_SchemaOk_l0 s hl hs s.length 0 (by omega)
  · simp only [if_pos (show (s.length : Int) > 8 by omega), decide_eq_false h, Bool.false_and]
    exact Ev.now _

theorem spec_l01Number_eq (a : Int) : spec_l01Number.f a = some (isNumB a) := by
  unfold spec_l01Number.f; rw [spec_l01In_eq]; rfl

theorem spec_l04Value_eq (a : Int) : spec_l04Value.f a = some (valueB a) := by
  unfold spec_l04Value.f; rw [spec_l01Number_eq, Option.bind_some]
  by_cases h : isNumB a = true
  · simp [h, valueB]
  · simp only [if_neg h]; unfold valueB; rw [Bool.eq_false_iff.mpr h, Bool.false_or]; rfl

theorem ev_spec_StoreOk_l2 (s : List S42) (r : List (List (List Int))) (i j : Nat) (hi : i < r.length) (hj : j < (rd_L5 r (i : Int)).length) (hl : (rd_L4 (rd_L5 r (i : Int)) (j : Int)).length ≤ 1048576) (hjl : j ≤ 1048576) (b : Bool) (nx : Ev (fun k => spec_StoreOk.l1 k s r i ((j + 1 : Nat) : Int)) b) : ∀ (d m : Nat), m + d = (rd_L4 (rd_L5 r (i : Int)) (j : Int)).length → Ev (fun k => spec_StoreOk.l2 k s r i j m) (((rd_L4 (rd_L5 r (i : Int)) (j : Int)).drop m).all valueB && b) := by
  intro d
  induction d with
  | zero =>
    intro m h
    apply Ev.step
    · intro k; rw [spec_StoreOk.l2]
    simp only [if_pos (show (0 : Int) ≤ i by omega), if_pos (show (i : Int) < r.length by omega), if_pos (show (0 : Int) ≤ j by omega), if_pos (show (j : Int) < (rd_L5 r (i : Int)).length by omega), if_neg (show ¬ ((m : Int) < (rd_L4 (rd_L5 r (i : Int)) (j : Int)).length) by omega), w64 (x := (j : Int) + 1) (by omega)]
    rw [List.drop_eq_nil_of_le (by omega), List.all_nil, Bool.true_and]
    simpa using nx
  | succ d ih =>
    intro m h
    have ih' := ih (m + 1) (by omega)
    rw [drop_rd _ m (by omega), List.all_cons]
    apply Ev.step
    · intro k; rw [spec_StoreOk.l2]
    simp only [if_pos (show (0 : Int) ≤ i by omega), if_pos (show (i : Int) < r.length by omega), if_pos (show (0 : Int) ≤ j by omega), if_pos (show (j : Int) < (rd_L5 r (i : Int)).length by omega), if_pos (show (m : Int) < (rd_L4 (rd_L5 r (i : Int)) (j : Int)).length by omega), if_pos (show (0 : Int) ≤ m by omega), spec_l04Value_eq, Option.bind_some, w64 (x := (m : Int) + 1) (by omega)]
    refine Ev_ite (fun h1 => ?_) (fun h1 => ?_)
    · rw [h1, Bool.true_and]; simpa using ih'
    · rw [Bool.eq_false_iff.mpr h1, Bool.false_and, Bool.false_and]; exact Ev.now _
theorem ev_spec_StoreOk_l1 (s : List S42) (r : List (List (List Int))) (i : Nat) (hi : i < r.length) (hi2 : i < s.length) (hil : i ≤ 1048576) (hl : (rd_L5 r (i : Int)).length ≤ 1048576) (hs : ∀ y ∈ rd_L5 r (i : Int), y.length ≤ 1048576) (b : Bool) (nx : Ev (fun k => spec_StoreOk.l0 k s r ((i + 1 : Nat) : Int)) b) : ∀ (d j : Nat), j + d = (rd_L5 r (i : Int)).length → Ev (fun k => spec_StoreOk.l1 k s r i j) (((rd_L5 r (i : Int)).drop j).all (rowB s i) && b) := by
  intro d
  induction d with
  | zero =>
    intro j h
    apply Ev.step
    · intro k; rw [spec_StoreOk.l1]
    simp only [if_pos (show (0 : Int) ≤ i by omega), if_pos (show (i : Int) < r.length by omega), if_neg (show ¬ ((j : Int) < (rd_L5 r (i : Int)).length) by omega), w64 (x := (i : Int) + 1) (by omega)]
    rw [List.drop_eq_nil_of_le (by omega), List.all_nil, Bool.true_and]
    simpa using nx
  | succ d ih =>
    intro j h
    have ih' := ih (j + 1) (by omega)
    have hm := hs _ (rd2_mem (show j < (rd_L5 r (i : Int)).length by omega))
    rw [drop_rd2 _ j (by omega), List.all_cons]
    apply Ev.step
    · intro k; rw [spec_StoreOk.l1]
    simp only [if_pos (show (0 : Int) ≤ i by omega), if_pos (show (i : Int) < r.length by omega), if_pos (show (j : Int) < (rd_L5 r (i : Int)).length by omega), if_pos (show (0 : Int) ≤ j by omega), if_pos (show (i : Int) < s.length by omega)]
    refine Ev_ite (fun h1 => ?_) (fun h1 => ?_)
    · have := ev_spec_StoreOk_l2 s r i j hi (by omega) hm (by omega) _ ih' _ 0 (Nat.zero_add _)
      rw [List.drop_zero] at this
      rw [show rowB s i (rd_L4 (rd_L5 r (i : Int)) (j : Int)) = (rd_L4 (rd_L5 r (i : Int)) (j : Int)).all valueB by unfold rowB; rw [decide_eq_true h1, Bool.true_and], Bool.and_assoc]
      simpa using this
    · rw [show rowB s i (rd_L4 (rd_L5 r (i : Int)) (j : Int)) = false by unfold rowB; rw [decide_eq_false h1, Bool.false_and], Bool.false_and, Bool.false_and]; exact Ev.now _
theorem ev_spec_StoreOk_l0 (s : List S42) (r : List (List (List Int))) (hl : s.length ≤ 1048576) (hr : r.length = s.length) (hs : SmallIntSSS r) : ∀ (d i : Nat), i + d = s.length → Ev (fun k => spec_StoreOk.l0 k s r i) (stFrom s r d i) := by
  intro d
  induction d with
  | zero =>
    intro i h
    apply Ev.step
    · intro k; rw [spec_StoreOk.l0]
    simp only [if_neg (show ¬ ((i : Int) < s.length) by omega), stFrom]
    exact Ev.now _
  | succ d ih =>
    intro i h
    have ih' := ih (i + 1) (by omega)
    have hm := hs.2 _ (rd3_mem (show i < r.length by omega))
    apply Ev.step
    · intro k; rw [spec_StoreOk.l0]
    simp only [if_pos (show (i : Int) < s.length by omega), if_pos (show (0 : Int) ≤ i by omega), if_pos (show (i : Int) < r.length by omega), stFrom, stAt]
    refine Ev_ite (fun h1 => ?_) (fun h1 => ?_)
    · rw [decide_eq_false (by omega), Bool.false_and, Bool.false_and]; exact Ev.now _
    · rw [decide_eq_true (by omega), Bool.true_and]
      have := ev_spec_StoreOk_l1 s r i (by omega) (by omega) (by omega) hm.1 hm.2 _ ih' _ 0 (Nat.zero_add _)
      rw [List.drop_zero] at this
      simpa using this
theorem ev_spec_StoreOk (s : List S42) (r : List (List (List Int))) (hl : s.length ≤ 1048576) (hs : ∀ x ∈ s, x.f0.size ≤ 1048576) (hr : SmallIntSSS r) : Ev (fun k => spec_StoreOk.f k s r) (storeOk s r) := by
  have hr1 := hr.1
  simp only [spec_StoreOk.f]
  refine Ev.bind (ev_spec_SchemaOk s (by omega) hs) ?_
  unfold storeOk
  refine Ev_ite (fun h1 => ?_) (fun h1 => ?_)
  · rw [h1, Bool.true_and]
    apply Ev.step
    · intro k; rw [spec_StoreOk.j0]
    refine Ev_ite (fun h2 => ?_) (fun h2 => ?_)
    · have : ¬ r.length = s.length := by intro e; rw [e] at h2; simp at h2
      rw [decide_eq_false this, Bool.false_and]; exact Ev.now _
    · have : r.length = s.length := by
        have : ((r.length : Int) != (s.length : Int)) = false := by simpa using h2
        have := bne_eq_false_iff_eq.mp this
        omega
      rw [decide_eq_true this, Bool.true_and]
      simpa using ev_spec_StoreOk_l0 s r hl this hr s.length 0 (by omega)
  · rw [Bool.eq_false_iff.mpr h1, Bool.false_and]
    apply Ev.step
    · intro k; rw [spec_StoreOk.j0]
    exact Ev.now _

theorem holds : ∀ (l0 : List (S53)) (l1 : List (List (List (Int)))), (l0.length ≤ 9223372036854775807 ∧ ∀ yl0 ∈ l0, Ok53 yl0) → (l1.length ≤ 9223372036854775807 ∧ ∀ yl1 ∈ l1, (yl1.length ≤ 9223372036854775807 ∧ ∀ yyl1 ∈ yl1, (yyl1.length ≤ 9223372036854775807 ∧ ∀ yyyl1 ∈ yyl1, (Lit.int .i64 yyyl1).wf = true))) → ∃ k, laws_FnExactStoreOk.f k l0 l1 = some true := by
  intro l r hl hr
  apply Ev.ex
  simp only [laws_FnExactStoreOk.f]
  obtain ⟨q, he, g1, g2, g3⟩ := ev_laws_szTableS l 1048576 (by omega) (by omega) hl.1 (fun x hx => (hl.2 x hx).1)
  refine Ev.bind he ?_
  by_cases hq : q < 0
  · simp only [if_pos hq]; exact Ev.now _
  simp only [if_neg hq]
  obtain ⟨q2, he2, g4, g5, g6⟩ := ev_laws_szIntSSS r q (by omega) (by omega) hr.1 (fun x hx => ⟨(hr.2 x hx).1, fun y hy => ((hr.2 x hx).2 y hy).1⟩)
  refine Ev.bind he2 ?_
  by_cases hq2 : q2 < 0
  · simp only [if_pos hq2]; exact Ev.now _
  simp only [if_neg hq2]
  have hS := g3 (by omega)
  have hS1 := hS.1
  have hT := g6 (by omega)
  have hT1 := hT.1
  have hto := ev_laws_toTableS l hS
  have hto2 := ev_laws_toIntSSS r hT
  rw [List.map_id] at hto2
  have hb : ∀ x ∈ l.map cvTable, x.f0.size ≤ 1048576 := by
    intro x hx
    obtain ⟨y, hy, rfl⟩ := List.mem_map.1 hx
    exact hS.2 y hy
  have hlen : (l.map cvTable).length = l.length := List.length_map _
  have hd : ∀ x ∈ r, x.length ≤ 1099511627776 ∧ ∀ y ∈ x, y.length ≤ 1099511627776 := fun x hx => by
    have h2 := hT.2 x hx
    have h3 := h2.1
    exact ⟨by omega, fun y hy => by have := h2.2 y hy; omega⟩
  generalize l.map cvTable = s at *
  refine Ev.bind hto ?_
  refine Ev.bind hto2 ?_
  refine Ev.bind (ev_spec_StoreOk s r (by omega) hb hT) ?_
  refine Ev.bind hto ?_
  refine Ev.bind hto2 ?_
  refine Ev.bind (ev_impl_StoreOk s r (by omega) hb hT) ?_
  simp only [bne_self_eq_false, if_neg Bool.false_ne_true]
  refine Ev.bind hto ?_
  refine Ev.bind (ev_laws_eqTableS s (by omega) (fun _ _ => trivial)) ?_
  simp only [if_true]
  refine Ev.bind hto2 ?_
  refine Ev.bind (ev_laws_eqIntSSS r (by omega) hd) ?_
  exact Ev.const (by simp)

end EFnExactStoreOk
open Go.RowKit Go.Proofs.YtlkgppihnolcmaaW.PrintWords Go.Proofs.YtlkgppihnolcmaaW.PrintLast Go.Proofs.YtlkgppihnolcmaaW.PrintMore Go.Proofs.Ytlkgppihnolcmaa.Lib Go.Proofs.Ytlkgppihnolcmaa.Q
theorem FnExactStoreOk : ∀ (l0 : List (S53)) (l1 : List (List (List (Int)))), (l0.length ≤ 9223372036854775807 ∧ ∀ yl0 ∈ l0, Ok53 yl0) → (l1.length ≤ 9223372036854775807 ∧ ∀ yl1 ∈ l1, (yl1.length ≤ 9223372036854775807 ∧ ∀ yyl1 ∈ yl1, (yyl1.length ≤ 9223372036854775807 ∧ ∀ yyyl1 ∈ yyl1, (Lit.int .i64 yyyl1).wf = true))) → ∃ k, laws_FnExactStoreOk.f k l0 l1 = some true := EFnExactStoreOk.holds
end Go.Proofs.Ytlkgppihnolcmaa.Pure
