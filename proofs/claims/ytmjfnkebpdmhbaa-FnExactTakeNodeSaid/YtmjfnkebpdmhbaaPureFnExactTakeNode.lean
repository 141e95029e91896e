/- Of every list of bytes and every place: the program's TakeNode gives what the reference's TakeNode gives, in new memory of its own, and its argument stays as it was. -/
import Derived.Test.YtmjfnkebpdmhbaaQx8
import Derived.Test.YtmjfnkebpdmhbaaShapes
import Derived.Test.YtmjfnkebpdmhbaaLib
set_option linter.unusedVariables false
set_option linter.unusedSimpArgs false
namespace Go.Proofs.Ytmjfnkebpdmhbaa.Pure
namespace EFnExactTakeNode
open Go.RowKit Go.Proofs.YtmjfnkebpdmhbaaW.PrintWords Go.Proofs.YtmjfnkebpdmhbaaW.PrintLast Go.Proofs.YtmjfnkebpdmhbaaW.PrintMore Go.Proofs.Ytmjfnkebpdmhbaa.Lib Go.Proofs.Ytmjfnkebpdmhbaa.Q

theorem impl_in_eq (a b c : Int) : impl_in.f a b c = some (decide (b ≤ a ∧ a ≤ c)) := by
  unfold impl_in.f
  by_cases h : b ≤ a
  · rw [if_pos h]; simp [h]
  · rw [if_neg (show ¬ a ≥ b from h)]; simp [h]

theorem ev_impl_WordOk_l0 (s : ByteArray) (hs : s.size ≤ 1099511627776) : ∀ (d i : Nat), i + d = s.size → Ev (fun k => impl_WordOk.l0 k s (s.size : Int) i) (wordFrom s d i && decide (1 ≤ s.size ∧ s.size ≤ 12)) := by
  intro d
  induction d with
  | zero =>
    intro i h
    apply Ev.step
    · intro k; rw [impl_WordOk.l0]
    simp only [if_neg (show ¬ ((i : Int) < s.size) by omega), impl_in_eq, Option.bind_some, wordFrom, Bool.true_and]
    refine Ev.const (congrArg some ?_)
    exact decide_eq_decide.mpr (by omega)
  | succ d ih =>
    intro i h
    have ih' := ih (i + 1) (by omega)
    apply Ev.step
    · intro k; rw [impl_WordOk.l0]
    simp only [if_pos (show (i : Int) < s.size by omega), if_pos (show (0 : Int) ≤ i by omega), w64 (x := (i : Int) + 1) (by omega), wordFrom]
    by_cases h1 : bt s i ≥ 97
    · simp only [if_pos h1]
      by_cases h2 : bt s i ≤ 122
      · simp only [if_pos h2, show okAt s i = true by simp [okAt]; omega, Bool.true_and]; exact ih'
      · simp only [if_neg h2]
        by_cases h0 : (i : Int) = 0
        · simp only [if_pos h0, show okAt s i = false by simp [okAt]; omega, Bool.false_and]; exact Ev.now _
        · simp only [if_neg h0, if_neg (show ¬ bt s i < 48 by omega), if_pos (show bt s i > 57 by omega), show okAt s i = false by simp [okAt]; omega, Bool.false_and]; exact Ev.now _
    · simp only [if_neg h1]
      by_cases h0 : (i : Int) = 0
      · simp only [if_pos h0, show okAt s i = false by simp [okAt]; omega, Bool.false_and]; exact Ev.now _
      · simp only [if_neg h0]
        by_cases h2 : bt s i < 48
        · simp only [if_pos h2, show okAt s i = false by simp [okAt]; omega, Bool.false_and]; exact Ev.now _
        · by_cases h3 : bt s i > 57
          · simp only [if_neg h2, if_pos h3, show okAt s i = false by simp [okAt]; omega, Bool.false_and]; exact Ev.now _
          · simp only [if_neg h2, if_neg h3, show okAt s i = true by simp [okAt]; omega, Bool.true_and]; exact ih'
theorem ev_impl_WordOk (s : ByteArray) (hs : s.size ≤ 1099511627776) : Ev (fun k => impl_WordOk.f k s) (wordOk s) := by
  have := ev_impl_WordOk_l0 s hs s.size 0 (by omega)
  rw [Bool.and_comm] at this
  exact this

theorem impl_isCol_eq (a : Int) : impl_isCol.f a = some (colB a) := by
  unfold impl_isCol.f; rw [impl_in_eq]; rfl

theorem impl_isNum_eq (a : Int) : impl_isNum.f a = some (isNumB a) := by
  unfold impl_isNum.f; rw [impl_in_eq]; rfl

theorem impl_isSlot_eq (a : Int) : impl_isSlot.f a = some (slotB a) := by
  unfold impl_isSlot.f; rw [impl_in_eq]; rfl

theorem ev_slices_Equal_int_int_l0 (a b : List Int) (hl : a.length = b.length) (ha : a.length ≤ 1099511627776) : ∀ (d i : Nat), i + d = a.length → Ev (fun k => slices_Equal_int_int.l0 k a b (a.length : Int) i) (decide (a.drop i = b.drop i)) := by
  intro d
  induction d with
  | zero =>
    intro i h
    apply Ev.step
    · intro k; rw [slices_Equal_int_int.l0]
    simp only [if_neg (show ¬ ((i : Int) < a.length) by omega), drop_nil' (show a.length ≤ i by omega), drop_nil' (show b.length ≤ i by omega)]
    exact Ev.const (by simp)
  | succ d ih =>
    intro i h
    have ih' := ih (i + 1) (by omega)
    apply Ev.step
    · intro k; rw [slices_Equal_int_int.l0]
    simp only [if_pos (show (i : Int) < a.length by omega), if_pos (show (i : Int) < b.length by omega), if_pos (show (0 : Int) ≤ i by omega), w64 (x := (i : Int) + 1) (by omega), eq_drop (show i < a.length by omega) (show i < b.length by omega)]
    by_cases he : rd a i = rd b i
    · simp only [if_pos he]
      simpa [he] using ih'
    · simp only [if_neg he]
      exact Ev.const (by simp [he])
theorem ev_slices_Equal_int_int (a b : List Int) (ha : a.length ≤ 1099511627776) : Ev (fun k => slices_Equal_int_int.f k a b) (decide (a = b)) := by
  simp only [slices_Equal_int_int.f]
  by_cases hl : a.length = b.length
  · simp only [if_pos (show (a.length : Int) = b.length by omega)]
    simpa using ev_slices_Equal_int_int_l0 a b hl ha a.length 0 (by omega)
  · simp only [if_neg (show ¬ (a.length : Int) = b.length by omega)]
    exact Ev.const (congrArg some (decide_eq_false (fun h => hl (by rw [h]))).symm)

theorem ev_impl_sameNode (a0 : Int) (a1 : ByteArray) (a2 a3 a4 : Int) (a5 : Bool) (a6 : List Int) (b0 : Int) (b1 : ByteArray) (b2 b3 b4 : Int) (b5 : Bool) (b6 : List Int) (h : a6.length ≤ 1099511627776) :
    Ev (fun k => impl_sameNode.f k a0 a1 a2 a3 a4 a5 a6 b0 b1 b2 b3 b4 b5 b6) (decide (a0 = b0 ∧ a1.toList = b1.toList ∧ a2 = b2 ∧ a3 = b3 ∧ a4 = b4 ∧ a5 = b5 ∧ a6 = b6)) := by
  simp only [impl_sameNode.f]
  refine Ev_ite (fun h0 => ?_) (fun h0 => Ev.const (by simp [h0]))
  refine Ev_ite (fun h1 => ?_) (fun h1 => Ev.const (by simp [h1]))
  refine Ev_ite (fun h2 => ?_) (fun h2 => Ev.const (by simp [h2]))
  refine Ev_ite (fun h3 => ?_) (fun h3 => Ev.const (by simp [h3]))
  refine Ev_ite (fun h4 => ?_) (fun h4 => Ev.const (by simp [h4]))
  refine Ev_ite (fun h5 => ?_) (fun h5 => Ev.const (by have : ¬ a5 = b5 := by simpa using h5
                                                       simp [this]))
  have h5' : a5 = b5 := by simpa using h5
  refine Ev.bind (ev_slices_Equal_int_int a6 b6 h) ?_
  exact Ev.const (by simp [h0, h1, h2, h3, h4, h5'])

theorem impl_NodeOk_1_eq (a : Int) : impl_NodeOk_1.f a = some ((fun a => !colB a) a) := by
  unfold impl_NodeOk_1.f; rw [impl_isCol_eq]; rfl

theorem ev_IndexFunc_l0 (l : List Int) (hl : l.length ≤ 1099511627776) : ∀ (d i : Nat), i + d = l.length → ∃ r, Ev (fun k => slices_IndexFunc_int_int.l0 k l (l.length : Int) i) r ∧ decide (r ≥ 0) = (l.drop i).any (fun a => !colB a) := by
  intro d
  induction d with
  | zero =>
    intro i h
    refine ⟨-1, ?_, by rw [drop_nil' (show l.length ≤ i by omega)]; rfl⟩
    apply Ev.step
    · intro k; rw [slices_IndexFunc_int_int.l0]
    simp only [if_neg (show ¬ ((i : Int) < l.length) by omega)]
    exact Ev.now _
  | succ d ih =>
    intro i h
    obtain ⟨r, e, g⟩ := ih (i + 1) (by omega)
    by_cases hp : (fun a => !colB a) (rd l i) = true
    · have hp' := hp
      simp only [] at hp'
      refine ⟨i, ?_, ?_⟩
      · apply Ev.step
        · intro k; rw [slices_IndexFunc_int_int.l0]
        simp only [if_pos (show (i : Int) < l.length by omega), if_pos (show (0 : Int) ≤ i by omega), impl_NodeOk_1_eq, Option.bind_some]
        simp only [hp', if_true]
        exact Ev.now _
      · rw [drop_rd l i (by omega), List.any_cons]; simp only [hp', Bool.true_or]; simp
    · have hp' := Bool.eq_false_iff.mpr hp
      simp only [] at hp'
      refine ⟨r, ?_, ?_⟩
      · apply Ev.step
        · intro k; rw [slices_IndexFunc_int_int.l0]
        simp only [if_pos (show (i : Int) < l.length by omega), if_pos (show (0 : Int) ≤ i by omega), impl_NodeOk_1_eq, Option.bind_some, w64 (x := (i : Int) + 1) (by omega)]
        simp only [hp', if_neg Bool.false_ne_true]
        simpa using e
      · rw [drop_rd l i (by omega), List.any_cons]; simp only [hp', Bool.false_or]; exact g

theorem ev_ContainsFunc (l : List Int) (hl : l.length ≤ 1099511627776) : Ev (fun k => slices_ContainsFunc_int_int.f k l) (l.any (fun a => !colB a)) := by
  obtain ⟨r, e, g⟩ := ev_IndexFunc_l0 l hl l.length 0 (by omega)
  simp only [slices_ContainsFunc_int_int.f, slices_IndexFunc_int_int.f]
  refine Ev.bind (by simpa using e) ?_
  refine Ev.const (congrArg some ?_)
  rw [g, List.drop_zero]

theorem all_colB (l : List Int) : (l.any (fun a => !colB a)) = !l.all colB := by
  induction l with
  | nil => rfl
  | cons a l ih => simp [ih]
theorem empty_list : (⟨#[]⟩ : ByteArray).toList = [] := by rw [Lib.toList_data]
theorem ev_impl_NodeOk (kind : Int) (name : ByteArray) (col op num : Int) (slot : Bool) (cols : List Int) (hl : cols.length ≤ 1099511627776) (hn : name.size ≤ 1099511627776) : Ev (fun k => impl_NodeOk.f k kind name col op num slot cols) (nodeOk kind name col op num slot cols) := by
  have same := fun (a0 : Int) (a1 : ByteArray) (a2 a3 a4 : Int) (a5 : Bool) (a6 : List Int) (h : a6.length ≤ 1099511627776) => ev_impl_sameNode a0 a1 a2 a3 a4 a5 a6 0 (⟨#[]⟩ : ByteArray) 0 0 0 false [] h
  have hnil : ([] : List Int).length ≤ 1099511627776 := by simp
  simp only [impl_NodeOk.f, impl_isCol_eq, impl_in_eq, impl_isSlot_eq, Option.bind_some]
  refine Ev_ite (fun h0 => ?_) (fun h0 => ?_)
  · refine Ev.bind (ev_impl_WordOk name hn) ?_
    refine Ev_ite (fun h1 => ?_) (fun h1 => Ev.const (by simp [nodeOk, nodeKind, h0, Bool.eq_false_iff.mpr h1]))
    refine Ev.bind (same _ _ _ _ _ _ _ hl) ?_
    refine Ev.const (congrArg some ?_)
    cases slot <;> simp [nodeOk, nodePre, nodeKind, h0, h1, empty_list] <;> by_cases e1 : cols = [] <;> by_cases e2 : op = 0 <;> by_cases e3 : col = 0 <;> simp [*]
  refine Ev_ite (fun h1 => ?_) (fun h1 => ?_)
  · have tail : ∀ b, b = (colB col && decide (0 ≤ op ∧ op ≤ 3)) → Ev (fun k => impl_NodeOk.j0 k b kind name col op num slot cols 0 name col op num slot cols) (nodeOk kind name col op num slot cols) := by
      intro b hb
      have hk : nodeKind kind name col op num slot cols = (b && isNumB num && decide (op = 3 → num = 0 ∧ slot = false)) := by
        rw [hb]; simp [nodeKind, h1]
      unfold nodeOk
      rw [hk]
      apply Ev.step
      · intro k; rw [impl_NodeOk.j0]
      simp only [impl_isSlot_eq, impl_isNum_eq, Option.bind_some]
      cases b with
      | false =>
        simp only [Bool.false_and, Bool.and_false]
        refine Ev_ite (fun _ => Ev.const (by simp)) (fun _ => Ev_ite (fun _ => Ev.const (by simp)) (fun _ => Ev.const (by simp)))
      | true =>
        simp only [Bool.true_and, if_true]
        refine Ev_ite (fun h3 => ?_) (fun h3 => ?_)
        · refine Ev_ite (fun h4 => Ev_ite (fun h5 => ?_) (fun h5 => ?_)) (fun h4 => ?_)
          · exact Ev.const (by simp [h3, h5])
          · refine Ev.bind (same _ _ _ _ _ _ _ hl) ?_
            refine Ev.const (congrArg some ?_)
            have h5' : slot = false := by simpa using h5
            subst h4 h5'
            simp [nodePre, h1, h3, empty_list, isNumB]
          · exact Ev.const (by simp [h3, h4])
        · refine Ev_ite (fun h4 => ?_) (fun h4 => ?_)
          · refine Ev_ite (fun h5 => ?_) (fun h5 => Ev.const (by simp [nodePre, h4, Bool.eq_false_iff.mpr h5]))
            refine Ev.bind (same _ _ _ _ _ _ _ hl) ?_
            refine Ev.const (congrArg some ?_)
            have h6 : isNumB num = true := by simp [slotB] at h5; simp [isNumB]; omega
            simp [nodePre, h1, h3, h4, h5, h6, empty_list]
          · refine Ev_ite (fun h5 => ?_) (fun h5 => Ev.const (by simp [Bool.eq_false_iff.mpr h5]))
            refine Ev.bind (same _ _ _ _ _ _ _ hl) ?_
            refine Ev.const (congrArg some ?_)
            have h4' : slot = false := by simpa using h4
            simp [nodePre, h1, h3, h4', h5, empty_list]
    refine Ev_ite (fun h2 => tail _ (by rw [h2, Bool.true_and])) (fun h2 => tail _ (by rw [Bool.eq_false_iff.mpr h2, Bool.false_and]))
  refine Ev_ite (fun h2 => ?_) (fun h2 => ?_)
  · refine Ev_ite (fun h3 => ?_) (fun h3 => Ev.const (by
      have : ¬ (1 ≤ cols.length ∧ cols.length ≤ 6) := by simp only [decide_eq_true_eq] at h3; omega
      simp [nodeOk, nodeKind, h2]
      intro _ _ h4 h5; exact absurd ⟨h4, h5⟩ this))
    refine Ev.bind (ev_ContainsFunc cols hl) ?_
    rw [all_colB]
    have h3' : 1 ≤ cols.length ∧ cols.length ≤ 6 := by simp only [decide_eq_true_eq] at h3; omega
    refine Ev_ite (fun h4 => Ev.const (by
      have : cols.all colB = false := by simpa using h4
      simp [nodeOk, nodeKind, h2, this])) (fun h4 => ?_)
    have h5 : cols.all colB = true := by simpa using h4
    refine Ev.bind (same _ _ _ _ _ _ _ hnil) ?_
    refine Ev.const (congrArg some ?_)
    cases slot <;> simp only [nodeOk, nodePre, nodeKind, h2, h5, decide_eq_true h3', empty_list] <;> simp <;> by_cases e1 : name.toList = [] <;> by_cases e2 : op = 0 <;> by_cases e3 : col = 0 <;> simp [*]
  refine Ev_ite (fun h3 => ?_) (fun h3 => ?_)
  · refine Ev_ite (fun h4 => ?_) (fun h4 => Ev.const (by simp [nodeOk, nodeKind, h3, Bool.eq_false_iff.mpr h4]))
    refine Ev_ite (fun h5 => ?_) (fun h5 => Ev.const (by simp [nodeOk, nodeKind, h3, Bool.eq_false_iff.mpr h5]))
    refine Ev.bind (same _ _ _ _ _ _ _ hl) ?_
    refine Ev.const (congrArg some ?_)
    cases slot <;> simp [nodeOk, nodePre, nodeKind, h3, h4, h5, empty_list] <;> by_cases e1 : cols = [] <;> by_cases e2 : op = 0 <;> by_cases e3 : name.toList = [] <;> simp [*]
  refine Ev_ite (fun h4 => ?_) (fun h4 => ?_)
  · refine Ev_ite (fun h5 => ?_) (fun h5 => Ev.const (by simp [nodeOk, nodeKind, h4, Bool.eq_false_iff.mpr h5]))
    refine Ev.bind (same _ _ _ _ _ _ _ hl) ?_
    refine Ev.const (congrArg some ?_)
    cases slot <;> simp [nodeOk, nodePre, nodeKind, h4, h5, empty_list] <;> by_cases e1 : cols = [] <;> by_cases e2 : op = 0 <;> by_cases e3 : name.toList = [] <;> simp [*]
  refine Ev_ite (fun h5 => ?_) (fun h5 => ?_)
  · refine Ev_ite (fun h6 => ?_) (fun h6 => Ev.const (by
      have : ¬ (0 ≤ num ∧ num ≤ 1000000) := by simpa using h6
      simp [nodeOk, nodeKind, h5]
      intro _ _ h7; omega))
    have h6' : 0 ≤ num ∧ num ≤ 1000000 := by simpa using h6
    refine Ev_ite (fun h7 => Ev_ite (fun h8 => ?_) (fun h8 => Ev.const (by simp [nodeOk, nodePre, h7, Bool.eq_false_iff.mpr h8]))) (fun h7 => ?_)
    · refine Ev.bind (same _ _ _ _ _ _ _ hl) ?_
      refine Ev.const (congrArg some ?_)
      simp only [nodeOk, nodePre, nodeKind, h5, h7, h8, decide_eq_true h6', empty_list] <;> simp <;> by_cases e1 : cols = [] <;> by_cases e2 : op = 0 <;> by_cases e3 : name.toList = [] <;> simp [*]
    · refine Ev.bind (same _ _ _ _ _ _ _ hl) ?_
      refine Ev.const (congrArg some ?_)
      have h7' : slot = false := by simpa using h7
      simp only [nodeOk, nodePre, nodeKind, h5, h7', decide_eq_true h6', empty_list] <;> simp <;> by_cases e1 : cols = [] <;> by_cases e2 : op = 0 <;> by_cases e3 : name.toList = [] <;> simp [*]
  refine Ev_ite (fun h6 => ?_) (fun h6 => Ev_ite (fun h7 => ?_) (fun h7 => ?_))
  · refine Ev.bind (same _ _ _ _ _ _ _ hl) ?_
    refine Ev.const (congrArg some ?_)
    cases slot <;> simp [nodeOk, nodePre, nodeKind, h6, empty_list] <;> by_cases e1 : cols = [] <;> by_cases e2 : op = 0 <;> by_cases e3 : name.toList = [] <;> simp [*]
  · refine Ev.bind (same _ _ _ _ _ _ _ hl) ?_
    refine Ev.const (congrArg some ?_)
    cases slot <;> simp [nodeOk, nodePre, nodeKind, h7, empty_list] <;> by_cases e1 : cols = [] <;> by_cases e2 : op = 0 <;> by_cases e3 : name.toList = [] <;> simp [*]
  · exact Ev.const (by simp [nodeOk, nodeKind, h0, h1, h2, h3, h4, h5, h6, h7])

theorem impl_fin (b : List Int) (hb : Bytes b) (hl : b.length ≤ 1048576) (p q u s : Int) (hp : 0 ≤ p ∧ p ≤ q) (hlt : q < b.length) (hu : 0 ≤ u ∧ u ≤ 2097152) (hs : s = 1 ∨ s = 128 ∨ s = 16384) (hv : rd b q < 128) :
    Ev (fun k => impl_TakeNum.j1 k b p u s q true) (takeFin (u + rd b q * s) (rd b q) (q - p) p) := by
  have hr := Bytes_rd hb q
  have hm : 0 ≤ rd b q * s ∧ rd b q * s ≤ 266338304 := by
    rcases hs with e | e | e <;> subst e <;> omega
  generalize hm0 : rd b q * s = m at *
  have e5 : Int.tmod (rd b q) 128 = rd b q := by rw [tmod_nn (by omega)]; omega
  have e4 : wrap64 (rd b q) = rd b q := w64 (by omega)
  apply Ev.step
  · intro k; rw [impl_TakeNum.j1]
  simp only [e5, e4, hm0, w64 (x := m) (by omega), if_true, if_pos (show (0 : Int) ≤ q by omega), if_pos hlt, if_neg (show ¬ rd b q ≥ 128 by omega), w64 (x := u + m) (by omega), tmod_nn (show 0 ≤ u + m by omega), impl_isNum_eq, Option.bind_some, w64 (x := u + m + 1) (by omega), w64 (x := -(u + m + 1)) (by omega), tdiv_neg' (show 0 ≤ u + m + 1 by omega), tdiv_nn (show 0 ≤ u + m by omega), w64 (x := -((u + m + 1) / 2)) (by omega), w64 (x := (u + m) / 2) (by omega), w64 (x := q + 1) (by omega)]
  refine Ev.const ?_
  unfold takeFin
  have e6 : p + (q - p) + 1 = q + 1 := by omega
  rw [e6]
  by_cases h1 : (u + m) % 2 = 1
  · simp only [h1, if_true]
    by_cases h2 : rd b q = 0
    · by_cases h3 : p < q
      · rw [if_pos (show (rd b q = 0 ∧ 0 < q - p) ∨ _ from Or.inl ⟨h2, by omega⟩)]
        simp [h2, h3]
      · have h3' : ¬ 0 < q - p := by omega
        simp [h2, h3, h3']; split <;> simp_all
    · simp [h2]; split <;> simp_all
  · simp only [h1, if_false]
    by_cases h2 : rd b q = 0
    · by_cases h3 : p < q
      · rw [if_pos (show (rd b q = 0 ∧ 0 < q - p) ∨ _ from Or.inl ⟨h2, by omega⟩)]
        simp [h2, h3]
      · have h3' : ¬ 0 < q - p := by omega
        simp [h2, h3, h3']; split <;> simp_all
    · simp [h2]; split <;> simp_all
theorem impl_cont (b : List Int) (hb : Bytes b) (hl : b.length ≤ 1048576) (p q u s : Int) (r : Int × Int) (hp : 0 ≤ p ∧ p ≤ q) (hlt : q < b.length) (hu : 0 ≤ u ∧ u ≤ 2097152) (hs : s = 1 ∨ s = 128 ∨ s = 16384) (hv : ¬ rd b q < 128)
    (h : Ev (fun k => impl_TakeNum.l0 k b p (u + rd b q % 128 * s) (s * 128) (q + 1)) r) : Ev (fun k => impl_TakeNum.j1 k b p u s q true) r := by
  have hr := Bytes_rd hb q
  have hm : 0 ≤ rd b q % 128 * s ∧ rd b q % 128 * s ≤ 266338304 := by
    rcases hs with e | e | e <;> subst e <;> omega
  generalize hm0 : rd b q % 128 * s = m at *
  have e5 : Int.tmod (rd b q) 128 = rd b q % 128 := tmod_nn (by omega)
  apply Ev.step
  · intro k; rw [impl_TakeNum.j1]
  simp only [e5, w64 (x := rd b q % 128) (by omega), hm0, w64 (x := m) (by omega), if_true, if_pos (show (0 : Int) ≤ q by omega), if_pos hlt, if_pos (show rd b q ≥ 128 by omega), w64 (x := u + m) (by omega), w64 (x := q + 1) (by omega), w64 (x := s * 128) (by omega)]
  exact h
theorem impl_head (b : List Int) (hl : b.length ≤ 1048576) (p q u s : Int) (r : Int × Int) (hp : 0 ≤ p ∧ p ≤ q ∧ p ≤ 9223372036854775807) (hr : (b.length : Int) ≤ q ∨ p + 3 ≤ q → r = (0, -1))
    (h : ¬ ((b.length : Int) ≤ q ∨ p + 3 ≤ q) → Ev (fun k => impl_TakeNum.j1 k b p u s q true) r) : Ev (fun k => impl_TakeNum.l0 k b p u s q) r := by
  apply Ev.step
  · intro k; rw [impl_TakeNum.l0]
  by_cases h0 : q < (b.length : Int)
  · simp only [if_pos h0, w64 (x := p + 3) (by omega)]
    by_cases h1 : q < p + 3
    · simp only [decide_eq_true h1]
      exact h (by omega)
    · simp only [decide_eq_false h1]
      rw [hr (by omega)]
      apply Ev.step
      · intro k; rw [impl_TakeNum.j1]
      exact Ev.now _
  · simp only [if_neg h0]
    rw [hr (by omega)]
    apply Ev.step
    · intro k; rw [impl_TakeNum.j1]
    exact Ev.now _
theorem ev_impl_TakeNum (b : List Int) (hb : Bytes b) (hl : b.length ≤ 1048576) (p : Int) (hp : p ≤ 9223372036854775807) : Ev (fun k => impl_TakeNum.f k b p) (takeNum b p) := by
  have r0 := Bytes_rd hb p
  have r1 := Bytes_rd hb (p + 1)
  have r2 := Bytes_rd hb (p + 2)
  simp only [impl_TakeNum.f]
  by_cases hn : p < 0
  · simp only [if_pos hn]
    rw [takeNum, if_pos (Or.inl hn)]
    exact Ev.now _
  simp only [if_neg hn]
  refine impl_head b hl p p 0 1 _ (by omega) (fun h => ?_) (fun h => ?_)
  · unfold takeNum; rw [if_pos (by omega)]
  have hg : ¬ (p < 0 ∨ (b.length : Int) ≤ p) := by omega
  rw [takeNum, if_neg hg]
  by_cases h0 : rd b p < 128
  · rw [if_pos h0]
    have := impl_fin b hb hl p p 0 1 (by omega) (by omega) (by omega) (by omega) h0
    simpa using this
  rw [if_neg h0]
  refine impl_cont b hb hl p p 0 1 _ (by omega) (by omega) (by omega) (by omega) h0 ?_
  simp only [Int.zero_add, Int.mul_one, Int.one_mul]
  refine impl_head b hl p (p + 1) _ _ _ (by omega) (fun h => ?_) (fun h => ?_)
  · rw [if_pos (by omega)]
  rw [if_neg (by omega)]
  by_cases h1 : rd b (p + 1) < 128
  · rw [if_pos h1]
    have := impl_fin b hb hl p (p + 1) (rd b p % 128) 128 (by omega) (by omega) (by omega) (by omega) h1
    rwa [show p + 1 - p = 1 by omega] at this
  rw [if_neg h1]
  refine impl_cont b hb hl p (p + 1) _ 128 _ (by omega) (by omega) (by omega) (by omega) h1 ?_
  simp only [show p + 1 + 1 = p + 2 by omega, show (128 : Int) * 128 = 16384 from rfl]
  refine impl_head b hl p (p + 2) _ _ _ (by omega) (fun h => ?_) (fun h => ?_)
  · rw [if_pos (by omega)]
  rw [if_neg (by omega)]
  by_cases h2 : rd b (p + 2) < 128
  · rw [if_pos h2]
    have := impl_fin b hb hl p (p + 2) (rd b p % 128 + rd b (p + 1) % 128 * 128) 16384 (by omega) (by omega) (by omega) (by omega) h2
    rwa [show p + 2 - p = 2 by omega] at this
  rw [if_neg h2]
  refine impl_cont b hb hl p (p + 2) _ 16384 _ (by omega) (by omega) (by omega) (by omega) h2 ?_
  exact impl_head b hl p (p + 2 + 1) _ _ _ (by omega) (fun _ => rfl) (fun h => by omega)

theorem ev_impl_TakeNums_l0 (b : List Int) (hb : Bytes b) (hl : b.length ≤ 1048576) (m : Int) (hm : 0 ≤ m ∧ m ≤ 300) : ∀ (d : Nat) (acc : List Int) (p i : Int), 0 ≤ i → i + d = m → acc.length = i → p ≤ 9223372036854775807 → Ev (fun k => impl_TakeNums.l0 k b p acc m i) (numsFrom b d acc p) := by
  intro d
  induction d with
  | zero =>
    intro acc p i h0 h1 h2 h3
    apply Ev.step
    · intro k; rw [impl_TakeNums.l0]
    simp only [if_neg (show ¬ i < m by omega)]
    exact Ev.now _
  | succ d ih =>
    intro acc p i h0 h1 h2 h3
    have hn := takeNum_lo b p
    apply Ev.step
    · intro k; rw [impl_TakeNums.l0]
    simp only [if_pos (show i < m by omega)]
    refine Ev.bind (ev_impl_TakeNum b hb hl p (by omega)) ?_
    rw [numsFrom]
    by_cases h4 : (takeNum b p).2 < 0
    · simp only [if_pos h4]; exact Ev.now _
    · simp only [if_neg h4, if_pos (show acc.length < 17592186044416 by omega), w64 (x := i + 1) (by omega)]
      exact ih _ _ _ (by omega) (by omega) (by simp; omega) (by omega)
theorem ev_impl_TakeNums (b : List Int) (hb : Bytes b) (hl : b.length ≤ 1048576) (p : Int) (hp : p ≤ 9223372036854775807) : Ev (fun k => impl_TakeNums.f k b p) (takeNums b p) := by
  have hn := takeNum_lo b p
  simp only [impl_TakeNums.f]
  refine Ev.bind (ev_impl_TakeNum b hb hl p (by omega)) ?_
  unfold takeNums
  by_cases h0 : (takeNum b p).2 < 0
  · simp only [if_pos h0, if_pos (show (takeNum b p).2 < 0 ∨ _ from Or.inl h0)]
    apply Ev.step
    · intro k; rw [impl_TakeNums.j0]
    exact Ev.now _
  simp only [if_neg h0, impl_in_eq, Option.bind_some]
  by_cases h1 : 0 ≤ (takeNum b p).1 ∧ (takeNum b p).1 ≤ 300
  · rw [if_neg (by intro h; rcases h with h | h; exact h0 h; exact h h1)]
    apply Ev.step
    · intro k; rw [impl_TakeNums.j0]
    simp only [decide_eq_true h1, Bool.not_true, if_neg Bool.false_ne_true]
    exact ev_impl_TakeNums_l0 b hb hl _ h1 _ _ _ 0 (by omega) (by omega) (by simp) (by omega)
  · rw [if_pos (Or.inr h1)]
    apply Ev.step
    · intro k; rw [impl_TakeNums.j0]
    simp only [decide_eq_false h1, Bool.not_false, if_true]
    exact Ev.now _

def cutB (b : List Int) (f n : Int) : ByteArray := strOfNums ((b.take (f + n).toNat).drop f.toNat)
def takeWord (b : List Int) (p : Int) : ByteArray × Int :=
  if 0 ≤ (takeNum b p).2 ∧ 1 ≤ (takeNum b p).1 ∧ (takeNum b p).1 ≤ b.length - (takeNum b p).2 ∧ wordOk (cutB b (takeNum b p).2 (takeNum b p).1) = true
  then (cutB b (takeNum b p).2 (takeNum b p).1, (takeNum b p).2 + (takeNum b p).1) else (⟨#[]⟩, -1)
theorem size_strOf (l : List Int) : (strOfNums l).size = l.length := by
  simp [strOfNums, ByteArray.size]
theorem cutB_size (b : List Int) (f n : Int) (h0 : 0 ≤ f) (h1 : 0 ≤ n) (h2 : f + n ≤ b.length) : (cutB b f n).size = n.toNat := by
  unfold cutB
  rw [size_strOf, List.length_drop, List.length_take]
  omega
theorem wordOk_size {s : ByteArray} (h : wordOk s = true) : 1 ≤ s.size ∧ s.size ≤ 12 := by
  unfold wordOk at h
  simp only [Bool.and_eq_true, decide_eq_true_eq] at h
  exact h.1

theorem ev_impl_TakeWord (b : List Int) (hb : Bytes b) (hl : b.length ≤ 1048576) (p : Int) (hp : p ≤ 9223372036854775807) : Ev (fun k => impl_TakeWord.f k b p) (takeWord b p) := by
  have hr := takeNum_next b p
  have hq := @cutB_size b (takeNum b p).2 (takeNum b p).1
  simp only [impl_TakeWord.f, impl_in_eq, Option.bind_some]
  refine Ev.bind (ev_impl_TakeNum b hb hl p hp) ?_
  refine Ev_ite (fun h0 => ?_) (fun h0 => ?_)
  · unfold takeWord; rw [if_neg (by omega)]; exact Ev.now _
  have hn : -1000000 ≤ (takeNum b p).1 ∧ (takeNum b p).1 ≤ 1000000 := by
    rcases hr with h | h
    · omega
    · simpa [isNumB] using h.2.2.2.2
  rw [w64 (x := (b.length : Int) - (takeNum b p).2) (by omega)]
  refine Ev_ite (fun h1 => ?_) (fun h1 => ?_)
  · have h1' : 1 ≤ (takeNum b p).1 ∧ (takeNum b p).1 ≤ (b.length : Int) - (takeNum b p).2 := by simpa using h1
    simp only [w64 (x := (takeNum b p).2 + (takeNum b p).1) (by omega), if_pos (show 0 ≤ (takeNum b p).2 by omega), if_pos (show (takeNum b p).2 ≤ (takeNum b p).2 + (takeNum b p).1 by omega), if_pos (show (takeNum b p).2 + (takeNum b p).1 ≤ b.length by omega)]
    have hz := hq (by omega) (by omega) (by omega)
    refine Ev.bind (ev_impl_WordOk (cutB b (takeNum b p).2 (takeNum b p).1) (by omega)) ?_
    refine Ev_ite (fun h3 => ?_) (fun h3 => ?_)
    · unfold takeWord; rw [if_pos ⟨by omega, by omega, by omega, h3⟩]; exact Ev.now _
    · unfold takeWord; rw [if_neg (fun h => h3 h.2.2.2)]; exact Ev.now _
  · have h1' : ¬ (1 ≤ (takeNum b p).1 ∧ (takeNum b p).1 ≤ (b.length : Int) - (takeNum b p).2) := by simpa using h1
    unfold takeWord; rw [if_neg (by omega)]; exact Ev.now _

theorem ev_impl_takeAll_l0 (b : List Int) (hb : Bytes b) (hl : b.length ≤ 1048576) (m : Int) (hm : 0 ≤ m ∧ m ≤ 300) : ∀ (d : Nat) (acc : List Int) (p i : Int), 0 ≤ i → i + d = m → acc.length = i → p ≤ 9223372036854775807 → Ev (fun k => impl_takeAll.l0 k b p acc m i) (numsFrom b d acc p) := by
  intro d
  induction d with
  | zero =>
    intro acc p i h0 h1 h2 h3
    apply Ev.step
    · intro k; rw [impl_takeAll.l0]
    simp only [if_neg (show ¬ i < m by omega)]
    exact Ev.now _
  | succ d ih =>
    intro acc p i h0 h1 h2 h3
    have hn := takeNum_lo b p
    apply Ev.step
    · intro k; rw [impl_takeAll.l0]
    simp only [if_pos (show i < m by omega)]
    refine Ev.bind (ev_impl_TakeNum b hb hl p (by omega)) ?_
    rw [numsFrom]
    by_cases h4 : (takeNum b p).2 < 0
    · simp only [if_pos h4]; exact Ev.now _
    · simp only [if_neg h4, if_pos (show acc.length < 17592186044416 by omega), w64 (x := i + 1) (by omega)]
      exact ih _ _ _ (by omega) (by omega) (by simp; omega) (by omega)
theorem ev_impl_takeAll (b : List Int) (hb : Bytes b) (hl : b.length ≤ 1048576) (p : Int) (hp : p ≤ 9223372036854775807) (m : Nat) (hm : m ≤ 300) : Ev (fun k => impl_takeAll.f k b p (m : Int)) (numsFrom b m [] p) := by
  simp only [impl_takeAll.f]
  exact ev_impl_takeAll_l0 b hb hl m (by omega) m [] p 0 (by omega) (by omega) rfl hp

abbrev NodeT := Int × ByteArray × Int × Int × Int × Bool × List Int × Int
def zeroT : NodeT := (0, (⟨#[]⟩ : ByteArray), 0, 0, 0, false, ([] : List Int), -1)
/-- The reader's next number: where it has failed it stays where it is. -/
def nx (b : List Int) (a : Int) (f : Bool) : Int × Int × Bool := if f = true then (0, a, true) else if (takeNum b a).2 < 0 then (0, a, true) else ((takeNum b a).1, (takeNum b a).2, false)
def nxSlot (b : List Int) (a : Int) (f : Bool) : Bool × Int × Bool := (decide ((nx b a f).1 = 1), (nx b a f).2.1, if decide (0 ≤ (nx b a f).1 ∧ (nx b a f).1 ≤ 1) = true then (nx b a f).2.2 else true)
def finN (bad : Bool) (q : Int) (x0 : Int) (x1 : ByteArray) (x2 x3 x4 : Int) (x5 : Bool) (x6 : List Int) : NodeT := if bad = true then zeroT else if nodeOk x0 x1 x2 x3 x4 x5 x6 = true then (x0, x1, x2, x3, x4, x5, x6, q) else zeroT
def emptyB : ByteArray := ⟨#[]⟩
def takeG1 (b : List Int) (x0 : Int) (p : Int × Int × Bool) : NodeT :=
  (fun q : Int × Int × Bool => (fun s : Bool × Int × Bool => (fun v : Int × Int × Bool => finN v.2.2 v.2.1 x0 (⟨#[]⟩ : ByteArray) p.1 q.1 v.1 s.1 []) (nx b s.2.1 s.2.2)) (nxSlot b q.2.1 q.2.2)) (nx b p.2.1 p.2.2)
def takeG3 (b : List Int) (x0 : Int) (p : Int × Int × Bool) : NodeT := (fun q : Int × Int × Bool => finN q.2.2 q.2.1 x0 (⟨#[]⟩ : ByteArray) p.1 0 q.1 false []) (nx b p.2.1 p.2.2)
def takeG5 (x0 : Int) (p : Int × Int × Bool) : NodeT := finN p.2.2 p.2.1 x0 (⟨#[]⟩ : ByteArray) p.1 0 0 false []
def takeG6 (b : List Int) (x0 : Int) (s : Bool × Int × Bool) : NodeT := (fun v : Int × Int × Bool => finN v.2.2 v.2.1 x0 (⟨#[]⟩ : ByteArray) 0 0 v.1 s.1 []) (nx b s.2.1 s.2.2)
def takeG (b : List Int) (x0 a : Int) : NodeT :=
  if x0 = 0 then (if (takeWord b a).2 < 0 then zeroT else finN false (takeWord b a).2 x0 (takeWord b a).1 0 0 0 false [])
  else if x0 = 1 then takeG1 b x0 (nx b a false)
  else if x0 = 2 then (if (takeNums b a).2 < 0 then zeroT else finN false (takeNums b a).2 x0 (⟨#[]⟩ : ByteArray) 0 0 0 false (takeNums b a).1)
  else if x0 = 3 then takeG3 b x0 (nx b a false)
  else if x0 = 5 then takeG5 x0 (nx b a false)
  else if x0 = 6 then takeG6 b x0 (nxSlot b a false)
  else finN false a x0 (⟨#[]⟩ : ByteArray) 0 0 0 false []
def takeNode (b : List Int) (p : Int) : NodeT := if (takeNum b p).2 < 0 then zeroT else takeG b (takeNum b p).1 (takeNum b p).2
def slotN (q sl x0 : Int) (x1 : ByteArray) (x2 x3 x4 : Int) (x6 : List Int) : NodeT :=
  if q < 0 then zeroT else if decide (0 ≤ sl ∧ sl ≤ 1) = true then (if nodeOk x0 x1 x2 x3 x4 (sl == 1) x6 = true then (x0, x1, x2, x3, x4, sl == 1, x6, q) else zeroT) else zeroT
theorem slotN_0 (q x0 : Int) (x1 : ByteArray) (x2 x3 x4 : Int) (x6 : List Int) : slotN q 0 x0 x1 x2 x3 x4 x6 = if q < 0 then zeroT else finN false q x0 x1 x2 x3 x4 false x6 := by
  unfold slotN finN
  simp
theorem emptyB_eq : (⟨#[]⟩ : ByteArray).size = 0 := rfl
theorem finN_next {bad : Bool} {q x0 : Int} {x1 : ByteArray} {x2 x3 x4 : Int} {x5 : Bool} {x6 : List Int} (h : 0 ≤ (finN bad q x0 x1 x2 x3 x4 x5 x6).2.2.2.2.2.2.2) : bad = false ∧ nodeOk x0 x1 x2 x3 x4 x5 x6 = true ∧ finN bad q x0 x1 x2 x3 x4 x5 x6 = (x0, x1, x2, x3, x4, x5, x6, q) := by
  unfold finN at h ⊢
  cases bad with
  | true => simp [zeroT] at h
  | false =>
    by_cases hn : nodeOk x0 x1 x2 x3 x4 x5 x6 = true
    · simp [hn]
    · simp [hn, zeroT] at h
/-- What a taken node is like, and where it ends. -/
def NodeFit (b : List Int) (r : NodeT) : Prop := r.2.2.2.2.2.2.2 < 0 ∨ (0 ≤ r.2.2.2.2.2.2.2 ∧ r.2.2.2.2.2.2.2 ≤ b.length ∧ r.2.1.size ≤ 12 ∧ r.2.2.2.2.2.2.1.length ≤ 300)
theorem fit_zero (b : List Int) : NodeFit b zeroT := .inl (by simp [zeroT])
theorem fit_fin {b : List Int} {bad : Bool} {q x0 : Int} {x1 : ByteArray} {x2 x3 x4 : Int} {x5 : Bool} {x6 : List Int} (hq : bad = false → 0 ≤ q ∧ q ≤ b.length) (h1 : x1.size ≤ 12) (h6 : x6.length ≤ 300) : NodeFit b (finN bad q x0 x1 x2 x3 x4 x5 x6) := by
  unfold finN
  split
  · exact fit_zero b
  · rename_i hb
    have := hq (by simpa using hb)
    split
    · exact .inr ⟨this.1, this.2, h1, h6⟩
    · exact fit_zero b
theorem nx_fit (b : List Int) (a : Int) (f : Bool) : (nx b a f).2.2 = false → 0 ≤ (nx b a f).2.1 ∧ (nx b a f).2.1 ≤ b.length := by
  have h := takeNum_lo b a
  unfold nx
  split
  · intro h; cases h
  split
  · intro h; cases h
  · intro _; simp only; omega
theorem takeWord_fit (b : List Int) (p : Int) : (takeWord b p).2 ≤ b.length ∧ (takeWord b p).1.size ≤ 12 := by
  unfold takeWord
  split
  · rename_i h; exact ⟨by simp only; omega, (wordOk_size h.2.2.2).2⟩
  · exact ⟨by simp only; omega, Nat.zero_le _⟩
theorem numsFrom_fit (b : List Int) : ∀ (n : Nat) (acc : List Int) (p : Int), p ≤ b.length → (numsFrom b n acc p).2 ≤ b.length
  | 0, acc, p, h => h
  | n + 1, acc, p, h => by
    unfold numsFrom
    split
    · simp only; omega
    · exact numsFrom_fit b n _ _ (takeNum_lo b p).2
theorem takeNums_fit (b : List Int) (p : Int) : (takeNums b p).2 ≤ b.length := by
  unfold takeNums
  split
  · simp only; omega
  · exact numsFrom_fit b _ _ _ (takeNum_lo b p).2
theorem takeNode_fit (b : List Int) (p : Int) : NodeFit b (takeNode b p) := by
  have hn := takeNum_lo b p
  unfold takeNode
  split
  · exact fit_zero b
  rename_i hp
  generalize (takeNum b p).1 = x0
  have ha : 0 ≤ (takeNum b p).2 ∧ (takeNum b p).2 ≤ b.length := by omega
  clear hn hp
  generalize (takeNum b p).2 = a at *
  unfold takeG
  split
  · have h1 := takeWord_fit b a
    split
    · exact fit_zero b
    · rename_i hw
      exact fit_fin (fun _ => by omega) h1.2 (by simp)
  split
  · unfold takeG1
    exact fit_fin (nx_fit b _ _) (by simp [emptyB_eq]) (by simp)
  split
  · have h1 := takeNums_fit b a
    split
    · exact fit_zero b
    · exact fit_fin (fun _ => by omega) (by simp [emptyB_eq]) (takeNums_len b a)
  split
  · unfold takeG3
    exact fit_fin (nx_fit b _ _) (by simp [emptyB_eq]) (by simp)
  split
  · unfold takeG5
    exact fit_fin (nx_fit b _ _) (by simp [emptyB_eq]) (by simp)
  split
  · unfold takeG6
    exact fit_fin (nx_fit b _ _) (by simp [emptyB_eq]) (by simp)
  · exact fit_fin (fun _ => ha) (by simp [emptyB_eq]) (by simp)

theorem beq_dec (a b : Int) : (a == b) = decide (a = b) := by
  by_cases h : a = b <;> simp [h]
theorem nums4 (b : List Int) (x0 a : Int) : (if (numsFrom b 4 [] a).2 ≥ 0 then (if 0 < ((numsFrom b 4 [] a).1.length : Int) ∧ 1 < ((numsFrom b 4 [] a).1.length : Int) ∧ 2 < ((numsFrom b 4 [] a).1.length : Int) ∧ 3 < ((numsFrom b 4 [] a).1.length : Int) then some (slotN (numsFrom b 4 [] a).2 (rd (numsFrom b 4 [] a).1 2) x0 (⟨#[]⟩ : ByteArray) (rd (numsFrom b 4 [] a).1 0) (rd (numsFrom b 4 [] a).1 1) (rd (numsFrom b 4 [] a).1 3) []) else none) else some (slotN (numsFrom b 4 [] a).2 0 x0 (⟨#[]⟩ : ByteArray) 0 0 0 [])) = some (takeG1 b x0 (nx b a false)) := by
  have k1 := takeNum_lo b a
  simp only [numsFrom, List.nil_append, List.singleton_append, List.cons_append]
  unfold takeG1
  by_cases h1 : (takeNum b a).2 < 0
  · simp [nx, nxSlot, h1, slotN, finN]
  simp only [if_neg h1, nx, nxSlot, if_neg Bool.false_ne_true]
  generalize takeNum b a = T1 at *
  have k2 := takeNum_lo b T1.2
  by_cases h2 : (takeNum b T1.2).2 < 0
  · simp [h2, slotN, finN]
  simp only [if_neg h2, if_neg Bool.false_ne_true]
  generalize takeNum b T1.2 = T2 at *
  have k3 := takeNum_lo b T2.2
  by_cases h3 : (takeNum b T2.2).2 < 0
  · simp [h3, slotN, finN]
  simp only [if_neg h3, if_neg Bool.false_ne_true]
  generalize takeNum b T2.2 = T3 at *
  have k4 := takeNum_lo b T3.2
  by_cases hs : 0 ≤ T3.1 ∧ T3.1 ≤ 1
  · simp only [decide_eq_true hs, if_true, if_neg Bool.false_ne_true]
    by_cases h4 : (takeNum b T3.2).2 < 0
    · simp [h4, slotN, finN]
    simp only [if_neg h4]
    generalize takeNum b T3.2 = T4 at *
    rw [if_pos (show T4.2 ≥ 0 by omega)]
    simp [slotN, finN, h4, hs, rd, beq_dec]
  · simp only [decide_eq_false hs, if_neg Bool.false_ne_true, if_true]
    by_cases h4 : (takeNum b T3.2).2 < 0
    · simp [h4, slotN, finN]
    simp only [if_neg h4]
    generalize takeNum b T3.2 = T4 at *
    rw [if_pos (show T4.2 ≥ 0 by omega)]
    simp [slotN, finN, h4, hs, rd]
theorem nums2 (b : List Int) (x0 a : Int) : (if (numsFrom b 2 [] a).2 ≥ 0 then (if 0 < ((numsFrom b 2 [] a).1.length : Int) ∧ 1 < ((numsFrom b 2 [] a).1.length : Int) then some (slotN (numsFrom b 2 [] a).2 0 x0 (⟨#[]⟩ : ByteArray) (rd (numsFrom b 2 [] a).1 0) 0 (rd (numsFrom b 2 [] a).1 1) []) else none) else some (slotN (numsFrom b 2 [] a).2 0 x0 (⟨#[]⟩ : ByteArray) 0 0 0 [])) = some (takeG3 b x0 (nx b a false)) := by
  have k1 := takeNum_lo b a
  simp only [numsFrom, List.nil_append, List.singleton_append, List.cons_append]
  unfold takeG3
  by_cases h1 : (takeNum b a).2 < 0
  · simp [nx, h1, slotN, finN]
  simp only [if_neg h1, nx, if_neg Bool.false_ne_true]
  generalize takeNum b a = T1 at *
  have k2 := takeNum_lo b T1.2
  by_cases h2 : (takeNum b T1.2).2 < 0
  · simp [h2, slotN, finN]
  simp only [if_neg h2]
  generalize takeNum b T1.2 = T2 at *
  rw [if_pos (show T2.2 ≥ 0 by omega)]
  simp [slotN, finN, h2, rd]
theorem nums2s (b : List Int) (x0 a : Int) : (if (numsFrom b 2 [] a).2 ≥ 0 then (if 0 < ((numsFrom b 2 [] a).1.length : Int) ∧ 1 < ((numsFrom b 2 [] a).1.length : Int) then some (slotN (numsFrom b 2 [] a).2 (rd (numsFrom b 2 [] a).1 0) x0 (⟨#[]⟩ : ByteArray) 0 0 (rd (numsFrom b 2 [] a).1 1) []) else none) else some (slotN (numsFrom b 2 [] a).2 0 x0 (⟨#[]⟩ : ByteArray) 0 0 0 [])) = some (takeG6 b x0 (nxSlot b a false)) := by
  have k1 := takeNum_lo b a
  simp only [numsFrom, List.nil_append, List.singleton_append, List.cons_append]
  unfold takeG6
  by_cases h1 : (takeNum b a).2 < 0
  · simp [nx, nxSlot, h1, slotN, finN]
  simp only [if_neg h1, nx, nxSlot, if_neg Bool.false_ne_true]
  generalize takeNum b a = T1 at *
  have k2 := takeNum_lo b T1.2
  by_cases hs : 0 ≤ T1.1 ∧ T1.1 ≤ 1
  · simp only [decide_eq_true hs, if_true, if_neg Bool.false_ne_true]
    by_cases h2 : (takeNum b T1.2).2 < 0
    · simp [h2, slotN, finN]
    simp only [if_neg h2]
    generalize takeNum b T1.2 = T2 at *
    rw [if_pos (show T2.2 ≥ 0 by omega)]
    simp [slotN, finN, h2, hs, rd, beq_dec]
  · simp only [decide_eq_false hs, if_neg Bool.false_ne_true, if_true]
    by_cases h2 : (takeNum b T1.2).2 < 0
    · simp [h2, slotN, finN]
    simp only [if_neg h2]
    generalize takeNum b T1.2 = T2 at *
    rw [if_pos (show T2.2 ≥ 0 by omega)]
    simp [slotN, finN, h2, hs, rd]

theorem ev_impl_TakeNode_j0 (q sl x0 : Int) (x1 : ByteArray) (x2 x3 x4 : Int) (x6 : List Int) (h1 : x1.size ≤ 12) (h6 : x6.length ≤ 300) : Ev (fun k => impl_TakeNode.j0 k q sl x0 x1 x2 x3 x4 false x6) (slotN q sl x0 x1 x2 x3 x4 x6) := by
  apply Ev.step
  · intro k; rw [impl_TakeNode.j0]
  unfold slotN
  refine Ev_ite (fun h => ?_) (fun h => ?_)
  · rw [if_pos h]; exact Ev.now _
  · rw [if_neg h]
    simp only [impl_in_eq, Option.bind_some]
    refine Ev_ite (fun h => ?_) (fun h => ?_)
    · rw [if_pos h]
      refine Ev.bind (ev_impl_NodeOk x0 x1 x2 x3 x4 (sl == 1) x6 (by omega) (by omega)) ?_
      refine Ev_ite (fun h2 => ?_) (fun h2 => ?_)
      · rw [if_pos h2]; exact Ev.now _
      · rw [if_neg h2]; exact Ev.now _
    · rw [if_neg h]; exact Ev.now _
theorem ev_impl_TakeNode (b : List Int) (hb : Bytes b) (hl : b.length ≤ 1048576) (p : Int) (hp : p ≤ 9223372036854775807) : Ev (fun k => impl_TakeNode.f k b p) (takeNode b p) := by
  have hn := takeNum_lo b p
  have he : (⟨#[]⟩ : ByteArray).size ≤ 12 := by rw [emptyB_eq]; omega
  simp only [impl_TakeNode.f]
  refine Ev.bind (ev_impl_TakeNum b hb hl p hp) ?_
  unfold takeNode
  refine Ev_ite (fun h => ?_) (fun h => ?_)
  · rw [if_pos h]; exact Ev.now _
  rw [if_neg h]
  unfold takeG
  generalize (takeNum b p).1 = x0 at *
  have ha : 0 ≤ (takeNum b p).2 ∧ (takeNum b p).2 ≤ b.length := by omega
  clear hn h
  generalize (takeNum b p).2 = a at *
  refine Ev_ite (fun h => ?_) (fun h => ?_)
  · rw [if_pos h]
    refine Ev.bind (ev_impl_TakeWord b hb hl a (by omega)) ?_
    refine Ev.eq (ev_impl_TakeNode_j0 (takeWord b a).2 0 x0 (takeWord b a).1 0 0 0 [] (takeWord_fit b a).2 (by simp)) ?_
    rw [slotN_0]
  rw [if_neg h]
  refine Ev_ite (fun h => ?_) (fun h => ?_)
  · rw [if_pos h]
    have h4 := nums4 b x0 a
    refine Ev.bind (ev_impl_takeAll b hb hl a (by omega) 4 (by omega)) ?_
    generalize numsFrom b 4 [] a = r at h4 ⊢
    by_cases c : r.2 ≥ 0
    · rw [if_pos c] at h4
      simp only [if_pos c]
      by_cases c2 : 0 < (r.1.length : Int) ∧ 1 < (r.1.length : Int) ∧ 2 < (r.1.length : Int) ∧ 3 < (r.1.length : Int)
      · rw [if_pos c2] at h4
        simp only [if_pos c2.1, if_pos c2.2.1, if_pos c2.2.2.1, if_pos c2.2.2.2]
        exact Ev.eq (ev_impl_TakeNode_j0 _ _ _ _ _ _ _ _ he (by simp)) (Option.some.inj h4)
      · rw [if_neg c2] at h4; cases h4
    · rw [if_neg c] at h4
      simp only [if_neg c]
      exact Ev.eq (ev_impl_TakeNode_j0 _ _ _ _ _ _ _ _ he (by simp)) (Option.some.inj h4)
  rw [if_neg h]
  refine Ev_ite (fun h => ?_) (fun h => ?_)
  · rw [if_pos h]
    refine Ev.bind (ev_impl_TakeNums b hb hl a (by omega)) ?_
    refine Ev.eq (ev_impl_TakeNode_j0 (takeNums b a).2 0 x0 (⟨#[]⟩ : ByteArray) 0 0 0 (takeNums b a).1 he (takeNums_len b a)) ?_
    rw [slotN_0]
  rw [if_neg h]
  refine Ev_ite (fun h => ?_) (fun h => ?_)
  · rw [if_pos h]
    have h4 := nums2 b x0 a
    refine Ev.bind (ev_impl_takeAll b hb hl a (by omega) 2 (by omega)) ?_
    generalize numsFrom b 2 [] a = r at h4 ⊢
    by_cases c : r.2 ≥ 0
    · rw [if_pos c] at h4
      simp only [if_pos c]
      by_cases c2 : 0 < (r.1.length : Int) ∧ 1 < (r.1.length : Int)
      · rw [if_pos c2] at h4
        simp only [if_pos c2.1, if_pos c2.2]
        exact Ev.eq (ev_impl_TakeNode_j0 _ _ _ _ _ _ _ _ he (by simp)) (Option.some.inj h4)
      · rw [if_neg c2] at h4; cases h4
    · rw [if_neg c] at h4
      simp only [if_neg c]
      exact Ev.eq (ev_impl_TakeNode_j0 _ _ _ _ _ _ _ _ he (by simp)) (Option.some.inj h4)
  rw [if_neg h]
  refine Ev_ite (fun h => ?_) (fun h => ?_)
  · rw [if_pos h]
    refine Ev.bind (ev_impl_TakeNum b hb hl a (by omega)) ?_
    refine Ev.eq (ev_impl_TakeNode_j0 (takeNum b a).2 0 x0 (⟨#[]⟩ : ByteArray) (takeNum b a).1 0 0 [] he (by simp)) ?_
    rw [slotN_0]
    unfold takeG5 nx
    rw [if_neg Bool.false_ne_true]
    by_cases c : (takeNum b a).2 < 0
    · simp only [if_pos c, finN, if_true]
    · simp only [if_neg c]
  rw [if_neg h]
  refine Ev_ite (fun h => ?_) (fun h => ?_)
  · rw [if_pos h]
    have h4 := nums2s b x0 a
    refine Ev.bind (ev_impl_takeAll b hb hl a (by omega) 2 (by omega)) ?_
    generalize numsFrom b 2 [] a = r at h4 ⊢
    by_cases c : r.2 ≥ 0
    · rw [if_pos c] at h4
      simp only [if_pos c]
      by_cases c2 : 0 < (r.1.length : Int) ∧ 1 < (r.1.length : Int)
      · rw [if_pos c2] at h4
        simp only [if_pos c2.1, if_pos c2.2]
        exact Ev.eq (ev_impl_TakeNode_j0 _ _ _ _ _ _ _ _ he (by simp)) (Option.some.inj h4)
      · rw [if_neg c2] at h4; cases h4
    · rw [if_neg c] at h4
      simp only [if_neg c]
      exact Ev.eq (ev_impl_TakeNode_j0 _ _ _ _ _ _ _ _ he (by simp)) (Option.some.inj h4)
  rw [if_neg h]
  refine Ev.eq (ev_impl_TakeNode_j0 a 0 x0 (⟨#[]⟩ : ByteArray) 0 0 0 [] he (by simp)) ?_
  rw [slotN_0, if_neg (by omega)]

theorem ev_eqByteS_l0 (x0 : List Int) (hl : x0.length ≤ 1099511627776) : ∀ (d : Nat) (i : Nat), i + d = x0.length → Ev (fun k => laws_eqByteS.l0 k x0 x0 i) true := by
  intro d
  induction d with
  | zero =>
    intro i h2
    apply Ev.step
    · intro k; rw [laws_eqByteS.l0]
    simp only [if_neg (show ¬ ((i : Int) < x0.length) by omega)]
    exact Ev.now _
  | succ d ih =>
    intro i h2
    apply Ev.step
    · intro k; rw [laws_eqByteS.l0]
    simp only [if_pos (show (i : Int) < x0.length by omega), if_pos (show (0 : Int) ≤ i by omega), if_true, w64 (x := (i : Int) + 1) (by omega)]
    have := ih (i + 1) (by omega)
    simpa using this
theorem ev_eqByteS (l : List Int) (h : l.length ≤ 1099511627776) : Ev (fun k => laws_eqByteS.f k l l) true := by
  simp only [laws_eqByteS.f, if_true]
  exact ev_eqByteS_l0 l h l.length 0 (by omega)

theorem ev_eqIntS_l0 (x0 : List Int) (hl : x0.length ≤ 1099511627776) : ∀ (d : Nat) (i : Nat), i + d = x0.length → Ev (fun k => laws_eqIntS.l0 k x0 x0 i) true := by
  intro d
  induction d with
  | zero =>
    intro i h2
    apply Ev.step
    · intro k; rw [laws_eqIntS.l0]
    simp only [if_neg (show ¬ ((i : Int) < x0.length) by omega)]
    exact Ev.now _
  | succ d ih =>
    intro i h2
    apply Ev.step
    · intro k; rw [laws_eqIntS.l0]
    simp only [if_pos (show (i : Int) < x0.length by omega), if_pos (show (0 : Int) ≤ i by omega), if_true, w64 (x := (i : Int) + 1) (by omega)]
    have := ih (i + 1) (by omega)
    simpa using this
theorem ev_eqIntS (l : List Int) (h : l.length ≤ 1099511627776) : Ev (fun k => laws_eqIntS.f k l l) true := by
  simp only [laws_eqIntS.f, if_true]
  exact ev_eqIntS_l0 l h l.length 0 (by omega)


theorem ev_markIntS_l0 (a : Int) (n : Nat) (hn : n ≤ 1099511627776) (ha : 0 ≤ a ∧ a ≤ 1125899906842624) : ∀ (d : Nat) (x0 : List Int) (i : Nat), x0.length = n → i + d = n → (∀ j : Nat, j < i → rd x0 j = a + j) →
    ∃ L : List Int, L.length = n ∧ (∀ j : Nat, j < n → rd L j = a + j) ∧ Ev (fun k => laws_markIntS.l0 k x0 (a + i) i) (a + n, L) := by
  intro d
  induction d with
  | zero =>
    intro x0 i h1 h2 h3
    refine ⟨x0, h1, fun j hj => h3 j (by omega), ?_⟩
    apply Ev.step
    · intro k; rw [laws_markIntS.l0]
    obtain rfl : i = n := by omega
    simp only [if_neg (show ¬ ((i : Int) < x0.length) by omega)]
    exact Ev.now _
  | succ d ih =>
    intro x0 i h1 h2 h3
    obtain ⟨L, hL, hj, he⟩ := ih (x0.set i (a + i)) (i + 1) (by simp [h1]) (by omega) (by
      intro j hj
      by_cases e : j = i
      · subst e; rw [rd_set_self _ _ _ (by omega)]
      · rw [rd_set_ne _ _ _ _ (Ne.symm e)]; exact h3 j (by omega))
    refine ⟨L, hL, hj, ?_⟩
    apply Ev.step
    · intro k; rw [laws_markIntS.l0]
    simp only [if_pos (show (i : Int) < x0.length by omega), if_pos (show (0 : Int) ≤ i by omega), w64 (x := (i : Int) + 1) (by omega), w64 (x := a + (i : Int) + 1) (by omega)]
    simpa [Int.add_assoc] using he
theorem ev_markIntS (l : List Int) (a : Int) (hn : l.length ≤ 1099511627776) (ha : 0 ≤ a ∧ a ≤ 1125899906842624) :
    ∃ L : List Int, L.length = l.length ∧ (∀ j : Nat, j < l.length → rd L j = a + j) ∧ Ev (fun k => laws_markIntS.f k l a) (a + l.length, L) := by
  obtain ⟨L, h1, h2, h3⟩ := ev_markIntS_l0 a l.length hn ha l.length l 0 rfl (by omega) (by intro j hj; omega)
  exact ⟨L, h1, h2, by simpa [laws_markIntS.f] using h3⟩

theorem ev_heldIntS_l0 (a : Int) (ha : 0 ≤ a ∧ a ≤ 1125899906842624) (x0 : List Int) (hn : x0.length ≤ 1099511627776) (hj : ∀ j : Nat, j < x0.length → rd x0 j = a + j) : ∀ (d : Nat) (i : Nat), i + d = x0.length → Ev (fun k => laws_heldIntS.l0 k x0 (a + i) i) (a + x0.length) := by
  intro d
  induction d with
  | zero =>
    intro i h2
    apply Ev.step
    · intro k; rw [laws_heldIntS.l0]
    obtain rfl : i = x0.length := by omega
    simp only [if_neg (show ¬ ((x0.length : Int) < x0.length) by omega)]
    exact Ev.now _
  | succ d ih =>
    intro i h2
    apply Ev.step
    · intro k; rw [laws_heldIntS.l0]
    simp only [if_pos (show (i : Int) < x0.length by omega), if_pos (show (0 : Int) ≤ i by omega), if_pos (hj i (by omega)), w64 (x := (i : Int) + 1) (by omega), w64 (x := a + (i : Int) + 1) (by omega)]
    have := ih (i + 1) (by omega)
    simpa [Int.add_assoc] using this
theorem ev_heldIntS (L : List Int) (a : Int) (hn : L.length ≤ 1099511627776) (ha : 0 ≤ a ∧ a ≤ 1125899906842624) (hj : ∀ j : Nat, j < L.length → rd L j = a + j) : Ev (fun k => laws_heldIntS.f k L a) (a + L.length) := by
  have := ev_heldIntS_l0 a ha L hn hj L.length 0 (by omega)
  simpa [laws_heldIntS.f] using this
/-- What was marked is held. -/
theorem ev_intS (l : List Int) (a : Int) (hn : l.length ≤ 1099511627776) (ha : 0 ≤ a ∧ a ≤ 1125899906842624) : ∃ L : List Int, L.length = l.length ∧ Ev (fun k => laws_markIntS.f k l a) (a + l.length, L) ∧ Ev (fun k => laws_heldIntS.f k L a) (a + l.length) := by
  obtain ⟨L, h1, h2, h3⟩ := ev_markIntS l a hn ha
  exact ⟨L, h1, h3, by have := ev_heldIntS L a (by omega) ha (by rw [h1]; exact h2); rwa [h1] at this⟩

theorem ev_markByteS_l0 (a : Int) (n : Nat) (hn : n ≤ 1099511627776) (ha : 0 ≤ a ∧ a ≤ 1125899906842624) : ∀ (d : Nat) (x0 : List Int) (i : Nat), x0.length = n → i + d = n → (∀ j : Nat, j < i → rd x0 j = (a + j) % 256) →
    ∃ L : List Int, L.length = n ∧ (∀ j : Nat, j < n → rd L j = (a + j) % 256) ∧ Ev (fun k => laws_markByteS.l0 k x0 (a + i) i) (a + n, L) := by
  intro d
  induction d with
  | zero =>
    intro x0 i h1 h2 h3
    refine ⟨x0, h1, fun j hj => h3 j (by omega), ?_⟩
    apply Ev.step
    · intro k; rw [laws_markByteS.l0]
    obtain rfl : i = n := by omega
    simp only [if_neg (show ¬ ((i : Int) < x0.length) by omega)]
    exact Ev.now _
  | succ d ih =>
    intro x0 i h1 h2 h3
    obtain ⟨L, hL, hj, he⟩ := ih (x0.set i ((a + i) % 256)) (i + 1) (by simp [h1]) (by omega) (by
      intro j hj
      by_cases e : j = i
      · subst e; rw [rd_set_self _ _ _ (by omega)]
      · rw [rd_set_ne _ _ _ _ (Ne.symm e)]; exact h3 j (by omega))
    refine ⟨L, hL, hj, ?_⟩
    apply Ev.step
    · intro k; rw [laws_markByteS.l0]
    simp only [if_pos (show (i : Int) < x0.length by omega), if_pos (show (0 : Int) ≤ i by omega), w64 (x := (i : Int) + 1) (by omega), w64 (x := a + (i : Int) + 1) (by omega)]
    simpa [Int.add_assoc] using he
theorem ev_markByteS (l : List Int) (a : Int) (hn : l.length ≤ 1099511627776) (ha : 0 ≤ a ∧ a ≤ 1125899906842624) :
    ∃ L : List Int, L.length = l.length ∧ (∀ j : Nat, j < l.length → rd L j = (a + j) % 256) ∧ Ev (fun k => laws_markByteS.f k l a) (a + l.length, L) := by
  obtain ⟨L, h1, h2, h3⟩ := ev_markByteS_l0 a l.length hn ha l.length l 0 rfl (by omega) (by intro j hj; omega)
  exact ⟨L, h1, h2, by simpa [laws_markByteS.f] using h3⟩

theorem ev_markNode (kind : Int) (name : ByteArray) (col op num : Int) (slot : Bool) (cols : List Int) (a : Int) (hl : cols.length ≤ 1099511627776) (ha : 0 ≤ a ∧ a ≤ 1099511627776) :
    ∃ L : List Int, Ev (fun k => laws_markNode.f k kind name col op num slot cols a) (a + cols.length, L) := by
  obtain ⟨L, _, _, he⟩ := ev_markIntS cols a hl (by omega)
  refine ⟨L, ?_⟩
  simp only [laws_markNode.f]
  exact Ev.bind he (Ev.now _)

theorem ev_toByteS_l0 (x0 : List Int) (hl : x0.length ≤ 1048576) : ∀ (d : Nat) (x3 : List Int) (i : Nat), x3.length = x0.length → i + d = x0.length → x3.take i = x0.take i → Ev (fun k => laws_toByteS.l0 k x0 x3 i) x0 := by
  intro d
  induction d with
  | zero =>
    intro x3 i h1 h2 h3
    apply Ev.step
    · intro k; rw [laws_toByteS.l0]
    simp only [if_neg (show ¬ ((i : Int) < x0.length) by omega)]
    rw [take_eq_all h1 (by omega) h3]
    exact Ev.now _
  | succ d ih =>
    intro x3 i h1 h2 h3
    apply Ev.step
    · intro k; rw [laws_toByteS.l0]
    simp only [if_pos (show (i : Int) < x0.length by omega), if_pos (show (0 : Int) ≤ i by omega), if_pos (show (i : Int) < x3.length by omega), w64 (x := (i : Int) + 1) (by omega)]
    have := ih (x3.set i (rd x0 i)) (i + 1) (by simp [h1]) (by omega) (take_set_at _ _ _ _ h1 (by omega) (rd_get _ _ (by omega)) h3)
    simpa using this
theorem ev_toByteS (l : List Int) (h : l.length ≤ 1048576) : Ev (fun k => laws_toByteS.f k l) l := by
  simp only [laws_toByteS.f, if_pos (show (0 : Int) ≤ l.length by omega), if_pos (show (l.length : Int).toNat ≤ 281474976710656 by omega)]
  exact ev_toByteS_l0 l h l.length _ 0 (by simp) (by omega) (by simp)

theorem spec_l01In_eq (a b c : Int) : spec_l01In.f a b c = some (decide (b ≤ a ∧ a ≤ c)) := by
  unfold spec_l01In.f
  by_cases h : b ≤ a
  · rw [if_pos h]; simp [h]
  · rw [if_neg h]; simp [h]

theorem ev_spec_WordOk_l0 (s : ByteArray) (hs : s.size ≤ 1099511627776) : ∀ (d i : Nat), i + d = s.size → (i = 0 → 97 ≤ bt s 0) → Ev (fun k => spec_WordOk.l0 k s i) (wordFrom s d i) := by
  intro d
  induction d with
  | zero =>
    intro i h _
    apply Ev.step
    · intro k; rw [spec_WordOk.l0]
    simp only [if_neg (show ¬ ((i : Int) < s.size) by omega)]
    exact Ev.now _
  | succ d ih =>
    intro i h h0
    have ih' := ih (i + 1) (by omega) (by omega)
    apply Ev.step
    · intro k; rw [spec_WordOk.l0]
    simp only [if_pos (show (i : Int) < s.size by omega), if_pos (show (0 : Int) ≤ i by omega), w64 (x := (i : Int) + 1) (by omega), wordFrom]
    have hi : i = 0 → 97 ≤ bt s i := by intro e; subst e; exact h0 rfl
    by_cases h1 : bt s i < 97
    · simp only [if_pos h1]
      have hp : 0 < i := by rcases Nat.eq_zero_or_pos i with e | e; · have := hi e; omega
                            · exact e
      by_cases h2 : bt s i < 48
      · simp only [if_pos h2, show okAt s i = false by simp [okAt]; omega, Bool.false_and]; exact Ev.now _
      · by_cases h3 : bt s i > 57
        · simp only [if_neg h2, if_pos h3, show okAt s i = false by simp [okAt]; omega, Bool.false_and]; exact Ev.now _
        · simp only [if_neg h2, if_neg h3, show okAt s i = true by simp [okAt]; omega, Bool.true_and]; exact ih'
    · simp only [if_neg h1]
      by_cases h2 : bt s i > 122
      · simp only [if_pos h2, if_neg (show ¬ bt s i < 48 by omega), if_pos (show bt s i > 57 by omega), show okAt s i = false by simp [okAt]; omega, Bool.false_and]; exact Ev.now _
      · simp only [if_neg h2, show okAt s i = true by simp [okAt]; omega, Bool.true_and]; exact ih'
theorem ev_spec_WordOk (s : ByteArray) (hs : s.size ≤ 1099511627776) : Ev (fun k => spec_WordOk.f k s) (wordOk s) := by
  simp only [spec_WordOk.f, spec_l01In_eq, Option.bind_some, decide_eq_true_eq, wordOk]
  by_cases h : 1 ≤ s.size ∧ s.size ≤ 12
  · simp only [if_pos (show 1 ≤ (s.size : Int) ∧ (s.size : Int) ≤ 12 by omega), if_pos (show (0 : Int) < s.size by omega), decide_eq_true h, Bool.true_and]
    apply Ev.step
    · intro k; rw [spec_WordOk.j0]
    simp only [decide_eq_true_eq]
    by_cases h1 : bt s 0 < 97
    · simp only [if_pos h1]
      obtain ⟨d, hd⟩ : ∃ d, s.size = d + 1 := ⟨s.size - 1, by omega⟩
      rw [hd, wordFrom, show okAt s 0 = false by simp [okAt]; omega, Bool.false_and]
      exact Ev.now _
    · simp only [if_neg h1]
      exact ev_spec_WordOk_l0 s hs s.size 0 (by omega) (by omega)
  · simp only [if_neg (show ¬ (1 ≤ (s.size : Int) ∧ (s.size : Int) ≤ 12) by omega), decide_eq_false h, Bool.false_and]
    apply Ev.step
    · intro k; rw [spec_WordOk.j0]
    simp only [if_true]
    exact Ev.now _

theorem spec_l01Number_eq (a : Int) : spec_l01Number.f a = some (isNumB a) := by
  unfold spec_l01Number.f; rw [spec_l01In_eq]; rfl

theorem spec_l02Col_eq (a : Int) : spec_l02Col.f a = some (colB a) := by
  unfold spec_l02Col.f; rw [spec_l01In_eq]; rfl

theorem ev_spec_NodeOk_l0 (kind : Int) (name : ByteArray) (col op num : Int) (slot : Bool) (cols : List Int) (hl : cols.length ≤ 1099511627776) : ∀ (d i : Nat), i + d = cols.length → Ev (fun k => spec_NodeOk.l0 k i kind name col op num slot cols) ((cols.drop i).all colB && decide (1 ≤ cols.length ∧ cols.length ≤ 6) && decide (col = 0 ∧ num = 0 ∧ slot = false)) := by
  intro d
  induction d with
  | zero =>
    intro i h
    apply Ev.step
    · intro k; rw [spec_NodeOk.l0]
    simp only [if_neg (show ¬ ((i : Int) < cols.length) by omega), spec_l01In_eq, Option.bind_some, drop_nil' (show cols.length ≤ i by omega), List.all_nil, Bool.true_and]
    by_cases h1 : 1 ≤ cols.length ∧ cols.length ≤ 6
    · simp only [decide_eq_true (show 1 ≤ (cols.length : Int) ∧ (cols.length : Int) ≤ 6 by omega), if_true, decide_eq_true h1, Bool.true_and]
      by_cases h2 : col = 0
      · by_cases h3 : num = 0
        · simp only [if_pos h2, if_pos h3]; exact Ev.const (by simp [h2, h3])
        · simp only [if_pos h2, if_neg h3]; exact Ev.const (by simp [h3])
      · simp only [if_neg h2]; exact Ev.const (by simp [h2])
    · simp only [decide_eq_false (show ¬ (1 ≤ (cols.length : Int) ∧ (cols.length : Int) ≤ 6) by omega), if_neg Bool.false_ne_true, decide_eq_false h1, Bool.false_and]
      exact Ev.now _
  | succ d ih =>
    intro i h
    have ih' := ih (i + 1) (by omega)
    rw [drop_rd cols i (by omega)]
    apply Ev.step
    · intro k; rw [spec_NodeOk.l0]
    simp only [if_pos (show (i : Int) < cols.length by omega), if_pos (show (0 : Int) ≤ i by omega), spec_l02Col_eq, Option.bind_some, w64 (x := (i : Int) + 1) (by omega), List.all_cons]
    by_cases h1 : colB (rd cols i) = true
    · simp only [h1, if_true, Bool.true_and]; simpa using ih'
    · simp only [if_neg h1, Bool.eq_false_iff.mpr h1, Bool.false_and]; exact Ev.now _
theorem ev_spec_NodeOk (kind : Int) (name : ByteArray) (col op num : Int) (slot : Bool) (cols : List Int) (hl : cols.length ≤ 1099511627776) (hn : name.size ≤ 1099511627776) : Ev (fun k => spec_NodeOk.f k kind name col op num slot cols) (nodeOk kind name col op num slot cols) := by
  have main : ∀ b, b = nodePre kind name op num slot cols → Ev (fun k => spec_NodeOk.j0 k b kind name col op num slot cols) (nodeOk kind name col op num slot cols) := by
    intro b hb
    unfold nodeOk
    rw [← hb]
    cases b with
    | true =>
      apply Ev.step
      · intro k; rw [spec_NodeOk.j0]
      exact Ev.now _
    | false =>
      apply Ev.step
      · intro k; rw [spec_NodeOk.j0]
      simp only [if_neg Bool.false_ne_true, Bool.not_false, Bool.true_and]
      unfold nodeKind
      refine Ev_ite (fun h0 => ?_) (fun h0 => ?_)
      · rw [if_pos h0]
        refine Ev.bind (ev_spec_WordOk name hn) ?_
        refine Ev_ite (fun h1 => ?_) (fun h1 => ?_)
        · rw [h1, Bool.true_and]
          refine Ev_ite (fun h2 => Ev_ite (fun h3 => ?_) (fun h3 => ?_)) (fun h2 => ?_)
          · exact Ev.const (by simp [h2, h3])
          · exact Ev.const (by simp [h3])
          · exact Ev.const (by simp [h2])
        · rw [Bool.eq_false_iff.mpr h1]; exact Ev.now _
      rw [if_neg h0]
      refine Ev_ite (fun h1 => ?_) (fun h1 => ?_)
      · rw [if_pos h1]
        simp only [spec_l02Col_eq, spec_l01In_eq, spec_l01Number_eq, Option.bind_some]
        refine Ev_ite (fun h2 => ?_) (fun h2 => Ev.const (by simp [Bool.eq_false_iff.mpr h2]))
        refine Ev_ite (fun h3 => ?_) (fun h3 => Ev.const (by simp [Bool.eq_false_iff.mpr h3]))
        refine Ev_ite (fun h4 => ?_) (fun h4 => Ev.const (by simp [Bool.eq_false_iff.mpr h4]))
        rw [h2, h3, h4]
        refine Ev_ite (fun h5 => Ev_ite (fun h6 => ?_) (fun h6 => ?_)) (fun h5 => ?_)
        · exact Ev.const (by simp [h5, h6])
        · exact Ev.const (by simp [h5, h6])
        · exact Ev.const (by simp [h5])
      rw [if_neg h1]
      refine Ev_ite (fun h2 => ?_) (fun h2 => ?_)
      · rw [if_pos h2]
        simpa using ev_spec_NodeOk_l0 kind name col op num slot cols hl cols.length 0 (by omega)
      rw [if_neg h2]
      simp only [spec_l02Col_eq, spec_l01In_eq, Option.bind_some]
      refine Ev_ite (fun h3 => ?_) (fun h3 => ?_)
      · rw [if_pos h3]
        refine Ev_ite (fun h4 => Ev_ite (fun h5 => ?_) (fun h5 => ?_)) (fun h4 => ?_)
        · exact Ev.const (by simp [h4, h5])
        · exact Ev.const (by simp [Bool.eq_false_iff.mpr h5])
        · exact Ev.const (by simp [Bool.eq_false_iff.mpr h4])
      rw [if_neg h3]
      refine Ev_ite (fun h4 => ?_) (fun h4 => ?_)
      · rw [if_pos h4]
        refine Ev_ite (fun h5 => Ev_ite (fun h6 => ?_) (fun h6 => ?_)) (fun h5 => ?_)
        · exact Ev.const (by simp [h5, h6])
        · exact Ev.const (by simp [h6])
        · exact Ev.const (by simp [Bool.eq_false_iff.mpr h5])
      rw [if_neg h4]
      refine Ev_ite (fun h5 => ?_) (fun h5 => ?_)
      · rw [if_pos h5]
        refine Ev_ite (fun h6 => ?_) (fun h6 => ?_)
        · exact Ev.const (by simp [h6])
        · exact Ev.const (by simp [h6])
      rw [if_neg h5]
      refine Ev_ite (fun h6 => ?_) (fun h6 => Ev_ite (fun h7 => ?_) (fun h7 => ?_))
      · rw [if_pos (Or.inl h6)]
        refine Ev_ite (fun h7 => Ev_ite (fun h8 => ?_) (fun h8 => ?_)) (fun h7 => ?_)
        · exact Ev.const (by simp [h7, h8])
        · exact Ev.const (by simp [h8])
        · exact Ev.const (by simp [h7])
      · rw [if_pos (Or.inr h7)]
        refine Ev_ite (fun h7 => Ev_ite (fun h8 => ?_) (fun h8 => ?_)) (fun h7 => ?_)
        · exact Ev.const (by simp [h7, h8])
        · exact Ev.const (by simp [h8])
        · exact Ev.const (by simp [h7])
      · rw [if_neg (by intro h; rcases h with h | h; exact h6 h; exact h7 h)]
        exact Ev.now _
  have hlen : ((cols.length : Int) > 0) ↔ cols ≠ [] := by
    cases cols with
    | nil => simp
    | cons => simp
  have e39 : decide (0 ≤ num ∧ num ≤ 39) = slotB num := rfl
  simp only [spec_NodeOk.f, spec_l01In_eq, Option.bind_some, e39]
  repeat' (refine Ev_ite (fun _ => ?_) (fun _ => ?_))
  all_goals first
    | (exfalso; omega)
    | (refine main _ ?_
       unfold nodePre
       cases hsl : slotB num <;> simp_all)

theorem spec_fin (b : List Int) (hb : Bytes b) (hl : b.length ≤ 1048576) (p i u : Int) (n : Nat) (hp : 0 ≤ p) (hi : i = n) (hn : n ≤ 3) (hlt : p + i < b.length) (hu : 0 ≤ u ∧ u ≤ 2097152) (hv : rd b (p + i) < 128) :
    Ev (fun k => spec_TakeNum.j1 k b p u i false) (takeFin (u + rd b (p + i) * 2 ^ (7 * n)) (rd b (p + i)) i p) := by
  have hr := Bytes_rd hb (p + i)
  have e1 : wrap64 (p + i) = p + i := w64 (by omega)
  have e2 : IntKind.u64.wrap (wrap64 (7 * i)) = ((7 * n : Nat) : Int) := by rw [w64 (by omega), u64_small (by omega)]; omega
  have hpow : (2 : Int) ^ (7 * n) ≤ 2097152 ∧ 1 ≤ (2 : Int) ^ (7 * n) := by
    rcases (by omega : n = 0 ∨ n = 1 ∨ n = 2 ∨ n = 3) with e | e | e | e <;> subst e <;> decide
  have hm : 0 ≤ rd b (p + i) * 2 ^ (7 * n) ∧ rd b (p + i) * 2 ^ (7 * n) ≤ 266338304 := by
    rcases (by omega : n = 0 ∨ n = 1 ∨ n = 2 ∨ n = 3) with e | e | e | e <;> subst e <;> simp <;> omega
  have e3 : shl .i64 (rd b (p + i)) ((7 * n : Nat) : Int) = rd b (p + i) * 2 ^ (7 * n) := shl_i64 _ _ (7 * n) rfl (by omega) (by omega)
  generalize hm0 : rd b (p + i) * 2 ^ (7 * n) = m at *
  have e4 : wrap64 (rd b (p + i)) = rd b (p + i) := w64 (by omega)
  have e5 : Int.tmod (rd b (p + i)) 128 = rd b (p + i) := by rw [tmod_nn (by omega)]; omega
  apply Ev.step
  · intro k; rw [spec_TakeNum.j1]
  simp only [e1, e2, e4, e5, e3, if_pos (show (0 : Int) ≤ p + i by omega), if_pos hlt, if_pos (show (0 : Int) ≤ ((7 * n : Nat) : Int) by omega), if_neg (show ¬ rd b (p + i) ≥ 128 by omega), w64 (x := u + m) (by omega), tmod_nn (show 0 ≤ u + m by omega), spec_l01Number_eq, Option.bind_some, w64 (x := u + m + 1) (by omega), w64 (x := -(u + m + 1)) (by omega), tdiv_neg' (show 0 ≤ u + m + 1 by omega), tdiv_nn (show 0 ≤ u + m by omega), w64 (x := -((u + m + 1) / 2)) (by omega), w64 (x := (u + m) / 2) (by omega), w64 (x := p + i + 1) (by omega)]
  refine Ev.const ?_
  unfold takeFin
  by_cases h1 : (u + m) % 2 = 1
  · simp only [h1, if_true]
    by_cases h2 : rd b (p + i) = 0
    · by_cases h3 : 0 < i
      · simp [h2, h3]
      · simp [h2, h3]; split <;> simp_all
    · simp [h2]; split <;> simp_all
  · simp only [h1, if_false]
    by_cases h2 : rd b (p + i) = 0
    · by_cases h3 : 0 < i
      · simp [h2, h3]
      · simp [h2, h3]; split <;> simp_all
    · simp [h2]; split <;> simp_all
theorem spec_cont (b : List Int) (hb : Bytes b) (hl : b.length ≤ 1048576) (p i u : Int) (n : Nat) (r : Int × Int) (hp : 0 ≤ p) (hi : i = n) (hn : n ≤ 3) (hlt : p + i < b.length) (hu : 0 ≤ u ∧ u ≤ 2097152) (hv : ¬ rd b (p + i) < 128)
    (h : Ev (fun k => spec_TakeNum.l0 k b p (u + rd b (p + i) % 128 * 2 ^ (7 * n)) (i + 1)) r) :
    Ev (fun k => spec_TakeNum.j1 k b p u i false) r := by
  have hr := Bytes_rd hb (p + i)
  have e1 : wrap64 (p + i) = p + i := w64 (by omega)
  have e2 : IntKind.u64.wrap (wrap64 (7 * i)) = ((7 * n : Nat) : Int) := by rw [w64 (by omega), u64_small (by omega)]; omega
  have hm : 0 ≤ rd b (p + i) % 128 * 2 ^ (7 * n) ∧ rd b (p + i) % 128 * 2 ^ (7 * n) ≤ 266338304 := by
    rcases (by omega : n = 0 ∨ n = 1 ∨ n = 2 ∨ n = 3) with e | e | e | e <;> subst e <;> simp <;> omega
  have e3 : shl .i64 (rd b (p + i) % 128) ((7 * n : Nat) : Int) = rd b (p + i) % 128 * 2 ^ (7 * n) := shl_i64 _ _ (7 * n) rfl (by omega) (by omega)
  generalize hm0 : rd b (p + i) % 128 * 2 ^ (7 * n) = m at *
  have e4 : wrap64 (rd b (p + i)) = rd b (p + i) := w64 (by omega)
  have e5 : Int.tmod (rd b (p + i)) 128 = rd b (p + i) % 128 := tmod_nn (by omega)
  apply Ev.step
  · intro k; rw [spec_TakeNum.j1]
  simp only [e1, e2, e4, e5, e3, if_pos (show (0 : Int) ≤ p + i by omega), if_pos hlt, if_pos (show (0 : Int) ≤ ((7 * n : Nat) : Int) by omega), if_pos (show rd b (p + i) ≥ 128 by omega), w64 (x := u + m) (by omega), w64 (x := i + 1) (by omega)]
  exact h
theorem spec_head (b : List Int) (hl : b.length ≤ 1048576) (p i u : Int) (r : Int × Int) (hi : 0 ≤ i ∧ i < 4) (hr : p < 0 ∨ (b.length : Int) ≤ p + i → r = (0, -1))
    (h : ¬ (p < 0 ∨ (b.length : Int) ≤ p + i) → Ev (fun k => spec_TakeNum.j1 k b p u i false) r) : Ev (fun k => spec_TakeNum.l0 k b p u i) r := by
  apply Ev.step
  · intro k; rw [spec_TakeNum.l0]
  simp only [if_pos hi.2, w64 (x := (b.length : Int) - i) (by omega)]
  by_cases h0 : p < 0
  · simp only [if_pos h0]
    rw [hr (Or.inl h0)]
    apply Ev.step
    · intro k; rw [spec_TakeNum.j1]
    exact Ev.now _
  · simp only [if_neg h0]
    by_cases h1 : (b.length : Int) ≤ p + i
    · rw [hr (Or.inr h1)]
      apply Ev.step
      · intro k; rw [spec_TakeNum.j1]
      simp only [decide_eq_true (show p ≥ (b.length : Int) - i by omega), if_true]
      exact Ev.now _
    · simp only [decide_eq_false (show ¬ p ≥ (b.length : Int) - i by omega)]
      exact h (by omega)
theorem ev_spec_TakeNum (b : List Int) (hb : Bytes b) (hl : b.length ≤ 1048576) (p : Int) : Ev (fun k => spec_TakeNum.f k b p) (takeNum b p) := by
  have r0 := Bytes_rd hb p
  have r1 := Bytes_rd hb (p + 1)
  have r2 := Bytes_rd hb (p + 2)
  have r3 := Bytes_rd hb (p + 3)
  simp only [spec_TakeNum.f]
  refine spec_head b hl p 0 0 _ (by omega) (fun h => ?_) (fun h => ?_)
  · unfold takeNum; rw [if_pos (by omega)]
  have hg : ¬ (p < 0 ∨ (b.length : Int) ≤ p) := by omega
  rw [takeNum, if_neg hg]
  by_cases h0 : rd b p < 128
  · rw [if_pos h0]
    have := spec_fin b hb hl p 0 0 0 (by omega) rfl (by omega) (by omega) (by omega) (by simpa using h0)
    simpa using this
  rw [if_neg h0]
  refine spec_cont b hb hl p 0 0 0 _ (by omega) rfl (by omega) (by omega) (by omega) (by simpa using h0) ?_
  simp only [Int.add_zero, Int.zero_add, Nat.mul_zero, Int.pow_zero, Int.mul_one]
  refine spec_head b hl p 1 _ _ (by omega) (fun h => ?_) (fun h => ?_)
  · rw [if_pos (by omega)]
  rw [if_neg (by omega)]
  by_cases h1 : rd b (p + 1) < 128
  · rw [if_pos h1]
    have := spec_fin b hb hl p 1 (rd b p % 128) 1 (by omega) rfl (by omega) (by omega) (by omega) h1
    simpa using this
  rw [if_neg h1]
  refine spec_cont b hb hl p 1 (rd b p % 128) 1 _ (by omega) rfl (by omega) (by omega) (by omega) h1 ?_
  simp only [show (1 : Int) + 1 = 2 from rfl, show (2 : Int) ^ (7 * 1) = 128 from rfl]
  refine spec_head b hl p 2 _ _ (by omega) (fun h => ?_) (fun h => ?_)
  · rw [if_pos (by omega)]
  rw [if_neg (by omega)]
  by_cases h2 : rd b (p + 2) < 128
  · rw [if_pos h2]
    have := spec_fin b hb hl p 2 (rd b p % 128 + rd b (p + 1) % 128 * 128) 2 (by omega) rfl (by omega) (by omega) (by omega) h2
    simpa using this
  rw [if_neg h2]
  refine spec_cont b hb hl p 2 _ 2 _ (by omega) rfl (by omega) (by omega) (by omega) h2 ?_
  simp only [show (2 : Int) + 1 = 3 from rfl, show (2 : Int) ^ (7 * 2) = 16384 from rfl]
  refine spec_head b hl p 3 _ _ (by omega) (fun h => rfl) (fun h => ?_)
  by_cases h3 : rd b (p + 3) < 128
  · have := spec_fin b hb hl p 3 (rd b p % 128 + rd b (p + 1) % 128 * 128 + rd b (p + 2) % 128 * 16384) 3 (by omega) rfl (by omega) (by omega) (by omega) h3
    refine Ev.eq this ?_
    unfold takeFin
    rw [if_pos]
    by_cases h4 : rd b (p + 3) = 0
    · left; exact ⟨h4, by omega⟩
    · right
      rw [isNumB_eq, decide_eq_false_iff_not]
      simp only [show (2 : Int) ^ (7 * 3) = 2097152 from rfl]
      split <;> omega
  · refine spec_cont b hb hl p 3 _ 3 _ (by omega) rfl (by omega) (by omega) (by omega) h3 ?_
    apply Ev.step
    · intro k; rw [spec_TakeNum.l0]
    simp only [if_neg (show ¬ (3 : Int) + 1 < 4 by omega)]
    exact Ev.now _

theorem ev_spec_l05Next (b : List Int) (hb : Bytes b) (hl : b.length ≤ 1048576) (a : Int) (f : Bool) : Ev (fun k => spec_l05Next.f k b a f) (nx b a f) := by
  unfold nx
  by_cases h : f = true
  · simp only [spec_l05Next.f, if_pos h]; exact Ev.now _
  · simp only [spec_l05Next.f, if_neg h]
    refine Ev.bind (ev_spec_TakeNum b hb hl a) ?_
    by_cases h2 : (takeNum b a).2 < 0
    · simp only [if_pos h2]; exact Ev.now _
    · simp only [if_neg h2]; exact Ev.now _

theorem ev_spec_l05Slot (b : List Int) (hb : Bytes b) (hl : b.length ≤ 1048576) (a : Int) (f : Bool) : Ev (fun k => spec_l05Slot.f k b a f) (nxSlot b a f) := by
  simp only [spec_l05Slot.f]
  refine Ev.bind (ev_spec_l05Next b hb hl a f) ?_
  unfold nxSlot
  simp only [spec_l01In_eq, Option.bind_some]
  exact Ev.now _

theorem ev_spec_TakeWord (b : List Int) (hb : Bytes b) (hl : b.length ≤ 1048576) (p : Int) (hp : p ≤ 9223372036854775807) : Ev (fun k => spec_TakeWord.f k b p) (takeWord b p) := by
  have hr := takeNum_next b p
  have hq := @cutB_size b (takeNum b p).2 (takeNum b p).1
  simp only [spec_TakeWord.f, spec_l01In_eq, Option.bind_some]
  refine Ev.bind (ev_spec_TakeNum b hb hl p) ?_
  have bad : takeWord b p = (⟨#[]⟩, -1) → Ev (fun k => spec_TakeWord.j0 k b (takeNum b p).1 (takeNum b p).2 true) (takeWord b p) := by
    intro h
    rw [h]
    apply Ev.step
    · intro k; rw [spec_TakeWord.j0]
    simp only [if_true]
    exact Ev.now _
  refine Ev_ite (fun h0 => ?_) (fun h0 => ?_)
  · exact bad (by unfold takeWord; rw [if_neg (by omega)])
  have hn : -1000000 ≤ (takeNum b p).1 ∧ (takeNum b p).1 ≤ 1000000 := by
    rcases hr with h | h
    · omega
    · simpa [isNumB] using h.2.2.2.2
  refine Ev_ite (fun h1 => ?_) (fun h1 => ?_)
  · have h1' : 1 ≤ (takeNum b p).1 ∧ (takeNum b p).1 ≤ 12 := by simpa using h1
    by_cases h2 : (takeNum b p).1 > b.length - (takeNum b p).2
    · rw [w64 (x := (b.length : Int) - (takeNum b p).2) (by omega), decide_eq_true h2]
      exact bad (by unfold takeWord; rw [if_neg (by omega)])
    · rw [w64 (x := (b.length : Int) - (takeNum b p).2) (by omega), decide_eq_false h2]
      apply Ev.step
      · intro k; rw [spec_TakeWord.j0]
      simp only [if_neg Bool.false_ne_true, w64 (x := (takeNum b p).2 + (takeNum b p).1) (by omega), if_pos (show 0 ≤ (takeNum b p).2 by omega), if_pos (show (takeNum b p).2 ≤ (takeNum b p).2 + (takeNum b p).1 by omega), if_pos (show (takeNum b p).2 + (takeNum b p).1 ≤ b.length by omega)]
      have hz := hq (by omega) (by omega) (by omega)
      refine Ev.bind (ev_spec_WordOk (cutB b (takeNum b p).2 (takeNum b p).1) (by omega)) ?_
      refine Ev_ite (fun h3 => ?_) (fun h3 => ?_)
      · unfold takeWord; rw [if_pos ⟨by omega, by omega, by omega, h3⟩]; exact Ev.now _
      · unfold takeWord; rw [if_neg (fun h => h3 h.2.2.2)]; exact Ev.now _
  · refine bad ?_
    unfold takeWord
    refine if_neg (fun h => ?_)
    have h2 := wordOk_size h.2.2.2
    rw [hq (by omega) (by omega) (by omega)] at h2
    have h1' : ¬ (1 ≤ (takeNum b p).1 ∧ (takeNum b p).1 ≤ 12) := by simpa using h1
    omega

theorem ev_spec_TakeNums_l0 (b : List Int) (hb : Bytes b) (hl : b.length ≤ 1048576) (m : Int) (hm : 0 ≤ m ∧ m ≤ 300) : ∀ (d : Nat) (acc : List Int) (p i : Int), 0 ≤ i → i + d = m → acc.length = i → p ≤ 9223372036854775807 → Ev (fun k => spec_TakeNums.l0 k b m p acc i) (numsFrom b d acc p) := by
  intro d
  induction d with
  | zero =>
    intro acc p i h0 h1 h2 h3
    apply Ev.step
    · intro k; rw [spec_TakeNums.l0]
    simp only [if_neg (show ¬ i < m by omega)]
    exact Ev.now _
  | succ d ih =>
    intro acc p i h0 h1 h2 h3
    have hn := takeNum_lo b p
    apply Ev.step
    · intro k; rw [spec_TakeNums.l0]
    simp only [if_pos (show i < m by omega)]
    refine Ev.bind (ev_spec_TakeNum b hb hl p) ?_
    rw [numsFrom]
    by_cases h4 : (takeNum b p).2 < 0
    · simp only [if_pos h4]; exact Ev.now _
    · simp only [if_neg h4, if_pos (show acc.length < 17592186044416 by omega), w64 (x := i + 1) (by omega)]
      exact ih _ _ _ (by omega) (by omega) (by simp; omega) (by omega)
theorem ev_spec_TakeNums (b : List Int) (hb : Bytes b) (hl : b.length ≤ 1048576) (p : Int) (hp : p ≤ 9223372036854775807) : Ev (fun k => spec_TakeNums.f k b p) (takeNums b p) := by
  have hn := takeNum_lo b p
  simp only [spec_TakeNums.f]
  refine Ev.bind (ev_spec_TakeNum b hb hl p) ?_
  unfold takeNums
  by_cases h0 : (takeNum b p).2 < 0
  · simp only [if_pos h0, if_pos (show (takeNum b p).2 < 0 ∨ _ from Or.inl h0)]
    apply Ev.step
    · intro k; rw [spec_TakeNums.j0]
    exact Ev.now _
  simp only [if_neg h0, spec_l01In_eq, Option.bind_some]
  by_cases h1 : 0 ≤ (takeNum b p).1 ∧ (takeNum b p).1 ≤ 300
  · rw [if_neg (by intro h; rcases h with h | h; exact h0 h; exact h h1)]
    apply Ev.step
    · intro k; rw [spec_TakeNums.j0]
    simp only [decide_eq_true h1, Bool.not_true, if_neg Bool.false_ne_true]
    exact ev_spec_TakeNums_l0 b hb hl _ h1 _ _ _ 0 (by omega) (by omega) (by simp) (by omega)
  · rw [if_pos (Or.inr h1)]
    apply Ev.step
    · intro k; rw [spec_TakeNums.j0]
    simp only [decide_eq_false h1, Bool.not_false, if_true]
    exact Ev.now _

theorem ev_spec_TakeNode_j0 (bad : Bool) (q x0 : Int) (x1 : ByteArray) (x2 x3 x4 : Int) (x5 : Bool) (x6 : List Int) (h1 : x1.size ≤ 12) (h6 : x6.length ≤ 300) : Ev (fun k => spec_TakeNode.j0 k bad q x0 x1 x2 x3 x4 x5 x6) (finN bad q x0 x1 x2 x3 x4 x5 x6) := by
  unfold finN
  simp only [spec_TakeNode.j0]
  refine Ev_ite (fun h => ?_) (fun h => ?_)
  · rw [if_pos h]; exact Ev.now _
  · rw [if_neg h]
    refine Ev.bind (ev_spec_NodeOk x0 x1 x2 x3 x4 x5 x6 (by omega) (by omega)) ?_
    refine Ev_ite (fun h2 => ?_) (fun h2 => ?_)
    · rw [if_pos h2]; exact Ev.now _
    · rw [if_neg h2]; exact Ev.now _
theorem ev_spec_TakeNode_g (b : List Int) (hb : Bytes b) (hl : b.length ≤ 1048576) (x0 a : Int) (ha : a ≤ b.length) : Ev (fun k => spec_TakeNode.g k b x0 a) (takeG b x0 a) := by
  simp only [spec_TakeNode.g]
  unfold takeG
  have he : (⟨#[]⟩ : ByteArray).size ≤ 12 := by rw [emptyB_eq]; omega
  refine Ev_ite (fun h => ?_) (fun h => ?_)
  · rw [if_pos h]
    refine Ev.bind (ev_spec_TakeWord b hb hl a (by omega)) ?_
    refine Ev_ite (fun h => ?_) (fun h => ?_)
    · rw [if_pos h]; exact Ev.now _
    · rw [if_neg h]; exact ev_spec_TakeNode_j0 _ _ _ _ _ _ _ _ _ (takeWord_fit b a).2 (by simp)
  rw [if_neg h]
  refine Ev_ite (fun h => ?_) (fun h => ?_)
  · rw [if_pos h]
    refine Ev.bind (ev_spec_l05Next b hb hl _ _) ?_
    refine Ev.bind (ev_spec_l05Next b hb hl _ _) ?_
    refine Ev.bind (ev_spec_l05Slot b hb hl _ _) ?_
    refine Ev.bind (ev_spec_l05Next b hb hl _ _) ?_
    exact ev_spec_TakeNode_j0 _ _ _ _ _ _ _ _ _ he (by simp)
  rw [if_neg h]
  refine Ev_ite (fun h => ?_) (fun h => ?_)
  · rw [if_pos h]
    refine Ev.bind (ev_spec_TakeNums b hb hl a (by omega)) ?_
    refine Ev_ite (fun h => ?_) (fun h => ?_)
    · rw [if_pos h]; exact Ev.now _
    · rw [if_neg h]; exact ev_spec_TakeNode_j0 _ _ _ _ _ _ _ _ _ he (takeNums_len b a)
  rw [if_neg h]
  refine Ev_ite (fun h => ?_) (fun h => ?_)
  · rw [if_pos h]
    refine Ev.bind (ev_spec_l05Next b hb hl _ _) ?_
    refine Ev.bind (ev_spec_l05Next b hb hl _ _) ?_
    exact ev_spec_TakeNode_j0 _ _ _ _ _ _ _ _ _ he (by simp)
  rw [if_neg h]
  refine Ev_ite (fun h => ?_) (fun h => ?_)
  · rw [if_pos h]
    refine Ev.bind (ev_spec_l05Next b hb hl _ _) ?_
    exact ev_spec_TakeNode_j0 _ _ _ _ _ _ _ _ _ he (by simp)
  rw [if_neg h]
  refine Ev_ite (fun h => ?_) (fun h => ?_)
  · rw [if_pos h]
    refine Ev.bind (ev_spec_l05Slot b hb hl _ _) ?_
    refine Ev.bind (ev_spec_l05Next b hb hl _ _) ?_
    exact ev_spec_TakeNode_j0 _ _ _ _ _ _ _ _ _ he (by simp)
  rw [if_neg h]
  exact ev_spec_TakeNode_j0 _ _ _ _ _ _ _ _ _ he (by simp)
theorem ev_spec_TakeNode (b : List Int) (hb : Bytes b) (hl : b.length ≤ 1048576) (p : Int) : Ev (fun k => spec_TakeNode.f k b p) (takeNode b p) := by
  have hn := takeNum_lo b p
  simp only [spec_TakeNode.f]
  refine Ev.bind (ev_spec_l05Next b hb hl p false) ?_
  unfold takeNode nx
  rw [if_neg Bool.false_ne_true]
  by_cases h : (takeNum b p).2 < 0
  · simp only [if_pos h, if_true]; exact Ev.now _
  · simp only [if_neg h, if_neg Bool.false_ne_true]
    exact ev_spec_TakeNode_g b hb hl _ _ hn.2

theorem eqT (r : NodeT) (h : r.2.2.2.2.2.2.1.length ≤ 1099511627776) : Ev (fun k => laws_eqNode.f k r.1 r.2.1 r.2.2.1 r.2.2.2.1 r.2.2.2.2.1 r.2.2.2.2.2.1 r.2.2.2.2.2.2.1 r.1 r.2.1 r.2.2.1 r.2.2.2.1 r.2.2.2.2.1 r.2.2.2.2.2.1 r.2.2.2.2.2.2.1) true := by
  simp only [laws_eqNode.f, if_true, bne_self_eq_false, if_neg Bool.false_ne_true]
  refine Ev.bind (ev_eqIntS _ h) ?_
  simp only [if_true]
  exact Ev.now _
theorem fit_cols (b : List Int) (p : Int) : (takeNode b p).2.2.2.2.2.2.1.length ≤ 300 := by
  have hz : ∀ q x0 x1 x2 x3 x4 x5 x6 (bad : Bool), x6.length ≤ 300 → (finN bad q x0 x1 x2 x3 x4 x5 x6).2.2.2.2.2.2.1.length ≤ 300 := by
    intro q x0 x1 x2 x3 x4 x5 x6 bad h
    unfold finN
    split
    · simp [zeroT]
    · split
      · exact h
      · simp [zeroT]
  unfold takeNode
  split
  · simp [zeroT]
  · unfold takeG takeG1 takeG3 takeG5 takeG6
    repeat' split
    all_goals first | (simp [zeroT]; done) | exact hz _ _ _ _ _ _ _ _ _ (by simp) | exact hz _ _ _ _ _ _ _ _ _ (takeNums_len _ _)
theorem holds : ∀ (l0 : List (Int)) (a1 : Int), (l0.length ≤ 9223372036854775807 ∧ ∀ yl0 ∈ l0, (Lit.int .u8 yl0).wf = true) → (Lit.int .i64 a1).wf = true → ∃ k, laws_FnExactTakeNode.f k l0 a1 = some true := by
  intro b p hl hp
  apply Ev.ex
  have hb := Bytes_of hl.2
  have hp' := i64_of hp
  simp only [laws_FnExactTakeNode.f]
  by_cases hs : (b.length : Int) > 1048576
  · simp only [if_pos hs]; exact Ev.now _
  simp only [if_neg hs]
  have hc := fit_cols b p
  obtain ⟨L, hL, hm, hh⟩ := ev_intS (takeNode b p).2.2.2.2.2.2.1 1 (by omega) (by omega)
  obtain ⟨L2, hL2, _, hm2⟩ := ev_markByteS b 1 (by omega) (by omega)
  have hheld : ∀ x0 x1 x2 x3 x4 x5, Ev (fun k => laws_heldNode.f k x0 x1 x2 x3 x4 x5 L 1) (1 + ((takeNode b p).2.2.2.2.2.2.1.length : Int)) := by
    intro x0 x1 x2 x3 x4 x5
    simp only [laws_heldNode.f]
    refine Ev.bind hh ?_
    simp only [if_neg (show ¬ (1 + ((takeNode b p).2.2.2.2.2.2.1.length : Int) < 0) by omega)]
    exact Ev.now _
  refine Ev.bind (ev_toByteS b (by omega)) ?_
  refine Ev.bind (ev_spec_TakeNode b hb (by omega) p) ?_
  refine Ev.bind (ev_toByteS b (by omega)) ?_
  refine Ev.bind (ev_impl_TakeNode b hb (by omega) p (by omega)) ?_
  refine Ev.bind (eqT _ (by omega)) ?_
  simp only [if_true]
  apply Ev.step
  · intro k; rw [laws_FnExactTakeNode.j0]
  simp only [bne_self_eq_false, if_neg Bool.false_ne_true]
  refine Ev.bind (ev_toByteS b (by omega)) ?_
  refine Ev.bind (ev_eqByteS b (by omega)) ?_
  simp only [if_true]
  refine Ev.bind hm2 ?_
  simp only [if_neg (show ¬ (1 + (b.length : Int) < 0) by omega)]
  refine Ev.bind (eqT _ (by omega)) ?_
  simp only [if_true]
  apply Ev.step
  · intro k; rw [laws_FnExactTakeNode.j1]
  simp only [if_neg Bool.false_ne_true]
  simp only [laws_markNode.f]
  refine Ev.bind (Ev.bind hm (Ev.now _)) ?_
  refine Ev.bind (hheld _ _ _ _ _ _) ?_
  simp only [if_neg (show ¬ (1 + ((takeNode b p).2.2.2.2.2.2.1.length : Int) < 0) by omega), if_true]
  refine Ev.bind (ev_toByteS b (by omega)) ?_
  refine Ev.bind (ev_impl_TakeNode b hb (by omega) p (by omega)) ?_
  refine Ev.bind (eqT _ (by omega)) ?_
  simp only [if_true]
  apply Ev.step
  · intro k; rw [laws_FnExactTakeNode.j2]
  simp only [bne_self_eq_false, if_neg Bool.false_ne_true]
  refine Ev.bind (hheld _ _ _ _ _ _) ?_
  simp only [if_neg (show ¬ (1 + ((takeNode b p).2.2.2.2.2.2.1.length : Int) < 0) by omega), if_true]
  exact Ev.now _

end EFnExactTakeNode
open Go.RowKit Go.Proofs.YtmjfnkebpdmhbaaW.PrintWords Go.Proofs.YtmjfnkebpdmhbaaW.PrintLast Go.Proofs.YtmjfnkebpdmhbaaW.PrintMore Go.Proofs.Ytmjfnkebpdmhbaa.Lib Go.Proofs.Ytmjfnkebpdmhbaa.Q
theorem FnExactTakeNode : ∀ (l0 : List (Int)) (a1 : Int), (l0.length ≤ 9223372036854775807 ∧ ∀ yl0 ∈ l0, (Lit.int .u8 yl0).wf = true) → (Lit.int .i64 a1).wf = true → ∃ k, laws_FnExactTakeNode.f k l0 a1 = some true := EFnExactTakeNode.holds
end Go.Proofs.Ytmjfnkebpdmhbaa.Pure
