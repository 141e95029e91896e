/- Of every list of nodes: the program's TablesOf gives the names that the reference's TablesOf gives, in new memory of its own, and its argument stays as it was. -/
import Derived.Test.YtgmhohafoclmpaaQmFnExactTablesOf
import Derived.Test.YtgmhohafoclmpaaShapes
import Derived.Test.YtgmhohafoclmpaaLib
set_option linter.unusedVariables false
set_option linter.unusedSimpArgs false
namespace Go.Proofs.Ytgmhohafoclmpaa.Pure
namespace EFnExactTablesOf
open Go.RowKit Go.Proofs.YtgmhohafoclmpaaW.PrintWords Go.Proofs.YtgmhohafoclmpaaW.PrintLast Go.Proofs.YtgmhohafoclmpaaW.PrintMore Go.Proofs.Ytgmhohafoclmpaa.Lib Go.Proofs.Ytgmhohafoclmpaa.Q

theorem ev_impl_ArityOf (a : Int) : Ev (fun k => impl_ArityOf.f k a) (arity a) := by
  simp only [impl_ArityOf.f]
  by_cases h0 : a = 0
  · subst h0; simp only [if_true]; exact Ev.now _
  by_cases h3 : a = 3
  · subst h3
    simp only [if_neg (show ¬ (3 : Int) = 0 by omega), if_true]
    apply Ev.step
    · intro k; rw [impl_ArityOf.j0]
    exact Ev.const (by simp [arity])
  simp only [if_neg h0, if_neg h3]
  apply Ev.step
  · intro k; rw [impl_ArityOf.j0]
  refine Ev.const ?_
  unfold arity
  by_cases h4 : a = 4
  · subst h4; simp
  · simp only [beq_iff_eq, if_neg h0, if_neg h3, if_neg h4]
    repeat' split
    all_goals first | rfl | omega

def kAt (p : List S62) (k : Nat) : Int := (rd_T62 p (k : Int)).f0
/-- The place behind the node at k and all below it, and how deep that is; none if it is not whole within so many levels. -/
def endP (p : List S62) : Nat → Nat → Option (Nat × Nat)
  | 0, _ => none
  | room + 1, k =>
    if p.length ≤ k then none
    else if arity (kAt p k) = 2 then (endP p room (k + 1)).bind fun x => (endP p room x.1).bind fun y => some (y.1, max x.2 y.2 + 1)
    else if arity (kAt p k) = 1 then (endP p room (k + 1)).bind fun x => some (x.1, x.2 + 1)
    else some (k + 1, 1)
def endI : Option (Nat × Nat) → Int
  | none => -1
  | some x => x.1
theorem arity_cases (k : Int) : arity k = -1 ∨ arity k = 0 ∨ arity k = 1 ∨ arity k = 2 := by
  unfold arity; repeat' split
  all_goals simp
theorem endP_range (p : List S62) : ∀ (room k : Nat) (x : Nat × Nat), endP p room k = some x → k < x.1 ∧ x.1 ≤ p.length ∧ 1 ≤ x.2 ∧ x.2 ≤ room := by
  intro room
  induction room with
  | zero => intro k x h; simp [endP] at h
  | succ room ih =>
    intro k x h
    unfold endP at h
    by_cases h0 : p.length ≤ k
    · rw [if_pos h0] at h; cases h
    rw [if_neg h0] at h
    by_cases h2 : arity (kAt p k) = 2
    · rw [if_pos h2] at h
      obtain ⟨y, hy, h⟩ := Option.bind_eq_some_iff.1 h
      obtain ⟨z, hz, h⟩ := Option.bind_eq_some_iff.1 h
      injection h with h
      have a := ih _ _ hy
      have b := ih _ _ hz
      subst h
      refine ⟨?_, ?_, ?_, ?_⟩ <;> simp <;> omega
    rw [if_neg h2] at h
    by_cases h1 : arity (kAt p k) = 1
    · rw [if_pos h1] at h
      obtain ⟨y, hy, h⟩ := Option.bind_eq_some_iff.1 h
      injection h with h
      have a := ih _ _ hy
      subst h
      refine ⟨?_, ?_, ?_, ?_⟩ <;> simp <;> omega
    rw [if_neg h1] at h
    injection h with h
    subst h
    refine ⟨?_, ?_, ?_, ?_⟩ <;> simp <;> omega
theorem endP_mono (p : List S62) : ∀ (room k : Nat) (x : Nat × Nat) (r : Nat), endP p room k = some x → room ≤ r → endP p r k = some x := by
  intro room
  induction room with
  | zero => intro k x r h; simp [endP] at h
  | succ room ih =>
    intro k x r h hr
    obtain ⟨r, rfl⟩ : ∃ q, r = q + 1 := ⟨r - 1, by omega⟩
    unfold endP at h ⊢
    by_cases h0 : p.length ≤ k
    · rw [if_pos h0] at h; cases h
    rw [if_neg h0] at h ⊢
    by_cases h2 : arity (kAt p k) = 2
    · rw [if_pos h2] at h ⊢
      obtain ⟨y, hy, h⟩ := Option.bind_eq_some_iff.1 h
      obtain ⟨z, hz, h⟩ := Option.bind_eq_some_iff.1 h
      rw [ih _ _ r hy (by omega), Option.bind_some, ih _ _ r hz (by omega), Option.bind_some]; exact h
    rw [if_neg h2] at h ⊢
    by_cases h1 : arity (kAt p k) = 1
    · rw [if_pos h1] at h ⊢
      obtain ⟨y, hy, h⟩ := Option.bind_eq_some_iff.1 h
      rw [ih _ _ r hy (by omega), Option.bind_some]; exact h
    rw [if_neg h1] at h ⊢
    exact h
theorem endI_lo (o : Option (Nat × Nat)) : -1 ≤ endI o := by
  cases o with
  | none => simp [endI]
  | some x => simp [endI] <;> omega
theorem endI_neg {o : Option (Nat × Nat)} : endI o < 0 ↔ o = none := by
  cases o with
  | none => simp [endI]
  | some x => simp [endI]
theorem w01 : wrap64 (0 + 1) = 1 := by rw [w64 (by omega)]; rfl
theorem w12 : wrap64 (1 + 1) = 2 := by rw [w64 (by omega)]; rfl

theorem ev_impl_end (p : List S62) (hl : p.length ≤ 1048576) : ∀ (room k : Nat), room ≤ 10 → k ≤ 1099511627776 → Ev (fun n => impl_end.f n p k (11 - room : Int)) (endI (endP p room k)) := by
  intro room
  induction room with
  | zero =>
    intro k _ hk
    apply Ev.step
    · intro k; rw [impl_end.f]
    refine Ev_ite (fun _ => ?_) (fun _ => ?_)
    · apply Ev.step
      · intro k; rw [impl_end.j0]
      exact Ev.now _
    · apply Ev.step
      · intro k; rw [impl_end.j0]
      exact Ev.now _
  | succ room ih =>
    intro k hr hk
    apply Ev.step
    · intro k; rw [impl_end.f]
    refine Ev_ite (fun h0 => ?_) (fun h0 => ?_)
    · rw [endP, if_pos (by omega)]
      apply Ev.step
      · intro k; rw [impl_end.j0]
      exact Ev.now _
    rw [endP, if_neg (by omega)]
    simp only [decide_eq_false (show ¬ (11 - ((room + 1 : Nat) : Int)) > 10 by omega)]
    apply Ev.step
    · intro k; rw [impl_end.j0]
    simp only [if_neg Bool.false_ne_true, if_pos (show (0 : Int) ≤ k by omega), if_pos (show (k : Int) < p.length by omega)]
    refine Ev.bind (ev_impl_ArityOf _) ?_
    have e1 : (11 : Int) - ((room + 1 : Nat) : Int) + 1 = 11 - (room : Int) := by omega
    have e2 : ((k : Int) + 1) = ((k + 1 : Nat) : Int) := by omega
    have hka : arity (rd_T62 p (k : Int)).f0 = arity (kAt p k) := rfl
    rw [hka]
    have i1 := ih (k + 1) (by omega) (by omega)
    simp only [w64 (x := (k : Int) + 1) (by omega), e2, w64 (x := ((k + 1 : Nat) : Int)) (by omega)]
    rcases arity_cases (kAt p k) with h | h | h | h
    · rw [h, if_neg (by omega), if_neg (by omega)]
      apply Ev.step
      · intro k; rw [impl_end.l0]
      simp only [if_neg (show ¬ (0 : Int) < -1 by omega)]
      exact Ev.now _
    · rw [h, if_neg (by omega), if_neg (by omega)]
      apply Ev.step
      · intro k; rw [impl_end.l0]
      simp only [if_neg (show ¬ (0 : Int) < 0 by omega)]
      exact Ev.now _
    · rw [h, if_neg (by omega), if_pos rfl]
      apply Ev.step
      · intro k; rw [impl_end.l0]
      simp only [if_pos (show (0 : Int) < 1 by omega), w64 (x := (11 : Int) - ((room + 1 : Nat) : Int) + 1) (by omega), e1, w64 (x := (11 : Int) - (room : Int)) (by omega)]
      refine Ev.bind i1 ?_
      cases hx : endP p room (k + 1) with
      | none => exact Ev.now _
      | some x =>
        simp only [if_neg (show ¬ endI (some x) < 0 by simp [endI]), Option.bind_some]
        apply Ev.step
        · intro k; rw [impl_end.l0]
        simp only [w01, if_neg (show ¬ (1 : Int) < 1 by omega)]
        exact Ev.now _
    · rw [h, if_pos rfl]
      apply Ev.step
      · intro k; rw [impl_end.l0]
      simp only [if_pos (show (0 : Int) < 2 by omega), w64 (x := (11 : Int) - ((room + 1 : Nat) : Int) + 1) (by omega), e1, w64 (x := (11 : Int) - (room : Int)) (by omega)]
      refine Ev.bind i1 ?_
      cases hx : endP p room (k + 1) with
      | none => exact Ev.now _
      | some x =>
        have hxr := endP_range p _ _ _ hx
        simp only [if_neg (show ¬ endI (some x) < 0 by simp [endI]), Option.bind_some]
        apply Ev.step
        · intro k; rw [impl_end.l0]
        simp only [w01, w12, if_pos (show (1 : Int) < 2 by omega), w64 (x := (11 : Int) - ((room + 1 : Nat) : Int) + 1) (by omega), e1, w64 (x := (11 : Int) - (room : Int)) (by omega)]
        rw [show endI (some x) = ((x.1 : Nat) : Int) from rfl]
        refine Ev.bind (ih x.1 (by omega) (by omega)) ?_
        cases hy : endP p room x.1 with
        | none => exact Ev.now _
        | some y =>
          simp only [if_neg (show ¬ endI (some y) < 0 by simp [endI]), Option.bind_some]
          apply Ev.step
          · intro k; rw [impl_end.l0]
          simp only [if_neg (show ¬ (2 : Int) < 2 by omega)]
          exact Ev.now _

theorem impl_in_eq (a b c : Int) : impl_in.f a b c = some (decide (b ≤ a ∧ a ≤ c)) := by
  unfold impl_in.f
  by_cases h : b ≤ a
  · rw [if_pos h]; simp [h]
  · rw [if_neg (show ¬ a ≥ b from h)]; simp [h]

theorem ev_impl_WordOk_l0 (s : ByteArray) (hs : s.size ≤ 1099511627776) : ∀ (d i : Nat), i + d = s.size → Ev (fun k => impl_WordOk.l0 k s (s.size : Int) i) (wordFrom s d i && decide (1 ≤ s.size ∧ s.size ≤ 12)) := by
  intro d
  induction d with
  | zero =>
    intro i h
    apply Ev.step
    · intro k; rw [impl_WordOk.l0]
    simp only [if_neg (show ¬ ((i : Int) < s.size) by omega), impl_in_eq, Option.bind_some, wordFrom, Bool.true_and]
    refine Ev.const (congrArg some ?_)
    exact decide_eq_decide.mpr (by omega)
  | succ d ih =>
    intro i h
    have ih' := ih (i + 1) (by omega)
    apply Ev.step
    · intro k; rw [impl_WordOk.l0]
    simp only [if_pos (show (i : Int) < s.size by omega), if_pos (show (0 : Int) ≤ i by omega), w64 (x := (i : Int) + 1) (by omega), wordFrom]
    by_cases h1 : bt s i ≥ 97
    · simp only [if_pos h1]
      by_cases h2 : bt s i ≤ 122
      · simp only [if_pos h2, show okAt s i = true by simp [okAt]; omega, Bool.true_and]; exact ih'
      · simp only [if_neg h2]
        by_cases h0 : (i : Int) = 0
        · simp only [if_pos h0, show okAt s i = false by simp [okAt]; omega, Bool.false_and]; exact Ev.now _
        · simp only [if_neg h0, if_neg (show ¬ bt s i < 48 by omega), if_pos (show bt s i > 57 by omega), show okAt s i = false by simp [okAt]; omega, Bool.false_and]; exact Ev.now _
    · simp only [if_neg h1]
      by_cases h0 : (i : Int) = 0
      · simp only [if_pos h0, show okAt s i = false by simp [okAt]; omega, Bool.false_and]; exact Ev.now _
      · simp only [if_neg h0]
        by_cases h2 : bt s i < 48
        · simp only [if_pos h2, show okAt s i = false by simp [okAt]; omega, Bool.false_and]; exact Ev.now _
        · by_cases h3 : bt s i > 57
          · simp only [if_neg h2, if_pos h3, show okAt s i = false by simp [okAt]; omega, Bool.false_and]; exact Ev.now _
          · simp only [if_neg h2, if_neg h3, show okAt s i = true by simp [okAt]; omega, Bool.true_and]; exact ih'
theorem ev_impl_WordOk (s : ByteArray) (hs : s.size ≤ 1099511627776) : Ev (fun k => impl_WordOk.f k s) (wordOk s) := by
  have := ev_impl_WordOk_l0 s hs s.size 0 (by omega)
  rw [Bool.and_comm] at this
  exact this

theorem impl_isCol_eq (a : Int) : impl_isCol.f a = some (colB a) := by
  unfold impl_isCol.f; rw [impl_in_eq]; rfl

theorem impl_isNum_eq (a : Int) : impl_isNum.f a = some (isNumB a) := by
  unfold impl_isNum.f; rw [impl_in_eq]; rfl

theorem impl_isSlot_eq (a : Int) : impl_isSlot.f a = some (slotB a) := by
  unfold impl_isSlot.f; rw [impl_in_eq]; rfl

theorem ev_slices_Equal_int_int_l0 (a b : List Int) (hl : a.length = b.length) (ha : a.length ≤ 1099511627776) : ∀ (d i : Nat), i + d = a.length → Ev (fun k => slices_Equal_int_int.l0 k a b (a.length : Int) i) (decide (a.drop i = b.drop i)) := by
  intro d
  induction d with
  | zero =>
    intro i h
    apply Ev.step
    · intro k; rw [slices_Equal_int_int.l0]
    simp only [if_neg (show ¬ ((i : Int) < a.length) by omega), drop_nil' (show a.length ≤ i by omega), drop_nil' (show b.length ≤ i by omega)]
    exact Ev.const (by simp)
  | succ d ih =>
    intro i h
    have ih' := ih (i + 1) (by omega)
    apply Ev.step
    · intro k; rw [slices_Equal_int_int.l0]
    simp only [if_pos (show (i : Int) < a.length by omega), if_pos (show (i : Int) < b.length by omega), if_pos (show (0 : Int) ≤ i by omega), w64 (x := (i : Int) + 1) (by omega), eq_drop (show i < a.length by omega) (show i < b.length by omega)]
    by_cases he : rd a i = rd b i
    · simp only [if_pos he]
      simpa [he] using ih'
    · simp only [if_neg he]
      exact Ev.const (by simp [he])
theorem ev_slices_Equal_int_int (a b : List Int) (ha : a.length ≤ 1099511627776) : Ev (fun k => slices_Equal_int_int.f k a b) (decide (a = b)) := by
  simp only [slices_Equal_int_int.f]
  by_cases hl : a.length = b.length
  · simp only [if_pos (show (a.length : Int) = b.length by omega)]
    simpa using ev_slices_Equal_int_int_l0 a b hl ha a.length 0 (by omega)
  · simp only [if_neg (show ¬ (a.length : Int) = b.length by omega)]
    exact Ev.const (congrArg some (decide_eq_false (fun h => hl (by rw [h]))).symm)

theorem ev_impl_sameNode (a0 : Int) (a1 : ByteArray) (a2 a3 a4 : Int) (a5 : Bool) (a6 : List Int) (b0 : Int) (b1 : ByteArray) (b2 b3 b4 : Int) (b5 : Bool) (b6 : List Int) (h : a6.length ≤ 1099511627776) :
    Ev (fun k => impl_sameNode.f k a0 a1 a2 a3 a4 a5 a6 b0 b1 b2 b3 b4 b5 b6) (decide (a0 = b0 ∧ a1.toList = b1.toList ∧ a2 = b2 ∧ a3 = b3 ∧ a4 = b4 ∧ a5 = b5 ∧ a6 = b6)) := by
  simp only [impl_sameNode.f]
  refine Ev_ite (fun h0 => ?_) (fun h0 => Ev.const (by simp [h0]))
  refine Ev_ite (fun h1 => ?_) (fun h1 => Ev.const (by simp [h1]))
  refine Ev_ite (fun h2 => ?_) (fun h2 => Ev.const (by simp [h2]))
  refine Ev_ite (fun h3 => ?_) (fun h3 => Ev.const (by simp [h3]))
  refine Ev_ite (fun h4 => ?_) (fun h4 => Ev.const (by simp [h4]))
  refine Ev_ite (fun h5 => ?_) (fun h5 => Ev.const (by have : ¬ a5 = b5 := by simpa using h5
                                                       simp [this]))
  have h5' : a5 = b5 := by simpa using h5
  refine Ev.bind (ev_slices_Equal_int_int a6 b6 h) ?_
  exact Ev.const (by simp [h0, h1, h2, h3, h4, h5'])

theorem impl_NodeOk_1_eq (a : Int) : impl_NodeOk_1.f a = some ((fun a => !colB a) a) := by
  unfold impl_NodeOk_1.f; rw [impl_isCol_eq]; rfl

theorem ev_IndexFunc_l0 (l : List Int) (hl : l.length ≤ 1099511627776) : ∀ (d i : Nat), i + d = l.length → ∃ r, Ev (fun k => slices_IndexFunc_int_int.l0 k l (l.length : Int) i) r ∧ decide (r ≥ 0) = (l.drop i).any (fun a => !colB a) := by
  intro d
  induction d with
  | zero =>
    intro i h
    refine ⟨-1, ?_, by rw [drop_nil' (show l.length ≤ i by omega)]; rfl⟩
    apply Ev.step
    · intro k; rw [slices_IndexFunc_int_int.l0]
    simp only [if_neg (show ¬ ((i : Int) < l.length) by omega)]
    exact Ev.now _
  | succ d ih =>
    intro i h
    obtain ⟨r, e, g⟩ := ih (i + 1) (by omega)
    by_cases hp : (fun a => !colB a) (rd l i) = true
    · have hp' := hp
      simp only [] at hp'
      refine ⟨i, ?_, ?_⟩
      · apply Ev.step
        · intro k; rw [slices_IndexFunc_int_int.l0]
        simp only [if_pos (show (i : Int) < l.length by omega), if_pos (show (0 : Int) ≤ i by omega), impl_NodeOk_1_eq, Option.bind_some]
        simp only [hp', if_true]
        exact Ev.now _
      · rw [drop_rd l i (by omega), List.any_cons]; simp only [hp', Bool.true_or]; simp
    · have hp' := Bool.eq_false_iff.mpr hp
      simp only [] at hp'
      refine ⟨r, ?_, ?_⟩
      · apply Ev.step
        · intro k; rw [slices_IndexFunc_int_int.l0]
        simp only [if_pos (show (i : Int) < l.length by omega), if_pos (show (0 : Int) ≤ i by omega), impl_NodeOk_1_eq, Option.bind_some, w64 (x := (i : Int) + 1) (by omega)]
        simp only [hp', if_neg Bool.false_ne_true]
        simpa using e
      · rw [drop_rd l i (by omega), List.any_cons]; simp only [hp', Bool.false_or]; exact g

theorem ev_ContainsFunc (l : List Int) (hl : l.length ≤ 1099511627776) : Ev (fun k => slices_ContainsFunc_int_int.f k l) (l.any (fun a => !colB a)) := by
  obtain ⟨r, e, g⟩ := ev_IndexFunc_l0 l hl l.length 0 (by omega)
  simp only [slices_ContainsFunc_int_int.f, slices_IndexFunc_int_int.f]
  refine Ev.bind (by simpa using e) ?_
  refine Ev.const (congrArg some ?_)
  rw [g, List.drop_zero]

theorem all_colB (l : List Int) : (l.any (fun a => !colB a)) = !l.all colB := by
  induction l with
  | nil => rfl
  | cons a l ih => simp [ih]
theorem empty_list : (⟨#[]⟩ : ByteArray).toList = [] := by rw [Lib.toList_data]
theorem ev_impl_NodeOk (kind : Int) (name : ByteArray) (col op num : Int) (slot : Bool) (cols : List Int) (hl : cols.length ≤ 1099511627776) (hn : name.size ≤ 1099511627776) : Ev (fun k => impl_NodeOk.f k kind name col op num slot cols) (nodeOk kind name col op num slot cols) := by
  have same := fun (a0 : Int) (a1 : ByteArray) (a2 a3 a4 : Int) (a5 : Bool) (a6 : List Int) (h : a6.length ≤ 1099511627776) => ev_impl_sameNode a0 a1 a2 a3 a4 a5 a6 0 (⟨#[]⟩ : ByteArray) 0 0 0 false [] h
  have hnil : ([] : List Int).length ≤ 1099511627776 := by simp
  simp only [impl_NodeOk.f, impl_isCol_eq, impl_in_eq, impl_isSlot_eq, Option.bind_some]
  refine Ev_ite (fun h0 => ?_) (fun h0 => ?_)
  · refine Ev.bind (ev_impl_WordOk name hn) ?_
    refine Ev_ite (fun h1 => ?_) (fun h1 => Ev.const (by simp [nodeOk, nodeKind, h0, Bool.eq_false_iff.mpr h1]))
    refine Ev.bind (same _ _ _ _ _ _ _ hl) ?_
    refine Ev.const (congrArg some ?_)
    cases slot <;> simp [nodeOk, nodePre, nodeKind, h0, h1, empty_list] <;> by_cases e1 : cols = [] <;> by_cases e2 : op = 0 <;> by_cases e3 : col = 0 <;> simp [*]
  refine Ev_ite (fun h1 => ?_) (fun h1 => ?_)
  · have tail : ∀ b, b = (colB col && decide (0 ≤ op ∧ op ≤ 3)) → Ev (fun k => impl_NodeOk.j0 k b kind name col op num slot cols 0 name col op num slot cols) (nodeOk kind name col op num slot cols) := by
      intro b hb
      have hk : nodeKind kind name col op num slot cols = (b && isNumB num && decide (op = 3 → num = 0 ∧ slot = false)) := by
        rw [hb]; simp [nodeKind, h1]
      unfold nodeOk
      rw [hk]
      apply Ev.step
      · intro k; rw [impl_NodeOk.j0]
      simp only [impl_isSlot_eq, impl_isNum_eq, Option.bind_some]
      cases b with
      | false =>
        simp only [Bool.false_and, Bool.and_false]
        refine Ev_ite (fun _ => Ev.const (by simp)) (fun _ => Ev_ite (fun _ => Ev.const (by simp)) (fun _ => Ev.const (by simp)))
      | true =>
        simp only [Bool.true_and, if_true]
        refine Ev_ite (fun h3 => ?_) (fun h3 => ?_)
        · refine Ev_ite (fun h4 => Ev_ite (fun h5 => ?_) (fun h5 => ?_)) (fun h4 => ?_)
          · exact Ev.const (by simp [h3, h5])
          · refine Ev.bind (same _ _ _ _ _ _ _ hl) ?_
            refine Ev.const (congrArg some ?_)
            have h5' : slot = false := by simpa using h5
            subst h4 h5'
            simp [nodePre, h1, h3, empty_list, isNumB]
          · exact Ev.const (by simp [h3, h4])
        · refine Ev_ite (fun h4 => ?_) (fun h4 => ?_)
          · refine Ev_ite (fun h5 => ?_) (fun h5 => Ev.const (by simp [nodePre, h4, Bool.eq_false_iff.mpr h5]))
            refine Ev.bind (same _ _ _ _ _ _ _ hl) ?_
            refine Ev.const (congrArg some ?_)
            have h6 : isNumB num = true := by simp [slotB] at h5; simp [isNumB]; omega
            simp [nodePre, h1, h3, h4, h5, h6, empty_list]
          · refine Ev_ite (fun h5 => ?_) (fun h5 => Ev.const (by simp [Bool.eq_false_iff.mpr h5]))
            refine Ev.bind (same _ _ _ _ _ _ _ hl) ?_
            refine Ev.const (congrArg some ?_)
            have h4' : slot = false := by simpa using h4
            simp [nodePre, h1, h3, h4', h5, empty_list]
    refine Ev_ite (fun h2 => tail _ (by rw [h2, Bool.true_and])) (fun h2 => tail _ (by rw [Bool.eq_false_iff.mpr h2, Bool.false_and]))
  refine Ev_ite (fun h2 => ?_) (fun h2 => ?_)
  · refine Ev_ite (fun h3 => ?_) (fun h3 => Ev.const (by
      have : ¬ (1 ≤ cols.length ∧ cols.length ≤ 6) := by simp only [decide_eq_true_eq] at h3; omega
      simp [nodeOk, nodeKind, h2]
      intro _ _ h4 h5; exact absurd ⟨h4, h5⟩ this))
    refine Ev.bind (ev_ContainsFunc cols hl) ?_
    rw [all_colB]
    have h3' : 1 ≤ cols.length ∧ cols.length ≤ 6 := by simp only [decide_eq_true_eq] at h3; omega
    refine Ev_ite (fun h4 => Ev.const (by
      have : cols.all colB = false := by simpa using h4
      simp [nodeOk, nodeKind, h2, this])) (fun h4 => ?_)
    have h5 : cols.all colB = true := by simpa using h4
    refine Ev.bind (same _ _ _ _ _ _ _ hnil) ?_
    refine Ev.const (congrArg some ?_)
    cases slot <;> simp only [nodeOk, nodePre, nodeKind, h2, h5, decide_eq_true h3', empty_list] <;> simp <;> by_cases e1 : name.toList = [] <;> by_cases e2 : op = 0 <;> by_cases e3 : col = 0 <;> simp [*]
  refine Ev_ite (fun h3 => ?_) (fun h3 => ?_)
  · refine Ev_ite (fun h4 => ?_) (fun h4 => Ev.const (by simp [nodeOk, nodeKind, h3, Bool.eq_false_iff.mpr h4]))
    refine Ev_ite (fun h5 => ?_) (fun h5 => Ev.const (by simp [nodeOk, nodeKind, h3, Bool.eq_false_iff.mpr h5]))
    refine Ev.bind (same _ _ _ _ _ _ _ hl) ?_
    refine Ev.const (congrArg some ?_)
    cases slot <;> simp [nodeOk, nodePre, nodeKind, h3, h4, h5, empty_list] <;> by_cases e1 : cols = [] <;> by_cases e2 : op = 0 <;> by_cases e3 : name.toList = [] <;> simp [*]
  refine Ev_ite (fun h4 => ?_) (fun h4 => ?_)
  · refine Ev_ite (fun h5 => ?_) (fun h5 => Ev.const (by simp [nodeOk, nodeKind, h4, Bool.eq_false_iff.mpr h5]))
    refine Ev.bind (same _ _ _ _ _ _ _ hl) ?_
    refine Ev.const (congrArg some ?_)
    cases slot <;> simp [nodeOk, nodePre, nodeKind, h4, h5, empty_list] <;> by_cases e1 : cols = [] <;> by_cases e2 : op = 0 <;> by_cases e3 : name.toList = [] <;> simp [*]
  refine Ev_ite (fun h5 => ?_) (fun h5 => ?_)
  · refine Ev_ite (fun h6 => ?_) (fun h6 => Ev.const (by
      have : ¬ (0 ≤ num ∧ num ≤ 1000000) := by simpa using h6
      simp [nodeOk, nodeKind, h5]
      intro _ _ h7; omega))
    have h6' : 0 ≤ num ∧ num ≤ 1000000 := by simpa using h6
    refine Ev_ite (fun h7 => Ev_ite (fun h8 => ?_) (fun h8 => Ev.const (by simp [nodeOk, nodePre, h7, Bool.eq_false_iff.mpr h8]))) (fun h7 => ?_)
    · refine Ev.bind (same _ _ _ _ _ _ _ hl) ?_
      refine Ev.const (congrArg some ?_)
      simp only [nodeOk, nodePre, nodeKind, h5, h7, h8, decide_eq_true h6', empty_list] <;> simp <;> by_cases e1 : cols = [] <;> by_cases e2 : op = 0 <;> by_cases e3 : name.toList = [] <;> simp [*]
    · refine Ev.bind (same _ _ _ _ _ _ _ hl) ?_
      refine Ev.const (congrArg some ?_)
      have h7' : slot = false := by simpa using h7
      simp only [nodeOk, nodePre, nodeKind, h5, h7', decide_eq_true h6', empty_list] <;> simp <;> by_cases e1 : cols = [] <;> by_cases e2 : op = 0 <;> by_cases e3 : name.toList = [] <;> simp [*]
  refine Ev_ite (fun h6 => ?_) (fun h6 => Ev_ite (fun h7 => ?_) (fun h7 => ?_))
  · refine Ev.bind (same _ _ _ _ _ _ _ hl) ?_
    refine Ev.const (congrArg some ?_)
    cases slot <;> simp [nodeOk, nodePre, nodeKind, h6, empty_list] <;> by_cases e1 : cols = [] <;> by_cases e2 : op = 0 <;> by_cases e3 : name.toList = [] <;> simp [*]
  · refine Ev.bind (same _ _ _ _ _ _ _ hl) ?_
    refine Ev.const (congrArg some ?_)
    cases slot <;> simp [nodeOk, nodePre, nodeKind, h7, empty_list] <;> by_cases e1 : cols = [] <;> by_cases e2 : op = 0 <;> by_cases e3 : name.toList = [] <;> simp [*]
  · exact Ev.const (by simp [nodeOk, nodeKind, h0, h1, h2, h3, h4, h5, h6, h7])

def nodeOkN (x : S62) : Bool := nodeOk x.f0 x.f1 x.f2 x.f3 x.f4 x.f5 x.f6
def planOk (p : List S62) : Bool := decide (1 ≤ p.length ∧ p.length ≤ 40) && p.all nodeOkN && decide (endI (endP p 10 0) = p.length)
theorem drop_rdT (p : List S62) (i : Nat) (h : i < p.length) : p.drop i = rd_T62 p i :: p.drop (i + 1) := by
  rw [drop_getD p z62 i h]; simp [rd_T62]
theorem rdT_memN {p : List S62} {i : Nat} (h : i < p.length) : rd_T62 p i ∈ p := by
  have := getD_mem (z := z62) h
  simpa [rd_T62] using this

theorem ev_impl_PlanOk_1 (x : S62) (h : x.f1.size ≤ 1048576 ∧ x.f6.length ≤ 1048576) : Ev (fun k => impl_PlanOk_1.f k x.f0 x.f1 x.f2 x.f3 x.f4 x.f5 x.f6) (!nodeOkN x) := by
  simp only [impl_PlanOk_1.f]
  refine Ev.bind (ev_impl_NodeOk _ _ _ _ _ _ _ (by omega) (by omega)) ?_
  exact Ev.now _

theorem ev_IndexNode (p : List S62) (hl : p.length ≤ 1099511627776) (hs : ∀ x ∈ p, x.f1.size ≤ 1048576 ∧ x.f6.length ≤ 1048576) : ∀ (d i : Nat), i + d = p.length → ∃ r, Ev (fun k => slices_IndexFunc_impl_Node_impl_Node.l0 k p (p.length : Int) i) r ∧ decide (r ≥ 0) = !(p.drop i).all nodeOkN := by
  intro d
  induction d with
  | zero =>
    intro i h
    refine ⟨-1, ?_, by rw [drop_nil' (show p.length ≤ i by omega)]; rfl⟩
    apply Ev.step
    · intro k; rw [slices_IndexFunc_impl_Node_impl_Node.l0]
    simp only [if_neg (show ¬ ((i : Int) < p.length) by omega)]
    exact Ev.now _
  | succ d ih =>
    intro i h
    obtain ⟨r, e, g⟩ := ih (i + 1) (by omega)
    have hm := hs _ (rdT_memN (show i < p.length by omega))
    by_cases hp : nodeOkN (rd_T62 p i) = true
    · refine ⟨r, ?_, ?_⟩
      · apply Ev.step
        · intro k; rw [slices_IndexFunc_impl_Node_impl_Node.l0]
        simp only [if_pos (show (i : Int) < p.length by omega), if_pos (show (0 : Int) ≤ i by omega), w64 (x := (i : Int) + 1) (by omega)]
        refine Ev.bind (ev_impl_PlanOk_1 _ hm) ?_
        rw [hp]; simp only [Bool.not_true, if_neg Bool.false_ne_true]
        simpa using e
      · rw [drop_rdT p i (by omega), List.all_cons, hp, Bool.true_and]; exact g
    · refine ⟨i, ?_, ?_⟩
      · apply Ev.step
        · intro k; rw [slices_IndexFunc_impl_Node_impl_Node.l0]
        simp only [if_pos (show (i : Int) < p.length by omega), if_pos (show (0 : Int) ≤ i by omega)]
        refine Ev.bind (ev_impl_PlanOk_1 _ hm) ?_
        rw [Bool.eq_false_iff.mpr hp]; simp only [Bool.not_false, if_true]
        exact Ev.now _
      · rw [drop_rdT p i (by omega), List.all_cons, Bool.eq_false_iff.mpr hp, Bool.false_and]; simp

theorem ev_ContainsNode (p : List S62) (hl : p.length ≤ 1099511627776) (hs : ∀ x ∈ p, x.f1.size ≤ 1048576 ∧ x.f6.length ≤ 1048576) : Ev (fun k => slices_ContainsFunc_impl_Node_impl_Node.f k p) (!p.all nodeOkN) := by
  obtain ⟨r, e, g⟩ := ev_IndexNode p hl hs p.length 0 (by omega)
  simp only [slices_ContainsFunc_impl_Node_impl_Node.f, slices_IndexFunc_impl_Node_impl_Node.f]
  refine Ev.bind (by simpa using e) ?_
  refine Ev.const (congrArg some ?_)
  rw [g, List.drop_zero]

theorem ev_impl_PlanOk (p : List S62) (hl : p.length ≤ 1048576) (hs : ∀ x ∈ p, x.f1.size ≤ 1048576 ∧ x.f6.length ≤ 1048576) : Ev (fun k => impl_PlanOk.f k p) (planOk p) := by
  simp only [impl_PlanOk.f, impl_in_eq, Option.bind_some]
  unfold planOk
  refine Ev_ite (fun h1 => ?_) (fun h1 => ?_)
  · have h1' : 1 ≤ p.length ∧ p.length ≤ 40 := by simp only [decide_eq_true_eq] at h1; omega
    rw [decide_eq_true h1', Bool.true_and]
    refine Ev.bind (ev_ContainsNode p (by omega) hs) ?_
    refine Ev_ite (fun h2 => ?_) (fun h2 => ?_)
    · have : p.all nodeOkN = false := by simpa using h2
      rw [this]; exact Ev.now _
    · have : p.all nodeOkN = true := by simpa using h2
      rw [this, Bool.true_and]
      have := ev_impl_end p hl 10 0 (by omega) (by omega)
      refine Ev.bind (by simpa using this) ?_
      exact Ev.const (congrArg some (by rw [Bool.eq_iff_iff]; simp))
  · have h1' : ¬ (1 ≤ p.length ∧ p.length ≤ 40) := by simp only [decide_eq_true_eq] at h1; omega
    rw [decide_eq_false h1']; exact Ev.now _

abbrev BL := List UInt8
theorem bl_trichot (a b : BL) : a < b ∨ a = b ∨ b < a := by
  by_cases h : a < b
  · exact .inl h
  by_cases h2 : b < a
  · exact .inr (.inr h2)
  · exact .inr (.inl (List.le_antisymm (List.not_lt.1 h2) (List.not_lt.1 h)))
def insL (x : BL) : List BL → List BL
  | [] => [x]
  | y :: ys => if x = y then y :: ys else if x < y then x :: y :: ys else y :: insL x ys
theorem insL_mem (x : BL) : ∀ (l : List BL) (z : BL), z ∈ insL x l ↔ z = x ∨ z ∈ l
  | [], z => by simp [insL]
  | y :: ys, z => by
    unfold insL
    by_cases h : x = y
    · rw [if_pos h]; subst h; simp
    · rw [if_neg h]
      by_cases h2 : x < y
      · rw [if_pos h2]; simp
      · rw [if_neg h2]
        simp only [List.mem_cons, insL_mem x ys z]
        constructor
        · rintro (h | h | h)
          · exact .inr (.inl h)
          · exact .inl h
          · exact .inr (.inr h)
        · rintro (h | h | h)
          · exact .inr (.inl h)
          · exact .inl h
          · exact .inr (.inr h)
theorem insL_sorted (x : BL) : ∀ (l : List BL), l.Pairwise (· < ·) → (insL x l).Pairwise (· < ·)
  | [], _ => by simp [insL]
  | y :: ys, hs => by
    unfold insL
    obtain ⟨h1, h2⟩ := List.pairwise_cons.1 hs
    by_cases h : x = y
    · rw [if_pos h]; exact hs
    · rw [if_neg h]
      by_cases hlt : x < y
      · rw [if_pos hlt]
        refine List.pairwise_cons.2 ⟨fun z hz => ?_, hs⟩
        rcases List.mem_cons.1 hz with rfl | hz
        · exact hlt
        · exact List.lt_trans hlt (h1 z hz)
      · rw [if_neg hlt]
        refine List.pairwise_cons.2 ⟨fun z hz => ?_, insL_sorted x ys h2⟩
        rcases (insL_mem x ys z).1 hz with rfl | hz
        · rcases bl_trichot z y with a | a | a
          · exact absurd a hlt
          · exact absurd a h
          · exact a
        · exact h1 z hz
theorem foldl_ins (names : List BL) : ∀ (acc : List BL), acc.Pairwise (· < ·) → (names.foldl (fun o x => insL x o) acc).Pairwise (· < ·) ∧ ∀ z, z ∈ names.foldl (fun o x => insL x o) acc ↔ z ∈ acc ∨ z ∈ names := by
  induction names with
  | nil => intro acc h; exact ⟨h, fun z => by simp⟩
  | cons x xs ih =>
    intro acc h
    obtain ⟨h1, h2⟩ := ih (insL x acc) (insL_sorted x acc h)
    refine ⟨h1, fun z => ?_⟩
    rw [List.foldl_cons, h2, insL_mem, List.mem_cons]
    constructor
    · rintro ((h | h) | h)
      · exact .inr (.inl h)
      · exact .inl h
      · exact .inr (.inr h)
    · rintro (h | h | h)
      · exact .inl (.inr h)
      · exact .inl (.inl h)
      · exact .inr h
theorem compact_up (d : Array BL) (hs : ∀ i j, i ≤ j → j < d.size → d[i]! ≤ d[j]!) : ∀ m, m ≤ d.size → (Go.Lib.compactUpTo d m).Pairwise (· < ·) ∧ (∀ z, z ∈ Go.Lib.compactUpTo d m ↔ ∃ j, j < m ∧ d[j]! = z) := by
  intro m
  induction m with
  | zero => intro _; refine ⟨by simp [Go.Lib.compactUpTo], fun z => by simp [Go.Lib.compactUpTo]⟩
  | succ m ih =>
    intro hm
    obtain ⟨h1, h2⟩ := ih (by omega)
    rw [Go.Lib.compactUpTo_succ]
    by_cases hk : Go.Lib.keeps d m = true
    · rw [if_pos hk]
      refine ⟨List.pairwise_append.2 ⟨h1, by simp, fun a ha b hb => ?_⟩, fun z => ?_⟩
      · rw [List.mem_singleton.1 hb]
        obtain ⟨j, hj, rfl⟩ := (h2 a).1 ha
        have hne : d[m]! ≠ d[m - 1]! := by
          simp only [Go.Lib.keeps, decide_eq_true_eq] at hk
          rcases hk with hk | hk
          · omega
          · exact hk
        have ha := hs j (m - 1) (by omega) (by omega)
        have hb := hs (m - 1) m (by omega) (by omega)
        rcases bl_trichot d[m - 1]! d[m]! with q | q | q
        · exact List.lt_of_le_of_lt ha q
        · exact absurd q.symm hne
        · exact absurd q (List.not_lt.2 hb)
      · rw [List.mem_append, h2, List.mem_singleton]
        constructor
        · rintro (⟨j, hj, e⟩ | e)
          · exact ⟨j, by omega, e⟩
          · exact ⟨m, by omega, e.symm⟩
        · rintro ⟨j, hj, e⟩
          by_cases q : j = m
          · subst q; exact .inr e.symm
          · exact .inl ⟨j, by omega, e⟩
    · rw [if_neg hk, List.append_nil]
      refine ⟨h1, fun z => ?_⟩
      rw [h2]
      simp only [Go.Lib.keeps, decide_eq_true_eq, not_or, ne_eq, Classical.not_not] at hk
      constructor
      · rintro ⟨j, hj, e⟩; exact ⟨j, by omega, e⟩
      · rintro ⟨j, hj, e⟩
        by_cases q : j = m
        · subst q; exact ⟨j - 1, by omega, by rw [← hk.2]; exact e⟩
        · exact ⟨j, by omega, e⟩
theorem sorted_unique : ∀ (a b : List BL), a.Pairwise (· < ·) → b.Pairwise (· < ·) → (∀ z, z ∈ a ↔ z ∈ b) → a = b
  | [], [], _, _, _ => rfl
  | [], y :: ys, _, _, h => by have := (h y).2 List.mem_cons_self; cases this
  | x :: xs, [], _, _, h => by have := (h x).1 List.mem_cons_self; cases this
  | x :: xs, y :: ys, ha, hb, h => by
    obtain ⟨a1, a2⟩ := List.pairwise_cons.1 ha
    obtain ⟨b1, b2⟩ := List.pairwise_cons.1 hb
    have hxy : x = y := by
      rcases List.mem_cons.1 ((h x).1 List.mem_cons_self) with e | e
      · exact e
      rcases List.mem_cons.1 ((h y).2 List.mem_cons_self) with e2 | e2
      · exact e2.symm
      · exact absurd (List.lt_trans (b1 x e) (a1 y e2)) (List.lt_irrefl y)
    subst hxy
    congr 1
    refine sorted_unique xs ys a2 b2 (fun z => ?_)
    constructor
    · intro hz
      rcases List.mem_cons.1 ((h z).1 (List.mem_cons_of_mem _ hz)) with e | e
      · subst e; exact absurd (a1 z hz) (List.lt_irrefl z)
      · exact e
    · intro hz
      rcases List.mem_cons.1 ((h z).2 (List.mem_cons_of_mem _ hz)) with e | e
      · subst e; exact absurd (b1 z hz) (List.lt_irrefl z)
      · exact e
theorem tabs_eq (names : List BL) : names.foldl (fun o x => insL x o) [] = Go.Lib.compact (names.mergeSort fun x y => decide (x ≤ y)) := by
  obtain ⟨h1, h2⟩ := foldl_ins names [] List.Pairwise.nil
  have hp : (names.mergeSort fun x y => decide (x ≤ y)).Pairwise (fun x y => decide (x ≤ y) = true) := List.pairwise_mergeSort (fun a b c hab hbc => by simp only [decide_eq_true_eq] at *; exact List.le_trans hab hbc) (fun a b => by simp only [Bool.or_eq_true, decide_eq_true_eq]; exact List.le_total a b) names
  have hm : ∀ z, z ∈ (names.mergeSort fun x y => decide (x ≤ y)) ↔ z ∈ names := fun z => List.mem_mergeSort
  generalize (names.mergeSort fun x y => decide (x ≤ y)) = s at *
  have hs : ∀ i j, i ≤ j → j < s.toArray.size → s.toArray[i]! ≤ s.toArray[j]! := by
    intro i j hij hj
    have hj' : j < s.length := by simpa using hj
    by_cases q : i = j
    · subst q; exact List.le_refl _
    · have := List.pairwise_iff_getElem.1 hp i j (by omega) hj' (by omega)
      simp only [decide_eq_true_eq] at this
      simpa [getElem!_pos, hj', show i < s.length by omega] using this
  obtain ⟨c1, c2⟩ := compact_up s.toArray hs s.length (by simp)
  refine sorted_unique _ _ h1 c1 (fun z => ?_)
  rw [h2]
  unfold Go.Lib.compact
  rw [c2, ← hm z]
  constructor
  · rintro (h | h)
    · cases h
    · obtain ⟨j, hj, e⟩ := List.mem_iff_getElem.1 h
      exact ⟨j, hj, by simpa [getElem!_pos, hj] using e⟩
  · rintro ⟨j, hj, e⟩
    refine .inr (List.mem_iff_getElem.2 ⟨j, hj, by simpa [getElem!_pos, hj] using e⟩)

theorem toList_bytes (b : ByteArray) : b.toList = Q.bytesOf b := by
  obtain ⟨⟨l⟩⟩ := b
  simp [Q.bytesOf]
theorem bytes_inj {a b : ByteArray} (h : Q.bytesOf a = Q.bytesOf b) : a = b := by
  rw [← str_bytes a, ← str_bytes b, h]
theorem bytes_str (l : List UInt8) : Q.bytesOf (strOf l) = l := by simp [Q.bytesOf, strOf]
def insU (x : ByteArray) : List ByteArray → List ByteArray
  | [] => [x]
  | y :: ys => if Q.bytesOf x = Q.bytesOf y then y :: ys else if Q.bytesOf x < Q.bytesOf y then x :: y :: ys else y :: insU x ys
theorem insU_map (x : ByteArray) : ∀ l : List ByteArray, (insU x l).map Q.bytesOf = insL (Q.bytesOf x) (l.map Q.bytesOf)
  | [] => rfl
  | y :: ys => by
    unfold insU
    simp only [List.map_cons, insL]
    split
    · rfl
    split
    · rfl
    · rw [List.map_cons, insU_map x ys]
theorem insU_len (x : ByteArray) : ∀ l : List ByteArray, (insU x l).length ≤ l.length + 1
  | [] => by simp [insU]
  | y :: ys => by
    have := insU_len x ys
    unfold insU
    split
    · simp
    split
    · simp
    · simp only [List.length_cons]; omega
theorem foldU_map : ∀ (ns o : List ByteArray), (ns.foldl (fun o x => insU x o) o).map Q.bytesOf = (ns.map Q.bytesOf).foldl (fun o x => insL x o) (o.map Q.bytesOf)
  | [], o => rfl
  | n :: ns, o => by simp only [List.foldl_cons, List.map_cons, foldU_map ns, insU_map]
theorem map_bytes_inj {a b : List ByteArray} (h : a.map Q.bytesOf = b.map Q.bytesOf) : a = b := by
  have := congrArg (List.map strOf) h
  simpa [List.map_map, Function.comp_def, str_bytes] using this
theorem compactB_len (l : List ByteArray) : (compactB l).length ≤ l.length := by
  have := Go.Lib.compact_length_le (l.map Q.bytesOf)
  rw [List.length_map] at this
  unfold compactB
  rw [List.length_map]
  exact this
theorem tabs_same (ns : List ByteArray) : ns.foldl (fun o x => insU x o) [] = compactB (sortB ns) := by
  apply map_bytes_inj
  rw [foldU_map, List.map_nil, tabs_eq]
  unfold compactB sortB
  simp only [List.map_map, Function.comp_def, bytes_str, List.map_id']
def tabNames (p : List S62) : List ByteArray := (p.filter fun x => decide (x.f0 = 0)).map (·.f1)
theorem tabNames_cons (x : S62) (p : List S62) : tabNames (x :: p) = if x.f0 = 0 then x.f1 :: tabNames p else tabNames p := by
  unfold tabNames
  by_cases h : x.f0 = 0
  · simp [h]
  · simp [h]
theorem tabNames_len (p : List S62) : (tabNames p).length ≤ p.length := by
  unfold tabNames
  rw [List.length_map]
  exact List.length_filter_le _ _
def tablesOf (p : List S62) : List ByteArray := if planOk p = true then compactB (sortB (tabNames p)) else []

theorem ev_impl_TablesOf_l0 (p : List S62) (hl : p.length ≤ 1048576) : ∀ (d i : Nat) (acc : List ByteArray), i + d = p.length → acc.length ≤ i → Ev (fun k => impl_TablesOf.l0 k acc p p.length i) (compactB (sortB (acc ++ tabNames (p.drop i)))) := by
  intro d
  induction d with
  | zero =>
    intro i acc h ha
    apply Ev.step
    · intro k; rw [impl_TablesOf.l0]
    simp only [if_neg (show ¬ ((i : Int) < p.length) by omega)]
    rw [List.drop_eq_nil_of_le (by omega)]
    simp only [slices_Sort_string_string.f, slices_Compact_string_string.f, if_pos (show acc.length ≤ 1099511627776 by omega), Option.bind_some]
    exact Ev.const (by simp [tabNames])
  | succ d ih =>
    intro i acc h ha
    apply Ev.step
    · intro k; rw [impl_TablesOf.l0]
    simp only [if_pos (show (i : Int) < p.length by omega), if_pos (show (0 : Int) ≤ i by omega), w64 (x := (i : Int) + 1) (by omega)]
    rw [drop_rdT p i (by omega), tabNames_cons]
    refine Ev_ite (fun c => ?_) (fun c => ?_)
    · rw [if_pos c]
      simp only [if_pos (show acc.length < 8796093022208 by omega)]
      have := ih (i + 1) (acc ++ [(rd_T62 p (i : Int)).f1]) (by omega) (by simp; omega)
      simpa using this
    · rw [if_neg c]
      simpa using ih (i + 1) acc (by omega) (by omega)
theorem ev_impl_TablesOf (p : List S62) (hl : p.length ≤ 1048576) (hs : ∀ x ∈ p, x.f1.size ≤ 1048576 ∧ x.f6.length ≤ 1048576) : Ev (fun k => impl_TablesOf.f k p) (tablesOf p) := by
  simp only [impl_TablesOf.f]
  refine Ev.bind (ev_impl_PlanOk p hl hs) ?_
  unfold tablesOf
  refine Ev_ite (fun h => ?_) (fun h => ?_)
  · rw [if_pos h]
    simpa using ev_impl_TablesOf_l0 p hl p.length 0 [] (by omega) (by simp)
  · rw [if_neg h]; exact Ev.now _

theorem ev_eqIntS_l0 (x0 : List Int) (hl : x0.length ≤ 1099511627776) : ∀ (d : Nat) (i : Nat), i + d = x0.length → Ev (fun k => laws_eqIntS.l0 k x0 x0 i) true := by
  intro d
  induction d with
  | zero =>
    intro i h2
    apply Ev.step
    · intro k; rw [laws_eqIntS.l0]
    simp only [if_neg (show ¬ ((i : Int) < x0.length) by omega)]
    exact Ev.now _
  | succ d ih =>
    intro i h2
    apply Ev.step
    · intro k; rw [laws_eqIntS.l0]
    simp only [if_pos (show (i : Int) < x0.length by omega), if_pos (show (0 : Int) ≤ i by omega), if_true, w64 (x := (i : Int) + 1) (by omega)]
    have := ih (i + 1) (by omega)
    simpa using this
theorem ev_eqIntS (l : List Int) (h : l.length ≤ 1099511627776) : Ev (fun k => laws_eqIntS.f k l l) true := by
  simp only [laws_eqIntS.f, if_true]
  exact ev_eqIntS_l0 l h l.length 0 (by omega)


theorem ev_eqNode (x : S62) (h : x.f6.length ≤ 1099511627776) : Ev (fun k => laws_eqNode.f k x.f0 x.f1 x.f2 x.f3 x.f4 x.f5 x.f6 x.f0 x.f1 x.f2 x.f3 x.f4 x.f5 x.f6) true := by
  simp only [laws_eqNode.f, if_true, bne_self_eq_false, if_neg Bool.false_ne_true]
  refine Ev.bind (ev_eqIntS _ h) ?_
  simp only [if_true]
  exact Ev.now _

theorem ev_laws_eqNodeS_l0 (x0 : List (S62)) (hl : x0.length ≤ 1099511627776) (hs : ∀ x ∈ x0, x.f6.length ≤ 1099511627776) : ∀ (d : Nat) (i : Nat), i + d = x0.length → Ev (fun k => laws_eqNodeS.l0 k x0 x0 i) true := by
  intro d
  induction d with
  | zero =>
    intro i h2
    apply Ev.step
    · intro k; rw [laws_eqNodeS.l0]
    simp only [if_neg (show ¬ ((i : Int) < x0.length) by omega)]
    exact Ev.now _
  | succ d ih =>
    intro i h2
    have hg : x0[i]? = some (rd_T62 x0 (i : Int)) := by simp [rd_T62, show i < x0.length by omega]
    have hm := hs _ (List.mem_of_getElem? hg)
    apply Ev.step
    · intro k; rw [laws_eqNodeS.l0]
    simp only [if_pos (show (i : Int) < x0.length by omega), if_pos (show (0 : Int) ≤ i by omega)]
    refine Ev.bind (ev_eqNode _ hm) ?_
    simp only [if_true, w64 (x := (i : Int) + 1) (by omega)]
    have := ih (i + 1) (by omega)
    simpa using this
theorem ev_laws_eqNodeS (l : List (S62)) (h : l.length ≤ 1099511627776) (hs : ∀ x ∈ l, x.f6.length ≤ 1099511627776) : Ev (fun k => laws_eqNodeS.f k l l) true := by
  simp only [laws_eqNodeS.f, if_true]
  exact ev_laws_eqNodeS_l0 l h hs l.length 0 (by omega)

theorem ev_eqStringS_l0 (l : List ByteArray) (hl : l.length ≤ 1099511627776) : ∀ (d i : Nat), i + d = l.length → Ev (fun k => laws_eqStringS.l0 k l l i) true := by
  intro d
  induction d with
  | zero =>
    intro i h
    apply Ev.step
    · intro k; rw [laws_eqStringS.l0]
    simp only [if_neg (show ¬ ((i : Int) < l.length) by omega)]
    exact Ev.now _
  | succ d ih =>
    intro i h
    apply Ev.step
    · intro k; rw [laws_eqStringS.l0]
    simp only [if_pos (show (i : Int) < l.length by omega), if_pos (show (0 : Int) ≤ i by omega), if_true, w64 (x := (i : Int) + 1) (by omega)]
    simpa using ih (i + 1) (by omega)
theorem ev_eqStringS (l : List ByteArray) (hl : l.length ≤ 1099511627776) : Ev (fun k => laws_eqStringS.f k l l) true := by
  simp only [laws_eqStringS.f, if_true]
  simpa using ev_eqStringS_l0 l hl l.length 0 (by omega)

theorem markText_l0 : ∀ (d : Nat) (x0 : Int) (x3 : ByteArray), 0 ≤ x0 → x0 ≤ 9223372036854775807 → x0 < 10 ^ d → x3.size + d ≤ 1000 → ∃ r, laws_markText.l0 (d + 1) x0 x3 = some r
  | 0, x0, x3, h0, hb, h1, h2 => by
    have hz : x0 = 0 := by simp at h1; omega
    exact ⟨(⟨#[109]⟩ : ByteArray) ++ x3, by rw [laws_markText.l0, if_neg (by omega), if_pos (by omega)]⟩
  | d + 1, x0, x3, h0, hb, h1, h2 => by
    by_cases hp : x0 > 0
    · have hd : x0 / 10 < 10 ^ d := by
        rw [Int.pow_succ] at h1
        exact Int.ediv_lt_of_lt_mul (by omega) h1
      obtain ⟨r, hr2⟩ := markText_l0 d (x0 / 10) (strOfNums [(wrap64 (48 + (Int.tmod x0 10))) % 256] ++ x3) (by omega) (by omega) hd (by rw [ByteArray.size_append, strOfNums_size]; simp; omega)
      refine ⟨r, ?_⟩
      rw [laws_markText.l0, if_pos hp]
      simp only [Option.bind_some]
      rw [if_pos (by rw [strOfNums_size]; simp; omega), tdiv_nn h0, w64 (by omega)]
      exact hr2
    · exact ⟨(⟨#[109]⟩ : ByteArray) ++ x3, by rw [laws_markText.l0, if_neg hp, if_pos (by omega)]⟩
theorem markText_20 (x : Int) (h1 : x ≤ 9223372036854775807) : ∃ r, laws_markText.f 20 x = some r := by
  unfold laws_markText.f
  by_cases h : x ≤ 0
  · exact ⟨_, if_pos h⟩
  · rw [if_neg h]
    exact markText_l0 19 x _ (by omega) h1 (by omega) (by decide)
def mtext (x : Int) : ByteArray := (laws_markText.f 20 x).getD ⟨#[]⟩
theorem ev_markText (x : Int) (h1 : x ≤ 9223372036854775807) : Ev (fun k => laws_markText.f k x) (mtext x) := by
  obtain ⟨r, hr⟩ := markText_20 x h1
  have : mtext x = r := by simp [mtext, hr]
  rw [this]
  exact Ev.of (laws_markText.mono x) hr

def markTS (a : Int) : List ByteArray → List ByteArray
  | [] => []
  | _ :: xs => mtext a :: markTS (a + 1) xs
theorem markTS_length : ∀ (l : List ByteArray) (a : Int), (markTS a l).length = l.length
  | [], _ => rfl
  | _ :: rs, a => by simp [markTS, markTS_length rs]
theorem ev_markStringS_l0 : ∀ (rs dn : List ByteArray) (a : Int), dn.length + rs.length ≤ 1048576 → 0 ≤ a → a + rs.length ≤ 1099511627776 → Ev (fun k => laws_markStringS.l0 k (dn ++ rs) a dn.length) (a + rs.length, dn ++ markTS a rs)
  | [], dn, a, h1, h2, h3 => by
    apply Ev.step
    · intro k; rw [laws_markStringS.l0]
    simp only [List.append_nil, if_neg (show ¬ ((dn.length : Int) < dn.length) by omega)]
    exact Ev.const (by simp [markTS])
  | r :: rs, dn, a, h1, h2, h3 => by
    simp only [List.length_cons] at h1 h3
    have ih := ev_markStringS_l0 rs (dn ++ [mtext a]) (a + 1) (by simp; omega) (by omega) (by omega)
    apply Ev.step
    · intro k; rw [laws_markStringS.l0]
    simp only [if_pos (show (dn.length : Int) < ((dn ++ r :: rs).length : Int) by simp; omega)]
    refine Ev.bind (ev_markText a (by omega)) ?_
    simp only [if_pos (show (0 : Int) ≤ dn.length by omega), Int.toNat_natCast, w64 (x := a + 1) (by omega), w64 (x := (dn.length : Int) + 1) (by omega)]
    rw [show (dn ++ r :: rs).set dn.length (mtext a) = dn ++ [mtext a] ++ rs by simp]
    rw [show ((dn.length : Int) + 1) = ((dn ++ [mtext a]).length : Nat) by simp]
    refine Ev.eq ih ?_
    simp only [markTS, List.length_cons, List.append_assoc, List.singleton_append]
    congr 1
    omega
theorem ev_markStringS (l : List ByteArray) (hl : l.length ≤ 1048576) : Ev (fun k => laws_markStringS.f k l 1) (1 + l.length, markTS 1 l) := by
  simpa [laws_markStringS.f] using ev_markStringS_l0 l [] 1 (by simp; omega) (by omega) (by omega)

theorem ev_heldStringS_l0 : ∀ (rs dn : List ByteArray) (a : Int), dn.length + rs.length ≤ 1048576 → 0 ≤ a → a + rs.length ≤ 1099511627776 → Ev (fun k => laws_heldStringS.l0 k (dn ++ markTS a rs) a dn.length) (a + rs.length)
  | [], dn, a, h1, h2, h3 => by
    apply Ev.step
    · intro k; rw [laws_heldStringS.l0]
    simp only [markTS, List.append_nil, if_neg (show ¬ ((dn.length : Int) < dn.length) by omega)]
    exact Ev.const (by simp)
  | r :: rs, dn, a, h1, h2, h3 => by
    simp only [List.length_cons] at h1 h3
    have ih := ev_heldStringS_l0 rs (dn ++ [mtext a]) (a + 1) (by simp; omega) (by omega) (by omega)
    apply Ev.step
    · intro k; rw [laws_heldStringS.l0]
    have hrd : rdOf ByteArray.empty (dn ++ markTS a (r :: rs)) (dn.length : Int) = mtext a := by simp [rdOf, markTS]
    simp only [if_pos (show (dn.length : Int) < ((dn ++ markTS a (r :: rs)).length : Int) by simp [markTS]; omega), if_pos (show (0 : Int) ≤ dn.length by omega)]
    refine Ev.bind (ev_markText a (by omega)) ?_
    simp only [if_pos (show (rdOf ByteArray.empty (dn ++ markTS a (r :: rs)) (dn.length : Int)).toList = (mtext a).toList by rw [hrd]), w64 (x := a + 1) (by omega), w64 (x := (dn.length : Int) + 1) (by omega)]
    rw [show dn ++ markTS a (r :: rs) = dn ++ [mtext a] ++ markTS (a + 1) rs by simp [markTS]]
    rw [show ((dn.length : Int) + 1) = ((dn ++ [mtext a]).length : Nat) by simp]
    refine Ev.eq ih ?_
    simp only [List.length_cons]
    omega
theorem ev_heldStringS (l : List ByteArray) (hl : l.length ≤ 1048576) : Ev (fun k => laws_heldStringS.f k (markTS 1 l) 1) (1 + l.length) := by
  simpa [laws_heldStringS.f] using ev_heldStringS_l0 l [] 1 (by simp; omega) (by omega) (by omega)

theorem ev_markIntS_l0 (a : Int) (n : Nat) (hn : n ≤ 1099511627776) (ha : 0 ≤ a ∧ a ≤ 1125899906842624) : ∀ (d : Nat) (x0 : List Int) (i : Nat), x0.length = n → i + d = n → (∀ j : Nat, j < i → rd x0 j = a + j) →
    ∃ L : List Int, L.length = n ∧ (∀ j : Nat, j < n → rd L j = a + j) ∧ Ev (fun k => laws_markIntS.l0 k x0 (a + i) i) (a + n, L) := by
  intro d
  induction d with
  | zero =>
    intro x0 i h1 h2 h3
    refine ⟨x0, h1, fun j hj => h3 j (by omega), ?_⟩
    apply Ev.step
    · intro k; rw [laws_markIntS.l0]
    obtain rfl : i = n := by omega
    simp only [if_neg (show ¬ ((i : Int) < x0.length) by omega)]
    exact Ev.now _
  | succ d ih =>
    intro x0 i h1 h2 h3
    obtain ⟨L, hL, hj, he⟩ := ih (x0.set i (a + i)) (i + 1) (by simp [h1]) (by omega) (by
      intro j hj
      by_cases e : j = i
      · subst e; rw [rd_set_self _ _ _ (by omega)]
      · rw [rd_set_ne _ _ _ _ (Ne.symm e)]; exact h3 j (by omega))
    refine ⟨L, hL, hj, ?_⟩
    apply Ev.step
    · intro k; rw [laws_markIntS.l0]
    simp only [if_pos (show (i : Int) < x0.length by omega), if_pos (show (0 : Int) ≤ i by omega), w64 (x := (i : Int) + 1) (by omega), w64 (x := a + (i : Int) + 1) (by omega)]
    simpa [Int.add_assoc] using he
theorem ev_markIntS (l : List Int) (a : Int) (hn : l.length ≤ 1099511627776) (ha : 0 ≤ a ∧ a ≤ 1125899906842624) :
    ∃ L : List Int, L.length = l.length ∧ (∀ j : Nat, j < l.length → rd L j = a + j) ∧ Ev (fun k => laws_markIntS.f k l a) (a + l.length, L) := by
  obtain ⟨L, h1, h2, h3⟩ := ev_markIntS_l0 a l.length hn ha l.length l 0 rfl (by omega) (by intro j hj; omega)
  exact ⟨L, h1, h2, by simpa [laws_markIntS.f] using h3⟩

def upFrom (a : Int) (n : Nat) : List Int := (List.range n).map fun j : Nat => a + (j : Int)
theorem upFrom_length (a : Int) (n : Nat) : (upFrom a n).length = n := by simp [upFrom]
theorem upFrom_rd (a : Int) (n : Nat) : ∀ j : Nat, j < (upFrom a n).length → rd (upFrom a n) j = a + j := by
  intro j hj
  rw [upFrom_length] at hj
  simp [upFrom, rd, List.getD_eq_getElem?_getD, hj]
theorem upFrom_eq {a : Int} {L : List Int} (h : ∀ j : Nat, j < L.length → rd L j = a + j) : L = upFrom a L.length := by
  apply List.ext_getElem?
  intro j
  by_cases hj : j < L.length
  · rw [rd_get L j hj, h j hj, rd_get (upFrom a L.length) j (by rw [upFrom_length]; exact hj), upFrom_rd _ _ j (by rw [upFrom_length]; exact hj)]
  · rw [List.getElem?_eq_none (by omega), List.getElem?_eq_none (by rw [upFrom_length]; omega)]
def markSS (a : Int) : List (List Int) → List (List Int)
  | [] => []
  | r :: rs => upFrom a r.length :: markSS (a + r.length) rs
def markEnd (a : Int) : List (List Int) → Int
  | [] => a
  | r :: rs => markEnd (a + r.length) rs
theorem markSS_length : ∀ (l : List (List Int)) (a : Int), (markSS a l).length = l.length
  | [], _ => rfl
  | r :: rs, a => by simp [markSS, markSS_length rs]
theorem markEnd_range : ∀ (l : List (List Int)) (a : Int), (∀ r ∈ l, r.length ≤ 1048576) → a ≤ markEnd a l ∧ markEnd a l ≤ a + 1048576 * l.length
  | [], a, _ => by simp [markEnd]
  | r :: rs, a, h => by
    have h1 := h r List.mem_cons_self
    have h2 := markEnd_range rs (a + r.length) (fun x hx => h x (List.mem_cons_of_mem _ hx))
    simp only [markEnd, List.length_cons]
    omega

def markN (a : Int) : List S62 → List S62
  | [] => []
  | x :: xs => laws_markNodeS.elem a (mtext (a + 1)) (upFrom (a + 6) x.f6.length) :: markN (a + 6 + x.f6.length) xs
def markNEnd (a : Int) : List S62 → Int
  | [] => a
  | x :: xs => markNEnd (a + 6 + x.f6.length) xs
theorem markN_length : ∀ (l : List S62) (a : Int), (markN a l).length = l.length
  | [], _ => rfl
  | r :: rs, a => by simp [markN, markN_length rs]
theorem markNEnd_range : ∀ (l : List S62) (a : Int), (∀ x ∈ l, x.f6.length ≤ 1048576) → a ≤ markNEnd a l ∧ markNEnd a l ≤ a + 1048582 * l.length
  | [], a, _ => by simp [markNEnd]
  | r :: rs, a, h => by
    have h1 := h r List.mem_cons_self
    have h2 := markNEnd_range rs (a + 6 + r.f6.length) (fun x hx => h x (List.mem_cons_of_mem _ hx))
    simp only [markNEnd, List.length_cons]
    omega
theorem w6 (a : Int) (h : 0 ≤ a ∧ a ≤ 1099511627776000) : wrap64 (a + 1) = a + 1 ∧ wrap64 (a + 1 + 1) = a + 1 + 1 ∧ wrap64 (a + 1 + 1 + 1) = a + 1 + 1 + 1 ∧ wrap64 (a + 1 + 1 + 1 + 1) = a + 1 + 1 + 1 + 1 ∧ wrap64 (a + 1 + 1 + 1 + 1 + 1) = a + 1 + 1 + 1 + 1 + 1 ∧ wrap64 (a + 1 + 1 + 1 + 1 + 1 + 1) = a + 6 :=
  ⟨w64 (by omega), w64 (by omega), w64 (by omega), w64 (by omega), w64 (by omega), by rw [w64 (by omega)]; omega⟩
theorem ev_markNodeS_l0 : ∀ (rs dn : List S62) (a : Int), dn.length + rs.length ≤ 1048576 → (∀ x ∈ rs, x.f6.length ≤ 1048576) → 0 ≤ a → a + 1048582 * rs.length ≤ 4398071676932 →
    Ev (fun k => laws_markNodeS.l0 k (dn ++ rs) a dn.length) (markNEnd a rs, dn ++ markN a rs)
  | [], dn, a, h1, h2, h3, h4 => by
    apply Ev.step
    · intro k; rw [laws_markNodeS.l0]
    simp only [List.append_nil, if_neg (show ¬ ((dn.length : Int) < dn.length) by omega), markNEnd, markN]
    exact Ev.now _
  | r :: rs, dn, a, h1, h2, h3, h4 => by
    simp only [List.length_cons] at h1 h4
    have hr := h2 r List.mem_cons_self
    obtain ⟨L, hL, hj, he⟩ := ev_markIntS r.f6 (a + 6) (by omega) (by omega)
    have hU : L = upFrom (a + 6) r.f6.length := by rw [← hL]; exact upFrom_eq (by rw [hL]; exact hj)
    subst hU
    have ih := ev_markNodeS_l0 rs (dn ++ [laws_markNodeS.elem a (mtext (a + 1)) (upFrom (a + 6) r.f6.length)]) (a + 6 + r.f6.length) (by simp; omega) (fun x hx => h2 x (List.mem_cons_of_mem _ hx)) (by omega) (by omega)
    obtain ⟨q1, q2, q3, q4, q5, q6⟩ := w6 a (by omega)
    apply Ev.step
    · intro k; rw [laws_markNodeS.l0]
    simp only [if_pos (show (dn.length : Int) < ((dn ++ r :: rs).length : Int) by simp; omega), if_pos (show (0 : Int) ≤ dn.length by omega), q1, q2, q3, q4, q5, q6]
    refine Ev.bind (ev_markText (a + 1) (by omega)) ?_
    rw [show laws_markNodeS.row (dn ++ r :: rs) (dn.length : Int) = r by simp [laws_markNodeS.row]]
    refine Ev.bind he ?_
    simp only [w64 (x := (dn.length : Int) + 1) (by omega), Int.toNat_natCast]
    rw [show (dn ++ r :: rs).set dn.length (laws_markNodeS.elem a (mtext (a + 1)) (upFrom (a + 6) r.f6.length)) = dn ++ [laws_markNodeS.elem a (mtext (a + 1)) (upFrom (a + 6) r.f6.length)] ++ rs by simp]
    simpa [markNEnd, markN] using ih
theorem ev_markNodeS (l : List S62) (hl : l.length ≤ 1048576) (hr : ∀ x ∈ l, x.f6.length ≤ 1048576) : Ev (fun k => laws_markNodeS.f k l 1) (markNEnd 1 l, markN 1 l) := by
  simpa [laws_markNodeS.f] using ev_markNodeS_l0 l [] 1 (by simp; omega) hr (by omega) (by omega)
theorem ev_markNodeS_any (l : List S62) (hl : l.length ≤ 1048576) (hr : ∀ x ∈ l, x.f6.length ≤ 1048576) : ∃ k t, 0 ≤ k ∧ Ev (fun n => laws_markNodeS.f n l 1) (k, t) := by
  have h := markNEnd_range l 1 hr
  exact ⟨markNEnd 1 l, markN 1 l, by omega, by simpa [laws_markNodeS.f] using ev_markNodeS_l0 l [] 1 (by simp; omega) hr (by omega) (by omega)⟩
theorem ev_markNodeS_at (l : List S62) (hl : l.length ≤ 1048576) (hr : ∀ x ∈ l, x.f6.length ≤ 1048576) (a : Int) (h0 : 0 ≤ a) (h1 : a ≤ 1099517919233) : Ev (fun k => laws_markNodeS.f k l a) (markNEnd a l, markN a l) := by
  simpa [laws_markNodeS.f] using ev_markNodeS_l0 l [] a (by simp; omega) hr (by omega) (by omega)

theorem szIntS_eq (l : List Int) (a : Int) (h0 : 0 ≤ a) (h1 : a ≤ 1048576) (hl : l.length ≤ 9223372036854775807) : ∃ r, laws_szIntS.f l a = some r ∧ -1 ≤ r ∧ r ≤ a ∧ (0 ≤ r → l.length ≤ 1048576) := by
  by_cases hn : a - (l.length : Int) < 0
  · exact ⟨-1, by simp only [laws_szIntS.f, w64 (x := a - (l.length : Int)) (by omega), if_pos hn], by omega, by omega, fun h => by omega⟩
  · exact ⟨a - l.length, by simp only [laws_szIntS.f, w64 (x := a - (l.length : Int)) (by omega), if_neg hn], by omega, by omega, fun h => by omega⟩
theorem ev_szIntS (l : List Int) (a : Int) (h0 : 0 ≤ a) (h1 : a ≤ 1048576) (hl : l.length ≤ 9223372036854775807) : ∃ r, Ev (fun _ => laws_szIntS.f l a) r ∧ -1 ≤ r ∧ r ≤ a ∧ (0 ≤ r → l.length ≤ 1048576) := by
  obtain ⟨r, h, g⟩ := szIntS_eq l a h0 h1 hl
  exact ⟨r, Ev.const h, g⟩

theorem szNode_eq (x : S57) (a : Int) (h0 : 0 ≤ a) (h1 : a ≤ 1048576) (hl : x.f1.size ≤ 9223372036854775807) (hc : x.f6.length ≤ 9223372036854775807) : ∃ r, laws_szNode.f x.f0 x.f1 x.f2 x.f3 x.f4 x.f5 x.f6 a = some r ∧ -1 ≤ r ∧ r ≤ a ∧ (0 ≤ r → x.f1.size ≤ 1048576 ∧ x.f6.length ≤ 1048576) := by
  by_cases hn : a - (x.f1.size : Int) < 0
  · exact ⟨-1, by simp only [laws_szNode.f, w64 (x := a - (x.f1.size : Int)) (by omega), if_pos hn], by omega, by omega, fun h => by omega⟩
  · obtain ⟨r, e, g1, g2, g3⟩ := szIntS_eq x.f6 (a - x.f1.size) (by omega) (by omega) hc
    by_cases hr : r < 0
    · exact ⟨-1, by simp only [laws_szNode.f, w64 (x := a - (x.f1.size : Int)) (by omega), if_neg hn, e, Option.bind_some, if_pos hr], by omega, by omega, fun h => by omega⟩
    · exact ⟨r, by simp only [laws_szNode.f, w64 (x := a - (x.f1.size : Int)) (by omega), if_neg hn, e, Option.bind_some, if_neg hr], by omega, by omega, fun h => ⟨by omega, g3 h⟩⟩
theorem ev_szNode (x : S57) (a : Int) (h0 : 0 ≤ a) (h1 : a ≤ 1048576) (hm : x.f1.size ≤ 9223372036854775807 ∧ x.f6.length ≤ 9223372036854775807) : ∃ r, Ev (fun _ => laws_szNode.f x.f0 x.f1 x.f2 x.f3 x.f4 x.f5 x.f6 a) r ∧ -1 ≤ r ∧ r ≤ a ∧ (0 ≤ r → x.f1.size ≤ 1048576 ∧ x.f6.length ≤ 1048576) := by
  obtain ⟨r, h, g⟩ := szNode_eq x a h0 h1 hm.1 hm.2
  exact ⟨r, Ev.const h, g⟩

def SmallNodeS (l : List S57) : Prop := l.length ≤ 1048576 ∧ ∀ x ∈ l, x.f1.size ≤ 1048576 ∧ x.f6.length ≤ 1048576
def cvNode (x : S57) : S62 := ⟨x.f0, x.f1, x.f2, x.f3, x.f4, x.f5, x.f6⟩

theorem ev_laws_szNodeS_l0 (x0 : List (S57)) (hl : x0.length ≤ 9223372036854775806) (hs : ∀ x ∈ x0, x.f1.size ≤ 9223372036854775807 ∧ x.f6.length ≤ 9223372036854775807) : ∀ (d : Nat) (a : Int) (i : Nat), i + d = x0.length → 0 ≤ a → a ≤ 1048576 → ∃ r, Ev (fun k => laws_szNodeS.l0 k x0 a i) r ∧ -1 ≤ r ∧ r ≤ a ∧ (0 ≤ r → ∀ x ∈ x0.drop i, x.f1.size ≤ 1048576 ∧ x.f6.length ≤ 1048576) := by
  intro d
  induction d with
  | zero =>
    intro a i h2 h0 h1
    refine ⟨a, ?_, by omega, by omega, fun _ x hx => ?_⟩
    · apply Ev.step
      · intro k; rw [laws_szNodeS.l0]
      simp only [if_neg (show ¬ ((i : Int) < x0.length) by omega)]
      exact Ev.now _
    · rw [List.drop_eq_nil_of_le (by omega)] at hx; cases hx
  | succ d ih =>
    intro a i h2 h0 h1
    have hg : x0[i]? = some (rd_T57 x0 (i : Int)) := by simp [rd_T57, show i < x0.length by omega]
    have hm := hs _ (List.mem_of_getElem? hg)
    obtain ⟨r1, e1, g1, g2, g3⟩ := ev_szNode (rd_T57 x0 (i : Int)) a h0 h1 hm
    have hd : x0.drop i = rd_T57 x0 (i : Int) :: x0.drop (i + 1) := by
      rw [List.drop_eq_getElem_cons (show i < x0.length by omega)]
      congr 1
      rw [List.getElem?_eq_getElem (show i < x0.length by omega)] at hg
      injection hg
    by_cases hr : r1 < 0
    · refine ⟨-1, ?_, by omega, by omega, fun h => by omega⟩
      apply Ev.step
      · intro k; rw [laws_szNodeS.l0]
      simp only [if_pos (show (i : Int) < x0.length by omega), if_pos (show (0 : Int) ≤ i by omega)]
      refine Ev.bind e1 ?_
      simp only [if_pos hr]
      exact Ev.now _
    · obtain ⟨r2, e2, g4, g5, g6⟩ := ih r1 (i + 1) (by omega) (by omega) (by omega)
      refine ⟨r2, ?_, by omega, by omega, fun h x hx => ?_⟩
      · apply Ev.step
        · intro k; rw [laws_szNodeS.l0]
        simp only [if_pos (show (i : Int) < x0.length by omega), if_pos (show (0 : Int) ≤ i by omega)]
        refine Ev.bind e1 ?_
        simp only [if_neg hr, w64 (x := (i : Int) + 1) (by omega)]
        simpa using e2
      · rw [hd] at hx
        rcases List.mem_cons.1 hx with rfl | hx
        · exact g3 (by omega)
        · exact g6 h x hx
theorem ev_laws_szNodeS (l : List (S57)) (a : Int) (h0 : 0 ≤ a) (h1 : a ≤ 1048576) (hl : l.length ≤ 9223372036854775807) (hs : ∀ x ∈ l, x.f1.size ≤ 9223372036854775807 ∧ x.f6.length ≤ 9223372036854775807) : ∃ r, Ev (fun k => laws_szNodeS.f k l a) r ∧ -1 ≤ r ∧ r ≤ a ∧ (0 ≤ r → SmallNodeS l) := by
  by_cases hn : a - (l.length : Int) < 0
  · refine ⟨-1, ?_, by omega, by omega, fun h => by omega⟩
    simp only [laws_szNodeS.f, w64 (x := a - (l.length : Int)) (by omega), if_pos hn]
    exact Ev.now _
  · obtain ⟨r, e, g1, g2, g3⟩ := ev_laws_szNodeS_l0 l (by omega) hs l.length (a - l.length) 0 (by omega) (by omega) (by omega)
    refine ⟨r, ?_, by omega, by omega, fun h => ⟨by omega, by simpa using g3 h⟩⟩
    simp only [laws_szNodeS.f, w64 (x := a - (l.length : Int)) (by omega), if_neg hn]
    exact e

theorem ev_toIntS_l0 (x0 : List Int) (hl : x0.length ≤ 1048576) : ∀ (d : Nat) (x3 : List Int) (i : Nat), x3.length = x0.length → i + d = x0.length → x3.take i = x0.take i → Ev (fun k => laws_toIntS.l0 k x0 x3 i) x0 := by
  intro d
  induction d with
  | zero =>
    intro x3 i h1 h2 h3
    apply Ev.step
    · intro k; rw [laws_toIntS.l0]
    simp only [if_neg (show ¬ ((i : Int) < x0.length) by omega)]
    rw [take_eq_all h1 (by omega) h3]
    exact Ev.now _
  | succ d ih =>
    intro x3 i h1 h2 h3
    apply Ev.step
    · intro k; rw [laws_toIntS.l0]
    simp only [if_pos (show (i : Int) < x0.length by omega), if_pos (show (0 : Int) ≤ i by omega), if_pos (show (i : Int) < x3.length by omega), w64 (x := (i : Int) + 1) (by omega)]
    have := ih (x3.set i (rd x0 i)) (i + 1) (by simp [h1]) (by omega) (take_set_at _ _ _ _ h1 (by omega) (rd_get _ _ (by omega)) h3)
    simpa using this
theorem ev_toIntS (l : List Int) (h : l.length ≤ 1048576) : Ev (fun k => laws_toIntS.f k l) l := by
  simp only [laws_toIntS.f, if_pos (show (0 : Int) ≤ l.length by omega), if_pos (show (l.length : Int).toNat ≤ 35184372088832 by omega)]
  exact ev_toIntS_l0 l h l.length _ 0 (by simp) (by omega) (by simp)

theorem ev_toNode (x : S57) (h : x.f6.length ≤ 1048576) : Ev (fun k => laws_toNode.f k x.f0 x.f1 x.f2 x.f3 x.f4 x.f5 x.f6) (x.f0, x.f1, x.f2, x.f3, x.f4, x.f5, x.f6) := by
  simp only [laws_toNode.f]
  refine Ev.bind (ev_toIntS _ h) ?_
  exact Ev.now _

theorem ev_laws_toNodeS_l0 (x0 : List (S57)) (hl : x0.length ≤ 1048576) (hs : ∀ x ∈ x0, x.f1.size ≤ 1048576 ∧ x.f6.length ≤ 1048576) : ∀ (d : Nat) (x3 : List (S62)) (i : Nat), x3.length = x0.length → i + d = x0.length → x3.take i = (x0.map cvNode).take i → Ev (fun k => laws_toNodeS.l0 k x0 x3 i) (x0.map cvNode) := by
  intro d
  induction d with
  | zero =>
    intro x3 i h1 h2 h3
    apply Ev.step
    · intro k; rw [laws_toNodeS.l0]
    simp only [if_neg (show ¬ ((i : Int) < x0.length) by omega)]
    rw [take_eq_all (xs := x0.map cvNode) (by simpa using h1) (by simp; omega) h3]
    exact Ev.now _
  | succ d ih =>
    intro x3 i h1 h2 h3
    have hg : x0[i]? = some (rd_T57 x0 (i : Int)) := by simp [rd_T57, show i < x0.length by omega]
    have hm := hs _ (List.mem_of_getElem? hg)
    apply Ev.step
    · intro k; rw [laws_toNodeS.l0]
    simp only [if_pos (show (i : Int) < x0.length by omega), if_pos (show (0 : Int) ≤ i by omega)]
    refine Ev.bind (ev_toNode _ hm.2) ?_
    simp only [if_pos (show (i : Int) < x3.length by omega), w64 (x := (i : Int) + 1) (by omega)]
    have := ih (x3.set i (cvNode (rd_T57 x0 (i : Int)))) (i + 1) (by simp [h1]) (by omega) (take_set_at (x0.map cvNode) _ _ _ (by simpa using h1) (by simp; omega) (by rw [List.getElem?_map, hg]; rfl) h3)
    first | (simpa using this) | (simpa [cvNode] using this)
theorem ev_laws_toNodeS (l : List (S57)) (h : SmallNodeS l) : Ev (fun k => laws_toNodeS.f k l) (l.map cvNode) := by
  have h1 := h.1
  simp only [laws_toNodeS.f, if_pos (show (0 : Int) ≤ l.length by omega), if_pos (show (l.length : Int).toNat ≤ 3518437208883 by omega)]
  exact ev_laws_toNodeS_l0 l h.1 h.2 l.length _ 0 (by simp) (by omega) (by simp)

theorem spec_l01In_eq (a b c : Int) : spec_l01In.f a b c = some (decide (b ≤ a ∧ a ≤ c)) := by
  unfold spec_l01In.f
  by_cases h : b ≤ a
  · rw [if_pos h]; simp [h]
  · rw [if_neg h]; simp [h]

theorem ev_spec_WordOk_l0 (s : ByteArray) (hs : s.size ≤ 1099511627776) : ∀ (d i : Nat), i + d = s.size → (i = 0 → 97 ≤ bt s 0) → Ev (fun k => spec_WordOk.l0 k s i) (wordFrom s d i) := by
  intro d
  induction d with
  | zero =>
    intro i h _
    apply Ev.step
    · intro k; rw [spec_WordOk.l0]
    simp only [if_neg (show ¬ ((i : Int) < s.size) by omega)]
    exact Ev.now _
  | succ d ih =>
    intro i h h0
    have ih' := ih (i + 1) (by omega) (by omega)
    apply Ev.step
    · intro k; rw [spec_WordOk.l0]
    simp only [if_pos (show (i : Int) < s.size by omega), if_pos (show (0 : Int) ≤ i by omega), w64 (x := (i : Int) + 1) (by omega), wordFrom]
    have hi : i = 0 → 97 ≤ bt s i := by intro e; subst e; exact h0 rfl
    by_cases h1 : bt s i < 97
    · simp only [if_pos h1]
      have hp : 0 < i := by rcases Nat.eq_zero_or_pos i with e | e; · have := hi e; omega
                            · exact e
      by_cases h2 : bt s i < 48
      · simp only [if_pos h2, show okAt s i = false by simp [okAt]; omega, Bool.false_and]; exact Ev.now _
      · by_cases h3 : bt s i > 57
        · simp only [if_neg h2, if_pos h3, show okAt s i = false by simp [okAt]; omega, Bool.false_and]; exact Ev.now _
        · simp only [if_neg h2, if_neg h3, show okAt s i = true by simp [okAt]; omega, Bool.true_and]; exact ih'
    · simp only [if_neg h1]
      by_cases h2 : bt s i > 122
      · simp only [if_pos h2, if_neg (show ¬ bt s i < 48 by omega), if_pos (show bt s i > 57 by omega), show okAt s i = false by simp [okAt]; omega, Bool.false_and]; exact Ev.now _
      · simp only [if_neg h2, show okAt s i = true by simp [okAt]; omega, Bool.true_and]; exact ih'
theorem ev_spec_WordOk (s : ByteArray) (hs : s.size ≤ 1099511627776) : Ev (fun k => spec_WordOk.f k s) (wordOk s) := by
  simp only [spec_WordOk.f, spec_l01In_eq, Option.bind_some, decide_eq_true_eq, wordOk]
  by_cases h : 1 ≤ s.size ∧ s.size ≤ 12
  · simp only [if_pos (show 1 ≤ (s.size : Int) ∧ (s.size : Int) ≤ 12 by omega), if_pos (show (0 : Int) < s.size by omega), decide_eq_true h, Bool.true_and]
    apply Ev.step
    · intro k; rw [spec_WordOk.j0]
    simp only [decide_eq_true_eq]
    by_cases h1 : bt s 0 < 97
    · simp only [if_pos h1]
      obtain ⟨d, hd⟩ : ∃ d, s.size = d + 1 := ⟨s.size - 1, by omega⟩
      rw [hd, wordFrom, show okAt s 0 = false by simp [okAt]; omega, Bool.false_and]
      exact Ev.now _
    · simp only [if_neg h1]
      exact ev_spec_WordOk_l0 s hs s.size 0 (by omega) (by omega)
  · simp only [if_neg (show ¬ (1 ≤ (s.size : Int) ∧ (s.size : Int) ≤ 12) by omega), decide_eq_false h, Bool.false_and]
    apply Ev.step
    · intro k; rw [spec_WordOk.j0]
    simp only [if_true]
    exact Ev.now _

theorem spec_l01Number_eq (a : Int) : spec_l01Number.f a = some (isNumB a) := by
  unfold spec_l01Number.f; rw [spec_l01In_eq]; rfl

theorem spec_l02Col_eq (a : Int) : spec_l02Col.f a = some (colB a) := by
  unfold spec_l02Col.f; rw [spec_l01In_eq]; rfl

theorem ev_spec_NodeOk_l0 (kind : Int) (name : ByteArray) (col op num : Int) (slot : Bool) (cols : List Int) (hl : cols.length ≤ 1099511627776) : ∀ (d i : Nat), i + d = cols.length → Ev (fun k => spec_NodeOk.l0 k i kind name col op num slot cols) ((cols.drop i).all colB && decide (1 ≤ cols.length ∧ cols.length ≤ 6) && decide (col = 0 ∧ num = 0 ∧ slot = false)) := by
  intro d
  induction d with
  | zero =>
    intro i h
    apply Ev.step
    · intro k; rw [spec_NodeOk.l0]
    simp only [if_neg (show ¬ ((i : Int) < cols.length) by omega), spec_l01In_eq, Option.bind_some, drop_nil' (show cols.length ≤ i by omega), List.all_nil, Bool.true_and]
    by_cases h1 : 1 ≤ cols.length ∧ cols.length ≤ 6
    · simp only [decide_eq_true (show 1 ≤ (cols.length : Int) ∧ (cols.length : Int) ≤ 6 by omega), if_true, decide_eq_true h1, Bool.true_and]
      by_cases h2 : col = 0
      · by_cases h3 : num = 0
        · simp only [if_pos h2, if_pos h3]; exact Ev.const (by simp [h2, h3])
        · simp only [if_pos h2, if_neg h3]; exact Ev.const (by simp [h3])
      · simp only [if_neg h2]; exact Ev.const (by simp [h2])
    · simp only [decide_eq_false (show ¬ (1 ≤ (cols.length : Int) ∧ (cols.length : Int) ≤ 6) by omega), if_neg Bool.false_ne_true, decide_eq_false h1, Bool.false_and]
      exact Ev.now _
  | succ d ih =>
    intro i h
    have ih' := ih (i + 1) (by omega)
    rw [drop_rd cols i (by omega)]
    apply Ev.step
    · intro k; rw [spec_NodeOk.l0]
    simp only [if_pos (show (i : Int) < cols.length by omega), if_pos (show (0 : Int) ≤ i by omega), spec_l02Col_eq, Option.bind_some, w64 (x := (i : Int) + 1) (by omega), List.all_cons]
    by_cases h1 : colB (rd cols i) = true
    · simp only [h1, if_true, Bool.true_and]; simpa using ih'
    · simp only [if_neg h1, Bool.eq_false_iff.mpr h1, Bool.false_and]; exact Ev.now _
theorem ev_spec_NodeOk (kind : Int) (name : ByteArray) (col op num : Int) (slot : Bool) (cols : List Int) (hl : cols.length ≤ 1099511627776) (hn : name.size ≤ 1099511627776) : Ev (fun k => spec_NodeOk.f k kind name col op num slot cols) (nodeOk kind name col op num slot cols) := by
  have main : ∀ b, b = nodePre kind name op num slot cols → Ev (fun k => spec_NodeOk.j0 k b kind name col op num slot cols) (nodeOk kind name col op num slot cols) := by
    intro b hb
    unfold nodeOk
    rw [← hb]
    cases b with
    | true =>
      apply Ev.step
      · intro k; rw [spec_NodeOk.j0]
      exact Ev.now _
    | false =>
      apply Ev.step
      · intro k; rw [spec_NodeOk.j0]
      simp only [if_neg Bool.false_ne_true, Bool.not_false, Bool.true_and]
      unfold nodeKind
      refine Ev_ite (fun h0 => ?_) (fun h0 => ?_)
      · rw [if_pos h0]
        refine Ev.bind (ev_spec_WordOk name hn) ?_
        refine Ev_ite (fun h1 => ?_) (fun h1 => ?_)
        · rw [h1, Bool.true_and]
          refine Ev_ite (fun h2 => Ev_ite (fun h3 => ?_) (fun h3 => ?_)) (fun h2 => ?_)
          · exact Ev.const (by simp [h2, h3])
          · exact Ev.const (by simp [h3])
          · exact Ev.const (by simp [h2])
        · rw [Bool.eq_false_iff.mpr h1]; exact Ev.now _
      rw [if_neg h0]
      refine Ev_ite (fun h1 => ?_) (fun h1 => ?_)
      · rw [if_pos h1]
        simp only [spec_l02Col_eq, spec_l01In_eq, spec_l01Number_eq, Option.bind_some]
        refine Ev_ite (fun h2 => ?_) (fun h2 => Ev.const (by simp [Bool.eq_false_iff.mpr h2]))
        refine Ev_ite (fun h3 => ?_) (fun h3 => Ev.const (by simp [Bool.eq_false_iff.mpr h3]))
        refine Ev_ite (fun h4 => ?_) (fun h4 => Ev.const (by simp [Bool.eq_false_iff.mpr h4]))
        rw [h2, h3, h4]
        refine Ev_ite (fun h5 => Ev_ite (fun h6 => ?_) (fun h6 => ?_)) (fun h5 => ?_)
        · exact Ev.const (by simp [h5, h6])
        · exact Ev.const (by simp [h5, h6])
        · exact Ev.const (by simp [h5])
      rw [if_neg h1]
      refine Ev_ite (fun h2 => ?_) (fun h2 => ?_)
      · rw [if_pos h2]
        simpa using ev_spec_NodeOk_l0 kind name col op num slot cols hl cols.length 0 (by omega)
      rw [if_neg h2]
      simp only [spec_l02Col_eq, spec_l01In_eq, Option.bind_some]
      refine Ev_ite (fun h3 => ?_) (fun h3 => ?_)
      · rw [if_pos h3]
        refine Ev_ite (fun h4 => Ev_ite (fun h5 => ?_) (fun h5 => ?_)) (fun h4 => ?_)
        · exact Ev.const (by simp [h4, h5])
        · exact Ev.const (by simp [Bool.eq_false_iff.mpr h5])
        · exact Ev.const (by simp [Bool.eq_false_iff.mpr h4])
      rw [if_neg h3]
      refine Ev_ite (fun h4 => ?_) (fun h4 => ?_)
      · rw [if_pos h4]
        refine Ev_ite (fun h5 => Ev_ite (fun h6 => ?_) (fun h6 => ?_)) (fun h5 => ?_)
        · exact Ev.const (by simp [h5, h6])
        · exact Ev.const (by simp [h6])
        · exact Ev.const (by simp [Bool.eq_false_iff.mpr h5])
      rw [if_neg h4]
      refine Ev_ite (fun h5 => ?_) (fun h5 => ?_)
      · rw [if_pos h5]
        refine Ev_ite (fun h6 => ?_) (fun h6 => ?_)
        · exact Ev.const (by simp [h6])
        · exact Ev.const (by simp [h6])
      rw [if_neg h5]
      refine Ev_ite (fun h6 => ?_) (fun h6 => Ev_ite (fun h7 => ?_) (fun h7 => ?_))
      · rw [if_pos (Or.inl h6)]
        refine Ev_ite (fun h7 => Ev_ite (fun h8 => ?_) (fun h8 => ?_)) (fun h7 => ?_)
        · exact Ev.const (by simp [h7, h8])
        · exact Ev.const (by simp [h8])
        · exact Ev.const (by simp [h7])
      · rw [if_pos (Or.inr h7)]
        refine Ev_ite (fun h7 => Ev_ite (fun h8 => ?_) (fun h8 => ?_)) (fun h7 => ?_)
        · exact Ev.const (by simp [h7, h8])
        · exact Ev.const (by simp [h8])
        · exact Ev.const (by simp [h7])
      · rw [if_neg (by intro h; rcases h with h | h; exact h6 h; exact h7 h)]
        exact Ev.now _
  have hlen : ((cols.length : Int) > 0) ↔ cols ≠ [] := by
    cases cols with
    | nil => simp
    | cons => simp
  have e39 : decide (0 ≤ num ∧ num ≤ 39) = slotB num := rfl
  simp only [spec_NodeOk.f, spec_l01In_eq, Option.bind_some, e39]
  repeat' (refine Ev_ite (fun _ => ?_) (fun _ => ?_))
  all_goals first
    | (exfalso; omega)
    | (refine main _ ?_
       unfold nodePre
       cases hsl : slotB num <;> simp_all)

theorem ev_spec_ArityOf (a : Int) : Ev (fun k => spec_ArityOf.f k a) (arity a) := by
  simp only [spec_ArityOf.f]
  by_cases h0 : a = 0
  · subst h0; simp only [if_true]; exact Ev.now _
  by_cases h3 : a = 3
  · subst h3
    simp only [if_neg (show ¬ (3 : Int) = 0 by omega), if_true]
    apply Ev.step
    · intro k; rw [spec_ArityOf.j0]
    exact Ev.const (by simp [arity])
  simp only [if_neg h0, if_neg h3]
  apply Ev.step
  · intro k; rw [spec_ArityOf.j0]
  refine Ev.const ?_
  unfold arity
  by_cases h4 : a = 4
  · subst h4; simp
  · simp only [beq_iff_eq, if_neg h0, if_neg h3, if_neg h4]
    repeat' split
    all_goals first | rfl | omega

def endD : Option (Nat × Nat) → Int × Int
  | none => (-1, 0)
  | some x => (x.1, x.2)
theorem ev_spec_l02End (p : List S62) (hl : p.length ≤ 1048576) : ∀ (room k : Nat), room ≤ 10 → k ≤ 1099511627776 → Ev (fun n => spec_l02End.f n p k (room : Int)) (endD (endP p room k)) := by
  intro room
  induction room with
  | zero =>
    intro k _ hk
    apply Ev.step
    · intro k; rw [spec_l02End.f]
    refine Ev_ite (fun _ => ?_) (fun _ => ?_)
    · apply Ev.step
      · intro k; rw [spec_l02End.j0]
      exact Ev.now _
    · apply Ev.step
      · intro k; rw [spec_l02End.j0]
      exact Ev.now _
  | succ room ih =>
    intro k hr hk
    apply Ev.step
    · intro k; rw [spec_l02End.f]
    refine Ev_ite (fun h0 => ?_) (fun h0 => ?_)
    · rw [endP, if_pos (by omega)]
      apply Ev.step
      · intro k; rw [spec_l02End.j0]
      exact Ev.now _
    rw [endP, if_neg (by omega)]
    have eb : (((room + 1 : Nat) : Int) == 0) = false := by rw [beq_eq_false_iff_ne]; omega
    simp only [eb]
    apply Ev.step
    · intro k; rw [spec_l02End.j0]
    simp only [if_neg Bool.false_ne_true]
    have e1 : ((room + 1 : Nat) : Int) - 1 = (room : Int) := by omega
    have e2 : ((k : Int) + 1) = ((k + 1 : Nat) : Int) := by omega
    have hka : arity (rd_T62 p (k : Int)).f0 = arity (kAt p k) := rfl
    have i1 := ih (k + 1) (by omega) (by omega)
    simp only [w64 (x := (k : Int) + 1) (by omega), e2, w64 (x := ((k + 1 : Nat) : Int)) (by omega)]
    apply Ev.step
    · intro k; rw [spec_l02End.l0]
    simp only [if_pos (show (0 : Int) ≤ k by omega), if_pos (show (k : Int) < p.length by omega)]
    refine Ev.bind (ev_spec_ArityOf _) ?_
    rw [hka]
    rcases arity_cases (kAt p k) with h | h | h | h
    · rw [h, if_neg (by omega), if_neg (by omega)]
      simp only [if_neg (show ¬ (0 : Int) < -1 by omega), w01]
      exact Ev.now _
    · rw [h, if_neg (by omega), if_neg (by omega)]
      simp only [if_neg (show ¬ (0 : Int) < 0 by omega), w01]
      exact Ev.now _
    · rw [h, if_neg (by omega), if_pos rfl]
      simp only [if_pos (show (0 : Int) < 1 by omega), w64 (x := ((room + 1 : Nat) : Int) - 1) (by omega), e1, w64 (x := (room : Int)) (by omega)]
      refine Ev.bind i1 ?_
      cases hx : endP p room (k + 1) with
      | none => exact Ev.now _
      | some x =>
        have hxr := endP_range p _ _ _ hx
        rw [show endD (some x) = ((x.1 : Int), (x.2 : Int)) from rfl]
        simp only [if_neg (show ¬ (x.1 : Int) < 0 by omega), Option.bind_some, if_pos (show (x.2 : Int) > 0 by omega)]
        apply Ev.step
        · intro k; rw [spec_l02End.l0]
        simp only [if_pos (show (0 : Int) ≤ k by omega), if_pos (show (k : Int) < p.length by omega)]
        refine Ev.bind (ev_spec_ArityOf _) ?_
        rw [hka, h]
        simp only [w01, if_neg (show ¬ (1 : Int) < 1 by omega), w64 (x := (x.2 : Int) + 1) (by omega)]
        exact Ev.const (congrArg some (Prod.ext rfl (by simp [endD])))
    · rw [h, if_pos rfl]
      simp only [if_pos (show (0 : Int) < 2 by omega), w64 (x := ((room + 1 : Nat) : Int) - 1) (by omega), e1, w64 (x := (room : Int)) (by omega)]
      refine Ev.bind i1 ?_
      cases hx : endP p room (k + 1) with
      | none => exact Ev.now _
      | some x =>
        have hxr := endP_range p _ _ _ hx
        rw [show endD (some x) = ((x.1 : Int), (x.2 : Int)) from rfl]
        simp only [if_neg (show ¬ (x.1 : Int) < 0 by omega), Option.bind_some, if_pos (show (x.2 : Int) > 0 by omega)]
        apply Ev.step
        · intro k; rw [spec_l02End.l0]
        simp only [if_pos (show (0 : Int) ≤ k by omega), if_pos (show (k : Int) < p.length by omega)]
        refine Ev.bind (ev_spec_ArityOf _) ?_
        rw [hka, h]
        simp only [w01, w12, if_pos (show (1 : Int) < 2 by omega), w64 (x := ((room + 1 : Nat) : Int) - 1) (by omega), e1, w64 (x := (room : Int)) (by omega)]
        refine Ev.bind (ih x.1 (by omega) (by omega)) ?_
        cases hy : endP p room x.1 with
        | none => exact Ev.now _
        | some y =>
          have hyr := endP_range p _ _ _ hy
          rw [show endD (some y) = ((y.1 : Int), (y.2 : Int)) from rfl]
          simp only [if_neg (show ¬ (y.1 : Int) < 0 by omega), Option.bind_some]
          refine Ev_ite (fun h5 => ?_) (fun h5 => ?_)
          · apply Ev.step
            · intro k; rw [spec_l02End.l0]
            simp only [if_pos (show (0 : Int) ≤ k by omega), if_pos (show (k : Int) < p.length by omega)]
            refine Ev.bind (ev_spec_ArityOf _) ?_
            rw [hka, h]
            simp only [w01, w12, if_neg (show ¬ (2 : Int) < 2 by omega), w64 (x := (y.2 : Int) + 1) (by omega)]
            exact Ev.const (congrArg some (Prod.ext rfl (by simp only [Option.bind_some, endD]; omega)))
          · apply Ev.step
            · intro k; rw [spec_l02End.l0]
            simp only [if_pos (show (0 : Int) ≤ k by omega), if_pos (show (k : Int) < p.length by omega)]
            refine Ev.bind (ev_spec_ArityOf _) ?_
            rw [hka, h]
            simp only [w01, w12, if_neg (show ¬ (2 : Int) < 2 by omega), w64 (x := (x.2 : Int) + 1) (by omega)]
            exact Ev.const (congrArg some (Prod.ext rfl (by simp only [Option.bind_some, endD]; omega)))

theorem endD_fst (o : Option (Nat × Nat)) : (endD o).1 = endI o := by cases o <;> rfl
theorem ev_spec_PlanOk_l0 (p : List S62) (hl : p.length ≤ 1048576) (hs : ∀ x ∈ p, x.f1.size ≤ 1048576 ∧ x.f6.length ≤ 1048576) : ∀ (d i : Nat), i + d = p.length → Ev (fun k => spec_PlanOk.l0 k p i) ((p.drop i).all nodeOkN && decide (endI (endP p 10 0) = p.length)) := by
  intro d
  induction d with
  | zero =>
    intro i h
    apply Ev.step
    · intro k; rw [spec_PlanOk.l0]
    simp only [if_neg (show ¬ ((i : Int) < p.length) by omega), drop_nil' (show p.length ≤ i by omega), List.all_nil, Bool.true_and]
    have := ev_spec_l02End p hl 10 0 (by omega) (by omega)
    refine Ev.bind (by simpa using this) ?_
    rw [endD_fst]
    exact Ev.const (congrArg some (by rw [Bool.eq_iff_iff]; simp))
  | succ d ih =>
    intro i h
    have ih' := ih (i + 1) (by omega)
    have hm := hs _ (rdT_memN (show i < p.length by omega))
    rw [drop_rdT p i (by omega), List.all_cons]
    apply Ev.step
    · intro k; rw [spec_PlanOk.l0]
    simp only [if_pos (show (i : Int) < p.length by omega), if_pos (show (0 : Int) ≤ i by omega), w64 (x := (i : Int) + 1) (by omega)]
    refine Ev.bind (ev_spec_NodeOk _ _ _ _ _ _ _ (by omega) (by omega)) ?_
    refine Ev_ite (fun h1 => ?_) (fun h1 => ?_)
    · rw [show nodeOkN (rd_T62 p i) = true from h1, Bool.true_and]; simpa using ih'
    · rw [show nodeOkN (rd_T62 p i) = false from Bool.eq_false_iff.mpr h1, Bool.false_and, Bool.false_and]; exact Ev.now _
theorem ev_spec_PlanOk (p : List S62) (hl : p.length ≤ 1048576) (hs : ∀ x ∈ p, x.f1.size ≤ 1048576 ∧ x.f6.length ≤ 1048576) : Ev (fun k => spec_PlanOk.f k p) (planOk p) := by
  simp only [spec_PlanOk.f, spec_l01In_eq, Option.bind_some]
  unfold planOk
  refine Ev_ite (fun h1 => ?_) (fun h1 => ?_)
  · have h1' : 1 ≤ p.length ∧ p.length ≤ 40 := by simp only [decide_eq_true_eq] at h1; omega
    rw [decide_eq_true h1', Bool.true_and]
    simpa using ev_spec_PlanOk_l0 p hl hs p.length 0 (by omega)
  · have h1' : ¬ (1 ≤ p.length ∧ p.length ≤ 40) := by simp only [decide_eq_true_eq] at h1; omega
    rw [decide_eq_false h1']; exact Ev.now _

theorem ev_spec_l01Less_l0 (a b : ByteArray) (ha : a.size ≤ 1099511627776) (hb : b.size ≤ 1099511627776) : ∀ (d i : Nat), i + d = a.size → Ev (fun k => spec_l01Less.l0 k a b i) (Op.bytesLess (a.toList.drop i) (b.toList.drop i)) := by
  intro d
  induction d with
  | zero =>
    intro i h
    apply Ev.step
    · intro k; rw [spec_l01Less.l0]
    simp only [if_neg (show ¬ ((i : Int) < a.size) by omega)]
    apply Ev.step
    · intro k; rw [spec_l01Less.j1]
    simp only [if_neg Bool.false_ne_true, toList_end a i (by omega)]
    refine Ev.const (congrArg some ?_)
    by_cases hb' : i < b.size
    · obtain ⟨y, e, _⟩ := toList_drop b i hb'
      rw [e, decide_eq_true (show (a.size : Int) < b.size by omega)]; rfl
    · rw [toList_end b i (by omega), decide_eq_false (show ¬ (a.size : Int) < b.size by omega)]; rfl
  | succ d ih =>
    intro i h
    have ih' := ih (i + 1) (by omega)
    obtain ⟨x, ex, hx⟩ := toList_drop a i (by omega)
    apply Ev.step
    · intro k; rw [spec_l01Less.l0]
    simp only [if_pos (show (i : Int) < a.size by omega)]
    by_cases hb' : i < b.size
    · obtain ⟨y, ey, hy⟩ := toList_drop b i hb'
      rw [ex, ey, bytesLess_cons hx hy]
      apply Ev.step
      · intro k; rw [spec_l01Less.j1]
      simp only [decide_eq_true (show (i : Int) < b.size by omega), if_true, if_pos (show (0 : Int) ≤ i by omega), if_pos (show (i : Int) < a.size by omega), if_pos (show (i : Int) < b.size by omega), w64 (x := (i : Int) + 1) (by omega)]
      by_cases he : bt a i = bt b i
      · simp only [if_pos he, decide_eq_true he, decide_eq_false (show ¬ bt a i < bt b i by omega), Bool.false_or, Bool.true_and]
        simpa using ih'
      · simp only [if_neg he, decide_eq_false he, Bool.false_and, Bool.or_false]
        exact Ev.now _
    · rw [toList_end b i (by omega)]
      apply Ev.step
      · intro k; rw [spec_l01Less.j1]
      simp only [decide_eq_false (show ¬ (i : Int) < b.size by omega), if_neg Bool.false_ne_true]
      refine Ev.const (congrArg some ?_)
      rw [ex, decide_eq_false (show ¬ (a.size : Int) < b.size by omega)]; rfl
theorem ev_spec_l01Less (a b : ByteArray) (ha : a.size ≤ 1099511627776) (hb : b.size ≤ 1099511627776) : Ev (fun k => spec_l01Less.f k a b) (Op.bytesLess a.toList b.toList) := by
  simpa [spec_l01Less.f] using ev_spec_l01Less_l0 a b ha hb a.size 0 (by omega)

theorem rdOf_drop (l : List ByteArray) (k : Nat) (h : k < l.length) : l.drop k = rdOf ByteArray.empty l (k : Int) :: l.drop (k + 1) := by
  rw [List.drop_eq_getElem_cons h]
  simp [rdOf, h]
theorem ev_tabs_true (p : List S62) (out : List ByteArray) (i : Nat) (r : List ByteArray) (hi : i ≤ 1048576) (ho : out.length ≤ 1048576) : ∀ (d k : Nat) (next : List ByteArray), k + d = out.length → next.length ≤ k + 1 → Ev (fun q => spec_TablesOf.l0 q p (next ++ out.drop k) ((i : Int) + 1)) r → Ev (fun q => spec_TablesOf.l1 q p out (i : Int) next true k) r := by
  intro d
  induction d with
  | zero =>
    intro k next h hn hr
    apply Ev.step
    · intro k; rw [spec_TablesOf.l1]
    simp only [if_neg (show ¬ ((k : Int) < out.length) by omega), if_true, w64 (x := (i : Int) + 1) (by omega)]
    rw [List.drop_eq_nil_of_le (by omega), List.append_nil] at hr
    exact hr
  | succ d ih =>
    intro k next h hn hr
    apply Ev.step
    · intro k; rw [spec_TablesOf.l1]
    simp only [if_pos (show (k : Int) < out.length by omega), if_true]
    apply Ev.step
    · intro k; rw [spec_TablesOf.j2]
    simp only [if_neg Bool.false_ne_true, if_true, if_pos (show (0 : Int) ≤ k by omega), if_pos (show (k : Int) < out.length by omega), if_pos (show next.length < 8796093022208 by omega), w64 (x := (k : Int) + 1) (by omega)]
    rw [rdOf_drop out k (by omega)] at hr
    have := ih (k + 1) (next ++ [rdOf ByteArray.empty out (k : Int)]) (by omega) (by simp; omega) (by simpa using hr)
    simpa using this
theorem ev_tabs_false (p : List S62) (out : List ByteArray) (i : Nat) (r : List ByteArray) (hi : i < p.length) (hp : p.length ≤ 1048576) (ho : out.length ≤ 1048576) (hz : ∀ x ∈ p, x.f1.size ≤ 1048576) (hy : ∀ y ∈ out, y.size ≤ 1048576) : ∀ (d k : Nat) (next : List ByteArray), k + d = out.length → next.length ≤ k → Ev (fun q => spec_TablesOf.l0 q p (next ++ insU (rd_T62 p (i : Int)).f1 (out.drop k)) ((i : Int) + 1)) r → Ev (fun q => spec_TablesOf.l1 q p out (i : Int) next false k) r := by
  intro d
  induction d with
  | zero =>
    intro k next h hn hr
    apply Ev.step
    · intro k; rw [spec_TablesOf.l1]
    simp only [if_neg (show ¬ ((k : Int) < out.length) by omega), if_neg Bool.false_ne_true, if_pos (show (0 : Int) ≤ i by omega), if_pos (show (i : Int) < p.length by omega), if_pos (show next.length < 8796093022208 by omega), w64 (x := (i : Int) + 1) (by omega)]
    rw [List.drop_eq_nil_of_le (by omega)] at hr
    exact hr
  | succ d ih =>
    intro k next h hn hr
    have hk : k < out.length := by omega
    rw [rdOf_drop out k hk] at hr
    have hm : rdOf ByteArray.empty out (k : Int) ∈ out := by simp [rdOf, hk]
    have hsz := hy _ hm
    have hnz := hz _ (rdT_memN (p := p) (i := i) hi)
    apply Ev.step
    · intro k; rw [spec_TablesOf.l1]
    simp only [if_pos (show (k : Int) < out.length by omega), if_neg Bool.false_ne_true, if_pos (show (0 : Int) ≤ i by omega), if_pos (show (i : Int) < p.length by omega), if_pos (show (0 : Int) ≤ k by omega)]
    generalize hN : (rd_T62 p (i : Int)).f1 = n at *
    generalize hY : rdOf ByteArray.empty out (k : Int) = y at *
    unfold insU at hr
    by_cases e : Q.bytesOf n = Q.bytesOf y
    · rw [if_pos e] at hr
      have e2 : (n.toList == y.toList) = true := by rw [toList_bytes, toList_bytes, e]; simp
      rw [e2]
      apply Ev.step
      · intro k; rw [spec_TablesOf.j2]
      simp only [if_true, if_pos (show (0 : Int) ≤ k by omega), if_pos (show (k : Int) < out.length by omega), if_pos (show next.length < 8796093022208 by omega), w64 (x := (k : Int) + 1) (by omega), hY]
      have := ev_tabs_true p out i r (by omega) ho d (k + 1) (next ++ [y]) (by omega) (by simp; omega) (by simpa using hr)
      simpa using this
    · rw [if_neg e] at hr
      have e2 : (n.toList == y.toList) = false := by rw [toList_bytes, toList_bytes]; simpa using e
      rw [e2]
      apply Ev.step
      · intro k; rw [spec_TablesOf.j2]
      simp only [if_neg Bool.false_ne_true, if_pos (show (0 : Int) ≤ i by omega), if_pos (show (i : Int) < p.length by omega), if_pos (show (0 : Int) ≤ k by omega), if_pos (show (k : Int) < out.length by omega), hN, hY, w64 (x := (k : Int) + 1) (by omega)]
      refine Ev.bind (ev_spec_l01Less n y (by omega) (by omega)) ?_
      rw [bytesLess_eq, toList_bytes, toList_bytes]
      by_cases c : Q.bytesOf n < Q.bytesOf y
      · rw [if_pos c] at hr
        simp only [decide_eq_true c, if_true, if_pos (show next.length < 8796093022208 by omega), Option.bind_some, if_pos (show (next ++ [n]).length < 8796093022208 by simp; omega)]
        have := ev_tabs_true p out i r (by omega) ho d (k + 1) (next ++ [n] ++ [y]) (by omega) (by simp; omega) (by simpa using hr)
        simpa using this
      · rw [if_neg c] at hr
        simp only [decide_eq_false c, if_neg Bool.false_ne_true, if_pos (show next.length < 8796093022208 by omega)]
        have := ih (k + 1) (next ++ [y]) (by omega) (by simp; omega) (by simpa using hr)
        simpa using this
theorem insU_mem (x : ByteArray) : ∀ (l : List ByteArray) (z : ByteArray), z ∈ insU x l → z = x ∨ z ∈ l
  | [], z, h => by simpa [insU] using h
  | y :: ys, z, h => by
    unfold insU at h
    split at h
    · exact .inr h
    split at h
    · rcases List.mem_cons.1 h with h | h
      · exact .inl h
      · exact .inr h
    · rcases List.mem_cons.1 h with h | h
      · exact .inr (h ▸ List.mem_cons_self)
      · rcases insU_mem x ys z h with h | h
        · exact .inl h
        · exact .inr (List.mem_cons_of_mem _ h)
theorem ev_spec_TablesOf_l0 (p : List S62) (hl : p.length ≤ 1048576) (hz : ∀ x ∈ p, x.f1.size ≤ 1048576) : ∀ (d i : Nat) (out : List ByteArray), i + d = p.length → out.length ≤ i → (∀ y ∈ out, y.size ≤ 1048576) → Ev (fun k => spec_TablesOf.l0 k p out i) ((tabNames (p.drop i)).foldl (fun o x => insU x o) out) := by
  intro d
  induction d with
  | zero =>
    intro i out h ho hy
    apply Ev.step
    · intro k; rw [spec_TablesOf.l0]
    simp only [if_neg (show ¬ ((i : Int) < p.length) by omega)]
    rw [List.drop_eq_nil_of_le (by omega)]
    exact Ev.const (by simp [tabNames])
  | succ d ih =>
    intro i out h ho hy
    apply Ev.step
    · intro k; rw [spec_TablesOf.l0]
    simp only [if_pos (show (i : Int) < p.length by omega), if_pos (show (0 : Int) ≤ i by omega), w64 (x := (i : Int) + 1) (by omega)]
    rw [drop_rdT p i (by omega), tabNames_cons]
    refine Ev_ite (fun c => ?_) (fun c => ?_)
    · rw [if_pos c, List.foldl_cons]
      have hlen := insU_len (rd_T62 p (i : Int)).f1 out
      have i1 := ih (i + 1) (insU (rd_T62 p (i : Int)).f1 out) (by omega) (by omega) (fun y hq => by
        rcases insU_mem _ _ _ hq with rfl | hq
        · exact hz _ (rdT_memN (p := p) (i := i) (by omega))
        · exact hy y hq)
      exact ev_tabs_false p out i _ (by omega) hl (by omega) hz hy out.length 0 [] (by omega) (by simp) (by simpa using i1)
    · rw [if_neg c]
      simpa using ih (i + 1) out (by omega) (by omega) hy
theorem ev_spec_TablesOf (p : List S62) (hl : p.length ≤ 1048576) (hs : ∀ x ∈ p, x.f1.size ≤ 1048576 ∧ x.f6.length ≤ 1048576) : Ev (fun k => spec_TablesOf.f k p) (tablesOf p) := by
  simp only [spec_TablesOf.f]
  refine Ev.bind (ev_spec_PlanOk p hl hs) ?_
  unfold tablesOf
  refine Ev_ite (fun h => ?_) (fun h => ?_)
  · rw [if_pos h, ← tabs_same]
    simpa using ev_spec_TablesOf_l0 p hl (fun x hx => (hs x hx).1) p.length 0 [] (by omega) (by simp) (fun y hy => by cases hy)
  · rw [if_neg h]; exact Ev.now _

theorem holds : ∀ (l0 : List (S57)), (l0.length ≤ 9223372036854775807 ∧ ∀ yl0 ∈ l0, Ok57 yl0) → ∃ k, laws_FnExactTablesOf.Facts k l0 := by
  intro a ha
  obtain ⟨q, he, g1, g2, g3⟩ := ev_laws_szNodeS a 1048576 (by omega) (by omega) ha.1 (fun x hx => ⟨(ha.2 x hx).2.1, (ha.2 x hx).2.2.2.2.2.2.1⟩)
  by_cases hq : q < 0
  · obtain ⟨k, hk⟩ := he.rounds
    exact ⟨k, .inl ⟨q, hk, hq⟩⟩
  have hS := g3 (by omega)
  have hS1 := hS.1
  have hto := ev_laws_toNodeS a hS
  have hb : ∀ x ∈ a.map cvNode, x.f1.size ≤ 1048576 ∧ x.f6.length ≤ 1048576 := by
    intro x hx
    obtain ⟨y, hy, rfl⟩ := List.mem_map.1 hx
    exact hS.2 y hy
  have hb6 : ∀ x ∈ a.map cvNode, x.f6.length ≤ 1099511627776 := fun x hx => by have := (hb x hx).2; omega
  have hlen : (a.map cvNode).length = a.length := List.length_map _
  generalize a.map cvNode = s at *
  have htl : (tablesOf s).length ≤ 1048576 := by
    have h1 := compactB_len (sortB (tabNames s))
    have h2 := sortB_length (tabNames s)
    have h3 := tabNames_len s
    unfold tablesOf
    split
    · omega
    · simp
  have hsr := markNEnd_range s 1 (fun x hx => (hb x hx).2)
  obtain ⟨k1, e1⟩ := he
  obtain ⟨k2, e2⟩ := hto
  obtain ⟨k3, e3⟩ := ev_spec_TablesOf s (by omega) hb
  obtain ⟨k4, e4⟩ := ev_impl_TablesOf s (by omega) hb
  obtain ⟨k5, e5⟩ := ev_eqStringS (tablesOf s) (by omega)
  obtain ⟨k6, e6⟩ := ev_laws_eqNodeS s (by omega) hb6
  obtain ⟨k7, e7⟩ := ev_markNodeS s (by omega) (fun x hx => (hb x hx).2)
  obtain ⟨k8, e8⟩ := ev_markStringS (tablesOf s) htl
  obtain ⟨k9, e9⟩ := ev_heldStringS (tablesOf s) htl
  let k := k1 + k2 + k3 + k4 + k5 + k6 + k7 + k8 + k9
  refine ⟨k, .inr ⟨q, s, tablesOf s, _, _, _, _, e1 k (by omega), hq, e2 k (by omega), e3 k (by omega), e4 k (by omega), e5 k (by omega), e6 k (by omega), e7 k (by omega), by omega, e8 k (by omega), e9 k (by omega), by omega⟩⟩

end EFnExactTablesOf
open Go.RowKit Go.Proofs.YtgmhohafoclmpaaW.PrintWords Go.Proofs.YtgmhohafoclmpaaW.PrintLast Go.Proofs.YtgmhohafoclmpaaW.PrintMore Go.Proofs.Ytgmhohafoclmpaa.Lib Go.Proofs.Ytgmhohafoclmpaa.Q
theorem FnExactTablesOf : ∀ (l0 : List (S57)), (l0.length ≤ 9223372036854775807 ∧ ∀ yl0 ∈ l0, Ok57 yl0) → ∃ k, laws_FnExactTablesOf.Facts k l0 := EFnExactTablesOf.holds
end Go.Proofs.Ytgmhohafoclmpaa.Pure
