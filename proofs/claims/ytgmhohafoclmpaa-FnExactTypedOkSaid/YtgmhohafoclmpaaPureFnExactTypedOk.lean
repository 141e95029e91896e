/- Of every list of tables and every list of nodes: the program's TypedOk gives what the reference's TypedOk gives, and its arguments stay as they were. -/
import Derived.Test.YtgmhohafoclmpaaQx13
import Derived.Test.YtgmhohafoclmpaaShapes
import Derived.Test.YtgmhohafoclmpaaLib
set_option linter.unusedVariables false
set_option linter.unusedSimpArgs false
namespace Go.Proofs.Ytgmhohafoclmpaa.Pure
namespace EFnExactTypedOk
open Go.RowKit Go.Proofs.YtgmhohafoclmpaaW.PrintWords Go.Proofs.YtgmhohafoclmpaaW.PrintLast Go.Proofs.YtgmhohafoclmpaaW.PrintMore Go.Proofs.Ytgmhohafoclmpaa.Lib Go.Proofs.Ytgmhohafoclmpaa.Q

theorem ev_impl_ArityOf (a : Int) : Ev (fun k => impl_ArityOf.f k a) (arity a) := by
  simp only [impl_ArityOf.f]
  by_cases h0 : a = 0
  · subst h0; simp only [if_true]; exact Ev.now _
  by_cases h3 : a = 3
  · subst h3
    simp only [if_neg (show ¬ (3 : Int) = 0 by omega), if_true]
    apply Ev.step
    · intro k; rw [impl_ArityOf.j0]
    exact Ev.const (by simp [arity])
  simp only [if_neg h0, if_neg h3]
  apply Ev.step
  · intro k; rw [impl_ArityOf.j0]
  refine Ev.const ?_
  unfold arity
  by_cases h4 : a = 4
  · subst h4; simp
  · simp only [beq_iff_eq, if_neg h0, if_neg h3, if_neg h4]
    repeat' split
    all_goals first | rfl | omega

def kAt (p : List S62) (k : Nat) : Int := (rd_T62 p (k : Int)).f0
/-- The place behind the node at k and all below it, and how deep that is; none if it is not whole within so many levels. -/
def endP (p : List S62) : Nat → Nat → Option (Nat × Nat)
  | 0, _ => none
  | room + 1, k =>
    if p.length ≤ k then none
    else if arity (kAt p k) = 2 then (endP p room (k + 1)).bind fun x => (endP p room x.1).bind fun y => some (y.1, max x.2 y.2 + 1)
    else if arity (kAt p k) = 1 then (endP p room (k + 1)).bind fun x => some (x.1, x.2 + 1)
    else some (k + 1, 1)
def endI : Option (Nat × Nat) → Int
  | none => -1
  | some x => x.1
theorem arity_cases (k : Int) : arity k = -1 ∨ arity k = 0 ∨ arity k = 1 ∨ arity k = 2 := by
  unfold arity; repeat' split
  all_goals simp
theorem endP_range (p : List S62) : ∀ (room k : Nat) (x : Nat × Nat), endP p room k = some x → k < x.1 ∧ x.1 ≤ p.length ∧ 1 ≤ x.2 ∧ x.2 ≤ room := by
  intro room
  induction room with
  | zero => intro k x h; simp [endP] at h
  | succ room ih =>
    intro k x h
    unfold endP at h
    by_cases h0 : p.length ≤ k
    · rw [if_pos h0] at h; cases h
    rw [if_neg h0] at h
    by_cases h2 : arity (kAt p k) = 2
    · rw [if_pos h2] at h
      obtain ⟨y, hy, h⟩ := Option.bind_eq_some_iff.1 h
      obtain ⟨z, hz, h⟩ := Option.bind_eq_some_iff.1 h
      injection h with h
      have a := ih _ _ hy
      have b := ih _ _ hz
      subst h
      refine ⟨?_, ?_, ?_, ?_⟩ <;> simp <;> omega
    rw [if_neg h2] at h
    by_cases h1 : arity (kAt p k) = 1
    · rw [if_pos h1] at h
      obtain ⟨y, hy, h⟩ := Option.bind_eq_some_iff.1 h
      injection h with h
      have a := ih _ _ hy
      subst h
      refine ⟨?_, ?_, ?_, ?_⟩ <;> simp <;> omega
    rw [if_neg h1] at h
    injection h with h
    subst h
    refine ⟨?_, ?_, ?_, ?_⟩ <;> simp <;> omega
theorem endP_mono (p : List S62) : ∀ (room k : Nat) (x : Nat × Nat) (r : Nat), endP p room k = some x → room ≤ r → endP p r k = some x := by
  intro room
  induction room with
  | zero => intro k x r h; simp [endP] at h
  | succ room ih =>
    intro k x r h hr
    obtain ⟨r, rfl⟩ : ∃ q, r = q + 1 := ⟨r - 1, by omega⟩
    unfold endP at h ⊢
    by_cases h0 : p.length ≤ k
    · rw [if_pos h0] at h; cases h
    rw [if_neg h0] at h ⊢
    by_cases h2 : arity (kAt p k) = 2
    · rw [if_pos h2] at h ⊢
      obtain ⟨y, hy, h⟩ := Option.bind_eq_some_iff.1 h
      obtain ⟨z, hz, h⟩ := Option.bind_eq_some_iff.1 h
      rw [ih _ _ r hy (by omega), Option.bind_some, ih _ _ r hz (by omega), Option.bind_some]; exact h
    rw [if_neg h2] at h ⊢
    by_cases h1 : arity (kAt p k) = 1
    · rw [if_pos h1] at h ⊢
      obtain ⟨y, hy, h⟩ := Option.bind_eq_some_iff.1 h
      rw [ih _ _ r hy (by omega), Option.bind_some]; exact h
    rw [if_neg h1] at h ⊢
    exact h
theorem endI_lo (o : Option (Nat × Nat)) : -1 ≤ endI o := by
  cases o with
  | none => simp [endI]
  | some x => simp [endI] <;> omega
theorem endI_neg {o : Option (Nat × Nat)} : endI o < 0 ↔ o = none := by
  cases o with
  | none => simp [endI]
  | some x => simp [endI]
theorem w01 : wrap64 (0 + 1) = 1 := by rw [w64 (by omega)]; rfl
theorem w12 : wrap64 (1 + 1) = 2 := by rw [w64 (by omega)]; rfl

theorem ev_impl_end (p : List S62) (hl : p.length ≤ 1048576) : ∀ (room k : Nat), room ≤ 10 → k ≤ 1099511627776 → Ev (fun n => impl_end.f n p k (11 - room : Int)) (endI (endP p room k)) := by
  intro room
  induction room with
  | zero =>
    intro k _ hk
    apply Ev.step
    · intro k; rw [impl_end.f]
    refine Ev_ite (fun _ => ?_) (fun _ => ?_)
    · apply Ev.step
      · intro k; rw [impl_end.j0]
      exact Ev.now _
    · apply Ev.step
      · intro k; rw [impl_end.j0]
      exact Ev.now _
  | succ room ih =>
    intro k hr hk
    apply Ev.step
    · intro k; rw [impl_end.f]
    refine Ev_ite (fun h0 => ?_) (fun h0 => ?_)
    · rw [endP, if_pos (by omega)]
      apply Ev.step
      · intro k; rw [impl_end.j0]
      exact Ev.now _
    rw [endP, if_neg (by omega)]
    simp only [decide_eq_false (show ¬ (11 - ((room + 1 : Nat) : Int)) > 10 by omega)]
    apply Ev.step
    · intro k; rw [impl_end.j0]
    simp only [if_neg Bool.false_ne_true, if_pos (show (0 : Int) ≤ k by omega), if_pos (show (k : Int) < p.length by omega)]
    refine Ev.bind (ev_impl_ArityOf _) ?_
    have e1 : (11 : Int) - ((room + 1 : Nat) : Int) + 1 = 11 - (room : Int) := by omega
    have e2 : ((k : Int) + 1) = ((k + 1 : Nat) : Int) := by omega
    have hka : arity (rd_T62 p (k : Int)).f0 = arity (kAt p k) := rfl
    rw [hka]
    have i1 := ih (k + 1) (by omega) (by omega)
    simp only [w64 (x := (k : Int) + 1) (by omega), e2, w64 (x := ((k + 1 : Nat) : Int)) (by omega)]
    rcases arity_cases (kAt p k) with h | h | h | h
    · rw [h, if_neg (by omega), if_neg (by omega)]
      apply Ev.step
      · intro k; rw [impl_end.l0]
      simp only [if_neg (show ¬ (0 : Int) < -1 by omega)]
      exact Ev.now _
    · rw [h, if_neg (by omega), if_neg (by omega)]
      apply Ev.step
      · intro k; rw [impl_end.l0]
      simp only [if_neg (show ¬ (0 : Int) < 0 by omega)]
      exact Ev.now _
    · rw [h, if_neg (by omega), if_pos rfl]
      apply Ev.step
      · intro k; rw [impl_end.l0]
      simp only [if_pos (show (0 : Int) < 1 by omega), w64 (x := (11 : Int) - ((room + 1 : Nat) : Int) + 1) (by omega), e1, w64 (x := (11 : Int) - (room : Int)) (by omega)]
      refine Ev.bind i1 ?_
      cases hx : endP p room (k + 1) with
      | none => exact Ev.now _
      | some x =>
        simp only [if_neg (show ¬ endI (some x) < 0 by simp [endI]), Option.bind_some]
        apply Ev.step
        · intro k; rw [impl_end.l0]
        simp only [w01, if_neg (show ¬ (1 : Int) < 1 by omega)]
        exact Ev.now _
    · rw [h, if_pos rfl]
      apply Ev.step
      · intro k; rw [impl_end.l0]
      simp only [if_pos (show (0 : Int) < 2 by omega), w64 (x := (11 : Int) - ((room + 1 : Nat) : Int) + 1) (by omega), e1, w64 (x := (11 : Int) - (room : Int)) (by omega)]
      refine Ev.bind i1 ?_
      cases hx : endP p room (k + 1) with
      | none => exact Ev.now _
      | some x =>
        have hxr := endP_range p _ _ _ hx
        simp only [if_neg (show ¬ endI (some x) < 0 by simp [endI]), Option.bind_some]
        apply Ev.step
        · intro k; rw [impl_end.l0]
        simp only [w01, w12, if_pos (show (1 : Int) < 2 by omega), w64 (x := (11 : Int) - ((room + 1 : Nat) : Int) + 1) (by omega), e1, w64 (x := (11 : Int) - (room : Int)) (by omega)]
        rw [show endI (some x) = ((x.1 : Nat) : Int) from rfl]
        refine Ev.bind (ih x.1 (by omega) (by omega)) ?_
        cases hy : endP p room x.1 with
        | none => exact Ev.now _
        | some y =>
          simp only [if_neg (show ¬ endI (some y) < 0 by simp [endI]), Option.bind_some]
          apply Ev.step
          · intro k; rw [impl_end.l0]
          simp only [if_neg (show ¬ (2 : Int) < 2 by omega)]
          exact Ev.now _

theorem impl_in_eq (a b c : Int) : impl_in.f a b c = some (decide (b ≤ a ∧ a ≤ c)) := by
  unfold impl_in.f
  by_cases h : b ≤ a
  · rw [if_pos h]; simp [h]
  · rw [if_neg (show ¬ a ≥ b from h)]; simp [h]

theorem ev_impl_WordOk_l0 (s : ByteArray) (hs : s.size ≤ 1099511627776) : ∀ (d i : Nat), i + d = s.size → Ev (fun k => impl_WordOk.l0 k s (s.size : Int) i) (wordFrom s d i && decide (1 ≤ s.size ∧ s.size ≤ 12)) := by
  intro d
  induction d with
  | zero =>
    intro i h
    apply Ev.step
    · intro k; rw [impl_WordOk.l0]
    simp only [if_neg (show ¬ ((i : Int) < s.size) by omega), impl_in_eq, Option.bind_some, wordFrom, Bool.true_and]
    refine Ev.const (congrArg some ?_)
    exact decide_eq_decide.mpr (by omega)
  | succ d ih =>
    intro i h
    have ih' := ih (i + 1) (by omega)
    apply Ev.step
    · intro k; rw [impl_WordOk.l0]
    simp only [if_pos (show (i : Int) < s.size by omega), if_pos (show (0 : Int) ≤ i by omega), w64 (x := (i : Int) + 1) (by omega), wordFrom]
    by_cases h1 : bt s i ≥ 97
    · simp only [if_pos h1]
      by_cases h2 : bt s i ≤ 122
      · simp only [if_pos h2, show okAt s i = true by simp [okAt]; omega, Bool.true_and]; exact ih'
      · simp only [if_neg h2]
        by_cases h0 : (i : Int) = 0
        · simp only [if_pos h0, show okAt s i = false by simp [okAt]; omega, Bool.false_and]; exact Ev.now _
        · simp only [if_neg h0, if_neg (show ¬ bt s i < 48 by omega), if_pos (show bt s i > 57 by omega), show okAt s i = false by simp [okAt]; omega, Bool.false_and]; exact Ev.now _
    · simp only [if_neg h1]
      by_cases h0 : (i : Int) = 0
      · simp only [if_pos h0, show okAt s i = false by simp [okAt]; omega, Bool.false_and]; exact Ev.now _
      · simp only [if_neg h0]
        by_cases h2 : bt s i < 48
        · simp only [if_pos h2, show okAt s i = false by simp [okAt]; omega, Bool.false_and]; exact Ev.now _
        · by_cases h3 : bt s i > 57
          · simp only [if_neg h2, if_pos h3, show okAt s i = false by simp [okAt]; omega, Bool.false_and]; exact Ev.now _
          · simp only [if_neg h2, if_neg h3, show okAt s i = true by simp [okAt]; omega, Bool.true_and]; exact ih'
theorem ev_impl_WordOk (s : ByteArray) (hs : s.size ≤ 1099511627776) : Ev (fun k => impl_WordOk.f k s) (wordOk s) := by
  have := ev_impl_WordOk_l0 s hs s.size 0 (by omega)
  rw [Bool.and_comm] at this
  exact this

theorem impl_isCol_eq (a : Int) : impl_isCol.f a = some (colB a) := by
  unfold impl_isCol.f; rw [impl_in_eq]; rfl

theorem impl_isNum_eq (a : Int) : impl_isNum.f a = some (isNumB a) := by
  unfold impl_isNum.f; rw [impl_in_eq]; rfl

theorem impl_isSlot_eq (a : Int) : impl_isSlot.f a = some (slotB a) := by
  unfold impl_isSlot.f; rw [impl_in_eq]; rfl

theorem ev_slices_Equal_int_int_l0 (a b : List Int) (hl : a.length = b.length) (ha : a.length ≤ 1099511627776) : ∀ (d i : Nat), i + d = a.length → Ev (fun k => slices_Equal_int_int.l0 k a b (a.length : Int) i) (decide (a.drop i = b.drop i)) := by
  intro d
  induction d with
  | zero =>
    intro i h
    apply Ev.step
    · intro k; rw [slices_Equal_int_int.l0]
    simp only [if_neg (show ¬ ((i : Int) < a.length) by omega), drop_nil' (show a.length ≤ i by omega), drop_nil' (show b.length ≤ i by omega)]
    exact Ev.const (by simp)
  | succ d ih =>
    intro i h
    have ih' := ih (i + 1) (by omega)
    apply Ev.step
    · intro k; rw [slices_Equal_int_int.l0]
    simp only [if_pos (show (i : Int) < a.length by omega), if_pos (show (i : Int) < b.length by omega), if_pos (show (0 : Int) ≤ i by omega), w64 (x := (i : Int) + 1) (by omega), eq_drop (show i < a.length by omega) (show i < b.length by omega)]
    by_cases he : rd a i = rd b i
    · simp only [if_pos he]
      simpa [he] using ih'
    · simp only [if_neg he]
      exact Ev.const (by simp [he])
theorem ev_slices_Equal_int_int (a b : List Int) (ha : a.length ≤ 1099511627776) : Ev (fun k => slices_Equal_int_int.f k a b) (decide (a = b)) := by
  simp only [slices_Equal_int_int.f]
  by_cases hl : a.length = b.length
  · simp only [if_pos (show (a.length : Int) = b.length by omega)]
    simpa using ev_slices_Equal_int_int_l0 a b hl ha a.length 0 (by omega)
  · simp only [if_neg (show ¬ (a.length : Int) = b.length by omega)]
    exact Ev.const (congrArg some (decide_eq_false (fun h => hl (by rw [h]))).symm)

theorem ev_impl_sameNode (a0 : Int) (a1 : ByteArray) (a2 a3 a4 : Int) (a5 : Bool) (a6 : List Int) (b0 : Int) (b1 : ByteArray) (b2 b3 b4 : Int) (b5 : Bool) (b6 : List Int) (h : a6.length ≤ 1099511627776) :
    Ev (fun k => impl_sameNode.f k a0 a1 a2 a3 a4 a5 a6 b0 b1 b2 b3 b4 b5 b6) (decide (a0 = b0 ∧ a1.toList = b1.toList ∧ a2 = b2 ∧ a3 = b3 ∧ a4 = b4 ∧ a5 = b5 ∧ a6 = b6)) := by
  simp only [impl_sameNode.f]
  refine Ev_ite (fun h0 => ?_) (fun h0 => Ev.const (by simp [h0]))
  refine Ev_ite (fun h1 => ?_) (fun h1 => Ev.const (by simp [h1]))
  refine Ev_ite (fun h2 => ?_) (fun h2 => Ev.const (by simp [h2]))
  refine Ev_ite (fun h3 => ?_) (fun h3 => Ev.const (by simp [h3]))
  refine Ev_ite (fun h4 => ?_) (fun h4 => Ev.const (by simp [h4]))
  refine Ev_ite (fun h5 => ?_) (fun h5 => Ev.const (by have : ¬ a5 = b5 := by simpa using h5
                                                       simp [this]))
  have h5' : a5 = b5 := by simpa using h5
  refine Ev.bind (ev_slices_Equal_int_int a6 b6 h) ?_
  exact Ev.const (by simp [h0, h1, h2, h3, h4, h5'])

theorem impl_NodeOk_1_eq (a : Int) : impl_NodeOk_1.f a = some ((fun a => !colB a) a) := by
  unfold impl_NodeOk_1.f; rw [impl_isCol_eq]; rfl

theorem ev_IndexFunc_l0 (l : List Int) (hl : l.length ≤ 1099511627776) : ∀ (d i : Nat), i + d = l.length → ∃ r, Ev (fun k => slices_IndexFunc_int_int.l0 k l (l.length : Int) i) r ∧ decide (r ≥ 0) = (l.drop i).any (fun a => !colB a) := by
  intro d
  induction d with
  | zero =>
    intro i h
    refine ⟨-1, ?_, by rw [drop_nil' (show l.length ≤ i by omega)]; rfl⟩
    apply Ev.step
    · intro k; rw [slices_IndexFunc_int_int.l0]
    simp only [if_neg (show ¬ ((i : Int) < l.length) by omega)]
    exact Ev.now _
  | succ d ih =>
    intro i h
    obtain ⟨r, e, g⟩ := ih (i + 1) (by omega)
    by_cases hp : (fun a => !colB a) (rd l i) = true
    · have hp' := hp
      simp only [] at hp'
      refine ⟨i, ?_, ?_⟩
      · apply Ev.step
        · intro k; rw [slices_IndexFunc_int_int.l0]
        simp only [if_pos (show (i : Int) < l.length by omega), if_pos (show (0 : Int) ≤ i by omega), impl_NodeOk_1_eq, Option.bind_some]
        simp only [hp', if_true]
        exact Ev.now _
      · rw [drop_rd l i (by omega), List.any_cons]; simp only [hp', Bool.true_or]; simp
    · have hp' := Bool.eq_false_iff.mpr hp
      simp only [] at hp'
      refine ⟨r, ?_, ?_⟩
      · apply Ev.step
        · intro k; rw [slices_IndexFunc_int_int.l0]
        simp only [if_pos (show (i : Int) < l.length by omega), if_pos (show (0 : Int) ≤ i by omega), impl_NodeOk_1_eq, Option.bind_some, w64 (x := (i : Int) + 1) (by omega)]
        simp only [hp', if_neg Bool.false_ne_true]
        simpa using e
      · rw [drop_rd l i (by omega), List.any_cons]; simp only [hp', Bool.false_or]; exact g

theorem ev_ContainsFunc (l : List Int) (hl : l.length ≤ 1099511627776) : Ev (fun k => slices_ContainsFunc_int_int.f k l) (l.any (fun a => !colB a)) := by
  obtain ⟨r, e, g⟩ := ev_IndexFunc_l0 l hl l.length 0 (by omega)
  simp only [slices_ContainsFunc_int_int.f, slices_IndexFunc_int_int.f]
  refine Ev.bind (by simpa using e) ?_
  refine Ev.const (congrArg some ?_)
  rw [g, List.drop_zero]

theorem all_colB (l : List Int) : (l.any (fun a => !colB a)) = !l.all colB := by
  induction l with
  | nil => rfl
  | cons a l ih => simp [ih]
theorem empty_list : (⟨#[]⟩ : ByteArray).toList = [] := by rw [Lib.toList_data]
theorem ev_impl_NodeOk (kind : Int) (name : ByteArray) (col op num : Int) (slot : Bool) (cols : List Int) (hl : cols.length ≤ 1099511627776) (hn : name.size ≤ 1099511627776) : Ev (fun k => impl_NodeOk.f k kind name col op num slot cols) (nodeOk kind name col op num slot cols) := by
  have same := fun (a0 : Int) (a1 : ByteArray) (a2 a3 a4 : Int) (a5 : Bool) (a6 : List Int) (h : a6.length ≤ 1099511627776) => ev_impl_sameNode a0 a1 a2 a3 a4 a5 a6 0 (⟨#[]⟩ : ByteArray) 0 0 0 false [] h
  have hnil : ([] : List Int).length ≤ 1099511627776 := by simp
  simp only [impl_NodeOk.f, impl_isCol_eq, impl_in_eq, impl_isSlot_eq, Option.bind_some]
  refine Ev_ite (fun h0 => ?_) (fun h0 => ?_)
  · refine Ev.bind (ev_impl_WordOk name hn) ?_
    refine Ev_ite (fun h1 => ?_) (fun h1 => Ev.const (by simp [nodeOk, nodeKind, h0, Bool.eq_false_iff.mpr h1]))
    refine Ev.bind (same _ _ _ _ _ _ _ hl) ?_
    refine Ev.const (congrArg some ?_)
    cases slot <;> simp [nodeOk, nodePre, nodeKind, h0, h1, empty_list] <;> by_cases e1 : cols = [] <;> by_cases e2 : op = 0 <;> by_cases e3 : col = 0 <;> simp [*]
  refine Ev_ite (fun h1 => ?_) (fun h1 => ?_)
  · have tail : ∀ b, b = (colB col && decide (0 ≤ op ∧ op ≤ 3)) → Ev (fun k => impl_NodeOk.j0 k b kind name col op num slot cols 0 name col op num slot cols) (nodeOk kind name col op num slot cols) := by
      intro b hb
      have hk : nodeKind kind name col op num slot cols = (b && isNumB num && decide (op = 3 → num = 0 ∧ slot = false)) := by
        rw [hb]; simp [nodeKind, h1]
      unfold nodeOk
      rw [hk]
      apply Ev.step
      · intro k; rw [impl_NodeOk.j0]
      simp only [impl_isSlot_eq, impl_isNum_eq, Option.bind_some]
      cases b with
      | false =>
        simp only [Bool.false_and, Bool.and_false]
        refine Ev_ite (fun _ => Ev.const (by simp)) (fun _ => Ev_ite (fun _ => Ev.const (by simp)) (fun _ => Ev.const (by simp)))
      | true =>
        simp only [Bool.true_and, if_true]
        refine Ev_ite (fun h3 => ?_) (fun h3 => ?_)
        · refine Ev_ite (fun h4 => Ev_ite (fun h5 => ?_) (fun h5 => ?_)) (fun h4 => ?_)
          · exact Ev.const (by simp [h3, h5])
          · refine Ev.bind (same _ _ _ _ _ _ _ hl) ?_
            refine Ev.const (congrArg some ?_)
            have h5' : slot = false := by simpa using h5
            subst h4 h5'
            simp [nodePre, h1, h3, empty_list, isNumB]
          · exact Ev.const (by simp [h3, h4])
        · refine Ev_ite (fun h4 => ?_) (fun h4 => ?_)
          · refine Ev_ite (fun h5 => ?_) (fun h5 => Ev.const (by simp [nodePre, h4, Bool.eq_false_iff.mpr h5]))
            refine Ev.bind (same _ _ _ _ _ _ _ hl) ?_
            refine Ev.const (congrArg some ?_)
            have h6 : isNumB num = true := by simp [slotB] at h5; simp [isNumB]; omega
            simp [nodePre, h1, h3, h4, h5, h6, empty_list]
          · refine Ev_ite (fun h5 => ?_) (fun h5 => Ev.const (by simp [Bool.eq_false_iff.mpr h5]))
            refine Ev.bind (same _ _ _ _ _ _ _ hl) ?_
            refine Ev.const (congrArg some ?_)
            have h4' : slot = false := by simpa using h4
            simp [nodePre, h1, h3, h4', h5, empty_list]
    refine Ev_ite (fun h2 => tail _ (by rw [h2, Bool.true_and])) (fun h2 => tail _ (by rw [Bool.eq_false_iff.mpr h2, Bool.false_and]))
  refine Ev_ite (fun h2 => ?_) (fun h2 => ?_)
  · refine Ev_ite (fun h3 => ?_) (fun h3 => Ev.const (by
      have : ¬ (1 ≤ cols.length ∧ cols.length ≤ 6) := by simp only [decide_eq_true_eq] at h3; omega
      simp [nodeOk, nodeKind, h2]
      intro _ _ h4 h5; exact absurd ⟨h4, h5⟩ this))
    refine Ev.bind (ev_ContainsFunc cols hl) ?_
    rw [all_colB]
    have h3' : 1 ≤ cols.length ∧ cols.length ≤ 6 := by simp only [decide_eq_true_eq] at h3; omega
    refine Ev_ite (fun h4 => Ev.const (by
      have : cols.all colB = false := by simpa using h4
      simp [nodeOk, nodeKind, h2, this])) (fun h4 => ?_)
    have h5 : cols.all colB = true := by simpa using h4
    refine Ev.bind (same _ _ _ _ _ _ _ hnil) ?_
    refine Ev.const (congrArg some ?_)
    cases slot <;> simp only [nodeOk, nodePre, nodeKind, h2, h5, decide_eq_true h3', empty_list] <;> simp <;> by_cases e1 : name.toList = [] <;> by_cases e2 : op = 0 <;> by_cases e3 : col = 0 <;> simp [*]
  refine Ev_ite (fun h3 => ?_) (fun h3 => ?_)
  · refine Ev_ite (fun h4 => ?_) (fun h4 => Ev.const (by simp [nodeOk, nodeKind, h3, Bool.eq_false_iff.mpr h4]))
    refine Ev_ite (fun h5 => ?_) (fun h5 => Ev.const (by simp [nodeOk, nodeKind, h3, Bool.eq_false_iff.mpr h5]))
    refine Ev.bind (same _ _ _ _ _ _ _ hl) ?_
    refine Ev.const (congrArg some ?_)
    cases slot <;> simp [nodeOk, nodePre, nodeKind, h3, h4, h5, empty_list] <;> by_cases e1 : cols = [] <;> by_cases e2 : op = 0 <;> by_cases e3 : name.toList = [] <;> simp [*]
  refine Ev_ite (fun h4 => ?_) (fun h4 => ?_)
  · refine Ev_ite (fun h5 => ?_) (fun h5 => Ev.const (by simp [nodeOk, nodeKind, h4, Bool.eq_false_iff.mpr h5]))
    refine Ev.bind (same _ _ _ _ _ _ _ hl) ?_
    refine Ev.const (congrArg some ?_)
    cases slot <;> simp [nodeOk, nodePre, nodeKind, h4, h5, empty_list] <;> by_cases e1 : cols = [] <;> by_cases e2 : op = 0 <;> by_cases e3 : name.toList = [] <;> simp [*]
  refine Ev_ite (fun h5 => ?_) (fun h5 => ?_)
  · refine Ev_ite (fun h6 => ?_) (fun h6 => Ev.const (by
      have : ¬ (0 ≤ num ∧ num ≤ 1000000) := by simpa using h6
      simp [nodeOk, nodeKind, h5]
      intro _ _ h7; omega))
    have h6' : 0 ≤ num ∧ num ≤ 1000000 := by simpa using h6
    refine Ev_ite (fun h7 => Ev_ite (fun h8 => ?_) (fun h8 => Ev.const (by simp [nodeOk, nodePre, h7, Bool.eq_false_iff.mpr h8]))) (fun h7 => ?_)
    · refine Ev.bind (same _ _ _ _ _ _ _ hl) ?_
      refine Ev.const (congrArg some ?_)
      simp only [nodeOk, nodePre, nodeKind, h5, h7, h8, decide_eq_true h6', empty_list] <;> simp <;> by_cases e1 : cols = [] <;> by_cases e2 : op = 0 <;> by_cases e3 : name.toList = [] <;> simp [*]
    · refine Ev.bind (same _ _ _ _ _ _ _ hl) ?_
      refine Ev.const (congrArg some ?_)
      have h7' : slot = false := by simpa using h7
      simp only [nodeOk, nodePre, nodeKind, h5, h7', decide_eq_true h6', empty_list] <;> simp <;> by_cases e1 : cols = [] <;> by_cases e2 : op = 0 <;> by_cases e3 : name.toList = [] <;> simp [*]
  refine Ev_ite (fun h6 => ?_) (fun h6 => Ev_ite (fun h7 => ?_) (fun h7 => ?_))
  · refine Ev.bind (same _ _ _ _ _ _ _ hl) ?_
    refine Ev.const (congrArg some ?_)
    cases slot <;> simp [nodeOk, nodePre, nodeKind, h6, empty_list] <;> by_cases e1 : cols = [] <;> by_cases e2 : op = 0 <;> by_cases e3 : name.toList = [] <;> simp [*]
  · refine Ev.bind (same _ _ _ _ _ _ _ hl) ?_
    refine Ev.const (congrArg some ?_)
    cases slot <;> simp [nodeOk, nodePre, nodeKind, h7, empty_list] <;> by_cases e1 : cols = [] <;> by_cases e2 : op = 0 <;> by_cases e3 : name.toList = [] <;> simp [*]
  · exact Ev.const (by simp [nodeOk, nodeKind, h0, h1, h2, h3, h4, h5, h6, h7])

def nodeOkN (x : S62) : Bool := nodeOk x.f0 x.f1 x.f2 x.f3 x.f4 x.f5 x.f6
def planOk (p : List S62) : Bool := decide (1 ≤ p.length ∧ p.length ≤ 40) && p.all nodeOkN && decide (endI (endP p 10 0) = p.length)
theorem drop_rdT (p : List S62) (i : Nat) (h : i < p.length) : p.drop i = rd_T62 p i :: p.drop (i + 1) := by
  rw [drop_getD p z62 i h]; simp [rd_T62]
theorem rdT_memN {p : List S62} {i : Nat} (h : i < p.length) : rd_T62 p i ∈ p := by
  have := getD_mem (z := z62) h
  simpa [rd_T62] using this

theorem ev_impl_PlanOk_1 (x : S62) (h : x.f1.size ≤ 1048576 ∧ x.f6.length ≤ 1048576) : Ev (fun k => impl_PlanOk_1.f k x.f0 x.f1 x.f2 x.f3 x.f4 x.f5 x.f6) (!nodeOkN x) := by
  simp only [impl_PlanOk_1.f]
  refine Ev.bind (ev_impl_NodeOk _ _ _ _ _ _ _ (by omega) (by omega)) ?_
  exact Ev.now _

theorem ev_IndexNode (p : List S62) (hl : p.length ≤ 1099511627776) (hs : ∀ x ∈ p, x.f1.size ≤ 1048576 ∧ x.f6.length ≤ 1048576) : ∀ (d i : Nat), i + d = p.length → ∃ r, Ev (fun k => slices_IndexFunc_impl_Node_impl_Node.l0 k p (p.length : Int) i) r ∧ decide (r ≥ 0) = !(p.drop i).all nodeOkN := by
  intro d
  induction d with
  | zero =>
    intro i h
    refine ⟨-1, ?_, by rw [drop_nil' (show p.length ≤ i by omega)]; rfl⟩
    apply Ev.step
    · intro k; rw [slices_IndexFunc_impl_Node_impl_Node.l0]
    simp only [if_neg (show ¬ ((i : Int) < p.length) by omega)]
    exact Ev.now _
  | succ d ih =>
    intro i h
    obtain ⟨r, e, g⟩ := ih (i + 1) (by omega)
    have hm := hs _ (rdT_memN (show i < p.length by omega))
    by_cases hp : nodeOkN (rd_T62 p i) = true
    · refine ⟨r, ?_, ?_⟩
      · apply Ev.step
        · intro k; rw [slices_IndexFunc_impl_Node_impl_Node.l0]
        simp only [if_pos (show (i : Int) < p.length by omega), if_pos (show (0 : Int) ≤ i by omega), w64 (x := (i : Int) + 1) (by omega)]
        refine Ev.bind (ev_impl_PlanOk_1 _ hm) ?_
        rw [hp]; simp only [Bool.not_true, if_neg Bool.false_ne_true]
        simpa using e
      · rw [drop_rdT p i (by omega), List.all_cons, hp, Bool.true_and]; exact g
    · refine ⟨i, ?_, ?_⟩
      · apply Ev.step
        · intro k; rw [slices_IndexFunc_impl_Node_impl_Node.l0]
        simp only [if_pos (show (i : Int) < p.length by omega), if_pos (show (0 : Int) ≤ i by omega)]
        refine Ev.bind (ev_impl_PlanOk_1 _ hm) ?_
        rw [Bool.eq_false_iff.mpr hp]; simp only [Bool.not_false, if_true]
        exact Ev.now _
      · rw [drop_rdT p i (by omega), List.all_cons, Bool.eq_false_iff.mpr hp, Bool.false_and]; simp

theorem ev_ContainsNode (p : List S62) (hl : p.length ≤ 1099511627776) (hs : ∀ x ∈ p, x.f1.size ≤ 1048576 ∧ x.f6.length ≤ 1048576) : Ev (fun k => slices_ContainsFunc_impl_Node_impl_Node.f k p) (!p.all nodeOkN) := by
  obtain ⟨r, e, g⟩ := ev_IndexNode p hl hs p.length 0 (by omega)
  simp only [slices_ContainsFunc_impl_Node_impl_Node.f, slices_IndexFunc_impl_Node_impl_Node.f]
  refine Ev.bind (by simpa using e) ?_
  refine Ev.const (congrArg some ?_)
  rw [g, List.drop_zero]

theorem ev_impl_PlanOk (p : List S62) (hl : p.length ≤ 1048576) (hs : ∀ x ∈ p, x.f1.size ≤ 1048576 ∧ x.f6.length ≤ 1048576) : Ev (fun k => impl_PlanOk.f k p) (planOk p) := by
  simp only [impl_PlanOk.f, impl_in_eq, Option.bind_some]
  unfold planOk
  refine Ev_ite (fun h1 => ?_) (fun h1 => ?_)
  · have h1' : 1 ≤ p.length ∧ p.length ≤ 40 := by simp only [decide_eq_true_eq] at h1; omega
    rw [decide_eq_true h1', Bool.true_and]
    refine Ev.bind (ev_ContainsNode p (by omega) hs) ?_
    refine Ev_ite (fun h2 => ?_) (fun h2 => ?_)
    · have : p.all nodeOkN = false := by simpa using h2
      rw [this]; exact Ev.now _
    · have : p.all nodeOkN = true := by simpa using h2
      rw [this, Bool.true_and]
      have := ev_impl_end p hl 10 0 (by omega) (by omega)
      refine Ev.bind (by simpa using this) ?_
      exact Ev.const (congrArg some (by rw [Bool.eq_iff_iff]; simp))
  · have h1' : ¬ (1 ≤ p.length ∧ p.length ≤ 40) := by simp only [decide_eq_true_eq] at h1; omega
    rw [decide_eq_false h1']; exact Ev.now _

def schAt (s : List S60) (i : Nat) : Bool :=
  wordOk (rd_T60 s i).f0 && (decide (1 ≤ (rd_T60 s i).f1 ∧ (rd_T60 s i).f1 ≤ 6) && (decide (i = 0) || Op.bytesLess (rd_T60 s ((i : Int) - 1)).f0.toList (rd_T60 s i).f0.toList))
def schFrom (s : List S60) : Nat → Nat → Bool
  | 0, _ => true
  | d + 1, i => schAt s i && schFrom s d (i + 1)
def schemaOk (s : List S60) : Bool := decide (s.length ≤ 8) && schFrom s s.length 0
theorem rdT_mem {s : List S60} {i : Nat} (h : i < s.length) : rd_T60 s i ∈ s := by
  have := getD_mem (z := z60) h
  simpa [rd_T60] using this

theorem ev_impl_SchemaOk_l0 (s : List S60) (hl : s.length ≤ 1099511627776) (hs : ∀ x ∈ s, x.f0.size ≤ 1048576) : ∀ (d i : Nat), i + d = s.length → Ev (fun k => impl_SchemaOk.l0 k s s (s.length : Int) i) (schFrom s d i && decide (s.length ≤ 8)) := by
  intro d
  induction d with
  | zero =>
    intro i h
    apply Ev.step
    · intro k; rw [impl_SchemaOk.l0]
    simp only [if_neg (show ¬ ((i : Int) < s.length) by omega), schFrom, Bool.true_and]
    exact Ev.const (congrArg some (decide_eq_decide.mpr (by omega)))
  | succ d ih =>
    intro i h
    have ih' := ih (i + 1) (by omega)
    have hm := hs _ (rdT_mem (show i < s.length by omega))
    apply Ev.step
    · intro k; rw [impl_SchemaOk.l0]
    simp only [if_pos (show (i : Int) < s.length by omega), if_pos (show (0 : Int) ≤ i by omega), w64 (x := (i : Int) + 1) (by omega), schFrom, schAt]
    refine Ev.bind (ev_impl_WordOk _ (by omega)) ?_
    by_cases h1 : wordOk (rd_T60 s i).f0 = true
    · simp only [h1, if_true, impl_in_eq, Option.bind_some, Bool.true_and]
      by_cases h2 : 1 ≤ (rd_T60 s i).f1 ∧ (rd_T60 s i).f1 ≤ 6
      · simp only [decide_eq_true h2, if_true, Bool.true_and]
        by_cases h3 : (i : Int) > 0
        · simp only [if_pos h3, w64 (x := (i : Int) - 1) (by omega), if_pos (show (0 : Int) ≤ (i : Int) - 1 by omega), if_pos (show (i : Int) - 1 < s.length by omega), decide_eq_false (show ¬ i = 0 by omega), Bool.false_or]
          by_cases h4 : Op.bytesLess (rd_T60 s ((i : Int) - 1)).f0.toList (rd_T60 s i).f0.toList = true
          · simp only [h4, if_true, Bool.true_and]; simpa using ih'
          · simp only [if_neg h4, Bool.eq_false_iff.mpr h4, Bool.false_and]; exact Ev.now _
        · simp only [if_neg h3, decide_eq_true (show i = 0 by omega), Bool.true_or, Bool.true_and]; simpa using ih'
      · simp only [decide_eq_false h2, if_neg Bool.false_ne_true, Bool.false_and]; exact Ev.now _
    · simp only [if_neg h1, Bool.eq_false_iff.mpr h1, Bool.false_and]; exact Ev.now _
theorem ev_impl_SchemaOk (s : List S60) (hl : s.length ≤ 1099511627776) (hs : ∀ x ∈ s, x.f0.size ≤ 1048576) : Ev (fun k => impl_SchemaOk.f k s) (schemaOk s) := by
  have := ev_impl_SchemaOk_l0 s hl hs s.length 0 (by omega)
  rw [Bool.and_comm] at this
  simpa [impl_SchemaOk.f, schemaOk] using this

/-- The places of the children of a node in a plan. -/
def kids (p : List S62) (k : Nat) : List Int :=
  if arity (kAt p k) = 2 then [((k + 1 : Nat) : Int), endI (endP p 10 (k + 1))] else if arity (kAt p k) = 1 then [((k + 1 : Nat) : Int)] else []

theorem ev_impl_children (p : List S62) (hl : p.length ≤ 1048576) (r k : Nat) (x : Nat × Nat) (hr : r ≤ 10) (h : endP p r k = some x) : Ev (fun n => impl_children.f n p k) (kids p k) := by
  have hx := endP_range p _ _ _ h
  obtain ⟨r, rfl⟩ : ∃ q, r = q + 1 := by cases r with | zero => simp [endP] at h | succ q => exact ⟨q, rfl⟩
  have e2 : ((k : Int) + 1) = ((k + 1 : Nat) : Int) := by omega
  have i1 := ev_impl_end p hl 10 (k + 1) (by omega) (by omega)
  rw [show (11 : Int) - ((10 : Nat) : Int) = 1 from rfl] at i1
  simp only [impl_children.f, if_pos (show (0 : Int) ≤ k by omega), if_pos (show (k : Int) < p.length by omega), w64 (x := (k : Int) + 1) (by omega), e2, w64 (x := ((k + 1 : Nat) : Int)) (by omega)]
  refine Ev.bind (ev_impl_ArityOf _) ?_
  rw [show arity (rd_T62 p (k : Int)).f0 = arity (kAt p k) from rfl]
  unfold kids
  rcases arity_cases (kAt p k) with ha | ha | ha | ha
  · rw [ha, if_neg (by omega), if_neg (by omega)]
    apply Ev.step
    · intro k; rw [impl_children.l0]
    simp only [if_neg (show ¬ (0 : Int) < -1 by omega)]
    exact Ev.now _
  · rw [ha, if_neg (by omega), if_neg (by omega)]
    apply Ev.step
    · intro k; rw [impl_children.l0]
    simp only [if_neg (show ¬ (0 : Int) < 0 by omega)]
    exact Ev.now _
  · rw [ha, if_neg (by omega), if_pos rfl]
    apply Ev.step
    · intro k; rw [impl_children.l0]
    simp only [if_pos (show (0 : Int) < 1 by omega), List.length_nil, if_pos (show (0 : Nat) < 17592186044416 by omega), List.nil_append]
    refine Ev.bind i1 ?_
    apply Ev.step
    · intro k; rw [impl_children.l0]
    simp only [w01, if_neg (show ¬ (1 : Int) < 1 by omega)]
    exact Ev.now _
  · rw [ha, if_pos rfl]
    unfold endP at h
    rw [if_neg (by omega), if_pos ha] at h
    obtain ⟨y, hy, h⟩ := Option.bind_eq_some_iff.1 h
    obtain ⟨z, hz, h⟩ := Option.bind_eq_some_iff.1 h
    have hyr := endP_range p _ _ _ hy
    have hy10 := endP_mono p _ _ _ 10 hy (by omega)
    rw [hy10] at i1 ⊢
    apply Ev.step
    · intro k; rw [impl_children.l0]
    simp only [if_pos (show (0 : Int) < 2 by omega), List.length_nil, if_pos (show (0 : Nat) < 17592186044416 by omega), List.nil_append]
    refine Ev.bind i1 ?_
    have i2 := ev_impl_end p hl 10 y.1 (by omega) (by omega)
    rw [show (11 : Int) - ((10 : Nat) : Int) = 1 from rfl] at i2
    apply Ev.step
    · intro k; rw [impl_children.l0]
    rw [show endI (some y) = ((y.1 : Nat) : Int) from rfl]
    simp only [w01, w12, if_pos (show (1 : Int) < 2 by omega), List.length_cons, List.length_nil, if_pos (show (0 + 1 : Nat) < 17592186044416 by omega), List.cons_append, List.nil_append]
    refine Ev.bind i2 ?_
    apply Ev.step
    · intro k; rw [impl_children.l0]
    simp only [if_neg (show ¬ (2 : Int) < 2 by omega)]
    exact Ev.now _

def findFrom (s : List S60) (n : ByteArray) : Nat → Nat → Int
  | 0, _ => -1
  | d + 1, i => if (rd_T60 s (i : Int)).f0.toList = n.toList then (i : Int) else findFrom s n d (i + 1)
def findT (s : List S60) (n : ByteArray) : Int := findFrom s n s.length 0
theorem findFrom_range (s : List S60) (n : ByteArray) : ∀ d i : Nat, i + d = s.length → -1 ≤ findFrom s n d i ∧ findFrom s n d i < s.length := by
  intro d
  induction d with
  | zero => intro i h; unfold findFrom; omega
  | succ d ih =>
    intro i h
    have := ih (i + 1) (by omega)
    unfold findFrom
    split <;> omega
theorem findT_range (s : List S60) (n : ByteArray) : -1 ≤ findT s n ∧ findT s n < s.length := findFrom_range s n s.length 0 (by omega)
def findTable (s : List S60) (n : ByteArray) : ByteArray × Int × Bool :=
  if schemaOk s = true then (if findT s n < 0 then (⟨#[]⟩, 0, false) else ((rd_T60 s (findT s n)).f0, (rd_T60 s (findT s n)).f1, true)) else (⟨#[]⟩, 0, false)

theorem ev_impl_tableAt_l0 (s : List S60) (n : ByteArray) (hl : s.length ≤ 1048576) : ∀ (d i : Nat), i + d = s.length → Ev (fun k => impl_tableAt.l0 k s n (s.length : Int) i) (findFrom s n d i) := by
  intro d
  induction d with
  | zero =>
    intro i h
    apply Ev.step
    · intro k; rw [impl_tableAt.l0]
    simp only [if_neg (show ¬ ((i : Int) < s.length) by omega), findFrom]
    exact Ev.now _
  | succ d ih =>
    intro i h
    have ih' := ih (i + 1) (by omega)
    apply Ev.step
    · intro k; rw [impl_tableAt.l0]
    simp only [if_pos (show (i : Int) < s.length by omega), if_pos (show (0 : Int) ≤ i by omega), w64 (x := (i : Int) + 1) (by omega), findFrom, beq_iff_eq]
    refine Ev_ite (fun h1 => ?_) (fun h1 => ?_)
    · rw [if_pos h1]; exact Ev.now _
    · rw [if_neg h1]; simpa using ih'
theorem ev_impl_tableAt (s : List S60) (n : ByteArray) (hl : s.length ≤ 1048576) : Ev (fun k => impl_tableAt.f k s n) (findT s n) := by
  simpa [impl_tableAt.f, findT] using ev_impl_tableAt_l0 s n hl s.length 0 (by omega)

def maxFrom (l : List Int) : Nat → Nat → Int → Int
  | 0, _, m => m
  | d + 1, i, m => maxFrom l d (i + 1) (mx m (rd l i))
theorem ev_max_l0 (l : List Int) (hl : l.length ≤ 1048576) : ∀ (d i : Nat) (m : Int), i + d = l.length → Ev (fun k => slices_Max_int_int.l0 k l m i) (maxFrom l d i m) := by
  intro d
  induction d with
  | zero =>
    intro i m h
    apply Ev.step
    · intro k; rw [slices_Max_int_int.l0]
    simp only [if_neg (show ¬ ((i : Int) < l.length) by omega)]
    exact Ev.now _
  | succ d ih =>
    intro i m h
    have ih' := ih (i + 1) (mx m (rd l i)) (by omega)
    apply Ev.step
    · intro k; rw [slices_Max_int_int.l0]
    simp only [if_pos (show (i : Int) < l.length by omega), if_pos (show (0 : Int) ≤ i by omega), w64 (x := (i : Int) + 1) (by omega)]
    exact ih'
theorem mx_le (a b w : Int) : w ≤ mx a b ↔ w ≤ a ∨ w ≤ b := by
  unfold mx
  split <;> omega
theorem maxFrom_le (l : List Int) (w : Int) : ∀ (d i : Nat) (m : Int), i + d = l.length → (w ≤ maxFrom l d i m ↔ w ≤ m ∨ (l.drop i).any (fun c => decide (w ≤ c)) = true) := by
  intro d
  induction d with
  | zero =>
    intro i m h
    unfold maxFrom
    rw [List.drop_eq_nil_of_le (by omega)]
    simp
  | succ d ih =>
    intro i m h
    unfold maxFrom
    rw [ih (i + 1) _ (by omega), mx_le, drop_rd l i (by omega), List.any_cons, Bool.or_eq_true, decide_eq_true_eq, or_assoc]
theorem ev_slices_Max_int_int (l : List Int) (h1 : 1 ≤ l.length) (hl : l.length ≤ 1048576) : ∃ m, Ev (fun k => slices_Max_int_int.f k l) m ∧ ∀ w, (w ≤ m ↔ l.any (fun c => decide (w ≤ c)) = true) := by
  refine ⟨maxFrom l (l.length - 1) 1 (rd l 0), ?_, fun w => ?_⟩
  · simp only [slices_Max_int_int.f, if_neg (show ¬ ((l.length : Int) < 1) by omega), if_pos (show (0 : Int) < l.length by omega)]
    exact ev_max_l0 l hl (l.length - 1) 1 (rd l 0) (by omega)
  · rw [maxFrom_le l w (l.length - 1) 1 (rd l 0) (by omega)]
    have e := drop_rd l 0 (by omega)
    rw [List.drop_zero] at e
    conv => rhs; rw [e]
    rw [List.any_cons, Bool.or_eq_true, decide_eq_true_eq]
    rfl

theorem plan_end {p : List S62} (h : planOk p = true) : ∃ x, endP p 10 0 = some x ∧ x.1 = p.length := by
  unfold planOk at h
  simp only [Bool.and_eq_true, decide_eq_true_eq] at h
  cases hx : endP p 10 0 with
  | none => rw [hx] at h; simp only [endI] at h; omega
  | some x => rw [hx] at h; simp only [endI] at h; exact ⟨x, rfl, by omega⟩

def goodAt (p : List S62) (k : Int) : Bool := planOk p && decide (0 ≤ k ∧ k ≤ (p.length : Int) - 1)
def endOf (p : List S62) (k : Int) : Int := if goodAt p k = true then endI (endP p 10 k.toNat) else -1

/-- Each place within a part is a part's begin, within the part's end and its levels. -/
theorem endP_inside (p : List S62) : ∀ (r k : Nat) (x : Nat × Nat), endP p r k = some x → ∀ j, k ≤ j → j < x.1 → ∃ q y, q ≤ r ∧ endP p q j = some y ∧ y.1 ≤ x.1 := by
  intro r
  induction r with
  | zero => intro k x h; simp [endP] at h
  | succ r ih =>
    intro k x h j hk hj
    by_cases e : j = k
    · subst e; exact ⟨r + 1, x, Nat.le_refl _, h, Nat.le_refl _⟩
    have h' := h
    unfold endP at h
    by_cases h0 : p.length ≤ k
    · rw [if_pos h0] at h; cases h
    rw [if_neg h0] at h
    by_cases h2 : arity (kAt p k) = 2
    · rw [if_pos h2] at h
      obtain ⟨y, hy, h⟩ := Option.bind_eq_some_iff.1 h
      obtain ⟨z, hz, h⟩ := Option.bind_eq_some_iff.1 h
      injection h with h
      have hzr := endP_range p _ _ _ hz
      subst h
      by_cases hy1 : j < y.1
      · obtain ⟨q, u, a, b, c⟩ := ih _ _ hy j (by omega) hy1
        exact ⟨q, u, by omega, b, by simp; omega⟩
      · obtain ⟨q, u, a, b, c⟩ := ih _ _ hz j (by omega) hj
        exact ⟨q, u, by omega, b, c⟩
    rw [if_neg h2] at h
    by_cases h1 : arity (kAt p k) = 1
    · rw [if_pos h1] at h
      obtain ⟨y, hy, h⟩ := Option.bind_eq_some_iff.1 h
      injection h with h
      subst h
      obtain ⟨q, u, a, b, c⟩ := ih _ _ hy j (by omega) hj
      exact ⟨q, u, by omega, b, c⟩
    rw [if_neg h1] at h
    injection h with h
    subst h
    simp at hj
    omega
theorem good_end {p : List S62} {k : Int} (h : goodAt p k = true) : ∃ n : Nat, k = n ∧ n < p.length ∧ ∃ q x, q ≤ 10 ∧ endP p q n = some x := by
  unfold goodAt at h
  simp only [Bool.and_eq_true, decide_eq_true_eq] at h
  obtain ⟨n, rfl⟩ := Int.eq_ofNat_of_zero_le h.2.1
  obtain ⟨x, hx, hl⟩ := plan_end h.1
  obtain ⟨q, y, a, b, _⟩ := endP_inside p _ _ _ hx n (by omega) (by omega)
  exact ⟨n, rfl, by omega, q, y, a, b⟩
def kidsOf (p : List S62) (k : Int) : List Int := if goodAt p k = true then kids p k.toNat else []
theorem kids_length (p : List S62) (k : Nat) : (kids p k).length ≤ 2 := by
  unfold kids
  repeat' split
  all_goals simp
theorem kidsOf_length (p : List S62) (k : Int) : (kidsOf p k).length ≤ 2 := by
  unfold kidsOf
  split
  · exact kids_length _ _
  · simp

def partOf (p : List S62) (k : Int) : List S62 := if goodAt p k = true then (p.take (endOf p k).toNat).drop k.toNat else []
theorem endOf_good {p : List S62} {k : Int} (h : goodAt p k = true) : 0 ≤ k ∧ k < endOf p k ∧ endOf p k ≤ p.length ∧ endOf p k = endI (endP p 10 k.toNat) := by
  obtain ⟨n, rfl, hn, q, x, hq, hx⟩ := good_end h
  have h10 := endP_mono p _ _ _ 10 hx hq
  have hr := endP_range p _ _ _ hx
  have e : endOf p (n : Int) = x.1 := by
    unfold endOf
    rw [if_pos h, Int.toNat_natCast, h10]
    rfl
  refine ⟨by omega, by omega, by omega, ?_⟩
  unfold endOf
  rw [if_pos h]
theorem partOf_length (p : List S62) (k : Int) : (partOf p k).length ≤ p.length := by
  unfold partOf
  split
  · simp; omega
  · simp
theorem partOf_mem {p : List S62} {k : Int} {x : S62} (h : x ∈ partOf p k) : x ∈ p := by
  unfold partOf at h
  split at h
  · exact List.mem_of_mem_take (List.mem_of_mem_drop h)
  · cases h

/-! The width of a plan's node, by what its table's width is (scan); -1 where it has none. -/
def wUse (x : S62) (w0 w1 : Int) : Int :=
  if x.f0 = 1 ∨ x.f0 = 5 then (if w0 ≤ x.f2 then -1 else w0)
  else if x.f0 = 2 then (if (x.f6.any fun c => decide (w0 ≤ c)) = true then -1 else x.f6.length)
  else if x.f0 = 3 then (if w0 ≤ x.f2 ∨ w1 ≤ x.f4 ∨ 64 < w0 + w1 then -1 else w0 + w1)
  else if x.f0 = 4 then (if w0 = w1 then w0 else -1)
  else w0
def widthP (scan : ByteArray → Int) (p : List S62) : Nat → Nat → Int
  | 0, _ => -1
  | r + 1, k =>
    if arity (kAt p k) = 2 then
      (if widthP scan p r (k + 1) < 0 then -1
       else if widthP scan p r (endI (endP p r (k + 1))).toNat < 0 then -1
       else wUse (rd_T62 p (k : Int)) (widthP scan p r (k + 1)) (widthP scan p r (endI (endP p r (k + 1))).toNat))
    else if arity (kAt p k) = 1 then
      (if widthP scan p r (k + 1) < 0 then -1 else wUse (rd_T62 p (k : Int)) (widthP scan p r (k + 1)) 0)
    else scan (rd_T62 p (k : Int)).f1
theorem rdT_part (p : List S62) (k e j : Nat) (h : k + j < e) (he : e ≤ p.length) : rd_T62 ((p.take e).drop k) (j : Int) = rd_T62 p ((k + j : Nat) : Int) := by
  simp only [rd_T62, Int.toNat_natCast, List.getD_eq_getElem?_getD, List.getElem?_drop, List.getElem?_take]
  rw [if_pos h]
theorem kAt_part (p : List S62) (k e j : Nat) (h : k + j < e) (he : e ≤ p.length) : kAt ((p.take e).drop k) j = kAt p (k + j) := by
  unfold kAt
  rw [rdT_part p k e j h he]
theorem part_len (p : List S62) (k e : Nat) (he : e ≤ p.length) : ((p.take e).drop k).length = e - k := by
  rw [List.length_drop, List.length_take]; omega
theorem endP_part (p : List S62) (k e : Nat) (he : e ≤ p.length) : ∀ (r j : Nat) (x : Nat × Nat), endP p r (k + j) = some x → x.1 ≤ e → endP ((p.take e).drop k) r j = some (x.1 - k, x.2) := by
  intro r
  induction r with
  | zero => intro j x h; simp [endP] at h
  | succ r ih =>
    intro j x h hx
    have hr := endP_range p _ _ _ h
    have hl := part_len p k e he
    unfold endP at h ⊢
    rw [if_neg (show ¬ p.length ≤ k + j by omega)] at h
    rw [if_neg (show ¬ ((p.take e).drop k).length ≤ j by omega), kAt_part p k e j (by omega) he]
    by_cases h2 : arity (kAt p (k + j)) = 2
    · rw [if_pos h2] at h ⊢
      obtain ⟨y, hy, h⟩ := Option.bind_eq_some_iff.1 h
      obtain ⟨z, hz, h⟩ := Option.bind_eq_some_iff.1 h
      injection h with h
      subst h
      have a := endP_range p _ _ _ hy
      have b := endP_range p _ _ _ hz
      have i1 := ih (j + 1) y (by rw [← Nat.add_assoc]; exact hy) (by simp only at hx; omega)
      have i2 := ih (y.1 - k) z (by rw [show k + (y.1 - k) = y.1 by omega]; exact hz) hx
      rw [i1, Option.bind_some]
      simp only
      rw [i2, Option.bind_some]
    rw [if_neg h2] at h ⊢
    by_cases h1 : arity (kAt p (k + j)) = 1
    · rw [if_pos h1] at h ⊢
      obtain ⟨y, hy, h⟩ := Option.bind_eq_some_iff.1 h
      injection h with h
      subst h
      have a := endP_range p _ _ _ hy
      rw [ih (j + 1) y (by rw [← Nat.add_assoc]; exact hy) hx, Option.bind_some]
    rw [if_neg h1] at h ⊢
    injection h with h
    subst h
    simp only
    congr 2
    omega
theorem widthP_part (scan : ByteArray → Int) (p : List S62) (k e : Nat) (he : e ≤ p.length) : ∀ (r j : Nat) (x : Nat × Nat), endP p r (k + j) = some x → x.1 ≤ e → widthP scan ((p.take e).drop k) r j = widthP scan p r (k + j) := by
  intro r
  induction r with
  | zero => intro j x h; simp [endP] at h
  | succ r ih =>
    intro j x h hx
    have hr := endP_range p _ _ _ h
    unfold endP at h
    rw [if_neg (show ¬ p.length ≤ k + j by omega)] at h
    unfold widthP
    rw [kAt_part p k e j (by omega) he, rdT_part p k e j (by omega) he]
    by_cases h2 : arity (kAt p (k + j)) = 2
    · rw [if_pos h2] at h
      obtain ⟨y, hy, h⟩ := Option.bind_eq_some_iff.1 h
      obtain ⟨z, hz, h⟩ := Option.bind_eq_some_iff.1 h
      injection h with h
      subst h
      have a := endP_range p _ _ _ hy
      have b := endP_range p _ _ _ hz
      simp only at hx
      have e1 := ih (j + 1) y (by rw [← Nat.add_assoc]; exact hy) (by omega)
      have e2 := ih (y.1 - k) z (by rw [show k + (y.1 - k) = y.1 by omega]; exact hz) hx
      have e3 := endP_part p k e he r (j + 1) y (by rw [← Nat.add_assoc]; exact hy) (by omega)
      rw [show k + (j + 1) = k + j + 1 by omega] at e1
      rw [show k + (y.1 - k) = y.1 by omega] at e2
      rw [if_pos h2, if_pos h2, e3, hy, show (endI (some (y.1 - k, y.2))).toNat = y.1 - k from rfl, show (endI (some y)).toNat = y.1 from rfl, e1, e2]
    rw [if_neg h2] at h
    rw [if_neg h2, if_neg h2]
    by_cases h1 : arity (kAt p (k + j)) = 1
    · rw [if_pos h1] at h
      obtain ⟨y, hy, h⟩ := Option.bind_eq_some_iff.1 h
      injection h with h
      subst h
      have e1 := ih (j + 1) y (by rw [← Nat.add_assoc]; exact hy) hx
      rw [show k + (j + 1) = k + j + 1 by omega] at e1
      rw [if_pos h1, if_pos h1, e1]
    · rw [if_neg h1, if_neg h1]
/-- More room changes nothing. -/
theorem widthP_mono (scan : ByteArray → Int) (p : List S62) : ∀ (r k : Nat) (x : Nat × Nat) (q : Nat), endP p r k = some x → r ≤ q → widthP scan p q k = widthP scan p r k := by
  intro r
  induction r with
  | zero => intro k x q h; simp [endP] at h
  | succ r ih =>
    intro k x q h hq
    obtain ⟨q, rfl⟩ : ∃ m, q = m + 1 := ⟨q - 1, by omega⟩
    have hr := endP_range p _ _ _ h
    unfold endP at h
    rw [if_neg (show ¬ p.length ≤ k by omega)] at h
    unfold widthP
    by_cases h2 : arity (kAt p k) = 2
    · rw [if_pos h2] at h
      obtain ⟨y, hy, h⟩ := Option.bind_eq_some_iff.1 h
      obtain ⟨z, hz, h⟩ := Option.bind_eq_some_iff.1 h
      rw [if_pos h2, if_pos h2, endP_mono p _ _ _ q hy (by omega), hy, show (endI (some y)).toNat = y.1 from rfl, ih (k + 1) y q hy (by omega), ih y.1 z q hz (by omega)]
    rw [if_neg h2] at h
    rw [if_neg h2, if_neg h2]
    by_cases h1 : arity (kAt p k) = 1
    · rw [if_pos h1] at h
      obtain ⟨y, hy, h⟩ := Option.bind_eq_some_iff.1 h
      rw [if_pos h1, if_pos h1, ih (k + 1) y q hy (by omega)]
    · rw [if_neg h1, if_neg h1]
/-- A part of a plan is a plan. -/
theorem partOf_ok {p : List S62} {k : Int} (h : goodAt p k = true) : planOk (partOf p k) = true := by
  obtain ⟨n, rfl, hn, q, x, hq, hx⟩ := good_end h
  have h10 := endP_mono p _ _ _ 10 hx hq
  have hr := endP_range p _ _ _ hx
  have hg : planOk p = true := by
    unfold goodAt at h
    simp only [Bool.and_eq_true] at h
    exact h.1
  have e : endOf p (n : Int) = x.1 := by
    unfold endOf
    rw [if_pos h, Int.toNat_natCast, h10]
    rfl
  have hp : partOf p (n : Int) = (p.take x.1).drop n := by
    unfold partOf
    rw [if_pos h, e, Int.toNat_natCast, Int.toNat_natCast]
  have hl := part_len p n x.1 hr.2.1
  have he := endP_part p n x.1 hr.2.1 10 0 x h10 (Nat.le_refl _)
  rw [hp]
  unfold planOk at hg ⊢
  simp only [Bool.and_eq_true, decide_eq_true_eq] at hg ⊢
  refine ⟨⟨by omega, ?_⟩, ?_⟩
  · rw [List.all_eq_true] at hg ⊢
    intro y hy
    exact hg.1.2 y (List.mem_of_mem_take (List.mem_of_mem_drop hy))
  · rw [he, hl]
    simp only [endI]
/-- What a plan's part has as its width is what the plan's node has. -/
theorem widthP_of_part (scan : ByteArray → Int) {p : List S62} {k : Int} (h : goodAt p k = true) : widthP scan (partOf p k) 10 0 = widthP scan p 10 k.toNat := by
  obtain ⟨n, rfl, hn, q, x, hq, hx⟩ := good_end h
  have h10 := endP_mono p _ _ _ 10 hx hq
  have hr := endP_range p _ _ _ hx
  have e : endOf p (n : Int) = x.1 := by
    unfold endOf
    rw [if_pos h, Int.toNat_natCast, h10]
    rfl
  have hp : partOf p (n : Int) = (p.take x.1).drop n := by
    unfold partOf
    rw [if_pos h, e, Int.toNat_natCast, Int.toNat_natCast]
  rw [hp, Int.toNat_natCast]
  exact widthP_part scan p n x.1 hr.2.1 10 0 x h10 (Nat.le_refl _)
theorem rdT_cols {p : List S62} (hc : ∀ x ∈ p, x.f6.length ≤ 1048576) (k : Nat) : (rd_T62 p (k : Int)).f6.length ≤ 1048576 := by
  by_cases h : k < p.length
  · exact hc _ (rdT_memN h)
  · have e : rd_T62 p (k : Int) = z62 := by
      simp only [rd_T62, Int.toNat_natCast, List.getD_eq_getElem?_getD]
      rw [List.getElem?_eq_none (by omega)]
      rfl
    rw [e]
    simp [z62]
theorem wUse_range (x : S62) {w0 w1 : Int} (h0 : 0 ≤ w0 ∧ w0 ≤ 1048576) (h1 : 0 ≤ w1 ∧ w1 ≤ 1048576) (hc : x.f6.length ≤ 1048576) : -1 ≤ wUse x w0 w1 ∧ wUse x w0 w1 ≤ 1048576 := by
  unfold wUse
  repeat' split
  all_goals omega
theorem widthP_range {scan : ByteArray → Int} (hs : ∀ n, -1 ≤ scan n ∧ scan n ≤ 1048576) {p : List S62} (hc : ∀ x ∈ p, x.f6.length ≤ 1048576) : ∀ r k : Nat, -1 ≤ widthP scan p r k ∧ widthP scan p r k ≤ 1048576 := by
  intro r
  induction r with
  | zero => intro k; unfold widthP; omega
  | succ r ih =>
    intro k
    have hq := rdT_cols hc k
    have i1 := ih (k + 1)
    unfold widthP
    by_cases h2 : arity (kAt p k) = 2
    · rw [if_pos h2]
      have i2 := ih (endI (endP p r (k + 1))).toNat
      by_cases n1 : widthP scan p r (k + 1) < 0
      · rw [if_pos n1]; omega
      rw [if_neg n1]
      by_cases n2 : widthP scan p r (endI (endP p r (k + 1))).toNat < 0
      · rw [if_pos n2]; omega
      rw [if_neg n2]
      exact wUse_range _ (by omega) (by omega) hq
    rw [if_neg h2]
    by_cases h1 : arity (kAt p k) = 1
    · rw [if_pos h1]
      by_cases n1 : widthP scan p r (k + 1) < 0
      · rw [if_pos n1]; omega
      rw [if_neg n1]
      exact wUse_range _ (by omega) (by omega) hq
    rw [if_neg h1]
    exact hs _

/-- The width of the table of that name; -1 where there is none. -/
def scanW (s : List S60) (n : ByteArray) : Int := if findT s n < 0 then -1 else (rd_T60 s (findT s n)).f1
theorem schFrom_at (s : List S60) : ∀ d i : Nat, schFrom s d i = true → ∀ j : Nat, i ≤ j → j < i + d → schAt s j = true
  | 0, i, _, j, h1, h2 => by omega
  | d + 1, i, h, j, h1, h2 => by
    unfold schFrom at h
    rw [Bool.and_eq_true] at h
    by_cases e : j = i
    · rw [e]; exact h.1
    · exact schFrom_at s d (i + 1) h.2 j (by omega) (by omega)
theorem sch_width {s : List S60} (h : schemaOk s = true) (j : Nat) (hj : j < s.length) : 1 ≤ (rd_T60 s (j : Int)).f1 ∧ (rd_T60 s (j : Int)).f1 ≤ 6 := by
  unfold schemaOk at h
  rw [Bool.and_eq_true] at h
  have ha := schFrom_at s s.length 0 h.2 j (by omega) (by omega)
  unfold schAt at ha
  rw [Bool.and_eq_true, Bool.and_eq_true, decide_eq_true_eq] at ha
  exact ha.2.1
theorem scanW_range {s : List S60} (h : schemaOk s = true) (n : ByteArray) : -1 ≤ scanW s n ∧ scanW s n ≤ 6 := by
  have hr := findT_range s n
  unfold scanW
  by_cases h0 : findT s n < 0
  · rw [if_pos h0]; omega
  · rw [if_neg h0]
    obtain ⟨j, hj⟩ : ∃ j : Nat, findT s n = j := ⟨(findT s n).toNat, by omega⟩
    rw [hj] at hr ⊢
    have := sch_width h j (by omega)
    omega

def widthOf (s : List S60) (p : List S62) : Int := if schemaOk s = true ∧ planOk p = true then widthP (scanW s) p 10 0 else -1
def widthAt (s : List S60) (p : List S62) (k : Int) : Int := if schemaOk s = true ∧ goodAt p k = true then widthP (scanW s) p 10 k.toNat else -1
theorem widthAt_part (s : List S60) (p : List S62) (k : Int) : widthOf s (partOf p k) = widthAt s p k := by
  unfold widthOf widthAt
  by_cases h : goodAt p k = true
  · simp only [partOf_ok h, h, and_true, widthP_of_part (scanW s) h]
  · have e : partOf p k = [] := by unfold partOf; rw [if_neg h]
    have e2 : planOk ([] : List S62) = false := by unfold planOk; simp
    rw [e, e2, if_neg (by simp), if_neg (fun q => h q.2)]
theorem keep_cols {x : S62} (h : nodeOkN x = true) (hk : x.f0 = 2) : 1 ≤ x.f6.length ∧ x.f6.length ≤ 6 := by
  unfold nodeOkN nodeOk nodeKind at h
  rw [hk, if_neg (by omega), if_neg (by omega), if_pos rfl] at h
  simp only [Bool.and_eq_true, decide_eq_true_eq] at h
  exact h.2.1.2

theorem ev_impl_width_j1 (x : S62) (ws : List Int) (h1 : 1 ≤ ws.length) (h2 : x.f0 = 3 ∨ x.f0 = 4 → ws.length = 2) (b0 : 0 ≤ rd ws 0 ∧ rd ws 0 ≤ 1048576) (b1 : 0 ≤ rd ws 1 ∧ rd ws 1 ≤ 1048576) (hk : x.f0 = 2 → 1 ≤ x.f6.length ∧ x.f6.length ≤ 6) (c : Bool) (hc : c = decide (x.f0 = 1 ∨ x.f0 = 5)) :
    Ev (fun q => impl_width.j1 q ws x.f0 c x.f0 x.f1 x.f2 x.f3 x.f4 x.f5 x.f6) (wUse x (rd ws 0) (rd ws 1)) := by
  subst hc
  have p0 : (0 : Int) < (ws.length : Int) := by omega
  apply Ev.step
  · intro k; rw [impl_width.j1]
  unfold wUse
  by_cases c1 : x.f0 = 1 ∨ x.f0 = 5
  · simp only [decide_eq_true c1, if_true, if_pos p0]
    rw [if_pos c1]
    refine Ev_ite (fun h => ?_) (fun h => ?_)
    · rw [if_pos h]; exact Ev.now _
    · rw [if_neg h]; exact Ev.now _
  simp only [decide_eq_false c1, if_neg Bool.false_ne_true]
  rw [if_neg c1]
  by_cases c2 : x.f0 = 2
  · simp only [if_pos c2]
    obtain ⟨m, hm, hw⟩ := ev_slices_Max_int_int x.f6 (hk c2).1 (by have := (hk c2).2; omega)
    refine Ev.bind hm ?_
    simp only [if_pos p0]
    refine Ev_ite (fun h => ?_) (fun h => ?_)
    · rw [if_pos ((hw _).1 h)]; exact Ev.now _
    · rw [if_neg (fun q => h ((hw _).2 q))]; exact Ev.now _
  simp only [if_neg c2]
  by_cases c3 : x.f0 = 3
  · have p1 : (1 : Int) < (ws.length : Int) := by have := h2 (.inl c3); omega
    simp only [if_pos c3, if_pos p0, if_pos p1, w64 (x := rd ws 0 + rd ws 1) (by omega)]
    refine Ev_ite (fun h => ?_) (fun h => ?_)
    · rw [if_pos (.inl h)]; exact Ev.now _
    refine Ev_ite (fun h' => ?_) (fun h' => ?_)
    · rw [if_pos (.inr (.inl h'))]; exact Ev.now _
    refine Ev_ite (fun h'' => ?_) (fun h'' => ?_)
    · rw [if_pos (.inr (.inr (by omega)))]; exact Ev.now _
    · rw [if_neg (fun q => by rcases q with q | q | q <;> omega)]; exact Ev.now _
  simp only [if_neg c3]
  by_cases c4 : x.f0 = 4
  · have p1 : (1 : Int) < (ws.length : Int) := by have := h2 (.inr c4); omega
    simp only [if_pos c4, if_pos p0, if_pos p1]
    refine Ev_ite (fun h => ?_) (fun h => ?_)
    · rw [if_pos h]; exact Ev.now _
    · rw [if_neg h]; exact Ev.now _
  simp only [if_neg c4, if_pos p0]
  exact Ev.now _
theorem node_kinds {x : S62} (h : nodeOkN x = true) : x.f0 = 0 ∨ x.f0 = 1 ∨ x.f0 = 2 ∨ x.f0 = 3 ∨ x.f0 = 4 ∨ x.f0 = 5 ∨ x.f0 = 6 ∨ x.f0 = 7 := by
  unfold nodeOkN nodeOk at h
  rw [Bool.and_eq_true] at h
  have h' := h.2
  unfold nodeKind at h'
  apply Classical.byContradiction
  intro g
  simp only [not_or] at g
  obtain ⟨g0, g1, g2, g3, g4, g5, g6, g7⟩ := g
  rw [if_neg g0, if_neg g1, if_neg g2, if_neg g3, if_neg g5, if_neg g6, if_neg (fun q => q.elim g4 g7)] at h'
  cases h'
theorem ev_impl_width (s : List S60) (hsk : schemaOk s = true) (hl : s.length ≤ 1048576) (p : List S62) (hp : p.length ≤ 1048576) (hok : ∀ x ∈ p, nodeOkN x = true) (hc : ∀ x ∈ p, x.f6.length ≤ 1048576) : ∀ (r k : Nat) (x : Nat × Nat), r ≤ 10 → endP p r k = some x → Ev (fun n => impl_width.f n s p (k : Int)) (widthP (scanW s) p r k) := by
  intro r
  induction r with
  | zero => intro k x hr h; simp [endP] at h
  | succ r ih =>
    intro k x hr h
    have hx := endP_range p _ _ _ h
    have hn := hok _ (rdT_memN (show k < p.length by omega))
    have hch := ev_impl_children p hp (r + 1) k x hr h
    have hB := widthP_range (scan := scanW s) (fun n => by have := scanW_range hsk n; omega) hc r
    have q0 : (0 : Int) ≤ (k : Int) := by omega
    have q1 : (k : Int) < (p.length : Int) := by omega
    have hkA : kAt p k = (rd_T62 p (k : Int)).f0 := rfl
    apply Ev.step
    · intro k; rw [impl_width.f]
    refine Ev.bind hch ?_
    unfold kids
    unfold endP at h
    rw [if_neg (show ¬ p.length ≤ k by omega)] at h
    unfold widthP
    rw [hkA] at *
    generalize hnd : rd_T62 p (k : Int) = nd at *
    -- the switch, once all children are told
    have sw : ∀ (ws kd : List Int) (n : Int), n = kd.length → nd.f0 ≠ 0 → 1 ≤ ws.length → (nd.f0 = 3 ∨ nd.f0 = 4 → ws.length = 2) → (0 ≤ rd ws 0 ∧ rd ws 0 ≤ 1048576) → (0 ≤ rd ws 1 ∧ rd ws 1 ≤ 1048576) → Ev (fun q => impl_width.l0 q s p (k : Int) ws kd (kd.length : Int) n) (wUse nd (rd ws 0) (rd ws 1)) := by
      intro ws kd n e h0 h1 h2 b0 b1
      subst e
      apply Ev.step
      · intro k; rw [impl_width.l0]
      simp only [if_neg (show ¬ ((kd.length : Int) < kd.length) by omega), if_pos q0, if_pos q1, hnd, if_neg h0]
      refine Ev_ite (fun g => ?_) (fun g => ?_)
      · exact ev_impl_width_j1 nd ws h1 h2 b0 b1 (fun e => keep_cols hn e) _ (by rw [Bool.eq_iff_iff]; simp [g])
      · exact ev_impl_width_j1 nd ws h1 h2 b0 b1 (fun e => keep_cols hn e) _ (by rw [Bool.eq_iff_iff]; simp [g])
    have az : arity nd.f0 ≠ 0 → nd.f0 ≠ 0 := fun e g => e (by rw [g]; rfl)
    by_cases h2 : arity nd.f0 = 2
    · rw [if_pos h2] at h
      rw [if_pos h2, if_pos h2]
      obtain ⟨y, hy, h⟩ := Option.bind_eq_some_iff.1 h
      obtain ⟨z, hz, h⟩ := Option.bind_eq_some_iff.1 h
      have ey : endI (endP p 10 (k + 1)) = (y.1 : Int) := by rw [endP_mono p _ _ _ 10 hy (by omega)]; rfl
      have i1 := ih (k + 1) y (by omega) hy
      have i2 := ih y.1 z (by omega) hz
      rw [ey, hy, show (endI (some y)).toNat = y.1 from rfl]
      have B1 := hB (k + 1)
      have B2 := hB y.1
      apply Ev.step
      · intro k; rw [impl_width.l0]
      simp only [List.length_cons, List.length_nil, if_pos (show (0 : Int) < ((0 + 1 + 1 : Nat) : Int) by omega), if_pos (show (0 : Int) ≤ 0 by omega), show rd [((k + 1 : Nat) : Int), (y.1 : Int)] 0 = ((k + 1 : Nat) : Int) from rfl]
      refine Ev.bind i1 ?_
      refine Ev_ite (fun g => ?_) (fun g => ?_)
      · rw [if_pos g]; exact Ev.now _
      rw [if_neg g]
      simp only [if_pos (show (0 : Nat) < 17592186044416 by omega), List.nil_append, show wrap64 ((0 : Int) + 1) = 1 from (w64 (x := (0 : Int) + 1) (by omega)).trans rfl]
      apply Ev.step
      · intro k; rw [impl_width.l0]
      simp only [List.length_cons, List.length_nil, if_pos (show (1 : Int) < ((0 + 1 + 1 : Nat) : Int) by omega), if_pos (show (0 : Int) ≤ 1 by omega), show rd [((k + 1 : Nat) : Int), (y.1 : Int)] 1 = (y.1 : Int) from rfl]
      refine Ev.bind i2 ?_
      refine Ev_ite (fun g' => ?_) (fun g' => ?_)
      · rw [if_pos g']; exact Ev.now _
      rw [if_neg g']
      simp only [if_pos (show (0 + 1 : Nat) < 17592186044416 by omega), show wrap64 ((1 : Int) + 1) = 2 from (w64 (x := (1 : Int) + 1) (by omega)).trans rfl]
      exact sw [widthP (scanW s) p r (k + 1), widthP (scanW s) p r y.1] [((k + 1 : Nat) : Int), (y.1 : Int)] 2 rfl (az (by omega)) (by simp) (fun _ => rfl) ⟨by show 0 ≤ widthP (scanW s) p r (k + 1); omega, by show widthP (scanW s) p r (k + 1) ≤ _; omega⟩ ⟨by show 0 ≤ widthP (scanW s) p r y.1; omega, by show widthP (scanW s) p r y.1 ≤ _; omega⟩
    rw [if_neg h2] at h
    rw [if_neg h2, if_neg h2]
    by_cases h1 : arity nd.f0 = 1
    · rw [if_pos h1] at h
      rw [if_pos h1, if_pos h1]
      obtain ⟨y, hy, h⟩ := Option.bind_eq_some_iff.1 h
      have i1 := ih (k + 1) y (by omega) hy
      have B1 := hB (k + 1)
      apply Ev.step
      · intro k; rw [impl_width.l0]
      simp only [List.length_cons, List.length_nil, if_pos (show (0 : Int) < ((0 + 1 : Nat) : Int) by omega), if_pos (show (0 : Int) ≤ 0 by omega), show rd [((k + 1 : Nat) : Int)] 0 = ((k + 1 : Nat) : Int) from rfl]
      refine Ev.bind i1 ?_
      refine Ev_ite (fun g => ?_) (fun g => ?_)
      · rw [if_pos g]; exact Ev.now _
      rw [if_neg g]
      simp only [if_pos (show (0 : Nat) < 17592186044416 by omega), List.nil_append, show wrap64 ((0 : Int) + 1) = 1 from (w64 (x := (0 : Int) + 1) (by omega)).trans rfl]
      exact sw [widthP (scanW s) p r (k + 1)] [((k + 1 : Nat) : Int)] 1 rfl (az (by omega)) (by simp) (fun e => absurd h2 (fun q => q (by rcases e with e | e <;> rw [e] <;> rfl))) ⟨by show 0 ≤ widthP (scanW s) p r (k + 1); omega, by show widthP (scanW s) p r (k + 1) ≤ _; omega⟩ ⟨by show (0 : Int) ≤ 0; omega, by show (0 : Int) ≤ _; omega⟩
    rw [if_neg h1, if_neg h1]
    have hz : nd.f0 = 0 := by
      rcases node_kinds hn with e | e | e | e | e | e | e | e
      · exact e
      all_goals first | exact absurd (show arity nd.f0 = 1 by rw [e]; rfl) h1 | exact absurd (show arity nd.f0 = 2 by rw [e]; rfl) h2
    have hr2 := findT_range s nd.f1
    apply Ev.step
    · intro k; rw [impl_width.l0]
    simp only [List.length_nil, if_neg (show ¬ ((0 : Int) < ((0 : Nat) : Int)) by omega), if_pos q0, if_pos q1, hnd, if_pos hz]
    refine Ev.bind (ev_impl_tableAt s nd.f1 hl) ?_
    unfold scanW
    refine Ev_ite (fun g => ?_) (fun g => ?_)
    · rw [if_pos g]; exact Ev.now _
    · rw [if_neg g]
      simp only [if_pos (show 0 ≤ findT s nd.f1 by omega), if_pos (show findT s nd.f1 < (s.length : Int) by omega)]
      exact Ev.now _

theorem ev_impl_WidthOf (s : List S60) (hl : s.length ≤ 1048576) (hs : ∀ x ∈ s, x.f0.size ≤ 1048576) (p : List S62) (hp : p.length ≤ 1048576) (hc : ∀ x ∈ p, x.f1.size ≤ 1048576 ∧ x.f6.length ≤ 1048576) : Ev (fun k => impl_WidthOf.f k s p) (widthOf s p) := by
  simp only [impl_WidthOf.f]
  refine Ev.bind (ev_impl_SchemaOk s (by omega) hs) ?_
  unfold widthOf
  refine Ev_ite (fun h1 => ?_) (fun h1 => ?_)
  · refine Ev.bind (ev_impl_PlanOk p hp hc) ?_
    refine Ev_ite (fun h2 => ?_) (fun h2 => ?_)
    · rw [if_pos ⟨h1, h2⟩]
      obtain ⟨x, hx, _⟩ := plan_end h2
      have hok : ∀ y ∈ p, nodeOkN y = true := by
        have := h2
        unfold planOk at this
        simp only [Bool.and_eq_true, List.all_eq_true] at this
        exact this.1.2
      refine Ev.bind (ev_impl_width s h1 hl p hp hok (fun y hy => (hc y hy).2) 10 0 x (by omega) hx) ?_
      exact Ev.now _
    · rw [if_neg (fun q => h2 q.2)]; exact Ev.now _
  · rw [if_neg (fun q => h1 q.1)]; exact Ev.now _

def typedOk (s : List S60) (p : List S62) : Bool := decide (widthOf s p ≥ 0)
theorem widthOf_range (s : List S60) (p : List S62) (hc : ∀ x ∈ p, x.f6.length ≤ 1048576) : -1 ≤ widthOf s p := by
  unfold widthOf
  split
  · rename_i h
    exact (widthP_range (fun n => by have := scanW_range h.1 n; omega) hc 10 0).1
  · omega
theorem typedOk_ne (s : List S60) (p : List S62) (hc : ∀ x ∈ p, x.f6.length ≤ 1048576) : (widthOf s p != -1) = typedOk s p := by
  have h := widthOf_range s p hc
  unfold typedOk
  by_cases h2 : widthOf s p = -1
  · rw [h2]; decide
  · rw [decide_eq_true (show widthOf s p ≥ 0 by omega)]
    simpa using h2

theorem ev_impl_TypedOk (s : List S60) (hl : s.length ≤ 1048576) (hs : ∀ x ∈ s, x.f0.size ≤ 1048576) (p : List S62) (hp : p.length ≤ 1048576) (hc : ∀ x ∈ p, x.f1.size ≤ 1048576 ∧ x.f6.length ≤ 1048576) : Ev (fun k => impl_TypedOk.f k s p) (typedOk s p) := by
  simp only [impl_TypedOk.f]
  refine Ev.bind (ev_impl_WidthOf s hl hs p hp hc) ?_
  exact Ev.now _

theorem ev_eqIntS_l0 (x0 : List Int) (hl : x0.length ≤ 1099511627776) : ∀ (d : Nat) (i : Nat), i + d = x0.length → Ev (fun k => laws_eqIntS.l0 k x0 x0 i) true := by
  intro d
  induction d with
  | zero =>
    intro i h2
    apply Ev.step
    · intro k; rw [laws_eqIntS.l0]
    simp only [if_neg (show ¬ ((i : Int) < x0.length) by omega)]
    exact Ev.now _
  | succ d ih =>
    intro i h2
    apply Ev.step
    · intro k; rw [laws_eqIntS.l0]
    simp only [if_pos (show (i : Int) < x0.length by omega), if_pos (show (0 : Int) ≤ i by omega), if_true, w64 (x := (i : Int) + 1) (by omega)]
    have := ih (i + 1) (by omega)
    simpa using this
theorem ev_eqIntS (l : List Int) (h : l.length ≤ 1099511627776) : Ev (fun k => laws_eqIntS.f k l l) true := by
  simp only [laws_eqIntS.f, if_true]
  exact ev_eqIntS_l0 l h l.length 0 (by omega)

theorem ev_eqNode (x : S62) (h : x.f6.length ≤ 1099511627776) : Ev (fun k => laws_eqNode.f k x.f0 x.f1 x.f2 x.f3 x.f4 x.f5 x.f6 x.f0 x.f1 x.f2 x.f3 x.f4 x.f5 x.f6) true := by
  simp only [laws_eqNode.f, if_true, bne_self_eq_false, if_neg Bool.false_ne_true]
  refine Ev.bind (ev_eqIntS _ h) ?_
  simp only [if_true]
  exact Ev.now _

theorem ev_laws_eqNodeS_l0 (x0 : List (S62)) (hl : x0.length ≤ 1099511627776) (hs : ∀ x ∈ x0, x.f6.length ≤ 1099511627776) : ∀ (d : Nat) (i : Nat), i + d = x0.length → Ev (fun k => laws_eqNodeS.l0 k x0 x0 i) true := by
  intro d
  induction d with
  | zero =>
    intro i h2
    apply Ev.step
    · intro k; rw [laws_eqNodeS.l0]
    simp only [if_neg (show ¬ ((i : Int) < x0.length) by omega)]
    exact Ev.now _
  | succ d ih =>
    intro i h2
    have hg : x0[i]? = some (rd_T62 x0 (i : Int)) := by simp [rd_T62, show i < x0.length by omega]
    have hm := hs _ (List.mem_of_getElem? hg)
    apply Ev.step
    · intro k; rw [laws_eqNodeS.l0]
    simp only [if_pos (show (i : Int) < x0.length by omega), if_pos (show (0 : Int) ≤ i by omega)]
    refine Ev.bind (ev_eqNode _ hm) ?_
    simp only [if_true, w64 (x := (i : Int) + 1) (by omega)]
    have := ih (i + 1) (by omega)
    simpa using this
theorem ev_laws_eqNodeS (l : List (S62)) (h : l.length ≤ 1099511627776) (hs : ∀ x ∈ l, x.f6.length ≤ 1099511627776) : Ev (fun k => laws_eqNodeS.f k l l) true := by
  simp only [laws_eqNodeS.f, if_true]
  exact ev_laws_eqNodeS_l0 l h hs l.length 0 (by omega)

theorem eqTable_eq (a : ByteArray) (b : Int) : laws_eqTable.f a b a b = some true := by simp [laws_eqTable.f]

theorem ev_laws_eqTableS_l0 (x0 : List (S60)) (hl : x0.length ≤ 1099511627776) (hs : ∀ x ∈ x0, True) : ∀ (d : Nat) (i : Nat), i + d = x0.length → Ev (fun k => laws_eqTableS.l0 k x0 x0 i) true := by
  intro d
  induction d with
  | zero =>
    intro i h2
    apply Ev.step
    · intro k; rw [laws_eqTableS.l0]
    simp only [if_neg (show ¬ ((i : Int) < x0.length) by omega)]
    exact Ev.now _
  | succ d ih =>
    intro i h2
    have hg : x0[i]? = some (rd_T60 x0 (i : Int)) := by simp [rd_T60, show i < x0.length by omega]
    have hm := hs _ (List.mem_of_getElem? hg)
    apply Ev.step
    · intro k; rw [laws_eqTableS.l0]
    simp only [if_pos (show (i : Int) < x0.length by omega), if_pos (show (0 : Int) ≤ i by omega)]
    refine Ev.bind (Ev.const (eqTable_eq _ _)) ?_
    simp only [if_true, w64 (x := (i : Int) + 1) (by omega)]
    have := ih (i + 1) (by omega)
    simpa using this
theorem ev_laws_eqTableS (l : List (S60)) (h : l.length ≤ 1099511627776) (hs : ∀ x ∈ l, True) : Ev (fun k => laws_eqTableS.f k l l) true := by
  simp only [laws_eqTableS.f, if_true]
  exact ev_laws_eqTableS_l0 l h hs l.length 0 (by omega)

theorem szIntS_eq (l : List Int) (a : Int) (h0 : 0 ≤ a) (h1 : a ≤ 1048576) (hl : l.length ≤ 9223372036854775807) : ∃ r, laws_szIntS.f l a = some r ∧ -1 ≤ r ∧ r ≤ a ∧ (0 ≤ r → l.length ≤ 1048576) := by
  by_cases hn : a - (l.length : Int) < 0
  · exact ⟨-1, by simp only [laws_szIntS.f, w64 (x := a - (l.length : Int)) (by omega), if_pos hn], by omega, by omega, fun h => by omega⟩
  · exact ⟨a - l.length, by simp only [laws_szIntS.f, w64 (x := a - (l.length : Int)) (by omega), if_neg hn], by omega, by omega, fun h => by omega⟩
theorem ev_szIntS (l : List Int) (a : Int) (h0 : 0 ≤ a) (h1 : a ≤ 1048576) (hl : l.length ≤ 9223372036854775807) : ∃ r, Ev (fun _ => laws_szIntS.f l a) r ∧ -1 ≤ r ∧ r ≤ a ∧ (0 ≤ r → l.length ≤ 1048576) := by
  obtain ⟨r, h, g⟩ := szIntS_eq l a h0 h1 hl
  exact ⟨r, Ev.const h, g⟩

theorem szNode_eq (x : S57) (a : Int) (h0 : 0 ≤ a) (h1 : a ≤ 1048576) (hl : x.f1.size ≤ 9223372036854775807) (hc : x.f6.length ≤ 9223372036854775807) : ∃ r, laws_szNode.f x.f0 x.f1 x.f2 x.f3 x.f4 x.f5 x.f6 a = some r ∧ -1 ≤ r ∧ r ≤ a ∧ (0 ≤ r → x.f1.size ≤ 1048576 ∧ x.f6.length ≤ 1048576) := by
  by_cases hn : a - (x.f1.size : Int) < 0
  · exact ⟨-1, by simp only [laws_szNode.f, w64 (x := a - (x.f1.size : Int)) (by omega), if_pos hn], by omega, by omega, fun h => by omega⟩
  · obtain ⟨r, e, g1, g2, g3⟩ := szIntS_eq x.f6 (a - x.f1.size) (by omega) (by omega) hc
    by_cases hr : r < 0
    · exact ⟨-1, by simp only [laws_szNode.f, w64 (x := a - (x.f1.size : Int)) (by omega), if_neg hn, e, Option.bind_some, if_pos hr], by omega, by omega, fun h => by omega⟩
    · exact ⟨r, by simp only [laws_szNode.f, w64 (x := a - (x.f1.size : Int)) (by omega), if_neg hn, e, Option.bind_some, if_neg hr], by omega, by omega, fun h => ⟨by omega, g3 h⟩⟩
theorem ev_szNode (x : S57) (a : Int) (h0 : 0 ≤ a) (h1 : a ≤ 1048576) (hm : x.f1.size ≤ 9223372036854775807 ∧ x.f6.length ≤ 9223372036854775807) : ∃ r, Ev (fun _ => laws_szNode.f x.f0 x.f1 x.f2 x.f3 x.f4 x.f5 x.f6 a) r ∧ -1 ≤ r ∧ r ≤ a ∧ (0 ≤ r → x.f1.size ≤ 1048576 ∧ x.f6.length ≤ 1048576) := by
  obtain ⟨r, h, g⟩ := szNode_eq x a h0 h1 hm.1 hm.2
  exact ⟨r, Ev.const h, g⟩

def SmallNodeS (l : List S57) : Prop := l.length ≤ 1048576 ∧ ∀ x ∈ l, x.f1.size ≤ 1048576 ∧ x.f6.length ≤ 1048576
def cvNode (x : S57) : S62 := ⟨x.f0, x.f1, x.f2, x.f3, x.f4, x.f5, x.f6⟩

theorem ev_laws_szNodeS_l0 (x0 : List (S57)) (hl : x0.length ≤ 9223372036854775806) (hs : ∀ x ∈ x0, x.f1.size ≤ 9223372036854775807 ∧ x.f6.length ≤ 9223372036854775807) : ∀ (d : Nat) (a : Int) (i : Nat), i + d = x0.length → 0 ≤ a → a ≤ 1048576 → ∃ r, Ev (fun k => laws_szNodeS.l0 k x0 a i) r ∧ -1 ≤ r ∧ r ≤ a ∧ (0 ≤ r → ∀ x ∈ x0.drop i, x.f1.size ≤ 1048576 ∧ x.f6.length ≤ 1048576) := by
  intro d
  induction d with
  | zero =>
    intro a i h2 h0 h1
    refine ⟨a, ?_, by omega, by omega, fun _ x hx => ?_⟩
    · apply Ev.step
      · intro k; rw [laws_szNodeS.l0]
      simp only [if_neg (show ¬ ((i : Int) < x0.length) by omega)]
      exact Ev.now _
    · rw [List.drop_eq_nil_of_le (by omega)] at hx; cases hx
  | succ d ih =>
    intro a i h2 h0 h1
    have hg : x0[i]? = some (rd_T57 x0 (i : Int)) := by simp [rd_T57, show i < x0.length by omega]
    have hm := hs _ (List.mem_of_getElem? hg)
    obtain ⟨r1, e1, g1, g2, g3⟩ := ev_szNode (rd_T57 x0 (i : Int)) a h0 h1 hm
    have hd : x0.drop i = rd_T57 x0 (i : Int) :: x0.drop (i + 1) := by
      rw [List.drop_eq_getElem_cons (show i < x0.length by omega)]
      congr 1
      rw [List.getElem?_eq_getElem (show i < x0.length by omega)] at hg
      injection hg
    by_cases hr : r1 < 0
    · refine ⟨-1, ?_, by omega, by omega, fun h => by omega⟩
      apply Ev.step
      · intro k; rw [laws_szNodeS.l0]
      simp only [if_pos (show (i : Int) < x0.length by omega), if_pos (show (0 : Int) ≤ i by omega)]
      refine Ev.bind e1 ?_
      simp only [if_pos hr]
      exact Ev.now _
    · obtain ⟨r2, e2, g4, g5, g6⟩ := ih r1 (i + 1) (by omega) (by omega) (by omega)
      refine ⟨r2, ?_, by omega, by omega, fun h x hx => ?_⟩
      · apply Ev.step
        · intro k; rw [laws_szNodeS.l0]
        simp only [if_pos (show (i : Int) < x0.length by omega), if_pos (show (0 : Int) ≤ i by omega)]
        refine Ev.bind e1 ?_
        simp only [if_neg hr, w64 (x := (i : Int) + 1) (by omega)]
        simpa using e2
      · rw [hd] at hx
        rcases List.mem_cons.1 hx with rfl | hx
        · exact g3 (by omega)
        · exact g6 h x hx
theorem ev_laws_szNodeS (l : List (S57)) (a : Int) (h0 : 0 ≤ a) (h1 : a ≤ 1048576) (hl : l.length ≤ 9223372036854775807) (hs : ∀ x ∈ l, x.f1.size ≤ 9223372036854775807 ∧ x.f6.length ≤ 9223372036854775807) : ∃ r, Ev (fun k => laws_szNodeS.f k l a) r ∧ -1 ≤ r ∧ r ≤ a ∧ (0 ≤ r → SmallNodeS l) := by
  by_cases hn : a - (l.length : Int) < 0
  · refine ⟨-1, ?_, by omega, by omega, fun h => by omega⟩
    simp only [laws_szNodeS.f, w64 (x := a - (l.length : Int)) (by omega), if_pos hn]
    exact Ev.now _
  · obtain ⟨r, e, g1, g2, g3⟩ := ev_laws_szNodeS_l0 l (by omega) hs l.length (a - l.length) 0 (by omega) (by omega) (by omega)
    refine ⟨r, ?_, by omega, by omega, fun h => ⟨by omega, by simpa using g3 h⟩⟩
    simp only [laws_szNodeS.f, w64 (x := a - (l.length : Int)) (by omega), if_neg hn]
    exact e

theorem szTable_eq (s : ByteArray) (n : Int) (a : Int) (h0 : 0 ≤ a) (h1 : a ≤ 1048576) (hl : s.size ≤ 9223372036854775807) : ∃ r, laws_szTable.f s n a = some r ∧ -1 ≤ r ∧ r ≤ a ∧ (0 ≤ r → s.size ≤ 1048576) := by
  by_cases hn : a - (s.size : Int) < 0
  · exact ⟨-1, by simp only [laws_szTable.f, w64 (x := a - (s.size : Int)) (by omega), if_pos hn], by omega, by omega, fun h => by omega⟩
  · exact ⟨a - s.size, by simp only [laws_szTable.f, w64 (x := a - (s.size : Int)) (by omega), if_neg hn], by omega, by omega, fun h => by omega⟩
theorem ev_szTable (x : S53) (a : Int) (h0 : 0 ≤ a) (h1 : a ≤ 1048576) (hl : x.f0.size ≤ 9223372036854775807) : ∃ r, Ev (fun _ => laws_szTable.f x.f0 x.f1 a) r ∧ -1 ≤ r ∧ r ≤ a ∧ (0 ≤ r → x.f0.size ≤ 1048576) := by
  obtain ⟨r, h, g⟩ := szTable_eq x.f0 x.f1 a h0 h1 hl
  exact ⟨r, Ev.const h, g⟩

def SmallTableS (l : List S53) : Prop := l.length ≤ 1048576 ∧ ∀ x ∈ l, x.f0.size ≤ 1048576
def cvTable (x : S53) : S60 := ⟨x.f0, x.f1⟩

theorem ev_laws_szTableS_l0 (x0 : List (S53)) (hl : x0.length ≤ 9223372036854775806) (hs : ∀ x ∈ x0, x.f0.size ≤ 9223372036854775807) : ∀ (d : Nat) (a : Int) (i : Nat), i + d = x0.length → 0 ≤ a → a ≤ 1048576 → ∃ r, Ev (fun k => laws_szTableS.l0 k x0 a i) r ∧ -1 ≤ r ∧ r ≤ a ∧ (0 ≤ r → ∀ x ∈ x0.drop i, x.f0.size ≤ 1048576) := by
  intro d
  induction d with
  | zero =>
    intro a i h2 h0 h1
    refine ⟨a, ?_, by omega, by omega, fun _ x hx => ?_⟩
    · apply Ev.step
      · intro k; rw [laws_szTableS.l0]
      simp only [if_neg (show ¬ ((i : Int) < x0.length) by omega)]
      exact Ev.now _
    · rw [List.drop_eq_nil_of_le (by omega)] at hx; cases hx
  | succ d ih =>
    intro a i h2 h0 h1
    have hg : x0[i]? = some (rd_T53 x0 (i : Int)) := by simp [rd_T53, show i < x0.length by omega]
    have hm := hs _ (List.mem_of_getElem? hg)
    obtain ⟨r1, e1, g1, g2, g3⟩ := ev_szTable (rd_T53 x0 (i : Int)) a h0 h1 hm
    have hd : x0.drop i = rd_T53 x0 (i : Int) :: x0.drop (i + 1) := by
      rw [List.drop_eq_getElem_cons (show i < x0.length by omega)]
      congr 1
      rw [List.getElem?_eq_getElem (show i < x0.length by omega)] at hg
      injection hg
    by_cases hr : r1 < 0
    · refine ⟨-1, ?_, by omega, by omega, fun h => by omega⟩
      apply Ev.step
      · intro k; rw [laws_szTableS.l0]
      simp only [if_pos (show (i : Int) < x0.length by omega), if_pos (show (0 : Int) ≤ i by omega)]
      refine Ev.bind e1 ?_
      simp only [if_pos hr]
      exact Ev.now _
    · obtain ⟨r2, e2, g4, g5, g6⟩ := ih r1 (i + 1) (by omega) (by omega) (by omega)
      refine ⟨r2, ?_, by omega, by omega, fun h x hx => ?_⟩
      · apply Ev.step
        · intro k; rw [laws_szTableS.l0]
        simp only [if_pos (show (i : Int) < x0.length by omega), if_pos (show (0 : Int) ≤ i by omega)]
        refine Ev.bind e1 ?_
        simp only [if_neg hr, w64 (x := (i : Int) + 1) (by omega)]
        simpa using e2
      · rw [hd] at hx
        rcases List.mem_cons.1 hx with rfl | hx
        · exact g3 (by omega)
        · exact g6 h x hx
theorem ev_laws_szTableS (l : List (S53)) (a : Int) (h0 : 0 ≤ a) (h1 : a ≤ 1048576) (hl : l.length ≤ 9223372036854775807) (hs : ∀ x ∈ l, x.f0.size ≤ 9223372036854775807) : ∃ r, Ev (fun k => laws_szTableS.f k l a) r ∧ -1 ≤ r ∧ r ≤ a ∧ (0 ≤ r → SmallTableS l) := by
  by_cases hn : a - (l.length : Int) < 0
  · refine ⟨-1, ?_, by omega, by omega, fun h => by omega⟩
    simp only [laws_szTableS.f, w64 (x := a - (l.length : Int)) (by omega), if_pos hn]
    exact Ev.now _
  · obtain ⟨r, e, g1, g2, g3⟩ := ev_laws_szTableS_l0 l (by omega) hs l.length (a - l.length) 0 (by omega) (by omega) (by omega)
    refine ⟨r, ?_, by omega, by omega, fun h => ⟨by omega, by simpa using g3 h⟩⟩
    simp only [laws_szTableS.f, w64 (x := a - (l.length : Int)) (by omega), if_neg hn]
    exact e

theorem ev_toIntS_l0 (x0 : List Int) (hl : x0.length ≤ 1048576) : ∀ (d : Nat) (x3 : List Int) (i : Nat), x3.length = x0.length → i + d = x0.length → x3.take i = x0.take i → Ev (fun k => laws_toIntS.l0 k x0 x3 i) x0 := by
  intro d
  induction d with
  | zero =>
    intro x3 i h1 h2 h3
    apply Ev.step
    · intro k; rw [laws_toIntS.l0]
    simp only [if_neg (show ¬ ((i : Int) < x0.length) by omega)]
    rw [take_eq_all h1 (by omega) h3]
    exact Ev.now _
  | succ d ih =>
    intro x3 i h1 h2 h3
    apply Ev.step
    · intro k; rw [laws_toIntS.l0]
    simp only [if_pos (show (i : Int) < x0.length by omega), if_pos (show (0 : Int) ≤ i by omega), if_pos (show (i : Int) < x3.length by omega), w64 (x := (i : Int) + 1) (by omega)]
    have := ih (x3.set i (rd x0 i)) (i + 1) (by simp [h1]) (by omega) (take_set_at _ _ _ _ h1 (by omega) (rd_get _ _ (by omega)) h3)
    simpa using this
theorem ev_toIntS (l : List Int) (h : l.length ≤ 1048576) : Ev (fun k => laws_toIntS.f k l) l := by
  simp only [laws_toIntS.f, if_pos (show (0 : Int) ≤ l.length by omega), if_pos (show (l.length : Int).toNat ≤ 35184372088832 by omega)]
  exact ev_toIntS_l0 l h l.length _ 0 (by simp) (by omega) (by simp)

theorem ev_toNode (x : S57) (h : x.f6.length ≤ 1048576) : Ev (fun k => laws_toNode.f k x.f0 x.f1 x.f2 x.f3 x.f4 x.f5 x.f6) (x.f0, x.f1, x.f2, x.f3, x.f4, x.f5, x.f6) := by
  simp only [laws_toNode.f]
  refine Ev.bind (ev_toIntS _ h) ?_
  exact Ev.now _

theorem ev_laws_toNodeS_l0 (x0 : List (S57)) (hl : x0.length ≤ 1048576) (hs : ∀ x ∈ x0, x.f1.size ≤ 1048576 ∧ x.f6.length ≤ 1048576) : ∀ (d : Nat) (x3 : List (S62)) (i : Nat), x3.length = x0.length → i + d = x0.length → x3.take i = (x0.map cvNode).take i → Ev (fun k => laws_toNodeS.l0 k x0 x3 i) (x0.map cvNode) := by
  intro d
  induction d with
  | zero =>
    intro x3 i h1 h2 h3
    apply Ev.step
    · intro k; rw [laws_toNodeS.l0]
    simp only [if_neg (show ¬ ((i : Int) < x0.length) by omega)]
    rw [take_eq_all (xs := x0.map cvNode) (by simpa using h1) (by simp; omega) h3]
    exact Ev.now _
  | succ d ih =>
    intro x3 i h1 h2 h3
    have hg : x0[i]? = some (rd_T57 x0 (i : Int)) := by simp [rd_T57, show i < x0.length by omega]
    have hm := hs _ (List.mem_of_getElem? hg)
    apply Ev.step
    · intro k; rw [laws_toNodeS.l0]
    simp only [if_pos (show (i : Int) < x0.length by omega), if_pos (show (0 : Int) ≤ i by omega)]
    refine Ev.bind (ev_toNode _ hm.2) ?_
    simp only [if_pos (show (i : Int) < x3.length by omega), w64 (x := (i : Int) + 1) (by omega)]
    have := ih (x3.set i (cvNode (rd_T57 x0 (i : Int)))) (i + 1) (by simp [h1]) (by omega) (take_set_at (x0.map cvNode) _ _ _ (by simpa using h1) (by simp; omega) (by rw [List.getElem?_map, hg]; rfl) h3)
    first | (simpa using this) | (simpa [cvNode] using this)
theorem ev_laws_toNodeS (l : List (S57)) (h : SmallNodeS l) : Ev (fun k => laws_toNodeS.f k l) (l.map cvNode) := by
  have h1 := h.1
  simp only [laws_toNodeS.f, if_pos (show (0 : Int) ≤ l.length by omega), if_pos (show (l.length : Int).toNat ≤ 3518437208883 by omega)]
  exact ev_laws_toNodeS_l0 l h.1 h.2 l.length _ 0 (by simp) (by omega) (by simp)

theorem ev_laws_toTableS_l0 (x0 : List (S53)) (hl : x0.length ≤ 1048576) (hs : ∀ x ∈ x0, x.f0.size ≤ 1048576) : ∀ (d : Nat) (x3 : List (S60)) (i : Nat), x3.length = x0.length → i + d = x0.length → x3.take i = (x0.map cvTable).take i → Ev (fun k => laws_toTableS.l0 k x0 x3 i) (x0.map cvTable) := by
  intro d
  induction d with
  | zero =>
    intro x3 i h1 h2 h3
    apply Ev.step
    · intro k; rw [laws_toTableS.l0]
    simp only [if_neg (show ¬ ((i : Int) < x0.length) by omega)]
    rw [take_eq_all (xs := x0.map cvTable) (by simpa using h1) (by simp; omega) h3]
    exact Ev.now _
  | succ d ih =>
    intro x3 i h1 h2 h3
    have hg : x0[i]? = some (rd_T53 x0 (i : Int)) := by simp [rd_T53, show i < x0.length by omega]
    have hm := hs _ (List.mem_of_getElem? hg)
    apply Ev.step
    · intro k; rw [laws_toTableS.l0]
    simp only [if_pos (show (i : Int) < x0.length by omega), if_pos (show (0 : Int) ≤ i by omega)]
    simp only [laws_toTable.f, Option.bind_some]
    simp only [if_pos (show (i : Int) < x3.length by omega), w64 (x := (i : Int) + 1) (by omega)]
    have := ih (x3.set i ((⟨(rd_T53 x0 (i : Int)).f0, (rd_T53 x0 (i : Int)).f1⟩ : S60))) (i + 1) (by simp [h1]) (by omega) (take_set_at (x0.map cvTable) _ _ _ (by simpa using h1) (by simp; omega) (by rw [List.getElem?_map, hg]; rfl) h3)
    first | (simpa using this) | (simpa [cvTable] using this)
theorem ev_laws_toTableS (l : List (S53)) (h : SmallTableS l) : Ev (fun k => laws_toTableS.f k l) (l.map cvTable) := by
  have h1 := h.1
  simp only [laws_toTableS.f, if_pos (show (0 : Int) ≤ l.length by omega), if_pos (show (l.length : Int).toNat ≤ 11728124029610 by omega)]
  exact ev_laws_toTableS_l0 l h.1 h.2 l.length _ 0 (by simp) (by omega) (by simp)

theorem spec_l01In_eq (a b c : Int) : spec_l01In.f a b c = some (decide (b ≤ a ∧ a ≤ c)) := by
  unfold spec_l01In.f
  by_cases h : b ≤ a
  · rw [if_pos h]; simp [h]
  · rw [if_neg h]; simp [h]

theorem ev_spec_WordOk_l0 (s : ByteArray) (hs : s.size ≤ 1099511627776) : ∀ (d i : Nat), i + d = s.size → (i = 0 → 97 ≤ bt s 0) → Ev (fun k => spec_WordOk.l0 k s i) (wordFrom s d i) := by
  intro d
  induction d with
  | zero =>
    intro i h _
    apply Ev.step
    · intro k; rw [spec_WordOk.l0]
    simp only [if_neg (show ¬ ((i : Int) < s.size) by omega)]
    exact Ev.now _
  | succ d ih =>
    intro i h h0
    have ih' := ih (i + 1) (by omega) (by omega)
    apply Ev.step
    · intro k; rw [spec_WordOk.l0]
    simp only [if_pos (show (i : Int) < s.size by omega), if_pos (show (0 : Int) ≤ i by omega), w64 (x := (i : Int) + 1) (by omega), wordFrom]
    have hi : i = 0 → 97 ≤ bt s i := by intro e; subst e; exact h0 rfl
    by_cases h1 : bt s i < 97
    · simp only [if_pos h1]
      have hp : 0 < i := by rcases Nat.eq_zero_or_pos i with e | e; · have := hi e; omega
                            · exact e
      by_cases h2 : bt s i < 48
      · simp only [if_pos h2, show okAt s i = false by simp [okAt]; omega, Bool.false_and]; exact Ev.now _
      · by_cases h3 : bt s i > 57
        · simp only [if_neg h2, if_pos h3, show okAt s i = false by simp [okAt]; omega, Bool.false_and]; exact Ev.now _
        · simp only [if_neg h2, if_neg h3, show okAt s i = true by simp [okAt]; omega, Bool.true_and]; exact ih'
    · simp only [if_neg h1]
      by_cases h2 : bt s i > 122
      · simp only [if_pos h2, if_neg (show ¬ bt s i < 48 by omega), if_pos (show bt s i > 57 by omega), show okAt s i = false by simp [okAt]; omega, Bool.false_and]; exact Ev.now _
      · simp only [if_neg h2, show okAt s i = true by simp [okAt]; omega, Bool.true_and]; exact ih'
theorem ev_spec_WordOk (s : ByteArray) (hs : s.size ≤ 1099511627776) : Ev (fun k => spec_WordOk.f k s) (wordOk s) := by
  simp only [spec_WordOk.f, spec_l01In_eq, Option.bind_some, decide_eq_true_eq, wordOk]
  by_cases h : 1 ≤ s.size ∧ s.size ≤ 12
  · simp only [if_pos (show 1 ≤ (s.size : Int) ∧ (s.size : Int) ≤ 12 by omega), if_pos (show (0 : Int) < s.size by omega), decide_eq_true h, Bool.true_and]
    apply Ev.step
    · intro k; rw [spec_WordOk.j0]
    simp only [decide_eq_true_eq]
    by_cases h1 : bt s 0 < 97
    · simp only [if_pos h1]
      obtain ⟨d, hd⟩ : ∃ d, s.size = d + 1 := ⟨s.size - 1, by omega⟩
      rw [hd, wordFrom, show okAt s 0 = false by simp [okAt]; omega, Bool.false_and]
      exact Ev.now _
    · simp only [if_neg h1]
      exact ev_spec_WordOk_l0 s hs s.size 0 (by omega) (by omega)
  · simp only [if_neg (show ¬ (1 ≤ (s.size : Int) ∧ (s.size : Int) ≤ 12) by omega), decide_eq_false h, Bool.false_and]
    apply Ev.step
    · intro k; rw [spec_WordOk.j0]
    simp only [if_true]
    exact Ev.now _

theorem spec_l01Number_eq (a : Int) : spec_l01Number.f a = some (isNumB a) := by
  unfold spec_l01Number.f; rw [spec_l01In_eq]; rfl

theorem spec_l02Col_eq (a : Int) : spec_l02Col.f a = some (colB a) := by
  unfold spec_l02Col.f; rw [spec_l01In_eq]; rfl

theorem ev_spec_NodeOk_l0 (kind : Int) (name : ByteArray) (col op num : Int) (slot : Bool) (cols : List Int) (hl : cols.length ≤ 1099511627776) : ∀ (d i : Nat), i + d = cols.length → Ev (fun k => spec_NodeOk.l0 k i kind name col op num slot cols) ((cols.drop i).all colB && decide (1 ≤ cols.length ∧ cols.length ≤ 6) && decide (col = 0 ∧ num = 0 ∧ slot = false)) := by
  intro d
  induction d with
  | zero =>
    intro i h
    apply Ev.step
    · intro k; rw [spec_NodeOk.l0]
    simp only [if_neg (show ¬ ((i : Int) < cols.length) by omega), spec_l01In_eq, Option.bind_some, drop_nil' (show cols.length ≤ i by omega), List.all_nil, Bool.true_and]
    by_cases h1 : 1 ≤ cols.length ∧ cols.length ≤ 6
    · simp only [decide_eq_true (show 1 ≤ (cols.length : Int) ∧ (cols.length : Int) ≤ 6 by omega), if_true, decide_eq_true h1, Bool.true_and]
      by_cases h2 : col = 0
      · by_cases h3 : num = 0
        · simp only [if_pos h2, if_pos h3]; exact Ev.const (by simp [h2, h3])
        · simp only [if_pos h2, if_neg h3]; exact Ev.const (by simp [h3])
      · simp only [if_neg h2]; exact Ev.const (by simp [h2])
    · simp only [decide_eq_false (show ¬ (1 ≤ (cols.length : Int) ∧ (cols.length : Int) ≤ 6) by omega), if_neg Bool.false_ne_true, decide_eq_false h1, Bool.false_and]
      exact Ev.now _
  | succ d ih =>
    intro i h
    have ih' := ih (i + 1) (by omega)
    rw [drop_rd cols i (by omega)]
    apply Ev.step
    · intro k; rw [spec_NodeOk.l0]
    simp only [if_pos (show (i : Int) < cols.length by omega), if_pos (show (0 : Int) ≤ i by omega), spec_l02Col_eq, Option.bind_some, w64 (x := (i : Int) + 1) (by omega), List.all_cons]
    by_cases h1 : colB (rd cols i) = true
    · simp only [h1, if_true, Bool.true_and]; simpa using ih'
    · simp only [if_neg h1, Bool.eq_false_iff.mpr h1, Bool.false_and]; exact Ev.now _
theorem ev_spec_NodeOk (kind : Int) (name : ByteArray) (col op num : Int) (slot : Bool) (cols : List Int) (hl : cols.length ≤ 1099511627776) (hn : name.size ≤ 1099511627776) : Ev (fun k => spec_NodeOk.f k kind name col op num slot cols) (nodeOk kind name col op num slot cols) := by
  have main : ∀ b, b = nodePre kind name op num slot cols → Ev (fun k => spec_NodeOk.j0 k b kind name col op num slot cols) (nodeOk kind name col op num slot cols) := by
    intro b hb
    unfold nodeOk
    rw [← hb]
    cases b with
    | true =>
      apply Ev.step
      · intro k; rw [spec_NodeOk.j0]
      exact Ev.now _
    | false =>
      apply Ev.step
      · intro k; rw [spec_NodeOk.j0]
      simp only [if_neg Bool.false_ne_true, Bool.not_false, Bool.true_and]
      unfold nodeKind
      refine Ev_ite (fun h0 => ?_) (fun h0 => ?_)
      · rw [if_pos h0]
        refine Ev.bind (ev_spec_WordOk name hn) ?_
        refine Ev_ite (fun h1 => ?_) (fun h1 => ?_)
        · rw [h1, Bool.true_and]
          refine Ev_ite (fun h2 => Ev_ite (fun h3 => ?_) (fun h3 => ?_)) (fun h2 => ?_)
          · exact Ev.const (by simp [h2, h3])
          · exact Ev.const (by simp [h3])
          · exact Ev.const (by simp [h2])
        · rw [Bool.eq_false_iff.mpr h1]; exact Ev.now _
      rw [if_neg h0]
      refine Ev_ite (fun h1 => ?_) (fun h1 => ?_)
      · rw [if_pos h1]
        simp only [spec_l02Col_eq, spec_l01In_eq, spec_l01Number_eq, Option.bind_some]
        refine Ev_ite (fun h2 => ?_) (fun h2 => Ev.const (by simp [Bool.eq_false_iff.mpr h2]))
        refine Ev_ite (fun h3 => ?_) (fun h3 => Ev.const (by simp [Bool.eq_false_iff.mpr h3]))
        refine Ev_ite (fun h4 => ?_) (fun h4 => Ev.const (by simp [Bool.eq_false_iff.mpr h4]))
        rw [h2, h3, h4]
        refine Ev_ite (fun h5 => Ev_ite (fun h6 => ?_) (fun h6 => ?_)) (fun h5 => ?_)
        · exact Ev.const (by simp [h5, h6])
        · exact Ev.const (by simp [h5, h6])
        · exact Ev.const (by simp [h5])
      rw [if_neg h1]
      refine Ev_ite (fun h2 => ?_) (fun h2 => ?_)
      · rw [if_pos h2]
        simpa using ev_spec_NodeOk_l0 kind name col op num slot cols hl cols.length 0 (by omega)
      rw [if_neg h2]
      simp only [spec_l02Col_eq, spec_l01In_eq, Option.bind_some]
      refine Ev_ite (fun h3 => ?_) (fun h3 => ?_)
      · rw [if_pos h3]
        refine Ev_ite (fun h4 => Ev_ite (fun h5 => ?_) (fun h5 => ?_)) (fun h4 => ?_)
        · exact Ev.const (by simp [h4, h5])
        · exact Ev.const (by simp [Bool.eq_false_iff.mpr h5])
        · exact Ev.const (by simp [Bool.eq_false_iff.mpr h4])
      rw [if_neg h3]
      refine Ev_ite (fun h4 => ?_) (fun h4 => ?_)
      · rw [if_pos h4]
        refine Ev_ite (fun h5 => Ev_ite (fun h6 => ?_) (fun h6 => ?_)) (fun h5 => ?_)
        · exact Ev.const (by simp [h5, h6])
        · exact Ev.const (by simp [h6])
        · exact Ev.const (by simp [Bool.eq_false_iff.mpr h5])
      rw [if_neg h4]
      refine Ev_ite (fun h5 => ?_) (fun h5 => ?_)
      · rw [if_pos h5]
        refine Ev_ite (fun h6 => ?_) (fun h6 => ?_)
        · exact Ev.const (by simp [h6])
        · exact Ev.const (by simp [h6])
      rw [if_neg h5]
      refine Ev_ite (fun h6 => ?_) (fun h6 => Ev_ite (fun h7 => ?_) (fun h7 => ?_))
      · rw [if_pos (Or.inl h6)]
        refine Ev_ite (fun h7 => Ev_ite (fun h8 => ?_) (fun h8 => ?_)) (fun h7 => ?_)
        · exact Ev.const (by simp [h7, h8])
        · exact Ev.const (by simp [h8])
        · exact Ev.const (by simp [h7])
      · rw [if_pos (Or.inr h7)]
        refine Ev_ite (fun h7 => Ev_ite (fun h8 => ?_) (fun h8 => ?_)) (fun h7 => ?_)
        · exact Ev.const (by simp [h7, h8])
        · exact Ev.const (by simp [h8])
        · exact Ev.const (by simp [h7])
      · rw [if_neg (by intro h; rcases h with h | h; exact h6 h; exact h7 h)]
        exact Ev.now _
  have hlen : ((cols.length : Int) > 0) ↔ cols ≠ [] := by
    cases cols with
    | nil => simp
    | cons => simp
  have e39 : decide (0 ≤ num ∧ num ≤ 39) = slotB num := rfl
  simp only [spec_NodeOk.f, spec_l01In_eq, Option.bind_some, e39]
  repeat' (refine Ev_ite (fun _ => ?_) (fun _ => ?_))
  all_goals first
    | (exfalso; omega)
    | (refine main _ ?_
       unfold nodePre
       cases hsl : slotB num <;> simp_all)

theorem ev_spec_ArityOf (a : Int) : Ev (fun k => spec_ArityOf.f k a) (arity a) := by
  simp only [spec_ArityOf.f]
  by_cases h0 : a = 0
  · subst h0; simp only [if_true]; exact Ev.now _
  by_cases h3 : a = 3
  · subst h3
    simp only [if_neg (show ¬ (3 : Int) = 0 by omega), if_true]
    apply Ev.step
    · intro k; rw [spec_ArityOf.j0]
    exact Ev.const (by simp [arity])
  simp only [if_neg h0, if_neg h3]
  apply Ev.step
  · intro k; rw [spec_ArityOf.j0]
  refine Ev.const ?_
  unfold arity
  by_cases h4 : a = 4
  · subst h4; simp
  · simp only [beq_iff_eq, if_neg h0, if_neg h3, if_neg h4]
    repeat' split
    all_goals first | rfl | omega

def endD : Option (Nat × Nat) → Int × Int
  | none => (-1, 0)
  | some x => (x.1, x.2)
theorem ev_spec_l02End (p : List S62) (hl : p.length ≤ 1048576) : ∀ (room k : Nat), room ≤ 10 → k ≤ 1099511627776 → Ev (fun n => spec_l02End.f n p k (room : Int)) (endD (endP p room k)) := by
  intro room
  induction room with
  | zero =>
    intro k _ hk
    apply Ev.step
    · intro k; rw [spec_l02End.f]
    refine Ev_ite (fun _ => ?_) (fun _ => ?_)
    · apply Ev.step
      · intro k; rw [spec_l02End.j0]
      exact Ev.now _
    · apply Ev.step
      · intro k; rw [spec_l02End.j0]
      exact Ev.now _
  | succ room ih =>
    intro k hr hk
    apply Ev.step
    · intro k; rw [spec_l02End.f]
    refine Ev_ite (fun h0 => ?_) (fun h0 => ?_)
    · rw [endP, if_pos (by omega)]
      apply Ev.step
      · intro k; rw [spec_l02End.j0]
      exact Ev.now _
    rw [endP, if_neg (by omega)]
    have eb : (((room + 1 : Nat) : Int) == 0) = false := by rw [beq_eq_false_iff_ne]; omega
    simp only [eb]
    apply Ev.step
    · intro k; rw [spec_l02End.j0]
    simp only [if_neg Bool.false_ne_true]
    have e1 : ((room + 1 : Nat) : Int) - 1 = (room : Int) := by omega
    have e2 : ((k : Int) + 1) = ((k + 1 : Nat) : Int) := by omega
    have hka : arity (rd_T62 p (k : Int)).f0 = arity (kAt p k) := rfl
    have i1 := ih (k + 1) (by omega) (by omega)
    simp only [w64 (x := (k : Int) + 1) (by omega), e2, w64 (x := ((k + 1 : Nat) : Int)) (by omega)]
    apply Ev.step
    · intro k; rw [spec_l02End.l0]
    simp only [if_pos (show (0 : Int) ≤ k by omega), if_pos (show (k : Int) < p.length by omega)]
    refine Ev.bind (ev_spec_ArityOf _) ?_
    rw [hka]
    rcases arity_cases (kAt p k) with h | h | h | h
    · rw [h, if_neg (by omega), if_neg (by omega)]
      simp only [if_neg (show ¬ (0 : Int) < -1 by omega), w01]
      exact Ev.now _
    · rw [h, if_neg (by omega), if_neg (by omega)]
      simp only [if_neg (show ¬ (0 : Int) < 0 by omega), w01]
      exact Ev.now _
    · rw [h, if_neg (by omega), if_pos rfl]
      simp only [if_pos (show (0 : Int) < 1 by omega), w64 (x := ((room + 1 : Nat) : Int) - 1) (by omega), e1, w64 (x := (room : Int)) (by omega)]
      refine Ev.bind i1 ?_
      cases hx : endP p room (k + 1) with
      | none => exact Ev.now _
      | some x =>
        have hxr := endP_range p _ _ _ hx
        rw [show endD (some x) = ((x.1 : Int), (x.2 : Int)) from rfl]
        simp only [if_neg (show ¬ (x.1 : Int) < 0 by omega), Option.bind_some, if_pos (show (x.2 : Int) > 0 by omega)]
        apply Ev.step
        · intro k; rw [spec_l02End.l0]
        simp only [if_pos (show (0 : Int) ≤ k by omega), if_pos (show (k : Int) < p.length by omega)]
        refine Ev.bind (ev_spec_ArityOf _) ?_
        rw [hka, h]
        simp only [w01, if_neg (show ¬ (1 : Int) < 1 by omega), w64 (x := (x.2 : Int) + 1) (by omega)]
        exact Ev.const (congrArg some (Prod.ext rfl (by simp [endD])))
    · rw [h, if_pos rfl]
      simp only [if_pos (show (0 : Int) < 2 by omega), w64 (x := ((room + 1 : Nat) : Int) - 1) (by omega), e1, w64 (x := (room : Int)) (by omega)]
      refine Ev.bind i1 ?_
      cases hx : endP p room (k + 1) with
      | none => exact Ev.now _
      | some x =>
        have hxr := endP_range p _ _ _ hx
        rw [show endD (some x) = ((x.1 : Int), (x.2 : Int)) from rfl]
        simp only [if_neg (show ¬ (x.1 : Int) < 0 by omega), Option.bind_some, if_pos (show (x.2 : Int) > 0 by omega)]
        apply Ev.step
        · intro k; rw [spec_l02End.l0]
        simp only [if_pos (show (0 : Int) ≤ k by omega), if_pos (show (k : Int) < p.length by omega)]
        refine Ev.bind (ev_spec_ArityOf _) ?_
        rw [hka, h]
        simp only [w01, w12, if_pos (show (1 : Int) < 2 by omega), w64 (x := ((room + 1 : Nat) : Int) - 1) (by omega), e1, w64 (x := (room : Int)) (by omega)]
        refine Ev.bind (ih x.1 (by omega) (by omega)) ?_
        cases hy : endP p room x.1 with
        | none => exact Ev.now _
        | some y =>
          have hyr := endP_range p _ _ _ hy
          rw [show endD (some y) = ((y.1 : Int), (y.2 : Int)) from rfl]
          simp only [if_neg (show ¬ (y.1 : Int) < 0 by omega), Option.bind_some]
          refine Ev_ite (fun h5 => ?_) (fun h5 => ?_)
          · apply Ev.step
            · intro k; rw [spec_l02End.l0]
            simp only [if_pos (show (0 : Int) ≤ k by omega), if_pos (show (k : Int) < p.length by omega)]
            refine Ev.bind (ev_spec_ArityOf _) ?_
            rw [hka, h]
            simp only [w01, w12, if_neg (show ¬ (2 : Int) < 2 by omega), w64 (x := (y.2 : Int) + 1) (by omega)]
            exact Ev.const (congrArg some (Prod.ext rfl (by simp only [Option.bind_some, endD]; omega)))
          · apply Ev.step
            · intro k; rw [spec_l02End.l0]
            simp only [if_pos (show (0 : Int) ≤ k by omega), if_pos (show (k : Int) < p.length by omega)]
            refine Ev.bind (ev_spec_ArityOf _) ?_
            rw [hka, h]
            simp only [w01, w12, if_neg (show ¬ (2 : Int) < 2 by omega), w64 (x := (x.2 : Int) + 1) (by omega)]
            exact Ev.const (congrArg some (Prod.ext rfl (by simp only [Option.bind_some, endD]; omega)))

theorem endD_fst (o : Option (Nat × Nat)) : (endD o).1 = endI o := by cases o <;> rfl
theorem ev_spec_PlanOk_l0 (p : List S62) (hl : p.length ≤ 1048576) (hs : ∀ x ∈ p, x.f1.size ≤ 1048576 ∧ x.f6.length ≤ 1048576) : ∀ (d i : Nat), i + d = p.length → Ev (fun k => spec_PlanOk.l0 k p i) ((p.drop i).all nodeOkN && decide (endI (endP p 10 0) = p.length)) := by
  intro d
  induction d with
  | zero =>
    intro i h
    apply Ev.step
    · intro k; rw [spec_PlanOk.l0]
    simp only [if_neg (show ¬ ((i : Int) < p.length) by omega), drop_nil' (show p.length ≤ i by omega), List.all_nil, Bool.true_and]
    have := ev_spec_l02End p hl 10 0 (by omega) (by omega)
    refine Ev.bind (by simpa using this) ?_
    rw [endD_fst]
    exact Ev.const (congrArg some (by rw [Bool.eq_iff_iff]; simp))
  | succ d ih =>
    intro i h
    have ih' := ih (i + 1) (by omega)
    have hm := hs _ (rdT_memN (show i < p.length by omega))
    rw [drop_rdT p i (by omega), List.all_cons]
    apply Ev.step
    · intro k; rw [spec_PlanOk.l0]
    simp only [if_pos (show (i : Int) < p.length by omega), if_pos (show (0 : Int) ≤ i by omega), w64 (x := (i : Int) + 1) (by omega)]
    refine Ev.bind (ev_spec_NodeOk _ _ _ _ _ _ _ (by omega) (by omega)) ?_
    refine Ev_ite (fun h1 => ?_) (fun h1 => ?_)
    · rw [show nodeOkN (rd_T62 p i) = true from h1, Bool.true_and]; simpa using ih'
    · rw [show nodeOkN (rd_T62 p i) = false from Bool.eq_false_iff.mpr h1, Bool.false_and, Bool.false_and]; exact Ev.now _
theorem ev_spec_PlanOk (p : List S62) (hl : p.length ≤ 1048576) (hs : ∀ x ∈ p, x.f1.size ≤ 1048576 ∧ x.f6.length ≤ 1048576) : Ev (fun k => spec_PlanOk.f k p) (planOk p) := by
  simp only [spec_PlanOk.f, spec_l01In_eq, Option.bind_some]
  unfold planOk
  refine Ev_ite (fun h1 => ?_) (fun h1 => ?_)
  · have h1' : 1 ≤ p.length ∧ p.length ≤ 40 := by simp only [decide_eq_true_eq] at h1; omega
    rw [decide_eq_true h1', Bool.true_and]
    simpa using ev_spec_PlanOk_l0 p hl hs p.length 0 (by omega)
  · have h1' : ¬ (1 ≤ p.length ∧ p.length ≤ 40) := by simp only [decide_eq_true_eq] at h1; omega
    rw [decide_eq_false h1']; exact Ev.now _

theorem ev_spec_l01Less_l0 (a b : ByteArray) (ha : a.size ≤ 1099511627776) (hb : b.size ≤ 1099511627776) : ∀ (d i : Nat), i + d = a.size → Ev (fun k => spec_l01Less.l0 k a b i) (Op.bytesLess (a.toList.drop i) (b.toList.drop i)) := by
  intro d
  induction d with
  | zero =>
    intro i h
    apply Ev.step
    · intro k; rw [spec_l01Less.l0]
    simp only [if_neg (show ¬ ((i : Int) < a.size) by omega)]
    apply Ev.step
    · intro k; rw [spec_l01Less.j1]
    simp only [if_neg Bool.false_ne_true, toList_end a i (by omega)]
    refine Ev.const (congrArg some ?_)
    by_cases hb' : i < b.size
    · obtain ⟨y, e, _⟩ := toList_drop b i hb'
      rw [e, decide_eq_true (show (a.size : Int) < b.size by omega)]; rfl
    · rw [toList_end b i (by omega), decide_eq_false (show ¬ (a.size : Int) < b.size by omega)]; rfl
  | succ d ih =>
    intro i h
    have ih' := ih (i + 1) (by omega)
    obtain ⟨x, ex, hx⟩ := toList_drop a i (by omega)
    apply Ev.step
    · intro k; rw [spec_l01Less.l0]
    simp only [if_pos (show (i : Int) < a.size by omega)]
    by_cases hb' : i < b.size
    · obtain ⟨y, ey, hy⟩ := toList_drop b i hb'
      rw [ex, ey, bytesLess_cons hx hy]
      apply Ev.step
      · intro k; rw [spec_l01Less.j1]
      simp only [decide_eq_true (show (i : Int) < b.size by omega), if_true, if_pos (show (0 : Int) ≤ i by omega), if_pos (show (i : Int) < a.size by omega), if_pos (show (i : Int) < b.size by omega), w64 (x := (i : Int) + 1) (by omega)]
      by_cases he : bt a i = bt b i
      · simp only [if_pos he, decide_eq_true he, decide_eq_false (show ¬ bt a i < bt b i by omega), Bool.false_or, Bool.true_and]
        simpa using ih'
      · simp only [if_neg he, decide_eq_false he, Bool.false_and, Bool.or_false]
        exact Ev.now _
    · rw [toList_end b i (by omega)]
      apply Ev.step
      · intro k; rw [spec_l01Less.j1]
      simp only [decide_eq_false (show ¬ (i : Int) < b.size by omega), if_neg Bool.false_ne_true]
      refine Ev.const (congrArg some ?_)
      rw [ex, decide_eq_false (show ¬ (a.size : Int) < b.size by omega)]; rfl
theorem ev_spec_l01Less (a b : ByteArray) (ha : a.size ≤ 1099511627776) (hb : b.size ≤ 1099511627776) : Ev (fun k => spec_l01Less.f k a b) (Op.bytesLess a.toList b.toList) := by
  simpa [spec_l01Less.f] using ev_spec_l01Less_l0 a b ha hb a.size 0 (by omega)

theorem ev_spec_SchemaOk_l0 (s : List S60) (hl : s.length ≤ 1099511627776) (hs : ∀ x ∈ s, x.f0.size ≤ 1048576) : ∀ (d i : Nat), i + d = s.length → Ev (fun k => spec_SchemaOk.l0 k s i) (schFrom s d i) := by
  intro d
  induction d with
  | zero =>
    intro i h
    apply Ev.step
    · intro k; rw [spec_SchemaOk.l0]
    simp only [if_neg (show ¬ ((i : Int) < s.length) by omega)]
    exact Ev.now _
  | succ d ih =>
    intro i h
    have ih' := ih (i + 1) (by omega)
    have hm := hs _ (rdT_mem (show i < s.length by omega))
    apply Ev.step
    · intro k; rw [spec_SchemaOk.l0]
    simp only [if_pos (show (i : Int) < s.length by omega), if_pos (show (0 : Int) ≤ i by omega), w64 (x := (i : Int) + 1) (by omega), schFrom, schAt]
    refine Ev.bind (ev_spec_WordOk _ (by omega)) ?_
    by_cases h1 : wordOk (rd_T60 s i).f0 = true
    · simp only [h1, if_true, spec_l01In_eq, Option.bind_some, Bool.true_and]
      by_cases h2 : 1 ≤ (rd_T60 s i).f1 ∧ (rd_T60 s i).f1 ≤ 6
      · simp only [decide_eq_true h2, if_true, Bool.true_and]
        by_cases h3 : (i : Int) > 0
        · have hm2 := hs _ (rdT_mem (show i - 1 < s.length by omega))
          rw [show ((i - 1 : Nat) : Int) = (i : Int) - 1 by omega] at hm2
          simp only [if_pos h3, w64 (x := (i : Int) - 1) (by omega), if_pos (show (0 : Int) ≤ (i : Int) - 1 by omega), if_pos (show (i : Int) - 1 < s.length by omega), decide_eq_false (show ¬ i = 0 by omega), Bool.false_or]
          refine Ev.bind (ev_spec_l01Less _ _ (by omega) (by omega)) ?_
          by_cases h4 : Op.bytesLess (rd_T60 s ((i : Int) - 1)).f0.toList (rd_T60 s i).f0.toList = true
          · simp only [h4, if_true, Bool.true_and]; simpa using ih'
          · simp only [if_neg h4, Bool.eq_false_iff.mpr h4, Bool.false_and]; exact Ev.now _
        · simp only [if_neg h3, decide_eq_true (show i = 0 by omega), Bool.true_or, Bool.true_and]; simpa using ih'
      · simp only [decide_eq_false h2, if_neg Bool.false_ne_true, Bool.false_and]; exact Ev.now _
    · simp only [if_neg h1, Bool.eq_false_iff.mpr h1, Bool.false_and]; exact Ev.now _
theorem ev_spec_SchemaOk (s : List S60) (hl : s.length ≤ 1099511627776) (hs : ∀ x ∈ s, x.f0.size ≤ 1048576) : Ev (fun k => spec_SchemaOk.f k s) (schemaOk s) := by
  simp only [spec_SchemaOk.f, schemaOk]
  by_cases h : s.length ≤ 8
  · simp only [if_neg (show ¬ (s.length : Int) > 8 by omega), decide_eq_true h, Bool.true_and]
    exact ev_spec_SchemaOk_l0 s hl hs s.length 0 (by omega)
  · simp only [if_pos (show (s.length : Int) > 8 by omega), decide_eq_false h, Bool.false_and]
    exact Ev.now _

theorem ev_spec_l02Kids (p : List S62) (hl : p.length ≤ 1048576) (r k : Nat) (x : Nat × Nat) (hr : r ≤ 10) (h : endP p r k = some x) : Ev (fun n => spec_l02Kids.f n p k) (kids p k) := by
  have hx := endP_range p _ _ _ h
  obtain ⟨r, rfl⟩ : ∃ q, r = q + 1 := by cases r with | zero => simp [endP] at h | succ q => exact ⟨q, rfl⟩
  have e2 : ((k : Int) + 1) = ((k + 1 : Nat) : Int) := by omega
  have i1 := ev_spec_l02End p hl 10 (k + 1) (by omega) (by omega)
  rw [show (((10 : Nat) : Int)) = 10 from rfl] at i1
  simp only [spec_l02Kids.f, w64 (x := (k : Int) + 1) (by omega), e2, w64 (x := ((k + 1 : Nat) : Int)) (by omega)]
  apply Ev.step
  · intro k; rw [spec_l02Kids.l0]
  simp only [if_pos (show (0 : Int) ≤ k by omega), if_pos (show (k : Int) < p.length by omega)]
  refine Ev.bind (ev_spec_ArityOf _) ?_
  rw [show arity (rd_T62 p (k : Int)).f0 = arity (kAt p k) from rfl]
  unfold kids
  rcases arity_cases (kAt p k) with ha | ha | ha | ha
  · rw [ha, if_neg (by omega), if_neg (by omega)]
    simp only [if_neg (show ¬ (0 : Int) < -1 by omega)]
    exact Ev.now _
  · rw [ha, if_neg (by omega), if_neg (by omega)]
    simp only [if_neg (show ¬ (0 : Int) < 0 by omega)]
    exact Ev.now _
  · rw [ha, if_neg (by omega), if_pos rfl]
    simp only [if_pos (show (0 : Int) < 1 by omega), List.length_nil, if_pos (show (0 : Nat) < 17592186044416 by omega), List.nil_append]
    refine Ev.bind i1 ?_
    apply Ev.step
    · intro k; rw [spec_l02Kids.l0]
    simp only [if_pos (show (0 : Int) ≤ k by omega), if_pos (show (k : Int) < p.length by omega)]
    refine Ev.bind (ev_spec_ArityOf _) ?_
    rw [show arity (rd_T62 p (k : Int)).f0 = arity (kAt p k) from rfl, ha]
    simp only [w01, if_neg (show ¬ (1 : Int) < 1 by omega)]
    exact Ev.now _
  · rw [ha, if_pos rfl]
    unfold endP at h
    rw [if_neg (by omega), if_pos ha] at h
    obtain ⟨y, hy, h⟩ := Option.bind_eq_some_iff.1 h
    obtain ⟨z, hz, h⟩ := Option.bind_eq_some_iff.1 h
    have hyr := endP_range p _ _ _ hy
    have hy10 := endP_mono p _ _ _ 10 hy (by omega)
    rw [hy10] at i1 ⊢
    simp only [if_pos (show (0 : Int) < 2 by omega), List.length_nil, if_pos (show (0 : Nat) < 17592186044416 by omega), List.nil_append]
    refine Ev.bind i1 ?_
    have i2 := ev_spec_l02End p hl 10 y.1 (by omega) (by omega)
    rw [show (((10 : Nat) : Int)) = 10 from rfl] at i2
    apply Ev.step
    · intro k; rw [spec_l02Kids.l0]
    rw [show (endD (some y)).1 = ((y.1 : Nat) : Int) from rfl]
    simp only [if_pos (show (0 : Int) ≤ k by omega), if_pos (show (k : Int) < p.length by omega)]
    refine Ev.bind (ev_spec_ArityOf _) ?_
    rw [show arity (rd_T62 p (k : Int)).f0 = arity (kAt p k) from rfl, ha]
    simp only [w01, w12, if_pos (show (1 : Int) < 2 by omega), List.length_cons, List.length_nil, if_pos (show (0 + 1 : Nat) < 17592186044416 by omega), List.cons_append, List.nil_append]
    refine Ev.bind i2 ?_
    apply Ev.step
    · intro k; rw [spec_l02Kids.l0]
    simp only [if_pos (show (0 : Int) ≤ k by omega), if_pos (show (k : Int) < p.length by omega)]
    refine Ev.bind (ev_spec_ArityOf _) ?_
    rw [show arity (rd_T62 p (k : Int)).f0 = arity (kAt p k) from rfl, ha]
    simp only [if_neg (show ¬ (2 : Int) < 2 by omega)]
    exact Ev.now _

theorem ev_spec_l03Find_l0 (s : List S60) (n : ByteArray) (hl : s.length ≤ 1048576) : ∀ (d i : Nat), i + d = s.length → Ev (fun k => spec_l03Find.l0 k s n i) (findFrom s n d i) := by
  intro d
  induction d with
  | zero =>
    intro i h
    apply Ev.step
    · intro k; rw [spec_l03Find.l0]
    simp only [if_neg (show ¬ ((i : Int) < s.length) by omega), findFrom]
    exact Ev.now _
  | succ d ih =>
    intro i h
    have ih' := ih (i + 1) (by omega)
    apply Ev.step
    · intro k; rw [spec_l03Find.l0]
    simp only [if_pos (show (i : Int) < s.length by omega), if_pos (show (0 : Int) ≤ i by omega), w64 (x := (i : Int) + 1) (by omega), findFrom]
    refine Ev_ite (fun h1 => ?_) (fun h1 => ?_)
    · rw [if_pos h1]; exact Ev.now _
    · rw [if_neg h1]; simpa using ih'
theorem ev_spec_l03Find (s : List S60) (n : ByteArray) (hl : s.length ≤ 1048576) : Ev (fun k => spec_l03Find.f k s n) (findT s n) := by
  simpa [spec_l03Find.f, findT] using ev_spec_l03Find_l0 s n hl s.length 0 (by omega)

theorem ev_spec_l03Width_l1 (x : S62) (ws : List Int) (h1 : 1 ≤ ws.length) (hl : x.f6.length ≤ 1048576) : ∀ d i : Nat, i + d = x.f6.length → Ev (fun q => spec_l03Width.l1 q ws i x.f0 x.f1 x.f2 x.f3 x.f4 x.f5 x.f6) (if ((x.f6.drop i).any fun c => decide (rd ws 0 ≤ c)) = true then -1 else x.f6.length) := by
  intro d
  induction d with
  | zero =>
    intro i h
    apply Ev.step
    · intro k; rw [spec_l03Width.l1]
    simp only [if_neg (show ¬ ((i : Int) < x.f6.length) by omega)]
    rw [List.drop_eq_nil_of_le (by omega), List.any_nil, if_neg Bool.false_ne_true]
    exact Ev.now _
  | succ d ih =>
    intro i h
    have ih' := ih (i + 1) (by omega)
    apply Ev.step
    · intro k; rw [spec_l03Width.l1]
    simp only [if_pos (show (i : Int) < x.f6.length by omega), if_pos (show (0 : Int) ≤ i by omega), if_pos (show (0 : Int) < ws.length by omega), w64 (x := (i : Int) + 1) (by omega)]
    rw [drop_rd x.f6 i (by omega), List.any_cons]
    refine Ev_ite (fun g => ?_) (fun g => ?_)
    · rw [if_pos (by rw [Bool.or_eq_true, decide_eq_true_eq]; exact .inl g)]; exact Ev.now _
    · rw [decide_eq_false (show ¬ rd ws 0 ≤ rd x.f6 (i : Int) from g), Bool.false_or]
      exact ih'
theorem ev_spec_l03Width_j1 (x : S62) (ws : List Int) (h1 : 1 ≤ ws.length) (h2 : x.f0 = 3 ∨ x.f0 = 4 → ws.length = 2) (b0 : 0 ≤ rd ws 0 ∧ rd ws 0 ≤ 1048576) (b1 : 0 ≤ rd ws 1 ∧ rd ws 1 ≤ 1048576) (hk : x.f0 = 2 → 1 ≤ x.f6.length ∧ x.f6.length ≤ 6) (c : Bool) (hc : c = decide (x.f0 = 1 ∨ x.f0 = 5)) :
    Ev (fun q => spec_l03Width.j1 q ws x.f0 c x.f0 x.f1 x.f2 x.f3 x.f4 x.f5 x.f6) (wUse x (rd ws 0) (rd ws 1)) := by
  subst hc
  have p0 : (0 : Int) < (ws.length : Int) := by omega
  apply Ev.step
  · intro k; rw [spec_l03Width.j1]
  unfold wUse
  by_cases c1 : x.f0 = 1 ∨ x.f0 = 5
  · simp only [decide_eq_true c1, if_true, if_pos p0]
    rw [if_pos c1]
    refine Ev_ite (fun h => ?_) (fun h => ?_)
    · rw [if_pos h]; exact Ev.now _
    · rw [if_neg h]; exact Ev.now _
  simp only [decide_eq_false c1, if_neg Bool.false_ne_true]
  rw [if_neg c1]
  by_cases c2 : x.f0 = 2
  · simp only [if_pos c2]
    have := ev_spec_l03Width_l1 x ws h1 (by have := (hk c2).2; omega) x.f6.length 0 (by omega)
    rw [List.drop_zero] at this
    exact this
  simp only [if_neg c2]
  by_cases c3 : x.f0 = 3
  · have p1 : (1 : Int) < (ws.length : Int) := by have := h2 (.inl c3); omega
    simp only [if_pos c3, if_pos p0, if_pos p1, w64 (x := rd ws 0 + rd ws 1) (by omega)]
    refine Ev_ite (fun h => ?_) (fun h => ?_)
    · rw [if_pos (.inl h)]; exact Ev.now _
    refine Ev_ite (fun h' => ?_) (fun h' => ?_)
    · rw [if_pos (.inr (.inl h'))]; exact Ev.now _
    refine Ev_ite (fun h'' => ?_) (fun h'' => ?_)
    · rw [if_pos (.inr (.inr (by omega)))]; exact Ev.now _
    · rw [if_neg (fun q => by rcases q with q | q | q <;> omega)]; exact Ev.now _
  simp only [if_neg c3]
  by_cases c4 : x.f0 = 4
  · have p1 : (1 : Int) < (ws.length : Int) := by have := h2 (.inr c4); omega
    simp only [if_pos c4, if_pos p0, if_pos p1]
    refine Ev_ite (fun h => ?_) (fun h => ?_)
    · rw [if_pos h]; exact Ev.now _
    · rw [if_neg h]; exact Ev.now _
  simp only [if_neg c4, if_pos p0]
  exact Ev.now _
theorem ev_spec_l03Width (s : List S60) (hsk : schemaOk s = true) (hl : s.length ≤ 1048576) (p : List S62) (hp : p.length ≤ 1048576) (hok : ∀ x ∈ p, nodeOkN x = true) (hc : ∀ x ∈ p, x.f6.length ≤ 1048576) : ∀ (r k : Nat) (x : Nat × Nat), r ≤ 10 → endP p r k = some x → Ev (fun n => spec_l03Width.f n s p (k : Int)) (widthP (scanW s) p r k) := by
  intro r
  induction r with
  | zero => intro k x hr h; simp [endP] at h
  | succ r ih =>
    intro k x hr h
    have hx := endP_range p _ _ _ h
    have hn := hok _ (rdT_memN (show k < p.length by omega))
    have hch := ev_spec_l02Kids p hp (r + 1) k x hr h
    have hB := widthP_range (scan := scanW s) (fun n => by have := scanW_range hsk n; omega) hc r
    have q0 : (0 : Int) ≤ (k : Int) := by omega
    have q1 : (k : Int) < (p.length : Int) := by omega
    have hkA : kAt p k = (rd_T62 p (k : Int)).f0 := rfl
    apply Ev.step
    · intro k; rw [spec_l03Width.f]
    simp only [if_pos q0, if_pos q1]
    refine Ev.bind hch ?_
    unfold kids
    unfold endP at h
    rw [if_neg (show ¬ p.length ≤ k by omega)] at h
    unfold widthP
    rw [hkA] at *
    generalize hnd : rd_T62 p (k : Int) = nd at *
    -- the switch, once all children are told
    have sw : ∀ (ws kd : List Int) (n : Int), n = kd.length → nd.f0 ≠ 0 → 1 ≤ ws.length → (nd.f0 = 3 ∨ nd.f0 = 4 → ws.length = 2) → (0 ≤ rd ws 0 ∧ rd ws 0 ≤ 1048576) → (0 ≤ rd ws 1 ∧ rd ws 1 ≤ 1048576) → Ev (fun q => spec_l03Width.l0 q s p ws kd n nd.f0 nd.f1 nd.f2 nd.f3 nd.f4 nd.f5 nd.f6) (wUse nd (rd ws 0) (rd ws 1)) := by
      intro ws kd n e h0 h1 h2 b0 b1
      subst e
      apply Ev.step
      · intro k; rw [spec_l03Width.l0]
      simp only [if_neg (show ¬ ((kd.length : Int) < kd.length) by omega), if_neg h0]
      refine Ev_ite (fun g => ?_) (fun g => ?_)
      · exact ev_spec_l03Width_j1 nd ws h1 h2 b0 b1 (fun e => keep_cols hn e) _ (by rw [Bool.eq_iff_iff]; simp [g])
      · exact ev_spec_l03Width_j1 nd ws h1 h2 b0 b1 (fun e => keep_cols hn e) _ (by rw [Bool.eq_iff_iff]; simp [g])
    have az : arity nd.f0 ≠ 0 → nd.f0 ≠ 0 := fun e g => e (by rw [g]; rfl)
    by_cases h2 : arity nd.f0 = 2
    · rw [if_pos h2] at h
      rw [if_pos h2, if_pos h2]
      obtain ⟨y, hy, h⟩ := Option.bind_eq_some_iff.1 h
      obtain ⟨z, hz, h⟩ := Option.bind_eq_some_iff.1 h
      have ey : endI (endP p 10 (k + 1)) = (y.1 : Int) := by rw [endP_mono p _ _ _ 10 hy (by omega)]; rfl
      have i1 := ih (k + 1) y (by omega) hy
      have i2 := ih y.1 z (by omega) hz
      rw [ey, hy, show (endI (some y)).toNat = y.1 from rfl]
      have B1 := hB (k + 1)
      have B2 := hB y.1
      apply Ev.step
      · intro k; rw [spec_l03Width.l0]
      simp only [List.length_cons, List.length_nil, if_pos (show (0 : Int) < ((0 + 1 + 1 : Nat) : Int) by omega), if_pos (show (0 : Int) ≤ 0 by omega), show rd [((k + 1 : Nat) : Int), (y.1 : Int)] 0 = ((k + 1 : Nat) : Int) from rfl]
      refine Ev.bind i1 ?_
      refine Ev_ite (fun g => ?_) (fun g => ?_)
      · rw [if_pos g]; exact Ev.now _
      rw [if_neg g]
      simp only [if_pos (show (0 : Nat) < 17592186044416 by omega), List.nil_append, show wrap64 ((0 : Int) + 1) = 1 from (w64 (x := (0 : Int) + 1) (by omega)).trans rfl]
      apply Ev.step
      · intro k; rw [spec_l03Width.l0]
      simp only [List.length_cons, List.length_nil, if_pos (show (1 : Int) < ((0 + 1 + 1 : Nat) : Int) by omega), if_pos (show (0 : Int) ≤ 1 by omega), show rd [((k + 1 : Nat) : Int), (y.1 : Int)] 1 = (y.1 : Int) from rfl]
      refine Ev.bind i2 ?_
      refine Ev_ite (fun g' => ?_) (fun g' => ?_)
      · rw [if_pos g']; exact Ev.now _
      rw [if_neg g']
      simp only [if_pos (show (0 + 1 : Nat) < 17592186044416 by omega), show wrap64 ((1 : Int) + 1) = 2 from (w64 (x := (1 : Int) + 1) (by omega)).trans rfl]
      exact sw [widthP (scanW s) p r (k + 1), widthP (scanW s) p r y.1] [((k + 1 : Nat) : Int), (y.1 : Int)] 2 rfl (az (by omega)) (by simp) (fun _ => rfl) ⟨by show 0 ≤ widthP (scanW s) p r (k + 1); omega, by show widthP (scanW s) p r (k + 1) ≤ _; omega⟩ ⟨by show 0 ≤ widthP (scanW s) p r y.1; omega, by show widthP (scanW s) p r y.1 ≤ _; omega⟩
    rw [if_neg h2] at h
    rw [if_neg h2, if_neg h2]
    by_cases h1 : arity nd.f0 = 1
    · rw [if_pos h1] at h
      rw [if_pos h1, if_pos h1]
      obtain ⟨y, hy, h⟩ := Option.bind_eq_some_iff.1 h
      have i1 := ih (k + 1) y (by omega) hy
      have B1 := hB (k + 1)
      apply Ev.step
      · intro k; rw [spec_l03Width.l0]
      simp only [List.length_cons, List.length_nil, if_pos (show (0 : Int) < ((0 + 1 : Nat) : Int) by omega), if_pos (show (0 : Int) ≤ 0 by omega), show rd [((k + 1 : Nat) : Int)] 0 = ((k + 1 : Nat) : Int) from rfl]
      refine Ev.bind i1 ?_
      refine Ev_ite (fun g => ?_) (fun g => ?_)
      · rw [if_pos g]; exact Ev.now _
      rw [if_neg g]
      simp only [if_pos (show (0 : Nat) < 17592186044416 by omega), List.nil_append, show wrap64 ((0 : Int) + 1) = 1 from (w64 (x := (0 : Int) + 1) (by omega)).trans rfl]
      exact sw [widthP (scanW s) p r (k + 1)] [((k + 1 : Nat) : Int)] 1 rfl (az (by omega)) (by simp) (fun e => absurd h2 (fun q => q (by rcases e with e | e <;> rw [e] <;> rfl))) ⟨by show 0 ≤ widthP (scanW s) p r (k + 1); omega, by show widthP (scanW s) p r (k + 1) ≤ _; omega⟩ ⟨by show (0 : Int) ≤ 0; omega, by show (0 : Int) ≤ _; omega⟩
    rw [if_neg h1, if_neg h1]
    have hz : nd.f0 = 0 := by
      rcases node_kinds hn with e | e | e | e | e | e | e | e
      · exact e
      all_goals first | exact absurd (show arity nd.f0 = 1 by rw [e]; rfl) h1 | exact absurd (show arity nd.f0 = 2 by rw [e]; rfl) h2
    have hr2 := findT_range s nd.f1
    apply Ev.step
    · intro k; rw [spec_l03Width.l0]
    simp only [List.length_nil, if_neg (show ¬ ((0 : Int) < ((0 : Nat) : Int)) by omega), if_pos hz]
    refine Ev.bind (ev_spec_l03Find s nd.f1 hl) ?_
    unfold scanW
    refine Ev_ite (fun g => ?_) (fun g => ?_)
    · rw [if_pos g]; exact Ev.now _
    · rw [if_neg g]
      simp only [if_pos (show 0 ≤ findT s nd.f1 by omega), if_pos (show findT s nd.f1 < (s.length : Int) by omega)]
      exact Ev.now _

theorem ev_spec_WidthOf (s : List S60) (hl : s.length ≤ 1048576) (hs : ∀ x ∈ s, x.f0.size ≤ 1048576) (p : List S62) (hp : p.length ≤ 1048576) (hc : ∀ x ∈ p, x.f1.size ≤ 1048576 ∧ x.f6.length ≤ 1048576) : Ev (fun k => spec_WidthOf.f k s p) (widthOf s p) := by
  simp only [spec_WidthOf.f]
  refine Ev.bind (ev_spec_SchemaOk s (by omega) hs) ?_
  unfold widthOf
  refine Ev_ite (fun h1 => ?_) (fun h1 => ?_)
  · refine Ev.bind (ev_spec_PlanOk p hp hc) ?_
    refine Ev_ite (fun h2 => ?_) (fun h2 => ?_)
    · rw [if_pos ⟨h1, h2⟩]
      obtain ⟨x, hx, _⟩ := plan_end h2
      have hok : ∀ y ∈ p, nodeOkN y = true := by
        have := h2
        unfold planOk at this
        simp only [Bool.and_eq_true, List.all_eq_true] at this
        exact this.1.2
      refine Ev.bind (ev_spec_l03Width s h1 hl p hp hok (fun y hy => (hc y hy).2) 10 0 x (by omega) hx) ?_
      exact Ev.now _
    · rw [if_neg (fun q => h2 q.2)]; exact Ev.now _
  · rw [if_neg (fun q => h1 q.1)]; exact Ev.now _

theorem ev_spec_TypedOk (s : List S60) (hl : s.length ≤ 1048576) (hs : ∀ x ∈ s, x.f0.size ≤ 1048576) (p : List S62) (hp : p.length ≤ 1048576) (hc : ∀ x ∈ p, x.f1.size ≤ 1048576 ∧ x.f6.length ≤ 1048576) : Ev (fun k => spec_TypedOk.f k s p) (typedOk s p) := by
  simp only [spec_TypedOk.f]
  refine Ev.bind (ev_spec_WidthOf s hl hs p hp hc) ?_
  rw [← typedOk_ne s p (fun y hy => (hc y hy).2)]
  exact Ev.now _

theorem holds : ∀ (l0 : List (S53)) (l1 : List (S57)), (l0.length ≤ 9223372036854775807 ∧ ∀ yl0 ∈ l0, Ok53 yl0) → (l1.length ≤ 9223372036854775807 ∧ ∀ yl1 ∈ l1, Ok57 yl1) → ∃ k, laws_FnExactTypedOk.f k l0 l1 = some true := by
  intro l r hl hr
  apply Ev.ex
  simp only [laws_FnExactTypedOk.f]
  obtain ⟨q, he, g1, g2, g3⟩ := ev_laws_szTableS l 1048576 (by omega) (by omega) hl.1 (fun x hx => (hl.2 x hx).1)
  refine Ev.bind he ?_
  by_cases hq : q < 0
  · simp only [if_pos hq]; exact Ev.now _
  simp only [if_neg hq]
  obtain ⟨q2, he2, g4, g5, g6⟩ := ev_laws_szNodeS r q (by omega) (by omega) hr.1 (fun x hx => ⟨(hr.2 x hx).2.1, (hr.2 x hx).2.2.2.2.2.2.1⟩)
  refine Ev.bind he2 ?_
  by_cases hq2 : q2 < 0
  · simp only [if_pos hq2]; exact Ev.now _
  simp only [if_neg hq2]
  have hS := g3 (by omega)
  have hS1 := hS.1
  have hT := g6 (by omega)
  have hT1 := hT.1
  have hto := ev_laws_toTableS l hS
  have hto2 := ev_laws_toNodeS r hT
  have hb : ∀ x ∈ l.map cvTable, x.f0.size ≤ 1048576 := by
    intro x hx
    obtain ⟨y, hy, rfl⟩ := List.mem_map.1 hx
    exact hS.2 y hy
  have hc : ∀ x ∈ r.map cvNode, x.f1.size ≤ 1048576 ∧ x.f6.length ≤ 1048576 := by
    intro x hx
    obtain ⟨y, hy, rfl⟩ := List.mem_map.1 hx
    exact hT.2 y hy
  have hc6 : ∀ x ∈ r.map cvNode, x.f6.length ≤ 1099511627776 := fun x hx => by have := (hc x hx).2; omega
  have hlen : (l.map cvTable).length = l.length := List.length_map _
  have hlen2 : (r.map cvNode).length = r.length := List.length_map _
  generalize l.map cvTable = s at *
  generalize r.map cvNode = p at *
  refine Ev.bind hto ?_
  refine Ev.bind hto2 ?_
  refine Ev.bind (ev_spec_TypedOk s (by omega) hb p (by omega) hc) ?_
  refine Ev.bind hto ?_
  refine Ev.bind hto2 ?_
  refine Ev.bind (ev_impl_TypedOk s (by omega) hb p (by omega) hc) ?_
  simp only [bne_self_eq_false, if_neg Bool.false_ne_true]
  refine Ev.bind hto ?_
  refine Ev.bind (ev_laws_eqTableS s (by omega) (fun _ _ => trivial)) ?_
  simp only [if_true]
  refine Ev.bind hto2 ?_
  refine Ev.bind (ev_laws_eqNodeS p (by omega) hc6) ?_
  exact Ev.const (by simp)

end EFnExactTypedOk
open Go.RowKit Go.Proofs.YtgmhohafoclmpaaW.PrintWords Go.Proofs.YtgmhohafoclmpaaW.PrintLast Go.Proofs.YtgmhohafoclmpaaW.PrintMore Go.Proofs.Ytgmhohafoclmpaa.Lib Go.Proofs.Ytgmhohafoclmpaa.Q
theorem FnExactTypedOk : ∀ (l0 : List (S53)) (l1 : List (S57)), (l0.length ≤ 9223372036854775807 ∧ ∀ yl0 ∈ l0, Ok53 yl0) → (l1.length ≤ 9223372036854775807 ∧ ∀ yl1 ∈ l1, Ok57 yl1) → ∃ k, laws_FnExactTypedOk.f k l0 l1 = some true := EFnExactTypedOk.holds
end Go.Proofs.Ytgmhohafoclmpaa.Pure
