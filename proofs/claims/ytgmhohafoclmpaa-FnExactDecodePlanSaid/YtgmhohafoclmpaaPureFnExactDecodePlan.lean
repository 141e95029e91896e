/- Of every list of bytes: the program's DecodePlan gives what the reference's DecodePlan gives, in new memory of its own, and its argument stays as it was. -/
import Derived.Test.YtgmhohafoclmpaaQmFnExactDecodePlan
import Derived.Test.YtgmhohafoclmpaaShapes
import Derived.Test.YtgmhohafoclmpaaLib
set_option linter.unusedVariables false
set_option linter.unusedSimpArgs false
namespace Go.Proofs.Ytgmhohafoclmpaa.Pure
namespace EFnExactDecodePlan
open Go.RowKit Go.Proofs.YtgmhohafoclmpaaW.PrintWords Go.Proofs.YtgmhohafoclmpaaW.PrintLast Go.Proofs.YtgmhohafoclmpaaW.PrintMore Go.Proofs.Ytgmhohafoclmpaa.Lib Go.Proofs.Ytgmhohafoclmpaa.Q

theorem ev_impl_ArityOf (a : Int) : Ev (fun k => impl_ArityOf.f k a) (arity a) := by
  simp only [impl_ArityOf.f]
  by_cases h0 : a = 0
  · subst h0; simp only [if_true]; exact Ev.now _
  by_cases h3 : a = 3
  · subst h3
    simp only [if_neg (show ¬ (3 : Int) = 0 by omega), if_true]
    apply Ev.step
    · intro k; rw [impl_ArityOf.j0]
    exact Ev.const (by simp [arity])
  simp only [if_neg h0, if_neg h3]
  apply Ev.step
  · intro k; rw [impl_ArityOf.j0]
  refine Ev.const ?_
  unfold arity
  by_cases h4 : a = 4
  · subst h4; simp
  · simp only [beq_iff_eq, if_neg h0, if_neg h3, if_neg h4]
    repeat' split
    all_goals first | rfl | omega

def kAt (p : List S62) (k : Nat) : Int := (rd_T62 p (k : Int)).f0
/-- The place behind the node at k and all below it, and how deep that is; none if it is not whole within so many levels. -/
def endP (p : List S62) : Nat → Nat → Option (Nat × Nat)
  | 0, _ => none
  | room + 1, k =>
    if p.length ≤ k then none
    else if arity (kAt p k) = 2 then (endP p room (k + 1)).bind fun x => (endP p room x.1).bind fun y => some (y.1, max x.2 y.2 + 1)
    else if arity (kAt p k) = 1 then (endP p room (k + 1)).bind fun x => some (x.1, x.2 + 1)
    else some (k + 1, 1)
def endI : Option (Nat × Nat) → Int
  | none => -1
  | some x => x.1
theorem arity_cases (k : Int) : arity k = -1 ∨ arity k = 0 ∨ arity k = 1 ∨ arity k = 2 := by
  unfold arity; repeat' split
  all_goals simp
theorem endP_range (p : List S62) : ∀ (room k : Nat) (x : Nat × Nat), endP p room k = some x → k < x.1 ∧ x.1 ≤ p.length ∧ 1 ≤ x.2 ∧ x.2 ≤ room := by
  intro room
  induction room with
  | zero => intro k x h; simp [endP] at h
  | succ room ih =>
    intro k x h
    unfold endP at h
    by_cases h0 : p.length ≤ k
    · rw [if_pos h0] at h; cases h
    rw [if_neg h0] at h
    by_cases h2 : arity (kAt p k) = 2
    · rw [if_pos h2] at h
      obtain ⟨y, hy, h⟩ := Option.bind_eq_some_iff.1 h
      obtain ⟨z, hz, h⟩ := Option.bind_eq_some_iff.1 h
      injection h with h
      have a := ih _ _ hy
      have b := ih _ _ hz
      subst h
      refine ⟨?_, ?_, ?_, ?_⟩ <;> simp <;> omega
    rw [if_neg h2] at h
    by_cases h1 : arity (kAt p k) = 1
    · rw [if_pos h1] at h
      obtain ⟨y, hy, h⟩ := Option.bind_eq_some_iff.1 h
      injection h with h
      have a := ih _ _ hy
      subst h
      refine ⟨?_, ?_, ?_, ?_⟩ <;> simp <;> omega
    rw [if_neg h1] at h
    injection h with h
    subst h
    refine ⟨?_, ?_, ?_, ?_⟩ <;> simp <;> omega
theorem endP_mono (p : List S62) : ∀ (room k : Nat) (x : Nat × Nat) (r : Nat), endP p room k = some x → room ≤ r → endP p r k = some x := by
  intro room
  induction room with
  | zero => intro k x r h; simp [endP] at h
  | succ room ih =>
    intro k x r h hr
    obtain ⟨r, rfl⟩ : ∃ q, r = q + 1 := ⟨r - 1, by omega⟩
    unfold endP at h ⊢
    by_cases h0 : p.length ≤ k
    · rw [if_pos h0] at h; cases h
    rw [if_neg h0] at h ⊢
    by_cases h2 : arity (kAt p k) = 2
    · rw [if_pos h2] at h ⊢
      obtain ⟨y, hy, h⟩ := Option.bind_eq_some_iff.1 h
      obtain ⟨z, hz, h⟩ := Option.bind_eq_some_iff.1 h
      rw [ih _ _ r hy (by omega), Option.bind_some, ih _ _ r hz (by omega), Option.bind_some]; exact h
    rw [if_neg h2] at h ⊢
    by_cases h1 : arity (kAt p k) = 1
    · rw [if_pos h1] at h ⊢
      obtain ⟨y, hy, h⟩ := Option.bind_eq_some_iff.1 h
      rw [ih _ _ r hy (by omega), Option.bind_some]; exact h
    rw [if_neg h1] at h ⊢
    exact h
theorem endI_lo (o : Option (Nat × Nat)) : -1 ≤ endI o := by
  cases o with
  | none => simp [endI]
  | some x => simp [endI] <;> omega
theorem endI_neg {o : Option (Nat × Nat)} : endI o < 0 ↔ o = none := by
  cases o with
  | none => simp [endI]
  | some x => simp [endI]
theorem w01 : wrap64 (0 + 1) = 1 := by rw [w64 (by omega)]; rfl
theorem w12 : wrap64 (1 + 1) = 2 := by rw [w64 (by omega)]; rfl

theorem ev_impl_end (p : List S62) (hl : p.length ≤ 1048576) : ∀ (room k : Nat), room ≤ 10 → k ≤ 1099511627776 → Ev (fun n => impl_end.f n p k (11 - room : Int)) (endI (endP p room k)) := by
  intro room
  induction room with
  | zero =>
    intro k _ hk
    apply Ev.step
    · intro k; rw [impl_end.f]
    refine Ev_ite (fun _ => ?_) (fun _ => ?_)
    · apply Ev.step
      · intro k; rw [impl_end.j0]
      exact Ev.now _
    · apply Ev.step
      · intro k; rw [impl_end.j0]
      exact Ev.now _
  | succ room ih =>
    intro k hr hk
    apply Ev.step
    · intro k; rw [impl_end.f]
    refine Ev_ite (fun h0 => ?_) (fun h0 => ?_)
    · rw [endP, if_pos (by omega)]
      apply Ev.step
      · intro k; rw [impl_end.j0]
      exact Ev.now _
    rw [endP, if_neg (by omega)]
    simp only [decide_eq_false (show ¬ (11 - ((room + 1 : Nat) : Int)) > 10 by omega)]
    apply Ev.step
    · intro k; rw [impl_end.j0]
    simp only [if_neg Bool.false_ne_true, if_pos (show (0 : Int) ≤ k by omega), if_pos (show (k : Int) < p.length by omega)]
    refine Ev.bind (ev_impl_ArityOf _) ?_
    have e1 : (11 : Int) - ((room + 1 : Nat) : Int) + 1 = 11 - (room : Int) := by omega
    have e2 : ((k : Int) + 1) = ((k + 1 : Nat) : Int) := by omega
    have hka : arity (rd_T62 p (k : Int)).f0 = arity (kAt p k) := rfl
    rw [hka]
    have i1 := ih (k + 1) (by omega) (by omega)
    simp only [w64 (x := (k : Int) + 1) (by omega), e2, w64 (x := ((k + 1 : Nat) : Int)) (by omega)]
    rcases arity_cases (kAt p k) with h | h | h | h
    · rw [h, if_neg (by omega), if_neg (by omega)]
      apply Ev.step
      · intro k; rw [impl_end.l0]
      simp only [if_neg (show ¬ (0 : Int) < -1 by omega)]
      exact Ev.now _
    · rw [h, if_neg (by omega), if_neg (by omega)]
      apply Ev.step
      · intro k; rw [impl_end.l0]
      simp only [if_neg (show ¬ (0 : Int) < 0 by omega)]
      exact Ev.now _
    · rw [h, if_neg (by omega), if_pos rfl]
      apply Ev.step
      · intro k; rw [impl_end.l0]
      simp only [if_pos (show (0 : Int) < 1 by omega), w64 (x := (11 : Int) - ((room + 1 : Nat) : Int) + 1) (by omega), e1, w64 (x := (11 : Int) - (room : Int)) (by omega)]
      refine Ev.bind i1 ?_
      cases hx : endP p room (k + 1) with
      | none => exact Ev.now _
      | some x =>
        simp only [if_neg (show ¬ endI (some x) < 0 by simp [endI]), Option.bind_some]
        apply Ev.step
        · intro k; rw [impl_end.l0]
        simp only [w01, if_neg (show ¬ (1 : Int) < 1 by omega)]
        exact Ev.now _
    · rw [h, if_pos rfl]
      apply Ev.step
      · intro k; rw [impl_end.l0]
      simp only [if_pos (show (0 : Int) < 2 by omega), w64 (x := (11 : Int) - ((room + 1 : Nat) : Int) + 1) (by omega), e1, w64 (x := (11 : Int) - (room : Int)) (by omega)]
      refine Ev.bind i1 ?_
      cases hx : endP p room (k + 1) with
      | none => exact Ev.now _
      | some x =>
        have hxr := endP_range p _ _ _ hx
        simp only [if_neg (show ¬ endI (some x) < 0 by simp [endI]), Option.bind_some]
        apply Ev.step
        · intro k; rw [impl_end.l0]
        simp only [w01, w12, if_pos (show (1 : Int) < 2 by omega), w64 (x := (11 : Int) - ((room + 1 : Nat) : Int) + 1) (by omega), e1, w64 (x := (11 : Int) - (room : Int)) (by omega)]
        rw [show endI (some x) = ((x.1 : Nat) : Int) from rfl]
        refine Ev.bind (ih x.1 (by omega) (by omega)) ?_
        cases hy : endP p room x.1 with
        | none => exact Ev.now _
        | some y =>
          simp only [if_neg (show ¬ endI (some y) < 0 by simp [endI]), Option.bind_some]
          apply Ev.step
          · intro k; rw [impl_end.l0]
          simp only [if_neg (show ¬ (2 : Int) < 2 by omega)]
          exact Ev.now _

theorem impl_in_eq (a b c : Int) : impl_in.f a b c = some (decide (b ≤ a ∧ a ≤ c)) := by
  unfold impl_in.f
  by_cases h : b ≤ a
  · rw [if_pos h]; simp [h]
  · rw [if_neg (show ¬ a ≥ b from h)]; simp [h]

theorem ev_impl_WordOk_l0 (s : ByteArray) (hs : s.size ≤ 1099511627776) : ∀ (d i : Nat), i + d = s.size → Ev (fun k => impl_WordOk.l0 k s (s.size : Int) i) (wordFrom s d i && decide (1 ≤ s.size ∧ s.size ≤ 12)) := by
  intro d
  induction d with
  | zero =>
    intro i h
    apply Ev.step
    · intro k; rw [impl_WordOk.l0]
    simp only [if_neg (show ¬ ((i : Int) < s.size) by omega), impl_in_eq, Option.bind_some, wordFrom, Bool.true_and]
    refine Ev.const (congrArg some ?_)
    exact decide_eq_decide.mpr (by omega)
  | succ d ih =>
    intro i h
    have ih' := ih (i + 1) (by omega)
    apply Ev.step
    · intro k; rw [impl_WordOk.l0]
    simp only [if_pos (show (i : Int) < s.size by omega), if_pos (show (0 : Int) ≤ i by omega), w64 (x := (i : Int) + 1) (by omega), wordFrom]
    by_cases h1 : bt s i ≥ 97
    · simp only [if_pos h1]
      by_cases h2 : bt s i ≤ 122
      · simp only [if_pos h2, show okAt s i = true by simp [okAt]; omega, Bool.true_and]; exact ih'
      · simp only [if_neg h2]
        by_cases h0 : (i : Int) = 0
        · simp only [if_pos h0, show okAt s i = false by simp [okAt]; omega, Bool.false_and]; exact Ev.now _
        · simp only [if_neg h0, if_neg (show ¬ bt s i < 48 by omega), if_pos (show bt s i > 57 by omega), show okAt s i = false by simp [okAt]; omega, Bool.false_and]; exact Ev.now _
    · simp only [if_neg h1]
      by_cases h0 : (i : Int) = 0
      · simp only [if_pos h0, show okAt s i = false by simp [okAt]; omega, Bool.false_and]; exact Ev.now _
      · simp only [if_neg h0]
        by_cases h2 : bt s i < 48
        · simp only [if_pos h2, show okAt s i = false by simp [okAt]; omega, Bool.false_and]; exact Ev.now _
        · by_cases h3 : bt s i > 57
          · simp only [if_neg h2, if_pos h3, show okAt s i = false by simp [okAt]; omega, Bool.false_and]; exact Ev.now _
          · simp only [if_neg h2, if_neg h3, show okAt s i = true by simp [okAt]; omega, Bool.true_and]; exact ih'
theorem ev_impl_WordOk (s : ByteArray) (hs : s.size ≤ 1099511627776) : Ev (fun k => impl_WordOk.f k s) (wordOk s) := by
  have := ev_impl_WordOk_l0 s hs s.size 0 (by omega)
  rw [Bool.and_comm] at this
  exact this

theorem impl_isCol_eq (a : Int) : impl_isCol.f a = some (colB a) := by
  unfold impl_isCol.f; rw [impl_in_eq]; rfl

theorem impl_isNum_eq (a : Int) : impl_isNum.f a = some (isNumB a) := by
  unfold impl_isNum.f; rw [impl_in_eq]; rfl

theorem impl_isSlot_eq (a : Int) : impl_isSlot.f a = some (slotB a) := by
  unfold impl_isSlot.f; rw [impl_in_eq]; rfl

theorem ev_slices_Equal_int_int_l0 (a b : List Int) (hl : a.length = b.length) (ha : a.length ≤ 1099511627776) : ∀ (d i : Nat), i + d = a.length → Ev (fun k => slices_Equal_int_int.l0 k a b (a.length : Int) i) (decide (a.drop i = b.drop i)) := by
  intro d
  induction d with
  | zero =>
    intro i h
    apply Ev.step
    · intro k; rw [slices_Equal_int_int.l0]
    simp only [if_neg (show ¬ ((i : Int) < a.length) by omega), drop_nil' (show a.length ≤ i by omega), drop_nil' (show b.length ≤ i by omega)]
    exact Ev.const (by simp)
  | succ d ih =>
    intro i h
    have ih' := ih (i + 1) (by omega)
    apply Ev.step
    · intro k; rw [slices_Equal_int_int.l0]
    simp only [if_pos (show (i : Int) < a.length by omega), if_pos (show (i : Int) < b.length by omega), if_pos (show (0 : Int) ≤ i by omega), w64 (x := (i : Int) + 1) (by omega), eq_drop (show i < a.length by omega) (show i < b.length by omega)]
    by_cases he : rd a i = rd b i
    · simp only [if_pos he]
      simpa [he] using ih'
    · simp only [if_neg he]
      exact Ev.const (by simp [he])
theorem ev_slices_Equal_int_int (a b : List Int) (ha : a.length ≤ 1099511627776) : Ev (fun k => slices_Equal_int_int.f k a b) (decide (a = b)) := by
  simp only [slices_Equal_int_int.f]
  by_cases hl : a.length = b.length
  · simp only [if_pos (show (a.length : Int) = b.length by omega)]
    simpa using ev_slices_Equal_int_int_l0 a b hl ha a.length 0 (by omega)
  · simp only [if_neg (show ¬ (a.length : Int) = b.length by omega)]
    exact Ev.const (congrArg some (decide_eq_false (fun h => hl (by rw [h]))).symm)

theorem ev_impl_sameNode (a0 : Int) (a1 : ByteArray) (a2 a3 a4 : Int) (a5 : Bool) (a6 : List Int) (b0 : Int) (b1 : ByteArray) (b2 b3 b4 : Int) (b5 : Bool) (b6 : List Int) (h : a6.length ≤ 1099511627776) :
    Ev (fun k => impl_sameNode.f k a0 a1 a2 a3 a4 a5 a6 b0 b1 b2 b3 b4 b5 b6) (decide (a0 = b0 ∧ a1.toList = b1.toList ∧ a2 = b2 ∧ a3 = b3 ∧ a4 = b4 ∧ a5 = b5 ∧ a6 = b6)) := by
  simp only [impl_sameNode.f]
  refine Ev_ite (fun h0 => ?_) (fun h0 => Ev.const (by simp [h0]))
  refine Ev_ite (fun h1 => ?_) (fun h1 => Ev.const (by simp [h1]))
  refine Ev_ite (fun h2 => ?_) (fun h2 => Ev.const (by simp [h2]))
  refine Ev_ite (fun h3 => ?_) (fun h3 => Ev.const (by simp [h3]))
  refine Ev_ite (fun h4 => ?_) (fun h4 => Ev.const (by simp [h4]))
  refine Ev_ite (fun h5 => ?_) (fun h5 => Ev.const (by have : ¬ a5 = b5 := by simpa using h5
                                                       simp [this]))
  have h5' : a5 = b5 := by simpa using h5
  refine Ev.bind (ev_slices_Equal_int_int a6 b6 h) ?_
  exact Ev.const (by simp [h0, h1, h2, h3, h4, h5'])

theorem impl_NodeOk_1_eq (a : Int) : impl_NodeOk_1.f a = some ((fun a => !colB a) a) := by
  unfold impl_NodeOk_1.f; rw [impl_isCol_eq]; rfl

theorem ev_IndexFunc_l0 (l : List Int) (hl : l.length ≤ 1099511627776) : ∀ (d i : Nat), i + d = l.length → ∃ r, Ev (fun k => slices_IndexFunc_int_int.l0 k l (l.length : Int) i) r ∧ decide (r ≥ 0) = (l.drop i).any (fun a => !colB a) := by
  intro d
  induction d with
  | zero =>
    intro i h
    refine ⟨-1, ?_, by rw [drop_nil' (show l.length ≤ i by omega)]; rfl⟩
    apply Ev.step
    · intro k; rw [slices_IndexFunc_int_int.l0]
    simp only [if_neg (show ¬ ((i : Int) < l.length) by omega)]
    exact Ev.now _
  | succ d ih =>
    intro i h
    obtain ⟨r, e, g⟩ := ih (i + 1) (by omega)
    by_cases hp : (fun a => !colB a) (rd l i) = true
    · have hp' := hp
      simp only [] at hp'
      refine ⟨i, ?_, ?_⟩
      · apply Ev.step
        · intro k; rw [slices_IndexFunc_int_int.l0]
        simp only [if_pos (show (i : Int) < l.length by omega), if_pos (show (0 : Int) ≤ i by omega), impl_NodeOk_1_eq, Option.bind_some]
        simp only [hp', if_true]
        exact Ev.now _
      · rw [drop_rd l i (by omega), List.any_cons]; simp only [hp', Bool.true_or]; simp
    · have hp' := Bool.eq_false_iff.mpr hp
      simp only [] at hp'
      refine ⟨r, ?_, ?_⟩
      · apply Ev.step
        · intro k; rw [slices_IndexFunc_int_int.l0]
        simp only [if_pos (show (i : Int) < l.length by omega), if_pos (show (0 : Int) ≤ i by omega), impl_NodeOk_1_eq, Option.bind_some, w64 (x := (i : Int) + 1) (by omega)]
        simp only [hp', if_neg Bool.false_ne_true]
        simpa using e
      · rw [drop_rd l i (by omega), List.any_cons]; simp only [hp', Bool.false_or]; exact g

theorem ev_ContainsFunc (l : List Int) (hl : l.length ≤ 1099511627776) : Ev (fun k => slices_ContainsFunc_int_int.f k l) (l.any (fun a => !colB a)) := by
  obtain ⟨r, e, g⟩ := ev_IndexFunc_l0 l hl l.length 0 (by omega)
  simp only [slices_ContainsFunc_int_int.f, slices_IndexFunc_int_int.f]
  refine Ev.bind (by simpa using e) ?_
  refine Ev.const (congrArg some ?_)
  rw [g, List.drop_zero]

theorem all_colB (l : List Int) : (l.any (fun a => !colB a)) = !l.all colB := by
  induction l with
  | nil => rfl
  | cons a l ih => simp [ih]
theorem empty_list : (⟨#[]⟩ : ByteArray).toList = [] := by rw [Lib.toList_data]
theorem ev_impl_NodeOk (kind : Int) (name : ByteArray) (col op num : Int) (slot : Bool) (cols : List Int) (hl : cols.length ≤ 1099511627776) (hn : name.size ≤ 1099511627776) : Ev (fun k => impl_NodeOk.f k kind name col op num slot cols) (nodeOk kind name col op num slot cols) := by
  have same := fun (a0 : Int) (a1 : ByteArray) (a2 a3 a4 : Int) (a5 : Bool) (a6 : List Int) (h : a6.length ≤ 1099511627776) => ev_impl_sameNode a0 a1 a2 a3 a4 a5 a6 0 (⟨#[]⟩ : ByteArray) 0 0 0 false [] h
  have hnil : ([] : List Int).length ≤ 1099511627776 := by simp
  simp only [impl_NodeOk.f, impl_isCol_eq, impl_in_eq, impl_isSlot_eq, Option.bind_some]
  refine Ev_ite (fun h0 => ?_) (fun h0 => ?_)
  · refine Ev.bind (ev_impl_WordOk name hn) ?_
    refine Ev_ite (fun h1 => ?_) (fun h1 => Ev.const (by simp [nodeOk, nodeKind, h0, Bool.eq_false_iff.mpr h1]))
    refine Ev.bind (same _ _ _ _ _ _ _ hl) ?_
    refine Ev.const (congrArg some ?_)
    cases slot <;> simp [nodeOk, nodePre, nodeKind, h0, h1, empty_list] <;> by_cases e1 : cols = [] <;> by_cases e2 : op = 0 <;> by_cases e3 : col = 0 <;> simp [*]
  refine Ev_ite (fun h1 => ?_) (fun h1 => ?_)
  · have tail : ∀ b, b = (colB col && decide (0 ≤ op ∧ op ≤ 3)) → Ev (fun k => impl_NodeOk.j0 k b kind name col op num slot cols 0 name col op num slot cols) (nodeOk kind name col op num slot cols) := by
      intro b hb
      have hk : nodeKind kind name col op num slot cols = (b && isNumB num && decide (op = 3 → num = 0 ∧ slot = false)) := by
        rw [hb]; simp [nodeKind, h1]
      unfold nodeOk
      rw [hk]
      apply Ev.step
      · intro k; rw [impl_NodeOk.j0]
      simp only [impl_isSlot_eq, impl_isNum_eq, Option.bind_some]
      cases b with
      | false =>
        simp only [Bool.false_and, Bool.and_false]
        refine Ev_ite (fun _ => Ev.const (by simp)) (fun _ => Ev_ite (fun _ => Ev.const (by simp)) (fun _ => Ev.const (by simp)))
      | true =>
        simp only [Bool.true_and, if_true]
        refine Ev_ite (fun h3 => ?_) (fun h3 => ?_)
        · refine Ev_ite (fun h4 => Ev_ite (fun h5 => ?_) (fun h5 => ?_)) (fun h4 => ?_)
          · exact Ev.const (by simp [h3, h5])
          · refine Ev.bind (same _ _ _ _ _ _ _ hl) ?_
            refine Ev.const (congrArg some ?_)
            have h5' : slot = false := by simpa using h5
            subst h4 h5'
            simp [nodePre, h1, h3, empty_list, isNumB]
          · exact Ev.const (by simp [h3, h4])
        · refine Ev_ite (fun h4 => ?_) (fun h4 => ?_)
          · refine Ev_ite (fun h5 => ?_) (fun h5 => Ev.const (by simp [nodePre, h4, Bool.eq_false_iff.mpr h5]))
            refine Ev.bind (same _ _ _ _ _ _ _ hl) ?_
            refine Ev.const (congrArg some ?_)
            have h6 : isNumB num = true := by simp [slotB] at h5; simp [isNumB]; omega
            simp [nodePre, h1, h3, h4, h5, h6, empty_list]
          · refine Ev_ite (fun h5 => ?_) (fun h5 => Ev.const (by simp [Bool.eq_false_iff.mpr h5]))
            refine Ev.bind (same _ _ _ _ _ _ _ hl) ?_
            refine Ev.const (congrArg some ?_)
            have h4' : slot = false := by simpa using h4
            simp [nodePre, h1, h3, h4', h5, empty_list]
    refine Ev_ite (fun h2 => tail _ (by rw [h2, Bool.true_and])) (fun h2 => tail _ (by rw [Bool.eq_false_iff.mpr h2, Bool.false_and]))
  refine Ev_ite (fun h2 => ?_) (fun h2 => ?_)
  · refine Ev_ite (fun h3 => ?_) (fun h3 => Ev.const (by
      have : ¬ (1 ≤ cols.length ∧ cols.length ≤ 6) := by simp only [decide_eq_true_eq] at h3; omega
      simp [nodeOk, nodeKind, h2]
      intro _ _ h4 h5; exact absurd ⟨h4, h5⟩ this))
    refine Ev.bind (ev_ContainsFunc cols hl) ?_
    rw [all_colB]
    have h3' : 1 ≤ cols.length ∧ cols.length ≤ 6 := by simp only [decide_eq_true_eq] at h3; omega
    refine Ev_ite (fun h4 => Ev.const (by
      have : cols.all colB = false := by simpa using h4
      simp [nodeOk, nodeKind, h2, this])) (fun h4 => ?_)
    have h5 : cols.all colB = true := by simpa using h4
    refine Ev.bind (same _ _ _ _ _ _ _ hnil) ?_
    refine Ev.const (congrArg some ?_)
    cases slot <;> simp only [nodeOk, nodePre, nodeKind, h2, h5, decide_eq_true h3', empty_list] <;> simp <;> by_cases e1 : name.toList = [] <;> by_cases e2 : op = 0 <;> by_cases e3 : col = 0 <;> simp [*]
  refine Ev_ite (fun h3 => ?_) (fun h3 => ?_)
  · refine Ev_ite (fun h4 => ?_) (fun h4 => Ev.const (by simp [nodeOk, nodeKind, h3, Bool.eq_false_iff.mpr h4]))
    refine Ev_ite (fun h5 => ?_) (fun h5 => Ev.const (by simp [nodeOk, nodeKind, h3, Bool.eq_false_iff.mpr h5]))
    refine Ev.bind (same _ _ _ _ _ _ _ hl) ?_
    refine Ev.const (congrArg some ?_)
    cases slot <;> simp [nodeOk, nodePre, nodeKind, h3, h4, h5, empty_list] <;> by_cases e1 : cols = [] <;> by_cases e2 : op = 0 <;> by_cases e3 : name.toList = [] <;> simp [*]
  refine Ev_ite (fun h4 => ?_) (fun h4 => ?_)
  · refine Ev_ite (fun h5 => ?_) (fun h5 => Ev.const (by simp [nodeOk, nodeKind, h4, Bool.eq_false_iff.mpr h5]))
    refine Ev.bind (same _ _ _ _ _ _ _ hl) ?_
    refine Ev.const (congrArg some ?_)
    cases slot <;> simp [nodeOk, nodePre, nodeKind, h4, h5, empty_list] <;> by_cases e1 : cols = [] <;> by_cases e2 : op = 0 <;> by_cases e3 : name.toList = [] <;> simp [*]
  refine Ev_ite (fun h5 => ?_) (fun h5 => ?_)
  · refine Ev_ite (fun h6 => ?_) (fun h6 => Ev.const (by
      have : ¬ (0 ≤ num ∧ num ≤ 1000000) := by simpa using h6
      simp [nodeOk, nodeKind, h5]
      intro _ _ h7; omega))
    have h6' : 0 ≤ num ∧ num ≤ 1000000 := by simpa using h6
    refine Ev_ite (fun h7 => Ev_ite (fun h8 => ?_) (fun h8 => Ev.const (by simp [nodeOk, nodePre, h7, Bool.eq_false_iff.mpr h8]))) (fun h7 => ?_)
    · refine Ev.bind (same _ _ _ _ _ _ _ hl) ?_
      refine Ev.const (congrArg some ?_)
      simp only [nodeOk, nodePre, nodeKind, h5, h7, h8, decide_eq_true h6', empty_list] <;> simp <;> by_cases e1 : cols = [] <;> by_cases e2 : op = 0 <;> by_cases e3 : name.toList = [] <;> simp [*]
    · refine Ev.bind (same _ _ _ _ _ _ _ hl) ?_
      refine Ev.const (congrArg some ?_)
      have h7' : slot = false := by simpa using h7
      simp only [nodeOk, nodePre, nodeKind, h5, h7', decide_eq_true h6', empty_list] <;> simp <;> by_cases e1 : cols = [] <;> by_cases e2 : op = 0 <;> by_cases e3 : name.toList = [] <;> simp [*]
  refine Ev_ite (fun h6 => ?_) (fun h6 => Ev_ite (fun h7 => ?_) (fun h7 => ?_))
  · refine Ev.bind (same _ _ _ _ _ _ _ hl) ?_
    refine Ev.const (congrArg some ?_)
    cases slot <;> simp [nodeOk, nodePre, nodeKind, h6, empty_list] <;> by_cases e1 : cols = [] <;> by_cases e2 : op = 0 <;> by_cases e3 : name.toList = [] <;> simp [*]
  · refine Ev.bind (same _ _ _ _ _ _ _ hl) ?_
    refine Ev.const (congrArg some ?_)
    cases slot <;> simp [nodeOk, nodePre, nodeKind, h7, empty_list] <;> by_cases e1 : cols = [] <;> by_cases e2 : op = 0 <;> by_cases e3 : name.toList = [] <;> simp [*]
  · exact Ev.const (by simp [nodeOk, nodeKind, h0, h1, h2, h3, h4, h5, h6, h7])

def nodeOkN (x : S62) : Bool := nodeOk x.f0 x.f1 x.f2 x.f3 x.f4 x.f5 x.f6
def planOk (p : List S62) : Bool := decide (1 ≤ p.length ∧ p.length ≤ 40) && p.all nodeOkN && decide (endI (endP p 10 0) = p.length)
theorem drop_rdT (p : List S62) (i : Nat) (h : i < p.length) : p.drop i = rd_T62 p i :: p.drop (i + 1) := by
  rw [drop_getD p z62 i h]; simp [rd_T62]
theorem rdT_memN {p : List S62} {i : Nat} (h : i < p.length) : rd_T62 p i ∈ p := by
  have := getD_mem (z := z62) h
  simpa [rd_T62] using this

theorem ev_impl_PlanOk_1 (x : S62) (h : x.f1.size ≤ 1048576 ∧ x.f6.length ≤ 1048576) : Ev (fun k => impl_PlanOk_1.f k x.f0 x.f1 x.f2 x.f3 x.f4 x.f5 x.f6) (!nodeOkN x) := by
  simp only [impl_PlanOk_1.f]
  refine Ev.bind (ev_impl_NodeOk _ _ _ _ _ _ _ (by omega) (by omega)) ?_
  exact Ev.now _

theorem ev_IndexNode (p : List S62) (hl : p.length ≤ 1099511627776) (hs : ∀ x ∈ p, x.f1.size ≤ 1048576 ∧ x.f6.length ≤ 1048576) : ∀ (d i : Nat), i + d = p.length → ∃ r, Ev (fun k => slices_IndexFunc_impl_Node_impl_Node.l0 k p (p.length : Int) i) r ∧ decide (r ≥ 0) = !(p.drop i).all nodeOkN := by
  intro d
  induction d with
  | zero =>
    intro i h
    refine ⟨-1, ?_, by rw [drop_nil' (show p.length ≤ i by omega)]; rfl⟩
    apply Ev.step
    · intro k; rw [slices_IndexFunc_impl_Node_impl_Node.l0]
    simp only [if_neg (show ¬ ((i : Int) < p.length) by omega)]
    exact Ev.now _
  | succ d ih =>
    intro i h
    obtain ⟨r, e, g⟩ := ih (i + 1) (by omega)
    have hm := hs _ (rdT_memN (show i < p.length by omega))
    by_cases hp : nodeOkN (rd_T62 p i) = true
    · refine ⟨r, ?_, ?_⟩
      · apply Ev.step
        · intro k; rw [slices_IndexFunc_impl_Node_impl_Node.l0]
        simp only [if_pos (show (i : Int) < p.length by omega), if_pos (show (0 : Int) ≤ i by omega), w64 (x := (i : Int) + 1) (by omega)]
        refine Ev.bind (ev_impl_PlanOk_1 _ hm) ?_
        rw [hp]; simp only [Bool.not_true, if_neg Bool.false_ne_true]
        simpa using e
      · rw [drop_rdT p i (by omega), List.all_cons, hp, Bool.true_and]; exact g
    · refine ⟨i, ?_, ?_⟩
      · apply Ev.step
        · intro k; rw [slices_IndexFunc_impl_Node_impl_Node.l0]
        simp only [if_pos (show (i : Int) < p.length by omega), if_pos (show (0 : Int) ≤ i by omega)]
        refine Ev.bind (ev_impl_PlanOk_1 _ hm) ?_
        rw [Bool.eq_false_iff.mpr hp]; simp only [Bool.not_false, if_true]
        exact Ev.now _
      · rw [drop_rdT p i (by omega), List.all_cons, Bool.eq_false_iff.mpr hp, Bool.false_and]; simp

theorem ev_ContainsNode (p : List S62) (hl : p.length ≤ 1099511627776) (hs : ∀ x ∈ p, x.f1.size ≤ 1048576 ∧ x.f6.length ≤ 1048576) : Ev (fun k => slices_ContainsFunc_impl_Node_impl_Node.f k p) (!p.all nodeOkN) := by
  obtain ⟨r, e, g⟩ := ev_IndexNode p hl hs p.length 0 (by omega)
  simp only [slices_ContainsFunc_impl_Node_impl_Node.f, slices_IndexFunc_impl_Node_impl_Node.f]
  refine Ev.bind (by simpa using e) ?_
  refine Ev.const (congrArg some ?_)
  rw [g, List.drop_zero]

theorem ev_impl_PlanOk (p : List S62) (hl : p.length ≤ 1048576) (hs : ∀ x ∈ p, x.f1.size ≤ 1048576 ∧ x.f6.length ≤ 1048576) : Ev (fun k => impl_PlanOk.f k p) (planOk p) := by
  simp only [impl_PlanOk.f, impl_in_eq, Option.bind_some]
  unfold planOk
  refine Ev_ite (fun h1 => ?_) (fun h1 => ?_)
  · have h1' : 1 ≤ p.length ∧ p.length ≤ 40 := by simp only [decide_eq_true_eq] at h1; omega
    rw [decide_eq_true h1', Bool.true_and]
    refine Ev.bind (ev_ContainsNode p (by omega) hs) ?_
    refine Ev_ite (fun h2 => ?_) (fun h2 => ?_)
    · have : p.all nodeOkN = false := by simpa using h2
      rw [this]; exact Ev.now _
    · have : p.all nodeOkN = true := by simpa using h2
      rw [this, Bool.true_and]
      have := ev_impl_end p hl 10 0 (by omega) (by omega)
      refine Ev.bind (by simpa using this) ?_
      exact Ev.const (congrArg some (by rw [Bool.eq_iff_iff]; simp))
  · have h1' : ¬ (1 ≤ p.length ∧ p.length ≤ 40) := by simp only [decide_eq_true_eq] at h1; omega
    rw [decide_eq_false h1']; exact Ev.now _

theorem impl_fin (b : List Int) (hb : Bytes b) (hl : b.length ≤ 1048576) (p q u s : Int) (hp : 0 ≤ p ∧ p ≤ q) (hlt : q < b.length) (hu : 0 ≤ u ∧ u ≤ 2097152) (hs : s = 1 ∨ s = 128 ∨ s = 16384) (hv : rd b q < 128) :
    Ev (fun k => impl_TakeNum.j1 k b p u s q true) (takeFin (u + rd b q * s) (rd b q) (q - p) p) := by
  have hr := Bytes_rd hb q
  have hm : 0 ≤ rd b q * s ∧ rd b q * s ≤ 266338304 := by
    rcases hs with e | e | e <;> subst e <;> omega
  generalize hm0 : rd b q * s = m at *
  have e5 : Int.tmod (rd b q) 128 = rd b q := by rw [tmod_nn (by omega)]; omega
  have e4 : wrap64 (rd b q) = rd b q := w64 (by omega)
  apply Ev.step
  · intro k; rw [impl_TakeNum.j1]
  simp only [e5, e4, hm0, w64 (x := m) (by omega), if_true, if_pos (show (0 : Int) ≤ q by omega), if_pos hlt, if_neg (show ¬ rd b q ≥ 128 by omega), w64 (x := u + m) (by omega), tmod_nn (show 0 ≤ u + m by omega), impl_isNum_eq, Option.bind_some, w64 (x := u + m + 1) (by omega), w64 (x := -(u + m + 1)) (by omega), tdiv_neg' (show 0 ≤ u + m + 1 by omega), tdiv_nn (show 0 ≤ u + m by omega), w64 (x := -((u + m + 1) / 2)) (by omega), w64 (x := (u + m) / 2) (by omega), w64 (x := q + 1) (by omega)]
  refine Ev.const ?_
  unfold takeFin
  have e6 : p + (q - p) + 1 = q + 1 := by omega
  rw [e6]
  by_cases h1 : (u + m) % 2 = 1
  · simp only [h1, if_true]
    by_cases h2 : rd b q = 0
    · by_cases h3 : p < q
      · rw [if_pos (show (rd b q = 0 ∧ 0 < q - p) ∨ _ from Or.inl ⟨h2, by omega⟩)]
        simp [h2, h3]
      · have h3' : ¬ 0 < q - p := by omega
        simp [h2, h3, h3']; split <;> simp_all
    · simp [h2]; split <;> simp_all
  · simp only [h1, if_false]
    by_cases h2 : rd b q = 0
    · by_cases h3 : p < q
      · rw [if_pos (show (rd b q = 0 ∧ 0 < q - p) ∨ _ from Or.inl ⟨h2, by omega⟩)]
        simp [h2, h3]
      · have h3' : ¬ 0 < q - p := by omega
        simp [h2, h3, h3']; split <;> simp_all
    · simp [h2]; split <;> simp_all
theorem impl_cont (b : List Int) (hb : Bytes b) (hl : b.length ≤ 1048576) (p q u s : Int) (r : Int × Int) (hp : 0 ≤ p ∧ p ≤ q) (hlt : q < b.length) (hu : 0 ≤ u ∧ u ≤ 2097152) (hs : s = 1 ∨ s = 128 ∨ s = 16384) (hv : ¬ rd b q < 128)
    (h : Ev (fun k => impl_TakeNum.l0 k b p (u + rd b q % 128 * s) (s * 128) (q + 1)) r) : Ev (fun k => impl_TakeNum.j1 k b p u s q true) r := by
  have hr := Bytes_rd hb q
  have hm : 0 ≤ rd b q % 128 * s ∧ rd b q % 128 * s ≤ 266338304 := by
    rcases hs with e | e | e <;> subst e <;> omega
  generalize hm0 : rd b q % 128 * s = m at *
  have e5 : Int.tmod (rd b q) 128 = rd b q % 128 := tmod_nn (by omega)
  apply Ev.step
  · intro k; rw [impl_TakeNum.j1]
  simp only [e5, w64 (x := rd b q % 128) (by omega), hm0, w64 (x := m) (by omega), if_true, if_pos (show (0 : Int) ≤ q by omega), if_pos hlt, if_pos (show rd b q ≥ 128 by omega), w64 (x := u + m) (by omega), w64 (x := q + 1) (by omega), w64 (x := s * 128) (by omega)]
  exact h
theorem impl_head (b : List Int) (hl : b.length ≤ 1048576) (p q u s : Int) (r : Int × Int) (hp : 0 ≤ p ∧ p ≤ q ∧ p ≤ 9223372036854775807) (hr : (b.length : Int) ≤ q ∨ p + 3 ≤ q → r = (0, -1))
    (h : ¬ ((b.length : Int) ≤ q ∨ p + 3 ≤ q) → Ev (fun k => impl_TakeNum.j1 k b p u s q true) r) : Ev (fun k => impl_TakeNum.l0 k b p u s q) r := by
  apply Ev.step
  · intro k; rw [impl_TakeNum.l0]
  by_cases h0 : q < (b.length : Int)
  · simp only [if_pos h0, w64 (x := p + 3) (by omega)]
    by_cases h1 : q < p + 3
    · simp only [decide_eq_true h1]
      exact h (by omega)
    · simp only [decide_eq_false h1]
      rw [hr (by omega)]
      apply Ev.step
      · intro k; rw [impl_TakeNum.j1]
      exact Ev.now _
  · simp only [if_neg h0]
    rw [hr (by omega)]
    apply Ev.step
    · intro k; rw [impl_TakeNum.j1]
    exact Ev.now _
theorem ev_impl_TakeNum (b : List Int) (hb : Bytes b) (hl : b.length ≤ 1048576) (p : Int) (hp : p ≤ 9223372036854775807) : Ev (fun k => impl_TakeNum.f k b p) (takeNum b p) := by
  have r0 := Bytes_rd hb p
  have r1 := Bytes_rd hb (p + 1)
  have r2 := Bytes_rd hb (p + 2)
  simp only [impl_TakeNum.f]
  by_cases hn : p < 0
  · simp only [if_pos hn]
    rw [takeNum, if_pos (Or.inl hn)]
    exact Ev.now _
  simp only [if_neg hn]
  refine impl_head b hl p p 0 1 _ (by omega) (fun h => ?_) (fun h => ?_)
  · unfold takeNum; rw [if_pos (by omega)]
  have hg : ¬ (p < 0 ∨ (b.length : Int) ≤ p) := by omega
  rw [takeNum, if_neg hg]
  by_cases h0 : rd b p < 128
  · rw [if_pos h0]
    have := impl_fin b hb hl p p 0 1 (by omega) (by omega) (by omega) (by omega) h0
    simpa using this
  rw [if_neg h0]
  refine impl_cont b hb hl p p 0 1 _ (by omega) (by omega) (by omega) (by omega) h0 ?_
  simp only [Int.zero_add, Int.mul_one, Int.one_mul]
  refine impl_head b hl p (p + 1) _ _ _ (by omega) (fun h => ?_) (fun h => ?_)
  · rw [if_pos (by omega)]
  rw [if_neg (by omega)]
  by_cases h1 : rd b (p + 1) < 128
  · rw [if_pos h1]
    have := impl_fin b hb hl p (p + 1) (rd b p % 128) 128 (by omega) (by omega) (by omega) (by omega) h1
    rwa [show p + 1 - p = 1 by omega] at this
  rw [if_neg h1]
  refine impl_cont b hb hl p (p + 1) _ 128 _ (by omega) (by omega) (by omega) (by omega) h1 ?_
  simp only [show p + 1 + 1 = p + 2 by omega, show (128 : Int) * 128 = 16384 from rfl]
  refine impl_head b hl p (p + 2) _ _ _ (by omega) (fun h => ?_) (fun h => ?_)
  · rw [if_pos (by omega)]
  rw [if_neg (by omega)]
  by_cases h2 : rd b (p + 2) < 128
  · rw [if_pos h2]
    have := impl_fin b hb hl p (p + 2) (rd b p % 128 + rd b (p + 1) % 128 * 128) 16384 (by omega) (by omega) (by omega) (by omega) h2
    rwa [show p + 2 - p = 2 by omega] at this
  rw [if_neg h2]
  refine impl_cont b hb hl p (p + 2) _ 16384 _ (by omega) (by omega) (by omega) (by omega) h2 ?_
  exact impl_head b hl p (p + 2 + 1) _ _ _ (by omega) (fun _ => rfl) (fun h => by omega)

theorem ev_impl_TakeNums_l0 (b : List Int) (hb : Bytes b) (hl : b.length ≤ 1048576) (m : Int) (hm : 0 ≤ m ∧ m ≤ 300) : ∀ (d : Nat) (acc : List Int) (p i : Int), 0 ≤ i → i + d = m → acc.length = i → p ≤ 9223372036854775807 → Ev (fun k => impl_TakeNums.l0 k b p acc m i) (numsFrom b d acc p) := by
  intro d
  induction d with
  | zero =>
    intro acc p i h0 h1 h2 h3
    apply Ev.step
    · intro k; rw [impl_TakeNums.l0]
    simp only [if_neg (show ¬ i < m by omega)]
    exact Ev.now _
  | succ d ih =>
    intro acc p i h0 h1 h2 h3
    have hn := takeNum_lo b p
    apply Ev.step
    · intro k; rw [impl_TakeNums.l0]
    simp only [if_pos (show i < m by omega)]
    refine Ev.bind (ev_impl_TakeNum b hb hl p (by omega)) ?_
    rw [numsFrom]
    by_cases h4 : (takeNum b p).2 < 0
    · simp only [if_pos h4]; exact Ev.now _
    · simp only [if_neg h4, if_pos (show acc.length < 17592186044416 by omega), w64 (x := i + 1) (by omega)]
      exact ih _ _ _ (by omega) (by omega) (by simp; omega) (by omega)
theorem ev_impl_TakeNums (b : List Int) (hb : Bytes b) (hl : b.length ≤ 1048576) (p : Int) (hp : p ≤ 9223372036854775807) : Ev (fun k => impl_TakeNums.f k b p) (takeNums b p) := by
  have hn := takeNum_lo b p
  simp only [impl_TakeNums.f]
  refine Ev.bind (ev_impl_TakeNum b hb hl p (by omega)) ?_
  unfold takeNums
  by_cases h0 : (takeNum b p).2 < 0
  · simp only [if_pos h0, if_pos (show (takeNum b p).2 < 0 ∨ _ from Or.inl h0)]
    apply Ev.step
    · intro k; rw [impl_TakeNums.j0]
    exact Ev.now _
  simp only [if_neg h0, impl_in_eq, Option.bind_some]
  by_cases h1 : 0 ≤ (takeNum b p).1 ∧ (takeNum b p).1 ≤ 300
  · rw [if_neg (by intro h; rcases h with h | h; exact h0 h; exact h h1)]
    apply Ev.step
    · intro k; rw [impl_TakeNums.j0]
    simp only [decide_eq_true h1, Bool.not_true, if_neg Bool.false_ne_true]
    exact ev_impl_TakeNums_l0 b hb hl _ h1 _ _ _ 0 (by omega) (by omega) (by simp) (by omega)
  · rw [if_pos (Or.inr h1)]
    apply Ev.step
    · intro k; rw [impl_TakeNums.j0]
    simp only [decide_eq_false h1, Bool.not_false, if_true]
    exact Ev.now _

def cutB (b : List Int) (f n : Int) : ByteArray := strOfNums ((b.take (f + n).toNat).drop f.toNat)
def takeWord (b : List Int) (p : Int) : ByteArray × Int :=
  if 0 ≤ (takeNum b p).2 ∧ 1 ≤ (takeNum b p).1 ∧ (takeNum b p).1 ≤ b.length - (takeNum b p).2 ∧ wordOk (cutB b (takeNum b p).2 (takeNum b p).1) = true
  then (cutB b (takeNum b p).2 (takeNum b p).1, (takeNum b p).2 + (takeNum b p).1) else (⟨#[]⟩, -1)
theorem size_strOf (l : List Int) : (strOfNums l).size = l.length := by
  simp [strOfNums, ByteArray.size]
theorem cutB_size (b : List Int) (f n : Int) (h0 : 0 ≤ f) (h1 : 0 ≤ n) (h2 : f + n ≤ b.length) : (cutB b f n).size = n.toNat := by
  unfold cutB
  rw [size_strOf, List.length_drop, List.length_take]
  omega
theorem wordOk_size {s : ByteArray} (h : wordOk s = true) : 1 ≤ s.size ∧ s.size ≤ 12 := by
  unfold wordOk at h
  simp only [Bool.and_eq_true, decide_eq_true_eq] at h
  exact h.1

theorem ev_impl_TakeWord (b : List Int) (hb : Bytes b) (hl : b.length ≤ 1048576) (p : Int) (hp : p ≤ 9223372036854775807) : Ev (fun k => impl_TakeWord.f k b p) (takeWord b p) := by
  have hr := takeNum_next b p
  have hq := @cutB_size b (takeNum b p).2 (takeNum b p).1
  simp only [impl_TakeWord.f, impl_in_eq, Option.bind_some]
  refine Ev.bind (ev_impl_TakeNum b hb hl p hp) ?_
  refine Ev_ite (fun h0 => ?_) (fun h0 => ?_)
  · unfold takeWord; rw [if_neg (by omega)]; exact Ev.now _
  have hn : -1000000 ≤ (takeNum b p).1 ∧ (takeNum b p).1 ≤ 1000000 := by
    rcases hr with h | h
    · omega
    · simpa [isNumB] using h.2.2.2.2
  rw [w64 (x := (b.length : Int) - (takeNum b p).2) (by omega)]
  refine Ev_ite (fun h1 => ?_) (fun h1 => ?_)
  · have h1' : 1 ≤ (takeNum b p).1 ∧ (takeNum b p).1 ≤ (b.length : Int) - (takeNum b p).2 := by simpa using h1
    simp only [w64 (x := (takeNum b p).2 + (takeNum b p).1) (by omega), if_pos (show 0 ≤ (takeNum b p).2 by omega), if_pos (show (takeNum b p).2 ≤ (takeNum b p).2 + (takeNum b p).1 by omega), if_pos (show (takeNum b p).2 + (takeNum b p).1 ≤ b.length by omega)]
    have hz := hq (by omega) (by omega) (by omega)
    refine Ev.bind (ev_impl_WordOk (cutB b (takeNum b p).2 (takeNum b p).1) (by omega)) ?_
    refine Ev_ite (fun h3 => ?_) (fun h3 => ?_)
    · unfold takeWord; rw [if_pos ⟨by omega, by omega, by omega, h3⟩]; exact Ev.now _
    · unfold takeWord; rw [if_neg (fun h => h3 h.2.2.2)]; exact Ev.now _
  · have h1' : ¬ (1 ≤ (takeNum b p).1 ∧ (takeNum b p).1 ≤ (b.length : Int) - (takeNum b p).2) := by simpa using h1
    unfold takeWord; rw [if_neg (by omega)]; exact Ev.now _

theorem ev_impl_takeAll_l0 (b : List Int) (hb : Bytes b) (hl : b.length ≤ 1048576) (m : Int) (hm : 0 ≤ m ∧ m ≤ 300) : ∀ (d : Nat) (acc : List Int) (p i : Int), 0 ≤ i → i + d = m → acc.length = i → p ≤ 9223372036854775807 → Ev (fun k => impl_takeAll.l0 k b p acc m i) (numsFrom b d acc p) := by
  intro d
  induction d with
  | zero =>
    intro acc p i h0 h1 h2 h3
    apply Ev.step
    · intro k; rw [impl_takeAll.l0]
    simp only [if_neg (show ¬ i < m by omega)]
    exact Ev.now _
  | succ d ih =>
    intro acc p i h0 h1 h2 h3
    have hn := takeNum_lo b p
    apply Ev.step
    · intro k; rw [impl_takeAll.l0]
    simp only [if_pos (show i < m by omega)]
    refine Ev.bind (ev_impl_TakeNum b hb hl p (by omega)) ?_
    rw [numsFrom]
    by_cases h4 : (takeNum b p).2 < 0
    · simp only [if_pos h4]; exact Ev.now _
    · simp only [if_neg h4, if_pos (show acc.length < 17592186044416 by omega), w64 (x := i + 1) (by omega)]
      exact ih _ _ _ (by omega) (by omega) (by simp; omega) (by omega)
theorem ev_impl_takeAll (b : List Int) (hb : Bytes b) (hl : b.length ≤ 1048576) (p : Int) (hp : p ≤ 9223372036854775807) (m : Nat) (hm : m ≤ 300) : Ev (fun k => impl_takeAll.f k b p (m : Int)) (numsFrom b m [] p) := by
  simp only [impl_takeAll.f]
  exact ev_impl_takeAll_l0 b hb hl m (by omega) m [] p 0 (by omega) (by omega) rfl hp

abbrev NodeT := Int × ByteArray × Int × Int × Int × Bool × List Int × Int
def zeroT : NodeT := (0, (⟨#[]⟩ : ByteArray), 0, 0, 0, false, ([] : List Int), -1)
/-- The reader's next number: where it has failed it stays where it is. -/
def nx (b : List Int) (a : Int) (f : Bool) : Int × Int × Bool := if f = true then (0, a, true) else if (takeNum b a).2 < 0 then (0, a, true) else ((takeNum b a).1, (takeNum b a).2, false)
def nxSlot (b : List Int) (a : Int) (f : Bool) : Bool × Int × Bool := (decide ((nx b a f).1 = 1), (nx b a f).2.1, if decide (0 ≤ (nx b a f).1 ∧ (nx b a f).1 ≤ 1) = true then (nx b a f).2.2 else true)
def finN (bad : Bool) (q : Int) (x0 : Int) (x1 : ByteArray) (x2 x3 x4 : Int) (x5 : Bool) (x6 : List Int) : NodeT := if bad = true then zeroT else if nodeOk x0 x1 x2 x3 x4 x5 x6 = true then (x0, x1, x2, x3, x4, x5, x6, q) else zeroT
def emptyB : ByteArray := ⟨#[]⟩
def takeG1 (b : List Int) (x0 : Int) (p : Int × Int × Bool) : NodeT :=
  (fun q : Int × Int × Bool => (fun s : Bool × Int × Bool => (fun v : Int × Int × Bool => finN v.2.2 v.2.1 x0 (⟨#[]⟩ : ByteArray) p.1 q.1 v.1 s.1 []) (nx b s.2.1 s.2.2)) (nxSlot b q.2.1 q.2.2)) (nx b p.2.1 p.2.2)
def takeG3 (b : List Int) (x0 : Int) (p : Int × Int × Bool) : NodeT := (fun q : Int × Int × Bool => finN q.2.2 q.2.1 x0 (⟨#[]⟩ : ByteArray) p.1 0 q.1 false []) (nx b p.2.1 p.2.2)
def takeG5 (x0 : Int) (p : Int × Int × Bool) : NodeT := finN p.2.2 p.2.1 x0 (⟨#[]⟩ : ByteArray) p.1 0 0 false []
def takeG6 (b : List Int) (x0 : Int) (s : Bool × Int × Bool) : NodeT := (fun v : Int × Int × Bool => finN v.2.2 v.2.1 x0 (⟨#[]⟩ : ByteArray) 0 0 v.1 s.1 []) (nx b s.2.1 s.2.2)
def takeG (b : List Int) (x0 a : Int) : NodeT :=
  if x0 = 0 then (if (takeWord b a).2 < 0 then zeroT else finN false (takeWord b a).2 x0 (takeWord b a).1 0 0 0 false [])
  else if x0 = 1 then takeG1 b x0 (nx b a false)
  else if x0 = 2 then (if (takeNums b a).2 < 0 then zeroT else finN false (takeNums b a).2 x0 (⟨#[]⟩ : ByteArray) 0 0 0 false (takeNums b a).1)
  else if x0 = 3 then takeG3 b x0 (nx b a false)
  else if x0 = 5 then takeG5 x0 (nx b a false)
  else if x0 = 6 then takeG6 b x0 (nxSlot b a false)
  else finN false a x0 (⟨#[]⟩ : ByteArray) 0 0 0 false []
def takeNode (b : List Int) (p : Int) : NodeT := if (takeNum b p).2 < 0 then zeroT else takeG b (takeNum b p).1 (takeNum b p).2
def slotN (q sl x0 : Int) (x1 : ByteArray) (x2 x3 x4 : Int) (x6 : List Int) : NodeT :=
  if q < 0 then zeroT else if decide (0 ≤ sl ∧ sl ≤ 1) = true then (if nodeOk x0 x1 x2 x3 x4 (sl == 1) x6 = true then (x0, x1, x2, x3, x4, sl == 1, x6, q) else zeroT) else zeroT
theorem slotN_0 (q x0 : Int) (x1 : ByteArray) (x2 x3 x4 : Int) (x6 : List Int) : slotN q 0 x0 x1 x2 x3 x4 x6 = if q < 0 then zeroT else finN false q x0 x1 x2 x3 x4 false x6 := by
  unfold slotN finN
  simp
theorem emptyB_eq : (⟨#[]⟩ : ByteArray).size = 0 := rfl
theorem finN_next {bad : Bool} {q x0 : Int} {x1 : ByteArray} {x2 x3 x4 : Int} {x5 : Bool} {x6 : List Int} (h : 0 ≤ (finN bad q x0 x1 x2 x3 x4 x5 x6).2.2.2.2.2.2.2) : bad = false ∧ nodeOk x0 x1 x2 x3 x4 x5 x6 = true ∧ finN bad q x0 x1 x2 x3 x4 x5 x6 = (x0, x1, x2, x3, x4, x5, x6, q) := by
  unfold finN at h ⊢
  cases bad with
  | true => simp [zeroT] at h
  | false =>
    by_cases hn : nodeOk x0 x1 x2 x3 x4 x5 x6 = true
    · simp [hn]
    · simp [hn, zeroT] at h
/-- What a taken node is like, and where it ends. -/
def NodeFit (b : List Int) (r : NodeT) : Prop := r.2.2.2.2.2.2.2 < 0 ∨ (0 ≤ r.2.2.2.2.2.2.2 ∧ r.2.2.2.2.2.2.2 ≤ b.length ∧ r.2.1.size ≤ 12 ∧ r.2.2.2.2.2.2.1.length ≤ 300)
theorem fit_zero (b : List Int) : NodeFit b zeroT := .inl (by simp [zeroT])
theorem fit_fin {b : List Int} {bad : Bool} {q x0 : Int} {x1 : ByteArray} {x2 x3 x4 : Int} {x5 : Bool} {x6 : List Int} (hq : bad = false → 0 ≤ q ∧ q ≤ b.length) (h1 : x1.size ≤ 12) (h6 : x6.length ≤ 300) : NodeFit b (finN bad q x0 x1 x2 x3 x4 x5 x6) := by
  unfold finN
  split
  · exact fit_zero b
  · rename_i hb
    have := hq (by simpa using hb)
    split
    · exact .inr ⟨this.1, this.2, h1, h6⟩
    · exact fit_zero b
theorem nx_fit (b : List Int) (a : Int) (f : Bool) : (nx b a f).2.2 = false → 0 ≤ (nx b a f).2.1 ∧ (nx b a f).2.1 ≤ b.length := by
  have h := takeNum_lo b a
  unfold nx
  split
  · intro h; cases h
  split
  · intro h; cases h
  · intro _; simp only; omega
theorem takeWord_fit (b : List Int) (p : Int) : (takeWord b p).2 ≤ b.length ∧ (takeWord b p).1.size ≤ 12 := by
  unfold takeWord
  split
  · rename_i h; exact ⟨by simp only; omega, (wordOk_size h.2.2.2).2⟩
  · exact ⟨by simp only; omega, Nat.zero_le _⟩
theorem numsFrom_fit (b : List Int) : ∀ (n : Nat) (acc : List Int) (p : Int), p ≤ b.length → (numsFrom b n acc p).2 ≤ b.length
  | 0, acc, p, h => h
  | n + 1, acc, p, h => by
    unfold numsFrom
    split
    · simp only; omega
    · exact numsFrom_fit b n _ _ (takeNum_lo b p).2
theorem takeNums_fit (b : List Int) (p : Int) : (takeNums b p).2 ≤ b.length := by
  unfold takeNums
  split
  · simp only; omega
  · exact numsFrom_fit b _ _ _ (takeNum_lo b p).2
theorem takeNode_fit (b : List Int) (p : Int) : NodeFit b (takeNode b p) := by
  have hn := takeNum_lo b p
  unfold takeNode
  split
  · exact fit_zero b
  rename_i hp
  generalize (takeNum b p).1 = x0
  have ha : 0 ≤ (takeNum b p).2 ∧ (takeNum b p).2 ≤ b.length := by omega
  clear hn hp
  generalize (takeNum b p).2 = a at *
  unfold takeG
  split
  · have h1 := takeWord_fit b a
    split
    · exact fit_zero b
    · rename_i hw
      exact fit_fin (fun _ => by omega) h1.2 (by simp)
  split
  · unfold takeG1
    exact fit_fin (nx_fit b _ _) (by simp [emptyB_eq]) (by simp)
  split
  · have h1 := takeNums_fit b a
    split
    · exact fit_zero b
    · exact fit_fin (fun _ => by omega) (by simp [emptyB_eq]) (takeNums_len b a)
  split
  · unfold takeG3
    exact fit_fin (nx_fit b _ _) (by simp [emptyB_eq]) (by simp)
  split
  · unfold takeG5
    exact fit_fin (nx_fit b _ _) (by simp [emptyB_eq]) (by simp)
  split
  · unfold takeG6
    exact fit_fin (nx_fit b _ _) (by simp [emptyB_eq]) (by simp)
  · exact fit_fin (fun _ => ha) (by simp [emptyB_eq]) (by simp)

theorem beq_dec (a b : Int) : (a == b) = decide (a = b) := by
  by_cases h : a = b <;> simp [h]
theorem nums4 (b : List Int) (x0 a : Int) : (if (numsFrom b 4 [] a).2 ≥ 0 then (if 0 < ((numsFrom b 4 [] a).1.length : Int) ∧ 1 < ((numsFrom b 4 [] a).1.length : Int) ∧ 2 < ((numsFrom b 4 [] a).1.length : Int) ∧ 3 < ((numsFrom b 4 [] a).1.length : Int) then some (slotN (numsFrom b 4 [] a).2 (rd (numsFrom b 4 [] a).1 2) x0 (⟨#[]⟩ : ByteArray) (rd (numsFrom b 4 [] a).1 0) (rd (numsFrom b 4 [] a).1 1) (rd (numsFrom b 4 [] a).1 3) []) else none) else some (slotN (numsFrom b 4 [] a).2 0 x0 (⟨#[]⟩ : ByteArray) 0 0 0 [])) = some (takeG1 b x0 (nx b a false)) := by
  have k1 := takeNum_lo b a
  simp only [numsFrom, List.nil_append, List.singleton_append, List.cons_append]
  unfold takeG1
  by_cases h1 : (takeNum b a).2 < 0
  · simp [nx, nxSlot, h1, slotN, finN]
  simp only [if_neg h1, nx, nxSlot, if_neg Bool.false_ne_true]
  generalize takeNum b a = T1 at *
  have k2 := takeNum_lo b T1.2
  by_cases h2 : (takeNum b T1.2).2 < 0
  · simp [h2, slotN, finN]
  simp only [if_neg h2, if_neg Bool.false_ne_true]
  generalize takeNum b T1.2 = T2 at *
  have k3 := takeNum_lo b T2.2
  by_cases h3 : (takeNum b T2.2).2 < 0
  · simp [h3, slotN, finN]
  simp only [if_neg h3, if_neg Bool.false_ne_true]
  generalize takeNum b T2.2 = T3 at *
  have k4 := takeNum_lo b T3.2
  by_cases hs : 0 ≤ T3.1 ∧ T3.1 ≤ 1
  · simp only [decide_eq_true hs, if_true, if_neg Bool.false_ne_true]
    by_cases h4 : (takeNum b T3.2).2 < 0
    · simp [h4, slotN, finN]
    simp only [if_neg h4]
    generalize takeNum b T3.2 = T4 at *
    rw [if_pos (show T4.2 ≥ 0 by omega)]
    simp [slotN, finN, h4, hs, rd, beq_dec]
  · simp only [decide_eq_false hs, if_neg Bool.false_ne_true, if_true]
    by_cases h4 : (takeNum b T3.2).2 < 0
    · simp [h4, slotN, finN]
    simp only [if_neg h4]
    generalize takeNum b T3.2 = T4 at *
    rw [if_pos (show T4.2 ≥ 0 by omega)]
    simp [slotN, finN, h4, hs, rd]
theorem nums2 (b : List Int) (x0 a : Int) : (if (numsFrom b 2 [] a).2 ≥ 0 then (if 0 < ((numsFrom b 2 [] a).1.length : Int) ∧ 1 < ((numsFrom b 2 [] a).1.length : Int) then some (slotN (numsFrom b 2 [] a).2 0 x0 (⟨#[]⟩ : ByteArray) (rd (numsFrom b 2 [] a).1 0) 0 (rd (numsFrom b 2 [] a).1 1) []) else none) else some (slotN (numsFrom b 2 [] a).2 0 x0 (⟨#[]⟩ : ByteArray) 0 0 0 [])) = some (takeG3 b x0 (nx b a false)) := by
  have k1 := takeNum_lo b a
  simp only [numsFrom, List.nil_append, List.singleton_append, List.cons_append]
  unfold takeG3
  by_cases h1 : (takeNum b a).2 < 0
  · simp [nx, h1, slotN, finN]
  simp only [if_neg h1, nx, if_neg Bool.false_ne_true]
  generalize takeNum b a = T1 at *
  have k2 := takeNum_lo b T1.2
  by_cases h2 : (takeNum b T1.2).2 < 0
  · simp [h2, slotN, finN]
  simp only [if_neg h2]
  generalize takeNum b T1.2 = T2 at *
  rw [if_pos (show T2.2 ≥ 0 by omega)]
  simp [slotN, finN, h2, rd]
theorem nums2s (b : List Int) (x0 a : Int) : (if (numsFrom b 2 [] a).2 ≥ 0 then (if 0 < ((numsFrom b 2 [] a).1.length : Int) ∧ 1 < ((numsFrom b 2 [] a).1.length : Int) then some (slotN (numsFrom b 2 [] a).2 (rd (numsFrom b 2 [] a).1 0) x0 (⟨#[]⟩ : ByteArray) 0 0 (rd (numsFrom b 2 [] a).1 1) []) else none) else some (slotN (numsFrom b 2 [] a).2 0 x0 (⟨#[]⟩ : ByteArray) 0 0 0 [])) = some (takeG6 b x0 (nxSlot b a false)) := by
  have k1 := takeNum_lo b a
  simp only [numsFrom, List.nil_append, List.singleton_append, List.cons_append]
  unfold takeG6
  by_cases h1 : (takeNum b a).2 < 0
  · simp [nx, nxSlot, h1, slotN, finN]
  simp only [if_neg h1, nx, nxSlot, if_neg Bool.false_ne_true]
  generalize takeNum b a = T1 at *
  have k2 := takeNum_lo b T1.2
  by_cases hs : 0 ≤ T1.1 ∧ T1.1 ≤ 1
  · simp only [decide_eq_true hs, if_true, if_neg Bool.false_ne_true]
    by_cases h2 : (takeNum b T1.2).2 < 0
    · simp [h2, slotN, finN]
    simp only [if_neg h2]
    generalize takeNum b T1.2 = T2 at *
    rw [if_pos (show T2.2 ≥ 0 by omega)]
    simp [slotN, finN, h2, hs, rd, beq_dec]
  · simp only [decide_eq_false hs, if_neg Bool.false_ne_true, if_true]
    by_cases h2 : (takeNum b T1.2).2 < 0
    · simp [h2, slotN, finN]
    simp only [if_neg h2]
    generalize takeNum b T1.2 = T2 at *
    rw [if_pos (show T2.2 ≥ 0 by omega)]
    simp [slotN, finN, h2, hs, rd]

theorem ev_impl_TakeNode_j0 (q sl x0 : Int) (x1 : ByteArray) (x2 x3 x4 : Int) (x6 : List Int) (h1 : x1.size ≤ 12) (h6 : x6.length ≤ 300) : Ev (fun k => impl_TakeNode.j0 k q sl x0 x1 x2 x3 x4 false x6) (slotN q sl x0 x1 x2 x3 x4 x6) := by
  apply Ev.step
  · intro k; rw [impl_TakeNode.j0]
  unfold slotN
  refine Ev_ite (fun h => ?_) (fun h => ?_)
  · rw [if_pos h]; exact Ev.now _
  · rw [if_neg h]
    simp only [impl_in_eq, Option.bind_some]
    refine Ev_ite (fun h => ?_) (fun h => ?_)
    · rw [if_pos h]
      refine Ev.bind (ev_impl_NodeOk x0 x1 x2 x3 x4 (sl == 1) x6 (by omega) (by omega)) ?_
      refine Ev_ite (fun h2 => ?_) (fun h2 => ?_)
      · rw [if_pos h2]; exact Ev.now _
      · rw [if_neg h2]; exact Ev.now _
    · rw [if_neg h]; exact Ev.now _
theorem ev_impl_TakeNode (b : List Int) (hb : Bytes b) (hl : b.length ≤ 1048576) (p : Int) (hp : p ≤ 9223372036854775807) : Ev (fun k => impl_TakeNode.f k b p) (takeNode b p) := by
  have hn := takeNum_lo b p
  have he : (⟨#[]⟩ : ByteArray).size ≤ 12 := by rw [emptyB_eq]; omega
  simp only [impl_TakeNode.f]
  refine Ev.bind (ev_impl_TakeNum b hb hl p hp) ?_
  unfold takeNode
  refine Ev_ite (fun h => ?_) (fun h => ?_)
  · rw [if_pos h]; exact Ev.now _
  rw [if_neg h]
  unfold takeG
  generalize (takeNum b p).1 = x0 at *
  have ha : 0 ≤ (takeNum b p).2 ∧ (takeNum b p).2 ≤ b.length := by omega
  clear hn h
  generalize (takeNum b p).2 = a at *
  refine Ev_ite (fun h => ?_) (fun h => ?_)
  · rw [if_pos h]
    refine Ev.bind (ev_impl_TakeWord b hb hl a (by omega)) ?_
    refine Ev.eq (ev_impl_TakeNode_j0 (takeWord b a).2 0 x0 (takeWord b a).1 0 0 0 [] (takeWord_fit b a).2 (by simp)) ?_
    rw [slotN_0]
  rw [if_neg h]
  refine Ev_ite (fun h => ?_) (fun h => ?_)
  · rw [if_pos h]
    have h4 := nums4 b x0 a
    refine Ev.bind (ev_impl_takeAll b hb hl a (by omega) 4 (by omega)) ?_
    generalize numsFrom b 4 [] a = r at h4 ⊢
    by_cases c : r.2 ≥ 0
    · rw [if_pos c] at h4
      simp only [if_pos c]
      by_cases c2 : 0 < (r.1.length : Int) ∧ 1 < (r.1.length : Int) ∧ 2 < (r.1.length : Int) ∧ 3 < (r.1.length : Int)
      · rw [if_pos c2] at h4
        simp only [if_pos c2.1, if_pos c2.2.1, if_pos c2.2.2.1, if_pos c2.2.2.2]
        exact Ev.eq (ev_impl_TakeNode_j0 _ _ _ _ _ _ _ _ he (by simp)) (Option.some.inj h4)
      · rw [if_neg c2] at h4; cases h4
    · rw [if_neg c] at h4
      simp only [if_neg c]
      exact Ev.eq (ev_impl_TakeNode_j0 _ _ _ _ _ _ _ _ he (by simp)) (Option.some.inj h4)
  rw [if_neg h]
  refine Ev_ite (fun h => ?_) (fun h => ?_)
  · rw [if_pos h]
    refine Ev.bind (ev_impl_TakeNums b hb hl a (by omega)) ?_
    refine Ev.eq (ev_impl_TakeNode_j0 (takeNums b a).2 0 x0 (⟨#[]⟩ : ByteArray) 0 0 0 (takeNums b a).1 he (takeNums_len b a)) ?_
    rw [slotN_0]
  rw [if_neg h]
  refine Ev_ite (fun h => ?_) (fun h => ?_)
  · rw [if_pos h]
    have h4 := nums2 b x0 a
    refine Ev.bind (ev_impl_takeAll b hb hl a (by omega) 2 (by omega)) ?_
    generalize numsFrom b 2 [] a = r at h4 ⊢
    by_cases c : r.2 ≥ 0
    · rw [if_pos c] at h4
      simp only [if_pos c]
      by_cases c2 : 0 < (r.1.length : Int) ∧ 1 < (r.1.length : Int)
      · rw [if_pos c2] at h4
        simp only [if_pos c2.1, if_pos c2.2]
        exact Ev.eq (ev_impl_TakeNode_j0 _ _ _ _ _ _ _ _ he (by simp)) (Option.some.inj h4)
      · rw [if_neg c2] at h4; cases h4
    · rw [if_neg c] at h4
      simp only [if_neg c]
      exact Ev.eq (ev_impl_TakeNode_j0 _ _ _ _ _ _ _ _ he (by simp)) (Option.some.inj h4)
  rw [if_neg h]
  refine Ev_ite (fun h => ?_) (fun h => ?_)
  · rw [if_pos h]
    refine Ev.bind (ev_impl_TakeNum b hb hl a (by omega)) ?_
    refine Ev.eq (ev_impl_TakeNode_j0 (takeNum b a).2 0 x0 (⟨#[]⟩ : ByteArray) (takeNum b a).1 0 0 [] he (by simp)) ?_
    rw [slotN_0]
    unfold takeG5 nx
    rw [if_neg Bool.false_ne_true]
    by_cases c : (takeNum b a).2 < 0
    · simp only [if_pos c, finN, if_true]
    · simp only [if_neg c]
  rw [if_neg h]
  refine Ev_ite (fun h => ?_) (fun h => ?_)
  · rw [if_pos h]
    have h4 := nums2s b x0 a
    refine Ev.bind (ev_impl_takeAll b hb hl a (by omega) 2 (by omega)) ?_
    generalize numsFrom b 2 [] a = r at h4 ⊢
    by_cases c : r.2 ≥ 0
    · rw [if_pos c] at h4
      simp only [if_pos c]
      by_cases c2 : 0 < (r.1.length : Int) ∧ 1 < (r.1.length : Int)
      · rw [if_pos c2] at h4
        simp only [if_pos c2.1, if_pos c2.2]
        exact Ev.eq (ev_impl_TakeNode_j0 _ _ _ _ _ _ _ _ he (by simp)) (Option.some.inj h4)
      · rw [if_neg c2] at h4; cases h4
    · rw [if_neg c] at h4
      simp only [if_neg c]
      exact Ev.eq (ev_impl_TakeNode_j0 _ _ _ _ _ _ _ _ he (by simp)) (Option.some.inj h4)
  rw [if_neg h]
  refine Ev.eq (ev_impl_TakeNode_j0 a 0 x0 (⟨#[]⟩ : ByteArray) 0 0 0 [] he (by simp)) ?_
  rw [slotN_0, if_neg (by omega)]

def frameB (b : List Int) : List Int := [80, 83] ++ (putNum b.length ++ (b ++ putNum (checkOf b)))
def frame (b : List Int) : List Int × Bool := if b.length ≤ 4000 then (frameB b, true) else ([], false)
theorem Bytes_app {a b : List Int} (ha : Bytes a) (hb : Bytes b) : Bytes (a ++ b) := fun x hx => (List.mem_append.1 hx).elim (ha x) (hb x)
theorem Bytes_put (x : Int) : Bytes (putNum x) := putNum_range x
theorem Bytes_nil : Bytes [] := fun x hx => by cases hx
theorem frameB_length (b : List Int) : (frameB b).length ≤ b.length + 8 := by
  have := putNum_length (b.length : Int)
  have := putNum_length (checkOf b)
  simp [frameB]; omega
theorem frame_length (b : List Int) : (frame b).1.length ≤ b.length + 8 := by
  unfold frame
  split
  · exact frameB_length b
  · simp
theorem checkOf_num (b : List Int) : isNumB (checkOf b) = true := by
  have := checkTo_range b b.length
  show decide _ = true
  rw [decide_eq_true_eq]
  unfold checkOf
  omega

/-! A number that is read is written so, one way alone. -/
theorem rd_app (a l : List Int) (j : Nat) : rd (a ++ l) ((a.length + j : Nat) : Int) = rd l (j : Int) := by
  show (a ++ l).getD ((a.length + j : Nat) : Int).toNat 0 = l.getD ((j : Nat) : Int).toNat 0
  rw [Int.toNat_natCast, Int.toNat_natCast, List.getD_eq_getElem?_getD, List.getD_eq_getElem?_getD, List.getElem?_append_right (by omega), Nat.add_sub_cancel_left]
theorem rd_cons0 (x : Int) (l : List Int) : rd (x :: l) 0 = x := rfl
theorem rd_cons1 (x y : Int) (l : List Int) : rd (x :: y :: l) 1 = y := rfl
theorem rd_cons2 (x y z : Int) (l : List Int) : rd (x :: y :: z :: l) 2 = z := rfl
theorem unzig {x : Int} (h : isNumB x = true) : (if zig x % 2 = 1 then -((zig x + 1) / 2) else zig x / 2) = x := by
  unfold zig
  split <;> split <;> omega
theorem takeFin_zig {x : Int} (h : isNumB x = true) (v i p : Int) (hv : v ≠ 0 ∨ i ≤ 0) : takeFin (zig x) v i p = (x, p + i + 1) := by
  unfold takeFin
  rw [unzig h, if_neg (by rw [h]; simp; omega)]
theorem rd_app0 (a l : List Int) : rd (a ++ l) (a.length : Int) = rd l 0 := by
  have := rd_app a l 0
  simpa using this
theorem rd_app1 (a l : List Int) : rd (a ++ l) ((a.length : Int) + 1) = rd l 1 := rd_app a l 1
theorem rd_app2 (a l : List Int) : rd (a ++ l) ((a.length : Int) + 2) = rd l 2 := rd_app a l 2
theorem takeNum_put (a r : List Int) (x : Int) (h : isNumB x = true) : takeNum (a ++ (putNum x ++ r)) (a.length : Int) = (x, (a.length : Int) + (putNum x).length) := by
  have hz := zig_range h
  have hl : ((a ++ (putNum x ++ r)).length : Int) = a.length + (putNum x).length + r.length := by simp only [List.length_append]; omega
  unfold takeNum
  rw [rd_app0, rd_app1, rd_app2, hl]
  by_cases c1 : zig x < 128
  · have e : putNum x = [zig x] := by unfold putNum groups; rw [if_pos h, if_pos c1]
    have el : (putNum x).length = 1 := by rw [e]; rfl
    have q0 : rd (putNum x ++ r) 0 = zig x := by rw [e]; rfl
    rw [q0, if_neg (by omega), if_pos c1, takeFin_zig h _ _ _ (.inr (by omega))]
    exact congrArg (Prod.mk x) (by omega)
  by_cases c2 : zig x < 16384
  · have e : putNum x = [zig x % 128 + 128, zig x / 128] := by unfold putNum groups; rw [if_pos h, if_neg c1, if_pos c2]
    have el : (putNum x).length = 2 := by rw [e]; rfl
    have q0 : rd (putNum x ++ r) 0 = zig x % 128 + 128 := by rw [e]; rfl
    have q1 : rd (putNum x ++ r) 1 = zig x / 128 := by rw [e]; rfl
    rw [q0, q1, if_neg (by omega), if_neg (by omega), if_neg (by omega), if_pos (by omega), show (zig x % 128 + 128) % 128 + zig x / 128 * 128 = zig x by omega, takeFin_zig h _ _ _ (.inl (by omega))]
    exact congrArg (Prod.mk x) (by omega)
  · have e : putNum x = [zig x % 128 + 128, zig x / 128 % 128 + 128, zig x / 16384] := by unfold putNum groups; rw [if_pos h, if_neg c1, if_neg c2]
    have el : (putNum x).length = 3 := by rw [e]; rfl
    have q0 : rd (putNum x ++ r) 0 = zig x % 128 + 128 := by rw [e]; rfl
    have q1 : rd (putNum x ++ r) 1 = zig x / 128 % 128 + 128 := by rw [e]; rfl
    have q2 : rd (putNum x ++ r) 2 = zig x / 16384 := by rw [e]; rfl
    rw [q0, q1, q2, if_neg (by omega), if_neg (by omega), if_neg (by omega), if_neg (by omega), if_neg (by omega), if_pos (by omega), show (zig x % 128 + 128) % 128 + (zig x / 128 % 128 + 128) % 128 * 128 + zig x / 16384 * 16384 = zig x by omega, takeFin_zig h _ _ _ (.inl (by omega))]
    exact congrArg (Prod.mk x) (by omega)
theorem zig_un {u x : Int} (h0 : 0 ≤ u) (hx : x = if u % 2 = 1 then -((u + 1) / 2) else u / 2) : zig x = u := by
  unfold zig
  subst hx
  split <;> split <;> omega
theorem takeFin_some {u v i p x q : Int} (h : takeFin u v i p = (x, q)) (hq : 0 ≤ q) : isNumB x = true ∧ (x = if u % 2 = 1 then -((u + 1) / 2) else u / 2) ∧ q = p + i + 1 ∧ (v ≠ 0 ∨ i ≤ 0) := by
  unfold takeFin at h
  by_cases c : (v = 0 ∧ 0 < i) ∨ isNumB (if u % 2 = 1 then -((u + 1) / 2) else u / 2) = false
  · rw [if_pos c] at h
    injection h with h1 h2
    omega
  · rw [if_neg c] at h
    injection h with h1 h2
    subst h1
    simp only [not_or, Bool.not_eq_false] at c
    exact ⟨c.2, rfl, h2.symm, by have := c.1; omega⟩
theorem seg1 (b : List Int) (p : Nat) (h : p < b.length) : (b.take (p + 1)).drop p = [rd b p] := by
  rw [List.drop_take, drop_rd b p h, show p + 1 - p = 1 by omega]; rfl
theorem seg2 (b : List Int) (p : Nat) (h : p + 1 < b.length) : (b.take (p + 2)).drop p = [rd b p, rd b ((p : Int) + 1)] := by
  rw [List.drop_take, drop_rd b p (by omega), drop_rd b (p + 1) h, show p + 2 - p = 2 by omega]
  simp
theorem seg3 (b : List Int) (p : Nat) (h : p + 2 < b.length) : (b.take (p + 3)).drop p = [rd b p, rd b ((p : Int) + 1), rd b ((p : Int) + 2)] := by
  rw [List.drop_take, drop_rd b p (by omega), drop_rd b (p + 1) (by omega), drop_rd b (p + 2) h, show p + 3 - p = 3 by omega]
  simp
theorem takeNum_canon (b : List Int) (hb : Bytes b) (p : Nat) {x q : Int} (h : takeNum b (p : Int) = (x, q)) (hq : 0 ≤ q) : (b.take q.toNat).drop p = putNum x ∧ isNumB x = true := by
  have b0 := Bytes_rd hb (p : Int)
  have b1 := Bytes_rd hb ((p : Int) + 1)
  have b2 := Bytes_rd hb ((p : Int) + 2)
  have neg : ∀ {y : Int × Int}, y = (0, -1) → y = (x, q) → False := fun e1 e2 => by
    rw [e1] at e2
    injection e2 with _ e3
    omega
  unfold takeNum at h
  by_cases c0 : (p : Int) < 0 ∨ (b.length : Int) ≤ p
  · rw [if_pos c0] at h; exact (neg rfl h).elim
  rw [if_neg c0] at h
  by_cases c1 : rd b (p : Int) < 128
  · rw [if_pos c1] at h
    obtain ⟨g1, g2, g3, _⟩ := takeFin_some h hq
    have hz := zig_un b0.1 g2
    refine ⟨?_, g1⟩
    rw [show q.toNat = p + 1 by omega, seg1 b p (by omega), putNum, if_pos g1, groups, hz, if_pos c1]
  rw [if_neg c1] at h
  by_cases c2 : (b.length : Int) ≤ (p : Int) + 1
  · rw [if_pos c2] at h; exact (neg rfl h).elim
  rw [if_neg c2] at h
  by_cases c3 : rd b ((p : Int) + 1) < 128
  · rw [if_pos c3] at h
    obtain ⟨g1, g2, g3, g4⟩ := takeFin_some h hq
    have hz := zig_un (by omega) g2
    refine ⟨?_, g1⟩
    rw [show q.toNat = p + 2 by omega, seg2 b p (by omega), putNum, if_pos g1, groups, hz, if_neg (by omega), if_pos (by omega)]
    congr 1
    · omega
    · congr 1; omega
  rw [if_neg c3] at h
  by_cases c4 : (b.length : Int) ≤ (p : Int) + 2
  · rw [if_pos c4] at h; exact (neg rfl h).elim
  rw [if_neg c4] at h
  by_cases c5 : rd b ((p : Int) + 2) < 128
  · rw [if_pos c5] at h
    obtain ⟨g1, g2, g3, g4⟩ := takeFin_some h hq
    have hz := zig_un (by omega) g2
    refine ⟨?_, g1⟩
    rw [show q.toNat = p + 3 by omega, seg3 b p (by omega), putNum, if_pos g1, groups, hz, if_neg (by omega), if_neg (by omega)]
    congr 1
    · omega
    · congr 1
      · omega
      · congr 1; omega
  · rw [if_neg c5] at h; exact (neg rfl h).elim

def bodyF (b : List Int) : List Int := (b.take ((takeNum b 2).2 + (takeNum b 2).1).toNat).drop (takeNum b 2).2.toNat
def unOk (b : List Int) : Bool := decide (b.take 2 = [80, 83] ∧ 0 ≤ (takeNum b 2).2 ∧ 0 ≤ (takeNum b 2).1 ∧ (takeNum b 2).1 ≤ 4000 ∧ (takeNum b 2).1 ≤ (b.length : Int) - (takeNum b 2).2 ∧ frameB (bodyF b) = b)
def unframe (b : List Int) : List Int × Bool := if unOk b = true then (bodyF b, true) else ([], false)
theorem bodyF_length {b : List Int} (h0 : 0 ≤ (takeNum b 2).2) (h1 : 0 ≤ (takeNum b 2).1) (h2 : (takeNum b 2).1 ≤ (b.length : Int) - (takeNum b 2).2) : ((bodyF b).length : Int) = (takeNum b 2).1 := by
  unfold bodyF
  rw [List.length_drop, List.length_take]
  omega
theorem unframe_length (b : List Int) : (unframe b).1.length ≤ b.length := by
  unfold unframe
  split
  · unfold bodyF; simp; omega
  · simp
theorem Bytes_sub {b : List Int} (hb : Bytes b) (i j : Nat) : Bytes ((b.take j).drop i) := fun x hx => hb x (List.mem_of_mem_take (List.mem_of_mem_drop hx))
theorem Bytes_body {b : List Int} (hb : Bytes b) : Bytes (bodyF b) := Bytes_sub hb _ _
theorem Bytes_unframe {b : List Int} (hb : Bytes b) : Bytes (unframe b).1 := by
  unfold unframe
  split
  · exact Bytes_body hb
  · exact Bytes_nil
theorem parts3 (b : List Int) (i j k : Nat) (h1 : i ≤ j) (h2 : j ≤ k) : b = b.take i ++ ((b.take j).drop i ++ ((b.take k).drop j ++ b.drop k)) := by
  have e : ∀ (u v : Nat), u ≤ v → b.take u ++ (b.take v).drop u = b.take v := fun u v h => by
    have := List.take_append_drop u (b.take v)
    rwa [List.take_take, Nat.min_eq_left h] at this
  rw [← List.append_assoc, e i j h1, ← List.append_assoc, e j k h2, List.take_append_drop]
theorem frame_iff {b : List Int} (hb : Bytes b) (hp : b.take 2 = [80, 83]) (h0 : 0 ≤ (takeNum b 2).2) (h1 : 0 ≤ (takeNum b 2).1) (h2 : (takeNum b 2).1 ≤ (b.length : Int) - (takeNum b 2).2) :
    (takeNum b ((takeNum b 2).2 + (takeNum b 2).1) = (checkOf (bodyF b), (b.length : Int))) ↔ frameB (bodyF b) = b := by
  have hbl := bodyF_length h0 h1 h2
  have hnx := takeNum_next b 2
  have hn : isNumB (takeNum b 2).1 = true := by
    rcases hnx with h | h
    · omega
    · exact h.2.2.2.2
  constructor
  · intro h
    obtain ⟨c1, _⟩ := takeNum_canon b hb 2 (x := (takeNum b 2).1) (q := (takeNum b 2).2) rfl h0
    have h' : takeNum b ((((takeNum b 2).2 + (takeNum b 2).1).toNat : Nat) : Int) = (checkOf (bodyF b), (b.length : Int)) := by
      rw [show (((((takeNum b 2).2 + (takeNum b 2).1).toNat : Nat)) : Int) = (takeNum b 2).2 + (takeNum b 2).1 by omega]; exact h
    obtain ⟨c2, _⟩ := takeNum_canon b hb _ h' (by omega)
    rw [show ((b.length : Int)).toNat = b.length by omega, List.take_length] at c2
    have hps := parts3 b 2 (takeNum b 2).2.toNat ((takeNum b 2).2 + (takeNum b 2).1).toNat (by rcases hnx with h | h <;> omega) (by omega)
    rw [hp, c1, c2] at hps
    unfold frameB
    rw [hbl]
    exact hps.symm
  · intro h
    have e1 := takeNum_put [80, 83] (bodyF b ++ putNum (checkOf (bodyF b))) ((bodyF b).length : Int) (by rw [hbl]; exact hn)
    have e0 : [80, 83] ++ (putNum ((bodyF b).length : Int) ++ (bodyF b ++ putNum (checkOf (bodyF b)))) = b := h
    rw [e0] at e1
    have e1' : takeNum b 2 = (((bodyF b).length : Int), (2 : Int) + ((putNum ((bodyF b).length : Int)).length : Int)) := e1
    have e2 := takeNum_put ([80, 83] ++ (putNum ((bodyF b).length : Int) ++ bodyF b)) [] (checkOf (bodyF b)) (checkOf_num _)
    have e3 : [80, 83] ++ (putNum ((bodyF b).length : Int) ++ bodyF b) ++ (putNum (checkOf (bodyF b)) ++ []) = b := by
      refine Eq.trans ?_ e0
      simp only [List.append_assoc, List.append_nil]
    have hlen : (b.length : Int) = 2 + (putNum ((bodyF b).length : Int)).length + (bodyF b).length + (putNum (checkOf (bodyF b))).length := by
      have := congrArg List.length e0
      simp only [List.length_append, List.length_cons, List.length_nil] at this
      omega
    have hf : (takeNum b 2).2 = 2 + (putNum ((bodyF b).length : Int)).length := by rw [e1']
    have hm : (takeNum b 2).1 = ((bodyF b).length : Int) := hbl.symm
    rw [hf, hm]
    have e4 : takeNum b ((([80, 83] ++ (putNum ((bodyF b).length : Int) ++ bodyF b) : List Int).length : Nat) : Int) = (checkOf (bodyF b), ((([80, 83] ++ (putNum ((bodyF b).length : Int) ++ bodyF b) : List Int).length : Nat) : Int) + (putNum (checkOf (bodyF b))).length) := by
      have := e2
      rwa [e3] at this
    have hl2 : ((([80, 83] ++ (putNum ((bodyF b).length : Int) ++ bodyF b) : List Int).length : Nat) : Int) = 2 + ((putNum ((bodyF b).length : Int)).length : Int) + ((bodyF b).length : Int) := by
      simp only [List.length_append, List.length_cons, List.length_nil]; omega
    rw [hl2] at e4
    rw [e4]
    congr 1
    omega
theorem strOf_inj {a b : List Int} (ha : Bytes a) (hb : Bytes b) : ((strOfNums a).toList == (strOfNums b).toList) = decide (a = b) := by
  have key : ∀ {a b : List Int}, Bytes a → Bytes b → (a.map fun n => UInt8.ofNat n.toNat) = (b.map fun n => UInt8.ofNat n.toNat) → a = b := by
    intro a
    induction a with
    | nil => intro b _ _ h; cases b with | nil => rfl | cons y ys => cases h
    | cons x xs ih =>
      intro b ha hb h
      cases b with
      | nil => cases h
      | cons y ys =>
        rw [List.map_cons, List.map_cons] at h
        injection h with h1 h2
        have hx := ha x List.mem_cons_self
        have hy := hb y List.mem_cons_self
        have h3 : (UInt8.ofNat x.toNat).toNat = (UInt8.ofNat y.toNat).toNat := by rw [h1]
        rw [UInt8.toNat_ofNat', UInt8.toNat_ofNat'] at h3
        rw [ih (fun z hz => ha z (List.mem_cons_of_mem _ hz)) (fun z hz => hb z (List.mem_cons_of_mem _ hz)) h2]
        congr 1
        omega
  rw [Bool.eq_iff_iff, beq_iff_eq, decide_eq_true_eq, Lib.toList_data, Lib.toList_data, strOfNums_data, strOfNums_data]
  exact ⟨key ha hb, fun h => by rw [h]⟩

theorem bytesEq_eq {a b : List Int} (ha : Bytes a) (hb : Bytes b) : bytes_Equal.f a b = some (decide (a = b)) := by
  simp only [bytes_Equal.f, strOf_inj ha hb]

theorem hasPS_eq {b : List Int} (hb : Bytes b) : bytes_HasPrefix.f b [80, 83] = some (decide (b.take 2 = [80, 83])) := by
  unfold bytes_HasPrefix.f
  by_cases h : ([80, 83] : List Int).length ≤ b.length
  · rw [if_pos h, bytesEq_eq (fun x hx => hb x (List.mem_of_mem_take hx)) (fun x hx => by simp at hx; omega)]; rfl
  · rw [if_neg h, decide_eq_false]
    intro e
    have := congrArg List.length e
    simp at this h
    omega

theorem ev_impl_CheckOf_l0 (b : List Int) (hb : Bytes b) (hl : b.length ≤ 1099511627776) : ∀ (d i : Nat), i + d = b.length → Ev (fun k => impl_CheckOf.l0 k (checkTo b i) b (b.length : Int) i) (checkOf b) := by
  intro d
  induction d with
  | zero =>
    intro i h
    obtain rfl : i = b.length := by omega
    apply Ev.step
    · intro k; rw [impl_CheckOf.l0]
    simp only [if_neg (show ¬ ((b.length : Int) < b.length) by omega)]
    exact Ev.now _
  | succ d ih =>
    intro i h
    have ih' := ih (i + 1) (by omega)
    have hc := checkTo_range b i
    have hr := Bytes_rd hb i
    apply Ev.step
    · intro k; rw [impl_CheckOf.l0]
    simp only [if_pos (show (i : Int) < b.length by omega), if_pos (show (0 : Int) ≤ i by omega), w64 (x := (i : Int) + 1) (by omega), w64 (x := rd b i) (by omega), w64 (x := 269 * checkTo b i) (by omega), w64 (x := 269 * checkTo b i + rd b i) (by omega), tmod_nn (show 0 ≤ 269 * checkTo b i + rd b i by omega)]
    exact ih'
theorem ev_impl_CheckOf (b : List Int) (hb : Bytes b) (hl : b.length ≤ 1099511627776) : Ev (fun k => impl_CheckOf.f k b) (checkOf b) :=
  ev_impl_CheckOf_l0 b hb hl b.length 0 (by omega)

theorem ev_impl_PutNum_l0 (n : Int) (h : 0 ≤ n ∧ n < 2097152) : Ev (fun k => impl_PutNum.l0 k n []) (groups n) := by
  unfold groups
  by_cases h1 : n < 128
  · apply Ev.step
    · intro k; rw [impl_PutNum.l0]
    simp only [if_neg (show ¬ n ≥ 128 by omega), if_pos h1, List.length_nil, List.nil_append]
    exact Ev.const (by simp; omega)
  · apply Ev.step
    · intro k; rw [impl_PutNum.l0]
    simp only [if_pos (show n ≥ 128 by omega), if_neg h1, List.length_nil, List.nil_append, tmod_nn h.1, tdiv_nn h.1, w64 (x := n % 128 + 128) (by omega), w64 (x := n / 128) (by omega), show (n % 128 + 128) % 256 = n % 128 + 128 by omega]
    simp only [show (0 : Nat) < 140737488355328 by omega, if_true]
    by_cases h2 : n < 16384
    · apply Ev.step
      · intro k; rw [impl_PutNum.l0]
      simp only [if_neg (show ¬ n / 128 ≥ 128 by omega), if_pos h2, List.length_cons, List.length_nil]
      exact Ev.const (by simp; omega)
    · apply Ev.step
      · intro k; rw [impl_PutNum.l0]
      simp only [if_pos (show n / 128 ≥ 128 by omega), if_neg h2, List.length_cons, List.length_nil, tmod_nn (show 0 ≤ n / 128 by omega), tdiv_nn (show 0 ≤ n / 128 by omega), w64 (x := n / 128 % 128 + 128) (by omega), w64 (x := n / 128 / 128) (by omega), show (n / 128 % 128 + 128) % 256 = n / 128 % 128 + 128 by omega]
      simp only [show (0 + 1 : Nat) < 140737488355328 by omega, if_true, List.cons_append, List.nil_append]
      apply Ev.step
      · intro k; rw [impl_PutNum.l0]
      simp only [if_neg (show ¬ n / 128 / 128 ≥ 128 by omega), List.length_cons, List.length_nil]
      exact Ev.const (by simp; omega)
theorem ev_impl_PutNum (x : Int) : Ev (fun k => impl_PutNum.f k x) (putNum x) := by
  unfold putNum
  simp only [impl_PutNum.f, impl_isNum_eq, Option.bind_some]
  by_cases h : isNumB x = true
  · have hz := zig_range h
    have hb : -1000000 ≤ x ∧ x ≤ 1000000 := by simpa [isNumB] using h
    simp only [h, if_true]
    unfold zig at hz ⊢
    by_cases h0 : x < 0
    · simp only [h0, if_true] at hz ⊢
      apply Ev.step
      · intro k; rw [impl_PutNum.j0]
      simp only [w64 (x := -2 * x) (by omega), w64 (x := -2 * x - 1) (by omega)]
      exact ev_impl_PutNum_l0 _ (by omega)
    · simp only [h0, if_false] at hz ⊢
      apply Ev.step
      · intro k; rw [impl_PutNum.j0]
      simp only [w64 (x := 2 * x) (by omega)]
      exact ev_impl_PutNum_l0 _ (by omega)
  · simp only [h]
    exact Ev.now _

theorem concat_eq (k : Nat) (l : List (List Int)) (h : slices_Concat_byte_byte.sum l ≤ 35184372088832) : slices_Concat_byte_byte.f k l = some l.flatten := by
  unfold slices_Concat_byte_byte.f
  rw [if_pos h]

theorem ev_impl_Frame (b : List Int) (hb : Bytes b) (hl : b.length ≤ 1048576) : Ev (fun k => impl_Frame.f k b) (frame b) := by
  simp only [impl_Frame.f, frame]
  have p1 := putNum_length (b.length : Int)
  have p2 := putNum_length (checkOf b)
  by_cases h : b.length ≤ 4000
  · simp only [if_neg (show ¬ (b.length : Int) > 4000 by omega), if_pos h]
    refine Ev.bind (ev_impl_PutNum _) ?_
    refine Ev.bind (ev_impl_CheckOf b hb (by omega)) ?_
    refine Ev.bind (ev_impl_PutNum _) ?_
    simp only [concat_eq _ [([80, 83] : List Int), putNum b.length, b, putNum (checkOf b)] (by simp [slices_Concat_byte_byte.sum]; omega), Option.bind_some]
    exact Ev.const (by simp [frameB])
  · simp only [if_pos (show (b.length : Int) > 4000 by omega), if_neg h]
    exact Ev.now _

theorem clone_byte (l : List Int) (hl : l.length ≤ 1048576) : slices_Clone_byte_byte.f l = some l := by
  simp only [slices_Clone_byte_byte.f, Option.bind_some, List.length_nil, List.nil_append]
  rw [if_pos (by omega)]

theorem ev_impl_Unframe (b : List Int) (hb : Bytes b) (hl : b.length ≤ 1048576) : Ev (fun k => impl_Unframe.f k b) (unframe b) := by
  have hnx := takeNum_next b 2
  have no : unOk b = false → unframe b = ([], false) := fun h => by unfold unframe; rw [h]; simp
  simp only [impl_Unframe.f, hasPS_eq hb, Option.bind_some, impl_in_eq]
  by_cases hp : b.take 2 = [80, 83]
  · simp only [hp, decide_true, if_true]
    refine Ev.bind (ev_impl_TakeNum b hb hl 2 (by omega)) ?_
    refine Ev_ite (fun h0 => ?_) (fun h0 => ?_)
    · rw [no (by unfold unOk; exact decide_eq_false (by omega))]; exact Ev.now _
    have hn : -1000000 ≤ (takeNum b 2).1 ∧ (takeNum b 2).1 ≤ 1000000 ∧ (takeNum b 2).2 ≤ b.length := by
      rcases hnx with h | h
      · omega
      · have h4 := h.2.2.2.2
        simp [isNumB] at h4
        omega
    rw [w64 (x := (b.length : Int) - (takeNum b 2).2) (by omega)]
    by_cases h1 : 0 ≤ (takeNum b 2).1 ∧ (takeNum b 2).1 ≤ (b.length : Int) - (takeNum b 2).2
    · simp only [decide_eq_true h1, if_true]
      rw [w64 (x := (takeNum b 2).2 + (takeNum b 2).1) (by omega)]
      simp only [if_pos (show 0 ≤ (takeNum b 2).2 by omega), if_pos (show (takeNum b 2).2 ≤ (takeNum b 2).2 + (takeNum b 2).1 by omega), if_pos (show (takeNum b 2).2 + (takeNum b 2).1 ≤ (b.length : Int) by omega)]
      have hbl := bodyF_length (b := b) (by omega) h1.1 h1.2
      rw [show (b.take ((takeNum b 2).2 + (takeNum b 2).1).toNat).drop (takeNum b 2).2.toNat = bodyF b from rfl]
      simp only [clone_byte (bodyF b) (by omega), Option.bind_some]
      refine Ev.bind (ev_impl_Frame (bodyF b) (Bytes_body hb) (by omega)) ?_
      unfold frame
      by_cases h4 : (bodyF b).length ≤ 4000
      · simp only [if_pos h4, if_true]
        have hbf : Bytes (frameB (bodyF b)) := by
          unfold frameB
          exact Bytes_app (fun x hx => by simp at hx; omega) (Bytes_app (Bytes_put _) (Bytes_app (Bytes_body hb) (Bytes_put _)))
        simp only [bytesEq_eq hbf hb, Option.bind_some]
        by_cases h5 : frameB (bodyF b) = b
        · simp only [decide_eq_true h5, if_true]
          unfold unframe
          rw [if_pos (by unfold unOk; exact decide_eq_true ⟨hp, by omega, h1.1, by omega, h1.2, h5⟩)]
          exact Ev.now _
        · simp only [decide_eq_false h5, if_neg Bool.false_ne_true]
          rw [no (by unfold unOk; exact decide_eq_false (fun h => h5 h.2.2.2.2.2))]; exact Ev.now _
      · simp only [if_neg h4, if_neg Bool.false_ne_true]
        rw [no (by unfold unOk; exact decide_eq_false (by omega))]; exact Ev.now _
    · simp only [decide_eq_false h1, if_neg Bool.false_ne_true]
      rw [no (by unfold unOk; exact decide_eq_false (fun h => h1 ⟨h.2.2.1, h.2.2.2.2.1⟩))]; exact Ev.now _
  · simp only [decide_eq_false hp, if_neg Bool.false_ne_true]
    rw [no (by unfold unOk; exact decide_eq_false (fun h => hp h.1))]; exact Ev.now _

def nodeOf (r : NodeT) : S62 := ⟨r.1, r.2.1, r.2.2.1, r.2.2.2.1, r.2.2.2.2.1, r.2.2.2.2.2.1, r.2.2.2.2.2.2.1⟩
def decNodes (b : List Int) : Nat → Int → List S62 → List S62 × Int
  | 0, p, acc => if p < b.length then ([], 4) else if planOk acc = true then (acc, 0) else ([], 3)
  | d + 1, p, acc => if (takeNode b p).2.2.2.2.2.2.2 < 0 then ([], 2) else decNodes b d (takeNode b p).2.2.2.2.2.2.2 (acc ++ [nodeOf (takeNode b p)])
def decPBody (b : List Int) : List S62 × Int := if (takeNum b 0).2 < 0 ∨ ¬ (0 ≤ (takeNum b 0).1 ∧ (takeNum b 0).1 ≤ 40) then ([], 2) else decNodes b (takeNum b 0).1.toNat (takeNum b 0).2 []
def decPlan (b : List Int) : List S62 × Int := if (unframe b).2 = true then decPBody (unframe b).1 else ([], 1)
def FitL (l : List S62) : Prop := ∀ x ∈ l, x.f1.size ≤ 12 ∧ x.f6.length ≤ 300
theorem fitL_nil : FitL [] := fun x hx => by cases hx
theorem fitL_snoc {l : List S62} (h : FitL l) {x : S62} (hx : x.f1.size ≤ 12 ∧ x.f6.length ≤ 300) : FitL (l ++ [x]) := fun y hy => by
  rcases List.mem_append.1 hy with hy | hy
  · exact h y hy
  · rw [List.mem_singleton.1 hy]; exact hx
theorem decNodes_fit (b : List Int) : ∀ (d : Nat) (p : Int) (acc : List S62), FitL acc → FitL (decNodes b d p acc).1 ∧ (decNodes b d p acc).1.length ≤ acc.length + d
  | 0, p, acc, h => by
    unfold decNodes
    split
    · exact ⟨fitL_nil, Nat.zero_le _⟩
    split
    · exact ⟨h, Nat.le_refl _⟩
    · exact ⟨fitL_nil, Nat.zero_le _⟩
  | d + 1, p, acc, h => by
    unfold decNodes
    split
    · exact ⟨fitL_nil, Nat.zero_le _⟩
    · rename_i hp
      have hf : (nodeOf (takeNode b p)).f1.size ≤ 12 ∧ (nodeOf (takeNode b p)).f6.length ≤ 300 := by
        rcases takeNode_fit b p with g | g
        · exact absurd g hp
        · exact g.2.2
      have ih := decNodes_fit b d (takeNode b p).2.2.2.2.2.2.2 (acc ++ [nodeOf (takeNode b p)]) (fitL_snoc h hf)
      refine ⟨ih.1, ?_⟩
      have := ih.2
      simp only [List.length_append, List.length_cons, List.length_nil] at this
      omega
theorem decPlan_fit (b : List Int) : FitL (decPlan b).1 ∧ (decPlan b).1.length ≤ 40 := by
  unfold decPlan
  split
  · unfold decPBody
    split
    · exact ⟨fitL_nil, Nat.zero_le _⟩
    · rename_i h
      have h2 : 0 ≤ (takeNum (unframe b).1 0).1 ∧ (takeNum (unframe b).1 0).1 ≤ 40 := Classical.byContradiction fun q => h (.inr q)
      have := decNodes_fit (unframe b).1 (takeNum (unframe b).1 0).1.toNat (takeNum (unframe b).1 0).2 [] fitL_nil
      refine ⟨this.1, ?_⟩
      have := this.2
      simp only [List.length_nil] at this
      omega
  · exact ⟨fitL_nil, Nat.zero_le _⟩

theorem ev_impl_DecodePlan_l0 (b : List Int) (hb : Bytes b) (hl : b.length ≤ 1048576) : ∀ (d i : Nat) (p : Int) (acc : List S62), i + d ≤ 40 → acc.length = i → FitL acc → 0 ≤ p → p ≤ b.length → Ev (fun k => impl_DecodePlan.l0 k b p acc (i + d : Nat) i) (decNodes b d p acc) := by
  intro d
  induction d with
  | zero =>
    intro i p acc h ha hs hp hq
    apply Ev.step
    · intro k; rw [impl_DecodePlan.l0]
    simp only [if_neg (show ¬ ((i : Int) < ((i + 0 : Nat) : Int)) by omega)]
    unfold decNodes
    refine Ev_ite (fun h1 => ?_) (fun h1 => ?_)
    · rw [if_pos h1]; exact Ev.now _
    · rw [if_neg h1]
      refine Ev.bind (ev_impl_PlanOk acc (by omega) (fun x hx => by have := hs x hx; omega)) ?_
      refine Ev_ite (fun h2 => ?_) (fun h2 => ?_)
      · rw [if_pos h2]; exact Ev.now _
      · rw [if_neg h2]; exact Ev.now _
  | succ d ih =>
    intro i p acc h ha hs hp hq
    have hf := takeNode_fit b p
    apply Ev.step
    · intro k; rw [impl_DecodePlan.l0]
    simp only [if_pos (show (i : Int) < ((i + (d + 1) : Nat) : Int) by omega)]
    refine Ev.bind (ev_impl_TakeNode b hb hl p (by omega)) ?_
    unfold decNodes
    refine Ev_ite (fun h1 => ?_) (fun h1 => ?_)
    · rw [if_pos h1]; exact Ev.now _
    rw [if_neg h1]
    rcases hf with hf | hf
    · exact absurd hf h1
    simp only [if_pos (show acc.length < 1759218604441 by omega), w64 (x := (i : Int) + 1) (by omega)]
    have ih' := ih (i + 1) (takeNode b p).2.2.2.2.2.2.2 (acc ++ [nodeOf (takeNode b p)]) (by omega) (by simp; omega) (fitL_snoc hs hf.2.2) (by omega) (by omega)
    rw [show i + 1 + d = i + (d + 1) by omega] at ih'
    exact ih'
theorem ev_impl_DecodePlan (b : List Int) (hb : Bytes b) (hl : b.length ≤ 1048576) : Ev (fun k => impl_DecodePlan.f k b) (decPlan b) := by
  have hu := unframe_length b
  have hbu := Bytes_unframe hb
  have hn := takeNum_next (unframe b).1 0
  simp only [impl_DecodePlan.f]
  refine Ev.bind (ev_impl_Unframe b hb hl) ?_
  unfold decPlan
  generalize (unframe b).1 = u at *
  generalize (unframe b).2 = o at *
  refine Ev_ite (fun h0 => ?_) (fun h0 => ?_)
  · rw [if_pos h0]
    refine Ev.bind (ev_impl_TakeNum u hbu (by omega) 0 (by omega)) ?_
    unfold decPBody
    refine Ev_ite (fun h1 => ?_) (fun h1 => ?_)
    · rw [if_pos (.inl h1)]
      apply Ev.step
      · intro k; rw [impl_DecodePlan.j0]
      simp only [if_true]
      exact Ev.now _
    simp only [impl_in_eq, Option.bind_some]
    by_cases h2 : 0 ≤ (takeNum u 0).1 ∧ (takeNum u 0).1 ≤ 40
    · rw [if_neg (fun h => h.elim h1 (fun h => h h2))]
      simp only [decide_eq_true h2]
      apply Ev.step
      · intro k; rw [impl_DecodePlan.j0]
      simp only [Bool.not_true, if_neg Bool.false_ne_true]
      have := ev_impl_DecodePlan_l0 u hbu (by omega) (takeNum u 0).1.toNat 0 (takeNum u 0).2 [] (by omega) rfl fitL_nil (by omega) (by omega)
      rw [show (((0 + (takeNum u 0).1.toNat : Nat)) : Int) = (takeNum u 0).1 by omega] at this
      exact this
    · rw [if_pos (.inr h2)]
      simp only [decide_eq_false h2]
      apply Ev.step
      · intro k; rw [impl_DecodePlan.j0]
      simp only [Bool.not_false, if_true]
      exact Ev.now _
  · rw [if_neg h0]; exact Ev.now _

theorem ev_eqByteS_l0 (x0 : List Int) (hl : x0.length ≤ 1099511627776) : ∀ (d : Nat) (i : Nat), i + d = x0.length → Ev (fun k => laws_eqByteS.l0 k x0 x0 i) true := by
  intro d
  induction d with
  | zero =>
    intro i h2
    apply Ev.step
    · intro k; rw [laws_eqByteS.l0]
    simp only [if_neg (show ¬ ((i : Int) < x0.length) by omega)]
    exact Ev.now _
  | succ d ih =>
    intro i h2
    apply Ev.step
    · intro k; rw [laws_eqByteS.l0]
    simp only [if_pos (show (i : Int) < x0.length by omega), if_pos (show (0 : Int) ≤ i by omega), if_true, w64 (x := (i : Int) + 1) (by omega)]
    have := ih (i + 1) (by omega)
    simpa using this
theorem ev_eqByteS (l : List Int) (h : l.length ≤ 1099511627776) : Ev (fun k => laws_eqByteS.f k l l) true := by
  simp only [laws_eqByteS.f, if_true]
  exact ev_eqByteS_l0 l h l.length 0 (by omega)

theorem ev_eqIntS_l0 (x0 : List Int) (hl : x0.length ≤ 1099511627776) : ∀ (d : Nat) (i : Nat), i + d = x0.length → Ev (fun k => laws_eqIntS.l0 k x0 x0 i) true := by
  intro d
  induction d with
  | zero =>
    intro i h2
    apply Ev.step
    · intro k; rw [laws_eqIntS.l0]
    simp only [if_neg (show ¬ ((i : Int) < x0.length) by omega)]
    exact Ev.now _
  | succ d ih =>
    intro i h2
    apply Ev.step
    · intro k; rw [laws_eqIntS.l0]
    simp only [if_pos (show (i : Int) < x0.length by omega), if_pos (show (0 : Int) ≤ i by omega), if_true, w64 (x := (i : Int) + 1) (by omega)]
    have := ih (i + 1) (by omega)
    simpa using this
theorem ev_eqIntS (l : List Int) (h : l.length ≤ 1099511627776) : Ev (fun k => laws_eqIntS.f k l l) true := by
  simp only [laws_eqIntS.f, if_true]
  exact ev_eqIntS_l0 l h l.length 0 (by omega)

theorem ev_eqNode (x : S62) (h : x.f6.length ≤ 1099511627776) : Ev (fun k => laws_eqNode.f k x.f0 x.f1 x.f2 x.f3 x.f4 x.f5 x.f6 x.f0 x.f1 x.f2 x.f3 x.f4 x.f5 x.f6) true := by
  simp only [laws_eqNode.f, if_true, bne_self_eq_false, if_neg Bool.false_ne_true]
  refine Ev.bind (ev_eqIntS _ h) ?_
  simp only [if_true]
  exact Ev.now _

theorem ev_laws_eqNodeS_l0 (x0 : List (S62)) (hl : x0.length ≤ 1099511627776) (hs : ∀ x ∈ x0, x.f6.length ≤ 1099511627776) : ∀ (d : Nat) (i : Nat), i + d = x0.length → Ev (fun k => laws_eqNodeS.l0 k x0 x0 i) true := by
  intro d
  induction d with
  | zero =>
    intro i h2
    apply Ev.step
    · intro k; rw [laws_eqNodeS.l0]
    simp only [if_neg (show ¬ ((i : Int) < x0.length) by omega)]
    exact Ev.now _
  | succ d ih =>
    intro i h2
    have hg : x0[i]? = some (rd_T62 x0 (i : Int)) := by simp [rd_T62, show i < x0.length by omega]
    have hm := hs _ (List.mem_of_getElem? hg)
    apply Ev.step
    · intro k; rw [laws_eqNodeS.l0]
    simp only [if_pos (show (i : Int) < x0.length by omega), if_pos (show (0 : Int) ≤ i by omega)]
    refine Ev.bind (ev_eqNode _ hm) ?_
    simp only [if_true, w64 (x := (i : Int) + 1) (by omega)]
    have := ih (i + 1) (by omega)
    simpa using this
theorem ev_laws_eqNodeS (l : List (S62)) (h : l.length ≤ 1099511627776) (hs : ∀ x ∈ l, x.f6.length ≤ 1099511627776) : Ev (fun k => laws_eqNodeS.f k l l) true := by
  simp only [laws_eqNodeS.f, if_true]
  exact ev_laws_eqNodeS_l0 l h hs l.length 0 (by omega)

theorem ev_markIntS_l0 (a : Int) (n : Nat) (hn : n ≤ 1099511627776) (ha : 0 ≤ a ∧ a ≤ 1125899906842624) : ∀ (d : Nat) (x0 : List Int) (i : Nat), x0.length = n → i + d = n → (∀ j : Nat, j < i → rd x0 j = a + j) →
    ∃ L : List Int, L.length = n ∧ (∀ j : Nat, j < n → rd L j = a + j) ∧ Ev (fun k => laws_markIntS.l0 k x0 (a + i) i) (a + n, L) := by
  intro d
  induction d with
  | zero =>
    intro x0 i h1 h2 h3
    refine ⟨x0, h1, fun j hj => h3 j (by omega), ?_⟩
    apply Ev.step
    · intro k; rw [laws_markIntS.l0]
    obtain rfl : i = n := by omega
    simp only [if_neg (show ¬ ((i : Int) < x0.length) by omega)]
    exact Ev.now _
  | succ d ih =>
    intro x0 i h1 h2 h3
    obtain ⟨L, hL, hj, he⟩ := ih (x0.set i (a + i)) (i + 1) (by simp [h1]) (by omega) (by
      intro j hj
      by_cases e : j = i
      · subst e; rw [rd_set_self _ _ _ (by omega)]
      · rw [rd_set_ne _ _ _ _ (Ne.symm e)]; exact h3 j (by omega))
    refine ⟨L, hL, hj, ?_⟩
    apply Ev.step
    · intro k; rw [laws_markIntS.l0]
    simp only [if_pos (show (i : Int) < x0.length by omega), if_pos (show (0 : Int) ≤ i by omega), w64 (x := (i : Int) + 1) (by omega), w64 (x := a + (i : Int) + 1) (by omega)]
    simpa [Int.add_assoc] using he
theorem ev_markIntS (l : List Int) (a : Int) (hn : l.length ≤ 1099511627776) (ha : 0 ≤ a ∧ a ≤ 1125899906842624) :
    ∃ L : List Int, L.length = l.length ∧ (∀ j : Nat, j < l.length → rd L j = a + j) ∧ Ev (fun k => laws_markIntS.f k l a) (a + l.length, L) := by
  obtain ⟨L, h1, h2, h3⟩ := ev_markIntS_l0 a l.length hn ha l.length l 0 rfl (by omega) (by intro j hj; omega)
  exact ⟨L, h1, h2, by simpa [laws_markIntS.f] using h3⟩

theorem ev_heldIntS_l0 (a : Int) (ha : 0 ≤ a ∧ a ≤ 1125899906842624) (x0 : List Int) (hn : x0.length ≤ 1099511627776) (hj : ∀ j : Nat, j < x0.length → rd x0 j = a + j) : ∀ (d : Nat) (i : Nat), i + d = x0.length → Ev (fun k => laws_heldIntS.l0 k x0 (a + i) i) (a + x0.length) := by
  intro d
  induction d with
  | zero =>
    intro i h2
    apply Ev.step
    · intro k; rw [laws_heldIntS.l0]
    obtain rfl : i = x0.length := by omega
    simp only [if_neg (show ¬ ((x0.length : Int) < x0.length) by omega)]
    exact Ev.now _
  | succ d ih =>
    intro i h2
    apply Ev.step
    · intro k; rw [laws_heldIntS.l0]
    simp only [if_pos (show (i : Int) < x0.length by omega), if_pos (show (0 : Int) ≤ i by omega), if_pos (hj i (by omega)), w64 (x := (i : Int) + 1) (by omega), w64 (x := a + (i : Int) + 1) (by omega)]
    have := ih (i + 1) (by omega)
    simpa [Int.add_assoc] using this
theorem ev_heldIntS (L : List Int) (a : Int) (hn : L.length ≤ 1099511627776) (ha : 0 ≤ a ∧ a ≤ 1125899906842624) (hj : ∀ j : Nat, j < L.length → rd L j = a + j) : Ev (fun k => laws_heldIntS.f k L a) (a + L.length) := by
  have := ev_heldIntS_l0 a ha L hn hj L.length 0 (by omega)
  simpa [laws_heldIntS.f] using this
/-- What was marked is held. -/
theorem ev_intS (l : List Int) (a : Int) (hn : l.length ≤ 1099511627776) (ha : 0 ≤ a ∧ a ≤ 1125899906842624) : ∃ L : List Int, L.length = l.length ∧ Ev (fun k => laws_markIntS.f k l a) (a + l.length, L) ∧ Ev (fun k => laws_heldIntS.f k L a) (a + l.length) := by
  obtain ⟨L, h1, h2, h3⟩ := ev_markIntS l a hn ha
  exact ⟨L, h1, h3, by have := ev_heldIntS L a (by omega) ha (by rw [h1]; exact h2); rwa [h1] at this⟩

theorem markText_l0 : ∀ (d : Nat) (x0 : Int) (x3 : ByteArray), 0 ≤ x0 → x0 ≤ 9223372036854775807 → x0 < 10 ^ d → x3.size + d ≤ 1000 → ∃ r, laws_markText.l0 (d + 1) x0 x3 = some r
  | 0, x0, x3, h0, hb, h1, h2 => by
    have hz : x0 = 0 := by simp at h1; omega
    exact ⟨(⟨#[109]⟩ : ByteArray) ++ x3, by rw [laws_markText.l0, if_neg (by omega), if_pos (by omega)]⟩
  | d + 1, x0, x3, h0, hb, h1, h2 => by
    by_cases hp : x0 > 0
    · have hd : x0 / 10 < 10 ^ d := by
        rw [Int.pow_succ] at h1
        exact Int.ediv_lt_of_lt_mul (by omega) h1
      obtain ⟨r, hr2⟩ := markText_l0 d (x0 / 10) (strOfNums [(wrap64 (48 + (Int.tmod x0 10))) % 256] ++ x3) (by omega) (by omega) hd (by rw [ByteArray.size_append, strOfNums_size]; simp; omega)
      refine ⟨r, ?_⟩
      rw [laws_markText.l0, if_pos hp]
      simp only [Option.bind_some]
      rw [if_pos (by rw [strOfNums_size]; simp; omega), tdiv_nn h0, w64 (by omega)]
      exact hr2
    · exact ⟨(⟨#[109]⟩ : ByteArray) ++ x3, by rw [laws_markText.l0, if_neg hp, if_pos (by omega)]⟩
theorem markText_20 (x : Int) (h1 : x ≤ 9223372036854775807) : ∃ r, laws_markText.f 20 x = some r := by
  unfold laws_markText.f
  by_cases h : x ≤ 0
  · exact ⟨_, if_pos h⟩
  · rw [if_neg h]
    exact markText_l0 19 x _ (by omega) h1 (by omega) (by decide)
def mtext (x : Int) : ByteArray := (laws_markText.f 20 x).getD ⟨#[]⟩
theorem ev_markText (x : Int) (h1 : x ≤ 9223372036854775807) : Ev (fun k => laws_markText.f k x) (mtext x) := by
  obtain ⟨r, hr⟩ := markText_20 x h1
  have : mtext x = r := by simp [mtext, hr]
  rw [this]
  exact Ev.of (laws_markText.mono x) hr

def upFrom (a : Int) (n : Nat) : List Int := (List.range n).map fun j : Nat => a + (j : Int)
theorem upFrom_length (a : Int) (n : Nat) : (upFrom a n).length = n := by simp [upFrom]
theorem upFrom_rd (a : Int) (n : Nat) : ∀ j : Nat, j < (upFrom a n).length → rd (upFrom a n) j = a + j := by
  intro j hj
  rw [upFrom_length] at hj
  simp [upFrom, rd, List.getD_eq_getElem?_getD, hj]
theorem upFrom_eq {a : Int} {L : List Int} (h : ∀ j : Nat, j < L.length → rd L j = a + j) : L = upFrom a L.length := by
  apply List.ext_getElem?
  intro j
  by_cases hj : j < L.length
  · rw [rd_get L j hj, h j hj, rd_get (upFrom a L.length) j (by rw [upFrom_length]; exact hj), upFrom_rd _ _ j (by rw [upFrom_length]; exact hj)]
  · rw [List.getElem?_eq_none (by omega), List.getElem?_eq_none (by rw [upFrom_length]; omega)]
def markSS (a : Int) : List (List Int) → List (List Int)
  | [] => []
  | r :: rs => upFrom a r.length :: markSS (a + r.length) rs
def markEnd (a : Int) : List (List Int) → Int
  | [] => a
  | r :: rs => markEnd (a + r.length) rs
theorem markSS_length : ∀ (l : List (List Int)) (a : Int), (markSS a l).length = l.length
  | [], _ => rfl
  | r :: rs, a => by simp [markSS, markSS_length rs]
theorem markEnd_range : ∀ (l : List (List Int)) (a : Int), (∀ r ∈ l, r.length ≤ 1048576) → a ≤ markEnd a l ∧ markEnd a l ≤ a + 1048576 * l.length
  | [], a, _ => by simp [markEnd]
  | r :: rs, a, h => by
    have h1 := h r List.mem_cons_self
    have h2 := markEnd_range rs (a + r.length) (fun x hx => h x (List.mem_cons_of_mem _ hx))
    simp only [markEnd, List.length_cons]
    omega

def markN (a : Int) : List S62 → List S62
  | [] => []
  | x :: xs => laws_markNodeS.elem a (mtext (a + 1)) (upFrom (a + 6) x.f6.length) :: markN (a + 6 + x.f6.length) xs
def markNEnd (a : Int) : List S62 → Int
  | [] => a
  | x :: xs => markNEnd (a + 6 + x.f6.length) xs
theorem markN_length : ∀ (l : List S62) (a : Int), (markN a l).length = l.length
  | [], _ => rfl
  | r :: rs, a => by simp [markN, markN_length rs]
theorem markNEnd_range : ∀ (l : List S62) (a : Int), (∀ x ∈ l, x.f6.length ≤ 1048576) → a ≤ markNEnd a l ∧ markNEnd a l ≤ a + 1048582 * l.length
  | [], a, _ => by simp [markNEnd]
  | r :: rs, a, h => by
    have h1 := h r List.mem_cons_self
    have h2 := markNEnd_range rs (a + 6 + r.f6.length) (fun x hx => h x (List.mem_cons_of_mem _ hx))
    simp only [markNEnd, List.length_cons]
    omega
theorem w6 (a : Int) (h : 0 ≤ a ∧ a ≤ 1099511627776000) : wrap64 (a + 1) = a + 1 ∧ wrap64 (a + 1 + 1) = a + 1 + 1 ∧ wrap64 (a + 1 + 1 + 1) = a + 1 + 1 + 1 ∧ wrap64 (a + 1 + 1 + 1 + 1) = a + 1 + 1 + 1 + 1 ∧ wrap64 (a + 1 + 1 + 1 + 1 + 1) = a + 1 + 1 + 1 + 1 + 1 ∧ wrap64 (a + 1 + 1 + 1 + 1 + 1 + 1) = a + 6 :=
  ⟨w64 (by omega), w64 (by omega), w64 (by omega), w64 (by omega), w64 (by omega), by rw [w64 (by omega)]; omega⟩
theorem ev_markNodeS_l0 : ∀ (rs dn : List S62) (a : Int), dn.length + rs.length ≤ 1048576 → (∀ x ∈ rs, x.f6.length ≤ 1048576) → 0 ≤ a → a + 1048582 * rs.length ≤ 1099517919233 →
    Ev (fun k => laws_markNodeS.l0 k (dn ++ rs) a dn.length) (markNEnd a rs, dn ++ markN a rs)
  | [], dn, a, h1, h2, h3, h4 => by
    apply Ev.step
    · intro k; rw [laws_markNodeS.l0]
    simp only [List.append_nil, if_neg (show ¬ ((dn.length : Int) < dn.length) by omega), markNEnd, markN]
    exact Ev.now _
  | r :: rs, dn, a, h1, h2, h3, h4 => by
    simp only [List.length_cons] at h1 h4
    have hr := h2 r List.mem_cons_self
    obtain ⟨L, hL, hj, he⟩ := ev_markIntS r.f6 (a + 6) (by omega) (by omega)
    have hU : L = upFrom (a + 6) r.f6.length := by rw [← hL]; exact upFrom_eq (by rw [hL]; exact hj)
    subst hU
    have ih := ev_markNodeS_l0 rs (dn ++ [laws_markNodeS.elem a (mtext (a + 1)) (upFrom (a + 6) r.f6.length)]) (a + 6 + r.f6.length) (by simp; omega) (fun x hx => h2 x (List.mem_cons_of_mem _ hx)) (by omega) (by omega)
    obtain ⟨q1, q2, q3, q4, q5, q6⟩ := w6 a (by omega)
    apply Ev.step
    · intro k; rw [laws_markNodeS.l0]
    simp only [if_pos (show (dn.length : Int) < ((dn ++ r :: rs).length : Int) by simp; omega), if_pos (show (0 : Int) ≤ dn.length by omega), q1, q2, q3, q4, q5, q6]
    refine Ev.bind (ev_markText (a + 1) (by omega)) ?_
    rw [show laws_markNodeS.row (dn ++ r :: rs) (dn.length : Int) = r by simp [laws_markNodeS.row]]
    refine Ev.bind he ?_
    simp only [w64 (x := (dn.length : Int) + 1) (by omega), Int.toNat_natCast]
    rw [show (dn ++ r :: rs).set dn.length (laws_markNodeS.elem a (mtext (a + 1)) (upFrom (a + 6) r.f6.length)) = dn ++ [laws_markNodeS.elem a (mtext (a + 1)) (upFrom (a + 6) r.f6.length)] ++ rs by simp]
    simpa [markNEnd, markN] using ih
theorem ev_markNodeS (l : List S62) (hl : l.length ≤ 1048576) (hr : ∀ x ∈ l, x.f6.length ≤ 1048576) : Ev (fun k => laws_markNodeS.f k l 1) (markNEnd 1 l, markN 1 l) := by
  simpa [laws_markNodeS.f] using ev_markNodeS_l0 l [] 1 (by simp; omega) hr (by omega) (by omega)
theorem ev_markNodeS_any (l : List S62) (hl : l.length ≤ 1048576) (hr : ∀ x ∈ l, x.f6.length ≤ 1048576) : ∃ k t, 0 ≤ k ∧ Ev (fun n => laws_markNodeS.f n l 1) (k, t) := by
  have h := markNEnd_range l 1 hr
  exact ⟨markNEnd 1 l, markN 1 l, by omega, by simpa [laws_markNodeS.f] using ev_markNodeS_l0 l [] 1 (by simp; omega) hr (by omega) (by omega)⟩

theorem ev_heldNodeS_l0 : ∀ (rs dn : List S62) (a : Int), dn.length + rs.length ≤ 1048576 → (∀ x ∈ rs, x.f6.length ≤ 1048576) → 0 ≤ a → a + 1048582 * rs.length ≤ 1099517919233 →
    Ev (fun k => laws_heldNodeS.l0 k (dn ++ markN a rs) a dn.length) (markNEnd a rs)
  | [], dn, a, h1, h2, h3, h4 => by
    apply Ev.step
    · intro k; rw [laws_heldNodeS.l0]
    simp only [markN, List.append_nil, if_neg (show ¬ ((dn.length : Int) < dn.length) by omega), markNEnd]
    exact Ev.now _
  | r :: rs, dn, a, h1, h2, h3, h4 => by
    simp only [List.length_cons] at h1 h4
    have hr := h2 r List.mem_cons_self
    have he := ev_heldIntS (upFrom (a + 6) r.f6.length) (a + 6) (by rw [upFrom_length]; omega) (by omega) (upFrom_rd _ _)
    rw [upFrom_length] at he
    have ih := ev_heldNodeS_l0 rs (dn ++ [laws_markNodeS.elem a (mtext (a + 1)) (upFrom (a + 6) r.f6.length)]) (a + 6 + r.f6.length) (by simp; omega) (fun x hx => h2 x (List.mem_cons_of_mem _ hx)) (by omega) (by omega)
    obtain ⟨q1, q2, q3, q4, q5, q6⟩ := w6 a (by omega)
    have hrd : rd_T62 (dn ++ markN a (r :: rs)) (dn.length : Int) = laws_markNodeS.elem a (mtext (a + 1)) (upFrom (a + 6) r.f6.length) := by simp [rd_T62, markN]
    apply Ev.step
    · intro k; rw [laws_heldNodeS.l0]
    simp only [hrd, if_pos (show (dn.length : Int) < ((dn ++ markN a (r :: rs)).length : Int) by simp [markN]; omega), if_pos (show (0 : Int) ≤ dn.length by omega), laws_markNodeS.elem, q1, q2, q3, q4, q5, q6, if_true, bne_self_eq_false, if_neg Bool.false_ne_true]
    refine Ev.bind (ev_markText (a + 1) (by omega)) ?_
    simp only [if_true]
    refine Ev.bind he ?_
    simp only [if_neg (show ¬ (a + 6 + (r.f6.length : Int) < 0) by omega), w64 (x := (dn.length : Int) + 1) (by omega)]
    simpa [markNEnd, markN] using ih
theorem ev_heldNodeS (l : List S62) (hl : l.length ≤ 1048576) (hr : ∀ x ∈ l, x.f6.length ≤ 1048576) : Ev (fun k => laws_heldNodeS.f k (markN 1 l) 1) (markNEnd 1 l) := by
  simpa [laws_heldNodeS.f] using ev_heldNodeS_l0 l [] 1 (by simp; omega) hr (by omega) (by omega)

theorem ev_markByteS_l0 (a : Int) (n : Nat) (hn : n ≤ 1099511627776) (ha : 0 ≤ a ∧ a ≤ 1125899906842624) : ∀ (d : Nat) (x0 : List Int) (i : Nat), x0.length = n → i + d = n → (∀ j : Nat, j < i → rd x0 j = (a + j) % 256) →
    ∃ L : List Int, L.length = n ∧ (∀ j : Nat, j < n → rd L j = (a + j) % 256) ∧ Ev (fun k => laws_markByteS.l0 k x0 (a + i) i) (a + n, L) := by
  intro d
  induction d with
  | zero =>
    intro x0 i h1 h2 h3
    refine ⟨x0, h1, fun j hj => h3 j (by omega), ?_⟩
    apply Ev.step
    · intro k; rw [laws_markByteS.l0]
    obtain rfl : i = n := by omega
    simp only [if_neg (show ¬ ((i : Int) < x0.length) by omega)]
    exact Ev.now _
  | succ d ih =>
    intro x0 i h1 h2 h3
    obtain ⟨L, hL, hj, he⟩ := ih (x0.set i ((a + i) % 256)) (i + 1) (by simp [h1]) (by omega) (by
      intro j hj
      by_cases e : j = i
      · subst e; rw [rd_set_self _ _ _ (by omega)]
      · rw [rd_set_ne _ _ _ _ (Ne.symm e)]; exact h3 j (by omega))
    refine ⟨L, hL, hj, ?_⟩
    apply Ev.step
    · intro k; rw [laws_markByteS.l0]
    simp only [if_pos (show (i : Int) < x0.length by omega), if_pos (show (0 : Int) ≤ i by omega), w64 (x := (i : Int) + 1) (by omega), w64 (x := a + (i : Int) + 1) (by omega)]
    simpa [Int.add_assoc] using he
theorem ev_markByteS (l : List Int) (a : Int) (hn : l.length ≤ 1099511627776) (ha : 0 ≤ a ∧ a ≤ 1125899906842624) :
    ∃ L : List Int, L.length = l.length ∧ (∀ j : Nat, j < l.length → rd L j = (a + j) % 256) ∧ Ev (fun k => laws_markByteS.f k l a) (a + l.length, L) := by
  obtain ⟨L, h1, h2, h3⟩ := ev_markByteS_l0 a l.length hn ha l.length l 0 rfl (by omega) (by intro j hj; omega)
  exact ⟨L, h1, h2, by simpa [laws_markByteS.f] using h3⟩

theorem ev_toByteS_l0 (x0 : List Int) (hl : x0.length ≤ 1048576) : ∀ (d : Nat) (x3 : List Int) (i : Nat), x3.length = x0.length → i + d = x0.length → x3.take i = x0.take i → Ev (fun k => laws_toByteS.l0 k x0 x3 i) x0 := by
  intro d
  induction d with
  | zero =>
    intro x3 i h1 h2 h3
    apply Ev.step
    · intro k; rw [laws_toByteS.l0]
    simp only [if_neg (show ¬ ((i : Int) < x0.length) by omega)]
    rw [take_eq_all h1 (by omega) h3]
    exact Ev.now _
  | succ d ih =>
    intro x3 i h1 h2 h3
    apply Ev.step
    · intro k; rw [laws_toByteS.l0]
    simp only [if_pos (show (i : Int) < x0.length by omega), if_pos (show (0 : Int) ≤ i by omega), if_pos (show (i : Int) < x3.length by omega), w64 (x := (i : Int) + 1) (by omega)]
    have := ih (x3.set i (rd x0 i)) (i + 1) (by simp [h1]) (by omega) (take_set_at _ _ _ _ h1 (by omega) (rd_get _ _ (by omega)) h3)
    simpa using this
theorem ev_toByteS (l : List Int) (h : l.length ≤ 1048576) : Ev (fun k => laws_toByteS.f k l) l := by
  simp only [laws_toByteS.f, if_pos (show (0 : Int) ≤ l.length by omega), if_pos (show (l.length : Int).toNat ≤ 281474976710656 by omega)]
  exact ev_toByteS_l0 l h l.length _ 0 (by simp) (by omega) (by simp)

theorem spec_l01In_eq (a b c : Int) : spec_l01In.f a b c = some (decide (b ≤ a ∧ a ≤ c)) := by
  unfold spec_l01In.f
  by_cases h : b ≤ a
  · rw [if_pos h]; simp [h]
  · rw [if_neg h]; simp [h]

theorem ev_spec_WordOk_l0 (s : ByteArray) (hs : s.size ≤ 1099511627776) : ∀ (d i : Nat), i + d = s.size → (i = 0 → 97 ≤ bt s 0) → Ev (fun k => spec_WordOk.l0 k s i) (wordFrom s d i) := by
  intro d
  induction d with
  | zero =>
    intro i h _
    apply Ev.step
    · intro k; rw [spec_WordOk.l0]
    simp only [if_neg (show ¬ ((i : Int) < s.size) by omega)]
    exact Ev.now _
  | succ d ih =>
    intro i h h0
    have ih' := ih (i + 1) (by omega) (by omega)
    apply Ev.step
    · intro k; rw [spec_WordOk.l0]
    simp only [if_pos (show (i : Int) < s.size by omega), if_pos (show (0 : Int) ≤ i by omega), w64 (x := (i : Int) + 1) (by omega), wordFrom]
    have hi : i = 0 → 97 ≤ bt s i := by intro e; subst e; exact h0 rfl
    by_cases h1 : bt s i < 97
    · simp only [if_pos h1]
      have hp : 0 < i := by rcases Nat.eq_zero_or_pos i with e | e; · have := hi e; omega
                            · exact e
      by_cases h2 : bt s i < 48
      · simp only [if_pos h2, show okAt s i = false by simp [okAt]; omega, Bool.false_and]; exact Ev.now _
      · by_cases h3 : bt s i > 57
        · simp only [if_neg h2, if_pos h3, show okAt s i = false by simp [okAt]; omega, Bool.false_and]; exact Ev.now _
        · simp only [if_neg h2, if_neg h3, show okAt s i = true by simp [okAt]; omega, Bool.true_and]; exact ih'
    · simp only [if_neg h1]
      by_cases h2 : bt s i > 122
      · simp only [if_pos h2, if_neg (show ¬ bt s i < 48 by omega), if_pos (show bt s i > 57 by omega), show okAt s i = false by simp [okAt]; omega, Bool.false_and]; exact Ev.now _
      · simp only [if_neg h2, show okAt s i = true by simp [okAt]; omega, Bool.true_and]; exact ih'
theorem ev_spec_WordOk (s : ByteArray) (hs : s.size ≤ 1099511627776) : Ev (fun k => spec_WordOk.f k s) (wordOk s) := by
  simp only [spec_WordOk.f, spec_l01In_eq, Option.bind_some, decide_eq_true_eq, wordOk]
  by_cases h : 1 ≤ s.size ∧ s.size ≤ 12
  · simp only [if_pos (show 1 ≤ (s.size : Int) ∧ (s.size : Int) ≤ 12 by omega), if_pos (show (0 : Int) < s.size by omega), decide_eq_true h, Bool.true_and]
    apply Ev.step
    · intro k; rw [spec_WordOk.j0]
    simp only [decide_eq_true_eq]
    by_cases h1 : bt s 0 < 97
    · simp only [if_pos h1]
      obtain ⟨d, hd⟩ : ∃ d, s.size = d + 1 := ⟨s.size - 1, by omega⟩
      rw [hd, wordFrom, show okAt s 0 = false by simp [okAt]; omega, Bool.false_and]
      exact Ev.now _
    · simp only [if_neg h1]
      exact ev_spec_WordOk_l0 s hs s.size 0 (by omega) (by omega)
  · simp only [if_neg (show ¬ (1 ≤ (s.size : Int) ∧ (s.size : Int) ≤ 12) by omega), decide_eq_false h, Bool.false_and]
    apply Ev.step
    · intro k; rw [spec_WordOk.j0]
    simp only [if_true]
    exact Ev.now _

theorem spec_l01Number_eq (a : Int) : spec_l01Number.f a = some (isNumB a) := by
  unfold spec_l01Number.f; rw [spec_l01In_eq]; rfl

theorem spec_l02Col_eq (a : Int) : spec_l02Col.f a = some (colB a) := by
  unfold spec_l02Col.f; rw [spec_l01In_eq]; rfl

theorem ev_spec_NodeOk_l0 (kind : Int) (name : ByteArray) (col op num : Int) (slot : Bool) (cols : List Int) (hl : cols.length ≤ 1099511627776) : ∀ (d i : Nat), i + d = cols.length → Ev (fun k => spec_NodeOk.l0 k i kind name col op num slot cols) ((cols.drop i).all colB && decide (1 ≤ cols.length ∧ cols.length ≤ 6) && decide (col = 0 ∧ num = 0 ∧ slot = false)) := by
  intro d
  induction d with
  | zero =>
    intro i h
    apply Ev.step
    · intro k; rw [spec_NodeOk.l0]
    simp only [if_neg (show ¬ ((i : Int) < cols.length) by omega), spec_l01In_eq, Option.bind_some, drop_nil' (show cols.length ≤ i by omega), List.all_nil, Bool.true_and]
    by_cases h1 : 1 ≤ cols.length ∧ cols.length ≤ 6
    · simp only [decide_eq_true (show 1 ≤ (cols.length : Int) ∧ (cols.length : Int) ≤ 6 by omega), if_true, decide_eq_true h1, Bool.true_and]
      by_cases h2 : col = 0
      · by_cases h3 : num = 0
        · simp only [if_pos h2, if_pos h3]; exact Ev.const (by simp [h2, h3])
        · simp only [if_pos h2, if_neg h3]; exact Ev.const (by simp [h3])
      · simp only [if_neg h2]; exact Ev.const (by simp [h2])
    · simp only [decide_eq_false (show ¬ (1 ≤ (cols.length : Int) ∧ (cols.length : Int) ≤ 6) by omega), if_neg Bool.false_ne_true, decide_eq_false h1, Bool.false_and]
      exact Ev.now _
  | succ d ih =>
    intro i h
    have ih' := ih (i + 1) (by omega)
    rw [drop_rd cols i (by omega)]
    apply Ev.step
    · intro k; rw [spec_NodeOk.l0]
    simp only [if_pos (show (i : Int) < cols.length by omega), if_pos (show (0 : Int) ≤ i by omega), spec_l02Col_eq, Option.bind_some, w64 (x := (i : Int) + 1) (by omega), List.all_cons]
    by_cases h1 : colB (rd cols i) = true
    · simp only [h1, if_true, Bool.true_and]; simpa using ih'
    · simp only [if_neg h1, Bool.eq_false_iff.mpr h1, Bool.false_and]; exact Ev.now _
theorem ev_spec_NodeOk (kind : Int) (name : ByteArray) (col op num : Int) (slot : Bool) (cols : List Int) (hl : cols.length ≤ 1099511627776) (hn : name.size ≤ 1099511627776) : Ev (fun k => spec_NodeOk.f k kind name col op num slot cols) (nodeOk kind name col op num slot cols) := by
  have main : ∀ b, b = nodePre kind name op num slot cols → Ev (fun k => spec_NodeOk.j0 k b kind name col op num slot cols) (nodeOk kind name col op num slot cols) := by
    intro b hb
    unfold nodeOk
    rw [← hb]
    cases b with
    | true =>
      apply Ev.step
      · intro k; rw [spec_NodeOk.j0]
      exact Ev.now _
    | false =>
      apply Ev.step
      · intro k; rw [spec_NodeOk.j0]
      simp only [if_neg Bool.false_ne_true, Bool.not_false, Bool.true_and]
      unfold nodeKind
      refine Ev_ite (fun h0 => ?_) (fun h0 => ?_)
      · rw [if_pos h0]
        refine Ev.bind (ev_spec_WordOk name hn) ?_
        refine Ev_ite (fun h1 => ?_) (fun h1 => ?_)
        · rw [h1, Bool.true_and]
          refine Ev_ite (fun h2 => Ev_ite (fun h3 => ?_) (fun h3 => ?_)) (fun h2 => ?_)
          · exact Ev.const (by simp [h2, h3])
          · exact Ev.const (by simp [h3])
          · exact Ev.const (by simp [h2])
        · rw [Bool.eq_false_iff.mpr h1]; exact Ev.now _
      rw [if_neg h0]
      refine Ev_ite (fun h1 => ?_) (fun h1 => ?_)
      · rw [if_pos h1]
        simp only [spec_l02Col_eq, spec_l01In_eq, spec_l01Number_eq, Option.bind_some]
        refine Ev_ite (fun h2 => ?_) (fun h2 => Ev.const (by simp [Bool.eq_false_iff.mpr h2]))
        refine Ev_ite (fun h3 => ?_) (fun h3 => Ev.const (by simp [Bool.eq_false_iff.mpr h3]))
        refine Ev_ite (fun h4 => ?_) (fun h4 => Ev.const (by simp [Bool.eq_false_iff.mpr h4]))
        rw [h2, h3, h4]
        refine Ev_ite (fun h5 => Ev_ite (fun h6 => ?_) (fun h6 => ?_)) (fun h5 => ?_)
        · exact Ev.const (by simp [h5, h6])
        · exact Ev.const (by simp [h5, h6])
        · exact Ev.const (by simp [h5])
      rw [if_neg h1]
      refine Ev_ite (fun h2 => ?_) (fun h2 => ?_)
      · rw [if_pos h2]
        simpa using ev_spec_NodeOk_l0 kind name col op num slot cols hl cols.length 0 (by omega)
      rw [if_neg h2]
      simp only [spec_l02Col_eq, spec_l01In_eq, Option.bind_some]
      refine Ev_ite (fun h3 => ?_) (fun h3 => ?_)
      · rw [if_pos h3]
        refine Ev_ite (fun h4 => Ev_ite (fun h5 => ?_) (fun h5 => ?_)) (fun h4 => ?_)
        · exact Ev.const (by simp [h4, h5])
        · exact Ev.const (by simp [Bool.eq_false_iff.mpr h5])
        · exact Ev.const (by simp [Bool.eq_false_iff.mpr h4])
      rw [if_neg h3]
      refine Ev_ite (fun h4 => ?_) (fun h4 => ?_)
      · rw [if_pos h4]
        refine Ev_ite (fun h5 => Ev_ite (fun h6 => ?_) (fun h6 => ?_)) (fun h5 => ?_)
        · exact Ev.const (by simp [h5, h6])
        · exact Ev.const (by simp [h6])
        · exact Ev.const (by simp [Bool.eq_false_iff.mpr h5])
      rw [if_neg h4]
      refine Ev_ite (fun h5 => ?_) (fun h5 => ?_)
      · rw [if_pos h5]
        refine Ev_ite (fun h6 => ?_) (fun h6 => ?_)
        · exact Ev.const (by simp [h6])
        · exact Ev.const (by simp [h6])
      rw [if_neg h5]
      refine Ev_ite (fun h6 => ?_) (fun h6 => Ev_ite (fun h7 => ?_) (fun h7 => ?_))
      · rw [if_pos (Or.inl h6)]
        refine Ev_ite (fun h7 => Ev_ite (fun h8 => ?_) (fun h8 => ?_)) (fun h7 => ?_)
        · exact Ev.const (by simp [h7, h8])
        · exact Ev.const (by simp [h8])
        · exact Ev.const (by simp [h7])
      · rw [if_pos (Or.inr h7)]
        refine Ev_ite (fun h7 => Ev_ite (fun h8 => ?_) (fun h8 => ?_)) (fun h7 => ?_)
        · exact Ev.const (by simp [h7, h8])
        · exact Ev.const (by simp [h8])
        · exact Ev.const (by simp [h7])
      · rw [if_neg (by intro h; rcases h with h | h; exact h6 h; exact h7 h)]
        exact Ev.now _
  have hlen : ((cols.length : Int) > 0) ↔ cols ≠ [] := by
    cases cols with
    | nil => simp
    | cons => simp
  have e39 : decide (0 ≤ num ∧ num ≤ 39) = slotB num := rfl
  simp only [spec_NodeOk.f, spec_l01In_eq, Option.bind_some, e39]
  repeat' (refine Ev_ite (fun _ => ?_) (fun _ => ?_))
  all_goals first
    | (exfalso; omega)
    | (refine main _ ?_
       unfold nodePre
       cases hsl : slotB num <;> simp_all)

theorem ev_spec_ArityOf (a : Int) : Ev (fun k => spec_ArityOf.f k a) (arity a) := by
  simp only [spec_ArityOf.f]
  by_cases h0 : a = 0
  · subst h0; simp only [if_true]; exact Ev.now _
  by_cases h3 : a = 3
  · subst h3
    simp only [if_neg (show ¬ (3 : Int) = 0 by omega), if_true]
    apply Ev.step
    · intro k; rw [spec_ArityOf.j0]
    exact Ev.const (by simp [arity])
  simp only [if_neg h0, if_neg h3]
  apply Ev.step
  · intro k; rw [spec_ArityOf.j0]
  refine Ev.const ?_
  unfold arity
  by_cases h4 : a = 4
  · subst h4; simp
  · simp only [beq_iff_eq, if_neg h0, if_neg h3, if_neg h4]
    repeat' split
    all_goals first | rfl | omega

def endD : Option (Nat × Nat) → Int × Int
  | none => (-1, 0)
  | some x => (x.1, x.2)
theorem ev_spec_l02End (p : List S62) (hl : p.length ≤ 1048576) : ∀ (room k : Nat), room ≤ 10 → k ≤ 1099511627776 → Ev (fun n => spec_l02End.f n p k (room : Int)) (endD (endP p room k)) := by
  intro room
  induction room with
  | zero =>
    intro k _ hk
    apply Ev.step
    · intro k; rw [spec_l02End.f]
    refine Ev_ite (fun _ => ?_) (fun _ => ?_)
    · apply Ev.step
      · intro k; rw [spec_l02End.j0]
      exact Ev.now _
    · apply Ev.step
      · intro k; rw [spec_l02End.j0]
      exact Ev.now _
  | succ room ih =>
    intro k hr hk
    apply Ev.step
    · intro k; rw [spec_l02End.f]
    refine Ev_ite (fun h0 => ?_) (fun h0 => ?_)
    · rw [endP, if_pos (by omega)]
      apply Ev.step
      · intro k; rw [spec_l02End.j0]
      exact Ev.now _
    rw [endP, if_neg (by omega)]
    have eb : (((room + 1 : Nat) : Int) == 0) = false := by rw [beq_eq_false_iff_ne]; omega
    simp only [eb]
    apply Ev.step
    · intro k; rw [spec_l02End.j0]
    simp only [if_neg Bool.false_ne_true]
    have e1 : ((room + 1 : Nat) : Int) - 1 = (room : Int) := by omega
    have e2 : ((k : Int) + 1) = ((k + 1 : Nat) : Int) := by omega
    have hka : arity (rd_T62 p (k : Int)).f0 = arity (kAt p k) := rfl
    have i1 := ih (k + 1) (by omega) (by omega)
    simp only [w64 (x := (k : Int) + 1) (by omega), e2, w64 (x := ((k + 1 : Nat) : Int)) (by omega)]
    apply Ev.step
    · intro k; rw [spec_l02End.l0]
    simp only [if_pos (show (0 : Int) ≤ k by omega), if_pos (show (k : Int) < p.length by omega)]
    refine Ev.bind (ev_spec_ArityOf _) ?_
    rw [hka]
    rcases arity_cases (kAt p k) with h | h | h | h
    · rw [h, if_neg (by omega), if_neg (by omega)]
      simp only [if_neg (show ¬ (0 : Int) < -1 by omega), w01]
      exact Ev.now _
    · rw [h, if_neg (by omega), if_neg (by omega)]
      simp only [if_neg (show ¬ (0 : Int) < 0 by omega), w01]
      exact Ev.now _
    · rw [h, if_neg (by omega), if_pos rfl]
      simp only [if_pos (show (0 : Int) < 1 by omega), w64 (x := ((room + 1 : Nat) : Int) - 1) (by omega), e1, w64 (x := (room : Int)) (by omega)]
      refine Ev.bind i1 ?_
      cases hx : endP p room (k + 1) with
      | none => exact Ev.now _
      | some x =>
        have hxr := endP_range p _ _ _ hx
        rw [show endD (some x) = ((x.1 : Int), (x.2 : Int)) from rfl]
        simp only [if_neg (show ¬ (x.1 : Int) < 0 by omega), Option.bind_some, if_pos (show (x.2 : Int) > 0 by omega)]
        apply Ev.step
        · intro k; rw [spec_l02End.l0]
        simp only [if_pos (show (0 : Int) ≤ k by omega), if_pos (show (k : Int) < p.length by omega)]
        refine Ev.bind (ev_spec_ArityOf _) ?_
        rw [hka, h]
        simp only [w01, if_neg (show ¬ (1 : Int) < 1 by omega), w64 (x := (x.2 : Int) + 1) (by omega)]
        exact Ev.const (congrArg some (Prod.ext rfl (by simp [endD])))
    · rw [h, if_pos rfl]
      simp only [if_pos (show (0 : Int) < 2 by omega), w64 (x := ((room + 1 : Nat) : Int) - 1) (by omega), e1, w64 (x := (room : Int)) (by omega)]
      refine Ev.bind i1 ?_
      cases hx : endP p room (k + 1) with
      | none => exact Ev.now _
      | some x =>
        have hxr := endP_range p _ _ _ hx
        rw [show endD (some x) = ((x.1 : Int), (x.2 : Int)) from rfl]
        simp only [if_neg (show ¬ (x.1 : Int) < 0 by omega), Option.bind_some, if_pos (show (x.2 : Int) > 0 by omega)]
        apply Ev.step
        · intro k; rw [spec_l02End.l0]
        simp only [if_pos (show (0 : Int) ≤ k by omega), if_pos (show (k : Int) < p.length by omega)]
        refine Ev.bind (ev_spec_ArityOf _) ?_
        rw [hka, h]
        simp only [w01, w12, if_pos (show (1 : Int) < 2 by omega), w64 (x := ((room + 1 : Nat) : Int) - 1) (by omega), e1, w64 (x := (room : Int)) (by omega)]
        refine Ev.bind (ih x.1 (by omega) (by omega)) ?_
        cases hy : endP p room x.1 with
        | none => exact Ev.now _
        | some y =>
          have hyr := endP_range p _ _ _ hy
          rw [show endD (some y) = ((y.1 : Int), (y.2 : Int)) from rfl]
          simp only [if_neg (show ¬ (y.1 : Int) < 0 by omega), Option.bind_some]
          refine Ev_ite (fun h5 => ?_) (fun h5 => ?_)
          · apply Ev.step
            · intro k; rw [spec_l02End.l0]
            simp only [if_pos (show (0 : Int) ≤ k by omega), if_pos (show (k : Int) < p.length by omega)]
            refine Ev.bind (ev_spec_ArityOf _) ?_
            rw [hka, h]
            simp only [w01, w12, if_neg (show ¬ (2 : Int) < 2 by omega), w64 (x := (y.2 : Int) + 1) (by omega)]
            exact Ev.const (congrArg some (Prod.ext rfl (by simp only [Option.bind_some, endD]; omega)))
          · apply Ev.step
            · intro k; rw [spec_l02End.l0]
            simp only [if_pos (show (0 : Int) ≤ k by omega), if_pos (show (k : Int) < p.length by omega)]
            refine Ev.bind (ev_spec_ArityOf _) ?_
            rw [hka, h]
            simp only [w01, w12, if_neg (show ¬ (2 : Int) < 2 by omega), w64 (x := (x.2 : Int) + 1) (by omega)]
            exact Ev.const (congrArg some (Prod.ext rfl (by simp only [Option.bind_some, endD]; omega)))

theorem endD_fst (o : Option (Nat × Nat)) : (endD o).1 = endI o := by cases o <;> rfl
theorem ev_spec_PlanOk_l0 (p : List S62) (hl : p.length ≤ 1048576) (hs : ∀ x ∈ p, x.f1.size ≤ 1048576 ∧ x.f6.length ≤ 1048576) : ∀ (d i : Nat), i + d = p.length → Ev (fun k => spec_PlanOk.l0 k p i) ((p.drop i).all nodeOkN && decide (endI (endP p 10 0) = p.length)) := by
  intro d
  induction d with
  | zero =>
    intro i h
    apply Ev.step
    · intro k; rw [spec_PlanOk.l0]
    simp only [if_neg (show ¬ ((i : Int) < p.length) by omega), drop_nil' (show p.length ≤ i by omega), List.all_nil, Bool.true_and]
    have := ev_spec_l02End p hl 10 0 (by omega) (by omega)
    refine Ev.bind (by simpa using this) ?_
    rw [endD_fst]
    exact Ev.const (congrArg some (by rw [Bool.eq_iff_iff]; simp))
  | succ d ih =>
    intro i h
    have ih' := ih (i + 1) (by omega)
    have hm := hs _ (rdT_memN (show i < p.length by omega))
    rw [drop_rdT p i (by omega), List.all_cons]
    apply Ev.step
    · intro k; rw [spec_PlanOk.l0]
    simp only [if_pos (show (i : Int) < p.length by omega), if_pos (show (0 : Int) ≤ i by omega), w64 (x := (i : Int) + 1) (by omega)]
    refine Ev.bind (ev_spec_NodeOk _ _ _ _ _ _ _ (by omega) (by omega)) ?_
    refine Ev_ite (fun h1 => ?_) (fun h1 => ?_)
    · rw [show nodeOkN (rd_T62 p i) = true from h1, Bool.true_and]; simpa using ih'
    · rw [show nodeOkN (rd_T62 p i) = false from Bool.eq_false_iff.mpr h1, Bool.false_and, Bool.false_and]; exact Ev.now _
theorem ev_spec_PlanOk (p : List S62) (hl : p.length ≤ 1048576) (hs : ∀ x ∈ p, x.f1.size ≤ 1048576 ∧ x.f6.length ≤ 1048576) : Ev (fun k => spec_PlanOk.f k p) (planOk p) := by
  simp only [spec_PlanOk.f, spec_l01In_eq, Option.bind_some]
  unfold planOk
  refine Ev_ite (fun h1 => ?_) (fun h1 => ?_)
  · have h1' : 1 ≤ p.length ∧ p.length ≤ 40 := by simp only [decide_eq_true_eq] at h1; omega
    rw [decide_eq_true h1', Bool.true_and]
    simpa using ev_spec_PlanOk_l0 p hl hs p.length 0 (by omega)
  · have h1' : ¬ (1 ≤ p.length ∧ p.length ≤ 40) := by simp only [decide_eq_true_eq] at h1; omega
    rw [decide_eq_false h1']; exact Ev.now _

theorem spec_fin (b : List Int) (hb : Bytes b) (hl : b.length ≤ 1048576) (p i u : Int) (n : Nat) (hp : 0 ≤ p) (hi : i = n) (hn : n ≤ 3) (hlt : p + i < b.length) (hu : 0 ≤ u ∧ u ≤ 2097152) (hv : rd b (p + i) < 128) :
    Ev (fun k => spec_TakeNum.j1 k b p u i false) (takeFin (u + rd b (p + i) * 2 ^ (7 * n)) (rd b (p + i)) i p) := by
  have hr := Bytes_rd hb (p + i)
  have e1 : wrap64 (p + i) = p + i := w64 (by omega)
  have e2 : IntKind.u64.wrap (wrap64 (7 * i)) = ((7 * n : Nat) : Int) := by rw [w64 (by omega), u64_small (by omega)]; omega
  have hpow : (2 : Int) ^ (7 * n) ≤ 2097152 ∧ 1 ≤ (2 : Int) ^ (7 * n) := by
    rcases (by omega : n = 0 ∨ n = 1 ∨ n = 2 ∨ n = 3) with e | e | e | e <;> subst e <;> decide
  have hm : 0 ≤ rd b (p + i) * 2 ^ (7 * n) ∧ rd b (p + i) * 2 ^ (7 * n) ≤ 266338304 := by
    rcases (by omega : n = 0 ∨ n = 1 ∨ n = 2 ∨ n = 3) with e | e | e | e <;> subst e <;> simp <;> omega
  have e3 : shl .i64 (rd b (p + i)) ((7 * n : Nat) : Int) = rd b (p + i) * 2 ^ (7 * n) := shl_i64 _ _ (7 * n) rfl (by omega) (by omega)
  generalize hm0 : rd b (p + i) * 2 ^ (7 * n) = m at *
  have e4 : wrap64 (rd b (p + i)) = rd b (p + i) := w64 (by omega)
  have e5 : Int.tmod (rd b (p + i)) 128 = rd b (p + i) := by rw [tmod_nn (by omega)]; omega
  apply Ev.step
  · intro k; rw [spec_TakeNum.j1]
  simp only [e1, e2, e4, e5, e3, if_pos (show (0 : Int) ≤ p + i by omega), if_pos hlt, if_pos (show (0 : Int) ≤ ((7 * n : Nat) : Int) by omega), if_neg (show ¬ rd b (p + i) ≥ 128 by omega), w64 (x := u + m) (by omega), tmod_nn (show 0 ≤ u + m by omega), spec_l01Number_eq, Option.bind_some, w64 (x := u + m + 1) (by omega), w64 (x := -(u + m + 1)) (by omega), tdiv_neg' (show 0 ≤ u + m + 1 by omega), tdiv_nn (show 0 ≤ u + m by omega), w64 (x := -((u + m + 1) / 2)) (by omega), w64 (x := (u + m) / 2) (by omega), w64 (x := p + i + 1) (by omega)]
  refine Ev.const ?_
  unfold takeFin
  by_cases h1 : (u + m) % 2 = 1
  · simp only [h1, if_true]
    by_cases h2 : rd b (p + i) = 0
    · by_cases h3 : 0 < i
      · simp [h2, h3]
      · simp [h2, h3]; split <;> simp_all
    · simp [h2]; split <;> simp_all
  · simp only [h1, if_false]
    by_cases h2 : rd b (p + i) = 0
    · by_cases h3 : 0 < i
      · simp [h2, h3]
      · simp [h2, h3]; split <;> simp_all
    · simp [h2]; split <;> simp_all
theorem spec_cont (b : List Int) (hb : Bytes b) (hl : b.length ≤ 1048576) (p i u : Int) (n : Nat) (r : Int × Int) (hp : 0 ≤ p) (hi : i = n) (hn : n ≤ 3) (hlt : p + i < b.length) (hu : 0 ≤ u ∧ u ≤ 2097152) (hv : ¬ rd b (p + i) < 128)
    (h : Ev (fun k => spec_TakeNum.l0 k b p (u + rd b (p + i) % 128 * 2 ^ (7 * n)) (i + 1)) r) :
    Ev (fun k => spec_TakeNum.j1 k b p u i false) r := by
  have hr := Bytes_rd hb (p + i)
  have e1 : wrap64 (p + i) = p + i := w64 (by omega)
  have e2 : IntKind.u64.wrap (wrap64 (7 * i)) = ((7 * n : Nat) : Int) := by rw [w64 (by omega), u64_small (by omega)]; omega
  have hm : 0 ≤ rd b (p + i) % 128 * 2 ^ (7 * n) ∧ rd b (p + i) % 128 * 2 ^ (7 * n) ≤ 266338304 := by
    rcases (by omega : n = 0 ∨ n = 1 ∨ n = 2 ∨ n = 3) with e | e | e | e <;> subst e <;> simp <;> omega
  have e3 : shl .i64 (rd b (p + i) % 128) ((7 * n : Nat) : Int) = rd b (p + i) % 128 * 2 ^ (7 * n) := shl_i64 _ _ (7 * n) rfl (by omega) (by omega)
  generalize hm0 : rd b (p + i) % 128 * 2 ^ (7 * n) = m at *
  have e4 : wrap64 (rd b (p + i)) = rd b (p + i) := w64 (by omega)
  have e5 : Int.tmod (rd b (p + i)) 128 = rd b (p + i) % 128 := tmod_nn (by omega)
  apply Ev.step
  · intro k; rw [spec_TakeNum.j1]
  simp only [e1, e2, e4, e5, e3, if_pos (show (0 : Int) ≤ p + i by omega), if_pos hlt, if_pos (show (0 : Int) ≤ ((7 * n : Nat) : Int) by omega), if_pos (show rd b (p + i) ≥ 128 by omega), w64 (x := u + m) (by omega), w64 (x := i + 1) (by omega)]
  exact h
theorem spec_head (b : List Int) (hl : b.length ≤ 1048576) (p i u : Int) (r : Int × Int) (hi : 0 ≤ i ∧ i < 4) (hr : p < 0 ∨ (b.length : Int) ≤ p + i → r = (0, -1))
    (h : ¬ (p < 0 ∨ (b.length : Int) ≤ p + i) → Ev (fun k => spec_TakeNum.j1 k b p u i false) r) : Ev (fun k => spec_TakeNum.l0 k b p u i) r := by
  apply Ev.step
  · intro k; rw [spec_TakeNum.l0]
  simp only [if_pos hi.2, w64 (x := (b.length : Int) - i) (by omega)]
  by_cases h0 : p < 0
  · simp only [if_pos h0]
    rw [hr (Or.inl h0)]
    apply Ev.step
    · intro k; rw [spec_TakeNum.j1]
    exact Ev.now _
  · simp only [if_neg h0]
    by_cases h1 : (b.length : Int) ≤ p + i
    · rw [hr (Or.inr h1)]
      apply Ev.step
      · intro k; rw [spec_TakeNum.j1]
      simp only [decide_eq_true (show p ≥ (b.length : Int) - i by omega), if_true]
      exact Ev.now _
    · simp only [decide_eq_false (show ¬ p ≥ (b.length : Int) - i by omega)]
      exact h (by omega)
theorem ev_spec_TakeNum (b : List Int) (hb : Bytes b) (hl : b.length ≤ 1048576) (p : Int) : Ev (fun k => spec_TakeNum.f k b p) (takeNum b p) := by
  have r0 := Bytes_rd hb p
  have r1 := Bytes_rd hb (p + 1)
  have r2 := Bytes_rd hb (p + 2)
  have r3 := Bytes_rd hb (p + 3)
  simp only [spec_TakeNum.f]
  refine spec_head b hl p 0 0 _ (by omega) (fun h => ?_) (fun h => ?_)
  · unfold takeNum; rw [if_pos (by omega)]
  have hg : ¬ (p < 0 ∨ (b.length : Int) ≤ p) := by omega
  rw [takeNum, if_neg hg]
  by_cases h0 : rd b p < 128
  · rw [if_pos h0]
    have := spec_fin b hb hl p 0 0 0 (by omega) rfl (by omega) (by omega) (by omega) (by simpa using h0)
    simpa using this
  rw [if_neg h0]
  refine spec_cont b hb hl p 0 0 0 _ (by omega) rfl (by omega) (by omega) (by omega) (by simpa using h0) ?_
  simp only [Int.add_zero, Int.zero_add, Nat.mul_zero, Int.pow_zero, Int.mul_one]
  refine spec_head b hl p 1 _ _ (by omega) (fun h => ?_) (fun h => ?_)
  · rw [if_pos (by omega)]
  rw [if_neg (by omega)]
  by_cases h1 : rd b (p + 1) < 128
  · rw [if_pos h1]
    have := spec_fin b hb hl p 1 (rd b p % 128) 1 (by omega) rfl (by omega) (by omega) (by omega) h1
    simpa using this
  rw [if_neg h1]
  refine spec_cont b hb hl p 1 (rd b p % 128) 1 _ (by omega) rfl (by omega) (by omega) (by omega) h1 ?_
  simp only [show (1 : Int) + 1 = 2 from rfl, show (2 : Int) ^ (7 * 1) = 128 from rfl]
  refine spec_head b hl p 2 _ _ (by omega) (fun h => ?_) (fun h => ?_)
  · rw [if_pos (by omega)]
  rw [if_neg (by omega)]
  by_cases h2 : rd b (p + 2) < 128
  · rw [if_pos h2]
    have := spec_fin b hb hl p 2 (rd b p % 128 + rd b (p + 1) % 128 * 128) 2 (by omega) rfl (by omega) (by omega) (by omega) h2
    simpa using this
  rw [if_neg h2]
  refine spec_cont b hb hl p 2 _ 2 _ (by omega) rfl (by omega) (by omega) (by omega) h2 ?_
  simp only [show (2 : Int) + 1 = 3 from rfl, show (2 : Int) ^ (7 * 2) = 16384 from rfl]
  refine spec_head b hl p 3 _ _ (by omega) (fun h => rfl) (fun h => ?_)
  by_cases h3 : rd b (p + 3) < 128
  · have := spec_fin b hb hl p 3 (rd b p % 128 + rd b (p + 1) % 128 * 128 + rd b (p + 2) % 128 * 16384) 3 (by omega) rfl (by omega) (by omega) (by omega) h3
    refine Ev.eq this ?_
    unfold takeFin
    rw [if_pos]
    by_cases h4 : rd b (p + 3) = 0
    · left; exact ⟨h4, by omega⟩
    · right
      rw [isNumB_eq, decide_eq_false_iff_not]
      simp only [show (2 : Int) ^ (7 * 3) = 2097152 from rfl]
      split <;> omega
  · refine spec_cont b hb hl p 3 _ 3 _ (by omega) rfl (by omega) (by omega) (by omega) h3 ?_
    apply Ev.step
    · intro k; rw [spec_TakeNum.l0]
    simp only [if_neg (show ¬ (3 : Int) + 1 < 4 by omega)]
    exact Ev.now _

theorem ev_spec_l05Next (b : List Int) (hb : Bytes b) (hl : b.length ≤ 1048576) (a : Int) (f : Bool) : Ev (fun k => spec_l05Next.f k b a f) (nx b a f) := by
  unfold nx
  by_cases h : f = true
  · simp only [spec_l05Next.f, if_pos h]; exact Ev.now _
  · simp only [spec_l05Next.f, if_neg h]
    refine Ev.bind (ev_spec_TakeNum b hb hl a) ?_
    by_cases h2 : (takeNum b a).2 < 0
    · simp only [if_pos h2]; exact Ev.now _
    · simp only [if_neg h2]; exact Ev.now _

theorem ev_spec_l05Slot (b : List Int) (hb : Bytes b) (hl : b.length ≤ 1048576) (a : Int) (f : Bool) : Ev (fun k => spec_l05Slot.f k b a f) (nxSlot b a f) := by
  simp only [spec_l05Slot.f]
  refine Ev.bind (ev_spec_l05Next b hb hl a f) ?_
  unfold nxSlot
  simp only [spec_l01In_eq, Option.bind_some]
  exact Ev.now _

theorem ev_spec_TakeWord (b : List Int) (hb : Bytes b) (hl : b.length ≤ 1048576) (p : Int) (hp : p ≤ 9223372036854775807) : Ev (fun k => spec_TakeWord.f k b p) (takeWord b p) := by
  have hr := takeNum_next b p
  have hq := @cutB_size b (takeNum b p).2 (takeNum b p).1
  simp only [spec_TakeWord.f, spec_l01In_eq, Option.bind_some]
  refine Ev.bind (ev_spec_TakeNum b hb hl p) ?_
  have bad : takeWord b p = (⟨#[]⟩, -1) → Ev (fun k => spec_TakeWord.j0 k b (takeNum b p).1 (takeNum b p).2 true) (takeWord b p) := by
    intro h
    rw [h]
    apply Ev.step
    · intro k; rw [spec_TakeWord.j0]
    simp only [if_true]
    exact Ev.now _
  refine Ev_ite (fun h0 => ?_) (fun h0 => ?_)
  · exact bad (by unfold takeWord; rw [if_neg (by omega)])
  have hn : -1000000 ≤ (takeNum b p).1 ∧ (takeNum b p).1 ≤ 1000000 := by
    rcases hr with h | h
    · omega
    · simpa [isNumB] using h.2.2.2.2
  refine Ev_ite (fun h1 => ?_) (fun h1 => ?_)
  · have h1' : 1 ≤ (takeNum b p).1 ∧ (takeNum b p).1 ≤ 12 := by simpa using h1
    by_cases h2 : (takeNum b p).1 > b.length - (takeNum b p).2
    · rw [w64 (x := (b.length : Int) - (takeNum b p).2) (by omega), decide_eq_true h2]
      exact bad (by unfold takeWord; rw [if_neg (by omega)])
    · rw [w64 (x := (b.length : Int) - (takeNum b p).2) (by omega), decide_eq_false h2]
      apply Ev.step
      · intro k; rw [spec_TakeWord.j0]
      simp only [if_neg Bool.false_ne_true, w64 (x := (takeNum b p).2 + (takeNum b p).1) (by omega), if_pos (show 0 ≤ (takeNum b p).2 by omega), if_pos (show (takeNum b p).2 ≤ (takeNum b p).2 + (takeNum b p).1 by omega), if_pos (show (takeNum b p).2 + (takeNum b p).1 ≤ b.length by omega)]
      have hz := hq (by omega) (by omega) (by omega)
      refine Ev.bind (ev_spec_WordOk (cutB b (takeNum b p).2 (takeNum b p).1) (by omega)) ?_
      refine Ev_ite (fun h3 => ?_) (fun h3 => ?_)
      · unfold takeWord; rw [if_pos ⟨by omega, by omega, by omega, h3⟩]; exact Ev.now _
      · unfold takeWord; rw [if_neg (fun h => h3 h.2.2.2)]; exact Ev.now _
  · refine bad ?_
    unfold takeWord
    refine if_neg (fun h => ?_)
    have h2 := wordOk_size h.2.2.2
    rw [hq (by omega) (by omega) (by omega)] at h2
    have h1' : ¬ (1 ≤ (takeNum b p).1 ∧ (takeNum b p).1 ≤ 12) := by simpa using h1
    omega

theorem ev_spec_TakeNums_l0 (b : List Int) (hb : Bytes b) (hl : b.length ≤ 1048576) (m : Int) (hm : 0 ≤ m ∧ m ≤ 300) : ∀ (d : Nat) (acc : List Int) (p i : Int), 0 ≤ i → i + d = m → acc.length = i → p ≤ 9223372036854775807 → Ev (fun k => spec_TakeNums.l0 k b m p acc i) (numsFrom b d acc p) := by
  intro d
  induction d with
  | zero =>
    intro acc p i h0 h1 h2 h3
    apply Ev.step
    · intro k; rw [spec_TakeNums.l0]
    simp only [if_neg (show ¬ i < m by omega)]
    exact Ev.now _
  | succ d ih =>
    intro acc p i h0 h1 h2 h3
    have hn := takeNum_lo b p
    apply Ev.step
    · intro k; rw [spec_TakeNums.l0]
    simp only [if_pos (show i < m by omega)]
    refine Ev.bind (ev_spec_TakeNum b hb hl p) ?_
    rw [numsFrom]
    by_cases h4 : (takeNum b p).2 < 0
    · simp only [if_pos h4]; exact Ev.now _
    · simp only [if_neg h4, if_pos (show acc.length < 17592186044416 by omega), w64 (x := i + 1) (by omega)]
      exact ih _ _ _ (by omega) (by omega) (by simp; omega) (by omega)
theorem ev_spec_TakeNums (b : List Int) (hb : Bytes b) (hl : b.length ≤ 1048576) (p : Int) (hp : p ≤ 9223372036854775807) : Ev (fun k => spec_TakeNums.f k b p) (takeNums b p) := by
  have hn := takeNum_lo b p
  simp only [spec_TakeNums.f]
  refine Ev.bind (ev_spec_TakeNum b hb hl p) ?_
  unfold takeNums
  by_cases h0 : (takeNum b p).2 < 0
  · simp only [if_pos h0, if_pos (show (takeNum b p).2 < 0 ∨ _ from Or.inl h0)]
    apply Ev.step
    · intro k; rw [spec_TakeNums.j0]
    exact Ev.now _
  simp only [if_neg h0, spec_l01In_eq, Option.bind_some]
  by_cases h1 : 0 ≤ (takeNum b p).1 ∧ (takeNum b p).1 ≤ 300
  · rw [if_neg (by intro h; rcases h with h | h; exact h0 h; exact h h1)]
    apply Ev.step
    · intro k; rw [spec_TakeNums.j0]
    simp only [decide_eq_true h1, Bool.not_true, if_neg Bool.false_ne_true]
    exact ev_spec_TakeNums_l0 b hb hl _ h1 _ _ _ 0 (by omega) (by omega) (by simp) (by omega)
  · rw [if_pos (Or.inr h1)]
    apply Ev.step
    · intro k; rw [spec_TakeNums.j0]
    simp only [decide_eq_false h1, Bool.not_false, if_true]
    exact Ev.now _

theorem ev_spec_TakeNode_j0 (bad : Bool) (q x0 : Int) (x1 : ByteArray) (x2 x3 x4 : Int) (x5 : Bool) (x6 : List Int) (h1 : x1.size ≤ 12) (h6 : x6.length ≤ 300) : Ev (fun k => spec_TakeNode.j0 k bad q x0 x1 x2 x3 x4 x5 x6) (finN bad q x0 x1 x2 x3 x4 x5 x6) := by
  unfold finN
  simp only [spec_TakeNode.j0]
  refine Ev_ite (fun h => ?_) (fun h => ?_)
  · rw [if_pos h]; exact Ev.now _
  · rw [if_neg h]
    refine Ev.bind (ev_spec_NodeOk x0 x1 x2 x3 x4 x5 x6 (by omega) (by omega)) ?_
    refine Ev_ite (fun h2 => ?_) (fun h2 => ?_)
    · rw [if_pos h2]; exact Ev.now _
    · rw [if_neg h2]; exact Ev.now _
theorem ev_spec_TakeNode_g (b : List Int) (hb : Bytes b) (hl : b.length ≤ 1048576) (x0 a : Int) (ha : a ≤ b.length) : Ev (fun k => spec_TakeNode.g k b x0 a) (takeG b x0 a) := by
  simp only [spec_TakeNode.g]
  unfold takeG
  have he : (⟨#[]⟩ : ByteArray).size ≤ 12 := by rw [emptyB_eq]; omega
  refine Ev_ite (fun h => ?_) (fun h => ?_)
  · rw [if_pos h]
    refine Ev.bind (ev_spec_TakeWord b hb hl a (by omega)) ?_
    refine Ev_ite (fun h => ?_) (fun h => ?_)
    · rw [if_pos h]; exact Ev.now _
    · rw [if_neg h]; exact ev_spec_TakeNode_j0 _ _ _ _ _ _ _ _ _ (takeWord_fit b a).2 (by simp)
  rw [if_neg h]
  refine Ev_ite (fun h => ?_) (fun h => ?_)
  · rw [if_pos h]
    refine Ev.bind (ev_spec_l05Next b hb hl _ _) ?_
    refine Ev.bind (ev_spec_l05Next b hb hl _ _) ?_
    refine Ev.bind (ev_spec_l05Slot b hb hl _ _) ?_
    refine Ev.bind (ev_spec_l05Next b hb hl _ _) ?_
    exact ev_spec_TakeNode_j0 _ _ _ _ _ _ _ _ _ he (by simp)
  rw [if_neg h]
  refine Ev_ite (fun h => ?_) (fun h => ?_)
  · rw [if_pos h]
    refine Ev.bind (ev_spec_TakeNums b hb hl a (by omega)) ?_
    refine Ev_ite (fun h => ?_) (fun h => ?_)
    · rw [if_pos h]; exact Ev.now _
    · rw [if_neg h]; exact ev_spec_TakeNode_j0 _ _ _ _ _ _ _ _ _ he (takeNums_len b a)
  rw [if_neg h]
  refine Ev_ite (fun h => ?_) (fun h => ?_)
  · rw [if_pos h]
    refine Ev.bind (ev_spec_l05Next b hb hl _ _) ?_
    refine Ev.bind (ev_spec_l05Next b hb hl _ _) ?_
    exact ev_spec_TakeNode_j0 _ _ _ _ _ _ _ _ _ he (by simp)
  rw [if_neg h]
  refine Ev_ite (fun h => ?_) (fun h => ?_)
  · rw [if_pos h]
    refine Ev.bind (ev_spec_l05Next b hb hl _ _) ?_
    exact ev_spec_TakeNode_j0 _ _ _ _ _ _ _ _ _ he (by simp)
  rw [if_neg h]
  refine Ev_ite (fun h => ?_) (fun h => ?_)
  · rw [if_pos h]
    refine Ev.bind (ev_spec_l05Slot b hb hl _ _) ?_
    refine Ev.bind (ev_spec_l05Next b hb hl _ _) ?_
    exact ev_spec_TakeNode_j0 _ _ _ _ _ _ _ _ _ he (by simp)
  rw [if_neg h]
  exact ev_spec_TakeNode_j0 _ _ _ _ _ _ _ _ _ he (by simp)
theorem ev_spec_TakeNode (b : List Int) (hb : Bytes b) (hl : b.length ≤ 1048576) (p : Int) : Ev (fun k => spec_TakeNode.f k b p) (takeNode b p) := by
  have hn := takeNum_lo b p
  simp only [spec_TakeNode.f]
  refine Ev.bind (ev_spec_l05Next b hb hl p false) ?_
  unfold takeNode nx
  rw [if_neg Bool.false_ne_true]
  by_cases h : (takeNum b p).2 < 0
  · simp only [if_pos h, if_true]; exact Ev.now _
  · simp only [if_neg h, if_neg Bool.false_ne_true]
    exact ev_spec_TakeNode_g b hb hl _ _ hn.2

theorem ev_spec_CheckOf_l0 (b : List Int) (hb : Bytes b) (hl : b.length ≤ 1099511627776) : ∀ (d i : Nat), i + d = b.length → Ev (fun k => spec_CheckOf.l0 k b (checkTo b i) i) (checkOf b) := by
  intro d
  induction d with
  | zero =>
    intro i h
    obtain rfl : i = b.length := by omega
    apply Ev.step
    · intro k; rw [spec_CheckOf.l0]
    simp only [if_neg (show ¬ ((b.length : Int) < b.length) by omega)]
    exact Ev.now _
  | succ d ih =>
    intro i h
    have ih' := ih (i + 1) (by omega)
    have hc := checkTo_range b i
    have hr := Bytes_rd hb i
    apply Ev.step
    · intro k; rw [spec_CheckOf.l0]
    simp only [if_pos (show (i : Int) < b.length by omega), if_pos (show (0 : Int) ≤ i by omega), w64 (x := (i : Int) + 1) (by omega), w64 (x := rd b i) (by omega), w64 (x := 269 * checkTo b i) (by omega), w64 (x := 269 * checkTo b i + rd b i) (by omega), tmod_nn (show 0 ≤ 269 * checkTo b i + rd b i by omega)]
    exact ih'
theorem ev_spec_CheckOf (b : List Int) (hb : Bytes b) (hl : b.length ≤ 1099511627776) : Ev (fun k => spec_CheckOf.f k b) (checkOf b) :=
  ev_spec_CheckOf_l0 b hb hl b.length 0 (by omega)

theorem ev_spec_l01Bytes_l0 (b : List Int) (hl : b.length ≤ 1099511627776) : ∀ (d i : Nat), i + d = b.length → Ev (fun k => spec_l01Bytes.l0 k b (b.take i) i) b := by
  intro d
  induction d with
  | zero =>
    intro i h
    obtain rfl : i = b.length := by omega
    apply Ev.step
    · intro k; rw [spec_l01Bytes.l0]
    simp only [if_neg (show ¬ ((b.length : Int) < b.length) by omega), List.take_length]
    exact Ev.now _
  | succ d ih =>
    intro i h
    have ih' := ih (i + 1) (by omega)
    apply Ev.step
    · intro k; rw [spec_l01Bytes.l0]
    simp only [if_pos (show (i : Int) < b.length by omega), if_pos (show (0 : Int) ≤ i by omega), w64 (x := (i : Int) + 1) (by omega), if_pos (show (b.take i).length < 140737488355328 by rw [List.length_take]; omega), take_rd b i (by omega)]
    exact ih'
theorem ev_spec_l01Bytes (b : List Int) (hl : b.length ≤ 1099511627776) : Ev (fun k => spec_l01Bytes.f k b) b := by
  have := ev_spec_l01Bytes_l0 b hl b.length 0 (by omega)
  simpa [spec_l01Bytes.f] using this

theorem take2_iff (b : List Int) (h : 2 ≤ b.length) : b.take 2 = [80, 83] ↔ rd b 0 = 80 ∧ rd b 1 = 83 := by
  match b, h with
  | x :: y :: r, _ => simp [rd]
theorem ev_spec_Unframe (b : List Int) (hb : Bytes b) (hl : b.length ≤ 1048576) : Ev (fun k => spec_Unframe.f k b) (unframe b) := by
  have hnx := takeNum_next b 2
  have no : unOk b = false → unframe b = ([], false) := fun h => by unfold unframe; rw [h]; simp
  have bad0 : unOk b = false → Ev (fun k => spec_Unframe.j0 k b true) (unframe b) := by
    intro h
    rw [no h]
    apply Ev.step
    · intro k; rw [spec_Unframe.j0]
    simp only [if_true]
    exact Ev.now _
  have bad1 : unOk b = false → Ev (fun k => spec_Unframe.j1 k b (takeNum b 2).1 (takeNum b 2).2 true) (unframe b) := by
    intro h
    rw [no h]
    apply Ev.step
    · intro k; rw [spec_Unframe.j1]
    simp only [if_true]
    exact Ev.now _
  simp only [spec_Unframe.f]
  by_cases hlt : b.length < 2
  · simp only [if_pos (show (b.length : Int) < 2 by omega)]
    refine bad0 ?_
    unfold unOk
    apply decide_eq_false
    intro h
    have := congrArg List.length h.1
    simp at this
    omega
  have h2 := take2_iff b (by omega)
  simp only [if_neg (show ¬ (b.length : Int) < 2 by omega), if_pos (show (0 : Int) < (b.length : Int) by omega), if_pos (show (1 : Int) < (b.length : Int) by omega)]
  by_cases e0 : rd b 0 = 80
  · simp only [if_pos e0]
    by_cases e1 : rd b 1 = 83
    · have hp := h2.2 ⟨e0, e1⟩
      simp only [bne_eq_false_iff_eq.mpr e1]
      apply Ev.step
      · intro k; rw [spec_Unframe.j0]
      simp only [if_neg Bool.false_ne_true, spec_l01In_eq, Option.bind_some]
      refine Ev.bind (ev_spec_TakeNum b hb hl 2) ?_
      refine Ev_ite (fun h0 => ?_) (fun h0 => ?_)
      · exact bad1 (by unfold unOk; exact decide_eq_false (by omega))
      have hn : -1000000 ≤ (takeNum b 2).1 ∧ (takeNum b 2).1 ≤ 1000000 ∧ (takeNum b 2).2 ≤ b.length := by
        rcases hnx with h | h
        · omega
        · have h4 := h.2.2.2.2
          simp [isNumB] at h4
          omega
      rw [w64 (x := (b.length : Int) - (takeNum b 2).2) (by omega)]
      by_cases h1 : 0 ≤ (takeNum b 2).1 ∧ (takeNum b 2).1 ≤ 4000
      · simp only [decide_eq_true h1, if_true]
        by_cases h3 : (takeNum b 2).1 > (b.length : Int) - (takeNum b 2).2
        · simp only [decide_eq_true h3]
          exact bad1 (by unfold unOk; exact decide_eq_false (by omega))
        · simp only [decide_eq_false h3]
          apply Ev.step
          · intro k; rw [spec_Unframe.j1]
          simp only [if_neg Bool.false_ne_true]
          rw [w64 (x := (takeNum b 2).2 + (takeNum b 2).1) (by omega)]
          simp only [if_pos (show 0 ≤ (takeNum b 2).2 by omega), if_pos (show (takeNum b 2).2 ≤ (takeNum b 2).2 + (takeNum b 2).1 by omega), if_pos (show (takeNum b 2).2 + (takeNum b 2).1 ≤ (b.length : Int) by omega)]
          have hbl := bodyF_length (b := b) (by omega) h1.1 (by omega)
          have hif := frame_iff hb hp (by omega) h1.1 (by omega)
          rw [show (b.take ((takeNum b 2).2 + (takeNum b 2).1).toNat).drop (takeNum b 2).2.toNat = bodyF b from rfl]
          refine Ev.bind (ev_spec_TakeNum b hb hl _) ?_
          refine Ev_ite (fun h5 => ?_) (fun h5 => ?_)
          · refine Ev.bind (ev_spec_CheckOf (bodyF b) (Bytes_body hb) (by omega)) ?_
            refine Ev_ite (fun h6 => ?_) (fun h6 => ?_)
            · refine Ev.bind (ev_spec_l01Bytes (bodyF b) (by omega)) ?_
              unfold unframe
              rw [if_pos (by unfold unOk; exact decide_eq_true ⟨hp, by omega, h1.1, by omega, by omega, hif.1 (Prod.ext h6 h5)⟩)]
              exact Ev.now _
            · rw [no (by unfold unOk; exact decide_eq_false (fun h => h6 (by rw [hif.2 h.2.2.2.2.2])))]; exact Ev.now _
          · rw [no (by unfold unOk; exact decide_eq_false (fun h => h5 (by rw [hif.2 h.2.2.2.2.2])))]; exact Ev.now _
      · simp only [decide_eq_false h1, if_neg Bool.false_ne_true]
        exact bad1 (by unfold unOk; exact decide_eq_false (by omega))
    · simp only [bne_iff_ne.mpr e1]
      exact bad0 (by unfold unOk; exact decide_eq_false (fun h => e1 (h2.1 h.1).2))
  · simp only [if_neg e0]
    exact bad0 (by unfold unOk; exact decide_eq_false (fun h => e0 (h2.1 h.1).1))

theorem ev_spec_DecodePlan_l0 (b : List Int) (hb : Bytes b) (hl : b.length ≤ 1048576) : ∀ (d i : Nat) (p : Int) (acc : List S62), i + d ≤ 40 → acc.length = i → FitL acc → 0 ≤ p → p ≤ b.length → Ev (fun k => spec_DecodePlan.l0 k b (i + d : Nat) p acc i) (decNodes b d p acc) := by
  intro d
  induction d with
  | zero =>
    intro i p acc h ha hs hp hq
    apply Ev.step
    · intro k; rw [spec_DecodePlan.l0]
    simp only [if_neg (show ¬ ((i : Int) < ((i + 0 : Nat) : Int)) by omega)]
    unfold decNodes
    refine Ev_ite (fun h1 => ?_) (fun h1 => ?_)
    · rw [if_pos h1]; exact Ev.now _
    · rw [if_neg h1]
      refine Ev.bind (ev_spec_PlanOk acc (by omega) (fun x hx => by have := hs x hx; omega)) ?_
      refine Ev_ite (fun h2 => ?_) (fun h2 => ?_)
      · rw [if_pos h2]; exact Ev.now _
      · rw [if_neg h2]; exact Ev.now _
  | succ d ih =>
    intro i p acc h ha hs hp hq
    have hf := takeNode_fit b p
    apply Ev.step
    · intro k; rw [spec_DecodePlan.l0]
    simp only [if_pos (show (i : Int) < ((i + (d + 1) : Nat) : Int) by omega)]
    refine Ev.bind (ev_spec_TakeNode b hb hl p) ?_
    unfold decNodes
    refine Ev_ite (fun h1 => ?_) (fun h1 => ?_)
    · rw [if_pos h1]; exact Ev.now _
    rw [if_neg h1]
    rcases hf with hf | hf
    · exact absurd hf h1
    simp only [if_pos (show acc.length < 1759218604441 by omega), w64 (x := (i : Int) + 1) (by omega)]
    have ih' := ih (i + 1) (takeNode b p).2.2.2.2.2.2.2 (acc ++ [nodeOf (takeNode b p)]) (by omega) (by simp; omega) (fitL_snoc hs hf.2.2) (by omega) (by omega)
    rw [show i + 1 + d = i + (d + 1) by omega] at ih'
    exact ih'
theorem ev_spec_DecodePlan (b : List Int) (hb : Bytes b) (hl : b.length ≤ 1048576) : Ev (fun k => spec_DecodePlan.f k b) (decPlan b) := by
  have hu := unframe_length b
  have hbu := Bytes_unframe hb
  have hn := takeNum_next (unframe b).1 0
  simp only [spec_DecodePlan.f]
  refine Ev.bind (ev_spec_Unframe b hb hl) ?_
  unfold decPlan
  generalize (unframe b).1 = u at *
  generalize (unframe b).2 = o at *
  refine Ev_ite (fun h0 => ?_) (fun h0 => ?_)
  · rw [if_pos h0]
    refine Ev.bind (ev_spec_TakeNum u hbu (by omega) 0) ?_
    unfold decPBody
    refine Ev_ite (fun h1 => ?_) (fun h1 => ?_)
    · rw [if_pos (.inl h1)]
      apply Ev.step
      · intro k; rw [spec_DecodePlan.j0]
      simp only [if_true]
      exact Ev.now _
    simp only [spec_l01In_eq, Option.bind_some]
    by_cases h2 : 0 ≤ (takeNum u 0).1 ∧ (takeNum u 0).1 ≤ 40
    · rw [if_neg (fun h => h.elim h1 (fun h => h h2))]
      simp only [decide_eq_true h2]
      apply Ev.step
      · intro k; rw [spec_DecodePlan.j0]
      simp only [Bool.not_true, if_neg Bool.false_ne_true]
      have := ev_spec_DecodePlan_l0 u hbu (by omega) (takeNum u 0).1.toNat 0 (takeNum u 0).2 [] (by omega) rfl fitL_nil (by omega) (by omega)
      rw [show (((0 + (takeNum u 0).1.toNat : Nat)) : Int) = (takeNum u 0).1 by omega] at this
      exact this
    · rw [if_pos (.inr h2)]
      simp only [decide_eq_false h2]
      apply Ev.step
      · intro k; rw [spec_DecodePlan.j0]
      simp only [Bool.not_false, if_true]
      exact Ev.now _
  · rw [if_neg h0]; exact Ev.now _

theorem holds : ∀ (l0 : List (Int)), (l0.length ≤ 9223372036854775807 ∧ ∀ yl0 ∈ l0, (Lit.int .u8 yl0).wf = true) → ∃ k, laws_FnExactDecodePlan.Facts k l0 := by
  intro b hl
  by_cases hs : (b.length : Int) > 1048576
  · exact ⟨0, .inl hs⟩
  have hb := Bytes_of hl.2
  obtain ⟨hf, hel⟩ := decPlan_fit b
  have hpm : ∀ x ∈ (decPlan b).1, x.f6.length ≤ 1048576 := fun x hx => by have := hf x hx; omega
  have hmr := markNEnd_range (decPlan b).1 1 hpm
  obtain ⟨L, hL, _, hm⟩ := ev_markByteS b 1 (by omega) (by omega)
  obtain ⟨k2, e2⟩ := ev_toByteS b (by omega)
  obtain ⟨k3, e3⟩ := ev_spec_DecodePlan b hb (by omega)
  obtain ⟨k4, e4⟩ := ev_impl_DecodePlan b hb (by omega)
  obtain ⟨k5, e5⟩ := ev_laws_eqNodeS (decPlan b).1 (by omega) (fun x hx => by have := hf x hx; omega)
  obtain ⟨k6, e6⟩ := ev_eqByteS b (by omega)
  obtain ⟨k7, e7⟩ := hm
  obtain ⟨k8, e8⟩ := ev_markNodeS (decPlan b).1 (by omega) hpm
  obtain ⟨k9, e9⟩ := ev_heldNodeS (decPlan b).1 (by omega) hpm
  let k := k2 + k3 + k4 + k5 + k6 + k7 + k8 + k9
  exact ⟨k, .inr ⟨b, (decPlan b).1, (decPlan b).2, _, L, _, _, hs, e2 k (by omega), e3 k (by omega), e4 k (by omega), e5 k (by omega), e6 k (by omega), e7 k (by omega), by omega, e8 k (by omega), e9 k (by omega), by omega⟩⟩

end EFnExactDecodePlan
open Go.RowKit Go.Proofs.YtgmhohafoclmpaaW.PrintWords Go.Proofs.YtgmhohafoclmpaaW.PrintLast Go.Proofs.YtgmhohafoclmpaaW.PrintMore Go.Proofs.Ytgmhohafoclmpaa.Lib Go.Proofs.Ytgmhohafoclmpaa.Q
theorem FnExactDecodePlan : ∀ (l0 : List (Int)), (l0.length ≤ 9223372036854775807 ∧ ∀ yl0 ∈ l0, (Lit.int .u8 yl0).wf = true) → ∃ k, laws_FnExactDecodePlan.Facts k l0 := EFnExactDecodePlan.holds
end Go.Proofs.Ytgmhohafoclmpaa.Pure
