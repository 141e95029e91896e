/- What the functions over plans give, in plain Lean; and the law of plans: parts, ends, children, depths, counts. -/
import Derived.Test.YtbdfidnldaghbaaQx3
import Derived.Test.YtbdfidnldaghbaaQx4
import Derived.Test.YtbdfidnldaghbaaQx5
import Derived.Test.YtbdfidnldaghbaaQx6
import Derived.Test.YtbdfidnldaghbaaQx7
import Derived.Test.YtbdfidnldaghbaaQx8
import Derived.Test.YtbdfidnldaghbaaQx9
import Derived.Test.YtbdfidnldaghbaaLib
set_option linter.unusedVariables false
set_option linter.unusedSimpArgs false
namespace Go.Proofs.Ytbdfidnldaghbaa.Ep
open Go.RowKit Go.Proofs.YtbdfidnldaghbaaW.PrintWords Go.Proofs.YtbdfidnldaghbaaW.PrintLast Go.Proofs.YtbdfidnldaghbaaW.PrintMore Go.Proofs.Ytbdfidnldaghbaa.Lib Go.Proofs.Ytbdfidnldaghbaa.Q
theorem ev_impl_ArityOf (a : Int) : Ev (fun k => impl_ArityOf.f k a) (arity a) := by
  simp only [impl_ArityOf.f]
  by_cases h0 : a = 0
  · subst h0; simp only [if_true]; exact Ev.now _
  by_cases h3 : a = 3
  · subst h3
    simp only [if_neg (show ¬ (3 : Int) = 0 by omega), if_true]
    apply Ev.step
    · intro k; rw [impl_ArityOf.j0]
    exact Ev.const (by simp [arity])
  simp only [if_neg h0, if_neg h3]
  apply Ev.step
  · intro k; rw [impl_ArityOf.j0]
  refine Ev.const ?_
  unfold arity
  by_cases h4 : a = 4
  · subst h4; simp
  · simp only [beq_iff_eq, if_neg h0, if_neg h3, if_neg h4]
    repeat' split
    all_goals first | rfl | omega

def kAt (p : List S58) (k : Nat) : Int := (rd_T58 p (k : Int)).f0
/-- The place behind the node at k and all below it, and how deep that is; none if it is not whole within so many levels. -/
def endP (p : List S58) : Nat → Nat → Option (Nat × Nat)
  | 0, _ => none
  | room + 1, k =>
    if p.length ≤ k then none
    else if arity (kAt p k) = 2 then (endP p room (k + 1)).bind fun x => (endP p room x.1).bind fun y => some (y.1, max x.2 y.2 + 1)
    else if arity (kAt p k) = 1 then (endP p room (k + 1)).bind fun x => some (x.1, x.2 + 1)
    else some (k + 1, 1)
def endI : Option (Nat × Nat) → Int
  | none => -1
  | some x => x.1
theorem arity_cases (k : Int) : arity k = -1 ∨ arity k = 0 ∨ arity k = 1 ∨ arity k = 2 := by
  unfold arity; repeat' split
  all_goals simp
theorem endP_range (p : List S58) : ∀ (room k : Nat) (x : Nat × Nat), endP p room k = some x → k < x.1 ∧ x.1 ≤ p.length ∧ 1 ≤ x.2 ∧ x.2 ≤ room := by
  intro room
  induction room with
  | zero => intro k x h; simp [endP] at h
  | succ room ih =>
    intro k x h
    unfold endP at h
    by_cases h0 : p.length ≤ k
    · rw [if_pos h0] at h; cases h
    rw [if_neg h0] at h
    by_cases h2 : arity (kAt p k) = 2
    · rw [if_pos h2] at h
      obtain ⟨y, hy, h⟩ := Option.bind_eq_some_iff.1 h
      obtain ⟨z, hz, h⟩ := Option.bind_eq_some_iff.1 h
      injection h with h
      have a := ih _ _ hy
      have b := ih _ _ hz
      subst h
      refine ⟨?_, ?_, ?_, ?_⟩ <;> simp <;> omega
    rw [if_neg h2] at h
    by_cases h1 : arity (kAt p k) = 1
    · rw [if_pos h1] at h
      obtain ⟨y, hy, h⟩ := Option.bind_eq_some_iff.1 h
      injection h with h
      have a := ih _ _ hy
      subst h
      refine ⟨?_, ?_, ?_, ?_⟩ <;> simp <;> omega
    rw [if_neg h1] at h
    injection h with h
    subst h
    refine ⟨?_, ?_, ?_, ?_⟩ <;> simp <;> omega
theorem endP_mono (p : List S58) : ∀ (room k : Nat) (x : Nat × Nat) (r : Nat), endP p room k = some x → room ≤ r → endP p r k = some x := by
  intro room
  induction room with
  | zero => intro k x r h; simp [endP] at h
  | succ room ih =>
    intro k x r h hr
    obtain ⟨r, rfl⟩ : ∃ q, r = q + 1 := ⟨r - 1, by omega⟩
    unfold endP at h ⊢
    by_cases h0 : p.length ≤ k
    · rw [if_pos h0] at h; cases h
    rw [if_neg h0] at h ⊢
    by_cases h2 : arity (kAt p k) = 2
    · rw [if_pos h2] at h ⊢
      obtain ⟨y, hy, h⟩ := Option.bind_eq_some_iff.1 h
      obtain ⟨z, hz, h⟩ := Option.bind_eq_some_iff.1 h
      rw [ih _ _ r hy (by omega), Option.bind_some, ih _ _ r hz (by omega), Option.bind_some]; exact h
    rw [if_neg h2] at h ⊢
    by_cases h1 : arity (kAt p k) = 1
    · rw [if_pos h1] at h ⊢
      obtain ⟨y, hy, h⟩ := Option.bind_eq_some_iff.1 h
      rw [ih _ _ r hy (by omega), Option.bind_some]; exact h
    rw [if_neg h1] at h ⊢
    exact h
theorem endI_lo (o : Option (Nat × Nat)) : -1 ≤ endI o := by
  cases o with
  | none => simp [endI]
  | some x => simp [endI] <;> omega
theorem endI_neg {o : Option (Nat × Nat)} : endI o < 0 ↔ o = none := by
  cases o with
  | none => simp [endI]
  | some x => simp [endI]
theorem w01 : wrap64 (0 + 1) = 1 := by rw [w64 (by omega)]; rfl
theorem w12 : wrap64 (1 + 1) = 2 := by rw [w64 (by omega)]; rfl

theorem ev_impl_end (p : List S58) (hl : p.length ≤ 1048576) : ∀ (room k : Nat), room ≤ 10 → k ≤ 1099511627776 → Ev (fun n => impl_end.f n p k (11 - room : Int)) (endI (endP p room k)) := by
  intro room
  induction room with
  | zero =>
    intro k _ hk
    apply Ev.step
    · intro k; rw [impl_end.f]
    refine Ev_ite (fun _ => ?_) (fun _ => ?_)
    · apply Ev.step
      · intro k; rw [impl_end.j0]
      exact Ev.now _
    · apply Ev.step
      · intro k; rw [impl_end.j0]
      exact Ev.now _
  | succ room ih =>
    intro k hr hk
    apply Ev.step
    · intro k; rw [impl_end.f]
    refine Ev_ite (fun h0 => ?_) (fun h0 => ?_)
    · rw [endP, if_pos (by omega)]
      apply Ev.step
      · intro k; rw [impl_end.j0]
      exact Ev.now _
    rw [endP, if_neg (by omega)]
    simp only [decide_eq_false (show ¬ (11 - ((room + 1 : Nat) : Int)) > 10 by omega)]
    apply Ev.step
    · intro k; rw [impl_end.j0]
    simp only [if_neg Bool.false_ne_true, if_pos (show (0 : Int) ≤ k by omega), if_pos (show (k : Int) < p.length by omega)]
    refine Ev.bind (ev_impl_ArityOf _) ?_
    have e1 : (11 : Int) - ((room + 1 : Nat) : Int) + 1 = 11 - (room : Int) := by omega
    have e2 : ((k : Int) + 1) = ((k + 1 : Nat) : Int) := by omega
    have hka : arity (rd_T58 p (k : Int)).f0 = arity (kAt p k) := rfl
    rw [hka]
    have i1 := ih (k + 1) (by omega) (by omega)
    simp only [w64 (x := (k : Int) + 1) (by omega), e2, w64 (x := ((k + 1 : Nat) : Int)) (by omega)]
    rcases arity_cases (kAt p k) with h | h | h | h
    · rw [h, if_neg (by omega), if_neg (by omega)]
      apply Ev.step
      · intro k; rw [impl_end.l0]
      simp only [if_neg (show ¬ (0 : Int) < -1 by omega)]
      exact Ev.now _
    · rw [h, if_neg (by omega), if_neg (by omega)]
      apply Ev.step
      · intro k; rw [impl_end.l0]
      simp only [if_neg (show ¬ (0 : Int) < 0 by omega)]
      exact Ev.now _
    · rw [h, if_neg (by omega), if_pos rfl]
      apply Ev.step
      · intro k; rw [impl_end.l0]
      simp only [if_pos (show (0 : Int) < 1 by omega), w64 (x := (11 : Int) - ((room + 1 : Nat) : Int) + 1) (by omega), e1, w64 (x := (11 : Int) - (room : Int)) (by omega)]
      refine Ev.bind i1 ?_
      cases hx : endP p room (k + 1) with
      | none => exact Ev.now _
      | some x =>
        simp only [if_neg (show ¬ endI (some x) < 0 by simp [endI]), Option.bind_some]
        apply Ev.step
        · intro k; rw [impl_end.l0]
        simp only [w01, if_neg (show ¬ (1 : Int) < 1 by omega)]
        exact Ev.now _
    · rw [h, if_pos rfl]
      apply Ev.step
      · intro k; rw [impl_end.l0]
      simp only [if_pos (show (0 : Int) < 2 by omega), w64 (x := (11 : Int) - ((room + 1 : Nat) : Int) + 1) (by omega), e1, w64 (x := (11 : Int) - (room : Int)) (by omega)]
      refine Ev.bind i1 ?_
      cases hx : endP p room (k + 1) with
      | none => exact Ev.now _
      | some x =>
        have hxr := endP_range p _ _ _ hx
        simp only [if_neg (show ¬ endI (some x) < 0 by simp [endI]), Option.bind_some]
        apply Ev.step
        · intro k; rw [impl_end.l0]
        simp only [w01, w12, if_pos (show (1 : Int) < 2 by omega), w64 (x := (11 : Int) - ((room + 1 : Nat) : Int) + 1) (by omega), e1, w64 (x := (11 : Int) - (room : Int)) (by omega)]
        rw [show endI (some x) = ((x.1 : Nat) : Int) from rfl]
        refine Ev.bind (ih x.1 (by omega) (by omega)) ?_
        cases hy : endP p room x.1 with
        | none => exact Ev.now _
        | some y =>
          simp only [if_neg (show ¬ endI (some y) < 0 by simp [endI]), Option.bind_some]
          apply Ev.step
          · intro k; rw [impl_end.l0]
          simp only [if_neg (show ¬ (2 : Int) < 2 by omega)]
          exact Ev.now _

theorem impl_in_eq (a b c : Int) : impl_in.f a b c = some (decide (b ≤ a ∧ a ≤ c)) := by
  unfold impl_in.f
  by_cases h : b ≤ a
  · rw [if_pos h]; simp [h]
  · rw [if_neg (show ¬ a ≥ b from h)]; simp [h]

theorem ev_impl_WordOk_l0 (s : ByteArray) (hs : s.size ≤ 1099511627776) : ∀ (d i : Nat), i + d = s.size → Ev (fun k => impl_WordOk.l0 k s (s.size : Int) i) (wordFrom s d i && decide (1 ≤ s.size ∧ s.size ≤ 12)) := by
  intro d
  induction d with
  | zero =>
    intro i h
    apply Ev.step
    · intro k; rw [impl_WordOk.l0]
    simp only [if_neg (show ¬ ((i : Int) < s.size) by omega), impl_in_eq, Option.bind_some, wordFrom, Bool.true_and]
    refine Ev.const (congrArg some ?_)
    exact decide_eq_decide.mpr (by omega)
  | succ d ih =>
    intro i h
    have ih' := ih (i + 1) (by omega)
    apply Ev.step
    · intro k; rw [impl_WordOk.l0]
    simp only [if_pos (show (i : Int) < s.size by omega), if_pos (show (0 : Int) ≤ i by omega), w64 (x := (i : Int) + 1) (by omega), wordFrom]
    by_cases h1 : bt s i ≥ 97
    · simp only [if_pos h1]
      by_cases h2 : bt s i ≤ 122
      · simp only [if_pos h2, show okAt s i = true by simp [okAt]; omega, Bool.true_and]; exact ih'
      · simp only [if_neg h2]
        by_cases h0 : (i : Int) = 0
        · simp only [if_pos h0, show okAt s i = false by simp [okAt]; omega, Bool.false_and]; exact Ev.now _
        · simp only [if_neg h0, if_neg (show ¬ bt s i < 48 by omega), if_pos (show bt s i > 57 by omega), show okAt s i = false by simp [okAt]; omega, Bool.false_and]; exact Ev.now _
    · simp only [if_neg h1]
      by_cases h0 : (i : Int) = 0
      · simp only [if_pos h0, show okAt s i = false by simp [okAt]; omega, Bool.false_and]; exact Ev.now _
      · simp only [if_neg h0]
        by_cases h2 : bt s i < 48
        · simp only [if_pos h2, show okAt s i = false by simp [okAt]; omega, Bool.false_and]; exact Ev.now _
        · by_cases h3 : bt s i > 57
          · simp only [if_neg h2, if_pos h3, show okAt s i = false by simp [okAt]; omega, Bool.false_and]; exact Ev.now _
          · simp only [if_neg h2, if_neg h3, show okAt s i = true by simp [okAt]; omega, Bool.true_and]; exact ih'
theorem ev_impl_WordOk (s : ByteArray) (hs : s.size ≤ 1099511627776) : Ev (fun k => impl_WordOk.f k s) (wordOk s) := by
  have := ev_impl_WordOk_l0 s hs s.size 0 (by omega)
  rw [Bool.and_comm] at this
  exact this

theorem impl_isCol_eq (a : Int) : impl_isCol.f a = some (colB a) := by
  unfold impl_isCol.f; rw [impl_in_eq]; rfl

theorem impl_isNum_eq (a : Int) : impl_isNum.f a = some (isNumB a) := by
  unfold impl_isNum.f; rw [impl_in_eq]; rfl

theorem impl_isSlot_eq (a : Int) : impl_isSlot.f a = some (slotB a) := by
  unfold impl_isSlot.f; rw [impl_in_eq]; rfl

theorem ev_slices_Equal_int_int_l0 (a b : List Int) (hl : a.length = b.length) (ha : a.length ≤ 1099511627776) : ∀ (d i : Nat), i + d = a.length → Ev (fun k => slices_Equal_int_int.l0 k a b (a.length : Int) i) (decide (a.drop i = b.drop i)) := by
  intro d
  induction d with
  | zero =>
    intro i h
    apply Ev.step
    · intro k; rw [slices_Equal_int_int.l0]
    simp only [if_neg (show ¬ ((i : Int) < a.length) by omega), drop_nil' (show a.length ≤ i by omega), drop_nil' (show b.length ≤ i by omega)]
    exact Ev.const (by simp)
  | succ d ih =>
    intro i h
    have ih' := ih (i + 1) (by omega)
    apply Ev.step
    · intro k; rw [slices_Equal_int_int.l0]
    simp only [if_pos (show (i : Int) < a.length by omega), if_pos (show (i : Int) < b.length by omega), if_pos (show (0 : Int) ≤ i by omega), w64 (x := (i : Int) + 1) (by omega), eq_drop (show i < a.length by omega) (show i < b.length by omega)]
    by_cases he : rd a i = rd b i
    · simp only [if_pos he]
      simpa [he] using ih'
    · simp only [if_neg he]
      exact Ev.const (by simp [he])
theorem ev_slices_Equal_int_int (a b : List Int) (ha : a.length ≤ 1099511627776) : Ev (fun k => slices_Equal_int_int.f k a b) (decide (a = b)) := by
  simp only [slices_Equal_int_int.f]
  by_cases hl : a.length = b.length
  · simp only [if_pos (show (a.length : Int) = b.length by omega)]
    simpa using ev_slices_Equal_int_int_l0 a b hl ha a.length 0 (by omega)
  · simp only [if_neg (show ¬ (a.length : Int) = b.length by omega)]
    exact Ev.const (congrArg some (decide_eq_false (fun h => hl (by rw [h]))).symm)

theorem ev_impl_sameNode (a0 : Int) (a1 : ByteArray) (a2 a3 a4 : Int) (a5 : Bool) (a6 : List Int) (b0 : Int) (b1 : ByteArray) (b2 b3 b4 : Int) (b5 : Bool) (b6 : List Int) (h : a6.length ≤ 1099511627776) :
    Ev (fun k => impl_sameNode.f k a0 a1 a2 a3 a4 a5 a6 b0 b1 b2 b3 b4 b5 b6) (decide (a0 = b0 ∧ a1.toList = b1.toList ∧ a2 = b2 ∧ a3 = b3 ∧ a4 = b4 ∧ a5 = b5 ∧ a6 = b6)) := by
  simp only [impl_sameNode.f]
  refine Ev_ite (fun h0 => ?_) (fun h0 => Ev.const (by simp [h0]))
  refine Ev_ite (fun h1 => ?_) (fun h1 => Ev.const (by simp [h1]))
  refine Ev_ite (fun h2 => ?_) (fun h2 => Ev.const (by simp [h2]))
  refine Ev_ite (fun h3 => ?_) (fun h3 => Ev.const (by simp [h3]))
  refine Ev_ite (fun h4 => ?_) (fun h4 => Ev.const (by simp [h4]))
  refine Ev_ite (fun h5 => ?_) (fun h5 => Ev.const (by have : ¬ a5 = b5 := by simpa using h5
                                                       simp [this]))
  have h5' : a5 = b5 := by simpa using h5
  refine Ev.bind (ev_slices_Equal_int_int a6 b6 h) ?_
  exact Ev.const (by simp [h0, h1, h2, h3, h4, h5'])

theorem impl_NodeOk_1_eq (a : Int) : impl_NodeOk_1.f a = some ((fun a => !colB a) a) := by
  unfold impl_NodeOk_1.f; rw [impl_isCol_eq]; rfl

theorem ev_IndexFunc_l0 (l : List Int) (hl : l.length ≤ 1099511627776) : ∀ (d i : Nat), i + d = l.length → ∃ r, Ev (fun k => slices_IndexFunc_int_int.l0 k l (l.length : Int) i) r ∧ decide (r ≥ 0) = (l.drop i).any (fun a => !colB a) := by
  intro d
  induction d with
  | zero =>
    intro i h
    refine ⟨-1, ?_, by rw [drop_nil' (show l.length ≤ i by omega)]; rfl⟩
    apply Ev.step
    · intro k; rw [slices_IndexFunc_int_int.l0]
    simp only [if_neg (show ¬ ((i : Int) < l.length) by omega)]
    exact Ev.now _
  | succ d ih =>
    intro i h
    obtain ⟨r, e, g⟩ := ih (i + 1) (by omega)
    by_cases hp : (fun a => !colB a) (rd l i) = true
    · have hp' := hp
      simp only [] at hp'
      refine ⟨i, ?_, ?_⟩
      · apply Ev.step
        · intro k; rw [slices_IndexFunc_int_int.l0]
        simp only [if_pos (show (i : Int) < l.length by omega), if_pos (show (0 : Int) ≤ i by omega), impl_NodeOk_1_eq, Option.bind_some]
        simp only [hp', if_true]
        exact Ev.now _
      · rw [drop_rd l i (by omega), List.any_cons]; simp only [hp', Bool.true_or]; simp
    · have hp' := Bool.eq_false_iff.mpr hp
      simp only [] at hp'
      refine ⟨r, ?_, ?_⟩
      · apply Ev.step
        · intro k; rw [slices_IndexFunc_int_int.l0]
        simp only [if_pos (show (i : Int) < l.length by omega), if_pos (show (0 : Int) ≤ i by omega), impl_NodeOk_1_eq, Option.bind_some, w64 (x := (i : Int) + 1) (by omega)]
        simp only [hp', if_neg Bool.false_ne_true]
        simpa using e
      · rw [drop_rd l i (by omega), List.any_cons]; simp only [hp', Bool.false_or]; exact g

theorem ev_ContainsFunc (l : List Int) (hl : l.length ≤ 1099511627776) : Ev (fun k => slices_ContainsFunc_int_int.f k l) (l.any (fun a => !colB a)) := by
  obtain ⟨r, e, g⟩ := ev_IndexFunc_l0 l hl l.length 0 (by omega)
  simp only [slices_ContainsFunc_int_int.f, slices_IndexFunc_int_int.f]
  refine Ev.bind (by simpa using e) ?_
  refine Ev.const (congrArg some ?_)
  rw [g, List.drop_zero]

theorem all_colB (l : List Int) : (l.any (fun a => !colB a)) = !l.all colB := by
  induction l with
  | nil => rfl
  | cons a l ih => simp [ih]
theorem empty_list : (⟨#[]⟩ : ByteArray).toList = [] := by rw [Lib.toList_data]
theorem ev_impl_NodeOk (kind : Int) (name : ByteArray) (col op num : Int) (slot : Bool) (cols : List Int) (hl : cols.length ≤ 1099511627776) (hn : name.size ≤ 1099511627776) : Ev (fun k => impl_NodeOk.f k kind name col op num slot cols) (nodeOk kind name col op num slot cols) := by
  have same := fun (a0 : Int) (a1 : ByteArray) (a2 a3 a4 : Int) (a5 : Bool) (a6 : List Int) (h : a6.length ≤ 1099511627776) => ev_impl_sameNode a0 a1 a2 a3 a4 a5 a6 0 (⟨#[]⟩ : ByteArray) 0 0 0 false [] h
  have hnil : ([] : List Int).length ≤ 1099511627776 := by simp
  simp only [impl_NodeOk.f, impl_isCol_eq, impl_in_eq, impl_isSlot_eq, Option.bind_some]
  refine Ev_ite (fun h0 => ?_) (fun h0 => ?_)
  · refine Ev.bind (ev_impl_WordOk name hn) ?_
    refine Ev_ite (fun h1 => ?_) (fun h1 => Ev.const (by simp [nodeOk, nodeKind, h0, Bool.eq_false_iff.mpr h1]))
    refine Ev.bind (same _ _ _ _ _ _ _ hl) ?_
    refine Ev.const (congrArg some ?_)
    cases slot <;> simp [nodeOk, nodePre, nodeKind, h0, h1, empty_list] <;> by_cases e1 : cols = [] <;> by_cases e2 : op = 0 <;> by_cases e3 : col = 0 <;> simp [*]
  refine Ev_ite (fun h1 => ?_) (fun h1 => ?_)
  · have tail : ∀ b, b = (colB col && decide (0 ≤ op ∧ op ≤ 3)) → Ev (fun k => impl_NodeOk.j0 k b kind name col op num slot cols 0 name col op num slot cols) (nodeOk kind name col op num slot cols) := by
      intro b hb
      have hk : nodeKind kind name col op num slot cols = (b && isNumB num && decide (op = 3 → num = 0 ∧ slot = false)) := by
        rw [hb]; simp [nodeKind, h1]
      unfold nodeOk
      rw [hk]
      apply Ev.step
      · intro k; rw [impl_NodeOk.j0]
      simp only [impl_isSlot_eq, impl_isNum_eq, Option.bind_some]
      cases b with
      | false =>
        simp only [Bool.false_and, Bool.and_false]
        refine Ev_ite (fun _ => Ev.const (by simp)) (fun _ => Ev_ite (fun _ => Ev.const (by simp)) (fun _ => Ev.const (by simp)))
      | true =>
        simp only [Bool.true_and, if_true]
        refine Ev_ite (fun h3 => ?_) (fun h3 => ?_)
        · refine Ev_ite (fun h4 => Ev_ite (fun h5 => ?_) (fun h5 => ?_)) (fun h4 => ?_)
          · exact Ev.const (by simp [h3, h5])
          · refine Ev.bind (same _ _ _ _ _ _ _ hl) ?_
            refine Ev.const (congrArg some ?_)
            have h5' : slot = false := by simpa using h5
            subst h4 h5'
            simp [nodePre, h1, h3, empty_list, isNumB]
          · exact Ev.const (by simp [h3, h4])
        · refine Ev_ite (fun h4 => ?_) (fun h4 => ?_)
          · refine Ev_ite (fun h5 => ?_) (fun h5 => Ev.const (by simp [nodePre, h4, Bool.eq_false_iff.mpr h5]))
            refine Ev.bind (same _ _ _ _ _ _ _ hl) ?_
            refine Ev.const (congrArg some ?_)
            have h6 : isNumB num = true := by simp [slotB] at h5; simp [isNumB]; omega
            simp [nodePre, h1, h3, h4, h5, h6, empty_list]
          · refine Ev_ite (fun h5 => ?_) (fun h5 => Ev.const (by simp [Bool.eq_false_iff.mpr h5]))
            refine Ev.bind (same _ _ _ _ _ _ _ hl) ?_
            refine Ev.const (congrArg some ?_)
            have h4' : slot = false := by simpa using h4
            simp [nodePre, h1, h3, h4', h5, empty_list]
    refine Ev_ite (fun h2 => tail _ (by rw [h2, Bool.true_and])) (fun h2 => tail _ (by rw [Bool.eq_false_iff.mpr h2, Bool.false_and]))
  refine Ev_ite (fun h2 => ?_) (fun h2 => ?_)
  · refine Ev_ite (fun h3 => ?_) (fun h3 => Ev.const (by
      have : ¬ (1 ≤ cols.length ∧ cols.length ≤ 6) := by simp only [decide_eq_true_eq] at h3; omega
      simp [nodeOk, nodeKind, h2]
      intro _ _ h4 h5; exact absurd ⟨h4, h5⟩ this))
    refine Ev.bind (ev_ContainsFunc cols hl) ?_
    rw [all_colB]
    have h3' : 1 ≤ cols.length ∧ cols.length ≤ 6 := by simp only [decide_eq_true_eq] at h3; omega
    refine Ev_ite (fun h4 => Ev.const (by
      have : cols.all colB = false := by simpa using h4
      simp [nodeOk, nodeKind, h2, this])) (fun h4 => ?_)
    have h5 : cols.all colB = true := by simpa using h4
    refine Ev.bind (same _ _ _ _ _ _ _ hnil) ?_
    refine Ev.const (congrArg some ?_)
    cases slot <;> simp only [nodeOk, nodePre, nodeKind, h2, h5, decide_eq_true h3', empty_list] <;> simp <;> by_cases e1 : name.toList = [] <;> by_cases e2 : op = 0 <;> by_cases e3 : col = 0 <;> simp [*]
  refine Ev_ite (fun h3 => ?_) (fun h3 => ?_)
  · refine Ev_ite (fun h4 => ?_) (fun h4 => Ev.const (by simp [nodeOk, nodeKind, h3, Bool.eq_false_iff.mpr h4]))
    refine Ev_ite (fun h5 => ?_) (fun h5 => Ev.const (by simp [nodeOk, nodeKind, h3, Bool.eq_false_iff.mpr h5]))
    refine Ev.bind (same _ _ _ _ _ _ _ hl) ?_
    refine Ev.const (congrArg some ?_)
    cases slot <;> simp [nodeOk, nodePre, nodeKind, h3, h4, h5, empty_list] <;> by_cases e1 : cols = [] <;> by_cases e2 : op = 0 <;> by_cases e3 : name.toList = [] <;> simp [*]
  refine Ev_ite (fun h4 => ?_) (fun h4 => ?_)
  · refine Ev_ite (fun h5 => ?_) (fun h5 => Ev.const (by simp [nodeOk, nodeKind, h4, Bool.eq_false_iff.mpr h5]))
    refine Ev.bind (same _ _ _ _ _ _ _ hl) ?_
    refine Ev.const (congrArg some ?_)
    cases slot <;> simp [nodeOk, nodePre, nodeKind, h4, h5, empty_list] <;> by_cases e1 : cols = [] <;> by_cases e2 : op = 0 <;> by_cases e3 : name.toList = [] <;> simp [*]
  refine Ev_ite (fun h5 => ?_) (fun h5 => ?_)
  · refine Ev_ite (fun h6 => ?_) (fun h6 => Ev.const (by
      have : ¬ (0 ≤ num ∧ num ≤ 1000000) := by simpa using h6
      simp [nodeOk, nodeKind, h5]
      intro _ _ h7; omega))
    have h6' : 0 ≤ num ∧ num ≤ 1000000 := by simpa using h6
    refine Ev_ite (fun h7 => Ev_ite (fun h8 => ?_) (fun h8 => Ev.const (by simp [nodeOk, nodePre, h7, Bool.eq_false_iff.mpr h8]))) (fun h7 => ?_)
    · refine Ev.bind (same _ _ _ _ _ _ _ hl) ?_
      refine Ev.const (congrArg some ?_)
      simp only [nodeOk, nodePre, nodeKind, h5, h7, h8, decide_eq_true h6', empty_list] <;> simp <;> by_cases e1 : cols = [] <;> by_cases e2 : op = 0 <;> by_cases e3 : name.toList = [] <;> simp [*]
    · refine Ev.bind (same _ _ _ _ _ _ _ hl) ?_
      refine Ev.const (congrArg some ?_)
      have h7' : slot = false := by simpa using h7
      simp only [nodeOk, nodePre, nodeKind, h5, h7', decide_eq_true h6', empty_list] <;> simp <;> by_cases e1 : cols = [] <;> by_cases e2 : op = 0 <;> by_cases e3 : name.toList = [] <;> simp [*]
  refine Ev_ite (fun h6 => ?_) (fun h6 => Ev_ite (fun h7 => ?_) (fun h7 => ?_))
  · refine Ev.bind (same _ _ _ _ _ _ _ hl) ?_
    refine Ev.const (congrArg some ?_)
    cases slot <;> simp [nodeOk, nodePre, nodeKind, h6, empty_list] <;> by_cases e1 : cols = [] <;> by_cases e2 : op = 0 <;> by_cases e3 : name.toList = [] <;> simp [*]
  · refine Ev.bind (same _ _ _ _ _ _ _ hl) ?_
    refine Ev.const (congrArg some ?_)
    cases slot <;> simp [nodeOk, nodePre, nodeKind, h7, empty_list] <;> by_cases e1 : cols = [] <;> by_cases e2 : op = 0 <;> by_cases e3 : name.toList = [] <;> simp [*]
  · exact Ev.const (by simp [nodeOk, nodeKind, h0, h1, h2, h3, h4, h5, h6, h7])

def nodeOkN (x : S58) : Bool := nodeOk x.f0 x.f1 x.f2 x.f3 x.f4 x.f5 x.f6
def planOk (p : List S58) : Bool := decide (1 ≤ p.length ∧ p.length ≤ 40) && p.all nodeOkN && decide (endI (endP p 10 0) = p.length)
theorem drop_rdT (p : List S58) (i : Nat) (h : i < p.length) : p.drop i = rd_T58 p i :: p.drop (i + 1) := by
  rw [drop_getD p z58 i h]; simp [rd_T58]
theorem rdT_memN {p : List S58} {i : Nat} (h : i < p.length) : rd_T58 p i ∈ p := by
  have := getD_mem (z := z58) h
  simpa [rd_T58] using this

theorem ev_impl_PlanOk_1 (x : S58) (h : x.f1.size ≤ 1048576 ∧ x.f6.length ≤ 1048576) : Ev (fun k => impl_PlanOk_1.f k x.f0 x.f1 x.f2 x.f3 x.f4 x.f5 x.f6) (!nodeOkN x) := by
  simp only [impl_PlanOk_1.f]
  refine Ev.bind (ev_impl_NodeOk _ _ _ _ _ _ _ (by omega) (by omega)) ?_
  exact Ev.now _

theorem ev_IndexNode (p : List S58) (hl : p.length ≤ 1099511627776) (hs : ∀ x ∈ p, x.f1.size ≤ 1048576 ∧ x.f6.length ≤ 1048576) : ∀ (d i : Nat), i + d = p.length → ∃ r, Ev (fun k => slices_IndexFunc_impl_Node_impl_Node.l0 k p (p.length : Int) i) r ∧ decide (r ≥ 0) = !(p.drop i).all nodeOkN := by
  intro d
  induction d with
  | zero =>
    intro i h
    refine ⟨-1, ?_, by rw [drop_nil' (show p.length ≤ i by omega)]; rfl⟩
    apply Ev.step
    · intro k; rw [slices_IndexFunc_impl_Node_impl_Node.l0]
    simp only [if_neg (show ¬ ((i : Int) < p.length) by omega)]
    exact Ev.now _
  | succ d ih =>
    intro i h
    obtain ⟨r, e, g⟩ := ih (i + 1) (by omega)
    have hm := hs _ (rdT_memN (show i < p.length by omega))
    by_cases hp : nodeOkN (rd_T58 p i) = true
    · refine ⟨r, ?_, ?_⟩
      · apply Ev.step
        · intro k; rw [slices_IndexFunc_impl_Node_impl_Node.l0]
        simp only [if_pos (show (i : Int) < p.length by omega), if_pos (show (0 : Int) ≤ i by omega), w64 (x := (i : Int) + 1) (by omega)]
        refine Ev.bind (ev_impl_PlanOk_1 _ hm) ?_
        rw [hp]; simp only [Bool.not_true, if_neg Bool.false_ne_true]
        simpa using e
      · rw [drop_rdT p i (by omega), List.all_cons, hp, Bool.true_and]; exact g
    · refine ⟨i, ?_, ?_⟩
      · apply Ev.step
        · intro k; rw [slices_IndexFunc_impl_Node_impl_Node.l0]
        simp only [if_pos (show (i : Int) < p.length by omega), if_pos (show (0 : Int) ≤ i by omega)]
        refine Ev.bind (ev_impl_PlanOk_1 _ hm) ?_
        rw [Bool.eq_false_iff.mpr hp]; simp only [Bool.not_false, if_true]
        exact Ev.now _
      · rw [drop_rdT p i (by omega), List.all_cons, Bool.eq_false_iff.mpr hp, Bool.false_and]; simp

theorem ev_ContainsNode (p : List S58) (hl : p.length ≤ 1099511627776) (hs : ∀ x ∈ p, x.f1.size ≤ 1048576 ∧ x.f6.length ≤ 1048576) : Ev (fun k => slices_ContainsFunc_impl_Node_impl_Node.f k p) (!p.all nodeOkN) := by
  obtain ⟨r, e, g⟩ := ev_IndexNode p hl hs p.length 0 (by omega)
  simp only [slices_ContainsFunc_impl_Node_impl_Node.f, slices_IndexFunc_impl_Node_impl_Node.f]
  refine Ev.bind (by simpa using e) ?_
  refine Ev.const (congrArg some ?_)
  rw [g, List.drop_zero]

theorem ev_impl_PlanOk (p : List S58) (hl : p.length ≤ 1048576) (hs : ∀ x ∈ p, x.f1.size ≤ 1048576 ∧ x.f6.length ≤ 1048576) : Ev (fun k => impl_PlanOk.f k p) (planOk p) := by
  simp only [impl_PlanOk.f, impl_in_eq, Option.bind_some]
  unfold planOk
  refine Ev_ite (fun h1 => ?_) (fun h1 => ?_)
  · have h1' : 1 ≤ p.length ∧ p.length ≤ 40 := by simp only [decide_eq_true_eq] at h1; omega
    rw [decide_eq_true h1', Bool.true_and]
    refine Ev.bind (ev_ContainsNode p (by omega) hs) ?_
    refine Ev_ite (fun h2 => ?_) (fun h2 => ?_)
    · have : p.all nodeOkN = false := by simpa using h2
      rw [this]; exact Ev.now _
    · have : p.all nodeOkN = true := by simpa using h2
      rw [this, Bool.true_and]
      have := ev_impl_end p hl 10 0 (by omega) (by omega)
      refine Ev.bind (by simpa using this) ?_
      exact Ev.const (congrArg some (by rw [Bool.eq_iff_iff]; simp))
  · have h1' : ¬ (1 ≤ p.length ∧ p.length ≤ 40) := by simp only [decide_eq_true_eq] at h1; omega
    rw [decide_eq_false h1']; exact Ev.now _

theorem spec_l01In_eq (a b c : Int) : spec_l01In.f a b c = some (decide (b ≤ a ∧ a ≤ c)) := by
  unfold spec_l01In.f
  by_cases h : b ≤ a
  · rw [if_pos h]; simp [h]
  · rw [if_neg h]; simp [h]

theorem ev_spec_WordOk_l0 (s : ByteArray) (hs : s.size ≤ 1099511627776) : ∀ (d i : Nat), i + d = s.size → (i = 0 → 97 ≤ bt s 0) → Ev (fun k => spec_WordOk.l0 k s i) (wordFrom s d i) := by
  intro d
  induction d with
  | zero =>
    intro i h _
    apply Ev.step
    · intro k; rw [spec_WordOk.l0]
    simp only [if_neg (show ¬ ((i : Int) < s.size) by omega)]
    exact Ev.now _
  | succ d ih =>
    intro i h h0
    have ih' := ih (i + 1) (by omega) (by omega)
    apply Ev.step
    · intro k; rw [spec_WordOk.l0]
    simp only [if_pos (show (i : Int) < s.size by omega), if_pos (show (0 : Int) ≤ i by omega), w64 (x := (i : Int) + 1) (by omega), wordFrom]
    have hi : i = 0 → 97 ≤ bt s i := by intro e; subst e; exact h0 rfl
    by_cases h1 : bt s i < 97
    · simp only [if_pos h1]
      have hp : 0 < i := by rcases Nat.eq_zero_or_pos i with e | e; · have := hi e; omega
                            · exact e
      by_cases h2 : bt s i < 48
      · simp only [if_pos h2, show okAt s i = false by simp [okAt]; omega, Bool.false_and]; exact Ev.now _
      · by_cases h3 : bt s i > 57
        · simp only [if_neg h2, if_pos h3, show okAt s i = false by simp [okAt]; omega, Bool.false_and]; exact Ev.now _
        · simp only [if_neg h2, if_neg h3, show okAt s i = true by simp [okAt]; omega, Bool.true_and]; exact ih'
    · simp only [if_neg h1]
      by_cases h2 : bt s i > 122
      · simp only [if_pos h2, if_neg (show ¬ bt s i < 48 by omega), if_pos (show bt s i > 57 by omega), show okAt s i = false by simp [okAt]; omega, Bool.false_and]; exact Ev.now _
      · simp only [if_neg h2, show okAt s i = true by simp [okAt]; omega, Bool.true_and]; exact ih'
theorem ev_spec_WordOk (s : ByteArray) (hs : s.size ≤ 1099511627776) : Ev (fun k => spec_WordOk.f k s) (wordOk s) := by
  simp only [spec_WordOk.f, spec_l01In_eq, Option.bind_some, decide_eq_true_eq, wordOk]
  by_cases h : 1 ≤ s.size ∧ s.size ≤ 12
  · simp only [if_pos (show 1 ≤ (s.size : Int) ∧ (s.size : Int) ≤ 12 by omega), if_pos (show (0 : Int) < s.size by omega), decide_eq_true h, Bool.true_and]
    apply Ev.step
    · intro k; rw [spec_WordOk.j0]
    simp only [decide_eq_true_eq]
    by_cases h1 : bt s 0 < 97
    · simp only [if_pos h1]
      obtain ⟨d, hd⟩ : ∃ d, s.size = d + 1 := ⟨s.size - 1, by omega⟩
      rw [hd, wordFrom, show okAt s 0 = false by simp [okAt]; omega, Bool.false_and]
      exact Ev.now _
    · simp only [if_neg h1]
      exact ev_spec_WordOk_l0 s hs s.size 0 (by omega) (by omega)
  · simp only [if_neg (show ¬ (1 ≤ (s.size : Int) ∧ (s.size : Int) ≤ 12) by omega), decide_eq_false h, Bool.false_and]
    apply Ev.step
    · intro k; rw [spec_WordOk.j0]
    simp only [if_true]
    exact Ev.now _

theorem spec_l01Number_eq (a : Int) : spec_l01Number.f a = some (isNumB a) := by
  unfold spec_l01Number.f; rw [spec_l01In_eq]; rfl

theorem spec_l02Col_eq (a : Int) : spec_l02Col.f a = some (colB a) := by
  unfold spec_l02Col.f; rw [spec_l01In_eq]; rfl

theorem ev_spec_NodeOk_l0 (kind : Int) (name : ByteArray) (col op num : Int) (slot : Bool) (cols : List Int) (hl : cols.length ≤ 1099511627776) : ∀ (d i : Nat), i + d = cols.length → Ev (fun k => spec_NodeOk.l0 k i kind name col op num slot cols) ((cols.drop i).all colB && decide (1 ≤ cols.length ∧ cols.length ≤ 6) && decide (col = 0 ∧ num = 0 ∧ slot = false)) := by
  intro d
  induction d with
  | zero =>
    intro i h
    apply Ev.step
    · intro k; rw [spec_NodeOk.l0]
    simp only [if_neg (show ¬ ((i : Int) < cols.length) by omega), spec_l01In_eq, Option.bind_some, drop_nil' (show cols.length ≤ i by omega), List.all_nil, Bool.true_and]
    by_cases h1 : 1 ≤ cols.length ∧ cols.length ≤ 6
    · simp only [decide_eq_true (show 1 ≤ (cols.length : Int) ∧ (cols.length : Int) ≤ 6 by omega), if_true, decide_eq_true h1, Bool.true_and]
      by_cases h2 : col = 0
      · by_cases h3 : num = 0
        · simp only [if_pos h2, if_pos h3]; exact Ev.const (by simp [h2, h3])
        · simp only [if_pos h2, if_neg h3]; exact Ev.const (by simp [h3])
      · simp only [if_neg h2]; exact Ev.const (by simp [h2])
    · simp only [decide_eq_false (show ¬ (1 ≤ (cols.length : Int) ∧ (cols.length : Int) ≤ 6) by omega), if_neg Bool.false_ne_true, decide_eq_false h1, Bool.false_and]
      exact Ev.now _
  | succ d ih =>
    intro i h
    have ih' := ih (i + 1) (by omega)
    rw [drop_rd cols i (by omega)]
    apply Ev.step
    · intro k; rw [spec_NodeOk.l0]
    simp only [if_pos (show (i : Int) < cols.length by omega), if_pos (show (0 : Int) ≤ i by omega), spec_l02Col_eq, Option.bind_some, w64 (x := (i : Int) + 1) (by omega), List.all_cons]
    by_cases h1 : colB (rd cols i) = true
    · simp only [h1, if_true, Bool.true_and]; simpa using ih'
    · simp only [if_neg h1, Bool.eq_false_iff.mpr h1, Bool.false_and]; exact Ev.now _
theorem ev_spec_NodeOk (kind : Int) (name : ByteArray) (col op num : Int) (slot : Bool) (cols : List Int) (hl : cols.length ≤ 1099511627776) (hn : name.size ≤ 1099511627776) : Ev (fun k => spec_NodeOk.f k kind name col op num slot cols) (nodeOk kind name col op num slot cols) := by
  have main : ∀ b, b = nodePre kind name op num slot cols → Ev (fun k => spec_NodeOk.j0 k b kind name col op num slot cols) (nodeOk kind name col op num slot cols) := by
    intro b hb
    unfold nodeOk
    rw [← hb]
    cases b with
    | true =>
      apply Ev.step
      · intro k; rw [spec_NodeOk.j0]
      exact Ev.now _
    | false =>
      apply Ev.step
      · intro k; rw [spec_NodeOk.j0]
      simp only [if_neg Bool.false_ne_true, Bool.not_false, Bool.true_and]
      unfold nodeKind
      refine Ev_ite (fun h0 => ?_) (fun h0 => ?_)
      · rw [if_pos h0]
        refine Ev.bind (ev_spec_WordOk name hn) ?_
        refine Ev_ite (fun h1 => ?_) (fun h1 => ?_)
        · rw [h1, Bool.true_and]
          refine Ev_ite (fun h2 => Ev_ite (fun h3 => ?_) (fun h3 => ?_)) (fun h2 => ?_)
          · exact Ev.const (by simp [h2, h3])
          · exact Ev.const (by simp [h3])
          · exact Ev.const (by simp [h2])
        · rw [Bool.eq_false_iff.mpr h1]; exact Ev.now _
      rw [if_neg h0]
      refine Ev_ite (fun h1 => ?_) (fun h1 => ?_)
      · rw [if_pos h1]
        simp only [spec_l02Col_eq, spec_l01In_eq, spec_l01Number_eq, Option.bind_some]
        refine Ev_ite (fun h2 => ?_) (fun h2 => Ev.const (by simp [Bool.eq_false_iff.mpr h2]))
        refine Ev_ite (fun h3 => ?_) (fun h3 => Ev.const (by simp [Bool.eq_false_iff.mpr h3]))
        refine Ev_ite (fun h4 => ?_) (fun h4 => Ev.const (by simp [Bool.eq_false_iff.mpr h4]))
        rw [h2, h3, h4]
        refine Ev_ite (fun h5 => Ev_ite (fun h6 => ?_) (fun h6 => ?_)) (fun h5 => ?_)
        · exact Ev.const (by simp [h5, h6])
        · exact Ev.const (by simp [h5, h6])
        · exact Ev.const (by simp [h5])
      rw [if_neg h1]
      refine Ev_ite (fun h2 => ?_) (fun h2 => ?_)
      · rw [if_pos h2]
        simpa using ev_spec_NodeOk_l0 kind name col op num slot cols hl cols.length 0 (by omega)
      rw [if_neg h2]
      simp only [spec_l02Col_eq, spec_l01In_eq, Option.bind_some]
      refine Ev_ite (fun h3 => ?_) (fun h3 => ?_)
      · rw [if_pos h3]
        refine Ev_ite (fun h4 => Ev_ite (fun h5 => ?_) (fun h5 => ?_)) (fun h4 => ?_)
        · exact Ev.const (by simp [h4, h5])
        · exact Ev.const (by simp [Bool.eq_false_iff.mpr h5])
        · exact Ev.const (by simp [Bool.eq_false_iff.mpr h4])
      rw [if_neg h3]
      refine Ev_ite (fun h4 => ?_) (fun h4 => ?_)
      · rw [if_pos h4]
        refine Ev_ite (fun h5 => Ev_ite (fun h6 => ?_) (fun h6 => ?_)) (fun h5 => ?_)
        · exact Ev.const (by simp [h5, h6])
        · exact Ev.const (by simp [h6])
        · exact Ev.const (by simp [Bool.eq_false_iff.mpr h5])
      rw [if_neg h4]
      refine Ev_ite (fun h5 => ?_) (fun h5 => ?_)
      · rw [if_pos h5]
        refine Ev_ite (fun h6 => ?_) (fun h6 => ?_)
        · exact Ev.const (by simp [h6])
        · exact Ev.const (by simp [h6])
      rw [if_neg h5]
      refine Ev_ite (fun h6 => ?_) (fun h6 => Ev_ite (fun h7 => ?_) (fun h7 => ?_))
      · rw [if_pos (Or.inl h6)]
        refine Ev_ite (fun h7 => Ev_ite (fun h8 => ?_) (fun h8 => ?_)) (fun h7 => ?_)
        · exact Ev.const (by simp [h7, h8])
        · exact Ev.const (by simp [h8])
        · exact Ev.const (by simp [h7])
      · rw [if_pos (Or.inr h7)]
        refine Ev_ite (fun h7 => Ev_ite (fun h8 => ?_) (fun h8 => ?_)) (fun h7 => ?_)
        · exact Ev.const (by simp [h7, h8])
        · exact Ev.const (by simp [h8])
        · exact Ev.const (by simp [h7])
      · rw [if_neg (by intro h; rcases h with h | h; exact h6 h; exact h7 h)]
        exact Ev.now _
  have hlen : ((cols.length : Int) > 0) ↔ cols ≠ [] := by
    cases cols with
    | nil => simp
    | cons => simp
  have e39 : decide (0 ≤ num ∧ num ≤ 39) = slotB num := rfl
  simp only [spec_NodeOk.f, spec_l01In_eq, Option.bind_some, e39]
  repeat' (refine Ev_ite (fun _ => ?_) (fun _ => ?_))
  all_goals first
    | (exfalso; omega)
    | (refine main _ ?_
       unfold nodePre
       cases hsl : slotB num <;> simp_all)

theorem ev_spec_ArityOf (a : Int) : Ev (fun k => spec_ArityOf.f k a) (arity a) := by
  simp only [spec_ArityOf.f]
  by_cases h0 : a = 0
  · subst h0; simp only [if_true]; exact Ev.now _
  by_cases h3 : a = 3
  · subst h3
    simp only [if_neg (show ¬ (3 : Int) = 0 by omega), if_true]
    apply Ev.step
    · intro k; rw [spec_ArityOf.j0]
    exact Ev.const (by simp [arity])
  simp only [if_neg h0, if_neg h3]
  apply Ev.step
  · intro k; rw [spec_ArityOf.j0]
  refine Ev.const ?_
  unfold arity
  by_cases h4 : a = 4
  · subst h4; simp
  · simp only [beq_iff_eq, if_neg h0, if_neg h3, if_neg h4]
    repeat' split
    all_goals first | rfl | omega

def endD : Option (Nat × Nat) → Int × Int
  | none => (-1, 0)
  | some x => (x.1, x.2)
theorem ev_spec_l02End (p : List S58) (hl : p.length ≤ 1048576) : ∀ (room k : Nat), room ≤ 10 → k ≤ 1099511627776 → Ev (fun n => spec_l02End.f n p k (room : Int)) (endD (endP p room k)) := by
  intro room
  induction room with
  | zero =>
    intro k _ hk
    apply Ev.step
    · intro k; rw [spec_l02End.f]
    refine Ev_ite (fun _ => ?_) (fun _ => ?_)
    · apply Ev.step
      · intro k; rw [spec_l02End.j0]
      exact Ev.now _
    · apply Ev.step
      · intro k; rw [spec_l02End.j0]
      exact Ev.now _
  | succ room ih =>
    intro k hr hk
    apply Ev.step
    · intro k; rw [spec_l02End.f]
    refine Ev_ite (fun h0 => ?_) (fun h0 => ?_)
    · rw [endP, if_pos (by omega)]
      apply Ev.step
      · intro k; rw [spec_l02End.j0]
      exact Ev.now _
    rw [endP, if_neg (by omega)]
    have eb : (((room + 1 : Nat) : Int) == 0) = false := by rw [beq_eq_false_iff_ne]; omega
    simp only [eb]
    apply Ev.step
    · intro k; rw [spec_l02End.j0]
    simp only [if_neg Bool.false_ne_true]
    have e1 : ((room + 1 : Nat) : Int) - 1 = (room : Int) := by omega
    have e2 : ((k : Int) + 1) = ((k + 1 : Nat) : Int) := by omega
    have hka : arity (rd_T58 p (k : Int)).f0 = arity (kAt p k) := rfl
    have i1 := ih (k + 1) (by omega) (by omega)
    simp only [w64 (x := (k : Int) + 1) (by omega), e2, w64 (x := ((k + 1 : Nat) : Int)) (by omega)]
    apply Ev.step
    · intro k; rw [spec_l02End.l0]
    simp only [if_pos (show (0 : Int) ≤ k by omega), if_pos (show (k : Int) < p.length by omega)]
    refine Ev.bind (ev_spec_ArityOf _) ?_
    rw [hka]
    rcases arity_cases (kAt p k) with h | h | h | h
    · rw [h, if_neg (by omega), if_neg (by omega)]
      simp only [if_neg (show ¬ (0 : Int) < -1 by omega), w01]
      exact Ev.now _
    · rw [h, if_neg (by omega), if_neg (by omega)]
      simp only [if_neg (show ¬ (0 : Int) < 0 by omega), w01]
      exact Ev.now _
    · rw [h, if_neg (by omega), if_pos rfl]
      simp only [if_pos (show (0 : Int) < 1 by omega), w64 (x := ((room + 1 : Nat) : Int) - 1) (by omega), e1, w64 (x := (room : Int)) (by omega)]
      refine Ev.bind i1 ?_
      cases hx : endP p room (k + 1) with
      | none => exact Ev.now _
      | some x =>
        have hxr := endP_range p _ _ _ hx
        rw [show endD (some x) = ((x.1 : Int), (x.2 : Int)) from rfl]
        simp only [if_neg (show ¬ (x.1 : Int) < 0 by omega), Option.bind_some, if_pos (show (x.2 : Int) > 0 by omega)]
        apply Ev.step
        · intro k; rw [spec_l02End.l0]
        simp only [if_pos (show (0 : Int) ≤ k by omega), if_pos (show (k : Int) < p.length by omega)]
        refine Ev.bind (ev_spec_ArityOf _) ?_
        rw [hka, h]
        simp only [w01, if_neg (show ¬ (1 : Int) < 1 by omega), w64 (x := (x.2 : Int) + 1) (by omega)]
        exact Ev.const (congrArg some (Prod.ext rfl (by simp [endD])))
    · rw [h, if_pos rfl]
      simp only [if_pos (show (0 : Int) < 2 by omega), w64 (x := ((room + 1 : Nat) : Int) - 1) (by omega), e1, w64 (x := (room : Int)) (by omega)]
      refine Ev.bind i1 ?_
      cases hx : endP p room (k + 1) with
      | none => exact Ev.now _
      | some x =>
        have hxr := endP_range p _ _ _ hx
        rw [show endD (some x) = ((x.1 : Int), (x.2 : Int)) from rfl]
        simp only [if_neg (show ¬ (x.1 : Int) < 0 by omega), Option.bind_some, if_pos (show (x.2 : Int) > 0 by omega)]
        apply Ev.step
        · intro k; rw [spec_l02End.l0]
        simp only [if_pos (show (0 : Int) ≤ k by omega), if_pos (show (k : Int) < p.length by omega)]
        refine Ev.bind (ev_spec_ArityOf _) ?_
        rw [hka, h]
        simp only [w01, w12, if_pos (show (1 : Int) < 2 by omega), w64 (x := ((room + 1 : Nat) : Int) - 1) (by omega), e1, w64 (x := (room : Int)) (by omega)]
        refine Ev.bind (ih x.1 (by omega) (by omega)) ?_
        cases hy : endP p room x.1 with
        | none => exact Ev.now _
        | some y =>
          have hyr := endP_range p _ _ _ hy
          rw [show endD (some y) = ((y.1 : Int), (y.2 : Int)) from rfl]
          simp only [if_neg (show ¬ (y.1 : Int) < 0 by omega), Option.bind_some]
          refine Ev_ite (fun h5 => ?_) (fun h5 => ?_)
          · apply Ev.step
            · intro k; rw [spec_l02End.l0]
            simp only [if_pos (show (0 : Int) ≤ k by omega), if_pos (show (k : Int) < p.length by omega)]
            refine Ev.bind (ev_spec_ArityOf _) ?_
            rw [hka, h]
            simp only [w01, w12, if_neg (show ¬ (2 : Int) < 2 by omega), w64 (x := (y.2 : Int) + 1) (by omega)]
            exact Ev.const (congrArg some (Prod.ext rfl (by simp only [Option.bind_some, endD]; omega)))
          · apply Ev.step
            · intro k; rw [spec_l02End.l0]
            simp only [if_pos (show (0 : Int) ≤ k by omega), if_pos (show (k : Int) < p.length by omega)]
            refine Ev.bind (ev_spec_ArityOf _) ?_
            rw [hka, h]
            simp only [w01, w12, if_neg (show ¬ (2 : Int) < 2 by omega), w64 (x := (x.2 : Int) + 1) (by omega)]
            exact Ev.const (congrArg some (Prod.ext rfl (by simp only [Option.bind_some, endD]; omega)))

theorem endD_fst (o : Option (Nat × Nat)) : (endD o).1 = endI o := by cases o <;> rfl
theorem ev_spec_PlanOk_l0 (p : List S58) (hl : p.length ≤ 1048576) (hs : ∀ x ∈ p, x.f1.size ≤ 1048576 ∧ x.f6.length ≤ 1048576) : ∀ (d i : Nat), i + d = p.length → Ev (fun k => spec_PlanOk.l0 k p i) ((p.drop i).all nodeOkN && decide (endI (endP p 10 0) = p.length)) := by
  intro d
  induction d with
  | zero =>
    intro i h
    apply Ev.step
    · intro k; rw [spec_PlanOk.l0]
    simp only [if_neg (show ¬ ((i : Int) < p.length) by omega), drop_nil' (show p.length ≤ i by omega), List.all_nil, Bool.true_and]
    have := ev_spec_l02End p hl 10 0 (by omega) (by omega)
    refine Ev.bind (by simpa using this) ?_
    rw [endD_fst]
    exact Ev.const (congrArg some (by rw [Bool.eq_iff_iff]; simp))
  | succ d ih =>
    intro i h
    have ih' := ih (i + 1) (by omega)
    have hm := hs _ (rdT_memN (show i < p.length by omega))
    rw [drop_rdT p i (by omega), List.all_cons]
    apply Ev.step
    · intro k; rw [spec_PlanOk.l0]
    simp only [if_pos (show (i : Int) < p.length by omega), if_pos (show (0 : Int) ≤ i by omega), w64 (x := (i : Int) + 1) (by omega)]
    refine Ev.bind (ev_spec_NodeOk _ _ _ _ _ _ _ (by omega) (by omega)) ?_
    refine Ev_ite (fun h1 => ?_) (fun h1 => ?_)
    · rw [show nodeOkN (rd_T58 p i) = true from h1, Bool.true_and]; simpa using ih'
    · rw [show nodeOkN (rd_T58 p i) = false from Bool.eq_false_iff.mpr h1, Bool.false_and, Bool.false_and]; exact Ev.now _
theorem ev_spec_PlanOk (p : List S58) (hl : p.length ≤ 1048576) (hs : ∀ x ∈ p, x.f1.size ≤ 1048576 ∧ x.f6.length ≤ 1048576) : Ev (fun k => spec_PlanOk.f k p) (planOk p) := by
  simp only [spec_PlanOk.f, spec_l01In_eq, Option.bind_some]
  unfold planOk
  refine Ev_ite (fun h1 => ?_) (fun h1 => ?_)
  · have h1' : 1 ≤ p.length ∧ p.length ≤ 40 := by simp only [decide_eq_true_eq] at h1; omega
    rw [decide_eq_true h1', Bool.true_and]
    simpa using ev_spec_PlanOk_l0 p hl hs p.length 0 (by omega)
  · have h1' : ¬ (1 ≤ p.length ∧ p.length ≤ 40) := by simp only [decide_eq_true_eq] at h1; omega
    rw [decide_eq_false h1']; exact Ev.now _

/-- The places of the children of a node in a plan. -/
def kids (p : List S58) (k : Nat) : List Int :=
  if arity (kAt p k) = 2 then [((k + 1 : Nat) : Int), endI (endP p 10 (k + 1))] else if arity (kAt p k) = 1 then [((k + 1 : Nat) : Int)] else []

theorem ev_impl_children (p : List S58) (hl : p.length ≤ 1048576) (r k : Nat) (x : Nat × Nat) (hr : r ≤ 10) (h : endP p r k = some x) : Ev (fun n => impl_children.f n p k) (kids p k) := by
  have hx := endP_range p _ _ _ h
  obtain ⟨r, rfl⟩ : ∃ q, r = q + 1 := by cases r with | zero => simp [endP] at h | succ q => exact ⟨q, rfl⟩
  have e2 : ((k : Int) + 1) = ((k + 1 : Nat) : Int) := by omega
  have i1 := ev_impl_end p hl 10 (k + 1) (by omega) (by omega)
  rw [show (11 : Int) - ((10 : Nat) : Int) = 1 from rfl] at i1
  simp only [impl_children.f, if_pos (show (0 : Int) ≤ k by omega), if_pos (show (k : Int) < p.length by omega), w64 (x := (k : Int) + 1) (by omega), e2, w64 (x := ((k + 1 : Nat) : Int)) (by omega)]
  refine Ev.bind (ev_impl_ArityOf _) ?_
  rw [show arity (rd_T58 p (k : Int)).f0 = arity (kAt p k) from rfl]
  unfold kids
  rcases arity_cases (kAt p k) with ha | ha | ha | ha
  · rw [ha, if_neg (by omega), if_neg (by omega)]
    apply Ev.step
    · intro k; rw [impl_children.l0]
    simp only [if_neg (show ¬ (0 : Int) < -1 by omega)]
    exact Ev.now _
  · rw [ha, if_neg (by omega), if_neg (by omega)]
    apply Ev.step
    · intro k; rw [impl_children.l0]
    simp only [if_neg (show ¬ (0 : Int) < 0 by omega)]
    exact Ev.now _
  · rw [ha, if_neg (by omega), if_pos rfl]
    apply Ev.step
    · intro k; rw [impl_children.l0]
    simp only [if_pos (show (0 : Int) < 1 by omega), List.length_nil, if_pos (show (0 : Nat) < 17592186044416 by omega), List.nil_append]
    refine Ev.bind i1 ?_
    apply Ev.step
    · intro k; rw [impl_children.l0]
    simp only [w01, if_neg (show ¬ (1 : Int) < 1 by omega)]
    exact Ev.now _
  · rw [ha, if_pos rfl]
    unfold endP at h
    rw [if_neg (by omega), if_pos ha] at h
    obtain ⟨y, hy, h⟩ := Option.bind_eq_some_iff.1 h
    obtain ⟨z, hz, h⟩ := Option.bind_eq_some_iff.1 h
    have hyr := endP_range p _ _ _ hy
    have hy10 := endP_mono p _ _ _ 10 hy (by omega)
    rw [hy10] at i1 ⊢
    apply Ev.step
    · intro k; rw [impl_children.l0]
    simp only [if_pos (show (0 : Int) < 2 by omega), List.length_nil, if_pos (show (0 : Nat) < 17592186044416 by omega), List.nil_append]
    refine Ev.bind i1 ?_
    have i2 := ev_impl_end p hl 10 y.1 (by omega) (by omega)
    rw [show (11 : Int) - ((10 : Nat) : Int) = 1 from rfl] at i2
    apply Ev.step
    · intro k; rw [impl_children.l0]
    rw [show endI (some y) = ((y.1 : Nat) : Int) from rfl]
    simp only [w01, w12, if_pos (show (1 : Int) < 2 by omega), List.length_cons, List.length_nil, if_pos (show (0 + 1 : Nat) < 17592186044416 by omega), List.cons_append, List.nil_append]
    refine Ev.bind i2 ?_
    apply Ev.step
    · intro k; rw [impl_children.l0]
    simp only [if_neg (show ¬ (2 : Int) < 2 by omega)]
    exact Ev.now _

theorem mx_eq (a b : Int) (h : 0 ≤ b) (ha : a ≤ b) : mx a b = b := by unfold mx; split <;> omega
theorem ev_impl_depth (p : List S58) (hl : p.length ≤ 1048576) : ∀ (r k : Nat) (x : Nat × Nat), r ≤ 10 → endP p r k = some x → Ev (fun n => impl_depth.f n p k) (x.2 : Int) := by
  intro r
  induction r with
  | zero => intro k x _ h; simp [endP] at h
  | succ r ih =>
    intro k x hr h
    have hx := endP_range p _ _ _ h
    apply Ev.step
    · intro k; rw [impl_depth.f]
    refine Ev.bind (ev_impl_children p hl (r + 1) k x hr h) ?_
    unfold kids
    unfold endP at h
    rw [if_neg (by omega)] at h
    by_cases h2 : arity (kAt p k) = 2
    · rw [if_pos h2] at h ⊢
      obtain ⟨y, hy, h⟩ := Option.bind_eq_some_iff.1 h
      obtain ⟨z, hz, h⟩ := Option.bind_eq_some_iff.1 h
      injection h with h
      have hyr := endP_range p _ _ _ hy
      have hzr := endP_range p _ _ _ hz
      rw [endP_mono p _ _ _ 10 hy (by omega)]
      apply Ev.step
      · intro k; rw [impl_depth.l0]
      simp only [endI, List.length_cons, List.length_nil, show (0 : Int) < ((0 + 1 + 1 : Nat) : Int) from by decide, if_true, show (0 : Int) ≤ 0 from by decide]
      refine Ev.bind (show Ev (fun n => impl_depth.f n p (rd [((k + 1 : Nat) : Int), (y.1 : Int)] 0)) _ from ih (k + 1) y (by omega) hy) ?_
      apply Ev.step
      · intro k; rw [impl_depth.l0]
      simp only [List.length_cons, List.length_nil, w01, w12, show (1 : Int) < ((0 + 1 + 1 : Nat) : Int) from by decide, if_true, show (0 : Int) ≤ 1 from by decide]
      refine Ev.bind (show Ev (fun n => impl_depth.f n p (rd [((k + 1 : Nat) : Int), (y.1 : Int)] 1)) _ from ih y.1 z (by omega) hz) ?_
      apply Ev.step
      · intro k; rw [impl_depth.l0]
      simp only [List.length_cons, List.length_nil, show ¬ (2 : Int) < ((0 + 1 + 1 : Nat) : Int) from by decide, if_false]
      refine Ev.const (congrArg some ?_)
      rw [mx_eq 0 _ (by omega) (by omega), ← h]
      have e : mx (y.2 : Int) (z.2 : Int) = ((max y.2 z.2 : Nat) : Int) := by unfold mx; split <;> omega
      rw [e, w64 (by omega)]
      simp
    rw [if_neg h2] at h ⊢
    by_cases h1 : arity (kAt p k) = 1
    · rw [if_pos h1] at h ⊢
      obtain ⟨y, hy, h⟩ := Option.bind_eq_some_iff.1 h
      injection h with h
      have hyr := endP_range p _ _ _ hy
      apply Ev.step
      · intro k; rw [impl_depth.l0]
      simp only [List.length_cons, List.length_nil, show (0 : Int) < ((0 + 1 : Nat) : Int) from by decide, if_true, show (0 : Int) ≤ 0 from by decide]
      refine Ev.bind (show Ev (fun n => impl_depth.f n p (rd [((k + 1 : Nat) : Int)] 0)) _ from ih (k + 1) y (by omega) hy) ?_
      apply Ev.step
      · intro k; rw [impl_depth.l0]
      simp only [List.length_cons, List.length_nil, w01, show ¬ (1 : Int) < ((0 + 1 : Nat) : Int) from by decide, if_false]
      refine Ev.const (congrArg some ?_)
      rw [mx_eq 0 _ (by omega) (by omega), ← h, w64 (by omega)]
      simp
    rw [if_neg h1] at h ⊢
    injection h with h
    apply Ev.step
    · intro k; rw [impl_depth.l0]
    simp only [List.length_nil, show ¬ (0 : Int) < ((0 : Nat) : Int) from by decide, if_false]
    refine Ev.const (congrArg some ?_)
    rw [← h, w01]; rfl

theorem plan_end {p : List S58} (h : planOk p = true) : ∃ x, endP p 10 0 = some x ∧ x.1 = p.length := by
  unfold planOk at h
  simp only [Bool.and_eq_true, decide_eq_true_eq] at h
  cases hx : endP p 10 0 with
  | none => rw [hx] at h; simp only [endI] at h; omega
  | some x => rw [hx] at h; simp only [endI] at h; exact ⟨x, rfl, by omega⟩

theorem ev_impl_DepthOf (p : List S58) (hl : p.length ≤ 1048576) (hs : ∀ x ∈ p, x.f1.size ≤ 1048576 ∧ x.f6.length ≤ 1048576) : ∃ q, Ev (fun n => impl_DepthOf.f n p) q ∧ q = (if planOk p = true then (match endP p 10 0 with | none => 0 | some x => (x.2 : Int)) else 0) := by
  by_cases h : planOk p = true
  · obtain ⟨x, hx, _⟩ := plan_end h
    refine ⟨x.2, ?_, by rw [if_pos h, hx]⟩
    simp only [impl_DepthOf.f]
    refine Ev.bind (ev_impl_PlanOk p hl hs) ?_
    simp only [h, if_true]
    refine Ev.bind (show Ev (fun n => impl_depth.f n p 0) _ from ev_impl_depth p hl 10 0 x (by omega) hx) ?_
    exact Ev.now _
  · refine ⟨0, ?_, by rw [if_neg h]⟩
    simp only [impl_DepthOf.f]
    refine Ev.bind (ev_impl_PlanOk p hl hs) ?_
    simp only [if_neg h]
    exact Ev.now _

theorem ev_spec_DepthOf (p : List S58) (hl : p.length ≤ 1048576) (hs : ∀ x ∈ p, x.f1.size ≤ 1048576 ∧ x.f6.length ≤ 1048576) : ∃ q, Ev (fun n => spec_DepthOf.f n p) q ∧ q = (if planOk p = true then (match endP p 10 0 with | none => 0 | some x => (x.2 : Int)) else 0) := by
  by_cases h : planOk p = true
  · obtain ⟨x, hx, _⟩ := plan_end h
    refine ⟨x.2, ?_, by rw [if_pos h, hx]⟩
    simp only [spec_DepthOf.f]
    refine Ev.bind (ev_spec_PlanOk p hl hs) ?_
    simp only [h, if_true]
    refine Ev.bind (show Ev (fun n => spec_l02End.f n p 0 10) _ from by simpa using ev_spec_l02End p hl 10 0 (by omega) (by omega)) ?_
    rw [hx]
    exact Ev.now _
  · refine ⟨0, ?_, by rw [if_neg h]⟩
    simp only [spec_DepthOf.f]
    refine Ev.bind (ev_spec_PlanOk p hl hs) ?_
    simp only [if_neg h]
    exact Ev.now _

def goodAt (p : List S58) (k : Int) : Bool := planOk p && decide (0 ≤ k ∧ k ≤ (p.length : Int) - 1)
def endOf (p : List S58) (k : Int) : Int := if goodAt p k = true then endI (endP p 10 k.toNat) else -1

theorem ev_impl_has (p : List S58) (hl : p.length ≤ 1048576) (hs : ∀ x ∈ p, x.f1.size ≤ 1048576 ∧ x.f6.length ≤ 1048576) (k : Int) : Ev (fun n => impl_has.f n p k) (goodAt p k) := by
  simp only [impl_has.f, impl_in_eq, Option.bind_some, w64 (x := (p.length : Int) - 1) (by omega)]
  unfold goodAt
  refine Ev_ite (fun h => ?_) (fun h => ?_)
  · rw [h, Bool.and_true]
    refine Ev.bind (ev_impl_PlanOk p hl hs) ?_
    exact Ev.now _
  · rw [Bool.eq_false_iff.mpr h, Bool.and_false]; exact Ev.now _

theorem ev_impl_EndOf (p : List S58) (hl : p.length ≤ 1048576) (hs : ∀ x ∈ p, x.f1.size ≤ 1048576 ∧ x.f6.length ≤ 1048576) (k : Int) : Ev (fun n => impl_EndOf.f n p k) (endOf p k) := by
  simp only [impl_EndOf.f]
  refine Ev.bind (ev_impl_has p hl hs k) ?_
  unfold endOf
  refine Ev_ite (fun h => ?_) (fun h => ?_)
  · rw [if_pos h]
    have hk : 0 ≤ k ∧ k ≤ (p.length : Int) - 1 := by
      unfold goodAt at h
      simp only [Bool.and_eq_true, decide_eq_true_eq] at h
      exact h.2
    obtain ⟨n, rfl⟩ := Int.eq_ofNat_of_zero_le hk.1
    refine Ev.bind (by simpa using ev_impl_end p hl 10 n (by omega) (by omega)) ?_
    rw [Int.toNat_natCast]
    exact Ev.now _
  · rw [if_neg h]; exact Ev.now _

theorem clone_int (l : List Int) (hl : l.length ≤ 1048576) : slices_Clone_int_int.f l = some l := by
  simp only [slices_Clone_int_int.f, Option.bind_some, List.length_nil, List.nil_append]
  rw [if_pos (by omega)]

theorem take_rdT (p : List S58) (i : Nat) (h : i < p.length) : p.take i ++ [rd_T58 p i] = p.take (i + 1) := by
  rw [List.take_add_one]
  simp [rd_T58, h]

theorem ev_impl_own_l0 (x0 : List S58) (hl : x0.length ≤ 1048576) (hs : ∀ x ∈ x0, x.f6.length ≤ 1048576) : ∀ (d i : Nat), i + d = x0.length → Ev (fun k => impl_own.l0 k (x0.take i) x0 x0.length i) x0 := by
  intro d
  induction d with
  | zero =>
    intro i h
    apply Ev.step
    · intro k; rw [impl_own.l0]
    simp only [if_neg (show ¬ ((i : Int) < x0.length) by omega)]
    rw [List.take_of_length_le (by omega)]
    exact Ev.now _
  | succ d ih =>
    intro i h
    have ih' := ih (i + 1) (by omega)
    have hm := hs _ (rdT_memN (p := x0) (i := i) (by omega))
    rw [← take_rdT x0 i (by omega)] at ih'
    apply Ev.step
    · intro k; rw [impl_own.l0]
    simp only [if_pos (show (i : Int) < x0.length by omega), if_pos (show (0 : Int) ≤ i by omega), clone_int _ hm, Option.bind_some, if_pos (show (x0.take i).length < 1759218604441 by simp; omega), w64 (x := (i : Int) + 1) (by omega)]
    simpa using ih'
theorem ev_impl_own (l : List S58) (hl : l.length ≤ 1048576) (hs : ∀ x ∈ l, x.f6.length ≤ 1048576) : Ev (fun k => impl_own.f k l) l := by
  simpa [impl_own.f] using ev_impl_own_l0 l hl hs l.length 0 (by omega)

/-- Each place within a part is a part's begin, within the part's end and its levels. -/
theorem endP_inside (p : List S58) : ∀ (r k : Nat) (x : Nat × Nat), endP p r k = some x → ∀ j, k ≤ j → j < x.1 → ∃ q y, q ≤ r ∧ endP p q j = some y ∧ y.1 ≤ x.1 := by
  intro r
  induction r with
  | zero => intro k x h; simp [endP] at h
  | succ r ih =>
    intro k x h j hk hj
    by_cases e : j = k
    · subst e; exact ⟨r + 1, x, Nat.le_refl _, h, Nat.le_refl _⟩
    have h' := h
    unfold endP at h
    by_cases h0 : p.length ≤ k
    · rw [if_pos h0] at h; cases h
    rw [if_neg h0] at h
    by_cases h2 : arity (kAt p k) = 2
    · rw [if_pos h2] at h
      obtain ⟨y, hy, h⟩ := Option.bind_eq_some_iff.1 h
      obtain ⟨z, hz, h⟩ := Option.bind_eq_some_iff.1 h
      injection h with h
      have hzr := endP_range p _ _ _ hz
      subst h
      by_cases hy1 : j < y.1
      · obtain ⟨q, u, a, b, c⟩ := ih _ _ hy j (by omega) hy1
        exact ⟨q, u, by omega, b, by simp; omega⟩
      · obtain ⟨q, u, a, b, c⟩ := ih _ _ hz j (by omega) hj
        exact ⟨q, u, by omega, b, c⟩
    rw [if_neg h2] at h
    by_cases h1 : arity (kAt p k) = 1
    · rw [if_pos h1] at h
      obtain ⟨y, hy, h⟩ := Option.bind_eq_some_iff.1 h
      injection h with h
      subst h
      obtain ⟨q, u, a, b, c⟩ := ih _ _ hy j (by omega) hj
      exact ⟨q, u, by omega, b, c⟩
    rw [if_neg h1] at h
    injection h with h
    subst h
    simp at hj
    omega
theorem good_end {p : List S58} {k : Int} (h : goodAt p k = true) : ∃ n : Nat, k = n ∧ n < p.length ∧ ∃ q x, q ≤ 10 ∧ endP p q n = some x := by
  unfold goodAt at h
  simp only [Bool.and_eq_true, decide_eq_true_eq] at h
  obtain ⟨n, rfl⟩ := Int.eq_ofNat_of_zero_le h.2.1
  obtain ⟨x, hx, hl⟩ := plan_end h.1
  obtain ⟨q, y, a, b, _⟩ := endP_inside p _ _ _ hx n (by omega) (by omega)
  exact ⟨n, rfl, by omega, q, y, a, b⟩
def kidsOf (p : List S58) (k : Int) : List Int := if goodAt p k = true then kids p k.toNat else []
theorem kids_length (p : List S58) (k : Nat) : (kids p k).length ≤ 2 := by
  unfold kids
  repeat' split
  all_goals simp
theorem kidsOf_length (p : List S58) (k : Int) : (kidsOf p k).length ≤ 2 := by
  unfold kidsOf
  split
  · exact kids_length _ _
  · simp

def partOf (p : List S58) (k : Int) : List S58 := if goodAt p k = true then (p.take (endOf p k).toNat).drop k.toNat else []
theorem endOf_good {p : List S58} {k : Int} (h : goodAt p k = true) : 0 ≤ k ∧ k < endOf p k ∧ endOf p k ≤ p.length ∧ endOf p k = endI (endP p 10 k.toNat) := by
  obtain ⟨n, rfl, hn, q, x, hq, hx⟩ := good_end h
  have h10 := endP_mono p _ _ _ 10 hx hq
  have hr := endP_range p _ _ _ hx
  have e : endOf p (n : Int) = x.1 := by
    unfold endOf
    rw [if_pos h, Int.toNat_natCast, h10]
    rfl
  refine ⟨by omega, by omega, by omega, ?_⟩
  unfold endOf
  rw [if_pos h]
theorem partOf_length (p : List S58) (k : Int) : (partOf p k).length ≤ p.length := by
  unfold partOf
  split
  · simp; omega
  · simp
theorem partOf_mem {p : List S58} {k : Int} {x : S58} (h : x ∈ partOf p k) : x ∈ p := by
  unfold partOf at h
  split at h
  · exact List.mem_of_mem_take (List.mem_of_mem_drop h)
  · cases h

theorem ev_impl_PartOf (p : List S58) (hl : p.length ≤ 1048576) (hs : ∀ x ∈ p, x.f1.size ≤ 1048576 ∧ x.f6.length ≤ 1048576) (k : Int) : Ev (fun n => impl_PartOf.f n p k) (partOf p k) := by
  simp only [impl_PartOf.f]
  refine Ev.bind (ev_impl_has p hl hs k) ?_
  have hpl := partOf_length p k
  have hpm := fun x (h : x ∈ partOf p k) => (hs x (partOf_mem h)).2
  unfold partOf at hpl hpm ⊢
  refine Ev_ite (fun h => ?_) (fun h => ?_)
  · rw [if_pos h] at hpl hpm ⊢
    obtain ⟨g0, g1, g2, g3⟩ := endOf_good h
    obtain ⟨n, rfl⟩ := Int.eq_ofNat_of_zero_le g0
    have i1 := ev_impl_end p hl 10 n (by omega) (by omega)
    rw [Int.toNat_natCast] at g3
    rw [show (11 : Int) - ((10 : Nat) : Int) = 1 from rfl, ← g3] at i1
    refine Ev.bind i1 ?_
    simp only [if_pos g0, if_pos (show (n : Int) ≤ endOf p n by omega), if_pos g2]
    refine Ev.bind (ev_impl_own _ (by omega) hpm) ?_
    exact Ev.now _
  · rw [if_neg h]; exact Ev.now _

theorem concatN_eq (k : Nat) (a b c : List S58) (la : a.length ≤ 1048576) (lb : b.length ≤ 1048576) (lc : c.length ≤ 1048576) : slices_Concat_impl_Node_impl_Node.f k [a, b, c] = some (a ++ b ++ c) := by
  unfold slices_Concat_impl_Node_impl_Node.f
  rw [if_pos (by simp only [slices_Concat_impl_Node_impl_Node.sum]; omega)]
  simp

def putOut (p : List S58) (k : Int) (part : List S58) : List S58 := p.take k.toNat ++ part ++ p.drop (endOf p k).toNat
def putPart (p : List S58) (k : Int) (part : List S58) : List S58 × Bool :=
  if goodAt p k = true then (if planOk part = true then (if planOk (putOut p k part) = true then (putOut p k part, true) else (p, false)) else (p, false)) else (p, false)
theorem planOk_len {p : List S58} (h : planOk p = true) : p.length ≤ 40 := by
  unfold planOk at h
  simp only [Bool.and_eq_true, decide_eq_true_eq] at h
  exact h.1.1.2
theorem goodAt_ok {p : List S58} {k : Int} (h : goodAt p k = true) : planOk p = true := by
  unfold goodAt at h
  simp only [Bool.and_eq_true] at h
  exact h.1
theorem putOut_mem {p part : List S58} {k : Int} {x : S58} (h : x ∈ putOut p k part) : x ∈ p ∨ x ∈ part := by
  unfold putOut at h
  rcases List.mem_append.1 h with h | h
  · rcases List.mem_append.1 h with h | h
    · exact .inl (List.mem_of_mem_take h)
    · exact .inr h
  · exact .inl (List.mem_of_mem_drop h)
theorem putOut_len (p part : List S58) (k : Int) : (putOut p k part).length ≤ p.length + part.length + p.length := by
  unfold putOut
  simp only [List.length_append, List.length_take, List.length_drop]
  omega
theorem putPart_mem {p part : List S58} {k : Int} {x : S58} (h : x ∈ (putPart p k part).1) : x ∈ p ∨ x ∈ part := by
  unfold putPart at h
  split at h
  · split at h
    · split at h
      · exact putOut_mem h
      · exact .inl h
    · exact .inl h
  · exact .inl h
theorem putPart_len (p part : List S58) (k : Int) (hp : p.length ≤ 1048576) : (putPart p k part).1.length ≤ 1048576 := by
  unfold putPart
  split
  · split
    · split
      · rename_i h; have := planOk_len h; show (putOut p k part).length ≤ _; omega
      · exact hp
    · exact hp
  · exact hp

theorem ev_impl_PutPart_no (p : List S58) (hl : p.length ≤ 1048576) (hs : ∀ x ∈ p, x.f1.size ≤ 1048576 ∧ x.f6.length ≤ 1048576) (k : Int) (part : List S58) : Ev (fun n => impl_PutPart.j0 n p k part true) (p, false) := by
  apply Ev.step
  · intro k; rw [impl_PutPart.j0]
  simp only [if_true]
  refine Ev.bind (ev_impl_own p hl (fun x hx => (hs x hx).2)) ?_
  exact Ev.now _
theorem ev_impl_PutPart (p : List S58) (hl : p.length ≤ 1048576) (hs : ∀ x ∈ p, x.f1.size ≤ 1048576 ∧ x.f6.length ≤ 1048576) (k : Int) (part : List S58) (hl2 : part.length ≤ 1048576) (hs2 : ∀ x ∈ part, x.f1.size ≤ 1048576 ∧ x.f6.length ≤ 1048576) : Ev (fun n => impl_PutPart.f n p k part) (putPart p k part) := by
  simp only [impl_PutPart.f]
  refine Ev.bind (ev_impl_has p hl hs k) ?_
  unfold putPart
  refine Ev_ite (fun hg => ?_) (fun hg => ?_)
  · rw [if_pos hg]
    refine Ev.bind (ev_impl_PlanOk part hl2 hs2) ?_
    by_cases hq : planOk part = true
    · rw [if_pos hq, hq]
      simp only [Bool.not_true]
      have h40 := planOk_len hq
      have p40 := planOk_len (goodAt_ok hg)
      obtain ⟨g0, g1, g2, g3⟩ := endOf_good hg
      have hom : ∀ x ∈ putOut p k part, x.f1.size ≤ 1048576 ∧ x.f6.length ≤ 1048576 := fun x hx => (putOut_mem hx).elim (hs x) (hs2 x)
      have hol := putOut_len p part k
      apply Ev.step
      · intro k; rw [impl_PutPart.j0]
      simp only [if_neg Bool.false_ne_true, if_pos g0, if_pos (show k ≤ (p.length : Int) by omega)]
      obtain ⟨n, rfl⟩ := Int.eq_ofNat_of_zero_le g0
      have i1 := ev_impl_end p hl 10 n (by omega) (by omega)
      rw [Int.toNat_natCast] at g3
      rw [show (11 : Int) - ((10 : Nat) : Int) = 1 from rfl, ← g3] at i1
      refine Ev.bind i1 ?_
      simp only [if_pos (show 0 ≤ endOf p n by omega), if_pos g2, concatN_eq _ (p.take (n : Int).toNat) part (p.drop (endOf p n).toNat) (by rw [List.length_take]; omega) hl2 (by rw [List.length_drop]; omega), Option.bind_some]
      refine Ev.bind (ev_impl_own (putOut p n part) (by omega) (fun x hx => (hom x hx).2)) ?_
      refine Ev.bind (ev_impl_PlanOk (putOut p n part) (by omega) hom) ?_
      refine Ev_ite (fun h => ?_) (fun h => ?_)
      · rw [if_pos h]; exact Ev.now _
      · rw [if_neg h]
        refine Ev.bind (ev_impl_own p hl (fun x hx => (hs x hx).2)) ?_
        exact Ev.now _
    · rw [if_neg hq, Bool.eq_false_iff.mpr hq]
      exact ev_impl_PutPart_no p hl hs k part
  · rw [if_neg hg]
    exact ev_impl_PutPart_no p hl hs k part

theorem S33_ext (x y : S58) : x = y ↔ (x.f0 = y.f0 ∧ x.f1.toList = y.f1.toList ∧ x.f2 = y.f2 ∧ x.f3 = y.f3 ∧ x.f4 = y.f4 ∧ x.f5 = y.f5 ∧ x.f6 = y.f6) := by
  constructor
  · rintro rfl; exact ⟨rfl, rfl, rfl, rfl, rfl, rfl, rfl⟩
  · obtain ⟨a0, a1, a2, a3, a4, a5, a6⟩ := x
    obtain ⟨b0, b1, b2, b3, b4, b5, b6⟩ := y
    rintro ⟨h0, h1, h2, h3, h4, h5, h6⟩
    simp only at h0 h1 h2 h3 h4 h5 h6
    have : a1 = b1 := by
      rw [Lib.toList_data, Lib.toList_data] at h1
      exact ByteArray.ext (Array.toList_inj.1 h1)
    subst h0 this h2 h3 h4 h5 h6
    rfl

theorem ev_slices_EqualFunc_impl_Node_impl_Node_impl_Node_impl_Node_l0 (a b : List S58) (hl : a.length = b.length) (ha : a.length ≤ 1099511627776) (hs : ∀ x ∈ a, x.f6.length ≤ 1099511627776) : ∀ (d i : Nat), i + d = a.length → ∃ q, Ev (fun k => slices_EqualFunc_impl_Node_impl_Node_impl_Node_impl_Node.l0 k b a (a.length : Int) i) q ∧ (q = true ↔ a.drop i = b.drop i) := by
  intro d
  induction d with
  | zero =>
    intro i h
    refine ⟨true, ?_, by rw [drop_nil' (show a.length ≤ i by omega), drop_nil' (show b.length ≤ i by omega)]; simp⟩
    apply Ev.step
    · intro k; rw [slices_EqualFunc_impl_Node_impl_Node_impl_Node_impl_Node.l0]
    simp only [if_neg (show ¬ ((i : Int) < a.length) by omega)]
    exact Ev.now _
  | succ d ih =>
    intro i h
    obtain ⟨q, hq, hq2⟩ := ih (i + 1) (by omega)
    have hm := hs _ (getD_mem (z := z58) (show i < a.length by omega))
    have e1 : rd_T58 a (i : Int) = a.getD i z58 := by simp [rd_T58]
    have e2 : rd_T58 b (i : Int) = b.getD i z58 := by simp [rd_T58]
    rw [drop_getD a z58 i (by omega), drop_getD b z58 i (by omega)]
    generalize a.getD i z58 = u at hm e1 ⊢
    generalize b.getD i z58 = v at e2 ⊢
    by_cases he : u = v
    · refine ⟨q, ?_, by rw [List.cons.injEq, hq2]; simp [he]⟩
      apply Ev.step
      · intro k; rw [slices_EqualFunc_impl_Node_impl_Node_impl_Node_impl_Node.l0]
      simp only [if_pos (show (i : Int) < a.length by omega), if_pos (show (i : Int) < b.length by omega), if_pos (show (0 : Int) ≤ i by omega), w64 (x := (i : Int) + 1) (by omega), e1, e2]
      refine Ev.bind (ev_impl_sameNode _ _ _ _ _ _ _ _ _ _ _ _ _ _ hm) ?_
      simp only [decide_eq_true ((S33_ext u v).1 he), if_true]
      simpa using hq
    · refine ⟨false, ?_, by rw [List.cons.injEq]; simp [he]⟩
      apply Ev.step
      · intro k; rw [slices_EqualFunc_impl_Node_impl_Node_impl_Node_impl_Node.l0]
      simp only [if_pos (show (i : Int) < a.length by omega), if_pos (show (i : Int) < b.length by omega), if_pos (show (0 : Int) ≤ i by omega), w64 (x := (i : Int) + 1) (by omega), e1, e2]
      refine Ev.bind (ev_impl_sameNode _ _ _ _ _ _ _ _ _ _ _ _ _ _ hm) ?_
      simp only [decide_eq_false (fun h => he ((S33_ext u v).2 h)), if_neg Bool.false_ne_true]
      exact Ev.now _
theorem ev_slices_EqualFunc_impl_Node_impl_Node_impl_Node_impl_Node (a b : List S58) (ha : a.length ≤ 1099511627776) (hs : ∀ x ∈ a, x.f6.length ≤ 1099511627776) : ∃ q, Ev (fun k => slices_EqualFunc_impl_Node_impl_Node_impl_Node_impl_Node.f k a b) q ∧ (q = true ↔ a = b) := by
  by_cases hl : a.length = b.length
  · obtain ⟨q, h1, h2⟩ := ev_slices_EqualFunc_impl_Node_impl_Node_impl_Node_impl_Node_l0 a b hl ha hs a.length 0 (by omega)
    refine ⟨q, ?_, by simpa using h2⟩
    simp only [slices_EqualFunc_impl_Node_impl_Node_impl_Node_impl_Node.f, if_pos (show (a.length : Int) = b.length by omega)]
    simpa using h1
  · refine ⟨false, ?_, by simp; intro h; exact hl (by rw [h])⟩
    simp only [slices_EqualFunc_impl_Node_impl_Node_impl_Node_impl_Node.f, if_neg (show ¬ (a.length : Int) = b.length by omega)]
    exact Ev.now _

theorem ev_impl_SamePlan (a b : List S58) (ha : a.length ≤ 1099511627776) (hs : ∀ x ∈ a, x.f6.length ≤ 1099511627776) : ∃ q, Ev (fun k => impl_SamePlan.f k a b) q ∧ (q = true ↔ a = b) := by
  obtain ⟨q, h, g⟩ := ev_slices_EqualFunc_impl_Node_impl_Node_impl_Node_impl_Node a b ha hs
  refine ⟨q, ?_, g⟩
  simp only [impl_SamePlan.f]
  refine Ev.bind h ?_
  exact Ev.now _

theorem ev_impl_ChildrenOf (p : List S58) (hl : p.length ≤ 1048576) (hs : ∀ x ∈ p, x.f1.size ≤ 1048576 ∧ x.f6.length ≤ 1048576) (k : Int) : Ev (fun n => impl_ChildrenOf.f n p k) (kidsOf p k) := by
  simp only [impl_ChildrenOf.f]
  refine Ev.bind (ev_impl_has p hl hs k) ?_
  unfold kidsOf
  refine Ev_ite (fun h => ?_) (fun h => ?_)
  · rw [if_pos h]
    obtain ⟨n, rfl, _, q, x, hq, hx⟩ := good_end h
    refine Ev.bind (ev_impl_children p hl q n x hq hx) ?_
    exact Ev.now _
  · rw [if_neg h]; exact Ev.now _

def countK (kind : Int) : List S58 → Int
  | [] => 0
  | x :: l => (if x.f0 = kind then 1 else 0) + countK kind l

theorem ev_impl_CountKind_l0 (p : List S58) (kind : Int) (hl : p.length ≤ 1048576) : ∀ (d i : Nat) (c : Int), i + d = p.length → 0 ≤ c → c ≤ i → Ev (fun k => impl_CountKind.l0 k kind c p (p.length : Int) i) (c + countK kind (p.drop i)) := by
  intro d
  induction d with
  | zero =>
    intro i c h h0 h1
    apply Ev.step
    · intro k; rw [impl_CountKind.l0]
    simp only [if_neg (show ¬ ((i : Int) < p.length) by omega), drop_nil' (show p.length ≤ i by omega)]
    exact Ev.const (by simp [countK])
  | succ d ih =>
    intro i c h h0 h1
    rw [drop_rdT p i (by omega), countK]
    apply Ev.step
    · intro k; rw [impl_CountKind.l0]
    simp only [if_pos (show (i : Int) < p.length by omega), if_pos (show (0 : Int) ≤ i by omega), w64 (x := (i : Int) + 1) (by omega), w64 (x := c + 1) (by omega)]
    refine Ev_ite (fun he => ?_) (fun he => ?_)
    · rw [if_pos he]
      have := ih (i + 1) (c + 1) (by omega) (by omega) (by omega)
      rw [← Int.add_assoc]
      simpa using this
    · rw [if_neg he]
      have := ih (i + 1) c (by omega) (by omega) (by omega)
      rw [Int.zero_add]
      simpa using this
theorem ev_impl_CountKind (p : List S58) (hl : p.length ≤ 1048576) (hs : ∀ x ∈ p, x.f1.size ≤ 1048576 ∧ x.f6.length ≤ 1048576) (kind : Int) : Ev (fun n => impl_CountKind.f n p kind) (if planOk p = true then countK kind p else -1) := by
  simp only [impl_CountKind.f]
  refine Ev.bind (ev_impl_PlanOk p hl hs) ?_
  refine Ev_ite (fun h => ?_) (fun h => ?_)
  · rw [if_pos h]
    have := ev_impl_CountKind_l0 p kind hl p.length 0 0 (by omega) (by omega) (by omega)
    simpa using this
  · rw [if_neg h]; exact Ev.now _

abbrev BL := List UInt8
theorem bl_trichot (a b : BL) : a < b ∨ a = b ∨ b < a := by
  by_cases h : a < b
  · exact .inl h
  by_cases h2 : b < a
  · exact .inr (.inr h2)
  · exact .inr (.inl (List.le_antisymm (List.not_lt.1 h2) (List.not_lt.1 h)))
def insL (x : BL) : List BL → List BL
  | [] => [x]
  | y :: ys => if x = y then y :: ys else if x < y then x :: y :: ys else y :: insL x ys
theorem insL_mem (x : BL) : ∀ (l : List BL) (z : BL), z ∈ insL x l ↔ z = x ∨ z ∈ l
  | [], z => by simp [insL]
  | y :: ys, z => by
    unfold insL
    by_cases h : x = y
    · rw [if_pos h]; subst h; simp
    · rw [if_neg h]
      by_cases h2 : x < y
      · rw [if_pos h2]; simp
      · rw [if_neg h2]
        simp only [List.mem_cons, insL_mem x ys z]
        constructor
        · rintro (h | h | h)
          · exact .inr (.inl h)
          · exact .inl h
          · exact .inr (.inr h)
        · rintro (h | h | h)
          · exact .inr (.inl h)
          · exact .inl h
          · exact .inr (.inr h)
theorem insL_sorted (x : BL) : ∀ (l : List BL), l.Pairwise (· < ·) → (insL x l).Pairwise (· < ·)
  | [], _ => by simp [insL]
  | y :: ys, hs => by
    unfold insL
    obtain ⟨h1, h2⟩ := List.pairwise_cons.1 hs
    by_cases h : x = y
    · rw [if_pos h]; exact hs
    · rw [if_neg h]
      by_cases hlt : x < y
      · rw [if_pos hlt]
        refine List.pairwise_cons.2 ⟨fun z hz => ?_, hs⟩
        rcases List.mem_cons.1 hz with rfl | hz
        · exact hlt
        · exact List.lt_trans hlt (h1 z hz)
      · rw [if_neg hlt]
        refine List.pairwise_cons.2 ⟨fun z hz => ?_, insL_sorted x ys h2⟩
        rcases (insL_mem x ys z).1 hz with rfl | hz
        · rcases bl_trichot z y with a | a | a
          · exact absurd a hlt
          · exact absurd a h
          · exact a
        · exact h1 z hz
theorem foldl_ins (names : List BL) : ∀ (acc : List BL), acc.Pairwise (· < ·) → (names.foldl (fun o x => insL x o) acc).Pairwise (· < ·) ∧ ∀ z, z ∈ names.foldl (fun o x => insL x o) acc ↔ z ∈ acc ∨ z ∈ names := by
  induction names with
  | nil => intro acc h; exact ⟨h, fun z => by simp⟩
  | cons x xs ih =>
    intro acc h
    obtain ⟨h1, h2⟩ := ih (insL x acc) (insL_sorted x acc h)
    refine ⟨h1, fun z => ?_⟩
    rw [List.foldl_cons, h2, insL_mem, List.mem_cons]
    constructor
    · rintro ((h | h) | h)
      · exact .inr (.inl h)
      · exact .inl h
      · exact .inr (.inr h)
    · rintro (h | h | h)
      · exact .inl (.inr h)
      · exact .inl (.inl h)
      · exact .inr h
theorem compact_up (d : Array BL) (hs : ∀ i j, i ≤ j → j < d.size → d[i]! ≤ d[j]!) : ∀ m, m ≤ d.size → (Go.Lib.compactUpTo d m).Pairwise (· < ·) ∧ (∀ z, z ∈ Go.Lib.compactUpTo d m ↔ ∃ j, j < m ∧ d[j]! = z) := by
  intro m
  induction m with
  | zero => intro _; refine ⟨by simp [Go.Lib.compactUpTo], fun z => by simp [Go.Lib.compactUpTo]⟩
  | succ m ih =>
    intro hm
    obtain ⟨h1, h2⟩ := ih (by omega)
    rw [Go.Lib.compactUpTo_succ]
    by_cases hk : Go.Lib.keeps d m = true
    · rw [if_pos hk]
      refine ⟨List.pairwise_append.2 ⟨h1, by simp, fun a ha b hb => ?_⟩, fun z => ?_⟩
      · rw [List.mem_singleton.1 hb]
        obtain ⟨j, hj, rfl⟩ := (h2 a).1 ha
        have hne : d[m]! ≠ d[m - 1]! := by
          simp only [Go.Lib.keeps, decide_eq_true_eq] at hk
          rcases hk with hk | hk
          · omega
          · exact hk
        have ha := hs j (m - 1) (by omega) (by omega)
        have hb := hs (m - 1) m (by omega) (by omega)
        rcases bl_trichot d[m - 1]! d[m]! with q | q | q
        · exact List.lt_of_le_of_lt ha q
        · exact absurd q.symm hne
        · exact absurd q (List.not_lt.2 hb)
      · rw [List.mem_append, h2, List.mem_singleton]
        constructor
        · rintro (⟨j, hj, e⟩ | e)
          · exact ⟨j, by omega, e⟩
          · exact ⟨m, by omega, e.symm⟩
        · rintro ⟨j, hj, e⟩
          by_cases q : j = m
          · subst q; exact .inr e.symm
          · exact .inl ⟨j, by omega, e⟩
    · rw [if_neg hk, List.append_nil]
      refine ⟨h1, fun z => ?_⟩
      rw [h2]
      simp only [Go.Lib.keeps, decide_eq_true_eq, not_or, ne_eq, Classical.not_not] at hk
      constructor
      · rintro ⟨j, hj, e⟩; exact ⟨j, by omega, e⟩
      · rintro ⟨j, hj, e⟩
        by_cases q : j = m
        · subst q; exact ⟨j - 1, by omega, by rw [← hk.2]; exact e⟩
        · exact ⟨j, by omega, e⟩
theorem sorted_unique : ∀ (a b : List BL), a.Pairwise (· < ·) → b.Pairwise (· < ·) → (∀ z, z ∈ a ↔ z ∈ b) → a = b
  | [], [], _, _, _ => rfl
  | [], y :: ys, _, _, h => by have := (h y).2 List.mem_cons_self; cases this
  | x :: xs, [], _, _, h => by have := (h x).1 List.mem_cons_self; cases this
  | x :: xs, y :: ys, ha, hb, h => by
    obtain ⟨a1, a2⟩ := List.pairwise_cons.1 ha
    obtain ⟨b1, b2⟩ := List.pairwise_cons.1 hb
    have hxy : x = y := by
      rcases List.mem_cons.1 ((h x).1 List.mem_cons_self) with e | e
      · exact e
      rcases List.mem_cons.1 ((h y).2 List.mem_cons_self) with e2 | e2
      · exact e2.symm
      · exact absurd (List.lt_trans (b1 x e) (a1 y e2)) (List.lt_irrefl y)
    subst hxy
    congr 1
    refine sorted_unique xs ys a2 b2 (fun z => ?_)
    constructor
    · intro hz
      rcases List.mem_cons.1 ((h z).1 (List.mem_cons_of_mem _ hz)) with e | e
      · subst e; exact absurd (a1 z hz) (List.lt_irrefl z)
      · exact e
    · intro hz
      rcases List.mem_cons.1 ((h z).2 (List.mem_cons_of_mem _ hz)) with e | e
      · subst e; exact absurd (b1 z hz) (List.lt_irrefl z)
      · exact e
theorem tabs_eq (names : List BL) : names.foldl (fun o x => insL x o) [] = Go.Lib.compact (names.mergeSort fun x y => decide (x ≤ y)) := by
  obtain ⟨h1, h2⟩ := foldl_ins names [] List.Pairwise.nil
  have hp : (names.mergeSort fun x y => decide (x ≤ y)).Pairwise (fun x y => decide (x ≤ y) = true) := List.pairwise_mergeSort (fun a b c hab hbc => by simp only [decide_eq_true_eq] at *; exact List.le_trans hab hbc) (fun a b => by simp only [Bool.or_eq_true, decide_eq_true_eq]; exact List.le_total a b) names
  have hm : ∀ z, z ∈ (names.mergeSort fun x y => decide (x ≤ y)) ↔ z ∈ names := fun z => List.mem_mergeSort
  generalize (names.mergeSort fun x y => decide (x ≤ y)) = s at *
  have hs : ∀ i j, i ≤ j → j < s.toArray.size → s.toArray[i]! ≤ s.toArray[j]! := by
    intro i j hij hj
    have hj' : j < s.length := by simpa using hj
    by_cases q : i = j
    · subst q; exact List.le_refl _
    · have := List.pairwise_iff_getElem.1 hp i j (by omega) hj' (by omega)
      simp only [decide_eq_true_eq] at this
      simpa [getElem!_pos, hj', show i < s.length by omega] using this
  obtain ⟨c1, c2⟩ := compact_up s.toArray hs s.length (by simp)
  refine sorted_unique _ _ h1 c1 (fun z => ?_)
  rw [h2]
  unfold Go.Lib.compact
  rw [c2, ← hm z]
  constructor
  · rintro (h | h)
    · cases h
    · obtain ⟨j, hj, e⟩ := List.mem_iff_getElem.1 h
      exact ⟨j, hj, by simpa [getElem!_pos, hj] using e⟩
  · rintro ⟨j, hj, e⟩
    refine .inr (List.mem_iff_getElem.2 ⟨j, hj, by simpa [getElem!_pos, hj] using e⟩)

theorem toList_bytes (b : ByteArray) : b.toList = Q.bytesOf b := by
  obtain ⟨⟨l⟩⟩ := b
  simp [Q.bytesOf]
theorem bytes_inj {a b : ByteArray} (h : Q.bytesOf a = Q.bytesOf b) : a = b := by
  rw [← str_bytes a, ← str_bytes b, h]
theorem bytes_str (l : List UInt8) : Q.bytesOf (strOf l) = l := by simp [Q.bytesOf, strOf]
def insU (x : ByteArray) : List ByteArray → List ByteArray
  | [] => [x]
  | y :: ys => if Q.bytesOf x = Q.bytesOf y then y :: ys else if Q.bytesOf x < Q.bytesOf y then x :: y :: ys else y :: insU x ys
theorem insU_map (x : ByteArray) : ∀ l : List ByteArray, (insU x l).map Q.bytesOf = insL (Q.bytesOf x) (l.map Q.bytesOf)
  | [] => rfl
  | y :: ys => by
    unfold insU
    simp only [List.map_cons, insL]
    split
    · rfl
    split
    · rfl
    · rw [List.map_cons, insU_map x ys]
theorem insU_len (x : ByteArray) : ∀ l : List ByteArray, (insU x l).length ≤ l.length + 1
  | [] => by simp [insU]
  | y :: ys => by
    have := insU_len x ys
    unfold insU
    split
    · simp
    split
    · simp
    · simp only [List.length_cons]; omega
theorem foldU_map : ∀ (ns o : List ByteArray), (ns.foldl (fun o x => insU x o) o).map Q.bytesOf = (ns.map Q.bytesOf).foldl (fun o x => insL x o) (o.map Q.bytesOf)
  | [], o => rfl
  | n :: ns, o => by simp only [List.foldl_cons, List.map_cons, foldU_map ns, insU_map]
theorem map_bytes_inj {a b : List ByteArray} (h : a.map Q.bytesOf = b.map Q.bytesOf) : a = b := by
  have := congrArg (List.map strOf) h
  simpa [List.map_map, Function.comp_def, str_bytes] using this
theorem compactB_len (l : List ByteArray) : (compactB l).length ≤ l.length := by
  have := Go.Lib.compact_length_le (l.map Q.bytesOf)
  rw [List.length_map] at this
  unfold compactB
  rw [List.length_map]
  exact this
theorem tabs_same (ns : List ByteArray) : ns.foldl (fun o x => insU x o) [] = compactB (sortB ns) := by
  apply map_bytes_inj
  rw [foldU_map, List.map_nil, tabs_eq]
  unfold compactB sortB
  simp only [List.map_map, Function.comp_def, bytes_str, List.map_id']
def tabNames (p : List S58) : List ByteArray := (p.filter fun x => decide (x.f0 = 0)).map (·.f1)
theorem tabNames_cons (x : S58) (p : List S58) : tabNames (x :: p) = if x.f0 = 0 then x.f1 :: tabNames p else tabNames p := by
  unfold tabNames
  by_cases h : x.f0 = 0
  · simp [h]
  · simp [h]
theorem tabNames_len (p : List S58) : (tabNames p).length ≤ p.length := by
  unfold tabNames
  rw [List.length_map]
  exact List.length_filter_le _ _
def tablesOf (p : List S58) : List ByteArray := if planOk p = true then compactB (sortB (tabNames p)) else []

theorem ev_impl_TablesOf_l0 (p : List S58) (hl : p.length ≤ 1048576) : ∀ (d i : Nat) (acc : List ByteArray), i + d = p.length → acc.length ≤ i → Ev (fun k => impl_TablesOf.l0 k acc p p.length i) (compactB (sortB (acc ++ tabNames (p.drop i)))) := by
  intro d
  induction d with
  | zero =>
    intro i acc h ha
    apply Ev.step
    · intro k; rw [impl_TablesOf.l0]
    simp only [if_neg (show ¬ ((i : Int) < p.length) by omega)]
    rw [List.drop_eq_nil_of_le (by omega)]
    simp only [slices_Sort_string_string.f, slices_Compact_string_string.f, if_pos (show acc.length ≤ 1099511627776 by omega), Option.bind_some]
    exact Ev.const (by simp [tabNames])
  | succ d ih =>
    intro i acc h ha
    apply Ev.step
    · intro k; rw [impl_TablesOf.l0]
    simp only [if_pos (show (i : Int) < p.length by omega), if_pos (show (0 : Int) ≤ i by omega), w64 (x := (i : Int) + 1) (by omega)]
    rw [drop_rdT p i (by omega), tabNames_cons]
    refine Ev_ite (fun c => ?_) (fun c => ?_)
    · rw [if_pos c]
      simp only [if_pos (show acc.length < 8796093022208 by omega)]
      have := ih (i + 1) (acc ++ [(rd_T58 p (i : Int)).f1]) (by omega) (by simp; omega)
      simpa using this
    · rw [if_neg c]
      simpa using ih (i + 1) acc (by omega) (by omega)
theorem ev_impl_TablesOf (p : List S58) (hl : p.length ≤ 1048576) (hs : ∀ x ∈ p, x.f1.size ≤ 1048576 ∧ x.f6.length ≤ 1048576) : Ev (fun k => impl_TablesOf.f k p) (tablesOf p) := by
  simp only [impl_TablesOf.f]
  refine Ev.bind (ev_impl_PlanOk p hl hs) ?_
  unfold tablesOf
  refine Ev_ite (fun h => ?_) (fun h => ?_)
  · rw [if_pos h]
    simpa using ev_impl_TablesOf_l0 p hl p.length 0 [] (by omega) (by simp)
  · rw [if_neg h]; exact Ev.now _

theorem nodeOk_kind {x : S58} (h : nodeOkN x = true) : 0 ≤ x.f0 ∧ x.f0 ≤ 7 := by
  unfold nodeOkN nodeOk nodeKind at h
  simp only [Bool.and_eq_true] at h
  have h2 := h.2
  by_cases h0 : 0 ≤ x.f0 ∧ x.f0 ≤ 7
  · exact h0
  · exfalso
    repeat' split at h2
    all_goals first | omega | (simp at h2; done) | (simp at h2; omega)
theorem planOk_node {p : List S58} (h : planOk p = true) {x : S58} (hx : x ∈ p) : nodeOkN x = true := by
  unfold planOk at h
  simp only [Bool.and_eq_true, List.all_eq_true] at h
  exact h.1.2 x hx
theorem good_at {p : List S58} (h : planOk p = true) {k : Nat} (hk : k < p.length) : goodAt p (k : Int) = true := by
  unfold goodAt
  rw [h, decide_eq_true (by omega)]; rfl
theorem end_at {p : List S58} (h : planOk p = true) {k : Nat} (hk : k < p.length) : ∃ x, endP p 10 k = some x ∧ endOf p (k : Int) = x.1 := by
  obtain ⟨n, e, _, q, x, hq, hx⟩ := good_end (good_at h hk)
  obtain rfl : k = n := by omega
  have h10 := endP_mono p _ _ _ 10 hx hq
  refine ⟨x, h10, ?_⟩
  unfold endOf
  rw [if_pos (good_at h hk), Int.toNat_natCast, h10]; rfl
theorem kAt_sub {p : List S58} {k e j : Nat} (he : e ≤ p.length) (hk : k ≤ j) (hj : j < e) : kAt ((p.take e).drop k) (j - k) = kAt p j := by
  unfold kAt rd_T58
  rw [Int.toNat_natCast, Int.toNat_natCast, List.getD_eq_getElem?_getD, List.getD_eq_getElem?_getD, List.getElem?_drop, List.getElem?_take, if_pos (by omega), show k + (j - k) = j by omega]
theorem endP_sub (p : List S58) (k e : Nat) (he : e ≤ p.length) : ∀ (r j : Nat) (x : Nat × Nat), endP p r j = some x → k ≤ j → x.1 ≤ e → endP ((p.take e).drop k) r (j - k) = some (x.1 - k, x.2) := by
  intro r
  induction r with
  | zero => intro j x h; simp [endP] at h
  | succ r ih =>
    intro j x h hk hx
    have hr := endP_range p _ _ _ h
    have hl : ((p.take e).drop k).length = e - k := by rw [List.length_drop, List.length_take]; omega
    have ha := kAt_sub (p := p) he hk (show j < e by omega)
    unfold endP at h ⊢
    rw [if_neg (by omega)] at h
    rw [if_neg (by omega), ha]
    by_cases h2 : arity (kAt p j) = 2
    · rw [if_pos h2] at h ⊢
      obtain ⟨y, hy, h⟩ := Option.bind_eq_some_iff.1 h
      obtain ⟨z, hz, h⟩ := Option.bind_eq_some_iff.1 h
      injection h with h
      subst h
      have hyr := endP_range p _ _ _ hy
      have hzr := endP_range p _ _ _ hz
      have hz1 : z.1 ≤ e := hx
      have a := ih _ _ hy (by omega) (by omega)
      have b := ih _ _ hz (by omega) hz1
      rw [show j - k + 1 = j + 1 - k by omega, a, Option.bind_some]
      show (endP ((p.take e).drop k) r (y.1 - k)).bind _ = _
      rw [b, Option.bind_some]
    rw [if_neg h2] at h ⊢
    by_cases h1 : arity (kAt p j) = 1
    · rw [if_pos h1] at h ⊢
      obtain ⟨y, hy, h⟩ := Option.bind_eq_some_iff.1 h
      injection h with h
      subst h
      have hyr := endP_range p _ _ _ hy
      have hy1 : y.1 ≤ e := hx
      have a := ih _ _ hy (by omega) hy1
      rw [show j - k + 1 = j + 1 - k by omega, a, Option.bind_some]
    rw [if_neg h1] at h ⊢
    injection h with h
    subst h
    show some (j - k + 1, 1) = some (j + 1 - k, 1)
    rw [show j - k + 1 = j + 1 - k by omega]
def depthOf (p : List S58) : Int := if planOk p = true then (match endP p 10 0 with | none => 0 | some x => (x.2 : Int)) else 0
theorem part_law {p : List S58} (h : planOk p = true) {k : Nat} (hk : k < p.length) {x : Nat × Nat} (hx : endP p 10 k = some x) :
    partOf p (k : Int) = (p.take x.1).drop k ∧ (partOf p (k : Int)).length = x.1 - k ∧ planOk (partOf p (k : Int)) = true ∧ depthOf (partOf p (k : Int)) = x.2 := by
  obtain ⟨x', hx', he⟩ := end_at h hk
  rw [hx] at hx'
  injection hx' with hx'
  subst hx'
  have hr := endP_range p _ _ _ hx
  have hp : partOf p (k : Int) = (p.take x.1).drop k := by
    unfold partOf
    rw [if_pos (good_at h hk), he, Int.toNat_natCast, Int.toNat_natCast]
  have hl : (partOf p (k : Int)).length = x.1 - k := by rw [hp, List.length_drop, List.length_take]; omega
  have hs := endP_sub p k x.1 hr.2.1 10 k x hx (Nat.le_refl _) (Nat.le_refl _)
  rw [← hp, Nat.sub_self] at hs
  have hlen := planOk_len h
  have hok : planOk (partOf p (k : Int)) = true := by
    unfold planOk
    rw [hs, decide_eq_true (by omega), List.all_eq_true.2 (fun y hy => planOk_node h (partOf_mem hy))]
    simp only [endI, Bool.true_and, decide_eq_true_eq, hl]
  refine ⟨hp, hl, hok, ?_⟩
  unfold depthOf
  rw [if_pos hok, hs]
theorem put_back {p : List S58} (h : planOk p = true) {k : Nat} (hk : k < p.length) : putPart p (k : Int) (partOf p (k : Int)) = (p, true) := by
  obtain ⟨x, hx, he⟩ := end_at h hk
  have hr := endP_range p _ _ _ hx
  obtain ⟨hp, _, hok, _⟩ := part_law h hk hx
  have ho : putOut p (k : Int) (partOf p (k : Int)) = p := by
    unfold putOut
    rw [hp, he, Int.toNat_natCast, Int.toNat_natCast]
    rw [show p.take k = (p.take x.1).take k by rw [List.take_take, Nat.min_eq_left (by omega)], List.take_append_drop, List.take_append_drop]
  unfold putPart
  rw [if_pos (good_at h hk), if_pos hok, ho, if_pos h]
/-- The place behind the first i children. -/
def nxt (p : List S58) (k : Nat) : Nat → Int
  | 0 => (k : Int) + 1
  | i + 1 => endOf p (nxt p k i)
/-- The deepest of the first i children. -/
def dpt (p : List S58) (k : Nat) : Nat → Int
  | 0 => 0
  | i + 1 => if dpt p k i < depthOf (partOf p (nxt p k i)) then depthOf (partOf p (nxt p k i)) else dpt p k i
structure KidsLaw (p : List S58) (k : Nat) : Prop where
  ar : ((kidsOf p (k : Int)).length : Int) = arity (kAt p k)
  at_ : ∀ i, i < (kidsOf p (k : Int)).length → rd (kidsOf p (k : Int)) (i : Int) = nxt p k i
  end_ : nxt p k (kidsOf p (k : Int)).length = endOf p (k : Int)
  deep : depthOf (partOf p (k : Int)) = dpt p k (kidsOf p (k : Int)).length + 1
  lo : ∀ i, i ≤ (kidsOf p (k : Int)).length → 0 ≤ dpt p k i ∧ dpt p k i ≤ 10
theorem kids_law {p : List S58} (h : planOk p = true) {k : Nat} (hk : k < p.length) : KidsLaw p k := by
  obtain ⟨x, hx, he⟩ := end_at h hk
  obtain ⟨_, _, _, hd⟩ := part_law h hk hx
  have hx0 := hx
  have hkd := nodeOk_kind (planOk_node h (rdT_memN hk))
  have hka : arity (kAt p k) ≠ -1 := by
    have : 0 ≤ kAt p k ∧ kAt p k ≤ 7 := hkd
    unfold arity
    repeat' split
    all_goals omega
  have hks : kidsOf p (k : Int) = kids p k := by unfold kidsOf; rw [if_pos (good_at h hk), Int.toNat_natCast]
  unfold endP at hx
  rw [if_neg (by omega)] at hx
  have child : ∀ (j : Nat) (y : Nat × Nat), endP p 9 j = some y → endOf p (j : Int) = y.1 ∧ depthOf (partOf p (j : Int)) = y.2 ∧ endP p 10 j = some y ∧ 1 ≤ y.2 ∧ y.2 ≤ 9 := fun j y hy => by
    have hr := endP_range p _ _ _ hy
    have h10 := endP_mono p _ _ _ 10 hy (by omega)
    obtain ⟨y', hy', hey⟩ := end_at h (show j < p.length by omega)
    rw [h10] at hy'
    injection hy' with hy'
    subst hy'
    exact ⟨hey, (part_law h (show j < p.length by omega) h10).2.2.2, h10, hr.2.2.1, hr.2.2.2⟩
  by_cases h2 : arity (kAt p k) = 2
  · rw [if_pos h2] at hx
    obtain ⟨y, hy, hx⟩ := Option.bind_eq_some_iff.1 hx
    obtain ⟨z, hz, hx⟩ := Option.bind_eq_some_iff.1 hx
    injection hx with hx
    obtain ⟨ey, dy, y10, ly, uy⟩ := child _ _ hy
    obtain ⟨ez, dz, _, lz, uz⟩ := child _ _ hz
    have hkk : kids p k = [((k + 1 : Nat) : Int), (y.1 : Int)] := by unfold kids; rw [if_pos h2, y10]; rfl
    have n1 : nxt p k 1 = y.1 := by show endOf p ((k : Int) + 1) = _; rw [show (k : Int) + 1 = ((k + 1 : Nat) : Int) by omega, ey]
    have n2 : nxt p k 2 = z.1 := by show endOf p (nxt p k 1) = _; rw [n1, ez]
    have d1 : dpt p k 1 = y.2 := by
      show (if (0 : Int) < depthOf (partOf p ((k : Int) + 1)) then depthOf (partOf p ((k : Int) + 1)) else 0) = _
      rw [show (k : Int) + 1 = ((k + 1 : Nat) : Int) by omega, dy, if_pos (by omega)]
    have d2 : dpt p k 2 = max y.2 z.2 := by
      show (if dpt p k 1 < depthOf (partOf p (nxt p k 1)) then depthOf (partOf p (nxt p k 1)) else dpt p k 1) = _
      rw [d1, n1, dz]
      split <;> omega
    rw [← hx] at he hd
    refine ⟨by rw [hks, hkk, h2]; rfl, fun i hi => ?_, by rw [hks, hkk, he]; exact n2, by rw [hks, hkk, hd]; show _ = dpt p k 2 + 1; rw [d2]; rfl, fun i hi => ?_⟩
    · rw [hks, hkk] at hi ⊢
      match i, hi with
      | 0, _ => exact (by omega : ((k + 1 : Nat) : Int) = (k : Int) + 1)
      | 1, _ => rw [n1]; rfl
      | i + 2, hi => exfalso; simp only [List.length_cons, List.length_nil] at hi; omega
    · rw [hks, hkk] at hi
      match i, hi with
      | 0, _ => exact ⟨Int.le_refl _, by show (0 : Int) ≤ 10; decide⟩
      | 1, _ => rw [d1]; omega
      | 2, _ => rw [d2]; omega
      | i + 3, hi => exfalso; simp only [List.length_cons, List.length_nil] at hi; omega
  rw [if_neg h2] at hx
  by_cases h1 : arity (kAt p k) = 1
  · rw [if_pos h1] at hx
    obtain ⟨y, hy, hx⟩ := Option.bind_eq_some_iff.1 hx
    injection hx with hx
    obtain ⟨ey, dy, y10, ly, uy⟩ := child _ _ hy
    have hkk : kids p k = [((k + 1 : Nat) : Int)] := by unfold kids; rw [if_neg h2, if_pos h1]
    have n1 : nxt p k 1 = y.1 := by show endOf p ((k : Int) + 1) = _; rw [show (k : Int) + 1 = ((k + 1 : Nat) : Int) by omega, ey]
    have d1 : dpt p k 1 = y.2 := by
      show (if (0 : Int) < depthOf (partOf p ((k : Int) + 1)) then depthOf (partOf p ((k : Int) + 1)) else 0) = _
      rw [show (k : Int) + 1 = ((k + 1 : Nat) : Int) by omega, dy, if_pos (by omega)]
    rw [← hx] at he hd
    refine ⟨by rw [hks, hkk, h1]; rfl, fun i hi => ?_, by rw [hks, hkk, he]; exact n1, by rw [hks, hkk, hd]; show _ = dpt p k 1 + 1; rw [d1]; rfl, fun i hi => ?_⟩
    · rw [hks, hkk] at hi ⊢
      match i, hi with
      | 0, _ => exact (by omega : ((k + 1 : Nat) : Int) = (k : Int) + 1)
      | i + 1, hi => exfalso; simp only [List.length_cons, List.length_nil] at hi; omega
    · rw [hks, hkk] at hi
      match i, hi with
      | 0, _ => exact ⟨Int.le_refl _, by show (0 : Int) ≤ 10; decide⟩
      | 1, _ => rw [d1]; omega
      | i + 2, hi => exfalso; simp only [List.length_cons, List.length_nil] at hi; omega
  rw [if_neg h1] at hx
  injection hx with hx
  have h0 : arity (kAt p k) = 0 := by rcases arity_cases (kAt p k) with a | a | a | a <;> omega
  have hkk : kids p k = [] := by unfold kids; rw [if_neg h2, if_neg h1]
  rw [← hx] at he hd
  refine ⟨by rw [hks, hkk, h0]; rfl, fun i hi => ?_, by rw [hks, hkk, he]; show (k : Int) + 1 = ((k + 1 : Nat) : Int); omega, by rw [hks, hkk, hd]; rfl, fun i hi => ?_⟩
  · rw [hks, hkk] at hi; simp at hi
  · rw [hks, hkk] at hi
    have : i = 0 := by simpa using hi
    subst this
    exact ⟨Int.le_refl _, by show (0 : Int) ≤ 10; decide⟩
def sumK (p : List S58) : Nat → Int
  | 0 => 0
  | j + 1 => sumK p j + countK (j : Int) p
theorem sumK_cons (x : S58) (l : List S58) : ∀ j : Nat, sumK (x :: l) j = (if 0 ≤ x.f0 ∧ x.f0 < (j : Int) then 1 else 0) + sumK l j
  | 0 => by show (0 : Int) = _ + 0; rw [if_neg (by omega)]; rfl
  | j + 1 => by
    show sumK (x :: l) j + countK (j : Int) (x :: l) = _ + (sumK l j + countK (j : Int) l)
    rw [sumK_cons x l j, countK]
    split <;> split <;> split <;> omega
theorem sumK_all : ∀ (p : List S58), (∀ x ∈ p, 0 ≤ x.f0 ∧ x.f0 ≤ 7) → sumK p 8 = p.length
  | [], _ => rfl
  | x :: l, h => by
    have hx := h x List.mem_cons_self
    rw [sumK_cons, sumK_all l (fun y hy => h y (List.mem_cons_of_mem _ hy)), if_pos (by omega), List.length_cons]
    omega
theorem countK_range (kind : Int) : ∀ p : List S58, 0 ≤ countK kind p ∧ countK kind p ≤ p.length
  | [] => by simp [countK]
  | x :: l => by
    have := countK_range kind l
    rw [countK, List.length_cons]
    split <;> omega
theorem sumK_range (p : List S58) : ∀ j : Nat, 0 ≤ sumK p j ∧ sumK p j ≤ (j : Int) * p.length
  | 0 => by simp [sumK]
  | j + 1 => by
    have h1 := sumK_range p j
    have h2 := countK_range (j : Int) p
    have h3 : ((j + 1 : Nat) : Int) * p.length = (j : Int) * p.length + p.length := by rw [Int.natCast_add, Int.add_mul]; omega
    show 0 ≤ sumK p j + countK (j : Int) p ∧ sumK p j + countK (j : Int) p ≤ _
    rw [h3]
    omega
theorem tabNames_count : ∀ p : List S58, ((tabNames p).length : Int) = countK 0 p
  | [] => rfl
  | x :: l => by
    have := tabNames_count l
    rw [tabNames_cons, countK]
    split
    · rw [List.length_cons]; omega
    · omega
theorem tables_le (p : List S58) (h : planOk p = true) : ((tablesOf p).length : Int) ≤ countK 0 p := by
  unfold tablesOf
  rw [if_pos h, ← tabNames_count]
  have h1 := compactB_len (sortB (tabNames p))
  have h2 := sortB_length (tabNames p)
  omega

end Go.Proofs.Ytbdfidnldaghbaa.Ep
