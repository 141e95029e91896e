/- Of every list of nodes: the program's PlanSum gives what the reference's PlanSum gives, and its argument stays as it was. -/
import Derived.Test.YtgmhohafoclmpaaQx11
import Derived.Test.YtgmhohafoclmpaaShapes
import Derived.Test.YtgmhohafoclmpaaLib
set_option linter.unusedVariables false
set_option linter.unusedSimpArgs false
namespace Go.Proofs.Ytgmhohafoclmpaa.Pure
namespace EFnExactPlanSum
open Go.RowKit Go.Proofs.YtgmhohafoclmpaaW.PrintWords Go.Proofs.YtgmhohafoclmpaaW.PrintLast Go.Proofs.YtgmhohafoclmpaaW.PrintMore Go.Proofs.Ytgmhohafoclmpaa.Lib Go.Proofs.Ytgmhohafoclmpaa.Q

theorem ev_impl_CheckOf_l0 (b : List Int) (hb : Bytes b) (hl : b.length ≤ 1099511627776) : ∀ (d i : Nat), i + d = b.length → Ev (fun k => impl_CheckOf.l0 k (checkTo b i) b (b.length : Int) i) (checkOf b) := by
  intro d
  induction d with
  | zero =>
    intro i h
    obtain rfl : i = b.length := by omega
    apply Ev.step
    · intro k; rw [impl_CheckOf.l0]
    simp only [if_neg (show ¬ ((b.length : Int) < b.length) by omega)]
    exact Ev.now _
  | succ d ih =>
    intro i h
    have ih' := ih (i + 1) (by omega)
    have hc := checkTo_range b i
    have hr := Bytes_rd hb i
    apply Ev.step
    · intro k; rw [impl_CheckOf.l0]
    simp only [if_pos (show (i : Int) < b.length by omega), if_pos (show (0 : Int) ≤ i by omega), w64 (x := (i : Int) + 1) (by omega), w64 (x := rd b i) (by omega), w64 (x := 269 * checkTo b i) (by omega), w64 (x := 269 * checkTo b i + rd b i) (by omega), tmod_nn (show 0 ≤ 269 * checkTo b i + rd b i by omega)]
    exact ih'
theorem ev_impl_CheckOf (b : List Int) (hb : Bytes b) (hl : b.length ≤ 1099511627776) : Ev (fun k => impl_CheckOf.f k b) (checkOf b) :=
  ev_impl_CheckOf_l0 b hb hl b.length 0 (by omega)

theorem impl_in_eq (a b c : Int) : impl_in.f a b c = some (decide (b ≤ a ∧ a ≤ c)) := by
  unfold impl_in.f
  by_cases h : b ≤ a
  · rw [if_pos h]; simp [h]
  · rw [if_neg (show ¬ a ≥ b from h)]; simp [h]

theorem impl_isNum_eq (a : Int) : impl_isNum.f a = some (isNumB a) := by
  unfold impl_isNum.f; rw [impl_in_eq]; rfl

theorem ev_impl_PutNum_l0 (n : Int) (h : 0 ≤ n ∧ n < 2097152) : Ev (fun k => impl_PutNum.l0 k n []) (groups n) := by
  unfold groups
  by_cases h1 : n < 128
  · apply Ev.step
    · intro k; rw [impl_PutNum.l0]
    simp only [if_neg (show ¬ n ≥ 128 by omega), if_pos h1, List.length_nil, List.nil_append]
    exact Ev.const (by simp; omega)
  · apply Ev.step
    · intro k; rw [impl_PutNum.l0]
    simp only [if_pos (show n ≥ 128 by omega), if_neg h1, List.length_nil, List.nil_append, tmod_nn h.1, tdiv_nn h.1, w64 (x := n % 128 + 128) (by omega), w64 (x := n / 128) (by omega), show (n % 128 + 128) % 256 = n % 128 + 128 by omega]
    simp only [show (0 : Nat) < 140737488355328 by omega, if_true]
    by_cases h2 : n < 16384
    · apply Ev.step
      · intro k; rw [impl_PutNum.l0]
      simp only [if_neg (show ¬ n / 128 ≥ 128 by omega), if_pos h2, List.length_cons, List.length_nil]
      exact Ev.const (by simp; omega)
    · apply Ev.step
      · intro k; rw [impl_PutNum.l0]
      simp only [if_pos (show n / 128 ≥ 128 by omega), if_neg h2, List.length_cons, List.length_nil, tmod_nn (show 0 ≤ n / 128 by omega), tdiv_nn (show 0 ≤ n / 128 by omega), w64 (x := n / 128 % 128 + 128) (by omega), w64 (x := n / 128 / 128) (by omega), show (n / 128 % 128 + 128) % 256 = n / 128 % 128 + 128 by omega]
      simp only [show (0 + 1 : Nat) < 140737488355328 by omega, if_true, List.cons_append, List.nil_append]
      apply Ev.step
      · intro k; rw [impl_PutNum.l0]
      simp only [if_neg (show ¬ n / 128 / 128 ≥ 128 by omega), List.length_cons, List.length_nil]
      exact Ev.const (by simp; omega)
theorem ev_impl_PutNum (x : Int) : Ev (fun k => impl_PutNum.f k x) (putNum x) := by
  unfold putNum
  simp only [impl_PutNum.f, impl_isNum_eq, Option.bind_some]
  by_cases h : isNumB x = true
  · have hz := zig_range h
    have hb : -1000000 ≤ x ∧ x ≤ 1000000 := by simpa [isNumB] using h
    simp only [h, if_true]
    unfold zig at hz ⊢
    by_cases h0 : x < 0
    · simp only [h0, if_true] at hz ⊢
      apply Ev.step
      · intro k; rw [impl_PutNum.j0]
      simp only [w64 (x := -2 * x) (by omega), w64 (x := -2 * x - 1) (by omega)]
      exact ev_impl_PutNum_l0 _ (by omega)
    · simp only [h0, if_false] at hz ⊢
      apply Ev.step
      · intro k; rw [impl_PutNum.j0]
      simp only [w64 (x := 2 * x) (by omega)]
      exact ev_impl_PutNum_l0 _ (by omega)
  · simp only [h]
    exact Ev.now _

theorem concat_eq (k : Nat) (l : List (List Int)) (h : slices_Concat_byte_byte.sum l ≤ 35184372088832) : slices_Concat_byte_byte.f k l = some l.flatten := by
  unfold slices_Concat_byte_byte.f
  rw [if_pos h]

def frameB (b : List Int) : List Int := [80, 83] ++ (putNum b.length ++ (b ++ putNum (checkOf b)))
def frame (b : List Int) : List Int × Bool := if b.length ≤ 4000 then (frameB b, true) else ([], false)
theorem Bytes_app {a b : List Int} (ha : Bytes a) (hb : Bytes b) : Bytes (a ++ b) := fun x hx => (List.mem_append.1 hx).elim (ha x) (hb x)
theorem Bytes_put (x : Int) : Bytes (putNum x) := putNum_range x
theorem Bytes_nil : Bytes [] := fun x hx => by cases hx
theorem frameB_length (b : List Int) : (frameB b).length ≤ b.length + 8 := by
  have := putNum_length (b.length : Int)
  have := putNum_length (checkOf b)
  simp [frameB]; omega
theorem frame_length (b : List Int) : (frame b).1.length ≤ b.length + 8 := by
  unfold frame
  split
  · exact frameB_length b
  · simp
theorem checkOf_num (b : List Int) : isNumB (checkOf b) = true := by
  have := checkTo_range b b.length
  show decide _ = true
  rw [decide_eq_true_eq]
  unfold checkOf
  omega

theorem ev_impl_Frame (b : List Int) (hb : Bytes b) (hl : b.length ≤ 1048576) : Ev (fun k => impl_Frame.f k b) (frame b) := by
  simp only [impl_Frame.f, frame]
  have p1 := putNum_length (b.length : Int)
  have p2 := putNum_length (checkOf b)
  by_cases h : b.length ≤ 4000
  · simp only [if_neg (show ¬ (b.length : Int) > 4000 by omega), if_pos h]
    refine Ev.bind (ev_impl_PutNum _) ?_
    refine Ev.bind (ev_impl_CheckOf b hb (by omega)) ?_
    refine Ev.bind (ev_impl_PutNum _) ?_
    simp only [concat_eq _ [([80, 83] : List Int), putNum b.length, b, putNum (checkOf b)] (by simp [slices_Concat_byte_byte.sum]; omega), Option.bind_some]
    exact Ev.const (by simp [frameB])
  · simp only [if_pos (show (b.length : Int) > 4000 by omega), if_neg h]
    exact Ev.now _

theorem ev_impl_ArityOf (a : Int) : Ev (fun k => impl_ArityOf.f k a) (arity a) := by
  simp only [impl_ArityOf.f]
  by_cases h0 : a = 0
  · subst h0; simp only [if_true]; exact Ev.now _
  by_cases h3 : a = 3
  · subst h3
    simp only [if_neg (show ¬ (3 : Int) = 0 by omega), if_true]
    apply Ev.step
    · intro k; rw [impl_ArityOf.j0]
    exact Ev.const (by simp [arity])
  simp only [if_neg h0, if_neg h3]
  apply Ev.step
  · intro k; rw [impl_ArityOf.j0]
  refine Ev.const ?_
  unfold arity
  by_cases h4 : a = 4
  · subst h4; simp
  · simp only [beq_iff_eq, if_neg h0, if_neg h3, if_neg h4]
    repeat' split
    all_goals first | rfl | omega

def kAt (p : List S62) (k : Nat) : Int := (rd_T62 p (k : Int)).f0
/-- The place behind the node at k and all below it, and how deep that is; none if it is not whole within so many levels. -/
def endP (p : List S62) : Nat → Nat → Option (Nat × Nat)
  | 0, _ => none
  | room + 1, k =>
    if p.length ≤ k then none
    else if arity (kAt p k) = 2 then (endP p room (k + 1)).bind fun x => (endP p room x.1).bind fun y => some (y.1, max x.2 y.2 + 1)
    else if arity (kAt p k) = 1 then (endP p room (k + 1)).bind fun x => some (x.1, x.2 + 1)
    else some (k + 1, 1)
def endI : Option (Nat × Nat) → Int
  | none => -1
  | some x => x.1
theorem arity_cases (k : Int) : arity k = -1 ∨ arity k = 0 ∨ arity k = 1 ∨ arity k = 2 := by
  unfold arity; repeat' split
  all_goals simp
theorem endP_range (p : List S62) : ∀ (room k : Nat) (x : Nat × Nat), endP p room k = some x → k < x.1 ∧ x.1 ≤ p.length ∧ 1 ≤ x.2 ∧ x.2 ≤ room := by
  intro room
  induction room with
  | zero => intro k x h; simp [endP] at h
  | succ room ih =>
    intro k x h
    unfold endP at h
    by_cases h0 : p.length ≤ k
    · rw [if_pos h0] at h; cases h
    rw [if_neg h0] at h
    by_cases h2 : arity (kAt p k) = 2
    · rw [if_pos h2] at h
      obtain ⟨y, hy, h⟩ := Option.bind_eq_some_iff.1 h
      obtain ⟨z, hz, h⟩ := Option.bind_eq_some_iff.1 h
      injection h with h
      have a := ih _ _ hy
      have b := ih _ _ hz
      subst h
      refine ⟨?_, ?_, ?_, ?_⟩ <;> simp <;> omega
    rw [if_neg h2] at h
    by_cases h1 : arity (kAt p k) = 1
    · rw [if_pos h1] at h
      obtain ⟨y, hy, h⟩ := Option.bind_eq_some_iff.1 h
      injection h with h
      have a := ih _ _ hy
      subst h
      refine ⟨?_, ?_, ?_, ?_⟩ <;> simp <;> omega
    rw [if_neg h1] at h
    injection h with h
    subst h
    refine ⟨?_, ?_, ?_, ?_⟩ <;> simp <;> omega
theorem endP_mono (p : List S62) : ∀ (room k : Nat) (x : Nat × Nat) (r : Nat), endP p room k = some x → room ≤ r → endP p r k = some x := by
  intro room
  induction room with
  | zero => intro k x r h; simp [endP] at h
  | succ room ih =>
    intro k x r h hr
    obtain ⟨r, rfl⟩ : ∃ q, r = q + 1 := ⟨r - 1, by omega⟩
    unfold endP at h ⊢
    by_cases h0 : p.length ≤ k
    · rw [if_pos h0] at h; cases h
    rw [if_neg h0] at h ⊢
    by_cases h2 : arity (kAt p k) = 2
    · rw [if_pos h2] at h ⊢
      obtain ⟨y, hy, h⟩ := Option.bind_eq_some_iff.1 h
      obtain ⟨z, hz, h⟩ := Option.bind_eq_some_iff.1 h
      rw [ih _ _ r hy (by omega), Option.bind_some, ih _ _ r hz (by omega), Option.bind_some]; exact h
    rw [if_neg h2] at h ⊢
    by_cases h1 : arity (kAt p k) = 1
    · rw [if_pos h1] at h ⊢
      obtain ⟨y, hy, h⟩ := Option.bind_eq_some_iff.1 h
      rw [ih _ _ r hy (by omega), Option.bind_some]; exact h
    rw [if_neg h1] at h ⊢
    exact h
theorem endI_lo (o : Option (Nat × Nat)) : -1 ≤ endI o := by
  cases o with
  | none => simp [endI]
  | some x => simp [endI] <;> omega
theorem endI_neg {o : Option (Nat × Nat)} : endI o < 0 ↔ o = none := by
  cases o with
  | none => simp [endI]
  | some x => simp [endI]
theorem w01 : wrap64 (0 + 1) = 1 := by rw [w64 (by omega)]; rfl
theorem w12 : wrap64 (1 + 1) = 2 := by rw [w64 (by omega)]; rfl

theorem ev_impl_end (p : List S62) (hl : p.length ≤ 1048576) : ∀ (room k : Nat), room ≤ 10 → k ≤ 1099511627776 → Ev (fun n => impl_end.f n p k (11 - room : Int)) (endI (endP p room k)) := by
  intro room
  induction room with
  | zero =>
    intro k _ hk
    apply Ev.step
    · intro k; rw [impl_end.f]
    refine Ev_ite (fun _ => ?_) (fun _ => ?_)
    · apply Ev.step
      · intro k; rw [impl_end.j0]
      exact Ev.now _
    · apply Ev.step
      · intro k; rw [impl_end.j0]
      exact Ev.now _
  | succ room ih =>
    intro k hr hk
    apply Ev.step
    · intro k; rw [impl_end.f]
    refine Ev_ite (fun h0 => ?_) (fun h0 => ?_)
    · rw [endP, if_pos (by omega)]
      apply Ev.step
      · intro k; rw [impl_end.j0]
      exact Ev.now _
    rw [endP, if_neg (by omega)]
    simp only [decide_eq_false (show ¬ (11 - ((room + 1 : Nat) : Int)) > 10 by omega)]
    apply Ev.step
    · intro k; rw [impl_end.j0]
    simp only [if_neg Bool.false_ne_true, if_pos (show (0 : Int) ≤ k by omega), if_pos (show (k : Int) < p.length by omega)]
    refine Ev.bind (ev_impl_ArityOf _) ?_
    have e1 : (11 : Int) - ((room + 1 : Nat) : Int) + 1 = 11 - (room : Int) := by omega
    have e2 : ((k : Int) + 1) = ((k + 1 : Nat) : Int) := by omega
    have hka : arity (rd_T62 p (k : Int)).f0 = arity (kAt p k) := rfl
    rw [hka]
    have i1 := ih (k + 1) (by omega) (by omega)
    simp only [w64 (x := (k : Int) + 1) (by omega), e2, w64 (x := ((k + 1 : Nat) : Int)) (by omega)]
    rcases arity_cases (kAt p k) with h | h | h | h
    · rw [h, if_neg (by omega), if_neg (by omega)]
      apply Ev.step
      · intro k; rw [impl_end.l0]
      simp only [if_neg (show ¬ (0 : Int) < -1 by omega)]
      exact Ev.now _
    · rw [h, if_neg (by omega), if_neg (by omega)]
      apply Ev.step
      · intro k; rw [impl_end.l0]
      simp only [if_neg (show ¬ (0 : Int) < 0 by omega)]
      exact Ev.now _
    · rw [h, if_neg (by omega), if_pos rfl]
      apply Ev.step
      · intro k; rw [impl_end.l0]
      simp only [if_pos (show (0 : Int) < 1 by omega), w64 (x := (11 : Int) - ((room + 1 : Nat) : Int) + 1) (by omega), e1, w64 (x := (11 : Int) - (room : Int)) (by omega)]
      refine Ev.bind i1 ?_
      cases hx : endP p room (k + 1) with
      | none => exact Ev.now _
      | some x =>
        simp only [if_neg (show ¬ endI (some x) < 0 by simp [endI]), Option.bind_some]
        apply Ev.step
        · intro k; rw [impl_end.l0]
        simp only [w01, if_neg (show ¬ (1 : Int) < 1 by omega)]
        exact Ev.now _
    · rw [h, if_pos rfl]
      apply Ev.step
      · intro k; rw [impl_end.l0]
      simp only [if_pos (show (0 : Int) < 2 by omega), w64 (x := (11 : Int) - ((room + 1 : Nat) : Int) + 1) (by omega), e1, w64 (x := (11 : Int) - (room : Int)) (by omega)]
      refine Ev.bind i1 ?_
      cases hx : endP p room (k + 1) with
      | none => exact Ev.now _
      | some x =>
        have hxr := endP_range p _ _ _ hx
        simp only [if_neg (show ¬ endI (some x) < 0 by simp [endI]), Option.bind_some]
        apply Ev.step
        · intro k; rw [impl_end.l0]
        simp only [w01, w12, if_pos (show (1 : Int) < 2 by omega), w64 (x := (11 : Int) - ((room + 1 : Nat) : Int) + 1) (by omega), e1, w64 (x := (11 : Int) - (room : Int)) (by omega)]
        rw [show endI (some x) = ((x.1 : Nat) : Int) from rfl]
        refine Ev.bind (ih x.1 (by omega) (by omega)) ?_
        cases hy : endP p room x.1 with
        | none => exact Ev.now _
        | some y =>
          simp only [if_neg (show ¬ endI (some y) < 0 by simp [endI]), Option.bind_some]
          apply Ev.step
          · intro k; rw [impl_end.l0]
          simp only [if_neg (show ¬ (2 : Int) < 2 by omega)]
          exact Ev.now _

theorem ev_impl_WordOk_l0 (s : ByteArray) (hs : s.size ≤ 1099511627776) : ∀ (d i : Nat), i + d = s.size → Ev (fun k => impl_WordOk.l0 k s (s.size : Int) i) (wordFrom s d i && decide (1 ≤ s.size ∧ s.size ≤ 12)) := by
  intro d
  induction d with
  | zero =>
    intro i h
    apply Ev.step
    · intro k; rw [impl_WordOk.l0]
    simp only [if_neg (show ¬ ((i : Int) < s.size) by omega), impl_in_eq, Option.bind_some, wordFrom, Bool.true_and]
    refine Ev.const (congrArg some ?_)
    exact decide_eq_decide.mpr (by omega)
  | succ d ih =>
    intro i h
    have ih' := ih (i + 1) (by omega)
    apply Ev.step
    · intro k; rw [impl_WordOk.l0]
    simp only [if_pos (show (i : Int) < s.size by omega), if_pos (show (0 : Int) ≤ i by omega), w64 (x := (i : Int) + 1) (by omega), wordFrom]
    by_cases h1 : bt s i ≥ 97
    · simp only [if_pos h1]
      by_cases h2 : bt s i ≤ 122
      · simp only [if_pos h2, show okAt s i = true by simp [okAt]; omega, Bool.true_and]; exact ih'
      · simp only [if_neg h2]
        by_cases h0 : (i : Int) = 0
        · simp only [if_pos h0, show okAt s i = false by simp [okAt]; omega, Bool.false_and]; exact Ev.now _
        · simp only [if_neg h0, if_neg (show ¬ bt s i < 48 by omega), if_pos (show bt s i > 57 by omega), show okAt s i = false by simp [okAt]; omega, Bool.false_and]; exact Ev.now _
    · simp only [if_neg h1]
      by_cases h0 : (i : Int) = 0
      · simp only [if_pos h0, show okAt s i = false by simp [okAt]; omega, Bool.false_and]; exact Ev.now _
      · simp only [if_neg h0]
        by_cases h2 : bt s i < 48
        · simp only [if_pos h2, show okAt s i = false by simp [okAt]; omega, Bool.false_and]; exact Ev.now _
        · by_cases h3 : bt s i > 57
          · simp only [if_neg h2, if_pos h3, show okAt s i = false by simp [okAt]; omega, Bool.false_and]; exact Ev.now _
          · simp only [if_neg h2, if_neg h3, show okAt s i = true by simp [okAt]; omega, Bool.true_and]; exact ih'
theorem ev_impl_WordOk (s : ByteArray) (hs : s.size ≤ 1099511627776) : Ev (fun k => impl_WordOk.f k s) (wordOk s) := by
  have := ev_impl_WordOk_l0 s hs s.size 0 (by omega)
  rw [Bool.and_comm] at this
  exact this

theorem impl_isCol_eq (a : Int) : impl_isCol.f a = some (colB a) := by
  unfold impl_isCol.f; rw [impl_in_eq]; rfl

theorem impl_isSlot_eq (a : Int) : impl_isSlot.f a = some (slotB a) := by
  unfold impl_isSlot.f; rw [impl_in_eq]; rfl

theorem ev_slices_Equal_int_int_l0 (a b : List Int) (hl : a.length = b.length) (ha : a.length ≤ 1099511627776) : ∀ (d i : Nat), i + d = a.length → Ev (fun k => slices_Equal_int_int.l0 k a b (a.length : Int) i) (decide (a.drop i = b.drop i)) := by
  intro d
  induction d with
  | zero =>
    intro i h
    apply Ev.step
    · intro k; rw [slices_Equal_int_int.l0]
    simp only [if_neg (show ¬ ((i : Int) < a.length) by omega), drop_nil' (show a.length ≤ i by omega), drop_nil' (show b.length ≤ i by omega)]
    exact Ev.const (by simp)
  | succ d ih =>
    intro i h
    have ih' := ih (i + 1) (by omega)
    apply Ev.step
    · intro k; rw [slices_Equal_int_int.l0]
    simp only [if_pos (show (i : Int) < a.length by omega), if_pos (show (i : Int) < b.length by omega), if_pos (show (0 : Int) ≤ i by omega), w64 (x := (i : Int) + 1) (by omega), eq_drop (show i < a.length by omega) (show i < b.length by omega)]
    by_cases he : rd a i = rd b i
    · simp only [if_pos he]
      simpa [he] using ih'
    · simp only [if_neg he]
      exact Ev.const (by simp [he])
theorem ev_slices_Equal_int_int (a b : List Int) (ha : a.length ≤ 1099511627776) : Ev (fun k => slices_Equal_int_int.f k a b) (decide (a = b)) := by
  simp only [slices_Equal_int_int.f]
  by_cases hl : a.length = b.length
  · simp only [if_pos (show (a.length : Int) = b.length by omega)]
    simpa using ev_slices_Equal_int_int_l0 a b hl ha a.length 0 (by omega)
  · simp only [if_neg (show ¬ (a.length : Int) = b.length by omega)]
    exact Ev.const (congrArg some (decide_eq_false (fun h => hl (by rw [h]))).symm)

theorem ev_impl_sameNode (a0 : Int) (a1 : ByteArray) (a2 a3 a4 : Int) (a5 : Bool) (a6 : List Int) (b0 : Int) (b1 : ByteArray) (b2 b3 b4 : Int) (b5 : Bool) (b6 : List Int) (h : a6.length ≤ 1099511627776) :
    Ev (fun k => impl_sameNode.f k a0 a1 a2 a3 a4 a5 a6 b0 b1 b2 b3 b4 b5 b6) (decide (a0 = b0 ∧ a1.toList = b1.toList ∧ a2 = b2 ∧ a3 = b3 ∧ a4 = b4 ∧ a5 = b5 ∧ a6 = b6)) := by
  simp only [impl_sameNode.f]
  refine Ev_ite (fun h0 => ?_) (fun h0 => Ev.const (by simp [h0]))
  refine Ev_ite (fun h1 => ?_) (fun h1 => Ev.const (by simp [h1]))
  refine Ev_ite (fun h2 => ?_) (fun h2 => Ev.const (by simp [h2]))
  refine Ev_ite (fun h3 => ?_) (fun h3 => Ev.const (by simp [h3]))
  refine Ev_ite (fun h4 => ?_) (fun h4 => Ev.const (by simp [h4]))
  refine Ev_ite (fun h5 => ?_) (fun h5 => Ev.const (by have : ¬ a5 = b5 := by simpa using h5
                                                       simp [this]))
  have h5' : a5 = b5 := by simpa using h5
  refine Ev.bind (ev_slices_Equal_int_int a6 b6 h) ?_
  exact Ev.const (by simp [h0, h1, h2, h3, h4, h5'])

theorem impl_NodeOk_1_eq (a : Int) : impl_NodeOk_1.f a = some ((fun a => !colB a) a) := by
  unfold impl_NodeOk_1.f; rw [impl_isCol_eq]; rfl

theorem ev_IndexFunc_l0 (l : List Int) (hl : l.length ≤ 1099511627776) : ∀ (d i : Nat), i + d = l.length → ∃ r, Ev (fun k => slices_IndexFunc_int_int.l0 k l (l.length : Int) i) r ∧ decide (r ≥ 0) = (l.drop i).any (fun a => !colB a) := by
  intro d
  induction d with
  | zero =>
    intro i h
    refine ⟨-1, ?_, by rw [drop_nil' (show l.length ≤ i by omega)]; rfl⟩
    apply Ev.step
    · intro k; rw [slices_IndexFunc_int_int.l0]
    simp only [if_neg (show ¬ ((i : Int) < l.length) by omega)]
    exact Ev.now _
  | succ d ih =>
    intro i h
    obtain ⟨r, e, g⟩ := ih (i + 1) (by omega)
    by_cases hp : (fun a => !colB a) (rd l i) = true
    · have hp' := hp
      simp only [] at hp'
      refine ⟨i, ?_, ?_⟩
      · apply Ev.step
        · intro k; rw [slices_IndexFunc_int_int.l0]
        simp only [if_pos (show (i : Int) < l.length by omega), if_pos (show (0 : Int) ≤ i by omega), impl_NodeOk_1_eq, Option.bind_some]
        simp only [hp', if_true]
        exact Ev.now _
      · rw [drop_rd l i (by omega), List.any_cons]; simp only [hp', Bool.true_or]; simp
    · have hp' := Bool.eq_false_iff.mpr hp
      simp only [] at hp'
      refine ⟨r, ?_, ?_⟩
      · apply Ev.step
        · intro k; rw [slices_IndexFunc_int_int.l0]
        simp only [if_pos (show (i : Int) < l.length by omega), if_pos (show (0 : Int) ≤ i by omega), impl_NodeOk_1_eq, Option.bind_some, w64 (x := (i : Int) + 1) (by omega)]
        simp only [hp', if_neg Bool.false_ne_true]
        simpa using e
      · rw [drop_rd l i (by omega), List.any_cons]; simp only [hp', Bool.false_or]; exact g

theorem ev_ContainsFunc (l : List Int) (hl : l.length ≤ 1099511627776) : Ev (fun k => slices_ContainsFunc_int_int.f k l) (l.any (fun a => !colB a)) := by
  obtain ⟨r, e, g⟩ := ev_IndexFunc_l0 l hl l.length 0 (by omega)
  simp only [slices_ContainsFunc_int_int.f, slices_IndexFunc_int_int.f]
  refine Ev.bind (by simpa using e) ?_
  refine Ev.const (congrArg some ?_)
  rw [g, List.drop_zero]

theorem all_colB (l : List Int) : (l.any (fun a => !colB a)) = !l.all colB := by
  induction l with
  | nil => rfl
  | cons a l ih => simp [ih]
theorem empty_list : (⟨#[]⟩ : ByteArray).toList = [] := by rw [Lib.toList_data]
theorem ev_impl_NodeOk (kind : Int) (name : ByteArray) (col op num : Int) (slot : Bool) (cols : List Int) (hl : cols.length ≤ 1099511627776) (hn : name.size ≤ 1099511627776) : Ev (fun k => impl_NodeOk.f k kind name col op num slot cols) (nodeOk kind name col op num slot cols) := by
  have same := fun (a0 : Int) (a1 : ByteArray) (a2 a3 a4 : Int) (a5 : Bool) (a6 : List Int) (h : a6.length ≤ 1099511627776) => ev_impl_sameNode a0 a1 a2 a3 a4 a5 a6 0 (⟨#[]⟩ : ByteArray) 0 0 0 false [] h
  have hnil : ([] : List Int).length ≤ 1099511627776 := by simp
  simp only [impl_NodeOk.f, impl_isCol_eq, impl_in_eq, impl_isSlot_eq, Option.bind_some]
  refine Ev_ite (fun h0 => ?_) (fun h0 => ?_)
  · refine Ev.bind (ev_impl_WordOk name hn) ?_
    refine Ev_ite (fun h1 => ?_) (fun h1 => Ev.const (by simp [nodeOk, nodeKind, h0, Bool.eq_false_iff.mpr h1]))
    refine Ev.bind (same _ _ _ _ _ _ _ hl) ?_
    refine Ev.const (congrArg some ?_)
    cases slot <;> simp [nodeOk, nodePre, nodeKind, h0, h1, empty_list] <;> by_cases e1 : cols = [] <;> by_cases e2 : op = 0 <;> by_cases e3 : col = 0 <;> simp [*]
  refine Ev_ite (fun h1 => ?_) (fun h1 => ?_)
  · have tail : ∀ b, b = (colB col && decide (0 ≤ op ∧ op ≤ 3)) → Ev (fun k => impl_NodeOk.j0 k b kind name col op num slot cols 0 name col op num slot cols) (nodeOk kind name col op num slot cols) := by
      intro b hb
      have hk : nodeKind kind name col op num slot cols = (b && isNumB num && decide (op = 3 → num = 0 ∧ slot = false)) := by
        rw [hb]; simp [nodeKind, h1]
      unfold nodeOk
      rw [hk]
      apply Ev.step
      · intro k; rw [impl_NodeOk.j0]
      simp only [impl_isSlot_eq, impl_isNum_eq, Option.bind_some]
      cases b with
      | false =>
        simp only [Bool.false_and, Bool.and_false]
        refine Ev_ite (fun _ => Ev.const (by simp)) (fun _ => Ev_ite (fun _ => Ev.const (by simp)) (fun _ => Ev.const (by simp)))
      | true =>
        simp only [Bool.true_and, if_true]
        refine Ev_ite (fun h3 => ?_) (fun h3 => ?_)
        · refine Ev_ite (fun h4 => Ev_ite (fun h5 => ?_) (fun h5 => ?_)) (fun h4 => ?_)
          · exact Ev.const (by simp [h3, h5])
          · refine Ev.bind (same _ _ _ _ _ _ _ hl) ?_
            refine Ev.const (congrArg some ?_)
            have h5' : slot = false := by simpa using h5
            subst h4 h5'
            simp [nodePre, h1, h3, empty_list, isNumB]
          · exact Ev.const (by simp [h3, h4])
        · refine Ev_ite (fun h4 => ?_) (fun h4 => ?_)
          · refine Ev_ite (fun h5 => ?_) (fun h5 => Ev.const (by simp [nodePre, h4, Bool.eq_false_iff.mpr h5]))
            refine Ev.bind (same _ _ _ _ _ _ _ hl) ?_
            refine Ev.const (congrArg some ?_)
            have h6 : isNumB num = true := by simp [slotB] at h5; simp [isNumB]; omega
            simp [nodePre, h1, h3, h4, h5, h6, empty_list]
          · refine Ev_ite (fun h5 => ?_) (fun h5 => Ev.const (by simp [Bool.eq_false_iff.mpr h5]))
            refine Ev.bind (same _ _ _ _ _ _ _ hl) ?_
            refine Ev.const (congrArg some ?_)
            have h4' : slot = false := by simpa using h4
            simp [nodePre, h1, h3, h4', h5, empty_list]
    refine Ev_ite (fun h2 => tail _ (by rw [h2, Bool.true_and])) (fun h2 => tail _ (by rw [Bool.eq_false_iff.mpr h2, Bool.false_and]))
  refine Ev_ite (fun h2 => ?_) (fun h2 => ?_)
  · refine Ev_ite (fun h3 => ?_) (fun h3 => Ev.const (by
      have : ¬ (1 ≤ cols.length ∧ cols.length ≤ 6) := by simp only [decide_eq_true_eq] at h3; omega
      simp [nodeOk, nodeKind, h2]
      intro _ _ h4 h5; exact absurd ⟨h4, h5⟩ this))
    refine Ev.bind (ev_ContainsFunc cols hl) ?_
    rw [all_colB]
    have h3' : 1 ≤ cols.length ∧ cols.length ≤ 6 := by simp only [decide_eq_true_eq] at h3; omega
    refine Ev_ite (fun h4 => Ev.const (by
      have : cols.all colB = false := by simpa using h4
      simp [nodeOk, nodeKind, h2, this])) (fun h4 => ?_)
    have h5 : cols.all colB = true := by simpa using h4
    refine Ev.bind (same _ _ _ _ _ _ _ hnil) ?_
    refine Ev.const (congrArg some ?_)
    cases slot <;> simp only [nodeOk, nodePre, nodeKind, h2, h5, decide_eq_true h3', empty_list] <;> simp <;> by_cases e1 : name.toList = [] <;> by_cases e2 : op = 0 <;> by_cases e3 : col = 0 <;> simp [*]
  refine Ev_ite (fun h3 => ?_) (fun h3 => ?_)
  · refine Ev_ite (fun h4 => ?_) (fun h4 => Ev.const (by simp [nodeOk, nodeKind, h3, Bool.eq_false_iff.mpr h4]))
    refine Ev_ite (fun h5 => ?_) (fun h5 => Ev.const (by simp [nodeOk, nodeKind, h3, Bool.eq_false_iff.mpr h5]))
    refine Ev.bind (same _ _ _ _ _ _ _ hl) ?_
    refine Ev.const (congrArg some ?_)
    cases slot <;> simp [nodeOk, nodePre, nodeKind, h3, h4, h5, empty_list] <;> by_cases e1 : cols = [] <;> by_cases e2 : op = 0 <;> by_cases e3 : name.toList = [] <;> simp [*]
  refine Ev_ite (fun h4 => ?_) (fun h4 => ?_)
  · refine Ev_ite (fun h5 => ?_) (fun h5 => Ev.const (by simp [nodeOk, nodeKind, h4, Bool.eq_false_iff.mpr h5]))
    refine Ev.bind (same _ _ _ _ _ _ _ hl) ?_
    refine Ev.const (congrArg some ?_)
    cases slot <;> simp [nodeOk, nodePre, nodeKind, h4, h5, empty_list] <;> by_cases e1 : cols = [] <;> by_cases e2 : op = 0 <;> by_cases e3 : name.toList = [] <;> simp [*]
  refine Ev_ite (fun h5 => ?_) (fun h5 => ?_)
  · refine Ev_ite (fun h6 => ?_) (fun h6 => Ev.const (by
      have : ¬ (0 ≤ num ∧ num ≤ 1000000) := by simpa using h6
      simp [nodeOk, nodeKind, h5]
      intro _ _ h7; omega))
    have h6' : 0 ≤ num ∧ num ≤ 1000000 := by simpa using h6
    refine Ev_ite (fun h7 => Ev_ite (fun h8 => ?_) (fun h8 => Ev.const (by simp [nodeOk, nodePre, h7, Bool.eq_false_iff.mpr h8]))) (fun h7 => ?_)
    · refine Ev.bind (same _ _ _ _ _ _ _ hl) ?_
      refine Ev.const (congrArg some ?_)
      simp only [nodeOk, nodePre, nodeKind, h5, h7, h8, decide_eq_true h6', empty_list] <;> simp <;> by_cases e1 : cols = [] <;> by_cases e2 : op = 0 <;> by_cases e3 : name.toList = [] <;> simp [*]
    · refine Ev.bind (same _ _ _ _ _ _ _ hl) ?_
      refine Ev.const (congrArg some ?_)
      have h7' : slot = false := by simpa using h7
      simp only [nodeOk, nodePre, nodeKind, h5, h7', decide_eq_true h6', empty_list] <;> simp <;> by_cases e1 : cols = [] <;> by_cases e2 : op = 0 <;> by_cases e3 : name.toList = [] <;> simp [*]
  refine Ev_ite (fun h6 => ?_) (fun h6 => Ev_ite (fun h7 => ?_) (fun h7 => ?_))
  · refine Ev.bind (same _ _ _ _ _ _ _ hl) ?_
    refine Ev.const (congrArg some ?_)
    cases slot <;> simp [nodeOk, nodePre, nodeKind, h6, empty_list] <;> by_cases e1 : cols = [] <;> by_cases e2 : op = 0 <;> by_cases e3 : name.toList = [] <;> simp [*]
  · refine Ev.bind (same _ _ _ _ _ _ _ hl) ?_
    refine Ev.const (congrArg some ?_)
    cases slot <;> simp [nodeOk, nodePre, nodeKind, h7, empty_list] <;> by_cases e1 : cols = [] <;> by_cases e2 : op = 0 <;> by_cases e3 : name.toList = [] <;> simp [*]
  · exact Ev.const (by simp [nodeOk, nodeKind, h0, h1, h2, h3, h4, h5, h6, h7])

def nodeOkN (x : S62) : Bool := nodeOk x.f0 x.f1 x.f2 x.f3 x.f4 x.f5 x.f6
def planOk (p : List S62) : Bool := decide (1 ≤ p.length ∧ p.length ≤ 40) && p.all nodeOkN && decide (endI (endP p 10 0) = p.length)
theorem drop_rdT (p : List S62) (i : Nat) (h : i < p.length) : p.drop i = rd_T62 p i :: p.drop (i + 1) := by
  rw [drop_getD p z62 i h]; simp [rd_T62]
theorem rdT_memN {p : List S62} {i : Nat} (h : i < p.length) : rd_T62 p i ∈ p := by
  have := getD_mem (z := z62) h
  simpa [rd_T62] using this

theorem ev_impl_PlanOk_1 (x : S62) (h : x.f1.size ≤ 1048576 ∧ x.f6.length ≤ 1048576) : Ev (fun k => impl_PlanOk_1.f k x.f0 x.f1 x.f2 x.f3 x.f4 x.f5 x.f6) (!nodeOkN x) := by
  simp only [impl_PlanOk_1.f]
  refine Ev.bind (ev_impl_NodeOk _ _ _ _ _ _ _ (by omega) (by omega)) ?_
  exact Ev.now _

theorem ev_IndexNode (p : List S62) (hl : p.length ≤ 1099511627776) (hs : ∀ x ∈ p, x.f1.size ≤ 1048576 ∧ x.f6.length ≤ 1048576) : ∀ (d i : Nat), i + d = p.length → ∃ r, Ev (fun k => slices_IndexFunc_impl_Node_impl_Node.l0 k p (p.length : Int) i) r ∧ decide (r ≥ 0) = !(p.drop i).all nodeOkN := by
  intro d
  induction d with
  | zero =>
    intro i h
    refine ⟨-1, ?_, by rw [drop_nil' (show p.length ≤ i by omega)]; rfl⟩
    apply Ev.step
    · intro k; rw [slices_IndexFunc_impl_Node_impl_Node.l0]
    simp only [if_neg (show ¬ ((i : Int) < p.length) by omega)]
    exact Ev.now _
  | succ d ih =>
    intro i h
    obtain ⟨r, e, g⟩ := ih (i + 1) (by omega)
    have hm := hs _ (rdT_memN (show i < p.length by omega))
    by_cases hp : nodeOkN (rd_T62 p i) = true
    · refine ⟨r, ?_, ?_⟩
      · apply Ev.step
        · intro k; rw [slices_IndexFunc_impl_Node_impl_Node.l0]
        simp only [if_pos (show (i : Int) < p.length by omega), if_pos (show (0 : Int) ≤ i by omega), w64 (x := (i : Int) + 1) (by omega)]
        refine Ev.bind (ev_impl_PlanOk_1 _ hm) ?_
        rw [hp]; simp only [Bool.not_true, if_neg Bool.false_ne_true]
        simpa using e
      · rw [drop_rdT p i (by omega), List.all_cons, hp, Bool.true_and]; exact g
    · refine ⟨i, ?_, ?_⟩
      · apply Ev.step
        · intro k; rw [slices_IndexFunc_impl_Node_impl_Node.l0]
        simp only [if_pos (show (i : Int) < p.length by omega), if_pos (show (0 : Int) ≤ i by omega)]
        refine Ev.bind (ev_impl_PlanOk_1 _ hm) ?_
        rw [Bool.eq_false_iff.mpr hp]; simp only [Bool.not_false, if_true]
        exact Ev.now _
      · rw [drop_rdT p i (by omega), List.all_cons, Bool.eq_false_iff.mpr hp, Bool.false_and]; simp

theorem ev_ContainsNode (p : List S62) (hl : p.length ≤ 1099511627776) (hs : ∀ x ∈ p, x.f1.size ≤ 1048576 ∧ x.f6.length ≤ 1048576) : Ev (fun k => slices_ContainsFunc_impl_Node_impl_Node.f k p) (!p.all nodeOkN) := by
  obtain ⟨r, e, g⟩ := ev_IndexNode p hl hs p.length 0 (by omega)
  simp only [slices_ContainsFunc_impl_Node_impl_Node.f, slices_IndexFunc_impl_Node_impl_Node.f]
  refine Ev.bind (by simpa using e) ?_
  refine Ev.const (congrArg some ?_)
  rw [g, List.drop_zero]

theorem ev_impl_PlanOk (p : List S62) (hl : p.length ≤ 1048576) (hs : ∀ x ∈ p, x.f1.size ≤ 1048576 ∧ x.f6.length ≤ 1048576) : Ev (fun k => impl_PlanOk.f k p) (planOk p) := by
  simp only [impl_PlanOk.f, impl_in_eq, Option.bind_some]
  unfold planOk
  refine Ev_ite (fun h1 => ?_) (fun h1 => ?_)
  · have h1' : 1 ≤ p.length ∧ p.length ≤ 40 := by simp only [decide_eq_true_eq] at h1; omega
    rw [decide_eq_true h1', Bool.true_and]
    refine Ev.bind (ev_ContainsNode p (by omega) hs) ?_
    refine Ev_ite (fun h2 => ?_) (fun h2 => ?_)
    · have : p.all nodeOkN = false := by simpa using h2
      rw [this]; exact Ev.now _
    · have : p.all nodeOkN = true := by simpa using h2
      rw [this, Bool.true_and]
      have := ev_impl_end p hl 10 0 (by omega) (by omega)
      refine Ev.bind (by simpa using this) ?_
      exact Ev.const (congrArg some (by rw [Bool.eq_iff_iff]; simp))
  · have h1' : ¬ (1 ≤ p.length ∧ p.length ≤ 40) := by simp only [decide_eq_true_eq] at h1; omega
    rw [decide_eq_false h1']; exact Ev.now _

theorem ev_impl_PutNums_l0 (l : List Int) (hl : l.length ≤ 300) : ∀ (d : Nat) (acc : List Int) (i : Nat), i + d = l.length → acc.length ≤ 3 * (i + 1) → Ev (fun k => impl_PutNums.l0 k acc l (l.length : Int) i) (putsFrom (l.drop i) acc) := by
  intro d
  induction d with
  | zero =>
    intro acc i h _
    apply Ev.step
    · intro k; rw [impl_PutNums.l0]
    simp only [if_neg (show ¬ ((i : Int) < l.length) by omega), List.drop_eq_nil_of_le (show l.length ≤ i by omega)]
    exact Ev.now _
  | succ d ih =>
    intro acc i h ha
    have hn := putNum_length (rd l i)
    apply Ev.step
    · intro k; rw [impl_PutNums.l0]
    simp only [if_pos (show (i : Int) < l.length by omega), if_pos (show (0 : Int) ≤ i by omega), w64 (x := (i : Int) + 1) (by omega), impl_isNum_eq, Option.bind_some]
    rw [drop_rd l i (by omega), putsFrom]
    by_cases h1 : isNumB (rd l i) = true
    · simp only [if_pos h1]
      refine Ev.bind (ev_impl_PutNum _) ?_
      simp only [if_pos (show acc.length + (putNum (rd l i)).length < 140737488355328 by omega)]
      exact ih _ (i + 1) (by omega) (by rw [List.length_append]; omega)
    · simp only [if_neg h1]; exact Ev.now _
theorem ev_impl_PutNums (l : List Int) : Ev (fun k => impl_PutNums.f k l) (putNums l) := by
  simp only [impl_PutNums.f]
  unfold putNums
  by_cases h : 300 < l.length
  · simp only [if_pos (show (l.length : Int) > 300 by omega), if_pos h]; exact Ev.now _
  simp only [if_neg (show ¬ (l.length : Int) > 300 by omega), if_neg h]
  refine Ev.bind (ev_impl_PutNum _) ?_
  have hn := putNum_length l.length
  exact ev_impl_PutNums_l0 l (by omega) l.length _ 0 (by omega) (by omega)

def putWord (s : ByteArray) : List Int := if wordOk s = true then putNum s.size ++ bytesOf s else []
theorem wordOk_size' {s : ByteArray} (h : wordOk s = true) : 1 ≤ s.size ∧ s.size ≤ 12 := by
  unfold wordOk at h
  simp only [Bool.and_eq_true, decide_eq_true_eq] at h
  exact h.1
theorem putWord_length (s : ByteArray) : (putWord s).length ≤ 1048576 := by
  unfold putWord
  by_cases h : wordOk s = true
  · rw [if_pos h, List.length_append, bytesOf_length]
    have := wordOk_size' h
    have := putNum_length (s.size : Int)
    omega
  · rw [if_neg h]; simp

theorem ev_impl_PutWord (s : ByteArray) (hs : s.size ≤ 1099511627776) : Ev (fun k => impl_PutWord.f k s) (putWord s) := by
  simp only [impl_PutWord.f]
  refine Ev.bind (ev_impl_WordOk s hs) ?_
  unfold putWord
  refine Ev_ite (fun h => ?_) (fun h => ?_)
  · rw [if_pos h]
    refine Ev.bind (ev_impl_PutNum _) ?_
    have := putNum_length (s.size : Int)
    simp only [if_pos (show (putNum (s.size : Int)).length + s.size < 140737488355328 by omega)]
    exact Ev.now _
  · rw [if_neg h]; exact Ev.now _

def putsAll : List Int → List Int
  | [] => []
  | x :: r => putNum x ++ putsAll r
theorem putsAll_len : ∀ l : List Int, (putsAll l).length ≤ 3 * l.length
  | [] => by simp [putsAll]
  | x :: r => by
    have h1 := putsAll_len r
    have h2 := putNum_length x
    rw [putsAll, List.length_append, List.length_cons]
    omega
def flagI (b : Bool) : Int := if b = true then 1 else 0
/-- What stands behind a node's kind. -/
def nodeTail (kind : Int) (name : ByteArray) (col op num : Int) (slot : Bool) (cols : List Int) : List Int :=
  if kind = 0 then putWord name else if kind = 1 then putsAll [col, op, flagI slot, num] else if kind = 2 then putNums cols
  else if kind = 3 then putsAll [col, num] else if kind = 5 then putsAll [col] else if kind = 6 then putsAll [flagI slot, num] else []
def putNode (kind : Int) (name : ByteArray) (col op num : Int) (slot : Bool) (cols : List Int) : List Int :=
  if nodeOk kind name col op num slot cols = true then putNum kind ++ nodeTail kind name col op num slot cols else []
theorem nodeTail_len (kind : Int) (name : ByteArray) (col op num : Int) (slot : Bool) (cols : List Int) : (nodeTail kind name col op num slot cols).length ≤ 1048576 := by
  have h1 := putWord_length name
  have h2 := putNums_len cols
  have h3 := putsAll_len [col, op, flagI slot, num]
  have h4 := putsAll_len [col, num]
  have h5 := putsAll_len [col]
  have h6 := putsAll_len [flagI slot, num]
  simp only [List.length_cons, List.length_nil] at h3 h4 h5 h6
  unfold nodeTail
  repeat' split
  all_goals first | omega | simp
theorem putNode_len (kind : Int) (name : ByteArray) (col op num : Int) (slot : Bool) (cols : List Int) : (putNode kind name col op num slot cols).length ≤ 2097152 := by
  have h1 := nodeTail_len kind name col op num slot cols
  have h2 := putNum_length kind
  unfold putNode
  split
  · rw [List.length_append]; omega
  · simp

theorem impl_flag_eq (b : Bool) : impl_flag.f b = some (flagI b) := by cases b <;> rfl

theorem ev_impl_putAll_l0 (xs : List Int) (hl : xs.length ≤ 1048576) : ∀ (d : Nat) (out : List Int) (i : Nat), i + d = xs.length → out.length ≤ 1048576 + 3 * i → Ev (fun k => impl_putAll.l0 k out xs (xs.length : Int) i) (out ++ putsAll (xs.drop i)) := by
  intro d
  induction d with
  | zero =>
    intro out i h _
    apply Ev.step
    · intro k; rw [impl_putAll.l0]
    simp only [if_neg (show ¬ ((i : Int) < xs.length) by omega), List.drop_eq_nil_of_le (show xs.length ≤ i by omega), putsAll, List.append_nil]
    exact Ev.now _
  | succ d ih =>
    intro out i h ho
    have hn := putNum_length (rd xs i)
    have ih' := ih (out ++ putNum (rd xs i)) (i + 1) (by omega) (by rw [List.length_append]; omega)
    apply Ev.step
    · intro k; rw [impl_putAll.l0]
    simp only [if_pos (show (i : Int) < xs.length by omega), if_pos (show (0 : Int) ≤ i by omega), w64 (x := (i : Int) + 1) (by omega)]
    refine Ev.bind (ev_impl_PutNum _) ?_
    simp only [if_pos (show out.length + (putNum (rd xs i)).length < 140737488355328 by omega)]
    rw [drop_rd xs i (by omega), putsAll, ← List.append_assoc]
    simpa using ih'
theorem ev_impl_putAll (xs : List Int) (hl : xs.length ≤ 1048576) : Ev (fun k => impl_putAll.f k xs) (putsAll xs) := by
  have := ev_impl_putAll_l0 xs hl xs.length [] 0 (by omega) (by simp)
  simpa [impl_putAll.f] using this

theorem ev_impl_PutNode (kind : Int) (name : ByteArray) (col op num : Int) (slot : Bool) (cols : List Int) (hl : cols.length ≤ 1099511627776) (hn : name.size ≤ 1099511627776) : Ev (fun k => impl_PutNode.f k kind name col op num slot cols) (putNode kind name col op num slot cols) := by
  have hk := putNum_length kind
  simp only [impl_PutNode.f, impl_flag_eq, Option.bind_some]
  refine Ev.bind (ev_impl_NodeOk _ _ _ _ _ _ _ hl hn) ?_
  unfold putNode
  refine Ev_ite (fun h => ?_) (fun h => ?_)
  · rw [if_pos h]
    refine Ev.bind (ev_impl_PutNum _) ?_
    unfold nodeTail
    have all : ∀ xs : List Int, xs.length ≤ 4 → Ev (fun k => (impl_putAll.f k xs).bind fun t => if (putNum kind).length + t.length < 140737488355328 then some (putNum kind ++ t) else none) (putNum kind ++ putsAll xs) := by
      intro xs hx
      have := putsAll_len xs
      refine Ev.bind (ev_impl_putAll xs (by omega)) ?_
      simp only [if_pos (show (putNum kind).length + (putsAll xs).length < 140737488355328 by omega)]
      exact Ev.now _
    refine Ev_ite (fun h0 => ?_) (fun h0 => ?_)
    · rw [if_pos h0]
      have := putWord_length name
      refine Ev.bind (ev_impl_PutWord _ hn) ?_
      simp only [if_pos (show (putNum kind).length + (putWord name).length < 140737488355328 by omega)]
      exact Ev.now _
    rw [if_neg h0]
    refine Ev_ite (fun h1 => ?_) (fun h1 => ?_)
    · rw [if_pos h1]; exact all _ (by simp)
    rw [if_neg h1]
    refine Ev_ite (fun h2 => ?_) (fun h2 => ?_)
    · rw [if_pos h2]
      have := putNums_len cols
      refine Ev.bind (ev_impl_PutNums _) ?_
      simp only [if_pos (show (putNum kind).length + (putNums cols).length < 140737488355328 by omega)]
      exact Ev.now _
    rw [if_neg h2]
    refine Ev_ite (fun h3 => ?_) (fun h3 => ?_)
    · rw [if_pos h3]; exact all _ (by simp)
    rw [if_neg h3]
    refine Ev_ite (fun h5 => ?_) (fun h5 => ?_)
    · rw [if_pos h5]; exact all _ (by simp)
    rw [if_neg h5]
    refine Ev_ite (fun h6 => ?_) (fun h6 => ?_)
    · rw [if_pos h6]; exact all _ (by simp)
    rw [if_neg h6, List.append_nil]
    exact Ev.now _
  · rw [if_neg h]; exact Ev.now _

theorem putWord_len (s : ByteArray) : (putWord s).length ≤ 15 := by
  unfold putWord
  by_cases h : wordOk s = true
  · rw [if_pos h, List.length_append, bytesOf_length]
    have := wordOk_size' h
    have := putNum_length (s.size : Int)
    omega
  · rw [if_neg h]; simp
theorem Bytes_bytesOf (s : ByteArray) : Bytes (bytesOf s) := by
  intro x hx
  unfold bytesOf at hx
  obtain ⟨y, _, rfl⟩ := List.mem_map.1 hx
  have := y.toNat_lt
  omega
theorem Bytes_putWord (s : ByteArray) : Bytes (putWord s) := by
  unfold putWord
  split
  · exact Bytes_app (Bytes_put _) (Bytes_bytesOf s)
  · exact Bytes_nil

def putNodeN (x : S62) : List Int := putNode x.f0 x.f1 x.f2 x.f3 x.f4 x.f5 x.f6
def encNodes : List S62 → List Int
  | [] => []
  | x :: xs => putNodeN x ++ encNodes xs
def encPlan (p : List S62) : List Int × Bool := if planOk p = true then frame (putNum p.length ++ encNodes p) else ([], false)
theorem Bytes_putsFrom : ∀ (r acc : List Int), Bytes acc → Bytes (putsFrom r acc)
  | [], acc, h => by simpa [putsFrom] using h
  | x :: r, acc, h => by
    unfold putsFrom
    split
    · exact Bytes_putsFrom r _ (Bytes_app h (Bytes_put x))
    · exact Bytes_nil
theorem Bytes_putNums (l : List Int) : Bytes (putNums l) := by
  unfold putNums
  split
  · exact Bytes_nil
  · exact Bytes_putsFrom _ _ (Bytes_put _)
theorem Bytes_putsAll : ∀ l : List Int, Bytes (putsAll l)
  | [] => Bytes_nil
  | x :: r => Bytes_app (Bytes_put x) (Bytes_putsAll r)
theorem Bytes_putNodeN (x : S62) : Bytes (putNodeN x) := by
  unfold putNodeN putNode
  split
  · refine Bytes_app (Bytes_put _) ?_
    unfold nodeTail
    repeat' split
    all_goals first | exact Bytes_putWord _ | exact Bytes_putsAll _ | exact Bytes_putNums _ | exact Bytes_nil
  · exact Bytes_nil
theorem putNodeN_len (x : S62) : (putNodeN x).length ≤ 906 := by
  have h1 := putWord_len x.f1
  have h2 := putNums_len x.f6
  have h3 := putsAll_len [x.f2, x.f3, flagI x.f5, x.f4]
  have h4 := putsAll_len [x.f2, x.f4]
  have h5 := putsAll_len [x.f2]
  have h6 := putsAll_len [flagI x.f5, x.f4]
  have h7 := putNum_length x.f0
  simp only [List.length_cons, List.length_nil] at h3 h4 h5 h6
  have ht : (nodeTail x.f0 x.f1 x.f2 x.f3 x.f4 x.f5 x.f6).length ≤ 903 := by
    unfold nodeTail
    repeat' split
    all_goals first | omega | simp
  unfold putNodeN putNode
  split
  · rw [List.length_append]; omega
  · simp
theorem encNodes_len : ∀ p : List S62, (encNodes p).length ≤ 906 * p.length
  | [] => by simp [encNodes]
  | x :: xs => by
    have := encNodes_len xs
    have := putNodeN_len x
    simp only [encNodes, List.length_append, List.length_cons]
    omega
theorem planOk_len {p : List S62} (h : planOk p = true) : p.length ≤ 40 := by
  unfold planOk at h
  simp only [Bool.and_eq_true, decide_eq_true_eq] at h
  exact h.1.1.2
theorem encPlan_length (p : List S62) : (encPlan p).1.length ≤ 40000 := by
  unfold encPlan
  split
  · rename_i h
    have h1 := planOk_len h
    have h2 := encNodes_len p
    have h3 := putNum_length (p.length : Int)
    have h4 := frame_length (putNum p.length ++ encNodes p)
    rw [List.length_append] at h4
    omega
  · simp

theorem ev_impl_EncodePlan_l0 (p : List S62) (hl : p.length ≤ 40) (hs : ∀ x ∈ p, x.f1.size ≤ 1048576 ∧ x.f6.length ≤ 1048576) : ∀ (d i : Nat) (acc : List Int), i + d = p.length → acc.length ≤ 3 + 906 * i → Bytes acc → Ev (fun k => impl_EncodePlan.l0 k acc p p.length i) (frame (acc ++ encNodes (p.drop i))) := by
  intro d
  induction d with
  | zero =>
    intro i acc h ha hb
    apply Ev.step
    · intro k; rw [impl_EncodePlan.l0]
    simp only [if_neg (show ¬ ((i : Int) < p.length) by omega)]
    rw [List.drop_eq_nil_of_le (by omega), encNodes, List.append_nil]
    refine Ev.bind (ev_impl_Frame acc hb (by omega)) ?_
    exact Ev.now _
  | succ d ih =>
    intro i acc h ha hb
    have hm := hs _ (rdT_memN (show i < p.length by omega))
    have pn := putNodeN_len (rd_T62 p i)
    have hbn := Bytes_putNodeN (rd_T62 p i)
    have hev := ev_impl_PutNode (rd_T62 p i).f0 (rd_T62 p i).f1 (rd_T62 p i).f2 (rd_T62 p i).f3 (rd_T62 p i).f4 (rd_T62 p i).f5 (rd_T62 p i).f6 (by omega) (by omega)
    change Ev _ (putNodeN (rd_T62 p i)) at hev
    have ih' := ih (i + 1) (acc ++ putNodeN (rd_T62 p i)) (by omega) (by rw [List.length_append]; omega) (Bytes_app hb hbn)
    apply Ev.step
    · intro k; rw [impl_EncodePlan.l0]
    simp only [if_pos (show (i : Int) < p.length by omega), if_pos (show (0 : Int) ≤ i by omega), w64 (x := (i : Int) + 1) (by omega)]
    refine Ev.bind hev ?_
    simp only [if_pos (show acc.length + (putNodeN (rd_T62 p i)).length < 140737488355328 by omega)]
    rw [drop_rdT p i (by omega), encNodes]
    simpa using ih'
theorem ev_impl_EncodePlan (p : List S62) (hl : p.length ≤ 1048576) (hs : ∀ x ∈ p, x.f1.size ≤ 1048576 ∧ x.f6.length ≤ 1048576) : Ev (fun k => impl_EncodePlan.f k p) (encPlan p) := by
  simp only [impl_EncodePlan.f]
  refine Ev.bind (ev_impl_PlanOk p hl hs) ?_
  unfold encPlan
  refine Ev_ite (fun h => ?_) (fun h => ?_)
  · rw [if_pos h]
    refine Ev.bind (ev_impl_PutNum _) ?_
    have := putNum_length (p.length : Int)
    simpa using ev_impl_EncodePlan_l0 p (planOk_len h) hs p.length 0 (putNum p.length) (by omega) (by omega) (Bytes_put _)
  · rw [if_neg h]; exact Ev.now _

def planSum (p : List S62) : Int := if (encPlan p).2 = true then checkOf (encPlan p).1 else -1
theorem Bytes_frameB {b : List Int} (hb : Bytes b) : Bytes (frameB b) := by
  unfold frameB
  exact Bytes_app (fun x hx => by simp at hx; omega) (Bytes_app (Bytes_put _) (Bytes_app hb (Bytes_put _)))
theorem Bytes_frame {b : List Int} (hb : Bytes b) : Bytes (frame b).1 := by
  unfold frame
  split
  · exact Bytes_frameB hb
  · exact Bytes_nil
theorem Bytes_encNodes : ∀ p : List S62, Bytes (encNodes p)
  | [] => Bytes_nil
  | x :: xs => Bytes_app (Bytes_putNodeN x) (Bytes_encNodes xs)
theorem Bytes_encPlan (p : List S62) : Bytes (encPlan p).1 := by
  unfold encPlan
  split
  · exact Bytes_frame (Bytes_app (Bytes_put _) (Bytes_encNodes p))
  · exact Bytes_nil

theorem ev_impl_PlanSum (p : List S62) (hl : p.length ≤ 1048576) (hs : ∀ x ∈ p, x.f1.size ≤ 1048576 ∧ x.f6.length ≤ 1048576) : Ev (fun k => impl_PlanSum.f k p) (planSum p) := by
  have hel := encPlan_length p
  have hb := Bytes_encPlan p
  simp only [impl_PlanSum.f]
  refine Ev.bind (ev_impl_EncodePlan p hl hs) ?_
  unfold planSum
  refine Ev_ite (fun h => ?_) (fun h => ?_)
  · rw [if_pos h]
    refine Ev.bind (ev_impl_CheckOf _ hb (by omega)) ?_
    exact Ev.now _
  · rw [if_neg h]; exact Ev.now _

theorem ev_eqIntS_l0 (x0 : List Int) (hl : x0.length ≤ 1099511627776) : ∀ (d : Nat) (i : Nat), i + d = x0.length → Ev (fun k => laws_eqIntS.l0 k x0 x0 i) true := by
  intro d
  induction d with
  | zero =>
    intro i h2
    apply Ev.step
    · intro k; rw [laws_eqIntS.l0]
    simp only [if_neg (show ¬ ((i : Int) < x0.length) by omega)]
    exact Ev.now _
  | succ d ih =>
    intro i h2
    apply Ev.step
    · intro k; rw [laws_eqIntS.l0]
    simp only [if_pos (show (i : Int) < x0.length by omega), if_pos (show (0 : Int) ≤ i by omega), if_true, w64 (x := (i : Int) + 1) (by omega)]
    have := ih (i + 1) (by omega)
    simpa using this
theorem ev_eqIntS (l : List Int) (h : l.length ≤ 1099511627776) : Ev (fun k => laws_eqIntS.f k l l) true := by
  simp only [laws_eqIntS.f, if_true]
  exact ev_eqIntS_l0 l h l.length 0 (by omega)

theorem ev_eqNode (x : S62) (h : x.f6.length ≤ 1099511627776) : Ev (fun k => laws_eqNode.f k x.f0 x.f1 x.f2 x.f3 x.f4 x.f5 x.f6 x.f0 x.f1 x.f2 x.f3 x.f4 x.f5 x.f6) true := by
  simp only [laws_eqNode.f, if_true, bne_self_eq_false, if_neg Bool.false_ne_true]
  refine Ev.bind (ev_eqIntS _ h) ?_
  simp only [if_true]
  exact Ev.now _

theorem ev_laws_eqNodeS_l0 (x0 : List (S62)) (hl : x0.length ≤ 1099511627776) (hs : ∀ x ∈ x0, x.f6.length ≤ 1099511627776) : ∀ (d : Nat) (i : Nat), i + d = x0.length → Ev (fun k => laws_eqNodeS.l0 k x0 x0 i) true := by
  intro d
  induction d with
  | zero =>
    intro i h2
    apply Ev.step
    · intro k; rw [laws_eqNodeS.l0]
    simp only [if_neg (show ¬ ((i : Int) < x0.length) by omega)]
    exact Ev.now _
  | succ d ih =>
    intro i h2
    have hg : x0[i]? = some (rd_T62 x0 (i : Int)) := by simp [rd_T62, show i < x0.length by omega]
    have hm := hs _ (List.mem_of_getElem? hg)
    apply Ev.step
    · intro k; rw [laws_eqNodeS.l0]
    simp only [if_pos (show (i : Int) < x0.length by omega), if_pos (show (0 : Int) ≤ i by omega)]
    refine Ev.bind (ev_eqNode _ hm) ?_
    simp only [if_true, w64 (x := (i : Int) + 1) (by omega)]
    have := ih (i + 1) (by omega)
    simpa using this
theorem ev_laws_eqNodeS (l : List (S62)) (h : l.length ≤ 1099511627776) (hs : ∀ x ∈ l, x.f6.length ≤ 1099511627776) : Ev (fun k => laws_eqNodeS.f k l l) true := by
  simp only [laws_eqNodeS.f, if_true]
  exact ev_laws_eqNodeS_l0 l h hs l.length 0 (by omega)

theorem szIntS_eq (l : List Int) (a : Int) (h0 : 0 ≤ a) (h1 : a ≤ 1048576) (hl : l.length ≤ 9223372036854775807) : ∃ r, laws_szIntS.f l a = some r ∧ -1 ≤ r ∧ r ≤ a ∧ (0 ≤ r → l.length ≤ 1048576) := by
  by_cases hn : a - (l.length : Int) < 0
  · exact ⟨-1, by simp only [laws_szIntS.f, w64 (x := a - (l.length : Int)) (by omega), if_pos hn], by omega, by omega, fun h => by omega⟩
  · exact ⟨a - l.length, by simp only [laws_szIntS.f, w64 (x := a - (l.length : Int)) (by omega), if_neg hn], by omega, by omega, fun h => by omega⟩
theorem ev_szIntS (l : List Int) (a : Int) (h0 : 0 ≤ a) (h1 : a ≤ 1048576) (hl : l.length ≤ 9223372036854775807) : ∃ r, Ev (fun _ => laws_szIntS.f l a) r ∧ -1 ≤ r ∧ r ≤ a ∧ (0 ≤ r → l.length ≤ 1048576) := by
  obtain ⟨r, h, g⟩ := szIntS_eq l a h0 h1 hl
  exact ⟨r, Ev.const h, g⟩

theorem szNode_eq (x : S57) (a : Int) (h0 : 0 ≤ a) (h1 : a ≤ 1048576) (hl : x.f1.size ≤ 9223372036854775807) (hc : x.f6.length ≤ 9223372036854775807) : ∃ r, laws_szNode.f x.f0 x.f1 x.f2 x.f3 x.f4 x.f5 x.f6 a = some r ∧ -1 ≤ r ∧ r ≤ a ∧ (0 ≤ r → x.f1.size ≤ 1048576 ∧ x.f6.length ≤ 1048576) := by
  by_cases hn : a - (x.f1.size : Int) < 0
  · exact ⟨-1, by simp only [laws_szNode.f, w64 (x := a - (x.f1.size : Int)) (by omega), if_pos hn], by omega, by omega, fun h => by omega⟩
  · obtain ⟨r, e, g1, g2, g3⟩ := szIntS_eq x.f6 (a - x.f1.size) (by omega) (by omega) hc
    by_cases hr : r < 0
    · exact ⟨-1, by simp only [laws_szNode.f, w64 (x := a - (x.f1.size : Int)) (by omega), if_neg hn, e, Option.bind_some, if_pos hr], by omega, by omega, fun h => by omega⟩
    · exact ⟨r, by simp only [laws_szNode.f, w64 (x := a - (x.f1.size : Int)) (by omega), if_neg hn, e, Option.bind_some, if_neg hr], by omega, by omega, fun h => ⟨by omega, g3 h⟩⟩
theorem ev_szNode (x : S57) (a : Int) (h0 : 0 ≤ a) (h1 : a ≤ 1048576) (hm : x.f1.size ≤ 9223372036854775807 ∧ x.f6.length ≤ 9223372036854775807) : ∃ r, Ev (fun _ => laws_szNode.f x.f0 x.f1 x.f2 x.f3 x.f4 x.f5 x.f6 a) r ∧ -1 ≤ r ∧ r ≤ a ∧ (0 ≤ r → x.f1.size ≤ 1048576 ∧ x.f6.length ≤ 1048576) := by
  obtain ⟨r, h, g⟩ := szNode_eq x a h0 h1 hm.1 hm.2
  exact ⟨r, Ev.const h, g⟩

def SmallNodeS (l : List S57) : Prop := l.length ≤ 1048576 ∧ ∀ x ∈ l, x.f1.size ≤ 1048576 ∧ x.f6.length ≤ 1048576
def cvNode (x : S57) : S62 := ⟨x.f0, x.f1, x.f2, x.f3, x.f4, x.f5, x.f6⟩

theorem ev_laws_szNodeS_l0 (x0 : List (S57)) (hl : x0.length ≤ 9223372036854775806) (hs : ∀ x ∈ x0, x.f1.size ≤ 9223372036854775807 ∧ x.f6.length ≤ 9223372036854775807) : ∀ (d : Nat) (a : Int) (i : Nat), i + d = x0.length → 0 ≤ a → a ≤ 1048576 → ∃ r, Ev (fun k => laws_szNodeS.l0 k x0 a i) r ∧ -1 ≤ r ∧ r ≤ a ∧ (0 ≤ r → ∀ x ∈ x0.drop i, x.f1.size ≤ 1048576 ∧ x.f6.length ≤ 1048576) := by
  intro d
  induction d with
  | zero =>
    intro a i h2 h0 h1
    refine ⟨a, ?_, by omega, by omega, fun _ x hx => ?_⟩
    · apply Ev.step
      · intro k; rw [laws_szNodeS.l0]
      simp only [if_neg (show ¬ ((i : Int) < x0.length) by omega)]
      exact Ev.now _
    · rw [List.drop_eq_nil_of_le (by omega)] at hx; cases hx
  | succ d ih =>
    intro a i h2 h0 h1
    have hg : x0[i]? = some (rd_T57 x0 (i : Int)) := by simp [rd_T57, show i < x0.length by omega]
    have hm := hs _ (List.mem_of_getElem? hg)
    obtain ⟨r1, e1, g1, g2, g3⟩ := ev_szNode (rd_T57 x0 (i : Int)) a h0 h1 hm
    have hd : x0.drop i = rd_T57 x0 (i : Int) :: x0.drop (i + 1) := by
      rw [List.drop_eq_getElem_cons (show i < x0.length by omega)]
      congr 1
      rw [List.getElem?_eq_getElem (show i < x0.length by omega)] at hg
      injection hg
    by_cases hr : r1 < 0
    · refine ⟨-1, ?_, by omega, by omega, fun h => by omega⟩
      apply Ev.step
      · intro k; rw [laws_szNodeS.l0]
      simp only [if_pos (show (i : Int) < x0.length by omega), if_pos (show (0 : Int) ≤ i by omega)]
      refine Ev.bind e1 ?_
      simp only [if_pos hr]
      exact Ev.now _
    · obtain ⟨r2, e2, g4, g5, g6⟩ := ih r1 (i + 1) (by omega) (by omega) (by omega)
      refine ⟨r2, ?_, by omega, by omega, fun h x hx => ?_⟩
      · apply Ev.step
        · intro k; rw [laws_szNodeS.l0]
        simp only [if_pos (show (i : Int) < x0.length by omega), if_pos (show (0 : Int) ≤ i by omega)]
        refine Ev.bind e1 ?_
        simp only [if_neg hr, w64 (x := (i : Int) + 1) (by omega)]
        simpa using e2
      · rw [hd] at hx
        rcases List.mem_cons.1 hx with rfl | hx
        · exact g3 (by omega)
        · exact g6 h x hx
theorem ev_laws_szNodeS (l : List (S57)) (a : Int) (h0 : 0 ≤ a) (h1 : a ≤ 1048576) (hl : l.length ≤ 9223372036854775807) (hs : ∀ x ∈ l, x.f1.size ≤ 9223372036854775807 ∧ x.f6.length ≤ 9223372036854775807) : ∃ r, Ev (fun k => laws_szNodeS.f k l a) r ∧ -1 ≤ r ∧ r ≤ a ∧ (0 ≤ r → SmallNodeS l) := by
  by_cases hn : a - (l.length : Int) < 0
  · refine ⟨-1, ?_, by omega, by omega, fun h => by omega⟩
    simp only [laws_szNodeS.f, w64 (x := a - (l.length : Int)) (by omega), if_pos hn]
    exact Ev.now _
  · obtain ⟨r, e, g1, g2, g3⟩ := ev_laws_szNodeS_l0 l (by omega) hs l.length (a - l.length) 0 (by omega) (by omega) (by omega)
    refine ⟨r, ?_, by omega, by omega, fun h => ⟨by omega, by simpa using g3 h⟩⟩
    simp only [laws_szNodeS.f, w64 (x := a - (l.length : Int)) (by omega), if_neg hn]
    exact e

theorem ev_toIntS_l0 (x0 : List Int) (hl : x0.length ≤ 1048576) : ∀ (d : Nat) (x3 : List Int) (i : Nat), x3.length = x0.length → i + d = x0.length → x3.take i = x0.take i → Ev (fun k => laws_toIntS.l0 k x0 x3 i) x0 := by
  intro d
  induction d with
  | zero =>
    intro x3 i h1 h2 h3
    apply Ev.step
    · intro k; rw [laws_toIntS.l0]
    simp only [if_neg (show ¬ ((i : Int) < x0.length) by omega)]
    rw [take_eq_all h1 (by omega) h3]
    exact Ev.now _
  | succ d ih =>
    intro x3 i h1 h2 h3
    apply Ev.step
    · intro k; rw [laws_toIntS.l0]
    simp only [if_pos (show (i : Int) < x0.length by omega), if_pos (show (0 : Int) ≤ i by omega), if_pos (show (i : Int) < x3.length by omega), w64 (x := (i : Int) + 1) (by omega)]
    have := ih (x3.set i (rd x0 i)) (i + 1) (by simp [h1]) (by omega) (take_set_at _ _ _ _ h1 (by omega) (rd_get _ _ (by omega)) h3)
    simpa using this
theorem ev_toIntS (l : List Int) (h : l.length ≤ 1048576) : Ev (fun k => laws_toIntS.f k l) l := by
  simp only [laws_toIntS.f, if_pos (show (0 : Int) ≤ l.length by omega), if_pos (show (l.length : Int).toNat ≤ 35184372088832 by omega)]
  exact ev_toIntS_l0 l h l.length _ 0 (by simp) (by omega) (by simp)

theorem ev_toNode (x : S57) (h : x.f6.length ≤ 1048576) : Ev (fun k => laws_toNode.f k x.f0 x.f1 x.f2 x.f3 x.f4 x.f5 x.f6) (x.f0, x.f1, x.f2, x.f3, x.f4, x.f5, x.f6) := by
  simp only [laws_toNode.f]
  refine Ev.bind (ev_toIntS _ h) ?_
  exact Ev.now _

theorem ev_laws_toNodeS_l0 (x0 : List (S57)) (hl : x0.length ≤ 1048576) (hs : ∀ x ∈ x0, x.f1.size ≤ 1048576 ∧ x.f6.length ≤ 1048576) : ∀ (d : Nat) (x3 : List (S62)) (i : Nat), x3.length = x0.length → i + d = x0.length → x3.take i = (x0.map cvNode).take i → Ev (fun k => laws_toNodeS.l0 k x0 x3 i) (x0.map cvNode) := by
  intro d
  induction d with
  | zero =>
    intro x3 i h1 h2 h3
    apply Ev.step
    · intro k; rw [laws_toNodeS.l0]
    simp only [if_neg (show ¬ ((i : Int) < x0.length) by omega)]
    rw [take_eq_all (xs := x0.map cvNode) (by simpa using h1) (by simp; omega) h3]
    exact Ev.now _
  | succ d ih =>
    intro x3 i h1 h2 h3
    have hg : x0[i]? = some (rd_T57 x0 (i : Int)) := by simp [rd_T57, show i < x0.length by omega]
    have hm := hs _ (List.mem_of_getElem? hg)
    apply Ev.step
    · intro k; rw [laws_toNodeS.l0]
    simp only [if_pos (show (i : Int) < x0.length by omega), if_pos (show (0 : Int) ≤ i by omega)]
    refine Ev.bind (ev_toNode _ hm.2) ?_
    simp only [if_pos (show (i : Int) < x3.length by omega), w64 (x := (i : Int) + 1) (by omega)]
    have := ih (x3.set i (cvNode (rd_T57 x0 (i : Int)))) (i + 1) (by simp [h1]) (by omega) (take_set_at (x0.map cvNode) _ _ _ (by simpa using h1) (by simp; omega) (by rw [List.getElem?_map, hg]; rfl) h3)
    first | (simpa using this) | (simpa [cvNode] using this)
theorem ev_laws_toNodeS (l : List (S57)) (h : SmallNodeS l) : Ev (fun k => laws_toNodeS.f k l) (l.map cvNode) := by
  have h1 := h.1
  simp only [laws_toNodeS.f, if_pos (show (0 : Int) ≤ l.length by omega), if_pos (show (l.length : Int).toNat ≤ 3518437208883 by omega)]
  exact ev_laws_toNodeS_l0 l h.1 h.2 l.length _ 0 (by simp) (by omega) (by simp)

theorem ev_spec_CheckOf_l0 (b : List Int) (hb : Bytes b) (hl : b.length ≤ 1099511627776) : ∀ (d i : Nat), i + d = b.length → Ev (fun k => spec_CheckOf.l0 k b (checkTo b i) i) (checkOf b) := by
  intro d
  induction d with
  | zero =>
    intro i h
    obtain rfl : i = b.length := by omega
    apply Ev.step
    · intro k; rw [spec_CheckOf.l0]
    simp only [if_neg (show ¬ ((b.length : Int) < b.length) by omega)]
    exact Ev.now _
  | succ d ih =>
    intro i h
    have ih' := ih (i + 1) (by omega)
    have hc := checkTo_range b i
    have hr := Bytes_rd hb i
    apply Ev.step
    · intro k; rw [spec_CheckOf.l0]
    simp only [if_pos (show (i : Int) < b.length by omega), if_pos (show (0 : Int) ≤ i by omega), w64 (x := (i : Int) + 1) (by omega), w64 (x := rd b i) (by omega), w64 (x := 269 * checkTo b i) (by omega), w64 (x := 269 * checkTo b i + rd b i) (by omega), tmod_nn (show 0 ≤ 269 * checkTo b i + rd b i by omega)]
    exact ih'
theorem ev_spec_CheckOf (b : List Int) (hb : Bytes b) (hl : b.length ≤ 1099511627776) : Ev (fun k => spec_CheckOf.f k b) (checkOf b) :=
  ev_spec_CheckOf_l0 b hb hl b.length 0 (by omega)

theorem spec_l01In_eq (a b c : Int) : spec_l01In.f a b c = some (decide (b ≤ a ∧ a ≤ c)) := by
  unfold spec_l01In.f
  by_cases h : b ≤ a
  · rw [if_pos h]; simp [h]
  · rw [if_neg h]; simp [h]

theorem spec_l01Number_eq (a : Int) : spec_l01Number.f a = some (isNumB a) := by
  unfold spec_l01Number.f; rw [spec_l01In_eq]; rfl

theorem ev_spec_PutNum_l0 (n : Int) (h : 0 ≤ n ∧ n < 2097152) : Ev (fun k => spec_PutNum.l0 k [] n) (groups n) := by
  unfold groups
  by_cases h1 : n < 128
  · apply Ev.step
    · intro k; rw [spec_PutNum.l0]
    simp only [if_neg (show ¬ n ≥ 128 by omega), if_pos h1, List.length_nil, List.nil_append]
    exact Ev.const (by simp; omega)
  · apply Ev.step
    · intro k; rw [spec_PutNum.l0]
    simp only [if_pos (show n ≥ 128 by omega), if_neg h1, List.length_nil, List.nil_append, tmod_nn h.1, tdiv_nn h.1, w64 (x := 128 + n % 128) (by omega), w64 (x := n / 128) (by omega), show (128 + n % 128) % 256 = n % 128 + 128 by omega]
    simp only [show (0 : Nat) < 140737488355328 by omega, if_true]
    by_cases h2 : n < 16384
    · apply Ev.step
      · intro k; rw [spec_PutNum.l0]
      simp only [if_neg (show ¬ n / 128 ≥ 128 by omega), if_pos h2, List.length_cons, List.length_nil]
      exact Ev.const (by simp; omega)
    · apply Ev.step
      · intro k; rw [spec_PutNum.l0]
      simp only [if_pos (show n / 128 ≥ 128 by omega), if_neg h2, List.length_cons, List.length_nil, tmod_nn (show 0 ≤ n / 128 by omega), tdiv_nn (show 0 ≤ n / 128 by omega), w64 (x := 128 + n / 128 % 128) (by omega), w64 (x := n / 128 / 128) (by omega), show (128 + n / 128 % 128) % 256 = n / 128 % 128 + 128 by omega]
      simp only [show (0 + 1 : Nat) < 140737488355328 by omega, if_true, List.cons_append, List.nil_append]
      apply Ev.step
      · intro k; rw [spec_PutNum.l0]
      simp only [if_neg (show ¬ n / 128 / 128 ≥ 128 by omega), List.length_cons, List.length_nil]
      exact Ev.const (by simp; omega)
theorem ev_spec_PutNum (x : Int) : Ev (fun k => spec_PutNum.f k x) (putNum x) := by
  unfold putNum
  simp only [spec_PutNum.f, spec_l01Number_eq, Option.bind_some]
  by_cases h : isNumB x = true
  · have hz := zig_range h
    have hb : -1000000 ≤ x ∧ x ≤ 1000000 := by simpa [isNumB] using h
    simp only [h, if_true]
    unfold zig at hz ⊢
    by_cases h0 : x < 0
    · simp only [h0, if_true] at hz ⊢
      apply Ev.step
      · intro k; rw [spec_PutNum.j0]
      simp only [w64 (x := -2 * x) (by omega), w64 (x := -2 * x - 1) (by omega)]
      exact ev_spec_PutNum_l0 _ (by omega)
    · simp only [h0, if_false] at hz ⊢
      apply Ev.step
      · intro k; rw [spec_PutNum.j0]
      simp only [w64 (x := 2 * x) (by omega)]
      exact ev_spec_PutNum_l0 _ (by omega)
  · simp only [h]
    exact Ev.now _

theorem ev_spec_l01Bytes_l0 (b : List Int) (hl : b.length ≤ 1099511627776) : ∀ (d i : Nat), i + d = b.length → Ev (fun k => spec_l01Bytes.l0 k b (b.take i) i) b := by
  intro d
  induction d with
  | zero =>
    intro i h
    obtain rfl : i = b.length := by omega
    apply Ev.step
    · intro k; rw [spec_l01Bytes.l0]
    simp only [if_neg (show ¬ ((b.length : Int) < b.length) by omega), List.take_length]
    exact Ev.now _
  | succ d ih =>
    intro i h
    have ih' := ih (i + 1) (by omega)
    apply Ev.step
    · intro k; rw [spec_l01Bytes.l0]
    simp only [if_pos (show (i : Int) < b.length by omega), if_pos (show (0 : Int) ≤ i by omega), w64 (x := (i : Int) + 1) (by omega), if_pos (show (b.take i).length < 140737488355328 by rw [List.length_take]; omega), take_rd b i (by omega)]
    exact ih'
theorem ev_spec_l01Bytes (b : List Int) (hl : b.length ≤ 1099511627776) : Ev (fun k => spec_l01Bytes.f k b) b := by
  have := ev_spec_l01Bytes_l0 b hl b.length 0 (by omega)
  simpa [spec_l01Bytes.f] using this

theorem ev_spec_l01Join_l0 (a b : List Int) (ha : a.length ≤ 1099511627776) (hl : b.length ≤ 1099511627776) : ∀ (d i : Nat), i + d = b.length → Ev (fun k => spec_l01Join.l0 k b (a ++ b.take i) i) (a ++ b) := by
  intro d
  induction d with
  | zero =>
    intro i h
    obtain rfl : i = b.length := by omega
    apply Ev.step
    · intro k; rw [spec_l01Join.l0]
    simp only [if_neg (show ¬ ((b.length : Int) < b.length) by omega), List.take_length]
    exact Ev.now _
  | succ d ih =>
    intro i h
    have ih' := ih (i + 1) (by omega)
    apply Ev.step
    · intro k; rw [spec_l01Join.l0]
    simp only [if_pos (show (i : Int) < b.length by omega), if_pos (show (0 : Int) ≤ i by omega), w64 (x := (i : Int) + 1) (by omega), if_pos (show (a ++ b.take i).length < 140737488355328 by rw [List.length_append, List.length_take]; omega), List.append_assoc, take_rd b i (by omega)]
    exact ih'
theorem ev_spec_l01Join (a b : List Int) (ha : a.length ≤ 1099511627776) (hl : b.length ≤ 1099511627776) : Ev (fun k => spec_l01Join.f k a b) (a ++ b) := by
  simp only [spec_l01Join.f]
  refine Ev.bind (ev_spec_l01Bytes a ha) ?_
  have := ev_spec_l01Join_l0 a b ha hl b.length 0 (by omega)
  simpa using this

theorem ev_spec_Frame (b : List Int) (hb : Bytes b) (hl : b.length ≤ 1048576) : Ev (fun k => spec_Frame.f k b) (frame b) := by
  simp only [spec_Frame.f, frame]
  have p1 := putNum_length (b.length : Int)
  have p2 := putNum_length (checkOf b)
  by_cases h : b.length ≤ 4000
  · simp only [if_neg (show ¬ (b.length : Int) > 4000 by omega), if_pos h]
    refine Ev.bind (ev_spec_PutNum _) ?_
    refine Ev.bind (ev_spec_l01Join _ _ (by simp) (by omega)) ?_
    refine Ev.bind (ev_spec_l01Join _ _ (by simp; omega) (by omega)) ?_
    refine Ev.bind (ev_spec_CheckOf b hb (by omega)) ?_
    refine Ev.bind (ev_spec_PutNum _) ?_
    refine Ev.bind (ev_spec_l01Join _ _ (by simp; omega) (by omega)) ?_
    exact Ev.const (by simp [frameB])
  · simp only [if_pos (show (b.length : Int) > 4000 by omega), if_neg h]
    exact Ev.now _

theorem ev_spec_WordOk_l0 (s : ByteArray) (hs : s.size ≤ 1099511627776) : ∀ (d i : Nat), i + d = s.size → (i = 0 → 97 ≤ bt s 0) → Ev (fun k => spec_WordOk.l0 k s i) (wordFrom s d i) := by
  intro d
  induction d with
  | zero =>
    intro i h _
    apply Ev.step
    · intro k; rw [spec_WordOk.l0]
    simp only [if_neg (show ¬ ((i : Int) < s.size) by omega)]
    exact Ev.now _
  | succ d ih =>
    intro i h h0
    have ih' := ih (i + 1) (by omega) (by omega)
    apply Ev.step
    · intro k; rw [spec_WordOk.l0]
    simp only [if_pos (show (i : Int) < s.size by omega), if_pos (show (0 : Int) ≤ i by omega), w64 (x := (i : Int) + 1) (by omega), wordFrom]
    have hi : i = 0 → 97 ≤ bt s i := by intro e; subst e; exact h0 rfl
    by_cases h1 : bt s i < 97
    · simp only [if_pos h1]
      have hp : 0 < i := by rcases Nat.eq_zero_or_pos i with e | e; · have := hi e; omega
                            · exact e
      by_cases h2 : bt s i < 48
      · simp only [if_pos h2, show okAt s i = false by simp [okAt]; omega, Bool.false_and]; exact Ev.now _
      · by_cases h3 : bt s i > 57
        · simp only [if_neg h2, if_pos h3, show okAt s i = false by simp [okAt]; omega, Bool.false_and]; exact Ev.now _
        · simp only [if_neg h2, if_neg h3, show okAt s i = true by simp [okAt]; omega, Bool.true_and]; exact ih'
    · simp only [if_neg h1]
      by_cases h2 : bt s i > 122
      · simp only [if_pos h2, if_neg (show ¬ bt s i < 48 by omega), if_pos (show bt s i > 57 by omega), show okAt s i = false by simp [okAt]; omega, Bool.false_and]; exact Ev.now _
      · simp only [if_neg h2, show okAt s i = true by simp [okAt]; omega, Bool.true_and]; exact ih'
theorem ev_spec_WordOk (s : ByteArray) (hs : s.size ≤ 1099511627776) : Ev (fun k => spec_WordOk.f k s) (wordOk s) := by
  simp only [spec_WordOk.f, spec_l01In_eq, Option.bind_some, decide_eq_true_eq, wordOk]
  by_cases h : 1 ≤ s.size ∧ s.size ≤ 12
  · simp only [if_pos (show 1 ≤ (s.size : Int) ∧ (s.size : Int) ≤ 12 by omega), if_pos (show (0 : Int) < s.size by omega), decide_eq_true h, Bool.true_and]
    apply Ev.step
    · intro k; rw [spec_WordOk.j0]
    simp only [decide_eq_true_eq]
    by_cases h1 : bt s 0 < 97
    · simp only [if_pos h1]
      obtain ⟨d, hd⟩ : ∃ d, s.size = d + 1 := ⟨s.size - 1, by omega⟩
      rw [hd, wordFrom, show okAt s 0 = false by simp [okAt]; omega, Bool.false_and]
      exact Ev.now _
    · simp only [if_neg h1]
      exact ev_spec_WordOk_l0 s hs s.size 0 (by omega) (by omega)
  · simp only [if_neg (show ¬ (1 ≤ (s.size : Int) ∧ (s.size : Int) ≤ 12) by omega), decide_eq_false h, Bool.false_and]
    apply Ev.step
    · intro k; rw [spec_WordOk.j0]
    simp only [if_true]
    exact Ev.now _

theorem spec_l02Col_eq (a : Int) : spec_l02Col.f a = some (colB a) := by
  unfold spec_l02Col.f; rw [spec_l01In_eq]; rfl

theorem ev_spec_NodeOk_l0 (kind : Int) (name : ByteArray) (col op num : Int) (slot : Bool) (cols : List Int) (hl : cols.length ≤ 1099511627776) : ∀ (d i : Nat), i + d = cols.length → Ev (fun k => spec_NodeOk.l0 k i kind name col op num slot cols) ((cols.drop i).all colB && decide (1 ≤ cols.length ∧ cols.length ≤ 6) && decide (col = 0 ∧ num = 0 ∧ slot = false)) := by
  intro d
  induction d with
  | zero =>
    intro i h
    apply Ev.step
    · intro k; rw [spec_NodeOk.l0]
    simp only [if_neg (show ¬ ((i : Int) < cols.length) by omega), spec_l01In_eq, Option.bind_some, drop_nil' (show cols.length ≤ i by omega), List.all_nil, Bool.true_and]
    by_cases h1 : 1 ≤ cols.length ∧ cols.length ≤ 6
    · simp only [decide_eq_true (show 1 ≤ (cols.length : Int) ∧ (cols.length : Int) ≤ 6 by omega), if_true, decide_eq_true h1, Bool.true_and]
      by_cases h2 : col = 0
      · by_cases h3 : num = 0
        · simp only [if_pos h2, if_pos h3]; exact Ev.const (by simp [h2, h3])
        · simp only [if_pos h2, if_neg h3]; exact Ev.const (by simp [h3])
      · simp only [if_neg h2]; exact Ev.const (by simp [h2])
    · simp only [decide_eq_false (show ¬ (1 ≤ (cols.length : Int) ∧ (cols.length : Int) ≤ 6) by omega), if_neg Bool.false_ne_true, decide_eq_false h1, Bool.false_and]
      exact Ev.now _
  | succ d ih =>
    intro i h
    have ih' := ih (i + 1) (by omega)
    rw [drop_rd cols i (by omega)]
    apply Ev.step
    · intro k; rw [spec_NodeOk.l0]
    simp only [if_pos (show (i : Int) < cols.length by omega), if_pos (show (0 : Int) ≤ i by omega), spec_l02Col_eq, Option.bind_some, w64 (x := (i : Int) + 1) (by omega), List.all_cons]
    by_cases h1 : colB (rd cols i) = true
    · simp only [h1, if_true, Bool.true_and]; simpa using ih'
    · simp only [if_neg h1, Bool.eq_false_iff.mpr h1, Bool.false_and]; exact Ev.now _
theorem ev_spec_NodeOk (kind : Int) (name : ByteArray) (col op num : Int) (slot : Bool) (cols : List Int) (hl : cols.length ≤ 1099511627776) (hn : name.size ≤ 1099511627776) : Ev (fun k => spec_NodeOk.f k kind name col op num slot cols) (nodeOk kind name col op num slot cols) := by
  have main : ∀ b, b = nodePre kind name op num slot cols → Ev (fun k => spec_NodeOk.j0 k b kind name col op num slot cols) (nodeOk kind name col op num slot cols) := by
    intro b hb
    unfold nodeOk
    rw [← hb]
    cases b with
    | true =>
      apply Ev.step
      · intro k; rw [spec_NodeOk.j0]
      exact Ev.now _
    | false =>
      apply Ev.step
      · intro k; rw [spec_NodeOk.j0]
      simp only [if_neg Bool.false_ne_true, Bool.not_false, Bool.true_and]
      unfold nodeKind
      refine Ev_ite (fun h0 => ?_) (fun h0 => ?_)
      · rw [if_pos h0]
        refine Ev.bind (ev_spec_WordOk name hn) ?_
        refine Ev_ite (fun h1 => ?_) (fun h1 => ?_)
        · rw [h1, Bool.true_and]
          refine Ev_ite (fun h2 => Ev_ite (fun h3 => ?_) (fun h3 => ?_)) (fun h2 => ?_)
          · exact Ev.const (by simp [h2, h3])
          · exact Ev.const (by simp [h3])
          · exact Ev.const (by simp [h2])
        · rw [Bool.eq_false_iff.mpr h1]; exact Ev.now _
      rw [if_neg h0]
      refine Ev_ite (fun h1 => ?_) (fun h1 => ?_)
      · rw [if_pos h1]
        simp only [spec_l02Col_eq, spec_l01In_eq, spec_l01Number_eq, Option.bind_some]
        refine Ev_ite (fun h2 => ?_) (fun h2 => Ev.const (by simp [Bool.eq_false_iff.mpr h2]))
        refine Ev_ite (fun h3 => ?_) (fun h3 => Ev.const (by simp [Bool.eq_false_iff.mpr h3]))
        refine Ev_ite (fun h4 => ?_) (fun h4 => Ev.const (by simp [Bool.eq_false_iff.mpr h4]))
        rw [h2, h3, h4]
        refine Ev_ite (fun h5 => Ev_ite (fun h6 => ?_) (fun h6 => ?_)) (fun h5 => ?_)
        · exact Ev.const (by simp [h5, h6])
        · exact Ev.const (by simp [h5, h6])
        · exact Ev.const (by simp [h5])
      rw [if_neg h1]
      refine Ev_ite (fun h2 => ?_) (fun h2 => ?_)
      · rw [if_pos h2]
        simpa using ev_spec_NodeOk_l0 kind name col op num slot cols hl cols.length 0 (by omega)
      rw [if_neg h2]
      simp only [spec_l02Col_eq, spec_l01In_eq, Option.bind_some]
      refine Ev_ite (fun h3 => ?_) (fun h3 => ?_)
      · rw [if_pos h3]
        refine Ev_ite (fun h4 => Ev_ite (fun h5 => ?_) (fun h5 => ?_)) (fun h4 => ?_)
        · exact Ev.const (by simp [h4, h5])
        · exact Ev.const (by simp [Bool.eq_false_iff.mpr h5])
        · exact Ev.const (by simp [Bool.eq_false_iff.mpr h4])
      rw [if_neg h3]
      refine Ev_ite (fun h4 => ?_) (fun h4 => ?_)
      · rw [if_pos h4]
        refine Ev_ite (fun h5 => Ev_ite (fun h6 => ?_) (fun h6 => ?_)) (fun h5 => ?_)
        · exact Ev.const (by simp [h5, h6])
        · exact Ev.const (by simp [h6])
        · exact Ev.const (by simp [Bool.eq_false_iff.mpr h5])
      rw [if_neg h4]
      refine Ev_ite (fun h5 => ?_) (fun h5 => ?_)
      · rw [if_pos h5]
        refine Ev_ite (fun h6 => ?_) (fun h6 => ?_)
        · exact Ev.const (by simp [h6])
        · exact Ev.const (by simp [h6])
      rw [if_neg h5]
      refine Ev_ite (fun h6 => ?_) (fun h6 => Ev_ite (fun h7 => ?_) (fun h7 => ?_))
      · rw [if_pos (Or.inl h6)]
        refine Ev_ite (fun h7 => Ev_ite (fun h8 => ?_) (fun h8 => ?_)) (fun h7 => ?_)
        · exact Ev.const (by simp [h7, h8])
        · exact Ev.const (by simp [h8])
        · exact Ev.const (by simp [h7])
      · rw [if_pos (Or.inr h7)]
        refine Ev_ite (fun h7 => Ev_ite (fun h8 => ?_) (fun h8 => ?_)) (fun h7 => ?_)
        · exact Ev.const (by simp [h7, h8])
        · exact Ev.const (by simp [h8])
        · exact Ev.const (by simp [h7])
      · rw [if_neg (by intro h; rcases h with h | h; exact h6 h; exact h7 h)]
        exact Ev.now _
  have hlen : ((cols.length : Int) > 0) ↔ cols ≠ [] := by
    cases cols with
    | nil => simp
    | cons => simp
  have e39 : decide (0 ≤ num ∧ num ≤ 39) = slotB num := rfl
  simp only [spec_NodeOk.f, spec_l01In_eq, Option.bind_some, e39]
  repeat' (refine Ev_ite (fun _ => ?_) (fun _ => ?_))
  all_goals first
    | (exfalso; omega)
    | (refine main _ ?_
       unfold nodePre
       cases hsl : slotB num <;> simp_all)

theorem ev_spec_ArityOf (a : Int) : Ev (fun k => spec_ArityOf.f k a) (arity a) := by
  simp only [spec_ArityOf.f]
  by_cases h0 : a = 0
  · subst h0; simp only [if_true]; exact Ev.now _
  by_cases h3 : a = 3
  · subst h3
    simp only [if_neg (show ¬ (3 : Int) = 0 by omega), if_true]
    apply Ev.step
    · intro k; rw [spec_ArityOf.j0]
    exact Ev.const (by simp [arity])
  simp only [if_neg h0, if_neg h3]
  apply Ev.step
  · intro k; rw [spec_ArityOf.j0]
  refine Ev.const ?_
  unfold arity
  by_cases h4 : a = 4
  · subst h4; simp
  · simp only [beq_iff_eq, if_neg h0, if_neg h3, if_neg h4]
    repeat' split
    all_goals first | rfl | omega

def endD : Option (Nat × Nat) → Int × Int
  | none => (-1, 0)
  | some x => (x.1, x.2)
theorem ev_spec_l02End (p : List S62) (hl : p.length ≤ 1048576) : ∀ (room k : Nat), room ≤ 10 → k ≤ 1099511627776 → Ev (fun n => spec_l02End.f n p k (room : Int)) (endD (endP p room k)) := by
  intro room
  induction room with
  | zero =>
    intro k _ hk
    apply Ev.step
    · intro k; rw [spec_l02End.f]
    refine Ev_ite (fun _ => ?_) (fun _ => ?_)
    · apply Ev.step
      · intro k; rw [spec_l02End.j0]
      exact Ev.now _
    · apply Ev.step
      · intro k; rw [spec_l02End.j0]
      exact Ev.now _
  | succ room ih =>
    intro k hr hk
    apply Ev.step
    · intro k; rw [spec_l02End.f]
    refine Ev_ite (fun h0 => ?_) (fun h0 => ?_)
    · rw [endP, if_pos (by omega)]
      apply Ev.step
      · intro k; rw [spec_l02End.j0]
      exact Ev.now _
    rw [endP, if_neg (by omega)]
    have eb : (((room + 1 : Nat) : Int) == 0) = false := by rw [beq_eq_false_iff_ne]; omega
    simp only [eb]
    apply Ev.step
    · intro k; rw [spec_l02End.j0]
    simp only [if_neg Bool.false_ne_true]
    have e1 : ((room + 1 : Nat) : Int) - 1 = (room : Int) := by omega
    have e2 : ((k : Int) + 1) = ((k + 1 : Nat) : Int) := by omega
    have hka : arity (rd_T62 p (k : Int)).f0 = arity (kAt p k) := rfl
    have i1 := ih (k + 1) (by omega) (by omega)
    simp only [w64 (x := (k : Int) + 1) (by omega), e2, w64 (x := ((k + 1 : Nat) : Int)) (by omega)]
    apply Ev.step
    · intro k; rw [spec_l02End.l0]
    simp only [if_pos (show (0 : Int) ≤ k by omega), if_pos (show (k : Int) < p.length by omega)]
    refine Ev.bind (ev_spec_ArityOf _) ?_
    rw [hka]
    rcases arity_cases (kAt p k) with h | h | h | h
    · rw [h, if_neg (by omega), if_neg (by omega)]
      simp only [if_neg (show ¬ (0 : Int) < -1 by omega), w01]
      exact Ev.now _
    · rw [h, if_neg (by omega), if_neg (by omega)]
      simp only [if_neg (show ¬ (0 : Int) < 0 by omega), w01]
      exact Ev.now _
    · rw [h, if_neg (by omega), if_pos rfl]
      simp only [if_pos (show (0 : Int) < 1 by omega), w64 (x := ((room + 1 : Nat) : Int) - 1) (by omega), e1, w64 (x := (room : Int)) (by omega)]
      refine Ev.bind i1 ?_
      cases hx : endP p room (k + 1) with
      | none => exact Ev.now _
      | some x =>
        have hxr := endP_range p _ _ _ hx
        rw [show endD (some x) = ((x.1 : Int), (x.2 : Int)) from rfl]
        simp only [if_neg (show ¬ (x.1 : Int) < 0 by omega), Option.bind_some, if_pos (show (x.2 : Int) > 0 by omega)]
        apply Ev.step
        · intro k; rw [spec_l02End.l0]
        simp only [if_pos (show (0 : Int) ≤ k by omega), if_pos (show (k : Int) < p.length by omega)]
        refine Ev.bind (ev_spec_ArityOf _) ?_
        rw [hka, h]
        simp only [w01, if_neg (show ¬ (1 : Int) < 1 by omega), w64 (x := (x.2 : Int) + 1) (by omega)]
        exact Ev.const (congrArg some (Prod.ext rfl (by simp [endD])))
    · rw [h, if_pos rfl]
      simp only [if_pos (show (0 : Int) < 2 by omega), w64 (x := ((room + 1 : Nat) : Int) - 1) (by omega), e1, w64 (x := (room : Int)) (by omega)]
      refine Ev.bind i1 ?_
      cases hx : endP p room (k + 1) with
      | none => exact Ev.now _
      | some x =>
        have hxr := endP_range p _ _ _ hx
        rw [show endD (some x) = ((x.1 : Int), (x.2 : Int)) from rfl]
        simp only [if_neg (show ¬ (x.1 : Int) < 0 by omega), Option.bind_some, if_pos (show (x.2 : Int) > 0 by omega)]
        apply Ev.step
        · intro k; rw [spec_l02End.l0]
        simp only [if_pos (show (0 : Int) ≤ k by omega), if_pos (show (k : Int) < p.length by omega)]
        refine Ev.bind (ev_spec_ArityOf _) ?_
        rw [hka, h]
        simp only [w01, w12, if_pos (show (1 : Int) < 2 by omega), w64 (x := ((room + 1 : Nat) : Int) - 1) (by omega), e1, w64 (x := (room : Int)) (by omega)]
        refine Ev.bind (ih x.1 (by omega) (by omega)) ?_
        cases hy : endP p room x.1 with
        | none => exact Ev.now _
        | some y =>
          have hyr := endP_range p _ _ _ hy
          rw [show endD (some y) = ((y.1 : Int), (y.2 : Int)) from rfl]
          simp only [if_neg (show ¬ (y.1 : Int) < 0 by omega), Option.bind_some]
          refine Ev_ite (fun h5 => ?_) (fun h5 => ?_)
          · apply Ev.step
            · intro k; rw [spec_l02End.l0]
            simp only [if_pos (show (0 : Int) ≤ k by omega), if_pos (show (k : Int) < p.length by omega)]
            refine Ev.bind (ev_spec_ArityOf _) ?_
            rw [hka, h]
            simp only [w01, w12, if_neg (show ¬ (2 : Int) < 2 by omega), w64 (x := (y.2 : Int) + 1) (by omega)]
            exact Ev.const (congrArg some (Prod.ext rfl (by simp only [Option.bind_some, endD]; omega)))
          · apply Ev.step
            · intro k; rw [spec_l02End.l0]
            simp only [if_pos (show (0 : Int) ≤ k by omega), if_pos (show (k : Int) < p.length by omega)]
            refine Ev.bind (ev_spec_ArityOf _) ?_
            rw [hka, h]
            simp only [w01, w12, if_neg (show ¬ (2 : Int) < 2 by omega), w64 (x := (x.2 : Int) + 1) (by omega)]
            exact Ev.const (congrArg some (Prod.ext rfl (by simp only [Option.bind_some, endD]; omega)))

theorem endD_fst (o : Option (Nat × Nat)) : (endD o).1 = endI o := by cases o <;> rfl
theorem ev_spec_PlanOk_l0 (p : List S62) (hl : p.length ≤ 1048576) (hs : ∀ x ∈ p, x.f1.size ≤ 1048576 ∧ x.f6.length ≤ 1048576) : ∀ (d i : Nat), i + d = p.length → Ev (fun k => spec_PlanOk.l0 k p i) ((p.drop i).all nodeOkN && decide (endI (endP p 10 0) = p.length)) := by
  intro d
  induction d with
  | zero =>
    intro i h
    apply Ev.step
    · intro k; rw [spec_PlanOk.l0]
    simp only [if_neg (show ¬ ((i : Int) < p.length) by omega), drop_nil' (show p.length ≤ i by omega), List.all_nil, Bool.true_and]
    have := ev_spec_l02End p hl 10 0 (by omega) (by omega)
    refine Ev.bind (by simpa using this) ?_
    rw [endD_fst]
    exact Ev.const (congrArg some (by rw [Bool.eq_iff_iff]; simp))
  | succ d ih =>
    intro i h
    have ih' := ih (i + 1) (by omega)
    have hm := hs _ (rdT_memN (show i < p.length by omega))
    rw [drop_rdT p i (by omega), List.all_cons]
    apply Ev.step
    · intro k; rw [spec_PlanOk.l0]
    simp only [if_pos (show (i : Int) < p.length by omega), if_pos (show (0 : Int) ≤ i by omega), w64 (x := (i : Int) + 1) (by omega)]
    refine Ev.bind (ev_spec_NodeOk _ _ _ _ _ _ _ (by omega) (by omega)) ?_
    refine Ev_ite (fun h1 => ?_) (fun h1 => ?_)
    · rw [show nodeOkN (rd_T62 p i) = true from h1, Bool.true_and]; simpa using ih'
    · rw [show nodeOkN (rd_T62 p i) = false from Bool.eq_false_iff.mpr h1, Bool.false_and, Bool.false_and]; exact Ev.now _
theorem ev_spec_PlanOk (p : List S62) (hl : p.length ≤ 1048576) (hs : ∀ x ∈ p, x.f1.size ≤ 1048576 ∧ x.f6.length ≤ 1048576) : Ev (fun k => spec_PlanOk.f k p) (planOk p) := by
  simp only [spec_PlanOk.f, spec_l01In_eq, Option.bind_some]
  unfold planOk
  refine Ev_ite (fun h1 => ?_) (fun h1 => ?_)
  · have h1' : 1 ≤ p.length ∧ p.length ≤ 40 := by simp only [decide_eq_true_eq] at h1; omega
    rw [decide_eq_true h1', Bool.true_and]
    simpa using ev_spec_PlanOk_l0 p hl hs p.length 0 (by omega)
  · have h1' : ¬ (1 ≤ p.length ∧ p.length ≤ 40) := by simp only [decide_eq_true_eq] at h1; omega
    rw [decide_eq_false h1']; exact Ev.now _

theorem ev_spec_PutNums_l0 (l : List Int) (hl : l.length ≤ 300) : ∀ (d : Nat) (acc : List Int) (i : Nat), i + d = l.length → acc.length ≤ 3 * (i + 1) → Ev (fun k => spec_PutNums.l0 k l acc i) (putsFrom (l.drop i) acc) := by
  intro d
  induction d with
  | zero =>
    intro acc i h _
    apply Ev.step
    · intro k; rw [spec_PutNums.l0]
    simp only [if_neg (show ¬ ((i : Int) < l.length) by omega), List.drop_eq_nil_of_le (show l.length ≤ i by omega)]
    exact Ev.now _
  | succ d ih =>
    intro acc i h ha
    have hn := putNum_length (rd l i)
    apply Ev.step
    · intro k; rw [spec_PutNums.l0]
    simp only [if_pos (show (i : Int) < l.length by omega), if_pos (show (0 : Int) ≤ i by omega), w64 (x := (i : Int) + 1) (by omega), spec_l01Number_eq, Option.bind_some]
    rw [drop_rd l i (by omega), putsFrom]
    by_cases h1 : isNumB (rd l i) = true
    · simp only [if_pos h1]
      refine Ev.bind (ev_spec_PutNum _) ?_
      refine Ev.bind (ev_spec_l01Join _ _ (by omega) (by omega)) ?_
      exact ih _ (i + 1) (by omega) (by rw [List.length_append]; omega)
    · simp only [if_neg h1]; exact Ev.now _
theorem ev_spec_PutNums (l : List Int) : Ev (fun k => spec_PutNums.f k l) (putNums l) := by
  simp only [spec_PutNums.f]
  unfold putNums
  by_cases h : 300 < l.length
  · simp only [if_pos (show (l.length : Int) > 300 by omega), if_pos h]; exact Ev.now _
  simp only [if_neg (show ¬ (l.length : Int) > 300 by omega), if_neg h]
  refine Ev.bind (ev_spec_PutNum _) ?_
  have hn := putNum_length l.length
  exact ev_spec_PutNums_l0 l (by omega) l.length _ 0 (by omega) (by omega)

theorem ev_spec_PutWord (s : ByteArray) (hs : s.size ≤ 1099511627776) : Ev (fun k => spec_PutWord.f k s) (putWord s) := by
  simp only [spec_PutWord.f]
  refine Ev.bind (ev_spec_WordOk s hs) ?_
  unfold putWord
  refine Ev_ite (fun h => ?_) (fun h => ?_)
  · rw [if_pos h]
    refine Ev.bind (ev_spec_PutNum _) ?_
    simp only [if_pos (show s.size ≤ 9223372036854775807 by omega)]
    have := putNum_length (s.size : Int)
    exact ev_spec_l01Join _ _ (by omega) (by rw [bytesOf_length]; omega)
  · rw [if_neg h]; exact Ev.now _

theorem spec_l05Flag_eq (b : Bool) : spec_l05Flag.f b = some (flagI b) := by cases b <;> rfl

theorem ev_spec_l05Put_l0 (xs : List Int) (hl : xs.length ≤ 1048576) : ∀ (d : Nat) (out : List Int) (i : Nat), i + d = xs.length → out.length ≤ 1048576 + 3 * i → Ev (fun k => spec_l05Put.l0 k out xs i) (out ++ putsAll (xs.drop i)) := by
  intro d
  induction d with
  | zero =>
    intro out i h _
    apply Ev.step
    · intro k; rw [spec_l05Put.l0]
    simp only [if_neg (show ¬ ((i : Int) < xs.length) by omega), List.drop_eq_nil_of_le (show xs.length ≤ i by omega), putsAll, List.append_nil]
    exact Ev.now _
  | succ d ih =>
    intro out i h ho
    have hn := putNum_length (rd xs i)
    have ih' := ih (out ++ putNum (rd xs i)) (i + 1) (by omega) (by rw [List.length_append]; omega)
    apply Ev.step
    · intro k; rw [spec_l05Put.l0]
    simp only [if_pos (show (i : Int) < xs.length by omega), if_pos (show (0 : Int) ≤ i by omega), w64 (x := (i : Int) + 1) (by omega)]
    refine Ev.bind (ev_spec_PutNum _) ?_
    refine Ev.bind (ev_spec_l01Join _ _ (by omega) (by omega)) ?_
    rw [drop_rd xs i (by omega), putsAll, ← List.append_assoc]
    simpa using ih'
theorem ev_spec_l05Put (out xs : List Int) (hl : xs.length ≤ 1048576) (ho : out.length ≤ 1048576) : Ev (fun k => spec_l05Put.f k out xs) (out ++ putsAll xs) := by
  have := ev_spec_l05Put_l0 xs hl xs.length out 0 (by omega) (by omega)
  simpa [spec_l05Put.f] using this

theorem ev_spec_PutNode (kind : Int) (name : ByteArray) (col op num : Int) (slot : Bool) (cols : List Int) (hl : cols.length ≤ 1099511627776) (hn : name.size ≤ 1099511627776) : Ev (fun k => spec_PutNode.f k kind name col op num slot cols) (putNode kind name col op num slot cols) := by
  have hk := putNum_length kind
  simp only [spec_PutNode.f, spec_l05Flag_eq, Option.bind_some]
  refine Ev.bind (ev_spec_NodeOk _ _ _ _ _ _ _ hl hn) ?_
  unfold putNode
  refine Ev_ite (fun h => ?_) (fun h => ?_)
  · rw [if_pos h]
    refine Ev.bind (ev_spec_PutNum _) ?_
    unfold nodeTail
    refine Ev_ite (fun h0 => ?_) (fun h0 => ?_)
    · rw [if_pos h0]
      have := putWord_length name
      refine Ev.bind (ev_spec_PutWord _ hn) ?_
      refine Ev.bind (ev_spec_l01Join _ _ (by omega) (by omega)) ?_
      exact Ev.now _
    rw [if_neg h0]
    refine Ev_ite (fun h1 => ?_) (fun h1 => ?_)
    · rw [if_pos h1]
      refine Ev.bind (ev_spec_l05Put _ _ (by simp) (by omega)) ?_
      exact Ev.now _
    rw [if_neg h1]
    refine Ev_ite (fun h2 => ?_) (fun h2 => ?_)
    · rw [if_pos h2]
      have := putNums_len cols
      refine Ev.bind (ev_spec_PutNums _) ?_
      refine Ev.bind (ev_spec_l01Join _ _ (by omega) (by omega)) ?_
      exact Ev.now _
    rw [if_neg h2]
    refine Ev_ite (fun h3 => ?_) (fun h3 => ?_)
    · rw [if_pos h3]
      refine Ev.bind (ev_spec_l05Put _ _ (by simp) (by omega)) ?_
      exact Ev.now _
    rw [if_neg h3]
    refine Ev_ite (fun h5 => ?_) (fun h5 => ?_)
    · rw [if_pos h5]
      refine Ev.bind (ev_spec_l05Put _ _ (by simp) (by omega)) ?_
      exact Ev.now _
    rw [if_neg h5]
    refine Ev_ite (fun h6 => ?_) (fun h6 => ?_)
    · rw [if_pos h6]
      refine Ev.bind (ev_spec_l05Put _ _ (by simp) (by omega)) ?_
      exact Ev.now _
    rw [if_neg h6, List.append_nil]
    exact Ev.now _
  · rw [if_neg h]; exact Ev.now _

theorem ev_spec_EncodePlan_l0 (p : List S62) (hl : p.length ≤ 40) (hs : ∀ x ∈ p, x.f1.size ≤ 1048576 ∧ x.f6.length ≤ 1048576) : ∀ (d i : Nat) (acc : List Int), i + d = p.length → acc.length ≤ 3 + 906 * i → Bytes acc → Ev (fun k => spec_EncodePlan.l0 k p acc i) (frame (acc ++ encNodes (p.drop i))) := by
  intro d
  induction d with
  | zero =>
    intro i acc h ha hb
    apply Ev.step
    · intro k; rw [spec_EncodePlan.l0]
    simp only [if_neg (show ¬ ((i : Int) < p.length) by omega)]
    rw [List.drop_eq_nil_of_le (by omega), encNodes, List.append_nil]
    refine Ev.bind (ev_spec_Frame acc hb (by omega)) ?_
    exact Ev.now _
  | succ d ih =>
    intro i acc h ha hb
    have hm := hs _ (rdT_memN (show i < p.length by omega))
    have pn := putNodeN_len (rd_T62 p i)
    have hbn := Bytes_putNodeN (rd_T62 p i)
    have hev := ev_spec_PutNode (rd_T62 p i).f0 (rd_T62 p i).f1 (rd_T62 p i).f2 (rd_T62 p i).f3 (rd_T62 p i).f4 (rd_T62 p i).f5 (rd_T62 p i).f6 (by omega) (by omega)
    change Ev _ (putNodeN (rd_T62 p i)) at hev
    have ih' := ih (i + 1) (acc ++ putNodeN (rd_T62 p i)) (by omega) (by rw [List.length_append]; omega) (Bytes_app hb hbn)
    apply Ev.step
    · intro k; rw [spec_EncodePlan.l0]
    simp only [if_pos (show (i : Int) < p.length by omega), if_pos (show (0 : Int) ≤ i by omega), w64 (x := (i : Int) + 1) (by omega)]
    refine Ev.bind hev ?_
    refine Ev.bind (ev_spec_l01Join _ _ (by omega) (by omega)) ?_
    rw [drop_rdT p i (by omega), encNodes]
    simpa using ih'
theorem ev_spec_EncodePlan (p : List S62) (hl : p.length ≤ 1048576) (hs : ∀ x ∈ p, x.f1.size ≤ 1048576 ∧ x.f6.length ≤ 1048576) : Ev (fun k => spec_EncodePlan.f k p) (encPlan p) := by
  simp only [spec_EncodePlan.f]
  refine Ev.bind (ev_spec_PlanOk p hl hs) ?_
  unfold encPlan
  refine Ev_ite (fun h => ?_) (fun h => ?_)
  · rw [if_pos h]
    refine Ev.bind (ev_spec_PutNum _) ?_
    have := putNum_length (p.length : Int)
    simpa using ev_spec_EncodePlan_l0 p (planOk_len h) hs p.length 0 (putNum p.length) (by omega) (by omega) (Bytes_put _)
  · rw [if_neg h]; exact Ev.now _

theorem ev_spec_PlanSum (p : List S62) (hl : p.length ≤ 1048576) (hs : ∀ x ∈ p, x.f1.size ≤ 1048576 ∧ x.f6.length ≤ 1048576) : Ev (fun k => spec_PlanSum.f k p) (planSum p) := by
  have hel := encPlan_length p
  have hb := Bytes_encPlan p
  simp only [spec_PlanSum.f]
  refine Ev.bind (ev_spec_EncodePlan p hl hs) ?_
  unfold planSum
  refine Ev_ite (fun h => ?_) (fun h => ?_)
  · rw [if_pos h]
    refine Ev.bind (ev_spec_CheckOf _ hb (by omega)) ?_
    exact Ev.now _
  · rw [if_neg h]; exact Ev.now _

theorem holds : ∀ (l0 : List (S57)), (l0.length ≤ 9223372036854775807 ∧ ∀ yl0 ∈ l0, Ok57 yl0) → ∃ k, laws_FnExactPlanSum.f k l0 = some true := by
  intro a ha
  apply Ev.ex
  simp only [laws_FnExactPlanSum.f]
  obtain ⟨q, he, g1, g2, g3⟩ := ev_laws_szNodeS a 1048576 (by omega) (by omega) ha.1 (fun x hx => ⟨(ha.2 x hx).2.1, (ha.2 x hx).2.2.2.2.2.2.1⟩)
  refine Ev.bind he ?_
  by_cases hq : q < 0
  · simp only [if_pos hq]; exact Ev.now _
  simp only [if_neg hq]
  have hS := g3 (by omega)
  have hS1 := hS.1
  have hto := ev_laws_toNodeS a hS
  have hb : ∀ x ∈ a.map cvNode, x.f1.size ≤ 1048576 ∧ x.f6.length ≤ 1048576 := by
    intro x hx
    obtain ⟨y, hy, rfl⟩ := List.mem_map.1 hx
    exact hS.2 y hy
  have hb6 : ∀ x ∈ a.map cvNode, x.f6.length ≤ 1099511627776 := fun x hx => by have := (hb x hx).2; omega
  have hlen : (a.map cvNode).length = a.length := List.length_map _
  generalize a.map cvNode = s at *
  refine Ev.bind hto ?_
  refine Ev.bind (ev_spec_PlanSum s (by omega) hb) ?_
  refine Ev.bind hto ?_
  refine Ev.bind (ev_impl_PlanSum s (by omega) hb) ?_
  simp only [bne_self_eq_false, if_neg Bool.false_ne_true]
  refine Ev.bind hto ?_
  refine Ev.bind (ev_laws_eqNodeS s (by omega) hb6) ?_
  exact Ev.const (by simp)

end EFnExactPlanSum
open Go.RowKit Go.Proofs.YtgmhohafoclmpaaW.PrintWords Go.Proofs.YtgmhohafoclmpaaW.PrintLast Go.Proofs.YtgmhohafoclmpaaW.PrintMore Go.Proofs.Ytgmhohafoclmpaa.Lib Go.Proofs.Ytgmhohafoclmpaa.Q
theorem FnExactPlanSum : ∀ (l0 : List (S57)), (l0.length ≤ 9223372036854775807 ∧ ∀ yl0 ∈ l0, Ok57 yl0) → ∃ k, laws_FnExactPlanSum.f k l0 = some true := EFnExactPlanSum.holds
end Go.Proofs.Ytgmhohafoclmpaa.Pure
