/- Of every two lists of nodes: the program's SamePlan gives what the reference's SamePlan gives, and its arguments stay as they were. -/
import Derived.Test.YtmjfnkebpdmhbaaQx4
import Derived.Test.YtmjfnkebpdmhbaaShapes
import Derived.Test.YtmjfnkebpdmhbaaLib
set_option linter.unusedVariables false
set_option linter.unusedSimpArgs false
namespace Go.Proofs.Ytmjfnkebpdmhbaa.Pure
namespace EFnExactSamePlan
open Go.RowKit Go.Proofs.YtmjfnkebpdmhbaaW.PrintWords Go.Proofs.YtmjfnkebpdmhbaaW.PrintLast Go.Proofs.YtmjfnkebpdmhbaaW.PrintMore Go.Proofs.Ytmjfnkebpdmhbaa.Lib Go.Proofs.Ytmjfnkebpdmhbaa.Q

theorem ev_slices_Equal_int_int_l0 (a b : List Int) (hl : a.length = b.length) (ha : a.length ≤ 1099511627776) : ∀ (d i : Nat), i + d = a.length → Ev (fun k => slices_Equal_int_int.l0 k a b (a.length : Int) i) (decide (a.drop i = b.drop i)) := by
  intro d
  induction d with
  | zero =>
    intro i h
    apply Ev.step
    · intro k; rw [slices_Equal_int_int.l0]
    simp only [if_neg (show ¬ ((i : Int) < a.length) by omega), drop_nil' (show a.length ≤ i by omega), drop_nil' (show b.length ≤ i by omega)]
    exact Ev.const (by simp)
  | succ d ih =>
    intro i h
    have ih' := ih (i + 1) (by omega)
    apply Ev.step
    · intro k; rw [slices_Equal_int_int.l0]
    simp only [if_pos (show (i : Int) < a.length by omega), if_pos (show (i : Int) < b.length by omega), if_pos (show (0 : Int) ≤ i by omega), w64 (x := (i : Int) + 1) (by omega), eq_drop (show i < a.length by omega) (show i < b.length by omega)]
    by_cases he : rd a i = rd b i
    · simp only [if_pos he]
      simpa [he] using ih'
    · simp only [if_neg he]
      exact Ev.const (by simp [he])
theorem ev_slices_Equal_int_int (a b : List Int) (ha : a.length ≤ 1099511627776) : Ev (fun k => slices_Equal_int_int.f k a b) (decide (a = b)) := by
  simp only [slices_Equal_int_int.f]
  by_cases hl : a.length = b.length
  · simp only [if_pos (show (a.length : Int) = b.length by omega)]
    simpa using ev_slices_Equal_int_int_l0 a b hl ha a.length 0 (by omega)
  · simp only [if_neg (show ¬ (a.length : Int) = b.length by omega)]
    exact Ev.const (congrArg some (decide_eq_false (fun h => hl (by rw [h]))).symm)

theorem ev_impl_sameNode (a0 : Int) (a1 : ByteArray) (a2 a3 a4 : Int) (a5 : Bool) (a6 : List Int) (b0 : Int) (b1 : ByteArray) (b2 b3 b4 : Int) (b5 : Bool) (b6 : List Int) (h : a6.length ≤ 1099511627776) :
    Ev (fun k => impl_sameNode.f k a0 a1 a2 a3 a4 a5 a6 b0 b1 b2 b3 b4 b5 b6) (decide (a0 = b0 ∧ a1.toList = b1.toList ∧ a2 = b2 ∧ a3 = b3 ∧ a4 = b4 ∧ a5 = b5 ∧ a6 = b6)) := by
  simp only [impl_sameNode.f]
  refine Ev_ite (fun h0 => ?_) (fun h0 => Ev.const (by simp [h0]))
  refine Ev_ite (fun h1 => ?_) (fun h1 => Ev.const (by simp [h1]))
  refine Ev_ite (fun h2 => ?_) (fun h2 => Ev.const (by simp [h2]))
  refine Ev_ite (fun h3 => ?_) (fun h3 => Ev.const (by simp [h3]))
  refine Ev_ite (fun h4 => ?_) (fun h4 => Ev.const (by simp [h4]))
  refine Ev_ite (fun h5 => ?_) (fun h5 => Ev.const (by have : ¬ a5 = b5 := by simpa using h5
                                                       simp [this]))
  have h5' : a5 = b5 := by simpa using h5
  refine Ev.bind (ev_slices_Equal_int_int a6 b6 h) ?_
  exact Ev.const (by simp [h0, h1, h2, h3, h4, h5'])

theorem S33_ext (x y : S33) : x = y ↔ (x.f0 = y.f0 ∧ x.f1.toList = y.f1.toList ∧ x.f2 = y.f2 ∧ x.f3 = y.f3 ∧ x.f4 = y.f4 ∧ x.f5 = y.f5 ∧ x.f6 = y.f6) := by
  constructor
  · rintro rfl; exact ⟨rfl, rfl, rfl, rfl, rfl, rfl, rfl⟩
  · obtain ⟨a0, a1, a2, a3, a4, a5, a6⟩ := x
    obtain ⟨b0, b1, b2, b3, b4, b5, b6⟩ := y
    rintro ⟨h0, h1, h2, h3, h4, h5, h6⟩
    simp only at h0 h1 h2 h3 h4 h5 h6
    have : a1 = b1 := by
      rw [Lib.toList_data, Lib.toList_data] at h1
      exact ByteArray.ext (Array.toList_inj.1 h1)
    subst h0 this h2 h3 h4 h5 h6
    rfl

theorem ev_slices_EqualFunc_impl_Node_impl_Node_impl_Node_impl_Node_l0 (a b : List S33) (hl : a.length = b.length) (ha : a.length ≤ 1099511627776) (hs : ∀ x ∈ a, x.f6.length ≤ 1099511627776) : ∀ (d i : Nat), i + d = a.length → ∃ q, Ev (fun k => slices_EqualFunc_impl_Node_impl_Node_impl_Node_impl_Node.l0 k b a (a.length : Int) i) q ∧ (q = true ↔ a.drop i = b.drop i) := by
  intro d
  induction d with
  | zero =>
    intro i h
    refine ⟨true, ?_, by rw [drop_nil' (show a.length ≤ i by omega), drop_nil' (show b.length ≤ i by omega)]; simp⟩
    apply Ev.step
    · intro k; rw [slices_EqualFunc_impl_Node_impl_Node_impl_Node_impl_Node.l0]
    simp only [if_neg (show ¬ ((i : Int) < a.length) by omega)]
    exact Ev.now _
  | succ d ih =>
    intro i h
    obtain ⟨q, hq, hq2⟩ := ih (i + 1) (by omega)
    have hm := hs _ (getD_mem (z := z33) (show i < a.length by omega))
    have e1 : rd_T33 a (i : Int) = a.getD i z33 := by simp [rd_T33]
    have e2 : rd_T33 b (i : Int) = b.getD i z33 := by simp [rd_T33]
    rw [drop_getD a z33 i (by omega), drop_getD b z33 i (by omega)]
    generalize a.getD i z33 = u at hm e1 ⊢
    generalize b.getD i z33 = v at e2 ⊢
    by_cases he : u = v
    · refine ⟨q, ?_, by rw [List.cons.injEq, hq2]; simp [he]⟩
      apply Ev.step
      · intro k; rw [slices_EqualFunc_impl_Node_impl_Node_impl_Node_impl_Node.l0]
      simp only [if_pos (show (i : Int) < a.length by omega), if_pos (show (i : Int) < b.length by omega), if_pos (show (0 : Int) ≤ i by omega), w64 (x := (i : Int) + 1) (by omega), e1, e2]
      refine Ev.bind (ev_impl_sameNode _ _ _ _ _ _ _ _ _ _ _ _ _ _ hm) ?_
      simp only [decide_eq_true ((S33_ext u v).1 he), if_true]
      simpa using hq
    · refine ⟨false, ?_, by rw [List.cons.injEq]; simp [he]⟩
      apply Ev.step
      · intro k; rw [slices_EqualFunc_impl_Node_impl_Node_impl_Node_impl_Node.l0]
      simp only [if_pos (show (i : Int) < a.length by omega), if_pos (show (i : Int) < b.length by omega), if_pos (show (0 : Int) ≤ i by omega), w64 (x := (i : Int) + 1) (by omega), e1, e2]
      refine Ev.bind (ev_impl_sameNode _ _ _ _ _ _ _ _ _ _ _ _ _ _ hm) ?_
      simp only [decide_eq_false (fun h => he ((S33_ext u v).2 h)), if_neg Bool.false_ne_true]
      exact Ev.now _
theorem ev_slices_EqualFunc_impl_Node_impl_Node_impl_Node_impl_Node (a b : List S33) (ha : a.length ≤ 1099511627776) (hs : ∀ x ∈ a, x.f6.length ≤ 1099511627776) : ∃ q, Ev (fun k => slices_EqualFunc_impl_Node_impl_Node_impl_Node_impl_Node.f k a b) q ∧ (q = true ↔ a = b) := by
  by_cases hl : a.length = b.length
  · obtain ⟨q, h1, h2⟩ := ev_slices_EqualFunc_impl_Node_impl_Node_impl_Node_impl_Node_l0 a b hl ha hs a.length 0 (by omega)
    refine ⟨q, ?_, by simpa using h2⟩
    simp only [slices_EqualFunc_impl_Node_impl_Node_impl_Node_impl_Node.f, if_pos (show (a.length : Int) = b.length by omega)]
    simpa using h1
  · refine ⟨false, ?_, by simp; intro h; exact hl (by rw [h])⟩
    simp only [slices_EqualFunc_impl_Node_impl_Node_impl_Node_impl_Node.f, if_neg (show ¬ (a.length : Int) = b.length by omega)]
    exact Ev.now _

theorem ev_impl_SamePlan (a b : List S33) (ha : a.length ≤ 1099511627776) (hs : ∀ x ∈ a, x.f6.length ≤ 1099511627776) : ∃ q, Ev (fun k => impl_SamePlan.f k a b) q ∧ (q = true ↔ a = b) := by
  obtain ⟨q, h, g⟩ := ev_slices_EqualFunc_impl_Node_impl_Node_impl_Node_impl_Node a b ha hs
  refine ⟨q, ?_, g⟩
  simp only [impl_SamePlan.f]
  refine Ev.bind h ?_
  exact Ev.now _

theorem ev_eqIntS_l0 (x0 : List Int) (hl : x0.length ≤ 1099511627776) : ∀ (d : Nat) (i : Nat), i + d = x0.length → Ev (fun k => laws_eqIntS.l0 k x0 x0 i) true := by
  intro d
  induction d with
  | zero =>
    intro i h2
    apply Ev.step
    · intro k; rw [laws_eqIntS.l0]
    simp only [if_neg (show ¬ ((i : Int) < x0.length) by omega)]
    exact Ev.now _
  | succ d ih =>
    intro i h2
    apply Ev.step
    · intro k; rw [laws_eqIntS.l0]
    simp only [if_pos (show (i : Int) < x0.length by omega), if_pos (show (0 : Int) ≤ i by omega), if_true, w64 (x := (i : Int) + 1) (by omega)]
    have := ih (i + 1) (by omega)
    simpa using this
theorem ev_eqIntS (l : List Int) (h : l.length ≤ 1099511627776) : Ev (fun k => laws_eqIntS.f k l l) true := by
  simp only [laws_eqIntS.f, if_true]
  exact ev_eqIntS_l0 l h l.length 0 (by omega)

theorem ev_eqNode (x : S33) (h : x.f6.length ≤ 1099511627776) : Ev (fun k => laws_eqNode.f k x.f0 x.f1 x.f2 x.f3 x.f4 x.f5 x.f6 x.f0 x.f1 x.f2 x.f3 x.f4 x.f5 x.f6) true := by
  simp only [laws_eqNode.f, if_true, bne_self_eq_false, if_neg Bool.false_ne_true]
  refine Ev.bind (ev_eqIntS _ h) ?_
  simp only [if_true]
  exact Ev.now _

theorem ev_laws_eqNodeS_l0 (x0 : List (S33)) (hl : x0.length ≤ 1099511627776) (hs : ∀ x ∈ x0, x.f6.length ≤ 1099511627776) : ∀ (d : Nat) (i : Nat), i + d = x0.length → Ev (fun k => laws_eqNodeS.l0 k x0 x0 i) true := by
  intro d
  induction d with
  | zero =>
    intro i h2
    apply Ev.step
    · intro k; rw [laws_eqNodeS.l0]
    simp only [if_neg (show ¬ ((i : Int) < x0.length) by omega)]
    exact Ev.now _
  | succ d ih =>
    intro i h2
    have hg : x0[i]? = some (rd_T33 x0 (i : Int)) := by simp [rd_T33, show i < x0.length by omega]
    have hm := hs _ (List.mem_of_getElem? hg)
    apply Ev.step
    · intro k; rw [laws_eqNodeS.l0]
    simp only [if_pos (show (i : Int) < x0.length by omega), if_pos (show (0 : Int) ≤ i by omega)]
    refine Ev.bind (ev_eqNode _ hm) ?_
    simp only [if_true, w64 (x := (i : Int) + 1) (by omega)]
    have := ih (i + 1) (by omega)
    simpa using this
theorem ev_laws_eqNodeS (l : List (S33)) (h : l.length ≤ 1099511627776) (hs : ∀ x ∈ l, x.f6.length ≤ 1099511627776) : Ev (fun k => laws_eqNodeS.f k l l) true := by
  simp only [laws_eqNodeS.f, if_true]
  exact ev_laws_eqNodeS_l0 l h hs l.length 0 (by omega)

theorem szIntS_eq (l : List Int) (a : Int) (h0 : 0 ≤ a) (h1 : a ≤ 1048576) (hl : l.length ≤ 9223372036854775807) : ∃ r, laws_szIntS.f l a = some r ∧ -1 ≤ r ∧ r ≤ a ∧ (0 ≤ r → l.length ≤ 1048576) := by
  by_cases hn : a - (l.length : Int) < 0
  · exact ⟨-1, by simp only [laws_szIntS.f, w64 (x := a - (l.length : Int)) (by omega), if_pos hn], by omega, by omega, fun h => by omega⟩
  · exact ⟨a - l.length, by simp only [laws_szIntS.f, w64 (x := a - (l.length : Int)) (by omega), if_neg hn], by omega, by omega, fun h => by omega⟩
theorem ev_szIntS (l : List Int) (a : Int) (h0 : 0 ≤ a) (h1 : a ≤ 1048576) (hl : l.length ≤ 9223372036854775807) : ∃ r, Ev (fun _ => laws_szIntS.f l a) r ∧ -1 ≤ r ∧ r ≤ a ∧ (0 ≤ r → l.length ≤ 1048576) := by
  obtain ⟨r, h, g⟩ := szIntS_eq l a h0 h1 hl
  exact ⟨r, Ev.const h, g⟩

theorem szNode_eq (x : S30) (a : Int) (h0 : 0 ≤ a) (h1 : a ≤ 1048576) (hl : x.f1.size ≤ 9223372036854775807) (hc : x.f6.length ≤ 9223372036854775807) : ∃ r, laws_szNode.f x.f0 x.f1 x.f2 x.f3 x.f4 x.f5 x.f6 a = some r ∧ -1 ≤ r ∧ r ≤ a ∧ (0 ≤ r → x.f1.size ≤ 1048576 ∧ x.f6.length ≤ 1048576) := by
  by_cases hn : a - (x.f1.size : Int) < 0
  · exact ⟨-1, by simp only [laws_szNode.f, w64 (x := a - (x.f1.size : Int)) (by omega), if_pos hn], by omega, by omega, fun h => by omega⟩
  · obtain ⟨r, e, g1, g2, g3⟩ := szIntS_eq x.f6 (a - x.f1.size) (by omega) (by omega) hc
    by_cases hr : r < 0
    · exact ⟨-1, by simp only [laws_szNode.f, w64 (x := a - (x.f1.size : Int)) (by omega), if_neg hn, e, Option.bind_some, if_pos hr], by omega, by omega, fun h => by omega⟩
    · exact ⟨r, by simp only [laws_szNode.f, w64 (x := a - (x.f1.size : Int)) (by omega), if_neg hn, e, Option.bind_some, if_neg hr], by omega, by omega, fun h => ⟨by omega, g3 h⟩⟩
theorem ev_szNode (x : S30) (a : Int) (h0 : 0 ≤ a) (h1 : a ≤ 1048576) (hm : x.f1.size ≤ 9223372036854775807 ∧ x.f6.length ≤ 9223372036854775807) : ∃ r, Ev (fun _ => laws_szNode.f x.f0 x.f1 x.f2 x.f3 x.f4 x.f5 x.f6 a) r ∧ -1 ≤ r ∧ r ≤ a ∧ (0 ≤ r → x.f1.size ≤ 1048576 ∧ x.f6.length ≤ 1048576) := by
  obtain ⟨r, h, g⟩ := szNode_eq x a h0 h1 hm.1 hm.2
  exact ⟨r, Ev.const h, g⟩

def SmallNodeS (l : List S30) : Prop := l.length ≤ 1048576 ∧ ∀ x ∈ l, x.f1.size ≤ 1048576 ∧ x.f6.length ≤ 1048576
def cvNode (x : S30) : S33 := ⟨x.f0, x.f1, x.f2, x.f3, x.f4, x.f5, x.f6⟩

theorem ev_laws_szNodeS_l0 (x0 : List (S30)) (hl : x0.length ≤ 9223372036854775806) (hs : ∀ x ∈ x0, x.f1.size ≤ 9223372036854775807 ∧ x.f6.length ≤ 9223372036854775807) : ∀ (d : Nat) (a : Int) (i : Nat), i + d = x0.length → 0 ≤ a → a ≤ 1048576 → ∃ r, Ev (fun k => laws_szNodeS.l0 k x0 a i) r ∧ -1 ≤ r ∧ r ≤ a ∧ (0 ≤ r → ∀ x ∈ x0.drop i, x.f1.size ≤ 1048576 ∧ x.f6.length ≤ 1048576) := by
  intro d
  induction d with
  | zero =>
    intro a i h2 h0 h1
    refine ⟨a, ?_, by omega, by omega, fun _ x hx => ?_⟩
    · apply Ev.step
      · intro k; rw [laws_szNodeS.l0]
      simp only [if_neg (show ¬ ((i : Int) < x0.length) by omega)]
      exact Ev.now _
    · rw [List.drop_eq_nil_of_le (by omega)] at hx; cases hx
  | succ d ih =>
    intro a i h2 h0 h1
    have hg : x0[i]? = some (rd_T30 x0 (i : Int)) := by simp [rd_T30, show i < x0.length by omega]
    have hm := hs _ (List.mem_of_getElem? hg)
    obtain ⟨r1, e1, g1, g2, g3⟩ := ev_szNode (rd_T30 x0 (i : Int)) a h0 h1 hm
    have hd : x0.drop i = rd_T30 x0 (i : Int) :: x0.drop (i + 1) := by
      rw [List.drop_eq_getElem_cons (show i < x0.length by omega)]
      congr 1
      rw [List.getElem?_eq_getElem (show i < x0.length by omega)] at hg
      injection hg
    by_cases hr : r1 < 0
    · refine ⟨-1, ?_, by omega, by omega, fun h => by omega⟩
      apply Ev.step
      · intro k; rw [laws_szNodeS.l0]
      simp only [if_pos (show (i : Int) < x0.length by omega), if_pos (show (0 : Int) ≤ i by omega)]
      refine Ev.bind e1 ?_
      simp only [if_pos hr]
      exact Ev.now _
    · obtain ⟨r2, e2, g4, g5, g6⟩ := ih r1 (i + 1) (by omega) (by omega) (by omega)
      refine ⟨r2, ?_, by omega, by omega, fun h x hx => ?_⟩
      · apply Ev.step
        · intro k; rw [laws_szNodeS.l0]
        simp only [if_pos (show (i : Int) < x0.length by omega), if_pos (show (0 : Int) ≤ i by omega)]
        refine Ev.bind e1 ?_
        simp only [if_neg hr, w64 (x := (i : Int) + 1) (by omega)]
        simpa using e2
      · rw [hd] at hx
        rcases List.mem_cons.1 hx with rfl | hx
        · exact g3 (by omega)
        · exact g6 h x hx
theorem ev_laws_szNodeS (l : List (S30)) (a : Int) (h0 : 0 ≤ a) (h1 : a ≤ 1048576) (hl : l.length ≤ 9223372036854775807) (hs : ∀ x ∈ l, x.f1.size ≤ 9223372036854775807 ∧ x.f6.length ≤ 9223372036854775807) : ∃ r, Ev (fun k => laws_szNodeS.f k l a) r ∧ -1 ≤ r ∧ r ≤ a ∧ (0 ≤ r → SmallNodeS l) := by
  by_cases hn : a - (l.length : Int) < 0
  · refine ⟨-1, ?_, by omega, by omega, fun h => by omega⟩
    simp only [laws_szNodeS.f, w64 (x := a - (l.length : Int)) (by omega), if_pos hn]
    exact Ev.now _
  · obtain ⟨r, e, g1, g2, g3⟩ := ev_laws_szNodeS_l0 l (by omega) hs l.length (a - l.length) 0 (by omega) (by omega) (by omega)
    refine ⟨r, ?_, by omega, by omega, fun h => ⟨by omega, by simpa using g3 h⟩⟩
    simp only [laws_szNodeS.f, w64 (x := a - (l.length : Int)) (by omega), if_neg hn]
    exact e

theorem ev_toIntS_l0 (x0 : List Int) (hl : x0.length ≤ 1048576) : ∀ (d : Nat) (x3 : List Int) (i : Nat), x3.length = x0.length → i + d = x0.length → x3.take i = x0.take i → Ev (fun k => laws_toIntS.l0 k x0 x3 i) x0 := by
  intro d
  induction d with
  | zero =>
    intro x3 i h1 h2 h3
    apply Ev.step
    · intro k; rw [laws_toIntS.l0]
    simp only [if_neg (show ¬ ((i : Int) < x0.length) by omega)]
    rw [take_eq_all h1 (by omega) h3]
    exact Ev.now _
  | succ d ih =>
    intro x3 i h1 h2 h3
    apply Ev.step
    · intro k; rw [laws_toIntS.l0]
    simp only [if_pos (show (i : Int) < x0.length by omega), if_pos (show (0 : Int) ≤ i by omega), if_pos (show (i : Int) < x3.length by omega), w64 (x := (i : Int) + 1) (by omega)]
    have := ih (x3.set i (rd x0 i)) (i + 1) (by simp [h1]) (by omega) (take_set_at _ _ _ _ h1 (by omega) (rd_get _ _ (by omega)) h3)
    simpa using this
theorem ev_toIntS (l : List Int) (h : l.length ≤ 1048576) : Ev (fun k => laws_toIntS.f k l) l := by
  simp only [laws_toIntS.f, if_pos (show (0 : Int) ≤ l.length by omega), if_pos (show (l.length : Int).toNat ≤ 35184372088832 by omega)]
  exact ev_toIntS_l0 l h l.length _ 0 (by simp) (by omega) (by simp)

theorem ev_toNode (x : S30) (h : x.f6.length ≤ 1048576) : Ev (fun k => laws_toNode.f k x.f0 x.f1 x.f2 x.f3 x.f4 x.f5 x.f6) (x.f0, x.f1, x.f2, x.f3, x.f4, x.f5, x.f6) := by
  simp only [laws_toNode.f]
  refine Ev.bind (ev_toIntS _ h) ?_
  exact Ev.now _

theorem ev_laws_toNodeS_l0 (x0 : List (S30)) (hl : x0.length ≤ 1048576) (hs : ∀ x ∈ x0, x.f1.size ≤ 1048576 ∧ x.f6.length ≤ 1048576) : ∀ (d : Nat) (x3 : List (S33)) (i : Nat), x3.length = x0.length → i + d = x0.length → x3.take i = (x0.map cvNode).take i → Ev (fun k => laws_toNodeS.l0 k x0 x3 i) (x0.map cvNode) := by
  intro d
  induction d with
  | zero =>
    intro x3 i h1 h2 h3
    apply Ev.step
    · intro k; rw [laws_toNodeS.l0]
    simp only [if_neg (show ¬ ((i : Int) < x0.length) by omega)]
    rw [take_eq_all (xs := x0.map cvNode) (by simpa using h1) (by simp; omega) h3]
    exact Ev.now _
  | succ d ih =>
    intro x3 i h1 h2 h3
    have hg : x0[i]? = some (rd_T30 x0 (i : Int)) := by simp [rd_T30, show i < x0.length by omega]
    have hm := hs _ (List.mem_of_getElem? hg)
    apply Ev.step
    · intro k; rw [laws_toNodeS.l0]
    simp only [if_pos (show (i : Int) < x0.length by omega), if_pos (show (0 : Int) ≤ i by omega)]
    refine Ev.bind (ev_toNode _ hm.2) ?_
    simp only [if_pos (show (i : Int) < x3.length by omega), w64 (x := (i : Int) + 1) (by omega)]
    have := ih (x3.set i (cvNode (rd_T30 x0 (i : Int)))) (i + 1) (by simp [h1]) (by omega) (take_set_at (x0.map cvNode) _ _ _ (by simpa using h1) (by simp; omega) (by rw [List.getElem?_map, hg]; rfl) h3)
    first | (simpa using this) | (simpa [cvNode] using this)
theorem ev_laws_toNodeS (l : List (S30)) (h : SmallNodeS l) : Ev (fun k => laws_toNodeS.f k l) (l.map cvNode) := by
  have h1 := h.1
  simp only [laws_toNodeS.f, if_pos (show (0 : Int) ≤ l.length by omega), if_pos (show (l.length : Int).toNat ≤ 3518437208883 by omega)]
  exact ev_laws_toNodeS_l0 l h.1 h.2 l.length _ 0 (by simp) (by omega) (by simp)

theorem ev_spec_l02SameInts_l0 (a b : List Int) (hl : a.length = b.length) (ha : a.length ≤ 1099511627776) : ∀ (d i : Nat), i + d = a.length → Ev (fun k => spec_l02SameInts.l0 k a b i) (decide (a.drop i = b.drop i)) := by
  intro d
  induction d with
  | zero =>
    intro i h
    apply Ev.step
    · intro k; rw [spec_l02SameInts.l0]
    simp only [if_neg (show ¬ ((i : Int) < a.length) by omega), drop_nil' (show a.length ≤ i by omega), drop_nil' (show b.length ≤ i by omega)]
    exact Ev.const (by simp)
  | succ d ih =>
    intro i h
    have ih' := ih (i + 1) (by omega)
    apply Ev.step
    · intro k; rw [spec_l02SameInts.l0]
    simp only [if_pos (show (i : Int) < a.length by omega), if_pos (show (i : Int) < b.length by omega), if_pos (show (0 : Int) ≤ i by omega), w64 (x := (i : Int) + 1) (by omega), eq_drop (show i < a.length by omega) (show i < b.length by omega)]
    by_cases he : rd a i = rd b i
    · simp only [if_pos he]
      simpa [he] using ih'
    · simp only [if_neg he]
      exact Ev.const (by simp [he])
theorem ev_spec_l02SameInts (a b : List Int) (ha : a.length ≤ 1099511627776) : Ev (fun k => spec_l02SameInts.f k a b) (decide (a = b)) := by
  simp only [spec_l02SameInts.f]
  by_cases hl : a.length = b.length
  · simp only [if_pos (show (a.length : Int) = b.length by omega)]
    simpa using ev_spec_l02SameInts_l0 a b hl ha a.length 0 (by omega)
  · simp only [if_neg (show ¬ (a.length : Int) = b.length by omega)]
    exact Ev.const (congrArg some (decide_eq_false (fun h => hl (by rw [h]))).symm)

theorem ev_spec_l02SameNode (a0 : Int) (a1 : ByteArray) (a2 a3 a4 : Int) (a5 : Bool) (a6 : List Int) (b0 : Int) (b1 : ByteArray) (b2 b3 b4 : Int) (b5 : Bool) (b6 : List Int) (h : a6.length ≤ 1099511627776) :
    Ev (fun k => spec_l02SameNode.f k a0 a1 a2 a3 a4 a5 a6 b0 b1 b2 b3 b4 b5 b6) (decide (a0 = b0 ∧ a1.toList = b1.toList ∧ a2 = b2 ∧ a3 = b3 ∧ a4 = b4 ∧ a5 = b5 ∧ a6 = b6)) := by
  simp only [spec_l02SameNode.f]
  refine Ev_ite (fun h0 => ?_) (fun h0 => Ev.const (by simp [h0]))
  refine Ev_ite (fun h1 => ?_) (fun h1 => Ev.const (by simp [h1]))
  refine Ev_ite (fun h2 => ?_) (fun h2 => Ev.const (by simp [h2]))
  refine Ev_ite (fun h3 => ?_) (fun h3 => Ev.const (by simp [h3]))
  refine Ev_ite (fun h4 => ?_) (fun h4 => Ev.const (by simp [h4]))
  refine Ev_ite (fun h5 => ?_) (fun h5 => Ev.const (by have : ¬ a5 = b5 := by simpa using h5
                                                       simp [this]))
  have h5' : a5 = b5 := by simpa using h5
  refine Ev.bind (ev_spec_l02SameInts a6 b6 h) ?_
  exact Ev.const (by simp [h0, h1, h2, h3, h4, h5'])

theorem ev_spec_SamePlan_l0 (a b : List S33) (hl : a.length = b.length) (ha : a.length ≤ 1099511627776) (hs : ∀ x ∈ a, x.f6.length ≤ 1099511627776) : ∀ (d i : Nat), i + d = a.length → ∃ q, Ev (fun k => spec_SamePlan.l0 k a b i) q ∧ (q = true ↔ a.drop i = b.drop i) := by
  intro d
  induction d with
  | zero =>
    intro i h
    refine ⟨true, ?_, by rw [drop_nil' (show a.length ≤ i by omega), drop_nil' (show b.length ≤ i by omega)]; simp⟩
    apply Ev.step
    · intro k; rw [spec_SamePlan.l0]
    simp only [if_neg (show ¬ ((i : Int) < a.length) by omega)]
    exact Ev.now _
  | succ d ih =>
    intro i h
    obtain ⟨q, hq, hq2⟩ := ih (i + 1) (by omega)
    have hm := hs _ (getD_mem (z := z33) (show i < a.length by omega))
    have e1 : rd_T33 a (i : Int) = a.getD i z33 := by simp [rd_T33]
    have e2 : rd_T33 b (i : Int) = b.getD i z33 := by simp [rd_T33]
    rw [drop_getD a z33 i (by omega), drop_getD b z33 i (by omega)]
    generalize a.getD i z33 = u at hm e1 ⊢
    generalize b.getD i z33 = v at e2 ⊢
    by_cases he : u = v
    · refine ⟨q, ?_, by rw [List.cons.injEq, hq2]; simp [he]⟩
      apply Ev.step
      · intro k; rw [spec_SamePlan.l0]
      simp only [if_pos (show (i : Int) < a.length by omega), if_pos (show (i : Int) < b.length by omega), if_pos (show (0 : Int) ≤ i by omega), w64 (x := (i : Int) + 1) (by omega), e1, e2]
      refine Ev.bind (ev_spec_l02SameNode _ _ _ _ _ _ _ _ _ _ _ _ _ _ hm) ?_
      simp only [decide_eq_true ((S33_ext u v).1 he), if_true]
      simpa using hq
    · refine ⟨false, ?_, by rw [List.cons.injEq]; simp [he]⟩
      apply Ev.step
      · intro k; rw [spec_SamePlan.l0]
      simp only [if_pos (show (i : Int) < a.length by omega), if_pos (show (i : Int) < b.length by omega), if_pos (show (0 : Int) ≤ i by omega), w64 (x := (i : Int) + 1) (by omega), e1, e2]
      refine Ev.bind (ev_spec_l02SameNode _ _ _ _ _ _ _ _ _ _ _ _ _ _ hm) ?_
      simp only [decide_eq_false (fun h => he ((S33_ext u v).2 h)), if_neg Bool.false_ne_true]
      exact Ev.now _
theorem ev_spec_SamePlan (a b : List S33) (ha : a.length ≤ 1099511627776) (hs : ∀ x ∈ a, x.f6.length ≤ 1099511627776) : ∃ q, Ev (fun k => spec_SamePlan.f k a b) q ∧ (q = true ↔ a = b) := by
  by_cases hl : a.length = b.length
  · obtain ⟨q, h1, h2⟩ := ev_spec_SamePlan_l0 a b hl ha hs a.length 0 (by omega)
    refine ⟨q, ?_, by simpa using h2⟩
    simp only [spec_SamePlan.f, if_pos (show (a.length : Int) = b.length by omega)]
    simpa using h1
  · refine ⟨false, ?_, by simp; intro h; exact hl (by rw [h])⟩
    simp only [spec_SamePlan.f, if_neg (show ¬ (a.length : Int) = b.length by omega)]
    exact Ev.now _

theorem holds : ∀ (l0 : List (S30)) (l1 : List (S30)), (l0.length ≤ 9223372036854775807 ∧ ∀ yl0 ∈ l0, Ok30 yl0) → (l1.length ≤ 9223372036854775807 ∧ ∀ yl1 ∈ l1, Ok30 yl1) → ∃ k, laws_FnExactSamePlan.f k l0 l1 = some true := by
  intro a b ha hB
  apply Ev.ex
  simp only [laws_FnExactSamePlan.f]
  obtain ⟨q, he, g1, g2, g3⟩ := ev_laws_szNodeS a 1048576 (by omega) (by omega) ha.1 (fun x hx => ⟨(ha.2 x hx).2.1, (ha.2 x hx).2.2.2.2.2.2.1⟩)
  refine Ev.bind he ?_
  by_cases hq : q < 0
  · simp only [if_pos hq]; exact Ev.now _
  simp only [if_neg hq]
  have hS := g3 (by omega)
  have hS1 := hS.1
  have hto := ev_laws_toNodeS a hS
  have hb : ∀ x ∈ a.map cvNode, x.f1.size ≤ 1048576 ∧ x.f6.length ≤ 1048576 := by
    intro x hx
    obtain ⟨y, hy, rfl⟩ := List.mem_map.1 hx
    exact hS.2 y hy
  have hb6 : ∀ x ∈ a.map cvNode, x.f6.length ≤ 1099511627776 := fun x hx => by have := (hb x hx).2; omega
  have hlen : (a.map cvNode).length = a.length := List.length_map _
  obtain ⟨q2, he2, g12, g22, g32⟩ := ev_laws_szNodeS b q (by omega) (by omega) hB.1 (fun x hx => ⟨(hB.2 x hx).2.1, (hB.2 x hx).2.2.2.2.2.2.1⟩)
  refine Ev.bind he2 ?_
  by_cases hq2 : q2 < 0
  · simp only [if_pos hq2]; exact Ev.now _
  simp only [if_neg hq2]
  have hS2 := g32 (by omega)
  have hS12 := hS2.1
  have hto2 := ev_laws_toNodeS b hS2
  have hb2 : ∀ x ∈ b.map cvNode, x.f1.size ≤ 1048576 ∧ x.f6.length ≤ 1048576 := by
    intro x hx
    obtain ⟨y, hy, rfl⟩ := List.mem_map.1 hx
    exact hS2.2 y hy
  have hb62 : ∀ x ∈ b.map cvNode, x.f6.length ≤ 1099511627776 := fun x hx => by have := (hb2 x hx).2; omega
  have hlen2 : (b.map cvNode).length = b.length := List.length_map _
  generalize a.map cvNode = s at *
  generalize b.map cvNode = t at *
  obtain ⟨u, hu, gu⟩ := ev_spec_SamePlan s t (by omega) hb6
  obtain ⟨v, hv, gv⟩ := ev_impl_SamePlan s t (by omega) hb6
  have e : v = u := by
    rw [Bool.eq_iff_iff, gu, gv]
  subst e
  refine Ev.bind hto ?_
  refine Ev.bind hto2 ?_
  refine Ev.bind hu ?_
  refine Ev.bind hto ?_
  refine Ev.bind hto2 ?_
  refine Ev.bind hv ?_
  simp only [bne_self_eq_false, if_neg Bool.false_ne_true]
  refine Ev.bind hto ?_
  refine Ev.bind (ev_laws_eqNodeS s (by omega) hb6) ?_
  simp only [if_true]
  refine Ev.bind hto2 ?_
  refine Ev.bind (ev_laws_eqNodeS t (by omega) hb62) ?_
  exact Ev.const (by simp)

end EFnExactSamePlan
open Go.RowKit Go.Proofs.YtmjfnkebpdmhbaaW.PrintWords Go.Proofs.YtmjfnkebpdmhbaaW.PrintLast Go.Proofs.YtmjfnkebpdmhbaaW.PrintMore Go.Proofs.Ytmjfnkebpdmhbaa.Lib Go.Proofs.Ytmjfnkebpdmhbaa.Q
theorem FnExactSamePlan : ∀ (l0 : List (S30)) (l1 : List (S30)), (l0.length ≤ 9223372036854775807 ∧ ∀ yl0 ∈ l0, Ok30 yl0) → (l1.length ≤ 9223372036854775807 ∧ ∀ yl1 ∈ l1, Ok30 yl1) → ∃ k, laws_FnExactSamePlan.f k l0 l1 = some true := EFnExactSamePlan.holds
end Go.Proofs.Ytmjfnkebpdmhbaa.Pure
