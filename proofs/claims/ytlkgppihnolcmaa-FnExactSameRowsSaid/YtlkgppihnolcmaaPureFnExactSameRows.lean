/- Of every two lists of rows: the program's SameRows gives what the reference's SameRows gives, and its arguments stay as they were. -/
import Derived.Test.YtlkgppihnolcmaaQx4
import Derived.Test.YtlkgppihnolcmaaShapes
import Derived.Test.YtlkgppihnolcmaaLib
set_option linter.unusedVariables false
set_option linter.unusedSimpArgs false
namespace Go.Proofs.Ytlkgppihnolcmaa.Pure
namespace EFnExactSameRows
open Go.RowKit Go.Proofs.YtlkgppihnolcmaaW.PrintWords Go.Proofs.YtlkgppihnolcmaaW.PrintLast Go.Proofs.YtlkgppihnolcmaaW.PrintMore Go.Proofs.Ytlkgppihnolcmaa.Lib Go.Proofs.Ytlkgppihnolcmaa.Q

theorem ev_slices_Equal_int_int_l0 (a b : List Int) (hl : a.length = b.length) (ha : a.length ≤ 1099511627776) : ∀ (d i : Nat), i + d = a.length → Ev (fun k => slices_Equal_int_int.l0 k a b (a.length : Int) i) (decide (a.drop i = b.drop i)) := by
  intro d
  induction d with
  | zero =>
    intro i h
    apply Ev.step
    · intro k; rw [slices_Equal_int_int.l0]
    simp only [if_neg (show ¬ ((i : Int) < a.length) by omega), drop_nil' (show a.length ≤ i by omega), drop_nil' (show b.length ≤ i by omega)]
    exact Ev.const (by simp)
  | succ d ih =>
    intro i h
    have ih' := ih (i + 1) (by omega)
    apply Ev.step
    · intro k; rw [slices_Equal_int_int.l0]
    simp only [if_pos (show (i : Int) < a.length by omega), if_pos (show (i : Int) < b.length by omega), if_pos (show (0 : Int) ≤ i by omega), w64 (x := (i : Int) + 1) (by omega), eq_drop (show i < a.length by omega) (show i < b.length by omega)]
    by_cases he : rd a i = rd b i
    · simp only [if_pos he]
      simpa [he] using ih'
    · simp only [if_neg he]
      exact Ev.const (by simp [he])
theorem ev_slices_Equal_int_int (a b : List Int) (ha : a.length ≤ 1099511627776) : Ev (fun k => slices_Equal_int_int.f k a b) (decide (a = b)) := by
  simp only [slices_Equal_int_int.f]
  by_cases hl : a.length = b.length
  · simp only [if_pos (show (a.length : Int) = b.length by omega)]
    simpa using ev_slices_Equal_int_int_l0 a b hl ha a.length 0 (by omega)
  · simp only [if_neg (show ¬ (a.length : Int) = b.length by omega)]
    exact Ev.const (congrArg some (decide_eq_false (fun h => hl (by rw [h]))).symm)

theorem ev_slices_EqualFunc_int_int_int_int_l0 (a b : List (List Int)) (hl : a.length = b.length) (ha : a.length ≤ 1099511627776) (hs : ∀ x ∈ a, x.length ≤ 1099511627776) : ∀ (d i : Nat), i + d = a.length → Ev (fun k => slices_EqualFunc_int_int_int_int.l0 k b a (a.length : Int) i) (decide (a.drop i = b.drop i)) := by
  intro d
  induction d with
  | zero =>
    intro i h
    apply Ev.step
    · intro k; rw [slices_EqualFunc_int_int_int_int.l0]
    simp only [if_neg (show ¬ ((i : Int) < a.length) by omega), drop_nil' (show a.length ≤ i by omega), drop_nil' (show b.length ≤ i by omega)]
    exact Ev.const (by simp)
  | succ d ih =>
    intro i h
    have ih' := ih (i + 1) (by omega)
    have hm := hs _ (getD_mem (z := []) (show i < a.length by omega))
    rw [drop_getD a [] i (by omega), drop_getD b [] i (by omega)]
    apply Ev.step
    · intro k; rw [slices_EqualFunc_int_int_int_int.l0]
    simp only [if_pos (show (i : Int) < a.length by omega), if_pos (show (i : Int) < b.length by omega), if_pos (show (0 : Int) ≤ i by omega), w64 (x := (i : Int) + 1) (by omega), rd_L1, Int.toNat_natCast]
    refine Ev.bind (ev_slices_Equal_int_int (a.getD i []) (b.getD i []) hm) ?_
    generalize a.getD i [] = u at hm ⊢
    generalize b.getD i [] = v
    by_cases he : u = v
    · simp only [decide_eq_true he, if_true, List.cons.injEq]
      simpa [he] using ih'
    · simp only [decide_eq_false he, if_neg Bool.false_ne_true, List.cons.injEq]
      exact Ev.const (by simp [he])
theorem ev_slices_EqualFunc_int_int_int_int (a b : List (List Int)) (ha : a.length ≤ 1099511627776) (hs : ∀ x ∈ a, x.length ≤ 1099511627776) : Ev (fun k => slices_EqualFunc_int_int_int_int.f k a b) (decide (a = b)) := by
  simp only [slices_EqualFunc_int_int_int_int.f]
  by_cases hl : a.length = b.length
  · simp only [if_pos (show (a.length : Int) = b.length by omega)]
    simpa using ev_slices_EqualFunc_int_int_int_int_l0 a b hl ha hs a.length 0 (by omega)
  · simp only [if_neg (show ¬ (a.length : Int) = b.length by omega)]
    exact Ev.const (congrArg some (decide_eq_false (fun h => hl (by rw [h]))).symm)

theorem ev_impl_SameRows (a b : List (List Int)) (ha : a.length ≤ 1099511627776) (hs : ∀ x ∈ a, x.length ≤ 1099511627776) : Ev (fun k => impl_SameRows.f k a b) (decide (a = b)) := by
  simp only [impl_SameRows.f]
  refine Ev.bind (ev_slices_EqualFunc_int_int_int_int a b ha hs) ?_
  exact Ev.now _

theorem ev_eqIntS_l0 (x0 : List Int) (hl : x0.length ≤ 1099511627776) : ∀ (d : Nat) (i : Nat), i + d = x0.length → Ev (fun k => laws_eqIntS.l0 k x0 x0 i) true := by
  intro d
  induction d with
  | zero =>
    intro i h2
    apply Ev.step
    · intro k; rw [laws_eqIntS.l0]
    simp only [if_neg (show ¬ ((i : Int) < x0.length) by omega)]
    exact Ev.now _
  | succ d ih =>
    intro i h2
    apply Ev.step
    · intro k; rw [laws_eqIntS.l0]
    simp only [if_pos (show (i : Int) < x0.length by omega), if_pos (show (0 : Int) ≤ i by omega), if_true, w64 (x := (i : Int) + 1) (by omega)]
    have := ih (i + 1) (by omega)
    simpa using this
theorem ev_eqIntS (l : List Int) (h : l.length ≤ 1099511627776) : Ev (fun k => laws_eqIntS.f k l l) true := by
  simp only [laws_eqIntS.f, if_true]
  exact ev_eqIntS_l0 l h l.length 0 (by omega)

theorem ev_laws_eqIntSS_l0 (x0 : List (List Int)) (hl : x0.length ≤ 1099511627776) (hs : ∀ x ∈ x0, x.length ≤ 1099511627776) : ∀ (d : Nat) (i : Nat), i + d = x0.length → Ev (fun k => laws_eqIntSS.l0 k x0 x0 i) true := by
  intro d
  induction d with
  | zero =>
    intro i h2
    apply Ev.step
    · intro k; rw [laws_eqIntSS.l0]
    simp only [if_neg (show ¬ ((i : Int) < x0.length) by omega)]
    exact Ev.now _
  | succ d ih =>
    intro i h2
    have hg : x0[i]? = some (rd_L1 x0 (i : Int)) := by simp [rd_L1, show i < x0.length by omega]
    have hm := hs _ (List.mem_of_getElem? hg)
    apply Ev.step
    · intro k; rw [laws_eqIntSS.l0]
    simp only [if_pos (show (i : Int) < x0.length by omega), if_pos (show (0 : Int) ≤ i by omega)]
    refine Ev.bind (ev_eqIntS _ hm) ?_
    simp only [if_true, w64 (x := (i : Int) + 1) (by omega)]
    have := ih (i + 1) (by omega)
    simpa using this
theorem ev_laws_eqIntSS (l : List (List Int)) (h : l.length ≤ 1099511627776) (hs : ∀ x ∈ l, x.length ≤ 1099511627776) : Ev (fun k => laws_eqIntSS.f k l l) true := by
  simp only [laws_eqIntSS.f, if_true]
  exact ev_laws_eqIntSS_l0 l h hs l.length 0 (by omega)

theorem szIntS_eq (l : List Int) (a : Int) (h0 : 0 ≤ a) (h1 : a ≤ 1048576) (hl : l.length ≤ 9223372036854775807) : ∃ r, laws_szIntS.f l a = some r ∧ -1 ≤ r ∧ r ≤ a ∧ (0 ≤ r → l.length ≤ 1048576) := by
  by_cases hn : a - (l.length : Int) < 0
  · exact ⟨-1, by simp only [laws_szIntS.f, w64 (x := a - (l.length : Int)) (by omega), if_pos hn], by omega, by omega, fun h => by omega⟩
  · exact ⟨a - l.length, by simp only [laws_szIntS.f, w64 (x := a - (l.length : Int)) (by omega), if_neg hn], by omega, by omega, fun h => by omega⟩
theorem ev_szIntS (l : List Int) (a : Int) (h0 : 0 ≤ a) (h1 : a ≤ 1048576) (hl : l.length ≤ 9223372036854775807) : ∃ r, Ev (fun _ => laws_szIntS.f l a) r ∧ -1 ≤ r ∧ r ≤ a ∧ (0 ≤ r → l.length ≤ 1048576) := by
  obtain ⟨r, h, g⟩ := szIntS_eq l a h0 h1 hl
  exact ⟨r, Ev.const h, g⟩

def SmallIntSS (l : List (List Int)) : Prop := l.length ≤ 1048576 ∧ ∀ x ∈ l, x.length ≤ 1048576

theorem ev_laws_szIntSS_l0 (x0 : List (List Int)) (hl : x0.length ≤ 9223372036854775806) (hs : ∀ x ∈ x0, x.length ≤ 9223372036854775807) : ∀ (d : Nat) (a : Int) (i : Nat), i + d = x0.length → 0 ≤ a → a ≤ 1048576 → ∃ r, Ev (fun k => laws_szIntSS.l0 k x0 a i) r ∧ -1 ≤ r ∧ r ≤ a ∧ (0 ≤ r → ∀ x ∈ x0.drop i, x.length ≤ 1048576) := by
  intro d
  induction d with
  | zero =>
    intro a i h2 h0 h1
    refine ⟨a, ?_, by omega, by omega, fun _ x hx => ?_⟩
    · apply Ev.step
      · intro k; rw [laws_szIntSS.l0]
      simp only [if_neg (show ¬ ((i : Int) < x0.length) by omega)]
      exact Ev.now _
    · rw [List.drop_eq_nil_of_le (by omega)] at hx; cases hx
  | succ d ih =>
    intro a i h2 h0 h1
    have hg : x0[i]? = some (rd_L1 x0 (i : Int)) := by simp [rd_L1, show i < x0.length by omega]
    have hm := hs _ (List.mem_of_getElem? hg)
    obtain ⟨r1, e1, g1, g2, g3⟩ := ev_szIntS (rd_L1 x0 (i : Int)) a h0 h1 hm
    have hd : x0.drop i = rd_L1 x0 (i : Int) :: x0.drop (i + 1) := by
      rw [List.drop_eq_getElem_cons (show i < x0.length by omega)]
      congr 1
      rw [List.getElem?_eq_getElem (show i < x0.length by omega)] at hg
      injection hg
    by_cases hr : r1 < 0
    · refine ⟨-1, ?_, by omega, by omega, fun h => by omega⟩
      apply Ev.step
      · intro k; rw [laws_szIntSS.l0]
      simp only [if_pos (show (i : Int) < x0.length by omega), if_pos (show (0 : Int) ≤ i by omega)]
      refine Ev.bind e1 ?_
      simp only [if_pos hr]
      exact Ev.now _
    · obtain ⟨r2, e2, g4, g5, g6⟩ := ih r1 (i + 1) (by omega) (by omega) (by omega)
      refine ⟨r2, ?_, by omega, by omega, fun h x hx => ?_⟩
      · apply Ev.step
        · intro k; rw [laws_szIntSS.l0]
        simp only [if_pos (show (i : Int) < x0.length by omega), if_pos (show (0 : Int) ≤ i by omega)]
        refine Ev.bind e1 ?_
        simp only [if_neg hr, w64 (x := (i : Int) + 1) (by omega)]
        simpa using e2
      · rw [hd] at hx
        rcases List.mem_cons.1 hx with rfl | hx
        · exact g3 (by omega)
        · exact g6 h x hx
theorem ev_laws_szIntSS (l : List (List Int)) (a : Int) (h0 : 0 ≤ a) (h1 : a ≤ 1048576) (hl : l.length ≤ 9223372036854775807) (hs : ∀ x ∈ l, x.length ≤ 9223372036854775807) : ∃ r, Ev (fun k => laws_szIntSS.f k l a) r ∧ -1 ≤ r ∧ r ≤ a ∧ (0 ≤ r → SmallIntSS l) := by
  by_cases hn : a - (l.length : Int) < 0
  · refine ⟨-1, ?_, by omega, by omega, fun h => by omega⟩
    simp only [laws_szIntSS.f, w64 (x := a - (l.length : Int)) (by omega), if_pos hn]
    exact Ev.now _
  · obtain ⟨r, e, g1, g2, g3⟩ := ev_laws_szIntSS_l0 l (by omega) hs l.length (a - l.length) 0 (by omega) (by omega) (by omega)
    refine ⟨r, ?_, by omega, by omega, fun h => ⟨by omega, by simpa using g3 h⟩⟩
    simp only [laws_szIntSS.f, w64 (x := a - (l.length : Int)) (by omega), if_neg hn]
    exact e

theorem ev_toIntS_l0 (x0 : List Int) (hl : x0.length ≤ 1048576) : ∀ (d : Nat) (x3 : List Int) (i : Nat), x3.length = x0.length → i + d = x0.length → x3.take i = x0.take i → Ev (fun k => laws_toIntS.l0 k x0 x3 i) x0 := by
  intro d
  induction d with
  | zero =>
    intro x3 i h1 h2 h3
    apply Ev.step
    · intro k; rw [laws_toIntS.l0]
    simp only [if_neg (show ¬ ((i : Int) < x0.length) by omega)]
    rw [take_eq_all h1 (by omega) h3]
    exact Ev.now _
  | succ d ih =>
    intro x3 i h1 h2 h3
    apply Ev.step
    · intro k; rw [laws_toIntS.l0]
    simp only [if_pos (show (i : Int) < x0.length by omega), if_pos (show (0 : Int) ≤ i by omega), if_pos (show (i : Int) < x3.length by omega), w64 (x := (i : Int) + 1) (by omega)]
    have := ih (x3.set i (rd x0 i)) (i + 1) (by simp [h1]) (by omega) (take_set_at _ _ _ _ h1 (by omega) (rd_get _ _ (by omega)) h3)
    simpa using this
theorem ev_toIntS (l : List Int) (h : l.length ≤ 1048576) : Ev (fun k => laws_toIntS.f k l) l := by
  simp only [laws_toIntS.f, if_pos (show (0 : Int) ≤ l.length by omega), if_pos (show (l.length : Int).toNat ≤ 35184372088832 by omega)]
  exact ev_toIntS_l0 l h l.length _ 0 (by simp) (by omega) (by simp)

theorem ev_laws_toIntSS_l0 (x0 : List (List Int)) (hl : x0.length ≤ 1048576) (hs : ∀ x ∈ x0, x.length ≤ 1048576) : ∀ (d : Nat) (x3 : List (List Int)) (i : Nat), x3.length = x0.length → i + d = x0.length → x3.take i = (x0.map id).take i → Ev (fun k => laws_toIntSS.l0 k x0 x3 i) (x0.map id) := by
  intro d
  induction d with
  | zero =>
    intro x3 i h1 h2 h3
    apply Ev.step
    · intro k; rw [laws_toIntSS.l0]
    simp only [if_neg (show ¬ ((i : Int) < x0.length) by omega)]
    rw [take_eq_all (xs := x0.map id) (by simpa using h1) (by simp; omega) h3]
    exact Ev.now _
  | succ d ih =>
    intro x3 i h1 h2 h3
    have hg : x0[i]? = some (rd_L1 x0 (i : Int)) := by simp [rd_L1, show i < x0.length by omega]
    have hm := hs _ (List.mem_of_getElem? hg)
    apply Ev.step
    · intro k; rw [laws_toIntSS.l0]
    simp only [if_pos (show (i : Int) < x0.length by omega), if_pos (show (0 : Int) ≤ i by omega)]
    refine Ev.bind (ev_toIntS _ hm) ?_
    simp only [if_pos (show (i : Int) < x3.length by omega), w64 (x := (i : Int) + 1) (by omega)]
    have := ih (x3.set i (rd_L1 x0 (i : Int))) (i + 1) (by simp [h1]) (by omega) (take_set_at (x0.map id) _ _ _ (by simpa using h1) (by simp; omega) (by rw [List.getElem?_map, hg]; rfl) h3)
    simpa using this
theorem ev_laws_toIntSS (l : List (List Int)) (h : SmallIntSS l) : Ev (fun k => laws_toIntSS.f k l) (l.map id) := by
  have h1 := h.1
  simp only [laws_toIntSS.f, if_pos (show (0 : Int) ≤ l.length by omega), if_pos (show (l.length : Int).toNat ≤ 11728124029610 by omega)]
  exact ev_laws_toIntSS_l0 l h.1 h.2 l.length _ 0 (by simp) (by omega) (by simp)

theorem ev_spec_l02SameInts_l0 (a b : List Int) (hl : a.length = b.length) (ha : a.length ≤ 1099511627776) : ∀ (d i : Nat), i + d = a.length → Ev (fun k => spec_l02SameInts.l0 k a b i) (decide (a.drop i = b.drop i)) := by
  intro d
  induction d with
  | zero =>
    intro i h
    apply Ev.step
    · intro k; rw [spec_l02SameInts.l0]
    simp only [if_neg (show ¬ ((i : Int) < a.length) by omega), drop_nil' (show a.length ≤ i by omega), drop_nil' (show b.length ≤ i by omega)]
    exact Ev.const (by simp)
  | succ d ih =>
    intro i h
    have ih' := ih (i + 1) (by omega)
    apply Ev.step
    · intro k; rw [spec_l02SameInts.l0]
    simp only [if_pos (show (i : Int) < a.length by omega), if_pos (show (i : Int) < b.length by omega), if_pos (show (0 : Int) ≤ i by omega), w64 (x := (i : Int) + 1) (by omega), eq_drop (show i < a.length by omega) (show i < b.length by omega)]
    by_cases he : rd a i = rd b i
    · simp only [if_pos he]
      simpa [he] using ih'
    · simp only [if_neg he]
      exact Ev.const (by simp [he])
theorem ev_spec_l02SameInts (a b : List Int) (ha : a.length ≤ 1099511627776) : Ev (fun k => spec_l02SameInts.f k a b) (decide (a = b)) := by
  simp only [spec_l02SameInts.f]
  by_cases hl : a.length = b.length
  · simp only [if_pos (show (a.length : Int) = b.length by omega)]
    simpa using ev_spec_l02SameInts_l0 a b hl ha a.length 0 (by omega)
  · simp only [if_neg (show ¬ (a.length : Int) = b.length by omega)]
    exact Ev.const (congrArg some (decide_eq_false (fun h => hl (by rw [h]))).symm)

theorem ev_spec_SameRows_l0 (a b : List (List Int)) (hl : a.length = b.length) (ha : a.length ≤ 1099511627776) (hs : ∀ x ∈ a, x.length ≤ 1099511627776) : ∀ (d i : Nat), i + d = a.length → Ev (fun k => spec_SameRows.l0 k a b i) (decide (a.drop i = b.drop i)) := by
  intro d
  induction d with
  | zero =>
    intro i h
    apply Ev.step
    · intro k; rw [spec_SameRows.l0]
    simp only [if_neg (show ¬ ((i : Int) < a.length) by omega), drop_nil' (show a.length ≤ i by omega), drop_nil' (show b.length ≤ i by omega)]
    exact Ev.const (by simp)
  | succ d ih =>
    intro i h
    have ih' := ih (i + 1) (by omega)
    have hm := hs _ (getD_mem (z := []) (show i < a.length by omega))
    rw [drop_getD a [] i (by omega), drop_getD b [] i (by omega)]
    apply Ev.step
    · intro k; rw [spec_SameRows.l0]
    simp only [if_pos (show (i : Int) < a.length by omega), if_pos (show (i : Int) < b.length by omega), if_pos (show (0 : Int) ≤ i by omega), w64 (x := (i : Int) + 1) (by omega), rd_L1, Int.toNat_natCast]
    refine Ev.bind (ev_spec_l02SameInts (a.getD i []) (b.getD i []) hm) ?_
    generalize a.getD i [] = u at hm ⊢
    generalize b.getD i [] = v
    by_cases he : u = v
    · simp only [decide_eq_true he, if_true, List.cons.injEq]
      simpa [he] using ih'
    · simp only [decide_eq_false he, if_neg Bool.false_ne_true, List.cons.injEq]
      exact Ev.const (by simp [he])
theorem ev_spec_SameRows (a b : List (List Int)) (ha : a.length ≤ 1099511627776) (hs : ∀ x ∈ a, x.length ≤ 1099511627776) : Ev (fun k => spec_SameRows.f k a b) (decide (a = b)) := by
  simp only [spec_SameRows.f]
  by_cases hl : a.length = b.length
  · simp only [if_pos (show (a.length : Int) = b.length by omega)]
    simpa using ev_spec_SameRows_l0 a b hl ha hs a.length 0 (by omega)
  · simp only [if_neg (show ¬ (a.length : Int) = b.length by omega)]
    exact Ev.const (congrArg some (decide_eq_false (fun h => hl (by rw [h]))).symm)

theorem holds : ∀ (l0 : List (List (Int))) (l1 : List (List (Int))), (l0.length ≤ 9223372036854775807 ∧ ∀ yl0 ∈ l0, (yl0.length ≤ 9223372036854775807 ∧ ∀ yyl0 ∈ yl0, (Lit.int .i64 yyl0).wf = true)) → (l1.length ≤ 9223372036854775807 ∧ ∀ yl1 ∈ l1, (yl1.length ≤ 9223372036854775807 ∧ ∀ yyl1 ∈ yl1, (Lit.int .i64 yyl1).wf = true)) → ∃ k, laws_FnExactSameRows.f k l0 l1 = some true := by
  intro a b ha hb
  apply Ev.ex
  simp only [laws_FnExactSameRows.f]
  obtain ⟨q, he, g1, g2, g3⟩ := ev_laws_szIntSS a 1048576 (by omega) (by omega) ha.1 (fun x hx => (ha.2 x hx).1)
  refine Ev.bind he ?_
  by_cases hq : q < 0
  · simp only [if_pos hq]; exact Ev.now _
  simp only [if_neg hq]
  obtain ⟨q2, he2, g4, g5, g6⟩ := ev_laws_szIntSS b q (by omega) (by omega) hb.1 (fun x hx => (hb.2 x hx).1)
  refine Ev.bind he2 ?_
  by_cases hq2 : q2 < 0
  · simp only [if_pos hq2]; exact Ev.now _
  simp only [if_neg hq2]
  have hS := g3 (by omega)
  have hS1 := hS.1
  have hT := g6 (by omega)
  have hT1 := hT.1
  have hc : ∀ x ∈ a, x.length ≤ 1099511627776 := fun x hx => by have := hS.2 x hx; omega
  have hd : ∀ x ∈ b, x.length ≤ 1099511627776 := fun x hx => by have := hT.2 x hx; omega
  have hto := ev_laws_toIntSS a hS
  have hto2 := ev_laws_toIntSS b hT
  rw [List.map_id] at hto hto2
  refine Ev.bind hto ?_
  refine Ev.bind hto2 ?_
  refine Ev.bind (ev_spec_SameRows a b (by omega) hc) ?_
  refine Ev.bind hto ?_
  refine Ev.bind hto2 ?_
  refine Ev.bind (ev_impl_SameRows a b (by omega) hc) ?_
  simp only [bne_self_eq_false, if_neg Bool.false_ne_true]
  refine Ev.bind hto ?_
  refine Ev.bind (ev_laws_eqIntSS a (by omega) hc) ?_
  simp only [if_true]
  refine Ev.bind hto2 ?_
  refine Ev.bind (ev_laws_eqIntSS b (by omega) hd) ?_
  exact Ev.const (by simp)

end EFnExactSameRows
open Go.RowKit Go.Proofs.YtlkgppihnolcmaaW.PrintWords Go.Proofs.YtlkgppihnolcmaaW.PrintLast Go.Proofs.YtlkgppihnolcmaaW.PrintMore Go.Proofs.Ytlkgppihnolcmaa.Lib Go.Proofs.Ytlkgppihnolcmaa.Q
theorem FnExactSameRows : ∀ (l0 : List (List (Int))) (l1 : List (List (Int))), (l0.length ≤ 9223372036854775807 ∧ ∀ yl0 ∈ l0, (yl0.length ≤ 9223372036854775807 ∧ ∀ yyl0 ∈ yl0, (Lit.int .i64 yyl0).wf = true)) → (l1.length ≤ 9223372036854775807 ∧ ∀ yl1 ∈ l1, (yl1.length ≤ 9223372036854775807 ∧ ∀ yyl1 ∈ yl1, (Lit.int .i64 yyl1).wf = true)) → ∃ k, laws_FnExactSameRows.f k l0 l1 = some true := EFnExactSameRows.holds
end Go.Proofs.Ytlkgppihnolcmaa.Pure
