/- Of every two lists of whole numbers: the program's RowLess gives what the reference's RowLess gives, and its arguments stay as they were. -/
import Derived.Test.YtlkgppihnolcmaaQx2
import Derived.Test.YtlkgppihnolcmaaShapes
import Derived.Test.YtlkgppihnolcmaaLib
set_option linter.unusedVariables false
set_option linter.unusedSimpArgs false
namespace Go.Proofs.Ytlkgppihnolcmaa.Pure
namespace EFnExactRowLess
open Go.RowKit Go.Proofs.YtlkgppihnolcmaaW.PrintWords Go.Proofs.YtlkgppihnolcmaaW.PrintLast Go.Proofs.YtlkgppihnolcmaaW.PrintMore Go.Proofs.Ytlkgppihnolcmaa.Lib Go.Proofs.Ytlkgppihnolcmaa.Q


theorem cmp_int_eq (a b : Int) : cmp_Compare_int.f a b = some (if a < b then -1 else if b < a then 1 else 0) := by
  simp only [cmp_Compare_int.f, cmp_isNaN_int.f, Option.bind_some]
  by_cases h : a < b
  · simp [h]
  · by_cases h2 : b < a <;> simp [h, h2]

theorem ev_Compare_l0 (a b : List Int) (ha : a.length ≤ 1099511627776) (hb : b.length ≤ 1099511627776) : ∀ (d i : Nat), i + d = a.length → i ≤ b.length → Ev (fun k => slices_Compare_int_int.l0 k a b a (a.length : Int) i) (cmpL (a.drop i) (b.drop i)) := by
  intro d
  induction d with
  | zero =>
    intro i h hib
    apply Ev.step
    · intro k; rw [slices_Compare_int_int.l0]
    simp only [if_neg (show ¬ ((i : Int) < a.length) by omega), drop_nil' (show a.length ≤ i by omega)]
    refine Ev.const ?_
    by_cases hb' : i < b.length
    · rw [drop_rd b i hb', if_pos (by omega)]; rfl
    · rw [drop_nil' (show b.length ≤ i by omega), if_neg (by omega)]; rfl
  | succ d ih =>
    intro i h hib
    rw [drop_rd a i (by omega)]
    apply Ev.step
    · intro k; rw [slices_Compare_int_int.l0]
    simp only [if_pos (show (i : Int) < a.length by omega), if_pos (show (0 : Int) ≤ i by omega)]
    by_cases hb' : i < b.length
    · have ih' := ih (i + 1) (by omega) (by omega)
      rw [drop_rd b i hb']
      simp only [if_neg (show ¬ (i : Int) ≥ b.length by omega), if_pos (show (i : Int) < b.length by omega), cmp_int_eq, Option.bind_some, w64 (x := (i : Int) + 1) (by omega), cmpL]
      by_cases h1 : rd a i < rd b i
      · simp only [if_pos h1]
        exact Ev.const (by simp)
      · by_cases h2 : rd b i < rd a i
        · simp only [if_neg h1, if_pos h2]
          exact Ev.const (by simp)
        · simp only [if_neg h1, if_neg h2, if_true]
          simpa using ih'
    · rw [drop_nil' (show b.length ≤ i by omega)]
      simp only [if_pos (show (i : Int) ≥ b.length by omega), cmpL]
      exact Ev.now _
theorem ev_Compare (a b : List Int) (ha : a.length ≤ 1099511627776) (hb : b.length ≤ 1099511627776) : Ev (fun k => slices_Compare_int_int.f k a b) (cmpL a b) := by
  simpa [slices_Compare_int_int.f] using ev_Compare_l0 a b ha hb a.length 0 (by omega) (by omega)

theorem ev_impl_RowLess (a b : List Int) (ha : a.length ≤ 1099511627776) (hb : b.length ≤ 1099511627776) : Ev (fun k => impl_RowLess.f k a b) (decide (cmpL a b < 0)) := by
  simp only [impl_RowLess.f]
  refine Ev.bind (ev_Compare a b ha hb) ?_
  exact Ev.now _

theorem ev_eqIntS_l0 (x0 : List Int) (hl : x0.length ≤ 1099511627776) : ∀ (d : Nat) (i : Nat), i + d = x0.length → Ev (fun k => laws_eqIntS.l0 k x0 x0 i) true := by
  intro d
  induction d with
  | zero =>
    intro i h2
    apply Ev.step
    · intro k; rw [laws_eqIntS.l0]
    simp only [if_neg (show ¬ ((i : Int) < x0.length) by omega)]
    exact Ev.now _
  | succ d ih =>
    intro i h2
    apply Ev.step
    · intro k; rw [laws_eqIntS.l0]
    simp only [if_pos (show (i : Int) < x0.length by omega), if_pos (show (0 : Int) ≤ i by omega), if_true, w64 (x := (i : Int) + 1) (by omega)]
    have := ih (i + 1) (by omega)
    simpa using this
theorem ev_eqIntS (l : List Int) (h : l.length ≤ 1099511627776) : Ev (fun k => laws_eqIntS.f k l l) true := by
  simp only [laws_eqIntS.f, if_true]
  exact ev_eqIntS_l0 l h l.length 0 (by omega)

theorem ev_toIntS_l0 (x0 : List Int) (hl : x0.length ≤ 1048576) : ∀ (d : Nat) (x3 : List Int) (i : Nat), x3.length = x0.length → i + d = x0.length → x3.take i = x0.take i → Ev (fun k => laws_toIntS.l0 k x0 x3 i) x0 := by
  intro d
  induction d with
  | zero =>
    intro x3 i h1 h2 h3
    apply Ev.step
    · intro k; rw [laws_toIntS.l0]
    simp only [if_neg (show ¬ ((i : Int) < x0.length) by omega)]
    rw [take_eq_all h1 (by omega) h3]
    exact Ev.now _
  | succ d ih =>
    intro x3 i h1 h2 h3
    apply Ev.step
    · intro k; rw [laws_toIntS.l0]
    simp only [if_pos (show (i : Int) < x0.length by omega), if_pos (show (0 : Int) ≤ i by omega), if_pos (show (i : Int) < x3.length by omega), w64 (x := (i : Int) + 1) (by omega)]
    have := ih (x3.set i (rd x0 i)) (i + 1) (by simp [h1]) (by omega) (take_set_at _ _ _ _ h1 (by omega) (rd_get _ _ (by omega)) h3)
    simpa using this
theorem ev_toIntS (l : List Int) (h : l.length ≤ 1048576) : Ev (fun k => laws_toIntS.f k l) l := by
  simp only [laws_toIntS.f, if_pos (show (0 : Int) ≤ l.length by omega), if_pos (show (l.length : Int).toNat ≤ 35184372088832 by omega)]
  exact ev_toIntS_l0 l h l.length _ 0 (by simp) (by omega) (by simp)

theorem ev_spec_RowLess_l0 (a b : List Int) (ha : a.length ≤ 1099511627776) (hb : b.length ≤ 1099511627776) : ∀ (d i : Nat), i + d = a.length → Ev (fun k => spec_RowLess.l0 k a b i) (decide (cmpL (a.drop i) (b.drop i) < 0)) := by
  intro d
  induction d with
  | zero =>
    intro i h
    apply Ev.step
    · intro k; rw [spec_RowLess.l0]
    simp only [if_neg (show ¬ ((i : Int) < a.length) by omega)]
    apply Ev.step
    · intro k; rw [spec_RowLess.j1]
    simp only [if_neg Bool.false_ne_true, drop_nil' (show a.length ≤ i by omega)]
    refine Ev.const (congrArg some ?_)
    by_cases hb' : i < b.length
    · rw [drop_rd b i hb']; simp [cmpL]; omega
    · rw [drop_nil' (show b.length ≤ i by omega)]; simp [cmpL]; omega
  | succ d ih =>
    intro i h
    have ih' := ih (i + 1) (by omega)
    rw [drop_rd a i (by omega)]
    apply Ev.step
    · intro k; rw [spec_RowLess.l0]
    simp only [if_pos (show (i : Int) < a.length by omega)]
    by_cases hb' : i < b.length
    · rw [drop_rd b i hb']
      apply Ev.step
      · intro k; rw [spec_RowLess.j1]
      simp only [decide_eq_true (show (i : Int) < b.length by omega), if_true, if_pos (show (0 : Int) ≤ i by omega), if_pos (show (i : Int) < a.length by omega), if_pos (show (i : Int) < b.length by omega), w64 (x := (i : Int) + 1) (by omega)]
      by_cases he : rd a i = rd b i
      · simp only [if_pos he, cmpL, if_neg (show ¬ rd a i < rd b i by omega), if_neg (show ¬ rd b i < rd a i by omega)]
        simpa using ih'
      · simp only [if_neg he]
        refine Ev.const (congrArg some ?_)
        by_cases hlt : rd a i < rd b i
        · simp [cmpL, hlt]
        · simp [cmpL, hlt, show rd b i < rd a i by omega]
    · rw [drop_nil' (show b.length ≤ i by omega)]
      apply Ev.step
      · intro k; rw [spec_RowLess.j1]
      simp only [decide_eq_false (show ¬ (i : Int) < b.length by omega), if_neg Bool.false_ne_true]
      refine Ev.const (congrArg some ?_)
      simp [cmpL]; omega
theorem ev_spec_RowLess (a b : List Int) (ha : a.length ≤ 1099511627776) (hb : b.length ≤ 1099511627776) : Ev (fun k => spec_RowLess.f k a b) (decide (cmpL a b < 0)) := by
  simpa [spec_RowLess.f] using ev_spec_RowLess_l0 a b ha hb a.length 0 (by omega)

theorem holds : ∀ (l0 : List (Int)) (l1 : List (Int)), (l0.length ≤ 9223372036854775807 ∧ ∀ yl0 ∈ l0, (Lit.int .i64 yl0).wf = true) → (l1.length ≤ 9223372036854775807 ∧ ∀ yl1 ∈ l1, (Lit.int .i64 yl1).wf = true) → ∃ k, laws_FnExactRowLess.f k l0 l1 = some true := by
  intro a b ha hb
  apply Ev.ex
  simp only [laws_FnExactRowLess.f]
  by_cases hs : (a.length : Int) > 1048576
  · simp only [if_pos hs]; exact Ev.now _
  by_cases hs2 : (b.length : Int) > 1048576
  · simp only [if_neg hs, if_pos hs2]; exact Ev.now _
  simp only [if_neg hs, if_neg hs2]
  refine Ev.bind (ev_toIntS a (by omega)) ?_
  refine Ev.bind (ev_toIntS b (by omega)) ?_
  refine Ev.bind (ev_spec_RowLess a b (by omega) (by omega)) ?_
  refine Ev.bind (ev_toIntS a (by omega)) ?_
  refine Ev.bind (ev_toIntS b (by omega)) ?_
  refine Ev.bind (ev_impl_RowLess a b (by omega) (by omega)) ?_
  simp only [bne_self_eq_false, if_neg Bool.false_ne_true]
  refine Ev.bind (ev_toIntS a (by omega)) ?_
  refine Ev.bind (ev_eqIntS a (by omega)) ?_
  simp only [if_true]
  refine Ev.bind (ev_toIntS b (by omega)) ?_
  refine Ev.bind (ev_eqIntS b (by omega)) ?_
  exact Ev.const (by simp)

end EFnExactRowLess
open Go.RowKit Go.Proofs.YtlkgppihnolcmaaW.PrintWords Go.Proofs.YtlkgppihnolcmaaW.PrintLast Go.Proofs.YtlkgppihnolcmaaW.PrintMore Go.Proofs.Ytlkgppihnolcmaa.Lib Go.Proofs.Ytlkgppihnolcmaa.Q
theorem FnExactRowLess : ∀ (l0 : List (Int)) (l1 : List (Int)), (l0.length ≤ 9223372036854775807 ∧ ∀ yl0 ∈ l0, (Lit.int .i64 yl0).wf = true) → (l1.length ≤ 9223372036854775807 ∧ ∀ yl1 ∈ l1, (Lit.int .i64 yl1).wf = true) → ∃ k, laws_FnExactRowLess.f k l0 l1 = some true := EFnExactRowLess.holds
end Go.Proofs.Ytlkgppihnolcmaa.Pure
