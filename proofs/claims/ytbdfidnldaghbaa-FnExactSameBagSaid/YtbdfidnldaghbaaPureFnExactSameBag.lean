/- Of every two lists of rows: the program's SameBag gives what the reference's SameBag gives, and its arguments stay as they were. -/
import Derived.Test.YtbdfidnldaghbaaQmFnExactSameBag
import Derived.Test.YtbdfidnldaghbaaShapes
import Derived.Test.YtbdfidnldaghbaaLib
set_option linter.unusedVariables false
set_option linter.unusedSimpArgs false
namespace Go.Proofs.Ytbdfidnldaghbaa.Pure
namespace EFnExactSameBag
open Go.RowKit Go.Proofs.YtbdfidnldaghbaaW.PrintWords Go.Proofs.YtbdfidnldaghbaaW.PrintLast Go.Proofs.YtbdfidnldaghbaaW.PrintMore Go.Proofs.Ytbdfidnldaghbaa.Lib Go.Proofs.Ytbdfidnldaghbaa.Q

theorem ev_slices_Equal_int_int_l0 (a b : List Int) (hl : a.length = b.length) (ha : a.length ≤ 1099511627776) : ∀ (d i : Nat), i + d = a.length → Ev (fun k => slices_Equal_int_int.l0 k a b (a.length : Int) i) (decide (a.drop i = b.drop i)) := by
  intro d
  induction d with
  | zero =>
    intro i h
    apply Ev.step
    · intro k; rw [slices_Equal_int_int.l0]
    simp only [if_neg (show ¬ ((i : Int) < a.length) by omega), drop_nil' (show a.length ≤ i by omega), drop_nil' (show b.length ≤ i by omega)]
    exact Ev.const (by simp)
  | succ d ih =>
    intro i h
    have ih' := ih (i + 1) (by omega)
    apply Ev.step
    · intro k; rw [slices_Equal_int_int.l0]
    simp only [if_pos (show (i : Int) < a.length by omega), if_pos (show (i : Int) < b.length by omega), if_pos (show (0 : Int) ≤ i by omega), w64 (x := (i : Int) + 1) (by omega), eq_drop (show i < a.length by omega) (show i < b.length by omega)]
    by_cases he : rd a i = rd b i
    · simp only [if_pos he]
      simpa [he] using ih'
    · simp only [if_neg he]
      exact Ev.const (by simp [he])
theorem ev_slices_Equal_int_int (a b : List Int) (ha : a.length ≤ 1099511627776) : Ev (fun k => slices_Equal_int_int.f k a b) (decide (a = b)) := by
  simp only [slices_Equal_int_int.f]
  by_cases hl : a.length = b.length
  · simp only [if_pos (show (a.length : Int) = b.length by omega)]
    simpa using ev_slices_Equal_int_int_l0 a b hl ha a.length 0 (by omega)
  · simp only [if_neg (show ¬ (a.length : Int) = b.length by omega)]
    exact Ev.const (congrArg some (decide_eq_false (fun h => hl (by rw [h]))).symm)

theorem ev_slices_EqualFunc_int_int_int_int_l0 (a b : List (List Int)) (hl : a.length = b.length) (ha : a.length ≤ 1099511627776) (hs : ∀ x ∈ a, x.length ≤ 1099511627776) : ∀ (d i : Nat), i + d = a.length → Ev (fun k => slices_EqualFunc_int_int_int_int.l0 k b a (a.length : Int) i) (decide (a.drop i = b.drop i)) := by
  intro d
  induction d with
  | zero =>
    intro i h
    apply Ev.step
    · intro k; rw [slices_EqualFunc_int_int_int_int.l0]
    simp only [if_neg (show ¬ ((i : Int) < a.length) by omega), drop_nil' (show a.length ≤ i by omega), drop_nil' (show b.length ≤ i by omega)]
    exact Ev.const (by simp)
  | succ d ih =>
    intro i h
    have ih' := ih (i + 1) (by omega)
    have hm := hs _ (getD_mem (z := []) (show i < a.length by omega))
    rw [drop_getD a [] i (by omega), drop_getD b [] i (by omega)]
    apply Ev.step
    · intro k; rw [slices_EqualFunc_int_int_int_int.l0]
    simp only [if_pos (show (i : Int) < a.length by omega), if_pos (show (i : Int) < b.length by omega), if_pos (show (0 : Int) ≤ i by omega), w64 (x := (i : Int) + 1) (by omega), rd_L1, Int.toNat_natCast]
    refine Ev.bind (ev_slices_Equal_int_int (a.getD i []) (b.getD i []) hm) ?_
    generalize a.getD i [] = u at hm ⊢
    generalize b.getD i [] = v
    by_cases he : u = v
    · simp only [decide_eq_true he, if_true, List.cons.injEq]
      simpa [he] using ih'
    · simp only [decide_eq_false he, if_neg Bool.false_ne_true, List.cons.injEq]
      exact Ev.const (by simp [he])
theorem ev_slices_EqualFunc_int_int_int_int (a b : List (List Int)) (ha : a.length ≤ 1099511627776) (hs : ∀ x ∈ a, x.length ≤ 1099511627776) : Ev (fun k => slices_EqualFunc_int_int_int_int.f k a b) (decide (a = b)) := by
  simp only [slices_EqualFunc_int_int_int_int.f]
  by_cases hl : a.length = b.length
  · simp only [if_pos (show (a.length : Int) = b.length by omega)]
    simpa using ev_slices_EqualFunc_int_int_int_int_l0 a b hl ha hs a.length 0 (by omega)
  · simp only [if_neg (show ¬ (a.length : Int) = b.length by omega)]
    exact Ev.const (congrArg some (decide_eq_false (fun h => hl (by rw [h]))).symm)

theorem ev_impl_SameRows (a b : List (List Int)) (ha : a.length ≤ 1099511627776) (hs : ∀ x ∈ a, x.length ≤ 1099511627776) : Ev (fun k => impl_SameRows.f k a b) (decide (a = b)) := by
  simp only [impl_SameRows.f]
  refine Ev.bind (ev_slices_EqualFunc_int_int_int_int a b ha hs) ?_
  exact Ev.now _

theorem clone_int (l : List Int) (hl : l.length ≤ 1048576) : slices_Clone_int_int.f l = some l := by
  simp only [slices_Clone_int_int.f, Option.bind_some, List.length_nil, List.nil_append]
  rw [if_pos (by omega)]

theorem ev_impl_ownRows_l0 (a : List (List Int)) (hl : a.length ≤ 1048576) (hr : ∀ x ∈ a, x.length ≤ 1048576) : ∀ (d i : Nat), i + d = a.length → Ev (fun k => impl_ownRows.l0 k (a.take i) a (a.length : Int) i) a := by
  intro d
  induction d with
  | zero =>
    intro i h
    apply Ev.step
    · intro k; rw [impl_ownRows.l0]
    simp only [if_neg (show ¬ ((i : Int) < a.length) by omega)]
    rw [List.take_of_length_le (by omega)]
    exact Ev.now _
  | succ d ih =>
    intro i h
    have ih' := ih (i + 1) (by omega)
    have hm := hr _ (getD_mem (z := []) (show i < a.length by omega))
    have ht : a.take i ++ [a.getD i []] = a.take (i + 1) := by rw [List.take_add_one]; simp [List.getD, show i < a.length by omega]
    apply Ev.step
    · intro k; rw [impl_ownRows.l0]
    simp only [if_pos (show (i : Int) < a.length by omega), if_pos (show (0 : Int) ≤ i by omega), rd_L1, Int.toNat_natCast, clone_int (a.getD i []) hm, Option.bind_some, if_pos (show (a.take i).length < 5864062014805 by rw [List.length_take]; omega), w64 (x := (i : Int) + 1) (by omega), ht]
    exact ih'
theorem ev_impl_ownRows (a : List (List Int)) (hl : a.length ≤ 1048576) (hr : ∀ x ∈ a, x.length ≤ 1048576) : Ev (fun k => impl_ownRows.f k a) a := by
  simpa [impl_ownRows.f] using ev_impl_ownRows_l0 a hl hr a.length 0 (by omega)

def sorted (l : List (List Int)) : List (List Int) := if 200 < l.length then [] else sortR l
theorem sorted_mem {l : List (List Int)} {x : List Int} (h : x ∈ sorted l) : x ∈ l := by
  unfold sorted at h
  split at h
  · cases h
  · exact (sortR_perm l).mem_iff.1 h
theorem sorted_len (l : List (List Int)) : (sorted l).length ≤ 200 := by
  unfold sorted
  split
  · simp
  · rw [(sortR_perm l).length_eq]; omega

theorem ev_impl_SortRows (a : List (List Int)) (hl : a.length ≤ 1048576) (hr : ∀ x ∈ a, x.length ≤ 1048576) : Ev (fun k => impl_SortRows.f k a) (sorted a) := by
  simp only [impl_SortRows.f, sorted]
  by_cases h : 200 < a.length
  · simp only [if_pos (show (a.length : Int) > 200 by omega), if_pos h]; exact Ev.now _
  · simp only [if_neg (show ¬ (a.length : Int) > 200 by omega), if_neg h]
    refine Ev.bind (ev_impl_ownRows a hl hr) ?_
    have hc : a.length ≤ 1099511627776 ∧ ∀ x ∈ a, x.length ≤ 1099511627776 := ⟨by omega, fun x hx => by have := hr x hx; omega⟩
    simp only [slices_SortFunc_int_int.f, if_pos hc, Option.bind_some]
    exact Ev.now _

theorem ev_spec_l01Copy_l0 (x0 : List Int) (hl : x0.length ≤ 1048576) : ∀ (d i : Nat), i + d = x0.length → Ev (fun k => spec_l01Copy.l0 k x0 (x0.take i) i) x0 := by
  intro d
  induction d with
  | zero =>
    intro i h
    apply Ev.step
    · intro k; rw [spec_l01Copy.l0]
    simp only [if_neg (show ¬ ((i : Int) < x0.length) by omega)]
    rw [List.take_of_length_le (by omega)]
    exact Ev.now _
  | succ d ih =>
    intro i h
    have ih' := ih (i + 1) (by omega)
    apply Ev.step
    · intro k; rw [spec_l01Copy.l0]
    simp only [if_pos (show (i : Int) < x0.length by omega), if_pos (show (0 : Int) ≤ i by omega), if_pos (show (x0.take i).length < 17592186044416 by simp; omega), w64 (x := (i : Int) + 1) (by omega), take_rd x0 i (by omega)]
    simpa using ih'
theorem ev_spec_l01Copy (l : List Int) (hl : l.length ≤ 1048576) : Ev (fun k => spec_l01Copy.f k l) l := by
  simpa [spec_l01Copy.f] using ev_spec_l01Copy_l0 l hl l.length 0 (by omega)

theorem ev_spec_l04Copy_l0 (a : List (List Int)) (hl : a.length ≤ 1048576) (hr : ∀ x ∈ a, x.length ≤ 1048576) : ∀ (d i : Nat), i + d = a.length → Ev (fun k => spec_l04Copy.l0 k a (a.take i) i) a := by
  intro d
  induction d with
  | zero =>
    intro i h
    apply Ev.step
    · intro k; rw [spec_l04Copy.l0]
    simp only [if_neg (show ¬ ((i : Int) < a.length) by omega)]
    rw [List.take_of_length_le (by omega)]
    exact Ev.now _
  | succ d ih =>
    intro i h
    have ih' := ih (i + 1) (by omega)
    have hm := hr _ (getD_mem (z := []) (show i < a.length by omega))
    have ht : a.take i ++ [a.getD i []] = a.take (i + 1) := by rw [List.take_add_one]; simp [List.getD, show i < a.length by omega]
    apply Ev.step
    · intro k; rw [spec_l04Copy.l0]
    simp only [if_pos (show (i : Int) < a.length by omega), if_pos (show (0 : Int) ≤ i by omega), rd_L1, Int.toNat_natCast]
    refine Ev.bind (ev_spec_l01Copy (a.getD i []) hm) ?_
    simp only [if_pos (show (a.take i).length < 5864062014805 by rw [List.length_take]; omega), w64 (x := (i : Int) + 1) (by omega), ht]
    exact ih'
theorem ev_spec_l04Copy (a : List (List Int)) (hl : a.length ≤ 1048576) (hr : ∀ x ∈ a, x.length ≤ 1048576) : Ev (fun k => spec_l04Copy.f k a) a := by
  simpa [spec_l04Copy.f] using ev_spec_l04Copy_l0 a hl hr a.length 0 (by omega)

theorem ev_spec_RowLess_l0 (a b : List Int) (ha : a.length ≤ 1099511627776) (hb : b.length ≤ 1099511627776) : ∀ (d i : Nat), i + d = a.length → Ev (fun k => spec_RowLess.l0 k a b i) (decide (cmpL (a.drop i) (b.drop i) < 0)) := by
  intro d
  induction d with
  | zero =>
    intro i h
    apply Ev.step
    · intro k; rw [spec_RowLess.l0]
    simp only [if_neg (show ¬ ((i : Int) < a.length) by omega)]
    apply Ev.step
    · intro k; rw [spec_RowLess.j1]
    simp only [if_neg Bool.false_ne_true, drop_nil' (show a.length ≤ i by omega)]
    refine Ev.const (congrArg some ?_)
    by_cases hb' : i < b.length
    · rw [drop_rd b i hb']; simp [cmpL]; omega
    · rw [drop_nil' (show b.length ≤ i by omega)]; simp [cmpL]; omega
  | succ d ih =>
    intro i h
    have ih' := ih (i + 1) (by omega)
    rw [drop_rd a i (by omega)]
    apply Ev.step
    · intro k; rw [spec_RowLess.l0]
    simp only [if_pos (show (i : Int) < a.length by omega)]
    by_cases hb' : i < b.length
    · rw [drop_rd b i hb']
      apply Ev.step
      · intro k; rw [spec_RowLess.j1]
      simp only [decide_eq_true (show (i : Int) < b.length by omega), if_true, if_pos (show (0 : Int) ≤ i by omega), if_pos (show (i : Int) < a.length by omega), if_pos (show (i : Int) < b.length by omega), w64 (x := (i : Int) + 1) (by omega)]
      by_cases he : rd a i = rd b i
      · simp only [if_pos he, cmpL, if_neg (show ¬ rd a i < rd b i by omega), if_neg (show ¬ rd b i < rd a i by omega)]
        simpa using ih'
      · simp only [if_neg he]
        refine Ev.const (congrArg some ?_)
        by_cases hlt : rd a i < rd b i
        · simp [cmpL, hlt]
        · simp [cmpL, hlt, show rd b i < rd a i by omega]
    · rw [drop_nil' (show b.length ≤ i by omega)]
      apply Ev.step
      · intro k; rw [spec_RowLess.j1]
      simp only [decide_eq_false (show ¬ (i : Int) < b.length by omega), if_neg Bool.false_ne_true]
      refine Ev.const (congrArg some ?_)
      simp [cmpL]; omega
theorem ev_spec_RowLess (a b : List Int) (ha : a.length ≤ 1099511627776) (hb : b.length ≤ 1099511627776) : Ev (fun k => spec_RowLess.f k a b) (decide (cmpL a b < 0)) := by
  simpa [spec_RowLess.f] using ev_spec_RowLess_l0 a b ha hb a.length 0 (by omega)

theorem ev_sr_true (x0 out : List (List Int)) (i : Nat) (r : List (List Int)) (ho : out.length ≤ 1000) : ∀ (d j : Nat) (next : List (List Int)), j + d = out.length → next.length ≤ j + 1 → i + 1 ≤ 1048576 → Ev (fun k => spec_SortRows.l0 k x0 (next ++ out.drop j) ((i : Int) + 1)) r → Ev (fun k => spec_SortRows.l1 k x0 out i next true j) r := by
  intro d
  induction d with
  | zero =>
    intro j next h hn hi e
    rw [drop_nil' (show out.length ≤ j by omega), List.append_nil] at e
    apply Ev.step
    · intro k; rw [spec_SortRows.l1]
    simp only [if_neg (show ¬ ((j : Int) < out.length) by omega), if_true, w64 (x := (i : Int) + 1) (by omega)]
    exact e
  | succ d ih =>
    intro j next h hn hi e
    rw [drop_getD out [] j (by omega)] at e
    have ih' := ih (j + 1) (next ++ [out.getD j []]) (by omega) (by simp; omega) hi (by simpa using e)
    apply Ev.step
    · intro k; rw [spec_SortRows.l1]
    simp only [if_pos (show (j : Int) < out.length by omega), if_true, if_pos (show (0 : Int) ≤ j by omega), if_pos (show next.length < 5864062014805 by omega), w64 (x := (j : Int) + 1) (by omega), rd_L1, Int.toNat_natCast]
    exact ih'
theorem ev_sr_false (x0 out : List (List Int)) (i : Nat) (r : List (List Int)) (ho : out.length ≤ 1000) (hs : ∀ x ∈ out, x.length ≤ 1048576) (hs0 : ∀ x ∈ x0, x.length ≤ 1048576) (hi : i < x0.length) (hi2 : i + 1 ≤ 1048576) : ∀ (d j : Nat) (next : List (List Int)), j + d = out.length → next.length ≤ j → Ev (fun k => spec_SortRows.l0 k x0 (next ++ insR (x0.getD i []) (out.drop j)) ((i : Int) + 1)) r → Ev (fun k => spec_SortRows.l1 k x0 out i next false j) r := by
  intro d
  induction d with
  | zero =>
    intro j next h hn e
    rw [drop_nil' (show out.length ≤ j by omega), show insR (x0.getD i []) [] = [x0.getD i []] from rfl] at e
    apply Ev.step
    · intro k; rw [spec_SortRows.l1]
    simp only [if_neg (show ¬ ((j : Int) < out.length) by omega), if_neg Bool.false_ne_true, if_pos (show (0 : Int) ≤ i by omega), if_pos (show (i : Int) < x0.length by omega), if_pos (show next.length < 5864062014805 by omega), w64 (x := (i : Int) + 1) (by omega), rd_L1, Int.toNat_natCast]
    exact e
  | succ d ih =>
    intro j next h hn e
    have hy := hs _ (getD_mem (z := []) (show j < out.length by omega))
    have hx := hs0 _ (getD_mem (z := []) hi)
    rw [drop_getD out [] j (by omega), insR] at e
    apply Ev.step
    · intro k; rw [spec_SortRows.l1]
    simp only [if_pos (show (j : Int) < out.length by omega), if_neg Bool.false_ne_true, if_pos (show (0 : Int) ≤ i by omega), if_pos (show (i : Int) < x0.length by omega), if_pos (show (0 : Int) ≤ j by omega), rd_L1, Int.toNat_natCast]
    refine Ev.bind (ev_spec_RowLess (x0.getD i []) (out.getD j []) (by omega) (by omega)) ?_
    have hlt := cmpL_lt (x0.getD i []) (out.getD j [])
    by_cases hc : x0.getD i [] < out.getD j []
    · rw [if_pos hc] at e
      have e2 := ev_sr_true x0 out i r ho d (j + 1) (next ++ [x0.getD i []] ++ [out.getD j []]) (by omega) (by simp; omega) hi2 (by simpa using e)
      simp only [decide_eq_true (hlt.2 hc), if_true, if_pos (show next.length < 5864062014805 by omega), Option.bind_some, if_pos (show (next ++ [x0.getD i []]).length < 5864062014805 by simp; omega), w64 (x := (j : Int) + 1) (by omega)]
      exact e2
    · rw [if_neg hc] at e
      have ih' := ih (j + 1) (next ++ [out.getD j []]) (by omega) (by simp; omega) (by simpa using e)
      simp only [decide_eq_false (fun h => hc (hlt.1 h)), if_neg Bool.false_ne_true, if_pos (show next.length < 5864062014805 by omega), w64 (x := (j : Int) + 1) (by omega)]
      exact ih'
theorem insR_len (x : List Int) (l : List (List Int)) : (insR x l).length = l.length + 1 := by rw [(insR_perm x l).length_eq]; rfl
theorem ev_sr_l0 (x0 : List (List Int)) (hl : x0.length ≤ 200) (hs : ∀ x ∈ x0, x.length ≤ 1048576) : ∀ (d i : Nat) (acc : List (List Int)), i + d = x0.length → acc.length = i → (∀ x ∈ acc, x.length ≤ 1048576) → Ev (fun k => spec_SortRows.l0 k x0 acc i) ((x0.drop i).foldl (fun o x => insR x o) acc) := by
  intro d
  induction d with
  | zero =>
    intro i acc h ha hr
    apply Ev.step
    · intro k; rw [spec_SortRows.l0]
    simp only [if_neg (show ¬ ((i : Int) < x0.length) by omega), drop_nil' (show x0.length ≤ i by omega), List.foldl_nil]
    refine Ev.bind (ev_spec_l04Copy acc (by omega) hr) ?_
    exact Ev.now _
  | succ d ih =>
    intro i acc h ha hr
    have hx := hs _ (getD_mem (z := []) (show i < x0.length by omega))
    have ih' := ih (i + 1) (insR (x0.getD i []) acc) (by omega) (by rw [insR_len]; omega) (fun z hz => by
      rcases List.mem_cons.1 ((insR_perm _ _).mem_iff.1 hz) with rfl | hz
      · exact hx
      · exact hr z hz)
    rw [drop_getD x0 [] i (by omega), List.foldl_cons]
    apply Ev.step
    · intro k; rw [spec_SortRows.l0]
    simp only [if_pos (show (i : Int) < x0.length by omega)]
    exact ev_sr_false x0 acc i _ (by omega) hr hs (by omega) (by omega) acc.length 0 [] (by omega) (by simp) (by simpa using ih')
theorem ev_spec_SortRows (a : List (List Int)) (hl : a.length ≤ 1048576) (hr : ∀ x ∈ a, x.length ≤ 1048576) : Ev (fun k => spec_SortRows.f k a) (sorted a) := by
  simp only [spec_SortRows.f, sorted]
  by_cases h : 200 < a.length
  · simp only [if_pos (show (a.length : Int) > 200 by omega), if_pos h]; exact Ev.now _
  · simp only [if_neg (show ¬ (a.length : Int) > 200 by omega), if_neg h]
    have := ev_sr_l0 a (by omega) hr a.length 0 [] (by omega) rfl (by simp)
    rw [List.drop_zero, ins_eq] at this
    exact this

theorem ev_spec_l02SameInts_l0 (a b : List Int) (hl : a.length = b.length) (ha : a.length ≤ 1099511627776) : ∀ (d i : Nat), i + d = a.length → Ev (fun k => spec_l02SameInts.l0 k a b i) (decide (a.drop i = b.drop i)) := by
  intro d
  induction d with
  | zero =>
    intro i h
    apply Ev.step
    · intro k; rw [spec_l02SameInts.l0]
    simp only [if_neg (show ¬ ((i : Int) < a.length) by omega), drop_nil' (show a.length ≤ i by omega), drop_nil' (show b.length ≤ i by omega)]
    exact Ev.const (by simp)
  | succ d ih =>
    intro i h
    have ih' := ih (i + 1) (by omega)
    apply Ev.step
    · intro k; rw [spec_l02SameInts.l0]
    simp only [if_pos (show (i : Int) < a.length by omega), if_pos (show (i : Int) < b.length by omega), if_pos (show (0 : Int) ≤ i by omega), w64 (x := (i : Int) + 1) (by omega), eq_drop (show i < a.length by omega) (show i < b.length by omega)]
    by_cases he : rd a i = rd b i
    · simp only [if_pos he]
      simpa [he] using ih'
    · simp only [if_neg he]
      exact Ev.const (by simp [he])
theorem ev_spec_l02SameInts (a b : List Int) (ha : a.length ≤ 1099511627776) : Ev (fun k => spec_l02SameInts.f k a b) (decide (a = b)) := by
  simp only [spec_l02SameInts.f]
  by_cases hl : a.length = b.length
  · simp only [if_pos (show (a.length : Int) = b.length by omega)]
    simpa using ev_spec_l02SameInts_l0 a b hl ha a.length 0 (by omega)
  · simp only [if_neg (show ¬ (a.length : Int) = b.length by omega)]
    exact Ev.const (congrArg some (decide_eq_false (fun h => hl (by rw [h]))).symm)

theorem ev_spec_SameRows_l0 (a b : List (List Int)) (hl : a.length = b.length) (ha : a.length ≤ 1099511627776) (hs : ∀ x ∈ a, x.length ≤ 1099511627776) : ∀ (d i : Nat), i + d = a.length → Ev (fun k => spec_SameRows.l0 k a b i) (decide (a.drop i = b.drop i)) := by
  intro d
  induction d with
  | zero =>
    intro i h
    apply Ev.step
    · intro k; rw [spec_SameRows.l0]
    simp only [if_neg (show ¬ ((i : Int) < a.length) by omega), drop_nil' (show a.length ≤ i by omega), drop_nil' (show b.length ≤ i by omega)]
    exact Ev.const (by simp)
  | succ d ih =>
    intro i h
    have ih' := ih (i + 1) (by omega)
    have hm := hs _ (getD_mem (z := []) (show i < a.length by omega))
    rw [drop_getD a [] i (by omega), drop_getD b [] i (by omega)]
    apply Ev.step
    · intro k; rw [spec_SameRows.l0]
    simp only [if_pos (show (i : Int) < a.length by omega), if_pos (show (i : Int) < b.length by omega), if_pos (show (0 : Int) ≤ i by omega), w64 (x := (i : Int) + 1) (by omega), rd_L1, Int.toNat_natCast]
    refine Ev.bind (ev_spec_l02SameInts (a.getD i []) (b.getD i []) hm) ?_
    generalize a.getD i [] = u at hm ⊢
    generalize b.getD i [] = v
    by_cases he : u = v
    · simp only [decide_eq_true he, if_true, List.cons.injEq]
      simpa [he] using ih'
    · simp only [decide_eq_false he, if_neg Bool.false_ne_true, List.cons.injEq]
      exact Ev.const (by simp [he])
theorem ev_spec_SameRows (a b : List (List Int)) (ha : a.length ≤ 1099511627776) (hs : ∀ x ∈ a, x.length ≤ 1099511627776) : Ev (fun k => spec_SameRows.f k a b) (decide (a = b)) := by
  simp only [spec_SameRows.f]
  by_cases hl : a.length = b.length
  · simp only [if_pos (show (a.length : Int) = b.length by omega)]
    simpa using ev_spec_SameRows_l0 a b hl ha hs a.length 0 (by omega)
  · simp only [if_neg (show ¬ (a.length : Int) = b.length by omega)]
    exact Ev.const (congrArg some (decide_eq_false (fun h => hl (by rw [h]))).symm)

def sameBag (a b : List (List Int)) : Bool := decide (a.length ≤ 200 ∧ b.length ≤ 200 ∧ sorted a = sorted b)
theorem ev_spec_SameBag (a b : List (List Int)) (hl : a.length ≤ 1048576) (hr : ∀ x ∈ a, x.length ≤ 1048576) (hl2 : b.length ≤ 1048576) (hr2 : ∀ x ∈ b, x.length ≤ 1048576) : Ev (fun k => spec_SameBag.f k a b) (sameBag a b) := by
  simp only [spec_SameBag.f, sameBag]
  by_cases h : a.length ≤ 200
  · simp only [if_pos (show (a.length : Int) ≤ 200 by omega)]
    by_cases h2 : b.length ≤ 200
    · simp only [if_pos (show (b.length : Int) ≤ 200 by omega)]
      refine Ev.bind (ev_spec_SortRows a hl hr) ?_
      refine Ev.bind (ev_spec_SortRows b hl2 hr2) ?_
      refine Ev.bind (ev_spec_SameRows (sorted a) (sorted b) (by have := sorted_len a; omega) (fun x hx => by have := hr x (sorted_mem hx); omega)) ?_
      exact Ev.const (by simp [h, h2])
    · simp only [if_neg (show ¬ (b.length : Int) ≤ 200 by omega)]
      exact Ev.const (by simp [h2])
  · simp only [if_neg (show ¬ (a.length : Int) ≤ 200 by omega)]
    exact Ev.const (by simp [h])

theorem ev_impl_SameBag (a b : List (List Int)) (hl : a.length ≤ 1048576) (hr : ∀ x ∈ a, x.length ≤ 1048576) (hl2 : b.length ≤ 1048576) (hr2 : ∀ x ∈ b, x.length ≤ 1048576) : Ev (fun k => impl_SameBag.f k a b) (sameBag a b) := by
  simp only [impl_SameBag.f, sameBag]
  by_cases h : a.length ≤ 200
  · simp only [if_pos (show (a.length : Int) ≤ 200 by omega)]
    by_cases h2 : b.length ≤ 200
    · simp only [if_pos (show (b.length : Int) ≤ 200 by omega)]
      refine Ev.bind (ev_impl_SortRows a hl hr) ?_
      refine Ev.bind (ev_impl_SortRows b hl2 hr2) ?_
      refine Ev.bind (ev_impl_SameRows (sorted a) (sorted b) (by have := sorted_len a; omega) (fun x hx => by have := hr x (sorted_mem hx); omega)) ?_
      exact Ev.const (by simp [h, h2])
    · simp only [if_neg (show ¬ (b.length : Int) ≤ 200 by omega)]
      exact Ev.const (by simp [h2])
  · simp only [if_neg (show ¬ (a.length : Int) ≤ 200 by omega)]
    exact Ev.const (by simp [h])

theorem ev_eqIntS_l0 (x0 : List Int) (hl : x0.length ≤ 1099511627776) : ∀ (d : Nat) (i : Nat), i + d = x0.length → Ev (fun k => laws_eqIntS.l0 k x0 x0 i) true := by
  intro d
  induction d with
  | zero =>
    intro i h2
    apply Ev.step
    · intro k; rw [laws_eqIntS.l0]
    simp only [if_neg (show ¬ ((i : Int) < x0.length) by omega)]
    exact Ev.now _
  | succ d ih =>
    intro i h2
    apply Ev.step
    · intro k; rw [laws_eqIntS.l0]
    simp only [if_pos (show (i : Int) < x0.length by omega), if_pos (show (0 : Int) ≤ i by omega), if_true, w64 (x := (i : Int) + 1) (by omega)]
    have := ih (i + 1) (by omega)
    simpa using this
theorem ev_eqIntS (l : List Int) (h : l.length ≤ 1099511627776) : Ev (fun k => laws_eqIntS.f k l l) true := by
  simp only [laws_eqIntS.f, if_true]
  exact ev_eqIntS_l0 l h l.length 0 (by omega)

theorem ev_laws_eqIntSS_l0 (x0 : List (List Int)) (hl : x0.length ≤ 1099511627776) (hs : ∀ x ∈ x0, x.length ≤ 1099511627776) : ∀ (d : Nat) (i : Nat), i + d = x0.length → Ev (fun k => laws_eqIntSS.l0 k x0 x0 i) true := by
  intro d
  induction d with
  | zero =>
    intro i h2
    apply Ev.step
    · intro k; rw [laws_eqIntSS.l0]
    simp only [if_neg (show ¬ ((i : Int) < x0.length) by omega)]
    exact Ev.now _
  | succ d ih =>
    intro i h2
    have hg : x0[i]? = some (rd_L1 x0 (i : Int)) := by simp [rd_L1, show i < x0.length by omega]
    have hm := hs _ (List.mem_of_getElem? hg)
    apply Ev.step
    · intro k; rw [laws_eqIntSS.l0]
    simp only [if_pos (show (i : Int) < x0.length by omega), if_pos (show (0 : Int) ≤ i by omega)]
    refine Ev.bind (ev_eqIntS _ hm) ?_
    simp only [if_true, w64 (x := (i : Int) + 1) (by omega)]
    have := ih (i + 1) (by omega)
    simpa using this
theorem ev_laws_eqIntSS (l : List (List Int)) (h : l.length ≤ 1099511627776) (hs : ∀ x ∈ l, x.length ≤ 1099511627776) : Ev (fun k => laws_eqIntSS.f k l l) true := by
  simp only [laws_eqIntSS.f, if_true]
  exact ev_laws_eqIntSS_l0 l h hs l.length 0 (by omega)

theorem szIntS_eq (l : List Int) (a : Int) (h0 : 0 ≤ a) (h1 : a ≤ 1048576) (hl : l.length ≤ 9223372036854775807) : ∃ r, laws_szIntS.f l a = some r ∧ -1 ≤ r ∧ r ≤ a ∧ (0 ≤ r → l.length ≤ 1048576) := by
  by_cases hn : a - (l.length : Int) < 0
  · exact ⟨-1, by simp only [laws_szIntS.f, w64 (x := a - (l.length : Int)) (by omega), if_pos hn], by omega, by omega, fun h => by omega⟩
  · exact ⟨a - l.length, by simp only [laws_szIntS.f, w64 (x := a - (l.length : Int)) (by omega), if_neg hn], by omega, by omega, fun h => by omega⟩
theorem ev_szIntS (l : List Int) (a : Int) (h0 : 0 ≤ a) (h1 : a ≤ 1048576) (hl : l.length ≤ 9223372036854775807) : ∃ r, Ev (fun _ => laws_szIntS.f l a) r ∧ -1 ≤ r ∧ r ≤ a ∧ (0 ≤ r → l.length ≤ 1048576) := by
  obtain ⟨r, h, g⟩ := szIntS_eq l a h0 h1 hl
  exact ⟨r, Ev.const h, g⟩

def SmallIntSS (l : List (List Int)) : Prop := l.length ≤ 1048576 ∧ ∀ x ∈ l, x.length ≤ 1048576

theorem ev_laws_szIntSS_l0 (x0 : List (List Int)) (hl : x0.length ≤ 9223372036854775806) (hs : ∀ x ∈ x0, x.length ≤ 9223372036854775807) : ∀ (d : Nat) (a : Int) (i : Nat), i + d = x0.length → 0 ≤ a → a ≤ 1048576 → ∃ r, Ev (fun k => laws_szIntSS.l0 k x0 a i) r ∧ -1 ≤ r ∧ r ≤ a ∧ (0 ≤ r → ∀ x ∈ x0.drop i, x.length ≤ 1048576) := by
  intro d
  induction d with
  | zero =>
    intro a i h2 h0 h1
    refine ⟨a, ?_, by omega, by omega, fun _ x hx => ?_⟩
    · apply Ev.step
      · intro k; rw [laws_szIntSS.l0]
      simp only [if_neg (show ¬ ((i : Int) < x0.length) by omega)]
      exact Ev.now _
    · rw [List.drop_eq_nil_of_le (by omega)] at hx; cases hx
  | succ d ih =>
    intro a i h2 h0 h1
    have hg : x0[i]? = some (rd_L1 x0 (i : Int)) := by simp [rd_L1, show i < x0.length by omega]
    have hm := hs _ (List.mem_of_getElem? hg)
    obtain ⟨r1, e1, g1, g2, g3⟩ := ev_szIntS (rd_L1 x0 (i : Int)) a h0 h1 hm
    have hd : x0.drop i = rd_L1 x0 (i : Int) :: x0.drop (i + 1) := by
      rw [List.drop_eq_getElem_cons (show i < x0.length by omega)]
      congr 1
      rw [List.getElem?_eq_getElem (show i < x0.length by omega)] at hg
      injection hg
    by_cases hr : r1 < 0
    · refine ⟨-1, ?_, by omega, by omega, fun h => by omega⟩
      apply Ev.step
      · intro k; rw [laws_szIntSS.l0]
      simp only [if_pos (show (i : Int) < x0.length by omega), if_pos (show (0 : Int) ≤ i by omega)]
      refine Ev.bind e1 ?_
      simp only [if_pos hr]
      exact Ev.now _
    · obtain ⟨r2, e2, g4, g5, g6⟩ := ih r1 (i + 1) (by omega) (by omega) (by omega)
      refine ⟨r2, ?_, by omega, by omega, fun h x hx => ?_⟩
      · apply Ev.step
        · intro k; rw [laws_szIntSS.l0]
        simp only [if_pos (show (i : Int) < x0.length by omega), if_pos (show (0 : Int) ≤ i by omega)]
        refine Ev.bind e1 ?_
        simp only [if_neg hr, w64 (x := (i : Int) + 1) (by omega)]
        simpa using e2
      · rw [hd] at hx
        rcases List.mem_cons.1 hx with rfl | hx
        · exact g3 (by omega)
        · exact g6 h x hx
theorem ev_laws_szIntSS (l : List (List Int)) (a : Int) (h0 : 0 ≤ a) (h1 : a ≤ 1048576) (hl : l.length ≤ 9223372036854775807) (hs : ∀ x ∈ l, x.length ≤ 9223372036854775807) : ∃ r, Ev (fun k => laws_szIntSS.f k l a) r ∧ -1 ≤ r ∧ r ≤ a ∧ (0 ≤ r → SmallIntSS l) := by
  by_cases hn : a - (l.length : Int) < 0
  · refine ⟨-1, ?_, by omega, by omega, fun h => by omega⟩
    simp only [laws_szIntSS.f, w64 (x := a - (l.length : Int)) (by omega), if_pos hn]
    exact Ev.now _
  · obtain ⟨r, e, g1, g2, g3⟩ := ev_laws_szIntSS_l0 l (by omega) hs l.length (a - l.length) 0 (by omega) (by omega) (by omega)
    refine ⟨r, ?_, by omega, by omega, fun h => ⟨by omega, by simpa using g3 h⟩⟩
    simp only [laws_szIntSS.f, w64 (x := a - (l.length : Int)) (by omega), if_neg hn]
    exact e

theorem ev_toIntS_l0 (x0 : List Int) (hl : x0.length ≤ 1048576) : ∀ (d : Nat) (x3 : List Int) (i : Nat), x3.length = x0.length → i + d = x0.length → x3.take i = x0.take i → Ev (fun k => laws_toIntS.l0 k x0 x3 i) x0 := by
  intro d
  induction d with
  | zero =>
    intro x3 i h1 h2 h3
    apply Ev.step
    · intro k; rw [laws_toIntS.l0]
    simp only [if_neg (show ¬ ((i : Int) < x0.length) by omega)]
    rw [take_eq_all h1 (by omega) h3]
    exact Ev.now _
  | succ d ih =>
    intro x3 i h1 h2 h3
    apply Ev.step
    · intro k; rw [laws_toIntS.l0]
    simp only [if_pos (show (i : Int) < x0.length by omega), if_pos (show (0 : Int) ≤ i by omega), if_pos (show (i : Int) < x3.length by omega), w64 (x := (i : Int) + 1) (by omega)]
    have := ih (x3.set i (rd x0 i)) (i + 1) (by simp [h1]) (by omega) (take_set_at _ _ _ _ h1 (by omega) (rd_get _ _ (by omega)) h3)
    simpa using this
theorem ev_toIntS (l : List Int) (h : l.length ≤ 1048576) : Ev (fun k => laws_toIntS.f k l) l := by
  simp only [laws_toIntS.f, if_pos (show (0 : Int) ≤ l.length by omega), if_pos (show (l.length : Int).toNat ≤ 35184372088832 by omega)]
  exact ev_toIntS_l0 l h l.length _ 0 (by simp) (by omega) (by simp)

theorem ev_laws_toIntSS_l0 (x0 : List (List Int)) (hl : x0.length ≤ 1048576) (hs : ∀ x ∈ x0, x.length ≤ 1048576) : ∀ (d : Nat) (x3 : List (List Int)) (i : Nat), x3.length = x0.length → i + d = x0.length → x3.take i = (x0.map id).take i → Ev (fun k => laws_toIntSS.l0 k x0 x3 i) (x0.map id) := by
  intro d
  induction d with
  | zero =>
    intro x3 i h1 h2 h3
    apply Ev.step
    · intro k; rw [laws_toIntSS.l0]
    simp only [if_neg (show ¬ ((i : Int) < x0.length) by omega)]
    rw [take_eq_all (xs := x0.map id) (by simpa using h1) (by simp; omega) h3]
    exact Ev.now _
  | succ d ih =>
    intro x3 i h1 h2 h3
    have hg : x0[i]? = some (rd_L1 x0 (i : Int)) := by simp [rd_L1, show i < x0.length by omega]
    have hm := hs _ (List.mem_of_getElem? hg)
    apply Ev.step
    · intro k; rw [laws_toIntSS.l0]
    simp only [if_pos (show (i : Int) < x0.length by omega), if_pos (show (0 : Int) ≤ i by omega)]
    refine Ev.bind (ev_toIntS _ hm) ?_
    simp only [if_pos (show (i : Int) < x3.length by omega), w64 (x := (i : Int) + 1) (by omega)]
    have := ih (x3.set i (rd_L1 x0 (i : Int))) (i + 1) (by simp [h1]) (by omega) (take_set_at (x0.map id) _ _ _ (by simpa using h1) (by simp; omega) (by rw [List.getElem?_map, hg]; rfl) h3)
    first | (simpa using this) | (simpa [id] using this)
theorem ev_laws_toIntSS (l : List (List Int)) (h : SmallIntSS l) : Ev (fun k => laws_toIntSS.f k l) (l.map id) := by
  have h1 := h.1
  simp only [laws_toIntSS.f, if_pos (show (0 : Int) ≤ l.length by omega), if_pos (show (l.length : Int).toNat ≤ 11728124029610 by omega)]
  exact ev_laws_toIntSS_l0 l h.1 h.2 l.length _ 0 (by simp) (by omega) (by simp)

theorem holds : ∀ (l0 : List (List (Int))) (l1 : List (List (Int))), (l0.length ≤ 9223372036854775807 ∧ ∀ yl0 ∈ l0, (yl0.length ≤ 9223372036854775807 ∧ ∀ yyl0 ∈ yl0, (Lit.int .i64 yyl0).wf = true)) → (l1.length ≤ 9223372036854775807 ∧ ∀ yl1 ∈ l1, (yl1.length ≤ 9223372036854775807 ∧ ∀ yyl1 ∈ yl1, (Lit.int .i64 yyl1).wf = true)) → ∃ k, laws_FnExactSameBag.Facts k l0 l1 := by
  intro a b ha hb
  obtain ⟨q, he, g1, g2, g3⟩ := ev_laws_szIntSS a 1048576 (by omega) (by omega) ha.1 (fun x hx => (ha.2 x hx).1)
  by_cases hq : q < 0
  · obtain ⟨k, hk⟩ := he.rounds
    exact ⟨k, .inl ⟨q, hk, hq⟩⟩
  obtain ⟨q2, he2, g4, g5, g6⟩ := ev_laws_szIntSS b q (by omega) (by omega) hb.1 (fun x hx => (hb.2 x hx).1)
  obtain ⟨k1, e1⟩ := he
  obtain ⟨k2, e2⟩ := he2
  by_cases hq2 : q2 < 0
  · exact ⟨k1 + k2, .inr (.inl ⟨q, q2, e1 _ (by omega), hq, e2 _ (by omega), hq2⟩)⟩
  have hS := g3 (by omega)
  have hT := g6 (by omega)
  have hS1 := hS.1
  have hT1 := hT.1
  have hto := ev_laws_toIntSS a hS
  have hto2 := ev_laws_toIntSS b hT
  rw [List.map_id] at hto hto2
  obtain ⟨k3, e3⟩ := hto
  obtain ⟨k4, e4⟩ := hto2
  obtain ⟨k5, e5⟩ := ev_spec_SameBag a b hS1 hS.2 hT1 hT.2
  obtain ⟨k6, e6⟩ := ev_impl_SameBag a b hS1 hS.2 hT1 hT.2
  obtain ⟨k7, e7⟩ := ev_laws_eqIntSS a (by omega) (fun x hx => by have := hS.2 x hx; omega)
  obtain ⟨k8, e8⟩ := ev_laws_eqIntSS b (by omega) (fun x hx => by have := hT.2 x hx; omega)
  let k := k1 + k2 + k3 + k4 + k5 + k6 + k7 + k8
  exact ⟨k, .inr (.inr ⟨q, q2, a, b, _, e1 k (by omega), hq, e2 k (by omega), hq2, e3 k (by omega), e4 k (by omega), e5 k (by omega), e6 k (by omega), e7 k (by omega), e8 k (by omega)⟩)⟩

end EFnExactSameBag
open Go.RowKit Go.Proofs.YtbdfidnldaghbaaW.PrintWords Go.Proofs.YtbdfidnldaghbaaW.PrintLast Go.Proofs.YtbdfidnldaghbaaW.PrintMore Go.Proofs.Ytbdfidnldaghbaa.Lib Go.Proofs.Ytbdfidnldaghbaa.Q
theorem FnExactSameBag : ∀ (l0 : List (List (Int))) (l1 : List (List (Int))), (l0.length ≤ 9223372036854775807 ∧ ∀ yl0 ∈ l0, (yl0.length ≤ 9223372036854775807 ∧ ∀ yyl0 ∈ yl0, (Lit.int .i64 yyl0).wf = true)) → (l1.length ≤ 9223372036854775807 ∧ ∀ yl1 ∈ l1, (yl1.length ≤ 9223372036854775807 ∧ ∀ yyl1 ∈ yl1, (Lit.int .i64 yyl1).wf = true)) → ∃ k, laws_FnExactSameBag.Facts k l0 l1 := EFnExactSameBag.holds
end Go.Proofs.Ytbdfidnldaghbaa.Pure
