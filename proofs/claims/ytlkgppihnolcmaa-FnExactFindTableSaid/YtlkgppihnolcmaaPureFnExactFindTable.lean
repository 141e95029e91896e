/- Of every list of tables and every name: the program's FindTable gives what the reference's FindTable gives, and its arguments stay as they were. -/
import Derived.Test.YtlkgppihnolcmaaQx6
import Derived.Test.YtlkgppihnolcmaaShapes
import Derived.Test.YtlkgppihnolcmaaLib
set_option linter.unusedVariables false
set_option linter.unusedSimpArgs false
namespace Go.Proofs.Ytlkgppihnolcmaa.Pure
namespace EFnExactFindTable
open Go.RowKit Go.Proofs.YtlkgppihnolcmaaW.PrintWords Go.Proofs.YtlkgppihnolcmaaW.PrintLast Go.Proofs.YtlkgppihnolcmaaW.PrintMore Go.Proofs.Ytlkgppihnolcmaa.Lib Go.Proofs.Ytlkgppihnolcmaa.Q

theorem impl_in_eq (a b c : Int) : impl_in.f a b c = some (decide (b ≤ a ∧ a ≤ c)) := by
  unfold impl_in.f
  by_cases h : b ≤ a
  · rw [if_pos h]; simp [h]
  · rw [if_neg (show ¬ a ≥ b from h)]; simp [h]

theorem ev_impl_WordOk_l0 (s : ByteArray) (hs : s.size ≤ 1099511627776) : ∀ (d i : Nat), i + d = s.size → Ev (fun k => impl_WordOk.l0 k s (s.size : Int) i) (wordFrom s d i && decide (1 ≤ s.size ∧ s.size ≤ 12)) := by
  intro d
  induction d with
  | zero =>
    intro i h
    apply Ev.step
    · intro k; rw [impl_WordOk.l0]
    simp only [if_neg (show ¬ ((i : Int) < s.size) by omega), impl_in_eq, Option.bind_some, wordFrom, Bool.true_and]
    refine Ev.const (congrArg some ?_)
    exact decide_eq_decide.mpr (by omega)
  | succ d ih =>
    intro i h
    have ih' := ih (i + 1) (by omega)
    apply Ev.step
    · intro k; rw [impl_WordOk.l0]
    simp only [if_pos (show (i : Int) < s.size by omega), if_pos (show (0 : Int) ≤ i by omega), w64 (x := (i : Int) + 1) (by omega), wordFrom]
    by_cases h1 : bt s i ≥ 97
    · simp only [if_pos h1]
      by_cases h2 : bt s i ≤ 122
      · simp only [if_pos h2, show okAt s i = true by simp [okAt]; omega, Bool.true_and]; exact ih'
      · simp only [if_neg h2]
        by_cases h0 : (i : Int) = 0
        · simp only [if_pos h0, show okAt s i = false by simp [okAt]; omega, Bool.false_and]; exact Ev.now _
        · simp only [if_neg h0, if_neg (show ¬ bt s i < 48 by omega), if_pos (show bt s i > 57 by omega), show okAt s i = false by simp [okAt]; omega, Bool.false_and]; exact Ev.now _
    · simp only [if_neg h1]
      by_cases h0 : (i : Int) = 0
      · simp only [if_pos h0, show okAt s i = false by simp [okAt]; omega, Bool.false_and]; exact Ev.now _
      · simp only [if_neg h0]
        by_cases h2 : bt s i < 48
        · simp only [if_pos h2, show okAt s i = false by simp [okAt]; omega, Bool.false_and]; exact Ev.now _
        · by_cases h3 : bt s i > 57
          · simp only [if_neg h2, if_pos h3, show okAt s i = false by simp [okAt]; omega, Bool.false_and]; exact Ev.now _
          · simp only [if_neg h2, if_neg h3, show okAt s i = true by simp [okAt]; omega, Bool.true_and]; exact ih'
theorem ev_impl_WordOk (s : ByteArray) (hs : s.size ≤ 1099511627776) : Ev (fun k => impl_WordOk.f k s) (wordOk s) := by
  have := ev_impl_WordOk_l0 s hs s.size 0 (by omega)
  rw [Bool.and_comm] at this
  exact this

def schAt (s : List S42) (i : Nat) : Bool :=
  wordOk (rd_T42 s i).f0 && (decide (1 ≤ (rd_T42 s i).f1 ∧ (rd_T42 s i).f1 ≤ 6) && (decide (i = 0) || Op.bytesLess (rd_T42 s ((i : Int) - 1)).f0.toList (rd_T42 s i).f0.toList))
def schFrom (s : List S42) : Nat → Nat → Bool
  | 0, _ => true
  | d + 1, i => schAt s i && schFrom s d (i + 1)
def schemaOk (s : List S42) : Bool := decide (s.length ≤ 8) && schFrom s s.length 0
theorem rdT_mem {s : List S42} {i : Nat} (h : i < s.length) : rd_T42 s i ∈ s := by
  have := getD_mem (z := z42) h
  simpa [rd_T42] using this

theorem ev_impl_SchemaOk_l0 (s : List S42) (hl : s.length ≤ 1099511627776) (hs : ∀ x ∈ s, x.f0.size ≤ 1048576) : ∀ (d i : Nat), i + d = s.length → Ev (fun k => impl_SchemaOk.l0 k s s (s.length : Int) i) (schFrom s d i && decide (s.length ≤ 8)) := by
  intro d
  induction d with
  | zero =>
    intro i h
    apply Ev.step
    · intro k; rw [impl_SchemaOk.l0]
    simp only [if_neg (show ¬ ((i : Int) < s.length) by omega), schFrom, Bool.true_and]
    exact Ev.const (congrArg some (decide_eq_decide.mpr (by omega)))
  | succ d ih =>
    intro i h
    have ih' := ih (i + 1) (by omega)
    have hm := hs _ (rdT_mem (show i < s.length by omega))
    apply Ev.step
    · intro k; rw [impl_SchemaOk.l0]
    simp only [if_pos (show (i : Int) < s.length by omega), if_pos (show (0 : Int) ≤ i by omega), w64 (x := (i : Int) + 1) (by omega), schFrom, schAt]
    refine Ev.bind (ev_impl_WordOk _ (by omega)) ?_
    by_cases h1 : wordOk (rd_T42 s i).f0 = true
    · simp only [h1, if_true, impl_in_eq, Option.bind_some, Bool.true_and]
      by_cases h2 : 1 ≤ (rd_T42 s i).f1 ∧ (rd_T42 s i).f1 ≤ 6
      · simp only [decide_eq_true h2, if_true, Bool.true_and]
        by_cases h3 : (i : Int) > 0
        · simp only [if_pos h3, w64 (x := (i : Int) - 1) (by omega), if_pos (show (0 : Int) ≤ (i : Int) - 1 by omega), if_pos (show (i : Int) - 1 < s.length by omega), decide_eq_false (show ¬ i = 0 by omega), Bool.false_or]
          by_cases h4 : Op.bytesLess (rd_T42 s ((i : Int) - 1)).f0.toList (rd_T42 s i).f0.toList = true
          · simp only [h4, if_true, Bool.true_and]; simpa using ih'
          · simp only [if_neg h4, Bool.eq_false_iff.mpr h4, Bool.false_and]; exact Ev.now _
        · simp only [if_neg h3, decide_eq_true (show i = 0 by omega), Bool.true_or, Bool.true_and]; simpa using ih'
      · simp only [decide_eq_false h2, if_neg Bool.false_ne_true, Bool.false_and]; exact Ev.now _
    · simp only [if_neg h1, Bool.eq_false_iff.mpr h1, Bool.false_and]; exact Ev.now _
theorem ev_impl_SchemaOk (s : List S42) (hl : s.length ≤ 1099511627776) (hs : ∀ x ∈ s, x.f0.size ≤ 1048576) : Ev (fun k => impl_SchemaOk.f k s) (schemaOk s) := by
  have := ev_impl_SchemaOk_l0 s hl hs s.length 0 (by omega)
  rw [Bool.and_comm] at this
  simpa [impl_SchemaOk.f, schemaOk] using this

def findFrom (s : List S42) (n : ByteArray) : Nat → Nat → Int
  | 0, _ => -1
  | d + 1, i => if (rd_T42 s (i : Int)).f0.toList = n.toList then (i : Int) else findFrom s n d (i + 1)
def findT (s : List S42) (n : ByteArray) : Int := findFrom s n s.length 0
theorem findFrom_range (s : List S42) (n : ByteArray) : ∀ d i : Nat, i + d = s.length → -1 ≤ findFrom s n d i ∧ findFrom s n d i < s.length := by
  intro d
  induction d with
  | zero => intro i h; unfold findFrom; omega
  | succ d ih =>
    intro i h
    have := ih (i + 1) (by omega)
    unfold findFrom
    split <;> omega
theorem findT_range (s : List S42) (n : ByteArray) : -1 ≤ findT s n ∧ findT s n < s.length := findFrom_range s n s.length 0 (by omega)
def findTable (s : List S42) (n : ByteArray) : ByteArray × Int × Bool :=
  if schemaOk s = true then (if findT s n < 0 then (⟨#[]⟩, 0, false) else ((rd_T42 s (findT s n)).f0, (rd_T42 s (findT s n)).f1, true)) else (⟨#[]⟩, 0, false)

theorem ev_impl_tableAt_l0 (s : List S42) (n : ByteArray) (hl : s.length ≤ 1048576) : ∀ (d i : Nat), i + d = s.length → Ev (fun k => impl_tableAt.l0 k s n (s.length : Int) i) (findFrom s n d i) := by
  intro d
  induction d with
  | zero =>
    intro i h
    apply Ev.step
    · intro k; rw [impl_tableAt.l0]
    simp only [if_neg (show ¬ ((i : Int) < s.length) by omega), findFrom]
    exact Ev.now _
  | succ d ih =>
    intro i h
    have ih' := ih (i + 1) (by omega)
    apply Ev.step
    · intro k; rw [impl_tableAt.l0]
    simp only [if_pos (show (i : Int) < s.length by omega), if_pos (show (0 : Int) ≤ i by omega), w64 (x := (i : Int) + 1) (by omega), findFrom, beq_iff_eq]
    refine Ev_ite (fun h1 => ?_) (fun h1 => ?_)
    · rw [if_pos h1]; exact Ev.now _
    · rw [if_neg h1]; simpa using ih'
theorem ev_impl_tableAt (s : List S42) (n : ByteArray) (hl : s.length ≤ 1048576) : Ev (fun k => impl_tableAt.f k s n) (findT s n) := by
  simpa [impl_tableAt.f, findT] using ev_impl_tableAt_l0 s n hl s.length 0 (by omega)

theorem ev_impl_FindTable (s : List S42) (n : ByteArray) (hl : s.length ≤ 1048576) (hs : ∀ x ∈ s, x.f0.size ≤ 1048576) : Ev (fun k => impl_FindTable.f k s n) (findTable s n) := by
  have hr := findT_range s n
  simp only [impl_FindTable.f]
  refine Ev.bind (ev_impl_tableAt s n hl) ?_
  refine Ev.bind (ev_impl_SchemaOk s (by omega) hs) ?_
  unfold findTable
  refine Ev_ite (fun h1 => ?_) (fun h1 => ?_)
  · rw [if_pos h1]
    refine Ev_ite (fun h2 => ?_) (fun h2 => ?_)
    · rw [if_pos h2]; exact Ev.now _
    · rw [if_neg h2, if_pos (by omega), if_pos (by omega)]; exact Ev.now _
  · rw [if_neg h1]; exact Ev.now _

theorem eqTable_eq (a : ByteArray) (b : Int) : laws_eqTable.f a b a b = some true := by simp [laws_eqTable.f]

theorem ev_laws_eqTableS_l0 (x0 : List (S42)) (hl : x0.length ≤ 1099511627776) (hs : ∀ x ∈ x0, True) : ∀ (d : Nat) (i : Nat), i + d = x0.length → Ev (fun k => laws_eqTableS.l0 k x0 x0 i) true := by
  intro d
  induction d with
  | zero =>
    intro i h2
    apply Ev.step
    · intro k; rw [laws_eqTableS.l0]
    simp only [if_neg (show ¬ ((i : Int) < x0.length) by omega)]
    exact Ev.now _
  | succ d ih =>
    intro i h2
    have hg : x0[i]? = some (rd_T42 x0 (i : Int)) := by simp [rd_T42, show i < x0.length by omega]
    have hm := hs _ (List.mem_of_getElem? hg)
    apply Ev.step
    · intro k; rw [laws_eqTableS.l0]
    simp only [if_pos (show (i : Int) < x0.length by omega), if_pos (show (0 : Int) ≤ i by omega)]
    refine Ev.bind (Ev.const (eqTable_eq _ _)) ?_
    simp only [if_true, w64 (x := (i : Int) + 1) (by omega)]
    have := ih (i + 1) (by omega)
    simpa using this
theorem ev_laws_eqTableS (l : List (S42)) (h : l.length ≤ 1099511627776) (hs : ∀ x ∈ l, True) : Ev (fun k => laws_eqTableS.f k l l) true := by
  simp only [laws_eqTableS.f, if_true]
  exact ev_laws_eqTableS_l0 l h hs l.length 0 (by omega)

theorem szTable_eq (s : ByteArray) (n : Int) (a : Int) (h0 : 0 ≤ a) (h1 : a ≤ 1048576) (hl : s.size ≤ 9223372036854775807) : ∃ r, laws_szTable.f s n a = some r ∧ -1 ≤ r ∧ r ≤ a ∧ (0 ≤ r → s.size ≤ 1048576) := by
  by_cases hn : a - (s.size : Int) < 0
  · exact ⟨-1, by simp only [laws_szTable.f, w64 (x := a - (s.size : Int)) (by omega), if_pos hn], by omega, by omega, fun h => by omega⟩
  · exact ⟨a - s.size, by simp only [laws_szTable.f, w64 (x := a - (s.size : Int)) (by omega), if_neg hn], by omega, by omega, fun h => by omega⟩
theorem ev_szTable (x : S53) (a : Int) (h0 : 0 ≤ a) (h1 : a ≤ 1048576) (hl : x.f0.size ≤ 9223372036854775807) : ∃ r, Ev (fun _ => laws_szTable.f x.f0 x.f1 a) r ∧ -1 ≤ r ∧ r ≤ a ∧ (0 ≤ r → x.f0.size ≤ 1048576) := by
  obtain ⟨r, h, g⟩ := szTable_eq x.f0 x.f1 a h0 h1 hl
  exact ⟨r, Ev.const h, g⟩

def SmallTableS (l : List S53) : Prop := l.length ≤ 1048576 ∧ ∀ x ∈ l, x.f0.size ≤ 1048576
def cvTable (x : S53) : S42 := ⟨x.f0, x.f1⟩

theorem ev_laws_szTableS_l0 (x0 : List (S53)) (hl : x0.length ≤ 9223372036854775806) (hs : ∀ x ∈ x0, x.f0.size ≤ 9223372036854775807) : ∀ (d : Nat) (a : Int) (i : Nat), i + d = x0.length → 0 ≤ a → a ≤ 1048576 → ∃ r, Ev (fun k => laws_szTableS.l0 k x0 a i) r ∧ -1 ≤ r ∧ r ≤ a ∧ (0 ≤ r → ∀ x ∈ x0.drop i, x.f0.size ≤ 1048576) := by
  intro d
  induction d with
  | zero =>
    intro a i h2 h0 h1
    refine ⟨a, ?_, by omega, by omega, fun _ x hx => ?_⟩
    · apply Ev.step
      · intro k; rw [laws_szTableS.l0]
      simp only [if_neg (show ¬ ((i : Int) < x0.length) by omega)]
      exact Ev.now _
    · rw [List.drop_eq_nil_of_le (by omega)] at hx; cases hx
  | succ d ih =>
    intro a i h2 h0 h1
    have hg : x0[i]? = some (rd_T53 x0 (i : Int)) := by simp [rd_T53, show i < x0.length by omega]
    have hm := hs _ (List.mem_of_getElem? hg)
    obtain ⟨r1, e1, g1, g2, g3⟩ := ev_szTable (rd_T53 x0 (i : Int)) a h0 h1 hm
    have hd : x0.drop i = rd_T53 x0 (i : Int) :: x0.drop (i + 1) := by
      rw [List.drop_eq_getElem_cons (show i < x0.length by omega)]
      congr 1
      rw [List.getElem?_eq_getElem (show i < x0.length by omega)] at hg
      injection hg
    by_cases hr : r1 < 0
    · refine ⟨-1, ?_, by omega, by omega, fun h => by omega⟩
      apply Ev.step
      · intro k; rw [laws_szTableS.l0]
      simp only [if_pos (show (i : Int) < x0.length by omega), if_pos (show (0 : Int) ≤ i by omega)]
      refine Ev.bind e1 ?_
      simp only [if_pos hr]
      exact Ev.now _
    · obtain ⟨r2, e2, g4, g5, g6⟩ := ih r1 (i + 1) (by omega) (by omega) (by omega)
      refine ⟨r2, ?_, by omega, by omega, fun h x hx => ?_⟩
      · apply Ev.step
        · intro k; rw [laws_szTableS.l0]
        simp only [if_pos (show (i : Int) < x0.length by omega), if_pos (show (0 : Int) ≤ i by omega)]
        refine Ev.bind e1 ?_
        simp only [if_neg hr, w64 (x := (i : Int) + 1) (by omega)]
        simpa using e2
      · rw [hd] at hx
        rcases List.mem_cons.1 hx with rfl | hx
        · exact g3 (by omega)
        · exact g6 h x hx
theorem ev_laws_szTableS (l : List (S53)) (a : Int) (h0 : 0 ≤ a) (h1 : a ≤ 1048576) (hl : l.length ≤ 9223372036854775807) (hs : ∀ x ∈ l, x.f0.size ≤ 9223372036854775807) : ∃ r, Ev (fun k => laws_szTableS.f k l a) r ∧ -1 ≤ r ∧ r ≤ a ∧ (0 ≤ r → SmallTableS l) := by
  by_cases hn : a - (l.length : Int) < 0
  · refine ⟨-1, ?_, by omega, by omega, fun h => by omega⟩
    simp only [laws_szTableS.f, w64 (x := a - (l.length : Int)) (by omega), if_pos hn]
    exact Ev.now _
  · obtain ⟨r, e, g1, g2, g3⟩ := ev_laws_szTableS_l0 l (by omega) hs l.length (a - l.length) 0 (by omega) (by omega) (by omega)
    refine ⟨r, ?_, by omega, by omega, fun h => ⟨by omega, by simpa using g3 h⟩⟩
    simp only [laws_szTableS.f, w64 (x := a - (l.length : Int)) (by omega), if_neg hn]
    exact e

theorem ev_laws_toTableS_l0 (x0 : List (S53)) (hl : x0.length ≤ 1048576) (hs : ∀ x ∈ x0, x.f0.size ≤ 1048576) : ∀ (d : Nat) (x3 : List (S42)) (i : Nat), x3.length = x0.length → i + d = x0.length → x3.take i = (x0.map cvTable).take i → Ev (fun k => laws_toTableS.l0 k x0 x3 i) (x0.map cvTable) := by
  intro d
  induction d with
  | zero =>
    intro x3 i h1 h2 h3
    apply Ev.step
    · intro k; rw [laws_toTableS.l0]
    simp only [if_neg (show ¬ ((i : Int) < x0.length) by omega)]
    rw [take_eq_all (xs := x0.map cvTable) (by simpa using h1) (by simp; omega) h3]
    exact Ev.now _
  | succ d ih =>
    intro x3 i h1 h2 h3
    have hg : x0[i]? = some (rd_T53 x0 (i : Int)) := by simp [rd_T53, show i < x0.length by omega]
    have hm := hs _ (List.mem_of_getElem? hg)
    apply Ev.step
    · intro k; rw [laws_toTableS.l0]
    simp only [if_pos (show (i : Int) < x0.length by omega), if_pos (show (0 : Int) ≤ i by omega)]
    simp only [laws_toTable.f, Option.bind_some]
    simp only [if_pos (show (i : Int) < x3.length by omega), w64 (x := (i : Int) + 1) (by omega)]
    have := ih (x3.set i ((⟨(rd_T53 x0 (i : Int)).f0, (rd_T53 x0 (i : Int)).f1⟩ : S42))) (i + 1) (by simp [h1]) (by omega) (take_set_at (x0.map cvTable) _ _ _ (by simpa using h1) (by simp; omega) (by rw [List.getElem?_map, hg]; rfl) h3)
    first | (simpa using this) | (simpa [cvTable] using this)
theorem ev_laws_toTableS (l : List (S53)) (h : SmallTableS l) : Ev (fun k => laws_toTableS.f k l) (l.map cvTable) := by
  have h1 := h.1
  simp only [laws_toTableS.f, if_pos (show (0 : Int) ≤ l.length by omega), if_pos (show (l.length : Int).toNat ≤ 11728124029610 by omega)]
  exact ev_laws_toTableS_l0 l h.1 h.2 l.length _ 0 (by simp) (by omega) (by simp)

theorem spec_l01In_eq (a b c : Int) : spec_l01In.f a b c = some (decide (b ≤ a ∧ a ≤ c)) := by
  unfold spec_l01In.f
  by_cases h : b ≤ a
  · rw [if_pos h]; simp [h]
  · rw [if_neg h]; simp [h]

theorem ev_spec_WordOk_l0 (s : ByteArray) (hs : s.size ≤ 1099511627776) : ∀ (d i : Nat), i + d = s.size → (i = 0 → 97 ≤ bt s 0) → Ev (fun k => spec_WordOk.l0 k s i) (wordFrom s d i) := by
  intro d
  induction d with
  | zero =>
    intro i h _
    apply Ev.step
    · intro k; rw [spec_WordOk.l0]
    simp only [if_neg (show ¬ ((i : Int) < s.size) by omega)]
    exact Ev.now _
  | succ d ih =>
    intro i h h0
    have ih' := ih (i + 1) (by omega) (by omega)
    apply Ev.step
    · intro k; rw [spec_WordOk.l0]
    simp only [if_pos (show (i : Int) < s.size by omega), if_pos (show (0 : Int) ≤ i by omega), w64 (x := (i : Int) + 1) (by omega), wordFrom]
    have hi : i = 0 → 97 ≤ bt s i := by intro e; subst e; exact h0 rfl
    by_cases h1 : bt s i < 97
    · simp only [if_pos h1]
      have hp : 0 < i := by rcases Nat.eq_zero_or_pos i with e | e; · have := hi e; omega
                            · exact e
      by_cases h2 : bt s i < 48
      · simp only [if_pos h2, show okAt s i = false by simp [okAt]; omega, Bool.false_and]; exact Ev.now _
      · by_cases h3 : bt s i > 57
        · simp only [if_neg h2, if_pos h3, show okAt s i = false by simp [okAt]; omega, Bool.false_and]; exact Ev.now _
        · simp only [if_neg h2, if_neg h3, show okAt s i = true by simp [okAt]; omega, Bool.true_and]; exact ih'
    · simp only [if_neg h1]
      by_cases h2 : bt s i > 122
      · simp only [if_pos h2, if_neg (show ¬ bt s i < 48 by omega), if_pos (show bt s i > 57 by omega), show okAt s i = false by simp [okAt]; omega, Bool.false_and]; exact Ev.now _
      · simp only [if_neg h2, show okAt s i = true by simp [okAt]; omega, Bool.true_and]; exact ih'
theorem ev_spec_WordOk (s : ByteArray) (hs : s.size ≤ 1099511627776) : Ev (fun k => spec_WordOk.f k s) (wordOk s) := by
  simp only [spec_WordOk.f, spec_l01In_eq, Option.bind_some, decide_eq_true_eq, wordOk]
  by_cases h : 1 ≤ s.size ∧ s.size ≤ 12
  · simp only [if_pos (show 1 ≤ (s.size : Int) ∧ (s.size : Int) ≤ 12 by omega), if_pos (show (0 : Int) < s.size by omega), decide_eq_true h, Bool.true_and]
    apply Ev.step
    · intro k; rw [spec_WordOk.j0]
    simp only [decide_eq_true_eq]
    by_cases h1 : bt s 0 < 97
    · simp only [if_pos h1]
      obtain ⟨d, hd⟩ : ∃ d, s.size = d + 1 := ⟨s.size - 1, by omega⟩
      rw [hd, wordFrom, show okAt s 0 = false by simp [okAt]; omega, Bool.false_and]
      exact Ev.now _
    · simp only [if_neg h1]
      exact ev_spec_WordOk_l0 s hs s.size 0 (by omega) (by omega)
  · simp only [if_neg (show ¬ (1 ≤ (s.size : Int) ∧ (s.size : Int) ≤ 12) by omega), decide_eq_false h, Bool.false_and]
    apply Ev.step
    · intro k; rw [spec_WordOk.j0]
    simp only [if_true]
    exact Ev.now _

theorem ev_spec_l01Less_l0 (a b : ByteArray) (ha : a.size ≤ 1099511627776) (hb : b.size ≤ 1099511627776) : ∀ (d i : Nat), i + d = a.size → Ev (fun k => spec_l01Less.l0 k a b i) (Op.bytesLess (a.toList.drop i) (b.toList.drop i)) := by
  intro d
  induction d with
  | zero =>
    intro i h
    apply Ev.step
    · intro k; rw [spec_l01Less.l0]
    simp only [if_neg (show ¬ ((i : Int) < a.size) by omega)]
    apply Ev.step
    · intro k; rw [spec_l01Less.j1]
    simp only [if_neg Bool.false_ne_true, toList_end a i (by omega)]
    refine Ev.const (congrArg some ?_)
    by_cases hb' : i < b.size
    · obtain ⟨y, e, _⟩ := toList_drop b i hb'
      rw [e, decide_eq_true (show (a.size : Int) < b.size by omega)]; rfl
    · rw [toList_end b i (by omega), decide_eq_false (show ¬ (a.size : Int) < b.size by omega)]; rfl
  | succ d ih =>
    intro i h
    have ih' := ih (i + 1) (by omega)
    obtain ⟨x, ex, hx⟩ := toList_drop a i (by omega)
    apply Ev.step
    · intro k; rw [spec_l01Less.l0]
    simp only [if_pos (show (i : Int) < a.size by omega)]
    by_cases hb' : i < b.size
    · obtain ⟨y, ey, hy⟩ := toList_drop b i hb'
      rw [ex, ey, bytesLess_cons hx hy]
      apply Ev.step
      · intro k; rw [spec_l01Less.j1]
      simp only [decide_eq_true (show (i : Int) < b.size by omega), if_true, if_pos (show (0 : Int) ≤ i by omega), if_pos (show (i : Int) < a.size by omega), if_pos (show (i : Int) < b.size by omega), w64 (x := (i : Int) + 1) (by omega)]
      by_cases he : bt a i = bt b i
      · simp only [if_pos he, decide_eq_true he, decide_eq_false (show ¬ bt a i < bt b i by omega), Bool.false_or, Bool.true_and]
        simpa using ih'
      · simp only [if_neg he, decide_eq_false he, Bool.false_and, Bool.or_false]
        exact Ev.now _
    · rw [toList_end b i (by omega)]
      apply Ev.step
      · intro k; rw [spec_l01Less.j1]
      simp only [decide_eq_false (show ¬ (i : Int) < b.size by omega), if_neg Bool.false_ne_true]
      refine Ev.const (congrArg some ?_)
      rw [ex, decide_eq_false (show ¬ (a.size : Int) < b.size by omega)]; rfl
theorem ev_spec_l01Less (a b : ByteArray) (ha : a.size ≤ 1099511627776) (hb : b.size ≤ 1099511627776) : Ev (fun k => spec_l01Less.f k a b) (Op.bytesLess a.toList b.toList) := by
  simpa [spec_l01Less.f] using ev_spec_l01Less_l0 a b ha hb a.size 0 (by omega)

theorem ev_spec_SchemaOk_l0 (s : List S42) (hl : s.length ≤ 1099511627776) (hs : ∀ x ∈ s, x.f0.size ≤ 1048576) : ∀ (d i : Nat), i + d = s.length → Ev (fun k => spec_SchemaOk.l0 k s i) (schFrom s d i) := by
  intro d
  induction d with
  | zero =>
    intro i h
    apply Ev.step
    · intro k; rw [spec_SchemaOk.l0]
    simp only [if_neg (show ¬ ((i : Int) < s.length) by omega)]
    exact Ev.now _
  | succ d ih =>
    intro i h
    have ih' := ih (i + 1) (by omega)
    have hm := hs _ (rdT_mem (show i < s.length by omega))
    apply Ev.step
    · intro k; rw [spec_SchemaOk.l0]
    simp only [if_pos (show (i : Int) < s.length by omega), if_pos (show (0 : Int) ≤ i by omega), w64 (x := (i : Int) + 1) (by omega), schFrom, schAt]
    refine Ev.bind (ev_spec_WordOk _ (by omega)) ?_
    by_cases h1 : wordOk (rd_T42 s i).f0 = true
    · simp only [h1, if_true, spec_l01In_eq, Option.bind_some, Bool.true_and]
      by_cases h2 : 1 ≤ (rd_T42 s i).f1 ∧ (rd_T42 s i).f1 ≤ 6
      · simp only [decide_eq_true h2, if_true, Bool.true_and]
        by_cases h3 : (i : Int) > 0
        · have hm2 := hs _ (rdT_mem (show i - 1 < s.length by omega))
          rw [show ((i - 1 : Nat) : Int) = (i : Int) - 1 by omega] at hm2
          simp only [if_pos h3, w64 (x := (i : Int) - 1) (by omega), if_pos (show (0 : Int) ≤ (i : Int) - 1 by omega), if_pos (show (i : Int) - 1 < s.length by omega), decide_eq_false (show ¬ i = 0 by omega), Bool.false_or]
          refine Ev.bind (ev_spec_l01Less _ _ (by omega) (by omega)) ?_
          by_cases h4 : Op.bytesLess (rd_T42 s ((i : Int) - 1)).f0.toList (rd_T42 s i).f0.toList = true
          · simp only [h4, if_true, Bool.true_and]; simpa using ih'
          · simp only [if_neg h4, Bool.eq_false_iff.mpr h4, Bool.false_and]; exact Ev.now _
        · simp only [if_neg h3, decide_eq_true (show i = 0 by omega), Bool.true_or, Bool.true_and]; simpa using ih'
      · simp only [decide_eq_false h2, if_neg Bool.false_ne_true, Bool.false_and]; exact Ev.now _
    · simp only [if_neg h1, Bool.eq_false_iff.mpr h1, Bool.false_and]; exact Ev.now _
theorem ev_spec_SchemaOk (s : List S42) (hl : s.length ≤ 1099511627776) (hs : ∀ x ∈ s, x.f0.size ≤ 1048576) : Ev (fun k => spec_SchemaOk.f k s) (schemaOk s) := by
  simp only [spec_SchemaOk.f, schemaOk]
  by_cases h : s.length ≤ 8
  · simp only [if_neg (show ¬ (s.length : Int) > 8 by omega), decide_eq_true h, Bool.true_and]
    exact ev_spec_SchemaOk_l0 s hl hs s.length 0 (by omega)
  · simp only [if_pos (show (s.length : Int) > 8 by omega), decide_eq_false h, Bool.false_and]
    exact Ev.now _

theorem ev_spec_l03Find_l0 (s : List S42) (n : ByteArray) (hl : s.length ≤ 1048576) : ∀ (d i : Nat), i + d = s.length → Ev (fun k => spec_l03Find.l0 k s n i) (findFrom s n d i) := by
  intro d
  induction d with
  | zero =>
    intro i h
    apply Ev.step
    · intro k; rw [spec_l03Find.l0]
    simp only [if_neg (show ¬ ((i : Int) < s.length) by omega), findFrom]
    exact Ev.now _
  | succ d ih =>
    intro i h
    have ih' := ih (i + 1) (by omega)
    apply Ev.step
    · intro k; rw [spec_l03Find.l0]
    simp only [if_pos (show (i : Int) < s.length by omega), if_pos (show (0 : Int) ≤ i by omega), w64 (x := (i : Int) + 1) (by omega), findFrom]
    refine Ev_ite (fun h1 => ?_) (fun h1 => ?_)
    · rw [if_pos h1]; exact Ev.now _
    · rw [if_neg h1]; simpa using ih'
theorem ev_spec_l03Find (s : List S42) (n : ByteArray) (hl : s.length ≤ 1048576) : Ev (fun k => spec_l03Find.f k s n) (findT s n) := by
  simpa [spec_l03Find.f, findT] using ev_spec_l03Find_l0 s n hl s.length 0 (by omega)

theorem ev_spec_FindTable (s : List S42) (n : ByteArray) (hl : s.length ≤ 1048576) (hs : ∀ x ∈ s, x.f0.size ≤ 1048576) : Ev (fun k => spec_FindTable.f k s n) (findTable s n) := by
  have hr := findT_range s n
  simp only [spec_FindTable.f]
  refine Ev.bind (ev_spec_l03Find s n hl) ?_
  refine Ev.bind (ev_spec_SchemaOk s (by omega) hs) ?_
  unfold findTable
  refine Ev_ite (fun h1 => ?_) (fun h1 => ?_)
  · rw [if_pos h1]
    refine Ev_ite (fun h2 => ?_) (fun h2 => ?_)
    · rw [if_pos h2]; exact Ev.now _
    · rw [if_neg h2, if_pos (by omega), if_pos (by omega)]; exact Ev.now _
  · rw [if_neg h1]; exact Ev.now _

theorem holds : ∀ (l0 : List (S53)) (a1 : ByteArray), (l0.length ≤ 9223372036854775807 ∧ ∀ yl0 ∈ l0, Ok53 yl0) → a1.size ≤ 140737488351232 → ∃ k, laws_FnExactFindTable.f k l0 a1 = some true := by
  intro l n hl hn
  apply Ev.ex
  simp only [laws_FnExactFindTable.f]
  by_cases hz : (n.size : Int) > 1048576
  · simp only [if_pos hz]; exact Ev.now _
  simp only [if_neg hz]
  obtain ⟨q, he, g1, g2, g3⟩ := ev_laws_szTableS l 1048576 (by omega) (by omega) hl.1 (fun x hx => (hl.2 x hx).1)
  refine Ev.bind he ?_
  by_cases hq : q < 0
  · simp only [if_pos hq]; exact Ev.now _
  simp only [if_neg hq]
  have hS := g3 (by omega)
  have hS1 := hS.1
  have hto := ev_laws_toTableS l hS
  have hb : ∀ x ∈ l.map cvTable, x.f0.size ≤ 1048576 := by
    intro x hx
    obtain ⟨y, hy, rfl⟩ := List.mem_map.1 hx
    exact hS.2 y hy
  have hlen : (l.map cvTable).length = l.length := List.length_map _
  generalize l.map cvTable = s at *
  refine Ev.bind hto ?_
  refine Ev.bind (ev_spec_FindTable s n (by omega) hb) ?_
  refine Ev.bind hto ?_
  refine Ev.bind (ev_impl_FindTable s n (by omega) hb) ?_
  simp only [eqTable_eq, Option.bind_some, if_true, bne_self_eq_false]
  apply Ev.step
  · intro k; rw [laws_FnExactFindTable.j0]
  simp only [if_neg Bool.false_ne_true]
  refine Ev.bind hto ?_
  refine Ev.bind (ev_laws_eqTableS s (by omega) (fun _ _ => trivial)) ?_
  exact Ev.const (by simp)

end EFnExactFindTable
open Go.RowKit Go.Proofs.YtlkgppihnolcmaaW.PrintWords Go.Proofs.YtlkgppihnolcmaaW.PrintLast Go.Proofs.YtlkgppihnolcmaaW.PrintMore Go.Proofs.Ytlkgppihnolcmaa.Lib Go.Proofs.Ytlkgppihnolcmaa.Q
theorem FnExactFindTable : ∀ (l0 : List (S53)) (a1 : ByteArray), (l0.length ≤ 9223372036854775807 ∧ ∀ yl0 ∈ l0, Ok53 yl0) → a1.size ≤ 140737488351232 → ∃ k, laws_FnExactFindTable.f k l0 a1 = some true := EFnExactFindTable.holds
end Go.Proofs.Ytlkgppihnolcmaa.Pure
