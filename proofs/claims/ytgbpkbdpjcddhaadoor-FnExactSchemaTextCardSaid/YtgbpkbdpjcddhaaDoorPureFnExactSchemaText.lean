/- Of every list of tables: the program's SchemaText gives what the reference's SchemaText gives, and its argument stays as it was. -/
import Derived.Test.YtgbpkbdpjcddhaaDoorQmFnExactSchemaText
import Derived.Test.YtgbpkbdpjcddhaaDoorShapes
import Derived.Test.YtgbpkbdpjcddhaaDoorLib
set_option linter.unusedVariables false
set_option linter.unusedSimpArgs false
namespace Go.Proofs.YtgbpkbdpjcddhaaDoor.Pure
namespace EFnExactSchemaText
open Go.RowKit Go.Proofs.YtgbpkbdpjcddhaaDoorW.PrintWords Go.Proofs.YtgbpkbdpjcddhaaDoorW.PrintLast Go.Proofs.YtgbpkbdpjcddhaaDoorW.PrintMore Go.Proofs.YtgbpkbdpjcddhaaDoor.Lib Go.Proofs.YtgbpkbdpjcddhaaDoor.Q

theorem impl_in_eq (a b c : Int) : impl_in.f a b c = some (decide (b ≤ a ∧ a ≤ c)) := by
  unfold impl_in.f
  by_cases h : b ≤ a
  · rw [if_pos h]; simp [h]
  · rw [if_neg (show ¬ a ≥ b from h)]; simp [h]

theorem ev_impl_WordOk_l0 (s : ByteArray) (hs : s.size ≤ 1099511627776) : ∀ (d i : Nat), i + d = s.size → Ev (fun k => impl_WordOk.l0 k s (s.size : Int) i) (wordFrom s d i && decide (1 ≤ s.size ∧ s.size ≤ 12)) := by
  intro d
  induction d with
  | zero =>
    intro i h
    apply Ev.step
    · intro k; rw [impl_WordOk.l0]
    simp only [if_neg (show ¬ ((i : Int) < s.size) by omega), impl_in_eq, Option.bind_some, wordFrom, Bool.true_and]
    refine Ev.const (congrArg some ?_)
    exact decide_eq_decide.mpr (by omega)
  | succ d ih =>
    intro i h
    have ih' := ih (i + 1) (by omega)
    apply Ev.step
    · intro k; rw [impl_WordOk.l0]
    simp only [if_pos (show (i : Int) < s.size by omega), if_pos (show (0 : Int) ≤ i by omega), w64 (x := (i : Int) + 1) (by omega), wordFrom]
    by_cases h1 : bt s i ≥ 97
    · simp only [if_pos h1]
      by_cases h2 : bt s i ≤ 122
      · simp only [if_pos h2, show okAt s i = true by simp [okAt]; omega, Bool.true_and]; exact ih'
      · simp only [if_neg h2]
        by_cases h0 : (i : Int) = 0
        · simp only [if_pos h0, show okAt s i = false by simp [okAt]; omega, Bool.false_and]; exact Ev.now _
        · simp only [if_neg h0, if_neg (show ¬ bt s i < 48 by omega), if_pos (show bt s i > 57 by omega), show okAt s i = false by simp [okAt]; omega, Bool.false_and]; exact Ev.now _
    · simp only [if_neg h1]
      by_cases h0 : (i : Int) = 0
      · simp only [if_pos h0, show okAt s i = false by simp [okAt]; omega, Bool.false_and]; exact Ev.now _
      · simp only [if_neg h0]
        by_cases h2 : bt s i < 48
        · simp only [if_pos h2, show okAt s i = false by simp [okAt]; omega, Bool.false_and]; exact Ev.now _
        · by_cases h3 : bt s i > 57
          · simp only [if_neg h2, if_pos h3, show okAt s i = false by simp [okAt]; omega, Bool.false_and]; exact Ev.now _
          · simp only [if_neg h2, if_neg h3, show okAt s i = true by simp [okAt]; omega, Bool.true_and]; exact ih'
theorem ev_impl_WordOk (s : ByteArray) (hs : s.size ≤ 1099511627776) : Ev (fun k => impl_WordOk.f k s) (wordOk s) := by
  have := ev_impl_WordOk_l0 s hs s.size 0 (by omega)
  rw [Bool.and_comm] at this
  exact this

def schAt (s : List S38) (i : Nat) : Bool :=
  wordOk (rd_T38 s i).f0 && (decide (1 ≤ (rd_T38 s i).f1 ∧ (rd_T38 s i).f1 ≤ 6) && (decide (i = 0) || Op.bytesLess (rd_T38 s ((i : Int) - 1)).f0.toList (rd_T38 s i).f0.toList))
def schFrom (s : List S38) : Nat → Nat → Bool
  | 0, _ => true
  | d + 1, i => schAt s i && schFrom s d (i + 1)
def schemaOk (s : List S38) : Bool := decide (s.length ≤ 8) && schFrom s s.length 0
theorem rdT_mem {s : List S38} {i : Nat} (h : i < s.length) : rd_T38 s i ∈ s := by
  have := getD_mem (z := z38) h
  simpa [rd_T38] using this

theorem ev_impl_SchemaOk_l0 (s : List S38) (hl : s.length ≤ 1099511627776) (hs : ∀ x ∈ s, x.f0.size ≤ 1048576) : ∀ (d i : Nat), i + d = s.length → Ev (fun k => impl_SchemaOk.l0 k s s (s.length : Int) i) (schFrom s d i && decide (s.length ≤ 8)) := by
  intro d
  induction d with
  | zero =>
    intro i h
    apply Ev.step
    · intro k; rw [impl_SchemaOk.l0]
    simp only [if_neg (show ¬ ((i : Int) < s.length) by omega), schFrom, Bool.true_and]
    exact Ev.const (congrArg some (decide_eq_decide.mpr (by omega)))
  | succ d ih =>
    intro i h
    have ih' := ih (i + 1) (by omega)
    have hm := hs _ (rdT_mem (show i < s.length by omega))
    apply Ev.step
    · intro k; rw [impl_SchemaOk.l0]
    simp only [if_pos (show (i : Int) < s.length by omega), if_pos (show (0 : Int) ≤ i by omega), w64 (x := (i : Int) + 1) (by omega), schFrom, schAt]
    refine Ev.bind (ev_impl_WordOk _ (by omega)) ?_
    by_cases h1 : wordOk (rd_T38 s i).f0 = true
    · simp only [h1, if_true, impl_in_eq, Option.bind_some, Bool.true_and]
      by_cases h2 : 1 ≤ (rd_T38 s i).f1 ∧ (rd_T38 s i).f1 ≤ 6
      · simp only [decide_eq_true h2, if_true, Bool.true_and]
        by_cases h3 : (i : Int) > 0
        · simp only [if_pos h3, w64 (x := (i : Int) - 1) (by omega), if_pos (show (0 : Int) ≤ (i : Int) - 1 by omega), if_pos (show (i : Int) - 1 < s.length by omega), decide_eq_false (show ¬ i = 0 by omega), Bool.false_or]
          by_cases h4 : Op.bytesLess (rd_T38 s ((i : Int) - 1)).f0.toList (rd_T38 s i).f0.toList = true
          · simp only [h4, if_true, Bool.true_and]; simpa using ih'
          · simp only [if_neg h4, Bool.eq_false_iff.mpr h4, Bool.false_and]; exact Ev.now _
        · simp only [if_neg h3, decide_eq_true (show i = 0 by omega), Bool.true_or, Bool.true_and]; simpa using ih'
      · simp only [decide_eq_false h2, if_neg Bool.false_ne_true, Bool.false_and]; exact Ev.now _
    · simp only [if_neg h1, Bool.eq_false_iff.mpr h1, Bool.false_and]; exact Ev.now _
theorem ev_impl_SchemaOk (s : List S38) (hl : s.length ≤ 1099511627776) (hs : ∀ x ∈ s, x.f0.size ≤ 1048576) : Ev (fun k => impl_SchemaOk.f k s) (schemaOk s) := by
  have := ev_impl_SchemaOk_l0 s hl hs s.length 0 (by omega)
  rw [Bool.and_comm] at this
  simpa [impl_SchemaOk.f, schemaOk] using this

def itoaB (n : Int) : ByteArray := ⟨(Go.Lib.itoa n).toArray⟩
theorem ba_app (a b : List UInt8) : (⟨a.toArray⟩ : ByteArray) ++ ⟨b.toArray⟩ = ⟨(a ++ b).toArray⟩ := by
  apply ByteArray.ext
  rw [ByteArray.data_append]
  simp
theorem ba_sz (a : List UInt8) : (⟨a.toArray⟩ : ByteArray).size = a.length := by simp [ByteArray.size]
theorem strOf_one (c : Int) : strOfNums [c] = ⟨[UInt8.ofNat c.toNat].toArray⟩ := by simp [strOfNums]
theorem num_end (out : List UInt8) (neg : Bool) (h : out.length ≤ 1000) : Ev (fun k => spec_l01Num.l0 k 0 ⟨out.toArray⟩ neg) (if neg = true then (⟨(45 :: out).toArray⟩ : ByteArray) else ⟨out.toArray⟩) := by
  apply Ev.step
  · intro k; rw [spec_l01Num.l0]
  simp only [if_true]
  by_cases hn : neg = true
  · simp only [if_pos hn, ba_sz, if_pos (show 1 + out.length ≤ 9223372036854775807 by omega)]
    exact Ev.const (congrArg some (by rw [show (⟨#[45]⟩ : ByteArray) = ⟨[(45 : UInt8)].toArray⟩ from rfl, ba_app]; rfl))
  · simp only [if_neg hn]
    exact Ev.now _
theorem num_step (m : Nat) (x : Int) (out : List UInt8) (neg : Bool) (r : ByteArray) (hm : x.natAbs = m) (h0 : 0 < m) (hx : -9223372036854775808 ≤ x ∧ x ≤ 9223372036854775807) (ho : out.length ≤ 1000)
    (e : Ev (fun k => spec_l01Num.l0 k (Int.tdiv x 10) ⟨(UInt8.ofNat (48 + m % 10) :: out).toArray⟩ neg) r) : Ev (fun k => spec_l01Num.l0 k x ⟨out.toArray⟩ neg) r := by
  have hd : -9223372036854775808 ≤ Int.tdiv x 10 ∧ Int.tdiv x 10 ≤ 9223372036854775807 := by
    rcases Int.natAbs_eq x with h | h
    · rw [h, tdiv_nn (by omega)]; omega
    · rw [h, tdiv_neg' (by omega)]; omega
  have key : ∀ c : Int, c = 48 + (m % 10 : Nat) → strOfNums [c] ++ (⟨out.toArray⟩ : ByteArray) = ⟨(UInt8.ofNat (48 + m % 10) :: out).toArray⟩ := by
    intro c hc
    rw [strOf_one, ba_app, hc, show ((48 : Int) + (m % 10 : Nat)).toNat = 48 + m % 10 by omega]; rfl
  have sz : ∀ c : Int, (strOfNums [c]).size = 1 := fun c => by simp [strOfNums, ByteArray.size]
  have hmod : (Int.tmod x 10 = ((m % 10 : Nat) : Int)) ∨ (Int.tmod x 10 = -((m % 10 : Nat) : Int)) := by
    rcases Int.natAbs_eq x with h | h
    · left; rw [h, tmod_nn (by omega)]; omega
    · right; rw [h, Int.neg_tmod, tmod_nn (by omega)]; omega
  apply Ev.step
  · intro k; rw [spec_l01Num.l0]
  simp only [if_neg (show ¬ x = 0 by omega), Option.bind_some, sz, ba_sz, if_pos (show 1 + out.length ≤ 9223372036854775807 by omega), w64 hd]
  by_cases hlt : Int.tmod x 10 < 0
  · simp only [if_pos hlt]
    have h1 : Int.tmod x 10 = -((m % 10 : Nat) : Int) := by omega
    rw [key ((wrap64 (48 + wrap64 (-(Int.tmod x 10)))) % 256) (by rw [h1, w64 (x := -(-((m % 10 : Nat) : Int))) (by omega), w64 (x := 48 + -(-((m % 10 : Nat) : Int))) (by omega)]; omega)]
    exact e
  · simp only [if_neg hlt]
    have h1 : Int.tmod x 10 = ((m % 10 : Nat) : Int) := by omega
    rw [key ((wrap64 (48 + (Int.tmod x 10))) % 256) (by rw [h1, w64 (by omega)]; omega)]
    exact e
theorem natAbs_tdiv10 (x : Int) : (Int.tdiv x 10).natAbs = x.natAbs / 10 := by
  rcases Int.natAbs_eq x with h | h
  · rw [h, tdiv_nn (by omega)]; omega
  · rw [h, tdiv_neg' (by omega)]; omega
theorem num_all : ∀ (n m : Nat), m ≤ n → ∀ (x : Int) (out : List UInt8) (neg : Bool), x.natAbs = m → 0 < m → (-9223372036854775808 ≤ x ∧ x ≤ 9223372036854775807) → out.length + Go.Lib.nDigits m ≤ 900 →
    Ev (fun k => spec_l01Num.l0 k x ⟨out.toArray⟩ neg) (if neg = true then (⟨(45 :: (Go.Lib.decDigits m ++ out)).toArray⟩ : ByteArray) else ⟨(Go.Lib.decDigits m ++ out).toArray⟩) := by
  intro n
  induction n with
  | zero => intro m h x out neg hm h0; omega
  | succ n ih =>
    intro m h x out neg hm h0 hx ho
    refine num_step m x out neg _ hm h0 hx (by omega) ?_
    have hq := natAbs_tdiv10 x
    rw [hm] at hq
    by_cases hs : m < 10
    · have : Int.tdiv x 10 = 0 := by omega
      rw [this, Go.Lib.decDigits, dif_pos hs]
      have := num_end (UInt8.ofNat (48 + m % 10) :: out) neg (by simp; omega)
      rw [Nat.mod_eq_of_lt hs] at this ⊢
      exact this
    · rw [Go.Lib.decDigits, dif_neg hs]
      rw [Go.Lib.nDigits_big hs] at ho
      have := ih (m / 10) (by omega) (Int.tdiv x 10) (UInt8.ofNat (48 + m % 10) :: out) neg hq (by omega) (by omega) (by simp; omega)
      simpa using this
theorem ev_spec_l01Num (a : Int) (ha : -9223372036854775808 ≤ a ∧ a ≤ 9223372036854775807) : Ev (fun k => spec_l01Num.f k a) (itoaB a) := by
  unfold itoaB Go.Lib.itoa
  simp only [spec_l01Num.f]
  by_cases h0 : a = 0
  · subst h0
    simp only [if_true]
    exact Ev.const (by rw [if_neg (by omega), show (0 : Int).toNat = 0 from rfl, Go.Lib.decDigits, dif_pos (by omega)]; rfl)
  · simp only [if_neg h0]
    have h20 := Go.Lib.nDigits_le20 a.natAbs (by omega)
    have := num_all a.natAbs a.natAbs (Nat.le_refl _) a [] (decide (a < 0)) rfl (by omega) ha (by simp; omega)
    rw [List.append_nil] at this
    by_cases hn : a < 0
    · simp only [decide_eq_true hn, if_true] at this
      rw [if_pos hn, decide_eq_true hn]
      exact this
    · simp only [decide_eq_false hn, if_neg Bool.false_ne_true] at this
      rw [if_neg hn, decide_eq_false hn, show a.toNat = a.natAbs by omega]
      exact this

def tabB (t : S38) : List UInt8 := t.f0.data.toList ++ 47 :: Go.Lib.itoa t.f1
def tabV (t : S38) : ByteArray := ⟨(tabB t).toArray⟩
def schText (s : List S38) : List UInt8 := if schemaOk s = true then Go.Lib.join (s.map tabB) [32] else []
theorem ba_self (b : ByteArray) : (⟨b.data.toList.toArray⟩ : ByteArray) = b := by cases b; simp
theorem schFrom_at (s : List S38) : ∀ (d i : Nat), schFrom s d i = true → ∀ j, i ≤ j → j < i + d → schAt s j = true
  | 0, i, _, j, h1, h2 => by omega
  | d + 1, i, h, j, h1, h2 => by
    unfold schFrom at h
    simp only [Bool.and_eq_true] at h
    by_cases e : j = i
    · subst e; exact h.1
    · exact schFrom_at s d (i + 1) h.2 j (by omega) (by omega)
theorem schemaOk_bound {s : List S38} (h : schemaOk s = true) : s.length ≤ 8 ∧ ∀ j, j < s.length → wordOk (rd_T38 s j).f0 = true ∧ 1 ≤ (rd_T38 s j).f1 ∧ (rd_T38 s j).f1 ≤ 6 := by
  unfold schemaOk at h
  simp only [Bool.and_eq_true, decide_eq_true_eq] at h
  refine ⟨h.1, fun j hj => ?_⟩
  have := schFrom_at s s.length 0 h.2 j (by omega) (by omega)
  unfold schAt at this
  simp only [Bool.and_eq_true, decide_eq_true_eq] at this
  exact ⟨this.1, this.2.1.1, this.2.1.2⟩
theorem wordOk_sz {s : ByteArray} (h : wordOk s = true) : 1 ≤ s.size ∧ s.size ≤ 12 := by
  unfold wordOk at h
  simp only [Bool.and_eq_true, decide_eq_true_eq] at h
  exact h.1
theorem drop_rdT (s : List S38) (i : Nat) (h : i < s.length) : s.drop i = rd_T38 s i :: s.drop (i + 1) := by
  have := drop_getD s z38 i h
  simpa [rd_T38] using this
theorem take_rdT (s : List S38) (i : Nat) (h : i < s.length) : s.take i ++ [rd_T38 s i] = s.take (i + 1) := by
  rw [List.take_add_one]
  simp [rd_T38, List.getD, h]
theorem tail32 (y : List UInt8) (r : List (List UInt8)) : Go.Lib.joinTail [32] (y :: r) = 32 :: (y ++ Go.Lib.joinTail [32] r) := by simp [Go.Lib.joinTail]
theorem tabB_len (t : S38) (h : t.f0.size ≤ 12) (h1 : 1 ≤ t.f1 ∧ t.f1 ≤ 6) : (tabB t).length ≤ 34 := by
  have := Go.Lib.itoa_length_le t.f1 (by omega) (by omega)
  have e : t.f0.data.toList.length = t.f0.size := by rw [Array.length_toList]; rfl
  unfold tabB
  rw [List.length_append, List.length_cons]
  omega
theorem flat_len (m : Nat) : ∀ (l : List (List UInt8)), (∀ x ∈ l, x.length ≤ m) → (Go.Lib.joinTail [32] l).length ≤ (m + 1) * l.length
  | [], _ => by simp [Go.Lib.joinTail]
  | x :: l, h => by
    have h1 := h x List.mem_cons_self
    have h2 := flat_len m l (fun y hy => h y (List.mem_cons_of_mem _ hy))
    rw [tail32]
    simp only [List.length_cons, List.length_append]
    rw [Nat.mul_add]
    omega
theorem schText_len (s : List S38) : (schText s).length ≤ 300 := by
  unfold schText
  by_cases h : schemaOk s = true
  · rw [if_pos h]
    obtain ⟨h1, h2⟩ := schemaOk_bound h
    have hm : ∀ x ∈ s.map tabB, x.length ≤ 34 := by
      intro x hx
      obtain ⟨t, ht, rfl⟩ := List.mem_map.1 hx
      obtain ⟨j, hj, rfl⟩ := List.getElem_of_mem ht
      have e : rd_T38 s j = s[j] := by simp [rd_T38, List.getD, hj]
      have := h2 j hj
      rw [e] at this
      exact tabB_len _ (wordOk_sz this.1).2 this.2
    have hl : (s.map tabB).length ≤ 8 := by rw [List.length_map]; exact h1
    generalize s.map tabB = l at hm hl
    cases l with
    | nil => simp [Go.Lib.join_nil]
    | cons x r =>
      rw [Go.Lib.join_cons, List.length_append]
      have h3 := flat_len 34 r (fun y hy => hm y (List.mem_cons_of_mem _ hy))
      have h4 := hm x List.mem_cons_self
      simp only [List.length_cons] at hl
      omega
  · rw [if_neg h]; simp

theorem join_tabV (s : List S38) : Lay.joinS (s.map tabV) (⟨#[32]⟩ : ByteArray) = ⟨(Go.Lib.join (s.map tabB) [32]).toArray⟩ := by
  unfold Lay.joinS
  rw [List.map_map]
  have : ((fun x : ByteArray => x.data.toList) ∘ tabV) = tabB := by funext v; simp [tabV]
  rw [this]
theorem impl_schText_l0 (s : List S38) (hok : schemaOk s = true) : ∀ (d i : Nat), i + d = s.length → Ev (fun k => impl_SchemaText.l0 k ((s.take i).map tabV) s (s.length : Int) i) ⟨(schText s).toArray⟩ := by
  obtain ⟨h8, hb⟩ := schemaOk_bound hok
  intro d
  induction d with
  | zero =>
    intro i h
    have hlen := schText_len s
    unfold schText at hlen ⊢
    rw [if_pos hok] at hlen ⊢
    apply Ev.step
    · intro k; rw [impl_SchemaText.l0]
    simp only [if_neg (show ¬ ((i : Int) < s.length) by omega), List.take_of_length_le (show s.length ≤ i by omega), impl_spaced.f, strings_Join.f, join_tabV, ba_sz, List.length_map]
    rw [if_pos ⟨by omega, by omega⟩]
    exact Ev.now _
  | succ d ih =>
    intro i h
    obtain ⟨hw, hf⟩ := hb i (by omega)
    have hw2 := wordOk_sz hw
    have ih' := ih (i + 1) (by omega)
    rw [← take_rdT s i (by omega), List.map_append, List.map_cons, List.map_nil] at ih'
    generalize ht : rd_T38 s i = t at hw hf hw2 ih'
    obtain ⟨n, hn⟩ : ∃ n : List UInt8, t.f0 = ⟨n.toArray⟩ := ⟨_, (ba_self _).symm⟩
    have hnl : n.length = t.f0.size := by rw [hn, ba_sz]
    have hit := Go.Lib.itoa_length_le t.f1 (by omega) (by omega)
    have et : tabV t = ⟨(n ++ [47] ++ Go.Lib.itoa t.f1).toArray⟩ := by unfold tabV tabB; rw [hn]; simp
    have s2 : ∀ l : List UInt8, (⟨l.toArray⟩ : ByteArray) ++ (⟨#[47]⟩ : ByteArray) = ⟨(l ++ [47]).toArray⟩ := fun l => ba_app l [47]
    rw [et] at ih'
    apply Ev.step
    · intro k; rw [impl_SchemaText.l0]
    simp only [if_pos (show (i : Int) < s.length by omega), if_pos (show (0 : Int) ≤ i by omega), ht, hn, s2, ba_sz, if_pos (show n.length + 1 ≤ 9223372036854775807 by omega), impl_number.f, if_pos (show -9223372036854775808 ≤ t.f1 ∧ t.f1 ≤ 9223372036854775807 by omega), Option.bind_some, ba_app, if_pos (show (n ++ [47]).length + (Go.Lib.itoa t.f1).length ≤ 9223372036854775807 by simp; omega), if_pos (show ((s.take i).map tabV).length < 8796093022208 by rw [List.length_map, List.length_take]; omega), w64 (x := (i : Int) + 1) (by omega)]
    exact ih'
theorem ev_impl_SchemaText (s : List S38) (hl : s.length ≤ 1099511627776) (hs : ∀ x ∈ s, x.f0.size ≤ 1048576) : Ev (fun k => impl_SchemaText.f k s) ⟨(schText s).toArray⟩ := by
  simp only [impl_SchemaText.f]
  refine Ev.bind (ev_impl_SchemaOk s hl hs) ?_
  by_cases hok : schemaOk s = true
  · simp only [hok, if_true]
    exact impl_schText_l0 s hok s.length 0 (by omega)
  · simp only [if_neg hok]
    unfold schText
    rw [if_neg hok]
    exact Ev.now _

theorem eqTable_eq (a : ByteArray) (b : Int) : laws_eqTable.f a b a b = some true := by simp [laws_eqTable.f]

theorem ev_laws_eqTableS_l0 (x0 : List (S38)) (hl : x0.length ≤ 1099511627776) (hs : ∀ x ∈ x0, True) : ∀ (d : Nat) (i : Nat), i + d = x0.length → Ev (fun k => laws_eqTableS.l0 k x0 x0 i) true := by
  intro d
  induction d with
  | zero =>
    intro i h2
    apply Ev.step
    · intro k; rw [laws_eqTableS.l0]
    simp only [if_neg (show ¬ ((i : Int) < x0.length) by omega)]
    exact Ev.now _
  | succ d ih =>
    intro i h2
    have hg : x0[i]? = some (rd_T38 x0 (i : Int)) := by simp [rd_T38, show i < x0.length by omega]
    have hm := hs _ (List.mem_of_getElem? hg)
    apply Ev.step
    · intro k; rw [laws_eqTableS.l0]
    simp only [if_pos (show (i : Int) < x0.length by omega), if_pos (show (0 : Int) ≤ i by omega)]
    refine Ev.bind (Ev.const (eqTable_eq _ _)) ?_
    simp only [if_true, w64 (x := (i : Int) + 1) (by omega)]
    have := ih (i + 1) (by omega)
    simpa using this
theorem ev_laws_eqTableS (l : List (S38)) (h : l.length ≤ 1099511627776) (hs : ∀ x ∈ l, True) : Ev (fun k => laws_eqTableS.f k l l) true := by
  simp only [laws_eqTableS.f, if_true]
  exact ev_laws_eqTableS_l0 l h hs l.length 0 (by omega)

theorem szTable_eq (s : ByteArray) (n : Int) (a : Int) (h0 : 0 ≤ a) (h1 : a ≤ 1048576) (hl : s.size ≤ 9223372036854775807) : ∃ r, laws_szTable.f s n a = some r ∧ -1 ≤ r ∧ r ≤ a ∧ (0 ≤ r → s.size ≤ 1048576) := by
  by_cases hn : a - (s.size : Int) < 0
  · exact ⟨-1, by simp only [laws_szTable.f, w64 (x := a - (s.size : Int)) (by omega), if_pos hn], by omega, by omega, fun h => by omega⟩
  · exact ⟨a - s.size, by simp only [laws_szTable.f, w64 (x := a - (s.size : Int)) (by omega), if_neg hn], by omega, by omega, fun h => by omega⟩
theorem ev_szTable (x : S46) (a : Int) (h0 : 0 ≤ a) (h1 : a ≤ 1048576) (hl : x.f0.size ≤ 9223372036854775807) : ∃ r, Ev (fun _ => laws_szTable.f x.f0 x.f1 a) r ∧ -1 ≤ r ∧ r ≤ a ∧ (0 ≤ r → x.f0.size ≤ 1048576) := by
  obtain ⟨r, h, g⟩ := szTable_eq x.f0 x.f1 a h0 h1 hl
  exact ⟨r, Ev.const h, g⟩

def SmallTableS (l : List S46) : Prop := l.length ≤ 1048576 ∧ ∀ x ∈ l, x.f0.size ≤ 1048576
def cvTable (x : S46) : S38 := ⟨x.f0, x.f1⟩

theorem ev_laws_szTableS_l0 (x0 : List (S46)) (hl : x0.length ≤ 9223372036854775806) (hs : ∀ x ∈ x0, x.f0.size ≤ 9223372036854775807) : ∀ (d : Nat) (a : Int) (i : Nat), i + d = x0.length → 0 ≤ a → a ≤ 1048576 → ∃ r, Ev (fun k => laws_szTableS.l0 k x0 a i) r ∧ -1 ≤ r ∧ r ≤ a ∧ (0 ≤ r → ∀ x ∈ x0.drop i, x.f0.size ≤ 1048576) := by
  intro d
  induction d with
  | zero =>
    intro a i h2 h0 h1
    refine ⟨a, ?_, by omega, by omega, fun _ x hx => ?_⟩
    · apply Ev.step
      · intro k; rw [laws_szTableS.l0]
      simp only [if_neg (show ¬ ((i : Int) < x0.length) by omega)]
      exact Ev.now _
    · rw [List.drop_eq_nil_of_le (by omega)] at hx; cases hx
  | succ d ih =>
    intro a i h2 h0 h1
    have hg : x0[i]? = some (rd_T46 x0 (i : Int)) := by simp [rd_T46, show i < x0.length by omega]
    have hm := hs _ (List.mem_of_getElem? hg)
    obtain ⟨r1, e1, g1, g2, g3⟩ := ev_szTable (rd_T46 x0 (i : Int)) a h0 h1 hm
    have hd : x0.drop i = rd_T46 x0 (i : Int) :: x0.drop (i + 1) := by
      rw [List.drop_eq_getElem_cons (show i < x0.length by omega)]
      congr 1
      rw [List.getElem?_eq_getElem (show i < x0.length by omega)] at hg
      injection hg
    by_cases hr : r1 < 0
    · refine ⟨-1, ?_, by omega, by omega, fun h => by omega⟩
      apply Ev.step
      · intro k; rw [laws_szTableS.l0]
      simp only [if_pos (show (i : Int) < x0.length by omega), if_pos (show (0 : Int) ≤ i by omega)]
      refine Ev.bind e1 ?_
      simp only [if_pos hr]
      exact Ev.now _
    · obtain ⟨r2, e2, g4, g5, g6⟩ := ih r1 (i + 1) (by omega) (by omega) (by omega)
      refine ⟨r2, ?_, by omega, by omega, fun h x hx => ?_⟩
      · apply Ev.step
        · intro k; rw [laws_szTableS.l0]
        simp only [if_pos (show (i : Int) < x0.length by omega), if_pos (show (0 : Int) ≤ i by omega)]
        refine Ev.bind e1 ?_
        simp only [if_neg hr, w64 (x := (i : Int) + 1) (by omega)]
        simpa using e2
      · rw [hd] at hx
        rcases List.mem_cons.1 hx with rfl | hx
        · exact g3 (by omega)
        · exact g6 h x hx
theorem ev_laws_szTableS (l : List (S46)) (a : Int) (h0 : 0 ≤ a) (h1 : a ≤ 1048576) (hl : l.length ≤ 9223372036854775807) (hs : ∀ x ∈ l, x.f0.size ≤ 9223372036854775807) : ∃ r, Ev (fun k => laws_szTableS.f k l a) r ∧ -1 ≤ r ∧ r ≤ a ∧ (0 ≤ r → SmallTableS l) := by
  by_cases hn : a - (l.length : Int) < 0
  · refine ⟨-1, ?_, by omega, by omega, fun h => by omega⟩
    simp only [laws_szTableS.f, w64 (x := a - (l.length : Int)) (by omega), if_pos hn]
    exact Ev.now _
  · obtain ⟨r, e, g1, g2, g3⟩ := ev_laws_szTableS_l0 l (by omega) hs l.length (a - l.length) 0 (by omega) (by omega) (by omega)
    refine ⟨r, ?_, by omega, by omega, fun h => ⟨by omega, by simpa using g3 h⟩⟩
    simp only [laws_szTableS.f, w64 (x := a - (l.length : Int)) (by omega), if_neg hn]
    exact e

theorem ev_laws_toTableS_l0 (x0 : List (S46)) (hl : x0.length ≤ 1048576) (hs : ∀ x ∈ x0, x.f0.size ≤ 1048576) : ∀ (d : Nat) (x3 : List (S38)) (i : Nat), x3.length = x0.length → i + d = x0.length → x3.take i = (x0.map cvTable).take i → Ev (fun k => laws_toTableS.l0 k x0 x3 i) (x0.map cvTable) := by
  intro d
  induction d with
  | zero =>
    intro x3 i h1 h2 h3
    apply Ev.step
    · intro k; rw [laws_toTableS.l0]
    simp only [if_neg (show ¬ ((i : Int) < x0.length) by omega)]
    rw [take_eq_all (xs := x0.map cvTable) (by simpa using h1) (by simp; omega) h3]
    exact Ev.now _
  | succ d ih =>
    intro x3 i h1 h2 h3
    have hg : x0[i]? = some (rd_T46 x0 (i : Int)) := by simp [rd_T46, show i < x0.length by omega]
    have hm := hs _ (List.mem_of_getElem? hg)
    apply Ev.step
    · intro k; rw [laws_toTableS.l0]
    simp only [if_pos (show (i : Int) < x0.length by omega), if_pos (show (0 : Int) ≤ i by omega)]
    simp only [laws_toTable.f, Option.bind_some]
    simp only [if_pos (show (i : Int) < x3.length by omega), w64 (x := (i : Int) + 1) (by omega)]
    have := ih (x3.set i ((⟨(rd_T46 x0 (i : Int)).f0, (rd_T46 x0 (i : Int)).f1⟩ : S38))) (i + 1) (by simp [h1]) (by omega) (take_set_at (x0.map cvTable) _ _ _ (by simpa using h1) (by simp; omega) (by rw [List.getElem?_map, hg]; rfl) h3)
    first | (simpa using this) | (simpa [cvTable] using this)
theorem ev_laws_toTableS (l : List (S46)) (h : SmallTableS l) : Ev (fun k => laws_toTableS.f k l) (l.map cvTable) := by
  have h1 := h.1
  simp only [laws_toTableS.f, if_pos (show (0 : Int) ≤ l.length by omega), if_pos (show (l.length : Int).toNat ≤ 11728124029610 by omega)]
  exact ev_laws_toTableS_l0 l h.1 h.2 l.length _ 0 (by simp) (by omega) (by simp)

theorem spec_l01In_eq (a b c : Int) : spec_l01In.f a b c = some (decide (b ≤ a ∧ a ≤ c)) := by
  unfold spec_l01In.f
  by_cases h : b ≤ a
  · rw [if_pos h]; simp [h]
  · rw [if_neg h]; simp [h]

theorem ev_spec_WordOk_l0 (s : ByteArray) (hs : s.size ≤ 1099511627776) : ∀ (d i : Nat), i + d = s.size → (i = 0 → 97 ≤ bt s 0) → Ev (fun k => spec_WordOk.l0 k s i) (wordFrom s d i) := by
  intro d
  induction d with
  | zero =>
    intro i h _
    apply Ev.step
    · intro k; rw [spec_WordOk.l0]
    simp only [if_neg (show ¬ ((i : Int) < s.size) by omega)]
    exact Ev.now _
  | succ d ih =>
    intro i h h0
    have ih' := ih (i + 1) (by omega) (by omega)
    apply Ev.step
    · intro k; rw [spec_WordOk.l0]
    simp only [if_pos (show (i : Int) < s.size by omega), if_pos (show (0 : Int) ≤ i by omega), w64 (x := (i : Int) + 1) (by omega), wordFrom]
    have hi : i = 0 → 97 ≤ bt s i := by intro e; subst e; exact h0 rfl
    by_cases h1 : bt s i < 97
    · simp only [if_pos h1]
      have hp : 0 < i := by rcases Nat.eq_zero_or_pos i with e | e; · have := hi e; omega
                            · exact e
      by_cases h2 : bt s i < 48
      · simp only [if_pos h2, show okAt s i = false by simp [okAt]; omega, Bool.false_and]; exact Ev.now _
      · by_cases h3 : bt s i > 57
        · simp only [if_neg h2, if_pos h3, show okAt s i = false by simp [okAt]; omega, Bool.false_and]; exact Ev.now _
        · simp only [if_neg h2, if_neg h3, show okAt s i = true by simp [okAt]; omega, Bool.true_and]; exact ih'
    · simp only [if_neg h1]
      by_cases h2 : bt s i > 122
      · simp only [if_pos h2, if_neg (show ¬ bt s i < 48 by omega), if_pos (show bt s i > 57 by omega), show okAt s i = false by simp [okAt]; omega, Bool.false_and]; exact Ev.now _
      · simp only [if_neg h2, show okAt s i = true by simp [okAt]; omega, Bool.true_and]; exact ih'
theorem ev_spec_WordOk (s : ByteArray) (hs : s.size ≤ 1099511627776) : Ev (fun k => spec_WordOk.f k s) (wordOk s) := by
  simp only [spec_WordOk.f, spec_l01In_eq, Option.bind_some, decide_eq_true_eq, wordOk]
  by_cases h : 1 ≤ s.size ∧ s.size ≤ 12
  · simp only [if_pos (show 1 ≤ (s.size : Int) ∧ (s.size : Int) ≤ 12 by omega), if_pos (show (0 : Int) < s.size by omega), decide_eq_true h, Bool.true_and]
    apply Ev.step
    · intro k; rw [spec_WordOk.j0]
    simp only [decide_eq_true_eq]
    by_cases h1 : bt s 0 < 97
    · simp only [if_pos h1]
      obtain ⟨d, hd⟩ : ∃ d, s.size = d + 1 := ⟨s.size - 1, by omega⟩
      rw [hd, wordFrom, show okAt s 0 = false by simp [okAt]; omega, Bool.false_and]
      exact Ev.now _
    · simp only [if_neg h1]
      exact ev_spec_WordOk_l0 s hs s.size 0 (by omega) (by omega)
  · simp only [if_neg (show ¬ (1 ≤ (s.size : Int) ∧ (s.size : Int) ≤ 12) by omega), decide_eq_false h, Bool.false_and]
    apply Ev.step
    · intro k; rw [spec_WordOk.j0]
    simp only [if_true]
    exact Ev.now _

theorem ev_spec_l01Less_l0 (a b : ByteArray) (ha : a.size ≤ 1099511627776) (hb : b.size ≤ 1099511627776) : ∀ (d i : Nat), i + d = a.size → Ev (fun k => spec_l01Less.l0 k a b i) (Op.bytesLess (a.toList.drop i) (b.toList.drop i)) := by
  intro d
  induction d with
  | zero =>
    intro i h
    apply Ev.step
    · intro k; rw [spec_l01Less.l0]
    simp only [if_neg (show ¬ ((i : Int) < a.size) by omega)]
    apply Ev.step
    · intro k; rw [spec_l01Less.j1]
    simp only [if_neg Bool.false_ne_true, toList_end a i (by omega)]
    refine Ev.const (congrArg some ?_)
    by_cases hb' : i < b.size
    · obtain ⟨y, e, _⟩ := toList_drop b i hb'
      rw [e, decide_eq_true (show (a.size : Int) < b.size by omega)]; rfl
    · rw [toList_end b i (by omega), decide_eq_false (show ¬ (a.size : Int) < b.size by omega)]; rfl
  | succ d ih =>
    intro i h
    have ih' := ih (i + 1) (by omega)
    obtain ⟨x, ex, hx⟩ := toList_drop a i (by omega)
    apply Ev.step
    · intro k; rw [spec_l01Less.l0]
    simp only [if_pos (show (i : Int) < a.size by omega)]
    by_cases hb' : i < b.size
    · obtain ⟨y, ey, hy⟩ := toList_drop b i hb'
      rw [ex, ey, bytesLess_cons hx hy]
      apply Ev.step
      · intro k; rw [spec_l01Less.j1]
      simp only [decide_eq_true (show (i : Int) < b.size by omega), if_true, if_pos (show (0 : Int) ≤ i by omega), if_pos (show (i : Int) < a.size by omega), if_pos (show (i : Int) < b.size by omega), w64 (x := (i : Int) + 1) (by omega)]
      by_cases he : bt a i = bt b i
      · simp only [if_pos he, decide_eq_true he, decide_eq_false (show ¬ bt a i < bt b i by omega), Bool.false_or, Bool.true_and]
        simpa using ih'
      · simp only [if_neg he, decide_eq_false he, Bool.false_and, Bool.or_false]
        exact Ev.now _
    · rw [toList_end b i (by omega)]
      apply Ev.step
      · intro k; rw [spec_l01Less.j1]
      simp only [decide_eq_false (show ¬ (i : Int) < b.size by omega), if_neg Bool.false_ne_true]
      refine Ev.const (congrArg some ?_)
      rw [ex, decide_eq_false (show ¬ (a.size : Int) < b.size by omega)]; rfl
theorem ev_spec_l01Less (a b : ByteArray) (ha : a.size ≤ 1099511627776) (hb : b.size ≤ 1099511627776) : Ev (fun k => spec_l01Less.f k a b) (Op.bytesLess a.toList b.toList) := by
  simpa [spec_l01Less.f] using ev_spec_l01Less_l0 a b ha hb a.size 0 (by omega)

theorem ev_spec_SchemaOk_l0 (s : List S38) (hl : s.length ≤ 1099511627776) (hs : ∀ x ∈ s, x.f0.size ≤ 1048576) : ∀ (d i : Nat), i + d = s.length → Ev (fun k => spec_SchemaOk.l0 k s i) (schFrom s d i) := by
  intro d
  induction d with
  | zero =>
    intro i h
    apply Ev.step
    · intro k; rw [spec_SchemaOk.l0]
    simp only [if_neg (show ¬ ((i : Int) < s.length) by omega)]
    exact Ev.now _
  | succ d ih =>
    intro i h
    have ih' := ih (i + 1) (by omega)
    have hm := hs _ (rdT_mem (show i < s.length by omega))
    apply Ev.step
    · intro k; rw [spec_SchemaOk.l0]
    simp only [if_pos (show (i : Int) < s.length by omega), if_pos (show (0 : Int) ≤ i by omega), w64 (x := (i : Int) + 1) (by omega), schFrom, schAt]
    refine Ev.bind (ev_spec_WordOk _ (by omega)) ?_
    by_cases h1 : wordOk (rd_T38 s i).f0 = true
    · simp only [h1, if_true, spec_l01In_eq, Option.bind_some, Bool.true_and]
      by_cases h2 : 1 ≤ (rd_T38 s i).f1 ∧ (rd_T38 s i).f1 ≤ 6
      · simp only [decide_eq_true h2, if_true, Bool.true_and]
        by_cases h3 : (i : Int) > 0
        · have hm2 := hs _ (rdT_mem (show i - 1 < s.length by omega))
          rw [show ((i - 1 : Nat) : Int) = (i : Int) - 1 by omega] at hm2
          simp only [if_pos h3, w64 (x := (i : Int) - 1) (by omega), if_pos (show (0 : Int) ≤ (i : Int) - 1 by omega), if_pos (show (i : Int) - 1 < s.length by omega), decide_eq_false (show ¬ i = 0 by omega), Bool.false_or]
          refine Ev.bind (ev_spec_l01Less _ _ (by omega) (by omega)) ?_
          by_cases h4 : Op.bytesLess (rd_T38 s ((i : Int) - 1)).f0.toList (rd_T38 s i).f0.toList = true
          · simp only [h4, if_true, Bool.true_and]; simpa using ih'
          · simp only [if_neg h4, Bool.eq_false_iff.mpr h4, Bool.false_and]; exact Ev.now _
        · simp only [if_neg h3, decide_eq_true (show i = 0 by omega), Bool.true_or, Bool.true_and]; simpa using ih'
      · simp only [decide_eq_false h2, if_neg Bool.false_ne_true, Bool.false_and]; exact Ev.now _
    · simp only [if_neg h1, Bool.eq_false_iff.mpr h1, Bool.false_and]; exact Ev.now _
theorem ev_spec_SchemaOk (s : List S38) (hl : s.length ≤ 1099511627776) (hs : ∀ x ∈ s, x.f0.size ≤ 1048576) : Ev (fun k => spec_SchemaOk.f k s) (schemaOk s) := by
  simp only [spec_SchemaOk.f, schemaOk]
  by_cases h : s.length ≤ 8
  · simp only [if_neg (show ¬ (s.length : Int) > 8 by omega), decide_eq_true h, Bool.true_and]
    exact ev_spec_SchemaOk_l0 s hl hs s.length 0 (by omega)
  · simp only [if_pos (show (s.length : Int) > 8 by omega), decide_eq_false h, Bool.false_and]
    exact Ev.now _

theorem ev_schText_l0 (s : List S38) (hok : schemaOk s = true) : ∀ (d i : Nat) (out : List UInt8), i + d = s.length → 0 < i → out.length ≤ 100 * i → Ev (fun k => spec_SchemaText.l0 k s ⟨out.toArray⟩ i) ⟨(out ++ Go.Lib.joinTail [32] ((s.drop i).map tabB)).toArray⟩ := by
  obtain ⟨h8, hb⟩ := schemaOk_bound hok
  intro d
  induction d with
  | zero =>
    intro i out h h0 ho
    apply Ev.step
    · intro k; rw [spec_SchemaText.l0]
    simp only [if_neg (show ¬ ((i : Int) < s.length) by omega), drop_nil' (show s.length ≤ i by omega)]
    exact Ev.const (by simp [Go.Lib.joinTail])
  | succ d ih =>
    intro i out h h0 ho
    obtain ⟨hw, hf⟩ := hb i (by omega)
    have hw2 := wordOk_sz hw
    rw [drop_rdT s i (by omega), List.map_cons, tail32]
    generalize ht : rd_T38 s i = t at hw hf hw2 ⊢
    obtain ⟨n, hn⟩ : ∃ n : List UInt8, t.f0 = ⟨n.toArray⟩ := ⟨_, (ba_self _).symm⟩
    have hnl : n.length = t.f0.size := by rw [hn, ba_sz]
    have hit := Go.Lib.itoa_length_le t.f1 (by omega) (by omega)
    have et : tabB t = n ++ 47 :: Go.Lib.itoa t.f1 := by unfold tabB; rw [hn]
    have ih' := ih (i + 1) (out ++ [32] ++ n ++ [47] ++ Go.Lib.itoa t.f1) (by omega) (by omega) (by simp only [List.length_append, List.length_cons, List.length_nil]; omega)
    have e2 : out ++ 32 :: (tabB t ++ Go.Lib.joinTail [32] ((s.drop (i + 1)).map tabB)) = out ++ [32] ++ n ++ [47] ++ Go.Lib.itoa t.f1 ++ Go.Lib.joinTail [32] ((s.drop (i + 1)).map tabB) := by rw [et]; simp
    rw [e2]
    have s1 : (⟨out.toArray⟩ : ByteArray) ++ (⟨#[32]⟩ : ByteArray) = ⟨(out ++ [32]).toArray⟩ := ba_app out [32]
    have s2 : ∀ l : List UInt8, (⟨l.toArray⟩ : ByteArray) ++ (⟨#[47]⟩ : ByteArray) = ⟨(l ++ [47]).toArray⟩ := fun l => ba_app l [47]
    apply Ev.step
    · intro k; rw [spec_SchemaText.l0]
    simp only [if_pos (show (i : Int) < s.length by omega), if_pos (show (i : Int) > 0 by omega), if_pos (show (0 : Int) ≤ i by omega), ht, hn, s1, s2, ba_sz, ba_app, if_pos (show out.length + 1 ≤ 9223372036854775807 by omega), if_pos (show (out ++ [32]).length + n.length ≤ 9223372036854775807 by simp; omega), if_pos (show (out ++ [32] ++ n).length + 1 ≤ 9223372036854775807 by simp; omega), w64 (x := (i : Int) + 1) (by omega)]
    refine Ev.bind (ev_spec_l01Num t.f1 (by omega)) ?_
    unfold itoaB
    simp only [ba_sz, ba_app, if_pos (show (out ++ [32] ++ n ++ [47]).length + (Go.Lib.itoa t.f1).length ≤ 9223372036854775807 by simp; omega)]
    exact ih'
theorem ev_spec_SchemaText (s : List S38) (hl : s.length ≤ 1099511627776) (hs : ∀ x ∈ s, x.f0.size ≤ 1048576) : Ev (fun k => spec_SchemaText.f k s) ⟨(schText s).toArray⟩ := by
  simp only [spec_SchemaText.f]
  refine Ev.bind (ev_spec_SchemaOk s hl hs) ?_
  unfold schText
  by_cases hok : schemaOk s = true
  · obtain ⟨h8, hb⟩ := schemaOk_bound hok
    simp only [hok, if_true]
    have ee : (⟨#[]⟩ : ByteArray) = ⟨([] : List UInt8).toArray⟩ := rfl
    by_cases h0 : s = []
    · subst h0
      apply Ev.step
      · intro k; rw [spec_SchemaText.l0]
      simp only [List.length_nil, Int.natCast_zero, if_neg (show ¬ (0 : Int) < 0 by omega)]
      exact Ev.now _
    · have hp : 0 < s.length := List.length_pos_iff.2 h0
      obtain ⟨hw, hf⟩ := hb 0 hp
      have hw2 := wordOk_sz hw
      have hcut : s.map tabB = tabB (rd_T38 s ((0 : Nat) : Int)) :: (s.drop 1).map tabB := by
        have := drop_rdT s 0 hp
        rw [List.drop_zero] at this
        conv => lhs; rw [this]
        rfl
      have nxt := fun out h => ev_schText_l0 s hok (s.length - 1) 1 out (by omega) (by omega) h
      rw [hcut, Go.Lib.join_cons]
      simp only [Int.natCast_zero] at hw hf hw2 nxt ⊢
      generalize ht : rd_T38 s 0 = t at hw hf hw2 ⊢
      obtain ⟨n, hn⟩ : ∃ n : List UInt8, t.f0 = ⟨n.toArray⟩ := ⟨_, (ba_self _).symm⟩
      have hnl : n.length = t.f0.size := by rw [hn, ba_sz]
      have hit := Go.Lib.itoa_length_le t.f1 (by omega) (by omega)
      have et : tabB t = n ++ [47] ++ Go.Lib.itoa t.f1 := by unfold tabB; rw [hn]; simp
      have s2 : ∀ l : List UInt8, (⟨l.toArray⟩ : ByteArray) ++ (⟨#[47]⟩ : ByteArray) = ⟨(l ++ [47]).toArray⟩ := fun l => ba_app l [47]
      have nx := nxt (tabB t) (by rw [et]; simp only [List.length_append, List.length_cons, List.length_nil]; omega)
      rw [et] at nx ⊢
      rw [ee]
      apply Ev.step
      · intro k; rw [spec_SchemaText.l0]
      simp only [if_pos (show (0 : Int) < s.length by omega), if_neg (show ¬ (0 : Int) > 0 by omega), if_pos (show (0 : Int) ≤ 0 by omega), ht, hn, s2, ba_sz, ba_app, List.nil_append, List.length_nil, if_pos (show 0 + n.length ≤ 9223372036854775807 by omega), if_pos (show n.length + 1 ≤ 9223372036854775807 by omega), w64 (x := (0 : Int) + 1) (by omega)]
      refine Ev.bind (ev_spec_l01Num t.f1 (by omega)) ?_
      unfold itoaB
      simp only [ba_sz, ba_app, if_pos (show (n ++ [47]).length + (Go.Lib.itoa t.f1).length ≤ 9223372036854775807 by simp; omega)]
      exact nx
  · simp only [if_neg hok]
    exact Ev.now _

theorem holds : ∀ (l0 : List (S46)), (l0.length ≤ 9223372036854775807 ∧ ∀ yl0 ∈ l0, Ok46 yl0) → ∃ k, laws_FnExactSchemaText.Facts k l0 := by
  intro l hl
  obtain ⟨q, he, g1, g2, g3⟩ := ev_laws_szTableS l 1048576 (by omega) (by omega) hl.1 (fun x hx => (hl.2 x hx).1)
  obtain ⟨k1, e1⟩ := he
  by_cases hq : q < 0
  · exact ⟨k1, .inl ⟨q, e1 _ (by omega), hq⟩⟩
  have hS := g3 (by omega)
  have hS1 := hS.1
  have hto := ev_laws_toTableS l hS
  have hb : ∀ x ∈ l.map cvTable, x.f0.size ≤ 1048576 := by
    intro x hx
    obtain ⟨y, hy, rfl⟩ := List.mem_map.1 hx
    exact hS.2 y hy
  have hlen : (l.map cvTable).length = l.length := List.length_map _
  generalize l.map cvTable = s at *
  obtain ⟨k2, e2⟩ := hto
  obtain ⟨k3, e3⟩ := ev_spec_SchemaText s (by omega) hb
  obtain ⟨k4, e4⟩ := ev_impl_SchemaText s (by omega) hb
  obtain ⟨k5, e5⟩ := ev_laws_eqTableS s (by omega) (fun _ _ => trivial)
  let k := k1 + k2 + k3 + k4 + k5
  exact ⟨k, .inr ⟨q, s, _, e1 k (by omega), hq, e2 k (by omega), e3 k (by omega), e4 k (by omega), e5 k (by omega)⟩⟩

end EFnExactSchemaText
open Go.RowKit Go.Proofs.YtgbpkbdpjcddhaaDoorW.PrintWords Go.Proofs.YtgbpkbdpjcddhaaDoorW.PrintLast Go.Proofs.YtgbpkbdpjcddhaaDoorW.PrintMore Go.Proofs.YtgbpkbdpjcddhaaDoor.Lib Go.Proofs.YtgbpkbdpjcddhaaDoor.Q
theorem FnExactSchemaText : ∀ (l0 : List (S46)), (l0.length ≤ 9223372036854775807 ∧ ∀ yl0 ∈ l0, Ok46 yl0) → ∃ k, laws_FnExactSchemaText.Facts k l0 := EFnExactSchemaText.holds
end Go.Proofs.YtgbpkbdpjcddhaaDoor.Pure
