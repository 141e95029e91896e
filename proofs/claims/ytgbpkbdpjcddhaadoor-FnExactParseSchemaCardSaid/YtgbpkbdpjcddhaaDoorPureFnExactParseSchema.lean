/- Of every text: the program's ParseSchema gives what the reference's ParseSchema gives, in new memory of its own. -/
import Derived.Test.YtgbpkbdpjcddhaaDoorQmFnExactParseSchema
import Derived.Test.YtgbpkbdpjcddhaaDoorShapes
import Derived.Test.YtgbpkbdpjcddhaaDoorLib
set_option linter.unusedVariables false
set_option linter.unusedSimpArgs false
namespace Go.Proofs.YtgbpkbdpjcddhaaDoor.Pure
namespace EFnExactParseSchema
open Go.RowKit Go.Proofs.YtgbpkbdpjcddhaaDoorW.PrintWords Go.Proofs.YtgbpkbdpjcddhaaDoorW.PrintLast Go.Proofs.YtgbpkbdpjcddhaaDoorW.PrintMore Go.Proofs.YtgbpkbdpjcddhaaDoor.Lib Go.Proofs.YtgbpkbdpjcddhaaDoor.Q

theorem impl_in_eq (a b c : Int) : impl_in.f a b c = some (decide (b ≤ a ∧ a ≤ c)) := by
  unfold impl_in.f
  by_cases h : b ≤ a
  · rw [if_pos h]; simp [h]
  · rw [if_neg (show ¬ a ≥ b from h)]; simp [h]

theorem ev_impl_WordOk_l0 (s : ByteArray) (hs : s.size ≤ 1099511627776) : ∀ (d i : Nat), i + d = s.size → Ev (fun k => impl_WordOk.l0 k s (s.size : Int) i) (wordFrom s d i && decide (1 ≤ s.size ∧ s.size ≤ 12)) := by
  intro d
  induction d with
  | zero =>
    intro i h
    apply Ev.step
    · intro k; rw [impl_WordOk.l0]
    simp only [if_neg (show ¬ ((i : Int) < s.size) by omega), impl_in_eq, Option.bind_some, wordFrom, Bool.true_and]
    refine Ev.const (congrArg some ?_)
    exact decide_eq_decide.mpr (by omega)
  | succ d ih =>
    intro i h
    have ih' := ih (i + 1) (by omega)
    apply Ev.step
    · intro k; rw [impl_WordOk.l0]
    simp only [if_pos (show (i : Int) < s.size by omega), if_pos (show (0 : Int) ≤ i by omega), w64 (x := (i : Int) + 1) (by omega), wordFrom]
    by_cases h1 : bt s i ≥ 97
    · simp only [if_pos h1]
      by_cases h2 : bt s i ≤ 122
      · simp only [if_pos h2, show okAt s i = true by simp [okAt]; omega, Bool.true_and]; exact ih'
      · simp only [if_neg h2]
        by_cases h0 : (i : Int) = 0
        · simp only [if_pos h0, show okAt s i = false by simp [okAt]; omega, Bool.false_and]; exact Ev.now _
        · simp only [if_neg h0, if_neg (show ¬ bt s i < 48 by omega), if_pos (show bt s i > 57 by omega), show okAt s i = false by simp [okAt]; omega, Bool.false_and]; exact Ev.now _
    · simp only [if_neg h1]
      by_cases h0 : (i : Int) = 0
      · simp only [if_pos h0, show okAt s i = false by simp [okAt]; omega, Bool.false_and]; exact Ev.now _
      · simp only [if_neg h0]
        by_cases h2 : bt s i < 48
        · simp only [if_pos h2, show okAt s i = false by simp [okAt]; omega, Bool.false_and]; exact Ev.now _
        · by_cases h3 : bt s i > 57
          · simp only [if_neg h2, if_pos h3, show okAt s i = false by simp [okAt]; omega, Bool.false_and]; exact Ev.now _
          · simp only [if_neg h2, if_neg h3, show okAt s i = true by simp [okAt]; omega, Bool.true_and]; exact ih'
theorem ev_impl_WordOk (s : ByteArray) (hs : s.size ≤ 1099511627776) : Ev (fun k => impl_WordOk.f k s) (wordOk s) := by
  have := ev_impl_WordOk_l0 s hs s.size 0 (by omega)
  rw [Bool.and_comm] at this
  exact this

def schAt (s : List S38) (i : Nat) : Bool :=
  wordOk (rd_T38 s i).f0 && (decide (1 ≤ (rd_T38 s i).f1 ∧ (rd_T38 s i).f1 ≤ 6) && (decide (i = 0) || Op.bytesLess (rd_T38 s ((i : Int) - 1)).f0.toList (rd_T38 s i).f0.toList))
def schFrom (s : List S38) : Nat → Nat → Bool
  | 0, _ => true
  | d + 1, i => schAt s i && schFrom s d (i + 1)
def schemaOk (s : List S38) : Bool := decide (s.length ≤ 8) && schFrom s s.length 0
theorem rdT_mem {s : List S38} {i : Nat} (h : i < s.length) : rd_T38 s i ∈ s := by
  have := getD_mem (z := z38) h
  simpa [rd_T38] using this

theorem ev_impl_SchemaOk_l0 (s : List S38) (hl : s.length ≤ 1099511627776) (hs : ∀ x ∈ s, x.f0.size ≤ 1048576) : ∀ (d i : Nat), i + d = s.length → Ev (fun k => impl_SchemaOk.l0 k s s (s.length : Int) i) (schFrom s d i && decide (s.length ≤ 8)) := by
  intro d
  induction d with
  | zero =>
    intro i h
    apply Ev.step
    · intro k; rw [impl_SchemaOk.l0]
    simp only [if_neg (show ¬ ((i : Int) < s.length) by omega), schFrom, Bool.true_and]
    exact Ev.const (congrArg some (decide_eq_decide.mpr (by omega)))
  | succ d ih =>
    intro i h
    have ih' := ih (i + 1) (by omega)
    have hm := hs _ (rdT_mem (show i < s.length by omega))
    apply Ev.step
    · intro k; rw [impl_SchemaOk.l0]
    simp only [if_pos (show (i : Int) < s.length by omega), if_pos (show (0 : Int) ≤ i by omega), w64 (x := (i : Int) + 1) (by omega), schFrom, schAt]
    refine Ev.bind (ev_impl_WordOk _ (by omega)) ?_
    by_cases h1 : wordOk (rd_T38 s i).f0 = true
    · simp only [h1, if_true, impl_in_eq, Option.bind_some, Bool.true_and]
      by_cases h2 : 1 ≤ (rd_T38 s i).f1 ∧ (rd_T38 s i).f1 ≤ 6
      · simp only [decide_eq_true h2, if_true, Bool.true_and]
        by_cases h3 : (i : Int) > 0
        · simp only [if_pos h3, w64 (x := (i : Int) - 1) (by omega), if_pos (show (0 : Int) ≤ (i : Int) - 1 by omega), if_pos (show (i : Int) - 1 < s.length by omega), decide_eq_false (show ¬ i = 0 by omega), Bool.false_or]
          by_cases h4 : Op.bytesLess (rd_T38 s ((i : Int) - 1)).f0.toList (rd_T38 s i).f0.toList = true
          · simp only [h4, if_true, Bool.true_and]; simpa using ih'
          · simp only [if_neg h4, Bool.eq_false_iff.mpr h4, Bool.false_and]; exact Ev.now _
        · simp only [if_neg h3, decide_eq_true (show i = 0 by omega), Bool.true_or, Bool.true_and]; simpa using ih'
      · simp only [decide_eq_false h2, if_neg Bool.false_ne_true, Bool.false_and]; exact Ev.now _
    · simp only [if_neg h1, Bool.eq_false_iff.mpr h1, Bool.false_and]; exact Ev.now _
theorem ev_impl_SchemaOk (s : List S38) (hl : s.length ≤ 1099511627776) (hs : ∀ x ∈ s, x.f0.size ≤ 1048576) : Ev (fun k => impl_SchemaOk.f k s) (schemaOk s) := by
  have := ev_impl_SchemaOk_l0 s hl hs s.length 0 (by omega)
  rw [Bool.and_comm] at this
  simpa [impl_SchemaOk.f, schemaOk] using this

def itoaB (n : Int) : ByteArray := ⟨(Go.Lib.itoa n).toArray⟩
theorem ba_app (a b : List UInt8) : (⟨a.toArray⟩ : ByteArray) ++ ⟨b.toArray⟩ = ⟨(a ++ b).toArray⟩ := by
  apply ByteArray.ext
  rw [ByteArray.data_append]
  simp
theorem ba_sz (a : List UInt8) : (⟨a.toArray⟩ : ByteArray).size = a.length := by simp [ByteArray.size]
theorem strOf_one (c : Int) : strOfNums [c] = ⟨[UInt8.ofNat c.toNat].toArray⟩ := by simp [strOfNums]
theorem num_end (out : List UInt8) (neg : Bool) (h : out.length ≤ 1000) : Ev (fun k => spec_l01Num.l0 k 0 ⟨out.toArray⟩ neg) (if neg = true then (⟨(45 :: out).toArray⟩ : ByteArray) else ⟨out.toArray⟩) := by
  apply Ev.step
  · intro k; rw [spec_l01Num.l0]
  simp only [if_true]
  by_cases hn : neg = true
  · simp only [if_pos hn, ba_sz, if_pos (show 1 + out.length ≤ 9223372036854775807 by omega)]
    exact Ev.const (congrArg some (by rw [show (⟨#[45]⟩ : ByteArray) = ⟨[(45 : UInt8)].toArray⟩ from rfl, ba_app]; rfl))
  · simp only [if_neg hn]
    exact Ev.now _
theorem num_step (m : Nat) (x : Int) (out : List UInt8) (neg : Bool) (r : ByteArray) (hm : x.natAbs = m) (h0 : 0 < m) (hx : -9223372036854775808 ≤ x ∧ x ≤ 9223372036854775807) (ho : out.length ≤ 1000)
    (e : Ev (fun k => spec_l01Num.l0 k (Int.tdiv x 10) ⟨(UInt8.ofNat (48 + m % 10) :: out).toArray⟩ neg) r) : Ev (fun k => spec_l01Num.l0 k x ⟨out.toArray⟩ neg) r := by
  have hd : -9223372036854775808 ≤ Int.tdiv x 10 ∧ Int.tdiv x 10 ≤ 9223372036854775807 := by
    rcases Int.natAbs_eq x with h | h
    · rw [h, tdiv_nn (by omega)]; omega
    · rw [h, tdiv_neg' (by omega)]; omega
  have key : ∀ c : Int, c = 48 + (m % 10 : Nat) → strOfNums [c] ++ (⟨out.toArray⟩ : ByteArray) = ⟨(UInt8.ofNat (48 + m % 10) :: out).toArray⟩ := by
    intro c hc
    rw [strOf_one, ba_app, hc, show ((48 : Int) + (m % 10 : Nat)).toNat = 48 + m % 10 by omega]; rfl
  have sz : ∀ c : Int, (strOfNums [c]).size = 1 := fun c => by simp [strOfNums, ByteArray.size]
  have hmod : (Int.tmod x 10 = ((m % 10 : Nat) : Int)) ∨ (Int.tmod x 10 = -((m % 10 : Nat) : Int)) := by
    rcases Int.natAbs_eq x with h | h
    · left; rw [h, tmod_nn (by omega)]; omega
    · right; rw [h, Int.neg_tmod, tmod_nn (by omega)]; omega
  apply Ev.step
  · intro k; rw [spec_l01Num.l0]
  simp only [if_neg (show ¬ x = 0 by omega), Option.bind_some, sz, ba_sz, if_pos (show 1 + out.length ≤ 9223372036854775807 by omega), w64 hd]
  by_cases hlt : Int.tmod x 10 < 0
  · simp only [if_pos hlt]
    have h1 : Int.tmod x 10 = -((m % 10 : Nat) : Int) := by omega
    rw [key ((wrap64 (48 + wrap64 (-(Int.tmod x 10)))) % 256) (by rw [h1, w64 (x := -(-((m % 10 : Nat) : Int))) (by omega), w64 (x := 48 + -(-((m % 10 : Nat) : Int))) (by omega)]; omega)]
    exact e
  · simp only [if_neg hlt]
    have h1 : Int.tmod x 10 = ((m % 10 : Nat) : Int) := by omega
    rw [key ((wrap64 (48 + (Int.tmod x 10))) % 256) (by rw [h1, w64 (by omega)]; omega)]
    exact e
theorem natAbs_tdiv10 (x : Int) : (Int.tdiv x 10).natAbs = x.natAbs / 10 := by
  rcases Int.natAbs_eq x with h | h
  · rw [h, tdiv_nn (by omega)]; omega
  · rw [h, tdiv_neg' (by omega)]; omega
theorem num_all : ∀ (n m : Nat), m ≤ n → ∀ (x : Int) (out : List UInt8) (neg : Bool), x.natAbs = m → 0 < m → (-9223372036854775808 ≤ x ∧ x ≤ 9223372036854775807) → out.length + Go.Lib.nDigits m ≤ 900 →
    Ev (fun k => spec_l01Num.l0 k x ⟨out.toArray⟩ neg) (if neg = true then (⟨(45 :: (Go.Lib.decDigits m ++ out)).toArray⟩ : ByteArray) else ⟨(Go.Lib.decDigits m ++ out).toArray⟩) := by
  intro n
  induction n with
  | zero => intro m h x out neg hm h0; omega
  | succ n ih =>
    intro m h x out neg hm h0 hx ho
    refine num_step m x out neg _ hm h0 hx (by omega) ?_
    have hq := natAbs_tdiv10 x
    rw [hm] at hq
    by_cases hs : m < 10
    · have : Int.tdiv x 10 = 0 := by omega
      rw [this, Go.Lib.decDigits, dif_pos hs]
      have := num_end (UInt8.ofNat (48 + m % 10) :: out) neg (by simp; omega)
      rw [Nat.mod_eq_of_lt hs] at this ⊢
      exact this
    · rw [Go.Lib.decDigits, dif_neg hs]
      rw [Go.Lib.nDigits_big hs] at ho
      have := ih (m / 10) (by omega) (Int.tdiv x 10) (UInt8.ofNat (48 + m % 10) :: out) neg hq (by omega) (by omega) (by simp; omega)
      simpa using this
theorem ev_spec_l01Num (a : Int) (ha : -9223372036854775808 ≤ a ∧ a ≤ 9223372036854775807) : Ev (fun k => spec_l01Num.f k a) (itoaB a) := by
  unfold itoaB Go.Lib.itoa
  simp only [spec_l01Num.f]
  by_cases h0 : a = 0
  · subst h0
    simp only [if_true]
    exact Ev.const (by rw [if_neg (by omega), show (0 : Int).toNat = 0 from rfl, Go.Lib.decDigits, dif_pos (by omega)]; rfl)
  · simp only [if_neg h0]
    have h20 := Go.Lib.nDigits_le20 a.natAbs (by omega)
    have := num_all a.natAbs a.natAbs (Nat.le_refl _) a [] (decide (a < 0)) rfl (by omega) ha (by simp; omega)
    rw [List.append_nil] at this
    by_cases hn : a < 0
    · simp only [decide_eq_true hn, if_true] at this
      rw [if_pos hn, decide_eq_true hn]
      exact this
    · simp only [decide_eq_false hn, if_neg Bool.false_ne_true] at this
      rw [if_neg hn, decide_eq_false hn, show a.toNat = a.natAbs by omega]
      exact this

theorem ba_self (b : ByteArray) : (⟨b.data.toList.toArray⟩ : ByteArray) = b := by cases b; simp

def tabB (t : S38) : List UInt8 := t.f0.data.toList ++ 47 :: Go.Lib.itoa t.f1
def tabV (t : S38) : ByteArray := ⟨(tabB t).toArray⟩
def schText (s : List S38) : List UInt8 := if schemaOk s = true then Go.Lib.join (s.map tabB) [32] else []
theorem schFrom_at (s : List S38) : ∀ (d i : Nat), schFrom s d i = true → ∀ j, i ≤ j → j < i + d → schAt s j = true
  | 0, i, _, j, h1, h2 => by omega
  | d + 1, i, h, j, h1, h2 => by
    unfold schFrom at h
    simp only [Bool.and_eq_true] at h
    by_cases e : j = i
    · subst e; exact h.1
    · exact schFrom_at s d (i + 1) h.2 j (by omega) (by omega)
theorem schemaOk_bound {s : List S38} (h : schemaOk s = true) : s.length ≤ 8 ∧ ∀ j, j < s.length → wordOk (rd_T38 s j).f0 = true ∧ 1 ≤ (rd_T38 s j).f1 ∧ (rd_T38 s j).f1 ≤ 6 := by
  unfold schemaOk at h
  simp only [Bool.and_eq_true, decide_eq_true_eq] at h
  refine ⟨h.1, fun j hj => ?_⟩
  have := schFrom_at s s.length 0 h.2 j (by omega) (by omega)
  unfold schAt at this
  simp only [Bool.and_eq_true, decide_eq_true_eq] at this
  exact ⟨this.1, this.2.1.1, this.2.1.2⟩
theorem wordOk_sz {s : ByteArray} (h : wordOk s = true) : 1 ≤ s.size ∧ s.size ≤ 12 := by
  unfold wordOk at h
  simp only [Bool.and_eq_true, decide_eq_true_eq] at h
  exact h.1
theorem drop_rdT (s : List S38) (i : Nat) (h : i < s.length) : s.drop i = rd_T38 s i :: s.drop (i + 1) := by
  have := drop_getD s z38 i h
  simpa [rd_T38] using this
theorem take_rdT (s : List S38) (i : Nat) (h : i < s.length) : s.take i ++ [rd_T38 s i] = s.take (i + 1) := by
  rw [List.take_add_one]
  simp [rd_T38, List.getD, h]
theorem tail32 (y : List UInt8) (r : List (List UInt8)) : Go.Lib.joinTail [32] (y :: r) = 32 :: (y ++ Go.Lib.joinTail [32] r) := by simp [Go.Lib.joinTail]
theorem tabB_len (t : S38) (h : t.f0.size ≤ 12) (h1 : 1 ≤ t.f1 ∧ t.f1 ≤ 6) : (tabB t).length ≤ 34 := by
  have := Go.Lib.itoa_length_le t.f1 (by omega) (by omega)
  have e : t.f0.data.toList.length = t.f0.size := by rw [Array.length_toList]; rfl
  unfold tabB
  rw [List.length_append, List.length_cons]
  omega
theorem flat_len (m : Nat) : ∀ (l : List (List UInt8)), (∀ x ∈ l, x.length ≤ m) → (Go.Lib.joinTail [32] l).length ≤ (m + 1) * l.length
  | [], _ => by simp [Go.Lib.joinTail]
  | x :: l, h => by
    have h1 := h x List.mem_cons_self
    have h2 := flat_len m l (fun y hy => h y (List.mem_cons_of_mem _ hy))
    rw [tail32]
    simp only [List.length_cons, List.length_append]
    rw [Nat.mul_add]
    omega
theorem schText_len (s : List S38) : (schText s).length ≤ 300 := by
  unfold schText
  by_cases h : schemaOk s = true
  · rw [if_pos h]
    obtain ⟨h1, h2⟩ := schemaOk_bound h
    have hm : ∀ x ∈ s.map tabB, x.length ≤ 34 := by
      intro x hx
      obtain ⟨t, ht, rfl⟩ := List.mem_map.1 hx
      obtain ⟨j, hj, rfl⟩ := List.getElem_of_mem ht
      have e : rd_T38 s j = s[j] := by simp [rd_T38, List.getD, hj]
      have := h2 j hj
      rw [e] at this
      exact tabB_len _ (wordOk_sz this.1).2 this.2
    have hl : (s.map tabB).length ≤ 8 := by rw [List.length_map]; exact h1
    generalize s.map tabB = l at hm hl
    cases l with
    | nil => simp [Go.Lib.join_nil]
    | cons x r =>
      rw [Go.Lib.join_cons, List.length_append]
      have h3 := flat_len 34 r (fun y hy => hm y (List.mem_cons_of_mem _ hy))
      have h4 := hm x List.mem_cons_self
      simp only [List.length_cons] at hl
      omega
  · rw [if_neg h]; simp

theorem join_tabV (s : List S38) : Lay.joinS (s.map tabV) (⟨#[32]⟩ : ByteArray) = ⟨(Go.Lib.join (s.map tabB) [32]).toArray⟩ := by
  unfold Lay.joinS
  rw [List.map_map]
  have : ((fun x : ByteArray => x.data.toList) ∘ tabV) = tabB := by funext v; simp [tabV]
  rw [this]
theorem impl_schText_l0 (s : List S38) (hok : schemaOk s = true) : ∀ (d i : Nat), i + d = s.length → Ev (fun k => impl_SchemaText.l0 k ((s.take i).map tabV) s (s.length : Int) i) ⟨(schText s).toArray⟩ := by
  obtain ⟨h8, hb⟩ := schemaOk_bound hok
  intro d
  induction d with
  | zero =>
    intro i h
    have hlen := schText_len s
    unfold schText at hlen ⊢
    rw [if_pos hok] at hlen ⊢
    apply Ev.step
    · intro k; rw [impl_SchemaText.l0]
    simp only [if_neg (show ¬ ((i : Int) < s.length) by omega), List.take_of_length_le (show s.length ≤ i by omega), impl_spaced.f, strings_Join.f, join_tabV, ba_sz, List.length_map]
    rw [if_pos ⟨by omega, by omega⟩]
    exact Ev.now _
  | succ d ih =>
    intro i h
    obtain ⟨hw, hf⟩ := hb i (by omega)
    have hw2 := wordOk_sz hw
    have ih' := ih (i + 1) (by omega)
    rw [← take_rdT s i (by omega), List.map_append, List.map_cons, List.map_nil] at ih'
    generalize ht : rd_T38 s i = t at hw hf hw2 ih'
    obtain ⟨n, hn⟩ : ∃ n : List UInt8, t.f0 = ⟨n.toArray⟩ := ⟨_, (ba_self _).symm⟩
    have hnl : n.length = t.f0.size := by rw [hn, ba_sz]
    have hit := Go.Lib.itoa_length_le t.f1 (by omega) (by omega)
    have et : tabV t = ⟨(n ++ [47] ++ Go.Lib.itoa t.f1).toArray⟩ := by unfold tabV tabB; rw [hn]; simp
    have s2 : ∀ l : List UInt8, (⟨l.toArray⟩ : ByteArray) ++ (⟨#[47]⟩ : ByteArray) = ⟨(l ++ [47]).toArray⟩ := fun l => ba_app l [47]
    rw [et] at ih'
    apply Ev.step
    · intro k; rw [impl_SchemaText.l0]
    simp only [if_pos (show (i : Int) < s.length by omega), if_pos (show (0 : Int) ≤ i by omega), ht, hn, s2, ba_sz, if_pos (show n.length + 1 ≤ 9223372036854775807 by omega), impl_number.f, if_pos (show -9223372036854775808 ≤ t.f1 ∧ t.f1 ≤ 9223372036854775807 by omega), Option.bind_some, ba_app, if_pos (show (n ++ [47]).length + (Go.Lib.itoa t.f1).length ≤ 9223372036854775807 by simp; omega), if_pos (show ((s.take i).map tabV).length < 8796093022208 by rw [List.length_map, List.length_take]; omega), w64 (x := (i : Int) + 1) (by omega)]
    exact ih'
theorem ev_impl_SchemaText (s : List S38) (hl : s.length ≤ 1099511627776) (hs : ∀ x ∈ s, x.f0.size ≤ 1048576) : Ev (fun k => impl_SchemaText.f k s) ⟨(schText s).toArray⟩ := by
  simp only [impl_SchemaText.f]
  refine Ev.bind (ev_impl_SchemaOk s hl hs) ?_
  by_cases hok : schemaOk s = true
  · simp only [hok, if_true]
    exact impl_schText_l0 s hok s.length 0 (by omega)
  · simp only [if_neg hok]
    unfold schText
    rw [if_neg hok]
    exact Ev.now _

-- a text parted at one byte
def spG (c : UInt8) (cur : List UInt8) : List UInt8 → List (List UInt8)
  | [] => [cur]
  | b :: l => if b = c then cur :: spG c [] l else spG c (cur ++ [b]) l
theorem idx_at (c : UInt8) (l : List UInt8) : ∀ cur : List UInt8, c ∉ cur → Go.Lib.indexByte (cur ++ c :: l) c = (cur.length : Int)
  | [], _ => by simp [Go.Lib.indexByte]
  | b :: cur, h => by
    have h1 : b ≠ c := fun e => h (by rw [e]; exact List.mem_cons_self)
    have ih := idx_at c l cur (fun e => h (List.mem_cons_of_mem _ e))
    show Go.Lib.indexByte (b :: (cur ++ c :: l)) c = _
    unfold Go.Lib.indexByte
    rw [if_neg (by simpa using h1), ih, if_neg (by simp)]
    simp
theorem idx_none (c : UInt8) : ∀ cur : List UInt8, c ∉ cur → Go.Lib.indexByte cur c = -1
  | [], _ => rfl
  | b :: cur, h => by
    have h1 : b ≠ c := fun e => h (by rw [e]; exact List.mem_cons_self)
    have ih := idx_none c cur (fun e => h (List.mem_cons_of_mem _ e))
    unfold Go.Lib.indexByte
    rw [if_neg (by simpa using h1), ih]
    simp
theorem splitK_spG (c : UInt8) : ∀ (l cur : List UInt8), c ∉ cur → Go.Lib.splitK [c] 0 (Go.Lib.count (cur ++ l) [c]) (cur ++ l) = spG c cur l := by
  intro l
  induction l with
  | nil =>
    intro cur h
    rw [Go.Lib.count_one, List.append_nil, List.count_eq_zero.2 h]
    rfl
  | cons b l ih =>
    intro cur h
    by_cases e : b = c
    · subst e
      have hi : Go.Lib.index (cur ++ b :: l) [b] = (cur.length : Int) := by rw [Go.Lib.index_one]; exact idx_at b l cur h
      have hc : Go.Lib.count (cur ++ b :: l) [b] = Go.Lib.count l [b] + 1 := by
        rw [Go.Lib.count_one, Go.Lib.count_one, List.count_append, List.count_eq_zero.2 h, List.count_cons_self]; omega
      rw [hc, Go.Lib.splitK, hi, if_neg (by simp), spG, if_pos rfl]
      have := ih [] (by simp)
      rw [List.nil_append] at this
      simp only [Int.toNat_natCast, Nat.add_zero, List.length_cons, List.length_nil, Nat.zero_add]
      rw [List.take_left, show (cur ++ b :: l).drop (cur.length + 1) = l by rw [← List.drop_drop, List.drop_left]; rfl, this]
    · have hq : c ∉ cur ++ [b] := by
        intro q
        rcases List.mem_append.1 q with q | q
        · exact h q
        · exact e (List.mem_singleton.1 q).symm
      rw [spG, if_neg e, ← ih (cur ++ [b]) hq]
      simp
/-- The texts of the parts. -/
def spB (S : ByteArray) (c : UInt8) : List ByteArray := (spG c [] S.data.toList).map fun l => ⟨l.toArray⟩
theorem spG_len (c : UInt8) : ∀ (l cur : List UInt8), (spG c cur l).length ≤ l.length + 1
  | [], cur => by simp [spG]
  | b :: l, cur => by
    unfold spG
    split
    · have := spG_len c l []; simp; omega
    · have := spG_len c l (cur ++ [b]); simp; omega
theorem spG_ne (c : UInt8) : ∀ (l cur : List UInt8), spG c cur l ≠ []
  | [], cur => by simp [spG]
  | b :: l, cur => by
    unfold spG
    split
    · simp
    · exact spG_ne c l (cur ++ [b])
theorem spG_join (c : UInt8) : ∀ (l cur : List UInt8), Go.Lib.join (spG c cur l) [c] = cur ++ l
  | [], cur => by simp [spG, Go.Lib.join_one]
  | b :: l, cur => by
    unfold spG
    split
    · rename_i e
      subst e
      have ih := spG_join b l []
      cases hs : spG b [] l with
      | nil => exact absurd hs (spG_ne b l [])
      | cons p ps =>
        rw [hs, Go.Lib.join_cons] at ih
        rw [Go.Lib.join_cons]
        simp only [Go.Lib.joinTail, List.map_cons, List.flatten_cons, List.nil_append] at ih ⊢
        rw [List.append_assoc, ih]
        simp
    · rw [spG_join c l (cur ++ [b])]; simp

theorem split_spB (S : ByteArray) (c : UInt8) (hs : S.size < 4294967281) : strings_Split.f S (⟨#[c]⟩ : ByteArray) = some (spB S c) := by
  unfold strings_Split.f
  rw [if_pos ⟨hs, (show 1 ≤ (⟨#[c]⟩ : ByteArray).size from Nat.le_refl 1)⟩]
  congr 1
  have h1 := Lib.splitB_data (⟨#[c]⟩ : ByteArray) 0 (Lib.countB S (⟨#[c]⟩ : ByteArray)) S
  have h2 := splitK_spG c S.data.toList [] (by simp)
  rw [List.nil_append] at h2
  have h3 : Lib.countB S (⟨#[c]⟩ : ByteArray) = Lib.count S.data.toList [c] := rfl
  have h4 : (⟨#[c]⟩ : ByteArray).data.toList = [c] := rfl
  rw [h4, h3, h2] at h1
  unfold spB
  rw [← h1, List.map_map, h3]
  have : ((fun l : List UInt8 => (⟨l.toArray⟩ : ByteArray)) ∘ fun x : ByteArray => x.data.toList) = id := by funext x; exact ba_self x
  rw [this, List.map_id]

-- numerals: what is read of them, digit by digit
def isDig (c : UInt8) : Bool := decide (48 ≤ c.toNat ∧ c.toNat ≤ 57)
def valN (a : Nat) (l : List UInt8) : Nat := l.foldl (fun a c => a * 10 + (c.toNat - 48)) a
theorem dec_dig (m : Nat) : ∀ c ∈ Go.Lib.decDigits m, isDig c = true := by
  induction m using Nat.strongRecOn with
  | _ m ih =>
    have hd : ∀ j : Nat, j < 10 → isDig (UInt8.ofNat (48 + j)) = true := by
      intro j hj
      unfold isDig
      rw [decide_eq_true_eq, UInt8.toNat_ofNat']
      omega
    by_cases h : m < 10
    · rw [Go.Lib.decDigits, dif_pos h]
      intro c hc
      rw [List.mem_singleton] at hc
      subst hc
      exact hd m h
    · rw [Go.Lib.decDigits, dif_neg h]
      intro c hc
      rcases List.mem_append.1 hc with hc | hc
      · exact ih (m / 10) (by omega) c hc
      · rw [List.mem_singleton] at hc
        subst hc
        exact hd (m % 10) (by omega)
theorem val_dec (m : Nat) : valN 0 (Go.Lib.decDigits m) = m := by
  induction m using Nat.strongRecOn with
  | _ m ih =>
    by_cases h : m < 10
    · rw [Go.Lib.decDigits, dif_pos h]
      simp only [valN, List.foldl_cons, List.foldl_nil, UInt8.toNat_ofNat']
      omega
    · have := ih (m / 10) (by omega)
      rw [Go.Lib.decDigits, dif_neg h]
      simp only [valN] at this
      simp only [valN, List.foldl_append, List.foldl_cons, List.foldl_nil, this, UInt8.toNat_ofNat']
      omega
theorem valN_lt : ∀ (l : List UInt8) (a : Nat), (∀ c ∈ l, isDig c = true) → valN a l < (a + 1) * 10 ^ l.length
  | [], a, _ => by simp [valN]
  | c :: l, a, h => by
    have hc := h c List.mem_cons_self
    unfold isDig at hc
    rw [decide_eq_true_eq] at hc
    have := valN_lt l (a * 10 + (c.toNat - 48)) (fun x hx => h x (List.mem_cons_of_mem _ hx))
    have e : valN a (c :: l) = valN (a * 10 + (c.toNat - 48)) l := rfl
    rw [e, List.length_cons, Nat.pow_succ]
    refine Nat.lt_of_lt_of_le this ?_
    rw [Nat.mul_comm (10 ^ l.length) 10, ← Nat.mul_assoc]
    exact Nat.mul_le_mul_right _ (by omega)
theorem parse_dig : ∀ (l : List UInt8) (a : Nat), (∀ c ∈ l, isDig c = true) → (a + 1) * 10 ^ l.length ≤ 1000000000000000000 → Go.Lib.parseUint10 a l = .ok (valN a l)
  | [], a, _, _ => rfl
  | c :: l, a, h, hb => by
    have hc := h c List.mem_cons_self
    unfold isDig at hc
    rw [decide_eq_true_eq] at hc
    rw [List.length_cons, Nat.pow_succ, Nat.mul_comm (10 ^ l.length) 10, ← Nat.mul_assoc] at hb
    have hp : 1 ≤ 10 ^ l.length := Nat.one_le_pow _ _ (by decide)
    have hb2 : (a + 1) * 10 ≤ 1000000000000000000 := Nat.le_trans (Nat.le_mul_of_pos_right _ hp) hb
    unfold Go.Lib.parseUint10
    rw [if_pos hc, if_neg (by omega), if_neg (by omega)]
    have e : valN a (c :: l) = valN (a * 10 + (c.toNat - 48)) l := rfl
    rw [e]
    refine parse_dig l _ (fun x hx => h x (List.mem_cons_of_mem _ hx)) ?_
    exact Nat.le_trans (Nat.mul_le_mul_right _ (by omega)) hb
theorem dec_ne (m : Nat) : Go.Lib.decDigits m ≠ [] := by
  intro h
  have := Go.Lib.decDigits_length m
  rw [h] at this
  have := Go.Lib.nDigits_pos m
  simp at *
  omega
theorem nDig7 (m : Nat) (h : m ≤ 1000000) : Go.Lib.nDigits m ≤ 7 := by
  by_cases h0 : m < 10
  · rw [Go.Lib.nDigits_small h0]; omega
  rw [Go.Lib.nDigits_big h0]
  by_cases h1 : m / 10 < 10
  · rw [Go.Lib.nDigits_small h1]; omega
  rw [Go.Lib.nDigits_big h1]
  by_cases h2 : m / 10 / 10 < 10
  · rw [Go.Lib.nDigits_small h2]; omega
  rw [Go.Lib.nDigits_big h2]
  by_cases h3 : m / 10 / 10 / 10 < 10
  · rw [Go.Lib.nDigits_small h3]; omega
  rw [Go.Lib.nDigits_big h3]
  by_cases h4 : m / 10 / 10 / 10 / 10 < 10
  · rw [Go.Lib.nDigits_small h4]; omega
  rw [Go.Lib.nDigits_big h4]
  by_cases h5 : m / 10 / 10 / 10 / 10 / 10 < 10
  · rw [Go.Lib.nDigits_small h5]; omega
  rw [Go.Lib.nDigits_big h5, Go.Lib.nDigits_small (by omega)]; omega
theorem itoa_pos (v : Int) (h : 0 ≤ v) : Go.Lib.itoa v = Go.Lib.decDigits v.natAbs := by unfold Go.Lib.itoa; rw [if_neg (by omega), show v.toNat = v.natAbs by omega]
theorem itoa_neg' (v : Int) (h : v < 0) : Go.Lib.itoa v = 45 :: Go.Lib.decDigits v.natAbs := by unfold Go.Lib.itoa; rw [if_pos h]
theorem atoi_itoa (v : Int) (h : -1000000 ≤ v ∧ v ≤ 1000000) : Go.Lib.atoiAll (Go.Lib.itoa v) = .ok v := by
  have h7 := nDig7 v.natAbs (by omega)
  have hdl := Go.Lib.decDigits_length v.natAbs
  have hmag : Go.Lib.parseMag (Go.Lib.decDigits v.natAbs) = .ok v.natAbs := by
    unfold Go.Lib.parseMag
    rw [if_neg (dec_ne _)]
    have := parse_dig (Go.Lib.decDigits v.natAbs) 0 (dec_dig _) (by
      rw [hdl]
      have : (10 : Nat) ^ Go.Lib.nDigits v.natAbs ≤ 10 ^ 7 := Nat.pow_le_pow_right (by decide) h7
      omega)
    rw [this, val_dec]
  by_cases hn : v < 0
  · rw [itoa_neg' v hn]
    unfold Go.Lib.atoiAll
    simp only [show (45 : UInt8).toNat = 45 from rfl, or_true, if_true, hmag, not_true, false_and, if_false, true_and]
    rw [if_neg (by omega)]
    exact congrArg _ (by omega)
  · rw [itoa_pos v (by omega)]
    cases hd : Go.Lib.decDigits v.natAbs with
    | nil => exact absurd hd (dec_ne _)
    | cons c r =>
      have hc := dec_dig v.natAbs c (by rw [hd]; exact List.mem_cons_self)
      unfold isDig at hc
      rw [decide_eq_true_eq] at hc
      rw [hd] at hmag
      unfold Go.Lib.atoiAll
      have h45 : ¬ c.toNat = 45 := by omega
      simp only [if_neg (show ¬ (c.toNat = 43 ∨ c.toNat = 45) by omega)]
      rw [hmag]
      simp only [h45, not_false_eq_true, true_and, false_and, if_false]
      rw [if_neg (by omega)]
      exact congrArg Go.Lib.NumEnd.ok (by omega)
/-- What the reference reads of a word. -/
def specEnd (s ds : List UInt8) (x : Int) : Int × Bool := if ds.length < s.length then (-x, decide (Go.Lib.itoa (-x) = s) && isNumB (-x)) else (x, decide (Go.Lib.itoa x = s) && isNumB x)
def restOf (s : List UInt8) : List UInt8 := if s.head? = some 45 then s.tail else s
def specRead (s : List UInt8) : Int × Bool := if 1 ≤ (restOf s).length ∧ (restOf s).length ≤ 7 then (if (restOf s).all isDig = true then specEnd s (restOf s) (valN 0 (restOf s)) else (0, false)) else (0, false)
theorem specRead_itoa (v : Int) (h : isNumB v = true) : specRead (Go.Lib.itoa v) = (v, true) := by
  have hv : -1000000 ≤ v ∧ v ≤ 1000000 := by rw [isNumB_eq, decide_eq_true_eq] at h; exact h
  have h7 := nDig7 v.natAbs (by omega)
  have h1 := Go.Lib.nDigits_pos v.natAbs
  have hdl := Go.Lib.decDigits_length v.natAbs
  have hall : (Go.Lib.decDigits v.natAbs).all isDig = true := List.all_eq_true.2 (dec_dig _)
  by_cases hn : v < 0
  · have hr : restOf (Go.Lib.itoa v) = Go.Lib.decDigits v.natAbs := by rw [itoa_neg' v hn]; rfl
    unfold specRead
    rw [hr, if_pos (by omega), if_pos hall, val_dec]
    unfold specEnd
    rw [if_pos (by rw [itoa_neg' v hn]; simp), show -((v.natAbs : Nat) : Int) = v by omega, h]
    simp
  · have hr : restOf (Go.Lib.itoa v) = Go.Lib.decDigits v.natAbs := by
      rw [itoa_pos v (by omega)]
      unfold restOf
      cases hd : Go.Lib.decDigits v.natAbs with
      | nil => rfl
      | cons c r =>
        have hc := dec_dig v.natAbs c (by rw [hd]; exact List.mem_cons_self)
        rw [if_neg]
        intro e
        simp only [List.head?_cons, Option.some.injEq] at e
        subst e
        exact absurd hc (by decide)
    unfold specRead
    rw [hr, if_pos (by omega), if_pos hall, val_dec]
    unfold specEnd
    rw [if_neg (by rw [itoa_pos v (by omega)]; omega), show ((v.natAbs : Nat) : Int) = v by omega, h]
    simp
theorem specRead_ok {s : List UInt8} (h : (specRead s).2 = true) : Go.Lib.itoa (specRead s).1 = s ∧ isNumB (specRead s).1 = true := by
  have key : ∀ ds x, (specEnd s ds x).2 = true → Go.Lib.itoa (specEnd s ds x).1 = s ∧ isNumB (specEnd s ds x).1 = true := by
    intro ds x hx
    unfold specEnd at hx ⊢
    split at hx
    · rename_i hc
      rw [if_pos hc]
      simp only [Bool.and_eq_true, decide_eq_true_eq] at hx
      exact hx
    · rename_i hc
      rw [if_neg hc]
      simp only [Bool.and_eq_true, decide_eq_true_eq] at hx
      exact hx
  unfold specRead at h ⊢
  split at h
  · rename_i h1
    rw [if_pos h1]
    split at h
    · rename_i h2
      rw [if_pos h2]
      exact key _ _ h
    · cases h
  · cases h
theorem read_eq (S : ByteArray) : ((specRead S.data.toList).2 = (Lay.readN S).2) ∧ ((specRead S.data.toList).2 = true → (specRead S.data.toList).1 = (Lay.readN S).1) := by
  by_cases h : (specRead S.data.toList).2 = true
  · obtain ⟨h1, h2⟩ := specRead_ok h
    have hv : -1000000 ≤ (specRead S.data.toList).1 ∧ (specRead S.data.toList).1 ≤ 1000000 := by rw [isNumB_eq, decide_eq_true_eq] at h2; exact h2
    have ha := atoi_itoa _ hv
    rw [h1] at ha
    have e : Lay.readN S = ((specRead S.data.toList).1, true) := by
      unfold Lay.readN
      rw [ha]
      simp only
      rw [if_pos ⟨h1, hv⟩]
    rw [e]
    exact ⟨h, fun _ => rfl⟩
  · refine ⟨?_, fun q => absurd q h⟩
    rw [Bool.eq_false_iff.2 h]
    cases hr : (Lay.readN S).2 with
    | false => rfl
    | true =>
      exfalso
      unfold Lay.readN at hr
      split at hr
      · rename_i v hv
        split at hr
        · rename_i hc
          have := specRead_itoa v (by rw [isNumB_eq]; exact decide_eq_true hc.2)
          rw [hc.1] at this
          exact h (by rw [this])
        · cases hr
      · cases hr
theorem readN_false {S : ByteArray} (h : (Lay.readN S).2 = false) : (Lay.readN S).1 = 0 := by
  unfold Lay.readN at h ⊢
  split
  · rename_i v hv
    rw [hv] at h
    simp only at h
    split
    · rename_i hc
      rw [if_pos hc] at h
      cases h
    · rfl
  · rfl
theorem readN_true {S : ByteArray} (h : (Lay.readN S).2 = true) : Go.Lib.itoa (Lay.readN S).1 = S.data.toList ∧ isNumB (Lay.readN S).1 = true := by
  unfold Lay.readN at h ⊢
  split
  · rename_i v hv
    rw [hv] at h
    simp only at h
    split
    · rename_i hc
      exact ⟨hc.1, by rw [isNumB_eq]; exact decide_eq_true hc.2⟩
    · rename_i hc
      rw [if_neg hc] at h
      cases h
  · rename_i hx
    split at h
    · rename_i v hv
      exact absurd hv (by first | exact hx v | (intro q; exact hx v q))
    · cases h

theorem spec_l01In_eq (a b c : Int) : spec_l01In.f a b c = some (decide (b ≤ a ∧ a ≤ c)) := by
  unfold spec_l01In.f
  by_cases h : b ≤ a
  · rw [if_pos h]; simp [h]
  · rw [if_neg h]; simp [h]

theorem spec_l01Number_eq (a : Int) : spec_l01Number.f a = some (isNumB a) := by
  unfold spec_l01Number.f; rw [spec_l01In_eq]; rfl

theorem bt_ba (l : List UInt8) (i : Nat) (h : i < l.length) : bt (⟨l.toArray⟩ : ByteArray) (i : Int) = ((l[i]).toNat : Int) := by
  have := bt_at (⟨l.toArray⟩ : ByteArray) i (by simpa [ByteArray.size] using h)
  simp only [Int.toNat_natCast] at this
  exact this.symm
theorem itoaB_eq (v : Int) (s : List UInt8) : ((itoaB v).toList = (⟨s.toArray⟩ : ByteArray).toList) ↔ Go.Lib.itoa v = s := by
  rw [Lib.toList_data, Lib.toList_data]
  simp [itoaB]
theorem read_end (s ds : List UInt8) (i : Nat) (x : Int) (hx : -10000000000 ≤ x ∧ x ≤ 10000000000) (hi : ds.length ≤ i) (hd : ds.length ≤ 1099511627776) (hs : s.length ≤ 1099511627776) : Ev (fun k => spec_l01Read.l0 k ⟨s.toArray⟩ ⟨ds.toArray⟩ x i) (specEnd s ds x) := by
  apply Ev.step
  · intro k; rw [spec_l01Read.l0]
  simp only [ba_sz, if_neg (show ¬ ((i : Int) < ds.length) by omega)]
  unfold specEnd
  by_cases h : ds.length < s.length
  · simp only [if_pos (show (ds.length : Int) < s.length by omega), if_pos h, w64 (x := -x) (by omega)]
    refine Ev.bind (ev_spec_l01Num (-x) (by omega)) ?_
    by_cases e : Go.Lib.itoa (-x) = s
    · simp only [if_pos ((itoaB_eq (-x) s).2 e), spec_l01Number_eq, Option.bind_some]
      exact Ev.const (by simp [e])
    · simp only [if_neg (fun q => e ((itoaB_eq (-x) s).1 q))]
      exact Ev.const (by simp [e])
  · simp only [if_neg (show ¬ (ds.length : Int) < s.length by omega), if_neg h]
    refine Ev.bind (ev_spec_l01Num x (by omega)) ?_
    by_cases e : Go.Lib.itoa x = s
    · simp only [if_pos ((itoaB_eq x s).2 e), spec_l01Number_eq, Option.bind_some]
      exact Ev.const (by simp [e])
    · simp only [if_neg (fun q => e ((itoaB_eq x s).1 q))]
      exact Ev.const (by simp [e])
theorem valN_drop (ds : List UInt8) (i a : Nat) (h : i < ds.length) : valN a (ds.drop i) = valN (a * 10 + ((ds[i]).toNat - 48)) (ds.drop (i + 1)) := by
  rw [List.drop_eq_getElem_cons h]; rfl
theorem read_l0 (s ds : List UInt8) (h7 : ds.length ≤ 7) (hs : s.length ≤ 1099511627776) : ∀ (d i a : Nat), i + d = ds.length → a < 10 ^ i → Ev (fun k => spec_l01Read.l0 k ⟨s.toArray⟩ ⟨ds.toArray⟩ (a : Int) i) (if (ds.drop i).all isDig = true then specEnd s ds (valN a (ds.drop i)) else (0, false)) := by
  intro d
  induction d with
  | zero =>
    intro i a h ha
    have hp : (10 : Nat) ^ i ≤ 10 ^ 7 := Nat.pow_le_pow_right (by decide) (by omega)
    rw [List.drop_eq_nil_of_le (by omega)]
    exact read_end s ds i a (by omega) (by omega) (by omega) hs
  | succ d ih =>
    intro i a h ha
    have hp : (10 : Nat) ^ i ≤ 10 ^ 6 := Nat.pow_le_pow_right (by decide) (by omega)
    have hb := (ds[i]'(by omega)).toNat_lt
    rw [List.drop_eq_getElem_cons (show i < ds.length by omega), List.all_cons]
    apply Ev.step
    · intro k; rw [spec_l01Read.l0]
    simp only [ba_sz, if_pos (show (i : Int) < ds.length by omega), if_pos (show (0 : Int) ≤ i by omega), bt_ba ds i (by omega)]
    generalize hcc : (ds[i]'(by omega)) = c at hb ⊢
    by_cases h1 : c.toNat < 48
    · have hn : isDig c = false := by unfold isDig; exact decide_eq_false (by omega)
      simp only [if_pos (show ((c.toNat : Nat) : Int) < 48 by omega), hn, Bool.false_and, if_neg Bool.false_ne_true]
      exact Ev.now _
    · by_cases h2 : 57 < c.toNat
      · have hn : isDig c = false := by unfold isDig; exact decide_eq_false (by omega)
        simp only [if_neg (show ¬ ((c.toNat : Nat) : Int) < 48 by omega), if_pos (show ((c.toNat : Nat) : Int) > 57 by omega), hn, Bool.false_and, if_neg Bool.false_ne_true]
        exact Ev.now _
      · have hn : isDig c = true := by unfold isDig; exact decide_eq_true (by omega)
        have ih' := ih (i + 1) (a * 10 + (c.toNat - 48)) (by omega) (by rw [Nat.pow_succ]; omega)
        simp only [if_neg (show ¬ ((c.toNat : Nat) : Int) < 48 by omega), if_neg (show ¬ ((c.toNat : Nat) : Int) > 57 by omega), hn, Bool.true_and, w64 (x := 10 * (a : Int)) (by omega), w64 (x := ((c.toNat : Nat) : Int)) (by omega), w64 (x := 10 * (a : Int) + ((c.toNat : Nat) : Int)) (by omega), w64 (x := 10 * (a : Int) + ((c.toNat : Nat) : Int) - 48) (by omega), w64 (x := (i : Int) + 1) (by omega)]
        rw [show (10 * (a : Int) + ((c.toNat : Nat) : Int) - 48) = ((a * 10 + (c.toNat - 48) : Nat) : Int) by omega]
        exact ih'
theorem read_j1 (s ds : List UInt8) (hs : s.length ≤ 1099511627776) (hd : ds.length ≤ 1099511627776) : Ev (fun k => spec_l01Read.j1 k ⟨s.toArray⟩ ⟨ds.toArray⟩) (if 1 ≤ ds.length ∧ ds.length ≤ 7 then (if ds.all isDig = true then specEnd s ds (valN 0 ds) else (0, false)) else (0, false)) := by
  apply Ev.step
  · intro k; rw [spec_l01Read.j1]
  simp only [ba_sz, spec_l01In_eq, Option.bind_some]
  by_cases h : 1 ≤ ds.length ∧ ds.length ≤ 7
  · simp only [decide_eq_true (show 1 ≤ (ds.length : Int) ∧ (ds.length : Int) ≤ 7 by omega), if_true, if_pos h]
    have := read_l0 s ds h.2 hs ds.length 0 0 (by omega) (by decide)
    simpa using this
  · simp only [decide_eq_false (show ¬ (1 ≤ (ds.length : Int) ∧ (ds.length : Int) ≤ 7) by omega), if_neg Bool.false_ne_true, if_neg h]
    exact Ev.now _
theorem extract_tail (s : List UInt8) (a : Nat) : (⟨s.toArray⟩ : ByteArray).extract a (⟨s.toArray⟩ : ByteArray).size = ⟨(s.drop a).toArray⟩ := by
  have := Lib.extract_to_end (⟨s.toArray⟩ : ByteArray) a
  rw [← ba_self ((⟨s.toArray⟩ : ByteArray).extract a (⟨s.toArray⟩ : ByteArray).size), this]
theorem ev_spec_l01Read (S : ByteArray) (hs : S.size ≤ 1099511627776) : Ev (fun k => spec_l01Read.f k S) (specRead S.data.toList) := by
  obtain ⟨s, hS⟩ : ∃ s : List UInt8, S = ⟨s.toArray⟩ := ⟨_, (ba_self S).symm⟩
  subst hS
  rw [ba_sz] at hs
  show Ev _ (specRead s)
  simp only [spec_l01Read.f, ba_sz]
  cases s with
  | nil =>
    simp only [List.length_nil, Int.natCast_zero, if_neg (show ¬ (0 : Int) > 0 by omega)]
    apply Ev.step
    · intro k; rw [spec_l01Read.j0]
    simp only [if_neg Bool.false_ne_true]
    exact read_j1 [] [] (by simp) (by simp)
  | cons c r =>
    have h0 : 0 < (c :: r).length := by simp
    have hb : bt (⟨(c :: r).toArray⟩ : ByteArray) 0 = ((c.toNat : Nat) : Int) := bt_ba (c :: r) 0 h0
    simp only [if_pos (show ((c :: r).length : Int) > 0 by omega), if_pos (show 0 < ((c :: r).length : Int) by omega), hb]
    by_cases hc : c = 45
    · subst hc
      have e : restOf (45 :: r) = r := rfl
      have j := read_j1 (45 :: r) r hs (by simp at hs; omega)
      unfold specRead
      rw [e]
      apply Ev.step
      · intro k; rw [spec_l01Read.j0]
      simp only [show ((((45 : UInt8).toNat : Nat) : Int) == 45) = true from rfl, if_true, ba_sz, if_pos (show 1 ≤ ((45 :: r : List UInt8).length : Int) by simp only [List.length_cons]; omega)]
      have := extract_tail (45 :: r) 1
      rw [ba_sz] at this
      first | exact j | (simp only [this]; exact j)
    · have e : restOf (c :: r) = c :: r := by
        unfold restOf
        rw [if_neg]
        intro q
        simp only [List.head?_cons, Option.some.injEq] at q
        exact hc q
      have hn : ((((c.toNat : Nat) : Int)) == 45) = false := by
        rw [beq_eq_false_iff_ne]
        intro q
        exact hc (by rw [← UInt8.toNat_inj]; show c.toNat = 45; omega)
      have j := read_j1 (c :: r) (c :: r) hs hs
      unfold specRead
      rw [e]
      apply Ev.step
      · intro k; rw [spec_l01Read.j0]
      simp only [hn, if_neg Bool.false_ne_true]
      exact j

theorem spG_app (c : UInt8) : ∀ (n l cur : List UInt8), c ∉ n → spG c cur (n ++ l) = spG c (cur ++ n) l
  | [], l, cur, _ => by simp
  | b :: n, l, cur, h => by
    have h1 : b ≠ c := fun e => h (by rw [e]; exact List.mem_cons_self)
    rw [List.cons_append, spG, if_neg h1, spG_app c n l (cur ++ [b]) (fun e => h (List.mem_cons_of_mem _ e))]
    simp
theorem spG_one (c : UInt8) (n : List UInt8) (h : c ∉ n) : spG c [] n = [n] := by
  have := spG_app c n [] [] h
  simpa [spG] using this
theorem spG_two (c : UInt8) (n r : List UInt8) (h : c ∉ n) : spG c [] (n ++ c :: r) = n :: spG c [] r := by
  rw [spG_app c n (c :: r) [] h, spG, if_pos rfl]; simp
theorem spG_mem_len (c : UInt8) : ∀ (l cur : List UInt8), ∀ x ∈ spG c cur l, x.length ≤ cur.length + l.length
  | [], cur, x, hx => by
    rw [spG, List.mem_singleton] at hx
    subst hx
    simp
  | b :: l, cur, x, hx => by
    unfold spG at hx
    split at hx
    · rcases List.mem_cons.1 hx with rfl | hx
      · simp
      · have := spG_mem_len c l [] x hx; simp at *; omega
    · have := spG_mem_len c l (cur ++ [b]) x hx; simp at *; omega
theorem cut_none (l : List UInt8) (h : (47 : UInt8) ∉ l) : Go.Lib.cut l [47] = (l, [], false) := by
  unfold Go.Lib.cut
  rw [Go.Lib.index_one, idx_none 47 l h, if_neg (by omega)]
theorem cut_some (n r : List UInt8) (h : (47 : UInt8) ∉ n) : Go.Lib.cut (n ++ 47 :: r) [47] = (n, r, true) := by
  unfold Go.Lib.cut
  rw [Go.Lib.index_one, idx_at 47 r n h, if_pos (by omega), Int.toNat_natCast, List.take_left]
  rw [show (n ++ 47 :: r).drop (n.length + [(47 : UInt8)].length) = r by rw [← List.drop_drop, List.drop_left]; rfl]
def tabOf (w : ByteArray) : S38 := ⟨⟨(Go.Lib.cut w.data.toList [47]).1.toArray⟩, (Lay.readN ⟨(Go.Lib.cut w.data.toList [47]).2.1.toArray⟩).1⟩
def specTabs : List ByteArray → List S38 → Option (List S38)
  | [], acc => some acc
  | w :: ws, acc => if (spB w 47).length = 2 then (if (specRead (rdOf ByteArray.empty (spB w 47) 1).data.toList).2 = true then specTabs ws (acc ++ [⟨rdOf ByteArray.empty (spB w 47) 0, (specRead (rdOf ByteArray.empty (spB w 47) 1).data.toList).1⟩]) else none) else none
def specFin (o : Option (List S38)) : List S38 × Bool := match o with
  | some l => if schemaOk l = true then (l, true) else ([], false)
  | none => ([], false)
theorem itoa_no47 (v : Int) : (47 : UInt8) ∉ Go.Lib.itoa v := by
  have hd : ∀ m, (47 : UInt8) ∉ Go.Lib.decDigits m := fun m h => absurd (dec_dig m _ h) (by decide)
  by_cases h : v < 0
  · rw [itoa_neg' v h]
    intro q
    rcases List.mem_cons.1 q with q | q
    · exact absurd q (by decide)
    · exact hd _ q
  · rw [itoa_pos v (by omega)]
    exact hd _
theorem word_ok (w : ByteArray) (h2 : (spB w 47).length = 2) (hr : (specRead (rdOf ByteArray.empty (spB w 47) 1).data.toList).2 = true) :
    (⟨rdOf ByteArray.empty (spB w 47) 0, (specRead (rdOf ByteArray.empty (spB w 47) 1).data.toList).1⟩ : S38) = tabOf w ∧ tabB (tabOf w) = w.data.toList := by
  unfold spB at h2 hr ⊢
  by_cases hm : (47 : UInt8) ∈ w.data.toList
  · obtain ⟨n, r, hw, hn⟩ := List.eq_append_cons_of_mem hm
    rw [hw, spG_two 47 n r hn] at h2 hr ⊢
    by_cases hm2 : (47 : UInt8) ∈ r
    · obtain ⟨n2, r2, hw2, hn2⟩ := List.eq_append_cons_of_mem hm2
      rw [hw2, spG_two 47 n2 r2 hn2] at h2
      have := List.length_pos_iff.2 (spG_ne 47 r2 [])
      rw [List.length_map, List.length_cons, List.length_cons] at h2
      omega
    · rw [spG_one 47 r hm2] at hr ⊢
      have e0 : rdOf ByteArray.empty (List.map (fun l : List UInt8 => (⟨l.toArray⟩ : ByteArray)) [n, r]) 0 = ⟨n.toArray⟩ := rfl
      have e1 : rdOf ByteArray.empty (List.map (fun l : List UInt8 => (⟨l.toArray⟩ : ByteArray)) [n, r]) 1 = ⟨r.toArray⟩ := rfl
      rw [e1] at hr
      rw [e0, e1]
      have hre := read_eq (⟨r.toArray⟩ : ByteArray)
      have hok := specRead_ok hr
      have hd : (⟨r.toArray⟩ : ByteArray).data.toList = r := by simp
      have ht : tabOf w = ⟨⟨n.toArray⟩, (specRead (⟨r.toArray⟩ : ByteArray).data.toList).1⟩ := by
        unfold tabOf
        rw [hw, cut_some n r hn, hre.2 hr]
      refine ⟨ht.symm, ?_⟩
      rw [ht]
      unfold tabB
      rw [hok.1, hd]
  · rw [spG_one 47 _ hm] at h2
    simp at h2
theorem word_back (w : ByteArray) (h : 1 ≤ (tabOf w).f1) : (spB w 47).length = 2 ∧ (specRead (rdOf ByteArray.empty (spB w 47) 1).data.toList).2 = true := by
  have key : ∀ r : List UInt8, 1 ≤ (Lay.readN ⟨r.toArray⟩).1 → ∃ v, Go.Lib.itoa v = r ∧ isNumB v = true := by
    intro r hr
    cases hb : (Lay.readN ⟨r.toArray⟩).2 with
    | false => rw [readN_false hb] at hr; omega
    | true =>
      obtain ⟨h1, h2⟩ := readN_true hb
      exact ⟨_, by simpa using h1, h2⟩
  unfold tabOf at h
  unfold spB
  by_cases hm : (47 : UInt8) ∈ w.data.toList
  · obtain ⟨n, r, hw, hn⟩ := List.eq_append_cons_of_mem hm
    rw [hw, cut_some n r hn] at h
    obtain ⟨v, hv, hnum⟩ := key r h
    have hr : (47 : UInt8) ∉ r := by rw [← hv]; exact itoa_no47 v
    rw [hw, spG_two 47 n r hn, spG_one 47 r hr]
    refine ⟨rfl, ?_⟩
    have e1 : rdOf ByteArray.empty (List.map (fun l : List UInt8 => (⟨l.toArray⟩ : ByteArray)) [n, r]) 1 = ⟨r.toArray⟩ := rfl
    rw [e1, show (⟨r.toArray⟩ : ByteArray).data.toList = r by simp, ← hv, specRead_itoa v hnum]
  · rw [cut_none _ hm] at h
    obtain ⟨v, hv, _⟩ := key [] h
    exfalso
    by_cases hn : v < 0
    · rw [itoa_neg' v hn] at hv; cases hv
    · rw [itoa_pos v (by omega)] at hv; exact dec_ne _ hv
theorem specTabs_some : ∀ (ws : List ByteArray) (acc out : List S38), specTabs ws acc = some out → out = acc ++ ws.map tabOf ∧ (ws.map tabOf).map tabB = ws.map (·.data.toList)
  | [], acc, out, h => by
    unfold specTabs at h
    obtain rfl := Option.some.inj h
    simp
  | w :: ws, acc, out, h => by
    unfold specTabs at h
    split at h
    · rename_i h2
      split at h
      · rename_i hr
        obtain ⟨h3, h4⟩ := word_ok w h2 hr
        rw [h3] at h
        obtain ⟨h5, h6⟩ := specTabs_some ws _ out h
        refine ⟨by rw [h5]; simp, ?_⟩
        simp only [List.map_cons, h4, h6]
      · cases h
    · cases h
theorem specTabs_back : ∀ (ws : List ByteArray) (acc : List S38), (∀ w ∈ ws, 1 ≤ (tabOf w).f1) → specTabs ws acc = some (acc ++ ws.map tabOf)
  | [], acc, _ => by simp [specTabs]
  | w :: ws, acc, h => by
    obtain ⟨h2, hr⟩ := word_back w (h w List.mem_cons_self)
    unfold specTabs
    rw [if_pos h2, if_pos hr, (word_ok w h2 hr).1, specTabs_back ws _ (fun x hx => h x (List.mem_cons_of_mem _ hx))]
    simp
theorem tabB_len14 (t : S38) (h : t.f0.size ≤ 12) (h1 : 1 ≤ t.f1 ∧ t.f1 ≤ 6) : (tabB t).length ≤ 14 := by
  have e : t.f0.data.toList.length = t.f0.size := by rw [Array.length_toList]; rfl
  have e2 : (Go.Lib.itoa t.f1).length = 1 := by rw [itoa_pos t.f1 (by omega), Go.Lib.decDigits_length, Go.Lib.nDigits_small (by omega)]
  unfold tabB
  rw [List.length_append, List.length_cons]
  omega
theorem schText_len200 (s : List S38) : (schText s).length ≤ 200 := by
  unfold schText
  by_cases h : schemaOk s = true
  · rw [if_pos h]
    obtain ⟨h1, h2⟩ := schemaOk_bound h
    have hm : ∀ x ∈ s.map tabB, x.length ≤ 14 := by
      intro x hx
      obtain ⟨t, ht, rfl⟩ := List.mem_map.1 hx
      obtain ⟨j, hj, rfl⟩ := List.getElem_of_mem ht
      have e : rd_T38 s j = s[j] := by simp [rd_T38, List.getD, hj]
      have := h2 j hj
      rw [e] at this
      exact tabB_len14 _ (wordOk_sz this.1).2 this.2
    have hl : (s.map tabB).length ≤ 8 := by rw [List.length_map]; exact h1
    generalize s.map tabB = l at hm hl
    cases l with
    | nil => simp [Go.Lib.join_nil]
    | cons x r =>
      rw [Go.Lib.join_cons, List.length_append]
      have h3 := flat_len 14 r (fun y hy => hm y (List.mem_cons_of_mem _ hy))
      have h4 := hm x List.mem_cons_self
      simp only [List.length_cons] at hl
      omega
  · rw [if_neg h]; simp
def specParse (S : ByteArray) : List S38 × Bool := if S.data.toList = [] then ([], true) else if 200 < S.size then ([], false) else specFin (specTabs (spB S 32) [])
def implParse (S : ByteArray) : List S38 × Bool := if S.data.toList = [] then ([], true) else if schemaOk ((spB S 32).map tabOf) = true ∧ schText ((spB S 32).map tabOf) = S.data.toList then ((spB S 32).map tabOf, true) else ([], false)
theorem parse_eq (S : ByteArray) : specParse S = implParse S := by
  unfold specParse implParse
  by_cases h0 : S.data.toList = []
  · rw [if_pos h0, if_pos h0]
  rw [if_neg h0, if_neg h0]
  by_cases hi : schemaOk ((spB S 32).map tabOf) = true ∧ schText ((spB S 32).map tabOf) = S.data.toList
  · rw [if_pos hi]
    have hl := schText_len200 ((spB S 32).map tabOf)
    rw [hi.2] at hl
    have hsz : S.data.toList.length = S.size := by rw [Array.length_toList]; rfl
    rw [if_neg (by omega)]
    have hb := (schemaOk_bound hi.1).2
    have hall : ∀ w ∈ spB S 32, 1 ≤ (tabOf w).f1 := by
      intro w hw
      obtain ⟨j, hj, rfl⟩ := List.getElem_of_mem hw
      have := hb j (by rw [List.length_map]; exact hj)
      have e : rd_T38 ((spB S 32).map tabOf) j = tabOf (spB S 32)[j] := by simp [rd_T38, List.getD, hj]
      rw [e] at this
      exact this.2.1
    rw [specTabs_back _ [] hall]
    unfold specFin
    simp only [List.nil_append]
    rw [if_pos hi.1]
  · rw [if_neg hi]
    by_cases hl : 200 < S.size
    · rw [if_pos hl]
    rw [if_neg hl]
    unfold specFin
    split
    · rename_i l hs
      obtain ⟨h1, h2⟩ := specTabs_some _ _ _ hs
      rw [List.nil_append] at h1
      subst h1
      by_cases hok : schemaOk ((spB S 32).map tabOf) = true
      · exfalso
        refine hi ⟨hok, ?_⟩
        unfold schText
        rw [if_pos hok, h2]
        unfold spB
        rw [List.map_map]
        have : ((fun x : ByteArray => x.data.toList) ∘ fun l : List UInt8 => (⟨l.toArray⟩ : ByteArray)) = id := by funext l; simp
        rw [this, List.map_id, spG_join, List.nil_append]
      · rw [if_neg hok]
    · rfl
theorem spB_size (S : ByteArray) (c : UInt8) : ∀ w ∈ spB S c, w.size ≤ S.size := by
  intro w hw
  unfold spB at hw
  obtain ⟨l, hl, rfl⟩ := List.mem_map.1 hw
  have := spG_mem_len c S.data.toList [] l hl
  rw [ba_sz]
  simp at this
  exact this
theorem spB_len (S : ByteArray) (c : UInt8) : (spB S c).length ≤ S.size + 1 := by
  unfold spB
  rw [List.length_map]
  have := spG_len c S.data.toList []
  simp at this
  exact this
theorem rdOf_mem {l : List ByteArray} {i : Nat} (h : i < l.length) : rdOf ByteArray.empty l (i : Int) ∈ l := by
  have : rdOf ByteArray.empty l (i : Int) = l[i] := by simp [rdOf, List.getD, h]
  rw [this]; exact List.getElem_mem h
theorem drop_rdOf (l : List ByteArray) (i : Nat) (h : i < l.length) : l.drop i = rdOf ByteArray.empty l (i : Int) :: l.drop (i + 1) := by
  rw [List.drop_eq_getElem_cons h]
  simp [rdOf, List.getD, h]
theorem take_rdOf (l : List ByteArray) (i : Nat) (h : i < l.length) : l.take i ++ [rdOf ByteArray.empty l (i : Int)] = l.take (i + 1) := by
  rw [List.take_add_one]
  simp [rdOf, List.getD, h]

theorem extract_mid (s : List UInt8) (a b : Nat) : (⟨s.toArray⟩ : ByteArray).extract a b = ⟨((s.take b).drop a).toArray⟩ := by
  apply ByteArray.ext
  simp [ByteArray.data_extract, List.extract_toArray, List.extract_eq_take_drop, List.drop_take]
theorem parts_l0 (s : List UInt8) (c : UInt8) (hs : s.length ≤ 1099511627776) : ∀ (d at_ i : Nat) (acc : List ByteArray), i + d = s.length → at_ ≤ i → acc.length ≤ i → Ev (fun k => spec_l01Parts.l0 k ⟨s.toArray⟩ ((c.toNat : Nat) : Int) acc at_ i) (acc ++ (spG c ((s.take i).drop at_) (s.drop i)).map fun l => (⟨l.toArray⟩ : ByteArray)) := by
  intro d
  induction d with
  | zero =>
    intro at_ i acc h ha hl
    have hi : i = s.length := by omega
    apply Ev.step
    · intro k; rw [spec_l01Parts.l0]
    simp only [ba_sz, if_pos (show (i : Int) ≤ s.length by omega), if_pos (show (i : Int) = s.length by omega), if_pos (show (0 : Int) ≤ at_ by omega), if_pos (show (at_ : Int) ≤ i by omega), if_pos (show acc.length < 8796093022208 by omega), w64 (x := (i : Int) + 1) (by omega), Int.toNat_natCast, extract_mid]
    rw [List.drop_eq_nil_of_le (show s.length ≤ i by omega)]
    apply Ev.step
    · intro k; rw [spec_l01Parts.l0]
    simp only [ba_sz, if_neg (show ¬ (i : Int) + 1 ≤ s.length by omega), spG, List.map_cons, List.map_nil]
    exact Ev.now _
  | succ d ih =>
    intro at_ i acc h ha hl
    have hlt : i < s.length := by omega
    rw [List.drop_eq_getElem_cons hlt]
    apply Ev.step
    · intro k; rw [spec_l01Parts.l0]
    simp only [ba_sz, if_pos (show (i : Int) ≤ s.length by omega), if_neg (show ¬ (i : Int) = s.length by omega), if_pos (show (0 : Int) ≤ i by omega), if_pos (show (i : Int) < s.length by omega), bt_ba s i hlt]
    by_cases hc : s[i] = c
    · have ih' := ih (i + 1) (i + 1) (acc ++ [⟨((s.take i).drop at_).toArray⟩]) (by omega) (by omega) (by simp; omega)
      rw [show (s.take (i + 1)).drop (i + 1) = [] from List.drop_eq_nil_of_le (by rw [List.length_take]; omega)] at ih'
      rw [spG, if_pos hc]
      simp only [hc, if_true, if_pos (show (0 : Int) ≤ at_ by omega), if_pos (show (at_ : Int) ≤ i by omega), if_pos (show acc.length < 8796093022208 by omega), w64 (x := (i : Int) + 1) (by omega), Int.toNat_natCast, extract_mid, List.map_cons]
      simpa using ih'
    · have ih' := ih at_ (i + 1) acc (by omega) (by omega) (by omega)
      have e : (s.take (i + 1)).drop at_ = (s.take i).drop at_ ++ [s[i]] := by
        rw [List.take_succ_eq_append_getElem hlt, List.drop_append_of_le_length (by rw [List.length_take]; omega)]
      rw [e] at ih'
      rw [spG, if_neg hc]
      have hne : ¬ (((s[i]).toNat : Nat) : Int) = ((c.toNat : Nat) : Int) := fun q => hc (by rw [← UInt8.toNat_inj]; omega)
      simp only [if_neg hne, w64 (x := (i : Int) + 1) (by omega)]
      exact ih'
theorem ev_spec_l01Parts (S : ByteArray) (c : UInt8) (hs : S.size ≤ 1099511627776) (n : Int) (hn : n = ((c.toNat : Nat) : Int)) : Ev (fun k => spec_l01Parts.f k S n) (spB S c) := by
  obtain ⟨s, hS⟩ : ∃ s : List UInt8, S = ⟨s.toArray⟩ := ⟨_, (ba_self S).symm⟩
  subst hS
  subst hn
  rw [ba_sz] at hs
  have := parts_l0 s c hs s.length 0 0 [] (by omega) (by omega) (by simp)
  simpa [spec_l01Parts.f, spB] using this

theorem ev_spec_WordOk_l0 (s : ByteArray) (hs : s.size ≤ 1099511627776) : ∀ (d i : Nat), i + d = s.size → (i = 0 → 97 ≤ bt s 0) → Ev (fun k => spec_WordOk.l0 k s i) (wordFrom s d i) := by
  intro d
  induction d with
  | zero =>
    intro i h _
    apply Ev.step
    · intro k; rw [spec_WordOk.l0]
    simp only [if_neg (show ¬ ((i : Int) < s.size) by omega)]
    exact Ev.now _
  | succ d ih =>
    intro i h h0
    have ih' := ih (i + 1) (by omega) (by omega)
    apply Ev.step
    · intro k; rw [spec_WordOk.l0]
    simp only [if_pos (show (i : Int) < s.size by omega), if_pos (show (0 : Int) ≤ i by omega), w64 (x := (i : Int) + 1) (by omega), wordFrom]
    have hi : i = 0 → 97 ≤ bt s i := by intro e; subst e; exact h0 rfl
    by_cases h1 : bt s i < 97
    · simp only [if_pos h1]
      have hp : 0 < i := by rcases Nat.eq_zero_or_pos i with e | e; · have := hi e; omega
                            · exact e
      by_cases h2 : bt s i < 48
      · simp only [if_pos h2, show okAt s i = false by simp [okAt]; omega, Bool.false_and]; exact Ev.now _
      · by_cases h3 : bt s i > 57
        · simp only [if_neg h2, if_pos h3, show okAt s i = false by simp [okAt]; omega, Bool.false_and]; exact Ev.now _
        · simp only [if_neg h2, if_neg h3, show okAt s i = true by simp [okAt]; omega, Bool.true_and]; exact ih'
    · simp only [if_neg h1]
      by_cases h2 : bt s i > 122
      · simp only [if_pos h2, if_neg (show ¬ bt s i < 48 by omega), if_pos (show bt s i > 57 by omega), show okAt s i = false by simp [okAt]; omega, Bool.false_and]; exact Ev.now _
      · simp only [if_neg h2, show okAt s i = true by simp [okAt]; omega, Bool.true_and]; exact ih'
theorem ev_spec_WordOk (s : ByteArray) (hs : s.size ≤ 1099511627776) : Ev (fun k => spec_WordOk.f k s) (wordOk s) := by
  simp only [spec_WordOk.f, spec_l01In_eq, Option.bind_some, decide_eq_true_eq, wordOk]
  by_cases h : 1 ≤ s.size ∧ s.size ≤ 12
  · simp only [if_pos (show 1 ≤ (s.size : Int) ∧ (s.size : Int) ≤ 12 by omega), if_pos (show (0 : Int) < s.size by omega), decide_eq_true h, Bool.true_and]
    apply Ev.step
    · intro k; rw [spec_WordOk.j0]
    simp only [decide_eq_true_eq]
    by_cases h1 : bt s 0 < 97
    · simp only [if_pos h1]
      obtain ⟨d, hd⟩ : ∃ d, s.size = d + 1 := ⟨s.size - 1, by omega⟩
      rw [hd, wordFrom, show okAt s 0 = false by simp [okAt]; omega, Bool.false_and]
      exact Ev.now _
    · simp only [if_neg h1]
      exact ev_spec_WordOk_l0 s hs s.size 0 (by omega) (by omega)
  · simp only [if_neg (show ¬ (1 ≤ (s.size : Int) ∧ (s.size : Int) ≤ 12) by omega), decide_eq_false h, Bool.false_and]
    apply Ev.step
    · intro k; rw [spec_WordOk.j0]
    simp only [if_true]
    exact Ev.now _

theorem ev_spec_l01Less_l0 (a b : ByteArray) (ha : a.size ≤ 1099511627776) (hb : b.size ≤ 1099511627776) : ∀ (d i : Nat), i + d = a.size → Ev (fun k => spec_l01Less.l0 k a b i) (Op.bytesLess (a.toList.drop i) (b.toList.drop i)) := by
  intro d
  induction d with
  | zero =>
    intro i h
    apply Ev.step
    · intro k; rw [spec_l01Less.l0]
    simp only [if_neg (show ¬ ((i : Int) < a.size) by omega)]
    apply Ev.step
    · intro k; rw [spec_l01Less.j1]
    simp only [if_neg Bool.false_ne_true, toList_end a i (by omega)]
    refine Ev.const (congrArg some ?_)
    by_cases hb' : i < b.size
    · obtain ⟨y, e, _⟩ := toList_drop b i hb'
      rw [e, decide_eq_true (show (a.size : Int) < b.size by omega)]; rfl
    · rw [toList_end b i (by omega), decide_eq_false (show ¬ (a.size : Int) < b.size by omega)]; rfl
  | succ d ih =>
    intro i h
    have ih' := ih (i + 1) (by omega)
    obtain ⟨x, ex, hx⟩ := toList_drop a i (by omega)
    apply Ev.step
    · intro k; rw [spec_l01Less.l0]
    simp only [if_pos (show (i : Int) < a.size by omega)]
    by_cases hb' : i < b.size
    · obtain ⟨y, ey, hy⟩ := toList_drop b i hb'
      rw [ex, ey, bytesLess_cons hx hy]
      apply Ev.step
      · intro k; rw [spec_l01Less.j1]
      simp only [decide_eq_true (show (i : Int) < b.size by omega), if_true, if_pos (show (0 : Int) ≤ i by omega), if_pos (show (i : Int) < a.size by omega), if_pos (show (i : Int) < b.size by omega), w64 (x := (i : Int) + 1) (by omega)]
      by_cases he : bt a i = bt b i
      · simp only [if_pos he, decide_eq_true he, decide_eq_false (show ¬ bt a i < bt b i by omega), Bool.false_or, Bool.true_and]
        simpa using ih'
      · simp only [if_neg he, decide_eq_false he, Bool.false_and, Bool.or_false]
        exact Ev.now _
    · rw [toList_end b i (by omega)]
      apply Ev.step
      · intro k; rw [spec_l01Less.j1]
      simp only [decide_eq_false (show ¬ (i : Int) < b.size by omega), if_neg Bool.false_ne_true]
      refine Ev.const (congrArg some ?_)
      rw [ex, decide_eq_false (show ¬ (a.size : Int) < b.size by omega)]; rfl
theorem ev_spec_l01Less (a b : ByteArray) (ha : a.size ≤ 1099511627776) (hb : b.size ≤ 1099511627776) : Ev (fun k => spec_l01Less.f k a b) (Op.bytesLess a.toList b.toList) := by
  simpa [spec_l01Less.f] using ev_spec_l01Less_l0 a b ha hb a.size 0 (by omega)

theorem ev_spec_SchemaOk_l0 (s : List S38) (hl : s.length ≤ 1099511627776) (hs : ∀ x ∈ s, x.f0.size ≤ 1048576) : ∀ (d i : Nat), i + d = s.length → Ev (fun k => spec_SchemaOk.l0 k s i) (schFrom s d i) := by
  intro d
  induction d with
  | zero =>
    intro i h
    apply Ev.step
    · intro k; rw [spec_SchemaOk.l0]
    simp only [if_neg (show ¬ ((i : Int) < s.length) by omega)]
    exact Ev.now _
  | succ d ih =>
    intro i h
    have ih' := ih (i + 1) (by omega)
    have hm := hs _ (rdT_mem (show i < s.length by omega))
    apply Ev.step
    · intro k; rw [spec_SchemaOk.l0]
    simp only [if_pos (show (i : Int) < s.length by omega), if_pos (show (0 : Int) ≤ i by omega), w64 (x := (i : Int) + 1) (by omega), schFrom, schAt]
    refine Ev.bind (ev_spec_WordOk _ (by omega)) ?_
    by_cases h1 : wordOk (rd_T38 s i).f0 = true
    · simp only [h1, if_true, spec_l01In_eq, Option.bind_some, Bool.true_and]
      by_cases h2 : 1 ≤ (rd_T38 s i).f1 ∧ (rd_T38 s i).f1 ≤ 6
      · simp only [decide_eq_true h2, if_true, Bool.true_and]
        by_cases h3 : (i : Int) > 0
        · have hm2 := hs _ (rdT_mem (show i - 1 < s.length by omega))
          rw [show ((i - 1 : Nat) : Int) = (i : Int) - 1 by omega] at hm2
          simp only [if_pos h3, w64 (x := (i : Int) - 1) (by omega), if_pos (show (0 : Int) ≤ (i : Int) - 1 by omega), if_pos (show (i : Int) - 1 < s.length by omega), decide_eq_false (show ¬ i = 0 by omega), Bool.false_or]
          refine Ev.bind (ev_spec_l01Less _ _ (by omega) (by omega)) ?_
          by_cases h4 : Op.bytesLess (rd_T38 s ((i : Int) - 1)).f0.toList (rd_T38 s i).f0.toList = true
          · simp only [h4, if_true, Bool.true_and]; simpa using ih'
          · simp only [if_neg h4, Bool.eq_false_iff.mpr h4, Bool.false_and]; exact Ev.now _
        · simp only [if_neg h3, decide_eq_true (show i = 0 by omega), Bool.true_or, Bool.true_and]; simpa using ih'
      · simp only [decide_eq_false h2, if_neg Bool.false_ne_true, Bool.false_and]; exact Ev.now _
    · simp only [if_neg h1, Bool.eq_false_iff.mpr h1, Bool.false_and]; exact Ev.now _
theorem ev_spec_SchemaOk (s : List S38) (hl : s.length ≤ 1099511627776) (hs : ∀ x ∈ s, x.f0.size ≤ 1048576) : Ev (fun k => spec_SchemaOk.f k s) (schemaOk s) := by
  simp only [spec_SchemaOk.f, schemaOk]
  by_cases h : s.length ≤ 8
  · simp only [if_neg (show ¬ (s.length : Int) > 8 by omega), decide_eq_true h, Bool.true_and]
    exact ev_spec_SchemaOk_l0 s hl hs s.length 0 (by omega)
  · simp only [if_pos (show (s.length : Int) > 8 by omega), decide_eq_false h, Bool.false_and]
    exact Ev.now _

theorem spec_parse_l0 (ws : List ByteArray) (hw : ∀ w ∈ ws, w.size ≤ 1000) (hl : ws.length ≤ 1000) : ∀ (d i : Nat) (acc : List S38), i + d = ws.length → acc.length ≤ i → (∀ x ∈ acc, x.f0.size ≤ 1048576) → Ev (fun k => spec_ParseSchema.l0 k acc ws i) (specFin (specTabs (ws.drop i) acc)) := by
  intro d
  induction d with
  | zero =>
    intro i acc h ha hb
    rw [List.drop_eq_nil_of_le (show ws.length ≤ i by omega)]
    apply Ev.step
    · intro k; rw [spec_ParseSchema.l0]
    simp only [if_neg (show ¬ ((i : Int) < ws.length) by omega)]
    refine Ev.bind (ev_spec_SchemaOk acc (by omega) hb) ?_
    unfold specTabs specFin
    by_cases hok : schemaOk acc = true
    · simp only [hok, if_true]; exact Ev.now _
    · simp only [if_neg hok]; exact Ev.now _
  | succ d ih =>
    intro i acc h ha hb
    have hm := hw _ (rdOf_mem (l := ws) (i := i) (by omega))
    rw [drop_rdOf ws i (by omega)]
    generalize hwd : rdOf ByteArray.empty ws (i : Int) = w at hm ⊢
    apply Ev.step
    · intro k; rw [spec_ParseSchema.l0]
    simp only [if_pos (show (i : Int) < ws.length by omega), if_pos (show (0 : Int) ≤ i by omega), hwd]
    refine Ev.bind (ev_spec_l01Parts w 47 (by omega) 47 rfl) ?_
    have hpl := spB_size w 47
    unfold specTabs
    by_cases h2 : (spB w 47).length = 2
    · have hp0 := hpl _ (rdOf_mem (l := spB w 47) (i := 0) (by omega))
      have hp1 := hpl _ (rdOf_mem (l := spB w 47) (i := 1) (by omega))
      simp only [Int.natCast_zero, Int.natCast_one] at hp0 hp1
      simp only [if_pos (show ((spB w 47).length : Int) = 2 by omega), if_pos (show (1 : Int) < ((spB w 47).length : Int) by omega), if_pos (show (0 : Int) < ((spB w 47).length : Int) by omega), if_pos h2]
      refine Ev.bind (ev_spec_l01Read _ (by omega)) ?_
      by_cases hr : (specRead (rdOf ByteArray.empty (spB w 47) 1).data.toList).2 = true
      · simp only [if_pos hr, if_pos (show acc.length < 5864062014805 by omega), w64 (x := (i : Int) + 1) (by omega)]
        exact ih (i + 1) _ (by omega) (by simp; omega) (fun x hx => by
          rcases List.mem_append.1 hx with hx | hx
          · exact hb x hx
          · rw [List.mem_singleton] at hx; subst hx; show (rdOf ByteArray.empty (spB w 47) 0).size ≤ _; omega)
      · simp only [if_neg hr]
        exact Ev.now _
    · simp only [if_neg (show ¬ ((spB w 47).length : Int) = 2 by omega), if_neg h2]
      exact Ev.now _
theorem toList_nil (S : ByteArray) : (S.toList = ([] : List UInt8)) ↔ S.data.toList = [] := by rw [Lib.toList_data]
theorem ev_spec_ParseSchema (S : ByteArray) (hs : S.size ≤ 1048576) : Ev (fun k => spec_ParseSchema.f k S) (specParse S) := by
  simp only [spec_ParseSchema.f, Option.bind_some]
  unfold specParse
  by_cases h0 : S.data.toList = []
  · simp only [if_pos ((toList_nil S).2 h0), if_pos h0]; exact Ev.now _
  simp only [if_neg (fun q => h0 ((toList_nil S).1 q)), if_neg h0]
  by_cases hl : 200 < S.size
  · simp only [if_pos (show (S.size : Int) > 200 by omega), if_pos hl]; exact Ev.now _
  simp only [if_neg (show ¬ (S.size : Int) > 200 by omega), if_neg hl]
  refine Ev.bind (ev_spec_l01Parts S 32 (by omega) 32 rfl) ?_
  have hp := spB_size S 32
  have hq := spB_len S 32
  have := spec_parse_l0 (spB S 32) (fun w hw => by have := hp w hw; omega) (by omega) (spB S 32).length 0 [] (by omega) (by simp) (by simp)
  simpa using this

theorem impl_parse_l0 (S : ByteArray) (ws : List ByteArray) (hw : ∀ w ∈ ws, w.size ≤ 1048576) (hl : ws.length ≤ 1048577) : ∀ (d i : Nat), i + d = ws.length → Ev (fun k => impl_ParseSchema.l0 k S ((ws.take i).map tabOf) ws (ws.length : Int) i) (if schemaOk (ws.map tabOf) = true ∧ schText (ws.map tabOf) = S.data.toList then (ws.map tabOf, true) else ([], false)) := by
  have hcs : ∀ w ∈ ws, (tabOf w).f0.size ≤ 1048576 := by
    intro w h
    have := hw w h
    have e : w.data.toList.length = w.size := by rw [Array.length_toList]; rfl
    unfold tabOf
    simp only [ba_sz]
    by_cases hm : (47 : UInt8) ∈ w.data.toList
    · obtain ⟨n, r, hx, hn⟩ := List.eq_append_cons_of_mem hm
      rw [hx, cut_some n r hn]
      rw [hx] at e
      simp at e ⊢
      omega
    · rw [cut_none _ hm]
      simp only
      omega
  intro d
  induction d with
  | zero =>
    intro i h
    rw [List.take_of_length_le (show ws.length ≤ i by omega)]
    have hb : ∀ x ∈ ws.map tabOf, x.f0.size ≤ 1048576 := by
      intro x hx
      obtain ⟨w, hw', rfl⟩ := List.mem_map.1 hx
      exact hcs w hw'
    have hln : (ws.map tabOf).length ≤ 1099511627776 := by rw [List.length_map]; omega
    generalize ws.map tabOf = out at hb hln
    apply Ev.step
    · intro k; rw [impl_ParseSchema.l0]
    simp only [if_neg (show ¬ ((i : Int) < ws.length) by omega)]
    refine Ev.bind (ev_impl_SchemaOk out hln hb) ?_
    by_cases hok : schemaOk out = true
    · simp only [hok, if_true, true_and]
      refine Ev.bind (ev_impl_SchemaText out hln hb) ?_
      have e : ((⟨(schText out).toArray⟩ : ByteArray).toList = S.toList) ↔ schText out = S.data.toList := by
        rw [Lib.toList_data, Lib.toList_data]
      by_cases ht : schText out = S.data.toList
      · simp only [if_pos (e.2 ht), if_pos ht]; exact Ev.now _
      · simp only [if_neg (fun q => ht (e.1 q)), if_neg ht]; exact Ev.now _
    · simp only [if_neg hok, if_neg (fun q : schemaOk out = true ∧ _ => hok q.1)]
      exact Ev.now _
  | succ d ih =>
    intro i h
    have hm := hw _ (rdOf_mem (l := ws) (i := i) (by omega))
    have ih' := ih (i + 1) (by omega)
    rw [← take_rdOf ws i (by omega), List.map_append, List.map_cons, List.map_nil] at ih'
    have hsz : ∀ w : ByteArray, w.size ≤ 1048576 → (Go.Lib.cut w.data.toList [47]).2.1.length ≤ 1048576 := by
      intro w hw'
      have e : w.data.toList.length = w.size := by rw [Array.length_toList]; rfl
      by_cases hm : (47 : UInt8) ∈ w.data.toList
      · obtain ⟨n, r, hx, hn⟩ := List.eq_append_cons_of_mem hm
        rw [hx, cut_some n r hn]
        rw [hx] at e
        simp at e ⊢
        omega
      · rw [cut_none _ hm]; simp
    generalize hwd : rdOf ByteArray.empty ws (i : Int) = w at hm ih'
    have hsz' := hsz w hm
    apply Ev.step
    · intro k; rw [impl_ParseSchema.l0]
    simp only [if_pos (show (i : Int) < ws.length by omega), if_pos (show (0 : Int) ≤ i by omega), hwd, strings_Cut.f, if_pos (show w.size < 4294967281 by omega), Option.bind_some, impl_readNum.f, ba_sz, show (⟨#[47]⟩ : ByteArray).data.toList = [47] from rfl, if_pos (show (Go.Lib.cut w.data.toList [47]).2.1.length ≤ 281474976710656 by omega), if_pos (show ((ws.take i).map tabOf).length < 5864062014805 by rw [List.length_map, List.length_take]; omega), w64 (x := (i : Int) + 1) (by omega)]
    exact ih'
theorem ev_impl_ParseSchema (S : ByteArray) (hs : S.size ≤ 1048576) : Ev (fun k => impl_ParseSchema.f k S) (implParse S) := by
  simp only [impl_ParseSchema.f]
  unfold implParse
  by_cases h0 : S.data.toList = []
  · simp only [if_pos ((toList_nil S).2 h0), if_pos h0]; exact Ev.now _
  simp only [if_neg (fun q => h0 ((toList_nil S).1 q)), if_neg h0, split_spB S 32 (by omega), Option.bind_some]
  have hp := spB_size S 32
  have hq := spB_len S 32
  exact impl_parse_l0 S (spB S 32) (fun w hw => by have := hp w hw; omega) (by omega) (spB S 32).length 0 (by omega)

theorem eqTable_eq (a : ByteArray) (b : Int) : laws_eqTable.f a b a b = some true := by simp [laws_eqTable.f]

theorem ev_laws_eqTableS_l0 (x0 : List (S38)) (hl : x0.length ≤ 1099511627776) (hs : ∀ x ∈ x0, True) : ∀ (d : Nat) (i : Nat), i + d = x0.length → Ev (fun k => laws_eqTableS.l0 k x0 x0 i) true := by
  intro d
  induction d with
  | zero =>
    intro i h2
    apply Ev.step
    · intro k; rw [laws_eqTableS.l0]
    simp only [if_neg (show ¬ ((i : Int) < x0.length) by omega)]
    exact Ev.now _
  | succ d ih =>
    intro i h2
    have hg : x0[i]? = some (rd_T38 x0 (i : Int)) := by simp [rd_T38, show i < x0.length by omega]
    have hm := hs _ (List.mem_of_getElem? hg)
    apply Ev.step
    · intro k; rw [laws_eqTableS.l0]
    simp only [if_pos (show (i : Int) < x0.length by omega), if_pos (show (0 : Int) ≤ i by omega)]
    refine Ev.bind (Ev.const (eqTable_eq _ _)) ?_
    simp only [if_true, w64 (x := (i : Int) + 1) (by omega)]
    have := ih (i + 1) (by omega)
    simpa using this
theorem ev_laws_eqTableS (l : List (S38)) (h : l.length ≤ 1099511627776) (hs : ∀ x ∈ l, True) : Ev (fun k => laws_eqTableS.f k l l) true := by
  simp only [laws_eqTableS.f, if_true]
  exact ev_laws_eqTableS_l0 l h hs l.length 0 (by omega)

theorem markText_l0 : ∀ (d : Nat) (x0 : Int) (x3 : ByteArray), 0 ≤ x0 → x0 ≤ 9223372036854775807 → x0 < 10 ^ d → x3.size + d ≤ 1000 → ∃ r, laws_markText.l0 (d + 1) x0 x3 = some r
  | 0, x0, x3, h0, hb, h1, h2 => by
    have hz : x0 = 0 := by simp at h1; omega
    exact ⟨(⟨#[109]⟩ : ByteArray) ++ x3, by rw [laws_markText.l0, if_neg (by omega), if_pos (by omega)]⟩
  | d + 1, x0, x3, h0, hb, h1, h2 => by
    by_cases hp : x0 > 0
    · have hd : x0 / 10 < 10 ^ d := by
        rw [Int.pow_succ] at h1
        exact Int.ediv_lt_of_lt_mul (by omega) h1
      obtain ⟨r, hr2⟩ := markText_l0 d (x0 / 10) (strOfNums [(wrap64 (48 + (Int.tmod x0 10))) % 256] ++ x3) (by omega) (by omega) hd (by rw [ByteArray.size_append, strOfNums_size]; simp; omega)
      refine ⟨r, ?_⟩
      rw [laws_markText.l0, if_pos hp]
      simp only [Option.bind_some]
      rw [if_pos (by rw [strOfNums_size]; simp; omega), tdiv_nn h0, w64 (by omega)]
      exact hr2
    · exact ⟨(⟨#[109]⟩ : ByteArray) ++ x3, by rw [laws_markText.l0, if_neg hp, if_pos (by omega)]⟩
theorem markText_20 (x : Int) (h1 : x ≤ 9223372036854775807) : ∃ r, laws_markText.f 20 x = some r := by
  unfold laws_markText.f
  by_cases h : x ≤ 0
  · exact ⟨_, if_pos h⟩
  · rw [if_neg h]
    exact markText_l0 19 x _ (by omega) h1 (by omega) (by decide)
def mtext (x : Int) : ByteArray := (laws_markText.f 20 x).getD ⟨#[]⟩
theorem ev_markText (x : Int) (h1 : x ≤ 9223372036854775807) : Ev (fun k => laws_markText.f k x) (mtext x) := by
  obtain ⟨r, hr⟩ := markText_20 x h1
  have : mtext x = r := by simp [mtext, hr]
  rw [this]
  exact Ev.of (laws_markText.mono x) hr

def markT (a : Int) : List S38 → List S38
  | [] => []
  | _ :: xs => ⟨mtext a, a + 1⟩ :: markT (a + 2) xs
theorem markT_length : ∀ (l : List S38) (a : Int), (markT a l).length = l.length
  | [], _ => rfl
  | r :: rs, a => by simp [markT, markT_length rs]
theorem ev_markTableS_l0 : ∀ (rs dn : List S38) (a : Int), dn.length + rs.length ≤ 1048576 → 0 ≤ a → a + 2 * rs.length ≤ 4194304 →
    Ev (fun k => laws_markTableS.l0 k (dn ++ rs) a dn.length) (a + 2 * rs.length, dn ++ markT a rs)
  | [], dn, a, h1, h3, h4 => by
    apply Ev.step
    · intro k; rw [laws_markTableS.l0]
    simp only [List.append_nil, if_neg (show ¬ ((dn.length : Int) < dn.length) by omega), markT, List.length_nil]
    exact Ev.const (by simp)
  | r :: rs, dn, a, h1, h3, h4 => by
    simp only [List.length_cons] at h1 h4
    have ih := ev_markTableS_l0 rs (dn ++ [⟨mtext a, a + 1⟩]) (a + 2) (by simp; omega) (by omega) (by omega)
    apply Ev.step
    · intro k; rw [laws_markTableS.l0]
    simp only [if_pos (show (dn.length : Int) < ((dn ++ r :: rs).length : Int) by simp; omega), if_pos (show (0 : Int) ≤ dn.length by omega), w64 (x := a + 1) (by omega), w64 (x := a + 1 + 1) (by omega), w64 (x := (dn.length : Int) + 1) (by omega)]
    refine Ev.bind (ev_markText a (by omega)) ?_
    simp only [Option.bind_some, Int.toNat_natCast]
    have e : ∀ y : S38, (dn ++ r :: rs).set dn.length y = dn ++ y :: rs := fun y => by simp
    have e2 : ∀ y z : S38, (dn ++ y :: rs).set dn.length z = dn ++ [z] ++ rs := fun y z => by simp
    rw [e, e2, show rd_T38 (dn ++ (⟨mtext a, (rd_T38 (dn ++ r :: rs) (dn.length : Int)).f1⟩ : S38) :: rs) (dn.length : Int) = ⟨mtext a, (rd_T38 (dn ++ r :: rs) (dn.length : Int)).f1⟩ by simp [rd_T38]]
    rw [show a + 1 + 1 = a + 2 by omega]
    simp only [List.length_append, List.length_cons, List.length_nil] at ih
    have e3 : (a + 2 + 2 * (rs.length : Int)) = a + 2 * ((rs.length + 1 : Nat) : Int) := by omega
    rw [e3] at ih
    simpa [markT] using ih
theorem ev_markTableS (l : List S38) (hl : l.length ≤ 1048576) : Ev (fun k => laws_markTableS.f k l 1) (1 + 2 * l.length, markT 1 l) := by
  simpa [laws_markTableS.f] using ev_markTableS_l0 l [] 1 (by simp; omega) (by omega) (by omega)

theorem ev_heldTableS_l0 : ∀ (rs dn : List S38) (a : Int), dn.length + rs.length ≤ 1048576 → 0 ≤ a → a + 2 * rs.length ≤ 4194304 →
    Ev (fun k => laws_heldTableS.l0 k (dn ++ markT a rs) a dn.length) (a + 2 * rs.length)
  | [], dn, a, h1, h3, h4 => by
    apply Ev.step
    · intro k; rw [laws_heldTableS.l0]
    simp only [markT, List.append_nil, if_neg (show ¬ ((dn.length : Int) < dn.length) by omega), List.length_nil]
    exact Ev.const (by simp)
  | r :: rs, dn, a, h1, h3, h4 => by
    simp only [List.length_cons] at h1 h4
    have ih := ev_heldTableS_l0 rs (dn ++ [⟨mtext a, a + 1⟩]) (a + 2) (by simp; omega) (by omega) (by omega)
    have hrd : rd_T38 (dn ++ markT a (r :: rs)) (dn.length : Int) = ⟨mtext a, a + 1⟩ := by simp [rd_T38, markT]
    apply Ev.step
    · intro k; rw [laws_heldTableS.l0]
    simp only [hrd, if_pos (show (dn.length : Int) < ((dn ++ markT a (r :: rs)).length : Int) by simp [markT]; omega), if_pos (show (0 : Int) ≤ dn.length by omega), w64 (x := a + 1) (by omega), w64 (x := a + 1 + 1) (by omega), w64 (x := (dn.length : Int) + 1) (by omega), if_true]
    refine Ev.bind (ev_markText a (by omega)) ?_
    simp only [if_true]
    rw [show a + 1 + 1 = a + 2 by omega]
    simp only [List.length_append, List.length_cons, List.length_nil] at ih
    have e3 : (a + 2 + 2 * (rs.length : Int)) = a + 2 * ((rs.length + 1 : Nat) : Int) := by omega
    rw [e3] at ih
    simpa [markT] using ih
theorem ev_heldTableS (l : List S38) (hl : l.length ≤ 1048576) : Ev (fun k => laws_heldTableS.f k (markT 1 l) 1) (1 + 2 * l.length) := by
  simpa [laws_heldTableS.f] using ev_heldTableS_l0 l [] 1 (by simp; omega) (by omega) (by omega)

theorem holds : ∀ (a0 : ByteArray), a0.size ≤ 140737488351232 → ∃ k, laws_FnExactParseSchema.Facts k a0 := by
  intro S hS
  by_cases hs : (S.size : Int) > 1048576
  · exact ⟨0, .inl hs⟩
  have hel : (implParse S).1.length ≤ 8 := by
    unfold implParse
    split
    · simp
    · split
      · rename_i h; exact (schemaOk_bound h.1).1
      · simp
  obtain ⟨k3, e3⟩ := ev_spec_ParseSchema S (by omega)
  rw [parse_eq S] at e3
  obtain ⟨k4, e4⟩ := ev_impl_ParseSchema S (by omega)
  obtain ⟨k5, e5⟩ := ev_laws_eqTableS (implParse S).1 (by omega) (fun _ _ => trivial)
  obtain ⟨k8, e8⟩ := ev_markTableS (implParse S).1 (by omega)
  obtain ⟨k9, e9⟩ := ev_heldTableS (implParse S).1 (by omega)
  let k := k3 + k4 + k5 + k8 + k9
  exact ⟨k, .inr ⟨(implParse S).1, (implParse S).2, _, _, hs, e3 k (by omega), e4 k (by omega), e5 k (by omega), e8 k (by omega), e9 k (by omega), by omega⟩⟩

end EFnExactParseSchema
open Go.RowKit Go.Proofs.YtgbpkbdpjcddhaaDoorW.PrintWords Go.Proofs.YtgbpkbdpjcddhaaDoorW.PrintLast Go.Proofs.YtgbpkbdpjcddhaaDoorW.PrintMore Go.Proofs.YtgbpkbdpjcddhaaDoor.Lib Go.Proofs.YtgbpkbdpjcddhaaDoor.Q
theorem FnExactParseSchema : ∀ (a0 : ByteArray), a0.size ≤ 140737488351232 → ∃ k, laws_FnExactParseSchema.Facts k a0 := EFnExactParseSchema.holds
end Go.Proofs.YtgbpkbdpjcddhaaDoor.Pure
