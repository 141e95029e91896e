/- Of every list of bytes and every place: the program's TakeWord gives the word and the next place that the reference's TakeWord gives, and its argument stays as it was. -/
import Derived.Test.YtnmpkdabojlbgaaQx3
import Derived.Test.YtnmpkdabojlbgaaLib
set_option linter.unusedVariables false
set_option linter.unusedSimpArgs false
namespace Go.Proofs.Ytnmpkdabojlbgaa.Pure
namespace EFnExactTakeWord
open Go.RowKit Go.Proofs.YtnmpkdabojlbgaaW.PrintWords Go.Proofs.YtnmpkdabojlbgaaW.PrintLast Go.Proofs.YtnmpkdabojlbgaaW.PrintMore Go.Proofs.Ytnmpkdabojlbgaa.Lib Go.Proofs.Ytnmpkdabojlbgaa.Q

theorem impl_in_eq (a b c : Int) : impl_in.f a b c = some (decide (b ≤ a ∧ a ≤ c)) := by
  unfold impl_in.f
  by_cases h : b ≤ a
  · rw [if_pos h]; simp [h]
  · rw [if_neg (show ¬ a ≥ b from h)]; simp [h]

theorem impl_isNum_eq (a : Int) : impl_isNum.f a = some (isNumB a) := by
  unfold impl_isNum.f; rw [impl_in_eq]; rfl

theorem impl_fin (b : List Int) (hb : Bytes b) (hl : b.length ≤ 1048576) (p q u s : Int) (hp : 0 ≤ p ∧ p ≤ q) (hlt : q < b.length) (hu : 0 ≤ u ∧ u ≤ 2097152) (hs : s = 1 ∨ s = 128 ∨ s = 16384) (hv : rd b q < 128) :
    Ev (fun k => impl_TakeNum.j1 k b p u s q true) (takeFin (u + rd b q * s) (rd b q) (q - p) p) := by
  have hr := Bytes_rd hb q
  have hm : 0 ≤ rd b q * s ∧ rd b q * s ≤ 266338304 := by
    rcases hs with e | e | e <;> subst e <;> omega
  generalize hm0 : rd b q * s = m at *
  have e5 : Int.tmod (rd b q) 128 = rd b q := by rw [tmod_nn (by omega)]; omega
  have e4 : wrap64 (rd b q) = rd b q := w64 (by omega)
  apply Ev.step
  · intro k; rw [impl_TakeNum.j1]
  simp only [e5, e4, hm0, w64 (x := m) (by omega), if_true, if_pos (show (0 : Int) ≤ q by omega), if_pos hlt, if_neg (show ¬ rd b q ≥ 128 by omega), w64 (x := u + m) (by omega), tmod_nn (show 0 ≤ u + m by omega), impl_isNum_eq, Option.bind_some, w64 (x := u + m + 1) (by omega), w64 (x := -(u + m + 1)) (by omega), tdiv_neg' (show 0 ≤ u + m + 1 by omega), tdiv_nn (show 0 ≤ u + m by omega), w64 (x := -((u + m + 1) / 2)) (by omega), w64 (x := (u + m) / 2) (by omega), w64 (x := q + 1) (by omega)]
  refine Ev.const ?_
  unfold takeFin
  have e6 : p + (q - p) + 1 = q + 1 := by omega
  rw [e6]
  by_cases h1 : (u + m) % 2 = 1
  · simp only [h1, if_true]
    by_cases h2 : rd b q = 0
    · by_cases h3 : p < q
      · rw [if_pos (show (rd b q = 0 ∧ 0 < q - p) ∨ _ from Or.inl ⟨h2, by omega⟩)]
        simp [h2, h3]
      · have h3' : ¬ 0 < q - p := by omega
        simp [h2, h3, h3']; split <;> simp_all
    · simp [h2]; split <;> simp_all
  · simp only [h1, if_false]
    by_cases h2 : rd b q = 0
    · by_cases h3 : p < q
      · rw [if_pos (show (rd b q = 0 ∧ 0 < q - p) ∨ _ from Or.inl ⟨h2, by omega⟩)]
        simp [h2, h3]
      · have h3' : ¬ 0 < q - p := by omega
        simp [h2, h3, h3']; split <;> simp_all
    · simp [h2]; split <;> simp_all
theorem impl_cont (b : List Int) (hb : Bytes b) (hl : b.length ≤ 1048576) (p q u s : Int) (r : Int × Int) (hp : 0 ≤ p ∧ p ≤ q) (hlt : q < b.length) (hu : 0 ≤ u ∧ u ≤ 2097152) (hs : s = 1 ∨ s = 128 ∨ s = 16384) (hv : ¬ rd b q < 128)
    (h : Ev (fun k => impl_TakeNum.l0 k b p (u + rd b q % 128 * s) (s * 128) (q + 1)) r) : Ev (fun k => impl_TakeNum.j1 k b p u s q true) r := by
  have hr := Bytes_rd hb q
  have hm : 0 ≤ rd b q % 128 * s ∧ rd b q % 128 * s ≤ 266338304 := by
    rcases hs with e | e | e <;> subst e <;> omega
  generalize hm0 : rd b q % 128 * s = m at *
  have e5 : Int.tmod (rd b q) 128 = rd b q % 128 := tmod_nn (by omega)
  apply Ev.step
  · intro k; rw [impl_TakeNum.j1]
  simp only [e5, w64 (x := rd b q % 128) (by omega), hm0, w64 (x := m) (by omega), if_true, if_pos (show (0 : Int) ≤ q by omega), if_pos hlt, if_pos (show rd b q ≥ 128 by omega), w64 (x := u + m) (by omega), w64 (x := q + 1) (by omega), w64 (x := s * 128) (by omega)]
  exact h
theorem impl_head (b : List Int) (hl : b.length ≤ 1048576) (p q u s : Int) (r : Int × Int) (hp : 0 ≤ p ∧ p ≤ q ∧ p ≤ 9223372036854775807) (hr : (b.length : Int) ≤ q ∨ p + 3 ≤ q → r = (0, -1))
    (h : ¬ ((b.length : Int) ≤ q ∨ p + 3 ≤ q) → Ev (fun k => impl_TakeNum.j1 k b p u s q true) r) : Ev (fun k => impl_TakeNum.l0 k b p u s q) r := by
  apply Ev.step
  · intro k; rw [impl_TakeNum.l0]
  by_cases h0 : q < (b.length : Int)
  · simp only [if_pos h0, w64 (x := p + 3) (by omega)]
    by_cases h1 : q < p + 3
    · simp only [decide_eq_true h1]
      exact h (by omega)
    · simp only [decide_eq_false h1]
      rw [hr (by omega)]
      apply Ev.step
      · intro k; rw [impl_TakeNum.j1]
      exact Ev.now _
  · simp only [if_neg h0]
    rw [hr (by omega)]
    apply Ev.step
    · intro k; rw [impl_TakeNum.j1]
    exact Ev.now _
theorem ev_impl_TakeNum (b : List Int) (hb : Bytes b) (hl : b.length ≤ 1048576) (p : Int) (hp : p ≤ 9223372036854775807) : Ev (fun k => impl_TakeNum.f k b p) (takeNum b p) := by
  have r0 := Bytes_rd hb p
  have r1 := Bytes_rd hb (p + 1)
  have r2 := Bytes_rd hb (p + 2)
  simp only [impl_TakeNum.f]
  by_cases hn : p < 0
  · simp only [if_pos hn]
    rw [takeNum, if_pos (Or.inl hn)]
    exact Ev.now _
  simp only [if_neg hn]
  refine impl_head b hl p p 0 1 _ (by omega) (fun h => ?_) (fun h => ?_)
  · unfold takeNum; rw [if_pos (by omega)]
  have hg : ¬ (p < 0 ∨ (b.length : Int) ≤ p) := by omega
  rw [takeNum, if_neg hg]
  by_cases h0 : rd b p < 128
  · rw [if_pos h0]
    have := impl_fin b hb hl p p 0 1 (by omega) (by omega) (by omega) (by omega) h0
    simpa using this
  rw [if_neg h0]
  refine impl_cont b hb hl p p 0 1 _ (by omega) (by omega) (by omega) (by omega) h0 ?_
  simp only [Int.zero_add, Int.mul_one, Int.one_mul]
  refine impl_head b hl p (p + 1) _ _ _ (by omega) (fun h => ?_) (fun h => ?_)
  · rw [if_pos (by omega)]
  rw [if_neg (by omega)]
  by_cases h1 : rd b (p + 1) < 128
  · rw [if_pos h1]
    have := impl_fin b hb hl p (p + 1) (rd b p % 128) 128 (by omega) (by omega) (by omega) (by omega) h1
    rwa [show p + 1 - p = 1 by omega] at this
  rw [if_neg h1]
  refine impl_cont b hb hl p (p + 1) _ 128 _ (by omega) (by omega) (by omega) (by omega) h1 ?_
  simp only [show p + 1 + 1 = p + 2 by omega, show (128 : Int) * 128 = 16384 from rfl]
  refine impl_head b hl p (p + 2) _ _ _ (by omega) (fun h => ?_) (fun h => ?_)
  · rw [if_pos (by omega)]
  rw [if_neg (by omega)]
  by_cases h2 : rd b (p + 2) < 128
  · rw [if_pos h2]
    have := impl_fin b hb hl p (p + 2) (rd b p % 128 + rd b (p + 1) % 128 * 128) 16384 (by omega) (by omega) (by omega) (by omega) h2
    rwa [show p + 2 - p = 2 by omega] at this
  rw [if_neg h2]
  refine impl_cont b hb hl p (p + 2) _ 16384 _ (by omega) (by omega) (by omega) (by omega) h2 ?_
  exact impl_head b hl p (p + 2 + 1) _ _ _ (by omega) (fun _ => rfl) (fun h => by omega)

theorem ev_impl_WordOk_l0 (s : ByteArray) (hs : s.size ≤ 1099511627776) : ∀ (d i : Nat), i + d = s.size → Ev (fun k => impl_WordOk.l0 k s (s.size : Int) i) (wordFrom s d i && decide (1 ≤ s.size ∧ s.size ≤ 12)) := by
  intro d
  induction d with
  | zero =>
    intro i h
    apply Ev.step
    · intro k; rw [impl_WordOk.l0]
    simp only [if_neg (show ¬ ((i : Int) < s.size) by omega), impl_in_eq, Option.bind_some, wordFrom, Bool.true_and]
    refine Ev.const (congrArg some ?_)
    exact decide_eq_decide.mpr (by omega)
  | succ d ih =>
    intro i h
    have ih' := ih (i + 1) (by omega)
    apply Ev.step
    · intro k; rw [impl_WordOk.l0]
    simp only [if_pos (show (i : Int) < s.size by omega), if_pos (show (0 : Int) ≤ i by omega), w64 (x := (i : Int) + 1) (by omega), wordFrom]
    by_cases h1 : bt s i ≥ 97
    · simp only [if_pos h1]
      by_cases h2 : bt s i ≤ 122
      · simp only [if_pos h2, show okAt s i = true by simp [okAt]; omega, Bool.true_and]; exact ih'
      · simp only [if_neg h2]
        by_cases h0 : (i : Int) = 0
        · simp only [if_pos h0, show okAt s i = false by simp [okAt]; omega, Bool.false_and]; exact Ev.now _
        · simp only [if_neg h0, if_neg (show ¬ bt s i < 48 by omega), if_pos (show bt s i > 57 by omega), show okAt s i = false by simp [okAt]; omega, Bool.false_and]; exact Ev.now _
    · simp only [if_neg h1]
      by_cases h0 : (i : Int) = 0
      · simp only [if_pos h0, show okAt s i = false by simp [okAt]; omega, Bool.false_and]; exact Ev.now _
      · simp only [if_neg h0]
        by_cases h2 : bt s i < 48
        · simp only [if_pos h2, show okAt s i = false by simp [okAt]; omega, Bool.false_and]; exact Ev.now _
        · by_cases h3 : bt s i > 57
          · simp only [if_neg h2, if_pos h3, show okAt s i = false by simp [okAt]; omega, Bool.false_and]; exact Ev.now _
          · simp only [if_neg h2, if_neg h3, show okAt s i = true by simp [okAt]; omega, Bool.true_and]; exact ih'
theorem ev_impl_WordOk (s : ByteArray) (hs : s.size ≤ 1099511627776) : Ev (fun k => impl_WordOk.f k s) (wordOk s) := by
  have := ev_impl_WordOk_l0 s hs s.size 0 (by omega)
  rw [Bool.and_comm] at this
  exact this

def cutB (b : List Int) (f n : Int) : ByteArray := strOfNums ((b.take (f + n).toNat).drop f.toNat)
def takeWord (b : List Int) (p : Int) : ByteArray × Int :=
  if 0 ≤ (takeNum b p).2 ∧ 1 ≤ (takeNum b p).1 ∧ (takeNum b p).1 ≤ b.length - (takeNum b p).2 ∧ wordOk (cutB b (takeNum b p).2 (takeNum b p).1) = true
  then (cutB b (takeNum b p).2 (takeNum b p).1, (takeNum b p).2 + (takeNum b p).1) else (⟨#[]⟩, -1)
theorem size_strOf (l : List Int) : (strOfNums l).size = l.length := by
  simp [strOfNums, ByteArray.size]
theorem cutB_size (b : List Int) (f n : Int) (h0 : 0 ≤ f) (h1 : 0 ≤ n) (h2 : f + n ≤ b.length) : (cutB b f n).size = n.toNat := by
  unfold cutB
  rw [size_strOf, List.length_drop, List.length_take]
  omega
theorem wordOk_size {s : ByteArray} (h : wordOk s = true) : 1 ≤ s.size ∧ s.size ≤ 12 := by
  unfold wordOk at h
  simp only [Bool.and_eq_true, decide_eq_true_eq] at h
  exact h.1

theorem ev_impl_TakeWord (b : List Int) (hb : Bytes b) (hl : b.length ≤ 1048576) (p : Int) (hp : p ≤ 9223372036854775807) : Ev (fun k => impl_TakeWord.f k b p) (takeWord b p) := by
  have hr := takeNum_next b p
  have hq := @cutB_size b (takeNum b p).2 (takeNum b p).1
  simp only [impl_TakeWord.f, impl_in_eq, Option.bind_some]
  refine Ev.bind (ev_impl_TakeNum b hb hl p hp) ?_
  refine Ev_ite (fun h0 => ?_) (fun h0 => ?_)
  · unfold takeWord; rw [if_neg (by omega)]; exact Ev.now _
  have hn : -1000000 ≤ (takeNum b p).1 ∧ (takeNum b p).1 ≤ 1000000 := by
    rcases hr with h | h
    · omega
    · simpa [isNumB] using h.2.2.2.2
  rw [w64 (x := (b.length : Int) - (takeNum b p).2) (by omega)]
  refine Ev_ite (fun h1 => ?_) (fun h1 => ?_)
  · have h1' : 1 ≤ (takeNum b p).1 ∧ (takeNum b p).1 ≤ (b.length : Int) - (takeNum b p).2 := by simpa using h1
    simp only [w64 (x := (takeNum b p).2 + (takeNum b p).1) (by omega), if_pos (show 0 ≤ (takeNum b p).2 by omega), if_pos (show (takeNum b p).2 ≤ (takeNum b p).2 + (takeNum b p).1 by omega), if_pos (show (takeNum b p).2 + (takeNum b p).1 ≤ b.length by omega)]
    have hz := hq (by omega) (by omega) (by omega)
    refine Ev.bind (ev_impl_WordOk (cutB b (takeNum b p).2 (takeNum b p).1) (by omega)) ?_
    refine Ev_ite (fun h3 => ?_) (fun h3 => ?_)
    · unfold takeWord; rw [if_pos ⟨by omega, by omega, by omega, h3⟩]; exact Ev.now _
    · unfold takeWord; rw [if_neg (fun h => h3 h.2.2.2)]; exact Ev.now _
  · have h1' : ¬ (1 ≤ (takeNum b p).1 ∧ (takeNum b p).1 ≤ (b.length : Int) - (takeNum b p).2) := by simpa using h1
    unfold takeWord; rw [if_neg (by omega)]; exact Ev.now _

theorem ev_eqByteS_l0 (x0 : List Int) (hl : x0.length ≤ 1099511627776) : ∀ (d : Nat) (i : Nat), i + d = x0.length → Ev (fun k => laws_eqByteS.l0 k x0 x0 i) true := by
  intro d
  induction d with
  | zero =>
    intro i h2
    apply Ev.step
    · intro k; rw [laws_eqByteS.l0]
    simp only [if_neg (show ¬ ((i : Int) < x0.length) by omega)]
    exact Ev.now _
  | succ d ih =>
    intro i h2
    apply Ev.step
    · intro k; rw [laws_eqByteS.l0]
    simp only [if_pos (show (i : Int) < x0.length by omega), if_pos (show (0 : Int) ≤ i by omega), if_true, w64 (x := (i : Int) + 1) (by omega)]
    have := ih (i + 1) (by omega)
    simpa using this
theorem ev_eqByteS (l : List Int) (h : l.length ≤ 1099511627776) : Ev (fun k => laws_eqByteS.f k l l) true := by
  simp only [laws_eqByteS.f, if_true]
  exact ev_eqByteS_l0 l h l.length 0 (by omega)

theorem ev_toByteS_l0 (x0 : List Int) (hl : x0.length ≤ 1048576) : ∀ (d : Nat) (x3 : List Int) (i : Nat), x3.length = x0.length → i + d = x0.length → x3.take i = x0.take i → Ev (fun k => laws_toByteS.l0 k x0 x3 i) x0 := by
  intro d
  induction d with
  | zero =>
    intro x3 i h1 h2 h3
    apply Ev.step
    · intro k; rw [laws_toByteS.l0]
    simp only [if_neg (show ¬ ((i : Int) < x0.length) by omega)]
    rw [take_eq_all h1 (by omega) h3]
    exact Ev.now _
  | succ d ih =>
    intro x3 i h1 h2 h3
    apply Ev.step
    · intro k; rw [laws_toByteS.l0]
    simp only [if_pos (show (i : Int) < x0.length by omega), if_pos (show (0 : Int) ≤ i by omega), if_pos (show (i : Int) < x3.length by omega), w64 (x := (i : Int) + 1) (by omega)]
    have := ih (x3.set i (rd x0 i)) (i + 1) (by simp [h1]) (by omega) (take_set_at _ _ _ _ h1 (by omega) (rd_get _ _ (by omega)) h3)
    simpa using this
theorem ev_toByteS (l : List Int) (h : l.length ≤ 1048576) : Ev (fun k => laws_toByteS.f k l) l := by
  simp only [laws_toByteS.f, if_pos (show (0 : Int) ≤ l.length by omega), if_pos (show (l.length : Int).toNat ≤ 281474976710656 by omega)]
  exact ev_toByteS_l0 l h l.length _ 0 (by simp) (by omega) (by simp)

theorem spec_l01In_eq (a b c : Int) : spec_l01In.f a b c = some (decide (b ≤ a ∧ a ≤ c)) := by
  unfold spec_l01In.f
  by_cases h : b ≤ a
  · rw [if_pos h]; simp [h]
  · rw [if_neg h]; simp [h]

theorem spec_l01Number_eq (a : Int) : spec_l01Number.f a = some (isNumB a) := by
  unfold spec_l01Number.f; rw [spec_l01In_eq]; rfl

theorem spec_fin (b : List Int) (hb : Bytes b) (hl : b.length ≤ 1048576) (p i u : Int) (n : Nat) (hp : 0 ≤ p) (hi : i = n) (hn : n ≤ 3) (hlt : p + i < b.length) (hu : 0 ≤ u ∧ u ≤ 2097152) (hv : rd b (p + i) < 128) :
    Ev (fun k => spec_TakeNum.j1 k b p u i false) (takeFin (u + rd b (p + i) * 2 ^ (7 * n)) (rd b (p + i)) i p) := by
  have hr := Bytes_rd hb (p + i)
  have e1 : wrap64 (p + i) = p + i := w64 (by omega)
  have e2 : IntKind.u64.wrap (wrap64 (7 * i)) = ((7 * n : Nat) : Int) := by rw [w64 (by omega), u64_small (by omega)]; omega
  have hpow : (2 : Int) ^ (7 * n) ≤ 2097152 ∧ 1 ≤ (2 : Int) ^ (7 * n) := by
    rcases (by omega : n = 0 ∨ n = 1 ∨ n = 2 ∨ n = 3) with e | e | e | e <;> subst e <;> decide
  have hm : 0 ≤ rd b (p + i) * 2 ^ (7 * n) ∧ rd b (p + i) * 2 ^ (7 * n) ≤ 266338304 := by
    rcases (by omega : n = 0 ∨ n = 1 ∨ n = 2 ∨ n = 3) with e | e | e | e <;> subst e <;> simp <;> omega
  have e3 : shl .i64 (rd b (p + i)) ((7 * n : Nat) : Int) = rd b (p + i) * 2 ^ (7 * n) := shl_i64 _ _ (7 * n) rfl (by omega) (by omega)
  generalize hm0 : rd b (p + i) * 2 ^ (7 * n) = m at *
  have e4 : wrap64 (rd b (p + i)) = rd b (p + i) := w64 (by omega)
  have e5 : Int.tmod (rd b (p + i)) 128 = rd b (p + i) := by rw [tmod_nn (by omega)]; omega
  apply Ev.step
  · intro k; rw [spec_TakeNum.j1]
  simp only [e1, e2, e4, e5, e3, if_pos (show (0 : Int) ≤ p + i by omega), if_pos hlt, if_pos (show (0 : Int) ≤ ((7 * n : Nat) : Int) by omega), if_neg (show ¬ rd b (p + i) ≥ 128 by omega), w64 (x := u + m) (by omega), tmod_nn (show 0 ≤ u + m by omega), spec_l01Number_eq, Option.bind_some, w64 (x := u + m + 1) (by omega), w64 (x := -(u + m + 1)) (by omega), tdiv_neg' (show 0 ≤ u + m + 1 by omega), tdiv_nn (show 0 ≤ u + m by omega), w64 (x := -((u + m + 1) / 2)) (by omega), w64 (x := (u + m) / 2) (by omega), w64 (x := p + i + 1) (by omega)]
  refine Ev.const ?_
  unfold takeFin
  by_cases h1 : (u + m) % 2 = 1
  · simp only [h1, if_true]
    by_cases h2 : rd b (p + i) = 0
    · by_cases h3 : 0 < i
      · simp [h2, h3]
      · simp [h2, h3]; split <;> simp_all
    · simp [h2]; split <;> simp_all
  · simp only [h1, if_false]
    by_cases h2 : rd b (p + i) = 0
    · by_cases h3 : 0 < i
      · simp [h2, h3]
      · simp [h2, h3]; split <;> simp_all
    · simp [h2]; split <;> simp_all
theorem spec_cont (b : List Int) (hb : Bytes b) (hl : b.length ≤ 1048576) (p i u : Int) (n : Nat) (r : Int × Int) (hp : 0 ≤ p) (hi : i = n) (hn : n ≤ 3) (hlt : p + i < b.length) (hu : 0 ≤ u ∧ u ≤ 2097152) (hv : ¬ rd b (p + i) < 128)
    (h : Ev (fun k => spec_TakeNum.l0 k b p (u + rd b (p + i) % 128 * 2 ^ (7 * n)) (i + 1)) r) :
    Ev (fun k => spec_TakeNum.j1 k b p u i false) r := by
  have hr := Bytes_rd hb (p + i)
  have e1 : wrap64 (p + i) = p + i := w64 (by omega)
  have e2 : IntKind.u64.wrap (wrap64 (7 * i)) = ((7 * n : Nat) : Int) := by rw [w64 (by omega), u64_small (by omega)]; omega
  have hm : 0 ≤ rd b (p + i) % 128 * 2 ^ (7 * n) ∧ rd b (p + i) % 128 * 2 ^ (7 * n) ≤ 266338304 := by
    rcases (by omega : n = 0 ∨ n = 1 ∨ n = 2 ∨ n = 3) with e | e | e | e <;> subst e <;> simp <;> omega
  have e3 : shl .i64 (rd b (p + i) % 128) ((7 * n : Nat) : Int) = rd b (p + i) % 128 * 2 ^ (7 * n) := shl_i64 _ _ (7 * n) rfl (by omega) (by omega)
  generalize hm0 : rd b (p + i) % 128 * 2 ^ (7 * n) = m at *
  have e4 : wrap64 (rd b (p + i)) = rd b (p + i) := w64 (by omega)
  have e5 : Int.tmod (rd b (p + i)) 128 = rd b (p + i) % 128 := tmod_nn (by omega)
  apply Ev.step
  · intro k; rw [spec_TakeNum.j1]
  simp only [e1, e2, e4, e5, e3, if_pos (show (0 : Int) ≤ p + i by omega), if_pos hlt, if_pos (show (0 : Int) ≤ ((7 * n : Nat) : Int) by omega), if_pos (show rd b (p + i) ≥ 128 by omega), w64 (x := u + m) (by omega), w64 (x := i + 1) (by omega)]
  exact h
theorem spec_head (b : List Int) (hl : b.length ≤ 1048576) (p i u : Int) (r : Int × Int) (hi : 0 ≤ i ∧ i < 4) (hr : p < 0 ∨ (b.length : Int) ≤ p + i → r = (0, -1))
    (h : ¬ (p < 0 ∨ (b.length : Int) ≤ p + i) → Ev (fun k => spec_TakeNum.j1 k b p u i false) r) : Ev (fun k => spec_TakeNum.l0 k b p u i) r := by
  apply Ev.step
  · intro k; rw [spec_TakeNum.l0]
  simp only [if_pos hi.2, w64 (x := (b.length : Int) - i) (by omega)]
  by_cases h0 : p < 0
  · simp only [if_pos h0]
    rw [hr (Or.inl h0)]
    apply Ev.step
    · intro k; rw [spec_TakeNum.j1]
    exact Ev.now _
  · simp only [if_neg h0]
    by_cases h1 : (b.length : Int) ≤ p + i
    · rw [hr (Or.inr h1)]
      apply Ev.step
      · intro k; rw [spec_TakeNum.j1]
      simp only [decide_eq_true (show p ≥ (b.length : Int) - i by omega), if_true]
      exact Ev.now _
    · simp only [decide_eq_false (show ¬ p ≥ (b.length : Int) - i by omega)]
      exact h (by omega)
theorem ev_spec_TakeNum (b : List Int) (hb : Bytes b) (hl : b.length ≤ 1048576) (p : Int) : Ev (fun k => spec_TakeNum.f k b p) (takeNum b p) := by
  have r0 := Bytes_rd hb p
  have r1 := Bytes_rd hb (p + 1)
  have r2 := Bytes_rd hb (p + 2)
  have r3 := Bytes_rd hb (p + 3)
  simp only [spec_TakeNum.f]
  refine spec_head b hl p 0 0 _ (by omega) (fun h => ?_) (fun h => ?_)
  · unfold takeNum; rw [if_pos (by omega)]
  have hg : ¬ (p < 0 ∨ (b.length : Int) ≤ p) := by omega
  rw [takeNum, if_neg hg]
  by_cases h0 : rd b p < 128
  · rw [if_pos h0]
    have := spec_fin b hb hl p 0 0 0 (by omega) rfl (by omega) (by omega) (by omega) (by simpa using h0)
    simpa using this
  rw [if_neg h0]
  refine spec_cont b hb hl p 0 0 0 _ (by omega) rfl (by omega) (by omega) (by omega) (by simpa using h0) ?_
  simp only [Int.add_zero, Int.zero_add, Nat.mul_zero, Int.pow_zero, Int.mul_one]
  refine spec_head b hl p 1 _ _ (by omega) (fun h => ?_) (fun h => ?_)
  · rw [if_pos (by omega)]
  rw [if_neg (by omega)]
  by_cases h1 : rd b (p + 1) < 128
  · rw [if_pos h1]
    have := spec_fin b hb hl p 1 (rd b p % 128) 1 (by omega) rfl (by omega) (by omega) (by omega) h1
    simpa using this
  rw [if_neg h1]
  refine spec_cont b hb hl p 1 (rd b p % 128) 1 _ (by omega) rfl (by omega) (by omega) (by omega) h1 ?_
  simp only [show (1 : Int) + 1 = 2 from rfl, show (2 : Int) ^ (7 * 1) = 128 from rfl]
  refine spec_head b hl p 2 _ _ (by omega) (fun h => ?_) (fun h => ?_)
  · rw [if_pos (by omega)]
  rw [if_neg (by omega)]
  by_cases h2 : rd b (p + 2) < 128
  · rw [if_pos h2]
    have := spec_fin b hb hl p 2 (rd b p % 128 + rd b (p + 1) % 128 * 128) 2 (by omega) rfl (by omega) (by omega) (by omega) h2
    simpa using this
  rw [if_neg h2]
  refine spec_cont b hb hl p 2 _ 2 _ (by omega) rfl (by omega) (by omega) (by omega) h2 ?_
  simp only [show (2 : Int) + 1 = 3 from rfl, show (2 : Int) ^ (7 * 2) = 16384 from rfl]
  refine spec_head b hl p 3 _ _ (by omega) (fun h => rfl) (fun h => ?_)
  by_cases h3 : rd b (p + 3) < 128
  · have := spec_fin b hb hl p 3 (rd b p % 128 + rd b (p + 1) % 128 * 128 + rd b (p + 2) % 128 * 16384) 3 (by omega) rfl (by omega) (by omega) (by omega) h3
    refine Ev.eq this ?_
    unfold takeFin
    rw [if_pos]
    by_cases h4 : rd b (p + 3) = 0
    · left; exact ⟨h4, by omega⟩
    · right
      rw [isNumB_eq, decide_eq_false_iff_not]
      simp only [show (2 : Int) ^ (7 * 3) = 2097152 from rfl]
      split <;> omega
  · refine spec_cont b hb hl p 3 _ 3 _ (by omega) rfl (by omega) (by omega) (by omega) h3 ?_
    apply Ev.step
    · intro k; rw [spec_TakeNum.l0]
    simp only [if_neg (show ¬ (3 : Int) + 1 < 4 by omega)]
    exact Ev.now _

theorem ev_spec_WordOk_l0 (s : ByteArray) (hs : s.size ≤ 1099511627776) : ∀ (d i : Nat), i + d = s.size → (i = 0 → 97 ≤ bt s 0) → Ev (fun k => spec_WordOk.l0 k s i) (wordFrom s d i) := by
  intro d
  induction d with
  | zero =>
    intro i h _
    apply Ev.step
    · intro k; rw [spec_WordOk.l0]
    simp only [if_neg (show ¬ ((i : Int) < s.size) by omega)]
    exact Ev.now _
  | succ d ih =>
    intro i h h0
    have ih' := ih (i + 1) (by omega) (by omega)
    apply Ev.step
    · intro k; rw [spec_WordOk.l0]
    simp only [if_pos (show (i : Int) < s.size by omega), if_pos (show (0 : Int) ≤ i by omega), w64 (x := (i : Int) + 1) (by omega), wordFrom]
    have hi : i = 0 → 97 ≤ bt s i := by intro e; subst e; exact h0 rfl
    by_cases h1 : bt s i < 97
    · simp only [if_pos h1]
      have hp : 0 < i := by rcases Nat.eq_zero_or_pos i with e | e; · have := hi e; omega
                            · exact e
      by_cases h2 : bt s i < 48
      · simp only [if_pos h2, show okAt s i = false by simp [okAt]; omega, Bool.false_and]; exact Ev.now _
      · by_cases h3 : bt s i > 57
        · simp only [if_neg h2, if_pos h3, show okAt s i = false by simp [okAt]; omega, Bool.false_and]; exact Ev.now _
        · simp only [if_neg h2, if_neg h3, show okAt s i = true by simp [okAt]; omega, Bool.true_and]; exact ih'
    · simp only [if_neg h1]
      by_cases h2 : bt s i > 122
      · simp only [if_pos h2, if_neg (show ¬ bt s i < 48 by omega), if_pos (show bt s i > 57 by omega), show okAt s i = false by simp [okAt]; omega, Bool.false_and]; exact Ev.now _
      · simp only [if_neg h2, show okAt s i = true by simp [okAt]; omega, Bool.true_and]; exact ih'
theorem ev_spec_WordOk (s : ByteArray) (hs : s.size ≤ 1099511627776) : Ev (fun k => spec_WordOk.f k s) (wordOk s) := by
  simp only [spec_WordOk.f, spec_l01In_eq, Option.bind_some, decide_eq_true_eq, wordOk]
  by_cases h : 1 ≤ s.size ∧ s.size ≤ 12
  · simp only [if_pos (show 1 ≤ (s.size : Int) ∧ (s.size : Int) ≤ 12 by omega), if_pos (show (0 : Int) < s.size by omega), decide_eq_true h, Bool.true_and]
    apply Ev.step
    · intro k; rw [spec_WordOk.j0]
    simp only [decide_eq_true_eq]
    by_cases h1 : bt s 0 < 97
    · simp only [if_pos h1]
      obtain ⟨d, hd⟩ : ∃ d, s.size = d + 1 := ⟨s.size - 1, by omega⟩
      rw [hd, wordFrom, show okAt s 0 = false by simp [okAt]; omega, Bool.false_and]
      exact Ev.now _
    · simp only [if_neg h1]
      exact ev_spec_WordOk_l0 s hs s.size 0 (by omega) (by omega)
  · simp only [if_neg (show ¬ (1 ≤ (s.size : Int) ∧ (s.size : Int) ≤ 12) by omega), decide_eq_false h, Bool.false_and]
    apply Ev.step
    · intro k; rw [spec_WordOk.j0]
    simp only [if_true]
    exact Ev.now _

theorem ev_spec_TakeWord (b : List Int) (hb : Bytes b) (hl : b.length ≤ 1048576) (p : Int) (hp : p ≤ 9223372036854775807) : Ev (fun k => spec_TakeWord.f k b p) (takeWord b p) := by
  have hr := takeNum_next b p
  have hq := @cutB_size b (takeNum b p).2 (takeNum b p).1
  simp only [spec_TakeWord.f, spec_l01In_eq, Option.bind_some]
  refine Ev.bind (ev_spec_TakeNum b hb hl p) ?_
  have bad : takeWord b p = (⟨#[]⟩, -1) → Ev (fun k => spec_TakeWord.j0 k b (takeNum b p).1 (takeNum b p).2 true) (takeWord b p) := by
    intro h
    rw [h]
    apply Ev.step
    · intro k; rw [spec_TakeWord.j0]
    simp only [if_true]
    exact Ev.now _
  refine Ev_ite (fun h0 => ?_) (fun h0 => ?_)
  · exact bad (by unfold takeWord; rw [if_neg (by omega)])
  have hn : -1000000 ≤ (takeNum b p).1 ∧ (takeNum b p).1 ≤ 1000000 := by
    rcases hr with h | h
    · omega
    · simpa [isNumB] using h.2.2.2.2
  refine Ev_ite (fun h1 => ?_) (fun h1 => ?_)
  · have h1' : 1 ≤ (takeNum b p).1 ∧ (takeNum b p).1 ≤ 12 := by simpa using h1
    by_cases h2 : (takeNum b p).1 > b.length - (takeNum b p).2
    · rw [w64 (x := (b.length : Int) - (takeNum b p).2) (by omega), decide_eq_true h2]
      exact bad (by unfold takeWord; rw [if_neg (by omega)])
    · rw [w64 (x := (b.length : Int) - (takeNum b p).2) (by omega), decide_eq_false h2]
      apply Ev.step
      · intro k; rw [spec_TakeWord.j0]
      simp only [if_neg Bool.false_ne_true, w64 (x := (takeNum b p).2 + (takeNum b p).1) (by omega), if_pos (show 0 ≤ (takeNum b p).2 by omega), if_pos (show (takeNum b p).2 ≤ (takeNum b p).2 + (takeNum b p).1 by omega), if_pos (show (takeNum b p).2 + (takeNum b p).1 ≤ b.length by omega)]
      have hz := hq (by omega) (by omega) (by omega)
      refine Ev.bind (ev_spec_WordOk (cutB b (takeNum b p).2 (takeNum b p).1) (by omega)) ?_
      refine Ev_ite (fun h3 => ?_) (fun h3 => ?_)
      · unfold takeWord; rw [if_pos ⟨by omega, by omega, by omega, h3⟩]; exact Ev.now _
      · unfold takeWord; rw [if_neg (fun h => h3 h.2.2.2)]; exact Ev.now _
  · refine bad ?_
    unfold takeWord
    refine if_neg (fun h => ?_)
    have h2 := wordOk_size h.2.2.2
    rw [hq (by omega) (by omega) (by omega)] at h2
    have h1' : ¬ (1 ≤ (takeNum b p).1 ∧ (takeNum b p).1 ≤ 12) := by simpa using h1
    omega

theorem holds : laws_FnExactTakeWord.Pure := by
  intro b p _ _ hw hp
  apply Ev.ex
  have hb := Bytes_of hw
  have hp' := i64_of hp
  simp only [laws_FnExactTakeWord.f]
  by_cases hs : (b.length : Int) > 1048576
  · simp only [if_pos hs]; exact Ev.now _
  simp only [if_neg hs]
  refine Ev.bind (ev_toByteS b (by omega)) ?_
  refine Ev.bind (ev_spec_TakeWord b hb (by omega) p (by omega)) ?_
  refine Ev.bind (ev_toByteS b (by omega)) ?_
  refine Ev.bind (ev_impl_TakeWord b hb (by omega) p (by omega)) ?_
  simp only [if_true]
  apply Ev.step
  · intro k; rw [laws_FnExactTakeWord.j0]
  simp only [bne_self_eq_false, if_neg Bool.false_ne_true]
  refine Ev.bind (ev_toByteS b (by omega)) ?_
  refine Ev.bind (ev_eqByteS b (by omega)) ?_
  exact Ev.const (by simp)

end EFnExactTakeWord
open Go.RowKit Go.Proofs.YtnmpkdabojlbgaaW.PrintWords Go.Proofs.YtnmpkdabojlbgaaW.PrintLast Go.Proofs.YtnmpkdabojlbgaaW.PrintMore Go.Proofs.Ytnmpkdabojlbgaa.Lib Go.Proofs.Ytnmpkdabojlbgaa.Q
theorem FnExactTakeWord : laws_FnExactTakeWord.Pure := EFnExactTakeWord.holds
end Go.Proofs.Ytnmpkdabojlbgaa.Pure
