/- Of every list of bytes: what is put out of a drawn list, word or frame is taken again, cut it is not there, and a frame that is turned in one byte is not opened to what it held. -/
import Derived.Test.YtbdfidnldaghbaaQx10
import Derived.Test.YtbdfidnldaghbaaShapes
import Derived.Test.YtbdfidnldaghbaaLib
set_option linter.unusedVariables false
set_option linter.unusedSimpArgs false
namespace Go.Proofs.Ytbdfidnldaghbaa.Pure
namespace EFnWires
open Go.RowKit Go.Proofs.YtbdfidnldaghbaaW.PrintWords Go.Proofs.YtbdfidnldaghbaaW.PrintLast Go.Proofs.YtbdfidnldaghbaaW.PrintMore Go.Proofs.Ytbdfidnldaghbaa.Lib Go.Proofs.Ytbdfidnldaghbaa.Q

theorem ev_impl_CheckOf_l0 (b : List Int) (hb : Bytes b) (hl : b.length ≤ 1099511627776) : ∀ (d i : Nat), i + d = b.length → Ev (fun k => impl_CheckOf.l0 k (checkTo b i) b (b.length : Int) i) (checkOf b) := by
  intro d
  induction d with
  | zero =>
    intro i h
    obtain rfl : i = b.length := by omega
    apply Ev.step
    · intro k; rw [impl_CheckOf.l0]
    simp only [if_neg (show ¬ ((b.length : Int) < b.length) by omega)]
    exact Ev.now _
  | succ d ih =>
    intro i h
    have ih' := ih (i + 1) (by omega)
    have hc := checkTo_range b i
    have hr := Bytes_rd hb i
    apply Ev.step
    · intro k; rw [impl_CheckOf.l0]
    simp only [if_pos (show (i : Int) < b.length by omega), if_pos (show (0 : Int) ≤ i by omega), w64 (x := (i : Int) + 1) (by omega), w64 (x := rd b i) (by omega), w64 (x := 269 * checkTo b i) (by omega), w64 (x := 269 * checkTo b i + rd b i) (by omega), tmod_nn (show 0 ≤ 269 * checkTo b i + rd b i by omega)]
    exact ih'
theorem ev_impl_CheckOf (b : List Int) (hb : Bytes b) (hl : b.length ≤ 1099511627776) : Ev (fun k => impl_CheckOf.f k b) (checkOf b) :=
  ev_impl_CheckOf_l0 b hb hl b.length 0 (by omega)

theorem impl_in_eq (a b c : Int) : impl_in.f a b c = some (decide (b ≤ a ∧ a ≤ c)) := by
  unfold impl_in.f
  by_cases h : b ≤ a
  · rw [if_pos h]; simp [h]
  · rw [if_neg (show ¬ a ≥ b from h)]; simp [h]

theorem impl_isNum_eq (a : Int) : impl_isNum.f a = some (isNumB a) := by
  unfold impl_isNum.f; rw [impl_in_eq]; rfl

theorem ev_impl_PutNum_l0 (n : Int) (h : 0 ≤ n ∧ n < 2097152) : Ev (fun k => impl_PutNum.l0 k n []) (groups n) := by
  unfold groups
  by_cases h1 : n < 128
  · apply Ev.step
    · intro k; rw [impl_PutNum.l0]
    simp only [if_neg (show ¬ n ≥ 128 by omega), if_pos h1, List.length_nil, List.nil_append]
    exact Ev.const (by simp; omega)
  · apply Ev.step
    · intro k; rw [impl_PutNum.l0]
    simp only [if_pos (show n ≥ 128 by omega), if_neg h1, List.length_nil, List.nil_append, tmod_nn h.1, tdiv_nn h.1, w64 (x := n % 128 + 128) (by omega), w64 (x := n / 128) (by omega), show (n % 128 + 128) % 256 = n % 128 + 128 by omega]
    simp only [show (0 : Nat) < 140737488355328 by omega, if_true]
    by_cases h2 : n < 16384
    · apply Ev.step
      · intro k; rw [impl_PutNum.l0]
      simp only [if_neg (show ¬ n / 128 ≥ 128 by omega), if_pos h2, List.length_cons, List.length_nil]
      exact Ev.const (by simp; omega)
    · apply Ev.step
      · intro k; rw [impl_PutNum.l0]
      simp only [if_pos (show n / 128 ≥ 128 by omega), if_neg h2, List.length_cons, List.length_nil, tmod_nn (show 0 ≤ n / 128 by omega), tdiv_nn (show 0 ≤ n / 128 by omega), w64 (x := n / 128 % 128 + 128) (by omega), w64 (x := n / 128 / 128) (by omega), show (n / 128 % 128 + 128) % 256 = n / 128 % 128 + 128 by omega]
      simp only [show (0 + 1 : Nat) < 140737488355328 by omega, if_true, List.cons_append, List.nil_append]
      apply Ev.step
      · intro k; rw [impl_PutNum.l0]
      simp only [if_neg (show ¬ n / 128 / 128 ≥ 128 by omega), List.length_cons, List.length_nil]
      exact Ev.const (by simp; omega)
theorem ev_impl_PutNum (x : Int) : Ev (fun k => impl_PutNum.f k x) (putNum x) := by
  unfold putNum
  simp only [impl_PutNum.f, impl_isNum_eq, Option.bind_some]
  by_cases h : isNumB x = true
  · have hz := zig_range h
    have hb : -1000000 ≤ x ∧ x ≤ 1000000 := by simpa [isNumB] using h
    simp only [h, if_true]
    unfold zig at hz ⊢
    by_cases h0 : x < 0
    · simp only [h0, if_true] at hz ⊢
      apply Ev.step
      · intro k; rw [impl_PutNum.j0]
      simp only [w64 (x := -2 * x) (by omega), w64 (x := -2 * x - 1) (by omega)]
      exact ev_impl_PutNum_l0 _ (by omega)
    · simp only [h0, if_false] at hz ⊢
      apply Ev.step
      · intro k; rw [impl_PutNum.j0]
      simp only [w64 (x := 2 * x) (by omega)]
      exact ev_impl_PutNum_l0 _ (by omega)
  · simp only [h]
    exact Ev.now _

theorem concat_eq (k : Nat) (l : List (List Int)) (h : slices_Concat_byte_byte.sum l ≤ 35184372088832) : slices_Concat_byte_byte.f k l = some l.flatten := by
  unfold slices_Concat_byte_byte.f
  rw [if_pos h]

def frameB (b : List Int) : List Int := [80, 83] ++ (putNum b.length ++ (b ++ putNum (checkOf b)))
def frame (b : List Int) : List Int × Bool := if b.length ≤ 4000 then (frameB b, true) else ([], false)
theorem Bytes_app {a b : List Int} (ha : Bytes a) (hb : Bytes b) : Bytes (a ++ b) := fun x hx => (List.mem_append.1 hx).elim (ha x) (hb x)
theorem Bytes_put (x : Int) : Bytes (putNum x) := putNum_range x
theorem Bytes_nil : Bytes [] := fun x hx => by cases hx
theorem frameB_length (b : List Int) : (frameB b).length ≤ b.length + 8 := by
  have := putNum_length (b.length : Int)
  have := putNum_length (checkOf b)
  simp [frameB]; omega
theorem frame_length (b : List Int) : (frame b).1.length ≤ b.length + 8 := by
  unfold frame
  split
  · exact frameB_length b
  · simp
theorem checkOf_num (b : List Int) : isNumB (checkOf b) = true := by
  have := checkTo_range b b.length
  show decide _ = true
  rw [decide_eq_true_eq]
  unfold checkOf
  omega

theorem ev_impl_Frame (b : List Int) (hb : Bytes b) (hl : b.length ≤ 1048576) : Ev (fun k => impl_Frame.f k b) (frame b) := by
  simp only [impl_Frame.f, frame]
  have p1 := putNum_length (b.length : Int)
  have p2 := putNum_length (checkOf b)
  by_cases h : b.length ≤ 4000
  · simp only [if_neg (show ¬ (b.length : Int) > 4000 by omega), if_pos h]
    refine Ev.bind (ev_impl_PutNum _) ?_
    refine Ev.bind (ev_impl_CheckOf b hb (by omega)) ?_
    refine Ev.bind (ev_impl_PutNum _) ?_
    simp only [concat_eq _ [([80, 83] : List Int), putNum b.length, b, putNum (checkOf b)] (by simp [slices_Concat_byte_byte.sum]; omega), Option.bind_some]
    exact Ev.const (by simp [frameB])
  · simp only [if_pos (show (b.length : Int) > 4000 by omega), if_neg h]
    exact Ev.now _

theorem ev_impl_PutNums_l0 (l : List Int) (hl : l.length ≤ 300) : ∀ (d : Nat) (acc : List Int) (i : Nat), i + d = l.length → acc.length ≤ 3 * (i + 1) → Ev (fun k => impl_PutNums.l0 k acc l (l.length : Int) i) (putsFrom (l.drop i) acc) := by
  intro d
  induction d with
  | zero =>
    intro acc i h _
    apply Ev.step
    · intro k; rw [impl_PutNums.l0]
    simp only [if_neg (show ¬ ((i : Int) < l.length) by omega), List.drop_eq_nil_of_le (show l.length ≤ i by omega)]
    exact Ev.now _
  | succ d ih =>
    intro acc i h ha
    have hn := putNum_length (rd l i)
    apply Ev.step
    · intro k; rw [impl_PutNums.l0]
    simp only [if_pos (show (i : Int) < l.length by omega), if_pos (show (0 : Int) ≤ i by omega), w64 (x := (i : Int) + 1) (by omega), impl_isNum_eq, Option.bind_some]
    rw [drop_rd l i (by omega), putsFrom]
    by_cases h1 : isNumB (rd l i) = true
    · simp only [if_pos h1]
      refine Ev.bind (ev_impl_PutNum _) ?_
      simp only [if_pos (show acc.length + (putNum (rd l i)).length < 140737488355328 by omega)]
      exact ih _ (i + 1) (by omega) (by rw [List.length_append]; omega)
    · simp only [if_neg h1]; exact Ev.now _
theorem ev_impl_PutNums (l : List Int) : Ev (fun k => impl_PutNums.f k l) (putNums l) := by
  simp only [impl_PutNums.f]
  unfold putNums
  by_cases h : 300 < l.length
  · simp only [if_pos (show (l.length : Int) > 300 by omega), if_pos h]; exact Ev.now _
  simp only [if_neg (show ¬ (l.length : Int) > 300 by omega), if_neg h]
  refine Ev.bind (ev_impl_PutNum _) ?_
  have hn := putNum_length l.length
  exact ev_impl_PutNums_l0 l (by omega) l.length _ 0 (by omega) (by omega)

theorem ev_impl_WordOk_l0 (s : ByteArray) (hs : s.size ≤ 1099511627776) : ∀ (d i : Nat), i + d = s.size → Ev (fun k => impl_WordOk.l0 k s (s.size : Int) i) (wordFrom s d i && decide (1 ≤ s.size ∧ s.size ≤ 12)) := by
  intro d
  induction d with
  | zero =>
    intro i h
    apply Ev.step
    · intro k; rw [impl_WordOk.l0]
    simp only [if_neg (show ¬ ((i : Int) < s.size) by omega), impl_in_eq, Option.bind_some, wordFrom, Bool.true_and]
    refine Ev.const (congrArg some ?_)
    exact decide_eq_decide.mpr (by omega)
  | succ d ih =>
    intro i h
    have ih' := ih (i + 1) (by omega)
    apply Ev.step
    · intro k; rw [impl_WordOk.l0]
    simp only [if_pos (show (i : Int) < s.size by omega), if_pos (show (0 : Int) ≤ i by omega), w64 (x := (i : Int) + 1) (by omega), wordFrom]
    by_cases h1 : bt s i ≥ 97
    · simp only [if_pos h1]
      by_cases h2 : bt s i ≤ 122
      · simp only [if_pos h2, show okAt s i = true by simp [okAt]; omega, Bool.true_and]; exact ih'
      · simp only [if_neg h2]
        by_cases h0 : (i : Int) = 0
        · simp only [if_pos h0, show okAt s i = false by simp [okAt]; omega, Bool.false_and]; exact Ev.now _
        · simp only [if_neg h0, if_neg (show ¬ bt s i < 48 by omega), if_pos (show bt s i > 57 by omega), show okAt s i = false by simp [okAt]; omega, Bool.false_and]; exact Ev.now _
    · simp only [if_neg h1]
      by_cases h0 : (i : Int) = 0
      · simp only [if_pos h0, show okAt s i = false by simp [okAt]; omega, Bool.false_and]; exact Ev.now _
      · simp only [if_neg h0]
        by_cases h2 : bt s i < 48
        · simp only [if_pos h2, show okAt s i = false by simp [okAt]; omega, Bool.false_and]; exact Ev.now _
        · by_cases h3 : bt s i > 57
          · simp only [if_neg h2, if_pos h3, show okAt s i = false by simp [okAt]; omega, Bool.false_and]; exact Ev.now _
          · simp only [if_neg h2, if_neg h3, show okAt s i = true by simp [okAt]; omega, Bool.true_and]; exact ih'
theorem ev_impl_WordOk (s : ByteArray) (hs : s.size ≤ 1099511627776) : Ev (fun k => impl_WordOk.f k s) (wordOk s) := by
  have := ev_impl_WordOk_l0 s hs s.size 0 (by omega)
  rw [Bool.and_comm] at this
  exact this

def putWord (s : ByteArray) : List Int := if wordOk s = true then putNum s.size ++ bytesOf s else []
theorem wordOk_size' {s : ByteArray} (h : wordOk s = true) : 1 ≤ s.size ∧ s.size ≤ 12 := by
  unfold wordOk at h
  simp only [Bool.and_eq_true, decide_eq_true_eq] at h
  exact h.1
theorem putWord_length (s : ByteArray) : (putWord s).length ≤ 1048576 := by
  unfold putWord
  by_cases h : wordOk s = true
  · rw [if_pos h, List.length_append, bytesOf_length]
    have := wordOk_size' h
    have := putNum_length (s.size : Int)
    omega
  · rw [if_neg h]; simp

theorem ev_impl_PutWord (s : ByteArray) (hs : s.size ≤ 1099511627776) : Ev (fun k => impl_PutWord.f k s) (putWord s) := by
  simp only [impl_PutWord.f]
  refine Ev.bind (ev_impl_WordOk s hs) ?_
  unfold putWord
  refine Ev_ite (fun h => ?_) (fun h => ?_)
  · rw [if_pos h]
    refine Ev.bind (ev_impl_PutNum _) ?_
    have := putNum_length (s.size : Int)
    simp only [if_pos (show (putNum (s.size : Int)).length + s.size < 140737488355328 by omega)]
    exact Ev.now _
  · rw [if_neg h]; exact Ev.now _

theorem impl_fin (b : List Int) (hb : Bytes b) (hl : b.length ≤ 1048576) (p q u s : Int) (hp : 0 ≤ p ∧ p ≤ q) (hlt : q < b.length) (hu : 0 ≤ u ∧ u ≤ 2097152) (hs : s = 1 ∨ s = 128 ∨ s = 16384) (hv : rd b q < 128) :
    Ev (fun k => impl_TakeNum.j1 k b p u s q true) (takeFin (u + rd b q * s) (rd b q) (q - p) p) := by
  have hr := Bytes_rd hb q
  have hm : 0 ≤ rd b q * s ∧ rd b q * s ≤ 266338304 := by
    rcases hs with e | e | e <;> subst e <;> omega
  generalize hm0 : rd b q * s = m at *
  have e5 : Int.tmod (rd b q) 128 = rd b q := by rw [tmod_nn (by omega)]; omega
  have e4 : wrap64 (rd b q) = rd b q := w64 (by omega)
  apply Ev.step
  · intro k; rw [impl_TakeNum.j1]
  simp only [e5, e4, hm0, w64 (x := m) (by omega), if_true, if_pos (show (0 : Int) ≤ q by omega), if_pos hlt, if_neg (show ¬ rd b q ≥ 128 by omega), w64 (x := u + m) (by omega), tmod_nn (show 0 ≤ u + m by omega), impl_isNum_eq, Option.bind_some, w64 (x := u + m + 1) (by omega), w64 (x := -(u + m + 1)) (by omega), tdiv_neg' (show 0 ≤ u + m + 1 by omega), tdiv_nn (show 0 ≤ u + m by omega), w64 (x := -((u + m + 1) / 2)) (by omega), w64 (x := (u + m) / 2) (by omega), w64 (x := q + 1) (by omega)]
  refine Ev.const ?_
  unfold takeFin
  have e6 : p + (q - p) + 1 = q + 1 := by omega
  rw [e6]
  by_cases h1 : (u + m) % 2 = 1
  · simp only [h1, if_true]
    by_cases h2 : rd b q = 0
    · by_cases h3 : p < q
      · rw [if_pos (show (rd b q = 0 ∧ 0 < q - p) ∨ _ from Or.inl ⟨h2, by omega⟩)]
        simp [h2, h3]
      · have h3' : ¬ 0 < q - p := by omega
        simp [h2, h3, h3']; split <;> simp_all
    · simp [h2]; split <;> simp_all
  · simp only [h1, if_false]
    by_cases h2 : rd b q = 0
    · by_cases h3 : p < q
      · rw [if_pos (show (rd b q = 0 ∧ 0 < q - p) ∨ _ from Or.inl ⟨h2, by omega⟩)]
        simp [h2, h3]
      · have h3' : ¬ 0 < q - p := by omega
        simp [h2, h3, h3']; split <;> simp_all
    · simp [h2]; split <;> simp_all
theorem impl_cont (b : List Int) (hb : Bytes b) (hl : b.length ≤ 1048576) (p q u s : Int) (r : Int × Int) (hp : 0 ≤ p ∧ p ≤ q) (hlt : q < b.length) (hu : 0 ≤ u ∧ u ≤ 2097152) (hs : s = 1 ∨ s = 128 ∨ s = 16384) (hv : ¬ rd b q < 128)
    (h : Ev (fun k => impl_TakeNum.l0 k b p (u + rd b q % 128 * s) (s * 128) (q + 1)) r) : Ev (fun k => impl_TakeNum.j1 k b p u s q true) r := by
  have hr := Bytes_rd hb q
  have hm : 0 ≤ rd b q % 128 * s ∧ rd b q % 128 * s ≤ 266338304 := by
    rcases hs with e | e | e <;> subst e <;> omega
  generalize hm0 : rd b q % 128 * s = m at *
  have e5 : Int.tmod (rd b q) 128 = rd b q % 128 := tmod_nn (by omega)
  apply Ev.step
  · intro k; rw [impl_TakeNum.j1]
  simp only [e5, w64 (x := rd b q % 128) (by omega), hm0, w64 (x := m) (by omega), if_true, if_pos (show (0 : Int) ≤ q by omega), if_pos hlt, if_pos (show rd b q ≥ 128 by omega), w64 (x := u + m) (by omega), w64 (x := q + 1) (by omega), w64 (x := s * 128) (by omega)]
  exact h
theorem impl_head (b : List Int) (hl : b.length ≤ 1048576) (p q u s : Int) (r : Int × Int) (hp : 0 ≤ p ∧ p ≤ q ∧ p ≤ 9223372036854775807) (hr : (b.length : Int) ≤ q ∨ p + 3 ≤ q → r = (0, -1))
    (h : ¬ ((b.length : Int) ≤ q ∨ p + 3 ≤ q) → Ev (fun k => impl_TakeNum.j1 k b p u s q true) r) : Ev (fun k => impl_TakeNum.l0 k b p u s q) r := by
  apply Ev.step
  · intro k; rw [impl_TakeNum.l0]
  by_cases h0 : q < (b.length : Int)
  · simp only [if_pos h0, w64 (x := p + 3) (by omega)]
    by_cases h1 : q < p + 3
    · simp only [decide_eq_true h1]
      exact h (by omega)
    · simp only [decide_eq_false h1]
      rw [hr (by omega)]
      apply Ev.step
      · intro k; rw [impl_TakeNum.j1]
      exact Ev.now _
  · simp only [if_neg h0]
    rw [hr (by omega)]
    apply Ev.step
    · intro k; rw [impl_TakeNum.j1]
    exact Ev.now _
theorem ev_impl_TakeNum (b : List Int) (hb : Bytes b) (hl : b.length ≤ 1048576) (p : Int) (hp : p ≤ 9223372036854775807) : Ev (fun k => impl_TakeNum.f k b p) (takeNum b p) := by
  have r0 := Bytes_rd hb p
  have r1 := Bytes_rd hb (p + 1)
  have r2 := Bytes_rd hb (p + 2)
  simp only [impl_TakeNum.f]
  by_cases hn : p < 0
  · simp only [if_pos hn]
    rw [takeNum, if_pos (Or.inl hn)]
    exact Ev.now _
  simp only [if_neg hn]
  refine impl_head b hl p p 0 1 _ (by omega) (fun h => ?_) (fun h => ?_)
  · unfold takeNum; rw [if_pos (by omega)]
  have hg : ¬ (p < 0 ∨ (b.length : Int) ≤ p) := by omega
  rw [takeNum, if_neg hg]
  by_cases h0 : rd b p < 128
  · rw [if_pos h0]
    have := impl_fin b hb hl p p 0 1 (by omega) (by omega) (by omega) (by omega) h0
    simpa using this
  rw [if_neg h0]
  refine impl_cont b hb hl p p 0 1 _ (by omega) (by omega) (by omega) (by omega) h0 ?_
  simp only [Int.zero_add, Int.mul_one, Int.one_mul]
  refine impl_head b hl p (p + 1) _ _ _ (by omega) (fun h => ?_) (fun h => ?_)
  · rw [if_pos (by omega)]
  rw [if_neg (by omega)]
  by_cases h1 : rd b (p + 1) < 128
  · rw [if_pos h1]
    have := impl_fin b hb hl p (p + 1) (rd b p % 128) 128 (by omega) (by omega) (by omega) (by omega) h1
    rwa [show p + 1 - p = 1 by omega] at this
  rw [if_neg h1]
  refine impl_cont b hb hl p (p + 1) _ 128 _ (by omega) (by omega) (by omega) (by omega) h1 ?_
  simp only [show p + 1 + 1 = p + 2 by omega, show (128 : Int) * 128 = 16384 from rfl]
  refine impl_head b hl p (p + 2) _ _ _ (by omega) (fun h => ?_) (fun h => ?_)
  · rw [if_pos (by omega)]
  rw [if_neg (by omega)]
  by_cases h2 : rd b (p + 2) < 128
  · rw [if_pos h2]
    have := impl_fin b hb hl p (p + 2) (rd b p % 128 + rd b (p + 1) % 128 * 128) 16384 (by omega) (by omega) (by omega) (by omega) h2
    rwa [show p + 2 - p = 2 by omega] at this
  rw [if_neg h2]
  refine impl_cont b hb hl p (p + 2) _ 16384 _ (by omega) (by omega) (by omega) (by omega) h2 ?_
  exact impl_head b hl p (p + 2 + 1) _ _ _ (by omega) (fun _ => rfl) (fun h => by omega)

theorem ev_impl_TakeNums_l0 (b : List Int) (hb : Bytes b) (hl : b.length ≤ 1048576) (m : Int) (hm : 0 ≤ m ∧ m ≤ 300) : ∀ (d : Nat) (acc : List Int) (p i : Int), 0 ≤ i → i + d = m → acc.length = i → p ≤ 9223372036854775807 → Ev (fun k => impl_TakeNums.l0 k b p acc m i) (numsFrom b d acc p) := by
  intro d
  induction d with
  | zero =>
    intro acc p i h0 h1 h2 h3
    apply Ev.step
    · intro k; rw [impl_TakeNums.l0]
    simp only [if_neg (show ¬ i < m by omega)]
    exact Ev.now _
  | succ d ih =>
    intro acc p i h0 h1 h2 h3
    have hn := takeNum_lo b p
    apply Ev.step
    · intro k; rw [impl_TakeNums.l0]
    simp only [if_pos (show i < m by omega)]
    refine Ev.bind (ev_impl_TakeNum b hb hl p (by omega)) ?_
    rw [numsFrom]
    by_cases h4 : (takeNum b p).2 < 0
    · simp only [if_pos h4]; exact Ev.now _
    · simp only [if_neg h4, if_pos (show acc.length < 17592186044416 by omega), w64 (x := i + 1) (by omega)]
      exact ih _ _ _ (by omega) (by omega) (by simp; omega) (by omega)
theorem ev_impl_TakeNums (b : List Int) (hb : Bytes b) (hl : b.length ≤ 1048576) (p : Int) (hp : p ≤ 9223372036854775807) : Ev (fun k => impl_TakeNums.f k b p) (takeNums b p) := by
  have hn := takeNum_lo b p
  simp only [impl_TakeNums.f]
  refine Ev.bind (ev_impl_TakeNum b hb hl p (by omega)) ?_
  unfold takeNums
  by_cases h0 : (takeNum b p).2 < 0
  · simp only [if_pos h0, if_pos (show (takeNum b p).2 < 0 ∨ _ from Or.inl h0)]
    apply Ev.step
    · intro k; rw [impl_TakeNums.j0]
    exact Ev.now _
  simp only [if_neg h0, impl_in_eq, Option.bind_some]
  by_cases h1 : 0 ≤ (takeNum b p).1 ∧ (takeNum b p).1 ≤ 300
  · rw [if_neg (by intro h; rcases h with h | h; exact h0 h; exact h h1)]
    apply Ev.step
    · intro k; rw [impl_TakeNums.j0]
    simp only [decide_eq_true h1, Bool.not_true, if_neg Bool.false_ne_true]
    exact ev_impl_TakeNums_l0 b hb hl _ h1 _ _ _ 0 (by omega) (by omega) (by simp) (by omega)
  · rw [if_pos (Or.inr h1)]
    apply Ev.step
    · intro k; rw [impl_TakeNums.j0]
    simp only [decide_eq_false h1, Bool.not_false, if_true]
    exact Ev.now _

def cutB (b : List Int) (f n : Int) : ByteArray := strOfNums ((b.take (f + n).toNat).drop f.toNat)
def takeWord (b : List Int) (p : Int) : ByteArray × Int :=
  if 0 ≤ (takeNum b p).2 ∧ 1 ≤ (takeNum b p).1 ∧ (takeNum b p).1 ≤ b.length - (takeNum b p).2 ∧ wordOk (cutB b (takeNum b p).2 (takeNum b p).1) = true
  then (cutB b (takeNum b p).2 (takeNum b p).1, (takeNum b p).2 + (takeNum b p).1) else (⟨#[]⟩, -1)
theorem size_strOf (l : List Int) : (strOfNums l).size = l.length := by
  simp [strOfNums, ByteArray.size]
theorem cutB_size (b : List Int) (f n : Int) (h0 : 0 ≤ f) (h1 : 0 ≤ n) (h2 : f + n ≤ b.length) : (cutB b f n).size = n.toNat := by
  unfold cutB
  rw [size_strOf, List.length_drop, List.length_take]
  omega
theorem wordOk_size {s : ByteArray} (h : wordOk s = true) : 1 ≤ s.size ∧ s.size ≤ 12 := by
  unfold wordOk at h
  simp only [Bool.and_eq_true, decide_eq_true_eq] at h
  exact h.1

theorem ev_impl_TakeWord (b : List Int) (hb : Bytes b) (hl : b.length ≤ 1048576) (p : Int) (hp : p ≤ 9223372036854775807) : Ev (fun k => impl_TakeWord.f k b p) (takeWord b p) := by
  have hr := takeNum_next b p
  have hq := @cutB_size b (takeNum b p).2 (takeNum b p).1
  simp only [impl_TakeWord.f, impl_in_eq, Option.bind_some]
  refine Ev.bind (ev_impl_TakeNum b hb hl p hp) ?_
  refine Ev_ite (fun h0 => ?_) (fun h0 => ?_)
  · unfold takeWord; rw [if_neg (by omega)]; exact Ev.now _
  have hn : -1000000 ≤ (takeNum b p).1 ∧ (takeNum b p).1 ≤ 1000000 := by
    rcases hr with h | h
    · omega
    · simpa [isNumB] using h.2.2.2.2
  rw [w64 (x := (b.length : Int) - (takeNum b p).2) (by omega)]
  refine Ev_ite (fun h1 => ?_) (fun h1 => ?_)
  · have h1' : 1 ≤ (takeNum b p).1 ∧ (takeNum b p).1 ≤ (b.length : Int) - (takeNum b p).2 := by simpa using h1
    simp only [w64 (x := (takeNum b p).2 + (takeNum b p).1) (by omega), if_pos (show 0 ≤ (takeNum b p).2 by omega), if_pos (show (takeNum b p).2 ≤ (takeNum b p).2 + (takeNum b p).1 by omega), if_pos (show (takeNum b p).2 + (takeNum b p).1 ≤ b.length by omega)]
    have hz := hq (by omega) (by omega) (by omega)
    refine Ev.bind (ev_impl_WordOk (cutB b (takeNum b p).2 (takeNum b p).1) (by omega)) ?_
    refine Ev_ite (fun h3 => ?_) (fun h3 => ?_)
    · unfold takeWord; rw [if_pos ⟨by omega, by omega, by omega, h3⟩]; exact Ev.now _
    · unfold takeWord; rw [if_neg (fun h => h3 h.2.2.2)]; exact Ev.now _
  · have h1' : ¬ (1 ≤ (takeNum b p).1 ∧ (takeNum b p).1 ≤ (b.length : Int) - (takeNum b p).2) := by simpa using h1
    unfold takeWord; rw [if_neg (by omega)]; exact Ev.now _

/-! A number that is read is written so, one way alone. -/
theorem rd_app (a l : List Int) (j : Nat) : rd (a ++ l) ((a.length + j : Nat) : Int) = rd l (j : Int) := by
  show (a ++ l).getD ((a.length + j : Nat) : Int).toNat 0 = l.getD ((j : Nat) : Int).toNat 0
  rw [Int.toNat_natCast, Int.toNat_natCast, List.getD_eq_getElem?_getD, List.getD_eq_getElem?_getD, List.getElem?_append_right (by omega), Nat.add_sub_cancel_left]
theorem rd_cons0 (x : Int) (l : List Int) : rd (x :: l) 0 = x := rfl
theorem rd_cons1 (x y : Int) (l : List Int) : rd (x :: y :: l) 1 = y := rfl
theorem rd_cons2 (x y z : Int) (l : List Int) : rd (x :: y :: z :: l) 2 = z := rfl
theorem unzig {x : Int} (h : isNumB x = true) : (if zig x % 2 = 1 then -((zig x + 1) / 2) else zig x / 2) = x := by
  unfold zig
  split <;> split <;> omega
theorem takeFin_zig {x : Int} (h : isNumB x = true) (v i p : Int) (hv : v ≠ 0 ∨ i ≤ 0) : takeFin (zig x) v i p = (x, p + i + 1) := by
  unfold takeFin
  rw [unzig h, if_neg (by rw [h]; simp; omega)]
theorem rd_app0 (a l : List Int) : rd (a ++ l) (a.length : Int) = rd l 0 := by
  have := rd_app a l 0
  simpa using this
theorem rd_app1 (a l : List Int) : rd (a ++ l) ((a.length : Int) + 1) = rd l 1 := rd_app a l 1
theorem rd_app2 (a l : List Int) : rd (a ++ l) ((a.length : Int) + 2) = rd l 2 := rd_app a l 2
theorem takeNum_put (a r : List Int) (x : Int) (h : isNumB x = true) : takeNum (a ++ (putNum x ++ r)) (a.length : Int) = (x, (a.length : Int) + (putNum x).length) := by
  have hz := zig_range h
  have hl : ((a ++ (putNum x ++ r)).length : Int) = a.length + (putNum x).length + r.length := by simp only [List.length_append]; omega
  unfold takeNum
  rw [rd_app0, rd_app1, rd_app2, hl]
  by_cases c1 : zig x < 128
  · have e : putNum x = [zig x] := by unfold putNum groups; rw [if_pos h, if_pos c1]
    have el : (putNum x).length = 1 := by rw [e]; rfl
    have q0 : rd (putNum x ++ r) 0 = zig x := by rw [e]; rfl
    rw [q0, if_neg (by omega), if_pos c1, takeFin_zig h _ _ _ (.inr (by omega))]
    exact congrArg (Prod.mk x) (by omega)
  by_cases c2 : zig x < 16384
  · have e : putNum x = [zig x % 128 + 128, zig x / 128] := by unfold putNum groups; rw [if_pos h, if_neg c1, if_pos c2]
    have el : (putNum x).length = 2 := by rw [e]; rfl
    have q0 : rd (putNum x ++ r) 0 = zig x % 128 + 128 := by rw [e]; rfl
    have q1 : rd (putNum x ++ r) 1 = zig x / 128 := by rw [e]; rfl
    rw [q0, q1, if_neg (by omega), if_neg (by omega), if_neg (by omega), if_pos (by omega), show (zig x % 128 + 128) % 128 + zig x / 128 * 128 = zig x by omega, takeFin_zig h _ _ _ (.inl (by omega))]
    exact congrArg (Prod.mk x) (by omega)
  · have e : putNum x = [zig x % 128 + 128, zig x / 128 % 128 + 128, zig x / 16384] := by unfold putNum groups; rw [if_pos h, if_neg c1, if_neg c2]
    have el : (putNum x).length = 3 := by rw [e]; rfl
    have q0 : rd (putNum x ++ r) 0 = zig x % 128 + 128 := by rw [e]; rfl
    have q1 : rd (putNum x ++ r) 1 = zig x / 128 % 128 + 128 := by rw [e]; rfl
    have q2 : rd (putNum x ++ r) 2 = zig x / 16384 := by rw [e]; rfl
    rw [q0, q1, q2, if_neg (by omega), if_neg (by omega), if_neg (by omega), if_neg (by omega), if_neg (by omega), if_pos (by omega), show (zig x % 128 + 128) % 128 + (zig x / 128 % 128 + 128) % 128 * 128 + zig x / 16384 * 16384 = zig x by omega, takeFin_zig h _ _ _ (.inl (by omega))]
    exact congrArg (Prod.mk x) (by omega)
theorem zig_un {u x : Int} (h0 : 0 ≤ u) (hx : x = if u % 2 = 1 then -((u + 1) / 2) else u / 2) : zig x = u := by
  unfold zig
  subst hx
  split <;> split <;> omega
theorem takeFin_some {u v i p x q : Int} (h : takeFin u v i p = (x, q)) (hq : 0 ≤ q) : isNumB x = true ∧ (x = if u % 2 = 1 then -((u + 1) / 2) else u / 2) ∧ q = p + i + 1 ∧ (v ≠ 0 ∨ i ≤ 0) := by
  unfold takeFin at h
  by_cases c : (v = 0 ∧ 0 < i) ∨ isNumB (if u % 2 = 1 then -((u + 1) / 2) else u / 2) = false
  · rw [if_pos c] at h
    injection h with h1 h2
    omega
  · rw [if_neg c] at h
    injection h with h1 h2
    subst h1
    simp only [not_or, Bool.not_eq_false] at c
    exact ⟨c.2, rfl, h2.symm, by have := c.1; omega⟩
theorem seg1 (b : List Int) (p : Nat) (h : p < b.length) : (b.take (p + 1)).drop p = [rd b p] := by
  rw [List.drop_take, drop_rd b p h, show p + 1 - p = 1 by omega]; rfl
theorem seg2 (b : List Int) (p : Nat) (h : p + 1 < b.length) : (b.take (p + 2)).drop p = [rd b p, rd b ((p : Int) + 1)] := by
  rw [List.drop_take, drop_rd b p (by omega), drop_rd b (p + 1) h, show p + 2 - p = 2 by omega]
  simp
theorem seg3 (b : List Int) (p : Nat) (h : p + 2 < b.length) : (b.take (p + 3)).drop p = [rd b p, rd b ((p : Int) + 1), rd b ((p : Int) + 2)] := by
  rw [List.drop_take, drop_rd b p (by omega), drop_rd b (p + 1) (by omega), drop_rd b (p + 2) h, show p + 3 - p = 3 by omega]
  simp
theorem takeNum_canon (b : List Int) (hb : Bytes b) (p : Nat) {x q : Int} (h : takeNum b (p : Int) = (x, q)) (hq : 0 ≤ q) : (b.take q.toNat).drop p = putNum x ∧ isNumB x = true := by
  have b0 := Bytes_rd hb (p : Int)
  have b1 := Bytes_rd hb ((p : Int) + 1)
  have b2 := Bytes_rd hb ((p : Int) + 2)
  have neg : ∀ {y : Int × Int}, y = (0, -1) → y = (x, q) → False := fun e1 e2 => by
    rw [e1] at e2
    injection e2 with _ e3
    omega
  unfold takeNum at h
  by_cases c0 : (p : Int) < 0 ∨ (b.length : Int) ≤ p
  · rw [if_pos c0] at h; exact (neg rfl h).elim
  rw [if_neg c0] at h
  by_cases c1 : rd b (p : Int) < 128
  · rw [if_pos c1] at h
    obtain ⟨g1, g2, g3, _⟩ := takeFin_some h hq
    have hz := zig_un b0.1 g2
    refine ⟨?_, g1⟩
    rw [show q.toNat = p + 1 by omega, seg1 b p (by omega), putNum, if_pos g1, groups, hz, if_pos c1]
  rw [if_neg c1] at h
  by_cases c2 : (b.length : Int) ≤ (p : Int) + 1
  · rw [if_pos c2] at h; exact (neg rfl h).elim
  rw [if_neg c2] at h
  by_cases c3 : rd b ((p : Int) + 1) < 128
  · rw [if_pos c3] at h
    obtain ⟨g1, g2, g3, g4⟩ := takeFin_some h hq
    have hz := zig_un (by omega) g2
    refine ⟨?_, g1⟩
    rw [show q.toNat = p + 2 by omega, seg2 b p (by omega), putNum, if_pos g1, groups, hz, if_neg (by omega), if_pos (by omega)]
    congr 1
    · omega
    · congr 1; omega
  rw [if_neg c3] at h
  by_cases c4 : (b.length : Int) ≤ (p : Int) + 2
  · rw [if_pos c4] at h; exact (neg rfl h).elim
  rw [if_neg c4] at h
  by_cases c5 : rd b ((p : Int) + 2) < 128
  · rw [if_pos c5] at h
    obtain ⟨g1, g2, g3, g4⟩ := takeFin_some h hq
    have hz := zig_un (by omega) g2
    refine ⟨?_, g1⟩
    rw [show q.toNat = p + 3 by omega, seg3 b p (by omega), putNum, if_pos g1, groups, hz, if_neg (by omega), if_neg (by omega)]
    congr 1
    · omega
    · congr 1
      · omega
      · congr 1; omega
  · rw [if_neg c5] at h; exact (neg rfl h).elim

def bodyF (b : List Int) : List Int := (b.take ((takeNum b 2).2 + (takeNum b 2).1).toNat).drop (takeNum b 2).2.toNat
def unOk (b : List Int) : Bool := decide (b.take 2 = [80, 83] ∧ 0 ≤ (takeNum b 2).2 ∧ 0 ≤ (takeNum b 2).1 ∧ (takeNum b 2).1 ≤ 4000 ∧ (takeNum b 2).1 ≤ (b.length : Int) - (takeNum b 2).2 ∧ frameB (bodyF b) = b)
def unframe (b : List Int) : List Int × Bool := if unOk b = true then (bodyF b, true) else ([], false)
theorem bodyF_length {b : List Int} (h0 : 0 ≤ (takeNum b 2).2) (h1 : 0 ≤ (takeNum b 2).1) (h2 : (takeNum b 2).1 ≤ (b.length : Int) - (takeNum b 2).2) : ((bodyF b).length : Int) = (takeNum b 2).1 := by
  unfold bodyF
  rw [List.length_drop, List.length_take]
  omega
theorem unframe_length (b : List Int) : (unframe b).1.length ≤ b.length := by
  unfold unframe
  split
  · unfold bodyF; simp; omega
  · simp
theorem Bytes_sub {b : List Int} (hb : Bytes b) (i j : Nat) : Bytes ((b.take j).drop i) := fun x hx => hb x (List.mem_of_mem_take (List.mem_of_mem_drop hx))
theorem Bytes_body {b : List Int} (hb : Bytes b) : Bytes (bodyF b) := Bytes_sub hb _ _
theorem Bytes_unframe {b : List Int} (hb : Bytes b) : Bytes (unframe b).1 := by
  unfold unframe
  split
  · exact Bytes_body hb
  · exact Bytes_nil
theorem parts3 (b : List Int) (i j k : Nat) (h1 : i ≤ j) (h2 : j ≤ k) : b = b.take i ++ ((b.take j).drop i ++ ((b.take k).drop j ++ b.drop k)) := by
  have e : ∀ (u v : Nat), u ≤ v → b.take u ++ (b.take v).drop u = b.take v := fun u v h => by
    have := List.take_append_drop u (b.take v)
    rwa [List.take_take, Nat.min_eq_left h] at this
  rw [← List.append_assoc, e i j h1, ← List.append_assoc, e j k h2, List.take_append_drop]
theorem frame_iff {b : List Int} (hb : Bytes b) (hp : b.take 2 = [80, 83]) (h0 : 0 ≤ (takeNum b 2).2) (h1 : 0 ≤ (takeNum b 2).1) (h2 : (takeNum b 2).1 ≤ (b.length : Int) - (takeNum b 2).2) :
    (takeNum b ((takeNum b 2).2 + (takeNum b 2).1) = (checkOf (bodyF b), (b.length : Int))) ↔ frameB (bodyF b) = b := by
  have hbl := bodyF_length h0 h1 h2
  have hnx := takeNum_next b 2
  have hn : isNumB (takeNum b 2).1 = true := by
    rcases hnx with h | h
    · omega
    · exact h.2.2.2.2
  constructor
  · intro h
    obtain ⟨c1, _⟩ := takeNum_canon b hb 2 (x := (takeNum b 2).1) (q := (takeNum b 2).2) rfl h0
    have h' : takeNum b ((((takeNum b 2).2 + (takeNum b 2).1).toNat : Nat) : Int) = (checkOf (bodyF b), (b.length : Int)) := by
      rw [show (((((takeNum b 2).2 + (takeNum b 2).1).toNat : Nat)) : Int) = (takeNum b 2).2 + (takeNum b 2).1 by omega]; exact h
    obtain ⟨c2, _⟩ := takeNum_canon b hb _ h' (by omega)
    rw [show ((b.length : Int)).toNat = b.length by omega, List.take_length] at c2
    have hps := parts3 b 2 (takeNum b 2).2.toNat ((takeNum b 2).2 + (takeNum b 2).1).toNat (by rcases hnx with h | h <;> omega) (by omega)
    rw [hp, c1, c2] at hps
    unfold frameB
    rw [hbl]
    exact hps.symm
  · intro h
    have e1 := takeNum_put [80, 83] (bodyF b ++ putNum (checkOf (bodyF b))) ((bodyF b).length : Int) (by rw [hbl]; exact hn)
    have e0 : [80, 83] ++ (putNum ((bodyF b).length : Int) ++ (bodyF b ++ putNum (checkOf (bodyF b)))) = b := h
    rw [e0] at e1
    have e1' : takeNum b 2 = (((bodyF b).length : Int), (2 : Int) + ((putNum ((bodyF b).length : Int)).length : Int)) := e1
    have e2 := takeNum_put ([80, 83] ++ (putNum ((bodyF b).length : Int) ++ bodyF b)) [] (checkOf (bodyF b)) (checkOf_num _)
    have e3 : [80, 83] ++ (putNum ((bodyF b).length : Int) ++ bodyF b) ++ (putNum (checkOf (bodyF b)) ++ []) = b := by
      refine Eq.trans ?_ e0
      simp only [List.append_assoc, List.append_nil]
    have hlen : (b.length : Int) = 2 + (putNum ((bodyF b).length : Int)).length + (bodyF b).length + (putNum (checkOf (bodyF b))).length := by
      have := congrArg List.length e0
      simp only [List.length_append, List.length_cons, List.length_nil] at this
      omega
    have hf : (takeNum b 2).2 = 2 + (putNum ((bodyF b).length : Int)).length := by rw [e1']
    have hm : (takeNum b 2).1 = ((bodyF b).length : Int) := hbl.symm
    rw [hf, hm]
    have e4 : takeNum b ((([80, 83] ++ (putNum ((bodyF b).length : Int) ++ bodyF b) : List Int).length : Nat) : Int) = (checkOf (bodyF b), ((([80, 83] ++ (putNum ((bodyF b).length : Int) ++ bodyF b) : List Int).length : Nat) : Int) + (putNum (checkOf (bodyF b))).length) := by
      have := e2
      rwa [e3] at this
    have hl2 : ((([80, 83] ++ (putNum ((bodyF b).length : Int) ++ bodyF b) : List Int).length : Nat) : Int) = 2 + ((putNum ((bodyF b).length : Int)).length : Int) + ((bodyF b).length : Int) := by
      simp only [List.length_append, List.length_cons, List.length_nil]; omega
    rw [hl2] at e4
    rw [e4]
    congr 1
    omega
theorem strOf_inj {a b : List Int} (ha : Bytes a) (hb : Bytes b) : ((strOfNums a).toList == (strOfNums b).toList) = decide (a = b) := by
  have key : ∀ {a b : List Int}, Bytes a → Bytes b → (a.map fun n => UInt8.ofNat n.toNat) = (b.map fun n => UInt8.ofNat n.toNat) → a = b := by
    intro a
    induction a with
    | nil => intro b _ _ h; cases b with | nil => rfl | cons y ys => cases h
    | cons x xs ih =>
      intro b ha hb h
      cases b with
      | nil => cases h
      | cons y ys =>
        rw [List.map_cons, List.map_cons] at h
        injection h with h1 h2
        have hx := ha x List.mem_cons_self
        have hy := hb y List.mem_cons_self
        have h3 : (UInt8.ofNat x.toNat).toNat = (UInt8.ofNat y.toNat).toNat := by rw [h1]
        rw [UInt8.toNat_ofNat', UInt8.toNat_ofNat'] at h3
        rw [ih (fun z hz => ha z (List.mem_cons_of_mem _ hz)) (fun z hz => hb z (List.mem_cons_of_mem _ hz)) h2]
        congr 1
        omega
  rw [Bool.eq_iff_iff, beq_iff_eq, decide_eq_true_eq, Lib.toList_data, Lib.toList_data, strOfNums_data, strOfNums_data]
  exact ⟨key ha hb, fun h => by rw [h]⟩

theorem bytesEq_eq {a b : List Int} (ha : Bytes a) (hb : Bytes b) : bytes_Equal.f a b = some (decide (a = b)) := by
  simp only [bytes_Equal.f, strOf_inj ha hb]

theorem hasPS_eq {b : List Int} (hb : Bytes b) : bytes_HasPrefix.f b [80, 83] = some (decide (b.take 2 = [80, 83])) := by
  unfold bytes_HasPrefix.f
  by_cases h : ([80, 83] : List Int).length ≤ b.length
  · rw [if_pos h, bytesEq_eq (fun x hx => hb x (List.mem_of_mem_take hx)) (fun x hx => by simp at hx; omega)]; rfl
  · rw [if_neg h, decide_eq_false]
    intro e
    have := congrArg List.length e
    simp at this h
    omega

theorem clone_byte (l : List Int) (hl : l.length ≤ 1048576) : slices_Clone_byte_byte.f l = some l := by
  simp only [slices_Clone_byte_byte.f, Option.bind_some, List.length_nil, List.nil_append]
  rw [if_pos (by omega)]

theorem ev_impl_Unframe (b : List Int) (hb : Bytes b) (hl : b.length ≤ 1048576) : Ev (fun k => impl_Unframe.f k b) (unframe b) := by
  have hnx := takeNum_next b 2
  have no : unOk b = false → unframe b = ([], false) := fun h => by unfold unframe; rw [h]; simp
  simp only [impl_Unframe.f, hasPS_eq hb, Option.bind_some, impl_in_eq]
  by_cases hp : b.take 2 = [80, 83]
  · simp only [hp, decide_true, if_true]
    refine Ev.bind (ev_impl_TakeNum b hb hl 2 (by omega)) ?_
    refine Ev_ite (fun h0 => ?_) (fun h0 => ?_)
    · rw [no (by unfold unOk; exact decide_eq_false (by omega))]; exact Ev.now _
    have hn : -1000000 ≤ (takeNum b 2).1 ∧ (takeNum b 2).1 ≤ 1000000 ∧ (takeNum b 2).2 ≤ b.length := by
      rcases hnx with h | h
      · omega
      · have h4 := h.2.2.2.2
        simp [isNumB] at h4
        omega
    rw [w64 (x := (b.length : Int) - (takeNum b 2).2) (by omega)]
    by_cases h1 : 0 ≤ (takeNum b 2).1 ∧ (takeNum b 2).1 ≤ (b.length : Int) - (takeNum b 2).2
    · simp only [decide_eq_true h1, if_true]
      rw [w64 (x := (takeNum b 2).2 + (takeNum b 2).1) (by omega)]
      simp only [if_pos (show 0 ≤ (takeNum b 2).2 by omega), if_pos (show (takeNum b 2).2 ≤ (takeNum b 2).2 + (takeNum b 2).1 by omega), if_pos (show (takeNum b 2).2 + (takeNum b 2).1 ≤ (b.length : Int) by omega)]
      have hbl := bodyF_length (b := b) (by omega) h1.1 h1.2
      rw [show (b.take ((takeNum b 2).2 + (takeNum b 2).1).toNat).drop (takeNum b 2).2.toNat = bodyF b from rfl]
      simp only [clone_byte (bodyF b) (by omega), Option.bind_some]
      refine Ev.bind (ev_impl_Frame (bodyF b) (Bytes_body hb) (by omega)) ?_
      unfold frame
      by_cases h4 : (bodyF b).length ≤ 4000
      · simp only [if_pos h4, if_true]
        have hbf : Bytes (frameB (bodyF b)) := by
          unfold frameB
          exact Bytes_app (fun x hx => by simp at hx; omega) (Bytes_app (Bytes_put _) (Bytes_app (Bytes_body hb) (Bytes_put _)))
        simp only [bytesEq_eq hbf hb, Option.bind_some]
        by_cases h5 : frameB (bodyF b) = b
        · simp only [decide_eq_true h5, if_true]
          unfold unframe
          rw [if_pos (by unfold unOk; exact decide_eq_true ⟨hp, by omega, h1.1, by omega, h1.2, h5⟩)]
          exact Ev.now _
        · simp only [decide_eq_false h5, if_neg Bool.false_ne_true]
          rw [no (by unfold unOk; exact decide_eq_false (fun h => h5 h.2.2.2.2.2))]; exact Ev.now _
      · simp only [if_neg h4, if_neg Bool.false_ne_true]
        rw [no (by unfold unOk; exact decide_eq_false (by omega))]; exact Ev.now _
    · simp only [decide_eq_false h1, if_neg Bool.false_ne_true]
      rw [no (by unfold unOk; exact decide_eq_false (fun h => h1 ⟨h.2.2.1, h.2.2.2.2.1⟩))]; exact Ev.now _
  · simp only [decide_eq_false hp, if_neg Bool.false_ne_true]
    rw [no (by unfold unOk; exact decide_eq_false (fun h => hp h.1))]; exact Ev.now _

theorem ev_spec_CheckOf_l0 (b : List Int) (hb : Bytes b) (hl : b.length ≤ 1099511627776) : ∀ (d i : Nat), i + d = b.length → Ev (fun k => spec_CheckOf.l0 k b (checkTo b i) i) (checkOf b) := by
  intro d
  induction d with
  | zero =>
    intro i h
    obtain rfl : i = b.length := by omega
    apply Ev.step
    · intro k; rw [spec_CheckOf.l0]
    simp only [if_neg (show ¬ ((b.length : Int) < b.length) by omega)]
    exact Ev.now _
  | succ d ih =>
    intro i h
    have ih' := ih (i + 1) (by omega)
    have hc := checkTo_range b i
    have hr := Bytes_rd hb i
    apply Ev.step
    · intro k; rw [spec_CheckOf.l0]
    simp only [if_pos (show (i : Int) < b.length by omega), if_pos (show (0 : Int) ≤ i by omega), w64 (x := (i : Int) + 1) (by omega), w64 (x := rd b i) (by omega), w64 (x := 269 * checkTo b i) (by omega), w64 (x := 269 * checkTo b i + rd b i) (by omega), tmod_nn (show 0 ≤ 269 * checkTo b i + rd b i by omega)]
    exact ih'
theorem ev_spec_CheckOf (b : List Int) (hb : Bytes b) (hl : b.length ≤ 1099511627776) : Ev (fun k => spec_CheckOf.f k b) (checkOf b) :=
  ev_spec_CheckOf_l0 b hb hl b.length 0 (by omega)

theorem spec_l01In_eq (a b c : Int) : spec_l01In.f a b c = some (decide (b ≤ a ∧ a ≤ c)) := by
  unfold spec_l01In.f
  by_cases h : b ≤ a
  · rw [if_pos h]; simp [h]
  · rw [if_neg h]; simp [h]

theorem spec_l01Number_eq (a : Int) : spec_l01Number.f a = some (isNumB a) := by
  unfold spec_l01Number.f; rw [spec_l01In_eq]; rfl

theorem ev_spec_PutNum_l0 (n : Int) (h : 0 ≤ n ∧ n < 2097152) : Ev (fun k => spec_PutNum.l0 k [] n) (groups n) := by
  unfold groups
  by_cases h1 : n < 128
  · apply Ev.step
    · intro k; rw [spec_PutNum.l0]
    simp only [if_neg (show ¬ n ≥ 128 by omega), if_pos h1, List.length_nil, List.nil_append]
    exact Ev.const (by simp; omega)
  · apply Ev.step
    · intro k; rw [spec_PutNum.l0]
    simp only [if_pos (show n ≥ 128 by omega), if_neg h1, List.length_nil, List.nil_append, tmod_nn h.1, tdiv_nn h.1, w64 (x := 128 + n % 128) (by omega), w64 (x := n / 128) (by omega), show (128 + n % 128) % 256 = n % 128 + 128 by omega]
    simp only [show (0 : Nat) < 140737488355328 by omega, if_true]
    by_cases h2 : n < 16384
    · apply Ev.step
      · intro k; rw [spec_PutNum.l0]
      simp only [if_neg (show ¬ n / 128 ≥ 128 by omega), if_pos h2, List.length_cons, List.length_nil]
      exact Ev.const (by simp; omega)
    · apply Ev.step
      · intro k; rw [spec_PutNum.l0]
      simp only [if_pos (show n / 128 ≥ 128 by omega), if_neg h2, List.length_cons, List.length_nil, tmod_nn (show 0 ≤ n / 128 by omega), tdiv_nn (show 0 ≤ n / 128 by omega), w64 (x := 128 + n / 128 % 128) (by omega), w64 (x := n / 128 / 128) (by omega), show (128 + n / 128 % 128) % 256 = n / 128 % 128 + 128 by omega]
      simp only [show (0 + 1 : Nat) < 140737488355328 by omega, if_true, List.cons_append, List.nil_append]
      apply Ev.step
      · intro k; rw [spec_PutNum.l0]
      simp only [if_neg (show ¬ n / 128 / 128 ≥ 128 by omega), List.length_cons, List.length_nil]
      exact Ev.const (by simp; omega)
theorem ev_spec_PutNum (x : Int) : Ev (fun k => spec_PutNum.f k x) (putNum x) := by
  unfold putNum
  simp only [spec_PutNum.f, spec_l01Number_eq, Option.bind_some]
  by_cases h : isNumB x = true
  · have hz := zig_range h
    have hb : -1000000 ≤ x ∧ x ≤ 1000000 := by simpa [isNumB] using h
    simp only [h, if_true]
    unfold zig at hz ⊢
    by_cases h0 : x < 0
    · simp only [h0, if_true] at hz ⊢
      apply Ev.step
      · intro k; rw [spec_PutNum.j0]
      simp only [w64 (x := -2 * x) (by omega), w64 (x := -2 * x - 1) (by omega)]
      exact ev_spec_PutNum_l0 _ (by omega)
    · simp only [h0, if_false] at hz ⊢
      apply Ev.step
      · intro k; rw [spec_PutNum.j0]
      simp only [w64 (x := 2 * x) (by omega)]
      exact ev_spec_PutNum_l0 _ (by omega)
  · simp only [h]
    exact Ev.now _

theorem ev_spec_l01Bytes_l0 (b : List Int) (hl : b.length ≤ 1099511627776) : ∀ (d i : Nat), i + d = b.length → Ev (fun k => spec_l01Bytes.l0 k b (b.take i) i) b := by
  intro d
  induction d with
  | zero =>
    intro i h
    obtain rfl : i = b.length := by omega
    apply Ev.step
    · intro k; rw [spec_l01Bytes.l0]
    simp only [if_neg (show ¬ ((b.length : Int) < b.length) by omega), List.take_length]
    exact Ev.now _
  | succ d ih =>
    intro i h
    have ih' := ih (i + 1) (by omega)
    apply Ev.step
    · intro k; rw [spec_l01Bytes.l0]
    simp only [if_pos (show (i : Int) < b.length by omega), if_pos (show (0 : Int) ≤ i by omega), w64 (x := (i : Int) + 1) (by omega), if_pos (show (b.take i).length < 140737488355328 by rw [List.length_take]; omega), take_rd b i (by omega)]
    exact ih'
theorem ev_spec_l01Bytes (b : List Int) (hl : b.length ≤ 1099511627776) : Ev (fun k => spec_l01Bytes.f k b) b := by
  have := ev_spec_l01Bytes_l0 b hl b.length 0 (by omega)
  simpa [spec_l01Bytes.f] using this

theorem ev_spec_l01Join_l0 (a b : List Int) (ha : a.length ≤ 1099511627776) (hl : b.length ≤ 1099511627776) : ∀ (d i : Nat), i + d = b.length → Ev (fun k => spec_l01Join.l0 k b (a ++ b.take i) i) (a ++ b) := by
  intro d
  induction d with
  | zero =>
    intro i h
    obtain rfl : i = b.length := by omega
    apply Ev.step
    · intro k; rw [spec_l01Join.l0]
    simp only [if_neg (show ¬ ((b.length : Int) < b.length) by omega), List.take_length]
    exact Ev.now _
  | succ d ih =>
    intro i h
    have ih' := ih (i + 1) (by omega)
    apply Ev.step
    · intro k; rw [spec_l01Join.l0]
    simp only [if_pos (show (i : Int) < b.length by omega), if_pos (show (0 : Int) ≤ i by omega), w64 (x := (i : Int) + 1) (by omega), if_pos (show (a ++ b.take i).length < 140737488355328 by rw [List.length_append, List.length_take]; omega), List.append_assoc, take_rd b i (by omega)]
    exact ih'
theorem ev_spec_l01Join (a b : List Int) (ha : a.length ≤ 1099511627776) (hl : b.length ≤ 1099511627776) : Ev (fun k => spec_l01Join.f k a b) (a ++ b) := by
  simp only [spec_l01Join.f]
  refine Ev.bind (ev_spec_l01Bytes a ha) ?_
  have := ev_spec_l01Join_l0 a b ha hl b.length 0 (by omega)
  simpa using this

theorem ev_spec_Frame (b : List Int) (hb : Bytes b) (hl : b.length ≤ 1048576) : Ev (fun k => spec_Frame.f k b) (frame b) := by
  simp only [spec_Frame.f, frame]
  have p1 := putNum_length (b.length : Int)
  have p2 := putNum_length (checkOf b)
  by_cases h : b.length ≤ 4000
  · simp only [if_neg (show ¬ (b.length : Int) > 4000 by omega), if_pos h]
    refine Ev.bind (ev_spec_PutNum _) ?_
    refine Ev.bind (ev_spec_l01Join _ _ (by simp) (by omega)) ?_
    refine Ev.bind (ev_spec_l01Join _ _ (by simp; omega) (by omega)) ?_
    refine Ev.bind (ev_spec_CheckOf b hb (by omega)) ?_
    refine Ev.bind (ev_spec_PutNum _) ?_
    refine Ev.bind (ev_spec_l01Join _ _ (by simp; omega) (by omega)) ?_
    exact Ev.const (by simp [frameB])
  · simp only [if_pos (show (b.length : Int) > 4000 by omega), if_neg h]
    exact Ev.now _

theorem ev_spec_PutNums_l0 (l : List Int) (hl : l.length ≤ 300) : ∀ (d : Nat) (acc : List Int) (i : Nat), i + d = l.length → acc.length ≤ 3 * (i + 1) → Ev (fun k => spec_PutNums.l0 k l acc i) (putsFrom (l.drop i) acc) := by
  intro d
  induction d with
  | zero =>
    intro acc i h _
    apply Ev.step
    · intro k; rw [spec_PutNums.l0]
    simp only [if_neg (show ¬ ((i : Int) < l.length) by omega), List.drop_eq_nil_of_le (show l.length ≤ i by omega)]
    exact Ev.now _
  | succ d ih =>
    intro acc i h ha
    have hn := putNum_length (rd l i)
    apply Ev.step
    · intro k; rw [spec_PutNums.l0]
    simp only [if_pos (show (i : Int) < l.length by omega), if_pos (show (0 : Int) ≤ i by omega), w64 (x := (i : Int) + 1) (by omega), spec_l01Number_eq, Option.bind_some]
    rw [drop_rd l i (by omega), putsFrom]
    by_cases h1 : isNumB (rd l i) = true
    · simp only [if_pos h1]
      refine Ev.bind (ev_spec_PutNum _) ?_
      refine Ev.bind (ev_spec_l01Join _ _ (by omega) (by omega)) ?_
      exact ih _ (i + 1) (by omega) (by rw [List.length_append]; omega)
    · simp only [if_neg h1]; exact Ev.now _
theorem ev_spec_PutNums (l : List Int) : Ev (fun k => spec_PutNums.f k l) (putNums l) := by
  simp only [spec_PutNums.f]
  unfold putNums
  by_cases h : 300 < l.length
  · simp only [if_pos (show (l.length : Int) > 300 by omega), if_pos h]; exact Ev.now _
  simp only [if_neg (show ¬ (l.length : Int) > 300 by omega), if_neg h]
  refine Ev.bind (ev_spec_PutNum _) ?_
  have hn := putNum_length l.length
  exact ev_spec_PutNums_l0 l (by omega) l.length _ 0 (by omega) (by omega)

theorem ev_spec_WordOk_l0 (s : ByteArray) (hs : s.size ≤ 1099511627776) : ∀ (d i : Nat), i + d = s.size → (i = 0 → 97 ≤ bt s 0) → Ev (fun k => spec_WordOk.l0 k s i) (wordFrom s d i) := by
  intro d
  induction d with
  | zero =>
    intro i h _
    apply Ev.step
    · intro k; rw [spec_WordOk.l0]
    simp only [if_neg (show ¬ ((i : Int) < s.size) by omega)]
    exact Ev.now _
  | succ d ih =>
    intro i h h0
    have ih' := ih (i + 1) (by omega) (by omega)
    apply Ev.step
    · intro k; rw [spec_WordOk.l0]
    simp only [if_pos (show (i : Int) < s.size by omega), if_pos (show (0 : Int) ≤ i by omega), w64 (x := (i : Int) + 1) (by omega), wordFrom]
    have hi : i = 0 → 97 ≤ bt s i := by intro e; subst e; exact h0 rfl
    by_cases h1 : bt s i < 97
    · simp only [if_pos h1]
      have hp : 0 < i := by rcases Nat.eq_zero_or_pos i with e | e; · have := hi e; omega
                            · exact e
      by_cases h2 : bt s i < 48
      · simp only [if_pos h2, show okAt s i = false by simp [okAt]; omega, Bool.false_and]; exact Ev.now _
      · by_cases h3 : bt s i > 57
        · simp only [if_neg h2, if_pos h3, show okAt s i = false by simp [okAt]; omega, Bool.false_and]; exact Ev.now _
        · simp only [if_neg h2, if_neg h3, show okAt s i = true by simp [okAt]; omega, Bool.true_and]; exact ih'
    · simp only [if_neg h1]
      by_cases h2 : bt s i > 122
      · simp only [if_pos h2, if_neg (show ¬ bt s i < 48 by omega), if_pos (show bt s i > 57 by omega), show okAt s i = false by simp [okAt]; omega, Bool.false_and]; exact Ev.now _
      · simp only [if_neg h2, show okAt s i = true by simp [okAt]; omega, Bool.true_and]; exact ih'
theorem ev_spec_WordOk (s : ByteArray) (hs : s.size ≤ 1099511627776) : Ev (fun k => spec_WordOk.f k s) (wordOk s) := by
  simp only [spec_WordOk.f, spec_l01In_eq, Option.bind_some, decide_eq_true_eq, wordOk]
  by_cases h : 1 ≤ s.size ∧ s.size ≤ 12
  · simp only [if_pos (show 1 ≤ (s.size : Int) ∧ (s.size : Int) ≤ 12 by omega), if_pos (show (0 : Int) < s.size by omega), decide_eq_true h, Bool.true_and]
    apply Ev.step
    · intro k; rw [spec_WordOk.j0]
    simp only [decide_eq_true_eq]
    by_cases h1 : bt s 0 < 97
    · simp only [if_pos h1]
      obtain ⟨d, hd⟩ : ∃ d, s.size = d + 1 := ⟨s.size - 1, by omega⟩
      rw [hd, wordFrom, show okAt s 0 = false by simp [okAt]; omega, Bool.false_and]
      exact Ev.now _
    · simp only [if_neg h1]
      exact ev_spec_WordOk_l0 s hs s.size 0 (by omega) (by omega)
  · simp only [if_neg (show ¬ (1 ≤ (s.size : Int) ∧ (s.size : Int) ≤ 12) by omega), decide_eq_false h, Bool.false_and]
    apply Ev.step
    · intro k; rw [spec_WordOk.j0]
    simp only [if_true]
    exact Ev.now _

-- the draws: what a cursor over the code's bytes gives; each always answers, within its bounds
theorem and255 (x : Int) : 0 ≤ Go.bits .and .i64 x 255 ∧ Go.bits .and .i64 x 255 ≤ 255 := by
  have h : (BitVec.ofInt 64 x).toNat &&& (BitVec.ofInt 64 255).toNat ≤ 255 := Nat.le_trans Nat.and_le_right (by decide)
  have e : Go.bits .and .i64 x 255 = IntKind.i64.wrap (((BitVec.ofInt 64 x).toNat &&& (BitVec.ofInt 64 255).toNat : Nat) : Int) := by
    show IntKind.i64.wrap ((((BitVec.ofInt 64 x) &&& (BitVec.ofInt 64 255)).toNat : Nat) : Int) = _
    rw [BitVec.toNat_and]
  rw [e, i64_small (by omega)]
  omega
theorem dr_byte (c : List Int) (i h : Int) (hc : c.length ≤ 1099511627776) (hi : 0 ≤ i) : ∃ v i' h', spec_l01Byte.f c i h = some (v, i', h') ∧ 0 ≤ i' ∧ 0 ≤ v ∧ v ≤ 255 := by
  unfold spec_l01Byte.f
  by_cases h1 : i < (c.length : Int)
  · simp only [if_pos h1, if_pos hi, w64 (x := i + 1) (by omega)]
    exact ⟨_, _, _, rfl, by omega, (and255 _).1, (and255 _).2⟩
  · simp only [if_neg h1]
    exact ⟨_, _, _, rfl, hi, (and255 _).1, (and255 _).2⟩
theorem dr_below (c : List Int) (i h n : Int) (hc : c.length ≤ 1099511627776) (hi : 0 ≤ i) : ∃ v i' h', spec_l01Below.f c i h n = some (v, i', h') ∧ 0 ≤ i' ∧ 0 ≤ v ∧ (0 < n → v < n) ∧ (n ≤ 0 → v = 0) := by
  unfold spec_l01Below.f
  by_cases h1 : n ≤ 0
  · simp only [if_pos h1]
    exact ⟨_, _, _, rfl, hi, by omega, by omega, fun _ => rfl⟩
  simp only [if_neg h1, if_neg (show ¬ n = 0 by omega)]
  obtain ⟨v, i1, h2, e1, p1, q1, r1⟩ := dr_byte c i h hc hi
  by_cases h3 : n ≤ 256
  · simp only [if_pos h3, e1, Option.bind_some]
    refine ⟨_, _, _, rfl, p1, ?_, ?_, ?_⟩
    · rw [tmod_nn q1]; exact Int.emod_nonneg _ (by omega)
    · intro h; rw [tmod_nn q1]; exact Int.emod_lt_of_pos _ h
    · omega
  · obtain ⟨v2, i2, h4, e2, p2, q2, r2⟩ := dr_byte c i1 h2 hc p1
    obtain ⟨v3, i3, h5, e3, p3, q3, r3⟩ := dr_byte c i2 h4 hc p2
    simp only [if_neg h3, e1, e2, e3, Option.bind_some, w64 (x := v * 65536) (by omega), w64 (x := v2 * 256) (by omega), w64 (x := v * 65536 + v2 * 256) (by omega), w64 (x := v * 65536 + v2 * 256 + v3) (by omega)]
    have q4 : 0 ≤ v * 65536 + v2 * 256 + v3 := by omega
    refine ⟨_, _, _, rfl, p3, ?_, ?_, ?_⟩
    · rw [tmod_nn q4]; exact Int.emod_nonneg _ (by omega)
    · intro h; rw [tmod_nn q4]; exact Int.emod_lt_of_pos _ h
    · omega
theorem dr_once (c : List Int) (i h n : Int) (hc : c.length ≤ 1099511627776) (hi : 0 ≤ i) : ∃ b i' h', spec_l01Once.f c i h n = some (b, i', h') ∧ 0 ≤ i' := by
  unfold spec_l01Once.f
  obtain ⟨v, i1, h2, e1, p1, _⟩ := dr_below c i h n hc hi
  simp only [e1, Option.bind_some]
  exact ⟨_, _, _, rfl, p1⟩
theorem dr_size (c : List Int) (m : Int) (hc : c.length ≤ 1099511627776) (hm : 2 ≤ m) : ∃ n, spec_l01Size.f c m = some n ∧ 2 ≤ n ∧ n ≤ m := by
  unfold spec_l01Size.f
  simp only [w64 (x := (c.length : Int) / 16) (by omega), w64 (x := 2 + (c.length : Int) / 16) (by omega)]
  by_cases h : 2 + (c.length : Int) / 16 > m
  · rw [if_pos h]; exact ⟨_, rfl, hm, by omega⟩
  · rw [if_neg h]; exact ⟨_, rfl, by omega, by omega⟩
theorem dr_pick (c : List Int) (i h : Int) (l : List Int) (hc : c.length ≤ 1099511627776) (hi : 0 ≤ i) (hl : 0 < l.length) : ∃ v i' h', spec_l01PickInt.f c i h l = some (v, i', h') ∧ 0 ≤ i' ∧ v ∈ l := by
  unfold spec_l01PickInt.f
  obtain ⟨v, i1, h2, e1, p1, q1, r1, _⟩ := dr_below c i h l.length hc hi
  have r2 := r1 (by omega)
  simp only [e1, Option.bind_some, if_pos q1, if_pos r2]
  exact ⟨_, _, _, rfl, p1, rd_mem q1 r2⟩
theorem dr_new_l0 (c : List Int) (hc : c.length ≤ 1099511627776) : ∀ (d : Nat) (i : Nat) (h : Int), i + d = c.length → ∃ h', Ev (fun k => spec_l01New.l0 k c h i) (c, 0, h') := by
  intro d
  induction d with
  | zero =>
    intro i h hd
    refine ⟨h, ?_⟩
    apply Ev.step
    · intro k; rw [spec_l01New.l0]
    simp only [if_neg (show ¬ ((i : Int) < c.length) by omega)]
    exact Ev.now _
  | succ d ih =>
    intro i h hd
    by_cases h1 : (i : Int) < 4000
    · obtain ⟨h', e⟩ := ih (i + 1) (Go.bits .and .i64 (wrap64 ((wrap64 ((wrap64 (h * 149)) + (wrap64 (rd c i)))) + 11)) 1073741823) (by omega)
      refine ⟨h', ?_⟩
      apply Ev.step
      · intro k; rw [spec_l01New.l0]
      simp only [if_pos (show (i : Int) < c.length by omega), if_pos h1, if_pos (show (0 : Int) ≤ i by omega), w64 (x := (i : Int) + 1) (by omega)]
      exact e
    · refine ⟨h, ?_⟩
      apply Ev.step
      · intro k; rw [spec_l01New.l0]
      simp only [if_pos (show (i : Int) < c.length by omega), if_neg h1]
      exact Ev.now _
theorem dr_new (c : List Int) (hc : c.length ≤ 1099511627776) : ∃ h, Ev (fun k => spec_l01New.f k c) (c, 0, h) := by
  obtain ⟨h, e⟩ := dr_new_l0 c hc c.length 0 (wrap64 (844844 + (c.length : Int))) (by omega)
  exact ⟨h, by simpa [spec_l01New.f] using e⟩

theorem dr_num (c : List Int) (i h : Int) (hc : c.length ≤ 1099511627776) (hi : 0 ≤ i) : ∃ v i' h', spec_l01DrawNum.f c i h = some (v, i', h') ∧ 0 ≤ i' := by
  unfold spec_l01DrawNum.f
  obtain ⟨v, i1, h1, e1, p1, _⟩ := dr_below c i h 200 hc hi
  obtain ⟨v2, i2, h2, e2, p2, _⟩ := dr_pick c i1 h1 ([0, 63, 64, (-64), (-65), wrap64 (v - 100), 1000000, (-1000000), 1000001]) hc p1 (by simp)
  simp only [e1, e2, Option.bind_some]
  exact ⟨_, _, _, rfl, p2⟩
theorem dr_nums_l0 (c : List Int) (hc : c.length ≤ 1099511627776) (n : Int) (hn : n ≤ 400) : ∀ (d : Nat) (acc : List Int) (i : Nat) (p h : Int), (i : Int) + d = n → acc.length = i → 0 ≤ p → ∃ l p' h', Ev (fun k => spec_l01DrawNums.l0 k acc n i c p h) (l, p', h') ∧ l.length ≤ 400 ∧ 0 ≤ p' := by
  intro d
  induction d with
  | zero =>
    intro acc i p h hd ha hp
    refine ⟨acc, p, h, ?_, by omega, hp⟩
    apply Ev.step
    · intro k; rw [spec_l01DrawNums.l0]
    simp only [if_neg (show ¬ ((i : Int) < n) by omega)]
    exact Ev.now _
  | succ d ih =>
    intro acc i p h hd ha hp
    obtain ⟨v, p1, h1, e1, q1, _⟩ := dr_below c p h 200 hc hp
    obtain ⟨b, p2, h2, e2, q2⟩ := dr_once c p1 h1 20 hc q1
    by_cases hb : b = true
    · obtain ⟨v3, p3, h3, e3, q3⟩ := dr_num c p2 h2 hc q2
      obtain ⟨l, p', h', E, L, P⟩ := ih (acc ++ [v3]) (i + 1) p3 h3 (by omega) (by simp [ha]) q3
      refine ⟨l, p', h', ?_, L, P⟩
      apply Ev.step
      · intro k; rw [spec_l01DrawNums.l0]
      simp only [if_pos (show (i : Int) < n by omega), e1, e2, e3, hb, Option.bind_some, if_true, if_pos (show acc.length < 17592186044416 by omega), w64 (x := (i : Int) + 1) (by omega)]
      exact E
    · obtain ⟨l, p', h', E, L, P⟩ := ih (acc ++ [wrap64 (v - 100)]) (i + 1) p2 h2 (by omega) (by simp [ha]) q2
      refine ⟨l, p', h', ?_, L, P⟩
      apply Ev.step
      · intro k; rw [spec_l01DrawNums.l0]
      simp only [if_pos (show (i : Int) < n by omega), e1, e2, if_neg hb, Option.bind_some, if_pos (show acc.length < 17592186044416 by omega), w64 (x := (i : Int) + 1) (by omega)]
      exact E
theorem dr_nums (c : List Int) (p h : Int) (hc : c.length ≤ 1099511627776) (hp : 0 ≤ p) : ∃ l p' h', Ev (fun k => spec_l01DrawNums.f k c p h c) (l, p', h') ∧ l.length ≤ 400 := by
  obtain ⟨n, e0, n0, n1⟩ := dr_size c 12 hc (by omega)
  obtain ⟨v, p1, h1, e1, q1, a1, b1, _⟩ := dr_below c p h n hc hp
  obtain ⟨b, p2, h2, e2, q2⟩ := dr_once c p1 h1 40 hc q1
  have b2 := b1 (by omega)
  have go : ∀ (m : Int) (p h : Int), 0 ≤ m → m ≤ 400 → 0 ≤ p → ∃ l p' h', Ev (fun k => spec_l01DrawNums.j0 k [] m c p h) (l, p', h') ∧ l.length ≤ 400 := by
    intro m p h hm0 hm hp
    obtain ⟨l, p', h', E, L, P⟩ := dr_nums_l0 c hc m hm m.toNat [] 0 p h (by omega) rfl hp
    refine ⟨l, p', h', ?_, L⟩
    apply Ev.step
    · intro k; rw [spec_l01DrawNums.j0]
    exact E
  by_cases hb : b = true
  · obtain ⟨w, p3, h3, e3, q3, a3, b3, _⟩ := dr_below c p2 h2 2 hc q2
    have b4 := b3 (by omega)
    obtain ⟨l, p', h', E, L⟩ := go (300 + w) p3 h3 (by omega) (by omega) q3
    refine ⟨l, p', h', ?_, L⟩
    simp only [spec_l01DrawNums.f, e0, e1, e2, e3, hb, Option.bind_some, if_true, w64 (x := 300 + w) (by omega)]
    exact E
  · obtain ⟨l, p', h', E, L⟩ := go v p2 h2 (by omega) (by omega) q2
    refine ⟨l, p', h', ?_, L⟩
    simp only [spec_l01DrawNums.f, e0, e1, e2, if_neg hb, Option.bind_some]
    exact E
theorem dr_putNums (c : List Int) (hc : c.length ≤ 1099511627776) : ∃ l, Ev (fun k => spec_DrawPutNums.f k c) l ∧ l.length ≤ 400 := by
  obtain ⟨h, e⟩ := dr_new c hc
  obtain ⟨l, p', h', E, L⟩ := dr_nums c 0 h hc (by omega)
  refine ⟨l, ?_, L⟩
  simp only [spec_DrawPutNums.f]
  refine Ev.bind e ?_
  refine Ev.bind E ?_
  exact Ev.now _
theorem dr_word (c : List Int) (hc : c.length ≤ 1099511627776) : ∃ s, Ev (fun k => spec_DrawPutWord.f k c) s ∧ s.size ≤ 100 := by
  obtain ⟨h, e⟩ := dr_new c hc
  have key : ∀ l : List ByteArray, 0 < l.length → (∀ x ∈ l, x.size ≤ 100) → ∃ s p' h', spec_l01PickText.f c 0 h l = some (s, p', h') ∧ s.size ≤ 100 := by
    intro l hl hs
    unfold spec_l01PickText.f
    obtain ⟨v, i1, h2, e1, p1, q1, r1, _⟩ := dr_below c 0 h l.length hc (by omega)
    have r2 := r1 (by omega)
    simp only [e1, Option.bind_some, if_pos q1, if_pos r2]
    refine ⟨_, _, _, rfl, hs _ ?_⟩
    have h4 : v.toNat < l.length := by omega
    have h5 : rdOf ByteArray.empty l v = l[v.toNat] := by simp [rdOf, List.getD, h4]
    rw [h5]; exact List.getElem_mem h4
  obtain ⟨s, p', h', e1, hs⟩ := key ([(⟨#[97]⟩ : ByteArray), (⟨#[116, 49]⟩ : ByteArray), (⟨#[]⟩ : ByteArray), (⟨#[49, 116]⟩ : ByteArray), (⟨#[65]⟩ : ByteArray), (⟨#[116, 119, 101, 108, 118, 101, 115, 105, 103, 110, 115, 49]⟩ : ByteArray), (⟨#[116, 104, 105, 114, 116, 101, 101, 110, 115, 105, 103, 110, 115]⟩ : ByteArray), (⟨#[97, 32, 98]⟩ : ByteArray)]) (by decide) (by
    intro x hx
    simp only [List.mem_cons, List.not_mem_nil, or_false] at hx
    rcases hx with rfl | rfl | rfl | rfl | rfl | rfl | rfl | rfl <;> decide)
  refine ⟨s, ?_, hs⟩
  simp only [spec_DrawPutWord.f, spec_DrawWordOk.f]
  refine Ev.bind (a := s) ?_ (Ev.now _)
  refine Ev.bind e ?_
  simp only [e1, Option.bind_some]
  exact Ev.now _
theorem dr_bytes_l0 (c : List Int) (hc : c.length ≤ 1099511627776) (n : Int) (hn : n ≤ 400) : ∀ (d : Nat) (acc : List Int) (i : Nat) (p h : Int), (i : Int) + d = n → acc.length = i → Bytes acc → 0 ≤ p → ∃ l p' h', Ev (fun k => spec_l01DrawBytes.l0 k n acc i c p h) (l, p', h') ∧ l.length ≤ 400 ∧ Bytes l ∧ 0 ≤ p' := by
  intro d
  induction d with
  | zero =>
    intro acc i p h hd ha hB hp
    refine ⟨acc, p, h, ?_, by omega, hB, hp⟩
    apply Ev.step
    · intro k; rw [spec_l01DrawBytes.l0]
    simp only [if_neg (show ¬ ((i : Int) < n) by omega)]
    exact Ev.now _
  | succ d ih =>
    intro acc i p h hd ha hB hp
    obtain ⟨v, p1, h1, e1, q1, _⟩ := dr_below c p h 256 hc hp
    obtain ⟨v2, p2, h2, e2, q2, _⟩ := dr_below c p1 h1 256 hc q1
    obtain ⟨v3, p3, h3, e3, q3, _⟩ := dr_pick c p2 h2 ([0, 1, 255, 128, v, v2]) hc q2 (by simp)
    obtain ⟨l, p', h', E, L, B, P⟩ := ih (acc ++ [v3 % 256]) (i + 1) p3 h3 (by omega) (by simp [ha]) (Bytes_app hB (fun x hx => by rw [List.mem_singleton] at hx; subst hx; omega)) q3
    refine ⟨l, p', h', ?_, L, B, P⟩
    apply Ev.step
    · intro k; rw [spec_l01DrawBytes.l0]
    simp only [if_pos (show (i : Int) < n by omega), e1, e2, e3, Option.bind_some, if_pos (show acc.length < 140737488355328 by omega), w64 (x := (i : Int) + 1) (by omega)]
    exact E
theorem dr_frame (c : List Int) (hc : c.length ≤ 1099511627776) : ∃ l, Ev (fun k => spec_DrawFrame.f k c) l ∧ l.length ≤ 5000 ∧ Bytes l := by
  obtain ⟨h, e⟩ := dr_new c hc
  obtain ⟨v, p1, h1, e1, q1, a1, b1, _⟩ := dr_below c 0 h 60 hc (by omega)
  have b2 := b1 (by omega)
  obtain ⟨l, p2, h2, E, L, B, P⟩ := dr_bytes_l0 c hc v (by omega) v.toNat [] 0 p1 h1 (by omega) rfl Bytes_nil q1
  obtain ⟨b, p3, h3, e3, q3⟩ := dr_once c p2 h2 40 hc P
  have E' : Ev (fun k => spec_l01DrawBytes.f k c p1 h1 v) (l, p2, h2) := by simpa [spec_l01DrawBytes.f] using E
  by_cases hb : b = true
  · obtain ⟨w, p4, h4, e4, q4, a4, b4, _⟩ := dr_below c p3 h3 2 hc q3
    have b5 := b4 (by omega)
    refine ⟨List.replicate (4000 + w).toNat 0, ?_, by rw [List.length_replicate]; omega, fun x hx => by rw [List.eq_of_mem_replicate hx]; omega⟩
    simp only [spec_DrawFrame.f]
    refine Ev.bind e ?_
    simp only [e1, Option.bind_some]
    refine Ev.bind E' ?_
    simp only [e3, e4, hb, Option.bind_some, if_true, w64 (x := 4000 + w) (by omega), if_pos (show (0 : Int) ≤ 4000 + w by omega), if_pos (show (4000 + w).toNat ≤ 281474976710656 by omega)]
    exact Ev.now _
  · refine ⟨l, ?_, by omega, B⟩
    simp only [spec_DrawFrame.f]
    refine Ev.bind e ?_
    simp only [e1, Option.bind_some]
    refine Ev.bind E' ?_
    simp only [e3, if_neg hb, Option.bind_some]
    exact Ev.now _
theorem ev_alt_l0 (c : List Int) (hc : c.length ≤ 1099511627776) : ∀ (d : Nat) (acc : List Int) (i : Nat), i + d = c.length → acc.length = i + 1 → ∃ l, Ev (fun k => laws_alt.l0 k c acc i) l ∧ l.length ≤ c.length + 1 := by
  intro d
  induction d with
  | zero =>
    intro acc i hd ha
    refine ⟨acc, ?_, by omega⟩
    apply Ev.step
    · intro k; rw [laws_alt.l0]
    simp only [if_neg (show ¬ ((i : Int) < c.length) by omega)]
    exact Ev.now _
  | succ d ih =>
    intro acc i hd ha
    by_cases h1 : (i : Int) < 3000
    · obtain ⟨l, e, L⟩ := ih (acc ++ [rd c i]) (i + 1) (by omega) (by simp [ha])
      refine ⟨l, ?_, L⟩
      apply Ev.step
      · intro k; rw [laws_alt.l0]
      simp only [if_pos (show (i : Int) < c.length by omega), if_pos h1, if_pos (show (0 : Int) ≤ i by omega), if_pos (show acc.length < 140737488355328 by omega), w64 (x := (i : Int) + 1) (by omega)]
      exact e
    · refine ⟨acc, ?_, by omega⟩
      apply Ev.step
      · intro k; rw [laws_alt.l0]
      simp only [if_pos (show (i : Int) < c.length by omega), if_neg h1]
      exact Ev.now _
theorem ev_alt (c : List Int) (a : Int) (hc : c.length ≤ 1099511627775) : ∃ l, Ev (fun k => laws_alt.f k c a) l ∧ l.length ≤ 1099511627776 := by
  obtain ⟨l, e, L⟩ := ev_alt_l0 c (by omega) c.length [a % 256] 0 (by omega) rfl
  exact ⟨l, by simpa [laws_alt.f] using e, by omega⟩
theorem ev_sameBytes_l0 (a b : List Int) (hl : a.length = b.length) (h : a.length ≤ 1099511627776) : ∀ (d i : Nat), i + d = a.length → Ev (fun k => laws_sameBytes.l0 k a b i) (decide (a.drop i = b.drop i)) := by
  intro d
  induction d with
  | zero =>
    intro i hd
    apply Ev.step
    · intro k; rw [laws_sameBytes.l0]
    simp only [if_neg (show ¬ ((i : Int) < a.length) by omega), drop_nil' (show a.length ≤ i by omega), drop_nil' (show b.length ≤ i by omega)]
    exact Ev.const (by simp)
  | succ d ih =>
    intro i hd
    have ih' := ih (i + 1) (by omega)
    rw [drop_rd a i (by omega), drop_rd b i (by omega)]
    apply Ev.step
    · intro k; rw [laws_sameBytes.l0]
    simp only [if_pos (show (i : Int) < a.length by omega), if_pos (show (i : Int) < b.length by omega), if_pos (show (0 : Int) ≤ i by omega), w64 (x := (i : Int) + 1) (by omega)]
    by_cases he : rd a i = rd b i
    · simp only [if_pos he, List.cons.injEq, he, true_and]
      exact ih'
    · simp only [if_neg he, List.cons.injEq]
      exact Ev.const (by simp [he])
theorem ev_sameBytes (a b : List Int) (h : a.length ≤ 1099511627776) : Ev (fun k => laws_sameBytes.f k a b) (decide (a = b)) := by
  simp only [laws_sameBytes.f]
  by_cases hl : a.length = b.length
  · simp only [if_pos (show (a.length : Int) = b.length by omega)]
    simpa using ev_sameBytes_l0 a b hl h a.length 0 (by omega)
  · simp only [if_neg (show ¬ (a.length : Int) = b.length by omega)]
    exact Ev.const (congrArg some (decide_eq_false (fun e => hl (by rw [e]))).symm)
theorem ev_same_l0 (a b : List Int) (hl : a.length = b.length) (h : a.length ≤ 1099511627776) : ∀ (d i : Nat), i + d = a.length → Ev (fun k => laws_same.l0 k a b i) (decide (a.drop i = b.drop i)) := by
  intro d
  induction d with
  | zero =>
    intro i hd
    apply Ev.step
    · intro k; rw [laws_same.l0]
    simp only [if_neg (show ¬ ((i : Int) < a.length) by omega), drop_nil' (show a.length ≤ i by omega), drop_nil' (show b.length ≤ i by omega)]
    exact Ev.const (by simp)
  | succ d ih =>
    intro i hd
    have ih' := ih (i + 1) (by omega)
    rw [drop_rd a i (by omega), drop_rd b i (by omega)]
    apply Ev.step
    · intro k; rw [laws_same.l0]
    simp only [if_pos (show (i : Int) < a.length by omega), if_pos (show (i : Int) < b.length by omega), if_pos (show (0 : Int) ≤ i by omega), w64 (x := (i : Int) + 1) (by omega)]
    by_cases he : rd a i = rd b i
    · simp only [if_pos he, List.cons.injEq, he, true_and]
      exact ih'
    · simp only [if_neg he, List.cons.injEq]
      exact Ev.const (by simp [he])
theorem ev_same (a b : List Int) (h : a.length ≤ 1099511627776) : Ev (fun k => laws_same.f k a b) (decide (a = b)) := by
  simp only [laws_same.f]
  by_cases hl : a.length = b.length
  · simp only [if_pos (show (a.length : Int) = b.length by omega)]
    simpa using ev_same_l0 a b hl h a.length 0 (by omega)
  · simp only [if_neg (show ¬ (a.length : Int) = b.length by omega)]
    exact Ev.const (congrArg some (decide_eq_false (fun e => hl (by rw [e]))).symm)
theorem at_some (c : List Int) (hb : Bytes c) (i : Int) (h0 : 0 ≤ i) (h1 : i ≤ 100) (hc : c.length ≤ 1099511627776) : ∃ v, laws_at.f c i = some v ∧ 0 ≤ v ∧ v ≤ 255 := by
  unfold laws_at.f
  by_cases h : i < (c.length : Int)
  · have := Bytes_rd hb i
    simp only [if_pos h, if_pos h0, w64 (x := rd c i) (by omega)]
    exact ⟨_, rfl, this.1, this.2⟩
  · simp only [if_neg h, w64 (x := i * 13) (by omega), w64 (x := (c.length : Int) * 5) (by omega), w64 (x := i * 13 + (c.length : Int) * 5) (by omega)]
    refine ⟨_, rfl, ?_, ?_⟩
    · rw [tmod_nn (by omega)]; omega
    · rw [tmod_nn (by omega)]; omega

theorem putWord_len (s : ByteArray) : (putWord s).length ≤ 15 := by
  unfold putWord
  by_cases h : wordOk s = true
  · rw [if_pos h, List.length_append, bytesOf_length]
    have := wordOk_size' h
    have := putNum_length (s.size : Int)
    omega
  · rw [if_neg h]; simp
theorem Bytes_bytesOf (s : ByteArray) : Bytes (bytesOf s) := by
  intro x hx
  unfold bytesOf at hx
  obtain ⟨y, _, rfl⟩ := List.mem_map.1 hx
  have := y.toNat_lt
  omega
theorem Bytes_putWord (s : ByteArray) : Bytes (putWord s) := by
  unfold putWord
  split
  · exact Bytes_app (Bytes_put _) (Bytes_bytesOf s)
  · exact Bytes_nil

theorem strOf_bytesOf (s : ByteArray) : strOfNums (bytesOf s) = s := by
  cases s with
  | mk d =>
    unfold strOfNums bytesOf
    rw [List.map_map]
    have : ((fun n : Int => UInt8.ofNat n.toNat) ∘ fun b : UInt8 => (b.toNat : Int)) = id := by
      funext b; simp
    rw [this, List.map_id]
theorem putsFrom_eq : ∀ (l acc : List Int), (∀ x ∈ l, isNumB x = true) → putsFrom l acc = acc ++ l.flatMap putNum
  | [], acc, _ => by simp [putsFrom]
  | x :: r, acc, h => by
    unfold putsFrom
    rw [if_pos (h x List.mem_cons_self), putsFrom_eq r _ (fun y hy => h y (List.mem_cons_of_mem _ hy))]
    simp
theorem putsFrom_nil : ∀ (l acc : List Int), ¬ (∀ x ∈ l, isNumB x = true) → putsFrom l acc = []
  | [], acc, h => absurd (fun x hx => by cases hx) h
  | x :: r, acc, h => by
    unfold putsFrom
    by_cases hx : isNumB x = true
    · rw [if_pos hx]
      refine putsFrom_nil r _ (fun hr => h (fun y hy => ?_))
      rcases List.mem_cons.1 hy with rfl | hy
      · exact hx
      · exact hr y hy
    · rw [if_neg hx]
theorem putNums_some {l : List Int} (h : putNums l ≠ []) : l.length ≤ 300 ∧ (∀ x ∈ l, isNumB x = true) ∧ putNums l = putNum l.length ++ l.flatMap putNum := by
  unfold putNums at h ⊢
  by_cases h1 : 300 < l.length
  · rw [if_pos h1] at h; exact absurd rfl h
  rw [if_neg h1] at h ⊢
  by_cases h2 : ∀ x ∈ l, isNumB x = true
  · exact ⟨by omega, h2, putsFrom_eq l _ h2⟩
  · exact absurd (putsFrom_nil l _ h2) h
theorem Bytes_flat (l : List Int) : Bytes (l.flatMap putNum) := by
  intro x hx
  obtain ⟨y, _, hy⟩ := List.mem_flatMap.1 hx
  exact putNum_range y x hy
theorem Bytes_putNums (l : List Int) : Bytes (putNums l) := by
  by_cases h : putNums l = []
  · rw [h]; exact Bytes_nil
  · rw [(putNums_some h).2.2]; exact Bytes_app (Bytes_put _) (Bytes_flat l)
theorem numsFrom_put : ∀ (l a r acc : List Int), (∀ x ∈ l, isNumB x = true) → numsFrom (a ++ (l.flatMap putNum ++ r)) l.length acc (a.length : Int) = (acc ++ l, (a.length : Int) + ((l.flatMap putNum).length : Int))
  | [], a, r, acc, _ => by simp [numsFrom]
  | x :: l, a, r, acc, h => by
    have hx := h x List.mem_cons_self
    have e := takeNum_put a (l.flatMap putNum ++ r) x hx
    have ih := numsFrom_put l (a ++ putNum x) r (acc ++ [x]) (fun y hy => h y (List.mem_cons_of_mem _ hy))
    have e2 : a ++ ((x :: l).flatMap putNum ++ r) = a ++ (putNum x ++ (l.flatMap putNum ++ r)) := by simp
    have e3 : a ++ putNum x ++ (l.flatMap putNum ++ r) = a ++ (putNum x ++ (l.flatMap putNum ++ r)) := by simp
    rw [List.length_cons, numsFrom, e2, e]
    rw [if_neg (by show ¬ ((a.length : Int) + ((putNum x).length : Int) < 0); omega)]
    rw [e3] at ih
    rw [show (a.length : Int) + ((putNum x).length : Int) = ((a ++ putNum x).length : Int) by simp, ih]
    simp; omega
theorem takeNums_put {l : List Int} (h : putNums l ≠ []) : takeNums (putNums l) 0 = (l, ((putNums l).length : Int)) := by
  obtain ⟨h1, h2, h3⟩ := putNums_some h
  rw [h3]
  have hn : isNumB (l.length : Int) = true := by rw [isNumB_eq]; exact decide_eq_true (by omega)
  have e := takeNum_put [] (l.flatMap putNum) (l.length : Int) hn
  simp only [List.nil_append, List.length_nil, Int.natCast_zero, Int.zero_add] at e
  unfold takeNums
  rw [e]
  rw [if_neg (by simp only [not_or, Decidable.not_not]; omega)]
  have e2 := numsFrom_put l (putNum l.length) [] [] h2
  simp only [List.append_nil, List.nil_append] at e2
  show numsFrom _ (l.length : Int).toNat [] _ = _
  rw [Int.toNat_natCast, e2]
  simp
theorem rd_take {b : List Int} {m : Nat} {p : Int} (h0 : 0 ≤ p) (h : p < ((b.take m).length : Int)) : rd (b.take m) p = rd b p := by
  rw [List.length_take] at h
  have h1 : p.toNat < m := by omega
  simp [rd, List.getD, List.getElem?_take, h1]
theorem takeNum_pre (b : List Int) (m : Nat) (p : Int) (h : 0 ≤ (takeNum (b.take m) p).2) : takeNum b p = takeNum (b.take m) p := by
  have hl : (b.take m).length ≤ b.length := by rw [List.length_take]; omega
  have R : ∀ q : Int, 0 ≤ q → q < ((b.take m).length : Int) → rd (b.take m) q = rd b q := fun q h0 h1 => rd_take h0 h1
  generalize hc : b.take m = c at *
  unfold takeNum at h ⊢
  by_cases h1 : p < 0 ∨ (c.length : Int) ≤ p
  · rw [if_pos h1] at h; exact absurd h (by decide)
  rw [if_neg h1] at h ⊢
  simp only [not_or, Int.not_lt, Int.not_le] at h1
  rw [if_neg (by omega)]
  have r0 := R p h1.1 h1.2
  rw [r0] at h ⊢
  by_cases h2 : rd b p < 128
  · rw [if_pos h2, if_pos h2]
  rw [if_neg h2] at h ⊢
  rw [if_neg h2]
  by_cases h3 : (c.length : Int) ≤ p + 1
  · rw [if_pos h3] at h; exact absurd h (by decide)
  rw [if_neg h3] at h ⊢
  rw [if_neg (by omega)]
  have r1 := R (p + 1) (by omega) (by omega)
  rw [r1] at h ⊢
  by_cases h4 : rd b (p + 1) < 128
  · rw [if_pos h4, if_pos h4]
  rw [if_neg h4] at h ⊢
  rw [if_neg h4]
  by_cases h5 : (c.length : Int) ≤ p + 2
  · rw [if_pos h5] at h; exact absurd h (by decide)
  rw [if_neg h5] at h ⊢
  rw [if_neg (by omega)]
  have r2 := R (p + 2) (by omega) (by omega)
  rw [r2]
theorem numsFrom_pre (b : List Int) (m : Nat) : ∀ (n : Nat) (acc : List Int) (p : Int), (numsFrom (b.take m) n acc p).2 ≠ -1 → numsFrom b n acc p = numsFrom (b.take m) n acc p
  | 0, acc, p, _ => by simp [numsFrom]
  | n + 1, acc, p, h => by
    unfold numsFrom at h ⊢
    by_cases h1 : (takeNum (b.take m) p).2 < 0
    · rw [if_pos h1] at h; exact absurd rfl h
    rw [if_neg h1] at h ⊢
    rw [takeNum_pre b m p (by omega), if_neg h1]
    exact numsFrom_pre b m n _ _ h
theorem numsFrom_le (b : List Int) : ∀ (n : Nat) (acc : List Int) (p : Int), p ≤ (b.length : Int) → (numsFrom b n acc p).2 ≤ (b.length : Int)
  | 0, acc, p, h => by simpa [numsFrom] using h
  | n + 1, acc, p, h => by
    unfold numsFrom
    have := takeNum_lo b p
    split
    · show (-1 : Int) ≤ _; omega
    · exact numsFrom_le b n _ _ this.2
theorem takeNums_cut {l : List Int} (h : putNums l ≠ []) : (takeNums ((putNums l).take ((putNums l).length - 1)) 0).2 = -1 := by
  have hpos : 0 < (putNums l).length := List.length_pos_iff.2 h
  have e := takeNums_put h
  generalize putNums l = b at *
  have hl : (b.take (b.length - 1)).length = b.length - 1 := by rw [List.length_take]; omega
  generalize hm : b.length - 1 = m at *
  unfold takeNums at e ⊢
  by_cases h1 : (takeNum (b.take m) 0).2 < 0
  · rw [if_pos (Or.inl h1)]
  rw [takeNum_pre b m 0 (by omega)] at e
  by_cases h2 : (takeNum (b.take m) 0).2 < 0 ∨ ¬ (0 ≤ (takeNum (b.take m) 0).1 ∧ (takeNum (b.take m) 0).1 ≤ 300)
  · rw [if_pos h2]
  rw [if_neg h2] at e ⊢
  apply Decidable.byContradiction
  intro hne
  rw [numsFrom_pre b m _ _ _ hne] at e
  have := numsFrom_le (b.take m) (takeNum (b.take m) 0).1.toNat [] (takeNum (b.take m) 0).2 (takeNum_lo _ _).2
  rw [e] at this
  simp only at this
  omega
theorem takeWord_put {s : ByteArray} (h : wordOk s = true) : takeWord (putWord s) 0 = (s, ((putWord s).length : Int)) := by
  have hs := wordOk_size h
  have hp : putWord s = putNum s.size ++ bytesOf s := by unfold putWord; rw [if_pos h]
  have hn : isNumB (s.size : Int) = true := by rw [isNumB_eq]; exact decide_eq_true (by omega)
  have e := takeNum_put [] (bytesOf s) (s.size : Int) hn
  simp only [List.nil_append, List.length_nil, Int.natCast_zero, Int.zero_add] at e
  rw [← hp] at e
  have hlen : (putWord s).length = (putNum (s.size : Int)).length + s.size := by rw [hp, List.length_append, bytesOf_length]
  have hcut : cutB (putWord s) ((putNum (s.size : Int)).length : Int) (s.size : Int) = s := by
    unfold cutB
    rw [show (((putNum (s.size : Int)).length : Int) + (s.size : Int)).toNat = (putWord s).length by omega, List.take_length, hp, Int.toNat_natCast, List.drop_left]
    exact strOf_bytesOf s
  unfold takeWord
  rw [e]
  simp only
  rw [hcut, if_pos ⟨by omega, by omega, by omega, h⟩]
  rw [show ((putNum (s.size : Int)).length : Int) + (s.size : Int) = ((putWord s).length : Int) by omega]
theorem unframe_frame {b : List Int} (hb : Bytes b) (hl : b.length ≤ 4000) : unframe (frameB b) = (b, true) := by
  have hn : isNumB (b.length : Int) = true := by rw [isNumB_eq]; exact decide_eq_true (by omega)
  have e := takeNum_put [80, 83] (b ++ putNum (checkOf b)) (b.length : Int) hn
  have e1 : takeNum (frameB b) 2 = ((b.length : Int), (2 : Int) + ((putNum (b.length : Int)).length : Int)) := e
  have hlen : (frameB b).length = 2 + (putNum (b.length : Int)).length + b.length + (putNum (checkOf b)).length := by
    simp only [frameB, List.length_append, List.length_cons, List.length_nil]; omega
  have hbody : bodyF (frameB b) = b := by
    unfold bodyF
    rw [e1]
    simp only
    have x1 : frameB b = ([80, 83] ++ putNum (b.length : Int)) ++ (b ++ putNum (checkOf b)) := by simp [frameB]
    have x2 : frameB b = (([80, 83] ++ putNum (b.length : Int)) ++ b) ++ putNum (checkOf b) := by simp [frameB]
    rw [show (2 + ((putNum (b.length : Int)).length : Int) + (b.length : Int)).toNat = (([80, 83] ++ putNum (b.length : Int)) ++ b).length by simp only [List.length_append, List.length_cons, List.length_nil]; omega]
    rw [x2, List.take_left]
    rw [show (2 + ((putNum (b.length : Int)).length : Int)).toNat = ([80, 83] ++ putNum (b.length : Int)).length by simp only [List.length_append, List.length_cons, List.length_nil]; omega, List.drop_left]
  have hok : unOk (frameB b) = true := by
    unfold unOk
    rw [decide_eq_true_eq, e1, hbody]
    simp only
    exact ⟨by simp [frameB], by omega, by omega, by omega, by omega, trivial⟩
  unfold unframe
  rw [if_pos hok, hbody]
theorem unframe_bent {b : List Int} {c : List Int} (h : (unframe c).2 = true) (hne : c ≠ frameB b) : (unframe c).1 ≠ b := by
  unfold unframe at h ⊢
  by_cases hk : unOk c = true
  · rw [if_pos hk]
    intro he
    have he' : bodyF c = b := he
    unfold unOk at hk
    rw [decide_eq_true_eq] at hk
    exact hne (by rw [← he']; exact hk.2.2.2.2.2.symm)
  · rw [if_neg hk] at h; exact absurd h (by decide)
theorem xor_byte (x y : Int) (hx : 0 ≤ x ∧ x ≤ 255) (hy : 1 ≤ y ∧ y ≤ 255) : (0 ≤ Go.bits .xor .u8 x y ∧ Go.bits .xor .u8 x y ≤ 255) ∧ Go.bits .xor .u8 x y ≠ x := by
  obtain ⟨a, rfl⟩ : ∃ a : Nat, x = a := ⟨x.toNat, by omega⟩
  obtain ⟨c, rfl⟩ : ∃ a : Nat, y = a := ⟨y.toNat, by omega⟩
  have e : Go.bits .xor .u8 (a : Int) (c : Int) = ((a ^^^ c : Nat) : Int) := by
    have hlt : a ^^^ c < 2 ^ 8 := Nat.xor_lt_two_pow (by omega) (by omega)
    show IntKind.u8.wrap ((((BitVec.ofInt 8 (a : Int)) ^^^ (BitVec.ofInt 8 (c : Int))).toNat : Nat) : Int) = _
    rw [BitVec.toNat_xor, BitVec.ofInt_natCast, BitVec.ofInt_natCast, BitVec.toNat_ofNat, BitVec.toNat_ofNat, Nat.mod_eq_of_lt (show a < 2 ^ 8 by omega), Nat.mod_eq_of_lt (show c < 2 ^ 8 by omega), IntKind.wrap_u8]
    omega
  have hlt : a ^^^ c < 256 := Nat.xor_lt_two_pow (n := 8) (by omega) (by omega)
  rw [e]
  refine ⟨by omega, fun h => ?_⟩
  have h2 : a ^^^ c = a := by omega
  have h3 : a ^^^ (a ^^^ c) = c := by rw [← Nat.xor_assoc, Nat.xor_self, Nat.zero_xor]
  rw [h2, Nat.xor_self] at h3
  omega

theorem wires_j2 (l body : List Int) (hb : Bytes l) (hc : l.length ≤ 1048576) (hB : Bytes body) (hl : body.length ≤ 5000) : Ev (fun k => laws_FnWires.j2 k l body (frame body).1 (frame body).2 false) true := by
  apply Ev.step
  · intro k; rw [laws_FnWires.j2]
  simp only [if_neg Bool.false_ne_true]
  unfold frame
  by_cases h4 : body.length ≤ 4000
  · simp only [if_pos h4, if_true]
    have hF : Bytes (frameB body) := Bytes_app (Bytes_app Bytes_nil (fun x hx => by rcases List.mem_cons.1 hx with rfl | hx; · omega
                                                                                    · rw [List.mem_singleton] at hx; omega)) (Bytes_app (Bytes_put _) (Bytes_app hB (Bytes_put _)))
    have hFl := frameB_length body
    have hF0 : 2 ≤ (frameB body).length := by simp [frameB]
    refine Ev.bind (ev_impl_Unframe (frameB body) hF (by omega)) ?_
    rw [unframe_frame hB h4]
    simp only [Option.bind_some, List.length_nil, List.nil_append, Nat.zero_add, if_pos (show (frameB body).length < 140737488355328 by omega)]
    obtain ⟨a0, e0, p0, q0⟩ := at_some l hb 0 (by omega) (by omega) (by omega)
    obtain ⟨a1, e1, p1, q1⟩ := at_some l hb 1 (by omega) (by omega) (by omega)
    obtain ⟨a2, e2, p2, q2⟩ := at_some l hb 2 (by omega) (by omega) (by omega)
    have hm0 : 0 ≤ a0 * (1 + a1) := Int.mul_nonneg p0 (by omega)
    have hm1 : a0 * (1 + a1) ≤ 255 * 256 := Int.mul_le_mul q0 (by omega) (by omega) (by omega)
    simp only [e0, e1, e2, Option.bind_some, w64 (x := 1 + a1) (by omega), w64 (x := a0 * (1 + a1)) (by omega), if_neg (show ¬ ((frameB body).length : Int) = 0 by omega)]
    have hk0 : 0 ≤ Int.tmod (a0 * (1 + a1)) ((frameB body).length : Int) := by rw [tmod_nn hm0]; exact Int.emod_nonneg _ (by omega)
    have hk1 : Int.tmod (a0 * (1 + a1)) ((frameB body).length : Int) < ((frameB body).length : Int) := by rw [tmod_nn hm0]; exact Int.emod_lt_of_pos _ (by omega)
    generalize Int.tmod (a0 * (1 + a1)) ((frameB body).length : Int) = kk at hk0 hk1 ⊢
    simp only [if_pos hk0, if_pos hk1]
    have hy0 : 0 ≤ Int.tmod a2 255 := by rw [tmod_nn p2]; omega
    have hy1 : Int.tmod a2 255 ≤ 254 := by rw [tmod_nn p2]; omega
    rw [w64 (x := 1 + Int.tmod a2 255) (by omega)]
    generalize hy : (1 + Int.tmod a2 255) % 256 = y
    have hxb := xor_byte (rd (frameB body) kk) y (Bytes_rd hF kk) (by omega)
    generalize Go.bits .xor .u8 (rd (frameB body) kk) y = z at hxb ⊢
    have hBB : Bytes ((frameB body).set kk.toNat z) := by
      intro x hx
      rcases List.mem_or_eq_of_mem_set hx with h | h
      · exact hF x h
      · rw [h]; exact hxb.1
    have hne : (frameB body).set kk.toNat z ≠ frameB body := by
      intro h
      have h1 : rd ((frameB body).set kk.toNat z) (kk.toNat : Int) = rd (frameB body) (kk.toNat : Int) := by rw [h]
      rw [rd_set_self _ _ _ (by omega), show ((kk.toNat : Nat) : Int) = kk by omega] at h1
      exact hxb.2 h1
    refine Ev.bind (ev_impl_Unframe ((frameB body).set kk.toNat z) hBB (by rw [List.length_set]; omega)) ?_
    refine Ev.bind (ev_sameBytes body body (by omega)) ?_
    simp only [decide_true, if_true]
    have hul := unframe_length ((frameB body).set kk.toNat z)
    rw [List.length_set] at hul
    by_cases ht : (unframe ((frameB body).set kk.toNat z)).2 = true
    · simp only [if_pos ht]
      have := unframe_bent ht hne
      refine Ev.bind (ev_sameBytes _ body (by omega)) ?_
      simp only [decide_eq_false this, Bool.not_false]
      exact Ev.now _
    · simp only [if_neg ht]
      exact Ev.now _
  · simp only [if_neg h4, if_neg Bool.false_ne_true]
    exact Ev.now _
theorem wires_j1 (l : List Int) (hb : Bytes l) (hc : l.length ≤ 1048576) : Ev (fun k => laws_FnWires.j1 k l) true := by
  obtain ⟨m, e1, hm⟩ := ev_alt l 2 (by omega)
  obtain ⟨body, e2, hl, hB⟩ := dr_frame m hm
  apply Ev.step
  · intro k; rw [laws_FnWires.j1]
  refine Ev.bind e1 ?_
  refine Ev.bind e2 ?_
  refine Ev.bind (ev_impl_Frame body hB (by omega)) ?_
  refine Ev.bind (ev_spec_Frame body hB (by omega)) ?_
  simp only [bne_self_eq_false, if_neg Bool.false_ne_true]
  have := frame_length body
  refine Ev.bind (ev_sameBytes (frame body).1 (frame body).1 (by omega)) ?_
  simp only [decide_true, Bool.not_true]
  exact wires_j2 l body hb hc hB hl
theorem wires_j0 (l : List Int) (hb : Bytes l) (hc : l.length ≤ 1048576) : Ev (fun k => laws_FnWires.j0 k l) true := by
  obtain ⟨m, e1, hm⟩ := ev_alt l 1 (by omega)
  obtain ⟨s, e2, hs⟩ := dr_word m hm
  have J1 := wires_j1 l hb hc
  apply Ev.step
  · intro k; rw [laws_FnWires.j0]
  refine Ev.bind e1 ?_
  refine Ev.bind e2 ?_
  refine Ev.bind (ev_impl_PutWord s (by omega)) ?_
  refine Ev.bind (ev_spec_WordOk s (by omega)) ?_
  by_cases hw : wordOk s = true
  · have hw0 := wordOk_size hw
    have hp : 0 < (putWord s).length := by unfold putWord; rw [if_pos hw, List.length_append, bytesOf_length]; omega
    simp only [hw, decide_eq_true (show ((putWord s).length : Int) > 0 by omega), bne_self_eq_false, if_neg Bool.false_ne_true, if_pos (show ((putWord s).length : Int) > 0 by omega)]
    have := putWord_len s
    refine Ev.bind (ev_impl_TakeWord (putWord s) (Bytes_putWord s) (by omega) 0 (by omega)) ?_
    simp only [takeWord_put hw, if_true]
    exact J1
  · have hp : putWord s = [] := by unfold putWord; rw [if_neg hw]
    simp only [Bool.eq_false_iff.2 hw, hp, List.length_nil]
    simpa using J1
theorem holds : ∀ (l0 : List (Int)), (l0.length ≤ 9223372036854775807 ∧ ∀ yl0 ∈ l0, (Lit.int .u8 yl0).wf = true) → ∃ k, laws_FnWires.f k l0 = some true := by
  intro l hl
  have hb := Bytes_of hl.2
  apply Ev.ex
  simp only [laws_FnWires.f, laws_big.f, Option.bind_some]
  by_cases hbig : (l.length : Int) > 1048576
  · simp only [decide_eq_true hbig, if_true]; exact Ev.now _
  simp only [decide_eq_false hbig, if_neg Bool.false_ne_true]
  have hc : l.length ≤ 1048576 := by omega
  obtain ⟨xs, e1, n1⟩ := dr_putNums l (by omega)
  have hpl := putNums_len xs
  have J0 := wires_j0 l hb hc
  refine Ev.bind e1 ?_
  refine Ev.bind (ev_impl_PutNums xs) ?_
  refine Ev.bind (ev_spec_PutNums xs) ?_
  refine Ev.bind (ev_sameBytes (putNums xs) (putNums xs) (by omega)) ?_
  simp only [decide_true, if_true]
  by_cases hp : putNums xs = []
  · simp only [hp, List.length_nil]
    simpa using J0
  · have hpos : 0 < (putNums xs).length := List.length_pos_iff.2 hp
    have hB := Bytes_putNums xs
    simp only [if_pos (show ((putNums xs).length : Int) > 0 by omega)]
    refine Ev.bind (ev_impl_TakeNums (putNums xs) hB (by omega) 0 (by omega)) ?_
    simp only [takeNums_put hp, w64 (x := ((putNums xs).length : Int) - 1) (by omega), if_pos (show (0 : Int) ≤ ((putNums xs).length : Int) - 1 by omega), if_pos (show ((putNums xs).length : Int) - 1 ≤ ((putNums xs).length : Int) by omega), show (((putNums xs).length : Int) - 1).toNat = (putNums xs).length - 1 by omega]
    refine Ev.bind (ev_impl_TakeNums ((putNums xs).take ((putNums xs).length - 1)) (fun x hx => hB x (List.mem_of_mem_take hx)) (by rw [List.length_take]; omega) 0 (by omega)) ?_
    simp only [if_true, takeNums_cut hp]
    refine Ev.bind (ev_same xs xs (by omega)) ?_
    simp only [decide_true, if_true]
    exact J0

end EFnWires
open Go.RowKit Go.Proofs.YtbdfidnldaghbaaW.PrintWords Go.Proofs.YtbdfidnldaghbaaW.PrintLast Go.Proofs.YtbdfidnldaghbaaW.PrintMore Go.Proofs.Ytbdfidnldaghbaa.Lib Go.Proofs.Ytbdfidnldaghbaa.Q
theorem FnWires : ∀ (l0 : List (Int)), (l0.length ≤ 9223372036854775807 ∧ ∀ yl0 ∈ l0, (Lit.int .u8 yl0).wf = true) → ∃ k, laws_FnWires.f k l0 = some true := EFnWires.holds
end Go.Proofs.Ytbdfidnldaghbaa.Pure
