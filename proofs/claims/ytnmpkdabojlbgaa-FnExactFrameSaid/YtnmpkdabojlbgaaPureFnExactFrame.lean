/- Of every list of bytes: the program's Frame gives what the reference's Frame gives, in new memory of its own, and its argument stays as it was. -/
import Derived.Test.YtnmpkdabojlbgaaQmFnExactFrame
import Derived.Test.YtnmpkdabojlbgaaShapes
import Derived.Test.YtnmpkdabojlbgaaLib
set_option linter.unusedVariables false
set_option linter.unusedSimpArgs false
namespace Go.Proofs.Ytnmpkdabojlbgaa.Pure
namespace EFnExactFrame
open Go.RowKit Go.Proofs.YtnmpkdabojlbgaaW.PrintWords Go.Proofs.YtnmpkdabojlbgaaW.PrintLast Go.Proofs.YtnmpkdabojlbgaaW.PrintMore Go.Proofs.Ytnmpkdabojlbgaa.Lib Go.Proofs.Ytnmpkdabojlbgaa.Q

theorem ev_impl_CheckOf_l0 (b : List Int) (hb : Bytes b) (hl : b.length ≤ 1099511627776) : ∀ (d i : Nat), i + d = b.length → Ev (fun k => impl_CheckOf.l0 k (checkTo b i) b (b.length : Int) i) (checkOf b) := by
  intro d
  induction d with
  | zero =>
    intro i h
    obtain rfl : i = b.length := by omega
    apply Ev.step
    · intro k; rw [impl_CheckOf.l0]
    simp only [if_neg (show ¬ ((b.length : Int) < b.length) by omega)]
    exact Ev.now _
  | succ d ih =>
    intro i h
    have ih' := ih (i + 1) (by omega)
    have hc := checkTo_range b i
    have hr := Bytes_rd hb i
    apply Ev.step
    · intro k; rw [impl_CheckOf.l0]
    simp only [if_pos (show (i : Int) < b.length by omega), if_pos (show (0 : Int) ≤ i by omega), w64 (x := (i : Int) + 1) (by omega), w64 (x := rd b i) (by omega), w64 (x := 269 * checkTo b i) (by omega), w64 (x := 269 * checkTo b i + rd b i) (by omega), tmod_nn (show 0 ≤ 269 * checkTo b i + rd b i by omega)]
    exact ih'
theorem ev_impl_CheckOf (b : List Int) (hb : Bytes b) (hl : b.length ≤ 1099511627776) : Ev (fun k => impl_CheckOf.f k b) (checkOf b) :=
  ev_impl_CheckOf_l0 b hb hl b.length 0 (by omega)

theorem impl_in_eq (a b c : Int) : impl_in.f a b c = some (decide (b ≤ a ∧ a ≤ c)) := by
  unfold impl_in.f
  by_cases h : b ≤ a
  · rw [if_pos h]; simp [h]
  · rw [if_neg (show ¬ a ≥ b from h)]; simp [h]

theorem impl_isNum_eq (a : Int) : impl_isNum.f a = some (isNumB a) := by
  unfold impl_isNum.f; rw [impl_in_eq]; rfl

theorem ev_impl_PutNum_l0 (n : Int) (h : 0 ≤ n ∧ n < 2097152) : Ev (fun k => impl_PutNum.l0 k n []) (groups n) := by
  unfold groups
  by_cases h1 : n < 128
  · apply Ev.step
    · intro k; rw [impl_PutNum.l0]
    simp only [if_neg (show ¬ n ≥ 128 by omega), if_pos h1, List.length_nil, List.nil_append]
    exact Ev.const (by simp; omega)
  · apply Ev.step
    · intro k; rw [impl_PutNum.l0]
    simp only [if_pos (show n ≥ 128 by omega), if_neg h1, List.length_nil, List.nil_append, tmod_nn h.1, tdiv_nn h.1, w64 (x := n % 128 + 128) (by omega), w64 (x := n / 128) (by omega), show (n % 128 + 128) % 256 = n % 128 + 128 by omega]
    simp only [show (0 : Nat) < 140737488355328 by omega, if_true]
    by_cases h2 : n < 16384
    · apply Ev.step
      · intro k; rw [impl_PutNum.l0]
      simp only [if_neg (show ¬ n / 128 ≥ 128 by omega), if_pos h2, List.length_cons, List.length_nil]
      exact Ev.const (by simp; omega)
    · apply Ev.step
      · intro k; rw [impl_PutNum.l0]
      simp only [if_pos (show n / 128 ≥ 128 by omega), if_neg h2, List.length_cons, List.length_nil, tmod_nn (show 0 ≤ n / 128 by omega), tdiv_nn (show 0 ≤ n / 128 by omega), w64 (x := n / 128 % 128 + 128) (by omega), w64 (x := n / 128 / 128) (by omega), show (n / 128 % 128 + 128) % 256 = n / 128 % 128 + 128 by omega]
      simp only [show (0 + 1 : Nat) < 140737488355328 by omega, if_true, List.cons_append, List.nil_append]
      apply Ev.step
      · intro k; rw [impl_PutNum.l0]
      simp only [if_neg (show ¬ n / 128 / 128 ≥ 128 by omega), List.length_cons, List.length_nil]
      exact Ev.const (by simp; omega)
theorem ev_impl_PutNum (x : Int) : Ev (fun k => impl_PutNum.f k x) (putNum x) := by
  unfold putNum
  simp only [impl_PutNum.f, impl_isNum_eq, Option.bind_some]
  by_cases h : isNumB x = true
  · have hz := zig_range h
    have hb : -1000000 ≤ x ∧ x ≤ 1000000 := by simpa [isNumB] using h
    simp only [h, if_true]
    unfold zig at hz ⊢
    by_cases h0 : x < 0
    · simp only [h0, if_true] at hz ⊢
      apply Ev.step
      · intro k; rw [impl_PutNum.j0]
      simp only [w64 (x := -2 * x) (by omega), w64 (x := -2 * x - 1) (by omega)]
      exact ev_impl_PutNum_l0 _ (by omega)
    · simp only [h0, if_false] at hz ⊢
      apply Ev.step
      · intro k; rw [impl_PutNum.j0]
      simp only [w64 (x := 2 * x) (by omega)]
      exact ev_impl_PutNum_l0 _ (by omega)
  · simp only [h]
    exact Ev.now _

theorem concat_eq (k : Nat) (l : List (List Int)) (h : slices_Concat_byte_byte.sum l ≤ 35184372088832) : slices_Concat_byte_byte.f k l = some l.flatten := by
  unfold slices_Concat_byte_byte.f
  rw [if_pos h]

def frameB (b : List Int) : List Int := [80, 83] ++ (putNum b.length ++ (b ++ putNum (checkOf b)))
def frame (b : List Int) : List Int × Bool := if b.length ≤ 4000 then (frameB b, true) else ([], false)
theorem Bytes_app {a b : List Int} (ha : Bytes a) (hb : Bytes b) : Bytes (a ++ b) := fun x hx => (List.mem_append.1 hx).elim (ha x) (hb x)
theorem Bytes_put (x : Int) : Bytes (putNum x) := putNum_range x
theorem Bytes_nil : Bytes [] := fun x hx => by cases hx
theorem frameB_length (b : List Int) : (frameB b).length ≤ b.length + 8 := by
  have := putNum_length (b.length : Int)
  have := putNum_length (checkOf b)
  simp [frameB]; omega
theorem frame_length (b : List Int) : (frame b).1.length ≤ b.length + 8 := by
  unfold frame
  split
  · exact frameB_length b
  · simp
theorem checkOf_num (b : List Int) : isNumB (checkOf b) = true := by
  have := checkTo_range b b.length
  show decide _ = true
  rw [decide_eq_true_eq]
  unfold checkOf
  omega

theorem ev_impl_Frame (b : List Int) (hb : Bytes b) (hl : b.length ≤ 1048576) : Ev (fun k => impl_Frame.f k b) (frame b) := by
  simp only [impl_Frame.f, frame]
  have p1 := putNum_length (b.length : Int)
  have p2 := putNum_length (checkOf b)
  by_cases h : b.length ≤ 4000
  · simp only [if_neg (show ¬ (b.length : Int) > 4000 by omega), if_pos h]
    refine Ev.bind (ev_impl_PutNum _) ?_
    refine Ev.bind (ev_impl_CheckOf b hb (by omega)) ?_
    refine Ev.bind (ev_impl_PutNum _) ?_
    simp only [concat_eq _ [([80, 83] : List Int), putNum b.length, b, putNum (checkOf b)] (by simp [slices_Concat_byte_byte.sum]; omega), Option.bind_some]
    exact Ev.const (by simp [frameB])
  · simp only [if_pos (show (b.length : Int) > 4000 by omega), if_neg h]
    exact Ev.now _

theorem ev_eqByteS_l0 (x0 : List Int) (hl : x0.length ≤ 1099511627776) : ∀ (d : Nat) (i : Nat), i + d = x0.length → Ev (fun k => laws_eqByteS.l0 k x0 x0 i) true := by
  intro d
  induction d with
  | zero =>
    intro i h2
    apply Ev.step
    · intro k; rw [laws_eqByteS.l0]
    simp only [if_neg (show ¬ ((i : Int) < x0.length) by omega)]
    exact Ev.now _
  | succ d ih =>
    intro i h2
    apply Ev.step
    · intro k; rw [laws_eqByteS.l0]
    simp only [if_pos (show (i : Int) < x0.length by omega), if_pos (show (0 : Int) ≤ i by omega), if_true, w64 (x := (i : Int) + 1) (by omega)]
    have := ih (i + 1) (by omega)
    simpa using this
theorem ev_eqByteS (l : List Int) (h : l.length ≤ 1099511627776) : Ev (fun k => laws_eqByteS.f k l l) true := by
  simp only [laws_eqByteS.f, if_true]
  exact ev_eqByteS_l0 l h l.length 0 (by omega)

theorem ev_markByteS_l0 (a : Int) (n : Nat) (hn : n ≤ 1099511627776) (ha : 0 ≤ a ∧ a ≤ 1125899906842624) : ∀ (d : Nat) (x0 : List Int) (i : Nat), x0.length = n → i + d = n → (∀ j : Nat, j < i → rd x0 j = (a + j) % 256) →
    ∃ L : List Int, L.length = n ∧ (∀ j : Nat, j < n → rd L j = (a + j) % 256) ∧ Ev (fun k => laws_markByteS.l0 k x0 (a + i) i) (a + n, L) := by
  intro d
  induction d with
  | zero =>
    intro x0 i h1 h2 h3
    refine ⟨x0, h1, fun j hj => h3 j (by omega), ?_⟩
    apply Ev.step
    · intro k; rw [laws_markByteS.l0]
    obtain rfl : i = n := by omega
    simp only [if_neg (show ¬ ((i : Int) < x0.length) by omega)]
    exact Ev.now _
  | succ d ih =>
    intro x0 i h1 h2 h3
    obtain ⟨L, hL, hj, he⟩ := ih (x0.set i ((a + i) % 256)) (i + 1) (by simp [h1]) (by omega) (by
      intro j hj
      by_cases e : j = i
      · subst e; rw [rd_set_self _ _ _ (by omega)]
      · rw [rd_set_ne _ _ _ _ (Ne.symm e)]; exact h3 j (by omega))
    refine ⟨L, hL, hj, ?_⟩
    apply Ev.step
    · intro k; rw [laws_markByteS.l0]
    simp only [if_pos (show (i : Int) < x0.length by omega), if_pos (show (0 : Int) ≤ i by omega), w64 (x := (i : Int) + 1) (by omega), w64 (x := a + (i : Int) + 1) (by omega)]
    simpa [Int.add_assoc] using he
theorem ev_markByteS (l : List Int) (a : Int) (hn : l.length ≤ 1099511627776) (ha : 0 ≤ a ∧ a ≤ 1125899906842624) :
    ∃ L : List Int, L.length = l.length ∧ (∀ j : Nat, j < l.length → rd L j = (a + j) % 256) ∧ Ev (fun k => laws_markByteS.f k l a) (a + l.length, L) := by
  obtain ⟨L, h1, h2, h3⟩ := ev_markByteS_l0 a l.length hn ha l.length l 0 rfl (by omega) (by intro j hj; omega)
  exact ⟨L, h1, h2, by simpa [laws_markByteS.f] using h3⟩

theorem ev_heldByteS_l0 (a : Int) (ha : 0 ≤ a ∧ a ≤ 1125899906842624) (x0 : List Int) (hn : x0.length ≤ 1099511627776) (hj : ∀ j : Nat, j < x0.length → rd x0 j = (a + j) % 256) : ∀ (d : Nat) (i : Nat), i + d = x0.length → Ev (fun k => laws_heldByteS.l0 k x0 (a + i) i) (a + x0.length) := by
  intro d
  induction d with
  | zero =>
    intro i h2
    apply Ev.step
    · intro k; rw [laws_heldByteS.l0]
    obtain rfl : i = x0.length := by omega
    simp only [if_neg (show ¬ ((x0.length : Int) < x0.length) by omega)]
    exact Ev.now _
  | succ d ih =>
    intro i h2
    apply Ev.step
    · intro k; rw [laws_heldByteS.l0]
    simp only [if_pos (show (i : Int) < x0.length by omega), if_pos (show (0 : Int) ≤ i by omega), if_pos (hj i (by omega)), w64 (x := (i : Int) + 1) (by omega), w64 (x := a + (i : Int) + 1) (by omega)]
    have := ih (i + 1) (by omega)
    simpa [Int.add_assoc] using this
theorem ev_heldByteS (L : List Int) (a : Int) (hn : L.length ≤ 1099511627776) (ha : 0 ≤ a ∧ a ≤ 1125899906842624) (hj : ∀ j : Nat, j < L.length → rd L j = (a + j) % 256) : Ev (fun k => laws_heldByteS.f k L a) (a + L.length) := by
  have := ev_heldByteS_l0 a ha L hn hj L.length 0 (by omega)
  simpa [laws_heldByteS.f] using this
/-- What was marked is held. -/
theorem ev_byteS (l : List Int) (a : Int) (hn : l.length ≤ 1099511627776) (ha : 0 ≤ a ∧ a ≤ 1125899906842624) : ∃ L : List Int, L.length = l.length ∧ Ev (fun k => laws_markByteS.f k l a) (a + l.length, L) ∧ Ev (fun k => laws_heldByteS.f k L a) (a + l.length) := by
  obtain ⟨L, h1, h2, h3⟩ := ev_markByteS l a hn ha
  exact ⟨L, h1, h3, by have := ev_heldByteS L a (by omega) ha (by rw [h1]; exact h2); rwa [h1] at this⟩

theorem ev_toByteS_l0 (x0 : List Int) (hl : x0.length ≤ 1048576) : ∀ (d : Nat) (x3 : List Int) (i : Nat), x3.length = x0.length → i + d = x0.length → x3.take i = x0.take i → Ev (fun k => laws_toByteS.l0 k x0 x3 i) x0 := by
  intro d
  induction d with
  | zero =>
    intro x3 i h1 h2 h3
    apply Ev.step
    · intro k; rw [laws_toByteS.l0]
    simp only [if_neg (show ¬ ((i : Int) < x0.length) by omega)]
    rw [take_eq_all h1 (by omega) h3]
    exact Ev.now _
  | succ d ih =>
    intro x3 i h1 h2 h3
    apply Ev.step
    · intro k; rw [laws_toByteS.l0]
    simp only [if_pos (show (i : Int) < x0.length by omega), if_pos (show (0 : Int) ≤ i by omega), if_pos (show (i : Int) < x3.length by omega), w64 (x := (i : Int) + 1) (by omega)]
    have := ih (x3.set i (rd x0 i)) (i + 1) (by simp [h1]) (by omega) (take_set_at _ _ _ _ h1 (by omega) (rd_get _ _ (by omega)) h3)
    simpa using this
theorem ev_toByteS (l : List Int) (h : l.length ≤ 1048576) : Ev (fun k => laws_toByteS.f k l) l := by
  simp only [laws_toByteS.f, if_pos (show (0 : Int) ≤ l.length by omega), if_pos (show (l.length : Int).toNat ≤ 281474976710656 by omega)]
  exact ev_toByteS_l0 l h l.length _ 0 (by simp) (by omega) (by simp)

theorem ev_spec_CheckOf_l0 (b : List Int) (hb : Bytes b) (hl : b.length ≤ 1099511627776) : ∀ (d i : Nat), i + d = b.length → Ev (fun k => spec_CheckOf.l0 k b (checkTo b i) i) (checkOf b) := by
  intro d
  induction d with
  | zero =>
    intro i h
    obtain rfl : i = b.length := by omega
    apply Ev.step
    · intro k; rw [spec_CheckOf.l0]
    simp only [if_neg (show ¬ ((b.length : Int) < b.length) by omega)]
    exact Ev.now _
  | succ d ih =>
    intro i h
    have ih' := ih (i + 1) (by omega)
    have hc := checkTo_range b i
    have hr := Bytes_rd hb i
    apply Ev.step
    · intro k; rw [spec_CheckOf.l0]
    simp only [if_pos (show (i : Int) < b.length by omega), if_pos (show (0 : Int) ≤ i by omega), w64 (x := (i : Int) + 1) (by omega), w64 (x := rd b i) (by omega), w64 (x := 269 * checkTo b i) (by omega), w64 (x := 269 * checkTo b i + rd b i) (by omega), tmod_nn (show 0 ≤ 269 * checkTo b i + rd b i by omega)]
    exact ih'
theorem ev_spec_CheckOf (b : List Int) (hb : Bytes b) (hl : b.length ≤ 1099511627776) : Ev (fun k => spec_CheckOf.f k b) (checkOf b) :=
  ev_spec_CheckOf_l0 b hb hl b.length 0 (by omega)

theorem spec_l01In_eq (a b c : Int) : spec_l01In.f a b c = some (decide (b ≤ a ∧ a ≤ c)) := by
  unfold spec_l01In.f
  by_cases h : b ≤ a
  · rw [if_pos h]; simp [h]
  · rw [if_neg h]; simp [h]

theorem spec_l01Number_eq (a : Int) : spec_l01Number.f a = some (isNumB a) := by
  unfold spec_l01Number.f; rw [spec_l01In_eq]; rfl

theorem ev_spec_PutNum_l0 (n : Int) (h : 0 ≤ n ∧ n < 2097152) : Ev (fun k => spec_PutNum.l0 k [] n) (groups n) := by
  unfold groups
  by_cases h1 : n < 128
  · apply Ev.step
    · intro k; rw [spec_PutNum.l0]
    simp only [if_neg (show ¬ n ≥ 128 by omega), if_pos h1, List.length_nil, List.nil_append]
    exact Ev.const (by simp; omega)
  · apply Ev.step
    · intro k; rw [spec_PutNum.l0]
    simp only [if_pos (show n ≥ 128 by omega), if_neg h1, List.length_nil, List.nil_append, tmod_nn h.1, tdiv_nn h.1, w64 (x := 128 + n % 128) (by omega), w64 (x := n / 128) (by omega), show (128 + n % 128) % 256 = n % 128 + 128 by omega]
    simp only [show (0 : Nat) < 140737488355328 by omega, if_true]
    by_cases h2 : n < 16384
    · apply Ev.step
      · intro k; rw [spec_PutNum.l0]
      simp only [if_neg (show ¬ n / 128 ≥ 128 by omega), if_pos h2, List.length_cons, List.length_nil]
      exact Ev.const (by simp; omega)
    · apply Ev.step
      · intro k; rw [spec_PutNum.l0]
      simp only [if_pos (show n / 128 ≥ 128 by omega), if_neg h2, List.length_cons, List.length_nil, tmod_nn (show 0 ≤ n / 128 by omega), tdiv_nn (show 0 ≤ n / 128 by omega), w64 (x := 128 + n / 128 % 128) (by omega), w64 (x := n / 128 / 128) (by omega), show (128 + n / 128 % 128) % 256 = n / 128 % 128 + 128 by omega]
      simp only [show (0 + 1 : Nat) < 140737488355328 by omega, if_true, List.cons_append, List.nil_append]
      apply Ev.step
      · intro k; rw [spec_PutNum.l0]
      simp only [if_neg (show ¬ n / 128 / 128 ≥ 128 by omega), List.length_cons, List.length_nil]
      exact Ev.const (by simp; omega)
theorem ev_spec_PutNum (x : Int) : Ev (fun k => spec_PutNum.f k x) (putNum x) := by
  unfold putNum
  simp only [spec_PutNum.f, spec_l01Number_eq, Option.bind_some]
  by_cases h : isNumB x = true
  · have hz := zig_range h
    have hb : -1000000 ≤ x ∧ x ≤ 1000000 := by simpa [isNumB] using h
    simp only [h, if_true]
    unfold zig at hz ⊢
    by_cases h0 : x < 0
    · simp only [h0, if_true] at hz ⊢
      apply Ev.step
      · intro k; rw [spec_PutNum.j0]
      simp only [w64 (x := -2 * x) (by omega), w64 (x := -2 * x - 1) (by omega)]
      exact ev_spec_PutNum_l0 _ (by omega)
    · simp only [h0, if_false] at hz ⊢
      apply Ev.step
      · intro k; rw [spec_PutNum.j0]
      simp only [w64 (x := 2 * x) (by omega)]
      exact ev_spec_PutNum_l0 _ (by omega)
  · simp only [h]
    exact Ev.now _

theorem ev_spec_l01Bytes_l0 (b : List Int) (hl : b.length ≤ 1099511627776) : ∀ (d i : Nat), i + d = b.length → Ev (fun k => spec_l01Bytes.l0 k b (b.take i) i) b := by
  intro d
  induction d with
  | zero =>
    intro i h
    obtain rfl : i = b.length := by omega
    apply Ev.step
    · intro k; rw [spec_l01Bytes.l0]
    simp only [if_neg (show ¬ ((b.length : Int) < b.length) by omega), List.take_length]
    exact Ev.now _
  | succ d ih =>
    intro i h
    have ih' := ih (i + 1) (by omega)
    apply Ev.step
    · intro k; rw [spec_l01Bytes.l0]
    simp only [if_pos (show (i : Int) < b.length by omega), if_pos (show (0 : Int) ≤ i by omega), w64 (x := (i : Int) + 1) (by omega), if_pos (show (b.take i).length < 140737488355328 by rw [List.length_take]; omega), take_rd b i (by omega)]
    exact ih'
theorem ev_spec_l01Bytes (b : List Int) (hl : b.length ≤ 1099511627776) : Ev (fun k => spec_l01Bytes.f k b) b := by
  have := ev_spec_l01Bytes_l0 b hl b.length 0 (by omega)
  simpa [spec_l01Bytes.f] using this

theorem ev_spec_l01Join_l0 (a b : List Int) (ha : a.length ≤ 1099511627776) (hl : b.length ≤ 1099511627776) : ∀ (d i : Nat), i + d = b.length → Ev (fun k => spec_l01Join.l0 k b (a ++ b.take i) i) (a ++ b) := by
  intro d
  induction d with
  | zero =>
    intro i h
    obtain rfl : i = b.length := by omega
    apply Ev.step
    · intro k; rw [spec_l01Join.l0]
    simp only [if_neg (show ¬ ((b.length : Int) < b.length) by omega), List.take_length]
    exact Ev.now _
  | succ d ih =>
    intro i h
    have ih' := ih (i + 1) (by omega)
    apply Ev.step
    · intro k; rw [spec_l01Join.l0]
    simp only [if_pos (show (i : Int) < b.length by omega), if_pos (show (0 : Int) ≤ i by omega), w64 (x := (i : Int) + 1) (by omega), if_pos (show (a ++ b.take i).length < 140737488355328 by rw [List.length_append, List.length_take]; omega), List.append_assoc, take_rd b i (by omega)]
    exact ih'
theorem ev_spec_l01Join (a b : List Int) (ha : a.length ≤ 1099511627776) (hl : b.length ≤ 1099511627776) : Ev (fun k => spec_l01Join.f k a b) (a ++ b) := by
  simp only [spec_l01Join.f]
  refine Ev.bind (ev_spec_l01Bytes a ha) ?_
  have := ev_spec_l01Join_l0 a b ha hl b.length 0 (by omega)
  simpa using this

theorem ev_spec_Frame (b : List Int) (hb : Bytes b) (hl : b.length ≤ 1048576) : Ev (fun k => spec_Frame.f k b) (frame b) := by
  simp only [spec_Frame.f, frame]
  have p1 := putNum_length (b.length : Int)
  have p2 := putNum_length (checkOf b)
  by_cases h : b.length ≤ 4000
  · simp only [if_neg (show ¬ (b.length : Int) > 4000 by omega), if_pos h]
    refine Ev.bind (ev_spec_PutNum _) ?_
    refine Ev.bind (ev_spec_l01Join _ _ (by simp) (by omega)) ?_
    refine Ev.bind (ev_spec_l01Join _ _ (by simp; omega) (by omega)) ?_
    refine Ev.bind (ev_spec_CheckOf b hb (by omega)) ?_
    refine Ev.bind (ev_spec_PutNum _) ?_
    refine Ev.bind (ev_spec_l01Join _ _ (by simp; omega) (by omega)) ?_
    exact Ev.const (by simp [frameB])
  · simp only [if_pos (show (b.length : Int) > 4000 by omega), if_neg h]
    exact Ev.now _

theorem holds : ∀ (l0 : List (Int)), (l0.length ≤ 9223372036854775807 ∧ ∀ yl0 ∈ l0, (Lit.int .u8 yl0).wf = true) → ∃ k, laws_FnExactFrame.Facts k l0 := by
  intro b hl
  by_cases hs : (b.length : Int) > 1048576
  · exact ⟨0, .inl hs⟩
  have hb := Bytes_of hl.2
  have hel := frame_length b
  obtain ⟨L, hL, _, hm⟩ := ev_markByteS b 1 (by omega) (by omega)
  obtain ⟨L2, hL2, hm2, hh2⟩ := ev_byteS (frame b).1 1 (by omega) (by omega)
  obtain ⟨k2, e2⟩ := ev_toByteS b (by omega)
  obtain ⟨k3, e3⟩ := ev_spec_Frame b hb (by omega)
  obtain ⟨k4, e4⟩ := ev_impl_Frame b hb (by omega)
  obtain ⟨k5, e5⟩ := ev_eqByteS (frame b).1 (by omega)
  obtain ⟨k6, e6⟩ := ev_eqByteS b (by omega)
  obtain ⟨k7, e7⟩ := hm
  obtain ⟨k8, e8⟩ := hm2
  obtain ⟨k9, e9⟩ := hh2
  let k := k2 + k3 + k4 + k5 + k6 + k7 + k8 + k9
  exact ⟨k, .inr ⟨b, (frame b).1, (frame b).2, _, L, _, L2, hs, e2 k (by omega), e3 k (by omega), e4 k (by omega), e5 k (by omega), e6 k (by omega), e7 k (by omega), by omega, e8 k (by omega), e9 k (by omega), by omega⟩⟩

end EFnExactFrame
open Go.RowKit Go.Proofs.YtnmpkdabojlbgaaW.PrintWords Go.Proofs.YtnmpkdabojlbgaaW.PrintLast Go.Proofs.YtnmpkdabojlbgaaW.PrintMore Go.Proofs.Ytnmpkdabojlbgaa.Lib Go.Proofs.Ytnmpkdabojlbgaa.Q
theorem FnExactFrame : ∀ (l0 : List (Int)), (l0.length ≤ 9223372036854775807 ∧ ∀ yl0 ∈ l0, (Lit.int .u8 yl0).wf = true) → ∃ k, laws_FnExactFrame.Facts k l0 := EFnExactFrame.holds
end Go.Proofs.Ytnmpkdabojlbgaa.Pure
