/- Of every list of bytes and every place: the program's TakeNums gives the list and the next place that the reference's TakeNums gives, the list in new memory of its own, and its argument stays as it was. -/
import Derived.Test.YtnmpkdabojlbgaaPFnExactTakeNumsx4
import Derived.Test.YtnmpkdabojlbgaaLib
set_option linter.unusedVariables false
set_option linter.unusedSimpArgs false
namespace Go.Proofs.Ytnmpkdabojlbgaa.Pure
namespace EFnExactTakeNums
open Go.RowKit Go.Proofs.Ytnmpkdabojlbgaa.PFnExactTakeNums Go.Proofs.YtnmpkdabojlbgaaW.PrintWords Go.Proofs.YtnmpkdabojlbgaaW.PrintLast Go.Proofs.YtnmpkdabojlbgaaW.PrintMore Go.Proofs.Ytnmpkdabojlbgaa.Lib

theorem ev_toByteS_l0 (x0 : List Int) (hl : x0.length ≤ 1048576) : ∀ (d : Nat) (x3 : List Int) (i : Nat), x3.length = x0.length → i + d = x0.length → x3.take i = x0.take i → Ev (fun k => laws_toByteS.l0 k x0 x3 i) x0 := by
  intro d
  induction d with
  | zero =>
    intro x3 i h1 h2 h3
    apply Ev.step
    · intro k; rw [laws_toByteS.l0]
    simp only [if_neg (show ¬ ((i : Int) < x0.length) by omega)]
    rw [take_eq_all h1 (by omega) h3]
    exact Ev.now _
  | succ d ih =>
    intro x3 i h1 h2 h3
    apply Ev.step
    · intro k; rw [laws_toByteS.l0]
    simp only [if_pos (show (i : Int) < x0.length by omega), if_pos (show (0 : Int) ≤ i by omega), if_pos (show (i : Int) < x3.length by omega), w64 (x := (i : Int) + 1) (by omega)]
    have := ih (x3.set i (rd x0 i)) (i + 1) (by simp [h1]) (by omega) (take_set_at _ _ _ _ h1 (by omega) (rd_get _ _ (by omega)) h3)
    simpa using this
theorem ev_toByteS (l : List Int) (h : l.length ≤ 1048576) : Ev (fun k => laws_toByteS.f k l) l := by
  simp only [laws_toByteS.f, if_pos (show (0 : Int) ≤ l.length by omega), if_pos (show (l.length : Int).toNat ≤ 281474976710656 by omega)]
  exact ev_toByteS_l0 l h l.length _ 0 (by simp) (by omega) (by simp)

theorem ev_eqByteS_l0 (x0 : List Int) (hl : x0.length ≤ 1099511627776) : ∀ (d : Nat) (i : Nat), i + d = x0.length → Ev (fun k => laws_eqByteS.l0 k x0 x0 i) true := by
  intro d
  induction d with
  | zero =>
    intro i h2
    apply Ev.step
    · intro k; rw [laws_eqByteS.l0]
    simp only [if_neg (show ¬ ((i : Int) < x0.length) by omega)]
    exact Ev.now _
  | succ d ih =>
    intro i h2
    apply Ev.step
    · intro k; rw [laws_eqByteS.l0]
    simp only [if_pos (show (i : Int) < x0.length by omega), if_pos (show (0 : Int) ≤ i by omega), if_true, w64 (x := (i : Int) + 1) (by omega)]
    have := ih (i + 1) (by omega)
    simpa using this
theorem ev_eqByteS (l : List Int) (h : l.length ≤ 1099511627776) : Ev (fun k => laws_eqByteS.f k l l) true := by
  simp only [laws_eqByteS.f, if_true]
  exact ev_eqByteS_l0 l h l.length 0 (by omega)

theorem ev_markByteS_l0 (a : Int) (n : Nat) (hn : n ≤ 1099511627776) (ha : 0 ≤ a ∧ a ≤ 1099511627776) : ∀ (d : Nat) (x0 : List Int) (i : Nat), x0.length = n → i + d = n → (∀ j : Nat, j < i → rd x0 j = (a + j) % 256) →
    ∃ L : List Int, L.length = n ∧ (∀ j : Nat, j < n → rd L j = (a + j) % 256) ∧ Ev (fun k => laws_markByteS.l0 k x0 (a + i) i) (a + n, L) := by
  intro d
  induction d with
  | zero =>
    intro x0 i h1 h2 h3
    refine ⟨x0, h1, fun j hj => h3 j (by omega), ?_⟩
    apply Ev.step
    · intro k; rw [laws_markByteS.l0]
    obtain rfl : i = n := by omega
    simp only [if_neg (show ¬ ((i : Int) < x0.length) by omega)]
    exact Ev.now _
  | succ d ih =>
    intro x0 i h1 h2 h3
    obtain ⟨L, hL, hj, he⟩ := ih (x0.set i ((a + i) % 256)) (i + 1) (by simp [h1]) (by omega) (by
      intro j hj
      by_cases e : j = i
      · subst e; rw [rd_set_self _ _ _ (by omega)]
      · rw [rd_set_ne _ _ _ _ (Ne.symm e)]; exact h3 j (by omega))
    refine ⟨L, hL, hj, ?_⟩
    apply Ev.step
    · intro k; rw [laws_markByteS.l0]
    simp only [if_pos (show (i : Int) < x0.length by omega), if_pos (show (0 : Int) ≤ i by omega), w64 (x := (i : Int) + 1) (by omega), w64 (x := a + (i : Int) + 1) (by omega)]
    simpa [Int.add_assoc] using he
theorem ev_markByteS (l : List Int) (a : Int) (hn : l.length ≤ 1099511627776) (ha : 0 ≤ a ∧ a ≤ 1099511627776) :
    ∃ L : List Int, L.length = l.length ∧ (∀ j : Nat, j < l.length → rd L j = (a + j) % 256) ∧ Ev (fun k => laws_markByteS.f k l a) (a + l.length, L) := by
  obtain ⟨L, h1, h2, h3⟩ := ev_markByteS_l0 a l.length hn ha l.length l 0 rfl (by omega) (by intro j hj; omega)
  exact ⟨L, h1, h2, by simpa [laws_markByteS.f] using h3⟩

theorem ev_eqIntS_l0 (x0 : List Int) (hl : x0.length ≤ 1099511627776) : ∀ (d : Nat) (i : Nat), i + d = x0.length → Ev (fun k => laws_eqIntS.l0 k x0 x0 i) true := by
  intro d
  induction d with
  | zero =>
    intro i h2
    apply Ev.step
    · intro k; rw [laws_eqIntS.l0]
    simp only [if_neg (show ¬ ((i : Int) < x0.length) by omega)]
    exact Ev.now _
  | succ d ih =>
    intro i h2
    apply Ev.step
    · intro k; rw [laws_eqIntS.l0]
    simp only [if_pos (show (i : Int) < x0.length by omega), if_pos (show (0 : Int) ≤ i by omega), if_true, w64 (x := (i : Int) + 1) (by omega)]
    have := ih (i + 1) (by omega)
    simpa using this
theorem ev_eqIntS (l : List Int) (h : l.length ≤ 1099511627776) : Ev (fun k => laws_eqIntS.f k l l) true := by
  simp only [laws_eqIntS.f, if_true]
  exact ev_eqIntS_l0 l h l.length 0 (by omega)

theorem ev_markIntS_l0 (a : Int) (n : Nat) (hn : n ≤ 1099511627776) (ha : 0 ≤ a ∧ a ≤ 1099511627776) : ∀ (d : Nat) (x0 : List Int) (i : Nat), x0.length = n → i + d = n → (∀ j : Nat, j < i → rd x0 j = a + j) →
    ∃ L : List Int, L.length = n ∧ (∀ j : Nat, j < n → rd L j = a + j) ∧ Ev (fun k => laws_markIntS.l0 k x0 (a + i) i) (a + n, L) := by
  intro d
  induction d with
  | zero =>
    intro x0 i h1 h2 h3
    refine ⟨x0, h1, fun j hj => h3 j (by omega), ?_⟩
    apply Ev.step
    · intro k; rw [laws_markIntS.l0]
    obtain rfl : i = n := by omega
    simp only [if_neg (show ¬ ((i : Int) < x0.length) by omega)]
    exact Ev.now _
  | succ d ih =>
    intro x0 i h1 h2 h3
    obtain ⟨L, hL, hj, he⟩ := ih (x0.set i (a + i)) (i + 1) (by simp [h1]) (by omega) (by
      intro j hj
      by_cases e : j = i
      · subst e; rw [rd_set_self _ _ _ (by omega)]
      · rw [rd_set_ne _ _ _ _ (Ne.symm e)]; exact h3 j (by omega))
    refine ⟨L, hL, hj, ?_⟩
    apply Ev.step
    · intro k; rw [laws_markIntS.l0]
    simp only [if_pos (show (i : Int) < x0.length by omega), if_pos (show (0 : Int) ≤ i by omega), w64 (x := (i : Int) + 1) (by omega), w64 (x := a + (i : Int) + 1) (by omega)]
    simpa [Int.add_assoc] using he
theorem ev_markIntS (l : List Int) (a : Int) (hn : l.length ≤ 1099511627776) (ha : 0 ≤ a ∧ a ≤ 1099511627776) :
    ∃ L : List Int, L.length = l.length ∧ (∀ j : Nat, j < l.length → rd L j = a + j) ∧ Ev (fun k => laws_markIntS.f k l a) (a + l.length, L) := by
  obtain ⟨L, h1, h2, h3⟩ := ev_markIntS_l0 a l.length hn ha l.length l 0 rfl (by omega) (by intro j hj; omega)
  exact ⟨L, h1, h2, by simpa [laws_markIntS.f] using h3⟩

theorem spec_l01In_eq (a b c : Int) : spec_l01In.f a b c = some (decide (b ≤ a ∧ a ≤ c)) := by
  unfold spec_l01In.f
  by_cases h : b ≤ a
  · rw [if_pos h]; simp [h]
  · rw [if_neg h]; simp [h]

theorem spec_l01Number_eq (a : Int) : spec_l01Number.f a = some (isNumB a) := by
  unfold spec_l01Number.f; rw [spec_l01In_eq]; rfl

theorem spec_fin (b : List Int) (hb : Bytes b) (hl : b.length ≤ 1048576) (p i u : Int) (n : Nat) (hp : 0 ≤ p) (hi : i = n) (hn : n ≤ 3) (hlt : p + i < b.length) (hu : 0 ≤ u ∧ u ≤ 2097152) (hv : rd b (p + i) < 128) :
    Ev (fun k => spec_TakeNum.j1 k b p u i false) (takeFin (u + rd b (p + i) * 2 ^ (7 * n)) (rd b (p + i)) i p) := by
  have hr := Bytes_rd hb (p + i)
  have e1 : wrap64 (p + i) = p + i := w64 (by omega)
  have e2 : IntKind.u64.wrap (wrap64 (7 * i)) = ((7 * n : Nat) : Int) := by rw [w64 (by omega), u64_small (by omega)]; omega
  have hpow : (2 : Int) ^ (7 * n) ≤ 2097152 ∧ 1 ≤ (2 : Int) ^ (7 * n) := by
    rcases (by omega : n = 0 ∨ n = 1 ∨ n = 2 ∨ n = 3) with e | e | e | e <;> subst e <;> decide
  have hm : 0 ≤ rd b (p + i) * 2 ^ (7 * n) ∧ rd b (p + i) * 2 ^ (7 * n) ≤ 266338304 := by
    rcases (by omega : n = 0 ∨ n = 1 ∨ n = 2 ∨ n = 3) with e | e | e | e <;> subst e <;> simp <;> omega
  have e3 : shl .i64 (rd b (p + i)) ((7 * n : Nat) : Int) = rd b (p + i) * 2 ^ (7 * n) := shl_i64 _ _ (7 * n) rfl (by omega) (by omega)
  generalize hm0 : rd b (p + i) * 2 ^ (7 * n) = m at *
  have e4 : wrap64 (rd b (p + i)) = rd b (p + i) := w64 (by omega)
  have e5 : Int.tmod (rd b (p + i)) 128 = rd b (p + i) := by rw [tmod_nn (by omega)]; omega
  apply Ev.step
  · intro k; rw [spec_TakeNum.j1]
  simp only [e1, e2, e4, e5, e3, if_pos (show (0 : Int) ≤ p + i by omega), if_pos hlt, if_pos (show (0 : Int) ≤ ((7 * n : Nat) : Int) by omega), if_neg (show ¬ rd b (p + i) ≥ 128 by omega), w64 (x := u + m) (by omega), tmod_nn (show 0 ≤ u + m by omega), spec_l01Number_eq, Option.bind_some, w64 (x := u + m + 1) (by omega), w64 (x := -(u + m + 1)) (by omega), tdiv_neg' (show 0 ≤ u + m + 1 by omega), tdiv_nn (show 0 ≤ u + m by omega), w64 (x := -((u + m + 1) / 2)) (by omega), w64 (x := (u + m) / 2) (by omega), w64 (x := p + i + 1) (by omega)]
  refine Ev.const ?_
  unfold takeFin
  by_cases h1 : (u + m) % 2 = 1
  · simp only [h1, if_true]
    by_cases h2 : rd b (p + i) = 0
    · by_cases h3 : 0 < i
      · simp [h2, h3]
      · simp [h2, h3]; split <;> simp_all
    · simp [h2]; split <;> simp_all
  · simp only [h1, if_false]
    by_cases h2 : rd b (p + i) = 0
    · by_cases h3 : 0 < i
      · simp [h2, h3]
      · simp [h2, h3]; split <;> simp_all
    · simp [h2]; split <;> simp_all
theorem spec_cont (b : List Int) (hb : Bytes b) (hl : b.length ≤ 1048576) (p i u : Int) (n : Nat) (r : Int × Int) (hp : 0 ≤ p) (hi : i = n) (hn : n ≤ 3) (hlt : p + i < b.length) (hu : 0 ≤ u ∧ u ≤ 2097152) (hv : ¬ rd b (p + i) < 128)
    (h : Ev (fun k => spec_TakeNum.l0 k b p (u + rd b (p + i) % 128 * 2 ^ (7 * n)) (i + 1)) r) :
    Ev (fun k => spec_TakeNum.j1 k b p u i false) r := by
  have hr := Bytes_rd hb (p + i)
  have e1 : wrap64 (p + i) = p + i := w64 (by omega)
  have e2 : IntKind.u64.wrap (wrap64 (7 * i)) = ((7 * n : Nat) : Int) := by rw [w64 (by omega), u64_small (by omega)]; omega
  have hm : 0 ≤ rd b (p + i) % 128 * 2 ^ (7 * n) ∧ rd b (p + i) % 128 * 2 ^ (7 * n) ≤ 266338304 := by
    rcases (by omega : n = 0 ∨ n = 1 ∨ n = 2 ∨ n = 3) with e | e | e | e <;> subst e <;> simp <;> omega
  have e3 : shl .i64 (rd b (p + i) % 128) ((7 * n : Nat) : Int) = rd b (p + i) % 128 * 2 ^ (7 * n) := shl_i64 _ _ (7 * n) rfl (by omega) (by omega)
  generalize hm0 : rd b (p + i) % 128 * 2 ^ (7 * n) = m at *
  have e4 : wrap64 (rd b (p + i)) = rd b (p + i) := w64 (by omega)
  have e5 : Int.tmod (rd b (p + i)) 128 = rd b (p + i) % 128 := tmod_nn (by omega)
  apply Ev.step
  · intro k; rw [spec_TakeNum.j1]
  simp only [e1, e2, e4, e5, e3, if_pos (show (0 : Int) ≤ p + i by omega), if_pos hlt, if_pos (show (0 : Int) ≤ ((7 * n : Nat) : Int) by omega), if_pos (show rd b (p + i) ≥ 128 by omega), w64 (x := u + m) (by omega), w64 (x := i + 1) (by omega)]
  exact h
theorem spec_head (b : List Int) (hl : b.length ≤ 1048576) (p i u : Int) (r : Int × Int) (hi : 0 ≤ i ∧ i < 4) (hr : p < 0 ∨ (b.length : Int) ≤ p + i → r = (0, -1))
    (h : ¬ (p < 0 ∨ (b.length : Int) ≤ p + i) → Ev (fun k => spec_TakeNum.j1 k b p u i false) r) : Ev (fun k => spec_TakeNum.l0 k b p u i) r := by
  apply Ev.step
  · intro k; rw [spec_TakeNum.l0]
  simp only [if_pos hi.2, w64 (x := (b.length : Int) - i) (by omega)]
  by_cases h0 : p < 0
  · simp only [if_pos h0]
    rw [hr (Or.inl h0)]
    apply Ev.step
    · intro k; rw [spec_TakeNum.j1]
    exact Ev.now _
  · simp only [if_neg h0]
    by_cases h1 : (b.length : Int) ≤ p + i
    · rw [hr (Or.inr h1)]
      apply Ev.step
      · intro k; rw [spec_TakeNum.j1]
      simp only [decide_eq_true (show p ≥ (b.length : Int) - i by omega), if_true]
      exact Ev.now _
    · simp only [decide_eq_false (show ¬ p ≥ (b.length : Int) - i by omega)]
      exact h (by omega)
theorem ev_spec_TakeNum (b : List Int) (hb : Bytes b) (hl : b.length ≤ 1048576) (p : Int) : Ev (fun k => spec_TakeNum.f k b p) (takeNum b p) := by
  have r0 := Bytes_rd hb p
  have r1 := Bytes_rd hb (p + 1)
  have r2 := Bytes_rd hb (p + 2)
  have r3 := Bytes_rd hb (p + 3)
  simp only [spec_TakeNum.f]
  refine spec_head b hl p 0 0 _ (by omega) (fun h => ?_) (fun h => ?_)
  · unfold takeNum; rw [if_pos (by omega)]
  have hg : ¬ (p < 0 ∨ (b.length : Int) ≤ p) := by omega
  rw [takeNum, if_neg hg]
  by_cases h0 : rd b p < 128
  · rw [if_pos h0]
    have := spec_fin b hb hl p 0 0 0 (by omega) rfl (by omega) (by omega) (by omega) (by simpa using h0)
    simpa using this
  rw [if_neg h0]
  refine spec_cont b hb hl p 0 0 0 _ (by omega) rfl (by omega) (by omega) (by omega) (by simpa using h0) ?_
  simp only [Int.add_zero, Int.zero_add, Nat.mul_zero, Int.pow_zero, Int.mul_one]
  refine spec_head b hl p 1 _ _ (by omega) (fun h => ?_) (fun h => ?_)
  · rw [if_pos (by omega)]
  rw [if_neg (by omega)]
  by_cases h1 : rd b (p + 1) < 128
  · rw [if_pos h1]
    have := spec_fin b hb hl p 1 (rd b p % 128) 1 (by omega) rfl (by omega) (by omega) (by omega) h1
    simpa using this
  rw [if_neg h1]
  refine spec_cont b hb hl p 1 (rd b p % 128) 1 _ (by omega) rfl (by omega) (by omega) (by omega) h1 ?_
  simp only [show (1 : Int) + 1 = 2 from rfl, show (2 : Int) ^ (7 * 1) = 128 from rfl]
  refine spec_head b hl p 2 _ _ (by omega) (fun h => ?_) (fun h => ?_)
  · rw [if_pos (by omega)]
  rw [if_neg (by omega)]
  by_cases h2 : rd b (p + 2) < 128
  · rw [if_pos h2]
    have := spec_fin b hb hl p 2 (rd b p % 128 + rd b (p + 1) % 128 * 128) 2 (by omega) rfl (by omega) (by omega) (by omega) h2
    simpa using this
  rw [if_neg h2]
  refine spec_cont b hb hl p 2 _ 2 _ (by omega) rfl (by omega) (by omega) (by omega) h2 ?_
  simp only [show (2 : Int) + 1 = 3 from rfl, show (2 : Int) ^ (7 * 2) = 16384 from rfl]
  refine spec_head b hl p 3 _ _ (by omega) (fun h => rfl) (fun h => ?_)
  by_cases h3 : rd b (p + 3) < 128
  · have := spec_fin b hb hl p 3 (rd b p % 128 + rd b (p + 1) % 128 * 128 + rd b (p + 2) % 128 * 16384) 3 (by omega) rfl (by omega) (by omega) (by omega) h3
    refine Ev.eq this ?_
    unfold takeFin
    rw [if_pos]
    by_cases h4 : rd b (p + 3) = 0
    · left; exact ⟨h4, by omega⟩
    · right
      rw [isNumB_eq, decide_eq_false_iff_not]
      simp only [show (2 : Int) ^ (7 * 3) = 2097152 from rfl]
      split <;> omega
  · refine spec_cont b hb hl p 3 _ 3 _ (by omega) rfl (by omega) (by omega) (by omega) h3 ?_
    apply Ev.step
    · intro k; rw [spec_TakeNum.l0]
    simp only [if_neg (show ¬ (3 : Int) + 1 < 4 by omega)]
    exact Ev.now _

theorem ev_spec_TakeNums_l0 (b : List Int) (hb : Bytes b) (hl : b.length ≤ 1048576) (m : Int) (hm : 0 ≤ m ∧ m ≤ 300) : ∀ (d : Nat) (acc : List Int) (p i : Int), 0 ≤ i → i + d = m → acc.length = i → p ≤ 9223372036854775807 → Ev (fun k => spec_TakeNums.l0 k b m p acc i) (numsFrom b d acc p) := by
  intro d
  induction d with
  | zero =>
    intro acc p i h0 h1 h2 h3
    apply Ev.step
    · intro k; rw [spec_TakeNums.l0]
    simp only [if_neg (show ¬ i < m by omega)]
    exact Ev.now _
  | succ d ih =>
    intro acc p i h0 h1 h2 h3
    have hn := takeNum_lo b p
    apply Ev.step
    · intro k; rw [spec_TakeNums.l0]
    simp only [if_pos (show i < m by omega)]
    refine Ev.bind (ev_spec_TakeNum b hb hl p) ?_
    rw [numsFrom]
    by_cases h4 : (takeNum b p).2 < 0
    · simp only [if_pos h4]; exact Ev.now _
    · simp only [if_neg h4, if_pos (show acc.length < 17592186044416 by omega), w64 (x := i + 1) (by omega)]
      exact ih _ _ _ (by omega) (by omega) (by simp; omega) (by omega)
theorem ev_spec_TakeNums (b : List Int) (hb : Bytes b) (hl : b.length ≤ 1048576) (p : Int) (hp : p ≤ 9223372036854775807) : Ev (fun k => spec_TakeNums.f k b p) (takeNums b p) := by
  have hn := takeNum_lo b p
  simp only [spec_TakeNums.f]
  refine Ev.bind (ev_spec_TakeNum b hb hl p) ?_
  unfold takeNums
  by_cases h0 : (takeNum b p).2 < 0
  · simp only [if_pos h0, if_pos (show (takeNum b p).2 < 0 ∨ _ from Or.inl h0)]
    apply Ev.step
    · intro k; rw [spec_TakeNums.j0]
    exact Ev.now _
  simp only [if_neg h0, spec_l01In_eq, Option.bind_some]
  by_cases h1 : 0 ≤ (takeNum b p).1 ∧ (takeNum b p).1 ≤ 300
  · rw [if_neg (by intro h; rcases h with h | h; exact h0 h; exact h h1)]
    apply Ev.step
    · intro k; rw [spec_TakeNums.j0]
    simp only [decide_eq_true h1, Bool.not_true, if_neg Bool.false_ne_true]
    exact ev_spec_TakeNums_l0 b hb hl _ h1 _ _ _ 0 (by omega) (by omega) (by simp) (by omega)
  · rw [if_pos (Or.inr h1)]
    apply Ev.step
    · intro k; rw [spec_TakeNums.j0]
    simp only [decide_eq_false h1, Bool.not_false, if_true]
    exact Ev.now _

theorem impl_in_eq (a b c : Int) : impl_in.f a b c = some (decide (b ≤ a ∧ a ≤ c)) := by
  unfold impl_in.f
  by_cases h : b ≤ a
  · rw [if_pos h]; simp [h]
  · rw [if_neg (show ¬ a ≥ b from h)]; simp [h]

theorem impl_isNum_eq (a : Int) : impl_isNum.f a = some (isNumB a) := by
  unfold impl_isNum.f; rw [impl_in_eq]; rfl

theorem impl_fin (b : List Int) (hb : Bytes b) (hl : b.length ≤ 1048576) (p q u s : Int) (hp : 0 ≤ p ∧ p ≤ q) (hlt : q < b.length) (hu : 0 ≤ u ∧ u ≤ 2097152) (hs : s = 1 ∨ s = 128 ∨ s = 16384) (hv : rd b q < 128) :
    Ev (fun k => impl_TakeNum.j1 k b p u s q true) (takeFin (u + rd b q * s) (rd b q) (q - p) p) := by
  have hr := Bytes_rd hb q
  have hm : 0 ≤ rd b q * s ∧ rd b q * s ≤ 266338304 := by
    rcases hs with e | e | e <;> subst e <;> omega
  generalize hm0 : rd b q * s = m at *
  have e5 : Int.tmod (rd b q) 128 = rd b q := by rw [tmod_nn (by omega)]; omega
  have e4 : wrap64 (rd b q) = rd b q := w64 (by omega)
  apply Ev.step
  · intro k; rw [impl_TakeNum.j1]
  simp only [e5, e4, hm0, w64 (x := m) (by omega), if_true, if_pos (show (0 : Int) ≤ q by omega), if_pos hlt, if_neg (show ¬ rd b q ≥ 128 by omega), w64 (x := u + m) (by omega), tmod_nn (show 0 ≤ u + m by omega), impl_isNum_eq, Option.bind_some, w64 (x := u + m + 1) (by omega), w64 (x := -(u + m + 1)) (by omega), tdiv_neg' (show 0 ≤ u + m + 1 by omega), tdiv_nn (show 0 ≤ u + m by omega), w64 (x := -((u + m + 1) / 2)) (by omega), w64 (x := (u + m) / 2) (by omega), w64 (x := q + 1) (by omega)]
  refine Ev.const ?_
  unfold takeFin
  have e6 : p + (q - p) + 1 = q + 1 := by omega
  rw [e6]
  by_cases h1 : (u + m) % 2 = 1
  · simp only [h1, if_true]
    by_cases h2 : rd b q = 0
    · by_cases h3 : p < q
      · rw [if_pos (show (rd b q = 0 ∧ 0 < q - p) ∨ _ from Or.inl ⟨h2, by omega⟩)]
        simp [h2, h3]
      · have h3' : ¬ 0 < q - p := by omega
        simp [h2, h3, h3']; split <;> simp_all
    · simp [h2]; split <;> simp_all
  · simp only [h1, if_false]
    by_cases h2 : rd b q = 0
    · by_cases h3 : p < q
      · rw [if_pos (show (rd b q = 0 ∧ 0 < q - p) ∨ _ from Or.inl ⟨h2, by omega⟩)]
        simp [h2, h3]
      · have h3' : ¬ 0 < q - p := by omega
        simp [h2, h3, h3']; split <;> simp_all
    · simp [h2]; split <;> simp_all
theorem impl_cont (b : List Int) (hb : Bytes b) (hl : b.length ≤ 1048576) (p q u s : Int) (r : Int × Int) (hp : 0 ≤ p ∧ p ≤ q) (hlt : q < b.length) (hu : 0 ≤ u ∧ u ≤ 2097152) (hs : s = 1 ∨ s = 128 ∨ s = 16384) (hv : ¬ rd b q < 128)
    (h : Ev (fun k => impl_TakeNum.l0 k b p (u + rd b q % 128 * s) (s * 128) (q + 1)) r) : Ev (fun k => impl_TakeNum.j1 k b p u s q true) r := by
  have hr := Bytes_rd hb q
  have hm : 0 ≤ rd b q % 128 * s ∧ rd b q % 128 * s ≤ 266338304 := by
    rcases hs with e | e | e <;> subst e <;> omega
  generalize hm0 : rd b q % 128 * s = m at *
  have e5 : Int.tmod (rd b q) 128 = rd b q % 128 := tmod_nn (by omega)
  apply Ev.step
  · intro k; rw [impl_TakeNum.j1]
  simp only [e5, w64 (x := rd b q % 128) (by omega), hm0, w64 (x := m) (by omega), if_true, if_pos (show (0 : Int) ≤ q by omega), if_pos hlt, if_pos (show rd b q ≥ 128 by omega), w64 (x := u + m) (by omega), w64 (x := q + 1) (by omega), w64 (x := s * 128) (by omega)]
  exact h
theorem impl_head (b : List Int) (hl : b.length ≤ 1048576) (p q u s : Int) (r : Int × Int) (hp : 0 ≤ p ∧ p ≤ q ∧ p ≤ 9223372036854775807) (hr : (b.length : Int) ≤ q ∨ p + 3 ≤ q → r = (0, -1))
    (h : ¬ ((b.length : Int) ≤ q ∨ p + 3 ≤ q) → Ev (fun k => impl_TakeNum.j1 k b p u s q true) r) : Ev (fun k => impl_TakeNum.l0 k b p u s q) r := by
  apply Ev.step
  · intro k; rw [impl_TakeNum.l0]
  by_cases h0 : q < (b.length : Int)
  · simp only [if_pos h0, w64 (x := p + 3) (by omega)]
    by_cases h1 : q < p + 3
    · simp only [decide_eq_true h1]
      exact h (by omega)
    · simp only [decide_eq_false h1]
      rw [hr (by omega)]
      apply Ev.step
      · intro k; rw [impl_TakeNum.j1]
      exact Ev.now _
  · simp only [if_neg h0]
    rw [hr (by omega)]
    apply Ev.step
    · intro k; rw [impl_TakeNum.j1]
    exact Ev.now _
theorem ev_impl_TakeNum (b : List Int) (hb : Bytes b) (hl : b.length ≤ 1048576) (p : Int) (hp : p ≤ 9223372036854775807) : Ev (fun k => impl_TakeNum.f k b p) (takeNum b p) := by
  have r0 := Bytes_rd hb p
  have r1 := Bytes_rd hb (p + 1)
  have r2 := Bytes_rd hb (p + 2)
  simp only [impl_TakeNum.f]
  by_cases hn : p < 0
  · simp only [if_pos hn]
    rw [takeNum, if_pos (Or.inl hn)]
    exact Ev.now _
  simp only [if_neg hn]
  refine impl_head b hl p p 0 1 _ (by omega) (fun h => ?_) (fun h => ?_)
  · unfold takeNum; rw [if_pos (by omega)]
  have hg : ¬ (p < 0 ∨ (b.length : Int) ≤ p) := by omega
  rw [takeNum, if_neg hg]
  by_cases h0 : rd b p < 128
  · rw [if_pos h0]
    have := impl_fin b hb hl p p 0 1 (by omega) (by omega) (by omega) (by omega) h0
    simpa using this
  rw [if_neg h0]
  refine impl_cont b hb hl p p 0 1 _ (by omega) (by omega) (by omega) (by omega) h0 ?_
  simp only [Int.zero_add, Int.mul_one, Int.one_mul]
  refine impl_head b hl p (p + 1) _ _ _ (by omega) (fun h => ?_) (fun h => ?_)
  · rw [if_pos (by omega)]
  rw [if_neg (by omega)]
  by_cases h1 : rd b (p + 1) < 128
  · rw [if_pos h1]
    have := impl_fin b hb hl p (p + 1) (rd b p % 128) 128 (by omega) (by omega) (by omega) (by omega) h1
    rwa [show p + 1 - p = 1 by omega] at this
  rw [if_neg h1]
  refine impl_cont b hb hl p (p + 1) _ 128 _ (by omega) (by omega) (by omega) (by omega) h1 ?_
  simp only [show p + 1 + 1 = p + 2 by omega, show (128 : Int) * 128 = 16384 from rfl]
  refine impl_head b hl p (p + 2) _ _ _ (by omega) (fun h => ?_) (fun h => ?_)
  · rw [if_pos (by omega)]
  rw [if_neg (by omega)]
  by_cases h2 : rd b (p + 2) < 128
  · rw [if_pos h2]
    have := impl_fin b hb hl p (p + 2) (rd b p % 128 + rd b (p + 1) % 128 * 128) 16384 (by omega) (by omega) (by omega) (by omega) h2
    rwa [show p + 2 - p = 2 by omega] at this
  rw [if_neg h2]
  refine impl_cont b hb hl p (p + 2) _ 16384 _ (by omega) (by omega) (by omega) (by omega) h2 ?_
  exact impl_head b hl p (p + 2 + 1) _ _ _ (by omega) (fun _ => rfl) (fun h => by omega)

theorem ev_impl_TakeNums_l0 (b : List Int) (hb : Bytes b) (hl : b.length ≤ 1048576) (m : Int) (hm : 0 ≤ m ∧ m ≤ 300) : ∀ (d : Nat) (acc : List Int) (p i : Int), 0 ≤ i → i + d = m → acc.length = i → p ≤ 9223372036854775807 → Ev (fun k => impl_TakeNums.l0 k b p acc m i) (numsFrom b d acc p) := by
  intro d
  induction d with
  | zero =>
    intro acc p i h0 h1 h2 h3
    apply Ev.step
    · intro k; rw [impl_TakeNums.l0]
    simp only [if_neg (show ¬ i < m by omega)]
    exact Ev.now _
  | succ d ih =>
    intro acc p i h0 h1 h2 h3
    have hn := takeNum_lo b p
    apply Ev.step
    · intro k; rw [impl_TakeNums.l0]
    simp only [if_pos (show i < m by omega)]
    refine Ev.bind (ev_impl_TakeNum b hb hl p (by omega)) ?_
    rw [numsFrom]
    by_cases h4 : (takeNum b p).2 < 0
    · simp only [if_pos h4]; exact Ev.now _
    · simp only [if_neg h4, if_pos (show acc.length < 17592186044416 by omega), w64 (x := i + 1) (by omega)]
      exact ih _ _ _ (by omega) (by omega) (by simp; omega) (by omega)
theorem ev_impl_TakeNums (b : List Int) (hb : Bytes b) (hl : b.length ≤ 1048576) (p : Int) (hp : p ≤ 9223372036854775807) : Ev (fun k => impl_TakeNums.f k b p) (takeNums b p) := by
  have hn := takeNum_lo b p
  simp only [impl_TakeNums.f]
  refine Ev.bind (ev_impl_TakeNum b hb hl p (by omega)) ?_
  unfold takeNums
  by_cases h0 : (takeNum b p).2 < 0
  · simp only [if_pos h0, if_pos (show (takeNum b p).2 < 0 ∨ _ from Or.inl h0)]
    apply Ev.step
    · intro k; rw [impl_TakeNums.j0]
    exact Ev.now _
  simp only [if_neg h0, impl_in_eq, Option.bind_some]
  by_cases h1 : 0 ≤ (takeNum b p).1 ∧ (takeNum b p).1 ≤ 300
  · rw [if_neg (by intro h; rcases h with h | h; exact h0 h; exact h h1)]
    apply Ev.step
    · intro k; rw [impl_TakeNums.j0]
    simp only [decide_eq_true h1, Bool.not_true, if_neg Bool.false_ne_true]
    exact ev_impl_TakeNums_l0 b hb hl _ h1 _ _ _ 0 (by omega) (by omega) (by simp) (by omega)
  · rw [if_pos (Or.inr h1)]
    apply Ev.step
    · intro k; rw [impl_TakeNums.j0]
    simp only [decide_eq_false h1, Bool.not_false, if_true]
    exact Ev.now _

theorem ev_heldIntS_l0 (a : Int) (ha : 0 ≤ a ∧ a ≤ 1099511627776) (x0 : List Int) (hn : x0.length ≤ 1099511627776) (hj : ∀ j : Nat, j < x0.length → rd x0 j = a + j) : ∀ (d : Nat) (i : Nat), i + d = x0.length → Ev (fun k => laws_heldIntS.l0 k x0 (a + i) i) (a + x0.length) := by
  intro d
  induction d with
  | zero =>
    intro i h2
    apply Ev.step
    · intro k; rw [laws_heldIntS.l0]
    obtain rfl : i = x0.length := by omega
    simp only [if_neg (show ¬ ((x0.length : Int) < x0.length) by omega)]
    exact Ev.now _
  | succ d ih =>
    intro i h2
    apply Ev.step
    · intro k; rw [laws_heldIntS.l0]
    simp only [if_pos (show (i : Int) < x0.length by omega), if_pos (show (0 : Int) ≤ i by omega), if_pos (hj i (by omega)), w64 (x := (i : Int) + 1) (by omega), w64 (x := a + (i : Int) + 1) (by omega)]
    have := ih (i + 1) (by omega)
    simpa [Int.add_assoc] using this
theorem ev_heldIntS (L : List Int) (a : Int) (hn : L.length ≤ 1099511627776) (ha : 0 ≤ a ∧ a ≤ 1099511627776) (hj : ∀ j : Nat, j < L.length → rd L j = a + j) : Ev (fun k => laws_heldIntS.f k L a) (a + L.length) := by
  have := ev_heldIntS_l0 a ha L hn hj L.length 0 (by omega)
  simpa [laws_heldIntS.f] using this
/-- What was marked is held. -/
theorem ev_intS (l : List Int) (a : Int) (hn : l.length ≤ 1099511627776) (ha : 0 ≤ a ∧ a ≤ 1099511627776) : ∃ L : List Int, L.length = l.length ∧ Ev (fun k => laws_markIntS.f k l a) (a + l.length, L) ∧ Ev (fun k => laws_heldIntS.f k L a) (a + l.length) := by
  obtain ⟨L, h1, h2, h3⟩ := ev_markIntS l a hn ha
  exact ⟨L, h1, h3, by have := ev_heldIntS L a (by omega) ha (by rw [h1]; exact h2); rwa [h1] at this⟩

theorem holds : laws_FnExactTakeNums.Pure := by
  intro b p _ _ hw hp
  apply Ev.ex
  have hb := Bytes_of hw
  have hp' := i64_of hp
  simp only [laws_FnExactTakeNums.f]
  by_cases hs : (b.length : Int) > 1048576
  · simp only [if_pos hs]; exact Ev.now _
  simp only [if_neg hs]
  have hl := takeNums_len b p
  obtain ⟨L, hL, hm, hh⟩ := ev_intS (takeNums b p).1 1 (by omega) (by omega)
  obtain ⟨L2, hL2, _, hm2⟩ := ev_markByteS b 1 (by omega) (by omega)
  refine Ev.bind (ev_toByteS b (by omega)) ?_
  refine Ev.bind (ev_spec_TakeNums b hb (by omega) p (by omega)) ?_
  refine Ev.bind (ev_toByteS b (by omega)) ?_
  refine Ev.bind (ev_impl_TakeNums b hb (by omega) p (by omega)) ?_
  refine Ev.bind (ev_eqIntS _ (by omega)) ?_
  simp only [if_true]
  apply Ev.step
  · intro k; rw [laws_FnExactTakeNums.j0]
  simp only [bne_self_eq_false, if_neg Bool.false_ne_true]
  refine Ev.bind (ev_toByteS b (by omega)) ?_
  refine Ev.bind (ev_eqByteS b (by omega)) ?_
  simp only [if_true]
  refine Ev.bind hm2 ?_
  simp only [if_neg (show ¬ (1 + (b.length : Int) < 0) by omega)]
  refine Ev.bind (ev_eqIntS _ (by omega)) ?_
  simp only [if_true]
  apply Ev.step
  · intro k; rw [laws_FnExactTakeNums.j1]
  simp only [if_neg Bool.false_ne_true]
  refine Ev.bind hm ?_
  refine Ev.bind hh ?_
  simp only [if_neg (show ¬ (1 + ((takeNums b p).1.length : Int) < 0) by omega), if_true]
  refine Ev.bind (ev_toByteS b (by omega)) ?_
  refine Ev.bind (ev_impl_TakeNums b hb (by omega) p (by omega)) ?_
  refine Ev.bind (ev_eqIntS _ (by omega)) ?_
  simp only [if_true]
  apply Ev.step
  · intro k; rw [laws_FnExactTakeNums.j2]
  simp only [bne_self_eq_false, if_neg Bool.false_ne_true]
  refine Ev.bind hh ?_
  simp only [if_neg (show ¬ (1 + ((takeNums b p).1.length : Int) < 0) by omega), if_true]
  exact Ev.now _

end EFnExactTakeNums
open Go.RowKit Go.Proofs.Ytnmpkdabojlbgaa.PFnExactTakeNums Go.Proofs.YtnmpkdabojlbgaaW.PrintWords Go.Proofs.YtnmpkdabojlbgaaW.PrintLast
theorem FnExactTakeNums : laws_FnExactTakeNums.Pure := EFnExactTakeNums.holds
end Go.Proofs.Ytnmpkdabojlbgaa.Pure
