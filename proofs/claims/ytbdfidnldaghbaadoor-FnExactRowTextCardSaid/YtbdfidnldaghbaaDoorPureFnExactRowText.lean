/- Of every list of numbers: the program's RowText gives what the reference's RowText gives, and its argument stays as it was. -/
import Derived.Test.YtbdfidnldaghbaaDoorQmFnExactRowText
import Derived.Test.YtbdfidnldaghbaaDoorShapes
import Derived.Test.YtbdfidnldaghbaaDoorLib
set_option linter.unusedVariables false
set_option linter.unusedSimpArgs false
namespace Go.Proofs.YtbdfidnldaghbaaDoor.Pure
namespace EFnExactRowText
open Go.RowKit Go.Proofs.YtbdfidnldaghbaaDoorW.PrintWords Go.Proofs.YtbdfidnldaghbaaDoorW.PrintLast Go.Proofs.YtbdfidnldaghbaaDoorW.PrintMore Go.Proofs.YtbdfidnldaghbaaDoor.Lib Go.Proofs.YtbdfidnldaghbaaDoor.Q

def itoaB (n : Int) : ByteArray := ⟨(Go.Lib.itoa n).toArray⟩
theorem ba_app (a b : List UInt8) : (⟨a.toArray⟩ : ByteArray) ++ ⟨b.toArray⟩ = ⟨(a ++ b).toArray⟩ := by
  apply ByteArray.ext
  rw [ByteArray.data_append]
  simp
theorem ba_sz (a : List UInt8) : (⟨a.toArray⟩ : ByteArray).size = a.length := by simp [ByteArray.size]
theorem strOf_one (c : Int) : strOfNums [c] = ⟨[UInt8.ofNat c.toNat].toArray⟩ := by simp [strOfNums]
theorem num_end (out : List UInt8) (neg : Bool) (h : out.length ≤ 1000) : Ev (fun k => spec_l01Num.l0 k 0 ⟨out.toArray⟩ neg) (if neg = true then (⟨(45 :: out).toArray⟩ : ByteArray) else ⟨out.toArray⟩) := by
  apply Ev.step
  · intro k; rw [spec_l01Num.l0]
  simp only [if_true]
  by_cases hn : neg = true
  · simp only [if_pos hn, ba_sz, if_pos (show 1 + out.length ≤ 9223372036854775807 by omega)]
    exact Ev.const (congrArg some (by rw [show (⟨#[45]⟩ : ByteArray) = ⟨[(45 : UInt8)].toArray⟩ from rfl, ba_app]; rfl))
  · simp only [if_neg hn]
    exact Ev.now _
theorem num_step (m : Nat) (x : Int) (out : List UInt8) (neg : Bool) (r : ByteArray) (hm : x.natAbs = m) (h0 : 0 < m) (hx : -9223372036854775808 ≤ x ∧ x ≤ 9223372036854775807) (ho : out.length ≤ 1000)
    (e : Ev (fun k => spec_l01Num.l0 k (Int.tdiv x 10) ⟨(UInt8.ofNat (48 + m % 10) :: out).toArray⟩ neg) r) : Ev (fun k => spec_l01Num.l0 k x ⟨out.toArray⟩ neg) r := by
  have hd : -9223372036854775808 ≤ Int.tdiv x 10 ∧ Int.tdiv x 10 ≤ 9223372036854775807 := by
    rcases Int.natAbs_eq x with h | h
    · rw [h, tdiv_nn (by omega)]; omega
    · rw [h, tdiv_neg' (by omega)]; omega
  have key : ∀ c : Int, c = 48 + (m % 10 : Nat) → strOfNums [c] ++ (⟨out.toArray⟩ : ByteArray) = ⟨(UInt8.ofNat (48 + m % 10) :: out).toArray⟩ := by
    intro c hc
    rw [strOf_one, ba_app, hc, show ((48 : Int) + (m % 10 : Nat)).toNat = 48 + m % 10 by omega]; rfl
  have sz : ∀ c : Int, (strOfNums [c]).size = 1 := fun c => by simp [strOfNums, ByteArray.size]
  have hmod : (Int.tmod x 10 = ((m % 10 : Nat) : Int)) ∨ (Int.tmod x 10 = -((m % 10 : Nat) : Int)) := by
    rcases Int.natAbs_eq x with h | h
    · left; rw [h, tmod_nn (by omega)]; omega
    · right; rw [h, Int.neg_tmod, tmod_nn (by omega)]; omega
  apply Ev.step
  · intro k; rw [spec_l01Num.l0]
  simp only [if_neg (show ¬ x = 0 by omega), Option.bind_some, sz, ba_sz, if_pos (show 1 + out.length ≤ 9223372036854775807 by omega), w64 hd]
  by_cases hlt : Int.tmod x 10 < 0
  · simp only [if_pos hlt]
    have h1 : Int.tmod x 10 = -((m % 10 : Nat) : Int) := by omega
    rw [key ((wrap64 (48 + wrap64 (-(Int.tmod x 10)))) % 256) (by rw [h1, w64 (x := -(-((m % 10 : Nat) : Int))) (by omega), w64 (x := 48 + -(-((m % 10 : Nat) : Int))) (by omega)]; omega)]
    exact e
  · simp only [if_neg hlt]
    have h1 : Int.tmod x 10 = ((m % 10 : Nat) : Int) := by omega
    rw [key ((wrap64 (48 + (Int.tmod x 10))) % 256) (by rw [h1, w64 (by omega)]; omega)]
    exact e
theorem natAbs_tdiv10 (x : Int) : (Int.tdiv x 10).natAbs = x.natAbs / 10 := by
  rcases Int.natAbs_eq x with h | h
  · rw [h, tdiv_nn (by omega)]; omega
  · rw [h, tdiv_neg' (by omega)]; omega
theorem num_all : ∀ (n m : Nat), m ≤ n → ∀ (x : Int) (out : List UInt8) (neg : Bool), x.natAbs = m → 0 < m → (-9223372036854775808 ≤ x ∧ x ≤ 9223372036854775807) → out.length + Go.Lib.nDigits m ≤ 900 →
    Ev (fun k => spec_l01Num.l0 k x ⟨out.toArray⟩ neg) (if neg = true then (⟨(45 :: (Go.Lib.decDigits m ++ out)).toArray⟩ : ByteArray) else ⟨(Go.Lib.decDigits m ++ out).toArray⟩) := by
  intro n
  induction n with
  | zero => intro m h x out neg hm h0; omega
  | succ n ih =>
    intro m h x out neg hm h0 hx ho
    refine num_step m x out neg _ hm h0 hx (by omega) ?_
    have hq := natAbs_tdiv10 x
    rw [hm] at hq
    by_cases hs : m < 10
    · have : Int.tdiv x 10 = 0 := by omega
      rw [this, Go.Lib.decDigits, dif_pos hs]
      have := num_end (UInt8.ofNat (48 + m % 10) :: out) neg (by simp; omega)
      rw [Nat.mod_eq_of_lt hs] at this ⊢
      exact this
    · rw [Go.Lib.decDigits, dif_neg hs]
      rw [Go.Lib.nDigits_big hs] at ho
      have := ih (m / 10) (by omega) (Int.tdiv x 10) (UInt8.ofNat (48 + m % 10) :: out) neg hq (by omega) (by omega) (by simp; omega)
      simpa using this
theorem ev_spec_l01Num (a : Int) (ha : -9223372036854775808 ≤ a ∧ a ≤ 9223372036854775807) : Ev (fun k => spec_l01Num.f k a) (itoaB a) := by
  unfold itoaB Go.Lib.itoa
  simp only [spec_l01Num.f]
  by_cases h0 : a = 0
  · subst h0
    simp only [if_true]
    exact Ev.const (by rw [if_neg (by omega), show (0 : Int).toNat = 0 from rfl, Go.Lib.decDigits, dif_pos (by omega)]; rfl)
  · simp only [if_neg h0]
    have h20 := Go.Lib.nDigits_le20 a.natAbs (by omega)
    have := num_all a.natAbs a.natAbs (Nat.le_refl _) a [] (decide (a < 0)) rfl (by omega) ha (by simp; omega)
    rw [List.append_nil] at this
    by_cases hn : a < 0
    · simp only [decide_eq_true hn, if_true] at this
      rw [if_pos hn, decide_eq_true hn]
      exact this
    · simp only [decide_eq_false hn, if_neg Bool.false_ne_true] at this
      rw [if_neg hn, decide_eq_false hn, show a.toNat = a.natAbs by omega]
      exact this

def valB (v : Int) : List UInt8 := if v = -2000000 then [45] else Go.Lib.itoa v
def rowB (l : List Int) : List UInt8 := if l = [] then [40, 41] else Go.Lib.join (l.map valB) [44]
theorem valB_len (v : Int) (h : -9223372036854775808 ≤ v ∧ v ≤ 9223372036854775807) : (valB v).length ≤ 21 := by
  unfold valB
  split
  · simp
  · exact Go.Lib.itoa_length_le v h.1 h.2
theorem joinTail_len : ∀ (l : List Int), (∀ x ∈ l, -9223372036854775808 ≤ x ∧ x ≤ 9223372036854775807) → (Go.Lib.joinTail [44] (l.map valB)).length ≤ 22 * l.length
  | [], _ => by simp [Go.Lib.joinTail]
  | x :: l, h => by
    have h1 := valB_len x (h x List.mem_cons_self)
    have h2 := joinTail_len l (fun y hy => h y (List.mem_cons_of_mem _ hy))
    simp only [Go.Lib.joinTail, List.map_cons, List.flatten_cons, List.length_append, List.length_cons, List.length_nil] at *
    omega
theorem joinTail_cons (y : List UInt8) (r : List (List UInt8)) : Go.Lib.joinTail [44] (y :: r) = 44 :: (y ++ Go.Lib.joinTail [44] r) := by simp [Go.Lib.joinTail]
theorem rowB_len (l : List Int) (h : ∀ x ∈ l, -9223372036854775808 ≤ x ∧ x ≤ 9223372036854775807) : (rowB l).length ≤ 22 * l.length + 2 := by
  unfold rowB
  cases l with
  | nil => simp
  | cons x r =>
    rw [if_neg (by simp), List.map_cons, Go.Lib.join_cons, List.length_append]
    have h1 := valB_len x (h x List.mem_cons_self)
    have h2 := joinTail_len r (fun y hy => h y (List.mem_cons_of_mem _ hy))
    simp only [List.length_cons]
    omega

theorem ev_rowText_l0 (l : List Int) (hl : l.length ≤ 1048576) (hr : ∀ x ∈ l, -9223372036854775808 ≤ x ∧ x ≤ 9223372036854775807) : ∀ (d i : Nat) (out : List UInt8), i + d = l.length → 0 < i → out.length ≤ 1000 * i → Ev (fun k => spec_RowText.l0 k l ⟨out.toArray⟩ i) ⟨(out ++ Go.Lib.joinTail [44] ((l.drop i).map valB)).toArray⟩ := by
  intro d
  induction d with
  | zero =>
    intro i out h h0 ho
    apply Ev.step
    · intro k; rw [spec_RowText.l0]
    simp only [if_neg (show ¬ ((i : Int) < l.length) by omega), drop_nil' (show l.length ≤ i by omega)]
    exact Ev.const (by simp [Go.Lib.joinTail])
  | succ d ih =>
    intro i out h h0 ho
    have hv := hr _ (rd_mem (xs := l) (i := (i : Int)) (by omega) (by omega))
    have hvl := valB_len _ hv
    rw [drop_rd l i (by omega), List.map_cons, joinTail_cons]
    have e1 : (⟨out.toArray⟩ : ByteArray) ++ (⟨#[44]⟩ : ByteArray) = ⟨(out ++ [44]).toArray⟩ := ba_app out [44]
    have ih' := ih (i + 1) (out ++ [44] ++ valB (rd l i)) (by omega) (by omega) (by simp only [List.length_append, List.length_cons, List.length_nil]; omega)
    have e2 : out ++ 44 :: (valB (rd l i) ++ Go.Lib.joinTail [44] ((l.drop (i + 1)).map valB)) = out ++ [44] ++ valB (rd l i) ++ Go.Lib.joinTail [44] ((l.drop (i + 1)).map valB) := by simp
    rw [e2]
    apply Ev.step
    · intro k; rw [spec_RowText.l0]
    simp only [if_pos (show (i : Int) < l.length by omega), if_pos (show (i : Int) > 0 by omega), if_pos (show (0 : Int) ≤ i by omega), e1, ba_sz, if_pos (show out.length + 1 ≤ 9223372036854775807 by omega), if_pos (show (out ++ [44]).length + 1 ≤ 9223372036854775807 by simp; omega), w64 (x := (i : Int) + 1) (by omega)]
    by_cases hc : rd l i = -2000000
    · simp only [if_pos hc]
      have e3 : (⟨(out ++ [44]).toArray⟩ : ByteArray) ++ (⟨#[45]⟩ : ByteArray) = ⟨(out ++ [44] ++ [45]).toArray⟩ := ba_app _ [45]
      have e4 : valB (rd l i) = [45] := by unfold valB; rw [if_pos hc]
      rw [e3]
      rw [e4] at ih' ⊢
      exact ih'
    · simp only [if_neg hc]
      have e4 : valB (rd l i) = Go.Lib.itoa (rd l i) := by unfold valB; rw [if_neg hc]
      refine Ev.bind (ev_spec_l01Num (rd l i) hv) ?_
      unfold itoaB
      rw [e4] at ih' hvl ⊢
      simp only [ba_sz, if_pos (show (out ++ [44]).length + (Go.Lib.itoa (rd l i)).length ≤ 9223372036854775807 by simp; omega), ba_app]
      exact ih'
theorem ev_spec_RowText (l : List Int) (hl : l.length ≤ 1048576) (hr : ∀ x ∈ l, -9223372036854775808 ≤ x ∧ x ≤ 9223372036854775807) : Ev (fun k => spec_RowText.f k l) ⟨(rowB l).toArray⟩ := by
  simp only [spec_RowText.f]
  unfold rowB
  by_cases h0 : l = []
  · subst h0
    simp only [List.length_nil, Int.natCast_zero, if_true]
    exact Ev.now _
  · have hp : 0 < l.length := List.length_pos_iff.2 h0
    simp only [if_neg (show ¬ (l.length : Int) = 0 by omega), if_neg h0]
    have hv := hr _ (rd_mem (xs := l) (i := ((0 : Nat) : Int)) (by omega) (by omega))
    have hvl := valB_len _ hv
    have hcut : l.map valB = valB (rd l ((0 : Nat) : Int)) :: (l.drop 1).map valB := by
      have := drop_rd l 0 hp
      rw [List.drop_zero] at this
      conv => lhs; rw [this]
      rfl
    rw [hcut, Go.Lib.join_cons]
    have nxt := ev_rowText_l0 l hl hr (l.length - 1) 1 (valB (rd l ((0 : Nat) : Int))) (by omega) (by omega) (by omega)
    simp only [Int.natCast_zero] at hv hvl nxt ⊢
    apply Ev.step
    · intro k; rw [spec_RowText.l0]
    simp only [if_pos (show (0 : Int) < l.length by omega), if_neg (show ¬ (0 : Int) > 0 by omega), if_pos (show (0 : Int) ≤ 0 by omega), w64 (x := (0 : Int) + 1) (by omega)]
    have ee : (⟨#[]⟩ : ByteArray) = ⟨([] : List UInt8).toArray⟩ := rfl
    by_cases hc : rd l 0 = -2000000
    · simp only [if_pos hc]
      have e4 : valB (rd l 0) = [45] := by unfold valB; rw [if_pos hc]
      rw [e4] at nxt ⊢
      simp only [if_pos (show (⟨#[]⟩ : ByteArray).size + 1 ≤ 9223372036854775807 by decide)]
      rw [ee, show (⟨#[45]⟩ : ByteArray) = ⟨[(45 : UInt8)].toArray⟩ from rfl, ba_app]
      exact nxt
    · simp only [if_neg hc]
      have e4 : valB (rd l 0) = Go.Lib.itoa (rd l 0) := by unfold valB; rw [if_neg hc]
      refine Ev.bind (ev_spec_l01Num (rd l 0) hv) ?_
      unfold itoaB
      rw [e4] at nxt hvl ⊢
      rw [ee]
      simp only [ba_sz, List.length_nil, if_pos (show 0 + (Go.Lib.itoa (rd l 0)).length ≤ 9223372036854775807 by omega), ba_app, List.nil_append]
      exact nxt

def vB (v : Int) : ByteArray := ⟨(valB v).toArray⟩
theorem join_vB (l : List Int) : Lay.joinS (l.map vB) (⟨#[44]⟩ : ByteArray) = ⟨(Go.Lib.join (l.map valB) [44]).toArray⟩ := by
  unfold Lay.joinS
  rw [List.map_map]
  have : ((fun x : ByteArray => x.data.toList) ∘ vB) = valB := by funext v; simp [vB]
  rw [this]
theorem impl_rowText_l0 (l : List Int) (hl : l.length ≤ 1048576) (h0 : l ≠ []) (hr : ∀ x ∈ l, -9223372036854775808 ≤ x ∧ x ≤ 9223372036854775807) : ∀ (d i : Nat), i + d = l.length → Ev (fun k => impl_RowText.l0 k ((l.take i).map vB) l (l.length : Int) i) ⟨(rowB l).toArray⟩ := by
  intro d
  induction d with
  | zero =>
    intro i h
    apply Ev.step
    · intro k; rw [impl_RowText.l0]
    have hlen := rowB_len l hr
    unfold rowB at hlen ⊢
    rw [if_neg h0] at hlen ⊢
    simp only [if_neg (show ¬ ((i : Int) < l.length) by omega), List.take_of_length_le (show l.length ≤ i by omega), strings_Join.f, join_vB, ba_sz, List.length_map]
    rw [if_pos ⟨by omega, by omega⟩]
    exact Ev.now _
  | succ d ih =>
    intro i h
    have hv := hr _ (rd_mem (xs := l) (i := (i : Int)) (by omega) (by omega))
    have ih' := ih (i + 1) (by omega)
    rw [← take_rd l i (by omega), List.map_append, List.map_cons, List.map_nil] at ih'
    apply Ev.step
    · intro k; rw [impl_RowText.l0]
    simp only [if_pos (show (i : Int) < l.length by omega), if_pos (show (0 : Int) ≤ i by omega), if_pos (show ((l.take i).map vB).length < 8796093022208 by rw [List.length_map, List.length_take]; omega), w64 (x := (i : Int) + 1) (by omega)]
    by_cases hc : rd l i = -2000000
    · simp only [if_pos hc]
      have e4 : vB (rd l i) = ⟨#[45]⟩ := by unfold vB valB; rw [if_pos hc]
      rw [e4] at ih'
      exact ih'
    · simp only [if_neg hc, impl_number.f, if_pos hv, Option.bind_some]
      have e4 : vB (rd l i) = ⟨(Go.Lib.itoa (rd l i)).toArray⟩ := by unfold vB valB; rw [if_neg hc]
      rw [e4] at ih'
      exact ih'
theorem ev_impl_RowText (l : List Int) (hl : l.length ≤ 1048576) (hr : ∀ x ∈ l, -9223372036854775808 ≤ x ∧ x ≤ 9223372036854775807) : Ev (fun k => impl_RowText.f k l) ⟨(rowB l).toArray⟩ := by
  simp only [impl_RowText.f]
  by_cases h0 : l = []
  · subst h0
    simp only [List.length_nil, Int.natCast_zero, if_true]
    exact Ev.now _
  · have hp : 0 < l.length := List.length_pos_iff.2 h0
    simp only [if_neg (show ¬ (l.length : Int) = 0 by omega)]
    exact impl_rowText_l0 l hl h0 hr l.length 0 (by omega)

theorem ev_eqIntS_l0 (x0 : List Int) (hl : x0.length ≤ 1099511627776) : ∀ (d : Nat) (i : Nat), i + d = x0.length → Ev (fun k => laws_eqIntS.l0 k x0 x0 i) true := by
  intro d
  induction d with
  | zero =>
    intro i h2
    apply Ev.step
    · intro k; rw [laws_eqIntS.l0]
    simp only [if_neg (show ¬ ((i : Int) < x0.length) by omega)]
    exact Ev.now _
  | succ d ih =>
    intro i h2
    apply Ev.step
    · intro k; rw [laws_eqIntS.l0]
    simp only [if_pos (show (i : Int) < x0.length by omega), if_pos (show (0 : Int) ≤ i by omega), if_true, w64 (x := (i : Int) + 1) (by omega)]
    have := ih (i + 1) (by omega)
    simpa using this
theorem ev_eqIntS (l : List Int) (h : l.length ≤ 1099511627776) : Ev (fun k => laws_eqIntS.f k l l) true := by
  simp only [laws_eqIntS.f, if_true]
  exact ev_eqIntS_l0 l h l.length 0 (by omega)

theorem ev_toIntS_l0 (x0 : List Int) (hl : x0.length ≤ 1048576) : ∀ (d : Nat) (x3 : List Int) (i : Nat), x3.length = x0.length → i + d = x0.length → x3.take i = x0.take i → Ev (fun k => laws_toIntS.l0 k x0 x3 i) x0 := by
  intro d
  induction d with
  | zero =>
    intro x3 i h1 h2 h3
    apply Ev.step
    · intro k; rw [laws_toIntS.l0]
    simp only [if_neg (show ¬ ((i : Int) < x0.length) by omega)]
    rw [take_eq_all h1 (by omega) h3]
    exact Ev.now _
  | succ d ih =>
    intro x3 i h1 h2 h3
    apply Ev.step
    · intro k; rw [laws_toIntS.l0]
    simp only [if_pos (show (i : Int) < x0.length by omega), if_pos (show (0 : Int) ≤ i by omega), if_pos (show (i : Int) < x3.length by omega), w64 (x := (i : Int) + 1) (by omega)]
    have := ih (x3.set i (rd x0 i)) (i + 1) (by simp [h1]) (by omega) (take_set_at _ _ _ _ h1 (by omega) (rd_get _ _ (by omega)) h3)
    simpa using this
theorem ev_toIntS (l : List Int) (h : l.length ≤ 1048576) : Ev (fun k => laws_toIntS.f k l) l := by
  simp only [laws_toIntS.f, if_pos (show (0 : Int) ≤ l.length by omega), if_pos (show (l.length : Int).toNat ≤ 35184372088832 by omega)]
  exact ev_toIntS_l0 l h l.length _ 0 (by simp) (by omega) (by simp)

theorem holds : ∀ (l0 : List (Int)), (l0.length ≤ 9223372036854775807 ∧ ∀ yl0 ∈ l0, (Lit.int .i64 yl0).wf = true) → ∃ k, laws_FnExactRowText.Facts k l0 := by
  intro l hl
  by_cases hs : (l.length : Int) > 1048576
  · exact ⟨0, .inl hs⟩
  have hr : ∀ x ∈ l, -9223372036854775808 ≤ x ∧ x ≤ 9223372036854775807 := fun x hx => i64_of (hl.2 x hx)
  obtain ⟨k2, e2⟩ := ev_toIntS l (by omega)
  obtain ⟨k3, e3⟩ := ev_spec_RowText l (by omega) hr
  obtain ⟨k4, e4⟩ := ev_impl_RowText l (by omega) hr
  obtain ⟨k5, e5⟩ := ev_eqIntS l (by omega)
  let k := k2 + k3 + k4 + k5
  exact ⟨k, .inr ⟨l, _, hs, e2 k (by omega), e3 k (by omega), e4 k (by omega), e5 k (by omega)⟩⟩

end EFnExactRowText
open Go.RowKit Go.Proofs.YtbdfidnldaghbaaDoorW.PrintWords Go.Proofs.YtbdfidnldaghbaaDoorW.PrintLast Go.Proofs.YtbdfidnldaghbaaDoorW.PrintMore Go.Proofs.YtbdfidnldaghbaaDoor.Lib Go.Proofs.YtbdfidnldaghbaaDoor.Q
theorem FnExactRowText : ∀ (l0 : List (Int)), (l0.length ≤ 9223372036854775807 ∧ ∀ yl0 ∈ l0, (Lit.int .i64 yl0).wf = true) → ∃ k, laws_FnExactRowText.Facts k l0 := EFnExactRowText.holds
end Go.Proofs.YtbdfidnldaghbaaDoor.Pure
