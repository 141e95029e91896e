/- Of every list of rows and every number: the program's ColumnOf gives the numbers that the reference's ColumnOf gives, in new memory of its own, and its argument stays as it was. -/
import Derived.Test.YtlkgppihnolcmaaQmFnExactColumnOf
import Derived.Test.YtlkgppihnolcmaaShapes
import Derived.Test.YtlkgppihnolcmaaLib
set_option linter.unusedVariables false
set_option linter.unusedSimpArgs false
namespace Go.Proofs.Ytlkgppihnolcmaa.Pure
namespace EFnExactColumnOf
open Go.RowKit Go.Proofs.YtlkgppihnolcmaaW.PrintWords Go.Proofs.YtlkgppihnolcmaaW.PrintLast Go.Proofs.YtlkgppihnolcmaaW.PrintMore Go.Proofs.Ytlkgppihnolcmaa.Lib Go.Proofs.Ytlkgppihnolcmaa.Q

theorem impl_in_eq (a b c : Int) : impl_in.f a b c = some (decide (b ≤ a ∧ a ≤ c)) := by
  unfold impl_in.f
  by_cases h : b ≤ a
  · rw [if_pos h]; simp [h]
  · rw [if_neg (show ¬ a ≥ b from h)]; simp [h]

def colFrom (c : Int) : List (List Int) → List Int
  | [] => []
  | r :: rs => if c < r.length then rd r c :: colFrom c rs else colFrom c rs
def colOf (c : Int) (l : List (List Int)) : List Int := if c < 0 then [] else colFrom c l
theorem colFrom_length (c : Int) : ∀ l, (colFrom c l).length ≤ l.length
  | [] => by simp [colFrom]
  | r :: rs => by
    have := colFrom_length c rs
    unfold colFrom
    split <;> simp <;> omega
theorem colOf_length (c : Int) (l : List (List Int)) : (colOf c l).length ≤ l.length := by
  unfold colOf
  split
  · simp
  · exact colFrom_length c l

theorem in_eq (a b c : Int) : impl_in.f a b c = some (decide (b ≤ a ∧ a ≤ c)) := by
  unfold impl_in.f
  by_cases h : a ≥ b
  · rw [if_pos h]; simp [show b ≤ a from h]
  · rw [if_neg h]; simp [show ¬ b ≤ a from h]
theorem ev_impl_ColumnOf_l0 (x0 : List (List Int)) (c : Int) (hl : x0.length ≤ 1048576) (hr : ∀ r ∈ x0, r.length ≤ 1048576) : ∀ (d : Nat) (acc : List Int) (i : Nat), i + d = x0.length → acc.length ≤ i → Ev (fun k => impl_ColumnOf.l0 k c acc x0 x0.length i) (acc ++ colOf c (x0.drop i)) := by
  intro d
  induction d with
  | zero =>
    intro acc i h1 h2
    apply Ev.step
    · intro k; rw [impl_ColumnOf.l0]
    simp only [if_neg (show ¬ ((i : Int) < x0.length) by omega)]
    rw [List.drop_eq_nil_of_le (by omega), show colOf c [] = [] by simp [colOf, colFrom], List.append_nil]
    exact Ev.now _
  | succ d ih =>
    intro acc i h1 h2
    have hd : x0.drop i = rd_L1 x0 i :: x0.drop (i + 1) := by rw [drop_getD x0 [] i (by omega)]; simp [rd_L1]
    have hmm : rd_L1 x0 i ∈ x0.drop i := by rw [hd]; exact List.mem_cons_self
    have hm : (rd_L1 x0 i).length ≤ 1048576 := hr _ (List.mem_of_mem_drop hmm)
    have i1 := ih (acc ++ [rd (rd_L1 x0 i) c]) (i + 1) (by omega) (by simp; omega)
    have i2 := ih acc (i + 1) (by omega) (by omega)
    apply Ev.step
    · intro k; rw [impl_ColumnOf.l0]
    simp only [if_pos (show (i : Int) < x0.length by omega), if_pos (show (0 : Int) ≤ i by omega), w64 (x := (i : Int) + 1) (by omega), w64 (x := ((rd_L1 x0 (i : Int)).length : Int) - 1) (by omega), in_eq, Option.bind_some, decide_eq_true_eq]
    rw [hd]
    by_cases h3 : 0 ≤ c ∧ c ≤ ((rd_L1 x0 (i : Int)).length : Int) - 1
    · simp only [if_pos h3, if_pos h3.1, if_pos (show c < ((rd_L1 x0 (i : Int)).length : Int) by omega), if_pos (show acc.length < 17592186044416 by omega)]
      rw [show colOf c (rd_L1 x0 (i : Int) :: x0.drop (i + 1)) = rd (rd_L1 x0 (i : Int)) c :: colOf c (x0.drop (i + 1)) by
        simp only [colOf, if_neg (show ¬ c < 0 by omega), colFrom, if_pos (show c < ((rd_L1 x0 (i : Int)).length : Int) by omega)]]
      simpa using i1
    · simp only [if_neg h3]
      rw [show colOf c (rd_L1 x0 (i : Int) :: x0.drop (i + 1)) = colOf c (x0.drop (i + 1)) by
        by_cases h4 : c < 0
        · simp only [colOf, if_pos h4]
        · simp only [colOf, if_neg h4, colFrom, if_neg (show ¬ c < ((rd_L1 x0 (i : Int)).length : Int) by omega)]]
      simpa using i2
theorem ev_impl_ColumnOf (l : List (List Int)) (c : Int) (hl : l.length ≤ 1048576) (hr : ∀ r ∈ l, r.length ≤ 1048576) : Ev (fun k => impl_ColumnOf.f k l c) (colOf c l) := by
  simpa [impl_ColumnOf.f] using ev_impl_ColumnOf_l0 l c hl hr l.length [] 0 (by omega) (by simp)

theorem ev_eqIntS_l0 (x0 : List Int) (hl : x0.length ≤ 1099511627776) : ∀ (d : Nat) (i : Nat), i + d = x0.length → Ev (fun k => laws_eqIntS.l0 k x0 x0 i) true := by
  intro d
  induction d with
  | zero =>
    intro i h2
    apply Ev.step
    · intro k; rw [laws_eqIntS.l0]
    simp only [if_neg (show ¬ ((i : Int) < x0.length) by omega)]
    exact Ev.now _
  | succ d ih =>
    intro i h2
    apply Ev.step
    · intro k; rw [laws_eqIntS.l0]
    simp only [if_pos (show (i : Int) < x0.length by omega), if_pos (show (0 : Int) ≤ i by omega), if_true, w64 (x := (i : Int) + 1) (by omega)]
    have := ih (i + 1) (by omega)
    simpa using this
theorem ev_eqIntS (l : List Int) (h : l.length ≤ 1099511627776) : Ev (fun k => laws_eqIntS.f k l l) true := by
  simp only [laws_eqIntS.f, if_true]
  exact ev_eqIntS_l0 l h l.length 0 (by omega)

theorem ev_laws_eqIntSS_l0 (x0 : List (List Int)) (hl : x0.length ≤ 1099511627776) (hs : ∀ x ∈ x0, x.length ≤ 1099511627776) : ∀ (d : Nat) (i : Nat), i + d = x0.length → Ev (fun k => laws_eqIntSS.l0 k x0 x0 i) true := by
  intro d
  induction d with
  | zero =>
    intro i h2
    apply Ev.step
    · intro k; rw [laws_eqIntSS.l0]
    simp only [if_neg (show ¬ ((i : Int) < x0.length) by omega)]
    exact Ev.now _
  | succ d ih =>
    intro i h2
    have hg : x0[i]? = some (rd_L1 x0 (i : Int)) := by simp [rd_L1, show i < x0.length by omega]
    have hm := hs _ (List.mem_of_getElem? hg)
    apply Ev.step
    · intro k; rw [laws_eqIntSS.l0]
    simp only [if_pos (show (i : Int) < x0.length by omega), if_pos (show (0 : Int) ≤ i by omega)]
    refine Ev.bind (ev_eqIntS _ hm) ?_
    simp only [if_true, w64 (x := (i : Int) + 1) (by omega)]
    have := ih (i + 1) (by omega)
    simpa using this
theorem ev_laws_eqIntSS (l : List (List Int)) (h : l.length ≤ 1099511627776) (hs : ∀ x ∈ l, x.length ≤ 1099511627776) : Ev (fun k => laws_eqIntSS.f k l l) true := by
  simp only [laws_eqIntSS.f, if_true]
  exact ev_laws_eqIntSS_l0 l h hs l.length 0 (by omega)

theorem ev_markIntS_l0 (a : Int) (n : Nat) (hn : n ≤ 1099511627776) (ha : 0 ≤ a ∧ a ≤ 1099511627776) : ∀ (d : Nat) (x0 : List Int) (i : Nat), x0.length = n → i + d = n → (∀ j : Nat, j < i → rd x0 j = a + j) →
    ∃ L : List Int, L.length = n ∧ (∀ j : Nat, j < n → rd L j = a + j) ∧ Ev (fun k => laws_markIntS.l0 k x0 (a + i) i) (a + n, L) := by
  intro d
  induction d with
  | zero =>
    intro x0 i h1 h2 h3
    refine ⟨x0, h1, fun j hj => h3 j (by omega), ?_⟩
    apply Ev.step
    · intro k; rw [laws_markIntS.l0]
    obtain rfl : i = n := by omega
    simp only [if_neg (show ¬ ((i : Int) < x0.length) by omega)]
    exact Ev.now _
  | succ d ih =>
    intro x0 i h1 h2 h3
    obtain ⟨L, hL, hj, he⟩ := ih (x0.set i (a + i)) (i + 1) (by simp [h1]) (by omega) (by
      intro j hj
      by_cases e : j = i
      · subst e; rw [rd_set_self _ _ _ (by omega)]
      · rw [rd_set_ne _ _ _ _ (Ne.symm e)]; exact h3 j (by omega))
    refine ⟨L, hL, hj, ?_⟩
    apply Ev.step
    · intro k; rw [laws_markIntS.l0]
    simp only [if_pos (show (i : Int) < x0.length by omega), if_pos (show (0 : Int) ≤ i by omega), w64 (x := (i : Int) + 1) (by omega), w64 (x := a + (i : Int) + 1) (by omega)]
    simpa [Int.add_assoc] using he
theorem ev_markIntS (l : List Int) (a : Int) (hn : l.length ≤ 1099511627776) (ha : 0 ≤ a ∧ a ≤ 1099511627776) :
    ∃ L : List Int, L.length = l.length ∧ (∀ j : Nat, j < l.length → rd L j = a + j) ∧ Ev (fun k => laws_markIntS.f k l a) (a + l.length, L) := by
  obtain ⟨L, h1, h2, h3⟩ := ev_markIntS_l0 a l.length hn ha l.length l 0 rfl (by omega) (by intro j hj; omega)
  exact ⟨L, h1, h2, by simpa [laws_markIntS.f] using h3⟩

theorem ev_heldIntS_l0 (a : Int) (ha : 0 ≤ a ∧ a ≤ 1099511627776) (x0 : List Int) (hn : x0.length ≤ 1099511627776) (hj : ∀ j : Nat, j < x0.length → rd x0 j = a + j) : ∀ (d : Nat) (i : Nat), i + d = x0.length → Ev (fun k => laws_heldIntS.l0 k x0 (a + i) i) (a + x0.length) := by
  intro d
  induction d with
  | zero =>
    intro i h2
    apply Ev.step
    · intro k; rw [laws_heldIntS.l0]
    obtain rfl : i = x0.length := by omega
    simp only [if_neg (show ¬ ((x0.length : Int) < x0.length) by omega)]
    exact Ev.now _
  | succ d ih =>
    intro i h2
    apply Ev.step
    · intro k; rw [laws_heldIntS.l0]
    simp only [if_pos (show (i : Int) < x0.length by omega), if_pos (show (0 : Int) ≤ i by omega), if_pos (hj i (by omega)), w64 (x := (i : Int) + 1) (by omega), w64 (x := a + (i : Int) + 1) (by omega)]
    have := ih (i + 1) (by omega)
    simpa [Int.add_assoc] using this
theorem ev_heldIntS (L : List Int) (a : Int) (hn : L.length ≤ 1099511627776) (ha : 0 ≤ a ∧ a ≤ 1099511627776) (hj : ∀ j : Nat, j < L.length → rd L j = a + j) : Ev (fun k => laws_heldIntS.f k L a) (a + L.length) := by
  have := ev_heldIntS_l0 a ha L hn hj L.length 0 (by omega)
  simpa [laws_heldIntS.f] using this
/-- What was marked is held. -/
theorem ev_intS (l : List Int) (a : Int) (hn : l.length ≤ 1099511627776) (ha : 0 ≤ a ∧ a ≤ 1099511627776) : ∃ L : List Int, L.length = l.length ∧ Ev (fun k => laws_markIntS.f k l a) (a + l.length, L) ∧ Ev (fun k => laws_heldIntS.f k L a) (a + l.length) := by
  obtain ⟨L, h1, h2, h3⟩ := ev_markIntS l a hn ha
  exact ⟨L, h1, h3, by have := ev_heldIntS L a (by omega) ha (by rw [h1]; exact h2); rwa [h1] at this⟩

def upFrom (a : Int) (n : Nat) : List Int := (List.range n).map fun j : Nat => a + (j : Int)
theorem upFrom_length (a : Int) (n : Nat) : (upFrom a n).length = n := by simp [upFrom]
theorem upFrom_rd (a : Int) (n : Nat) : ∀ j : Nat, j < (upFrom a n).length → rd (upFrom a n) j = a + j := by
  intro j hj
  rw [upFrom_length] at hj
  simp [upFrom, rd, List.getD_eq_getElem?_getD, hj]
theorem upFrom_eq {a : Int} {L : List Int} (h : ∀ j : Nat, j < L.length → rd L j = a + j) : L = upFrom a L.length := by
  apply List.ext_getElem?
  intro j
  by_cases hj : j < L.length
  · rw [rd_get L j hj, h j hj, rd_get (upFrom a L.length) j (by rw [upFrom_length]; exact hj), upFrom_rd _ _ j (by rw [upFrom_length]; exact hj)]
  · rw [List.getElem?_eq_none (by omega), List.getElem?_eq_none (by rw [upFrom_length]; omega)]
def markSS (a : Int) : List (List Int) → List (List Int)
  | [] => []
  | r :: rs => upFrom a r.length :: markSS (a + r.length) rs
def markEnd (a : Int) : List (List Int) → Int
  | [] => a
  | r :: rs => markEnd (a + r.length) rs
theorem markSS_length : ∀ (l : List (List Int)) (a : Int), (markSS a l).length = l.length
  | [], _ => rfl
  | r :: rs, a => by simp [markSS, markSS_length rs]
theorem markEnd_range : ∀ (l : List (List Int)) (a : Int), (∀ r ∈ l, r.length ≤ 1048576) → a ≤ markEnd a l ∧ markEnd a l ≤ a + 1048576 * l.length
  | [], a, _ => by simp [markEnd]
  | r :: rs, a, h => by
    have h1 := h r List.mem_cons_self
    have h2 := markEnd_range rs (a + r.length) (fun x hx => h x (List.mem_cons_of_mem _ hx))
    simp only [markEnd, List.length_cons]
    omega

theorem ev_markIntSS_l0 : ∀ (rs dn : List (List Int)) (a : Int), dn.length + rs.length ≤ 1048576 → (∀ r ∈ rs, r.length ≤ 1048576) → 0 ≤ a → a + 1048576 * rs.length ≤ 1099511627777 →
    Ev (fun k => laws_markIntSS.l0 k (dn ++ rs) a dn.length) (markEnd a rs, dn ++ markSS a rs)
  | [], dn, a, h1, h2, h3, h4 => by
    apply Ev.step
    · intro k; rw [laws_markIntSS.l0]
    simp only [List.append_nil, if_neg (show ¬ ((dn.length : Int) < dn.length) by omega), markEnd, markSS]
    exact Ev.now _
  | r :: rs, dn, a, h1, h2, h3, h4 => by
    simp only [List.length_cons] at h1 h4
    have hr := h2 r List.mem_cons_self
    obtain ⟨L, hL, hj, he⟩ := ev_markIntS r a (by omega) (by omega)
    have hU : L = upFrom a r.length := by rw [← hL]; exact upFrom_eq (by rw [hL]; exact hj)
    subst hU
    have ih := ev_markIntSS_l0 rs (dn ++ [upFrom a r.length]) (a + r.length) (by simp; omega) (fun x hx => h2 x (List.mem_cons_of_mem _ hx)) (by omega) (by omega)
    apply Ev.step
    · intro k; rw [laws_markIntSS.l0]
    simp only [if_pos (show (dn.length : Int) < ((dn ++ r :: rs).length : Int) by simp; omega), if_pos (show (0 : Int) ≤ dn.length by omega)]
    refine Ev.bind (a := (a + r.length, upFrom a r.length)) (by simpa [laws_markIntSS.row] using he) ?_
    simp only [w64 (x := (dn.length : Int) + 1) (by omega), Int.toNat_natCast]
    rw [show (dn ++ r :: rs).set dn.length (upFrom a r.length) = dn ++ [upFrom a r.length] ++ rs by simp]
    simpa [markEnd, markSS] using ih
theorem ev_markIntSS (l : List (List Int)) (hl : l.length ≤ 1048576) (hr : ∀ r ∈ l, r.length ≤ 1048576) : Ev (fun k => laws_markIntSS.f k l 1) (markEnd 1 l, markSS 1 l) := by
  simpa [laws_markIntSS.f] using ev_markIntSS_l0 l [] 1 (by simpa using hl) hr (by omega) (by omega)

theorem szIntS_eq (l : List Int) (a : Int) (h0 : 0 ≤ a) (h1 : a ≤ 1048576) (hl : l.length ≤ 9223372036854775807) : ∃ r, laws_szIntS.f l a = some r ∧ -1 ≤ r ∧ r ≤ a ∧ (0 ≤ r → l.length ≤ 1048576) := by
  by_cases hn : a - (l.length : Int) < 0
  · exact ⟨-1, by simp only [laws_szIntS.f, w64 (x := a - (l.length : Int)) (by omega), if_pos hn], by omega, by omega, fun h => by omega⟩
  · exact ⟨a - l.length, by simp only [laws_szIntS.f, w64 (x := a - (l.length : Int)) (by omega), if_neg hn], by omega, by omega, fun h => by omega⟩
theorem ev_szIntS (l : List Int) (a : Int) (h0 : 0 ≤ a) (h1 : a ≤ 1048576) (hl : l.length ≤ 9223372036854775807) : ∃ r, Ev (fun _ => laws_szIntS.f l a) r ∧ -1 ≤ r ∧ r ≤ a ∧ (0 ≤ r → l.length ≤ 1048576) := by
  obtain ⟨r, h, g⟩ := szIntS_eq l a h0 h1 hl
  exact ⟨r, Ev.const h, g⟩

def SmallIntSS (l : List (List Int)) : Prop := l.length ≤ 1048576 ∧ ∀ x ∈ l, x.length ≤ 1048576

theorem ev_laws_szIntSS_l0 (x0 : List (List Int)) (hl : x0.length ≤ 9223372036854775806) (hs : ∀ x ∈ x0, x.length ≤ 9223372036854775807) : ∀ (d : Nat) (a : Int) (i : Nat), i + d = x0.length → 0 ≤ a → a ≤ 1048576 → ∃ r, Ev (fun k => laws_szIntSS.l0 k x0 a i) r ∧ -1 ≤ r ∧ r ≤ a ∧ (0 ≤ r → ∀ x ∈ x0.drop i, x.length ≤ 1048576) := by
  intro d
  induction d with
  | zero =>
    intro a i h2 h0 h1
    refine ⟨a, ?_, by omega, by omega, fun _ x hx => ?_⟩
    · apply Ev.step
      · intro k; rw [laws_szIntSS.l0]
      simp only [if_neg (show ¬ ((i : Int) < x0.length) by omega)]
      exact Ev.now _
    · rw [List.drop_eq_nil_of_le (by omega)] at hx; cases hx
  | succ d ih =>
    intro a i h2 h0 h1
    have hg : x0[i]? = some (rd_L1 x0 (i : Int)) := by simp [rd_L1, show i < x0.length by omega]
    have hm := hs _ (List.mem_of_getElem? hg)
    obtain ⟨r1, e1, g1, g2, g3⟩ := ev_szIntS (rd_L1 x0 (i : Int)) a h0 h1 hm
    have hd : x0.drop i = rd_L1 x0 (i : Int) :: x0.drop (i + 1) := by
      rw [List.drop_eq_getElem_cons (show i < x0.length by omega)]
      congr 1
      rw [List.getElem?_eq_getElem (show i < x0.length by omega)] at hg
      injection hg
    by_cases hr : r1 < 0
    · refine ⟨-1, ?_, by omega, by omega, fun h => by omega⟩
      apply Ev.step
      · intro k; rw [laws_szIntSS.l0]
      simp only [if_pos (show (i : Int) < x0.length by omega), if_pos (show (0 : Int) ≤ i by omega)]
      refine Ev.bind e1 ?_
      simp only [if_pos hr]
      exact Ev.now _
    · obtain ⟨r2, e2, g4, g5, g6⟩ := ih r1 (i + 1) (by omega) (by omega) (by omega)
      refine ⟨r2, ?_, by omega, by omega, fun h x hx => ?_⟩
      · apply Ev.step
        · intro k; rw [laws_szIntSS.l0]
        simp only [if_pos (show (i : Int) < x0.length by omega), if_pos (show (0 : Int) ≤ i by omega)]
        refine Ev.bind e1 ?_
        simp only [if_neg hr, w64 (x := (i : Int) + 1) (by omega)]
        simpa using e2
      · rw [hd] at hx
        rcases List.mem_cons.1 hx with rfl | hx
        · exact g3 (by omega)
        · exact g6 h x hx
theorem ev_laws_szIntSS (l : List (List Int)) (a : Int) (h0 : 0 ≤ a) (h1 : a ≤ 1048576) (hl : l.length ≤ 9223372036854775807) (hs : ∀ x ∈ l, x.length ≤ 9223372036854775807) : ∃ r, Ev (fun k => laws_szIntSS.f k l a) r ∧ -1 ≤ r ∧ r ≤ a ∧ (0 ≤ r → SmallIntSS l) := by
  by_cases hn : a - (l.length : Int) < 0
  · refine ⟨-1, ?_, by omega, by omega, fun h => by omega⟩
    simp only [laws_szIntSS.f, w64 (x := a - (l.length : Int)) (by omega), if_pos hn]
    exact Ev.now _
  · obtain ⟨r, e, g1, g2, g3⟩ := ev_laws_szIntSS_l0 l (by omega) hs l.length (a - l.length) 0 (by omega) (by omega) (by omega)
    refine ⟨r, ?_, by omega, by omega, fun h => ⟨by omega, by simpa using g3 h⟩⟩
    simp only [laws_szIntSS.f, w64 (x := a - (l.length : Int)) (by omega), if_neg hn]
    exact e

theorem ev_toIntS_l0 (x0 : List Int) (hl : x0.length ≤ 1048576) : ∀ (d : Nat) (x3 : List Int) (i : Nat), x3.length = x0.length → i + d = x0.length → x3.take i = x0.take i → Ev (fun k => laws_toIntS.l0 k x0 x3 i) x0 := by
  intro d
  induction d with
  | zero =>
    intro x3 i h1 h2 h3
    apply Ev.step
    · intro k; rw [laws_toIntS.l0]
    simp only [if_neg (show ¬ ((i : Int) < x0.length) by omega)]
    rw [take_eq_all h1 (by omega) h3]
    exact Ev.now _
  | succ d ih =>
    intro x3 i h1 h2 h3
    apply Ev.step
    · intro k; rw [laws_toIntS.l0]
    simp only [if_pos (show (i : Int) < x0.length by omega), if_pos (show (0 : Int) ≤ i by omega), if_pos (show (i : Int) < x3.length by omega), w64 (x := (i : Int) + 1) (by omega)]
    have := ih (x3.set i (rd x0 i)) (i + 1) (by simp [h1]) (by omega) (take_set_at _ _ _ _ h1 (by omega) (rd_get _ _ (by omega)) h3)
    simpa using this
theorem ev_toIntS (l : List Int) (h : l.length ≤ 1048576) : Ev (fun k => laws_toIntS.f k l) l := by
  simp only [laws_toIntS.f, if_pos (show (0 : Int) ≤ l.length by omega), if_pos (show (l.length : Int).toNat ≤ 35184372088832 by omega)]
  exact ev_toIntS_l0 l h l.length _ 0 (by simp) (by omega) (by simp)

theorem ev_laws_toIntSS_l0 (x0 : List (List Int)) (hl : x0.length ≤ 1048576) (hs : ∀ x ∈ x0, x.length ≤ 1048576) : ∀ (d : Nat) (x3 : List (List Int)) (i : Nat), x3.length = x0.length → i + d = x0.length → x3.take i = (x0.map id).take i → Ev (fun k => laws_toIntSS.l0 k x0 x3 i) (x0.map id) := by
  intro d
  induction d with
  | zero =>
    intro x3 i h1 h2 h3
    apply Ev.step
    · intro k; rw [laws_toIntSS.l0]
    simp only [if_neg (show ¬ ((i : Int) < x0.length) by omega)]
    rw [take_eq_all (xs := x0.map id) (by simpa using h1) (by simp; omega) h3]
    exact Ev.now _
  | succ d ih =>
    intro x3 i h1 h2 h3
    have hg : x0[i]? = some (rd_L1 x0 (i : Int)) := by simp [rd_L1, show i < x0.length by omega]
    have hm := hs _ (List.mem_of_getElem? hg)
    apply Ev.step
    · intro k; rw [laws_toIntSS.l0]
    simp only [if_pos (show (i : Int) < x0.length by omega), if_pos (show (0 : Int) ≤ i by omega)]
    refine Ev.bind (ev_toIntS _ hm) ?_
    simp only [if_pos (show (i : Int) < x3.length by omega), w64 (x := (i : Int) + 1) (by omega)]
    have := ih (x3.set i (rd_L1 x0 (i : Int))) (i + 1) (by simp [h1]) (by omega) (take_set_at (x0.map id) _ _ _ (by simpa using h1) (by simp; omega) (by rw [List.getElem?_map, hg]; rfl) h3)
    first | (simpa using this) | (simpa [id] using this)
theorem ev_laws_toIntSS (l : List (List Int)) (h : SmallIntSS l) : Ev (fun k => laws_toIntSS.f k l) (l.map id) := by
  have h1 := h.1
  simp only [laws_toIntSS.f, if_pos (show (0 : Int) ≤ l.length by omega), if_pos (show (l.length : Int).toNat ≤ 11728124029610 by omega)]
  exact ev_laws_toIntSS_l0 l h.1 h.2 l.length _ 0 (by simp) (by omega) (by simp)

theorem ev_spec_ColumnOf_l0 (x0 : List (List Int)) (c : Int) (h0 : 0 ≤ c) (hl : x0.length ≤ 1048576) : ∀ (d : Nat) (acc : List Int) (i : Nat), i + d = x0.length → acc.length ≤ i → Ev (fun k => spec_ColumnOf.l0 k x0 c acc i) (acc ++ colFrom c (x0.drop i)) := by
  intro d
  induction d with
  | zero =>
    intro acc i h1 h2
    apply Ev.step
    · intro k; rw [spec_ColumnOf.l0]
    simp only [if_neg (show ¬ ((i : Int) < x0.length) by omega)]
    rw [List.drop_eq_nil_of_le (by omega), colFrom, List.append_nil]
    exact Ev.now _
  | succ d ih =>
    intro acc i h1 h2
    have hd : x0.drop i = rd_L1 x0 i :: x0.drop (i + 1) := by rw [drop_getD x0 [] i (by omega)]; simp [rd_L1]
    have i1 := ih (acc ++ [rd (rd_L1 x0 i) c]) (i + 1) (by omega) (by simp; omega)
    have i2 := ih acc (i + 1) (by omega) (by omega)
    apply Ev.step
    · intro k; rw [spec_ColumnOf.l0]
    simp only [if_pos (show (i : Int) < x0.length by omega), if_pos (show (0 : Int) ≤ i by omega), if_pos h0, if_pos (show acc.length < 17592186044416 by omega), w64 (x := (i : Int) + 1) (by omega)]
    rw [hd, colFrom]
    refine Ev_ite (fun h3 => ?_) (fun h3 => ?_)
    · rw [if_pos h3]; simpa using i1
    · rw [if_neg h3]; simpa using i2
theorem ev_spec_ColumnOf (l : List (List Int)) (c : Int) (hl : l.length ≤ 1048576) : Ev (fun k => spec_ColumnOf.f k l c) (colOf c l) := by
  simp only [spec_ColumnOf.f, colOf]
  refine Ev_ite (fun h => ?_) (fun h => ?_)
  · rw [if_pos h]; exact Ev.now _
  · rw [if_neg h]; simpa using ev_spec_ColumnOf_l0 l c (by omega) hl l.length [] 0 (by omega) (by simp)

theorem holds : ∀ (l0 : List (List (Int))) (a1 : Int), (l0.length ≤ 9223372036854775807 ∧ ∀ yl0 ∈ l0, (yl0.length ≤ 9223372036854775807 ∧ ∀ yyl0 ∈ yl0, (Lit.int .i64 yyl0).wf = true)) → (Lit.int .i64 a1).wf = true → ∃ k, laws_FnExactColumnOf.Facts k l0 a1 := by
  intro l c hl hc
  obtain ⟨q, he, g1, g2, g3⟩ := ev_laws_szIntSS l 1048576 (by omega) (by omega) hl.1 (fun x hx => (hl.2 x hx).1)
  by_cases hq : q < 0
  · obtain ⟨k, hk⟩ := he.rounds
    exact ⟨k, .inl ⟨q, hk, hq⟩⟩
  have hS := g3 (by omega)
  have hto := ev_laws_toIntSS l hS
  rw [List.map_id] at hto
  have hS1 := hS.1
  have hcl := colOf_length c l
  obtain ⟨L, hL, hm, hh⟩ := ev_intS (colOf c l) 1 (by omega) (by omega)
  have hmr := markEnd_range l 1 hS.2
  obtain ⟨k1, e1⟩ := he
  obtain ⟨k2, e2⟩ := hto
  obtain ⟨k3, e3⟩ := ev_spec_ColumnOf l c (by omega)
  obtain ⟨k4, e4⟩ := ev_impl_ColumnOf l c (by omega) hS.2
  obtain ⟨k5, e5⟩ := ev_eqIntS (colOf c l) (by omega)
  obtain ⟨k6, e6⟩ := ev_laws_eqIntSS l (by omega) (fun x hx => by have := hS.2 x hx; omega)
  obtain ⟨k7, e7⟩ := ev_markIntSS l (by omega) hS.2
  obtain ⟨k8, e8⟩ := hm
  obtain ⟨k9, e9⟩ := hh
  let k := k1 + k2 + k3 + k4 + k5 + k6 + k7 + k8 + k9
  refine ⟨k, .inr ⟨q, l, colOf c l, markEnd 1 l, markSS 1 l, _, L, e1 k (by omega), hq, e2 k (by omega), e3 k (by omega), e4 k (by omega), e5 k (by omega), e6 k (by omega), e7 k (by omega), by omega, e8 k (by omega), e9 k (by omega), by omega⟩⟩

end EFnExactColumnOf
open Go.RowKit Go.Proofs.YtlkgppihnolcmaaW.PrintWords Go.Proofs.YtlkgppihnolcmaaW.PrintLast Go.Proofs.YtlkgppihnolcmaaW.PrintMore Go.Proofs.Ytlkgppihnolcmaa.Lib Go.Proofs.Ytlkgppihnolcmaa.Q
theorem FnExactColumnOf : ∀ (l0 : List (List (Int))) (a1 : Int), (l0.length ≤ 9223372036854775807 ∧ ∀ yl0 ∈ l0, (yl0.length ≤ 9223372036854775807 ∧ ∀ yyl0 ∈ yl0, (Lit.int .i64 yyl0).wf = true)) → (Lit.int .i64 a1).wf = true → ∃ k, laws_FnExactColumnOf.Facts k l0 a1 := EFnExactColumnOf.holds
end Go.Proofs.Ytlkgppihnolcmaa.Pure
