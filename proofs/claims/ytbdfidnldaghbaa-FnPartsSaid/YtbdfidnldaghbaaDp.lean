/- What the draws may give, in plain Lean: within which bounds. -/
import Derived.Test.YtbdfidnldaghbaaQx1
import Derived.Test.YtbdfidnldaghbaaLib
set_option linter.unusedVariables false
set_option linter.unusedSimpArgs false
namespace Go.Proofs.Ytbdfidnldaghbaa.Dp
open Go.RowKit Go.Proofs.YtbdfidnldaghbaaW.PrintWords Go.Proofs.YtbdfidnldaghbaaW.PrintLast Go.Proofs.YtbdfidnldaghbaaW.PrintMore Go.Proofs.Ytbdfidnldaghbaa.Lib Go.Proofs.Ytbdfidnldaghbaa.Q
theorem and255 (x : Int) : 0 ≤ Go.bits .and .i64 x 255 ∧ Go.bits .and .i64 x 255 ≤ 255 := by
  have h : (BitVec.ofInt 64 x).toNat &&& (BitVec.ofInt 64 255).toNat ≤ 255 := Nat.le_trans Nat.and_le_right (by decide)
  have e : Go.bits .and .i64 x 255 = IntKind.i64.wrap (((BitVec.ofInt 64 x).toNat &&& (BitVec.ofInt 64 255).toNat : Nat) : Int) := by
    show IntKind.i64.wrap ((((BitVec.ofInt 64 x) &&& (BitVec.ofInt 64 255)).toNat : Nat) : Int) = _
    rw [BitVec.toNat_and]
  rw [e, i64_small (by omega)]
  omega
theorem dr_byte (c : List Int) (i h : Int) (hc : c.length ≤ 1099511627776) (hi : 0 ≤ i) : ∃ v i' h', spec_l01Byte.f c i h = some (v, i', h') ∧ 0 ≤ i' ∧ 0 ≤ v ∧ v ≤ 255 := by
  unfold spec_l01Byte.f
  by_cases h1 : i < (c.length : Int)
  · simp only [if_pos h1, if_pos hi, w64 (x := i + 1) (by omega)]
    exact ⟨_, _, _, rfl, by omega, (and255 _).1, (and255 _).2⟩
  · simp only [if_neg h1]
    exact ⟨_, _, _, rfl, hi, (and255 _).1, (and255 _).2⟩
theorem dr_below (c : List Int) (i h n : Int) (hc : c.length ≤ 1099511627776) (hi : 0 ≤ i) : ∃ v i' h', spec_l01Below.f c i h n = some (v, i', h') ∧ 0 ≤ i' ∧ 0 ≤ v ∧ (0 < n → v < n) ∧ (n ≤ 0 → v = 0) := by
  unfold spec_l01Below.f
  by_cases h1 : n ≤ 0
  · simp only [if_pos h1]
    exact ⟨_, _, _, rfl, hi, by omega, by omega, fun _ => rfl⟩
  simp only [if_neg h1, if_neg (show ¬ n = 0 by omega)]
  obtain ⟨v, i1, h2, e1, p1, q1, r1⟩ := dr_byte c i h hc hi
  by_cases h3 : n ≤ 256
  · simp only [if_pos h3, e1, Option.bind_some]
    refine ⟨_, _, _, rfl, p1, ?_, ?_, ?_⟩
    · rw [tmod_nn q1]; exact Int.emod_nonneg _ (by omega)
    · intro h; rw [tmod_nn q1]; exact Int.emod_lt_of_pos _ h
    · omega
  · obtain ⟨v2, i2, h4, e2, p2, q2, r2⟩ := dr_byte c i1 h2 hc p1
    obtain ⟨v3, i3, h5, e3, p3, q3, r3⟩ := dr_byte c i2 h4 hc p2
    simp only [if_neg h3, e1, e2, e3, Option.bind_some, w64 (x := v * 65536) (by omega), w64 (x := v2 * 256) (by omega), w64 (x := v * 65536 + v2 * 256) (by omega), w64 (x := v * 65536 + v2 * 256 + v3) (by omega)]
    have q4 : 0 ≤ v * 65536 + v2 * 256 + v3 := by omega
    refine ⟨_, _, _, rfl, p3, ?_, ?_, ?_⟩
    · rw [tmod_nn q4]; exact Int.emod_nonneg _ (by omega)
    · intro h; rw [tmod_nn q4]; exact Int.emod_lt_of_pos _ h
    · omega
theorem dr_once (c : List Int) (i h n : Int) (hc : c.length ≤ 1099511627776) (hi : 0 ≤ i) : ∃ b i' h', spec_l01Once.f c i h n = some (b, i', h') ∧ 0 ≤ i' := by
  unfold spec_l01Once.f
  obtain ⟨v, i1, h2, e1, p1, _⟩ := dr_below c i h n hc hi
  simp only [e1, Option.bind_some]
  exact ⟨_, _, _, rfl, p1⟩
theorem dr_size (c : List Int) (m : Int) (hc : c.length ≤ 1099511627776) (hm : 2 ≤ m) : ∃ n, spec_l01Size.f c m = some n ∧ 2 ≤ n ∧ n ≤ m := by
  unfold spec_l01Size.f
  simp only [w64 (x := (c.length : Int) / 16) (by omega), w64 (x := 2 + (c.length : Int) / 16) (by omega)]
  by_cases h : 2 + (c.length : Int) / 16 > m
  · rw [if_pos h]; exact ⟨_, rfl, hm, by omega⟩
  · rw [if_neg h]; exact ⟨_, rfl, by omega, by omega⟩
theorem dr_new_l0 (c : List Int) (hc : c.length ≤ 1099511627776) : ∀ (d : Nat) (i : Nat) (h : Int), i + d = c.length → ∃ h', Ev (fun k => spec_l01New.l0 k c h i) (c, 0, h') := by
  intro d
  induction d with
  | zero =>
    intro i h hd
    refine ⟨h, ?_⟩
    apply Ev.step
    · intro k; rw [spec_l01New.l0]
    simp only [if_neg (show ¬ ((i : Int) < c.length) by omega)]
    exact Ev.now _
  | succ d ih =>
    intro i h hd
    by_cases h1 : (i : Int) < 4000
    · obtain ⟨h', e⟩ := ih (i + 1) (Go.bits .and .i64 (wrap64 ((wrap64 ((wrap64 (h * 149)) + (wrap64 (rd c i)))) + 11)) 1073741823) (by omega)
      refine ⟨h', ?_⟩
      apply Ev.step
      · intro k; rw [spec_l01New.l0]
      simp only [if_pos (show (i : Int) < c.length by omega), if_pos h1, if_pos (show (0 : Int) ≤ i by omega), w64 (x := (i : Int) + 1) (by omega)]
      exact e
    · refine ⟨h, ?_⟩
      apply Ev.step
      · intro k; rw [spec_l01New.l0]
      simp only [if_pos (show (i : Int) < c.length by omega), if_neg h1]
      exact Ev.now _
theorem dr_new (c : List Int) (hc : c.length ≤ 1099511627776) : ∃ h, Ev (fun k => spec_l01New.f k c) (c, 0, h) := by
  obtain ⟨h, e⟩ := dr_new_l0 c hc c.length 0 (wrap64 (844844 + (c.length : Int))) (by omega)
  exact ⟨h, by simpa [spec_l01New.f] using e⟩

theorem dr_pick (c : List Int) (i h : Int) (l : List Int) (hc : c.length ≤ 1099511627776) (hi : 0 ≤ i) (hl : 0 < l.length) : ∃ v i' h', spec_l01PickInt.f c i h l = some (v, i', h') ∧ 0 ≤ i' ∧ v ∈ l := by
  unfold spec_l01PickInt.f
  obtain ⟨v, i1, h2, e1, p1, q1, r1, _⟩ := dr_below c i h l.length hc hi
  have r2 := r1 (by omega)
  simp only [e1, Option.bind_some, if_pos q1, if_pos r2]
  exact ⟨_, _, _, rfl, p1, rd_mem q1 r2⟩

theorem rdT_memN {p : List S58} {i : Nat} (h : i < p.length) : rd_T58 p i ∈ p := by
  have := getD_mem (z := z58) h
  simpa [rd_T58] using this


theorem take_rdT (p : List S58) (i : Nat) (h : i < p.length) : p.take i ++ [rd_T58 p i] = p.take (i + 1) := by
  rw [List.take_add_one]
  simp [rd_T58, h]

theorem ev_spec_l01Copy_l0 (x0 : List Int) (hl : x0.length ≤ 1048576) : ∀ (d i : Nat), i + d = x0.length → Ev (fun k => spec_l01Copy.l0 k x0 (x0.take i) i) x0 := by
  intro d
  induction d with
  | zero =>
    intro i h
    apply Ev.step
    · intro k; rw [spec_l01Copy.l0]
    simp only [if_neg (show ¬ ((i : Int) < x0.length) by omega)]
    rw [List.take_of_length_le (by omega)]
    exact Ev.now _
  | succ d ih =>
    intro i h
    have ih' := ih (i + 1) (by omega)
    apply Ev.step
    · intro k; rw [spec_l01Copy.l0]
    simp only [if_pos (show (i : Int) < x0.length by omega), if_pos (show (0 : Int) ≤ i by omega), if_pos (show (x0.take i).length < 17592186044416 by simp; omega), w64 (x := (i : Int) + 1) (by omega), take_rd x0 i (by omega)]
    simpa using ih'
theorem ev_spec_l01Copy (l : List Int) (hl : l.length ≤ 1048576) : Ev (fun k => spec_l01Copy.f k l) l := by
  simpa [spec_l01Copy.f] using ev_spec_l01Copy_l0 l hl l.length 0 (by omega)

theorem ev_spec_l02Copy_l0 (x0 : List S58) (hl : x0.length ≤ 1048576) (hs : ∀ x ∈ x0, x.f6.length ≤ 1048576) : ∀ (d i : Nat), i + d = x0.length → Ev (fun k => spec_l02Copy.l0 k x0 (x0.take i) i) x0 := by
  intro d
  induction d with
  | zero =>
    intro i h
    apply Ev.step
    · intro k; rw [spec_l02Copy.l0]
    simp only [if_neg (show ¬ ((i : Int) < x0.length) by omega)]
    rw [List.take_of_length_le (by omega)]
    exact Ev.now _
  | succ d ih =>
    intro i h
    have ih' := ih (i + 1) (by omega)
    have hm := hs _ (rdT_memN (p := x0) (i := i) (by omega))
    rw [← take_rdT x0 i (by omega)] at ih'
    apply Ev.step
    · intro k; rw [spec_l02Copy.l0]
    simp only [if_pos (show (i : Int) < x0.length by omega), if_pos (show (0 : Int) ≤ i by omega), if_pos (show (x0.take i).length < 1759218604441 by simp; omega), w64 (x := (i : Int) + 1) (by omega)]
    refine Ev_ite (fun h1 => ?_) (fun h1 => ?_)
    · refine Ev.bind (ev_spec_l01Copy _ hm) ?_
      simpa using ih'
    · have e : (rd_T58 x0 (i : Int)).f6 = [] := List.eq_nil_of_length_eq_zero (by omega)
      rw [show (⟨(rd_T58 x0 (i : Int)).f0, (rd_T58 x0 (i : Int)).f1, (rd_T58 x0 (i : Int)).f2, (rd_T58 x0 (i : Int)).f3, (rd_T58 x0 (i : Int)).f4, (rd_T58 x0 (i : Int)).f5, ([] : List Int)⟩ : S58) = rd_T58 x0 (i : Int) by rw [← e]]
      simpa using ih'
theorem ev_spec_l02Copy (l : List S58) (hl : l.length ≤ 1048576) (hs : ∀ x ∈ l, x.f6.length ≤ 1048576) : Ev (fun k => spec_l02Copy.f k l) l := by
  simpa [spec_l02Copy.f] using ev_spec_l02Copy_l0 l hl hs l.length 0 (by omega)

theorem ev_spec_l02Joined3 (a b c : List S58) (la : a.length ≤ 1048576) (lb : b.length ≤ 1048576) (lc : c.length ≤ 1048576) (ha : ∀ x ∈ a, x.f6.length ≤ 1048576) (hb : ∀ x ∈ b, x.f6.length ≤ 1048576) (hc : ∀ x ∈ c, x.f6.length ≤ 1048576) : Ev (fun k => spec_l02Joined.f k [a, b, c]) (a ++ b ++ c) := by
  simp only [spec_l02Joined.f]
  apply Ev.step
  · intro k; rw [spec_l02Joined.l0]
  simp only [if_pos (show (0 : Int) < (([a, b, c] : List (List S58)).length : Int) by simp), if_pos (Int.le_refl 0)]
  refine Ev.bind (ev_spec_l02Copy a la ha) ?_
  simp only [if_pos (show ([] : List S58).length + a.length < 1759218604441 by simp only [List.length_nil]; omega), w64 (x := (0 : Int) + 1) (by omega), List.nil_append]
  apply Ev.step
  · intro k; rw [spec_l02Joined.l0]
  simp only [if_pos (show (0 : Int) + 1 < (([a, b, c] : List (List S58)).length : Int) by simp), if_pos (show (0 : Int) ≤ 0 + 1 by omega)]
  refine Ev.bind (ev_spec_l02Copy b lb hb) ?_
  simp only [if_pos (show a.length + b.length < 1759218604441 by omega), w64 (x := (0 : Int) + 1 + 1) (by omega)]
  apply Ev.step
  · intro k; rw [spec_l02Joined.l0]
  simp only [if_pos (show (0 : Int) + 1 + 1 < (([a, b, c] : List (List S58)).length : Int) by simp), if_pos (show (0 : Int) ≤ 0 + 1 + 1 by omega)]
  refine Ev.bind (ev_spec_l02Copy c lc hc) ?_
  simp only [if_pos (show (a ++ b).length + c.length < 1759218604441 by simp only [List.length_append]; omega), w64 (x := (0 : Int) + 1 + 1 + 1) (by omega)]
  apply Ev.step
  · intro k; rw [spec_l02Joined.l0]
  simp only [if_neg (show ¬ ((0 : Int) + 1 + 1 + 1 < (([a, b, c] : List (List S58)).length : Int)) by simp)]
  exact Ev.now _

theorem ev_spec_l02Joined2 (a b : List S58) (la : a.length ≤ 1048576) (lb : b.length ≤ 1048576) (ha : ∀ x ∈ a, x.f6.length ≤ 1048576) (hb : ∀ x ∈ b, x.f6.length ≤ 1048576) : Ev (fun k => spec_l02Joined.f k [a, b]) (a ++ b) := by
  simp only [spec_l02Joined.f]
  apply Ev.step
  · intro k; rw [spec_l02Joined.l0]
  simp only [if_pos (show (0 : Int) < (([a, b] : List (List S58)).length : Int) by simp), if_pos (Int.le_refl 0)]
  refine Ev.bind (ev_spec_l02Copy a la ha) ?_
  simp only [if_pos (show ([] : List S58).length + a.length < 1759218604441 by simp only [List.length_nil]; omega), w64 (x := (0 : Int) + 1) (by omega), List.nil_append]
  apply Ev.step
  · intro k; rw [spec_l02Joined.l0]
  simp only [if_pos (show (0 : Int) + 1 < (([a, b] : List (List S58)).length : Int) by simp), if_pos (show (0 : Int) ≤ 0 + 1 by omega)]
  refine Ev.bind (ev_spec_l02Copy b lb hb) ?_
  simp only [if_pos (show a.length + b.length < 1759218604441 by omega), w64 (x := (0 : Int) + 1 + 1) (by omega)]
  apply Ev.step
  · intro k; rw [spec_l02Joined.l0]
  simp only [if_neg (show ¬ ((0 : Int) + 1 + 1 < (([a, b] : List (List S58)).length : Int)) by simp)]
  exact Ev.now _

end Go.Proofs.Ytbdfidnldaghbaa.Dp
