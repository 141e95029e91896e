/- slices.SortFunc at rows of numbers, by slices.Compare: the library's contract at this program, told of rows of a call's own. Written by a program of this session. -/
import Derived.Test.YtbdfidnldaghbaaQx90
import Derived.Test.YtbdfidnldaghbaaSortF
import Derived.Test.YtbdfidnldaghbaaLib
set_option linter.unusedVariables false
set_option linter.unusedSimpArgs false
namespace Go.Proofs.Ytbdfidnldaghbaa.Q
open Go Go.RowKit Go.Sort Go.Shelf Go.Proofs.Ytbdfidnldaghbaa.Lib Go.Proofs.Ytbdfidnldaghbaa.Own Go.Proofs.YtbdfidnldaghbaaW.PrintWords Go.Proofs.YtbdfidnldaghbaaW.PrintLast Go.Proofs.YtbdfidnldaghbaaW.PrintMore
def laySF_ren : Go.Shelf.Ren := ⟨fun | 6 => 51 | 15 => 98 | 14 => 97 | 28 => 129 | 29 => 130 | 20 => 121 | 21 => 122 | 22 => 123 | 23 => 124 | 24 => 125 | 25 => 126 | 26 => 127 | 27 => 128 | 46 => 143 | 47 => 144 | 48 => 145 | 49 => 146 | 50 => 147 | 57 => 153 | n => n, fun | 22 => 22 | 24 => 29 | 25 => 64 | 3 => 3 | 39 => 93 | 0 => 0 | 53 => 116 | 55 => 118 | 4 => 4 | 46 => 109 | 45 => 108 | 50 => 113 | 5 => 5 | 9 => 9 | 66 => 128 | 70 => 132 | 76 => 137 | 77 => 71 | n => n, fun n => n⟩
theorem laySF : SlLaysF.n6 Try.prog laySF_ren := { mixed := by kernel_rfl, f6 := ⟨Try.f51.name, by kernel_rfl, Try.func51.trans (congrArg some (by kernel_rfl))⟩, f14 := ⟨Try.f97.name, by kernel_rfl, Try.func97.trans (congrArg some (by kernel_rfl))⟩, f15 := Try.func98.trans (congrArg some (by kernel_rfl)), f20 := ⟨Try.f121.name, by kernel_rfl, Try.func121.trans (congrArg some (by kernel_rfl))⟩, f21 := ⟨Try.f122.name, by kernel_rfl, Try.func122.trans (congrArg some (by kernel_rfl))⟩, f22 := ⟨Try.f123.name, by kernel_rfl, Try.func123.trans (congrArg some (by kernel_rfl))⟩, f23 := ⟨Try.f124.name, by kernel_rfl, Try.func124.trans (congrArg some (by kernel_rfl))⟩, f24 := ⟨Try.f125.name, by kernel_rfl, Try.func125.trans (congrArg some (by kernel_rfl))⟩, f25 := ⟨Try.f126.name, by kernel_rfl, Try.func126.trans (congrArg some (by kernel_rfl))⟩, f26 := ⟨Try.f127.name, by kernel_rfl, Try.func127.trans (congrArg some (by kernel_rfl))⟩, f27 := ⟨Try.f128.name, by kernel_rfl, Try.func128.trans (congrArg some (by kernel_rfl))⟩, f28 := Try.func129.trans (congrArg some (by kernel_rfl)), f29 := Try.func130.trans (congrArg some (by kernel_rfl)), f46 := ⟨Try.f143.name, by kernel_rfl, Try.func143.trans (congrArg some (by kernel_rfl))⟩, f47 := Try.func144.trans (congrArg some (by kernel_rfl)), f48 := Try.func145.trans (congrArg some (by kernel_rfl)), f49 := ⟨Try.f146.name, by kernel_rfl, Try.func146.trans (congrArg some (by kernel_rfl))⟩, f50 := ⟨Try.f147.name, by kernel_rfl, Try.func147.trans (congrArg some (by kernel_rfl))⟩, f57 := ⟨Try.f153.name, by kernel_rfl, Try.func153.trans (congrArg some (by kernel_rfl))⟩, t0 := Try.underlying0, a0 := Try.isAgg0, z0 := Try.sizeOf0, v0 := Try.zeroValue0, t3 := Try.underlying3, a3 := Try.isAgg3, z3 := Try.sizeOf3, v3 := Try.zeroValue3, t4 := Try.underlying4, a4 := Try.isAgg4, z4 := Try.sizeOf4, v4 := Try.zeroValue4, t5 := Try.underlying5, a5 := Try.isAgg5, z5 := Try.sizeOf5, v5 := Try.zeroValue5, t9 := Try.underlying9, a9 := Try.isAgg9, z9 := Try.sizeOf9, v9 := Try.zeroValue9, t22 := Try.underlying22, a22 := Try.isAgg22, z22 := Try.sizeOf22, v22 := Try.zeroValue22, a24 := Try.isAgg29, z24 := Try.sizeOf29, t25 := Try.underlying64, a25 := Try.isAgg64, z25 := Try.sizeOf64, v25 := Try.zeroValue64, t39 := Try.underlying93, a39 := Try.isAgg93, z39 := Try.sizeOf93, v39 := Try.zeroValue93, t45 := Try.underlying108, a45 := Try.isAgg108, z45 := Try.sizeOf108, v45 := Try.zeroValue108, t46 := Try.underlying109, a46 := Try.isAgg109, z46 := Try.sizeOf109, v46 := Try.zeroValue109, t50 := Try.underlying113, a50 := Try.isAgg113, z50 := Try.sizeOf113, v50 := Try.zeroValue113, t53 := Try.underlying116, a53 := Try.isAgg116, z53 := Try.sizeOf116, v53 := Try.zeroValue116, t55 := Try.underlying118, a55 := Try.isAgg118, z55 := Try.sizeOf118, v55 := Try.zeroValue118, t66 := Try.underlying128, a66 := Try.isAgg128, z66 := Try.sizeOf128, v66 := Try.zeroValue128, t70 := Try.underlying132, a70 := Try.isAgg132, z70 := Try.sizeOf132, v70 := Try.zeroValue132, t76 := Try.underlying137, a76 := Try.isAgg137, z76 := Try.sizeOf137, v76 := Try.zeroValue137, t77 := Try.underlying71, a77 := Try.isAgg71, z77 := Try.sizeOf71, v77 := Try.zeroValue71 }
theorem cmpL_lt : ∀ (a b : List Int), cmpL a b < 0 ↔ a < b
  | [], [] => by simp [cmpL]
  | [], y :: b => by simp [cmpL]
  | x :: a, [] => by simp [cmpL]
  | x :: a, y :: b => by
    rw [List.cons_lt_cons_iff, cmpL]
    by_cases h : x < y
    · simp [h]
    · by_cases h2 : y < x
      · rw [if_neg h, if_pos h2]; constructor
        · intro h; omega
        · rintro (h3 | ⟨h3, _⟩)
          · exact absurd h3 h
          · omega
      · rw [if_neg h, if_neg h2]
        have : x = y := by omega
        rw [cmpL_lt a b]; simp [this]
theorem cmpL_le (a b : List Int) : ¬ cmpL b a < 0 ↔ a ≤ b := by rw [cmpL_lt]; exact List.not_lt
def sortR (xs : List (List Int)) : List (List Int) := xs.mergeSort fun x y => decide (x ≤ y)
def insR (x : List Int) : List (List Int) → List (List Int)
  | [] => [x]
  | y :: ys => if x < y then x :: y :: ys else y :: insR x ys
theorem insR_perm (x : List Int) : ∀ l, (insR x l).Perm (x :: l)
  | [] => List.Perm.refl _
  | y :: ys => by
    unfold insR
    by_cases h : x < y
    · rw [if_pos h]
    · rw [if_neg h]
      exact ((insR_perm x ys).cons y).trans (List.Perm.swap x y ys)
theorem insR_sorted (x : List Int) : ∀ l : List (List Int), l.Pairwise (· ≤ ·) → (insR x l).Pairwise (· ≤ ·)
  | [], _ => by simp [insR]
  | y :: ys, hs => by
    obtain ⟨h1, h2⟩ := List.pairwise_cons.1 hs
    unfold insR
    by_cases h : x < y
    · rw [if_pos h]
      refine List.pairwise_cons.2 ⟨fun z hz => ?_, hs⟩
      rcases List.mem_cons.1 hz with rfl | hz
      · exact List.le_of_lt h
      · exact List.le_trans (List.le_of_lt h) (h1 z hz)
    · rw [if_neg h]
      refine List.pairwise_cons.2 ⟨fun z hz => ?_, insR_sorted x ys h2⟩
      rcases List.mem_cons.1 ((insR_perm x ys).mem_iff.1 hz) with rfl | hz
      · exact List.not_lt.1 h
      · exact h1 z hz
theorem sorted_perm_eq : ∀ (a b : List (List Int)), a.Pairwise (· ≤ ·) → b.Pairwise (· ≤ ·) → a.Perm b → a = b
  | [], b, _, _, h => h.nil_eq
  | x :: xs, [], _, _, h => by have := h.length_eq; simp at this
  | x :: xs, y :: ys, ha, hb, h => by
    obtain ⟨a1, a2⟩ := List.pairwise_cons.1 ha
    obtain ⟨b1, b2⟩ := List.pairwise_cons.1 hb
    have hxy : x = y := by
      have q1 : x ∈ y :: ys := h.mem_iff.1 List.mem_cons_self
      have q2 : y ∈ x :: xs := h.mem_iff.2 List.mem_cons_self
      rcases List.mem_cons.1 q1 with e | e
      · exact e
      rcases List.mem_cons.1 q2 with e2 | e2
      · exact e2.symm
      · exact List.le_antisymm (a1 y e2) (b1 x e)
    subst hxy
    rw [sorted_perm_eq xs ys a2 b2 (List.Perm.cons_inv h)]
theorem sortR_sorted (xs : List (List Int)) : (sortR xs).Pairwise (· ≤ ·) := by
  have := List.pairwise_mergeSort (le := fun x y : List Int => decide (x ≤ y)) (fun a b c hab hbc => by simp only [decide_eq_true_eq] at *; exact List.le_trans hab hbc) (fun a b => by simp only [Bool.or_eq_true, decide_eq_true_eq]; exact List.le_total a b) xs
  exact this.imp (fun h => by simpa using h)
theorem sortR_perm (xs : List (List Int)) : (sortR xs).Perm xs := List.mergeSort_perm _ _
theorem sortR_unique {xs ys : List (List Int)} (hp : ys.Perm xs) (hs : ys.Pairwise (· ≤ ·)) : ys = sortR xs := sorted_perm_eq _ _ hs (sortR_sorted xs) (hp.trans (sortR_perm xs).symm)
theorem fold_ins : ∀ (xs acc : List (List Int)), acc.Pairwise (· ≤ ·) → (xs.foldl (fun o x => insR x o) acc).Pairwise (· ≤ ·) ∧ (xs.foldl (fun o x => insR x o) acc).Perm (acc ++ xs)
  | [], acc, h => ⟨h, by simp⟩
  | x :: xs, acc, h => by
    obtain ⟨h1, h2⟩ := fold_ins xs (insR x acc) (insR_sorted x acc h)
    refine ⟨h1, h2.trans ?_⟩
    have := (insR_perm x acc).append_right xs
    refine this.trans ?_
    exact (List.perm_middle (l₁ := acc) (l₂ := xs) (a := x)).symm
theorem ins_eq (xs : List (List Int)) : xs.foldl (fun o x => insR x o) [] = sortR xs := by
  obtain ⟨h1, h2⟩ := fold_ins xs [] List.Pairwise.nil
  exact sortR_unique (by simpa using h2) h1
theorem swoL : (∀ x : List Int, decide (cmpL x x < 0) = false) ∧ (∀ x y z : List Int, decide (cmpL x y < 0) = true → decide (cmpL y z < 0) = true → decide (cmpL x z < 0) = true) ∧ (∀ x y z : List Int, decide (cmpL x y < 0) = false → decide (cmpL y z < 0) = false → decide (cmpL x z < 0) = false) := by
  refine ⟨fun x => ?_, fun x y z h1 h2 => ?_, fun x y z h1 h2 => ?_⟩
  · simp [cmpL_lt, List.lt_irrefl]
  · simp only [decide_eq_true_eq, cmpL_lt] at *
    exact List.lt_trans h1 h2
  · simp only [decide_eq_false_iff_not, cmpL_lt] at *
    exact List.not_lt.2 (List.le_trans (List.not_lt.1 h2) (List.not_lt.1 h1))
namespace SortEv

theorem cmp_int_eq (a b : Int) : cmp_Compare_int.f a b = some (if a < b then -1 else if b < a then 1 else 0) := by
  simp only [cmp_Compare_int.f, cmp_isNaN_int.f, Option.bind_some]
  by_cases h : a < b
  · simp [h]
  · by_cases h2 : b < a <;> simp [h, h2]

theorem ev_Compare_l0 (a b : List Int) (ha : a.length ≤ 1099511627776) (hb : b.length ≤ 1099511627776) : ∀ (d i : Nat), i + d = a.length → i ≤ b.length → Ev (fun k => slices_Compare_int_int.l0 k a b a (a.length : Int) i) (cmpL (a.drop i) (b.drop i)) := by
  intro d
  induction d with
  | zero =>
    intro i h hib
    apply Ev.step
    · intro k; rw [slices_Compare_int_int.l0]
    simp only [if_neg (show ¬ ((i : Int) < a.length) by omega), drop_nil' (show a.length ≤ i by omega)]
    refine Ev.const ?_
    by_cases hb' : i < b.length
    · rw [drop_rd b i hb', if_pos (by omega)]; rfl
    · rw [drop_nil' (show b.length ≤ i by omega), if_neg (by omega)]; rfl
  | succ d ih =>
    intro i h hib
    rw [drop_rd a i (by omega)]
    apply Ev.step
    · intro k; rw [slices_Compare_int_int.l0]
    simp only [if_pos (show (i : Int) < a.length by omega), if_pos (show (0 : Int) ≤ i by omega)]
    by_cases hb' : i < b.length
    · have ih' := ih (i + 1) (by omega) (by omega)
      rw [drop_rd b i hb']
      simp only [if_neg (show ¬ (i : Int) ≥ b.length by omega), if_pos (show (i : Int) < b.length by omega), cmp_int_eq, Option.bind_some, w64 (x := (i : Int) + 1) (by omega), cmpL]
      by_cases h1 : rd a i < rd b i
      · simp only [if_pos h1]
        exact Ev.const (by simp)
      · by_cases h2 : rd b i < rd a i
        · simp only [if_neg h1, if_pos h2]
          exact Ev.const (by simp)
        · simp only [if_neg h1, if_neg h2, if_true]
          simpa using ih'
    · rw [drop_nil' (show b.length ≤ i by omega)]
      simp only [if_pos (show (i : Int) ≥ b.length by omega), cmpL]
      exact Ev.now _
theorem ev_Compare (a b : List Int) (ha : a.length ≤ 1099511627776) (hb : b.length ≤ 1099511627776) : Ev (fun k => slices_Compare_int_int.f k a b) (cmpL a b) := by
  simpa [slices_Compare_int_int.f] using ev_Compare_l0 a b ha hb a.length 0 (by omega) (by omega)

end SortEv
theorem compare_has (a b : List Int) (ha : a.length ≤ 1099511627776) (hb : b.length ≤ 1099511627776) : ∃ k, slices_Compare_int_int.f k a b = some (cmpL a b) := let ⟨K, h⟩ := SortEv.ev_Compare a b ha hb; ⟨K, h K (Nat.le_refl _)⟩

theorem sort_rows (w w1 : World) (v : Value) (xs : List (List Int)) (HO : Kd.S (Kd.slice 3 (Kd.int .i64)) 29 w1 w.heap.size (fun _ => True) v xs) (HB : Below w.heap.size w w1) (hl : xs.length ≤ 1099511627776 ∧ ∀ x ∈ xs, x.length ≤ 1099511627776) :
    Calls Try.prog 51 #[v, .func (.func 52) #[] #[]] w1 fun e w' => e = .returned (.tuple #[]) ∧ Kd.S (Kd.slice 3 (Kd.int .i64)) 29 w' w.heap.size (fun _ => True) v (sortR xs) ∧ Below w.heap.size w w' := by
  have h := sortF_row (d := Kd.slice 3 (Kd.int .i64)) laySF rfl 29 52 cmpL ⟨swoL.1, swoL.2.1, swoL.2.2⟩ (enters_of Try.func52 (by kernel_rfl) rfl) xs
    (by
      intro W x y cx cy hx hy kx ky
      obtain ⟨A0, c0, e0, h0, r0⟩ := kx
      obtain ⟨A1, c1, e1, h1, r1⟩ := ky
      obtain rfl : cx = _ := (List.cons.inj e0).1
      obtain rfl : cy = _ := (List.cons.inj e1).1
      obtain ⟨k, hk⟩ := compare_has x y (hl.2 x hx) (hl.2 y hy)
      refine (slices_Compare_int_int.calls k A0 c0 x A1 c1 y (cmpL x y) W r0 h0 r1 h1 hk).mono ?_
      rintro e w' ⟨rfl, ⟨⟨q, rfl⟩⟩⟩
      exact ⟨rfl, q, rfl⟩) w w1 v HO HB hl.1
  refine h.mono ?_
  rintro e w' ⟨rfl, ys, hp, hs, hS, hB⟩
  obtain rfl := sortR_unique hp (hs.imp (fun h => (cmpL_le _ _).1 h))
  exact ⟨rfl, hS, hB⟩
end Go.Proofs.Ytbdfidnldaghbaa.Q
