/- slices.SortFunc at rows of numbers, by slices.Compare: the library's contract at this program, told of rows of a call's own. Written by a program of this session. -/
import Derived.Test.YtbdfidnldaghbaaGreatDoorQx90
import Derived.Test.YtbdfidnldaghbaaGreatDoorSortF
import Derived.Test.YtbdfidnldaghbaaGreatDoorLib
set_option linter.unusedVariables false
set_option linter.unusedSimpArgs false
namespace Go.Proofs.YtbdfidnldaghbaaGreatDoor.Q
open Go Go.RowKit Go.Sort Go.Shelf Go.Proofs.YtbdfidnldaghbaaGreatDoor.Lib Go.Proofs.YtbdfidnldaghbaaGreatDoor.Own Go.Proofs.YtbdfidnldaghbaaGreatDoorW.PrintWords Go.Proofs.YtbdfidnldaghbaaGreatDoorW.PrintLast Go.Proofs.YtbdfidnldaghbaaGreatDoorW.PrintMore
def laySF_ren : Go.Shelf.Ren := ⟨fun | 6 => 22 | 15 => 36 | 14 => 35 | 28 => 54 | 29 => 55 | 20 => 46 | 21 => 47 | 22 => 48 | 23 => 49 | 24 => 50 | 25 => 51 | 26 => 52 | 27 => 53 | 46 => 65 | 47 => 66 | 48 => 67 | 49 => 68 | 50 => 69 | 57 => 82 | n => n, fun | 22 => 24 | 24 => 28 | 25 => 42 | 3 => 3 | 39 => 57 | 0 => 0 | 53 => 78 | 55 => 80 | 4 => 4 | 46 => 72 | 45 => 71 | 50 => 46 | 5 => 5 | 9 => 9 | 66 => 85 | 70 => 89 | 76 => 105 | 77 => 106 | n => n, fun n => n⟩
theorem laySF : SlLaysF.n6 Tryz.prog laySF_ren := { mixed := by kernel_rfl, f6 := ⟨Tryz.f22.name, by kernel_rfl, Tryz.func22.trans (congrArg some (by kernel_rfl))⟩, f14 := ⟨Tryz.f35.name, by kernel_rfl, Tryz.func35.trans (congrArg some (by kernel_rfl))⟩, f15 := Tryz.func36.trans (congrArg some (by kernel_rfl)), f20 := ⟨Tryz.f46.name, by kernel_rfl, Tryz.func46.trans (congrArg some (by kernel_rfl))⟩, f21 := ⟨Tryz.f47.name, by kernel_rfl, Tryz.func47.trans (congrArg some (by kernel_rfl))⟩, f22 := ⟨Tryz.f48.name, by kernel_rfl, Tryz.func48.trans (congrArg some (by kernel_rfl))⟩, f23 := ⟨Tryz.f49.name, by kernel_rfl, Tryz.func49.trans (congrArg some (by kernel_rfl))⟩, f24 := ⟨Tryz.f50.name, by kernel_rfl, Tryz.func50.trans (congrArg some (by kernel_rfl))⟩, f25 := ⟨Tryz.f51.name, by kernel_rfl, Tryz.func51.trans (congrArg some (by kernel_rfl))⟩, f26 := ⟨Tryz.f52.name, by kernel_rfl, Tryz.func52.trans (congrArg some (by kernel_rfl))⟩, f27 := ⟨Tryz.f53.name, by kernel_rfl, Tryz.func53.trans (congrArg some (by kernel_rfl))⟩, f28 := Tryz.func54.trans (congrArg some (by kernel_rfl)), f29 := Tryz.func55.trans (congrArg some (by kernel_rfl)), f46 := ⟨Tryz.f65.name, by kernel_rfl, Tryz.func65.trans (congrArg some (by kernel_rfl))⟩, f47 := Tryz.func66.trans (congrArg some (by kernel_rfl)), f48 := Tryz.func67.trans (congrArg some (by kernel_rfl)), f49 := ⟨Tryz.f68.name, by kernel_rfl, Tryz.func68.trans (congrArg some (by kernel_rfl))⟩, f50 := ⟨Tryz.f69.name, by kernel_rfl, Tryz.func69.trans (congrArg some (by kernel_rfl))⟩, f57 := ⟨Tryz.f82.name, by kernel_rfl, Tryz.func82.trans (congrArg some (by kernel_rfl))⟩, t0 := Tryz.underlying0, a0 := Tryz.isAgg0, z0 := Tryz.sizeOf0, v0 := Tryz.zeroValue0, t3 := Tryz.underlying3, a3 := Tryz.isAgg3, z3 := Tryz.sizeOf3, v3 := Tryz.zeroValue3, t4 := Tryz.underlying4, a4 := Tryz.isAgg4, z4 := Tryz.sizeOf4, v4 := Tryz.zeroValue4, t5 := Tryz.underlying5, a5 := Tryz.isAgg5, z5 := Tryz.sizeOf5, v5 := Tryz.zeroValue5, t9 := Tryz.underlying9, a9 := Tryz.isAgg9, z9 := Tryz.sizeOf9, v9 := Tryz.zeroValue9, t22 := Tryz.underlying24, a22 := Tryz.isAgg24, z22 := Tryz.sizeOf24, v22 := Tryz.zeroValue24, a24 := Tryz.isAgg28, z24 := Tryz.sizeOf28, t25 := Tryz.underlying42, a25 := Tryz.isAgg42, z25 := Tryz.sizeOf42, v25 := Tryz.zeroValue42, t39 := Tryz.underlying57, a39 := Tryz.isAgg57, z39 := Tryz.sizeOf57, v39 := Tryz.zeroValue57, t45 := Tryz.underlying71, a45 := Tryz.isAgg71, z45 := Tryz.sizeOf71, v45 := Tryz.zeroValue71, t46 := Tryz.underlying72, a46 := Tryz.isAgg72, z46 := Tryz.sizeOf72, v46 := Tryz.zeroValue72, t50 := Tryz.underlying46, a50 := Tryz.isAgg46, z50 := Tryz.sizeOf46, v50 := Tryz.zeroValue46, t53 := Tryz.underlying78, a53 := Tryz.isAgg78, z53 := Tryz.sizeOf78, v53 := Tryz.zeroValue78, t55 := Tryz.underlying80, a55 := Tryz.isAgg80, z55 := Tryz.sizeOf80, v55 := Tryz.zeroValue80, t66 := Tryz.underlying85, a66 := Tryz.isAgg85, z66 := Tryz.sizeOf85, v66 := Tryz.zeroValue85, t70 := Tryz.underlying89, a70 := Tryz.isAgg89, z70 := Tryz.sizeOf89, v70 := Tryz.zeroValue89, t76 := Tryz.underlying105, a76 := Tryz.isAgg105, z76 := Tryz.sizeOf105, v76 := Tryz.zeroValue105, t77 := Tryz.underlying106, a77 := Tryz.isAgg106, z77 := Tryz.sizeOf106, v77 := Tryz.zeroValue106 }
theorem cmpL_lt : ∀ (a b : List Int), cmpL a b < 0 ↔ a < b
  | [], [] => by simp [cmpL]
  | [], y :: b => by simp [cmpL]
  | x :: a, [] => by simp [cmpL]
  | x :: a, y :: b => by
    rw [List.cons_lt_cons_iff, cmpL]
    by_cases h : x < y
    · simp [h]
    · by_cases h2 : y < x
      · rw [if_neg h, if_pos h2]; constructor
        · intro h; omega
        · rintro (h3 | ⟨h3, _⟩)
          · exact absurd h3 h
          · omega
      · rw [if_neg h, if_neg h2]
        have : x = y := by omega
        rw [cmpL_lt a b]; simp [this]
theorem cmpL_le (a b : List Int) : ¬ cmpL b a < 0 ↔ a ≤ b := by rw [cmpL_lt]; exact List.not_lt
def sortR (xs : List (List Int)) : List (List Int) := xs.mergeSort fun x y => decide (x ≤ y)
def insR (x : List Int) : List (List Int) → List (List Int)
  | [] => [x]
  | y :: ys => if x < y then x :: y :: ys else y :: insR x ys
theorem insR_perm (x : List Int) : ∀ l, (insR x l).Perm (x :: l)
  | [] => List.Perm.refl _
  | y :: ys => by
    unfold insR
    by_cases h : x < y
    · rw [if_pos h]
    · rw [if_neg h]
      exact ((insR_perm x ys).cons y).trans (List.Perm.swap x y ys)
theorem insR_sorted (x : List Int) : ∀ l : List (List Int), l.Pairwise (· ≤ ·) → (insR x l).Pairwise (· ≤ ·)
  | [], _ => by simp [insR]
  | y :: ys, hs => by
    obtain ⟨h1, h2⟩ := List.pairwise_cons.1 hs
    unfold insR
    by_cases h : x < y
    · rw [if_pos h]
      refine List.pairwise_cons.2 ⟨fun z hz => ?_, hs⟩
      rcases List.mem_cons.1 hz with rfl | hz
      · exact List.le_of_lt h
      · exact List.le_trans (List.le_of_lt h) (h1 z hz)
    · rw [if_neg h]
      refine List.pairwise_cons.2 ⟨fun z hz => ?_, insR_sorted x ys h2⟩
      rcases List.mem_cons.1 ((insR_perm x ys).mem_iff.1 hz) with rfl | hz
      · exact List.not_lt.1 h
      · exact h1 z hz
theorem sorted_perm_eq : ∀ (a b : List (List Int)), a.Pairwise (· ≤ ·) → b.Pairwise (· ≤ ·) → a.Perm b → a = b
  | [], b, _, _, h => h.nil_eq
  | x :: xs, [], _, _, h => by have := h.length_eq; simp at this
  | x :: xs, y :: ys, ha, hb, h => by
    obtain ⟨a1, a2⟩ := List.pairwise_cons.1 ha
    obtain ⟨b1, b2⟩ := List.pairwise_cons.1 hb
    have hxy : x = y := by
      have q1 : x ∈ y :: ys := h.mem_iff.1 List.mem_cons_self
      have q2 : y ∈ x :: xs := h.mem_iff.2 List.mem_cons_self
      rcases List.mem_cons.1 q1 with e | e
      · exact e
      rcases List.mem_cons.1 q2 with e2 | e2
      · exact e2.symm
      · exact List.le_antisymm (a1 y e2) (b1 x e)
    subst hxy
    rw [sorted_perm_eq xs ys a2 b2 (List.Perm.cons_inv h)]
theorem sortR_sorted (xs : List (List Int)) : (sortR xs).Pairwise (· ≤ ·) := by
  have := List.pairwise_mergeSort (le := fun x y : List Int => decide (x ≤ y)) (fun a b c hab hbc => by simp only [decide_eq_true_eq] at *; exact List.le_trans hab hbc) (fun a b => by simp only [Bool.or_eq_true, decide_eq_true_eq]; exact List.le_total a b) xs
  exact this.imp (fun h => by simpa using h)
theorem sortR_perm (xs : List (List Int)) : (sortR xs).Perm xs := List.mergeSort_perm _ _
theorem sortR_unique {xs ys : List (List Int)} (hp : ys.Perm xs) (hs : ys.Pairwise (· ≤ ·)) : ys = sortR xs := sorted_perm_eq _ _ hs (sortR_sorted xs) (hp.trans (sortR_perm xs).symm)
theorem fold_ins : ∀ (xs acc : List (List Int)), acc.Pairwise (· ≤ ·) → (xs.foldl (fun o x => insR x o) acc).Pairwise (· ≤ ·) ∧ (xs.foldl (fun o x => insR x o) acc).Perm (acc ++ xs)
  | [], acc, h => ⟨h, by simp⟩
  | x :: xs, acc, h => by
    obtain ⟨h1, h2⟩ := fold_ins xs (insR x acc) (insR_sorted x acc h)
    refine ⟨h1, h2.trans ?_⟩
    have := (insR_perm x acc).append_right xs
    refine this.trans ?_
    exact (List.perm_middle (l₁ := acc) (l₂ := xs) (a := x)).symm
theorem ins_eq (xs : List (List Int)) : xs.foldl (fun o x => insR x o) [] = sortR xs := by
  obtain ⟨h1, h2⟩ := fold_ins xs [] List.Pairwise.nil
  exact sortR_unique (by simpa using h2) h1
theorem swoL : (∀ x : List Int, decide (cmpL x x < 0) = false) ∧ (∀ x y z : List Int, decide (cmpL x y < 0) = true → decide (cmpL y z < 0) = true → decide (cmpL x z < 0) = true) ∧ (∀ x y z : List Int, decide (cmpL x y < 0) = false → decide (cmpL y z < 0) = false → decide (cmpL x z < 0) = false) := by
  refine ⟨fun x => ?_, fun x y z h1 h2 => ?_, fun x y z h1 h2 => ?_⟩
  · simp [cmpL_lt, List.lt_irrefl]
  · simp only [decide_eq_true_eq, cmpL_lt] at *
    exact List.lt_trans h1 h2
  · simp only [decide_eq_false_iff_not, cmpL_lt] at *
    exact List.not_lt.2 (List.le_trans (List.not_lt.1 h2) (List.not_lt.1 h1))
namespace SortEv

theorem cmp_int_eq (a b : Int) : cmp_Compare_int.f a b = some (if a < b then -1 else if b < a then 1 else 0) := by
  simp only [cmp_Compare_int.f, cmp_isNaN_int.f, Option.bind_some]
  by_cases h : a < b
  · simp [h]
  · by_cases h2 : b < a <;> simp [h, h2]

theorem ev_Compare_l0 (a b : List Int) (ha : a.length ≤ 1099511627776) (hb : b.length ≤ 1099511627776) : ∀ (d i : Nat), i + d = a.length → i ≤ b.length → Ev (fun k => slices_Compare_int_int.l0 k a b a (a.length : Int) i) (cmpL (a.drop i) (b.drop i)) := by
  intro d
  induction d with
  | zero =>
    intro i h hib
    apply Ev.step
    · intro k; rw [slices_Compare_int_int.l0]
    simp only [if_neg (show ¬ ((i : Int) < a.length) by omega), drop_nil' (show a.length ≤ i by omega)]
    refine Ev.const ?_
    by_cases hb' : i < b.length
    · rw [drop_rd b i hb', if_pos (by omega)]; rfl
    · rw [drop_nil' (show b.length ≤ i by omega), if_neg (by omega)]; rfl
  | succ d ih =>
    intro i h hib
    rw [drop_rd a i (by omega)]
    apply Ev.step
    · intro k; rw [slices_Compare_int_int.l0]
    simp only [if_pos (show (i : Int) < a.length by omega), if_pos (show (0 : Int) ≤ i by omega)]
    by_cases hb' : i < b.length
    · have ih' := ih (i + 1) (by omega) (by omega)
      rw [drop_rd b i hb']
      simp only [if_neg (show ¬ (i : Int) ≥ b.length by omega), if_pos (show (i : Int) < b.length by omega), cmp_int_eq, Option.bind_some, w64 (x := (i : Int) + 1) (by omega), cmpL]
      by_cases h1 : rd a i < rd b i
      · simp only [if_pos h1]
        exact Ev.const (by simp)
      · by_cases h2 : rd b i < rd a i
        · simp only [if_neg h1, if_pos h2]
          exact Ev.const (by simp)
        · simp only [if_neg h1, if_neg h2, if_true]
          simpa using ih'
    · rw [drop_nil' (show b.length ≤ i by omega)]
      simp only [if_pos (show (i : Int) ≥ b.length by omega), cmpL]
      exact Ev.now _
theorem ev_Compare (a b : List Int) (ha : a.length ≤ 1099511627776) (hb : b.length ≤ 1099511627776) : Ev (fun k => slices_Compare_int_int.f k a b) (cmpL a b) := by
  simpa [slices_Compare_int_int.f] using ev_Compare_l0 a b ha hb a.length 0 (by omega) (by omega)

end SortEv
theorem compare_has (a b : List Int) (ha : a.length ≤ 1099511627776) (hb : b.length ≤ 1099511627776) : ∃ k, slices_Compare_int_int.f k a b = some (cmpL a b) := let ⟨K, h⟩ := SortEv.ev_Compare a b ha hb; ⟨K, h K (Nat.le_refl _)⟩

theorem sort_rows (w w1 : World) (v : Value) (xs : List (List Int)) (HO : Kd.S (Kd.slice 3 (Kd.int .i64)) 28 w1 w.heap.size (fun _ => True) v xs) (HB : Below w.heap.size w w1) (hl : xs.length ≤ 1099511627776 ∧ ∀ x ∈ xs, x.length ≤ 1099511627776) :
    Calls Tryz.prog 22 #[v, .func (.func 23) #[] #[]] w1 fun e w' => e = .returned (.tuple #[]) ∧ Kd.S (Kd.slice 3 (Kd.int .i64)) 28 w' w.heap.size (fun _ => True) v (sortR xs) ∧ Below w.heap.size w w' := by
  have h := sortF_row (d := Kd.slice 3 (Kd.int .i64)) laySF rfl 28 23 cmpL ⟨swoL.1, swoL.2.1, swoL.2.2⟩ (enters_of Tryz.func23 (by kernel_rfl) rfl) xs
    (by
      intro W x y cx cy hx hy kx ky
      obtain ⟨A0, c0, e0, h0, r0⟩ := kx
      obtain ⟨A1, c1, e1, h1, r1⟩ := ky
      obtain rfl : cx = _ := (List.cons.inj e0).1
      obtain rfl : cy = _ := (List.cons.inj e1).1
      obtain ⟨k, hk⟩ := compare_has x y (hl.2 x hx) (hl.2 y hy)
      refine (slices_Compare_int_int.calls k A0 c0 x A1 c1 y (cmpL x y) W r0 h0 r1 h1 hk).mono ?_
      rintro e w' ⟨rfl, ⟨⟨q, rfl⟩⟩⟩
      exact ⟨rfl, q, rfl⟩) w w1 v HO HB hl.1
  refine h.mono ?_
  rintro e w' ⟨rfl, ys, hp, hs, hS, hB⟩
  obtain rfl := sortR_unique hp (hs.imp (fun h => (cmpL_le _ _).1 h))
  exact ⟨rfl, hS, hB⟩
end Go.Proofs.YtbdfidnldaghbaaGreatDoor.Q
