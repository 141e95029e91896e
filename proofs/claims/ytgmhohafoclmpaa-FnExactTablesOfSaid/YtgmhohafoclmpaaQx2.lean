/- The machine side of a law, written by a program of this session over the translation: for each Go function a Lean function with the same answers, and the proof that the Go code comes to them. -/
import Derived.Test.YtgmhohafoclmpaaQx0
import Derived.Test.YtgmhohafoclmpaaSort
import Derived.Test.YtgmhohafoclmpaaQx1
namespace Go.Proofs.Ytgmhohafoclmpaa.Q
open Go.RowKit Go.Proofs.Ytgmhohafoclmpaa.Own Go.Proofs.YtgmhohafoclmpaaW.PrintWords Go.Proofs.YtgmhohafoclmpaaW.PrintLast Go.Proofs.YtgmhohafoclmpaaW.PrintMore
attribute [local go_sem] max2_int min2_int max_two min_two max_three min_three max_four min_four   -- for this text's walks alone
set_option linter.unusedVariables false
set_option linter.unusedSimpArgs false

/-! ### laws_eqNodeS: function 16 -/
def laws_eqNodeS.l0 : Nat → List (S62) → List (S62) → Int → Option (Bool)
 | 0, _, _, _ => none
 | k + 1, x0, x1, x5 => if x5 < (x0.length : Int) then (if 0 ≤ x5 then (if x5 < (x1.length : Int) then ((laws_eqNode.f k ((rd_T62 x0 x5).f0) ((rd_T62 x0 x5).f1) ((rd_T62 x0 x5).f2) ((rd_T62 x0 x5).f3) ((rd_T62 x0 x5).f4) ((rd_T62 x0 x5).f5) ((rd_T62 x0 x5).f6) ((rd_T62 x1 x5).f0) ((rd_T62 x1 x5).f1) ((rd_T62 x1 x5).f2) ((rd_T62 x1 x5).f3) ((rd_T62 x1 x5).f4) ((rd_T62 x1 x5).f5) ((rd_T62 x1 x5).f6)).bind fun t137 => (if t137 = true then (laws_eqNodeS.l0 k x0 x1 (wrap64 (x5 + 1))) else (some false))) else (none)) else (none)) else (some true)
def laws_eqNodeS.f (k : Nat) (l0 : List (S62)) (l1 : List (S62)) : Option (Bool) := if (l0.length : Int) = (l1.length : Int) then (laws_eqNodeS.l0 k l0 l1 0) else (some false)
theorem laws_eqNodeS.mono_l : ∀ k, (∀ y0 y1 y2, LeO (laws_eqNodeS.l0 k y0 y1 y2) (laws_eqNodeS.l0 (k + 1) y0 y1 y2))
 | 0 => fun _ _ _ r h => by simp [laws_eqNodeS.l0] at h
 | k + 1 => by
  have ih0 := laws_eqNodeS.mono_l k
  ·intro y0 y1 y2
   unfold laws_eqNodeS.l0
   repeat' first
   | (with_reducible exact ih0 _ _ _)
   | (with_reducible exact laws_eqNode.mono _ _ _ _ _ _ _ _ _ _ _ _ _ _ _)
   | (with_reducible exact LeO.refl _)
   | (with_reducible exact LeO.none _)
   | (with_reducible refine LeO.ite ?_ ?_)
   | (with_reducible refine LeO.bind ?_ (fun _ => ?_))
   | exact ih0 _ _ _
   | exact laws_eqNode.mono _ _ _ _ _ _ _ _ _ _ _ _ _ _ _
   | exact LeO.none _
   | refine LeO.ite ?_ ?_
   | refine LeO.bind ?_ (fun _ => ?_)
theorem laws_eqNodeS.mono : ∀ a0 a1 k, LeO (laws_eqNodeS.f k a0 a1) (laws_eqNodeS.f (k + 1) a0 a1) := by
 intro a0 a1 k
 have ih0 := laws_eqNodeS.mono_l k
 unfold laws_eqNodeS.f
 repeat' first
   | (with_reducible exact ih0 _ _ _)
   | (with_reducible exact laws_eqNode.mono _ _ _ _ _ _ _ _ _ _ _ _ _ _ _)
   | (with_reducible exact LeO.refl _)
   | (with_reducible exact LeO.none _)
   | (with_reducible refine LeO.ite ?_ ?_)
   | (with_reducible refine LeO.bind ?_ (fun _ => ?_))
   | exact ih0 _ _ _
   | exact laws_eqNode.mono _ _ _ _ _ _ _ _ _ _ _ _ _ _ _
   | exact LeO.none _
   | refine LeO.ite ?_ ?_
   | refine LeO.bind ?_ (fun _ => ?_)
def laws_eqNodeS.T6 : Bool × List (List Nat × List Nat) := (true, [([], []), ([], []), ([0, 1], [0, 1]), ([2], [2]), ([], []), ([], []), ([4, 5], [4, 5]), ([6], [6]), ([3, 7], [3, 7]), ([8], [8])])
def laws_eqNodeS.B6 : List Nat := [0, 0, 3, 7, 0, 0, 48, 112, 255, 511]
theorem laws_eqNodeS.tab6 : rtab .any (opsOf Try.f16 6) = laws_eqNodeS.T6 := by kernel_rfl
theorem laws_eqNodeS.bits6 : waitsOk laws_eqNodeS.T6.2 laws_eqNodeS.B6 = true := by kernel_rfl
set_option maxHeartbeats 8000000 in
set_option maxRecDepth 100000 in
theorem laws_eqNodeS.calls (k : Nat) (A0 : Option Addr) (c0 : Nat) (l0 : List (S62)) (A1 : Option Addr) (c1 : Nat) (l1 : List (S62)) (r : Bool) (w : World) (hr0 : Kd.C k62 w A0 l0.length l0) (hc0 : l0.length ≤ c0) (hr1 : Kd.C k62 w A1 l1.length l1) (hc1 : l1.length ≤ c1) (h : laws_eqNodeS.f k l0 l1 = some r) :
  Calls Try.prog 16 #[.slice A0 l0.length c0, .slice A1 l1.length c1] w fun e w' => e = .returned (.bool r) ∧ Below w.heap.size w w' := by
 have hu62 := Try.underlying62
 have HR0 := Aside0.mk hr0
 have HC0 := Aside0.mk hc0
 clear hr0 hc0
 have HR1 := Aside0.mk hr1
 have HC1 := Aside0.mk hc1
 clear hr1 hc1
 have HB := Aside0.mk (Below.refl w.heap.size w)
 have H : (if (l0.length : Int) = (l1.length : Int) then (laws_eqNodeS.l0 k l0 l1 0) else (some false)) = some r := h
 clear h
 by_cases c3 : (l0.length : Int) = (l1.length : Int)
 ·rw [if_pos c3] at H
  have c3b0 : ((l0.length : Int) == (l1.length : Int)) = true := beq_iff_eq.mpr c3
  have c3b1 : ((l0.length : Int) != (l1.length : Int)) = false := bne_eq_false_iff_eq.mpr c3
  have c3b2 : (l0.length == l1.length) = true := by first | simpa using c3 | (simp at c3 ⊢; omega)
  clear c3
  have H' := Aside0.mk H
  clear H
  go_enter Try.func16, Try.ntmps16
  go_wp2
  go_loopg [5] k (fun kq v5 w' => ∃ (x5_1 : Int), v5 = .int .i64 x5_1 ∧ Aside0 (laws_eqNodeS.l0 kq l0 l1 x5_1 = some r) ∧ Aside0 (kq ≤ k) ∧ Aside0 (Below w.heap.size w w'))
  case atStart => exact ⟨(0), rF, H', ⟨Nat.le_refl _⟩, ⟨bA⟩⟩
  case round =>
   clear H'
   try clear c1
   try clear p2
   try clear c3
   try clear c3b0
   try clear c3b1
   try clear c3b2
   obtain ⟨x5_1, rfl, HA, HK1, HB⟩ := hrel
   cases gk with
   | zero => exact absurd HA.out (by simp [laws_eqNodeS.l0])
   | succ k1 =>
    have H := HA.out
    clear HA
    simp only [laws_eqNodeS.l0] at H
    by_cases c4 : x5_1 < (l0.length : Int)
    ·rw [if_pos c4] at H
     have c4b0 : decide (x5_1 < (l0.length : Int)) = true := decide_eq_true c4
     clear c4
     by_cases c5 : 0 ≤ x5_1
     ·rw [if_pos c5] at H
      have c5b0 : decide (0 ≤ x5_1) = true := decide_eq_true c5
      clear c5
      by_cases c6 : x5_1 < (l1.length : Int)
      ·rw [if_pos c6] at H
       have c6b0 : decide (x5_1 < (l1.length : Int)) = true := decide_eq_true c6
       clear c6
       replace H := Option.bind_eq_some_iff.mp H
       obtain ⟨t137, A70, H⟩ := H
       replace H : (if t137 = true then (laws_eqNodeS.l0 k1 l0 l1 (wrap64 (x5_1 + 1))) else (some false)) = some r := H
       have A7 := Aside0.mk A70
       clear A70
       by_cases c8 : t137 = true
       ·subst c8
        have H1 : (laws_eqNodeS.l0 k1 l0 l1 (wrap64 (x5_1 + 1))) = some r := by rw [if_pos rfl] at H; exact H
        clear H
        have H := H1
        clear H1
        have H' := Aside0.mk H
        clear H
        try go_wp2
        have n0_ := Aside0.mk (below_drew1 HB.out)
        clear HB
        have HB := n0_
        clear n0_
        have p135 : 0 ≤ (x5_1 : Int) := of_decide_eq_true (by assumption)
        have q135 : x5_1 < (l0.length : Int) := of_decide_eq_true (by assumption)
        obtain ⟨ad135, A135_6, c135_6, e135, hx135_0, hx135_1, hx135_2, hx135_3, hx135_4, hx135_5, hx135_6, hl135_6, hi135_6⟩ := at_T62 HR0.out x5_1 p135 q135
        have hw135_6 := hx135_6
        have hw135_5 := hx135_5
        have hw135_4 := hx135_4
        have hw135_3 := hx135_3
        have hw135_2 := hx135_2
        have hw135_1 := hx135_1
        have hw135_0 := hx135_0
        cases e135
        replace hx135_0 := hxB HB.out hx135_0
        replace hx135_1 := hxB HB.out hx135_1
        replace hx135_2 := hxB HB.out hx135_2
        replace hx135_3 := hxB HB.out hx135_3
        replace hx135_4 := hxB HB.out hx135_4
        replace hx135_5 := hxB HB.out hx135_5
        replace hx135_6 := hxB HB.out hx135_6
        have HR135_6 := Aside0.mk hi135_6
        have HC135_6 := Aside0.mk hl135_6
        clear hi135_6 hl135_6
        replace p135 := eq_true p135
        replace q135 := eq_true q135
        have p136 : 0 ≤ (x5_1 : Int) := of_decide_eq_true (by assumption)
        have q136 : x5_1 < (l1.length : Int) := of_decide_eq_true (by assumption)
        obtain ⟨ad136, A136_6, c136_6, e136, hx136_0, hx136_1, hx136_2, hx136_3, hx136_4, hx136_5, hx136_6, hl136_6, hi136_6⟩ := at_T62 HR1.out x5_1 p136 q136
        have hw136_6 := hx136_6
        have hw136_5 := hx136_5
        have hw136_4 := hx136_4
        have hw136_3 := hx136_3
        have hw136_2 := hx136_2
        have hw136_1 := hx136_1
        have hw136_0 := hx136_0
        cases e136
        replace hx136_0 := hxB HB.out hx136_0
        replace hx136_1 := hxB HB.out hx136_1
        replace hx136_2 := hxB HB.out hx136_2
        replace hx136_3 := hxB HB.out hx136_3
        replace hx136_4 := hxB HB.out hx136_4
        replace hx136_5 := hxB HB.out hx136_5
        replace hx136_6 := hxB HB.out hx136_6
        have HR136_6 := Aside0.mk hi136_6
        have HC136_6 := Aside0.mk hl136_6
        clear hi136_6 hl136_6
        replace p136 := eq_true p136
        replace q136 := eq_true q136
        refine start_ (n := 10) (S := fun w' => w'.cell? (ad135.add ((x5_1).toNat * 7)) = some (.int .i64 ((rd_T62 l0 x5_1).f0)) ∧ w'.cell? ⟨(ad135.add ((x5_1).toNat * 7)).block, (ad135.add ((x5_1).toNat * 7)).off + 1, none⟩ = some (.string ((rd_T62 l0 x5_1).f1)) ∧ w'.cell? ⟨(ad135.add ((x5_1).toNat * 7)).block, (ad135.add ((x5_1).toNat * 7)).off + 2, none⟩ = some (.int .i64 ((rd_T62 l0 x5_1).f2)) ∧ w'.cell? ⟨(ad135.add ((x5_1).toNat * 7)).block, (ad135.add ((x5_1).toNat * 7)).off + 3, none⟩ = some (.int .i64 ((rd_T62 l0 x5_1).f3)) ∧ w'.cell? ⟨(ad135.add ((x5_1).toNat * 7)).block, (ad135.add ((x5_1).toNat * 7)).off + 4, none⟩ = some (.int .i64 ((rd_T62 l0 x5_1).f4)) ∧ w'.cell? ⟨(ad135.add ((x5_1).toNat * 7)).block, (ad135.add ((x5_1).toNat * 7)).off + 5, none⟩ = some (.bool ((rd_T62 l0 x5_1).f5)) ∧ w'.cell? ⟨(ad135.add ((x5_1).toNat * 7)).block, (ad135.add ((x5_1).toNat * 7)).off + 6, none⟩ = some (.slice A135_6 ((rd_T62 l0 x5_1).f6).length c135_6) ∧ w'.cell? (ad136.add ((x5_1).toNat * 7)) = some (.int .i64 ((rd_T62 l1 x5_1).f0)) ∧ w'.cell? ⟨(ad136.add ((x5_1).toNat * 7)).block, (ad136.add ((x5_1).toNat * 7)).off + 1, none⟩ = some (.string ((rd_T62 l1 x5_1).f1)) ∧ w'.cell? ⟨(ad136.add ((x5_1).toNat * 7)).block, (ad136.add ((x5_1).toNat * 7)).off + 2, none⟩ = some (.int .i64 ((rd_T62 l1 x5_1).f2)) ∧ w'.cell? ⟨(ad136.add ((x5_1).toNat * 7)).block, (ad136.add ((x5_1).toNat * 7)).off + 3, none⟩ = some (.int .i64 ((rd_T62 l1 x5_1).f3)) ∧ w'.cell? ⟨(ad136.add ((x5_1).toNat * 7)).block, (ad136.add ((x5_1).toNat * 7)).off + 4, none⟩ = some (.int .i64 ((rd_T62 l1 x5_1).f4)) ∧ w'.cell? ⟨(ad136.add ((x5_1).toNat * 7)).block, (ad136.add ((x5_1).toNat * 7)).off + 5, none⟩ = some (.bool ((rd_T62 l1 x5_1).f5)) ∧ w'.cell? ⟨(ad136.add ((x5_1).toNat * 7)).block, (ad136.add ((x5_1).toNat * 7)).off + 6, none⟩ = some (.slice A136_6 ((rd_T62 l1 x5_1).f6).length c136_6)) (ds := []) #[false, false, false, false, false, false, false, false, false, false] (by kernel_rfl) rfl rfl ⟨(hxB HB.out hw135_0), (hxB HB.out hw135_1), (hxB HB.out hw135_2), (hxB HB.out hw135_3), (hxB HB.out hw135_4), (hxB HB.out hw135_5), (hxB HB.out hw135_6), (hxB HB.out hw136_0), (hxB HB.out hw136_1), (hxB HB.out hw136_2), (hxB HB.out hw136_3), (hxB HB.out hw136_4), (hxB HB.out hw136_5), (hxB HB.out hw136_6)⟩ (fun hHeld => ?_); refine with_tabW laws_eqNodeS.tab6 laws_eqNodeS.bits6 (fun HT_ HW_ => ?_)
        generalize wr.drew = w9 at HB HR135_6 HR136_6 hx135_0 hx135_1 hx135_2 hx135_3 hx135_4 hx135_5 hx135_6 hx136_0 hx136_1 hx136_2 hx136_3 hx136_4 hx136_5 hx136_6 hHeld ⊢
        refine pt_ 0 17 ?_
        refine pt_ 1 18 ?_
        refine pt_ 2 19 ?_
        refine pt_ 4 21 ?_
        refine pt_ 5 22 ?_
        refine pt_ 6 23 ?_
        refine tt_ 3 20 ?_
        refine tt_ 7 24 ?_
        refine one_ (i := 8) (N := some 25) #[true, true, true, true, true, true, true, true, true, false] rfl rfl (one_of HT_.out (by kernel_rfl)) (by decide) (fun K hK => ?_)
        refine goes_ Try.func46 (by kernel_rfl) rfl #[.agg #[.int .i64 ((rd_T62 l0 x5_1).f0), .string ((rd_T62 l0 x5_1).f1), .int .i64 ((rd_T62 l0 x5_1).f2), .int .i64 ((rd_T62 l0 x5_1).f3), .int .i64 ((rd_T62 l0 x5_1).f4), .bool ((rd_T62 l0 x5_1).f5), .slice A135_6 ((rd_T62 l0 x5_1).f6).length c135_6], .agg #[.int .i64 ((rd_T62 l1 x5_1).f0), .string ((rd_T62 l1 x5_1).f1), .int .i64 ((rd_T62 l1 x5_1).f2), .int .i64 ((rd_T62 l1 x5_1).f3), .int .i64 ((rd_T62 l1 x5_1).f4), .bool ((rd_T62 l1 x5_1).f5), .slice A136_6 ((rd_T62 l1 x5_1).f6).length c136_6]] (by rfl) rfl rfl aL ?_
        with_reducible refine (laws_eqNode.calls k1 ((rd_T62 l0 x5_1).f0) ((rd_T62 l0 x5_1).f1) ((rd_T62 l0 x5_1).f2) ((rd_T62 l0 x5_1).f3) ((rd_T62 l0 x5_1).f4) ((rd_T62 l0 x5_1).f5) _ _ ((rd_T62 l0 x5_1).f6) ((rd_T62 l1 x5_1).f0) ((rd_T62 l1 x5_1).f1) ((rd_T62 l1 x5_1).f2) ((rd_T62 l1 x5_1).f3) ((rd_T62 l1 x5_1).f4) ((rd_T62 l1 x5_1).f5) _ _ ((rd_T62 l1 x5_1).f6) true _ ?side1 ?side2 ?side3 ?side4 A7.out).mono ?_
        (case side1 => exact cA)
        (case side2 => exact HC135_6.out)
        (case side3 => exact cA)
        (case side4 => exact HC136_6.out)
        rintro e w10 ⟨rfl, hb⟩
        refine ⟨_, rfl, ?_⟩
        have n0_ := Aside0.mk (below_step bA hb)
        clear HB
        have HB := n0_
        clear n0_
        (try clear hb)
        (try clear hb2)
        (try clear hk)
        (try clear hi)
        refine hK.out _ _ ⟨(hxB HB.out hw135_0), (hxB HB.out hw135_1), (hxB HB.out hw135_2), (hxB HB.out hw135_3), (hxB HB.out hw135_4), (hxB HB.out hw135_5), (hxB HB.out hw135_6), (hxB HB.out hw136_0), (hxB HB.out hw136_1), (hxB HB.out hw136_2), (hxB HB.out hw136_3), (hxB HB.out hw136_4), (hxB HB.out hw136_5), (hxB HB.out hw136_6)⟩ (fun hHeld => ?_)
        clear hK K
        refine norm_ (a' := ?_) ?_ ?_
        rotate_left
        ·show Act.put _ (some 25) _ = _
         simp only [Act.put, List.setIfInBounds_toArray, List.set_cons_zero, List.set_cons_succ, i64_w, i32_w]
         rfl
        refine pt_ 9 26 ?_
        refine done_ (done_of HT_.out (by kernel_rfl)) ?_
        try go_wp2
        go_roundg k1
        case measure => have := HK1.out; omega
        case rel => exact ⟨(wrap64 (x5_1 + 1)), rF, H', ⟨by have := HK1.out; omega⟩, ⟨bA⟩⟩
       ·replace c8 := Bool.eq_false_iff.mpr c8
        subst c8
        have H1 : (some false) = some r := by rw [if_neg (show ¬ (false = true) by decide)] at H; exact H
        clear H
        have H := H1
        clear H1
        obtain rfl := Option.some.inj H
        try go_wp2
        have n0_ := Aside0.mk (below_drew1 HB.out)
        clear HB
        have HB := n0_
        clear n0_
        have p135 : 0 ≤ (x5_1 : Int) := of_decide_eq_true (by assumption)
        have q135 : x5_1 < (l0.length : Int) := of_decide_eq_true (by assumption)
        obtain ⟨ad135, A135_6, c135_6, e135, hx135_0, hx135_1, hx135_2, hx135_3, hx135_4, hx135_5, hx135_6, hl135_6, hi135_6⟩ := at_T62 HR0.out x5_1 p135 q135
        have hw135_6 := hx135_6
        have hw135_5 := hx135_5
        have hw135_4 := hx135_4
        have hw135_3 := hx135_3
        have hw135_2 := hx135_2
        have hw135_1 := hx135_1
        have hw135_0 := hx135_0
        cases e135
        replace hx135_0 := hxB HB.out hx135_0
        replace hx135_1 := hxB HB.out hx135_1
        replace hx135_2 := hxB HB.out hx135_2
        replace hx135_3 := hxB HB.out hx135_3
        replace hx135_4 := hxB HB.out hx135_4
        replace hx135_5 := hxB HB.out hx135_5
        replace hx135_6 := hxB HB.out hx135_6
        have HR135_6 := Aside0.mk hi135_6
        have HC135_6 := Aside0.mk hl135_6
        clear hi135_6 hl135_6
        replace p135 := eq_true p135
        replace q135 := eq_true q135
        have p136 : 0 ≤ (x5_1 : Int) := of_decide_eq_true (by assumption)
        have q136 : x5_1 < (l1.length : Int) := of_decide_eq_true (by assumption)
        obtain ⟨ad136, A136_6, c136_6, e136, hx136_0, hx136_1, hx136_2, hx136_3, hx136_4, hx136_5, hx136_6, hl136_6, hi136_6⟩ := at_T62 HR1.out x5_1 p136 q136
        have hw136_6 := hx136_6
        have hw136_5 := hx136_5
        have hw136_4 := hx136_4
        have hw136_3 := hx136_3
        have hw136_2 := hx136_2
        have hw136_1 := hx136_1
        have hw136_0 := hx136_0
        cases e136
        replace hx136_0 := hxB HB.out hx136_0
        replace hx136_1 := hxB HB.out hx136_1
        replace hx136_2 := hxB HB.out hx136_2
        replace hx136_3 := hxB HB.out hx136_3
        replace hx136_4 := hxB HB.out hx136_4
        replace hx136_5 := hxB HB.out hx136_5
        replace hx136_6 := hxB HB.out hx136_6
        have HR136_6 := Aside0.mk hi136_6
        have HC136_6 := Aside0.mk hl136_6
        clear hi136_6 hl136_6
        replace p136 := eq_true p136
        replace q136 := eq_true q136
        refine start_ (n := 10) (S := fun w' => w'.cell? (ad135.add ((x5_1).toNat * 7)) = some (.int .i64 ((rd_T62 l0 x5_1).f0)) ∧ w'.cell? ⟨(ad135.add ((x5_1).toNat * 7)).block, (ad135.add ((x5_1).toNat * 7)).off + 1, none⟩ = some (.string ((rd_T62 l0 x5_1).f1)) ∧ w'.cell? ⟨(ad135.add ((x5_1).toNat * 7)).block, (ad135.add ((x5_1).toNat * 7)).off + 2, none⟩ = some (.int .i64 ((rd_T62 l0 x5_1).f2)) ∧ w'.cell? ⟨(ad135.add ((x5_1).toNat * 7)).block, (ad135.add ((x5_1).toNat * 7)).off + 3, none⟩ = some (.int .i64 ((rd_T62 l0 x5_1).f3)) ∧ w'.cell? ⟨(ad135.add ((x5_1).toNat * 7)).block, (ad135.add ((x5_1).toNat * 7)).off + 4, none⟩ = some (.int .i64 ((rd_T62 l0 x5_1).f4)) ∧ w'.cell? ⟨(ad135.add ((x5_1).toNat * 7)).block, (ad135.add ((x5_1).toNat * 7)).off + 5, none⟩ = some (.bool ((rd_T62 l0 x5_1).f5)) ∧ w'.cell? ⟨(ad135.add ((x5_1).toNat * 7)).block, (ad135.add ((x5_1).toNat * 7)).off + 6, none⟩ = some (.slice A135_6 ((rd_T62 l0 x5_1).f6).length c135_6) ∧ w'.cell? (ad136.add ((x5_1).toNat * 7)) = some (.int .i64 ((rd_T62 l1 x5_1).f0)) ∧ w'.cell? ⟨(ad136.add ((x5_1).toNat * 7)).block, (ad136.add ((x5_1).toNat * 7)).off + 1, none⟩ = some (.string ((rd_T62 l1 x5_1).f1)) ∧ w'.cell? ⟨(ad136.add ((x5_1).toNat * 7)).block, (ad136.add ((x5_1).toNat * 7)).off + 2, none⟩ = some (.int .i64 ((rd_T62 l1 x5_1).f2)) ∧ w'.cell? ⟨(ad136.add ((x5_1).toNat * 7)).block, (ad136.add ((x5_1).toNat * 7)).off + 3, none⟩ = some (.int .i64 ((rd_T62 l1 x5_1).f3)) ∧ w'.cell? ⟨(ad136.add ((x5_1).toNat * 7)).block, (ad136.add ((x5_1).toNat * 7)).off + 4, none⟩ = some (.int .i64 ((rd_T62 l1 x5_1).f4)) ∧ w'.cell? ⟨(ad136.add ((x5_1).toNat * 7)).block, (ad136.add ((x5_1).toNat * 7)).off + 5, none⟩ = some (.bool ((rd_T62 l1 x5_1).f5)) ∧ w'.cell? ⟨(ad136.add ((x5_1).toNat * 7)).block, (ad136.add ((x5_1).toNat * 7)).off + 6, none⟩ = some (.slice A136_6 ((rd_T62 l1 x5_1).f6).length c136_6)) (ds := []) #[false, false, false, false, false, false, false, false, false, false] (by kernel_rfl) rfl rfl ⟨(hxB HB.out hw135_0), (hxB HB.out hw135_1), (hxB HB.out hw135_2), (hxB HB.out hw135_3), (hxB HB.out hw135_4), (hxB HB.out hw135_5), (hxB HB.out hw135_6), (hxB HB.out hw136_0), (hxB HB.out hw136_1), (hxB HB.out hw136_2), (hxB HB.out hw136_3), (hxB HB.out hw136_4), (hxB HB.out hw136_5), (hxB HB.out hw136_6)⟩ (fun hHeld => ?_); refine with_tabW laws_eqNodeS.tab6 laws_eqNodeS.bits6 (fun HT_ HW_ => ?_)
        generalize wr.drew = w11 at HB HR135_6 HR136_6 hx135_0 hx135_1 hx135_2 hx135_3 hx135_4 hx135_5 hx135_6 hx136_0 hx136_1 hx136_2 hx136_3 hx136_4 hx136_5 hx136_6 hHeld ⊢
        refine pt_ 0 17 ?_
        refine pt_ 1 18 ?_
        refine pt_ 2 19 ?_
        refine pt_ 4 21 ?_
        refine pt_ 5 22 ?_
        refine pt_ 6 23 ?_
        refine tt_ 3 20 ?_
        refine tt_ 7 24 ?_
        refine one_ (i := 8) (N := some 25) #[true, true, true, true, true, true, true, true, true, false] rfl rfl (one_of HT_.out (by kernel_rfl)) (by decide) (fun K hK => ?_)
        refine goes_ Try.func46 (by kernel_rfl) rfl #[.agg #[.int .i64 ((rd_T62 l0 x5_1).f0), .string ((rd_T62 l0 x5_1).f1), .int .i64 ((rd_T62 l0 x5_1).f2), .int .i64 ((rd_T62 l0 x5_1).f3), .int .i64 ((rd_T62 l0 x5_1).f4), .bool ((rd_T62 l0 x5_1).f5), .slice A135_6 ((rd_T62 l0 x5_1).f6).length c135_6], .agg #[.int .i64 ((rd_T62 l1 x5_1).f0), .string ((rd_T62 l1 x5_1).f1), .int .i64 ((rd_T62 l1 x5_1).f2), .int .i64 ((rd_T62 l1 x5_1).f3), .int .i64 ((rd_T62 l1 x5_1).f4), .bool ((rd_T62 l1 x5_1).f5), .slice A136_6 ((rd_T62 l1 x5_1).f6).length c136_6]] (by rfl) rfl rfl aL ?_
        with_reducible refine (laws_eqNode.calls k1 ((rd_T62 l0 x5_1).f0) ((rd_T62 l0 x5_1).f1) ((rd_T62 l0 x5_1).f2) ((rd_T62 l0 x5_1).f3) ((rd_T62 l0 x5_1).f4) ((rd_T62 l0 x5_1).f5) _ _ ((rd_T62 l0 x5_1).f6) ((rd_T62 l1 x5_1).f0) ((rd_T62 l1 x5_1).f1) ((rd_T62 l1 x5_1).f2) ((rd_T62 l1 x5_1).f3) ((rd_T62 l1 x5_1).f4) ((rd_T62 l1 x5_1).f5) _ _ ((rd_T62 l1 x5_1).f6) false _ ?side1 ?side2 ?side3 ?side4 A7.out).mono ?_
        (case side1 => exact cA)
        (case side2 => exact HC135_6.out)
        (case side3 => exact cA)
        (case side4 => exact HC136_6.out)
        rintro e w12 ⟨rfl, hb⟩
        refine ⟨_, rfl, ?_⟩
        have n0_ := Aside0.mk (below_step bA hb)
        clear HB
        have HB := n0_
        clear n0_
        (try clear hb)
        (try clear hb2)
        (try clear hk)
        (try clear hi)
        refine hK.out _ _ ⟨(hxB HB.out hw135_0), (hxB HB.out hw135_1), (hxB HB.out hw135_2), (hxB HB.out hw135_3), (hxB HB.out hw135_4), (hxB HB.out hw135_5), (hxB HB.out hw135_6), (hxB HB.out hw136_0), (hxB HB.out hw136_1), (hxB HB.out hw136_2), (hxB HB.out hw136_3), (hxB HB.out hw136_4), (hxB HB.out hw136_5), (hxB HB.out hw136_6)⟩ (fun hHeld => ?_)
        clear hK K
        refine norm_ (a' := ?_) ?_ ?_
        rotate_left
        ·show Act.put _ (some 25) _ = _
         simp only [Act.put, List.setIfInBounds_toArray, List.set_cons_zero, List.set_cons_succ, i64_w, i32_w]
         rfl
        refine pt_ 9 26 ?_
        refine done_ (done_of HT_.out (by kernel_rfl)) ?_
        try go_wp2
        go_ret
        exact ⟨rE, bA⟩
      ·rw [if_neg c6] at H
       exact absurd H (by simp)
     ·rw [if_neg c5] at H
      exact absurd H (by simp)
    ·rw [if_neg c4] at H
     have c4b0 : decide (x5_1 < (l0.length : Int)) = false := decide_eq_false c4
     clear c4
     obtain rfl := Option.some.inj H
     go_wp2
     go_ret
     exact ⟨rE, bA⟩
 ·rw [if_neg c3] at H
  have c3b0 : ((l0.length : Int) == (l1.length : Int)) = false := beq_eq_false_iff_ne.mpr c3
  have c3b1 : ((l0.length : Int) != (l1.length : Int)) = true := bne_iff_ne.mpr c3
  have c3b2 : (l0.length == l1.length) = false := by first | simpa using c3 | (simp at c3 ⊢; omega)
  obtain rfl := Option.some.inj H
  go_enter Try.func16, Try.ntmps16
  go_wp2
  go_ret
  exact ⟨rE, bA⟩

/-! ### laws_markIntS: function 62 -/
def laws_markIntS.l0 : Nat → List Int → Int → Int → Option (Int × List Int)
 | 0, _, _, _ => none
 | k + 1, x0, x1, x5 => if x5 < (x0.length : Int) then (if 0 ≤ x5 then (laws_markIntS.l0 k (x0.set (x5 : Int).toNat x1) (wrap64 (x1 + 1)) (wrap64 (x5 + 1))) else (none)) else (some (x1, x0))
def laws_markIntS.f (k : Nat) (l0 : List Int) (a1 : Int) : Option (Int × List Int) := laws_markIntS.l0 k l0 a1 0
theorem laws_markIntS.mono_l : ∀ k, (∀ y0 y1 y2, LeO (laws_markIntS.l0 k y0 y1 y2) (laws_markIntS.l0 (k + 1) y0 y1 y2))
 | 0 => fun _ _ _ r h => by simp [laws_markIntS.l0] at h
 | k + 1 => by
  have ih0 := laws_markIntS.mono_l k
  ·intro y0 y1 y2
   unfold laws_markIntS.l0
   repeat' first
   | (with_reducible exact ih0 _ _ _)
   | (with_reducible exact LeO.refl _)
   | (with_reducible exact LeO.none _)
   | (with_reducible refine LeO.ite ?_ ?_)
   | (with_reducible refine LeO.bind ?_ (fun _ => ?_))
   | exact ih0 _ _ _
   | exact LeO.none _
   | refine LeO.ite ?_ ?_
   | refine LeO.bind ?_ (fun _ => ?_)
theorem laws_markIntS.mono : ∀ a0 a1 k, LeO (laws_markIntS.f k a0 a1) (laws_markIntS.f (k + 1) a0 a1) := by
 intro a0 a1 k
 have ih0 := laws_markIntS.mono_l k
 unfold laws_markIntS.f
 repeat' first
   | (with_reducible exact ih0 _ _ _)
   | (with_reducible exact LeO.refl _)
   | (with_reducible exact LeO.none _)
   | (with_reducible refine LeO.ite ?_ ?_)
   | (with_reducible refine LeO.bind ?_ (fun _ => ?_))
   | exact ih0 _ _ _
   | exact LeO.none _
   | refine LeO.ite ?_ ?_
   | refine LeO.bind ?_ (fun _ => ?_)
set_option maxHeartbeats 8000000 in
set_option maxRecDepth 100000 in
theorem laws_markIntS.calls (k : Nat) (P0_ : Nat → Prop) (u9000_ : Value) (l0 : List Int) (a1 : Int) (r1 : Int) (r2 : List Int) (w0 w : World) (hB : Below w0.heap.size w0 w) (ho0 : Kd.R (Kd.int .i64) 3 w w0.heap.size P0_ u9000_ l0) (h : laws_markIntS.f k l0 a1 = some (r1, r2)) :
  Calls Try.prog 62 #[u9000_, .int .i64 a1] w fun e w' => e = .returned (.int .i64 r1) ∧ Kd.R (Kd.int .i64) 3 w' w0.heap.size (fun k_ => (P0_ k_ ∨ w.heap.size ≤ k_)) u9000_ r2 ∧ Below w0.heap.size w0 w' ∧ Kept w w' (fun k_ => P0_ k_) := by
 have HO0 := Aside0.mk (show Kd.R (Kd.int .i64) 3 w w0.heap.size (fun k_ => (P0_ k_ ∨ w.heap.size ≤ k_)) u9000_ l0 from Kd.R_mono ho0 (fun k_ hk => (.inl hk)))
 have HK := Aside0.mk (Kept.refl w (fun k_ => P0_ k_))
 have HW0 := Aside0.mk hB.size
 have HB := Aside0.mk hB
 clear hB
 have H : (laws_markIntS.l0 k l0 a1 0) = some (r1, r2) := h
 clear h
 have H' := Aside0.mk H
 clear H
 go_enter Try.func62, Try.ntmps62
 go_wp2
 go_loopg [1, 5] k (fun kq v1 v5 w' => ∃ (x0_1 : List Int) (x1_1 : Int) (x5_1 : Int), v1 = .int .i64 x1_1 ∧ v5 = .int .i64 x5_1 ∧ Aside0 (laws_markIntS.l0 kq x0_1 x1_1 x5_1 = some (r1, r2)) ∧ Aside0 (kq ≤ k) ∧ Aside0 (Kd.R (Kd.int .i64) 3 w' w0.heap.size (fun k_ => (P0_ k_ ∨ w.heap.size ≤ k_)) u9000_ x0_1) ∧ Aside0 (Kept w w' (fun k_ => P0_ k_)) ∧ Aside0 (Below w0.heap.size w0 w'))
 case atStart => exact ⟨(l0), (a1), (0), rF, rF, H', ⟨Nat.le_refl _⟩, ⟨by (with_reducible repeat (first | apply Kd.R_alloc | apply Kd.R_drewN | apply Kd.R_drew)); exact HO0.out⟩, ⟨by repeat (first | (with_reducible first | exact HK.out | apply Kept.alloc | apply Kept.drewN | apply Kept.drew) | exact HK.out)⟩, ⟨bA⟩⟩
 case round =>
  clear H'
  try clear p2
  obtain ⟨x0_1, x1_1, x5_1, rfl, rfl, HA, HK1, HO_0, HK, HB⟩ := hrel
  cases gk with
  | zero => exact absurd HA.out (by simp [laws_markIntS.l0])
  | succ k1 =>
   have H := HA.out
   clear HA
   simp only [laws_markIntS.l0] at H
   by_cases c3 : x5_1 < (x0_1.length : Int)
   ·rw [if_pos c3] at H
    have c3b0 : decide (x5_1 < (x0_1.length : Int)) = true := decide_eq_true c3
    clear c3
    by_cases c4 : 0 ≤ x5_1
    ·rw [if_pos c4] at H
     have c4b0 : decide (0 ≤ x5_1) = true := decide_eq_true c4
     clear c4
     obtain ⟨y141, hy141⟩ : ∃ y_ : List Int, y_ = (x0_1.set (x5_1 : Int).toNat x1_1) := ⟨_, rfl⟩
     replace H : (laws_markIntS.l0 k1 y141 (wrap64 (x1_1 + 1)) (wrap64 (x5_1 + 1))) = some (r1, r2) := by first | (rw [hy141]; with_reducible exact H) | (have H2_ := (Option.bind_some _ _).symm.trans H; rw [hy141]; with_reducible exact H2_) | (have H2_ := (Option.bind_some _ _).symm.trans H; with_reducible exact H2_) | with_reducible exact H | (rw [hy141]; exact H) | exact H
     have Ny141 := Aside0.mk hy141
     clear hy141
     have H' := Aside0.mk H
     clear H
     obtain ⟨Ao6, co6, eo6⟩ := Kd.R_slice HO_0.out
     subst eo6
     have p5 : 0 ≤ (x5_1 : Int) := of_decide_eq_true (by assumption)
     have q5 : (x5_1 : Int) < ((x0_1.length : Int) : Int) := of_decide_eq_true (by assumption)
     obtain ⟨go5, co5, eo5, gb5, gl5, cl5, HG5⟩ := Kd.R_form HO_0.out (by omega)
     (first | cases eo5 | (injection eo5 with ea_ en_ ec_; (first | subst ea_ | (injection ea_ with ea_; subst ea_)); subst ec_; clear en_))
     have GB5 := Aside0.mk gb5
     have GG5 := Aside0.mk HG5
     clear gb5 gl5 HG5
     have HMgo5 := Aside0.mk (show (P0_ go5 ∨ w.heap.size ≤ go5) from (HO_0.out.1 _ rfl))
     obtain ⟨hx5_0, hf5_0⟩ := Kd.R_celln 0 HO_0.out (x5_1 : Int) p5 q5
     replace p5 := eq_true p5
     replace q5 := eq_true q5
     have HP7 := Kd.R_putg HO_0.out (x5_1 : Int) x1_1
     go_wp2_with (first | ((with_reducible refine gate_store (t := 3) (p := 15) rfl ?_); refine store_event (t := 3) (p := 15) (v := ?vo_w8) (w1 := (wr.setCell ⟨go5, (x5_1 : Int).toNat, none⟩ (.int .i64 x1_1))) ?hg ?ho ?hn ?hr ?_; (case ho => rfl); (case hg => rfl); (case hn => rfl); (case hr => first | (go_simp; done) | (go_simp; rfl)); intro w8 hw; have hg : wr.grownBy w8 (some go5) := (by rw [hw]; exact HP7.2); have hp_ : Kd.R (Kd.int .i64) 3 w8 w0.heap.size (fun k_ => (P0_ k_ ∨ w.heap.size ≤ k_)) (.slice (some ⟨go5, 0, none⟩) x0_1.length co6) y141 := (by rw [hw, Ny141.out]; exact HP7.1); clear HP7; have n0_ := Aside0.mk (hp_); have n1_ := Aside0.mk ((by rw [hw]; exact below_set (HB.out) GB5.out : Below w0.heap.size w0 w8)); have n2_ := Aside0.mk (Kept.of_grown (S := (fun k_ => P0_ k_)) hg (by repeat (first | (with_reducible first | exact HK.out | apply Kept.alloc | apply Kept.drewN | apply Kept.drew) | exact HK.out)) (fun k_ e_ => (HO_0.out.1 k_ e_))); clear HO_0; clear HB; clear HK; have HO_0 := n0_; have HB := n1_; have HK := n2_; clear n0_ n1_ n2_; clear hg hw hp_))
     go_roundg k1
     case measure => have := HK1.out; omega
     case rel => exact ⟨(y141), (wrap64 (x1_1 + 1)), (wrap64 (x5_1 + 1)), rF, rF, H', ⟨by have := HK1.out; omega⟩, ⟨by (with_reducible repeat (first | apply Kd.R_alloc | apply Kd.R_drewN | apply Kd.R_drew)); exact HO_0.out⟩, ⟨by repeat (first | (with_reducible first | exact HK.out | apply Kept.alloc | apply Kept.drewN | apply Kept.drew) | exact HK.out)⟩, ⟨bA⟩⟩
    ·rw [if_neg c4] at H
     exact absurd H (by simp)
   ·rw [if_neg c3] at H
    have c3b0 : decide (x5_1 < (x0_1.length : Int)) = false := decide_eq_false c3
    clear c3
    simp only [Option.some.injEq, Prod.mk.injEq] at H
    obtain ⟨rfl, rfl⟩ := H
    obtain ⟨Ao9, co9, eo9⟩ := Kd.R_slice HO_0.out
    subst eo9
    go_wp2
    go_ret
    exact ⟨rE, by (with_reducible repeat (first | apply Kd.R_alloc | apply Kd.R_drewN | apply Kd.R_drew)); exact HO_0.out, bA, by repeat (first | (with_reducible first | exact HK.out | apply Kept.alloc | apply Kept.drewN | apply Kept.drew) | exact HK.out)⟩

/-! ### laws_markNodeS: function 28 -/
def laws_markNodeS.row (x0 : List (S62)) (i : Int) : (S62) := x0.getD i.toNat z62
def laws_markNodeS.elem (x1 : Int) (t : ByteArray) (l : List Int) : (S62) := ⟨x1, t, (wrap64 ((wrap64 (x1 + 1)) + 1)), (wrap64 ((wrap64 ((wrap64 (x1 + 1)) + 1)) + 1)), (wrap64 ((wrap64 ((wrap64 ((wrap64 (x1 + 1)) + 1)) + 1)) + 1)), (Int.tmod (wrap64 ((wrap64 ((wrap64 ((wrap64 ((wrap64 (x1 + 1)) + 1)) + 1)) + 1)) + 1)) 3 == 0), l⟩
def laws_markNodeS.l0 : Nat → List (S62) → Int → Int → Option (Int × List (S62))
 | 0, _, _, _ => none
 | k + 1, x0, x1, x5 => if x5 < (x0.length : Int) then (if 0 ≤ x5 then ((laws_markText.f k (wrap64 (x1 + 1))).bind fun t => ((laws_markIntS.f k (laws_markNodeS.row x0 x5).f6 (wrap64 ((wrap64 ((wrap64 ((wrap64 ((wrap64 ((wrap64 (x1 + 1)) + 1)) + 1)) + 1)) + 1)) + 1))).bind fun bt => (laws_markNodeS.l0 k (x0.set x5.toNat (laws_markNodeS.elem x1 t bt.2)) bt.1 (wrap64 (x5 + 1))))) else (none)) else (some (x1, x0))
def laws_markNodeS.f (k : Nat) (l0 : List (S62)) (a1 : Int) : Option (Int × List (S62)) := laws_markNodeS.l0 k l0 a1 0
set_option maxHeartbeats 16000000 in
set_option maxRecDepth 100000 in
theorem laws_markNodeS.calls (k : Nat) (P0_ : Nat → Prop) (u9000_ : Value) (l0 : List (S62)) (a1 : Int) (r1 : Int) (r2 : List (S62)) (w0 w : World) (hB : Below w0.heap.size w0 w) (ho0 : Kd.S k62 62 w w0.heap.size P0_ u9000_ l0) (h : laws_markNodeS.f k l0 a1 = some (r1, r2)) :
  Calls Try.prog 28 #[u9000_, .int .i64 a1] w fun e w' => e = .returned (.int .i64 r1) ∧ Kd.S k62 62 w' w0.heap.size P0_ u9000_ r2 ∧ Below w0.heap.size w0 w' ∧ Kept w w' P0_ := by
 have HO0 := Aside0.mk ho0
 have HK := Aside0.mk (Kept.refl w P0_)
 have HB := Aside0.mk hB
 clear hB ho0
 have H' : Aside0 (laws_markNodeS.l0 k l0 a1 0 = some (r1, r2)) := ⟨h⟩
 clear h
 go_enter Try.func28, Try.ntmps28
 go_wp2
 go_loopg [1, 5] k (fun kq v1 v5 w' => ∃ (x0_1 : List (S62)) (x1_1 : Int) (x5_1 : Int), v1 = .int .i64 x1_1 ∧ v5 = .int .i64 x5_1 ∧ Aside0 (laws_markNodeS.l0 kq x0_1 x1_1 x5_1 = some (r1, r2)) ∧ Aside0 (kq ≤ k) ∧ Aside0 (Kd.S k62 62 w' w0.heap.size P0_ u9000_ x0_1) ∧ Aside0 (Kept w w' P0_) ∧ Aside0 (Below w0.heap.size w0 w'))
 case atStart => exact ⟨l0, a1, 0, rF, rF, H', ⟨Nat.le_refl _⟩, ⟨by (with_reducible repeat (first | apply Kd.S_alloc | apply Kd.S_drewN | apply Kd.S_drew)); exact HO0.out⟩, ⟨by repeat (first | (with_reducible first | exact HK.out | apply Kept.alloc | apply Kept.drewN | apply Kept.drew) | exact HK.out)⟩, ⟨bA⟩⟩
 case round =>
  clear H'
  obtain ⟨x0_1, x1_1, x5_1, rfl, rfl, HA, HK1, HO_0, HK, HB⟩ := hrel
  cases gk with
  | zero => exact absurd HA.out (by simp [laws_markNodeS.l0])
  | succ k1 =>
   have H := HA.out
   clear HA
   simp only [laws_markNodeS.l0] at H
   by_cases c3 : x5_1 < (x0_1.length : Int)
   ·rw [if_pos c3] at H
    have c3b0 : decide (x5_1 < (x0_1.length : Int)) = true := decide_eq_true c3
    by_cases c4 : 0 ≤ x5_1
    ·rw [if_pos c4] at H
     have c4b0 : decide (0 ≤ x5_1) = true := decide_eq_true c4
     obtain ⟨tn, A30, H⟩ := Option.bind_eq_some_iff.mp H
     have A3 := Aside0.mk A30
     clear A30
     obtain ⟨⟨t1, t2⟩, A40, H⟩ := Option.bind_eq_some_iff.mp H
     have A4 := Aside0.mk A40
     clear A40
     have H' := Aside0.mk H
     clear H
     obtain ⟨go5, co5, eo5, gb5, gl5, cl5, HG5⟩ := Kd.S_form HO_0.out (by omega)
     subst eo5
     obtain ⟨oki, ce, hcl, hM, hcc, hfr, hoki, hH⟩ := Kd.S_elem HO_0.out z62 x5_1 c4 c3
     replace hM : k62.M wr w0.heap.size oki (laws_markNodeS.row x0_1 x5_1) ce := hM
     obtain ⟨ve6, hce, hR⟩ := k62_openM hM
     subst hce
     have PG5 := Aside0.mk (show P0_ go5 from (Kd.S_R HO_0.out).1 go5 rfl)
     have GB5 := Aside0.mk gb5
     have HR5 := Aside0.mk hR
     have HH5 := Aside0.mk hH
     have HOK := Aside0.mk hoki
     have P5 := Aside0.mk c4
     have Q5 := Aside0.mk c3
     have p5 := eq_true c4
     have q5 := eq_true c3
     have hx5_0 : wr.cell? ⟨go5, (x5_1 : Int).toNat * 7, none⟩ = some (.int .i64 (laws_markNodeS.row x0_1 x5_1).f0) := hcc 0 _ rfl
     have hf5_0 : wr.frozen? ⟨go5, (x5_1 : Int).toNat * 7, none⟩ = false := hfr 0
     have hx5_1 : wr.cell? ⟨go5, (x5_1 : Int).toNat * 7 + 1, none⟩ = some (.string (laws_markNodeS.row x0_1 x5_1).f1) := hcc 1 _ rfl
     have hf5_1 : wr.frozen? ⟨go5, (x5_1 : Int).toNat * 7 + 1, none⟩ = false := hfr 1
     have hx5_2 : wr.cell? ⟨go5, (x5_1 : Int).toNat * 7 + 2, none⟩ = some (.int .i64 (laws_markNodeS.row x0_1 x5_1).f2) := hcc 2 _ rfl
     have hf5_2 : wr.frozen? ⟨go5, (x5_1 : Int).toNat * 7 + 2, none⟩ = false := hfr 2
     have hx5_3 : wr.cell? ⟨go5, (x5_1 : Int).toNat * 7 + 3, none⟩ = some (.int .i64 (laws_markNodeS.row x0_1 x5_1).f3) := hcc 3 _ rfl
     have hf5_3 : wr.frozen? ⟨go5, (x5_1 : Int).toNat * 7 + 3, none⟩ = false := hfr 3
     have hx5_4 : wr.cell? ⟨go5, (x5_1 : Int).toNat * 7 + 4, none⟩ = some (.int .i64 (laws_markNodeS.row x0_1 x5_1).f4) := hcc 4 _ rfl
     have hf5_4 : wr.frozen? ⟨go5, (x5_1 : Int).toNat * 7 + 4, none⟩ = false := hfr 4
     have hx5_5 : wr.cell? ⟨go5, (x5_1 : Int).toNat * 7 + 5, none⟩ = some (.bool (laws_markNodeS.row x0_1 x5_1).f5) := hcc 5 _ rfl
     have hf5_5 : wr.frozen? ⟨go5, (x5_1 : Int).toNat * 7 + 5, none⟩ = false := hfr 5
     have hx5_6 : wr.cell? ⟨go5, (x5_1 : Int).toNat * 7 + 6, none⟩ = some (ve6) := hcc 6 _ rfl
     have hf5_6 : wr.frozen? ⟨go5, (x5_1 : Int).toNat * 7 + 6, none⟩ = false := hfr 6
     clear gb5 gl5 HG5 hcc hfr hcl hR hH hoki c3 c4 HO_0
     go_wp2_with (first | ((with_reducible refine gate_store (t := 3) (p := 16) rfl ?_); refine store_event (t := 3) (p := 16) (v := ?vo_wa) (w1 := (wr.setCell ⟨go5, (x5_1 : Int).toNat * 7, none⟩ (.int .i64 x1_1))) ?hg ?ho ?hn ?hr ?_; (case ho => rfl); (case hg => rfl); (case hn => rfl); (case hr => first | (go_simp; done) | (go_simp; rfl)); intro wa hw; have hs_ := Kd.H_seg HH5.out P5.out Q5.out (seg := [.int .i64 x1_1]) (j := 0) (by show 1 ≤ 7; omega) (by intro q hq; rw [List.mem_singleton.1 hq]; rfl); have hg : wr.grownBy wa (some go5) := (by rw [hw]; exact hs_.2); have n0_ : Aside0 (Kd.H k62 62 wa w0.heap.size P0_ (.slice (some ⟨go5, 0, none⟩) x0_1.length co5) x0_1 x5_1 oki [.int .i64 x1_1, .string (laws_markNodeS.row x0_1 x5_1).f1, .int .i64 (laws_markNodeS.row x0_1 x5_1).f2, .int .i64 (laws_markNodeS.row x0_1 x5_1).f3, .int .i64 (laws_markNodeS.row x0_1 x5_1).f4, .bool (laws_markNodeS.row x0_1 x5_1).f5, ve6]) := ⟨by rw [hw]; exact hs_.1⟩; have n1_ : Aside0 ((Kd.int .i64).R 3 wa w0.heap.size oki ve6 (laws_markNodeS.row x0_1 x5_1).f6) := ⟨by rw [hw]; exact Kd.R_far HR5.out (p := ⟨go5, (x5_1 : Int).toNat * 7, none⟩) (fun k_ hk_ => (HOK.out k_ hk_).2) _⟩; have n2_ : Aside0 (Below w0.heap.size w0 wa) := ⟨by rw [hw]; exact below_set HB.out GB5.out⟩; have n3_ : Aside0 (Kept w wa P0_) := ⟨by rw [hw]; exact Kept.setCell HK.out (.inl PG5.out) _⟩; clear HH5 HR5 HB HK hs_ hw hg; clear hx5_0 hf5_0 hx5_1 hf5_1 hx5_2 hf5_2 hx5_3 hf5_3 hx5_4 hf5_4 hx5_5 hf5_5 hx5_6 hf5_6; have HH5 := n0_; have HR5 := n1_; have HB := n2_; have HK := n3_; clear n0_ n1_ n2_ n3_; obtain ⟨hcc, hfr⟩ := Kd.H_at HH5.out P5.out Q5.out; have hx5_0 : wa.cell? ⟨go5, (x5_1 : Int).toNat * 7, none⟩ = some (.int .i64 x1_1) := hcc 0 _ rfl; have hf5_0 : wa.frozen? ⟨go5, (x5_1 : Int).toNat * 7, none⟩ = false := hfr 0; have hx5_1 : wa.cell? ⟨go5, (x5_1 : Int).toNat * 7 + 1, none⟩ = some (.string (laws_markNodeS.row x0_1 x5_1).f1) := hcc 1 _ rfl; have hf5_1 : wa.frozen? ⟨go5, (x5_1 : Int).toNat * 7 + 1, none⟩ = false := hfr 1; have hx5_2 : wa.cell? ⟨go5, (x5_1 : Int).toNat * 7 + 2, none⟩ = some (.int .i64 (laws_markNodeS.row x0_1 x5_1).f2) := hcc 2 _ rfl; have hf5_2 : wa.frozen? ⟨go5, (x5_1 : Int).toNat * 7 + 2, none⟩ = false := hfr 2; have hx5_3 : wa.cell? ⟨go5, (x5_1 : Int).toNat * 7 + 3, none⟩ = some (.int .i64 (laws_markNodeS.row x0_1 x5_1).f3) := hcc 3 _ rfl; have hf5_3 : wa.frozen? ⟨go5, (x5_1 : Int).toNat * 7 + 3, none⟩ = false := hfr 3; have hx5_4 : wa.cell? ⟨go5, (x5_1 : Int).toNat * 7 + 4, none⟩ = some (.int .i64 (laws_markNodeS.row x0_1 x5_1).f4) := hcc 4 _ rfl; have hf5_4 : wa.frozen? ⟨go5, (x5_1 : Int).toNat * 7 + 4, none⟩ = false := hfr 4; have hx5_5 : wa.cell? ⟨go5, (x5_1 : Int).toNat * 7 + 5, none⟩ = some (.bool (laws_markNodeS.row x0_1 x5_1).f5) := hcc 5 _ rfl; have hf5_5 : wa.frozen? ⟨go5, (x5_1 : Int).toNat * 7 + 5, none⟩ = false := hfr 5; have hx5_6 : wa.cell? ⟨go5, (x5_1 : Int).toNat * 7 + 6, none⟩ = some (ve6) := hcc 6 _ rfl; have hf5_6 : wa.frozen? ⟨go5, (x5_1 : Int).toNat * 7 + 6, none⟩ = false := hfr 6; clear hcc hfr) | (go_at_call 61; (with_reducible refine (laws_markText.calls k1 (wrap64 (x1_1 + 1)) tn _ A3.out).mono ?_); rintro e wb ⟨rfl, hb⟩; have n0_ : Aside0 (Kd.H k62 62 wb w0.heap.size P0_ (.slice (some ⟨go5, 0, none⟩) x0_1.length co5) x0_1 x5_1 oki [.int .i64 x1_1, .string (laws_markNodeS.row x0_1 x5_1).f1, .int .i64 (laws_markNodeS.row x0_1 x5_1).f2, .int .i64 (laws_markNodeS.row x0_1 x5_1).f3, .int .i64 (laws_markNodeS.row x0_1 x5_1).f4, .bool (laws_markNodeS.row x0_1 x5_1).f5, ve6]) := ⟨Kd.H_below HH5.out hb⟩; have n1_ := Aside0.mk (Kd.R_below HR5.out hb); have n2_ := Aside0.mk (below_step HB.out hb); have n3_ := Aside0.mk (Kept.below HK.out hb); clear HH5 HR5 HB HK hb; clear hx5_0 hf5_0 hx5_1 hf5_1 hx5_2 hf5_2 hx5_3 hf5_3 hx5_4 hf5_4 hx5_5 hf5_5 hx5_6 hf5_6; have HH5 := n0_; have HR5 := n1_; have HB := n2_; have HK := n3_; clear n0_ n1_ n2_ n3_; obtain ⟨hcc, hfr⟩ := Kd.H_at HH5.out P5.out Q5.out; have hx5_0 : wb.cell? ⟨go5, (x5_1 : Int).toNat * 7, none⟩ = some (.int .i64 x1_1) := hcc 0 _ rfl; have hf5_0 : wb.frozen? ⟨go5, (x5_1 : Int).toNat * 7, none⟩ = false := hfr 0; have hx5_1 : wb.cell? ⟨go5, (x5_1 : Int).toNat * 7 + 1, none⟩ = some (.string (laws_markNodeS.row x0_1 x5_1).f1) := hcc 1 _ rfl; have hf5_1 : wb.frozen? ⟨go5, (x5_1 : Int).toNat * 7 + 1, none⟩ = false := hfr 1; have hx5_2 : wb.cell? ⟨go5, (x5_1 : Int).toNat * 7 + 2, none⟩ = some (.int .i64 (laws_markNodeS.row x0_1 x5_1).f2) := hcc 2 _ rfl; have hf5_2 : wb.frozen? ⟨go5, (x5_1 : Int).toNat * 7 + 2, none⟩ = false := hfr 2; have hx5_3 : wb.cell? ⟨go5, (x5_1 : Int).toNat * 7 + 3, none⟩ = some (.int .i64 (laws_markNodeS.row x0_1 x5_1).f3) := hcc 3 _ rfl; have hf5_3 : wb.frozen? ⟨go5, (x5_1 : Int).toNat * 7 + 3, none⟩ = false := hfr 3; have hx5_4 : wb.cell? ⟨go5, (x5_1 : Int).toNat * 7 + 4, none⟩ = some (.int .i64 (laws_markNodeS.row x0_1 x5_1).f4) := hcc 4 _ rfl; have hf5_4 : wb.frozen? ⟨go5, (x5_1 : Int).toNat * 7 + 4, none⟩ = false := hfr 4; have hx5_5 : wb.cell? ⟨go5, (x5_1 : Int).toNat * 7 + 5, none⟩ = some (.bool (laws_markNodeS.row x0_1 x5_1).f5) := hcc 5 _ rfl; have hf5_5 : wb.frozen? ⟨go5, (x5_1 : Int).toNat * 7 + 5, none⟩ = false := hfr 5; have hx5_6 : wb.cell? ⟨go5, (x5_1 : Int).toNat * 7 + 6, none⟩ = some (ve6) := hcc 6 _ rfl; have hf5_6 : wb.frozen? ⟨go5, (x5_1 : Int).toNat * 7 + 6, none⟩ = false := hfr 6; clear hcc hfr) | ((with_reducible refine gate_store (t := 9) (p := 24) rfl ?_); refine store_event (t := 9) (p := 24) (v := ?vo_wc) (w1 := (wb.setCell ⟨go5, (x5_1 : Int).toNat * 7 + 1, none⟩ (.string tn))) ?hg ?ho ?hn ?hr ?_; (case ho => rfl); (case hg => rfl); (case hn => rfl); (case hr => first | (go_simp; done) | (go_simp; rfl)); intro wc hw; have hs_ := Kd.H_seg HH5.out P5.out Q5.out (seg := [.string tn]) (j := 1) (by show 2 ≤ 7; omega) (by intro q hq; rw [List.mem_singleton.1 hq]; rfl); have hg : wb.grownBy wc (some go5) := (by rw [hw]; exact hs_.2); have n0_ : Aside0 (Kd.H k62 62 wc w0.heap.size P0_ (.slice (some ⟨go5, 0, none⟩) x0_1.length co5) x0_1 x5_1 oki [.int .i64 x1_1, .string tn, .int .i64 (laws_markNodeS.row x0_1 x5_1).f2, .int .i64 (laws_markNodeS.row x0_1 x5_1).f3, .int .i64 (laws_markNodeS.row x0_1 x5_1).f4, .bool (laws_markNodeS.row x0_1 x5_1).f5, ve6]) := ⟨by rw [hw]; exact hs_.1⟩; have n1_ : Aside0 ((Kd.int .i64).R 3 wc w0.heap.size oki ve6 (laws_markNodeS.row x0_1 x5_1).f6) := ⟨by rw [hw]; exact Kd.R_far HR5.out (p := ⟨go5, (x5_1 : Int).toNat * 7 + 1, none⟩) (fun k_ hk_ => (HOK.out k_ hk_).2) _⟩; have n2_ : Aside0 (Below w0.heap.size w0 wc) := ⟨by rw [hw]; exact below_set HB.out GB5.out⟩; have n3_ : Aside0 (Kept w wc P0_) := ⟨by rw [hw]; exact Kept.setCell HK.out (.inl PG5.out) _⟩; clear HH5 HR5 HB HK hs_ hw hg; clear hx5_0 hf5_0 hx5_1 hf5_1 hx5_2 hf5_2 hx5_3 hf5_3 hx5_4 hf5_4 hx5_5 hf5_5 hx5_6 hf5_6; have HH5 := n0_; have HR5 := n1_; have HB := n2_; have HK := n3_; clear n0_ n1_ n2_ n3_; obtain ⟨hcc, hfr⟩ := Kd.H_at HH5.out P5.out Q5.out; have hx5_0 : wc.cell? ⟨go5, (x5_1 : Int).toNat * 7, none⟩ = some (.int .i64 x1_1) := hcc 0 _ rfl; have hf5_0 : wc.frozen? ⟨go5, (x5_1 : Int).toNat * 7, none⟩ = false := hfr 0; have hx5_1 : wc.cell? ⟨go5, (x5_1 : Int).toNat * 7 + 1, none⟩ = some (.string tn) := hcc 1 _ rfl; have hf5_1 : wc.frozen? ⟨go5, (x5_1 : Int).toNat * 7 + 1, none⟩ = false := hfr 1; have hx5_2 : wc.cell? ⟨go5, (x5_1 : Int).toNat * 7 + 2, none⟩ = some (.int .i64 (laws_markNodeS.row x0_1 x5_1).f2) := hcc 2 _ rfl; have hf5_2 : wc.frozen? ⟨go5, (x5_1 : Int).toNat * 7 + 2, none⟩ = false := hfr 2; have hx5_3 : wc.cell? ⟨go5, (x5_1 : Int).toNat * 7 + 3, none⟩ = some (.int .i64 (laws_markNodeS.row x0_1 x5_1).f3) := hcc 3 _ rfl; have hf5_3 : wc.frozen? ⟨go5, (x5_1 : Int).toNat * 7 + 3, none⟩ = false := hfr 3; have hx5_4 : wc.cell? ⟨go5, (x5_1 : Int).toNat * 7 + 4, none⟩ = some (.int .i64 (laws_markNodeS.row x0_1 x5_1).f4) := hcc 4 _ rfl; have hf5_4 : wc.frozen? ⟨go5, (x5_1 : Int).toNat * 7 + 4, none⟩ = false := hfr 4; have hx5_5 : wc.cell? ⟨go5, (x5_1 : Int).toNat * 7 + 5, none⟩ = some (.bool (laws_markNodeS.row x0_1 x5_1).f5) := hcc 5 _ rfl; have hf5_5 : wc.frozen? ⟨go5, (x5_1 : Int).toNat * 7 + 5, none⟩ = false := hfr 5; have hx5_6 : wc.cell? ⟨go5, (x5_1 : Int).toNat * 7 + 6, none⟩ = some (ve6) := hcc 6 _ rfl; have hf5_6 : wc.frozen? ⟨go5, (x5_1 : Int).toNat * 7 + 6, none⟩ = false := hfr 6; clear hcc hfr) | ((with_reducible refine gate_store (t := 3) (p := 31) rfl ?_); refine store_event (t := 3) (p := 31) (v := ?vo_wd) (w1 := (wc.setCell ⟨go5, (x5_1 : Int).toNat * 7 + 2, none⟩ (.int .i64 (wrap64 ((wrap64 (x1_1 + 1)) + 1))))) ?hg ?ho ?hn ?hr ?_; (case ho => rfl); (case hg => rfl); (case hn => rfl); (case hr => first | (go_simp; done) | (go_simp; rfl)); intro wd hw; have hs_ := Kd.H_seg HH5.out P5.out Q5.out (seg := [.int .i64 (wrap64 ((wrap64 (x1_1 + 1)) + 1))]) (j := 2) (by show 3 ≤ 7; omega) (by intro q hq; rw [List.mem_singleton.1 hq]; rfl); have hg : wc.grownBy wd (some go5) := (by rw [hw]; exact hs_.2); have n0_ : Aside0 (Kd.H k62 62 wd w0.heap.size P0_ (.slice (some ⟨go5, 0, none⟩) x0_1.length co5) x0_1 x5_1 oki [.int .i64 x1_1, .string tn, .int .i64 (wrap64 ((wrap64 (x1_1 + 1)) + 1)), .int .i64 (laws_markNodeS.row x0_1 x5_1).f3, .int .i64 (laws_markNodeS.row x0_1 x5_1).f4, .bool (laws_markNodeS.row x0_1 x5_1).f5, ve6]) := ⟨by rw [hw]; exact hs_.1⟩; have n1_ : Aside0 ((Kd.int .i64).R 3 wd w0.heap.size oki ve6 (laws_markNodeS.row x0_1 x5_1).f6) := ⟨by rw [hw]; exact Kd.R_far HR5.out (p := ⟨go5, (x5_1 : Int).toNat * 7 + 2, none⟩) (fun k_ hk_ => (HOK.out k_ hk_).2) _⟩; have n2_ : Aside0 (Below w0.heap.size w0 wd) := ⟨by rw [hw]; exact below_set HB.out GB5.out⟩; have n3_ : Aside0 (Kept w wd P0_) := ⟨by rw [hw]; exact Kept.setCell HK.out (.inl PG5.out) _⟩; clear HH5 HR5 HB HK hs_ hw hg; clear hx5_0 hf5_0 hx5_1 hf5_1 hx5_2 hf5_2 hx5_3 hf5_3 hx5_4 hf5_4 hx5_5 hf5_5 hx5_6 hf5_6; have HH5 := n0_; have HR5 := n1_; have HB := n2_; have HK := n3_; clear n0_ n1_ n2_ n3_; obtain ⟨hcc, hfr⟩ := Kd.H_at HH5.out P5.out Q5.out; have hx5_0 : wd.cell? ⟨go5, (x5_1 : Int).toNat * 7, none⟩ = some (.int .i64 x1_1) := hcc 0 _ rfl; have hf5_0 : wd.frozen? ⟨go5, (x5_1 : Int).toNat * 7, none⟩ = false := hfr 0; have hx5_1 : wd.cell? ⟨go5, (x5_1 : Int).toNat * 7 + 1, none⟩ = some (.string tn) := hcc 1 _ rfl; have hf5_1 : wd.frozen? ⟨go5, (x5_1 : Int).toNat * 7 + 1, none⟩ = false := hfr 1; have hx5_2 : wd.cell? ⟨go5, (x5_1 : Int).toNat * 7 + 2, none⟩ = some (.int .i64 (wrap64 ((wrap64 (x1_1 + 1)) + 1))) := hcc 2 _ rfl; have hf5_2 : wd.frozen? ⟨go5, (x5_1 : Int).toNat * 7 + 2, none⟩ = false := hfr 2; have hx5_3 : wd.cell? ⟨go5, (x5_1 : Int).toNat * 7 + 3, none⟩ = some (.int .i64 (laws_markNodeS.row x0_1 x5_1).f3) := hcc 3 _ rfl; have hf5_3 : wd.frozen? ⟨go5, (x5_1 : Int).toNat * 7 + 3, none⟩ = false := hfr 3; have hx5_4 : wd.cell? ⟨go5, (x5_1 : Int).toNat * 7 + 4, none⟩ = some (.int .i64 (laws_markNodeS.row x0_1 x5_1).f4) := hcc 4 _ rfl; have hf5_4 : wd.frozen? ⟨go5, (x5_1 : Int).toNat * 7 + 4, none⟩ = false := hfr 4; have hx5_5 : wd.cell? ⟨go5, (x5_1 : Int).toNat * 7 + 5, none⟩ = some (.bool (laws_markNodeS.row x0_1 x5_1).f5) := hcc 5 _ rfl; have hf5_5 : wd.frozen? ⟨go5, (x5_1 : Int).toNat * 7 + 5, none⟩ = false := hfr 5; have hx5_6 : wd.cell? ⟨go5, (x5_1 : Int).toNat * 7 + 6, none⟩ = some (ve6) := hcc 6 _ rfl; have hf5_6 : wd.frozen? ⟨go5, (x5_1 : Int).toNat * 7 + 6, none⟩ = false := hfr 6; clear hcc hfr) | ((with_reducible refine gate_store (t := 3) (p := 38) rfl ?_); refine store_event (t := 3) (p := 38) (v := ?vo_we) (w1 := (wd.setCell ⟨go5, (x5_1 : Int).toNat * 7 + 3, none⟩ (.int .i64 (wrap64 ((wrap64 ((wrap64 (x1_1 + 1)) + 1)) + 1))))) ?hg ?ho ?hn ?hr ?_; (case ho => rfl); (case hg => rfl); (case hn => rfl); (case hr => first | (go_simp; done) | (go_simp; rfl)); intro we hw; have hs_ := Kd.H_seg HH5.out P5.out Q5.out (seg := [.int .i64 (wrap64 ((wrap64 ((wrap64 (x1_1 + 1)) + 1)) + 1))]) (j := 3) (by show 4 ≤ 7; omega) (by intro q hq; rw [List.mem_singleton.1 hq]; rfl); have hg : wd.grownBy we (some go5) := (by rw [hw]; exact hs_.2); have n0_ : Aside0 (Kd.H k62 62 we w0.heap.size P0_ (.slice (some ⟨go5, 0, none⟩) x0_1.length co5) x0_1 x5_1 oki [.int .i64 x1_1, .string tn, .int .i64 (wrap64 ((wrap64 (x1_1 + 1)) + 1)), .int .i64 (wrap64 ((wrap64 ((wrap64 (x1_1 + 1)) + 1)) + 1)), .int .i64 (laws_markNodeS.row x0_1 x5_1).f4, .bool (laws_markNodeS.row x0_1 x5_1).f5, ve6]) := ⟨by rw [hw]; exact hs_.1⟩; have n1_ : Aside0 ((Kd.int .i64).R 3 we w0.heap.size oki ve6 (laws_markNodeS.row x0_1 x5_1).f6) := ⟨by rw [hw]; exact Kd.R_far HR5.out (p := ⟨go5, (x5_1 : Int).toNat * 7 + 3, none⟩) (fun k_ hk_ => (HOK.out k_ hk_).2) _⟩; have n2_ : Aside0 (Below w0.heap.size w0 we) := ⟨by rw [hw]; exact below_set HB.out GB5.out⟩; have n3_ : Aside0 (Kept w we P0_) := ⟨by rw [hw]; exact Kept.setCell HK.out (.inl PG5.out) _⟩; clear HH5 HR5 HB HK hs_ hw hg; clear hx5_0 hf5_0 hx5_1 hf5_1 hx5_2 hf5_2 hx5_3 hf5_3 hx5_4 hf5_4 hx5_5 hf5_5 hx5_6 hf5_6; have HH5 := n0_; have HR5 := n1_; have HB := n2_; have HK := n3_; clear n0_ n1_ n2_ n3_; obtain ⟨hcc, hfr⟩ := Kd.H_at HH5.out P5.out Q5.out; have hx5_0 : we.cell? ⟨go5, (x5_1 : Int).toNat * 7, none⟩ = some (.int .i64 x1_1) := hcc 0 _ rfl; have hf5_0 : we.frozen? ⟨go5, (x5_1 : Int).toNat * 7, none⟩ = false := hfr 0; have hx5_1 : we.cell? ⟨go5, (x5_1 : Int).toNat * 7 + 1, none⟩ = some (.string tn) := hcc 1 _ rfl; have hf5_1 : we.frozen? ⟨go5, (x5_1 : Int).toNat * 7 + 1, none⟩ = false := hfr 1; have hx5_2 : we.cell? ⟨go5, (x5_1 : Int).toNat * 7 + 2, none⟩ = some (.int .i64 (wrap64 ((wrap64 (x1_1 + 1)) + 1))) := hcc 2 _ rfl; have hf5_2 : we.frozen? ⟨go5, (x5_1 : Int).toNat * 7 + 2, none⟩ = false := hfr 2; have hx5_3 : we.cell? ⟨go5, (x5_1 : Int).toNat * 7 + 3, none⟩ = some (.int .i64 (wrap64 ((wrap64 ((wrap64 (x1_1 + 1)) + 1)) + 1))) := hcc 3 _ rfl; have hf5_3 : we.frozen? ⟨go5, (x5_1 : Int).toNat * 7 + 3, none⟩ = false := hfr 3; have hx5_4 : we.cell? ⟨go5, (x5_1 : Int).toNat * 7 + 4, none⟩ = some (.int .i64 (laws_markNodeS.row x0_1 x5_1).f4) := hcc 4 _ rfl; have hf5_4 : we.frozen? ⟨go5, (x5_1 : Int).toNat * 7 + 4, none⟩ = false := hfr 4; have hx5_5 : we.cell? ⟨go5, (x5_1 : Int).toNat * 7 + 5, none⟩ = some (.bool (laws_markNodeS.row x0_1 x5_1).f5) := hcc 5 _ rfl; have hf5_5 : we.frozen? ⟨go5, (x5_1 : Int).toNat * 7 + 5, none⟩ = false := hfr 5; have hx5_6 : we.cell? ⟨go5, (x5_1 : Int).toNat * 7 + 6, none⟩ = some (ve6) := hcc 6 _ rfl; have hf5_6 : we.frozen? ⟨go5, (x5_1 : Int).toNat * 7 + 6, none⟩ = false := hfr 6; clear hcc hfr) | ((with_reducible refine gate_store (t := 3) (p := 45) rfl ?_); refine store_event (t := 3) (p := 45) (v := ?vo_wf) (w1 := (we.setCell ⟨go5, (x5_1 : Int).toNat * 7 + 4, none⟩ (.int .i64 (wrap64 ((wrap64 ((wrap64 ((wrap64 (x1_1 + 1)) + 1)) + 1)) + 1))))) ?hg ?ho ?hn ?hr ?_; (case ho => rfl); (case hg => rfl); (case hn => rfl); (case hr => first | (go_simp; done) | (go_simp; rfl)); intro wf hw; have hs_ := Kd.H_seg HH5.out P5.out Q5.out (seg := [.int .i64 (wrap64 ((wrap64 ((wrap64 ((wrap64 (x1_1 + 1)) + 1)) + 1)) + 1))]) (j := 4) (by show 5 ≤ 7; omega) (by intro q hq; rw [List.mem_singleton.1 hq]; rfl); have hg : we.grownBy wf (some go5) := (by rw [hw]; exact hs_.2); have n0_ : Aside0 (Kd.H k62 62 wf w0.heap.size P0_ (.slice (some ⟨go5, 0, none⟩) x0_1.length co5) x0_1 x5_1 oki [.int .i64 x1_1, .string tn, .int .i64 (wrap64 ((wrap64 (x1_1 + 1)) + 1)), .int .i64 (wrap64 ((wrap64 ((wrap64 (x1_1 + 1)) + 1)) + 1)), .int .i64 (wrap64 ((wrap64 ((wrap64 ((wrap64 (x1_1 + 1)) + 1)) + 1)) + 1)), .bool (laws_markNodeS.row x0_1 x5_1).f5, ve6]) := ⟨by rw [hw]; exact hs_.1⟩; have n1_ : Aside0 ((Kd.int .i64).R 3 wf w0.heap.size oki ve6 (laws_markNodeS.row x0_1 x5_1).f6) := ⟨by rw [hw]; exact Kd.R_far HR5.out (p := ⟨go5, (x5_1 : Int).toNat * 7 + 4, none⟩) (fun k_ hk_ => (HOK.out k_ hk_).2) _⟩; have n2_ : Aside0 (Below w0.heap.size w0 wf) := ⟨by rw [hw]; exact below_set HB.out GB5.out⟩; have n3_ : Aside0 (Kept w wf P0_) := ⟨by rw [hw]; exact Kept.setCell HK.out (.inl PG5.out) _⟩; clear HH5 HR5 HB HK hs_ hw hg; clear hx5_0 hf5_0 hx5_1 hf5_1 hx5_2 hf5_2 hx5_3 hf5_3 hx5_4 hf5_4 hx5_5 hf5_5 hx5_6 hf5_6; have HH5 := n0_; have HR5 := n1_; have HB := n2_; have HK := n3_; clear n0_ n1_ n2_ n3_; obtain ⟨hcc, hfr⟩ := Kd.H_at HH5.out P5.out Q5.out; have hx5_0 : wf.cell? ⟨go5, (x5_1 : Int).toNat * 7, none⟩ = some (.int .i64 x1_1) := hcc 0 _ rfl; have hf5_0 : wf.frozen? ⟨go5, (x5_1 : Int).toNat * 7, none⟩ = false := hfr 0; have hx5_1 : wf.cell? ⟨go5, (x5_1 : Int).toNat * 7 + 1, none⟩ = some (.string tn) := hcc 1 _ rfl; have hf5_1 : wf.frozen? ⟨go5, (x5_1 : Int).toNat * 7 + 1, none⟩ = false := hfr 1; have hx5_2 : wf.cell? ⟨go5, (x5_1 : Int).toNat * 7 + 2, none⟩ = some (.int .i64 (wrap64 ((wrap64 (x1_1 + 1)) + 1))) := hcc 2 _ rfl; have hf5_2 : wf.frozen? ⟨go5, (x5_1 : Int).toNat * 7 + 2, none⟩ = false := hfr 2; have hx5_3 : wf.cell? ⟨go5, (x5_1 : Int).toNat * 7 + 3, none⟩ = some (.int .i64 (wrap64 ((wrap64 ((wrap64 (x1_1 + 1)) + 1)) + 1))) := hcc 3 _ rfl; have hf5_3 : wf.frozen? ⟨go5, (x5_1 : Int).toNat * 7 + 3, none⟩ = false := hfr 3; have hx5_4 : wf.cell? ⟨go5, (x5_1 : Int).toNat * 7 + 4, none⟩ = some (.int .i64 (wrap64 ((wrap64 ((wrap64 ((wrap64 (x1_1 + 1)) + 1)) + 1)) + 1))) := hcc 4 _ rfl; have hf5_4 : wf.frozen? ⟨go5, (x5_1 : Int).toNat * 7 + 4, none⟩ = false := hfr 4; have hx5_5 : wf.cell? ⟨go5, (x5_1 : Int).toNat * 7 + 5, none⟩ = some (.bool (laws_markNodeS.row x0_1 x5_1).f5) := hcc 5 _ rfl; have hf5_5 : wf.frozen? ⟨go5, (x5_1 : Int).toNat * 7 + 5, none⟩ = false := hfr 5; have hx5_6 : wf.cell? ⟨go5, (x5_1 : Int).toNat * 7 + 6, none⟩ = some (ve6) := hcc 6 _ rfl; have hf5_6 : wf.frozen? ⟨go5, (x5_1 : Int).toNat * 7 + 6, none⟩ = false := hfr 6; clear hcc hfr) | ((with_reducible refine gate_store (t := 4) (p := 54) rfl ?_); refine store_event (t := 4) (p := 54) (v := ?vo_wg) (w1 := (wf.setCell ⟨go5, (x5_1 : Int).toNat * 7 + 5, none⟩ (.bool (Int.tmod (wrap64 ((wrap64 ((wrap64 ((wrap64 ((wrap64 (x1_1 + 1)) + 1)) + 1)) + 1)) + 1)) 3 == 0)))) ?hg ?ho ?hn ?hr ?_; (case ho => rfl); (case hg => rfl); (case hn => rfl); (case hr => first | (go_simp; done) | (go_simp; rfl)); intro wg hw; have hs_ := Kd.H_seg HH5.out P5.out Q5.out (seg := [.bool (Int.tmod (wrap64 ((wrap64 ((wrap64 ((wrap64 ((wrap64 (x1_1 + 1)) + 1)) + 1)) + 1)) + 1)) 3 == 0)]) (j := 5) (by show 6 ≤ 7; omega) (by intro q hq; rw [List.mem_singleton.1 hq]; rfl); have hg : wf.grownBy wg (some go5) := (by rw [hw]; exact hs_.2); have n0_ : Aside0 (Kd.H k62 62 wg w0.heap.size P0_ (.slice (some ⟨go5, 0, none⟩) x0_1.length co5) x0_1 x5_1 oki [.int .i64 x1_1, .string tn, .int .i64 (wrap64 ((wrap64 (x1_1 + 1)) + 1)), .int .i64 (wrap64 ((wrap64 ((wrap64 (x1_1 + 1)) + 1)) + 1)), .int .i64 (wrap64 ((wrap64 ((wrap64 ((wrap64 (x1_1 + 1)) + 1)) + 1)) + 1)), .bool (Int.tmod (wrap64 ((wrap64 ((wrap64 ((wrap64 ((wrap64 (x1_1 + 1)) + 1)) + 1)) + 1)) + 1)) 3 == 0), ve6]) := ⟨by rw [hw]; exact hs_.1⟩; have n1_ : Aside0 ((Kd.int .i64).R 3 wg w0.heap.size oki ve6 (laws_markNodeS.row x0_1 x5_1).f6) := ⟨by rw [hw]; exact Kd.R_far HR5.out (p := ⟨go5, (x5_1 : Int).toNat * 7 + 5, none⟩) (fun k_ hk_ => (HOK.out k_ hk_).2) _⟩; have n2_ : Aside0 (Below w0.heap.size w0 wg) := ⟨by rw [hw]; exact below_set HB.out GB5.out⟩; have n3_ : Aside0 (Kept w wg P0_) := ⟨by rw [hw]; exact Kept.setCell HK.out (.inl PG5.out) _⟩; clear HH5 HR5 HB HK hs_ hw hg; clear hx5_0 hf5_0 hx5_1 hf5_1 hx5_2 hf5_2 hx5_3 hf5_3 hx5_4 hf5_4 hx5_5 hf5_5 hx5_6 hf5_6; have HH5 := n0_; have HR5 := n1_; have HB := n2_; have HK := n3_; clear n0_ n1_ n2_ n3_; obtain ⟨hcc, hfr⟩ := Kd.H_at HH5.out P5.out Q5.out; have hx5_0 : wg.cell? ⟨go5, (x5_1 : Int).toNat * 7, none⟩ = some (.int .i64 x1_1) := hcc 0 _ rfl; have hf5_0 : wg.frozen? ⟨go5, (x5_1 : Int).toNat * 7, none⟩ = false := hfr 0; have hx5_1 : wg.cell? ⟨go5, (x5_1 : Int).toNat * 7 + 1, none⟩ = some (.string tn) := hcc 1 _ rfl; have hf5_1 : wg.frozen? ⟨go5, (x5_1 : Int).toNat * 7 + 1, none⟩ = false := hfr 1; have hx5_2 : wg.cell? ⟨go5, (x5_1 : Int).toNat * 7 + 2, none⟩ = some (.int .i64 (wrap64 ((wrap64 (x1_1 + 1)) + 1))) := hcc 2 _ rfl; have hf5_2 : wg.frozen? ⟨go5, (x5_1 : Int).toNat * 7 + 2, none⟩ = false := hfr 2; have hx5_3 : wg.cell? ⟨go5, (x5_1 : Int).toNat * 7 + 3, none⟩ = some (.int .i64 (wrap64 ((wrap64 ((wrap64 (x1_1 + 1)) + 1)) + 1))) := hcc 3 _ rfl; have hf5_3 : wg.frozen? ⟨go5, (x5_1 : Int).toNat * 7 + 3, none⟩ = false := hfr 3; have hx5_4 : wg.cell? ⟨go5, (x5_1 : Int).toNat * 7 + 4, none⟩ = some (.int .i64 (wrap64 ((wrap64 ((wrap64 ((wrap64 (x1_1 + 1)) + 1)) + 1)) + 1))) := hcc 4 _ rfl; have hf5_4 : wg.frozen? ⟨go5, (x5_1 : Int).toNat * 7 + 4, none⟩ = false := hfr 4; have hx5_5 : wg.cell? ⟨go5, (x5_1 : Int).toNat * 7 + 5, none⟩ = some (.bool (Int.tmod (wrap64 ((wrap64 ((wrap64 ((wrap64 ((wrap64 (x1_1 + 1)) + 1)) + 1)) + 1)) + 1)) 3 == 0)) := hcc 5 _ rfl; have hf5_5 : wg.frozen? ⟨go5, (x5_1 : Int).toNat * 7 + 5, none⟩ = false := hfr 5; have hx5_6 : wg.cell? ⟨go5, (x5_1 : Int).toNat * 7 + 6, none⟩ = some (ve6) := hcc 6 _ rfl; have hf5_6 : wg.frozen? ⟨go5, (x5_1 : Int).toNat * 7 + 6, none⟩ = false := hfr 6; clear hcc hfr) | (go_at_call 62; (with_reducible refine (laws_markIntS.calls k1 oki ve6 (laws_markNodeS.row x0_1 x5_1).f6 (wrap64 ((wrap64 ((wrap64 ((wrap64 ((wrap64 ((wrap64 (x1_1 + 1)) + 1)) + 1)) + 1)) + 1)) + 1)) t1 t2 w0 _ ?side1 ?side2 A4.out).mono ?_); (case side1 => exact HB.out); (case side2 => exact HR5.out); rintro e wh ⟨rfl, ho, hb, hk⟩; have hH2 : Kd.H k62 62 wh w0.heap.size P0_ (.slice (some ⟨go5, 0, none⟩) x0_1.length co5) x0_1 x5_1 oki [.int .i64 x1_1, .string tn, .int .i64 (wrap64 ((wrap64 (x1_1 + 1)) + 1)), .int .i64 (wrap64 ((wrap64 ((wrap64 (x1_1 + 1)) + 1)) + 1)), .int .i64 (wrap64 ((wrap64 ((wrap64 ((wrap64 (x1_1 + 1)) + 1)) + 1)) + 1)), .bool (Int.tmod (wrap64 ((wrap64 ((wrap64 ((wrap64 ((wrap64 (x1_1 + 1)) + 1)) + 1)) + 1)) + 1)) 3 == 0), ve6] := Kd.H_kept HH5.out hk (fun k_ _ hn_ => hn_); have hM2 : k62.M wh w0.heap.size oki (laws_markNodeS.elem x1_1 tn t2) [.int .i64 x1_1, .string tn, .int .i64 (wrap64 ((wrap64 (x1_1 + 1)) + 1)), .int .i64 (wrap64 ((wrap64 ((wrap64 (x1_1 + 1)) + 1)) + 1)), .int .i64 (wrap64 ((wrap64 ((wrap64 ((wrap64 (x1_1 + 1)) + 1)) + 1)) + 1)), .bool (Int.tmod (wrap64 ((wrap64 ((wrap64 ((wrap64 ((wrap64 (x1_1 + 1)) + 1)) + 1)) + 1)) + 1)) 3 == 0), ve6] := k62_mkM wh w0.heap.size oki (laws_markNodeS.elem x1_1 tn t2) (Kd.R_reok rfl ho (fun k_ hk_ => HR5.out.1 k_ hk_)); have n0_ := Aside0.mk (Kd.H_back hH2 hM2 (fun _ hk_ => hk_)); have n1_ := Aside0.mk hb; have n2_ := Aside0.mk (Kept.then_ (S2 := oki) HK.out hk (fun k_ hk_ => .inl (HOK.out k_ hk_).1)); clear hH2 hM2 HB HK HH5 HR5 ho hb hk; clear hx5_0 hf5_0 hx5_1 hf5_1 hx5_2 hf5_2 hx5_3 hf5_3 hx5_4 hf5_4 hx5_5 hf5_5 hx5_6 hf5_6; have HO_0 := n0_; have HB := n1_; have HK := n2_; clear n0_ n1_ n2_))
     go_roundg k1
     case measure => have := HK1.out; omega
     case rel => exact ⟨(x0_1.set x5_1.toNat (laws_markNodeS.elem x1_1 tn t2)), t1, (wrap64 (x5_1 + 1)), rF, rF, H', ⟨by have := HK1.out; omega⟩, ⟨by (with_reducible repeat (first | apply Kd.S_alloc | apply Kd.S_drewN | apply Kd.S_drew)); exact HO_0.out⟩, ⟨by repeat (first | (with_reducible first | exact HK.out | apply Kept.alloc | apply Kept.drewN | apply Kept.drew) | exact HK.out)⟩, ⟨bA⟩⟩
    ·rw [if_neg c4] at H
     exact absurd H (by simp)
   ·rw [if_neg c3] at H
    have c3b0 : decide (x5_1 < (x0_1.length : Int)) = false := decide_eq_false c3
    clear c3
    simp only [Option.some.injEq, Prod.mk.injEq] at H
    obtain ⟨rfl, rfl⟩ := H
    obtain ⟨Ao9, co9, eo9⟩ := Kd.S_slice HO_0.out
    subst eo9
    go_wp2
    go_ret
    exact ⟨rF, by (with_reducible repeat (first | apply Kd.S_alloc | apply Kd.S_drewN | apply Kd.S_drew)); exact HO_0.out, bA, by repeat (first | (with_reducible first | exact HK.out | apply Kept.alloc | apply Kept.drewN | apply Kept.drew) | exact HK.out)⟩

/-! ### spec_WordOk: function 68 -/
mutual
def spec_WordOk.j0 : Nat → ByteArray → Bool → Option (Bool)
 | 0, _, _ => none
 | k + 1, x0, x12 => if x12 = true then (some false) else (spec_WordOk.l0 k x0 0)
def spec_WordOk.l0 : Nat → ByteArray → Int → Option (Bool)
 | 0, _, _ => none
 | k + 1, x0, x3 => if x3 < (x0.size : Int) then (if 0 ≤ x3 then (if (bt x0 x3) < 97 then (if (bt x0 x3) < 48 then (some false) else (if (bt x0 x3) > 57 then (some false) else (spec_WordOk.l0 k x0 (wrap64 (x3 + 1))))) else (if (bt x0 x3) > 122 then (if (bt x0 x3) < 48 then (some false) else (if (bt x0 x3) > 57 then (some false) else (spec_WordOk.l0 k x0 (wrap64 (x3 + 1))))) else (spec_WordOk.l0 k x0 (wrap64 (x3 + 1))))) else (none)) else (some true)
end
def spec_WordOk.f (k : Nat) (a0 : ByteArray) : Option (Bool) := (spec_l01In.f (a0.size : Int) 1 12).bind fun t142 => (if t142 = true then (if 0 < (a0.size : Int) then (spec_WordOk.j0 k a0 (decide ((bt a0 0) < 97))) else (none)) else (spec_WordOk.j0 k a0 true))
theorem spec_WordOk.mono_l : ∀ k, (∀ y0 y1, LeO (spec_WordOk.j0 k y0 y1) (spec_WordOk.j0 (k + 1) y0 y1)) ∧ (∀ y0 y1, LeO (spec_WordOk.l0 k y0 y1) (spec_WordOk.l0 (k + 1) y0 y1))
 | 0 => ⟨fun _ _ r h => by simp [spec_WordOk.j0] at h, fun _ _ r h => by simp [spec_WordOk.l0] at h⟩
 | k + 1 => by
  obtain ⟨ih0, ih1⟩ := spec_WordOk.mono_l k
  refine ⟨?_, ?_⟩ <;> intros <;> (first | unfold spec_WordOk.j0 | unfold spec_WordOk.l0)
  all_goals repeat' first
  | (with_reducible exact ih0 _ _)
  | (with_reducible exact ih1 _ _)
  | (with_reducible exact LeO.refl _)
  | (with_reducible exact LeO.none _)
  | (with_reducible refine LeO.ite ?_ ?_)
  | (with_reducible refine LeO.bind ?_ (fun _ => ?_))
  | exact ih0 _ _
  | exact ih1 _ _
  | exact LeO.none _
  | refine LeO.ite ?_ ?_
  | refine LeO.bind ?_ (fun _ => ?_)
theorem spec_WordOk.mono : ∀ a0 k, LeO (spec_WordOk.f k a0) (spec_WordOk.f (k + 1) a0) := by
 intro a0 k
 obtain ⟨ih0, ih1⟩ := spec_WordOk.mono_l k
 unfold spec_WordOk.f
 repeat' first
   | (with_reducible exact ih0 _ _)
   | (with_reducible exact ih1 _ _)
   | (with_reducible exact LeO.refl _)
   | (with_reducible exact LeO.none _)
   | (with_reducible refine LeO.ite ?_ ?_)
   | (with_reducible refine LeO.bind ?_ (fun _ => ?_))
   | exact ih0 _ _
   | exact ih1 _ _
   | exact LeO.none _
   | refine LeO.ite ?_ ?_
   | refine LeO.bind ?_ (fun _ => ?_)
set_option maxHeartbeats 8000000 in
set_option maxRecDepth 100000 in
theorem spec_WordOk.calls (k : Nat) (a0 : ByteArray) (r : Bool) (w : World) (h : spec_WordOk.f k a0 = some r) :
  Calls Try.prog 68 #[.string a0] w fun e w' => e = .returned (.bool r) ∧ Drawn0 w w' := by
 have H : ((spec_l01In.f (a0.size : Int) 1 12).bind fun t142 => (if t142 = true then (if 0 < (a0.size : Int) then (spec_WordOk.j0 k a0 (decide ((bt a0 0) < 97))) else (none)) else (spec_WordOk.j0 k a0 true))) = some r := h
 clear h
 have HC2 := Aside0.mk H
 clear H
 go_enter Try.func68, Try.ntmps68
 go_upto_region 1 with (fail)
 go_cut [12] (fun v12 wc => ∃ (kq : Nat) (x12_1 : Bool), v12 = .bool x12_1 ∧ Aside0 (spec_WordOk.j0 kq a0 x12_1 = some r) ∧ Aside0 (kq ≤ k) ∧ Drawn0 w wc)
 case first =>
  have H := HC2.out
  clear HC2
  replace H := Option.bind_eq_some_iff.mp H
  obtain ⟨t142, A30, H⟩ := H
  replace H : (if t142 = true then (if 0 < (a0.size : Int) then (spec_WordOk.j0 k a0 (decide ((bt a0 0) < 97))) else (none)) else (spec_WordOk.j0 k a0 true)) = some r := H
  have A3 := Aside0.mk A30
  clear A30
  by_cases c4 : t142 = true
  ·subst c4
   have H1 : (if 0 < (a0.size : Int) then (spec_WordOk.j0 k a0 (decide ((bt a0 0) < 97))) else (none)) = some r := by rw [if_pos rfl] at H; exact H
   clear H
   have H := H1
   clear H1
   by_cases c5 : 0 < (a0.size : Int)
   ·rw [if_pos c5] at H
    have c5b0 : decide (0 < (a0.size : Int)) = true := decide_eq_true c5
    have c5b1 : decide (0 < a0.size) = true := decide_eq_true (by omega)
    clear c5
    (first | rw [c5b0] | (simp only [i64_w, i32_w]; rw [c5b0]) | skip)
    have H' := Aside0.mk H
    clear H
    go_wp2_with (first | ((with_reducible refine gate_callee (f := 55) rfl ?_); refine goesL_ (some 6) rfl rfl Try.func55 (by kernel_rfl) rfl #[.int .i64 (a0.size : Int), .int .i64 1, .int .i64 12] rfl aL ?_; (with_reducible refine (spec_l01In.calls (a0.size : Int) 1 12 true _ A3.out).mono ?_); rintro e w' ⟨rfl, ⟨nd, rfl⟩⟩; refine ⟨_, rfl, ?_⟩; have p6 : 0 ≤ (0 : Int) := (by omega); have q6 : 0 < a0.size := (by have : (0 : Int) < (a0.size : Int) := of_decide_eq_true (by assumption); omega); have hx6 : ∀ h : 0 < a0.size, ((a0[0]'h).toNat : Int) = bt a0 0 := bt_at a0 0; clear p6; have qi6 : (0 < (a0.size : Int)) = True := eq_true (of_decide_eq_true (by assumption)); replace q6 := eq_true q6))
    go_meet
    case rel => exact ⟨_, (decide ((bt a0 0) < 97)), rF, H', ⟨by first | omega | exact Nat.le_refl _⟩, by repeat (first | exact Drawn0.refl _ | apply Drawn0.step)⟩
   ·rw [if_neg c5] at H
    exact absurd H (by simp)
  ·replace c4 := Bool.eq_false_iff.mpr c4
   subst c4
   have H1 : (spec_WordOk.j0 k a0 true) = some r := by rw [if_neg (show ¬ (false = true) by decide)] at H; exact H
   clear H
   have H := H1
   clear H1
   have H' := Aside0.mk H
   clear H
   go_wp2_with (first | ((with_reducible refine gate_callee (f := 55) rfl ?_); refine goesL_ (some 6) rfl rfl Try.func55 (by kernel_rfl) rfl #[.int .i64 (a0.size : Int), .int .i64 1, .int .i64 12] rfl aL ?_; (with_reducible refine (spec_l01In.calls (a0.size : Int) 1 12 false _ A3.out).mono ?_); rintro e w' ⟨rfl, ⟨nd, rfl⟩⟩; refine ⟨_, rfl, ?_⟩))
   go_meet
   case rel => exact ⟨_, (true), rF, H', ⟨by first | omega | exact Nat.le_refl _⟩, by repeat (first | exact Drawn0.refl _ | apply Drawn0.step)⟩
 case rest =>
  clear HC2
  try clear p2
  try clear c4
  try clear c5
  try clear c5b0
  try clear c5b1
  try clear c6
  try clear p6
  try clear q6
  try clear hx6
  try clear qi6
  try clear p6
  try clear q6
  obtain ⟨kq, x12_1, rfl, HA, HJ1, ⟨mc1, rfl⟩⟩ := hcut
  cases kq with
  | zero => exact absurd HA.out (by simp [spec_WordOk.j0])
  | succ kj1 =>
   have H := HA.out
   clear HA
   simp only [spec_WordOk.j0] at H
   by_cases c7 : x12_1 = true
   ·subst c7
    have H1 : (some false) = some r := by rw [if_pos rfl] at H; exact H
    clear H
    have H := H1
    clear H1
    obtain rfl := Option.some.inj H
    go_wp2
    go_ret
    exact ⟨rF, by repeat (first | exact Drawn0.refl _ | apply Drawn0.step)⟩
   ·replace c7 := Bool.eq_false_iff.mpr c7
    subst c7
    have H1 : (spec_WordOk.l0 kj1 a0 0) = some r := by rw [if_neg (show ¬ (false = true) by decide)] at H; exact H
    clear H
    have H := H1
    clear H1
    have H' := Aside0.mk H
    clear H
    go_wp2
    go_loopg [3] kj1 (fun kq v3 w' => ∃ (x3_2 : Int), v3 = .int .i64 x3_2 ∧ Aside0 (spec_WordOk.l0 kq a0 x3_2 = some r) ∧ Aside0 (kq ≤ kj1) ∧ Drawn0 w w')
    case atStart => exact ⟨(0), rF, H', ⟨Nat.le_refl _⟩, by repeat (first | exact Drawn0.refl _ | apply Drawn0.step)⟩
    case round =>
     clear H'
     try clear c1
     try clear p2
     try clear c4
     try clear c5
     try clear c5b0
     try clear c5b1
     try clear c6
     try clear p6
     try clear q6
     try clear hx6
     try clear qi6
     try clear c7
     try clear p2
     try clear p6
     try clear q6
     obtain ⟨x3_2, rfl, HA, HK2, ⟨m2, rfl⟩⟩ := hrel
     cases gk with
     | zero => exact absurd HA.out (by simp [spec_WordOk.l0])
     | succ k2 =>
      have H := HA.out
      clear HA
      simp only [spec_WordOk.l0] at H
      by_cases c8 : x3_2 < (a0.size : Int)
      ·rw [if_pos c8] at H
       have c8b0 : decide (x3_2 < (a0.size : Int)) = true := decide_eq_true c8
       clear c8
       by_cases c9 : 0 ≤ x3_2
       ·rw [if_pos c9] at H
        have c9b0 : decide (0 ≤ x3_2) = true := decide_eq_true c9
        clear c9
        by_cases c11 : (bt a0 x3_2) < 97
        ·rw [if_pos c11] at H
         have c11b0 : decide ((bt a0 x3_2) < 97) = true := decide_eq_true c11
         clear c11
         by_cases c13 : (bt a0 x3_2) < 48
         ·rw [if_pos c13] at H
          have c13b0 : decide ((bt a0 x3_2) < 48) = true := decide_eq_true c13
          clear c13
          obtain rfl := Option.some.inj H
          have p10 : 0 ≤ (x3_2 : Int) := of_decide_eq_true (by assumption)
          have q10 : x3_2 < (a0.size : Int) := of_decide_eq_true (by assumption)
          have hx10 := bt_at a0 x3_2
          replace p10 := eq_true p10
          replace q10 := eq_true q10
          have p12 : 0 ≤ (x3_2 : Int) := of_decide_eq_true (by assumption)
          have q12 : x3_2 < (a0.size : Int) := of_decide_eq_true (by assumption)
          have hx12 := bt_at a0 x3_2
          replace p12 := eq_true p12
          replace q12 := eq_true q12
          go_wp2
          go_ret
          exact ⟨rF, by repeat (first | exact Drawn0.refl _ | apply Drawn0.step)⟩
         ·rw [if_neg c13] at H
          have c13b0 : decide ((bt a0 x3_2) < 48) = false := decide_eq_false c13
          clear c13
          by_cases c15 : (bt a0 x3_2) > 57
          ·rw [if_pos c15] at H
           have c15b0 : decide (57 < (bt a0 x3_2)) = true := decide_eq_true c15
           clear c15
           obtain rfl := Option.some.inj H
           have p10 : 0 ≤ (x3_2 : Int) := of_decide_eq_true (by assumption)
           have q10 : x3_2 < (a0.size : Int) := of_decide_eq_true (by assumption)
           have hx10 := bt_at a0 x3_2
           replace p10 := eq_true p10
           replace q10 := eq_true q10
           have p12 : 0 ≤ (x3_2 : Int) := of_decide_eq_true (by assumption)
           have q12 : x3_2 < (a0.size : Int) := of_decide_eq_true (by assumption)
           have hx12 := bt_at a0 x3_2
           replace p12 := eq_true p12
           replace q12 := eq_true q12
           have p14 : 0 ≤ (x3_2 : Int) := of_decide_eq_true (by assumption)
           have q14 : x3_2 < (a0.size : Int) := of_decide_eq_true (by assumption)
           have hx14 := bt_at a0 x3_2
           replace p14 := eq_true p14
           replace q14 := eq_true q14
           go_wp2
           go_ret
           exact ⟨rF, by repeat (first | exact Drawn0.refl _ | apply Drawn0.step)⟩
          ·rw [if_neg c15] at H
           have c15b0 : decide (57 < (bt a0 x3_2)) = false := decide_eq_false c15
           clear c15
           have H' := Aside0.mk H
           clear H
           have p10 : 0 ≤ (x3_2 : Int) := of_decide_eq_true (by assumption)
           have q10 : x3_2 < (a0.size : Int) := of_decide_eq_true (by assumption)
           have hx10 := bt_at a0 x3_2
           replace p10 := eq_true p10
           replace q10 := eq_true q10
           have p12 : 0 ≤ (x3_2 : Int) := of_decide_eq_true (by assumption)
           have q12 : x3_2 < (a0.size : Int) := of_decide_eq_true (by assumption)
           have hx12 := bt_at a0 x3_2
           replace p12 := eq_true p12
           replace q12 := eq_true q12
           have p14 : 0 ≤ (x3_2 : Int) := of_decide_eq_true (by assumption)
           have q14 : x3_2 < (a0.size : Int) := of_decide_eq_true (by assumption)
           have hx14 := bt_at a0 x3_2
           replace p14 := eq_true p14
           replace q14 := eq_true q14
           go_wp2
           go_roundg k2
           case measure => have := HJ1.out; have := HK2.out; omega
           case rel => exact ⟨(wrap64 (x3_2 + 1)), rF, H', ⟨by have := HJ1.out; have := HK2.out; omega⟩, by repeat (first | exact Drawn0.refl _ | apply Drawn0.step)⟩
        ·rw [if_neg c11] at H
         have c11b0 : decide ((bt a0 x3_2) < 97) = false := decide_eq_false c11
         clear c11
         by_cases c17 : (bt a0 x3_2) > 122
         ·rw [if_pos c17] at H
          have c17b0 : decide (122 < (bt a0 x3_2)) = true := decide_eq_true c17
          clear c17
          by_cases c19 : (bt a0 x3_2) < 48
          ·rw [if_pos c19] at H
           have c19b0 : decide ((bt a0 x3_2) < 48) = true := decide_eq_true c19
           clear c19
           obtain rfl := Option.some.inj H
           have p10 : 0 ≤ (x3_2 : Int) := of_decide_eq_true (by assumption)
           have q10 : x3_2 < (a0.size : Int) := of_decide_eq_true (by assumption)
           have hx10 := bt_at a0 x3_2
           replace p10 := eq_true p10
           replace q10 := eq_true q10
           have p16 : 0 ≤ (x3_2 : Int) := of_decide_eq_true (by assumption)
           have q16 : x3_2 < (a0.size : Int) := of_decide_eq_true (by assumption)
           have hx16 := bt_at a0 x3_2
           replace p16 := eq_true p16
           replace q16 := eq_true q16
           have p18 : 0 ≤ (x3_2 : Int) := of_decide_eq_true (by assumption)
           have q18 : x3_2 < (a0.size : Int) := of_decide_eq_true (by assumption)
           have hx18 := bt_at a0 x3_2
           replace p18 := eq_true p18
           replace q18 := eq_true q18
           go_wp2
           go_ret
           exact ⟨rF, by repeat (first | exact Drawn0.refl _ | apply Drawn0.step)⟩
          ·rw [if_neg c19] at H
           have c19b0 : decide ((bt a0 x3_2) < 48) = false := decide_eq_false c19
           clear c19
           by_cases c21 : (bt a0 x3_2) > 57
           ·rw [if_pos c21] at H
            have c21b0 : decide (57 < (bt a0 x3_2)) = true := decide_eq_true c21
            clear c21
            obtain rfl := Option.some.inj H
            have p10 : 0 ≤ (x3_2 : Int) := of_decide_eq_true (by assumption)
            have q10 : x3_2 < (a0.size : Int) := of_decide_eq_true (by assumption)
            have hx10 := bt_at a0 x3_2
            replace p10 := eq_true p10
            replace q10 := eq_true q10
            have p16 : 0 ≤ (x3_2 : Int) := of_decide_eq_true (by assumption)
            have q16 : x3_2 < (a0.size : Int) := of_decide_eq_true (by assumption)
            have hx16 := bt_at a0 x3_2
            replace p16 := eq_true p16
            replace q16 := eq_true q16
            have p18 : 0 ≤ (x3_2 : Int) := of_decide_eq_true (by assumption)
            have q18 : x3_2 < (a0.size : Int) := of_decide_eq_true (by assumption)
            have hx18 := bt_at a0 x3_2
            replace p18 := eq_true p18
            replace q18 := eq_true q18
            have p20 : 0 ≤ (x3_2 : Int) := of_decide_eq_true (by assumption)
            have q20 : x3_2 < (a0.size : Int) := of_decide_eq_true (by assumption)
            have hx20 := bt_at a0 x3_2
            replace p20 := eq_true p20
            replace q20 := eq_true q20
            go_wp2
            go_ret
            exact ⟨rF, by repeat (first | exact Drawn0.refl _ | apply Drawn0.step)⟩
           ·rw [if_neg c21] at H
            have c21b0 : decide (57 < (bt a0 x3_2)) = false := decide_eq_false c21
            clear c21
            have H' := Aside0.mk H
            clear H
            have p10 : 0 ≤ (x3_2 : Int) := of_decide_eq_true (by assumption)
            have q10 : x3_2 < (a0.size : Int) := of_decide_eq_true (by assumption)
            have hx10 := bt_at a0 x3_2
            replace p10 := eq_true p10
            replace q10 := eq_true q10
            have p16 : 0 ≤ (x3_2 : Int) := of_decide_eq_true (by assumption)
            have q16 : x3_2 < (a0.size : Int) := of_decide_eq_true (by assumption)
            have hx16 := bt_at a0 x3_2
            replace p16 := eq_true p16
            replace q16 := eq_true q16
            have p18 : 0 ≤ (x3_2 : Int) := of_decide_eq_true (by assumption)
            have q18 : x3_2 < (a0.size : Int) := of_decide_eq_true (by assumption)
            have hx18 := bt_at a0 x3_2
            replace p18 := eq_true p18
            replace q18 := eq_true q18
            have p20 : 0 ≤ (x3_2 : Int) := of_decide_eq_true (by assumption)
            have q20 : x3_2 < (a0.size : Int) := of_decide_eq_true (by assumption)
            have hx20 := bt_at a0 x3_2
            replace p20 := eq_true p20
            replace q20 := eq_true q20
            go_wp2
            go_roundg k2
            case measure => have := HJ1.out; have := HK2.out; omega
            case rel => exact ⟨(wrap64 (x3_2 + 1)), rF, H', ⟨by have := HJ1.out; have := HK2.out; omega⟩, by repeat (first | exact Drawn0.refl _ | apply Drawn0.step)⟩
         ·rw [if_neg c17] at H
          have c17b0 : decide (122 < (bt a0 x3_2)) = false := decide_eq_false c17
          clear c17
          have H' := Aside0.mk H
          clear H
          have p10 : 0 ≤ (x3_2 : Int) := of_decide_eq_true (by assumption)
          have q10 : x3_2 < (a0.size : Int) := of_decide_eq_true (by assumption)
          have hx10 := bt_at a0 x3_2
          replace p10 := eq_true p10
          replace q10 := eq_true q10
          have p16 : 0 ≤ (x3_2 : Int) := of_decide_eq_true (by assumption)
          have q16 : x3_2 < (a0.size : Int) := of_decide_eq_true (by assumption)
          have hx16 := bt_at a0 x3_2
          replace p16 := eq_true p16
          replace q16 := eq_true q16
          go_wp2
          go_roundg k2
          case measure => have := HJ1.out; have := HK2.out; omega
          case rel => exact ⟨(wrap64 (x3_2 + 1)), rF, H', ⟨by have := HJ1.out; have := HK2.out; omega⟩, by repeat (first | exact Drawn0.refl _ | apply Drawn0.step)⟩
       ·rw [if_neg c9] at H
        exact absurd H (by simp)
      ·rw [if_neg c8] at H
       have c8b0 : decide (x3_2 < (a0.size : Int)) = false := decide_eq_false c8
       clear c8
       obtain rfl := Option.some.inj H
       go_wp2
       go_ret
       exact ⟨rF, by repeat (first | exact Drawn0.refl _ | apply Drawn0.step)⟩

/-! ### spec_ArityOf: function 108 -/
def spec_ArityOf.j0 : Nat → Int → Bool → Option (Int)
 | 0, _, _ => none
 | k + 1, x3, x6 => if x6 = true then (some 2) else (if x3 = 1 then (some 1) else (if x3 = 2 then (some 1) else (if x3 = 5 then (some 1) else (if x3 = 6 then (some 1) else (if x3 = 7 then (some 1) else (some (-1)))))))
def spec_ArityOf.f (k : Nat) (a0 : Int) : Option (Int) := if a0 = 0 then (some 0) else (if a0 = 3 then (spec_ArityOf.j0 k a0 (a0 == 3)) else (spec_ArityOf.j0 k a0 (a0 == 4)))
theorem spec_ArityOf.mono_l : ∀ k, (∀ y0 y1, LeO (spec_ArityOf.j0 k y0 y1) (spec_ArityOf.j0 (k + 1) y0 y1))
 | 0 => fun _ _ r h => by simp [spec_ArityOf.j0] at h
 | k + 1 => by
  have ih0 := spec_ArityOf.mono_l k
  ·intro y0 y1
   unfold spec_ArityOf.j0
   repeat' first
   | (with_reducible exact ih0 _ _)
   | (with_reducible exact LeO.refl _)
   | (with_reducible exact LeO.none _)
   | (with_reducible refine LeO.ite ?_ ?_)
   | (with_reducible refine LeO.bind ?_ (fun _ => ?_))
   | exact ih0 _ _
   | exact LeO.none _
   | refine LeO.ite ?_ ?_
   | refine LeO.bind ?_ (fun _ => ?_)
theorem spec_ArityOf.mono : ∀ a0 k, LeO (spec_ArityOf.f k a0) (spec_ArityOf.f (k + 1) a0) := by
 intro a0 k
 have ih0 := spec_ArityOf.mono_l k
 unfold spec_ArityOf.f
 repeat' first
   | (with_reducible exact ih0 _ _)
   | (with_reducible exact LeO.refl _)
   | (with_reducible exact LeO.none _)
   | (with_reducible refine LeO.ite ?_ ?_)
   | (with_reducible refine LeO.bind ?_ (fun _ => ?_))
   | exact ih0 _ _
   | exact LeO.none _
   | refine LeO.ite ?_ ?_
   | refine LeO.bind ?_ (fun _ => ?_)
set_option maxHeartbeats 8000000 in
set_option maxRecDepth 100000 in
theorem spec_ArityOf.calls (k : Nat) (a0 : Int) (r : Int) (w : World) (h : spec_ArityOf.f k a0 = some r) :
  Calls Try.prog 108 #[.int .i64 a0] w fun e w' => e = .returned (.int .i64 r) ∧ Drawn0 w w' := by
 have H : (if a0 = 0 then (some 0) else (if a0 = 3 then (spec_ArityOf.j0 k a0 (a0 == 3)) else (spec_ArityOf.j0 k a0 (a0 == 4)))) = some r := h
 clear h
 by_cases c2 : a0 = 0
 ·rw [if_pos c2] at H
  have c2b0 : (a0 == 0) = true := beq_iff_eq.mpr c2
  have c2b1 : (a0 != 0) = false := bne_eq_false_iff_eq.mpr c2
  clear c2
  obtain rfl := Option.some.inj H
  go_enter Try.func108, Try.ntmps108
  go_wp2
  go_ret
  exact ⟨rF, by repeat (first | exact Drawn0.refl _ | apply Drawn0.step)⟩
 ·rw [if_neg c2] at H
  have c2b0 : (a0 == 0) = false := beq_eq_false_iff_ne.mpr c2
  have c2b1 : (a0 != 0) = true := bne_iff_ne.mpr c2
  have HC3 := Aside0.mk H
  clear H
  go_enter Try.func108, Try.ntmps108
  go_upto_if 6 with (fail)
  go_cut [6] (fun v6 wc => ∃ (kq : Nat) (x6_2 : Bool), v6 = .bool x6_2 ∧ Aside0 (spec_ArityOf.j0 kq a0 x6_2 = some r) ∧ Aside0 (kq ≤ k) ∧ Drawn0 w wc)
  case first =>
   have H := HC3.out
   clear HC3
   by_cases c4 : a0 = 3
   ·rw [if_pos c4] at H
    have c4b0 : (a0 == 3) = true := beq_iff_eq.mpr c4
    have c4b1 : (a0 != 3) = false := bne_eq_false_iff_eq.mpr c4
    clear c4
    (first | rw [c4b0] | (simp only [i64_w, i32_w]; rw [c4b0]) | skip)
    have H' := Aside0.mk H
    clear H
    go_wp2
    go_meet
    case rel => exact ⟨_, ((a0 == 3)), rF, H', ⟨by first | omega | exact Nat.le_refl _⟩, by repeat (first | exact Drawn0.refl _ | apply Drawn0.step)⟩
   ·rw [if_neg c4] at H
    have c4b0 : (a0 == 3) = false := beq_eq_false_iff_ne.mpr c4
    have c4b1 : (a0 != 3) = true := bne_iff_ne.mpr c4
    (first | rw [c4b0] | (simp only [i64_w, i32_w]; rw [c4b0]) | skip)
    have H' := Aside0.mk H
    clear H
    go_wp2
    go_meet
    case rel => exact ⟨_, ((a0 == 4)), rF, H', ⟨by first | omega | exact Nat.le_refl _⟩, by repeat (first | exact Drawn0.refl _ | apply Drawn0.step)⟩
  case rest =>
   clear HC3
   try clear c1
   try clear c2
   try clear c2b0
   try clear c2b1
   try clear p2
   try clear c4
   try clear c4b0
   try clear c4b1
   obtain ⟨kq, x6_2, rfl, HA, HJ2, ⟨mc2, rfl⟩⟩ := hcut
   cases kq with
   | zero => exact absurd HA.out (by simp [spec_ArityOf.j0])
   | succ kj2 =>
    have H := HA.out
    clear HA
    simp only [spec_ArityOf.j0] at H
    by_cases c5 : x6_2 = true
    ·subst c5
     have H1 : (some 2) = some r := by rw [if_pos rfl] at H; exact H
     clear H
     have H := H1
     clear H1
     obtain rfl := Option.some.inj H
     go_wp2
     go_ret
     exact ⟨rF, by repeat (first | exact Drawn0.refl _ | apply Drawn0.step)⟩
    ·replace c5 := Bool.eq_false_iff.mpr c5
     subst c5
     have H1 : (if a0 = 1 then (some 1) else (if a0 = 2 then (some 1) else (if a0 = 5 then (some 1) else (if a0 = 6 then (some 1) else (if a0 = 7 then (some 1) else (some (-1))))))) = some r := by rw [if_neg (show ¬ (false = true) by decide)] at H; exact H
     clear H
     have H := H1
     clear H1
     by_cases c6 : a0 = 1
     ·rw [if_pos c6] at H
      have c6b0 : (a0 == 1) = true := beq_iff_eq.mpr c6
      have c6b1 : (a0 != 1) = false := bne_eq_false_iff_eq.mpr c6
      clear c6
      obtain rfl := Option.some.inj H
      go_wp2
      go_ret
      exact ⟨rF, by repeat (first | exact Drawn0.refl _ | apply Drawn0.step)⟩
     ·rw [if_neg c6] at H
      have c6b0 : (a0 == 1) = false := beq_eq_false_iff_ne.mpr c6
      have c6b1 : (a0 != 1) = true := bne_iff_ne.mpr c6
      by_cases c7 : a0 = 2
      ·rw [if_pos c7] at H
       have c7b0 : (a0 == 2) = true := beq_iff_eq.mpr c7
       have c7b1 : (a0 != 2) = false := bne_eq_false_iff_eq.mpr c7
       clear c7
       obtain rfl := Option.some.inj H
       go_wp2
       go_ret
       exact ⟨rF, by repeat (first | exact Drawn0.refl _ | apply Drawn0.step)⟩
      ·rw [if_neg c7] at H
       have c7b0 : (a0 == 2) = false := beq_eq_false_iff_ne.mpr c7
       have c7b1 : (a0 != 2) = true := bne_iff_ne.mpr c7
       by_cases c8 : a0 = 5
       ·rw [if_pos c8] at H
        have c8b0 : (a0 == 5) = true := beq_iff_eq.mpr c8
        have c8b1 : (a0 != 5) = false := bne_eq_false_iff_eq.mpr c8
        clear c8
        obtain rfl := Option.some.inj H
        go_wp2
        go_ret
        exact ⟨rF, by repeat (first | exact Drawn0.refl _ | apply Drawn0.step)⟩
       ·rw [if_neg c8] at H
        have c8b0 : (a0 == 5) = false := beq_eq_false_iff_ne.mpr c8
        have c8b1 : (a0 != 5) = true := bne_iff_ne.mpr c8
        by_cases c9 : a0 = 6
        ·rw [if_pos c9] at H
         have c9b0 : (a0 == 6) = true := beq_iff_eq.mpr c9
         have c9b1 : (a0 != 6) = false := bne_eq_false_iff_eq.mpr c9
         clear c9
         obtain rfl := Option.some.inj H
         go_wp2
         go_ret
         exact ⟨rF, by repeat (first | exact Drawn0.refl _ | apply Drawn0.step)⟩
        ·rw [if_neg c9] at H
         have c9b0 : (a0 == 6) = false := beq_eq_false_iff_ne.mpr c9
         have c9b1 : (a0 != 6) = true := bne_iff_ne.mpr c9
         by_cases c10 : a0 = 7
         ·rw [if_pos c10] at H
          have c10b0 : (a0 == 7) = true := beq_iff_eq.mpr c10
          have c10b1 : (a0 != 7) = false := bne_eq_false_iff_eq.mpr c10
          clear c10
          obtain rfl := Option.some.inj H
          go_wp2
          go_ret
          exact ⟨rF, by repeat (first | exact Drawn0.refl _ | apply Drawn0.step)⟩
         ·rw [if_neg c10] at H
          have c10b0 : (a0 == 7) = false := beq_eq_false_iff_ne.mpr c10
          have c10b1 : (a0 != 7) = true := bne_iff_ne.mpr c10
          obtain rfl := Option.some.inj H
          go_wp2
          go_ret
          exact ⟨rF, by repeat (first | exact Drawn0.refl _ | apply Drawn0.step)⟩

/-! ### impl_in: function 59 -/
def impl_in.f (a0 : Int) (a1 : Int) (a2 : Int) : Option (Bool) := if a0 ≥ a1 then (some (decide (a0 ≤ a2))) else (some false)
set_option maxHeartbeats 8000000 in
set_option maxRecDepth 100000 in
theorem impl_in.calls (a0 : Int) (a1 : Int) (a2 : Int) (r : Bool) (w : World) (h : impl_in.f a0 a1 a2 = some r) :
  Calls Try.prog 59 #[.int .i64 a0, .int .i64 a1, .int .i64 a2] w fun e w' => e = .returned (.bool r) ∧ Drawn0 w w' := by
 have H : (if a0 ≥ a1 then (some (decide (a0 ≤ a2))) else (some false)) = some r := h
 clear h
 by_cases c4 : a0 ≥ a1
 ·rw [if_pos c4] at H
  have c4b0 : decide (a1 ≤ a0) = true := decide_eq_true c4
  clear c4
  obtain rfl := Option.some.inj H
  go_enter Try.func59, Try.ntmps59
  go_wp2
  go_ret
  exact ⟨rF, by repeat (first | exact Drawn0.refl _ | apply Drawn0.step)⟩
 ·rw [if_neg c4] at H
  have c4b0 : decide (a1 ≤ a0) = false := decide_eq_false c4
  clear c4
  obtain rfl := Option.some.inj H
  go_enter Try.func59, Try.ntmps59
  go_wp2
  go_ret
  exact ⟨rF, by repeat (first | exact Drawn0.refl _ | apply Drawn0.step)⟩

/-! ### impl_isNum: function 101 -/
def impl_isNum.f (a0 : Int) : Option (Bool) := (impl_in.f a0 (-1000000) 1000000).bind fun t212 => (some t212)
set_option maxHeartbeats 8000000 in
set_option maxRecDepth 100000 in
theorem impl_isNum.calls (a0 : Int) (r : Bool) (w : World) (h : impl_isNum.f a0 = some r) :
  Calls Try.prog 101 #[.int .i64 a0] w fun e w' => e = .returned (.bool r) ∧ Drawn0 w w' := by
 have H : ((impl_in.f a0 (-1000000) 1000000).bind fun t212 => (some t212)) = some r := h
 clear h
 replace H := Option.bind_eq_some_iff.mp H
 obtain ⟨t212, A20, H⟩ := H
 replace H : (some t212) = some r := H
 have A2 := Aside0.mk A20
 clear A20
 obtain rfl := Option.some.inj H
 go_enter Try.func101, Try.ntmps101
 go_wp2_with (first | ((with_reducible refine gate_callee (f := 59) rfl ?_); refine goesL_ (some 4) rfl rfl Try.func59 (by kernel_rfl) rfl #[.int .i64 a0, .int .i64 (-1000000), .int .i64 1000000] rfl aL ?_; (with_reducible refine (impl_in.calls a0 (-1000000) 1000000 t212 _ A2.out).mono ?_); rintro e w' ⟨rfl, ⟨nd, rfl⟩⟩; refine ⟨_, rfl, ?_⟩))
 go_ret
 exact ⟨rF, by repeat (first | exact Drawn0.refl _ | apply Drawn0.step)⟩

/-! ### impl_isCol: function 110 -/
def impl_isCol.f (a0 : Int) : Option (Bool) := (impl_in.f a0 0 63).bind fun t213 => (some t213)
set_option maxHeartbeats 8000000 in
set_option maxRecDepth 100000 in
theorem impl_isCol.calls (a0 : Int) (r : Bool) (w : World) (h : impl_isCol.f a0 = some r) :
  Calls Try.prog 110 #[.int .i64 a0] w fun e w' => e = .returned (.bool r) ∧ Drawn0 w w' := by
 have H : ((impl_in.f a0 0 63).bind fun t213 => (some t213)) = some r := h
 clear h
 replace H := Option.bind_eq_some_iff.mp H
 obtain ⟨t213, A20, H⟩ := H
 replace H : (some t213) = some r := H
 have A2 := Aside0.mk A20
 clear A20
 obtain rfl := Option.some.inj H
 go_enter Try.func110, Try.ntmps110
 go_wp2_with (first | ((with_reducible refine gate_callee (f := 59) rfl ?_); refine goesL_ (some 4) rfl rfl Try.func59 (by kernel_rfl) rfl #[.int .i64 a0, .int .i64 0, .int .i64 63] rfl aL ?_; (with_reducible refine (impl_in.calls a0 0 63 t213 _ A2.out).mono ?_); rintro e w' ⟨rfl, ⟨nd, rfl⟩⟩; refine ⟨_, rfl, ?_⟩))
 go_ret
 exact ⟨rF, by repeat (first | exact Drawn0.refl _ | apply Drawn0.step)⟩

/-! ### impl_isSlot: function 111 -/
def impl_isSlot.f (a0 : Int) : Option (Bool) := (impl_in.f a0 0 39).bind fun t214 => (some t214)
set_option maxHeartbeats 8000000 in
set_option maxRecDepth 100000 in
theorem impl_isSlot.calls (a0 : Int) (r : Bool) (w : World) (h : impl_isSlot.f a0 = some r) :
  Calls Try.prog 111 #[.int .i64 a0] w fun e w' => e = .returned (.bool r) ∧ Drawn0 w w' := by
 have H : ((impl_in.f a0 0 39).bind fun t214 => (some t214)) = some r := h
 clear h
 replace H := Option.bind_eq_some_iff.mp H
 obtain ⟨t214, A20, H⟩ := H
 replace H : (some t214) = some r := H
 have A2 := Aside0.mk A20
 clear A20
 obtain rfl := Option.some.inj H
 go_enter Try.func111, Try.ntmps111
 go_wp2_with (first | ((with_reducible refine gate_callee (f := 59) rfl ?_); refine goesL_ (some 4) rfl rfl Try.func59 (by kernel_rfl) rfl #[.int .i64 a0, .int .i64 0, .int .i64 39] rfl aL ?_; (with_reducible refine (impl_in.calls a0 0 39 t214 _ A2.out).mono ?_); rintro e w' ⟨rfl, ⟨nd, rfl⟩⟩; refine ⟨_, rfl, ?_⟩))
 go_ret
 exact ⟨rF, by repeat (first | exact Drawn0.refl _ | apply Drawn0.step)⟩

/-! ### impl_NodeOk_1: function 113 -/
def impl_NodeOk_1.f (a0 : Int) : Option (Bool) := (impl_isCol.f a0).bind fun t215 => (some (!t215))
set_option maxHeartbeats 8000000 in
set_option maxRecDepth 100000 in
theorem impl_NodeOk_1.calls (a0 : Int) (r : Bool) (w : World) (h : impl_NodeOk_1.f a0 = some r) :
  Calls Try.prog 113 #[.int .i64 a0] w fun e w' => e = .returned (.bool r) ∧ Drawn0 w w' := by
 have H : ((impl_isCol.f a0).bind fun t215 => (some (!t215))) = some r := h
 clear h
 replace H := Option.bind_eq_some_iff.mp H
 obtain ⟨t215, A20, H⟩ := H
 replace H : (some (!t215)) = some r := H
 have A2 := Aside0.mk A20
 clear A20
 obtain rfl := Option.some.inj H
 go_enter Try.func113, Try.ntmps113
 go_wp2_with (first | ((with_reducible refine gate_callee (f := 110) rfl ?_); refine goesL_ (some 4) rfl rfl Try.func110 (by kernel_rfl) rfl #[.int .i64 a0] rfl aL ?_; (with_reducible refine (impl_isCol.calls a0 t215 _ A2.out).mono ?_); rintro e w' ⟨rfl, ⟨nd, rfl⟩⟩; refine ⟨_, rfl, ?_⟩))
 go_ret
 exact ⟨rF, by repeat (first | exact Drawn0.refl _ | apply Drawn0.step)⟩

/-! ### slices_Compact_string_string: function 66 -/
-- FORM 1 0
def slices_Compact_string_string.f (l0 : List ByteArray) : Option (List ByteArray) := some (compactB (sortB l0))

end Go.Proofs.Ytgmhohafoclmpaa.Q
