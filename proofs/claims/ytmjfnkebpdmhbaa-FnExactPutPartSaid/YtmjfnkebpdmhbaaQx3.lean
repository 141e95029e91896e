/- The machine side of a law, written by a program of this session over the translation: for each Go function a Lean function with the same answers, and the proof that the Go code comes to them. -/
import Derived.Test.YtmjfnkebpdmhbaaQx0
import Derived.Test.YtmjfnkebpdmhbaaQx2
namespace Go.Proofs.Ytmjfnkebpdmhbaa.Q
open Go.RowKit Go.Proofs.Ytmjfnkebpdmhbaa.Own Go.Proofs.YtmjfnkebpdmhbaaW.PrintWords Go.Proofs.YtmjfnkebpdmhbaaW.PrintLast Go.Proofs.YtmjfnkebpdmhbaaW.PrintMore
attribute [local go_sem] max2_int min2_int max_two min_two max_three min_three max_four min_four   -- for this text's walks alone
set_option linter.unusedVariables false
set_option linter.unusedSimpArgs false

/-! ### laws_heldNodeS: function 41 -/
def laws_heldNodeS.l0 : Nat → List (S33) → Int → Int → Option (Int)
 | 0, _, _, _ => none
 | k + 1, x0, x1, x5 => if x5 < (x0.length : Int) then (if 0 ≤ x5 then (if ((rd_T33 x0 x5).f0) = x1 then ((laws_markText.f k (wrap64 (x1 + 1))).bind fun t145 => (if ((rd_T33 x0 x5).f1).toList = t145.toList then (if ((rd_T33 x0 x5).f2) = (wrap64 ((wrap64 (x1 + 1)) + 1)) then (if ((rd_T33 x0 x5).f3) = (wrap64 ((wrap64 ((wrap64 (x1 + 1)) + 1)) + 1)) then (if ((rd_T33 x0 x5).f4) = (wrap64 ((wrap64 ((wrap64 ((wrap64 (x1 + 1)) + 1)) + 1)) + 1)) then (if (((rd_T33 x0 x5).f5) != ((Int.tmod (wrap64 ((wrap64 ((wrap64 ((wrap64 ((wrap64 (x1 + 1)) + 1)) + 1)) + 1)) + 1)) 3) == 0)) = true then (some (-1)) else ((laws_heldIntS.f k ((rd_T33 x0 x5).f6) (wrap64 ((wrap64 ((wrap64 ((wrap64 ((wrap64 ((wrap64 (x1 + 1)) + 1)) + 1)) + 1)) + 1)) + 1))).bind fun t151 => (if t151 < 0 then (some (-1)) else (laws_heldNodeS.l0 k x0 t151 (wrap64 (x5 + 1)))))) else (some (-1))) else (some (-1))) else (some (-1))) else (some (-1)))) else (some (-1))) else (none)) else (some x1)
def laws_heldNodeS.f (k : Nat) (l0 : List (S33)) (a1 : Int) : Option (Int) := laws_heldNodeS.l0 k l0 a1 0
theorem laws_heldNodeS.mono_l : ∀ k, (∀ y0 y1 y2, LeO (laws_heldNodeS.l0 k y0 y1 y2) (laws_heldNodeS.l0 (k + 1) y0 y1 y2))
 | 0 => fun _ _ _ r h => by simp [laws_heldNodeS.l0] at h
 | k + 1 => by
  have ih0 := laws_heldNodeS.mono_l k
  ·intro y0 y1 y2
   unfold laws_heldNodeS.l0
   repeat' first
   | (with_reducible exact ih0 _ _ _)
   | (with_reducible exact laws_heldIntS.mono _ _ _)
   | (with_reducible exact laws_markText.mono _ _)
   | (with_reducible exact LeO.refl _)
   | (with_reducible exact LeO.none _)
   | (with_reducible refine LeO.ite ?_ ?_)
   | (with_reducible refine LeO.bind ?_ (fun _ => ?_))
   | exact ih0 _ _ _
   | exact laws_heldIntS.mono _ _ _
   | exact laws_markText.mono _ _
   | exact LeO.none _
   | refine LeO.ite ?_ ?_
   | refine LeO.bind ?_ (fun _ => ?_)
theorem laws_heldNodeS.mono : ∀ a0 a1 k, LeO (laws_heldNodeS.f k a0 a1) (laws_heldNodeS.f (k + 1) a0 a1) := by
 intro a0 a1 k
 have ih0 := laws_heldNodeS.mono_l k
 unfold laws_heldNodeS.f
 repeat' first
   | (with_reducible exact ih0 _ _ _)
   | (with_reducible exact laws_heldIntS.mono _ _ _)
   | (with_reducible exact laws_markText.mono _ _)
   | (with_reducible exact LeO.refl _)
   | (with_reducible exact LeO.none _)
   | (with_reducible refine LeO.ite ?_ ?_)
   | (with_reducible refine LeO.bind ?_ (fun _ => ?_))
   | exact ih0 _ _ _
   | exact laws_heldIntS.mono _ _ _
   | exact laws_markText.mono _ _
   | exact LeO.none _
   | refine LeO.ite ?_ ?_
   | refine LeO.bind ?_ (fun _ => ?_)
def laws_heldNodeS.T7 : Bool × List (List Nat × List Nat) := (true, [([], []), ([], []), ([0, 1], [0, 1]), ([2], [2]), ([3], [3]), ([], []), ([5], [5]), ([4, 6], [4, 6])])
def laws_heldNodeS.B7 : List Nat := [0, 0, 3, 7, 15, 0, 32, 127]
theorem laws_heldNodeS.tab7 : rtab .any (opsOf Try.f41 7) = laws_heldNodeS.T7 := by kernel_rfl
theorem laws_heldNodeS.bits7 : waitsOk laws_heldNodeS.T7.2 laws_heldNodeS.B7 = true := by kernel_rfl
set_option maxHeartbeats 8000000 in
set_option maxRecDepth 100000 in
theorem laws_heldNodeS.calls (k : Nat) (A0 : Option Addr) (c0 : Nat) (l0 : List (S33)) (a1 : Int) (r : Int) (w : World) (hr0 : Kd.C k33 w A0 l0.length l0) (hc0 : l0.length ≤ c0) (h : laws_heldNodeS.f k l0 a1 = some r) :
  Calls Try.prog 41 #[.slice A0 l0.length c0, .int .i64 a1] w fun e w' => e = .returned (.int .i64 r) ∧ Below w.heap.size w w' := by
 have HR0 := Aside0.mk hr0
 have HC0 := Aside0.mk hc0
 clear hr0 hc0
 have HB := Aside0.mk (Below.refl w.heap.size w)
 have H : (laws_heldNodeS.l0 k l0 a1 0) = some r := h
 clear h
 have H' := Aside0.mk H
 clear H
 go_enter Try.func41, Try.ntmps41
 go_wp2
 go_loopg [1, 5] k (fun kq v1 v5 w' => ∃ (x1_1 : Int) (x5_1 : Int), v1 = .int .i64 x1_1 ∧ v5 = .int .i64 x5_1 ∧ Aside0 (laws_heldNodeS.l0 kq l0 x1_1 x5_1 = some r) ∧ Aside0 (kq ≤ k) ∧ Aside0 (Below w.heap.size w w'))
 case atStart => exact ⟨(a1), (0), rF, rF, H', ⟨Nat.le_refl _⟩, ⟨bA⟩⟩
 case round =>
  clear H'
  try clear p2
  obtain ⟨x1_1, x5_1, rfl, rfl, HA, HK1, HB⟩ := hrel
  cases gk with
  | zero => exact absurd HA.out (by simp [laws_heldNodeS.l0])
  | succ k1 =>
   have H := HA.out
   clear HA
   simp only [laws_heldNodeS.l0] at H
   by_cases c3 : x5_1 < (l0.length : Int)
   ·rw [if_pos c3] at H
    have c3b0 : decide (x5_1 < (l0.length : Int)) = true := decide_eq_true c3
    clear c3
    by_cases c4 : 0 ≤ x5_1
    ·rw [if_pos c4] at H
     have c4b0 : decide (0 ≤ x5_1) = true := decide_eq_true c4
     clear c4
     by_cases c5 : ((rd_T33 l0 x5_1).f0) = x1_1
     ·rw [if_pos c5] at H
      have c5b0 : (((rd_T33 l0 x5_1).f0) == x1_1) = true := beq_iff_eq.mpr c5
      have c5b1 : (((rd_T33 l0 x5_1).f0) != x1_1) = false := bne_eq_false_iff_eq.mpr c5
      clear c5
      replace H := Option.bind_eq_some_iff.mp H
      obtain ⟨t145, A60, H⟩ := H
      replace H : (if ((rd_T33 l0 x5_1).f1).toList = t145.toList then (if ((rd_T33 l0 x5_1).f2) = (wrap64 ((wrap64 (x1_1 + 1)) + 1)) then (if ((rd_T33 l0 x5_1).f3) = (wrap64 ((wrap64 ((wrap64 (x1_1 + 1)) + 1)) + 1)) then (if ((rd_T33 l0 x5_1).f4) = (wrap64 ((wrap64 ((wrap64 ((wrap64 (x1_1 + 1)) + 1)) + 1)) + 1)) then (if (((rd_T33 l0 x5_1).f5) != ((Int.tmod (wrap64 ((wrap64 ((wrap64 ((wrap64 ((wrap64 (x1_1 + 1)) + 1)) + 1)) + 1)) + 1)) 3) == 0)) = true then (some (-1)) else ((laws_heldIntS.f k1 ((rd_T33 l0 x5_1).f6) (wrap64 ((wrap64 ((wrap64 ((wrap64 ((wrap64 ((wrap64 (x1_1 + 1)) + 1)) + 1)) + 1)) + 1)) + 1))).bind fun t151 => (if t151 < 0 then (some (-1)) else (laws_heldNodeS.l0 k1 l0 t151 (wrap64 (x5_1 + 1)))))) else (some (-1))) else (some (-1))) else (some (-1))) else (some (-1))) = some r := H
      have A6 := Aside0.mk A60
      clear A60
      by_cases c7 : ((rd_T33 l0 x5_1).f1).toList = t145.toList
      ·rw [if_pos c7] at H
       have c7b0 : (((rd_T33 l0 x5_1).f1).toList == t145.toList) = true := beq_iff_eq.mpr c7
       have c7b1 : (((rd_T33 l0 x5_1).f1).toList != t145.toList) = false := bne_eq_false_iff_eq.mpr c7
       clear c7
       by_cases c8 : ((rd_T33 l0 x5_1).f2) = (wrap64 ((wrap64 (x1_1 + 1)) + 1))
       ·rw [if_pos c8] at H
        have c8b0 : (((rd_T33 l0 x5_1).f2) == (wrap64 ((wrap64 (x1_1 + 1)) + 1))) = true := beq_iff_eq.mpr c8
        have c8b1 : (((rd_T33 l0 x5_1).f2) != (wrap64 ((wrap64 (x1_1 + 1)) + 1))) = false := bne_eq_false_iff_eq.mpr c8
        clear c8
        by_cases c9 : ((rd_T33 l0 x5_1).f3) = (wrap64 ((wrap64 ((wrap64 (x1_1 + 1)) + 1)) + 1))
        ·rw [if_pos c9] at H
         have c9b0 : (((rd_T33 l0 x5_1).f3) == (wrap64 ((wrap64 ((wrap64 (x1_1 + 1)) + 1)) + 1))) = true := beq_iff_eq.mpr c9
         have c9b1 : (((rd_T33 l0 x5_1).f3) != (wrap64 ((wrap64 ((wrap64 (x1_1 + 1)) + 1)) + 1))) = false := bne_eq_false_iff_eq.mpr c9
         clear c9
         by_cases c10 : ((rd_T33 l0 x5_1).f4) = (wrap64 ((wrap64 ((wrap64 ((wrap64 (x1_1 + 1)) + 1)) + 1)) + 1))
         ·rw [if_pos c10] at H
          have c10b0 : (((rd_T33 l0 x5_1).f4) == (wrap64 ((wrap64 ((wrap64 ((wrap64 (x1_1 + 1)) + 1)) + 1)) + 1))) = true := beq_iff_eq.mpr c10
          have c10b1 : (((rd_T33 l0 x5_1).f4) != (wrap64 ((wrap64 ((wrap64 ((wrap64 (x1_1 + 1)) + 1)) + 1)) + 1))) = false := bne_eq_false_iff_eq.mpr c10
          clear c10
          by_cases c11 : (((rd_T33 l0 x5_1).f5) != ((Int.tmod (wrap64 ((wrap64 ((wrap64 ((wrap64 ((wrap64 (x1_1 + 1)) + 1)) + 1)) + 1)) + 1)) 3) == 0)) = true
          ·rw [if_pos c11] at H
           have c11b0 : (((rd_T33 l0 x5_1).f5) != ((Int.tmod (wrap64 ((wrap64 ((wrap64 ((wrap64 ((wrap64 (x1_1 + 1)) + 1)) + 1)) + 1)) + 1)) 3) == 0)) = true := c11
           (try (have c11b1 : decide (((rd_T33 l0 x5_1).f5) = ((Int.tmod (wrap64 ((wrap64 ((wrap64 ((wrap64 ((wrap64 (x1_1 + 1)) + 1)) + 1)) + 1)) + 1)) 3) == 0)) = false := by simpa using c11))
           (try (have c11b2 : (((rd_T33 l0 x5_1).f5) == ((Int.tmod (wrap64 ((wrap64 ((wrap64 ((wrap64 ((wrap64 (x1_1 + 1)) + 1)) + 1)) + 1)) + 1)) 3) == 0)) = false := by simpa using c11))
           (try (have c11b3 : ¬ (((rd_T33 l0 x5_1).f5) = ((Int.tmod (wrap64 ((wrap64 ((wrap64 ((wrap64 ((wrap64 (x1_1 + 1)) + 1)) + 1)) + 1)) + 1)) 3) == 0)) := by simpa using c11))
           clear c11
           obtain rfl := Option.some.inj H
           have p143 : 0 ≤ (x5_1 : Int) := of_decide_eq_true (by assumption)
           have q143 : x5_1 < (l0.length : Int) := of_decide_eq_true (by assumption)
           obtain ⟨ad143, A143_6, c143_6, e143, hx143_0, hx143_1, hx143_2, hx143_3, hx143_4, hx143_5, hx143_6, hl143_6, hi143_6⟩ := at_T33 HR0.out x5_1 p143 q143
           cases e143
           replace hx143_0 := hxB HB.out hx143_0
           replace hx143_1 := hxB HB.out hx143_1
           replace hx143_2 := hxB HB.out hx143_2
           replace hx143_3 := hxB HB.out hx143_3
           replace hx143_4 := hxB HB.out hx143_4
           replace hx143_5 := hxB HB.out hx143_5
           replace hx143_6 := hxB HB.out hx143_6
           have HR143_6 := Aside0.mk hi143_6
           have HC143_6 := Aside0.mk hl143_6
           clear hi143_6 hl143_6
           replace p143 := eq_true p143
           replace q143 := eq_true q143
           try go_wp2
           have n0_ := Aside0.mk (below_drew1 HB.out)
           clear HB
           have HB := n0_
           clear n0_
           have p144 : 0 ≤ (x5_1 : Int) := of_decide_eq_true (by assumption)
           have q144 : x5_1 < (l0.length : Int) := of_decide_eq_true (by assumption)
           obtain ⟨ad144, A144_6, c144_6, e144, hx144_0, hx144_1, hx144_2, hx144_3, hx144_4, hx144_5, hx144_6, hl144_6, hi144_6⟩ := at_T33 HR0.out x5_1 p144 q144
           have hw144_6 := hx144_6
           have hw144_5 := hx144_5
           have hw144_4 := hx144_4
           have hw144_3 := hx144_3
           have hw144_2 := hx144_2
           have hw144_1 := hx144_1
           have hw144_0 := hx144_0
           obtain rfl : ad143 = ad144 := (by injection e144)
           replace hx144_0 := hxB HB.out hx144_0
           replace hx144_1 := hxB HB.out hx144_1
           replace hx144_2 := hxB HB.out hx144_2
           replace hx144_3 := hxB HB.out hx144_3
           replace hx144_4 := hxB HB.out hx144_4
           replace hx144_5 := hxB HB.out hx144_5
           replace hx144_6 := hxB HB.out hx144_6
           have HR144_6 := Aside0.mk hi144_6
           have HC144_6 := Aside0.mk hl144_6
           clear hi144_6 hl144_6
           replace p144 := eq_true p144
           replace q144 := eq_true q144
           refine start_ (n := 8) (S := fun w' => w'.cell? (ad143.add ((x5_1).toNat * 7)) = some (.int .i64 ((rd_T33 l0 x5_1).f0)) ∧ w'.cell? ⟨(ad143.add ((x5_1).toNat * 7)).block, (ad143.add ((x5_1).toNat * 7)).off + 1, none⟩ = some (.string ((rd_T33 l0 x5_1).f1)) ∧ w'.cell? ⟨(ad143.add ((x5_1).toNat * 7)).block, (ad143.add ((x5_1).toNat * 7)).off + 2, none⟩ = some (.int .i64 ((rd_T33 l0 x5_1).f2)) ∧ w'.cell? ⟨(ad143.add ((x5_1).toNat * 7)).block, (ad143.add ((x5_1).toNat * 7)).off + 3, none⟩ = some (.int .i64 ((rd_T33 l0 x5_1).f3)) ∧ w'.cell? ⟨(ad143.add ((x5_1).toNat * 7)).block, (ad143.add ((x5_1).toNat * 7)).off + 4, none⟩ = some (.int .i64 ((rd_T33 l0 x5_1).f4)) ∧ w'.cell? ⟨(ad143.add ((x5_1).toNat * 7)).block, (ad143.add ((x5_1).toNat * 7)).off + 5, none⟩ = some (.bool ((rd_T33 l0 x5_1).f5)) ∧ w'.cell? ⟨(ad143.add ((x5_1).toNat * 7)).block, (ad143.add ((x5_1).toNat * 7)).off + 6, none⟩ = some (.slice A144_6 ((rd_T33 l0 x5_1).f6).length c144_6)) (ds := []) #[false, false, false, false, false, false, false, false] (by kernel_rfl) rfl rfl ⟨(hxB HB.out hw144_0), (hxB HB.out hw144_1), (hxB HB.out hw144_2), (hxB HB.out hw144_3), (hxB HB.out hw144_4), (hxB HB.out hw144_5), (hxB HB.out hw144_6)⟩ (fun hHeld => ?_); refine with_tabW laws_heldNodeS.tab7 laws_heldNodeS.bits7 (fun HT_ HW_ => ?_)
           generalize wr.drew = w12 at HB HR144_6 hx144_0 hx144_1 hx144_2 hx144_3 hx144_4 hx144_5 hx144_6 hHeld ⊢
           refine pt_ 0 21 ?_
           refine pt_ 1 22 ?_
           refine pt_ 2 23 ?_
           refine pt_ 3 24 ?_
           refine pt_ 5 26 ?_
           refine tt_ 4 25 ?_
           refine one_ (i := 6) (N := some 27) #[true, true, true, true, true, true, true, false] rfl rfl (one_of HT_.out (by kernel_rfl)) (by decide) (fun K hK => ?_)
           refine goes_ Try.func81 (by kernel_rfl) rfl #[.int .i64 (wrap64 (x1_1 + 1))] (by rfl) rfl rfl aL ?_
           with_reducible refine (laws_markText.calls k1 (wrap64 (x1_1 + 1)) t145 _ A6.out).mono ?_
           rintro e w13 ⟨rfl, hb⟩
           refine ⟨_, rfl, ?_⟩
           have n0_ := Aside0.mk (below_step bA hb)
           clear HB
           have HB := n0_
           clear n0_
           (try clear hb)
           (try clear hb2)
           (try clear hk)
           (try clear hi)
           refine hK.out _ _ ⟨(hxB HB.out hw144_0), (hxB HB.out hw144_1), (hxB HB.out hw144_2), (hxB HB.out hw144_3), (hxB HB.out hw144_4), (hxB HB.out hw144_5), (hxB HB.out hw144_6)⟩ (fun hHeld => ?_)
           clear hK K
           refine norm_ (a' := ?_) ?_ ?_
           rotate_left
           ·show Act.put _ (some 27) _ = _
            simp only [Act.put, List.setIfInBounds_toArray, List.set_cons_zero, List.set_cons_succ, i64_w, i32_w]
            rfl
           refine pt_ 7 28 ?_
           refine done_ (done_of HT_.out (by kernel_rfl)) ?_
           have p146 : 0 ≤ (x5_1 : Int) := of_decide_eq_true (by assumption)
           have q146 : x5_1 < (l0.length : Int) := of_decide_eq_true (by assumption)
           obtain ⟨ad146, A146_6, c146_6, e146, hx146_0, hx146_1, hx146_2, hx146_3, hx146_4, hx146_5, hx146_6, hl146_6, hi146_6⟩ := at_T33 HR0.out x5_1 p146 q146
           obtain rfl : ad143 = ad146 := (by injection e146)
           replace hx146_0 := hxB HB.out hx146_0
           replace hx146_1 := hxB HB.out hx146_1
           replace hx146_2 := hxB HB.out hx146_2
           replace hx146_3 := hxB HB.out hx146_3
           replace hx146_4 := hxB HB.out hx146_4
           replace hx146_5 := hxB HB.out hx146_5
           replace hx146_6 := hxB HB.out hx146_6
           have HR146_6 := Aside0.mk hi146_6
           have HC146_6 := Aside0.mk hl146_6
           clear hi146_6 hl146_6
           replace p146 := eq_true p146
           replace q146 := eq_true q146
           have p147 : 0 ≤ (x5_1 : Int) := of_decide_eq_true (by assumption)
           have q147 : x5_1 < (l0.length : Int) := of_decide_eq_true (by assumption)
           obtain ⟨ad147, A147_6, c147_6, e147, hx147_0, hx147_1, hx147_2, hx147_3, hx147_4, hx147_5, hx147_6, hl147_6, hi147_6⟩ := at_T33 HR0.out x5_1 p147 q147
           obtain rfl : ad143 = ad147 := (by injection e147)
           replace hx147_0 := hxB HB.out hx147_0
           replace hx147_1 := hxB HB.out hx147_1
           replace hx147_2 := hxB HB.out hx147_2
           replace hx147_3 := hxB HB.out hx147_3
           replace hx147_4 := hxB HB.out hx147_4
           replace hx147_5 := hxB HB.out hx147_5
           replace hx147_6 := hxB HB.out hx147_6
           have HR147_6 := Aside0.mk hi147_6
           have HC147_6 := Aside0.mk hl147_6
           clear hi147_6 hl147_6
           replace p147 := eq_true p147
           replace q147 := eq_true q147
           have ea_ := Option.some.inj (hx146_6.symm.trans hx147_6)
           injection ea_ with ea_ en_ ec_
           subst ea_
           subst ec_
           clear en_
           have p148 : 0 ≤ (x5_1 : Int) := of_decide_eq_true (by assumption)
           have q148 : x5_1 < (l0.length : Int) := of_decide_eq_true (by assumption)
           obtain ⟨ad148, A148_6, c148_6, e148, hx148_0, hx148_1, hx148_2, hx148_3, hx148_4, hx148_5, hx148_6, hl148_6, hi148_6⟩ := at_T33 HR0.out x5_1 p148 q148
           obtain rfl : ad143 = ad148 := (by injection e148)
           replace hx148_0 := hxB HB.out hx148_0
           replace hx148_1 := hxB HB.out hx148_1
           replace hx148_2 := hxB HB.out hx148_2
           replace hx148_3 := hxB HB.out hx148_3
           replace hx148_4 := hxB HB.out hx148_4
           replace hx148_5 := hxB HB.out hx148_5
           replace hx148_6 := hxB HB.out hx148_6
           have HR148_6 := Aside0.mk hi148_6
           have HC148_6 := Aside0.mk hl148_6
           clear hi148_6 hl148_6
           replace p148 := eq_true p148
           replace q148 := eq_true q148
           have ea_ := Option.some.inj (hx146_6.symm.trans hx148_6)
           injection ea_ with ea_ en_ ec_
           subst ea_
           subst ec_
           clear en_
           have p149 : 0 ≤ (x5_1 : Int) := of_decide_eq_true (by assumption)
           have q149 : x5_1 < (l0.length : Int) := of_decide_eq_true (by assumption)
           obtain ⟨ad149, A149_6, c149_6, e149, hx149_0, hx149_1, hx149_2, hx149_3, hx149_4, hx149_5, hx149_6, hl149_6, hi149_6⟩ := at_T33 HR0.out x5_1 p149 q149
           obtain rfl : ad143 = ad149 := (by injection e149)
           replace hx149_0 := hxB HB.out hx149_0
           replace hx149_1 := hxB HB.out hx149_1
           replace hx149_2 := hxB HB.out hx149_2
           replace hx149_3 := hxB HB.out hx149_3
           replace hx149_4 := hxB HB.out hx149_4
           replace hx149_5 := hxB HB.out hx149_5
           replace hx149_6 := hxB HB.out hx149_6
           have HR149_6 := Aside0.mk hi149_6
           have HC149_6 := Aside0.mk hl149_6
           clear hi149_6 hl149_6
           replace p149 := eq_true p149
           replace q149 := eq_true q149
           have ea_ := Option.some.inj (hx146_6.symm.trans hx149_6)
           injection ea_ with ea_ en_ ec_
           subst ea_
           subst ec_
           clear en_
           try go_wp2
           go_ret
           exact ⟨rE, bA⟩
          ·rw [if_neg c11] at H
           have c11b0 : (((rd_T33 l0 x5_1).f5) != ((Int.tmod (wrap64 ((wrap64 ((wrap64 ((wrap64 ((wrap64 (x1_1 + 1)) + 1)) + 1)) + 1)) + 1)) 3) == 0)) = false := by simpa using c11
           (try (have c11b1 : decide (((rd_T33 l0 x5_1).f5) = ((Int.tmod (wrap64 ((wrap64 ((wrap64 ((wrap64 ((wrap64 (x1_1 + 1)) + 1)) + 1)) + 1)) + 1)) 3) == 0)) = true := by simpa using c11))
           (try (have c11b2 : (((rd_T33 l0 x5_1).f5) == ((Int.tmod (wrap64 ((wrap64 ((wrap64 ((wrap64 ((wrap64 (x1_1 + 1)) + 1)) + 1)) + 1)) + 1)) 3) == 0)) = true := by simpa using c11))
           clear c11
           replace H := Option.bind_eq_some_iff.mp H
           obtain ⟨t151, A140, H⟩ := H
           replace H : (if t151 < 0 then (some (-1)) else (laws_heldNodeS.l0 k1 l0 t151 (wrap64 (x5_1 + 1)))) = some r := H
           have A14 := Aside0.mk A140
           clear A140
           by_cases c15 : t151 < 0
           ·rw [if_pos c15] at H
            have c15b0 : decide (t151 < 0) = true := decide_eq_true c15
            clear c15
            obtain rfl := Option.some.inj H
            have p143 : 0 ≤ (x5_1 : Int) := of_decide_eq_true (by assumption)
            have q143 : x5_1 < (l0.length : Int) := of_decide_eq_true (by assumption)
            obtain ⟨ad143, A143_6, c143_6, e143, hx143_0, hx143_1, hx143_2, hx143_3, hx143_4, hx143_5, hx143_6, hl143_6, hi143_6⟩ := at_T33 HR0.out x5_1 p143 q143
            cases e143
            replace hx143_0 := hxB HB.out hx143_0
            replace hx143_1 := hxB HB.out hx143_1
            replace hx143_2 := hxB HB.out hx143_2
            replace hx143_3 := hxB HB.out hx143_3
            replace hx143_4 := hxB HB.out hx143_4
            replace hx143_5 := hxB HB.out hx143_5
            replace hx143_6 := hxB HB.out hx143_6
            have HR143_6 := Aside0.mk hi143_6
            have HC143_6 := Aside0.mk hl143_6
            clear hi143_6 hl143_6
            replace p143 := eq_true p143
            replace q143 := eq_true q143
            try go_wp2
            have n0_ := Aside0.mk (below_drew1 HB.out)
            clear HB
            have HB := n0_
            clear n0_
            have p144 : 0 ≤ (x5_1 : Int) := of_decide_eq_true (by assumption)
            have q144 : x5_1 < (l0.length : Int) := of_decide_eq_true (by assumption)
            obtain ⟨ad144, A144_6, c144_6, e144, hx144_0, hx144_1, hx144_2, hx144_3, hx144_4, hx144_5, hx144_6, hl144_6, hi144_6⟩ := at_T33 HR0.out x5_1 p144 q144
            have hw144_6 := hx144_6
            have hw144_5 := hx144_5
            have hw144_4 := hx144_4
            have hw144_3 := hx144_3
            have hw144_2 := hx144_2
            have hw144_1 := hx144_1
            have hw144_0 := hx144_0
            obtain rfl : ad143 = ad144 := (by injection e144)
            replace hx144_0 := hxB HB.out hx144_0
            replace hx144_1 := hxB HB.out hx144_1
            replace hx144_2 := hxB HB.out hx144_2
            replace hx144_3 := hxB HB.out hx144_3
            replace hx144_4 := hxB HB.out hx144_4
            replace hx144_5 := hxB HB.out hx144_5
            replace hx144_6 := hxB HB.out hx144_6
            have HR144_6 := Aside0.mk hi144_6
            have HC144_6 := Aside0.mk hl144_6
            clear hi144_6 hl144_6
            replace p144 := eq_true p144
            replace q144 := eq_true q144
            refine start_ (n := 8) (S := fun w' => w'.cell? (ad143.add ((x5_1).toNat * 7)) = some (.int .i64 ((rd_T33 l0 x5_1).f0)) ∧ w'.cell? ⟨(ad143.add ((x5_1).toNat * 7)).block, (ad143.add ((x5_1).toNat * 7)).off + 1, none⟩ = some (.string ((rd_T33 l0 x5_1).f1)) ∧ w'.cell? ⟨(ad143.add ((x5_1).toNat * 7)).block, (ad143.add ((x5_1).toNat * 7)).off + 2, none⟩ = some (.int .i64 ((rd_T33 l0 x5_1).f2)) ∧ w'.cell? ⟨(ad143.add ((x5_1).toNat * 7)).block, (ad143.add ((x5_1).toNat * 7)).off + 3, none⟩ = some (.int .i64 ((rd_T33 l0 x5_1).f3)) ∧ w'.cell? ⟨(ad143.add ((x5_1).toNat * 7)).block, (ad143.add ((x5_1).toNat * 7)).off + 4, none⟩ = some (.int .i64 ((rd_T33 l0 x5_1).f4)) ∧ w'.cell? ⟨(ad143.add ((x5_1).toNat * 7)).block, (ad143.add ((x5_1).toNat * 7)).off + 5, none⟩ = some (.bool ((rd_T33 l0 x5_1).f5)) ∧ w'.cell? ⟨(ad143.add ((x5_1).toNat * 7)).block, (ad143.add ((x5_1).toNat * 7)).off + 6, none⟩ = some (.slice A144_6 ((rd_T33 l0 x5_1).f6).length c144_6)) (ds := []) #[false, false, false, false, false, false, false, false] (by kernel_rfl) rfl rfl ⟨(hxB HB.out hw144_0), (hxB HB.out hw144_1), (hxB HB.out hw144_2), (hxB HB.out hw144_3), (hxB HB.out hw144_4), (hxB HB.out hw144_5), (hxB HB.out hw144_6)⟩ (fun hHeld => ?_); refine with_tabW laws_heldNodeS.tab7 laws_heldNodeS.bits7 (fun HT_ HW_ => ?_)
            generalize wr.drew = w16 at HB HR144_6 hx144_0 hx144_1 hx144_2 hx144_3 hx144_4 hx144_5 hx144_6 hHeld ⊢
            refine pt_ 0 21 ?_
            refine pt_ 1 22 ?_
            refine pt_ 2 23 ?_
            refine pt_ 3 24 ?_
            refine pt_ 5 26 ?_
            refine tt_ 4 25 ?_
            refine one_ (i := 6) (N := some 27) #[true, true, true, true, true, true, true, false] rfl rfl (one_of HT_.out (by kernel_rfl)) (by decide) (fun K hK => ?_)
            refine goes_ Try.func81 (by kernel_rfl) rfl #[.int .i64 (wrap64 (x1_1 + 1))] (by rfl) rfl rfl aL ?_
            with_reducible refine (laws_markText.calls k1 (wrap64 (x1_1 + 1)) t145 _ A6.out).mono ?_
            rintro e w17 ⟨rfl, hb⟩
            refine ⟨_, rfl, ?_⟩
            have n0_ := Aside0.mk (below_step bA hb)
            clear HB
            have HB := n0_
            clear n0_
            (try clear hb)
            (try clear hb2)
            (try clear hk)
            (try clear hi)
            refine hK.out _ _ ⟨(hxB HB.out hw144_0), (hxB HB.out hw144_1), (hxB HB.out hw144_2), (hxB HB.out hw144_3), (hxB HB.out hw144_4), (hxB HB.out hw144_5), (hxB HB.out hw144_6)⟩ (fun hHeld => ?_)
            clear hK K
            refine norm_ (a' := ?_) ?_ ?_
            rotate_left
            ·show Act.put _ (some 27) _ = _
             simp only [Act.put, List.setIfInBounds_toArray, List.set_cons_zero, List.set_cons_succ, i64_w, i32_w]
             rfl
            refine pt_ 7 28 ?_
            refine done_ (done_of HT_.out (by kernel_rfl)) ?_
            have p146 : 0 ≤ (x5_1 : Int) := of_decide_eq_true (by assumption)
            have q146 : x5_1 < (l0.length : Int) := of_decide_eq_true (by assumption)
            obtain ⟨ad146, A146_6, c146_6, e146, hx146_0, hx146_1, hx146_2, hx146_3, hx146_4, hx146_5, hx146_6, hl146_6, hi146_6⟩ := at_T33 HR0.out x5_1 p146 q146
            obtain rfl : ad143 = ad146 := (by injection e146)
            replace hx146_0 := hxB HB.out hx146_0
            replace hx146_1 := hxB HB.out hx146_1
            replace hx146_2 := hxB HB.out hx146_2
            replace hx146_3 := hxB HB.out hx146_3
            replace hx146_4 := hxB HB.out hx146_4
            replace hx146_5 := hxB HB.out hx146_5
            replace hx146_6 := hxB HB.out hx146_6
            have HR146_6 := Aside0.mk hi146_6
            have HC146_6 := Aside0.mk hl146_6
            clear hi146_6 hl146_6
            replace p146 := eq_true p146
            replace q146 := eq_true q146
            have p147 : 0 ≤ (x5_1 : Int) := of_decide_eq_true (by assumption)
            have q147 : x5_1 < (l0.length : Int) := of_decide_eq_true (by assumption)
            obtain ⟨ad147, A147_6, c147_6, e147, hx147_0, hx147_1, hx147_2, hx147_3, hx147_4, hx147_5, hx147_6, hl147_6, hi147_6⟩ := at_T33 HR0.out x5_1 p147 q147
            obtain rfl : ad143 = ad147 := (by injection e147)
            replace hx147_0 := hxB HB.out hx147_0
            replace hx147_1 := hxB HB.out hx147_1
            replace hx147_2 := hxB HB.out hx147_2
            replace hx147_3 := hxB HB.out hx147_3
            replace hx147_4 := hxB HB.out hx147_4
            replace hx147_5 := hxB HB.out hx147_5
            replace hx147_6 := hxB HB.out hx147_6
            have HR147_6 := Aside0.mk hi147_6
            have HC147_6 := Aside0.mk hl147_6
            clear hi147_6 hl147_6
            replace p147 := eq_true p147
            replace q147 := eq_true q147
            have ea_ := Option.some.inj (hx146_6.symm.trans hx147_6)
            injection ea_ with ea_ en_ ec_
            subst ea_
            subst ec_
            clear en_
            have p148 : 0 ≤ (x5_1 : Int) := of_decide_eq_true (by assumption)
            have q148 : x5_1 < (l0.length : Int) := of_decide_eq_true (by assumption)
            obtain ⟨ad148, A148_6, c148_6, e148, hx148_0, hx148_1, hx148_2, hx148_3, hx148_4, hx148_5, hx148_6, hl148_6, hi148_6⟩ := at_T33 HR0.out x5_1 p148 q148
            obtain rfl : ad143 = ad148 := (by injection e148)
            replace hx148_0 := hxB HB.out hx148_0
            replace hx148_1 := hxB HB.out hx148_1
            replace hx148_2 := hxB HB.out hx148_2
            replace hx148_3 := hxB HB.out hx148_3
            replace hx148_4 := hxB HB.out hx148_4
            replace hx148_5 := hxB HB.out hx148_5
            replace hx148_6 := hxB HB.out hx148_6
            have HR148_6 := Aside0.mk hi148_6
            have HC148_6 := Aside0.mk hl148_6
            clear hi148_6 hl148_6
            replace p148 := eq_true p148
            replace q148 := eq_true q148
            have ea_ := Option.some.inj (hx146_6.symm.trans hx148_6)
            injection ea_ with ea_ en_ ec_
            subst ea_
            subst ec_
            clear en_
            have p149 : 0 ≤ (x5_1 : Int) := of_decide_eq_true (by assumption)
            have q149 : x5_1 < (l0.length : Int) := of_decide_eq_true (by assumption)
            obtain ⟨ad149, A149_6, c149_6, e149, hx149_0, hx149_1, hx149_2, hx149_3, hx149_4, hx149_5, hx149_6, hl149_6, hi149_6⟩ := at_T33 HR0.out x5_1 p149 q149
            obtain rfl : ad143 = ad149 := (by injection e149)
            replace hx149_0 := hxB HB.out hx149_0
            replace hx149_1 := hxB HB.out hx149_1
            replace hx149_2 := hxB HB.out hx149_2
            replace hx149_3 := hxB HB.out hx149_3
            replace hx149_4 := hxB HB.out hx149_4
            replace hx149_5 := hxB HB.out hx149_5
            replace hx149_6 := hxB HB.out hx149_6
            have HR149_6 := Aside0.mk hi149_6
            have HC149_6 := Aside0.mk hl149_6
            clear hi149_6 hl149_6
            replace p149 := eq_true p149
            replace q149 := eq_true q149
            have ea_ := Option.some.inj (hx146_6.symm.trans hx149_6)
            injection ea_ with ea_ en_ ec_
            subst ea_
            subst ec_
            clear en_
            have p150 : 0 ≤ (x5_1 : Int) := of_decide_eq_true (by assumption)
            have q150 : x5_1 < (l0.length : Int) := of_decide_eq_true (by assumption)
            obtain ⟨ad150, A150_6, c150_6, e150, hx150_0, hx150_1, hx150_2, hx150_3, hx150_4, hx150_5, hx150_6, hl150_6, hi150_6⟩ := at_T33 HR0.out x5_1 p150 q150
            obtain rfl : ad143 = ad150 := (by injection e150)
            replace hx150_0 := hxB HB.out hx150_0
            replace hx150_1 := hxB HB.out hx150_1
            replace hx150_2 := hxB HB.out hx150_2
            replace hx150_3 := hxB HB.out hx150_3
            replace hx150_4 := hxB HB.out hx150_4
            replace hx150_5 := hxB HB.out hx150_5
            replace hx150_6 := hxB HB.out hx150_6
            have HR150_6 := Aside0.mk hi150_6
            have HC150_6 := Aside0.mk hl150_6
            clear hi150_6 hl150_6
            replace p150 := eq_true p150
            replace q150 := eq_true q150
            have ea_ := Option.some.inj (hx146_6.symm.trans hx150_6)
            injection ea_ with ea_ en_ ec_
            subst ea_
            subst ec_
            clear en_
            (try (have ea_ := Option.some.inj (hx143_6.symm.trans hx146_6); injection ea_ with ea_ en_ ec_; rw [ea_, ec_] at hx143_6))
            (try (have ea_ := Option.some.inj (hx146_6.symm.trans (hxB HB.out hw143_6)); injection ea_ with ea_ en_ ec_; subst ea_; subst ec_))
            (try (have ea_ := Option.some.inj (hx144_6.symm.trans hx146_6); injection ea_ with ea_ en_ ec_; rw [ea_, ec_] at hx144_6))
            (try (have ea_ := Option.some.inj (hx146_6.symm.trans (hxB HB.out hw144_6)); injection ea_ with ea_ en_ ec_; subst ea_; subst ec_))
            (try (have ea_ := Option.some.inj (hx147_6.symm.trans hx146_6); injection ea_ with ea_ en_ ec_; rw [ea_, ec_] at hx147_6))
            (try (have ea_ := Option.some.inj (hx146_6.symm.trans (hxB HB.out hw147_6)); injection ea_ with ea_ en_ ec_; subst ea_; subst ec_))
            (try (have ea_ := Option.some.inj (hx148_6.symm.trans hx146_6); injection ea_ with ea_ en_ ec_; rw [ea_, ec_] at hx148_6))
            (try (have ea_ := Option.some.inj (hx146_6.symm.trans (hxB HB.out hw148_6)); injection ea_ with ea_ en_ ec_; subst ea_; subst ec_))
            (try (have ea_ := Option.some.inj (hx149_6.symm.trans hx146_6); injection ea_ with ea_ en_ ec_; rw [ea_, ec_] at hx149_6))
            (try (have ea_ := Option.some.inj (hx146_6.symm.trans (hxB HB.out hw149_6)); injection ea_ with ea_ en_ ec_; subst ea_; subst ec_))
            (try (have ea_ := Option.some.inj (hx150_6.symm.trans hx146_6); injection ea_ with ea_ en_ ec_; rw [ea_, ec_] at hx150_6))
            (try (have ea_ := Option.some.inj (hx146_6.symm.trans (hxB HB.out hw150_6)); injection ea_ with ea_ en_ ec_; subst ea_; subst ec_))
            try go_wp2_with (first | ((with_reducible refine gate_callee (f := 38) rfl ?_); refine goesL_ (some 75) rfl rfl Try.func38 (by kernel_rfl) rfl #[.slice A146_6 ((rd_T33 l0 x5_1).f6).length c146_6, .int .i64 (wrap64 ((wrap64 ((wrap64 ((wrap64 ((wrap64 ((wrap64 (x1_1 + 1)) + 1)) + 1)) + 1)) + 1)) + 1))] rfl aL ?_; (with_reducible refine (laws_heldIntS.calls k1 _ _ ((rd_T33 l0 x5_1).f6) (wrap64 ((wrap64 ((wrap64 ((wrap64 ((wrap64 ((wrap64 (x1_1 + 1)) + 1)) + 1)) + 1)) + 1)) + 1)) t151 _ ?side1 ?side2 A14.out).mono ?_); (case side1 => exact cA); (case side2 => exact HC150_6.out); rintro e w' ⟨rfl, ⟨nd, rfl⟩⟩; refine ⟨_, rfl, ?_⟩))
            go_ret
            exact ⟨rE, bA⟩
           ·rw [if_neg c15] at H
            have c15b0 : decide (t151 < 0) = false := decide_eq_false c15
            clear c15
            have H' := Aside0.mk H
            clear H
            have p143 : 0 ≤ (x5_1 : Int) := of_decide_eq_true (by assumption)
            have q143 : x5_1 < (l0.length : Int) := of_decide_eq_true (by assumption)
            obtain ⟨ad143, A143_6, c143_6, e143, hx143_0, hx143_1, hx143_2, hx143_3, hx143_4, hx143_5, hx143_6, hl143_6, hi143_6⟩ := at_T33 HR0.out x5_1 p143 q143
            cases e143
            replace hx143_0 := hxB HB.out hx143_0
            replace hx143_1 := hxB HB.out hx143_1
            replace hx143_2 := hxB HB.out hx143_2
            replace hx143_3 := hxB HB.out hx143_3
            replace hx143_4 := hxB HB.out hx143_4
            replace hx143_5 := hxB HB.out hx143_5
            replace hx143_6 := hxB HB.out hx143_6
            have HR143_6 := Aside0.mk hi143_6
            have HC143_6 := Aside0.mk hl143_6
            clear hi143_6 hl143_6
            replace p143 := eq_true p143
            replace q143 := eq_true q143
            try go_wp2
            have n0_ := Aside0.mk (below_drew1 HB.out)
            clear HB
            have HB := n0_
            clear n0_
            have p144 : 0 ≤ (x5_1 : Int) := of_decide_eq_true (by assumption)
            have q144 : x5_1 < (l0.length : Int) := of_decide_eq_true (by assumption)
            obtain ⟨ad144, A144_6, c144_6, e144, hx144_0, hx144_1, hx144_2, hx144_3, hx144_4, hx144_5, hx144_6, hl144_6, hi144_6⟩ := at_T33 HR0.out x5_1 p144 q144
            have hw144_6 := hx144_6
            have hw144_5 := hx144_5
            have hw144_4 := hx144_4
            have hw144_3 := hx144_3
            have hw144_2 := hx144_2
            have hw144_1 := hx144_1
            have hw144_0 := hx144_0
            obtain rfl : ad143 = ad144 := (by injection e144)
            replace hx144_0 := hxB HB.out hx144_0
            replace hx144_1 := hxB HB.out hx144_1
            replace hx144_2 := hxB HB.out hx144_2
            replace hx144_3 := hxB HB.out hx144_3
            replace hx144_4 := hxB HB.out hx144_4
            replace hx144_5 := hxB HB.out hx144_5
            replace hx144_6 := hxB HB.out hx144_6
            have HR144_6 := Aside0.mk hi144_6
            have HC144_6 := Aside0.mk hl144_6
            clear hi144_6 hl144_6
            replace p144 := eq_true p144
            replace q144 := eq_true q144
            refine start_ (n := 8) (S := fun w' => w'.cell? (ad143.add ((x5_1).toNat * 7)) = some (.int .i64 ((rd_T33 l0 x5_1).f0)) ∧ w'.cell? ⟨(ad143.add ((x5_1).toNat * 7)).block, (ad143.add ((x5_1).toNat * 7)).off + 1, none⟩ = some (.string ((rd_T33 l0 x5_1).f1)) ∧ w'.cell? ⟨(ad143.add ((x5_1).toNat * 7)).block, (ad143.add ((x5_1).toNat * 7)).off + 2, none⟩ = some (.int .i64 ((rd_T33 l0 x5_1).f2)) ∧ w'.cell? ⟨(ad143.add ((x5_1).toNat * 7)).block, (ad143.add ((x5_1).toNat * 7)).off + 3, none⟩ = some (.int .i64 ((rd_T33 l0 x5_1).f3)) ∧ w'.cell? ⟨(ad143.add ((x5_1).toNat * 7)).block, (ad143.add ((x5_1).toNat * 7)).off + 4, none⟩ = some (.int .i64 ((rd_T33 l0 x5_1).f4)) ∧ w'.cell? ⟨(ad143.add ((x5_1).toNat * 7)).block, (ad143.add ((x5_1).toNat * 7)).off + 5, none⟩ = some (.bool ((rd_T33 l0 x5_1).f5)) ∧ w'.cell? ⟨(ad143.add ((x5_1).toNat * 7)).block, (ad143.add ((x5_1).toNat * 7)).off + 6, none⟩ = some (.slice A144_6 ((rd_T33 l0 x5_1).f6).length c144_6)) (ds := []) #[false, false, false, false, false, false, false, false] (by kernel_rfl) rfl rfl ⟨(hxB HB.out hw144_0), (hxB HB.out hw144_1), (hxB HB.out hw144_2), (hxB HB.out hw144_3), (hxB HB.out hw144_4), (hxB HB.out hw144_5), (hxB HB.out hw144_6)⟩ (fun hHeld => ?_); refine with_tabW laws_heldNodeS.tab7 laws_heldNodeS.bits7 (fun HT_ HW_ => ?_)
            generalize wr.drew = w18 at HB HR144_6 hx144_0 hx144_1 hx144_2 hx144_3 hx144_4 hx144_5 hx144_6 hHeld ⊢
            refine pt_ 0 21 ?_
            refine pt_ 1 22 ?_
            refine pt_ 2 23 ?_
            refine pt_ 3 24 ?_
            refine pt_ 5 26 ?_
            refine tt_ 4 25 ?_
            refine one_ (i := 6) (N := some 27) #[true, true, true, true, true, true, true, false] rfl rfl (one_of HT_.out (by kernel_rfl)) (by decide) (fun K hK => ?_)
            refine goes_ Try.func81 (by kernel_rfl) rfl #[.int .i64 (wrap64 (x1_1 + 1))] (by rfl) rfl rfl aL ?_
            with_reducible refine (laws_markText.calls k1 (wrap64 (x1_1 + 1)) t145 _ A6.out).mono ?_
            rintro e w19 ⟨rfl, hb⟩
            refine ⟨_, rfl, ?_⟩
            have n0_ := Aside0.mk (below_step bA hb)
            clear HB
            have HB := n0_
            clear n0_
            (try clear hb)
            (try clear hb2)
            (try clear hk)
            (try clear hi)
            refine hK.out _ _ ⟨(hxB HB.out hw144_0), (hxB HB.out hw144_1), (hxB HB.out hw144_2), (hxB HB.out hw144_3), (hxB HB.out hw144_4), (hxB HB.out hw144_5), (hxB HB.out hw144_6)⟩ (fun hHeld => ?_)
            clear hK K
            refine norm_ (a' := ?_) ?_ ?_
            rotate_left
            ·show Act.put _ (some 27) _ = _
             simp only [Act.put, List.setIfInBounds_toArray, List.set_cons_zero, List.set_cons_succ, i64_w, i32_w]
             rfl
            refine pt_ 7 28 ?_
            refine done_ (done_of HT_.out (by kernel_rfl)) ?_
            have p146 : 0 ≤ (x5_1 : Int) := of_decide_eq_true (by assumption)
            have q146 : x5_1 < (l0.length : Int) := of_decide_eq_true (by assumption)
            obtain ⟨ad146, A146_6, c146_6, e146, hx146_0, hx146_1, hx146_2, hx146_3, hx146_4, hx146_5, hx146_6, hl146_6, hi146_6⟩ := at_T33 HR0.out x5_1 p146 q146
            obtain rfl : ad143 = ad146 := (by injection e146)
            replace hx146_0 := hxB HB.out hx146_0
            replace hx146_1 := hxB HB.out hx146_1
            replace hx146_2 := hxB HB.out hx146_2
            replace hx146_3 := hxB HB.out hx146_3
            replace hx146_4 := hxB HB.out hx146_4
            replace hx146_5 := hxB HB.out hx146_5
            replace hx146_6 := hxB HB.out hx146_6
            have HR146_6 := Aside0.mk hi146_6
            have HC146_6 := Aside0.mk hl146_6
            clear hi146_6 hl146_6
            replace p146 := eq_true p146
            replace q146 := eq_true q146
            have p147 : 0 ≤ (x5_1 : Int) := of_decide_eq_true (by assumption)
            have q147 : x5_1 < (l0.length : Int) := of_decide_eq_true (by assumption)
            obtain ⟨ad147, A147_6, c147_6, e147, hx147_0, hx147_1, hx147_2, hx147_3, hx147_4, hx147_5, hx147_6, hl147_6, hi147_6⟩ := at_T33 HR0.out x5_1 p147 q147
            obtain rfl : ad143 = ad147 := (by injection e147)
            replace hx147_0 := hxB HB.out hx147_0
            replace hx147_1 := hxB HB.out hx147_1
            replace hx147_2 := hxB HB.out hx147_2
            replace hx147_3 := hxB HB.out hx147_3
            replace hx147_4 := hxB HB.out hx147_4
            replace hx147_5 := hxB HB.out hx147_5
            replace hx147_6 := hxB HB.out hx147_6
            have HR147_6 := Aside0.mk hi147_6
            have HC147_6 := Aside0.mk hl147_6
            clear hi147_6 hl147_6
            replace p147 := eq_true p147
            replace q147 := eq_true q147
            have ea_ := Option.some.inj (hx146_6.symm.trans hx147_6)
            injection ea_ with ea_ en_ ec_
            subst ea_
            subst ec_
            clear en_
            have p148 : 0 ≤ (x5_1 : Int) := of_decide_eq_true (by assumption)
            have q148 : x5_1 < (l0.length : Int) := of_decide_eq_true (by assumption)
            obtain ⟨ad148, A148_6, c148_6, e148, hx148_0, hx148_1, hx148_2, hx148_3, hx148_4, hx148_5, hx148_6, hl148_6, hi148_6⟩ := at_T33 HR0.out x5_1 p148 q148
            obtain rfl : ad143 = ad148 := (by injection e148)
            replace hx148_0 := hxB HB.out hx148_0
            replace hx148_1 := hxB HB.out hx148_1
            replace hx148_2 := hxB HB.out hx148_2
            replace hx148_3 := hxB HB.out hx148_3
            replace hx148_4 := hxB HB.out hx148_4
            replace hx148_5 := hxB HB.out hx148_5
            replace hx148_6 := hxB HB.out hx148_6
            have HR148_6 := Aside0.mk hi148_6
            have HC148_6 := Aside0.mk hl148_6
            clear hi148_6 hl148_6
            replace p148 := eq_true p148
            replace q148 := eq_true q148
            have ea_ := Option.some.inj (hx146_6.symm.trans hx148_6)
            injection ea_ with ea_ en_ ec_
            subst ea_
            subst ec_
            clear en_
            have p149 : 0 ≤ (x5_1 : Int) := of_decide_eq_true (by assumption)
            have q149 : x5_1 < (l0.length : Int) := of_decide_eq_true (by assumption)
            obtain ⟨ad149, A149_6, c149_6, e149, hx149_0, hx149_1, hx149_2, hx149_3, hx149_4, hx149_5, hx149_6, hl149_6, hi149_6⟩ := at_T33 HR0.out x5_1 p149 q149
            obtain rfl : ad143 = ad149 := (by injection e149)
            replace hx149_0 := hxB HB.out hx149_0
            replace hx149_1 := hxB HB.out hx149_1
            replace hx149_2 := hxB HB.out hx149_2
            replace hx149_3 := hxB HB.out hx149_3
            replace hx149_4 := hxB HB.out hx149_4
            replace hx149_5 := hxB HB.out hx149_5
            replace hx149_6 := hxB HB.out hx149_6
            have HR149_6 := Aside0.mk hi149_6
            have HC149_6 := Aside0.mk hl149_6
            clear hi149_6 hl149_6
            replace p149 := eq_true p149
            replace q149 := eq_true q149
            have ea_ := Option.some.inj (hx146_6.symm.trans hx149_6)
            injection ea_ with ea_ en_ ec_
            subst ea_
            subst ec_
            clear en_
            have p150 : 0 ≤ (x5_1 : Int) := of_decide_eq_true (by assumption)
            have q150 : x5_1 < (l0.length : Int) := of_decide_eq_true (by assumption)
            obtain ⟨ad150, A150_6, c150_6, e150, hx150_0, hx150_1, hx150_2, hx150_3, hx150_4, hx150_5, hx150_6, hl150_6, hi150_6⟩ := at_T33 HR0.out x5_1 p150 q150
            obtain rfl : ad143 = ad150 := (by injection e150)
            replace hx150_0 := hxB HB.out hx150_0
            replace hx150_1 := hxB HB.out hx150_1
            replace hx150_2 := hxB HB.out hx150_2
            replace hx150_3 := hxB HB.out hx150_3
            replace hx150_4 := hxB HB.out hx150_4
            replace hx150_5 := hxB HB.out hx150_5
            replace hx150_6 := hxB HB.out hx150_6
            have HR150_6 := Aside0.mk hi150_6
            have HC150_6 := Aside0.mk hl150_6
            clear hi150_6 hl150_6
            replace p150 := eq_true p150
            replace q150 := eq_true q150
            have ea_ := Option.some.inj (hx146_6.symm.trans hx150_6)
            injection ea_ with ea_ en_ ec_
            subst ea_
            subst ec_
            clear en_
            (try (have ea_ := Option.some.inj (hx143_6.symm.trans hx146_6); injection ea_ with ea_ en_ ec_; rw [ea_, ec_] at hx143_6))
            (try (have ea_ := Option.some.inj (hx146_6.symm.trans (hxB HB.out hw143_6)); injection ea_ with ea_ en_ ec_; subst ea_; subst ec_))
            (try (have ea_ := Option.some.inj (hx144_6.symm.trans hx146_6); injection ea_ with ea_ en_ ec_; rw [ea_, ec_] at hx144_6))
            (try (have ea_ := Option.some.inj (hx146_6.symm.trans (hxB HB.out hw144_6)); injection ea_ with ea_ en_ ec_; subst ea_; subst ec_))
            (try (have ea_ := Option.some.inj (hx147_6.symm.trans hx146_6); injection ea_ with ea_ en_ ec_; rw [ea_, ec_] at hx147_6))
            (try (have ea_ := Option.some.inj (hx146_6.symm.trans (hxB HB.out hw147_6)); injection ea_ with ea_ en_ ec_; subst ea_; subst ec_))
            (try (have ea_ := Option.some.inj (hx148_6.symm.trans hx146_6); injection ea_ with ea_ en_ ec_; rw [ea_, ec_] at hx148_6))
            (try (have ea_ := Option.some.inj (hx146_6.symm.trans (hxB HB.out hw148_6)); injection ea_ with ea_ en_ ec_; subst ea_; subst ec_))
            (try (have ea_ := Option.some.inj (hx149_6.symm.trans hx146_6); injection ea_ with ea_ en_ ec_; rw [ea_, ec_] at hx149_6))
            (try (have ea_ := Option.some.inj (hx146_6.symm.trans (hxB HB.out hw149_6)); injection ea_ with ea_ en_ ec_; subst ea_; subst ec_))
            (try (have ea_ := Option.some.inj (hx150_6.symm.trans hx146_6); injection ea_ with ea_ en_ ec_; rw [ea_, ec_] at hx150_6))
            (try (have ea_ := Option.some.inj (hx146_6.symm.trans (hxB HB.out hw150_6)); injection ea_ with ea_ en_ ec_; subst ea_; subst ec_))
            try go_wp2_with (first | ((with_reducible refine gate_callee (f := 38) rfl ?_); refine goesL_ (some 75) rfl rfl Try.func38 (by kernel_rfl) rfl #[.slice A146_6 ((rd_T33 l0 x5_1).f6).length c146_6, .int .i64 (wrap64 ((wrap64 ((wrap64 ((wrap64 ((wrap64 ((wrap64 (x1_1 + 1)) + 1)) + 1)) + 1)) + 1)) + 1))] rfl aL ?_; (with_reducible refine (laws_heldIntS.calls k1 _ _ ((rd_T33 l0 x5_1).f6) (wrap64 ((wrap64 ((wrap64 ((wrap64 ((wrap64 ((wrap64 (x1_1 + 1)) + 1)) + 1)) + 1)) + 1)) + 1)) t151 _ ?side1 ?side2 A14.out).mono ?_); (case side1 => exact cA); (case side2 => exact HC150_6.out); rintro e w' ⟨rfl, ⟨nd, rfl⟩⟩; refine ⟨_, rfl, ?_⟩))
            go_roundg k1
            case measure => have := HK1.out; omega
            case rel => exact ⟨(t151), (wrap64 (x5_1 + 1)), rF, rF, H', ⟨by have := HK1.out; omega⟩, ⟨bA⟩⟩
         ·rw [if_neg c10] at H
          have c10b0 : (((rd_T33 l0 x5_1).f4) == (wrap64 ((wrap64 ((wrap64 ((wrap64 (x1_1 + 1)) + 1)) + 1)) + 1))) = false := beq_eq_false_iff_ne.mpr c10
          have c10b1 : (((rd_T33 l0 x5_1).f4) != (wrap64 ((wrap64 ((wrap64 ((wrap64 (x1_1 + 1)) + 1)) + 1)) + 1))) = true := bne_iff_ne.mpr c10
          obtain rfl := Option.some.inj H
          have p143 : 0 ≤ (x5_1 : Int) := of_decide_eq_true (by assumption)
          have q143 : x5_1 < (l0.length : Int) := of_decide_eq_true (by assumption)
          obtain ⟨ad143, A143_6, c143_6, e143, hx143_0, hx143_1, hx143_2, hx143_3, hx143_4, hx143_5, hx143_6, hl143_6, hi143_6⟩ := at_T33 HR0.out x5_1 p143 q143
          cases e143
          replace hx143_0 := hxB HB.out hx143_0
          replace hx143_1 := hxB HB.out hx143_1
          replace hx143_2 := hxB HB.out hx143_2
          replace hx143_3 := hxB HB.out hx143_3
          replace hx143_4 := hxB HB.out hx143_4
          replace hx143_5 := hxB HB.out hx143_5
          replace hx143_6 := hxB HB.out hx143_6
          have HR143_6 := Aside0.mk hi143_6
          have HC143_6 := Aside0.mk hl143_6
          clear hi143_6 hl143_6
          replace p143 := eq_true p143
          replace q143 := eq_true q143
          try go_wp2
          have n0_ := Aside0.mk (below_drew1 HB.out)
          clear HB
          have HB := n0_
          clear n0_
          have p144 : 0 ≤ (x5_1 : Int) := of_decide_eq_true (by assumption)
          have q144 : x5_1 < (l0.length : Int) := of_decide_eq_true (by assumption)
          obtain ⟨ad144, A144_6, c144_6, e144, hx144_0, hx144_1, hx144_2, hx144_3, hx144_4, hx144_5, hx144_6, hl144_6, hi144_6⟩ := at_T33 HR0.out x5_1 p144 q144
          have hw144_6 := hx144_6
          have hw144_5 := hx144_5
          have hw144_4 := hx144_4
          have hw144_3 := hx144_3
          have hw144_2 := hx144_2
          have hw144_1 := hx144_1
          have hw144_0 := hx144_0
          obtain rfl : ad143 = ad144 := (by injection e144)
          replace hx144_0 := hxB HB.out hx144_0
          replace hx144_1 := hxB HB.out hx144_1
          replace hx144_2 := hxB HB.out hx144_2
          replace hx144_3 := hxB HB.out hx144_3
          replace hx144_4 := hxB HB.out hx144_4
          replace hx144_5 := hxB HB.out hx144_5
          replace hx144_6 := hxB HB.out hx144_6
          have HR144_6 := Aside0.mk hi144_6
          have HC144_6 := Aside0.mk hl144_6
          clear hi144_6 hl144_6
          replace p144 := eq_true p144
          replace q144 := eq_true q144
          refine start_ (n := 8) (S := fun w' => w'.cell? (ad143.add ((x5_1).toNat * 7)) = some (.int .i64 ((rd_T33 l0 x5_1).f0)) ∧ w'.cell? ⟨(ad143.add ((x5_1).toNat * 7)).block, (ad143.add ((x5_1).toNat * 7)).off + 1, none⟩ = some (.string ((rd_T33 l0 x5_1).f1)) ∧ w'.cell? ⟨(ad143.add ((x5_1).toNat * 7)).block, (ad143.add ((x5_1).toNat * 7)).off + 2, none⟩ = some (.int .i64 ((rd_T33 l0 x5_1).f2)) ∧ w'.cell? ⟨(ad143.add ((x5_1).toNat * 7)).block, (ad143.add ((x5_1).toNat * 7)).off + 3, none⟩ = some (.int .i64 ((rd_T33 l0 x5_1).f3)) ∧ w'.cell? ⟨(ad143.add ((x5_1).toNat * 7)).block, (ad143.add ((x5_1).toNat * 7)).off + 4, none⟩ = some (.int .i64 ((rd_T33 l0 x5_1).f4)) ∧ w'.cell? ⟨(ad143.add ((x5_1).toNat * 7)).block, (ad143.add ((x5_1).toNat * 7)).off + 5, none⟩ = some (.bool ((rd_T33 l0 x5_1).f5)) ∧ w'.cell? ⟨(ad143.add ((x5_1).toNat * 7)).block, (ad143.add ((x5_1).toNat * 7)).off + 6, none⟩ = some (.slice A144_6 ((rd_T33 l0 x5_1).f6).length c144_6)) (ds := []) #[false, false, false, false, false, false, false, false] (by kernel_rfl) rfl rfl ⟨(hxB HB.out hw144_0), (hxB HB.out hw144_1), (hxB HB.out hw144_2), (hxB HB.out hw144_3), (hxB HB.out hw144_4), (hxB HB.out hw144_5), (hxB HB.out hw144_6)⟩ (fun hHeld => ?_); refine with_tabW laws_heldNodeS.tab7 laws_heldNodeS.bits7 (fun HT_ HW_ => ?_)
          generalize wr.drew = w20 at HB HR144_6 hx144_0 hx144_1 hx144_2 hx144_3 hx144_4 hx144_5 hx144_6 hHeld ⊢
          refine pt_ 0 21 ?_
          refine pt_ 1 22 ?_
          refine pt_ 2 23 ?_
          refine pt_ 3 24 ?_
          refine pt_ 5 26 ?_
          refine tt_ 4 25 ?_
          refine one_ (i := 6) (N := some 27) #[true, true, true, true, true, true, true, false] rfl rfl (one_of HT_.out (by kernel_rfl)) (by decide) (fun K hK => ?_)
          refine goes_ Try.func81 (by kernel_rfl) rfl #[.int .i64 (wrap64 (x1_1 + 1))] (by rfl) rfl rfl aL ?_
          with_reducible refine (laws_markText.calls k1 (wrap64 (x1_1 + 1)) t145 _ A6.out).mono ?_
          rintro e w21 ⟨rfl, hb⟩
          refine ⟨_, rfl, ?_⟩
          have n0_ := Aside0.mk (below_step bA hb)
          clear HB
          have HB := n0_
          clear n0_
          (try clear hb)
          (try clear hb2)
          (try clear hk)
          (try clear hi)
          refine hK.out _ _ ⟨(hxB HB.out hw144_0), (hxB HB.out hw144_1), (hxB HB.out hw144_2), (hxB HB.out hw144_3), (hxB HB.out hw144_4), (hxB HB.out hw144_5), (hxB HB.out hw144_6)⟩ (fun hHeld => ?_)
          clear hK K
          refine norm_ (a' := ?_) ?_ ?_
          rotate_left
          ·show Act.put _ (some 27) _ = _
           simp only [Act.put, List.setIfInBounds_toArray, List.set_cons_zero, List.set_cons_succ, i64_w, i32_w]
           rfl
          refine pt_ 7 28 ?_
          refine done_ (done_of HT_.out (by kernel_rfl)) ?_
          have p146 : 0 ≤ (x5_1 : Int) := of_decide_eq_true (by assumption)
          have q146 : x5_1 < (l0.length : Int) := of_decide_eq_true (by assumption)
          obtain ⟨ad146, A146_6, c146_6, e146, hx146_0, hx146_1, hx146_2, hx146_3, hx146_4, hx146_5, hx146_6, hl146_6, hi146_6⟩ := at_T33 HR0.out x5_1 p146 q146
          obtain rfl : ad143 = ad146 := (by injection e146)
          replace hx146_0 := hxB HB.out hx146_0
          replace hx146_1 := hxB HB.out hx146_1
          replace hx146_2 := hxB HB.out hx146_2
          replace hx146_3 := hxB HB.out hx146_3
          replace hx146_4 := hxB HB.out hx146_4
          replace hx146_5 := hxB HB.out hx146_5
          replace hx146_6 := hxB HB.out hx146_6
          have HR146_6 := Aside0.mk hi146_6
          have HC146_6 := Aside0.mk hl146_6
          clear hi146_6 hl146_6
          replace p146 := eq_true p146
          replace q146 := eq_true q146
          have p147 : 0 ≤ (x5_1 : Int) := of_decide_eq_true (by assumption)
          have q147 : x5_1 < (l0.length : Int) := of_decide_eq_true (by assumption)
          obtain ⟨ad147, A147_6, c147_6, e147, hx147_0, hx147_1, hx147_2, hx147_3, hx147_4, hx147_5, hx147_6, hl147_6, hi147_6⟩ := at_T33 HR0.out x5_1 p147 q147
          obtain rfl : ad143 = ad147 := (by injection e147)
          replace hx147_0 := hxB HB.out hx147_0
          replace hx147_1 := hxB HB.out hx147_1
          replace hx147_2 := hxB HB.out hx147_2
          replace hx147_3 := hxB HB.out hx147_3
          replace hx147_4 := hxB HB.out hx147_4
          replace hx147_5 := hxB HB.out hx147_5
          replace hx147_6 := hxB HB.out hx147_6
          have HR147_6 := Aside0.mk hi147_6
          have HC147_6 := Aside0.mk hl147_6
          clear hi147_6 hl147_6
          replace p147 := eq_true p147
          replace q147 := eq_true q147
          have ea_ := Option.some.inj (hx146_6.symm.trans hx147_6)
          injection ea_ with ea_ en_ ec_
          subst ea_
          subst ec_
          clear en_
          have p148 : 0 ≤ (x5_1 : Int) := of_decide_eq_true (by assumption)
          have q148 : x5_1 < (l0.length : Int) := of_decide_eq_true (by assumption)
          obtain ⟨ad148, A148_6, c148_6, e148, hx148_0, hx148_1, hx148_2, hx148_3, hx148_4, hx148_5, hx148_6, hl148_6, hi148_6⟩ := at_T33 HR0.out x5_1 p148 q148
          obtain rfl : ad143 = ad148 := (by injection e148)
          replace hx148_0 := hxB HB.out hx148_0
          replace hx148_1 := hxB HB.out hx148_1
          replace hx148_2 := hxB HB.out hx148_2
          replace hx148_3 := hxB HB.out hx148_3
          replace hx148_4 := hxB HB.out hx148_4
          replace hx148_5 := hxB HB.out hx148_5
          replace hx148_6 := hxB HB.out hx148_6
          have HR148_6 := Aside0.mk hi148_6
          have HC148_6 := Aside0.mk hl148_6
          clear hi148_6 hl148_6
          replace p148 := eq_true p148
          replace q148 := eq_true q148
          have ea_ := Option.some.inj (hx146_6.symm.trans hx148_6)
          injection ea_ with ea_ en_ ec_
          subst ea_
          subst ec_
          clear en_
          try go_wp2
          go_ret
          exact ⟨rE, bA⟩
        ·rw [if_neg c9] at H
         have c9b0 : (((rd_T33 l0 x5_1).f3) == (wrap64 ((wrap64 ((wrap64 (x1_1 + 1)) + 1)) + 1))) = false := beq_eq_false_iff_ne.mpr c9
         have c9b1 : (((rd_T33 l0 x5_1).f3) != (wrap64 ((wrap64 ((wrap64 (x1_1 + 1)) + 1)) + 1))) = true := bne_iff_ne.mpr c9
         obtain rfl := Option.some.inj H
         have p143 : 0 ≤ (x5_1 : Int) := of_decide_eq_true (by assumption)
         have q143 : x5_1 < (l0.length : Int) := of_decide_eq_true (by assumption)
         obtain ⟨ad143, A143_6, c143_6, e143, hx143_0, hx143_1, hx143_2, hx143_3, hx143_4, hx143_5, hx143_6, hl143_6, hi143_6⟩ := at_T33 HR0.out x5_1 p143 q143
         cases e143
         replace hx143_0 := hxB HB.out hx143_0
         replace hx143_1 := hxB HB.out hx143_1
         replace hx143_2 := hxB HB.out hx143_2
         replace hx143_3 := hxB HB.out hx143_3
         replace hx143_4 := hxB HB.out hx143_4
         replace hx143_5 := hxB HB.out hx143_5
         replace hx143_6 := hxB HB.out hx143_6
         have HR143_6 := Aside0.mk hi143_6
         have HC143_6 := Aside0.mk hl143_6
         clear hi143_6 hl143_6
         replace p143 := eq_true p143
         replace q143 := eq_true q143
         try go_wp2
         have n0_ := Aside0.mk (below_drew1 HB.out)
         clear HB
         have HB := n0_
         clear n0_
         have p144 : 0 ≤ (x5_1 : Int) := of_decide_eq_true (by assumption)
         have q144 : x5_1 < (l0.length : Int) := of_decide_eq_true (by assumption)
         obtain ⟨ad144, A144_6, c144_6, e144, hx144_0, hx144_1, hx144_2, hx144_3, hx144_4, hx144_5, hx144_6, hl144_6, hi144_6⟩ := at_T33 HR0.out x5_1 p144 q144
         have hw144_6 := hx144_6
         have hw144_5 := hx144_5
         have hw144_4 := hx144_4
         have hw144_3 := hx144_3
         have hw144_2 := hx144_2
         have hw144_1 := hx144_1
         have hw144_0 := hx144_0
         obtain rfl : ad143 = ad144 := (by injection e144)
         replace hx144_0 := hxB HB.out hx144_0
         replace hx144_1 := hxB HB.out hx144_1
         replace hx144_2 := hxB HB.out hx144_2
         replace hx144_3 := hxB HB.out hx144_3
         replace hx144_4 := hxB HB.out hx144_4
         replace hx144_5 := hxB HB.out hx144_5
         replace hx144_6 := hxB HB.out hx144_6
         have HR144_6 := Aside0.mk hi144_6
         have HC144_6 := Aside0.mk hl144_6
         clear hi144_6 hl144_6
         replace p144 := eq_true p144
         replace q144 := eq_true q144
         refine start_ (n := 8) (S := fun w' => w'.cell? (ad143.add ((x5_1).toNat * 7)) = some (.int .i64 ((rd_T33 l0 x5_1).f0)) ∧ w'.cell? ⟨(ad143.add ((x5_1).toNat * 7)).block, (ad143.add ((x5_1).toNat * 7)).off + 1, none⟩ = some (.string ((rd_T33 l0 x5_1).f1)) ∧ w'.cell? ⟨(ad143.add ((x5_1).toNat * 7)).block, (ad143.add ((x5_1).toNat * 7)).off + 2, none⟩ = some (.int .i64 ((rd_T33 l0 x5_1).f2)) ∧ w'.cell? ⟨(ad143.add ((x5_1).toNat * 7)).block, (ad143.add ((x5_1).toNat * 7)).off + 3, none⟩ = some (.int .i64 ((rd_T33 l0 x5_1).f3)) ∧ w'.cell? ⟨(ad143.add ((x5_1).toNat * 7)).block, (ad143.add ((x5_1).toNat * 7)).off + 4, none⟩ = some (.int .i64 ((rd_T33 l0 x5_1).f4)) ∧ w'.cell? ⟨(ad143.add ((x5_1).toNat * 7)).block, (ad143.add ((x5_1).toNat * 7)).off + 5, none⟩ = some (.bool ((rd_T33 l0 x5_1).f5)) ∧ w'.cell? ⟨(ad143.add ((x5_1).toNat * 7)).block, (ad143.add ((x5_1).toNat * 7)).off + 6, none⟩ = some (.slice A144_6 ((rd_T33 l0 x5_1).f6).length c144_6)) (ds := []) #[false, false, false, false, false, false, false, false] (by kernel_rfl) rfl rfl ⟨(hxB HB.out hw144_0), (hxB HB.out hw144_1), (hxB HB.out hw144_2), (hxB HB.out hw144_3), (hxB HB.out hw144_4), (hxB HB.out hw144_5), (hxB HB.out hw144_6)⟩ (fun hHeld => ?_); refine with_tabW laws_heldNodeS.tab7 laws_heldNodeS.bits7 (fun HT_ HW_ => ?_)
         generalize wr.drew = w22 at HB HR144_6 hx144_0 hx144_1 hx144_2 hx144_3 hx144_4 hx144_5 hx144_6 hHeld ⊢
         refine pt_ 0 21 ?_
         refine pt_ 1 22 ?_
         refine pt_ 2 23 ?_
         refine pt_ 3 24 ?_
         refine pt_ 5 26 ?_
         refine tt_ 4 25 ?_
         refine one_ (i := 6) (N := some 27) #[true, true, true, true, true, true, true, false] rfl rfl (one_of HT_.out (by kernel_rfl)) (by decide) (fun K hK => ?_)
         refine goes_ Try.func81 (by kernel_rfl) rfl #[.int .i64 (wrap64 (x1_1 + 1))] (by rfl) rfl rfl aL ?_
         with_reducible refine (laws_markText.calls k1 (wrap64 (x1_1 + 1)) t145 _ A6.out).mono ?_
         rintro e w23 ⟨rfl, hb⟩
         refine ⟨_, rfl, ?_⟩
         have n0_ := Aside0.mk (below_step bA hb)
         clear HB
         have HB := n0_
         clear n0_
         (try clear hb)
         (try clear hb2)
         (try clear hk)
         (try clear hi)
         refine hK.out _ _ ⟨(hxB HB.out hw144_0), (hxB HB.out hw144_1), (hxB HB.out hw144_2), (hxB HB.out hw144_3), (hxB HB.out hw144_4), (hxB HB.out hw144_5), (hxB HB.out hw144_6)⟩ (fun hHeld => ?_)
         clear hK K
         refine norm_ (a' := ?_) ?_ ?_
         rotate_left
         ·show Act.put _ (some 27) _ = _
          simp only [Act.put, List.setIfInBounds_toArray, List.set_cons_zero, List.set_cons_succ, i64_w, i32_w]
          rfl
         refine pt_ 7 28 ?_
         refine done_ (done_of HT_.out (by kernel_rfl)) ?_
         have p146 : 0 ≤ (x5_1 : Int) := of_decide_eq_true (by assumption)
         have q146 : x5_1 < (l0.length : Int) := of_decide_eq_true (by assumption)
         obtain ⟨ad146, A146_6, c146_6, e146, hx146_0, hx146_1, hx146_2, hx146_3, hx146_4, hx146_5, hx146_6, hl146_6, hi146_6⟩ := at_T33 HR0.out x5_1 p146 q146
         obtain rfl : ad143 = ad146 := (by injection e146)
         replace hx146_0 := hxB HB.out hx146_0
         replace hx146_1 := hxB HB.out hx146_1
         replace hx146_2 := hxB HB.out hx146_2
         replace hx146_3 := hxB HB.out hx146_3
         replace hx146_4 := hxB HB.out hx146_4
         replace hx146_5 := hxB HB.out hx146_5
         replace hx146_6 := hxB HB.out hx146_6
         have HR146_6 := Aside0.mk hi146_6
         have HC146_6 := Aside0.mk hl146_6
         clear hi146_6 hl146_6
         replace p146 := eq_true p146
         replace q146 := eq_true q146
         have p147 : 0 ≤ (x5_1 : Int) := of_decide_eq_true (by assumption)
         have q147 : x5_1 < (l0.length : Int) := of_decide_eq_true (by assumption)
         obtain ⟨ad147, A147_6, c147_6, e147, hx147_0, hx147_1, hx147_2, hx147_3, hx147_4, hx147_5, hx147_6, hl147_6, hi147_6⟩ := at_T33 HR0.out x5_1 p147 q147
         obtain rfl : ad143 = ad147 := (by injection e147)
         replace hx147_0 := hxB HB.out hx147_0
         replace hx147_1 := hxB HB.out hx147_1
         replace hx147_2 := hxB HB.out hx147_2
         replace hx147_3 := hxB HB.out hx147_3
         replace hx147_4 := hxB HB.out hx147_4
         replace hx147_5 := hxB HB.out hx147_5
         replace hx147_6 := hxB HB.out hx147_6
         have HR147_6 := Aside0.mk hi147_6
         have HC147_6 := Aside0.mk hl147_6
         clear hi147_6 hl147_6
         replace p147 := eq_true p147
         replace q147 := eq_true q147
         have ea_ := Option.some.inj (hx146_6.symm.trans hx147_6)
         injection ea_ with ea_ en_ ec_
         subst ea_
         subst ec_
         clear en_
         try go_wp2
         go_ret
         exact ⟨rE, bA⟩
       ·rw [if_neg c8] at H
        have c8b0 : (((rd_T33 l0 x5_1).f2) == (wrap64 ((wrap64 (x1_1 + 1)) + 1))) = false := beq_eq_false_iff_ne.mpr c8
        have c8b1 : (((rd_T33 l0 x5_1).f2) != (wrap64 ((wrap64 (x1_1 + 1)) + 1))) = true := bne_iff_ne.mpr c8
        obtain rfl := Option.some.inj H
        have p143 : 0 ≤ (x5_1 : Int) := of_decide_eq_true (by assumption)
        have q143 : x5_1 < (l0.length : Int) := of_decide_eq_true (by assumption)
        obtain ⟨ad143, A143_6, c143_6, e143, hx143_0, hx143_1, hx143_2, hx143_3, hx143_4, hx143_5, hx143_6, hl143_6, hi143_6⟩ := at_T33 HR0.out x5_1 p143 q143
        cases e143
        replace hx143_0 := hxB HB.out hx143_0
        replace hx143_1 := hxB HB.out hx143_1
        replace hx143_2 := hxB HB.out hx143_2
        replace hx143_3 := hxB HB.out hx143_3
        replace hx143_4 := hxB HB.out hx143_4
        replace hx143_5 := hxB HB.out hx143_5
        replace hx143_6 := hxB HB.out hx143_6
        have HR143_6 := Aside0.mk hi143_6
        have HC143_6 := Aside0.mk hl143_6
        clear hi143_6 hl143_6
        replace p143 := eq_true p143
        replace q143 := eq_true q143
        try go_wp2
        have n0_ := Aside0.mk (below_drew1 HB.out)
        clear HB
        have HB := n0_
        clear n0_
        have p144 : 0 ≤ (x5_1 : Int) := of_decide_eq_true (by assumption)
        have q144 : x5_1 < (l0.length : Int) := of_decide_eq_true (by assumption)
        obtain ⟨ad144, A144_6, c144_6, e144, hx144_0, hx144_1, hx144_2, hx144_3, hx144_4, hx144_5, hx144_6, hl144_6, hi144_6⟩ := at_T33 HR0.out x5_1 p144 q144
        have hw144_6 := hx144_6
        have hw144_5 := hx144_5
        have hw144_4 := hx144_4
        have hw144_3 := hx144_3
        have hw144_2 := hx144_2
        have hw144_1 := hx144_1
        have hw144_0 := hx144_0
        obtain rfl : ad143 = ad144 := (by injection e144)
        replace hx144_0 := hxB HB.out hx144_0
        replace hx144_1 := hxB HB.out hx144_1
        replace hx144_2 := hxB HB.out hx144_2
        replace hx144_3 := hxB HB.out hx144_3
        replace hx144_4 := hxB HB.out hx144_4
        replace hx144_5 := hxB HB.out hx144_5
        replace hx144_6 := hxB HB.out hx144_6
        have HR144_6 := Aside0.mk hi144_6
        have HC144_6 := Aside0.mk hl144_6
        clear hi144_6 hl144_6
        replace p144 := eq_true p144
        replace q144 := eq_true q144
        refine start_ (n := 8) (S := fun w' => w'.cell? (ad143.add ((x5_1).toNat * 7)) = some (.int .i64 ((rd_T33 l0 x5_1).f0)) ∧ w'.cell? ⟨(ad143.add ((x5_1).toNat * 7)).block, (ad143.add ((x5_1).toNat * 7)).off + 1, none⟩ = some (.string ((rd_T33 l0 x5_1).f1)) ∧ w'.cell? ⟨(ad143.add ((x5_1).toNat * 7)).block, (ad143.add ((x5_1).toNat * 7)).off + 2, none⟩ = some (.int .i64 ((rd_T33 l0 x5_1).f2)) ∧ w'.cell? ⟨(ad143.add ((x5_1).toNat * 7)).block, (ad143.add ((x5_1).toNat * 7)).off + 3, none⟩ = some (.int .i64 ((rd_T33 l0 x5_1).f3)) ∧ w'.cell? ⟨(ad143.add ((x5_1).toNat * 7)).block, (ad143.add ((x5_1).toNat * 7)).off + 4, none⟩ = some (.int .i64 ((rd_T33 l0 x5_1).f4)) ∧ w'.cell? ⟨(ad143.add ((x5_1).toNat * 7)).block, (ad143.add ((x5_1).toNat * 7)).off + 5, none⟩ = some (.bool ((rd_T33 l0 x5_1).f5)) ∧ w'.cell? ⟨(ad143.add ((x5_1).toNat * 7)).block, (ad143.add ((x5_1).toNat * 7)).off + 6, none⟩ = some (.slice A144_6 ((rd_T33 l0 x5_1).f6).length c144_6)) (ds := []) #[false, false, false, false, false, false, false, false] (by kernel_rfl) rfl rfl ⟨(hxB HB.out hw144_0), (hxB HB.out hw144_1), (hxB HB.out hw144_2), (hxB HB.out hw144_3), (hxB HB.out hw144_4), (hxB HB.out hw144_5), (hxB HB.out hw144_6)⟩ (fun hHeld => ?_); refine with_tabW laws_heldNodeS.tab7 laws_heldNodeS.bits7 (fun HT_ HW_ => ?_)
        generalize wr.drew = w24 at HB HR144_6 hx144_0 hx144_1 hx144_2 hx144_3 hx144_4 hx144_5 hx144_6 hHeld ⊢
        refine pt_ 0 21 ?_
        refine pt_ 1 22 ?_
        refine pt_ 2 23 ?_
        refine pt_ 3 24 ?_
        refine pt_ 5 26 ?_
        refine tt_ 4 25 ?_
        refine one_ (i := 6) (N := some 27) #[true, true, true, true, true, true, true, false] rfl rfl (one_of HT_.out (by kernel_rfl)) (by decide) (fun K hK => ?_)
        refine goes_ Try.func81 (by kernel_rfl) rfl #[.int .i64 (wrap64 (x1_1 + 1))] (by rfl) rfl rfl aL ?_
        with_reducible refine (laws_markText.calls k1 (wrap64 (x1_1 + 1)) t145 _ A6.out).mono ?_
        rintro e w25 ⟨rfl, hb⟩
        refine ⟨_, rfl, ?_⟩
        have n0_ := Aside0.mk (below_step bA hb)
        clear HB
        have HB := n0_
        clear n0_
        (try clear hb)
        (try clear hb2)
        (try clear hk)
        (try clear hi)
        refine hK.out _ _ ⟨(hxB HB.out hw144_0), (hxB HB.out hw144_1), (hxB HB.out hw144_2), (hxB HB.out hw144_3), (hxB HB.out hw144_4), (hxB HB.out hw144_5), (hxB HB.out hw144_6)⟩ (fun hHeld => ?_)
        clear hK K
        refine norm_ (a' := ?_) ?_ ?_
        rotate_left
        ·show Act.put _ (some 27) _ = _
         simp only [Act.put, List.setIfInBounds_toArray, List.set_cons_zero, List.set_cons_succ, i64_w, i32_w]
         rfl
        refine pt_ 7 28 ?_
        refine done_ (done_of HT_.out (by kernel_rfl)) ?_
        have p146 : 0 ≤ (x5_1 : Int) := of_decide_eq_true (by assumption)
        have q146 : x5_1 < (l0.length : Int) := of_decide_eq_true (by assumption)
        obtain ⟨ad146, A146_6, c146_6, e146, hx146_0, hx146_1, hx146_2, hx146_3, hx146_4, hx146_5, hx146_6, hl146_6, hi146_6⟩ := at_T33 HR0.out x5_1 p146 q146
        obtain rfl : ad143 = ad146 := (by injection e146)
        replace hx146_0 := hxB HB.out hx146_0
        replace hx146_1 := hxB HB.out hx146_1
        replace hx146_2 := hxB HB.out hx146_2
        replace hx146_3 := hxB HB.out hx146_3
        replace hx146_4 := hxB HB.out hx146_4
        replace hx146_5 := hxB HB.out hx146_5
        replace hx146_6 := hxB HB.out hx146_6
        have HR146_6 := Aside0.mk hi146_6
        have HC146_6 := Aside0.mk hl146_6
        clear hi146_6 hl146_6
        replace p146 := eq_true p146
        replace q146 := eq_true q146
        try go_wp2
        go_ret
        exact ⟨rE, bA⟩
      ·rw [if_neg c7] at H
       have c7b0 : (((rd_T33 l0 x5_1).f1).toList == t145.toList) = false := beq_eq_false_iff_ne.mpr c7
       have c7b1 : (((rd_T33 l0 x5_1).f1).toList != t145.toList) = true := bne_iff_ne.mpr c7
       obtain rfl := Option.some.inj H
       have p143 : 0 ≤ (x5_1 : Int) := of_decide_eq_true (by assumption)
       have q143 : x5_1 < (l0.length : Int) := of_decide_eq_true (by assumption)
       obtain ⟨ad143, A143_6, c143_6, e143, hx143_0, hx143_1, hx143_2, hx143_3, hx143_4, hx143_5, hx143_6, hl143_6, hi143_6⟩ := at_T33 HR0.out x5_1 p143 q143
       cases e143
       replace hx143_0 := hxB HB.out hx143_0
       replace hx143_1 := hxB HB.out hx143_1
       replace hx143_2 := hxB HB.out hx143_2
       replace hx143_3 := hxB HB.out hx143_3
       replace hx143_4 := hxB HB.out hx143_4
       replace hx143_5 := hxB HB.out hx143_5
       replace hx143_6 := hxB HB.out hx143_6
       have HR143_6 := Aside0.mk hi143_6
       have HC143_6 := Aside0.mk hl143_6
       clear hi143_6 hl143_6
       replace p143 := eq_true p143
       replace q143 := eq_true q143
       try go_wp2
       have n0_ := Aside0.mk (below_drew1 HB.out)
       clear HB
       have HB := n0_
       clear n0_
       have p144 : 0 ≤ (x5_1 : Int) := of_decide_eq_true (by assumption)
       have q144 : x5_1 < (l0.length : Int) := of_decide_eq_true (by assumption)
       obtain ⟨ad144, A144_6, c144_6, e144, hx144_0, hx144_1, hx144_2, hx144_3, hx144_4, hx144_5, hx144_6, hl144_6, hi144_6⟩ := at_T33 HR0.out x5_1 p144 q144
       have hw144_6 := hx144_6
       have hw144_5 := hx144_5
       have hw144_4 := hx144_4
       have hw144_3 := hx144_3
       have hw144_2 := hx144_2
       have hw144_1 := hx144_1
       have hw144_0 := hx144_0
       obtain rfl : ad143 = ad144 := (by injection e144)
       replace hx144_0 := hxB HB.out hx144_0
       replace hx144_1 := hxB HB.out hx144_1
       replace hx144_2 := hxB HB.out hx144_2
       replace hx144_3 := hxB HB.out hx144_3
       replace hx144_4 := hxB HB.out hx144_4
       replace hx144_5 := hxB HB.out hx144_5
       replace hx144_6 := hxB HB.out hx144_6
       have HR144_6 := Aside0.mk hi144_6
       have HC144_6 := Aside0.mk hl144_6
       clear hi144_6 hl144_6
       replace p144 := eq_true p144
       replace q144 := eq_true q144
       refine start_ (n := 8) (S := fun w' => w'.cell? (ad143.add ((x5_1).toNat * 7)) = some (.int .i64 ((rd_T33 l0 x5_1).f0)) ∧ w'.cell? ⟨(ad143.add ((x5_1).toNat * 7)).block, (ad143.add ((x5_1).toNat * 7)).off + 1, none⟩ = some (.string ((rd_T33 l0 x5_1).f1)) ∧ w'.cell? ⟨(ad143.add ((x5_1).toNat * 7)).block, (ad143.add ((x5_1).toNat * 7)).off + 2, none⟩ = some (.int .i64 ((rd_T33 l0 x5_1).f2)) ∧ w'.cell? ⟨(ad143.add ((x5_1).toNat * 7)).block, (ad143.add ((x5_1).toNat * 7)).off + 3, none⟩ = some (.int .i64 ((rd_T33 l0 x5_1).f3)) ∧ w'.cell? ⟨(ad143.add ((x5_1).toNat * 7)).block, (ad143.add ((x5_1).toNat * 7)).off + 4, none⟩ = some (.int .i64 ((rd_T33 l0 x5_1).f4)) ∧ w'.cell? ⟨(ad143.add ((x5_1).toNat * 7)).block, (ad143.add ((x5_1).toNat * 7)).off + 5, none⟩ = some (.bool ((rd_T33 l0 x5_1).f5)) ∧ w'.cell? ⟨(ad143.add ((x5_1).toNat * 7)).block, (ad143.add ((x5_1).toNat * 7)).off + 6, none⟩ = some (.slice A144_6 ((rd_T33 l0 x5_1).f6).length c144_6)) (ds := []) #[false, false, false, false, false, false, false, false] (by kernel_rfl) rfl rfl ⟨(hxB HB.out hw144_0), (hxB HB.out hw144_1), (hxB HB.out hw144_2), (hxB HB.out hw144_3), (hxB HB.out hw144_4), (hxB HB.out hw144_5), (hxB HB.out hw144_6)⟩ (fun hHeld => ?_); refine with_tabW laws_heldNodeS.tab7 laws_heldNodeS.bits7 (fun HT_ HW_ => ?_)
       generalize wr.drew = w26 at HB HR144_6 hx144_0 hx144_1 hx144_2 hx144_3 hx144_4 hx144_5 hx144_6 hHeld ⊢
       refine pt_ 0 21 ?_
       refine pt_ 1 22 ?_
       refine pt_ 2 23 ?_
       refine pt_ 3 24 ?_
       refine pt_ 5 26 ?_
       refine tt_ 4 25 ?_
       refine one_ (i := 6) (N := some 27) #[true, true, true, true, true, true, true, false] rfl rfl (one_of HT_.out (by kernel_rfl)) (by decide) (fun K hK => ?_)
       refine goes_ Try.func81 (by kernel_rfl) rfl #[.int .i64 (wrap64 (x1_1 + 1))] (by rfl) rfl rfl aL ?_
       with_reducible refine (laws_markText.calls k1 (wrap64 (x1_1 + 1)) t145 _ A6.out).mono ?_
       rintro e w27 ⟨rfl, hb⟩
       refine ⟨_, rfl, ?_⟩
       have n0_ := Aside0.mk (below_step bA hb)
       clear HB
       have HB := n0_
       clear n0_
       (try clear hb)
       (try clear hb2)
       (try clear hk)
       (try clear hi)
       refine hK.out _ _ ⟨(hxB HB.out hw144_0), (hxB HB.out hw144_1), (hxB HB.out hw144_2), (hxB HB.out hw144_3), (hxB HB.out hw144_4), (hxB HB.out hw144_5), (hxB HB.out hw144_6)⟩ (fun hHeld => ?_)
       clear hK K
       refine norm_ (a' := ?_) ?_ ?_
       rotate_left
       ·show Act.put _ (some 27) _ = _
        simp only [Act.put, List.setIfInBounds_toArray, List.set_cons_zero, List.set_cons_succ, i64_w, i32_w]
        rfl
       refine pt_ 7 28 ?_
       refine done_ (done_of HT_.out (by kernel_rfl)) ?_
       try go_wp2
       go_ret
       exact ⟨rE, bA⟩
     ·rw [if_neg c5] at H
      have c5b0 : (((rd_T33 l0 x5_1).f0) == x1_1) = false := beq_eq_false_iff_ne.mpr c5
      have c5b1 : (((rd_T33 l0 x5_1).f0) != x1_1) = true := bne_iff_ne.mpr c5
      obtain rfl := Option.some.inj H
      have p143 : 0 ≤ (x5_1 : Int) := of_decide_eq_true (by assumption)
      have q143 : x5_1 < (l0.length : Int) := of_decide_eq_true (by assumption)
      obtain ⟨ad143, A143_6, c143_6, e143, hx143_0, hx143_1, hx143_2, hx143_3, hx143_4, hx143_5, hx143_6, hl143_6, hi143_6⟩ := at_T33 HR0.out x5_1 p143 q143
      cases e143
      replace hx143_0 := hxB HB.out hx143_0
      replace hx143_1 := hxB HB.out hx143_1
      replace hx143_2 := hxB HB.out hx143_2
      replace hx143_3 := hxB HB.out hx143_3
      replace hx143_4 := hxB HB.out hx143_4
      replace hx143_5 := hxB HB.out hx143_5
      replace hx143_6 := hxB HB.out hx143_6
      have HR143_6 := Aside0.mk hi143_6
      have HC143_6 := Aside0.mk hl143_6
      clear hi143_6 hl143_6
      replace p143 := eq_true p143
      replace q143 := eq_true q143
      go_wp2
      go_ret
      exact ⟨rE, bA⟩
    ·rw [if_neg c4] at H
     exact absurd H (by simp)
   ·rw [if_neg c3] at H
    have c3b0 : decide (x5_1 < (l0.length : Int)) = false := decide_eq_false c3
    clear c3
    obtain rfl := Option.some.inj H
    go_wp2
    go_ret
    exact ⟨rE, bA⟩

end Go.Proofs.Ytmjfnkebpdmhbaa.Q
