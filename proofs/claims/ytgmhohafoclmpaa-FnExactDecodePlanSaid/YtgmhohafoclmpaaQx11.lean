/- The machine side of a law, written by a program of this session over the translation: for each Go function a Lean function with the same answers, and the proof that the Go code comes to them. -/
import Derived.Test.YtgmhohafoclmpaaQx0
import Derived.Test.YtgmhohafoclmpaaQx8
namespace Go.Proofs.Ytgmhohafoclmpaa.Q
open Go.RowKit Go.Proofs.Ytgmhohafoclmpaa.Own Go.Proofs.YtgmhohafoclmpaaW.PrintWords Go.Proofs.YtgmhohafoclmpaaW.PrintLast Go.Proofs.YtgmhohafoclmpaaW.PrintMore
attribute [local go_sem] max2_int min2_int max_two min_two max_three min_three max_four min_four   -- for this text's walks alone
set_option linter.unusedVariables false
set_option linter.unusedSimpArgs false

/-! ### laws_heldNodeS: function 29 -/
def laws_heldNodeS.l0 : Nat → List (S62) → Int → Int → Option (Int)
 | 0, _, _, _ => none
 | k + 1, x0, x1, x5 => if x5 < (x0.length : Int) then (if 0 ≤ x5 then (if ((rd_T62 x0 x5).f0) = x1 then ((laws_markText.f k (wrap64 (x1 + 1))).bind fun t366 => (if ((rd_T62 x0 x5).f1).toList = t366.toList then (if ((rd_T62 x0 x5).f2) = (wrap64 ((wrap64 (x1 + 1)) + 1)) then (if ((rd_T62 x0 x5).f3) = (wrap64 ((wrap64 ((wrap64 (x1 + 1)) + 1)) + 1)) then (if ((rd_T62 x0 x5).f4) = (wrap64 ((wrap64 ((wrap64 ((wrap64 (x1 + 1)) + 1)) + 1)) + 1)) then (if (((rd_T62 x0 x5).f5) != ((Int.tmod (wrap64 ((wrap64 ((wrap64 ((wrap64 ((wrap64 (x1 + 1)) + 1)) + 1)) + 1)) + 1)) 3) == 0)) = true then (some (-1)) else ((laws_heldIntS.f k ((rd_T62 x0 x5).f6) (wrap64 ((wrap64 ((wrap64 ((wrap64 ((wrap64 ((wrap64 (x1 + 1)) + 1)) + 1)) + 1)) + 1)) + 1))).bind fun t372 => (if t372 < 0 then (some (-1)) else (laws_heldNodeS.l0 k x0 t372 (wrap64 (x5 + 1)))))) else (some (-1))) else (some (-1))) else (some (-1))) else (some (-1)))) else (some (-1))) else (none)) else (some x1)
def laws_heldNodeS.f (k : Nat) (l0 : List (S62)) (a1 : Int) : Option (Int) := laws_heldNodeS.l0 k l0 a1 0
theorem laws_heldNodeS.mono_l : ∀ k, (∀ y0 y1 y2, LeO (laws_heldNodeS.l0 k y0 y1 y2) (laws_heldNodeS.l0 (k + 1) y0 y1 y2))
 | 0 => fun _ _ _ r h => by simp [laws_heldNodeS.l0] at h
 | k + 1 => by
  have ih0 := laws_heldNodeS.mono_l k
  ·intro y0 y1 y2
   unfold laws_heldNodeS.l0
   repeat' first
   | (with_reducible exact ih0 _ _ _)
   | (with_reducible exact laws_heldIntS.mono _ _ _)
   | (with_reducible exact laws_markText.mono _ _)
   | (with_reducible exact LeO.refl _)
   | (with_reducible exact LeO.none _)
   | (with_reducible refine LeO.ite ?_ ?_)
   | (with_reducible refine LeO.bind ?_ (fun _ => ?_))
   | exact ih0 _ _ _
   | exact laws_heldIntS.mono _ _ _
   | exact laws_markText.mono _ _
   | exact LeO.none _
   | refine LeO.ite ?_ ?_
   | refine LeO.bind ?_ (fun _ => ?_)
theorem laws_heldNodeS.mono : ∀ a0 a1 k, LeO (laws_heldNodeS.f k a0 a1) (laws_heldNodeS.f (k + 1) a0 a1) := by
 intro a0 a1 k
 have ih0 := laws_heldNodeS.mono_l k
 unfold laws_heldNodeS.f
 repeat' first
   | (with_reducible exact ih0 _ _ _)
   | (with_reducible exact laws_heldIntS.mono _ _ _)
   | (with_reducible exact laws_markText.mono _ _)
   | (with_reducible exact LeO.refl _)
   | (with_reducible exact LeO.none _)
   | (with_reducible refine LeO.ite ?_ ?_)
   | (with_reducible refine LeO.bind ?_ (fun _ => ?_))
   | exact ih0 _ _ _
   | exact laws_heldIntS.mono _ _ _
   | exact laws_markText.mono _ _
   | exact LeO.none _
   | refine LeO.ite ?_ ?_
   | refine LeO.bind ?_ (fun _ => ?_)
def laws_heldNodeS.T7 : Bool × List (List Nat × List Nat) := (true, [([], []), ([], []), ([0, 1], [0, 1]), ([2], [2]), ([3], [3]), ([], []), ([5], [5]), ([4, 6], [4, 6])])
def laws_heldNodeS.B7 : List Nat := [0, 0, 3, 7, 15, 0, 32, 127]
theorem laws_heldNodeS.tab7 : rtab .any (opsOf Try.f29 7) = laws_heldNodeS.T7 := by kernel_rfl
theorem laws_heldNodeS.bits7 : waitsOk laws_heldNodeS.T7.2 laws_heldNodeS.B7 = true := by kernel_rfl
set_option maxHeartbeats 8000000 in
set_option maxRecDepth 100000 in
theorem laws_heldNodeS.calls (k : Nat) (A0 : Option Addr) (c0 : Nat) (l0 : List (S62)) (a1 : Int) (r : Int) (w : World) (hr0 : Kd.C k62 w A0 l0.length l0) (hc0 : l0.length ≤ c0) (h : laws_heldNodeS.f k l0 a1 = some r) :
  Calls Try.prog 29 #[.slice A0 l0.length c0, .int .i64 a1] w fun e w' => e = .returned (.int .i64 r) ∧ Below w.heap.size w w' := by
 have HR0 := Aside0.mk hr0
 have HC0 := Aside0.mk hc0
 clear hr0 hc0
 have HB := Aside0.mk (Below.refl w.heap.size w)
 have H : (laws_heldNodeS.l0 k l0 a1 0) = some r := h
 clear h
 have H' := Aside0.mk H
 clear H
 go_enter Try.func29, Try.ntmps29
 go_wp2
 go_loopg [1, 5] k (fun kq v1 v5 w' => ∃ (x1_1 : Int) (x5_1 : Int), v1 = .int .i64 x1_1 ∧ v5 = .int .i64 x5_1 ∧ Aside0 (laws_heldNodeS.l0 kq l0 x1_1 x5_1 = some r) ∧ Aside0 (kq ≤ k) ∧ Aside0 (Below w.heap.size w w'))
 case atStart => exact ⟨(a1), (0), rF, rF, H', ⟨Nat.le_refl _⟩, ⟨bA⟩⟩
 case round =>
  clear H'
  try clear c2
  try clear p2
  obtain ⟨x1_1, x5_1, rfl, rfl, HA, HK1, HB⟩ := hrel
  cases gk with
  | zero => exact absurd HA.out (by simp [laws_heldNodeS.l0])
  | succ k1 =>
   have H := HA.out
   clear HA
   simp only [laws_heldNodeS.l0] at H
   by_cases c3 : x5_1 < (l0.length : Int)
   ·rw [if_pos c3] at H
    have c3b0 : decide (x5_1 < (l0.length : Int)) = true := decide_eq_true c3
    clear c3
    by_cases c4 : 0 ≤ x5_1
    ·rw [if_pos c4] at H
     have c4b0 : decide (0 ≤ x5_1) = true := decide_eq_true c4
     clear c4
     by_cases c5 : ((rd_T62 l0 x5_1).f0) = x1_1
     ·rw [if_pos c5] at H
      have c5b0 : (((rd_T62 l0 x5_1).f0) == x1_1) = true := beq_iff_eq.mpr c5
      have c5b1 : (((rd_T62 l0 x5_1).f0) != x1_1) = false := bne_eq_false_iff_eq.mpr c5
      clear c5
      replace H := Option.bind_eq_some_iff.mp H
      obtain ⟨t366, A60, H⟩ := H
      replace H : (if ((rd_T62 l0 x5_1).f1).toList = t366.toList then (if ((rd_T62 l0 x5_1).f2) = (wrap64 ((wrap64 (x1_1 + 1)) + 1)) then (if ((rd_T62 l0 x5_1).f3) = (wrap64 ((wrap64 ((wrap64 (x1_1 + 1)) + 1)) + 1)) then (if ((rd_T62 l0 x5_1).f4) = (wrap64 ((wrap64 ((wrap64 ((wrap64 (x1_1 + 1)) + 1)) + 1)) + 1)) then (if (((rd_T62 l0 x5_1).f5) != ((Int.tmod (wrap64 ((wrap64 ((wrap64 ((wrap64 ((wrap64 (x1_1 + 1)) + 1)) + 1)) + 1)) + 1)) 3) == 0)) = true then (some (-1)) else ((laws_heldIntS.f k1 ((rd_T62 l0 x5_1).f6) (wrap64 ((wrap64 ((wrap64 ((wrap64 ((wrap64 ((wrap64 (x1_1 + 1)) + 1)) + 1)) + 1)) + 1)) + 1))).bind fun t372 => (if t372 < 0 then (some (-1)) else (laws_heldNodeS.l0 k1 l0 t372 (wrap64 (x5_1 + 1)))))) else (some (-1))) else (some (-1))) else (some (-1))) else (some (-1))) = some r := H
      have A6 := Aside0.mk A60
      clear A60
      by_cases c7 : ((rd_T62 l0 x5_1).f1).toList = t366.toList
      ·rw [if_pos c7] at H
       have c7b0 : (((rd_T62 l0 x5_1).f1).toList == t366.toList) = true := beq_iff_eq.mpr c7
       have c7b1 : (((rd_T62 l0 x5_1).f1).toList != t366.toList) = false := bne_eq_false_iff_eq.mpr c7
       clear c7
       by_cases c8 : ((rd_T62 l0 x5_1).f2) = (wrap64 ((wrap64 (x1_1 + 1)) + 1))
       ·rw [if_pos c8] at H
        have c8b0 : (((rd_T62 l0 x5_1).f2) == (wrap64 ((wrap64 (x1_1 + 1)) + 1))) = true := beq_iff_eq.mpr c8
        have c8b1 : (((rd_T62 l0 x5_1).f2) != (wrap64 ((wrap64 (x1_1 + 1)) + 1))) = false := bne_eq_false_iff_eq.mpr c8
        clear c8
        by_cases c9 : ((rd_T62 l0 x5_1).f3) = (wrap64 ((wrap64 ((wrap64 (x1_1 + 1)) + 1)) + 1))
        ·rw [if_pos c9] at H
         have c9b0 : (((rd_T62 l0 x5_1).f3) == (wrap64 ((wrap64 ((wrap64 (x1_1 + 1)) + 1)) + 1))) = true := beq_iff_eq.mpr c9
         have c9b1 : (((rd_T62 l0 x5_1).f3) != (wrap64 ((wrap64 ((wrap64 (x1_1 + 1)) + 1)) + 1))) = false := bne_eq_false_iff_eq.mpr c9
         clear c9
         by_cases c10 : ((rd_T62 l0 x5_1).f4) = (wrap64 ((wrap64 ((wrap64 ((wrap64 (x1_1 + 1)) + 1)) + 1)) + 1))
         ·rw [if_pos c10] at H
          have c10b0 : (((rd_T62 l0 x5_1).f4) == (wrap64 ((wrap64 ((wrap64 ((wrap64 (x1_1 + 1)) + 1)) + 1)) + 1))) = true := beq_iff_eq.mpr c10
          have c10b1 : (((rd_T62 l0 x5_1).f4) != (wrap64 ((wrap64 ((wrap64 ((wrap64 (x1_1 + 1)) + 1)) + 1)) + 1))) = false := bne_eq_false_iff_eq.mpr c10
          clear c10
          by_cases c11 : (((rd_T62 l0 x5_1).f5) != ((Int.tmod (wrap64 ((wrap64 ((wrap64 ((wrap64 ((wrap64 (x1_1 + 1)) + 1)) + 1)) + 1)) + 1)) 3) == 0)) = true
          ·rw [if_pos c11] at H
           have c11b0 : (((rd_T62 l0 x5_1).f5) != ((Int.tmod (wrap64 ((wrap64 ((wrap64 ((wrap64 ((wrap64 (x1_1 + 1)) + 1)) + 1)) + 1)) + 1)) 3) == 0)) = true := c11
           (try (have c11b1 : decide (((rd_T62 l0 x5_1).f5) = ((Int.tmod (wrap64 ((wrap64 ((wrap64 ((wrap64 ((wrap64 (x1_1 + 1)) + 1)) + 1)) + 1)) + 1)) 3) == 0)) = false := by simpa using c11))
           (try (have c11b2 : (((rd_T62 l0 x5_1).f5) == ((Int.tmod (wrap64 ((wrap64 ((wrap64 ((wrap64 ((wrap64 (x1_1 + 1)) + 1)) + 1)) + 1)) + 1)) 3) == 0)) = false := by simpa using c11))
           (try (have c11b3 : ¬ (((rd_T62 l0 x5_1).f5) = ((Int.tmod (wrap64 ((wrap64 ((wrap64 ((wrap64 ((wrap64 (x1_1 + 1)) + 1)) + 1)) + 1)) + 1)) 3) == 0)) := by simpa using c11))
           clear c11
           obtain rfl := Option.some.inj H
           have p364 : 0 ≤ (x5_1 : Int) := of_decide_eq_true (by assumption)
           have q364 : x5_1 < (l0.length : Int) := of_decide_eq_true (by assumption)
           obtain ⟨ad364, A364_6, c364_6, e364, hx364_0, hx364_1, hx364_2, hx364_3, hx364_4, hx364_5, hx364_6, hl364_6, hi364_6⟩ := at_T62 HR0.out x5_1 p364 q364
           cases e364
           replace hx364_0 := hxB HB.out hx364_0
           replace hx364_1 := hxB HB.out hx364_1
           replace hx364_2 := hxB HB.out hx364_2
           replace hx364_3 := hxB HB.out hx364_3
           replace hx364_4 := hxB HB.out hx364_4
           replace hx364_5 := hxB HB.out hx364_5
           replace hx364_6 := hxB HB.out hx364_6
           have HR364_6 := Aside0.mk hi364_6
           have HC364_6 := Aside0.mk hl364_6
           clear hi364_6 hl364_6
           replace p364 := eq_true p364
           replace q364 := eq_true q364
           try go_wp2
           have n0_ := Aside0.mk (below_drew1 HB.out)
           clear HB
           have HB := n0_
           clear n0_
           have p365 : 0 ≤ (x5_1 : Int) := of_decide_eq_true (by assumption)
           have q365 : x5_1 < (l0.length : Int) := of_decide_eq_true (by assumption)
           obtain ⟨ad365, A365_6, c365_6, e365, hx365_0, hx365_1, hx365_2, hx365_3, hx365_4, hx365_5, hx365_6, hl365_6, hi365_6⟩ := at_T62 HR0.out x5_1 p365 q365
           have hw365_6 := hx365_6
           have hw365_5 := hx365_5
           have hw365_4 := hx365_4
           have hw365_3 := hx365_3
           have hw365_2 := hx365_2
           have hw365_1 := hx365_1
           have hw365_0 := hx365_0
           obtain rfl : ad364 = ad365 := (by injection e365)
           replace hx365_0 := hxB HB.out hx365_0
           replace hx365_1 := hxB HB.out hx365_1
           replace hx365_2 := hxB HB.out hx365_2
           replace hx365_3 := hxB HB.out hx365_3
           replace hx365_4 := hxB HB.out hx365_4
           replace hx365_5 := hxB HB.out hx365_5
           replace hx365_6 := hxB HB.out hx365_6
           have HR365_6 := Aside0.mk hi365_6
           have HC365_6 := Aside0.mk hl365_6
           clear hi365_6 hl365_6
           replace p365 := eq_true p365
           replace q365 := eq_true q365
           refine start_ (n := 8) (S := fun w' => w'.cell? (ad364.add ((x5_1).toNat * 7)) = some (.int .i64 ((rd_T62 l0 x5_1).f0)) ∧ w'.cell? ⟨(ad364.add ((x5_1).toNat * 7)).block, (ad364.add ((x5_1).toNat * 7)).off + 1, none⟩ = some (.string ((rd_T62 l0 x5_1).f1)) ∧ w'.cell? ⟨(ad364.add ((x5_1).toNat * 7)).block, (ad364.add ((x5_1).toNat * 7)).off + 2, none⟩ = some (.int .i64 ((rd_T62 l0 x5_1).f2)) ∧ w'.cell? ⟨(ad364.add ((x5_1).toNat * 7)).block, (ad364.add ((x5_1).toNat * 7)).off + 3, none⟩ = some (.int .i64 ((rd_T62 l0 x5_1).f3)) ∧ w'.cell? ⟨(ad364.add ((x5_1).toNat * 7)).block, (ad364.add ((x5_1).toNat * 7)).off + 4, none⟩ = some (.int .i64 ((rd_T62 l0 x5_1).f4)) ∧ w'.cell? ⟨(ad364.add ((x5_1).toNat * 7)).block, (ad364.add ((x5_1).toNat * 7)).off + 5, none⟩ = some (.bool ((rd_T62 l0 x5_1).f5)) ∧ w'.cell? ⟨(ad364.add ((x5_1).toNat * 7)).block, (ad364.add ((x5_1).toNat * 7)).off + 6, none⟩ = some (.slice A365_6 ((rd_T62 l0 x5_1).f6).length c365_6)) (ds := []) #[false, false, false, false, false, false, false, false] (by kernel_rfl) rfl rfl ⟨(hxB HB.out hw365_0), (hxB HB.out hw365_1), (hxB HB.out hw365_2), (hxB HB.out hw365_3), (hxB HB.out hw365_4), (hxB HB.out hw365_5), (hxB HB.out hw365_6)⟩ (fun hHeld => ?_); refine with_tabW laws_heldNodeS.tab7 laws_heldNodeS.bits7 (fun HT_ HW_ => ?_)
           generalize wr.drew = w12 at HB HR365_6 hx365_0 hx365_1 hx365_2 hx365_3 hx365_4 hx365_5 hx365_6 hHeld ⊢
           refine pt_ 0 21 ?_
           refine pt_ 1 22 ?_
           refine pt_ 2 23 ?_
           refine pt_ 3 24 ?_
           refine pt_ 5 26 ?_
           refine tt_ 4 25 ?_
           refine one_ (i := 6) (N := some 27) #[true, true, true, true, true, true, true, false] rfl rfl (one_of HT_.out (by kernel_rfl)) (by decide) (fun K hK => ?_)
           refine goes_ Try.func61 (by kernel_rfl) rfl #[.int .i64 (wrap64 (x1_1 + 1))] (by rfl) rfl rfl aL ?_
           with_reducible refine (laws_markText.calls k1 (wrap64 (x1_1 + 1)) t366 _ A6.out).mono ?_
           rintro e w13 ⟨rfl, hb⟩
           refine ⟨_, rfl, ?_⟩
           have n0_ := Aside0.mk (below_step bA hb)
           clear HB
           have HB := n0_
           clear n0_
           (try clear hb)
           (try clear hb2)
           (try clear hk)
           (try clear hi)
           refine hK.out _ _ ⟨(hxB HB.out hw365_0), (hxB HB.out hw365_1), (hxB HB.out hw365_2), (hxB HB.out hw365_3), (hxB HB.out hw365_4), (hxB HB.out hw365_5), (hxB HB.out hw365_6)⟩ (fun hHeld => ?_)
           clear hK K
           refine norm_ (a' := ?_) ?_ ?_
           rotate_left
           ·show Act.put _ (some 27) _ = _
            simp only [Act.put, List.setIfInBounds_toArray, List.set_cons_zero, List.set_cons_succ, i64_w, i32_w]
            rfl
           refine pt_ 7 28 ?_
           refine done_ (done_of HT_.out (by kernel_rfl)) ?_
           have p367 : 0 ≤ (x5_1 : Int) := of_decide_eq_true (by assumption)
           have q367 : x5_1 < (l0.length : Int) := of_decide_eq_true (by assumption)
           obtain ⟨ad367, A367_6, c367_6, e367, hx367_0, hx367_1, hx367_2, hx367_3, hx367_4, hx367_5, hx367_6, hl367_6, hi367_6⟩ := at_T62 HR0.out x5_1 p367 q367
           obtain rfl : ad364 = ad367 := (by injection e367)
           replace hx367_0 := hxB HB.out hx367_0
           replace hx367_1 := hxB HB.out hx367_1
           replace hx367_2 := hxB HB.out hx367_2
           replace hx367_3 := hxB HB.out hx367_3
           replace hx367_4 := hxB HB.out hx367_4
           replace hx367_5 := hxB HB.out hx367_5
           replace hx367_6 := hxB HB.out hx367_6
           have HR367_6 := Aside0.mk hi367_6
           have HC367_6 := Aside0.mk hl367_6
           clear hi367_6 hl367_6
           replace p367 := eq_true p367
           replace q367 := eq_true q367
           have p368 : 0 ≤ (x5_1 : Int) := of_decide_eq_true (by assumption)
           have q368 : x5_1 < (l0.length : Int) := of_decide_eq_true (by assumption)
           obtain ⟨ad368, A368_6, c368_6, e368, hx368_0, hx368_1, hx368_2, hx368_3, hx368_4, hx368_5, hx368_6, hl368_6, hi368_6⟩ := at_T62 HR0.out x5_1 p368 q368
           obtain rfl : ad364 = ad368 := (by injection e368)
           replace hx368_0 := hxB HB.out hx368_0
           replace hx368_1 := hxB HB.out hx368_1
           replace hx368_2 := hxB HB.out hx368_2
           replace hx368_3 := hxB HB.out hx368_3
           replace hx368_4 := hxB HB.out hx368_4
           replace hx368_5 := hxB HB.out hx368_5
           replace hx368_6 := hxB HB.out hx368_6
           have HR368_6 := Aside0.mk hi368_6
           have HC368_6 := Aside0.mk hl368_6
           clear hi368_6 hl368_6
           replace p368 := eq_true p368
           replace q368 := eq_true q368
           have ea_ := Option.some.inj (hx367_6.symm.trans hx368_6)
           injection ea_ with ea_ en_ ec_
           subst ea_
           subst ec_
           clear en_
           have p369 : 0 ≤ (x5_1 : Int) := of_decide_eq_true (by assumption)
           have q369 : x5_1 < (l0.length : Int) := of_decide_eq_true (by assumption)
           obtain ⟨ad369, A369_6, c369_6, e369, hx369_0, hx369_1, hx369_2, hx369_3, hx369_4, hx369_5, hx369_6, hl369_6, hi369_6⟩ := at_T62 HR0.out x5_1 p369 q369
           obtain rfl : ad364 = ad369 := (by injection e369)
           replace hx369_0 := hxB HB.out hx369_0
           replace hx369_1 := hxB HB.out hx369_1
           replace hx369_2 := hxB HB.out hx369_2
           replace hx369_3 := hxB HB.out hx369_3
           replace hx369_4 := hxB HB.out hx369_4
           replace hx369_5 := hxB HB.out hx369_5
           replace hx369_6 := hxB HB.out hx369_6
           have HR369_6 := Aside0.mk hi369_6
           have HC369_6 := Aside0.mk hl369_6
           clear hi369_6 hl369_6
           replace p369 := eq_true p369
           replace q369 := eq_true q369
           have ea_ := Option.some.inj (hx367_6.symm.trans hx369_6)
           injection ea_ with ea_ en_ ec_
           subst ea_
           subst ec_
           clear en_
           have p370 : 0 ≤ (x5_1 : Int) := of_decide_eq_true (by assumption)
           have q370 : x5_1 < (l0.length : Int) := of_decide_eq_true (by assumption)
           obtain ⟨ad370, A370_6, c370_6, e370, hx370_0, hx370_1, hx370_2, hx370_3, hx370_4, hx370_5, hx370_6, hl370_6, hi370_6⟩ := at_T62 HR0.out x5_1 p370 q370
           obtain rfl : ad364 = ad370 := (by injection e370)
           replace hx370_0 := hxB HB.out hx370_0
           replace hx370_1 := hxB HB.out hx370_1
           replace hx370_2 := hxB HB.out hx370_2
           replace hx370_3 := hxB HB.out hx370_3
           replace hx370_4 := hxB HB.out hx370_4
           replace hx370_5 := hxB HB.out hx370_5
           replace hx370_6 := hxB HB.out hx370_6
           have HR370_6 := Aside0.mk hi370_6
           have HC370_6 := Aside0.mk hl370_6
           clear hi370_6 hl370_6
           replace p370 := eq_true p370
           replace q370 := eq_true q370
           have ea_ := Option.some.inj (hx367_6.symm.trans hx370_6)
           injection ea_ with ea_ en_ ec_
           subst ea_
           subst ec_
           clear en_
           try go_wp2
           go_ret
           exact ⟨rE, bA⟩
          ·rw [if_neg c11] at H
           have c11b0 : (((rd_T62 l0 x5_1).f5) != ((Int.tmod (wrap64 ((wrap64 ((wrap64 ((wrap64 ((wrap64 (x1_1 + 1)) + 1)) + 1)) + 1)) + 1)) 3) == 0)) = false := by simpa using c11
           (try (have c11b1 : decide (((rd_T62 l0 x5_1).f5) = ((Int.tmod (wrap64 ((wrap64 ((wrap64 ((wrap64 ((wrap64 (x1_1 + 1)) + 1)) + 1)) + 1)) + 1)) 3) == 0)) = true := by simpa using c11))
           (try (have c11b2 : (((rd_T62 l0 x5_1).f5) == ((Int.tmod (wrap64 ((wrap64 ((wrap64 ((wrap64 ((wrap64 (x1_1 + 1)) + 1)) + 1)) + 1)) + 1)) 3) == 0)) = true := by simpa using c11))
           clear c11
           replace H := Option.bind_eq_some_iff.mp H
           obtain ⟨t372, A140, H⟩ := H
           replace H : (if t372 < 0 then (some (-1)) else (laws_heldNodeS.l0 k1 l0 t372 (wrap64 (x5_1 + 1)))) = some r := H
           have A14 := Aside0.mk A140
           clear A140
           by_cases c15 : t372 < 0
           ·rw [if_pos c15] at H
            have c15b0 : decide (t372 < 0) = true := decide_eq_true c15
            clear c15
            obtain rfl := Option.some.inj H
            have p364 : 0 ≤ (x5_1 : Int) := of_decide_eq_true (by assumption)
            have q364 : x5_1 < (l0.length : Int) := of_decide_eq_true (by assumption)
            obtain ⟨ad364, A364_6, c364_6, e364, hx364_0, hx364_1, hx364_2, hx364_3, hx364_4, hx364_5, hx364_6, hl364_6, hi364_6⟩ := at_T62 HR0.out x5_1 p364 q364
            cases e364
            replace hx364_0 := hxB HB.out hx364_0
            replace hx364_1 := hxB HB.out hx364_1
            replace hx364_2 := hxB HB.out hx364_2
            replace hx364_3 := hxB HB.out hx364_3
            replace hx364_4 := hxB HB.out hx364_4
            replace hx364_5 := hxB HB.out hx364_5
            replace hx364_6 := hxB HB.out hx364_6
            have HR364_6 := Aside0.mk hi364_6
            have HC364_6 := Aside0.mk hl364_6
            clear hi364_6 hl364_6
            replace p364 := eq_true p364
            replace q364 := eq_true q364
            try go_wp2
            have n0_ := Aside0.mk (below_drew1 HB.out)
            clear HB
            have HB := n0_
            clear n0_
            have p365 : 0 ≤ (x5_1 : Int) := of_decide_eq_true (by assumption)
            have q365 : x5_1 < (l0.length : Int) := of_decide_eq_true (by assumption)
            obtain ⟨ad365, A365_6, c365_6, e365, hx365_0, hx365_1, hx365_2, hx365_3, hx365_4, hx365_5, hx365_6, hl365_6, hi365_6⟩ := at_T62 HR0.out x5_1 p365 q365
            have hw365_6 := hx365_6
            have hw365_5 := hx365_5
            have hw365_4 := hx365_4
            have hw365_3 := hx365_3
            have hw365_2 := hx365_2
            have hw365_1 := hx365_1
            have hw365_0 := hx365_0
            obtain rfl : ad364 = ad365 := (by injection e365)
            replace hx365_0 := hxB HB.out hx365_0
            replace hx365_1 := hxB HB.out hx365_1
            replace hx365_2 := hxB HB.out hx365_2
            replace hx365_3 := hxB HB.out hx365_3
            replace hx365_4 := hxB HB.out hx365_4
            replace hx365_5 := hxB HB.out hx365_5
            replace hx365_6 := hxB HB.out hx365_6
            have HR365_6 := Aside0.mk hi365_6
            have HC365_6 := Aside0.mk hl365_6
            clear hi365_6 hl365_6
            replace p365 := eq_true p365
            replace q365 := eq_true q365
            refine start_ (n := 8) (S := fun w' => w'.cell? (ad364.add ((x5_1).toNat * 7)) = some (.int .i64 ((rd_T62 l0 x5_1).f0)) ∧ w'.cell? ⟨(ad364.add ((x5_1).toNat * 7)).block, (ad364.add ((x5_1).toNat * 7)).off + 1, none⟩ = some (.string ((rd_T62 l0 x5_1).f1)) ∧ w'.cell? ⟨(ad364.add ((x5_1).toNat * 7)).block, (ad364.add ((x5_1).toNat * 7)).off + 2, none⟩ = some (.int .i64 ((rd_T62 l0 x5_1).f2)) ∧ w'.cell? ⟨(ad364.add ((x5_1).toNat * 7)).block, (ad364.add ((x5_1).toNat * 7)).off + 3, none⟩ = some (.int .i64 ((rd_T62 l0 x5_1).f3)) ∧ w'.cell? ⟨(ad364.add ((x5_1).toNat * 7)).block, (ad364.add ((x5_1).toNat * 7)).off + 4, none⟩ = some (.int .i64 ((rd_T62 l0 x5_1).f4)) ∧ w'.cell? ⟨(ad364.add ((x5_1).toNat * 7)).block, (ad364.add ((x5_1).toNat * 7)).off + 5, none⟩ = some (.bool ((rd_T62 l0 x5_1).f5)) ∧ w'.cell? ⟨(ad364.add ((x5_1).toNat * 7)).block, (ad364.add ((x5_1).toNat * 7)).off + 6, none⟩ = some (.slice A365_6 ((rd_T62 l0 x5_1).f6).length c365_6)) (ds := []) #[false, false, false, false, false, false, false, false] (by kernel_rfl) rfl rfl ⟨(hxB HB.out hw365_0), (hxB HB.out hw365_1), (hxB HB.out hw365_2), (hxB HB.out hw365_3), (hxB HB.out hw365_4), (hxB HB.out hw365_5), (hxB HB.out hw365_6)⟩ (fun hHeld => ?_); refine with_tabW laws_heldNodeS.tab7 laws_heldNodeS.bits7 (fun HT_ HW_ => ?_)
            generalize wr.drew = w16 at HB HR365_6 hx365_0 hx365_1 hx365_2 hx365_3 hx365_4 hx365_5 hx365_6 hHeld ⊢
            refine pt_ 0 21 ?_
            refine pt_ 1 22 ?_
            refine pt_ 2 23 ?_
            refine pt_ 3 24 ?_
            refine pt_ 5 26 ?_
            refine tt_ 4 25 ?_
            refine one_ (i := 6) (N := some 27) #[true, true, true, true, true, true, true, false] rfl rfl (one_of HT_.out (by kernel_rfl)) (by decide) (fun K hK => ?_)
            refine goes_ Try.func61 (by kernel_rfl) rfl #[.int .i64 (wrap64 (x1_1 + 1))] (by rfl) rfl rfl aL ?_
            with_reducible refine (laws_markText.calls k1 (wrap64 (x1_1 + 1)) t366 _ A6.out).mono ?_
            rintro e w17 ⟨rfl, hb⟩
            refine ⟨_, rfl, ?_⟩
            have n0_ := Aside0.mk (below_step bA hb)
            clear HB
            have HB := n0_
            clear n0_
            (try clear hb)
            (try clear hb2)
            (try clear hk)
            (try clear hi)
            refine hK.out _ _ ⟨(hxB HB.out hw365_0), (hxB HB.out hw365_1), (hxB HB.out hw365_2), (hxB HB.out hw365_3), (hxB HB.out hw365_4), (hxB HB.out hw365_5), (hxB HB.out hw365_6)⟩ (fun hHeld => ?_)
            clear hK K
            refine norm_ (a' := ?_) ?_ ?_
            rotate_left
            ·show Act.put _ (some 27) _ = _
             simp only [Act.put, List.setIfInBounds_toArray, List.set_cons_zero, List.set_cons_succ, i64_w, i32_w]
             rfl
            refine pt_ 7 28 ?_
            refine done_ (done_of HT_.out (by kernel_rfl)) ?_
            have p367 : 0 ≤ (x5_1 : Int) := of_decide_eq_true (by assumption)
            have q367 : x5_1 < (l0.length : Int) := of_decide_eq_true (by assumption)
            obtain ⟨ad367, A367_6, c367_6, e367, hx367_0, hx367_1, hx367_2, hx367_3, hx367_4, hx367_5, hx367_6, hl367_6, hi367_6⟩ := at_T62 HR0.out x5_1 p367 q367
            obtain rfl : ad364 = ad367 := (by injection e367)
            replace hx367_0 := hxB HB.out hx367_0
            replace hx367_1 := hxB HB.out hx367_1
            replace hx367_2 := hxB HB.out hx367_2
            replace hx367_3 := hxB HB.out hx367_3
            replace hx367_4 := hxB HB.out hx367_4
            replace hx367_5 := hxB HB.out hx367_5
            replace hx367_6 := hxB HB.out hx367_6
            have HR367_6 := Aside0.mk hi367_6
            have HC367_6 := Aside0.mk hl367_6
            clear hi367_6 hl367_6
            replace p367 := eq_true p367
            replace q367 := eq_true q367
            have p368 : 0 ≤ (x5_1 : Int) := of_decide_eq_true (by assumption)
            have q368 : x5_1 < (l0.length : Int) := of_decide_eq_true (by assumption)
            obtain ⟨ad368, A368_6, c368_6, e368, hx368_0, hx368_1, hx368_2, hx368_3, hx368_4, hx368_5, hx368_6, hl368_6, hi368_6⟩ := at_T62 HR0.out x5_1 p368 q368
            obtain rfl : ad364 = ad368 := (by injection e368)
            replace hx368_0 := hxB HB.out hx368_0
            replace hx368_1 := hxB HB.out hx368_1
            replace hx368_2 := hxB HB.out hx368_2
            replace hx368_3 := hxB HB.out hx368_3
            replace hx368_4 := hxB HB.out hx368_4
            replace hx368_5 := hxB HB.out hx368_5
            replace hx368_6 := hxB HB.out hx368_6
            have HR368_6 := Aside0.mk hi368_6
            have HC368_6 := Aside0.mk hl368_6
            clear hi368_6 hl368_6
            replace p368 := eq_true p368
            replace q368 := eq_true q368
            have ea_ := Option.some.inj (hx367_6.symm.trans hx368_6)
            injection ea_ with ea_ en_ ec_
            subst ea_
            subst ec_
            clear en_
            have p369 : 0 ≤ (x5_1 : Int) := of_decide_eq_true (by assumption)
            have q369 : x5_1 < (l0.length : Int) := of_decide_eq_true (by assumption)
            obtain ⟨ad369, A369_6, c369_6, e369, hx369_0, hx369_1, hx369_2, hx369_3, hx369_4, hx369_5, hx369_6, hl369_6, hi369_6⟩ := at_T62 HR0.out x5_1 p369 q369
            obtain rfl : ad364 = ad369 := (by injection e369)
            replace hx369_0 := hxB HB.out hx369_0
            replace hx369_1 := hxB HB.out hx369_1
            replace hx369_2 := hxB HB.out hx369_2
            replace hx369_3 := hxB HB.out hx369_3
            replace hx369_4 := hxB HB.out hx369_4
            replace hx369_5 := hxB HB.out hx369_5
            replace hx369_6 := hxB HB.out hx369_6
            have HR369_6 := Aside0.mk hi369_6
            have HC369_6 := Aside0.mk hl369_6
            clear hi369_6 hl369_6
            replace p369 := eq_true p369
            replace q369 := eq_true q369
            have ea_ := Option.some.inj (hx367_6.symm.trans hx369_6)
            injection ea_ with ea_ en_ ec_
            subst ea_
            subst ec_
            clear en_
            have p370 : 0 ≤ (x5_1 : Int) := of_decide_eq_true (by assumption)
            have q370 : x5_1 < (l0.length : Int) := of_decide_eq_true (by assumption)
            obtain ⟨ad370, A370_6, c370_6, e370, hx370_0, hx370_1, hx370_2, hx370_3, hx370_4, hx370_5, hx370_6, hl370_6, hi370_6⟩ := at_T62 HR0.out x5_1 p370 q370
            obtain rfl : ad364 = ad370 := (by injection e370)
            replace hx370_0 := hxB HB.out hx370_0
            replace hx370_1 := hxB HB.out hx370_1
            replace hx370_2 := hxB HB.out hx370_2
            replace hx370_3 := hxB HB.out hx370_3
            replace hx370_4 := hxB HB.out hx370_4
            replace hx370_5 := hxB HB.out hx370_5
            replace hx370_6 := hxB HB.out hx370_6
            have HR370_6 := Aside0.mk hi370_6
            have HC370_6 := Aside0.mk hl370_6
            clear hi370_6 hl370_6
            replace p370 := eq_true p370
            replace q370 := eq_true q370
            have ea_ := Option.some.inj (hx367_6.symm.trans hx370_6)
            injection ea_ with ea_ en_ ec_
            subst ea_
            subst ec_
            clear en_
            have p371 : 0 ≤ (x5_1 : Int) := of_decide_eq_true (by assumption)
            have q371 : x5_1 < (l0.length : Int) := of_decide_eq_true (by assumption)
            obtain ⟨ad371, A371_6, c371_6, e371, hx371_0, hx371_1, hx371_2, hx371_3, hx371_4, hx371_5, hx371_6, hl371_6, hi371_6⟩ := at_T62 HR0.out x5_1 p371 q371
            obtain rfl : ad364 = ad371 := (by injection e371)
            replace hx371_0 := hxB HB.out hx371_0
            replace hx371_1 := hxB HB.out hx371_1
            replace hx371_2 := hxB HB.out hx371_2
            replace hx371_3 := hxB HB.out hx371_3
            replace hx371_4 := hxB HB.out hx371_4
            replace hx371_5 := hxB HB.out hx371_5
            replace hx371_6 := hxB HB.out hx371_6
            have HR371_6 := Aside0.mk hi371_6
            have HC371_6 := Aside0.mk hl371_6
            clear hi371_6 hl371_6
            replace p371 := eq_true p371
            replace q371 := eq_true q371
            have ea_ := Option.some.inj (hx367_6.symm.trans hx371_6)
            injection ea_ with ea_ en_ ec_
            subst ea_
            subst ec_
            clear en_
            (try (have ea_ := Option.some.inj (hx364_6.symm.trans hx367_6); injection ea_ with ea_ en_ ec_; rw [ea_, ec_] at hx364_6))
            (try (have ea_ := Option.some.inj (hx367_6.symm.trans (hxB HB.out hw364_6)); injection ea_ with ea_ en_ ec_; subst ea_; subst ec_))
            (try (have ea_ := Option.some.inj (hx365_6.symm.trans hx367_6); injection ea_ with ea_ en_ ec_; rw [ea_, ec_] at hx365_6))
            (try (have ea_ := Option.some.inj (hx367_6.symm.trans (hxB HB.out hw365_6)); injection ea_ with ea_ en_ ec_; subst ea_; subst ec_))
            (try (have ea_ := Option.some.inj (hx368_6.symm.trans hx367_6); injection ea_ with ea_ en_ ec_; rw [ea_, ec_] at hx368_6))
            (try (have ea_ := Option.some.inj (hx367_6.symm.trans (hxB HB.out hw368_6)); injection ea_ with ea_ en_ ec_; subst ea_; subst ec_))
            (try (have ea_ := Option.some.inj (hx369_6.symm.trans hx367_6); injection ea_ with ea_ en_ ec_; rw [ea_, ec_] at hx369_6))
            (try (have ea_ := Option.some.inj (hx367_6.symm.trans (hxB HB.out hw369_6)); injection ea_ with ea_ en_ ec_; subst ea_; subst ec_))
            (try (have ea_ := Option.some.inj (hx370_6.symm.trans hx367_6); injection ea_ with ea_ en_ ec_; rw [ea_, ec_] at hx370_6))
            (try (have ea_ := Option.some.inj (hx367_6.symm.trans (hxB HB.out hw370_6)); injection ea_ with ea_ en_ ec_; subst ea_; subst ec_))
            (try (have ea_ := Option.some.inj (hx371_6.symm.trans hx367_6); injection ea_ with ea_ en_ ec_; rw [ea_, ec_] at hx371_6))
            (try (have ea_ := Option.some.inj (hx367_6.symm.trans (hxB HB.out hw371_6)); injection ea_ with ea_ en_ ec_; subst ea_; subst ec_))
            try go_wp2_with (first | ((with_reducible refine gate_callee (f := 63) rfl ?_); refine goesL_ (some 75) rfl rfl Try.func63 (by kernel_rfl) rfl #[.slice A367_6 ((rd_T62 l0 x5_1).f6).length c367_6, .int .i64 (wrap64 ((wrap64 ((wrap64 ((wrap64 ((wrap64 ((wrap64 (x1_1 + 1)) + 1)) + 1)) + 1)) + 1)) + 1))] rfl aL ?_; (with_reducible refine (laws_heldIntS.calls k1 _ _ ((rd_T62 l0 x5_1).f6) (wrap64 ((wrap64 ((wrap64 ((wrap64 ((wrap64 ((wrap64 (x1_1 + 1)) + 1)) + 1)) + 1)) + 1)) + 1)) t372 _ ?side1 ?side2 A14.out).mono ?_); (case side1 => exact cA); (case side2 => exact HC371_6.out); rintro e w' ⟨rfl, ⟨nd, rfl⟩⟩; refine ⟨_, rfl, ?_⟩))
            go_ret
            exact ⟨rE, bA⟩
           ·rw [if_neg c15] at H
            have c15b0 : decide (t372 < 0) = false := decide_eq_false c15
            clear c15
            have H' := Aside0.mk H
            clear H
            have p364 : 0 ≤ (x5_1 : Int) := of_decide_eq_true (by assumption)
            have q364 : x5_1 < (l0.length : Int) := of_decide_eq_true (by assumption)
            obtain ⟨ad364, A364_6, c364_6, e364, hx364_0, hx364_1, hx364_2, hx364_3, hx364_4, hx364_5, hx364_6, hl364_6, hi364_6⟩ := at_T62 HR0.out x5_1 p364 q364
            cases e364
            replace hx364_0 := hxB HB.out hx364_0
            replace hx364_1 := hxB HB.out hx364_1
            replace hx364_2 := hxB HB.out hx364_2
            replace hx364_3 := hxB HB.out hx364_3
            replace hx364_4 := hxB HB.out hx364_4
            replace hx364_5 := hxB HB.out hx364_5
            replace hx364_6 := hxB HB.out hx364_6
            have HR364_6 := Aside0.mk hi364_6
            have HC364_6 := Aside0.mk hl364_6
            clear hi364_6 hl364_6
            replace p364 := eq_true p364
            replace q364 := eq_true q364
            try go_wp2
            have n0_ := Aside0.mk (below_drew1 HB.out)
            clear HB
            have HB := n0_
            clear n0_
            have p365 : 0 ≤ (x5_1 : Int) := of_decide_eq_true (by assumption)
            have q365 : x5_1 < (l0.length : Int) := of_decide_eq_true (by assumption)
            obtain ⟨ad365, A365_6, c365_6, e365, hx365_0, hx365_1, hx365_2, hx365_3, hx365_4, hx365_5, hx365_6, hl365_6, hi365_6⟩ := at_T62 HR0.out x5_1 p365 q365
            have hw365_6 := hx365_6
            have hw365_5 := hx365_5
            have hw365_4 := hx365_4
            have hw365_3 := hx365_3
            have hw365_2 := hx365_2
            have hw365_1 := hx365_1
            have hw365_0 := hx365_0
            obtain rfl : ad364 = ad365 := (by injection e365)
            replace hx365_0 := hxB HB.out hx365_0
            replace hx365_1 := hxB HB.out hx365_1
            replace hx365_2 := hxB HB.out hx365_2
            replace hx365_3 := hxB HB.out hx365_3
            replace hx365_4 := hxB HB.out hx365_4
            replace hx365_5 := hxB HB.out hx365_5
            replace hx365_6 := hxB HB.out hx365_6
            have HR365_6 := Aside0.mk hi365_6
            have HC365_6 := Aside0.mk hl365_6
            clear hi365_6 hl365_6
            replace p365 := eq_true p365
            replace q365 := eq_true q365
            refine start_ (n := 8) (S := fun w' => w'.cell? (ad364.add ((x5_1).toNat * 7)) = some (.int .i64 ((rd_T62 l0 x5_1).f0)) ∧ w'.cell? ⟨(ad364.add ((x5_1).toNat * 7)).block, (ad364.add ((x5_1).toNat * 7)).off + 1, none⟩ = some (.string ((rd_T62 l0 x5_1).f1)) ∧ w'.cell? ⟨(ad364.add ((x5_1).toNat * 7)).block, (ad364.add ((x5_1).toNat * 7)).off + 2, none⟩ = some (.int .i64 ((rd_T62 l0 x5_1).f2)) ∧ w'.cell? ⟨(ad364.add ((x5_1).toNat * 7)).block, (ad364.add ((x5_1).toNat * 7)).off + 3, none⟩ = some (.int .i64 ((rd_T62 l0 x5_1).f3)) ∧ w'.cell? ⟨(ad364.add ((x5_1).toNat * 7)).block, (ad364.add ((x5_1).toNat * 7)).off + 4, none⟩ = some (.int .i64 ((rd_T62 l0 x5_1).f4)) ∧ w'.cell? ⟨(ad364.add ((x5_1).toNat * 7)).block, (ad364.add ((x5_1).toNat * 7)).off + 5, none⟩ = some (.bool ((rd_T62 l0 x5_1).f5)) ∧ w'.cell? ⟨(ad364.add ((x5_1).toNat * 7)).block, (ad364.add ((x5_1).toNat * 7)).off + 6, none⟩ = some (.slice A365_6 ((rd_T62 l0 x5_1).f6).length c365_6)) (ds := []) #[false, false, false, false, false, false, false, false] (by kernel_rfl) rfl rfl ⟨(hxB HB.out hw365_0), (hxB HB.out hw365_1), (hxB HB.out hw365_2), (hxB HB.out hw365_3), (hxB HB.out hw365_4), (hxB HB.out hw365_5), (hxB HB.out hw365_6)⟩ (fun hHeld => ?_); refine with_tabW laws_heldNodeS.tab7 laws_heldNodeS.bits7 (fun HT_ HW_ => ?_)
            generalize wr.drew = w18 at HB HR365_6 hx365_0 hx365_1 hx365_2 hx365_3 hx365_4 hx365_5 hx365_6 hHeld ⊢
            refine pt_ 0 21 ?_
            refine pt_ 1 22 ?_
            refine pt_ 2 23 ?_
            refine pt_ 3 24 ?_
            refine pt_ 5 26 ?_
            refine tt_ 4 25 ?_
            refine one_ (i := 6) (N := some 27) #[true, true, true, true, true, true, true, false] rfl rfl (one_of HT_.out (by kernel_rfl)) (by decide) (fun K hK => ?_)
            refine goes_ Try.func61 (by kernel_rfl) rfl #[.int .i64 (wrap64 (x1_1 + 1))] (by rfl) rfl rfl aL ?_
            with_reducible refine (laws_markText.calls k1 (wrap64 (x1_1 + 1)) t366 _ A6.out).mono ?_
            rintro e w19 ⟨rfl, hb⟩
            refine ⟨_, rfl, ?_⟩
            have n0_ := Aside0.mk (below_step bA hb)
            clear HB
            have HB := n0_
            clear n0_
            (try clear hb)
            (try clear hb2)
            (try clear hk)
            (try clear hi)
            refine hK.out _ _ ⟨(hxB HB.out hw365_0), (hxB HB.out hw365_1), (hxB HB.out hw365_2), (hxB HB.out hw365_3), (hxB HB.out hw365_4), (hxB HB.out hw365_5), (hxB HB.out hw365_6)⟩ (fun hHeld => ?_)
            clear hK K
            refine norm_ (a' := ?_) ?_ ?_
            rotate_left
            ·show Act.put _ (some 27) _ = _
             simp only [Act.put, List.setIfInBounds_toArray, List.set_cons_zero, List.set_cons_succ, i64_w, i32_w]
             rfl
            refine pt_ 7 28 ?_
            refine done_ (done_of HT_.out (by kernel_rfl)) ?_
            have p367 : 0 ≤ (x5_1 : Int) := of_decide_eq_true (by assumption)
            have q367 : x5_1 < (l0.length : Int) := of_decide_eq_true (by assumption)
            obtain ⟨ad367, A367_6, c367_6, e367, hx367_0, hx367_1, hx367_2, hx367_3, hx367_4, hx367_5, hx367_6, hl367_6, hi367_6⟩ := at_T62 HR0.out x5_1 p367 q367
            obtain rfl : ad364 = ad367 := (by injection e367)
            replace hx367_0 := hxB HB.out hx367_0
            replace hx367_1 := hxB HB.out hx367_1
            replace hx367_2 := hxB HB.out hx367_2
            replace hx367_3 := hxB HB.out hx367_3
            replace hx367_4 := hxB HB.out hx367_4
            replace hx367_5 := hxB HB.out hx367_5
            replace hx367_6 := hxB HB.out hx367_6
            have HR367_6 := Aside0.mk hi367_6
            have HC367_6 := Aside0.mk hl367_6
            clear hi367_6 hl367_6
            replace p367 := eq_true p367
            replace q367 := eq_true q367
            have p368 : 0 ≤ (x5_1 : Int) := of_decide_eq_true (by assumption)
            have q368 : x5_1 < (l0.length : Int) := of_decide_eq_true (by assumption)
            obtain ⟨ad368, A368_6, c368_6, e368, hx368_0, hx368_1, hx368_2, hx368_3, hx368_4, hx368_5, hx368_6, hl368_6, hi368_6⟩ := at_T62 HR0.out x5_1 p368 q368
            obtain rfl : ad364 = ad368 := (by injection e368)
            replace hx368_0 := hxB HB.out hx368_0
            replace hx368_1 := hxB HB.out hx368_1
            replace hx368_2 := hxB HB.out hx368_2
            replace hx368_3 := hxB HB.out hx368_3
            replace hx368_4 := hxB HB.out hx368_4
            replace hx368_5 := hxB HB.out hx368_5
            replace hx368_6 := hxB HB.out hx368_6
            have HR368_6 := Aside0.mk hi368_6
            have HC368_6 := Aside0.mk hl368_6
            clear hi368_6 hl368_6
            replace p368 := eq_true p368
            replace q368 := eq_true q368
            have ea_ := Option.some.inj (hx367_6.symm.trans hx368_6)
            injection ea_ with ea_ en_ ec_
            subst ea_
            subst ec_
            clear en_
            have p369 : 0 ≤ (x5_1 : Int) := of_decide_eq_true (by assumption)
            have q369 : x5_1 < (l0.length : Int) := of_decide_eq_true (by assumption)
            obtain ⟨ad369, A369_6, c369_6, e369, hx369_0, hx369_1, hx369_2, hx369_3, hx369_4, hx369_5, hx369_6, hl369_6, hi369_6⟩ := at_T62 HR0.out x5_1 p369 q369
            obtain rfl : ad364 = ad369 := (by injection e369)
            replace hx369_0 := hxB HB.out hx369_0
            replace hx369_1 := hxB HB.out hx369_1
            replace hx369_2 := hxB HB.out hx369_2
            replace hx369_3 := hxB HB.out hx369_3
            replace hx369_4 := hxB HB.out hx369_4
            replace hx369_5 := hxB HB.out hx369_5
            replace hx369_6 := hxB HB.out hx369_6
            have HR369_6 := Aside0.mk hi369_6
            have HC369_6 := Aside0.mk hl369_6
            clear hi369_6 hl369_6
            replace p369 := eq_true p369
            replace q369 := eq_true q369
            have ea_ := Option.some.inj (hx367_6.symm.trans hx369_6)
            injection ea_ with ea_ en_ ec_
            subst ea_
            subst ec_
            clear en_
            have p370 : 0 ≤ (x5_1 : Int) := of_decide_eq_true (by assumption)
            have q370 : x5_1 < (l0.length : Int) := of_decide_eq_true (by assumption)
            obtain ⟨ad370, A370_6, c370_6, e370, hx370_0, hx370_1, hx370_2, hx370_3, hx370_4, hx370_5, hx370_6, hl370_6, hi370_6⟩ := at_T62 HR0.out x5_1 p370 q370
            obtain rfl : ad364 = ad370 := (by injection e370)
            replace hx370_0 := hxB HB.out hx370_0
            replace hx370_1 := hxB HB.out hx370_1
            replace hx370_2 := hxB HB.out hx370_2
            replace hx370_3 := hxB HB.out hx370_3
            replace hx370_4 := hxB HB.out hx370_4
            replace hx370_5 := hxB HB.out hx370_5
            replace hx370_6 := hxB HB.out hx370_6
            have HR370_6 := Aside0.mk hi370_6
            have HC370_6 := Aside0.mk hl370_6
            clear hi370_6 hl370_6
            replace p370 := eq_true p370
            replace q370 := eq_true q370
            have ea_ := Option.some.inj (hx367_6.symm.trans hx370_6)
            injection ea_ with ea_ en_ ec_
            subst ea_
            subst ec_
            clear en_
            have p371 : 0 ≤ (x5_1 : Int) := of_decide_eq_true (by assumption)
            have q371 : x5_1 < (l0.length : Int) := of_decide_eq_true (by assumption)
            obtain ⟨ad371, A371_6, c371_6, e371, hx371_0, hx371_1, hx371_2, hx371_3, hx371_4, hx371_5, hx371_6, hl371_6, hi371_6⟩ := at_T62 HR0.out x5_1 p371 q371
            obtain rfl : ad364 = ad371 := (by injection e371)
            replace hx371_0 := hxB HB.out hx371_0
            replace hx371_1 := hxB HB.out hx371_1
            replace hx371_2 := hxB HB.out hx371_2
            replace hx371_3 := hxB HB.out hx371_3
            replace hx371_4 := hxB HB.out hx371_4
            replace hx371_5 := hxB HB.out hx371_5
            replace hx371_6 := hxB HB.out hx371_6
            have HR371_6 := Aside0.mk hi371_6
            have HC371_6 := Aside0.mk hl371_6
            clear hi371_6 hl371_6
            replace p371 := eq_true p371
            replace q371 := eq_true q371
            have ea_ := Option.some.inj (hx367_6.symm.trans hx371_6)
            injection ea_ with ea_ en_ ec_
            subst ea_
            subst ec_
            clear en_
            (try (have ea_ := Option.some.inj (hx364_6.symm.trans hx367_6); injection ea_ with ea_ en_ ec_; rw [ea_, ec_] at hx364_6))
            (try (have ea_ := Option.some.inj (hx367_6.symm.trans (hxB HB.out hw364_6)); injection ea_ with ea_ en_ ec_; subst ea_; subst ec_))
            (try (have ea_ := Option.some.inj (hx365_6.symm.trans hx367_6); injection ea_ with ea_ en_ ec_; rw [ea_, ec_] at hx365_6))
            (try (have ea_ := Option.some.inj (hx367_6.symm.trans (hxB HB.out hw365_6)); injection ea_ with ea_ en_ ec_; subst ea_; subst ec_))
            (try (have ea_ := Option.some.inj (hx368_6.symm.trans hx367_6); injection ea_ with ea_ en_ ec_; rw [ea_, ec_] at hx368_6))
            (try (have ea_ := Option.some.inj (hx367_6.symm.trans (hxB HB.out hw368_6)); injection ea_ with ea_ en_ ec_; subst ea_; subst ec_))
            (try (have ea_ := Option.some.inj (hx369_6.symm.trans hx367_6); injection ea_ with ea_ en_ ec_; rw [ea_, ec_] at hx369_6))
            (try (have ea_ := Option.some.inj (hx367_6.symm.trans (hxB HB.out hw369_6)); injection ea_ with ea_ en_ ec_; subst ea_; subst ec_))
            (try (have ea_ := Option.some.inj (hx370_6.symm.trans hx367_6); injection ea_ with ea_ en_ ec_; rw [ea_, ec_] at hx370_6))
            (try (have ea_ := Option.some.inj (hx367_6.symm.trans (hxB HB.out hw370_6)); injection ea_ with ea_ en_ ec_; subst ea_; subst ec_))
            (try (have ea_ := Option.some.inj (hx371_6.symm.trans hx367_6); injection ea_ with ea_ en_ ec_; rw [ea_, ec_] at hx371_6))
            (try (have ea_ := Option.some.inj (hx367_6.symm.trans (hxB HB.out hw371_6)); injection ea_ with ea_ en_ ec_; subst ea_; subst ec_))
            try go_wp2_with (first | ((with_reducible refine gate_callee (f := 63) rfl ?_); refine goesL_ (some 75) rfl rfl Try.func63 (by kernel_rfl) rfl #[.slice A367_6 ((rd_T62 l0 x5_1).f6).length c367_6, .int .i64 (wrap64 ((wrap64 ((wrap64 ((wrap64 ((wrap64 ((wrap64 (x1_1 + 1)) + 1)) + 1)) + 1)) + 1)) + 1))] rfl aL ?_; (with_reducible refine (laws_heldIntS.calls k1 _ _ ((rd_T62 l0 x5_1).f6) (wrap64 ((wrap64 ((wrap64 ((wrap64 ((wrap64 ((wrap64 (x1_1 + 1)) + 1)) + 1)) + 1)) + 1)) + 1)) t372 _ ?side1 ?side2 A14.out).mono ?_); (case side1 => exact cA); (case side2 => exact HC371_6.out); rintro e w' ⟨rfl, ⟨nd, rfl⟩⟩; refine ⟨_, rfl, ?_⟩))
            go_roundg k1
            case measure => have := HK1.out; omega
            case rel => exact ⟨(t372), (wrap64 (x5_1 + 1)), rF, rF, H', ⟨by have := HK1.out; omega⟩, ⟨bA⟩⟩
         ·rw [if_neg c10] at H
          have c10b0 : (((rd_T62 l0 x5_1).f4) == (wrap64 ((wrap64 ((wrap64 ((wrap64 (x1_1 + 1)) + 1)) + 1)) + 1))) = false := beq_eq_false_iff_ne.mpr c10
          have c10b1 : (((rd_T62 l0 x5_1).f4) != (wrap64 ((wrap64 ((wrap64 ((wrap64 (x1_1 + 1)) + 1)) + 1)) + 1))) = true := bne_iff_ne.mpr c10
          obtain rfl := Option.some.inj H
          have p364 : 0 ≤ (x5_1 : Int) := of_decide_eq_true (by assumption)
          have q364 : x5_1 < (l0.length : Int) := of_decide_eq_true (by assumption)
          obtain ⟨ad364, A364_6, c364_6, e364, hx364_0, hx364_1, hx364_2, hx364_3, hx364_4, hx364_5, hx364_6, hl364_6, hi364_6⟩ := at_T62 HR0.out x5_1 p364 q364
          cases e364
          replace hx364_0 := hxB HB.out hx364_0
          replace hx364_1 := hxB HB.out hx364_1
          replace hx364_2 := hxB HB.out hx364_2
          replace hx364_3 := hxB HB.out hx364_3
          replace hx364_4 := hxB HB.out hx364_4
          replace hx364_5 := hxB HB.out hx364_5
          replace hx364_6 := hxB HB.out hx364_6
          have HR364_6 := Aside0.mk hi364_6
          have HC364_6 := Aside0.mk hl364_6
          clear hi364_6 hl364_6
          replace p364 := eq_true p364
          replace q364 := eq_true q364
          try go_wp2
          have n0_ := Aside0.mk (below_drew1 HB.out)
          clear HB
          have HB := n0_
          clear n0_
          have p365 : 0 ≤ (x5_1 : Int) := of_decide_eq_true (by assumption)
          have q365 : x5_1 < (l0.length : Int) := of_decide_eq_true (by assumption)
          obtain ⟨ad365, A365_6, c365_6, e365, hx365_0, hx365_1, hx365_2, hx365_3, hx365_4, hx365_5, hx365_6, hl365_6, hi365_6⟩ := at_T62 HR0.out x5_1 p365 q365
          have hw365_6 := hx365_6
          have hw365_5 := hx365_5
          have hw365_4 := hx365_4
          have hw365_3 := hx365_3
          have hw365_2 := hx365_2
          have hw365_1 := hx365_1
          have hw365_0 := hx365_0
          obtain rfl : ad364 = ad365 := (by injection e365)
          replace hx365_0 := hxB HB.out hx365_0
          replace hx365_1 := hxB HB.out hx365_1
          replace hx365_2 := hxB HB.out hx365_2
          replace hx365_3 := hxB HB.out hx365_3
          replace hx365_4 := hxB HB.out hx365_4
          replace hx365_5 := hxB HB.out hx365_5
          replace hx365_6 := hxB HB.out hx365_6
          have HR365_6 := Aside0.mk hi365_6
          have HC365_6 := Aside0.mk hl365_6
          clear hi365_6 hl365_6
          replace p365 := eq_true p365
          replace q365 := eq_true q365
          refine start_ (n := 8) (S := fun w' => w'.cell? (ad364.add ((x5_1).toNat * 7)) = some (.int .i64 ((rd_T62 l0 x5_1).f0)) ∧ w'.cell? ⟨(ad364.add ((x5_1).toNat * 7)).block, (ad364.add ((x5_1).toNat * 7)).off + 1, none⟩ = some (.string ((rd_T62 l0 x5_1).f1)) ∧ w'.cell? ⟨(ad364.add ((x5_1).toNat * 7)).block, (ad364.add ((x5_1).toNat * 7)).off + 2, none⟩ = some (.int .i64 ((rd_T62 l0 x5_1).f2)) ∧ w'.cell? ⟨(ad364.add ((x5_1).toNat * 7)).block, (ad364.add ((x5_1).toNat * 7)).off + 3, none⟩ = some (.int .i64 ((rd_T62 l0 x5_1).f3)) ∧ w'.cell? ⟨(ad364.add ((x5_1).toNat * 7)).block, (ad364.add ((x5_1).toNat * 7)).off + 4, none⟩ = some (.int .i64 ((rd_T62 l0 x5_1).f4)) ∧ w'.cell? ⟨(ad364.add ((x5_1).toNat * 7)).block, (ad364.add ((x5_1).toNat * 7)).off + 5, none⟩ = some (.bool ((rd_T62 l0 x5_1).f5)) ∧ w'.cell? ⟨(ad364.add ((x5_1).toNat * 7)).block, (ad364.add ((x5_1).toNat * 7)).off + 6, none⟩ = some (.slice A365_6 ((rd_T62 l0 x5_1).f6).length c365_6)) (ds := []) #[false, false, false, false, false, false, false, false] (by kernel_rfl) rfl rfl ⟨(hxB HB.out hw365_0), (hxB HB.out hw365_1), (hxB HB.out hw365_2), (hxB HB.out hw365_3), (hxB HB.out hw365_4), (hxB HB.out hw365_5), (hxB HB.out hw365_6)⟩ (fun hHeld => ?_); refine with_tabW laws_heldNodeS.tab7 laws_heldNodeS.bits7 (fun HT_ HW_ => ?_)
          generalize wr.drew = w20 at HB HR365_6 hx365_0 hx365_1 hx365_2 hx365_3 hx365_4 hx365_5 hx365_6 hHeld ⊢
          refine pt_ 0 21 ?_
          refine pt_ 1 22 ?_
          refine pt_ 2 23 ?_
          refine pt_ 3 24 ?_
          refine pt_ 5 26 ?_
          refine tt_ 4 25 ?_
          refine one_ (i := 6) (N := some 27) #[true, true, true, true, true, true, true, false] rfl rfl (one_of HT_.out (by kernel_rfl)) (by decide) (fun K hK => ?_)
          refine goes_ Try.func61 (by kernel_rfl) rfl #[.int .i64 (wrap64 (x1_1 + 1))] (by rfl) rfl rfl aL ?_
          with_reducible refine (laws_markText.calls k1 (wrap64 (x1_1 + 1)) t366 _ A6.out).mono ?_
          rintro e w21 ⟨rfl, hb⟩
          refine ⟨_, rfl, ?_⟩
          have n0_ := Aside0.mk (below_step bA hb)
          clear HB
          have HB := n0_
          clear n0_
          (try clear hb)
          (try clear hb2)
          (try clear hk)
          (try clear hi)
          refine hK.out _ _ ⟨(hxB HB.out hw365_0), (hxB HB.out hw365_1), (hxB HB.out hw365_2), (hxB HB.out hw365_3), (hxB HB.out hw365_4), (hxB HB.out hw365_5), (hxB HB.out hw365_6)⟩ (fun hHeld => ?_)
          clear hK K
          refine norm_ (a' := ?_) ?_ ?_
          rotate_left
          ·show Act.put _ (some 27) _ = _
           simp only [Act.put, List.setIfInBounds_toArray, List.set_cons_zero, List.set_cons_succ, i64_w, i32_w]
           rfl
          refine pt_ 7 28 ?_
          refine done_ (done_of HT_.out (by kernel_rfl)) ?_
          have p367 : 0 ≤ (x5_1 : Int) := of_decide_eq_true (by assumption)
          have q367 : x5_1 < (l0.length : Int) := of_decide_eq_true (by assumption)
          obtain ⟨ad367, A367_6, c367_6, e367, hx367_0, hx367_1, hx367_2, hx367_3, hx367_4, hx367_5, hx367_6, hl367_6, hi367_6⟩ := at_T62 HR0.out x5_1 p367 q367
          obtain rfl : ad364 = ad367 := (by injection e367)
          replace hx367_0 := hxB HB.out hx367_0
          replace hx367_1 := hxB HB.out hx367_1
          replace hx367_2 := hxB HB.out hx367_2
          replace hx367_3 := hxB HB.out hx367_3
          replace hx367_4 := hxB HB.out hx367_4
          replace hx367_5 := hxB HB.out hx367_5
          replace hx367_6 := hxB HB.out hx367_6
          have HR367_6 := Aside0.mk hi367_6
          have HC367_6 := Aside0.mk hl367_6
          clear hi367_6 hl367_6
          replace p367 := eq_true p367
          replace q367 := eq_true q367
          have p368 : 0 ≤ (x5_1 : Int) := of_decide_eq_true (by assumption)
          have q368 : x5_1 < (l0.length : Int) := of_decide_eq_true (by assumption)
          obtain ⟨ad368, A368_6, c368_6, e368, hx368_0, hx368_1, hx368_2, hx368_3, hx368_4, hx368_5, hx368_6, hl368_6, hi368_6⟩ := at_T62 HR0.out x5_1 p368 q368
          obtain rfl : ad364 = ad368 := (by injection e368)
          replace hx368_0 := hxB HB.out hx368_0
          replace hx368_1 := hxB HB.out hx368_1
          replace hx368_2 := hxB HB.out hx368_2
          replace hx368_3 := hxB HB.out hx368_3
          replace hx368_4 := hxB HB.out hx368_4
          replace hx368_5 := hxB HB.out hx368_5
          replace hx368_6 := hxB HB.out hx368_6
          have HR368_6 := Aside0.mk hi368_6
          have HC368_6 := Aside0.mk hl368_6
          clear hi368_6 hl368_6
          replace p368 := eq_true p368
          replace q368 := eq_true q368
          have ea_ := Option.some.inj (hx367_6.symm.trans hx368_6)
          injection ea_ with ea_ en_ ec_
          subst ea_
          subst ec_
          clear en_
          have p369 : 0 ≤ (x5_1 : Int) := of_decide_eq_true (by assumption)
          have q369 : x5_1 < (l0.length : Int) := of_decide_eq_true (by assumption)
          obtain ⟨ad369, A369_6, c369_6, e369, hx369_0, hx369_1, hx369_2, hx369_3, hx369_4, hx369_5, hx369_6, hl369_6, hi369_6⟩ := at_T62 HR0.out x5_1 p369 q369
          obtain rfl : ad364 = ad369 := (by injection e369)
          replace hx369_0 := hxB HB.out hx369_0
          replace hx369_1 := hxB HB.out hx369_1
          replace hx369_2 := hxB HB.out hx369_2
          replace hx369_3 := hxB HB.out hx369_3
          replace hx369_4 := hxB HB.out hx369_4
          replace hx369_5 := hxB HB.out hx369_5
          replace hx369_6 := hxB HB.out hx369_6
          have HR369_6 := Aside0.mk hi369_6
          have HC369_6 := Aside0.mk hl369_6
          clear hi369_6 hl369_6
          replace p369 := eq_true p369
          replace q369 := eq_true q369
          have ea_ := Option.some.inj (hx367_6.symm.trans hx369_6)
          injection ea_ with ea_ en_ ec_
          subst ea_
          subst ec_
          clear en_
          try go_wp2
          go_ret
          exact ⟨rE, bA⟩
        ·rw [if_neg c9] at H
         have c9b0 : (((rd_T62 l0 x5_1).f3) == (wrap64 ((wrap64 ((wrap64 (x1_1 + 1)) + 1)) + 1))) = false := beq_eq_false_iff_ne.mpr c9
         have c9b1 : (((rd_T62 l0 x5_1).f3) != (wrap64 ((wrap64 ((wrap64 (x1_1 + 1)) + 1)) + 1))) = true := bne_iff_ne.mpr c9
         obtain rfl := Option.some.inj H
         have p364 : 0 ≤ (x5_1 : Int) := of_decide_eq_true (by assumption)
         have q364 : x5_1 < (l0.length : Int) := of_decide_eq_true (by assumption)
         obtain ⟨ad364, A364_6, c364_6, e364, hx364_0, hx364_1, hx364_2, hx364_3, hx364_4, hx364_5, hx364_6, hl364_6, hi364_6⟩ := at_T62 HR0.out x5_1 p364 q364
         cases e364
         replace hx364_0 := hxB HB.out hx364_0
         replace hx364_1 := hxB HB.out hx364_1
         replace hx364_2 := hxB HB.out hx364_2
         replace hx364_3 := hxB HB.out hx364_3
         replace hx364_4 := hxB HB.out hx364_4
         replace hx364_5 := hxB HB.out hx364_5
         replace hx364_6 := hxB HB.out hx364_6
         have HR364_6 := Aside0.mk hi364_6
         have HC364_6 := Aside0.mk hl364_6
         clear hi364_6 hl364_6
         replace p364 := eq_true p364
         replace q364 := eq_true q364
         try go_wp2
         have n0_ := Aside0.mk (below_drew1 HB.out)
         clear HB
         have HB := n0_
         clear n0_
         have p365 : 0 ≤ (x5_1 : Int) := of_decide_eq_true (by assumption)
         have q365 : x5_1 < (l0.length : Int) := of_decide_eq_true (by assumption)
         obtain ⟨ad365, A365_6, c365_6, e365, hx365_0, hx365_1, hx365_2, hx365_3, hx365_4, hx365_5, hx365_6, hl365_6, hi365_6⟩ := at_T62 HR0.out x5_1 p365 q365
         have hw365_6 := hx365_6
         have hw365_5 := hx365_5
         have hw365_4 := hx365_4
         have hw365_3 := hx365_3
         have hw365_2 := hx365_2
         have hw365_1 := hx365_1
         have hw365_0 := hx365_0
         obtain rfl : ad364 = ad365 := (by injection e365)
         replace hx365_0 := hxB HB.out hx365_0
         replace hx365_1 := hxB HB.out hx365_1
         replace hx365_2 := hxB HB.out hx365_2
         replace hx365_3 := hxB HB.out hx365_3
         replace hx365_4 := hxB HB.out hx365_4
         replace hx365_5 := hxB HB.out hx365_5
         replace hx365_6 := hxB HB.out hx365_6
         have HR365_6 := Aside0.mk hi365_6
         have HC365_6 := Aside0.mk hl365_6
         clear hi365_6 hl365_6
         replace p365 := eq_true p365
         replace q365 := eq_true q365
         refine start_ (n := 8) (S := fun w' => w'.cell? (ad364.add ((x5_1).toNat * 7)) = some (.int .i64 ((rd_T62 l0 x5_1).f0)) ∧ w'.cell? ⟨(ad364.add ((x5_1).toNat * 7)).block, (ad364.add ((x5_1).toNat * 7)).off + 1, none⟩ = some (.string ((rd_T62 l0 x5_1).f1)) ∧ w'.cell? ⟨(ad364.add ((x5_1).toNat * 7)).block, (ad364.add ((x5_1).toNat * 7)).off + 2, none⟩ = some (.int .i64 ((rd_T62 l0 x5_1).f2)) ∧ w'.cell? ⟨(ad364.add ((x5_1).toNat * 7)).block, (ad364.add ((x5_1).toNat * 7)).off + 3, none⟩ = some (.int .i64 ((rd_T62 l0 x5_1).f3)) ∧ w'.cell? ⟨(ad364.add ((x5_1).toNat * 7)).block, (ad364.add ((x5_1).toNat * 7)).off + 4, none⟩ = some (.int .i64 ((rd_T62 l0 x5_1).f4)) ∧ w'.cell? ⟨(ad364.add ((x5_1).toNat * 7)).block, (ad364.add ((x5_1).toNat * 7)).off + 5, none⟩ = some (.bool ((rd_T62 l0 x5_1).f5)) ∧ w'.cell? ⟨(ad364.add ((x5_1).toNat * 7)).block, (ad364.add ((x5_1).toNat * 7)).off + 6, none⟩ = some (.slice A365_6 ((rd_T62 l0 x5_1).f6).length c365_6)) (ds := []) #[false, false, false, false, false, false, false, false] (by kernel_rfl) rfl rfl ⟨(hxB HB.out hw365_0), (hxB HB.out hw365_1), (hxB HB.out hw365_2), (hxB HB.out hw365_3), (hxB HB.out hw365_4), (hxB HB.out hw365_5), (hxB HB.out hw365_6)⟩ (fun hHeld => ?_); refine with_tabW laws_heldNodeS.tab7 laws_heldNodeS.bits7 (fun HT_ HW_ => ?_)
         generalize wr.drew = w22 at HB HR365_6 hx365_0 hx365_1 hx365_2 hx365_3 hx365_4 hx365_5 hx365_6 hHeld ⊢
         refine pt_ 0 21 ?_
         refine pt_ 1 22 ?_
         refine pt_ 2 23 ?_
         refine pt_ 3 24 ?_
         refine pt_ 5 26 ?_
         refine tt_ 4 25 ?_
         refine one_ (i := 6) (N := some 27) #[true, true, true, true, true, true, true, false] rfl rfl (one_of HT_.out (by kernel_rfl)) (by decide) (fun K hK => ?_)
         refine goes_ Try.func61 (by kernel_rfl) rfl #[.int .i64 (wrap64 (x1_1 + 1))] (by rfl) rfl rfl aL ?_
         with_reducible refine (laws_markText.calls k1 (wrap64 (x1_1 + 1)) t366 _ A6.out).mono ?_
         rintro e w23 ⟨rfl, hb⟩
         refine ⟨_, rfl, ?_⟩
         have n0_ := Aside0.mk (below_step bA hb)
         clear HB
         have HB := n0_
         clear n0_
         (try clear hb)
         (try clear hb2)
         (try clear hk)
         (try clear hi)
         refine hK.out _ _ ⟨(hxB HB.out hw365_0), (hxB HB.out hw365_1), (hxB HB.out hw365_2), (hxB HB.out hw365_3), (hxB HB.out hw365_4), (hxB HB.out hw365_5), (hxB HB.out hw365_6)⟩ (fun hHeld => ?_)
         clear hK K
         refine norm_ (a' := ?_) ?_ ?_
         rotate_left
         ·show Act.put _ (some 27) _ = _
          simp only [Act.put, List.setIfInBounds_toArray, List.set_cons_zero, List.set_cons_succ, i64_w, i32_w]
          rfl
         refine pt_ 7 28 ?_
         refine done_ (done_of HT_.out (by kernel_rfl)) ?_
         have p367 : 0 ≤ (x5_1 : Int) := of_decide_eq_true (by assumption)
         have q367 : x5_1 < (l0.length : Int) := of_decide_eq_true (by assumption)
         obtain ⟨ad367, A367_6, c367_6, e367, hx367_0, hx367_1, hx367_2, hx367_3, hx367_4, hx367_5, hx367_6, hl367_6, hi367_6⟩ := at_T62 HR0.out x5_1 p367 q367
         obtain rfl : ad364 = ad367 := (by injection e367)
         replace hx367_0 := hxB HB.out hx367_0
         replace hx367_1 := hxB HB.out hx367_1
         replace hx367_2 := hxB HB.out hx367_2
         replace hx367_3 := hxB HB.out hx367_3
         replace hx367_4 := hxB HB.out hx367_4
         replace hx367_5 := hxB HB.out hx367_5
         replace hx367_6 := hxB HB.out hx367_6
         have HR367_6 := Aside0.mk hi367_6
         have HC367_6 := Aside0.mk hl367_6
         clear hi367_6 hl367_6
         replace p367 := eq_true p367
         replace q367 := eq_true q367
         have p368 : 0 ≤ (x5_1 : Int) := of_decide_eq_true (by assumption)
         have q368 : x5_1 < (l0.length : Int) := of_decide_eq_true (by assumption)
         obtain ⟨ad368, A368_6, c368_6, e368, hx368_0, hx368_1, hx368_2, hx368_3, hx368_4, hx368_5, hx368_6, hl368_6, hi368_6⟩ := at_T62 HR0.out x5_1 p368 q368
         obtain rfl : ad364 = ad368 := (by injection e368)
         replace hx368_0 := hxB HB.out hx368_0
         replace hx368_1 := hxB HB.out hx368_1
         replace hx368_2 := hxB HB.out hx368_2
         replace hx368_3 := hxB HB.out hx368_3
         replace hx368_4 := hxB HB.out hx368_4
         replace hx368_5 := hxB HB.out hx368_5
         replace hx368_6 := hxB HB.out hx368_6
         have HR368_6 := Aside0.mk hi368_6
         have HC368_6 := Aside0.mk hl368_6
         clear hi368_6 hl368_6
         replace p368 := eq_true p368
         replace q368 := eq_true q368
         have ea_ := Option.some.inj (hx367_6.symm.trans hx368_6)
         injection ea_ with ea_ en_ ec_
         subst ea_
         subst ec_
         clear en_
         try go_wp2
         go_ret
         exact ⟨rE, bA⟩
       ·rw [if_neg c8] at H
        have c8b0 : (((rd_T62 l0 x5_1).f2) == (wrap64 ((wrap64 (x1_1 + 1)) + 1))) = false := beq_eq_false_iff_ne.mpr c8
        have c8b1 : (((rd_T62 l0 x5_1).f2) != (wrap64 ((wrap64 (x1_1 + 1)) + 1))) = true := bne_iff_ne.mpr c8
        obtain rfl := Option.some.inj H
        have p364 : 0 ≤ (x5_1 : Int) := of_decide_eq_true (by assumption)
        have q364 : x5_1 < (l0.length : Int) := of_decide_eq_true (by assumption)
        obtain ⟨ad364, A364_6, c364_6, e364, hx364_0, hx364_1, hx364_2, hx364_3, hx364_4, hx364_5, hx364_6, hl364_6, hi364_6⟩ := at_T62 HR0.out x5_1 p364 q364
        cases e364
        replace hx364_0 := hxB HB.out hx364_0
        replace hx364_1 := hxB HB.out hx364_1
        replace hx364_2 := hxB HB.out hx364_2
        replace hx364_3 := hxB HB.out hx364_3
        replace hx364_4 := hxB HB.out hx364_4
        replace hx364_5 := hxB HB.out hx364_5
        replace hx364_6 := hxB HB.out hx364_6
        have HR364_6 := Aside0.mk hi364_6
        have HC364_6 := Aside0.mk hl364_6
        clear hi364_6 hl364_6
        replace p364 := eq_true p364
        replace q364 := eq_true q364
        try go_wp2
        have n0_ := Aside0.mk (below_drew1 HB.out)
        clear HB
        have HB := n0_
        clear n0_
        have p365 : 0 ≤ (x5_1 : Int) := of_decide_eq_true (by assumption)
        have q365 : x5_1 < (l0.length : Int) := of_decide_eq_true (by assumption)
        obtain ⟨ad365, A365_6, c365_6, e365, hx365_0, hx365_1, hx365_2, hx365_3, hx365_4, hx365_5, hx365_6, hl365_6, hi365_6⟩ := at_T62 HR0.out x5_1 p365 q365
        have hw365_6 := hx365_6
        have hw365_5 := hx365_5
        have hw365_4 := hx365_4
        have hw365_3 := hx365_3
        have hw365_2 := hx365_2
        have hw365_1 := hx365_1
        have hw365_0 := hx365_0
        obtain rfl : ad364 = ad365 := (by injection e365)
        replace hx365_0 := hxB HB.out hx365_0
        replace hx365_1 := hxB HB.out hx365_1
        replace hx365_2 := hxB HB.out hx365_2
        replace hx365_3 := hxB HB.out hx365_3
        replace hx365_4 := hxB HB.out hx365_4
        replace hx365_5 := hxB HB.out hx365_5
        replace hx365_6 := hxB HB.out hx365_6
        have HR365_6 := Aside0.mk hi365_6
        have HC365_6 := Aside0.mk hl365_6
        clear hi365_6 hl365_6
        replace p365 := eq_true p365
        replace q365 := eq_true q365
        refine start_ (n := 8) (S := fun w' => w'.cell? (ad364.add ((x5_1).toNat * 7)) = some (.int .i64 ((rd_T62 l0 x5_1).f0)) ∧ w'.cell? ⟨(ad364.add ((x5_1).toNat * 7)).block, (ad364.add ((x5_1).toNat * 7)).off + 1, none⟩ = some (.string ((rd_T62 l0 x5_1).f1)) ∧ w'.cell? ⟨(ad364.add ((x5_1).toNat * 7)).block, (ad364.add ((x5_1).toNat * 7)).off + 2, none⟩ = some (.int .i64 ((rd_T62 l0 x5_1).f2)) ∧ w'.cell? ⟨(ad364.add ((x5_1).toNat * 7)).block, (ad364.add ((x5_1).toNat * 7)).off + 3, none⟩ = some (.int .i64 ((rd_T62 l0 x5_1).f3)) ∧ w'.cell? ⟨(ad364.add ((x5_1).toNat * 7)).block, (ad364.add ((x5_1).toNat * 7)).off + 4, none⟩ = some (.int .i64 ((rd_T62 l0 x5_1).f4)) ∧ w'.cell? ⟨(ad364.add ((x5_1).toNat * 7)).block, (ad364.add ((x5_1).toNat * 7)).off + 5, none⟩ = some (.bool ((rd_T62 l0 x5_1).f5)) ∧ w'.cell? ⟨(ad364.add ((x5_1).toNat * 7)).block, (ad364.add ((x5_1).toNat * 7)).off + 6, none⟩ = some (.slice A365_6 ((rd_T62 l0 x5_1).f6).length c365_6)) (ds := []) #[false, false, false, false, false, false, false, false] (by kernel_rfl) rfl rfl ⟨(hxB HB.out hw365_0), (hxB HB.out hw365_1), (hxB HB.out hw365_2), (hxB HB.out hw365_3), (hxB HB.out hw365_4), (hxB HB.out hw365_5), (hxB HB.out hw365_6)⟩ (fun hHeld => ?_); refine with_tabW laws_heldNodeS.tab7 laws_heldNodeS.bits7 (fun HT_ HW_ => ?_)
        generalize wr.drew = w24 at HB HR365_6 hx365_0 hx365_1 hx365_2 hx365_3 hx365_4 hx365_5 hx365_6 hHeld ⊢
        refine pt_ 0 21 ?_
        refine pt_ 1 22 ?_
        refine pt_ 2 23 ?_
        refine pt_ 3 24 ?_
        refine pt_ 5 26 ?_
        refine tt_ 4 25 ?_
        refine one_ (i := 6) (N := some 27) #[true, true, true, true, true, true, true, false] rfl rfl (one_of HT_.out (by kernel_rfl)) (by decide) (fun K hK => ?_)
        refine goes_ Try.func61 (by kernel_rfl) rfl #[.int .i64 (wrap64 (x1_1 + 1))] (by rfl) rfl rfl aL ?_
        with_reducible refine (laws_markText.calls k1 (wrap64 (x1_1 + 1)) t366 _ A6.out).mono ?_
        rintro e w25 ⟨rfl, hb⟩
        refine ⟨_, rfl, ?_⟩
        have n0_ := Aside0.mk (below_step bA hb)
        clear HB
        have HB := n0_
        clear n0_
        (try clear hb)
        (try clear hb2)
        (try clear hk)
        (try clear hi)
        refine hK.out _ _ ⟨(hxB HB.out hw365_0), (hxB HB.out hw365_1), (hxB HB.out hw365_2), (hxB HB.out hw365_3), (hxB HB.out hw365_4), (hxB HB.out hw365_5), (hxB HB.out hw365_6)⟩ (fun hHeld => ?_)
        clear hK K
        refine norm_ (a' := ?_) ?_ ?_
        rotate_left
        ·show Act.put _ (some 27) _ = _
         simp only [Act.put, List.setIfInBounds_toArray, List.set_cons_zero, List.set_cons_succ, i64_w, i32_w]
         rfl
        refine pt_ 7 28 ?_
        refine done_ (done_of HT_.out (by kernel_rfl)) ?_
        have p367 : 0 ≤ (x5_1 : Int) := of_decide_eq_true (by assumption)
        have q367 : x5_1 < (l0.length : Int) := of_decide_eq_true (by assumption)
        obtain ⟨ad367, A367_6, c367_6, e367, hx367_0, hx367_1, hx367_2, hx367_3, hx367_4, hx367_5, hx367_6, hl367_6, hi367_6⟩ := at_T62 HR0.out x5_1 p367 q367
        obtain rfl : ad364 = ad367 := (by injection e367)
        replace hx367_0 := hxB HB.out hx367_0
        replace hx367_1 := hxB HB.out hx367_1
        replace hx367_2 := hxB HB.out hx367_2
        replace hx367_3 := hxB HB.out hx367_3
        replace hx367_4 := hxB HB.out hx367_4
        replace hx367_5 := hxB HB.out hx367_5
        replace hx367_6 := hxB HB.out hx367_6
        have HR367_6 := Aside0.mk hi367_6
        have HC367_6 := Aside0.mk hl367_6
        clear hi367_6 hl367_6
        replace p367 := eq_true p367
        replace q367 := eq_true q367
        try go_wp2
        go_ret
        exact ⟨rE, bA⟩
      ·rw [if_neg c7] at H
       have c7b0 : (((rd_T62 l0 x5_1).f1).toList == t366.toList) = false := beq_eq_false_iff_ne.mpr c7
       have c7b1 : (((rd_T62 l0 x5_1).f1).toList != t366.toList) = true := bne_iff_ne.mpr c7
       obtain rfl := Option.some.inj H
       have p364 : 0 ≤ (x5_1 : Int) := of_decide_eq_true (by assumption)
       have q364 : x5_1 < (l0.length : Int) := of_decide_eq_true (by assumption)
       obtain ⟨ad364, A364_6, c364_6, e364, hx364_0, hx364_1, hx364_2, hx364_3, hx364_4, hx364_5, hx364_6, hl364_6, hi364_6⟩ := at_T62 HR0.out x5_1 p364 q364
       cases e364
       replace hx364_0 := hxB HB.out hx364_0
       replace hx364_1 := hxB HB.out hx364_1
       replace hx364_2 := hxB HB.out hx364_2
       replace hx364_3 := hxB HB.out hx364_3
       replace hx364_4 := hxB HB.out hx364_4
       replace hx364_5 := hxB HB.out hx364_5
       replace hx364_6 := hxB HB.out hx364_6
       have HR364_6 := Aside0.mk hi364_6
       have HC364_6 := Aside0.mk hl364_6
       clear hi364_6 hl364_6
       replace p364 := eq_true p364
       replace q364 := eq_true q364
       try go_wp2
       have n0_ := Aside0.mk (below_drew1 HB.out)
       clear HB
       have HB := n0_
       clear n0_
       have p365 : 0 ≤ (x5_1 : Int) := of_decide_eq_true (by assumption)
       have q365 : x5_1 < (l0.length : Int) := of_decide_eq_true (by assumption)
       obtain ⟨ad365, A365_6, c365_6, e365, hx365_0, hx365_1, hx365_2, hx365_3, hx365_4, hx365_5, hx365_6, hl365_6, hi365_6⟩ := at_T62 HR0.out x5_1 p365 q365
       have hw365_6 := hx365_6
       have hw365_5 := hx365_5
       have hw365_4 := hx365_4
       have hw365_3 := hx365_3
       have hw365_2 := hx365_2
       have hw365_1 := hx365_1
       have hw365_0 := hx365_0
       obtain rfl : ad364 = ad365 := (by injection e365)
       replace hx365_0 := hxB HB.out hx365_0
       replace hx365_1 := hxB HB.out hx365_1
       replace hx365_2 := hxB HB.out hx365_2
       replace hx365_3 := hxB HB.out hx365_3
       replace hx365_4 := hxB HB.out hx365_4
       replace hx365_5 := hxB HB.out hx365_5
       replace hx365_6 := hxB HB.out hx365_6
       have HR365_6 := Aside0.mk hi365_6
       have HC365_6 := Aside0.mk hl365_6
       clear hi365_6 hl365_6
       replace p365 := eq_true p365
       replace q365 := eq_true q365
       refine start_ (n := 8) (S := fun w' => w'.cell? (ad364.add ((x5_1).toNat * 7)) = some (.int .i64 ((rd_T62 l0 x5_1).f0)) ∧ w'.cell? ⟨(ad364.add ((x5_1).toNat * 7)).block, (ad364.add ((x5_1).toNat * 7)).off + 1, none⟩ = some (.string ((rd_T62 l0 x5_1).f1)) ∧ w'.cell? ⟨(ad364.add ((x5_1).toNat * 7)).block, (ad364.add ((x5_1).toNat * 7)).off + 2, none⟩ = some (.int .i64 ((rd_T62 l0 x5_1).f2)) ∧ w'.cell? ⟨(ad364.add ((x5_1).toNat * 7)).block, (ad364.add ((x5_1).toNat * 7)).off + 3, none⟩ = some (.int .i64 ((rd_T62 l0 x5_1).f3)) ∧ w'.cell? ⟨(ad364.add ((x5_1).toNat * 7)).block, (ad364.add ((x5_1).toNat * 7)).off + 4, none⟩ = some (.int .i64 ((rd_T62 l0 x5_1).f4)) ∧ w'.cell? ⟨(ad364.add ((x5_1).toNat * 7)).block, (ad364.add ((x5_1).toNat * 7)).off + 5, none⟩ = some (.bool ((rd_T62 l0 x5_1).f5)) ∧ w'.cell? ⟨(ad364.add ((x5_1).toNat * 7)).block, (ad364.add ((x5_1).toNat * 7)).off + 6, none⟩ = some (.slice A365_6 ((rd_T62 l0 x5_1).f6).length c365_6)) (ds := []) #[false, false, false, false, false, false, false, false] (by kernel_rfl) rfl rfl ⟨(hxB HB.out hw365_0), (hxB HB.out hw365_1), (hxB HB.out hw365_2), (hxB HB.out hw365_3), (hxB HB.out hw365_4), (hxB HB.out hw365_5), (hxB HB.out hw365_6)⟩ (fun hHeld => ?_); refine with_tabW laws_heldNodeS.tab7 laws_heldNodeS.bits7 (fun HT_ HW_ => ?_)
       generalize wr.drew = w26 at HB HR365_6 hx365_0 hx365_1 hx365_2 hx365_3 hx365_4 hx365_5 hx365_6 hHeld ⊢
       refine pt_ 0 21 ?_
       refine pt_ 1 22 ?_
       refine pt_ 2 23 ?_
       refine pt_ 3 24 ?_
       refine pt_ 5 26 ?_
       refine tt_ 4 25 ?_
       refine one_ (i := 6) (N := some 27) #[true, true, true, true, true, true, true, false] rfl rfl (one_of HT_.out (by kernel_rfl)) (by decide) (fun K hK => ?_)
       refine goes_ Try.func61 (by kernel_rfl) rfl #[.int .i64 (wrap64 (x1_1 + 1))] (by rfl) rfl rfl aL ?_
       with_reducible refine (laws_markText.calls k1 (wrap64 (x1_1 + 1)) t366 _ A6.out).mono ?_
       rintro e w27 ⟨rfl, hb⟩
       refine ⟨_, rfl, ?_⟩
       have n0_ := Aside0.mk (below_step bA hb)
       clear HB
       have HB := n0_
       clear n0_
       (try clear hb)
       (try clear hb2)
       (try clear hk)
       (try clear hi)
       refine hK.out _ _ ⟨(hxB HB.out hw365_0), (hxB HB.out hw365_1), (hxB HB.out hw365_2), (hxB HB.out hw365_3), (hxB HB.out hw365_4), (hxB HB.out hw365_5), (hxB HB.out hw365_6)⟩ (fun hHeld => ?_)
       clear hK K
       refine norm_ (a' := ?_) ?_ ?_
       rotate_left
       ·show Act.put _ (some 27) _ = _
        simp only [Act.put, List.setIfInBounds_toArray, List.set_cons_zero, List.set_cons_succ, i64_w, i32_w]
        rfl
       refine pt_ 7 28 ?_
       refine done_ (done_of HT_.out (by kernel_rfl)) ?_
       try go_wp2
       go_ret
       exact ⟨rE, bA⟩
     ·rw [if_neg c5] at H
      have c5b0 : (((rd_T62 l0 x5_1).f0) == x1_1) = false := beq_eq_false_iff_ne.mpr c5
      have c5b1 : (((rd_T62 l0 x5_1).f0) != x1_1) = true := bne_iff_ne.mpr c5
      obtain rfl := Option.some.inj H
      have p364 : 0 ≤ (x5_1 : Int) := of_decide_eq_true (by assumption)
      have q364 : x5_1 < (l0.length : Int) := of_decide_eq_true (by assumption)
      obtain ⟨ad364, A364_6, c364_6, e364, hx364_0, hx364_1, hx364_2, hx364_3, hx364_4, hx364_5, hx364_6, hl364_6, hi364_6⟩ := at_T62 HR0.out x5_1 p364 q364
      cases e364
      replace hx364_0 := hxB HB.out hx364_0
      replace hx364_1 := hxB HB.out hx364_1
      replace hx364_2 := hxB HB.out hx364_2
      replace hx364_3 := hxB HB.out hx364_3
      replace hx364_4 := hxB HB.out hx364_4
      replace hx364_5 := hxB HB.out hx364_5
      replace hx364_6 := hxB HB.out hx364_6
      have HR364_6 := Aside0.mk hi364_6
      have HC364_6 := Aside0.mk hl364_6
      clear hi364_6 hl364_6
      replace p364 := eq_true p364
      replace q364 := eq_true q364
      go_wp2
      go_ret
      exact ⟨rE, bA⟩
    ·rw [if_neg c4] at H
     exact absurd H (by simp)
   ·rw [if_neg c3] at H
    have c3b0 : decide (x5_1 < (l0.length : Int)) = false := decide_eq_false c3
    clear c3
    obtain rfl := Option.some.inj H
    go_wp2
    go_ret
    exact ⟨rE, bA⟩

end Go.Proofs.Ytgmhohafoclmpaa.Q
