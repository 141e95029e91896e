/- The machine side of a law, written by a program of this session over the translation: for each Go function a Lean function with the same answers, and the proof that the Go code comes to them. -/
import Derived.Test.YtmjfnkebpdmhbaaQx0
import Derived.Test.YtmjfnkebpdmhbaaQx2
import Derived.Test.YtmjfnkebpdmhbaaQx7
namespace Go.Proofs.Ytmjfnkebpdmhbaa.Q
open Go.RowKit Go.Proofs.Ytmjfnkebpdmhbaa.Own Go.Proofs.YtmjfnkebpdmhbaaW.PrintWords Go.Proofs.YtmjfnkebpdmhbaaW.PrintLast Go.Proofs.YtmjfnkebpdmhbaaW.PrintMore
attribute [local go_sem] max2_int min2_int max_two min_two max_three min_three max_four min_four   -- for this text's walks alone
set_option linter.unusedVariables false
set_option linter.unusedSimpArgs false

/-! ### slices_IndexFunc_impl_Node_impl_Node: function 111 -/
def slices_IndexFunc_impl_Node_impl_Node.l0 : Nat → List (S33) → Int → Int → Option (Int)
 | 0, _, _, _ => none
 | k + 1, x0, x7, x8 => if x8 < x7 then (if 0 ≤ x8 then (if x8 < (x0.length : Int) then ((impl_PlanOk_1.f k ((rd_T33 x0 x8).f0) ((rd_T33 x0 x8).f1) ((rd_T33 x0 x8).f2) ((rd_T33 x0 x8).f3) ((rd_T33 x0 x8).f4) ((rd_T33 x0 x8).f5) ((rd_T33 x0 x8).f6)).bind fun t289 => (if t289 = true then (some x8) else (slices_IndexFunc_impl_Node_impl_Node.l0 k x0 x7 (wrap64 (x8 + 1))))) else (none)) else (none)) else (some (-1))
def slices_IndexFunc_impl_Node_impl_Node.f (k : Nat) (l0 : List (S33))  : Option (Int) := slices_IndexFunc_impl_Node_impl_Node.l0 k l0 (l0.length : Int) 0
theorem slices_IndexFunc_impl_Node_impl_Node.mono_l : ∀ k, (∀ y0 y1 y2, LeO (slices_IndexFunc_impl_Node_impl_Node.l0 k y0 y1 y2) (slices_IndexFunc_impl_Node_impl_Node.l0 (k + 1) y0 y1 y2))
 | 0 => fun _ _ _ r h => by simp [slices_IndexFunc_impl_Node_impl_Node.l0] at h
 | k + 1 => by
  have ih0 := slices_IndexFunc_impl_Node_impl_Node.mono_l k
  ·intro y0 y1 y2
   unfold slices_IndexFunc_impl_Node_impl_Node.l0
   repeat' first
   | (with_reducible exact ih0 _ _ _)
   | (with_reducible exact impl_PlanOk_1.mono _ _ _ _ _ _ _ _)
   | (with_reducible exact LeO.refl _)
   | (with_reducible exact LeO.none _)
   | (with_reducible refine LeO.ite ?_ ?_)
   | (with_reducible refine LeO.bind ?_ (fun _ => ?_))
   | exact ih0 _ _ _
   | exact impl_PlanOk_1.mono _ _ _ _ _ _ _ _
   | exact LeO.none _
   | refine LeO.ite ?_ ?_
   | refine LeO.bind ?_ (fun _ => ?_)
theorem slices_IndexFunc_impl_Node_impl_Node.mono : ∀ a0 k, LeO (slices_IndexFunc_impl_Node_impl_Node.f k a0) (slices_IndexFunc_impl_Node_impl_Node.f (k + 1) a0) := by
 intro a0 k
 have ih0 := slices_IndexFunc_impl_Node_impl_Node.mono_l k
 unfold slices_IndexFunc_impl_Node_impl_Node.f
 repeat' first
   | (with_reducible exact ih0 _ _ _)
   | (with_reducible exact impl_PlanOk_1.mono _ _ _ _ _ _ _ _)
   | (with_reducible exact LeO.refl _)
   | (with_reducible exact LeO.none _)
   | (with_reducible refine LeO.ite ?_ ?_)
   | (with_reducible refine LeO.bind ?_ (fun _ => ?_))
   | exact ih0 _ _ _
   | exact impl_PlanOk_1.mono _ _ _ _ _ _ _ _
   | exact LeO.none _
   | refine LeO.ite ?_ ?_
   | refine LeO.bind ?_ (fun _ => ?_)
set_option maxHeartbeats 8000000 in
set_option maxRecDepth 100000 in
theorem slices_IndexFunc_impl_Node_impl_Node.calls (k : Nat) (A0 : Option Addr) (c0 : Nat) (l0 : List (S33))  (r : Int) (w : World) (hr0 : Kd.C k33 w A0 l0.length l0) (hc0 : l0.length ≤ c0) (h : slices_IndexFunc_impl_Node_impl_Node.f k l0 = some r) :
  Calls Try.prog 111 #[.slice A0 l0.length c0, .func (.func 74) #[] #[]] w fun e w' => e = .returned (.int .i64 r) ∧ Below w.heap.size w w' := by
 have hu33 := Try.underlying33
 have HR0 := Aside0.mk hr0
 have HC0 := Aside0.mk hc0
 clear hr0 hc0
 have HB := Aside0.mk (Below.refl w.heap.size w)
 have H : (slices_IndexFunc_impl_Node_impl_Node.l0 k l0 (l0.length : Int) 0) = some r := h
 clear h
 have H' := Aside0.mk H
 clear H
 go_enter Try.func111, Try.ntmps111
 go_wp2
 go_loopg [8] k (fun kq v8 w' => ∃ (x8_1 : Int), v8 = .int .i64 x8_1 ∧ Aside0 (slices_IndexFunc_impl_Node_impl_Node.l0 kq l0 (l0.length : Int) x8_1 = some r) ∧ Aside0 (kq ≤ k) ∧ Aside0 (Below w.heap.size w w'))
 case atStart => exact ⟨(0), rF, H', ⟨Nat.le_refl _⟩, ⟨bA⟩⟩
 case round =>
  clear H'
  try clear c1
  try clear p2
  obtain ⟨x8_1, rfl, HA, HK1, HB⟩ := hrel
  cases gk with
  | zero => exact absurd HA.out (by simp [slices_IndexFunc_impl_Node_impl_Node.l0])
  | succ k1 =>
   have H := HA.out
   clear HA
   simp only [slices_IndexFunc_impl_Node_impl_Node.l0] at H
   by_cases c3 : x8_1 < (l0.length : Int)
   ·rw [if_pos c3] at H
    have c3b0 : decide (x8_1 < (l0.length : Int)) = true := decide_eq_true c3
    clear c3
    by_cases c4 : 0 ≤ x8_1
    ·rw [if_pos c4] at H
     have c4b0 : decide (0 ≤ x8_1) = true := decide_eq_true c4
     clear c4
     by_cases c5 : x8_1 < (l0.length : Int)
     ·rw [if_pos c5] at H
      have c5b0 : decide (x8_1 < (l0.length : Int)) = true := decide_eq_true c5
      clear c5
      replace H := Option.bind_eq_some_iff.mp H
      obtain ⟨t289, A60, H⟩ := H
      replace H : (if t289 = true then (some x8_1) else (slices_IndexFunc_impl_Node_impl_Node.l0 k1 l0 (l0.length : Int) (wrap64 (x8_1 + 1)))) = some r := H
      have A6 := Aside0.mk A60
      clear A60
      by_cases c7 : t289 = true
      ·subst c7
       have H1 : (some x8_1) = some r := by rw [if_pos rfl] at H; exact H
       clear H
       have H := H1
       clear H1
       obtain rfl := Option.some.inj H
       have p288 : 0 ≤ (x8_1 : Int) := of_decide_eq_true (by assumption)
       have q288 : x8_1 < (l0.length : Int) := of_decide_eq_true (by assumption)
       obtain ⟨ad288, A288_6, c288_6, e288, hx288_0, hx288_1, hx288_2, hx288_3, hx288_4, hx288_5, hx288_6, hl288_6, hi288_6⟩ := at_T33 HR0.out x8_1 p288 q288
       cases e288
       replace hx288_0 := hxB HB.out hx288_0
       replace hx288_1 := hxB HB.out hx288_1
       replace hx288_2 := hxB HB.out hx288_2
       replace hx288_3 := hxB HB.out hx288_3
       replace hx288_4 := hxB HB.out hx288_4
       replace hx288_5 := hxB HB.out hx288_5
       replace hx288_6 := hxB HB.out hx288_6
       have HR288_6 := Aside0.mk hi288_6
       have HC288_6 := Aside0.mk hl288_6
       clear hi288_6 hl288_6
       replace p288 := eq_true p288
       replace q288 := eq_true q288
       go_wp2_with (first | (go_at_call 74; (with_reducible refine (impl_PlanOk_1.calls k1 ((rd_T33 l0 x8_1).f0) ((rd_T33 l0 x8_1).f1) ((rd_T33 l0 x8_1).f2) ((rd_T33 l0 x8_1).f3) ((rd_T33 l0 x8_1).f4) ((rd_T33 l0 x8_1).f5) _ _ ((rd_T33 l0 x8_1).f6) true _ ?side1 ?side2 A6.out).mono ?_); (case side1 => exact cA); (case side2 => exact HC288_6.out); rintro e w8 ⟨rfl, hb⟩; have n0_ := Aside0.mk (below_step bA hb); clear HB; have HB := n0_; clear n0_; (try clear hb); (try clear hb2); (try clear hk); (try clear hi)))
       go_ret
       exact ⟨rE, bA⟩
      ·replace c7 := Bool.eq_false_iff.mpr c7
       subst c7
       have H1 : (slices_IndexFunc_impl_Node_impl_Node.l0 k1 l0 (l0.length : Int) (wrap64 (x8_1 + 1))) = some r := by rw [if_neg (show ¬ (false = true) by decide)] at H; exact H
       clear H
       have H := H1
       clear H1
       have H' := Aside0.mk H
       clear H
       have p288 : 0 ≤ (x8_1 : Int) := of_decide_eq_true (by assumption)
       have q288 : x8_1 < (l0.length : Int) := of_decide_eq_true (by assumption)
       obtain ⟨ad288, A288_6, c288_6, e288, hx288_0, hx288_1, hx288_2, hx288_3, hx288_4, hx288_5, hx288_6, hl288_6, hi288_6⟩ := at_T33 HR0.out x8_1 p288 q288
       cases e288
       replace hx288_0 := hxB HB.out hx288_0
       replace hx288_1 := hxB HB.out hx288_1
       replace hx288_2 := hxB HB.out hx288_2
       replace hx288_3 := hxB HB.out hx288_3
       replace hx288_4 := hxB HB.out hx288_4
       replace hx288_5 := hxB HB.out hx288_5
       replace hx288_6 := hxB HB.out hx288_6
       have HR288_6 := Aside0.mk hi288_6
       have HC288_6 := Aside0.mk hl288_6
       clear hi288_6 hl288_6
       replace p288 := eq_true p288
       replace q288 := eq_true q288
       go_wp2_with (first | (go_at_call 74; (with_reducible refine (impl_PlanOk_1.calls k1 ((rd_T33 l0 x8_1).f0) ((rd_T33 l0 x8_1).f1) ((rd_T33 l0 x8_1).f2) ((rd_T33 l0 x8_1).f3) ((rd_T33 l0 x8_1).f4) ((rd_T33 l0 x8_1).f5) _ _ ((rd_T33 l0 x8_1).f6) false _ ?side1 ?side2 A6.out).mono ?_); (case side1 => exact cA); (case side2 => exact HC288_6.out); rintro e w9 ⟨rfl, hb⟩; have n0_ := Aside0.mk (below_step bA hb); clear HB; have HB := n0_; clear n0_; (try clear hb); (try clear hb2); (try clear hk); (try clear hi)))
       go_roundg k1
       case measure => have := HK1.out; omega
       case rel => exact ⟨(wrap64 (x8_1 + 1)), rF, H', ⟨by have := HK1.out; omega⟩, ⟨bA⟩⟩
     ·rw [if_neg c5] at H
      exact absurd H (by simp)
    ·rw [if_neg c4] at H
     exact absurd H (by simp)
   ·rw [if_neg c3] at H
    have c3b0 : decide (x8_1 < (l0.length : Int)) = false := decide_eq_false c3
    clear c3
    obtain rfl := Option.some.inj H
    go_wp2
    go_ret
    exact ⟨rE, bA⟩

/-! ### slices_ContainsFunc_impl_Node_impl_Node: function 73 -/
def slices_ContainsFunc_impl_Node_impl_Node.f (k : Nat) (l0 : List (S33))  : Option (Bool) := (slices_IndexFunc_impl_Node_impl_Node.f k l0).bind fun t290 => (some (decide (t290 ≥ 0)))
theorem slices_ContainsFunc_impl_Node_impl_Node.mono : ∀ a0 k, LeO (slices_ContainsFunc_impl_Node_impl_Node.f k a0) (slices_ContainsFunc_impl_Node_impl_Node.f (k + 1) a0) := by
 intro a0 k
 unfold slices_ContainsFunc_impl_Node_impl_Node.f
 repeat' first
   | (with_reducible exact slices_IndexFunc_impl_Node_impl_Node.mono _ _)
   | (with_reducible exact LeO.refl _)
   | (with_reducible exact LeO.none _)
   | (with_reducible refine LeO.ite ?_ ?_)
   | (with_reducible refine LeO.bind ?_ (fun _ => ?_))
   | exact slices_IndexFunc_impl_Node_impl_Node.mono _ _
   | exact LeO.none _
   | refine LeO.ite ?_ ?_
   | refine LeO.bind ?_ (fun _ => ?_)
set_option maxHeartbeats 8000000 in
set_option maxRecDepth 100000 in
theorem slices_ContainsFunc_impl_Node_impl_Node.calls (k : Nat) (A0 : Option Addr) (c0 : Nat) (l0 : List (S33))  (r : Bool) (w : World) (hr0 : Kd.C k33 w A0 l0.length l0) (hc0 : l0.length ≤ c0) (h : slices_ContainsFunc_impl_Node_impl_Node.f k l0 = some r) :
  Calls Try.prog 73 #[.slice A0 l0.length c0, .func (.func 74) #[] #[]] w fun e w' => e = .returned (.bool r) ∧ Below w.heap.size w w' := by
 have HR0 := Aside0.mk hr0
 have HC0 := Aside0.mk hc0
 clear hr0 hc0
 have HB := Aside0.mk (Below.refl w.heap.size w)
 have H : ((slices_IndexFunc_impl_Node_impl_Node.f k l0).bind fun t290 => (some (decide (t290 ≥ 0)))) = some r := h
 clear h
 replace H := Option.bind_eq_some_iff.mp H
 obtain ⟨t290, A30, H⟩ := H
 replace H : (some (decide (t290 ≥ 0))) = some r := H
 have A3 := Aside0.mk A30
 clear A30
 obtain rfl := Option.some.inj H
 go_enter Try.func73, Try.ntmps73
 go_wp2_with (first | ((with_reducible refine gate_callee (f := 111) rfl ?_); refine goesL_ (some 7) rfl rfl Try.func111 (by kernel_rfl) rfl #[.slice A0 l0.length c0, .func (.func 74) #[] #[]] rfl aL ?_; (with_reducible refine (slices_IndexFunc_impl_Node_impl_Node.calls k _ _ l0  t290 _ ?side1 ?side2 A3.out).mono ?_); (case side1 => exact cA); (case side2 => exact HC0.out); rintro e w4 ⟨rfl, hb⟩; refine ⟨_, rfl, ?_⟩; have n0_ := Aside0.mk (below_step bA hb); clear HB; have HB := n0_; clear n0_; (try clear hb); (try clear hb2); (try clear hk); (try clear hi)))
 go_ret
 exact ⟨rE, bA⟩

/-! ### impl_ArityOf: function 112 -/
def impl_ArityOf.j0 : Nat → Int → Bool → Option (Int)
 | 0, _, _ => none
 | k + 1, x3, x6 => if x6 = true then (some 2) else (if x3 = 1 then (some 1) else (if x3 = 2 then (some 1) else (if x3 = 5 then (some 1) else (if x3 = 6 then (some 1) else (if x3 = 7 then (some 1) else (some (-1)))))))
def impl_ArityOf.f (k : Nat) (a0 : Int) : Option (Int) := if a0 = 0 then (some 0) else (if a0 = 3 then (impl_ArityOf.j0 k a0 (a0 == 3)) else (impl_ArityOf.j0 k a0 (a0 == 4)))
theorem impl_ArityOf.mono_l : ∀ k, (∀ y0 y1, LeO (impl_ArityOf.j0 k y0 y1) (impl_ArityOf.j0 (k + 1) y0 y1))
 | 0 => fun _ _ r h => by simp [impl_ArityOf.j0] at h
 | k + 1 => by
  have ih0 := impl_ArityOf.mono_l k
  ·intro y0 y1
   unfold impl_ArityOf.j0
   repeat' first
   | (with_reducible exact ih0 _ _)
   | (with_reducible exact LeO.refl _)
   | (with_reducible exact LeO.none _)
   | (with_reducible refine LeO.ite ?_ ?_)
   | (with_reducible refine LeO.bind ?_ (fun _ => ?_))
   | exact ih0 _ _
   | exact LeO.none _
   | refine LeO.ite ?_ ?_
   | refine LeO.bind ?_ (fun _ => ?_)
theorem impl_ArityOf.mono : ∀ a0 k, LeO (impl_ArityOf.f k a0) (impl_ArityOf.f (k + 1) a0) := by
 intro a0 k
 have ih0 := impl_ArityOf.mono_l k
 unfold impl_ArityOf.f
 repeat' first
   | (with_reducible exact ih0 _ _)
   | (with_reducible exact LeO.refl _)
   | (with_reducible exact LeO.none _)
   | (with_reducible refine LeO.ite ?_ ?_)
   | (with_reducible refine LeO.bind ?_ (fun _ => ?_))
   | exact ih0 _ _
   | exact LeO.none _
   | refine LeO.ite ?_ ?_
   | refine LeO.bind ?_ (fun _ => ?_)
set_option maxHeartbeats 8000000 in
set_option maxRecDepth 100000 in
theorem impl_ArityOf.calls (k : Nat) (a0 : Int) (r : Int) (w : World) (h : impl_ArityOf.f k a0 = some r) :
  Calls Try.prog 112 #[.int .i64 a0] w fun e w' => e = .returned (.int .i64 r) ∧ Drawn0 w w' := by
 have H : (if a0 = 0 then (some 0) else (if a0 = 3 then (impl_ArityOf.j0 k a0 (a0 == 3)) else (impl_ArityOf.j0 k a0 (a0 == 4)))) = some r := h
 clear h
 by_cases c2 : a0 = 0
 ·rw [if_pos c2] at H
  have c2b0 : (a0 == 0) = true := beq_iff_eq.mpr c2
  have c2b1 : (a0 != 0) = false := bne_eq_false_iff_eq.mpr c2
  clear c2
  obtain rfl := Option.some.inj H
  go_enter Try.func112, Try.ntmps112
  go_wp2
  go_ret
  exact ⟨rF, by repeat (first | exact Drawn0.refl _ | apply Drawn0.step)⟩
 ·rw [if_neg c2] at H
  have c2b0 : (a0 == 0) = false := beq_eq_false_iff_ne.mpr c2
  have c2b1 : (a0 != 0) = true := bne_iff_ne.mpr c2
  have HC3 := Aside0.mk H
  clear H
  go_enter Try.func112, Try.ntmps112
  go_upto_if 6 with (fail)
  go_cut [6] (fun v6 wc => ∃ (kq : Nat) (x6_2 : Bool), v6 = .bool x6_2 ∧ Aside0 (impl_ArityOf.j0 kq a0 x6_2 = some r) ∧ Aside0 (kq ≤ k) ∧ Drawn0 w wc)
  case first =>
   have H := HC3.out
   clear HC3
   by_cases c4 : a0 = 3
   ·rw [if_pos c4] at H
    have c4b0 : (a0 == 3) = true := beq_iff_eq.mpr c4
    have c4b1 : (a0 != 3) = false := bne_eq_false_iff_eq.mpr c4
    clear c4
    (first | rw [c4b0] | (simp only [i64_w, i32_w]; rw [c4b0]) | skip)
    have H' := Aside0.mk H
    clear H
    go_wp2
    go_meet
    case rel => exact ⟨_, ((a0 == 3)), rF, H', ⟨by first | omega | exact Nat.le_refl _⟩, by repeat (first | exact Drawn0.refl _ | apply Drawn0.step)⟩
   ·rw [if_neg c4] at H
    have c4b0 : (a0 == 3) = false := beq_eq_false_iff_ne.mpr c4
    have c4b1 : (a0 != 3) = true := bne_iff_ne.mpr c4
    (first | rw [c4b0] | (simp only [i64_w, i32_w]; rw [c4b0]) | skip)
    have H' := Aside0.mk H
    clear H
    go_wp2
    go_meet
    case rel => exact ⟨_, ((a0 == 4)), rF, H', ⟨by first | omega | exact Nat.le_refl _⟩, by repeat (first | exact Drawn0.refl _ | apply Drawn0.step)⟩
  case rest =>
   clear HC3
   try clear c1
   try clear c2
   try clear c2b0
   try clear c2b1
   try clear p2
   try clear c4
   try clear c4b0
   try clear c4b1
   obtain ⟨kq, x6_2, rfl, HA, HJ2, ⟨mc2, rfl⟩⟩ := hcut
   cases kq with
   | zero => exact absurd HA.out (by simp [impl_ArityOf.j0])
   | succ kj2 =>
    have H := HA.out
    clear HA
    simp only [impl_ArityOf.j0] at H
    by_cases c5 : x6_2 = true
    ·subst c5
     have H1 : (some 2) = some r := by rw [if_pos rfl] at H; exact H
     clear H
     have H := H1
     clear H1
     obtain rfl := Option.some.inj H
     go_wp2
     go_ret
     exact ⟨rF, by repeat (first | exact Drawn0.refl _ | apply Drawn0.step)⟩
    ·replace c5 := Bool.eq_false_iff.mpr c5
     subst c5
     have H1 : (if a0 = 1 then (some 1) else (if a0 = 2 then (some 1) else (if a0 = 5 then (some 1) else (if a0 = 6 then (some 1) else (if a0 = 7 then (some 1) else (some (-1))))))) = some r := by rw [if_neg (show ¬ (false = true) by decide)] at H; exact H
     clear H
     have H := H1
     clear H1
     by_cases c6 : a0 = 1
     ·rw [if_pos c6] at H
      have c6b0 : (a0 == 1) = true := beq_iff_eq.mpr c6
      have c6b1 : (a0 != 1) = false := bne_eq_false_iff_eq.mpr c6
      clear c6
      obtain rfl := Option.some.inj H
      go_wp2
      go_ret
      exact ⟨rF, by repeat (first | exact Drawn0.refl _ | apply Drawn0.step)⟩
     ·rw [if_neg c6] at H
      have c6b0 : (a0 == 1) = false := beq_eq_false_iff_ne.mpr c6
      have c6b1 : (a0 != 1) = true := bne_iff_ne.mpr c6
      by_cases c7 : a0 = 2
      ·rw [if_pos c7] at H
       have c7b0 : (a0 == 2) = true := beq_iff_eq.mpr c7
       have c7b1 : (a0 != 2) = false := bne_eq_false_iff_eq.mpr c7
       clear c7
       obtain rfl := Option.some.inj H
       go_wp2
       go_ret
       exact ⟨rF, by repeat (first | exact Drawn0.refl _ | apply Drawn0.step)⟩
      ·rw [if_neg c7] at H
       have c7b0 : (a0 == 2) = false := beq_eq_false_iff_ne.mpr c7
       have c7b1 : (a0 != 2) = true := bne_iff_ne.mpr c7
       by_cases c8 : a0 = 5
       ·rw [if_pos c8] at H
        have c8b0 : (a0 == 5) = true := beq_iff_eq.mpr c8
        have c8b1 : (a0 != 5) = false := bne_eq_false_iff_eq.mpr c8
        clear c8
        obtain rfl := Option.some.inj H
        go_wp2
        go_ret
        exact ⟨rF, by repeat (first | exact Drawn0.refl _ | apply Drawn0.step)⟩
       ·rw [if_neg c8] at H
        have c8b0 : (a0 == 5) = false := beq_eq_false_iff_ne.mpr c8
        have c8b1 : (a0 != 5) = true := bne_iff_ne.mpr c8
        by_cases c9 : a0 = 6
        ·rw [if_pos c9] at H
         have c9b0 : (a0 == 6) = true := beq_iff_eq.mpr c9
         have c9b1 : (a0 != 6) = false := bne_eq_false_iff_eq.mpr c9
         clear c9
         obtain rfl := Option.some.inj H
         go_wp2
         go_ret
         exact ⟨rF, by repeat (first | exact Drawn0.refl _ | apply Drawn0.step)⟩
        ·rw [if_neg c9] at H
         have c9b0 : (a0 == 6) = false := beq_eq_false_iff_ne.mpr c9
         have c9b1 : (a0 != 6) = true := bne_iff_ne.mpr c9
         by_cases c10 : a0 = 7
         ·rw [if_pos c10] at H
          have c10b0 : (a0 == 7) = true := beq_iff_eq.mpr c10
          have c10b1 : (a0 != 7) = false := bne_eq_false_iff_eq.mpr c10
          clear c10
          obtain rfl := Option.some.inj H
          go_wp2
          go_ret
          exact ⟨rF, by repeat (first | exact Drawn0.refl _ | apply Drawn0.step)⟩
         ·rw [if_neg c10] at H
          have c10b0 : (a0 == 7) = false := beq_eq_false_iff_ne.mpr c10
          have c10b1 : (a0 != 7) = true := bne_iff_ne.mpr c10
          obtain rfl := Option.some.inj H
          go_wp2
          go_ret
          exact ⟨rF, by repeat (first | exact Drawn0.refl _ | apply Drawn0.step)⟩

/-! ### impl_end: function 75 -/
mutual
def impl_end.j0 : Nat → List (S33) → Int → Int → Bool → Option (Int)
 | 0, _, _, _, _ => none
 | k + 1, x0, x1, x2, x15 => if x15 = true then (some (-1)) else (if 0 ≤ x1 then (if x1 < (x0.length : Int) then ((impl_ArityOf.f k ((rd_T33 x0 x1).f0)).bind fun t292 => (impl_end.l0 k x0 x2 (wrap64 (x1 + 1)) t292 0)) else (none)) else (none))
def impl_end.l0 : Nat → List (S33) → Int → Int → Int → Int → Option (Int)
 | 0, _, _, _, _, _ => none
 | k + 1, x0, x2, x7, x23, x24 => if x24 < x23 then ((impl_end.f k x0 x7 (wrap64 (x2 + 1))).bind fun t293 => (if t293 < 0 then (some (-1)) else (impl_end.l0 k x0 x2 t293 x23 (wrap64 (x24 + 1))))) else (some x7)
def impl_end.f : Nat → List (S33) → Int → Int → Option (Int)
 | 0, _, _, _ => none
 | k + 1, l0, a1, a2 => if a1 ≥ (l0.length : Int) then (impl_end.j0 k l0 a1 a2 true) else (impl_end.j0 k l0 a1 a2 (decide (a2 > 10)))
end
theorem impl_end.mono_l : ∀ k, (∀ y0 y1 y2, LeO (impl_end.f k y0 y1 y2) (impl_end.f (k + 1) y0 y1 y2)) ∧ (∀ y0 y1 y2 y3, LeO (impl_end.j0 k y0 y1 y2 y3) (impl_end.j0 (k + 1) y0 y1 y2 y3)) ∧ (∀ y0 y1 y2 y3 y4, LeO (impl_end.l0 k y0 y1 y2 y3 y4) (impl_end.l0 (k + 1) y0 y1 y2 y3 y4))
 | 0 => ⟨fun _ _ _ r h => by simp [impl_end.f] at h, fun _ _ _ _ r h => by simp [impl_end.j0] at h, fun _ _ _ _ _ r h => by simp [impl_end.l0] at h⟩
 | k + 1 => by
  obtain ⟨ih0, ih1, ih2⟩ := impl_end.mono_l k
  refine ⟨?_, ?_, ?_⟩ <;> intros <;> (first | unfold impl_end.f | unfold impl_end.j0 | unfold impl_end.l0)
  all_goals repeat' first
  | (with_reducible exact ih0 _ _ _)
  | (with_reducible exact ih1 _ _ _ _)
  | (with_reducible exact ih2 _ _ _ _ _)
  | (with_reducible exact impl_ArityOf.mono _ _)
  | (with_reducible exact LeO.refl _)
  | (with_reducible exact LeO.none _)
  | (with_reducible refine LeO.ite ?_ ?_)
  | (with_reducible refine LeO.bind ?_ (fun _ => ?_))
  | exact ih0 _ _ _
  | exact ih1 _ _ _ _
  | exact ih2 _ _ _ _ _
  | exact impl_ArityOf.mono _ _
  | exact LeO.none _
  | refine LeO.ite ?_ ?_
  | refine LeO.bind ?_ (fun _ => ?_)
theorem impl_end.mono : ∀ a0 a1 a2 k, LeO (impl_end.f k a0 a1 a2) (impl_end.f (k + 1) a0 a1 a2) := by
 intro a0 a1 a2 k
 obtain ⟨ih0, ih1, ih2⟩ := impl_end.mono_l k
 exact ih0 a0 a1 a2
set_option maxHeartbeats 8000000 in
set_option maxRecDepth 100000 in
theorem impl_end.calls (k : Nat) : ∀ (A0 : Option Addr) (c0 : Nat) (l0 : List (S33)) (a1 : Int) (a2 : Int) (r : Int) (w : World) (hr0 : Kd.C k33 w A0 l0.length l0) (hc0 : l0.length ≤ c0) (h : impl_end.f k l0 a1 a2 = some r),
  Calls Try.prog 75 #[.slice A0 l0.length c0, .int .i64 a1, .int .i64 a2] w fun e w' => e = .returned (.int .i64 r) ∧ Drawn0 w w' := by
 induction k using Nat.strongRecOn with
 | _ k ih =>
 intro A0 c0 l0 a1 a2 r w hr0 hc0 h
 cases k with
 | zero => exact absurd h (by simp [impl_end.f])
 | succ k =>
 simp only [impl_end.f] at h
 have HR0 := Aside0.mk hr0
 have HC0 := Aside0.mk hc0
 clear hr0 hc0
 have H : (if a1 ≥ (l0.length : Int) then (impl_end.j0 k l0 a1 a2 true) else (impl_end.j0 k l0 a1 a2 (decide (a2 > 10)))) = some r := h
 clear h
 have HC4 := Aside0.mk H
 clear H
 go_enter Try.func75, Try.ntmps75
 go_upto_region 1 with (fail)
 go_cut [15] (fun v15 wc => ∃ (kq : Nat) (x15_3 : Bool), v15 = .bool x15_3 ∧ Aside0 (impl_end.j0 kq l0 a1 a2 x15_3 = some r) ∧ Aside0 (kq ≤ k) ∧ Drawn0 w wc)
 case first =>
  have H := HC4.out
  clear HC4
  by_cases c5 : a1 ≥ (l0.length : Int)
  ·rw [if_pos c5] at H
   have c5b0 : decide ((l0.length : Int) ≤ a1) = true := decide_eq_true c5
   clear c5
   (first | rw [c5b0] | (simp only [i64_w, i32_w]; rw [c5b0]) | skip)
   have H' := Aside0.mk H
   clear H
   go_wp2
   go_meet
   case rel => exact ⟨_, (true), rF, H', ⟨by first | omega | exact Nat.le_refl _⟩, by repeat (first | exact Drawn0.refl _ | apply Drawn0.step)⟩
  ·rw [if_neg c5] at H
   have c5b0 : decide ((l0.length : Int) ≤ a1) = false := decide_eq_false c5
   clear c5
   (first | rw [c5b0] | (simp only [i64_w, i32_w]; rw [c5b0]) | skip)
   have H' := Aside0.mk H
   clear H
   go_wp2
   go_meet
   case rel => exact ⟨_, (decide (a2 > 10)), rF, H', ⟨by first | omega | exact Nat.le_refl _⟩, by repeat (first | exact Drawn0.refl _ | apply Drawn0.step)⟩
 case rest =>
  clear HC4
  try clear p2
  try clear c5
  try clear c5b0
  obtain ⟨kq, x15_3, rfl, HA, HJ3, ⟨mc3, rfl⟩⟩ := hcut
  cases kq with
  | zero => exact absurd HA.out (by simp [impl_end.j0])
  | succ kj3 =>
   have H := HA.out
   clear HA
   simp only [impl_end.j0] at H
   by_cases c6 : x15_3 = true
   ·subst c6
    have H1 : (some (-1)) = some r := by rw [if_pos rfl] at H; exact H
    clear H
    have H := H1
    clear H1
    obtain rfl := Option.some.inj H
    go_wp2
    go_ret
    exact ⟨rF, by repeat (first | exact Drawn0.refl _ | apply Drawn0.step)⟩
   ·replace c6 := Bool.eq_false_iff.mpr c6
    subst c6
    have H1 : (if 0 ≤ a1 then (if a1 < (l0.length : Int) then ((impl_ArityOf.f kj3 ((rd_T33 l0 a1).f0)).bind fun t292 => (impl_end.l0 kj3 l0 a2 (wrap64 (a1 + 1)) t292 0)) else (none)) else (none)) = some r := by rw [if_neg (show ¬ (false = true) by decide)] at H; exact H
    clear H
    have H := H1
    clear H1
    by_cases c7 : 0 ≤ a1
    ·rw [if_pos c7] at H
     have c7b0 : decide (0 ≤ a1) = true := decide_eq_true c7
     clear c7
     by_cases c8 : a1 < (l0.length : Int)
     ·rw [if_pos c8] at H
      have c8b0 : decide (a1 < (l0.length : Int)) = true := decide_eq_true c8
      clear c8
      replace H := Option.bind_eq_some_iff.mp H
      obtain ⟨t292, A90, H⟩ := H
      replace H : (impl_end.l0 kj3 l0 a2 (wrap64 (a1 + 1)) t292 0) = some r := H
      have A9 := Aside0.mk A90
      clear A90
      have H' := Aside0.mk H
      clear H
      have p291 : 0 ≤ (a1 : Int) := of_decide_eq_true (by assumption)
      have q291 : a1 < (l0.length : Int) := of_decide_eq_true (by assumption)
      obtain ⟨ad291, A291_6, c291_6, e291, hx291_0, hx291_1, hx291_2, hx291_3, hx291_4, hx291_5, hx291_6, hl291_6, hi291_6⟩ := at_T33 HR0.out a1 p291 q291
      cases e291
      have HR291_6 := Aside0.mk hi291_6
      have HC291_6 := Aside0.mk hl291_6
      clear hi291_6 hl291_6
      replace p291 := eq_true p291
      replace q291 := eq_true q291
      go_wp2_with (first | ((with_reducible refine gate_callee (f := 112) rfl ?_); refine goesL_ (some 23) rfl rfl Try.func112 (by kernel_rfl) rfl #[.int .i64 ((rd_T33 l0 a1).f0)] rfl aL ?_; (with_reducible refine (impl_ArityOf.calls kj3 ((rd_T33 l0 a1).f0) t292 _ A9.out).mono ?_); rintro e w' ⟨rfl, ⟨nd, rfl⟩⟩; refine ⟨_, rfl, ?_⟩))
      go_loopg [7, 24] kj3 (fun kq v7 v24 w' => ∃ (x7_2 : Int) (x24_2 : Int), v7 = .int .i64 x7_2 ∧ v24 = .int .i64 x24_2 ∧ Aside0 (impl_end.l0 kq l0 a2 x7_2 t292 x24_2 = some r) ∧ Aside0 (kq ≤ kj3) ∧ Drawn0 w w')
      case atStart => exact ⟨(wrap64 (a1 + 1)), (0), rF, rF, H', ⟨Nat.le_refl _⟩, by repeat (first | exact Drawn0.refl _ | apply Drawn0.step)⟩
      case round =>
       clear H'
       try clear c1
       try clear c2
       try clear p2
       try clear q2
       try clear hx2
       try clear c3
       try clear c5
       try clear c5b0
       try clear c6
       try clear p6
       try clear c7
       try clear c7b0
       try clear c8
       try clear c8b0
       try clear hx291_0
       try clear hx291_1
       try clear hx291_2
       try clear hx291_3
       try clear hx291_4
       try clear hx291_5
       try clear hx291_6
       try clear p2
       try clear p291
       try clear q291
       obtain ⟨x7_2, x24_2, rfl, rfl, HA, HK2, ⟨m2, rfl⟩⟩ := hrel
       cases gk with
       | zero => exact absurd HA.out (by simp [impl_end.l0])
       | succ k2 =>
        have H := HA.out
        clear HA
        simp only [impl_end.l0] at H
        by_cases c10 : x24_2 < t292
        ·rw [if_pos c10] at H
         have c10b0 : decide (x24_2 < t292) = true := decide_eq_true c10
         clear c10
         replace H := Option.bind_eq_some_iff.mp H
         obtain ⟨t293, A110, H⟩ := H
         replace H : (if t293 < 0 then (some (-1)) else (impl_end.l0 k2 l0 a2 t293 t292 (wrap64 (x24_2 + 1)))) = some r := H
         have A11 := Aside0.mk A110
         clear A110
         by_cases c12 : t293 < 0
         ·rw [if_pos c12] at H
          have c12b0 : decide (t293 < 0) = true := decide_eq_true c12
          clear c12
          obtain rfl := Option.some.inj H
          go_wp2_with (first | ((with_reducible refine gate_callee (f := 75) rfl ?_); refine goesL_ (some 30) rfl rfl Try.func75 (by kernel_rfl) rfl #[.slice (some ad291) l0.length c0, .int .i64 x7_2, .int .i64 (wrap64 (a2 + 1))] rfl aL ?_; (with_reducible refine (ih k2 (by have := HJ3.out; have := HK2.out; omega) _ _ l0 x7_2 (wrap64 (a2 + 1)) t293 _ ?side1 ?side2 A11.out).mono ?_); (case side1 => exact cA); (case side2 => exact HC0.out); rintro e w' ⟨rfl, ⟨nd, rfl⟩⟩; refine ⟨_, rfl, ?_⟩))
          go_ret
          exact ⟨rF, by repeat (first | exact Drawn0.refl _ | apply Drawn0.step)⟩
         ·rw [if_neg c12] at H
          have c12b0 : decide (t293 < 0) = false := decide_eq_false c12
          clear c12
          have H' := Aside0.mk H
          clear H
          go_wp2_with (first | ((with_reducible refine gate_callee (f := 75) rfl ?_); refine goesL_ (some 30) rfl rfl Try.func75 (by kernel_rfl) rfl #[.slice (some ad291) l0.length c0, .int .i64 x7_2, .int .i64 (wrap64 (a2 + 1))] rfl aL ?_; (with_reducible refine (ih k2 (by have := HJ3.out; have := HK2.out; omega) _ _ l0 x7_2 (wrap64 (a2 + 1)) t293 _ ?side1 ?side2 A11.out).mono ?_); (case side1 => exact cA); (case side2 => exact HC0.out); rintro e w' ⟨rfl, ⟨nd, rfl⟩⟩; refine ⟨_, rfl, ?_⟩))
          go_roundg k2
          case measure => have := HJ3.out; have := HK2.out; omega
          case rel => exact ⟨(t293), (wrap64 (x24_2 + 1)), rF, rF, H', ⟨by have := HJ3.out; have := HK2.out; omega⟩, by repeat (first | exact Drawn0.refl _ | apply Drawn0.step)⟩
        ·rw [if_neg c10] at H
         have c10b0 : decide (x24_2 < t292) = false := decide_eq_false c10
         clear c10
         obtain rfl := Option.some.inj H
         go_wp2
         go_ret
         exact ⟨rF, by repeat (first | exact Drawn0.refl _ | apply Drawn0.step)⟩
     ·rw [if_neg c8] at H
      exact absurd H (by simp)
    ·rw [if_neg c7] at H
     exact absurd H (by simp)

/-! ### impl_PlanOk: function 26 -/
def impl_PlanOk.f (k : Nat) (l0 : List (S33)) : Option (Bool) := (impl_in.f (l0.length : Int) 1 40).bind fun t294 => (if t294 = true then ((slices_ContainsFunc_impl_Node_impl_Node.f k l0).bind fun t295 => (if t295 = true then (some false) else ((impl_end.f k l0 0 1).bind fun t296 => (some (t296 == (l0.length : Int)))))) else (some false))
theorem impl_PlanOk.mono : ∀ a0 k, LeO (impl_PlanOk.f k a0) (impl_PlanOk.f (k + 1) a0) := by
 intro a0 k
 unfold impl_PlanOk.f
 repeat' first
   | (with_reducible exact impl_end.mono _ _ _ _)
   | (with_reducible exact slices_ContainsFunc_impl_Node_impl_Node.mono _ _)
   | (with_reducible exact LeO.refl _)
   | (with_reducible exact LeO.none _)
   | (with_reducible refine LeO.ite ?_ ?_)
   | (with_reducible refine LeO.bind ?_ (fun _ => ?_))
   | exact impl_end.mono _ _ _ _
   | exact slices_ContainsFunc_impl_Node_impl_Node.mono _ _
   | exact LeO.none _
   | refine LeO.ite ?_ ?_
   | refine LeO.bind ?_ (fun _ => ?_)
set_option maxHeartbeats 8000000 in
set_option maxRecDepth 100000 in
theorem impl_PlanOk.calls (k : Nat) (A0 : Option Addr) (c0 : Nat) (l0 : List (S33)) (r : Bool) (w : World) (hr0 : Kd.C k33 w A0 l0.length l0) (hc0 : l0.length ≤ c0) (h : impl_PlanOk.f k l0 = some r) :
  Calls Try.prog 26 #[.slice A0 l0.length c0] w fun e w' => e = .returned (.bool r) ∧ Below w.heap.size w w' := by
 have HR0 := Aside0.mk hr0
 have HC0 := Aside0.mk hc0
 clear hr0 hc0
 have HB := Aside0.mk (Below.refl w.heap.size w)
 have H : ((impl_in.f (l0.length : Int) 1 40).bind fun t294 => (if t294 = true then ((slices_ContainsFunc_impl_Node_impl_Node.f k l0).bind fun t295 => (if t295 = true then (some false) else ((impl_end.f k l0 0 1).bind fun t296 => (some (t296 == (l0.length : Int)))))) else (some false))) = some r := h
 clear h
 replace H := Option.bind_eq_some_iff.mp H
 obtain ⟨t294, A20, H⟩ := H
 replace H : (if t294 = true then ((slices_ContainsFunc_impl_Node_impl_Node.f k l0).bind fun t295 => (if t295 = true then (some false) else ((impl_end.f k l0 0 1).bind fun t296 => (some (t296 == (l0.length : Int)))))) else (some false)) = some r := H
 have A2 := Aside0.mk A20
 clear A20
 by_cases c3 : t294 = true
 ·subst c3
  have H1 : ((slices_ContainsFunc_impl_Node_impl_Node.f k l0).bind fun t295 => (if t295 = true then (some false) else ((impl_end.f k l0 0 1).bind fun t296 => (some (t296 == (l0.length : Int)))))) = some r := by rw [if_pos rfl] at H; exact H
  clear H
  have H := H1
  clear H1
  replace H := Option.bind_eq_some_iff.mp H
  obtain ⟨t295, A40, H⟩ := H
  replace H : (if t295 = true then (some false) else ((impl_end.f k l0 0 1).bind fun t296 => (some (t296 == (l0.length : Int))))) = some r := H
  have A4 := Aside0.mk A40
  clear A40
  by_cases c5 : t295 = true
  ·subst c5
   have H1 : (some false) = some r := by rw [if_pos rfl] at H; exact H
   clear H
   have H := H1
   clear H1
   obtain rfl := Option.some.inj H
   go_enter Try.func26, Try.ntmps26
   go_wp2_with (first | ((with_reducible refine gate_callee (f := 67) rfl ?_); refine goesL_ (some 5) rfl rfl Try.func67 (by kernel_rfl) rfl #[.int .i64 (l0.length : Int), .int .i64 1, .int .i64 40] rfl aL ?_; (with_reducible refine (impl_in.calls (l0.length : Int) 1 40 true _ A2.out).mono ?_); rintro e w' ⟨rfl, ⟨nd, rfl⟩⟩; refine ⟨_, rfl, ?_⟩) | (go_at_call 73; (with_reducible refine (slices_ContainsFunc_impl_Node_impl_Node.calls k _ _ l0  true _ ?side1 ?side2 A4.out).mono ?_); (case side1 => exact cA); (case side2 => exact HC0.out); rintro e w6 ⟨rfl, hb⟩; have n0_ := Aside0.mk (below_step bA hb); clear HB; have HB := n0_; clear n0_; (try clear hb); (try clear hb2); (try clear hk); (try clear hi)))
   go_ret
   exact ⟨rE, bA⟩
  ·replace c5 := Bool.eq_false_iff.mpr c5
   subst c5
   have H1 : ((impl_end.f k l0 0 1).bind fun t296 => (some (t296 == (l0.length : Int)))) = some r := by rw [if_neg (show ¬ (false = true) by decide)] at H; exact H
   clear H
   have H := H1
   clear H1
   replace H := Option.bind_eq_some_iff.mp H
   obtain ⟨t296, A70, H⟩ := H
   replace H : (some (t296 == (l0.length : Int))) = some r := H
   have A7 := Aside0.mk A70
   clear A70
   obtain rfl := Option.some.inj H
   go_enter Try.func26, Try.ntmps26
   go_wp2_with (first | ((with_reducible refine gate_callee (f := 67) rfl ?_); refine goesL_ (some 5) rfl rfl Try.func67 (by kernel_rfl) rfl #[.int .i64 (l0.length : Int), .int .i64 1, .int .i64 40] rfl aL ?_; (with_reducible refine (impl_in.calls (l0.length : Int) 1 40 true _ A2.out).mono ?_); rintro e w' ⟨rfl, ⟨nd, rfl⟩⟩; refine ⟨_, rfl, ?_⟩) | (go_at_call 73; (with_reducible refine (slices_ContainsFunc_impl_Node_impl_Node.calls k _ _ l0  false _ ?side1 ?side2 A4.out).mono ?_); (case side1 => exact cA); (case side2 => exact HC0.out); rintro e w8 ⟨rfl, hb⟩; have n0_ := Aside0.mk (below_step bA hb); clear HB; have HB := n0_; clear n0_; (try clear hb); (try clear hb2); (try clear hk); (try clear hi)) | ((with_reducible refine gate_callee (f := 75) rfl ?_); refine goesL_ (some 12) rfl rfl Try.func75 (by kernel_rfl) rfl #[.slice A0 l0.length c0, .int .i64 0, .int .i64 1] rfl aL ?_; (with_reducible refine (impl_end.calls k _ _ l0 0 1 t296 _ ?side1 ?side2 A7.out).mono ?_); (case side1 => exact cA); (case side2 => exact HC0.out); rintro e w' ⟨rfl, ⟨nd, rfl⟩⟩; refine ⟨_, rfl, ?_⟩))
   go_ret
   exact ⟨rE, bA⟩
 ·replace c3 := Bool.eq_false_iff.mpr c3
  subst c3
  have H1 : (some false) = some r := by rw [if_neg (show ¬ (false = true) by decide)] at H; exact H
  clear H
  have H := H1
  clear H1
  obtain rfl := Option.some.inj H
  go_enter Try.func26, Try.ntmps26
  go_wp2_with (first | ((with_reducible refine gate_callee (f := 67) rfl ?_); refine goesL_ (some 5) rfl rfl Try.func67 (by kernel_rfl) rfl #[.int .i64 (l0.length : Int), .int .i64 1, .int .i64 40] rfl aL ?_; (with_reducible refine (impl_in.calls (l0.length : Int) 1 40 false _ A2.out).mono ?_); rintro e w' ⟨rfl, ⟨nd, rfl⟩⟩; refine ⟨_, rfl, ?_⟩))
  go_ret
  exact ⟨rE, bA⟩

/-! ### impl_has: function 77 -/
def impl_has.f (k : Nat) (l0 : List (S33)) (a1 : Int) : Option (Bool) := (impl_in.f a1 0 (wrap64 ((l0.length : Int) - 1))).bind fun t297 => (if t297 = true then ((impl_PlanOk.f k l0).bind fun t298 => (some t298)) else (some false))
theorem impl_has.mono : ∀ a0 a1 k, LeO (impl_has.f k a0 a1) (impl_has.f (k + 1) a0 a1) := by
 intro a0 a1 k
 unfold impl_has.f
 repeat' first
   | (with_reducible exact impl_PlanOk.mono _ _)
   | (with_reducible exact LeO.refl _)
   | (with_reducible exact LeO.none _)
   | (with_reducible refine LeO.ite ?_ ?_)
   | (with_reducible refine LeO.bind ?_ (fun _ => ?_))
   | exact impl_PlanOk.mono _ _
   | exact LeO.none _
   | refine LeO.ite ?_ ?_
   | refine LeO.bind ?_ (fun _ => ?_)
set_option maxHeartbeats 8000000 in
set_option maxRecDepth 100000 in
theorem impl_has.calls (k : Nat) (A0 : Option Addr) (c0 : Nat) (l0 : List (S33)) (a1 : Int) (r : Bool) (w : World) (hr0 : Kd.C k33 w A0 l0.length l0) (hc0 : l0.length ≤ c0) (h : impl_has.f k l0 a1 = some r) :
  Calls Try.prog 77 #[.slice A0 l0.length c0, .int .i64 a1] w fun e w' => e = .returned (.bool r) ∧ Below w.heap.size w w' := by
 have HR0 := Aside0.mk hr0
 have HC0 := Aside0.mk hc0
 clear hr0 hc0
 have HB := Aside0.mk (Below.refl w.heap.size w)
 have H : ((impl_in.f a1 0 (wrap64 ((l0.length : Int) - 1))).bind fun t297 => (if t297 = true then ((impl_PlanOk.f k l0).bind fun t298 => (some t298)) else (some false))) = some r := h
 clear h
 replace H := Option.bind_eq_some_iff.mp H
 obtain ⟨t297, A30, H⟩ := H
 replace H : (if t297 = true then ((impl_PlanOk.f k l0).bind fun t298 => (some t298)) else (some false)) = some r := H
 have A3 := Aside0.mk A30
 clear A30
 by_cases c4 : t297 = true
 ·subst c4
  have H1 : ((impl_PlanOk.f k l0).bind fun t298 => (some t298)) = some r := by rw [if_pos rfl] at H; exact H
  clear H
  have H := H1
  clear H1
  replace H := Option.bind_eq_some_iff.mp H
  obtain ⟨t298, A50, H⟩ := H
  replace H : (some t298) = some r := H
  have A5 := Aside0.mk A50
  clear A50
  obtain rfl := Option.some.inj H
  go_enter Try.func77, Try.ntmps77
  go_wp2_with (first | ((with_reducible refine gate_callee (f := 67) rfl ?_); refine goesL_ (some 9) rfl rfl Try.func67 (by kernel_rfl) rfl #[.int .i64 a1, .int .i64 0, .int .i64 (wrap64 ((l0.length : Int) - 1))] rfl aL ?_; (with_reducible refine (impl_in.calls a1 0 (wrap64 ((l0.length : Int) - 1)) true _ A3.out).mono ?_); rintro e w' ⟨rfl, ⟨nd, rfl⟩⟩; refine ⟨_, rfl, ?_⟩) | (go_at_call 26; (with_reducible refine (impl_PlanOk.calls k _ _ l0 t298 _ ?side1 ?side2 A5.out).mono ?_); (case side1 => exact cA); (case side2 => exact HC0.out); rintro e w6 ⟨rfl, hb⟩; have n0_ := Aside0.mk (below_step bA hb); clear HB; have HB := n0_; clear n0_; (try clear hb); (try clear hb2); (try clear hk); (try clear hi)))
  go_ret
  exact ⟨rE, bA⟩
 ·replace c4 := Bool.eq_false_iff.mpr c4
  subst c4
  have H1 : (some false) = some r := by rw [if_neg (show ¬ (false = true) by decide)] at H; exact H
  clear H
  have H := H1
  clear H1
  obtain rfl := Option.some.inj H
  go_enter Try.func77, Try.ntmps77
  go_wp2_with (first | ((with_reducible refine gate_callee (f := 67) rfl ?_); refine goesL_ (some 9) rfl rfl Try.func67 (by kernel_rfl) rfl #[.int .i64 a1, .int .i64 0, .int .i64 (wrap64 ((l0.length : Int) - 1))] rfl aL ?_; (with_reducible refine (impl_in.calls a1 0 (wrap64 ((l0.length : Int) - 1)) false _ A3.out).mono ?_); rintro e w' ⟨rfl, ⟨nd, rfl⟩⟩; refine ⟨_, rfl, ?_⟩))
  go_ret
  exact ⟨rE, bA⟩

/-! ### slices_Clone_int_int: function 114 -/
def slices_Clone_int_int.f (l0 : List Int) : Option (List Int) := (some (([] : List Int) : List Int)).bind fun y299 => (if y299.length + l0.length < 17592186044416 then (some (y299 ++ l0)) else (none))
set_option maxHeartbeats 8000000 in
set_option maxRecDepth 100000 in
theorem slices_Clone_int_int.calls_some (A0 : Option Addr) (c0 : Nat) (l0 : List Int) (r : List Int) (w : World) (hr0 : Kd.C (Kd.int .i64) w A0 l0.length l0) (hc0 : l0.length ≤ c0) (h : slices_Clone_int_int.f l0 = some r) (hs_ : A0.isNone = false) :
  Calls Try.prog 114 #[.slice A0 l0.length c0] w fun e w' => ∃ v0_ : Value, e = .returned (v0_) ∧ Kd.R (Kd.int .i64) 3 w' w.heap.size (fun _ => True) v0_ r ∧ Below w.heap.size w w' := by
 have HR0 := Aside0.mk hr0
 have HC0 := Aside0.mk hc0
 clear hr0 hc0
 have HB := Aside0.mk (Below.refl w.heap.size w)
 have H : ((some (([] : List Int) : List Int)).bind fun y299 => (if y299.length + l0.length < 17592186044416 then (some (y299 ++ l0)) else (none))) = some r := h
 clear h
 obtain ⟨y299, hy299⟩ : ∃ y_ : List Int, y_ = (([] : List Int)) := ⟨_, rfl⟩
 replace H : (if y299.length + l0.length < 17592186044416 then (some (y299 ++ l0)) else (none)) = some r := by first | (rw [hy299]; with_reducible exact H) | (have H2_ := (Option.bind_some _ _).symm.trans H; rw [hy299]; with_reducible exact H2_) | (have H2_ := (Option.bind_some _ _).symm.trans H; with_reducible exact H2_) | with_reducible exact H | (rw [hy299]; exact H) | exact H
 have Ny299 := Aside0.mk hy299
 clear hy299
 by_cases c2 : y299.length + l0.length < 17592186044416
 ·rw [if_pos c2] at H
  have LMc2 := Aside0.mk c2
  clear c2
  obtain ⟨y302, hy302⟩ : ∃ y_ : List Int, y_ = (y299 ++ l0) := ⟨_, rfl⟩
  replace H : (some y302) = some r := by first | (rw [hy302]; with_reducible exact H) | (have H2_ := (Option.bind_some _ _).symm.trans H; rw [hy302]; with_reducible exact H2_) | (have H2_ := (Option.bind_some _ _).symm.trans H; with_reducible exact H2_) | with_reducible exact H | (rw [hy302]; exact H) | exact H
  have Ny302 := Aside0.mk hy302
  clear hy302
  obtain rfl := Option.some.inj H
  have kn_ : ∀ (W : World) (n c : Nat), (binOp .eql 28 (.slice A0 n c) (.slice none 0 0)).run Try.prog W = .ok (.bool false) W := fun W n c => by rw [Lib.run_eql_slice_nil W 28 3 A0 n c 0 0 Try.underlying28, hs_]
  go_enter Try.func114, Try.ntmps114
  go_wp2_with (first | ((with_reducible refine gate_dst (N := 5) rfl ?_); refine Kd.R_lit (Kd.int .i64) _ 3 ?hg (N := 5) ?hd (xs := ([] : List Int)) (inner := []) (ok := fun _ => True) (okp := fun _ => True) ?hr ?hp (fun _ hk => hk) trivial (Below.refl _ _) (Nat.le_refl _) (by simp) ?_; (case hd => rfl); (case hg => rfl); (case hr => first | (go_simp; done) | (go_simp; rfl)); (case hp => exact (Reps.none _ _)); intro v300 w3 ho4 hb hg_ hnew_; clear hg_ hnew_; (first | rw [← Ny299.out] at ho4 | (simp only [Int.reduceToNat] at ho4; rw [← Ny299.out] at ho4)); have n0_ := Aside0.mk (Kd.R_lower ho4 (below_size bA)); have n1_ := Aside0.mk (below_step bA hb); clear HB; have HO301 := n0_; have HB := n1_; clear n0_ n1_; clear hb ho4) | ((with_reducible refine gate_builtin (b := .append) (xs := #[.tmp 5, .tmp 6]) rfl ?_); at_builtin; refine Kd.R_append_rows (Kd.int .i64) (w0 := w) w.heap.size rfl (.tmp 5) (.tmp 6) 28 3 (.int .i64 0) 8 rfl Try.underlying28 info3 rfl (by decide) (by omega) v300 y299 l0 _ _ _ (fun _ => True) (fun _ => False) rfl rfl ?aO ?aR (fun _ _ h => h) (fun _ h => h.elim) ?aF ?aB ?aS ?aL ?_; (case aR => repeat (first | exact (Kd.C_below HR0.out HB.out) | (with_reducible refine Kd.C_alloc ?_ _) | (with_reducible refine Kd.C_drewN ?_ _) | (with_reducible refine Kd.C_drew ?_))); (case aB => exact bA); (case aF => exact (fun _ _ => trivial)); (case aO => exact (by (with_reducible repeat (first | apply Kd.R_alloc | apply Kd.R_drewN | apply Kd.R_drew)); exact HO301.out)); (case aS => exact (below_size bA)); (case aL => have := LMc2.out; omega); intro v303 w5 ho hb hg hat; rw [← Ny302.out] at ho; have n0_ := Aside0.mk (hb); have n1_ := Aside0.mk (ho); clear HB; clear HO301; have HB := n0_; have HO304 := n1_; clear n0_ n1_; clear ho hb hg hat))
  go_ret
  exact ⟨_, rE, by (with_reducible repeat (first | apply Kd.R_alloc | apply Kd.R_drewN | apply Kd.R_drew)); exact HO304.out, bA⟩
 ·rw [if_neg c2] at H
  exact absurd H (by simp)
set_option maxHeartbeats 8000000 in
set_option maxRecDepth 100000 in
theorem slices_Clone_int_int.calls (A0 : Option Addr) (c0 : Nat) (l0 : List Int) (r : List Int) (w : World) (hr0 : Kd.C (Kd.int .i64) w A0 l0.length l0) (hc0 : l0.length ≤ c0) (h : slices_Clone_int_int.f l0 = some r) :
  Calls Try.prog 114 #[.slice A0 l0.length c0] w fun e w' => ∃ v0_ : Value, e = .returned (v0_) ∧ Kd.R (Kd.int .i64) 3 w' w.heap.size (fun _ => True) v0_ r ∧ Below w.heap.size w w' := by
 cases A0 with
 | some a => exact slices_Clone_int_int.calls_some (some a) c0 l0 r w hr0 hc0 h rfl
 | none =>
  have e : l0 = [] := by
   have h3 := hr0.2.2
   cases l0 with
   | nil => rfl
   | cons x xs => obtain ⟨_, e, _⟩ := h3 (by simp); cases e
  subst e
  have h2 : ([] : List Int) = r := by simpa [slices_Clone_int_int.f] using h
  subst h2
  have kn_ : ∀ (W : World) (n c : Nat), (binOp .eql 28 (.slice none n c) (.slice none 0 0)).run Try.prog W = .ok (.bool true) W := fun W n c => Lib.run_eql_slice_nil W 28 3 none n c 0 0 Try.underlying28
  go_enter Try.func114, Try.ntmps114
  go_wp2
  go_ret
  exact ⟨.slice none 0 0, by first | rfl | (simp; done), Kd.R_nil _ _ _ _ _, Below.refl _ _⟩

/-! ### impl_own: function 83 -/
def impl_own.l0 : Nat → List (S33) → List (S33) → Int → Int → Option ((List (S33)))
 | 0, _, _, _, _ => none
 | k + 1, x3, x6, x7, x8 => if x8 < x7 then (if 0 ≤ x8 then (if x8 < (x6.length : Int) then ((slices_Clone_int_int.f ((rd_T33 x6 x8).f6)).bind fun t307 => (if x3.length < 1759218604441 then (impl_own.l0 k (x3 ++ [(⟨(rd_T33 x6 x8).f0, (rd_T33 x6 x8).f1, (rd_T33 x6 x8).f2, (rd_T33 x6 x8).f3, (rd_T33 x6 x8).f4, (rd_T33 x6 x8).f5, t307⟩ : S33)]) x6 x7 (wrap64 (x8 + 1))) else (none))) else (none)) else (none)) else (some x3)
def impl_own.f (k : Nat) (l0 : List (S33)) : Option ((List (S33))) := impl_own.l0 k ([] : List (S33)) l0 (l0.length : Int) 0
theorem impl_own.mono_l : ∀ k, (∀ y0 y1 y2 y3, LeO (impl_own.l0 k y0 y1 y2 y3) (impl_own.l0 (k + 1) y0 y1 y2 y3))
 | 0 => fun _ _ _ _ r h => by simp [impl_own.l0] at h
 | k + 1 => by
  have ih0 := impl_own.mono_l k
  ·intro y0 y1 y2 y3
   unfold impl_own.l0
   repeat' first
   | (with_reducible exact ih0 _ _ _ _)
   | (with_reducible exact LeO.refl _)
   | (with_reducible exact LeO.none _)
   | (with_reducible refine LeO.ite ?_ ?_)
   | (with_reducible refine LeO.bind ?_ (fun _ => ?_))
   | exact ih0 _ _ _ _
   | exact LeO.none _
   | refine LeO.ite ?_ ?_
   | refine LeO.bind ?_ (fun _ => ?_)
theorem impl_own.mono : ∀ a0 k, LeO (impl_own.f k a0) (impl_own.f (k + 1) a0) := by
 intro a0 k
 have ih0 := impl_own.mono_l k
 unfold impl_own.f
 repeat' first
   | (with_reducible exact ih0 _ _ _ _)
   | (with_reducible exact LeO.refl _)
   | (with_reducible exact LeO.none _)
   | (with_reducible refine LeO.ite ?_ ?_)
   | (with_reducible refine LeO.bind ?_ (fun _ => ?_))
   | exact ih0 _ _ _ _
   | exact LeO.none _
   | refine LeO.ite ?_ ?_
   | refine LeO.bind ?_ (fun _ => ?_)
set_option maxHeartbeats 8000000 in
set_option maxRecDepth 100000 in
theorem impl_own.calls (k : Nat) (A0 : Option Addr) (c0 : Nat) (l0 : List (S33)) (r : List (S33)) (w : World) (hr0 : Kd.C k33 w A0 l0.length l0) (hc0 : l0.length ≤ c0) (h : impl_own.f k l0 = some r) :
  Calls Try.prog 83 #[.slice A0 l0.length c0] w fun e w' => ∃ v0_ : Value, e = .returned (v0_) ∧ Kd.S k33 33 w' w.heap.size (fun _ => True) v0_ r ∧ Below w.heap.size w w' := by
 have hu33 := Try.underlying33
 have HR0 := Aside0.mk hr0
 have HC0 := Aside0.mk hc0
 clear hr0 hc0
 have HB := Aside0.mk (Below.refl w.heap.size w)
 have H : (impl_own.l0 k ([] : List (S33)) l0 (l0.length : Int) 0) = some r := h
 clear h
 have H' := Aside0.mk H
 clear H
 go_enter Try.func83, Try.ntmps83
 go_wp2
 go_loopg [3, 8] k (fun kq v3 v8 w' => ∃ (x3_1 : List (S33)) (x8_1 : Int), v8 = .int .i64 x8_1 ∧ Aside0 (impl_own.l0 kq x3_1 l0 (l0.length : Int) x8_1 = some r) ∧ Aside0 (kq ≤ k) ∧ Aside0 (Kd.S k33 33 w' w.heap.size (fun _ => True) v3 x3_1) ∧ Aside0 (Below w.heap.size w w'))
 case atStart => exact ⟨(([] : List (S33))), (0), rF, H', ⟨Nat.le_refl _⟩, ⟨by first | exact Kd.S_nil _ _ _ _ _ | exact Kd.N_nil _ _ _ _ _ | exact Kd.V_nil _ _ _ _ _ | exact Kd.Q_nil _ _ _ _ _ | exact Kd.R_nil _ _ _ _ _⟩, ⟨bA⟩⟩
 case round =>
  clear H'
  obtain ⟨x3_1, x8_1, rfl, HA, HK1, HO_3, HB⟩ := hrel
  cases gk with
  | zero => exact absurd HA.out (by simp [impl_own.l0])
  | succ k1 =>
   have H := HA.out
   clear HA
   simp only [impl_own.l0] at H
   by_cases c2 : x8_1 < (l0.length : Int)
   ·rw [if_pos c2] at H
    have c2b0 : decide (x8_1 < (l0.length : Int)) = true := decide_eq_true c2
    clear c2
    by_cases c3 : 0 ≤ x8_1
    ·rw [if_pos c3] at H
     have c3b0 : decide (0 ≤ x8_1) = true := decide_eq_true c3
     clear c3
     by_cases c4 : x8_1 < (l0.length : Int)
     ·rw [if_pos c4] at H
      have c4b0 : decide (x8_1 < (l0.length : Int)) = true := decide_eq_true c4
      clear c4
      replace H := Option.bind_eq_some_iff.mp H
      obtain ⟨t307, A50, H⟩ := H
      replace H : (if x3_1.length < 1759218604441 then (impl_own.l0 k1 (x3_1 ++ [(⟨(rd_T33 l0 x8_1).f0, (rd_T33 l0 x8_1).f1, (rd_T33 l0 x8_1).f2, (rd_T33 l0 x8_1).f3, (rd_T33 l0 x8_1).f4, (rd_T33 l0 x8_1).f5, t307⟩ : S33)]) l0 (l0.length : Int) (wrap64 (x8_1 + 1))) else (none)) = some r := H
      have A5 := Aside0.mk A50
      clear A50
      by_cases c6 : x3_1.length < 1759218604441
      ·rw [if_pos c6] at H
       have LMc6 := Aside0.mk c6
       clear c6
       obtain ⟨y310, hy310⟩ : ∃ y_ : List (S33), y_ = (x3_1 ++ [(⟨(rd_T33 l0 x8_1).f0, (rd_T33 l0 x8_1).f1, (rd_T33 l0 x8_1).f2, (rd_T33 l0 x8_1).f3, (rd_T33 l0 x8_1).f4, (rd_T33 l0 x8_1).f5, t307⟩ : S33)]) := ⟨_, rfl⟩
       replace H : (impl_own.l0 k1 y310 l0 (l0.length : Int) (wrap64 (x8_1 + 1))) = some r := by first | (rw [hy310]; with_reducible exact H) | (have H2_ := (Option.bind_some _ _).symm.trans H; rw [hy310]; with_reducible exact H2_) | (have H2_ := (Option.bind_some _ _).symm.trans H; with_reducible exact H2_) | with_reducible exact H | (rw [hy310]; exact H) | exact H
       have Ny310 := Aside0.mk hy310
       clear hy310
       have H' := Aside0.mk H
       clear H
       have p305 : 0 ≤ (x8_1 : Int) := of_decide_eq_true (by assumption)
       have q305 : x8_1 < (l0.length : Int) := of_decide_eq_true (by assumption)
       obtain ⟨ad305, A305_6, c305_6, e305, hx305_0, hx305_1, hx305_2, hx305_3, hx305_4, hx305_5, hx305_6, hl305_6, hi305_6⟩ := at_T33 HR0.out x8_1 p305 q305
       cases e305
       replace hx305_0 := hxB HB.out hx305_0
       replace hx305_1 := hxB HB.out hx305_1
       replace hx305_2 := hxB HB.out hx305_2
       replace hx305_3 := hxB HB.out hx305_3
       replace hx305_4 := hxB HB.out hx305_4
       replace hx305_5 := hxB HB.out hx305_5
       replace hx305_6 := hxB HB.out hx305_6
       have HR305_6 := Aside0.mk hi305_6
       have HC305_6 := Aside0.mk hl305_6
       clear hi305_6 hl305_6
       replace p305 := eq_true p305
       replace q305 := eq_true q305
       go_wp2_with (first | ((with_reducible refine gate_dst (N := 5) rfl ?_); refine box_event ?hg (N := 5) ?hd (cs := #[.int .i64 0, .string (⟨#[]⟩ : ByteArray), .int .i64 0, .int .i64 0, .int .i64 0, .bool false, .slice none 0 0]) (t := 33) ?hr ?_; (case hd => rfl); (case hg => rfl); (case hr => first | (go_simp; done) | (go_simp; rfl)); intro gb306 hg w7 hbox hb; have n0_ := Aside0.mk (Kd.S_below (Kd.S_elderB (by (with_reducible repeat (first | apply Kd.S_alloc | apply Kd.S_drewN | apply Kd.S_drew)); exact HO_3.out) gb306 (Nat.le_of_eq hg.symm)) hb); have n1_ := Aside0.mk (below_step bA hb); have n2_ := Aside0.mk (hbox); have n3_ := Aside0.mk ((by rw [hg]; exact (below_size bA) : w.heap.size ≤ gb306)); have n4_ := Aside0.mk ((by rw [hg]; exact (below_size bA) : w.heap.size ≤ gb306)); clear HO_3; clear HB; have HO_3 := n0_; have HB := n1_; have BK306 := n2_; have GW306 := n3_; have GE306 := n4_; clear n0_ n1_ n2_ n3_ n4_; clear hb hbox hg; obtain ⟨⟨hcz8_0, hcz8_1, hcz8_2, hcz8_3, hcz8_4, hcz8_5, hcz8_6⟩, hfz8_0, hfz8_1, hfz8_2, hfz8_3, hfz8_4, hfz8_5, hfz8_6⟩ := Own.c7 BK306.out) | ((with_reducible refine gate_store (t := 33) (p := 5) rfl ?_); refine store_event (t := 33) (p := 5) (v := ?vo_w9) (w1 := (((((((w7.setCell ⟨gb306, 0, none⟩ (.int .i64 ((rd_T33 l0 x8_1).f0))).setCell ⟨gb306, 1, none⟩ (.string ((rd_T33 l0 x8_1).f1))).setCell ⟨gb306, 2, none⟩ (.int .i64 ((rd_T33 l0 x8_1).f2))).setCell ⟨gb306, 3, none⟩ (.int .i64 ((rd_T33 l0 x8_1).f3))).setCell ⟨gb306, 4, none⟩ (.int .i64 ((rd_T33 l0 x8_1).f4))).setCell ⟨gb306, 5, none⟩ (.bool ((rd_T33 l0 x8_1).f5))).setCell ⟨gb306, 6, none⟩ (.slice A305_6 ((rd_T33 l0 x8_1).f6).length c305_6))) ?hg ?ho ?hn ?hr ?_; (case ho => rfl); (case hg => rfl); (case hn => rfl); (case hr => first | (go_simp; done) | (go_simp; rfl)); intro w9 hw; have n0_ : Aside0 (Kd.S k33 33 w9 w.heap.size (fun k_ => k_ ≠ gb306) u3 x3_1) := ⟨(by rw [hw]; exact (by (with_reducible repeat (first | apply Kd.S_alloc | apply Kd.S_drewN | apply Kd.S_drew)); exact Kd.S_mono (Kd.S_far (p := ⟨gb306, 6, none⟩) (Kd.S_far (p := ⟨gb306, 5, none⟩) (Kd.S_far (p := ⟨gb306, 4, none⟩) (Kd.S_far (p := ⟨gb306, 3, none⟩) (Kd.S_far (p := ⟨gb306, 2, none⟩) (Kd.S_far (p := ⟨gb306, 1, none⟩) (Kd.S_far (p := ⟨gb306, 0, none⟩) (Kd.S_mono HO_3.out (fun k_ hk => (⟨hk, hk.2⟩ : _ ∧ k_ ≠ gb306))) (fun _ hk => hk.2) (.int .i64 ((rd_T33 l0 x8_1).f0))) (fun _ hk => hk.2) (.string ((rd_T33 l0 x8_1).f1))) (fun _ hk => hk.2) (.int .i64 ((rd_T33 l0 x8_1).f2))) (fun _ hk => hk.2) (.int .i64 ((rd_T33 l0 x8_1).f3))) (fun _ hk => hk.2) (.int .i64 ((rd_T33 l0 x8_1).f4))) (fun _ hk => hk.2) (.bool ((rd_T33 l0 x8_1).f5))) (fun _ hk => hk.2) (.slice A305_6 ((rd_T33 l0 x8_1).f6).length c305_6)) (fun _ hk => hk.1.2)))⟩; have n1_ : Aside0 (w9.heap[gb306]? = some (.cells #[.int .i64 ((rd_T33 l0 x8_1).f0), .string ((rd_T33 l0 x8_1).f1), .int .i64 ((rd_T33 l0 x8_1).f2), .int .i64 ((rd_T33 l0 x8_1).f3), .int .i64 ((rd_T33 l0 x8_1).f4), .bool ((rd_T33 l0 x8_1).f5), .slice A305_6 ((rd_T33 l0 x8_1).f6).length c305_6] 33 (0, 0))) := ⟨(by rw [hw]; exact (by exact put7 BK306.out))⟩; have n2_ : Aside0 (Below w.heap.size w w9) := ⟨(by rw [hw]; exact bA)⟩; clear hw; clear HO_3; clear BK306; clear HB; have HO_3 := n0_; have BK306 := n1_; have HB := n2_; clear n0_ n1_ n2_; obtain ⟨⟨hcz10_0, hcz10_1, hcz10_2, hcz10_3, hcz10_4, hcz10_5, hcz10_6⟩, hfz10_0, hfz10_1, hfz10_2, hfz10_3, hfz10_4, hfz10_5, hfz10_6⟩ := Own.c7 BK306.out) | ((with_reducible refine gate_callee (f := 114) rfl ?_); refine goesL_ (some 14) rfl rfl Try.func114 (by kernel_rfl) rfl #[.slice A305_6 ((rd_T33 l0 x8_1).f6).length c305_6] rfl aL ?_; (with_reducible refine (slices_Clone_int_int.calls _ _ ((rd_T33 l0 x8_1).f6) t307 _ ?side1 ?side2 A5.out).mono ?_); (case side1 => exact cA); (case side2 => exact HC305_6.out); rintro e w11 ⟨v308, rfl, ho0, hb⟩; refine ⟨_, rfl, ?_⟩; have n0_ := Aside0.mk (Kd.S_elder' (by (with_reducible repeat (first | apply Kd.S_alloc | apply Kd.S_drewN | apply Kd.S_drew)); exact HO_3.out) (Kd.R_base ho0) hb); have n1_ := Aside0.mk (Kd.R_lower ho0 (below_size bA)); have n2_ := Aside0.mk (blk_below (g := gb306) (o := .cells #[.int .i64 ((rd_T33 l0 x8_1).f0), .string ((rd_T33 l0 x8_1).f1), .int .i64 ((rd_T33 l0 x8_1).f2), .int .i64 ((rd_T33 l0 x8_1).f3), .int .i64 ((rd_T33 l0 x8_1).f4), .bool ((rd_T33 l0 x8_1).f5), .slice A305_6 ((rd_T33 l0 x8_1).f6).length c305_6] 33 (0, 0)) (by (with_reducible repeat (first | refine blk_drewN ?_ _ | refine blk_drew ?_ | refine blk_alloc ?_ _)); exact BK306.out) hb); have n3_ := Aside0.mk (below_step bA hb); clear HO_3; clear BK306; clear HB; have HO_3 := n0_; have HO309 := n1_; have BK306 := n2_; have HB := n3_; clear n0_ n1_ n2_ n3_; (try clear hb); (try clear hb2); (try clear hk); (try clear hi); (try clear ho0); obtain ⟨Ao12, co12, eo12⟩ := Kd.R_slice HO309.out; subst eo12; obtain ⟨⟨hcz13_0, hcz13_1, hcz13_2, hcz13_3, hcz13_4, hcz13_5, hcz13_6⟩, hfz13_0, hfz13_1, hfz13_2, hfz13_3, hfz13_4, hfz13_5, hfz13_6⟩ := Own.c7 BK306.out) | ((with_reducible refine gate_store (t := 28) (p := 15) rfl ?_); refine store_event (t := 28) (p := 15) (v := ?vo_w14) (w1 := (w11.setCell ⟨gb306, 6, none⟩ (.slice Ao12 t307.length co12))) ?hg ?ho ?hn ?hr ?_; (case ho => rfl); (case hg => rfl); (case hn => rfl); (case hr => first | (go_simp; done) | (go_simp; rfl)); intro w14 hw; have n0_ : Aside0 (Kd.S k33 33 w14 w.heap.size (fun k_ => some k_ ≠ (.slice Ao12 t307.length co12 : Value).ownBlock ∧ k_ ≠ gb306) u3 x3_1) := ⟨(by rw [hw]; exact (by (with_reducible repeat (first | apply Kd.S_alloc | apply Kd.S_drewN | apply Kd.S_drew)); exact Kd.S_mono (Kd.S_far (p := ⟨gb306, 6, none⟩) (Kd.S_mono HO_3.out (fun k_ hk => (⟨hk, hk.1⟩ : _ ∧ k_ ≠ gb306))) (fun _ hk => hk.2) (.slice Ao12 t307.length co12)) (fun _ hk => ⟨hk.1.2, hk.1.1⟩)))⟩; have n1_ : Aside0 (Kd.R (Kd.int .i64) 3 w14 w.heap.size (fun _ => True) (.slice Ao12 t307.length co12) t307) := ⟨(by rw [hw]; exact (by (with_reducible repeat (first | apply Kd.R_alloc | apply Kd.R_drewN | apply Kd.R_drew)); exact Kd.R_mono (Kd.R_far (p := ⟨gb306, 6, none⟩) (Kd.R_types HO309.out BK306.out (by decide)) (fun _ hk => hk.2) (.slice Ao12 t307.length co12)) (fun _ hk => trivial)))⟩; have n2_ : Aside0 (w14.heap[gb306]? = some (.cells #[.int .i64 ((rd_T33 l0 x8_1).f0), .string ((rd_T33 l0 x8_1).f1), .int .i64 ((rd_T33 l0 x8_1).f2), .int .i64 ((rd_T33 l0 x8_1).f3), .int .i64 ((rd_T33 l0 x8_1).f4), .bool ((rd_T33 l0 x8_1).f5), .slice Ao12 t307.length co12] 33 (0, 0))) := ⟨(by rw [hw]; exact (by (with_reducible repeat (first | refine blk_drewN ?_ _ | refine blk_drew ?_ | refine blk_alloc ?_ _)); refine blk_put (cs := #[.int .i64 ((rd_T33 l0 x8_1).f0), .string ((rd_T33 l0 x8_1).f1), .int .i64 ((rd_T33 l0 x8_1).f2), .int .i64 ((rd_T33 l0 x8_1).f3), .int .i64 ((rd_T33 l0 x8_1).f4), .bool ((rd_T33 l0 x8_1).f5), .slice A305_6 ((rd_T33 l0 x8_1).f6).length c305_6]) ?_ 6 _ rfl; (with_reducible repeat (first | refine blk_drewN ?_ _ | refine blk_drew ?_ | refine blk_alloc ?_ _)); exact BK306.out))⟩; have n3_ : Aside0 (Below w.heap.size w w14) := ⟨(by rw [hw]; exact bA)⟩; clear hw; clear HO_3; clear HO309; clear BK306; clear HB; have HO_3 := n0_; have HO309 := n1_; have BK306 := n2_; have HB := n3_; clear n0_ n1_ n2_ n3_; obtain ⟨⟨hcz15_0, hcz15_1, hcz15_2, hcz15_3, hcz15_4, hcz15_5, hcz15_6⟩, hfz15_0, hfz15_1, hfz15_2, hfz15_3, hfz15_4, hfz15_5, hfz15_6⟩ := Own.c7 BK306.out) | ((with_reducible refine gate_builtin (b := .append) (xs := #[.tmp 16, .tmp 18]) rfl ?_); at_builtin; refine Kd.S_append k33 (w0 := w) w.heap.size rfl (.tmp 16) (.tmp 18) 25 33 (.agg #[(.int .i64 0), (.string ⟨#[]⟩), (.int .i64 0), (.int .i64 0), (.int .i64 0), (.bool false), (.slice none 0 0)]) 80 rfl Try.underlying25 info33 rfl (by decide) (by omega) u3 x3_1 (⟨(rd_T33 l0 x8_1).f0, (rd_T33 l0 x8_1).f1, (rd_T33 l0 x8_1).f2, (rd_T33 l0 x8_1).f3, (rd_T33 l0 x8_1).f4, (rd_T33 l0 x8_1).f5, t307⟩ : S33) [.int .i64 ((rd_T33 l0 x8_1).f0), .string ((rd_T33 l0 x8_1).f1), .int .i64 ((rd_T33 l0 x8_1).f2), .int .i64 ((rd_T33 l0 x8_1).f3), .int .i64 ((rd_T33 l0 x8_1).f4), .bool ((rd_T33 l0 x8_1).f5), .slice Ao12 t307.length co12] (fun k_ => k_ ≠ gb306) (fun k_ => some k_ = (.slice Ao12 t307.length co12 : Value).ownBlock) rfl rfl ?aP (fun k_ hk_ => ((Kd.R_mono (ok' := fun k_ => ((fun k_ => k_ ≠ gb306)) k_ ∧ some k_ ≠ (u3 : Value).ownBlock) (Kd.R_types (Kd.R_apart' (HO309.out) (Kd.S_typed HO_3.out) (by decide)) BK306.out (by decide)) (fun k_ hk => ⟨hk.2, hk.1.2⟩))).1 k_ hk_.symm) ?aF ?aO ?aB ?aS ?aL ?_; (case aP => exact k33_mkM _ _ _ (⟨(rd_T33 l0 x8_1).f0, (rd_T33 l0 x8_1).f1, (rd_T33 l0 x8_1).f2, (rd_T33 l0 x8_1).f3, (rd_T33 l0 x8_1).f4, (rd_T33 l0 x8_1).f5, t307⟩ : S33) (Kd.R_mono (Kd.R_tight rfl (Kd.R_mono (ok' := fun k_ => ((fun k_ => k_ ≠ gb306)) k_ ∧ some k_ ≠ (u3 : Value).ownBlock) (Kd.R_types (Kd.R_apart' (HO309.out) (Kd.S_typed HO_3.out) (by decide)) BK306.out (by decide)) (fun k_ hk => ⟨hk.2, hk.1.2⟩))) (fun _ h_ => h_))); (case aB => exact bA); (case aF => exact (fun k_ hk => Kd.freshB (g := gb306) (o := .cells #[.int .i64 ((rd_T33 l0 x8_1).f0), .string ((rd_T33 l0 x8_1).f1), .int .i64 ((rd_T33 l0 x8_1).f2), .int .i64 ((rd_T33 l0 x8_1).f3), .int .i64 ((rd_T33 l0 x8_1).f4), .bool ((rd_T33 l0 x8_1).f5), .slice Ao12 t307.length co12] 33 (0, 0)) (by (with_reducible repeat (first | refine blk_drewN ?_ _ | refine blk_drew ?_ | refine blk_alloc ?_ _)); exact BK306.out) k_ hk)); (case aO => exact (by (with_reducible repeat (first | apply Kd.S_alloc | apply Kd.S_drewN | apply Kd.S_drew)); exact Kd.S_mono HO_3.out (fun k_ hk => ⟨hk.2, fun e_ => hk.1 e_⟩))); (case aS => exact (below_size bA)); (case aL => have := LMc6.out; omega); intro v311 w16 ho hb hg hat; rw [← Ny310.out] at ho; have n0_ := Aside0.mk (blk_grown (g := gb306) (o := .cells #[.int .i64 ((rd_T33 l0 x8_1).f0), .string ((rd_T33 l0 x8_1).f1), .int .i64 ((rd_T33 l0 x8_1).f2), .int .i64 ((rd_T33 l0 x8_1).f3), .int .i64 ((rd_T33 l0 x8_1).f4), .bool ((rd_T33 l0 x8_1).f5), .slice Ao12 t307.length co12] 33 (0, 0)) (by (with_reducible repeat (first | refine blk_drewN ?_ _ | refine blk_drew ?_ | refine blk_alloc ?_ _)); exact BK306.out) hg (Kd.S_away HO_3.out (fun _ hk => hk.2))); have n1_ := Aside0.mk (hb); have n2_ := Aside0.mk (ho); clear BK306; clear HB; clear HO_3; clear HO309; have BK306 := n0_; have HB := n1_; have HO312 := n2_; clear n0_ n1_ n2_; clear ho hb hg hat))
       go_roundg k1
       case measure => have := HK1.out; omega
       case rel => exact ⟨(y310), (wrap64 (x8_1 + 1)), rF, H', ⟨by have := HK1.out; omega⟩, ⟨by (with_reducible repeat (first | apply Kd.S_alloc | apply Kd.S_drewN | apply Kd.S_drew)); exact Kd.S_mono HO312.out (fun _ hk => trivial)⟩, ⟨bA⟩⟩
      ·rw [if_neg c6] at H
       exact absurd H (by simp)
     ·rw [if_neg c4] at H
      exact absurd H (by simp)
    ·rw [if_neg c3] at H
     exact absurd H (by simp)
   ·rw [if_neg c2] at H
    have c2b0 : decide (x8_1 < (l0.length : Int)) = false := decide_eq_false c2
    clear c2
    obtain rfl := Option.some.inj H
    go_wp2
    go_ret
    exact ⟨_, rE, by (with_reducible repeat (first | apply Kd.S_alloc | apply Kd.S_drewN | apply Kd.S_drew)); exact HO_3.out, bA⟩

-- NOT PRINTED: function 115 (slices_Grow_impl_Node_impl_Node)

/-! ### slices_Concat_impl_Node_impl_Node: function 85 -/
def slices_Concat_impl_Node_impl_Node.sum : List (List S33) → Nat
 | [] => 0
 | x :: xs => x.length + slices_Concat_impl_Node_impl_Node.sum xs
theorem slices_Concat_impl_Node_impl_Node.sum_flatten : ∀ l : List (List S33), l.flatten.length = slices_Concat_impl_Node_impl_Node.sum l
 | [] => rfl
 | x :: xs => by simp [slices_Concat_impl_Node_impl_Node.sum, slices_Concat_impl_Node_impl_Node.sum_flatten xs]
theorem slices_Concat_impl_Node_impl_Node.sum_app : ∀ l m : List (List S33), slices_Concat_impl_Node_impl_Node.sum (l ++ m) = slices_Concat_impl_Node_impl_Node.sum l + slices_Concat_impl_Node_impl_Node.sum m
 | [], m => by simp [slices_Concat_impl_Node_impl_Node.sum]
 | x :: xs, m => by simp [slices_Concat_impl_Node_impl_Node.sum, slices_Concat_impl_Node_impl_Node.sum_app xs m, Nat.add_assoc]
def slices_Concat_impl_Node_impl_Node.row (x0 : List (List S33)) (i : Nat) : List S33 := x0.getD i []
theorem slices_Concat_impl_Node_impl_Node.take_succ (l : List (List S33)) (i : Nat) (h : i < l.length) : l.take (i + 1) = l.take i ++ [slices_Concat_impl_Node_impl_Node.row l i] := by
 rw [List.take_add_one]; simp [slices_Concat_impl_Node_impl_Node.row, h]
theorem slices_Concat_impl_Node_impl_Node.sum_take (l : List (List S33)) (i : Nat) : slices_Concat_impl_Node_impl_Node.sum (l.take i) ≤ slices_Concat_impl_Node_impl_Node.sum l := by
 have := slices_Concat_impl_Node_impl_Node.sum_app (l.take i) (l.drop i)
 rw [List.take_append_drop] at this
 omega
theorem slices_Concat_impl_Node_impl_Node.foot {w W : World} {A : Option Addr} {n : Nat} {xs : List S33} (h : Kd.C k33 w A n xs) (hb : Below w.heap.size w W) : Kd.F k33 W (fun k => k < w.heap.size) A n xs :=
 Kd.F_step (Kd.C_F (Kd.heap_iso _ (Kd.heap_pair (Kd.heap_int _) (Kd.heap_pair Kd.heap_string (Kd.heap_pair (Kd.heap_int _) (Kd.heap_pair (Kd.heap_int _) (Kd.heap_pair (Kd.heap_int _) (Kd.heap_pair Kd.heap_bool (Kd.heap_slice 3 (Kd.heap_int _)))))))) : Kd.Heap k33) h) (fun k hk _ => hb.block k hk)
set_option maxHeartbeats 8000000 in
set_option maxRecDepth 100000 in
theorem slices_Concat_impl_Node_impl_Node.grow (n : Int) (w : World) (h0 : 0 ≤ n) (h1 : n ≤ 1759218604441) :
  Calls Try.prog 115 #[.slice none 0 0, .int .i64 n] w fun e w' => ∃ v0_ : Value, e = .returned v0_ ∧ Kd.N k33 33 w' w.heap.size (fun _ => True) v0_ ([] : List S33) ∧ Below w.heap.size w w' := by
 have HB := Aside0.mk (Below.refl w.heap.size w)
 obtain ⟨i0, hi0, _, hsz, _⟩ := info_parts info33
 have hcz : ∀ W : World, (Instr.slice 25 (.slice none 0 0) none (some (.int .i64 0)) none).run Try.prog W = .ok (.slice none 0 0) W := by
  intro W
  have h_ := cut_to (P := Try.prog) 25 33 .i64 Try.underlying25 hi0 none 0 0 0 (by omega) (by omega) (by omega) W
  simpa using h_
 have hct : ∀ (A : Option Addr) (m c : Nat), m ≤ c → ∀ W : World, (Instr.slice 25 (.slice A m c) none (some (.int .i64 0)) none).run Try.prog W = .ok (.slice A 0 c) W := by
  intro A m c hc W
  have h_ := cut_to (P := Try.prog) 25 33 .i64 Try.underlying25 hi0 A m c 0 (by omega) (by omega) hc W
  simpa using h_
 have hlt : decide (n < 0) = false := decide_eq_false (by omega)
 have hw : wrap64 (n - 0) = n := by unfold wrap64; omega
 by_cases hn : 0 < n
 ·have hgt : decide (0 < n) = true := decide_eq_true hn
  go_enter Try.func115, Try.ntmps115
  go_wp2_with (first | ((with_reducible refine gate_builtin (b := .append) (xs := #[.tmp 20, .tmp 21]) rfl ?_); at_builtin; refine Kd.N_append_zeros k33 (w0 := w) w.heap.size rfl (.tmp 20) (.tmp 21) 25 3 33 (.agg #[.int .i64 0, .string ⟨#[]⟩, .int .i64 0, .int .i64 0, .int .i64 0, .bool false, .slice none 0 0]) 80 rfl Try.underlying25 Try.underlying3 info33 rfl (by decide) (by omega) (.slice none 0 0) ([] : List S33) z33 (kx := .i64) n (fun _ => True) rfl rfl (k33_mkF _ _ z33 (Nat.le_refl _) (fun _ _ => Kd.C_nil _ _)) (fun _ _ => trivial) (Kd.N_nil _ _ _ _ _) h0 HB.out (Nat.le_refl _) (by simp; omega) ?_; intro v1 w1 ho hb hg hat; obtain ⟨A1, c1, e1, hc1, _⟩ := Kd.N_reads ho; subst e1; have HO1 := Aside0.mk ho; have n0_ := Aside0.mk hb; clear HB ho hb hg hat; have HB := n0_; clear n0_; have hcut := hct A1 _ c1 hc1; clear hc1))
  go_ret
  refine ⟨_, rfl, ?_, HB.out⟩
  have h2 := Kd.N_take (m := 0) HO1.out (by omega)
  simpa using h2
 ·have hgt : decide (0 < n) = false := decide_eq_false hn
  go_enter Try.func115, Try.ntmps115
  go_wp2
  go_ret
  exact ⟨_, rfl, Kd.N_nil _ _ _ _ _, HB.out⟩
def slices_Concat_impl_Node_impl_Node.f (k : Nat) (l0 : List (List S33)) : Option (List S33) := if slices_Concat_impl_Node_impl_Node.sum l0 ≤ 1759218604441 then some l0.flatten else none
theorem slices_Concat_impl_Node_impl_Node.mono : ∀ a0 k, LeO (slices_Concat_impl_Node_impl_Node.f k a0) (slices_Concat_impl_Node_impl_Node.f (k + 1) a0) := fun _ _ => LeO.refl _
theorem slices_Concat_impl_Node_impl_Node.at_ {w : World} {A : Option Addr} {n : Nat} {xs : List (List S33)} (h : Kd.C (Kd.slice 33 k33) w A n xs) (i : Nat) (h1 : i < n) : ∃ ad A0 c0, A = some ad ∧ w.cell? (ad.add i) = some (.slice A0 (slices_Concat_impl_Node_impl_Node.row xs i).length c0) ∧ (slices_Concat_impl_Node_impl_Node.row xs i).length ≤ c0 ∧ k33.C w A0 (slices_Concat_impl_Node_impl_Node.row xs i).length (slices_Concat_impl_Node_impl_Node.row xs i) := by
 obtain ⟨ad, c, e, _, hK, hc0⟩ := Kd.C_get h ([] : List S33) (i : Int) (by omega) (by omega)
 have hc : ∀ j u, c[j]? = some u → w.cell? (ad.add (i * 1 + j)) = some u := hc0
 obtain ⟨A0, c0, rfl, l0, g0⟩ := hK
 exact ⟨ad, A0, c0, e, by have hq := hc 0 _ rfl; rwa [Nat.mul_one, Nat.add_zero] at hq, l0, g0⟩
set_option maxHeartbeats 8000000 in
set_option maxRecDepth 100000 in
theorem slices_Concat_impl_Node_impl_Node.calls (k : Nat) (A0 : Option Addr) (c0 : Nat) (l0 : List (List S33)) (r : List S33) (w : World) (hr0 : Kd.C (Kd.slice 33 k33) w A0 l0.length l0) (hc0 : l0.length ≤ c0) (h : slices_Concat_impl_Node_impl_Node.f k l0 = some r) :
  Calls Try.prog 85 #[.slice A0 l0.length c0] w fun e w' => ∃ v0_ : Value, e = .returned (v0_) ∧ Kd.N k33 33 w' w.heap.size (fun _ => True) v0_ r ∧ Below w.heap.size w w' := by
 have hsum : slices_Concat_impl_Node_impl_Node.sum l0 ≤ 1759218604441 := by
  unfold slices_Concat_impl_Node_impl_Node.f at h
  by_cases hs : slices_Concat_impl_Node_impl_Node.sum l0 ≤ 1759218604441
  ·exact hs
  ·rw [if_neg hs] at h; cases h
 have hr : l0.flatten = r := by
  unfold slices_Concat_impl_Node_impl_Node.f at h
  rw [if_pos hsum] at h
  exact Option.some.inj h
 subst hr
 clear h
 have hl0 : l0.length ≤ 9223372036854775807 := hr0.2.1
 have HS := Aside0.mk hsum
 have HL := Aside0.mk hl0
 have HR0 := Aside0.mk hr0
 have HC0 := Aside0.mk hc0
 clear hr0 hc0 hsum hl0
 have HB := Aside0.mk (Below.refl w.heap.size w)
 go_enter Try.func85, Try.ntmps85
 go_wp2
 go_loopg [3, 11] l0.length (fun kq v3 v11 w' => ∃ i : Nat, v3 = .int .i64 (slices_Concat_impl_Node_impl_Node.sum (l0.take i) : Int) ∧ v11 = .int .i64 (i : Int) ∧ Aside0 (kq + i = l0.length) ∧ Aside0 (Below w.heap.size w w'))
 case atStart => exact ⟨0, by first | rfl | (simp [slices_Concat_impl_Node_impl_Node.sum]; done), by first | rfl | (simp; done), ⟨by omega⟩, ⟨bA⟩⟩
 case round =>
  obtain ⟨i, rfl, rfl, HK1, HB⟩ := hrel
  cases gk with
  | zero =>
   have hi : i = l0.length := by have := HK1.out; omega
   subst hi
   have c3 : decide ((l0.length : Int) < (l0.length : Int)) = false := decide_eq_false (by omega)
   rw [List.take_length]
   have hs0 : (slices_Concat_impl_Node_impl_Node.sum l0 : Int) ≤ 1759218604441 := by have := HS.out; omega
   have HS2 := Aside0.mk hs0
   clear hs0
   go_wp2_with (first | (go_at_call 115; (with_reducible refine (slices_Concat_impl_Node_impl_Node.grow (slices_Concat_impl_Node_impl_Node.sum l0 : Int) _ (by omega) HS2.out).mono ?_); rintro e w8 ⟨v6, rfl, ho, hb⟩; have n0_ := Aside0.mk (below_step bA hb); have HO6 := Aside0.mk (Kd.N_lower ho (below_size bA)); clear HB ho hb; have HB := n0_; clear n0_))
   go_loopg [6, 27] l0.length (fun kq v6 v27 w' => ∃ (i : Nat), v27 = .int .i64 (i : Int) ∧ Aside0 (kq + i = l0.length) ∧ Aside0 (Kd.N k33 33 w' w.heap.size (fun _ => True) v6 (l0.take i).flatten) ∧ Aside0 (Below w.heap.size w w'))
   case atStart => exact ⟨0, by first | rfl | (simp; done), ⟨by omega⟩, ⟨by (with_reducible repeat (first | apply Kd.N_alloc | apply Kd.N_drewN | apply Kd.N_drew)); exact HO6.out⟩, ⟨bA⟩⟩
   case round =>
    clear HO6 HB HK1
    rename_i v6q v27q
    obtain ⟨i, rfl, HK1, HO6, HB⟩ := hrel
    cases gk with
    | zero =>
     have hi : i = l0.length := by have := HK1.out; omega
     subst hi
     have c3 : decide ((l0.length : Int) < (l0.length : Int)) = false := decide_eq_false (by omega)
     rw [List.take_length] at HO6
     go_wp2
     go_ret
     exact ⟨_, rfl, by (with_reducible repeat (first | apply Kd.N_alloc | apply Kd.N_drewN | apply Kd.N_drew)); exact HO6.out, bA⟩
    | succ k1 =>
     have hi : i < l0.length := by have := HK1.out; omega
     have c3 : decide ((i : Int) < (l0.length : Int)) = true := decide_eq_true (by omega)
     obtain ⟨ad, Ai, ci, e, hx, hli, hCi⟩ := slices_Concat_impl_Node_impl_Node.at_ HR0.out i hi
     subst e
     replace hx := hxB HB.out hx
     have HCI := Aside0.mk hCi
     have p5 : (0 ≤ (i : Int)) = True := eq_true (by omega)
     have q5 : ((i : Int) < (l0.length : Int)) = True := eq_true (by omega)
     have hw2 : wrap64 ((i : Int) + 1) = ((i + 1 : Nat) : Int) := by have := HL.out; unfold wrap64; omega
     have hlim : ((l0.take i).flatten.length + (slices_Concat_impl_Node_impl_Node.row l0 i).length) * 80 ≤ 140737488355328 := by
      have h1 := slices_Concat_impl_Node_impl_Node.sum_take l0 (i + 1)
      rw [slices_Concat_impl_Node_impl_Node.take_succ l0 i hi, slices_Concat_impl_Node_impl_Node.sum_app] at h1
      have h2 : slices_Concat_impl_Node_impl_Node.sum [slices_Concat_impl_Node_impl_Node.row l0 i] = (slices_Concat_impl_Node_impl_Node.row l0 i).length := rfl
      have h3 := HS.out
      rw [slices_Concat_impl_Node_impl_Node.sum_flatten]
      omega
     have LM := Aside0.mk hlim
     have NX := Aside0.mk (show (l0.take i).flatten ++ slices_Concat_impl_Node_impl_Node.row l0 i = (l0.take (i + 1)).flatten by rw [slices_Concat_impl_Node_impl_Node.take_succ l0 i hi]; simp)
     clear hlim hCi hli
     obtain ⟨A6, c6, e6⟩ := Kd.N_slice HO6.out
     subst e6
     go_wp2_with (first | ((with_reducible refine gate_builtin (b := .append) (xs := #[.tmp 31, .tmp 32]) rfl ?_); at_builtin; refine Kd.N_append_rows k33 (w0 := w) w.heap.size rfl (.tmp 31) (.tmp 32) 25 33 (.agg #[.int .i64 0, .string ⟨#[]⟩, .int .i64 0, .int .i64 0, .int .i64 0, .bool false, .slice none 0 0]) 80 rfl Try.underlying25 info33 rfl (by decide) (by omega) (.slice A6 (l0.take i).flatten.length c6) (l0.take i).flatten (slices_Concat_impl_Node_impl_Node.row l0 i) _ _ _ (fun _ => True) (fun k => k < w.heap.size) rfl rfl ?aO ?aR (fun k hk => ⟨trivial, fun he => by have := Kd.N_base HO6.out k he.symm; omega⟩) (fun _ _ => trivial) ?aB ?aS LM.out ?_; (case aR => exact slices_Concat_impl_Node_impl_Node.foot HCI.out bA); (case aB => exact bA); (case aO => (with_reducible repeat (first | apply Kd.N_alloc | apply Kd.N_drewN | apply Kd.N_drew)); exact HO6.out); (case aS => exact (below_size bA)); intro v1 w15 ho hb hg hat; rw [NX.out] at ho; have n0_ := Aside0.mk ho; have n1_ := Aside0.mk hb; clear HO6 HB ho hb hg hat HCI; have HO6 := n0_; have HB := n1_; clear n0_ n1_))
     go_roundg k1
     case measure => omega
     case rel => exact ⟨i + 1, rF, ⟨by have := HK1.out; omega⟩, ⟨by (with_reducible repeat (first | apply Kd.N_alloc | apply Kd.N_drewN | apply Kd.N_drew)); exact HO6.out⟩, ⟨bA⟩⟩
  | succ k1 =>
   have hi : i < l0.length := by have := HK1.out; omega
   have c3 : decide ((i : Int) < (l0.length : Int)) = true := decide_eq_true (by omega)
   obtain ⟨ad, Ai, ci, e, hx, hli, hCi⟩ := slices_Concat_impl_Node_impl_Node.at_ HR0.out i hi
   subst e
   replace hx := hxB HB.out hx
   have p5 : (0 ≤ (i : Int)) = True := eq_true (by omega)
   have q5 : ((i : Int) < (l0.length : Int)) = True := eq_true (by omega)
   have hsl := slices_Concat_impl_Node_impl_Node.sum_take l0 (i + 1)
   have hsa : slices_Concat_impl_Node_impl_Node.sum (l0.take (i + 1)) = slices_Concat_impl_Node_impl_Node.sum (l0.take i) + (slices_Concat_impl_Node_impl_Node.row l0 i).length := by
    rw [slices_Concat_impl_Node_impl_Node.take_succ l0 i hi, slices_Concat_impl_Node_impl_Node.sum_app]; rfl
   have hss := HS.out
   have hw1 : wrap64 ((slices_Concat_impl_Node_impl_Node.sum (l0.take i) : Int) + ((slices_Concat_impl_Node_impl_Node.row l0 i).length : Int)) = (slices_Concat_impl_Node_impl_Node.sum (l0.take (i + 1)) : Int) := by unfold wrap64; omega
   have hw2 : wrap64 ((i : Int) + 1) = ((i + 1 : Nat) : Int) := by have := HL.out; unfold wrap64; omega
   have hlt : decide ((slices_Concat_impl_Node_impl_Node.sum (l0.take (i + 1)) : Int) < 0) = false := decide_eq_false (by omega)
   clear hsl hsa hss hCi hli
   go_wp2
   go_roundg k1
   case measure => omega
   case rel => exact ⟨i + 1, rF, rF, ⟨by have := HK1.out; omega⟩, ⟨bA⟩⟩

end Go.Proofs.Ytmjfnkebpdmhbaa.Q
