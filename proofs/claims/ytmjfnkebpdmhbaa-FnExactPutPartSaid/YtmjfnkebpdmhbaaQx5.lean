/- The machine side of a law, written by a program of this session over the translation: for each Go function a Lean function with the same answers, and the proof that the Go code comes to them. -/
import Derived.Test.YtmjfnkebpdmhbaaQx0
import Derived.Test.YtmjfnkebpdmhbaaQx1
import Derived.Test.YtmjfnkebpdmhbaaQx2
import Derived.Test.YtmjfnkebpdmhbaaQx4
namespace Go.Proofs.Ytmjfnkebpdmhbaa.Q
open Go.RowKit Go.Proofs.Ytmjfnkebpdmhbaa.Own Go.Proofs.YtmjfnkebpdmhbaaW.PrintWords Go.Proofs.YtmjfnkebpdmhbaaW.PrintLast Go.Proofs.YtmjfnkebpdmhbaaW.PrintMore
attribute [local go_sem] max2_int min2_int max_two min_two max_three min_three max_four min_four   -- for this text's walks alone
set_option linter.unusedVariables false
set_option linter.unusedSimpArgs false

/-! ### spec_l02End: function 72 -/
mutual
def spec_l02End.j0 : Nat → List (S33) → Int → Int → Bool → Option (Int × Int)
 | 0, _, _, _, _ => none
 | k + 1, x0, x1, x2, x20 => if x20 = true then (some ((-1), 0)) else (spec_l02End.l0 k x0 x1 x2 (wrap64 (x1 + 1)) 0 0)
def spec_l02End.l0 : Nat → List (S33) → Int → Int → Int → Int → Int → Option (Int × Int)
 | 0, _, _, _, _, _, _ => none
 | k + 1, x0, x1, x2, x8, x9, x10 => if 0 ≤ x1 then (if x1 < (x0.length : Int) then ((spec_ArityOf.f k ((rd_T33 x0 x1).f0)).bind fun t176 => (if x10 < t176 then ((spec_l02End.f k x0 x8 (wrap64 (x2 - 1))).bind fun bt177 => (if bt177.1 < 0 then (some ((-1), 0)) else (if bt177.2 > x9 then (spec_l02End.l0 k x0 x1 x2 bt177.1 bt177.2 (wrap64 (x10 + 1))) else (spec_l02End.l0 k x0 x1 x2 bt177.1 x9 (wrap64 (x10 + 1)))))) else (some (x8, wrap64 (x9 + 1))))) else (none)) else (none)
def spec_l02End.f : Nat → List (S33) → Int → Int → Option (Int × Int)
 | 0, _, _, _ => none
 | k + 1, l0, a1, a2 => if a1 ≥ (l0.length : Int) then (spec_l02End.j0 k l0 a1 a2 true) else (spec_l02End.j0 k l0 a1 a2 (a2 == 0))
end
theorem spec_l02End.mono_l : ∀ k, (∀ y0 y1 y2, LeO (spec_l02End.f k y0 y1 y2) (spec_l02End.f (k + 1) y0 y1 y2)) ∧ (∀ y0 y1 y2 y3, LeO (spec_l02End.j0 k y0 y1 y2 y3) (spec_l02End.j0 (k + 1) y0 y1 y2 y3)) ∧ (∀ y0 y1 y2 y3 y4 y5, LeO (spec_l02End.l0 k y0 y1 y2 y3 y4 y5) (spec_l02End.l0 (k + 1) y0 y1 y2 y3 y4 y5))
 | 0 => ⟨fun _ _ _ r h => by simp [spec_l02End.f] at h, fun _ _ _ _ r h => by simp [spec_l02End.j0] at h, fun _ _ _ _ _ _ r h => by simp [spec_l02End.l0] at h⟩
 | k + 1 => by
  obtain ⟨ih0, ih1, ih2⟩ := spec_l02End.mono_l k
  refine ⟨?_, ?_, ?_⟩ <;> intros <;> (first | unfold spec_l02End.f | unfold spec_l02End.j0 | unfold spec_l02End.l0)
  all_goals repeat' first
  | (with_reducible exact ih0 _ _ _)
  | (with_reducible exact ih1 _ _ _ _)
  | (with_reducible exact ih2 _ _ _ _ _ _)
  | (with_reducible exact spec_ArityOf.mono _ _)
  | (with_reducible exact LeO.refl _)
  | (with_reducible exact LeO.none _)
  | (with_reducible refine LeO.ite ?_ ?_)
  | (with_reducible refine LeO.bind ?_ (fun _ => ?_))
  | exact ih0 _ _ _
  | exact ih1 _ _ _ _
  | exact ih2 _ _ _ _ _ _
  | exact spec_ArityOf.mono _ _
  | exact LeO.none _
  | refine LeO.ite ?_ ?_
  | refine LeO.bind ?_ (fun _ => ?_)
theorem spec_l02End.mono : ∀ a0 a1 a2 k, LeO (spec_l02End.f k a0 a1 a2) (spec_l02End.f (k + 1) a0 a1 a2) := by
 intro a0 a1 a2 k
 obtain ⟨ih0, ih1, ih2⟩ := spec_l02End.mono_l k
 exact ih0 a0 a1 a2
set_option maxHeartbeats 8000000 in
set_option maxRecDepth 100000 in
theorem spec_l02End.calls (k : Nat) : ∀ (A0 : Option Addr) (c0 : Nat) (l0 : List (S33)) (a1 : Int) (a2 : Int) (r1 : Int) (r2 : Int) (w : World) (hr0 : Kd.C k33 w A0 l0.length l0) (hc0 : l0.length ≤ c0) (h : spec_l02End.f k l0 a1 a2 = some (r1, r2)),
  Calls Try.prog 72 #[.slice A0 l0.length c0, .int .i64 a1, .int .i64 a2] w fun e w' => e = .returned (.tuple #[.int .i64 r1, .int .i64 r2]) ∧ Drawn0 w w' := by
 induction k using Nat.strongRecOn with
 | _ k ih =>
 intro A0 c0 l0 a1 a2 r1 r2 w hr0 hc0 h
 cases k with
 | zero => exact absurd h (by simp [spec_l02End.f])
 | succ k =>
 simp only [spec_l02End.f] at h
 have HR0 := Aside0.mk hr0
 have HC0 := Aside0.mk hc0
 clear hr0 hc0
 have H : (if a1 ≥ (l0.length : Int) then (spec_l02End.j0 k l0 a1 a2 true) else (spec_l02End.j0 k l0 a1 a2 (a2 == 0))) = some (r1, r2) := h
 clear h
 have HC4 := Aside0.mk H
 clear H
 go_enter Try.func72, Try.ntmps72
 go_upto_region 1 with (fail)
 go_cut [20] (fun v20 wc => ∃ (kq : Nat) (x20_3 : Bool), v20 = .bool x20_3 ∧ Aside0 (spec_l02End.j0 kq l0 a1 a2 x20_3 = some (r1, r2)) ∧ Aside0 (kq ≤ k) ∧ Drawn0 w wc)
 case first =>
  have H := HC4.out
  clear HC4
  by_cases c5 : a1 ≥ (l0.length : Int)
  ·rw [if_pos c5] at H
   have c5b0 : decide ((l0.length : Int) ≤ a1) = true := decide_eq_true c5
   clear c5
   (first | rw [c5b0] | (simp only [i64_w, i32_w]; rw [c5b0]) | skip)
   have H' := Aside0.mk H
   clear H
   go_wp2
   go_meet
   case rel => exact ⟨_, (true), rF, H', ⟨by first | omega | exact Nat.le_refl _⟩, by repeat (first | exact Drawn0.refl _ | apply Drawn0.step)⟩
  ·rw [if_neg c5] at H
   have c5b0 : decide ((l0.length : Int) ≤ a1) = false := decide_eq_false c5
   clear c5
   (first | rw [c5b0] | (simp only [i64_w, i32_w]; rw [c5b0]) | skip)
   have H' := Aside0.mk H
   clear H
   go_wp2
   go_meet
   case rel => exact ⟨_, ((a2 == 0)), rF, H', ⟨by first | omega | exact Nat.le_refl _⟩, by repeat (first | exact Drawn0.refl _ | apply Drawn0.step)⟩
 case rest =>
  clear HC4
  try clear p2
  try clear c5
  try clear c5b0
  obtain ⟨kq, x20_3, rfl, HA, HJ3, ⟨mc3, rfl⟩⟩ := hcut
  cases kq with
  | zero => exact absurd HA.out (by simp [spec_l02End.j0])
  | succ kj3 =>
   have H := HA.out
   clear HA
   simp only [spec_l02End.j0] at H
   by_cases c6 : x20_3 = true
   ·subst c6
    have H1 : (some ((-1), 0)) = some (r1, r2) := by rw [if_pos rfl] at H; exact H
    clear H
    have H := H1
    clear H1
    simp only [Option.some.injEq, Prod.mk.injEq] at H
    obtain ⟨rfl, rfl⟩ := H
    go_wp2
    go_ret2
    exact ⟨rF, by repeat (first | exact Drawn0.refl _ | apply Drawn0.step)⟩
   ·replace c6 := Bool.eq_false_iff.mpr c6
    subst c6
    have H1 : (spec_l02End.l0 kj3 l0 a1 a2 (wrap64 (a1 + 1)) 0 0) = some (r1, r2) := by rw [if_neg (show ¬ (false = true) by decide)] at H; exact H
    clear H
    have H := H1
    clear H1
    have H' := Aside0.mk H
    clear H
    go_wp2
    go_loopg [8, 9, 10] kj3 (fun kq v8 v9 v10 w' => ∃ (x8_2 : Int) (x9_2 : Int) (x10_2 : Int), v8 = .int .i64 x8_2 ∧ v9 = .int .i64 x9_2 ∧ v10 = .int .i64 x10_2 ∧ Aside0 (spec_l02End.l0 kq l0 a1 a2 x8_2 x9_2 x10_2 = some (r1, r2)) ∧ Aside0 (kq ≤ kj3) ∧ Drawn0 w w')
    case atStart => exact ⟨(wrap64 (a1 + 1)), (0), (0), rF, rF, rF, H', ⟨Nat.le_refl _⟩, by repeat (first | exact Drawn0.refl _ | apply Drawn0.step)⟩
    case round =>
     clear H'
     try clear p2
     try clear c3
     try clear c5
     try clear c5b0
     try clear c6
     try clear p6
     try clear p2
     obtain ⟨x8_2, x9_2, x10_2, rfl, rfl, rfl, HA, HK2, ⟨m2, rfl⟩⟩ := hrel
     cases gk with
     | zero => exact absurd HA.out (by simp [spec_l02End.l0])
     | succ k2 =>
      have H := HA.out
      clear HA
      simp only [spec_l02End.l0] at H
      by_cases c7 : 0 ≤ a1
      ·rw [if_pos c7] at H
       have c7b0 : decide (0 ≤ a1) = true := decide_eq_true c7
       clear c7
       by_cases c8 : a1 < (l0.length : Int)
       ·rw [if_pos c8] at H
        have c8b0 : decide (a1 < (l0.length : Int)) = true := decide_eq_true c8
        clear c8
        replace H := Option.bind_eq_some_iff.mp H
        obtain ⟨t176, A90, H⟩ := H
        replace H : (if x10_2 < t176 then ((spec_l02End.f k2 l0 x8_2 (wrap64 (a2 - 1))).bind fun bt177 => (if bt177.1 < 0 then (some ((-1), 0)) else (if bt177.2 > x9_2 then (spec_l02End.l0 k2 l0 a1 a2 bt177.1 bt177.2 (wrap64 (x10_2 + 1))) else (spec_l02End.l0 k2 l0 a1 a2 bt177.1 x9_2 (wrap64 (x10_2 + 1)))))) else (some (x8_2, wrap64 (x9_2 + 1)))) = some (r1, r2) := H
        have A9 := Aside0.mk A90
        clear A90
        by_cases c10 : x10_2 < t176
        ·rw [if_pos c10] at H
         have c10b0 : decide (x10_2 < t176) = true := decide_eq_true c10
         clear c10
         replace H := Option.bind_eq_some_iff.mp H
         obtain ⟨⟨t177, t178⟩, A110, H⟩ := H
         replace H : (if t177 < 0 then (some ((-1), 0)) else (if t178 > x9_2 then (spec_l02End.l0 k2 l0 a1 a2 t177 t178 (wrap64 (x10_2 + 1))) else (spec_l02End.l0 k2 l0 a1 a2 t177 x9_2 (wrap64 (x10_2 + 1))))) = some (r1, r2) := H
         have A11 := Aside0.mk A110
         clear A110
         by_cases c12 : t177 < 0
         ·rw [if_pos c12] at H
          have c12b0 : decide (t177 < 0) = true := decide_eq_true c12
          clear c12
          simp only [Option.some.injEq, Prod.mk.injEq] at H
          obtain ⟨rfl, rfl⟩ := H
          have p175 : 0 ≤ (a1 : Int) := of_decide_eq_true (by assumption)
          have q175 : a1 < (l0.length : Int) := of_decide_eq_true (by assumption)
          obtain ⟨ad175, A175_6, c175_6, e175, hx175_0, hx175_1, hx175_2, hx175_3, hx175_4, hx175_5, hx175_6, hl175_6, hi175_6⟩ := at_T33 HR0.out a1 p175 q175
          cases e175
          have HR175_6 := Aside0.mk hi175_6
          have HC175_6 := Aside0.mk hl175_6
          clear hi175_6 hl175_6
          replace p175 := eq_true p175
          replace q175 := eq_true q175
          go_wp2_with (first | ((with_reducible refine gate_callee (f := 110) rfl ?_); refine goesL_ (some 29) rfl rfl Try.func110 (by kernel_rfl) rfl #[.int .i64 ((rd_T33 l0 a1).f0)] rfl aL ?_; (with_reducible refine (spec_ArityOf.calls k2 ((rd_T33 l0 a1).f0) t176 _ A9.out).mono ?_); rintro e w' ⟨rfl, ⟨nd, rfl⟩⟩; refine ⟨_, rfl, ?_⟩) | ((with_reducible refine gate_callee (f := 72) rfl ?_); refine goesL_ (some 38) rfl rfl Try.func72 (by kernel_rfl) rfl #[.slice (some ad175) l0.length c0, .int .i64 x8_2, .int .i64 (wrap64 (a2 - 1))] rfl aL ?_; (with_reducible refine (ih k2 (by have := HJ3.out; have := HK2.out; omega) _ _ l0 x8_2 (wrap64 (a2 - 1)) t177 t178 _ ?side1 ?side2 A11.out).mono ?_); (case side1 => exact cA); (case side2 => exact HC0.out); rintro e w' ⟨rfl, ⟨nd, rfl⟩⟩; refine ⟨_, rfl, ?_⟩))
          go_ret2
          exact ⟨rF, by repeat (first | exact Drawn0.refl _ | apply Drawn0.step)⟩
         ·rw [if_neg c12] at H
          have c12b0 : decide (t177 < 0) = false := decide_eq_false c12
          clear c12
          by_cases c13 : t178 > x9_2
          ·rw [if_pos c13] at H
           have c13b0 : decide (x9_2 < t178) = true := decide_eq_true c13
           clear c13
           have H' := Aside0.mk H
           clear H
           have p175 : 0 ≤ (a1 : Int) := of_decide_eq_true (by assumption)
           have q175 : a1 < (l0.length : Int) := of_decide_eq_true (by assumption)
           obtain ⟨ad175, A175_6, c175_6, e175, hx175_0, hx175_1, hx175_2, hx175_3, hx175_4, hx175_5, hx175_6, hl175_6, hi175_6⟩ := at_T33 HR0.out a1 p175 q175
           cases e175
           have HR175_6 := Aside0.mk hi175_6
           have HC175_6 := Aside0.mk hl175_6
           clear hi175_6 hl175_6
           replace p175 := eq_true p175
           replace q175 := eq_true q175
           go_wp2_with (first | ((with_reducible refine gate_callee (f := 110) rfl ?_); refine goesL_ (some 29) rfl rfl Try.func110 (by kernel_rfl) rfl #[.int .i64 ((rd_T33 l0 a1).f0)] rfl aL ?_; (with_reducible refine (spec_ArityOf.calls k2 ((rd_T33 l0 a1).f0) t176 _ A9.out).mono ?_); rintro e w' ⟨rfl, ⟨nd, rfl⟩⟩; refine ⟨_, rfl, ?_⟩) | ((with_reducible refine gate_callee (f := 72) rfl ?_); refine goesL_ (some 38) rfl rfl Try.func72 (by kernel_rfl) rfl #[.slice (some ad175) l0.length c0, .int .i64 x8_2, .int .i64 (wrap64 (a2 - 1))] rfl aL ?_; (with_reducible refine (ih k2 (by have := HJ3.out; have := HK2.out; omega) _ _ l0 x8_2 (wrap64 (a2 - 1)) t177 t178 _ ?side1 ?side2 A11.out).mono ?_); (case side1 => exact cA); (case side2 => exact HC0.out); rintro e w' ⟨rfl, ⟨nd, rfl⟩⟩; refine ⟨_, rfl, ?_⟩))
           go_roundg k2
           case measure => have := HJ3.out; have := HK2.out; omega
           case rel => exact ⟨(t177), (t178), (wrap64 (x10_2 + 1)), rF, rF, rF, H', ⟨by have := HJ3.out; have := HK2.out; omega⟩, by repeat (first | exact Drawn0.refl _ | apply Drawn0.step)⟩
          ·rw [if_neg c13] at H
           have c13b0 : decide (x9_2 < t178) = false := decide_eq_false c13
           clear c13
           have H' := Aside0.mk H
           clear H
           have p175 : 0 ≤ (a1 : Int) := of_decide_eq_true (by assumption)
           have q175 : a1 < (l0.length : Int) := of_decide_eq_true (by assumption)
           obtain ⟨ad175, A175_6, c175_6, e175, hx175_0, hx175_1, hx175_2, hx175_3, hx175_4, hx175_5, hx175_6, hl175_6, hi175_6⟩ := at_T33 HR0.out a1 p175 q175
           cases e175
           have HR175_6 := Aside0.mk hi175_6
           have HC175_6 := Aside0.mk hl175_6
           clear hi175_6 hl175_6
           replace p175 := eq_true p175
           replace q175 := eq_true q175
           go_wp2_with (first | ((with_reducible refine gate_callee (f := 110) rfl ?_); refine goesL_ (some 29) rfl rfl Try.func110 (by kernel_rfl) rfl #[.int .i64 ((rd_T33 l0 a1).f0)] rfl aL ?_; (with_reducible refine (spec_ArityOf.calls k2 ((rd_T33 l0 a1).f0) t176 _ A9.out).mono ?_); rintro e w' ⟨rfl, ⟨nd, rfl⟩⟩; refine ⟨_, rfl, ?_⟩) | ((with_reducible refine gate_callee (f := 72) rfl ?_); refine goesL_ (some 38) rfl rfl Try.func72 (by kernel_rfl) rfl #[.slice (some ad175) l0.length c0, .int .i64 x8_2, .int .i64 (wrap64 (a2 - 1))] rfl aL ?_; (with_reducible refine (ih k2 (by have := HJ3.out; have := HK2.out; omega) _ _ l0 x8_2 (wrap64 (a2 - 1)) t177 t178 _ ?side1 ?side2 A11.out).mono ?_); (case side1 => exact cA); (case side2 => exact HC0.out); rintro e w' ⟨rfl, ⟨nd, rfl⟩⟩; refine ⟨_, rfl, ?_⟩))
           go_roundg k2
           case measure => have := HJ3.out; have := HK2.out; omega
           case rel => exact ⟨(t177), (x9_2), (wrap64 (x10_2 + 1)), rF, rF, rF, H', ⟨by have := HJ3.out; have := HK2.out; omega⟩, by repeat (first | exact Drawn0.refl _ | apply Drawn0.step)⟩
        ·rw [if_neg c10] at H
         have c10b0 : decide (x10_2 < t176) = false := decide_eq_false c10
         clear c10
         simp only [Option.some.injEq, Prod.mk.injEq] at H
         obtain ⟨rfl, rfl⟩ := H
         have p175 : 0 ≤ (a1 : Int) := of_decide_eq_true (by assumption)
         have q175 : a1 < (l0.length : Int) := of_decide_eq_true (by assumption)
         obtain ⟨ad175, A175_6, c175_6, e175, hx175_0, hx175_1, hx175_2, hx175_3, hx175_4, hx175_5, hx175_6, hl175_6, hi175_6⟩ := at_T33 HR0.out a1 p175 q175
         cases e175
         have HR175_6 := Aside0.mk hi175_6
         have HC175_6 := Aside0.mk hl175_6
         clear hi175_6 hl175_6
         replace p175 := eq_true p175
         replace q175 := eq_true q175
         go_wp2_with (first | ((with_reducible refine gate_callee (f := 110) rfl ?_); refine goesL_ (some 29) rfl rfl Try.func110 (by kernel_rfl) rfl #[.int .i64 ((rd_T33 l0 a1).f0)] rfl aL ?_; (with_reducible refine (spec_ArityOf.calls k2 ((rd_T33 l0 a1).f0) t176 _ A9.out).mono ?_); rintro e w' ⟨rfl, ⟨nd, rfl⟩⟩; refine ⟨_, rfl, ?_⟩))
         go_ret2
         exact ⟨rF, by repeat (first | exact Drawn0.refl _ | apply Drawn0.step)⟩
       ·rw [if_neg c8] at H
        exact absurd H (by simp)
      ·rw [if_neg c7] at H
       exact absurd H (by simp)

/-! ### spec_PlanOk: function 25 -/
def spec_PlanOk.l0 : Nat → List (S33) → Int → Option (Bool)
 | 0, _, _ => none
 | k + 1, x0, x3 => if x3 < (x0.length : Int) then (if 0 ≤ x3 then ((spec_NodeOk.f k ((rd_T33 x0 x3).f0) ((rd_T33 x0 x3).f1) ((rd_T33 x0 x3).f2) ((rd_T33 x0 x3).f3) ((rd_T33 x0 x3).f4) ((rd_T33 x0 x3).f5) ((rd_T33 x0 x3).f6)).bind fun t181 => (if t181 = true then (spec_PlanOk.l0 k x0 (wrap64 (x3 + 1))) else (some false))) else (none)) else ((spec_l02End.f k x0 0 10).bind fun bt182 => (some (bt182.1 == (x0.length : Int))))
def spec_PlanOk.f (k : Nat) (l0 : List (S33)) : Option (Bool) := (spec_l01In.f (l0.length : Int) 1 40).bind fun t179 => (if t179 = true then (spec_PlanOk.l0 k l0 0) else (some false))
theorem spec_PlanOk.mono_l : ∀ k, (∀ y0 y1, LeO (spec_PlanOk.l0 k y0 y1) (spec_PlanOk.l0 (k + 1) y0 y1))
 | 0 => fun _ _ r h => by simp [spec_PlanOk.l0] at h
 | k + 1 => by
  have ih0 := spec_PlanOk.mono_l k
  ·intro y0 y1
   unfold spec_PlanOk.l0
   repeat' first
   | (with_reducible exact ih0 _ _)
   | (with_reducible exact spec_NodeOk.mono _ _ _ _ _ _ _ _)
   | (with_reducible exact spec_l02End.mono _ _ _ _)
   | (with_reducible exact LeO.refl _)
   | (with_reducible exact LeO.none _)
   | (with_reducible refine LeO.ite ?_ ?_)
   | (with_reducible refine LeO.bind ?_ (fun _ => ?_))
   | exact ih0 _ _
   | exact spec_NodeOk.mono _ _ _ _ _ _ _ _
   | exact spec_l02End.mono _ _ _ _
   | exact LeO.none _
   | refine LeO.ite ?_ ?_
   | refine LeO.bind ?_ (fun _ => ?_)
theorem spec_PlanOk.mono : ∀ a0 k, LeO (spec_PlanOk.f k a0) (spec_PlanOk.f (k + 1) a0) := by
 intro a0 k
 have ih0 := spec_PlanOk.mono_l k
 unfold spec_PlanOk.f
 repeat' first
   | (with_reducible exact ih0 _ _)
   | (with_reducible exact spec_NodeOk.mono _ _ _ _ _ _ _ _)
   | (with_reducible exact spec_l02End.mono _ _ _ _)
   | (with_reducible exact LeO.refl _)
   | (with_reducible exact LeO.none _)
   | (with_reducible refine LeO.ite ?_ ?_)
   | (with_reducible refine LeO.bind ?_ (fun _ => ?_))
   | exact ih0 _ _
   | exact spec_NodeOk.mono _ _ _ _ _ _ _ _
   | exact spec_l02End.mono _ _ _ _
   | exact LeO.none _
   | refine LeO.ite ?_ ?_
   | refine LeO.bind ?_ (fun _ => ?_)
set_option maxHeartbeats 8000000 in
set_option maxRecDepth 100000 in
theorem spec_PlanOk.calls (k : Nat) (A0 : Option Addr) (c0 : Nat) (l0 : List (S33)) (r : Bool) (w : World) (hr0 : Kd.C k33 w A0 l0.length l0) (hc0 : l0.length ≤ c0) (h : spec_PlanOk.f k l0 = some r) :
  Calls Try.prog 25 #[.slice A0 l0.length c0] w fun e w' => e = .returned (.bool r) ∧ Below w.heap.size w w' := by
 have hu33 := Try.underlying33
 have HR0 := Aside0.mk hr0
 have HC0 := Aside0.mk hc0
 clear hr0 hc0
 have HB := Aside0.mk (Below.refl w.heap.size w)
 have H : ((spec_l01In.f (l0.length : Int) 1 40).bind fun t179 => (if t179 = true then (spec_PlanOk.l0 k l0 0) else (some false))) = some r := h
 clear h
 replace H := Option.bind_eq_some_iff.mp H
 obtain ⟨t179, A20, H⟩ := H
 replace H : (if t179 = true then (spec_PlanOk.l0 k l0 0) else (some false)) = some r := H
 have A2 := Aside0.mk A20
 clear A20
 by_cases c3 : t179 = true
 ·subst c3
  have H1 : (spec_PlanOk.l0 k l0 0) = some r := by rw [if_pos rfl] at H; exact H
  clear H
  have H := H1
  clear H1
  have H' := Aside0.mk H
  clear H
  go_enter Try.func25, Try.ntmps25
  go_wp2_with (first | ((with_reducible refine gate_callee (f := 60) rfl ?_); refine goesL_ (some 8) rfl rfl Try.func60 (by kernel_rfl) rfl #[.int .i64 (l0.length : Int), .int .i64 1, .int .i64 40] rfl aL ?_; (with_reducible refine (spec_l01In.calls (l0.length : Int) 1 40 true _ A2.out).mono ?_); rintro e w' ⟨rfl, ⟨nd, rfl⟩⟩; refine ⟨_, rfl, ?_⟩))
  go_loopg [3] k (fun kq v3 w' => ∃ (x3_1 : Int), v3 = .int .i64 x3_1 ∧ Aside0 (spec_PlanOk.l0 kq l0 x3_1 = some r) ∧ Aside0 (kq ≤ k) ∧ Aside0 (Below w.heap.size w w'))
  case atStart => exact ⟨(0), rF, H', ⟨Nat.le_refl _⟩, ⟨bA⟩⟩
  case round =>
   clear H'
   try clear c2
   try clear p2
   try clear c3
   obtain ⟨x3_1, rfl, HA, HK1, HB⟩ := hrel
   cases gk with
   | zero => exact absurd HA.out (by simp [spec_PlanOk.l0])
   | succ k1 =>
    have H := HA.out
    clear HA
    simp only [spec_PlanOk.l0] at H
    by_cases c4 : x3_1 < (l0.length : Int)
    ·rw [if_pos c4] at H
     have c4b0 : decide (x3_1 < (l0.length : Int)) = true := decide_eq_true c4
     clear c4
     by_cases c5 : 0 ≤ x3_1
     ·rw [if_pos c5] at H
      have c5b0 : decide (0 ≤ x3_1) = true := decide_eq_true c5
      clear c5
      replace H := Option.bind_eq_some_iff.mp H
      obtain ⟨t181, A60, H⟩ := H
      replace H : (if t181 = true then (spec_PlanOk.l0 k1 l0 (wrap64 (x3_1 + 1))) else (some false)) = some r := H
      have A6 := Aside0.mk A60
      clear A60
      by_cases c7 : t181 = true
      ·subst c7
       have H1 : (spec_PlanOk.l0 k1 l0 (wrap64 (x3_1 + 1))) = some r := by rw [if_pos rfl] at H; exact H
       clear H
       have H := H1
       clear H1
       have H' := Aside0.mk H
       clear H
       have p180 : 0 ≤ (x3_1 : Int) := of_decide_eq_true (by assumption)
       have q180 : x3_1 < (l0.length : Int) := of_decide_eq_true (by assumption)
       obtain ⟨ad180, A180_6, c180_6, e180, hx180_0, hx180_1, hx180_2, hx180_3, hx180_4, hx180_5, hx180_6, hl180_6, hi180_6⟩ := at_T33 HR0.out x3_1 p180 q180
       cases e180
       replace hx180_0 := hxB HB.out hx180_0
       replace hx180_1 := hxB HB.out hx180_1
       replace hx180_2 := hxB HB.out hx180_2
       replace hx180_3 := hxB HB.out hx180_3
       replace hx180_4 := hxB HB.out hx180_4
       replace hx180_5 := hxB HB.out hx180_5
       replace hx180_6 := hxB HB.out hx180_6
       have HR180_6 := Aside0.mk hi180_6
       have HC180_6 := Aside0.mk hl180_6
       clear hi180_6 hl180_6
       replace p180 := eq_true p180
       replace q180 := eq_true q180
       go_wp2_with (first | ((with_reducible refine gate_callee (f := 21) rfl ?_); refine goesL_ (some 20) rfl rfl Try.func21 (by kernel_rfl) rfl #[.agg #[.int .i64 ((rd_T33 l0 x3_1).f0), .string ((rd_T33 l0 x3_1).f1), .int .i64 ((rd_T33 l0 x3_1).f2), .int .i64 ((rd_T33 l0 x3_1).f3), .int .i64 ((rd_T33 l0 x3_1).f4), .bool ((rd_T33 l0 x3_1).f5), .slice A180_6 ((rd_T33 l0 x3_1).f6).length c180_6]] rfl aL ?_; (with_reducible refine (spec_NodeOk.calls k1 ((rd_T33 l0 x3_1).f0) ((rd_T33 l0 x3_1).f1) ((rd_T33 l0 x3_1).f2) ((rd_T33 l0 x3_1).f3) ((rd_T33 l0 x3_1).f4) ((rd_T33 l0 x3_1).f5) _ _ ((rd_T33 l0 x3_1).f6) true _ ?side1 ?side2 A6.out).mono ?_); (case side1 => exact cA); (case side2 => exact HC180_6.out); rintro e w8 ⟨rfl, hb⟩; refine ⟨_, rfl, ?_⟩; have n0_ := Aside0.mk (below_step bA hb); clear HB; have HB := n0_; clear n0_; (try clear hb); (try clear hb2); (try clear hk); (try clear hi)))
       go_roundg k1
       case measure => have := HK1.out; omega
       case rel => exact ⟨(wrap64 (x3_1 + 1)), rF, H', ⟨by have := HK1.out; omega⟩, ⟨bA⟩⟩
      ·replace c7 := Bool.eq_false_iff.mpr c7
       subst c7
       have H1 : (some false) = some r := by rw [if_neg (show ¬ (false = true) by decide)] at H; exact H
       clear H
       have H := H1
       clear H1
       obtain rfl := Option.some.inj H
       have p180 : 0 ≤ (x3_1 : Int) := of_decide_eq_true (by assumption)
       have q180 : x3_1 < (l0.length : Int) := of_decide_eq_true (by assumption)
       obtain ⟨ad180, A180_6, c180_6, e180, hx180_0, hx180_1, hx180_2, hx180_3, hx180_4, hx180_5, hx180_6, hl180_6, hi180_6⟩ := at_T33 HR0.out x3_1 p180 q180
       cases e180
       replace hx180_0 := hxB HB.out hx180_0
       replace hx180_1 := hxB HB.out hx180_1
       replace hx180_2 := hxB HB.out hx180_2
       replace hx180_3 := hxB HB.out hx180_3
       replace hx180_4 := hxB HB.out hx180_4
       replace hx180_5 := hxB HB.out hx180_5
       replace hx180_6 := hxB HB.out hx180_6
       have HR180_6 := Aside0.mk hi180_6
       have HC180_6 := Aside0.mk hl180_6
       clear hi180_6 hl180_6
       replace p180 := eq_true p180
       replace q180 := eq_true q180
       go_wp2_with (first | ((with_reducible refine gate_callee (f := 21) rfl ?_); refine goesL_ (some 20) rfl rfl Try.func21 (by kernel_rfl) rfl #[.agg #[.int .i64 ((rd_T33 l0 x3_1).f0), .string ((rd_T33 l0 x3_1).f1), .int .i64 ((rd_T33 l0 x3_1).f2), .int .i64 ((rd_T33 l0 x3_1).f3), .int .i64 ((rd_T33 l0 x3_1).f4), .bool ((rd_T33 l0 x3_1).f5), .slice A180_6 ((rd_T33 l0 x3_1).f6).length c180_6]] rfl aL ?_; (with_reducible refine (spec_NodeOk.calls k1 ((rd_T33 l0 x3_1).f0) ((rd_T33 l0 x3_1).f1) ((rd_T33 l0 x3_1).f2) ((rd_T33 l0 x3_1).f3) ((rd_T33 l0 x3_1).f4) ((rd_T33 l0 x3_1).f5) _ _ ((rd_T33 l0 x3_1).f6) false _ ?side1 ?side2 A6.out).mono ?_); (case side1 => exact cA); (case side2 => exact HC180_6.out); rintro e w9 ⟨rfl, hb⟩; refine ⟨_, rfl, ?_⟩; have n0_ := Aside0.mk (below_step bA hb); clear HB; have HB := n0_; clear n0_; (try clear hb); (try clear hb2); (try clear hk); (try clear hi)))
       go_ret
       exact ⟨rE, bA⟩
     ·rw [if_neg c5] at H
      exact absurd H (by simp)
    ·rw [if_neg c4] at H
     have c4b0 : decide (x3_1 < (l0.length : Int)) = false := decide_eq_false c4
     clear c4
     replace H := Option.bind_eq_some_iff.mp H
     obtain ⟨⟨t182, t183⟩, A100, H⟩ := H
     replace H : (some (t182 == (l0.length : Int))) = some r := H
     have A10 := Aside0.mk A100
     clear A100
     obtain rfl := Option.some.inj H
     go_wp2_with (first | ((with_reducible refine gate_callee (f := 72) rfl ?_); refine goesL_ (some 24) rfl rfl Try.func72 (by kernel_rfl) rfl #[.slice A0 l0.length c0, .int .i64 0, .int .i64 10] rfl aL ?_; (with_reducible refine (spec_l02End.calls k1 _ _ l0 0 10 t182 t183 _ ?side1 ?side2 A10.out).mono ?_); (case side1 => exact cA); (case side2 => exact HC0.out); rintro e w' ⟨rfl, ⟨nd, rfl⟩⟩; refine ⟨_, rfl, ?_⟩))
     go_ret
     exact ⟨rE, bA⟩
 ·replace c3 := Bool.eq_false_iff.mpr c3
  subst c3
  have H1 : (some false) = some r := by rw [if_neg (show ¬ (false = true) by decide)] at H; exact H
  clear H
  have H := H1
  clear H1
  obtain rfl := Option.some.inj H
  go_enter Try.func25, Try.ntmps25
  go_wp2_with (first | ((with_reducible refine gate_callee (f := 60) rfl ?_); refine goesL_ (some 8) rfl rfl Try.func60 (by kernel_rfl) rfl #[.int .i64 (l0.length : Int), .int .i64 1, .int .i64 40] rfl aL ?_; (with_reducible refine (spec_l01In.calls (l0.length : Int) 1 40 false _ A2.out).mono ?_); rintro e w' ⟨rfl, ⟨nd, rfl⟩⟩; refine ⟨_, rfl, ?_⟩))
  go_ret
  exact ⟨rE, bA⟩

/-! ### spec_l02Good: function 76 -/
def spec_l02Good.f (k : Nat) (l0 : List (S33)) (a1 : Int) : Option (Bool) := (spec_PlanOk.f k l0).bind fun t184 => (if t184 = true then ((spec_l01In.f a1 0 (wrap64 ((l0.length : Int) - 1))).bind fun t185 => (some t185)) else (some false))
theorem spec_l02Good.mono : ∀ a0 a1 k, LeO (spec_l02Good.f k a0 a1) (spec_l02Good.f (k + 1) a0 a1) := by
 intro a0 a1 k
 unfold spec_l02Good.f
 repeat' first
   | (with_reducible exact spec_PlanOk.mono _ _)
   | (with_reducible exact LeO.refl _)
   | (with_reducible exact LeO.none _)
   | (with_reducible refine LeO.ite ?_ ?_)
   | (with_reducible refine LeO.bind ?_ (fun _ => ?_))
   | exact spec_PlanOk.mono _ _
   | exact LeO.none _
   | refine LeO.ite ?_ ?_
   | refine LeO.bind ?_ (fun _ => ?_)
set_option maxHeartbeats 8000000 in
set_option maxRecDepth 100000 in
theorem spec_l02Good.calls (k : Nat) (A0 : Option Addr) (c0 : Nat) (l0 : List (S33)) (a1 : Int) (r : Bool) (w : World) (hr0 : Kd.C k33 w A0 l0.length l0) (hc0 : l0.length ≤ c0) (h : spec_l02Good.f k l0 a1 = some r) :
  Calls Try.prog 76 #[.slice A0 l0.length c0, .int .i64 a1] w fun e w' => e = .returned (.bool r) ∧ Below w.heap.size w w' := by
 have HR0 := Aside0.mk hr0
 have HC0 := Aside0.mk hc0
 clear hr0 hc0
 have HB := Aside0.mk (Below.refl w.heap.size w)
 have H : ((spec_PlanOk.f k l0).bind fun t184 => (if t184 = true then ((spec_l01In.f a1 0 (wrap64 ((l0.length : Int) - 1))).bind fun t185 => (some t185)) else (some false))) = some r := h
 clear h
 replace H := Option.bind_eq_some_iff.mp H
 obtain ⟨t184, A30, H⟩ := H
 replace H : (if t184 = true then ((spec_l01In.f a1 0 (wrap64 ((l0.length : Int) - 1))).bind fun t185 => (some t185)) else (some false)) = some r := H
 have A3 := Aside0.mk A30
 clear A30
 by_cases c4 : t184 = true
 ·subst c4
  have H1 : ((spec_l01In.f a1 0 (wrap64 ((l0.length : Int) - 1))).bind fun t185 => (some t185)) = some r := by rw [if_pos rfl] at H; exact H
  clear H
  have H := H1
  clear H1
  replace H := Option.bind_eq_some_iff.mp H
  obtain ⟨t185, A50, H⟩ := H
  replace H : (some t185) = some r := H
  have A5 := Aside0.mk A50
  clear A50
  obtain rfl := Option.some.inj H
  go_enter Try.func76, Try.ntmps76
  go_wp2_with (first | ((with_reducible refine gate_callee (f := 25) rfl ?_); refine goesL_ (some 6) rfl rfl Try.func25 (by kernel_rfl) rfl #[.slice A0 l0.length c0] rfl aL ?_; (with_reducible refine (spec_PlanOk.calls k _ _ l0 true _ ?side1 ?side2 A3.out).mono ?_); (case side1 => exact cA); (case side2 => exact HC0.out); rintro e w6 ⟨rfl, hb⟩; refine ⟨_, rfl, ?_⟩; have n0_ := Aside0.mk (below_step bA hb); clear HB; have HB := n0_; clear n0_; (try clear hb); (try clear hb2); (try clear hk); (try clear hi)) | (go_at_call 60; (with_reducible refine (spec_l01In.calls a1 0 (wrap64 ((l0.length : Int) - 1)) t185 _ A5.out).mono ?_); rintro e w' ⟨rfl, ⟨nd, rfl⟩⟩))
  go_ret
  exact ⟨rE, bA⟩
 ·replace c4 := Bool.eq_false_iff.mpr c4
  subst c4
  have H1 : (some false) = some r := by rw [if_neg (show ¬ (false = true) by decide)] at H; exact H
  clear H
  have H := H1
  clear H1
  obtain rfl := Option.some.inj H
  go_enter Try.func76, Try.ntmps76
  go_wp2_with (first | ((with_reducible refine gate_callee (f := 25) rfl ?_); refine goesL_ (some 6) rfl rfl Try.func25 (by kernel_rfl) rfl #[.slice A0 l0.length c0] rfl aL ?_; (with_reducible refine (spec_PlanOk.calls k _ _ l0 false _ ?side1 ?side2 A3.out).mono ?_); (case side1 => exact cA); (case side2 => exact HC0.out); rintro e w7 ⟨rfl, hb⟩; refine ⟨_, rfl, ?_⟩; have n0_ := Aside0.mk (below_step bA hb); clear HB; have HB := n0_; clear n0_; (try clear hb); (try clear hb2); (try clear hk); (try clear hi)))
  go_ret
  exact ⟨rE, bA⟩

/-! ### spec_EndOf: function 27 -/
def spec_EndOf.f (k : Nat) (l0 : List (S33)) (a1 : Int) : Option (Int) := (spec_l02Good.f k l0 a1).bind fun t186 => (if t186 = true then ((spec_l02End.f k l0 a1 10).bind fun bt187 => (some bt187.1)) else (some (-1)))
theorem spec_EndOf.mono : ∀ a0 a1 k, LeO (spec_EndOf.f k a0 a1) (spec_EndOf.f (k + 1) a0 a1) := by
 intro a0 a1 k
 unfold spec_EndOf.f
 repeat' first
   | (with_reducible exact spec_l02End.mono _ _ _ _)
   | (with_reducible exact spec_l02Good.mono _ _ _)
   | (with_reducible exact LeO.refl _)
   | (with_reducible exact LeO.none _)
   | (with_reducible refine LeO.ite ?_ ?_)
   | (with_reducible refine LeO.bind ?_ (fun _ => ?_))
   | exact spec_l02End.mono _ _ _ _
   | exact spec_l02Good.mono _ _ _
   | exact LeO.none _
   | refine LeO.ite ?_ ?_
   | refine LeO.bind ?_ (fun _ => ?_)
set_option maxHeartbeats 8000000 in
set_option maxRecDepth 100000 in
theorem spec_EndOf.calls (k : Nat) (A0 : Option Addr) (c0 : Nat) (l0 : List (S33)) (a1 : Int) (r : Int) (w : World) (hr0 : Kd.C k33 w A0 l0.length l0) (hc0 : l0.length ≤ c0) (h : spec_EndOf.f k l0 a1 = some r) :
  Calls Try.prog 27 #[.slice A0 l0.length c0, .int .i64 a1] w fun e w' => e = .returned (.int .i64 r) ∧ Below w.heap.size w w' := by
 have HR0 := Aside0.mk hr0
 have HC0 := Aside0.mk hc0
 clear hr0 hc0
 have HB := Aside0.mk (Below.refl w.heap.size w)
 have H : ((spec_l02Good.f k l0 a1).bind fun t186 => (if t186 = true then ((spec_l02End.f k l0 a1 10).bind fun bt187 => (some bt187.1)) else (some (-1)))) = some r := h
 clear h
 replace H := Option.bind_eq_some_iff.mp H
 obtain ⟨t186, A30, H⟩ := H
 replace H : (if t186 = true then ((spec_l02End.f k l0 a1 10).bind fun bt187 => (some bt187.1)) else (some (-1))) = some r := H
 have A3 := Aside0.mk A30
 clear A30
 by_cases c4 : t186 = true
 ·subst c4
  have H1 : ((spec_l02End.f k l0 a1 10).bind fun bt187 => (some bt187.1)) = some r := by rw [if_pos rfl] at H; exact H
  clear H
  have H := H1
  clear H1
  replace H := Option.bind_eq_some_iff.mp H
  obtain ⟨⟨t187, t188⟩, A50, H⟩ := H
  replace H : (some t187) = some r := H
  have A5 := Aside0.mk A50
  clear A50
  obtain rfl := Option.some.inj H
  go_enter Try.func27, Try.ntmps27
  go_wp2_with (first | ((with_reducible refine gate_callee (f := 76) rfl ?_); refine goesL_ (some 9) rfl rfl Try.func76 (by kernel_rfl) rfl #[.slice A0 l0.length c0, .int .i64 a1] rfl aL ?_; (with_reducible refine (spec_l02Good.calls k _ _ l0 a1 true _ ?side1 ?side2 A3.out).mono ?_); (case side1 => exact cA); (case side2 => exact HC0.out); rintro e w6 ⟨rfl, hb⟩; refine ⟨_, rfl, ?_⟩; have n0_ := Aside0.mk (below_step bA hb); clear HB; have HB := n0_; clear n0_; (try clear hb); (try clear hb2); (try clear hk); (try clear hi)) | ((with_reducible refine gate_callee (f := 72) rfl ?_); refine goesL_ (some 14) rfl rfl Try.func72 (by kernel_rfl) rfl #[.slice A0 l0.length c0, .int .i64 a1, .int .i64 10] rfl aL ?_; (with_reducible refine (spec_l02End.calls k _ _ l0 a1 10 t187 t188 _ ?side1 ?side2 A5.out).mono ?_); (case side1 => exact cA); (case side2 => exact HC0.out); rintro e w' ⟨rfl, ⟨nd, rfl⟩⟩; refine ⟨_, rfl, ?_⟩))
  go_ret
  exact ⟨rE, bA⟩
 ·replace c4 := Bool.eq_false_iff.mpr c4
  subst c4
  have H1 : (some (-1)) = some r := by rw [if_neg (show ¬ (false = true) by decide)] at H; exact H
  clear H
  have H := H1
  clear H1
  obtain rfl := Option.some.inj H
  go_enter Try.func27, Try.ntmps27
  go_wp2_with (first | ((with_reducible refine gate_callee (f := 76) rfl ?_); refine goesL_ (some 9) rfl rfl Try.func76 (by kernel_rfl) rfl #[.slice A0 l0.length c0, .int .i64 a1] rfl aL ?_; (with_reducible refine (spec_l02Good.calls k _ _ l0 a1 false _ ?side1 ?side2 A3.out).mono ?_); (case side1 => exact cA); (case side2 => exact HC0.out); rintro e w7 ⟨rfl, hb⟩; refine ⟨_, rfl, ?_⟩; have n0_ := Aside0.mk (below_step bA hb); clear HB; have HB := n0_; clear n0_; (try clear hb); (try clear hb2); (try clear hk); (try clear hi)))
  go_ret
  exact ⟨rE, bA⟩

/-! ### spec_l01Copy: function 113 -/
def spec_l01Copy.l0 : Nat → List Int → List Int → Int → Option (List Int)
 | 0, _, _, _ => none
 | k + 1, x0, x3, x4 => if x4 < (x0.length : Int) then (if 0 ≤ x4 then (if x3.length < 17592186044416 then (spec_l01Copy.l0 k x0 (x3 ++ [rd x0 x4]) (wrap64 (x4 + 1))) else (none)) else (none)) else (some x3)
def spec_l01Copy.f (k : Nat) (l0 : List Int) : Option (List Int) := spec_l01Copy.l0 k l0 (([] : List Int)) 0
theorem spec_l01Copy.mono_l : ∀ k, (∀ y0 y1 y2, LeO (spec_l01Copy.l0 k y0 y1 y2) (spec_l01Copy.l0 (k + 1) y0 y1 y2))
 | 0 => fun _ _ _ r h => by simp [spec_l01Copy.l0] at h
 | k + 1 => by
  have ih0 := spec_l01Copy.mono_l k
  ·intro y0 y1 y2
   unfold spec_l01Copy.l0
   repeat' first
   | (with_reducible exact ih0 _ _ _)
   | (with_reducible exact LeO.refl _)
   | (with_reducible exact LeO.none _)
   | (with_reducible refine LeO.ite ?_ ?_)
   | (with_reducible refine LeO.bind ?_ (fun _ => ?_))
   | exact ih0 _ _ _
   | exact LeO.none _
   | refine LeO.ite ?_ ?_
   | refine LeO.bind ?_ (fun _ => ?_)
theorem spec_l01Copy.mono : ∀ a0 k, LeO (spec_l01Copy.f k a0) (spec_l01Copy.f (k + 1) a0) := by
 intro a0 k
 have ih0 := spec_l01Copy.mono_l k
 unfold spec_l01Copy.f
 repeat' first
   | (with_reducible exact ih0 _ _ _)
   | (with_reducible exact LeO.refl _)
   | (with_reducible exact LeO.none _)
   | (with_reducible refine LeO.ite ?_ ?_)
   | (with_reducible refine LeO.bind ?_ (fun _ => ?_))
   | exact ih0 _ _ _
   | exact LeO.none _
   | refine LeO.ite ?_ ?_
   | refine LeO.bind ?_ (fun _ => ?_)
set_option maxHeartbeats 8000000 in
set_option maxRecDepth 100000 in
theorem spec_l01Copy.calls (k : Nat) (A0 : Option Addr) (c0 : Nat) (l0 : List Int) (r : List Int) (w : World) (hr0 : Kd.C (Kd.int .i64) w A0 l0.length l0) (hc0 : l0.length ≤ c0) (h : spec_l01Copy.f k l0 = some r) :
  Calls Try.prog 113 #[.slice A0 l0.length c0] w fun e w' => ∃ v0_ : Value, e = .returned (v0_) ∧ Kd.R (Kd.int .i64) 3 w' w.heap.size (fun _ => True) v0_ r ∧ Below w.heap.size w w' := by
 have HR0 := Aside0.mk hr0
 have HC0 := Aside0.mk hc0
 clear hr0 hc0
 have HB := Aside0.mk (Below.refl w.heap.size w)
 have H : (spec_l01Copy.l0 k l0 (([] : List Int)) 0) = some r := h
 clear h
 obtain ⟨y189, hy189⟩ : ∃ y_ : List Int, y_ = (([] : List Int)) := ⟨_, rfl⟩
 replace H : (spec_l01Copy.l0 k l0 y189 0) = some r := by first | (rw [hy189]; with_reducible exact H) | (have H2_ := (Option.bind_some _ _).symm.trans H; rw [hy189]; with_reducible exact H2_) | (have H2_ := (Option.bind_some _ _).symm.trans H; with_reducible exact H2_) | with_reducible exact H | (rw [hy189]; exact H) | exact H
 have Ny189 := Aside0.mk hy189
 clear hy189
 have H' := Aside0.mk H
 clear H
 go_enter Try.func113, Try.ntmps113
 go_wp2_with (first | ((with_reducible refine gate_dst (N := 5) rfl ?_); refine Kd.R_lit (Kd.int .i64) _ 3 ?hg (N := 5) ?hd (xs := ([] : List Int)) (inner := []) (ok := fun _ => True) (okp := fun _ => True) ?hr ?hp (fun _ hk => hk) trivial (Below.refl _ _) (Nat.le_refl _) (by simp) ?_; (case hd => rfl); (case hg => rfl); (case hr => first | (go_simp; done) | (go_simp; rfl)); (case hp => exact (Reps.none _ _)); intro v190 w2 ho3 hb hg_ hnew_; clear hg_ hnew_; (first | rw [← Ny189.out] at ho3 | (simp only [Int.reduceToNat] at ho3; rw [← Ny189.out] at ho3)); have n0_ := Aside0.mk (Kd.R_lower ho3 (below_size bA)); have n1_ := Aside0.mk (below_step bA hb); clear HB; have HO191 := n0_; have HB := n1_; clear n0_ n1_; clear hb ho3))
 go_loopg [3, 4] k (fun kq v3 v4 w' => ∃ (x3_1 : List Int) (x4_1 : Int), v4 = .int .i64 x4_1 ∧ Aside0 (spec_l01Copy.l0 kq l0 x3_1 x4_1 = some r) ∧ Aside0 (kq ≤ k) ∧ Aside0 (Kd.R (Kd.int .i64) 3 w' w.heap.size (fun _ => True) v3 x3_1) ∧ Aside0 (Below w.heap.size w w'))
 case atStart => exact ⟨(y189), (0), rF, H', ⟨Nat.le_refl _⟩, ⟨by (with_reducible repeat (first | apply Kd.R_alloc | apply Kd.R_drewN | apply Kd.R_drew)); exact HO191.out⟩, ⟨bA⟩⟩
 case round =>
  clear H'
  try clear c1
  try clear p2
  obtain ⟨x3_1, x4_1, rfl, HA, HK1, HO_3, HB⟩ := hrel
  cases gk with
  | zero => exact absurd HA.out (by simp [spec_l01Copy.l0])
  | succ k1 =>
   have H := HA.out
   clear HA
   simp only [spec_l01Copy.l0] at H
   by_cases c4 : x4_1 < (l0.length : Int)
   ·rw [if_pos c4] at H
    have c4b0 : decide (x4_1 < (l0.length : Int)) = true := decide_eq_true c4
    clear c4
    by_cases c5 : 0 ≤ x4_1
    ·rw [if_pos c5] at H
     have c5b0 : decide (0 ≤ x4_1) = true := decide_eq_true c5
     clear c5
     by_cases c6 : x3_1.length < 17592186044416
     ·rw [if_pos c6] at H
      have LMc6 := Aside0.mk c6
      clear c6
      obtain ⟨y193, hy193⟩ : ∃ y_ : List Int, y_ = (x3_1 ++ [rd l0 x4_1]) := ⟨_, rfl⟩
      replace H : (spec_l01Copy.l0 k1 l0 y193 (wrap64 (x4_1 + 1))) = some r := by first | (rw [hy193]; with_reducible exact H) | (have H2_ := (Option.bind_some _ _).symm.trans H; rw [hy193]; with_reducible exact H2_) | (have H2_ := (Option.bind_some _ _).symm.trans H; with_reducible exact H2_) | with_reducible exact H | (rw [hy193]; exact H) | exact H
      have Ny193 := Aside0.mk hy193
      clear hy193
      have H' := Aside0.mk H
      clear H
      have p192 : 0 ≤ (x4_1 : Int) := of_decide_eq_true (by assumption)
      have q192 : x4_1 < (l0.length : Int) := of_decide_eq_true (by assumption)
      obtain ⟨ad192, e192, hx192_0⟩ := Kd.at_int HR0.out x4_1 p192 q192
      cases e192
      replace hx192_0 := hxB HB.out hx192_0
      replace p192 := eq_true p192
      replace q192 := eq_true q192
      go_wp2_with (first | ((with_reducible refine gate_builtin (b := .append) (xs := #[.tmp 12, .tmp 17]) rfl ?_); at_builtin; refine Kd.R_append (Kd.int .i64) (w0 := w) w.heap.size rfl (.tmp 12) (.tmp 17) 28 3 (.int .i64 0) 8 rfl Try.underlying28 info3 rfl (by decide) (by omega) u3 x3_1 (rd l0 x4_1) [.int .i64 (rd l0 x4_1)] (fun _ => True) (fun _ => False) rfl rfl ?aP (fun _ hk => hk.elim) ?aF ?aO ?aB ?aS ?aL ?_; (case aP => exact rfl); (case aB => exact bA); (case aF => exact (fun _ _ => trivial)); (case aO => exact (by (with_reducible repeat (first | apply Kd.R_alloc | apply Kd.R_drewN | apply Kd.R_drew)); exact HO_3.out)); (case aS => exact (below_size bA)); (case aL => have := LMc6.out; omega); intro v194 w7 ho hb hg hat; rw [← Ny193.out] at ho; have n0_ := Aside0.mk (hb); have n1_ := Aside0.mk (ho); clear HB; clear HO_3; have HB := n0_; have HO195 := n1_; clear n0_ n1_; clear ho hb hg hat))
      go_roundg k1
      case measure => have := HK1.out; omega
      case rel => exact ⟨(y193), (wrap64 (x4_1 + 1)), rF, H', ⟨by have := HK1.out; omega⟩, ⟨by (with_reducible repeat (first | apply Kd.R_alloc | apply Kd.R_drewN | apply Kd.R_drew)); exact HO195.out⟩, ⟨bA⟩⟩
     ·rw [if_neg c6] at H
      exact absurd H (by simp)
    ·rw [if_neg c5] at H
     exact absurd H (by simp)
   ·rw [if_neg c4] at H
    have c4b0 : decide (x4_1 < (l0.length : Int)) = false := decide_eq_false c4
    clear c4
    obtain rfl := Option.some.inj H
    go_wp2
    go_ret
    exact ⟨_, rE, by (with_reducible repeat (first | apply Kd.R_alloc | apply Kd.R_drewN | apply Kd.R_drew)); exact HO_3.out, bA⟩

/-! ### spec_l02Copy: function 82 -/
def spec_l02Copy.l0 : Nat → List (S33) → List (S33) → Int → Option ((List (S33)))
 | 0, _, _, _ => none
 | k + 1, x0, x3, x4 => if x4 < (x0.length : Int) then (if 0 ≤ x4 then (if (((rd_T33 x0 x4).f6).length : Int) > 0 then ((spec_l01Copy.f k ((rd_T33 x0 x4).f6)).bind fun t203 => (if x3.length < 1759218604441 then (spec_l02Copy.l0 k x0 (x3 ++ [(⟨(rd_T33 x0 x4).f0, (rd_T33 x0 x4).f1, (rd_T33 x0 x4).f2, (rd_T33 x0 x4).f3, (rd_T33 x0 x4).f4, (rd_T33 x0 x4).f5, t203⟩ : S33)]) (wrap64 (x4 + 1))) else (none))) else (if x3.length < 1759218604441 then (spec_l02Copy.l0 k x0 (x3 ++ [(⟨(rd_T33 x0 x4).f0, (rd_T33 x0 x4).f1, (rd_T33 x0 x4).f2, (rd_T33 x0 x4).f3, (rd_T33 x0 x4).f4, (rd_T33 x0 x4).f5, ([] : List Int)⟩ : S33)]) (wrap64 (x4 + 1))) else (none))) else (none)) else (some x3)
def spec_l02Copy.f (k : Nat) (l0 : List (S33)) : Option ((List (S33))) := spec_l02Copy.l0 k l0 (([] : List (S33))) 0
theorem spec_l02Copy.mono_l : ∀ k, (∀ y0 y1 y2, LeO (spec_l02Copy.l0 k y0 y1 y2) (spec_l02Copy.l0 (k + 1) y0 y1 y2))
 | 0 => fun _ _ _ r h => by simp [spec_l02Copy.l0] at h
 | k + 1 => by
  have ih0 := spec_l02Copy.mono_l k
  ·intro y0 y1 y2
   unfold spec_l02Copy.l0
   repeat' first
   | (with_reducible exact ih0 _ _ _)
   | (with_reducible exact spec_l01Copy.mono _ _)
   | (with_reducible exact LeO.refl _)
   | (with_reducible exact LeO.none _)
   | (with_reducible refine LeO.ite ?_ ?_)
   | (with_reducible refine LeO.bind ?_ (fun _ => ?_))
   | exact ih0 _ _ _
   | exact spec_l01Copy.mono _ _
   | exact LeO.none _
   | refine LeO.ite ?_ ?_
   | refine LeO.bind ?_ (fun _ => ?_)
theorem spec_l02Copy.mono : ∀ a0 k, LeO (spec_l02Copy.f k a0) (spec_l02Copy.f (k + 1) a0) := by
 intro a0 k
 have ih0 := spec_l02Copy.mono_l k
 unfold spec_l02Copy.f
 repeat' first
   | (with_reducible exact ih0 _ _ _)
   | (with_reducible exact spec_l01Copy.mono _ _)
   | (with_reducible exact LeO.refl _)
   | (with_reducible exact LeO.none _)
   | (with_reducible refine LeO.ite ?_ ?_)
   | (with_reducible refine LeO.bind ?_ (fun _ => ?_))
   | exact ih0 _ _ _
   | exact spec_l01Copy.mono _ _
   | exact LeO.none _
   | refine LeO.ite ?_ ?_
   | refine LeO.bind ?_ (fun _ => ?_)
set_option maxHeartbeats 8000000 in
set_option maxRecDepth 100000 in
theorem spec_l02Copy.calls (k : Nat) (A0 : Option Addr) (c0 : Nat) (l0 : List (S33)) (r : List (S33)) (w : World) (hr0 : Kd.C k33 w A0 l0.length l0) (hc0 : l0.length ≤ c0) (h : spec_l02Copy.f k l0 = some r) :
  Calls Try.prog 82 #[.slice A0 l0.length c0] w fun e w' => ∃ v0_ : Value, e = .returned (v0_) ∧ Kd.S k33 33 w' w.heap.size (fun _ => True) v0_ r ∧ Below w.heap.size w w' := by
 have hu33 := Try.underlying33
 have HR0 := Aside0.mk hr0
 have HC0 := Aside0.mk hc0
 clear hr0 hc0
 have HB := Aside0.mk (Below.refl w.heap.size w)
 have H : (spec_l02Copy.l0 k l0 (([] : List (S33))) 0) = some r := h
 clear h
 obtain ⟨y196, hy196⟩ : ∃ y_ : List (S33), y_ = (([] : List (S33))) := ⟨_, rfl⟩
 replace H : (spec_l02Copy.l0 k l0 y196 0) = some r := by first | (rw [hy196]; with_reducible exact H) | (have H2_ := (Option.bind_some _ _).symm.trans H; rw [hy196]; with_reducible exact H2_) | (have H2_ := (Option.bind_some _ _).symm.trans H; with_reducible exact H2_) | with_reducible exact H | (rw [hy196]; exact H) | exact H
 have Ny196 := Aside0.mk hy196
 clear hy196
 have H' := Aside0.mk H
 clear H
 go_enter Try.func82, Try.ntmps82
 go_wp2_with (first | ((with_reducible refine gate_dst (N := 6) rfl ?_); refine Kd.S_lit k33 _ 33 ?hg (N := 6) ?hd (xs := ([] : List (S33))) (inner := []) (ok := fun _ => True) (okp := fun _ => True) ?hr ?hp (fun _ hk => hk) trivial (Below.refl _ _) (Nat.le_refl _) (by simp) ?_; (case hd => rfl); (case hg => rfl); (case hr => first | (go_simp; done) | (go_simp; rfl)); (case hp => exact (Reps.none _ _)); intro v197 w2 ho3 hb hg_ hnew_; clear hg_ hnew_; (first | rw [← Ny196.out] at ho3 | (simp only [Int.reduceToNat] at ho3; rw [← Ny196.out] at ho3)); have n0_ := Aside0.mk (Kd.S_lower ho3 (below_size bA)); have n1_ := Aside0.mk (below_step bA hb); clear HB; have HO198 := n0_; have HB := n1_; clear n0_ n1_; clear hb ho3))
 go_loopg [3, 4] k (fun kq v3 v4 w' => ∃ (x3_1 : List (S33)) (x4_1 : Int), v4 = .int .i64 x4_1 ∧ Aside0 (spec_l02Copy.l0 kq l0 x3_1 x4_1 = some r) ∧ Aside0 (kq ≤ k) ∧ Aside0 (Kd.S k33 33 w' w.heap.size (fun _ => True) v3 x3_1) ∧ Aside0 (Below w.heap.size w w'))
 case atStart => exact ⟨(y196), (0), rF, H', ⟨Nat.le_refl _⟩, ⟨by (with_reducible repeat (first | apply Kd.S_alloc | apply Kd.S_drewN | apply Kd.S_drew)); exact HO198.out⟩, ⟨bA⟩⟩
 case round =>
  clear H'
  try clear p2
  obtain ⟨x3_1, x4_1, rfl, HA, HK1, HO_3, HB⟩ := hrel
  cases gk with
  | zero => exact absurd HA.out (by simp [spec_l02Copy.l0])
  | succ k1 =>
   have H := HA.out
   clear HA
   simp only [spec_l02Copy.l0] at H
   by_cases c4 : x4_1 < (l0.length : Int)
   ·rw [if_pos c4] at H
    have c4b0 : decide (x4_1 < (l0.length : Int)) = true := decide_eq_true c4
    clear c4
    by_cases c5 : 0 ≤ x4_1
    ·rw [if_pos c5] at H
     have c5b0 : decide (0 ≤ x4_1) = true := decide_eq_true c5
     clear c5
     by_cases c6 : (((rd_T33 l0 x4_1).f6).length : Int) > 0
     ·rw [if_pos c6] at H
      have c6b0 : decide (0 < (((rd_T33 l0 x4_1).f6).length : Int)) = true := decide_eq_true c6
      have c6b1 : decide (0 < ((rd_T33 l0 x4_1).f6).length) = true := decide_eq_true (by omega)
      clear c6
      replace H := Option.bind_eq_some_iff.mp H
      obtain ⟨t203, A70, H⟩ := H
      replace H : (if x3_1.length < 1759218604441 then (spec_l02Copy.l0 k1 l0 (x3_1 ++ [(⟨(rd_T33 l0 x4_1).f0, (rd_T33 l0 x4_1).f1, (rd_T33 l0 x4_1).f2, (rd_T33 l0 x4_1).f3, (rd_T33 l0 x4_1).f4, (rd_T33 l0 x4_1).f5, t203⟩ : S33)]) (wrap64 (x4_1 + 1))) else (none)) = some r := H
      have A7 := Aside0.mk A70
      clear A70
      by_cases c8 : x3_1.length < 1759218604441
      ·rw [if_pos c8] at H
       have LMc8 := Aside0.mk c8
       clear c8
       obtain ⟨y206, hy206⟩ : ∃ y_ : List (S33), y_ = (x3_1 ++ [(⟨(rd_T33 l0 x4_1).f0, (rd_T33 l0 x4_1).f1, (rd_T33 l0 x4_1).f2, (rd_T33 l0 x4_1).f3, (rd_T33 l0 x4_1).f4, (rd_T33 l0 x4_1).f5, t203⟩ : S33)]) := ⟨_, rfl⟩
       replace H : (spec_l02Copy.l0 k1 l0 y206 (wrap64 (x4_1 + 1))) = some r := by first | (rw [hy206]; with_reducible exact H) | (have H2_ := (Option.bind_some _ _).symm.trans H; rw [hy206]; with_reducible exact H2_) | (have H2_ := (Option.bind_some _ _).symm.trans H; with_reducible exact H2_) | with_reducible exact H | (rw [hy206]; exact H) | exact H
       have Ny206 := Aside0.mk hy206
       clear hy206
       have H' := Aside0.mk H
       clear H
       have p199 : 0 ≤ (x4_1 : Int) := of_decide_eq_true (by assumption)
       have q199 : x4_1 < (l0.length : Int) := of_decide_eq_true (by assumption)
       obtain ⟨ad199, A199_6, c199_6, e199, hx199_0, hx199_1, hx199_2, hx199_3, hx199_4, hx199_5, hx199_6, hl199_6, hi199_6⟩ := at_T33 HR0.out x4_1 p199 q199
       cases e199
       replace hx199_0 := hxB HB.out hx199_0
       replace hx199_1 := hxB HB.out hx199_1
       replace hx199_2 := hxB HB.out hx199_2
       replace hx199_3 := hxB HB.out hx199_3
       replace hx199_4 := hxB HB.out hx199_4
       replace hx199_5 := hxB HB.out hx199_5
       replace hx199_6 := hxB HB.out hx199_6
       have HR199_6 := Aside0.mk hi199_6
       have HC199_6 := Aside0.mk hl199_6
       clear hi199_6 hl199_6
       replace p199 := eq_true p199
       replace q199 := eq_true q199
       go_wp2_with (first | ((with_reducible refine gate_dst (N := 5) rfl ?_); refine box_event ?hg (N := 5) ?hd (cs := #[.int .i64 0, .string (⟨#[]⟩ : ByteArray), .int .i64 0, .int .i64 0, .int .i64 0, .bool false, .slice none 0 0]) (t := 33) ?hr ?_; (case hd => rfl); (case hg => rfl); (case hr => first | (go_simp; done) | (go_simp; rfl)); intro gb200 hg w9 hbox hb; have n0_ := Aside0.mk (Kd.S_below (Kd.S_elderB (by (with_reducible repeat (first | apply Kd.S_alloc | apply Kd.S_drewN | apply Kd.S_drew)); exact HO_3.out) gb200 (Nat.le_of_eq hg.symm)) hb); have n1_ := Aside0.mk (below_step bA hb); have n2_ := Aside0.mk (hbox); have n3_ := Aside0.mk ((by rw [hg]; exact (below_size bA) : w.heap.size ≤ gb200)); have n4_ := Aside0.mk ((by rw [hg]; exact (below_size bA) : w.heap.size ≤ gb200)); clear HO_3; clear HB; have HO_3 := n0_; have HB := n1_; have BK200 := n2_; have GW200 := n3_; have GE200 := n4_; clear n0_ n1_ n2_ n3_ n4_; clear hb hbox hg; obtain ⟨⟨hcz10_0, hcz10_1, hcz10_2, hcz10_3, hcz10_4, hcz10_5, hcz10_6⟩, hfz10_0, hfz10_1, hfz10_2, hfz10_3, hfz10_4, hfz10_5, hfz10_6⟩ := Own.c7 BK200.out) | ((with_reducible refine gate_store (t := 33) (p := 5) rfl ?_); refine store_event (t := 33) (p := 5) (v := ?vo_w11) (w1 := (((((((w9.setCell ⟨gb200, 0, none⟩ (.int .i64 ((rd_T33 l0 x4_1).f0))).setCell ⟨gb200, 1, none⟩ (.string ((rd_T33 l0 x4_1).f1))).setCell ⟨gb200, 2, none⟩ (.int .i64 ((rd_T33 l0 x4_1).f2))).setCell ⟨gb200, 3, none⟩ (.int .i64 ((rd_T33 l0 x4_1).f3))).setCell ⟨gb200, 4, none⟩ (.int .i64 ((rd_T33 l0 x4_1).f4))).setCell ⟨gb200, 5, none⟩ (.bool ((rd_T33 l0 x4_1).f5))).setCell ⟨gb200, 6, none⟩ (.slice A199_6 ((rd_T33 l0 x4_1).f6).length c199_6))) ?hg ?ho ?hn ?hr ?_; (case ho => rfl); (case hg => rfl); (case hn => rfl); (case hr => first | (go_simp; done) | (go_simp; rfl)); intro w11 hw; have n0_ : Aside0 (Kd.S k33 33 w11 w.heap.size (fun k_ => k_ ≠ gb200) u3 x3_1) := ⟨(by rw [hw]; exact (by (with_reducible repeat (first | apply Kd.S_alloc | apply Kd.S_drewN | apply Kd.S_drew)); exact Kd.S_mono (Kd.S_far (p := ⟨gb200, 6, none⟩) (Kd.S_far (p := ⟨gb200, 5, none⟩) (Kd.S_far (p := ⟨gb200, 4, none⟩) (Kd.S_far (p := ⟨gb200, 3, none⟩) (Kd.S_far (p := ⟨gb200, 2, none⟩) (Kd.S_far (p := ⟨gb200, 1, none⟩) (Kd.S_far (p := ⟨gb200, 0, none⟩) (Kd.S_mono HO_3.out (fun k_ hk => (⟨hk, hk.2⟩ : _ ∧ k_ ≠ gb200))) (fun _ hk => hk.2) (.int .i64 ((rd_T33 l0 x4_1).f0))) (fun _ hk => hk.2) (.string ((rd_T33 l0 x4_1).f1))) (fun _ hk => hk.2) (.int .i64 ((rd_T33 l0 x4_1).f2))) (fun _ hk => hk.2) (.int .i64 ((rd_T33 l0 x4_1).f3))) (fun _ hk => hk.2) (.int .i64 ((rd_T33 l0 x4_1).f4))) (fun _ hk => hk.2) (.bool ((rd_T33 l0 x4_1).f5))) (fun _ hk => hk.2) (.slice A199_6 ((rd_T33 l0 x4_1).f6).length c199_6)) (fun _ hk => hk.1.2)))⟩; have n1_ : Aside0 (w11.heap[gb200]? = some (.cells #[.int .i64 ((rd_T33 l0 x4_1).f0), .string ((rd_T33 l0 x4_1).f1), .int .i64 ((rd_T33 l0 x4_1).f2), .int .i64 ((rd_T33 l0 x4_1).f3), .int .i64 ((rd_T33 l0 x4_1).f4), .bool ((rd_T33 l0 x4_1).f5), .slice A199_6 ((rd_T33 l0 x4_1).f6).length c199_6] 33 (0, 0))) := ⟨(by rw [hw]; exact (by exact put7 BK200.out))⟩; have n2_ : Aside0 (Below w.heap.size w w11) := ⟨(by rw [hw]; exact bA)⟩; clear hw; clear HO_3; clear BK200; clear HB; have HO_3 := n0_; have BK200 := n1_; have HB := n2_; clear n0_ n1_ n2_; obtain ⟨⟨hcz12_0, hcz12_1, hcz12_2, hcz12_3, hcz12_4, hcz12_5, hcz12_6⟩, hfz12_0, hfz12_1, hfz12_2, hfz12_3, hfz12_4, hfz12_5, hfz12_6⟩ := Own.c7 BK200.out; have p201 : 0 ≤ (x4_1 : Int) := of_decide_eq_true (by assumption); have q201 : x4_1 < (l0.length : Int) := of_decide_eq_true (by assumption); obtain ⟨ad201, A201_6, c201_6, e201, hx201_0, hx201_1, hx201_2, hx201_3, hx201_4, hx201_5, hx201_6, hl201_6, hi201_6⟩ := at_T33 HR0.out x4_1 p201 q201; obtain rfl : ad199 = ad201 := (by injection e201); have hn201_0 : ad199.block ≠ gb200 := Nat.ne_of_lt (Nat.lt_of_lt_of_le (by have := World.block_lt_of_cell? _ _ hx201_0; first | rwa [add_block] at this | exact this) GW200.out); replace hx201_0 := hxB HB.out hx201_0; replace hx201_1 := hxB HB.out hx201_1; replace hx201_2 := hxB HB.out hx201_2; replace hx201_3 := hxB HB.out hx201_3; replace hx201_4 := hxB HB.out hx201_4; replace hx201_5 := hxB HB.out hx201_5; replace hx201_6 := hxB HB.out hx201_6; have HR201_6 := Aside0.mk hi201_6; have HC201_6 := Aside0.mk hl201_6; clear hi201_6 hl201_6; replace hx201_0 := (cell_far (p := ⟨gb200, 6, none⟩) (by first | (rw [add_block]; exact hn201_0) | (show (Addr.add _ _).block ≠ _; rw [add_block]; exact hn201_0) | exact hn201_0) (.slice none 0 0)).trans hx201_0; replace hx201_1 := (cell_far (p := ⟨gb200, 6, none⟩) (by first | (rw [add_block]; exact hn201_0) | (show (Addr.add _ _).block ≠ _; rw [add_block]; exact hn201_0) | exact hn201_0) (.slice none 0 0)).trans hx201_1; replace hx201_2 := (cell_far (p := ⟨gb200, 6, none⟩) (by first | (rw [add_block]; exact hn201_0) | (show (Addr.add _ _).block ≠ _; rw [add_block]; exact hn201_0) | exact hn201_0) (.slice none 0 0)).trans hx201_2; replace hx201_3 := (cell_far (p := ⟨gb200, 6, none⟩) (by first | (rw [add_block]; exact hn201_0) | (show (Addr.add _ _).block ≠ _; rw [add_block]; exact hn201_0) | exact hn201_0) (.slice none 0 0)).trans hx201_3; replace hx201_4 := (cell_far (p := ⟨gb200, 6, none⟩) (by first | (rw [add_block]; exact hn201_0) | (show (Addr.add _ _).block ≠ _; rw [add_block]; exact hn201_0) | exact hn201_0) (.slice none 0 0)).trans hx201_4; replace hx201_5 := (cell_far (p := ⟨gb200, 6, none⟩) (by first | (rw [add_block]; exact hn201_0) | (show (Addr.add _ _).block ≠ _; rw [add_block]; exact hn201_0) | exact hn201_0) (.slice none 0 0)).trans hx201_5; replace hx201_6 := (cell_far (p := ⟨gb200, 6, none⟩) (by first | (rw [add_block]; exact hn201_0) | (show (Addr.add _ _).block ≠ _; rw [add_block]; exact hn201_0) | exact hn201_0) (.slice none 0 0)).trans hx201_6; clear hn201_0; replace p201 := eq_true p201; replace q201 := eq_true q201; have p202 : 0 ≤ (x4_1 : Int) := of_decide_eq_true (by assumption); have q202 : x4_1 < (l0.length : Int) := of_decide_eq_true (by assumption); obtain ⟨ad202, A202_6, c202_6, e202, hx202_0, hx202_1, hx202_2, hx202_3, hx202_4, hx202_5, hx202_6, hl202_6, hi202_6⟩ := at_T33 HR0.out x4_1 p202 q202; obtain rfl : ad199 = ad202 := (by injection e202); have hn202_0 : ad199.block ≠ gb200 := Nat.ne_of_lt (Nat.lt_of_lt_of_le (by have := World.block_lt_of_cell? _ _ hx202_0; first | rwa [add_block] at this | exact this) GW200.out); replace hx202_0 := hxB HB.out hx202_0; replace hx202_1 := hxB HB.out hx202_1; replace hx202_2 := hxB HB.out hx202_2; replace hx202_3 := hxB HB.out hx202_3; replace hx202_4 := hxB HB.out hx202_4; replace hx202_5 := hxB HB.out hx202_5; replace hx202_6 := hxB HB.out hx202_6; have HR202_6 := Aside0.mk hi202_6; have HC202_6 := Aside0.mk hl202_6; clear hi202_6 hl202_6; replace hx202_0 := (cell_far (p := ⟨gb200, 6, none⟩) (by first | (rw [add_block]; exact hn202_0) | (show (Addr.add _ _).block ≠ _; rw [add_block]; exact hn202_0) | exact hn202_0) (.slice none 0 0)).trans hx202_0; replace hx202_1 := (cell_far (p := ⟨gb200, 6, none⟩) (by first | (rw [add_block]; exact hn202_0) | (show (Addr.add _ _).block ≠ _; rw [add_block]; exact hn202_0) | exact hn202_0) (.slice none 0 0)).trans hx202_1; replace hx202_2 := (cell_far (p := ⟨gb200, 6, none⟩) (by first | (rw [add_block]; exact hn202_0) | (show (Addr.add _ _).block ≠ _; rw [add_block]; exact hn202_0) | exact hn202_0) (.slice none 0 0)).trans hx202_2; replace hx202_3 := (cell_far (p := ⟨gb200, 6, none⟩) (by first | (rw [add_block]; exact hn202_0) | (show (Addr.add _ _).block ≠ _; rw [add_block]; exact hn202_0) | exact hn202_0) (.slice none 0 0)).trans hx202_3; replace hx202_4 := (cell_far (p := ⟨gb200, 6, none⟩) (by first | (rw [add_block]; exact hn202_0) | (show (Addr.add _ _).block ≠ _; rw [add_block]; exact hn202_0) | exact hn202_0) (.slice none 0 0)).trans hx202_4; replace hx202_5 := (cell_far (p := ⟨gb200, 6, none⟩) (by first | (rw [add_block]; exact hn202_0) | (show (Addr.add _ _).block ≠ _; rw [add_block]; exact hn202_0) | exact hn202_0) (.slice none 0 0)).trans hx202_5; replace hx202_6 := (cell_far (p := ⟨gb200, 6, none⟩) (by first | (rw [add_block]; exact hn202_0) | (show (Addr.add _ _).block ≠ _; rw [add_block]; exact hn202_0) | exact hn202_0) (.slice none 0 0)).trans hx202_6; (try (have ea_ := Option.some.inj (hx201_6.symm.trans hx202_6); injection ea_ with ea_ en_ ec_; rw [ea_, ec_] at hx201_6)); clear hn202_0; replace p202 := eq_true p202; replace q202 := eq_true q202) | ((with_reducible refine gate_callee (f := 113) rfl ?_); refine goesL_ (some 30) rfl rfl Try.func113 (by kernel_rfl) rfl #[.slice A202_6 ((rd_T33 l0 x4_1).f6).length c202_6] rfl aL ?_; (with_reducible refine (spec_l01Copy.calls k1 _ _ ((rd_T33 l0 x4_1).f6) t203 _ ?side1 ?side2 A7.out).mono ?_); (case side1 => exact Kd.C_below HR202_6.out bA); (case side2 => exact HC202_6.out); rintro e w13 ⟨v204, rfl, ho0, hb⟩; refine ⟨_, rfl, ?_⟩; have n0_ := Aside0.mk (Kd.S_elder' (by (with_reducible repeat (first | apply Kd.S_alloc | apply Kd.S_drewN | apply Kd.S_drew)); exact (Kd.S_mono (Kd.S_far (p := ⟨gb200, 6, none⟩) (Kd.S_mono HO_3.out (fun k_ hk => (⟨hk, hk⟩ : _ ∧ k_ ≠ gb200))) (fun _ hk => hk.2) (.slice none 0 0)) (fun _ h_ => h_.1))) (Kd.R_base ho0) hb); have n1_ := Aside0.mk (Kd.R_lower ho0 (below_size bA)); have n2_ := Aside0.mk (blk_below (g := gb200) (o := .cells #[.int .i64 ((rd_T33 l0 x4_1).f0), .string ((rd_T33 l0 x4_1).f1), .int .i64 ((rd_T33 l0 x4_1).f2), .int .i64 ((rd_T33 l0 x4_1).f3), .int .i64 ((rd_T33 l0 x4_1).f4), .bool ((rd_T33 l0 x4_1).f5), .slice none 0 0] 33 (0, 0)) (by (with_reducible repeat (first | refine blk_drewN ?_ _ | refine blk_drew ?_ | refine blk_alloc ?_ _)); refine blk_put (cs := #[.int .i64 ((rd_T33 l0 x4_1).f0), .string ((rd_T33 l0 x4_1).f1), .int .i64 ((rd_T33 l0 x4_1).f2), .int .i64 ((rd_T33 l0 x4_1).f3), .int .i64 ((rd_T33 l0 x4_1).f4), .bool ((rd_T33 l0 x4_1).f5), .slice A199_6 ((rd_T33 l0 x4_1).f6).length c199_6]) ?_ 6 _ rfl; (with_reducible repeat (first | refine blk_drewN ?_ _ | refine blk_drew ?_ | refine blk_alloc ?_ _)); exact BK200.out) hb); have n3_ := Aside0.mk (below_step bA hb); clear HO_3; clear BK200; clear HB; have HO_3 := n0_; have HO205 := n1_; have BK200 := n2_; have HB := n3_; clear n0_ n1_ n2_ n3_; (try clear hb); (try clear hb2); (try clear hk); (try clear hi); (try clear ho0); obtain ⟨Ao14, co14, eo14⟩ := Kd.R_slice HO205.out; subst eo14; obtain ⟨⟨hcz15_0, hcz15_1, hcz15_2, hcz15_3, hcz15_4, hcz15_5, hcz15_6⟩, hfz15_0, hfz15_1, hfz15_2, hfz15_3, hfz15_4, hfz15_5, hfz15_6⟩ := Own.c7 BK200.out) | ((with_reducible refine gate_store (t := 28) (p := 31) rfl ?_); refine store_event (t := 28) (p := 31) (v := ?vo_w16) (w1 := (w13.setCell ⟨gb200, 6, none⟩ (.slice Ao14 t203.length co14))) ?hg ?ho ?hn ?hr ?_; (case ho => rfl); (case hg => rfl); (case hn => rfl); (case hr => first | (go_simp; done) | (go_simp; rfl)); intro w16 hw; have n0_ : Aside0 (Kd.S k33 33 w16 w.heap.size (fun k_ => some k_ ≠ (.slice Ao14 t203.length co14 : Value).ownBlock ∧ k_ ≠ gb200) u3 x3_1) := ⟨(by rw [hw]; exact (by (with_reducible repeat (first | apply Kd.S_alloc | apply Kd.S_drewN | apply Kd.S_drew)); exact Kd.S_mono (Kd.S_far (p := ⟨gb200, 6, none⟩) (Kd.S_mono HO_3.out (fun k_ hk => (⟨hk, hk.1⟩ : _ ∧ k_ ≠ gb200))) (fun _ hk => hk.2) (.slice Ao14 t203.length co14)) (fun _ hk => ⟨hk.1.2, hk.1.1⟩)))⟩; have n1_ : Aside0 (Kd.R (Kd.int .i64) 3 w16 w.heap.size (fun _ => True) (.slice Ao14 t203.length co14) t203) := ⟨(by rw [hw]; exact (by (with_reducible repeat (first | apply Kd.R_alloc | apply Kd.R_drewN | apply Kd.R_drew)); exact Kd.R_mono (Kd.R_far (p := ⟨gb200, 6, none⟩) (Kd.R_types HO205.out BK200.out (by decide)) (fun _ hk => hk.2) (.slice Ao14 t203.length co14)) (fun _ hk => trivial)))⟩; have n2_ : Aside0 (w16.heap[gb200]? = some (.cells #[.int .i64 ((rd_T33 l0 x4_1).f0), .string ((rd_T33 l0 x4_1).f1), .int .i64 ((rd_T33 l0 x4_1).f2), .int .i64 ((rd_T33 l0 x4_1).f3), .int .i64 ((rd_T33 l0 x4_1).f4), .bool ((rd_T33 l0 x4_1).f5), .slice Ao14 t203.length co14] 33 (0, 0))) := ⟨(by rw [hw]; exact (by (with_reducible repeat (first | refine blk_drewN ?_ _ | refine blk_drew ?_ | refine blk_alloc ?_ _)); refine blk_put (cs := #[.int .i64 ((rd_T33 l0 x4_1).f0), .string ((rd_T33 l0 x4_1).f1), .int .i64 ((rd_T33 l0 x4_1).f2), .int .i64 ((rd_T33 l0 x4_1).f3), .int .i64 ((rd_T33 l0 x4_1).f4), .bool ((rd_T33 l0 x4_1).f5), .slice none 0 0]) ?_ 6 _ rfl; (with_reducible repeat (first | refine blk_drewN ?_ _ | refine blk_drew ?_ | refine blk_alloc ?_ _)); exact BK200.out))⟩; have n3_ : Aside0 (Below w.heap.size w w16) := ⟨(by rw [hw]; exact bA)⟩; clear hw; clear HO_3; clear HO205; clear BK200; clear HB; have HO_3 := n0_; have HO205 := n1_; have BK200 := n2_; have HB := n3_; clear n0_ n1_ n2_ n3_; obtain ⟨⟨hcz17_0, hcz17_1, hcz17_2, hcz17_3, hcz17_4, hcz17_5, hcz17_6⟩, hfz17_0, hfz17_1, hfz17_2, hfz17_3, hfz17_4, hfz17_5, hfz17_6⟩ := Own.c7 BK200.out) | ((with_reducible refine gate_builtin (b := .append) (xs := #[.tmp 32, .tmp 34]) rfl ?_); at_builtin; refine Kd.S_append k33 (w0 := w) w.heap.size rfl (.tmp 32) (.tmp 34) 25 33 (.agg #[(.int .i64 0), (.string ⟨#[]⟩), (.int .i64 0), (.int .i64 0), (.int .i64 0), (.bool false), (.slice none 0 0)]) 80 rfl Try.underlying25 info33 rfl (by decide) (by omega) u3 x3_1 (⟨(rd_T33 l0 x4_1).f0, (rd_T33 l0 x4_1).f1, (rd_T33 l0 x4_1).f2, (rd_T33 l0 x4_1).f3, (rd_T33 l0 x4_1).f4, (rd_T33 l0 x4_1).f5, t203⟩ : S33) [.int .i64 ((rd_T33 l0 x4_1).f0), .string ((rd_T33 l0 x4_1).f1), .int .i64 ((rd_T33 l0 x4_1).f2), .int .i64 ((rd_T33 l0 x4_1).f3), .int .i64 ((rd_T33 l0 x4_1).f4), .bool ((rd_T33 l0 x4_1).f5), .slice Ao14 t203.length co14] (fun k_ => k_ ≠ gb200) (fun k_ => some k_ = (.slice Ao14 t203.length co14 : Value).ownBlock) rfl rfl ?aP (fun k_ hk_ => ((Kd.R_mono (ok' := fun k_ => ((fun k_ => k_ ≠ gb200)) k_ ∧ some k_ ≠ (u3 : Value).ownBlock) (Kd.R_types (Kd.R_apart' (HO205.out) (Kd.S_typed HO_3.out) (by decide)) BK200.out (by decide)) (fun k_ hk => ⟨hk.2, hk.1.2⟩))).1 k_ hk_.symm) ?aF ?aO ?aB ?aS ?aL ?_; (case aP => exact k33_mkM _ _ _ (⟨(rd_T33 l0 x4_1).f0, (rd_T33 l0 x4_1).f1, (rd_T33 l0 x4_1).f2, (rd_T33 l0 x4_1).f3, (rd_T33 l0 x4_1).f4, (rd_T33 l0 x4_1).f5, t203⟩ : S33) (Kd.R_mono (Kd.R_tight rfl (Kd.R_mono (ok' := fun k_ => ((fun k_ => k_ ≠ gb200)) k_ ∧ some k_ ≠ (u3 : Value).ownBlock) (Kd.R_types (Kd.R_apart' (HO205.out) (Kd.S_typed HO_3.out) (by decide)) BK200.out (by decide)) (fun k_ hk => ⟨hk.2, hk.1.2⟩))) (fun _ h_ => h_))); (case aB => exact bA); (case aF => exact (fun k_ hk => Kd.freshB (g := gb200) (o := .cells #[.int .i64 ((rd_T33 l0 x4_1).f0), .string ((rd_T33 l0 x4_1).f1), .int .i64 ((rd_T33 l0 x4_1).f2), .int .i64 ((rd_T33 l0 x4_1).f3), .int .i64 ((rd_T33 l0 x4_1).f4), .bool ((rd_T33 l0 x4_1).f5), .slice Ao14 t203.length co14] 33 (0, 0)) (by (with_reducible repeat (first | refine blk_drewN ?_ _ | refine blk_drew ?_ | refine blk_alloc ?_ _)); exact BK200.out) k_ hk)); (case aO => exact (by (with_reducible repeat (first | apply Kd.S_alloc | apply Kd.S_drewN | apply Kd.S_drew)); exact Kd.S_mono HO_3.out (fun k_ hk => ⟨hk.2, fun e_ => hk.1 e_⟩))); (case aS => exact (below_size bA)); (case aL => have := LMc8.out; omega); intro v207 w18 ho hb hg hat; rw [← Ny206.out] at ho; have n0_ := Aside0.mk (blk_grown (g := gb200) (o := .cells #[.int .i64 ((rd_T33 l0 x4_1).f0), .string ((rd_T33 l0 x4_1).f1), .int .i64 ((rd_T33 l0 x4_1).f2), .int .i64 ((rd_T33 l0 x4_1).f3), .int .i64 ((rd_T33 l0 x4_1).f4), .bool ((rd_T33 l0 x4_1).f5), .slice Ao14 t203.length co14] 33 (0, 0)) (by (with_reducible repeat (first | refine blk_drewN ?_ _ | refine blk_drew ?_ | refine blk_alloc ?_ _)); exact BK200.out) hg (Kd.S_away HO_3.out (fun _ hk => hk.2))); have n1_ := Aside0.mk (hb); have n2_ := Aside0.mk (ho); clear BK200; clear HB; clear HO_3; clear HO205; have BK200 := n0_; have HB := n1_; have HO208 := n2_; clear n0_ n1_ n2_; clear ho hb hg hat))
       go_roundg k1
       case measure => have := HK1.out; omega
       case rel => exact ⟨(y206), (wrap64 (x4_1 + 1)), rF, H', ⟨by have := HK1.out; omega⟩, ⟨by (with_reducible repeat (first | apply Kd.S_alloc | apply Kd.S_drewN | apply Kd.S_drew)); exact Kd.S_mono HO208.out (fun _ hk => trivial)⟩, ⟨bA⟩⟩
      ·rw [if_neg c8] at H
       exact absurd H (by simp)
     ·rw [if_neg c6] at H
      have c6b0 : decide (0 < (((rd_T33 l0 x4_1).f6).length : Int)) = false := decide_eq_false c6
      have c6b1 : decide (0 < ((rd_T33 l0 x4_1).f6).length) = false := decide_eq_false (by omega)
      clear c6
      by_cases c19 : x3_1.length < 1759218604441
      ·rw [if_pos c19] at H
       have LMc19 := Aside0.mk c19
       clear c19
       obtain ⟨y209, hy209⟩ : ∃ y_ : List (S33), y_ = (x3_1 ++ [(⟨(rd_T33 l0 x4_1).f0, (rd_T33 l0 x4_1).f1, (rd_T33 l0 x4_1).f2, (rd_T33 l0 x4_1).f3, (rd_T33 l0 x4_1).f4, (rd_T33 l0 x4_1).f5, ([] : List Int)⟩ : S33)]) := ⟨_, rfl⟩
       replace H : (spec_l02Copy.l0 k1 l0 y209 (wrap64 (x4_1 + 1))) = some r := by first | (rw [hy209]; with_reducible exact H) | (have H2_ := (Option.bind_some _ _).symm.trans H; rw [hy209]; with_reducible exact H2_) | (have H2_ := (Option.bind_some _ _).symm.trans H; with_reducible exact H2_) | with_reducible exact H | (rw [hy209]; exact H) | exact H
       have Ny209 := Aside0.mk hy209
       clear hy209
       have H' := Aside0.mk H
       clear H
       have p199 : 0 ≤ (x4_1 : Int) := of_decide_eq_true (by assumption)
       have q199 : x4_1 < (l0.length : Int) := of_decide_eq_true (by assumption)
       obtain ⟨ad199, A199_6, c199_6, e199, hx199_0, hx199_1, hx199_2, hx199_3, hx199_4, hx199_5, hx199_6, hl199_6, hi199_6⟩ := at_T33 HR0.out x4_1 p199 q199
       cases e199
       replace hx199_0 := hxB HB.out hx199_0
       replace hx199_1 := hxB HB.out hx199_1
       replace hx199_2 := hxB HB.out hx199_2
       replace hx199_3 := hxB HB.out hx199_3
       replace hx199_4 := hxB HB.out hx199_4
       replace hx199_5 := hxB HB.out hx199_5
       replace hx199_6 := hxB HB.out hx199_6
       have HR199_6 := Aside0.mk hi199_6
       have HC199_6 := Aside0.mk hl199_6
       clear hi199_6 hl199_6
       replace p199 := eq_true p199
       replace q199 := eq_true q199
       go_wp2_with (first | ((with_reducible refine gate_dst (N := 5) rfl ?_); refine box_event ?hg (N := 5) ?hd (cs := #[.int .i64 0, .string (⟨#[]⟩ : ByteArray), .int .i64 0, .int .i64 0, .int .i64 0, .bool false, .slice none 0 0]) (t := 33) ?hr ?_; (case hd => rfl); (case hg => rfl); (case hr => first | (go_simp; done) | (go_simp; rfl)); intro gb200 hg w20 hbox hb; have n0_ := Aside0.mk (Kd.S_below (Kd.S_elderB (by (with_reducible repeat (first | apply Kd.S_alloc | apply Kd.S_drewN | apply Kd.S_drew)); exact HO_3.out) gb200 (Nat.le_of_eq hg.symm)) hb); have n1_ := Aside0.mk (below_step bA hb); have n2_ := Aside0.mk (hbox); have n3_ := Aside0.mk ((by rw [hg]; exact (below_size bA) : w.heap.size ≤ gb200)); have n4_ := Aside0.mk ((by rw [hg]; exact (below_size bA) : w.heap.size ≤ gb200)); clear HO_3; clear HB; have HO_3 := n0_; have HB := n1_; have BK200 := n2_; have GW200 := n3_; have GE200 := n4_; clear n0_ n1_ n2_ n3_ n4_; clear hb hbox hg; obtain ⟨⟨hcz21_0, hcz21_1, hcz21_2, hcz21_3, hcz21_4, hcz21_5, hcz21_6⟩, hfz21_0, hfz21_1, hfz21_2, hfz21_3, hfz21_4, hfz21_5, hfz21_6⟩ := Own.c7 BK200.out) | ((with_reducible refine gate_store (t := 33) (p := 5) rfl ?_); refine store_event (t := 33) (p := 5) (v := ?vo_w22) (w1 := (((((((w20.setCell ⟨gb200, 0, none⟩ (.int .i64 ((rd_T33 l0 x4_1).f0))).setCell ⟨gb200, 1, none⟩ (.string ((rd_T33 l0 x4_1).f1))).setCell ⟨gb200, 2, none⟩ (.int .i64 ((rd_T33 l0 x4_1).f2))).setCell ⟨gb200, 3, none⟩ (.int .i64 ((rd_T33 l0 x4_1).f3))).setCell ⟨gb200, 4, none⟩ (.int .i64 ((rd_T33 l0 x4_1).f4))).setCell ⟨gb200, 5, none⟩ (.bool ((rd_T33 l0 x4_1).f5))).setCell ⟨gb200, 6, none⟩ (.slice A199_6 ((rd_T33 l0 x4_1).f6).length c199_6))) ?hg ?ho ?hn ?hr ?_; (case ho => rfl); (case hg => rfl); (case hn => rfl); (case hr => first | (go_simp; done) | (go_simp; rfl)); intro w22 hw; have n0_ : Aside0 (Kd.S k33 33 w22 w.heap.size (fun k_ => k_ ≠ gb200) u3 x3_1) := ⟨(by rw [hw]; exact (by (with_reducible repeat (first | apply Kd.S_alloc | apply Kd.S_drewN | apply Kd.S_drew)); exact Kd.S_mono (Kd.S_far (p := ⟨gb200, 6, none⟩) (Kd.S_far (p := ⟨gb200, 5, none⟩) (Kd.S_far (p := ⟨gb200, 4, none⟩) (Kd.S_far (p := ⟨gb200, 3, none⟩) (Kd.S_far (p := ⟨gb200, 2, none⟩) (Kd.S_far (p := ⟨gb200, 1, none⟩) (Kd.S_far (p := ⟨gb200, 0, none⟩) (Kd.S_mono HO_3.out (fun k_ hk => (⟨hk, hk.2⟩ : _ ∧ k_ ≠ gb200))) (fun _ hk => hk.2) (.int .i64 ((rd_T33 l0 x4_1).f0))) (fun _ hk => hk.2) (.string ((rd_T33 l0 x4_1).f1))) (fun _ hk => hk.2) (.int .i64 ((rd_T33 l0 x4_1).f2))) (fun _ hk => hk.2) (.int .i64 ((rd_T33 l0 x4_1).f3))) (fun _ hk => hk.2) (.int .i64 ((rd_T33 l0 x4_1).f4))) (fun _ hk => hk.2) (.bool ((rd_T33 l0 x4_1).f5))) (fun _ hk => hk.2) (.slice A199_6 ((rd_T33 l0 x4_1).f6).length c199_6)) (fun _ hk => hk.1.2)))⟩; have n1_ : Aside0 (w22.heap[gb200]? = some (.cells #[.int .i64 ((rd_T33 l0 x4_1).f0), .string ((rd_T33 l0 x4_1).f1), .int .i64 ((rd_T33 l0 x4_1).f2), .int .i64 ((rd_T33 l0 x4_1).f3), .int .i64 ((rd_T33 l0 x4_1).f4), .bool ((rd_T33 l0 x4_1).f5), .slice A199_6 ((rd_T33 l0 x4_1).f6).length c199_6] 33 (0, 0))) := ⟨(by rw [hw]; exact (by exact put7 BK200.out))⟩; have n2_ : Aside0 (Below w.heap.size w w22) := ⟨(by rw [hw]; exact bA)⟩; clear hw; clear HO_3; clear BK200; clear HB; have HO_3 := n0_; have BK200 := n1_; have HB := n2_; clear n0_ n1_ n2_; obtain ⟨⟨hcz23_0, hcz23_1, hcz23_2, hcz23_3, hcz23_4, hcz23_5, hcz23_6⟩, hfz23_0, hfz23_1, hfz23_2, hfz23_3, hfz23_4, hfz23_5, hfz23_6⟩ := Own.c7 BK200.out; have p201 : 0 ≤ (x4_1 : Int) := of_decide_eq_true (by assumption); have q201 : x4_1 < (l0.length : Int) := of_decide_eq_true (by assumption); obtain ⟨ad201, A201_6, c201_6, e201, hx201_0, hx201_1, hx201_2, hx201_3, hx201_4, hx201_5, hx201_6, hl201_6, hi201_6⟩ := at_T33 HR0.out x4_1 p201 q201; obtain rfl : ad199 = ad201 := (by injection e201); have hn201_0 : ad199.block ≠ gb200 := Nat.ne_of_lt (Nat.lt_of_lt_of_le (by have := World.block_lt_of_cell? _ _ hx201_0; first | rwa [add_block] at this | exact this) GW200.out); replace hx201_0 := hxB HB.out hx201_0; replace hx201_1 := hxB HB.out hx201_1; replace hx201_2 := hxB HB.out hx201_2; replace hx201_3 := hxB HB.out hx201_3; replace hx201_4 := hxB HB.out hx201_4; replace hx201_5 := hxB HB.out hx201_5; replace hx201_6 := hxB HB.out hx201_6; have HR201_6 := Aside0.mk hi201_6; have HC201_6 := Aside0.mk hl201_6; clear hi201_6 hl201_6; replace hx201_0 := (cell_far (p := ⟨gb200, 6, none⟩) (by first | (rw [add_block]; exact hn201_0) | (show (Addr.add _ _).block ≠ _; rw [add_block]; exact hn201_0) | exact hn201_0) (.slice none 0 0)).trans hx201_0; replace hx201_1 := (cell_far (p := ⟨gb200, 6, none⟩) (by first | (rw [add_block]; exact hn201_0) | (show (Addr.add _ _).block ≠ _; rw [add_block]; exact hn201_0) | exact hn201_0) (.slice none 0 0)).trans hx201_1; replace hx201_2 := (cell_far (p := ⟨gb200, 6, none⟩) (by first | (rw [add_block]; exact hn201_0) | (show (Addr.add _ _).block ≠ _; rw [add_block]; exact hn201_0) | exact hn201_0) (.slice none 0 0)).trans hx201_2; replace hx201_3 := (cell_far (p := ⟨gb200, 6, none⟩) (by first | (rw [add_block]; exact hn201_0) | (show (Addr.add _ _).block ≠ _; rw [add_block]; exact hn201_0) | exact hn201_0) (.slice none 0 0)).trans hx201_3; replace hx201_4 := (cell_far (p := ⟨gb200, 6, none⟩) (by first | (rw [add_block]; exact hn201_0) | (show (Addr.add _ _).block ≠ _; rw [add_block]; exact hn201_0) | exact hn201_0) (.slice none 0 0)).trans hx201_4; replace hx201_5 := (cell_far (p := ⟨gb200, 6, none⟩) (by first | (rw [add_block]; exact hn201_0) | (show (Addr.add _ _).block ≠ _; rw [add_block]; exact hn201_0) | exact hn201_0) (.slice none 0 0)).trans hx201_5; replace hx201_6 := (cell_far (p := ⟨gb200, 6, none⟩) (by first | (rw [add_block]; exact hn201_0) | (show (Addr.add _ _).block ≠ _; rw [add_block]; exact hn201_0) | exact hn201_0) (.slice none 0 0)).trans hx201_6; clear hn201_0; replace p201 := eq_true p201; replace q201 := eq_true q201) | ((with_reducible refine gate_builtin (b := .append) (xs := #[.tmp 32, .tmp 34]) rfl ?_); at_builtin; refine Kd.S_append k33 (w0 := w) w.heap.size rfl (.tmp 32) (.tmp 34) 25 33 (.agg #[(.int .i64 0), (.string ⟨#[]⟩), (.int .i64 0), (.int .i64 0), (.int .i64 0), (.bool false), (.slice none 0 0)]) 80 rfl Try.underlying25 info33 rfl (by decide) (by omega) u3 x3_1 (⟨(rd_T33 l0 x4_1).f0, (rd_T33 l0 x4_1).f1, (rd_T33 l0 x4_1).f2, (rd_T33 l0 x4_1).f3, (rd_T33 l0 x4_1).f4, (rd_T33 l0 x4_1).f5, ([] : List Int)⟩ : S33) [.int .i64 ((rd_T33 l0 x4_1).f0), .string ((rd_T33 l0 x4_1).f1), .int .i64 ((rd_T33 l0 x4_1).f2), .int .i64 ((rd_T33 l0 x4_1).f3), .int .i64 ((rd_T33 l0 x4_1).f4), .bool ((rd_T33 l0 x4_1).f5), .slice none 0 0] (fun k_ => k_ ≠ gb200) (fun _ => False) rfl (by first | (go_simp; done) | (go_simp; rfl)) ?aP (fun k_ hk_ => hk_.elim) ?aF ?aO ?aB ?aS ?aL ?_; (case aP => exact k33_mkM _ _ _ (⟨(rd_T33 l0 x4_1).f0, (rd_T33 l0 x4_1).f1, (rd_T33 l0 x4_1).f2, (rd_T33 l0 x4_1).f3, (rd_T33 l0 x4_1).f4, (rd_T33 l0 x4_1).f5, ([] : List Int)⟩ : S33) (Kd.R_nil _ _ _ _ _)); (case aB => exact bA); (case aF => exact (fun k_ hk => Kd.freshB (g := gb200) (o := .cells #[.int .i64 ((rd_T33 l0 x4_1).f0), .string ((rd_T33 l0 x4_1).f1), .int .i64 ((rd_T33 l0 x4_1).f2), .int .i64 ((rd_T33 l0 x4_1).f3), .int .i64 ((rd_T33 l0 x4_1).f4), .bool ((rd_T33 l0 x4_1).f5), .slice none 0 0] 33 (0, 0)) (by (with_reducible repeat (first | refine blk_drewN ?_ _ | refine blk_drew ?_ | refine blk_alloc ?_ _)); refine blk_put (cs := #[.int .i64 ((rd_T33 l0 x4_1).f0), .string ((rd_T33 l0 x4_1).f1), .int .i64 ((rd_T33 l0 x4_1).f2), .int .i64 ((rd_T33 l0 x4_1).f3), .int .i64 ((rd_T33 l0 x4_1).f4), .bool ((rd_T33 l0 x4_1).f5), .slice A199_6 ((rd_T33 l0 x4_1).f6).length c199_6]) ?_ 6 _ rfl; (with_reducible repeat (first | refine blk_drewN ?_ _ | refine blk_drew ?_ | refine blk_alloc ?_ _)); exact BK200.out) k_ hk)); (case aO => exact (by (with_reducible repeat (first | apply Kd.S_alloc | apply Kd.S_drewN | apply Kd.S_drew)); exact Kd.S_mono (Kd.S_far (p := ⟨gb200, 6, none⟩) (Kd.S_mono HO_3.out (fun k_ hk => (⟨hk, hk⟩ : _ ∧ k_ ≠ gb200))) (fun _ hk => hk.2) (.slice none 0 0)) (fun k_ hk => ⟨hk.1, fun e_ => e_⟩))); (case aS => exact (below_size bA)); (case aL => have := LMc19.out; omega); intro v210 w24 ho hb hg hat; rw [← Ny209.out] at ho; have n0_ := Aside0.mk (blk_grown (g := gb200) (o := .cells #[.int .i64 ((rd_T33 l0 x4_1).f0), .string ((rd_T33 l0 x4_1).f1), .int .i64 ((rd_T33 l0 x4_1).f2), .int .i64 ((rd_T33 l0 x4_1).f3), .int .i64 ((rd_T33 l0 x4_1).f4), .bool ((rd_T33 l0 x4_1).f5), .slice none 0 0] 33 (0, 0)) (by (with_reducible repeat (first | refine blk_drewN ?_ _ | refine blk_drew ?_ | refine blk_alloc ?_ _)); refine blk_put (cs := #[.int .i64 ((rd_T33 l0 x4_1).f0), .string ((rd_T33 l0 x4_1).f1), .int .i64 ((rd_T33 l0 x4_1).f2), .int .i64 ((rd_T33 l0 x4_1).f3), .int .i64 ((rd_T33 l0 x4_1).f4), .bool ((rd_T33 l0 x4_1).f5), .slice A199_6 ((rd_T33 l0 x4_1).f6).length c199_6]) ?_ 6 _ rfl; (with_reducible repeat (first | refine blk_drewN ?_ _ | refine blk_drew ?_ | refine blk_alloc ?_ _)); exact BK200.out) hg (Kd.S_away HO_3.out (fun _ hk => hk))); have n1_ := Aside0.mk (hb); have n2_ := Aside0.mk (ho); clear BK200; clear HB; clear HO_3; have BK200 := n0_; have HB := n1_; have HO211 := n2_; clear n0_ n1_ n2_; clear ho hb hg hat))
       go_roundg k1
       case measure => have := HK1.out; omega
       case rel => exact ⟨(y209), (wrap64 (x4_1 + 1)), rF, H', ⟨by have := HK1.out; omega⟩, ⟨by (with_reducible repeat (first | apply Kd.S_alloc | apply Kd.S_drewN | apply Kd.S_drew)); exact Kd.S_mono HO211.out (fun _ hk => trivial)⟩, ⟨bA⟩⟩
      ·rw [if_neg c19] at H
       exact absurd H (by simp)
    ·rw [if_neg c5] at H
     exact absurd H (by simp)
   ·rw [if_neg c4] at H
    have c4b0 : decide (x4_1 < (l0.length : Int)) = false := decide_eq_false c4
    clear c4
    obtain rfl := Option.some.inj H
    go_wp2
    go_ret
    exact ⟨_, rE, by (with_reducible repeat (first | apply Kd.S_alloc | apply Kd.S_drewN | apply Kd.S_drew)); exact HO_3.out, bA⟩

/-! ### spec_l02Joined: function 84 -/
def spec_l02Joined.l0 : Nat → List (List (S33)) → List (S33) → Int → Option ((List (S33)))
 | 0, _, _, _ => none
 | k + 1, x0, x3, x4 => if x4 < (x0.length : Int) then (if 0 ≤ x4 then ((spec_l02Copy.f k (rd_L7 x0 x4)).bind fun t216 => (if x3.length + t216.length < 1759218604441 then (spec_l02Joined.l0 k x0 (x3 ++ t216) (wrap64 (x4 + 1))) else (none))) else (none)) else (some x3)
def spec_l02Joined.f (k : Nat) (l0 : List (List (S33))) : Option ((List (S33))) := spec_l02Joined.l0 k l0 (([] : List (S33))) 0
theorem spec_l02Joined.mono_l : ∀ k, (∀ y0 y1 y2, LeO (spec_l02Joined.l0 k y0 y1 y2) (spec_l02Joined.l0 (k + 1) y0 y1 y2))
 | 0 => fun _ _ _ r h => by simp [spec_l02Joined.l0] at h
 | k + 1 => by
  have ih0 := spec_l02Joined.mono_l k
  ·intro y0 y1 y2
   unfold spec_l02Joined.l0
   repeat' first
   | (with_reducible exact ih0 _ _ _)
   | (with_reducible exact spec_l02Copy.mono _ _)
   | (with_reducible exact LeO.refl _)
   | (with_reducible exact LeO.none _)
   | (with_reducible refine LeO.ite ?_ ?_)
   | (with_reducible refine LeO.bind ?_ (fun _ => ?_))
   | exact ih0 _ _ _
   | exact spec_l02Copy.mono _ _
   | exact LeO.none _
   | refine LeO.ite ?_ ?_
   | refine LeO.bind ?_ (fun _ => ?_)
theorem spec_l02Joined.mono : ∀ a0 k, LeO (spec_l02Joined.f k a0) (spec_l02Joined.f (k + 1) a0) := by
 intro a0 k
 have ih0 := spec_l02Joined.mono_l k
 unfold spec_l02Joined.f
 repeat' first
   | (with_reducible exact ih0 _ _ _)
   | (with_reducible exact spec_l02Copy.mono _ _)
   | (with_reducible exact LeO.refl _)
   | (with_reducible exact LeO.none _)
   | (with_reducible refine LeO.ite ?_ ?_)
   | (with_reducible refine LeO.bind ?_ (fun _ => ?_))
   | exact ih0 _ _ _
   | exact spec_l02Copy.mono _ _
   | exact LeO.none _
   | refine LeO.ite ?_ ?_
   | refine LeO.bind ?_ (fun _ => ?_)
set_option maxHeartbeats 8000000 in
set_option maxRecDepth 100000 in
theorem spec_l02Joined.calls (k : Nat) (A0 : Option Addr) (c0 : Nat) (l0 : List (List (S33))) (r : List (S33)) (w : World) (hr0 : Kd.C (Kd.slice 33 k33) w A0 l0.length l0) (hc0 : l0.length ≤ c0) (h : spec_l02Joined.f k l0 = some r) :
  Calls Try.prog 84 #[.slice A0 l0.length c0] w fun e w' => ∃ v0_ : Value, e = .returned (v0_) ∧ Kd.N k33 33 w' w.heap.size (fun k_ => (w.heap.size ≤ k_)) v0_ r ∧ Below w.heap.size w w' := by
 have HR0 := Aside0.mk hr0
 have HC0 := Aside0.mk hc0
 clear hr0 hc0
 have HB := Aside0.mk (Below.refl w.heap.size w)
 have H : (spec_l02Joined.l0 k l0 (([] : List (S33))) 0) = some r := h
 clear h
 obtain ⟨y212, hy212⟩ : ∃ y_ : List (S33), y_ = (([] : List (S33))) := ⟨_, rfl⟩
 replace H : (spec_l02Joined.l0 k l0 y212 0) = some r := by first | (rw [hy212]; with_reducible exact H) | (have H2_ := (Option.bind_some _ _).symm.trans H; rw [hy212]; with_reducible exact H2_) | (have H2_ := (Option.bind_some _ _).symm.trans H; with_reducible exact H2_) | with_reducible exact H | (rw [hy212]; exact H) | exact H
 have Ny212 := Aside0.mk hy212
 clear hy212
 have H' := Aside0.mk H
 clear H
 go_enter Try.func84, Try.ntmps84
 go_wp2_with (first | ((with_reducible refine gate_dst (N := 5) rfl ?_); refine Kd.N_lit k33 _ 33 ?hg (N' := 5) ?hd (xs := ([] : List (S33))) (inner := []) (ok := (fun k_ => (w.heap.size ≤ k_))) (okp := (fun k_ => (w.heap.size ≤ k_))) ?hr ?hp (fun _ hk => hk) ((show ∀ k_, w.heap.size ≤ k_ → (fun k_ => (w.heap.size ≤ k_)) k_ from fun k_ hk => (Nat.le_trans (below_size bA) hk)) _ (Nat.le_refl _)) (Below.refl _ _) (Nat.le_refl _) (by simp) ?_; (case hd => rfl); (case hg => rfl); (case hr => first | (go_simp; done) | (go_simp; rfl)); (case hp => exact (Reps.none _ _)); intro v213 w2 ho3 hb hg_ hnew_; clear hg_ hnew_; (first | rw [← Ny212.out] at ho3 | (simp only [Int.reduceToNat] at ho3; rw [← Ny212.out] at ho3)); have n0_ := Aside0.mk (Kd.N_lower ho3 (below_size bA)); have n1_ := Aside0.mk (below_step bA hb); clear HB; have HO214 := n0_; have HB := n1_; clear n0_ n1_; clear hb ho3))
 go_loopg [3, 4] k (fun kq v3 v4 w' => ∃ (x3_1 : List (S33)) (x4_1 : Int), v4 = .int .i64 x4_1 ∧ Aside0 (spec_l02Joined.l0 kq l0 x3_1 x4_1 = some r) ∧ Aside0 (kq ≤ k) ∧ Aside0 (Kd.N k33 33 w' w.heap.size (fun k_ => (w.heap.size ≤ k_)) v3 x3_1) ∧ Aside0 (Below w.heap.size w w'))
 case atStart => exact ⟨(y212), (0), rF, H', ⟨Nat.le_refl _⟩, ⟨by (with_reducible repeat (first | apply Kd.N_alloc | apply Kd.N_drewN | apply Kd.N_drew)); exact HO214.out⟩, ⟨bA⟩⟩
 case round =>
  clear H'
  try clear p2
  obtain ⟨x3_1, x4_1, rfl, HA, HK1, HO_3, HB⟩ := hrel
  cases gk with
  | zero => exact absurd HA.out (by simp [spec_l02Joined.l0])
  | succ k1 =>
   have H := HA.out
   clear HA
   simp only [spec_l02Joined.l0] at H
   by_cases c4 : x4_1 < (l0.length : Int)
   ·rw [if_pos c4] at H
    have c4b0 : decide (x4_1 < (l0.length : Int)) = true := decide_eq_true c4
    clear c4
    by_cases c5 : 0 ≤ x4_1
    ·rw [if_pos c5] at H
     have c5b0 : decide (0 ≤ x4_1) = true := decide_eq_true c5
     clear c5
     replace H := Option.bind_eq_some_iff.mp H
     obtain ⟨t216, A60, H⟩ := H
     replace H : (if x3_1.length + t216.length < 1759218604441 then (spec_l02Joined.l0 k1 l0 (x3_1 ++ t216) (wrap64 (x4_1 + 1))) else (none)) = some r := H
     have A6 := Aside0.mk A60
     clear A60
     by_cases c7 : x3_1.length + t216.length < 1759218604441
     ·rw [if_pos c7] at H
      have LMc7 := Aside0.mk c7
      clear c7
      obtain ⟨y219, hy219⟩ : ∃ y_ : List (S33), y_ = (x3_1 ++ t216) := ⟨_, rfl⟩
      replace H : (spec_l02Joined.l0 k1 l0 y219 (wrap64 (x4_1 + 1))) = some r := by first | (rw [hy219]; with_reducible exact H) | (have H2_ := (Option.bind_some _ _).symm.trans H; rw [hy219]; with_reducible exact H2_) | (have H2_ := (Option.bind_some _ _).symm.trans H; with_reducible exact H2_) | with_reducible exact H | (rw [hy219]; exact H) | exact H
      have Ny219 := Aside0.mk hy219
      clear hy219
      have H' := Aside0.mk H
      clear H
      have p215 : 0 ≤ (x4_1 : Int) := of_decide_eq_true (by assumption)
      have q215 : x4_1 < (l0.length : Int) := of_decide_eq_true (by assumption)
      obtain ⟨ad215, A215_0, c215_0, e215, hx215_0, hl215_0, hi215_0⟩ := at_L7 HR0.out x4_1 p215 q215
      cases e215
      replace hx215_0 := hxB HB.out hx215_0
      have HR215_0 := Aside0.mk hi215_0
      have HC215_0 := Aside0.mk hl215_0
      clear hi215_0 hl215_0
      replace p215 := eq_true p215
      replace q215 := eq_true q215
      go_wp2_with (first | ((with_reducible refine gate_callee (f := 82) rfl ?_); refine goesL_ (some 17) rfl rfl Try.func82 (by kernel_rfl) rfl #[.slice A215_0 (rd_L7 l0 x4_1).length c215_0] rfl aL ?_; (with_reducible refine (spec_l02Copy.calls k1 _ _ (rd_L7 l0 x4_1) t216 _ ?side1 ?side2 A6.out).mono ?_); (case side1 => exact cA); (case side2 => exact HC215_0.out); rintro e w8 ⟨v217, rfl, ho0, hb⟩; refine ⟨_, rfl, ?_⟩; have n0_ := Aside0.mk (Kd.N_elder' (by (with_reducible repeat (first | apply Kd.N_alloc | apply Kd.N_drewN | apply Kd.N_drew)); exact HO_3.out) (by first | exact Kd.N_base ho0 | exact Kd.N_base (Kd.S_N ho0)) hb); have n1_ := Aside0.mk (Kd.N_lower (Kd.N_mono (ok' := fun k_ => (w.heap.size ≤ k_) ∧ some k_ ≠ (u3 : Value).ownBlock) (Kd.S_N (Kd.S_bound ho0)) (fun k_ hk_ => ⟨(Nat.le_trans (below_size bA) hk_.2.1), (Kd.fresh' (Kd.N_lt (by (with_reducible repeat (first | apply Kd.N_alloc | apply Kd.N_drewN | apply Kd.N_drew)); exact HO_3.out)) k_ hk_.2.1)⟩)) (below_size bA)); have n2_ := Aside0.mk (below_step bA hb); clear HO_3; clear HB; have HO_3 := n0_; have HO218 := n1_; have HB := n2_; clear n0_ n1_ n2_; (try clear hb); (try clear hb2); (try clear hk); (try clear hi); (try clear ho0); obtain ⟨Ao10, co10, eo10⟩ := Kd.N_slice HO218.out; subst eo10) | ((with_reducible refine gate_builtin (b := .append) (xs := #[.tmp 12, .tmp 17]) rfl ?_); at_builtin; refine Kd.N_append_rows k33 (w0 := w) w.heap.size rfl (.tmp 12) (.tmp 17) 25 33 (.agg #[(.int .i64 0), (.string ⟨#[]⟩), (.int .i64 0), (.int .i64 0), (.int .i64 0), (.bool false), (.slice none 0 0)]) 80 rfl Try.underlying25 info33 rfl (by decide) (by omega) u3 x3_1 t216 _ _ _ (fun k_ => (w.heap.size ≤ k_)) (fun k_ => ((fun k_ => (w.heap.size ≤ k_))) k_ ∧ some k_ ≠ (u3 : Value).ownBlock) rfl rfl ?aO ?aR (fun _ hk => hk) ?aF ?aB ?aS ?aL ?_; (case aR => exact (by skip; exact Kd.N_F (Kd.N_mono (ok' := (fun k_ => ((fun k_ => (w.heap.size ≤ k_))) k_ ∧ some k_ ≠ (u3 : Value).ownBlock)) (HO218.out) (fun k_ hk => ⟨hk.1, hk.2⟩)))); (case aB => exact bA); (case aF => exact (fun k_ hk => (Nat.le_trans (below_size bA) hk))); (case aO => exact (by (with_reducible repeat (first | apply Kd.N_alloc | apply Kd.N_drewN | apply Kd.N_drew)); exact Kd.N_mono HO_3.out (fun _ hk => hk.1))); (case aS => exact (below_size bA)); (case aL => have := LMc7.out; omega); intro v220 w9 ho hb hg hat; rw [← Ny219.out] at ho; have n0_ := Aside0.mk (Kd.N_afterv (ok := (fun k_ => (w.heap.size ≤ k_))) (by (with_reducible repeat (first | apply Kd.N_alloc | apply Kd.N_drewN | apply Kd.N_drew)); exact HO218.out) hg hat); have n1_ := Aside0.mk (hb); have n2_ := Aside0.mk (ho); clear HO218; clear HB; clear HO_3; have HO218 := n0_; have HB := n1_; have HO221 := n2_; clear n0_ n1_ n2_; clear ho hb hg hat))
      go_roundg k1
      case measure => have := HK1.out; omega
      case rel => exact ⟨(y219), (wrap64 (x4_1 + 1)), rF, H', ⟨by have := HK1.out; omega⟩, ⟨by (with_reducible repeat (first | apply Kd.N_alloc | apply Kd.N_drewN | apply Kd.N_drew)); exact HO221.out⟩, ⟨bA⟩⟩
     ·rw [if_neg c7] at H
      exact absurd H (by simp)
    ·rw [if_neg c5] at H
     exact absurd H (by simp)
   ·rw [if_neg c4] at H
    have c4b0 : decide (x4_1 < (l0.length : Int)) = false := decide_eq_false c4
    clear c4
    obtain rfl := Option.some.inj H
    go_wp2
    go_ret
    exact ⟨_, rE, by (with_reducible repeat (first | apply Kd.N_alloc | apply Kd.N_drewN | apply Kd.N_drew)); exact HO_3.out, bA⟩

end Go.Proofs.Ytmjfnkebpdmhbaa.Q
