/- The machine side of a law, written by a program of this session over the translation: for each Go function a Lean function with the same answers, and the proof that the Go code comes to them. -/
import Derived.Test.YtgmhohafoclmpaaQx0
import Derived.Test.YtgmhohafoclmpaaQx1
import Derived.Test.YtgmhohafoclmpaaQx2
namespace Go.Proofs.Ytgmhohafoclmpaa.Q
open Go.RowKit Go.Proofs.Ytgmhohafoclmpaa.Own Go.Proofs.YtgmhohafoclmpaaW.PrintWords Go.Proofs.YtgmhohafoclmpaaW.PrintLast Go.Proofs.YtgmhohafoclmpaaW.PrintMore
attribute [local go_sem] max2_int min2_int max_two min_two max_three min_three max_four min_four   -- for this text's walks alone
set_option linter.unusedVariables false
set_option linter.unusedSimpArgs false

/-! ### spec_PlanOk: function 38 -/
def spec_PlanOk.l0 : Nat → List (S62) → Int → Option (Bool)
 | 0, _, _ => none
 | k + 1, x0, x3 => if x3 < (x0.length : Int) then (if 0 ≤ x3 then ((spec_NodeOk.f k ((rd_T62 x0 x3).f0) ((rd_T62 x0 x3).f1) ((rd_T62 x0 x3).f2) ((rd_T62 x0 x3).f3) ((rd_T62 x0 x3).f4) ((rd_T62 x0 x3).f5) ((rd_T62 x0 x3).f6)).bind fun t138 => (if t138 = true then (spec_PlanOk.l0 k x0 (wrap64 (x3 + 1))) else (some false))) else (none)) else ((spec_l02End.f k x0 0 10).bind fun bt139 => (some (bt139.1 == (x0.length : Int))))
def spec_PlanOk.f (k : Nat) (l0 : List (S62)) : Option (Bool) := (spec_l01In.f (l0.length : Int) 1 40).bind fun t136 => (if t136 = true then (spec_PlanOk.l0 k l0 0) else (some false))
theorem spec_PlanOk.mono_l : ∀ k, (∀ y0 y1, LeO (spec_PlanOk.l0 k y0 y1) (spec_PlanOk.l0 (k + 1) y0 y1))
 | 0 => fun _ _ r h => by simp [spec_PlanOk.l0] at h
 | k + 1 => by
  have ih0 := spec_PlanOk.mono_l k
  ·intro y0 y1
   unfold spec_PlanOk.l0
   repeat' first
   | (with_reducible exact ih0 _ _)
   | (with_reducible exact spec_NodeOk.mono _ _ _ _ _ _ _ _)
   | (with_reducible exact spec_l02End.mono _ _ _ _)
   | (with_reducible exact LeO.refl _)
   | (with_reducible exact LeO.none _)
   | (with_reducible refine LeO.ite ?_ ?_)
   | (with_reducible refine LeO.bind ?_ (fun _ => ?_))
   | exact ih0 _ _
   | exact spec_NodeOk.mono _ _ _ _ _ _ _ _
   | exact spec_l02End.mono _ _ _ _
   | exact LeO.none _
   | refine LeO.ite ?_ ?_
   | refine LeO.bind ?_ (fun _ => ?_)
theorem spec_PlanOk.mono : ∀ a0 k, LeO (spec_PlanOk.f k a0) (spec_PlanOk.f (k + 1) a0) := by
 intro a0 k
 have ih0 := spec_PlanOk.mono_l k
 unfold spec_PlanOk.f
 repeat' first
   | (with_reducible exact ih0 _ _)
   | (with_reducible exact spec_NodeOk.mono _ _ _ _ _ _ _ _)
   | (with_reducible exact spec_l02End.mono _ _ _ _)
   | (with_reducible exact LeO.refl _)
   | (with_reducible exact LeO.none _)
   | (with_reducible refine LeO.ite ?_ ?_)
   | (with_reducible refine LeO.bind ?_ (fun _ => ?_))
   | exact ih0 _ _
   | exact spec_NodeOk.mono _ _ _ _ _ _ _ _
   | exact spec_l02End.mono _ _ _ _
   | exact LeO.none _
   | refine LeO.ite ?_ ?_
   | refine LeO.bind ?_ (fun _ => ?_)
set_option maxHeartbeats 8000000 in
set_option maxRecDepth 100000 in
theorem spec_PlanOk.calls (k : Nat) (A0 : Option Addr) (c0 : Nat) (l0 : List (S62)) (r : Bool) (w : World) (hr0 : Kd.C k62 w A0 l0.length l0) (hc0 : l0.length ≤ c0) (h : spec_PlanOk.f k l0 = some r) :
  Calls Try.prog 38 #[.slice A0 l0.length c0] w fun e w' => e = .returned (.bool r) ∧ Below w.heap.size w w' := by
 have hu62 := Try.underlying62
 have HR0 := Aside0.mk hr0
 have HC0 := Aside0.mk hc0
 clear hr0 hc0
 have HB := Aside0.mk (Below.refl w.heap.size w)
 have H : ((spec_l01In.f (l0.length : Int) 1 40).bind fun t136 => (if t136 = true then (spec_PlanOk.l0 k l0 0) else (some false))) = some r := h
 clear h
 replace H := Option.bind_eq_some_iff.mp H
 obtain ⟨t136, A20, H⟩ := H
 replace H : (if t136 = true then (spec_PlanOk.l0 k l0 0) else (some false)) = some r := H
 have A2 := Aside0.mk A20
 clear A20
 by_cases c3 : t136 = true
 ·subst c3
  have H1 : (spec_PlanOk.l0 k l0 0) = some r := by rw [if_pos rfl] at H; exact H
  clear H
  have H := H1
  clear H1
  have H' := Aside0.mk H
  clear H
  go_enter Try.func38, Try.ntmps38
  go_wp2_with (first | ((with_reducible refine gate_callee (f := 55) rfl ?_); refine goesL_ (some 8) rfl rfl Try.func55 (by kernel_rfl) rfl #[.int .i64 (l0.length : Int), .int .i64 1, .int .i64 40] rfl aL ?_; (with_reducible refine (spec_l01In.calls (l0.length : Int) 1 40 true _ A2.out).mono ?_); rintro e w' ⟨rfl, ⟨nd, rfl⟩⟩; refine ⟨_, rfl, ?_⟩))
  go_loopg [3] k (fun kq v3 w' => ∃ (x3_1 : Int), v3 = .int .i64 x3_1 ∧ Aside0 (spec_PlanOk.l0 kq l0 x3_1 = some r) ∧ Aside0 (kq ≤ k) ∧ Aside0 (Below w.heap.size w w'))
  case atStart => exact ⟨(0), rF, H', ⟨Nat.le_refl _⟩, ⟨bA⟩⟩
  case round =>
   clear H'
   try clear p2
   try clear c3
   obtain ⟨x3_1, rfl, HA, HK1, HB⟩ := hrel
   cases gk with
   | zero => exact absurd HA.out (by simp [spec_PlanOk.l0])
   | succ k1 =>
    have H := HA.out
    clear HA
    simp only [spec_PlanOk.l0] at H
    by_cases c4 : x3_1 < (l0.length : Int)
    ·rw [if_pos c4] at H
     have c4b0 : decide (x3_1 < (l0.length : Int)) = true := decide_eq_true c4
     clear c4
     by_cases c5 : 0 ≤ x3_1
     ·rw [if_pos c5] at H
      have c5b0 : decide (0 ≤ x3_1) = true := decide_eq_true c5
      clear c5
      replace H := Option.bind_eq_some_iff.mp H
      obtain ⟨t138, A60, H⟩ := H
      replace H : (if t138 = true then (spec_PlanOk.l0 k1 l0 (wrap64 (x3_1 + 1))) else (some false)) = some r := H
      have A6 := Aside0.mk A60
      clear A60
      by_cases c7 : t138 = true
      ·subst c7
       have H1 : (spec_PlanOk.l0 k1 l0 (wrap64 (x3_1 + 1))) = some r := by rw [if_pos rfl] at H; exact H
       clear H
       have H := H1
       clear H1
       have H' := Aside0.mk H
       clear H
       have p137 : 0 ≤ (x3_1 : Int) := of_decide_eq_true (by assumption)
       have q137 : x3_1 < (l0.length : Int) := of_decide_eq_true (by assumption)
       obtain ⟨ad137, A137_6, c137_6, e137, hx137_0, hx137_1, hx137_2, hx137_3, hx137_4, hx137_5, hx137_6, hl137_6, hi137_6⟩ := at_T62 HR0.out x3_1 p137 q137
       cases e137
       replace hx137_0 := hxB HB.out hx137_0
       replace hx137_1 := hxB HB.out hx137_1
       replace hx137_2 := hxB HB.out hx137_2
       replace hx137_3 := hxB HB.out hx137_3
       replace hx137_4 := hxB HB.out hx137_4
       replace hx137_5 := hxB HB.out hx137_5
       replace hx137_6 := hxB HB.out hx137_6
       have HR137_6 := Aside0.mk hi137_6
       have HC137_6 := Aside0.mk hl137_6
       clear hi137_6 hl137_6
       replace p137 := eq_true p137
       replace q137 := eq_true q137
       go_wp2_with (first | ((with_reducible refine gate_callee (f := 69) rfl ?_); refine goesL_ (some 20) rfl rfl Try.func69 (by kernel_rfl) rfl #[.agg #[.int .i64 ((rd_T62 l0 x3_1).f0), .string ((rd_T62 l0 x3_1).f1), .int .i64 ((rd_T62 l0 x3_1).f2), .int .i64 ((rd_T62 l0 x3_1).f3), .int .i64 ((rd_T62 l0 x3_1).f4), .bool ((rd_T62 l0 x3_1).f5), .slice A137_6 ((rd_T62 l0 x3_1).f6).length c137_6]] rfl aL ?_; (with_reducible refine (spec_NodeOk.calls k1 ((rd_T62 l0 x3_1).f0) ((rd_T62 l0 x3_1).f1) ((rd_T62 l0 x3_1).f2) ((rd_T62 l0 x3_1).f3) ((rd_T62 l0 x3_1).f4) ((rd_T62 l0 x3_1).f5) _ _ ((rd_T62 l0 x3_1).f6) true _ ?side1 ?side2 A6.out).mono ?_); (case side1 => exact cA); (case side2 => exact HC137_6.out); rintro e w8 ⟨rfl, hb⟩; refine ⟨_, rfl, ?_⟩; have n0_ := Aside0.mk (below_step bA hb); clear HB; have HB := n0_; clear n0_; (try clear hb); (try clear hb2); (try clear hk); (try clear hi)))
       go_roundg k1
       case measure => have := HK1.out; omega
       case rel => exact ⟨(wrap64 (x3_1 + 1)), rF, H', ⟨by have := HK1.out; omega⟩, ⟨bA⟩⟩
      ·replace c7 := Bool.eq_false_iff.mpr c7
       subst c7
       have H1 : (some false) = some r := by rw [if_neg (show ¬ (false = true) by decide)] at H; exact H
       clear H
       have H := H1
       clear H1
       obtain rfl := Option.some.inj H
       have p137 : 0 ≤ (x3_1 : Int) := of_decide_eq_true (by assumption)
       have q137 : x3_1 < (l0.length : Int) := of_decide_eq_true (by assumption)
       obtain ⟨ad137, A137_6, c137_6, e137, hx137_0, hx137_1, hx137_2, hx137_3, hx137_4, hx137_5, hx137_6, hl137_6, hi137_6⟩ := at_T62 HR0.out x3_1 p137 q137
       cases e137
       replace hx137_0 := hxB HB.out hx137_0
       replace hx137_1 := hxB HB.out hx137_1
       replace hx137_2 := hxB HB.out hx137_2
       replace hx137_3 := hxB HB.out hx137_3
       replace hx137_4 := hxB HB.out hx137_4
       replace hx137_5 := hxB HB.out hx137_5
       replace hx137_6 := hxB HB.out hx137_6
       have HR137_6 := Aside0.mk hi137_6
       have HC137_6 := Aside0.mk hl137_6
       clear hi137_6 hl137_6
       replace p137 := eq_true p137
       replace q137 := eq_true q137
       go_wp2_with (first | ((with_reducible refine gate_callee (f := 69) rfl ?_); refine goesL_ (some 20) rfl rfl Try.func69 (by kernel_rfl) rfl #[.agg #[.int .i64 ((rd_T62 l0 x3_1).f0), .string ((rd_T62 l0 x3_1).f1), .int .i64 ((rd_T62 l0 x3_1).f2), .int .i64 ((rd_T62 l0 x3_1).f3), .int .i64 ((rd_T62 l0 x3_1).f4), .bool ((rd_T62 l0 x3_1).f5), .slice A137_6 ((rd_T62 l0 x3_1).f6).length c137_6]] rfl aL ?_; (with_reducible refine (spec_NodeOk.calls k1 ((rd_T62 l0 x3_1).f0) ((rd_T62 l0 x3_1).f1) ((rd_T62 l0 x3_1).f2) ((rd_T62 l0 x3_1).f3) ((rd_T62 l0 x3_1).f4) ((rd_T62 l0 x3_1).f5) _ _ ((rd_T62 l0 x3_1).f6) false _ ?side1 ?side2 A6.out).mono ?_); (case side1 => exact cA); (case side2 => exact HC137_6.out); rintro e w9 ⟨rfl, hb⟩; refine ⟨_, rfl, ?_⟩; have n0_ := Aside0.mk (below_step bA hb); clear HB; have HB := n0_; clear n0_; (try clear hb); (try clear hb2); (try clear hk); (try clear hi)))
       go_ret
       exact ⟨rE, bA⟩
     ·rw [if_neg c5] at H
      exact absurd H (by simp)
    ·rw [if_neg c4] at H
     have c4b0 : decide (x3_1 < (l0.length : Int)) = false := decide_eq_false c4
     clear c4
     replace H := Option.bind_eq_some_iff.mp H
     obtain ⟨⟨t139, t140⟩, A100, H⟩ := H
     replace H : (some (t139 == (l0.length : Int))) = some r := H
     have A10 := Aside0.mk A100
     clear A100
     obtain rfl := Option.some.inj H
     go_wp2_with (first | ((with_reducible refine gate_callee (f := 70) rfl ?_); refine goesL_ (some 24) rfl rfl Try.func70 (by kernel_rfl) rfl #[.slice A0 l0.length c0, .int .i64 0, .int .i64 10] rfl aL ?_; (with_reducible refine (spec_l02End.calls k1 _ _ l0 0 10 t139 t140 _ ?side1 ?side2 A10.out).mono ?_); (case side1 => exact cA); (case side2 => exact HC0.out); rintro e w' ⟨rfl, ⟨nd, rfl⟩⟩; refine ⟨_, rfl, ?_⟩))
     go_ret
     exact ⟨rE, bA⟩
 ·replace c3 := Bool.eq_false_iff.mpr c3
  subst c3
  have H1 : (some false) = some r := by rw [if_neg (show ¬ (false = true) by decide)] at H; exact H
  clear H
  have H := H1
  clear H1
  obtain rfl := Option.some.inj H
  go_enter Try.func38, Try.ntmps38
  go_wp2_with (first | ((with_reducible refine gate_callee (f := 55) rfl ?_); refine goesL_ (some 8) rfl rfl Try.func55 (by kernel_rfl) rfl #[.int .i64 (l0.length : Int), .int .i64 1, .int .i64 40] rfl aL ?_; (with_reducible refine (spec_l01In.calls (l0.length : Int) 1 40 false _ A2.out).mono ?_); rintro e w' ⟨rfl, ⟨nd, rfl⟩⟩; refine ⟨_, rfl, ?_⟩))
  go_ret
  exact ⟨rE, bA⟩

/-! ### spec_TakeNum: function 54 -/
mutual
def spec_TakeNum.l0 : Nat → List Int → Int → Int → Int → Option (Int × Int)
 | 0, _, _, _, _ => none
 | k + 1, x0, x1, x6, x7 => if x7 < 4 then (if x1 < 0 then (spec_TakeNum.j1 k x0 x1 x6 x7 true) else (spec_TakeNum.j1 k x0 x1 x6 x7 (decide (x1 ≥ (wrap64 ((x0.length : Int) - x7)))))) else (some (0, (-1)))
def spec_TakeNum.j1 : Nat → List Int → Int → Int → Int → Bool → Option (Int × Int)
 | 0, _, _, _, _, _ => none
 | k + 1, x0, x1, x6, x7, x23 => if x23 = true then (some (0, (-1))) else (if 0 ≤ (wrap64 (x1 + x7)) then (if (wrap64 (x1 + x7)) < (x0.length : Int) then (if 0 ≤ (IntKind.u64.wrap (wrap64 (7 * x7))) then (if (wrap64 (rd x0 (wrap64 (x1 + x7)))) ≥ 128 then (spec_TakeNum.l0 k x0 x1 (wrap64 (x6 + (shl .i64 (Int.tmod (wrap64 (rd x0 (wrap64 (x1 + x7)))) 128) (IntKind.u64.wrap (wrap64 (7 * x7)))))) (wrap64 (x7 + 1))) else (if (Int.tmod (wrap64 (x6 + (shl .i64 (Int.tmod (wrap64 (rd x0 (wrap64 (x1 + x7)))) 128) (IntKind.u64.wrap (wrap64 (7 * x7)))))) 2) = 1 then (if (wrap64 (rd x0 (wrap64 (x1 + x7)))) = 0 then (if x7 > 0 then (some (0, (-1))) else ((spec_l01Number.f (wrap64 (Int.tdiv (wrap64 (-(wrap64 ((wrap64 (x6 + (shl .i64 (Int.tmod (wrap64 (rd x0 (wrap64 (x1 + x7)))) 128) (IntKind.u64.wrap (wrap64 (7 * x7)))))) + 1)))) 2))).bind fun t143 => (if t143 = true then (some (wrap64 (Int.tdiv (wrap64 (-(wrap64 ((wrap64 (x6 + (shl .i64 (Int.tmod (wrap64 (rd x0 (wrap64 (x1 + x7)))) 128) (IntKind.u64.wrap (wrap64 (7 * x7)))))) + 1)))) 2), wrap64 ((wrap64 (x1 + x7)) + 1))) else (some (0, (-1)))))) else ((spec_l01Number.f (wrap64 (Int.tdiv (wrap64 (-(wrap64 ((wrap64 (x6 + (shl .i64 (Int.tmod (wrap64 (rd x0 (wrap64 (x1 + x7)))) 128) (IntKind.u64.wrap (wrap64 (7 * x7)))))) + 1)))) 2))).bind fun t144 => (if t144 = true then (some (wrap64 (Int.tdiv (wrap64 (-(wrap64 ((wrap64 (x6 + (shl .i64 (Int.tmod (wrap64 (rd x0 (wrap64 (x1 + x7)))) 128) (IntKind.u64.wrap (wrap64 (7 * x7)))))) + 1)))) 2), wrap64 ((wrap64 (x1 + x7)) + 1))) else (some (0, (-1)))))) else (if (wrap64 (rd x0 (wrap64 (x1 + x7)))) = 0 then (if x7 > 0 then (some (0, (-1))) else ((spec_l01Number.f (wrap64 (Int.tdiv (wrap64 (x6 + (shl .i64 (Int.tmod (wrap64 (rd x0 (wrap64 (x1 + x7)))) 128) (IntKind.u64.wrap (wrap64 (7 * x7)))))) 2))).bind fun t145 => (if t145 = true then (some (wrap64 (Int.tdiv (wrap64 (x6 + (shl .i64 (Int.tmod (wrap64 (rd x0 (wrap64 (x1 + x7)))) 128) (IntKind.u64.wrap (wrap64 (7 * x7)))))) 2), wrap64 ((wrap64 (x1 + x7)) + 1))) else (some (0, (-1)))))) else ((spec_l01Number.f (wrap64 (Int.tdiv (wrap64 (x6 + (shl .i64 (Int.tmod (wrap64 (rd x0 (wrap64 (x1 + x7)))) 128) (IntKind.u64.wrap (wrap64 (7 * x7)))))) 2))).bind fun t146 => (if t146 = true then (some (wrap64 (Int.tdiv (wrap64 (x6 + (shl .i64 (Int.tmod (wrap64 (rd x0 (wrap64 (x1 + x7)))) 128) (IntKind.u64.wrap (wrap64 (7 * x7)))))) 2), wrap64 ((wrap64 (x1 + x7)) + 1))) else (some (0, (-1)))))))) else (none)) else (none)) else (none))
end
def spec_TakeNum.f (k : Nat) (l0 : List Int) (a1 : Int) : Option (Int × Int) := spec_TakeNum.l0 k l0 a1 0 0
theorem spec_TakeNum.mono_l : ∀ k, (∀ y0 y1 y2 y3, LeO (spec_TakeNum.l0 k y0 y1 y2 y3) (spec_TakeNum.l0 (k + 1) y0 y1 y2 y3)) ∧ (∀ y0 y1 y2 y3 y4, LeO (spec_TakeNum.j1 k y0 y1 y2 y3 y4) (spec_TakeNum.j1 (k + 1) y0 y1 y2 y3 y4))
 | 0 => ⟨fun _ _ _ _ r h => by simp [spec_TakeNum.l0] at h, fun _ _ _ _ _ r h => by simp [spec_TakeNum.j1] at h⟩
 | k + 1 => by
  obtain ⟨ih0, ih1⟩ := spec_TakeNum.mono_l k
  refine ⟨?_, ?_⟩ <;> intros <;> (first | unfold spec_TakeNum.l0 | unfold spec_TakeNum.j1)
  all_goals repeat' first
  | (with_reducible exact ih0 _ _ _ _)
  | (with_reducible exact ih1 _ _ _ _ _)
  | (with_reducible exact LeO.refl _)
  | (with_reducible exact LeO.none _)
  | (with_reducible refine LeO.ite ?_ ?_)
  | (with_reducible refine LeO.bind ?_ (fun _ => ?_))
  | exact ih0 _ _ _ _
  | exact ih1 _ _ _ _ _
  | exact LeO.none _
  | refine LeO.ite ?_ ?_
  | refine LeO.bind ?_ (fun _ => ?_)
theorem spec_TakeNum.mono : ∀ a0 a1 k, LeO (spec_TakeNum.f k a0 a1) (spec_TakeNum.f (k + 1) a0 a1) := by
 intro a0 a1 k
 obtain ⟨ih0, ih1⟩ := spec_TakeNum.mono_l k
 unfold spec_TakeNum.f
 repeat' first
   | (with_reducible exact ih0 _ _ _ _)
   | (with_reducible exact ih1 _ _ _ _ _)
   | (with_reducible exact LeO.refl _)
   | (with_reducible exact LeO.none _)
   | (with_reducible refine LeO.ite ?_ ?_)
   | (with_reducible refine LeO.bind ?_ (fun _ => ?_))
   | exact ih0 _ _ _ _
   | exact ih1 _ _ _ _ _
   | exact LeO.none _
   | refine LeO.ite ?_ ?_
   | refine LeO.bind ?_ (fun _ => ?_)
set_option maxHeartbeats 8000000 in
set_option maxRecDepth 100000 in
theorem spec_TakeNum.calls (k : Nat) (A0 : Option Addr) (c0 : Nat) (l0 : List Int) (a1 : Int) (r1 : Int) (r2 : Int) (w : World) (hr0 : Kd.C (Kd.int .u8) w A0 l0.length l0) (hc0 : l0.length ≤ c0) (h : spec_TakeNum.f k l0 a1 = some (r1, r2)) :
  Calls Try.prog 54 #[.slice A0 l0.length c0, .int .i64 a1] w fun e w' => e = .returned (.tuple #[.int .i64 r1, .int .i64 r2]) ∧ Drawn0 w w' := by
 have HR0 := Aside0.mk hr0
 have HC0 := Aside0.mk hc0
 clear hr0 hc0
 have H : (spec_TakeNum.l0 k l0 a1 0 0) = some (r1, r2) := h
 clear h
 have H' := Aside0.mk H
 clear H
 go_enter Try.func54, Try.ntmps54
 go_wp2
 go_loopg [6, 7] k (fun kq v6 v7 w' => ∃ (x6_1 : Int) (x7_1 : Int), v6 = .int .i64 x6_1 ∧ v7 = .int .i64 x7_1 ∧ Aside0 (spec_TakeNum.l0 kq l0 a1 x6_1 x7_1 = some (r1, r2)) ∧ Aside0 (kq ≤ k) ∧ Drawn0 w w')
 case atStart => exact ⟨(0), (0), rF, rF, H', ⟨Nat.le_refl _⟩, by repeat (first | exact Drawn0.refl _ | apply Drawn0.step)⟩
 case round =>
  clear H'
  try clear p2
  obtain ⟨x6_1, x7_1, rfl, rfl, HA, HK1, ⟨m1, rfl⟩⟩ := hrel
  cases gk with
  | zero => exact absurd HA.out (by simp [spec_TakeNum.l0])
  | succ k1 =>
   have H := HA.out
   clear HA
   simp only [spec_TakeNum.l0] at H
   by_cases c3 : x7_1 < 4
   ·rw [if_pos c3] at H
    have c3b0 : decide (x7_1 < 4) = true := decide_eq_true c3
    clear c3
    have HC4 := Aside0.mk H
    clear H
    go_upto_region 5 with (fail)
    go_cut [23] (fun v23 wc => ∃ (kq : Nat) (x23_3 : Bool), v23 = .bool x23_3 ∧ Aside0 (spec_TakeNum.j1 kq l0 a1 x6_1 x7_1 x23_3 = some (r1, r2)) ∧ Aside0 (kq ≤ k1) ∧ Drawn0 w wc)
    case first =>
     have H := HC4.out
     clear HC4
     by_cases c5 : a1 < 0
     ·rw [if_pos c5] at H
      have c5b0 : decide (a1 < 0) = true := decide_eq_true c5
      clear c5
      (first | rw [c5b0] | (simp only [i64_w, i32_w]; rw [c5b0]) | skip)
      have H' := Aside0.mk H
      clear H
      go_wp2
      go_meet
      case rel => exact ⟨_, (true), rF, H', ⟨by have := HK1.out; first | omega | exact Nat.le_refl _⟩, by repeat (first | exact Drawn0.refl _ | apply Drawn0.step)⟩
     ·rw [if_neg c5] at H
      have c5b0 : decide (a1 < 0) = false := decide_eq_false c5
      clear c5
      (first | rw [c5b0] | (simp only [i64_w, i32_w]; rw [c5b0]) | skip)
      have H' := Aside0.mk H
      clear H
      go_wp2
      go_meet
      case rel => exact ⟨_, (decide (a1 ≥ (wrap64 ((l0.length : Int) - x7_1)))), rF, H', ⟨by have := HK1.out; first | omega | exact Nat.le_refl _⟩, by repeat (first | exact Drawn0.refl _ | apply Drawn0.step)⟩
    case rest =>
     clear HC4
     try clear p2
     try clear c3
     try clear c3b0
     try clear c5
     try clear c5b0
     try clear p2
     obtain ⟨kq, x23_3, rfl, HA, HJ3, ⟨mc3, rfl⟩⟩ := hcut
     cases kq with
     | zero => exact absurd HA.out (by simp [spec_TakeNum.j1])
     | succ kj3 =>
      have H := HA.out
      clear HA
      simp only [spec_TakeNum.j1] at H
      by_cases c6 : x23_3 = true
      ·subst c6
       have H1 : (some (0, (-1))) = some (r1, r2) := by rw [if_pos rfl] at H; exact H
       clear H
       have H := H1
       clear H1
       simp only [Option.some.injEq, Prod.mk.injEq] at H
       obtain ⟨rfl, rfl⟩ := H
       go_wp2
       go_ret2
       exact ⟨rF, by repeat (first | exact Drawn0.refl _ | apply Drawn0.step)⟩
      ·replace c6 := Bool.eq_false_iff.mpr c6
       subst c6
       have H1 : (if 0 ≤ (wrap64 (a1 + x7_1)) then (if (wrap64 (a1 + x7_1)) < (l0.length : Int) then (if 0 ≤ (IntKind.u64.wrap (wrap64 (7 * x7_1))) then (if (wrap64 (rd l0 (wrap64 (a1 + x7_1)))) ≥ 128 then (spec_TakeNum.l0 kj3 l0 a1 (wrap64 (x6_1 + (shl .i64 (Int.tmod (wrap64 (rd l0 (wrap64 (a1 + x7_1)))) 128) (IntKind.u64.wrap (wrap64 (7 * x7_1)))))) (wrap64 (x7_1 + 1))) else (if (Int.tmod (wrap64 (x6_1 + (shl .i64 (Int.tmod (wrap64 (rd l0 (wrap64 (a1 + x7_1)))) 128) (IntKind.u64.wrap (wrap64 (7 * x7_1)))))) 2) = 1 then (if (wrap64 (rd l0 (wrap64 (a1 + x7_1)))) = 0 then (if x7_1 > 0 then (some (0, (-1))) else ((spec_l01Number.f (wrap64 (Int.tdiv (wrap64 (-(wrap64 ((wrap64 (x6_1 + (shl .i64 (Int.tmod (wrap64 (rd l0 (wrap64 (a1 + x7_1)))) 128) (IntKind.u64.wrap (wrap64 (7 * x7_1)))))) + 1)))) 2))).bind fun t143 => (if t143 = true then (some (wrap64 (Int.tdiv (wrap64 (-(wrap64 ((wrap64 (x6_1 + (shl .i64 (Int.tmod (wrap64 (rd l0 (wrap64 (a1 + x7_1)))) 128) (IntKind.u64.wrap (wrap64 (7 * x7_1)))))) + 1)))) 2), wrap64 ((wrap64 (a1 + x7_1)) + 1))) else (some (0, (-1)))))) else ((spec_l01Number.f (wrap64 (Int.tdiv (wrap64 (-(wrap64 ((wrap64 (x6_1 + (shl .i64 (Int.tmod (wrap64 (rd l0 (wrap64 (a1 + x7_1)))) 128) (IntKind.u64.wrap (wrap64 (7 * x7_1)))))) + 1)))) 2))).bind fun t144 => (if t144 = true then (some (wrap64 (Int.tdiv (wrap64 (-(wrap64 ((wrap64 (x6_1 + (shl .i64 (Int.tmod (wrap64 (rd l0 (wrap64 (a1 + x7_1)))) 128) (IntKind.u64.wrap (wrap64 (7 * x7_1)))))) + 1)))) 2), wrap64 ((wrap64 (a1 + x7_1)) + 1))) else (some (0, (-1)))))) else (if (wrap64 (rd l0 (wrap64 (a1 + x7_1)))) = 0 then (if x7_1 > 0 then (some (0, (-1))) else ((spec_l01Number.f (wrap64 (Int.tdiv (wrap64 (x6_1 + (shl .i64 (Int.tmod (wrap64 (rd l0 (wrap64 (a1 + x7_1)))) 128) (IntKind.u64.wrap (wrap64 (7 * x7_1)))))) 2))).bind fun t145 => (if t145 = true then (some (wrap64 (Int.tdiv (wrap64 (x6_1 + (shl .i64 (Int.tmod (wrap64 (rd l0 (wrap64 (a1 + x7_1)))) 128) (IntKind.u64.wrap (wrap64 (7 * x7_1)))))) 2), wrap64 ((wrap64 (a1 + x7_1)) + 1))) else (some (0, (-1)))))) else ((spec_l01Number.f (wrap64 (Int.tdiv (wrap64 (x6_1 + (shl .i64 (Int.tmod (wrap64 (rd l0 (wrap64 (a1 + x7_1)))) 128) (IntKind.u64.wrap (wrap64 (7 * x7_1)))))) 2))).bind fun t146 => (if t146 = true then (some (wrap64 (Int.tdiv (wrap64 (x6_1 + (shl .i64 (Int.tmod (wrap64 (rd l0 (wrap64 (a1 + x7_1)))) 128) (IntKind.u64.wrap (wrap64 (7 * x7_1)))))) 2), wrap64 ((wrap64 (a1 + x7_1)) + 1))) else (some (0, (-1)))))))) else (none)) else (none)) else (none)) = some (r1, r2) := by rw [if_neg (show ¬ (false = true) by decide)] at H; exact H
       clear H
       have H := H1
       clear H1
       obtain ⟨ji7, hji7⟩ : ∃ j_ : Int, (wrap64 (a1 + x7_1)) = j_ := ⟨_, rfl⟩
       replace H : (if 0 ≤ (ji7) then (if (ji7) < (l0.length : Int) then (if 0 ≤ (IntKind.u64.wrap (wrap64 (7 * x7_1))) then (if (wrap64 (rd l0 (ji7))) ≥ 128 then (spec_TakeNum.l0 kj3 l0 a1 (wrap64 (x6_1 + (shl .i64 (Int.tmod (wrap64 (rd l0 (ji7))) 128) (IntKind.u64.wrap (wrap64 (7 * x7_1)))))) (wrap64 (x7_1 + 1))) else (if (Int.tmod (wrap64 (x6_1 + (shl .i64 (Int.tmod (wrap64 (rd l0 (ji7))) 128) (IntKind.u64.wrap (wrap64 (7 * x7_1)))))) 2) = 1 then (if (wrap64 (rd l0 (ji7))) = 0 then (if x7_1 > 0 then (some (0, (-1))) else ((spec_l01Number.f (wrap64 (Int.tdiv (wrap64 (-(wrap64 ((wrap64 (x6_1 + (shl .i64 (Int.tmod (wrap64 (rd l0 (ji7))) 128) (IntKind.u64.wrap (wrap64 (7 * x7_1)))))) + 1)))) 2))).bind fun t143 => (if t143 = true then (some (wrap64 (Int.tdiv (wrap64 (-(wrap64 ((wrap64 (x6_1 + (shl .i64 (Int.tmod (wrap64 (rd l0 (ji7))) 128) (IntKind.u64.wrap (wrap64 (7 * x7_1)))))) + 1)))) 2), wrap64 ((ji7) + 1))) else (some (0, (-1)))))) else ((spec_l01Number.f (wrap64 (Int.tdiv (wrap64 (-(wrap64 ((wrap64 (x6_1 + (shl .i64 (Int.tmod (wrap64 (rd l0 (ji7))) 128) (IntKind.u64.wrap (wrap64 (7 * x7_1)))))) + 1)))) 2))).bind fun t144 => (if t144 = true then (some (wrap64 (Int.tdiv (wrap64 (-(wrap64 ((wrap64 (x6_1 + (shl .i64 (Int.tmod (wrap64 (rd l0 (ji7))) 128) (IntKind.u64.wrap (wrap64 (7 * x7_1)))))) + 1)))) 2), wrap64 ((ji7) + 1))) else (some (0, (-1)))))) else (if (wrap64 (rd l0 (ji7))) = 0 then (if x7_1 > 0 then (some (0, (-1))) else ((spec_l01Number.f (wrap64 (Int.tdiv (wrap64 (x6_1 + (shl .i64 (Int.tmod (wrap64 (rd l0 (ji7))) 128) (IntKind.u64.wrap (wrap64 (7 * x7_1)))))) 2))).bind fun t145 => (if t145 = true then (some (wrap64 (Int.tdiv (wrap64 (x6_1 + (shl .i64 (Int.tmod (wrap64 (rd l0 (ji7))) 128) (IntKind.u64.wrap (wrap64 (7 * x7_1)))))) 2), wrap64 ((ji7) + 1))) else (some (0, (-1)))))) else ((spec_l01Number.f (wrap64 (Int.tdiv (wrap64 (x6_1 + (shl .i64 (Int.tmod (wrap64 (rd l0 (ji7))) 128) (IntKind.u64.wrap (wrap64 (7 * x7_1)))))) 2))).bind fun t146 => (if t146 = true then (some (wrap64 (Int.tdiv (wrap64 (x6_1 + (shl .i64 (Int.tmod (wrap64 (rd l0 (ji7))) 128) (IntKind.u64.wrap (wrap64 (7 * x7_1)))))) 2), wrap64 ((ji7) + 1))) else (some (0, (-1)))))))) else (none)) else (none)) else (none)) = some (r1, r2) := by first | (rw [hji7] at H; exact H) | (simp only [hji7] at H ⊢; exact H)
       have hji7w : (IntKind.i64.wrap (a1 + x7_1)) = ji7 := (i64_w _).trans hji7
       by_cases c8 : 0 ≤ (ji7)
       ·rw [if_pos c8] at H
        have c8b0 : decide (0 ≤ (ji7)) = true := decide_eq_true c8
        clear c8
        by_cases c9 : (ji7) < (l0.length : Int)
        ·rw [if_pos c9] at H
         have c9b0 : decide ((ji7) < (l0.length : Int)) = true := decide_eq_true c9
         clear c9
         obtain ⟨ji10, hji10⟩ : ∃ j_ : Int, (IntKind.u64.wrap (wrap64 (7 * x7_1))) = j_ := ⟨_, rfl⟩
         replace H : (if 0 ≤ (ji10) then (if (wrap64 (rd l0 (ji7))) ≥ 128 then (spec_TakeNum.l0 kj3 l0 a1 (wrap64 (x6_1 + (shl .i64 (Int.tmod (wrap64 (rd l0 (ji7))) 128) (ji10)))) (wrap64 (x7_1 + 1))) else (if (Int.tmod (wrap64 (x6_1 + (shl .i64 (Int.tmod (wrap64 (rd l0 (ji7))) 128) (ji10)))) 2) = 1 then (if (wrap64 (rd l0 (ji7))) = 0 then (if x7_1 > 0 then (some (0, (-1))) else ((spec_l01Number.f (wrap64 (Int.tdiv (wrap64 (-(wrap64 ((wrap64 (x6_1 + (shl .i64 (Int.tmod (wrap64 (rd l0 (ji7))) 128) (ji10)))) + 1)))) 2))).bind fun t143 => (if t143 = true then (some (wrap64 (Int.tdiv (wrap64 (-(wrap64 ((wrap64 (x6_1 + (shl .i64 (Int.tmod (wrap64 (rd l0 (ji7))) 128) (ji10)))) + 1)))) 2), wrap64 ((ji7) + 1))) else (some (0, (-1)))))) else ((spec_l01Number.f (wrap64 (Int.tdiv (wrap64 (-(wrap64 ((wrap64 (x6_1 + (shl .i64 (Int.tmod (wrap64 (rd l0 (ji7))) 128) (ji10)))) + 1)))) 2))).bind fun t144 => (if t144 = true then (some (wrap64 (Int.tdiv (wrap64 (-(wrap64 ((wrap64 (x6_1 + (shl .i64 (Int.tmod (wrap64 (rd l0 (ji7))) 128) (ji10)))) + 1)))) 2), wrap64 ((ji7) + 1))) else (some (0, (-1)))))) else (if (wrap64 (rd l0 (ji7))) = 0 then (if x7_1 > 0 then (some (0, (-1))) else ((spec_l01Number.f (wrap64 (Int.tdiv (wrap64 (x6_1 + (shl .i64 (Int.tmod (wrap64 (rd l0 (ji7))) 128) (ji10)))) 2))).bind fun t145 => (if t145 = true then (some (wrap64 (Int.tdiv (wrap64 (x6_1 + (shl .i64 (Int.tmod (wrap64 (rd l0 (ji7))) 128) (ji10)))) 2), wrap64 ((ji7) + 1))) else (some (0, (-1)))))) else ((spec_l01Number.f (wrap64 (Int.tdiv (wrap64 (x6_1 + (shl .i64 (Int.tmod (wrap64 (rd l0 (ji7))) 128) (ji10)))) 2))).bind fun t146 => (if t146 = true then (some (wrap64 (Int.tdiv (wrap64 (x6_1 + (shl .i64 (Int.tmod (wrap64 (rd l0 (ji7))) 128) (ji10)))) 2), wrap64 ((ji7) + 1))) else (some (0, (-1)))))))) else (none)) = some (r1, r2) := by first | (rw [hji10] at H; exact H) | (simp only [hji10] at H ⊢; exact H)
         by_cases c11 : 0 ≤ (ji10)
         ·rw [if_pos c11] at H
          have c11b0 := eq_true c11
          have c11b1 : decide (0 ≤ (ji10)) = true := decide_eq_true c11
          clear c11
          obtain ⟨ji12, hji12⟩ : ∃ j_ : Int, (shl .i64 (Int.tmod (wrap64 (rd l0 (ji7))) 128) (ji10)) = j_ := ⟨_, rfl⟩
          replace H : (if (wrap64 (rd l0 (ji7))) ≥ 128 then (spec_TakeNum.l0 kj3 l0 a1 (wrap64 (x6_1 + (ji12))) (wrap64 (x7_1 + 1))) else (if (Int.tmod (wrap64 (x6_1 + (ji12))) 2) = 1 then (if (wrap64 (rd l0 (ji7))) = 0 then (if x7_1 > 0 then (some (0, (-1))) else ((spec_l01Number.f (wrap64 (Int.tdiv (wrap64 (-(wrap64 ((wrap64 (x6_1 + (ji12))) + 1)))) 2))).bind fun t143 => (if t143 = true then (some (wrap64 (Int.tdiv (wrap64 (-(wrap64 ((wrap64 (x6_1 + (ji12))) + 1)))) 2), wrap64 ((ji7) + 1))) else (some (0, (-1)))))) else ((spec_l01Number.f (wrap64 (Int.tdiv (wrap64 (-(wrap64 ((wrap64 (x6_1 + (ji12))) + 1)))) 2))).bind fun t144 => (if t144 = true then (some (wrap64 (Int.tdiv (wrap64 (-(wrap64 ((wrap64 (x6_1 + (ji12))) + 1)))) 2), wrap64 ((ji7) + 1))) else (some (0, (-1)))))) else (if (wrap64 (rd l0 (ji7))) = 0 then (if x7_1 > 0 then (some (0, (-1))) else ((spec_l01Number.f (wrap64 (Int.tdiv (wrap64 (x6_1 + (ji12))) 2))).bind fun t145 => (if t145 = true then (some (wrap64 (Int.tdiv (wrap64 (x6_1 + (ji12))) 2), wrap64 ((ji7) + 1))) else (some (0, (-1)))))) else ((spec_l01Number.f (wrap64 (Int.tdiv (wrap64 (x6_1 + (ji12))) 2))).bind fun t146 => (if t146 = true then (some (wrap64 (Int.tdiv (wrap64 (x6_1 + (ji12))) 2), wrap64 ((ji7) + 1))) else (some (0, (-1)))))))) = some (r1, r2) := by first | (rw [hji12] at H; exact H) | (simp only [hji12] at H ⊢; exact H)
          have hji12_ : (IntKind.i64.wrap ((Int.tmod (wrap64 (rd l0 (ji7))) 128) * 2 ^ min (ji10).toNat 64)) = ji12 := hji12
          have hji12z : (ji10) ≤ 64 → (IntKind.i64.wrap ((Int.tmod (wrap64 (rd l0 (ji7))) 128) * 2 ^ (ji10).toNat)) = ji12 := shl_small hji12
          have hji12y : (wrap64 ((Int.tmod (wrap64 (rd l0 (ji7))) 128) * 2 ^ min (ji10).toNat 64)) = ji12 := (i64_w _).symm.trans hji12_
          have hji12x : (ji10) ≤ 64 → (wrap64 ((Int.tmod (wrap64 (rd l0 (ji7))) 128) * 2 ^ (ji10).toNat)) = ji12 := fun h_ => (i64_w _).symm.trans (hji12z h_)
          by_cases c13 : (wrap64 (rd l0 (ji7))) ≥ 128
          ·rw [if_pos c13] at H
           have c13b0 : decide (128 ≤ (wrap64 (rd l0 (ji7)))) = true := decide_eq_true c13
           clear c13
           have H' := Aside0.mk H
           clear H
           have p142 : 0 ≤ ((ji7) : Int) := of_decide_eq_true (by assumption)
           have q142 : (ji7) < (l0.length : Int) := of_decide_eq_true (by assumption)
           obtain ⟨ad142, e142, hx142_0⟩ := Kd.at_int HR0.out (ji7) p142 q142
           cases e142
           replace p142 := eq_true p142
           replace q142 := eq_true q142
           go_wp2
           go_roundg kj3
           case measure => have := HK1.out; have := HJ3.out; omega
           case rel => exact ⟨(wrap64 (x6_1 + (ji12))), (wrap64 (x7_1 + 1)), (by first | rfl | (simp; done) | (simp only [← hji12] <;> (first | rfl | simp)) | (simp [*]; done)), rF, H', ⟨by have := HK1.out; have := HJ3.out; omega⟩, by repeat (first | exact Drawn0.refl _ | apply Drawn0.step)⟩
          ·rw [if_neg c13] at H
           have c13b0 : decide (128 ≤ (wrap64 (rd l0 (ji7)))) = false := decide_eq_false c13
           clear c13
           by_cases c14 : (Int.tmod (wrap64 (x6_1 + (ji12))) 2) = 1
           ·rw [if_pos c14] at H
            have c14b0 : ((Int.tmod (wrap64 (x6_1 + (ji12))) 2) == 1) = true := beq_iff_eq.mpr c14
            have c14b1 : ((Int.tmod (wrap64 (x6_1 + (ji12))) 2) != 1) = false := bne_eq_false_iff_eq.mpr c14
            clear c14
            by_cases c15 : (wrap64 (rd l0 (ji7))) = 0
            ·rw [if_pos c15] at H
             have c15b0 : ((wrap64 (rd l0 (ji7))) == 0) = true := beq_iff_eq.mpr c15
             have c15b1 : ((wrap64 (rd l0 (ji7))) != 0) = false := bne_eq_false_iff_eq.mpr c15
             clear c15
             by_cases c16 : x7_1 > 0
             ·rw [if_pos c16] at H
              have c16b0 : decide (0 < x7_1) = true := decide_eq_true c16
              clear c16
              simp only [Option.some.injEq, Prod.mk.injEq] at H
              obtain ⟨rfl, rfl⟩ := H
              have p142 : 0 ≤ ((ji7) : Int) := of_decide_eq_true (by assumption)
              have q142 : (ji7) < (l0.length : Int) := of_decide_eq_true (by assumption)
              obtain ⟨ad142, e142, hx142_0⟩ := Kd.at_int HR0.out (ji7) p142 q142
              cases e142
              replace p142 := eq_true p142
              replace q142 := eq_true q142
              go_wp2
              go_ret2
              exact ⟨by first | rfl | (simp; done) | (simp only [← hji7, ← hji10, ← hji12] <;> (first | rfl | simp)) | (simp [*]; done), by repeat (first | exact Drawn0.refl _ | apply Drawn0.step)⟩
             ·rw [if_neg c16] at H
              have c16b0 : decide (0 < x7_1) = false := decide_eq_false c16
              clear c16
              replace H := Option.bind_eq_some_iff.mp H
              obtain ⟨t143, A170, H⟩ := H
              replace H : (if t143 = true then (some (wrap64 (Int.tdiv (wrap64 (-(wrap64 ((wrap64 (x6_1 + (ji12))) + 1)))) 2), wrap64 ((ji7) + 1))) else (some (0, (-1)))) = some (r1, r2) := H
              have A17 := Aside0.mk A170
              clear A170
              by_cases c18 : t143 = true
              ·subst c18
               have H1 : (some (wrap64 (Int.tdiv (wrap64 (-(wrap64 ((wrap64 (x6_1 + (ji12))) + 1)))) 2), wrap64 ((ji7) + 1))) = some (r1, r2) := by rw [if_pos rfl] at H; exact H
               clear H
               have H := H1
               clear H1
               simp only [Option.some.injEq, Prod.mk.injEq] at H
               obtain ⟨rfl, rfl⟩ := H
               have p142 : 0 ≤ ((ji7) : Int) := of_decide_eq_true (by assumption)
               have q142 : (ji7) < (l0.length : Int) := of_decide_eq_true (by assumption)
               obtain ⟨ad142, e142, hx142_0⟩ := Kd.at_int HR0.out (ji7) p142 q142
               cases e142
               replace p142 := eq_true p142
               replace q142 := eq_true q142
               go_wp2_with (first | (go_at_call 93; (with_reducible refine (spec_l01Number.calls (wrap64 (Int.tdiv (wrap64 (-(wrap64 ((wrap64 (x6_1 + (ji12))) + 1)))) 2)) true _ A17.out).mono ?_); rintro e w' ⟨rfl, ⟨nd, rfl⟩⟩))
               go_ret2
               exact ⟨by first | rfl | (simp; done) | (simp only [← hji7, ← hji10, ← hji12] <;> (first | rfl | simp)) | (simp [*]; done), by repeat (first | exact Drawn0.refl _ | apply Drawn0.step)⟩
              ·replace c18 := Bool.eq_false_iff.mpr c18
               subst c18
               have H1 : (some (0, (-1))) = some (r1, r2) := by rw [if_neg (show ¬ (false = true) by decide)] at H; exact H
               clear H
               have H := H1
               clear H1
               simp only [Option.some.injEq, Prod.mk.injEq] at H
               obtain ⟨rfl, rfl⟩ := H
               have p142 : 0 ≤ ((ji7) : Int) := of_decide_eq_true (by assumption)
               have q142 : (ji7) < (l0.length : Int) := of_decide_eq_true (by assumption)
               obtain ⟨ad142, e142, hx142_0⟩ := Kd.at_int HR0.out (ji7) p142 q142
               cases e142
               replace p142 := eq_true p142
               replace q142 := eq_true q142
               go_wp2_with (first | (go_at_call 93; (with_reducible refine (spec_l01Number.calls (wrap64 (Int.tdiv (wrap64 (-(wrap64 ((wrap64 (x6_1 + (ji12))) + 1)))) 2)) false _ A17.out).mono ?_); rintro e w' ⟨rfl, ⟨nd, rfl⟩⟩))
               go_ret2
               exact ⟨by first | rfl | (simp; done) | (simp only [← hji7, ← hji10, ← hji12] <;> (first | rfl | simp)) | (simp [*]; done), by repeat (first | exact Drawn0.refl _ | apply Drawn0.step)⟩
            ·rw [if_neg c15] at H
             have c15b0 : ((wrap64 (rd l0 (ji7))) == 0) = false := beq_eq_false_iff_ne.mpr c15
             have c15b1 : ((wrap64 (rd l0 (ji7))) != 0) = true := bne_iff_ne.mpr c15
             replace H := Option.bind_eq_some_iff.mp H
             obtain ⟨t144, A190, H⟩ := H
             replace H : (if t144 = true then (some (wrap64 (Int.tdiv (wrap64 (-(wrap64 ((wrap64 (x6_1 + (ji12))) + 1)))) 2), wrap64 ((ji7) + 1))) else (some (0, (-1)))) = some (r1, r2) := H
             have A19 := Aside0.mk A190
             clear A190
             by_cases c20 : t144 = true
             ·subst c20
              have H1 : (some (wrap64 (Int.tdiv (wrap64 (-(wrap64 ((wrap64 (x6_1 + (ji12))) + 1)))) 2), wrap64 ((ji7) + 1))) = some (r1, r2) := by rw [if_pos rfl] at H; exact H
              clear H
              have H := H1
              clear H1
              simp only [Option.some.injEq, Prod.mk.injEq] at H
              obtain ⟨rfl, rfl⟩ := H
              have p142 : 0 ≤ ((ji7) : Int) := of_decide_eq_true (by assumption)
              have q142 : (ji7) < (l0.length : Int) := of_decide_eq_true (by assumption)
              obtain ⟨ad142, e142, hx142_0⟩ := Kd.at_int HR0.out (ji7) p142 q142
              cases e142
              replace p142 := eq_true p142
              replace q142 := eq_true q142
              go_wp2_with (first | (go_at_call 93; (with_reducible refine (spec_l01Number.calls (wrap64 (Int.tdiv (wrap64 (-(wrap64 ((wrap64 (x6_1 + (ji12))) + 1)))) 2)) true _ A19.out).mono ?_); rintro e w' ⟨rfl, ⟨nd, rfl⟩⟩))
              go_ret2
              exact ⟨by first | rfl | (simp; done) | (simp only [← hji7, ← hji10, ← hji12] <;> (first | rfl | simp)) | (simp [*]; done), by repeat (first | exact Drawn0.refl _ | apply Drawn0.step)⟩
             ·replace c20 := Bool.eq_false_iff.mpr c20
              subst c20
              have H1 : (some (0, (-1))) = some (r1, r2) := by rw [if_neg (show ¬ (false = true) by decide)] at H; exact H
              clear H
              have H := H1
              clear H1
              simp only [Option.some.injEq, Prod.mk.injEq] at H
              obtain ⟨rfl, rfl⟩ := H
              have p142 : 0 ≤ ((ji7) : Int) := of_decide_eq_true (by assumption)
              have q142 : (ji7) < (l0.length : Int) := of_decide_eq_true (by assumption)
              obtain ⟨ad142, e142, hx142_0⟩ := Kd.at_int HR0.out (ji7) p142 q142
              cases e142
              replace p142 := eq_true p142
              replace q142 := eq_true q142
              go_wp2_with (first | (go_at_call 93; (with_reducible refine (spec_l01Number.calls (wrap64 (Int.tdiv (wrap64 (-(wrap64 ((wrap64 (x6_1 + (ji12))) + 1)))) 2)) false _ A19.out).mono ?_); rintro e w' ⟨rfl, ⟨nd, rfl⟩⟩))
              go_ret2
              exact ⟨by first | rfl | (simp; done) | (simp only [← hji7, ← hji10, ← hji12] <;> (first | rfl | simp)) | (simp [*]; done), by repeat (first | exact Drawn0.refl _ | apply Drawn0.step)⟩
           ·rw [if_neg c14] at H
            have c14b0 : ((Int.tmod (wrap64 (x6_1 + (ji12))) 2) == 1) = false := beq_eq_false_iff_ne.mpr c14
            have c14b1 : ((Int.tmod (wrap64 (x6_1 + (ji12))) 2) != 1) = true := bne_iff_ne.mpr c14
            by_cases c21 : (wrap64 (rd l0 (ji7))) = 0
            ·rw [if_pos c21] at H
             have c21b0 : ((wrap64 (rd l0 (ji7))) == 0) = true := beq_iff_eq.mpr c21
             have c21b1 : ((wrap64 (rd l0 (ji7))) != 0) = false := bne_eq_false_iff_eq.mpr c21
             clear c21
             by_cases c22 : x7_1 > 0
             ·rw [if_pos c22] at H
              have c22b0 : decide (0 < x7_1) = true := decide_eq_true c22
              clear c22
              simp only [Option.some.injEq, Prod.mk.injEq] at H
              obtain ⟨rfl, rfl⟩ := H
              have p142 : 0 ≤ ((ji7) : Int) := of_decide_eq_true (by assumption)
              have q142 : (ji7) < (l0.length : Int) := of_decide_eq_true (by assumption)
              obtain ⟨ad142, e142, hx142_0⟩ := Kd.at_int HR0.out (ji7) p142 q142
              cases e142
              replace p142 := eq_true p142
              replace q142 := eq_true q142
              go_wp2
              go_ret2
              exact ⟨by first | rfl | (simp; done) | (simp only [← hji7, ← hji10, ← hji12] <;> (first | rfl | simp)) | (simp [*]; done), by repeat (first | exact Drawn0.refl _ | apply Drawn0.step)⟩
             ·rw [if_neg c22] at H
              have c22b0 : decide (0 < x7_1) = false := decide_eq_false c22
              clear c22
              replace H := Option.bind_eq_some_iff.mp H
              obtain ⟨t145, A230, H⟩ := H
              replace H : (if t145 = true then (some (wrap64 (Int.tdiv (wrap64 (x6_1 + (ji12))) 2), wrap64 ((ji7) + 1))) else (some (0, (-1)))) = some (r1, r2) := H
              have A23 := Aside0.mk A230
              clear A230
              by_cases c24 : t145 = true
              ·subst c24
               have H1 : (some (wrap64 (Int.tdiv (wrap64 (x6_1 + (ji12))) 2), wrap64 ((ji7) + 1))) = some (r1, r2) := by rw [if_pos rfl] at H; exact H
               clear H
               have H := H1
               clear H1
               simp only [Option.some.injEq, Prod.mk.injEq] at H
               obtain ⟨rfl, rfl⟩ := H
               have p142 : 0 ≤ ((ji7) : Int) := of_decide_eq_true (by assumption)
               have q142 : (ji7) < (l0.length : Int) := of_decide_eq_true (by assumption)
               obtain ⟨ad142, e142, hx142_0⟩ := Kd.at_int HR0.out (ji7) p142 q142
               cases e142
               replace p142 := eq_true p142
               replace q142 := eq_true q142
               go_wp2_with (first | (go_at_call 93; (with_reducible refine (spec_l01Number.calls (wrap64 (Int.tdiv (wrap64 (x6_1 + (ji12))) 2)) true _ A23.out).mono ?_); rintro e w' ⟨rfl, ⟨nd, rfl⟩⟩))
               go_ret2
               exact ⟨by first | rfl | (simp; done) | (simp only [← hji7, ← hji10, ← hji12] <;> (first | rfl | simp)) | (simp [*]; done), by repeat (first | exact Drawn0.refl _ | apply Drawn0.step)⟩
              ·replace c24 := Bool.eq_false_iff.mpr c24
               subst c24
               have H1 : (some (0, (-1))) = some (r1, r2) := by rw [if_neg (show ¬ (false = true) by decide)] at H; exact H
               clear H
               have H := H1
               clear H1
               simp only [Option.some.injEq, Prod.mk.injEq] at H
               obtain ⟨rfl, rfl⟩ := H
               have p142 : 0 ≤ ((ji7) : Int) := of_decide_eq_true (by assumption)
               have q142 : (ji7) < (l0.length : Int) := of_decide_eq_true (by assumption)
               obtain ⟨ad142, e142, hx142_0⟩ := Kd.at_int HR0.out (ji7) p142 q142
               cases e142
               replace p142 := eq_true p142
               replace q142 := eq_true q142
               go_wp2_with (first | (go_at_call 93; (with_reducible refine (spec_l01Number.calls (wrap64 (Int.tdiv (wrap64 (x6_1 + (ji12))) 2)) false _ A23.out).mono ?_); rintro e w' ⟨rfl, ⟨nd, rfl⟩⟩))
               go_ret2
               exact ⟨by first | rfl | (simp; done) | (simp only [← hji7, ← hji10, ← hji12] <;> (first | rfl | simp)) | (simp [*]; done), by repeat (first | exact Drawn0.refl _ | apply Drawn0.step)⟩
            ·rw [if_neg c21] at H
             have c21b0 : ((wrap64 (rd l0 (ji7))) == 0) = false := beq_eq_false_iff_ne.mpr c21
             have c21b1 : ((wrap64 (rd l0 (ji7))) != 0) = true := bne_iff_ne.mpr c21
             replace H := Option.bind_eq_some_iff.mp H
             obtain ⟨t146, A250, H⟩ := H
             replace H : (if t146 = true then (some (wrap64 (Int.tdiv (wrap64 (x6_1 + (ji12))) 2), wrap64 ((ji7) + 1))) else (some (0, (-1)))) = some (r1, r2) := H
             have A25 := Aside0.mk A250
             clear A250
             by_cases c26 : t146 = true
             ·subst c26
              have H1 : (some (wrap64 (Int.tdiv (wrap64 (x6_1 + (ji12))) 2), wrap64 ((ji7) + 1))) = some (r1, r2) := by rw [if_pos rfl] at H; exact H
              clear H
              have H := H1
              clear H1
              simp only [Option.some.injEq, Prod.mk.injEq] at H
              obtain ⟨rfl, rfl⟩ := H
              have p142 : 0 ≤ ((ji7) : Int) := of_decide_eq_true (by assumption)
              have q142 : (ji7) < (l0.length : Int) := of_decide_eq_true (by assumption)
              obtain ⟨ad142, e142, hx142_0⟩ := Kd.at_int HR0.out (ji7) p142 q142
              cases e142
              replace p142 := eq_true p142
              replace q142 := eq_true q142
              go_wp2_with (first | (go_at_call 93; (with_reducible refine (spec_l01Number.calls (wrap64 (Int.tdiv (wrap64 (x6_1 + (ji12))) 2)) true _ A25.out).mono ?_); rintro e w' ⟨rfl, ⟨nd, rfl⟩⟩))
              go_ret2
              exact ⟨by first | rfl | (simp; done) | (simp only [← hji7, ← hji10, ← hji12] <;> (first | rfl | simp)) | (simp [*]; done), by repeat (first | exact Drawn0.refl _ | apply Drawn0.step)⟩
             ·replace c26 := Bool.eq_false_iff.mpr c26
              subst c26
              have H1 : (some (0, (-1))) = some (r1, r2) := by rw [if_neg (show ¬ (false = true) by decide)] at H; exact H
              clear H
              have H := H1
              clear H1
              simp only [Option.some.injEq, Prod.mk.injEq] at H
              obtain ⟨rfl, rfl⟩ := H
              have p142 : 0 ≤ ((ji7) : Int) := of_decide_eq_true (by assumption)
              have q142 : (ji7) < (l0.length : Int) := of_decide_eq_true (by assumption)
              obtain ⟨ad142, e142, hx142_0⟩ := Kd.at_int HR0.out (ji7) p142 q142
              cases e142
              replace p142 := eq_true p142
              replace q142 := eq_true q142
              go_wp2_with (first | (go_at_call 93; (with_reducible refine (spec_l01Number.calls (wrap64 (Int.tdiv (wrap64 (x6_1 + (ji12))) 2)) false _ A25.out).mono ?_); rintro e w' ⟨rfl, ⟨nd, rfl⟩⟩))
              go_ret2
              exact ⟨by first | rfl | (simp; done) | (simp only [← hji7, ← hji10, ← hji12] <;> (first | rfl | simp)) | (simp [*]; done), by repeat (first | exact Drawn0.refl _ | apply Drawn0.step)⟩
         ·rw [if_neg c11] at H
          exact absurd H (by simp)
        ·rw [if_neg c9] at H
         exact absurd H (by simp)
       ·rw [if_neg c8] at H
        exact absurd H (by simp)
   ·rw [if_neg c3] at H
    have c3b0 : decide (x7_1 < 4) = false := decide_eq_false c3
    clear c3
    simp only [Option.some.injEq, Prod.mk.injEq] at H
    obtain ⟨rfl, rfl⟩ := H
    go_wp2
    go_ret2
    exact ⟨rF, by repeat (first | exact Drawn0.refl _ | apply Drawn0.step)⟩

/-! ### spec_l01Bytes: function 92 -/
def spec_l01Bytes.l0 : Nat → List Int → List Int → Int → Option (List Int)
 | 0, _, _, _ => none
 | k + 1, x0, x3, x4 => if x4 < (x0.length : Int) then (if 0 ≤ x4 then (if x3.length < 140737488355328 then (spec_l01Bytes.l0 k x0 (x3 ++ [rd x0 x4]) (wrap64 (x4 + 1))) else (none)) else (none)) else (some x3)
def spec_l01Bytes.f (k : Nat) (l0 : List Int) : Option (List Int) := spec_l01Bytes.l0 k l0 (([] : List Int)) 0
theorem spec_l01Bytes.mono_l : ∀ k, (∀ y0 y1 y2, LeO (spec_l01Bytes.l0 k y0 y1 y2) (spec_l01Bytes.l0 (k + 1) y0 y1 y2))
 | 0 => fun _ _ _ r h => by simp [spec_l01Bytes.l0] at h
 | k + 1 => by
  have ih0 := spec_l01Bytes.mono_l k
  ·intro y0 y1 y2
   unfold spec_l01Bytes.l0
   repeat' first
   | (with_reducible exact ih0 _ _ _)
   | (with_reducible exact LeO.refl _)
   | (with_reducible exact LeO.none _)
   | (with_reducible refine LeO.ite ?_ ?_)
   | (with_reducible refine LeO.bind ?_ (fun _ => ?_))
   | exact ih0 _ _ _
   | exact LeO.none _
   | refine LeO.ite ?_ ?_
   | refine LeO.bind ?_ (fun _ => ?_)
theorem spec_l01Bytes.mono : ∀ a0 k, LeO (spec_l01Bytes.f k a0) (spec_l01Bytes.f (k + 1) a0) := by
 intro a0 k
 have ih0 := spec_l01Bytes.mono_l k
 unfold spec_l01Bytes.f
 repeat' first
   | (with_reducible exact ih0 _ _ _)
   | (with_reducible exact LeO.refl _)
   | (with_reducible exact LeO.none _)
   | (with_reducible refine LeO.ite ?_ ?_)
   | (with_reducible refine LeO.bind ?_ (fun _ => ?_))
   | exact ih0 _ _ _
   | exact LeO.none _
   | refine LeO.ite ?_ ?_
   | refine LeO.bind ?_ (fun _ => ?_)
set_option maxHeartbeats 8000000 in
set_option maxRecDepth 100000 in
theorem spec_l01Bytes.calls (k : Nat) (A0 : Option Addr) (c0 : Nat) (l0 : List Int) (r : List Int) (w : World) (hr0 : Kd.C (Kd.int .u8) w A0 l0.length l0) (hc0 : l0.length ≤ c0) (h : spec_l01Bytes.f k l0 = some r) :
  Calls Try.prog 92 #[.slice A0 l0.length c0] w fun e w' => ∃ v0_ : Value, e = .returned (v0_) ∧ Kd.R (Kd.int .u8) 5 w' w.heap.size (fun _ => True) v0_ r ∧ Below w.heap.size w w' := by
 have HR0 := Aside0.mk hr0
 have HC0 := Aside0.mk hc0
 clear hr0 hc0
 have HB := Aside0.mk (Below.refl w.heap.size w)
 have H : (spec_l01Bytes.l0 k l0 (([] : List Int)) 0) = some r := h
 clear h
 obtain ⟨y147, hy147⟩ : ∃ y_ : List Int, y_ = (([] : List Int)) := ⟨_, rfl⟩
 replace H : (spec_l01Bytes.l0 k l0 y147 0) = some r := by first | (rw [hy147]; with_reducible exact H) | (have H2_ := (Option.bind_some _ _).symm.trans H; rw [hy147]; with_reducible exact H2_) | (have H2_ := (Option.bind_some _ _).symm.trans H; with_reducible exact H2_) | with_reducible exact H | (rw [hy147]; exact H) | exact H
 have Ny147 := Aside0.mk hy147
 clear hy147
 have H' := Aside0.mk H
 clear H
 go_enter Try.func92, Try.ntmps92
 go_wp2_with (first | ((with_reducible refine gate_dst (N := 5) rfl ?_); refine Kd.R_lit (Kd.int .u8) _ 5 ?hg (N := 5) ?hd (xs := ([] : List Int)) (inner := []) (ok := fun _ => True) (okp := fun _ => True) ?hr ?hp (fun _ hk => hk) trivial (Below.refl _ _) (Nat.le_refl _) (by simp) ?_; (case hd => rfl); (case hg => rfl); (case hr => first | (go_simp; done) | (go_simp; rfl)); (case hp => exact (Reps.none _ _)); intro v148 w2 ho3 hb hg_ hnew_; clear hg_ hnew_; (first | rw [← Ny147.out] at ho3 | (simp only [Int.reduceToNat] at ho3; rw [← Ny147.out] at ho3)); have n0_ := Aside0.mk (Kd.R_lower ho3 (below_size bA)); have n1_ := Aside0.mk (below_step bA hb); clear HB; have HO149 := n0_; have HB := n1_; clear n0_ n1_; clear hb ho3))
 go_loopg [3, 4] k (fun kq v3 v4 w' => ∃ (x3_1 : List Int) (x4_1 : Int), v4 = .int .i64 x4_1 ∧ Aside0 (spec_l01Bytes.l0 kq l0 x3_1 x4_1 = some r) ∧ Aside0 (kq ≤ k) ∧ Aside0 (Kd.R (Kd.int .u8) 5 w' w.heap.size (fun _ => True) v3 x3_1) ∧ Aside0 (Below w.heap.size w w'))
 case atStart => exact ⟨(y147), (0), rF, H', ⟨Nat.le_refl _⟩, ⟨by (with_reducible repeat (first | apply Kd.R_alloc | apply Kd.R_drewN | apply Kd.R_drew)); exact HO149.out⟩, ⟨bA⟩⟩
 case round =>
  clear H'
  try clear p2
  obtain ⟨x3_1, x4_1, rfl, HA, HK1, HO_3, HB⟩ := hrel
  cases gk with
  | zero => exact absurd HA.out (by simp [spec_l01Bytes.l0])
  | succ k1 =>
   have H := HA.out
   clear HA
   simp only [spec_l01Bytes.l0] at H
   by_cases c4 : x4_1 < (l0.length : Int)
   ·rw [if_pos c4] at H
    have c4b0 : decide (x4_1 < (l0.length : Int)) = true := decide_eq_true c4
    clear c4
    by_cases c5 : 0 ≤ x4_1
    ·rw [if_pos c5] at H
     have c5b0 : decide (0 ≤ x4_1) = true := decide_eq_true c5
     clear c5
     by_cases c6 : x3_1.length < 140737488355328
     ·rw [if_pos c6] at H
      have LMc6 := Aside0.mk c6
      clear c6
      obtain ⟨y151, hy151⟩ : ∃ y_ : List Int, y_ = (x3_1 ++ [rd l0 x4_1]) := ⟨_, rfl⟩
      replace H : (spec_l01Bytes.l0 k1 l0 y151 (wrap64 (x4_1 + 1))) = some r := by first | (rw [hy151]; with_reducible exact H) | (have H2_ := (Option.bind_some _ _).symm.trans H; rw [hy151]; with_reducible exact H2_) | (have H2_ := (Option.bind_some _ _).symm.trans H; with_reducible exact H2_) | with_reducible exact H | (rw [hy151]; exact H) | exact H
      have Ny151 := Aside0.mk hy151
      clear hy151
      have H' := Aside0.mk H
      clear H
      have p150 : 0 ≤ (x4_1 : Int) := of_decide_eq_true (by assumption)
      have q150 : x4_1 < (l0.length : Int) := of_decide_eq_true (by assumption)
      obtain ⟨ad150, e150, hx150_0⟩ := Kd.at_int HR0.out x4_1 p150 q150
      cases e150
      replace hx150_0 := hxB HB.out hx150_0
      replace p150 := eq_true p150
      replace q150 := eq_true q150
      go_wp2_with (first | ((with_reducible refine gate_builtin (b := .append) (xs := #[.tmp 12, .tmp 17]) rfl ?_); at_builtin; refine Kd.R_append (Kd.int .u8) (w0 := w) w.heap.size rfl (.tmp 12) (.tmp 17) 39 5 (.int .u8 0) 1 rfl Try.underlying39 info5 rfl (by decide) (by omega) u3 x3_1 (rd l0 x4_1) [.int .u8 (rd l0 x4_1)] (fun _ => True) (fun _ => False) rfl rfl ?aP (fun _ hk => hk.elim) ?aF ?aO ?aB ?aS ?aL ?_; (case aP => exact rfl); (case aB => exact bA); (case aF => exact (fun _ _ => trivial)); (case aO => exact (by (with_reducible repeat (first | apply Kd.R_alloc | apply Kd.R_drewN | apply Kd.R_drew)); exact HO_3.out)); (case aS => exact (below_size bA)); (case aL => have := LMc6.out; omega); intro v152 w7 ho hb hg hat; rw [← Ny151.out] at ho; have n0_ := Aside0.mk (hb); have n1_ := Aside0.mk (ho); clear HB; clear HO_3; have HB := n0_; have HO153 := n1_; clear n0_ n1_; clear ho hb hg hat))
      go_roundg k1
      case measure => have := HK1.out; omega
      case rel => exact ⟨(y151), (wrap64 (x4_1 + 1)), rF, H', ⟨by have := HK1.out; omega⟩, ⟨by (with_reducible repeat (first | apply Kd.R_alloc | apply Kd.R_drewN | apply Kd.R_drew)); exact HO153.out⟩, ⟨bA⟩⟩
     ·rw [if_neg c6] at H
      exact absurd H (by simp)
    ·rw [if_neg c5] at H
     exact absurd H (by simp)
   ·rw [if_neg c4] at H
    have c4b0 : decide (x4_1 < (l0.length : Int)) = false := decide_eq_false c4
    clear c4
    obtain rfl := Option.some.inj H
    go_wp2
    go_ret
    exact ⟨_, rE, by (with_reducible repeat (first | apply Kd.R_alloc | apply Kd.R_drewN | apply Kd.R_drew)); exact HO_3.out, bA⟩

/-! ### spec_Unframe: function 53 -/
mutual
def spec_Unframe.j0 : Nat → List Int → Bool → Option (List Int × Bool)
 | 0, _, _ => none
 | k + 1, x0, x23 => if x23 = true then (some (([] : List Int), false)) else ((spec_TakeNum.f k x0 2).bind fun bt156 => (if bt156.2 < 0 then (spec_Unframe.j1 k x0 bt156.1 bt156.2 true) else ((spec_l01In.f bt156.1 0 4000).bind fun t158 => (if t158 = true then (spec_Unframe.j1 k x0 bt156.1 bt156.2 (decide (bt156.1 > (wrap64 ((x0.length : Int) - bt156.2))))) else (spec_Unframe.j1 k x0 bt156.1 bt156.2 true)))))
def spec_Unframe.j1 : Nat → List Int → Int → Int → Bool → Option (List Int × Bool)
 | 0, _, _, _, _ => none
 | k + 1, x0, x4, x5, x43 => if x43 = true then (some (([] : List Int), false)) else (if 0 ≤ x5 then (if x5 ≤ (wrap64 (x5 + x4)) then (if (wrap64 (x5 + x4)) ≤ (x0.length : Int) then ((spec_TakeNum.f k x0 (wrap64 (x5 + x4))).bind fun bt160 => (if bt160.2 = (x0.length : Int) then ((spec_CheckOf.f k ((x0.take ((wrap64 (x5 + x4)) : Int).toNat).drop (x5 : Int).toNat)).bind fun t162 => (if bt160.1 = t162 then ((spec_l01Bytes.f k ((x0.take ((wrap64 (x5 + x4)) : Int).toNat).drop (x5 : Int).toNat)).bind fun t163 => (some (t163, true))) else (some (([] : List Int), false)))) else (some (([] : List Int), false)))) else (none)) else (none)) else (none))
end
def spec_Unframe.f (k : Nat) (l0 : List Int) : Option (List Int × Bool) := if (l0.length : Int) < 2 then (spec_Unframe.j0 k l0 true) else (if 0 < (l0.length : Int) then (if (rd l0 0) = 80 then (if 1 < (l0.length : Int) then (spec_Unframe.j0 k l0 ((rd l0 1) != 83)) else (none)) else (spec_Unframe.j0 k l0 true)) else (none))
theorem spec_Unframe.mono_l : ∀ k, (∀ y0 y1, LeO (spec_Unframe.j0 k y0 y1) (spec_Unframe.j0 (k + 1) y0 y1)) ∧ (∀ y0 y1 y2 y3, LeO (spec_Unframe.j1 k y0 y1 y2 y3) (spec_Unframe.j1 (k + 1) y0 y1 y2 y3))
 | 0 => ⟨fun _ _ r h => by simp [spec_Unframe.j0] at h, fun _ _ _ _ r h => by simp [spec_Unframe.j1] at h⟩
 | k + 1 => by
  obtain ⟨ih0, ih1⟩ := spec_Unframe.mono_l k
  refine ⟨?_, ?_⟩ <;> intros <;> (first | unfold spec_Unframe.j0 | unfold spec_Unframe.j1)
  all_goals repeat' first
  | (with_reducible exact ih0 _ _)
  | (with_reducible exact ih1 _ _ _ _)
  | (with_reducible exact spec_CheckOf.mono _ _)
  | (with_reducible exact spec_TakeNum.mono _ _ _)
  | (with_reducible exact spec_l01Bytes.mono _ _)
  | (with_reducible exact LeO.refl _)
  | (with_reducible exact LeO.none _)
  | (with_reducible refine LeO.ite ?_ ?_)
  | (with_reducible refine LeO.bind ?_ (fun _ => ?_))
  | exact ih0 _ _
  | exact ih1 _ _ _ _
  | exact spec_CheckOf.mono _ _
  | exact spec_TakeNum.mono _ _ _
  | exact spec_l01Bytes.mono _ _
  | exact LeO.none _
  | refine LeO.ite ?_ ?_
  | refine LeO.bind ?_ (fun _ => ?_)
theorem spec_Unframe.mono : ∀ a0 k, LeO (spec_Unframe.f k a0) (spec_Unframe.f (k + 1) a0) := by
 intro a0 k
 obtain ⟨ih0, ih1⟩ := spec_Unframe.mono_l k
 unfold spec_Unframe.f
 repeat' first
   | (with_reducible exact ih0 _ _)
   | (with_reducible exact ih1 _ _ _ _)
   | (with_reducible exact spec_CheckOf.mono _ _)
   | (with_reducible exact spec_TakeNum.mono _ _ _)
   | (with_reducible exact spec_l01Bytes.mono _ _)
   | (with_reducible exact LeO.refl _)
   | (with_reducible exact LeO.none _)
   | (with_reducible refine LeO.ite ?_ ?_)
   | (with_reducible refine LeO.bind ?_ (fun _ => ?_))
   | exact ih0 _ _
   | exact ih1 _ _ _ _
   | exact spec_CheckOf.mono _ _
   | exact spec_TakeNum.mono _ _ _
   | exact spec_l01Bytes.mono _ _
   | exact LeO.none _
   | refine LeO.ite ?_ ?_
   | refine LeO.bind ?_ (fun _ => ?_)
set_option maxHeartbeats 8000000 in
set_option maxRecDepth 100000 in
theorem spec_Unframe.calls (k : Nat) (A0 : Option Addr) (c0 : Nat) (l0 : List Int) (r1 : List Int) (r2 : Bool) (w : World) (hr0 : Kd.C (Kd.int .u8) w A0 l0.length l0) (hc0 : l0.length ≤ c0) (h : spec_Unframe.f k l0 = some (r1, r2)) :
  Calls Try.prog 53 #[.slice A0 l0.length c0] w fun e w' => ∃ v0_ : Value, e = .returned (.tuple #[v0_, .bool r2]) ∧ Kd.R (Kd.int .u8) 5 w' w.heap.size (fun _ => True) v0_ r1 ∧ Below w.heap.size w w' := by
 have HR0 := Aside0.mk hr0
 have HC0 := Aside0.mk hc0
 clear hr0 hc0
 have HB := Aside0.mk (Below.refl w.heap.size w)
 have H : (if (l0.length : Int) < 2 then (spec_Unframe.j0 k l0 true) else (if 0 < (l0.length : Int) then (if (rd l0 0) = 80 then (if 1 < (l0.length : Int) then (spec_Unframe.j0 k l0 ((rd l0 1) != 83)) else (none)) else (spec_Unframe.j0 k l0 true)) else (none))) = some (r1, r2) := h
 clear h
 have HC2 := Aside0.mk H
 clear H
 go_enter Try.func53, Try.ntmps53
 go_upto_region 1 with (fail)
 go_cut [23] (fun v23 wc => ∃ (kq : Nat) (x23_1 : Bool), v23 = .bool x23_1 ∧ Aside0 (spec_Unframe.j0 kq l0 x23_1 = some (r1, r2)) ∧ Aside0 (kq ≤ k) ∧ Aside0 (Below w.heap.size w wc))
 case first =>
  have H := HC2.out
  clear HC2
  by_cases c3 : (l0.length : Int) < 2
  ·rw [if_pos c3] at H
   have c3b0 : decide ((l0.length : Int) < 2) = true := decide_eq_true c3
   have c3b1 : decide (l0.length < 2) = true := decide_eq_true (by omega)
   clear c3
   (first | rw [c3b0] | (simp only [i64_w, i32_w]; rw [c3b0]) | skip)
   have H' := Aside0.mk H
   clear H
   go_wp2
   go_meet
   case rel => exact ⟨_, (true), rF, H', ⟨by first | omega | exact Nat.le_refl _⟩, ⟨bA⟩⟩
  ·rw [if_neg c3] at H
   have c3b0 : decide ((l0.length : Int) < 2) = false := decide_eq_false c3
   have c3b1 : decide (l0.length < 2) = false := decide_eq_false (by omega)
   clear c3
   (first | rw [c3b0] | (simp only [i64_w, i32_w]; rw [c3b0]) | skip)
   by_cases c4 : 0 < (l0.length : Int)
   ·rw [if_pos c4] at H
    have c4b0 : decide (0 < (l0.length : Int)) = true := decide_eq_true c4
    have c4b1 : decide (0 < l0.length) = true := decide_eq_true (by omega)
    clear c4
    by_cases c5 : (rd l0 0) = 80
    ·rw [if_pos c5] at H
     have c5b0 : ((rd l0 0) == 80) = true := beq_iff_eq.mpr c5
     have c5b1 : ((rd l0 0) != 80) = false := bne_eq_false_iff_eq.mpr c5
     clear c5
     by_cases c6 : 1 < (l0.length : Int)
     ·rw [if_pos c6] at H
      have c6b0 : decide (1 < (l0.length : Int)) = true := decide_eq_true c6
      have c6b1 : decide (1 < l0.length) = true := decide_eq_true (by omega)
      clear c6
      have H' := Aside0.mk H
      clear H
      have p154 : 0 ≤ (0 : Int) := (by omega)
      have q154 : 0 < (l0.length : Int) := of_decide_eq_true (by assumption)
      obtain ⟨ad154, e154, hx154_0⟩ := Kd.at_int HR0.out 0 p154 q154
      cases e154
      have qi154 : (0 < l0.length) = True := eq_true (by omega)
      (try rw [show ((0 : Int)).toNat = 0 from rfl] at hx154_0)
      (try rw [Addr.add_zero'] at hx154_0)
      replace hx154_0 := hxB HB.out hx154_0
      replace p154 := eq_true p154
      replace q154 := eq_true q154
      have p155 : 0 ≤ (1 : Int) := (by omega)
      have q155 : 1 < (l0.length : Int) := of_decide_eq_true (by assumption)
      obtain ⟨ad155, e155, hx155_0⟩ := Kd.at_int HR0.out 1 p155 q155
      obtain rfl : ad154 = ad155 := (by injection e155)
      (try simp only [show (1 : Int).toNat = 1 from rfl, Nat.reduceMul, Nat.reduceEqDiff, Go.Addr.add, ↓reduceIte] at hx155_0)
      have qi155 : (1 < l0.length) = True := eq_true (by omega)
      (try rw [show ((1 : Int)).toNat = 1 from rfl] at hx155_0)
      replace hx155_0 := hxB HB.out hx155_0
      replace p155 := eq_true p155
      replace q155 := eq_true q155
      go_wp2
      go_meet
      case rel => exact ⟨_, (((rd l0 1) != 83)), rF, H', ⟨by first | omega | exact Nat.le_refl _⟩, ⟨bA⟩⟩
     ·rw [if_neg c6] at H
      exact absurd H (by simp)
    ·rw [if_neg c5] at H
     have c5b0 : ((rd l0 0) == 80) = false := beq_eq_false_iff_ne.mpr c5
     have c5b1 : ((rd l0 0) != 80) = true := bne_iff_ne.mpr c5
     have H' := Aside0.mk H
     clear H
     have p154 : 0 ≤ (0 : Int) := (by omega)
     have q154 : 0 < (l0.length : Int) := of_decide_eq_true (by assumption)
     obtain ⟨ad154, e154, hx154_0⟩ := Kd.at_int HR0.out 0 p154 q154
     cases e154
     have qi154 : (0 < l0.length) = True := eq_true (by omega)
     (try rw [show ((0 : Int)).toNat = 0 from rfl] at hx154_0)
     (try rw [Addr.add_zero'] at hx154_0)
     replace hx154_0 := hxB HB.out hx154_0
     replace p154 := eq_true p154
     replace q154 := eq_true q154
     go_wp2
     go_meet
     case rel => exact ⟨_, (true), rF, H', ⟨by first | omega | exact Nat.le_refl _⟩, ⟨bA⟩⟩
   ·rw [if_neg c4] at H
    exact absurd H (by simp)
 case rest =>
  clear HC2
  try clear p1
  try clear q1
  try clear hx1
  try clear qi1
  try clear p2
  try clear c3
  try clear c3b0
  try clear c3b1
  try clear c4
  try clear c4b0
  try clear c4b1
  try clear c5
  try clear c5b0
  try clear c5b1
  try clear c6
  try clear c6b0
  try clear c6b1
  try clear hx154_0
  try clear hx155_0
  try clear p154
  try clear p155
  try clear q154
  try clear q155
  obtain ⟨kq, x23_1, rfl, HA, HJ1, HB⟩ := hcut
  cases kq with
  | zero => exact absurd HA.out (by simp [spec_Unframe.j0])
  | succ kj1 =>
   have H := HA.out
   clear HA
   simp only [spec_Unframe.j0] at H
   by_cases c7 : x23_1 = true
   ·subst c7
    have H1 : (some (([] : List Int), false)) = some (r1, r2) := by rw [if_pos rfl] at H; exact H
    clear H
    have H := H1
    clear H1
    simp only [Option.some.injEq, Prod.mk.injEq] at H
    obtain ⟨rfl, rfl⟩ := H
    go_wp2
    go_ret2
    exact ⟨.slice none 0 0, rE, by first | exact Kd.R_nil _ _ _ _ _ | exact Kd.N_nil _ _ _ _ _ | exact Kd.V_nil _ _ _ _ _ | exact Kd.Q_nil _ _ _ _ _ | exact Kd.S_nil _ _ _ _ _, bA⟩
   ·replace c7 := Bool.eq_false_iff.mpr c7
    subst c7
    have H1 : ((spec_TakeNum.f kj1 l0 2).bind fun bt156 => (if bt156.2 < 0 then (spec_Unframe.j1 kj1 l0 bt156.1 bt156.2 true) else ((spec_l01In.f bt156.1 0 4000).bind fun t158 => (if t158 = true then (spec_Unframe.j1 kj1 l0 bt156.1 bt156.2 (decide (bt156.1 > (wrap64 ((l0.length : Int) - bt156.2))))) else (spec_Unframe.j1 kj1 l0 bt156.1 bt156.2 true))))) = some (r1, r2) := by rw [if_neg (show ¬ (false = true) by decide)] at H; exact H
    clear H
    have H := H1
    clear H1
    replace H := Option.bind_eq_some_iff.mp H
    obtain ⟨⟨t156, t157⟩, A80, H⟩ := H
    replace H : (if t157 < 0 then (spec_Unframe.j1 kj1 l0 t156 t157 true) else ((spec_l01In.f t156 0 4000).bind fun t158 => (if t158 = true then (spec_Unframe.j1 kj1 l0 t156 t157 (decide (t156 > (wrap64 ((l0.length : Int) - t157))))) else (spec_Unframe.j1 kj1 l0 t156 t157 true)))) = some (r1, r2) := H
    have A8 := Aside0.mk A80
    clear A80
    have HC9 := Aside0.mk H
    clear H
    go_upto_region 4 with (first | ((with_reducible refine gate_callee (f := 54) rfl ?_); refine goesL_ (some 26) rfl rfl Try.func54 (by kernel_rfl) rfl #[.slice A0 l0.length c0, .int .i64 2] rfl aL ?_; (with_reducible refine (spec_TakeNum.calls kj1 _ _ l0 2 t156 t157 _ ?side1 ?side2 A8.out).mono ?_); (case side1 => exact cA); (case side2 => exact HC0.out); rintro e w' ⟨rfl, ⟨nd, rfl⟩⟩; refine ⟨_, rfl, ?_⟩))
    (try simp only [Act.put, List.setIfInBounds_toArray, List.set_cons_zero, List.set_cons_succ])
    go_cut [43] (fun v43 wc => ∃ (kq : Nat) (x43_8 : Bool), v43 = .bool x43_8 ∧ Aside0 (spec_Unframe.j1 kq l0 t156 t157 x43_8 = some (r1, r2)) ∧ Aside0 (kq ≤ kj1) ∧ Aside0 (Below w.heap.size w wc))
    case first =>
     have H := HC9.out
     clear HC9
     by_cases c10 : t157 < 0
     ·rw [if_pos c10] at H
      have c10b0 : decide (t157 < 0) = true := decide_eq_true c10
      clear c10
      (first | rw [c10b0] | (simp only [i64_w, i32_w]; rw [c10b0]) | skip)
      have H' := Aside0.mk H
      clear H
      go_wp2
      go_meet
      case rel => exact ⟨_, (true), rF, H', ⟨by have := HJ1.out; first | omega | exact Nat.le_refl _⟩, ⟨bA⟩⟩
     ·rw [if_neg c10] at H
      have c10b0 : decide (t157 < 0) = false := decide_eq_false c10
      clear c10
      (first | rw [c10b0] | (simp only [i64_w, i32_w]; rw [c10b0]) | skip)
      replace H := Option.bind_eq_some_iff.mp H
      obtain ⟨t158, A110, H⟩ := H
      replace H : (if t158 = true then (spec_Unframe.j1 kj1 l0 t156 t157 (decide (t156 > (wrap64 ((l0.length : Int) - t157))))) else (spec_Unframe.j1 kj1 l0 t156 t157 true)) = some (r1, r2) := H
      have A11 := Aside0.mk A110
      clear A110
      by_cases c12 : t158 = true
      ·subst c12
       have H1 : (spec_Unframe.j1 kj1 l0 t156 t157 (decide (t156 > (wrap64 ((l0.length : Int) - t157))))) = some (r1, r2) := by rw [if_pos rfl] at H; exact H
       clear H
       have H := H1
       clear H1
       have H' := Aside0.mk H
       clear H
       go_wp2_with (first | (go_at_call 55; (with_reducible refine (spec_l01In.calls t156 0 4000 true _ A11.out).mono ?_); rintro e w' ⟨rfl, ⟨nd, rfl⟩⟩))
       go_meet
       case rel => exact ⟨_, (decide (t156 > (wrap64 ((l0.length : Int) - t157)))), rF, H', ⟨by have := HJ1.out; first | omega | exact Nat.le_refl _⟩, ⟨bA⟩⟩
      ·replace c12 := Bool.eq_false_iff.mpr c12
       subst c12
       have H1 : (spec_Unframe.j1 kj1 l0 t156 t157 true) = some (r1, r2) := by rw [if_neg (show ¬ (false = true) by decide)] at H; exact H
       clear H
       have H := H1
       clear H1
       have H' := Aside0.mk H
       clear H
       go_wp2_with (first | (go_at_call 55; (with_reducible refine (spec_l01In.calls t156 0 4000 false _ A11.out).mono ?_); rintro e w' ⟨rfl, ⟨nd, rfl⟩⟩))
       go_meet
       case rel => exact ⟨_, (true), rF, H', ⟨by have := HJ1.out; first | omega | exact Nat.le_refl _⟩, ⟨bA⟩⟩
    case rest =>
     clear HC9
     try clear c1
     try clear p1
     try clear q1
     try clear hx1
     try clear qi1
     try clear p2
     try clear c3
     try clear c3b0
     try clear c3b1
     try clear c4
     try clear c4b0
     try clear c4b1
     try clear c5
     try clear c5b0
     try clear c5b1
     try clear c6
     try clear c6b0
     try clear c6b1
     try clear p6
     try clear c7
     try clear c10
     try clear c10b0
     try clear c12
     try clear hx154_0
     try clear hx155_0
     try clear p1
     try clear p154
     try clear p155
     try clear p2
     try clear q1
     try clear q154
     try clear q155
     obtain ⟨kq, x43_8, rfl, HA, HJ8, HB⟩ := hcut
     cases kq with
     | zero => exact absurd HA.out (by simp [spec_Unframe.j1])
     | succ kj8 =>
      have H := HA.out
      clear HA
      simp only [spec_Unframe.j1] at H
      by_cases c13 : x43_8 = true
      ·subst c13
       have H1 : (some (([] : List Int), false)) = some (r1, r2) := by rw [if_pos rfl] at H; exact H
       clear H
       have H := H1
       clear H1
       simp only [Option.some.injEq, Prod.mk.injEq] at H
       obtain ⟨rfl, rfl⟩ := H
       go_wp2
       go_ret2
       exact ⟨.slice none 0 0, rE, by first | exact Kd.R_nil _ _ _ _ _ | exact Kd.N_nil _ _ _ _ _ | exact Kd.V_nil _ _ _ _ _ | exact Kd.Q_nil _ _ _ _ _ | exact Kd.S_nil _ _ _ _ _, bA⟩
      ·replace c13 := Bool.eq_false_iff.mpr c13
       subst c13
       have H1 : (if 0 ≤ t157 then (if t157 ≤ (wrap64 (t157 + t156)) then (if (wrap64 (t157 + t156)) ≤ (l0.length : Int) then ((spec_TakeNum.f kj8 l0 (wrap64 (t157 + t156))).bind fun bt160 => (if bt160.2 = (l0.length : Int) then ((spec_CheckOf.f kj8 ((l0.take ((wrap64 (t157 + t156)) : Int).toNat).drop (t157 : Int).toNat)).bind fun t162 => (if bt160.1 = t162 then ((spec_l01Bytes.f kj8 ((l0.take ((wrap64 (t157 + t156)) : Int).toNat).drop (t157 : Int).toNat)).bind fun t163 => (some (t163, true))) else (some (([] : List Int), false)))) else (some (([] : List Int), false)))) else (none)) else (none)) else (none)) = some (r1, r2) := by rw [if_neg (show ¬ (false = true) by decide)] at H; exact H
       clear H
       have H := H1
       clear H1
       by_cases c14 : 0 ≤ t157
       ·rw [if_pos c14] at H
        have c14b0 := eq_true c14
        have c14b1 : decide (0 ≤ t157) = true := decide_eq_true c14
        clear c14
        by_cases c15 : t157 ≤ (wrap64 (t157 + t156))
        ·rw [if_pos c15] at H
         have c15b0 := eq_true c15
         have c15b1 : decide (t157 ≤ (wrap64 (t157 + t156))) = true := decide_eq_true c15
         by_cases c16 : (wrap64 (t157 + t156)) ≤ (l0.length : Int)
         ·rw [if_pos c16] at H
          have c16b0 := eq_true c16
          have c16b1 : decide ((wrap64 (t157 + t156)) ≤ (l0.length : Int)) = true := decide_eq_true c16
          replace H := Option.bind_eq_some_iff.mp H
          obtain ⟨⟨t160, t161⟩, A170, H⟩ := H
          replace H : (if t161 = (l0.length : Int) then ((spec_CheckOf.f kj8 ((l0.take ((wrap64 (t157 + t156)) : Int).toNat).drop (t157 : Int).toNat)).bind fun t162 => (if t160 = t162 then ((spec_l01Bytes.f kj8 ((l0.take ((wrap64 (t157 + t156)) : Int).toNat).drop (t157 : Int).toNat)).bind fun t163 => (some (t163, true))) else (some (([] : List Int), false)))) else (some (([] : List Int), false))) = some (r1, r2) := H
          have A17 := Aside0.mk A170
          clear A170
          by_cases c18 : t161 = (l0.length : Int)
          ·rw [if_pos c18] at H
           have c18b0 : (t161 == (l0.length : Int)) = true := beq_iff_eq.mpr c18
           have c18b1 : (t161 != (l0.length : Int)) = false := bne_eq_false_iff_eq.mpr c18
           clear c18
           replace H := Option.bind_eq_some_iff.mp H
           obtain ⟨t162, A190, H⟩ := H
           replace H : (if t160 = t162 then ((spec_l01Bytes.f kj8 ((l0.take ((wrap64 (t157 + t156)) : Int).toNat).drop (t157 : Int).toNat)).bind fun t163 => (some (t163, true))) else (some (([] : List Int), false))) = some (r1, r2) := H
           have A19 := Aside0.mk A190
           clear A190
           by_cases c20 : t160 = t162
           ·rw [if_pos c20] at H
            have c20b0 : (t160 == t162) = true := beq_iff_eq.mpr c20
            have c20b1 : (t160 != t162) = false := bne_eq_false_iff_eq.mpr c20
            clear c20
            replace H := Option.bind_eq_some_iff.mp H
            obtain ⟨t163, A210, H⟩ := H
            replace H : (some (t163, true)) = some (r1, r2) := H
            have A21 := Aside0.mk A210
            clear A210
            simp only [Option.some.injEq, Prod.mk.injEq] at H
            obtain ⟨rfl, rfl⟩ := H
            obtain ⟨i022, hi022, _, hsz22, _⟩ := info_parts info5
            obtain ⟨A22, hcut22, hA22, hC22⟩ := print_mid_of (P := Try.prog) (Value.int .u8) 0 39 5 .i64 .i64 Try.underlying39 hi022 hsz22 A0 c0 l0 t157 (wrap64 (t157 + t156)) (of_decide_eq_true (by assumption)) (by first | omega | exact of_decide_eq_true (by assumption)) (of_decide_eq_true (by assumption)) HC0.out
            have HR159 := Aside0.mk (Kd.C_of_reads (h1 := fun _ => rfl) (hA22 _ (Kd.reads_of_C HR0.out)))
            have HC159 := Aside0.mk hC22
            clear hA22 hC22 hi022 hsz22
            go_wp2_with (first | ((with_reducible refine gate_callee (f := 54) rfl ?_); refine goesL_ (some 55) rfl rfl Try.func54 (by kernel_rfl) rfl #[.slice A0 l0.length c0, .int .i64 (wrap64 (t157 + t156))] rfl aL ?_; (with_reducible refine (spec_TakeNum.calls kj8 _ _ l0 (wrap64 (t157 + t156)) t160 t161 _ ?side1 ?side2 A17.out).mono ?_); (case side1 => exact cA); (case side2 => exact HC0.out); rintro e w' ⟨rfl, ⟨nd, rfl⟩⟩; refine ⟨_, rfl, ?_⟩) | (go_at_call 50; (have hcl_ : (((wrap64 (t157 + t156)) : Int).toNat - (t157 : Int).toNat) = ((l0.take ((wrap64 (t157 + t156)) : Int).toNat).drop (t157 : Int).toNat).length := (by have h_ : ((wrap64 (t157 + t156)) : Int) ≤ (l0.length : Int) := of_decide_eq_true (by assumption); rw [List.length_drop, List.length_take]; omega); rw [hcl_]; clear hcl_); (with_reducible refine (spec_CheckOf.calls kj8 _ _ ((l0.take ((wrap64 (t157 + t156)) : Int).toNat).drop (t157 : Int).toNat) t162 _ ?side1 ?side2 A19.out).mono ?_); (case side1 => repeat (first | exact (Kd.C_below HR159.out bA) | (with_reducible refine Kd.C_alloc ?_ _) | (with_reducible refine Kd.C_drewN ?_ _) | (with_reducible refine Kd.C_drew ?_))); (case side2 => exact HC159.out); rintro e w' ⟨rfl, ⟨nd, rfl⟩⟩) | ((with_reducible refine gate_callee (f := 92) rfl ?_); refine goesL_ (some 69) rfl rfl Try.func92 (by kernel_rfl) rfl #[.slice A22 ((l0.take ((wrap64 (t157 + t156)) : Int).toNat).drop (t157 : Int).toNat).length (c0 - t157.toNat)] rfl (by (try simp only [List.map_toArray, List.map_cons, List.map_nil]); first | done | (rw [show ((l0.take ((wrap64 (t157 + t156)) : Int).toNat).drop (t157 : Int).toNat).length = ((wrap64 (t157 + t156)).toNat - t157.toNat) from (by rw [List.length_drop, List.length_take]; have h_ : ((wrap64 (t157 + t156)) : Int) ≤ (l0.length : Int) := of_decide_eq_true (by assumption); omega)] <;> rfl) | rfl | (simp only [List.length_drop, List.length_take]; rfl)) ?_; (with_reducible refine (spec_l01Bytes.calls kj8 _ _ ((l0.take ((wrap64 (t157 + t156)) : Int).toNat).drop (t157 : Int).toNat) t163 _ ?side1 ?side2 A21.out).mono ?_); (case side1 => repeat (first | exact (Kd.C_below HR159.out bA) | (with_reducible refine Kd.C_alloc ?_ _) | (with_reducible refine Kd.C_drewN ?_ _) | (with_reducible refine Kd.C_drew ?_))); (case side2 => exact HC159.out); rintro e w23 ⟨v164, rfl, ho0, hb⟩; refine ⟨_, rfl, ?_⟩; have n0_ := Aside0.mk (Kd.R_lower ho0 (below_size bA)); have n1_ := Aside0.mk (below_step bA hb); clear HB; have HO165 := n0_; have HB := n1_; clear n0_ n1_; (try clear hb); (try clear hb2); (try clear hk); (try clear hi); (try clear ho0)))
            go_ret2
            exact ⟨_, rE, by (with_reducible repeat (first | apply Kd.R_alloc | apply Kd.R_drewN | apply Kd.R_drew)); exact HO165.out, bA⟩
           ·rw [if_neg c20] at H
            have c20b0 : (t160 == t162) = false := beq_eq_false_iff_ne.mpr c20
            have c20b1 : (t160 != t162) = true := bne_iff_ne.mpr c20
            simp only [Option.some.injEq, Prod.mk.injEq] at H
            obtain ⟨rfl, rfl⟩ := H
            obtain ⟨i024, hi024, _, hsz24, _⟩ := info_parts info5
            obtain ⟨A24, hcut24, hA24, hC24⟩ := print_mid_of (P := Try.prog) (Value.int .u8) 0 39 5 .i64 .i64 Try.underlying39 hi024 hsz24 A0 c0 l0 t157 (wrap64 (t157 + t156)) (of_decide_eq_true (by assumption)) (by first | omega | exact of_decide_eq_true (by assumption)) (of_decide_eq_true (by assumption)) HC0.out
            have HR159 := Aside0.mk (Kd.C_of_reads (h1 := fun _ => rfl) (hA24 _ (Kd.reads_of_C HR0.out)))
            have HC159 := Aside0.mk hC24
            clear hA24 hC24 hi024 hsz24
            go_wp2_with (first | ((with_reducible refine gate_callee (f := 54) rfl ?_); refine goesL_ (some 55) rfl rfl Try.func54 (by kernel_rfl) rfl #[.slice A0 l0.length c0, .int .i64 (wrap64 (t157 + t156))] rfl aL ?_; (with_reducible refine (spec_TakeNum.calls kj8 _ _ l0 (wrap64 (t157 + t156)) t160 t161 _ ?side1 ?side2 A17.out).mono ?_); (case side1 => exact cA); (case side2 => exact HC0.out); rintro e w' ⟨rfl, ⟨nd, rfl⟩⟩; refine ⟨_, rfl, ?_⟩) | (go_at_call 50; (have hcl_ : (((wrap64 (t157 + t156)) : Int).toNat - (t157 : Int).toNat) = ((l0.take ((wrap64 (t157 + t156)) : Int).toNat).drop (t157 : Int).toNat).length := (by have h_ : ((wrap64 (t157 + t156)) : Int) ≤ (l0.length : Int) := of_decide_eq_true (by assumption); rw [List.length_drop, List.length_take]; omega); rw [hcl_]; clear hcl_); (with_reducible refine (spec_CheckOf.calls kj8 _ _ ((l0.take ((wrap64 (t157 + t156)) : Int).toNat).drop (t157 : Int).toNat) t162 _ ?side1 ?side2 A19.out).mono ?_); (case side1 => repeat (first | exact (Kd.C_below HR159.out bA) | (with_reducible refine Kd.C_alloc ?_ _) | (with_reducible refine Kd.C_drewN ?_ _) | (with_reducible refine Kd.C_drew ?_))); (case side2 => exact HC159.out); rintro e w' ⟨rfl, ⟨nd, rfl⟩⟩))
            go_ret2
            exact ⟨.slice none 0 0, rE, by first | exact Kd.R_nil _ _ _ _ _ | exact Kd.N_nil _ _ _ _ _ | exact Kd.V_nil _ _ _ _ _ | exact Kd.Q_nil _ _ _ _ _ | exact Kd.S_nil _ _ _ _ _, bA⟩
          ·rw [if_neg c18] at H
           have c18b0 : (t161 == (l0.length : Int)) = false := beq_eq_false_iff_ne.mpr c18
           have c18b1 : (t161 != (l0.length : Int)) = true := bne_iff_ne.mpr c18
           simp only [Option.some.injEq, Prod.mk.injEq] at H
           obtain ⟨rfl, rfl⟩ := H
           obtain ⟨i025, hi025, _, hsz25, _⟩ := info_parts info5
           obtain ⟨A25, hcut25, hA25, hC25⟩ := print_mid_of (P := Try.prog) (Value.int .u8) 0 39 5 .i64 .i64 Try.underlying39 hi025 hsz25 A0 c0 l0 t157 (wrap64 (t157 + t156)) (of_decide_eq_true (by assumption)) (by first | omega | exact of_decide_eq_true (by assumption)) (of_decide_eq_true (by assumption)) HC0.out
           have HR159 := Aside0.mk (Kd.C_of_reads (h1 := fun _ => rfl) (hA25 _ (Kd.reads_of_C HR0.out)))
           have HC159 := Aside0.mk hC25
           clear hA25 hC25 hi025 hsz25
           go_wp2_with (first | ((with_reducible refine gate_callee (f := 54) rfl ?_); refine goesL_ (some 55) rfl rfl Try.func54 (by kernel_rfl) rfl #[.slice A0 l0.length c0, .int .i64 (wrap64 (t157 + t156))] rfl aL ?_; (with_reducible refine (spec_TakeNum.calls kj8 _ _ l0 (wrap64 (t157 + t156)) t160 t161 _ ?side1 ?side2 A17.out).mono ?_); (case side1 => exact cA); (case side2 => exact HC0.out); rintro e w' ⟨rfl, ⟨nd, rfl⟩⟩; refine ⟨_, rfl, ?_⟩))
           go_ret2
           exact ⟨.slice none 0 0, rE, by first | exact Kd.R_nil _ _ _ _ _ | exact Kd.N_nil _ _ _ _ _ | exact Kd.V_nil _ _ _ _ _ | exact Kd.Q_nil _ _ _ _ _ | exact Kd.S_nil _ _ _ _ _, bA⟩
         ·rw [if_neg c16] at H
          exact absurd H (by simp)
        ·rw [if_neg c15] at H
         exact absurd H (by simp)
       ·rw [if_neg c14] at H
        exact absurd H (by simp)

/-! ### spec_l05Next: function 94 -/
-- FORM 1 1
def spec_l05Next.f (k : Nat) (l0 : List Int) (a : Int) (b : Bool) : Option (Int × Int × Bool) := if b = true then some (0, a, true) else (spec_TakeNum.f k l0 a).bind fun t => if t.2 < 0 then some (0, a, true) else some (t.1, t.2, false)
theorem spec_l05Next.mono : ∀ a0 a1 a2 k, LeO (spec_l05Next.f k a0 a1 a2) (spec_l05Next.f (k + 1) a0 a1 a2) := by
 intro a0 a1 a2 k
 unfold spec_l05Next.f
 refine LeO.ite (LeO.refl _) (LeO.bind (spec_TakeNum.mono _ _ _) (fun _ => LeO.refl _))
set_option maxHeartbeats 8000000 in
set_option maxRecDepth 100000 in
theorem spec_l05Next.calls (k : Nat) (A0 : Option Addr) (c0 : Nat) (l0 : List Int) (a : Int) (b : Bool) (r1 r2 : Int) (r3 : Bool) (w0 : World) (w : World) (g : Nat) (hg : w.heap[g]? = some (.cells #[.slice A0 l0.length c0, .int .i64 a, .bool b] 99 (0, 0))) (hge : w0.heap.size ≤ g) (hB : Below w0.heap.size w0 w) (hr0 : Kd.C (Kd.int .u8) w0 A0 l0.length l0) (hc0 : l0.length ≤ c0) (h : spec_l05Next.f k l0 a b = some (r1, r2, r3)) :
  Calls Try.prog 94 #[.pointer (some ⟨g, 0, none⟩)] w fun e w' => e = .returned (.int .i64 r1) ∧ w'.heap[g]? = some (.cells #[.slice A0 l0.length c0, .int .i64 r2, .bool r3] 99 (0, 0)) ∧ Below w0.heap.size w0 w' ∧ KeepBut w w' g none := by
 have HR0 := Aside0.mk hr0
 have HC0 := Aside0.mk hc0
 have HB := Aside0.mk hB
 have HG := Aside0.mk hg
 have GE := Aside0.mk hge
 have hz0 : w.cell? ⟨g, 0, none⟩ = some (.slice A0 l0.length c0) := (blk_cell hg 0).trans rfl
 have hz1 : w.cell? ⟨g, 1, none⟩ = some (.int .i64 a) := (blk_cell hg 1).trans rfl
 have hz2 : w.cell? ⟨g, 2, none⟩ = some (.bool b) := (blk_cell hg 2).trans rfl
 have hf0 := blk_frozen hg 0
 have hf1 := blk_frozen hg 1
 have hf2 := blk_frozen hg 2
 clear hr0 hc0 hB hg hge
 unfold spec_l05Next.f at h
 by_cases c1 : b = true
 ·rw [if_pos c1] at h
  subst c1
  simp only [Option.some.injEq, Prod.mk.injEq] at h
  obtain ⟨rfl, rfl, rfl⟩ := h
  go_enter Try.func94, Try.ntmps94
  go_wp2
  go_ret
  exact ⟨by first | rfl | (simp; done), HG.out, HB.out, by repeat (first | exact KeepBut.refl _ _ _ | refine KeepBut.set_ ?_ _ _ | refine keep_drewN ?_ _ | refine keep_drew ?_)⟩
 ·rw [if_neg c1] at h
  obtain rfl : b = false := Bool.eq_false_iff.mpr c1
  obtain ⟨⟨t1, t2⟩, f1, h⟩ := Option.bind_eq_some_iff.mp h
  have F1 := Aside0.mk f1
  clear f1 c1
  by_cases c2 : t2 < 0
  ·rw [if_pos c2] at h
   have c2b : decide (t2 < 0) = true := decide_eq_true c2
   clear c2
   simp only [Option.some.injEq, Prod.mk.injEq] at h
   obtain ⟨rfl, rfl, rfl⟩ := h
   go_enter Try.func94, Try.ntmps94
   go_wp2
   go_quiet ((go_at_call 54; refine Calls.quiet_of (v := .tuple #[.int .i64 t1, .int .i64 t2]) ((spec_TakeNum.calls k A0 c0 l0 a t1 t2 _ (Kd.C_below HR0.out (by first | exact HB.out | exact pw_below_drewN HB.out _)) HC0.out F1.out).mono ?_); rintro e w' ⟨rfl, ⟨⟨m, rfl⟩⟩⟩; exact ⟨rfl, m, rfl⟩))
   go_wp2
   go_ret
   exact ⟨by first | rfl | (simp; done), by first | exact blk_put (blk_drewN HG.out _) 2 _ rfl | (refine blk_put ?_ 2 _ rfl; exact HG.out), below_set (by first | exact HB.out | exact pw_below_drewN HB.out _) GE.out, by repeat (first | exact KeepBut.refl _ _ _ | refine KeepBut.set_ ?_ _ _ | refine keep_drewN ?_ _ | refine keep_drew ?_)⟩
  ·rw [if_neg c2] at h
   have c2b : decide (t2 < 0) = false := decide_eq_false c2
   clear c2
   simp only [Option.some.injEq, Prod.mk.injEq] at h
   obtain ⟨rfl, rfl, rfl⟩ := h
   go_enter Try.func94, Try.ntmps94
   go_wp2
   go_quiet ((go_at_call 54; refine Calls.quiet_of (v := .tuple #[.int .i64 t1, .int .i64 t2]) ((spec_TakeNum.calls k A0 c0 l0 a t1 t2 _ (Kd.C_below HR0.out (by first | exact HB.out | exact pw_below_drewN HB.out _)) HC0.out F1.out).mono ?_); rintro e w' ⟨rfl, ⟨⟨m, rfl⟩⟩⟩; exact ⟨rfl, m, rfl⟩))
   go_wp2
   go_ret
   exact ⟨by first | rfl | (simp; done), by first | exact blk_put (blk_drewN HG.out _) 1 _ rfl | (refine blk_put ?_ 1 _ rfl; exact HG.out), below_set (by first | exact HB.out | exact pw_below_drewN HB.out _) GE.out, by repeat (first | exact KeepBut.refl _ _ _ | refine KeepBut.set_ ?_ _ _ | refine keep_drewN ?_ _ | refine keep_drew ?_)⟩

/-! ### spec_TakeWord: function 95 -/
def spec_TakeWord.j0 : Nat → List Int → Int → Int → Bool → Option (ByteArray × Int)
 | 0, _, _, _, _ => none
 | k + 1, x0, x6, x7, x29 => if x29 = true then (some ((⟨#[]⟩ : ByteArray), (-1))) else (if 0 ≤ x7 then (if x7 ≤ (wrap64 (x7 + x6)) then (if (wrap64 (x7 + x6)) ≤ (x0.length : Int) then ((spec_WordOk.f k (strOfNums ((x0.take ((wrap64 (x7 + x6)) : Int).toNat).drop (x7 : Int).toNat))).bind fun t170 => (if t170 = true then (some (strOfNums ((x0.take ((wrap64 (x7 + x6)) : Int).toNat).drop (x7 : Int).toNat), wrap64 (x7 + x6))) else (some ((⟨#[]⟩ : ByteArray), (-1))))) else (none)) else (none)) else (none))
def spec_TakeWord.f (k : Nat) (l0 : List Int) (a1 : Int) : Option (ByteArray × Int) := (spec_TakeNum.f k l0 a1).bind fun bt166 => (if bt166.2 < 0 then (spec_TakeWord.j0 k l0 bt166.1 bt166.2 true) else ((spec_l01In.f bt166.1 1 12).bind fun t168 => (if t168 = true then (spec_TakeWord.j0 k l0 bt166.1 bt166.2 (decide (bt166.1 > (wrap64 ((l0.length : Int) - bt166.2))))) else (spec_TakeWord.j0 k l0 bt166.1 bt166.2 true))))
theorem spec_TakeWord.mono_l : ∀ k, (∀ y0 y1 y2 y3, LeO (spec_TakeWord.j0 k y0 y1 y2 y3) (spec_TakeWord.j0 (k + 1) y0 y1 y2 y3))
 | 0 => fun _ _ _ _ r h => by simp [spec_TakeWord.j0] at h
 | k + 1 => by
  have ih0 := spec_TakeWord.mono_l k
  ·intro y0 y1 y2 y3
   unfold spec_TakeWord.j0
   repeat' first
   | (with_reducible exact ih0 _ _ _ _)
   | (with_reducible exact spec_TakeNum.mono _ _ _)
   | (with_reducible exact spec_WordOk.mono _ _)
   | (with_reducible exact LeO.refl _)
   | (with_reducible exact LeO.none _)
   | (with_reducible refine LeO.ite ?_ ?_)
   | (with_reducible refine LeO.bind ?_ (fun _ => ?_))
   | exact ih0 _ _ _ _
   | exact spec_TakeNum.mono _ _ _
   | exact spec_WordOk.mono _ _
   | exact LeO.none _
   | refine LeO.ite ?_ ?_
   | refine LeO.bind ?_ (fun _ => ?_)
theorem spec_TakeWord.mono : ∀ a0 a1 k, LeO (spec_TakeWord.f k a0 a1) (spec_TakeWord.f (k + 1) a0 a1) := by
 intro a0 a1 k
 have ih0 := spec_TakeWord.mono_l k
 unfold spec_TakeWord.f
 repeat' first
   | (with_reducible exact ih0 _ _ _ _)
   | (with_reducible exact spec_TakeNum.mono _ _ _)
   | (with_reducible exact spec_WordOk.mono _ _)
   | (with_reducible exact LeO.refl _)
   | (with_reducible exact LeO.none _)
   | (with_reducible refine LeO.ite ?_ ?_)
   | (with_reducible refine LeO.bind ?_ (fun _ => ?_))
   | exact ih0 _ _ _ _
   | exact spec_TakeNum.mono _ _ _
   | exact spec_WordOk.mono _ _
   | exact LeO.none _
   | refine LeO.ite ?_ ?_
   | refine LeO.bind ?_ (fun _ => ?_)
set_option maxHeartbeats 8000000 in
set_option maxRecDepth 100000 in
theorem spec_TakeWord.calls (k : Nat) (A0 : Option Addr) (c0 : Nat) (l0 : List Int) (a1 : Int) (r1 : ByteArray) (r2 : Int) (w : World) (hr0 : Kd.C (Kd.int .u8) w A0 l0.length l0) (hc0 : l0.length ≤ c0) (h : spec_TakeWord.f k l0 a1 = some (r1, r2)) :
  Calls Try.prog 95 #[.slice A0 l0.length c0, .int .i64 a1] w fun e w' => e = .returned (.tuple #[.string r1, .int .i64 r2]) ∧ Drawn0 w w' := by
 have HR0 := Aside0.mk hr0
 have HC0 := Aside0.mk hc0
 clear hr0 hc0
 have H : ((spec_TakeNum.f k l0 a1).bind fun bt166 => (if bt166.2 < 0 then (spec_TakeWord.j0 k l0 bt166.1 bt166.2 true) else ((spec_l01In.f bt166.1 1 12).bind fun t168 => (if t168 = true then (spec_TakeWord.j0 k l0 bt166.1 bt166.2 (decide (bt166.1 > (wrap64 ((l0.length : Int) - bt166.2))))) else (spec_TakeWord.j0 k l0 bt166.1 bt166.2 true))))) = some (r1, r2) := h
 clear h
 replace H := Option.bind_eq_some_iff.mp H
 obtain ⟨⟨t166, t167⟩, A30, H⟩ := H
 replace H : (if t167 < 0 then (spec_TakeWord.j0 k l0 t166 t167 true) else ((spec_l01In.f t166 1 12).bind fun t168 => (if t168 = true then (spec_TakeWord.j0 k l0 t166 t167 (decide (t166 > (wrap64 ((l0.length : Int) - t167))))) else (spec_TakeWord.j0 k l0 t166 t167 true)))) = some (r1, r2) := H
 have A3 := Aside0.mk A30
 clear A30
 have HC4 := Aside0.mk H
 clear H
 go_enter Try.func95, Try.ntmps95
 go_upto_region 2 with (first | ((with_reducible refine gate_callee (f := 54) rfl ?_); refine goesL_ (some 12) rfl rfl Try.func54 (by kernel_rfl) rfl #[.slice A0 l0.length c0, .int .i64 a1] rfl aL ?_; (with_reducible refine (spec_TakeNum.calls k _ _ l0 a1 t166 t167 _ ?side1 ?side2 A3.out).mono ?_); (case side1 => exact cA); (case side2 => exact HC0.out); rintro e w' ⟨rfl, ⟨nd, rfl⟩⟩; refine ⟨_, rfl, ?_⟩))
 (try simp only [Act.put, List.setIfInBounds_toArray, List.set_cons_zero, List.set_cons_succ])
 go_cut [29] (fun v29 wc => ∃ (kq : Nat) (x29_3 : Bool), v29 = .bool x29_3 ∧ Aside0 (spec_TakeWord.j0 kq l0 t166 t167 x29_3 = some (r1, r2)) ∧ Aside0 (kq ≤ k) ∧ Drawn0 w wc)
 case first =>
  have H := HC4.out
  clear HC4
  by_cases c5 : t167 < 0
  ·rw [if_pos c5] at H
   have c5b0 : decide (t167 < 0) = true := decide_eq_true c5
   clear c5
   (first | rw [c5b0] | (simp only [i64_w, i32_w]; rw [c5b0]) | skip)
   have H' := Aside0.mk H
   clear H
   go_wp2
   go_meet
   case rel => exact ⟨_, (true), rF, H', ⟨by first | omega | exact Nat.le_refl _⟩, by repeat (first | exact Drawn0.refl _ | apply Drawn0.step)⟩
  ·rw [if_neg c5] at H
   have c5b0 : decide (t167 < 0) = false := decide_eq_false c5
   clear c5
   (first | rw [c5b0] | (simp only [i64_w, i32_w]; rw [c5b0]) | skip)
   replace H := Option.bind_eq_some_iff.mp H
   obtain ⟨t168, A60, H⟩ := H
   replace H : (if t168 = true then (spec_TakeWord.j0 k l0 t166 t167 (decide (t166 > (wrap64 ((l0.length : Int) - t167))))) else (spec_TakeWord.j0 k l0 t166 t167 true)) = some (r1, r2) := H
   have A6 := Aside0.mk A60
   clear A60
   by_cases c7 : t168 = true
   ·subst c7
    have H1 : (spec_TakeWord.j0 k l0 t166 t167 (decide (t166 > (wrap64 ((l0.length : Int) - t167))))) = some (r1, r2) := by rw [if_pos rfl] at H; exact H
    clear H
    have H := H1
    clear H1
    have H' := Aside0.mk H
    clear H
    go_wp2_with (first | (go_at_call 55; (with_reducible refine (spec_l01In.calls t166 1 12 true _ A6.out).mono ?_); rintro e w' ⟨rfl, ⟨nd, rfl⟩⟩))
    go_meet
    case rel => exact ⟨_, (decide (t166 > (wrap64 ((l0.length : Int) - t167)))), rF, H', ⟨by first | omega | exact Nat.le_refl _⟩, by repeat (first | exact Drawn0.refl _ | apply Drawn0.step)⟩
   ·replace c7 := Bool.eq_false_iff.mpr c7
    subst c7
    have H1 : (spec_TakeWord.j0 k l0 t166 t167 true) = some (r1, r2) := by rw [if_neg (show ¬ (false = true) by decide)] at H; exact H
    clear H
    have H := H1
    clear H1
    have H' := Aside0.mk H
    clear H
    go_wp2_with (first | (go_at_call 55; (with_reducible refine (spec_l01In.calls t166 1 12 false _ A6.out).mono ?_); rintro e w' ⟨rfl, ⟨nd, rfl⟩⟩))
    go_meet
    case rel => exact ⟨_, (true), rF, H', ⟨by first | omega | exact Nat.le_refl _⟩, by repeat (first | exact Drawn0.refl _ | apply Drawn0.step)⟩
 case rest =>
  clear HC4
  try clear p2
  try clear c5
  try clear c5b0
  try clear p6
  try clear c7
  obtain ⟨kq, x29_3, rfl, HA, HJ3, ⟨mc3, rfl⟩⟩ := hcut
  cases kq with
  | zero => exact absurd HA.out (by simp [spec_TakeWord.j0])
  | succ kj3 =>
   have H := HA.out
   clear HA
   simp only [spec_TakeWord.j0] at H
   by_cases c8 : x29_3 = true
   ·subst c8
    have H1 : (some ((⟨#[]⟩ : ByteArray), (-1))) = some (r1, r2) := by rw [if_pos rfl] at H; exact H
    clear H
    have H := H1
    clear H1
    simp only [Option.some.injEq, Prod.mk.injEq] at H
    obtain ⟨rfl, rfl⟩ := H
    go_wp2
    go_ret2
    exact ⟨rF, by repeat (first | exact Drawn0.refl _ | apply Drawn0.step)⟩
   ·replace c8 := Bool.eq_false_iff.mpr c8
    subst c8
    have H1 : (if 0 ≤ t167 then (if t167 ≤ (wrap64 (t167 + t166)) then (if (wrap64 (t167 + t166)) ≤ (l0.length : Int) then ((spec_WordOk.f kj3 (strOfNums ((l0.take ((wrap64 (t167 + t166)) : Int).toNat).drop (t167 : Int).toNat))).bind fun t170 => (if t170 = true then (some (strOfNums ((l0.take ((wrap64 (t167 + t166)) : Int).toNat).drop (t167 : Int).toNat), wrap64 (t167 + t166))) else (some ((⟨#[]⟩ : ByteArray), (-1))))) else (none)) else (none)) else (none)) = some (r1, r2) := by rw [if_neg (show ¬ (false = true) by decide)] at H; exact H
    clear H
    have H := H1
    clear H1
    by_cases c9 : 0 ≤ t167
    ·rw [if_pos c9] at H
     have c9b0 := eq_true c9
     have c9b1 : decide (0 ≤ t167) = true := decide_eq_true c9
     clear c9
     by_cases c10 : t167 ≤ (wrap64 (t167 + t166))
     ·rw [if_pos c10] at H
      have c10b0 := eq_true c10
      have c10b1 : decide (t167 ≤ (wrap64 (t167 + t166))) = true := decide_eq_true c10
      by_cases c11 : (wrap64 (t167 + t166)) ≤ (l0.length : Int)
      ·rw [if_pos c11] at H
       have c11b0 := eq_true c11
       have c11b1 : decide ((wrap64 (t167 + t166)) ≤ (l0.length : Int)) = true := decide_eq_true c11
       replace H := Option.bind_eq_some_iff.mp H
       obtain ⟨t170, A120, H⟩ := H
       replace H : (if t170 = true then (some (strOfNums ((l0.take ((wrap64 (t167 + t166)) : Int).toNat).drop (t167 : Int).toNat), wrap64 (t167 + t166))) else (some ((⟨#[]⟩ : ByteArray), (-1)))) = some (r1, r2) := H
       have A12 := Aside0.mk A120
       clear A120
       by_cases c13 : t170 = true
       ·subst c13
        have H1 : (some (strOfNums ((l0.take ((wrap64 (t167 + t166)) : Int).toNat).drop (t167 : Int).toNat), wrap64 (t167 + t166))) = some (r1, r2) := by rw [if_pos rfl] at H; exact H
        clear H
        have H := H1
        clear H1
        simp only [Option.some.injEq, Prod.mk.injEq] at H
        obtain ⟨rfl, rfl⟩ := H
        obtain ⟨i014, hi014, _, hsz14, _⟩ := info_parts info5
        obtain ⟨A14, hcut14, hA14, hC14⟩ := print_mid_of (P := Try.prog) (Value.int .u8) 0 39 5 .i64 .i64 Try.underlying39 hi014 hsz14 A0 c0 l0 t167 (wrap64 (t167 + t166)) (of_decide_eq_true (by assumption)) (by first | omega | exact of_decide_eq_true (by assumption)) (of_decide_eq_true (by assumption)) HC0.out
        have HR169 := Aside0.mk (Kd.C_of_reads (h1 := fun _ => rfl) (hA14 _ (Kd.reads_of_C HR0.out)))
        have HC169 := Aside0.mk hC14
        clear hA14 hC14 hi014 hsz14
        have hcv15 := Kd.C_string (P := Try.prog) (A := A14) (c := (c0 - t167.toNat)) Try.underlying39 Try.underlying5 Try.underlying9 HR169.out; (try (have hcw15 := fun m_ => Kd.C_string (P := Try.prog) (A := A14) (c := (c0 - t167.toNat)) Try.underlying39 Try.underlying5 Try.underlying9 (Kd.C_drewN HR169.out m_); (try (have hcx_ := hcw15; simp only [List.length_drop, List.length_take] at hcx_; rw [Nat.min_eq_left (by first | omega | ((try simp only [eq_iff_iff, iff_true] at *); omega))] at hcx_; have hcy15 := hcx_; clear hcx_))))
        go_wp2_with (first | ((with_reducible refine gate_callee (f := 68) rfl ?_); refine goesL_ (some 38) rfl rfl Try.func68 (by kernel_rfl) rfl #[.string (strOfNums ((l0.take ((wrap64 (t167 + t166)) : Int).toNat).drop (t167 : Int).toNat))] rfl aL ?_; (with_reducible refine (spec_WordOk.calls kj3 (strOfNums ((l0.take ((wrap64 (t167 + t166)) : Int).toNat).drop (t167 : Int).toNat)) true _ A12.out).mono ?_); rintro e w' ⟨rfl, ⟨nd, rfl⟩⟩; refine ⟨_, rfl, ?_⟩))
        go_ret2
        exact ⟨rF, by repeat (first | exact Drawn0.refl _ | apply Drawn0.step)⟩
       ·replace c13 := Bool.eq_false_iff.mpr c13
        subst c13
        have H1 : (some ((⟨#[]⟩ : ByteArray), (-1))) = some (r1, r2) := by rw [if_neg (show ¬ (false = true) by decide)] at H; exact H
        clear H
        have H := H1
        clear H1
        simp only [Option.some.injEq, Prod.mk.injEq] at H
        obtain ⟨rfl, rfl⟩ := H
        obtain ⟨i016, hi016, _, hsz16, _⟩ := info_parts info5
        obtain ⟨A16, hcut16, hA16, hC16⟩ := print_mid_of (P := Try.prog) (Value.int .u8) 0 39 5 .i64 .i64 Try.underlying39 hi016 hsz16 A0 c0 l0 t167 (wrap64 (t167 + t166)) (of_decide_eq_true (by assumption)) (by first | omega | exact of_decide_eq_true (by assumption)) (of_decide_eq_true (by assumption)) HC0.out
        have HR169 := Aside0.mk (Kd.C_of_reads (h1 := fun _ => rfl) (hA16 _ (Kd.reads_of_C HR0.out)))
        have HC169 := Aside0.mk hC16
        clear hA16 hC16 hi016 hsz16
        have hcv17 := Kd.C_string (P := Try.prog) (A := A16) (c := (c0 - t167.toNat)) Try.underlying39 Try.underlying5 Try.underlying9 HR169.out; (try (have hcw17 := fun m_ => Kd.C_string (P := Try.prog) (A := A16) (c := (c0 - t167.toNat)) Try.underlying39 Try.underlying5 Try.underlying9 (Kd.C_drewN HR169.out m_); (try (have hcx_ := hcw17; simp only [List.length_drop, List.length_take] at hcx_; rw [Nat.min_eq_left (by first | omega | ((try simp only [eq_iff_iff, iff_true] at *); omega))] at hcx_; have hcy17 := hcx_; clear hcx_))))
        go_wp2_with (first | ((with_reducible refine gate_callee (f := 68) rfl ?_); refine goesL_ (some 38) rfl rfl Try.func68 (by kernel_rfl) rfl #[.string (strOfNums ((l0.take ((wrap64 (t167 + t166)) : Int).toNat).drop (t167 : Int).toNat))] rfl aL ?_; (with_reducible refine (spec_WordOk.calls kj3 (strOfNums ((l0.take ((wrap64 (t167 + t166)) : Int).toNat).drop (t167 : Int).toNat)) false _ A12.out).mono ?_); rintro e w' ⟨rfl, ⟨nd, rfl⟩⟩; refine ⟨_, rfl, ?_⟩))
        go_ret2
        exact ⟨rF, by repeat (first | exact Drawn0.refl _ | apply Drawn0.step)⟩
      ·rw [if_neg c11] at H
       exact absurd H (by simp)
     ·rw [if_neg c10] at H
      exact absurd H (by simp)
    ·rw [if_neg c9] at H
     exact absurd H (by simp)

/-! ### spec_l05Slot: function 96 -/
-- FORM 1 1
def spec_l05Slot.f (k : Nat) (l0 : List Int) (a : Int) (b : Bool) : Option (Bool × Int × Bool) := (spec_l05Next.f k l0 a b).bind fun t => (spec_l01In.f t.1 0 1).bind fun u => some (decide (t.1 = 1), t.2.1, if u = true then t.2.2 else true)
theorem spec_l05Slot.mono : ∀ a0 a1 a2 k, LeO (spec_l05Slot.f k a0 a1 a2) (spec_l05Slot.f (k + 1) a0 a1 a2) := by
 intro a0 a1 a2 k
 unfold spec_l05Slot.f
 refine LeO.bind (spec_l05Next.mono _ _ _ _) (fun _ => LeO.refl _)
set_option maxHeartbeats 8000000 in
set_option maxRecDepth 100000 in
theorem spec_l05Slot.calls (k : Nat) (A0 : Option Addr) (c0 : Nat) (l0 : List Int) (a : Int) (b : Bool) (r1 : Bool) (r2 : Int) (r3 : Bool) (w0 : World) (w : World) (g : Nat) (hg : w.heap[g]? = some (.cells #[.slice A0 l0.length c0, .int .i64 a, .bool b] 99 (0, 0))) (hge : w0.heap.size ≤ g) (hB : Below w0.heap.size w0 w) (hr0 : Kd.C (Kd.int .u8) w0 A0 l0.length l0) (hc0 : l0.length ≤ c0) (h : spec_l05Slot.f k l0 a b = some (r1, r2, r3)) :
  Calls Try.prog 96 #[.pointer (some ⟨g, 0, none⟩)] w fun e w' => e = .returned (.bool r1) ∧ w'.heap[g]? = some (.cells #[.slice A0 l0.length c0, .int .i64 r2, .bool r3] 99 (0, 0)) ∧ Below w0.heap.size w0 w' ∧ KeepBut w w' g none := by
 have HR0 := Aside0.mk hr0
 have HC0 := Aside0.mk hc0
 have HB := Aside0.mk hB
 have HG := Aside0.mk hg
 have GE := Aside0.mk hge
 clear hr0 hc0 hB hg hge
 unfold spec_l05Slot.f at h
 obtain ⟨⟨t1, t2, t3⟩, f1, h⟩ := Option.bind_eq_some_iff.mp h
 obtain ⟨u, f2, h⟩ := Option.bind_eq_some_iff.mp h
 have F1 := Aside0.mk f1
 have F2 := Aside0.mk f2
 clear f1 f2
 simp only [Option.some.injEq, Prod.mk.injEq] at h
 obtain ⟨rfl, rfl, h3⟩ := h
 by_cases c1 : u = true
 ·rw [if_pos c1] at h3
  subst c1 h3
  go_enter Try.func96, Try.ntmps96
  go_wp2_with (first | (go_at_call 94; (with_reducible refine (spec_l05Next.calls k A0 c0 l0 a b t1 t2 t3 w0 _ g HG.out GE.out HB.out HR0.out HC0.out F1.out).mono ?_); rintro e w1 ⟨rfl, hg1, hb1, hk1⟩; have HG1 := Aside0.mk hg1; have HB1 := Aside0.mk hb1; have KB1 := Aside0.mk hk1; clear hk1; clear hg1 hb1) | (go_at_call 55; (with_reducible refine (spec_l01In.calls t1 0 1 true _ F2.out).mono ?_); rintro e w2 ⟨rfl, ⟨⟨nd, rfl⟩⟩⟩))
  go_ret
  exact ⟨by first | rfl | (simp; done) | (congr 1; simp [beq_eq_decide]; done), by first | exact HG1.out | exact blk_drewN HG1.out _, by first | exact HB1.out | exact pw_below_drewN HB1.out _, by repeat (first | exact KB1.out | refine KeepBut.set_ ?_ _ _ | refine keep_drewN ?_ _ | refine keep_drew ?_)⟩
 ·rw [if_neg c1] at h3
  obtain rfl : u = false := Bool.eq_false_iff.mpr c1
  clear c1
  subst h3
  go_enter Try.func96, Try.ntmps96
  go_wp2_with (first | (go_at_call 94; (with_reducible refine (spec_l05Next.calls k A0 c0 l0 a b t1 t2 t3 w0 _ g HG.out GE.out HB.out HR0.out HC0.out F1.out).mono ?_); rintro e w1 ⟨rfl, hg1, hb1, hk1⟩; have HG1 := Aside0.mk hg1; have HB1 := Aside0.mk hb1; have KB1 := Aside0.mk hk1; clear hk1; have hz2 : w1.cell? ⟨g, 2, none⟩ = some (.bool t3) := (blk_cell hg1 2).trans rfl; have hf2 := blk_frozen hg1 2; clear hg1 hb1) | (go_at_call 55; (with_reducible refine (spec_l01In.calls t1 0 1 false _ F2.out).mono ?_); rintro e w2 ⟨rfl, ⟨⟨nd, rfl⟩⟩⟩))
  go_ret
  exact ⟨by first | rfl | (simp; done) | (congr 1; simp [beq_eq_decide]; done), by first | exact blk_put (blk_drewN HG1.out _) 2 _ rfl | (refine blk_put ?_ 2 _ rfl; exact HG1.out), below_set (by first | exact HB1.out | exact pw_below_drewN HB1.out _) GE.out, by repeat (first | exact KB1.out | refine KeepBut.set_ ?_ _ _ | refine keep_drewN ?_ _ | refine keep_drew ?_)⟩

/-! ### impl_isNum: function 101 -/
def impl_isNum.f (a0 : Int) : Option (Bool) := (impl_in.f a0 (-1000000) 1000000).bind fun t213 => (some t213)
set_option maxHeartbeats 8000000 in
set_option maxRecDepth 100000 in
theorem impl_isNum.calls (a0 : Int) (r : Bool) (w : World) (h : impl_isNum.f a0 = some r) :
  Calls Try.prog 101 #[.int .i64 a0] w fun e w' => e = .returned (.bool r) ∧ Drawn0 w w' := by
 have H : ((impl_in.f a0 (-1000000) 1000000).bind fun t213 => (some t213)) = some r := h
 clear h
 replace H := Option.bind_eq_some_iff.mp H
 obtain ⟨t213, A20, H⟩ := H
 replace H : (some t213) = some r := H
 have A2 := Aside0.mk A20
 clear A20
 obtain rfl := Option.some.inj H
 go_enter Try.func101, Try.ntmps101
 go_wp2_with (first | ((with_reducible refine gate_callee (f := 59) rfl ?_); refine goesL_ (some 4) rfl rfl Try.func59 (by kernel_rfl) rfl #[.int .i64 a0, .int .i64 (-1000000), .int .i64 1000000] rfl aL ?_; (with_reducible refine (impl_in.calls a0 (-1000000) 1000000 t213 _ A2.out).mono ?_); rintro e w' ⟨rfl, ⟨nd, rfl⟩⟩; refine ⟨_, rfl, ?_⟩))
 go_ret
 exact ⟨rF, by repeat (first | exact Drawn0.refl _ | apply Drawn0.step)⟩

end Go.Proofs.Ytgmhohafoclmpaa.Q
