/- The machine side of a law, written by a program of this session over the translation: for each Go function a Lean function with the same answers, and the proof that the Go code comes to them. -/
import Derived.Test.YtbdfidnldaghbaaQx0
import Derived.Test.YtbdfidnldaghbaaQx3
import Derived.Test.YtbdfidnldaghbaaQx5
import Derived.Test.YtbdfidnldaghbaaQx6
namespace Go.Proofs.Ytbdfidnldaghbaa.Q
open Go.RowKit Go.Proofs.Ytbdfidnldaghbaa.Own Go.Proofs.YtbdfidnldaghbaaW.PrintWords Go.Proofs.YtbdfidnldaghbaaW.PrintLast Go.Proofs.YtbdfidnldaghbaaW.PrintMore
attribute [local go_sem] max2_int min2_int max_two min_two max_three min_three max_four min_four   -- for this text's walks alone
set_option linter.unusedVariables false
set_option linter.unusedSimpArgs false

/-! ### spec_PlanOk: function 35 -/
def spec_PlanOk.l0 : Nat → List (S58) → Int → Option (Bool)
 | 0, _, _ => none
 | k + 1, x0, x3 => if x3 < (x0.length : Int) then (if 0 ≤ x3 then ((spec_NodeOk.f k ((rd_T58 x0 x3).f0) ((rd_T58 x0 x3).f1) ((rd_T58 x0 x3).f2) ((rd_T58 x0 x3).f3) ((rd_T58 x0 x3).f4) ((rd_T58 x0 x3).f5) ((rd_T58 x0 x3).f6)).bind fun t443 => (if t443 = true then (spec_PlanOk.l0 k x0 (wrap64 (x3 + 1))) else (some false))) else (none)) else ((spec_l02End.f k x0 0 10).bind fun bt444 => (some (bt444.1 == (x0.length : Int))))
def spec_PlanOk.f (k : Nat) (l0 : List (S58)) : Option (Bool) := (spec_l01In.f (l0.length : Int) 1 40).bind fun t441 => (if t441 = true then (spec_PlanOk.l0 k l0 0) else (some false))
theorem spec_PlanOk.mono_l : ∀ k, (∀ y0 y1, LeO (spec_PlanOk.l0 k y0 y1) (spec_PlanOk.l0 (k + 1) y0 y1))
 | 0 => fun _ _ r h => by simp [spec_PlanOk.l0] at h
 | k + 1 => by
  have ih0 := spec_PlanOk.mono_l k
  ·intro y0 y1
   unfold spec_PlanOk.l0
   repeat' first
   | (with_reducible exact ih0 _ _)
   | (with_reducible exact spec_NodeOk.mono _ _ _ _ _ _ _ _)
   | (with_reducible exact spec_l02End.mono _ _ _ _)
   | (with_reducible exact LeO.refl _)
   | (with_reducible exact LeO.none _)
   | (with_reducible refine LeO.ite ?_ ?_)
   | (with_reducible refine LeO.bind ?_ (fun _ => ?_))
   | exact ih0 _ _
   | exact spec_NodeOk.mono _ _ _ _ _ _ _ _
   | exact spec_l02End.mono _ _ _ _
   | exact LeO.none _
   | refine LeO.ite ?_ ?_
   | refine LeO.bind ?_ (fun _ => ?_)
theorem spec_PlanOk.mono : ∀ a0 k, LeO (spec_PlanOk.f k a0) (spec_PlanOk.f (k + 1) a0) := by
 intro a0 k
 have ih0 := spec_PlanOk.mono_l k
 unfold spec_PlanOk.f
 repeat' first
   | (with_reducible exact ih0 _ _)
   | (with_reducible exact spec_NodeOk.mono _ _ _ _ _ _ _ _)
   | (with_reducible exact spec_l02End.mono _ _ _ _)
   | (with_reducible exact LeO.refl _)
   | (with_reducible exact LeO.none _)
   | (with_reducible refine LeO.ite ?_ ?_)
   | (with_reducible refine LeO.bind ?_ (fun _ => ?_))
   | exact ih0 _ _
   | exact spec_NodeOk.mono _ _ _ _ _ _ _ _
   | exact spec_l02End.mono _ _ _ _
   | exact LeO.none _
   | refine LeO.ite ?_ ?_
   | refine LeO.bind ?_ (fun _ => ?_)
set_option maxHeartbeats 8000000 in
set_option maxRecDepth 100000 in
theorem spec_PlanOk.calls (k : Nat) (A0 : Option Addr) (c0 : Nat) (l0 : List (S58)) (r : Bool) (w : World) (hr0 : Kd.C k58 w A0 l0.length l0) (hc0 : l0.length ≤ c0) (h : spec_PlanOk.f k l0 = some r) :
  Calls Try.prog 35 #[.slice A0 l0.length c0] w fun e w' => e = .returned (.bool r) ∧ Below w.heap.size w w' := by
 have hu58 := Try.underlying58
 have HR0 := Aside0.mk hr0
 have HC0 := Aside0.mk hc0
 clear hr0 hc0
 have HB := Aside0.mk (Below.refl w.heap.size w)
 have H : ((spec_l01In.f (l0.length : Int) 1 40).bind fun t441 => (if t441 = true then (spec_PlanOk.l0 k l0 0) else (some false))) = some r := h
 clear h
 replace H := Option.bind_eq_some_iff.mp H
 obtain ⟨t441, A20, H⟩ := H
 replace H : (if t441 = true then (spec_PlanOk.l0 k l0 0) else (some false)) = some r := H
 have A2 := Aside0.mk A20
 clear A20
 by_cases c3 : t441 = true
 ·subst c3
  have H1 : (spec_PlanOk.l0 k l0 0) = some r := by rw [if_pos rfl] at H; exact H
  clear H
  have H := H1
  clear H1
  have H' := Aside0.mk H
  clear H
  go_enter Try.func35, Try.ntmps35
  go_wp2_with (first | ((with_reducible refine gate_callee (f := 69) rfl ?_); refine goesL_ (some 8) rfl rfl Try.func69 (by kernel_rfl) rfl #[.int .i64 (l0.length : Int), .int .i64 1, .int .i64 40] rfl aL ?_; (with_reducible refine (spec_l01In.calls (l0.length : Int) 1 40 true _ A2.out).mono ?_); rintro e w' ⟨rfl, ⟨nd, rfl⟩⟩; refine ⟨_, rfl, ?_⟩))
  go_loopg [3] k (fun kq v3 w' => ∃ (x3_1 : Int), v3 = .int .i64 x3_1 ∧ Aside0 (spec_PlanOk.l0 kq l0 x3_1 = some r) ∧ Aside0 (kq ≤ k) ∧ Aside0 (Below w.heap.size w w'))
  case atStart => exact ⟨(0), rF, H', ⟨Nat.le_refl _⟩, ⟨bA⟩⟩
  case round =>
   clear H'
   try clear p2
   try clear c3
   obtain ⟨x3_1, rfl, HA, HK1, HB⟩ := hrel
   cases gk with
   | zero => exact absurd HA.out (by simp [spec_PlanOk.l0])
   | succ k1 =>
    have H := HA.out
    clear HA
    simp only [spec_PlanOk.l0] at H
    by_cases c4 : x3_1 < (l0.length : Int)
    ·rw [if_pos c4] at H
     have c4b0 : decide (x3_1 < (l0.length : Int)) = true := decide_eq_true c4
     clear c4
     by_cases c5 : 0 ≤ x3_1
     ·rw [if_pos c5] at H
      have c5b0 : decide (0 ≤ x3_1) = true := decide_eq_true c5
      clear c5
      replace H := Option.bind_eq_some_iff.mp H
      obtain ⟨t443, A60, H⟩ := H
      replace H : (if t443 = true then (spec_PlanOk.l0 k1 l0 (wrap64 (x3_1 + 1))) else (some false)) = some r := H
      have A6 := Aside0.mk A60
      clear A60
      by_cases c7 : t443 = true
      ·subst c7
       have H1 : (spec_PlanOk.l0 k1 l0 (wrap64 (x3_1 + 1))) = some r := by rw [if_pos rfl] at H; exact H
       clear H
       have H := H1
       clear H1
       have H' := Aside0.mk H
       clear H
       have p442 : 0 ≤ (x3_1 : Int) := of_decide_eq_true (by assumption)
       have q442 : x3_1 < (l0.length : Int) := of_decide_eq_true (by assumption)
       obtain ⟨ad442, A442_6, c442_6, e442, hx442_0, hx442_1, hx442_2, hx442_3, hx442_4, hx442_5, hx442_6, hl442_6, hi442_6⟩ := at_T58 HR0.out x3_1 p442 q442
       cases e442
       replace hx442_0 := hxB HB.out hx442_0
       replace hx442_1 := hxB HB.out hx442_1
       replace hx442_2 := hxB HB.out hx442_2
       replace hx442_3 := hxB HB.out hx442_3
       replace hx442_4 := hxB HB.out hx442_4
       replace hx442_5 := hxB HB.out hx442_5
       replace hx442_6 := hxB HB.out hx442_6
       have HR442_6 := Aside0.mk hi442_6
       have HC442_6 := Aside0.mk hl442_6
       clear hi442_6 hl442_6
       replace p442 := eq_true p442
       replace q442 := eq_true q442
       go_wp2_with (first | ((with_reducible refine gate_callee (f := 84) rfl ?_); refine goesL_ (some 20) rfl rfl Try.func84 (by kernel_rfl) rfl #[.agg #[.int .i64 ((rd_T58 l0 x3_1).f0), .string ((rd_T58 l0 x3_1).f1), .int .i64 ((rd_T58 l0 x3_1).f2), .int .i64 ((rd_T58 l0 x3_1).f3), .int .i64 ((rd_T58 l0 x3_1).f4), .bool ((rd_T58 l0 x3_1).f5), .slice A442_6 ((rd_T58 l0 x3_1).f6).length c442_6]] rfl aL ?_; (with_reducible refine (spec_NodeOk.calls k1 ((rd_T58 l0 x3_1).f0) ((rd_T58 l0 x3_1).f1) ((rd_T58 l0 x3_1).f2) ((rd_T58 l0 x3_1).f3) ((rd_T58 l0 x3_1).f4) ((rd_T58 l0 x3_1).f5) _ _ ((rd_T58 l0 x3_1).f6) true _ ?side1 ?side2 A6.out).mono ?_); (case side1 => exact cA); (case side2 => exact HC442_6.out); rintro e w8 ⟨rfl, hb⟩; refine ⟨_, rfl, ?_⟩; have n0_ := Aside0.mk (below_step bA hb); clear HB; have HB := n0_; clear n0_; (try clear hb); (try clear hb2); (try clear hk); (try clear hi)))
       go_roundg k1
       case measure => have := HK1.out; omega
       case rel => exact ⟨(wrap64 (x3_1 + 1)), rF, H', ⟨by have := HK1.out; omega⟩, ⟨bA⟩⟩
      ·replace c7 := Bool.eq_false_iff.mpr c7
       subst c7
       have H1 : (some false) = some r := by rw [if_neg (show ¬ (false = true) by decide)] at H; exact H
       clear H
       have H := H1
       clear H1
       obtain rfl := Option.some.inj H
       have p442 : 0 ≤ (x3_1 : Int) := of_decide_eq_true (by assumption)
       have q442 : x3_1 < (l0.length : Int) := of_decide_eq_true (by assumption)
       obtain ⟨ad442, A442_6, c442_6, e442, hx442_0, hx442_1, hx442_2, hx442_3, hx442_4, hx442_5, hx442_6, hl442_6, hi442_6⟩ := at_T58 HR0.out x3_1 p442 q442
       cases e442
       replace hx442_0 := hxB HB.out hx442_0
       replace hx442_1 := hxB HB.out hx442_1
       replace hx442_2 := hxB HB.out hx442_2
       replace hx442_3 := hxB HB.out hx442_3
       replace hx442_4 := hxB HB.out hx442_4
       replace hx442_5 := hxB HB.out hx442_5
       replace hx442_6 := hxB HB.out hx442_6
       have HR442_6 := Aside0.mk hi442_6
       have HC442_6 := Aside0.mk hl442_6
       clear hi442_6 hl442_6
       replace p442 := eq_true p442
       replace q442 := eq_true q442
       go_wp2_with (first | ((with_reducible refine gate_callee (f := 84) rfl ?_); refine goesL_ (some 20) rfl rfl Try.func84 (by kernel_rfl) rfl #[.agg #[.int .i64 ((rd_T58 l0 x3_1).f0), .string ((rd_T58 l0 x3_1).f1), .int .i64 ((rd_T58 l0 x3_1).f2), .int .i64 ((rd_T58 l0 x3_1).f3), .int .i64 ((rd_T58 l0 x3_1).f4), .bool ((rd_T58 l0 x3_1).f5), .slice A442_6 ((rd_T58 l0 x3_1).f6).length c442_6]] rfl aL ?_; (with_reducible refine (spec_NodeOk.calls k1 ((rd_T58 l0 x3_1).f0) ((rd_T58 l0 x3_1).f1) ((rd_T58 l0 x3_1).f2) ((rd_T58 l0 x3_1).f3) ((rd_T58 l0 x3_1).f4) ((rd_T58 l0 x3_1).f5) _ _ ((rd_T58 l0 x3_1).f6) false _ ?side1 ?side2 A6.out).mono ?_); (case side1 => exact cA); (case side2 => exact HC442_6.out); rintro e w9 ⟨rfl, hb⟩; refine ⟨_, rfl, ?_⟩; have n0_ := Aside0.mk (below_step bA hb); clear HB; have HB := n0_; clear n0_; (try clear hb); (try clear hb2); (try clear hk); (try clear hi)))
       go_ret
       exact ⟨rE, bA⟩
     ·rw [if_neg c5] at H
      exact absurd H (by simp)
    ·rw [if_neg c4] at H
     have c4b0 : decide (x3_1 < (l0.length : Int)) = false := decide_eq_false c4
     clear c4
     replace H := Option.bind_eq_some_iff.mp H
     obtain ⟨⟨t444, t445⟩, A100, H⟩ := H
     replace H : (some (t444 == (l0.length : Int))) = some r := H
     have A10 := Aside0.mk A100
     clear A100
     obtain rfl := Option.some.inj H
     go_wp2_with (first | ((with_reducible refine gate_callee (f := 85) rfl ?_); refine goesL_ (some 24) rfl rfl Try.func85 (by kernel_rfl) rfl #[.slice A0 l0.length c0, .int .i64 0, .int .i64 10] rfl aL ?_; (with_reducible refine (spec_l02End.calls k1 _ _ l0 0 10 t444 t445 _ ?side1 ?side2 A10.out).mono ?_); (case side1 => exact cA); (case side2 => exact HC0.out); rintro e w' ⟨rfl, ⟨nd, rfl⟩⟩; refine ⟨_, rfl, ?_⟩))
     go_ret
     exact ⟨rE, bA⟩
 ·replace c3 := Bool.eq_false_iff.mpr c3
  subst c3
  have H1 : (some false) = some r := by rw [if_neg (show ¬ (false = true) by decide)] at H; exact H
  clear H
  have H := H1
  clear H1
  obtain rfl := Option.some.inj H
  go_enter Try.func35, Try.ntmps35
  go_wp2_with (first | ((with_reducible refine gate_callee (f := 69) rfl ?_); refine goesL_ (some 8) rfl rfl Try.func69 (by kernel_rfl) rfl #[.int .i64 (l0.length : Int), .int .i64 1, .int .i64 40] rfl aL ?_; (with_reducible refine (spec_l01In.calls (l0.length : Int) 1 40 false _ A2.out).mono ?_); rintro e w' ⟨rfl, ⟨nd, rfl⟩⟩; refine ⟨_, rfl, ?_⟩))
  go_ret
  exact ⟨rE, bA⟩

/-! ### spec_DepthOf: function 37 -/
def spec_DepthOf.f (k : Nat) (l0 : List (S58)) : Option (Int) := (spec_PlanOk.f k l0).bind fun t459 => (if t459 = true then ((spec_l02End.f k l0 0 10).bind fun bt460 => (some bt460.2)) else (some 0))
theorem spec_DepthOf.mono : ∀ a0 k, LeO (spec_DepthOf.f k a0) (spec_DepthOf.f (k + 1) a0) := by
 intro a0 k
 unfold spec_DepthOf.f
 repeat' first
   | (with_reducible exact spec_PlanOk.mono _ _)
   | (with_reducible exact spec_l02End.mono _ _ _ _)
   | (with_reducible exact LeO.refl _)
   | (with_reducible exact LeO.none _)
   | (with_reducible refine LeO.ite ?_ ?_)
   | (with_reducible refine LeO.bind ?_ (fun _ => ?_))
   | exact spec_PlanOk.mono _ _
   | exact spec_l02End.mono _ _ _ _
   | exact LeO.none _
   | refine LeO.ite ?_ ?_
   | refine LeO.bind ?_ (fun _ => ?_)
set_option maxHeartbeats 8000000 in
set_option maxRecDepth 100000 in
theorem spec_DepthOf.calls (k : Nat) (A0 : Option Addr) (c0 : Nat) (l0 : List (S58)) (r : Int) (w : World) (hr0 : Kd.C k58 w A0 l0.length l0) (hc0 : l0.length ≤ c0) (h : spec_DepthOf.f k l0 = some r) :
  Calls Try.prog 37 #[.slice A0 l0.length c0] w fun e w' => e = .returned (.int .i64 r) ∧ Below w.heap.size w w' := by
 have HR0 := Aside0.mk hr0
 have HC0 := Aside0.mk hc0
 clear hr0 hc0
 have HB := Aside0.mk (Below.refl w.heap.size w)
 have H : ((spec_PlanOk.f k l0).bind fun t459 => (if t459 = true then ((spec_l02End.f k l0 0 10).bind fun bt460 => (some bt460.2)) else (some 0))) = some r := h
 clear h
 replace H := Option.bind_eq_some_iff.mp H
 obtain ⟨t459, A20, H⟩ := H
 replace H : (if t459 = true then ((spec_l02End.f k l0 0 10).bind fun bt460 => (some bt460.2)) else (some 0)) = some r := H
 have A2 := Aside0.mk A20
 clear A20
 by_cases c3 : t459 = true
 ·subst c3
  have H1 : ((spec_l02End.f k l0 0 10).bind fun bt460 => (some bt460.2)) = some r := by rw [if_pos rfl] at H; exact H
  clear H
  have H := H1
  clear H1
  replace H := Option.bind_eq_some_iff.mp H
  obtain ⟨⟨t460, t461⟩, A40, H⟩ := H
  replace H : (some t461) = some r := H
  have A4 := Aside0.mk A40
  clear A40
  obtain rfl := Option.some.inj H
  go_enter Try.func37, Try.ntmps37
  go_wp2_with (first | ((with_reducible refine gate_callee (f := 35) rfl ?_); refine goesL_ (some 6) rfl rfl Try.func35 (by kernel_rfl) rfl #[.slice A0 l0.length c0] rfl aL ?_; (with_reducible refine (spec_PlanOk.calls k _ _ l0 true _ ?side1 ?side2 A2.out).mono ?_); (case side1 => exact cA); (case side2 => exact HC0.out); rintro e w5 ⟨rfl, hb⟩; refine ⟨_, rfl, ?_⟩; have n0_ := Aside0.mk (below_step bA hb); clear HB; have HB := n0_; clear n0_; (try clear hb); (try clear hb2); (try clear hk); (try clear hi)) | ((with_reducible refine gate_callee (f := 85) rfl ?_); refine goesL_ (some 10) rfl rfl Try.func85 (by kernel_rfl) rfl #[.slice A0 l0.length c0, .int .i64 0, .int .i64 10] rfl aL ?_; (with_reducible refine (spec_l02End.calls k _ _ l0 0 10 t460 t461 _ ?side1 ?side2 A4.out).mono ?_); (case side1 => exact cA); (case side2 => exact HC0.out); rintro e w' ⟨rfl, ⟨nd, rfl⟩⟩; refine ⟨_, rfl, ?_⟩))
  go_ret
  exact ⟨rE, bA⟩
 ·replace c3 := Bool.eq_false_iff.mpr c3
  subst c3
  have H1 : (some 0) = some r := by rw [if_neg (show ¬ (false = true) by decide)] at H; exact H
  clear H
  have H := H1
  clear H1
  obtain rfl := Option.some.inj H
  go_enter Try.func37, Try.ntmps37
  go_wp2_with (first | ((with_reducible refine gate_callee (f := 35) rfl ?_); refine goesL_ (some 6) rfl rfl Try.func35 (by kernel_rfl) rfl #[.slice A0 l0.length c0] rfl aL ?_; (with_reducible refine (spec_PlanOk.calls k _ _ l0 false _ ?side1 ?side2 A2.out).mono ?_); (case side1 => exact cA); (case side2 => exact HC0.out); rintro e w6 ⟨rfl, hb⟩; refine ⟨_, rfl, ?_⟩; have n0_ := Aside0.mk (below_step bA hb); clear HB; have HB := n0_; clear n0_; (try clear hb); (try clear hb2); (try clear hk); (try clear hi)))
  go_ret
  exact ⟨rE, bA⟩

/-! ### impl_PartOf: function 39 -/
def impl_PartOf.f (k : Nat) (l0 : List (S58)) (a1 : Int) : Option ((List (S58))) := (impl_has.f k l0 a1).bind fun t480 => (if t480 = true then ((impl_end.f k l0 a1 1).bind fun t481 => (if 0 ≤ a1 then (if a1 ≤ t481 then (if t481 ≤ (l0.length : Int) then ((impl_own.f k ((l0.take (t481 : Int).toNat).drop (a1 : Int).toNat)).bind fun t486 => (some t486)) else (none)) else (none)) else (none))) else (some ([] : List (S58))))
theorem impl_PartOf.mono : ∀ a0 a1 k, LeO (impl_PartOf.f k a0 a1) (impl_PartOf.f (k + 1) a0 a1) := by
 intro a0 a1 k
 unfold impl_PartOf.f
 repeat' first
   | (with_reducible exact impl_end.mono _ _ _ _)
   | (with_reducible exact impl_has.mono _ _ _)
   | (with_reducible exact impl_own.mono _ _)
   | (with_reducible exact LeO.refl _)
   | (with_reducible exact LeO.none _)
   | (with_reducible refine LeO.ite ?_ ?_)
   | (with_reducible refine LeO.bind ?_ (fun _ => ?_))
   | exact impl_end.mono _ _ _ _
   | exact impl_has.mono _ _ _
   | exact impl_own.mono _ _
   | exact LeO.none _
   | refine LeO.ite ?_ ?_
   | refine LeO.bind ?_ (fun _ => ?_)
set_option maxHeartbeats 8000000 in
set_option maxRecDepth 100000 in
theorem impl_PartOf.calls (k : Nat) (A0 : Option Addr) (c0 : Nat) (l0 : List (S58)) (a1 : Int) (r : List (S58)) (w : World) (hr0 : Kd.C k58 w A0 l0.length l0) (hc0 : l0.length ≤ c0) (h : impl_PartOf.f k l0 a1 = some r) :
  Calls Try.prog 39 #[.slice A0 l0.length c0, .int .i64 a1] w fun e w' => ∃ v0_ : Value, e = .returned (v0_) ∧ Kd.S k58 58 w' w.heap.size (fun _ => True) v0_ r ∧ Below w.heap.size w w' := by
 have HR0 := Aside0.mk hr0
 have HC0 := Aside0.mk hc0
 clear hr0 hc0
 have HB := Aside0.mk (Below.refl w.heap.size w)
 have H : ((impl_has.f k l0 a1).bind fun t480 => (if t480 = true then ((impl_end.f k l0 a1 1).bind fun t481 => (if 0 ≤ a1 then (if a1 ≤ t481 then (if t481 ≤ (l0.length : Int) then ((impl_own.f k ((l0.take (t481 : Int).toNat).drop (a1 : Int).toNat)).bind fun t486 => (some t486)) else (none)) else (none)) else (none))) else (some ([] : List (S58))))) = some r := h
 clear h
 replace H := Option.bind_eq_some_iff.mp H
 obtain ⟨t480, A30, H⟩ := H
 replace H : (if t480 = true then ((impl_end.f k l0 a1 1).bind fun t481 => (if 0 ≤ a1 then (if a1 ≤ t481 then (if t481 ≤ (l0.length : Int) then ((impl_own.f k ((l0.take (t481 : Int).toNat).drop (a1 : Int).toNat)).bind fun t486 => (some t486)) else (none)) else (none)) else (none))) else (some ([] : List (S58)))) = some r := H
 have A3 := Aside0.mk A30
 clear A30
 by_cases c4 : t480 = true
 ·subst c4
  have H1 : ((impl_end.f k l0 a1 1).bind fun t481 => (if 0 ≤ a1 then (if a1 ≤ t481 then (if t481 ≤ (l0.length : Int) then ((impl_own.f k ((l0.take (t481 : Int).toNat).drop (a1 : Int).toNat)).bind fun t486 => (some t486)) else (none)) else (none)) else (none))) = some r := by rw [if_pos rfl] at H; exact H
  clear H
  have H := H1
  clear H1
  replace H := Option.bind_eq_some_iff.mp H
  obtain ⟨t481, A50, H⟩ := H
  replace H : (if 0 ≤ a1 then (if a1 ≤ t481 then (if t481 ≤ (l0.length : Int) then ((impl_own.f k ((l0.take (t481 : Int).toNat).drop (a1 : Int).toNat)).bind fun t486 => (some t486)) else (none)) else (none)) else (none)) = some r := H
  have A5 := Aside0.mk A50
  clear A50
  by_cases c6 : 0 ≤ a1
  ·rw [if_pos c6] at H
   have c6b0 := eq_true c6
   have c6b1 : decide (0 ≤ a1) = true := decide_eq_true c6
   clear c6
   by_cases c7 : a1 ≤ t481
   ·rw [if_pos c7] at H
    have c7b0 := eq_true c7
    have c7b1 : decide (a1 ≤ t481) = true := decide_eq_true c7
    clear c7
    by_cases c8 : t481 ≤ (l0.length : Int)
    ·rw [if_pos c8] at H
     have c8b0 := eq_true c8
     have c8b1 : decide (t481 ≤ (l0.length : Int)) = true := decide_eq_true c8
     clear c8
     obtain ⟨y482, hy482⟩ : ∃ y_ : List (S58), y_ = ((l0.take (t481 : Int).toNat).drop (a1 : Int).toNat) := ⟨_, rfl⟩
     replace H : ((impl_own.f k y482).bind fun t486 => (some t486)) = some r := by first | (rw [hy482]; with_reducible exact H) | (have H2_ := (Option.bind_some _ _).symm.trans H; rw [hy482]; with_reducible exact H2_) | (have H2_ := (Option.bind_some _ _).symm.trans H; with_reducible exact H2_) | with_reducible exact H | (rw [hy482]; exact H) | exact H
     have Ny482 := Aside0.mk hy482
     clear hy482
     replace H := Option.bind_eq_some_iff.mp H
     obtain ⟨t486, A90, H⟩ := H
     replace H : (some t486) = some r := H
     have A9 := Aside0.mk A90
     clear A90
     obtain rfl := Option.some.inj H
     go_enter Try.func39, Try.ntmps39
     go_wp2_with (first | ((with_reducible refine gate_callee (f := 87) rfl ?_); refine goesL_ (some 7) rfl rfl Try.func87 (by kernel_rfl) rfl #[.slice A0 l0.length c0, .int .i64 a1] rfl aL ?_; (with_reducible refine (impl_has.calls k _ _ l0 a1 true _ ?side1 ?side2 A3.out).mono ?_); (case side1 => exact cA); (case side2 => exact HC0.out); rintro e w10 ⟨rfl, hb⟩; refine ⟨_, rfl, ?_⟩; have n0_ := Aside0.mk (below_step bA hb); clear HB; have HB := n0_; clear n0_; (try clear hb); (try clear hb2); (try clear hk); (try clear hi)) | ((with_reducible refine gate_callee (f := 83) rfl ?_); refine goesL_ (some 13) rfl rfl Try.func83 (by kernel_rfl) rfl #[.slice A0 l0.length c0, .int .i64 a1, .int .i64 1] rfl aL ?_; (with_reducible refine (impl_end.calls k _ _ l0 a1 1 t481 _ ?side1 ?side2 A5.out).mono ?_); (case side1 => exact cA); (case side2 => exact HC0.out); rintro e w' ⟨rfl, ⟨nd, rfl⟩⟩; refine ⟨_, rfl, ?_⟩; have q11 : (t481 : Int) ≤ ((l0.length : Int) : Int) := of_decide_eq_true (by assumption); obtain ⟨i011, hi011, _, hsz11, _⟩ := info_parts info58; have hroom11 : l0.length ≤ c0 := HC0.out; have hC11 : Kd.C k58 _ A0 l0.length l0 := HR0.out; have ql11 : (a1 : Int) ≤ (t481 : Int) := of_decide_eq_true (by assumption); have q011 : (0 : Int) ≤ (a1 : Int) := of_decide_eq_true (by assumption); have hcut11 := cut_mid (P := Try.prog) 46 58 .i64 .i64 Try.underlying46 hi011 7 hsz11 A0 l0.length c0 a1 t481 q011 ql11 q11 hroom11; have hr11 := Kd.C_mid (lo := (a1 : Int).toNat) (hi := (t481 : Int).toNat) (c := c0) hC11 (by omega) (by omega) hroom11; obtain ⟨A11, hA11⟩ : ∃ A1, A1 = (if c0 = (a1 : Int).toNat then A0 else (A0 : Option Addr).map (·.add ((a1 : Int).toNat * 7))) := ⟨_, rfl⟩; obtain ⟨c11, hc11⟩ : ∃ c1, c1 = c0 - (a1 : Int).toNat := ⟨_, rfl⟩; have hy11 : y482.length = (t481 : Int).toNat - (a1 : Int).toNat := (by rw [Ny482.out, List.length_drop, List.length_take] <;> omega); rw [show ((l0).take (t481 : Int).toNat).drop (a1 : Int).toNat = y482 from Ny482.out.symm] at hr11; replace hr11 : Kd.C k58 _ A11 y482.length y482 := (by rw [hA11]; exact hr11); rw [← hy11, ← hA11, ← hc11] at hcut11; have HR485 := Aside0.mk hr11; have HC485 := Aside0.mk (show y482.length ≤ c11 from by rw [hy11, hc11]; exact Nat.sub_le_sub_right (Nat.le_trans (by omega) hroom11) _); clear hr11 hC11 hroom11 hi011 hsz11 hc11; have KY11 := Aside0.mk hy11; have KA11 := Aside0.mk hA11; clear hy11 hA11; replace q11 := eq_true q11) | ((with_reducible refine gate_callee (f := 88) rfl ?_); refine goesL_ (some 15) rfl rfl Try.func88 (by kernel_rfl) rfl #[.slice A11 y482.length c11] rfl aL ?_; (with_reducible refine (impl_own.calls k _ _ y482 t486 _ ?side1 ?side2 A9.out).mono ?_); (case side1 => repeat (first | exact (Kd.C_below HR485.out bA) | (with_reducible refine Kd.C_alloc ?_ _) | (with_reducible refine Kd.C_drewN ?_ _) | (with_reducible refine Kd.C_drew ?_))); (case side2 => exact HC485.out); rintro e w12 ⟨v487, rfl, ho0, hb⟩; refine ⟨_, rfl, ?_⟩; have n0_ := Aside0.mk (Kd.S_lower ho0 (below_size bA)); have n1_ := Aside0.mk (below_step bA hb); clear HB; have HO488 := n0_; have HB := n1_; clear n0_ n1_; (try clear hb); (try clear hb2); (try clear hk); (try clear hi); (try clear ho0)))
     go_ret
     exact ⟨_, rE, by (with_reducible repeat (first | apply Kd.S_alloc | apply Kd.S_drewN | apply Kd.S_drew)); exact HO488.out, bA⟩
    ·rw [if_neg c8] at H
     exact absurd H (by simp)
   ·rw [if_neg c7] at H
    exact absurd H (by simp)
  ·rw [if_neg c6] at H
   exact absurd H (by simp)
 ·replace c4 := Bool.eq_false_iff.mpr c4
  subst c4
  have H1 : (some ([] : List (S58))) = some r := by rw [if_neg (show ¬ (false = true) by decide)] at H; exact H
  clear H
  have H := H1
  clear H1
  obtain rfl := Option.some.inj H
  go_enter Try.func39, Try.ntmps39
  go_wp2_with (first | ((with_reducible refine gate_callee (f := 87) rfl ?_); refine goesL_ (some 7) rfl rfl Try.func87 (by kernel_rfl) rfl #[.slice A0 l0.length c0, .int .i64 a1] rfl aL ?_; (with_reducible refine (impl_has.calls k _ _ l0 a1 false _ ?side1 ?side2 A3.out).mono ?_); (case side1 => exact cA); (case side2 => exact HC0.out); rintro e w13 ⟨rfl, hb⟩; refine ⟨_, rfl, ?_⟩; have n0_ := Aside0.mk (below_step bA hb); clear HB; have HB := n0_; clear n0_; (try clear hb); (try clear hb2); (try clear hk); (try clear hi)))
  go_ret
  exact ⟨_, rE, by first | exact Kd.S_nil _ _ _ _ _ | exact Kd.N_nil _ _ _ _ _ | exact Kd.V_nil _ _ _ _ _ | exact Kd.Q_nil _ _ _ _ _ | exact Kd.R_nil _ _ _ _ _, bA⟩

-- NOT PRINTED: function 119 (slices_Grow_impl_Node_impl_Node)

/-! ### slices_Concat_impl_Node_impl_Node: function 89 -/
def slices_Concat_impl_Node_impl_Node.sum : List (List S58) → Nat
 | [] => 0
 | x :: xs => x.length + slices_Concat_impl_Node_impl_Node.sum xs
theorem slices_Concat_impl_Node_impl_Node.sum_flatten : ∀ l : List (List S58), l.flatten.length = slices_Concat_impl_Node_impl_Node.sum l
 | [] => rfl
 | x :: xs => by simp [slices_Concat_impl_Node_impl_Node.sum, slices_Concat_impl_Node_impl_Node.sum_flatten xs]
theorem slices_Concat_impl_Node_impl_Node.sum_app : ∀ l m : List (List S58), slices_Concat_impl_Node_impl_Node.sum (l ++ m) = slices_Concat_impl_Node_impl_Node.sum l + slices_Concat_impl_Node_impl_Node.sum m
 | [], m => by simp [slices_Concat_impl_Node_impl_Node.sum]
 | x :: xs, m => by simp [slices_Concat_impl_Node_impl_Node.sum, slices_Concat_impl_Node_impl_Node.sum_app xs m, Nat.add_assoc]
def slices_Concat_impl_Node_impl_Node.row (x0 : List (List S58)) (i : Nat) : List S58 := x0.getD i []
theorem slices_Concat_impl_Node_impl_Node.take_succ (l : List (List S58)) (i : Nat) (h : i < l.length) : l.take (i + 1) = l.take i ++ [slices_Concat_impl_Node_impl_Node.row l i] := by
 rw [List.take_add_one]; simp [slices_Concat_impl_Node_impl_Node.row, h]
theorem slices_Concat_impl_Node_impl_Node.sum_take (l : List (List S58)) (i : Nat) : slices_Concat_impl_Node_impl_Node.sum (l.take i) ≤ slices_Concat_impl_Node_impl_Node.sum l := by
 have := slices_Concat_impl_Node_impl_Node.sum_app (l.take i) (l.drop i)
 rw [List.take_append_drop] at this
 omega
theorem slices_Concat_impl_Node_impl_Node.foot {w W : World} {A : Option Addr} {n : Nat} {xs : List S58} (h : Kd.C k58 w A n xs) (hb : Below w.heap.size w W) : Kd.F k58 W (fun k => k < w.heap.size) A n xs :=
 Kd.F_step (Kd.C_F (Kd.heap_iso _ (Kd.heap_pair (Kd.heap_int _) (Kd.heap_pair Kd.heap_string (Kd.heap_pair (Kd.heap_int _) (Kd.heap_pair (Kd.heap_int _) (Kd.heap_pair (Kd.heap_int _) (Kd.heap_pair Kd.heap_bool (Kd.heap_slice 3 (Kd.heap_int _)))))))) : Kd.Heap k58) h) (fun k hk _ => hb.block k hk)
set_option maxHeartbeats 8000000 in
set_option maxRecDepth 100000 in
theorem slices_Concat_impl_Node_impl_Node.grow (n : Int) (w : World) (h0 : 0 ≤ n) (h1 : n ≤ 1759218604441) :
  Calls Try.prog 119 #[.slice none 0 0, .int .i64 n] w fun e w' => ∃ v0_ : Value, e = .returned v0_ ∧ Kd.N k58 58 w' w.heap.size (fun _ => True) v0_ ([] : List S58) ∧ Below w.heap.size w w' := by
 have HB := Aside0.mk (Below.refl w.heap.size w)
 obtain ⟨i0, hi0, _, hsz, _⟩ := info_parts info58
 have hcz : ∀ W : World, (Instr.slice 46 (.slice none 0 0) none (some (.int .i64 0)) none).run Try.prog W = .ok (.slice none 0 0) W := by
  intro W
  have h_ := cut_to (P := Try.prog) 46 58 .i64 Try.underlying46 hi0 none 0 0 0 (by omega) (by omega) (by omega) W
  simpa using h_
 have hct : ∀ (A : Option Addr) (m c : Nat), m ≤ c → ∀ W : World, (Instr.slice 46 (.slice A m c) none (some (.int .i64 0)) none).run Try.prog W = .ok (.slice A 0 c) W := by
  intro A m c hc W
  have h_ := cut_to (P := Try.prog) 46 58 .i64 Try.underlying46 hi0 A m c 0 (by omega) (by omega) hc W
  simpa using h_
 have hlt : decide (n < 0) = false := decide_eq_false (by omega)
 have hw : wrap64 (n - 0) = n := by unfold wrap64; omega
 by_cases hn : 0 < n
 ·have hgt : decide (0 < n) = true := decide_eq_true hn
  go_enter Try.func119, Try.ntmps119
  go_wp2_with (first | ((with_reducible refine gate_builtin (b := .append) (xs := #[.tmp 20, .tmp 21]) rfl ?_); at_builtin; refine Kd.N_append_zeros k58 (w0 := w) w.heap.size rfl (.tmp 20) (.tmp 21) 46 3 58 (.agg #[.int .i64 0, .string ⟨#[]⟩, .int .i64 0, .int .i64 0, .int .i64 0, .bool false, .slice none 0 0]) 80 rfl Try.underlying46 Try.underlying3 info58 rfl (by decide) (by omega) (.slice none 0 0) ([] : List S58) z58 (kx := .i64) n (fun _ => True) rfl rfl (k58_mkF _ _ z58 (Nat.le_refl _) (fun _ _ => Kd.C_nil _ _)) (fun _ _ => trivial) (Kd.N_nil _ _ _ _ _) h0 HB.out (Nat.le_refl _) (by simp; omega) ?_; intro v1 w1 ho hb hg hat; obtain ⟨A1, c1, e1, hc1, _⟩ := Kd.N_reads ho; subst e1; have HO1 := Aside0.mk ho; have n0_ := Aside0.mk hb; clear HB ho hb hg hat; have HB := n0_; clear n0_; have hcut := hct A1 _ c1 hc1; clear hc1))
  go_ret
  refine ⟨_, rfl, ?_, HB.out⟩
  have h2 := Kd.N_take (m := 0) HO1.out (by omega)
  simpa using h2
 ·have hgt : decide (0 < n) = false := decide_eq_false hn
  go_enter Try.func119, Try.ntmps119
  go_wp2
  go_ret
  exact ⟨_, rfl, Kd.N_nil _ _ _ _ _, HB.out⟩
def slices_Concat_impl_Node_impl_Node.f (k : Nat) (l0 : List (List S58)) : Option (List S58) := if slices_Concat_impl_Node_impl_Node.sum l0 ≤ 1759218604441 then some l0.flatten else none
theorem slices_Concat_impl_Node_impl_Node.mono : ∀ a0 k, LeO (slices_Concat_impl_Node_impl_Node.f k a0) (slices_Concat_impl_Node_impl_Node.f (k + 1) a0) := fun _ _ => LeO.refl _
theorem slices_Concat_impl_Node_impl_Node.at_ {w : World} {A : Option Addr} {n : Nat} {xs : List (List S58)} (h : Kd.C (Kd.slice 58 k58) w A n xs) (i : Nat) (h1 : i < n) : ∃ ad A0 c0, A = some ad ∧ w.cell? (ad.add i) = some (.slice A0 (slices_Concat_impl_Node_impl_Node.row xs i).length c0) ∧ (slices_Concat_impl_Node_impl_Node.row xs i).length ≤ c0 ∧ k58.C w A0 (slices_Concat_impl_Node_impl_Node.row xs i).length (slices_Concat_impl_Node_impl_Node.row xs i) := by
 obtain ⟨ad, c, e, _, hK, hc0⟩ := Kd.C_get h ([] : List S58) (i : Int) (by omega) (by omega)
 have hc : ∀ j u, c[j]? = some u → w.cell? (ad.add (i * 1 + j)) = some u := hc0
 obtain ⟨A0, c0, rfl, l0, g0⟩ := hK
 exact ⟨ad, A0, c0, e, by have hq := hc 0 _ rfl; rwa [Nat.mul_one, Nat.add_zero] at hq, l0, g0⟩
set_option maxHeartbeats 8000000 in
set_option maxRecDepth 100000 in
theorem slices_Concat_impl_Node_impl_Node.calls (k : Nat) (A0 : Option Addr) (c0 : Nat) (l0 : List (List S58)) (r : List S58) (w : World) (hr0 : Kd.C (Kd.slice 58 k58) w A0 l0.length l0) (hc0 : l0.length ≤ c0) (h : slices_Concat_impl_Node_impl_Node.f k l0 = some r) :
  Calls Try.prog 89 #[.slice A0 l0.length c0] w fun e w' => ∃ v0_ : Value, e = .returned (v0_) ∧ Kd.N k58 58 w' w.heap.size (fun _ => True) v0_ r ∧ Below w.heap.size w w' := by
 have hsum : slices_Concat_impl_Node_impl_Node.sum l0 ≤ 1759218604441 := by
  unfold slices_Concat_impl_Node_impl_Node.f at h
  by_cases hs : slices_Concat_impl_Node_impl_Node.sum l0 ≤ 1759218604441
  ·exact hs
  ·rw [if_neg hs] at h; cases h
 have hr : l0.flatten = r := by
  unfold slices_Concat_impl_Node_impl_Node.f at h
  rw [if_pos hsum] at h
  exact Option.some.inj h
 subst hr
 clear h
 have hl0 : l0.length ≤ 9223372036854775807 := hr0.2.1
 have HS := Aside0.mk hsum
 have HL := Aside0.mk hl0
 have HR0 := Aside0.mk hr0
 have HC0 := Aside0.mk hc0
 clear hr0 hc0 hsum hl0
 have HB := Aside0.mk (Below.refl w.heap.size w)
 go_enter Try.func89, Try.ntmps89
 go_wp2
 go_loopg [3, 11] l0.length (fun kq v3 v11 w' => ∃ i : Nat, v3 = .int .i64 (slices_Concat_impl_Node_impl_Node.sum (l0.take i) : Int) ∧ v11 = .int .i64 (i : Int) ∧ Aside0 (kq + i = l0.length) ∧ Aside0 (Below w.heap.size w w'))
 case atStart => exact ⟨0, by first | rfl | (simp [slices_Concat_impl_Node_impl_Node.sum]; done), by first | rfl | (simp; done), ⟨by omega⟩, ⟨bA⟩⟩
 case round =>
  obtain ⟨i, rfl, rfl, HK1, HB⟩ := hrel
  cases gk with
  | zero =>
   have hi : i = l0.length := by have := HK1.out; omega
   subst hi
   have c3 : decide ((l0.length : Int) < (l0.length : Int)) = false := decide_eq_false (by omega)
   rw [List.take_length]
   have hs0 : (slices_Concat_impl_Node_impl_Node.sum l0 : Int) ≤ 1759218604441 := by have := HS.out; omega
   have HS2 := Aside0.mk hs0
   clear hs0
   go_wp2_with (first | (go_at_call 119; (with_reducible refine (slices_Concat_impl_Node_impl_Node.grow (slices_Concat_impl_Node_impl_Node.sum l0 : Int) _ (by omega) HS2.out).mono ?_); rintro e w8 ⟨v6, rfl, ho, hb⟩; have n0_ := Aside0.mk (below_step bA hb); have HO6 := Aside0.mk (Kd.N_lower ho (below_size bA)); clear HB ho hb; have HB := n0_; clear n0_))
   go_loopg [6, 27] l0.length (fun kq v6 v27 w' => ∃ (i : Nat), v27 = .int .i64 (i : Int) ∧ Aside0 (kq + i = l0.length) ∧ Aside0 (Kd.N k58 58 w' w.heap.size (fun _ => True) v6 (l0.take i).flatten) ∧ Aside0 (Below w.heap.size w w'))
   case atStart => exact ⟨0, by first | rfl | (simp; done), ⟨by omega⟩, ⟨by (with_reducible repeat (first | apply Kd.N_alloc | apply Kd.N_drewN | apply Kd.N_drew)); exact HO6.out⟩, ⟨bA⟩⟩
   case round =>
    clear HO6 HB HK1
    rename_i v6q v27q
    obtain ⟨i, rfl, HK1, HO6, HB⟩ := hrel
    cases gk with
    | zero =>
     have hi : i = l0.length := by have := HK1.out; omega
     subst hi
     have c3 : decide ((l0.length : Int) < (l0.length : Int)) = false := decide_eq_false (by omega)
     rw [List.take_length] at HO6
     go_wp2
     go_ret
     exact ⟨_, rfl, by (with_reducible repeat (first | apply Kd.N_alloc | apply Kd.N_drewN | apply Kd.N_drew)); exact HO6.out, bA⟩
    | succ k1 =>
     have hi : i < l0.length := by have := HK1.out; omega
     have c3 : decide ((i : Int) < (l0.length : Int)) = true := decide_eq_true (by omega)
     obtain ⟨ad, Ai, ci, e, hx, hli, hCi⟩ := slices_Concat_impl_Node_impl_Node.at_ HR0.out i hi
     subst e
     replace hx := hxB HB.out hx
     have HCI := Aside0.mk hCi
     have p5 : (0 ≤ (i : Int)) = True := eq_true (by omega)
     have q5 : ((i : Int) < (l0.length : Int)) = True := eq_true (by omega)
     have hw2 : wrap64 ((i : Int) + 1) = ((i + 1 : Nat) : Int) := by have := HL.out; unfold wrap64; omega
     have hlim : ((l0.take i).flatten.length + (slices_Concat_impl_Node_impl_Node.row l0 i).length) * 80 ≤ 140737488355328 := by
      have h1 := slices_Concat_impl_Node_impl_Node.sum_take l0 (i + 1)
      rw [slices_Concat_impl_Node_impl_Node.take_succ l0 i hi, slices_Concat_impl_Node_impl_Node.sum_app] at h1
      have h2 : slices_Concat_impl_Node_impl_Node.sum [slices_Concat_impl_Node_impl_Node.row l0 i] = (slices_Concat_impl_Node_impl_Node.row l0 i).length := rfl
      have h3 := HS.out
      rw [slices_Concat_impl_Node_impl_Node.sum_flatten]
      omega
     have LM := Aside0.mk hlim
     have NX := Aside0.mk (show (l0.take i).flatten ++ slices_Concat_impl_Node_impl_Node.row l0 i = (l0.take (i + 1)).flatten by rw [slices_Concat_impl_Node_impl_Node.take_succ l0 i hi]; simp)
     clear hlim hCi hli
     obtain ⟨A6, c6, e6⟩ := Kd.N_slice HO6.out
     subst e6
     go_wp2_with (first | ((with_reducible refine gate_builtin (b := .append) (xs := #[.tmp 31, .tmp 32]) rfl ?_); at_builtin; refine Kd.N_append_rows k58 (w0 := w) w.heap.size rfl (.tmp 31) (.tmp 32) 46 58 (.agg #[.int .i64 0, .string ⟨#[]⟩, .int .i64 0, .int .i64 0, .int .i64 0, .bool false, .slice none 0 0]) 80 rfl Try.underlying46 info58 rfl (by decide) (by omega) (.slice A6 (l0.take i).flatten.length c6) (l0.take i).flatten (slices_Concat_impl_Node_impl_Node.row l0 i) _ _ _ (fun _ => True) (fun k => k < w.heap.size) rfl rfl ?aO ?aR (fun k hk => ⟨trivial, fun he => by have := Kd.N_base HO6.out k he.symm; omega⟩) (fun _ _ => trivial) ?aB ?aS LM.out ?_; (case aR => exact slices_Concat_impl_Node_impl_Node.foot HCI.out bA); (case aB => exact bA); (case aO => (with_reducible repeat (first | apply Kd.N_alloc | apply Kd.N_drewN | apply Kd.N_drew)); exact HO6.out); (case aS => exact (below_size bA)); intro v1 w15 ho hb hg hat; rw [NX.out] at ho; have n0_ := Aside0.mk ho; have n1_ := Aside0.mk hb; clear HO6 HB ho hb hg hat HCI; have HO6 := n0_; have HB := n1_; clear n0_ n1_))
     go_roundg k1
     case measure => omega
     case rel => exact ⟨i + 1, rF, ⟨by have := HK1.out; omega⟩, ⟨by (with_reducible repeat (first | apply Kd.N_alloc | apply Kd.N_drewN | apply Kd.N_drew)); exact HO6.out⟩, ⟨bA⟩⟩
  | succ k1 =>
   have hi : i < l0.length := by have := HK1.out; omega
   have c3 : decide ((i : Int) < (l0.length : Int)) = true := decide_eq_true (by omega)
   obtain ⟨ad, Ai, ci, e, hx, hli, hCi⟩ := slices_Concat_impl_Node_impl_Node.at_ HR0.out i hi
   subst e
   replace hx := hxB HB.out hx
   have p5 : (0 ≤ (i : Int)) = True := eq_true (by omega)
   have q5 : ((i : Int) < (l0.length : Int)) = True := eq_true (by omega)
   have hsl := slices_Concat_impl_Node_impl_Node.sum_take l0 (i + 1)
   have hsa : slices_Concat_impl_Node_impl_Node.sum (l0.take (i + 1)) = slices_Concat_impl_Node_impl_Node.sum (l0.take i) + (slices_Concat_impl_Node_impl_Node.row l0 i).length := by
    rw [slices_Concat_impl_Node_impl_Node.take_succ l0 i hi, slices_Concat_impl_Node_impl_Node.sum_app]; rfl
   have hss := HS.out
   have hw1 : wrap64 ((slices_Concat_impl_Node_impl_Node.sum (l0.take i) : Int) + ((slices_Concat_impl_Node_impl_Node.row l0 i).length : Int)) = (slices_Concat_impl_Node_impl_Node.sum (l0.take (i + 1)) : Int) := by unfold wrap64; omega
   have hw2 : wrap64 ((i : Int) + 1) = ((i + 1 : Nat) : Int) := by have := HL.out; unfold wrap64; omega
   have hlt : decide ((slices_Concat_impl_Node_impl_Node.sum (l0.take (i + 1)) : Int) < 0) = false := decide_eq_false (by omega)
   clear hsl hsa hss hCi hli
   go_wp2
   go_roundg k1
   case measure => omega
   case rel => exact ⟨i + 1, rF, rF, ⟨by have := HK1.out; omega⟩, ⟨bA⟩⟩

/-! ### slices_EqualFunc_impl_Node_impl_Node_impl_Node_impl_Node: function 91 -/
def slices_EqualFunc_impl_Node_impl_Node_impl_Node_impl_Node.l0 : Nat → List (S58) → List (S58) → Int → Int → Option (Bool)
 | 0, _, _, _, _ => none
 | k + 1, x1, x15, x16, x17 => if x17 < x16 then (if 0 ≤ x17 then (if x17 < (x15.length : Int) then (if x17 < (x1.length : Int) then ((impl_sameNode.f k ((rd_T58 x15 x17).f0) ((rd_T58 x15 x17).f1) ((rd_T58 x15 x17).f2) ((rd_T58 x15 x17).f3) ((rd_T58 x15 x17).f4) ((rd_T58 x15 x17).f5) ((rd_T58 x15 x17).f6) ((rd_T58 x1 x17).f0) ((rd_T58 x1 x17).f1) ((rd_T58 x1 x17).f2) ((rd_T58 x1 x17).f3) ((rd_T58 x1 x17).f4) ((rd_T58 x1 x17).f5) ((rd_T58 x1 x17).f6)).bind fun t526 => (if t526 = true then (slices_EqualFunc_impl_Node_impl_Node_impl_Node_impl_Node.l0 k x1 x15 x16 (wrap64 (x17 + 1))) else (some false))) else (none)) else (none)) else (none)) else (some true)
def slices_EqualFunc_impl_Node_impl_Node_impl_Node_impl_Node.f (k : Nat) (l0 : List (S58)) (l1 : List (S58))  : Option (Bool) := if (l0.length : Int) = (l1.length : Int) then (slices_EqualFunc_impl_Node_impl_Node_impl_Node_impl_Node.l0 k l1 l0 (l0.length : Int) 0) else (some false)
theorem slices_EqualFunc_impl_Node_impl_Node_impl_Node_impl_Node.mono_l : ∀ k, (∀ y0 y1 y2 y3, LeO (slices_EqualFunc_impl_Node_impl_Node_impl_Node_impl_Node.l0 k y0 y1 y2 y3) (slices_EqualFunc_impl_Node_impl_Node_impl_Node_impl_Node.l0 (k + 1) y0 y1 y2 y3))
 | 0 => fun _ _ _ _ r h => by simp [slices_EqualFunc_impl_Node_impl_Node_impl_Node_impl_Node.l0] at h
 | k + 1 => by
  have ih0 := slices_EqualFunc_impl_Node_impl_Node_impl_Node_impl_Node.mono_l k
  ·intro y0 y1 y2 y3
   unfold slices_EqualFunc_impl_Node_impl_Node_impl_Node_impl_Node.l0
   repeat' first
   | (with_reducible exact ih0 _ _ _ _)
   | (with_reducible exact impl_sameNode.mono _ _ _ _ _ _ _ _ _ _ _ _ _ _ _)
   | (with_reducible exact LeO.refl _)
   | (with_reducible exact LeO.none _)
   | (with_reducible refine LeO.ite ?_ ?_)
   | (with_reducible refine LeO.bind ?_ (fun _ => ?_))
   | exact ih0 _ _ _ _
   | exact impl_sameNode.mono _ _ _ _ _ _ _ _ _ _ _ _ _ _ _
   | exact LeO.none _
   | refine LeO.ite ?_ ?_
   | refine LeO.bind ?_ (fun _ => ?_)
theorem slices_EqualFunc_impl_Node_impl_Node_impl_Node_impl_Node.mono : ∀ a0 a1 k, LeO (slices_EqualFunc_impl_Node_impl_Node_impl_Node_impl_Node.f k a0 a1) (slices_EqualFunc_impl_Node_impl_Node_impl_Node_impl_Node.f (k + 1) a0 a1) := by
 intro a0 a1 k
 have ih0 := slices_EqualFunc_impl_Node_impl_Node_impl_Node_impl_Node.mono_l k
 unfold slices_EqualFunc_impl_Node_impl_Node_impl_Node_impl_Node.f
 repeat' first
   | (with_reducible exact ih0 _ _ _ _)
   | (with_reducible exact impl_sameNode.mono _ _ _ _ _ _ _ _ _ _ _ _ _ _ _)
   | (with_reducible exact LeO.refl _)
   | (with_reducible exact LeO.none _)
   | (with_reducible refine LeO.ite ?_ ?_)
   | (with_reducible refine LeO.bind ?_ (fun _ => ?_))
   | exact ih0 _ _ _ _
   | exact impl_sameNode.mono _ _ _ _ _ _ _ _ _ _ _ _ _ _ _
   | exact LeO.none _
   | refine LeO.ite ?_ ?_
   | refine LeO.bind ?_ (fun _ => ?_)
set_option maxHeartbeats 8000000 in
set_option maxRecDepth 100000 in
theorem slices_EqualFunc_impl_Node_impl_Node_impl_Node_impl_Node.calls (k : Nat) (A0 : Option Addr) (c0 : Nat) (l0 : List (S58)) (A1 : Option Addr) (c1 : Nat) (l1 : List (S58))  (r : Bool) (w : World) (hr0 : Kd.C k58 w A0 l0.length l0) (hc0 : l0.length ≤ c0) (hr1 : Kd.C k58 w A1 l1.length l1) (hc1 : l1.length ≤ c1) (h : slices_EqualFunc_impl_Node_impl_Node_impl_Node_impl_Node.f k l0 l1 = some r) :
  Calls Try.prog 91 #[.slice A0 l0.length c0, .slice A1 l1.length c1, .func (.func 92) #[] #[]] w fun e w' => e = .returned (.bool r) ∧ Below w.heap.size w w' := by
 have hu58 := Try.underlying58
 have HR0 := Aside0.mk hr0
 have HC0 := Aside0.mk hc0
 clear hr0 hc0
 have HR1 := Aside0.mk hr1
 have HC1 := Aside0.mk hc1
 clear hr1 hc1
 have HB := Aside0.mk (Below.refl w.heap.size w)
 have H : (if (l0.length : Int) = (l1.length : Int) then (slices_EqualFunc_impl_Node_impl_Node_impl_Node_impl_Node.l0 k l1 l0 (l0.length : Int) 0) else (some false)) = some r := h
 clear h
 by_cases c4 : (l0.length : Int) = (l1.length : Int)
 ·rw [if_pos c4] at H
  have c4b0 : ((l0.length : Int) == (l1.length : Int)) = true := beq_iff_eq.mpr c4
  have c4b1 : ((l0.length : Int) != (l1.length : Int)) = false := bne_eq_false_iff_eq.mpr c4
  have c4b2 : (l0.length == l1.length) = true := by first | simpa using c4 | (simp at c4 ⊢; omega)
  clear c4
  have H' := Aside0.mk H
  clear H
  go_enter Try.func91, Try.ntmps91
  go_wp2
  go_loopg [17] k (fun kq v17 w' => ∃ (x17_1 : Int), v17 = .int .i64 x17_1 ∧ Aside0 (slices_EqualFunc_impl_Node_impl_Node_impl_Node_impl_Node.l0 kq l1 l0 (l0.length : Int) x17_1 = some r) ∧ Aside0 (kq ≤ k) ∧ Aside0 (Below w.heap.size w w'))
  case atStart => exact ⟨(0), rF, H', ⟨Nat.le_refl _⟩, ⟨bA⟩⟩
  case round =>
   clear H'
   try clear c1
   try clear p2
   try clear c4
   try clear c4b0
   try clear c4b1
   try clear c4b2
   obtain ⟨x17_1, rfl, HA, HK1, HB⟩ := hrel
   cases gk with
   | zero => exact absurd HA.out (by simp [slices_EqualFunc_impl_Node_impl_Node_impl_Node_impl_Node.l0])
   | succ k1 =>
    have H := HA.out
    clear HA
    simp only [slices_EqualFunc_impl_Node_impl_Node_impl_Node_impl_Node.l0] at H
    by_cases c5 : x17_1 < (l0.length : Int)
    ·rw [if_pos c5] at H
     have c5b0 : decide (x17_1 < (l0.length : Int)) = true := decide_eq_true c5
     clear c5
     by_cases c6 : 0 ≤ x17_1
     ·rw [if_pos c6] at H
      have c6b0 : decide (0 ≤ x17_1) = true := decide_eq_true c6
      clear c6
      by_cases c7 : x17_1 < (l0.length : Int)
      ·rw [if_pos c7] at H
       have c7b0 : decide (x17_1 < (l0.length : Int)) = true := decide_eq_true c7
       clear c7
       by_cases c8 : x17_1 < (l1.length : Int)
       ·rw [if_pos c8] at H
        have c8b0 : decide (x17_1 < (l1.length : Int)) = true := decide_eq_true c8
        clear c8
        replace H := Option.bind_eq_some_iff.mp H
        obtain ⟨t526, A90, H⟩ := H
        replace H : (if t526 = true then (slices_EqualFunc_impl_Node_impl_Node_impl_Node_impl_Node.l0 k1 l1 l0 (l0.length : Int) (wrap64 (x17_1 + 1))) else (some false)) = some r := H
        have A9 := Aside0.mk A90
        clear A90
        by_cases c10 : t526 = true
        ·subst c10
         have H1 : (slices_EqualFunc_impl_Node_impl_Node_impl_Node_impl_Node.l0 k1 l1 l0 (l0.length : Int) (wrap64 (x17_1 + 1))) = some r := by rw [if_pos rfl] at H; exact H
         clear H
         have H := H1
         clear H1
         have H' := Aside0.mk H
         clear H
         have p522 : 0 ≤ (x17_1 : Int) := of_decide_eq_true (by assumption)
         have q522 : x17_1 < (l0.length : Int) := of_decide_eq_true (by assumption)
         obtain ⟨ad522, A522_6, c522_6, e522, hx522_0, hx522_1, hx522_2, hx522_3, hx522_4, hx522_5, hx522_6, hl522_6, hi522_6⟩ := at_T58 HR0.out x17_1 p522 q522
         cases e522
         replace hx522_0 := hxB HB.out hx522_0
         replace hx522_1 := hxB HB.out hx522_1
         replace hx522_2 := hxB HB.out hx522_2
         replace hx522_3 := hxB HB.out hx522_3
         replace hx522_4 := hxB HB.out hx522_4
         replace hx522_5 := hxB HB.out hx522_5
         replace hx522_6 := hxB HB.out hx522_6
         have HR522_6 := Aside0.mk hi522_6
         have HC522_6 := Aside0.mk hl522_6
         clear hi522_6 hl522_6
         replace p522 := eq_true p522
         replace q522 := eq_true q522
         go_wp2_with (first | ((with_reducible refine gate_dst (N := 8) rfl ?_); refine box_event ?hg (N := 8) ?hd (cs := #[.int .i64 0, .string (⟨#[]⟩ : ByteArray), .int .i64 0, .int .i64 0, .int .i64 0, .bool false, .slice none 0 0]) (t := 58) ?hr ?_; (case hd => rfl); (case hg => rfl); (case hr => first | (go_simp; done) | (go_simp; rfl)); intro gb523 hg w11 hbox hb; have n0_ := Aside0.mk (below_step bA hb); have n1_ := Aside0.mk (hbox); have n2_ := Aside0.mk ((by rw [hg]; exact (below_size bA) : w.heap.size ≤ gb523)); have n3_ := Aside0.mk ((by rw [hg]; exact (below_size bA) : w.heap.size ≤ gb523)); clear HB; have HB := n0_; have BK523 := n1_; have GW523 := n2_; have GE523 := n3_; clear n0_ n1_ n2_ n3_; clear hb hbox hg; obtain ⟨⟨hcz12_0, hcz12_1, hcz12_2, hcz12_3, hcz12_4, hcz12_5, hcz12_6⟩, hfz12_0, hfz12_1, hfz12_2, hfz12_3, hfz12_4, hfz12_5, hfz12_6⟩ := Own.c7 BK523.out) | ((with_reducible refine gate_store (t := 58) (p := 8) rfl ?_); refine store_event (t := 58) (p := 8) (v := ?vo_w13) (w1 := (((((((w11.setCell ⟨gb523, 0, none⟩ (.int .i64 ((rd_T58 l0 x17_1).f0))).setCell ⟨gb523, 1, none⟩ (.string ((rd_T58 l0 x17_1).f1))).setCell ⟨gb523, 2, none⟩ (.int .i64 ((rd_T58 l0 x17_1).f2))).setCell ⟨gb523, 3, none⟩ (.int .i64 ((rd_T58 l0 x17_1).f3))).setCell ⟨gb523, 4, none⟩ (.int .i64 ((rd_T58 l0 x17_1).f4))).setCell ⟨gb523, 5, none⟩ (.bool ((rd_T58 l0 x17_1).f5))).setCell ⟨gb523, 6, none⟩ (.slice A522_6 ((rd_T58 l0 x17_1).f6).length c522_6))) ?hg ?ho ?hn ?hr ?_; (case ho => rfl); (case hg => rfl); (case hn => rfl); (case hr => first | (go_simp; done) | (go_simp; rfl)); intro w13 hw; have n0_ : Aside0 (w13.heap[gb523]? = some (.cells #[.int .i64 ((rd_T58 l0 x17_1).f0), .string ((rd_T58 l0 x17_1).f1), .int .i64 ((rd_T58 l0 x17_1).f2), .int .i64 ((rd_T58 l0 x17_1).f3), .int .i64 ((rd_T58 l0 x17_1).f4), .bool ((rd_T58 l0 x17_1).f5), .slice A522_6 ((rd_T58 l0 x17_1).f6).length c522_6] 58 (0, 0))) := ⟨(by rw [hw]; exact (by exact put7 BK523.out))⟩; have n1_ : Aside0 (Below w.heap.size w w13) := ⟨(by rw [hw]; exact bA)⟩; clear hw; clear BK523; clear HB; have BK523 := n0_; have HB := n1_; clear n0_ n1_; have p524 : 0 ≤ (x17_1 : Int) := of_decide_eq_true (by assumption); have q524 : x17_1 < (l1.length : Int) := of_decide_eq_true (by assumption); obtain ⟨ad524, A524_6, c524_6, e524, hx524_0, hx524_1, hx524_2, hx524_3, hx524_4, hx524_5, hx524_6, hl524_6, hi524_6⟩ := at_T58 HR1.out x17_1 p524 q524; cases e524; replace hx524_0 := hxB HB.out hx524_0; replace hx524_1 := hxB HB.out hx524_1; replace hx524_2 := hxB HB.out hx524_2; replace hx524_3 := hxB HB.out hx524_3; replace hx524_4 := hxB HB.out hx524_4; replace hx524_5 := hxB HB.out hx524_5; replace hx524_6 := hxB HB.out hx524_6; have HR524_6 := Aside0.mk hi524_6; have HC524_6 := Aside0.mk hl524_6; clear hi524_6 hl524_6; replace p524 := eq_true p524; replace q524 := eq_true q524) | ((with_reducible refine gate_dst (N := 9) rfl ?_); refine box_event ?hg (N := 9) ?hd (cs := #[.int .i64 0, .string (⟨#[]⟩ : ByteArray), .int .i64 0, .int .i64 0, .int .i64 0, .bool false, .slice none 0 0]) (t := 58) ?hr ?_; (case hd => rfl); (case hg => rfl); (case hr => first | (go_simp; done) | (go_simp; rfl)); intro gb525 hg w14 hbox hb; have n0_ := Aside0.mk (blk_below (g := gb523) (o := .cells #[.int .i64 ((rd_T58 l0 x17_1).f0), .string ((rd_T58 l0 x17_1).f1), .int .i64 ((rd_T58 l0 x17_1).f2), .int .i64 ((rd_T58 l0 x17_1).f3), .int .i64 ((rd_T58 l0 x17_1).f4), .bool ((rd_T58 l0 x17_1).f5), .slice A522_6 ((rd_T58 l0 x17_1).f6).length c522_6] 58 (0, 0)) (by (with_reducible repeat (first | refine blk_drewN ?_ _ | refine blk_drew ?_ | refine blk_alloc ?_ _)); exact BK523.out) hb); have n1_ := Aside0.mk (below_step bA hb); have n2_ := Aside0.mk (hbox); have n3_ := Aside0.mk ((by rw [hg]; exact (below_size bA) : w.heap.size ≤ gb525)); have n4_ := Aside0.mk ((by rw [hg]; exact (below_size bA) : w.heap.size ≤ gb525)); have n5_ := Aside0.mk ((by rw [hg]; exact Nat.ne_of_lt (blk_lt (g := gb523) (o := .cells #[.int .i64 ((rd_T58 l0 x17_1).f0), .string ((rd_T58 l0 x17_1).f1), .int .i64 ((rd_T58 l0 x17_1).f2), .int .i64 ((rd_T58 l0 x17_1).f3), .int .i64 ((rd_T58 l0 x17_1).f4), .bool ((rd_T58 l0 x17_1).f5), .slice A522_6 ((rd_T58 l0 x17_1).f6).length c522_6] 58 (0, 0)) (by (with_reducible repeat (first | refine blk_drewN ?_ _ | refine blk_drew ?_ | refine blk_alloc ?_ _)); exact BK523.out)) : gb523 ≠ gb525)); have n6_ := Aside0.mk ((by rw [hg]; exact Nat.ne_of_gt (blk_lt (g := gb523) (o := .cells #[.int .i64 ((rd_T58 l0 x17_1).f0), .string ((rd_T58 l0 x17_1).f1), .int .i64 ((rd_T58 l0 x17_1).f2), .int .i64 ((rd_T58 l0 x17_1).f3), .int .i64 ((rd_T58 l0 x17_1).f4), .bool ((rd_T58 l0 x17_1).f5), .slice A522_6 ((rd_T58 l0 x17_1).f6).length c522_6] 58 (0, 0)) (by (with_reducible repeat (first | refine blk_drewN ?_ _ | refine blk_drew ?_ | refine blk_alloc ?_ _)); exact BK523.out)) : gb525 ≠ gb523)); clear BK523; clear HB; have BK523 := n0_; have HB := n1_; have BK525 := n2_; have GW525 := n3_; have GE525 := n4_; have NB523_525 := n5_; have NB525_523 := n6_; clear n0_ n1_ n2_ n3_ n4_ n5_ n6_; clear hb hbox hg; have hnb15 := NB525_523.out; have hnc15 := NB523_525.out; obtain ⟨⟨hcz16_0, hcz16_1, hcz16_2, hcz16_3, hcz16_4, hcz16_5, hcz16_6⟩, hfz16_0, hfz16_1, hfz16_2, hfz16_3, hfz16_4, hfz16_5, hfz16_6⟩ := Own.c7 BK525.out) | ((with_reducible refine gate_store (t := 58) (p := 9) rfl ?_); refine store_event (t := 58) (p := 9) (v := ?vo_w17) (w1 := (((((((w14.setCell ⟨gb525, 0, none⟩ (.int .i64 ((rd_T58 l1 x17_1).f0))).setCell ⟨gb525, 1, none⟩ (.string ((rd_T58 l1 x17_1).f1))).setCell ⟨gb525, 2, none⟩ (.int .i64 ((rd_T58 l1 x17_1).f2))).setCell ⟨gb525, 3, none⟩ (.int .i64 ((rd_T58 l1 x17_1).f3))).setCell ⟨gb525, 4, none⟩ (.int .i64 ((rd_T58 l1 x17_1).f4))).setCell ⟨gb525, 5, none⟩ (.bool ((rd_T58 l1 x17_1).f5))).setCell ⟨gb525, 6, none⟩ (.slice A524_6 ((rd_T58 l1 x17_1).f6).length c524_6))) ?hg ?ho ?hn ?hr ?_; (case ho => rfl); (case hg => rfl); (case hn => rfl); (case hr => first | (go_simp; done) | (go_simp; rfl)); intro w17 hw; have n0_ : Aside0 (w17.heap[gb523]? = some (.cells #[.int .i64 ((rd_T58 l0 x17_1).f0), .string ((rd_T58 l0 x17_1).f1), .int .i64 ((rd_T58 l0 x17_1).f2), .int .i64 ((rd_T58 l0 x17_1).f3), .int .i64 ((rd_T58 l0 x17_1).f4), .bool ((rd_T58 l0 x17_1).f5), .slice A522_6 ((rd_T58 l0 x17_1).f6).length c522_6] 58 (0, 0))) := ⟨(by rw [hw]; exact (by (with_reducible repeat (first | refine blk_drewN ?_ _ | refine blk_drew ?_ | refine blk_alloc ?_ _)); refine blk_far ?_ NB523_525.out _; (with_reducible repeat (first | refine blk_drewN ?_ _ | refine blk_drew ?_ | refine blk_alloc ?_ _)); refine blk_far ?_ NB523_525.out _; (with_reducible repeat (first | refine blk_drewN ?_ _ | refine blk_drew ?_ | refine blk_alloc ?_ _)); refine blk_far ?_ NB523_525.out _; (with_reducible repeat (first | refine blk_drewN ?_ _ | refine blk_drew ?_ | refine blk_alloc ?_ _)); refine blk_far ?_ NB523_525.out _; (with_reducible repeat (first | refine blk_drewN ?_ _ | refine blk_drew ?_ | refine blk_alloc ?_ _)); refine blk_far ?_ NB523_525.out _; (with_reducible repeat (first | refine blk_drewN ?_ _ | refine blk_drew ?_ | refine blk_alloc ?_ _)); refine blk_far ?_ NB523_525.out _; (with_reducible repeat (first | refine blk_drewN ?_ _ | refine blk_drew ?_ | refine blk_alloc ?_ _)); refine blk_far ?_ NB523_525.out _; (with_reducible repeat (first | refine blk_drewN ?_ _ | refine blk_drew ?_ | refine blk_alloc ?_ _)); exact BK523.out))⟩; have n1_ : Aside0 (w17.heap[gb525]? = some (.cells #[.int .i64 ((rd_T58 l1 x17_1).f0), .string ((rd_T58 l1 x17_1).f1), .int .i64 ((rd_T58 l1 x17_1).f2), .int .i64 ((rd_T58 l1 x17_1).f3), .int .i64 ((rd_T58 l1 x17_1).f4), .bool ((rd_T58 l1 x17_1).f5), .slice A524_6 ((rd_T58 l1 x17_1).f6).length c524_6] 58 (0, 0))) := ⟨(by rw [hw]; exact (by exact put7 BK525.out))⟩; have n2_ : Aside0 (Below w.heap.size w w17) := ⟨(by rw [hw]; exact bA)⟩; clear hw; clear BK523; clear BK525; clear HB; have BK523 := n0_; have BK525 := n1_; have HB := n2_; clear n0_ n1_ n2_; obtain ⟨⟨hcz18_0, hcz18_1, hcz18_2, hcz18_3, hcz18_4, hcz18_5, hcz18_6⟩, hfz18_0, hfz18_1, hfz18_2, hfz18_3, hfz18_4, hfz18_5, hfz18_6⟩ := Own.c7 BK523.out; obtain ⟨⟨hcz19_0, hcz19_1, hcz19_2, hcz19_3, hcz19_4, hcz19_5, hcz19_6⟩, hfz19_0, hfz19_1, hfz19_2, hfz19_3, hfz19_4, hfz19_5, hfz19_6⟩ := Own.c7 BK525.out) | (go_at_call 92; (with_reducible refine (impl_sameNode.calls k1 ((rd_T58 l0 x17_1).f0) ((rd_T58 l0 x17_1).f1) ((rd_T58 l0 x17_1).f2) ((rd_T58 l0 x17_1).f3) ((rd_T58 l0 x17_1).f4) ((rd_T58 l0 x17_1).f5) _ _ ((rd_T58 l0 x17_1).f6) ((rd_T58 l1 x17_1).f0) ((rd_T58 l1 x17_1).f1) ((rd_T58 l1 x17_1).f2) ((rd_T58 l1 x17_1).f3) ((rd_T58 l1 x17_1).f4) ((rd_T58 l1 x17_1).f5) _ _ ((rd_T58 l1 x17_1).f6) true _ ?side1 ?side2 ?side3 ?side4 A9.out).mono ?_); (case side1 => exact cA); (case side2 => exact HC522_6.out); (case side3 => exact cA); (case side4 => exact HC524_6.out); rintro e w20 ⟨rfl, hb⟩; have n0_ := Aside0.mk (blk_below (g := gb523) (o := .cells #[.int .i64 ((rd_T58 l0 x17_1).f0), .string ((rd_T58 l0 x17_1).f1), .int .i64 ((rd_T58 l0 x17_1).f2), .int .i64 ((rd_T58 l0 x17_1).f3), .int .i64 ((rd_T58 l0 x17_1).f4), .bool ((rd_T58 l0 x17_1).f5), .slice A522_6 ((rd_T58 l0 x17_1).f6).length c522_6] 58 (0, 0)) (by (with_reducible repeat (first | refine blk_drewN ?_ _ | refine blk_drew ?_ | refine blk_alloc ?_ _)); exact BK523.out) hb); have n1_ := Aside0.mk (blk_below (g := gb525) (o := .cells #[.int .i64 ((rd_T58 l1 x17_1).f0), .string ((rd_T58 l1 x17_1).f1), .int .i64 ((rd_T58 l1 x17_1).f2), .int .i64 ((rd_T58 l1 x17_1).f3), .int .i64 ((rd_T58 l1 x17_1).f4), .bool ((rd_T58 l1 x17_1).f5), .slice A524_6 ((rd_T58 l1 x17_1).f6).length c524_6] 58 (0, 0)) (by (with_reducible repeat (first | refine blk_drewN ?_ _ | refine blk_drew ?_ | refine blk_alloc ?_ _)); exact BK525.out) hb); have n2_ := Aside0.mk (below_step bA hb); clear BK523; clear BK525; clear HB; have BK523 := n0_; have BK525 := n1_; have HB := n2_; clear n0_ n1_ n2_; (try clear hb); (try clear hb2); (try clear hk); (try clear hi)))
         go_roundg k1
         case measure => have := HK1.out; omega
         case rel => exact ⟨(wrap64 (x17_1 + 1)), rF, H', ⟨by have := HK1.out; omega⟩, ⟨bA⟩⟩
        ·replace c10 := Bool.eq_false_iff.mpr c10
         subst c10
         have H1 : (some false) = some r := by rw [if_neg (show ¬ (false = true) by decide)] at H; exact H
         clear H
         have H := H1
         clear H1
         obtain rfl := Option.some.inj H
         have p522 : 0 ≤ (x17_1 : Int) := of_decide_eq_true (by assumption)
         have q522 : x17_1 < (l0.length : Int) := of_decide_eq_true (by assumption)
         obtain ⟨ad522, A522_6, c522_6, e522, hx522_0, hx522_1, hx522_2, hx522_3, hx522_4, hx522_5, hx522_6, hl522_6, hi522_6⟩ := at_T58 HR0.out x17_1 p522 q522
         cases e522
         replace hx522_0 := hxB HB.out hx522_0
         replace hx522_1 := hxB HB.out hx522_1
         replace hx522_2 := hxB HB.out hx522_2
         replace hx522_3 := hxB HB.out hx522_3
         replace hx522_4 := hxB HB.out hx522_4
         replace hx522_5 := hxB HB.out hx522_5
         replace hx522_6 := hxB HB.out hx522_6
         have HR522_6 := Aside0.mk hi522_6
         have HC522_6 := Aside0.mk hl522_6
         clear hi522_6 hl522_6
         replace p522 := eq_true p522
         replace q522 := eq_true q522
         go_wp2_with (first | ((with_reducible refine gate_dst (N := 8) rfl ?_); refine box_event ?hg (N := 8) ?hd (cs := #[.int .i64 0, .string (⟨#[]⟩ : ByteArray), .int .i64 0, .int .i64 0, .int .i64 0, .bool false, .slice none 0 0]) (t := 58) ?hr ?_; (case hd => rfl); (case hg => rfl); (case hr => first | (go_simp; done) | (go_simp; rfl)); intro gb523 hg w21 hbox hb; have n0_ := Aside0.mk (below_step bA hb); have n1_ := Aside0.mk (hbox); have n2_ := Aside0.mk ((by rw [hg]; exact (below_size bA) : w.heap.size ≤ gb523)); have n3_ := Aside0.mk ((by rw [hg]; exact (below_size bA) : w.heap.size ≤ gb523)); clear HB; have HB := n0_; have BK523 := n1_; have GW523 := n2_; have GE523 := n3_; clear n0_ n1_ n2_ n3_; clear hb hbox hg; obtain ⟨⟨hcz22_0, hcz22_1, hcz22_2, hcz22_3, hcz22_4, hcz22_5, hcz22_6⟩, hfz22_0, hfz22_1, hfz22_2, hfz22_3, hfz22_4, hfz22_5, hfz22_6⟩ := Own.c7 BK523.out) | ((with_reducible refine gate_store (t := 58) (p := 8) rfl ?_); refine store_event (t := 58) (p := 8) (v := ?vo_w23) (w1 := (((((((w21.setCell ⟨gb523, 0, none⟩ (.int .i64 ((rd_T58 l0 x17_1).f0))).setCell ⟨gb523, 1, none⟩ (.string ((rd_T58 l0 x17_1).f1))).setCell ⟨gb523, 2, none⟩ (.int .i64 ((rd_T58 l0 x17_1).f2))).setCell ⟨gb523, 3, none⟩ (.int .i64 ((rd_T58 l0 x17_1).f3))).setCell ⟨gb523, 4, none⟩ (.int .i64 ((rd_T58 l0 x17_1).f4))).setCell ⟨gb523, 5, none⟩ (.bool ((rd_T58 l0 x17_1).f5))).setCell ⟨gb523, 6, none⟩ (.slice A522_6 ((rd_T58 l0 x17_1).f6).length c522_6))) ?hg ?ho ?hn ?hr ?_; (case ho => rfl); (case hg => rfl); (case hn => rfl); (case hr => first | (go_simp; done) | (go_simp; rfl)); intro w23 hw; have n0_ : Aside0 (w23.heap[gb523]? = some (.cells #[.int .i64 ((rd_T58 l0 x17_1).f0), .string ((rd_T58 l0 x17_1).f1), .int .i64 ((rd_T58 l0 x17_1).f2), .int .i64 ((rd_T58 l0 x17_1).f3), .int .i64 ((rd_T58 l0 x17_1).f4), .bool ((rd_T58 l0 x17_1).f5), .slice A522_6 ((rd_T58 l0 x17_1).f6).length c522_6] 58 (0, 0))) := ⟨(by rw [hw]; exact (by exact put7 BK523.out))⟩; have n1_ : Aside0 (Below w.heap.size w w23) := ⟨(by rw [hw]; exact bA)⟩; clear hw; clear BK523; clear HB; have BK523 := n0_; have HB := n1_; clear n0_ n1_; have p524 : 0 ≤ (x17_1 : Int) := of_decide_eq_true (by assumption); have q524 : x17_1 < (l1.length : Int) := of_decide_eq_true (by assumption); obtain ⟨ad524, A524_6, c524_6, e524, hx524_0, hx524_1, hx524_2, hx524_3, hx524_4, hx524_5, hx524_6, hl524_6, hi524_6⟩ := at_T58 HR1.out x17_1 p524 q524; cases e524; replace hx524_0 := hxB HB.out hx524_0; replace hx524_1 := hxB HB.out hx524_1; replace hx524_2 := hxB HB.out hx524_2; replace hx524_3 := hxB HB.out hx524_3; replace hx524_4 := hxB HB.out hx524_4; replace hx524_5 := hxB HB.out hx524_5; replace hx524_6 := hxB HB.out hx524_6; have HR524_6 := Aside0.mk hi524_6; have HC524_6 := Aside0.mk hl524_6; clear hi524_6 hl524_6; replace p524 := eq_true p524; replace q524 := eq_true q524) | ((with_reducible refine gate_dst (N := 9) rfl ?_); refine box_event ?hg (N := 9) ?hd (cs := #[.int .i64 0, .string (⟨#[]⟩ : ByteArray), .int .i64 0, .int .i64 0, .int .i64 0, .bool false, .slice none 0 0]) (t := 58) ?hr ?_; (case hd => rfl); (case hg => rfl); (case hr => first | (go_simp; done) | (go_simp; rfl)); intro gb525 hg w24 hbox hb; have n0_ := Aside0.mk (blk_below (g := gb523) (o := .cells #[.int .i64 ((rd_T58 l0 x17_1).f0), .string ((rd_T58 l0 x17_1).f1), .int .i64 ((rd_T58 l0 x17_1).f2), .int .i64 ((rd_T58 l0 x17_1).f3), .int .i64 ((rd_T58 l0 x17_1).f4), .bool ((rd_T58 l0 x17_1).f5), .slice A522_6 ((rd_T58 l0 x17_1).f6).length c522_6] 58 (0, 0)) (by (with_reducible repeat (first | refine blk_drewN ?_ _ | refine blk_drew ?_ | refine blk_alloc ?_ _)); exact BK523.out) hb); have n1_ := Aside0.mk (below_step bA hb); have n2_ := Aside0.mk (hbox); have n3_ := Aside0.mk ((by rw [hg]; exact (below_size bA) : w.heap.size ≤ gb525)); have n4_ := Aside0.mk ((by rw [hg]; exact (below_size bA) : w.heap.size ≤ gb525)); have n5_ := Aside0.mk ((by rw [hg]; exact Nat.ne_of_lt (blk_lt (g := gb523) (o := .cells #[.int .i64 ((rd_T58 l0 x17_1).f0), .string ((rd_T58 l0 x17_1).f1), .int .i64 ((rd_T58 l0 x17_1).f2), .int .i64 ((rd_T58 l0 x17_1).f3), .int .i64 ((rd_T58 l0 x17_1).f4), .bool ((rd_T58 l0 x17_1).f5), .slice A522_6 ((rd_T58 l0 x17_1).f6).length c522_6] 58 (0, 0)) (by (with_reducible repeat (first | refine blk_drewN ?_ _ | refine blk_drew ?_ | refine blk_alloc ?_ _)); exact BK523.out)) : gb523 ≠ gb525)); have n6_ := Aside0.mk ((by rw [hg]; exact Nat.ne_of_gt (blk_lt (g := gb523) (o := .cells #[.int .i64 ((rd_T58 l0 x17_1).f0), .string ((rd_T58 l0 x17_1).f1), .int .i64 ((rd_T58 l0 x17_1).f2), .int .i64 ((rd_T58 l0 x17_1).f3), .int .i64 ((rd_T58 l0 x17_1).f4), .bool ((rd_T58 l0 x17_1).f5), .slice A522_6 ((rd_T58 l0 x17_1).f6).length c522_6] 58 (0, 0)) (by (with_reducible repeat (first | refine blk_drewN ?_ _ | refine blk_drew ?_ | refine blk_alloc ?_ _)); exact BK523.out)) : gb525 ≠ gb523)); clear BK523; clear HB; have BK523 := n0_; have HB := n1_; have BK525 := n2_; have GW525 := n3_; have GE525 := n4_; have NB523_525 := n5_; have NB525_523 := n6_; clear n0_ n1_ n2_ n3_ n4_ n5_ n6_; clear hb hbox hg; have hnb25 := NB525_523.out; have hnc25 := NB523_525.out; obtain ⟨⟨hcz26_0, hcz26_1, hcz26_2, hcz26_3, hcz26_4, hcz26_5, hcz26_6⟩, hfz26_0, hfz26_1, hfz26_2, hfz26_3, hfz26_4, hfz26_5, hfz26_6⟩ := Own.c7 BK525.out) | ((with_reducible refine gate_store (t := 58) (p := 9) rfl ?_); refine store_event (t := 58) (p := 9) (v := ?vo_w27) (w1 := (((((((w24.setCell ⟨gb525, 0, none⟩ (.int .i64 ((rd_T58 l1 x17_1).f0))).setCell ⟨gb525, 1, none⟩ (.string ((rd_T58 l1 x17_1).f1))).setCell ⟨gb525, 2, none⟩ (.int .i64 ((rd_T58 l1 x17_1).f2))).setCell ⟨gb525, 3, none⟩ (.int .i64 ((rd_T58 l1 x17_1).f3))).setCell ⟨gb525, 4, none⟩ (.int .i64 ((rd_T58 l1 x17_1).f4))).setCell ⟨gb525, 5, none⟩ (.bool ((rd_T58 l1 x17_1).f5))).setCell ⟨gb525, 6, none⟩ (.slice A524_6 ((rd_T58 l1 x17_1).f6).length c524_6))) ?hg ?ho ?hn ?hr ?_; (case ho => rfl); (case hg => rfl); (case hn => rfl); (case hr => first | (go_simp; done) | (go_simp; rfl)); intro w27 hw; have n0_ : Aside0 (w27.heap[gb523]? = some (.cells #[.int .i64 ((rd_T58 l0 x17_1).f0), .string ((rd_T58 l0 x17_1).f1), .int .i64 ((rd_T58 l0 x17_1).f2), .int .i64 ((rd_T58 l0 x17_1).f3), .int .i64 ((rd_T58 l0 x17_1).f4), .bool ((rd_T58 l0 x17_1).f5), .slice A522_6 ((rd_T58 l0 x17_1).f6).length c522_6] 58 (0, 0))) := ⟨(by rw [hw]; exact (by (with_reducible repeat (first | refine blk_drewN ?_ _ | refine blk_drew ?_ | refine blk_alloc ?_ _)); refine blk_far ?_ NB523_525.out _; (with_reducible repeat (first | refine blk_drewN ?_ _ | refine blk_drew ?_ | refine blk_alloc ?_ _)); refine blk_far ?_ NB523_525.out _; (with_reducible repeat (first | refine blk_drewN ?_ _ | refine blk_drew ?_ | refine blk_alloc ?_ _)); refine blk_far ?_ NB523_525.out _; (with_reducible repeat (first | refine blk_drewN ?_ _ | refine blk_drew ?_ | refine blk_alloc ?_ _)); refine blk_far ?_ NB523_525.out _; (with_reducible repeat (first | refine blk_drewN ?_ _ | refine blk_drew ?_ | refine blk_alloc ?_ _)); refine blk_far ?_ NB523_525.out _; (with_reducible repeat (first | refine blk_drewN ?_ _ | refine blk_drew ?_ | refine blk_alloc ?_ _)); refine blk_far ?_ NB523_525.out _; (with_reducible repeat (first | refine blk_drewN ?_ _ | refine blk_drew ?_ | refine blk_alloc ?_ _)); refine blk_far ?_ NB523_525.out _; (with_reducible repeat (first | refine blk_drewN ?_ _ | refine blk_drew ?_ | refine blk_alloc ?_ _)); exact BK523.out))⟩; have n1_ : Aside0 (w27.heap[gb525]? = some (.cells #[.int .i64 ((rd_T58 l1 x17_1).f0), .string ((rd_T58 l1 x17_1).f1), .int .i64 ((rd_T58 l1 x17_1).f2), .int .i64 ((rd_T58 l1 x17_1).f3), .int .i64 ((rd_T58 l1 x17_1).f4), .bool ((rd_T58 l1 x17_1).f5), .slice A524_6 ((rd_T58 l1 x17_1).f6).length c524_6] 58 (0, 0))) := ⟨(by rw [hw]; exact (by exact put7 BK525.out))⟩; have n2_ : Aside0 (Below w.heap.size w w27) := ⟨(by rw [hw]; exact bA)⟩; clear hw; clear BK523; clear BK525; clear HB; have BK523 := n0_; have BK525 := n1_; have HB := n2_; clear n0_ n1_ n2_; obtain ⟨⟨hcz28_0, hcz28_1, hcz28_2, hcz28_3, hcz28_4, hcz28_5, hcz28_6⟩, hfz28_0, hfz28_1, hfz28_2, hfz28_3, hfz28_4, hfz28_5, hfz28_6⟩ := Own.c7 BK523.out; obtain ⟨⟨hcz29_0, hcz29_1, hcz29_2, hcz29_3, hcz29_4, hcz29_5, hcz29_6⟩, hfz29_0, hfz29_1, hfz29_2, hfz29_3, hfz29_4, hfz29_5, hfz29_6⟩ := Own.c7 BK525.out) | (go_at_call 92; (with_reducible refine (impl_sameNode.calls k1 ((rd_T58 l0 x17_1).f0) ((rd_T58 l0 x17_1).f1) ((rd_T58 l0 x17_1).f2) ((rd_T58 l0 x17_1).f3) ((rd_T58 l0 x17_1).f4) ((rd_T58 l0 x17_1).f5) _ _ ((rd_T58 l0 x17_1).f6) ((rd_T58 l1 x17_1).f0) ((rd_T58 l1 x17_1).f1) ((rd_T58 l1 x17_1).f2) ((rd_T58 l1 x17_1).f3) ((rd_T58 l1 x17_1).f4) ((rd_T58 l1 x17_1).f5) _ _ ((rd_T58 l1 x17_1).f6) false _ ?side1 ?side2 ?side3 ?side4 A9.out).mono ?_); (case side1 => exact cA); (case side2 => exact HC522_6.out); (case side3 => exact cA); (case side4 => exact HC524_6.out); rintro e w30 ⟨rfl, hb⟩; have n0_ := Aside0.mk (blk_below (g := gb523) (o := .cells #[.int .i64 ((rd_T58 l0 x17_1).f0), .string ((rd_T58 l0 x17_1).f1), .int .i64 ((rd_T58 l0 x17_1).f2), .int .i64 ((rd_T58 l0 x17_1).f3), .int .i64 ((rd_T58 l0 x17_1).f4), .bool ((rd_T58 l0 x17_1).f5), .slice A522_6 ((rd_T58 l0 x17_1).f6).length c522_6] 58 (0, 0)) (by (with_reducible repeat (first | refine blk_drewN ?_ _ | refine blk_drew ?_ | refine blk_alloc ?_ _)); exact BK523.out) hb); have n1_ := Aside0.mk (blk_below (g := gb525) (o := .cells #[.int .i64 ((rd_T58 l1 x17_1).f0), .string ((rd_T58 l1 x17_1).f1), .int .i64 ((rd_T58 l1 x17_1).f2), .int .i64 ((rd_T58 l1 x17_1).f3), .int .i64 ((rd_T58 l1 x17_1).f4), .bool ((rd_T58 l1 x17_1).f5), .slice A524_6 ((rd_T58 l1 x17_1).f6).length c524_6] 58 (0, 0)) (by (with_reducible repeat (first | refine blk_drewN ?_ _ | refine blk_drew ?_ | refine blk_alloc ?_ _)); exact BK525.out) hb); have n2_ := Aside0.mk (below_step bA hb); clear BK523; clear BK525; clear HB; have BK523 := n0_; have BK525 := n1_; have HB := n2_; clear n0_ n1_ n2_; (try clear hb); (try clear hb2); (try clear hk); (try clear hi)))
         go_ret
         exact ⟨rE, bA⟩
       ·rw [if_neg c8] at H
        exact absurd H (by simp)
      ·rw [if_neg c7] at H
       exact absurd H (by simp)
     ·rw [if_neg c6] at H
      exact absurd H (by simp)
    ·rw [if_neg c5] at H
     have c5b0 : decide (x17_1 < (l0.length : Int)) = false := decide_eq_false c5
     clear c5
     obtain rfl := Option.some.inj H
     go_wp2
     go_ret
     exact ⟨rE, bA⟩
 ·rw [if_neg c4] at H
  have c4b0 : ((l0.length : Int) == (l1.length : Int)) = false := beq_eq_false_iff_ne.mpr c4
  have c4b1 : ((l0.length : Int) != (l1.length : Int)) = true := bne_iff_ne.mpr c4
  have c4b2 : (l0.length == l1.length) = false := by first | simpa using c4 | (simp at c4 ⊢; omega)
  obtain rfl := Option.some.inj H
  go_enter Try.func91, Try.ntmps91
  go_wp2
  go_ret
  exact ⟨rE, bA⟩

/-! ### impl_SamePlan: function 42 -/
def impl_SamePlan.f (k : Nat) (l0 : List (S58)) (l1 : List (S58)) : Option (Bool) := (slices_EqualFunc_impl_Node_impl_Node_impl_Node_impl_Node.f k l0 l1).bind fun t527 => (some t527)
theorem impl_SamePlan.mono : ∀ a0 a1 k, LeO (impl_SamePlan.f k a0 a1) (impl_SamePlan.f (k + 1) a0 a1) := by
 intro a0 a1 k
 unfold impl_SamePlan.f
 repeat' first
   | (with_reducible exact slices_EqualFunc_impl_Node_impl_Node_impl_Node_impl_Node.mono _ _ _)
   | (with_reducible exact LeO.refl _)
   | (with_reducible exact LeO.none _)
   | (with_reducible refine LeO.ite ?_ ?_)
   | (with_reducible refine LeO.bind ?_ (fun _ => ?_))
   | exact slices_EqualFunc_impl_Node_impl_Node_impl_Node_impl_Node.mono _ _ _
   | exact LeO.none _
   | refine LeO.ite ?_ ?_
   | refine LeO.bind ?_ (fun _ => ?_)
set_option maxHeartbeats 8000000 in
set_option maxRecDepth 100000 in
theorem impl_SamePlan.calls (k : Nat) (A0 : Option Addr) (c0 : Nat) (l0 : List (S58)) (A1 : Option Addr) (c1 : Nat) (l1 : List (S58)) (r : Bool) (w : World) (hr0 : Kd.C k58 w A0 l0.length l0) (hc0 : l0.length ≤ c0) (hr1 : Kd.C k58 w A1 l1.length l1) (hc1 : l1.length ≤ c1) (h : impl_SamePlan.f k l0 l1 = some r) :
  Calls Try.prog 42 #[.slice A0 l0.length c0, .slice A1 l1.length c1] w fun e w' => e = .returned (.bool r) ∧ Below w.heap.size w w' := by
 have HR0 := Aside0.mk hr0
 have HC0 := Aside0.mk hc0
 clear hr0 hc0
 have HR1 := Aside0.mk hr1
 have HC1 := Aside0.mk hc1
 clear hr1 hc1
 have HB := Aside0.mk (Below.refl w.heap.size w)
 have H : ((slices_EqualFunc_impl_Node_impl_Node_impl_Node_impl_Node.f k l0 l1).bind fun t527 => (some t527)) = some r := h
 clear h
 replace H := Option.bind_eq_some_iff.mp H
 obtain ⟨t527, A30, H⟩ := H
 replace H : (some t527) = some r := H
 have A3 := Aside0.mk A30
 clear A30
 obtain rfl := Option.some.inj H
 go_enter Try.func42, Try.ntmps42
 go_wp2_with (first | ((with_reducible refine gate_callee (f := 91) rfl ?_); refine goesL_ (some 7) rfl rfl Try.func91 (by kernel_rfl) rfl #[.slice A0 l0.length c0, .slice A1 l1.length c1, .func (.func 92) #[] #[]] rfl aL ?_; (with_reducible refine (slices_EqualFunc_impl_Node_impl_Node_impl_Node_impl_Node.calls k _ _ l0 _ _ l1  t527 _ ?side1 ?side2 ?side3 ?side4 A3.out).mono ?_); (case side1 => exact cA); (case side2 => exact HC0.out); (case side3 => exact cA); (case side4 => exact HC1.out); rintro e w4 ⟨rfl, hb⟩; refine ⟨_, rfl, ?_⟩; have n0_ := Aside0.mk (below_step bA hb); clear HB; have HB := n0_; clear n0_; (try clear hb); (try clear hb2); (try clear hk); (try clear hi)))
 go_ret
 exact ⟨rE, bA⟩

end Go.Proofs.Ytbdfidnldaghbaa.Q
