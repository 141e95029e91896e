/- The machine side of a law, written by a program of this session over the translation: for each Go function a Lean function with the same answers, and the proof that the Go code comes to them. -/
import Derived.Test.YtgmhohafoclmpaaQx0
import Derived.Test.YtgmhohafoclmpaaQx2
import Derived.Test.YtgmhohafoclmpaaQx3
import Derived.Test.YtgmhohafoclmpaaQx5
import Derived.Test.YtgmhohafoclmpaaQx6
namespace Go.Proofs.Ytgmhohafoclmpaa.Q
open Go.RowKit Go.Proofs.Ytgmhohafoclmpaa.Own Go.Proofs.YtgmhohafoclmpaaW.PrintWords Go.Proofs.YtgmhohafoclmpaaW.PrintLast Go.Proofs.YtgmhohafoclmpaaW.PrintMore
attribute [local go_sem] max2_int min2_int max_two min_two max_three min_three max_four min_four   -- for this text's walks alone
set_option linter.unusedVariables false
set_option linter.unusedSimpArgs false

/-! ### slices_IndexFunc_impl_Node_impl_Node: function 109 -/
def slices_IndexFunc_impl_Node_impl_Node.l0 : Nat → List (S62) → Int → Int → Option (Int)
 | 0, _, _, _ => none
 | k + 1, x0, x7, x8 => if x8 < x7 then (if 0 ≤ x8 then (if x8 < (x0.length : Int) then ((impl_PlanOk_1.f k ((rd_T62 x0 x8).f0) ((rd_T62 x0 x8).f1) ((rd_T62 x0 x8).f2) ((rd_T62 x0 x8).f3) ((rd_T62 x0 x8).f4) ((rd_T62 x0 x8).f5) ((rd_T62 x0 x8).f6)).bind fun t253 => (if t253 = true then (some x8) else (slices_IndexFunc_impl_Node_impl_Node.l0 k x0 x7 (wrap64 (x8 + 1))))) else (none)) else (none)) else (some (-1))
def slices_IndexFunc_impl_Node_impl_Node.f (k : Nat) (l0 : List (S62))  : Option (Int) := slices_IndexFunc_impl_Node_impl_Node.l0 k l0 (l0.length : Int) 0
theorem slices_IndexFunc_impl_Node_impl_Node.mono_l : ∀ k, (∀ y0 y1 y2, LeO (slices_IndexFunc_impl_Node_impl_Node.l0 k y0 y1 y2) (slices_IndexFunc_impl_Node_impl_Node.l0 (k + 1) y0 y1 y2))
 | 0 => fun _ _ _ r h => by simp [slices_IndexFunc_impl_Node_impl_Node.l0] at h
 | k + 1 => by
  have ih0 := slices_IndexFunc_impl_Node_impl_Node.mono_l k
  ·intro y0 y1 y2
   unfold slices_IndexFunc_impl_Node_impl_Node.l0
   repeat' first
   | (with_reducible exact ih0 _ _ _)
   | (with_reducible exact impl_PlanOk_1.mono _ _ _ _ _ _ _ _)
   | (with_reducible exact LeO.refl _)
   | (with_reducible exact LeO.none _)
   | (with_reducible refine LeO.ite ?_ ?_)
   | (with_reducible refine LeO.bind ?_ (fun _ => ?_))
   | exact ih0 _ _ _
   | exact impl_PlanOk_1.mono _ _ _ _ _ _ _ _
   | exact LeO.none _
   | refine LeO.ite ?_ ?_
   | refine LeO.bind ?_ (fun _ => ?_)
theorem slices_IndexFunc_impl_Node_impl_Node.mono : ∀ a0 k, LeO (slices_IndexFunc_impl_Node_impl_Node.f k a0) (slices_IndexFunc_impl_Node_impl_Node.f (k + 1) a0) := by
 intro a0 k
 have ih0 := slices_IndexFunc_impl_Node_impl_Node.mono_l k
 unfold slices_IndexFunc_impl_Node_impl_Node.f
 repeat' first
   | (with_reducible exact ih0 _ _ _)
   | (with_reducible exact impl_PlanOk_1.mono _ _ _ _ _ _ _ _)
   | (with_reducible exact LeO.refl _)
   | (with_reducible exact LeO.none _)
   | (with_reducible refine LeO.ite ?_ ?_)
   | (with_reducible refine LeO.bind ?_ (fun _ => ?_))
   | exact ih0 _ _ _
   | exact impl_PlanOk_1.mono _ _ _ _ _ _ _ _
   | exact LeO.none _
   | refine LeO.ite ?_ ?_
   | refine LeO.bind ?_ (fun _ => ?_)
set_option maxHeartbeats 8000000 in
set_option maxRecDepth 100000 in
theorem slices_IndexFunc_impl_Node_impl_Node.calls (k : Nat) (A0 : Option Addr) (c0 : Nat) (l0 : List (S62))  (r : Int) (w : World) (hr0 : Kd.C k62 w A0 l0.length l0) (hc0 : l0.length ≤ c0) (h : slices_IndexFunc_impl_Node_impl_Node.f k l0 = some r) :
  Calls Try.prog 109 #[.slice A0 l0.length c0, .func (.func 76) #[] #[]] w fun e w' => e = .returned (.int .i64 r) ∧ Below w.heap.size w w' := by
 have hu62 := Try.underlying62
 have HR0 := Aside0.mk hr0
 have HC0 := Aside0.mk hc0
 clear hr0 hc0
 have HB := Aside0.mk (Below.refl w.heap.size w)
 have H : (slices_IndexFunc_impl_Node_impl_Node.l0 k l0 (l0.length : Int) 0) = some r := h
 clear h
 have H' := Aside0.mk H
 clear H
 go_enter Try.func109, Try.ntmps109
 go_wp2
 go_loopg [8] k (fun kq v8 w' => ∃ (x8_1 : Int), v8 = .int .i64 x8_1 ∧ Aside0 (slices_IndexFunc_impl_Node_impl_Node.l0 kq l0 (l0.length : Int) x8_1 = some r) ∧ Aside0 (kq ≤ k) ∧ Aside0 (Below w.heap.size w w'))
 case atStart => exact ⟨(0), rF, H', ⟨Nat.le_refl _⟩, ⟨bA⟩⟩
 case round =>
  clear H'
  try clear c1
  try clear p2
  obtain ⟨x8_1, rfl, HA, HK1, HB⟩ := hrel
  cases gk with
  | zero => exact absurd HA.out (by simp [slices_IndexFunc_impl_Node_impl_Node.l0])
  | succ k1 =>
   have H := HA.out
   clear HA
   simp only [slices_IndexFunc_impl_Node_impl_Node.l0] at H
   by_cases c3 : x8_1 < (l0.length : Int)
   ·rw [if_pos c3] at H
    have c3b0 : decide (x8_1 < (l0.length : Int)) = true := decide_eq_true c3
    clear c3
    by_cases c4 : 0 ≤ x8_1
    ·rw [if_pos c4] at H
     have c4b0 : decide (0 ≤ x8_1) = true := decide_eq_true c4
     clear c4
     by_cases c5 : x8_1 < (l0.length : Int)
     ·rw [if_pos c5] at H
      have c5b0 : decide (x8_1 < (l0.length : Int)) = true := decide_eq_true c5
      clear c5
      replace H := Option.bind_eq_some_iff.mp H
      obtain ⟨t253, A60, H⟩ := H
      replace H : (if t253 = true then (some x8_1) else (slices_IndexFunc_impl_Node_impl_Node.l0 k1 l0 (l0.length : Int) (wrap64 (x8_1 + 1)))) = some r := H
      have A6 := Aside0.mk A60
      clear A60
      by_cases c7 : t253 = true
      ·subst c7
       have H1 : (some x8_1) = some r := by rw [if_pos rfl] at H; exact H
       clear H
       have H := H1
       clear H1
       obtain rfl := Option.some.inj H
       have p252 : 0 ≤ (x8_1 : Int) := of_decide_eq_true (by assumption)
       have q252 : x8_1 < (l0.length : Int) := of_decide_eq_true (by assumption)
       obtain ⟨ad252, A252_6, c252_6, e252, hx252_0, hx252_1, hx252_2, hx252_3, hx252_4, hx252_5, hx252_6, hl252_6, hi252_6⟩ := at_T62 HR0.out x8_1 p252 q252
       cases e252
       replace hx252_0 := hxB HB.out hx252_0
       replace hx252_1 := hxB HB.out hx252_1
       replace hx252_2 := hxB HB.out hx252_2
       replace hx252_3 := hxB HB.out hx252_3
       replace hx252_4 := hxB HB.out hx252_4
       replace hx252_5 := hxB HB.out hx252_5
       replace hx252_6 := hxB HB.out hx252_6
       have HR252_6 := Aside0.mk hi252_6
       have HC252_6 := Aside0.mk hl252_6
       clear hi252_6 hl252_6
       replace p252 := eq_true p252
       replace q252 := eq_true q252
       go_wp2_with (first | (go_at_call 76; (with_reducible refine (impl_PlanOk_1.calls k1 ((rd_T62 l0 x8_1).f0) ((rd_T62 l0 x8_1).f1) ((rd_T62 l0 x8_1).f2) ((rd_T62 l0 x8_1).f3) ((rd_T62 l0 x8_1).f4) ((rd_T62 l0 x8_1).f5) _ _ ((rd_T62 l0 x8_1).f6) true _ ?side1 ?side2 A6.out).mono ?_); (case side1 => exact cA); (case side2 => exact HC252_6.out); rintro e w8 ⟨rfl, hb⟩; have n0_ := Aside0.mk (below_step bA hb); clear HB; have HB := n0_; clear n0_; (try clear hb); (try clear hb2); (try clear hk); (try clear hi)))
       go_ret
       exact ⟨rE, bA⟩
      ·replace c7 := Bool.eq_false_iff.mpr c7
       subst c7
       have H1 : (slices_IndexFunc_impl_Node_impl_Node.l0 k1 l0 (l0.length : Int) (wrap64 (x8_1 + 1))) = some r := by rw [if_neg (show ¬ (false = true) by decide)] at H; exact H
       clear H
       have H := H1
       clear H1
       have H' := Aside0.mk H
       clear H
       have p252 : 0 ≤ (x8_1 : Int) := of_decide_eq_true (by assumption)
       have q252 : x8_1 < (l0.length : Int) := of_decide_eq_true (by assumption)
       obtain ⟨ad252, A252_6, c252_6, e252, hx252_0, hx252_1, hx252_2, hx252_3, hx252_4, hx252_5, hx252_6, hl252_6, hi252_6⟩ := at_T62 HR0.out x8_1 p252 q252
       cases e252
       replace hx252_0 := hxB HB.out hx252_0
       replace hx252_1 := hxB HB.out hx252_1
       replace hx252_2 := hxB HB.out hx252_2
       replace hx252_3 := hxB HB.out hx252_3
       replace hx252_4 := hxB HB.out hx252_4
       replace hx252_5 := hxB HB.out hx252_5
       replace hx252_6 := hxB HB.out hx252_6
       have HR252_6 := Aside0.mk hi252_6
       have HC252_6 := Aside0.mk hl252_6
       clear hi252_6 hl252_6
       replace p252 := eq_true p252
       replace q252 := eq_true q252
       go_wp2_with (first | (go_at_call 76; (with_reducible refine (impl_PlanOk_1.calls k1 ((rd_T62 l0 x8_1).f0) ((rd_T62 l0 x8_1).f1) ((rd_T62 l0 x8_1).f2) ((rd_T62 l0 x8_1).f3) ((rd_T62 l0 x8_1).f4) ((rd_T62 l0 x8_1).f5) _ _ ((rd_T62 l0 x8_1).f6) false _ ?side1 ?side2 A6.out).mono ?_); (case side1 => exact cA); (case side2 => exact HC252_6.out); rintro e w9 ⟨rfl, hb⟩; have n0_ := Aside0.mk (below_step bA hb); clear HB; have HB := n0_; clear n0_; (try clear hb); (try clear hb2); (try clear hk); (try clear hi)))
       go_roundg k1
       case measure => have := HK1.out; omega
       case rel => exact ⟨(wrap64 (x8_1 + 1)), rF, H', ⟨by have := HK1.out; omega⟩, ⟨bA⟩⟩
     ·rw [if_neg c5] at H
      exact absurd H (by simp)
    ·rw [if_neg c4] at H
     exact absurd H (by simp)
   ·rw [if_neg c3] at H
    have c3b0 : decide (x8_1 < (l0.length : Int)) = false := decide_eq_false c3
    clear c3
    obtain rfl := Option.some.inj H
    go_wp2
    go_ret
    exact ⟨rE, bA⟩

/-! ### slices_ContainsFunc_impl_Node_impl_Node: function 75 -/
def slices_ContainsFunc_impl_Node_impl_Node.f (k : Nat) (l0 : List (S62))  : Option (Bool) := (slices_IndexFunc_impl_Node_impl_Node.f k l0).bind fun t254 => (some (decide (t254 ≥ 0)))
theorem slices_ContainsFunc_impl_Node_impl_Node.mono : ∀ a0 k, LeO (slices_ContainsFunc_impl_Node_impl_Node.f k a0) (slices_ContainsFunc_impl_Node_impl_Node.f (k + 1) a0) := by
 intro a0 k
 unfold slices_ContainsFunc_impl_Node_impl_Node.f
 repeat' first
   | (with_reducible exact slices_IndexFunc_impl_Node_impl_Node.mono _ _)
   | (with_reducible exact LeO.refl _)
   | (with_reducible exact LeO.none _)
   | (with_reducible refine LeO.ite ?_ ?_)
   | (with_reducible refine LeO.bind ?_ (fun _ => ?_))
   | exact slices_IndexFunc_impl_Node_impl_Node.mono _ _
   | exact LeO.none _
   | refine LeO.ite ?_ ?_
   | refine LeO.bind ?_ (fun _ => ?_)
set_option maxHeartbeats 8000000 in
set_option maxRecDepth 100000 in
theorem slices_ContainsFunc_impl_Node_impl_Node.calls (k : Nat) (A0 : Option Addr) (c0 : Nat) (l0 : List (S62))  (r : Bool) (w : World) (hr0 : Kd.C k62 w A0 l0.length l0) (hc0 : l0.length ≤ c0) (h : slices_ContainsFunc_impl_Node_impl_Node.f k l0 = some r) :
  Calls Try.prog 75 #[.slice A0 l0.length c0, .func (.func 76) #[] #[]] w fun e w' => e = .returned (.bool r) ∧ Below w.heap.size w w' := by
 have HR0 := Aside0.mk hr0
 have HC0 := Aside0.mk hc0
 clear hr0 hc0
 have HB := Aside0.mk (Below.refl w.heap.size w)
 have H : ((slices_IndexFunc_impl_Node_impl_Node.f k l0).bind fun t254 => (some (decide (t254 ≥ 0)))) = some r := h
 clear h
 replace H := Option.bind_eq_some_iff.mp H
 obtain ⟨t254, A30, H⟩ := H
 replace H : (some (decide (t254 ≥ 0))) = some r := H
 have A3 := Aside0.mk A30
 clear A30
 obtain rfl := Option.some.inj H
 go_enter Try.func75, Try.ntmps75
 go_wp2_with (first | ((with_reducible refine gate_callee (f := 109) rfl ?_); refine goesL_ (some 7) rfl rfl Try.func109 (by kernel_rfl) rfl #[.slice A0 l0.length c0, .func (.func 76) #[] #[]] rfl aL ?_; (with_reducible refine (slices_IndexFunc_impl_Node_impl_Node.calls k _ _ l0  t254 _ ?side1 ?side2 A3.out).mono ?_); (case side1 => exact cA); (case side2 => exact HC0.out); rintro e w4 ⟨rfl, hb⟩; refine ⟨_, rfl, ?_⟩; have n0_ := Aside0.mk (below_step bA hb); clear HB; have HB := n0_; clear n0_; (try clear hb); (try clear hb2); (try clear hk); (try clear hi)))
 go_ret
 exact ⟨rE, bA⟩

/-! ### impl_PlanOk: function 43 -/
def impl_PlanOk.f (k : Nat) (l0 : List (S62)) : Option (Bool) := (impl_in.f (l0.length : Int) 1 40).bind fun t258 => (if t258 = true then ((slices_ContainsFunc_impl_Node_impl_Node.f k l0).bind fun t259 => (if t259 = true then (some false) else ((impl_end.f k l0 0 1).bind fun t260 => (some (t260 == (l0.length : Int)))))) else (some false))
theorem impl_PlanOk.mono : ∀ a0 k, LeO (impl_PlanOk.f k a0) (impl_PlanOk.f (k + 1) a0) := by
 intro a0 k
 unfold impl_PlanOk.f
 repeat' first
   | (with_reducible exact impl_end.mono _ _ _ _)
   | (with_reducible exact slices_ContainsFunc_impl_Node_impl_Node.mono _ _)
   | (with_reducible exact LeO.refl _)
   | (with_reducible exact LeO.none _)
   | (with_reducible refine LeO.ite ?_ ?_)
   | (with_reducible refine LeO.bind ?_ (fun _ => ?_))
   | exact impl_end.mono _ _ _ _
   | exact slices_ContainsFunc_impl_Node_impl_Node.mono _ _
   | exact LeO.none _
   | refine LeO.ite ?_ ?_
   | refine LeO.bind ?_ (fun _ => ?_)
set_option maxHeartbeats 8000000 in
set_option maxRecDepth 100000 in
theorem impl_PlanOk.calls (k : Nat) (A0 : Option Addr) (c0 : Nat) (l0 : List (S62)) (r : Bool) (w : World) (hr0 : Kd.C k62 w A0 l0.length l0) (hc0 : l0.length ≤ c0) (h : impl_PlanOk.f k l0 = some r) :
  Calls Try.prog 43 #[.slice A0 l0.length c0] w fun e w' => e = .returned (.bool r) ∧ Below w.heap.size w w' := by
 have HR0 := Aside0.mk hr0
 have HC0 := Aside0.mk hc0
 clear hr0 hc0
 have HB := Aside0.mk (Below.refl w.heap.size w)
 have H : ((impl_in.f (l0.length : Int) 1 40).bind fun t258 => (if t258 = true then ((slices_ContainsFunc_impl_Node_impl_Node.f k l0).bind fun t259 => (if t259 = true then (some false) else ((impl_end.f k l0 0 1).bind fun t260 => (some (t260 == (l0.length : Int)))))) else (some false))) = some r := h
 clear h
 replace H := Option.bind_eq_some_iff.mp H
 obtain ⟨t258, A20, H⟩ := H
 replace H : (if t258 = true then ((slices_ContainsFunc_impl_Node_impl_Node.f k l0).bind fun t259 => (if t259 = true then (some false) else ((impl_end.f k l0 0 1).bind fun t260 => (some (t260 == (l0.length : Int)))))) else (some false)) = some r := H
 have A2 := Aside0.mk A20
 clear A20
 by_cases c3 : t258 = true
 ·subst c3
  have H1 : ((slices_ContainsFunc_impl_Node_impl_Node.f k l0).bind fun t259 => (if t259 = true then (some false) else ((impl_end.f k l0 0 1).bind fun t260 => (some (t260 == (l0.length : Int)))))) = some r := by rw [if_pos rfl] at H; exact H
  clear H
  have H := H1
  clear H1
  replace H := Option.bind_eq_some_iff.mp H
  obtain ⟨t259, A40, H⟩ := H
  replace H : (if t259 = true then (some false) else ((impl_end.f k l0 0 1).bind fun t260 => (some (t260 == (l0.length : Int))))) = some r := H
  have A4 := Aside0.mk A40
  clear A40
  by_cases c5 : t259 = true
  ·subst c5
   have H1 : (some false) = some r := by rw [if_pos rfl] at H; exact H
   clear H
   have H := H1
   clear H1
   obtain rfl := Option.some.inj H
   go_enter Try.func43, Try.ntmps43
   go_wp2_with (first | ((with_reducible refine gate_callee (f := 59) rfl ?_); refine goesL_ (some 5) rfl rfl Try.func59 (by kernel_rfl) rfl #[.int .i64 (l0.length : Int), .int .i64 1, .int .i64 40] rfl aL ?_; (with_reducible refine (impl_in.calls (l0.length : Int) 1 40 true _ A2.out).mono ?_); rintro e w' ⟨rfl, ⟨nd, rfl⟩⟩; refine ⟨_, rfl, ?_⟩) | (go_at_call 75; (with_reducible refine (slices_ContainsFunc_impl_Node_impl_Node.calls k _ _ l0  true _ ?side1 ?side2 A4.out).mono ?_); (case side1 => exact cA); (case side2 => exact HC0.out); rintro e w6 ⟨rfl, hb⟩; have n0_ := Aside0.mk (below_step bA hb); clear HB; have HB := n0_; clear n0_; (try clear hb); (try clear hb2); (try clear hk); (try clear hi)))
   go_ret
   exact ⟨rE, bA⟩
  ·replace c5 := Bool.eq_false_iff.mpr c5
   subst c5
   have H1 : ((impl_end.f k l0 0 1).bind fun t260 => (some (t260 == (l0.length : Int)))) = some r := by rw [if_neg (show ¬ (false = true) by decide)] at H; exact H
   clear H
   have H := H1
   clear H1
   replace H := Option.bind_eq_some_iff.mp H
   obtain ⟨t260, A70, H⟩ := H
   replace H : (some (t260 == (l0.length : Int))) = some r := H
   have A7 := Aside0.mk A70
   clear A70
   obtain rfl := Option.some.inj H
   go_enter Try.func43, Try.ntmps43
   go_wp2_with (first | ((with_reducible refine gate_callee (f := 59) rfl ?_); refine goesL_ (some 5) rfl rfl Try.func59 (by kernel_rfl) rfl #[.int .i64 (l0.length : Int), .int .i64 1, .int .i64 40] rfl aL ?_; (with_reducible refine (impl_in.calls (l0.length : Int) 1 40 true _ A2.out).mono ?_); rintro e w' ⟨rfl, ⟨nd, rfl⟩⟩; refine ⟨_, rfl, ?_⟩) | (go_at_call 75; (with_reducible refine (slices_ContainsFunc_impl_Node_impl_Node.calls k _ _ l0  false _ ?side1 ?side2 A4.out).mono ?_); (case side1 => exact cA); (case side2 => exact HC0.out); rintro e w8 ⟨rfl, hb⟩; have n0_ := Aside0.mk (below_step bA hb); clear HB; have HB := n0_; clear n0_; (try clear hb); (try clear hb2); (try clear hk); (try clear hi)) | ((with_reducible refine gate_callee (f := 78) rfl ?_); refine goesL_ (some 12) rfl rfl Try.func78 (by kernel_rfl) rfl #[.slice A0 l0.length c0, .int .i64 0, .int .i64 1] rfl aL ?_; (with_reducible refine (impl_end.calls k _ _ l0 0 1 t260 _ ?side1 ?side2 A7.out).mono ?_); (case side1 => exact cA); (case side2 => exact HC0.out); rintro e w' ⟨rfl, ⟨nd, rfl⟩⟩; refine ⟨_, rfl, ?_⟩))
   go_ret
   exact ⟨rE, bA⟩
 ·replace c3 := Bool.eq_false_iff.mpr c3
  subst c3
  have H1 : (some false) = some r := by rw [if_neg (show ¬ (false = true) by decide)] at H; exact H
  clear H
  have H := H1
  clear H1
  obtain rfl := Option.some.inj H
  go_enter Try.func43, Try.ntmps43
  go_wp2_with (first | ((with_reducible refine gate_callee (f := 59) rfl ?_); refine goesL_ (some 5) rfl rfl Try.func59 (by kernel_rfl) rfl #[.int .i64 (l0.length : Int), .int .i64 1, .int .i64 40] rfl aL ?_; (with_reducible refine (impl_in.calls (l0.length : Int) 1 40 false _ A2.out).mono ?_); rintro e w' ⟨rfl, ⟨nd, rfl⟩⟩; refine ⟨_, rfl, ?_⟩))
  go_ret
  exact ⟨rE, bA⟩

/-! ### impl_TakeNum: function 58 -/
mutual
def impl_TakeNum.l0 : Nat → List Int → Int → Int → Int → Int → Option (Int × Int)
 | 0, _, _, _, _, _ => none
 | k + 1, x0, x1, x6, x7, x8 => if x8 < (x0.length : Int) then (impl_TakeNum.j1 k x0 x1 x6 x7 x8 (decide (x8 < (wrap64 (x1 + 3))))) else (impl_TakeNum.j1 k x0 x1 x6 x7 x8 false)
def impl_TakeNum.j1 : Nat → List Int → Int → Int → Int → Int → Bool → Option (Int × Int)
 | 0, _, _, _, _, _, _ => none
 | k + 1, x0, x1, x6, x7, x8, x22 => if x22 = true then (if 0 ≤ x8 then (if x8 < (x0.length : Int) then (if (rd x0 x8) ≥ 128 then (impl_TakeNum.l0 k x0 x1 (wrap64 (x6 + (wrap64 ((wrap64 (Int.tmod (rd x0 x8) 128)) * x7)))) (wrap64 (x7 * 128)) (wrap64 (x8 + 1))) else (if (Int.tmod (wrap64 (x6 + (wrap64 ((wrap64 (Int.tmod (rd x0 x8) 128)) * x7)))) 2) = 1 then ((impl_isNum.f (wrap64 (Int.tdiv (wrap64 (-(wrap64 ((wrap64 (x6 + (wrap64 ((wrap64 (Int.tmod (rd x0 x8) 128)) * x7)))) + 1)))) 2))).bind fun t263 => (if t263 = true then (if (rd x0 x8) = 0 then (if x8 > x1 then (some (0, (-1))) else (some (wrap64 (Int.tdiv (wrap64 (-(wrap64 ((wrap64 (x6 + (wrap64 ((wrap64 (Int.tmod (rd x0 x8) 128)) * x7)))) + 1)))) 2), wrap64 (x8 + 1)))) else (some (wrap64 (Int.tdiv (wrap64 (-(wrap64 ((wrap64 (x6 + (wrap64 ((wrap64 (Int.tmod (rd x0 x8) 128)) * x7)))) + 1)))) 2), wrap64 (x8 + 1)))) else (some (0, (-1))))) else ((impl_isNum.f (wrap64 (Int.tdiv (wrap64 (x6 + (wrap64 ((wrap64 (Int.tmod (rd x0 x8) 128)) * x7)))) 2))).bind fun t265 => (if t265 = true then (if (rd x0 x8) = 0 then (if x8 > x1 then (some (0, (-1))) else (some (wrap64 (Int.tdiv (wrap64 (x6 + (wrap64 ((wrap64 (Int.tmod (rd x0 x8) 128)) * x7)))) 2), wrap64 (x8 + 1)))) else (some (wrap64 (Int.tdiv (wrap64 (x6 + (wrap64 ((wrap64 (Int.tmod (rd x0 x8) 128)) * x7)))) 2), wrap64 (x8 + 1)))) else (some (0, (-1))))))) else (none)) else (none)) else (some (0, (-1)))
end
def impl_TakeNum.f (k : Nat) (l0 : List Int) (a1 : Int) : Option (Int × Int) := if a1 < 0 then (some (0, (-1))) else (impl_TakeNum.l0 k l0 a1 0 1 a1)
theorem impl_TakeNum.mono_l : ∀ k, (∀ y0 y1 y2 y3 y4, LeO (impl_TakeNum.l0 k y0 y1 y2 y3 y4) (impl_TakeNum.l0 (k + 1) y0 y1 y2 y3 y4)) ∧ (∀ y0 y1 y2 y3 y4 y5, LeO (impl_TakeNum.j1 k y0 y1 y2 y3 y4 y5) (impl_TakeNum.j1 (k + 1) y0 y1 y2 y3 y4 y5))
 | 0 => ⟨fun _ _ _ _ _ r h => by simp [impl_TakeNum.l0] at h, fun _ _ _ _ _ _ r h => by simp [impl_TakeNum.j1] at h⟩
 | k + 1 => by
  obtain ⟨ih0, ih1⟩ := impl_TakeNum.mono_l k
  refine ⟨?_, ?_⟩ <;> intros <;> (first | unfold impl_TakeNum.l0 | unfold impl_TakeNum.j1)
  all_goals repeat' first
  | (with_reducible exact ih0 _ _ _ _ _)
  | (with_reducible exact ih1 _ _ _ _ _ _)
  | (with_reducible exact LeO.refl _)
  | (with_reducible exact LeO.none _)
  | (with_reducible refine LeO.ite ?_ ?_)
  | (with_reducible refine LeO.bind ?_ (fun _ => ?_))
  | exact ih0 _ _ _ _ _
  | exact ih1 _ _ _ _ _ _
  | exact LeO.none _
  | refine LeO.ite ?_ ?_
  | refine LeO.bind ?_ (fun _ => ?_)
theorem impl_TakeNum.mono : ∀ a0 a1 k, LeO (impl_TakeNum.f k a0 a1) (impl_TakeNum.f (k + 1) a0 a1) := by
 intro a0 a1 k
 obtain ⟨ih0, ih1⟩ := impl_TakeNum.mono_l k
 unfold impl_TakeNum.f
 repeat' first
   | (with_reducible exact ih0 _ _ _ _ _)
   | (with_reducible exact ih1 _ _ _ _ _ _)
   | (with_reducible exact LeO.refl _)
   | (with_reducible exact LeO.none _)
   | (with_reducible refine LeO.ite ?_ ?_)
   | (with_reducible refine LeO.bind ?_ (fun _ => ?_))
   | exact ih0 _ _ _ _ _
   | exact ih1 _ _ _ _ _ _
   | exact LeO.none _
   | refine LeO.ite ?_ ?_
   | refine LeO.bind ?_ (fun _ => ?_)
set_option maxHeartbeats 8000000 in
set_option maxRecDepth 100000 in
theorem impl_TakeNum.calls (k : Nat) (A0 : Option Addr) (c0 : Nat) (l0 : List Int) (a1 : Int) (r1 : Int) (r2 : Int) (w : World) (hr0 : Kd.C (Kd.int .u8) w A0 l0.length l0) (hc0 : l0.length ≤ c0) (h : impl_TakeNum.f k l0 a1 = some (r1, r2)) :
  Calls Try.prog 58 #[.slice A0 l0.length c0, .int .i64 a1] w fun e w' => e = .returned (.tuple #[.int .i64 r1, .int .i64 r2]) ∧ Drawn0 w w' := by
 have HR0 := Aside0.mk hr0
 have HC0 := Aside0.mk hc0
 clear hr0 hc0
 have H : (if a1 < 0 then (some (0, (-1))) else (impl_TakeNum.l0 k l0 a1 0 1 a1)) = some (r1, r2) := h
 clear h
 by_cases c3 : a1 < 0
 ·rw [if_pos c3] at H
  have c3b0 : decide (a1 < 0) = true := decide_eq_true c3
  clear c3
  simp only [Option.some.injEq, Prod.mk.injEq] at H
  obtain ⟨rfl, rfl⟩ := H
  go_enter Try.func58, Try.ntmps58
  go_wp2
  go_ret2
  exact ⟨rF, by repeat (first | exact Drawn0.refl _ | apply Drawn0.step)⟩
 ·rw [if_neg c3] at H
  have c3b0 : decide (a1 < 0) = false := decide_eq_false c3
  clear c3
  have H' := Aside0.mk H
  clear H
  go_enter Try.func58, Try.ntmps58
  go_wp2
  go_loopg [6, 7, 8] k (fun kq v6 v7 v8 w' => ∃ (x6_1 : Int) (x7_1 : Int) (x8_1 : Int), v6 = .int .i64 x6_1 ∧ v7 = .int .i64 x7_1 ∧ v8 = .int .i64 x8_1 ∧ Aside0 (impl_TakeNum.l0 kq l0 a1 x6_1 x7_1 x8_1 = some (r1, r2)) ∧ Aside0 (kq ≤ k) ∧ Drawn0 w w')
  case atStart => exact ⟨(0), (1), (a1), rF, rF, rF, H', ⟨Nat.le_refl _⟩, by repeat (first | exact Drawn0.refl _ | apply Drawn0.step)⟩
  case round =>
   clear H'
   try clear p2
   try clear c3
   try clear c3b0
   obtain ⟨x6_1, x7_1, x8_1, rfl, rfl, rfl, HA, HK1, ⟨m1, rfl⟩⟩ := hrel
   cases gk with
   | zero => exact absurd HA.out (by simp [impl_TakeNum.l0])
   | succ k1 =>
    have H := HA.out
    clear HA
    simp only [impl_TakeNum.l0] at H
    have HC4 := Aside0.mk H
    clear H
    go_upto_region 5 with (fail)
    go_cut [22] (fun v22 wc => ∃ (kq : Nat) (x22_3 : Bool), v22 = .bool x22_3 ∧ Aside0 (impl_TakeNum.j1 kq l0 a1 x6_1 x7_1 x8_1 x22_3 = some (r1, r2)) ∧ Aside0 (kq ≤ k1) ∧ Drawn0 w wc)
    case first =>
     have H := HC4.out
     clear HC4
     by_cases c5 : x8_1 < (l0.length : Int)
     ·rw [if_pos c5] at H
      have c5b0 : decide (x8_1 < (l0.length : Int)) = true := decide_eq_true c5
      clear c5
      (first | rw [c5b0] | (simp only [i64_w, i32_w]; rw [c5b0]) | skip)
      have H' := Aside0.mk H
      clear H
      go_wp2
      go_meet
      case rel => exact ⟨_, (decide (x8_1 < (wrap64 (a1 + 3)))), rF, H', ⟨by have := HK1.out; first | omega | exact Nat.le_refl _⟩, by repeat (first | exact Drawn0.refl _ | apply Drawn0.step)⟩
     ·rw [if_neg c5] at H
      have c5b0 : decide (x8_1 < (l0.length : Int)) = false := decide_eq_false c5
      clear c5
      (first | rw [c5b0] | (simp only [i64_w, i32_w]; rw [c5b0]) | skip)
      have H' := Aside0.mk H
      clear H
      go_wp2
      go_meet
      case rel => exact ⟨_, (false), rF, H', ⟨by have := HK1.out; first | omega | exact Nat.le_refl _⟩, by repeat (first | exact Drawn0.refl _ | apply Drawn0.step)⟩
    case rest =>
     clear HC4
     try clear p2
     try clear c3
     try clear c3b0
     try clear c5
     try clear c5b0
     try clear p2
     obtain ⟨kq, x22_3, rfl, HA, HJ3, ⟨mc3, rfl⟩⟩ := hcut
     cases kq with
     | zero => exact absurd HA.out (by simp [impl_TakeNum.j1])
     | succ kj3 =>
      have H := HA.out
      clear HA
      simp only [impl_TakeNum.j1] at H
      by_cases c6 : x22_3 = true
      ·subst c6
       have H1 : (if 0 ≤ x8_1 then (if x8_1 < (l0.length : Int) then (if (rd l0 x8_1) ≥ 128 then (impl_TakeNum.l0 kj3 l0 a1 (wrap64 (x6_1 + (wrap64 ((wrap64 (Int.tmod (rd l0 x8_1) 128)) * x7_1)))) (wrap64 (x7_1 * 128)) (wrap64 (x8_1 + 1))) else (if (Int.tmod (wrap64 (x6_1 + (wrap64 ((wrap64 (Int.tmod (rd l0 x8_1) 128)) * x7_1)))) 2) = 1 then ((impl_isNum.f (wrap64 (Int.tdiv (wrap64 (-(wrap64 ((wrap64 (x6_1 + (wrap64 ((wrap64 (Int.tmod (rd l0 x8_1) 128)) * x7_1)))) + 1)))) 2))).bind fun t263 => (if t263 = true then (if (rd l0 x8_1) = 0 then (if x8_1 > a1 then (some (0, (-1))) else (some (wrap64 (Int.tdiv (wrap64 (-(wrap64 ((wrap64 (x6_1 + (wrap64 ((wrap64 (Int.tmod (rd l0 x8_1) 128)) * x7_1)))) + 1)))) 2), wrap64 (x8_1 + 1)))) else (some (wrap64 (Int.tdiv (wrap64 (-(wrap64 ((wrap64 (x6_1 + (wrap64 ((wrap64 (Int.tmod (rd l0 x8_1) 128)) * x7_1)))) + 1)))) 2), wrap64 (x8_1 + 1)))) else (some (0, (-1))))) else ((impl_isNum.f (wrap64 (Int.tdiv (wrap64 (x6_1 + (wrap64 ((wrap64 (Int.tmod (rd l0 x8_1) 128)) * x7_1)))) 2))).bind fun t265 => (if t265 = true then (if (rd l0 x8_1) = 0 then (if x8_1 > a1 then (some (0, (-1))) else (some (wrap64 (Int.tdiv (wrap64 (x6_1 + (wrap64 ((wrap64 (Int.tmod (rd l0 x8_1) 128)) * x7_1)))) 2), wrap64 (x8_1 + 1)))) else (some (wrap64 (Int.tdiv (wrap64 (x6_1 + (wrap64 ((wrap64 (Int.tmod (rd l0 x8_1) 128)) * x7_1)))) 2), wrap64 (x8_1 + 1)))) else (some (0, (-1))))))) else (none)) else (none)) = some (r1, r2) := by rw [if_pos rfl] at H; exact H
       clear H
       have H := H1
       clear H1
       by_cases c7 : 0 ≤ x8_1
       ·rw [if_pos c7] at H
        have c7b0 : decide (0 ≤ x8_1) = true := decide_eq_true c7
        clear c7
        by_cases c8 : x8_1 < (l0.length : Int)
        ·rw [if_pos c8] at H
         have c8b0 : decide (x8_1 < (l0.length : Int)) = true := decide_eq_true c8
         clear c8
         by_cases c9 : (rd l0 x8_1) ≥ 128
         ·rw [if_pos c9] at H
          have c9b0 : decide (128 ≤ (rd l0 x8_1)) = true := decide_eq_true c9
          clear c9
          have H' := Aside0.mk H
          clear H
          have p261 : 0 ≤ (x8_1 : Int) := of_decide_eq_true (by assumption)
          have q261 : x8_1 < (l0.length : Int) := of_decide_eq_true (by assumption)
          obtain ⟨ad261, e261, hx261_0⟩ := Kd.at_int HR0.out x8_1 p261 q261
          cases e261
          replace p261 := eq_true p261
          replace q261 := eq_true q261
          have p262 : 0 ≤ (x8_1 : Int) := of_decide_eq_true (by assumption)
          have q262 : x8_1 < (l0.length : Int) := of_decide_eq_true (by assumption)
          obtain ⟨ad262, e262, hx262_0⟩ := Kd.at_int HR0.out x8_1 p262 q262
          obtain rfl : ad261 = ad262 := (by injection e262)
          replace p262 := eq_true p262
          replace q262 := eq_true q262
          go_wp2
          go_roundg kj3
          case measure => have := HK1.out; have := HJ3.out; omega
          case rel => exact ⟨(wrap64 (x6_1 + (wrap64 ((wrap64 (Int.tmod (rd l0 x8_1) 128)) * x7_1)))), (wrap64 (x7_1 * 128)), (wrap64 (x8_1 + 1)), rF, rF, rF, H', ⟨by have := HK1.out; have := HJ3.out; omega⟩, by repeat (first | exact Drawn0.refl _ | apply Drawn0.step)⟩
         ·rw [if_neg c9] at H
          have c9b0 : decide (128 ≤ (rd l0 x8_1)) = false := decide_eq_false c9
          clear c9
          by_cases c10 : (Int.tmod (wrap64 (x6_1 + (wrap64 ((wrap64 (Int.tmod (rd l0 x8_1) 128)) * x7_1)))) 2) = 1
          ·rw [if_pos c10] at H
           have c10b0 : ((Int.tmod (wrap64 (x6_1 + (wrap64 ((wrap64 (Int.tmod (rd l0 x8_1) 128)) * x7_1)))) 2) == 1) = true := beq_iff_eq.mpr c10
           have c10b1 : ((Int.tmod (wrap64 (x6_1 + (wrap64 ((wrap64 (Int.tmod (rd l0 x8_1) 128)) * x7_1)))) 2) != 1) = false := bne_eq_false_iff_eq.mpr c10
           clear c10
           replace H := Option.bind_eq_some_iff.mp H
           obtain ⟨t263, A110, H⟩ := H
           replace H : (if t263 = true then (if (rd l0 x8_1) = 0 then (if x8_1 > a1 then (some (0, (-1))) else (some (wrap64 (Int.tdiv (wrap64 (-(wrap64 ((wrap64 (x6_1 + (wrap64 ((wrap64 (Int.tmod (rd l0 x8_1) 128)) * x7_1)))) + 1)))) 2), wrap64 (x8_1 + 1)))) else (some (wrap64 (Int.tdiv (wrap64 (-(wrap64 ((wrap64 (x6_1 + (wrap64 ((wrap64 (Int.tmod (rd l0 x8_1) 128)) * x7_1)))) + 1)))) 2), wrap64 (x8_1 + 1)))) else (some (0, (-1)))) = some (r1, r2) := H
           have A11 := Aside0.mk A110
           clear A110
           by_cases c12 : t263 = true
           ·subst c12
            have H1 : (if (rd l0 x8_1) = 0 then (if x8_1 > a1 then (some (0, (-1))) else (some (wrap64 (Int.tdiv (wrap64 (-(wrap64 ((wrap64 (x6_1 + (wrap64 ((wrap64 (Int.tmod (rd l0 x8_1) 128)) * x7_1)))) + 1)))) 2), wrap64 (x8_1 + 1)))) else (some (wrap64 (Int.tdiv (wrap64 (-(wrap64 ((wrap64 (x6_1 + (wrap64 ((wrap64 (Int.tmod (rd l0 x8_1) 128)) * x7_1)))) + 1)))) 2), wrap64 (x8_1 + 1)))) = some (r1, r2) := by rw [if_pos rfl] at H; exact H
            clear H
            have H := H1
            clear H1
            by_cases c13 : (rd l0 x8_1) = 0
            ·rw [if_pos c13] at H
             have c13b0 : ((rd l0 x8_1) == 0) = true := beq_iff_eq.mpr c13
             have c13b1 : ((rd l0 x8_1) != 0) = false := bne_eq_false_iff_eq.mpr c13
             clear c13
             by_cases c14 : x8_1 > a1
             ·rw [if_pos c14] at H
              have c14b0 : decide (a1 < x8_1) = true := decide_eq_true c14
              clear c14
              simp only [Option.some.injEq, Prod.mk.injEq] at H
              obtain ⟨rfl, rfl⟩ := H
              have p261 : 0 ≤ (x8_1 : Int) := of_decide_eq_true (by assumption)
              have q261 : x8_1 < (l0.length : Int) := of_decide_eq_true (by assumption)
              obtain ⟨ad261, e261, hx261_0⟩ := Kd.at_int HR0.out x8_1 p261 q261
              cases e261
              replace p261 := eq_true p261
              replace q261 := eq_true q261
              have p262 : 0 ≤ (x8_1 : Int) := of_decide_eq_true (by assumption)
              have q262 : x8_1 < (l0.length : Int) := of_decide_eq_true (by assumption)
              obtain ⟨ad262, e262, hx262_0⟩ := Kd.at_int HR0.out x8_1 p262 q262
              obtain rfl : ad261 = ad262 := (by injection e262)
              replace p262 := eq_true p262
              replace q262 := eq_true q262
              go_wp2_with (first | ((with_reducible refine gate_callee (f := 101) rfl ?_); refine goesL_ (some 52) rfl rfl Try.func101 (by kernel_rfl) rfl #[.int .i64 (wrap64 (Int.tdiv (wrap64 (-(wrap64 ((wrap64 (x6_1 + (wrap64 ((wrap64 (Int.tmod (rd l0 x8_1) 128)) * x7_1)))) + 1)))) 2))] rfl aL ?_; (with_reducible refine (impl_isNum.calls (wrap64 (Int.tdiv (wrap64 (-(wrap64 ((wrap64 (x6_1 + (wrap64 ((wrap64 (Int.tmod (rd l0 x8_1) 128)) * x7_1)))) + 1)))) 2)) true _ A11.out).mono ?_); rintro e w' ⟨rfl, ⟨nd, rfl⟩⟩; refine ⟨_, rfl, ?_⟩; have p264 : 0 ≤ (x8_1 : Int) := of_decide_eq_true (by assumption); have q264 : x8_1 < (l0.length : Int) := of_decide_eq_true (by assumption); obtain ⟨ad264, e264, hx264_0⟩ := Kd.at_int HR0.out x8_1 p264 q264; obtain rfl : ad261 = ad264 := (by injection e264); replace p264 := eq_true p264; replace q264 := eq_true q264))
              go_ret2
              exact ⟨rF, by repeat (first | exact Drawn0.refl _ | apply Drawn0.step)⟩
             ·rw [if_neg c14] at H
              have c14b0 : decide (a1 < x8_1) = false := decide_eq_false c14
              clear c14
              simp only [Option.some.injEq, Prod.mk.injEq] at H
              obtain ⟨rfl, rfl⟩ := H
              have p261 : 0 ≤ (x8_1 : Int) := of_decide_eq_true (by assumption)
              have q261 : x8_1 < (l0.length : Int) := of_decide_eq_true (by assumption)
              obtain ⟨ad261, e261, hx261_0⟩ := Kd.at_int HR0.out x8_1 p261 q261
              cases e261
              replace p261 := eq_true p261
              replace q261 := eq_true q261
              have p262 : 0 ≤ (x8_1 : Int) := of_decide_eq_true (by assumption)
              have q262 : x8_1 < (l0.length : Int) := of_decide_eq_true (by assumption)
              obtain ⟨ad262, e262, hx262_0⟩ := Kd.at_int HR0.out x8_1 p262 q262
              obtain rfl : ad261 = ad262 := (by injection e262)
              replace p262 := eq_true p262
              replace q262 := eq_true q262
              go_wp2_with (first | ((with_reducible refine gate_callee (f := 101) rfl ?_); refine goesL_ (some 52) rfl rfl Try.func101 (by kernel_rfl) rfl #[.int .i64 (wrap64 (Int.tdiv (wrap64 (-(wrap64 ((wrap64 (x6_1 + (wrap64 ((wrap64 (Int.tmod (rd l0 x8_1) 128)) * x7_1)))) + 1)))) 2))] rfl aL ?_; (with_reducible refine (impl_isNum.calls (wrap64 (Int.tdiv (wrap64 (-(wrap64 ((wrap64 (x6_1 + (wrap64 ((wrap64 (Int.tmod (rd l0 x8_1) 128)) * x7_1)))) + 1)))) 2)) true _ A11.out).mono ?_); rintro e w' ⟨rfl, ⟨nd, rfl⟩⟩; refine ⟨_, rfl, ?_⟩; have p264 : 0 ≤ (x8_1 : Int) := of_decide_eq_true (by assumption); have q264 : x8_1 < (l0.length : Int) := of_decide_eq_true (by assumption); obtain ⟨ad264, e264, hx264_0⟩ := Kd.at_int HR0.out x8_1 p264 q264; obtain rfl : ad261 = ad264 := (by injection e264); replace p264 := eq_true p264; replace q264 := eq_true q264))
              go_ret2
              exact ⟨rF, by repeat (first | exact Drawn0.refl _ | apply Drawn0.step)⟩
            ·rw [if_neg c13] at H
             have c13b0 : ((rd l0 x8_1) == 0) = false := beq_eq_false_iff_ne.mpr c13
             have c13b1 : ((rd l0 x8_1) != 0) = true := bne_iff_ne.mpr c13
             simp only [Option.some.injEq, Prod.mk.injEq] at H
             obtain ⟨rfl, rfl⟩ := H
             have p261 : 0 ≤ (x8_1 : Int) := of_decide_eq_true (by assumption)
             have q261 : x8_1 < (l0.length : Int) := of_decide_eq_true (by assumption)
             obtain ⟨ad261, e261, hx261_0⟩ := Kd.at_int HR0.out x8_1 p261 q261
             cases e261
             replace p261 := eq_true p261
             replace q261 := eq_true q261
             have p262 : 0 ≤ (x8_1 : Int) := of_decide_eq_true (by assumption)
             have q262 : x8_1 < (l0.length : Int) := of_decide_eq_true (by assumption)
             obtain ⟨ad262, e262, hx262_0⟩ := Kd.at_int HR0.out x8_1 p262 q262
             obtain rfl : ad261 = ad262 := (by injection e262)
             replace p262 := eq_true p262
             replace q262 := eq_true q262
             go_wp2_with (first | ((with_reducible refine gate_callee (f := 101) rfl ?_); refine goesL_ (some 52) rfl rfl Try.func101 (by kernel_rfl) rfl #[.int .i64 (wrap64 (Int.tdiv (wrap64 (-(wrap64 ((wrap64 (x6_1 + (wrap64 ((wrap64 (Int.tmod (rd l0 x8_1) 128)) * x7_1)))) + 1)))) 2))] rfl aL ?_; (with_reducible refine (impl_isNum.calls (wrap64 (Int.tdiv (wrap64 (-(wrap64 ((wrap64 (x6_1 + (wrap64 ((wrap64 (Int.tmod (rd l0 x8_1) 128)) * x7_1)))) + 1)))) 2)) true _ A11.out).mono ?_); rintro e w' ⟨rfl, ⟨nd, rfl⟩⟩; refine ⟨_, rfl, ?_⟩; have p264 : 0 ≤ (x8_1 : Int) := of_decide_eq_true (by assumption); have q264 : x8_1 < (l0.length : Int) := of_decide_eq_true (by assumption); obtain ⟨ad264, e264, hx264_0⟩ := Kd.at_int HR0.out x8_1 p264 q264; obtain rfl : ad261 = ad264 := (by injection e264); replace p264 := eq_true p264; replace q264 := eq_true q264))
             go_ret2
             exact ⟨rF, by repeat (first | exact Drawn0.refl _ | apply Drawn0.step)⟩
           ·replace c12 := Bool.eq_false_iff.mpr c12
            subst c12
            have H1 : (some (0, (-1))) = some (r1, r2) := by rw [if_neg (show ¬ (false = true) by decide)] at H; exact H
            clear H
            have H := H1
            clear H1
            simp only [Option.some.injEq, Prod.mk.injEq] at H
            obtain ⟨rfl, rfl⟩ := H
            have p261 : 0 ≤ (x8_1 : Int) := of_decide_eq_true (by assumption)
            have q261 : x8_1 < (l0.length : Int) := of_decide_eq_true (by assumption)
            obtain ⟨ad261, e261, hx261_0⟩ := Kd.at_int HR0.out x8_1 p261 q261
            cases e261
            replace p261 := eq_true p261
            replace q261 := eq_true q261
            have p262 : 0 ≤ (x8_1 : Int) := of_decide_eq_true (by assumption)
            have q262 : x8_1 < (l0.length : Int) := of_decide_eq_true (by assumption)
            obtain ⟨ad262, e262, hx262_0⟩ := Kd.at_int HR0.out x8_1 p262 q262
            obtain rfl : ad261 = ad262 := (by injection e262)
            replace p262 := eq_true p262
            replace q262 := eq_true q262
            go_wp2_with (first | ((with_reducible refine gate_callee (f := 101) rfl ?_); refine goesL_ (some 52) rfl rfl Try.func101 (by kernel_rfl) rfl #[.int .i64 (wrap64 (Int.tdiv (wrap64 (-(wrap64 ((wrap64 (x6_1 + (wrap64 ((wrap64 (Int.tmod (rd l0 x8_1) 128)) * x7_1)))) + 1)))) 2))] rfl aL ?_; (with_reducible refine (impl_isNum.calls (wrap64 (Int.tdiv (wrap64 (-(wrap64 ((wrap64 (x6_1 + (wrap64 ((wrap64 (Int.tmod (rd l0 x8_1) 128)) * x7_1)))) + 1)))) 2)) false _ A11.out).mono ?_); rintro e w' ⟨rfl, ⟨nd, rfl⟩⟩; refine ⟨_, rfl, ?_⟩))
            go_ret2
            exact ⟨rF, by repeat (first | exact Drawn0.refl _ | apply Drawn0.step)⟩
          ·rw [if_neg c10] at H
           have c10b0 : ((Int.tmod (wrap64 (x6_1 + (wrap64 ((wrap64 (Int.tmod (rd l0 x8_1) 128)) * x7_1)))) 2) == 1) = false := beq_eq_false_iff_ne.mpr c10
           have c10b1 : ((Int.tmod (wrap64 (x6_1 + (wrap64 ((wrap64 (Int.tmod (rd l0 x8_1) 128)) * x7_1)))) 2) != 1) = true := bne_iff_ne.mpr c10
           replace H := Option.bind_eq_some_iff.mp H
           obtain ⟨t265, A150, H⟩ := H
           replace H : (if t265 = true then (if (rd l0 x8_1) = 0 then (if x8_1 > a1 then (some (0, (-1))) else (some (wrap64 (Int.tdiv (wrap64 (x6_1 + (wrap64 ((wrap64 (Int.tmod (rd l0 x8_1) 128)) * x7_1)))) 2), wrap64 (x8_1 + 1)))) else (some (wrap64 (Int.tdiv (wrap64 (x6_1 + (wrap64 ((wrap64 (Int.tmod (rd l0 x8_1) 128)) * x7_1)))) 2), wrap64 (x8_1 + 1)))) else (some (0, (-1)))) = some (r1, r2) := H
           have A15 := Aside0.mk A150
           clear A150
           by_cases c16 : t265 = true
           ·subst c16
            have H1 : (if (rd l0 x8_1) = 0 then (if x8_1 > a1 then (some (0, (-1))) else (some (wrap64 (Int.tdiv (wrap64 (x6_1 + (wrap64 ((wrap64 (Int.tmod (rd l0 x8_1) 128)) * x7_1)))) 2), wrap64 (x8_1 + 1)))) else (some (wrap64 (Int.tdiv (wrap64 (x6_1 + (wrap64 ((wrap64 (Int.tmod (rd l0 x8_1) 128)) * x7_1)))) 2), wrap64 (x8_1 + 1)))) = some (r1, r2) := by rw [if_pos rfl] at H; exact H
            clear H
            have H := H1
            clear H1
            by_cases c17 : (rd l0 x8_1) = 0
            ·rw [if_pos c17] at H
             have c17b0 : ((rd l0 x8_1) == 0) = true := beq_iff_eq.mpr c17
             have c17b1 : ((rd l0 x8_1) != 0) = false := bne_eq_false_iff_eq.mpr c17
             clear c17
             by_cases c18 : x8_1 > a1
             ·rw [if_pos c18] at H
              have c18b0 : decide (a1 < x8_1) = true := decide_eq_true c18
              clear c18
              simp only [Option.some.injEq, Prod.mk.injEq] at H
              obtain ⟨rfl, rfl⟩ := H
              have p261 : 0 ≤ (x8_1 : Int) := of_decide_eq_true (by assumption)
              have q261 : x8_1 < (l0.length : Int) := of_decide_eq_true (by assumption)
              obtain ⟨ad261, e261, hx261_0⟩ := Kd.at_int HR0.out x8_1 p261 q261
              cases e261
              replace p261 := eq_true p261
              replace q261 := eq_true q261
              have p262 : 0 ≤ (x8_1 : Int) := of_decide_eq_true (by assumption)
              have q262 : x8_1 < (l0.length : Int) := of_decide_eq_true (by assumption)
              obtain ⟨ad262, e262, hx262_0⟩ := Kd.at_int HR0.out x8_1 p262 q262
              obtain rfl : ad261 = ad262 := (by injection e262)
              replace p262 := eq_true p262
              replace q262 := eq_true q262
              go_wp2_with (first | ((with_reducible refine gate_callee (f := 101) rfl ?_); refine goesL_ (some 52) rfl rfl Try.func101 (by kernel_rfl) rfl #[.int .i64 (wrap64 (Int.tdiv (wrap64 (x6_1 + (wrap64 ((wrap64 (Int.tmod (rd l0 x8_1) 128)) * x7_1)))) 2))] rfl aL ?_; (with_reducible refine (impl_isNum.calls (wrap64 (Int.tdiv (wrap64 (x6_1 + (wrap64 ((wrap64 (Int.tmod (rd l0 x8_1) 128)) * x7_1)))) 2)) true _ A15.out).mono ?_); rintro e w' ⟨rfl, ⟨nd, rfl⟩⟩; refine ⟨_, rfl, ?_⟩; have p266 : 0 ≤ (x8_1 : Int) := of_decide_eq_true (by assumption); have q266 : x8_1 < (l0.length : Int) := of_decide_eq_true (by assumption); obtain ⟨ad266, e266, hx266_0⟩ := Kd.at_int HR0.out x8_1 p266 q266; obtain rfl : ad261 = ad266 := (by injection e266); replace p266 := eq_true p266; replace q266 := eq_true q266))
              go_ret2
              exact ⟨rF, by repeat (first | exact Drawn0.refl _ | apply Drawn0.step)⟩
             ·rw [if_neg c18] at H
              have c18b0 : decide (a1 < x8_1) = false := decide_eq_false c18
              clear c18
              simp only [Option.some.injEq, Prod.mk.injEq] at H
              obtain ⟨rfl, rfl⟩ := H
              have p261 : 0 ≤ (x8_1 : Int) := of_decide_eq_true (by assumption)
              have q261 : x8_1 < (l0.length : Int) := of_decide_eq_true (by assumption)
              obtain ⟨ad261, e261, hx261_0⟩ := Kd.at_int HR0.out x8_1 p261 q261
              cases e261
              replace p261 := eq_true p261
              replace q261 := eq_true q261
              have p262 : 0 ≤ (x8_1 : Int) := of_decide_eq_true (by assumption)
              have q262 : x8_1 < (l0.length : Int) := of_decide_eq_true (by assumption)
              obtain ⟨ad262, e262, hx262_0⟩ := Kd.at_int HR0.out x8_1 p262 q262
              obtain rfl : ad261 = ad262 := (by injection e262)
              replace p262 := eq_true p262
              replace q262 := eq_true q262
              go_wp2_with (first | ((with_reducible refine gate_callee (f := 101) rfl ?_); refine goesL_ (some 52) rfl rfl Try.func101 (by kernel_rfl) rfl #[.int .i64 (wrap64 (Int.tdiv (wrap64 (x6_1 + (wrap64 ((wrap64 (Int.tmod (rd l0 x8_1) 128)) * x7_1)))) 2))] rfl aL ?_; (with_reducible refine (impl_isNum.calls (wrap64 (Int.tdiv (wrap64 (x6_1 + (wrap64 ((wrap64 (Int.tmod (rd l0 x8_1) 128)) * x7_1)))) 2)) true _ A15.out).mono ?_); rintro e w' ⟨rfl, ⟨nd, rfl⟩⟩; refine ⟨_, rfl, ?_⟩; have p266 : 0 ≤ (x8_1 : Int) := of_decide_eq_true (by assumption); have q266 : x8_1 < (l0.length : Int) := of_decide_eq_true (by assumption); obtain ⟨ad266, e266, hx266_0⟩ := Kd.at_int HR0.out x8_1 p266 q266; obtain rfl : ad261 = ad266 := (by injection e266); replace p266 := eq_true p266; replace q266 := eq_true q266))
              go_ret2
              exact ⟨rF, by repeat (first | exact Drawn0.refl _ | apply Drawn0.step)⟩
            ·rw [if_neg c17] at H
             have c17b0 : ((rd l0 x8_1) == 0) = false := beq_eq_false_iff_ne.mpr c17
             have c17b1 : ((rd l0 x8_1) != 0) = true := bne_iff_ne.mpr c17
             simp only [Option.some.injEq, Prod.mk.injEq] at H
             obtain ⟨rfl, rfl⟩ := H
             have p261 : 0 ≤ (x8_1 : Int) := of_decide_eq_true (by assumption)
             have q261 : x8_1 < (l0.length : Int) := of_decide_eq_true (by assumption)
             obtain ⟨ad261, e261, hx261_0⟩ := Kd.at_int HR0.out x8_1 p261 q261
             cases e261
             replace p261 := eq_true p261
             replace q261 := eq_true q261
             have p262 : 0 ≤ (x8_1 : Int) := of_decide_eq_true (by assumption)
             have q262 : x8_1 < (l0.length : Int) := of_decide_eq_true (by assumption)
             obtain ⟨ad262, e262, hx262_0⟩ := Kd.at_int HR0.out x8_1 p262 q262
             obtain rfl : ad261 = ad262 := (by injection e262)
             replace p262 := eq_true p262
             replace q262 := eq_true q262
             go_wp2_with (first | ((with_reducible refine gate_callee (f := 101) rfl ?_); refine goesL_ (some 52) rfl rfl Try.func101 (by kernel_rfl) rfl #[.int .i64 (wrap64 (Int.tdiv (wrap64 (x6_1 + (wrap64 ((wrap64 (Int.tmod (rd l0 x8_1) 128)) * x7_1)))) 2))] rfl aL ?_; (with_reducible refine (impl_isNum.calls (wrap64 (Int.tdiv (wrap64 (x6_1 + (wrap64 ((wrap64 (Int.tmod (rd l0 x8_1) 128)) * x7_1)))) 2)) true _ A15.out).mono ?_); rintro e w' ⟨rfl, ⟨nd, rfl⟩⟩; refine ⟨_, rfl, ?_⟩; have p266 : 0 ≤ (x8_1 : Int) := of_decide_eq_true (by assumption); have q266 : x8_1 < (l0.length : Int) := of_decide_eq_true (by assumption); obtain ⟨ad266, e266, hx266_0⟩ := Kd.at_int HR0.out x8_1 p266 q266; obtain rfl : ad261 = ad266 := (by injection e266); replace p266 := eq_true p266; replace q266 := eq_true q266))
             go_ret2
             exact ⟨rF, by repeat (first | exact Drawn0.refl _ | apply Drawn0.step)⟩
           ·replace c16 := Bool.eq_false_iff.mpr c16
            subst c16
            have H1 : (some (0, (-1))) = some (r1, r2) := by rw [if_neg (show ¬ (false = true) by decide)] at H; exact H
            clear H
            have H := H1
            clear H1
            simp only [Option.some.injEq, Prod.mk.injEq] at H
            obtain ⟨rfl, rfl⟩ := H
            have p261 : 0 ≤ (x8_1 : Int) := of_decide_eq_true (by assumption)
            have q261 : x8_1 < (l0.length : Int) := of_decide_eq_true (by assumption)
            obtain ⟨ad261, e261, hx261_0⟩ := Kd.at_int HR0.out x8_1 p261 q261
            cases e261
            replace p261 := eq_true p261
            replace q261 := eq_true q261
            have p262 : 0 ≤ (x8_1 : Int) := of_decide_eq_true (by assumption)
            have q262 : x8_1 < (l0.length : Int) := of_decide_eq_true (by assumption)
            obtain ⟨ad262, e262, hx262_0⟩ := Kd.at_int HR0.out x8_1 p262 q262
            obtain rfl : ad261 = ad262 := (by injection e262)
            replace p262 := eq_true p262
            replace q262 := eq_true q262
            go_wp2_with (first | ((with_reducible refine gate_callee (f := 101) rfl ?_); refine goesL_ (some 52) rfl rfl Try.func101 (by kernel_rfl) rfl #[.int .i64 (wrap64 (Int.tdiv (wrap64 (x6_1 + (wrap64 ((wrap64 (Int.tmod (rd l0 x8_1) 128)) * x7_1)))) 2))] rfl aL ?_; (with_reducible refine (impl_isNum.calls (wrap64 (Int.tdiv (wrap64 (x6_1 + (wrap64 ((wrap64 (Int.tmod (rd l0 x8_1) 128)) * x7_1)))) 2)) false _ A15.out).mono ?_); rintro e w' ⟨rfl, ⟨nd, rfl⟩⟩; refine ⟨_, rfl, ?_⟩))
            go_ret2
            exact ⟨rF, by repeat (first | exact Drawn0.refl _ | apply Drawn0.step)⟩
        ·rw [if_neg c8] at H
         exact absurd H (by simp)
       ·rw [if_neg c7] at H
        exact absurd H (by simp)
      ·replace c6 := Bool.eq_false_iff.mpr c6
       subst c6
       have H1 : (some (0, (-1))) = some (r1, r2) := by rw [if_neg (show ¬ (false = true) by decide)] at H; exact H
       clear H
       have H := H1
       clear H1
       simp only [Option.some.injEq, Prod.mk.injEq] at H
       obtain ⟨rfl, rfl⟩ := H
       go_wp2
       go_ret2
       exact ⟨rF, by repeat (first | exact Drawn0.refl _ | apply Drawn0.step)⟩

/-! ### slices_Concat_byte_byte: function 127 -/
def slices_Concat_byte_byte.sum : List (List Int) → Nat
 | [] => 0
 | x :: xs => x.length + slices_Concat_byte_byte.sum xs
theorem slices_Concat_byte_byte.sum_flatten : ∀ l : List (List Int), l.flatten.length = slices_Concat_byte_byte.sum l
 | [] => rfl
 | x :: xs => by simp [slices_Concat_byte_byte.sum, slices_Concat_byte_byte.sum_flatten xs]
theorem slices_Concat_byte_byte.sum_app : ∀ l m : List (List Int), slices_Concat_byte_byte.sum (l ++ m) = slices_Concat_byte_byte.sum l + slices_Concat_byte_byte.sum m
 | [], m => by simp [slices_Concat_byte_byte.sum]
 | x :: xs, m => by simp [slices_Concat_byte_byte.sum, slices_Concat_byte_byte.sum_app xs m, Nat.add_assoc]
def slices_Concat_byte_byte.row (x0 : List (List Int)) (i : Nat) : List Int := x0.getD i []
theorem slices_Concat_byte_byte.take_succ (l : List (List Int)) (i : Nat) (h : i < l.length) : l.take (i + 1) = l.take i ++ [slices_Concat_byte_byte.row l i] := by
 rw [List.take_add_one]; simp [slices_Concat_byte_byte.row, h]
theorem slices_Concat_byte_byte.sum_take (l : List (List Int)) (i : Nat) : slices_Concat_byte_byte.sum (l.take i) ≤ slices_Concat_byte_byte.sum l := by
 have := slices_Concat_byte_byte.sum_app (l.take i) (l.drop i)
 rw [List.take_append_drop] at this
 omega
set_option maxHeartbeats 8000000 in
set_option maxRecDepth 100000 in
theorem slices_Concat_byte_byte.grow (n : Int) (w : World) (h0 : 0 ≤ n) (h1 : n ≤ 35184372088832) :
  Calls Try.prog 141 #[.slice none 0 0, .int .i64 n] w fun e w' => ∃ v0_ : Value, e = .returned v0_ ∧ Kd.R (Kd.int .u8) 5 w' w.heap.size (fun _ => True) v0_ ([] : List Int) ∧ Below w.heap.size w w' := by
 have HB := Aside0.mk (Below.refl w.heap.size w)
 obtain ⟨i0, hi0, _, hsz, _⟩ := info_parts info5
 have hcz : ∀ W : World, (Instr.slice 39 (.slice none 0 0) none (some (.int .i64 0)) none).run Try.prog W = .ok (.slice none 0 0) W := by
  intro W
  have h_ := cut_to (P := Try.prog) 39 5 .i64 Try.underlying39 hi0 none 0 0 0 (by omega) (by omega) (by omega) W
  simpa using h_
 have hct : ∀ (A : Option Addr) (m c : Nat), m ≤ c → ∀ W : World, (Instr.slice 39 (.slice A m c) none (some (.int .i64 0)) none).run Try.prog W = .ok (.slice A 0 c) W := by
  intro A m c hc W
  have h_ := cut_to (P := Try.prog) 39 5 .i64 Try.underlying39 hi0 A m c 0 (by omega) (by omega) hc W
  simpa using h_
 have hlt : decide (n < 0) = false := decide_eq_false (by omega)
 have hw : wrap64 (n - 0) = n := by unfold wrap64; omega
 by_cases hn : 0 < n
 ·have hgt : decide (0 < n) = true := decide_eq_true hn
  go_enter Try.func141, Try.ntmps141
  go_wp2_with (first | ((with_reducible refine gate_builtin (b := .append) (xs := #[.tmp 20, .tmp 21]) rfl ?_); at_builtin; refine Kd.R_append_zeros (Kd.int .u8) (w0 := w) w.heap.size rfl (.tmp 20) (.tmp 21) 39 3 5 (.int .u8 0) 1 rfl Try.underlying39 Try.underlying3 info5 rfl (by decide) (by omega) (.slice none 0 0) ([] : List Int) 0 (kx := .i64) n (fun _ => True) rfl rfl rfl (fun _ _ => trivial) (Kd.R_nil _ _ _ _ _) h0 HB.out (Nat.le_refl _) (by simp; omega) ?_; intro v1 w1 ho hb hg hat; obtain ⟨A1, c1, e1, hc1, _⟩ := Kd.R_reads ho; subst e1; have HO1 := Aside0.mk ho; have n0_ := Aside0.mk hb; clear HB ho hb hg hat; have HB := n0_; clear n0_; have hcut := hct A1 _ c1 hc1; clear hc1))
  go_ret
  refine ⟨_, rfl, ?_, HB.out⟩
  have h2 := Kd.R_take (m := 0) HO1.out (by omega)
  simpa using h2
 ·have hgt : decide (0 < n) = false := decide_eq_false hn
  go_enter Try.func141, Try.ntmps141
  go_wp2
  go_ret
  exact ⟨_, rfl, Kd.R_nil _ _ _ _ _, HB.out⟩
def slices_Concat_byte_byte.f (k : Nat) (l0 : List (List Int)) : Option (List Int) := if slices_Concat_byte_byte.sum l0 ≤ 35184372088832 then some l0.flatten else none
theorem slices_Concat_byte_byte.mono : ∀ a0 k, LeO (slices_Concat_byte_byte.f k a0) (slices_Concat_byte_byte.f (k + 1) a0) := fun _ _ => LeO.refl _
theorem slices_Concat_byte_byte.at_ {w : World} {A : Option Addr} {n : Nat} {xs : List (List Int)} (h : Kd.C (Kd.slice 5 (Kd.int .u8)) w A n xs) (i : Nat) (h1 : i < n) : ∃ ad A0 c0, A = some ad ∧ w.cell? (ad.add i) = some (.slice A0 (slices_Concat_byte_byte.row xs i).length c0) ∧ (slices_Concat_byte_byte.row xs i).length ≤ c0 ∧ (Kd.int .u8).C w A0 (slices_Concat_byte_byte.row xs i).length (slices_Concat_byte_byte.row xs i) := by
 obtain ⟨ad, c, e, _, hK, hc0⟩ := Kd.C_get h ([] : List Int) (i : Int) (by omega) (by omega)
 have hc : ∀ j u, c[j]? = some u → w.cell? (ad.add (i * 1 + j)) = some u := hc0
 obtain ⟨A0, c0, rfl, l0, g0⟩ := hK
 exact ⟨ad, A0, c0, e, by have hq := hc 0 _ rfl; rwa [Nat.mul_one, Nat.add_zero] at hq, l0, g0⟩
set_option maxHeartbeats 8000000 in
set_option maxRecDepth 100000 in
theorem slices_Concat_byte_byte.calls (k : Nat) (A0 : Option Addr) (c0 : Nat) (l0 : List (List Int)) (r : List Int) (w : World) (hr0 : Kd.C (Kd.slice 5 (Kd.int .u8)) w A0 l0.length l0) (hc0 : l0.length ≤ c0) (h : slices_Concat_byte_byte.f k l0 = some r) :
  Calls Try.prog 127 #[.slice A0 l0.length c0] w fun e w' => ∃ v0_ : Value, e = .returned (v0_) ∧ Kd.R (Kd.int .u8) 5 w' w.heap.size (fun _ => True) v0_ r ∧ Below w.heap.size w w' := by
 have hsum : slices_Concat_byte_byte.sum l0 ≤ 35184372088832 := by
  unfold slices_Concat_byte_byte.f at h
  by_cases hs : slices_Concat_byte_byte.sum l0 ≤ 35184372088832
  ·exact hs
  ·rw [if_neg hs] at h; cases h
 have hr : l0.flatten = r := by
  unfold slices_Concat_byte_byte.f at h
  rw [if_pos hsum] at h
  exact Option.some.inj h
 subst hr
 clear h
 have hl0 : l0.length ≤ 9223372036854775807 := hr0.2.1
 have HS := Aside0.mk hsum
 have HL := Aside0.mk hl0
 have HR0 := Aside0.mk hr0
 have HC0 := Aside0.mk hc0
 clear hr0 hc0 hsum hl0
 have HB := Aside0.mk (Below.refl w.heap.size w)
 go_enter Try.func127, Try.ntmps127
 go_wp2
 go_loopg [3, 11] l0.length (fun kq v3 v11 w' => ∃ i : Nat, v3 = .int .i64 (slices_Concat_byte_byte.sum (l0.take i) : Int) ∧ v11 = .int .i64 (i : Int) ∧ Aside0 (kq + i = l0.length) ∧ Aside0 (Below w.heap.size w w'))
 case atStart => exact ⟨0, by first | rfl | (simp [slices_Concat_byte_byte.sum]; done), by first | rfl | (simp; done), ⟨by omega⟩, ⟨bA⟩⟩
 case round =>
  obtain ⟨i, rfl, rfl, HK1, HB⟩ := hrel
  cases gk with
  | zero =>
   have hi : i = l0.length := by have := HK1.out; omega
   subst hi
   have c3 : decide ((l0.length : Int) < (l0.length : Int)) = false := decide_eq_false (by omega)
   rw [List.take_length]
   have hs0 : (slices_Concat_byte_byte.sum l0 : Int) ≤ 35184372088832 := by have := HS.out; omega
   have HS2 := Aside0.mk hs0
   clear hs0
   go_wp2_with (first | (go_at_call 141; (with_reducible refine (slices_Concat_byte_byte.grow (slices_Concat_byte_byte.sum l0 : Int) _ (by omega) HS2.out).mono ?_); rintro e w8 ⟨v6, rfl, ho, hb⟩; have n0_ := Aside0.mk (below_step bA hb); have HO6 := Aside0.mk (Kd.R_lower ho (below_size bA)); clear HB ho hb; have HB := n0_; clear n0_))
   go_loopg [6, 27] l0.length (fun kq v6 v27 w' => ∃ (i : Nat), v27 = .int .i64 (i : Int) ∧ Aside0 (kq + i = l0.length) ∧ Aside0 (Kd.R (Kd.int .u8) 5 w' w.heap.size (fun _ => True) v6 (l0.take i).flatten) ∧ Aside0 (Below w.heap.size w w'))
   case atStart => exact ⟨0, by first | rfl | (simp; done), ⟨by omega⟩, ⟨by (with_reducible repeat (first | apply Kd.R_alloc | apply Kd.R_drewN | apply Kd.R_drew)); exact HO6.out⟩, ⟨bA⟩⟩
   case round =>
    clear HO6 HB HK1
    rename_i v6q v27q
    obtain ⟨i, rfl, HK1, HO6, HB⟩ := hrel
    cases gk with
    | zero =>
     have hi : i = l0.length := by have := HK1.out; omega
     subst hi
     have c3 : decide ((l0.length : Int) < (l0.length : Int)) = false := decide_eq_false (by omega)
     rw [List.take_length] at HO6
     go_wp2
     go_ret
     exact ⟨_, rfl, by (with_reducible repeat (first | apply Kd.R_alloc | apply Kd.R_drewN | apply Kd.R_drew)); exact HO6.out, bA⟩
    | succ k1 =>
     have hi : i < l0.length := by have := HK1.out; omega
     have c3 : decide ((i : Int) < (l0.length : Int)) = true := decide_eq_true (by omega)
     obtain ⟨ad, Ai, ci, e, hx, hli, hCi⟩ := slices_Concat_byte_byte.at_ HR0.out i hi
     subst e
     replace hx := hxB HB.out hx
     have HCI := Aside0.mk (Kd.C_below hCi HB.out)
     have p5 : (0 ≤ (i : Int)) = True := eq_true (by omega)
     have q5 : ((i : Int) < (l0.length : Int)) = True := eq_true (by omega)
     have hw2 : wrap64 ((i : Int) + 1) = ((i + 1 : Nat) : Int) := by have := HL.out; unfold wrap64; omega
     have hlim : ((l0.take i).flatten.length + (slices_Concat_byte_byte.row l0 i).length) * 1 ≤ 140737488355328 := by
      have h1 := slices_Concat_byte_byte.sum_take l0 (i + 1)
      rw [slices_Concat_byte_byte.take_succ l0 i hi, slices_Concat_byte_byte.sum_app] at h1
      have h2 : slices_Concat_byte_byte.sum [slices_Concat_byte_byte.row l0 i] = (slices_Concat_byte_byte.row l0 i).length := rfl
      have h3 := HS.out
      rw [slices_Concat_byte_byte.sum_flatten]
      omega
     have LM := Aside0.mk hlim
     have NX := Aside0.mk (show (l0.take i).flatten ++ slices_Concat_byte_byte.row l0 i = (l0.take (i + 1)).flatten by rw [slices_Concat_byte_byte.take_succ l0 i hi]; simp)
     clear hlim hCi hli
     obtain ⟨A6, c6, e6⟩ := Kd.R_slice HO6.out
     subst e6
     go_wp2_with (first | ((with_reducible refine gate_builtin (b := .append) (xs := #[.tmp 31, .tmp 32]) rfl ?_); at_builtin; refine Kd.R_append_rows (Kd.int .u8) (w0 := w) w.heap.size rfl (.tmp 31) (.tmp 32) 39 5 (.int .u8 0) 1 rfl Try.underlying39 info5 rfl (by decide) (by omega) (.slice A6 (l0.take i).flatten.length c6) (l0.take i).flatten (slices_Concat_byte_byte.row l0 i) _ _ _ (fun _ => True) (fun _ => False) rfl rfl ?aO ?aR (fun _ _ h => h) (fun _ h => h.elim) (fun _ _ => trivial) ?aB ?aS LM.out ?_; (case aR => repeat (first | exact HCI.out | (with_reducible refine Kd.C_alloc ?_ _) | (with_reducible refine Kd.C_drewN ?_ _) | (with_reducible refine Kd.C_drew ?_))); (case aB => exact bA); (case aO => (with_reducible repeat (first | apply Kd.R_alloc | apply Kd.R_drewN | apply Kd.R_drew)); exact HO6.out); (case aS => exact (below_size bA)); intro v1 w15 ho hb hg hat; rw [NX.out] at ho; have n0_ := Aside0.mk ho; have n1_ := Aside0.mk hb; clear HO6 HB ho hb hg hat HCI; have HO6 := n0_; have HB := n1_; clear n0_ n1_))
     go_roundg k1
     case measure => omega
     case rel => exact ⟨i + 1, rF, ⟨by have := HK1.out; omega⟩, ⟨by (with_reducible repeat (first | apply Kd.R_alloc | apply Kd.R_drewN | apply Kd.R_drew)); exact HO6.out⟩, ⟨bA⟩⟩
  | succ k1 =>
   have hi : i < l0.length := by have := HK1.out; omega
   have c3 : decide ((i : Int) < (l0.length : Int)) = true := decide_eq_true (by omega)
   obtain ⟨ad, Ai, ci, e, hx, hli, hCi⟩ := slices_Concat_byte_byte.at_ HR0.out i hi
   subst e
   replace hx := hxB HB.out hx
   have p5 : (0 ≤ (i : Int)) = True := eq_true (by omega)
   have q5 : ((i : Int) < (l0.length : Int)) = True := eq_true (by omega)
   have hsl := slices_Concat_byte_byte.sum_take l0 (i + 1)
   have hsa : slices_Concat_byte_byte.sum (l0.take (i + 1)) = slices_Concat_byte_byte.sum (l0.take i) + (slices_Concat_byte_byte.row l0 i).length := by
    rw [slices_Concat_byte_byte.take_succ l0 i hi, slices_Concat_byte_byte.sum_app]; rfl
   have hss := HS.out
   have hw1 : wrap64 ((slices_Concat_byte_byte.sum (l0.take i) : Int) + ((slices_Concat_byte_byte.row l0 i).length : Int)) = (slices_Concat_byte_byte.sum (l0.take (i + 1)) : Int) := by unfold wrap64; omega
   have hw2 : wrap64 ((i : Int) + 1) = ((i + 1 : Nat) : Int) := by have := HL.out; unfold wrap64; omega
   have hlt : decide ((slices_Concat_byte_byte.sum (l0.take (i + 1)) : Int) < 0) = false := decide_eq_false (by omega)
   clear hsl hsa hss hCi hli
   go_wp2
   go_roundg k1
   case measure => omega
   case rel => exact ⟨i + 1, rF, rF, ⟨by have := HK1.out; omega⟩, ⟨bA⟩⟩

/-! ### impl_Frame: function 91 -/
theorem impl_Frame.lit2 {W : World} {e : TypeId} {fr : Nat × Nat} : Kd.C (Kd.int .u8) (W.alloc (.cells #[.int .u8 80, .int .u8 83] e fr)) (some ⟨W.heap.size, 0, none⟩) ([80, 83] : List Int).length ([80, 83] : List Int) := by
 refine Kd.C_of_reads (enc := Value.int .u8) (d := (0 : Int)) (h1 := fun _ => rfl) ⟨rfl, by decide, fun _ => ⟨_, rfl, fun j hj => ?_⟩⟩
 have hb : (W.alloc (.cells #[.int .u8 80, .int .u8 83] e fr)).heap[W.heap.size]? = some (.cells #[.int .u8 80, .int .u8 83] e fr) := blk_new W _
 rw [add_plain, cell_of_row _ _ _ _ _ _ hb]
 match j, hj with
 | 0, _ => rfl
 | 1, _ => rfl
def impl_Frame.f (k : Nat) (l0 : List Int) : Option (List Int × Bool) := if (l0.length : Int) > 4000 then (some (([] : List Int), false)) else ((impl_PutNum.f k (l0.length : Int)).bind fun t225 => ((impl_CheckOf.f k l0).bind fun t228 => ((impl_PutNum.f k t228).bind fun t229 => ((slices_Concat_byte_byte.f k (([(([80, 83] : List Int)), t225, l0, t229] : List (List Int)))).bind fun t235 => (some (t235, true))))))
theorem impl_Frame.row4 {W : World} {A0 A1 A2 A3 : Option Addr} {c0 c1 c2 c3 e q : Nat} {l0 l1 l2 l3 : List Int} (h0 : Kd.C (Kd.int .u8) W A0 l0.length l0) (g0 : l0.length ≤ c0) (h1 : Kd.C (Kd.int .u8) W A1 l1.length l1) (g1 : l1.length ≤ c1) (h2 : Kd.C (Kd.int .u8) W A2 l2.length l2) (g2 : l2.length ≤ c2) (h3 : Kd.C (Kd.int .u8) W A3 l3.length l3) (g3 : l3.length ≤ c3) :
  Kd.C (Kd.slice q (Kd.int .u8)) (W.alloc (.cells #[.slice A0 l0.length c0, .slice A1 l1.length c1, .slice A2 l2.length c2, .slice A3 l3.length c3] e)) (some ⟨W.heap.size, 0, none⟩) 4 [l0, l1, l2, l3] := by
 refine ⟨rfl, by decide, fun _ => ⟨_, rfl, fun j p hj => ?_⟩⟩
 have hb : (W.alloc (.cells #[.slice A0 l0.length c0, .slice A1 l1.length c1, .slice A2 l2.length c2, .slice A3 l3.length c3] e)).heap[W.heap.size]? = some (.cells #[.slice A0 l0.length c0, .slice A1 l1.length c1, .slice A2 l2.length c2, .slice A3 l3.length c3] e) := blk_new W _
 have al := fun {A : Option Addr} {n : Nat} {l : List Int} (h : Kd.C (Kd.int .u8) W A n l) => Kd.C_alloc h (.cells #[.slice A0 l0.length c0, .slice A1 l1.length c1, .slice A2 l2.length c2, .slice A3 l3.length c3] e)
 have cell : ∀ (i : Nat) (u : Value), (#[.slice A0 l0.length c0, .slice A1 l1.length c1, .slice A2 l2.length c2, .slice A3 l3.length c3] : Array Value)[i]? = some u → (W.alloc (.cells #[.slice A0 l0.length c0, .slice A1 l1.length c1, .slice A2 l2.length c2, .slice A3 l3.length c3] e)).cell? ((⟨W.heap.size, 0, none⟩ : Addr).add i) = some u := fun i u hu => by
  rw [add_plain, cell_of_row _ _ _ _ _ _ hb]; exact hu
 have one : ∀ (i : Nat) (u : Value), (#[.slice A0 l0.length c0, .slice A1 l1.length c1, .slice A2 l2.length c2, .slice A3 l3.length c3] : Array Value)[i]? = some u → ∀ q v, [u][q]? = some v → (W.alloc (.cells #[.slice A0 l0.length c0, .slice A1 l1.length c1, .slice A2 l2.length c2, .slice A3 l3.length c3] e)).cell? ((⟨W.heap.size, 0, none⟩ : Addr).add (i * 1 + q)) = some v := fun i u hu q v hv => by
  cases q with
  | zero => rw [List.getElem?_cons_zero] at hv; injection hv with hv; subst hv; rw [Nat.mul_one, Nat.add_zero]; exact cell i u hu
  | succ q => simp at hv
 match j, hj with
 | 0, hj => injection hj with hj; subst hj; exact ⟨_, rfl, ⟨A0, c0, rfl, g0, al h0⟩, one 0 _ rfl⟩
 | 1, hj => injection hj with hj; subst hj; exact ⟨_, rfl, ⟨A1, c1, rfl, g1, al h1⟩, one 1 _ rfl⟩
 | 2, hj => injection hj with hj; subst hj; exact ⟨_, rfl, ⟨A2, c2, rfl, g2, al h2⟩, one 2 _ rfl⟩
 | 3, hj => injection hj with hj; subst hj; exact ⟨_, rfl, ⟨A3, c3, rfl, g3, al h3⟩, one 3 _ rfl⟩
 | j + 4, hj => simp at hj
theorem impl_Frame.mono : ∀ a0 k, LeO (impl_Frame.f k a0) (impl_Frame.f (k + 1) a0) := by
 intro a0 k
 unfold impl_Frame.f
 repeat' first
   | (with_reducible exact impl_CheckOf.mono _ _)
   | (with_reducible exact impl_PutNum.mono _ _)
   | (with_reducible exact slices_Concat_byte_byte.mono _ _)
   | (with_reducible exact LeO.refl _)
   | (with_reducible exact LeO.none _)
   | (with_reducible refine LeO.ite ?_ ?_)
   | (with_reducible refine LeO.bind ?_ (fun _ => ?_))
set_option maxHeartbeats 8000000 in
set_option maxRecDepth 100000 in
theorem impl_Frame.calls (k : Nat) (A0 : Option Addr) (c0 : Nat) (l0 : List Int) (r1 : List Int) (r2 : Bool) (w : World) (hr0 : Kd.C (Kd.int .u8) w A0 l0.length l0) (hc0 : l0.length ≤ c0) (h : impl_Frame.f k l0 = some (r1, r2)) :
  Calls Try.prog 91 #[.slice A0 l0.length c0] w fun e w' => ∃ v0_ : Value, e = .returned (.tuple #[v0_, .bool r2]) ∧ Kd.R (Kd.int .u8) 5 w' w.heap.size (fun _ => True) v0_ r1 ∧ Below w.heap.size w w' := by
 have HR0 := Aside0.mk hr0
 have HC0 := Aside0.mk hc0
 clear hr0 hc0
 have HB := Aside0.mk (Below.refl w.heap.size w)
 have kc := fun (w : World) (C : Array Value) (n c : Nat) => Lib.run_convert_bytes_const (P := Try.prog) w 39 5 C n c Try.underlying39 Try.underlying5
 unfold impl_Frame.f at h
 by_cases c2 : (l0.length : Int) > 4000
 ·rw [if_pos c2] at h
  have c2b0 : decide (4000 < (l0.length : Int)) = true := decide_eq_true c2
  have c2b1 : decide (4000 < l0.length) = true := decide_eq_true (by omega)
  clear c2
  simp only [Option.some.injEq, Prod.mk.injEq] at h
  obtain ⟨rfl, rfl⟩ := h
  go_enter Try.func91, Try.ntmps91
  go_wp2
  go_ret2
  exact ⟨_, rfl, Kd.R_nil _ _ _ _ _, HB.out⟩
 ·rw [if_neg c2] at h
  have c2b0 : decide (4000 < (l0.length : Int)) = false := decide_eq_false c2
  have c2b1 : decide (4000 < l0.length) = false := decide_eq_false (by omega)
  clear c2
  obtain ⟨t1, f1, h⟩ := Option.bind_eq_some_iff.mp h
  have F1 := Aside0.mk f1
  clear f1
  obtain ⟨t2, f2, h⟩ := Option.bind_eq_some_iff.mp h
  have F2 := Aside0.mk f2
  clear f2
  obtain ⟨t3, f3, h⟩ := Option.bind_eq_some_iff.mp h
  have F3 := Aside0.mk f3
  clear f3
  obtain ⟨t4, f4, h⟩ := Option.bind_eq_some_iff.mp h
  have F4 := Aside0.mk f4
  clear f4
  simp only [Option.some.injEq, Prod.mk.injEq] at h
  obtain ⟨rfl, rfl⟩ := h
  have HLIT := Aside0.mk (impl_Frame.lit2 (W := w) (e := 5) (fr := (2, 3)))
  go_enter Try.func91, Try.ntmps91
  go_wp2_with (first | ((with_reducible refine gate_dst (N := 11) rfl ?_); refine goesL_ (some 11) rfl rfl Try.func89 (by kernel_rfl) rfl #[.int .i64 (l0.length : Int)] rfl aL ?_; (with_reducible refine (impl_PutNum.calls k (l0.length : Int) t1 _ F1.out).mono ?_); rintro e wn11 ⟨v1, rfl, ho1, hb⟩; refine ⟨_, rfl, ?_⟩; obtain ⟨lo1, hi1, q1, e_⟩ := LR.make ho1 bA hb; clear e_; have nl_ := Aside0.mk (Kd.C_below HLIT.out hb); have nb_ := Aside0.mk (below_step bA hb); clear HB HLIT hb; have HB := nb_; clear nb_; have HLIT := nl_; clear nl_; have HO1 := Aside0.mk q1; clear q1 ho1; obtain ⟨Ao1, co1, eo1, _⟩ := HO1.out.reads; subst eo1) | ((with_reducible refine gate_dst (N := 14) rfl ?_); refine goesL_ (some 14) rfl rfl Try.func52 (by kernel_rfl) rfl #[.slice A0 l0.length c0] rfl aL ?_; (with_reducible refine (impl_CheckOf.calls k A0 c0 l0 t2 _ (C_now HR0.out bA) HC0.out F2.out).mono ?_); rintro e wn14 ⟨rfl, hb⟩; refine ⟨_, rfl, ?_⟩; replace hb := hb.below; have n1_ := Aside0.mk (LR.below (by (with_reducible repeat (first | apply LR.alloc | apply LR.drewN)); exact HO1.out) hb); have nl_ := Aside0.mk (Kd.C_below HLIT.out hb); have nb_ := Aside0.mk (below_step bA hb); clear HB HO1 HLIT hb; have HB := nb_; clear nb_; have HO1 := n1_; clear n1_; have HLIT := nl_; clear nl_) | ((with_reducible refine gate_dst (N := 15) rfl ?_); refine goesL_ (some 15) rfl rfl Try.func89 (by kernel_rfl) rfl #[.int .i64 t2] rfl aL ?_; (with_reducible refine (impl_PutNum.calls k t2 t3 _ F3.out).mono ?_); rintro e wn15 ⟨v3, rfl, ho3, hb⟩; refine ⟨_, rfl, ?_⟩; obtain ⟨lo3, hi3, q3, e_⟩ := LR.make ho3 bA hb; clear e_; have n1_ := Aside0.mk (LR.below (by (with_reducible repeat (first | apply LR.alloc | apply LR.drewN)); exact HO1.out) hb); have nl_ := Aside0.mk (Kd.C_below HLIT.out hb); have nb_ := Aside0.mk (below_step bA hb); clear HB HO1 HLIT hb; have HB := nb_; clear nb_; have HO1 := n1_; clear n1_; have HLIT := nl_; clear nl_; have HO3 := Aside0.mk q3; clear q3 ho3; obtain ⟨Ao3, co3, eo3, _⟩ := HO3.out.reads; subst eo3) | ((with_reducible refine gate_dst (N := 17) rfl ?_); refine goesL_ (some 17) rfl rfl Try.func127 (by kernel_rfl) rfl #[.slice (some ⟨(World.heap wn15).size, 0, none⟩) 4 4] rfl aL ?_; (have hrow := impl_Frame.row4 (W := wn15) (e := 39) (q := 5) (A0 := some ⟨(World.heap w).size, 0, none⟩) (A1 := Ao1) (A2 := A0) (A3 := Ao3) (c0 := 2) (c1 := co1) (c2 := c0) (c3 := co3) (l0 := ([80, 83] : List Int)) (l1 := t1) (l2 := l0) (l3 := t3) HLIT.out (by decide) HO1.out.C HO1.out.cap (C_now HR0.out HB.out) HC0.out HO3.out.C HO3.out.cap); (have hrow2 : Kd.C (Kd.slice 5 (Kd.int .u8)) (wn15.alloc (.cells #[.slice (some ⟨(World.heap w).size, 0, none⟩) 2 2, .slice Ao1 t1.length co1, .slice A0 l0.length c0, .slice Ao3 t3.length co3] 39)) (some ⟨(World.heap wn15).size, 0, none⟩) ([([80, 83] : List Int), t1, l0, t3] : List (List Int)).length [([80, 83] : List Int), t1, l0, t3] := hrow); clear hrow; refine calls_of_args (args' := #[.slice (some ⟨(World.heap wn15).size, 0, none⟩) ([([80, 83] : List Int), t1, l0, t3] : List (List Int)).length 4]) rfl ?_; (with_reducible refine (slices_Concat_byte_byte.calls k (some ⟨(World.heap wn15).size, 0, none⟩) 4 [([80, 83] : List Int), t1, l0, t3] t4 _ hrow2 (by simp) F4.out).mono ?_); rintro e wn17 ⟨v4, rfl, ho4, hb⟩; refine ⟨_, rfl, ?_⟩; obtain ⟨lo4, hi4, q4, e_⟩ := LR.make ho4 bA hb; clear e_; have nb_ := Aside0.mk (below_step bA hb); clear HB HO1 HO3 HLIT hb; have HB := nb_; clear nb_; have HO4 := Aside0.mk q4; clear q4 ho4; obtain ⟨Ao4, co4, eo4, _⟩ := HO4.out.reads; subst eo4))
  go_ret2
  exact ⟨_, rF, Kd.R_mono (by (with_reducible repeat (first | apply Kd.R_alloc | apply Kd.R_drewN | apply Kd.R_drew)); exact HO4.out.row) (fun _ _ => trivial), bA⟩

/-! ### impl_Unframe: function 57 -/
theorem impl_Unframe.lit2 {W : World} {e : TypeId} {fr : Nat × Nat} : Kd.C (Kd.int .u8) (W.alloc (.cells #[.int .u8 80, .int .u8 83] e fr)) (some ⟨W.heap.size, 0, none⟩) ([80, 83] : List Int).length ([80, 83] : List Int) := by
 refine Kd.C_of_reads (enc := Value.int .u8) (d := (0 : Int)) (h1 := fun _ => rfl) ⟨rfl, by decide, fun _ => ⟨_, rfl, fun j hj => ?_⟩⟩
 have hb : (W.alloc (.cells #[.int .u8 80, .int .u8 83] e fr)).heap[W.heap.size]? = some (.cells #[.int .u8 80, .int .u8 83] e fr) := blk_new W _
 rw [add_plain, cell_of_row _ _ _ _ _ _ hb]
 match j, hj with
 | 0, _ => rfl
 | 1, _ => rfl
def impl_Unframe.f (k : Nat) (l0 : List Int) : Option (List Int × Bool) := (bytes_HasPrefix.f l0 (([80, 83] : List Int))).bind fun t1 => (if t1 = true then ((impl_TakeNum.f k l0 2).bind fun b2 => (if b2.2 < 0 then (some (([] : List Int), false)) else ((impl_in.f b2.1 0 (wrap64 ((l0.length : Int) - b2.2))).bind fun t4 => (if t4 = true then (if 0 ≤ b2.2 then (if b2.2 ≤ (wrap64 (b2.2 + b2.1)) then (if (wrap64 (b2.2 + b2.1)) ≤ (l0.length : Int) then ((slices_Clone_byte_byte.f ((l0.take (wrap64 (b2.2 + b2.1) : Int).toNat).drop (b2.2 : Int).toNat)).bind fun t5 => ((impl_Frame.f k t5).bind fun b6 => (if b6.2 = true then ((bytes_Equal.f b6.1 l0).bind fun t8 => (if t8 = true then (some (t5, true)) else (some (([] : List Int), false)))) else (some (([] : List Int), false))))) else none) else none) else none) else (some (([] : List Int), false)))))) else (some (([] : List Int), false)))
theorem impl_Unframe.mono : ∀ a0 k, LeO (impl_Unframe.f k a0) (impl_Unframe.f (k + 1) a0) := by
 intro a0 k
 unfold impl_Unframe.f
 repeat' first
   | (with_reducible exact impl_TakeNum.mono _ _ _)
   | (with_reducible exact impl_Frame.mono _ _)
   | (with_reducible exact LeO.refl _)
   | (with_reducible exact LeO.none _)
   | (with_reducible refine LeO.ite ?_ ?_)
   | (with_reducible refine LeO.bind ?_ (fun _ => ?_))
set_option maxHeartbeats 8000000 in
set_option maxRecDepth 100000 in
theorem impl_Unframe.calls (k : Nat) (A0 : Option Addr) (c0 : Nat) (l0 : List Int) (r1 : List Int) (r2 : Bool) (w : World) (hr0 : Kd.C (Kd.int .u8) w A0 l0.length l0) (hc0 : l0.length ≤ c0) (h : impl_Unframe.f k l0 = some (r1, r2)) :
  Calls Try.prog 57 #[.slice A0 l0.length c0] w fun e w' => ∃ v0_ : Value, e = .returned (.tuple #[v0_, .bool r2]) ∧ Kd.R (Kd.int .u8) 5 w' w.heap.size (fun _ => True) v0_ r1 ∧ Below w.heap.size w w' := by
 have HR0 := Aside0.mk hr0
 have HC0 := Aside0.mk hc0
 clear hr0 hc0
 have HB := Aside0.mk (Below.refl w.heap.size w)
 have kc := fun (w : World) (C : Array Value) (n c : Nat) => Lib.run_convert_bytes_const (P := Try.prog) w 39 5 C n c Try.underlying39 Try.underlying5
 have HLIT := Aside0.mk (impl_Unframe.lit2 (W := w) (e := 5) (fr := (2, 3)))
 unfold impl_Unframe.f at h
 obtain ⟨t1, f1, h⟩ := Option.bind_eq_some_iff.mp h
 have F1 := Aside0.mk f1
 clear f1
 by_cases c1 : t1 = true
 ·rw [if_pos c1] at h
  subst c1
  obtain ⟨⟨t2, t3⟩, f2, h⟩ := Option.bind_eq_some_iff.mp h
  have F2 := Aside0.mk f2
  clear f2
  replace h : (if t3 < 0 then (some (([] : List Int), false)) else ((impl_in.f t2 0 (wrap64 ((l0.length : Int) - t3))).bind fun t4 => (if t4 = true then (if 0 ≤ t3 then (if t3 ≤ (wrap64 (t3 + t2)) then (if (wrap64 (t3 + t2)) ≤ (l0.length : Int) then ((slices_Clone_byte_byte.f ((l0.take (wrap64 (t3 + t2) : Int).toNat).drop (t3 : Int).toNat)).bind fun t5 => ((impl_Frame.f k t5).bind fun b6 => (if b6.2 = true then ((bytes_Equal.f b6.1 l0).bind fun t8 => (if t8 = true then (some (t5, true)) else (some (([] : List Int), false)))) else (some (([] : List Int), false))))) else none) else none) else none) else (some (([] : List Int), false))))) = some (r1, r2) := h
  by_cases c2 : t3 < 0
  ·rw [if_pos c2] at h
   have c2b : decide (t3 < 0) = true := decide_eq_true c2
   clear c2
   simp only [Option.some.injEq, Prod.mk.injEq] at h
   obtain ⟨rfl, rfl⟩ := h
   go_enter Try.func57, Try.ntmps57
   go_wp2_with (first | ((with_reducible refine gate_dst (N := 12) rfl ?_); refine goesL_ (some 12) rfl rfl Try.func98 (by kernel_rfl) rfl #[.slice A0 l0.length c0, .slice (some ⟨w.heap.size, 0, none⟩) 2 2] rfl aL ?_; refine calls_of_args (args' := #[.slice A0 l0.length c0, .slice (some ⟨w.heap.size, 0, none⟩) ([80, 83] : List Int).length 2]) rfl ?_; (with_reducible refine (bytes_HasPrefix.calls A0 c0 l0 (some ⟨w.heap.size, 0, none⟩) 2 ([80, 83] : List Int) true _ (C_now HR0.out bA) HC0.out (by first | exact HLIT.out | (with_reducible exact Kd.C_drewN HLIT.out _) | ((with_reducible repeat (first | apply Kd.C_alloc | apply Kd.C_drewN | apply Kd.C_drew)); exact HLIT.out)) (by decide) F1.out).mono ?_); rintro e wn12 ⟨rfl, hb⟩; refine ⟨_, rfl, ?_⟩; replace hb := hb.below; have nb_ := Aside0.mk (below_step bA hb); clear HB HLIT hb; have HB := nb_; clear nb_) | ((with_reducible refine gate_dst (N := 16) rfl ?_); refine goesL_ (some 16) rfl rfl Try.func58 (by kernel_rfl) rfl #[.slice A0 l0.length c0, .int .i64 2] rfl aL ?_; (with_reducible refine (impl_TakeNum.calls k A0 c0 l0 2 t2 t3 _ (C_now HR0.out bA) HC0.out F2.out).mono ?_); rintro e wn16 ⟨rfl, hb⟩; refine ⟨_, rfl, ?_⟩; replace hb := hb.below; have nb_ := Aside0.mk (below_step bA hb); clear HB hb; have HB := nb_; clear nb_))
   go_ret2
   exact ⟨_, rF, Kd.R_nil _ _ _ _ _, bA⟩
  ·rw [if_neg c2] at h
   have c2b : decide (t3 < 0) = false := decide_eq_false c2
   clear c2
   obtain ⟨t4, f4, h⟩ := Option.bind_eq_some_iff.mp h
   have F4 := Aside0.mk f4
   clear f4
   by_cases c4 : t4 = true
   ·rw [if_pos c4] at h
    subst c4
    by_cases c5 : 0 ≤ t3
    ·rw [if_pos c5] at h
     by_cases c6 : t3 ≤ (wrap64 (t3 + t2))
     ·rw [if_pos c6] at h
      by_cases c7 : (wrap64 (t3 + t2)) ≤ (l0.length : Int)
      ·rw [if_pos c7] at h
       obtain ⟨t5, f5, h⟩ := Option.bind_eq_some_iff.mp h
       have F5 := Aside0.mk f5
       clear f5
       obtain ⟨⟨t6, t7⟩, f6, h⟩ := Option.bind_eq_some_iff.mp h
       have F6 := Aside0.mk f6
       clear f6
       obtain ⟨i022, hi022, _, hsz22, _⟩ := info_parts info5
       obtain ⟨A22, hcut22, hA22, hC22⟩ := print_mid_of (P := Try.prog) (Value.int .u8) 0 39 5 .i64 .i64 Try.underlying39 hi022 hsz22 A0 c0 l0 t3 (wrap64 (t3 + t2)) c5 c6 c7 HC0.out
       have hr22_ : Kd.C (Kd.int .u8) w A22 ((l0.take (wrap64 (t3 + t2) : Int).toNat).drop (t3 : Int).toNat).length ((l0.take (wrap64 (t3 + t2) : Int).toNat).drop (t3 : Int).toNat) := Kd.C_of_reads (h1 := fun _ => rfl) (hA22 _ (Kd.reads_of_C HR0.out))
       have HR22 := Aside0.mk hr22_
       clear hr22_
       have HC22 := Aside0.mk hC22
       have hcl_ : (min (wrap64 (t3 + t2) : Int).toNat l0.length - (t3 : Int).toNat) = ((l0.take (wrap64 (t3 + t2) : Int).toNat).drop (t3 : Int).toNat).length := by rw [List.length_drop, List.length_take]
       have HCL := Aside0.mk hcl_
       clear hcl_ hA22 hC22 hi022 hsz22
       have c5b : decide (0 ≤ t3) = true := decide_eq_true c5
       have c6b : decide (t3 ≤ (wrap64 (t3 + t2))) = true := decide_eq_true c6
       have c7b : decide ((wrap64 (t3 + t2)) ≤ (l0.length : Int)) = true := decide_eq_true c7
       clear c5 c6 c7
       replace h : (if t7 = true then ((bytes_Equal.f t6 l0).bind fun t8 => (if t8 = true then (some (t5, true)) else (some (([] : List Int), false)))) else (some (([] : List Int), false))) = some (r1, r2) := h
       by_cases c8 : t7 = true
       ·rw [if_pos c8] at h
        subst c8
        obtain ⟨t8, f8, h⟩ := Option.bind_eq_some_iff.mp h
        have F8 := Aside0.mk f8
        clear f8
        by_cases c9 : t8 = true
        ·rw [if_pos c9] at h
         subst c9
         simp only [Option.some.injEq, Prod.mk.injEq] at h
         obtain ⟨rfl, rfl⟩ := h
         go_enter Try.func57, Try.ntmps57
         go_wp2_with (first | ((with_reducible refine gate_dst (N := 12) rfl ?_); refine goesL_ (some 12) rfl rfl Try.func98 (by kernel_rfl) rfl #[.slice A0 l0.length c0, .slice (some ⟨w.heap.size, 0, none⟩) 2 2] rfl aL ?_; refine calls_of_args (args' := #[.slice A0 l0.length c0, .slice (some ⟨w.heap.size, 0, none⟩) ([80, 83] : List Int).length 2]) rfl ?_; (with_reducible refine (bytes_HasPrefix.calls A0 c0 l0 (some ⟨w.heap.size, 0, none⟩) 2 ([80, 83] : List Int) true _ (C_now HR0.out bA) HC0.out (by first | exact HLIT.out | (with_reducible exact Kd.C_drewN HLIT.out _) | ((with_reducible repeat (first | apply Kd.C_alloc | apply Kd.C_drewN | apply Kd.C_drew)); exact HLIT.out)) (by decide) F1.out).mono ?_); rintro e wn12 ⟨rfl, hb⟩; refine ⟨_, rfl, ?_⟩; replace hb := hb.below; have nb_ := Aside0.mk (below_step bA hb); clear HB HLIT hb; have HB := nb_; clear nb_) | ((with_reducible refine gate_dst (N := 16) rfl ?_); refine goesL_ (some 16) rfl rfl Try.func58 (by kernel_rfl) rfl #[.slice A0 l0.length c0, .int .i64 2] rfl aL ?_; (with_reducible refine (impl_TakeNum.calls k A0 c0 l0 2 t2 t3 _ (C_now HR0.out bA) HC0.out F2.out).mono ?_); rintro e wn16 ⟨rfl, hb⟩; refine ⟨_, rfl, ?_⟩; replace hb := hb.below; have nb_ := Aside0.mk (below_step bA hb); clear HB hb; have HB := nb_; clear nb_) | ((with_reducible refine gate_dst (N := 36) rfl ?_); refine goesL_ (some 36) rfl rfl Try.func99 (by kernel_rfl) rfl #[.slice A22 ((l0.take (wrap64 (t3 + t2) : Int).toNat).drop (t3 : Int).toNat).length (c0 - (t3 : Int).toNat)] rfl (by (try simp only [List.map_toArray, List.map_cons, List.map_nil]); first | done | rfl | (rw [← HCL.out]; rfl) | (simp only [HCL.out]; rfl)) ?_; (with_reducible refine (slices_Clone_byte_byte.calls A22 _ ((l0.take (wrap64 (t3 + t2) : Int).toNat).drop (t3 : Int).toNat) t5 _ (Kd.C_below HR22.out bA) HC22.out F5.out).mono ?_); rintro e wn36 ⟨v5, rfl, ho5, hb⟩; refine ⟨_, rfl, ?_⟩; obtain ⟨lo5, hi5, q5, e_⟩ := LR.make ho5 bA hb; clear e_; have nb_ := Aside0.mk (below_step bA hb); clear HB hb; have HB := nb_; clear nb_; have HO5 := Aside0.mk q5; clear q5 ho5; obtain ⟨Ao5, co5, eo5, _⟩ := HO5.out.reads; subst eo5) | ((with_reducible refine gate_dst (N := 39) rfl ?_); refine goesL_ (some 39) rfl rfl Try.func91 (by kernel_rfl) rfl #[.slice Ao5 t5.length co5] rfl aL ?_; (with_reducible refine (impl_Frame.calls k Ao5 co5 t5 t6 true _ (by (with_reducible repeat (first | apply Kd.C_alloc | apply Kd.C_drewN | apply Kd.C_drew)); exact HO5.out.C) HO5.out.cap F6.out).mono ?_); rintro e wn39 ⟨v6, rfl, ho6, hb⟩; refine ⟨_, rfl, ?_⟩; obtain ⟨lo6, hi6, q6, e_⟩ := LR.make ho6 bA hb; clear e_; have n5_ := Aside0.mk (LR.below (by (with_reducible repeat (first | apply LR.alloc | apply LR.drewN)); exact HO5.out) hb); have nb_ := Aside0.mk (below_step bA hb); clear HB HO5 hb; have HB := nb_; clear nb_; have HO5 := n5_; clear n5_; have HO6 := Aside0.mk q6; clear q6 ho6; obtain ⟨Ao6, co6, eo6, _⟩ := HO6.out.reads; subst eo6) | (go_at_call 59; (with_reducible refine (impl_in.calls t2 0 (wrap64 ((l0.length : Int) - t3)) true _ F4.out).mono ?_); rintro e wn27 ⟨rfl, hb⟩; replace hb := hb.below; have nb_ := Aside0.mk (below_step bA hb); clear HB hb; have HB := nb_; clear nb_) | (go_at_call 100; (with_reducible refine (bytes_Equal.calls Ao6 co6 t6 A0 c0 l0 true _ (by (with_reducible repeat (first | apply Kd.C_alloc | apply Kd.C_drewN | apply Kd.C_drew)); exact HO6.out.C) HO6.out.cap (C_now HR0.out bA) HC0.out F8.out).mono ?_); rintro e wn47 ⟨rfl, hb⟩; replace hb := hb.below; have n5_ := Aside0.mk (LR.below (by (with_reducible repeat (first | apply LR.alloc | apply LR.drewN)); exact HO5.out) hb); have n6_ := Aside0.mk (LR.below (by (with_reducible repeat (first | apply LR.alloc | apply LR.drewN)); exact HO6.out) hb); have nb_ := Aside0.mk (below_step bA hb); clear HB HO5 HO6 hb; have HB := nb_; clear nb_; have HO5 := n5_; clear n5_; have HO6 := n6_; clear n6_))
         go_ret2
         exact ⟨_, rF, Kd.R_mono (by (with_reducible repeat (first | apply Kd.R_alloc | apply Kd.R_drewN | apply Kd.R_drew)); exact HO5.out.row) (fun _ _ => trivial), bA⟩
        ·rw [if_neg c9] at h
         obtain rfl : t8 = false := Bool.eq_false_iff.mpr c9
         simp only [Option.some.injEq, Prod.mk.injEq] at h
         obtain ⟨rfl, rfl⟩ := h
         go_enter Try.func57, Try.ntmps57
         go_wp2_with (first | ((with_reducible refine gate_dst (N := 12) rfl ?_); refine goesL_ (some 12) rfl rfl Try.func98 (by kernel_rfl) rfl #[.slice A0 l0.length c0, .slice (some ⟨w.heap.size, 0, none⟩) 2 2] rfl aL ?_; refine calls_of_args (args' := #[.slice A0 l0.length c0, .slice (some ⟨w.heap.size, 0, none⟩) ([80, 83] : List Int).length 2]) rfl ?_; (with_reducible refine (bytes_HasPrefix.calls A0 c0 l0 (some ⟨w.heap.size, 0, none⟩) 2 ([80, 83] : List Int) true _ (C_now HR0.out bA) HC0.out (by first | exact HLIT.out | (with_reducible exact Kd.C_drewN HLIT.out _) | ((with_reducible repeat (first | apply Kd.C_alloc | apply Kd.C_drewN | apply Kd.C_drew)); exact HLIT.out)) (by decide) F1.out).mono ?_); rintro e wn12 ⟨rfl, hb⟩; refine ⟨_, rfl, ?_⟩; replace hb := hb.below; have nb_ := Aside0.mk (below_step bA hb); clear HB HLIT hb; have HB := nb_; clear nb_) | ((with_reducible refine gate_dst (N := 16) rfl ?_); refine goesL_ (some 16) rfl rfl Try.func58 (by kernel_rfl) rfl #[.slice A0 l0.length c0, .int .i64 2] rfl aL ?_; (with_reducible refine (impl_TakeNum.calls k A0 c0 l0 2 t2 t3 _ (C_now HR0.out bA) HC0.out F2.out).mono ?_); rintro e wn16 ⟨rfl, hb⟩; refine ⟨_, rfl, ?_⟩; replace hb := hb.below; have nb_ := Aside0.mk (below_step bA hb); clear HB hb; have HB := nb_; clear nb_) | ((with_reducible refine gate_dst (N := 36) rfl ?_); refine goesL_ (some 36) rfl rfl Try.func99 (by kernel_rfl) rfl #[.slice A22 ((l0.take (wrap64 (t3 + t2) : Int).toNat).drop (t3 : Int).toNat).length (c0 - (t3 : Int).toNat)] rfl (by (try simp only [List.map_toArray, List.map_cons, List.map_nil]); first | done | rfl | (rw [← HCL.out]; rfl) | (simp only [HCL.out]; rfl)) ?_; (with_reducible refine (slices_Clone_byte_byte.calls A22 _ ((l0.take (wrap64 (t3 + t2) : Int).toNat).drop (t3 : Int).toNat) t5 _ (Kd.C_below HR22.out bA) HC22.out F5.out).mono ?_); rintro e wn36 ⟨v5, rfl, ho5, hb⟩; refine ⟨_, rfl, ?_⟩; obtain ⟨lo5, hi5, q5, e_⟩ := LR.make ho5 bA hb; clear e_; have nb_ := Aside0.mk (below_step bA hb); clear HB hb; have HB := nb_; clear nb_; have HO5 := Aside0.mk q5; clear q5 ho5; obtain ⟨Ao5, co5, eo5, _⟩ := HO5.out.reads; subst eo5) | ((with_reducible refine gate_dst (N := 39) rfl ?_); refine goesL_ (some 39) rfl rfl Try.func91 (by kernel_rfl) rfl #[.slice Ao5 t5.length co5] rfl aL ?_; (with_reducible refine (impl_Frame.calls k Ao5 co5 t5 t6 true _ (by (with_reducible repeat (first | apply Kd.C_alloc | apply Kd.C_drewN | apply Kd.C_drew)); exact HO5.out.C) HO5.out.cap F6.out).mono ?_); rintro e wn39 ⟨v6, rfl, ho6, hb⟩; refine ⟨_, rfl, ?_⟩; obtain ⟨lo6, hi6, q6, e_⟩ := LR.make ho6 bA hb; clear e_; have n5_ := Aside0.mk (LR.below (by (with_reducible repeat (first | apply LR.alloc | apply LR.drewN)); exact HO5.out) hb); have nb_ := Aside0.mk (below_step bA hb); clear HB HO5 hb; have HB := nb_; clear nb_; have HO5 := n5_; clear n5_; have HO6 := Aside0.mk q6; clear q6 ho6; obtain ⟨Ao6, co6, eo6, _⟩ := HO6.out.reads; subst eo6) | (go_at_call 59; (with_reducible refine (impl_in.calls t2 0 (wrap64 ((l0.length : Int) - t3)) true _ F4.out).mono ?_); rintro e wn27 ⟨rfl, hb⟩; replace hb := hb.below; have nb_ := Aside0.mk (below_step bA hb); clear HB hb; have HB := nb_; clear nb_) | (go_at_call 100; (with_reducible refine (bytes_Equal.calls Ao6 co6 t6 A0 c0 l0 false _ (by (with_reducible repeat (first | apply Kd.C_alloc | apply Kd.C_drewN | apply Kd.C_drew)); exact HO6.out.C) HO6.out.cap (C_now HR0.out bA) HC0.out F8.out).mono ?_); rintro e wn47 ⟨rfl, hb⟩; replace hb := hb.below; have n5_ := Aside0.mk (LR.below (by (with_reducible repeat (first | apply LR.alloc | apply LR.drewN)); exact HO5.out) hb); have n6_ := Aside0.mk (LR.below (by (with_reducible repeat (first | apply LR.alloc | apply LR.drewN)); exact HO6.out) hb); have nb_ := Aside0.mk (below_step bA hb); clear HB HO5 HO6 hb; have HB := nb_; clear nb_; have HO5 := n5_; clear n5_; have HO6 := n6_; clear n6_))
         go_ret2
         exact ⟨_, rF, Kd.R_nil _ _ _ _ _, bA⟩
       ·rw [if_neg c8] at h
        obtain rfl : t7 = false := Bool.eq_false_iff.mpr c8
        simp only [Option.some.injEq, Prod.mk.injEq] at h
        obtain ⟨rfl, rfl⟩ := h
        go_enter Try.func57, Try.ntmps57
        go_wp2_with (first | ((with_reducible refine gate_dst (N := 12) rfl ?_); refine goesL_ (some 12) rfl rfl Try.func98 (by kernel_rfl) rfl #[.slice A0 l0.length c0, .slice (some ⟨w.heap.size, 0, none⟩) 2 2] rfl aL ?_; refine calls_of_args (args' := #[.slice A0 l0.length c0, .slice (some ⟨w.heap.size, 0, none⟩) ([80, 83] : List Int).length 2]) rfl ?_; (with_reducible refine (bytes_HasPrefix.calls A0 c0 l0 (some ⟨w.heap.size, 0, none⟩) 2 ([80, 83] : List Int) true _ (C_now HR0.out bA) HC0.out (by first | exact HLIT.out | (with_reducible exact Kd.C_drewN HLIT.out _) | ((with_reducible repeat (first | apply Kd.C_alloc | apply Kd.C_drewN | apply Kd.C_drew)); exact HLIT.out)) (by decide) F1.out).mono ?_); rintro e wn12 ⟨rfl, hb⟩; refine ⟨_, rfl, ?_⟩; replace hb := hb.below; have nb_ := Aside0.mk (below_step bA hb); clear HB HLIT hb; have HB := nb_; clear nb_) | ((with_reducible refine gate_dst (N := 16) rfl ?_); refine goesL_ (some 16) rfl rfl Try.func58 (by kernel_rfl) rfl #[.slice A0 l0.length c0, .int .i64 2] rfl aL ?_; (with_reducible refine (impl_TakeNum.calls k A0 c0 l0 2 t2 t3 _ (C_now HR0.out bA) HC0.out F2.out).mono ?_); rintro e wn16 ⟨rfl, hb⟩; refine ⟨_, rfl, ?_⟩; replace hb := hb.below; have nb_ := Aside0.mk (below_step bA hb); clear HB hb; have HB := nb_; clear nb_) | ((with_reducible refine gate_dst (N := 36) rfl ?_); refine goesL_ (some 36) rfl rfl Try.func99 (by kernel_rfl) rfl #[.slice A22 ((l0.take (wrap64 (t3 + t2) : Int).toNat).drop (t3 : Int).toNat).length (c0 - (t3 : Int).toNat)] rfl (by (try simp only [List.map_toArray, List.map_cons, List.map_nil]); first | done | rfl | (rw [← HCL.out]; rfl) | (simp only [HCL.out]; rfl)) ?_; (with_reducible refine (slices_Clone_byte_byte.calls A22 _ ((l0.take (wrap64 (t3 + t2) : Int).toNat).drop (t3 : Int).toNat) t5 _ (Kd.C_below HR22.out bA) HC22.out F5.out).mono ?_); rintro e wn36 ⟨v5, rfl, ho5, hb⟩; refine ⟨_, rfl, ?_⟩; obtain ⟨lo5, hi5, q5, e_⟩ := LR.make ho5 bA hb; clear e_; have nb_ := Aside0.mk (below_step bA hb); clear HB hb; have HB := nb_; clear nb_; have HO5 := Aside0.mk q5; clear q5 ho5; obtain ⟨Ao5, co5, eo5, _⟩ := HO5.out.reads; subst eo5) | ((with_reducible refine gate_dst (N := 39) rfl ?_); refine goesL_ (some 39) rfl rfl Try.func91 (by kernel_rfl) rfl #[.slice Ao5 t5.length co5] rfl aL ?_; (with_reducible refine (impl_Frame.calls k Ao5 co5 t5 t6 false _ (by (with_reducible repeat (first | apply Kd.C_alloc | apply Kd.C_drewN | apply Kd.C_drew)); exact HO5.out.C) HO5.out.cap F6.out).mono ?_); rintro e wn39 ⟨v6, rfl, ho6, hb⟩; refine ⟨_, rfl, ?_⟩; obtain ⟨lo6, hi6, q6, e_⟩ := LR.make ho6 bA hb; clear e_; have n5_ := Aside0.mk (LR.below (by (with_reducible repeat (first | apply LR.alloc | apply LR.drewN)); exact HO5.out) hb); have nb_ := Aside0.mk (below_step bA hb); clear HB HO5 hb; have HB := nb_; clear nb_; have HO5 := n5_; clear n5_; have HO6 := Aside0.mk q6; clear q6 ho6; obtain ⟨Ao6, co6, eo6, _⟩ := HO6.out.reads; subst eo6) | (go_at_call 59; (with_reducible refine (impl_in.calls t2 0 (wrap64 ((l0.length : Int) - t3)) true _ F4.out).mono ?_); rintro e wn27 ⟨rfl, hb⟩; replace hb := hb.below; have nb_ := Aside0.mk (below_step bA hb); clear HB hb; have HB := nb_; clear nb_))
        go_ret2
        exact ⟨_, rF, Kd.R_nil _ _ _ _ _, bA⟩
      ·rw [if_neg c7] at h; cases h
     ·rw [if_neg c6] at h; cases h
    ·rw [if_neg c5] at h; cases h
   ·rw [if_neg c4] at h
    obtain rfl : t4 = false := Bool.eq_false_iff.mpr c4
    simp only [Option.some.injEq, Prod.mk.injEq] at h
    obtain ⟨rfl, rfl⟩ := h
    go_enter Try.func57, Try.ntmps57
    go_wp2_with (first | ((with_reducible refine gate_dst (N := 12) rfl ?_); refine goesL_ (some 12) rfl rfl Try.func98 (by kernel_rfl) rfl #[.slice A0 l0.length c0, .slice (some ⟨w.heap.size, 0, none⟩) 2 2] rfl aL ?_; refine calls_of_args (args' := #[.slice A0 l0.length c0, .slice (some ⟨w.heap.size, 0, none⟩) ([80, 83] : List Int).length 2]) rfl ?_; (with_reducible refine (bytes_HasPrefix.calls A0 c0 l0 (some ⟨w.heap.size, 0, none⟩) 2 ([80, 83] : List Int) true _ (C_now HR0.out bA) HC0.out (by first | exact HLIT.out | (with_reducible exact Kd.C_drewN HLIT.out _) | ((with_reducible repeat (first | apply Kd.C_alloc | apply Kd.C_drewN | apply Kd.C_drew)); exact HLIT.out)) (by decide) F1.out).mono ?_); rintro e wn12 ⟨rfl, hb⟩; refine ⟨_, rfl, ?_⟩; replace hb := hb.below; have nb_ := Aside0.mk (below_step bA hb); clear HB HLIT hb; have HB := nb_; clear nb_) | ((with_reducible refine gate_dst (N := 16) rfl ?_); refine goesL_ (some 16) rfl rfl Try.func58 (by kernel_rfl) rfl #[.slice A0 l0.length c0, .int .i64 2] rfl aL ?_; (with_reducible refine (impl_TakeNum.calls k A0 c0 l0 2 t2 t3 _ (C_now HR0.out bA) HC0.out F2.out).mono ?_); rintro e wn16 ⟨rfl, hb⟩; refine ⟨_, rfl, ?_⟩; replace hb := hb.below; have nb_ := Aside0.mk (below_step bA hb); clear HB hb; have HB := nb_; clear nb_) | (go_at_call 59; (with_reducible refine (impl_in.calls t2 0 (wrap64 ((l0.length : Int) - t3)) false _ F4.out).mono ?_); rintro e wn27 ⟨rfl, hb⟩; replace hb := hb.below; have nb_ := Aside0.mk (below_step bA hb); clear HB hb; have HB := nb_; clear nb_))
    go_ret2
    exact ⟨_, rF, Kd.R_nil _ _ _ _ _, bA⟩
 ·rw [if_neg c1] at h
  obtain rfl : t1 = false := Bool.eq_false_iff.mpr c1
  simp only [Option.some.injEq, Prod.mk.injEq] at h
  obtain ⟨rfl, rfl⟩ := h
  go_enter Try.func57, Try.ntmps57
  go_wp2_with (first | ((with_reducible refine gate_dst (N := 12) rfl ?_); refine goesL_ (some 12) rfl rfl Try.func98 (by kernel_rfl) rfl #[.slice A0 l0.length c0, .slice (some ⟨w.heap.size, 0, none⟩) 2 2] rfl aL ?_; refine calls_of_args (args' := #[.slice A0 l0.length c0, .slice (some ⟨w.heap.size, 0, none⟩) ([80, 83] : List Int).length 2]) rfl ?_; (with_reducible refine (bytes_HasPrefix.calls A0 c0 l0 (some ⟨w.heap.size, 0, none⟩) 2 ([80, 83] : List Int) false _ (C_now HR0.out bA) HC0.out (by first | exact HLIT.out | (with_reducible exact Kd.C_drewN HLIT.out _) | ((with_reducible repeat (first | apply Kd.C_alloc | apply Kd.C_drewN | apply Kd.C_drew)); exact HLIT.out)) (by decide) F1.out).mono ?_); rintro e wn12 ⟨rfl, hb⟩; refine ⟨_, rfl, ?_⟩; replace hb := hb.below; have nb_ := Aside0.mk (below_step bA hb); clear HB HLIT hb; have HB := nb_; clear nb_))
  go_ret2
  exact ⟨_, rF, Kd.R_nil _ _ _ _ _, bA⟩

end Go.Proofs.Ytgmhohafoclmpaa.Q
