/- The machine side of a law, written by a program of this session over the translation: for each Go function a Lean function with the same answers, and the proof that the Go code comes to them. -/
import Derived.Test.YtgmhohafoclmpaaQx0
import Derived.Test.YtgmhohafoclmpaaQx1
import Derived.Test.YtgmhohafoclmpaaQx4
import Derived.Test.YtgmhohafoclmpaaQx6
import Derived.Test.YtgmhohafoclmpaaQx9
import Derived.Test.YtgmhohafoclmpaaQx11
namespace Go.Proofs.Ytgmhohafoclmpaa.Q
open Go.RowKit Go.Proofs.Ytgmhohafoclmpaa.Own Go.Proofs.YtgmhohafoclmpaaW.PrintWords Go.Proofs.YtgmhohafoclmpaaW.PrintLast Go.Proofs.YtgmhohafoclmpaaW.PrintMore
attribute [local go_sem] max2_int min2_int max_two min_two max_three min_three max_four min_four   -- for this text's walks alone
set_option linter.unusedVariables false
set_option linter.unusedSimpArgs false

/-! ### spec_TypedOk: function 17 -/
def spec_TypedOk.f (k : Nat) (l0 : List (S60)) (l1 : List (S62)) : Option (Bool) := (spec_WidthOf.f k l0 l1).bind fun t354 => (some (t354 != (-1)))
theorem spec_TypedOk.mono : ∀ a0 a1 k, LeO (spec_TypedOk.f k a0 a1) (spec_TypedOk.f (k + 1) a0 a1) := by
 intro a0 a1 k
 unfold spec_TypedOk.f
 repeat' first
   | (with_reducible exact spec_WidthOf.mono _ _ _)
   | (with_reducible exact LeO.refl _)
   | (with_reducible exact LeO.none _)
   | (with_reducible refine LeO.ite ?_ ?_)
   | (with_reducible refine LeO.bind ?_ (fun _ => ?_))
   | exact spec_WidthOf.mono _ _ _
   | exact LeO.none _
   | refine LeO.ite ?_ ?_
   | refine LeO.bind ?_ (fun _ => ?_)
set_option maxHeartbeats 8000000 in
set_option maxRecDepth 100000 in
theorem spec_TypedOk.calls (k : Nat) (A0 : Option Addr) (c0 : Nat) (l0 : List (S60)) (A1 : Option Addr) (c1 : Nat) (l1 : List (S62)) (r : Bool) (w : World) (hr0 : Kd.C k60 w A0 l0.length l0) (hc0 : l0.length ≤ c0) (hr1 : Kd.C k62 w A1 l1.length l1) (hc1 : l1.length ≤ c1) (h : spec_TypedOk.f k l0 l1 = some r) :
  Calls Try.prog 17 #[.slice A0 l0.length c0, .slice A1 l1.length c1] w fun e w' => e = .returned (.bool r) ∧ Below w.heap.size w w' := by
 have HR0 := Aside0.mk hr0
 have HC0 := Aside0.mk hc0
 clear hr0 hc0
 have HR1 := Aside0.mk hr1
 have HC1 := Aside0.mk hc1
 clear hr1 hc1
 have HB := Aside0.mk (Below.refl w.heap.size w)
 have H : ((spec_WidthOf.f k l0 l1).bind fun t354 => (some (t354 != (-1)))) = some r := h
 clear h
 replace H := Option.bind_eq_some_iff.mp H
 obtain ⟨t354, A30, H⟩ := H
 replace H : (some (t354 != (-1))) = some r := H
 have A3 := Aside0.mk A30
 clear A30
 obtain rfl := Option.some.inj H
 go_enter Try.func17, Try.ntmps17
 go_wp2_with (first | ((with_reducible refine gate_callee (f := 11) rfl ?_); refine goesL_ (some 7) rfl rfl Try.func11 (by kernel_rfl) rfl #[.slice A0 l0.length c0, .slice A1 l1.length c1] rfl aL ?_; (with_reducible refine (spec_WidthOf.calls k _ _ l0 _ _ l1 t354 _ ?side1 ?side2 ?side3 ?side4 A3.out).mono ?_); (case side1 => exact cA); (case side2 => exact HC0.out); (case side3 => exact cA); (case side4 => exact HC1.out); rintro e w4 ⟨rfl, hb⟩; refine ⟨_, rfl, ?_⟩; have n0_ := Aside0.mk (below_step bA hb); clear HB; have HB := n0_; clear n0_; (try clear hb); (try clear hb2); (try clear hk); (try clear hi)))
 go_ret
 exact ⟨rE, bA⟩

/-! ### impl_TypedOk: function 18 -/
def impl_TypedOk.f (k : Nat) (l0 : List (S60)) (l1 : List (S62)) : Option (Bool) := (impl_WidthOf.f k l0 l1).bind fun t355 => (some (decide (t355 ≥ 0)))
theorem impl_TypedOk.mono : ∀ a0 a1 k, LeO (impl_TypedOk.f k a0 a1) (impl_TypedOk.f (k + 1) a0 a1) := by
 intro a0 a1 k
 unfold impl_TypedOk.f
 repeat' first
   | (with_reducible exact impl_WidthOf.mono _ _ _)
   | (with_reducible exact LeO.refl _)
   | (with_reducible exact LeO.none _)
   | (with_reducible refine LeO.ite ?_ ?_)
   | (with_reducible refine LeO.bind ?_ (fun _ => ?_))
   | exact impl_WidthOf.mono _ _ _
   | exact LeO.none _
   | refine LeO.ite ?_ ?_
   | refine LeO.bind ?_ (fun _ => ?_)
set_option maxHeartbeats 8000000 in
set_option maxRecDepth 100000 in
theorem impl_TypedOk.calls (k : Nat) (A0 : Option Addr) (c0 : Nat) (l0 : List (S60)) (A1 : Option Addr) (c1 : Nat) (l1 : List (S62)) (r : Bool) (w : World) (hr0 : Kd.C k60 w A0 l0.length l0) (hc0 : l0.length ≤ c0) (hr1 : Kd.C k62 w A1 l1.length l1) (hc1 : l1.length ≤ c1) (h : impl_TypedOk.f k l0 l1 = some r) :
  Calls Try.prog 18 #[.slice A0 l0.length c0, .slice A1 l1.length c1] w fun e w' => e = .returned (.bool r) ∧ Below w.heap.size w w' := by
 have HR0 := Aside0.mk hr0
 have HC0 := Aside0.mk hc0
 clear hr0 hc0
 have HR1 := Aside0.mk hr1
 have HC1 := Aside0.mk hc1
 clear hr1 hc1
 have HB := Aside0.mk (Below.refl w.heap.size w)
 have H : ((impl_WidthOf.f k l0 l1).bind fun t355 => (some (decide (t355 ≥ 0)))) = some r := h
 clear h
 replace H := Option.bind_eq_some_iff.mp H
 obtain ⟨t355, A30, H⟩ := H
 replace H : (some (decide (t355 ≥ 0))) = some r := H
 have A3 := Aside0.mk A30
 clear A30
 obtain rfl := Option.some.inj H
 go_enter Try.func18, Try.ntmps18
 go_wp2_with (first | ((with_reducible refine gate_callee (f := 14) rfl ?_); refine goesL_ (some 7) rfl rfl Try.func14 (by kernel_rfl) rfl #[.slice A0 l0.length c0, .slice A1 l1.length c1] rfl aL ?_; (with_reducible refine (impl_WidthOf.calls k _ _ l0 _ _ l1 t355 _ ?side1 ?side2 ?side3 ?side4 A3.out).mono ?_); (case side1 => exact cA); (case side2 => exact HC0.out); (case side3 => exact cA); (case side4 => exact HC1.out); rintro e w4 ⟨rfl, hb⟩; refine ⟨_, rfl, ?_⟩; have n0_ := Aside0.mk (below_step bA hb); clear HB; have HB := n0_; clear n0_; (try clear hb); (try clear hb2); (try clear hk); (try clear hi)))
 go_ret
 exact ⟨rE, bA⟩

/-! ### laws_FnExactTypedOk: function 4 -/
def laws_FnExactTypedOk.f (k : Nat) (l0 : List (S53)) (l1 : List (S57)) : Option (Bool) := (laws_szTableS.f k l0 1048576).bind fun t356 => (if t356 < 0 then (some true) else ((laws_szNodeS.f k l1 t356).bind fun t357 => (if t357 < 0 then (some true) else ((laws_toTableS.f k l0).bind fun t358 => ((laws_toNodeS.f k l1).bind fun t361 => ((spec_TypedOk.f k t358 t361).bind fun t364 => ((laws_toTableS.f k l0).bind fun t365 => ((laws_toNodeS.f k l1).bind fun t368 => ((impl_TypedOk.f k t365 t368).bind fun t371 => (if (t371 != t364) = true then (some false) else ((laws_toTableS.f k l0).bind fun t372 => ((laws_eqTableS.f k t365 t372).bind fun t375 => (if t375 = true then ((laws_toNodeS.f k l1).bind fun t376 => ((laws_eqNodeS.f k t368 t376).bind fun t379 => (if t379 = true then (some true) else (some false)))) else (some false))))))))))))))
theorem laws_FnExactTypedOk.mono : ∀ a0 a1 k, LeO (laws_FnExactTypedOk.f k a0 a1) (laws_FnExactTypedOk.f (k + 1) a0 a1) := by
 intro a0 a1 k
 unfold laws_FnExactTypedOk.f
 repeat' first
   | (with_reducible exact impl_TypedOk.mono _ _ _)
   | (with_reducible exact laws_eqNodeS.mono _ _ _)
   | (with_reducible exact laws_eqTableS.mono _ _ _)
   | (with_reducible exact laws_szNodeS.mono _ _ _)
   | (with_reducible exact laws_szTableS.mono _ _ _)
   | (with_reducible exact laws_toNodeS.mono _ _)
   | (with_reducible exact laws_toTableS.mono _ _)
   | (with_reducible exact spec_TypedOk.mono _ _ _)
   | (with_reducible exact LeO.refl _)
   | (with_reducible exact LeO.none _)
   | (with_reducible refine LeO.ite ?_ ?_)
   | (with_reducible refine LeO.bind ?_ (fun _ => ?_))
   | exact impl_TypedOk.mono _ _ _
   | exact laws_eqNodeS.mono _ _ _
   | exact laws_eqTableS.mono _ _ _
   | exact laws_szNodeS.mono _ _ _
   | exact laws_szTableS.mono _ _ _
   | exact laws_toNodeS.mono _ _
   | exact laws_toTableS.mono _ _
   | exact spec_TypedOk.mono _ _ _
   | exact LeO.none _
   | refine LeO.ite ?_ ?_
   | refine LeO.bind ?_ (fun _ => ?_)
set_option maxHeartbeats 8000000 in
set_option maxRecDepth 100000 in
theorem laws_FnExactTypedOk.calls (k : Nat) (A0 : Option Addr) (c0 : Nat) (l0 : List (S53)) (A1 : Option Addr) (c1 : Nat) (l1 : List (S57)) (r : Bool) (w : World) (hr0 : Kd.C k53 w A0 l0.length l0) (hc0 : l0.length ≤ c0) (hr1 : Kd.C k57 w A1 l1.length l1) (hc1 : l1.length ≤ c1) (h : laws_FnExactTypedOk.f k l0 l1 = some r) (hr_ : r = true) :
  Calls Try.prog 4 #[.slice A0 l0.length c0, .slice A1 l1.length c1] w fun e w' => e = .returned (.bool r) ∧ Below w.heap.size w w' := by
 have HR0 := Aside0.mk hr0
 have HC0 := Aside0.mk hc0
 clear hr0 hc0
 have HR1 := Aside0.mk hr1
 have HC1 := Aside0.mk hc1
 clear hr1 hc1
 have HB := Aside0.mk (Below.refl w.heap.size w)
 have H : ((laws_szTableS.f k l0 1048576).bind fun t356 => (if t356 < 0 then (some true) else ((laws_szNodeS.f k l1 t356).bind fun t357 => (if t357 < 0 then (some true) else ((laws_toTableS.f k l0).bind fun t358 => ((laws_toNodeS.f k l1).bind fun t361 => ((spec_TypedOk.f k t358 t361).bind fun t364 => ((laws_toTableS.f k l0).bind fun t365 => ((laws_toNodeS.f k l1).bind fun t368 => ((impl_TypedOk.f k t365 t368).bind fun t371 => (if (t371 != t364) = true then (some false) else ((laws_toTableS.f k l0).bind fun t372 => ((laws_eqTableS.f k t365 t372).bind fun t375 => (if t375 = true then ((laws_toNodeS.f k l1).bind fun t376 => ((laws_eqNodeS.f k t368 t376).bind fun t379 => (if t379 = true then (some true) else (some false)))) else (some false))))))))))))))) = some r := h
 clear h
 replace H := Option.bind_eq_some_iff.mp H
 obtain ⟨t356, A30, H⟩ := H
 replace H : (if t356 < 0 then (some true) else ((laws_szNodeS.f k l1 t356).bind fun t357 => (if t357 < 0 then (some true) else ((laws_toTableS.f k l0).bind fun t358 => ((laws_toNodeS.f k l1).bind fun t361 => ((spec_TypedOk.f k t358 t361).bind fun t364 => ((laws_toTableS.f k l0).bind fun t365 => ((laws_toNodeS.f k l1).bind fun t368 => ((impl_TypedOk.f k t365 t368).bind fun t371 => (if (t371 != t364) = true then (some false) else ((laws_toTableS.f k l0).bind fun t372 => ((laws_eqTableS.f k t365 t372).bind fun t375 => (if t375 = true then ((laws_toNodeS.f k l1).bind fun t376 => ((laws_eqNodeS.f k t368 t376).bind fun t379 => (if t379 = true then (some true) else (some false)))) else (some false)))))))))))))) = some r := H
 have A3 := Aside0.mk A30
 clear A30
 by_cases c4 : t356 < 0
 ·rw [if_pos c4] at H
  have c4b0 : decide (t356 < 0) = true := decide_eq_true c4
  clear c4
  obtain rfl := Option.some.inj H
  go_enter Try.func4, Try.ntmps4
  go_wp2_with (first | ((with_reducible refine gate_callee (f := 9) rfl ?_); refine goesL_ (some 12) rfl rfl Try.func9 (by kernel_rfl) rfl #[.slice A0 l0.length c0, .int .i64 1048576] rfl aL ?_; (with_reducible refine (laws_szTableS.calls k _ _ l0 1048576 t356 _ ?side1 ?side2 A3.out).mono ?_); (case side1 => exact cA); (case side2 => exact HC0.out); rintro e w5 ⟨rfl, hb⟩; refine ⟨_, rfl, ?_⟩; have n0_ := Aside0.mk (below_step bA hb); clear HB; have HB := n0_; clear n0_; (try clear hb); (try clear hb2); (try clear hk); (try clear hi)))
  go_ret
  exact ⟨rE, bA⟩
 ·rw [if_neg c4] at H
  have c4b0 : decide (t356 < 0) = false := decide_eq_false c4
  clear c4
  replace H := Option.bind_eq_some_iff.mp H
  obtain ⟨t357, A60, H⟩ := H
  replace H : (if t357 < 0 then (some true) else ((laws_toTableS.f k l0).bind fun t358 => ((laws_toNodeS.f k l1).bind fun t361 => ((spec_TypedOk.f k t358 t361).bind fun t364 => ((laws_toTableS.f k l0).bind fun t365 => ((laws_toNodeS.f k l1).bind fun t368 => ((impl_TypedOk.f k t365 t368).bind fun t371 => (if (t371 != t364) = true then (some false) else ((laws_toTableS.f k l0).bind fun t372 => ((laws_eqTableS.f k t365 t372).bind fun t375 => (if t375 = true then ((laws_toNodeS.f k l1).bind fun t376 => ((laws_eqNodeS.f k t368 t376).bind fun t379 => (if t379 = true then (some true) else (some false)))) else (some false)))))))))))) = some r := H
  have A6 := Aside0.mk A60
  clear A60
  by_cases c7 : t357 < 0
  ·rw [if_pos c7] at H
   have c7b0 : decide (t357 < 0) = true := decide_eq_true c7
   clear c7
   obtain rfl := Option.some.inj H
   go_enter Try.func4, Try.ntmps4
   go_wp2_with (first | ((with_reducible refine gate_callee (f := 9) rfl ?_); refine goesL_ (some 12) rfl rfl Try.func9 (by kernel_rfl) rfl #[.slice A0 l0.length c0, .int .i64 1048576] rfl aL ?_; (with_reducible refine (laws_szTableS.calls k _ _ l0 1048576 t356 _ ?side1 ?side2 A3.out).mono ?_); (case side1 => exact cA); (case side2 => exact HC0.out); rintro e w8 ⟨rfl, hb⟩; refine ⟨_, rfl, ?_⟩; have n0_ := Aside0.mk (below_step bA hb); clear HB; have HB := n0_; clear n0_; (try clear hb); (try clear hb2); (try clear hk); (try clear hi)) | ((with_reducible refine gate_callee (f := 10) rfl ?_); refine goesL_ (some 17) rfl rfl Try.func10 (by kernel_rfl) rfl #[.slice A1 l1.length c1, .int .i64 t356] rfl aL ?_; (with_reducible refine (laws_szNodeS.calls k _ _ l1 t356 t357 _ ?side1 ?side2 A6.out).mono ?_); (case side1 => exact cA); (case side2 => exact HC1.out); rintro e w9 ⟨rfl, hb⟩; refine ⟨_, rfl, ?_⟩; have n0_ := Aside0.mk (below_step bA hb); clear HB; have HB := n0_; clear n0_; (try clear hb); (try clear hb2); (try clear hk); (try clear hi)))
   go_ret
   exact ⟨rE, bA⟩
  ·rw [if_neg c7] at H
   have c7b0 : decide (t357 < 0) = false := decide_eq_false c7
   clear c7
   replace H := Option.bind_eq_some_iff.mp H
   obtain ⟨t358, A100, H⟩ := H
   replace H : ((laws_toNodeS.f k l1).bind fun t361 => ((spec_TypedOk.f k t358 t361).bind fun t364 => ((laws_toTableS.f k l0).bind fun t365 => ((laws_toNodeS.f k l1).bind fun t368 => ((impl_TypedOk.f k t365 t368).bind fun t371 => (if (t371 != t364) = true then (some false) else ((laws_toTableS.f k l0).bind fun t372 => ((laws_eqTableS.f k t365 t372).bind fun t375 => (if t375 = true then ((laws_toNodeS.f k l1).bind fun t376 => ((laws_eqNodeS.f k t368 t376).bind fun t379 => (if t379 = true then (some true) else (some false)))) else (some false)))))))))) = some r := H
   have A10 := Aside0.mk A100
   clear A100
   replace H := Option.bind_eq_some_iff.mp H
   obtain ⟨t361, A110, H⟩ := H
   replace H : ((spec_TypedOk.f k t358 t361).bind fun t364 => ((laws_toTableS.f k l0).bind fun t365 => ((laws_toNodeS.f k l1).bind fun t368 => ((impl_TypedOk.f k t365 t368).bind fun t371 => (if (t371 != t364) = true then (some false) else ((laws_toTableS.f k l0).bind fun t372 => ((laws_eqTableS.f k t365 t372).bind fun t375 => (if t375 = true then ((laws_toNodeS.f k l1).bind fun t376 => ((laws_eqNodeS.f k t368 t376).bind fun t379 => (if t379 = true then (some true) else (some false)))) else (some false))))))))) = some r := H
   have A11 := Aside0.mk A110
   clear A110
   replace H := Option.bind_eq_some_iff.mp H
   obtain ⟨t364, A120, H⟩ := H
   replace H : ((laws_toTableS.f k l0).bind fun t365 => ((laws_toNodeS.f k l1).bind fun t368 => ((impl_TypedOk.f k t365 t368).bind fun t371 => (if (t371 != t364) = true then (some false) else ((laws_toTableS.f k l0).bind fun t372 => ((laws_eqTableS.f k t365 t372).bind fun t375 => (if t375 = true then ((laws_toNodeS.f k l1).bind fun t376 => ((laws_eqNodeS.f k t368 t376).bind fun t379 => (if t379 = true then (some true) else (some false)))) else (some false)))))))) = some r := H
   have A12 := Aside0.mk A120
   clear A120
   replace H := Option.bind_eq_some_iff.mp H
   obtain ⟨t365, A130, H⟩ := H
   replace H : ((laws_toNodeS.f k l1).bind fun t368 => ((impl_TypedOk.f k t365 t368).bind fun t371 => (if (t371 != t364) = true then (some false) else ((laws_toTableS.f k l0).bind fun t372 => ((laws_eqTableS.f k t365 t372).bind fun t375 => (if t375 = true then ((laws_toNodeS.f k l1).bind fun t376 => ((laws_eqNodeS.f k t368 t376).bind fun t379 => (if t379 = true then (some true) else (some false)))) else (some false))))))) = some r := H
   have A13 := Aside0.mk A130
   clear A130
   replace H := Option.bind_eq_some_iff.mp H
   obtain ⟨t368, A140, H⟩ := H
   replace H : ((impl_TypedOk.f k t365 t368).bind fun t371 => (if (t371 != t364) = true then (some false) else ((laws_toTableS.f k l0).bind fun t372 => ((laws_eqTableS.f k t365 t372).bind fun t375 => (if t375 = true then ((laws_toNodeS.f k l1).bind fun t376 => ((laws_eqNodeS.f k t368 t376).bind fun t379 => (if t379 = true then (some true) else (some false)))) else (some false)))))) = some r := H
   have A14 := Aside0.mk A140
   clear A140
   replace H := Option.bind_eq_some_iff.mp H
   obtain ⟨t371, A150, H⟩ := H
   replace H : (if (t371 != t364) = true then (some false) else ((laws_toTableS.f k l0).bind fun t372 => ((laws_eqTableS.f k t365 t372).bind fun t375 => (if t375 = true then ((laws_toNodeS.f k l1).bind fun t376 => ((laws_eqNodeS.f k t368 t376).bind fun t379 => (if t379 = true then (some true) else (some false)))) else (some false))))) = some r := H
   have A15 := Aside0.mk A150
   clear A150
   by_cases c16 : (t371 != t364) = true
   ·rw [if_pos c16] at H
    have c16b0 : (t371 != t364) = true := c16
    (try (have c16b1 : decide (t371 = t364) = false := by simpa using c16))
    (try (have c16b2 : (t371 == t364) = false := by simpa using c16))
    (try (have c16b3 : ¬ (t371 = t364) := by simpa using c16))
    clear c16
    exact absurd ((Option.some.inj H).trans hr_) (by decide)
   ·rw [if_neg c16] at H
    have c16b0 : (t371 != t364) = false := by simpa using c16
    (try (have c16b1 : decide (t371 = t364) = true := by simpa using c16))
    (try (have c16b2 : (t371 == t364) = true := by simpa using c16))
    clear c16
    replace H := Option.bind_eq_some_iff.mp H
    obtain ⟨t372, A290, H⟩ := H
    replace H : ((laws_eqTableS.f k t365 t372).bind fun t375 => (if t375 = true then ((laws_toNodeS.f k l1).bind fun t376 => ((laws_eqNodeS.f k t368 t376).bind fun t379 => (if t379 = true then (some true) else (some false)))) else (some false))) = some r := H
    have A29 := Aside0.mk A290
    clear A290
    replace H := Option.bind_eq_some_iff.mp H
    obtain ⟨t375, A300, H⟩ := H
    replace H : (if t375 = true then ((laws_toNodeS.f k l1).bind fun t376 => ((laws_eqNodeS.f k t368 t376).bind fun t379 => (if t379 = true then (some true) else (some false)))) else (some false)) = some r := H
    have A30 := Aside0.mk A300
    clear A300
    by_cases c31 : t375 = true
    ·subst c31
     have H1 : ((laws_toNodeS.f k l1).bind fun t376 => ((laws_eqNodeS.f k t368 t376).bind fun t379 => (if t379 = true then (some true) else (some false)))) = some r := by rw [if_pos rfl] at H; exact H
     clear H
     have H := H1
     clear H1
     replace H := Option.bind_eq_some_iff.mp H
     obtain ⟨t376, A320, H⟩ := H
     replace H : ((laws_eqNodeS.f k t368 t376).bind fun t379 => (if t379 = true then (some true) else (some false))) = some r := H
     have A32 := Aside0.mk A320
     clear A320
     replace H := Option.bind_eq_some_iff.mp H
     obtain ⟨t379, A330, H⟩ := H
     replace H : (if t379 = true then (some true) else (some false)) = some r := H
     have A33 := Aside0.mk A330
     clear A330
     by_cases c34 : t379 = true
     ·subst c34
      have H1 : (some true) = some r := by rw [if_pos rfl] at H; exact H
      clear H
      have H := H1
      clear H1
      obtain rfl := Option.some.inj H
      go_enter Try.func4, Try.ntmps4
      go_wp2_with (first | ((with_reducible refine gate_callee (f := 9) rfl ?_); refine goesL_ (some 12) rfl rfl Try.func9 (by kernel_rfl) rfl #[.slice A0 l0.length c0, .int .i64 1048576] rfl aL ?_; (with_reducible refine (laws_szTableS.calls k _ _ l0 1048576 t356 _ ?side1 ?side2 A3.out).mono ?_); (case side1 => exact cA); (case side2 => exact HC0.out); rintro e w35 ⟨rfl, hb⟩; refine ⟨_, rfl, ?_⟩; have n0_ := Aside0.mk (below_step bA hb); clear HB; have HB := n0_; clear n0_; (try clear hb); (try clear hb2); (try clear hk); (try clear hi)) | ((with_reducible refine gate_callee (f := 10) rfl ?_); refine goesL_ (some 17) rfl rfl Try.func10 (by kernel_rfl) rfl #[.slice A1 l1.length c1, .int .i64 t356] rfl aL ?_; (with_reducible refine (laws_szNodeS.calls k _ _ l1 t356 t357 _ ?side1 ?side2 A6.out).mono ?_); (case side1 => exact cA); (case side2 => exact HC1.out); rintro e w36 ⟨rfl, hb⟩; refine ⟨_, rfl, ?_⟩; have n0_ := Aside0.mk (below_step bA hb); clear HB; have HB := n0_; clear n0_; (try clear hb); (try clear hb2); (try clear hk); (try clear hi)) | ((with_reducible refine gate_callee (f := 12) rfl ?_); refine goesL_ (some 21) rfl rfl Try.func12 (by kernel_rfl) rfl #[.slice A0 l0.length c0] rfl aL ?_; (with_reducible refine (laws_toTableS.calls k _ _ l0 t358 _ ?side1 ?side2 A10.out).mono ?_); (case side1 => exact cA); (case side2 => exact HC0.out); rintro e w37 ⟨v359, rfl, ho0, hb⟩; refine ⟨_, rfl, ?_⟩; have n0_ := Aside0.mk (Kd.R_lower ho0 (below_size bA)); have n1_ := Aside0.mk (below_step bA hb); clear HB; have HO360 := n0_; have HB := n1_; clear n0_ n1_; (try clear hb); (try clear hb2); (try clear hk); (try clear hi); (try clear ho0)) | ((with_reducible refine gate_callee (f := 13) rfl ?_); refine goesL_ (some 23) rfl rfl Try.func13 (by kernel_rfl) rfl #[.slice A1 l1.length c1] rfl aL ?_; (with_reducible refine (laws_toNodeS.calls k _ _ l1 t361 _ ?side1 ?side2 A11.out).mono ?_); (case side1 => exact cA); (case side2 => exact HC1.out); rintro e w38 ⟨v362, rfl, ho0, hb⟩; refine ⟨_, rfl, ?_⟩; have n0_ := Aside0.mk (Kd.R_below (by (with_reducible repeat (first | apply Kd.R_alloc | apply Kd.R_drewN | apply Kd.R_drew)); exact HO360.out) hb); have n1_ := Aside0.mk (Kd.S_lower ho0 (below_size bA)); have n2_ := Aside0.mk (below_step bA hb); clear HO360; clear HB; have HO360 := n0_; have HO363 := n1_; have HB := n2_; clear n0_ n1_ n2_; (try clear hb); (try clear hb2); (try clear hk); (try clear hi); (try clear ho0); obtain ⟨Ao39, co39, eo39⟩ := Kd.R_slice HO360.out; subst eo39; obtain ⟨Ao40, co40, eo40⟩ := Kd.S_slice HO363.out; subst eo40) | ((with_reducible refine gate_callee (f := 17) rfl ?_); refine goesL_ (some 24) rfl rfl Try.func17 (by kernel_rfl) rfl #[.slice Ao39 t358.length co39, .slice Ao40 t361.length co40] rfl aL ?_; (with_reducible refine (spec_TypedOk.calls k _ _ t358 _ _ t361 t364 _ ?side1 ?side2 ?side3 ?side4 A12.out).mono ?_); (case side1 => repeat (first | exact (Kd.R_reads' HO360.out).2.2 | (with_reducible refine Kd.C_alloc ?_ _) | (with_reducible refine Kd.C_drewN ?_ _) | (with_reducible refine Kd.C_drew ?_))); (case side2 => exact (Kd.R_reads' HO360.out).2.1); (case side3 => repeat (first | exact (Kd.S_reads' HO363.out).2.2 | (with_reducible refine Kd.C_alloc ?_ _) | (with_reducible refine Kd.C_drewN ?_ _) | (with_reducible refine Kd.C_drew ?_))); (case side4 => exact (Kd.S_reads' HO363.out).2.1); rintro e w41 ⟨rfl, hb⟩; refine ⟨_, rfl, ?_⟩; have n0_ := Aside0.mk (Kd.R_below (by (with_reducible repeat (first | apply Kd.R_alloc | apply Kd.R_drewN | apply Kd.R_drew)); exact HO360.out) hb); have n1_ := Aside0.mk (Kd.S_below (by (with_reducible repeat (first | apply Kd.S_alloc | apply Kd.S_drewN | apply Kd.S_drew)); exact HO363.out) hb); have n2_ := Aside0.mk (below_step bA hb); clear HO360; clear HO363; clear HB; have HO360 := n0_; have HO363 := n1_; have HB := n2_; clear n0_ n1_ n2_; (try clear hb); (try clear hb2); (try clear hk); (try clear hi)) | ((with_reducible refine gate_callee (f := 12) rfl ?_); refine goesL_ (some 26) rfl rfl Try.func12 (by kernel_rfl) rfl #[.slice A0 l0.length c0] rfl aL ?_; (with_reducible refine (laws_toTableS.calls k _ _ l0 t365 _ ?side1 ?side2 A13.out).mono ?_); (case side1 => exact cA); (case side2 => exact HC0.out); rintro e w42 ⟨v366, rfl, ho0, hb⟩; refine ⟨_, rfl, ?_⟩; have n0_ := Aside0.mk (Kd.R_elder' (by (with_reducible repeat (first | apply Kd.R_alloc | apply Kd.R_drewN | apply Kd.R_drew)); exact HO360.out) (Kd.R_base ho0) hb); have n1_ := Aside0.mk (Kd.S_below (by (with_reducible repeat (first | apply Kd.S_alloc | apply Kd.S_drewN | apply Kd.S_drew)); exact HO363.out) hb); have n2_ := Aside0.mk (Kd.R_lower (Kd.R_new' ho0 (Kd.R_lt (by (with_reducible repeat (first | apply Kd.R_alloc | apply Kd.R_drewN | apply Kd.R_drew)); exact HO360.out))) (below_size bA)); have n3_ := Aside0.mk (below_step bA hb); clear HO360; clear HO363; clear HB; have HO360 := n0_; have HO363 := n1_; have HO367 := n2_; have HB := n3_; clear n0_ n1_ n2_ n3_; (try clear hb); (try clear hb2); (try clear hk); (try clear hi); (try clear ho0)) | ((with_reducible refine gate_callee (f := 13) rfl ?_); refine goesL_ (some 28) rfl rfl Try.func13 (by kernel_rfl) rfl #[.slice A1 l1.length c1] rfl aL ?_; (with_reducible refine (laws_toNodeS.calls k _ _ l1 t368 _ ?side1 ?side2 A14.out).mono ?_); (case side1 => exact cA); (case side2 => exact HC1.out); rintro e w43 ⟨v369, rfl, ho0, hb⟩; refine ⟨_, rfl, ?_⟩; have n0_ := Aside0.mk (Kd.R_below (by (with_reducible repeat (first | apply Kd.R_alloc | apply Kd.R_drewN | apply Kd.R_drew)); exact HO360.out) hb); have n1_ := Aside0.mk (Kd.S_elder' (by (with_reducible repeat (first | apply Kd.S_alloc | apply Kd.S_drewN | apply Kd.S_drew)); exact HO363.out) (Kd.S_base ho0) hb); have n2_ := Aside0.mk (Kd.R_below (by (with_reducible repeat (first | apply Kd.R_alloc | apply Kd.R_drewN | apply Kd.R_drew)); exact HO367.out) hb); have n3_ := Aside0.mk (Kd.S_lower (Kd.S_new' ho0 (Kd.S_lt (by (with_reducible repeat (first | apply Kd.S_alloc | apply Kd.S_drewN | apply Kd.S_drew)); exact HO363.out))) (below_size bA)); have n4_ := Aside0.mk (below_step bA hb); clear HO360; clear HO363; clear HO367; clear HB; have HO360 := n0_; have HO363 := n1_; have HO367 := n2_; have HO370 := n3_; have HB := n4_; clear n0_ n1_ n2_ n3_ n4_; (try clear hb); (try clear hb2); (try clear hk); (try clear hi); (try clear ho0); obtain ⟨Ao44, co44, eo44⟩ := Kd.R_slice HO367.out; subst eo44; obtain ⟨Ao45, co45, eo45⟩ := Kd.S_slice HO370.out; subst eo45) | ((with_reducible refine gate_callee (f := 18) rfl ?_); refine goesL_ (some 31) rfl rfl Try.func18 (by kernel_rfl) rfl #[.slice Ao44 t365.length co44, .slice Ao45 t368.length co45] rfl aL ?_; (with_reducible refine (impl_TypedOk.calls k _ _ t365 _ _ t368 t371 _ ?side1 ?side2 ?side3 ?side4 A15.out).mono ?_); (case side1 => repeat (first | exact (Kd.R_reads' HO367.out).2.2 | (with_reducible refine Kd.C_alloc ?_ _) | (with_reducible refine Kd.C_drewN ?_ _) | (with_reducible refine Kd.C_drew ?_))); (case side2 => exact (Kd.R_reads' HO367.out).2.1); (case side3 => repeat (first | exact (Kd.S_reads' HO370.out).2.2 | (with_reducible refine Kd.C_alloc ?_ _) | (with_reducible refine Kd.C_drewN ?_ _) | (with_reducible refine Kd.C_drew ?_))); (case side4 => exact (Kd.S_reads' HO370.out).2.1); rintro e w46 ⟨rfl, hb⟩; refine ⟨_, rfl, ?_⟩; have n0_ := Aside0.mk (Kd.R_below (by (with_reducible repeat (first | apply Kd.R_alloc | apply Kd.R_drewN | apply Kd.R_drew)); exact HO360.out) hb); have n1_ := Aside0.mk (Kd.S_below (by (with_reducible repeat (first | apply Kd.S_alloc | apply Kd.S_drewN | apply Kd.S_drew)); exact HO363.out) hb); have n2_ := Aside0.mk (Kd.R_below (by (with_reducible repeat (first | apply Kd.R_alloc | apply Kd.R_drewN | apply Kd.R_drew)); exact HO367.out) hb); have n3_ := Aside0.mk (Kd.S_below (by (with_reducible repeat (first | apply Kd.S_alloc | apply Kd.S_drewN | apply Kd.S_drew)); exact HO370.out) hb); have n4_ := Aside0.mk (below_step bA hb); clear HO360; clear HO363; clear HO367; clear HO370; clear HB; have HO360 := n0_; have HO363 := n1_; have HO367 := n2_; have HO370 := n3_; have HB := n4_; clear n0_ n1_ n2_ n3_ n4_; (try clear hb); (try clear hb2); (try clear hk); (try clear hi)) | ((with_reducible refine gate_callee (f := 12) rfl ?_); refine goesL_ (some 37) rfl rfl Try.func12 (by kernel_rfl) rfl #[.slice A0 l0.length c0] rfl aL ?_; (with_reducible refine (laws_toTableS.calls k _ _ l0 t372 _ ?side1 ?side2 A29.out).mono ?_); (case side1 => exact cA); (case side2 => exact HC0.out); rintro e w47 ⟨v373, rfl, ho0, hb⟩; refine ⟨_, rfl, ?_⟩; have n0_ := Aside0.mk (Kd.R_elder' (by (with_reducible repeat (first | apply Kd.R_alloc | apply Kd.R_drewN | apply Kd.R_drew)); exact HO360.out) (Kd.R_base ho0) hb); have n1_ := Aside0.mk (Kd.S_below (by (with_reducible repeat (first | apply Kd.S_alloc | apply Kd.S_drewN | apply Kd.S_drew)); exact HO363.out) hb); have n2_ := Aside0.mk (Kd.R_elder' (by (with_reducible repeat (first | apply Kd.R_alloc | apply Kd.R_drewN | apply Kd.R_drew)); exact HO367.out) (Kd.R_base ho0) hb); have n3_ := Aside0.mk (Kd.S_below (by (with_reducible repeat (first | apply Kd.S_alloc | apply Kd.S_drewN | apply Kd.S_drew)); exact HO370.out) hb); have n4_ := Aside0.mk (Kd.R_lower (Kd.R_new' (Kd.R_new' ho0 (Kd.R_lt (by (with_reducible repeat (first | apply Kd.R_alloc | apply Kd.R_drewN | apply Kd.R_drew)); exact HO360.out))) (Kd.R_lt (by (with_reducible repeat (first | apply Kd.R_alloc | apply Kd.R_drewN | apply Kd.R_drew)); exact HO367.out))) (below_size bA)); have n5_ := Aside0.mk (below_step bA hb); clear HO360; clear HO363; clear HO367; clear HO370; clear HB; have HO360 := n0_; have HO363 := n1_; have HO367 := n2_; have HO370 := n3_; have HO374 := n4_; have HB := n5_; clear n0_ n1_ n2_ n3_ n4_ n5_; (try clear hb); (try clear hb2); (try clear hk); (try clear hi); (try clear ho0); obtain ⟨Ao48, co48, eo48⟩ := Kd.R_slice HO374.out; subst eo48) | ((with_reducible refine gate_callee (f := 15) rfl ?_); refine goesL_ (some 38) rfl rfl Try.func15 (by kernel_rfl) rfl #[.slice Ao44 t365.length co44, .slice Ao48 t372.length co48] rfl aL ?_; (with_reducible refine (laws_eqTableS.calls k _ _ t365 _ _ t372 true _ ?side1 ?side2 ?side3 ?side4 A30.out).mono ?_); (case side1 => repeat (first | exact (Kd.R_reads' HO367.out).2.2 | (with_reducible refine Kd.C_alloc ?_ _) | (with_reducible refine Kd.C_drewN ?_ _) | (with_reducible refine Kd.C_drew ?_))); (case side2 => exact (Kd.R_reads' HO367.out).2.1); (case side3 => repeat (first | exact (Kd.R_reads' HO374.out).2.2 | (with_reducible refine Kd.C_alloc ?_ _) | (with_reducible refine Kd.C_drewN ?_ _) | (with_reducible refine Kd.C_drew ?_))); (case side4 => exact (Kd.R_reads' HO374.out).2.1); rintro e w49 ⟨rfl, hb⟩; refine ⟨_, rfl, ?_⟩; have n0_ := Aside0.mk (Kd.R_below (by (with_reducible repeat (first | apply Kd.R_alloc | apply Kd.R_drewN | apply Kd.R_drew)); exact HO360.out) hb); have n1_ := Aside0.mk (Kd.S_below (by (with_reducible repeat (first | apply Kd.S_alloc | apply Kd.S_drewN | apply Kd.S_drew)); exact HO363.out) hb); have n2_ := Aside0.mk (Kd.R_below (by (with_reducible repeat (first | apply Kd.R_alloc | apply Kd.R_drewN | apply Kd.R_drew)); exact HO367.out) hb); have n3_ := Aside0.mk (Kd.S_below (by (with_reducible repeat (first | apply Kd.S_alloc | apply Kd.S_drewN | apply Kd.S_drew)); exact HO370.out) hb); have n4_ := Aside0.mk (Kd.R_below (by (with_reducible repeat (first | apply Kd.R_alloc | apply Kd.R_drewN | apply Kd.R_drew)); exact HO374.out) hb); have n5_ := Aside0.mk (below_step bA hb); clear HO360; clear HO363; clear HO367; clear HO370; clear HO374; clear HB; have HO360 := n0_; have HO363 := n1_; have HO367 := n2_; have HO370 := n3_; have HO374 := n4_; have HB := n5_; clear n0_ n1_ n2_ n3_ n4_ n5_; (try clear hb); (try clear hb2); (try clear hk); (try clear hi)) | ((with_reducible refine gate_callee (f := 13) rfl ?_); refine goesL_ (some 42) rfl rfl Try.func13 (by kernel_rfl) rfl #[.slice A1 l1.length c1] rfl aL ?_; (with_reducible refine (laws_toNodeS.calls k _ _ l1 t376 _ ?side1 ?side2 A32.out).mono ?_); (case side1 => exact cA); (case side2 => exact HC1.out); rintro e w50 ⟨v377, rfl, ho0, hb⟩; refine ⟨_, rfl, ?_⟩; have n0_ := Aside0.mk (Kd.R_below (by (with_reducible repeat (first | apply Kd.R_alloc | apply Kd.R_drewN | apply Kd.R_drew)); exact HO360.out) hb); have n1_ := Aside0.mk (Kd.S_elder' (by (with_reducible repeat (first | apply Kd.S_alloc | apply Kd.S_drewN | apply Kd.S_drew)); exact HO363.out) (Kd.S_base ho0) hb); have n2_ := Aside0.mk (Kd.R_below (by (with_reducible repeat (first | apply Kd.R_alloc | apply Kd.R_drewN | apply Kd.R_drew)); exact HO367.out) hb); have n3_ := Aside0.mk (Kd.S_elder' (by (with_reducible repeat (first | apply Kd.S_alloc | apply Kd.S_drewN | apply Kd.S_drew)); exact HO370.out) (Kd.S_base ho0) hb); have n4_ := Aside0.mk (Kd.R_below (by (with_reducible repeat (first | apply Kd.R_alloc | apply Kd.R_drewN | apply Kd.R_drew)); exact HO374.out) hb); have n5_ := Aside0.mk (Kd.S_lower (Kd.S_new' (Kd.S_new' ho0 (Kd.S_lt (by (with_reducible repeat (first | apply Kd.S_alloc | apply Kd.S_drewN | apply Kd.S_drew)); exact HO363.out))) (Kd.S_lt (by (with_reducible repeat (first | apply Kd.S_alloc | apply Kd.S_drewN | apply Kd.S_drew)); exact HO370.out))) (below_size bA)); have n6_ := Aside0.mk (below_step bA hb); clear HO360; clear HO363; clear HO367; clear HO370; clear HO374; clear HB; have HO360 := n0_; have HO363 := n1_; have HO367 := n2_; have HO370 := n3_; have HO374 := n4_; have HO378 := n5_; have HB := n6_; clear n0_ n1_ n2_ n3_ n4_ n5_ n6_; (try clear hb); (try clear hb2); (try clear hk); (try clear hi); (try clear ho0); obtain ⟨Ao51, co51, eo51⟩ := Kd.S_slice HO378.out; subst eo51) | ((with_reducible refine gate_callee (f := 16) rfl ?_); refine goesL_ (some 43) rfl rfl Try.func16 (by kernel_rfl) rfl #[.slice Ao45 t368.length co45, .slice Ao51 t376.length co51] rfl aL ?_; (with_reducible refine (laws_eqNodeS.calls k _ _ t368 _ _ t376 true _ ?side1 ?side2 ?side3 ?side4 A33.out).mono ?_); (case side1 => repeat (first | exact (Kd.S_reads' HO370.out).2.2 | (with_reducible refine Kd.C_alloc ?_ _) | (with_reducible refine Kd.C_drewN ?_ _) | (with_reducible refine Kd.C_drew ?_))); (case side2 => exact (Kd.S_reads' HO370.out).2.1); (case side3 => repeat (first | exact (Kd.S_reads' HO378.out).2.2 | (with_reducible refine Kd.C_alloc ?_ _) | (with_reducible refine Kd.C_drewN ?_ _) | (with_reducible refine Kd.C_drew ?_))); (case side4 => exact (Kd.S_reads' HO378.out).2.1); rintro e w52 ⟨rfl, hb⟩; refine ⟨_, rfl, ?_⟩; have n0_ := Aside0.mk (Kd.R_below (by (with_reducible repeat (first | apply Kd.R_alloc | apply Kd.R_drewN | apply Kd.R_drew)); exact HO360.out) hb); have n1_ := Aside0.mk (Kd.S_below (by (with_reducible repeat (first | apply Kd.S_alloc | apply Kd.S_drewN | apply Kd.S_drew)); exact HO363.out) hb); have n2_ := Aside0.mk (Kd.R_below (by (with_reducible repeat (first | apply Kd.R_alloc | apply Kd.R_drewN | apply Kd.R_drew)); exact HO367.out) hb); have n3_ := Aside0.mk (Kd.S_below (by (with_reducible repeat (first | apply Kd.S_alloc | apply Kd.S_drewN | apply Kd.S_drew)); exact HO370.out) hb); have n4_ := Aside0.mk (Kd.R_below (by (with_reducible repeat (first | apply Kd.R_alloc | apply Kd.R_drewN | apply Kd.R_drew)); exact HO374.out) hb); have n5_ := Aside0.mk (Kd.S_below (by (with_reducible repeat (first | apply Kd.S_alloc | apply Kd.S_drewN | apply Kd.S_drew)); exact HO378.out) hb); have n6_ := Aside0.mk (below_step bA hb); clear HO360; clear HO363; clear HO367; clear HO370; clear HO374; clear HO378; clear HB; have HO360 := n0_; have HO363 := n1_; have HO367 := n2_; have HO370 := n3_; have HO374 := n4_; have HO378 := n5_; have HB := n6_; clear n0_ n1_ n2_ n3_ n4_ n5_ n6_; (try clear hb); (try clear hb2); (try clear hk); (try clear hi)))
      go_ret
      exact ⟨rE, bA⟩
     ·replace c34 := Bool.eq_false_iff.mpr c34
      subst c34
      have H1 : (some false) = some r := by rw [if_neg (show ¬ (false = true) by decide)] at H; exact H
      clear H
      have H := H1
      clear H1
      exact absurd ((Option.some.inj H).trans hr_) (by decide)
    ·replace c31 := Bool.eq_false_iff.mpr c31
     subst c31
     have H1 : (some false) = some r := by rw [if_neg (show ¬ (false = true) by decide)] at H; exact H
     clear H
     have H := H1
     clear H1
     exact absurd ((Option.some.inj H).trans hr_) (by decide)

end Go.Proofs.Ytgmhohafoclmpaa.Q
