/- The machine side of a law, written by a program of this session over the translation: for each Go function a Lean function with the same answers, and the proof that the Go code comes to them. -/
import Derived.Test.YtmjfnkebpdmhbaaQx0
import Derived.Test.YtmjfnkebpdmhbaaQx1
import Derived.Test.YtmjfnkebpdmhbaaQx3
import Derived.Test.YtmjfnkebpdmhbaaQx4
import Derived.Test.YtmjfnkebpdmhbaaQx7
namespace Go.Proofs.Ytmjfnkebpdmhbaa.Q
open Go.RowKit Go.Proofs.Ytmjfnkebpdmhbaa.Own Go.Proofs.YtmjfnkebpdmhbaaW.PrintWords Go.Proofs.YtmjfnkebpdmhbaaW.PrintLast Go.Proofs.YtmjfnkebpdmhbaaW.PrintMore
attribute [local go_sem] max2_int min2_int max_two min_two max_three min_three max_four min_four   -- for this text's walks alone
set_option linter.unusedVariables false
set_option linter.unusedSimpArgs false

/-! ### laws_FnExactTakeNode: function 13 -/
mutual
def laws_FnExactTakeNode.j0 : Nat → List Int → Int → Int → List Int → Int → Bool → Int → ByteArray → Int → Int → Int → Bool → List Int → Int → ByteArray → Int → Int → Int → Bool → List Int → Option (Bool)
 | 0, _, _, _, _, _, _, _, _, _, _, _, _, _, _, _, _, _, _, _, _ => none
 | k + 1, x0, x1, x6, x7, x9, x41, x276000, x276001, x276002, x276003, x276004, x276005, x276006, x290000, x290001, x290002, x290003, x290004, x290005, x290006 => if x41 = true then (some false) else ((laws_toByteS.f k x0).bind fun t291 => ((laws_eqByteS.f k x7 t291).bind fun t294 => (if t294 = true then ((laws_markByteS.f k x7 1).bind fun bt295 => (if bt295.1 < 0 then (laws_FnExactTakeNode.j1 k x0 x1 x6 true x276000 x276001 x276002 x276003 x276004 x276005 x276006 x290000 x290001 x290002 x290003 x290004 x290005 x290006) else ((laws_eqNode.f k x290000 x290001 x290002 x290003 x290004 x290005 x290006 x276000 x276001 x276002 x276003 x276004 x276005 x276006).bind fun t297 => (if t297 = true then (laws_FnExactTakeNode.j1 k x0 x1 x6 (x9 != x6) x276000 x276001 x276002 x276003 x276004 x276005 x276006 x290000 x290001 x290002 x290003 x290004 x290005 x290006) else (laws_FnExactTakeNode.j1 k x0 x1 x6 true x276000 x276001 x276002 x276003 x276004 x276005 x276006 x290000 x290001 x290002 x290003 x290004 x290005 x290006))))) else (some false))))
def laws_FnExactTakeNode.j1 : Nat → List Int → Int → Int → Bool → Int → ByteArray → Int → Int → Int → Bool → List Int → Int → ByteArray → Int → Int → Int → Bool → List Int → Option (Bool)
 | 0, _, _, _, _, _, _, _, _, _, _, _, _, _, _, _, _, _, _ => none
 | k + 1, x0, x1, x6, x62, x276000, x276001, x276002, x276003, x276004, x276005, x276006, x290000, x290001, x290002, x290003, x290004, x290005, x290006 => if x62 = true then (some false) else ((laws_markNode.f k x290000 x290001 x290002 x290003 x290004 x290005 x290006 1).bind fun bt298 => ((laws_heldNode.f k x290000 x290001 x290002 x290003 x290004 x290005 bt298.2 1).bind fun t300 => (if t300 < 0 then (some false) else (if t300 = bt298.1 then ((laws_toByteS.f k x0).bind fun t301 => ((impl_TakeNode.f k t301 x1).bind fun bt304 => ((laws_eqNode.f k bt304.1 bt304.2.1 bt304.2.2.1 bt304.2.2.2.1 bt304.2.2.2.2.1 bt304.2.2.2.2.2.1 bt304.2.2.2.2.2.2.1 x276000 x276001 x276002 x276003 x276004 x276005 x276006).bind fun t315 => (if t315 = true then (laws_FnExactTakeNode.j2 k bt298.1 (bt304.2.2.2.2.2.2.2 != x6) x290000 x290001 x290002 x290003 x290004 x290005 bt298.2) else (laws_FnExactTakeNode.j2 k bt298.1 true x290000 x290001 x290002 x290003 x290004 x290005 bt298.2))))) else (some false)))))
def laws_FnExactTakeNode.j2 : Nat → Int → Bool → Int → ByteArray → Int → Int → Int → Bool → List Int → Option (Bool)
 | 0, _, _, _, _, _, _, _, _, _ => none
 | k + 1, x11, x89, x290000, x290001, x290002, x290003, x290004, x290005, x290006 => if x89 = true then (some false) else ((laws_heldNode.f k x290000 x290001 x290002 x290003 x290004 x290005 x290006 1).bind fun t316 => (if t316 < 0 then (some false) else (if t316 = x11 then (some true) else (some false))))
end
def laws_FnExactTakeNode.f (k : Nat) (l0 : List Int) (a1 : Int) : Option (Bool) := if (l0.length : Int) > 1048576 then (some true) else ((laws_toByteS.f k l0).bind fun t262 => ((spec_TakeNode.f k t262 a1).bind fun bt265 => ((laws_toByteS.f k l0).bind fun t276 => ((impl_TakeNode.f k t276 a1).bind fun bt279 => ((laws_eqNode.f k bt279.1 bt279.2.1 bt279.2.2.1 bt279.2.2.2.1 bt279.2.2.2.2.1 bt279.2.2.2.2.2.1 bt279.2.2.2.2.2.2.1 bt265.1 bt265.2.1 bt265.2.2.1 bt265.2.2.2.1 bt265.2.2.2.2.1 bt265.2.2.2.2.2.1 bt265.2.2.2.2.2.2.1).bind fun t290 => (if t290 = true then (laws_FnExactTakeNode.j0 k l0 a1 bt265.2.2.2.2.2.2.2 t276 bt279.2.2.2.2.2.2.2 (bt279.2.2.2.2.2.2.2 != bt265.2.2.2.2.2.2.2) bt265.1 bt265.2.1 bt265.2.2.1 bt265.2.2.2.1 bt265.2.2.2.2.1 bt265.2.2.2.2.2.1 bt265.2.2.2.2.2.2.1 bt279.1 bt279.2.1 bt279.2.2.1 bt279.2.2.2.1 bt279.2.2.2.2.1 bt279.2.2.2.2.2.1 bt279.2.2.2.2.2.2.1) else (laws_FnExactTakeNode.j0 k l0 a1 bt265.2.2.2.2.2.2.2 t276 bt279.2.2.2.2.2.2.2 true bt265.1 bt265.2.1 bt265.2.2.1 bt265.2.2.2.1 bt265.2.2.2.2.1 bt265.2.2.2.2.2.1 bt265.2.2.2.2.2.2.1 bt279.1 bt279.2.1 bt279.2.2.1 bt279.2.2.2.1 bt279.2.2.2.2.1 bt279.2.2.2.2.2.1 bt279.2.2.2.2.2.2.1)))))))
theorem laws_FnExactTakeNode.mono_l : ∀ k, (∀ y0 y1 y2 y3 y4 y5 y6 y7 y8 y9 y10 y11 y12 y13 y14 y15 y16 y17 y18 y19, LeO (laws_FnExactTakeNode.j0 k y0 y1 y2 y3 y4 y5 y6 y7 y8 y9 y10 y11 y12 y13 y14 y15 y16 y17 y18 y19) (laws_FnExactTakeNode.j0 (k + 1) y0 y1 y2 y3 y4 y5 y6 y7 y8 y9 y10 y11 y12 y13 y14 y15 y16 y17 y18 y19)) ∧ (∀ y0 y1 y2 y3 y4 y5 y6 y7 y8 y9 y10 y11 y12 y13 y14 y15 y16 y17, LeO (laws_FnExactTakeNode.j1 k y0 y1 y2 y3 y4 y5 y6 y7 y8 y9 y10 y11 y12 y13 y14 y15 y16 y17) (laws_FnExactTakeNode.j1 (k + 1) y0 y1 y2 y3 y4 y5 y6 y7 y8 y9 y10 y11 y12 y13 y14 y15 y16 y17)) ∧ (∀ y0 y1 y2 y3 y4 y5 y6 y7 y8, LeO (laws_FnExactTakeNode.j2 k y0 y1 y2 y3 y4 y5 y6 y7 y8) (laws_FnExactTakeNode.j2 (k + 1) y0 y1 y2 y3 y4 y5 y6 y7 y8))
 | 0 => ⟨fun _ _ _ _ _ _ _ _ _ _ _ _ _ _ _ _ _ _ _ _ r h => by simp [laws_FnExactTakeNode.j0] at h, fun _ _ _ _ _ _ _ _ _ _ _ _ _ _ _ _ _ _ r h => by simp [laws_FnExactTakeNode.j1] at h, fun _ _ _ _ _ _ _ _ _ r h => by simp [laws_FnExactTakeNode.j2] at h⟩
 | k + 1 => by
  obtain ⟨ih0, ih1, ih2⟩ := laws_FnExactTakeNode.mono_l k
  refine ⟨?_, ?_, ?_⟩ <;> intros <;> (first | unfold laws_FnExactTakeNode.j0 | unfold laws_FnExactTakeNode.j1 | unfold laws_FnExactTakeNode.j2)
  all_goals repeat' first
  | (with_reducible exact ih0 _ _ _ _ _ _ _ _ _ _ _ _ _ _ _ _ _ _ _ _)
  | (with_reducible exact ih1 _ _ _ _ _ _ _ _ _ _ _ _ _ _ _ _ _ _)
  | (with_reducible exact ih2 _ _ _ _ _ _ _ _ _)
  | (with_reducible exact impl_TakeNode.mono _ _ _)
  | (with_reducible exact laws_eqByteS.mono _ _ _)
  | (with_reducible exact laws_eqNode.mono _ _ _ _ _ _ _ _ _ _ _ _ _ _ _)
  | (with_reducible exact laws_heldNode.mono _ _ _ _ _ _ _ _ _)
  | (with_reducible exact laws_markByteS.mono _ _ _)
  | (with_reducible exact laws_markNode.mono _ _ _ _ _ _ _ _ _)
  | (with_reducible exact laws_toByteS.mono _ _)
  | (with_reducible exact spec_TakeNode.mono _ _ _)
  | (with_reducible exact LeO.refl _)
  | (with_reducible exact LeO.none _)
  | (with_reducible refine LeO.ite ?_ ?_)
  | (with_reducible refine LeO.bind ?_ (fun _ => ?_))
  | exact ih0 _ _ _ _ _ _ _ _ _ _ _ _ _ _ _ _ _ _ _ _
  | exact ih1 _ _ _ _ _ _ _ _ _ _ _ _ _ _ _ _ _ _
  | exact ih2 _ _ _ _ _ _ _ _ _
  | exact impl_TakeNode.mono _ _ _
  | exact laws_eqByteS.mono _ _ _
  | exact laws_eqNode.mono _ _ _ _ _ _ _ _ _ _ _ _ _ _ _
  | exact laws_heldNode.mono _ _ _ _ _ _ _ _ _
  | exact laws_markByteS.mono _ _ _
  | exact laws_markNode.mono _ _ _ _ _ _ _ _ _
  | exact laws_toByteS.mono _ _
  | exact spec_TakeNode.mono _ _ _
  | exact LeO.none _
  | refine LeO.ite ?_ ?_
  | refine LeO.bind ?_ (fun _ => ?_)
theorem laws_FnExactTakeNode.mono : ∀ a0 a1 k, LeO (laws_FnExactTakeNode.f k a0 a1) (laws_FnExactTakeNode.f (k + 1) a0 a1) := by
 intro a0 a1 k
 obtain ⟨ih0, ih1, ih2⟩ := laws_FnExactTakeNode.mono_l k
 unfold laws_FnExactTakeNode.f
 repeat' first
   | (with_reducible exact ih0 _ _ _ _ _ _ _ _ _ _ _ _ _ _ _ _ _ _ _ _)
   | (with_reducible exact ih1 _ _ _ _ _ _ _ _ _ _ _ _ _ _ _ _ _ _)
   | (with_reducible exact ih2 _ _ _ _ _ _ _ _ _)
   | (with_reducible exact impl_TakeNode.mono _ _ _)
   | (with_reducible exact laws_eqByteS.mono _ _ _)
   | (with_reducible exact laws_eqNode.mono _ _ _ _ _ _ _ _ _ _ _ _ _ _ _)
   | (with_reducible exact laws_heldNode.mono _ _ _ _ _ _ _ _ _)
   | (with_reducible exact laws_markByteS.mono _ _ _)
   | (with_reducible exact laws_markNode.mono _ _ _ _ _ _ _ _ _)
   | (with_reducible exact laws_toByteS.mono _ _)
   | (with_reducible exact spec_TakeNode.mono _ _ _)
   | (with_reducible exact LeO.refl _)
   | (with_reducible exact LeO.none _)
   | (with_reducible refine LeO.ite ?_ ?_)
   | (with_reducible refine LeO.bind ?_ (fun _ => ?_))
   | exact ih0 _ _ _ _ _ _ _ _ _ _ _ _ _ _ _ _ _ _ _ _
   | exact ih1 _ _ _ _ _ _ _ _ _ _ _ _ _ _ _ _ _ _
   | exact ih2 _ _ _ _ _ _ _ _ _
   | exact impl_TakeNode.mono _ _ _
   | exact laws_eqByteS.mono _ _ _
   | exact laws_eqNode.mono _ _ _ _ _ _ _ _ _ _ _ _ _ _ _
   | exact laws_heldNode.mono _ _ _ _ _ _ _ _ _
   | exact laws_markByteS.mono _ _ _
   | exact laws_markNode.mono _ _ _ _ _ _ _ _ _
   | exact laws_toByteS.mono _ _
   | exact spec_TakeNode.mono _ _ _
   | exact LeO.none _
   | refine LeO.ite ?_ ?_
   | refine LeO.bind ?_ (fun _ => ?_)
set_option maxHeartbeats 8000000 in
set_option maxRecDepth 100000 in
theorem laws_FnExactTakeNode.calls (k : Nat) (A0 : Option Addr) (c0 : Nat) (l0 : List Int) (a1 : Int) (r : Bool) (w : World) (hr0 : Kd.C (Kd.int .u8) w A0 l0.length l0) (hc0 : l0.length ≤ c0) (h : laws_FnExactTakeNode.f k l0 a1 = some r) (hr_ : r = true) :
  Calls Try.prog 13 #[.slice A0 l0.length c0, .int .i64 a1] w fun e w' => e = .returned (.bool r) ∧ Below w.heap.size w w' := by
 have hu33 := Try.underlying33
 have HR0 := Aside0.mk hr0
 have HC0 := Aside0.mk hc0
 clear hr0 hc0
 have HB := Aside0.mk (Below.refl w.heap.size w)
 have H : (if (l0.length : Int) > 1048576 then (some true) else ((laws_toByteS.f k l0).bind fun t262 => ((spec_TakeNode.f k t262 a1).bind fun bt265 => ((laws_toByteS.f k l0).bind fun t276 => ((impl_TakeNode.f k t276 a1).bind fun bt279 => ((laws_eqNode.f k bt279.1 bt279.2.1 bt279.2.2.1 bt279.2.2.2.1 bt279.2.2.2.2.1 bt279.2.2.2.2.2.1 bt279.2.2.2.2.2.2.1 bt265.1 bt265.2.1 bt265.2.2.1 bt265.2.2.2.1 bt265.2.2.2.2.1 bt265.2.2.2.2.2.1 bt265.2.2.2.2.2.2.1).bind fun t290 => (if t290 = true then (laws_FnExactTakeNode.j0 k l0 a1 bt265.2.2.2.2.2.2.2 t276 bt279.2.2.2.2.2.2.2 (bt279.2.2.2.2.2.2.2 != bt265.2.2.2.2.2.2.2) bt265.1 bt265.2.1 bt265.2.2.1 bt265.2.2.2.1 bt265.2.2.2.2.1 bt265.2.2.2.2.2.1 bt265.2.2.2.2.2.2.1 bt279.1 bt279.2.1 bt279.2.2.1 bt279.2.2.2.1 bt279.2.2.2.2.1 bt279.2.2.2.2.2.1 bt279.2.2.2.2.2.2.1) else (laws_FnExactTakeNode.j0 k l0 a1 bt265.2.2.2.2.2.2.2 t276 bt279.2.2.2.2.2.2.2 true bt265.1 bt265.2.1 bt265.2.2.1 bt265.2.2.2.1 bt265.2.2.2.2.1 bt265.2.2.2.2.2.1 bt265.2.2.2.2.2.2.1 bt279.1 bt279.2.1 bt279.2.2.1 bt279.2.2.2.1 bt279.2.2.2.2.1 bt279.2.2.2.2.2.1 bt279.2.2.2.2.2.2.1)))))))) = some r := h
 clear h
 by_cases c3 : (l0.length : Int) > 1048576
 ·rw [if_pos c3] at H
  have c3b0 : decide (1048576 < (l0.length : Int)) = true := decide_eq_true c3
  have c3b1 : decide (1048576 < l0.length) = true := decide_eq_true (by omega)
  clear c3
  obtain rfl := Option.some.inj H
  go_enter Try.func13, Try.ntmps13
  go_wp2
  go_ret
  exact ⟨rE, bA⟩
 ·rw [if_neg c3] at H
  have c3b0 : decide (1048576 < (l0.length : Int)) = false := decide_eq_false c3
  have c3b1 : decide (1048576 < l0.length) = false := decide_eq_false (by omega)
  clear c3
  replace H := Option.bind_eq_some_iff.mp H
  obtain ⟨t262, A40, H⟩ := H
  replace H : ((spec_TakeNode.f k t262 a1).bind fun bt265 => ((laws_toByteS.f k l0).bind fun t276 => ((impl_TakeNode.f k t276 a1).bind fun bt279 => ((laws_eqNode.f k bt279.1 bt279.2.1 bt279.2.2.1 bt279.2.2.2.1 bt279.2.2.2.2.1 bt279.2.2.2.2.2.1 bt279.2.2.2.2.2.2.1 bt265.1 bt265.2.1 bt265.2.2.1 bt265.2.2.2.1 bt265.2.2.2.2.1 bt265.2.2.2.2.2.1 bt265.2.2.2.2.2.2.1).bind fun t290 => (if t290 = true then (laws_FnExactTakeNode.j0 k l0 a1 bt265.2.2.2.2.2.2.2 t276 bt279.2.2.2.2.2.2.2 (bt279.2.2.2.2.2.2.2 != bt265.2.2.2.2.2.2.2) bt265.1 bt265.2.1 bt265.2.2.1 bt265.2.2.2.1 bt265.2.2.2.2.1 bt265.2.2.2.2.2.1 bt265.2.2.2.2.2.2.1 bt279.1 bt279.2.1 bt279.2.2.1 bt279.2.2.2.1 bt279.2.2.2.2.1 bt279.2.2.2.2.2.1 bt279.2.2.2.2.2.2.1) else (laws_FnExactTakeNode.j0 k l0 a1 bt265.2.2.2.2.2.2.2 t276 bt279.2.2.2.2.2.2.2 true bt265.1 bt265.2.1 bt265.2.2.1 bt265.2.2.2.1 bt265.2.2.2.2.1 bt265.2.2.2.2.2.1 bt265.2.2.2.2.2.2.1 bt279.1 bt279.2.1 bt279.2.2.1 bt279.2.2.2.1 bt279.2.2.2.2.1 bt279.2.2.2.2.2.1 bt279.2.2.2.2.2.2.1)))))) = some r := H
  have A4 := Aside0.mk A40
  clear A40
  replace H := Option.bind_eq_some_iff.mp H
  obtain ⟨⟨t265, t266, t267, t268, t269, t270, t271, t274⟩, A50, H⟩ := H
  replace H : ((laws_toByteS.f k l0).bind fun t276 => ((impl_TakeNode.f k t276 a1).bind fun bt279 => ((laws_eqNode.f k bt279.1 bt279.2.1 bt279.2.2.1 bt279.2.2.2.1 bt279.2.2.2.2.1 bt279.2.2.2.2.2.1 bt279.2.2.2.2.2.2.1 t265 t266 t267 t268 t269 t270 t271).bind fun t290 => (if t290 = true then (laws_FnExactTakeNode.j0 k l0 a1 t274 t276 bt279.2.2.2.2.2.2.2 (bt279.2.2.2.2.2.2.2 != t274) t265 t266 t267 t268 t269 t270 t271 bt279.1 bt279.2.1 bt279.2.2.1 bt279.2.2.2.1 bt279.2.2.2.2.1 bt279.2.2.2.2.2.1 bt279.2.2.2.2.2.2.1) else (laws_FnExactTakeNode.j0 k l0 a1 t274 t276 bt279.2.2.2.2.2.2.2 true t265 t266 t267 t268 t269 t270 t271 bt279.1 bt279.2.1 bt279.2.2.1 bt279.2.2.2.1 bt279.2.2.2.2.1 bt279.2.2.2.2.2.1 bt279.2.2.2.2.2.2.1))))) = some r := H
  have A5 := Aside0.mk A50
  clear A50
  replace H := Option.bind_eq_some_iff.mp H
  obtain ⟨t276, A60, H⟩ := H
  replace H : ((impl_TakeNode.f k t276 a1).bind fun bt279 => ((laws_eqNode.f k bt279.1 bt279.2.1 bt279.2.2.1 bt279.2.2.2.1 bt279.2.2.2.2.1 bt279.2.2.2.2.2.1 bt279.2.2.2.2.2.2.1 t265 t266 t267 t268 t269 t270 t271).bind fun t290 => (if t290 = true then (laws_FnExactTakeNode.j0 k l0 a1 t274 t276 bt279.2.2.2.2.2.2.2 (bt279.2.2.2.2.2.2.2 != t274) t265 t266 t267 t268 t269 t270 t271 bt279.1 bt279.2.1 bt279.2.2.1 bt279.2.2.2.1 bt279.2.2.2.2.1 bt279.2.2.2.2.2.1 bt279.2.2.2.2.2.2.1) else (laws_FnExactTakeNode.j0 k l0 a1 t274 t276 bt279.2.2.2.2.2.2.2 true t265 t266 t267 t268 t269 t270 t271 bt279.1 bt279.2.1 bt279.2.2.1 bt279.2.2.2.1 bt279.2.2.2.2.1 bt279.2.2.2.2.2.1 bt279.2.2.2.2.2.2.1)))) = some r := H
  have A6 := Aside0.mk A60
  clear A60
  replace H := Option.bind_eq_some_iff.mp H
  obtain ⟨⟨t279, t280, t281, t282, t283, t284, t285, t288⟩, A70, H⟩ := H
  replace H : ((laws_eqNode.f k t279 t280 t281 t282 t283 t284 t285 t265 t266 t267 t268 t269 t270 t271).bind fun t290 => (if t290 = true then (laws_FnExactTakeNode.j0 k l0 a1 t274 t276 t288 (t288 != t274) t265 t266 t267 t268 t269 t270 t271 t279 t280 t281 t282 t283 t284 t285) else (laws_FnExactTakeNode.j0 k l0 a1 t274 t276 t288 true t265 t266 t267 t268 t269 t270 t271 t279 t280 t281 t282 t283 t284 t285))) = some r := H
  have A7 := Aside0.mk A70
  clear A70
  have HC8 := Aside0.mk H
  clear H
  go_enter Try.func13, Try.ntmps13
  go_upto_region 6 with (first | ((with_reducible refine gate_callee (f := 51) rfl ?_); refine goesL_ (some 20) rfl rfl Try.func51 (by kernel_rfl) rfl #[.slice A0 l0.length c0] rfl aL ?_; (with_reducible refine (laws_toByteS.calls k _ _ l0 t262 _ ?side1 ?side2 A4.out).mono ?_); (case side1 => exact cA); (case side2 => exact HC0.out); rintro e w9 ⟨v263, rfl, ho0, hb⟩; refine ⟨_, rfl, ?_⟩; have n0_ := Aside0.mk (Kd.R_lower ho0 (below_size bA)); have n1_ := Aside0.mk (below_step bA hb); clear HB; have HO264 := n0_; have HB := n1_; clear n0_ n1_; (try clear hb); (try clear hb2); (try clear hk); (try clear hi); (try clear ho0); obtain ⟨Ao10, co10, eo10⟩ := Kd.R_slice HO264.out; subst eo10) | ((with_reducible refine gate_callee (f := 50) rfl ?_); refine goesL_ (some 22) rfl rfl Try.func50 (by kernel_rfl) rfl #[.slice Ao10 t262.length co10, .int .i64 a1] rfl aL ?_; (with_reducible refine (spec_TakeNode.calls k _ _ t262 a1 t265 t266 t267 t268 t269 t270 t271 t274 _ ?side1 ?side2 A5.out).mono ?_); (case side1 => repeat (first | exact (Kd.R_reads' HO264.out).2.2 | (with_reducible refine Kd.C_alloc ?_ _) | (with_reducible refine Kd.C_drewN ?_ _) | (with_reducible refine Kd.C_drew ?_))); (case side2 => exact (Kd.R_reads' HO264.out).2.1); rintro e w11 ⟨v272, rfl, ho0, hb⟩; refine ⟨_, rfl, ?_⟩; have n0_ := Aside0.mk (Kd.R_below (by (with_reducible repeat (first | apply Kd.R_alloc | apply Kd.R_drewN | apply Kd.R_drew)); exact HO264.out) hb); have n1_ := Aside0.mk (Kd.R_lower ho0 (below_size bA)); have n2_ := Aside0.mk (below_step bA hb); clear HO264; clear HB; have HO264 := n0_; have HO273 := n1_; have HB := n2_; clear n0_ n1_ n2_; (try clear hb); (try clear hb2); (try clear hk); (try clear hi); (try clear ho0)) | ((with_reducible refine gate_dst (N := 5) rfl ?_); refine box_event ?hg (N := 5) ?hd (cs := #[.int .i64 0, .string (⟨#[]⟩ : ByteArray), .int .i64 0, .int .i64 0, .int .i64 0, .bool false, .slice none 0 0]) (t := 33) ?hr ?_; (case hd => rfl); (case hg => rfl); (case hr => first | (go_simp; done) | (go_simp; rfl)); intro gb275 hg w12 hbox hb; have n0_ := Aside0.mk (Kd.R_below (by (with_reducible repeat (first | apply Kd.R_alloc | apply Kd.R_drewN | apply Kd.R_drew)); exact HO264.out) hb); have n1_ := Aside0.mk (Kd.R_below (by (with_reducible repeat (first | apply Kd.R_alloc | apply Kd.R_drewN | apply Kd.R_drew)); exact HO273.out) hb); have n2_ := Aside0.mk (below_step bA hb); have n3_ := Aside0.mk (hbox); have n4_ := Aside0.mk ((by rw [hg]; exact (below_size bA) : w.heap.size ≤ gb275)); have n5_ := Aside0.mk ((by rw [hg]; exact (below_size bA) : w.heap.size ≤ gb275)); clear HO264; clear HO273; clear HB; have HO264 := n0_; have HO273 := n1_; have HB := n2_; have BK275 := n3_; have GW275 := n4_; have GE275 := n5_; clear n0_ n1_ n2_ n3_ n4_ n5_; clear hb hbox hg; obtain ⟨⟨hcz13_0, hcz13_1, hcz13_2, hcz13_3, hcz13_4, hcz13_5, hcz13_6⟩, hfz13_0, hfz13_1, hfz13_2, hfz13_3, hfz13_4, hfz13_5, hfz13_6⟩ := Own.c7 BK275.out; obtain ⟨Ao14, co14, eo14⟩ := Kd.R_slice HO273.out; subst eo14) | ((with_reducible refine gate_store (t := 33) (p := 5) rfl ?_); refine store_event (t := 33) (p := 5) (v := ?vo_w15) (w1 := (((((((w12.setCell ⟨gb275, 0, none⟩ (.int .i64 t265)).setCell ⟨gb275, 1, none⟩ (.string t266)).setCell ⟨gb275, 2, none⟩ (.int .i64 t267)).setCell ⟨gb275, 3, none⟩ (.int .i64 t268)).setCell ⟨gb275, 4, none⟩ (.int .i64 t269)).setCell ⟨gb275, 5, none⟩ (.bool t270)).setCell ⟨gb275, 6, none⟩ (.slice Ao14 t271.length co14))) ?hg ?ho ?hn ?hr ?_; (case ho => rfl); (case hg => rfl); (case hn => rfl); (case hr => first | (go_simp; done) | (go_simp; rfl)); intro w15 hw; have n0_ : Aside0 (Kd.R (Kd.int .u8) 5 w15 w.heap.size (fun _ => True) (.slice Ao10 t262.length co10) t262) := ⟨(by rw [hw]; exact (by (with_reducible repeat (first | apply Kd.R_alloc | apply Kd.R_drewN | apply Kd.R_drew)); exact Kd.R_mono (Kd.R_far (p := ⟨gb275, 6, none⟩) (Kd.R_far (p := ⟨gb275, 5, none⟩) (Kd.R_far (p := ⟨gb275, 4, none⟩) (Kd.R_far (p := ⟨gb275, 3, none⟩) (Kd.R_far (p := ⟨gb275, 2, none⟩) (Kd.R_far (p := ⟨gb275, 1, none⟩) (Kd.R_far (p := ⟨gb275, 0, none⟩) (Kd.R_types HO264.out BK275.out (by decide)) (fun _ hk => hk.2) (.int .i64 t265)) (fun _ hk => hk.2) (.string t266)) (fun _ hk => hk.2) (.int .i64 t267)) (fun _ hk => hk.2) (.int .i64 t268)) (fun _ hk => hk.2) (.int .i64 t269)) (fun _ hk => hk.2) (.bool t270)) (fun _ hk => hk.2) (.slice Ao14 t271.length co14)) (fun _ hk => trivial)))⟩; have n1_ : Aside0 (Kd.R (Kd.int .i64) 3 w15 w.heap.size (fun _ => True) (.slice Ao14 t271.length co14) t271) := ⟨(by rw [hw]; exact (by (with_reducible repeat (first | apply Kd.R_alloc | apply Kd.R_drewN | apply Kd.R_drew)); exact Kd.R_mono (Kd.R_far (p := ⟨gb275, 6, none⟩) (Kd.R_far (p := ⟨gb275, 5, none⟩) (Kd.R_far (p := ⟨gb275, 4, none⟩) (Kd.R_far (p := ⟨gb275, 3, none⟩) (Kd.R_far (p := ⟨gb275, 2, none⟩) (Kd.R_far (p := ⟨gb275, 1, none⟩) (Kd.R_far (p := ⟨gb275, 0, none⟩) (Kd.R_types HO273.out BK275.out (by decide)) (fun _ hk => hk.2) (.int .i64 t265)) (fun _ hk => hk.2) (.string t266)) (fun _ hk => hk.2) (.int .i64 t267)) (fun _ hk => hk.2) (.int .i64 t268)) (fun _ hk => hk.2) (.int .i64 t269)) (fun _ hk => hk.2) (.bool t270)) (fun _ hk => hk.2) (.slice Ao14 t271.length co14)) (fun _ hk => trivial)))⟩; have n2_ : Aside0 (w15.heap[gb275]? = some (.cells #[.int .i64 t265, .string t266, .int .i64 t267, .int .i64 t268, .int .i64 t269, .bool t270, .slice Ao14 t271.length co14] 33 (0, 0))) := ⟨(by rw [hw]; exact (by exact put7 BK275.out))⟩; have n3_ : Aside0 (Below w.heap.size w w15) := ⟨(by rw [hw]; exact bA)⟩; clear hw; clear HO264; clear HO273; clear BK275; clear HB; have HO264 := n0_; have HO273 := n1_; have BK275 := n2_; have HB := n3_; clear n0_ n1_ n2_ n3_) | ((with_reducible refine gate_callee (f := 51) rfl ?_); refine goesL_ (some 26) rfl rfl Try.func51 (by kernel_rfl) rfl #[.slice A0 l0.length c0] rfl aL ?_; (with_reducible refine (laws_toByteS.calls k _ _ l0 t276 _ ?side1 ?side2 A6.out).mono ?_); (case side1 => exact cA); (case side2 => exact HC0.out); rintro e w16 ⟨v277, rfl, ho0, hb⟩; refine ⟨_, rfl, ?_⟩; have n0_ := Aside0.mk (Kd.R_elder' (by (with_reducible repeat (first | apply Kd.R_alloc | apply Kd.R_drewN | apply Kd.R_drew)); exact HO264.out) (Kd.R_base ho0) hb); have n1_ := Aside0.mk (Kd.R_below (by (with_reducible repeat (first | apply Kd.R_alloc | apply Kd.R_drewN | apply Kd.R_drew)); exact HO273.out) hb); have n2_ := Aside0.mk (Kd.R_lower (Kd.R_new' ho0 (Kd.R_lt (by (with_reducible repeat (first | apply Kd.R_alloc | apply Kd.R_drewN | apply Kd.R_drew)); exact HO264.out))) (below_size bA)); have n3_ := Aside0.mk (blk_below (g := gb275) (o := .cells #[.int .i64 t265, .string t266, .int .i64 t267, .int .i64 t268, .int .i64 t269, .bool t270, .slice Ao14 t271.length co14] 33 (0, 0)) (by (with_reducible repeat (first | refine blk_drewN ?_ _ | refine blk_drew ?_ | refine blk_alloc ?_ _)); exact BK275.out) hb); have n4_ := Aside0.mk (below_step bA hb); clear HO264; clear HO273; clear BK275; clear HB; have HO264 := n0_; have HO273 := n1_; have HO278 := n2_; have BK275 := n3_; have HB := n4_; clear n0_ n1_ n2_ n3_ n4_; (try clear hb); (try clear hb2); (try clear hk); (try clear hi); (try clear ho0); obtain ⟨Ao17, co17, eo17⟩ := Kd.R_slice HO278.out; subst eo17) | ((with_reducible refine gate_callee (f := 52) rfl ?_); refine goesL_ (some 30) rfl rfl Try.func52 (by kernel_rfl) rfl #[.slice Ao17 t276.length co17, .int .i64 a1] rfl aL ?_; (with_reducible refine (impl_TakeNode.calls k _ _ t276 a1 t279 t280 t281 t282 t283 t284 t285 t288 _ ?side1 ?side2 A7.out).mono ?_); (case side1 => repeat (first | exact (Kd.R_reads' HO278.out).2.2 | (with_reducible refine Kd.C_alloc ?_ _) | (with_reducible refine Kd.C_drewN ?_ _) | (with_reducible refine Kd.C_drew ?_))); (case side2 => exact (Kd.R_reads' HO278.out).2.1); rintro e w18 ⟨v286, rfl, ho0, hb⟩; refine ⟨_, rfl, ?_⟩; have n0_ := Aside0.mk (Kd.R_below (by (with_reducible repeat (first | apply Kd.R_alloc | apply Kd.R_drewN | apply Kd.R_drew)); exact HO264.out) hb); have n1_ := Aside0.mk (Kd.R_elder' (by (with_reducible repeat (first | apply Kd.R_alloc | apply Kd.R_drewN | apply Kd.R_drew)); exact HO273.out) (Kd.R_base ho0) hb); have n2_ := Aside0.mk (Kd.R_below (by (with_reducible repeat (first | apply Kd.R_alloc | apply Kd.R_drewN | apply Kd.R_drew)); exact HO278.out) hb); have n3_ := Aside0.mk (Kd.R_lower (Kd.R_new' ho0 (Kd.R_lt (by (with_reducible repeat (first | apply Kd.R_alloc | apply Kd.R_drewN | apply Kd.R_drew)); exact HO273.out))) (below_size bA)); have n4_ := Aside0.mk (blk_below (g := gb275) (o := .cells #[.int .i64 t265, .string t266, .int .i64 t267, .int .i64 t268, .int .i64 t269, .bool t270, .slice Ao14 t271.length co14] 33 (0, 0)) (by (with_reducible repeat (first | refine blk_drewN ?_ _ | refine blk_drew ?_ | refine blk_alloc ?_ _)); exact BK275.out) hb); have n5_ := Aside0.mk (below_step bA hb); clear HO264; clear HO273; clear HO278; clear BK275; clear HB; have HO264 := n0_; have HO273 := n1_; have HO278 := n2_; have HO287 := n3_; have BK275 := n4_; have HB := n5_; clear n0_ n1_ n2_ n3_ n4_ n5_; (try clear hb); (try clear hb2); (try clear hk); (try clear hi); (try clear ho0)) | ((with_reducible refine gate_dst (N := 8) rfl ?_); refine box_event ?hg (N := 8) ?hd (cs := #[.int .i64 0, .string (⟨#[]⟩ : ByteArray), .int .i64 0, .int .i64 0, .int .i64 0, .bool false, .slice none 0 0]) (t := 33) ?hr ?_; (case hd => rfl); (case hg => rfl); (case hr => first | (go_simp; done) | (go_simp; rfl)); intro gb289 hg w19 hbox hb; have n0_ := Aside0.mk (Kd.R_below (by (with_reducible repeat (first | apply Kd.R_alloc | apply Kd.R_drewN | apply Kd.R_drew)); exact HO264.out) hb); have n1_ := Aside0.mk (Kd.R_below (by (with_reducible repeat (first | apply Kd.R_alloc | apply Kd.R_drewN | apply Kd.R_drew)); exact HO273.out) hb); have n2_ := Aside0.mk (Kd.R_below (by (with_reducible repeat (first | apply Kd.R_alloc | apply Kd.R_drewN | apply Kd.R_drew)); exact HO278.out) hb); have n3_ := Aside0.mk (Kd.R_below (by (with_reducible repeat (first | apply Kd.R_alloc | apply Kd.R_drewN | apply Kd.R_drew)); exact HO287.out) hb); have n4_ := Aside0.mk (blk_below (g := gb275) (o := .cells #[.int .i64 t265, .string t266, .int .i64 t267, .int .i64 t268, .int .i64 t269, .bool t270, .slice Ao14 t271.length co14] 33 (0, 0)) (by (with_reducible repeat (first | refine blk_drewN ?_ _ | refine blk_drew ?_ | refine blk_alloc ?_ _)); exact BK275.out) hb); have n5_ := Aside0.mk (below_step bA hb); have n6_ := Aside0.mk (hbox); have n7_ := Aside0.mk ((by rw [hg]; exact (below_size bA) : w.heap.size ≤ gb289)); have n8_ := Aside0.mk ((by rw [hg]; exact (below_size bA) : w.heap.size ≤ gb289)); have n9_ := Aside0.mk ((by rw [hg]; exact Nat.ne_of_lt (blk_lt (g := gb275) (o := .cells #[.int .i64 t265, .string t266, .int .i64 t267, .int .i64 t268, .int .i64 t269, .bool t270, .slice Ao14 t271.length co14] 33 (0, 0)) (by (with_reducible repeat (first | refine blk_drewN ?_ _ | refine blk_drew ?_ | refine blk_alloc ?_ _)); exact BK275.out)) : gb275 ≠ gb289)); have n10_ := Aside0.mk ((by rw [hg]; exact Nat.ne_of_gt (blk_lt (g := gb275) (o := .cells #[.int .i64 t265, .string t266, .int .i64 t267, .int .i64 t268, .int .i64 t269, .bool t270, .slice Ao14 t271.length co14] 33 (0, 0)) (by (with_reducible repeat (first | refine blk_drewN ?_ _ | refine blk_drew ?_ | refine blk_alloc ?_ _)); exact BK275.out)) : gb289 ≠ gb275)); clear HO264; clear HO273; clear HO278; clear HO287; clear BK275; clear HB; have HO264 := n0_; have HO273 := n1_; have HO278 := n2_; have HO287 := n3_; have BK275 := n4_; have HB := n5_; have BK289 := n6_; have GW289 := n7_; have GE289 := n8_; have NB275_289 := n9_; have NB289_275 := n10_; clear n0_ n1_ n2_ n3_ n4_ n5_ n6_ n7_ n8_ n9_ n10_; clear hb hbox hg; have hnb20 := NB289_275.out; have hnc20 := NB275_289.out; obtain ⟨⟨hcz21_0, hcz21_1, hcz21_2, hcz21_3, hcz21_4, hcz21_5, hcz21_6⟩, hfz21_0, hfz21_1, hfz21_2, hfz21_3, hfz21_4, hfz21_5, hfz21_6⟩ := Own.c7 BK289.out; obtain ⟨Ao22, co22, eo22⟩ := Kd.R_slice HO287.out; subst eo22) | ((with_reducible refine gate_store (t := 33) (p := 8) rfl ?_); refine store_event (t := 33) (p := 8) (v := ?vo_w23) (w1 := (((((((w19.setCell ⟨gb289, 0, none⟩ (.int .i64 t279)).setCell ⟨gb289, 1, none⟩ (.string t280)).setCell ⟨gb289, 2, none⟩ (.int .i64 t281)).setCell ⟨gb289, 3, none⟩ (.int .i64 t282)).setCell ⟨gb289, 4, none⟩ (.int .i64 t283)).setCell ⟨gb289, 5, none⟩ (.bool t284)).setCell ⟨gb289, 6, none⟩ (.slice Ao22 t285.length co22))) ?hg ?ho ?hn ?hr ?_; (case ho => rfl); (case hg => rfl); (case hn => rfl); (case hr => first | (go_simp; done) | (go_simp; rfl)); intro w23 hw; have n0_ : Aside0 (Kd.R (Kd.int .u8) 5 w23 w.heap.size (fun k_ => some k_ ≠ (.slice Ao17 t276.length co17 : Value).ownBlock) (.slice Ao10 t262.length co10) t262) := ⟨(by rw [hw]; exact (by (with_reducible repeat (first | apply Kd.R_alloc | apply Kd.R_drewN | apply Kd.R_drew)); exact Kd.R_mono (Kd.R_far (p := ⟨gb289, 6, none⟩) (Kd.R_far (p := ⟨gb289, 5, none⟩) (Kd.R_far (p := ⟨gb289, 4, none⟩) (Kd.R_far (p := ⟨gb289, 3, none⟩) (Kd.R_far (p := ⟨gb289, 2, none⟩) (Kd.R_far (p := ⟨gb289, 1, none⟩) (Kd.R_far (p := ⟨gb289, 0, none⟩) (Kd.R_types HO264.out BK289.out (by decide)) (fun _ hk => hk.2) (.int .i64 t279)) (fun _ hk => hk.2) (.string t280)) (fun _ hk => hk.2) (.int .i64 t281)) (fun _ hk => hk.2) (.int .i64 t282)) (fun _ hk => hk.2) (.int .i64 t283)) (fun _ hk => hk.2) (.bool t284)) (fun _ hk => hk.2) (.slice Ao22 t285.length co22)) (fun _ hk => hk.1.2)))⟩; have n1_ : Aside0 (Kd.R (Kd.int .i64) 3 w23 w.heap.size (fun k_ => some k_ ≠ (.slice Ao22 t285.length co22 : Value).ownBlock) (.slice Ao14 t271.length co14) t271) := ⟨(by rw [hw]; exact (by (with_reducible repeat (first | apply Kd.R_alloc | apply Kd.R_drewN | apply Kd.R_drew)); exact Kd.R_mono (Kd.R_far (p := ⟨gb289, 6, none⟩) (Kd.R_far (p := ⟨gb289, 5, none⟩) (Kd.R_far (p := ⟨gb289, 4, none⟩) (Kd.R_far (p := ⟨gb289, 3, none⟩) (Kd.R_far (p := ⟨gb289, 2, none⟩) (Kd.R_far (p := ⟨gb289, 1, none⟩) (Kd.R_far (p := ⟨gb289, 0, none⟩) (Kd.R_types HO273.out BK289.out (by decide)) (fun _ hk => hk.2) (.int .i64 t279)) (fun _ hk => hk.2) (.string t280)) (fun _ hk => hk.2) (.int .i64 t281)) (fun _ hk => hk.2) (.int .i64 t282)) (fun _ hk => hk.2) (.int .i64 t283)) (fun _ hk => hk.2) (.bool t284)) (fun _ hk => hk.2) (.slice Ao22 t285.length co22)) (fun _ hk => hk.1.2)))⟩; have n2_ : Aside0 (Kd.R (Kd.int .u8) 5 w23 w.heap.size (fun k_ => some k_ ≠ (.slice Ao10 t262.length co10 : Value).ownBlock) (.slice Ao17 t276.length co17) t276) := ⟨(by rw [hw]; exact (by (with_reducible repeat (first | apply Kd.R_alloc | apply Kd.R_drewN | apply Kd.R_drew)); exact Kd.R_mono (Kd.R_far (p := ⟨gb289, 6, none⟩) (Kd.R_far (p := ⟨gb289, 5, none⟩) (Kd.R_far (p := ⟨gb289, 4, none⟩) (Kd.R_far (p := ⟨gb289, 3, none⟩) (Kd.R_far (p := ⟨gb289, 2, none⟩) (Kd.R_far (p := ⟨gb289, 1, none⟩) (Kd.R_far (p := ⟨gb289, 0, none⟩) (Kd.R_types HO278.out BK289.out (by decide)) (fun _ hk => hk.2) (.int .i64 t279)) (fun _ hk => hk.2) (.string t280)) (fun _ hk => hk.2) (.int .i64 t281)) (fun _ hk => hk.2) (.int .i64 t282)) (fun _ hk => hk.2) (.int .i64 t283)) (fun _ hk => hk.2) (.bool t284)) (fun _ hk => hk.2) (.slice Ao22 t285.length co22)) (fun _ hk => hk.1.2)))⟩; have n3_ : Aside0 (Kd.R (Kd.int .i64) 3 w23 w.heap.size (fun k_ => some k_ ≠ (.slice Ao14 t271.length co14 : Value).ownBlock) (.slice Ao22 t285.length co22) t285) := ⟨(by rw [hw]; exact (by (with_reducible repeat (first | apply Kd.R_alloc | apply Kd.R_drewN | apply Kd.R_drew)); exact Kd.R_mono (Kd.R_far (p := ⟨gb289, 6, none⟩) (Kd.R_far (p := ⟨gb289, 5, none⟩) (Kd.R_far (p := ⟨gb289, 4, none⟩) (Kd.R_far (p := ⟨gb289, 3, none⟩) (Kd.R_far (p := ⟨gb289, 2, none⟩) (Kd.R_far (p := ⟨gb289, 1, none⟩) (Kd.R_far (p := ⟨gb289, 0, none⟩) (Kd.R_types HO287.out BK289.out (by decide)) (fun _ hk => hk.2) (.int .i64 t279)) (fun _ hk => hk.2) (.string t280)) (fun _ hk => hk.2) (.int .i64 t281)) (fun _ hk => hk.2) (.int .i64 t282)) (fun _ hk => hk.2) (.int .i64 t283)) (fun _ hk => hk.2) (.bool t284)) (fun _ hk => hk.2) (.slice Ao22 t285.length co22)) (fun _ hk => hk.1.2)))⟩; have n4_ : Aside0 (w23.heap[gb275]? = some (.cells #[.int .i64 t265, .string t266, .int .i64 t267, .int .i64 t268, .int .i64 t269, .bool t270, .slice Ao14 t271.length co14] 33 (0, 0))) := ⟨(by rw [hw]; exact (by (with_reducible repeat (first | refine blk_drewN ?_ _ | refine blk_drew ?_ | refine blk_alloc ?_ _)); refine blk_far ?_ NB275_289.out _; (with_reducible repeat (first | refine blk_drewN ?_ _ | refine blk_drew ?_ | refine blk_alloc ?_ _)); refine blk_far ?_ NB275_289.out _; (with_reducible repeat (first | refine blk_drewN ?_ _ | refine blk_drew ?_ | refine blk_alloc ?_ _)); refine blk_far ?_ NB275_289.out _; (with_reducible repeat (first | refine blk_drewN ?_ _ | refine blk_drew ?_ | refine blk_alloc ?_ _)); refine blk_far ?_ NB275_289.out _; (with_reducible repeat (first | refine blk_drewN ?_ _ | refine blk_drew ?_ | refine blk_alloc ?_ _)); refine blk_far ?_ NB275_289.out _; (with_reducible repeat (first | refine blk_drewN ?_ _ | refine blk_drew ?_ | refine blk_alloc ?_ _)); refine blk_far ?_ NB275_289.out _; (with_reducible repeat (first | refine blk_drewN ?_ _ | refine blk_drew ?_ | refine blk_alloc ?_ _)); refine blk_far ?_ NB275_289.out _; (with_reducible repeat (first | refine blk_drewN ?_ _ | refine blk_drew ?_ | refine blk_alloc ?_ _)); exact BK275.out))⟩; have n5_ : Aside0 (w23.heap[gb289]? = some (.cells #[.int .i64 t279, .string t280, .int .i64 t281, .int .i64 t282, .int .i64 t283, .bool t284, .slice Ao22 t285.length co22] 33 (0, 0))) := ⟨(by rw [hw]; exact (by exact put7 BK289.out))⟩; have n6_ : Aside0 (Below w.heap.size w w23) := ⟨(by rw [hw]; exact bA)⟩; clear hw; clear HO264; clear HO273; clear HO278; clear HO287; clear BK275; clear BK289; clear HB; have HO264 := n0_; have HO273 := n1_; have HO278 := n2_; have HO287 := n3_; have BK275 := n4_; have BK289 := n5_; have HB := n6_; clear n0_ n1_ n2_ n3_ n4_ n5_ n6_))
  (try simp only [Act.put, List.setIfInBounds_toArray, List.set_cons_zero, List.set_cons_succ])
  go_cut [41] (fun v41 wc => ∃ (kq : Nat) (x41_7 : Bool), v41 = .bool x41_7 ∧ Aside0 (laws_FnExactTakeNode.j0 kq l0 a1 t274 t276 t288 x41_7 t265 t266 t267 t268 t269 t270 t271 t279 t280 t281 t282 t283 t284 t285 = some r) ∧ Aside0 (kq ≤ k) ∧ Aside0 (Kd.R (Kd.int .u8) 5 wc w.heap.size (fun _ => True) (.slice Ao17 t276.length co17) t276) ∧ Aside0 (Kd.R (Kd.int .i64) 3 wc w.heap.size (fun k_ => some k_ ≠ ((.slice Ao22 t285.length co22) : Value).ownBlock) (.slice Ao14 t271.length co14) t271) ∧ Aside0 (Kd.R (Kd.int .i64) 3 wc w.heap.size (fun k_ => some k_ ≠ ((.slice Ao14 t271.length co14) : Value).ownBlock) (.slice Ao22 t285.length co22) t285) ∧ Aside0 (wc.heap[gb275]? = some (.cells #[.int .i64 t265, .string t266, .int .i64 t267, .int .i64 t268, .int .i64 t269, .bool t270, (.slice Ao14 t271.length co14)] 33 (0, 0))) ∧ Aside0 (wc.heap[gb289]? = some (.cells #[.int .i64 t279, .string t280, .int .i64 t281, .int .i64 t282, .int .i64 t283, .bool t284, (.slice Ao22 t285.length co22)] 33 (0, 0))) ∧ Aside0 (Below w.heap.size w wc))
  case first =>
   have H := HC8.out
   clear HC8
   replace H := Option.bind_eq_some_iff.mp H
   obtain ⟨t290, A240, H⟩ := H
   replace H : (if t290 = true then (laws_FnExactTakeNode.j0 k l0 a1 t274 t276 t288 (t288 != t274) t265 t266 t267 t268 t269 t270 t271 t279 t280 t281 t282 t283 t284 t285) else (laws_FnExactTakeNode.j0 k l0 a1 t274 t276 t288 true t265 t266 t267 t268 t269 t270 t271 t279 t280 t281 t282 t283 t284 t285)) = some r := H
   have A24 := Aside0.mk A240
   clear A240
   by_cases c25 : t290 = true
   ·subst c25
    have H1 : (laws_FnExactTakeNode.j0 k l0 a1 t274 t276 t288 (t288 != t274) t265 t266 t267 t268 t269 t270 t271 t279 t280 t281 t282 t283 t284 t285) = some r := by rw [if_pos rfl] at H; exact H
    clear H
    have H := H1
    clear H1
    have H' := Aside0.mk H
    clear H
    have hnb26 := NB289_275.out
    have hnc26 := NB275_289.out
    obtain ⟨⟨hcz27_0, hcz27_1, hcz27_2, hcz27_3, hcz27_4, hcz27_5, hcz27_6⟩, hfz27_0, hfz27_1, hfz27_2, hfz27_3, hfz27_4, hfz27_5, hfz27_6⟩ := Own.c7 BK289.out
    obtain ⟨⟨hcz28_0, hcz28_1, hcz28_2, hcz28_3, hcz28_4, hcz28_5, hcz28_6⟩, hfz28_0, hfz28_1, hfz28_2, hfz28_3, hfz28_4, hfz28_5, hfz28_6⟩ := Own.c7 BK275.out
    go_wp2_with (first | ((with_reducible refine gate_callee (f := 24) rfl ?_); refine goesL_ (some 35) rfl rfl Try.func24 (by kernel_rfl) rfl #[.agg #[.int .i64 t279, .string t280, .int .i64 t281, .int .i64 t282, .int .i64 t283, .bool t284, .slice Ao22 t285.length co22], .agg #[.int .i64 t265, .string t266, .int .i64 t267, .int .i64 t268, .int .i64 t269, .bool t270, .slice Ao14 t271.length co14]] rfl aL ?_; (with_reducible refine (laws_eqNode.calls k t279 t280 t281 t282 t283 t284 _ _ t285 t265 t266 t267 t268 t269 t270 _ _ t271 true _ ?side1 ?side2 ?side3 ?side4 A24.out).mono ?_); (case side1 => repeat (first | exact (Kd.R_reads' HO287.out).2.2 | (with_reducible refine Kd.C_alloc ?_ _) | (with_reducible refine Kd.C_drewN ?_ _) | (with_reducible refine Kd.C_drew ?_))); (case side2 => exact (Kd.R_reads' HO287.out).2.1); (case side3 => repeat (first | exact (Kd.R_reads' HO273.out).2.2 | (with_reducible refine Kd.C_alloc ?_ _) | (with_reducible refine Kd.C_drewN ?_ _) | (with_reducible refine Kd.C_drew ?_))); (case side4 => exact (Kd.R_reads' HO273.out).2.1); rintro e w29 ⟨rfl, hb⟩; refine ⟨_, rfl, ?_⟩; have n0_ := Aside0.mk (Kd.R_below (by (with_reducible repeat (first | apply Kd.R_alloc | apply Kd.R_drewN | apply Kd.R_drew)); exact HO264.out) hb); have n1_ := Aside0.mk (Kd.R_below (by (with_reducible repeat (first | apply Kd.R_alloc | apply Kd.R_drewN | apply Kd.R_drew)); exact HO273.out) hb); have n2_ := Aside0.mk (Kd.R_below (by (with_reducible repeat (first | apply Kd.R_alloc | apply Kd.R_drewN | apply Kd.R_drew)); exact HO278.out) hb); have n3_ := Aside0.mk (Kd.R_below (by (with_reducible repeat (first | apply Kd.R_alloc | apply Kd.R_drewN | apply Kd.R_drew)); exact HO287.out) hb); have n4_ := Aside0.mk (blk_below (g := gb275) (o := .cells #[.int .i64 t265, .string t266, .int .i64 t267, .int .i64 t268, .int .i64 t269, .bool t270, .slice Ao14 t271.length co14] 33 (0, 0)) (by (with_reducible repeat (first | refine blk_drewN ?_ _ | refine blk_drew ?_ | refine blk_alloc ?_ _)); exact BK275.out) hb); have n5_ := Aside0.mk (blk_below (g := gb289) (o := .cells #[.int .i64 t279, .string t280, .int .i64 t281, .int .i64 t282, .int .i64 t283, .bool t284, .slice Ao22 t285.length co22] 33 (0, 0)) (by (with_reducible repeat (first | refine blk_drewN ?_ _ | refine blk_drew ?_ | refine blk_alloc ?_ _)); exact BK289.out) hb); have n6_ := Aside0.mk (below_step bA hb); clear HO264; clear HO273; clear HO278; clear HO287; clear BK275; clear BK289; clear HB; have HO264 := n0_; have HO273 := n1_; have HO278 := n2_; have HO287 := n3_; have BK275 := n4_; have BK289 := n5_; have HB := n6_; clear n0_ n1_ n2_ n3_ n4_ n5_ n6_; (try clear hb); (try clear hb2); (try clear hk); (try clear hi)))
    go_meet
    case rel => exact ⟨_, ((t288 != t274)), rF, H', ⟨by first | omega | exact Nat.le_refl _⟩, ⟨by (with_reducible repeat (first | apply Kd.R_alloc | apply Kd.R_drewN | apply Kd.R_drew)); exact Kd.R_mono HO278.out (fun _ hk => trivial)⟩, ⟨by (with_reducible repeat (first | apply Kd.R_alloc | apply Kd.R_drewN | apply Kd.R_drew)); exact HO273.out⟩, ⟨by (with_reducible repeat (first | apply Kd.R_alloc | apply Kd.R_drewN | apply Kd.R_drew)); exact HO287.out⟩, ⟨by (with_reducible repeat (first | refine blk_drewN ?_ _ | refine blk_drew ?_ | refine blk_alloc ?_ _)); exact BK275.out⟩, ⟨by (with_reducible repeat (first | refine blk_drewN ?_ _ | refine blk_drew ?_ | refine blk_alloc ?_ _)); exact BK289.out⟩, ⟨bA⟩⟩
   ·replace c25 := Bool.eq_false_iff.mpr c25
    subst c25
    have H1 : (laws_FnExactTakeNode.j0 k l0 a1 t274 t276 t288 true t265 t266 t267 t268 t269 t270 t271 t279 t280 t281 t282 t283 t284 t285) = some r := by rw [if_neg (show ¬ (false = true) by decide)] at H; exact H
    clear H
    have H := H1
    clear H1
    have H' := Aside0.mk H
    clear H
    have hnb30 := NB289_275.out
    have hnc30 := NB275_289.out
    obtain ⟨⟨hcz31_0, hcz31_1, hcz31_2, hcz31_3, hcz31_4, hcz31_5, hcz31_6⟩, hfz31_0, hfz31_1, hfz31_2, hfz31_3, hfz31_4, hfz31_5, hfz31_6⟩ := Own.c7 BK289.out
    obtain ⟨⟨hcz32_0, hcz32_1, hcz32_2, hcz32_3, hcz32_4, hcz32_5, hcz32_6⟩, hfz32_0, hfz32_1, hfz32_2, hfz32_3, hfz32_4, hfz32_5, hfz32_6⟩ := Own.c7 BK275.out
    go_wp2_with (first | ((with_reducible refine gate_callee (f := 24) rfl ?_); refine goesL_ (some 35) rfl rfl Try.func24 (by kernel_rfl) rfl #[.agg #[.int .i64 t279, .string t280, .int .i64 t281, .int .i64 t282, .int .i64 t283, .bool t284, .slice Ao22 t285.length co22], .agg #[.int .i64 t265, .string t266, .int .i64 t267, .int .i64 t268, .int .i64 t269, .bool t270, .slice Ao14 t271.length co14]] rfl aL ?_; (with_reducible refine (laws_eqNode.calls k t279 t280 t281 t282 t283 t284 _ _ t285 t265 t266 t267 t268 t269 t270 _ _ t271 false _ ?side1 ?side2 ?side3 ?side4 A24.out).mono ?_); (case side1 => repeat (first | exact (Kd.R_reads' HO287.out).2.2 | (with_reducible refine Kd.C_alloc ?_ _) | (with_reducible refine Kd.C_drewN ?_ _) | (with_reducible refine Kd.C_drew ?_))); (case side2 => exact (Kd.R_reads' HO287.out).2.1); (case side3 => repeat (first | exact (Kd.R_reads' HO273.out).2.2 | (with_reducible refine Kd.C_alloc ?_ _) | (with_reducible refine Kd.C_drewN ?_ _) | (with_reducible refine Kd.C_drew ?_))); (case side4 => exact (Kd.R_reads' HO273.out).2.1); rintro e w33 ⟨rfl, hb⟩; refine ⟨_, rfl, ?_⟩; have n0_ := Aside0.mk (Kd.R_below (by (with_reducible repeat (first | apply Kd.R_alloc | apply Kd.R_drewN | apply Kd.R_drew)); exact HO264.out) hb); have n1_ := Aside0.mk (Kd.R_below (by (with_reducible repeat (first | apply Kd.R_alloc | apply Kd.R_drewN | apply Kd.R_drew)); exact HO273.out) hb); have n2_ := Aside0.mk (Kd.R_below (by (with_reducible repeat (first | apply Kd.R_alloc | apply Kd.R_drewN | apply Kd.R_drew)); exact HO278.out) hb); have n3_ := Aside0.mk (Kd.R_below (by (with_reducible repeat (first | apply Kd.R_alloc | apply Kd.R_drewN | apply Kd.R_drew)); exact HO287.out) hb); have n4_ := Aside0.mk (blk_below (g := gb275) (o := .cells #[.int .i64 t265, .string t266, .int .i64 t267, .int .i64 t268, .int .i64 t269, .bool t270, .slice Ao14 t271.length co14] 33 (0, 0)) (by (with_reducible repeat (first | refine blk_drewN ?_ _ | refine blk_drew ?_ | refine blk_alloc ?_ _)); exact BK275.out) hb); have n5_ := Aside0.mk (blk_below (g := gb289) (o := .cells #[.int .i64 t279, .string t280, .int .i64 t281, .int .i64 t282, .int .i64 t283, .bool t284, .slice Ao22 t285.length co22] 33 (0, 0)) (by (with_reducible repeat (first | refine blk_drewN ?_ _ | refine blk_drew ?_ | refine blk_alloc ?_ _)); exact BK289.out) hb); have n6_ := Aside0.mk (below_step bA hb); clear HO264; clear HO273; clear HO278; clear HO287; clear BK275; clear BK289; clear HB; have HO264 := n0_; have HO273 := n1_; have HO278 := n2_; have HO287 := n3_; have BK275 := n4_; have BK289 := n5_; have HB := n6_; clear n0_ n1_ n2_ n3_ n4_ n5_ n6_; (try clear hb); (try clear hb2); (try clear hk); (try clear hi)))
    go_meet
    case rel => exact ⟨_, (true), rF, H', ⟨by first | omega | exact Nat.le_refl _⟩, ⟨by (with_reducible repeat (first | apply Kd.R_alloc | apply Kd.R_drewN | apply Kd.R_drew)); exact Kd.R_mono HO278.out (fun _ hk => trivial)⟩, ⟨by (with_reducible repeat (first | apply Kd.R_alloc | apply Kd.R_drewN | apply Kd.R_drew)); exact HO273.out⟩, ⟨by (with_reducible repeat (first | apply Kd.R_alloc | apply Kd.R_drewN | apply Kd.R_drew)); exact HO287.out⟩, ⟨by (with_reducible repeat (first | refine blk_drewN ?_ _ | refine blk_drew ?_ | refine blk_alloc ?_ _)); exact BK275.out⟩, ⟨by (with_reducible repeat (first | refine blk_drewN ?_ _ | refine blk_drew ?_ | refine blk_alloc ?_ _)); exact BK289.out⟩, ⟨bA⟩⟩
  case rest =>
   clear HC8
   try clear c1
   try clear c2
   try clear p2
   try clear c3
   try clear c3b0
   try clear c3b1
   try clear c5
   try clear c13
   try clear c20
   try clear c24
   try clear c25
   try clear c26
   try clear c30
   try clear hcz13_0 hcz13_1 hcz13_2 hcz13_3 hcz13_4 hcz13_5 hcz13_6
   try clear hcz21_0 hcz21_1 hcz21_2 hcz21_3 hcz21_4 hcz21_5 hcz21_6
   try clear hcz27_0 hcz27_1 hcz27_2 hcz27_3 hcz27_4 hcz27_5 hcz27_6
   try clear hcz28_0 hcz28_1 hcz28_2 hcz28_3 hcz28_4 hcz28_5 hcz28_6
   try clear hcz31_0 hcz31_1 hcz31_2 hcz31_3 hcz31_4 hcz31_5 hcz31_6
   try clear hcz32_0 hcz32_1 hcz32_2 hcz32_3 hcz32_4 hcz32_5 hcz32_6
   try clear hfz13_0 hfz13_1 hfz13_2 hfz13_3 hfz13_4 hfz13_5 hfz13_6
   try clear hfz21_0 hfz21_1 hfz21_2 hfz21_3 hfz21_4 hfz21_5 hfz21_6
   try clear hfz27_0 hfz27_1 hfz27_2 hfz27_3 hfz27_4 hfz27_5 hfz27_6
   try clear hfz28_0 hfz28_1 hfz28_2 hfz28_3 hfz28_4 hfz28_5 hfz28_6
   try clear hfz31_0 hfz31_1 hfz31_2 hfz31_3 hfz31_4 hfz31_5 hfz31_6
   try clear hfz32_0 hfz32_1 hfz32_2 hfz32_3 hfz32_4 hfz32_5 hfz32_6
   obtain ⟨kq, x41_7, rfl, HA, HJ7, HO_7, HO_276006, HO_290006, BK275, BK289, HB⟩ := hcut
   cases kq with
   | zero => exact absurd HA.out (by simp [laws_FnExactTakeNode.j0])
   | succ kj7 =>
    have H := HA.out
    clear HA
    simp only [laws_FnExactTakeNode.j0] at H
    by_cases c34 : x41_7 = true
    ·subst c34
     have H1 : (some false) = some r := by rw [if_pos rfl] at H; exact H
     clear H
     have H := H1
     clear H1
     exact absurd ((Option.some.inj H).trans hr_) (by decide)
    ·replace c34 := Bool.eq_false_iff.mpr c34
     subst c34
     have H1 : ((laws_toByteS.f kj7 l0).bind fun t291 => ((laws_eqByteS.f kj7 t276 t291).bind fun t294 => (if t294 = true then ((laws_markByteS.f kj7 t276 1).bind fun bt295 => (if bt295.1 < 0 then (laws_FnExactTakeNode.j1 kj7 l0 a1 t274 true t265 t266 t267 t268 t269 t270 t271 t279 t280 t281 t282 t283 t284 t285) else ((laws_eqNode.f kj7 t279 t280 t281 t282 t283 t284 t285 t265 t266 t267 t268 t269 t270 t271).bind fun t297 => (if t297 = true then (laws_FnExactTakeNode.j1 kj7 l0 a1 t274 (t288 != t274) t265 t266 t267 t268 t269 t270 t271 t279 t280 t281 t282 t283 t284 t285) else (laws_FnExactTakeNode.j1 kj7 l0 a1 t274 true t265 t266 t267 t268 t269 t270 t271 t279 t280 t281 t282 t283 t284 t285))))) else (some false)))) = some r := by rw [if_neg (show ¬ (false = true) by decide)] at H; exact H
     clear H
     have H := H1
     clear H1
     replace H := Option.bind_eq_some_iff.mp H
     obtain ⟨t291, A350, H⟩ := H
     replace H : ((laws_eqByteS.f kj7 t276 t291).bind fun t294 => (if t294 = true then ((laws_markByteS.f kj7 t276 1).bind fun bt295 => (if bt295.1 < 0 then (laws_FnExactTakeNode.j1 kj7 l0 a1 t274 true t265 t266 t267 t268 t269 t270 t271 t279 t280 t281 t282 t283 t284 t285) else ((laws_eqNode.f kj7 t279 t280 t281 t282 t283 t284 t285 t265 t266 t267 t268 t269 t270 t271).bind fun t297 => (if t297 = true then (laws_FnExactTakeNode.j1 kj7 l0 a1 t274 (t288 != t274) t265 t266 t267 t268 t269 t270 t271 t279 t280 t281 t282 t283 t284 t285) else (laws_FnExactTakeNode.j1 kj7 l0 a1 t274 true t265 t266 t267 t268 t269 t270 t271 t279 t280 t281 t282 t283 t284 t285))))) else (some false))) = some r := H
     have A35 := Aside0.mk A350
     clear A350
     replace H := Option.bind_eq_some_iff.mp H
     obtain ⟨t294, A360, H⟩ := H
     replace H : (if t294 = true then ((laws_markByteS.f kj7 t276 1).bind fun bt295 => (if bt295.1 < 0 then (laws_FnExactTakeNode.j1 kj7 l0 a1 t274 true t265 t266 t267 t268 t269 t270 t271 t279 t280 t281 t282 t283 t284 t285) else ((laws_eqNode.f kj7 t279 t280 t281 t282 t283 t284 t285 t265 t266 t267 t268 t269 t270 t271).bind fun t297 => (if t297 = true then (laws_FnExactTakeNode.j1 kj7 l0 a1 t274 (t288 != t274) t265 t266 t267 t268 t269 t270 t271 t279 t280 t281 t282 t283 t284 t285) else (laws_FnExactTakeNode.j1 kj7 l0 a1 t274 true t265 t266 t267 t268 t269 t270 t271 t279 t280 t281 t282 t283 t284 t285))))) else (some false)) = some r := H
     have A36 := Aside0.mk A360
     clear A360
     by_cases c37 : t294 = true
     ·subst c37
      have H1 : ((laws_markByteS.f kj7 t276 1).bind fun bt295 => (if bt295.1 < 0 then (laws_FnExactTakeNode.j1 kj7 l0 a1 t274 true t265 t266 t267 t268 t269 t270 t271 t279 t280 t281 t282 t283 t284 t285) else ((laws_eqNode.f kj7 t279 t280 t281 t282 t283 t284 t285 t265 t266 t267 t268 t269 t270 t271).bind fun t297 => (if t297 = true then (laws_FnExactTakeNode.j1 kj7 l0 a1 t274 (t288 != t274) t265 t266 t267 t268 t269 t270 t271 t279 t280 t281 t282 t283 t284 t285) else (laws_FnExactTakeNode.j1 kj7 l0 a1 t274 true t265 t266 t267 t268 t269 t270 t271 t279 t280 t281 t282 t283 t284 t285))))) = some r := by rw [if_pos rfl] at H; exact H
      clear H
      have H := H1
      clear H1
      replace H := Option.bind_eq_some_iff.mp H
      obtain ⟨⟨t295, t296⟩, A380, H⟩ := H
      replace H : (if t295 < 0 then (laws_FnExactTakeNode.j1 kj7 l0 a1 t274 true t265 t266 t267 t268 t269 t270 t271 t279 t280 t281 t282 t283 t284 t285) else ((laws_eqNode.f kj7 t279 t280 t281 t282 t283 t284 t285 t265 t266 t267 t268 t269 t270 t271).bind fun t297 => (if t297 = true then (laws_FnExactTakeNode.j1 kj7 l0 a1 t274 (t288 != t274) t265 t266 t267 t268 t269 t270 t271 t279 t280 t281 t282 t283 t284 t285) else (laws_FnExactTakeNode.j1 kj7 l0 a1 t274 true t265 t266 t267 t268 t269 t270 t271 t279 t280 t281 t282 t283 t284 t285)))) = some r := H
      have A38 := Aside0.mk A380
      clear A380
      have HC39 := Aside0.mk H
      clear H
      go_upto_region 12 with (first | ((with_reducible refine gate_callee (f := 51) rfl ?_); refine goesL_ (some 44) rfl rfl Try.func51 (by kernel_rfl) rfl #[.slice A0 l0.length c0] rfl aL ?_; (with_reducible refine (laws_toByteS.calls kj7 _ _ l0 t291 _ ?side1 ?side2 A35.out).mono ?_); (case side1 => exact cA); (case side2 => exact HC0.out); rintro e w40 ⟨v292, rfl, ho0, hb⟩; refine ⟨_, rfl, ?_⟩; have n0_ := Aside0.mk (Kd.R_elder' (by (with_reducible repeat (first | apply Kd.R_alloc | apply Kd.R_drewN | apply Kd.R_drew)); exact HO_7.out) (Kd.R_base ho0) hb); have n1_ := Aside0.mk (Kd.R_below (by (with_reducible repeat (first | apply Kd.R_alloc | apply Kd.R_drewN | apply Kd.R_drew)); exact HO_276006.out) hb); have n2_ := Aside0.mk (Kd.R_below (by (with_reducible repeat (first | apply Kd.R_alloc | apply Kd.R_drewN | apply Kd.R_drew)); exact HO_290006.out) hb); have n3_ := Aside0.mk (Kd.R_lower (Kd.R_new' ho0 (Kd.R_lt (by (with_reducible repeat (first | apply Kd.R_alloc | apply Kd.R_drewN | apply Kd.R_drew)); exact HO_7.out))) (below_size bA)); have n4_ := Aside0.mk (blk_below (g := gb275) (o := .cells #[.int .i64 t265, .string t266, .int .i64 t267, .int .i64 t268, .int .i64 t269, .bool t270, .slice Ao14 t271.length co14] 33 (0, 0)) (by (with_reducible repeat (first | refine blk_drewN ?_ _ | refine blk_drew ?_ | refine blk_alloc ?_ _)); exact BK275.out) hb); have n5_ := Aside0.mk (blk_below (g := gb289) (o := .cells #[.int .i64 t279, .string t280, .int .i64 t281, .int .i64 t282, .int .i64 t283, .bool t284, .slice Ao22 t285.length co22] 33 (0, 0)) (by (with_reducible repeat (first | refine blk_drewN ?_ _ | refine blk_drew ?_ | refine blk_alloc ?_ _)); exact BK289.out) hb); have n6_ := Aside0.mk (below_step bA hb); clear HO_7; clear HO_276006; clear HO_290006; clear BK275; clear BK289; clear HB; have HO_7 := n0_; have HO_276006 := n1_; have HO_290006 := n2_; have HO293 := n3_; have BK275 := n4_; have BK289 := n5_; have HB := n6_; clear n0_ n1_ n2_ n3_ n4_ n5_ n6_; (try clear hb); (try clear hb2); (try clear hk); (try clear hi); (try clear ho0); obtain ⟨Ao41, co41, eo41⟩ := Kd.R_slice HO293.out; subst eo41) | ((with_reducible refine gate_callee (f := 46) rfl ?_); refine goesL_ (some 45) rfl rfl Try.func46 (by kernel_rfl) rfl #[.slice Ao17 t276.length co17, .slice Ao41 t291.length co41] rfl aL ?_; (with_reducible refine (laws_eqByteS.calls kj7 _ _ t276 _ _ t291 true _ ?side1 ?side2 ?side3 ?side4 A36.out).mono ?_); (case side1 => repeat (first | exact (Kd.R_reads' HO_7.out).2.2 | (with_reducible refine Kd.C_alloc ?_ _) | (with_reducible refine Kd.C_drewN ?_ _) | (with_reducible refine Kd.C_drew ?_))); (case side2 => exact (Kd.R_reads' HO_7.out).2.1); (case side3 => repeat (first | exact (Kd.R_reads' HO293.out).2.2 | (with_reducible refine Kd.C_alloc ?_ _) | (with_reducible refine Kd.C_drewN ?_ _) | (with_reducible refine Kd.C_drew ?_))); (case side4 => exact (Kd.R_reads' HO293.out).2.1); rintro e w' ⟨rfl, ⟨nd, rfl⟩⟩; refine ⟨_, rfl, ?_⟩) | ((with_reducible refine gate_callee (f := 48) rfl ?_); refine goesL_ (some 49) rfl rfl Try.func48 (by kernel_rfl) rfl #[.slice Ao17 t276.length co17, .int .i64 1] rfl aL ?_; (with_reducible refine (laws_markByteS.calls kj7 (fun k_ => some k_ = (.slice Ao17 t276.length co17 : Value).ownBlock) (.slice Ao17 t276.length co17) t276 1 t295 t296 w _ ?side1 ?side2 A38.out).mono ?_); (case side1 => repeat (first | (with_reducible first | exact HB.out | apply below_alloc | apply pw_below_drewN | apply below_drew1 | refine below_set ?_ GE275.out | refine below_set ?_ GE289.out) | exact HB.out)); (case side2 => exact Kd.R_tight rfl HO_7.out); rintro e w42 ⟨rfl, hy0, hb, hkp⟩; refine ⟨_, rfl, ?_⟩; have n0_ := Aside0.mk (Kd.R_reok rfl hy0 (fun k_ e_ => HO_7.out.1 k_ e_)); have n1_ := Aside0.mk (Kd.R_mono (ok' := fun k_ => some k_ ≠ (.slice Ao22 t285.length co22 : Value).ownBlock) (Kd.R_keptB ((Kd.R_apart' HO_276006.out (Kd.R_typed HO_7.out) (by decide))) hkp (fun k_ hk_ hs_ => (hk_.2) hs_)) (fun k_ hk_ => hk_.1.1)); have n2_ := Aside0.mk (Kd.R_mono (ok' := fun k_ => some k_ ≠ (.slice Ao14 t271.length co14 : Value).ownBlock) (Kd.R_keptB ((Kd.R_apart' HO_290006.out (Kd.R_typed HO_7.out) (by decide))) hkp (fun k_ hk_ hs_ => (hk_.2) hs_)) (fun k_ hk_ => hk_.1.1)); have n3_ := Aside0.mk (blk_kept (by (with_reducible repeat (first | refine blk_drewN ?_ _ | refine blk_drew ?_ | refine blk_alloc ?_ _)); exact BK275.out) hkp (fun hs_ => (fun e_ => (Kd.R_ne HO_7.out BK275.out (by decide)) e_) hs_)); have n4_ := Aside0.mk (blk_kept (by (with_reducible repeat (first | refine blk_drewN ?_ _ | refine blk_drew ?_ | refine blk_alloc ?_ _)); exact BK289.out) hkp (fun hs_ => (fun e_ => (Kd.R_ne HO_7.out BK289.out (by decide)) e_) hs_)); have n5_ := Aside0.mk (Kd.R_mono (ok' := fun k_ => some k_ ≠ (.slice Ao17 t276.length co17 : Value).ownBlock) (Kd.R_keptB (HO293.out) hkp (fun k_ hk_ hs_ => (hk_.2) hs_)) (fun k_ hk_ => hk_.1.2)); have n6_ := Aside0.mk (hb); clear HO_7; clear HO_276006; clear HO_290006; clear BK275; clear BK289; clear HO293; clear HB; have HO_7 := n0_; have HO_276006 := n1_; have HO_290006 := n2_; have BK275 := n3_; have BK289 := n4_; have HO293 := n5_; have HB := n6_; clear n0_ n1_ n2_ n3_ n4_ n5_ n6_; (try clear hb); (try clear hkp); (try clear hy0)))
      (try simp only [Act.put, List.setIfInBounds_toArray, List.set_cons_zero, List.set_cons_succ])
      go_cut [62] (fun v62 wc => ∃ (kq : Nat) (x62_38 : Bool), v62 = .bool x62_38 ∧ Aside0 (laws_FnExactTakeNode.j1 kq l0 a1 t274 x62_38 t265 t266 t267 t268 t269 t270 t271 t279 t280 t281 t282 t283 t284 t285 = some r) ∧ Aside0 (kq ≤ kj7) ∧ Aside0 (Kd.R (Kd.int .i64) 3 wc w.heap.size (fun k_ => some k_ ≠ ((.slice Ao22 t285.length co22) : Value).ownBlock) (.slice Ao14 t271.length co14) t271) ∧ Aside0 (Kd.R (Kd.int .i64) 3 wc w.heap.size (fun k_ => some k_ ≠ ((.slice Ao14 t271.length co14) : Value).ownBlock) (.slice Ao22 t285.length co22) t285) ∧ Aside0 (wc.heap[gb275]? = some (.cells #[.int .i64 t265, .string t266, .int .i64 t267, .int .i64 t268, .int .i64 t269, .bool t270, (.slice Ao14 t271.length co14)] 33 (0, 0))) ∧ Aside0 (wc.heap[gb289]? = some (.cells #[.int .i64 t279, .string t280, .int .i64 t281, .int .i64 t282, .int .i64 t283, .bool t284, (.slice Ao22 t285.length co22)] 33 (0, 0))) ∧ Aside0 (Below w.heap.size w wc))
      case first =>
       have H := HC39.out
       clear HC39
       by_cases c43 : t295 < 0
       ·rw [if_pos c43] at H
        have c43b0 : decide (t295 < 0) = true := decide_eq_true c43
        clear c43
        (first | rw [c43b0] | (simp only [i64_w, i32_w]; rw [c43b0]) | skip)
        have H' := Aside0.mk H
        clear H
        go_wp2
        go_meet
        case rel => exact ⟨_, (true), rF, H', ⟨by have := HJ7.out; first | omega | exact Nat.le_refl _⟩, ⟨by (with_reducible repeat (first | apply Kd.R_alloc | apply Kd.R_drewN | apply Kd.R_drew)); exact HO_276006.out⟩, ⟨by (with_reducible repeat (first | apply Kd.R_alloc | apply Kd.R_drewN | apply Kd.R_drew)); exact HO_290006.out⟩, ⟨by (with_reducible repeat (first | refine blk_drewN ?_ _ | refine blk_drew ?_ | refine blk_alloc ?_ _)); exact BK275.out⟩, ⟨by (with_reducible repeat (first | refine blk_drewN ?_ _ | refine blk_drew ?_ | refine blk_alloc ?_ _)); exact BK289.out⟩, ⟨bA⟩⟩
       ·rw [if_neg c43] at H
        have c43b0 : decide (t295 < 0) = false := decide_eq_false c43
        clear c43
        (first | rw [c43b0] | (simp only [i64_w, i32_w]; rw [c43b0]) | skip)
        replace H := Option.bind_eq_some_iff.mp H
        obtain ⟨t297, A440, H⟩ := H
        replace H : (if t297 = true then (laws_FnExactTakeNode.j1 kj7 l0 a1 t274 (t288 != t274) t265 t266 t267 t268 t269 t270 t271 t279 t280 t281 t282 t283 t284 t285) else (laws_FnExactTakeNode.j1 kj7 l0 a1 t274 true t265 t266 t267 t268 t269 t270 t271 t279 t280 t281 t282 t283 t284 t285)) = some r := H
        have A44 := Aside0.mk A440
        clear A440
        by_cases c45 : t297 = true
        ·subst c45
         have H1 : (laws_FnExactTakeNode.j1 kj7 l0 a1 t274 (t288 != t274) t265 t266 t267 t268 t269 t270 t271 t279 t280 t281 t282 t283 t284 t285) = some r := by rw [if_pos rfl] at H; exact H
         clear H
         have H := H1
         clear H1
         have H' := Aside0.mk H
         clear H
         have hnb46 := NB289_275.out
         have hnc46 := NB275_289.out
         obtain ⟨⟨hcz47_0, hcz47_1, hcz47_2, hcz47_3, hcz47_4, hcz47_5, hcz47_6⟩, hfz47_0, hfz47_1, hfz47_2, hfz47_3, hfz47_4, hfz47_5, hfz47_6⟩ := Own.c7 BK289.out
         obtain ⟨⟨hcz48_0, hcz48_1, hcz48_2, hcz48_3, hcz48_4, hcz48_5, hcz48_6⟩, hfz48_0, hfz48_1, hfz48_2, hfz48_3, hfz48_4, hfz48_5, hfz48_6⟩ := Own.c7 BK275.out
         go_wp2_with (first | (go_at_call 24; (with_reducible refine (laws_eqNode.calls kj7 t279 t280 t281 t282 t283 t284 _ _ t285 t265 t266 t267 t268 t269 t270 _ _ t271 true _ ?side1 ?side2 ?side3 ?side4 A44.out).mono ?_); (case side1 => repeat (first | exact (Kd.R_reads' HO_290006.out).2.2 | (with_reducible refine Kd.C_alloc ?_ _) | (with_reducible refine Kd.C_drewN ?_ _) | (with_reducible refine Kd.C_drew ?_))); (case side2 => exact (Kd.R_reads' HO_290006.out).2.1); (case side3 => repeat (first | exact (Kd.R_reads' HO_276006.out).2.2 | (with_reducible refine Kd.C_alloc ?_ _) | (with_reducible refine Kd.C_drewN ?_ _) | (with_reducible refine Kd.C_drew ?_))); (case side4 => exact (Kd.R_reads' HO_276006.out).2.1); rintro e w49 ⟨rfl, hb⟩; have n0_ := Aside0.mk (Kd.R_below (by (with_reducible repeat (first | apply Kd.R_alloc | apply Kd.R_drewN | apply Kd.R_drew)); exact HO_7.out) hb); have n1_ := Aside0.mk (Kd.R_below (by (with_reducible repeat (first | apply Kd.R_alloc | apply Kd.R_drewN | apply Kd.R_drew)); exact HO_276006.out) hb); have n2_ := Aside0.mk (Kd.R_below (by (with_reducible repeat (first | apply Kd.R_alloc | apply Kd.R_drewN | apply Kd.R_drew)); exact HO_290006.out) hb); have n3_ := Aside0.mk (Kd.R_below (by (with_reducible repeat (first | apply Kd.R_alloc | apply Kd.R_drewN | apply Kd.R_drew)); exact HO293.out) hb); have n4_ := Aside0.mk (blk_below (g := gb275) (o := .cells #[.int .i64 t265, .string t266, .int .i64 t267, .int .i64 t268, .int .i64 t269, .bool t270, .slice Ao14 t271.length co14] 33 (0, 0)) (by (with_reducible repeat (first | refine blk_drewN ?_ _ | refine blk_drew ?_ | refine blk_alloc ?_ _)); exact BK275.out) hb); have n5_ := Aside0.mk (blk_below (g := gb289) (o := .cells #[.int .i64 t279, .string t280, .int .i64 t281, .int .i64 t282, .int .i64 t283, .bool t284, .slice Ao22 t285.length co22] 33 (0, 0)) (by (with_reducible repeat (first | refine blk_drewN ?_ _ | refine blk_drew ?_ | refine blk_alloc ?_ _)); exact BK289.out) hb); have n6_ := Aside0.mk (below_step bA hb); clear HO_7; clear HO_276006; clear HO_290006; clear HO293; clear BK275; clear BK289; clear HB; have HO_7 := n0_; have HO_276006 := n1_; have HO_290006 := n2_; have HO293 := n3_; have BK275 := n4_; have BK289 := n5_; have HB := n6_; clear n0_ n1_ n2_ n3_ n4_ n5_ n6_; (try clear hb); (try clear hb2); (try clear hk); (try clear hi)))
         go_meet
         case rel => exact ⟨_, ((t288 != t274)), rF, H', ⟨by have := HJ7.out; first | omega | exact Nat.le_refl _⟩, ⟨by (with_reducible repeat (first | apply Kd.R_alloc | apply Kd.R_drewN | apply Kd.R_drew)); exact HO_276006.out⟩, ⟨by (with_reducible repeat (first | apply Kd.R_alloc | apply Kd.R_drewN | apply Kd.R_drew)); exact HO_290006.out⟩, ⟨by (with_reducible repeat (first | refine blk_drewN ?_ _ | refine blk_drew ?_ | refine blk_alloc ?_ _)); exact BK275.out⟩, ⟨by (with_reducible repeat (first | refine blk_drewN ?_ _ | refine blk_drew ?_ | refine blk_alloc ?_ _)); exact BK289.out⟩, ⟨bA⟩⟩
        ·replace c45 := Bool.eq_false_iff.mpr c45
         subst c45
         have H1 : (laws_FnExactTakeNode.j1 kj7 l0 a1 t274 true t265 t266 t267 t268 t269 t270 t271 t279 t280 t281 t282 t283 t284 t285) = some r := by rw [if_neg (show ¬ (false = true) by decide)] at H; exact H
         clear H
         have H := H1
         clear H1
         have H' := Aside0.mk H
         clear H
         have hnb50 := NB289_275.out
         have hnc50 := NB275_289.out
         obtain ⟨⟨hcz51_0, hcz51_1, hcz51_2, hcz51_3, hcz51_4, hcz51_5, hcz51_6⟩, hfz51_0, hfz51_1, hfz51_2, hfz51_3, hfz51_4, hfz51_5, hfz51_6⟩ := Own.c7 BK289.out
         obtain ⟨⟨hcz52_0, hcz52_1, hcz52_2, hcz52_3, hcz52_4, hcz52_5, hcz52_6⟩, hfz52_0, hfz52_1, hfz52_2, hfz52_3, hfz52_4, hfz52_5, hfz52_6⟩ := Own.c7 BK275.out
         go_wp2_with (first | (go_at_call 24; (with_reducible refine (laws_eqNode.calls kj7 t279 t280 t281 t282 t283 t284 _ _ t285 t265 t266 t267 t268 t269 t270 _ _ t271 false _ ?side1 ?side2 ?side3 ?side4 A44.out).mono ?_); (case side1 => repeat (first | exact (Kd.R_reads' HO_290006.out).2.2 | (with_reducible refine Kd.C_alloc ?_ _) | (with_reducible refine Kd.C_drewN ?_ _) | (with_reducible refine Kd.C_drew ?_))); (case side2 => exact (Kd.R_reads' HO_290006.out).2.1); (case side3 => repeat (first | exact (Kd.R_reads' HO_276006.out).2.2 | (with_reducible refine Kd.C_alloc ?_ _) | (with_reducible refine Kd.C_drewN ?_ _) | (with_reducible refine Kd.C_drew ?_))); (case side4 => exact (Kd.R_reads' HO_276006.out).2.1); rintro e w53 ⟨rfl, hb⟩; have n0_ := Aside0.mk (Kd.R_below (by (with_reducible repeat (first | apply Kd.R_alloc | apply Kd.R_drewN | apply Kd.R_drew)); exact HO_7.out) hb); have n1_ := Aside0.mk (Kd.R_below (by (with_reducible repeat (first | apply Kd.R_alloc | apply Kd.R_drewN | apply Kd.R_drew)); exact HO_276006.out) hb); have n2_ := Aside0.mk (Kd.R_below (by (with_reducible repeat (first | apply Kd.R_alloc | apply Kd.R_drewN | apply Kd.R_drew)); exact HO_290006.out) hb); have n3_ := Aside0.mk (Kd.R_below (by (with_reducible repeat (first | apply Kd.R_alloc | apply Kd.R_drewN | apply Kd.R_drew)); exact HO293.out) hb); have n4_ := Aside0.mk (blk_below (g := gb275) (o := .cells #[.int .i64 t265, .string t266, .int .i64 t267, .int .i64 t268, .int .i64 t269, .bool t270, .slice Ao14 t271.length co14] 33 (0, 0)) (by (with_reducible repeat (first | refine blk_drewN ?_ _ | refine blk_drew ?_ | refine blk_alloc ?_ _)); exact BK275.out) hb); have n5_ := Aside0.mk (blk_below (g := gb289) (o := .cells #[.int .i64 t279, .string t280, .int .i64 t281, .int .i64 t282, .int .i64 t283, .bool t284, .slice Ao22 t285.length co22] 33 (0, 0)) (by (with_reducible repeat (first | refine blk_drewN ?_ _ | refine blk_drew ?_ | refine blk_alloc ?_ _)); exact BK289.out) hb); have n6_ := Aside0.mk (below_step bA hb); clear HO_7; clear HO_276006; clear HO_290006; clear HO293; clear BK275; clear BK289; clear HB; have HO_7 := n0_; have HO_276006 := n1_; have HO_290006 := n2_; have HO293 := n3_; have BK275 := n4_; have BK289 := n5_; have HB := n6_; clear n0_ n1_ n2_ n3_ n4_ n5_ n6_; (try clear hb); (try clear hb2); (try clear hk); (try clear hi)))
         go_meet
         case rel => exact ⟨_, (true), rF, H', ⟨by have := HJ7.out; first | omega | exact Nat.le_refl _⟩, ⟨by (with_reducible repeat (first | apply Kd.R_alloc | apply Kd.R_drewN | apply Kd.R_drew)); exact HO_276006.out⟩, ⟨by (with_reducible repeat (first | apply Kd.R_alloc | apply Kd.R_drewN | apply Kd.R_drew)); exact HO_290006.out⟩, ⟨by (with_reducible repeat (first | refine blk_drewN ?_ _ | refine blk_drew ?_ | refine blk_alloc ?_ _)); exact BK275.out⟩, ⟨by (with_reducible repeat (first | refine blk_drewN ?_ _ | refine blk_drew ?_ | refine blk_alloc ?_ _)); exact BK289.out⟩, ⟨bA⟩⟩
      case rest =>
       clear HC39
       try clear c1
       try clear c2
       try clear p2
       try clear c3
       try clear c3b0
       try clear c3b1
       try clear c4
       try clear c5
       try clear c13
       try clear c20
       try clear c24
       try clear c25
       try clear c26
       try clear c30
       try clear c34
       try clear c37
       try clear c43
       try clear c43b0
       try clear c45
       try clear c46
       try clear c48
       try clear c50
       try clear c51
       try clear c52
       try clear hcz13_0 hcz13_1 hcz13_2 hcz13_3 hcz13_4 hcz13_5 hcz13_6
       try clear hcz21_0 hcz21_1 hcz21_2 hcz21_3 hcz21_4 hcz21_5 hcz21_6
       try clear hcz27_0 hcz27_1 hcz27_2 hcz27_3 hcz27_4 hcz27_5 hcz27_6
       try clear hcz28_0 hcz28_1 hcz28_2 hcz28_3 hcz28_4 hcz28_5 hcz28_6
       try clear hcz31_0 hcz31_1 hcz31_2 hcz31_3 hcz31_4 hcz31_5 hcz31_6
       try clear hcz32_0 hcz32_1 hcz32_2 hcz32_3 hcz32_4 hcz32_5 hcz32_6
       try clear hcz47_0 hcz47_1 hcz47_2 hcz47_3 hcz47_4 hcz47_5 hcz47_6
       try clear hcz48_0 hcz48_1 hcz48_2 hcz48_3 hcz48_4 hcz48_5 hcz48_6
       try clear hcz51_0 hcz51_1 hcz51_2 hcz51_3 hcz51_4 hcz51_5 hcz51_6
       try clear hcz52_0 hcz52_1 hcz52_2 hcz52_3 hcz52_4 hcz52_5 hcz52_6
       try clear hfz13_0 hfz13_1 hfz13_2 hfz13_3 hfz13_4 hfz13_5 hfz13_6
       try clear hfz21_0 hfz21_1 hfz21_2 hfz21_3 hfz21_4 hfz21_5 hfz21_6
       try clear hfz27_0 hfz27_1 hfz27_2 hfz27_3 hfz27_4 hfz27_5 hfz27_6
       try clear hfz28_0 hfz28_1 hfz28_2 hfz28_3 hfz28_4 hfz28_5 hfz28_6
       try clear hfz31_0 hfz31_1 hfz31_2 hfz31_3 hfz31_4 hfz31_5 hfz31_6
       try clear hfz32_0 hfz32_1 hfz32_2 hfz32_3 hfz32_4 hfz32_5 hfz32_6
       try clear hfz47_0 hfz47_1 hfz47_2 hfz47_3 hfz47_4 hfz47_5 hfz47_6
       try clear hfz48_0 hfz48_1 hfz48_2 hfz48_3 hfz48_4 hfz48_5 hfz48_6
       try clear hfz51_0 hfz51_1 hfz51_2 hfz51_3 hfz51_4 hfz51_5 hfz51_6
       try clear hfz52_0 hfz52_1 hfz52_2 hfz52_3 hfz52_4 hfz52_5 hfz52_6
       try clear p2
       obtain ⟨kq, x62_38, rfl, HA, HJ38, HO_276006, HO_290006, BK275, BK289, HB⟩ := hcut
       cases kq with
       | zero => exact absurd HA.out (by simp [laws_FnExactTakeNode.j1])
       | succ kj38 =>
        have H := HA.out
        clear HA
        simp only [laws_FnExactTakeNode.j1] at H
        by_cases c54 : x62_38 = true
        ·subst c54
         have H1 : (some false) = some r := by rw [if_pos rfl] at H; exact H
         clear H
         have H := H1
         clear H1
         exact absurd ((Option.some.inj H).trans hr_) (by decide)
        ·replace c54 := Bool.eq_false_iff.mpr c54
         subst c54
         have H1 : ((laws_markNode.f kj38 t279 t280 t281 t282 t283 t284 t285 1).bind fun bt298 => ((laws_heldNode.f kj38 t279 t280 t281 t282 t283 t284 bt298.2 1).bind fun t300 => (if t300 < 0 then (some false) else (if t300 = bt298.1 then ((laws_toByteS.f kj38 l0).bind fun t301 => ((impl_TakeNode.f kj38 t301 a1).bind fun bt304 => ((laws_eqNode.f kj38 bt304.1 bt304.2.1 bt304.2.2.1 bt304.2.2.2.1 bt304.2.2.2.2.1 bt304.2.2.2.2.2.1 bt304.2.2.2.2.2.2.1 t265 t266 t267 t268 t269 t270 t271).bind fun t315 => (if t315 = true then (laws_FnExactTakeNode.j2 kj38 bt298.1 (bt304.2.2.2.2.2.2.2 != t274) t279 t280 t281 t282 t283 t284 bt298.2) else (laws_FnExactTakeNode.j2 kj38 bt298.1 true t279 t280 t281 t282 t283 t284 bt298.2))))) else (some false))))) = some r := by rw [if_neg (show ¬ (false = true) by decide)] at H; exact H
         clear H
         have H := H1
         clear H1
         replace H := Option.bind_eq_some_iff.mp H
         obtain ⟨⟨t298, t299⟩, A550, H⟩ := H
         replace H : ((laws_heldNode.f kj38 t279 t280 t281 t282 t283 t284 t299 1).bind fun t300 => (if t300 < 0 then (some false) else (if t300 = t298 then ((laws_toByteS.f kj38 l0).bind fun t301 => ((impl_TakeNode.f kj38 t301 a1).bind fun bt304 => ((laws_eqNode.f kj38 bt304.1 bt304.2.1 bt304.2.2.1 bt304.2.2.2.1 bt304.2.2.2.2.1 bt304.2.2.2.2.2.1 bt304.2.2.2.2.2.2.1 t265 t266 t267 t268 t269 t270 t271).bind fun t315 => (if t315 = true then (laws_FnExactTakeNode.j2 kj38 t298 (bt304.2.2.2.2.2.2.2 != t274) t279 t280 t281 t282 t283 t284 t299) else (laws_FnExactTakeNode.j2 kj38 t298 true t279 t280 t281 t282 t283 t284 t299))))) else (some false)))) = some r := H
         have A55 := Aside0.mk A550
         clear A550
         replace H := Option.bind_eq_some_iff.mp H
         obtain ⟨t300, A560, H⟩ := H
         replace H : (if t300 < 0 then (some false) else (if t300 = t298 then ((laws_toByteS.f kj38 l0).bind fun t301 => ((impl_TakeNode.f kj38 t301 a1).bind fun bt304 => ((laws_eqNode.f kj38 bt304.1 bt304.2.1 bt304.2.2.1 bt304.2.2.2.1 bt304.2.2.2.2.1 bt304.2.2.2.2.2.1 bt304.2.2.2.2.2.2.1 t265 t266 t267 t268 t269 t270 t271).bind fun t315 => (if t315 = true then (laws_FnExactTakeNode.j2 kj38 t298 (bt304.2.2.2.2.2.2.2 != t274) t279 t280 t281 t282 t283 t284 t299) else (laws_FnExactTakeNode.j2 kj38 t298 true t279 t280 t281 t282 t283 t284 t299))))) else (some false))) = some r := H
         have A56 := Aside0.mk A560
         clear A560
         by_cases c57 : t300 < 0
         ·rw [if_pos c57] at H
          have c57b0 : decide (t300 < 0) = true := decide_eq_true c57
          clear c57
          exact absurd ((Option.some.inj H).trans hr_) (by decide)
         ·rw [if_neg c57] at H
          have c57b0 : decide (t300 < 0) = false := decide_eq_false c57
          clear c57
          by_cases c63 : t300 = t298
          ·rw [if_pos c63] at H
           have c63b0 : (t300 == t298) = true := beq_iff_eq.mpr c63
           have c63b1 : (t300 != t298) = false := bne_eq_false_iff_eq.mpr c63
           clear c63
           replace H := Option.bind_eq_some_iff.mp H
           obtain ⟨t301, A640, H⟩ := H
           replace H : ((impl_TakeNode.f kj38 t301 a1).bind fun bt304 => ((laws_eqNode.f kj38 bt304.1 bt304.2.1 bt304.2.2.1 bt304.2.2.2.1 bt304.2.2.2.2.1 bt304.2.2.2.2.2.1 bt304.2.2.2.2.2.2.1 t265 t266 t267 t268 t269 t270 t271).bind fun t315 => (if t315 = true then (laws_FnExactTakeNode.j2 kj38 t298 (bt304.2.2.2.2.2.2.2 != t274) t279 t280 t281 t282 t283 t284 t299) else (laws_FnExactTakeNode.j2 kj38 t298 true t279 t280 t281 t282 t283 t284 t299)))) = some r := H
           have A64 := Aside0.mk A640
           clear A640
           replace H := Option.bind_eq_some_iff.mp H
           obtain ⟨⟨t304, t305, t306, t307, t308, t309, t310, t313⟩, A650, H⟩ := H
           replace H : ((laws_eqNode.f kj38 t304 t305 t306 t307 t308 t309 t310 t265 t266 t267 t268 t269 t270 t271).bind fun t315 => (if t315 = true then (laws_FnExactTakeNode.j2 kj38 t298 (t313 != t274) t279 t280 t281 t282 t283 t284 t299) else (laws_FnExactTakeNode.j2 kj38 t298 true t279 t280 t281 t282 t283 t284 t299))) = some r := H
           have A65 := Aside0.mk A650
           clear A650
           have HC66 := Aside0.mk H
           clear H
           have hnb67 := NB289_275.out
           have hnc67 := NB275_289.out
           obtain ⟨⟨hcz68_0, hcz68_1, hcz68_2, hcz68_3, hcz68_4, hcz68_5, hcz68_6⟩, hfz68_0, hfz68_1, hfz68_2, hfz68_3, hfz68_4, hfz68_5, hfz68_6⟩ := Own.c7 BK289.out
           go_upto_region 23 with (first | ((with_reducible refine gate_callee (f := 47) rfl ?_); refine goesL_ (some 65) rfl rfl Try.func47 (by kernel_rfl) rfl #[.agg #[.int .i64 t279, .string t280, .int .i64 t281, .int .i64 t282, .int .i64 t283, .bool t284, .slice Ao22 t285.length co22], .int .i64 1] rfl aL ?_; (with_reducible refine (laws_markNode.calls kj38 t279 t280 t281 t282 t283 t284 (fun k_ => some k_ = (.slice Ao22 t285.length co22 : Value).ownBlock) (.slice Ao22 t285.length co22) t285 1 t298 t299 w _ ?side1 ?side2 A55.out).mono ?_); (case side1 => repeat (first | (with_reducible first | exact HB.out | apply below_alloc | apply pw_below_drewN | apply below_drew1 | refine below_set ?_ GE275.out | refine below_set ?_ GE289.out) | exact HB.out)); (case side2 => exact Kd.R_tight rfl HO_290006.out); rintro e w69 ⟨rfl, hy0, hb, hkp⟩; refine ⟨_, rfl, ?_⟩; have n0_ := Aside0.mk (Kd.R_mono (ok' := fun k_ => some k_ ≠ (.slice Ao22 t285.length co22 : Value).ownBlock) (Kd.R_keptB (HO_276006.out) hkp (fun k_ hk_ hs_ => (hk_) hs_)) (fun k_ hk_ => hk_.1)); have n1_ := Aside0.mk (Kd.R_reok rfl hy0 (fun k_ e_ => HO_290006.out.1 k_ e_)); have n2_ := Aside0.mk (blk_kept (by (with_reducible repeat (first | refine blk_drewN ?_ _ | refine blk_drew ?_ | refine blk_alloc ?_ _)); exact BK275.out) hkp (fun hs_ => (fun e_ => (Kd.R_ne HO_290006.out BK275.out (by decide)) e_) hs_)); have n3_ := Aside0.mk (blk_kept (by (with_reducible repeat (first | refine blk_drewN ?_ _ | refine blk_drew ?_ | refine blk_alloc ?_ _)); exact BK289.out) hkp (fun hs_ => (fun e_ => (Kd.R_ne HO_290006.out BK289.out (by decide)) e_) hs_)); have n4_ := Aside0.mk (hb); clear HO_276006; clear HO_290006; clear BK275; clear BK289; clear HB; have HO_276006 := n0_; have HO_290006 := n1_; have BK275 := n2_; have BK289 := n3_; have HB := n4_; clear n0_ n1_ n2_ n3_ n4_; (try clear hb); (try clear hkp); (try clear hy0); obtain ⟨⟨hcz70_0, hcz70_1, hcz70_2, hcz70_3, hcz70_4, hcz70_5, hcz70_6⟩, hfz70_0, hfz70_1, hfz70_2, hfz70_3, hfz70_4, hfz70_5, hfz70_6⟩ := Own.c7 BK289.out) | ((with_reducible refine gate_callee (f := 53) rfl ?_); refine goesL_ (some 68) rfl rfl Try.func53 (by kernel_rfl) rfl #[.agg #[.int .i64 t279, .string t280, .int .i64 t281, .int .i64 t282, .int .i64 t283, .bool t284, .slice Ao22 t299.length co22], .int .i64 1] rfl (by (try simp only [List.map_toArray, List.map_cons, List.map_nil]); first | done | (rw [show t299.length = t285.length from (Kd.R_reads' HO_290006.out).1.symm] <;> rfl) | rfl | (simp only [List.length_drop, List.length_take]; rfl)) ?_; (with_reducible refine (laws_heldNode.calls kj38 t279 t280 t281 t282 t283 t284 _ _ t299 1 t300 _ ?side1 ?side2 A56.out).mono ?_); (case side1 => repeat (first | exact (Kd.R_reads' HO_290006.out).2.2 | (with_reducible refine Kd.C_alloc ?_ _) | (with_reducible refine Kd.C_drewN ?_ _) | (with_reducible refine Kd.C_drew ?_))); (case side2 => rw [show t299.length = t285.length from (Kd.R_reads' HO_290006.out).1.symm]; exact (Kd.R_reads' HO_290006.out).2.1); rintro e w71 ⟨rfl, hb⟩; refine ⟨_, rfl, ?_⟩; have n0_ := Aside0.mk (Kd.R_below (by (with_reducible repeat (first | apply Kd.R_alloc | apply Kd.R_drewN | apply Kd.R_drew)); exact HO_276006.out) hb); have n1_ := Aside0.mk (Kd.R_below (by (with_reducible repeat (first | apply Kd.R_alloc | apply Kd.R_drewN | apply Kd.R_drew)); exact HO_290006.out) hb); have n2_ := Aside0.mk (blk_below (g := gb275) (o := .cells #[.int .i64 t265, .string t266, .int .i64 t267, .int .i64 t268, .int .i64 t269, .bool t270, .slice Ao14 t271.length co14] 33 (0, 0)) (by (with_reducible repeat (first | refine blk_drewN ?_ _ | refine blk_drew ?_ | refine blk_alloc ?_ _)); exact BK275.out) hb); have n3_ := Aside0.mk (blk_below (g := gb289) (o := .cells #[.int .i64 t279, .string t280, .int .i64 t281, .int .i64 t282, .int .i64 t283, .bool t284, .slice Ao22 t285.length co22] 33 (0, 0)) (by (with_reducible repeat (first | refine blk_drewN ?_ _ | refine blk_drew ?_ | refine blk_alloc ?_ _)); exact BK289.out) hb); have n4_ := Aside0.mk (below_step bA hb); clear HO_276006; clear HO_290006; clear BK275; clear BK289; clear HB; have HO_276006 := n0_; have HO_290006 := n1_; have BK275 := n2_; have BK289 := n3_; have HB := n4_; clear n0_ n1_ n2_ n3_ n4_; (try clear hb); (try clear hb2); (try clear hk); (try clear hi)) | ((with_reducible refine gate_callee (f := 51) rfl ?_); refine goesL_ (some 76) rfl rfl Try.func51 (by kernel_rfl) rfl #[.slice A0 l0.length c0] rfl aL ?_; (with_reducible refine (laws_toByteS.calls kj38 _ _ l0 t301 _ ?side1 ?side2 A64.out).mono ?_); (case side1 => exact cA); (case side2 => exact HC0.out); rintro e w72 ⟨v302, rfl, ho0, hb⟩; refine ⟨_, rfl, ?_⟩; have n0_ := Aside0.mk (Kd.R_below (by (with_reducible repeat (first | apply Kd.R_alloc | apply Kd.R_drewN | apply Kd.R_drew)); exact HO_276006.out) hb); have n1_ := Aside0.mk (Kd.R_below (by (with_reducible repeat (first | apply Kd.R_alloc | apply Kd.R_drewN | apply Kd.R_drew)); exact HO_290006.out) hb); have n2_ := Aside0.mk (Kd.R_lower ho0 (below_size bA)); have n3_ := Aside0.mk (blk_below (g := gb275) (o := .cells #[.int .i64 t265, .string t266, .int .i64 t267, .int .i64 t268, .int .i64 t269, .bool t270, .slice Ao14 t271.length co14] 33 (0, 0)) (by (with_reducible repeat (first | refine blk_drewN ?_ _ | refine blk_drew ?_ | refine blk_alloc ?_ _)); exact BK275.out) hb); have n4_ := Aside0.mk (blk_below (g := gb289) (o := .cells #[.int .i64 t279, .string t280, .int .i64 t281, .int .i64 t282, .int .i64 t283, .bool t284, .slice Ao22 t285.length co22] 33 (0, 0)) (by (with_reducible repeat (first | refine blk_drewN ?_ _ | refine blk_drew ?_ | refine blk_alloc ?_ _)); exact BK289.out) hb); have n5_ := Aside0.mk (below_step bA hb); clear HO_276006; clear HO_290006; clear BK275; clear BK289; clear HB; have HO_276006 := n0_; have HO_290006 := n1_; have HO303 := n2_; have BK275 := n3_; have BK289 := n4_; have HB := n5_; clear n0_ n1_ n2_ n3_ n4_ n5_; (try clear hb); (try clear hb2); (try clear hk); (try clear hi); (try clear ho0); obtain ⟨Ao73, co73, eo73⟩ := Kd.R_slice HO303.out; subst eo73) | ((with_reducible refine gate_callee (f := 52) rfl ?_); refine goesL_ (some 78) rfl rfl Try.func52 (by kernel_rfl) rfl #[.slice Ao73 t301.length co73, .int .i64 a1] rfl aL ?_; (with_reducible refine (impl_TakeNode.calls kj38 _ _ t301 a1 t304 t305 t306 t307 t308 t309 t310 t313 _ ?side1 ?side2 A65.out).mono ?_); (case side1 => repeat (first | exact (Kd.R_reads' HO303.out).2.2 | (with_reducible refine Kd.C_alloc ?_ _) | (with_reducible refine Kd.C_drewN ?_ _) | (with_reducible refine Kd.C_drew ?_))); (case side2 => exact (Kd.R_reads' HO303.out).2.1); rintro e w74 ⟨v311, rfl, ho0, hb⟩; refine ⟨_, rfl, ?_⟩; have n0_ := Aside0.mk (Kd.R_elder' (by (with_reducible repeat (first | apply Kd.R_alloc | apply Kd.R_drewN | apply Kd.R_drew)); exact HO_276006.out) (Kd.R_base ho0) hb); have n1_ := Aside0.mk (Kd.R_elder' (by (with_reducible repeat (first | apply Kd.R_alloc | apply Kd.R_drewN | apply Kd.R_drew)); exact HO_290006.out) (Kd.R_base ho0) hb); have n2_ := Aside0.mk (Kd.R_below (by (with_reducible repeat (first | apply Kd.R_alloc | apply Kd.R_drewN | apply Kd.R_drew)); exact HO303.out) hb); have n3_ := Aside0.mk (Kd.R_lower (Kd.R_new' (Kd.R_new' ho0 (Kd.R_lt (by (with_reducible repeat (first | apply Kd.R_alloc | apply Kd.R_drewN | apply Kd.R_drew)); exact HO_276006.out))) (Kd.R_lt (by (with_reducible repeat (first | apply Kd.R_alloc | apply Kd.R_drewN | apply Kd.R_drew)); exact HO_290006.out))) (below_size bA)); have n4_ := Aside0.mk (blk_below (g := gb275) (o := .cells #[.int .i64 t265, .string t266, .int .i64 t267, .int .i64 t268, .int .i64 t269, .bool t270, .slice Ao14 t271.length co14] 33 (0, 0)) (by (with_reducible repeat (first | refine blk_drewN ?_ _ | refine blk_drew ?_ | refine blk_alloc ?_ _)); exact BK275.out) hb); have n5_ := Aside0.mk (blk_below (g := gb289) (o := .cells #[.int .i64 t279, .string t280, .int .i64 t281, .int .i64 t282, .int .i64 t283, .bool t284, .slice Ao22 t285.length co22] 33 (0, 0)) (by (with_reducible repeat (first | refine blk_drewN ?_ _ | refine blk_drew ?_ | refine blk_alloc ?_ _)); exact BK289.out) hb); have n6_ := Aside0.mk (below_step bA hb); clear HO_276006; clear HO_290006; clear HO303; clear BK275; clear BK289; clear HB; have HO_276006 := n0_; have HO_290006 := n1_; have HO303 := n2_; have HO312 := n3_; have BK275 := n4_; have BK289 := n5_; have HB := n6_; clear n0_ n1_ n2_ n3_ n4_ n5_ n6_; (try clear hb); (try clear hb2); (try clear hk); (try clear hi); (try clear ho0)) | ((with_reducible refine gate_dst (N := 13) rfl ?_); refine box_event ?hg (N := 13) ?hd (cs := #[.int .i64 0, .string (⟨#[]⟩ : ByteArray), .int .i64 0, .int .i64 0, .int .i64 0, .bool false, .slice none 0 0]) (t := 33) ?hr ?_; (case hd => rfl); (case hg => rfl); (case hr => first | (go_simp; done) | (go_simp; rfl)); intro gb314 hg w75 hbox hb; have n0_ := Aside0.mk (Kd.R_below (by (with_reducible repeat (first | apply Kd.R_alloc | apply Kd.R_drewN | apply Kd.R_drew)); exact HO_276006.out) hb); have n1_ := Aside0.mk (Kd.R_below (by (with_reducible repeat (first | apply Kd.R_alloc | apply Kd.R_drewN | apply Kd.R_drew)); exact HO_290006.out) hb); have n2_ := Aside0.mk (Kd.R_below (by (with_reducible repeat (first | apply Kd.R_alloc | apply Kd.R_drewN | apply Kd.R_drew)); exact HO303.out) hb); have n3_ := Aside0.mk (Kd.R_below (by (with_reducible repeat (first | apply Kd.R_alloc | apply Kd.R_drewN | apply Kd.R_drew)); exact HO312.out) hb); have n4_ := Aside0.mk (blk_below (g := gb275) (o := .cells #[.int .i64 t265, .string t266, .int .i64 t267, .int .i64 t268, .int .i64 t269, .bool t270, .slice Ao14 t271.length co14] 33 (0, 0)) (by (with_reducible repeat (first | refine blk_drewN ?_ _ | refine blk_drew ?_ | refine blk_alloc ?_ _)); exact BK275.out) hb); have n5_ := Aside0.mk (blk_below (g := gb289) (o := .cells #[.int .i64 t279, .string t280, .int .i64 t281, .int .i64 t282, .int .i64 t283, .bool t284, .slice Ao22 t285.length co22] 33 (0, 0)) (by (with_reducible repeat (first | refine blk_drewN ?_ _ | refine blk_drew ?_ | refine blk_alloc ?_ _)); exact BK289.out) hb); have n6_ := Aside0.mk (below_step bA hb); have n7_ := Aside0.mk (hbox); have n8_ := Aside0.mk ((by rw [hg]; exact (below_size bA) : w.heap.size ≤ gb314)); have n9_ := Aside0.mk ((by rw [hg]; exact (below_size bA) : w.heap.size ≤ gb314)); have n10_ := Aside0.mk ((by rw [hg]; exact Nat.ne_of_lt (blk_lt (g := gb275) (o := .cells #[.int .i64 t265, .string t266, .int .i64 t267, .int .i64 t268, .int .i64 t269, .bool t270, .slice Ao14 t271.length co14] 33 (0, 0)) (by (with_reducible repeat (first | refine blk_drewN ?_ _ | refine blk_drew ?_ | refine blk_alloc ?_ _)); exact BK275.out)) : gb275 ≠ gb314)); have n11_ := Aside0.mk ((by rw [hg]; exact Nat.ne_of_gt (blk_lt (g := gb275) (o := .cells #[.int .i64 t265, .string t266, .int .i64 t267, .int .i64 t268, .int .i64 t269, .bool t270, .slice Ao14 t271.length co14] 33 (0, 0)) (by (with_reducible repeat (first | refine blk_drewN ?_ _ | refine blk_drew ?_ | refine blk_alloc ?_ _)); exact BK275.out)) : gb314 ≠ gb275)); have n12_ := Aside0.mk ((by rw [hg]; exact Nat.ne_of_lt (blk_lt (g := gb289) (o := .cells #[.int .i64 t279, .string t280, .int .i64 t281, .int .i64 t282, .int .i64 t283, .bool t284, .slice Ao22 t285.length co22] 33 (0, 0)) (by (with_reducible repeat (first | refine blk_drewN ?_ _ | refine blk_drew ?_ | refine blk_alloc ?_ _)); exact BK289.out)) : gb289 ≠ gb314)); have n13_ := Aside0.mk ((by rw [hg]; exact Nat.ne_of_gt (blk_lt (g := gb289) (o := .cells #[.int .i64 t279, .string t280, .int .i64 t281, .int .i64 t282, .int .i64 t283, .bool t284, .slice Ao22 t285.length co22] 33 (0, 0)) (by (with_reducible repeat (first | refine blk_drewN ?_ _ | refine blk_drew ?_ | refine blk_alloc ?_ _)); exact BK289.out)) : gb314 ≠ gb289)); clear HO_276006; clear HO_290006; clear HO303; clear HO312; clear BK275; clear BK289; clear HB; have HO_276006 := n0_; have HO_290006 := n1_; have HO303 := n2_; have HO312 := n3_; have BK275 := n4_; have BK289 := n5_; have HB := n6_; have BK314 := n7_; have GW314 := n8_; have GE314 := n9_; have NB275_314 := n10_; have NB314_275 := n11_; have NB289_314 := n12_; have NB314_289 := n13_; clear n0_ n1_ n2_ n3_ n4_ n5_ n6_ n7_ n8_ n9_ n10_ n11_ n12_ n13_; clear hb hbox hg; have hnb76 := NB314_275.out; have hnc76 := NB275_314.out; have hnb77 := NB314_289.out; have hnc77 := NB289_314.out; obtain ⟨⟨hcz78_0, hcz78_1, hcz78_2, hcz78_3, hcz78_4, hcz78_5, hcz78_6⟩, hfz78_0, hfz78_1, hfz78_2, hfz78_3, hfz78_4, hfz78_5, hfz78_6⟩ := Own.c7 BK314.out; obtain ⟨Ao79, co79, eo79⟩ := Kd.R_slice HO312.out; subst eo79) | ((with_reducible refine gate_store (t := 33) (p := 13) rfl ?_); refine store_event (t := 33) (p := 13) (v := ?vo_w80) (w1 := (((((((w75.setCell ⟨gb314, 0, none⟩ (.int .i64 t304)).setCell ⟨gb314, 1, none⟩ (.string t305)).setCell ⟨gb314, 2, none⟩ (.int .i64 t306)).setCell ⟨gb314, 3, none⟩ (.int .i64 t307)).setCell ⟨gb314, 4, none⟩ (.int .i64 t308)).setCell ⟨gb314, 5, none⟩ (.bool t309)).setCell ⟨gb314, 6, none⟩ (.slice Ao79 t310.length co79))) ?hg ?ho ?hn ?hr ?_; (case ho => rfl); (case hg => rfl); (case hn => rfl); (case hr => first | (go_simp; done) | (go_simp; rfl)); intro w80 hw; have n0_ : Aside0 (Kd.R (Kd.int .i64) 3 w80 w.heap.size (fun k_ => some k_ ≠ (.slice Ao22 t285.length co22 : Value).ownBlock ∧ some k_ ≠ (.slice Ao79 t310.length co79 : Value).ownBlock) (.slice Ao14 t271.length co14) t271) := ⟨(by rw [hw]; exact (by (with_reducible repeat (first | apply Kd.R_alloc | apply Kd.R_drewN | apply Kd.R_drew)); exact Kd.R_mono (Kd.R_far (p := ⟨gb314, 6, none⟩) (Kd.R_far (p := ⟨gb314, 5, none⟩) (Kd.R_far (p := ⟨gb314, 4, none⟩) (Kd.R_far (p := ⟨gb314, 3, none⟩) (Kd.R_far (p := ⟨gb314, 2, none⟩) (Kd.R_far (p := ⟨gb314, 1, none⟩) (Kd.R_far (p := ⟨gb314, 0, none⟩) (Kd.R_types HO_276006.out BK314.out (by decide)) (fun _ hk => hk.2) (.int .i64 t304)) (fun _ hk => hk.2) (.string t305)) (fun _ hk => hk.2) (.int .i64 t306)) (fun _ hk => hk.2) (.int .i64 t307)) (fun _ hk => hk.2) (.int .i64 t308)) (fun _ hk => hk.2) (.bool t309)) (fun _ hk => hk.2) (.slice Ao79 t310.length co79)) (fun _ hk => ⟨hk.1.1, hk.1.2⟩)))⟩; have n1_ : Aside0 (Kd.R (Kd.int .i64) 3 w80 w.heap.size (fun k_ => some k_ ≠ (.slice Ao14 t271.length co14 : Value).ownBlock ∧ some k_ ≠ (.slice Ao79 t310.length co79 : Value).ownBlock) (.slice Ao22 t285.length co22) t299) := ⟨(by rw [hw]; exact (by (with_reducible repeat (first | apply Kd.R_alloc | apply Kd.R_drewN | apply Kd.R_drew)); exact Kd.R_mono (Kd.R_far (p := ⟨gb314, 6, none⟩) (Kd.R_far (p := ⟨gb314, 5, none⟩) (Kd.R_far (p := ⟨gb314, 4, none⟩) (Kd.R_far (p := ⟨gb314, 3, none⟩) (Kd.R_far (p := ⟨gb314, 2, none⟩) (Kd.R_far (p := ⟨gb314, 1, none⟩) (Kd.R_far (p := ⟨gb314, 0, none⟩) (Kd.R_types HO_290006.out BK314.out (by decide)) (fun _ hk => hk.2) (.int .i64 t304)) (fun _ hk => hk.2) (.string t305)) (fun _ hk => hk.2) (.int .i64 t306)) (fun _ hk => hk.2) (.int .i64 t307)) (fun _ hk => hk.2) (.int .i64 t308)) (fun _ hk => hk.2) (.bool t309)) (fun _ hk => hk.2) (.slice Ao79 t310.length co79)) (fun _ hk => ⟨hk.1.1, hk.1.2⟩)))⟩; have n2_ : Aside0 (Kd.R (Kd.int .u8) 5 w80 w.heap.size (fun _ => True) (.slice Ao73 t301.length co73) t301) := ⟨(by rw [hw]; exact (by (with_reducible repeat (first | apply Kd.R_alloc | apply Kd.R_drewN | apply Kd.R_drew)); exact Kd.R_mono (Kd.R_far (p := ⟨gb314, 6, none⟩) (Kd.R_far (p := ⟨gb314, 5, none⟩) (Kd.R_far (p := ⟨gb314, 4, none⟩) (Kd.R_far (p := ⟨gb314, 3, none⟩) (Kd.R_far (p := ⟨gb314, 2, none⟩) (Kd.R_far (p := ⟨gb314, 1, none⟩) (Kd.R_far (p := ⟨gb314, 0, none⟩) (Kd.R_types HO303.out BK314.out (by decide)) (fun _ hk => hk.2) (.int .i64 t304)) (fun _ hk => hk.2) (.string t305)) (fun _ hk => hk.2) (.int .i64 t306)) (fun _ hk => hk.2) (.int .i64 t307)) (fun _ hk => hk.2) (.int .i64 t308)) (fun _ hk => hk.2) (.bool t309)) (fun _ hk => hk.2) (.slice Ao79 t310.length co79)) (fun _ hk => trivial)))⟩; have n3_ : Aside0 (Kd.R (Kd.int .i64) 3 w80 w.heap.size (fun k_ => some k_ ≠ (.slice Ao14 t271.length co14 : Value).ownBlock ∧ some k_ ≠ (.slice Ao22 t285.length co22 : Value).ownBlock) (.slice Ao79 t310.length co79) t310) := ⟨(by rw [hw]; exact (by (with_reducible repeat (first | apply Kd.R_alloc | apply Kd.R_drewN | apply Kd.R_drew)); exact Kd.R_mono (Kd.R_far (p := ⟨gb314, 6, none⟩) (Kd.R_far (p := ⟨gb314, 5, none⟩) (Kd.R_far (p := ⟨gb314, 4, none⟩) (Kd.R_far (p := ⟨gb314, 3, none⟩) (Kd.R_far (p := ⟨gb314, 2, none⟩) (Kd.R_far (p := ⟨gb314, 1, none⟩) (Kd.R_far (p := ⟨gb314, 0, none⟩) (Kd.R_types HO312.out BK314.out (by decide)) (fun _ hk => hk.2) (.int .i64 t304)) (fun _ hk => hk.2) (.string t305)) (fun _ hk => hk.2) (.int .i64 t306)) (fun _ hk => hk.2) (.int .i64 t307)) (fun _ hk => hk.2) (.int .i64 t308)) (fun _ hk => hk.2) (.bool t309)) (fun _ hk => hk.2) (.slice Ao79 t310.length co79)) (fun _ hk => ⟨hk.1.1.2, hk.1.2⟩)))⟩; have n4_ : Aside0 (w80.heap[gb275]? = some (.cells #[.int .i64 t265, .string t266, .int .i64 t267, .int .i64 t268, .int .i64 t269, .bool t270, .slice Ao14 t271.length co14] 33 (0, 0))) := ⟨(by rw [hw]; exact (by (with_reducible repeat (first | refine blk_drewN ?_ _ | refine blk_drew ?_ | refine blk_alloc ?_ _)); refine blk_far ?_ NB275_314.out _; (with_reducible repeat (first | refine blk_drewN ?_ _ | refine blk_drew ?_ | refine blk_alloc ?_ _)); refine blk_far ?_ NB275_314.out _; (with_reducible repeat (first | refine blk_drewN ?_ _ | refine blk_drew ?_ | refine blk_alloc ?_ _)); refine blk_far ?_ NB275_314.out _; (with_reducible repeat (first | refine blk_drewN ?_ _ | refine blk_drew ?_ | refine blk_alloc ?_ _)); refine blk_far ?_ NB275_314.out _; (with_reducible repeat (first | refine blk_drewN ?_ _ | refine blk_drew ?_ | refine blk_alloc ?_ _)); refine blk_far ?_ NB275_314.out _; (with_reducible repeat (first | refine blk_drewN ?_ _ | refine blk_drew ?_ | refine blk_alloc ?_ _)); refine blk_far ?_ NB275_314.out _; (with_reducible repeat (first | refine blk_drewN ?_ _ | refine blk_drew ?_ | refine blk_alloc ?_ _)); refine blk_far ?_ NB275_314.out _; (with_reducible repeat (first | refine blk_drewN ?_ _ | refine blk_drew ?_ | refine blk_alloc ?_ _)); exact BK275.out))⟩; have n5_ : Aside0 (w80.heap[gb289]? = some (.cells #[.int .i64 t279, .string t280, .int .i64 t281, .int .i64 t282, .int .i64 t283, .bool t284, .slice Ao22 t285.length co22] 33 (0, 0))) := ⟨(by rw [hw]; exact (by (with_reducible repeat (first | refine blk_drewN ?_ _ | refine blk_drew ?_ | refine blk_alloc ?_ _)); refine blk_far ?_ NB289_314.out _; (with_reducible repeat (first | refine blk_drewN ?_ _ | refine blk_drew ?_ | refine blk_alloc ?_ _)); refine blk_far ?_ NB289_314.out _; (with_reducible repeat (first | refine blk_drewN ?_ _ | refine blk_drew ?_ | refine blk_alloc ?_ _)); refine blk_far ?_ NB289_314.out _; (with_reducible repeat (first | refine blk_drewN ?_ _ | refine blk_drew ?_ | refine blk_alloc ?_ _)); refine blk_far ?_ NB289_314.out _; (with_reducible repeat (first | refine blk_drewN ?_ _ | refine blk_drew ?_ | refine blk_alloc ?_ _)); refine blk_far ?_ NB289_314.out _; (with_reducible repeat (first | refine blk_drewN ?_ _ | refine blk_drew ?_ | refine blk_alloc ?_ _)); refine blk_far ?_ NB289_314.out _; (with_reducible repeat (first | refine blk_drewN ?_ _ | refine blk_drew ?_ | refine blk_alloc ?_ _)); refine blk_far ?_ NB289_314.out _; (with_reducible repeat (first | refine blk_drewN ?_ _ | refine blk_drew ?_ | refine blk_alloc ?_ _)); exact BK289.out))⟩; have n6_ : Aside0 (w80.heap[gb314]? = some (.cells #[.int .i64 t304, .string t305, .int .i64 t306, .int .i64 t307, .int .i64 t308, .bool t309, .slice Ao79 t310.length co79] 33 (0, 0))) := ⟨(by rw [hw]; exact (by exact put7 BK314.out))⟩; have n7_ : Aside0 (Below w.heap.size w w80) := ⟨(by rw [hw]; exact bA)⟩; clear hw; clear HO_276006; clear HO_290006; clear HO303; clear HO312; clear BK275; clear BK289; clear BK314; clear HB; have HO_276006 := n0_; have HO_290006 := n1_; have HO303 := n2_; have HO312 := n3_; have BK275 := n4_; have BK289 := n5_; have BK314 := n6_; have HB := n7_; clear n0_ n1_ n2_ n3_ n4_ n5_ n6_ n7_))
           (try simp only [Act.put, List.setIfInBounds_toArray, List.set_cons_zero, List.set_cons_succ])
           go_cut [89] (fun v89 wc => ∃ (kq : Nat) (x89_65 : Bool), v89 = .bool x89_65 ∧ Aside0 (laws_FnExactTakeNode.j2 kq t298 x89_65 t279 t280 t281 t282 t283 t284 t299 = some r) ∧ Aside0 (kq ≤ kj38) ∧ Aside0 (Kd.R (Kd.int .i64) 3 wc w.heap.size (fun k_ => some k_ ≠ ((.slice Ao22 t285.length co22) : Value).ownBlock ∧ some k_ ≠ ((.slice Ao79 t310.length co79) : Value).ownBlock) (.slice Ao14 t271.length co14) t271) ∧ Aside0 (Kd.R (Kd.int .i64) 3 wc w.heap.size (fun k_ => some k_ ≠ ((.slice Ao14 t271.length co14) : Value).ownBlock ∧ some k_ ≠ ((.slice Ao79 t310.length co79) : Value).ownBlock) (.slice Ao22 t285.length co22) t299) ∧ Aside0 (Kd.R (Kd.int .i64) 3 wc w.heap.size (fun k_ => some k_ ≠ ((.slice Ao14 t271.length co14) : Value).ownBlock ∧ some k_ ≠ ((.slice Ao22 t285.length co22) : Value).ownBlock) (.slice Ao79 t310.length co79) t310) ∧ Aside0 (wc.heap[gb275]? = some (.cells #[.int .i64 t265, .string t266, .int .i64 t267, .int .i64 t268, .int .i64 t269, .bool t270, (.slice Ao14 t271.length co14)] 33 (0, 0))) ∧ Aside0 (wc.heap[gb289]? = some (.cells #[.int .i64 t279, .string t280, .int .i64 t281, .int .i64 t282, .int .i64 t283, .bool t284, (.slice Ao22 t285.length co22)] 33 (0, 0))) ∧ Aside0 (wc.heap[gb314]? = some (.cells #[.int .i64 t304, .string t305, .int .i64 t306, .int .i64 t307, .int .i64 t308, .bool t309, (.slice Ao79 t310.length co79)] 33 (0, 0))) ∧ Aside0 (Below w.heap.size w wc))
           case first =>
            have H := HC66.out
            clear HC66
            replace H := Option.bind_eq_some_iff.mp H
            obtain ⟨t315, A810, H⟩ := H
            replace H : (if t315 = true then (laws_FnExactTakeNode.j2 kj38 t298 (t313 != t274) t279 t280 t281 t282 t283 t284 t299) else (laws_FnExactTakeNode.j2 kj38 t298 true t279 t280 t281 t282 t283 t284 t299)) = some r := H
            have A81 := Aside0.mk A810
            clear A810
            by_cases c82 : t315 = true
            ·subst c82
             have H1 : (laws_FnExactTakeNode.j2 kj38 t298 (t313 != t274) t279 t280 t281 t282 t283 t284 t299) = some r := by rw [if_pos rfl] at H; exact H
             clear H
             have H := H1
             clear H1
             have H' := Aside0.mk H
             clear H
             have hnb83 := NB314_275.out
             have hnc83 := NB275_314.out
             have hnb84 := NB314_289.out
             have hnc84 := NB289_314.out
             obtain ⟨⟨hcz85_0, hcz85_1, hcz85_2, hcz85_3, hcz85_4, hcz85_5, hcz85_6⟩, hfz85_0, hfz85_1, hfz85_2, hfz85_3, hfz85_4, hfz85_5, hfz85_6⟩ := Own.c7 BK314.out
             have hnb86 := NB275_289.out
             have hnc86 := NB289_275.out
             obtain ⟨⟨hcz87_0, hcz87_1, hcz87_2, hcz87_3, hcz87_4, hcz87_5, hcz87_6⟩, hfz87_0, hfz87_1, hfz87_2, hfz87_3, hfz87_4, hfz87_5, hfz87_6⟩ := Own.c7 BK275.out
             go_wp2_with (first | ((with_reducible refine gate_callee (f := 24) rfl ?_); refine goesL_ (some 83) rfl rfl Try.func24 (by kernel_rfl) rfl #[.agg #[.int .i64 t304, .string t305, .int .i64 t306, .int .i64 t307, .int .i64 t308, .bool t309, .slice Ao79 t310.length co79], .agg #[.int .i64 t265, .string t266, .int .i64 t267, .int .i64 t268, .int .i64 t269, .bool t270, .slice Ao14 t271.length co14]] rfl aL ?_; (with_reducible refine (laws_eqNode.calls kj38 t304 t305 t306 t307 t308 t309 _ _ t310 t265 t266 t267 t268 t269 t270 _ _ t271 true _ ?side1 ?side2 ?side3 ?side4 A81.out).mono ?_); (case side1 => repeat (first | exact (Kd.R_reads' HO312.out).2.2 | (with_reducible refine Kd.C_alloc ?_ _) | (with_reducible refine Kd.C_drewN ?_ _) | (with_reducible refine Kd.C_drew ?_))); (case side2 => exact (Kd.R_reads' HO312.out).2.1); (case side3 => repeat (first | exact (Kd.R_reads' HO_276006.out).2.2 | (with_reducible refine Kd.C_alloc ?_ _) | (with_reducible refine Kd.C_drewN ?_ _) | (with_reducible refine Kd.C_drew ?_))); (case side4 => exact (Kd.R_reads' HO_276006.out).2.1); rintro e w88 ⟨rfl, hb⟩; refine ⟨_, rfl, ?_⟩; have n0_ := Aside0.mk (Kd.R_below (by (with_reducible repeat (first | apply Kd.R_alloc | apply Kd.R_drewN | apply Kd.R_drew)); exact HO_276006.out) hb); have n1_ := Aside0.mk (Kd.R_below (by (with_reducible repeat (first | apply Kd.R_alloc | apply Kd.R_drewN | apply Kd.R_drew)); exact HO_290006.out) hb); have n2_ := Aside0.mk (Kd.R_below (by (with_reducible repeat (first | apply Kd.R_alloc | apply Kd.R_drewN | apply Kd.R_drew)); exact HO303.out) hb); have n3_ := Aside0.mk (Kd.R_below (by (with_reducible repeat (first | apply Kd.R_alloc | apply Kd.R_drewN | apply Kd.R_drew)); exact HO312.out) hb); have n4_ := Aside0.mk (blk_below (g := gb275) (o := .cells #[.int .i64 t265, .string t266, .int .i64 t267, .int .i64 t268, .int .i64 t269, .bool t270, .slice Ao14 t271.length co14] 33 (0, 0)) (by (with_reducible repeat (first | refine blk_drewN ?_ _ | refine blk_drew ?_ | refine blk_alloc ?_ _)); exact BK275.out) hb); have n5_ := Aside0.mk (blk_below (g := gb289) (o := .cells #[.int .i64 t279, .string t280, .int .i64 t281, .int .i64 t282, .int .i64 t283, .bool t284, .slice Ao22 t285.length co22] 33 (0, 0)) (by (with_reducible repeat (first | refine blk_drewN ?_ _ | refine blk_drew ?_ | refine blk_alloc ?_ _)); exact BK289.out) hb); have n6_ := Aside0.mk (blk_below (g := gb314) (o := .cells #[.int .i64 t304, .string t305, .int .i64 t306, .int .i64 t307, .int .i64 t308, .bool t309, .slice Ao79 t310.length co79] 33 (0, 0)) (by (with_reducible repeat (first | refine blk_drewN ?_ _ | refine blk_drew ?_ | refine blk_alloc ?_ _)); exact BK314.out) hb); have n7_ := Aside0.mk (below_step bA hb); clear HO_276006; clear HO_290006; clear HO303; clear HO312; clear BK275; clear BK289; clear BK314; clear HB; have HO_276006 := n0_; have HO_290006 := n1_; have HO303 := n2_; have HO312 := n3_; have BK275 := n4_; have BK289 := n5_; have BK314 := n6_; have HB := n7_; clear n0_ n1_ n2_ n3_ n4_ n5_ n6_ n7_; (try clear hb); (try clear hb2); (try clear hk); (try clear hi)))
             go_meet
             case rel => exact ⟨_, ((t313 != t274)), rF, H', ⟨by have := HJ7.out; have := HJ38.out; first | omega | exact Nat.le_refl _⟩, ⟨by (with_reducible repeat (first | apply Kd.R_alloc | apply Kd.R_drewN | apply Kd.R_drew)); exact HO_276006.out⟩, ⟨by (with_reducible repeat (first | apply Kd.R_alloc | apply Kd.R_drewN | apply Kd.R_drew)); exact HO_290006.out⟩, ⟨by (with_reducible repeat (first | apply Kd.R_alloc | apply Kd.R_drewN | apply Kd.R_drew)); exact HO312.out⟩, ⟨by (with_reducible repeat (first | refine blk_drewN ?_ _ | refine blk_drew ?_ | refine blk_alloc ?_ _)); exact BK275.out⟩, ⟨by (with_reducible repeat (first | refine blk_drewN ?_ _ | refine blk_drew ?_ | refine blk_alloc ?_ _)); exact BK289.out⟩, ⟨by (with_reducible repeat (first | refine blk_drewN ?_ _ | refine blk_drew ?_ | refine blk_alloc ?_ _)); exact BK314.out⟩, ⟨bA⟩⟩
            ·replace c82 := Bool.eq_false_iff.mpr c82
             subst c82
             have H1 : (laws_FnExactTakeNode.j2 kj38 t298 true t279 t280 t281 t282 t283 t284 t299) = some r := by rw [if_neg (show ¬ (false = true) by decide)] at H; exact H
             clear H
             have H := H1
             clear H1
             have H' := Aside0.mk H
             clear H
             have hnb89 := NB314_275.out
             have hnc89 := NB275_314.out
             have hnb90 := NB314_289.out
             have hnc90 := NB289_314.out
             obtain ⟨⟨hcz91_0, hcz91_1, hcz91_2, hcz91_3, hcz91_4, hcz91_5, hcz91_6⟩, hfz91_0, hfz91_1, hfz91_2, hfz91_3, hfz91_4, hfz91_5, hfz91_6⟩ := Own.c7 BK314.out
             have hnb92 := NB275_289.out
             have hnc92 := NB289_275.out
             obtain ⟨⟨hcz93_0, hcz93_1, hcz93_2, hcz93_3, hcz93_4, hcz93_5, hcz93_6⟩, hfz93_0, hfz93_1, hfz93_2, hfz93_3, hfz93_4, hfz93_5, hfz93_6⟩ := Own.c7 BK275.out
             go_wp2_with (first | ((with_reducible refine gate_callee (f := 24) rfl ?_); refine goesL_ (some 83) rfl rfl Try.func24 (by kernel_rfl) rfl #[.agg #[.int .i64 t304, .string t305, .int .i64 t306, .int .i64 t307, .int .i64 t308, .bool t309, .slice Ao79 t310.length co79], .agg #[.int .i64 t265, .string t266, .int .i64 t267, .int .i64 t268, .int .i64 t269, .bool t270, .slice Ao14 t271.length co14]] rfl aL ?_; (with_reducible refine (laws_eqNode.calls kj38 t304 t305 t306 t307 t308 t309 _ _ t310 t265 t266 t267 t268 t269 t270 _ _ t271 false _ ?side1 ?side2 ?side3 ?side4 A81.out).mono ?_); (case side1 => repeat (first | exact (Kd.R_reads' HO312.out).2.2 | (with_reducible refine Kd.C_alloc ?_ _) | (with_reducible refine Kd.C_drewN ?_ _) | (with_reducible refine Kd.C_drew ?_))); (case side2 => exact (Kd.R_reads' HO312.out).2.1); (case side3 => repeat (first | exact (Kd.R_reads' HO_276006.out).2.2 | (with_reducible refine Kd.C_alloc ?_ _) | (with_reducible refine Kd.C_drewN ?_ _) | (with_reducible refine Kd.C_drew ?_))); (case side4 => exact (Kd.R_reads' HO_276006.out).2.1); rintro e w94 ⟨rfl, hb⟩; refine ⟨_, rfl, ?_⟩; have n0_ := Aside0.mk (Kd.R_below (by (with_reducible repeat (first | apply Kd.R_alloc | apply Kd.R_drewN | apply Kd.R_drew)); exact HO_276006.out) hb); have n1_ := Aside0.mk (Kd.R_below (by (with_reducible repeat (first | apply Kd.R_alloc | apply Kd.R_drewN | apply Kd.R_drew)); exact HO_290006.out) hb); have n2_ := Aside0.mk (Kd.R_below (by (with_reducible repeat (first | apply Kd.R_alloc | apply Kd.R_drewN | apply Kd.R_drew)); exact HO303.out) hb); have n3_ := Aside0.mk (Kd.R_below (by (with_reducible repeat (first | apply Kd.R_alloc | apply Kd.R_drewN | apply Kd.R_drew)); exact HO312.out) hb); have n4_ := Aside0.mk (blk_below (g := gb275) (o := .cells #[.int .i64 t265, .string t266, .int .i64 t267, .int .i64 t268, .int .i64 t269, .bool t270, .slice Ao14 t271.length co14] 33 (0, 0)) (by (with_reducible repeat (first | refine blk_drewN ?_ _ | refine blk_drew ?_ | refine blk_alloc ?_ _)); exact BK275.out) hb); have n5_ := Aside0.mk (blk_below (g := gb289) (o := .cells #[.int .i64 t279, .string t280, .int .i64 t281, .int .i64 t282, .int .i64 t283, .bool t284, .slice Ao22 t285.length co22] 33 (0, 0)) (by (with_reducible repeat (first | refine blk_drewN ?_ _ | refine blk_drew ?_ | refine blk_alloc ?_ _)); exact BK289.out) hb); have n6_ := Aside0.mk (blk_below (g := gb314) (o := .cells #[.int .i64 t304, .string t305, .int .i64 t306, .int .i64 t307, .int .i64 t308, .bool t309, .slice Ao79 t310.length co79] 33 (0, 0)) (by (with_reducible repeat (first | refine blk_drewN ?_ _ | refine blk_drew ?_ | refine blk_alloc ?_ _)); exact BK314.out) hb); have n7_ := Aside0.mk (below_step bA hb); clear HO_276006; clear HO_290006; clear HO303; clear HO312; clear BK275; clear BK289; clear BK314; clear HB; have HO_276006 := n0_; have HO_290006 := n1_; have HO303 := n2_; have HO312 := n3_; have BK275 := n4_; have BK289 := n5_; have BK314 := n6_; have HB := n7_; clear n0_ n1_ n2_ n3_ n4_ n5_ n6_ n7_; (try clear hb); (try clear hb2); (try clear hk); (try clear hi)))
             go_meet
             case rel => exact ⟨_, (true), rF, H', ⟨by have := HJ7.out; have := HJ38.out; first | omega | exact Nat.le_refl _⟩, ⟨by (with_reducible repeat (first | apply Kd.R_alloc | apply Kd.R_drewN | apply Kd.R_drew)); exact HO_276006.out⟩, ⟨by (with_reducible repeat (first | apply Kd.R_alloc | apply Kd.R_drewN | apply Kd.R_drew)); exact HO_290006.out⟩, ⟨by (with_reducible repeat (first | apply Kd.R_alloc | apply Kd.R_drewN | apply Kd.R_drew)); exact HO312.out⟩, ⟨by (with_reducible repeat (first | refine blk_drewN ?_ _ | refine blk_drew ?_ | refine blk_alloc ?_ _)); exact BK275.out⟩, ⟨by (with_reducible repeat (first | refine blk_drewN ?_ _ | refine blk_drew ?_ | refine blk_alloc ?_ _)); exact BK289.out⟩, ⟨by (with_reducible repeat (first | refine blk_drewN ?_ _ | refine blk_drew ?_ | refine blk_alloc ?_ _)); exact BK314.out⟩, ⟨bA⟩⟩
           case rest =>
            clear HC66
            try clear c1
            try clear c2
            try clear p2
            try clear c3
            try clear c3b0
            try clear c3b1
            try clear c4
            try clear c5
            try clear c6
            try clear c7
            try clear c8
            try clear c9
            try clear c13
            try clear c20
            try clear c24
            try clear c25
            try clear c26
            try clear c30
            try clear c34
            try clear c37
            try clear c43
            try clear c43b0
            try clear c45
            try clear c46
            try clear c47
            try clear c48
            try clear c50
            try clear c51
            try clear c52
            try clear c53
            try clear c54
            try clear c57
            try clear c57b0
            try clear c58
            try clear c63
            try clear c63b0
            try clear c63b1
            try clear c67
            try clear c76
            try clear c77
            try clear c82
            try clear c83
            try clear c84
            try clear c86
            try clear c89
            try clear c90
            try clear c92
            try clear hcz13_0 hcz13_1 hcz13_2 hcz13_3 hcz13_4 hcz13_5 hcz13_6
            try clear hcz21_0 hcz21_1 hcz21_2 hcz21_3 hcz21_4 hcz21_5 hcz21_6
            try clear hcz27_0 hcz27_1 hcz27_2 hcz27_3 hcz27_4 hcz27_5 hcz27_6
            try clear hcz28_0 hcz28_1 hcz28_2 hcz28_3 hcz28_4 hcz28_5 hcz28_6
            try clear hcz31_0 hcz31_1 hcz31_2 hcz31_3 hcz31_4 hcz31_5 hcz31_6
            try clear hcz32_0 hcz32_1 hcz32_2 hcz32_3 hcz32_4 hcz32_5 hcz32_6
            try clear hcz47_0 hcz47_1 hcz47_2 hcz47_3 hcz47_4 hcz47_5 hcz47_6
            try clear hcz48_0 hcz48_1 hcz48_2 hcz48_3 hcz48_4 hcz48_5 hcz48_6
            try clear hcz51_0 hcz51_1 hcz51_2 hcz51_3 hcz51_4 hcz51_5 hcz51_6
            try clear hcz52_0 hcz52_1 hcz52_2 hcz52_3 hcz52_4 hcz52_5 hcz52_6
            try clear hcz59_0 hcz59_1 hcz59_2 hcz59_3 hcz59_4 hcz59_5 hcz59_6
            try clear hcz61_0 hcz61_1 hcz61_2 hcz61_3 hcz61_4 hcz61_5 hcz61_6
            try clear hcz68_0 hcz68_1 hcz68_2 hcz68_3 hcz68_4 hcz68_5 hcz68_6
            try clear hcz70_0 hcz70_1 hcz70_2 hcz70_3 hcz70_4 hcz70_5 hcz70_6
            try clear hcz78_0 hcz78_1 hcz78_2 hcz78_3 hcz78_4 hcz78_5 hcz78_6
            try clear hcz85_0 hcz85_1 hcz85_2 hcz85_3 hcz85_4 hcz85_5 hcz85_6
            try clear hcz87_0 hcz87_1 hcz87_2 hcz87_3 hcz87_4 hcz87_5 hcz87_6
            try clear hcz91_0 hcz91_1 hcz91_2 hcz91_3 hcz91_4 hcz91_5 hcz91_6
            try clear hcz93_0 hcz93_1 hcz93_2 hcz93_3 hcz93_4 hcz93_5 hcz93_6
            try clear hfz13_0 hfz13_1 hfz13_2 hfz13_3 hfz13_4 hfz13_5 hfz13_6
            try clear hfz21_0 hfz21_1 hfz21_2 hfz21_3 hfz21_4 hfz21_5 hfz21_6
            try clear hfz27_0 hfz27_1 hfz27_2 hfz27_3 hfz27_4 hfz27_5 hfz27_6
            try clear hfz28_0 hfz28_1 hfz28_2 hfz28_3 hfz28_4 hfz28_5 hfz28_6
            try clear hfz31_0 hfz31_1 hfz31_2 hfz31_3 hfz31_4 hfz31_5 hfz31_6
            try clear hfz32_0 hfz32_1 hfz32_2 hfz32_3 hfz32_4 hfz32_5 hfz32_6
            try clear hfz47_0 hfz47_1 hfz47_2 hfz47_3 hfz47_4 hfz47_5 hfz47_6
            try clear hfz48_0 hfz48_1 hfz48_2 hfz48_3 hfz48_4 hfz48_5 hfz48_6
            try clear hfz51_0 hfz51_1 hfz51_2 hfz51_3 hfz51_4 hfz51_5 hfz51_6
            try clear hfz52_0 hfz52_1 hfz52_2 hfz52_3 hfz52_4 hfz52_5 hfz52_6
            try clear hfz59_0 hfz59_1 hfz59_2 hfz59_3 hfz59_4 hfz59_5 hfz59_6
            try clear hfz61_0 hfz61_1 hfz61_2 hfz61_3 hfz61_4 hfz61_5 hfz61_6
            try clear hfz68_0 hfz68_1 hfz68_2 hfz68_3 hfz68_4 hfz68_5 hfz68_6
            try clear hfz70_0 hfz70_1 hfz70_2 hfz70_3 hfz70_4 hfz70_5 hfz70_6
            try clear hfz78_0 hfz78_1 hfz78_2 hfz78_3 hfz78_4 hfz78_5 hfz78_6
            try clear hfz85_0 hfz85_1 hfz85_2 hfz85_3 hfz85_4 hfz85_5 hfz85_6
            try clear hfz87_0 hfz87_1 hfz87_2 hfz87_3 hfz87_4 hfz87_5 hfz87_6
            try clear hfz91_0 hfz91_1 hfz91_2 hfz91_3 hfz91_4 hfz91_5 hfz91_6
            try clear hfz93_0 hfz93_1 hfz93_2 hfz93_3 hfz93_4 hfz93_5 hfz93_6
            try clear p2
            obtain ⟨kq, x89_65, rfl, HA, HJ65, HO_276006, HO_290006, HO_315006, BK275, BK289, BK314, HB⟩ := hcut
            have hl290006_65 := (Kd.R_reads' HO_290006.out).1
            rw [hl290006_65] at HO_290006
            (try simp only [hl290006_65])
            (try simp only [hl290006_65] at BK275)
            (try simp only [hl290006_65] at BK289)
            (try simp only [hl290006_65] at BK314)
            (try simp only [hl290006_65] at HO_276006)
            (try simp only [hl290006_65] at HO_315006)
            cases kq with
            | zero => exact absurd HA.out (by simp [laws_FnExactTakeNode.j2])
            | succ kj65 =>
             have H := HA.out
             clear HA
             simp only [laws_FnExactTakeNode.j2] at H
             by_cases c95 : x89_65 = true
             ·subst c95
              have H1 : (some false) = some r := by rw [if_pos rfl] at H; exact H
              clear H
              have H := H1
              clear H1
              exact absurd ((Option.some.inj H).trans hr_) (by decide)
             ·replace c95 := Bool.eq_false_iff.mpr c95
              subst c95
              have H1 : ((laws_heldNode.f kj65 t279 t280 t281 t282 t283 t284 t299 1).bind fun t316 => (if t316 < 0 then (some false) else (if t316 = t298 then (some true) else (some false)))) = some r := by rw [if_neg (show ¬ (false = true) by decide)] at H; exact H
              clear H
              have H := H1
              clear H1
              replace H := Option.bind_eq_some_iff.mp H
              obtain ⟨t316, A960, H⟩ := H
              replace H : (if t316 < 0 then (some false) else (if t316 = t298 then (some true) else (some false))) = some r := H
              have A96 := Aside0.mk A960
              clear A960
              by_cases c97 : t316 < 0
              ·rw [if_pos c97] at H
               have c97b0 : decide (t316 < 0) = true := decide_eq_true c97
               clear c97
               exact absurd ((Option.some.inj H).trans hr_) (by decide)
              ·rw [if_neg c97] at H
               have c97b0 : decide (t316 < 0) = false := decide_eq_false c97
               clear c97
               by_cases c102 : t316 = t298
               ·rw [if_pos c102] at H
                have c102b0 : (t316 == t298) = true := beq_iff_eq.mpr c102
                have c102b1 : (t316 != t298) = false := bne_eq_false_iff_eq.mpr c102
                clear c102
                obtain rfl := Option.some.inj H
                have hnb103 := NB289_275.out
                have hnc103 := NB275_289.out
                have hnb104 := NB289_314.out
                have hnc104 := NB314_289.out
                obtain ⟨⟨hcz105_0, hcz105_1, hcz105_2, hcz105_3, hcz105_4, hcz105_5, hcz105_6⟩, hfz105_0, hfz105_1, hfz105_2, hfz105_3, hfz105_4, hfz105_5, hfz105_6⟩ := Own.c7 BK289.out
                go_wp2_with (first | ((with_reducible refine gate_callee (f := 53) rfl ?_); refine goesL_ (some 92) rfl rfl Try.func53 (by kernel_rfl) rfl #[.agg #[.int .i64 t279, .string t280, .int .i64 t281, .int .i64 t282, .int .i64 t283, .bool t284, .slice Ao22 t299.length co22], .int .i64 1] rfl aL ?_; (with_reducible refine (laws_heldNode.calls kj65 t279 t280 t281 t282 t283 t284 _ _ t299 1 t316 _ ?side1 ?side2 A96.out).mono ?_); (case side1 => repeat (first | exact (Kd.R_reads' HO_290006.out).2.2 | (with_reducible refine Kd.C_alloc ?_ _) | (with_reducible refine Kd.C_drewN ?_ _) | (with_reducible refine Kd.C_drew ?_))); (case side2 => exact (Kd.R_reads' HO_290006.out).2.1); rintro e w106 ⟨rfl, hb⟩; refine ⟨_, rfl, ?_⟩; have n0_ := Aside0.mk (Kd.R_below (by (with_reducible repeat (first | apply Kd.R_alloc | apply Kd.R_drewN | apply Kd.R_drew)); exact HO_276006.out) hb); have n1_ := Aside0.mk (Kd.R_below (by (with_reducible repeat (first | apply Kd.R_alloc | apply Kd.R_drewN | apply Kd.R_drew)); exact HO_290006.out) hb); have n2_ := Aside0.mk (Kd.R_below (by (with_reducible repeat (first | apply Kd.R_alloc | apply Kd.R_drewN | apply Kd.R_drew)); exact HO_315006.out) hb); have n3_ := Aside0.mk (blk_below (g := gb275) (o := .cells #[.int .i64 t265, .string t266, .int .i64 t267, .int .i64 t268, .int .i64 t269, .bool t270, .slice Ao14 t271.length co14] 33 (0, 0)) (by (with_reducible repeat (first | refine blk_drewN ?_ _ | refine blk_drew ?_ | refine blk_alloc ?_ _)); exact BK275.out) hb); have n4_ := Aside0.mk (blk_below (g := gb289) (o := .cells #[.int .i64 t279, .string t280, .int .i64 t281, .int .i64 t282, .int .i64 t283, .bool t284, .slice Ao22 t299.length co22] 33 (0, 0)) (by (with_reducible repeat (first | refine blk_drewN ?_ _ | refine blk_drew ?_ | refine blk_alloc ?_ _)); exact BK289.out) hb); have n5_ := Aside0.mk (blk_below (g := gb314) (o := .cells #[.int .i64 t304, .string t305, .int .i64 t306, .int .i64 t307, .int .i64 t308, .bool t309, .slice Ao79 t310.length co79] 33 (0, 0)) (by (with_reducible repeat (first | refine blk_drewN ?_ _ | refine blk_drew ?_ | refine blk_alloc ?_ _)); exact BK314.out) hb); have n6_ := Aside0.mk (below_step bA hb); clear HO_276006; clear HO_290006; clear HO_315006; clear BK275; clear BK289; clear BK314; clear HB; have HO_276006 := n0_; have HO_290006 := n1_; have HO_315006 := n2_; have BK275 := n3_; have BK289 := n4_; have BK314 := n5_; have HB := n6_; clear n0_ n1_ n2_ n3_ n4_ n5_ n6_; (try clear hb); (try clear hb2); (try clear hk); (try clear hi)))
                go_ret
                exact ⟨rE, bA⟩
               ·rw [if_neg c102] at H
                have c102b0 : (t316 == t298) = false := beq_eq_false_iff_ne.mpr c102
                have c102b1 : (t316 != t298) = true := bne_iff_ne.mpr c102
                exact absurd ((Option.some.inj H).trans hr_) (by decide)
          ·rw [if_neg c63] at H
           have c63b0 : (t300 == t298) = false := beq_eq_false_iff_ne.mpr c63
           have c63b1 : (t300 != t298) = true := bne_iff_ne.mpr c63
           exact absurd ((Option.some.inj H).trans hr_) (by decide)
     ·replace c37 := Bool.eq_false_iff.mpr c37
      subst c37
      have H1 : (some false) = some r := by rw [if_neg (show ¬ (false = true) by decide)] at H; exact H
      clear H
      have H := H1
      clear H1
      exact absurd ((Option.some.inj H).trans hr_) (by decide)


end Go.Proofs.Ytmjfnkebpdmhbaa.Q
