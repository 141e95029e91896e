/- The machine side of a law, written by a program of this session over the translation: for each Go function a Lean function with the same answers, and the proof that the Go code comes to them. -/
import Derived.Test.YtmjfnkebpdmhbaaQx0
import Derived.Test.YtmjfnkebpdmhbaaQx1
import Derived.Test.YtmjfnkebpdmhbaaQx7
import Derived.Test.YtmjfnkebpdmhbaaQx8
import Derived.Test.YtmjfnkebpdmhbaaQx10
namespace Go.Proofs.Ytmjfnkebpdmhbaa.Q
open Go.RowKit Go.Proofs.YtmjfnkebpdmhbaaW.PrintWords Go.Proofs.YtmjfnkebpdmhbaaW.PrintLast Go.Proofs.YtmjfnkebpdmhbaaW.PrintMore
attribute [local go_sem] max2_int min2_int max_two min_two max_three min_three max_four min_four   -- for this text's walks alone
set_option linter.unusedVariables false
set_option linter.unusedSimpArgs false

/-! ### laws_FnExactPutNode: function 12 -/
def laws_FnExactPutNode.j0 : Nat → List Int → List Int → Bool → Int → ByteArray → Int → Int → Int → Bool → List Int → Option (Bool)
  | 0, _, _, _, _, _, _, _, _, _, _ => none
  | k + 1, x4, x6, x42, x419000, x419001, x419002, x419003, x419004, x419005, x419006 => if x42 = true then (some false) else ((laws_markByteS.f k x6 1).bind fun bt459 => ((laws_heldByteS.f k bt459.2 1).bind fun t461 => (if t461 < 0 then (some false) else (if t461 = bt459.1 then ((laws_toNode.f k x419000 x419001 x419002 x419003 x419004 x419005 x419006).bind fun bt462 => ((impl_PutNode.f k bt462.1 bt462.2.1 bt462.2.2.1 bt462.2.2.2.1 bt462.2.2.2.2.1 bt462.2.2.2.2.2.1 bt462.2.2.2.2.2.2).bind fun t471 => ((laws_eqByteS.f k t471 x4).bind fun t474 => (if t474 = true then ((laws_heldByteS.f k bt459.2 1).bind fun t475 => (if t475 < 0 then (some false) else (if t475 = bt459.1 then (some true) else (some false)))) else (some false))))) else (some false)))))
def laws_FnExactPutNode.f (k : Nat) (a0_0 : Int) (a0_1 : ByteArray) (a0_2 : Int) (a0_3 : Int) (a0_4 : Int) (a0_5 : Bool) (l0_6 : List Int) : Option (Bool) := (laws_szNode.f a0_0 a0_1 a0_2 a0_3 a0_4 a0_5 l0_6 1048576).bind fun t419 => (if t419 < 0 then (some true) else ((laws_toNode.f k a0_0 a0_1 a0_2 a0_3 a0_4 a0_5 l0_6).bind fun bt420 => ((spec_PutNode.f k bt420.1 bt420.2.1 bt420.2.2.1 bt420.2.2.2.1 bt420.2.2.2.2.1 bt420.2.2.2.2.2.1 bt420.2.2.2.2.2.2).bind fun t429 => ((laws_toNode.f k a0_0 a0_1 a0_2 a0_3 a0_4 a0_5 l0_6).bind fun bt432 => ((impl_PutNode.f k bt432.1 bt432.2.1 bt432.2.2.1 bt432.2.2.2.1 bt432.2.2.2.2.1 bt432.2.2.2.2.2.1 bt432.2.2.2.2.2.2).bind fun t442 => ((laws_eqByteS.f k t442 t429).bind fun t445 => (if t445 = true then ((laws_toNode.f k a0_0 a0_1 a0_2 a0_3 a0_4 a0_5 l0_6).bind fun bt446 => ((laws_eqNode.f k bt432.1 bt432.2.1 bt432.2.2.1 bt432.2.2.2.1 bt432.2.2.2.2.1 bt432.2.2.2.2.2.1 bt432.2.2.2.2.2.2 bt446.1 bt446.2.1 bt446.2.2.1 bt446.2.2.2.1 bt446.2.2.2.2.1 bt446.2.2.2.2.2.1 bt446.2.2.2.2.2.2).bind fun t455 => (if t455 = true then ((laws_markNode.f k bt432.1 bt432.2.1 bt432.2.2.1 bt432.2.2.2.1 bt432.2.2.2.2.1 bt432.2.2.2.2.2.1 bt432.2.2.2.2.2.2 1).bind fun bt456 => (if bt456.1 < 0 then (laws_FnExactPutNode.j0 k t429 t442 true a0_0 a0_1 a0_2 a0_3 a0_4 a0_5 l0_6) else ((laws_eqByteS.f k t442 t429).bind fun t458 => (laws_FnExactPutNode.j0 k t429 t442 (!t458) a0_0 a0_1 a0_2 a0_3 a0_4 a0_5 l0_6)))) else (some false)))) else (some false))))))))
theorem laws_FnExactPutNode.mono_l : ∀ k, (∀ y0 y1 y2 y3 y4 y5 y6 y7 y8 y9, LeO (laws_FnExactPutNode.j0 k y0 y1 y2 y3 y4 y5 y6 y7 y8 y9) (laws_FnExactPutNode.j0 (k + 1) y0 y1 y2 y3 y4 y5 y6 y7 y8 y9))
  | 0 => fun _ _ _ _ _ _ _ _ _ _ r h => by simp [laws_FnExactPutNode.j0] at h
  | k + 1 => by
    have ih0 := laws_FnExactPutNode.mono_l k
    · intro y0 y1 y2 y3 y4 y5 y6 y7 y8 y9
      unfold laws_FnExactPutNode.j0
      repeat' first
      | (with_reducible exact ih0 _ _ _ _ _ _ _ _ _ _)
      | (with_reducible exact impl_PutNode.mono _ _ _ _ _ _ _ _)
      | (with_reducible exact laws_eqByteS.mono _ _ _)
      | (with_reducible exact laws_eqNode.mono _ _ _ _ _ _ _ _ _ _ _ _ _ _ _)
      | (with_reducible exact laws_heldByteS.mono _ _ _)
      | (with_reducible exact laws_markByteS.mono _ _ _)
      | (with_reducible exact laws_markNode.mono _ _ _ _ _ _ _ _ _)
      | (with_reducible exact laws_toNode.mono _ _ _ _ _ _ _ _)
      | (with_reducible exact spec_PutNode.mono _ _ _ _ _ _ _ _)
      | (with_reducible exact LeO.refl _)
      | (with_reducible exact LeO.none _)
      | (with_reducible refine LeO.ite ?_ ?_)
      | (with_reducible refine LeO.bind ?_ (fun _ => ?_))
      | exact ih0 _ _ _ _ _ _ _ _ _ _
      | exact impl_PutNode.mono _ _ _ _ _ _ _ _
      | exact laws_eqByteS.mono _ _ _
      | exact laws_eqNode.mono _ _ _ _ _ _ _ _ _ _ _ _ _ _ _
      | exact laws_heldByteS.mono _ _ _
      | exact laws_markByteS.mono _ _ _
      | exact laws_markNode.mono _ _ _ _ _ _ _ _ _
      | exact laws_toNode.mono _ _ _ _ _ _ _ _
      | exact spec_PutNode.mono _ _ _ _ _ _ _ _
      | exact LeO.none _
      | refine LeO.ite ?_ ?_
      | refine LeO.bind ?_ (fun _ => ?_)
theorem laws_FnExactPutNode.mono : ∀ a0 a1 a2 a3 a4 a5 a6 k, LeO (laws_FnExactPutNode.f k a0 a1 a2 a3 a4 a5 a6) (laws_FnExactPutNode.f (k + 1) a0 a1 a2 a3 a4 a5 a6) := by
  intro a0 a1 a2 a3 a4 a5 a6 k
  have ih0 := laws_FnExactPutNode.mono_l k
  unfold laws_FnExactPutNode.f
  repeat' first
      | (with_reducible exact ih0 _ _ _ _ _ _ _ _ _ _)
      | (with_reducible exact impl_PutNode.mono _ _ _ _ _ _ _ _)
      | (with_reducible exact laws_eqByteS.mono _ _ _)
      | (with_reducible exact laws_eqNode.mono _ _ _ _ _ _ _ _ _ _ _ _ _ _ _)
      | (with_reducible exact laws_heldByteS.mono _ _ _)
      | (with_reducible exact laws_markByteS.mono _ _ _)
      | (with_reducible exact laws_markNode.mono _ _ _ _ _ _ _ _ _)
      | (with_reducible exact laws_toNode.mono _ _ _ _ _ _ _ _)
      | (with_reducible exact spec_PutNode.mono _ _ _ _ _ _ _ _)
      | (with_reducible exact LeO.refl _)
      | (with_reducible exact LeO.none _)
      | (with_reducible refine LeO.ite ?_ ?_)
      | (with_reducible refine LeO.bind ?_ (fun _ => ?_))
      | exact ih0 _ _ _ _ _ _ _ _ _ _
      | exact impl_PutNode.mono _ _ _ _ _ _ _ _
      | exact laws_eqByteS.mono _ _ _
      | exact laws_eqNode.mono _ _ _ _ _ _ _ _ _ _ _ _ _ _ _
      | exact laws_heldByteS.mono _ _ _
      | exact laws_markByteS.mono _ _ _
      | exact laws_markNode.mono _ _ _ _ _ _ _ _ _
      | exact laws_toNode.mono _ _ _ _ _ _ _ _
      | exact spec_PutNode.mono _ _ _ _ _ _ _ _
      | exact LeO.none _
      | refine LeO.ite ?_ ?_
      | refine LeO.bind ?_ (fun _ => ?_)
set_option maxHeartbeats 8000000 in
set_option maxRecDepth 100000 in
theorem laws_FnExactPutNode.calls (k : Nat) (a0_0 : Int) (a0_1 : ByteArray) (a0_2 : Int) (a0_3 : Int) (a0_4 : Int) (a0_5 : Bool) (A0_6 : Option Addr) (c0_6 : Nat) (l0_6 : List Int) (r : Bool) (w : World) (hr0_6 : Kd.C (Kd.int .i64) w A0_6 l0_6.length l0_6) (hc0_6 : l0_6.length ≤ c0_6) (h : laws_FnExactPutNode.f k a0_0 a0_1 a0_2 a0_3 a0_4 a0_5 l0_6 = some r) (hr_ : r = true) :
    Calls Try.prog 12 #[.agg #[.int .i64 a0_0, .string a0_1, .int .i64 a0_2, .int .i64 a0_3, .int .i64 a0_4, .bool a0_5, .slice A0_6 l0_6.length c0_6]] w fun e w' => e = .returned (.bool r) ∧ Below w.heap.size w w' := by
  have hu30 := Try.underlying30
  have hu33 := Try.underlying33
  have HR0_6 := Aside0.mk hr0_6
  have HC0_6 := Aside0.mk hc0_6
  clear hr0_6 hc0_6
  have HB := Aside0.mk (Below.refl w.heap.size w)
  have H : ((laws_szNode.f a0_0 a0_1 a0_2 a0_3 a0_4 a0_5 l0_6 1048576).bind fun t419 => (if t419 < 0 then (some true) else ((laws_toNode.f k a0_0 a0_1 a0_2 a0_3 a0_4 a0_5 l0_6).bind fun bt420 => ((spec_PutNode.f k bt420.1 bt420.2.1 bt420.2.2.1 bt420.2.2.2.1 bt420.2.2.2.2.1 bt420.2.2.2.2.2.1 bt420.2.2.2.2.2.2).bind fun t429 => ((laws_toNode.f k a0_0 a0_1 a0_2 a0_3 a0_4 a0_5 l0_6).bind fun bt432 => ((impl_PutNode.f k bt432.1 bt432.2.1 bt432.2.2.1 bt432.2.2.2.1 bt432.2.2.2.2.1 bt432.2.2.2.2.2.1 bt432.2.2.2.2.2.2).bind fun t442 => ((laws_eqByteS.f k t442 t429).bind fun t445 => (if t445 = true then ((laws_toNode.f k a0_0 a0_1 a0_2 a0_3 a0_4 a0_5 l0_6).bind fun bt446 => ((laws_eqNode.f k bt432.1 bt432.2.1 bt432.2.2.1 bt432.2.2.2.1 bt432.2.2.2.2.1 bt432.2.2.2.2.2.1 bt432.2.2.2.2.2.2 bt446.1 bt446.2.1 bt446.2.2.1 bt446.2.2.2.1 bt446.2.2.2.2.1 bt446.2.2.2.2.2.1 bt446.2.2.2.2.2.2).bind fun t455 => (if t455 = true then ((laws_markNode.f k bt432.1 bt432.2.1 bt432.2.2.1 bt432.2.2.2.1 bt432.2.2.2.2.1 bt432.2.2.2.2.2.1 bt432.2.2.2.2.2.2 1).bind fun bt456 => (if bt456.1 < 0 then (laws_FnExactPutNode.j0 k t429 t442 true a0_0 a0_1 a0_2 a0_3 a0_4 a0_5 l0_6) else ((laws_eqByteS.f k t442 t429).bind fun t458 => (laws_FnExactPutNode.j0 k t429 t442 (!t458) a0_0 a0_1 a0_2 a0_3 a0_4 a0_5 l0_6)))) else (some false)))) else (some false))))))))) = some r := h
  clear h
  replace H := Option.bind_eq_some_iff.mp H
  obtain ⟨t419, A20, H⟩ := H
  replace H : (if t419 < 0 then (some true) else ((laws_toNode.f k a0_0 a0_1 a0_2 a0_3 a0_4 a0_5 l0_6).bind fun bt420 => ((spec_PutNode.f k bt420.1 bt420.2.1 bt420.2.2.1 bt420.2.2.2.1 bt420.2.2.2.2.1 bt420.2.2.2.2.2.1 bt420.2.2.2.2.2.2).bind fun t429 => ((laws_toNode.f k a0_0 a0_1 a0_2 a0_3 a0_4 a0_5 l0_6).bind fun bt432 => ((impl_PutNode.f k bt432.1 bt432.2.1 bt432.2.2.1 bt432.2.2.2.1 bt432.2.2.2.2.1 bt432.2.2.2.2.2.1 bt432.2.2.2.2.2.2).bind fun t442 => ((laws_eqByteS.f k t442 t429).bind fun t445 => (if t445 = true then ((laws_toNode.f k a0_0 a0_1 a0_2 a0_3 a0_4 a0_5 l0_6).bind fun bt446 => ((laws_eqNode.f k bt432.1 bt432.2.1 bt432.2.2.1 bt432.2.2.2.1 bt432.2.2.2.2.1 bt432.2.2.2.2.2.1 bt432.2.2.2.2.2.2 bt446.1 bt446.2.1 bt446.2.2.1 bt446.2.2.2.1 bt446.2.2.2.2.1 bt446.2.2.2.2.2.1 bt446.2.2.2.2.2.2).bind fun t455 => (if t455 = true then ((laws_markNode.f k bt432.1 bt432.2.1 bt432.2.2.1 bt432.2.2.2.1 bt432.2.2.2.2.1 bt432.2.2.2.2.2.1 bt432.2.2.2.2.2.2 1).bind fun bt456 => (if bt456.1 < 0 then (laws_FnExactPutNode.j0 k t429 t442 true a0_0 a0_1 a0_2 a0_3 a0_4 a0_5 l0_6) else ((laws_eqByteS.f k t442 t429).bind fun t458 => (laws_FnExactPutNode.j0 k t429 t442 (!t458) a0_0 a0_1 a0_2 a0_3 a0_4 a0_5 l0_6)))) else (some false)))) else (some false)))))))) = some r := H
  have A2 := Aside0.mk A20
  clear A20
  by_cases c3 : t419 < 0
  · rw [if_pos c3] at H
    have c3b0 : decide (t419 < 0) = true := decide_eq_true c3
    clear c3
    obtain rfl := Option.some.inj H
    go_enter Try.func12, Try.ntmps12
    go_wp2_with (first | ((with_reducible refine gate_dst (N := 1) rfl ?_); refine box_event ?hg (N := 1) ?hd (cs := #[.int .i64 a0_0, .string a0_1, .int .i64 a0_2, .int .i64 a0_3, .int .i64 a0_4, .bool a0_5, .slice A0_6 l0_6.length c0_6]) (t := 30) ?hr ?_; (case hd => rfl); (case hg => rfl); (case hr => first | (go_simp; done) | (go_simp; rfl)); intro gb418 hg w4 hbox hb; have n0_ := Aside0.mk (below_step (by repeat (first | (with_reducible first | exact HB.out | apply below_alloc | apply pw_below_drewN | apply below_drew1) | exact HB.out)) hb); have n1_ := Aside0.mk (hbox); have n2_ := Aside0.mk ((by rw [hg]; exact (below_size (by repeat (first | (with_reducible first | exact HB.out | apply below_alloc | apply pw_below_drewN | apply below_drew1) | exact HB.out))) : w.heap.size ≤ gb418)); have n3_ := Aside0.mk ((by rw [hg]; exact (below_size (by repeat (first | (with_reducible first | exact HB.out | apply below_alloc | apply pw_below_drewN | apply below_drew1) | exact HB.out))) : w.heap.size ≤ gb418)); clear HB; have HB := n0_; have BK418 := n1_; have GW418 := n2_; have GE418 := n3_; clear n0_ n1_ n2_ n3_; clear hb hbox hg; have hcz5_0 : w4.cell? ⟨gb418, 0, none⟩ = some (.int .i64 a0_0) := (blk_cell BK418.out 0).trans rfl; have hcz5_1 : w4.cell? ⟨gb418, 1, none⟩ = some (.string a0_1) := (blk_cell BK418.out 1).trans rfl; have hcz5_2 : w4.cell? ⟨gb418, 2, none⟩ = some (.int .i64 a0_2) := (blk_cell BK418.out 2).trans rfl; have hcz5_3 : w4.cell? ⟨gb418, 3, none⟩ = some (.int .i64 a0_3) := (blk_cell BK418.out 3).trans rfl; have hcz5_4 : w4.cell? ⟨gb418, 4, none⟩ = some (.int .i64 a0_4) := (blk_cell BK418.out 4).trans rfl; have hcz5_5 : w4.cell? ⟨gb418, 5, none⟩ = some (.bool a0_5) := (blk_cell BK418.out 5).trans rfl; have hcz5_6 : w4.cell? ⟨gb418, 6, none⟩ = some (.slice A0_6 l0_6.length c0_6) := (blk_cell BK418.out 6).trans rfl; have hfz5_0 := blk_frozen BK418.out 0; have hfz5_1 := blk_frozen BK418.out 1; have hfz5_2 := blk_frozen BK418.out 2; have hfz5_3 := blk_frozen BK418.out 3; have hfz5_4 := blk_frozen BK418.out 4; have hfz5_5 := blk_frozen BK418.out 5; have hfz5_6 := blk_frozen BK418.out 6) | ((with_reducible refine gate_callee (f := 20) rfl ?_); refine goesL_ (some 13) rfl rfl Try.func20 (by kernel_rfl) rfl #[.agg #[.int .i64 a0_0, .string a0_1, .int .i64 a0_2, .int .i64 a0_3, .int .i64 a0_4, .bool a0_5, .slice A0_6 l0_6.length c0_6], .int .i64 1048576] rfl (by (try simp only [List.map_toArray, List.map_cons, List.map_nil]); first | done | rfl | (simp only [List.length_drop, List.length_take]; rfl)) ?_; (with_reducible refine (laws_szNode.calls a0_0 a0_1 a0_2 a0_3 a0_4 a0_5 _ _ l0_6 1048576 t419 _ ?side1 ?side2 A2.out).mono ?_); (case side1 => repeat (first | exact (Kd.C_below HR0_6.out HB.out) | (with_reducible refine Kd.C_alloc ?_ _) | (with_reducible refine Kd.C_drewN ?_ _) | (with_reducible refine Kd.C_drew ?_))); (case side2 => exact HC0_6.out); rintro e w6 ⟨rfl, hb⟩; refine ⟨_, rfl, ?_⟩; have n0_ := Aside0.mk (blk_below (g := gb418) (o := .cells #[.int .i64 a0_0, .string a0_1, .int .i64 a0_2, .int .i64 a0_3, .int .i64 a0_4, .bool a0_5, .slice A0_6 l0_6.length c0_6] 30 (0, 0)) (by (with_reducible repeat (first | refine blk_drewN ?_ _ | refine blk_drew ?_ | refine blk_alloc ?_ _)); exact BK418.out) hb); have n1_ := Aside0.mk (below_step (by repeat (first | (with_reducible first | exact HB.out | apply below_alloc | apply pw_below_drewN | apply below_drew1 | refine below_set ?_ GE418.out) | exact HB.out)) hb); clear BK418; clear HB; have BK418 := n0_; have HB := n1_; clear n0_ n1_; (try clear hb); (try clear hb2); (try clear hk); (try clear hi)))
    go_ret
    exact ⟨by first | rfl | (simp [errW_none, errW_some] <;> rfl) | (simp [*, errW_none, errW_some] <;> rfl), by repeat (first | (with_reducible first | exact HB.out | apply below_alloc | apply pw_below_drewN | apply below_drew1 | refine below_set ?_ GE418.out) | exact HB.out)⟩
  · rw [if_neg c3] at H
    have c3b0 : decide (t419 < 0) = false := decide_eq_false c3
    clear c3
    replace H := Option.bind_eq_some_iff.mp H
    obtain ⟨⟨t420, t421, t422, t423, t424, t425, t426⟩, A70, H⟩ := H
    replace H : ((spec_PutNode.f k t420 t421 t422 t423 t424 t425 t426).bind fun t429 => ((laws_toNode.f k a0_0 a0_1 a0_2 a0_3 a0_4 a0_5 l0_6).bind fun bt432 => ((impl_PutNode.f k bt432.1 bt432.2.1 bt432.2.2.1 bt432.2.2.2.1 bt432.2.2.2.2.1 bt432.2.2.2.2.2.1 bt432.2.2.2.2.2.2).bind fun t442 => ((laws_eqByteS.f k t442 t429).bind fun t445 => (if t445 = true then ((laws_toNode.f k a0_0 a0_1 a0_2 a0_3 a0_4 a0_5 l0_6).bind fun bt446 => ((laws_eqNode.f k bt432.1 bt432.2.1 bt432.2.2.1 bt432.2.2.2.1 bt432.2.2.2.2.1 bt432.2.2.2.2.2.1 bt432.2.2.2.2.2.2 bt446.1 bt446.2.1 bt446.2.2.1 bt446.2.2.2.1 bt446.2.2.2.2.1 bt446.2.2.2.2.2.1 bt446.2.2.2.2.2.2).bind fun t455 => (if t455 = true then ((laws_markNode.f k bt432.1 bt432.2.1 bt432.2.2.1 bt432.2.2.2.1 bt432.2.2.2.2.1 bt432.2.2.2.2.2.1 bt432.2.2.2.2.2.2 1).bind fun bt456 => (if bt456.1 < 0 then (laws_FnExactPutNode.j0 k t429 t442 true a0_0 a0_1 a0_2 a0_3 a0_4 a0_5 l0_6) else ((laws_eqByteS.f k t442 t429).bind fun t458 => (laws_FnExactPutNode.j0 k t429 t442 (!t458) a0_0 a0_1 a0_2 a0_3 a0_4 a0_5 l0_6)))) else (some false)))) else (some false)))))) = some r := H
    have A7 := Aside0.mk A70
    clear A70
    replace H := Option.bind_eq_some_iff.mp H
    obtain ⟨t429, A80, H⟩ := H
    replace H : ((laws_toNode.f k a0_0 a0_1 a0_2 a0_3 a0_4 a0_5 l0_6).bind fun bt432 => ((impl_PutNode.f k bt432.1 bt432.2.1 bt432.2.2.1 bt432.2.2.2.1 bt432.2.2.2.2.1 bt432.2.2.2.2.2.1 bt432.2.2.2.2.2.2).bind fun t442 => ((laws_eqByteS.f k t442 t429).bind fun t445 => (if t445 = true then ((laws_toNode.f k a0_0 a0_1 a0_2 a0_3 a0_4 a0_5 l0_6).bind fun bt446 => ((laws_eqNode.f k bt432.1 bt432.2.1 bt432.2.2.1 bt432.2.2.2.1 bt432.2.2.2.2.1 bt432.2.2.2.2.2.1 bt432.2.2.2.2.2.2 bt446.1 bt446.2.1 bt446.2.2.1 bt446.2.2.2.1 bt446.2.2.2.2.1 bt446.2.2.2.2.2.1 bt446.2.2.2.2.2.2).bind fun t455 => (if t455 = true then ((laws_markNode.f k bt432.1 bt432.2.1 bt432.2.2.1 bt432.2.2.2.1 bt432.2.2.2.2.1 bt432.2.2.2.2.2.1 bt432.2.2.2.2.2.2 1).bind fun bt456 => (if bt456.1 < 0 then (laws_FnExactPutNode.j0 k t429 t442 true a0_0 a0_1 a0_2 a0_3 a0_4 a0_5 l0_6) else ((laws_eqByteS.f k t442 t429).bind fun t458 => (laws_FnExactPutNode.j0 k t429 t442 (!t458) a0_0 a0_1 a0_2 a0_3 a0_4 a0_5 l0_6)))) else (some false)))) else (some false))))) = some r := H
    have A8 := Aside0.mk A80
    clear A80
    replace H := Option.bind_eq_some_iff.mp H
    obtain ⟨⟨t432, t433, t434, t435, t436, t437, t438⟩, A90, H⟩ := H
    replace H : ((impl_PutNode.f k t432 t433 t434 t435 t436 t437 t438).bind fun t442 => ((laws_eqByteS.f k t442 t429).bind fun t445 => (if t445 = true then ((laws_toNode.f k a0_0 a0_1 a0_2 a0_3 a0_4 a0_5 l0_6).bind fun bt446 => ((laws_eqNode.f k t432 t433 t434 t435 t436 t437 t438 bt446.1 bt446.2.1 bt446.2.2.1 bt446.2.2.2.1 bt446.2.2.2.2.1 bt446.2.2.2.2.2.1 bt446.2.2.2.2.2.2).bind fun t455 => (if t455 = true then ((laws_markNode.f k t432 t433 t434 t435 t436 t437 t438 1).bind fun bt456 => (if bt456.1 < 0 then (laws_FnExactPutNode.j0 k t429 t442 true a0_0 a0_1 a0_2 a0_3 a0_4 a0_5 l0_6) else ((laws_eqByteS.f k t442 t429).bind fun t458 => (laws_FnExactPutNode.j0 k t429 t442 (!t458) a0_0 a0_1 a0_2 a0_3 a0_4 a0_5 l0_6)))) else (some false)))) else (some false)))) = some r := H
    have A9 := Aside0.mk A90
    clear A90
    replace H := Option.bind_eq_some_iff.mp H
    obtain ⟨t442, A100, H⟩ := H
    replace H : ((laws_eqByteS.f k t442 t429).bind fun t445 => (if t445 = true then ((laws_toNode.f k a0_0 a0_1 a0_2 a0_3 a0_4 a0_5 l0_6).bind fun bt446 => ((laws_eqNode.f k t432 t433 t434 t435 t436 t437 t438 bt446.1 bt446.2.1 bt446.2.2.1 bt446.2.2.2.1 bt446.2.2.2.2.1 bt446.2.2.2.2.2.1 bt446.2.2.2.2.2.2).bind fun t455 => (if t455 = true then ((laws_markNode.f k t432 t433 t434 t435 t436 t437 t438 1).bind fun bt456 => (if bt456.1 < 0 then (laws_FnExactPutNode.j0 k t429 t442 true a0_0 a0_1 a0_2 a0_3 a0_4 a0_5 l0_6) else ((laws_eqByteS.f k t442 t429).bind fun t458 => (laws_FnExactPutNode.j0 k t429 t442 (!t458) a0_0 a0_1 a0_2 a0_3 a0_4 a0_5 l0_6)))) else (some false)))) else (some false))) = some r := H
    have A10 := Aside0.mk A100
    clear A100
    replace H := Option.bind_eq_some_iff.mp H
    obtain ⟨t445, A110, H⟩ := H
    replace H : (if t445 = true then ((laws_toNode.f k a0_0 a0_1 a0_2 a0_3 a0_4 a0_5 l0_6).bind fun bt446 => ((laws_eqNode.f k t432 t433 t434 t435 t436 t437 t438 bt446.1 bt446.2.1 bt446.2.2.1 bt446.2.2.2.1 bt446.2.2.2.2.1 bt446.2.2.2.2.2.1 bt446.2.2.2.2.2.2).bind fun t455 => (if t455 = true then ((laws_markNode.f k t432 t433 t434 t435 t436 t437 t438 1).bind fun bt456 => (if bt456.1 < 0 then (laws_FnExactPutNode.j0 k t429 t442 true a0_0 a0_1 a0_2 a0_3 a0_4 a0_5 l0_6) else ((laws_eqByteS.f k t442 t429).bind fun t458 => (laws_FnExactPutNode.j0 k t429 t442 (!t458) a0_0 a0_1 a0_2 a0_3 a0_4 a0_5 l0_6)))) else (some false)))) else (some false)) = some r := H
    have A11 := Aside0.mk A110
    clear A110
    by_cases c12 : t445 = true
    · subst c12
      have H1 : ((laws_toNode.f k a0_0 a0_1 a0_2 a0_3 a0_4 a0_5 l0_6).bind fun bt446 => ((laws_eqNode.f k t432 t433 t434 t435 t436 t437 t438 bt446.1 bt446.2.1 bt446.2.2.1 bt446.2.2.2.1 bt446.2.2.2.2.1 bt446.2.2.2.2.2.1 bt446.2.2.2.2.2.2).bind fun t455 => (if t455 = true then ((laws_markNode.f k t432 t433 t434 t435 t436 t437 t438 1).bind fun bt456 => (if bt456.1 < 0 then (laws_FnExactPutNode.j0 k t429 t442 true a0_0 a0_1 a0_2 a0_3 a0_4 a0_5 l0_6) else ((laws_eqByteS.f k t442 t429).bind fun t458 => (laws_FnExactPutNode.j0 k t429 t442 (!t458) a0_0 a0_1 a0_2 a0_3 a0_4 a0_5 l0_6)))) else (some false)))) = some r := by rw [if_pos rfl] at H; exact H
      clear H
      have H := H1
      clear H1
      replace H := Option.bind_eq_some_iff.mp H
      obtain ⟨⟨t446, t447, t448, t449, t450, t451, t452⟩, A130, H⟩ := H
      replace H : ((laws_eqNode.f k t432 t433 t434 t435 t436 t437 t438 t446 t447 t448 t449 t450 t451 t452).bind fun t455 => (if t455 = true then ((laws_markNode.f k t432 t433 t434 t435 t436 t437 t438 1).bind fun bt456 => (if bt456.1 < 0 then (laws_FnExactPutNode.j0 k t429 t442 true a0_0 a0_1 a0_2 a0_3 a0_4 a0_5 l0_6) else ((laws_eqByteS.f k t442 t429).bind fun t458 => (laws_FnExactPutNode.j0 k t429 t442 (!t458) a0_0 a0_1 a0_2 a0_3 a0_4 a0_5 l0_6)))) else (some false))) = some r := H
      have A13 := Aside0.mk A130
      clear A130
      replace H := Option.bind_eq_some_iff.mp H
      obtain ⟨t455, A140, H⟩ := H
      replace H : (if t455 = true then ((laws_markNode.f k t432 t433 t434 t435 t436 t437 t438 1).bind fun bt456 => (if bt456.1 < 0 then (laws_FnExactPutNode.j0 k t429 t442 true a0_0 a0_1 a0_2 a0_3 a0_4 a0_5 l0_6) else ((laws_eqByteS.f k t442 t429).bind fun t458 => (laws_FnExactPutNode.j0 k t429 t442 (!t458) a0_0 a0_1 a0_2 a0_3 a0_4 a0_5 l0_6)))) else (some false)) = some r := H
      have A14 := Aside0.mk A140
      clear A140
      by_cases c15 : t455 = true
      · subst c15
        have H1 : ((laws_markNode.f k t432 t433 t434 t435 t436 t437 t438 1).bind fun bt456 => (if bt456.1 < 0 then (laws_FnExactPutNode.j0 k t429 t442 true a0_0 a0_1 a0_2 a0_3 a0_4 a0_5 l0_6) else ((laws_eqByteS.f k t442 t429).bind fun t458 => (laws_FnExactPutNode.j0 k t429 t442 (!t458) a0_0 a0_1 a0_2 a0_3 a0_4 a0_5 l0_6)))) = some r := by rw [if_pos rfl] at H; exact H
        clear H
        have H := H1
        clear H1
        replace H := Option.bind_eq_some_iff.mp H
        obtain ⟨⟨t456, t457⟩, A160, H⟩ := H
        replace H : (if t456 < 0 then (laws_FnExactPutNode.j0 k t429 t442 true a0_0 a0_1 a0_2 a0_3 a0_4 a0_5 l0_6) else ((laws_eqByteS.f k t442 t429).bind fun t458 => (laws_FnExactPutNode.j0 k t429 t442 (!t458) a0_0 a0_1 a0_2 a0_3 a0_4 a0_5 l0_6))) = some r := H
        have A16 := Aside0.mk A160
        clear A160
        have HC17 := Aside0.mk H
        clear H
        go_enter Try.func12, Try.ntmps12
        try go_wp2_with (first | ((with_reducible refine gate_dst (N := 1) rfl ?_); refine box_event ?hg (N := 1) ?hd (cs := #[.int .i64 a0_0, .string a0_1, .int .i64 a0_2, .int .i64 a0_3, .int .i64 a0_4, .bool a0_5, .slice A0_6 l0_6.length c0_6]) (t := 30) ?hr ?_; (case hd => rfl); (case hg => rfl); (case hr => first | (go_simp; done) | (go_simp; rfl)); intro gb418 hg w18 hbox hb; have n0_ := Aside0.mk (below_step (by repeat (first | (with_reducible first | exact HB.out | apply below_alloc | apply pw_below_drewN | apply below_drew1) | exact HB.out)) hb); have n1_ := Aside0.mk (hbox); have n2_ := Aside0.mk ((by rw [hg]; exact (below_size (by repeat (first | (with_reducible first | exact HB.out | apply below_alloc | apply pw_below_drewN | apply below_drew1) | exact HB.out))) : w.heap.size ≤ gb418)); have n3_ := Aside0.mk ((by rw [hg]; exact (below_size (by repeat (first | (with_reducible first | exact HB.out | apply below_alloc | apply pw_below_drewN | apply below_drew1) | exact HB.out))) : w.heap.size ≤ gb418)); clear HB; have HB := n0_; have BK418 := n1_; have GW418 := n2_; have GE418 := n3_; clear n0_ n1_ n2_ n3_; clear hb hbox hg; have hcz19_0 : w18.cell? ⟨gb418, 0, none⟩ = some (.int .i64 a0_0) := (blk_cell BK418.out 0).trans rfl; have hcz19_1 : w18.cell? ⟨gb418, 1, none⟩ = some (.string a0_1) := (blk_cell BK418.out 1).trans rfl; have hcz19_2 : w18.cell? ⟨gb418, 2, none⟩ = some (.int .i64 a0_2) := (blk_cell BK418.out 2).trans rfl; have hcz19_3 : w18.cell? ⟨gb418, 3, none⟩ = some (.int .i64 a0_3) := (blk_cell BK418.out 3).trans rfl; have hcz19_4 : w18.cell? ⟨gb418, 4, none⟩ = some (.int .i64 a0_4) := (blk_cell BK418.out 4).trans rfl; have hcz19_5 : w18.cell? ⟨gb418, 5, none⟩ = some (.bool a0_5) := (blk_cell BK418.out 5).trans rfl; have hcz19_6 : w18.cell? ⟨gb418, 6, none⟩ = some (.slice A0_6 l0_6.length c0_6) := (blk_cell BK418.out 6).trans rfl; have hfz19_0 := blk_frozen BK418.out 0; have hfz19_1 := blk_frozen BK418.out 1; have hfz19_2 := blk_frozen BK418.out 2; have hfz19_3 := blk_frozen BK418.out 3; have hfz19_4 := blk_frozen BK418.out 4; have hfz19_5 := blk_frozen BK418.out 5; have hfz19_6 := blk_frozen BK418.out 6) | ((with_reducible refine gate_callee (f := 20) rfl ?_); refine goesL_ (some 13) rfl rfl Try.func20 (by kernel_rfl) rfl #[.agg #[.int .i64 a0_0, .string a0_1, .int .i64 a0_2, .int .i64 a0_3, .int .i64 a0_4, .bool a0_5, .slice A0_6 l0_6.length c0_6], .int .i64 1048576] rfl (by (try simp only [List.map_toArray, List.map_cons, List.map_nil]); first | done | rfl | (simp only [List.length_drop, List.length_take]; rfl)) ?_; (with_reducible refine (laws_szNode.calls a0_0 a0_1 a0_2 a0_3 a0_4 a0_5 _ _ l0_6 1048576 t419 _ ?side1 ?side2 A2.out).mono ?_); (case side1 => repeat (first | exact (Kd.C_below HR0_6.out HB.out) | (with_reducible refine Kd.C_alloc ?_ _) | (with_reducible refine Kd.C_drewN ?_ _) | (with_reducible refine Kd.C_drew ?_))); (case side2 => exact HC0_6.out); rintro e w20 ⟨rfl, hb⟩; refine ⟨_, rfl, ?_⟩; have n0_ := Aside0.mk (blk_below (g := gb418) (o := .cells #[.int .i64 a0_0, .string a0_1, .int .i64 a0_2, .int .i64 a0_3, .int .i64 a0_4, .bool a0_5, .slice A0_6 l0_6.length c0_6] 30 (0, 0)) (by (with_reducible repeat (first | refine blk_drewN ?_ _ | refine blk_drew ?_ | refine blk_alloc ?_ _)); exact BK418.out) hb); have n1_ := Aside0.mk (below_step (by repeat (first | (with_reducible first | exact HB.out | apply below_alloc | apply pw_below_drewN | apply below_drew1 | refine below_set ?_ GE418.out) | exact HB.out)) hb); clear BK418; clear HB; have BK418 := n0_; have HB := n1_; clear n0_ n1_; (try clear hb); (try clear hb2); (try clear hk); (try clear hi); have hcz21_0 : w20.cell? ⟨gb418, 0, none⟩ = some (.int .i64 a0_0) := (blk_cell BK418.out 0).trans rfl; have hcz21_1 : w20.cell? ⟨gb418, 1, none⟩ = some (.string a0_1) := (blk_cell BK418.out 1).trans rfl; have hcz21_2 : w20.cell? ⟨gb418, 2, none⟩ = some (.int .i64 a0_2) := (blk_cell BK418.out 2).trans rfl; have hcz21_3 : w20.cell? ⟨gb418, 3, none⟩ = some (.int .i64 a0_3) := (blk_cell BK418.out 3).trans rfl; have hcz21_4 : w20.cell? ⟨gb418, 4, none⟩ = some (.int .i64 a0_4) := (blk_cell BK418.out 4).trans rfl; have hcz21_5 : w20.cell? ⟨gb418, 5, none⟩ = some (.bool a0_5) := (blk_cell BK418.out 5).trans rfl; have hcz21_6 : w20.cell? ⟨gb418, 6, none⟩ = some (.slice A0_6 l0_6.length c0_6) := (blk_cell BK418.out 6).trans rfl; have hfz21_0 := blk_frozen BK418.out 0; have hfz21_1 := blk_frozen BK418.out 1; have hfz21_2 := blk_frozen BK418.out 2; have hfz21_3 := blk_frozen BK418.out 3; have hfz21_4 := blk_frozen BK418.out 4; have hfz21_5 := blk_frozen BK418.out 5; have hfz21_6 := blk_frozen BK418.out 6) | ((with_reducible refine gate_callee (f := 22) rfl ?_); refine goesL_ (some 17) rfl rfl Try.func22 (by kernel_rfl) rfl #[.agg #[.int .i64 a0_0, .string a0_1, .int .i64 a0_2, .int .i64 a0_3, .int .i64 a0_4, .bool a0_5, .slice A0_6 l0_6.length c0_6]] rfl (by (try simp only [List.map_toArray, List.map_cons, List.map_nil]); first | done | rfl | (simp only [List.length_drop, List.length_take]; rfl)) ?_; (with_reducible refine (laws_toNode.calls k a0_0 a0_1 a0_2 a0_3 a0_4 a0_5 _ _ l0_6 t420 t421 t422 t423 t424 t425 t426 _ ?side1 ?side2 A7.out).mono ?_); (case side1 => repeat (first | exact (Kd.C_below HR0_6.out HB.out) | (with_reducible refine Kd.C_alloc ?_ _) | (with_reducible refine Kd.C_drewN ?_ _) | (with_reducible refine Kd.C_drew ?_))); (case side2 => exact HC0_6.out); rintro e w22 ⟨v427, rfl, ho0, hb⟩; refine ⟨_, rfl, ?_⟩; have n0_ := Aside0.mk (Kd.R_lower ho0 (below_size (by repeat (first | (with_reducible first | exact HB.out | apply below_alloc | apply pw_below_drewN | apply below_drew1 | refine below_set ?_ GE418.out) | exact HB.out)))); have n1_ := Aside0.mk (blk_below (g := gb418) (o := .cells #[.int .i64 a0_0, .string a0_1, .int .i64 a0_2, .int .i64 a0_3, .int .i64 a0_4, .bool a0_5, .slice A0_6 l0_6.length c0_6] 30 (0, 0)) (by (with_reducible repeat (first | refine blk_drewN ?_ _ | refine blk_drew ?_ | refine blk_alloc ?_ _)); exact BK418.out) hb); have n2_ := Aside0.mk (below_step (by repeat (first | (with_reducible first | exact HB.out | apply below_alloc | apply pw_below_drewN | apply below_drew1 | refine below_set ?_ GE418.out) | exact HB.out)) hb); clear BK418; clear HB; have HO428 := n0_; have BK418 := n1_; have HB := n2_; clear n0_ n1_ n2_; (try clear hb); (try clear hb2); (try clear hk); (try clear hi); (try clear ho0); obtain ⟨Ao23, co23, eo23⟩ := Kd.R_slice HO428.out; subst eo23) | ((with_reducible refine gate_callee (f := 44) rfl ?_); refine goesL_ (some 18) rfl rfl Try.func44 (by kernel_rfl) rfl #[.agg #[.int .i64 t420, .string t421, .int .i64 t422, .int .i64 t423, .int .i64 t424, .bool t425, .slice Ao23 t426.length co23]] rfl (by (try simp only [List.map_toArray, List.map_cons, List.map_nil]); first | done | rfl | (simp only [List.length_drop, List.length_take]; rfl)) ?_; (with_reducible refine (spec_PutNode.calls k t420 t421 t422 t423 t424 t425 _ _ t426 t429 _ ?side1 ?side2 A8.out).mono ?_); (case side1 => repeat (first | exact (Kd.R_reads' HO428.out).2.2 | (with_reducible refine Kd.C_alloc ?_ _) | (with_reducible refine Kd.C_drewN ?_ _) | (with_reducible refine Kd.C_drew ?_))); (case side2 => exact (Kd.R_reads' HO428.out).2.1); rintro e w24 ⟨v430, rfl, ho0, hb⟩; refine ⟨_, rfl, ?_⟩; have n0_ := Aside0.mk (Kd.R_below (by (with_reducible repeat (first | apply Kd.R_alloc | apply Kd.R_drewN | apply Kd.R_drew)); exact HO428.out) hb); have n1_ := Aside0.mk (Kd.V_lower (Kd.V_mono (ok' := fun k_ => some k_ ≠ (.slice Ao23 t426.length co23 : Value).ownBlock ∧ k_ ≠ gb418) ho0 (fun k_ hk_ => ⟨(Kd.fresh' (Kd.R_lt (by (with_reducible repeat (first | apply Kd.R_alloc | apply Kd.R_drewN | apply Kd.R_drew)); exact HO428.out)) k_ hk_), (Kd.freshB (g := gb418) (o := .cells #[.int .i64 a0_0, .string a0_1, .int .i64 a0_2, .int .i64 a0_3, .int .i64 a0_4, .bool a0_5, .slice A0_6 l0_6.length c0_6] 30 (0, 0)) (by (with_reducible repeat (first | refine blk_drewN ?_ _ | refine blk_drew ?_ | refine blk_alloc ?_ _)); exact BK418.out) k_ hk_)⟩)) (below_size (by repeat (first | (with_reducible first | exact HB.out | apply below_alloc | apply pw_below_drewN | apply below_drew1 | refine below_set ?_ GE418.out) | exact HB.out)))); have n2_ := Aside0.mk (blk_below (g := gb418) (o := .cells #[.int .i64 a0_0, .string a0_1, .int .i64 a0_2, .int .i64 a0_3, .int .i64 a0_4, .bool a0_5, .slice A0_6 l0_6.length c0_6] 30 (0, 0)) (by (with_reducible repeat (first | refine blk_drewN ?_ _ | refine blk_drew ?_ | refine blk_alloc ?_ _)); exact BK418.out) hb); have n3_ := Aside0.mk (below_step (by repeat (first | (with_reducible first | exact HB.out | apply below_alloc | apply pw_below_drewN | apply below_drew1 | refine below_set ?_ GE418.out) | exact HB.out)) hb); clear HO428; clear BK418; clear HB; have HO428 := n0_; have HO431 := n1_; have BK418 := n2_; have HB := n3_; clear n0_ n1_ n2_ n3_; (try clear hb); (try clear hb2); (try clear hk); (try clear hi); (try clear ho0); have hcz25_0 : w24.cell? ⟨gb418, 0, none⟩ = some (.int .i64 a0_0) := (blk_cell BK418.out 0).trans rfl; have hcz25_1 : w24.cell? ⟨gb418, 1, none⟩ = some (.string a0_1) := (blk_cell BK418.out 1).trans rfl; have hcz25_2 : w24.cell? ⟨gb418, 2, none⟩ = some (.int .i64 a0_2) := (blk_cell BK418.out 2).trans rfl; have hcz25_3 : w24.cell? ⟨gb418, 3, none⟩ = some (.int .i64 a0_3) := (blk_cell BK418.out 3).trans rfl; have hcz25_4 : w24.cell? ⟨gb418, 4, none⟩ = some (.int .i64 a0_4) := (blk_cell BK418.out 4).trans rfl; have hcz25_5 : w24.cell? ⟨gb418, 5, none⟩ = some (.bool a0_5) := (blk_cell BK418.out 5).trans rfl; have hcz25_6 : w24.cell? ⟨gb418, 6, none⟩ = some (.slice A0_6 l0_6.length c0_6) := (blk_cell BK418.out 6).trans rfl; have hfz25_0 := blk_frozen BK418.out 0; have hfz25_1 := blk_frozen BK418.out 1; have hfz25_2 := blk_frozen BK418.out 2; have hfz25_3 := blk_frozen BK418.out 3; have hfz25_4 := blk_frozen BK418.out 4; have hfz25_5 := blk_frozen BK418.out 5; have hfz25_6 := blk_frozen BK418.out 6) | ((with_reducible refine gate_callee (f := 22) rfl ?_); refine goesL_ (some 20) rfl rfl Try.func22 (by kernel_rfl) rfl #[.agg #[.int .i64 a0_0, .string a0_1, .int .i64 a0_2, .int .i64 a0_3, .int .i64 a0_4, .bool a0_5, .slice A0_6 l0_6.length c0_6]] rfl (by (try simp only [List.map_toArray, List.map_cons, List.map_nil]); first | done | rfl | (simp only [List.length_drop, List.length_take]; rfl)) ?_; (with_reducible refine (laws_toNode.calls k a0_0 a0_1 a0_2 a0_3 a0_4 a0_5 _ _ l0_6 t432 t433 t434 t435 t436 t437 t438 _ ?side1 ?side2 A9.out).mono ?_); (case side1 => repeat (first | exact (Kd.C_below HR0_6.out HB.out) | (with_reducible refine Kd.C_alloc ?_ _) | (with_reducible refine Kd.C_drewN ?_ _) | (with_reducible refine Kd.C_drew ?_))); (case side2 => exact HC0_6.out); rintro e w26 ⟨v439, rfl, ho0, hb⟩; refine ⟨_, rfl, ?_⟩; have n0_ := Aside0.mk (Kd.R_elder' (by (with_reducible repeat (first | apply Kd.R_alloc | apply Kd.R_drewN | apply Kd.R_drew)); exact HO428.out) (Kd.R_base ho0) hb); have n1_ := Aside0.mk (Kd.V_elder' (by (with_reducible repeat (first | apply Kd.V_alloc | apply Kd.V_drewN | apply Kd.V_drew)); exact HO431.out) (Kd.R_base ho0) hb); have n2_ := Aside0.mk (Kd.R_lower (Kd.R_new' ho0 (Kd.R_lt (by (with_reducible repeat (first | apply Kd.R_alloc | apply Kd.R_drewN | apply Kd.R_drew)); exact HO428.out))) (below_size (by repeat (first | (with_reducible first | exact HB.out | apply below_alloc | apply pw_below_drewN | apply below_drew1 | refine below_set ?_ GE418.out) | exact HB.out)))); have n3_ := Aside0.mk (blk_below (g := gb418) (o := .cells #[.int .i64 a0_0, .string a0_1, .int .i64 a0_2, .int .i64 a0_3, .int .i64 a0_4, .bool a0_5, .slice A0_6 l0_6.length c0_6] 30 (0, 0)) (by (with_reducible repeat (first | refine blk_drewN ?_ _ | refine blk_drew ?_ | refine blk_alloc ?_ _)); exact BK418.out) hb); have n4_ := Aside0.mk (below_step (by repeat (first | (with_reducible first | exact HB.out | apply below_alloc | apply pw_below_drewN | apply below_drew1 | refine below_set ?_ GE418.out) | exact HB.out)) hb); clear HO428; clear HO431; clear BK418; clear HB; have HO428 := n0_; have HO431 := n1_; have HO440 := n2_; have BK418 := n3_; have HB := n4_; clear n0_ n1_ n2_ n3_ n4_; (try clear hb); (try clear hb2); (try clear hk); (try clear hi); (try clear ho0)) | ((with_reducible refine gate_dst (N := 5) rfl ?_); refine box_event ?hg (N := 5) ?hd (cs := #[.int .i64 0, .string (⟨#[]⟩ : ByteArray), .int .i64 0, .int .i64 0, .int .i64 0, .bool false, .slice none 0 0]) (t := 33) ?hr ?_; (case hd => rfl); (case hg => rfl); (case hr => first | (go_simp; done) | (go_simp; rfl)); intro gb441 hg w27 hbox hb; have n0_ := Aside0.mk (Kd.R_below (by (with_reducible repeat (first | apply Kd.R_alloc | apply Kd.R_drewN | apply Kd.R_drew)); exact HO428.out) hb); have n1_ := Aside0.mk (Kd.V_below (Kd.V_elderB (by (with_reducible repeat (first | apply Kd.V_alloc | apply Kd.V_drewN | apply Kd.V_drew)); exact HO431.out) gb441 (Nat.le_of_eq hg.symm)) hb); have n2_ := Aside0.mk (Kd.R_below (by (with_reducible repeat (first | apply Kd.R_alloc | apply Kd.R_drewN | apply Kd.R_drew)); exact HO440.out) hb); have n3_ := Aside0.mk (blk_below (g := gb418) (o := .cells #[.int .i64 a0_0, .string a0_1, .int .i64 a0_2, .int .i64 a0_3, .int .i64 a0_4, .bool a0_5, .slice A0_6 l0_6.length c0_6] 30 (0, 0)) (by (with_reducible repeat (first | refine blk_drewN ?_ _ | refine blk_drew ?_ | refine blk_alloc ?_ _)); exact BK418.out) hb); have n4_ := Aside0.mk (below_step (by repeat (first | (with_reducible first | exact HB.out | apply below_alloc | apply pw_below_drewN | apply below_drew1 | refine below_set ?_ GE418.out) | exact HB.out)) hb); have n5_ := Aside0.mk (hbox); have n6_ := Aside0.mk ((by rw [hg]; exact (below_size (by repeat (first | (with_reducible first | exact HB.out | apply below_alloc | apply pw_below_drewN | apply below_drew1 | refine below_set ?_ GE418.out) | exact HB.out))) : w.heap.size ≤ gb441)); have n7_ := Aside0.mk ((by rw [hg]; exact (below_size (by repeat (first | (with_reducible first | exact HB.out | apply below_alloc | apply pw_below_drewN | apply below_drew1 | refine below_set ?_ GE418.out) | exact HB.out))) : w.heap.size ≤ gb441)); have n8_ := Aside0.mk ((by rw [hg]; exact Nat.ne_of_lt (blk_lt (g := gb418) (o := .cells #[.int .i64 a0_0, .string a0_1, .int .i64 a0_2, .int .i64 a0_3, .int .i64 a0_4, .bool a0_5, .slice A0_6 l0_6.length c0_6] 30 (0, 0)) (by (with_reducible repeat (first | refine blk_drewN ?_ _ | refine blk_drew ?_ | refine blk_alloc ?_ _)); exact BK418.out)) : gb418 ≠ gb441)); have n9_ := Aside0.mk ((by rw [hg]; exact Nat.ne_of_gt (blk_lt (g := gb418) (o := .cells #[.int .i64 a0_0, .string a0_1, .int .i64 a0_2, .int .i64 a0_3, .int .i64 a0_4, .bool a0_5, .slice A0_6 l0_6.length c0_6] 30 (0, 0)) (by (with_reducible repeat (first | refine blk_drewN ?_ _ | refine blk_drew ?_ | refine blk_alloc ?_ _)); exact BK418.out)) : gb441 ≠ gb418)); clear HO428; clear HO431; clear HO440; clear BK418; clear HB; have HO428 := n0_; have HO431 := n1_; have HO440 := n2_; have BK418 := n3_; have HB := n4_; have BK441 := n5_; have GW441 := n6_; have GE441 := n7_; have NB418_441 := n8_; have NB441_418 := n9_; clear n0_ n1_ n2_ n3_ n4_ n5_ n6_ n7_ n8_ n9_; clear hb hbox hg; have hnb28 := NB441_418.out; have hnc28 := NB418_441.out; have hcz29_0 : w27.cell? ⟨gb441, 0, none⟩ = some (.int .i64 0) := (blk_cell BK441.out 0).trans rfl; have hcz29_1 : w27.cell? ⟨gb441, 1, none⟩ = some (.string (⟨#[]⟩ : ByteArray)) := (blk_cell BK441.out 1).trans rfl; have hcz29_2 : w27.cell? ⟨gb441, 2, none⟩ = some (.int .i64 0) := (blk_cell BK441.out 2).trans rfl; have hcz29_3 : w27.cell? ⟨gb441, 3, none⟩ = some (.int .i64 0) := (blk_cell BK441.out 3).trans rfl; have hcz29_4 : w27.cell? ⟨gb441, 4, none⟩ = some (.int .i64 0) := (blk_cell BK441.out 4).trans rfl; have hcz29_5 : w27.cell? ⟨gb441, 5, none⟩ = some (.bool false) := (blk_cell BK441.out 5).trans rfl; have hcz29_6 : w27.cell? ⟨gb441, 6, none⟩ = some (.slice none 0 0) := (blk_cell BK441.out 6).trans rfl; have hfz29_0 := blk_frozen BK441.out 0; have hfz29_1 := blk_frozen BK441.out 1; have hfz29_2 := blk_frozen BK441.out 2; have hfz29_3 := blk_frozen BK441.out 3; have hfz29_4 := blk_frozen BK441.out 4; have hfz29_5 := blk_frozen BK441.out 5; have hfz29_6 := blk_frozen BK441.out 6; obtain ⟨Ao30, co30, eo30⟩ := Kd.R_slice HO440.out; subst eo30) | ((with_reducible refine gate_store (t := 33) (p := 5) rfl ?_); refine store_event (t := 33) (p := 5) (v := ?vo_w31) (w1 := (((((((w27.setCell ⟨gb441, 0, none⟩ (.int .i64 t432)).setCell ⟨gb441, 1, none⟩ (.string t433)).setCell ⟨gb441, 2, none⟩ (.int .i64 t434)).setCell ⟨gb441, 3, none⟩ (.int .i64 t435)).setCell ⟨gb441, 4, none⟩ (.int .i64 t436)).setCell ⟨gb441, 5, none⟩ (.bool t437)).setCell ⟨gb441, 6, none⟩ (.slice Ao30 t438.length co30))) ?hg ?ho ?hn ?hr ?_; (case ho => rfl); (case hg => rfl); (case hn => rfl); (case hr => first | (go_simp; done) | (go_simp; rfl)); intro w31 hw; have n0_ : Aside0 (Kd.R (Kd.int .i64) 3 w31 w.heap.size (fun k_ => some k_ ≠ (.slice Ao30 t438.length co30 : Value).ownBlock) (.slice Ao23 t426.length co23) t426) := ⟨(by rw [hw]; exact (by (with_reducible repeat (first | apply Kd.R_alloc | apply Kd.R_drewN | apply Kd.R_drew)); exact Kd.R_mono (Kd.R_far (p := ⟨gb441, 6, none⟩) (Kd.R_far (p := ⟨gb441, 5, none⟩) (Kd.R_far (p := ⟨gb441, 4, none⟩) (Kd.R_far (p := ⟨gb441, 3, none⟩) (Kd.R_far (p := ⟨gb441, 2, none⟩) (Kd.R_far (p := ⟨gb441, 1, none⟩) (Kd.R_far (p := ⟨gb441, 0, none⟩) (Kd.R_types HO428.out BK441.out (by decide)) (fun _ hk => hk.2) (.int .i64 t432)) (fun _ hk => hk.2) (.string t433)) (fun _ hk => hk.2) (.int .i64 t434)) (fun _ hk => hk.2) (.int .i64 t435)) (fun _ hk => hk.2) (.int .i64 t436)) (fun _ hk => hk.2) (.bool t437)) (fun _ hk => hk.2) (.slice Ao30 t438.length co30)) (fun _ hk => hk.1.2)))⟩; have n1_ : Aside0 (Kd.V (Kd.int .u8) 5 w31 w.heap.size (fun k_ => some k_ ≠ (.slice Ao23 t426.length co23 : Value).ownBlock ∧ some k_ ≠ (.slice Ao30 t438.length co30 : Value).ownBlock ∧ k_ ≠ gb418 ∧ k_ ≠ gb441) v430 t429) := ⟨(by rw [hw]; exact (by (with_reducible repeat (first | apply Kd.V_alloc | apply Kd.V_drewN | apply Kd.V_drew)); exact Kd.V_mono (Kd.V_far (p := ⟨gb441, 6, none⟩) (Kd.V_far (p := ⟨gb441, 5, none⟩) (Kd.V_far (p := ⟨gb441, 4, none⟩) (Kd.V_far (p := ⟨gb441, 3, none⟩) (Kd.V_far (p := ⟨gb441, 2, none⟩) (Kd.V_far (p := ⟨gb441, 1, none⟩) (Kd.V_far (p := ⟨gb441, 0, none⟩) (Kd.V_mono HO431.out (fun k_ hk => (⟨hk, hk.2⟩ : _ ∧ k_ ≠ gb441))) (fun _ hk => hk.2) (.int .i64 t432)) (fun _ hk => hk.2) (.string t433)) (fun _ hk => hk.2) (.int .i64 t434)) (fun _ hk => hk.2) (.int .i64 t435)) (fun _ hk => hk.2) (.int .i64 t436)) (fun _ hk => hk.2) (.bool t437)) (fun _ hk => hk.2) (.slice Ao30 t438.length co30)) (fun _ hk => ⟨hk.1.1.1.1, ⟨hk.1.1.2, ⟨hk.1.1.1.2, hk.1.2⟩⟩⟩)))⟩; have n2_ : Aside0 (Kd.R (Kd.int .i64) 3 w31 w.heap.size (fun k_ => some k_ ≠ (.slice Ao23 t426.length co23 : Value).ownBlock) (.slice Ao30 t438.length co30) t438) := ⟨(by rw [hw]; exact (by (with_reducible repeat (first | apply Kd.R_alloc | apply Kd.R_drewN | apply Kd.R_drew)); exact Kd.R_mono (Kd.R_far (p := ⟨gb441, 6, none⟩) (Kd.R_far (p := ⟨gb441, 5, none⟩) (Kd.R_far (p := ⟨gb441, 4, none⟩) (Kd.R_far (p := ⟨gb441, 3, none⟩) (Kd.R_far (p := ⟨gb441, 2, none⟩) (Kd.R_far (p := ⟨gb441, 1, none⟩) (Kd.R_far (p := ⟨gb441, 0, none⟩) (Kd.R_types HO440.out BK441.out (by decide)) (fun _ hk => hk.2) (.int .i64 t432)) (fun _ hk => hk.2) (.string t433)) (fun _ hk => hk.2) (.int .i64 t434)) (fun _ hk => hk.2) (.int .i64 t435)) (fun _ hk => hk.2) (.int .i64 t436)) (fun _ hk => hk.2) (.bool t437)) (fun _ hk => hk.2) (.slice Ao30 t438.length co30)) (fun _ hk => hk.1.2)))⟩; have n3_ : Aside0 (w31.heap[gb418]? = some (.cells #[.int .i64 a0_0, .string a0_1, .int .i64 a0_2, .int .i64 a0_3, .int .i64 a0_4, .bool a0_5, .slice A0_6 l0_6.length c0_6] 30 (0, 0))) := ⟨(by rw [hw]; exact (by (with_reducible repeat (first | refine blk_drewN ?_ _ | refine blk_drew ?_ | refine blk_alloc ?_ _)); refine blk_far ?_ NB418_441.out _; (with_reducible repeat (first | refine blk_drewN ?_ _ | refine blk_drew ?_ | refine blk_alloc ?_ _)); refine blk_far ?_ NB418_441.out _; (with_reducible repeat (first | refine blk_drewN ?_ _ | refine blk_drew ?_ | refine blk_alloc ?_ _)); refine blk_far ?_ NB418_441.out _; (with_reducible repeat (first | refine blk_drewN ?_ _ | refine blk_drew ?_ | refine blk_alloc ?_ _)); refine blk_far ?_ NB418_441.out _; (with_reducible repeat (first | refine blk_drewN ?_ _ | refine blk_drew ?_ | refine blk_alloc ?_ _)); refine blk_far ?_ NB418_441.out _; (with_reducible repeat (first | refine blk_drewN ?_ _ | refine blk_drew ?_ | refine blk_alloc ?_ _)); refine blk_far ?_ NB418_441.out _; (with_reducible repeat (first | refine blk_drewN ?_ _ | refine blk_drew ?_ | refine blk_alloc ?_ _)); refine blk_far ?_ NB418_441.out _; (with_reducible repeat (first | refine blk_drewN ?_ _ | refine blk_drew ?_ | refine blk_alloc ?_ _)); exact BK418.out))⟩; have n4_ : Aside0 (w31.heap[gb441]? = some (.cells #[.int .i64 t432, .string t433, .int .i64 t434, .int .i64 t435, .int .i64 t436, .bool t437, .slice Ao30 t438.length co30] 33 (0, 0))) := ⟨(by rw [hw]; exact (by (with_reducible repeat (first | refine blk_drewN ?_ _ | refine blk_drew ?_ | refine blk_alloc ?_ _)); refine blk_put (cs := #[.int .i64 t432, .string t433, .int .i64 t434, .int .i64 t435, .int .i64 t436, .bool t437, .slice none 0 0]) ?_ 6 _ rfl; (with_reducible repeat (first | refine blk_drewN ?_ _ | refine blk_drew ?_ | refine blk_alloc ?_ _)); refine blk_put (cs := #[.int .i64 t432, .string t433, .int .i64 t434, .int .i64 t435, .int .i64 t436, .bool false, .slice none 0 0]) ?_ 5 _ rfl; (with_reducible repeat (first | refine blk_drewN ?_ _ | refine blk_drew ?_ | refine blk_alloc ?_ _)); refine blk_put (cs := #[.int .i64 t432, .string t433, .int .i64 t434, .int .i64 t435, .int .i64 0, .bool false, .slice none 0 0]) ?_ 4 _ rfl; (with_reducible repeat (first | refine blk_drewN ?_ _ | refine blk_drew ?_ | refine blk_alloc ?_ _)); refine blk_put (cs := #[.int .i64 t432, .string t433, .int .i64 t434, .int .i64 0, .int .i64 0, .bool false, .slice none 0 0]) ?_ 3 _ rfl; (with_reducible repeat (first | refine blk_drewN ?_ _ | refine blk_drew ?_ | refine blk_alloc ?_ _)); refine blk_put (cs := #[.int .i64 t432, .string t433, .int .i64 0, .int .i64 0, .int .i64 0, .bool false, .slice none 0 0]) ?_ 2 _ rfl; (with_reducible repeat (first | refine blk_drewN ?_ _ | refine blk_drew ?_ | refine blk_alloc ?_ _)); refine blk_put (cs := #[.int .i64 t432, .string (⟨#[]⟩ : ByteArray), .int .i64 0, .int .i64 0, .int .i64 0, .bool false, .slice none 0 0]) ?_ 1 _ rfl; (with_reducible repeat (first | refine blk_drewN ?_ _ | refine blk_drew ?_ | refine blk_alloc ?_ _)); refine blk_put (cs := #[.int .i64 0, .string (⟨#[]⟩ : ByteArray), .int .i64 0, .int .i64 0, .int .i64 0, .bool false, .slice none 0 0]) ?_ 0 _ rfl; (with_reducible repeat (first | refine blk_drewN ?_ _ | refine blk_drew ?_ | refine blk_alloc ?_ _)); exact BK441.out))⟩; have n5_ : Aside0 (Below w.heap.size w w31) := ⟨(by rw [hw]; exact (by repeat (first | (with_reducible first | exact HB.out | apply below_alloc | apply pw_below_drewN | apply below_drew1 | refine below_set ?_ GE418.out | refine below_set ?_ GE441.out) | exact HB.out)))⟩; clear hw; clear HO428; clear HO431; clear HO440; clear BK418; clear BK441; clear HB; have HO428 := n0_; have HO431 := n1_; have HO440 := n2_; have BK418 := n3_; have BK441 := n4_; have HB := n5_; clear n0_ n1_ n2_ n3_ n4_ n5_; have hcz32_0 : w31.cell? ⟨gb441, 0, none⟩ = some (.int .i64 t432) := (blk_cell BK441.out 0).trans rfl; have hcz32_1 : w31.cell? ⟨gb441, 1, none⟩ = some (.string t433) := (blk_cell BK441.out 1).trans rfl; have hcz32_2 : w31.cell? ⟨gb441, 2, none⟩ = some (.int .i64 t434) := (blk_cell BK441.out 2).trans rfl; have hcz32_3 : w31.cell? ⟨gb441, 3, none⟩ = some (.int .i64 t435) := (blk_cell BK441.out 3).trans rfl; have hcz32_4 : w31.cell? ⟨gb441, 4, none⟩ = some (.int .i64 t436) := (blk_cell BK441.out 4).trans rfl; have hcz32_5 : w31.cell? ⟨gb441, 5, none⟩ = some (.bool t437) := (blk_cell BK441.out 5).trans rfl; have hcz32_6 : w31.cell? ⟨gb441, 6, none⟩ = some (.slice Ao30 t438.length co30) := (blk_cell BK441.out 6).trans rfl; have hfz32_0 := blk_frozen BK441.out 0; have hfz32_1 := blk_frozen BK441.out 1; have hfz32_2 := blk_frozen BK441.out 2; have hfz32_3 := blk_frozen BK441.out 3; have hfz32_4 := blk_frozen BK441.out 4; have hfz32_5 := blk_frozen BK441.out 5; have hfz32_6 := blk_frozen BK441.out 6) | ((with_reducible refine gate_callee (f := 45) rfl ?_); refine goesL_ (some 22) rfl rfl Try.func45 (by kernel_rfl) rfl #[.agg #[.int .i64 t432, .string t433, .int .i64 t434, .int .i64 t435, .int .i64 t436, .bool t437, .slice Ao30 t438.length co30]] rfl (by (try simp only [List.map_toArray, List.map_cons, List.map_nil]); first | done | rfl | (simp only [List.length_drop, List.length_take]; rfl)) ?_; (with_reducible refine (impl_PutNode.calls k t432 t433 t434 t435 t436 t437 _ _ t438 t442 _ ?side1 ?side2 A10.out).mono ?_); (case side1 => repeat (first | exact (Kd.R_reads' HO440.out).2.2 | (with_reducible refine Kd.C_alloc ?_ _) | (with_reducible refine Kd.C_drewN ?_ _) | (with_reducible refine Kd.C_drew ?_))); (case side2 => exact (Kd.R_reads' HO440.out).2.1); rintro e w33 ⟨v443, rfl, ho0, hb⟩; refine ⟨_, rfl, ?_⟩; have n0_ := Aside0.mk (Kd.R_below (by (with_reducible repeat (first | apply Kd.R_alloc | apply Kd.R_drewN | apply Kd.R_drew)); exact HO428.out) hb); have n1_ := Aside0.mk (Kd.V_elder' (by (with_reducible repeat (first | apply Kd.V_alloc | apply Kd.V_drewN | apply Kd.V_drew)); exact HO431.out) (Kd.R_base ho0) hb); have n2_ := Aside0.mk (Kd.R_below (by (with_reducible repeat (first | apply Kd.R_alloc | apply Kd.R_drewN | apply Kd.R_drew)); exact HO440.out) hb); have n3_ := Aside0.mk (Kd.R_lower ho0 (below_size (by repeat (first | (with_reducible first | exact HB.out | apply below_alloc | apply pw_below_drewN | apply below_drew1 | refine below_set ?_ GE418.out | refine below_set ?_ GE441.out) | exact HB.out)))); have n4_ := Aside0.mk (blk_below (g := gb418) (o := .cells #[.int .i64 a0_0, .string a0_1, .int .i64 a0_2, .int .i64 a0_3, .int .i64 a0_4, .bool a0_5, .slice A0_6 l0_6.length c0_6] 30 (0, 0)) (by (with_reducible repeat (first | refine blk_drewN ?_ _ | refine blk_drew ?_ | refine blk_alloc ?_ _)); exact BK418.out) hb); have n5_ := Aside0.mk (blk_below (g := gb441) (o := .cells #[.int .i64 t432, .string t433, .int .i64 t434, .int .i64 t435, .int .i64 t436, .bool t437, .slice Ao30 t438.length co30] 33 (0, 0)) (by (with_reducible repeat (first | refine blk_drewN ?_ _ | refine blk_drew ?_ | refine blk_alloc ?_ _)); exact BK441.out) hb); have n6_ := Aside0.mk (below_step (by repeat (first | (with_reducible first | exact HB.out | apply below_alloc | apply pw_below_drewN | apply below_drew1 | refine below_set ?_ GE418.out | refine below_set ?_ GE441.out) | exact HB.out)) hb); clear HO428; clear HO431; clear HO440; clear BK418; clear BK441; clear HB; have HO428 := n0_; have HO431 := n1_; have HO440 := n2_; have HO444 := n3_; have BK418 := n4_; have BK441 := n5_; have HB := n6_; clear n0_ n1_ n2_ n3_ n4_ n5_ n6_; (try clear hb); (try clear hb2); (try clear hk); (try clear hi); (try clear ho0); obtain ⟨Ao34, co34, eo34⟩ := Kd.R_slice HO444.out; subst eo34; obtain ⟨Ao35, co35, eo35⟩ := Kd.V_slice HO431.out; subst eo35) | ((with_reducible refine gate_callee (f := 46) rfl ?_); refine goesL_ (some 25) rfl rfl Try.func46 (by kernel_rfl) rfl #[.slice Ao34 t442.length co34, .slice Ao35 t429.length co35] rfl (by (try simp only [List.map_toArray, List.map_cons, List.map_nil]); first | done | rfl | (simp only [List.length_drop, List.length_take]; rfl)) ?_; (with_reducible refine (laws_eqByteS.calls k _ _ t442 _ _ t429 true _ ?side1 ?side2 ?side3 ?side4 A11.out).mono ?_); (case side1 => repeat (first | exact (Kd.R_reads' HO444.out).2.2 | (with_reducible refine Kd.C_alloc ?_ _) | (with_reducible refine Kd.C_drewN ?_ _) | (with_reducible refine Kd.C_drew ?_))); (case side2 => exact (Kd.R_reads' HO444.out).2.1); (case side3 => repeat (first | exact (Kd.V_reads' HO431.out).2.2 | (with_reducible refine Kd.C_alloc ?_ _) | (with_reducible refine Kd.C_drewN ?_ _) | (with_reducible refine Kd.C_drew ?_))); (case side4 => exact (Kd.V_reads' HO431.out).2.1); rintro e w' ⟨rfl, ⟨nd, rfl⟩⟩; refine ⟨_, rfl, ?_⟩))
        (try (rw [drewN_self w33]; generalize hq_ : World.drewN w33 _ = w33; have n0_ : Aside0 (Kd.R (Kd.int .i64) 3 w33 w.heap.size (fun k_ => some k_ ≠ (.slice Ao30 t438.length co30 : Value).ownBlock) (.slice Ao23 t426.length co23) t426) := ⟨by rw [← hq_]; exact (by (with_reducible repeat (first | apply Kd.R_alloc | apply Kd.R_drewN | apply Kd.R_drew)); exact HO428.out)⟩; have n1_ : Aside0 (Kd.V (Kd.int .u8) 5 w33 w.heap.size (fun k_ => some k_ ≠ (.slice Ao23 t426.length co23 : Value).ownBlock ∧ some k_ ≠ (.slice Ao30 t438.length co30 : Value).ownBlock ∧ some k_ ≠ (.slice Ao34 t442.length co34 : Value).ownBlock ∧ k_ ≠ gb418 ∧ k_ ≠ gb441) (.slice Ao35 t429.length co35) t429) := ⟨by rw [← hq_]; exact (by (with_reducible repeat (first | apply Kd.V_alloc | apply Kd.V_drewN | apply Kd.V_drew)); exact Kd.V_mono HO431.out (fun _ hk => ⟨hk.1.1, ⟨hk.1.2.1, ⟨hk.2, ⟨hk.1.2.2.1, hk.1.2.2.2⟩⟩⟩⟩))⟩; have n2_ : Aside0 (Kd.R (Kd.int .i64) 3 w33 w.heap.size (fun k_ => some k_ ≠ (.slice Ao23 t426.length co23 : Value).ownBlock) (.slice Ao30 t438.length co30) t438) := ⟨by rw [← hq_]; exact (by (with_reducible repeat (first | apply Kd.R_alloc | apply Kd.R_drewN | apply Kd.R_drew)); exact HO440.out)⟩; have n3_ : Aside0 (Kd.R (Kd.int .u8) 5 w33 w.heap.size (fun _ => True) (.slice Ao34 t442.length co34) t442) := ⟨by rw [← hq_]; exact (by (with_reducible repeat (first | apply Kd.R_alloc | apply Kd.R_drewN | apply Kd.R_drew)); exact HO444.out)⟩; have n4_ : Aside0 (w33.heap[gb418]? = some (.cells #[.int .i64 a0_0, .string a0_1, .int .i64 a0_2, .int .i64 a0_3, .int .i64 a0_4, .bool a0_5, .slice A0_6 l0_6.length c0_6] 30 (0, 0))) := ⟨by rw [← hq_]; exact (by (with_reducible repeat (first | refine blk_drewN ?_ _ | refine blk_drew ?_ | refine blk_alloc ?_ _)); exact BK418.out)⟩; have n5_ : Aside0 (w33.heap[gb441]? = some (.cells #[.int .i64 t432, .string t433, .int .i64 t434, .int .i64 t435, .int .i64 t436, .bool t437, .slice Ao30 t438.length co30] 33 (0, 0))) := ⟨by rw [← hq_]; exact (by (with_reducible repeat (first | refine blk_drewN ?_ _ | refine blk_drew ?_ | refine blk_alloc ?_ _)); exact BK441.out)⟩; have n6_ : Aside0 (Below w.heap.size w w33) := ⟨by rw [← hq_]; exact (by repeat (first | (with_reducible first | exact HB.out | apply below_alloc | apply pw_below_drewN | apply below_drew1 | refine below_set ?_ GE418.out | refine below_set ?_ GE441.out) | exact HB.out))⟩; clear HO428 HO431 HO440 HO444 BK418 BK441 HB hq_; have HO428 := n0_; have HO431 := n1_; have HO440 := n2_; have HO444 := n3_; have BK418 := n4_; have BK441 := n5_; have HB := n6_; clear n0_ n1_ n2_ n3_ n4_ n5_ n6_))
        have n0_ := Aside0.mk (Kd.R_drew HO428.out)
        have n1_ := Aside0.mk (Kd.V_drew HO431.out)
        have n2_ := Aside0.mk (Kd.R_drew HO440.out)
        have n3_ := Aside0.mk (Kd.R_drew HO444.out)
        have n4_ := Aside0.mk (blk_drew BK418.out)
        have n5_ := Aside0.mk (blk_drew BK441.out)
        have n6_ := Aside0.mk (below_drew1 HB.out)
        clear HO428
        clear HO431
        clear HO440
        clear HO444
        clear BK418
        clear BK441
        clear HB
        have HO428 := n0_
        have HO431 := n1_
        have HO440 := n2_
        have HO444 := n3_
        have BK418 := n4_
        have BK441 := n5_
        have HB := n6_
        clear n0_ n1_ n2_ n3_ n4_ n5_ n6_
        refine start_ (n := 5) (S := fun w' => w'.cell? ⟨gb441, 0, none⟩ = some (.int .i64 t432) ∧ w'.cell? ⟨gb441, 1, none⟩ = some (.string t433) ∧ w'.cell? ⟨gb441, 2, none⟩ = some (.int .i64 t434) ∧ w'.cell? ⟨gb441, 3, none⟩ = some (.int .i64 t435) ∧ w'.cell? ⟨gb441, 4, none⟩ = some (.int .i64 t436) ∧ w'.cell? ⟨gb441, 5, none⟩ = some (.bool t437) ∧ w'.cell? ⟨gb441, 6, none⟩ = some (.slice Ao30 t438.length co30) ∧ w'.cell? ⟨gb418, 0, none⟩ = some (.int .i64 a0_0) ∧ w'.cell? ⟨gb418, 1, none⟩ = some (.string a0_1) ∧ w'.cell? ⟨gb418, 2, none⟩ = some (.int .i64 a0_2) ∧ w'.cell? ⟨gb418, 3, none⟩ = some (.int .i64 a0_3) ∧ w'.cell? ⟨gb418, 4, none⟩ = some (.int .i64 a0_4) ∧ w'.cell? ⟨gb418, 5, none⟩ = some (.bool a0_5) ∧ w'.cell? ⟨gb418, 6, none⟩ = some (.slice A0_6 l0_6.length c0_6)) (ds := []) #[false, false, false, false, false] (by kernel_rfl) rfl rfl ⟨(blk_cell BK441.out 0).trans rfl, (blk_cell BK441.out 1).trans rfl, (blk_cell BK441.out 2).trans rfl, (blk_cell BK441.out 3).trans rfl, (blk_cell BK441.out 4).trans rfl, (blk_cell BK441.out 5).trans rfl, (blk_cell BK441.out 6).trans rfl, (blk_cell BK418.out 0).trans rfl, (blk_cell BK418.out 1).trans rfl, (blk_cell BK418.out 2).trans rfl, (blk_cell BK418.out 3).trans rfl, (blk_cell BK418.out 4).trans rfl, (blk_cell BK418.out 5).trans rfl, (blk_cell BK418.out 6).trans rfl⟩ (fun hHeld => ?_)
        generalize w33.drew = w36 at HO428 HO431 HO440 HO444 BK418 BK441 HB hHeld ⊢
        refine take_ (i := 0) (N := some 27) (v := ?_) (a' := ?_) #[true, false, false, false, false] rfl rfl (by kernel_rfl) (fun _ _ _ h => h) (Or.inl ⟨by rfl, ?_⟩) hHeld ?_ ?_
        rotate_left
        · rintro w' ⟨s0, s1, s2, s3, s4, s5, s6, s7, s8, s9, s10, s11, s12, s13⟩
          go_simp
          with_reducible rfl
        rotate_left
        · simp only [Act.put, List.setIfInBounds_toArray, List.set_cons_zero, List.set_cons_succ, i64_w, i32_w]
          rfl
        refine take_ (i := 1) (N := some 28) (v := ?_) (a' := ?_) #[true, true, false, false, false] rfl rfl (by kernel_rfl) (fun _ _ _ h => h) (Or.inl ⟨by rfl, ?_⟩) hHeld ?_ ?_
        rotate_left
        · rintro w' ⟨s0, s1, s2, s3, s4, s5, s6, s7, s8, s9, s10, s11, s12, s13⟩
          go_simp
          with_reducible rfl
        rotate_left
        · simp only [Act.put, List.setIfInBounds_toArray, List.set_cons_zero, List.set_cons_succ, i64_w, i32_w]
          rfl
        refine one_ (i := 2) (N := some 29) #[true, true, true, false, false] rfl rfl (by kernel_rfl) (by decide) (fun K hK => ?_)
        refine goes_ Try.func22 (by kernel_rfl) rfl #[.agg #[.int .i64 a0_0, .string a0_1, .int .i64 a0_2, .int .i64 a0_3, .int .i64 a0_4, .bool a0_5, .slice A0_6 l0_6.length c0_6]] (by rfl) rfl rfl (by (try simp only [List.map_toArray, List.map_cons, List.map_nil]); first | done | rfl | (simp only [List.length_drop, List.length_take]; rfl)) ?_
        with_reducible refine (laws_toNode.calls k a0_0 a0_1 a0_2 a0_3 a0_4 a0_5 _ _ l0_6 t446 t447 t448 t449 t450 t451 t452 _ ?side1 ?side2 A13.out).mono ?_
        (case side1 => repeat (first | exact (Kd.C_below HR0_6.out HB.out) | (with_reducible refine Kd.C_alloc ?_ _) | (with_reducible refine Kd.C_drewN ?_ _) | (with_reducible refine Kd.C_drew ?_)))
        (case side2 => exact HC0_6.out)
        rintro e w37 ⟨v453, rfl, ho0, hb⟩
        refine ⟨_, rfl, ?_⟩
        have n0_ := Aside0.mk (Kd.R_elder' (by (with_reducible repeat (first | apply Kd.R_alloc | apply Kd.R_drewN | apply Kd.R_drew)); exact HO428.out) (Kd.R_base ho0) hb)
        have n1_ := Aside0.mk (Kd.V_elder' (by (with_reducible repeat (first | apply Kd.V_alloc | apply Kd.V_drewN | apply Kd.V_drew)); exact HO431.out) (Kd.R_base ho0) hb)
        have n2_ := Aside0.mk (Kd.R_elder' (by (with_reducible repeat (first | apply Kd.R_alloc | apply Kd.R_drewN | apply Kd.R_drew)); exact HO440.out) (Kd.R_base ho0) hb)
        have n3_ := Aside0.mk (Kd.R_below (by (with_reducible repeat (first | apply Kd.R_alloc | apply Kd.R_drewN | apply Kd.R_drew)); exact HO444.out) hb)
        have n4_ := Aside0.mk (Kd.R_lower (Kd.R_new' (Kd.R_new' ho0 (Kd.R_lt (by (with_reducible repeat (first | apply Kd.R_alloc | apply Kd.R_drewN | apply Kd.R_drew)); exact HO428.out))) (Kd.R_lt (by (with_reducible repeat (first | apply Kd.R_alloc | apply Kd.R_drewN | apply Kd.R_drew)); exact HO440.out))) (below_size (by repeat (first | (with_reducible first | exact HB.out | apply below_alloc | apply pw_below_drewN | apply below_drew1 | refine below_set ?_ GE418.out | refine below_set ?_ GE441.out) | exact HB.out))))
        have n5_ := Aside0.mk (blk_below (g := gb418) (o := .cells #[.int .i64 a0_0, .string a0_1, .int .i64 a0_2, .int .i64 a0_3, .int .i64 a0_4, .bool a0_5, .slice A0_6 l0_6.length c0_6] 30 (0, 0)) (by (with_reducible repeat (first | refine blk_drewN ?_ _ | refine blk_drew ?_ | refine blk_alloc ?_ _)); exact BK418.out) hb)
        have n6_ := Aside0.mk (blk_below (g := gb441) (o := .cells #[.int .i64 t432, .string t433, .int .i64 t434, .int .i64 t435, .int .i64 t436, .bool t437, .slice Ao30 t438.length co30] 33 (0, 0)) (by (with_reducible repeat (first | refine blk_drewN ?_ _ | refine blk_drew ?_ | refine blk_alloc ?_ _)); exact BK441.out) hb)
        have n7_ := Aside0.mk (below_step (by repeat (first | (with_reducible first | exact HB.out | apply below_alloc | apply pw_below_drewN | apply below_drew1 | refine below_set ?_ GE418.out | refine below_set ?_ GE441.out) | exact HB.out)) hb)
        clear HO428
        clear HO431
        clear HO440
        clear HO444
        clear BK418
        clear BK441
        clear HB
        have HO428 := n0_
        have HO431 := n1_
        have HO440 := n2_
        have HO444 := n3_
        have HO454 := n4_
        have BK418 := n5_
        have BK441 := n6_
        have HB := n7_
        clear n0_ n1_ n2_ n3_ n4_ n5_ n6_ n7_
        (try clear hb)
        (try clear hb2)
        (try clear hk)
        (try clear hi)
        (try clear ho0)
        obtain ⟨Ao38, co38, eo38⟩ := Kd.R_slice HO454.out
        (first | subst eo38 | (injection eo38 with f1_ f2_ f3_; have f4_ := f1_.symm; have f5_ := f3_.symm; clear f1_ f2_ f3_; subst f4_; subst f5_))
        refine hK.out _ _ ⟨(blk_cell BK441.out 0).trans rfl, (blk_cell BK441.out 1).trans rfl, (blk_cell BK441.out 2).trans rfl, (blk_cell BK441.out 3).trans rfl, (blk_cell BK441.out 4).trans rfl, (blk_cell BK441.out 5).trans rfl, (blk_cell BK441.out 6).trans rfl, (blk_cell BK418.out 0).trans rfl, (blk_cell BK418.out 1).trans rfl, (blk_cell BK418.out 2).trans rfl, (blk_cell BK418.out 3).trans rfl, (blk_cell BK418.out 4).trans rfl, (blk_cell BK418.out 5).trans rfl, (blk_cell BK418.out 6).trans rfl⟩ (fun hHeld => ?_)
        clear hK K
        refine norm_ (a' := ?_) ?_ ?_
        rotate_left
        · show Act.put _ (some 29) _ = _
          simp only [Act.put, List.setIfInBounds_toArray, List.set_cons_zero, List.set_cons_succ, i64_w, i32_w]
          rfl
        refine one_ (i := 3) (N := some 30) #[true, true, true, true, false] rfl rfl (by kernel_rfl) (by decide) (fun K hK => ?_)
        refine goes_ Try.func24 (by kernel_rfl) rfl #[.agg #[.int .i64 t432, .string t433, .int .i64 t434, .int .i64 t435, .int .i64 t436, .bool t437, .slice Ao30 t438.length co30], .agg #[.int .i64 t446, .string t447, .int .i64 t448, .int .i64 t449, .int .i64 t450, .bool t451, .slice Ao38 t452.length co38]] (by rfl) rfl rfl (by (try simp only [List.map_toArray, List.map_cons, List.map_nil]); first | done | rfl | (simp only [List.length_drop, List.length_take]; rfl)) ?_
        with_reducible refine (laws_eqNode.calls k t432 t433 t434 t435 t436 t437 _ _ t438 t446 t447 t448 t449 t450 t451 _ _ t452 true _ ?side1 ?side2 ?side3 ?side4 A14.out).mono ?_
        (case side1 => repeat (first | exact (Kd.R_reads' HO440.out).2.2 | (with_reducible refine Kd.C_alloc ?_ _) | (with_reducible refine Kd.C_drewN ?_ _) | (with_reducible refine Kd.C_drew ?_)))
        (case side2 => exact (Kd.R_reads' HO440.out).2.1)
        (case side3 => repeat (first | exact (Kd.R_reads' HO454.out).2.2 | (with_reducible refine Kd.C_alloc ?_ _) | (with_reducible refine Kd.C_drewN ?_ _) | (with_reducible refine Kd.C_drew ?_)))
        (case side4 => exact (Kd.R_reads' HO454.out).2.1)
        rintro e w39 ⟨rfl, hb⟩
        refine ⟨_, rfl, ?_⟩
        have n0_ := Aside0.mk (Kd.R_below (by (with_reducible repeat (first | apply Kd.R_alloc | apply Kd.R_drewN | apply Kd.R_drew)); exact HO428.out) hb)
        have n1_ := Aside0.mk (Kd.V_below (by (with_reducible repeat (first | apply Kd.V_alloc | apply Kd.V_drewN | apply Kd.V_drew)); exact HO431.out) hb)
        have n2_ := Aside0.mk (Kd.R_below (by (with_reducible repeat (first | apply Kd.R_alloc | apply Kd.R_drewN | apply Kd.R_drew)); exact HO440.out) hb)
        have n3_ := Aside0.mk (Kd.R_below (by (with_reducible repeat (first | apply Kd.R_alloc | apply Kd.R_drewN | apply Kd.R_drew)); exact HO444.out) hb)
        have n4_ := Aside0.mk (Kd.R_below (by (with_reducible repeat (first | apply Kd.R_alloc | apply Kd.R_drewN | apply Kd.R_drew)); exact HO454.out) hb)
        have n5_ := Aside0.mk (blk_below (g := gb418) (o := .cells #[.int .i64 a0_0, .string a0_1, .int .i64 a0_2, .int .i64 a0_3, .int .i64 a0_4, .bool a0_5, .slice A0_6 l0_6.length c0_6] 30 (0, 0)) (by (with_reducible repeat (first | refine blk_drewN ?_ _ | refine blk_drew ?_ | refine blk_alloc ?_ _)); exact BK418.out) hb)
        have n6_ := Aside0.mk (blk_below (g := gb441) (o := .cells #[.int .i64 t432, .string t433, .int .i64 t434, .int .i64 t435, .int .i64 t436, .bool t437, .slice Ao30 t438.length co30] 33 (0, 0)) (by (with_reducible repeat (first | refine blk_drewN ?_ _ | refine blk_drew ?_ | refine blk_alloc ?_ _)); exact BK441.out) hb)
        have n7_ := Aside0.mk (below_step (by repeat (first | (with_reducible first | exact HB.out | apply below_alloc | apply pw_below_drewN | apply below_drew1 | refine below_set ?_ GE418.out | refine below_set ?_ GE441.out) | exact HB.out)) hb)
        clear HO428
        clear HO431
        clear HO440
        clear HO444
        clear HO454
        clear BK418
        clear BK441
        clear HB
        have HO428 := n0_
        have HO431 := n1_
        have HO440 := n2_
        have HO444 := n3_
        have HO454 := n4_
        have BK418 := n5_
        have BK441 := n6_
        have HB := n7_
        clear n0_ n1_ n2_ n3_ n4_ n5_ n6_ n7_
        (try clear hb)
        (try clear hb2)
        (try clear hk)
        (try clear hi)
        refine hK.out _ _ ⟨(blk_cell BK441.out 0).trans rfl, (blk_cell BK441.out 1).trans rfl, (blk_cell BK441.out 2).trans rfl, (blk_cell BK441.out 3).trans rfl, (blk_cell BK441.out 4).trans rfl, (blk_cell BK441.out 5).trans rfl, (blk_cell BK441.out 6).trans rfl, (blk_cell BK418.out 0).trans rfl, (blk_cell BK418.out 1).trans rfl, (blk_cell BK418.out 2).trans rfl, (blk_cell BK418.out 3).trans rfl, (blk_cell BK418.out 4).trans rfl, (blk_cell BK418.out 5).trans rfl, (blk_cell BK418.out 6).trans rfl⟩ (fun hHeld => ?_)
        clear hK K
        refine norm_ (a' := ?_) ?_ ?_
        rotate_left
        · show Act.put _ (some 30) _ = _
          simp only [Act.put, List.setIfInBounds_toArray, List.set_cons_zero, List.set_cons_succ, i64_w, i32_w]
          rfl
        refine pure_ (i := 4) (N := some 31) (v := ?_) (a' := ?_) #[true, true, true, true, true] rfl rfl (by kernel_rfl) (fun _ _ _ h => h) (Or.inl ⟨by rfl, ?_⟩) ?_ ?_
        rotate_left
        · intro w'
          go_simp
          with_reducible rfl
        rotate_left
        · simp only [Act.put, List.setIfInBounds_toArray, List.set_cons_zero, List.set_cons_succ, i64_w, i32_w]
          rfl
        refine done_ (by kernel_rfl) ?_
        have hcz40_0 : w39.cell? ⟨gb441, 0, none⟩ = some (.int .i64 t432) := (blk_cell BK441.out 0).trans rfl
        have hcz40_1 : w39.cell? ⟨gb441, 1, none⟩ = some (.string t433) := (blk_cell BK441.out 1).trans rfl
        have hcz40_2 : w39.cell? ⟨gb441, 2, none⟩ = some (.int .i64 t434) := (blk_cell BK441.out 2).trans rfl
        have hcz40_3 : w39.cell? ⟨gb441, 3, none⟩ = some (.int .i64 t435) := (blk_cell BK441.out 3).trans rfl
        have hcz40_4 : w39.cell? ⟨gb441, 4, none⟩ = some (.int .i64 t436) := (blk_cell BK441.out 4).trans rfl
        have hcz40_5 : w39.cell? ⟨gb441, 5, none⟩ = some (.bool t437) := (blk_cell BK441.out 5).trans rfl
        have hcz40_6 : w39.cell? ⟨gb441, 6, none⟩ = some (.slice Ao30 t438.length co30) := (blk_cell BK441.out 6).trans rfl
        have hfz40_0 := blk_frozen BK441.out 0
        have hfz40_1 := blk_frozen BK441.out 1
        have hfz40_2 := blk_frozen BK441.out 2
        have hfz40_3 := blk_frozen BK441.out 3
        have hfz40_4 := blk_frozen BK441.out 4
        have hfz40_5 := blk_frozen BK441.out 5
        have hfz40_6 := blk_frozen BK441.out 6
        go_upto_region 14 with (first | ((with_reducible refine gate_callee (f := 47) rfl ?_); refine goesL_ (some 34) rfl rfl Try.func47 (by kernel_rfl) rfl #[.agg #[.int .i64 t432, .string t433, .int .i64 t434, .int .i64 t435, .int .i64 t436, .bool t437, .slice Ao30 t438.length co30], .int .i64 1] rfl (by (try simp only [List.map_toArray, List.map_cons, List.map_nil]); first | done | rfl | (simp only [List.length_drop, List.length_take]; rfl)) ?_; (with_reducible refine (laws_markNode.calls k t432 t433 t434 t435 t436 t437 (fun k_ => some k_ = (.slice Ao30 t438.length co30 : Value).ownBlock) (.slice Ao30 t438.length co30) t438 1 t456 t457 w _ ?side1 ?side2 A16.out).mono ?_); (case side1 => repeat (first | (with_reducible first | exact HB.out | apply below_alloc | apply pw_below_drewN | apply below_drew1 | refine below_set ?_ GE418.out | refine below_set ?_ GE441.out) | exact HB.out)); (case side2 => exact Kd.R_tight rfl HO440.out); rintro e w41 ⟨rfl, hy0, hb, hkp⟩; refine ⟨_, rfl, ?_⟩; have n0_ := Aside0.mk (blk_kept (by (with_reducible repeat (first | refine blk_drewN ?_ _ | refine blk_drew ?_ | refine blk_alloc ?_ _)); exact BK418.out) hkp (fun hs_ => (fun e_ => (Kd.R_ne HO440.out BK418.out (by decide)) e_) hs_)); have n1_ := Aside0.mk (Kd.R_mono (ok' := fun k_ => some k_ ≠ (.slice Ao30 t438.length co30 : Value).ownBlock ∧ some k_ ≠ (.slice Ao38 t452.length co38 : Value).ownBlock) (Kd.R_keptB (HO428.out) hkp (fun k_ hk_ hs_ => (hk_.1) hs_)) (fun k_ hk_ => ⟨hk_.1.1, hk_.1.2⟩)); have n2_ := Aside0.mk (Kd.V_mono (ok' := fun k_ => some k_ ≠ (.slice Ao23 t426.length co23 : Value).ownBlock ∧ some k_ ≠ (.slice Ao30 t438.length co30 : Value).ownBlock ∧ some k_ ≠ (.slice Ao34 t442.length co34 : Value).ownBlock ∧ some k_ ≠ (.slice Ao38 t452.length co38 : Value).ownBlock ∧ k_ ≠ gb418 ∧ k_ ≠ gb441) (Kd.V_keptB (HO431.out) hkp (fun k_ hk_ hs_ => by first | exact (hk_.1.1.2.1) hs_ | exact absurd hs_ (by simp only [hk_, ne_eq, not_false_eq_true]))) (fun k_ hk_ => by first | exact ⟨hk_.1.1.1.1, hk_.1.1.1.2.1, hk_.1.1.2, hk_.1.2, hk_.1.1.1.2.2.1, hk_.1.1.1.2.2.2⟩ | simp only [hk_, ne_eq, not_false_eq_true, and_self])); have n3_ := Aside0.mk (Kd.R_reok rfl hy0 (fun k_ e_ => HO440.out.1 k_ e_)); have n4_ := Aside0.mk (blk_kept (by (with_reducible repeat (first | refine blk_drewN ?_ _ | refine blk_drew ?_ | refine blk_alloc ?_ _)); exact BK441.out) hkp (fun hs_ => (fun e_ => (Kd.R_ne HO440.out BK441.out (by decide)) e_) hs_)); have n5_ := Aside0.mk (Kd.R_mono (ok' := fun k_ => True) (Kd.R_keptB ((Kd.R_apart' HO444.out (Kd.R_typed HO440.out) (by decide))) hkp (fun k_ hk_ hs_ => (hk_.2) hs_)) (fun k_ hk_ => trivial)); have n6_ := Aside0.mk (Kd.R_mono (ok' := fun k_ => some k_ ≠ (.slice Ao23 t426.length co23 : Value).ownBlock ∧ some k_ ≠ (.slice Ao30 t438.length co30 : Value).ownBlock) (Kd.R_keptB (HO454.out) hkp (fun k_ hk_ hs_ => (hk_.2) hs_)) (fun k_ hk_ => ⟨hk_.1.1.2, hk_.1.2⟩)); have n7_ := Aside0.mk (hb); clear BK418; clear HO428; clear HO431; clear HO440; clear BK441; clear HO444; clear HO454; clear HB; have BK418 := n0_; have HO428 := n1_; have HO431 := n2_; have HO440 := n3_; have BK441 := n4_; have HO444 := n5_; have HO454 := n6_; have HB := n7_; clear n0_ n1_ n2_ n3_ n4_ n5_ n6_ n7_; (try clear hb); (try clear hkp); (try clear hy0)))
        (try simp only [Act.put, List.setIfInBounds_toArray, List.set_cons_zero, List.set_cons_succ])
        go_cut [42] (fun v42 wc => ∃ (kq : Nat) (x42_16 : Bool), v42 = .bool x42_16 ∧ Aside0 (laws_FnExactPutNode.j0 kq t429 t442 x42_16 a0_0 a0_1 a0_2 a0_3 a0_4 a0_5 l0_6 = some r) ∧ Aside0 (kq ≤ k) ∧ Aside0 (Kd.V (Kd.int .u8) 5 wc w.heap.size (fun k_ => some k_ ≠ ((.slice Ao34 t442.length co34) : Value).ownBlock ∧ some k_ ≠ ((.slice Ao30 t438.length co30) : Value).ownBlock ∧ k_ ≠ gb418 ∧ k_ ≠ gb441) (.slice Ao35 t429.length co35) t429) ∧ Aside0 (Kd.R (Kd.int .u8) 5 wc w.heap.size (fun _ => True) (.slice Ao34 t442.length co34) t442) ∧ Aside0 (Kd.R (Kd.int .i64) 3 wc w.heap.size (fun _ => True) (.slice Ao30 t438.length co30) t457) ∧ Aside0 (wc.heap[gb418]? = some (.cells #[.int .i64 a0_0, .string a0_1, .int .i64 a0_2, .int .i64 a0_3, .int .i64 a0_4, .bool a0_5, (.slice A0_6 l0_6.length c0_6)] 30 (0, 0))) ∧ Aside0 (wc.heap[gb441]? = some (.cells #[.int .i64 t432, .string t433, .int .i64 t434, .int .i64 t435, .int .i64 t436, .bool t437, (.slice Ao30 t438.length co30)] 33 (0, 0))) ∧ Aside0 (Below w.heap.size w wc))
        case first =>
          have H := HC17.out
          clear HC17
          by_cases c42 : t456 < 0
          · rw [if_pos c42] at H
            have c42b0 : decide (t456 < 0) = true := decide_eq_true c42
            clear c42
            (first | rw [c42b0] | (simp only [i64_w, i32_w]; rw [c42b0]) | skip)
            have H' := Aside0.mk H
            clear H
            go_wp2
            go_meet
            case rel => exact ⟨_, (true), (by first | rfl | (simp; done) | (simp [*]; done)), H', ⟨by first | omega | exact Nat.le_refl _⟩, ⟨by (with_reducible repeat (first | apply Kd.V_alloc | apply Kd.V_drewN | apply Kd.V_drew)); exact Kd.V_mono HO431.out (fun _ hk => ⟨hk.2.2.1, ⟨hk.2.1, ⟨hk.2.2.2.2.1, hk.2.2.2.2.2⟩⟩⟩)⟩, ⟨by (with_reducible repeat (first | apply Kd.R_alloc | apply Kd.R_drewN | apply Kd.R_drew)); exact HO444.out⟩, ⟨by (with_reducible repeat (first | apply Kd.R_alloc | apply Kd.R_drewN | apply Kd.R_drew)); exact Kd.R_mono HO440.out (fun _ hk => trivial)⟩, ⟨by (with_reducible repeat (first | refine blk_drewN ?_ _ | refine blk_drew ?_ | refine blk_alloc ?_ _)); exact BK418.out⟩, ⟨by (with_reducible repeat (first | refine blk_drewN ?_ _ | refine blk_drew ?_ | refine blk_alloc ?_ _)); exact BK441.out⟩, ⟨by repeat (first | (with_reducible first | exact HB.out | apply below_alloc | apply pw_below_drewN | apply below_drew1 | refine below_set ?_ GE418.out | refine below_set ?_ GE441.out) | exact HB.out)⟩⟩
          · rw [if_neg c42] at H
            have c42b0 : decide (t456 < 0) = false := decide_eq_false c42
            clear c42
            (first | rw [c42b0] | (simp only [i64_w, i32_w]; rw [c42b0]) | skip)
            replace H := Option.bind_eq_some_iff.mp H
            obtain ⟨t458, A430, H⟩ := H
            replace H : (laws_FnExactPutNode.j0 k t429 t442 (!t458) a0_0 a0_1 a0_2 a0_3 a0_4 a0_5 l0_6) = some r := H
            have A43 := Aside0.mk A430
            clear A430
            have H' := Aside0.mk H
            clear H
            go_wp2_with (first | (go_at_call 46; (with_reducible refine (laws_eqByteS.calls k _ _ t442 _ _ t429 t458 _ ?side1 ?side2 ?side3 ?side4 A43.out).mono ?_); (case side1 => repeat (first | exact (Kd.R_reads' HO444.out).2.2 | (with_reducible refine Kd.C_alloc ?_ _) | (with_reducible refine Kd.C_drewN ?_ _) | (with_reducible refine Kd.C_drew ?_))); (case side2 => exact (Kd.R_reads' HO444.out).2.1); (case side3 => repeat (first | exact (Kd.V_reads' HO431.out).2.2 | (with_reducible refine Kd.C_alloc ?_ _) | (with_reducible refine Kd.C_drewN ?_ _) | (with_reducible refine Kd.C_drew ?_))); (case side4 => exact (Kd.V_reads' HO431.out).2.1); rintro e w' ⟨rfl, ⟨nd, rfl⟩⟩))
            go_meet
            case rel => exact ⟨_, (!t458), (by first | rfl | (simp; done) | (simp [*]; done)), H', ⟨by first | omega | exact Nat.le_refl _⟩, ⟨by (with_reducible repeat (first | apply Kd.V_alloc | apply Kd.V_drewN | apply Kd.V_drew)); exact Kd.V_mono HO431.out (fun _ hk => ⟨hk.2.2.1, ⟨hk.2.1, ⟨hk.2.2.2.2.1, hk.2.2.2.2.2⟩⟩⟩)⟩, ⟨by (with_reducible repeat (first | apply Kd.R_alloc | apply Kd.R_drewN | apply Kd.R_drew)); exact HO444.out⟩, ⟨by (with_reducible repeat (first | apply Kd.R_alloc | apply Kd.R_drewN | apply Kd.R_drew)); exact Kd.R_mono HO440.out (fun _ hk => trivial)⟩, ⟨by (with_reducible repeat (first | refine blk_drewN ?_ _ | refine blk_drew ?_ | refine blk_alloc ?_ _)); exact BK418.out⟩, ⟨by (with_reducible repeat (first | refine blk_drewN ?_ _ | refine blk_drew ?_ | refine blk_alloc ?_ _)); exact BK441.out⟩, ⟨by repeat (first | (with_reducible first | exact HB.out | apply below_alloc | apply pw_below_drewN | apply below_drew1 | refine below_set ?_ GE418.out | refine below_set ?_ GE441.out) | exact HB.out)⟩⟩
        case rest =>
          clear HC17
          try clear c1
          try clear c2
          try clear p2
          try clear c3
          try clear c3b0
          try clear c4
          try clear c12
          try clear c15
          try clear c20
          try clear c22
          try clear c24
          try clear c28
          try clear c42
          try clear c42b0
          try clear hcz19_0
          try clear hcz19_1
          try clear hcz19_2
          try clear hcz19_3
          try clear hcz19_4
          try clear hcz19_5
          try clear hcz19_6
          try clear hcz21_0
          try clear hcz21_1
          try clear hcz21_2
          try clear hcz21_3
          try clear hcz21_4
          try clear hcz21_5
          try clear hcz21_6
          try clear hcz25_0
          try clear hcz25_1
          try clear hcz25_2
          try clear hcz25_3
          try clear hcz25_4
          try clear hcz25_5
          try clear hcz25_6
          try clear hcz29_0
          try clear hcz29_1
          try clear hcz29_2
          try clear hcz29_3
          try clear hcz29_4
          try clear hcz29_5
          try clear hcz29_6
          try clear hcz32_0
          try clear hcz32_1
          try clear hcz32_2
          try clear hcz32_3
          try clear hcz32_4
          try clear hcz32_5
          try clear hcz32_6
          try clear hcz40_0
          try clear hcz40_1
          try clear hcz40_2
          try clear hcz40_3
          try clear hcz40_4
          try clear hcz40_5
          try clear hcz40_6
          try clear hcz5_0
          try clear hcz5_1
          try clear hcz5_2
          try clear hcz5_3
          try clear hcz5_4
          try clear hcz5_5
          try clear hcz5_6
          try clear hfz19_0
          try clear hfz19_1
          try clear hfz19_2
          try clear hfz19_3
          try clear hfz19_4
          try clear hfz19_5
          try clear hfz19_6
          try clear hfz21_0
          try clear hfz21_1
          try clear hfz21_2
          try clear hfz21_3
          try clear hfz21_4
          try clear hfz21_5
          try clear hfz21_6
          try clear hfz25_0
          try clear hfz25_1
          try clear hfz25_2
          try clear hfz25_3
          try clear hfz25_4
          try clear hfz25_5
          try clear hfz25_6
          try clear hfz29_0
          try clear hfz29_1
          try clear hfz29_2
          try clear hfz29_3
          try clear hfz29_4
          try clear hfz29_5
          try clear hfz29_6
          try clear hfz32_0
          try clear hfz32_1
          try clear hfz32_2
          try clear hfz32_3
          try clear hfz32_4
          try clear hfz32_5
          try clear hfz32_6
          try clear hfz40_0
          try clear hfz40_1
          try clear hfz40_2
          try clear hfz40_3
          try clear hfz40_4
          try clear hfz40_5
          try clear hfz40_6
          try clear hfz5_0
          try clear hfz5_1
          try clear hfz5_2
          try clear hfz5_3
          try clear hfz5_4
          try clear hfz5_5
          try clear hfz5_6
          obtain ⟨kq, x42_16, rfl, HA, HJ16, HO_4, HO_6, HO_442006, BK418, BK441, HB⟩ := hcut
          have hl442006_16 := (Kd.R_reads' HO_442006.out).1
          rw [hl442006_16] at HO_442006
          (try simp only [hl442006_16])
          (try simp only [hl442006_16] at BK418)
          (try simp only [hl442006_16] at BK441)
          (try simp only [hl442006_16] at HO_4)
          (try simp only [hl442006_16] at HO_6)
          cases kq with
          | zero => exact absurd HA.out (by simp [laws_FnExactPutNode.j0])
          | succ kj16 =>
            have H := HA.out
            clear HA
            simp only [laws_FnExactPutNode.j0] at H
            by_cases c44 : x42_16 = true
            · subst c44
              have H1 : (some false) = some r := by rw [if_pos rfl] at H; exact H
              clear H
              have H := H1
              clear H1
              exact absurd ((Option.some.inj H).trans hr_) (by decide)
            · replace c44 := Bool.eq_false_iff.mpr c44
              subst c44
              have H1 : ((laws_markByteS.f kj16 t442 1).bind fun bt459 => ((laws_heldByteS.f kj16 bt459.2 1).bind fun t461 => (if t461 < 0 then (some false) else (if t461 = bt459.1 then ((laws_toNode.f kj16 a0_0 a0_1 a0_2 a0_3 a0_4 a0_5 l0_6).bind fun bt462 => ((impl_PutNode.f kj16 bt462.1 bt462.2.1 bt462.2.2.1 bt462.2.2.2.1 bt462.2.2.2.2.1 bt462.2.2.2.2.2.1 bt462.2.2.2.2.2.2).bind fun t471 => ((laws_eqByteS.f kj16 t471 t429).bind fun t474 => (if t474 = true then ((laws_heldByteS.f kj16 bt459.2 1).bind fun t475 => (if t475 < 0 then (some false) else (if t475 = bt459.1 then (some true) else (some false)))) else (some false))))) else (some false))))) = some r := by rw [if_neg (show ¬ (false = true) by decide)] at H; exact H
              clear H
              have H := H1
              clear H1
              replace H := Option.bind_eq_some_iff.mp H
              obtain ⟨⟨t459, t460⟩, A450, H⟩ := H
              replace H : ((laws_heldByteS.f kj16 t460 1).bind fun t461 => (if t461 < 0 then (some false) else (if t461 = t459 then ((laws_toNode.f kj16 a0_0 a0_1 a0_2 a0_3 a0_4 a0_5 l0_6).bind fun bt462 => ((impl_PutNode.f kj16 bt462.1 bt462.2.1 bt462.2.2.1 bt462.2.2.2.1 bt462.2.2.2.2.1 bt462.2.2.2.2.2.1 bt462.2.2.2.2.2.2).bind fun t471 => ((laws_eqByteS.f kj16 t471 t429).bind fun t474 => (if t474 = true then ((laws_heldByteS.f kj16 t460 1).bind fun t475 => (if t475 < 0 then (some false) else (if t475 = t459 then (some true) else (some false)))) else (some false))))) else (some false)))) = some r := H
              have A45 := Aside0.mk A450
              clear A450
              replace H := Option.bind_eq_some_iff.mp H
              obtain ⟨t461, A460, H⟩ := H
              replace H : (if t461 < 0 then (some false) else (if t461 = t459 then ((laws_toNode.f kj16 a0_0 a0_1 a0_2 a0_3 a0_4 a0_5 l0_6).bind fun bt462 => ((impl_PutNode.f kj16 bt462.1 bt462.2.1 bt462.2.2.1 bt462.2.2.2.1 bt462.2.2.2.2.1 bt462.2.2.2.2.2.1 bt462.2.2.2.2.2.2).bind fun t471 => ((laws_eqByteS.f kj16 t471 t429).bind fun t474 => (if t474 = true then ((laws_heldByteS.f kj16 t460 1).bind fun t475 => (if t475 < 0 then (some false) else (if t475 = t459 then (some true) else (some false)))) else (some false))))) else (some false))) = some r := H
              have A46 := Aside0.mk A460
              clear A460
              by_cases c47 : t461 < 0
              · rw [if_pos c47] at H
                have c47b0 : decide (t461 < 0) = true := decide_eq_true c47
                clear c47
                exact absurd ((Option.some.inj H).trans hr_) (by decide)
              · rw [if_neg c47] at H
                have c47b0 : decide (t461 < 0) = false := decide_eq_false c47
                clear c47
                by_cases c49 : t461 = t459
                · rw [if_pos c49] at H
                  have c49b0 : (t461 == t459) = true := beq_iff_eq.mpr c49
                  have c49b1 : (t461 != t459) = false := bne_eq_false_iff_eq.mpr c49
                  clear c49
                  replace H := Option.bind_eq_some_iff.mp H
                  obtain ⟨⟨t462, t463, t464, t465, t466, t467, t468⟩, A500, H⟩ := H
                  replace H : ((impl_PutNode.f kj16 t462 t463 t464 t465 t466 t467 t468).bind fun t471 => ((laws_eqByteS.f kj16 t471 t429).bind fun t474 => (if t474 = true then ((laws_heldByteS.f kj16 t460 1).bind fun t475 => (if t475 < 0 then (some false) else (if t475 = t459 then (some true) else (some false)))) else (some false)))) = some r := H
                  have A50 := Aside0.mk A500
                  clear A500
                  replace H := Option.bind_eq_some_iff.mp H
                  obtain ⟨t471, A510, H⟩ := H
                  replace H : ((laws_eqByteS.f kj16 t471 t429).bind fun t474 => (if t474 = true then ((laws_heldByteS.f kj16 t460 1).bind fun t475 => (if t475 < 0 then (some false) else (if t475 = t459 then (some true) else (some false)))) else (some false))) = some r := H
                  have A51 := Aside0.mk A510
                  clear A510
                  replace H := Option.bind_eq_some_iff.mp H
                  obtain ⟨t474, A520, H⟩ := H
                  replace H : (if t474 = true then ((laws_heldByteS.f kj16 t460 1).bind fun t475 => (if t475 < 0 then (some false) else (if t475 = t459 then (some true) else (some false)))) else (some false)) = some r := H
                  have A52 := Aside0.mk A520
                  clear A520
                  by_cases c53 : t474 = true
                  · subst c53
                    have H1 : ((laws_heldByteS.f kj16 t460 1).bind fun t475 => (if t475 < 0 then (some false) else (if t475 = t459 then (some true) else (some false)))) = some r := by rw [if_pos rfl] at H; exact H
                    clear H
                    have H := H1
                    clear H1
                    replace H := Option.bind_eq_some_iff.mp H
                    obtain ⟨t475, A540, H⟩ := H
                    replace H : (if t475 < 0 then (some false) else (if t475 = t459 then (some true) else (some false))) = some r := H
                    have A54 := Aside0.mk A540
                    clear A540
                    by_cases c55 : t475 < 0
                    · rw [if_pos c55] at H
                      have c55b0 : decide (t475 < 0) = true := decide_eq_true c55
                      clear c55
                      exact absurd ((Option.some.inj H).trans hr_) (by decide)
                    · rw [if_neg c55] at H
                      have c55b0 : decide (t475 < 0) = false := decide_eq_false c55
                      clear c55
                      by_cases c63 : t475 = t459
                      · rw [if_pos c63] at H
                        have c63b0 : (t475 == t459) = true := beq_iff_eq.mpr c63
                        have c63b1 : (t475 != t459) = false := bne_eq_false_iff_eq.mpr c63
                        clear c63
                        obtain rfl := Option.some.inj H
                        go_wp2_with (first | ((with_reducible refine gate_callee (f := 48) rfl ?_); refine goesL_ (some 45) rfl rfl Try.func48 (by kernel_rfl) rfl #[.slice Ao34 t442.length co34, .int .i64 1] rfl (by (try simp only [List.map_toArray, List.map_cons, List.map_nil]); first | done | rfl | (simp only [List.length_drop, List.length_take]; rfl)) ?_; (with_reducible refine (laws_markByteS.calls kj16 (fun k_ => some k_ = (.slice Ao34 t442.length co34 : Value).ownBlock) (.slice Ao34 t442.length co34) t442 1 t459 t460 w _ ?side1 ?side2 A45.out).mono ?_); (case side1 => repeat (first | (with_reducible first | exact HB.out | apply below_alloc | apply pw_below_drewN | apply below_drew1 | refine below_set ?_ GE418.out | refine below_set ?_ GE441.out) | exact HB.out)); (case side2 => exact Kd.R_tight rfl HO_6.out); rintro e w64 ⟨rfl, hy0, hb, hkp⟩; refine ⟨_, rfl, ?_⟩; have n0_ := Aside0.mk (Kd.V_mono (ok' := fun k_ => some k_ ≠ (.slice Ao34 t442.length co34 : Value).ownBlock ∧ some k_ ≠ (.slice Ao30 t457.length co30 : Value).ownBlock ∧ k_ ≠ gb418 ∧ k_ ≠ gb441) (Kd.V_keptB (HO_4.out) hkp (fun k_ hk_ hs_ => by first | exact (hk_.1) hs_ | exact absurd hs_ (by simp only [hk_, ne_eq, not_false_eq_true]))) (fun k_ hk_ => by first | exact ⟨hk_.1.1, hk_.1.2.1, hk_.1.2.2.1, hk_.1.2.2.2⟩ | simp only [hk_, ne_eq, not_false_eq_true, and_self])); have n1_ := Aside0.mk (Kd.R_reok rfl hy0 (fun k_ e_ => HO_6.out.1 k_ e_)); have n2_ := Aside0.mk (Kd.R_mono (ok' := fun k_ => True) (Kd.R_keptB ((Kd.R_apart' HO_442006.out (Kd.R_typed HO_6.out) (by decide))) hkp (fun k_ hk_ hs_ => (hk_.2) hs_)) (fun k_ hk_ => trivial)); have n3_ := Aside0.mk (blk_kept (by (with_reducible repeat (first | refine blk_drewN ?_ _ | refine blk_drew ?_ | refine blk_alloc ?_ _)); exact BK418.out) hkp (fun hs_ => (fun e_ => (Kd.R_ne HO_6.out BK418.out (by decide)) e_) hs_)); have n4_ := Aside0.mk (blk_kept (by (with_reducible repeat (first | refine blk_drewN ?_ _ | refine blk_drew ?_ | refine blk_alloc ?_ _)); exact BK441.out) hkp (fun hs_ => (fun e_ => (Kd.R_ne HO_6.out BK441.out (by decide)) e_) hs_)); have n5_ := Aside0.mk (hb); clear HO_4; clear HO_6; clear HO_442006; clear BK418; clear BK441; clear HB; have HO_4 := n0_; have HO_6 := n1_; have HO_442006 := n2_; have BK418 := n3_; have BK441 := n4_; have HB := n5_; clear n0_ n1_ n2_ n3_ n4_ n5_; (try clear hb); (try clear hkp); (try clear hy0)) | ((with_reducible refine gate_callee (f := 49) rfl ?_); refine goesL_ (some 48) rfl rfl Try.func49 (by kernel_rfl) rfl #[.slice Ao34 t460.length co34, .int .i64 1] rfl (by (try simp only [List.map_toArray, List.map_cons, List.map_nil]); first | done | (rw [show t460.length = t442.length from (Kd.R_reads' HO_6.out).1.symm] <;> rfl) | rfl | (simp only [List.length_drop, List.length_take]; rfl)) ?_; (with_reducible refine (laws_heldByteS.calls kj16 _ _ t460 1 t461 _ ?side1 ?side2 A46.out).mono ?_); (case side1 => repeat (first | exact (Kd.R_reads' HO_6.out).2.2 | (with_reducible refine Kd.C_alloc ?_ _) | (with_reducible refine Kd.C_drewN ?_ _) | (with_reducible refine Kd.C_drew ?_))); (case side2 => rw [show t460.length = t442.length from (Kd.R_reads' HO_6.out).1.symm]; exact (Kd.R_reads' HO_6.out).2.1); rintro e w' ⟨rfl, ⟨nd, rfl⟩⟩; refine ⟨_, rfl, ?_⟩; have hnb65 := NB418_441.out; have hnc65 := NB441_418.out; have hcz66_0 : w64.cell? ⟨gb418, 0, none⟩ = some (.int .i64 a0_0) := (blk_cell BK418.out 0).trans rfl; have hcz66_1 : w64.cell? ⟨gb418, 1, none⟩ = some (.string a0_1) := (blk_cell BK418.out 1).trans rfl; have hcz66_2 : w64.cell? ⟨gb418, 2, none⟩ = some (.int .i64 a0_2) := (blk_cell BK418.out 2).trans rfl; have hcz66_3 : w64.cell? ⟨gb418, 3, none⟩ = some (.int .i64 a0_3) := (blk_cell BK418.out 3).trans rfl; have hcz66_4 : w64.cell? ⟨gb418, 4, none⟩ = some (.int .i64 a0_4) := (blk_cell BK418.out 4).trans rfl; have hcz66_5 : w64.cell? ⟨gb418, 5, none⟩ = some (.bool a0_5) := (blk_cell BK418.out 5).trans rfl; have hcz66_6 : w64.cell? ⟨gb418, 6, none⟩ = some (.slice A0_6 l0_6.length c0_6) := (blk_cell BK418.out 6).trans rfl; have hfz66_0 := blk_frozen BK418.out 0; have hfz66_1 := blk_frozen BK418.out 1; have hfz66_2 := blk_frozen BK418.out 2; have hfz66_3 := blk_frozen BK418.out 3; have hfz66_4 := blk_frozen BK418.out 4; have hfz66_5 := blk_frozen BK418.out 5; have hfz66_6 := blk_frozen BK418.out 6) | ((with_reducible refine gate_callee (f := 22) rfl ?_); refine goesL_ (some 55) rfl rfl Try.func22 (by kernel_rfl) rfl #[.agg #[.int .i64 a0_0, .string a0_1, .int .i64 a0_2, .int .i64 a0_3, .int .i64 a0_4, .bool a0_5, .slice A0_6 l0_6.length c0_6]] rfl (by (try simp only [List.map_toArray, List.map_cons, List.map_nil]); first | done | rfl | (simp only [List.length_drop, List.length_take]; rfl)) ?_; (with_reducible refine (laws_toNode.calls kj16 a0_0 a0_1 a0_2 a0_3 a0_4 a0_5 _ _ l0_6 t462 t463 t464 t465 t466 t467 t468 _ ?side1 ?side2 A50.out).mono ?_); (case side1 => repeat (first | exact (Kd.C_below HR0_6.out (by repeat (first | (with_reducible first | exact HB.out | apply below_alloc | apply pw_below_drewN | apply below_drew1 | refine below_set ?_ GE418.out | refine below_set ?_ GE441.out) | exact HB.out))) | (with_reducible refine Kd.C_alloc ?_ _) | (with_reducible refine Kd.C_drewN ?_ _) | (with_reducible refine Kd.C_drew ?_))); (case side2 => exact HC0_6.out); rintro e w67 ⟨v469, rfl, ho0, hb⟩; refine ⟨_, rfl, ?_⟩; have n0_ := Aside0.mk (Kd.V_elder' (by (with_reducible repeat (first | apply Kd.V_alloc | apply Kd.V_drewN | apply Kd.V_drew)); exact HO_4.out) (Kd.R_base ho0) hb); have n1_ := Aside0.mk (Kd.R_below (by (with_reducible repeat (first | apply Kd.R_alloc | apply Kd.R_drewN | apply Kd.R_drew)); exact HO_6.out) hb); have n2_ := Aside0.mk (Kd.R_elder' (by (with_reducible repeat (first | apply Kd.R_alloc | apply Kd.R_drewN | apply Kd.R_drew)); exact HO_442006.out) (Kd.R_base ho0) hb); have n3_ := Aside0.mk (Kd.R_lower (Kd.R_new' ho0 (Kd.R_lt (by (with_reducible repeat (first | apply Kd.R_alloc | apply Kd.R_drewN | apply Kd.R_drew)); exact HO_442006.out))) (below_size (by repeat (first | (with_reducible first | exact HB.out | apply below_alloc | apply pw_below_drewN | apply below_drew1 | refine below_set ?_ GE418.out | refine below_set ?_ GE441.out) | exact HB.out)))); have n4_ := Aside0.mk (blk_below (g := gb418) (o := .cells #[.int .i64 a0_0, .string a0_1, .int .i64 a0_2, .int .i64 a0_3, .int .i64 a0_4, .bool a0_5, .slice A0_6 l0_6.length c0_6] 30 (0, 0)) (by (with_reducible repeat (first | refine blk_drewN ?_ _ | refine blk_drew ?_ | refine blk_alloc ?_ _)); exact BK418.out) hb); have n5_ := Aside0.mk (blk_below (g := gb441) (o := .cells #[.int .i64 t432, .string t433, .int .i64 t434, .int .i64 t435, .int .i64 t436, .bool t437, .slice Ao30 t457.length co30] 33 (0, 0)) (by (with_reducible repeat (first | refine blk_drewN ?_ _ | refine blk_drew ?_ | refine blk_alloc ?_ _)); exact BK441.out) hb); have n6_ := Aside0.mk (below_step (by repeat (first | (with_reducible first | exact HB.out | apply below_alloc | apply pw_below_drewN | apply below_drew1 | refine below_set ?_ GE418.out | refine below_set ?_ GE441.out) | exact HB.out)) hb); clear HO_4; clear HO_6; clear HO_442006; clear BK418; clear BK441; clear HB; have HO_4 := n0_; have HO_6 := n1_; have HO_442006 := n2_; have HO470 := n3_; have BK418 := n4_; have BK441 := n5_; have HB := n6_; clear n0_ n1_ n2_ n3_ n4_ n5_ n6_; (try clear hb); (try clear hb2); (try clear hk); (try clear hi); (try clear ho0); obtain ⟨Ao68, co68, eo68⟩ := Kd.R_slice HO470.out; subst eo68) | ((with_reducible refine gate_callee (f := 45) rfl ?_); refine goesL_ (some 56) rfl rfl Try.func45 (by kernel_rfl) rfl #[.agg #[.int .i64 t462, .string t463, .int .i64 t464, .int .i64 t465, .int .i64 t466, .bool t467, .slice Ao68 t468.length co68]] rfl (by (try simp only [List.map_toArray, List.map_cons, List.map_nil]); first | done | rfl | (simp only [List.length_drop, List.length_take]; rfl)) ?_; (with_reducible refine (impl_PutNode.calls kj16 t462 t463 t464 t465 t466 t467 _ _ t468 t471 _ ?side1 ?side2 A51.out).mono ?_); (case side1 => repeat (first | exact (Kd.R_reads' HO470.out).2.2 | (with_reducible refine Kd.C_alloc ?_ _) | (with_reducible refine Kd.C_drewN ?_ _) | (with_reducible refine Kd.C_drew ?_))); (case side2 => exact (Kd.R_reads' HO470.out).2.1); rintro e w69 ⟨v472, rfl, ho0, hb⟩; refine ⟨_, rfl, ?_⟩; have n0_ := Aside0.mk (Kd.V_elder' (by (with_reducible repeat (first | apply Kd.V_alloc | apply Kd.V_drewN | apply Kd.V_drew)); exact HO_4.out) (Kd.R_base ho0) hb); have n1_ := Aside0.mk (Kd.R_elder' (by (with_reducible repeat (first | apply Kd.R_alloc | apply Kd.R_drewN | apply Kd.R_drew)); exact HO_6.out) (Kd.R_base ho0) hb); have n2_ := Aside0.mk (Kd.R_below (by (with_reducible repeat (first | apply Kd.R_alloc | apply Kd.R_drewN | apply Kd.R_drew)); exact HO_442006.out) hb); have n3_ := Aside0.mk (Kd.R_below (by (with_reducible repeat (first | apply Kd.R_alloc | apply Kd.R_drewN | apply Kd.R_drew)); exact HO470.out) hb); have n4_ := Aside0.mk (Kd.R_lower (Kd.R_new' ho0 (Kd.R_lt (by (with_reducible repeat (first | apply Kd.R_alloc | apply Kd.R_drewN | apply Kd.R_drew)); exact HO_6.out))) (below_size (by repeat (first | (with_reducible first | exact HB.out | apply below_alloc | apply pw_below_drewN | apply below_drew1 | refine below_set ?_ GE418.out | refine below_set ?_ GE441.out) | exact HB.out)))); have n5_ := Aside0.mk (blk_below (g := gb418) (o := .cells #[.int .i64 a0_0, .string a0_1, .int .i64 a0_2, .int .i64 a0_3, .int .i64 a0_4, .bool a0_5, .slice A0_6 l0_6.length c0_6] 30 (0, 0)) (by (with_reducible repeat (first | refine blk_drewN ?_ _ | refine blk_drew ?_ | refine blk_alloc ?_ _)); exact BK418.out) hb); have n6_ := Aside0.mk (blk_below (g := gb441) (o := .cells #[.int .i64 t432, .string t433, .int .i64 t434, .int .i64 t435, .int .i64 t436, .bool t437, .slice Ao30 t457.length co30] 33 (0, 0)) (by (with_reducible repeat (first | refine blk_drewN ?_ _ | refine blk_drew ?_ | refine blk_alloc ?_ _)); exact BK441.out) hb); have n7_ := Aside0.mk (below_step (by repeat (first | (with_reducible first | exact HB.out | apply below_alloc | apply pw_below_drewN | apply below_drew1 | refine below_set ?_ GE418.out | refine below_set ?_ GE441.out) | exact HB.out)) hb); clear HO_4; clear HO_6; clear HO_442006; clear HO470; clear BK418; clear BK441; clear HB; have HO_4 := n0_; have HO_6 := n1_; have HO_442006 := n2_; have HO470 := n3_; have HO473 := n4_; have BK418 := n5_; have BK441 := n6_; have HB := n7_; clear n0_ n1_ n2_ n3_ n4_ n5_ n6_ n7_; (try clear hb); (try clear hb2); (try clear hk); (try clear hi); (try clear ho0); obtain ⟨Ao70, co70, eo70⟩ := Kd.R_slice HO473.out; subst eo70) | ((with_reducible refine gate_callee (f := 46) rfl ?_); refine goesL_ (some 59) rfl rfl Try.func46 (by kernel_rfl) rfl #[.slice Ao70 t471.length co70, .slice Ao35 t429.length co35] rfl (by (try simp only [List.map_toArray, List.map_cons, List.map_nil]); first | done | rfl | (simp only [List.length_drop, List.length_take]; rfl)) ?_; (with_reducible refine (laws_eqByteS.calls kj16 _ _ t471 _ _ t429 true _ ?side1 ?side2 ?side3 ?side4 A52.out).mono ?_); (case side1 => repeat (first | exact (Kd.R_reads' HO473.out).2.2 | (with_reducible refine Kd.C_alloc ?_ _) | (with_reducible refine Kd.C_drewN ?_ _) | (with_reducible refine Kd.C_drew ?_))); (case side2 => exact (Kd.R_reads' HO473.out).2.1); (case side3 => repeat (first | exact (Kd.V_reads' HO_4.out).2.2 | (with_reducible refine Kd.C_alloc ?_ _) | (with_reducible refine Kd.C_drewN ?_ _) | (with_reducible refine Kd.C_drew ?_))); (case side4 => exact (Kd.V_reads' HO_4.out).2.1); rintro e w' ⟨rfl, ⟨nd, rfl⟩⟩; refine ⟨_, rfl, ?_⟩) | ((with_reducible refine gate_callee (f := 49) rfl ?_); refine goesL_ (some 63) rfl rfl Try.func49 (by kernel_rfl) rfl #[.slice Ao34 t460.length co34, .int .i64 1] rfl (by (try simp only [List.map_toArray, List.map_cons, List.map_nil]); first | done | (rw [show t460.length = t442.length from (Kd.R_reads' HO_6.out).1.symm] <;> rfl) | rfl | (simp only [List.length_drop, List.length_take]; rfl)) ?_; (with_reducible refine (laws_heldByteS.calls kj16 _ _ t460 1 t475 _ ?side1 ?side2 A54.out).mono ?_); (case side1 => repeat (first | exact (Kd.R_reads' HO_6.out).2.2 | (with_reducible refine Kd.C_alloc ?_ _) | (with_reducible refine Kd.C_drewN ?_ _) | (with_reducible refine Kd.C_drew ?_))); (case side2 => rw [show t460.length = t442.length from (Kd.R_reads' HO_6.out).1.symm]; exact (Kd.R_reads' HO_6.out).2.1); rintro e w' ⟨rfl, ⟨nd, rfl⟩⟩; refine ⟨_, rfl, ?_⟩))
                        go_ret
                        exact ⟨by first | rfl | (simp [errW_none, errW_some] <;> rfl) | (simp [*, errW_none, errW_some] <;> rfl), by repeat (first | (with_reducible first | exact HB.out | apply below_alloc | apply pw_below_drewN | apply below_drew1 | refine below_set ?_ GE418.out | refine below_set ?_ GE441.out) | exact HB.out)⟩
                      · rw [if_neg c63] at H
                        have c63b0 : (t475 == t459) = false := beq_eq_false_iff_ne.mpr c63
                        have c63b1 : (t475 != t459) = true := bne_iff_ne.mpr c63
                        exact absurd ((Option.some.inj H).trans hr_) (by decide)
                  · replace c53 := Bool.eq_false_iff.mpr c53
                    subst c53
                    have H1 : (some false) = some r := by rw [if_neg (show ¬ (false = true) by decide)] at H; exact H
                    clear H
                    have H := H1
                    clear H1
                    exact absurd ((Option.some.inj H).trans hr_) (by decide)
                · rw [if_neg c49] at H
                  have c49b0 : (t461 == t459) = false := beq_eq_false_iff_ne.mpr c49
                  have c49b1 : (t461 != t459) = true := bne_iff_ne.mpr c49
                  exact absurd ((Option.some.inj H).trans hr_) (by decide)
      · replace c15 := Bool.eq_false_iff.mpr c15
        subst c15
        have H1 : (some false) = some r := by rw [if_neg (show ¬ (false = true) by decide)] at H; exact H
        clear H
        have H := H1
        clear H1
        exact absurd ((Option.some.inj H).trans hr_) (by decide)
    · replace c12 := Bool.eq_false_iff.mpr c12
      subst c12
      have H1 : (some false) = some r := by rw [if_neg (show ¬ (false = true) by decide)] at H; exact H
      clear H
      have H := H1
      clear H1
      exact absurd ((Option.some.inj H).trans hr_) (by decide)

end Go.Proofs.Ytmjfnkebpdmhbaa.Q
