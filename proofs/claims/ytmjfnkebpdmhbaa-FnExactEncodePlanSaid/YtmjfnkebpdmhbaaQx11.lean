/- The machine side of a law, written by a program of this session over the translation: for each Go function a Lean function with the same answers, and the proof that the Go code comes to them. -/
import Derived.Test.YtmjfnkebpdmhbaaQx0
import Derived.Test.YtmjfnkebpdmhbaaQx1
import Derived.Test.YtmjfnkebpdmhbaaQx2
import Derived.Test.YtmjfnkebpdmhbaaQx5
import Derived.Test.YtmjfnkebpdmhbaaQx7
import Derived.Test.YtmjfnkebpdmhbaaQx9
import Derived.Test.YtmjfnkebpdmhbaaQx10
namespace Go.Proofs.Ytmjfnkebpdmhbaa.Q
open Go.RowKit Go.Proofs.Ytmjfnkebpdmhbaa.Own Go.Proofs.YtmjfnkebpdmhbaaW.PrintWords Go.Proofs.YtmjfnkebpdmhbaaW.PrintLast Go.Proofs.YtmjfnkebpdmhbaaW.PrintMore
attribute [local go_sem] max2_int min2_int max_two min_two max_three min_three max_four min_four   -- for this text's walks alone
set_option linter.unusedVariables false
set_option linter.unusedSimpArgs false

/-! ### impl_EncodePlan: function 55 -/
def impl_EncodePlan.l0 : Nat → List Int → List (S33) → Int → Int → Option (List Int × Bool)
 | 0, _, _, _, _ => none
 | k + 1, x4, x13, x14, x15 => if x15 < x14 then (if 0 ≤ x15 then (if x15 < (x13.length : Int) then ((impl_PutNode.f k ((rd_T33 x13 x15).f0) ((rd_T33 x13 x15).f1) ((rd_T33 x13 x15).f2) ((rd_T33 x13 x15).f3) ((rd_T33 x13 x15).f4) ((rd_T33 x13 x15).f5) ((rd_T33 x13 x15).f6)).bind fun t423 => (if x4.length + t423.length < 140737488355328 then (impl_EncodePlan.l0 k (x4 ++ t423) x13 x14 (wrap64 (x15 + 1))) else (none))) else (none)) else (none)) else ((impl_Frame.f k x4).bind fun bt429 => (some (bt429.1, bt429.2)))
def impl_EncodePlan.f (k : Nat) (l0 : List (S33)) : Option (List Int × Bool) := (impl_PlanOk.f k l0).bind fun t417 => (if t417 = true then ((impl_PutNum.f k (l0.length : Int)).bind fun t418 => (impl_EncodePlan.l0 k t418 l0 (l0.length : Int) 0)) else (some (([] : List Int), false)))
theorem impl_EncodePlan.mono_l : ∀ k, (∀ y0 y1 y2 y3, LeO (impl_EncodePlan.l0 k y0 y1 y2 y3) (impl_EncodePlan.l0 (k + 1) y0 y1 y2 y3))
 | 0 => fun _ _ _ _ r h => by simp [impl_EncodePlan.l0] at h
 | k + 1 => by
  have ih0 := impl_EncodePlan.mono_l k
  ·intro y0 y1 y2 y3
   unfold impl_EncodePlan.l0
   repeat' first
   | (with_reducible exact ih0 _ _ _ _)
   | (with_reducible exact impl_Frame.mono _ _)
   | (with_reducible exact impl_PlanOk.mono _ _)
   | (with_reducible exact impl_PutNode.mono _ _ _ _ _ _ _ _)
   | (with_reducible exact impl_PutNum.mono _ _)
   | (with_reducible exact LeO.refl _)
   | (with_reducible exact LeO.none _)
   | (with_reducible refine LeO.ite ?_ ?_)
   | (with_reducible refine LeO.bind ?_ (fun _ => ?_))
   | exact ih0 _ _ _ _
   | exact impl_Frame.mono _ _
   | exact impl_PlanOk.mono _ _
   | exact impl_PutNode.mono _ _ _ _ _ _ _ _
   | exact impl_PutNum.mono _ _
   | exact LeO.none _
   | refine LeO.ite ?_ ?_
   | refine LeO.bind ?_ (fun _ => ?_)
theorem impl_EncodePlan.mono : ∀ a0 k, LeO (impl_EncodePlan.f k a0) (impl_EncodePlan.f (k + 1) a0) := by
 intro a0 k
 have ih0 := impl_EncodePlan.mono_l k
 unfold impl_EncodePlan.f
 repeat' first
   | (with_reducible exact ih0 _ _ _ _)
   | (with_reducible exact impl_Frame.mono _ _)
   | (with_reducible exact impl_PlanOk.mono _ _)
   | (with_reducible exact impl_PutNode.mono _ _ _ _ _ _ _ _)
   | (with_reducible exact impl_PutNum.mono _ _)
   | (with_reducible exact LeO.refl _)
   | (with_reducible exact LeO.none _)
   | (with_reducible refine LeO.ite ?_ ?_)
   | (with_reducible refine LeO.bind ?_ (fun _ => ?_))
   | exact ih0 _ _ _ _
   | exact impl_Frame.mono _ _
   | exact impl_PlanOk.mono _ _
   | exact impl_PutNode.mono _ _ _ _ _ _ _ _
   | exact impl_PutNum.mono _ _
   | exact LeO.none _
   | refine LeO.ite ?_ ?_
   | refine LeO.bind ?_ (fun _ => ?_)
set_option maxHeartbeats 8000000 in
set_option maxRecDepth 100000 in
theorem impl_EncodePlan.calls (k : Nat) (A0 : Option Addr) (c0 : Nat) (l0 : List (S33)) (r1 : List Int) (r2 : Bool) (w : World) (hr0 : Kd.C k33 w A0 l0.length l0) (hc0 : l0.length ≤ c0) (h : impl_EncodePlan.f k l0 = some (r1, r2)) :
  Calls Try.prog 55 #[.slice A0 l0.length c0] w fun e w' => ∃ v0_ : Value, e = .returned (.tuple #[v0_, .bool r2]) ∧ Kd.R (Kd.int .u8) 5 w' w.heap.size (fun _ => True) v0_ r1 ∧ Below w.heap.size w w' := by
 have hu33 := Try.underlying33
 have HR0 := Aside0.mk hr0
 have HC0 := Aside0.mk hc0
 clear hr0 hc0
 have HB := Aside0.mk (Below.refl w.heap.size w)
 have H : ((impl_PlanOk.f k l0).bind fun t417 => (if t417 = true then ((impl_PutNum.f k (l0.length : Int)).bind fun t418 => (impl_EncodePlan.l0 k t418 l0 (l0.length : Int) 0)) else (some (([] : List Int), false)))) = some (r1, r2) := h
 clear h
 replace H := Option.bind_eq_some_iff.mp H
 obtain ⟨t417, A20, H⟩ := H
 replace H : (if t417 = true then ((impl_PutNum.f k (l0.length : Int)).bind fun t418 => (impl_EncodePlan.l0 k t418 l0 (l0.length : Int) 0)) else (some (([] : List Int), false))) = some (r1, r2) := H
 have A2 := Aside0.mk A20
 clear A20
 by_cases c3 : t417 = true
 ·subst c3
  have H1 : ((impl_PutNum.f k (l0.length : Int)).bind fun t418 => (impl_EncodePlan.l0 k t418 l0 (l0.length : Int) 0)) = some (r1, r2) := by rw [if_pos rfl] at H; exact H
  clear H
  have H := H1
  clear H1
  replace H := Option.bind_eq_some_iff.mp H
  obtain ⟨t418, A40, H⟩ := H
  replace H : (impl_EncodePlan.l0 k t418 l0 (l0.length : Int) 0) = some (r1, r2) := H
  have A4 := Aside0.mk A40
  clear A40
  have H' := Aside0.mk H
  clear H
  go_enter Try.func55, Try.ntmps55
  go_wp2_with (first | ((with_reducible refine gate_callee (f := 26) rfl ?_); refine goesL_ (some 8) rfl rfl Try.func26 (by kernel_rfl) rfl #[.slice A0 l0.length c0] rfl (by (try simp only [List.map_toArray, List.map_cons, List.map_nil]); first | done | rfl) ?_; (with_reducible refine (impl_PlanOk.calls k _ _ l0 true _ ?side1 ?side2 A2.out).mono ?_); (case side1 => repeat (first | exact HR0.out | (with_reducible refine Kd.C_alloc ?_ _) | (with_reducible refine Kd.C_drewN ?_ _) | (with_reducible refine Kd.C_drew ?_))); (case side2 => exact HC0.out); rintro e w5 ⟨rfl, hb⟩; refine ⟨_, rfl, ?_⟩; have n0_ := Aside0.mk (below_step (by repeat (first | (with_reducible first | exact HB.out | apply below_alloc | apply pw_below_drewN | apply below_drew1) | exact HB.out)) hb); clear HB; have HB := n0_; clear n0_; (try clear hb); (try clear hb2); (try clear hk); (try clear hi)) | ((with_reducible refine gate_callee (f := 92) rfl ?_); refine goesL_ (some 12) rfl rfl Try.func92 (by kernel_rfl) rfl #[.int .i64 (l0.length : Int)] rfl (by (try simp only [List.map_toArray, List.map_cons, List.map_nil]); first | done | rfl) ?_; (with_reducible refine (impl_PutNum.calls k (l0.length : Int) t418 _ A4.out).mono ?_); rintro e w6 ⟨v419, rfl, ho0, hb⟩; refine ⟨_, rfl, ?_⟩; have n0_ := Aside0.mk (Kd.R_lower ho0 (below_size (by repeat (first | (with_reducible first | exact HB.out | apply below_alloc | apply pw_below_drewN | apply below_drew1) | exact HB.out)))); have n1_ := Aside0.mk (below_step (by repeat (first | (with_reducible first | exact HB.out | apply below_alloc | apply pw_below_drewN | apply below_drew1) | exact HB.out)) hb); clear HB; have HO420 := n0_; have HB := n1_; clear n0_ n1_; (try clear hb); (try clear hb2); (try clear hk); (try clear hi); (try clear ho0)))
  go_loopg [4, 15] k (fun kq v4 v15 w' => ∃ (x4_1 : List Int) (x15_1 : Int), v15 = .int .i64 x15_1 ∧ Aside0 (impl_EncodePlan.l0 kq x4_1 l0 (l0.length : Int) x15_1 = some (r1, r2)) ∧ Aside0 (kq ≤ k) ∧ Aside0 (Kd.R (Kd.int .u8) 5 w' w.heap.size (fun _ => True) v4 x4_1) ∧ Aside0 (Below w.heap.size w w'))
  case atStart => exact ⟨(t418), (0), (by first | rfl | (simp; done) | (simp [*]; done)), H', ⟨Nat.le_refl _⟩, ⟨by (with_reducible repeat (first | apply Kd.R_alloc | apply Kd.R_drewN | apply Kd.R_drew)); exact HO420.out⟩, ⟨by repeat (first | (with_reducible first | exact HB.out | apply below_alloc | apply pw_below_drewN | apply below_drew1) | exact HB.out)⟩⟩
  case round =>
   clear H'
   try clear c2
   try clear p2
   try clear c3
   try clear c5
   obtain ⟨x4_1, x15_1, rfl, HA, HK1, HO_4, HB⟩ := hrel
   cases gk with
   | zero => exact absurd HA.out (by simp [impl_EncodePlan.l0])
   | succ k1 =>
    have H := HA.out
    clear HA
    simp only [impl_EncodePlan.l0] at H
    by_cases c7 : x15_1 < (l0.length : Int)
    ·rw [if_pos c7] at H
     have c7b0 : decide (x15_1 < (l0.length : Int)) = true := decide_eq_true c7
     clear c7
     by_cases c8 : 0 ≤ x15_1
     ·rw [if_pos c8] at H
      have c8b0 : decide (0 ≤ x15_1) = true := decide_eq_true c8
      clear c8
      by_cases c9 : x15_1 < (l0.length : Int)
      ·rw [if_pos c9] at H
       have c9b0 : decide (x15_1 < (l0.length : Int)) = true := decide_eq_true c9
       clear c9
       replace H := Option.bind_eq_some_iff.mp H
       obtain ⟨t423, A100, H⟩ := H
       replace H : (if x4_1.length + t423.length < 140737488355328 then (impl_EncodePlan.l0 k1 (x4_1 ++ t423) l0 (l0.length : Int) (wrap64 (x15_1 + 1))) else (none)) = some (r1, r2) := H
       have A10 := Aside0.mk A100
       clear A100
       by_cases c11 : x4_1.length + t423.length < 140737488355328
       ·rw [if_pos c11] at H
        have LMc11 := Aside0.mk c11
        clear c11
        obtain ⟨y426, hy426⟩ : ∃ y_ : List Int, y_ = (x4_1 ++ t423) := ⟨_, rfl⟩
        replace H : (impl_EncodePlan.l0 k1 y426 l0 (l0.length : Int) (wrap64 (x15_1 + 1))) = some (r1, r2) := by first | (rw [hy426]; with_reducible exact H) | (have H2_ := (Option.bind_some _ _).symm.trans H; rw [hy426]; with_reducible exact H2_) | (have H2_ := (Option.bind_some _ _).symm.trans H; with_reducible exact H2_) | with_reducible exact H | (rw [hy426]; exact H) | exact H
        have Ny426 := Aside0.mk hy426
        clear hy426
        have H' := Aside0.mk H
        clear H
        have p421 : 0 ≤ (x15_1 : Int) := of_decide_eq_true (by assumption)
        have q421 : x15_1 < (l0.length : Int) := of_decide_eq_true (by assumption)
        obtain ⟨ad421, A421_6, c421_6, e421, hx421_0, hx421_1, hx421_2, hx421_3, hx421_4, hx421_5, hx421_6, hl421_6, hi421_6⟩ := at_T33 HR0.out x15_1 p421 q421
        cases e421
        replace hx421_0 := (HB.out.cell (World.block_lt_of_cell? w _ hx421_0)).trans hx421_0
        replace hx421_1 := (HB.out.cell (World.block_lt_of_cell? w _ hx421_1)).trans hx421_1
        replace hx421_2 := (HB.out.cell (World.block_lt_of_cell? w _ hx421_2)).trans hx421_2
        replace hx421_3 := (HB.out.cell (World.block_lt_of_cell? w _ hx421_3)).trans hx421_3
        replace hx421_4 := (HB.out.cell (World.block_lt_of_cell? w _ hx421_4)).trans hx421_4
        replace hx421_5 := (HB.out.cell (World.block_lt_of_cell? w _ hx421_5)).trans hx421_5
        replace hx421_6 := (HB.out.cell (World.block_lt_of_cell? w _ hx421_6)).trans hx421_6
        have HR421_6 := Aside0.mk hi421_6
        have HC421_6 := Aside0.mk hl421_6
        clear hi421_6 hl421_6
        replace p421 := eq_true p421
        replace q421 := eq_true q421
        go_wp2_with (first | ((with_reducible refine gate_dst (N := 6) rfl ?_); refine box_event ?hg (N := 6) ?hd (cs := #[.int .i64 0, .string (⟨#[]⟩ : ByteArray), .int .i64 0, .int .i64 0, .int .i64 0, .bool false, .slice none 0 0]) (t := 33) ?hr ?_; (case hd => rfl); (case hg => rfl); (case hr => first | (go_simp; done) | (go_simp; rfl)); intro gb422 hg w12 hbox hb; have n0_ := Aside0.mk (Kd.R_below (by (with_reducible repeat (first | apply Kd.R_alloc | apply Kd.R_drewN | apply Kd.R_drew)); exact HO_4.out) hb); have n1_ := Aside0.mk (below_step (by repeat (first | (with_reducible first | exact HB.out | apply below_alloc | apply pw_below_drewN | apply below_drew1) | exact HB.out)) hb); have n2_ := Aside0.mk (hbox); have n3_ := Aside0.mk ((by rw [hg]; exact (below_size (by repeat (first | (with_reducible first | exact HB.out | apply below_alloc | apply pw_below_drewN | apply below_drew1) | exact HB.out))) : w.heap.size ≤ gb422)); have n4_ := Aside0.mk ((by rw [hg]; exact (below_size (by repeat (first | (with_reducible first | exact HB.out | apply below_alloc | apply pw_below_drewN | apply below_drew1) | exact HB.out))) : w.heap.size ≤ gb422)); clear HO_4; clear HB; have HO_4 := n0_; have HB := n1_; have BK422 := n2_; have GW422 := n3_; have GE422 := n4_; clear n0_ n1_ n2_ n3_ n4_; clear hb hbox hg; have hcz13_0 : w12.cell? ⟨gb422, 0, none⟩ = some (.int .i64 0) := (blk_cell BK422.out 0).trans rfl; have hcz13_1 : w12.cell? ⟨gb422, 1, none⟩ = some (.string (⟨#[]⟩ : ByteArray)) := (blk_cell BK422.out 1).trans rfl; have hcz13_2 : w12.cell? ⟨gb422, 2, none⟩ = some (.int .i64 0) := (blk_cell BK422.out 2).trans rfl; have hcz13_3 : w12.cell? ⟨gb422, 3, none⟩ = some (.int .i64 0) := (blk_cell BK422.out 3).trans rfl; have hcz13_4 : w12.cell? ⟨gb422, 4, none⟩ = some (.int .i64 0) := (blk_cell BK422.out 4).trans rfl; have hcz13_5 : w12.cell? ⟨gb422, 5, none⟩ = some (.bool false) := (blk_cell BK422.out 5).trans rfl; have hcz13_6 : w12.cell? ⟨gb422, 6, none⟩ = some (.slice none 0 0) := (blk_cell BK422.out 6).trans rfl; have hfz13_0 := blk_frozen BK422.out 0; have hfz13_1 := blk_frozen BK422.out 1; have hfz13_2 := blk_frozen BK422.out 2; have hfz13_3 := blk_frozen BK422.out 3; have hfz13_4 := blk_frozen BK422.out 4; have hfz13_5 := blk_frozen BK422.out 5; have hfz13_6 := blk_frozen BK422.out 6) | ((with_reducible refine gate_store (t := 33) (p := 6) rfl ?_); refine store_event (t := 33) (p := 6) (v := ?vo_w14) (w1 := (((((((w12.setCell ⟨gb422, 0, none⟩ (.int .i64 ((rd_T33 l0 x15_1).f0))).setCell ⟨gb422, 1, none⟩ (.string ((rd_T33 l0 x15_1).f1))).setCell ⟨gb422, 2, none⟩ (.int .i64 ((rd_T33 l0 x15_1).f2))).setCell ⟨gb422, 3, none⟩ (.int .i64 ((rd_T33 l0 x15_1).f3))).setCell ⟨gb422, 4, none⟩ (.int .i64 ((rd_T33 l0 x15_1).f4))).setCell ⟨gb422, 5, none⟩ (.bool ((rd_T33 l0 x15_1).f5))).setCell ⟨gb422, 6, none⟩ (.slice A421_6 ((rd_T33 l0 x15_1).f6).length c421_6))) ?hg ?ho ?hn ?hr ?_; (case ho => rfl); (case hg => rfl); (case hn => rfl); (case hr => first | (go_simp; done) | (go_simp; rfl)); intro w14 hw; have n0_ : Aside0 (Kd.R (Kd.int .u8) 5 w14 w.heap.size (fun _ => True) u4 x4_1) := ⟨(by rw [hw]; exact (by (with_reducible repeat (first | apply Kd.R_alloc | apply Kd.R_drewN | apply Kd.R_drew)); exact Kd.R_mono (Kd.R_far (p := ⟨gb422, 6, none⟩) (Kd.R_far (p := ⟨gb422, 5, none⟩) (Kd.R_far (p := ⟨gb422, 4, none⟩) (Kd.R_far (p := ⟨gb422, 3, none⟩) (Kd.R_far (p := ⟨gb422, 2, none⟩) (Kd.R_far (p := ⟨gb422, 1, none⟩) (Kd.R_far (p := ⟨gb422, 0, none⟩) (Kd.R_types HO_4.out BK422.out (by decide)) (fun _ hk => hk.2) (.int .i64 ((rd_T33 l0 x15_1).f0))) (fun _ hk => hk.2) (.string ((rd_T33 l0 x15_1).f1))) (fun _ hk => hk.2) (.int .i64 ((rd_T33 l0 x15_1).f2))) (fun _ hk => hk.2) (.int .i64 ((rd_T33 l0 x15_1).f3))) (fun _ hk => hk.2) (.int .i64 ((rd_T33 l0 x15_1).f4))) (fun _ hk => hk.2) (.bool ((rd_T33 l0 x15_1).f5))) (fun _ hk => hk.2) (.slice A421_6 ((rd_T33 l0 x15_1).f6).length c421_6)) (fun _ hk => trivial)))⟩; have n1_ : Aside0 (w14.heap[gb422]? = some (.cells #[.int .i64 ((rd_T33 l0 x15_1).f0), .string ((rd_T33 l0 x15_1).f1), .int .i64 ((rd_T33 l0 x15_1).f2), .int .i64 ((rd_T33 l0 x15_1).f3), .int .i64 ((rd_T33 l0 x15_1).f4), .bool ((rd_T33 l0 x15_1).f5), .slice A421_6 ((rd_T33 l0 x15_1).f6).length c421_6] 33 (0, 0))) := ⟨(by rw [hw]; exact (by (with_reducible repeat (first | refine blk_drewN ?_ _ | refine blk_drew ?_ | refine blk_alloc ?_ _)); refine blk_put (cs := #[.int .i64 ((rd_T33 l0 x15_1).f0), .string ((rd_T33 l0 x15_1).f1), .int .i64 ((rd_T33 l0 x15_1).f2), .int .i64 ((rd_T33 l0 x15_1).f3), .int .i64 ((rd_T33 l0 x15_1).f4), .bool ((rd_T33 l0 x15_1).f5), .slice none 0 0]) ?_ 6 _ rfl; (with_reducible repeat (first | refine blk_drewN ?_ _ | refine blk_drew ?_ | refine blk_alloc ?_ _)); refine blk_put (cs := #[.int .i64 ((rd_T33 l0 x15_1).f0), .string ((rd_T33 l0 x15_1).f1), .int .i64 ((rd_T33 l0 x15_1).f2), .int .i64 ((rd_T33 l0 x15_1).f3), .int .i64 ((rd_T33 l0 x15_1).f4), .bool false, .slice none 0 0]) ?_ 5 _ rfl; (with_reducible repeat (first | refine blk_drewN ?_ _ | refine blk_drew ?_ | refine blk_alloc ?_ _)); refine blk_put (cs := #[.int .i64 ((rd_T33 l0 x15_1).f0), .string ((rd_T33 l0 x15_1).f1), .int .i64 ((rd_T33 l0 x15_1).f2), .int .i64 ((rd_T33 l0 x15_1).f3), .int .i64 0, .bool false, .slice none 0 0]) ?_ 4 _ rfl; (with_reducible repeat (first | refine blk_drewN ?_ _ | refine blk_drew ?_ | refine blk_alloc ?_ _)); refine blk_put (cs := #[.int .i64 ((rd_T33 l0 x15_1).f0), .string ((rd_T33 l0 x15_1).f1), .int .i64 ((rd_T33 l0 x15_1).f2), .int .i64 0, .int .i64 0, .bool false, .slice none 0 0]) ?_ 3 _ rfl; (with_reducible repeat (first | refine blk_drewN ?_ _ | refine blk_drew ?_ | refine blk_alloc ?_ _)); refine blk_put (cs := #[.int .i64 ((rd_T33 l0 x15_1).f0), .string ((rd_T33 l0 x15_1).f1), .int .i64 0, .int .i64 0, .int .i64 0, .bool false, .slice none 0 0]) ?_ 2 _ rfl; (with_reducible repeat (first | refine blk_drewN ?_ _ | refine blk_drew ?_ | refine blk_alloc ?_ _)); refine blk_put (cs := #[.int .i64 ((rd_T33 l0 x15_1).f0), .string (⟨#[]⟩ : ByteArray), .int .i64 0, .int .i64 0, .int .i64 0, .bool false, .slice none 0 0]) ?_ 1 _ rfl; (with_reducible repeat (first | refine blk_drewN ?_ _ | refine blk_drew ?_ | refine blk_alloc ?_ _)); refine blk_put (cs := #[.int .i64 0, .string (⟨#[]⟩ : ByteArray), .int .i64 0, .int .i64 0, .int .i64 0, .bool false, .slice none 0 0]) ?_ 0 _ rfl; (with_reducible repeat (first | refine blk_drewN ?_ _ | refine blk_drew ?_ | refine blk_alloc ?_ _)); exact BK422.out))⟩; have n2_ : Aside0 (Below w.heap.size w w14) := ⟨(by rw [hw]; exact (by repeat (first | (with_reducible first | exact HB.out | apply below_alloc | apply pw_below_drewN | apply below_drew1 | refine below_set ?_ GE422.out) | exact HB.out)))⟩; clear hw; clear HO_4; clear BK422; clear HB; have HO_4 := n0_; have BK422 := n1_; have HB := n2_; clear n0_ n1_ n2_; have hcz15_0 : w14.cell? ⟨gb422, 0, none⟩ = some (.int .i64 ((rd_T33 l0 x15_1).f0)) := (blk_cell BK422.out 0).trans rfl; have hcz15_1 : w14.cell? ⟨gb422, 1, none⟩ = some (.string ((rd_T33 l0 x15_1).f1)) := (blk_cell BK422.out 1).trans rfl; have hcz15_2 : w14.cell? ⟨gb422, 2, none⟩ = some (.int .i64 ((rd_T33 l0 x15_1).f2)) := (blk_cell BK422.out 2).trans rfl; have hcz15_3 : w14.cell? ⟨gb422, 3, none⟩ = some (.int .i64 ((rd_T33 l0 x15_1).f3)) := (blk_cell BK422.out 3).trans rfl; have hcz15_4 : w14.cell? ⟨gb422, 4, none⟩ = some (.int .i64 ((rd_T33 l0 x15_1).f4)) := (blk_cell BK422.out 4).trans rfl; have hcz15_5 : w14.cell? ⟨gb422, 5, none⟩ = some (.bool ((rd_T33 l0 x15_1).f5)) := (blk_cell BK422.out 5).trans rfl; have hcz15_6 : w14.cell? ⟨gb422, 6, none⟩ = some (.slice A421_6 ((rd_T33 l0 x15_1).f6).length c421_6) := (blk_cell BK422.out 6).trans rfl; have hfz15_0 := blk_frozen BK422.out 0; have hfz15_1 := blk_frozen BK422.out 1; have hfz15_2 := blk_frozen BK422.out 2; have hfz15_3 := blk_frozen BK422.out 3; have hfz15_4 := blk_frozen BK422.out 4; have hfz15_5 := blk_frozen BK422.out 5; have hfz15_6 := blk_frozen BK422.out 6) | ((with_reducible refine gate_callee (f := 45) rfl ?_); refine goesL_ (some 21) rfl rfl Try.func45 (by kernel_rfl) rfl #[.agg #[.int .i64 ((rd_T33 l0 x15_1).f0), .string ((rd_T33 l0 x15_1).f1), .int .i64 ((rd_T33 l0 x15_1).f2), .int .i64 ((rd_T33 l0 x15_1).f3), .int .i64 ((rd_T33 l0 x15_1).f4), .bool ((rd_T33 l0 x15_1).f5), .slice A421_6 ((rd_T33 l0 x15_1).f6).length c421_6]] rfl (by (try simp only [List.map_toArray, List.map_cons, List.map_nil]); first | done | rfl) ?_; (with_reducible refine (impl_PutNode.calls k1 ((rd_T33 l0 x15_1).f0) ((rd_T33 l0 x15_1).f1) ((rd_T33 l0 x15_1).f2) ((rd_T33 l0 x15_1).f3) ((rd_T33 l0 x15_1).f4) ((rd_T33 l0 x15_1).f5) _ _ ((rd_T33 l0 x15_1).f6) t423 _ ?side1 ?side2 A10.out).mono ?_); (case side1 => repeat (first | exact (Kd.C_below HR421_6.out HB.out) | (with_reducible refine Kd.C_alloc ?_ _) | (with_reducible refine Kd.C_drewN ?_ _) | (with_reducible refine Kd.C_drew ?_))); (case side2 => exact HC421_6.out); rintro e w16 ⟨v424, rfl, ho0, hb⟩; refine ⟨_, rfl, ?_⟩; have n0_ := Aside0.mk (Kd.R_elder' (by (with_reducible repeat (first | apply Kd.R_alloc | apply Kd.R_drewN | apply Kd.R_drew)); exact HO_4.out) (Kd.R_base ho0) hb); have n1_ := Aside0.mk (Kd.R_lower (Kd.R_new' ho0 (Kd.R_lt (by (with_reducible repeat (first | apply Kd.R_alloc | apply Kd.R_drewN | apply Kd.R_drew)); exact HO_4.out))) (below_size (by repeat (first | (with_reducible first | exact HB.out | apply below_alloc | apply pw_below_drewN | apply below_drew1 | refine below_set ?_ GE422.out) | exact HB.out)))); have n2_ := Aside0.mk (blk_below (g := gb422) (o := .cells #[.int .i64 ((rd_T33 l0 x15_1).f0), .string ((rd_T33 l0 x15_1).f1), .int .i64 ((rd_T33 l0 x15_1).f2), .int .i64 ((rd_T33 l0 x15_1).f3), .int .i64 ((rd_T33 l0 x15_1).f4), .bool ((rd_T33 l0 x15_1).f5), .slice A421_6 ((rd_T33 l0 x15_1).f6).length c421_6] 33 (0, 0)) (by (with_reducible repeat (first | refine blk_drewN ?_ _ | refine blk_drew ?_ | refine blk_alloc ?_ _)); exact BK422.out) hb); have n3_ := Aside0.mk (below_step (by repeat (first | (with_reducible first | exact HB.out | apply below_alloc | apply pw_below_drewN | apply below_drew1 | refine below_set ?_ GE422.out) | exact HB.out)) hb); clear HO_4; clear BK422; clear HB; have HO_4 := n0_; have HO425 := n1_; have BK422 := n2_; have HB := n3_; clear n0_ n1_ n2_ n3_; (try clear hb); (try clear hb2); (try clear hk); (try clear hi); (try clear ho0); obtain ⟨Ao18, co18, eo18⟩ := Kd.R_slice HO425.out; subst eo18) | ((with_reducible refine gate_builtin (b := .append) (xs := #[.tmp 19, .tmp 21]) rfl ?_); at_builtin; refine Kd.R_append_rows (Kd.int .u8) (w0 := w) w.heap.size rfl (.tmp 19) (.tmp 21) 49 5 (.int .u8 0) 1 rfl Try.underlying49 info5 rfl (by decide) (by omega) u4 x4_1 t423 _ _ _ (fun k_ => some k_ ≠ (.slice Ao18 t423.length co18 : Value).ownBlock) (fun _ => False) rfl rfl ?aO ?aR (fun _ _ h => h) (fun _ h => h.elim) ?aF ?aB ?aS ?aL ?_; (case aR => repeat (first | exact (Kd.R_reads' HO425.out).2.2 | (with_reducible refine Kd.C_alloc ?_ _) | (with_reducible refine Kd.C_drewN ?_ _) | (with_reducible refine Kd.C_drew ?_))); (case aB => exact (by repeat (first | (with_reducible first | exact HB.out | apply below_alloc | apply pw_below_drewN | apply below_drew1 | refine below_set ?_ GE422.out) | exact HB.out))); (case aF => exact (fun k_ hk => Kd.fresh' (Kd.R_lt (by (with_reducible repeat (first | apply Kd.R_alloc | apply Kd.R_drewN | apply Kd.R_drew)); exact HO425.out)) k_ hk)); (case aO => exact (by (with_reducible repeat (first | apply Kd.R_alloc | apply Kd.R_drewN | apply Kd.R_drew)); exact Kd.R_mono HO_4.out (fun _ hk => hk.2))); (case aS => exact (below_size (by repeat (first | (with_reducible first | exact HB.out | apply below_alloc | apply pw_below_drewN | apply below_drew1 | refine below_set ?_ GE422.out) | exact HB.out)))); (case aL => have := LMc11.out; omega); intro v427 w17 ho hb hg hat; rw [← Ny426.out] at ho; have n0_ := Aside0.mk (blk_grown (g := gb422) (o := .cells #[.int .i64 ((rd_T33 l0 x15_1).f0), .string ((rd_T33 l0 x15_1).f1), .int .i64 ((rd_T33 l0 x15_1).f2), .int .i64 ((rd_T33 l0 x15_1).f3), .int .i64 ((rd_T33 l0 x15_1).f4), .bool ((rd_T33 l0 x15_1).f5), .slice A421_6 ((rd_T33 l0 x15_1).f6).length c421_6] 33 (0, 0)) (by (with_reducible repeat (first | refine blk_drewN ?_ _ | refine blk_drew ?_ | refine blk_alloc ?_ _)); exact BK422.out) hg (Kd.R_ne HO_4.out BK422.out (by decide))); have n1_ := Aside0.mk (Kd.R_after (ok := (fun _ => True)) (by (with_reducible repeat (first | apply Kd.R_alloc | apply Kd.R_drewN | apply Kd.R_drew)); exact HO425.out) hg hat); have n2_ := Aside0.mk (hb); have n3_ := Aside0.mk (ho); clear BK422; clear HO425; clear HB; clear HO_4; have BK422 := n0_; have HO425 := n1_; have HB := n2_; have HO428 := n3_; clear n0_ n1_ n2_ n3_; clear ho hb hg hat))
        go_roundg k1
        case measure => have := HK1.out; omega
        case rel => exact ⟨(y426), (wrap64 (x15_1 + 1)), (by first | rfl | (simp; done) | (simp [*]; done)), H', ⟨by have := HK1.out; omega⟩, ⟨by (with_reducible repeat (first | apply Kd.R_alloc | apply Kd.R_drewN | apply Kd.R_drew)); exact Kd.R_mono HO428.out (fun _ hk => trivial)⟩, ⟨by repeat (first | (with_reducible first | exact HB.out | apply below_alloc | apply pw_below_drewN | apply below_drew1 | refine below_set ?_ GE422.out) | exact HB.out)⟩⟩
       ·rw [if_neg c11] at H
        exact absurd H (by simp)
      ·rw [if_neg c9] at H
       exact absurd H (by simp)
     ·rw [if_neg c8] at H
      exact absurd H (by simp)
    ·rw [if_neg c7] at H
     have c7b0 : decide (x15_1 < (l0.length : Int)) = false := decide_eq_false c7
     clear c7
     replace H := Option.bind_eq_some_iff.mp H
     obtain ⟨⟨t429, t430⟩, A190, H⟩ := H
     replace H : (some (t429, t430)) = some (r1, r2) := H
     have A19 := Aside0.mk A190
     clear A190
     simp only [Option.some.injEq, Prod.mk.injEq] at H
     obtain ⟨rfl, rfl⟩ := H
     obtain ⟨Ao20, co20, eo20⟩ := Kd.R_slice HO_4.out
     subst eo20
     go_wp2_with (first | ((with_reducible refine gate_callee (f := 106) rfl ?_); refine goesL_ (some 25) rfl rfl Try.func106 (by kernel_rfl) rfl #[.slice Ao20 x4_1.length co20] rfl (by (try simp only [List.map_toArray, List.map_cons, List.map_nil]); first | done | rfl) ?_; (with_reducible refine (impl_Frame.calls k1 _ _ x4_1 t429 t430 _ ?side1 ?side2 A19.out).mono ?_); (case side1 => repeat (first | exact (Kd.R_reads' HO_4.out).2.2 | (with_reducible refine Kd.C_alloc ?_ _) | (with_reducible refine Kd.C_drewN ?_ _) | (with_reducible refine Kd.C_drew ?_))); (case side2 => exact (Kd.R_reads' HO_4.out).2.1); rintro e w21 ⟨v431, rfl, ho0, hb⟩; refine ⟨_, rfl, ?_⟩; have n0_ := Aside0.mk (Kd.R_elder' (by (with_reducible repeat (first | apply Kd.R_alloc | apply Kd.R_drewN | apply Kd.R_drew)); exact HO_4.out) (Kd.R_base ho0) hb); have n1_ := Aside0.mk (Kd.R_lower (Kd.R_new' ho0 (Kd.R_lt (by (with_reducible repeat (first | apply Kd.R_alloc | apply Kd.R_drewN | apply Kd.R_drew)); exact HO_4.out))) (below_size (by repeat (first | (with_reducible first | exact HB.out | apply below_alloc | apply pw_below_drewN | apply below_drew1) | exact HB.out)))); have n2_ := Aside0.mk (below_step (by repeat (first | (with_reducible first | exact HB.out | apply below_alloc | apply pw_below_drewN | apply below_drew1) | exact HB.out)) hb); clear HO_4; clear HB; have HO_4 := n0_; have HO432 := n1_; have HB := n2_; clear n0_ n1_ n2_; (try clear hb); (try clear hb2); (try clear hk); (try clear hi); (try clear ho0)))
     go_ret2
     exact ⟨_, by first | rfl | (simp [errW_none, errW_some] <;> rfl) | (simp [*, errW_none, errW_some] <;> rfl), by (with_reducible repeat (first | apply Kd.R_alloc | apply Kd.R_drewN | apply Kd.R_drew)); exact Kd.R_mono HO432.out (fun _ hk => trivial), by repeat (first | (with_reducible first | exact HB.out | apply below_alloc | apply pw_below_drewN | apply below_drew1) | exact HB.out)⟩
 ·replace c3 := Bool.eq_false_iff.mpr c3
  subst c3
  have H1 : (some (([] : List Int), false)) = some (r1, r2) := by rw [if_neg (show ¬ (false = true) by decide)] at H; exact H
  clear H
  have H := H1
  clear H1
  simp only [Option.some.injEq, Prod.mk.injEq] at H
  obtain ⟨rfl, rfl⟩ := H
  go_enter Try.func55, Try.ntmps55
  go_wp2_with (first | ((with_reducible refine gate_callee (f := 26) rfl ?_); refine goesL_ (some 8) rfl rfl Try.func26 (by kernel_rfl) rfl #[.slice A0 l0.length c0] rfl (by (try simp only [List.map_toArray, List.map_cons, List.map_nil]); first | done | rfl) ?_; (with_reducible refine (impl_PlanOk.calls k _ _ l0 false _ ?side1 ?side2 A2.out).mono ?_); (case side1 => repeat (first | exact HR0.out | (with_reducible refine Kd.C_alloc ?_ _) | (with_reducible refine Kd.C_drewN ?_ _) | (with_reducible refine Kd.C_drew ?_))); (case side2 => exact HC0.out); rintro e w22 ⟨rfl, hb⟩; refine ⟨_, rfl, ?_⟩; have n0_ := Aside0.mk (below_step (by repeat (first | (with_reducible first | exact HB.out | apply below_alloc | apply pw_below_drewN | apply below_drew1) | exact HB.out)) hb); clear HB; have HB := n0_; clear n0_; (try clear hb); (try clear hb2); (try clear hk); (try clear hi)))
  go_ret2
  exact ⟨.slice none 0 0, by first | rfl | (simp [errW_none, errW_some] <;> rfl) | (simp [*, errW_none, errW_some] <;> rfl), by first | exact Kd.R_nil _ _ _ _ _ | exact Kd.N_nil _ _ _ _ _ | exact Kd.V_nil _ _ _ _ _ | exact Kd.Q_nil _ _ _ _ _ | exact Kd.S_nil _ _ _ _ _, by repeat (first | (with_reducible first | exact HB.out | apply below_alloc | apply pw_below_drewN | apply below_drew1) | exact HB.out)⟩

end Go.Proofs.Ytmjfnkebpdmhbaa.Q
