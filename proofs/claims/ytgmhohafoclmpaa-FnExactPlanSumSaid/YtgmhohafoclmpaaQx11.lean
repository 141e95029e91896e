/- The machine side of a law, written by a program of this session over the translation: for each Go function a Lean function with the same answers, and the proof that the Go code comes to them. -/
import Derived.Test.YtgmhohafoclmpaaQx0
import Derived.Test.YtgmhohafoclmpaaQx1
import Derived.Test.YtgmhohafoclmpaaQx2
import Derived.Test.YtgmhohafoclmpaaQx4
import Derived.Test.YtgmhohafoclmpaaQx7
import Derived.Test.YtgmhohafoclmpaaQx9
import Derived.Test.YtgmhohafoclmpaaQx10
namespace Go.Proofs.Ytgmhohafoclmpaa.Q
open Go.RowKit Go.Proofs.Ytgmhohafoclmpaa.Own Go.Proofs.YtgmhohafoclmpaaW.PrintWords Go.Proofs.YtgmhohafoclmpaaW.PrintLast Go.Proofs.YtgmhohafoclmpaaW.PrintMore
attribute [local go_sem] max2_int min2_int max_two min_two max_three min_three max_four min_four   -- for this text's walks alone
set_option linter.unusedVariables false
set_option linter.unusedSimpArgs false

/-! ### impl_EncodePlan: function 51 -/
def impl_EncodePlan.l0 : Nat → List Int → List (S62) → Int → Int → Option (List Int × Bool)
 | 0, _, _, _, _ => none
 | k + 1, x4, x13, x14, x15 => if x15 < x14 then (if 0 ≤ x15 then (if x15 < (x13.length : Int) then ((impl_PutNode.f k ((rd_T62 x13 x15).f0) ((rd_T62 x13 x15).f1) ((rd_T62 x13 x15).f2) ((rd_T62 x13 x15).f3) ((rd_T62 x13 x15).f4) ((rd_T62 x13 x15).f5) ((rd_T62 x13 x15).f6)).bind fun t420 => (if x4.length + t420.length < 140737488355328 then (impl_EncodePlan.l0 k (x4 ++ t420) x13 x14 (wrap64 (x15 + 1))) else (none))) else (none)) else (none)) else ((impl_Frame.f k x4).bind fun bt426 => (some (bt426.1, bt426.2)))
def impl_EncodePlan.f (k : Nat) (l0 : List (S62)) : Option (List Int × Bool) := (impl_PlanOk.f k l0).bind fun t414 => (if t414 = true then ((impl_PutNum.f k (l0.length : Int)).bind fun t415 => (impl_EncodePlan.l0 k t415 l0 (l0.length : Int) 0)) else (some (([] : List Int), false)))
theorem impl_EncodePlan.mono_l : ∀ k, (∀ y0 y1 y2 y3, LeO (impl_EncodePlan.l0 k y0 y1 y2 y3) (impl_EncodePlan.l0 (k + 1) y0 y1 y2 y3))
 | 0 => fun _ _ _ _ r h => by simp [impl_EncodePlan.l0] at h
 | k + 1 => by
  have ih0 := impl_EncodePlan.mono_l k
  ·intro y0 y1 y2 y3
   unfold impl_EncodePlan.l0
   repeat' first
   | (with_reducible exact ih0 _ _ _ _)
   | (with_reducible exact impl_Frame.mono _ _)
   | (with_reducible exact impl_PlanOk.mono _ _)
   | (with_reducible exact impl_PutNode.mono _ _ _ _ _ _ _ _)
   | (with_reducible exact impl_PutNum.mono _ _)
   | (with_reducible exact LeO.refl _)
   | (with_reducible exact LeO.none _)
   | (with_reducible refine LeO.ite ?_ ?_)
   | (with_reducible refine LeO.bind ?_ (fun _ => ?_))
   | exact ih0 _ _ _ _
   | exact impl_Frame.mono _ _
   | exact impl_PlanOk.mono _ _
   | exact impl_PutNode.mono _ _ _ _ _ _ _ _
   | exact impl_PutNum.mono _ _
   | exact LeO.none _
   | refine LeO.ite ?_ ?_
   | refine LeO.bind ?_ (fun _ => ?_)
theorem impl_EncodePlan.mono : ∀ a0 k, LeO (impl_EncodePlan.f k a0) (impl_EncodePlan.f (k + 1) a0) := by
 intro a0 k
 have ih0 := impl_EncodePlan.mono_l k
 unfold impl_EncodePlan.f
 repeat' first
   | (with_reducible exact ih0 _ _ _ _)
   | (with_reducible exact impl_Frame.mono _ _)
   | (with_reducible exact impl_PlanOk.mono _ _)
   | (with_reducible exact impl_PutNode.mono _ _ _ _ _ _ _ _)
   | (with_reducible exact impl_PutNum.mono _ _)
   | (with_reducible exact LeO.refl _)
   | (with_reducible exact LeO.none _)
   | (with_reducible refine LeO.ite ?_ ?_)
   | (with_reducible refine LeO.bind ?_ (fun _ => ?_))
   | exact ih0 _ _ _ _
   | exact impl_Frame.mono _ _
   | exact impl_PlanOk.mono _ _
   | exact impl_PutNode.mono _ _ _ _ _ _ _ _
   | exact impl_PutNum.mono _ _
   | exact LeO.none _
   | refine LeO.ite ?_ ?_
   | refine LeO.bind ?_ (fun _ => ?_)
set_option maxHeartbeats 8000000 in
set_option maxRecDepth 100000 in
theorem impl_EncodePlan.calls (k : Nat) (A0 : Option Addr) (c0 : Nat) (l0 : List (S62)) (r1 : List Int) (r2 : Bool) (w : World) (hr0 : Kd.C k62 w A0 l0.length l0) (hc0 : l0.length ≤ c0) (h : impl_EncodePlan.f k l0 = some (r1, r2)) :
  Calls Try.prog 51 #[.slice A0 l0.length c0] w fun e w' => ∃ v0_ : Value, e = .returned (.tuple #[v0_, .bool r2]) ∧ Kd.R (Kd.int .u8) 5 w' w.heap.size (fun _ => True) v0_ r1 ∧ Below w.heap.size w w' := by
 have hu62 := Try.underlying62
 have HR0 := Aside0.mk hr0
 have HC0 := Aside0.mk hc0
 clear hr0 hc0
 have HB := Aside0.mk (Below.refl w.heap.size w)
 have H : ((impl_PlanOk.f k l0).bind fun t414 => (if t414 = true then ((impl_PutNum.f k (l0.length : Int)).bind fun t415 => (impl_EncodePlan.l0 k t415 l0 (l0.length : Int) 0)) else (some (([] : List Int), false)))) = some (r1, r2) := h
 clear h
 replace H := Option.bind_eq_some_iff.mp H
 obtain ⟨t414, A20, H⟩ := H
 replace H : (if t414 = true then ((impl_PutNum.f k (l0.length : Int)).bind fun t415 => (impl_EncodePlan.l0 k t415 l0 (l0.length : Int) 0)) else (some (([] : List Int), false))) = some (r1, r2) := H
 have A2 := Aside0.mk A20
 clear A20
 by_cases c3 : t414 = true
 ·subst c3
  have H1 : ((impl_PutNum.f k (l0.length : Int)).bind fun t415 => (impl_EncodePlan.l0 k t415 l0 (l0.length : Int) 0)) = some (r1, r2) := by rw [if_pos rfl] at H; exact H
  clear H
  have H := H1
  clear H1
  replace H := Option.bind_eq_some_iff.mp H
  obtain ⟨t415, A40, H⟩ := H
  replace H : (impl_EncodePlan.l0 k t415 l0 (l0.length : Int) 0) = some (r1, r2) := H
  have A4 := Aside0.mk A40
  clear A40
  have H' := Aside0.mk H
  clear H
  go_enter Try.func51, Try.ntmps51
  go_wp2_with (first | ((with_reducible refine gate_callee (f := 43) rfl ?_); refine goesL_ (some 8) rfl rfl Try.func43 (by kernel_rfl) rfl #[.slice A0 l0.length c0] rfl aL ?_; (with_reducible refine (impl_PlanOk.calls k _ _ l0 true _ ?side1 ?side2 A2.out).mono ?_); (case side1 => exact cA); (case side2 => exact HC0.out); rintro e w5 ⟨rfl, hb⟩; refine ⟨_, rfl, ?_⟩; have n0_ := Aside0.mk (below_step bA hb); clear HB; have HB := n0_; clear n0_; (try clear hb); (try clear hb2); (try clear hk); (try clear hi)) | ((with_reducible refine gate_callee (f := 89) rfl ?_); refine goesL_ (some 12) rfl rfl Try.func89 (by kernel_rfl) rfl #[.int .i64 (l0.length : Int)] rfl aL ?_; (with_reducible refine (impl_PutNum.calls k (l0.length : Int) t415 _ A4.out).mono ?_); rintro e w6 ⟨v416, rfl, ho0, hb⟩; refine ⟨_, rfl, ?_⟩; have n0_ := Aside0.mk (Kd.R_lower ho0 (below_size bA)); have n1_ := Aside0.mk (below_step bA hb); clear HB; have HO417 := n0_; have HB := n1_; clear n0_ n1_; (try clear hb); (try clear hb2); (try clear hk); (try clear hi); (try clear ho0)))
  go_loopg [4, 15] k (fun kq v4 v15 w' => ∃ (x4_1 : List Int) (x15_1 : Int), v15 = .int .i64 x15_1 ∧ Aside0 (impl_EncodePlan.l0 kq x4_1 l0 (l0.length : Int) x15_1 = some (r1, r2)) ∧ Aside0 (kq ≤ k) ∧ Aside0 (Kd.R (Kd.int .u8) 5 w' w.heap.size (fun _ => True) v4 x4_1) ∧ Aside0 (Below w.heap.size w w'))
  case atStart => exact ⟨(t415), (0), rF, H', ⟨Nat.le_refl _⟩, ⟨by (with_reducible repeat (first | apply Kd.R_alloc | apply Kd.R_drewN | apply Kd.R_drew)); exact HO417.out⟩, ⟨bA⟩⟩
  case round =>
   clear H'
   try clear p2
   try clear c3
   try clear c4
   try clear c5
   obtain ⟨x4_1, x15_1, rfl, HA, HK1, HO_4, HB⟩ := hrel
   cases gk with
   | zero => exact absurd HA.out (by simp [impl_EncodePlan.l0])
   | succ k1 =>
    have H := HA.out
    clear HA
    simp only [impl_EncodePlan.l0] at H
    by_cases c7 : x15_1 < (l0.length : Int)
    ·rw [if_pos c7] at H
     have c7b0 : decide (x15_1 < (l0.length : Int)) = true := decide_eq_true c7
     clear c7
     by_cases c8 : 0 ≤ x15_1
     ·rw [if_pos c8] at H
      have c8b0 : decide (0 ≤ x15_1) = true := decide_eq_true c8
      clear c8
      by_cases c9 : x15_1 < (l0.length : Int)
      ·rw [if_pos c9] at H
       have c9b0 : decide (x15_1 < (l0.length : Int)) = true := decide_eq_true c9
       clear c9
       replace H := Option.bind_eq_some_iff.mp H
       obtain ⟨t420, A100, H⟩ := H
       replace H : (if x4_1.length + t420.length < 140737488355328 then (impl_EncodePlan.l0 k1 (x4_1 ++ t420) l0 (l0.length : Int) (wrap64 (x15_1 + 1))) else (none)) = some (r1, r2) := H
       have A10 := Aside0.mk A100
       clear A100
       by_cases c11 : x4_1.length + t420.length < 140737488355328
       ·rw [if_pos c11] at H
        have LMc11 := Aside0.mk c11
        clear c11
        obtain ⟨y423, hy423⟩ : ∃ y_ : List Int, y_ = (x4_1 ++ t420) := ⟨_, rfl⟩
        replace H : (impl_EncodePlan.l0 k1 y423 l0 (l0.length : Int) (wrap64 (x15_1 + 1))) = some (r1, r2) := by first | (rw [hy423]; with_reducible exact H) | (have H2_ := (Option.bind_some _ _).symm.trans H; rw [hy423]; with_reducible exact H2_) | (have H2_ := (Option.bind_some _ _).symm.trans H; with_reducible exact H2_) | with_reducible exact H | (rw [hy423]; exact H) | exact H
        have Ny423 := Aside0.mk hy423
        clear hy423
        have H' := Aside0.mk H
        clear H
        have p418 : 0 ≤ (x15_1 : Int) := of_decide_eq_true (by assumption)
        have q418 : x15_1 < (l0.length : Int) := of_decide_eq_true (by assumption)
        obtain ⟨ad418, A418_6, c418_6, e418, hx418_0, hx418_1, hx418_2, hx418_3, hx418_4, hx418_5, hx418_6, hl418_6, hi418_6⟩ := at_T62 HR0.out x15_1 p418 q418
        cases e418
        replace hx418_0 := (HB.out.cell (World.block_lt_of_cell? w _ hx418_0)).trans hx418_0
        replace hx418_1 := (HB.out.cell (World.block_lt_of_cell? w _ hx418_1)).trans hx418_1
        replace hx418_2 := (HB.out.cell (World.block_lt_of_cell? w _ hx418_2)).trans hx418_2
        replace hx418_3 := (HB.out.cell (World.block_lt_of_cell? w _ hx418_3)).trans hx418_3
        replace hx418_4 := (HB.out.cell (World.block_lt_of_cell? w _ hx418_4)).trans hx418_4
        replace hx418_5 := (HB.out.cell (World.block_lt_of_cell? w _ hx418_5)).trans hx418_5
        replace hx418_6 := (HB.out.cell (World.block_lt_of_cell? w _ hx418_6)).trans hx418_6
        have HR418_6 := Aside0.mk hi418_6
        have HC418_6 := Aside0.mk hl418_6
        clear hi418_6 hl418_6
        replace p418 := eq_true p418
        replace q418 := eq_true q418
        go_wp2_with (first | ((with_reducible refine gate_dst (N := 6) rfl ?_); refine box_event ?hg (N := 6) ?hd (cs := #[.int .i64 0, .string (⟨#[]⟩ : ByteArray), .int .i64 0, .int .i64 0, .int .i64 0, .bool false, .slice none 0 0]) (t := 62) ?hr ?_; (case hd => rfl); (case hg => rfl); (case hr => first | (go_simp; done) | (go_simp; rfl)); intro gb419 hg w12 hbox hb; have n0_ := Aside0.mk (Kd.R_below (by (with_reducible repeat (first | apply Kd.R_alloc | apply Kd.R_drewN | apply Kd.R_drew)); exact HO_4.out) hb); have n1_ := Aside0.mk (below_step bA hb); have n2_ := Aside0.mk (hbox); have n3_ := Aside0.mk ((by rw [hg]; exact (below_size bA) : w.heap.size ≤ gb419)); have n4_ := Aside0.mk ((by rw [hg]; exact (below_size bA) : w.heap.size ≤ gb419)); clear HO_4; clear HB; have HO_4 := n0_; have HB := n1_; have BK419 := n2_; have GW419 := n3_; have GE419 := n4_; clear n0_ n1_ n2_ n3_ n4_; clear hb hbox hg; obtain ⟨⟨hcz13_0, hcz13_1, hcz13_2, hcz13_3, hcz13_4, hcz13_5, hcz13_6⟩, hfz13_0, hfz13_1, hfz13_2, hfz13_3, hfz13_4, hfz13_5, hfz13_6⟩ := Own.c7 BK419.out) | ((with_reducible refine gate_store (t := 62) (p := 6) rfl ?_); refine store_event (t := 62) (p := 6) (v := ?vo_w14) (w1 := (((((((w12.setCell ⟨gb419, 0, none⟩ (.int .i64 ((rd_T62 l0 x15_1).f0))).setCell ⟨gb419, 1, none⟩ (.string ((rd_T62 l0 x15_1).f1))).setCell ⟨gb419, 2, none⟩ (.int .i64 ((rd_T62 l0 x15_1).f2))).setCell ⟨gb419, 3, none⟩ (.int .i64 ((rd_T62 l0 x15_1).f3))).setCell ⟨gb419, 4, none⟩ (.int .i64 ((rd_T62 l0 x15_1).f4))).setCell ⟨gb419, 5, none⟩ (.bool ((rd_T62 l0 x15_1).f5))).setCell ⟨gb419, 6, none⟩ (.slice A418_6 ((rd_T62 l0 x15_1).f6).length c418_6))) ?hg ?ho ?hn ?hr ?_; (case ho => rfl); (case hg => rfl); (case hn => rfl); (case hr => first | (go_simp; done) | (go_simp; rfl)); intro w14 hw; have n0_ : Aside0 (Kd.R (Kd.int .u8) 5 w14 w.heap.size (fun _ => True) u4 x4_1) := ⟨(by rw [hw]; exact (by (with_reducible repeat (first | apply Kd.R_alloc | apply Kd.R_drewN | apply Kd.R_drew)); exact Kd.R_mono (Kd.R_far (p := ⟨gb419, 6, none⟩) (Kd.R_far (p := ⟨gb419, 5, none⟩) (Kd.R_far (p := ⟨gb419, 4, none⟩) (Kd.R_far (p := ⟨gb419, 3, none⟩) (Kd.R_far (p := ⟨gb419, 2, none⟩) (Kd.R_far (p := ⟨gb419, 1, none⟩) (Kd.R_far (p := ⟨gb419, 0, none⟩) (Kd.R_types HO_4.out BK419.out (by decide)) (fun _ hk => hk.2) (.int .i64 ((rd_T62 l0 x15_1).f0))) (fun _ hk => hk.2) (.string ((rd_T62 l0 x15_1).f1))) (fun _ hk => hk.2) (.int .i64 ((rd_T62 l0 x15_1).f2))) (fun _ hk => hk.2) (.int .i64 ((rd_T62 l0 x15_1).f3))) (fun _ hk => hk.2) (.int .i64 ((rd_T62 l0 x15_1).f4))) (fun _ hk => hk.2) (.bool ((rd_T62 l0 x15_1).f5))) (fun _ hk => hk.2) (.slice A418_6 ((rd_T62 l0 x15_1).f6).length c418_6)) (fun _ hk => trivial)))⟩; have n1_ : Aside0 (w14.heap[gb419]? = some (.cells #[.int .i64 ((rd_T62 l0 x15_1).f0), .string ((rd_T62 l0 x15_1).f1), .int .i64 ((rd_T62 l0 x15_1).f2), .int .i64 ((rd_T62 l0 x15_1).f3), .int .i64 ((rd_T62 l0 x15_1).f4), .bool ((rd_T62 l0 x15_1).f5), .slice A418_6 ((rd_T62 l0 x15_1).f6).length c418_6] 62 (0, 0))) := ⟨(by rw [hw]; exact (by exact put7 BK419.out))⟩; have n2_ : Aside0 (Below w.heap.size w w14) := ⟨(by rw [hw]; exact bA)⟩; clear hw; clear HO_4; clear BK419; clear HB; have HO_4 := n0_; have BK419 := n1_; have HB := n2_; clear n0_ n1_ n2_; obtain ⟨⟨hcz15_0, hcz15_1, hcz15_2, hcz15_3, hcz15_4, hcz15_5, hcz15_6⟩, hfz15_0, hfz15_1, hfz15_2, hfz15_3, hfz15_4, hfz15_5, hfz15_6⟩ := Own.c7 BK419.out) | ((with_reducible refine gate_callee (f := 90) rfl ?_); refine goesL_ (some 21) rfl rfl Try.func90 (by kernel_rfl) rfl #[.agg #[.int .i64 ((rd_T62 l0 x15_1).f0), .string ((rd_T62 l0 x15_1).f1), .int .i64 ((rd_T62 l0 x15_1).f2), .int .i64 ((rd_T62 l0 x15_1).f3), .int .i64 ((rd_T62 l0 x15_1).f4), .bool ((rd_T62 l0 x15_1).f5), .slice A418_6 ((rd_T62 l0 x15_1).f6).length c418_6]] rfl aL ?_; (with_reducible refine (impl_PutNode.calls k1 ((rd_T62 l0 x15_1).f0) ((rd_T62 l0 x15_1).f1) ((rd_T62 l0 x15_1).f2) ((rd_T62 l0 x15_1).f3) ((rd_T62 l0 x15_1).f4) ((rd_T62 l0 x15_1).f5) _ _ ((rd_T62 l0 x15_1).f6) t420 _ ?side1 ?side2 A10.out).mono ?_); (case side1 => exact cA); (case side2 => exact HC418_6.out); rintro e w16 ⟨v421, rfl, ho0, hb⟩; refine ⟨_, rfl, ?_⟩; have n0_ := Aside0.mk (Kd.R_elder' (by (with_reducible repeat (first | apply Kd.R_alloc | apply Kd.R_drewN | apply Kd.R_drew)); exact HO_4.out) (Kd.R_base ho0) hb); have n1_ := Aside0.mk (Kd.R_lower (Kd.R_new' ho0 (Kd.R_lt (by (with_reducible repeat (first | apply Kd.R_alloc | apply Kd.R_drewN | apply Kd.R_drew)); exact HO_4.out))) (below_size bA)); have n2_ := Aside0.mk (blk_below (g := gb419) (o := .cells #[.int .i64 ((rd_T62 l0 x15_1).f0), .string ((rd_T62 l0 x15_1).f1), .int .i64 ((rd_T62 l0 x15_1).f2), .int .i64 ((rd_T62 l0 x15_1).f3), .int .i64 ((rd_T62 l0 x15_1).f4), .bool ((rd_T62 l0 x15_1).f5), .slice A418_6 ((rd_T62 l0 x15_1).f6).length c418_6] 62 (0, 0)) (by (with_reducible repeat (first | refine blk_drewN ?_ _ | refine blk_drew ?_ | refine blk_alloc ?_ _)); exact BK419.out) hb); have n3_ := Aside0.mk (below_step bA hb); clear HO_4; clear BK419; clear HB; have HO_4 := n0_; have HO422 := n1_; have BK419 := n2_; have HB := n3_; clear n0_ n1_ n2_ n3_; (try clear hb); (try clear hb2); (try clear hk); (try clear hi); (try clear ho0); obtain ⟨Ao18, co18, eo18⟩ := Kd.R_slice HO422.out; subst eo18) | ((with_reducible refine gate_builtin (b := .append) (xs := #[.tmp 19, .tmp 21]) rfl ?_); at_builtin; refine Kd.R_append_rows (Kd.int .u8) (w0 := w) w.heap.size rfl (.tmp 19) (.tmp 21) 39 5 (.int .u8 0) 1 rfl Try.underlying39 info5 rfl (by decide) (by omega) u4 x4_1 t420 _ _ _ (fun k_ => some k_ ≠ (.slice Ao18 t420.length co18 : Value).ownBlock) (fun _ => False) rfl rfl ?aO ?aR (fun _ _ h => h) (fun _ h => h.elim) ?aF ?aB ?aS ?aL ?_; (case aR => repeat (first | exact (Kd.R_reads' HO422.out).2.2 | (with_reducible refine Kd.C_alloc ?_ _) | (with_reducible refine Kd.C_drewN ?_ _) | (with_reducible refine Kd.C_drew ?_))); (case aB => exact bA); (case aF => exact (fun k_ hk => Kd.fresh' (Kd.R_lt (by (with_reducible repeat (first | apply Kd.R_alloc | apply Kd.R_drewN | apply Kd.R_drew)); exact HO422.out)) k_ hk)); (case aO => exact (by (with_reducible repeat (first | apply Kd.R_alloc | apply Kd.R_drewN | apply Kd.R_drew)); exact Kd.R_mono HO_4.out (fun _ hk => hk.2))); (case aS => exact (below_size bA)); (case aL => have := LMc11.out; omega); intro v424 w17 ho hb hg hat; rw [← Ny423.out] at ho; have n0_ := Aside0.mk (blk_grown (g := gb419) (o := .cells #[.int .i64 ((rd_T62 l0 x15_1).f0), .string ((rd_T62 l0 x15_1).f1), .int .i64 ((rd_T62 l0 x15_1).f2), .int .i64 ((rd_T62 l0 x15_1).f3), .int .i64 ((rd_T62 l0 x15_1).f4), .bool ((rd_T62 l0 x15_1).f5), .slice A418_6 ((rd_T62 l0 x15_1).f6).length c418_6] 62 (0, 0)) (by (with_reducible repeat (first | refine blk_drewN ?_ _ | refine blk_drew ?_ | refine blk_alloc ?_ _)); exact BK419.out) hg (Kd.R_ne HO_4.out BK419.out (by decide))); have n1_ := Aside0.mk (Kd.R_after (ok := (fun _ => True)) (by (with_reducible repeat (first | apply Kd.R_alloc | apply Kd.R_drewN | apply Kd.R_drew)); exact HO422.out) hg hat); have n2_ := Aside0.mk (hb); have n3_ := Aside0.mk (ho); clear BK419; clear HO422; clear HB; clear HO_4; have BK419 := n0_; have HO422 := n1_; have HB := n2_; have HO425 := n3_; clear n0_ n1_ n2_ n3_; clear ho hb hg hat))
        go_roundg k1
        case measure => have := HK1.out; omega
        case rel => exact ⟨(y423), (wrap64 (x15_1 + 1)), rF, H', ⟨by have := HK1.out; omega⟩, ⟨by (with_reducible repeat (first | apply Kd.R_alloc | apply Kd.R_drewN | apply Kd.R_drew)); exact Kd.R_mono HO425.out (fun _ hk => trivial)⟩, ⟨bA⟩⟩
       ·rw [if_neg c11] at H
        exact absurd H (by simp)
      ·rw [if_neg c9] at H
       exact absurd H (by simp)
     ·rw [if_neg c8] at H
      exact absurd H (by simp)
    ·rw [if_neg c7] at H
     have c7b0 : decide (x15_1 < (l0.length : Int)) = false := decide_eq_false c7
     clear c7
     replace H := Option.bind_eq_some_iff.mp H
     obtain ⟨⟨t426, t427⟩, A190, H⟩ := H
     replace H : (some (t426, t427)) = some (r1, r2) := H
     have A19 := Aside0.mk A190
     clear A190
     simp only [Option.some.injEq, Prod.mk.injEq] at H
     obtain ⟨rfl, rfl⟩ := H
     obtain ⟨Ao20, co20, eo20⟩ := Kd.R_slice HO_4.out
     subst eo20
     go_wp2_with (first | ((with_reducible refine gate_callee (f := 91) rfl ?_); refine goesL_ (some 25) rfl rfl Try.func91 (by kernel_rfl) rfl #[.slice Ao20 x4_1.length co20] rfl aL ?_; (with_reducible refine (impl_Frame.calls k1 _ _ x4_1 t426 t427 _ ?side1 ?side2 A19.out).mono ?_); (case side1 => repeat (first | exact (Kd.R_reads' HO_4.out).2.2 | (with_reducible refine Kd.C_alloc ?_ _) | (with_reducible refine Kd.C_drewN ?_ _) | (with_reducible refine Kd.C_drew ?_))); (case side2 => exact (Kd.R_reads' HO_4.out).2.1); rintro e w21 ⟨v428, rfl, ho0, hb⟩; refine ⟨_, rfl, ?_⟩; have n0_ := Aside0.mk (Kd.R_elder' (by (with_reducible repeat (first | apply Kd.R_alloc | apply Kd.R_drewN | apply Kd.R_drew)); exact HO_4.out) (Kd.R_base ho0) hb); have n1_ := Aside0.mk (Kd.R_lower (Kd.R_new' ho0 (Kd.R_lt (by (with_reducible repeat (first | apply Kd.R_alloc | apply Kd.R_drewN | apply Kd.R_drew)); exact HO_4.out))) (below_size bA)); have n2_ := Aside0.mk (below_step bA hb); clear HO_4; clear HB; have HO_4 := n0_; have HO429 := n1_; have HB := n2_; clear n0_ n1_ n2_; (try clear hb); (try clear hb2); (try clear hk); (try clear hi); (try clear ho0)))
     go_ret2
     exact ⟨_, rE, by (with_reducible repeat (first | apply Kd.R_alloc | apply Kd.R_drewN | apply Kd.R_drew)); exact Kd.R_mono HO429.out (fun _ hk => trivial), bA⟩
 ·replace c3 := Bool.eq_false_iff.mpr c3
  subst c3
  have H1 : (some (([] : List Int), false)) = some (r1, r2) := by rw [if_neg (show ¬ (false = true) by decide)] at H; exact H
  clear H
  have H := H1
  clear H1
  simp only [Option.some.injEq, Prod.mk.injEq] at H
  obtain ⟨rfl, rfl⟩ := H
  go_enter Try.func51, Try.ntmps51
  go_wp2_with (first | ((with_reducible refine gate_callee (f := 43) rfl ?_); refine goesL_ (some 8) rfl rfl Try.func43 (by kernel_rfl) rfl #[.slice A0 l0.length c0] rfl aL ?_; (with_reducible refine (impl_PlanOk.calls k _ _ l0 false _ ?side1 ?side2 A2.out).mono ?_); (case side1 => exact cA); (case side2 => exact HC0.out); rintro e w22 ⟨rfl, hb⟩; refine ⟨_, rfl, ?_⟩; have n0_ := Aside0.mk (below_step bA hb); clear HB; have HB := n0_; clear n0_; (try clear hb); (try clear hb2); (try clear hk); (try clear hi)))
  go_ret2
  exact ⟨.slice none 0 0, rE, by first | exact Kd.R_nil _ _ _ _ _ | exact Kd.N_nil _ _ _ _ _ | exact Kd.V_nil _ _ _ _ _ | exact Kd.Q_nil _ _ _ _ _ | exact Kd.S_nil _ _ _ _ _, bA⟩

/-! ### impl_PlanSum: function 22 -/
def impl_PlanSum.f (k : Nat) (l0 : List (S62)) : Option (Int) := (impl_EncodePlan.f k l0).bind fun bt430 => (if bt430.2 = true then ((impl_CheckOf.f k bt430.1).bind fun t434 => (some t434)) else (some (-1)))
theorem impl_PlanSum.mono : ∀ a0 k, LeO (impl_PlanSum.f k a0) (impl_PlanSum.f (k + 1) a0) := by
 intro a0 k
 unfold impl_PlanSum.f
 repeat' first
   | (with_reducible exact impl_CheckOf.mono _ _)
   | (with_reducible exact impl_EncodePlan.mono _ _)
   | (with_reducible exact LeO.refl _)
   | (with_reducible exact LeO.none _)
   | (with_reducible refine LeO.ite ?_ ?_)
   | (with_reducible refine LeO.bind ?_ (fun _ => ?_))
   | exact impl_CheckOf.mono _ _
   | exact impl_EncodePlan.mono _ _
   | exact LeO.none _
   | refine LeO.ite ?_ ?_
   | refine LeO.bind ?_ (fun _ => ?_)
set_option maxHeartbeats 8000000 in
set_option maxRecDepth 100000 in
theorem impl_PlanSum.calls (k : Nat) (A0 : Option Addr) (c0 : Nat) (l0 : List (S62)) (r : Int) (w : World) (hr0 : Kd.C k62 w A0 l0.length l0) (hc0 : l0.length ≤ c0) (h : impl_PlanSum.f k l0 = some r) :
  Calls Try.prog 22 #[.slice A0 l0.length c0] w fun e w' => e = .returned (.int .i64 r) ∧ Below w.heap.size w w' := by
 have HR0 := Aside0.mk hr0
 have HC0 := Aside0.mk hc0
 clear hr0 hc0
 have HB := Aside0.mk (Below.refl w.heap.size w)
 have H : ((impl_EncodePlan.f k l0).bind fun bt430 => (if bt430.2 = true then ((impl_CheckOf.f k bt430.1).bind fun t434 => (some t434)) else (some (-1)))) = some r := h
 clear h
 replace H := Option.bind_eq_some_iff.mp H
 obtain ⟨⟨t430, t431⟩, A20, H⟩ := H
 replace H : (if t431 = true then ((impl_CheckOf.f k t430).bind fun t434 => (some t434)) else (some (-1))) = some r := H
 have A2 := Aside0.mk A20
 clear A20
 by_cases c3 : t431 = true
 ·subst c3
  have H1 : ((impl_CheckOf.f k t430).bind fun t434 => (some t434)) = some r := by rw [if_pos rfl] at H; exact H
  clear H
  have H := H1
  clear H1
  replace H := Option.bind_eq_some_iff.mp H
  obtain ⟨t434, A40, H⟩ := H
  replace H : (some t434) = some r := H
  have A4 := Aside0.mk A40
  clear A40
  obtain rfl := Option.some.inj H
  go_enter Try.func22, Try.ntmps22
  go_wp2_with (first | ((with_reducible refine gate_callee (f := 51) rfl ?_); refine goesL_ (some 7) rfl rfl Try.func51 (by kernel_rfl) rfl #[.slice A0 l0.length c0] rfl aL ?_; (with_reducible refine (impl_EncodePlan.calls k _ _ l0 t430 true _ ?side1 ?side2 A2.out).mono ?_); (case side1 => exact cA); (case side2 => exact HC0.out); rintro e w5 ⟨v432, rfl, ho0, hb⟩; refine ⟨_, rfl, ?_⟩; have n0_ := Aside0.mk (Kd.R_lower ho0 (below_size bA)); have n1_ := Aside0.mk (below_step bA hb); clear HB; have HO433 := n0_; have HB := n1_; clear n0_ n1_; (try clear hb); (try clear hb2); (try clear hk); (try clear hi); (try clear ho0); obtain ⟨Ao6, co6, eo6⟩ := Kd.R_slice HO433.out; subst eo6) | ((with_reducible refine gate_callee (f := 52) rfl ?_); refine goesL_ (some 13) rfl rfl Try.func52 (by kernel_rfl) rfl #[.slice Ao6 t430.length co6] rfl aL ?_; (with_reducible refine (impl_CheckOf.calls k _ _ t430 t434 _ ?side1 ?side2 A4.out).mono ?_); (case side1 => repeat (first | exact (Kd.R_reads' HO433.out).2.2 | (with_reducible refine Kd.C_alloc ?_ _) | (with_reducible refine Kd.C_drewN ?_ _) | (with_reducible refine Kd.C_drew ?_))); (case side2 => exact (Kd.R_reads' HO433.out).2.1); rintro e w' ⟨rfl, ⟨nd, rfl⟩⟩; refine ⟨_, rfl, ?_⟩))
  go_ret
  exact ⟨rE, bA⟩
 ·replace c3 := Bool.eq_false_iff.mpr c3
  subst c3
  have H1 : (some (-1)) = some r := by rw [if_neg (show ¬ (false = true) by decide)] at H; exact H
  clear H
  have H := H1
  clear H1
  obtain rfl := Option.some.inj H
  go_enter Try.func22, Try.ntmps22
  go_wp2_with (first | ((with_reducible refine gate_callee (f := 51) rfl ?_); refine goesL_ (some 7) rfl rfl Try.func51 (by kernel_rfl) rfl #[.slice A0 l0.length c0] rfl aL ?_; (with_reducible refine (impl_EncodePlan.calls k _ _ l0 t430 false _ ?side1 ?side2 A2.out).mono ?_); (case side1 => exact cA); (case side2 => exact HC0.out); rintro e w7 ⟨v432, rfl, ho0, hb⟩; refine ⟨_, rfl, ?_⟩; have n0_ := Aside0.mk (Kd.R_lower ho0 (below_size bA)); have n1_ := Aside0.mk (below_step bA hb); clear HB; have HO433 := n0_; have HB := n1_; clear n0_ n1_; (try clear hb); (try clear hb2); (try clear hk); (try clear hi); (try clear ho0)))
  go_ret
  exact ⟨rE, bA⟩

/-! ### laws_FnExactPlanSum: function 6 -/
def laws_FnExactPlanSum.f (k : Nat) (l0 : List (S57)) : Option (Bool) := (laws_szNodeS.f k l0 1048576).bind fun t435 => (if t435 < 0 then (some true) else ((laws_toNodeS.f k l0).bind fun t436 => ((spec_PlanSum.f k t436).bind fun t439 => ((laws_toNodeS.f k l0).bind fun t440 => ((impl_PlanSum.f k t440).bind fun t443 => (if t443 = t439 then ((laws_toNodeS.f k l0).bind fun t444 => ((laws_eqNodeS.f k t440 t444).bind fun t447 => (if t447 = true then (some true) else (some false)))) else (some false)))))))
theorem laws_FnExactPlanSum.mono : ∀ a0 k, LeO (laws_FnExactPlanSum.f k a0) (laws_FnExactPlanSum.f (k + 1) a0) := by
 intro a0 k
 unfold laws_FnExactPlanSum.f
 repeat' first
   | (with_reducible exact impl_PlanSum.mono _ _)
   | (with_reducible exact laws_eqNodeS.mono _ _ _)
   | (with_reducible exact laws_szNodeS.mono _ _ _)
   | (with_reducible exact laws_toNodeS.mono _ _)
   | (with_reducible exact spec_PlanSum.mono _ _)
   | (with_reducible exact LeO.refl _)
   | (with_reducible exact LeO.none _)
   | (with_reducible refine LeO.ite ?_ ?_)
   | (with_reducible refine LeO.bind ?_ (fun _ => ?_))
   | exact impl_PlanSum.mono _ _
   | exact laws_eqNodeS.mono _ _ _
   | exact laws_szNodeS.mono _ _ _
   | exact laws_toNodeS.mono _ _
   | exact spec_PlanSum.mono _ _
   | exact LeO.none _
   | refine LeO.ite ?_ ?_
   | refine LeO.bind ?_ (fun _ => ?_)
set_option maxHeartbeats 8000000 in
set_option maxRecDepth 100000 in
theorem laws_FnExactPlanSum.calls (k : Nat) (A0 : Option Addr) (c0 : Nat) (l0 : List (S57)) (r : Bool) (w : World) (hr0 : Kd.C k57 w A0 l0.length l0) (hc0 : l0.length ≤ c0) (h : laws_FnExactPlanSum.f k l0 = some r) (hr_ : r = true) :
  Calls Try.prog 6 #[.slice A0 l0.length c0] w fun e w' => e = .returned (.bool r) ∧ Below w.heap.size w w' := by
 have HR0 := Aside0.mk hr0
 have HC0 := Aside0.mk hc0
 clear hr0 hc0
 have HB := Aside0.mk (Below.refl w.heap.size w)
 have H : ((laws_szNodeS.f k l0 1048576).bind fun t435 => (if t435 < 0 then (some true) else ((laws_toNodeS.f k l0).bind fun t436 => ((spec_PlanSum.f k t436).bind fun t439 => ((laws_toNodeS.f k l0).bind fun t440 => ((impl_PlanSum.f k t440).bind fun t443 => (if t443 = t439 then ((laws_toNodeS.f k l0).bind fun t444 => ((laws_eqNodeS.f k t440 t444).bind fun t447 => (if t447 = true then (some true) else (some false)))) else (some false)))))))) = some r := h
 clear h
 replace H := Option.bind_eq_some_iff.mp H
 obtain ⟨t435, A20, H⟩ := H
 replace H : (if t435 < 0 then (some true) else ((laws_toNodeS.f k l0).bind fun t436 => ((spec_PlanSum.f k t436).bind fun t439 => ((laws_toNodeS.f k l0).bind fun t440 => ((impl_PlanSum.f k t440).bind fun t443 => (if t443 = t439 then ((laws_toNodeS.f k l0).bind fun t444 => ((laws_eqNodeS.f k t440 t444).bind fun t447 => (if t447 = true then (some true) else (some false)))) else (some false))))))) = some r := H
 have A2 := Aside0.mk A20
 clear A20
 by_cases c3 : t435 < 0
 ·rw [if_pos c3] at H
  have c3b0 : decide (t435 < 0) = true := decide_eq_true c3
  clear c3
  obtain rfl := Option.some.inj H
  go_enter Try.func6, Try.ntmps6
  go_wp2_with (first | ((with_reducible refine gate_callee (f := 10) rfl ?_); refine goesL_ (some 9) rfl rfl Try.func10 (by kernel_rfl) rfl #[.slice A0 l0.length c0, .int .i64 1048576] rfl aL ?_; (with_reducible refine (laws_szNodeS.calls k _ _ l0 1048576 t435 _ ?side1 ?side2 A2.out).mono ?_); (case side1 => exact cA); (case side2 => exact HC0.out); rintro e w4 ⟨rfl, hb⟩; refine ⟨_, rfl, ?_⟩; have n0_ := Aside0.mk (below_step bA hb); clear HB; have HB := n0_; clear n0_; (try clear hb); (try clear hb2); (try clear hk); (try clear hi)))
  go_ret
  exact ⟨rE, bA⟩
 ·rw [if_neg c3] at H
  have c3b0 : decide (t435 < 0) = false := decide_eq_false c3
  clear c3
  replace H := Option.bind_eq_some_iff.mp H
  obtain ⟨t436, A50, H⟩ := H
  replace H : ((spec_PlanSum.f k t436).bind fun t439 => ((laws_toNodeS.f k l0).bind fun t440 => ((impl_PlanSum.f k t440).bind fun t443 => (if t443 = t439 then ((laws_toNodeS.f k l0).bind fun t444 => ((laws_eqNodeS.f k t440 t444).bind fun t447 => (if t447 = true then (some true) else (some false)))) else (some false))))) = some r := H
  have A5 := Aside0.mk A50
  clear A50
  replace H := Option.bind_eq_some_iff.mp H
  obtain ⟨t439, A60, H⟩ := H
  replace H : ((laws_toNodeS.f k l0).bind fun t440 => ((impl_PlanSum.f k t440).bind fun t443 => (if t443 = t439 then ((laws_toNodeS.f k l0).bind fun t444 => ((laws_eqNodeS.f k t440 t444).bind fun t447 => (if t447 = true then (some true) else (some false)))) else (some false)))) = some r := H
  have A6 := Aside0.mk A60
  clear A60
  replace H := Option.bind_eq_some_iff.mp H
  obtain ⟨t440, A70, H⟩ := H
  replace H : ((impl_PlanSum.f k t440).bind fun t443 => (if t443 = t439 then ((laws_toNodeS.f k l0).bind fun t444 => ((laws_eqNodeS.f k t440 t444).bind fun t447 => (if t447 = true then (some true) else (some false)))) else (some false))) = some r := H
  have A7 := Aside0.mk A70
  clear A70
  replace H := Option.bind_eq_some_iff.mp H
  obtain ⟨t443, A80, H⟩ := H
  replace H : (if t443 = t439 then ((laws_toNodeS.f k l0).bind fun t444 => ((laws_eqNodeS.f k t440 t444).bind fun t447 => (if t447 = true then (some true) else (some false)))) else (some false)) = some r := H
  have A8 := Aside0.mk A80
  clear A80
  by_cases c9 : t443 = t439
  ·rw [if_pos c9] at H
   have c9b0 : (t443 == t439) = true := beq_iff_eq.mpr c9
   have c9b1 : (t443 != t439) = false := bne_eq_false_iff_eq.mpr c9
   clear c9
   replace H := Option.bind_eq_some_iff.mp H
   obtain ⟨t444, A100, H⟩ := H
   replace H : ((laws_eqNodeS.f k t440 t444).bind fun t447 => (if t447 = true then (some true) else (some false))) = some r := H
   have A10 := Aside0.mk A100
   clear A100
   replace H := Option.bind_eq_some_iff.mp H
   obtain ⟨t447, A110, H⟩ := H
   replace H : (if t447 = true then (some true) else (some false)) = some r := H
   have A11 := Aside0.mk A110
   clear A110
   by_cases c12 : t447 = true
   ·subst c12
    have H1 : (some true) = some r := by rw [if_pos rfl] at H; exact H
    clear H
    have H := H1
    clear H1
    obtain rfl := Option.some.inj H
    go_enter Try.func6, Try.ntmps6
    go_wp2_with (first | ((with_reducible refine gate_callee (f := 10) rfl ?_); refine goesL_ (some 9) rfl rfl Try.func10 (by kernel_rfl) rfl #[.slice A0 l0.length c0, .int .i64 1048576] rfl aL ?_; (with_reducible refine (laws_szNodeS.calls k _ _ l0 1048576 t435 _ ?side1 ?side2 A2.out).mono ?_); (case side1 => exact cA); (case side2 => exact HC0.out); rintro e w13 ⟨rfl, hb⟩; refine ⟨_, rfl, ?_⟩; have n0_ := Aside0.mk (below_step bA hb); clear HB; have HB := n0_; clear n0_; (try clear hb); (try clear hb2); (try clear hk); (try clear hi)) | ((with_reducible refine gate_callee (f := 13) rfl ?_); refine goesL_ (some 13) rfl rfl Try.func13 (by kernel_rfl) rfl #[.slice A0 l0.length c0] rfl aL ?_; (with_reducible refine (laws_toNodeS.calls k _ _ l0 t436 _ ?side1 ?side2 A5.out).mono ?_); (case side1 => exact cA); (case side2 => exact HC0.out); rintro e w14 ⟨v437, rfl, ho0, hb⟩; refine ⟨_, rfl, ?_⟩; have n0_ := Aside0.mk (Kd.S_lower ho0 (below_size bA)); have n1_ := Aside0.mk (below_step bA hb); clear HB; have HO438 := n0_; have HB := n1_; clear n0_ n1_; (try clear hb); (try clear hb2); (try clear hk); (try clear hi); (try clear ho0); obtain ⟨Ao15, co15, eo15⟩ := Kd.S_slice HO438.out; subst eo15) | ((with_reducible refine gate_callee (f := 21) rfl ?_); refine goesL_ (some 14) rfl rfl Try.func21 (by kernel_rfl) rfl #[.slice Ao15 t436.length co15] rfl aL ?_; (with_reducible refine (spec_PlanSum.calls k _ _ t436 t439 _ ?side1 ?side2 A6.out).mono ?_); (case side1 => repeat (first | exact (Kd.S_reads' HO438.out).2.2 | (with_reducible refine Kd.C_alloc ?_ _) | (with_reducible refine Kd.C_drewN ?_ _) | (with_reducible refine Kd.C_drew ?_))); (case side2 => exact (Kd.S_reads' HO438.out).2.1); rintro e w16 ⟨rfl, hb⟩; refine ⟨_, rfl, ?_⟩; have n0_ := Aside0.mk (Kd.S_below (by (with_reducible repeat (first | apply Kd.S_alloc | apply Kd.S_drewN | apply Kd.S_drew)); exact HO438.out) hb); have n1_ := Aside0.mk (below_step bA hb); clear HO438; clear HB; have HO438 := n0_; have HB := n1_; clear n0_ n1_; (try clear hb); (try clear hb2); (try clear hk); (try clear hi)) | ((with_reducible refine gate_callee (f := 13) rfl ?_); refine goesL_ (some 16) rfl rfl Try.func13 (by kernel_rfl) rfl #[.slice A0 l0.length c0] rfl aL ?_; (with_reducible refine (laws_toNodeS.calls k _ _ l0 t440 _ ?side1 ?side2 A7.out).mono ?_); (case side1 => exact cA); (case side2 => exact HC0.out); rintro e w17 ⟨v441, rfl, ho0, hb⟩; refine ⟨_, rfl, ?_⟩; have n0_ := Aside0.mk (Kd.S_elder' (by (with_reducible repeat (first | apply Kd.S_alloc | apply Kd.S_drewN | apply Kd.S_drew)); exact HO438.out) (Kd.S_base ho0) hb); have n1_ := Aside0.mk (Kd.S_lower (Kd.S_new' ho0 (Kd.S_lt (by (with_reducible repeat (first | apply Kd.S_alloc | apply Kd.S_drewN | apply Kd.S_drew)); exact HO438.out))) (below_size bA)); have n2_ := Aside0.mk (below_step bA hb); clear HO438; clear HB; have HO438 := n0_; have HO442 := n1_; have HB := n2_; clear n0_ n1_ n2_; (try clear hb); (try clear hb2); (try clear hk); (try clear hi); (try clear ho0); obtain ⟨Ao18, co18, eo18⟩ := Kd.S_slice HO442.out; subst eo18) | ((with_reducible refine gate_callee (f := 22) rfl ?_); refine goesL_ (some 18) rfl rfl Try.func22 (by kernel_rfl) rfl #[.slice Ao18 t440.length co18] rfl aL ?_; (with_reducible refine (impl_PlanSum.calls k _ _ t440 t443 _ ?side1 ?side2 A8.out).mono ?_); (case side1 => repeat (first | exact (Kd.S_reads' HO442.out).2.2 | (with_reducible refine Kd.C_alloc ?_ _) | (with_reducible refine Kd.C_drewN ?_ _) | (with_reducible refine Kd.C_drew ?_))); (case side2 => exact (Kd.S_reads' HO442.out).2.1); rintro e w19 ⟨rfl, hb⟩; refine ⟨_, rfl, ?_⟩; have n0_ := Aside0.mk (Kd.S_below (by (with_reducible repeat (first | apply Kd.S_alloc | apply Kd.S_drewN | apply Kd.S_drew)); exact HO438.out) hb); have n1_ := Aside0.mk (Kd.S_below (by (with_reducible repeat (first | apply Kd.S_alloc | apply Kd.S_drewN | apply Kd.S_drew)); exact HO442.out) hb); have n2_ := Aside0.mk (below_step bA hb); clear HO438; clear HO442; clear HB; have HO438 := n0_; have HO442 := n1_; have HB := n2_; clear n0_ n1_ n2_; (try clear hb); (try clear hb2); (try clear hk); (try clear hi)) | ((with_reducible refine gate_callee (f := 13) rfl ?_); refine goesL_ (some 24) rfl rfl Try.func13 (by kernel_rfl) rfl #[.slice A0 l0.length c0] rfl aL ?_; (with_reducible refine (laws_toNodeS.calls k _ _ l0 t444 _ ?side1 ?side2 A10.out).mono ?_); (case side1 => exact cA); (case side2 => exact HC0.out); rintro e w20 ⟨v445, rfl, ho0, hb⟩; refine ⟨_, rfl, ?_⟩; have n0_ := Aside0.mk (Kd.S_elder' (by (with_reducible repeat (first | apply Kd.S_alloc | apply Kd.S_drewN | apply Kd.S_drew)); exact HO438.out) (Kd.S_base ho0) hb); have n1_ := Aside0.mk (Kd.S_elder' (by (with_reducible repeat (first | apply Kd.S_alloc | apply Kd.S_drewN | apply Kd.S_drew)); exact HO442.out) (Kd.S_base ho0) hb); have n2_ := Aside0.mk (Kd.S_lower (Kd.S_new' (Kd.S_new' ho0 (Kd.S_lt (by (with_reducible repeat (first | apply Kd.S_alloc | apply Kd.S_drewN | apply Kd.S_drew)); exact HO438.out))) (Kd.S_lt (by (with_reducible repeat (first | apply Kd.S_alloc | apply Kd.S_drewN | apply Kd.S_drew)); exact HO442.out))) (below_size bA)); have n3_ := Aside0.mk (below_step bA hb); clear HO438; clear HO442; clear HB; have HO438 := n0_; have HO442 := n1_; have HO446 := n2_; have HB := n3_; clear n0_ n1_ n2_ n3_; (try clear hb); (try clear hb2); (try clear hk); (try clear hi); (try clear ho0); obtain ⟨Ao21, co21, eo21⟩ := Kd.S_slice HO446.out; subst eo21) | ((with_reducible refine gate_callee (f := 16) rfl ?_); refine goesL_ (some 25) rfl rfl Try.func16 (by kernel_rfl) rfl #[.slice Ao18 t440.length co18, .slice Ao21 t444.length co21] rfl aL ?_; (with_reducible refine (laws_eqNodeS.calls k _ _ t440 _ _ t444 true _ ?side1 ?side2 ?side3 ?side4 A11.out).mono ?_); (case side1 => repeat (first | exact (Kd.S_reads' HO442.out).2.2 | (with_reducible refine Kd.C_alloc ?_ _) | (with_reducible refine Kd.C_drewN ?_ _) | (with_reducible refine Kd.C_drew ?_))); (case side2 => exact (Kd.S_reads' HO442.out).2.1); (case side3 => repeat (first | exact (Kd.S_reads' HO446.out).2.2 | (with_reducible refine Kd.C_alloc ?_ _) | (with_reducible refine Kd.C_drewN ?_ _) | (with_reducible refine Kd.C_drew ?_))); (case side4 => exact (Kd.S_reads' HO446.out).2.1); rintro e w22 ⟨rfl, hb⟩; refine ⟨_, rfl, ?_⟩; have n0_ := Aside0.mk (Kd.S_below (by (with_reducible repeat (first | apply Kd.S_alloc | apply Kd.S_drewN | apply Kd.S_drew)); exact HO438.out) hb); have n1_ := Aside0.mk (Kd.S_below (by (with_reducible repeat (first | apply Kd.S_alloc | apply Kd.S_drewN | apply Kd.S_drew)); exact HO442.out) hb); have n2_ := Aside0.mk (Kd.S_below (by (with_reducible repeat (first | apply Kd.S_alloc | apply Kd.S_drewN | apply Kd.S_drew)); exact HO446.out) hb); have n3_ := Aside0.mk (below_step bA hb); clear HO438; clear HO442; clear HO446; clear HB; have HO438 := n0_; have HO442 := n1_; have HO446 := n2_; have HB := n3_; clear n0_ n1_ n2_ n3_; (try clear hb); (try clear hb2); (try clear hk); (try clear hi)))
    go_ret
    exact ⟨rE, bA⟩
   ·replace c12 := Bool.eq_false_iff.mpr c12
    subst c12
    have H1 : (some false) = some r := by rw [if_neg (show ¬ (false = true) by decide)] at H; exact H
    clear H
    have H := H1
    clear H1
    exact absurd ((Option.some.inj H).trans hr_) (by decide)
  ·rw [if_neg c9] at H
   have c9b0 : (t443 == t439) = false := beq_eq_false_iff_ne.mpr c9
   have c9b1 : (t443 != t439) = true := bne_iff_ne.mpr c9
   exact absurd ((Option.some.inj H).trans hr_) (by decide)

end Go.Proofs.Ytgmhohafoclmpaa.Q
