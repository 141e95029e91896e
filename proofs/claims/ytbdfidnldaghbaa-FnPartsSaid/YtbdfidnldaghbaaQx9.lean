/- The machine side of a law, written by a program of this session over the translation: for each Go function a Lean function with the same answers, and the proof that the Go code comes to them. -/
import Derived.Test.YtbdfidnldaghbaaQx0
import Derived.Test.YtbdfidnldaghbaaSort
import Derived.Test.YtbdfidnldaghbaaQx3
import Derived.Test.YtbdfidnldaghbaaQx5
namespace Go.Proofs.Ytbdfidnldaghbaa.Q
open Go.RowKit Go.Proofs.Ytbdfidnldaghbaa.Own Go.Proofs.YtbdfidnldaghbaaW.PrintWords Go.Proofs.YtbdfidnldaghbaaW.PrintLast Go.Proofs.YtbdfidnldaghbaaW.PrintMore
attribute [local go_sem] max2_int min2_int max_two min_two max_three min_three max_four min_four   -- for this text's walks alone
set_option linter.unusedVariables false
set_option linter.unusedSimpArgs false

/-! ### slices_Sort_string_string: function 93 -/
-- FORM 1 0
def slices_Sort_string_string.f (l0 : List ByteArray) : Option Unit := if l0.length ≤ 1099511627776 then some () else none
theorem sort_len {l : List ByteArray} {u : Unit} (h : slices_Sort_string_string.f l = some u) : l.length ≤ 1099511627776 := by
 unfold slices_Sort_string_string.f at h
 by_cases c : l.length ≤ 1099511627776
 ·exact c
 ·rw [if_neg c] at h; cases h

/-! ### slices_Compact_string_string: function 94 -/
-- FORM 1 0
def slices_Compact_string_string.f (l0 : List ByteArray) : Option (List ByteArray) := some (compactB (sortB l0))

/-! ### impl_TablesOf: function 45 -/
def impl_TablesOf.l0 : Nat → List ByteArray → List (S58) → Int → Int → Option (List ByteArray)
 | 0, _, _, _, _ => none
 | k + 1, x3, x9, x10, x11 => if x11 < x10 then (if 0 ≤ x11 then (if x11 < (x9.length : Int) then (if ((rd_T58 x9 x11).f0) = 0 then (if x3.length < 8796093022208 then (impl_TablesOf.l0 k (x3 ++ [(rd_T58 x9 x11).f1]) x9 x10 (wrap64 (x11 + 1))) else (none)) else (impl_TablesOf.l0 k x3 x9 x10 (wrap64 (x11 + 1)))) else (none)) else (none)) else ((slices_Sort_string_string.f x3).bind fun _ => ((slices_Compact_string_string.f x3).bind fun t656 => (some t656)))
def impl_TablesOf.f (k : Nat) (l0 : List (S58)) : Option (List ByteArray) := (impl_PlanOk.f k l0).bind fun t650 => (if t650 = true then (impl_TablesOf.l0 k ([] : List ByteArray) l0 (l0.length : Int) 0) else (some ([] : List ByteArray)))
theorem impl_TablesOf.mono_l : ∀ k, (∀ y0 y1 y2 y3, LeO (impl_TablesOf.l0 k y0 y1 y2 y3) (impl_TablesOf.l0 (k + 1) y0 y1 y2 y3))
 | 0 => fun _ _ _ _ r h => by simp [impl_TablesOf.l0] at h
 | k + 1 => by
  have ih0 := impl_TablesOf.mono_l k
  ·intro y0 y1 y2 y3
   unfold impl_TablesOf.l0
   repeat' first
   | (with_reducible exact ih0 _ _ _ _)
   | (with_reducible exact impl_PlanOk.mono _ _)
   | (with_reducible exact LeO.refl _)
   | (with_reducible exact LeO.none _)
   | (with_reducible refine LeO.ite ?_ ?_)
   | (with_reducible refine LeO.bind ?_ (fun _ => ?_))
   | exact ih0 _ _ _ _
   | exact impl_PlanOk.mono _ _
   | exact LeO.none _
   | refine LeO.ite ?_ ?_
   | refine LeO.bind ?_ (fun _ => ?_)
theorem impl_TablesOf.mono : ∀ a0 k, LeO (impl_TablesOf.f k a0) (impl_TablesOf.f (k + 1) a0) := by
 intro a0 k
 have ih0 := impl_TablesOf.mono_l k
 unfold impl_TablesOf.f
 repeat' first
   | (with_reducible exact ih0 _ _ _ _)
   | (with_reducible exact impl_PlanOk.mono _ _)
   | (with_reducible exact LeO.refl _)
   | (with_reducible exact LeO.none _)
   | (with_reducible refine LeO.ite ?_ ?_)
   | (with_reducible refine LeO.bind ?_ (fun _ => ?_))
   | exact ih0 _ _ _ _
   | exact impl_PlanOk.mono _ _
   | exact LeO.none _
   | refine LeO.ite ?_ ?_
   | refine LeO.bind ?_ (fun _ => ?_)
set_option maxHeartbeats 8000000 in
set_option maxRecDepth 100000 in
theorem impl_TablesOf.calls (k : Nat) (A0 : Option Addr) (c0 : Nat) (l0 : List (S58)) (r : List ByteArray) (w : World) (hr0 : Kd.C k58 w A0 l0.length l0) (hc0 : l0.length ≤ c0) (h : impl_TablesOf.f k l0 = some r) :
  Calls Try.prog 45 #[.slice A0 l0.length c0] w fun e w' => ∃ v0_ : Value, e = .returned (v0_) ∧ Kd.R Kd.string 9 w' w.heap.size (fun _ => True) v0_ r ∧ Below w.heap.size w w' := by
 have hu58 := Try.underlying58
 have HR0 := Aside0.mk hr0
 have HC0 := Aside0.mk hc0
 clear hr0 hc0
 have HB := Aside0.mk (Below.refl w.heap.size w)
 have H : ((impl_PlanOk.f k l0).bind fun t650 => (if t650 = true then (impl_TablesOf.l0 k ([] : List ByteArray) l0 (l0.length : Int) 0) else (some ([] : List ByteArray)))) = some r := h
 clear h
 replace H := Option.bind_eq_some_iff.mp H
 obtain ⟨t650, A20, H⟩ := H
 replace H : (if t650 = true then (impl_TablesOf.l0 k ([] : List ByteArray) l0 (l0.length : Int) 0) else (some ([] : List ByteArray))) = some r := H
 have A2 := Aside0.mk A20
 clear A20
 by_cases c3 : t650 = true
 ·subst c3
  have H1 : (impl_TablesOf.l0 k ([] : List ByteArray) l0 (l0.length : Int) 0) = some r := by rw [if_pos rfl] at H; exact H
  clear H
  have H := H1
  clear H1
  have H' := Aside0.mk H
  clear H
  go_enter Try.func45, Try.ntmps45
  go_wp2_with (first | ((with_reducible refine gate_callee (f := 34) rfl ?_); refine goesL_ (some 7) rfl rfl Try.func34 (by kernel_rfl) rfl #[.slice A0 l0.length c0] rfl aL ?_; (with_reducible refine (impl_PlanOk.calls k _ _ l0 true _ ?side1 ?side2 A2.out).mono ?_); (case side1 => exact cA); (case side2 => exact HC0.out); rintro e w4 ⟨rfl, hb⟩; refine ⟨_, rfl, ?_⟩; have n0_ := Aside0.mk (below_step bA hb); clear HB; have HB := n0_; clear n0_; (try clear hb); (try clear hb2); (try clear hk); (try clear hi)))
  go_loopg [3, 11] k (fun kq v3 v11 w' => ∃ (x3_1 : List ByteArray) (x11_1 : Int), v11 = .int .i64 x11_1 ∧ Aside0 (impl_TablesOf.l0 kq x3_1 l0 (l0.length : Int) x11_1 = some r) ∧ Aside0 (kq ≤ k) ∧ Aside0 (Kd.R Kd.string 9 w' w.heap.size (fun _ => True) v3 x3_1) ∧ Aside0 (Below w.heap.size w w'))
  case atStart => exact ⟨(([] : List ByteArray)), (0), rF, H', ⟨Nat.le_refl _⟩, ⟨by first | exact Kd.R_nil _ _ _ _ _ | exact Kd.N_nil _ _ _ _ _ | exact Kd.V_nil _ _ _ _ _ | exact Kd.Q_nil _ _ _ _ _ | exact Kd.S_nil _ _ _ _ _⟩, ⟨bA⟩⟩
  case round =>
   clear H'
   try clear p2
   try clear c3
   try clear c4
   obtain ⟨x3_1, x11_1, rfl, HA, HK1, HO_3, HB⟩ := hrel
   cases gk with
   | zero => exact absurd HA.out (by simp [impl_TablesOf.l0])
   | succ k1 =>
    have H := HA.out
    clear HA
    simp only [impl_TablesOf.l0] at H
    by_cases c5 : x11_1 < (l0.length : Int)
    ·rw [if_pos c5] at H
     have c5b0 : decide (x11_1 < (l0.length : Int)) = true := decide_eq_true c5
     clear c5
     by_cases c6 : 0 ≤ x11_1
     ·rw [if_pos c6] at H
      have c6b0 : decide (0 ≤ x11_1) = true := decide_eq_true c6
      clear c6
      by_cases c7 : x11_1 < (l0.length : Int)
      ·rw [if_pos c7] at H
       have c7b0 : decide (x11_1 < (l0.length : Int)) = true := decide_eq_true c7
       clear c7
       by_cases c8 : ((rd_T58 l0 x11_1).f0) = 0
       ·rw [if_pos c8] at H
        have c8b0 : (((rd_T58 l0 x11_1).f0) == 0) = true := beq_iff_eq.mpr c8
        have c8b1 : (((rd_T58 l0 x11_1).f0) != 0) = false := bne_eq_false_iff_eq.mpr c8
        clear c8
        by_cases c9 : x3_1.length < 8796093022208
        ·rw [if_pos c9] at H
         have LMc9 := Aside0.mk c9
         clear c9
         obtain ⟨y653, hy653⟩ : ∃ y_ : List ByteArray, y_ = (x3_1 ++ [(rd_T58 l0 x11_1).f1]) := ⟨_, rfl⟩
         replace H : (impl_TablesOf.l0 k1 y653 l0 (l0.length : Int) (wrap64 (x11_1 + 1))) = some r := by first | (rw [hy653]; with_reducible exact H) | (have H2_ := (Option.bind_some _ _).symm.trans H; rw [hy653]; with_reducible exact H2_) | (have H2_ := (Option.bind_some _ _).symm.trans H; with_reducible exact H2_) | with_reducible exact H | (rw [hy653]; exact H) | exact H
         have Ny653 := Aside0.mk hy653
         clear hy653
         have H' := Aside0.mk H
         clear H
         have p651 : 0 ≤ (x11_1 : Int) := of_decide_eq_true (by assumption)
         have q651 : x11_1 < (l0.length : Int) := of_decide_eq_true (by assumption)
         obtain ⟨ad651, A651_6, c651_6, e651, hx651_0, hx651_1, hx651_2, hx651_3, hx651_4, hx651_5, hx651_6, hl651_6, hi651_6⟩ := at_T58 HR0.out x11_1 p651 q651
         cases e651
         replace hx651_0 := hxB HB.out hx651_0
         replace hx651_1 := hxB HB.out hx651_1
         replace hx651_2 := hxB HB.out hx651_2
         replace hx651_3 := hxB HB.out hx651_3
         replace hx651_4 := hxB HB.out hx651_4
         replace hx651_5 := hxB HB.out hx651_5
         replace hx651_6 := hxB HB.out hx651_6
         have HR651_6 := Aside0.mk hi651_6
         have HC651_6 := Aside0.mk hl651_6
         clear hi651_6 hl651_6
         replace p651 := eq_true p651
         replace q651 := eq_true q651
         go_wp2_with (first | ((with_reducible refine gate_dst (N := 5) rfl ?_); refine box_event ?hg (N := 5) ?hd (cs := #[.int .i64 0, .string (⟨#[]⟩ : ByteArray), .int .i64 0, .int .i64 0, .int .i64 0, .bool false, .slice none 0 0]) (t := 58) ?hr ?_; (case hd => rfl); (case hg => rfl); (case hr => first | (go_simp; done) | (go_simp; rfl)); intro gb652 hg w10 hbox hb; have n0_ := Aside0.mk (Kd.R_below (by (with_reducible repeat (first | apply Kd.R_alloc | apply Kd.R_drewN | apply Kd.R_drew)); exact HO_3.out) hb); have n1_ := Aside0.mk (below_step bA hb); have n2_ := Aside0.mk (hbox); have n3_ := Aside0.mk ((by rw [hg]; exact (below_size bA) : w.heap.size ≤ gb652)); have n4_ := Aside0.mk ((by rw [hg]; exact (below_size bA) : w.heap.size ≤ gb652)); clear HO_3; clear HB; have HO_3 := n0_; have HB := n1_; have BK652 := n2_; have GW652 := n3_; have GE652 := n4_; clear n0_ n1_ n2_ n3_ n4_; clear hb hbox hg; obtain ⟨⟨hcz11_0, hcz11_1, hcz11_2, hcz11_3, hcz11_4, hcz11_5, hcz11_6⟩, hfz11_0, hfz11_1, hfz11_2, hfz11_3, hfz11_4, hfz11_5, hfz11_6⟩ := Own.c7 BK652.out) | ((with_reducible refine gate_store (t := 58) (p := 5) rfl ?_); refine store_event (t := 58) (p := 5) (v := ?vo_w12) (w1 := (((((((w10.setCell ⟨gb652, 0, none⟩ (.int .i64 ((rd_T58 l0 x11_1).f0))).setCell ⟨gb652, 1, none⟩ (.string ((rd_T58 l0 x11_1).f1))).setCell ⟨gb652, 2, none⟩ (.int .i64 ((rd_T58 l0 x11_1).f2))).setCell ⟨gb652, 3, none⟩ (.int .i64 ((rd_T58 l0 x11_1).f3))).setCell ⟨gb652, 4, none⟩ (.int .i64 ((rd_T58 l0 x11_1).f4))).setCell ⟨gb652, 5, none⟩ (.bool ((rd_T58 l0 x11_1).f5))).setCell ⟨gb652, 6, none⟩ (.slice A651_6 ((rd_T58 l0 x11_1).f6).length c651_6))) ?hg ?ho ?hn ?hr ?_; (case ho => rfl); (case hg => rfl); (case hn => rfl); (case hr => first | (go_simp; done) | (go_simp; rfl)); intro w12 hw; have n0_ : Aside0 (Kd.R Kd.string 9 w12 w.heap.size (fun _ => True) u3 x3_1) := ⟨(by rw [hw]; exact (by (with_reducible repeat (first | apply Kd.R_alloc | apply Kd.R_drewN | apply Kd.R_drew)); exact Kd.R_mono (Kd.R_far (p := ⟨gb652, 6, none⟩) (Kd.R_far (p := ⟨gb652, 5, none⟩) (Kd.R_far (p := ⟨gb652, 4, none⟩) (Kd.R_far (p := ⟨gb652, 3, none⟩) (Kd.R_far (p := ⟨gb652, 2, none⟩) (Kd.R_far (p := ⟨gb652, 1, none⟩) (Kd.R_far (p := ⟨gb652, 0, none⟩) (Kd.R_types HO_3.out BK652.out (by decide)) (fun _ hk => hk.2) (.int .i64 ((rd_T58 l0 x11_1).f0))) (fun _ hk => hk.2) (.string ((rd_T58 l0 x11_1).f1))) (fun _ hk => hk.2) (.int .i64 ((rd_T58 l0 x11_1).f2))) (fun _ hk => hk.2) (.int .i64 ((rd_T58 l0 x11_1).f3))) (fun _ hk => hk.2) (.int .i64 ((rd_T58 l0 x11_1).f4))) (fun _ hk => hk.2) (.bool ((rd_T58 l0 x11_1).f5))) (fun _ hk => hk.2) (.slice A651_6 ((rd_T58 l0 x11_1).f6).length c651_6)) (fun _ hk => trivial)))⟩; have n1_ : Aside0 (w12.heap[gb652]? = some (.cells #[.int .i64 ((rd_T58 l0 x11_1).f0), .string ((rd_T58 l0 x11_1).f1), .int .i64 ((rd_T58 l0 x11_1).f2), .int .i64 ((rd_T58 l0 x11_1).f3), .int .i64 ((rd_T58 l0 x11_1).f4), .bool ((rd_T58 l0 x11_1).f5), .slice A651_6 ((rd_T58 l0 x11_1).f6).length c651_6] 58 (0, 0))) := ⟨(by rw [hw]; exact (by exact put7 BK652.out))⟩; have n2_ : Aside0 (Below w.heap.size w w12) := ⟨(by rw [hw]; exact bA)⟩; clear hw; clear HO_3; clear BK652; clear HB; have HO_3 := n0_; have BK652 := n1_; have HB := n2_; clear n0_ n1_ n2_; obtain ⟨⟨hcz13_0, hcz13_1, hcz13_2, hcz13_3, hcz13_4, hcz13_5, hcz13_6⟩, hfz13_0, hfz13_1, hfz13_2, hfz13_3, hfz13_4, hfz13_5, hfz13_6⟩ := Own.c7 BK652.out) | ((with_reducible refine gate_builtin (b := .append) (xs := #[.tmp 18, .tmp 21]) rfl ?_); at_builtin; refine Kd.R_append Kd.string (w0 := w) w.heap.size rfl (.tmp 18) (.tmp 21) 59 9 (.string ⟨#[]⟩) 16 rfl Try.underlying59 info9 rfl (by decide) (by omega) u3 x3_1 ((rd_T58 l0 x11_1).f1) [.string ((rd_T58 l0 x11_1).f1)] (fun _ => True) (fun _ => False) rfl rfl ?aP (fun _ hk => hk.elim) ?aF ?aO ?aB ?aS ?aL ?_; (case aP => exact rfl); (case aB => exact bA); (case aF => exact (fun _ _ => trivial)); (case aO => exact (by (with_reducible repeat (first | apply Kd.R_alloc | apply Kd.R_drewN | apply Kd.R_drew)); exact HO_3.out)); (case aS => exact (below_size bA)); (case aL => have := LMc9.out; omega); intro v654 w14 ho hb hg hat; rw [← Ny653.out] at ho; have n0_ := Aside0.mk (blk_grown (g := gb652) (o := .cells #[.int .i64 ((rd_T58 l0 x11_1).f0), .string ((rd_T58 l0 x11_1).f1), .int .i64 ((rd_T58 l0 x11_1).f2), .int .i64 ((rd_T58 l0 x11_1).f3), .int .i64 ((rd_T58 l0 x11_1).f4), .bool ((rd_T58 l0 x11_1).f5), .slice A651_6 ((rd_T58 l0 x11_1).f6).length c651_6] 58 (0, 0)) (by (with_reducible repeat (first | refine blk_drewN ?_ _ | refine blk_drew ?_ | refine blk_alloc ?_ _)); exact BK652.out) hg (Kd.R_ne HO_3.out BK652.out (by decide))); have n1_ := Aside0.mk (hb); have n2_ := Aside0.mk (ho); clear BK652; clear HB; clear HO_3; have BK652 := n0_; have HB := n1_; have HO655 := n2_; clear n0_ n1_ n2_; clear ho hb hg hat))
         go_roundg k1
         case measure => have := HK1.out; omega
         case rel => exact ⟨(y653), (wrap64 (x11_1 + 1)), rF, H', ⟨by have := HK1.out; omega⟩, ⟨by (with_reducible repeat (first | apply Kd.R_alloc | apply Kd.R_drewN | apply Kd.R_drew)); exact HO655.out⟩, ⟨bA⟩⟩
        ·rw [if_neg c9] at H
         exact absurd H (by simp)
       ·rw [if_neg c8] at H
        have c8b0 : (((rd_T58 l0 x11_1).f0) == 0) = false := beq_eq_false_iff_ne.mpr c8
        have c8b1 : (((rd_T58 l0 x11_1).f0) != 0) = true := bne_iff_ne.mpr c8
        have H' := Aside0.mk H
        clear H
        have p651 : 0 ≤ (x11_1 : Int) := of_decide_eq_true (by assumption)
        have q651 : x11_1 < (l0.length : Int) := of_decide_eq_true (by assumption)
        obtain ⟨ad651, A651_6, c651_6, e651, hx651_0, hx651_1, hx651_2, hx651_3, hx651_4, hx651_5, hx651_6, hl651_6, hi651_6⟩ := at_T58 HR0.out x11_1 p651 q651
        cases e651
        replace hx651_0 := hxB HB.out hx651_0
        replace hx651_1 := hxB HB.out hx651_1
        replace hx651_2 := hxB HB.out hx651_2
        replace hx651_3 := hxB HB.out hx651_3
        replace hx651_4 := hxB HB.out hx651_4
        replace hx651_5 := hxB HB.out hx651_5
        replace hx651_6 := hxB HB.out hx651_6
        have HR651_6 := Aside0.mk hi651_6
        have HC651_6 := Aside0.mk hl651_6
        clear hi651_6 hl651_6
        replace p651 := eq_true p651
        replace q651 := eq_true q651
        go_wp2_with (first | ((with_reducible refine gate_dst (N := 5) rfl ?_); refine box_event ?hg (N := 5) ?hd (cs := #[.int .i64 0, .string (⟨#[]⟩ : ByteArray), .int .i64 0, .int .i64 0, .int .i64 0, .bool false, .slice none 0 0]) (t := 58) ?hr ?_; (case hd => rfl); (case hg => rfl); (case hr => first | (go_simp; done) | (go_simp; rfl)); intro gb652 hg w15 hbox hb; have n0_ := Aside0.mk (Kd.R_below (by (with_reducible repeat (first | apply Kd.R_alloc | apply Kd.R_drewN | apply Kd.R_drew)); exact HO_3.out) hb); have n1_ := Aside0.mk (below_step bA hb); have n2_ := Aside0.mk (hbox); have n3_ := Aside0.mk ((by rw [hg]; exact (below_size bA) : w.heap.size ≤ gb652)); have n4_ := Aside0.mk ((by rw [hg]; exact (below_size bA) : w.heap.size ≤ gb652)); clear HO_3; clear HB; have HO_3 := n0_; have HB := n1_; have BK652 := n2_; have GW652 := n3_; have GE652 := n4_; clear n0_ n1_ n2_ n3_ n4_; clear hb hbox hg; obtain ⟨⟨hcz16_0, hcz16_1, hcz16_2, hcz16_3, hcz16_4, hcz16_5, hcz16_6⟩, hfz16_0, hfz16_1, hfz16_2, hfz16_3, hfz16_4, hfz16_5, hfz16_6⟩ := Own.c7 BK652.out) | ((with_reducible refine gate_store (t := 58) (p := 5) rfl ?_); refine store_event (t := 58) (p := 5) (v := ?vo_w17) (w1 := (((((((w15.setCell ⟨gb652, 0, none⟩ (.int .i64 ((rd_T58 l0 x11_1).f0))).setCell ⟨gb652, 1, none⟩ (.string ((rd_T58 l0 x11_1).f1))).setCell ⟨gb652, 2, none⟩ (.int .i64 ((rd_T58 l0 x11_1).f2))).setCell ⟨gb652, 3, none⟩ (.int .i64 ((rd_T58 l0 x11_1).f3))).setCell ⟨gb652, 4, none⟩ (.int .i64 ((rd_T58 l0 x11_1).f4))).setCell ⟨gb652, 5, none⟩ (.bool ((rd_T58 l0 x11_1).f5))).setCell ⟨gb652, 6, none⟩ (.slice A651_6 ((rd_T58 l0 x11_1).f6).length c651_6))) ?hg ?ho ?hn ?hr ?_; (case ho => rfl); (case hg => rfl); (case hn => rfl); (case hr => first | (go_simp; done) | (go_simp; rfl)); intro w17 hw; have n0_ : Aside0 (Kd.R Kd.string 9 w17 w.heap.size (fun _ => True) u3 x3_1) := ⟨(by rw [hw]; exact (by (with_reducible repeat (first | apply Kd.R_alloc | apply Kd.R_drewN | apply Kd.R_drew)); exact Kd.R_mono (Kd.R_far (p := ⟨gb652, 6, none⟩) (Kd.R_far (p := ⟨gb652, 5, none⟩) (Kd.R_far (p := ⟨gb652, 4, none⟩) (Kd.R_far (p := ⟨gb652, 3, none⟩) (Kd.R_far (p := ⟨gb652, 2, none⟩) (Kd.R_far (p := ⟨gb652, 1, none⟩) (Kd.R_far (p := ⟨gb652, 0, none⟩) (Kd.R_types HO_3.out BK652.out (by decide)) (fun _ hk => hk.2) (.int .i64 ((rd_T58 l0 x11_1).f0))) (fun _ hk => hk.2) (.string ((rd_T58 l0 x11_1).f1))) (fun _ hk => hk.2) (.int .i64 ((rd_T58 l0 x11_1).f2))) (fun _ hk => hk.2) (.int .i64 ((rd_T58 l0 x11_1).f3))) (fun _ hk => hk.2) (.int .i64 ((rd_T58 l0 x11_1).f4))) (fun _ hk => hk.2) (.bool ((rd_T58 l0 x11_1).f5))) (fun _ hk => hk.2) (.slice A651_6 ((rd_T58 l0 x11_1).f6).length c651_6)) (fun _ hk => trivial)))⟩; have n1_ : Aside0 (w17.heap[gb652]? = some (.cells #[.int .i64 ((rd_T58 l0 x11_1).f0), .string ((rd_T58 l0 x11_1).f1), .int .i64 ((rd_T58 l0 x11_1).f2), .int .i64 ((rd_T58 l0 x11_1).f3), .int .i64 ((rd_T58 l0 x11_1).f4), .bool ((rd_T58 l0 x11_1).f5), .slice A651_6 ((rd_T58 l0 x11_1).f6).length c651_6] 58 (0, 0))) := ⟨(by rw [hw]; exact (by exact put7 BK652.out))⟩; have n2_ : Aside0 (Below w.heap.size w w17) := ⟨(by rw [hw]; exact bA)⟩; clear hw; clear HO_3; clear BK652; clear HB; have HO_3 := n0_; have BK652 := n1_; have HB := n2_; clear n0_ n1_ n2_; obtain ⟨⟨hcz18_0, hcz18_1, hcz18_2, hcz18_3, hcz18_4, hcz18_5, hcz18_6⟩, hfz18_0, hfz18_1, hfz18_2, hfz18_3, hfz18_4, hfz18_5, hfz18_6⟩ := Own.c7 BK652.out))
        go_roundg k1
        case measure => have := HK1.out; omega
        case rel => exact ⟨(x3_1), (wrap64 (x11_1 + 1)), rF, H', ⟨by have := HK1.out; omega⟩, ⟨by (with_reducible repeat (first | apply Kd.R_alloc | apply Kd.R_drewN | apply Kd.R_drew)); exact HO_3.out⟩, ⟨bA⟩⟩
      ·rw [if_neg c7] at H
       exact absurd H (by simp)
     ·rw [if_neg c6] at H
      exact absurd H (by simp)
    ·rw [if_neg c5] at H
     have c5b0 : decide (x11_1 < (l0.length : Int)) = false := decide_eq_false c5
     clear c5
     replace H := Option.bind_eq_some_iff.mp H
     obtain ⟨_, A190, H⟩ := H
     replace H : ((slices_Compact_string_string.f x3_1).bind fun t656 => (some t656)) = some r := H
     have A19 := Aside0.mk A190
     clear A190
     replace H := Option.bind_eq_some_iff.mp H
     obtain ⟨t656, A200, H⟩ := H
     replace H : (some t656) = some r := H
     have A20 := Aside0.mk A200
     clear A200
     obtain rfl := Option.some.inj H
     obtain ⟨Ao21, co21, eo21⟩ := Kd.R_slice HO_3.out
     subst eo21
     go_wp2_with (first | ((with_reducible refine gate_callee (f := 93) rfl ?_); refine goesL_ (some 25) rfl rfl Try.func93 (by kernel_rfl) rfl #[.slice Ao21 x3_1.length co21] rfl aL ?_; refine (sort_row w _ _ x3_1 HO_3.out HB.out (sort_len A19.out)).mono ?_; rintro e w22 ⟨rfl, ho0, hb⟩; refine ⟨_, rfl, ?_⟩; clear HO_3 HB; have HO_3 := Aside0.mk ho0; have HB := Aside0.mk hb; clear ho0 hb; (try clear hb); (try clear hb2); (try clear hk); (try clear hi)) | ((with_reducible refine gate_callee (f := 94) rfl ?_); refine goesL_ (some 27) rfl rfl Try.func94 (by kernel_rfl) rfl #[.slice Ao21 x3_1.length co21] rfl aL ?_; refine (compact_row w _ _ (sortB x3_1) HO_3.out HB.out (by rw [sortB_length]; exact sort_len A19.out)).mono ?_; rintro e w23 ⟨v657, rfl, ho0, hb⟩; refine ⟨_, rfl, ?_⟩; rw [Option.some.inj (show some (compactB (sortB x3_1)) = some t656 from A20.out)] at ho0; clear HO_3 HB; have HO658 := Aside0.mk ho0; have HB := Aside0.mk hb; clear ho0 hb; (try clear hb); (try clear hb2); (try clear hk); (try clear hi); (try clear ho0)))
     go_ret
     exact ⟨_, rE, by (with_reducible repeat (first | apply Kd.R_alloc | apply Kd.R_drewN | apply Kd.R_drew)); exact Kd.R_mono HO658.out (fun _ hk => trivial), bA⟩
 ·replace c3 := Bool.eq_false_iff.mpr c3
  subst c3
  have H1 : (some ([] : List ByteArray)) = some r := by rw [if_neg (show ¬ (false = true) by decide)] at H; exact H
  clear H
  have H := H1
  clear H1
  obtain rfl := Option.some.inj H
  go_enter Try.func45, Try.ntmps45
  go_wp2_with (first | ((with_reducible refine gate_callee (f := 34) rfl ?_); refine goesL_ (some 7) rfl rfl Try.func34 (by kernel_rfl) rfl #[.slice A0 l0.length c0] rfl aL ?_; (with_reducible refine (impl_PlanOk.calls k _ _ l0 false _ ?side1 ?side2 A2.out).mono ?_); (case side1 => exact cA); (case side2 => exact HC0.out); rintro e w24 ⟨rfl, hb⟩; refine ⟨_, rfl, ?_⟩; have n0_ := Aside0.mk (below_step bA hb); clear HB; have HB := n0_; clear n0_; (try clear hb); (try clear hb2); (try clear hk); (try clear hi)))
  go_ret
  exact ⟨.slice none 0 0, rE, by first | exact Kd.R_nil _ _ _ _ _ | exact Kd.N_nil _ _ _ _ _ | exact Kd.V_nil _ _ _ _ _ | exact Kd.Q_nil _ _ _ _ _ | exact Kd.S_nil _ _ _ _ _, bA⟩

-- NOT PRINTED: function 6 (laws_FnParts)

end Go.Proofs.Ytbdfidnldaghbaa.Q
