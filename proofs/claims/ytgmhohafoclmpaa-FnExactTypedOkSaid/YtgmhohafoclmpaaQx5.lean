/- The machine side of a law, written by a program of this session over the translation: for each Go function a Lean function with the same answers, and the proof that the Go code comes to them. -/
import Derived.Test.YtgmhohafoclmpaaQx0
import Derived.Test.YtgmhohafoclmpaaQx1
namespace Go.Proofs.Ytgmhohafoclmpaa.Q
open Go.RowKit Go.Proofs.Ytgmhohafoclmpaa.Own Go.Proofs.YtgmhohafoclmpaaW.PrintWords Go.Proofs.YtgmhohafoclmpaaW.PrintLast Go.Proofs.YtgmhohafoclmpaaW.PrintMore
attribute [local go_sem] max2_int min2_int max_two min_two max_three min_three max_four min_four   -- for this text's walks alone
set_option linter.unusedVariables false
set_option linter.unusedSimpArgs false

/-! ### spec_l03Width: function 39 -/
mutual
def spec_l03Width.l0 : Nat → List (S60) → List (S62) → List Int → List Int → Int → Int → ByteArray → Int → Int → Int → Bool → List Int → Option (Int)
 | 0, _, _, _, _, _, _, _, _, _, _, _, _ => none
 | k + 1, x0, x1, x8, x9, x10, x160000, x160001, x160002, x160003, x160004, x160005, x160006 => if x10 < (x9.length : Int) then (if 0 ≤ x10 then ((spec_l03Width.f k x0 x1 (rd x9 x10)).bind fun t167 => (if t167 < 0 then (some (-1)) else (if x8.length < 17592186044416 then (spec_l03Width.l0 k x0 x1 (x8 ++ [t167]) x9 (wrap64 (x10 + 1)) x160000 x160001 x160002 x160003 x160004 x160005 x160006) else (none)))) else (none)) else (if x160000 = 0 then ((spec_l03Find.f k x0 x160001).bind fun t171 => (if t171 < 0 then (some (-1)) else (if 0 ≤ t171 then (if t171 < (x0.length : Int) then (some ((rd_T60 x0 t171).f1)) else (none)) else (none)))) else (if x160000 = 1 then (spec_l03Width.j1 k x8 x160000 (x160000 == 1) x160000 x160001 x160002 x160003 x160004 x160005 x160006) else (spec_l03Width.j1 k x8 x160000 (x160000 == 5) x160000 x160001 x160002 x160003 x160004 x160005 x160006)))
def spec_l03Width.j1 : Nat → List Int → Int → Bool → Int → ByteArray → Int → Int → Int → Bool → List Int → Option (Int)
 | 0, _, _, _, _, _, _, _, _, _, _ => none
 | k + 1, x8, x42, x56, x160000, x160001, x160002, x160003, x160004, x160005, x160006 => if x56 = true then (if 0 < (x8.length : Int) then (if x160002 ≥ (rd x8 0) then (some (-1)) else (some (rd x8 0))) else (none)) else (if x42 = 2 then (spec_l03Width.l1 k x8 0 x160000 x160001 x160002 x160003 x160004 x160005 x160006) else (if x42 = 3 then (if 0 < (x8.length : Int) then (if x160002 ≥ (rd x8 0) then (some (-1)) else (if 1 < (x8.length : Int) then (if x160004 ≥ (rd x8 1) then (some (-1)) else (if (wrap64 ((rd x8 0) + (rd x8 1))) > 64 then (some (-1)) else (some (wrap64 ((rd x8 0) + (rd x8 1)))))) else (none))) else (none)) else (if x42 = 4 then (if 0 < (x8.length : Int) then (if 1 < (x8.length : Int) then (if (rd x8 0) = (rd x8 1) then (some (rd x8 0)) else (some (-1))) else (none)) else (none)) else (if 0 < (x8.length : Int) then (some (rd x8 0)) else (none)))))
def spec_l03Width.l1 : Nat → List Int → Int → Int → ByteArray → Int → Int → Int → Bool → List Int → Option (Int)
 | 0, _, _, _, _, _, _, _, _, _ => none
 | k + 1, x8, x13, x160000, x160001, x160002, x160003, x160004, x160005, x160006 => if x13 < (x160006.length : Int) then (if 0 ≤ x13 then (if 0 < (x8.length : Int) then (if (rd x160006 x13) ≥ (rd x8 0) then (some (-1)) else (spec_l03Width.l1 k x8 (wrap64 (x13 + 1)) x160000 x160001 x160002 x160003 x160004 x160005 x160006)) else (none)) else (none)) else (some (x160006.length : Int))
def spec_l03Width.f : Nat → List (S60) → List (S62) → Int → Option (Int)
 | 0, _, _, _ => none
 | k + 1, l0, l1, a2 => if 0 ≤ a2 then (if a2 < (l1.length : Int) then ((spec_l02Kids.f k l1 a2).bind fun t163 => (spec_l03Width.l0 k l0 l1 (([] : List Int)) t163 0 ((rd_T62 l1 a2).f0) ((rd_T62 l1 a2).f1) ((rd_T62 l1 a2).f2) ((rd_T62 l1 a2).f3) ((rd_T62 l1 a2).f4) ((rd_T62 l1 a2).f5) ((rd_T62 l1 a2).f6))) else (none)) else (none)
end
theorem spec_l03Width.mono_l : ∀ k, (∀ y0 y1 y2, LeO (spec_l03Width.f k y0 y1 y2) (spec_l03Width.f (k + 1) y0 y1 y2)) ∧ (∀ y0 y1 y2 y3 y4 y5 y6 y7 y8 y9 y10 y11, LeO (spec_l03Width.l0 k y0 y1 y2 y3 y4 y5 y6 y7 y8 y9 y10 y11) (spec_l03Width.l0 (k + 1) y0 y1 y2 y3 y4 y5 y6 y7 y8 y9 y10 y11)) ∧ (∀ y0 y1 y2 y3 y4 y5 y6 y7 y8 y9, LeO (spec_l03Width.j1 k y0 y1 y2 y3 y4 y5 y6 y7 y8 y9) (spec_l03Width.j1 (k + 1) y0 y1 y2 y3 y4 y5 y6 y7 y8 y9)) ∧ (∀ y0 y1 y2 y3 y4 y5 y6 y7 y8, LeO (spec_l03Width.l1 k y0 y1 y2 y3 y4 y5 y6 y7 y8) (spec_l03Width.l1 (k + 1) y0 y1 y2 y3 y4 y5 y6 y7 y8))
 | 0 => ⟨fun _ _ _ r h => by simp [spec_l03Width.f] at h, fun _ _ _ _ _ _ _ _ _ _ _ _ r h => by simp [spec_l03Width.l0] at h, fun _ _ _ _ _ _ _ _ _ _ r h => by simp [spec_l03Width.j1] at h, fun _ _ _ _ _ _ _ _ _ r h => by simp [spec_l03Width.l1] at h⟩
 | k + 1 => by
  obtain ⟨ih0, ih1, ih2, ih3⟩ := spec_l03Width.mono_l k
  refine ⟨?_, ?_, ?_, ?_⟩ <;> intros <;> (first | unfold spec_l03Width.f | unfold spec_l03Width.l0 | unfold spec_l03Width.j1 | unfold spec_l03Width.l1)
  all_goals repeat' first
  | (with_reducible exact ih0 _ _ _)
  | (with_reducible exact ih1 _ _ _ _ _ _ _ _ _ _ _ _)
  | (with_reducible exact ih2 _ _ _ _ _ _ _ _ _ _)
  | (with_reducible exact ih3 _ _ _ _ _ _ _ _ _)
  | (with_reducible exact spec_l02Kids.mono _ _ _)
  | (with_reducible exact spec_l03Find.mono _ _ _)
  | (with_reducible exact LeO.refl _)
  | (with_reducible exact LeO.none _)
  | (with_reducible refine LeO.ite ?_ ?_)
  | (with_reducible refine LeO.bind ?_ (fun _ => ?_))
  | exact ih0 _ _ _
  | exact ih1 _ _ _ _ _ _ _ _ _ _ _ _
  | exact ih2 _ _ _ _ _ _ _ _ _ _
  | exact ih3 _ _ _ _ _ _ _ _ _
  | exact spec_l02Kids.mono _ _ _
  | exact spec_l03Find.mono _ _ _
  | exact LeO.none _
  | refine LeO.ite ?_ ?_
  | refine LeO.bind ?_ (fun _ => ?_)
theorem spec_l03Width.mono : ∀ a0 a1 a2 k, LeO (spec_l03Width.f k a0 a1 a2) (spec_l03Width.f (k + 1) a0 a1 a2) := by
 intro a0 a1 a2 k
 obtain ⟨ih0, ih1, ih2, ih3⟩ := spec_l03Width.mono_l k
 exact ih0 a0 a1 a2
set_option maxHeartbeats 8000000 in
set_option maxRecDepth 100000 in
theorem spec_l03Width.calls (k : Nat) : ∀ (A0 : Option Addr) (c0 : Nat) (l0 : List (S60)) (A1 : Option Addr) (c1 : Nat) (l1 : List (S62)) (a2 : Int) (r : Int) (w : World) (hr0 : Kd.C k60 w A0 l0.length l0) (hc0 : l0.length ≤ c0) (hr1 : Kd.C k62 w A1 l1.length l1) (hc1 : l1.length ≤ c1) (h : spec_l03Width.f k l0 l1 a2 = some r),
  Calls Try.prog 39 #[.slice A0 l0.length c0, .slice A1 l1.length c1, .int .i64 a2] w fun e w' => e = .returned (.int .i64 r) ∧ Below w.heap.size w w' := by
 induction k using Nat.strongRecOn with
 | _ k ih =>
 intro A0 c0 l0 A1 c1 l1 a2 r w hr0 hc0 hr1 hc1 h
 cases k with
 | zero => exact absurd h (by simp [spec_l03Width.f])
 | succ k =>
 simp only [spec_l03Width.f] at h
 have hu62 := Try.underlying62
 have HR0 := Aside0.mk hr0
 have HC0 := Aside0.mk hc0
 clear hr0 hc0
 have HR1 := Aside0.mk hr1
 have HC1 := Aside0.mk hc1
 clear hr1 hc1
 have HB := Aside0.mk (Below.refl w.heap.size w)
 have H : (if 0 ≤ a2 then (if a2 < (l1.length : Int) then ((spec_l02Kids.f k l1 a2).bind fun t163 => (spec_l03Width.l0 k l0 l1 (([] : List Int)) t163 0 ((rd_T62 l1 a2).f0) ((rd_T62 l1 a2).f1) ((rd_T62 l1 a2).f2) ((rd_T62 l1 a2).f3) ((rd_T62 l1 a2).f4) ((rd_T62 l1 a2).f5) ((rd_T62 l1 a2).f6))) else (none)) else (none)) = some r := h
 clear h
 by_cases c4 : 0 ≤ a2
 ·rw [if_pos c4] at H
  have c4b0 : decide (0 ≤ a2) = true := decide_eq_true c4
  clear c4
  by_cases c5 : a2 < (l1.length : Int)
  ·rw [if_pos c5] at H
   have c5b0 : decide (a2 < (l1.length : Int)) = true := decide_eq_true c5
   clear c5
   obtain ⟨y160, hy160⟩ : ∃ y_ : List Int, y_ = (([] : List Int)) := ⟨_, rfl⟩
   replace H : ((spec_l02Kids.f k l1 a2).bind fun t163 => (spec_l03Width.l0 k l0 l1 y160 t163 0 ((rd_T62 l1 a2).f0) ((rd_T62 l1 a2).f1) ((rd_T62 l1 a2).f2) ((rd_T62 l1 a2).f3) ((rd_T62 l1 a2).f4) ((rd_T62 l1 a2).f5) ((rd_T62 l1 a2).f6))) = some r := by first | (rw [hy160]; with_reducible exact H) | (have H2_ := (Option.bind_some _ _).symm.trans H; rw [hy160]; with_reducible exact H2_) | (have H2_ := (Option.bind_some _ _).symm.trans H; with_reducible exact H2_) | with_reducible exact H | (rw [hy160]; exact H) | exact H
   have Ny160 := Aside0.mk hy160
   clear hy160
   replace H := Option.bind_eq_some_iff.mp H
   obtain ⟨t163, A60, H⟩ := H
   replace H : (spec_l03Width.l0 k l0 l1 y160 t163 0 ((rd_T62 l1 a2).f0) ((rd_T62 l1 a2).f1) ((rd_T62 l1 a2).f2) ((rd_T62 l1 a2).f3) ((rd_T62 l1 a2).f4) ((rd_T62 l1 a2).f5) ((rd_T62 l1 a2).f6)) = some r := H
   have A6 := Aside0.mk A60
   clear A60
   have H' := Aside0.mk H
   clear H
   have p158 : 0 ≤ (a2 : Int) := of_decide_eq_true (by assumption)
   have q158 : a2 < (l1.length : Int) := of_decide_eq_true (by assumption)
   obtain ⟨ad158, A158_6, c158_6, e158, hx158_0, hx158_1, hx158_2, hx158_3, hx158_4, hx158_5, hx158_6, hl158_6, hi158_6⟩ := at_T62 HR1.out a2 p158 q158
   cases e158
   have HR158_6 := Aside0.mk hi158_6
   have HC158_6 := Aside0.mk hl158_6
   clear hi158_6 hl158_6
   replace p158 := eq_true p158
   replace q158 := eq_true q158
   go_enter Try.func39, Try.ntmps39
   go_wp2_with (first | ((with_reducible refine gate_dst (N := 7) rfl ?_); refine box_event ?hg (N := 7) ?hd (cs := #[.int .i64 0, .string (⟨#[]⟩ : ByteArray), .int .i64 0, .int .i64 0, .int .i64 0, .bool false, .slice none 0 0]) (t := 62) ?hr ?_; (case hd => rfl); (case hg => rfl); (case hr => first | (go_simp; done) | (go_simp; rfl)); intro gb159 hg w7 hbox hb; have n0_ := Aside0.mk (below_step bA hb); have n1_ := Aside0.mk (hbox); have n2_ := Aside0.mk ((by rw [hg]; exact (below_size bA) : w.heap.size ≤ gb159)); have n3_ := Aside0.mk ((by rw [hg]; exact (below_size bA) : w.heap.size ≤ gb159)); clear HB; have HB := n0_; have BK159 := n1_; have GW159 := n2_; have GE159 := n3_; clear n0_ n1_ n2_ n3_; clear hb hbox hg; obtain ⟨⟨hcz8_0, hcz8_1, hcz8_2, hcz8_3, hcz8_4, hcz8_5, hcz8_6⟩, hfz8_0, hfz8_1, hfz8_2, hfz8_3, hfz8_4, hfz8_5, hfz8_6⟩ := c7 BK159.out) | ((with_reducible refine gate_store (t := 62) (p := 7) rfl ?_); (try (rw [drewN_self w7]; generalize hq_ : World.drewN w7 _ = w7; have n0_ := Aside0.mk (blk_at hq_ BK159.out); have n1_ := Aside0.mk (below_at hq_ HB.out); clear hq_ BK159 HB; have BK159 := n0_; have HB := n1_; clear n0_ n1_)); refine store_event (t := 62) (p := 7) (v := ?vo_w9) (w1 := (((((((w7.setCell ⟨gb159, 0, none⟩ (.int .i64 ((rd_T62 l1 a2).f0))).setCell ⟨gb159, 1, none⟩ (.string ((rd_T62 l1 a2).f1))).setCell ⟨gb159, 2, none⟩ (.int .i64 ((rd_T62 l1 a2).f2))).setCell ⟨gb159, 3, none⟩ (.int .i64 ((rd_T62 l1 a2).f3))).setCell ⟨gb159, 4, none⟩ (.int .i64 ((rd_T62 l1 a2).f4))).setCell ⟨gb159, 5, none⟩ (.bool ((rd_T62 l1 a2).f5))).setCell ⟨gb159, 6, none⟩ (.slice A158_6 ((rd_T62 l1 a2).f6).length c158_6))) ?hg ?ho ?hn ?hr ?_; (case ho => rfl); (case hg => rfl); (case hn => rfl); (case hr => first | (go_simp; done) | (go_simp; rfl)); intro w9 hw; have n0_ : Aside0 (w9.heap[gb159]? = some (.cells #[.int .i64 ((rd_T62 l1 a2).f0), .string ((rd_T62 l1 a2).f1), .int .i64 ((rd_T62 l1 a2).f2), .int .i64 ((rd_T62 l1 a2).f3), .int .i64 ((rd_T62 l1 a2).f4), .bool ((rd_T62 l1 a2).f5), .slice A158_6 ((rd_T62 l1 a2).f6).length c158_6] 62 (0, 0))) := ⟨(by rw [hw]; exact (by exact put7 BK159.out))⟩; have n1_ : Aside0 (Below w.heap.size w w9) := ⟨(by rw [hw]; exact bA)⟩; clear hw; clear BK159; clear HB; have BK159 := n0_; have HB := n1_; clear n0_ n1_) | ((with_reducible refine gate_dst (N := 18) rfl ?_); refine Kd.R_lit (Kd.int .i64) _ 3 ?hg (N := 18) ?hd (xs := ([] : List Int)) (inner := []) (ok := fun _ => True) (okp := fun _ => True) ?hr ?hp (fun _ hk => hk) trivial (Below.refl _ _) (Nat.le_refl _) (by simp) ?_; (case hd => rfl); (case hg => rfl); (case hr => first | (go_simp; done) | (go_simp; rfl)); (case hp => exact (Reps.none _ _)); intro v161 w10 ho11 hb hg_ hnew_; clear hg_ hnew_; (first | rw [← Ny160.out] at ho11 | (simp only [Int.reduceToNat] at ho11; rw [← Ny160.out] at ho11)); have n0_ := Aside0.mk (Kd.R_lower ho11 (below_size bA)); have n1_ := Aside0.mk (blk_below (g := gb159) (o := .cells #[.int .i64 ((rd_T62 l1 a2).f0), .string ((rd_T62 l1 a2).f1), .int .i64 ((rd_T62 l1 a2).f2), .int .i64 ((rd_T62 l1 a2).f3), .int .i64 ((rd_T62 l1 a2).f4), .bool ((rd_T62 l1 a2).f5), .slice A158_6 ((rd_T62 l1 a2).f6).length c158_6] 62 (0, 0)) (by (with_reducible repeat (first | refine blk_drewN ?_ _ | refine blk_drew ?_ | refine blk_alloc ?_ _)); exact BK159.out) hb); have n2_ := Aside0.mk (below_step bA hb); clear BK159; clear HB; have HO162 := n0_; have BK159 := n1_; have HB := n2_; clear n0_ n1_ n2_; clear hb ho11) | (go_at_call 71; (with_reducible refine (spec_l02Kids.calls k _ _ l1 a2 t163 _ ?side1 ?side2 A6.out).mono ?_); (case side1 => exact cA); (case side2 => exact HC1.out); rintro e w12 ⟨v164, rfl, ho0, hb⟩; have n0_ := Aside0.mk (Kd.R_elder' (by (with_reducible repeat (first | apply Kd.R_alloc | apply Kd.R_drewN | apply Kd.R_drew)); exact HO162.out) (Kd.R_base ho0) hb); have n1_ := Aside0.mk (Kd.R_lower (Kd.R_new' ho0 (Kd.R_lt (by (with_reducible repeat (first | apply Kd.R_alloc | apply Kd.R_drewN | apply Kd.R_drew)); exact HO162.out))) (below_size bA)); have n2_ := Aside0.mk (blk_below (g := gb159) (o := .cells #[.int .i64 ((rd_T62 l1 a2).f0), .string ((rd_T62 l1 a2).f1), .int .i64 ((rd_T62 l1 a2).f2), .int .i64 ((rd_T62 l1 a2).f3), .int .i64 ((rd_T62 l1 a2).f4), .bool ((rd_T62 l1 a2).f5), .slice A158_6 ((rd_T62 l1 a2).f6).length c158_6] 62 (0, 0)) (by (with_reducible repeat (first | refine blk_drewN ?_ _ | refine blk_drew ?_ | refine blk_alloc ?_ _)); exact BK159.out) hb); have n3_ := Aside0.mk (below_step bA hb); clear HO162; clear BK159; clear HB; have HO162 := n0_; have HO165 := n1_; have BK159 := n2_; have HB := n3_; clear n0_ n1_ n2_ n3_; (try clear hb); (try clear hb2); (try clear hk); (try clear hi); (try clear ho0)))
   repeat (go_quiet (first | ((with_reducible refine gate_dst (N := 7) rfl ?_); refine box_event ?hg (N := 7) ?hd (cs := #[.int .i64 0, .string (⟨#[]⟩ : ByteArray), .int .i64 0, .int .i64 0, .int .i64 0, .bool false, .slice none 0 0]) (t := 62) ?hr ?_; (case hd => rfl); (case hg => rfl); (case hr => first | (go_simp; done) | (go_simp; rfl)); intro gb159 hg w7 hbox hb; have n0_ := Aside0.mk (below_step bA hb); have n1_ := Aside0.mk (hbox); have n2_ := Aside0.mk ((by rw [hg]; exact (below_size bA) : w.heap.size ≤ gb159)); have n3_ := Aside0.mk ((by rw [hg]; exact (below_size bA) : w.heap.size ≤ gb159)); clear HB; have HB := n0_; have BK159 := n1_; have GW159 := n2_; have GE159 := n3_; clear n0_ n1_ n2_ n3_; clear hb hbox hg; obtain ⟨⟨hcz8_0, hcz8_1, hcz8_2, hcz8_3, hcz8_4, hcz8_5, hcz8_6⟩, hfz8_0, hfz8_1, hfz8_2, hfz8_3, hfz8_4, hfz8_5, hfz8_6⟩ := c7 BK159.out) | ((with_reducible refine gate_store (t := 62) (p := 7) rfl ?_); (try (rw [drewN_self w7]; generalize hq_ : World.drewN w7 _ = w7; have n0_ := Aside0.mk (blk_at hq_ BK159.out); have n1_ := Aside0.mk (below_at hq_ HB.out); clear hq_ BK159 HB; have BK159 := n0_; have HB := n1_; clear n0_ n1_)); refine store_event (t := 62) (p := 7) (v := ?vo_w9) (w1 := (((((((w7.setCell ⟨gb159, 0, none⟩ (.int .i64 ((rd_T62 l1 a2).f0))).setCell ⟨gb159, 1, none⟩ (.string ((rd_T62 l1 a2).f1))).setCell ⟨gb159, 2, none⟩ (.int .i64 ((rd_T62 l1 a2).f2))).setCell ⟨gb159, 3, none⟩ (.int .i64 ((rd_T62 l1 a2).f3))).setCell ⟨gb159, 4, none⟩ (.int .i64 ((rd_T62 l1 a2).f4))).setCell ⟨gb159, 5, none⟩ (.bool ((rd_T62 l1 a2).f5))).setCell ⟨gb159, 6, none⟩ (.slice A158_6 ((rd_T62 l1 a2).f6).length c158_6))) ?hg ?ho ?hn ?hr ?_; (case ho => rfl); (case hg => rfl); (case hn => rfl); (case hr => first | (go_simp; done) | (go_simp; rfl)); intro w9 hw; have n0_ : Aside0 (w9.heap[gb159]? = some (.cells #[.int .i64 ((rd_T62 l1 a2).f0), .string ((rd_T62 l1 a2).f1), .int .i64 ((rd_T62 l1 a2).f2), .int .i64 ((rd_T62 l1 a2).f3), .int .i64 ((rd_T62 l1 a2).f4), .bool ((rd_T62 l1 a2).f5), .slice A158_6 ((rd_T62 l1 a2).f6).length c158_6] 62 (0, 0))) := ⟨(by rw [hw]; exact (by exact put7 BK159.out))⟩; have n1_ : Aside0 (Below w.heap.size w w9) := ⟨(by rw [hw]; exact bA)⟩; clear hw; clear BK159; clear HB; have BK159 := n0_; have HB := n1_; clear n0_ n1_) | ((with_reducible refine gate_dst (N := 18) rfl ?_); refine Kd.R_lit (Kd.int .i64) _ 3 ?hg (N := 18) ?hd (xs := ([] : List Int)) (inner := []) (ok := fun _ => True) (okp := fun _ => True) ?hr ?hp (fun _ hk => hk) trivial (Below.refl _ _) (Nat.le_refl _) (by simp) ?_; (case hd => rfl); (case hg => rfl); (case hr => first | (go_simp; done) | (go_simp; rfl)); (case hp => exact (Reps.none _ _)); intro v161 w10 ho11 hb hg_ hnew_; clear hg_ hnew_; (first | rw [← Ny160.out] at ho11 | (simp only [Int.reduceToNat] at ho11; rw [← Ny160.out] at ho11)); have n0_ := Aside0.mk (Kd.R_lower ho11 (below_size bA)); have n1_ := Aside0.mk (blk_below (g := gb159) (o := .cells #[.int .i64 ((rd_T62 l1 a2).f0), .string ((rd_T62 l1 a2).f1), .int .i64 ((rd_T62 l1 a2).f2), .int .i64 ((rd_T62 l1 a2).f3), .int .i64 ((rd_T62 l1 a2).f4), .bool ((rd_T62 l1 a2).f5), .slice A158_6 ((rd_T62 l1 a2).f6).length c158_6] 62 (0, 0)) (by (with_reducible repeat (first | refine blk_drewN ?_ _ | refine blk_drew ?_ | refine blk_alloc ?_ _)); exact BK159.out) hb); have n2_ := Aside0.mk (below_step bA hb); clear BK159; clear HB; have HO162 := n0_; have BK159 := n1_; have HB := n2_; clear n0_ n1_ n2_; clear hb ho11) | (go_at_call 71; (with_reducible refine (spec_l02Kids.calls k _ _ l1 a2 t163 _ ?side1 ?side2 A6.out).mono ?_); (case side1 => exact cA); (case side2 => exact HC1.out); rintro e w12 ⟨v164, rfl, ho0, hb⟩; have n0_ := Aside0.mk (Kd.R_elder' (by (with_reducible repeat (first | apply Kd.R_alloc | apply Kd.R_drewN | apply Kd.R_drew)); exact HO162.out) (Kd.R_base ho0) hb); have n1_ := Aside0.mk (Kd.R_lower (Kd.R_new' ho0 (Kd.R_lt (by (with_reducible repeat (first | apply Kd.R_alloc | apply Kd.R_drewN | apply Kd.R_drew)); exact HO162.out))) (below_size bA)); have n2_ := Aside0.mk (blk_below (g := gb159) (o := .cells #[.int .i64 ((rd_T62 l1 a2).f0), .string ((rd_T62 l1 a2).f1), .int .i64 ((rd_T62 l1 a2).f2), .int .i64 ((rd_T62 l1 a2).f3), .int .i64 ((rd_T62 l1 a2).f4), .bool ((rd_T62 l1 a2).f5), .slice A158_6 ((rd_T62 l1 a2).f6).length c158_6] 62 (0, 0)) (by (with_reducible repeat (first | refine blk_drewN ?_ _ | refine blk_drew ?_ | refine blk_alloc ?_ _)); exact BK159.out) hb); have n3_ := Aside0.mk (below_step bA hb); clear HO162; clear BK159; clear HB; have HO162 := n0_; have HO165 := n1_; have BK159 := n2_; have HB := n3_; clear n0_ n1_ n2_ n3_; (try clear hb); (try clear hb2); (try clear hk); (try clear hi); (try clear ho0))); try go_wp2_with (first | ((with_reducible refine gate_dst (N := 7) rfl ?_); refine box_event ?hg (N := 7) ?hd (cs := #[.int .i64 0, .string (⟨#[]⟩ : ByteArray), .int .i64 0, .int .i64 0, .int .i64 0, .bool false, .slice none 0 0]) (t := 62) ?hr ?_; (case hd => rfl); (case hg => rfl); (case hr => first | (go_simp; done) | (go_simp; rfl)); intro gb159 hg w7 hbox hb; have n0_ := Aside0.mk (below_step bA hb); have n1_ := Aside0.mk (hbox); have n2_ := Aside0.mk ((by rw [hg]; exact (below_size bA) : w.heap.size ≤ gb159)); have n3_ := Aside0.mk ((by rw [hg]; exact (below_size bA) : w.heap.size ≤ gb159)); clear HB; have HB := n0_; have BK159 := n1_; have GW159 := n2_; have GE159 := n3_; clear n0_ n1_ n2_ n3_; clear hb hbox hg; obtain ⟨⟨hcz8_0, hcz8_1, hcz8_2, hcz8_3, hcz8_4, hcz8_5, hcz8_6⟩, hfz8_0, hfz8_1, hfz8_2, hfz8_3, hfz8_4, hfz8_5, hfz8_6⟩ := c7 BK159.out) | ((with_reducible refine gate_store (t := 62) (p := 7) rfl ?_); (try (rw [drewN_self w7]; generalize hq_ : World.drewN w7 _ = w7; have n0_ := Aside0.mk (blk_at hq_ BK159.out); have n1_ := Aside0.mk (below_at hq_ HB.out); clear hq_ BK159 HB; have BK159 := n0_; have HB := n1_; clear n0_ n1_)); refine store_event (t := 62) (p := 7) (v := ?vo_w9) (w1 := (((((((w7.setCell ⟨gb159, 0, none⟩ (.int .i64 ((rd_T62 l1 a2).f0))).setCell ⟨gb159, 1, none⟩ (.string ((rd_T62 l1 a2).f1))).setCell ⟨gb159, 2, none⟩ (.int .i64 ((rd_T62 l1 a2).f2))).setCell ⟨gb159, 3, none⟩ (.int .i64 ((rd_T62 l1 a2).f3))).setCell ⟨gb159, 4, none⟩ (.int .i64 ((rd_T62 l1 a2).f4))).setCell ⟨gb159, 5, none⟩ (.bool ((rd_T62 l1 a2).f5))).setCell ⟨gb159, 6, none⟩ (.slice A158_6 ((rd_T62 l1 a2).f6).length c158_6))) ?hg ?ho ?hn ?hr ?_; (case ho => rfl); (case hg => rfl); (case hn => rfl); (case hr => first | (go_simp; done) | (go_simp; rfl)); intro w9 hw; have n0_ : Aside0 (w9.heap[gb159]? = some (.cells #[.int .i64 ((rd_T62 l1 a2).f0), .string ((rd_T62 l1 a2).f1), .int .i64 ((rd_T62 l1 a2).f2), .int .i64 ((rd_T62 l1 a2).f3), .int .i64 ((rd_T62 l1 a2).f4), .bool ((rd_T62 l1 a2).f5), .slice A158_6 ((rd_T62 l1 a2).f6).length c158_6] 62 (0, 0))) := ⟨(by rw [hw]; exact (by exact put7 BK159.out))⟩; have n1_ : Aside0 (Below w.heap.size w w9) := ⟨(by rw [hw]; exact bA)⟩; clear hw; clear BK159; clear HB; have BK159 := n0_; have HB := n1_; clear n0_ n1_) | ((with_reducible refine gate_dst (N := 18) rfl ?_); refine Kd.R_lit (Kd.int .i64) _ 3 ?hg (N := 18) ?hd (xs := ([] : List Int)) (inner := []) (ok := fun _ => True) (okp := fun _ => True) ?hr ?hp (fun _ hk => hk) trivial (Below.refl _ _) (Nat.le_refl _) (by simp) ?_; (case hd => rfl); (case hg => rfl); (case hr => first | (go_simp; done) | (go_simp; rfl)); (case hp => exact (Reps.none _ _)); intro v161 w10 ho11 hb hg_ hnew_; clear hg_ hnew_; (first | rw [← Ny160.out] at ho11 | (simp only [Int.reduceToNat] at ho11; rw [← Ny160.out] at ho11)); have n0_ := Aside0.mk (Kd.R_lower ho11 (below_size bA)); have n1_ := Aside0.mk (blk_below (g := gb159) (o := .cells #[.int .i64 ((rd_T62 l1 a2).f0), .string ((rd_T62 l1 a2).f1), .int .i64 ((rd_T62 l1 a2).f2), .int .i64 ((rd_T62 l1 a2).f3), .int .i64 ((rd_T62 l1 a2).f4), .bool ((rd_T62 l1 a2).f5), .slice A158_6 ((rd_T62 l1 a2).f6).length c158_6] 62 (0, 0)) (by (with_reducible repeat (first | refine blk_drewN ?_ _ | refine blk_drew ?_ | refine blk_alloc ?_ _)); exact BK159.out) hb); have n2_ := Aside0.mk (below_step bA hb); clear BK159; clear HB; have HO162 := n0_; have BK159 := n1_; have HB := n2_; clear n0_ n1_ n2_; clear hb ho11) | (go_at_call 71; (with_reducible refine (spec_l02Kids.calls k _ _ l1 a2 t163 _ ?side1 ?side2 A6.out).mono ?_); (case side1 => exact cA); (case side2 => exact HC1.out); rintro e w12 ⟨v164, rfl, ho0, hb⟩; have n0_ := Aside0.mk (Kd.R_elder' (by (with_reducible repeat (first | apply Kd.R_alloc | apply Kd.R_drewN | apply Kd.R_drew)); exact HO162.out) (Kd.R_base ho0) hb); have n1_ := Aside0.mk (Kd.R_lower (Kd.R_new' ho0 (Kd.R_lt (by (with_reducible repeat (first | apply Kd.R_alloc | apply Kd.R_drewN | apply Kd.R_drew)); exact HO162.out))) (below_size bA)); have n2_ := Aside0.mk (blk_below (g := gb159) (o := .cells #[.int .i64 ((rd_T62 l1 a2).f0), .string ((rd_T62 l1 a2).f1), .int .i64 ((rd_T62 l1 a2).f2), .int .i64 ((rd_T62 l1 a2).f3), .int .i64 ((rd_T62 l1 a2).f4), .bool ((rd_T62 l1 a2).f5), .slice A158_6 ((rd_T62 l1 a2).f6).length c158_6] 62 (0, 0)) (by (with_reducible repeat (first | refine blk_drewN ?_ _ | refine blk_drew ?_ | refine blk_alloc ?_ _)); exact BK159.out) hb); have n3_ := Aside0.mk (below_step bA hb); clear HO162; clear BK159; clear HB; have HO162 := n0_; have HO165 := n1_; have BK159 := n2_; have HB := n3_; clear n0_ n1_ n2_ n3_; (try clear hb); (try clear hb2); (try clear hk); (try clear hi); (try clear ho0))))
   go_loopg [8, 10] k (fun kq v8 v10 w' => ∃ (x8_1 : List Int) (x10_1 : Int), v10 = .int .i64 x10_1 ∧ Aside0 (spec_l03Width.l0 kq l0 l1 x8_1 t163 x10_1 ((rd_T62 l1 a2).f0) ((rd_T62 l1 a2).f1) ((rd_T62 l1 a2).f2) ((rd_T62 l1 a2).f3) ((rd_T62 l1 a2).f4) ((rd_T62 l1 a2).f5) ((rd_T62 l1 a2).f6) = some r) ∧ Aside0 (kq ≤ k) ∧ Aside0 (Kd.R (Kd.int .i64) 3 w' w.heap.size (fun k_ => some k_ ≠ (v164 : Value).ownBlock) v8 x8_1) ∧ Aside0 (Kd.R (Kd.int .i64) 3 w' w.heap.size (fun k_ => some k_ ≠ (v8 : Value).ownBlock) v164 t163) ∧ Aside0 (w'.heap[gb159]? = some (.cells #[.int .i64 ((rd_T62 l1 a2).f0), .string ((rd_T62 l1 a2).f1), .int .i64 ((rd_T62 l1 a2).f2), .int .i64 ((rd_T62 l1 a2).f3), .int .i64 ((rd_T62 l1 a2).f4), .bool ((rd_T62 l1 a2).f5), (.slice A158_6 ((rd_T62 l1 a2).f6).length c158_6)] 62 (0, 0))) ∧ Aside0 (Below w.heap.size w w'))
   case atStart => exact ⟨(y160), (0), rF, H', ⟨Nat.le_refl _⟩, ⟨by (with_reducible repeat (first | apply Kd.R_alloc | apply Kd.R_drewN | apply Kd.R_drew)); exact Kd.R_mono HO162.out (fun _ hk => hk.2)⟩, ⟨by (with_reducible repeat (first | apply Kd.R_alloc | apply Kd.R_drewN | apply Kd.R_drew)); exact Kd.R_mono HO165.out (fun _ hk => hk.2)⟩, ⟨by (with_reducible repeat (first | refine blk_drewN ?_ _ | refine blk_drew ?_ | refine blk_alloc ?_ _)); exact BK159.out⟩, ⟨bA⟩⟩
   case round =>
    clear H'
    try clear c1
    try clear p1
    try clear q1
    try clear hx1
    try clear p2
    try clear c3
    try clear c4
    try clear c4b0
    try clear c5
    try clear c5b0
    try clear hcz8_0 hcz8_1 hcz8_2 hcz8_3 hcz8_4 hcz8_5 hcz8_6
    try clear hfz8_0 hfz8_1 hfz8_2 hfz8_3 hfz8_4 hfz8_5 hfz8_6
    try clear hx158_0
    try clear hx158_1
    try clear hx158_2
    try clear hx158_3
    try clear hx158_4
    try clear hx158_5
    try clear hx158_6
    try clear p158
    try clear q158
    obtain ⟨x8_1, x10_1, rfl, HA, HK1, HO_8, HO_9, BK159, HB⟩ := hrel
    cases gk with
    | zero => exact absurd HA.out (by simp [spec_l03Width.l0])
    | succ k1 =>
     have H := HA.out
     clear HA
     simp only [spec_l03Width.l0] at H
     by_cases c13 : x10_1 < (t163.length : Int)
     ·rw [if_pos c13] at H
      have c13b0 : decide (x10_1 < (t163.length : Int)) = true := decide_eq_true c13
      clear c13
      by_cases c14 : 0 ≤ x10_1
      ·rw [if_pos c14] at H
       have c14b0 : decide (0 ≤ x10_1) = true := decide_eq_true c14
       clear c14
       replace H := Option.bind_eq_some_iff.mp H
       obtain ⟨t167, A150, H⟩ := H
       replace H : (if t167 < 0 then (some (-1)) else (if x8_1.length < 17592186044416 then (spec_l03Width.l0 k1 l0 l1 (x8_1 ++ [t167]) t163 (wrap64 (x10_1 + 1)) ((rd_T62 l1 a2).f0) ((rd_T62 l1 a2).f1) ((rd_T62 l1 a2).f2) ((rd_T62 l1 a2).f3) ((rd_T62 l1 a2).f4) ((rd_T62 l1 a2).f5) ((rd_T62 l1 a2).f6)) else (none))) = some r := H
       have A15 := Aside0.mk A150
       clear A150
       by_cases c16 : t167 < 0
       ·rw [if_pos c16] at H
        have c16b0 : decide (t167 < 0) = true := decide_eq_true c16
        clear c16
        obtain rfl := Option.some.inj H
        obtain ⟨Ao17, co17, eo17⟩ := Kd.R_slice HO_9.out
        subst eo17
        have p166 : 0 ≤ (x10_1 : Int) := of_decide_eq_true (by assumption)
        have q166 : x10_1 < (t163.length : Int) := of_decide_eq_true (by assumption)
        obtain ⟨ad166, e166, hx166_0⟩ := Kd.at_int (Kd.R_reads' HO_9.out).2.2 x10_1 p166 q166
        cases e166
        replace p166 := eq_true p166
        replace q166 := eq_true q166
        go_wp2_with (first | (go_at_call 39; (with_reducible refine (ih k1 (by have := HK1.out; omega) _ _ l0 _ _ l1 (rd t163 x10_1) t167 _ ?side1 ?side2 ?side3 ?side4 A15.out).mono ?_); (case side1 => exact cA); (case side2 => exact HC0.out); (case side3 => exact cA); (case side4 => exact HC1.out); rintro e w18 ⟨rfl, hb⟩; have n0_ := Aside0.mk (Kd.R_below (by (with_reducible repeat (first | apply Kd.R_alloc | apply Kd.R_drewN | apply Kd.R_drew)); exact HO_8.out) hb); have n1_ := Aside0.mk (Kd.R_below (by (with_reducible repeat (first | apply Kd.R_alloc | apply Kd.R_drewN | apply Kd.R_drew)); exact HO_9.out) hb); have n2_ := Aside0.mk (blk_below (g := gb159) (o := .cells #[.int .i64 ((rd_T62 l1 a2).f0), .string ((rd_T62 l1 a2).f1), .int .i64 ((rd_T62 l1 a2).f2), .int .i64 ((rd_T62 l1 a2).f3), .int .i64 ((rd_T62 l1 a2).f4), .bool ((rd_T62 l1 a2).f5), .slice A158_6 ((rd_T62 l1 a2).f6).length c158_6] 62 (0, 0)) (by (with_reducible repeat (first | refine blk_drewN ?_ _ | refine blk_drew ?_ | refine blk_alloc ?_ _)); exact BK159.out) hb); have n3_ := Aside0.mk (below_step bA hb); clear HO_8; clear HO_9; clear BK159; clear HB; have HO_8 := n0_; have HO_9 := n1_; have BK159 := n2_; have HB := n3_; clear n0_ n1_ n2_ n3_; (try clear hb); (try clear hb2); (try clear hk); (try clear hi)))
        repeat (go_quiet (first | (go_at_call 39; (with_reducible refine (ih k1 (by have := HK1.out; omega) _ _ l0 _ _ l1 (rd t163 x10_1) t167 _ ?side1 ?side2 ?side3 ?side4 A15.out).mono ?_); (case side1 => exact cA); (case side2 => exact HC0.out); (case side3 => exact cA); (case side4 => exact HC1.out); rintro e w18 ⟨rfl, hb⟩; have n0_ := Aside0.mk (Kd.R_below (by (with_reducible repeat (first | apply Kd.R_alloc | apply Kd.R_drewN | apply Kd.R_drew)); exact HO_8.out) hb); have n1_ := Aside0.mk (Kd.R_below (by (with_reducible repeat (first | apply Kd.R_alloc | apply Kd.R_drewN | apply Kd.R_drew)); exact HO_9.out) hb); have n2_ := Aside0.mk (blk_below (g := gb159) (o := .cells #[.int .i64 ((rd_T62 l1 a2).f0), .string ((rd_T62 l1 a2).f1), .int .i64 ((rd_T62 l1 a2).f2), .int .i64 ((rd_T62 l1 a2).f3), .int .i64 ((rd_T62 l1 a2).f4), .bool ((rd_T62 l1 a2).f5), .slice A158_6 ((rd_T62 l1 a2).f6).length c158_6] 62 (0, 0)) (by (with_reducible repeat (first | refine blk_drewN ?_ _ | refine blk_drew ?_ | refine blk_alloc ?_ _)); exact BK159.out) hb); have n3_ := Aside0.mk (below_step bA hb); clear HO_8; clear HO_9; clear BK159; clear HB; have HO_8 := n0_; have HO_9 := n1_; have BK159 := n2_; have HB := n3_; clear n0_ n1_ n2_ n3_; (try clear hb); (try clear hb2); (try clear hk); (try clear hi))); try go_wp2_with (first | (go_at_call 39; (with_reducible refine (ih k1 (by have := HK1.out; omega) _ _ l0 _ _ l1 (rd t163 x10_1) t167 _ ?side1 ?side2 ?side3 ?side4 A15.out).mono ?_); (case side1 => exact cA); (case side2 => exact HC0.out); (case side3 => exact cA); (case side4 => exact HC1.out); rintro e w18 ⟨rfl, hb⟩; have n0_ := Aside0.mk (Kd.R_below (by (with_reducible repeat (first | apply Kd.R_alloc | apply Kd.R_drewN | apply Kd.R_drew)); exact HO_8.out) hb); have n1_ := Aside0.mk (Kd.R_below (by (with_reducible repeat (first | apply Kd.R_alloc | apply Kd.R_drewN | apply Kd.R_drew)); exact HO_9.out) hb); have n2_ := Aside0.mk (blk_below (g := gb159) (o := .cells #[.int .i64 ((rd_T62 l1 a2).f0), .string ((rd_T62 l1 a2).f1), .int .i64 ((rd_T62 l1 a2).f2), .int .i64 ((rd_T62 l1 a2).f3), .int .i64 ((rd_T62 l1 a2).f4), .bool ((rd_T62 l1 a2).f5), .slice A158_6 ((rd_T62 l1 a2).f6).length c158_6] 62 (0, 0)) (by (with_reducible repeat (first | refine blk_drewN ?_ _ | refine blk_drew ?_ | refine blk_alloc ?_ _)); exact BK159.out) hb); have n3_ := Aside0.mk (below_step bA hb); clear HO_8; clear HO_9; clear BK159; clear HB; have HO_8 := n0_; have HO_9 := n1_; have BK159 := n2_; have HB := n3_; clear n0_ n1_ n2_ n3_; (try clear hb); (try clear hb2); (try clear hk); (try clear hi))))
        go_ret
        exact ⟨rE, bA⟩
       ·rw [if_neg c16] at H
        have c16b0 : decide (t167 < 0) = false := decide_eq_false c16
        clear c16
        by_cases c19 : x8_1.length < 17592186044416
        ·rw [if_pos c19] at H
         have LMc19 := Aside0.mk c19
         clear c19
         obtain ⟨y168, hy168⟩ : ∃ y_ : List Int, y_ = (x8_1 ++ [t167]) := ⟨_, rfl⟩
         replace H : (spec_l03Width.l0 k1 l0 l1 y168 t163 (wrap64 (x10_1 + 1)) ((rd_T62 l1 a2).f0) ((rd_T62 l1 a2).f1) ((rd_T62 l1 a2).f2) ((rd_T62 l1 a2).f3) ((rd_T62 l1 a2).f4) ((rd_T62 l1 a2).f5) ((rd_T62 l1 a2).f6)) = some r := by first | (rw [hy168]; with_reducible exact H) | (have H2_ := (Option.bind_some _ _).symm.trans H; rw [hy168]; with_reducible exact H2_) | (have H2_ := (Option.bind_some _ _).symm.trans H; with_reducible exact H2_) | with_reducible exact H | (rw [hy168]; exact H) | exact H
         have Ny168 := Aside0.mk hy168
         clear hy168
         have H' := Aside0.mk H
         clear H
         obtain ⟨Ao20, co20, eo20⟩ := Kd.R_slice HO_9.out
         subst eo20
         have p166 : 0 ≤ (x10_1 : Int) := of_decide_eq_true (by assumption)
         have q166 : x10_1 < (t163.length : Int) := of_decide_eq_true (by assumption)
         obtain ⟨ad166, e166, hx166_0⟩ := Kd.at_int (Kd.R_reads' HO_9.out).2.2 x10_1 p166 q166
         cases e166
         replace p166 := eq_true p166
         replace q166 := eq_true q166
         go_wp2_with (first | (go_at_call 39; (with_reducible refine (ih k1 (by have := HK1.out; omega) _ _ l0 _ _ l1 (rd t163 x10_1) t167 _ ?side1 ?side2 ?side3 ?side4 A15.out).mono ?_); (case side1 => exact cA); (case side2 => exact HC0.out); (case side3 => exact cA); (case side4 => exact HC1.out); rintro e w21 ⟨rfl, hb⟩; have n0_ := Aside0.mk (Kd.R_below (by (with_reducible repeat (first | apply Kd.R_alloc | apply Kd.R_drewN | apply Kd.R_drew)); exact HO_8.out) hb); have n1_ := Aside0.mk (Kd.R_below (by (with_reducible repeat (first | apply Kd.R_alloc | apply Kd.R_drewN | apply Kd.R_drew)); exact HO_9.out) hb); have n2_ := Aside0.mk (blk_below (g := gb159) (o := .cells #[.int .i64 ((rd_T62 l1 a2).f0), .string ((rd_T62 l1 a2).f1), .int .i64 ((rd_T62 l1 a2).f2), .int .i64 ((rd_T62 l1 a2).f3), .int .i64 ((rd_T62 l1 a2).f4), .bool ((rd_T62 l1 a2).f5), .slice A158_6 ((rd_T62 l1 a2).f6).length c158_6] 62 (0, 0)) (by (with_reducible repeat (first | refine blk_drewN ?_ _ | refine blk_drew ?_ | refine blk_alloc ?_ _)); exact BK159.out) hb); have n3_ := Aside0.mk (below_step bA hb); clear HO_8; clear HO_9; clear BK159; clear HB; have HO_8 := n0_; have HO_9 := n1_; have BK159 := n2_; have HB := n3_; clear n0_ n1_ n2_ n3_; (try clear hb); (try clear hb2); (try clear hk); (try clear hi)) | ((with_reducible refine gate_builtin (b := .append) (xs := #[.tmp 37, .tmp 39]) rfl ?_); at_builtin; refine Kd.R_append (Kd.int .i64) (w0 := w) w.heap.size rfl (.tmp 37) (.tmp 39) 55 3 (.int .i64 0) 8 rfl Try.underlying55 info3 rfl (by decide) (by omega) u8 x8_1 t167 [.int .i64 t167] (fun k_ => some k_ ≠ (.slice (some ad166) t163.length co20 : Value).ownBlock) (fun _ => False) rfl rfl ?aP (fun _ hk => hk.elim) ?aF ?aO ?aB ?aS ?aL ?_; (case aP => exact rfl); (case aB => exact bA); (case aF => exact (fun k_ hk => Kd.fresh' (Kd.R_lt (by (with_reducible repeat (first | apply Kd.R_alloc | apply Kd.R_drewN | apply Kd.R_drew)); exact HO_9.out)) k_ hk)); (case aO => exact (by (with_reducible repeat (first | apply Kd.R_alloc | apply Kd.R_drewN | apply Kd.R_drew)); exact HO_8.out)); (case aS => exact (below_size bA)); (case aL => have := LMc19.out; omega); intro v169 w22 ho hb hg hat; rw [← Ny168.out] at ho; have n0_ := Aside0.mk (Kd.R_after (ok := (fun _ => True)) (by (with_reducible repeat (first | apply Kd.R_alloc | apply Kd.R_drewN | apply Kd.R_drew)); exact Kd.R_mono HO_9.out (fun _ hk => ⟨trivial, hk⟩)) hg hat); have n1_ := Aside0.mk (blk_grown (g := gb159) (o := .cells #[.int .i64 ((rd_T62 l1 a2).f0), .string ((rd_T62 l1 a2).f1), .int .i64 ((rd_T62 l1 a2).f2), .int .i64 ((rd_T62 l1 a2).f3), .int .i64 ((rd_T62 l1 a2).f4), .bool ((rd_T62 l1 a2).f5), .slice A158_6 ((rd_T62 l1 a2).f6).length c158_6] 62 (0, 0)) (by (with_reducible repeat (first | refine blk_drewN ?_ _ | refine blk_drew ?_ | refine blk_alloc ?_ _)); exact BK159.out) hg (Kd.R_ne HO_8.out BK159.out (by decide))); have n2_ := Aside0.mk (hb); have n3_ := Aside0.mk (ho); clear HO_9; clear BK159; clear HB; clear HO_8; have HO_9 := n0_; have BK159 := n1_; have HB := n2_; have HO170 := n3_; clear n0_ n1_ n2_ n3_; clear ho hb hg hat))
         repeat (go_quiet (first | (go_at_call 39; (with_reducible refine (ih k1 (by have := HK1.out; omega) _ _ l0 _ _ l1 (rd t163 x10_1) t167 _ ?side1 ?side2 ?side3 ?side4 A15.out).mono ?_); (case side1 => exact cA); (case side2 => exact HC0.out); (case side3 => exact cA); (case side4 => exact HC1.out); rintro e w21 ⟨rfl, hb⟩; have n0_ := Aside0.mk (Kd.R_below (by (with_reducible repeat (first | apply Kd.R_alloc | apply Kd.R_drewN | apply Kd.R_drew)); exact HO_8.out) hb); have n1_ := Aside0.mk (Kd.R_below (by (with_reducible repeat (first | apply Kd.R_alloc | apply Kd.R_drewN | apply Kd.R_drew)); exact HO_9.out) hb); have n2_ := Aside0.mk (blk_below (g := gb159) (o := .cells #[.int .i64 ((rd_T62 l1 a2).f0), .string ((rd_T62 l1 a2).f1), .int .i64 ((rd_T62 l1 a2).f2), .int .i64 ((rd_T62 l1 a2).f3), .int .i64 ((rd_T62 l1 a2).f4), .bool ((rd_T62 l1 a2).f5), .slice A158_6 ((rd_T62 l1 a2).f6).length c158_6] 62 (0, 0)) (by (with_reducible repeat (first | refine blk_drewN ?_ _ | refine blk_drew ?_ | refine blk_alloc ?_ _)); exact BK159.out) hb); have n3_ := Aside0.mk (below_step bA hb); clear HO_8; clear HO_9; clear BK159; clear HB; have HO_8 := n0_; have HO_9 := n1_; have BK159 := n2_; have HB := n3_; clear n0_ n1_ n2_ n3_; (try clear hb); (try clear hb2); (try clear hk); (try clear hi)) | ((with_reducible refine gate_builtin (b := .append) (xs := #[.tmp 37, .tmp 39]) rfl ?_); at_builtin; refine Kd.R_append (Kd.int .i64) (w0 := w) w.heap.size rfl (.tmp 37) (.tmp 39) 55 3 (.int .i64 0) 8 rfl Try.underlying55 info3 rfl (by decide) (by omega) u8 x8_1 t167 [.int .i64 t167] (fun k_ => some k_ ≠ (.slice (some ad166) t163.length co20 : Value).ownBlock) (fun _ => False) rfl rfl ?aP (fun _ hk => hk.elim) ?aF ?aO ?aB ?aS ?aL ?_; (case aP => exact rfl); (case aB => exact bA); (case aF => exact (fun k_ hk => Kd.fresh' (Kd.R_lt (by (with_reducible repeat (first | apply Kd.R_alloc | apply Kd.R_drewN | apply Kd.R_drew)); exact HO_9.out)) k_ hk)); (case aO => exact (by (with_reducible repeat (first | apply Kd.R_alloc | apply Kd.R_drewN | apply Kd.R_drew)); exact HO_8.out)); (case aS => exact (below_size bA)); (case aL => have := LMc19.out; omega); intro v169 w22 ho hb hg hat; rw [← Ny168.out] at ho; have n0_ := Aside0.mk (Kd.R_after (ok := (fun _ => True)) (by (with_reducible repeat (first | apply Kd.R_alloc | apply Kd.R_drewN | apply Kd.R_drew)); exact Kd.R_mono HO_9.out (fun _ hk => ⟨trivial, hk⟩)) hg hat); have n1_ := Aside0.mk (blk_grown (g := gb159) (o := .cells #[.int .i64 ((rd_T62 l1 a2).f0), .string ((rd_T62 l1 a2).f1), .int .i64 ((rd_T62 l1 a2).f2), .int .i64 ((rd_T62 l1 a2).f3), .int .i64 ((rd_T62 l1 a2).f4), .bool ((rd_T62 l1 a2).f5), .slice A158_6 ((rd_T62 l1 a2).f6).length c158_6] 62 (0, 0)) (by (with_reducible repeat (first | refine blk_drewN ?_ _ | refine blk_drew ?_ | refine blk_alloc ?_ _)); exact BK159.out) hg (Kd.R_ne HO_8.out BK159.out (by decide))); have n2_ := Aside0.mk (hb); have n3_ := Aside0.mk (ho); clear HO_9; clear BK159; clear HB; clear HO_8; have HO_9 := n0_; have BK159 := n1_; have HB := n2_; have HO170 := n3_; clear n0_ n1_ n2_ n3_; clear ho hb hg hat)); try go_wp2_with (first | (go_at_call 39; (with_reducible refine (ih k1 (by have := HK1.out; omega) _ _ l0 _ _ l1 (rd t163 x10_1) t167 _ ?side1 ?side2 ?side3 ?side4 A15.out).mono ?_); (case side1 => exact cA); (case side2 => exact HC0.out); (case side3 => exact cA); (case side4 => exact HC1.out); rintro e w21 ⟨rfl, hb⟩; have n0_ := Aside0.mk (Kd.R_below (by (with_reducible repeat (first | apply Kd.R_alloc | apply Kd.R_drewN | apply Kd.R_drew)); exact HO_8.out) hb); have n1_ := Aside0.mk (Kd.R_below (by (with_reducible repeat (first | apply Kd.R_alloc | apply Kd.R_drewN | apply Kd.R_drew)); exact HO_9.out) hb); have n2_ := Aside0.mk (blk_below (g := gb159) (o := .cells #[.int .i64 ((rd_T62 l1 a2).f0), .string ((rd_T62 l1 a2).f1), .int .i64 ((rd_T62 l1 a2).f2), .int .i64 ((rd_T62 l1 a2).f3), .int .i64 ((rd_T62 l1 a2).f4), .bool ((rd_T62 l1 a2).f5), .slice A158_6 ((rd_T62 l1 a2).f6).length c158_6] 62 (0, 0)) (by (with_reducible repeat (first | refine blk_drewN ?_ _ | refine blk_drew ?_ | refine blk_alloc ?_ _)); exact BK159.out) hb); have n3_ := Aside0.mk (below_step bA hb); clear HO_8; clear HO_9; clear BK159; clear HB; have HO_8 := n0_; have HO_9 := n1_; have BK159 := n2_; have HB := n3_; clear n0_ n1_ n2_ n3_; (try clear hb); (try clear hb2); (try clear hk); (try clear hi)) | ((with_reducible refine gate_builtin (b := .append) (xs := #[.tmp 37, .tmp 39]) rfl ?_); at_builtin; refine Kd.R_append (Kd.int .i64) (w0 := w) w.heap.size rfl (.tmp 37) (.tmp 39) 55 3 (.int .i64 0) 8 rfl Try.underlying55 info3 rfl (by decide) (by omega) u8 x8_1 t167 [.int .i64 t167] (fun k_ => some k_ ≠ (.slice (some ad166) t163.length co20 : Value).ownBlock) (fun _ => False) rfl rfl ?aP (fun _ hk => hk.elim) ?aF ?aO ?aB ?aS ?aL ?_; (case aP => exact rfl); (case aB => exact bA); (case aF => exact (fun k_ hk => Kd.fresh' (Kd.R_lt (by (with_reducible repeat (first | apply Kd.R_alloc | apply Kd.R_drewN | apply Kd.R_drew)); exact HO_9.out)) k_ hk)); (case aO => exact (by (with_reducible repeat (first | apply Kd.R_alloc | apply Kd.R_drewN | apply Kd.R_drew)); exact HO_8.out)); (case aS => exact (below_size bA)); (case aL => have := LMc19.out; omega); intro v169 w22 ho hb hg hat; rw [← Ny168.out] at ho; have n0_ := Aside0.mk (Kd.R_after (ok := (fun _ => True)) (by (with_reducible repeat (first | apply Kd.R_alloc | apply Kd.R_drewN | apply Kd.R_drew)); exact Kd.R_mono HO_9.out (fun _ hk => ⟨trivial, hk⟩)) hg hat); have n1_ := Aside0.mk (blk_grown (g := gb159) (o := .cells #[.int .i64 ((rd_T62 l1 a2).f0), .string ((rd_T62 l1 a2).f1), .int .i64 ((rd_T62 l1 a2).f2), .int .i64 ((rd_T62 l1 a2).f3), .int .i64 ((rd_T62 l1 a2).f4), .bool ((rd_T62 l1 a2).f5), .slice A158_6 ((rd_T62 l1 a2).f6).length c158_6] 62 (0, 0)) (by (with_reducible repeat (first | refine blk_drewN ?_ _ | refine blk_drew ?_ | refine blk_alloc ?_ _)); exact BK159.out) hg (Kd.R_ne HO_8.out BK159.out (by decide))); have n2_ := Aside0.mk (hb); have n3_ := Aside0.mk (ho); clear HO_9; clear BK159; clear HB; clear HO_8; have HO_9 := n0_; have BK159 := n1_; have HB := n2_; have HO170 := n3_; clear n0_ n1_ n2_ n3_; clear ho hb hg hat)))
         go_roundg k1
         case measure => have := HK1.out; omega
         case rel => exact ⟨(y168), (wrap64 (x10_1 + 1)), rF, H', ⟨by have := HK1.out; omega⟩, ⟨by (with_reducible repeat (first | apply Kd.R_alloc | apply Kd.R_drewN | apply Kd.R_drew)); exact HO170.out⟩, ⟨by (with_reducible repeat (first | apply Kd.R_alloc | apply Kd.R_drewN | apply Kd.R_drew)); exact Kd.R_mono HO_9.out (fun _ hk => hk.2)⟩, ⟨by (with_reducible repeat (first | refine blk_drewN ?_ _ | refine blk_drew ?_ | refine blk_alloc ?_ _)); exact BK159.out⟩, ⟨bA⟩⟩
        ·rw [if_neg c19] at H
         exact absurd H (by simp)
      ·rw [if_neg c14] at H
       exact absurd H (by simp)
     ·rw [if_neg c13] at H
      have c13b0 : decide (x10_1 < (t163.length : Int)) = false := decide_eq_false c13
      clear c13
      by_cases c23 : ((rd_T62 l1 a2).f0) = 0
      ·rw [if_pos c23] at H
       have c23b0 : (((rd_T62 l1 a2).f0) == 0) = true := beq_iff_eq.mpr c23
       have c23b1 : (((rd_T62 l1 a2).f0) != 0) = false := bne_eq_false_iff_eq.mpr c23
       clear c23
       replace H := Option.bind_eq_some_iff.mp H
       obtain ⟨t171, A240, H⟩ := H
       replace H : (if t171 < 0 then (some (-1)) else (if 0 ≤ t171 then (if t171 < (l0.length : Int) then (some ((rd_T60 l0 t171).f1)) else (none)) else (none))) = some r := H
       have A24 := Aside0.mk A240
       clear A240
       by_cases c25 : t171 < 0
       ·rw [if_pos c25] at H
        have c25b0 : decide (t171 < 0) = true := decide_eq_true c25
        clear c25
        obtain rfl := Option.some.inj H
        obtain ⟨Ao26, co26, eo26⟩ := Kd.R_slice HO_9.out
        subst eo26
        obtain ⟨⟨hcz27_0, hcz27_1, hcz27_2, hcz27_3, hcz27_4, hcz27_5, hcz27_6⟩, hfz27_0, hfz27_1, hfz27_2, hfz27_3, hfz27_4, hfz27_5, hfz27_6⟩ := c7 BK159.out
        go_wp2_with (first | (go_at_call 72; (with_reducible refine (spec_l03Find.calls k1 _ _ l0 ((rd_T62 l1 a2).f1) t171 _ ?side1 ?side2 A24.out).mono ?_); (case side1 => exact cA); (case side2 => exact HC0.out); rintro e w' ⟨rfl, ⟨nd, rfl⟩⟩; (try first | exact ⟨rfl, _, World.drewN_drewN _ _ _⟩ | exact ⟨rfl, _, Eq.trans (World.drewN_drewN _ _ _) (congrArg (World.drewN _) (Nat.add_assoc _ _ _))⟩)))
        repeat (go_quiet (first | (go_at_call 72; (with_reducible refine (spec_l03Find.calls k1 _ _ l0 ((rd_T62 l1 a2).f1) t171 _ ?side1 ?side2 A24.out).mono ?_); (case side1 => exact cA); (case side2 => exact HC0.out); rintro e w' ⟨rfl, ⟨nd, rfl⟩⟩; (try first | exact ⟨rfl, _, World.drewN_drewN _ _ _⟩ | exact ⟨rfl, _, Eq.trans (World.drewN_drewN _ _ _) (congrArg (World.drewN _) (Nat.add_assoc _ _ _))⟩))); try go_wp2_with (first | (go_at_call 72; (with_reducible refine (spec_l03Find.calls k1 _ _ l0 ((rd_T62 l1 a2).f1) t171 _ ?side1 ?side2 A24.out).mono ?_); (case side1 => exact cA); (case side2 => exact HC0.out); rintro e w' ⟨rfl, ⟨nd, rfl⟩⟩; (try first | exact ⟨rfl, _, World.drewN_drewN _ _ _⟩ | exact ⟨rfl, _, Eq.trans (World.drewN_drewN _ _ _) (congrArg (World.drewN _) (Nat.add_assoc _ _ _))⟩))))
        go_ret
        exact ⟨rE, bA⟩
       ·rw [if_neg c25] at H
        have c25b0 : decide (t171 < 0) = false := decide_eq_false c25
        clear c25
        by_cases c28 : 0 ≤ t171
        ·rw [if_pos c28] at H
         have c28b0 : decide (0 ≤ t171) = true := decide_eq_true c28
         clear c28
         by_cases c29 : t171 < (l0.length : Int)
         ·rw [if_pos c29] at H
          have c29b0 : decide (t171 < (l0.length : Int)) = true := decide_eq_true c29
          clear c29
          obtain rfl := Option.some.inj H
          obtain ⟨Ao30, co30, eo30⟩ := Kd.R_slice HO_9.out
          subst eo30
          obtain ⟨⟨hcz31_0, hcz31_1, hcz31_2, hcz31_3, hcz31_4, hcz31_5, hcz31_6⟩, hfz31_0, hfz31_1, hfz31_2, hfz31_3, hfz31_4, hfz31_5, hfz31_6⟩ := c7 BK159.out
          go_wp2_with (first | (go_at_call 72; (with_reducible refine (spec_l03Find.calls k1 _ _ l0 ((rd_T62 l1 a2).f1) t171 _ ?side1 ?side2 A24.out).mono ?_); (case side1 => exact cA); (case side2 => exact HC0.out); rintro e w' ⟨rfl, ⟨nd, rfl⟩⟩; (try first | exact ⟨rfl, _, World.drewN_drewN _ _ _⟩ | exact ⟨rfl, _, Eq.trans (World.drewN_drewN _ _ _) (congrArg (World.drewN _) (Nat.add_assoc _ _ _))⟩); have p172 : 0 ≤ (t171 : Int) := of_decide_eq_true (by assumption); have q172 : t171 < (l0.length : Int) := of_decide_eq_true (by assumption); obtain ⟨ad172, e172, hx172_0, hx172_1⟩ := at_T60 HR0.out t171 p172 q172; cases e172; replace hx172_0 := (HB.out.cell (World.block_lt_of_cell? w _ hx172_0)).trans hx172_0; replace hx172_1 := (HB.out.cell (World.block_lt_of_cell? w _ hx172_1)).trans hx172_1; replace p172 := eq_true p172; replace q172 := eq_true q172))
          repeat (go_quiet (first | (go_at_call 72; (with_reducible refine (spec_l03Find.calls k1 _ _ l0 ((rd_T62 l1 a2).f1) t171 _ ?side1 ?side2 A24.out).mono ?_); (case side1 => exact cA); (case side2 => exact HC0.out); rintro e w' ⟨rfl, ⟨nd, rfl⟩⟩; (try first | exact ⟨rfl, _, World.drewN_drewN _ _ _⟩ | exact ⟨rfl, _, Eq.trans (World.drewN_drewN _ _ _) (congrArg (World.drewN _) (Nat.add_assoc _ _ _))⟩); have p172 : 0 ≤ (t171 : Int) := of_decide_eq_true (by assumption); have q172 : t171 < (l0.length : Int) := of_decide_eq_true (by assumption); obtain ⟨ad172, e172, hx172_0, hx172_1⟩ := at_T60 HR0.out t171 p172 q172; cases e172; replace hx172_0 := (HB.out.cell (World.block_lt_of_cell? w _ hx172_0)).trans hx172_0; replace hx172_1 := (HB.out.cell (World.block_lt_of_cell? w _ hx172_1)).trans hx172_1; replace p172 := eq_true p172; replace q172 := eq_true q172)); try go_wp2_with (first | (go_at_call 72; (with_reducible refine (spec_l03Find.calls k1 _ _ l0 ((rd_T62 l1 a2).f1) t171 _ ?side1 ?side2 A24.out).mono ?_); (case side1 => exact cA); (case side2 => exact HC0.out); rintro e w' ⟨rfl, ⟨nd, rfl⟩⟩; (try first | exact ⟨rfl, _, World.drewN_drewN _ _ _⟩ | exact ⟨rfl, _, Eq.trans (World.drewN_drewN _ _ _) (congrArg (World.drewN _) (Nat.add_assoc _ _ _))⟩); have p172 : 0 ≤ (t171 : Int) := of_decide_eq_true (by assumption); have q172 : t171 < (l0.length : Int) := of_decide_eq_true (by assumption); obtain ⟨ad172, e172, hx172_0, hx172_1⟩ := at_T60 HR0.out t171 p172 q172; cases e172; replace hx172_0 := (HB.out.cell (World.block_lt_of_cell? w _ hx172_0)).trans hx172_0; replace hx172_1 := (HB.out.cell (World.block_lt_of_cell? w _ hx172_1)).trans hx172_1; replace p172 := eq_true p172; replace q172 := eq_true q172)))
          go_ret
          exact ⟨rE, bA⟩
         ·rw [if_neg c29] at H
          exact absurd H (by simp)
        ·rw [if_neg c28] at H
         exact absurd H (by simp)
      ·rw [if_neg c23] at H
       have c23b0 : (((rd_T62 l1 a2).f0) == 0) = false := beq_eq_false_iff_ne.mpr c23
       have c23b1 : (((rd_T62 l1 a2).f0) != 0) = true := bne_iff_ne.mpr c23
       have HC32 := Aside0.mk H
       clear H
       obtain ⟨Ao33, co33, eo33⟩ := Kd.R_slice HO_9.out
       subst eo33
       obtain ⟨⟨hcz34_0, hcz34_1, hcz34_2, hcz34_3, hcz34_4, hcz34_5, hcz34_6⟩, hfz34_0, hfz34_1, hfz34_2, hfz34_3, hfz34_4, hfz34_5, hfz34_6⟩ := c7 BK159.out
       go_upto_if 56 with (fail)
       repeat (go_quiet (fail); go_upto_if 56 with (fail))
       go_cut [56] (fun v56 wc => ∃ (kq : Nat) (x56_31 : Bool), v56 = .bool x56_31 ∧ Aside0 (spec_l03Width.j1 kq x8_1 ((rd_T62 l1 a2).f0) x56_31 ((rd_T62 l1 a2).f0) ((rd_T62 l1 a2).f1) ((rd_T62 l1 a2).f2) ((rd_T62 l1 a2).f3) ((rd_T62 l1 a2).f4) ((rd_T62 l1 a2).f5) ((rd_T62 l1 a2).f6) = some r) ∧ Aside0 (kq ≤ k1) ∧ Aside0 (Kd.R (Kd.int .i64) 3 wc w.heap.size (fun _ => True) u8 x8_1) ∧ Aside0 (wc.heap[gb159]? = some (.cells #[.int .i64 ((rd_T62 l1 a2).f0), .string ((rd_T62 l1 a2).f1), .int .i64 ((rd_T62 l1 a2).f2), .int .i64 ((rd_T62 l1 a2).f3), .int .i64 ((rd_T62 l1 a2).f4), .bool ((rd_T62 l1 a2).f5), (.slice A158_6 ((rd_T62 l1 a2).f6).length c158_6)] 62 (0, 0))) ∧ Aside0 (Below w.heap.size w wc))
       case first =>
        have H := HC32.out
        clear HC32
        by_cases c35 : ((rd_T62 l1 a2).f0) = 1
        ·rw [if_pos c35] at H
         have c35b0 : (((rd_T62 l1 a2).f0) == 1) = true := beq_iff_eq.mpr c35
         have c35b1 : (((rd_T62 l1 a2).f0) != 1) = false := bne_eq_false_iff_eq.mpr c35
         clear c35
         (first | rw [c35b0] | (simp only [i64_w, i32_w]; rw [c35b0]) | skip)
         have H' := Aside0.mk H
         clear H
         go_wp2
         repeat (go_quiet (fail); try go_wp2)
         go_meet
         case rel => exact ⟨_, ((((rd_T62 l1 a2).f0) == 1)), rF, H', ⟨by have := HK1.out; first | omega | exact Nat.le_refl _⟩, ⟨by (with_reducible repeat (first | apply Kd.R_alloc | apply Kd.R_drewN | apply Kd.R_drew)); exact Kd.R_mono HO_8.out (fun _ hk => trivial)⟩, ⟨by (with_reducible repeat (first | refine blk_drewN ?_ _ | refine blk_drew ?_ | refine blk_alloc ?_ _)); exact BK159.out⟩, ⟨bA⟩⟩
        ·rw [if_neg c35] at H
         have c35b0 : (((rd_T62 l1 a2).f0) == 1) = false := beq_eq_false_iff_ne.mpr c35
         have c35b1 : (((rd_T62 l1 a2).f0) != 1) = true := bne_iff_ne.mpr c35
         (first | rw [c35b0] | (simp only [i64_w, i32_w]; rw [c35b0]) | skip)
         have H' := Aside0.mk H
         clear H
         go_wp2
         repeat (go_quiet (fail); try go_wp2)
         go_meet
         case rel => exact ⟨_, ((((rd_T62 l1 a2).f0) == 5)), rF, H', ⟨by have := HK1.out; first | omega | exact Nat.le_refl _⟩, ⟨by (with_reducible repeat (first | apply Kd.R_alloc | apply Kd.R_drewN | apply Kd.R_drew)); exact Kd.R_mono HO_8.out (fun _ hk => trivial)⟩, ⟨by (with_reducible repeat (first | refine blk_drewN ?_ _ | refine blk_drew ?_ | refine blk_alloc ?_ _)); exact BK159.out⟩, ⟨bA⟩⟩
       case rest =>
        clear HC32
        try clear c1
        try clear p1
        try clear q1
        try clear hx1
        try clear c2
        try clear p2
        try clear c3
        try clear c4
        try clear c4b0
        try clear c5
        try clear c5b0
        try clear p6
        try clear c13
        try clear c13b0
        try clear c14
        try clear c14b0
        try clear c15
        try clear p15
        try clear q15
        try clear hx15
        try clear c16
        try clear c16b0
        try clear p16
        try clear q16
        try clear hx16
        try clear p17
        try clear q17
        try clear hx17
        try clear c19
        try clear c23
        try clear c23b0
        try clear c23b1
        try clear c25
        try clear c25b0
        try clear c28
        try clear c28b0
        try clear c29
        try clear c29b0
        try clear c35
        try clear c35b0
        try clear c35b1
        try clear hcz27_0 hcz27_1 hcz27_2 hcz27_3 hcz27_4 hcz27_5 hcz27_6
        try clear hcz31_0 hcz31_1 hcz31_2 hcz31_3 hcz31_4 hcz31_5 hcz31_6
        try clear hcz34_0 hcz34_1 hcz34_2 hcz34_3 hcz34_4 hcz34_5 hcz34_6
        try clear hcz8_0 hcz8_1 hcz8_2 hcz8_3 hcz8_4 hcz8_5 hcz8_6
        try clear hfz27_0 hfz27_1 hfz27_2 hfz27_3 hfz27_4 hfz27_5 hfz27_6
        try clear hfz31_0 hfz31_1 hfz31_2 hfz31_3 hfz31_4 hfz31_5 hfz31_6
        try clear hfz34_0 hfz34_1 hfz34_2 hfz34_3 hfz34_4 hfz34_5 hfz34_6
        try clear hfz8_0 hfz8_1 hfz8_2 hfz8_3 hfz8_4 hfz8_5 hfz8_6
        try clear hx158_0
        try clear hx158_1
        try clear hx158_2
        try clear hx158_3
        try clear hx158_4
        try clear hx158_5
        try clear hx158_6
        try clear hx166_0
        try clear hx172_0
        try clear hx172_1
        try clear p1
        try clear p158
        try clear p166
        try clear p172
        try clear p2
        try clear q1
        try clear q158
        try clear q166
        try clear q172
        obtain ⟨kq, x56_31, rfl, HA, HJ31, HO_8, BK159, HB⟩ := hcut
        cases kq with
        | zero => exact absurd HA.out (by simp [spec_l03Width.j1])
        | succ kj31 =>
         have H := HA.out
         clear HA
         simp only [spec_l03Width.j1] at H
         by_cases c36 : x56_31 = true
         ·subst c36
          have H1 : (if 0 < (x8_1.length : Int) then (if ((rd_T62 l1 a2).f2) ≥ (rd x8_1 0) then (some (-1)) else (some (rd x8_1 0))) else (none)) = some r := by rw [if_pos rfl] at H; exact H
          clear H
          have H := H1
          clear H1
          by_cases c37 : 0 < (x8_1.length : Int)
          ·rw [if_pos c37] at H
           have c37b0 : decide (0 < (x8_1.length : Int)) = true := decide_eq_true c37
           have c37b1 : decide (0 < x8_1.length) = true := decide_eq_true (by omega)
           clear c37
           by_cases c38 : ((rd_T62 l1 a2).f2) ≥ (rd x8_1 0)
           ·rw [if_pos c38] at H
            have c38b0 : decide ((rd x8_1 0) ≤ ((rd_T62 l1 a2).f2)) = true := decide_eq_true c38
            clear c38
            obtain rfl := Option.some.inj H
            obtain ⟨⟨hcz39_0, hcz39_1, hcz39_2, hcz39_3, hcz39_4, hcz39_5, hcz39_6⟩, hfz39_0, hfz39_1, hfz39_2, hfz39_3, hfz39_4, hfz39_5, hfz39_6⟩ := c7 BK159.out
            obtain ⟨Ao40, co40, eo40⟩ := Kd.R_slice HO_8.out
            subst eo40
            have p173 : 0 ≤ (0 : Int) := (by omega)
            have q173 : 0 < (x8_1.length : Int) := of_decide_eq_true (by assumption)
            obtain ⟨ad173, e173, hx173_0⟩ := Kd.at_int (Kd.R_reads' HO_8.out).2.2 0 p173 q173
            cases e173
            have qi173 : (0 < x8_1.length) = True := eq_true (by omega)
            (try rw [show ((0 : Int)).toNat = 0 from rfl] at hx173_0)
            (try rw [Addr.add_zero'] at hx173_0)
            replace p173 := eq_true p173
            replace q173 := eq_true q173
            go_wp2
            repeat (go_quiet (fail); try go_wp2)
            go_ret
            exact ⟨rE, bA⟩
           ·rw [if_neg c38] at H
            have c38b0 : decide ((rd x8_1 0) ≤ ((rd_T62 l1 a2).f2)) = false := decide_eq_false c38
            clear c38
            obtain rfl := Option.some.inj H
            obtain ⟨⟨hcz41_0, hcz41_1, hcz41_2, hcz41_3, hcz41_4, hcz41_5, hcz41_6⟩, hfz41_0, hfz41_1, hfz41_2, hfz41_3, hfz41_4, hfz41_5, hfz41_6⟩ := c7 BK159.out
            obtain ⟨Ao42, co42, eo42⟩ := Kd.R_slice HO_8.out
            subst eo42
            have p173 : 0 ≤ (0 : Int) := (by omega)
            have q173 : 0 < (x8_1.length : Int) := of_decide_eq_true (by assumption)
            obtain ⟨ad173, e173, hx173_0⟩ := Kd.at_int (Kd.R_reads' HO_8.out).2.2 0 p173 q173
            cases e173
            have qi173 : (0 < x8_1.length) = True := eq_true (by omega)
            (try rw [show ((0 : Int)).toNat = 0 from rfl] at hx173_0)
            (try rw [Addr.add_zero'] at hx173_0)
            replace p173 := eq_true p173
            replace q173 := eq_true q173
            have p174 : 0 ≤ (0 : Int) := (by omega)
            have q174 : 0 < (x8_1.length : Int) := of_decide_eq_true (by assumption)
            obtain ⟨ad174, e174, hx174_0⟩ := Kd.at_int (Kd.R_reads' HO_8.out).2.2 0 p174 q174
            obtain rfl : ad173 = ad174 := (by injection e174)
            have qi174 : (0 < x8_1.length) = True := eq_true (by omega)
            (try rw [show ((0 : Int)).toNat = 0 from rfl] at hx174_0)
            (try rw [Addr.add_zero'] at hx174_0)
            replace p174 := eq_true p174
            replace q174 := eq_true q174
            go_wp2
            repeat (go_quiet (fail); try go_wp2)
            go_ret
            exact ⟨rE, bA⟩
          ·rw [if_neg c37] at H
           exact absurd H (by simp)
         ·replace c36 := Bool.eq_false_iff.mpr c36
          subst c36
          have H1 : (if ((rd_T62 l1 a2).f0) = 2 then (spec_l03Width.l1 kj31 x8_1 0 ((rd_T62 l1 a2).f0) ((rd_T62 l1 a2).f1) ((rd_T62 l1 a2).f2) ((rd_T62 l1 a2).f3) ((rd_T62 l1 a2).f4) ((rd_T62 l1 a2).f5) ((rd_T62 l1 a2).f6)) else (if ((rd_T62 l1 a2).f0) = 3 then (if 0 < (x8_1.length : Int) then (if ((rd_T62 l1 a2).f2) ≥ (rd x8_1 0) then (some (-1)) else (if 1 < (x8_1.length : Int) then (if ((rd_T62 l1 a2).f4) ≥ (rd x8_1 1) then (some (-1)) else (if (wrap64 ((rd x8_1 0) + (rd x8_1 1))) > 64 then (some (-1)) else (some (wrap64 ((rd x8_1 0) + (rd x8_1 1)))))) else (none))) else (none)) else (if ((rd_T62 l1 a2).f0) = 4 then (if 0 < (x8_1.length : Int) then (if 1 < (x8_1.length : Int) then (if (rd x8_1 0) = (rd x8_1 1) then (some (rd x8_1 0)) else (some (-1))) else (none)) else (none)) else (if 0 < (x8_1.length : Int) then (some (rd x8_1 0)) else (none))))) = some r := by rw [if_neg (show ¬ (false = true) by decide)] at H; exact H
          clear H
          have H := H1
          clear H1
          by_cases c43 : ((rd_T62 l1 a2).f0) = 2
          ·rw [if_pos c43] at H
           have c43b0 : (((rd_T62 l1 a2).f0) == 2) = true := beq_iff_eq.mpr c43
           have c43b1 : (((rd_T62 l1 a2).f0) != 2) = false := bne_eq_false_iff_eq.mpr c43
           clear c43
           have H' := Aside0.mk H
           clear H
           go_wp2
           repeat (go_quiet (fail); try go_wp2)
           go_loopg [13] kj31 (fun kq v13 w' => ∃ (x13_3 : Int), v13 = .int .i64 x13_3 ∧ Aside0 (spec_l03Width.l1 kq x8_1 x13_3 ((rd_T62 l1 a2).f0) ((rd_T62 l1 a2).f1) ((rd_T62 l1 a2).f2) ((rd_T62 l1 a2).f3) ((rd_T62 l1 a2).f4) ((rd_T62 l1 a2).f5) ((rd_T62 l1 a2).f6) = some r) ∧ Aside0 (kq ≤ kj31) ∧ Aside0 (Kd.R (Kd.int .i64) 3 w' w.heap.size (fun _ => True) u8 x8_1) ∧ Aside0 (w'.heap[gb159]? = some (.cells #[.int .i64 ((rd_T62 l1 a2).f0), .string ((rd_T62 l1 a2).f1), .int .i64 ((rd_T62 l1 a2).f2), .int .i64 ((rd_T62 l1 a2).f3), .int .i64 ((rd_T62 l1 a2).f4), .bool ((rd_T62 l1 a2).f5), (.slice A158_6 ((rd_T62 l1 a2).f6).length c158_6)] 62 (0, 0))) ∧ Aside0 (Below w.heap.size w w'))
           case atStart => exact ⟨(0), rF, H', ⟨Nat.le_refl _⟩, ⟨by (with_reducible repeat (first | apply Kd.R_alloc | apply Kd.R_drewN | apply Kd.R_drew)); exact HO_8.out⟩, ⟨by (with_reducible repeat (first | refine blk_drewN ?_ _ | refine blk_drew ?_ | refine blk_alloc ?_ _)); exact BK159.out⟩, ⟨bA⟩⟩
           case round =>
            clear H'
            try clear c1
            try clear p1
            try clear q1
            try clear hx1
            try clear qi1
            try clear c2
            try clear p2
            try clear c3
            try clear c4
            try clear c4b0
            try clear c5
            try clear c5b0
            try clear p6
            try clear c13
            try clear c13b0
            try clear c14
            try clear c14b0
            try clear c15
            try clear p15
            try clear q15
            try clear hx15
            try clear c16
            try clear c16b0
            try clear p16
            try clear q16
            try clear hx16
            try clear p17
            try clear q17
            try clear hx17
            try clear qi17
            try clear c19
            try clear c23
            try clear c23b0
            try clear c23b1
            try clear c25
            try clear c25b0
            try clear c28
            try clear c28b0
            try clear c29
            try clear c29b0
            try clear c35
            try clear c35b0
            try clear c35b1
            try clear c36
            try clear c37
            try clear c37b0
            try clear c37b1
            try clear c38
            try clear c38b0
            try clear c39
            try clear c43
            try clear c43b0
            try clear c43b1
            try clear hcz27_0 hcz27_1 hcz27_2 hcz27_3 hcz27_4 hcz27_5 hcz27_6
            try clear hcz31_0 hcz31_1 hcz31_2 hcz31_3 hcz31_4 hcz31_5 hcz31_6
            try clear hcz34_0 hcz34_1 hcz34_2 hcz34_3 hcz34_4 hcz34_5 hcz34_6
            try clear hcz39_0 hcz39_1 hcz39_2 hcz39_3 hcz39_4 hcz39_5 hcz39_6
            try clear hcz41_0 hcz41_1 hcz41_2 hcz41_3 hcz41_4 hcz41_5 hcz41_6
            try clear hcz8_0 hcz8_1 hcz8_2 hcz8_3 hcz8_4 hcz8_5 hcz8_6
            try clear hfz27_0 hfz27_1 hfz27_2 hfz27_3 hfz27_4 hfz27_5 hfz27_6
            try clear hfz31_0 hfz31_1 hfz31_2 hfz31_3 hfz31_4 hfz31_5 hfz31_6
            try clear hfz34_0 hfz34_1 hfz34_2 hfz34_3 hfz34_4 hfz34_5 hfz34_6
            try clear hfz39_0 hfz39_1 hfz39_2 hfz39_3 hfz39_4 hfz39_5 hfz39_6
            try clear hfz41_0 hfz41_1 hfz41_2 hfz41_3 hfz41_4 hfz41_5 hfz41_6
            try clear hfz8_0 hfz8_1 hfz8_2 hfz8_3 hfz8_4 hfz8_5 hfz8_6
            try clear hx158_0
            try clear hx158_1
            try clear hx158_2
            try clear hx158_3
            try clear hx158_4
            try clear hx158_5
            try clear hx158_6
            try clear hx166_0
            try clear hx172_0
            try clear hx172_1
            try clear hx173_0
            try clear hx174_0
            try clear p1
            try clear p15
            try clear p158
            try clear p16
            try clear p166
            try clear p17
            try clear p172
            try clear p173
            try clear p174
            try clear p2
            try clear p6
            try clear q1
            try clear q15
            try clear q158
            try clear q16
            try clear q166
            try clear q17
            try clear q172
            try clear q173
            try clear q174
            obtain ⟨x13_3, rfl, HA, HK3, HO_8, BK159, HB⟩ := hrel
            cases gk with
            | zero => exact absurd HA.out (by simp [spec_l03Width.l1])
            | succ k3 =>
             have H := HA.out
             clear HA
             simp only [spec_l03Width.l1] at H
             by_cases c44 : x13_3 < (((rd_T62 l1 a2).f6).length : Int)
             ·rw [if_pos c44] at H
              have c44b0 : decide (x13_3 < (((rd_T62 l1 a2).f6).length : Int)) = true := decide_eq_true c44
              clear c44
              by_cases c45 : 0 ≤ x13_3
              ·rw [if_pos c45] at H
               have c45b0 : decide (0 ≤ x13_3) = true := decide_eq_true c45
               clear c45
               by_cases c46 : 0 < (x8_1.length : Int)
               ·rw [if_pos c46] at H
                have c46b0 : decide (0 < (x8_1.length : Int)) = true := decide_eq_true c46
                have c46b1 : decide (0 < x8_1.length) = true := decide_eq_true (by omega)
                clear c46
                by_cases c47 : (rd ((rd_T62 l1 a2).f6) x13_3) ≥ (rd x8_1 0)
                ·rw [if_pos c47] at H
                 have c47b0 : decide ((rd x8_1 0) ≤ (rd ((rd_T62 l1 a2).f6) x13_3)) = true := decide_eq_true c47
                 clear c47
                 obtain rfl := Option.some.inj H
                 obtain ⟨⟨hcz48_0, hcz48_1, hcz48_2, hcz48_3, hcz48_4, hcz48_5, hcz48_6⟩, hfz48_0, hfz48_1, hfz48_2, hfz48_3, hfz48_4, hfz48_5, hfz48_6⟩ := c7 BK159.out
                 have p175 : 0 ≤ (x13_3 : Int) := of_decide_eq_true (by assumption)
                 have q175 : x13_3 < (((rd_T62 l1 a2).f6).length : Int) := of_decide_eq_true (by assumption)
                 obtain ⟨ad175, e175, hx175_0⟩ := Kd.at_int HR158_6.out x13_3 p175 q175
                 cases e175
                 replace hx175_0 := (HB.out.cell (World.block_lt_of_cell? w _ hx175_0)).trans hx175_0
                 replace p175 := eq_true p175
                 replace q175 := eq_true q175
                 obtain ⟨Ao49, co49, eo49⟩ := Kd.R_slice HO_8.out
                 subst eo49
                 have p176 : 0 ≤ (0 : Int) := (by omega)
                 have q176 : 0 < (x8_1.length : Int) := of_decide_eq_true (by assumption)
                 obtain ⟨ad176, e176, hx176_0⟩ := Kd.at_int (Kd.R_reads' HO_8.out).2.2 0 p176 q176
                 cases e176
                 have qi176 : (0 < x8_1.length) = True := eq_true (by omega)
                 (try rw [show ((0 : Int)).toNat = 0 from rfl] at hx176_0)
                 (try rw [Addr.add_zero'] at hx176_0)
                 replace p176 := eq_true p176
                 replace q176 := eq_true q176
                 go_wp2
                 repeat (go_quiet (fail); try go_wp2)
                 go_ret
                 exact ⟨rE, bA⟩
                ·rw [if_neg c47] at H
                 have c47b0 : decide ((rd x8_1 0) ≤ (rd ((rd_T62 l1 a2).f6) x13_3)) = false := decide_eq_false c47
                 clear c47
                 have H' := Aside0.mk H
                 clear H
                 obtain ⟨⟨hcz50_0, hcz50_1, hcz50_2, hcz50_3, hcz50_4, hcz50_5, hcz50_6⟩, hfz50_0, hfz50_1, hfz50_2, hfz50_3, hfz50_4, hfz50_5, hfz50_6⟩ := c7 BK159.out
                 have p175 : 0 ≤ (x13_3 : Int) := of_decide_eq_true (by assumption)
                 have q175 : x13_3 < (((rd_T62 l1 a2).f6).length : Int) := of_decide_eq_true (by assumption)
                 obtain ⟨ad175, e175, hx175_0⟩ := Kd.at_int HR158_6.out x13_3 p175 q175
                 cases e175
                 replace hx175_0 := (HB.out.cell (World.block_lt_of_cell? w _ hx175_0)).trans hx175_0
                 replace p175 := eq_true p175
                 replace q175 := eq_true q175
                 obtain ⟨Ao51, co51, eo51⟩ := Kd.R_slice HO_8.out
                 subst eo51
                 have p176 : 0 ≤ (0 : Int) := (by omega)
                 have q176 : 0 < (x8_1.length : Int) := of_decide_eq_true (by assumption)
                 obtain ⟨ad176, e176, hx176_0⟩ := Kd.at_int (Kd.R_reads' HO_8.out).2.2 0 p176 q176
                 cases e176
                 have qi176 : (0 < x8_1.length) = True := eq_true (by omega)
                 (try rw [show ((0 : Int)).toNat = 0 from rfl] at hx176_0)
                 (try rw [Addr.add_zero'] at hx176_0)
                 replace p176 := eq_true p176
                 replace q176 := eq_true q176
                 go_wp2
                 repeat (go_quiet (fail); try go_wp2)
                 go_roundg k3
                 case measure => have := HK1.out; have := HJ31.out; have := HK3.out; omega
                 case rel => exact ⟨(wrap64 (x13_3 + 1)), rF, H', ⟨by have := HK1.out; have := HJ31.out; have := HK3.out; omega⟩, ⟨by (with_reducible repeat (first | apply Kd.R_alloc | apply Kd.R_drewN | apply Kd.R_drew)); exact HO_8.out⟩, ⟨by (with_reducible repeat (first | refine blk_drewN ?_ _ | refine blk_drew ?_ | refine blk_alloc ?_ _)); exact BK159.out⟩, ⟨bA⟩⟩
               ·rw [if_neg c46] at H
                exact absurd H (by simp)
              ·rw [if_neg c45] at H
               exact absurd H (by simp)
             ·rw [if_neg c44] at H
              have c44b0 : decide (x13_3 < (((rd_T62 l1 a2).f6).length : Int)) = false := decide_eq_false c44
              clear c44
              obtain rfl := Option.some.inj H
              obtain ⟨⟨hcz52_0, hcz52_1, hcz52_2, hcz52_3, hcz52_4, hcz52_5, hcz52_6⟩, hfz52_0, hfz52_1, hfz52_2, hfz52_3, hfz52_4, hfz52_5, hfz52_6⟩ := c7 BK159.out
              go_wp2
              repeat (go_quiet (fail); try go_wp2)
              go_ret
              exact ⟨rE, bA⟩
          ·rw [if_neg c43] at H
           have c43b0 : (((rd_T62 l1 a2).f0) == 2) = false := beq_eq_false_iff_ne.mpr c43
           have c43b1 : (((rd_T62 l1 a2).f0) != 2) = true := bne_iff_ne.mpr c43
           by_cases c53 : ((rd_T62 l1 a2).f0) = 3
           ·rw [if_pos c53] at H
            have c53b0 : (((rd_T62 l1 a2).f0) == 3) = true := beq_iff_eq.mpr c53
            have c53b1 : (((rd_T62 l1 a2).f0) != 3) = false := bne_eq_false_iff_eq.mpr c53
            clear c53
            by_cases c54 : 0 < (x8_1.length : Int)
            ·rw [if_pos c54] at H
             have c54b0 : decide (0 < (x8_1.length : Int)) = true := decide_eq_true c54
             have c54b1 : decide (0 < x8_1.length) = true := decide_eq_true (by omega)
             clear c54
             by_cases c55 : ((rd_T62 l1 a2).f2) ≥ (rd x8_1 0)
             ·rw [if_pos c55] at H
              have c55b0 : decide ((rd x8_1 0) ≤ ((rd_T62 l1 a2).f2)) = true := decide_eq_true c55
              clear c55
              obtain rfl := Option.some.inj H
              obtain ⟨⟨hcz56_0, hcz56_1, hcz56_2, hcz56_3, hcz56_4, hcz56_5, hcz56_6⟩, hfz56_0, hfz56_1, hfz56_2, hfz56_3, hfz56_4, hfz56_5, hfz56_6⟩ := c7 BK159.out
              obtain ⟨Ao57, co57, eo57⟩ := Kd.R_slice HO_8.out
              subst eo57
              have p177 : 0 ≤ (0 : Int) := (by omega)
              have q177 : 0 < (x8_1.length : Int) := of_decide_eq_true (by assumption)
              obtain ⟨ad177, e177, hx177_0⟩ := Kd.at_int (Kd.R_reads' HO_8.out).2.2 0 p177 q177
              cases e177
              have qi177 : (0 < x8_1.length) = True := eq_true (by omega)
              (try rw [show ((0 : Int)).toNat = 0 from rfl] at hx177_0)
              (try rw [Addr.add_zero'] at hx177_0)
              replace p177 := eq_true p177
              replace q177 := eq_true q177
              go_wp2
              repeat (go_quiet (fail); try go_wp2)
              go_ret
              exact ⟨rE, bA⟩
             ·rw [if_neg c55] at H
              have c55b0 : decide ((rd x8_1 0) ≤ ((rd_T62 l1 a2).f2)) = false := decide_eq_false c55
              clear c55
              by_cases c58 : 1 < (x8_1.length : Int)
              ·rw [if_pos c58] at H
               have c58b0 : decide (1 < (x8_1.length : Int)) = true := decide_eq_true c58
               have c58b1 : decide (1 < x8_1.length) = true := decide_eq_true (by omega)
               clear c58
               by_cases c59 : ((rd_T62 l1 a2).f4) ≥ (rd x8_1 1)
               ·rw [if_pos c59] at H
                have c59b0 : decide ((rd x8_1 1) ≤ ((rd_T62 l1 a2).f4)) = true := decide_eq_true c59
                clear c59
                obtain rfl := Option.some.inj H
                obtain ⟨⟨hcz60_0, hcz60_1, hcz60_2, hcz60_3, hcz60_4, hcz60_5, hcz60_6⟩, hfz60_0, hfz60_1, hfz60_2, hfz60_3, hfz60_4, hfz60_5, hfz60_6⟩ := c7 BK159.out
                obtain ⟨Ao61, co61, eo61⟩ := Kd.R_slice HO_8.out
                subst eo61
                have p177 : 0 ≤ (0 : Int) := (by omega)
                have q177 : 0 < (x8_1.length : Int) := of_decide_eq_true (by assumption)
                obtain ⟨ad177, e177, hx177_0⟩ := Kd.at_int (Kd.R_reads' HO_8.out).2.2 0 p177 q177
                cases e177
                have qi177 : (0 < x8_1.length) = True := eq_true (by omega)
                (try rw [show ((0 : Int)).toNat = 0 from rfl] at hx177_0)
                (try rw [Addr.add_zero'] at hx177_0)
                replace p177 := eq_true p177
                replace q177 := eq_true q177
                have p178 : 0 ≤ (1 : Int) := (by omega)
                have q178 : 1 < (x8_1.length : Int) := of_decide_eq_true (by assumption)
                obtain ⟨ad178, e178, hx178_0⟩ := Kd.at_int (Kd.R_reads' HO_8.out).2.2 1 p178 q178
                obtain rfl : ad177 = ad178 := (by injection e178)
                (try simp only [show (1 : Int).toNat = 1 from rfl, Nat.reduceMul, Nat.reduceEqDiff, Go.Addr.add, ↓reduceIte] at hx178_0)
                have qi178 : (1 < x8_1.length) = True := eq_true (by omega)
                (try rw [show ((1 : Int)).toNat = 1 from rfl] at hx178_0)
                replace p178 := eq_true p178
                replace q178 := eq_true q178
                go_wp2
                repeat (go_quiet (fail); try go_wp2)
                go_ret
                exact ⟨rE, bA⟩
               ·rw [if_neg c59] at H
                have c59b0 : decide ((rd x8_1 1) ≤ ((rd_T62 l1 a2).f4)) = false := decide_eq_false c59
                clear c59
                by_cases c62 : (wrap64 ((rd x8_1 0) + (rd x8_1 1))) > 64
                ·rw [if_pos c62] at H
                 have c62b0 : decide (64 < (wrap64 ((rd x8_1 0) + (rd x8_1 1)))) = true := decide_eq_true c62
                 clear c62
                 obtain rfl := Option.some.inj H
                 obtain ⟨⟨hcz63_0, hcz63_1, hcz63_2, hcz63_3, hcz63_4, hcz63_5, hcz63_6⟩, hfz63_0, hfz63_1, hfz63_2, hfz63_3, hfz63_4, hfz63_5, hfz63_6⟩ := c7 BK159.out
                 obtain ⟨Ao64, co64, eo64⟩ := Kd.R_slice HO_8.out
                 subst eo64
                 have p177 : 0 ≤ (0 : Int) := (by omega)
                 have q177 : 0 < (x8_1.length : Int) := of_decide_eq_true (by assumption)
                 obtain ⟨ad177, e177, hx177_0⟩ := Kd.at_int (Kd.R_reads' HO_8.out).2.2 0 p177 q177
                 cases e177
                 have qi177 : (0 < x8_1.length) = True := eq_true (by omega)
                 (try rw [show ((0 : Int)).toNat = 0 from rfl] at hx177_0)
                 (try rw [Addr.add_zero'] at hx177_0)
                 replace p177 := eq_true p177
                 replace q177 := eq_true q177
                 have p178 : 0 ≤ (1 : Int) := (by omega)
                 have q178 : 1 < (x8_1.length : Int) := of_decide_eq_true (by assumption)
                 obtain ⟨ad178, e178, hx178_0⟩ := Kd.at_int (Kd.R_reads' HO_8.out).2.2 1 p178 q178
                 obtain rfl : ad177 = ad178 := (by injection e178)
                 (try simp only [show (1 : Int).toNat = 1 from rfl, Nat.reduceMul, Nat.reduceEqDiff, Go.Addr.add, ↓reduceIte] at hx178_0)
                 have qi178 : (1 < x8_1.length) = True := eq_true (by omega)
                 (try rw [show ((1 : Int)).toNat = 1 from rfl] at hx178_0)
                 replace p178 := eq_true p178
                 replace q178 := eq_true q178
                 have p179 : 0 ≤ (0 : Int) := (by omega)
                 have q179 : 0 < (x8_1.length : Int) := of_decide_eq_true (by assumption)
                 obtain ⟨ad179, e179, hx179_0⟩ := Kd.at_int (Kd.R_reads' HO_8.out).2.2 0 p179 q179
                 obtain rfl : ad177 = ad179 := (by injection e179)
                 have qi179 : (0 < x8_1.length) = True := eq_true (by omega)
                 (try rw [show ((0 : Int)).toNat = 0 from rfl] at hx179_0)
                 (try rw [Addr.add_zero'] at hx179_0)
                 replace p179 := eq_true p179
                 replace q179 := eq_true q179
                 have p180 : 0 ≤ (1 : Int) := (by omega)
                 have q180 : 1 < (x8_1.length : Int) := of_decide_eq_true (by assumption)
                 obtain ⟨ad180, e180, hx180_0⟩ := Kd.at_int (Kd.R_reads' HO_8.out).2.2 1 p180 q180
                 obtain rfl : ad177 = ad180 := (by injection e180)
                 (try simp only [show (1 : Int).toNat = 1 from rfl, Nat.reduceMul, Nat.reduceEqDiff, Go.Addr.add, ↓reduceIte] at hx180_0)
                 have qi180 : (1 < x8_1.length) = True := eq_true (by omega)
                 (try rw [show ((1 : Int)).toNat = 1 from rfl] at hx180_0)
                 replace p180 := eq_true p180
                 replace q180 := eq_true q180
                 go_wp2
                 repeat (go_quiet (fail); try go_wp2)
                 go_ret
                 exact ⟨rE, bA⟩
                ·rw [if_neg c62] at H
                 have c62b0 : decide (64 < (wrap64 ((rd x8_1 0) + (rd x8_1 1)))) = false := decide_eq_false c62
                 clear c62
                 obtain rfl := Option.some.inj H
                 obtain ⟨⟨hcz65_0, hcz65_1, hcz65_2, hcz65_3, hcz65_4, hcz65_5, hcz65_6⟩, hfz65_0, hfz65_1, hfz65_2, hfz65_3, hfz65_4, hfz65_5, hfz65_6⟩ := c7 BK159.out
                 obtain ⟨Ao66, co66, eo66⟩ := Kd.R_slice HO_8.out
                 subst eo66
                 have p177 : 0 ≤ (0 : Int) := (by omega)
                 have q177 : 0 < (x8_1.length : Int) := of_decide_eq_true (by assumption)
                 obtain ⟨ad177, e177, hx177_0⟩ := Kd.at_int (Kd.R_reads' HO_8.out).2.2 0 p177 q177
                 cases e177
                 have qi177 : (0 < x8_1.length) = True := eq_true (by omega)
                 (try rw [show ((0 : Int)).toNat = 0 from rfl] at hx177_0)
                 (try rw [Addr.add_zero'] at hx177_0)
                 replace p177 := eq_true p177
                 replace q177 := eq_true q177
                 have p178 : 0 ≤ (1 : Int) := (by omega)
                 have q178 : 1 < (x8_1.length : Int) := of_decide_eq_true (by assumption)
                 obtain ⟨ad178, e178, hx178_0⟩ := Kd.at_int (Kd.R_reads' HO_8.out).2.2 1 p178 q178
                 obtain rfl : ad177 = ad178 := (by injection e178)
                 (try simp only [show (1 : Int).toNat = 1 from rfl, Nat.reduceMul, Nat.reduceEqDiff, Go.Addr.add, ↓reduceIte] at hx178_0)
                 have qi178 : (1 < x8_1.length) = True := eq_true (by omega)
                 (try rw [show ((1 : Int)).toNat = 1 from rfl] at hx178_0)
                 replace p178 := eq_true p178
                 replace q178 := eq_true q178
                 have p179 : 0 ≤ (0 : Int) := (by omega)
                 have q179 : 0 < (x8_1.length : Int) := of_decide_eq_true (by assumption)
                 obtain ⟨ad179, e179, hx179_0⟩ := Kd.at_int (Kd.R_reads' HO_8.out).2.2 0 p179 q179
                 obtain rfl : ad177 = ad179 := (by injection e179)
                 have qi179 : (0 < x8_1.length) = True := eq_true (by omega)
                 (try rw [show ((0 : Int)).toNat = 0 from rfl] at hx179_0)
                 (try rw [Addr.add_zero'] at hx179_0)
                 replace p179 := eq_true p179
                 replace q179 := eq_true q179
                 have p180 : 0 ≤ (1 : Int) := (by omega)
                 have q180 : 1 < (x8_1.length : Int) := of_decide_eq_true (by assumption)
                 obtain ⟨ad180, e180, hx180_0⟩ := Kd.at_int (Kd.R_reads' HO_8.out).2.2 1 p180 q180
                 obtain rfl : ad177 = ad180 := (by injection e180)
                 (try simp only [show (1 : Int).toNat = 1 from rfl, Nat.reduceMul, Nat.reduceEqDiff, Go.Addr.add, ↓reduceIte] at hx180_0)
                 have qi180 : (1 < x8_1.length) = True := eq_true (by omega)
                 (try rw [show ((1 : Int)).toNat = 1 from rfl] at hx180_0)
                 replace p180 := eq_true p180
                 replace q180 := eq_true q180
                 have p181 : 0 ≤ (0 : Int) := (by omega)
                 have q181 : 0 < (x8_1.length : Int) := of_decide_eq_true (by assumption)
                 obtain ⟨ad181, e181, hx181_0⟩ := Kd.at_int (Kd.R_reads' HO_8.out).2.2 0 p181 q181
                 obtain rfl : ad177 = ad181 := (by injection e181)
                 have qi181 : (0 < x8_1.length) = True := eq_true (by omega)
                 (try rw [show ((0 : Int)).toNat = 0 from rfl] at hx181_0)
                 (try rw [Addr.add_zero'] at hx181_0)
                 replace p181 := eq_true p181
                 replace q181 := eq_true q181
                 have p182 : 0 ≤ (1 : Int) := (by omega)
                 have q182 : 1 < (x8_1.length : Int) := of_decide_eq_true (by assumption)
                 obtain ⟨ad182, e182, hx182_0⟩ := Kd.at_int (Kd.R_reads' HO_8.out).2.2 1 p182 q182
                 obtain rfl : ad177 = ad182 := (by injection e182)
                 (try simp only [show (1 : Int).toNat = 1 from rfl, Nat.reduceMul, Nat.reduceEqDiff, Go.Addr.add, ↓reduceIte] at hx182_0)
                 have qi182 : (1 < x8_1.length) = True := eq_true (by omega)
                 (try rw [show ((1 : Int)).toNat = 1 from rfl] at hx182_0)
                 replace p182 := eq_true p182
                 replace q182 := eq_true q182
                 go_wp2
                 repeat (go_quiet (fail); try go_wp2)
                 go_ret
                 exact ⟨rE, bA⟩
              ·rw [if_neg c58] at H
               exact absurd H (by simp)
            ·rw [if_neg c54] at H
             exact absurd H (by simp)
           ·rw [if_neg c53] at H
            have c53b0 : (((rd_T62 l1 a2).f0) == 3) = false := beq_eq_false_iff_ne.mpr c53
            have c53b1 : (((rd_T62 l1 a2).f0) != 3) = true := bne_iff_ne.mpr c53
            by_cases c67 : ((rd_T62 l1 a2).f0) = 4
            ·rw [if_pos c67] at H
             have c67b0 : (((rd_T62 l1 a2).f0) == 4) = true := beq_iff_eq.mpr c67
             have c67b1 : (((rd_T62 l1 a2).f0) != 4) = false := bne_eq_false_iff_eq.mpr c67
             clear c67
             by_cases c68 : 0 < (x8_1.length : Int)
             ·rw [if_pos c68] at H
              have c68b0 : decide (0 < (x8_1.length : Int)) = true := decide_eq_true c68
              have c68b1 : decide (0 < x8_1.length) = true := decide_eq_true (by omega)
              clear c68
              by_cases c69 : 1 < (x8_1.length : Int)
              ·rw [if_pos c69] at H
               have c69b0 : decide (1 < (x8_1.length : Int)) = true := decide_eq_true c69
               have c69b1 : decide (1 < x8_1.length) = true := decide_eq_true (by omega)
               clear c69
               by_cases c70 : (rd x8_1 0) = (rd x8_1 1)
               ·rw [if_pos c70] at H
                have c70b0 : ((rd x8_1 0) == (rd x8_1 1)) = true := beq_iff_eq.mpr c70
                have c70b1 : ((rd x8_1 0) != (rd x8_1 1)) = false := bne_eq_false_iff_eq.mpr c70
                clear c70
                obtain rfl := Option.some.inj H
                obtain ⟨Ao71, co71, eo71⟩ := Kd.R_slice HO_8.out
                subst eo71
                have p183 : 0 ≤ (0 : Int) := (by omega)
                have q183 : 0 < (x8_1.length : Int) := of_decide_eq_true (by assumption)
                obtain ⟨ad183, e183, hx183_0⟩ := Kd.at_int (Kd.R_reads' HO_8.out).2.2 0 p183 q183
                cases e183
                have qi183 : (0 < x8_1.length) = True := eq_true (by omega)
                (try rw [show ((0 : Int)).toNat = 0 from rfl] at hx183_0)
                (try rw [Addr.add_zero'] at hx183_0)
                replace p183 := eq_true p183
                replace q183 := eq_true q183
                have p184 : 0 ≤ (1 : Int) := (by omega)
                have q184 : 1 < (x8_1.length : Int) := of_decide_eq_true (by assumption)
                obtain ⟨ad184, e184, hx184_0⟩ := Kd.at_int (Kd.R_reads' HO_8.out).2.2 1 p184 q184
                obtain rfl : ad183 = ad184 := (by injection e184)
                (try simp only [show (1 : Int).toNat = 1 from rfl, Nat.reduceMul, Nat.reduceEqDiff, Go.Addr.add, ↓reduceIte] at hx184_0)
                have qi184 : (1 < x8_1.length) = True := eq_true (by omega)
                (try rw [show ((1 : Int)).toNat = 1 from rfl] at hx184_0)
                replace p184 := eq_true p184
                replace q184 := eq_true q184
                have p185 : 0 ≤ (0 : Int) := (by omega)
                have q185 : 0 < (x8_1.length : Int) := of_decide_eq_true (by assumption)
                obtain ⟨ad185, e185, hx185_0⟩ := Kd.at_int (Kd.R_reads' HO_8.out).2.2 0 p185 q185
                obtain rfl : ad183 = ad185 := (by injection e185)
                have qi185 : (0 < x8_1.length) = True := eq_true (by omega)
                (try rw [show ((0 : Int)).toNat = 0 from rfl] at hx185_0)
                (try rw [Addr.add_zero'] at hx185_0)
                replace p185 := eq_true p185
                replace q185 := eq_true q185
                go_wp2
                repeat (go_quiet (fail); try go_wp2)
                go_ret
                exact ⟨rE, bA⟩
               ·rw [if_neg c70] at H
                have c70b0 : ((rd x8_1 0) == (rd x8_1 1)) = false := beq_eq_false_iff_ne.mpr c70
                have c70b1 : ((rd x8_1 0) != (rd x8_1 1)) = true := bne_iff_ne.mpr c70
                obtain rfl := Option.some.inj H
                obtain ⟨Ao72, co72, eo72⟩ := Kd.R_slice HO_8.out
                subst eo72
                have p183 : 0 ≤ (0 : Int) := (by omega)
                have q183 : 0 < (x8_1.length : Int) := of_decide_eq_true (by assumption)
                obtain ⟨ad183, e183, hx183_0⟩ := Kd.at_int (Kd.R_reads' HO_8.out).2.2 0 p183 q183
                cases e183
                have qi183 : (0 < x8_1.length) = True := eq_true (by omega)
                (try rw [show ((0 : Int)).toNat = 0 from rfl] at hx183_0)
                (try rw [Addr.add_zero'] at hx183_0)
                replace p183 := eq_true p183
                replace q183 := eq_true q183
                have p184 : 0 ≤ (1 : Int) := (by omega)
                have q184 : 1 < (x8_1.length : Int) := of_decide_eq_true (by assumption)
                obtain ⟨ad184, e184, hx184_0⟩ := Kd.at_int (Kd.R_reads' HO_8.out).2.2 1 p184 q184
                obtain rfl : ad183 = ad184 := (by injection e184)
                (try simp only [show (1 : Int).toNat = 1 from rfl, Nat.reduceMul, Nat.reduceEqDiff, Go.Addr.add, ↓reduceIte] at hx184_0)
                have qi184 : (1 < x8_1.length) = True := eq_true (by omega)
                (try rw [show ((1 : Int)).toNat = 1 from rfl] at hx184_0)
                replace p184 := eq_true p184
                replace q184 := eq_true q184
                go_wp2
                repeat (go_quiet (fail); try go_wp2)
                go_ret
                exact ⟨rE, bA⟩
              ·rw [if_neg c69] at H
               exact absurd H (by simp)
             ·rw [if_neg c68] at H
              exact absurd H (by simp)
            ·rw [if_neg c67] at H
             have c67b0 : (((rd_T62 l1 a2).f0) == 4) = false := beq_eq_false_iff_ne.mpr c67
             have c67b1 : (((rd_T62 l1 a2).f0) != 4) = true := bne_iff_ne.mpr c67
             by_cases c73 : 0 < (x8_1.length : Int)
             ·rw [if_pos c73] at H
              have c73b0 : decide (0 < (x8_1.length : Int)) = true := decide_eq_true c73
              have c73b1 : decide (0 < x8_1.length) = true := decide_eq_true (by omega)
              clear c73
              obtain rfl := Option.some.inj H
              obtain ⟨Ao74, co74, eo74⟩ := Kd.R_slice HO_8.out
              subst eo74
              have p186 : 0 ≤ (0 : Int) := (by omega)
              have q186 : 0 < (x8_1.length : Int) := of_decide_eq_true (by assumption)
              obtain ⟨ad186, e186, hx186_0⟩ := Kd.at_int (Kd.R_reads' HO_8.out).2.2 0 p186 q186
              cases e186
              have qi186 : (0 < x8_1.length) = True := eq_true (by omega)
              (try rw [show ((0 : Int)).toNat = 0 from rfl] at hx186_0)
              (try rw [Addr.add_zero'] at hx186_0)
              replace p186 := eq_true p186
              replace q186 := eq_true q186
              go_wp2
              repeat (go_quiet (fail); try go_wp2)
              go_ret
              exact ⟨rE, bA⟩
             ·rw [if_neg c73] at H
              exact absurd H (by simp)
  ·rw [if_neg c5] at H
   exact absurd H (by simp)
 ·rw [if_neg c4] at H
  exact absurd H (by simp)

end Go.Proofs.Ytgmhohafoclmpaa.Q
