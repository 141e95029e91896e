/- The machine side of a law, written by a program of this session over the translation: for each Go function a Lean function with the same answers, and the proof that the Go code comes to them. -/
import Derived.Test.YtgmhohafoclmpaaQx0
import Derived.Test.YtgmhohafoclmpaaQx9
namespace Go.Proofs.Ytgmhohafoclmpaa.Q
open Go.RowKit Go.Proofs.Ytgmhohafoclmpaa.Own Go.Proofs.YtgmhohafoclmpaaW.PrintWords Go.Proofs.YtgmhohafoclmpaaW.PrintLast Go.Proofs.YtgmhohafoclmpaaW.PrintMore
attribute [local go_sem] max2_int min2_int max_two min_two max_three min_three max_four min_four   -- for this text's walks alone
set_option linter.unusedVariables false
set_option linter.unusedSimpArgs false

/-! ### impl_width: function 44 -/
mutual
def impl_width.l0 : Nat → List (S60) → List (S62) → Int → List Int → List Int → Int → Int → Option (Int)
 | 0, _, _, _, _, _, _, _ => none
 | k + 1, x0, x1, x2, x7, x15, x16, x17 => if x17 < x16 then (if 0 ≤ x17 then (if x17 < (x15.length : Int) then ((impl_width.f k x0 x1 (rd x15 x17)).bind fun t292 => (if t292 < 0 then (some (-1)) else (if x7.length < 17592186044416 then (impl_width.l0 k x0 x1 x2 (x7 ++ [t292]) x15 x16 (wrap64 (x17 + 1))) else (none)))) else (none)) else (none)) else (if 0 ≤ x2 then (if x2 < (x1.length : Int) then (if ((rd_T62 x1 x2).f0) = 0 then ((impl_tableAt.f k x0 ((rd_T62 x1 x2).f1)).bind fun t298 => (if t298 < 0 then (some (-1)) else (if 0 ≤ t298 then (if t298 < (x0.length : Int) then (some ((rd_T60 x0 t298).f1)) else (none)) else (none)))) else (if ((rd_T62 x1 x2).f0) = 1 then (impl_width.j1 k x7 ((rd_T62 x1 x2).f0) (((rd_T62 x1 x2).f0) == 1) ((rd_T62 x1 x2).f0) ((rd_T62 x1 x2).f1) ((rd_T62 x1 x2).f2) ((rd_T62 x1 x2).f3) ((rd_T62 x1 x2).f4) ((rd_T62 x1 x2).f5) ((rd_T62 x1 x2).f6)) else (impl_width.j1 k x7 ((rd_T62 x1 x2).f0) (((rd_T62 x1 x2).f0) == 5) ((rd_T62 x1 x2).f0) ((rd_T62 x1 x2).f1) ((rd_T62 x1 x2).f2) ((rd_T62 x1 x2).f3) ((rd_T62 x1 x2).f4) ((rd_T62 x1 x2).f5) ((rd_T62 x1 x2).f6)))) else (none)) else (none))
def impl_width.j1 : Nat → List Int → Int → Bool → Int → ByteArray → Int → Int → Int → Bool → List Int → Option (Int)
 | 0, _, _, _, _, _, _, _, _, _, _ => none
 | k + 1, x7, x37, x51, x298000, x298001, x298002, x298003, x298004, x298005, x298006 => if x51 = true then (if 0 < (x7.length : Int) then (if x298002 ≥ (rd x7 0) then (some (-1)) else (some (rd x7 0))) else (none)) else (if x37 = 2 then ((slices_Max_int_int.f k x298006).bind fun t302 => (if 0 < (x7.length : Int) then (if t302 ≥ (rd x7 0) then (some (-1)) else (some (x298006.length : Int))) else (none))) else (if x37 = 3 then (if 0 < (x7.length : Int) then (if x298002 ≥ (rd x7 0) then (some (-1)) else (if 1 < (x7.length : Int) then (if x298004 ≥ (rd x7 1) then (some (-1)) else (if (wrap64 ((rd x7 0) + (rd x7 1))) > 64 then (some (-1)) else (some (wrap64 ((rd x7 0) + (rd x7 1)))))) else (none))) else (none)) else (if x37 = 4 then (if 0 < (x7.length : Int) then (if 1 < (x7.length : Int) then (if (rd x7 0) = (rd x7 1) then (some (rd x7 0)) else (some (-1))) else (none)) else (none)) else (if 0 < (x7.length : Int) then (some (rd x7 0)) else (none)))))
def impl_width.f : Nat → List (S60) → List (S62) → Int → Option (Int)
 | 0, _, _, _ => none
 | k + 1, l0, l1, a2 => (impl_children.f k l1 a2).bind fun t288 => (impl_width.l0 k l0 l1 a2 ([] : List Int) t288 (t288.length : Int) 0)
end
theorem impl_width.mono_l : ∀ k, (∀ y0 y1 y2, LeO (impl_width.f k y0 y1 y2) (impl_width.f (k + 1) y0 y1 y2)) ∧ (∀ y0 y1 y2 y3 y4 y5 y6, LeO (impl_width.l0 k y0 y1 y2 y3 y4 y5 y6) (impl_width.l0 (k + 1) y0 y1 y2 y3 y4 y5 y6)) ∧ (∀ y0 y1 y2 y3 y4 y5 y6 y7 y8 y9, LeO (impl_width.j1 k y0 y1 y2 y3 y4 y5 y6 y7 y8 y9) (impl_width.j1 (k + 1) y0 y1 y2 y3 y4 y5 y6 y7 y8 y9))
 | 0 => ⟨fun _ _ _ r h => by simp [impl_width.f] at h, fun _ _ _ _ _ _ _ r h => by simp [impl_width.l0] at h, fun _ _ _ _ _ _ _ _ _ _ r h => by simp [impl_width.j1] at h⟩
 | k + 1 => by
  obtain ⟨ih0, ih1, ih2⟩ := impl_width.mono_l k
  refine ⟨?_, ?_, ?_⟩ <;> intros <;> (first | unfold impl_width.f | unfold impl_width.l0 | unfold impl_width.j1)
  all_goals repeat' first
  | (with_reducible exact ih0 _ _ _)
  | (with_reducible exact ih1 _ _ _ _ _ _ _)
  | (with_reducible exact ih2 _ _ _ _ _ _ _ _ _ _)
  | (with_reducible exact impl_children.mono _ _ _)
  | (with_reducible exact impl_tableAt.mono _ _ _)
  | (with_reducible exact slices_Max_int_int.mono _ _)
  | (with_reducible exact LeO.refl _)
  | (with_reducible exact LeO.none _)
  | (with_reducible refine LeO.ite ?_ ?_)
  | (with_reducible refine LeO.bind ?_ (fun _ => ?_))
  | exact ih0 _ _ _
  | exact ih1 _ _ _ _ _ _ _
  | exact ih2 _ _ _ _ _ _ _ _ _ _
  | exact impl_children.mono _ _ _
  | exact impl_tableAt.mono _ _ _
  | exact slices_Max_int_int.mono _ _
  | exact LeO.none _
  | refine LeO.ite ?_ ?_
  | refine LeO.bind ?_ (fun _ => ?_)
theorem impl_width.mono : ∀ a0 a1 a2 k, LeO (impl_width.f k a0 a1 a2) (impl_width.f (k + 1) a0 a1 a2) := by
 intro a0 a1 a2 k
 obtain ⟨ih0, ih1, ih2⟩ := impl_width.mono_l k
 exact ih0 a0 a1 a2
def impl_width.T26 : Bool × List (List Nat × List Nat) := (true, [([], []), ([0], [0]), ([], []), ([2], [2]), ([3], [3]), ([1, 4], [1, 4]), ([5], [5]), ([6], [6]), ([7, 6], [6, 7]), ([6], [6]), ([9, 6], [6, 9]), ([10, 6], [6, 10]), ([8, 11, 6], [6, 8, 11]), ([6, 12], [6, 12]), ([13, 6], [13]), ([14], [14]), ([15, 14], [14, 15]), ([16, 14], [14, 16]), ([14], [14]), ([18, 14], [14, 18]), ([19, 14], [14, 19]), ([17, 20, 14], [14, 17, 20]), ([21, 14], [14, 21]), ([14, 22], [14, 22])])
def impl_width.B26 : List Nat := [0, 1, 0, 4, 12, 31, 63, 127, 255, 127, 639, 1663, 4095, 8191, 16383, 32767, 65535, 131071, 32767, 294911, 819199, 2097151, 4194303, 8388607]
theorem impl_width.tab26 : rtab .any (opsOf Try.f44 26) = impl_width.T26 := by kernel_rfl
theorem impl_width.bits26 : waitsOk impl_width.T26.2 impl_width.B26 = true := by kernel_rfl
def impl_width.T28 : Bool × List (List Nat × List Nat) := (true, [([], []), ([0], [0]), ([1], [1]), ([], []), ([3], [3]), ([4], [4]), ([2, 5], [2, 5]), ([6, 0, 1, 2, 3, 4, 5, 6], [6])])
def impl_width.B28 : List Nat := [0, 1, 3, 0, 8, 24, 63, 127]
theorem impl_width.tab28 : rtab .any (opsOf Try.f44 28) = impl_width.T28 := by kernel_rfl
theorem impl_width.bits28 : waitsOk impl_width.T28.2 impl_width.B28 = true := by kernel_rfl
set_option maxHeartbeats 8000000 in
set_option maxRecDepth 100000 in
theorem impl_width.calls (k : Nat) : ∀ (A0 : Option Addr) (c0 : Nat) (l0 : List (S60)) (A1 : Option Addr) (c1 : Nat) (l1 : List (S62)) (a2 : Int) (r : Int) (w : World) (hr0 : Kd.C k60 w A0 l0.length l0) (hc0 : l0.length ≤ c0) (hr1 : Kd.C k62 w A1 l1.length l1) (hc1 : l1.length ≤ c1) (h : impl_width.f k l0 l1 a2 = some r),
  Calls Try.prog 44 #[.slice A0 l0.length c0, .slice A1 l1.length c1, .int .i64 a2] w fun e w' => e = .returned (.int .i64 r) ∧ Below w.heap.size w w' := by
 induction k using Nat.strongRecOn with
 | _ k ih =>
 intro A0 c0 l0 A1 c1 l1 a2 r w hr0 hc0 hr1 hc1 h
 cases k with
 | zero => exact absurd h (by simp [impl_width.f])
 | succ k =>
 simp only [impl_width.f] at h
 have hu62 := Try.underlying62
 have HR0 := Aside0.mk hr0
 have HC0 := Aside0.mk hc0
 clear hr0 hc0
 have HR1 := Aside0.mk hr1
 have HC1 := Aside0.mk hc1
 clear hr1 hc1
 have HB := Aside0.mk (Below.refl w.heap.size w)
 have H : ((impl_children.f k l1 a2).bind fun t288 => (impl_width.l0 k l0 l1 a2 ([] : List Int) t288 (t288.length : Int) 0)) = some r := h
 clear h
 replace H := Option.bind_eq_some_iff.mp H
 obtain ⟨t288, A40, H⟩ := H
 replace H : (impl_width.l0 k l0 l1 a2 ([] : List Int) t288 (t288.length : Int) 0) = some r := H
 have A4 := Aside0.mk A40
 clear A40
 have H' := Aside0.mk H
 clear H
 go_enter Try.func44, Try.ntmps44
 go_wp2_with (first | ((with_reducible refine gate_callee (f := 79) rfl ?_); refine goesL_ (some 15) rfl rfl Try.func79 (by kernel_rfl) rfl #[.slice A1 l1.length c1, .int .i64 a2] rfl aL ?_; (with_reducible refine (impl_children.calls k _ _ l1 a2 t288 _ ?side1 ?side2 A4.out).mono ?_); (case side1 => exact cA); (case side2 => exact HC1.out); rintro e w5 ⟨v289, rfl, ho0, hb⟩; refine ⟨_, rfl, ?_⟩; have n0_ := Aside0.mk (Kd.R_lower ho0 (below_size bA)); have n1_ := Aside0.mk (below_step bA hb); clear HB; have HO290 := n0_; have HB := n1_; clear n0_ n1_; (try clear hb); (try clear hb2); (try clear hk); (try clear hi); (try clear ho0); obtain ⟨Ao6, co6, eo6⟩ := Kd.R_slice HO290.out; subst eo6))
 go_loopg [7, 17] k (fun kq v7 v17 w' => ∃ (x7_1 : List Int) (x17_1 : Int), v17 = .int .i64 x17_1 ∧ Aside0 (impl_width.l0 kq l0 l1 a2 x7_1 t288 (t288.length : Int) x17_1 = some r) ∧ Aside0 (kq ≤ k) ∧ Aside0 (Kd.R (Kd.int .i64) 3 w' w.heap.size (fun k_ => some k_ ≠ ((.slice Ao6 t288.length co6) : Value).ownBlock) v7 x7_1) ∧ Aside0 (Kd.R (Kd.int .i64) 3 w' w.heap.size (fun k_ => some k_ ≠ (v7 : Value).ownBlock) (.slice Ao6 t288.length co6) t288) ∧ Aside0 (Below w.heap.size w w'))
 case atStart => exact ⟨(([] : List Int)), (0), rF, H', ⟨Nat.le_refl _⟩, ⟨by first | exact Kd.R_nil _ _ _ _ _ | exact Kd.N_nil _ _ _ _ _ | exact Kd.V_nil _ _ _ _ _ | exact Kd.Q_nil _ _ _ _ _ | exact Kd.S_nil _ _ _ _ _⟩, ⟨by (with_reducible repeat (first | apply Kd.R_alloc | apply Kd.R_drewN | apply Kd.R_drew)); exact Kd.R_mono HO290.out (fun _ hk => (by simp [Value.ownBlock]))⟩, ⟨bA⟩⟩
 case round =>
  clear H'
  try clear c1
  try clear p2
  try clear c4
  obtain ⟨x7_1, x17_1, rfl, HA, HK1, HO_7, HO_15, HB⟩ := hrel
  cases gk with
  | zero => exact absurd HA.out (by simp [impl_width.l0])
  | succ k1 =>
   have H := HA.out
   clear HA
   simp only [impl_width.l0] at H
   by_cases c7 : x17_1 < (t288.length : Int)
   ·rw [if_pos c7] at H
    have c7b0 : decide (x17_1 < (t288.length : Int)) = true := decide_eq_true c7
    clear c7
    by_cases c8 : 0 ≤ x17_1
    ·rw [if_pos c8] at H
     have c8b0 : decide (0 ≤ x17_1) = true := decide_eq_true c8
     clear c8
     by_cases c9 : x17_1 < (t288.length : Int)
     ·rw [if_pos c9] at H
      have c9b0 : decide (x17_1 < (t288.length : Int)) = true := decide_eq_true c9
      clear c9
      replace H := Option.bind_eq_some_iff.mp H
      obtain ⟨t292, A100, H⟩ := H
      replace H : (if t292 < 0 then (some (-1)) else (if x7_1.length < 17592186044416 then (impl_width.l0 k1 l0 l1 a2 (x7_1 ++ [t292]) t288 (t288.length : Int) (wrap64 (x17_1 + 1))) else (none))) = some r := H
      have A10 := Aside0.mk A100
      clear A100
      by_cases c11 : t292 < 0
      ·rw [if_pos c11] at H
       have c11b0 : decide (t292 < 0) = true := decide_eq_true c11
       clear c11
       obtain rfl := Option.some.inj H
       have p291 : 0 ≤ (x17_1 : Int) := of_decide_eq_true (by assumption)
       have q291 : x17_1 < (t288.length : Int) := of_decide_eq_true (by assumption)
       obtain ⟨ad291, e291, hx291_0⟩ := Kd.at_int (Kd.R_reads' HO_15.out).2.2 x17_1 p291 q291
       cases e291
       replace p291 := eq_true p291
       replace q291 := eq_true q291
       go_wp2_with (first | ((with_reducible refine gate_callee (f := 44) rfl ?_); refine goesL_ (some 24) rfl rfl Try.func44 (by kernel_rfl) rfl #[.slice A0 l0.length c0, .slice A1 l1.length c1, .int .i64 (rd t288 x17_1)] rfl aL ?_; (with_reducible refine (ih k1 (by have := HK1.out; omega) _ _ l0 _ _ l1 (rd t288 x17_1) t292 _ ?side1 ?side2 ?side3 ?side4 A10.out).mono ?_); (case side1 => exact cA); (case side2 => exact HC0.out); (case side3 => exact cA); (case side4 => exact HC1.out); rintro e w12 ⟨rfl, hb⟩; refine ⟨_, rfl, ?_⟩; have n0_ := Aside0.mk (Kd.R_below (by (with_reducible repeat (first | apply Kd.R_alloc | apply Kd.R_drewN | apply Kd.R_drew)); exact HO_7.out) hb); have n1_ := Aside0.mk (Kd.R_below (by (with_reducible repeat (first | apply Kd.R_alloc | apply Kd.R_drewN | apply Kd.R_drew)); exact HO_15.out) hb); have n2_ := Aside0.mk (below_step bA hb); clear HO_7; clear HO_15; clear HB; have HO_7 := n0_; have HO_15 := n1_; have HB := n2_; clear n0_ n1_ n2_; (try clear hb); (try clear hb2); (try clear hk); (try clear hi)))
       go_ret
       exact ⟨rE, bA⟩
      ·rw [if_neg c11] at H
       have c11b0 : decide (t292 < 0) = false := decide_eq_false c11
       clear c11
       by_cases c13 : x7_1.length < 17592186044416
       ·rw [if_pos c13] at H
        have LMc13 := Aside0.mk c13
        clear c13
        obtain ⟨y293, hy293⟩ : ∃ y_ : List Int, y_ = (x7_1 ++ [t292]) := ⟨_, rfl⟩
        replace H : (impl_width.l0 k1 l0 l1 a2 y293 t288 (t288.length : Int) (wrap64 (x17_1 + 1))) = some r := by first | (rw [hy293]; with_reducible exact H) | (have H2_ := (Option.bind_some _ _).symm.trans H; rw [hy293]; with_reducible exact H2_) | (have H2_ := (Option.bind_some _ _).symm.trans H; with_reducible exact H2_) | with_reducible exact H | (rw [hy293]; exact H) | exact H
        have Ny293 := Aside0.mk hy293
        clear hy293
        have H' := Aside0.mk H
        clear H
        have p291 : 0 ≤ (x17_1 : Int) := of_decide_eq_true (by assumption)
        have q291 : x17_1 < (t288.length : Int) := of_decide_eq_true (by assumption)
        obtain ⟨ad291, e291, hx291_0⟩ := Kd.at_int (Kd.R_reads' HO_15.out).2.2 x17_1 p291 q291
        cases e291
        replace p291 := eq_true p291
        replace q291 := eq_true q291
        go_wp2_with (first | ((with_reducible refine gate_callee (f := 44) rfl ?_); refine goesL_ (some 24) rfl rfl Try.func44 (by kernel_rfl) rfl #[.slice A0 l0.length c0, .slice A1 l1.length c1, .int .i64 (rd t288 x17_1)] rfl aL ?_; (with_reducible refine (ih k1 (by have := HK1.out; omega) _ _ l0 _ _ l1 (rd t288 x17_1) t292 _ ?side1 ?side2 ?side3 ?side4 A10.out).mono ?_); (case side1 => exact cA); (case side2 => exact HC0.out); (case side3 => exact cA); (case side4 => exact HC1.out); rintro e w14 ⟨rfl, hb⟩; refine ⟨_, rfl, ?_⟩; have n0_ := Aside0.mk (Kd.R_below (by (with_reducible repeat (first | apply Kd.R_alloc | apply Kd.R_drewN | apply Kd.R_drew)); exact HO_7.out) hb); have n1_ := Aside0.mk (Kd.R_below (by (with_reducible repeat (first | apply Kd.R_alloc | apply Kd.R_drewN | apply Kd.R_drew)); exact HO_15.out) hb); have n2_ := Aside0.mk (below_step bA hb); clear HO_7; clear HO_15; clear HB; have HO_7 := n0_; have HO_15 := n1_; have HB := n2_; clear n0_ n1_ n2_; (try clear hb); (try clear hb2); (try clear hk); (try clear hi)) | ((with_reducible refine gate_builtin (b := .append) (xs := #[.tmp 27, .tmp 29]) rfl ?_); at_builtin; refine Kd.R_append (Kd.int .i64) (w0 := w) w.heap.size rfl (.tmp 27) (.tmp 29) 55 3 (.int .i64 0) 8 rfl Try.underlying55 info3 rfl (by decide) (by omega) u7 x7_1 t292 [.int .i64 t292] (fun k_ => some k_ ≠ (.slice (some ad291) t288.length co6 : Value).ownBlock) (fun _ => False) rfl rfl ?aP (fun _ hk => hk.elim) ?aF ?aO ?aB ?aS ?aL ?_; (case aP => exact rfl); (case aB => exact bA); (case aF => exact (fun k_ hk => Kd.fresh' (Kd.R_lt (by (with_reducible repeat (first | apply Kd.R_alloc | apply Kd.R_drewN | apply Kd.R_drew)); exact HO_15.out)) k_ hk)); (case aO => exact (by (with_reducible repeat (first | apply Kd.R_alloc | apply Kd.R_drewN | apply Kd.R_drew)); exact HO_7.out)); (case aS => exact (below_size bA)); (case aL => have := LMc13.out; omega); intro v294 w15 ho hb hg hat; rw [← Ny293.out] at ho; have n0_ := Aside0.mk (Kd.R_after (ok := (fun _ => True)) (by (with_reducible repeat (first | apply Kd.R_alloc | apply Kd.R_drewN | apply Kd.R_drew)); exact Kd.R_mono HO_15.out (fun _ hk => ⟨trivial, hk⟩)) hg hat); have n1_ := Aside0.mk (hb); have n2_ := Aside0.mk (ho); clear HO_15; clear HB; clear HO_7; have HO_15 := n0_; have HB := n1_; have HO295 := n2_; clear n0_ n1_ n2_; clear ho hb hg hat))
        go_roundg k1
        case measure => have := HK1.out; omega
        case rel => exact ⟨(y293), (wrap64 (x17_1 + 1)), rF, H', ⟨by have := HK1.out; omega⟩, ⟨by (with_reducible repeat (first | apply Kd.R_alloc | apply Kd.R_drewN | apply Kd.R_drew)); exact HO295.out⟩, ⟨by (with_reducible repeat (first | apply Kd.R_alloc | apply Kd.R_drewN | apply Kd.R_drew)); exact Kd.R_mono HO_15.out (fun _ hk => hk.2)⟩, ⟨bA⟩⟩
       ·rw [if_neg c13] at H
        exact absurd H (by simp)
     ·rw [if_neg c9] at H
      exact absurd H (by simp)
    ·rw [if_neg c8] at H
     exact absurd H (by simp)
   ·rw [if_neg c7] at H
    have c7b0 : decide (x17_1 < (t288.length : Int)) = false := decide_eq_false c7
    clear c7
    by_cases c16 : 0 ≤ a2
    ·rw [if_pos c16] at H
     have c16b0 : decide (0 ≤ a2) = true := decide_eq_true c16
     clear c16
     by_cases c17 : a2 < (l1.length : Int)
     ·rw [if_pos c17] at H
      have c17b0 : decide (a2 < (l1.length : Int)) = true := decide_eq_true c17
      clear c17
      by_cases c18 : ((rd_T62 l1 a2).f0) = 0
      ·rw [if_pos c18] at H
       have c18b0 : (((rd_T62 l1 a2).f0) == 0) = true := beq_iff_eq.mpr c18
       have c18b1 : (((rd_T62 l1 a2).f0) != 0) = false := bne_eq_false_iff_eq.mpr c18
       clear c18
       replace H := Option.bind_eq_some_iff.mp H
       obtain ⟨t298, A190, H⟩ := H
       replace H : (if t298 < 0 then (some (-1)) else (if 0 ≤ t298 then (if t298 < (l0.length : Int) then (some ((rd_T60 l0 t298).f1)) else (none)) else (none))) = some r := H
       have A19 := Aside0.mk A190
       clear A190
       by_cases c20 : t298 < 0
       ·rw [if_pos c20] at H
        have c20b0 : decide (t298 < 0) = true := decide_eq_true c20
        clear c20
        obtain rfl := Option.some.inj H
        have p296 : 0 ≤ (a2 : Int) := of_decide_eq_true (by assumption)
        have q296 : a2 < (l1.length : Int) := of_decide_eq_true (by assumption)
        obtain ⟨ad296, A296_6, c296_6, e296, hx296_0, hx296_1, hx296_2, hx296_3, hx296_4, hx296_5, hx296_6, hl296_6, hi296_6⟩ := at_T62 HR1.out a2 p296 q296
        cases e296
        replace hx296_0 := (HB.out.cell (World.block_lt_of_cell? w _ hx296_0)).trans hx296_0
        replace hx296_1 := (HB.out.cell (World.block_lt_of_cell? w _ hx296_1)).trans hx296_1
        replace hx296_2 := (HB.out.cell (World.block_lt_of_cell? w _ hx296_2)).trans hx296_2
        replace hx296_3 := (HB.out.cell (World.block_lt_of_cell? w _ hx296_3)).trans hx296_3
        replace hx296_4 := (HB.out.cell (World.block_lt_of_cell? w _ hx296_4)).trans hx296_4
        replace hx296_5 := (HB.out.cell (World.block_lt_of_cell? w _ hx296_5)).trans hx296_5
        replace hx296_6 := (HB.out.cell (World.block_lt_of_cell? w _ hx296_6)).trans hx296_6
        have HR296_6 := Aside0.mk hi296_6
        have HC296_6 := Aside0.mk hl296_6
        clear hi296_6 hl296_6
        replace p296 := eq_true p296
        replace q296 := eq_true q296
        go_wp2_with (first | ((with_reducible refine gate_dst (N := 11) rfl ?_); refine box_event ?hg (N := 11) ?hd (cs := #[.int .i64 0, .string (⟨#[]⟩ : ByteArray), .int .i64 0, .int .i64 0, .int .i64 0, .bool false, .slice none 0 0]) (t := 62) ?hr ?_; (case hd => rfl); (case hg => rfl); (case hr => first | (go_simp; done) | (go_simp; rfl)); intro gb297 hg w21 hbox hb; have n0_ := Aside0.mk (Kd.R_below (by (with_reducible repeat (first | apply Kd.R_alloc | apply Kd.R_drewN | apply Kd.R_drew)); exact HO_7.out) hb); have n1_ := Aside0.mk (Kd.R_below (by (with_reducible repeat (first | apply Kd.R_alloc | apply Kd.R_drewN | apply Kd.R_drew)); exact HO_15.out) hb); have n2_ := Aside0.mk (below_step bA hb); have n3_ := Aside0.mk (hbox); have n4_ := Aside0.mk ((by rw [hg]; exact (below_size bA) : w.heap.size ≤ gb297)); have n5_ := Aside0.mk ((by rw [hg]; exact (below_size bA) : w.heap.size ≤ gb297)); clear HO_7; clear HO_15; clear HB; have HO_7 := n0_; have HO_15 := n1_; have HB := n2_; have BK297 := n3_; have GW297 := n4_; have GE297 := n5_; clear n0_ n1_ n2_ n3_ n4_ n5_; clear hb hbox hg; obtain ⟨⟨hcz22_0, hcz22_1, hcz22_2, hcz22_3, hcz22_4, hcz22_5, hcz22_6⟩, hfz22_0, hfz22_1, hfz22_2, hfz22_3, hfz22_4, hfz22_5, hfz22_6⟩ := Own.c7 BK297.out) | ((with_reducible refine gate_store (t := 62) (p := 11) rfl ?_); refine store_event (t := 62) (p := 11) (v := ?vo_w23) (w1 := (((((((w21.setCell ⟨gb297, 0, none⟩ (.int .i64 ((rd_T62 l1 a2).f0))).setCell ⟨gb297, 1, none⟩ (.string ((rd_T62 l1 a2).f1))).setCell ⟨gb297, 2, none⟩ (.int .i64 ((rd_T62 l1 a2).f2))).setCell ⟨gb297, 3, none⟩ (.int .i64 ((rd_T62 l1 a2).f3))).setCell ⟨gb297, 4, none⟩ (.int .i64 ((rd_T62 l1 a2).f4))).setCell ⟨gb297, 5, none⟩ (.bool ((rd_T62 l1 a2).f5))).setCell ⟨gb297, 6, none⟩ (.slice A296_6 ((rd_T62 l1 a2).f6).length c296_6))) ?hg ?ho ?hn ?hr ?_; (case ho => rfl); (case hg => rfl); (case hn => rfl); (case hr => first | (go_simp; done) | (go_simp; rfl)); intro w23 hw; have n0_ : Aside0 (Kd.R (Kd.int .i64) 3 w23 w.heap.size (fun k_ => some k_ ≠ (.slice Ao6 t288.length co6 : Value).ownBlock) u7 x7_1) := ⟨(by rw [hw]; exact (by (with_reducible repeat (first | apply Kd.R_alloc | apply Kd.R_drewN | apply Kd.R_drew)); exact Kd.R_mono (Kd.R_far (p := ⟨gb297, 6, none⟩) (Kd.R_far (p := ⟨gb297, 5, none⟩) (Kd.R_far (p := ⟨gb297, 4, none⟩) (Kd.R_far (p := ⟨gb297, 3, none⟩) (Kd.R_far (p := ⟨gb297, 2, none⟩) (Kd.R_far (p := ⟨gb297, 1, none⟩) (Kd.R_far (p := ⟨gb297, 0, none⟩) (Kd.R_types HO_7.out BK297.out (by decide)) (fun _ hk => hk.2) (.int .i64 ((rd_T62 l1 a2).f0))) (fun _ hk => hk.2) (.string ((rd_T62 l1 a2).f1))) (fun _ hk => hk.2) (.int .i64 ((rd_T62 l1 a2).f2))) (fun _ hk => hk.2) (.int .i64 ((rd_T62 l1 a2).f3))) (fun _ hk => hk.2) (.int .i64 ((rd_T62 l1 a2).f4))) (fun _ hk => hk.2) (.bool ((rd_T62 l1 a2).f5))) (fun _ hk => hk.2) (.slice A296_6 ((rd_T62 l1 a2).f6).length c296_6)) (fun _ hk => hk.1)))⟩; have n1_ : Aside0 (Kd.R (Kd.int .i64) 3 w23 w.heap.size (fun k_ => some k_ ≠ (u7 : Value).ownBlock) (.slice Ao6 t288.length co6) t288) := ⟨(by rw [hw]; exact (by (with_reducible repeat (first | apply Kd.R_alloc | apply Kd.R_drewN | apply Kd.R_drew)); exact Kd.R_mono (Kd.R_far (p := ⟨gb297, 6, none⟩) (Kd.R_far (p := ⟨gb297, 5, none⟩) (Kd.R_far (p := ⟨gb297, 4, none⟩) (Kd.R_far (p := ⟨gb297, 3, none⟩) (Kd.R_far (p := ⟨gb297, 2, none⟩) (Kd.R_far (p := ⟨gb297, 1, none⟩) (Kd.R_far (p := ⟨gb297, 0, none⟩) (Kd.R_types HO_15.out BK297.out (by decide)) (fun _ hk => hk.2) (.int .i64 ((rd_T62 l1 a2).f0))) (fun _ hk => hk.2) (.string ((rd_T62 l1 a2).f1))) (fun _ hk => hk.2) (.int .i64 ((rd_T62 l1 a2).f2))) (fun _ hk => hk.2) (.int .i64 ((rd_T62 l1 a2).f3))) (fun _ hk => hk.2) (.int .i64 ((rd_T62 l1 a2).f4))) (fun _ hk => hk.2) (.bool ((rd_T62 l1 a2).f5))) (fun _ hk => hk.2) (.slice A296_6 ((rd_T62 l1 a2).f6).length c296_6)) (fun _ hk => hk.1)))⟩; have n2_ : Aside0 (w23.heap[gb297]? = some (.cells #[.int .i64 ((rd_T62 l1 a2).f0), .string ((rd_T62 l1 a2).f1), .int .i64 ((rd_T62 l1 a2).f2), .int .i64 ((rd_T62 l1 a2).f3), .int .i64 ((rd_T62 l1 a2).f4), .bool ((rd_T62 l1 a2).f5), .slice A296_6 ((rd_T62 l1 a2).f6).length c296_6] 62 (0, 0))) := ⟨(by rw [hw]; exact (by exact put7 BK297.out))⟩; have n3_ : Aside0 (Below w.heap.size w w23) := ⟨(by rw [hw]; exact bA)⟩; clear hw; clear HO_7; clear HO_15; clear BK297; clear HB; have HO_7 := n0_; have HO_15 := n1_; have BK297 := n2_; have HB := n3_; clear n0_ n1_ n2_ n3_; obtain ⟨⟨hcz24_0, hcz24_1, hcz24_2, hcz24_3, hcz24_4, hcz24_5, hcz24_6⟩, hfz24_0, hfz24_1, hfz24_2, hfz24_3, hfz24_4, hfz24_5, hfz24_6⟩ := Own.c7 BK297.out) | ((with_reducible refine gate_callee (f := 80) rfl ?_); refine goesL_ (some 43) rfl rfl Try.func80 (by kernel_rfl) rfl #[.slice A0 l0.length c0, .string ((rd_T62 l1 a2).f1)] rfl aL ?_; (with_reducible refine (impl_tableAt.calls k1 _ _ l0 ((rd_T62 l1 a2).f1) t298 _ ?side1 ?side2 A19.out).mono ?_); (case side1 => exact cA); (case side2 => exact HC0.out); rintro e w25 ⟨rfl, hb⟩; refine ⟨_, rfl, ?_⟩; have n0_ := Aside0.mk (Kd.R_below (by (with_reducible repeat (first | apply Kd.R_alloc | apply Kd.R_drewN | apply Kd.R_drew)); exact HO_7.out) hb); have n1_ := Aside0.mk (Kd.R_below (by (with_reducible repeat (first | apply Kd.R_alloc | apply Kd.R_drewN | apply Kd.R_drew)); exact HO_15.out) hb); have n2_ := Aside0.mk (blk_below (g := gb297) (o := .cells #[.int .i64 ((rd_T62 l1 a2).f0), .string ((rd_T62 l1 a2).f1), .int .i64 ((rd_T62 l1 a2).f2), .int .i64 ((rd_T62 l1 a2).f3), .int .i64 ((rd_T62 l1 a2).f4), .bool ((rd_T62 l1 a2).f5), .slice A296_6 ((rd_T62 l1 a2).f6).length c296_6] 62 (0, 0)) (by (with_reducible repeat (first | refine blk_drewN ?_ _ | refine blk_drew ?_ | refine blk_alloc ?_ _)); exact BK297.out) hb); have n3_ := Aside0.mk (below_step bA hb); clear HO_7; clear HO_15; clear BK297; clear HB; have HO_7 := n0_; have HO_15 := n1_; have BK297 := n2_; have HB := n3_; clear n0_ n1_ n2_ n3_; (try clear hb); (try clear hb2); (try clear hk); (try clear hi)))
        go_ret
        exact ⟨rE, bA⟩
       ·rw [if_neg c20] at H
        have c20b0 : decide (t298 < 0) = false := decide_eq_false c20
        clear c20
        by_cases c26 : 0 ≤ t298
        ·rw [if_pos c26] at H
         have c26b0 : decide (0 ≤ t298) = true := decide_eq_true c26
         clear c26
         by_cases c27 : t298 < (l0.length : Int)
         ·rw [if_pos c27] at H
          have c27b0 : decide (t298 < (l0.length : Int)) = true := decide_eq_true c27
          clear c27
          obtain rfl := Option.some.inj H
          have p296 : 0 ≤ (a2 : Int) := of_decide_eq_true (by assumption)
          have q296 : a2 < (l1.length : Int) := of_decide_eq_true (by assumption)
          obtain ⟨ad296, A296_6, c296_6, e296, hx296_0, hx296_1, hx296_2, hx296_3, hx296_4, hx296_5, hx296_6, hl296_6, hi296_6⟩ := at_T62 HR1.out a2 p296 q296
          cases e296
          replace hx296_0 := (HB.out.cell (World.block_lt_of_cell? w _ hx296_0)).trans hx296_0
          replace hx296_1 := (HB.out.cell (World.block_lt_of_cell? w _ hx296_1)).trans hx296_1
          replace hx296_2 := (HB.out.cell (World.block_lt_of_cell? w _ hx296_2)).trans hx296_2
          replace hx296_3 := (HB.out.cell (World.block_lt_of_cell? w _ hx296_3)).trans hx296_3
          replace hx296_4 := (HB.out.cell (World.block_lt_of_cell? w _ hx296_4)).trans hx296_4
          replace hx296_5 := (HB.out.cell (World.block_lt_of_cell? w _ hx296_5)).trans hx296_5
          replace hx296_6 := (HB.out.cell (World.block_lt_of_cell? w _ hx296_6)).trans hx296_6
          have HR296_6 := Aside0.mk hi296_6
          have HC296_6 := Aside0.mk hl296_6
          clear hi296_6 hl296_6
          replace p296 := eq_true p296
          replace q296 := eq_true q296
          go_wp2_with (first | ((with_reducible refine gate_dst (N := 11) rfl ?_); refine box_event ?hg (N := 11) ?hd (cs := #[.int .i64 0, .string (⟨#[]⟩ : ByteArray), .int .i64 0, .int .i64 0, .int .i64 0, .bool false, .slice none 0 0]) (t := 62) ?hr ?_; (case hd => rfl); (case hg => rfl); (case hr => first | (go_simp; done) | (go_simp; rfl)); intro gb297 hg w28 hbox hb; have n0_ := Aside0.mk (Kd.R_below (by (with_reducible repeat (first | apply Kd.R_alloc | apply Kd.R_drewN | apply Kd.R_drew)); exact HO_7.out) hb); have n1_ := Aside0.mk (Kd.R_below (by (with_reducible repeat (first | apply Kd.R_alloc | apply Kd.R_drewN | apply Kd.R_drew)); exact HO_15.out) hb); have n2_ := Aside0.mk (below_step bA hb); have n3_ := Aside0.mk (hbox); have n4_ := Aside0.mk ((by rw [hg]; exact (below_size bA) : w.heap.size ≤ gb297)); have n5_ := Aside0.mk ((by rw [hg]; exact (below_size bA) : w.heap.size ≤ gb297)); clear HO_7; clear HO_15; clear HB; have HO_7 := n0_; have HO_15 := n1_; have HB := n2_; have BK297 := n3_; have GW297 := n4_; have GE297 := n5_; clear n0_ n1_ n2_ n3_ n4_ n5_; clear hb hbox hg; obtain ⟨⟨hcz29_0, hcz29_1, hcz29_2, hcz29_3, hcz29_4, hcz29_5, hcz29_6⟩, hfz29_0, hfz29_1, hfz29_2, hfz29_3, hfz29_4, hfz29_5, hfz29_6⟩ := Own.c7 BK297.out) | ((with_reducible refine gate_store (t := 62) (p := 11) rfl ?_); refine store_event (t := 62) (p := 11) (v := ?vo_w30) (w1 := (((((((w28.setCell ⟨gb297, 0, none⟩ (.int .i64 ((rd_T62 l1 a2).f0))).setCell ⟨gb297, 1, none⟩ (.string ((rd_T62 l1 a2).f1))).setCell ⟨gb297, 2, none⟩ (.int .i64 ((rd_T62 l1 a2).f2))).setCell ⟨gb297, 3, none⟩ (.int .i64 ((rd_T62 l1 a2).f3))).setCell ⟨gb297, 4, none⟩ (.int .i64 ((rd_T62 l1 a2).f4))).setCell ⟨gb297, 5, none⟩ (.bool ((rd_T62 l1 a2).f5))).setCell ⟨gb297, 6, none⟩ (.slice A296_6 ((rd_T62 l1 a2).f6).length c296_6))) ?hg ?ho ?hn ?hr ?_; (case ho => rfl); (case hg => rfl); (case hn => rfl); (case hr => first | (go_simp; done) | (go_simp; rfl)); intro w30 hw; have n0_ : Aside0 (Kd.R (Kd.int .i64) 3 w30 w.heap.size (fun k_ => some k_ ≠ (.slice Ao6 t288.length co6 : Value).ownBlock) u7 x7_1) := ⟨(by rw [hw]; exact (by (with_reducible repeat (first | apply Kd.R_alloc | apply Kd.R_drewN | apply Kd.R_drew)); exact Kd.R_mono (Kd.R_far (p := ⟨gb297, 6, none⟩) (Kd.R_far (p := ⟨gb297, 5, none⟩) (Kd.R_far (p := ⟨gb297, 4, none⟩) (Kd.R_far (p := ⟨gb297, 3, none⟩) (Kd.R_far (p := ⟨gb297, 2, none⟩) (Kd.R_far (p := ⟨gb297, 1, none⟩) (Kd.R_far (p := ⟨gb297, 0, none⟩) (Kd.R_types HO_7.out BK297.out (by decide)) (fun _ hk => hk.2) (.int .i64 ((rd_T62 l1 a2).f0))) (fun _ hk => hk.2) (.string ((rd_T62 l1 a2).f1))) (fun _ hk => hk.2) (.int .i64 ((rd_T62 l1 a2).f2))) (fun _ hk => hk.2) (.int .i64 ((rd_T62 l1 a2).f3))) (fun _ hk => hk.2) (.int .i64 ((rd_T62 l1 a2).f4))) (fun _ hk => hk.2) (.bool ((rd_T62 l1 a2).f5))) (fun _ hk => hk.2) (.slice A296_6 ((rd_T62 l1 a2).f6).length c296_6)) (fun _ hk => hk.1)))⟩; have n1_ : Aside0 (Kd.R (Kd.int .i64) 3 w30 w.heap.size (fun k_ => some k_ ≠ (u7 : Value).ownBlock) (.slice Ao6 t288.length co6) t288) := ⟨(by rw [hw]; exact (by (with_reducible repeat (first | apply Kd.R_alloc | apply Kd.R_drewN | apply Kd.R_drew)); exact Kd.R_mono (Kd.R_far (p := ⟨gb297, 6, none⟩) (Kd.R_far (p := ⟨gb297, 5, none⟩) (Kd.R_far (p := ⟨gb297, 4, none⟩) (Kd.R_far (p := ⟨gb297, 3, none⟩) (Kd.R_far (p := ⟨gb297, 2, none⟩) (Kd.R_far (p := ⟨gb297, 1, none⟩) (Kd.R_far (p := ⟨gb297, 0, none⟩) (Kd.R_types HO_15.out BK297.out (by decide)) (fun _ hk => hk.2) (.int .i64 ((rd_T62 l1 a2).f0))) (fun _ hk => hk.2) (.string ((rd_T62 l1 a2).f1))) (fun _ hk => hk.2) (.int .i64 ((rd_T62 l1 a2).f2))) (fun _ hk => hk.2) (.int .i64 ((rd_T62 l1 a2).f3))) (fun _ hk => hk.2) (.int .i64 ((rd_T62 l1 a2).f4))) (fun _ hk => hk.2) (.bool ((rd_T62 l1 a2).f5))) (fun _ hk => hk.2) (.slice A296_6 ((rd_T62 l1 a2).f6).length c296_6)) (fun _ hk => hk.1)))⟩; have n2_ : Aside0 (w30.heap[gb297]? = some (.cells #[.int .i64 ((rd_T62 l1 a2).f0), .string ((rd_T62 l1 a2).f1), .int .i64 ((rd_T62 l1 a2).f2), .int .i64 ((rd_T62 l1 a2).f3), .int .i64 ((rd_T62 l1 a2).f4), .bool ((rd_T62 l1 a2).f5), .slice A296_6 ((rd_T62 l1 a2).f6).length c296_6] 62 (0, 0))) := ⟨(by rw [hw]; exact (by exact put7 BK297.out))⟩; have n3_ : Aside0 (Below w.heap.size w w30) := ⟨(by rw [hw]; exact bA)⟩; clear hw; clear HO_7; clear HO_15; clear BK297; clear HB; have HO_7 := n0_; have HO_15 := n1_; have BK297 := n2_; have HB := n3_; clear n0_ n1_ n2_ n3_; obtain ⟨⟨hcz31_0, hcz31_1, hcz31_2, hcz31_3, hcz31_4, hcz31_5, hcz31_6⟩, hfz31_0, hfz31_1, hfz31_2, hfz31_3, hfz31_4, hfz31_5, hfz31_6⟩ := Own.c7 BK297.out) | ((with_reducible refine gate_callee (f := 80) rfl ?_); refine goesL_ (some 43) rfl rfl Try.func80 (by kernel_rfl) rfl #[.slice A0 l0.length c0, .string ((rd_T62 l1 a2).f1)] rfl aL ?_; (with_reducible refine (impl_tableAt.calls k1 _ _ l0 ((rd_T62 l1 a2).f1) t298 _ ?side1 ?side2 A19.out).mono ?_); (case side1 => exact cA); (case side2 => exact HC0.out); rintro e w32 ⟨rfl, hb⟩; refine ⟨_, rfl, ?_⟩; have n0_ := Aside0.mk (Kd.R_below (by (with_reducible repeat (first | apply Kd.R_alloc | apply Kd.R_drewN | apply Kd.R_drew)); exact HO_7.out) hb); have n1_ := Aside0.mk (Kd.R_below (by (with_reducible repeat (first | apply Kd.R_alloc | apply Kd.R_drewN | apply Kd.R_drew)); exact HO_15.out) hb); have n2_ := Aside0.mk (blk_below (g := gb297) (o := .cells #[.int .i64 ((rd_T62 l1 a2).f0), .string ((rd_T62 l1 a2).f1), .int .i64 ((rd_T62 l1 a2).f2), .int .i64 ((rd_T62 l1 a2).f3), .int .i64 ((rd_T62 l1 a2).f4), .bool ((rd_T62 l1 a2).f5), .slice A296_6 ((rd_T62 l1 a2).f6).length c296_6] 62 (0, 0)) (by (with_reducible repeat (first | refine blk_drewN ?_ _ | refine blk_drew ?_ | refine blk_alloc ?_ _)); exact BK297.out) hb); have n3_ := Aside0.mk (below_step bA hb); clear HO_7; clear HO_15; clear BK297; clear HB; have HO_7 := n0_; have HO_15 := n1_; have BK297 := n2_; have HB := n3_; clear n0_ n1_ n2_ n3_; (try clear hb); (try clear hb2); (try clear hk); (try clear hi); have p299 : 0 ≤ (t298 : Int) := of_decide_eq_true (by assumption); have q299 : t298 < (l0.length : Int) := of_decide_eq_true (by assumption); obtain ⟨ad299, e299, hx299_0, hx299_1⟩ := at_T60 HR0.out t298 p299 q299; cases e299; replace hx299_0 := (HB.out.cell (World.block_lt_of_cell? w _ hx299_0)).trans hx299_0; replace hx299_1 := (HB.out.cell (World.block_lt_of_cell? w _ hx299_1)).trans hx299_1; replace p299 := eq_true p299; replace q299 := eq_true q299))
          go_ret
          exact ⟨rE, bA⟩
         ·rw [if_neg c27] at H
          exact absurd H (by simp)
        ·rw [if_neg c26] at H
         exact absurd H (by simp)
      ·rw [if_neg c18] at H
       have c18b0 : (((rd_T62 l1 a2).f0) == 0) = false := beq_eq_false_iff_ne.mpr c18
       have c18b1 : (((rd_T62 l1 a2).f0) != 0) = true := bne_iff_ne.mpr c18
       have HC33 := Aside0.mk H
       clear H
       have p296 : 0 ≤ (a2 : Int) := of_decide_eq_true (by assumption)
       have q296 : a2 < (l1.length : Int) := of_decide_eq_true (by assumption)
       obtain ⟨ad296, A296_6, c296_6, e296, hx296_0, hx296_1, hx296_2, hx296_3, hx296_4, hx296_5, hx296_6, hl296_6, hi296_6⟩ := at_T62 HR1.out a2 p296 q296
       cases e296
       replace hx296_0 := (HB.out.cell (World.block_lt_of_cell? w _ hx296_0)).trans hx296_0
       replace hx296_1 := (HB.out.cell (World.block_lt_of_cell? w _ hx296_1)).trans hx296_1
       replace hx296_2 := (HB.out.cell (World.block_lt_of_cell? w _ hx296_2)).trans hx296_2
       replace hx296_3 := (HB.out.cell (World.block_lt_of_cell? w _ hx296_3)).trans hx296_3
       replace hx296_4 := (HB.out.cell (World.block_lt_of_cell? w _ hx296_4)).trans hx296_4
       replace hx296_5 := (HB.out.cell (World.block_lt_of_cell? w _ hx296_5)).trans hx296_5
       replace hx296_6 := (HB.out.cell (World.block_lt_of_cell? w _ hx296_6)).trans hx296_6
       have HR296_6 := Aside0.mk hi296_6
       have HC296_6 := Aside0.mk hl296_6
       clear hi296_6 hl296_6
       replace p296 := eq_true p296
       replace q296 := eq_true q296
       go_upto_if 51 with (first | ((with_reducible refine gate_dst (N := 11) rfl ?_); refine box_event ?hg (N := 11) ?hd (cs := #[.int .i64 0, .string (⟨#[]⟩ : ByteArray), .int .i64 0, .int .i64 0, .int .i64 0, .bool false, .slice none 0 0]) (t := 62) ?hr ?_; (case hd => rfl); (case hg => rfl); (case hr => first | (go_simp; done) | (go_simp; rfl)); intro gb297 hg w34 hbox hb; have n0_ := Aside0.mk (Kd.R_below (by (with_reducible repeat (first | apply Kd.R_alloc | apply Kd.R_drewN | apply Kd.R_drew)); exact HO_7.out) hb); have n1_ := Aside0.mk (Kd.R_below (by (with_reducible repeat (first | apply Kd.R_alloc | apply Kd.R_drewN | apply Kd.R_drew)); exact HO_15.out) hb); have n2_ := Aside0.mk (below_step bA hb); have n3_ := Aside0.mk (hbox); have n4_ := Aside0.mk ((by rw [hg]; exact (below_size bA) : w.heap.size ≤ gb297)); have n5_ := Aside0.mk ((by rw [hg]; exact (below_size bA) : w.heap.size ≤ gb297)); clear HO_7; clear HO_15; clear HB; have HO_7 := n0_; have HO_15 := n1_; have HB := n2_; have BK297 := n3_; have GW297 := n4_; have GE297 := n5_; clear n0_ n1_ n2_ n3_ n4_ n5_; clear hb hbox hg; obtain ⟨⟨hcz35_0, hcz35_1, hcz35_2, hcz35_3, hcz35_4, hcz35_5, hcz35_6⟩, hfz35_0, hfz35_1, hfz35_2, hfz35_3, hfz35_4, hfz35_5, hfz35_6⟩ := Own.c7 BK297.out) | ((with_reducible refine gate_store (t := 62) (p := 11) rfl ?_); refine store_event (t := 62) (p := 11) (v := ?vo_w36) (w1 := (((((((w34.setCell ⟨gb297, 0, none⟩ (.int .i64 ((rd_T62 l1 a2).f0))).setCell ⟨gb297, 1, none⟩ (.string ((rd_T62 l1 a2).f1))).setCell ⟨gb297, 2, none⟩ (.int .i64 ((rd_T62 l1 a2).f2))).setCell ⟨gb297, 3, none⟩ (.int .i64 ((rd_T62 l1 a2).f3))).setCell ⟨gb297, 4, none⟩ (.int .i64 ((rd_T62 l1 a2).f4))).setCell ⟨gb297, 5, none⟩ (.bool ((rd_T62 l1 a2).f5))).setCell ⟨gb297, 6, none⟩ (.slice A296_6 ((rd_T62 l1 a2).f6).length c296_6))) ?hg ?ho ?hn ?hr ?_; (case ho => rfl); (case hg => rfl); (case hn => rfl); (case hr => first | (go_simp; done) | (go_simp; rfl)); intro w36 hw; have n0_ : Aside0 (Kd.R (Kd.int .i64) 3 w36 w.heap.size (fun k_ => some k_ ≠ (.slice Ao6 t288.length co6 : Value).ownBlock) u7 x7_1) := ⟨(by rw [hw]; exact (by (with_reducible repeat (first | apply Kd.R_alloc | apply Kd.R_drewN | apply Kd.R_drew)); exact Kd.R_mono (Kd.R_far (p := ⟨gb297, 6, none⟩) (Kd.R_far (p := ⟨gb297, 5, none⟩) (Kd.R_far (p := ⟨gb297, 4, none⟩) (Kd.R_far (p := ⟨gb297, 3, none⟩) (Kd.R_far (p := ⟨gb297, 2, none⟩) (Kd.R_far (p := ⟨gb297, 1, none⟩) (Kd.R_far (p := ⟨gb297, 0, none⟩) (Kd.R_types HO_7.out BK297.out (by decide)) (fun _ hk => hk.2) (.int .i64 ((rd_T62 l1 a2).f0))) (fun _ hk => hk.2) (.string ((rd_T62 l1 a2).f1))) (fun _ hk => hk.2) (.int .i64 ((rd_T62 l1 a2).f2))) (fun _ hk => hk.2) (.int .i64 ((rd_T62 l1 a2).f3))) (fun _ hk => hk.2) (.int .i64 ((rd_T62 l1 a2).f4))) (fun _ hk => hk.2) (.bool ((rd_T62 l1 a2).f5))) (fun _ hk => hk.2) (.slice A296_6 ((rd_T62 l1 a2).f6).length c296_6)) (fun _ hk => hk.1)))⟩; have n1_ : Aside0 (Kd.R (Kd.int .i64) 3 w36 w.heap.size (fun k_ => some k_ ≠ (u7 : Value).ownBlock) (.slice Ao6 t288.length co6) t288) := ⟨(by rw [hw]; exact (by (with_reducible repeat (first | apply Kd.R_alloc | apply Kd.R_drewN | apply Kd.R_drew)); exact Kd.R_mono (Kd.R_far (p := ⟨gb297, 6, none⟩) (Kd.R_far (p := ⟨gb297, 5, none⟩) (Kd.R_far (p := ⟨gb297, 4, none⟩) (Kd.R_far (p := ⟨gb297, 3, none⟩) (Kd.R_far (p := ⟨gb297, 2, none⟩) (Kd.R_far (p := ⟨gb297, 1, none⟩) (Kd.R_far (p := ⟨gb297, 0, none⟩) (Kd.R_types HO_15.out BK297.out (by decide)) (fun _ hk => hk.2) (.int .i64 ((rd_T62 l1 a2).f0))) (fun _ hk => hk.2) (.string ((rd_T62 l1 a2).f1))) (fun _ hk => hk.2) (.int .i64 ((rd_T62 l1 a2).f2))) (fun _ hk => hk.2) (.int .i64 ((rd_T62 l1 a2).f3))) (fun _ hk => hk.2) (.int .i64 ((rd_T62 l1 a2).f4))) (fun _ hk => hk.2) (.bool ((rd_T62 l1 a2).f5))) (fun _ hk => hk.2) (.slice A296_6 ((rd_T62 l1 a2).f6).length c296_6)) (fun _ hk => hk.1)))⟩; have n2_ : Aside0 (w36.heap[gb297]? = some (.cells #[.int .i64 ((rd_T62 l1 a2).f0), .string ((rd_T62 l1 a2).f1), .int .i64 ((rd_T62 l1 a2).f2), .int .i64 ((rd_T62 l1 a2).f3), .int .i64 ((rd_T62 l1 a2).f4), .bool ((rd_T62 l1 a2).f5), .slice A296_6 ((rd_T62 l1 a2).f6).length c296_6] 62 (0, 0))) := ⟨(by rw [hw]; exact (by exact put7 BK297.out))⟩; have n3_ : Aside0 (Below w.heap.size w w36) := ⟨(by rw [hw]; exact bA)⟩; clear hw; clear HO_7; clear HO_15; clear BK297; clear HB; have HO_7 := n0_; have HO_15 := n1_; have BK297 := n2_; have HB := n3_; clear n0_ n1_ n2_ n3_; obtain ⟨⟨hcz37_0, hcz37_1, hcz37_2, hcz37_3, hcz37_4, hcz37_5, hcz37_6⟩, hfz37_0, hfz37_1, hfz37_2, hfz37_3, hfz37_4, hfz37_5, hfz37_6⟩ := Own.c7 BK297.out))
       (try simp only [Act.put, List.setIfInBounds_toArray, List.set_cons_zero, List.set_cons_succ])
       go_cut [51] (fun v51 wc => ∃ (kq : Nat) (x51_32 : Bool), v51 = .bool x51_32 ∧ Aside0 (impl_width.j1 kq x7_1 ((rd_T62 l1 a2).f0) x51_32 ((rd_T62 l1 a2).f0) ((rd_T62 l1 a2).f1) ((rd_T62 l1 a2).f2) ((rd_T62 l1 a2).f3) ((rd_T62 l1 a2).f4) ((rd_T62 l1 a2).f5) ((rd_T62 l1 a2).f6) = some r) ∧ Aside0 (kq ≤ k1) ∧ Aside0 (Kd.R (Kd.int .i64) 3 wc w.heap.size (fun _ => True) u7 x7_1) ∧ Aside0 (wc.heap[gb297]? = some (.cells #[.int .i64 ((rd_T62 l1 a2).f0), .string ((rd_T62 l1 a2).f1), .int .i64 ((rd_T62 l1 a2).f2), .int .i64 ((rd_T62 l1 a2).f3), .int .i64 ((rd_T62 l1 a2).f4), .bool ((rd_T62 l1 a2).f5), (.slice A296_6 ((rd_T62 l1 a2).f6).length c296_6)] 62 (0, 0))) ∧ Aside0 (Below w.heap.size w wc))
       case first =>
        have H := HC33.out
        clear HC33
        by_cases c38 : ((rd_T62 l1 a2).f0) = 1
        ·rw [if_pos c38] at H
         have c38b0 : (((rd_T62 l1 a2).f0) == 1) = true := beq_iff_eq.mpr c38
         have c38b1 : (((rd_T62 l1 a2).f0) != 1) = false := bne_eq_false_iff_eq.mpr c38
         clear c38
         (first | rw [c38b0] | (simp only [i64_w, i32_w]; rw [c38b0]) | skip)
         have H' := Aside0.mk H
         clear H
         go_wp2
         go_meet
         case rel => exact ⟨_, ((((rd_T62 l1 a2).f0) == 1)), rF, H', ⟨by have := HK1.out; first | omega | exact Nat.le_refl _⟩, ⟨by (with_reducible repeat (first | apply Kd.R_alloc | apply Kd.R_drewN | apply Kd.R_drew)); exact Kd.R_mono HO_7.out (fun _ hk => trivial)⟩, ⟨by (with_reducible repeat (first | refine blk_drewN ?_ _ | refine blk_drew ?_ | refine blk_alloc ?_ _)); exact BK297.out⟩, ⟨bA⟩⟩
        ·rw [if_neg c38] at H
         have c38b0 : (((rd_T62 l1 a2).f0) == 1) = false := beq_eq_false_iff_ne.mpr c38
         have c38b1 : (((rd_T62 l1 a2).f0) != 1) = true := bne_iff_ne.mpr c38
         (first | rw [c38b0] | (simp only [i64_w, i32_w]; rw [c38b0]) | skip)
         have H' := Aside0.mk H
         clear H
         go_wp2
         go_meet
         case rel => exact ⟨_, ((((rd_T62 l1 a2).f0) == 5)), rF, H', ⟨by have := HK1.out; first | omega | exact Nat.le_refl _⟩, ⟨by (with_reducible repeat (first | apply Kd.R_alloc | apply Kd.R_drewN | apply Kd.R_drew)); exact Kd.R_mono HO_7.out (fun _ hk => trivial)⟩, ⟨by (with_reducible repeat (first | refine blk_drewN ?_ _ | refine blk_drew ?_ | refine blk_alloc ?_ _)); exact BK297.out⟩, ⟨bA⟩⟩
       case rest =>
        clear HC33
        try clear c1
        try clear c2
        try clear p2
        try clear q2
        try clear hx2
        try clear c3
        try clear c4
        try clear p6
        try clear c7
        try clear c7b0
        try clear c8
        try clear c8b0
        try clear c9
        try clear c9b0
        try clear c11
        try clear c11b0
        try clear c13
        try clear c16
        try clear c16b0
        try clear c17
        try clear c17b0
        try clear c18
        try clear c18b0
        try clear c18b1
        try clear c20
        try clear c20b0
        try clear c26
        try clear c26b0
        try clear c27
        try clear c27b0
        try clear c29
        try clear p29
        try clear q29
        try clear hx29
        try clear c38
        try clear c38b0
        try clear c38b1
        try clear hcz22_0 hcz22_1 hcz22_2 hcz22_3 hcz22_4 hcz22_5 hcz22_6
        try clear hcz24_0 hcz24_1 hcz24_2 hcz24_3 hcz24_4 hcz24_5 hcz24_6
        try clear hcz29_0 hcz29_1 hcz29_2 hcz29_3 hcz29_4 hcz29_5 hcz29_6
        try clear hcz31_0 hcz31_1 hcz31_2 hcz31_3 hcz31_4 hcz31_5 hcz31_6
        try clear hcz35_0 hcz35_1 hcz35_2 hcz35_3 hcz35_4 hcz35_5 hcz35_6
        try clear hcz37_0 hcz37_1 hcz37_2 hcz37_3 hcz37_4 hcz37_5 hcz37_6
        try clear hfz22_0 hfz22_1 hfz22_2 hfz22_3 hfz22_4 hfz22_5 hfz22_6
        try clear hfz24_0 hfz24_1 hfz24_2 hfz24_3 hfz24_4 hfz24_5 hfz24_6
        try clear hfz29_0 hfz29_1 hfz29_2 hfz29_3 hfz29_4 hfz29_5 hfz29_6
        try clear hfz31_0 hfz31_1 hfz31_2 hfz31_3 hfz31_4 hfz31_5 hfz31_6
        try clear hfz35_0 hfz35_1 hfz35_2 hfz35_3 hfz35_4 hfz35_5 hfz35_6
        try clear hfz37_0 hfz37_1 hfz37_2 hfz37_3 hfz37_4 hfz37_5 hfz37_6
        try clear hx291_0
        try clear hx296_0
        try clear hx296_1
        try clear hx296_2
        try clear hx296_3
        try clear hx296_4
        try clear hx296_5
        try clear hx296_6
        try clear hx299_0
        try clear hx299_1
        try clear p2
        try clear p291
        try clear p296
        try clear p299
        try clear q291
        try clear q296
        try clear q299
        obtain ⟨kq, x51_32, rfl, HA, HJ32, HO_7, BK297, HB⟩ := hcut
        cases kq with
        | zero => exact absurd HA.out (by simp [impl_width.j1])
        | succ kj32 =>
         have H := HA.out
         clear HA
         simp only [impl_width.j1] at H
         by_cases c39 : x51_32 = true
         ·subst c39
          have H1 : (if 0 < (x7_1.length : Int) then (if ((rd_T62 l1 a2).f2) ≥ (rd x7_1 0) then (some (-1)) else (some (rd x7_1 0))) else (none)) = some r := by rw [if_pos rfl] at H; exact H
          clear H
          have H := H1
          clear H1
          by_cases c40 : 0 < (x7_1.length : Int)
          ·rw [if_pos c40] at H
           have c40b0 : decide (0 < (x7_1.length : Int)) = true := decide_eq_true c40
           have c40b1 : decide (0 < x7_1.length) = true := decide_eq_true (by omega)
           clear c40
           by_cases c41 : ((rd_T62 l1 a2).f2) ≥ (rd x7_1 0)
           ·rw [if_pos c41] at H
            have c41b0 : decide ((rd x7_1 0) ≤ ((rd_T62 l1 a2).f2)) = true := decide_eq_true c41
            clear c41
            obtain rfl := Option.some.inj H
            try go_wp2
            have n0_ := Aside0.mk (Kd.R_drew HO_7.out)
            have n1_ := Aside0.mk (blk_drew BK297.out)
            have n2_ := Aside0.mk (below_drew1 HB.out)
            clear HO_7
            clear BK297
            clear HB
            have HO_7 := n0_
            have BK297 := n1_
            have HB := n2_
            clear n0_ n1_ n2_
            obtain ⟨Ao43, co43, eo43⟩ := Kd.R_slice HO_7.out
            (first | subst eo43 | (injection eo43 with f1_ f2_ f3_; have f4_ := f1_.symm; have f5_ := f3_.symm; clear f1_ f2_ f3_; subst f4_; subst f5_))
            have p300 : 0 ≤ (0 : Int) := (by omega)
            have q300 : 0 < (x7_1.length : Int) := of_decide_eq_true (by assumption)
            obtain ⟨ad300, e300, hx300_0⟩ := Kd.at_int (Kd.R_reads' HO_7.out).2.2 0 p300 q300
            cases e300
            have qi300 : (0 < x7_1.length) = True := eq_true (by omega)
            (try rw [show ((0 : Int)).toNat = 0 from rfl] at hx300_0)
            (try rw [Addr.add_zero'] at hx300_0)
            replace p300 := eq_true p300
            replace q300 := eq_true q300
            refine start_ (n := 6) (S := fun w' => w'.cell? ⟨gb297, 0, none⟩ = some (.int .i64 ((rd_T62 l1 a2).f0)) ∧ w'.cell? ⟨gb297, 1, none⟩ = some (.string ((rd_T62 l1 a2).f1)) ∧ w'.cell? ⟨gb297, 2, none⟩ = some (.int .i64 ((rd_T62 l1 a2).f2)) ∧ w'.cell? ⟨gb297, 3, none⟩ = some (.int .i64 ((rd_T62 l1 a2).f3)) ∧ w'.cell? ⟨gb297, 4, none⟩ = some (.int .i64 ((rd_T62 l1 a2).f4)) ∧ w'.cell? ⟨gb297, 5, none⟩ = some (.bool ((rd_T62 l1 a2).f5)) ∧ w'.cell? ⟨gb297, 6, none⟩ = some (.slice A296_6 ((rd_T62 l1 a2).f6).length c296_6) ∧ w'.cell? ad300 = some (.int .i64 (rd x7_1 0))) (ds := []) #[false, false, false, false, false, false] (by kernel_rfl) rfl rfl ⟨(blk_cell BK297.out 0).trans rfl, (blk_cell BK297.out 1).trans rfl, (blk_cell BK297.out 2).trans rfl, (blk_cell BK297.out 3).trans rfl, (blk_cell BK297.out 4).trans rfl, (blk_cell BK297.out 5).trans rfl, (blk_cell BK297.out 6).trans rfl, hx300_0⟩ (fun hHeld => ?_)
            generalize wc.drew = w42 at HO_7 BK297 HB hx300_0 hHeld ⊢
            refine pu_ 0 54 ?_
            refine pu_ 2 56 ?_
            refine pu_ 3 57 ?_
            refine tu_ 1 55 ?_
            refine tu_ 4 58 ?_
            refine pu_ 5 59 ?_
            refine done_ (by kernel_rfl) ?_
            try go_wp2
            go_ret
            exact ⟨rE, bA⟩
           ·rw [if_neg c41] at H
            have c41b0 : decide ((rd x7_1 0) ≤ ((rd_T62 l1 a2).f2)) = false := decide_eq_false c41
            clear c41
            obtain rfl := Option.some.inj H
            try go_wp2
            have n0_ := Aside0.mk (Kd.R_drew HO_7.out)
            have n1_ := Aside0.mk (blk_drew BK297.out)
            have n2_ := Aside0.mk (below_drew1 HB.out)
            clear HO_7
            clear BK297
            clear HB
            have HO_7 := n0_
            have BK297 := n1_
            have HB := n2_
            clear n0_ n1_ n2_
            obtain ⟨Ao45, co45, eo45⟩ := Kd.R_slice HO_7.out
            (first | subst eo45 | (injection eo45 with f1_ f2_ f3_; have f4_ := f1_.symm; have f5_ := f3_.symm; clear f1_ f2_ f3_; subst f4_; subst f5_))
            have p300 : 0 ≤ (0 : Int) := (by omega)
            have q300 : 0 < (x7_1.length : Int) := of_decide_eq_true (by assumption)
            obtain ⟨ad300, e300, hx300_0⟩ := Kd.at_int (Kd.R_reads' HO_7.out).2.2 0 p300 q300
            cases e300
            have qi300 : (0 < x7_1.length) = True := eq_true (by omega)
            (try rw [show ((0 : Int)).toNat = 0 from rfl] at hx300_0)
            (try rw [Addr.add_zero'] at hx300_0)
            replace p300 := eq_true p300
            replace q300 := eq_true q300
            refine start_ (n := 6) (S := fun w' => w'.cell? ⟨gb297, 0, none⟩ = some (.int .i64 ((rd_T62 l1 a2).f0)) ∧ w'.cell? ⟨gb297, 1, none⟩ = some (.string ((rd_T62 l1 a2).f1)) ∧ w'.cell? ⟨gb297, 2, none⟩ = some (.int .i64 ((rd_T62 l1 a2).f2)) ∧ w'.cell? ⟨gb297, 3, none⟩ = some (.int .i64 ((rd_T62 l1 a2).f3)) ∧ w'.cell? ⟨gb297, 4, none⟩ = some (.int .i64 ((rd_T62 l1 a2).f4)) ∧ w'.cell? ⟨gb297, 5, none⟩ = some (.bool ((rd_T62 l1 a2).f5)) ∧ w'.cell? ⟨gb297, 6, none⟩ = some (.slice A296_6 ((rd_T62 l1 a2).f6).length c296_6) ∧ w'.cell? ad300 = some (.int .i64 (rd x7_1 0))) (ds := []) #[false, false, false, false, false, false] (by kernel_rfl) rfl rfl ⟨(blk_cell BK297.out 0).trans rfl, (blk_cell BK297.out 1).trans rfl, (blk_cell BK297.out 2).trans rfl, (blk_cell BK297.out 3).trans rfl, (blk_cell BK297.out 4).trans rfl, (blk_cell BK297.out 5).trans rfl, (blk_cell BK297.out 6).trans rfl, hx300_0⟩ (fun hHeld => ?_)
            generalize wc.drew = w44 at HO_7 BK297 HB hx300_0 hHeld ⊢
            refine pu_ 0 54 ?_
            refine pu_ 2 56 ?_
            refine pu_ 3 57 ?_
            refine tu_ 1 55 ?_
            refine tu_ 4 58 ?_
            refine pu_ 5 59 ?_
            refine done_ (by kernel_rfl) ?_
            have p301 : 0 ≤ (0 : Int) := (by omega)
            have q301 : 0 < (x7_1.length : Int) := of_decide_eq_true (by assumption)
            obtain ⟨ad301, e301, hx301_0⟩ := Kd.at_int (Kd.R_reads' HO_7.out).2.2 0 p301 q301
            obtain rfl : ad300 = ad301 := (by injection e301)
            have qi301 : (0 < x7_1.length) = True := eq_true (by omega)
            (try rw [show ((0 : Int)).toNat = 0 from rfl] at hx301_0)
            (try rw [Addr.add_zero'] at hx301_0)
            replace p301 := eq_true p301
            replace q301 := eq_true q301
            try go_wp2
            go_ret
            exact ⟨rE, bA⟩
          ·rw [if_neg c40] at H
           exact absurd H (by simp)
         ·replace c39 := Bool.eq_false_iff.mpr c39
          subst c39
          have H1 : (if ((rd_T62 l1 a2).f0) = 2 then ((slices_Max_int_int.f kj32 ((rd_T62 l1 a2).f6)).bind fun t302 => (if 0 < (x7_1.length : Int) then (if t302 ≥ (rd x7_1 0) then (some (-1)) else (some (((rd_T62 l1 a2).f6).length : Int))) else (none))) else (if ((rd_T62 l1 a2).f0) = 3 then (if 0 < (x7_1.length : Int) then (if ((rd_T62 l1 a2).f2) ≥ (rd x7_1 0) then (some (-1)) else (if 1 < (x7_1.length : Int) then (if ((rd_T62 l1 a2).f4) ≥ (rd x7_1 1) then (some (-1)) else (if (wrap64 ((rd x7_1 0) + (rd x7_1 1))) > 64 then (some (-1)) else (some (wrap64 ((rd x7_1 0) + (rd x7_1 1)))))) else (none))) else (none)) else (if ((rd_T62 l1 a2).f0) = 4 then (if 0 < (x7_1.length : Int) then (if 1 < (x7_1.length : Int) then (if (rd x7_1 0) = (rd x7_1 1) then (some (rd x7_1 0)) else (some (-1))) else (none)) else (none)) else (if 0 < (x7_1.length : Int) then (some (rd x7_1 0)) else (none))))) = some r := by rw [if_neg (show ¬ (false = true) by decide)] at H; exact H
          clear H
          have H := H1
          clear H1
          by_cases c46 : ((rd_T62 l1 a2).f0) = 2
          ·rw [if_pos c46] at H
           have c46b0 : (((rd_T62 l1 a2).f0) == 2) = true := beq_iff_eq.mpr c46
           have c46b1 : (((rd_T62 l1 a2).f0) != 2) = false := bne_eq_false_iff_eq.mpr c46
           clear c46
           replace H := Option.bind_eq_some_iff.mp H
           obtain ⟨t302, A470, H⟩ := H
           replace H : (if 0 < (x7_1.length : Int) then (if t302 ≥ (rd x7_1 0) then (some (-1)) else (some (((rd_T62 l1 a2).f6).length : Int))) else (none)) = some r := H
           have A47 := Aside0.mk A470
           clear A470
           by_cases c48 : 0 < (x7_1.length : Int)
           ·rw [if_pos c48] at H
            have c48b0 : decide (0 < (x7_1.length : Int)) = true := decide_eq_true c48
            have c48b1 : decide (0 < x7_1.length) = true := decide_eq_true (by omega)
            clear c48
            by_cases c49 : t302 ≥ (rd x7_1 0)
            ·rw [if_pos c49] at H
             have c49b0 : decide ((rd x7_1 0) ≤ t302) = true := decide_eq_true c49
             clear c49
             obtain rfl := Option.some.inj H
             try go_wp2
             have n0_ := Aside0.mk (Kd.R_drew HO_7.out)
             have n1_ := Aside0.mk (blk_drew BK297.out)
             have n2_ := Aside0.mk (below_drew1 HB.out)
             clear HO_7
             clear BK297
             clear HB
             have HO_7 := n0_
             have BK297 := n1_
             have HB := n2_
             clear n0_ n1_ n2_
             obtain ⟨Ao51, co51, eo51⟩ := Kd.R_slice HO_7.out
             (first | subst eo51 | (injection eo51 with f1_ f2_ f3_; have f4_ := f1_.symm; have f5_ := f3_.symm; clear f1_ f2_ f3_; subst f4_; subst f5_))
             have p303 : 0 ≤ (0 : Int) := (by omega)
             have q303 : 0 < (x7_1.length : Int) := of_decide_eq_true (by assumption)
             obtain ⟨ad303, e303, hx303_0⟩ := Kd.at_int (Kd.R_reads' HO_7.out).2.2 0 p303 q303
             cases e303
             have qi303 : (0 < x7_1.length) = True := eq_true (by omega)
             (try rw [show ((0 : Int)).toNat = 0 from rfl] at hx303_0)
             (try rw [Addr.add_zero'] at hx303_0)
             replace p303 := eq_true p303
             replace q303 := eq_true q303
             refine start_ (n := 7) (S := fun w' => w'.cell? ⟨gb297, 0, none⟩ = some (.int .i64 ((rd_T62 l1 a2).f0)) ∧ w'.cell? ⟨gb297, 1, none⟩ = some (.string ((rd_T62 l1 a2).f1)) ∧ w'.cell? ⟨gb297, 2, none⟩ = some (.int .i64 ((rd_T62 l1 a2).f2)) ∧ w'.cell? ⟨gb297, 3, none⟩ = some (.int .i64 ((rd_T62 l1 a2).f3)) ∧ w'.cell? ⟨gb297, 4, none⟩ = some (.int .i64 ((rd_T62 l1 a2).f4)) ∧ w'.cell? ⟨gb297, 5, none⟩ = some (.bool ((rd_T62 l1 a2).f5)) ∧ w'.cell? ⟨gb297, 6, none⟩ = some (.slice A296_6 ((rd_T62 l1 a2).f6).length c296_6) ∧ w'.cell? ad303 = some (.int .i64 (rd x7_1 0))) (ds := []) #[false, false, false, false, false, false, false] (by kernel_rfl) rfl rfl ⟨(blk_cell BK297.out 0).trans rfl, (blk_cell BK297.out 1).trans rfl, (blk_cell BK297.out 2).trans rfl, (blk_cell BK297.out 3).trans rfl, (blk_cell BK297.out 4).trans rfl, (blk_cell BK297.out 5).trans rfl, (blk_cell BK297.out 6).trans rfl, hx303_0⟩ (fun hHeld => ?_)
             generalize wc.drew = w50 at HO_7 BK297 HB hx303_0 hHeld ⊢
             refine pu_ 0 62 ?_
             refine pu_ 3 65 ?_
             refine pu_ 4 66 ?_
             refine tu_ 1 63 ?_
             refine tu_ 5 67 ?_
             refine one_ (i := 2) (N := some 64) #[true, true, true, true, true, true, false] rfl rfl (by kernel_rfl) (by decide) (fun K hK => ?_)
             refine goes_ Try.func81 (by kernel_rfl) rfl #[.slice A296_6 ((rd_T62 l1 a2).f6).length c296_6] (by rfl) rfl rfl aL ?_
             with_reducible refine (slices_Max_int_int.calls kj32 _ _ ((rd_T62 l1 a2).f6) t302 _ ?side1 ?side2 A47.out).mono ?_
             (case side1 => exact cA)
             (case side2 => exact HC296_6.out)
             rintro e w52 ⟨rfl, hb⟩
             have HS7_ := (hb.cell (World.block_lt_of_cell? _ _ (hHeld.2.2.2.2.2.2.2))).trans (hHeld.2.2.2.2.2.2.2)
             refine ⟨_, rfl, ?_⟩
             have n0_ := Aside0.mk (Kd.R_below (by (with_reducible repeat (first | apply Kd.R_alloc | apply Kd.R_drewN | apply Kd.R_drew)); exact HO_7.out) hb)
             have n1_ := Aside0.mk (blk_below (g := gb297) (o := .cells #[.int .i64 ((rd_T62 l1 a2).f0), .string ((rd_T62 l1 a2).f1), .int .i64 ((rd_T62 l1 a2).f2), .int .i64 ((rd_T62 l1 a2).f3), .int .i64 ((rd_T62 l1 a2).f4), .bool ((rd_T62 l1 a2).f5), .slice A296_6 ((rd_T62 l1 a2).f6).length c296_6] 62 (0, 0)) (by (with_reducible repeat (first | refine blk_drewN ?_ _ | refine blk_drew ?_ | refine blk_alloc ?_ _)); exact BK297.out) hb)
             have n2_ := Aside0.mk (below_step bA hb)
             clear HO_7
             clear BK297
             clear HB
             have HO_7 := n0_
             have BK297 := n1_
             have HB := n2_
             clear n0_ n1_ n2_
             (try clear hb)
             (try clear hb2)
             (try clear hk)
             (try clear hi)
             refine hK.out _ _ ⟨(blk_cell BK297.out 0).trans rfl, (blk_cell BK297.out 1).trans rfl, (blk_cell BK297.out 2).trans rfl, (blk_cell BK297.out 3).trans rfl, (blk_cell BK297.out 4).trans rfl, (blk_cell BK297.out 5).trans rfl, (blk_cell BK297.out 6).trans rfl, HS7_⟩ (fun hHeld => ?_)
             clear hK K
             refine norm_ (a' := ?_) ?_ ?_
             rotate_left
             ·show Act.put _ (some 64) _ = _
              simp only [Act.put, List.setIfInBounds_toArray, List.set_cons_zero, List.set_cons_succ, i64_w, i32_w]
              rfl
             refine pu_ 6 68 ?_
             refine done_ (by kernel_rfl) ?_
             try go_wp2
             go_ret
             exact ⟨rE, bA⟩
            ·rw [if_neg c49] at H
             have c49b0 : decide ((rd x7_1 0) ≤ t302) = false := decide_eq_false c49
             clear c49
             obtain rfl := Option.some.inj H
             try go_wp2
             have n0_ := Aside0.mk (Kd.R_drew HO_7.out)
             have n1_ := Aside0.mk (blk_drew BK297.out)
             have n2_ := Aside0.mk (below_drew1 HB.out)
             clear HO_7
             clear BK297
             clear HB
             have HO_7 := n0_
             have BK297 := n1_
             have HB := n2_
             clear n0_ n1_ n2_
             obtain ⟨Ao54, co54, eo54⟩ := Kd.R_slice HO_7.out
             (first | subst eo54 | (injection eo54 with f1_ f2_ f3_; have f4_ := f1_.symm; have f5_ := f3_.symm; clear f1_ f2_ f3_; subst f4_; subst f5_))
             have p303 : 0 ≤ (0 : Int) := (by omega)
             have q303 : 0 < (x7_1.length : Int) := of_decide_eq_true (by assumption)
             obtain ⟨ad303, e303, hx303_0⟩ := Kd.at_int (Kd.R_reads' HO_7.out).2.2 0 p303 q303
             cases e303
             have qi303 : (0 < x7_1.length) = True := eq_true (by omega)
             (try rw [show ((0 : Int)).toNat = 0 from rfl] at hx303_0)
             (try rw [Addr.add_zero'] at hx303_0)
             replace p303 := eq_true p303
             replace q303 := eq_true q303
             refine start_ (n := 7) (S := fun w' => w'.cell? ⟨gb297, 0, none⟩ = some (.int .i64 ((rd_T62 l1 a2).f0)) ∧ w'.cell? ⟨gb297, 1, none⟩ = some (.string ((rd_T62 l1 a2).f1)) ∧ w'.cell? ⟨gb297, 2, none⟩ = some (.int .i64 ((rd_T62 l1 a2).f2)) ∧ w'.cell? ⟨gb297, 3, none⟩ = some (.int .i64 ((rd_T62 l1 a2).f3)) ∧ w'.cell? ⟨gb297, 4, none⟩ = some (.int .i64 ((rd_T62 l1 a2).f4)) ∧ w'.cell? ⟨gb297, 5, none⟩ = some (.bool ((rd_T62 l1 a2).f5)) ∧ w'.cell? ⟨gb297, 6, none⟩ = some (.slice A296_6 ((rd_T62 l1 a2).f6).length c296_6) ∧ w'.cell? ad303 = some (.int .i64 (rd x7_1 0))) (ds := []) #[false, false, false, false, false, false, false] (by kernel_rfl) rfl rfl ⟨(blk_cell BK297.out 0).trans rfl, (blk_cell BK297.out 1).trans rfl, (blk_cell BK297.out 2).trans rfl, (blk_cell BK297.out 3).trans rfl, (blk_cell BK297.out 4).trans rfl, (blk_cell BK297.out 5).trans rfl, (blk_cell BK297.out 6).trans rfl, hx303_0⟩ (fun hHeld => ?_)
             generalize wc.drew = w53 at HO_7 BK297 HB hx303_0 hHeld ⊢
             refine pu_ 0 62 ?_
             refine pu_ 3 65 ?_
             refine pu_ 4 66 ?_
             refine tu_ 1 63 ?_
             refine tu_ 5 67 ?_
             refine one_ (i := 2) (N := some 64) #[true, true, true, true, true, true, false] rfl rfl (by kernel_rfl) (by decide) (fun K hK => ?_)
             refine goes_ Try.func81 (by kernel_rfl) rfl #[.slice A296_6 ((rd_T62 l1 a2).f6).length c296_6] (by rfl) rfl rfl aL ?_
             with_reducible refine (slices_Max_int_int.calls kj32 _ _ ((rd_T62 l1 a2).f6) t302 _ ?side1 ?side2 A47.out).mono ?_
             (case side1 => exact cA)
             (case side2 => exact HC296_6.out)
             rintro e w55 ⟨rfl, hb⟩
             have HS7_ := (hb.cell (World.block_lt_of_cell? _ _ (hHeld.2.2.2.2.2.2.2))).trans (hHeld.2.2.2.2.2.2.2)
             refine ⟨_, rfl, ?_⟩
             have n0_ := Aside0.mk (Kd.R_below (by (with_reducible repeat (first | apply Kd.R_alloc | apply Kd.R_drewN | apply Kd.R_drew)); exact HO_7.out) hb)
             have n1_ := Aside0.mk (blk_below (g := gb297) (o := .cells #[.int .i64 ((rd_T62 l1 a2).f0), .string ((rd_T62 l1 a2).f1), .int .i64 ((rd_T62 l1 a2).f2), .int .i64 ((rd_T62 l1 a2).f3), .int .i64 ((rd_T62 l1 a2).f4), .bool ((rd_T62 l1 a2).f5), .slice A296_6 ((rd_T62 l1 a2).f6).length c296_6] 62 (0, 0)) (by (with_reducible repeat (first | refine blk_drewN ?_ _ | refine blk_drew ?_ | refine blk_alloc ?_ _)); exact BK297.out) hb)
             have n2_ := Aside0.mk (below_step bA hb)
             clear HO_7
             clear BK297
             clear HB
             have HO_7 := n0_
             have BK297 := n1_
             have HB := n2_
             clear n0_ n1_ n2_
             (try clear hb)
             (try clear hb2)
             (try clear hk)
             (try clear hi)
             refine hK.out _ _ ⟨(blk_cell BK297.out 0).trans rfl, (blk_cell BK297.out 1).trans rfl, (blk_cell BK297.out 2).trans rfl, (blk_cell BK297.out 3).trans rfl, (blk_cell BK297.out 4).trans rfl, (blk_cell BK297.out 5).trans rfl, (blk_cell BK297.out 6).trans rfl, HS7_⟩ (fun hHeld => ?_)
             clear hK K
             refine norm_ (a' := ?_) ?_ ?_
             rotate_left
             ·show Act.put _ (some 64) _ = _
              simp only [Act.put, List.setIfInBounds_toArray, List.set_cons_zero, List.set_cons_succ, i64_w, i32_w]
              rfl
             refine pu_ 6 68 ?_
             refine done_ (by kernel_rfl) ?_
             obtain ⟨⟨hcz56_0, hcz56_1, hcz56_2, hcz56_3, hcz56_4, hcz56_5, hcz56_6⟩, hfz56_0, hfz56_1, hfz56_2, hfz56_3, hfz56_4, hfz56_5, hfz56_6⟩ := Own.c7 BK297.out
             try go_wp2
             go_ret
             exact ⟨rE, bA⟩
           ·rw [if_neg c48] at H
            exact absurd H (by simp)
          ·rw [if_neg c46] at H
           have c46b0 : (((rd_T62 l1 a2).f0) == 2) = false := beq_eq_false_iff_ne.mpr c46
           have c46b1 : (((rd_T62 l1 a2).f0) != 2) = true := bne_iff_ne.mpr c46
           by_cases c57 : ((rd_T62 l1 a2).f0) = 3
           ·rw [if_pos c57] at H
            have c57b0 : (((rd_T62 l1 a2).f0) == 3) = true := beq_iff_eq.mpr c57
            have c57b1 : (((rd_T62 l1 a2).f0) != 3) = false := bne_eq_false_iff_eq.mpr c57
            clear c57
            by_cases c58 : 0 < (x7_1.length : Int)
            ·rw [if_pos c58] at H
             have c58b0 : decide (0 < (x7_1.length : Int)) = true := decide_eq_true c58
             have c58b1 : decide (0 < x7_1.length) = true := decide_eq_true (by omega)
             clear c58
             by_cases c59 : ((rd_T62 l1 a2).f2) ≥ (rd x7_1 0)
             ·rw [if_pos c59] at H
              have c59b0 : decide ((rd x7_1 0) ≤ ((rd_T62 l1 a2).f2)) = true := decide_eq_true c59
              clear c59
              obtain rfl := Option.some.inj H
              try go_wp2
              have n0_ := Aside0.mk (Kd.R_drew HO_7.out)
              have n1_ := Aside0.mk (blk_drew BK297.out)
              have n2_ := Aside0.mk (below_drew1 HB.out)
              clear HO_7
              clear BK297
              clear HB
              have HO_7 := n0_
              have BK297 := n1_
              have HB := n2_
              clear n0_ n1_ n2_
              obtain ⟨Ao61, co61, eo61⟩ := Kd.R_slice HO_7.out
              (first | subst eo61 | (injection eo61 with f1_ f2_ f3_; have f4_ := f1_.symm; have f5_ := f3_.symm; clear f1_ f2_ f3_; subst f4_; subst f5_))
              have p304 : 0 ≤ (0 : Int) := (by omega)
              have q304 : 0 < (x7_1.length : Int) := of_decide_eq_true (by assumption)
              obtain ⟨ad304, e304, hx304_0⟩ := Kd.at_int (Kd.R_reads' HO_7.out).2.2 0 p304 q304
              cases e304
              have qi304 : (0 < x7_1.length) = True := eq_true (by omega)
              (try rw [show ((0 : Int)).toNat = 0 from rfl] at hx304_0)
              (try rw [Addr.add_zero'] at hx304_0)
              replace p304 := eq_true p304
              replace q304 := eq_true q304
              refine start_ (n := 24) (S := fun w' => w'.cell? ⟨gb297, 0, none⟩ = some (.int .i64 ((rd_T62 l1 a2).f0)) ∧ w'.cell? ⟨gb297, 1, none⟩ = some (.string ((rd_T62 l1 a2).f1)) ∧ w'.cell? ⟨gb297, 2, none⟩ = some (.int .i64 ((rd_T62 l1 a2).f2)) ∧ w'.cell? ⟨gb297, 3, none⟩ = some (.int .i64 ((rd_T62 l1 a2).f3)) ∧ w'.cell? ⟨gb297, 4, none⟩ = some (.int .i64 ((rd_T62 l1 a2).f4)) ∧ w'.cell? ⟨gb297, 5, none⟩ = some (.bool ((rd_T62 l1 a2).f5)) ∧ w'.cell? ⟨gb297, 6, none⟩ = some (.slice A296_6 ((rd_T62 l1 a2).f6).length c296_6) ∧ w'.cell? ad304 = some (.int .i64 (rd x7_1 0))) (ds := []) #[false, false, false, false, false, false, false, false, false, false, false, false, false, false, false, false, false, false, false, false, false, false, false, false] (by kernel_rfl) rfl rfl ⟨(blk_cell BK297.out 0).trans rfl, (blk_cell BK297.out 1).trans rfl, (blk_cell BK297.out 2).trans rfl, (blk_cell BK297.out 3).trans rfl, (blk_cell BK297.out 4).trans rfl, (blk_cell BK297.out 5).trans rfl, (blk_cell BK297.out 6).trans rfl, hx304_0⟩ (fun hHeld => ?_); refine with_tabW impl_width.tab26 impl_width.bits26 (fun HT_ HW_ => ?_)
              generalize wc.drew = w60 at HO_7 BK297 HB hx304_0 hHeld ⊢
              refine pt_ 0 74 ?_
              refine pt_ 2 76 ?_
              refine pt_ 3 77 ?_
              refine tt_ 1 75 ?_
              refine tt_ 4 78 ?_
              refine pt_ 5 79 ?_
              refine pt_ 6 80 ?_
              refine po_ 7 81 ?_
              refine po_ 8 82 ?_
              refine po_ 9 83 ?_
              refine po_ 10 84 ?_
              refine po_ 11 85 ?_
              refine po_ 12 86 ?_
              refine pt_ 13 87 ?_
              refine pt_ 14 88 ?_
              refine po_ 15 89 ?_
              refine po_ 16 90 ?_
              refine po_ 17 91 ?_
              refine po_ 18 92 ?_
              refine po_ 19 93 ?_
              refine po_ 20 94 ?_
              refine po_ 21 95 ?_
              refine po_ 22 96 ?_
              refine pt_ 23 97 ?_
              refine done_ (done_of HT_.out (by kernel_rfl)) ?_
              try go_wp2
              go_ret
              exact ⟨rE, bA⟩
             ·rw [if_neg c59] at H
              have c59b0 : decide ((rd x7_1 0) ≤ ((rd_T62 l1 a2).f2)) = false := decide_eq_false c59
              clear c59
              by_cases c62 : 1 < (x7_1.length : Int)
              ·rw [if_pos c62] at H
               have c62b0 : decide (1 < (x7_1.length : Int)) = true := decide_eq_true c62
               have c62b1 : decide (1 < x7_1.length) = true := decide_eq_true (by omega)
               clear c62
               by_cases c63 : ((rd_T62 l1 a2).f4) ≥ (rd x7_1 1)
               ·rw [if_pos c63] at H
                have c63b0 : decide ((rd x7_1 1) ≤ ((rd_T62 l1 a2).f4)) = true := decide_eq_true c63
                clear c63
                obtain rfl := Option.some.inj H
                try go_wp2
                have n0_ := Aside0.mk (Kd.R_drew HO_7.out)
                have n1_ := Aside0.mk (blk_drew BK297.out)
                have n2_ := Aside0.mk (below_drew1 HB.out)
                clear HO_7
                clear BK297
                clear HB
                have HO_7 := n0_
                have BK297 := n1_
                have HB := n2_
                clear n0_ n1_ n2_
                obtain ⟨Ao65, co65, eo65⟩ := Kd.R_slice HO_7.out
                (first | subst eo65 | (injection eo65 with f1_ f2_ f3_; have f4_ := f1_.symm; have f5_ := f3_.symm; clear f1_ f2_ f3_; subst f4_; subst f5_))
                have p304 : 0 ≤ (0 : Int) := (by omega)
                have q304 : 0 < (x7_1.length : Int) := of_decide_eq_true (by assumption)
                obtain ⟨ad304, e304, hx304_0⟩ := Kd.at_int (Kd.R_reads' HO_7.out).2.2 0 p304 q304
                cases e304
                have qi304 : (0 < x7_1.length) = True := eq_true (by omega)
                (try rw [show ((0 : Int)).toNat = 0 from rfl] at hx304_0)
                (try rw [Addr.add_zero'] at hx304_0)
                replace p304 := eq_true p304
                replace q304 := eq_true q304
                have p305 : 0 ≤ (1 : Int) := (by omega)
                have q305 : 1 < (x7_1.length : Int) := of_decide_eq_true (by assumption)
                obtain ⟨ad305, e305, hx305_0⟩ := Kd.at_int (Kd.R_reads' HO_7.out).2.2 1 p305 q305
                obtain rfl : ad304 = ad305 := (by injection e305)
                (try simp only [show (1 : Int).toNat = 1 from rfl, Nat.reduceMul, Nat.reduceEqDiff, Go.Addr.add, ↓reduceIte] at hx305_0)
                have qi305 : (1 < x7_1.length) = True := eq_true (by omega)
                (try rw [show ((1 : Int)).toNat = 1 from rfl] at hx305_0)
                replace p305 := eq_true p305
                replace q305 := eq_true q305
                refine start_ (n := 24) (S := fun w' => w'.cell? ⟨gb297, 0, none⟩ = some (.int .i64 ((rd_T62 l1 a2).f0)) ∧ w'.cell? ⟨gb297, 1, none⟩ = some (.string ((rd_T62 l1 a2).f1)) ∧ w'.cell? ⟨gb297, 2, none⟩ = some (.int .i64 ((rd_T62 l1 a2).f2)) ∧ w'.cell? ⟨gb297, 3, none⟩ = some (.int .i64 ((rd_T62 l1 a2).f3)) ∧ w'.cell? ⟨gb297, 4, none⟩ = some (.int .i64 ((rd_T62 l1 a2).f4)) ∧ w'.cell? ⟨gb297, 5, none⟩ = some (.bool ((rd_T62 l1 a2).f5)) ∧ w'.cell? ⟨gb297, 6, none⟩ = some (.slice A296_6 ((rd_T62 l1 a2).f6).length c296_6) ∧ w'.cell? ad304 = some (.int .i64 (rd x7_1 0)) ∧ w'.cell? ⟨ad304.block, ad304.off + 1, none⟩ = some (.int .i64 (rd x7_1 1))) (ds := []) #[false, false, false, false, false, false, false, false, false, false, false, false, false, false, false, false, false, false, false, false, false, false, false, false] (by kernel_rfl) rfl rfl ⟨(blk_cell BK297.out 0).trans rfl, (blk_cell BK297.out 1).trans rfl, (blk_cell BK297.out 2).trans rfl, (blk_cell BK297.out 3).trans rfl, (blk_cell BK297.out 4).trans rfl, (blk_cell BK297.out 5).trans rfl, (blk_cell BK297.out 6).trans rfl, hx304_0, hx305_0⟩ (fun hHeld => ?_); refine with_tabW impl_width.tab26 impl_width.bits26 (fun HT_ HW_ => ?_)
                generalize wc.drew = w64 at HO_7 BK297 HB hx304_0 hx305_0 hHeld ⊢
                refine pt_ 0 74 ?_
                refine pt_ 2 76 ?_
                refine pt_ 3 77 ?_
                refine tt_ 1 75 ?_
                refine tt_ 4 78 ?_
                refine pt_ 5 79 ?_
                refine pt_ 6 80 ?_
                refine pt_ 7 81 ?_
                refine pt_ 9 83 ?_
                refine pt_ 10 84 ?_
                refine tt_ 8 82 ?_
                refine tt_ 11 85 ?_
                refine pt_ 12 86 ?_
                refine pt_ 13 87 ?_
                refine pt_ 14 88 ?_
                refine po_ 15 89 ?_
                refine po_ 16 90 ?_
                refine po_ 17 91 ?_
                refine po_ 18 92 ?_
                refine po_ 19 93 ?_
                refine po_ 20 94 ?_
                refine po_ 21 95 ?_
                refine po_ 22 96 ?_
                refine pt_ 23 97 ?_
                refine done_ (done_of HT_.out (by kernel_rfl)) ?_
                try go_wp2
                go_ret
                exact ⟨rE, bA⟩
               ·rw [if_neg c63] at H
                have c63b0 : decide ((rd x7_1 1) ≤ ((rd_T62 l1 a2).f4)) = false := decide_eq_false c63
                clear c63
                by_cases c66 : (wrap64 ((rd x7_1 0) + (rd x7_1 1))) > 64
                ·rw [if_pos c66] at H
                 have c66b0 : decide (64 < (wrap64 ((rd x7_1 0) + (rd x7_1 1)))) = true := decide_eq_true c66
                 clear c66
                 obtain rfl := Option.some.inj H
                 try go_wp2
                 have n0_ := Aside0.mk (Kd.R_drew HO_7.out)
                 have n1_ := Aside0.mk (blk_drew BK297.out)
                 have n2_ := Aside0.mk (below_drew1 HB.out)
                 clear HO_7
                 clear BK297
                 clear HB
                 have HO_7 := n0_
                 have BK297 := n1_
                 have HB := n2_
                 clear n0_ n1_ n2_
                 obtain ⟨Ao68, co68, eo68⟩ := Kd.R_slice HO_7.out
                 (first | subst eo68 | (injection eo68 with f1_ f2_ f3_; have f4_ := f1_.symm; have f5_ := f3_.symm; clear f1_ f2_ f3_; subst f4_; subst f5_))
                 have p304 : 0 ≤ (0 : Int) := (by omega)
                 have q304 : 0 < (x7_1.length : Int) := of_decide_eq_true (by assumption)
                 obtain ⟨ad304, e304, hx304_0⟩ := Kd.at_int (Kd.R_reads' HO_7.out).2.2 0 p304 q304
                 cases e304
                 have qi304 : (0 < x7_1.length) = True := eq_true (by omega)
                 (try rw [show ((0 : Int)).toNat = 0 from rfl] at hx304_0)
                 (try rw [Addr.add_zero'] at hx304_0)
                 replace p304 := eq_true p304
                 replace q304 := eq_true q304
                 have p305 : 0 ≤ (1 : Int) := (by omega)
                 have q305 : 1 < (x7_1.length : Int) := of_decide_eq_true (by assumption)
                 obtain ⟨ad305, e305, hx305_0⟩ := Kd.at_int (Kd.R_reads' HO_7.out).2.2 1 p305 q305
                 obtain rfl : ad304 = ad305 := (by injection e305)
                 (try simp only [show (1 : Int).toNat = 1 from rfl, Nat.reduceMul, Nat.reduceEqDiff, Go.Addr.add, ↓reduceIte] at hx305_0)
                 have qi305 : (1 < x7_1.length) = True := eq_true (by omega)
                 (try rw [show ((1 : Int)).toNat = 1 from rfl] at hx305_0)
                 replace p305 := eq_true p305
                 replace q305 := eq_true q305
                 have p306 : 0 ≤ (0 : Int) := (by omega)
                 have q306 : 0 < (x7_1.length : Int) := of_decide_eq_true (by assumption)
                 obtain ⟨ad306, e306, hx306_0⟩ := Kd.at_int (Kd.R_reads' HO_7.out).2.2 0 p306 q306
                 obtain rfl : ad304 = ad306 := (by injection e306)
                 have qi306 : (0 < x7_1.length) = True := eq_true (by omega)
                 (try rw [show ((0 : Int)).toNat = 0 from rfl] at hx306_0)
                 (try rw [Addr.add_zero'] at hx306_0)
                 replace p306 := eq_true p306
                 replace q306 := eq_true q306
                 have p307 : 0 ≤ (1 : Int) := (by omega)
                 have q307 : 1 < (x7_1.length : Int) := of_decide_eq_true (by assumption)
                 obtain ⟨ad307, e307, hx307_0⟩ := Kd.at_int (Kd.R_reads' HO_7.out).2.2 1 p307 q307
                 obtain rfl : ad304 = ad307 := (by injection e307)
                 (try simp only [show (1 : Int).toNat = 1 from rfl, Nat.reduceMul, Nat.reduceEqDiff, Go.Addr.add, ↓reduceIte] at hx307_0)
                 have qi307 : (1 < x7_1.length) = True := eq_true (by omega)
                 (try rw [show ((1 : Int)).toNat = 1 from rfl] at hx307_0)
                 replace p307 := eq_true p307
                 replace q307 := eq_true q307
                 refine start_ (n := 24) (S := fun w' => w'.cell? ⟨gb297, 0, none⟩ = some (.int .i64 ((rd_T62 l1 a2).f0)) ∧ w'.cell? ⟨gb297, 1, none⟩ = some (.string ((rd_T62 l1 a2).f1)) ∧ w'.cell? ⟨gb297, 2, none⟩ = some (.int .i64 ((rd_T62 l1 a2).f2)) ∧ w'.cell? ⟨gb297, 3, none⟩ = some (.int .i64 ((rd_T62 l1 a2).f3)) ∧ w'.cell? ⟨gb297, 4, none⟩ = some (.int .i64 ((rd_T62 l1 a2).f4)) ∧ w'.cell? ⟨gb297, 5, none⟩ = some (.bool ((rd_T62 l1 a2).f5)) ∧ w'.cell? ⟨gb297, 6, none⟩ = some (.slice A296_6 ((rd_T62 l1 a2).f6).length c296_6) ∧ w'.cell? ad304 = some (.int .i64 (rd x7_1 0)) ∧ w'.cell? ⟨ad304.block, ad304.off + 1, none⟩ = some (.int .i64 (rd x7_1 1)) ∧ w'.cell? ad304 = some (.int .i64 (rd x7_1 0)) ∧ w'.cell? ⟨ad304.block, ad304.off + 1, none⟩ = some (.int .i64 (rd x7_1 1))) (ds := []) #[false, false, false, false, false, false, false, false, false, false, false, false, false, false, false, false, false, false, false, false, false, false, false, false] (by kernel_rfl) rfl rfl ⟨(blk_cell BK297.out 0).trans rfl, (blk_cell BK297.out 1).trans rfl, (blk_cell BK297.out 2).trans rfl, (blk_cell BK297.out 3).trans rfl, (blk_cell BK297.out 4).trans rfl, (blk_cell BK297.out 5).trans rfl, (blk_cell BK297.out 6).trans rfl, hx304_0, hx305_0, hx306_0, hx307_0⟩ (fun hHeld => ?_); refine with_tabW impl_width.tab26 impl_width.bits26 (fun HT_ HW_ => ?_)
                 generalize wc.drew = w67 at HO_7 BK297 HB hx304_0 hx305_0 hx306_0 hx307_0 hHeld ⊢
                 refine pt_ 0 74 ?_
                 refine pt_ 2 76 ?_
                 refine pt_ 3 77 ?_
                 refine tt_ 1 75 ?_
                 refine tt_ 4 78 ?_
                 refine pt_ 5 79 ?_
                 refine pt_ 6 80 ?_
                 refine pt_ 7 81 ?_
                 refine pt_ 9 83 ?_
                 refine pt_ 10 84 ?_
                 refine tt_ 8 82 ?_
                 refine tt_ 11 85 ?_
                 refine pt_ 12 86 ?_
                 refine pt_ 13 87 ?_
                 refine pt_ 14 88 ?_
                 refine pt_ 15 89 ?_
                 refine pt_ 16 90 ?_
                 refine pt_ 18 92 ?_
                 refine pt_ 19 93 ?_
                 refine tt_ 17 91 ?_
                 refine tt_ 20 94 ?_
                 refine pt_ 21 95 ?_
                 refine pt_ 22 96 ?_
                 refine pt_ 23 97 ?_
                 refine done_ (done_of HT_.out (by kernel_rfl)) ?_
                 try go_wp2
                 go_ret
                 exact ⟨rE, bA⟩
                ·rw [if_neg c66] at H
                 have c66b0 : decide (64 < (wrap64 ((rd x7_1 0) + (rd x7_1 1)))) = false := decide_eq_false c66
                 clear c66
                 obtain rfl := Option.some.inj H
                 try go_wp2
                 have n0_ := Aside0.mk (Kd.R_drew HO_7.out)
                 have n1_ := Aside0.mk (blk_drew BK297.out)
                 have n2_ := Aside0.mk (below_drew1 HB.out)
                 clear HO_7
                 clear BK297
                 clear HB
                 have HO_7 := n0_
                 have BK297 := n1_
                 have HB := n2_
                 clear n0_ n1_ n2_
                 obtain ⟨Ao70, co70, eo70⟩ := Kd.R_slice HO_7.out
                 (first | subst eo70 | (injection eo70 with f1_ f2_ f3_; have f4_ := f1_.symm; have f5_ := f3_.symm; clear f1_ f2_ f3_; subst f4_; subst f5_))
                 have p304 : 0 ≤ (0 : Int) := (by omega)
                 have q304 : 0 < (x7_1.length : Int) := of_decide_eq_true (by assumption)
                 obtain ⟨ad304, e304, hx304_0⟩ := Kd.at_int (Kd.R_reads' HO_7.out).2.2 0 p304 q304
                 cases e304
                 have qi304 : (0 < x7_1.length) = True := eq_true (by omega)
                 (try rw [show ((0 : Int)).toNat = 0 from rfl] at hx304_0)
                 (try rw [Addr.add_zero'] at hx304_0)
                 replace p304 := eq_true p304
                 replace q304 := eq_true q304
                 have p305 : 0 ≤ (1 : Int) := (by omega)
                 have q305 : 1 < (x7_1.length : Int) := of_decide_eq_true (by assumption)
                 obtain ⟨ad305, e305, hx305_0⟩ := Kd.at_int (Kd.R_reads' HO_7.out).2.2 1 p305 q305
                 obtain rfl : ad304 = ad305 := (by injection e305)
                 (try simp only [show (1 : Int).toNat = 1 from rfl, Nat.reduceMul, Nat.reduceEqDiff, Go.Addr.add, ↓reduceIte] at hx305_0)
                 have qi305 : (1 < x7_1.length) = True := eq_true (by omega)
                 (try rw [show ((1 : Int)).toNat = 1 from rfl] at hx305_0)
                 replace p305 := eq_true p305
                 replace q305 := eq_true q305
                 have p306 : 0 ≤ (0 : Int) := (by omega)
                 have q306 : 0 < (x7_1.length : Int) := of_decide_eq_true (by assumption)
                 obtain ⟨ad306, e306, hx306_0⟩ := Kd.at_int (Kd.R_reads' HO_7.out).2.2 0 p306 q306
                 obtain rfl : ad304 = ad306 := (by injection e306)
                 have qi306 : (0 < x7_1.length) = True := eq_true (by omega)
                 (try rw [show ((0 : Int)).toNat = 0 from rfl] at hx306_0)
                 (try rw [Addr.add_zero'] at hx306_0)
                 replace p306 := eq_true p306
                 replace q306 := eq_true q306
                 have p307 : 0 ≤ (1 : Int) := (by omega)
                 have q307 : 1 < (x7_1.length : Int) := of_decide_eq_true (by assumption)
                 obtain ⟨ad307, e307, hx307_0⟩ := Kd.at_int (Kd.R_reads' HO_7.out).2.2 1 p307 q307
                 obtain rfl : ad304 = ad307 := (by injection e307)
                 (try simp only [show (1 : Int).toNat = 1 from rfl, Nat.reduceMul, Nat.reduceEqDiff, Go.Addr.add, ↓reduceIte] at hx307_0)
                 have qi307 : (1 < x7_1.length) = True := eq_true (by omega)
                 (try rw [show ((1 : Int)).toNat = 1 from rfl] at hx307_0)
                 replace p307 := eq_true p307
                 replace q307 := eq_true q307
                 refine start_ (n := 24) (S := fun w' => w'.cell? ⟨gb297, 0, none⟩ = some (.int .i64 ((rd_T62 l1 a2).f0)) ∧ w'.cell? ⟨gb297, 1, none⟩ = some (.string ((rd_T62 l1 a2).f1)) ∧ w'.cell? ⟨gb297, 2, none⟩ = some (.int .i64 ((rd_T62 l1 a2).f2)) ∧ w'.cell? ⟨gb297, 3, none⟩ = some (.int .i64 ((rd_T62 l1 a2).f3)) ∧ w'.cell? ⟨gb297, 4, none⟩ = some (.int .i64 ((rd_T62 l1 a2).f4)) ∧ w'.cell? ⟨gb297, 5, none⟩ = some (.bool ((rd_T62 l1 a2).f5)) ∧ w'.cell? ⟨gb297, 6, none⟩ = some (.slice A296_6 ((rd_T62 l1 a2).f6).length c296_6) ∧ w'.cell? ad304 = some (.int .i64 (rd x7_1 0)) ∧ w'.cell? ⟨ad304.block, ad304.off + 1, none⟩ = some (.int .i64 (rd x7_1 1)) ∧ w'.cell? ad304 = some (.int .i64 (rd x7_1 0)) ∧ w'.cell? ⟨ad304.block, ad304.off + 1, none⟩ = some (.int .i64 (rd x7_1 1))) (ds := []) #[false, false, false, false, false, false, false, false, false, false, false, false, false, false, false, false, false, false, false, false, false, false, false, false] (by kernel_rfl) rfl rfl ⟨(blk_cell BK297.out 0).trans rfl, (blk_cell BK297.out 1).trans rfl, (blk_cell BK297.out 2).trans rfl, (blk_cell BK297.out 3).trans rfl, (blk_cell BK297.out 4).trans rfl, (blk_cell BK297.out 5).trans rfl, (blk_cell BK297.out 6).trans rfl, hx304_0, hx305_0, hx306_0, hx307_0⟩ (fun hHeld => ?_); refine with_tabW impl_width.tab26 impl_width.bits26 (fun HT_ HW_ => ?_)
                 generalize wc.drew = w69 at HO_7 BK297 HB hx304_0 hx305_0 hx306_0 hx307_0 hHeld ⊢
                 refine pt_ 0 74 ?_
                 refine pt_ 2 76 ?_
                 refine pt_ 3 77 ?_
                 refine tt_ 1 75 ?_
                 refine tt_ 4 78 ?_
                 refine pt_ 5 79 ?_
                 refine pt_ 6 80 ?_
                 refine pt_ 7 81 ?_
                 refine pt_ 9 83 ?_
                 refine pt_ 10 84 ?_
                 refine tt_ 8 82 ?_
                 refine tt_ 11 85 ?_
                 refine pt_ 12 86 ?_
                 refine pt_ 13 87 ?_
                 refine pt_ 14 88 ?_
                 refine pt_ 15 89 ?_
                 refine pt_ 16 90 ?_
                 refine pt_ 18 92 ?_
                 refine pt_ 19 93 ?_
                 refine tt_ 17 91 ?_
                 refine tt_ 20 94 ?_
                 refine pt_ 21 95 ?_
                 refine pt_ 22 96 ?_
                 refine pt_ 23 97 ?_
                 refine done_ (done_of HT_.out (by kernel_rfl)) ?_
                 try go_wp2
                 have n0_ := Aside0.mk (Kd.R_drew HO_7.out)
                 have n1_ := Aside0.mk (blk_drew BK297.out)
                 have n2_ := Aside0.mk (below_drew1 HB.out)
                 clear HO_7
                 clear BK297
                 clear HB
                 have HO_7 := n0_
                 have BK297 := n1_
                 have HB := n2_
                 clear n0_ n1_ n2_
                 have p308 : 0 ≤ (0 : Int) := (by omega)
                 have q308 : 0 < (x7_1.length : Int) := of_decide_eq_true (by assumption)
                 obtain ⟨ad308, e308, hx308_0⟩ := Kd.at_int (Kd.R_reads' HO_7.out).2.2 0 p308 q308
                 obtain rfl : ad304 = ad308 := (by injection e308)
                 have qi308 : (0 < x7_1.length) = True := eq_true (by omega)
                 (try rw [show ((0 : Int)).toNat = 0 from rfl] at hx308_0)
                 (try rw [Addr.add_zero'] at hx308_0)
                 replace p308 := eq_true p308
                 replace q308 := eq_true q308
                 have p309 : 0 ≤ (1 : Int) := (by omega)
                 have q309 : 1 < (x7_1.length : Int) := of_decide_eq_true (by assumption)
                 obtain ⟨ad309, e309, hx309_0⟩ := Kd.at_int (Kd.R_reads' HO_7.out).2.2 1 p309 q309
                 obtain rfl : ad304 = ad309 := (by injection e309)
                 (try simp only [show (1 : Int).toNat = 1 from rfl, Nat.reduceMul, Nat.reduceEqDiff, Go.Addr.add, ↓reduceIte] at hx309_0)
                 have qi309 : (1 < x7_1.length) = True := eq_true (by omega)
                 (try rw [show ((1 : Int)).toNat = 1 from rfl] at hx309_0)
                 replace p309 := eq_true p309
                 replace q309 := eq_true q309
                 refine start_ (n := 8) (S := fun w' => w'.cell? ad304 = some (.int .i64 (rd x7_1 0)) ∧ w'.cell? ⟨ad304.block, ad304.off + 1, none⟩ = some (.int .i64 (rd x7_1 1))) (ds := []) #[false, false, false, false, false, false, false, false] (by kernel_rfl) rfl rfl ⟨hx308_0, hx309_0⟩ (fun hHeld => ?_); refine with_tabW impl_width.tab28 impl_width.bits28 (fun HT_ HW_ => ?_)
                 generalize w69.drew = w71 at HO_7 BK297 HB hx308_0 hx309_0 hHeld ⊢
                 refine pt_ 0 98 ?_
                 refine pt_ 1 99 ?_
                 refine pt_ 3 101 ?_
                 refine pt_ 4 102 ?_
                 refine tt_ 2 100 ?_
                 refine tt_ 5 103 ?_
                 refine pt_ 6 104 ?_
                 refine pt_ 7 6 ?_
                 refine done_ (done_of HT_.out (by kernel_rfl)) ?_
                 try go_wp2
                 go_ret
                 exact ⟨rE, bA⟩
              ·rw [if_neg c62] at H
               exact absurd H (by simp)
            ·rw [if_neg c58] at H
             exact absurd H (by simp)
           ·rw [if_neg c57] at H
            have c57b0 : (((rd_T62 l1 a2).f0) == 3) = false := beq_eq_false_iff_ne.mpr c57
            have c57b1 : (((rd_T62 l1 a2).f0) != 3) = true := bne_iff_ne.mpr c57
            by_cases c72 : ((rd_T62 l1 a2).f0) = 4
            ·rw [if_pos c72] at H
             have c72b0 : (((rd_T62 l1 a2).f0) == 4) = true := beq_iff_eq.mpr c72
             have c72b1 : (((rd_T62 l1 a2).f0) != 4) = false := bne_eq_false_iff_eq.mpr c72
             clear c72
             by_cases c73 : 0 < (x7_1.length : Int)
             ·rw [if_pos c73] at H
              have c73b0 : decide (0 < (x7_1.length : Int)) = true := decide_eq_true c73
              have c73b1 : decide (0 < x7_1.length) = true := decide_eq_true (by omega)
              clear c73
              by_cases c74 : 1 < (x7_1.length : Int)
              ·rw [if_pos c74] at H
               have c74b0 : decide (1 < (x7_1.length : Int)) = true := decide_eq_true c74
               have c74b1 : decide (1 < x7_1.length) = true := decide_eq_true (by omega)
               clear c74
               by_cases c75 : (rd x7_1 0) = (rd x7_1 1)
               ·rw [if_pos c75] at H
                have c75b0 : ((rd x7_1 0) == (rd x7_1 1)) = true := beq_iff_eq.mpr c75
                have c75b1 : ((rd x7_1 0) != (rd x7_1 1)) = false := bne_eq_false_iff_eq.mpr c75
                clear c75
                obtain rfl := Option.some.inj H
                try go_wp2
                have n0_ := Aside0.mk (Kd.R_drew HO_7.out)
                have n1_ := Aside0.mk (blk_drew BK297.out)
                have n2_ := Aside0.mk (below_drew1 HB.out)
                clear HO_7
                clear BK297
                clear HB
                have HO_7 := n0_
                have BK297 := n1_
                have HB := n2_
                clear n0_ n1_ n2_
                obtain ⟨Ao77, co77, eo77⟩ := Kd.R_slice HO_7.out
                (first | subst eo77 | (injection eo77 with f1_ f2_ f3_; have f4_ := f1_.symm; have f5_ := f3_.symm; clear f1_ f2_ f3_; subst f4_; subst f5_))
                have p310 : 0 ≤ (0 : Int) := (by omega)
                have q310 : 0 < (x7_1.length : Int) := of_decide_eq_true (by assumption)
                obtain ⟨ad310, e310, hx310_0⟩ := Kd.at_int (Kd.R_reads' HO_7.out).2.2 0 p310 q310
                cases e310
                have qi310 : (0 < x7_1.length) = True := eq_true (by omega)
                (try rw [show ((0 : Int)).toNat = 0 from rfl] at hx310_0)
                (try rw [Addr.add_zero'] at hx310_0)
                replace p310 := eq_true p310
                replace q310 := eq_true q310
                have p311 : 0 ≤ (1 : Int) := (by omega)
                have q311 : 1 < (x7_1.length : Int) := of_decide_eq_true (by assumption)
                obtain ⟨ad311, e311, hx311_0⟩ := Kd.at_int (Kd.R_reads' HO_7.out).2.2 1 p311 q311
                obtain rfl : ad310 = ad311 := (by injection e311)
                (try simp only [show (1 : Int).toNat = 1 from rfl, Nat.reduceMul, Nat.reduceEqDiff, Go.Addr.add, ↓reduceIte] at hx311_0)
                have qi311 : (1 < x7_1.length) = True := eq_true (by omega)
                (try rw [show ((1 : Int)).toNat = 1 from rfl] at hx311_0)
                replace p311 := eq_true p311
                replace q311 := eq_true q311
                refine start_ (n := 7) (S := fun w' => w'.cell? ad310 = some (.int .i64 (rd x7_1 0)) ∧ w'.cell? ⟨ad310.block, ad310.off + 1, none⟩ = some (.int .i64 (rd x7_1 1))) (ds := []) #[false, false, false, false, false, false, false] (by kernel_rfl) rfl rfl ⟨hx310_0, hx311_0⟩ (fun hHeld => ?_)
                generalize wc.drew = w76 at HO_7 BK297 HB hx310_0 hx311_0 hHeld ⊢
                refine pu_ 0 107 ?_
                refine pu_ 1 108 ?_
                refine pu_ 3 110 ?_
                refine pu_ 4 111 ?_
                refine tu_ 2 109 ?_
                refine tu_ 5 112 ?_
                refine pu_ 6 113 ?_
                refine done_ (by kernel_rfl) ?_
                have p312 : 0 ≤ (0 : Int) := (by omega)
                have q312 : 0 < (x7_1.length : Int) := of_decide_eq_true (by assumption)
                obtain ⟨ad312, e312, hx312_0⟩ := Kd.at_int (Kd.R_reads' HO_7.out).2.2 0 p312 q312
                obtain rfl : ad310 = ad312 := (by injection e312)
                have qi312 : (0 < x7_1.length) = True := eq_true (by omega)
                (try rw [show ((0 : Int)).toNat = 0 from rfl] at hx312_0)
                (try rw [Addr.add_zero'] at hx312_0)
                replace p312 := eq_true p312
                replace q312 := eq_true q312
                try go_wp2
                go_ret
                exact ⟨rE, bA⟩
               ·rw [if_neg c75] at H
                have c75b0 : ((rd x7_1 0) == (rd x7_1 1)) = false := beq_eq_false_iff_ne.mpr c75
                have c75b1 : ((rd x7_1 0) != (rd x7_1 1)) = true := bne_iff_ne.mpr c75
                obtain rfl := Option.some.inj H
                try go_wp2
                have n0_ := Aside0.mk (Kd.R_drew HO_7.out)
                have n1_ := Aside0.mk (blk_drew BK297.out)
                have n2_ := Aside0.mk (below_drew1 HB.out)
                clear HO_7
                clear BK297
                clear HB
                have HO_7 := n0_
                have BK297 := n1_
                have HB := n2_
                clear n0_ n1_ n2_
                obtain ⟨Ao79, co79, eo79⟩ := Kd.R_slice HO_7.out
                (first | subst eo79 | (injection eo79 with f1_ f2_ f3_; have f4_ := f1_.symm; have f5_ := f3_.symm; clear f1_ f2_ f3_; subst f4_; subst f5_))
                have p310 : 0 ≤ (0 : Int) := (by omega)
                have q310 : 0 < (x7_1.length : Int) := of_decide_eq_true (by assumption)
                obtain ⟨ad310, e310, hx310_0⟩ := Kd.at_int (Kd.R_reads' HO_7.out).2.2 0 p310 q310
                cases e310
                have qi310 : (0 < x7_1.length) = True := eq_true (by omega)
                (try rw [show ((0 : Int)).toNat = 0 from rfl] at hx310_0)
                (try rw [Addr.add_zero'] at hx310_0)
                replace p310 := eq_true p310
                replace q310 := eq_true q310
                have p311 : 0 ≤ (1 : Int) := (by omega)
                have q311 : 1 < (x7_1.length : Int) := of_decide_eq_true (by assumption)
                obtain ⟨ad311, e311, hx311_0⟩ := Kd.at_int (Kd.R_reads' HO_7.out).2.2 1 p311 q311
                obtain rfl : ad310 = ad311 := (by injection e311)
                (try simp only [show (1 : Int).toNat = 1 from rfl, Nat.reduceMul, Nat.reduceEqDiff, Go.Addr.add, ↓reduceIte] at hx311_0)
                have qi311 : (1 < x7_1.length) = True := eq_true (by omega)
                (try rw [show ((1 : Int)).toNat = 1 from rfl] at hx311_0)
                replace p311 := eq_true p311
                replace q311 := eq_true q311
                refine start_ (n := 7) (S := fun w' => w'.cell? ad310 = some (.int .i64 (rd x7_1 0)) ∧ w'.cell? ⟨ad310.block, ad310.off + 1, none⟩ = some (.int .i64 (rd x7_1 1))) (ds := []) #[false, false, false, false, false, false, false] (by kernel_rfl) rfl rfl ⟨hx310_0, hx311_0⟩ (fun hHeld => ?_)
                generalize wc.drew = w78 at HO_7 BK297 HB hx310_0 hx311_0 hHeld ⊢
                refine pu_ 0 107 ?_
                refine pu_ 1 108 ?_
                refine pu_ 3 110 ?_
                refine pu_ 4 111 ?_
                refine tu_ 2 109 ?_
                refine tu_ 5 112 ?_
                refine pu_ 6 113 ?_
                refine done_ (by kernel_rfl) ?_
                try go_wp2
                go_ret
                exact ⟨rE, bA⟩
              ·rw [if_neg c74] at H
               exact absurd H (by simp)
             ·rw [if_neg c73] at H
              exact absurd H (by simp)
            ·rw [if_neg c72] at H
             have c72b0 : (((rd_T62 l1 a2).f0) == 4) = false := beq_eq_false_iff_ne.mpr c72
             have c72b1 : (((rd_T62 l1 a2).f0) != 4) = true := bne_iff_ne.mpr c72
             by_cases c80 : 0 < (x7_1.length : Int)
             ·rw [if_pos c80] at H
              have c80b0 : decide (0 < (x7_1.length : Int)) = true := decide_eq_true c80
              have c80b1 : decide (0 < x7_1.length) = true := decide_eq_true (by omega)
              clear c80
              obtain rfl := Option.some.inj H
              obtain ⟨Ao81, co81, eo81⟩ := Kd.R_slice HO_7.out
              subst eo81
              have p313 : 0 ≤ (0 : Int) := (by omega)
              have q313 : 0 < (x7_1.length : Int) := of_decide_eq_true (by assumption)
              obtain ⟨ad313, e313, hx313_0⟩ := Kd.at_int (Kd.R_reads' HO_7.out).2.2 0 p313 q313
              cases e313
              have qi313 : (0 < x7_1.length) = True := eq_true (by omega)
              (try rw [show ((0 : Int)).toNat = 0 from rfl] at hx313_0)
              (try rw [Addr.add_zero'] at hx313_0)
              replace p313 := eq_true p313
              replace q313 := eq_true q313
              go_wp2
              go_ret
              exact ⟨rE, bA⟩
             ·rw [if_neg c80] at H
              exact absurd H (by simp)
     ·rw [if_neg c17] at H
      exact absurd H (by simp)
    ·rw [if_neg c16] at H
     exact absurd H (by simp)

end Go.Proofs.Ytgmhohafoclmpaa.Q
