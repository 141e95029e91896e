/- The machine side of a law, written by a program of this session over the translation: for each Go function a Lean function with the same answers, and the proof that the Go code comes to them. -/
import Derived.Test.YtbdfidnldaghbaaQx0
import Derived.Test.YtbdfidnldaghbaaQx3
import Derived.Test.YtbdfidnldaghbaaQx5
import Derived.Test.YtbdfidnldaghbaaQx7
namespace Go.Proofs.Ytbdfidnldaghbaa.Q
open Go.RowKit Go.Proofs.Ytbdfidnldaghbaa.Own Go.Proofs.YtbdfidnldaghbaaW.PrintWords Go.Proofs.YtbdfidnldaghbaaW.PrintLast Go.Proofs.YtbdfidnldaghbaaW.PrintMore
attribute [local go_sem] max2_int min2_int max_two min_two max_three min_three max_four min_four   -- for this text's walks alone
set_option linter.unusedVariables false
set_option linter.unusedSimpArgs false

/-! ### impl_PutPart: function 40 -/
def impl_PutPart.j0 : Nat → List (S58) → Int → List (S58) → Bool → Option ((List (S58)) × Bool)
 | 0, _, _, _, _ => none
 | k + 1, x0, x1, x2, x17 => if x17 = true then ((impl_own.f k x0).bind fun t491 => (some (t491, false))) else (if 0 ≤ x1 then (if x1 ≤ (x0.length : Int) then ((impl_end.f k x0 x1 1).bind fun t499 => (if 0 ≤ t499 then (if t499 ≤ (x0.length : Int) then ((slices_Concat_impl_Node_impl_Node.f k (([(x0.take (x1 : Int).toNat), x2, (x0.drop (t499 : Int).toNat)] : List (List (S58))))).bind fun t508 => ((impl_own.f k t508).bind fun t511 => ((impl_PlanOk.f k t511).bind fun t514 => (if t514 = true then (some (t511, true)) else ((impl_own.f k x0).bind fun t515 => (some (t515, false))))))) else (none)) else (none))) else (none)) else (none))
def impl_PutPart.f (k : Nat) (l0 : List (S58)) (a1 : Int) (l2 : List (S58)) : Option ((List (S58)) × Bool) := (impl_has.f k l0 a1).bind fun t489 => (if t489 = true then ((impl_PlanOk.f k l2).bind fun t490 => (impl_PutPart.j0 k l0 a1 l2 (!t490))) else (impl_PutPart.j0 k l0 a1 l2 true))
theorem impl_PutPart.mono_l : ∀ k, (∀ y0 y1 y2 y3, LeO (impl_PutPart.j0 k y0 y1 y2 y3) (impl_PutPart.j0 (k + 1) y0 y1 y2 y3))
 | 0 => fun _ _ _ _ r h => by simp [impl_PutPart.j0] at h
 | k + 1 => by
  have ih0 := impl_PutPart.mono_l k
  ·intro y0 y1 y2 y3
   unfold impl_PutPart.j0
   repeat' first
   | (with_reducible exact ih0 _ _ _ _)
   | (with_reducible exact impl_PlanOk.mono _ _)
   | (with_reducible exact impl_end.mono _ _ _ _)
   | (with_reducible exact impl_has.mono _ _ _)
   | (with_reducible exact impl_own.mono _ _)
   | (with_reducible exact slices_Concat_impl_Node_impl_Node.mono _ _)
   | (with_reducible exact LeO.refl _)
   | (with_reducible exact LeO.none _)
   | (with_reducible refine LeO.ite ?_ ?_)
   | (with_reducible refine LeO.bind ?_ (fun _ => ?_))
   | exact ih0 _ _ _ _
   | exact impl_PlanOk.mono _ _
   | exact impl_end.mono _ _ _ _
   | exact impl_has.mono _ _ _
   | exact impl_own.mono _ _
   | exact slices_Concat_impl_Node_impl_Node.mono _ _
   | exact LeO.none _
   | refine LeO.ite ?_ ?_
   | refine LeO.bind ?_ (fun _ => ?_)
theorem impl_PutPart.mono : ∀ a0 a1 a2 k, LeO (impl_PutPart.f k a0 a1 a2) (impl_PutPart.f (k + 1) a0 a1 a2) := by
 intro a0 a1 a2 k
 have ih0 := impl_PutPart.mono_l k
 unfold impl_PutPart.f
 repeat' first
   | (with_reducible exact ih0 _ _ _ _)
   | (with_reducible exact impl_PlanOk.mono _ _)
   | (with_reducible exact impl_end.mono _ _ _ _)
   | (with_reducible exact impl_has.mono _ _ _)
   | (with_reducible exact impl_own.mono _ _)
   | (with_reducible exact slices_Concat_impl_Node_impl_Node.mono _ _)
   | (with_reducible exact LeO.refl _)
   | (with_reducible exact LeO.none _)
   | (with_reducible refine LeO.ite ?_ ?_)
   | (with_reducible refine LeO.bind ?_ (fun _ => ?_))
   | exact ih0 _ _ _ _
   | exact impl_PlanOk.mono _ _
   | exact impl_end.mono _ _ _ _
   | exact impl_has.mono _ _ _
   | exact impl_own.mono _ _
   | exact slices_Concat_impl_Node_impl_Node.mono _ _
   | exact LeO.none _
   | refine LeO.ite ?_ ?_
   | refine LeO.bind ?_ (fun _ => ?_)
def impl_PutPart.T3 : Bool × List (List Nat × List Nat) := (true, [([], []), ([], []), ([0, 1], [0, 1]), ([], []), ([], []), ([], []), ([], []), ([5, 6], [5, 6]), ([4, 7], [4, 7]), ([2, 3, 8], [2, 3, 8]), ([9, 7], [9]), ([10, 10], [10]), ([11, 11, 0, 1, 2, 3, 4, 5, 6, 7, 8, 9, 10, 11], [11])])
def impl_PutPart.B3 : List Nat := [0, 0, 3, 0, 0, 0, 0, 96, 240, 511, 1023, 2047, 4095]
theorem impl_PutPart.tab3 : rtab .any (opsOf Try.f40 3) = impl_PutPart.T3 := by kernel_rfl
theorem impl_PutPart.bits3 : waitsOk impl_PutPart.T3.2 impl_PutPart.B3 = true := by kernel_rfl
set_option maxHeartbeats 8000000 in
set_option maxRecDepth 100000 in
theorem impl_PutPart.callsV (k : Nat) (P0_ : Nat → Prop) (A0 : Option Addr) (c0 : Nat) (l0 : List (S58)) (a1 : Int) (P2_ : Nat → Prop) (A2 : Option Addr) (c2 : Nat) (l2 : List (S58)) (r1 : List (S58)) (r2 : Bool) (w : World) (hs0 : Kd.V k58 58 w w.heap.size (fun k_ => P0_ k_) (.slice A0 l0.length c0) l0) (hs2 : Kd.V k58 58 w w.heap.size (fun k_ => P2_ k_) (.slice A2 l2.length c2) l2) (h : impl_PutPart.f k l0 a1 l2 = some (r1, r2)) :
  Calls Try.prog 40 #[.slice A0 l0.length c0, .int .i64 a1, .slice A2 l2.length c2] w fun e w' => ∃ v0_ : Value, e = .returned (.tuple #[v0_, .bool r2]) ∧ Kd.S k58 58 w' w.heap.size (fun _ => True) v0_ r1 ∧ Below w.heap.size w w' := by
 have HO0 := Aside0.mk (show Kd.V k58 58 w w.heap.size (fun k_ => ((P0_ k_ ∨ P2_ k_) ∨ w.heap.size ≤ k_)) (.slice A0 l0.length c0) l0 from Kd.V_mono hs0 (fun k_ hk => .inl (.inl hk)))
 have HO2 := Aside0.mk (show Kd.V k58 58 w w.heap.size (fun k_ => ((P0_ k_ ∨ P2_ k_) ∨ w.heap.size ≤ k_)) (.slice A2 l2.length c2) l2 from Kd.V_mono hs2 (fun k_ hk => .inl (.inr hk)))
 have HB := Aside0.mk (Below.refl w.heap.size w)
 have H : ((impl_has.f k l0 a1).bind fun t489 => (if t489 = true then ((impl_PlanOk.f k l2).bind fun t490 => (impl_PutPart.j0 k l0 a1 l2 (!t490))) else (impl_PutPart.j0 k l0 a1 l2 true))) = some (r1, r2) := h
 clear h
 have HC4 := Aside0.mk H
 clear H
 go_enter Try.func40, Try.ntmps40
 go_upto_region 1 with (fail)
 go_cut [17] (fun v17 wc => ∃ (kq : Nat) (x17_3 : Bool), v17 = .bool x17_3 ∧ Aside0 (impl_PutPart.j0 kq l0 a1 l2 x17_3 = some (r1, r2)) ∧ Aside0 (kq ≤ k) ∧ Aside0 (Kd.V k58 58 wc w.heap.size (fun k_ => ((P0_ k_ ∨ P2_ k_) ∨ w.heap.size ≤ k_)) (.slice A0 l0.length c0) l0) ∧ Aside0 (Kd.V k58 58 wc w.heap.size (fun k_ => ((P0_ k_ ∨ P2_ k_) ∨ w.heap.size ≤ k_)) (.slice A2 l2.length c2) l2) ∧ Aside0 (Below w.heap.size w wc))
 case first =>
  have H := HC4.out
  clear HC4
  replace H := Option.bind_eq_some_iff.mp H
  obtain ⟨t489, A50, H⟩ := H
  replace H : (if t489 = true then ((impl_PlanOk.f k l2).bind fun t490 => (impl_PutPart.j0 k l0 a1 l2 (!t490))) else (impl_PutPart.j0 k l0 a1 l2 true)) = some (r1, r2) := H
  have A5 := Aside0.mk A50
  clear A50
  by_cases c6 : t489 = true
  ·subst c6
   have H1 : ((impl_PlanOk.f k l2).bind fun t490 => (impl_PutPart.j0 k l0 a1 l2 (!t490))) = some (r1, r2) := by rw [if_pos rfl] at H; exact H
   clear H
   have H := H1
   clear H1
   replace H := Option.bind_eq_some_iff.mp H
   obtain ⟨t490, A70, H⟩ := H
   replace H : (impl_PutPart.j0 k l0 a1 l2 (!t490)) = some (r1, r2) := H
   have A7 := Aside0.mk A70
   clear A70
   have H' := Aside0.mk H
   clear H
   go_wp2_with (first | ((with_reducible refine gate_callee (f := 87) rfl ?_); refine goesL_ (some 11) rfl rfl Try.func87 (by kernel_rfl) rfl #[.slice A0 l0.length c0, .int .i64 a1] rfl aL ?_; (with_reducible refine (impl_has.calls k _ _ l0 a1 true _ ?side1 ?side2 A5.out).mono ?_); (case side1 => repeat (first | exact (Kd.V_reads' HO0.out).2.2 | (with_reducible refine Kd.C_alloc ?_ _) | (with_reducible refine Kd.C_drewN ?_ _) | (with_reducible refine Kd.C_drew ?_))); (case side2 => exact (Kd.V_reads' HO0.out).2.1); rintro e w8 ⟨rfl, hb⟩; refine ⟨_, rfl, ?_⟩; have n0_ := Aside0.mk (Kd.V_below (by (with_reducible repeat (first | apply Kd.V_alloc | apply Kd.V_drewN | apply Kd.V_drew)); exact HO0.out) hb); have n1_ := Aside0.mk (Kd.V_below (by (with_reducible repeat (first | apply Kd.V_alloc | apply Kd.V_drewN | apply Kd.V_drew)); exact HO2.out) hb); have n2_ := Aside0.mk (below_step bA hb); clear HO0; clear HO2; clear HB; have HO0 := n0_; have HO2 := n1_; have HB := n2_; clear n0_ n1_ n2_; (try clear hb); (try clear hb2); (try clear hk); (try clear hi)) | (go_at_call 34; (with_reducible refine (impl_PlanOk.calls k _ _ l2 t490 _ ?side1 ?side2 A7.out).mono ?_); (case side1 => repeat (first | exact (Kd.V_reads' HO2.out).2.2 | (with_reducible refine Kd.C_alloc ?_ _) | (with_reducible refine Kd.C_drewN ?_ _) | (with_reducible refine Kd.C_drew ?_))); (case side2 => exact (Kd.V_reads' HO2.out).2.1); rintro e w9 ⟨rfl, hb⟩; have n0_ := Aside0.mk (Kd.V_below (by (with_reducible repeat (first | apply Kd.V_alloc | apply Kd.V_drewN | apply Kd.V_drew)); exact HO0.out) hb); have n1_ := Aside0.mk (Kd.V_below (by (with_reducible repeat (first | apply Kd.V_alloc | apply Kd.V_drewN | apply Kd.V_drew)); exact HO2.out) hb); have n2_ := Aside0.mk (below_step bA hb); clear HO0; clear HO2; clear HB; have HO0 := n0_; have HO2 := n1_; have HB := n2_; clear n0_ n1_ n2_; (try clear hb); (try clear hb2); (try clear hk); (try clear hi)))
   go_meet
   case rel => exact ⟨_, (!t490), rF, H', ⟨by first | omega | exact Nat.le_refl _⟩, ⟨by (with_reducible repeat (first | apply Kd.V_alloc | apply Kd.V_drewN | apply Kd.V_drew)); exact HO0.out⟩, ⟨by (with_reducible repeat (first | apply Kd.V_alloc | apply Kd.V_drewN | apply Kd.V_drew)); exact HO2.out⟩, ⟨bA⟩⟩
  ·replace c6 := Bool.eq_false_iff.mpr c6
   subst c6
   have H1 : (impl_PutPart.j0 k l0 a1 l2 true) = some (r1, r2) := by rw [if_neg (show ¬ (false = true) by decide)] at H; exact H
   clear H
   have H := H1
   clear H1
   have H' := Aside0.mk H
   clear H
   go_wp2_with (first | ((with_reducible refine gate_callee (f := 87) rfl ?_); refine goesL_ (some 11) rfl rfl Try.func87 (by kernel_rfl) rfl #[.slice A0 l0.length c0, .int .i64 a1] rfl aL ?_; (with_reducible refine (impl_has.calls k _ _ l0 a1 false _ ?side1 ?side2 A5.out).mono ?_); (case side1 => repeat (first | exact (Kd.V_reads' HO0.out).2.2 | (with_reducible refine Kd.C_alloc ?_ _) | (with_reducible refine Kd.C_drewN ?_ _) | (with_reducible refine Kd.C_drew ?_))); (case side2 => exact (Kd.V_reads' HO0.out).2.1); rintro e w10 ⟨rfl, hb⟩; refine ⟨_, rfl, ?_⟩; have n0_ := Aside0.mk (Kd.V_below (by (with_reducible repeat (first | apply Kd.V_alloc | apply Kd.V_drewN | apply Kd.V_drew)); exact HO0.out) hb); have n1_ := Aside0.mk (Kd.V_below (by (with_reducible repeat (first | apply Kd.V_alloc | apply Kd.V_drewN | apply Kd.V_drew)); exact HO2.out) hb); have n2_ := Aside0.mk (below_step bA hb); clear HO0; clear HO2; clear HB; have HO0 := n0_; have HO2 := n1_; have HB := n2_; clear n0_ n1_ n2_; (try clear hb); (try clear hb2); (try clear hk); (try clear hi)))
   go_meet
   case rel => exact ⟨_, (true), rF, H', ⟨by first | omega | exact Nat.le_refl _⟩, ⟨by (with_reducible repeat (first | apply Kd.V_alloc | apply Kd.V_drewN | apply Kd.V_drew)); exact HO0.out⟩, ⟨by (with_reducible repeat (first | apply Kd.V_alloc | apply Kd.V_drewN | apply Kd.V_drew)); exact HO2.out⟩, ⟨bA⟩⟩
 case rest =>
  clear HC4
  try clear c2
  try clear p2
  try clear c4
  try clear c6
  try clear c8
  obtain ⟨kq, x17_3, rfl, HA, HJ3, HO_0, HO_2, HB⟩ := hcut
  cases kq with
  | zero => exact absurd HA.out (by simp [impl_PutPart.j0])
  | succ kj3 =>
   have H := HA.out
   clear HA
   simp only [impl_PutPart.j0] at H
   by_cases c11 : x17_3 = true
   ·subst c11
    have H1 : ((impl_own.f kj3 l0).bind fun t491 => (some (t491, false))) = some (r1, r2) := by rw [if_pos rfl] at H; exact H
    clear H
    have H := H1
    clear H1
    replace H := Option.bind_eq_some_iff.mp H
    obtain ⟨t491, A120, H⟩ := H
    replace H : (some (t491, false)) = some (r1, r2) := H
    have A12 := Aside0.mk A120
    clear A120
    simp only [Option.some.injEq, Prod.mk.injEq] at H
    obtain ⟨rfl, rfl⟩ := H
    go_wp2_with (first | ((with_reducible refine gate_callee (f := 88) rfl ?_); refine goesL_ (some 19) rfl rfl Try.func88 (by kernel_rfl) rfl #[.slice A0 l0.length c0] rfl aL ?_; (with_reducible refine (impl_own.calls kj3 _ _ l0 t491 _ ?side1 ?side2 A12.out).mono ?_); (case side1 => repeat (first | exact (Kd.V_reads' HO_0.out).2.2 | (with_reducible refine Kd.C_alloc ?_ _) | (with_reducible refine Kd.C_drewN ?_ _) | (with_reducible refine Kd.C_drew ?_))); (case side2 => exact (Kd.V_reads' HO_0.out).2.1); rintro e w13 ⟨v492, rfl, ho0, hb⟩; refine ⟨_, rfl, ?_⟩; (try clear HSr); have HSr := Aside0.mk (Kd.S_lower ho0 (below_size bA)); have n0_ := Aside0.mk (Kd.V_elder' (by (with_reducible repeat (first | apply Kd.V_alloc | apply Kd.V_drewN | apply Kd.V_drew)); exact HO_0.out) (by first | exact Kd.N_base ho0 | exact Kd.N_base (Kd.S_N ho0)) hb); have n1_ := Aside0.mk (Kd.V_elder' (by (with_reducible repeat (first | apply Kd.V_alloc | apply Kd.V_drewN | apply Kd.V_drew)); exact HO_2.out) (by first | exact Kd.N_base ho0 | exact Kd.N_base (Kd.S_N ho0)) hb); have n2_ := Aside0.mk (Kd.N_lower (Kd.N_mono (ok' := fun k_ => ((P0_ k_ ∨ P2_ k_) ∨ w.heap.size ≤ k_)) (Kd.S_N (Kd.S_bound ho0)) (fun k_ hk_ => (.inr (Nat.le_trans (below_size bA) hk_.2.1)))) (below_size bA)); have n3_ := Aside0.mk (below_step bA hb); clear HO_0; clear HO_2; clear HB; have HO_0 := n0_; have HO_2 := n1_; have HO493 := n2_; have HB := n3_; clear n0_ n1_ n2_ n3_; (try clear hb); (try clear hb2); (try clear hk); (try clear hi); (try clear ho0)))
    go_ret2
    exact ⟨_, rE, by (with_reducible repeat (first | apply Kd.S_alloc | apply Kd.S_drewN | apply Kd.S_drew)); exact HSr.out, bA⟩
   ·replace c11 := Bool.eq_false_iff.mpr c11
    subst c11
    have H1 : (if 0 ≤ a1 then (if a1 ≤ (l0.length : Int) then ((impl_end.f kj3 l0 a1 1).bind fun t499 => (if 0 ≤ t499 then (if t499 ≤ (l0.length : Int) then ((slices_Concat_impl_Node_impl_Node.f kj3 (([(l0.take (a1 : Int).toNat), l2, (l0.drop (t499 : Int).toNat)] : List (List (S58))))).bind fun t508 => ((impl_own.f kj3 t508).bind fun t511 => ((impl_PlanOk.f kj3 t511).bind fun t514 => (if t514 = true then (some (t511, true)) else ((impl_own.f kj3 l0).bind fun t515 => (some (t515, false))))))) else (none)) else (none))) else (none)) else (none)) = some (r1, r2) := by rw [if_neg (show ¬ (false = true) by decide)] at H; exact H
    clear H
    have H := H1
    clear H1
    by_cases c14 : 0 ≤ a1
    ·rw [if_pos c14] at H
     have c14b0 := eq_true c14
     have c14b1 : decide (0 ≤ a1) = true := decide_eq_true c14
     clear c14
     by_cases c15 : a1 ≤ (l0.length : Int)
     ·rw [if_pos c15] at H
      have c15b0 := eq_true c15
      have c15b1 : decide (a1 ≤ (l0.length : Int)) = true := decide_eq_true c15
      clear c15
      obtain ⟨y494, hy494⟩ : ∃ y_ : List (S58), y_ = (l0.take (a1 : Int).toNat) := ⟨_, rfl⟩
      replace H : ((impl_end.f kj3 l0 a1 1).bind fun t499 => (if 0 ≤ t499 then (if t499 ≤ (l0.length : Int) then ((slices_Concat_impl_Node_impl_Node.f kj3 (([y494, l2, (l0.drop (t499 : Int).toNat)] : List (List (S58))))).bind fun t508 => ((impl_own.f kj3 t508).bind fun t511 => ((impl_PlanOk.f kj3 t511).bind fun t514 => (if t514 = true then (some (t511, true)) else ((impl_own.f kj3 l0).bind fun t515 => (some (t515, false))))))) else (none)) else (none))) = some (r1, r2) := by first | (rw [hy494]; with_reducible exact H) | (have H2_ := (Option.bind_some _ _).symm.trans H; rw [hy494]; with_reducible exact H2_) | (have H2_ := (Option.bind_some _ _).symm.trans H; with_reducible exact H2_) | with_reducible exact H | (rw [hy494]; exact H) | exact H
      have Ny494 := Aside0.mk hy494
      clear hy494
      replace H := Option.bind_eq_some_iff.mp H
      obtain ⟨t499, A160, H⟩ := H
      replace H : (if 0 ≤ t499 then (if t499 ≤ (l0.length : Int) then ((slices_Concat_impl_Node_impl_Node.f kj3 (([y494, l2, (l0.drop (t499 : Int).toNat)] : List (List (S58))))).bind fun t508 => ((impl_own.f kj3 t508).bind fun t511 => ((impl_PlanOk.f kj3 t511).bind fun t514 => (if t514 = true then (some (t511, true)) else ((impl_own.f kj3 l0).bind fun t515 => (some (t515, false))))))) else (none)) else (none)) = some (r1, r2) := H
      have A16 := Aside0.mk A160
      clear A160
      by_cases c17 : 0 ≤ t499
      ·rw [if_pos c17] at H
       have c17b0 := eq_true c17
       have c17b1 : decide (0 ≤ t499) = true := decide_eq_true c17
       clear c17
       by_cases c18 : t499 ≤ (l0.length : Int)
       ·rw [if_pos c18] at H
        have c18b0 := eq_true c18
        have c18b1 : decide (t499 ≤ (l0.length : Int)) = true := decide_eq_true c18
        clear c18
        obtain ⟨y500, hy500⟩ : ∃ y_ : List (S58), y_ = (l0.drop (t499 : Int).toNat) := ⟨_, rfl⟩
        replace H : ((slices_Concat_impl_Node_impl_Node.f kj3 (([y494, l2, y500] : List (List (S58))))).bind fun t508 => ((impl_own.f kj3 t508).bind fun t511 => ((impl_PlanOk.f kj3 t511).bind fun t514 => (if t514 = true then (some (t511, true)) else ((impl_own.f kj3 l0).bind fun t515 => (some (t515, false))))))) = some (r1, r2) := by first | (rw [hy500]; with_reducible exact H) | (have H2_ := (Option.bind_some _ _).symm.trans H; rw [hy500]; with_reducible exact H2_) | (have H2_ := (Option.bind_some _ _).symm.trans H; with_reducible exact H2_) | with_reducible exact H | (rw [hy500]; exact H) | exact H
        have Ny500 := Aside0.mk hy500
        clear hy500
        obtain ⟨y505, hy505⟩ : ∃ y_ : List (List (S58)), y_ = (([y494, l2, y500] : List (List (S58)))) := ⟨_, rfl⟩
        replace H : ((slices_Concat_impl_Node_impl_Node.f kj3 y505).bind fun t508 => ((impl_own.f kj3 t508).bind fun t511 => ((impl_PlanOk.f kj3 t511).bind fun t514 => (if t514 = true then (some (t511, true)) else ((impl_own.f kj3 l0).bind fun t515 => (some (t515, false))))))) = some (r1, r2) := by first | (rw [hy505]; with_reducible exact H) | (have H2_ := (Option.bind_some _ _).symm.trans H; rw [hy505]; with_reducible exact H2_) | (have H2_ := (Option.bind_some _ _).symm.trans H; with_reducible exact H2_) | with_reducible exact H | (rw [hy505]; exact H) | exact H
        have Ny505 := Aside0.mk hy505
        clear hy505
        replace H := Option.bind_eq_some_iff.mp H
        obtain ⟨t508, A190, H⟩ := H
        replace H : ((impl_own.f kj3 t508).bind fun t511 => ((impl_PlanOk.f kj3 t511).bind fun t514 => (if t514 = true then (some (t511, true)) else ((impl_own.f kj3 l0).bind fun t515 => (some (t515, false)))))) = some (r1, r2) := H
        have A19 := Aside0.mk A190
        clear A190
        replace H := Option.bind_eq_some_iff.mp H
        obtain ⟨t511, A200, H⟩ := H
        replace H : ((impl_PlanOk.f kj3 t511).bind fun t514 => (if t514 = true then (some (t511, true)) else ((impl_own.f kj3 l0).bind fun t515 => (some (t515, false))))) = some (r1, r2) := H
        have A20 := Aside0.mk A200
        clear A200
        replace H := Option.bind_eq_some_iff.mp H
        obtain ⟨t514, A210, H⟩ := H
        replace H : (if t514 = true then (some (t511, true)) else ((impl_own.f kj3 l0).bind fun t515 => (some (t515, false)))) = some (r1, r2) := H
        have A21 := Aside0.mk A210
        clear A210
        by_cases c22 : t514 = true
        ·subst c22
         have H1 : (some (t511, true)) = some (r1, r2) := by rw [if_pos rfl] at H; exact H
         clear H
         have H := H1
         clear H1
         simp only [Option.some.injEq, Prod.mk.injEq] at H
         obtain ⟨rfl, rfl⟩ := H
         try go_wp2
         have n0_ := Aside0.mk (Kd.V_drew HO_0.out)
         have n1_ := Aside0.mk (Kd.V_drew HO_2.out)
         have n2_ := Aside0.mk (below_drew1 HB.out)
         clear HO_0
         clear HO_2
         clear HB
         have HO_0 := n0_
         have HO_2 := n1_
         have HB := n2_
         clear n0_ n1_ n2_
         have q24 : (a1 : Int) ≤ ((l0.length : Int) : Int) := of_decide_eq_true (by assumption)
         obtain ⟨i024, hi024, _, hsz24, _⟩ := info_parts info58
         have hroom24 : l0.length ≤ c0 := (Kd.V_reads' HO_0.out).2.1
         have hC24 : Kd.F k58 _ _ A0 l0.length l0 := (Kd.V_at (base := w.heap.size) HO_0.out).2.2
         have hcut24 := cut_to (P := Try.prog) 46 58 .i64 Try.underlying46 hi024 A0 l0.length c0 a1 (of_decide_eq_true (by assumption)) q24 hroom24
         have hr24 := Kd.F_take (m := (a1 : Int).toNat) hC24 (by omega)
         have hy24 : y494.length = (a1 : Int).toNat := (by rw [Ny494.out, List.length_take]; omega)
         rw [← Ny494.out] at hr24
         rw [← hy24] at hcut24
         have HO498 := Aside0.mk (show Kd.V k58 58 _ w.heap.size _ (.slice A0 y494.length c0) y494 from Kd.V_mk (by omega) hr24)
         have HC498 := Aside0.mk (show y494.length ≤ c0 from by omega)
         clear hr24 hC24 hroom24 hi024 hsz24
         have KY24 := Aside0.mk hy24
         clear hy24
         replace q24 := eq_true q24
         refine start_ (n := 13) (S := fun w' => True) (ds := []) #[false, false, false, false, false, false, false, false, false, false, false, false, false] (by kernel_rfl) rfl rfl trivial (fun hHeld => ?_); refine with_tabW impl_PutPart.tab3 impl_PutPart.bits3 (fun HT_ HW_ => ?_)
         generalize wc.drew = w23 at HO_0 HO_2 HB HO498 hHeld ⊢
         refine pt_ 0 20 ?_
         refine pt_ 1 21 ?_
         refine pt_ 2 22 ?_
         refine pt_ 3 23 ?_
         refine pt_ 4 24 ?_
         refine pt_ 5 25 ?_
         refine pt_ 6 26 ?_
         refine one_ (i := 7) (N := some 27) #[true, true, true, true, true, true, true, true, false, false, false, false, false] rfl rfl (one_of HT_.out (by kernel_rfl)) (by decide) (fun K hK => ?_)
         refine goes_ Try.func83 (by kernel_rfl) rfl #[.slice A0 l0.length c0, .int .i64 a1, .int .i64 1] (by rfl) rfl rfl aL ?_
         with_reducible refine (impl_end.calls kj3 _ _ l0 a1 1 t499 _ ?side1 ?side2 A16.out).mono ?_
         (case side1 => repeat (first | exact (Kd.V_reads' HO_0.out).2.2 | (with_reducible refine Kd.C_alloc ?_ _) | (with_reducible refine Kd.C_drewN ?_ _) | (with_reducible refine Kd.C_drew ?_)))
         (case side2 => exact (Kd.V_reads' HO_0.out).2.1)
         rintro e wq ⟨rfl, ⟨nd, hw⟩⟩
         refine ⟨_, rfl, ?_⟩
         have n0_ := Aside0.mk (show Kd.V k58 58 wq w.heap.size _ _ _ from by rw [hw]; (with_reducible repeat (first | apply Kd.V_alloc | apply Kd.V_drewN | apply Kd.V_drew)); exact HO_0.out)
         have n1_ := Aside0.mk (show Kd.V k58 58 wq w.heap.size _ _ _ from by rw [hw]; (with_reducible repeat (first | apply Kd.V_alloc | apply Kd.V_drewN | apply Kd.V_drew)); exact HO_2.out)
         have n2_ := Aside0.mk (show Kd.V k58 58 wq w.heap.size _ _ _ from by rw [hw]; (with_reducible repeat (first | apply Kd.V_alloc | apply Kd.V_drewN | apply Kd.V_drew)); exact HO498.out)
         have n3_ : Aside0 (Below w.heap.size w wq) := ⟨by rw [hw]; exact bA⟩
         clear HO_0 HO_2 HO498 HB
         have HO_0 := n0_
         have HO_2 := n1_
         have HO498 := n2_
         have HB := n3_
         clear n0_ n1_ n2_ n3_ hw
         have q25 : (t499 : Int) ≤ ((l0.length : Int) : Int) := of_decide_eq_true (by assumption)
         obtain ⟨i025, hi025, _, hsz25, _⟩ := info_parts info58
         have hroom25 : l0.length ≤ c0 := (Kd.V_reads' HO_0.out).2.1
         have hC25 : Kd.F k58 _ _ A0 l0.length l0 := (Kd.V_at (base := w.heap.size) HO_0.out).2.2
         have q025 : (0 : Int) ≤ (t499 : Int) := of_decide_eq_true (by assumption)
         have hcut25 := cut_from (P := Try.prog) 46 58 .i64 Try.underlying46 hi025 7 hsz25 A0 l0.length c0 t499 q025 q25
         have hr25 := Kd.F_cut (m := (t499 : Int).toNat) (c := c0) hC25 (by omega) hroom25
         obtain ⟨A25, hA25⟩ : ∃ A1, A1 = (if c0 = (t499 : Int).toNat then A0 else (A0 : Option Addr).map (·.add ((t499 : Int).toNat * 7))) := ⟨_, rfl⟩
         obtain ⟨c25, hc25⟩ : ∃ c1, c1 = c0 - (t499 : Int).toNat := ⟨_, rfl⟩
         have hy25 : y500.length = l0.length - (t499 : Int).toNat := (by rw [Ny500.out, List.length_drop] <;> omega)
         rw [show (l0).drop (t499 : Int).toNat = y500 from Ny500.out.symm] at hr25
         replace hr25 : Kd.F k58 _ _ A25 y500.length y500 := (by rw [hA25]; exact hr25)
         rw [← hy25, ← hA25, ← hc25] at hcut25
         have HO504 := Aside0.mk (show Kd.V k58 58 _ w.heap.size _ (.slice A25 y500.length c25) y500 from Kd.V_mk (by rw [hy25, hc25]; exact Nat.sub_le_sub_right hroom25 _) hr25)
         have HC504 := Aside0.mk (show y500.length ≤ c25 from by rw [hy25, hc25]; exact Nat.sub_le_sub_right hroom25 _)
         clear hr25 hC25 hroom25 hi025 hsz25 hc25
         have KY25 := Aside0.mk hy25
         have KA25 := Aside0.mk hA25
         clear hy25 hA25
         replace q25 := eq_true q25
         refine hK.out _ _ trivial (fun hHeld => ?_)
         clear hK K
         refine norm_ (a' := ?_) ?_ ?_
         rotate_left
         ·show Act.put _ (some 27) _ = _
          simp only [Act.put, List.setIfInBounds_toArray, List.set_cons_zero, List.set_cons_succ, i64_w, i32_w]
          rfl
         refine pt_ 8 28 ?_
         refine one_ (i := 9) (N := some 29) #[true, true, true, true, true, true, true, true, true, true, false, false, false] rfl rfl (one_of HT_.out (by kernel_rfl)) (by decide) (fun K hK => ?_)
         refine Kd.N_lit_step (Kd.slice 58 k58) _ 46 ?hg (N' := 29) ?hd (xs := ([y494, l2, y500] : List (List (S58)))) (inner := [.slice A0 y494.length c0, .slice A2 l2.length c2, .slice A25 y500.length c25]) (ok := (fun k_ => ((P0_ k_ ∨ P2_ k_) ∨ w.heap.size ≤ k_))) (okp := (fun k_ => ((P0_ k_ ∨ P2_ k_) ∨ w.heap.size ≤ k_))) ?hr ?hp (fun _ hk => hk) ((show ∀ k_, wq.heap.size ≤ k_ → (fun k_ => ((P0_ k_ ∨ P2_ k_) ∨ w.heap.size ≤ k_)) k_ from fun k_ hk => (.inr (Nat.le_trans (below_size bA) hk))) _ (Nat.le_refl _)) (Below.refl _ _) (Nat.le_refl _) (by simp) ?_; (case hd => rfl); (case hg => rfl); (case hr => first | (go_simp; done) | (go_simp; rfl)); (case hp => exact (Reps.one (show Kd.FK (Kd.slice 58 k58) _ _ y494 [.slice A0 y494.length c0] from (Kd.FK_slice_mk (Kd.V_reads' (Kd.V_mono (ok' := (fun k_ => ((P0_ k_ ∨ P2_ k_) ∨ w.heap.size ≤ k_))) (HO498.out) (fun k_ hk => hk))).2.1 (Kd.V_F (Kd.V_mono (ok' := (fun k_ => ((P0_ k_ ∨ P2_ k_) ∨ w.heap.size ≤ k_))) (HO498.out) (fun k_ hk => hk))))) (Reps.one (show Kd.FK (Kd.slice 58 k58) _ _ l2 [.slice A2 l2.length c2] from (Kd.FK_slice_mk (Kd.V_reads' (Kd.V_mono (ok' := (fun k_ => ((P0_ k_ ∨ P2_ k_) ∨ w.heap.size ≤ k_))) (HO_2.out) (fun k_ hk => hk))).2.1 (Kd.V_F (Kd.V_mono (ok' := (fun k_ => ((P0_ k_ ∨ P2_ k_) ∨ w.heap.size ≤ k_))) (HO_2.out) (fun k_ hk => hk))))) (Reps.one (show Kd.FK (Kd.slice 58 k58) _ _ y500 [.slice A25 y500.length c25] from (Kd.FK_slice_mk (Kd.V_reads' (Kd.V_mono (ok' := (fun k_ => ((P0_ k_ ∨ P2_ k_) ∨ w.heap.size ≤ k_))) (HO504.out) (fun k_ hk => hk))).2.1 (Kd.V_F (Kd.V_mono (ok' := (fun k_ => ((P0_ k_ ∨ P2_ k_) ∨ w.heap.size ≤ k_))) (HO504.out) (fun k_ hk => hk))))) (Reps.none _ _)))))
         intro v506 w26 ho27 hb hg_ hnew_
         clear hg_ hnew_
         (first | rw [← Ny505.out] at ho27 | (simp only [Int.reduceToNat] at ho27; rw [← Ny505.out] at ho27))
         have n0_ := Aside0.mk (Kd.V_elder' (by (with_reducible repeat (first | apply Kd.V_alloc | apply Kd.V_drewN | apply Kd.V_drew)); exact HO_0.out) (Kd.N_base ho27) hb)
         have n1_ := Aside0.mk (Kd.V_elder' (by (with_reducible repeat (first | apply Kd.V_alloc | apply Kd.V_drewN | apply Kd.V_drew)); exact HO_2.out) (Kd.N_base ho27) hb)
         have n2_ := Aside0.mk (Kd.V_elder' (by (with_reducible repeat (first | apply Kd.V_alloc | apply Kd.V_drewN | apply Kd.V_drew)); exact HO498.out) (Kd.N_base ho27) hb)
         have n3_ := Aside0.mk (Kd.V_elder' (by (with_reducible repeat (first | apply Kd.V_alloc | apply Kd.V_drewN | apply Kd.V_drew)); exact HO504.out) (Kd.N_base ho27) hb)
         have n4_ := Aside0.mk (Kd.N_lower ho27 (below_size bA))
         have n5_ := Aside0.mk (below_step bA hb)
         clear HO_0
         clear HO_2
         clear HO498
         clear HO504
         clear HB
         have HO_0 := n0_
         have HO_2 := n1_
         have HO498 := n2_
         have HO504 := n3_
         have HO507 := n4_
         have HB := n5_
         clear n0_ n1_ n2_ n3_ n4_ n5_
         clear hb ho27
         obtain ⟨Ao28, co28, eo28⟩ := Kd.N_slice HO507.out
         (first | subst eo28 | (injection eo28 with f1_ f2_ f3_; have f4_ := f1_.symm; have f5_ := f3_.symm; clear f1_ f2_ f3_; subst f4_; subst f5_))
         refine hK.out _ _ trivial (fun hHeld => ?_)
         clear hK K
         refine norm_ (a' := ?_) ?_ ?_
         rotate_left
         ·show Act.put _ (some 29) _ = _
          simp only [Act.put, List.setIfInBounds_toArray, List.set_cons_zero, List.set_cons_succ, i64_w, i32_w]
          rfl
         refine one_ (i := 10) (N := some 30) #[true, true, true, true, true, true, true, true, true, true, true, false, false] rfl rfl (one_of HT_.out (by kernel_rfl)) (by decide) (fun K hK => ?_)
         refine goes_ Try.func89 (by kernel_rfl) rfl #[.slice Ao28 y505.length co28] (by rfl) rfl rfl aL ?_
         with_reducible refine (slices_Concat_impl_Node_impl_Node.calls kj3 _ _ y505 t508 _ ?side1 ?side2 A19.out).mono ?_
         (case side1 => repeat (first | exact (Kd.N_reads' HO507.out).2.2 | (with_reducible refine Kd.C_alloc ?_ _) | (with_reducible refine Kd.C_drewN ?_ _) | (with_reducible refine Kd.C_drew ?_)))
         (case side2 => exact (Kd.N_reads' HO507.out).2.1)
         rintro e w29 ⟨v509, rfl, ho0, hb⟩
         refine ⟨_, rfl, ?_⟩
         have n0_ := Aside0.mk (Kd.V_elder' (by (with_reducible repeat (first | apply Kd.V_alloc | apply Kd.V_drewN | apply Kd.V_drew)); exact HO_0.out) (by first | exact Kd.N_base ho0 | exact Kd.N_base (Kd.S_N ho0)) hb)
         have n1_ := Aside0.mk (Kd.V_elder' (by (with_reducible repeat (first | apply Kd.V_alloc | apply Kd.V_drewN | apply Kd.V_drew)); exact HO_2.out) (by first | exact Kd.N_base ho0 | exact Kd.N_base (Kd.S_N ho0)) hb)
         have n2_ := Aside0.mk (Kd.V_elder' (by (with_reducible repeat (first | apply Kd.V_alloc | apply Kd.V_drewN | apply Kd.V_drew)); exact HO498.out) (by first | exact Kd.N_base ho0 | exact Kd.N_base (Kd.S_N ho0)) hb)
         have n3_ := Aside0.mk (Kd.V_elder' (by (with_reducible repeat (first | apply Kd.V_alloc | apply Kd.V_drewN | apply Kd.V_drew)); exact HO504.out) (by first | exact Kd.N_base ho0 | exact Kd.N_base (Kd.S_N ho0)) hb)
         have n4_ := Aside0.mk (Kd.N_elder' (by (with_reducible repeat (first | apply Kd.N_alloc | apply Kd.N_drewN | apply Kd.N_drew)); exact HO507.out) (by first | exact Kd.N_base ho0 | exact Kd.N_base (Kd.S_N ho0)) hb)
         have n5_ := Aside0.mk (Kd.N_lower ho0 (below_size bA))
         have n6_ := Aside0.mk (below_step bA hb)
         clear HO_0
         clear HO_2
         clear HO498
         clear HO504
         clear HO507
         clear HB
         have HO_0 := n0_
         have HO_2 := n1_
         have HO498 := n2_
         have HO504 := n3_
         have HO507 := n4_
         have HO510 := n5_
         have HB := n6_
         clear n0_ n1_ n2_ n3_ n4_ n5_ n6_
         (try clear hb)
         (try clear hb2)
         (try clear hk)
         (try clear hi)
         (try clear ho0)
         obtain ⟨Ao30, co30, eo30⟩ := Kd.N_slice HO510.out
         (first | subst eo30 | (injection eo30 with f1_ f2_ f3_; have f4_ := f1_.symm; have f5_ := f3_.symm; clear f1_ f2_ f3_; subst f4_; subst f5_))
         refine hK.out _ _ trivial (fun hHeld => ?_)
         clear hK K
         refine norm_ (a' := ?_) ?_ ?_
         rotate_left
         ·show Act.put _ (some 30) _ = _
          simp only [Act.put, List.setIfInBounds_toArray, List.set_cons_zero, List.set_cons_succ, i64_w, i32_w]
          rfl
         refine one_ (i := 11) (N := some 31) #[true, true, true, true, true, true, true, true, true, true, true, true, false] rfl rfl (one_of HT_.out (by kernel_rfl)) (by decide) (fun K hK => ?_)
         refine goes_ Try.func88 (by kernel_rfl) rfl #[.slice Ao30 t508.length co30] (by rfl) rfl rfl aL ?_
         with_reducible refine (impl_own.calls kj3 _ _ t508 t511 _ ?side1 ?side2 A20.out).mono ?_
         (case side1 => repeat (first | exact (Kd.N_reads' HO510.out).2.2 | (with_reducible refine Kd.C_alloc ?_ _) | (with_reducible refine Kd.C_drewN ?_ _) | (with_reducible refine Kd.C_drew ?_)))
         (case side2 => exact (Kd.N_reads' HO510.out).2.1)
         rintro e w31 ⟨v512, rfl, ho0, hb⟩
         refine ⟨_, rfl, ?_⟩
         have HSr := Aside0.mk (Kd.S_lower ho0 (below_size bA))
         have n0_ := Aside0.mk (Kd.V_elder' (by (with_reducible repeat (first | apply Kd.V_alloc | apply Kd.V_drewN | apply Kd.V_drew)); exact HO_0.out) (by first | exact Kd.N_base ho0 | exact Kd.N_base (Kd.S_N ho0)) hb)
         have n1_ := Aside0.mk (Kd.V_elder' (by (with_reducible repeat (first | apply Kd.V_alloc | apply Kd.V_drewN | apply Kd.V_drew)); exact HO_2.out) (by first | exact Kd.N_base ho0 | exact Kd.N_base (Kd.S_N ho0)) hb)
         have n2_ := Aside0.mk (Kd.V_elder' (by (with_reducible repeat (first | apply Kd.V_alloc | apply Kd.V_drewN | apply Kd.V_drew)); exact HO498.out) (by first | exact Kd.N_base ho0 | exact Kd.N_base (Kd.S_N ho0)) hb)
         have n3_ := Aside0.mk (Kd.V_elder' (by (with_reducible repeat (first | apply Kd.V_alloc | apply Kd.V_drewN | apply Kd.V_drew)); exact HO504.out) (by first | exact Kd.N_base ho0 | exact Kd.N_base (Kd.S_N ho0)) hb)
         have n4_ := Aside0.mk (Kd.N_elder' (by (with_reducible repeat (first | apply Kd.N_alloc | apply Kd.N_drewN | apply Kd.N_drew)); exact HO507.out) (by first | exact Kd.N_base ho0 | exact Kd.N_base (Kd.S_N ho0)) hb)
         have n5_ := Aside0.mk (Kd.N_elder' (by (with_reducible repeat (first | apply Kd.N_alloc | apply Kd.N_drewN | apply Kd.N_drew)); exact HO510.out) (by first | exact Kd.N_base ho0 | exact Kd.N_base (Kd.S_N ho0)) hb)
         have n6_ := Aside0.mk (Kd.N_lower (Kd.N_mono (ok' := fun k_ => ((P0_ k_ ∨ P2_ k_) ∨ w.heap.size ≤ k_) ∧ some k_ ≠ (.slice Ao28 y505.length co28 : Value).ownBlock ∧ some k_ ≠ (.slice Ao30 t508.length co30 : Value).ownBlock) (Kd.S_N (Kd.S_bound ho0)) (fun k_ hk_ => ⟨(.inr (Nat.le_trans (below_size bA) hk_.2.1)), (Kd.fresh' (Kd.N_lt (by (with_reducible repeat (first | apply Kd.N_alloc | apply Kd.N_drewN | apply Kd.N_drew)); exact HO507.out)) k_ hk_.2.1), (Kd.fresh' (Kd.N_lt (by (with_reducible repeat (first | apply Kd.N_alloc | apply Kd.N_drewN | apply Kd.N_drew)); exact HO510.out)) k_ hk_.2.1)⟩)) (below_size bA))
         have n7_ := Aside0.mk (below_step bA hb)
         clear HO_0
         clear HO_2
         clear HO498
         clear HO504
         clear HO507
         clear HO510
         clear HB
         have HO_0 := n0_
         have HO_2 := n1_
         have HO498 := n2_
         have HO504 := n3_
         have HO507 := n4_
         have HO510 := n5_
         have HO513 := n6_
         have HB := n7_
         clear n0_ n1_ n2_ n3_ n4_ n5_ n6_ n7_
         (try clear hb)
         (try clear hb2)
         (try clear hk)
         (try clear hi)
         (try clear ho0)
         refine hK.out _ _ trivial (fun hHeld => ?_)
         clear hK K
         refine norm_ (a' := ?_) ?_ ?_
         rotate_left
         ·show Act.put _ (some 31) _ = _
          simp only [Act.put, List.setIfInBounds_toArray, List.set_cons_zero, List.set_cons_succ, i64_w, i32_w]
          rfl
         refine pt_ 12 8 ?_
         refine done_ (done_of HT_.out (by kernel_rfl)) ?_
         obtain ⟨Ao32, co32, eo32⟩ := Kd.N_slice HO513.out
         subst eo32
         try go_wp2_with (first | ((with_reducible refine gate_callee (f := 34) rfl ?_); refine goesL_ (some 33) rfl rfl Try.func34 (by kernel_rfl) rfl #[.slice Ao32 t511.length co32] rfl aL ?_; (with_reducible refine (impl_PlanOk.calls kj3 _ _ t511 true _ ?side1 ?side2 A21.out).mono ?_); (case side1 => repeat (first | exact (Kd.N_reads' HO513.out).2.2 | (with_reducible refine Kd.C_alloc ?_ _) | (with_reducible refine Kd.C_drewN ?_ _) | (with_reducible refine Kd.C_drew ?_))); (case side2 => exact (Kd.N_reads' HO513.out).2.1); rintro e w33 ⟨rfl, hb⟩; refine ⟨_, rfl, ?_⟩; have HSr2 := Aside0.mk (Kd.S_below (by (with_reducible repeat (first | apply Kd.S_alloc | apply Kd.S_drewN | apply Kd.S_drew)); exact HSr.out) hb); clear HSr; have HSr := HSr2; clear HSr2; have n0_ := Aside0.mk (Kd.V_below (by (with_reducible repeat (first | apply Kd.V_alloc | apply Kd.V_drewN | apply Kd.V_drew)); exact HO_0.out) hb); have n1_ := Aside0.mk (Kd.V_below (by (with_reducible repeat (first | apply Kd.V_alloc | apply Kd.V_drewN | apply Kd.V_drew)); exact HO_2.out) hb); have n2_ := Aside0.mk (Kd.V_below (by (with_reducible repeat (first | apply Kd.V_alloc | apply Kd.V_drewN | apply Kd.V_drew)); exact HO498.out) hb); have n3_ := Aside0.mk (Kd.V_below (by (with_reducible repeat (first | apply Kd.V_alloc | apply Kd.V_drewN | apply Kd.V_drew)); exact HO504.out) hb); have n4_ := Aside0.mk (Kd.N_below (by (with_reducible repeat (first | apply Kd.N_alloc | apply Kd.N_drewN | apply Kd.N_drew)); exact HO507.out) hb); have n5_ := Aside0.mk (Kd.N_below (by (with_reducible repeat (first | apply Kd.N_alloc | apply Kd.N_drewN | apply Kd.N_drew)); exact HO510.out) hb); have n6_ := Aside0.mk (Kd.N_below (by (with_reducible repeat (first | apply Kd.N_alloc | apply Kd.N_drewN | apply Kd.N_drew)); exact HO513.out) hb); have n7_ := Aside0.mk (below_step bA hb); clear HO_0; clear HO_2; clear HO498; clear HO504; clear HO507; clear HO510; clear HO513; clear HB; have HO_0 := n0_; have HO_2 := n1_; have HO498 := n2_; have HO504 := n3_; have HO507 := n4_; have HO510 := n5_; have HO513 := n6_; have HB := n7_; clear n0_ n1_ n2_ n3_ n4_ n5_ n6_ n7_; (try clear hb); (try clear hb2); (try clear hk); (try clear hi)))
         go_ret2
         exact ⟨_, rE, by (with_reducible repeat (first | apply Kd.S_alloc | apply Kd.S_drewN | apply Kd.S_drew)); exact HSr.out, bA⟩
        ·replace c22 := Bool.eq_false_iff.mpr c22
         subst c22
         have H1 : ((impl_own.f kj3 l0).bind fun t515 => (some (t515, false))) = some (r1, r2) := by rw [if_neg (show ¬ (false = true) by decide)] at H; exact H
         clear H
         have H := H1
         clear H1
         replace H := Option.bind_eq_some_iff.mp H
         obtain ⟨t515, A340, H⟩ := H
         replace H : (some (t515, false)) = some (r1, r2) := H
         have A34 := Aside0.mk A340
         clear A340
         simp only [Option.some.injEq, Prod.mk.injEq] at H
         obtain ⟨rfl, rfl⟩ := H
         try go_wp2
         have n0_ := Aside0.mk (Kd.V_drew HO_0.out)
         have n1_ := Aside0.mk (Kd.V_drew HO_2.out)
         have n2_ := Aside0.mk (below_drew1 HB.out)
         clear HO_0
         clear HO_2
         clear HB
         have HO_0 := n0_
         have HO_2 := n1_
         have HB := n2_
         clear n0_ n1_ n2_
         have q36 : (a1 : Int) ≤ ((l0.length : Int) : Int) := of_decide_eq_true (by assumption)
         obtain ⟨i036, hi036, _, hsz36, _⟩ := info_parts info58
         have hroom36 : l0.length ≤ c0 := (Kd.V_reads' HO_0.out).2.1
         have hC36 : Kd.F k58 _ _ A0 l0.length l0 := (Kd.V_at (base := w.heap.size) HO_0.out).2.2
         have hcut36 := cut_to (P := Try.prog) 46 58 .i64 Try.underlying46 hi036 A0 l0.length c0 a1 (of_decide_eq_true (by assumption)) q36 hroom36
         have hr36 := Kd.F_take (m := (a1 : Int).toNat) hC36 (by omega)
         have hy36 : y494.length = (a1 : Int).toNat := (by rw [Ny494.out, List.length_take]; omega)
         rw [← Ny494.out] at hr36
         rw [← hy36] at hcut36
         have HO498 := Aside0.mk (show Kd.V k58 58 _ w.heap.size _ (.slice A0 y494.length c0) y494 from Kd.V_mk (by omega) hr36)
         have HC498 := Aside0.mk (show y494.length ≤ c0 from by omega)
         clear hr36 hC36 hroom36 hi036 hsz36
         have KY36 := Aside0.mk hy36
         clear hy36
         replace q36 := eq_true q36
         refine start_ (n := 13) (S := fun w' => True) (ds := []) #[false, false, false, false, false, false, false, false, false, false, false, false, false] (by kernel_rfl) rfl rfl trivial (fun hHeld => ?_); refine with_tabW impl_PutPart.tab3 impl_PutPart.bits3 (fun HT_ HW_ => ?_)
         generalize wc.drew = w35 at HO_0 HO_2 HB HO498 hHeld ⊢
         refine pt_ 0 20 ?_
         refine pt_ 1 21 ?_
         refine pt_ 2 22 ?_
         refine pt_ 3 23 ?_
         refine pt_ 4 24 ?_
         refine pt_ 5 25 ?_
         refine pt_ 6 26 ?_
         refine one_ (i := 7) (N := some 27) #[true, true, true, true, true, true, true, true, false, false, false, false, false] rfl rfl (one_of HT_.out (by kernel_rfl)) (by decide) (fun K hK => ?_)
         refine goes_ Try.func83 (by kernel_rfl) rfl #[.slice A0 l0.length c0, .int .i64 a1, .int .i64 1] (by rfl) rfl rfl aL ?_
         with_reducible refine (impl_end.calls kj3 _ _ l0 a1 1 t499 _ ?side1 ?side2 A16.out).mono ?_
         (case side1 => repeat (first | exact (Kd.V_reads' HO_0.out).2.2 | (with_reducible refine Kd.C_alloc ?_ _) | (with_reducible refine Kd.C_drewN ?_ _) | (with_reducible refine Kd.C_drew ?_)))
         (case side2 => exact (Kd.V_reads' HO_0.out).2.1)
         rintro e wq ⟨rfl, ⟨nd, hw⟩⟩
         refine ⟨_, rfl, ?_⟩
         have n0_ := Aside0.mk (show Kd.V k58 58 wq w.heap.size _ _ _ from by rw [hw]; (with_reducible repeat (first | apply Kd.V_alloc | apply Kd.V_drewN | apply Kd.V_drew)); exact HO_0.out)
         have n1_ := Aside0.mk (show Kd.V k58 58 wq w.heap.size _ _ _ from by rw [hw]; (with_reducible repeat (first | apply Kd.V_alloc | apply Kd.V_drewN | apply Kd.V_drew)); exact HO_2.out)
         have n2_ := Aside0.mk (show Kd.V k58 58 wq w.heap.size _ _ _ from by rw [hw]; (with_reducible repeat (first | apply Kd.V_alloc | apply Kd.V_drewN | apply Kd.V_drew)); exact HO498.out)
         have n3_ : Aside0 (Below w.heap.size w wq) := ⟨by rw [hw]; exact bA⟩
         clear HO_0 HO_2 HO498 HB
         have HO_0 := n0_
         have HO_2 := n1_
         have HO498 := n2_
         have HB := n3_
         clear n0_ n1_ n2_ n3_ hw
         have q37 : (t499 : Int) ≤ ((l0.length : Int) : Int) := of_decide_eq_true (by assumption)
         obtain ⟨i037, hi037, _, hsz37, _⟩ := info_parts info58
         have hroom37 : l0.length ≤ c0 := (Kd.V_reads' HO_0.out).2.1
         have hC37 : Kd.F k58 _ _ A0 l0.length l0 := (Kd.V_at (base := w.heap.size) HO_0.out).2.2
         have q037 : (0 : Int) ≤ (t499 : Int) := of_decide_eq_true (by assumption)
         have hcut37 := cut_from (P := Try.prog) 46 58 .i64 Try.underlying46 hi037 7 hsz37 A0 l0.length c0 t499 q037 q37
         have hr37 := Kd.F_cut (m := (t499 : Int).toNat) (c := c0) hC37 (by omega) hroom37
         obtain ⟨A37, hA37⟩ : ∃ A1, A1 = (if c0 = (t499 : Int).toNat then A0 else (A0 : Option Addr).map (·.add ((t499 : Int).toNat * 7))) := ⟨_, rfl⟩
         obtain ⟨c37, hc37⟩ : ∃ c1, c1 = c0 - (t499 : Int).toNat := ⟨_, rfl⟩
         have hy37 : y500.length = l0.length - (t499 : Int).toNat := (by rw [Ny500.out, List.length_drop] <;> omega)
         rw [show (l0).drop (t499 : Int).toNat = y500 from Ny500.out.symm] at hr37
         replace hr37 : Kd.F k58 _ _ A37 y500.length y500 := (by rw [hA37]; exact hr37)
         rw [← hy37, ← hA37, ← hc37] at hcut37
         have HO504 := Aside0.mk (show Kd.V k58 58 _ w.heap.size _ (.slice A37 y500.length c37) y500 from Kd.V_mk (by rw [hy37, hc37]; exact Nat.sub_le_sub_right hroom37 _) hr37)
         have HC504 := Aside0.mk (show y500.length ≤ c37 from by rw [hy37, hc37]; exact Nat.sub_le_sub_right hroom37 _)
         clear hr37 hC37 hroom37 hi037 hsz37 hc37
         have KY37 := Aside0.mk hy37
         have KA37 := Aside0.mk hA37
         clear hy37 hA37
         replace q37 := eq_true q37
         refine hK.out _ _ trivial (fun hHeld => ?_)
         clear hK K
         refine norm_ (a' := ?_) ?_ ?_
         rotate_left
         ·show Act.put _ (some 27) _ = _
          simp only [Act.put, List.setIfInBounds_toArray, List.set_cons_zero, List.set_cons_succ, i64_w, i32_w]
          rfl
         refine pt_ 8 28 ?_
         refine one_ (i := 9) (N := some 29) #[true, true, true, true, true, true, true, true, true, true, false, false, false] rfl rfl (one_of HT_.out (by kernel_rfl)) (by decide) (fun K hK => ?_)
         refine Kd.N_lit_step (Kd.slice 58 k58) _ 46 ?hg (N' := 29) ?hd (xs := ([y494, l2, y500] : List (List (S58)))) (inner := [.slice A0 y494.length c0, .slice A2 l2.length c2, .slice A37 y500.length c37]) (ok := (fun k_ => ((P0_ k_ ∨ P2_ k_) ∨ w.heap.size ≤ k_))) (okp := (fun k_ => ((P0_ k_ ∨ P2_ k_) ∨ w.heap.size ≤ k_))) ?hr ?hp (fun _ hk => hk) ((show ∀ k_, wq.heap.size ≤ k_ → (fun k_ => ((P0_ k_ ∨ P2_ k_) ∨ w.heap.size ≤ k_)) k_ from fun k_ hk => (.inr (Nat.le_trans (below_size bA) hk))) _ (Nat.le_refl _)) (Below.refl _ _) (Nat.le_refl _) (by simp) ?_; (case hd => rfl); (case hg => rfl); (case hr => first | (go_simp; done) | (go_simp; rfl)); (case hp => exact (Reps.one (show Kd.FK (Kd.slice 58 k58) _ _ y494 [.slice A0 y494.length c0] from (Kd.FK_slice_mk (Kd.V_reads' (Kd.V_mono (ok' := (fun k_ => ((P0_ k_ ∨ P2_ k_) ∨ w.heap.size ≤ k_))) (HO498.out) (fun k_ hk => hk))).2.1 (Kd.V_F (Kd.V_mono (ok' := (fun k_ => ((P0_ k_ ∨ P2_ k_) ∨ w.heap.size ≤ k_))) (HO498.out) (fun k_ hk => hk))))) (Reps.one (show Kd.FK (Kd.slice 58 k58) _ _ l2 [.slice A2 l2.length c2] from (Kd.FK_slice_mk (Kd.V_reads' (Kd.V_mono (ok' := (fun k_ => ((P0_ k_ ∨ P2_ k_) ∨ w.heap.size ≤ k_))) (HO_2.out) (fun k_ hk => hk))).2.1 (Kd.V_F (Kd.V_mono (ok' := (fun k_ => ((P0_ k_ ∨ P2_ k_) ∨ w.heap.size ≤ k_))) (HO_2.out) (fun k_ hk => hk))))) (Reps.one (show Kd.FK (Kd.slice 58 k58) _ _ y500 [.slice A37 y500.length c37] from (Kd.FK_slice_mk (Kd.V_reads' (Kd.V_mono (ok' := (fun k_ => ((P0_ k_ ∨ P2_ k_) ∨ w.heap.size ≤ k_))) (HO504.out) (fun k_ hk => hk))).2.1 (Kd.V_F (Kd.V_mono (ok' := (fun k_ => ((P0_ k_ ∨ P2_ k_) ∨ w.heap.size ≤ k_))) (HO504.out) (fun k_ hk => hk))))) (Reps.none _ _)))))
         intro v506 w38 ho39 hb hg_ hnew_
         clear hg_ hnew_
         (first | rw [← Ny505.out] at ho39 | (simp only [Int.reduceToNat] at ho39; rw [← Ny505.out] at ho39))
         have n0_ := Aside0.mk (Kd.V_elder' (by (with_reducible repeat (first | apply Kd.V_alloc | apply Kd.V_drewN | apply Kd.V_drew)); exact HO_0.out) (Kd.N_base ho39) hb)
         have n1_ := Aside0.mk (Kd.V_elder' (by (with_reducible repeat (first | apply Kd.V_alloc | apply Kd.V_drewN | apply Kd.V_drew)); exact HO_2.out) (Kd.N_base ho39) hb)
         have n2_ := Aside0.mk (Kd.V_elder' (by (with_reducible repeat (first | apply Kd.V_alloc | apply Kd.V_drewN | apply Kd.V_drew)); exact HO498.out) (Kd.N_base ho39) hb)
         have n3_ := Aside0.mk (Kd.V_elder' (by (with_reducible repeat (first | apply Kd.V_alloc | apply Kd.V_drewN | apply Kd.V_drew)); exact HO504.out) (Kd.N_base ho39) hb)
         have n4_ := Aside0.mk (Kd.N_lower ho39 (below_size bA))
         have n5_ := Aside0.mk (below_step bA hb)
         clear HO_0
         clear HO_2
         clear HO498
         clear HO504
         clear HB
         have HO_0 := n0_
         have HO_2 := n1_
         have HO498 := n2_
         have HO504 := n3_
         have HO507 := n4_
         have HB := n5_
         clear n0_ n1_ n2_ n3_ n4_ n5_
         clear hb ho39
         obtain ⟨Ao40, co40, eo40⟩ := Kd.N_slice HO507.out
         (first | subst eo40 | (injection eo40 with f1_ f2_ f3_; have f4_ := f1_.symm; have f5_ := f3_.symm; clear f1_ f2_ f3_; subst f4_; subst f5_))
         refine hK.out _ _ trivial (fun hHeld => ?_)
         clear hK K
         refine norm_ (a' := ?_) ?_ ?_
         rotate_left
         ·show Act.put _ (some 29) _ = _
          simp only [Act.put, List.setIfInBounds_toArray, List.set_cons_zero, List.set_cons_succ, i64_w, i32_w]
          rfl
         refine one_ (i := 10) (N := some 30) #[true, true, true, true, true, true, true, true, true, true, true, false, false] rfl rfl (one_of HT_.out (by kernel_rfl)) (by decide) (fun K hK => ?_)
         refine goes_ Try.func89 (by kernel_rfl) rfl #[.slice Ao40 y505.length co40] (by rfl) rfl rfl aL ?_
         with_reducible refine (slices_Concat_impl_Node_impl_Node.calls kj3 _ _ y505 t508 _ ?side1 ?side2 A19.out).mono ?_
         (case side1 => repeat (first | exact (Kd.N_reads' HO507.out).2.2 | (with_reducible refine Kd.C_alloc ?_ _) | (with_reducible refine Kd.C_drewN ?_ _) | (with_reducible refine Kd.C_drew ?_)))
         (case side2 => exact (Kd.N_reads' HO507.out).2.1)
         rintro e w41 ⟨v509, rfl, ho0, hb⟩
         refine ⟨_, rfl, ?_⟩
         have n0_ := Aside0.mk (Kd.V_elder' (by (with_reducible repeat (first | apply Kd.V_alloc | apply Kd.V_drewN | apply Kd.V_drew)); exact HO_0.out) (by first | exact Kd.N_base ho0 | exact Kd.N_base (Kd.S_N ho0)) hb)
         have n1_ := Aside0.mk (Kd.V_elder' (by (with_reducible repeat (first | apply Kd.V_alloc | apply Kd.V_drewN | apply Kd.V_drew)); exact HO_2.out) (by first | exact Kd.N_base ho0 | exact Kd.N_base (Kd.S_N ho0)) hb)
         have n2_ := Aside0.mk (Kd.V_elder' (by (with_reducible repeat (first | apply Kd.V_alloc | apply Kd.V_drewN | apply Kd.V_drew)); exact HO498.out) (by first | exact Kd.N_base ho0 | exact Kd.N_base (Kd.S_N ho0)) hb)
         have n3_ := Aside0.mk (Kd.V_elder' (by (with_reducible repeat (first | apply Kd.V_alloc | apply Kd.V_drewN | apply Kd.V_drew)); exact HO504.out) (by first | exact Kd.N_base ho0 | exact Kd.N_base (Kd.S_N ho0)) hb)
         have n4_ := Aside0.mk (Kd.N_elder' (by (with_reducible repeat (first | apply Kd.N_alloc | apply Kd.N_drewN | apply Kd.N_drew)); exact HO507.out) (by first | exact Kd.N_base ho0 | exact Kd.N_base (Kd.S_N ho0)) hb)
         have n5_ := Aside0.mk (Kd.N_lower ho0 (below_size bA))
         have n6_ := Aside0.mk (below_step bA hb)
         clear HO_0
         clear HO_2
         clear HO498
         clear HO504
         clear HO507
         clear HB
         have HO_0 := n0_
         have HO_2 := n1_
         have HO498 := n2_
         have HO504 := n3_
         have HO507 := n4_
         have HO510 := n5_
         have HB := n6_
         clear n0_ n1_ n2_ n3_ n4_ n5_ n6_
         (try clear hb)
         (try clear hb2)
         (try clear hk)
         (try clear hi)
         (try clear ho0)
         obtain ⟨Ao42, co42, eo42⟩ := Kd.N_slice HO510.out
         (first | subst eo42 | (injection eo42 with f1_ f2_ f3_; have f4_ := f1_.symm; have f5_ := f3_.symm; clear f1_ f2_ f3_; subst f4_; subst f5_))
         refine hK.out _ _ trivial (fun hHeld => ?_)
         clear hK K
         refine norm_ (a' := ?_) ?_ ?_
         rotate_left
         ·show Act.put _ (some 30) _ = _
          simp only [Act.put, List.setIfInBounds_toArray, List.set_cons_zero, List.set_cons_succ, i64_w, i32_w]
          rfl
         refine one_ (i := 11) (N := some 31) #[true, true, true, true, true, true, true, true, true, true, true, true, false] rfl rfl (one_of HT_.out (by kernel_rfl)) (by decide) (fun K hK => ?_)
         refine goes_ Try.func88 (by kernel_rfl) rfl #[.slice Ao42 t508.length co42] (by rfl) rfl rfl aL ?_
         with_reducible refine (impl_own.calls kj3 _ _ t508 t511 _ ?side1 ?side2 A20.out).mono ?_
         (case side1 => repeat (first | exact (Kd.N_reads' HO510.out).2.2 | (with_reducible refine Kd.C_alloc ?_ _) | (with_reducible refine Kd.C_drewN ?_ _) | (with_reducible refine Kd.C_drew ?_)))
         (case side2 => exact (Kd.N_reads' HO510.out).2.1)
         rintro e w43 ⟨v512, rfl, ho0, hb⟩
         refine ⟨_, rfl, ?_⟩
         have HSr := Aside0.mk (Kd.S_lower ho0 (below_size bA))
         have n0_ := Aside0.mk (Kd.V_elder' (by (with_reducible repeat (first | apply Kd.V_alloc | apply Kd.V_drewN | apply Kd.V_drew)); exact HO_0.out) (by first | exact Kd.N_base ho0 | exact Kd.N_base (Kd.S_N ho0)) hb)
         have n1_ := Aside0.mk (Kd.V_elder' (by (with_reducible repeat (first | apply Kd.V_alloc | apply Kd.V_drewN | apply Kd.V_drew)); exact HO_2.out) (by first | exact Kd.N_base ho0 | exact Kd.N_base (Kd.S_N ho0)) hb)
         have n2_ := Aside0.mk (Kd.V_elder' (by (with_reducible repeat (first | apply Kd.V_alloc | apply Kd.V_drewN | apply Kd.V_drew)); exact HO498.out) (by first | exact Kd.N_base ho0 | exact Kd.N_base (Kd.S_N ho0)) hb)
         have n3_ := Aside0.mk (Kd.V_elder' (by (with_reducible repeat (first | apply Kd.V_alloc | apply Kd.V_drewN | apply Kd.V_drew)); exact HO504.out) (by first | exact Kd.N_base ho0 | exact Kd.N_base (Kd.S_N ho0)) hb)
         have n4_ := Aside0.mk (Kd.N_elder' (by (with_reducible repeat (first | apply Kd.N_alloc | apply Kd.N_drewN | apply Kd.N_drew)); exact HO507.out) (by first | exact Kd.N_base ho0 | exact Kd.N_base (Kd.S_N ho0)) hb)
         have n5_ := Aside0.mk (Kd.N_elder' (by (with_reducible repeat (first | apply Kd.N_alloc | apply Kd.N_drewN | apply Kd.N_drew)); exact HO510.out) (by first | exact Kd.N_base ho0 | exact Kd.N_base (Kd.S_N ho0)) hb)
         have n6_ := Aside0.mk (Kd.N_lower (Kd.N_mono (ok' := fun k_ => ((P0_ k_ ∨ P2_ k_) ∨ w.heap.size ≤ k_) ∧ some k_ ≠ (.slice Ao40 y505.length co40 : Value).ownBlock ∧ some k_ ≠ (.slice Ao42 t508.length co42 : Value).ownBlock) (Kd.S_N (Kd.S_bound ho0)) (fun k_ hk_ => ⟨(.inr (Nat.le_trans (below_size bA) hk_.2.1)), (Kd.fresh' (Kd.N_lt (by (with_reducible repeat (first | apply Kd.N_alloc | apply Kd.N_drewN | apply Kd.N_drew)); exact HO507.out)) k_ hk_.2.1), (Kd.fresh' (Kd.N_lt (by (with_reducible repeat (first | apply Kd.N_alloc | apply Kd.N_drewN | apply Kd.N_drew)); exact HO510.out)) k_ hk_.2.1)⟩)) (below_size bA))
         have n7_ := Aside0.mk (below_step bA hb)
         clear HO_0
         clear HO_2
         clear HO498
         clear HO504
         clear HO507
         clear HO510
         clear HB
         have HO_0 := n0_
         have HO_2 := n1_
         have HO498 := n2_
         have HO504 := n3_
         have HO507 := n4_
         have HO510 := n5_
         have HO513 := n6_
         have HB := n7_
         clear n0_ n1_ n2_ n3_ n4_ n5_ n6_ n7_
         (try clear hb)
         (try clear hb2)
         (try clear hk)
         (try clear hi)
         (try clear ho0)
         refine hK.out _ _ trivial (fun hHeld => ?_)
         clear hK K
         refine norm_ (a' := ?_) ?_ ?_
         rotate_left
         ·show Act.put _ (some 31) _ = _
          simp only [Act.put, List.setIfInBounds_toArray, List.set_cons_zero, List.set_cons_succ, i64_w, i32_w]
          rfl
         refine pt_ 12 8 ?_
         refine done_ (done_of HT_.out (by kernel_rfl)) ?_
         obtain ⟨Ao44, co44, eo44⟩ := Kd.N_slice HO513.out
         subst eo44
         try go_wp2_with (first | ((with_reducible refine gate_callee (f := 34) rfl ?_); refine goesL_ (some 33) rfl rfl Try.func34 (by kernel_rfl) rfl #[.slice Ao44 t511.length co44] rfl aL ?_; (with_reducible refine (impl_PlanOk.calls kj3 _ _ t511 false _ ?side1 ?side2 A21.out).mono ?_); (case side1 => repeat (first | exact (Kd.N_reads' HO513.out).2.2 | (with_reducible refine Kd.C_alloc ?_ _) | (with_reducible refine Kd.C_drewN ?_ _) | (with_reducible refine Kd.C_drew ?_))); (case side2 => exact (Kd.N_reads' HO513.out).2.1); rintro e w45 ⟨rfl, hb⟩; refine ⟨_, rfl, ?_⟩; have HSr2 := Aside0.mk (Kd.S_below (by (with_reducible repeat (first | apply Kd.S_alloc | apply Kd.S_drewN | apply Kd.S_drew)); exact HSr.out) hb); clear HSr; have HSr := HSr2; clear HSr2; have n0_ := Aside0.mk (Kd.V_below (by (with_reducible repeat (first | apply Kd.V_alloc | apply Kd.V_drewN | apply Kd.V_drew)); exact HO_0.out) hb); have n1_ := Aside0.mk (Kd.V_below (by (with_reducible repeat (first | apply Kd.V_alloc | apply Kd.V_drewN | apply Kd.V_drew)); exact HO_2.out) hb); have n2_ := Aside0.mk (Kd.V_below (by (with_reducible repeat (first | apply Kd.V_alloc | apply Kd.V_drewN | apply Kd.V_drew)); exact HO498.out) hb); have n3_ := Aside0.mk (Kd.V_below (by (with_reducible repeat (first | apply Kd.V_alloc | apply Kd.V_drewN | apply Kd.V_drew)); exact HO504.out) hb); have n4_ := Aside0.mk (Kd.N_below (by (with_reducible repeat (first | apply Kd.N_alloc | apply Kd.N_drewN | apply Kd.N_drew)); exact HO507.out) hb); have n5_ := Aside0.mk (Kd.N_below (by (with_reducible repeat (first | apply Kd.N_alloc | apply Kd.N_drewN | apply Kd.N_drew)); exact HO510.out) hb); have n6_ := Aside0.mk (Kd.N_below (by (with_reducible repeat (first | apply Kd.N_alloc | apply Kd.N_drewN | apply Kd.N_drew)); exact HO513.out) hb); have n7_ := Aside0.mk (below_step bA hb); clear HO_0; clear HO_2; clear HO498; clear HO504; clear HO507; clear HO510; clear HO513; clear HB; have HO_0 := n0_; have HO_2 := n1_; have HO498 := n2_; have HO504 := n3_; have HO507 := n4_; have HO510 := n5_; have HO513 := n6_; have HB := n7_; clear n0_ n1_ n2_ n3_ n4_ n5_ n6_ n7_; (try clear hb); (try clear hb2); (try clear hk); (try clear hi)) | ((with_reducible refine gate_callee (f := 88) rfl ?_); refine goesL_ (some 36) rfl rfl Try.func88 (by kernel_rfl) rfl #[.slice A0 l0.length c0] rfl aL ?_; (with_reducible refine (impl_own.calls kj3 _ _ l0 t515 _ ?side1 ?side2 A34.out).mono ?_); (case side1 => repeat (first | exact (Kd.V_reads' HO_0.out).2.2 | (with_reducible refine Kd.C_alloc ?_ _) | (with_reducible refine Kd.C_drewN ?_ _) | (with_reducible refine Kd.C_drew ?_))); (case side2 => exact (Kd.V_reads' HO_0.out).2.1); rintro e w46 ⟨v516, rfl, ho0, hb⟩; refine ⟨_, rfl, ?_⟩; (try clear HSr); have HSr := Aside0.mk (Kd.S_lower ho0 (below_size bA)); have n0_ := Aside0.mk (Kd.V_elder' (by (with_reducible repeat (first | apply Kd.V_alloc | apply Kd.V_drewN | apply Kd.V_drew)); exact HO_0.out) (by first | exact Kd.N_base ho0 | exact Kd.N_base (Kd.S_N ho0)) hb); have n1_ := Aside0.mk (Kd.V_elder' (by (with_reducible repeat (first | apply Kd.V_alloc | apply Kd.V_drewN | apply Kd.V_drew)); exact HO_2.out) (by first | exact Kd.N_base ho0 | exact Kd.N_base (Kd.S_N ho0)) hb); have n2_ := Aside0.mk (Kd.V_elder' (by (with_reducible repeat (first | apply Kd.V_alloc | apply Kd.V_drewN | apply Kd.V_drew)); exact HO498.out) (by first | exact Kd.N_base ho0 | exact Kd.N_base (Kd.S_N ho0)) hb); have n3_ := Aside0.mk (Kd.V_elder' (by (with_reducible repeat (first | apply Kd.V_alloc | apply Kd.V_drewN | apply Kd.V_drew)); exact HO504.out) (by first | exact Kd.N_base ho0 | exact Kd.N_base (Kd.S_N ho0)) hb); have n4_ := Aside0.mk (Kd.N_elder' (by (with_reducible repeat (first | apply Kd.N_alloc | apply Kd.N_drewN | apply Kd.N_drew)); exact HO507.out) (by first | exact Kd.N_base ho0 | exact Kd.N_base (Kd.S_N ho0)) hb); have n5_ := Aside0.mk (Kd.N_elder' (by (with_reducible repeat (first | apply Kd.N_alloc | apply Kd.N_drewN | apply Kd.N_drew)); exact HO510.out) (by first | exact Kd.N_base ho0 | exact Kd.N_base (Kd.S_N ho0)) hb); have n6_ := Aside0.mk (Kd.N_elder' (by (with_reducible repeat (first | apply Kd.N_alloc | apply Kd.N_drewN | apply Kd.N_drew)); exact HO513.out) (by first | exact Kd.N_base ho0 | exact Kd.N_base (Kd.S_N ho0)) hb); have n7_ := Aside0.mk (Kd.N_lower (Kd.N_mono (ok' := fun k_ => ((P0_ k_ ∨ P2_ k_) ∨ w.heap.size ≤ k_) ∧ some k_ ≠ (.slice Ao40 y505.length co40 : Value).ownBlock ∧ some k_ ≠ (.slice Ao42 t508.length co42 : Value).ownBlock ∧ some k_ ≠ (.slice Ao44 t511.length co44 : Value).ownBlock) (Kd.S_N (Kd.S_bound ho0)) (fun k_ hk_ => ⟨(.inr (Nat.le_trans (below_size bA) hk_.2.1)), (Kd.fresh' (Kd.N_lt (by (with_reducible repeat (first | apply Kd.N_alloc | apply Kd.N_drewN | apply Kd.N_drew)); exact HO507.out)) k_ hk_.2.1), (Kd.fresh' (Kd.N_lt (by (with_reducible repeat (first | apply Kd.N_alloc | apply Kd.N_drewN | apply Kd.N_drew)); exact HO510.out)) k_ hk_.2.1), (Kd.fresh' (Kd.N_lt (by (with_reducible repeat (first | apply Kd.N_alloc | apply Kd.N_drewN | apply Kd.N_drew)); exact HO513.out)) k_ hk_.2.1)⟩)) (below_size bA)); have n8_ := Aside0.mk (below_step bA hb); clear HO_0; clear HO_2; clear HO498; clear HO504; clear HO507; clear HO510; clear HO513; clear HB; have HO_0 := n0_; have HO_2 := n1_; have HO498 := n2_; have HO504 := n3_; have HO507 := n4_; have HO510 := n5_; have HO513 := n6_; have HO517 := n7_; have HB := n8_; clear n0_ n1_ n2_ n3_ n4_ n5_ n6_ n7_ n8_; (try clear hb); (try clear hb2); (try clear hk); (try clear hi); (try clear ho0)))
         go_ret2
         exact ⟨_, rE, by (with_reducible repeat (first | apply Kd.S_alloc | apply Kd.S_drewN | apply Kd.S_drew)); exact HSr.out, bA⟩
       ·rw [if_neg c18] at H
        exact absurd H (by simp)
      ·rw [if_neg c17] at H
       exact absurd H (by simp)
     ·rw [if_neg c15] at H
      exact absurd H (by simp)
    ·rw [if_neg c14] at H
     exact absurd H (by simp)
theorem impl_PutPart.calls (k : Nat) (A0 : Option Addr) (c0 : Nat) (l0 : List (S58)) (a1 : Int) (A2 : Option Addr) (c2 : Nat) (l2 : List (S58)) (r1 : List (S58)) (r2 : Bool) (w : World) (hr0 : Kd.C k58 w A0 l0.length l0) (hc0 : l0.length ≤ c0) (hr2 : Kd.C k58 w A2 l2.length l2) (hc2 : l2.length ≤ c2) (h : impl_PutPart.f k l0 a1 l2 = some (r1, r2)) :
  Calls Try.prog 40 #[.slice A0 l0.length c0, .int .i64 a1, .slice A2 l2.length c2] w fun e w' => ∃ v0_ : Value, e = .returned (.tuple #[v0_, .bool r2]) ∧ Kd.S k58 58 w' w.heap.size (fun _ => True) v0_ r1 ∧ Below w.heap.size w w' := by
 exact impl_PutPart.callsV k (fun k => k < w.heap.size) A0 c0 l0 a1 (fun k => k < w.heap.size) A2 c2 l2 r1 r2 w (Kd.V_mk hc0 (Kd.C_F (Kd.heap_iso _ (Kd.heap_pair (Kd.heap_int _) (Kd.heap_pair Kd.heap_string (Kd.heap_pair (Kd.heap_int _) (Kd.heap_pair (Kd.heap_int _) (Kd.heap_pair (Kd.heap_int _) (Kd.heap_pair Kd.heap_bool (Kd.heap_slice 3 (Kd.heap_int _)))))))) : Kd.Heap k58) hr0)) (Kd.V_mk hc2 (Kd.C_F (Kd.heap_iso _ (Kd.heap_pair (Kd.heap_int _) (Kd.heap_pair Kd.heap_string (Kd.heap_pair (Kd.heap_int _) (Kd.heap_pair (Kd.heap_int _) (Kd.heap_pair (Kd.heap_int _) (Kd.heap_pair Kd.heap_bool (Kd.heap_slice 3 (Kd.heap_int _)))))))) : Kd.Heap k58) hr2)) h

/-! ### impl_CountKind: function 44 -/
def impl_CountKind.l0 : Nat → Int → Int → List (S58) → Int → Int → Option (Int)
 | 0, _, _, _, _, _ => none
 | k + 1, x1, x5, x11, x12, x13 => if x13 < x12 then (if 0 ≤ x13 then (if x13 < (x11.length : Int) then (if ((rd_T58 x11 x13).f0) = x1 then (impl_CountKind.l0 k x1 (wrap64 (x5 + 1)) x11 x12 (wrap64 (x13 + 1))) else (impl_CountKind.l0 k x1 x5 x11 x12 (wrap64 (x13 + 1)))) else (none)) else (none)) else (some x5)
def impl_CountKind.f (k : Nat) (l0 : List (S58)) (a1 : Int) : Option (Int) := (impl_PlanOk.f k l0).bind fun t528 => (if t528 = true then (impl_CountKind.l0 k a1 0 l0 (l0.length : Int) 0) else (some (-1)))
theorem impl_CountKind.mono_l : ∀ k, (∀ y0 y1 y2 y3 y4, LeO (impl_CountKind.l0 k y0 y1 y2 y3 y4) (impl_CountKind.l0 (k + 1) y0 y1 y2 y3 y4))
 | 0 => fun _ _ _ _ _ r h => by simp [impl_CountKind.l0] at h
 | k + 1 => by
  have ih0 := impl_CountKind.mono_l k
  ·intro y0 y1 y2 y3 y4
   unfold impl_CountKind.l0
   repeat' first
   | (with_reducible exact ih0 _ _ _ _ _)
   | (with_reducible exact impl_PlanOk.mono _ _)
   | (with_reducible exact LeO.refl _)
   | (with_reducible exact LeO.none _)
   | (with_reducible refine LeO.ite ?_ ?_)
   | (with_reducible refine LeO.bind ?_ (fun _ => ?_))
   | exact ih0 _ _ _ _ _
   | exact impl_PlanOk.mono _ _
   | exact LeO.none _
   | refine LeO.ite ?_ ?_
   | refine LeO.bind ?_ (fun _ => ?_)
theorem impl_CountKind.mono : ∀ a0 a1 k, LeO (impl_CountKind.f k a0 a1) (impl_CountKind.f (k + 1) a0 a1) := by
 intro a0 a1 k
 have ih0 := impl_CountKind.mono_l k
 unfold impl_CountKind.f
 repeat' first
   | (with_reducible exact ih0 _ _ _ _ _)
   | (with_reducible exact impl_PlanOk.mono _ _)
   | (with_reducible exact LeO.refl _)
   | (with_reducible exact LeO.none _)
   | (with_reducible refine LeO.ite ?_ ?_)
   | (with_reducible refine LeO.bind ?_ (fun _ => ?_))
   | exact ih0 _ _ _ _ _
   | exact impl_PlanOk.mono _ _
   | exact LeO.none _
   | refine LeO.ite ?_ ?_
   | refine LeO.bind ?_ (fun _ => ?_)
set_option maxHeartbeats 8000000 in
set_option maxRecDepth 100000 in
theorem impl_CountKind.calls (k : Nat) (A0 : Option Addr) (c0 : Nat) (l0 : List (S58)) (a1 : Int) (r : Int) (w : World) (hr0 : Kd.C k58 w A0 l0.length l0) (hc0 : l0.length ≤ c0) (h : impl_CountKind.f k l0 a1 = some r) :
  Calls Try.prog 44 #[.slice A0 l0.length c0, .int .i64 a1] w fun e w' => e = .returned (.int .i64 r) ∧ Below w.heap.size w w' := by
 have hu58 := Try.underlying58
 have HR0 := Aside0.mk hr0
 have HC0 := Aside0.mk hc0
 clear hr0 hc0
 have HB := Aside0.mk (Below.refl w.heap.size w)
 have H : ((impl_PlanOk.f k l0).bind fun t528 => (if t528 = true then (impl_CountKind.l0 k a1 0 l0 (l0.length : Int) 0) else (some (-1)))) = some r := h
 clear h
 replace H := Option.bind_eq_some_iff.mp H
 obtain ⟨t528, A30, H⟩ := H
 replace H : (if t528 = true then (impl_CountKind.l0 k a1 0 l0 (l0.length : Int) 0) else (some (-1))) = some r := H
 have A3 := Aside0.mk A30
 clear A30
 by_cases c4 : t528 = true
 ·subst c4
  have H1 : (impl_CountKind.l0 k a1 0 l0 (l0.length : Int) 0) = some r := by rw [if_pos rfl] at H; exact H
  clear H
  have H := H1
  clear H1
  have H' := Aside0.mk H
  clear H
  go_enter Try.func44, Try.ntmps44
  go_wp2_with (first | ((with_reducible refine gate_callee (f := 34) rfl ?_); refine goesL_ (some 9) rfl rfl Try.func34 (by kernel_rfl) rfl #[.slice A0 l0.length c0] rfl aL ?_; (with_reducible refine (impl_PlanOk.calls k _ _ l0 true _ ?side1 ?side2 A3.out).mono ?_); (case side1 => exact cA); (case side2 => exact HC0.out); rintro e w5 ⟨rfl, hb⟩; refine ⟨_, rfl, ?_⟩; have n0_ := Aside0.mk (below_step bA hb); clear HB; have HB := n0_; clear n0_; (try clear hb); (try clear hb2); (try clear hk); (try clear hi)))
  go_loopg [5, 13] k (fun kq v5 v13 w' => ∃ (x5_1 : Int) (x13_1 : Int), v5 = .int .i64 x5_1 ∧ v13 = .int .i64 x13_1 ∧ Aside0 (impl_CountKind.l0 kq a1 x5_1 l0 (l0.length : Int) x13_1 = some r) ∧ Aside0 (kq ≤ k) ∧ Aside0 (Below w.heap.size w w'))
  case atStart => exact ⟨(0), (0), rF, rF, H', ⟨Nat.le_refl _⟩, ⟨bA⟩⟩
  case round =>
   clear H'
   try clear p2
   try clear c3
   try clear c4
   obtain ⟨x5_1, x13_1, rfl, rfl, HA, HK1, HB⟩ := hrel
   cases gk with
   | zero => exact absurd HA.out (by simp [impl_CountKind.l0])
   | succ k1 =>
    have H := HA.out
    clear HA
    simp only [impl_CountKind.l0] at H
    by_cases c6 : x13_1 < (l0.length : Int)
    ·rw [if_pos c6] at H
     have c6b0 : decide (x13_1 < (l0.length : Int)) = true := decide_eq_true c6
     clear c6
     by_cases c7 : 0 ≤ x13_1
     ·rw [if_pos c7] at H
      have c7b0 : decide (0 ≤ x13_1) = true := decide_eq_true c7
      clear c7
      by_cases c8 : x13_1 < (l0.length : Int)
      ·rw [if_pos c8] at H
       have c8b0 : decide (x13_1 < (l0.length : Int)) = true := decide_eq_true c8
       clear c8
       by_cases c9 : ((rd_T58 l0 x13_1).f0) = a1
       ·rw [if_pos c9] at H
        have c9b0 : (((rd_T58 l0 x13_1).f0) == a1) = true := beq_iff_eq.mpr c9
        have c9b1 : (((rd_T58 l0 x13_1).f0) != a1) = false := bne_eq_false_iff_eq.mpr c9
        clear c9
        have H' := Aside0.mk H
        clear H
        have p529 : 0 ≤ (x13_1 : Int) := of_decide_eq_true (by assumption)
        have q529 : x13_1 < (l0.length : Int) := of_decide_eq_true (by assumption)
        obtain ⟨ad529, A529_6, c529_6, e529, hx529_0, hx529_1, hx529_2, hx529_3, hx529_4, hx529_5, hx529_6, hl529_6, hi529_6⟩ := at_T58 HR0.out x13_1 p529 q529
        cases e529
        replace hx529_0 := hxB HB.out hx529_0
        replace hx529_1 := hxB HB.out hx529_1
        replace hx529_2 := hxB HB.out hx529_2
        replace hx529_3 := hxB HB.out hx529_3
        replace hx529_4 := hxB HB.out hx529_4
        replace hx529_5 := hxB HB.out hx529_5
        replace hx529_6 := hxB HB.out hx529_6
        have HR529_6 := Aside0.mk hi529_6
        have HC529_6 := Aside0.mk hl529_6
        clear hi529_6 hl529_6
        replace p529 := eq_true p529
        replace q529 := eq_true q529
        go_wp2_with (first | ((with_reducible refine gate_dst (N := 7) rfl ?_); refine box_event ?hg (N := 7) ?hd (cs := #[.int .i64 0, .string (⟨#[]⟩ : ByteArray), .int .i64 0, .int .i64 0, .int .i64 0, .bool false, .slice none 0 0]) (t := 58) ?hr ?_; (case hd => rfl); (case hg => rfl); (case hr => first | (go_simp; done) | (go_simp; rfl)); intro gb530 hg w10 hbox hb; have n0_ := Aside0.mk (below_step bA hb); have n1_ := Aside0.mk (hbox); have n2_ := Aside0.mk ((by rw [hg]; exact (below_size bA) : w.heap.size ≤ gb530)); have n3_ := Aside0.mk ((by rw [hg]; exact (below_size bA) : w.heap.size ≤ gb530)); clear HB; have HB := n0_; have BK530 := n1_; have GW530 := n2_; have GE530 := n3_; clear n0_ n1_ n2_ n3_; clear hb hbox hg; obtain ⟨⟨hcz11_0, hcz11_1, hcz11_2, hcz11_3, hcz11_4, hcz11_5, hcz11_6⟩, hfz11_0, hfz11_1, hfz11_2, hfz11_3, hfz11_4, hfz11_5, hfz11_6⟩ := Own.c7 BK530.out) | ((with_reducible refine gate_store (t := 58) (p := 7) rfl ?_); refine store_event (t := 58) (p := 7) (v := ?vo_w12) (w1 := (((((((w10.setCell ⟨gb530, 0, none⟩ (.int .i64 ((rd_T58 l0 x13_1).f0))).setCell ⟨gb530, 1, none⟩ (.string ((rd_T58 l0 x13_1).f1))).setCell ⟨gb530, 2, none⟩ (.int .i64 ((rd_T58 l0 x13_1).f2))).setCell ⟨gb530, 3, none⟩ (.int .i64 ((rd_T58 l0 x13_1).f3))).setCell ⟨gb530, 4, none⟩ (.int .i64 ((rd_T58 l0 x13_1).f4))).setCell ⟨gb530, 5, none⟩ (.bool ((rd_T58 l0 x13_1).f5))).setCell ⟨gb530, 6, none⟩ (.slice A529_6 ((rd_T58 l0 x13_1).f6).length c529_6))) ?hg ?ho ?hn ?hr ?_; (case ho => rfl); (case hg => rfl); (case hn => rfl); (case hr => first | (go_simp; done) | (go_simp; rfl)); intro w12 hw; have n0_ : Aside0 (w12.heap[gb530]? = some (.cells #[.int .i64 ((rd_T58 l0 x13_1).f0), .string ((rd_T58 l0 x13_1).f1), .int .i64 ((rd_T58 l0 x13_1).f2), .int .i64 ((rd_T58 l0 x13_1).f3), .int .i64 ((rd_T58 l0 x13_1).f4), .bool ((rd_T58 l0 x13_1).f5), .slice A529_6 ((rd_T58 l0 x13_1).f6).length c529_6] 58 (0, 0))) := ⟨(by rw [hw]; exact (by exact put7 BK530.out))⟩; have n1_ : Aside0 (Below w.heap.size w w12) := ⟨(by rw [hw]; exact bA)⟩; clear hw; clear BK530; clear HB; have BK530 := n0_; have HB := n1_; clear n0_ n1_; obtain ⟨⟨hcz13_0, hcz13_1, hcz13_2, hcz13_3, hcz13_4, hcz13_5, hcz13_6⟩, hfz13_0, hfz13_1, hfz13_2, hfz13_3, hfz13_4, hfz13_5, hfz13_6⟩ := Own.c7 BK530.out))
        go_roundg k1
        case measure => have := HK1.out; omega
        case rel => exact ⟨(wrap64 (x5_1 + 1)), (wrap64 (x13_1 + 1)), rF, rF, H', ⟨by have := HK1.out; omega⟩, ⟨bA⟩⟩
       ·rw [if_neg c9] at H
        have c9b0 : (((rd_T58 l0 x13_1).f0) == a1) = false := beq_eq_false_iff_ne.mpr c9
        have c9b1 : (((rd_T58 l0 x13_1).f0) != a1) = true := bne_iff_ne.mpr c9
        have H' := Aside0.mk H
        clear H
        have p529 : 0 ≤ (x13_1 : Int) := of_decide_eq_true (by assumption)
        have q529 : x13_1 < (l0.length : Int) := of_decide_eq_true (by assumption)
        obtain ⟨ad529, A529_6, c529_6, e529, hx529_0, hx529_1, hx529_2, hx529_3, hx529_4, hx529_5, hx529_6, hl529_6, hi529_6⟩ := at_T58 HR0.out x13_1 p529 q529
        cases e529
        replace hx529_0 := hxB HB.out hx529_0
        replace hx529_1 := hxB HB.out hx529_1
        replace hx529_2 := hxB HB.out hx529_2
        replace hx529_3 := hxB HB.out hx529_3
        replace hx529_4 := hxB HB.out hx529_4
        replace hx529_5 := hxB HB.out hx529_5
        replace hx529_6 := hxB HB.out hx529_6
        have HR529_6 := Aside0.mk hi529_6
        have HC529_6 := Aside0.mk hl529_6
        clear hi529_6 hl529_6
        replace p529 := eq_true p529
        replace q529 := eq_true q529
        go_wp2_with (first | ((with_reducible refine gate_dst (N := 7) rfl ?_); refine box_event ?hg (N := 7) ?hd (cs := #[.int .i64 0, .string (⟨#[]⟩ : ByteArray), .int .i64 0, .int .i64 0, .int .i64 0, .bool false, .slice none 0 0]) (t := 58) ?hr ?_; (case hd => rfl); (case hg => rfl); (case hr => first | (go_simp; done) | (go_simp; rfl)); intro gb530 hg w14 hbox hb; have n0_ := Aside0.mk (below_step bA hb); have n1_ := Aside0.mk (hbox); have n2_ := Aside0.mk ((by rw [hg]; exact (below_size bA) : w.heap.size ≤ gb530)); have n3_ := Aside0.mk ((by rw [hg]; exact (below_size bA) : w.heap.size ≤ gb530)); clear HB; have HB := n0_; have BK530 := n1_; have GW530 := n2_; have GE530 := n3_; clear n0_ n1_ n2_ n3_; clear hb hbox hg; obtain ⟨⟨hcz15_0, hcz15_1, hcz15_2, hcz15_3, hcz15_4, hcz15_5, hcz15_6⟩, hfz15_0, hfz15_1, hfz15_2, hfz15_3, hfz15_4, hfz15_5, hfz15_6⟩ := Own.c7 BK530.out) | ((with_reducible refine gate_store (t := 58) (p := 7) rfl ?_); refine store_event (t := 58) (p := 7) (v := ?vo_w16) (w1 := (((((((w14.setCell ⟨gb530, 0, none⟩ (.int .i64 ((rd_T58 l0 x13_1).f0))).setCell ⟨gb530, 1, none⟩ (.string ((rd_T58 l0 x13_1).f1))).setCell ⟨gb530, 2, none⟩ (.int .i64 ((rd_T58 l0 x13_1).f2))).setCell ⟨gb530, 3, none⟩ (.int .i64 ((rd_T58 l0 x13_1).f3))).setCell ⟨gb530, 4, none⟩ (.int .i64 ((rd_T58 l0 x13_1).f4))).setCell ⟨gb530, 5, none⟩ (.bool ((rd_T58 l0 x13_1).f5))).setCell ⟨gb530, 6, none⟩ (.slice A529_6 ((rd_T58 l0 x13_1).f6).length c529_6))) ?hg ?ho ?hn ?hr ?_; (case ho => rfl); (case hg => rfl); (case hn => rfl); (case hr => first | (go_simp; done) | (go_simp; rfl)); intro w16 hw; have n0_ : Aside0 (w16.heap[gb530]? = some (.cells #[.int .i64 ((rd_T58 l0 x13_1).f0), .string ((rd_T58 l0 x13_1).f1), .int .i64 ((rd_T58 l0 x13_1).f2), .int .i64 ((rd_T58 l0 x13_1).f3), .int .i64 ((rd_T58 l0 x13_1).f4), .bool ((rd_T58 l0 x13_1).f5), .slice A529_6 ((rd_T58 l0 x13_1).f6).length c529_6] 58 (0, 0))) := ⟨(by rw [hw]; exact (by exact put7 BK530.out))⟩; have n1_ : Aside0 (Below w.heap.size w w16) := ⟨(by rw [hw]; exact bA)⟩; clear hw; clear BK530; clear HB; have BK530 := n0_; have HB := n1_; clear n0_ n1_; obtain ⟨⟨hcz17_0, hcz17_1, hcz17_2, hcz17_3, hcz17_4, hcz17_5, hcz17_6⟩, hfz17_0, hfz17_1, hfz17_2, hfz17_3, hfz17_4, hfz17_5, hfz17_6⟩ := Own.c7 BK530.out))
        go_roundg k1
        case measure => have := HK1.out; omega
        case rel => exact ⟨(x5_1), (wrap64 (x13_1 + 1)), rF, rF, H', ⟨by have := HK1.out; omega⟩, ⟨bA⟩⟩
      ·rw [if_neg c8] at H
       exact absurd H (by simp)
     ·rw [if_neg c7] at H
      exact absurd H (by simp)
    ·rw [if_neg c6] at H
     have c6b0 : decide (x13_1 < (l0.length : Int)) = false := decide_eq_false c6
     clear c6
     obtain rfl := Option.some.inj H
     go_wp2
     go_ret
     exact ⟨rE, bA⟩
 ·replace c4 := Bool.eq_false_iff.mpr c4
  subst c4
  have H1 : (some (-1)) = some r := by rw [if_neg (show ¬ (false = true) by decide)] at H; exact H
  clear H
  have H := H1
  clear H1
  obtain rfl := Option.some.inj H
  go_enter Try.func44, Try.ntmps44
  go_wp2_with (first | ((with_reducible refine gate_callee (f := 34) rfl ?_); refine goesL_ (some 9) rfl rfl Try.func34 (by kernel_rfl) rfl #[.slice A0 l0.length c0] rfl aL ?_; (with_reducible refine (impl_PlanOk.calls k _ _ l0 false _ ?side1 ?side2 A3.out).mono ?_); (case side1 => exact cA); (case side2 => exact HC0.out); rintro e w18 ⟨rfl, hb⟩; refine ⟨_, rfl, ?_⟩; have n0_ := Aside0.mk (below_step bA hb); clear HB; have HB := n0_; clear n0_; (try clear hb); (try clear hb2); (try clear hk); (try clear hi)))
  go_ret
  exact ⟨rE, bA⟩

end Go.Proofs.Ytbdfidnldaghbaa.Q
