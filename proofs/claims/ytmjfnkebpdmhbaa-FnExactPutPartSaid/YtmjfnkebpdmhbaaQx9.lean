/- The machine side of a law, written by a program of this session over the translation: for each Go function a Lean function with the same answers, and the proof that the Go code comes to them. -/
import Derived.Test.YtmjfnkebpdmhbaaQx0
import Derived.Test.YtmjfnkebpdmhbaaQx8
namespace Go.Proofs.Ytmjfnkebpdmhbaa.Q
open Go.RowKit Go.Proofs.Ytmjfnkebpdmhbaa.Own Go.Proofs.YtmjfnkebpdmhbaaW.PrintWords Go.Proofs.YtmjfnkebpdmhbaaW.PrintLast Go.Proofs.YtmjfnkebpdmhbaaW.PrintMore
attribute [local go_sem] max2_int min2_int max_two min_two max_three min_three max_four min_four   -- for this text's walks alone
set_option linter.unusedVariables false
set_option linter.unusedSimpArgs false

/-! ### impl_PutPart: function 43 -/
def impl_PutPart.j0 : Nat → List (S33) → Int → List (S33) → Bool → Option ((List (S33)) × Bool)
 | 0, _, _, _, _ => none
 | k + 1, x0, x1, x2, x17 => if x17 = true then ((impl_own.f k x0).bind fun t315 => (some (t315, false))) else (if 0 ≤ x1 then (if x1 ≤ (x0.length : Int) then ((impl_end.f k x0 x1 1).bind fun t323 => (if 0 ≤ t323 then (if t323 ≤ (x0.length : Int) then ((slices_Concat_impl_Node_impl_Node.f k (([(x0.take (x1 : Int).toNat), x2, (x0.drop (t323 : Int).toNat)] : List (List (S33))))).bind fun t332 => ((impl_own.f k t332).bind fun t335 => ((impl_PlanOk.f k t335).bind fun t338 => (if t338 = true then (some (t335, true)) else ((impl_own.f k x0).bind fun t339 => (some (t339, false))))))) else (none)) else (none))) else (none)) else (none))
def impl_PutPart.f (k : Nat) (l0 : List (S33)) (a1 : Int) (l2 : List (S33)) : Option ((List (S33)) × Bool) := (impl_has.f k l0 a1).bind fun t313 => (if t313 = true then ((impl_PlanOk.f k l2).bind fun t314 => (impl_PutPart.j0 k l0 a1 l2 (!t314))) else (impl_PutPart.j0 k l0 a1 l2 true))
theorem impl_PutPart.mono_l : ∀ k, (∀ y0 y1 y2 y3, LeO (impl_PutPart.j0 k y0 y1 y2 y3) (impl_PutPart.j0 (k + 1) y0 y1 y2 y3))
 | 0 => fun _ _ _ _ r h => by simp [impl_PutPart.j0] at h
 | k + 1 => by
  have ih0 := impl_PutPart.mono_l k
  ·intro y0 y1 y2 y3
   unfold impl_PutPart.j0
   repeat' first
   | (with_reducible exact ih0 _ _ _ _)
   | (with_reducible exact impl_PlanOk.mono _ _)
   | (with_reducible exact impl_end.mono _ _ _ _)
   | (with_reducible exact impl_has.mono _ _ _)
   | (with_reducible exact impl_own.mono _ _)
   | (with_reducible exact slices_Concat_impl_Node_impl_Node.mono _ _)
   | (with_reducible exact LeO.refl _)
   | (with_reducible exact LeO.none _)
   | (with_reducible refine LeO.ite ?_ ?_)
   | (with_reducible refine LeO.bind ?_ (fun _ => ?_))
   | exact ih0 _ _ _ _
   | exact impl_PlanOk.mono _ _
   | exact impl_end.mono _ _ _ _
   | exact impl_has.mono _ _ _
   | exact impl_own.mono _ _
   | exact slices_Concat_impl_Node_impl_Node.mono _ _
   | exact LeO.none _
   | refine LeO.ite ?_ ?_
   | refine LeO.bind ?_ (fun _ => ?_)
theorem impl_PutPart.mono : ∀ a0 a1 a2 k, LeO (impl_PutPart.f k a0 a1 a2) (impl_PutPart.f (k + 1) a0 a1 a2) := by
 intro a0 a1 a2 k
 have ih0 := impl_PutPart.mono_l k
 unfold impl_PutPart.f
 repeat' first
   | (with_reducible exact ih0 _ _ _ _)
   | (with_reducible exact impl_PlanOk.mono _ _)
   | (with_reducible exact impl_end.mono _ _ _ _)
   | (with_reducible exact impl_has.mono _ _ _)
   | (with_reducible exact impl_own.mono _ _)
   | (with_reducible exact slices_Concat_impl_Node_impl_Node.mono _ _)
   | (with_reducible exact LeO.refl _)
   | (with_reducible exact LeO.none _)
   | (with_reducible refine LeO.ite ?_ ?_)
   | (with_reducible refine LeO.bind ?_ (fun _ => ?_))
   | exact ih0 _ _ _ _
   | exact impl_PlanOk.mono _ _
   | exact impl_end.mono _ _ _ _
   | exact impl_has.mono _ _ _
   | exact impl_own.mono _ _
   | exact slices_Concat_impl_Node_impl_Node.mono _ _
   | exact LeO.none _
   | refine LeO.ite ?_ ?_
   | refine LeO.bind ?_ (fun _ => ?_)
def impl_PutPart.T3 : Bool × List (List Nat × List Nat) := (true, [([], []), ([], []), ([0, 1], [0, 1]), ([], []), ([], []), ([], []), ([], []), ([5, 6], [5, 6]), ([4, 7], [4, 7]), ([2, 3, 8], [2, 3, 8]), ([9, 7], [9]), ([10, 10], [10]), ([11, 11, 0, 1, 2, 3, 4, 5, 6, 7, 8, 9, 10, 11], [11])])
def impl_PutPart.B3 : List Nat := [0, 0, 3, 0, 0, 0, 0, 96, 240, 511, 1023, 2047, 4095]
theorem impl_PutPart.tab3 : rtab .any (opsOf Try.f43 3) = impl_PutPart.T3 := by kernel_rfl
theorem impl_PutPart.bits3 : waitsOk impl_PutPart.T3.2 impl_PutPart.B3 = true := by kernel_rfl
set_option maxHeartbeats 8000000 in
set_option maxRecDepth 100000 in
theorem impl_PutPart.callsV (k : Nat) (P0_ : Nat → Prop) (A0 : Option Addr) (c0 : Nat) (l0 : List (S33)) (a1 : Int) (P2_ : Nat → Prop) (A2 : Option Addr) (c2 : Nat) (l2 : List (S33)) (r1 : List (S33)) (r2 : Bool) (w : World) (hs0 : Kd.V k33 33 w w.heap.size (fun k_ => P0_ k_) (.slice A0 l0.length c0) l0) (hs2 : Kd.V k33 33 w w.heap.size (fun k_ => P2_ k_) (.slice A2 l2.length c2) l2) (h : impl_PutPart.f k l0 a1 l2 = some (r1, r2)) :
  Calls Try.prog 43 #[.slice A0 l0.length c0, .int .i64 a1, .slice A2 l2.length c2] w fun e w' => ∃ v0_ : Value, e = .returned (.tuple #[v0_, .bool r2]) ∧ Kd.S k33 33 w' w.heap.size (fun _ => True) v0_ r1 ∧ Below w.heap.size w w' := by
 have HO0 := Aside0.mk (show Kd.V k33 33 w w.heap.size (fun k_ => ((P0_ k_ ∨ P2_ k_) ∨ w.heap.size ≤ k_)) (.slice A0 l0.length c0) l0 from Kd.V_mono hs0 (fun k_ hk => .inl (.inl hk)))
 have HO2 := Aside0.mk (show Kd.V k33 33 w w.heap.size (fun k_ => ((P0_ k_ ∨ P2_ k_) ∨ w.heap.size ≤ k_)) (.slice A2 l2.length c2) l2 from Kd.V_mono hs2 (fun k_ hk => .inl (.inr hk)))
 have HB := Aside0.mk (Below.refl w.heap.size w)
 have H : ((impl_has.f k l0 a1).bind fun t313 => (if t313 = true then ((impl_PlanOk.f k l2).bind fun t314 => (impl_PutPart.j0 k l0 a1 l2 (!t314))) else (impl_PutPart.j0 k l0 a1 l2 true))) = some (r1, r2) := h
 clear h
 have HC4 := Aside0.mk H
 clear H
 go_enter Try.func43, Try.ntmps43
 go_upto_region 1 with (fail)
 go_cut [17] (fun v17 wc => ∃ (kq : Nat) (x17_3 : Bool), v17 = .bool x17_3 ∧ Aside0 (impl_PutPart.j0 kq l0 a1 l2 x17_3 = some (r1, r2)) ∧ Aside0 (kq ≤ k) ∧ Aside0 (Kd.V k33 33 wc w.heap.size (fun k_ => ((P0_ k_ ∨ P2_ k_) ∨ w.heap.size ≤ k_)) (.slice A0 l0.length c0) l0) ∧ Aside0 (Kd.V k33 33 wc w.heap.size (fun k_ => ((P0_ k_ ∨ P2_ k_) ∨ w.heap.size ≤ k_)) (.slice A2 l2.length c2) l2) ∧ Aside0 (Below w.heap.size w wc))
 case first =>
  have H := HC4.out
  clear HC4
  replace H := Option.bind_eq_some_iff.mp H
  obtain ⟨t313, A50, H⟩ := H
  replace H : (if t313 = true then ((impl_PlanOk.f k l2).bind fun t314 => (impl_PutPart.j0 k l0 a1 l2 (!t314))) else (impl_PutPart.j0 k l0 a1 l2 true)) = some (r1, r2) := H
  have A5 := Aside0.mk A50
  clear A50
  by_cases c6 : t313 = true
  ·subst c6
   have H1 : ((impl_PlanOk.f k l2).bind fun t314 => (impl_PutPart.j0 k l0 a1 l2 (!t314))) = some (r1, r2) := by rw [if_pos rfl] at H; exact H
   clear H
   have H := H1
   clear H1
   replace H := Option.bind_eq_some_iff.mp H
   obtain ⟨t314, A70, H⟩ := H
   replace H : (impl_PutPart.j0 k l0 a1 l2 (!t314)) = some (r1, r2) := H
   have A7 := Aside0.mk A70
   clear A70
   have H' := Aside0.mk H
   clear H
   go_wp2_with (first | ((with_reducible refine gate_callee (f := 77) rfl ?_); refine goesL_ (some 11) rfl rfl Try.func77 (by kernel_rfl) rfl #[.slice A0 l0.length c0, .int .i64 a1] rfl aL ?_; (with_reducible refine (impl_has.calls k _ _ l0 a1 true _ ?side1 ?side2 A5.out).mono ?_); (case side1 => repeat (first | exact (Kd.V_reads' HO0.out).2.2 | (with_reducible refine Kd.C_alloc ?_ _) | (with_reducible refine Kd.C_drewN ?_ _) | (with_reducible refine Kd.C_drew ?_))); (case side2 => exact (Kd.V_reads' HO0.out).2.1); rintro e w8 ⟨rfl, hb⟩; refine ⟨_, rfl, ?_⟩; have n0_ := Aside0.mk (Kd.V_below (by (with_reducible repeat (first | apply Kd.V_alloc | apply Kd.V_drewN | apply Kd.V_drew)); exact HO0.out) hb); have n1_ := Aside0.mk (Kd.V_below (by (with_reducible repeat (first | apply Kd.V_alloc | apply Kd.V_drewN | apply Kd.V_drew)); exact HO2.out) hb); have n2_ := Aside0.mk (below_step bA hb); clear HO0; clear HO2; clear HB; have HO0 := n0_; have HO2 := n1_; have HB := n2_; clear n0_ n1_ n2_; (try clear hb); (try clear hb2); (try clear hk); (try clear hi)) | (go_at_call 26; (with_reducible refine (impl_PlanOk.calls k _ _ l2 t314 _ ?side1 ?side2 A7.out).mono ?_); (case side1 => repeat (first | exact (Kd.V_reads' HO2.out).2.2 | (with_reducible refine Kd.C_alloc ?_ _) | (with_reducible refine Kd.C_drewN ?_ _) | (with_reducible refine Kd.C_drew ?_))); (case side2 => exact (Kd.V_reads' HO2.out).2.1); rintro e w9 ⟨rfl, hb⟩; have n0_ := Aside0.mk (Kd.V_below (by (with_reducible repeat (first | apply Kd.V_alloc | apply Kd.V_drewN | apply Kd.V_drew)); exact HO0.out) hb); have n1_ := Aside0.mk (Kd.V_below (by (with_reducible repeat (first | apply Kd.V_alloc | apply Kd.V_drewN | apply Kd.V_drew)); exact HO2.out) hb); have n2_ := Aside0.mk (below_step bA hb); clear HO0; clear HO2; clear HB; have HO0 := n0_; have HO2 := n1_; have HB := n2_; clear n0_ n1_ n2_; (try clear hb); (try clear hb2); (try clear hk); (try clear hi)))
   go_meet
   case rel => exact ⟨_, (!t314), rF, H', ⟨by first | omega | exact Nat.le_refl _⟩, ⟨by (with_reducible repeat (first | apply Kd.V_alloc | apply Kd.V_drewN | apply Kd.V_drew)); exact HO0.out⟩, ⟨by (with_reducible repeat (first | apply Kd.V_alloc | apply Kd.V_drewN | apply Kd.V_drew)); exact HO2.out⟩, ⟨bA⟩⟩
  ·replace c6 := Bool.eq_false_iff.mpr c6
   subst c6
   have H1 : (impl_PutPart.j0 k l0 a1 l2 true) = some (r1, r2) := by rw [if_neg (show ¬ (false = true) by decide)] at H; exact H
   clear H
   have H := H1
   clear H1
   have H' := Aside0.mk H
   clear H
   go_wp2_with (first | ((with_reducible refine gate_callee (f := 77) rfl ?_); refine goesL_ (some 11) rfl rfl Try.func77 (by kernel_rfl) rfl #[.slice A0 l0.length c0, .int .i64 a1] rfl aL ?_; (with_reducible refine (impl_has.calls k _ _ l0 a1 false _ ?side1 ?side2 A5.out).mono ?_); (case side1 => repeat (first | exact (Kd.V_reads' HO0.out).2.2 | (with_reducible refine Kd.C_alloc ?_ _) | (with_reducible refine Kd.C_drewN ?_ _) | (with_reducible refine Kd.C_drew ?_))); (case side2 => exact (Kd.V_reads' HO0.out).2.1); rintro e w10 ⟨rfl, hb⟩; refine ⟨_, rfl, ?_⟩; have n0_ := Aside0.mk (Kd.V_below (by (with_reducible repeat (first | apply Kd.V_alloc | apply Kd.V_drewN | apply Kd.V_drew)); exact HO0.out) hb); have n1_ := Aside0.mk (Kd.V_below (by (with_reducible repeat (first | apply Kd.V_alloc | apply Kd.V_drewN | apply Kd.V_drew)); exact HO2.out) hb); have n2_ := Aside0.mk (below_step bA hb); clear HO0; clear HO2; clear HB; have HO0 := n0_; have HO2 := n1_; have HB := n2_; clear n0_ n1_ n2_; (try clear hb); (try clear hb2); (try clear hk); (try clear hi)))
   go_meet
   case rel => exact ⟨_, (true), rF, H', ⟨by first | omega | exact Nat.le_refl _⟩, ⟨by (with_reducible repeat (first | apply Kd.V_alloc | apply Kd.V_drewN | apply Kd.V_drew)); exact HO0.out⟩, ⟨by (with_reducible repeat (first | apply Kd.V_alloc | apply Kd.V_drewN | apply Kd.V_drew)); exact HO2.out⟩, ⟨bA⟩⟩
 case rest =>
  clear HC4
  try clear c2
  try clear p2
  try clear c4
  try clear c6
  try clear c7
  obtain ⟨kq, x17_3, rfl, HA, HJ3, HO_0, HO_2, HB⟩ := hcut
  cases kq with
  | zero => exact absurd HA.out (by simp [impl_PutPart.j0])
  | succ kj3 =>
   have H := HA.out
   clear HA
   simp only [impl_PutPart.j0] at H
   by_cases c11 : x17_3 = true
   ·subst c11
    have H1 : ((impl_own.f kj3 l0).bind fun t315 => (some (t315, false))) = some (r1, r2) := by rw [if_pos rfl] at H; exact H
    clear H
    have H := H1
    clear H1
    replace H := Option.bind_eq_some_iff.mp H
    obtain ⟨t315, A120, H⟩ := H
    replace H : (some (t315, false)) = some (r1, r2) := H
    have A12 := Aside0.mk A120
    clear A120
    simp only [Option.some.injEq, Prod.mk.injEq] at H
    obtain ⟨rfl, rfl⟩ := H
    go_wp2_with (first | ((with_reducible refine gate_callee (f := 83) rfl ?_); refine goesL_ (some 19) rfl rfl Try.func83 (by kernel_rfl) rfl #[.slice A0 l0.length c0] rfl aL ?_; (with_reducible refine (impl_own.calls kj3 _ _ l0 t315 _ ?side1 ?side2 A12.out).mono ?_); (case side1 => repeat (first | exact (Kd.V_reads' HO_0.out).2.2 | (with_reducible refine Kd.C_alloc ?_ _) | (with_reducible refine Kd.C_drewN ?_ _) | (with_reducible refine Kd.C_drew ?_))); (case side2 => exact (Kd.V_reads' HO_0.out).2.1); rintro e w13 ⟨v316, rfl, ho0, hb⟩; refine ⟨_, rfl, ?_⟩; (try clear HSr); have HSr := Aside0.mk (Kd.S_lower ho0 (below_size bA)); have n0_ := Aside0.mk (Kd.V_elder' (by (with_reducible repeat (first | apply Kd.V_alloc | apply Kd.V_drewN | apply Kd.V_drew)); exact HO_0.out) (by first | exact Kd.N_base ho0 | exact Kd.N_base (Kd.S_N ho0)) hb); have n1_ := Aside0.mk (Kd.V_elder' (by (with_reducible repeat (first | apply Kd.V_alloc | apply Kd.V_drewN | apply Kd.V_drew)); exact HO_2.out) (by first | exact Kd.N_base ho0 | exact Kd.N_base (Kd.S_N ho0)) hb); have n2_ := Aside0.mk (Kd.N_lower (Kd.N_mono (ok' := fun k_ => ((P0_ k_ ∨ P2_ k_) ∨ w.heap.size ≤ k_)) (Kd.S_N (Kd.S_bound ho0)) (fun k_ hk_ => (.inr (Nat.le_trans (below_size bA) hk_.2.1)))) (below_size bA)); have n3_ := Aside0.mk (below_step bA hb); clear HO_0; clear HO_2; clear HB; have HO_0 := n0_; have HO_2 := n1_; have HO317 := n2_; have HB := n3_; clear n0_ n1_ n2_ n3_; (try clear hb); (try clear hb2); (try clear hk); (try clear hi); (try clear ho0)))
    go_ret2
    exact ⟨_, rE, by (with_reducible repeat (first | apply Kd.S_alloc | apply Kd.S_drewN | apply Kd.S_drew)); exact HSr.out, bA⟩
   ·replace c11 := Bool.eq_false_iff.mpr c11
    subst c11
    have H1 : (if 0 ≤ a1 then (if a1 ≤ (l0.length : Int) then ((impl_end.f kj3 l0 a1 1).bind fun t323 => (if 0 ≤ t323 then (if t323 ≤ (l0.length : Int) then ((slices_Concat_impl_Node_impl_Node.f kj3 (([(l0.take (a1 : Int).toNat), l2, (l0.drop (t323 : Int).toNat)] : List (List (S33))))).bind fun t332 => ((impl_own.f kj3 t332).bind fun t335 => ((impl_PlanOk.f kj3 t335).bind fun t338 => (if t338 = true then (some (t335, true)) else ((impl_own.f kj3 l0).bind fun t339 => (some (t339, false))))))) else (none)) else (none))) else (none)) else (none)) = some (r1, r2) := by rw [if_neg (show ¬ (false = true) by decide)] at H; exact H
    clear H
    have H := H1
    clear H1
    by_cases c14 : 0 ≤ a1
    ·rw [if_pos c14] at H
     have c14b0 := eq_true c14
     have c14b1 : decide (0 ≤ a1) = true := decide_eq_true c14
     clear c14
     by_cases c15 : a1 ≤ (l0.length : Int)
     ·rw [if_pos c15] at H
      have c15b0 := eq_true c15
      have c15b1 : decide (a1 ≤ (l0.length : Int)) = true := decide_eq_true c15
      clear c15
      obtain ⟨y318, hy318⟩ : ∃ y_ : List (S33), y_ = (l0.take (a1 : Int).toNat) := ⟨_, rfl⟩
      replace H : ((impl_end.f kj3 l0 a1 1).bind fun t323 => (if 0 ≤ t323 then (if t323 ≤ (l0.length : Int) then ((slices_Concat_impl_Node_impl_Node.f kj3 (([y318, l2, (l0.drop (t323 : Int).toNat)] : List (List (S33))))).bind fun t332 => ((impl_own.f kj3 t332).bind fun t335 => ((impl_PlanOk.f kj3 t335).bind fun t338 => (if t338 = true then (some (t335, true)) else ((impl_own.f kj3 l0).bind fun t339 => (some (t339, false))))))) else (none)) else (none))) = some (r1, r2) := by first | (rw [hy318]; with_reducible exact H) | (have H2_ := (Option.bind_some _ _).symm.trans H; rw [hy318]; with_reducible exact H2_) | (have H2_ := (Option.bind_some _ _).symm.trans H; with_reducible exact H2_) | with_reducible exact H | (rw [hy318]; exact H) | exact H
      have Ny318 := Aside0.mk hy318
      clear hy318
      replace H := Option.bind_eq_some_iff.mp H
      obtain ⟨t323, A160, H⟩ := H
      replace H : (if 0 ≤ t323 then (if t323 ≤ (l0.length : Int) then ((slices_Concat_impl_Node_impl_Node.f kj3 (([y318, l2, (l0.drop (t323 : Int).toNat)] : List (List (S33))))).bind fun t332 => ((impl_own.f kj3 t332).bind fun t335 => ((impl_PlanOk.f kj3 t335).bind fun t338 => (if t338 = true then (some (t335, true)) else ((impl_own.f kj3 l0).bind fun t339 => (some (t339, false))))))) else (none)) else (none)) = some (r1, r2) := H
      have A16 := Aside0.mk A160
      clear A160
      by_cases c17 : 0 ≤ t323
      ·rw [if_pos c17] at H
       have c17b0 := eq_true c17
       have c17b1 : decide (0 ≤ t323) = true := decide_eq_true c17
       clear c17
       by_cases c18 : t323 ≤ (l0.length : Int)
       ·rw [if_pos c18] at H
        have c18b0 := eq_true c18
        have c18b1 : decide (t323 ≤ (l0.length : Int)) = true := decide_eq_true c18
        clear c18
        obtain ⟨y324, hy324⟩ : ∃ y_ : List (S33), y_ = (l0.drop (t323 : Int).toNat) := ⟨_, rfl⟩
        replace H : ((slices_Concat_impl_Node_impl_Node.f kj3 (([y318, l2, y324] : List (List (S33))))).bind fun t332 => ((impl_own.f kj3 t332).bind fun t335 => ((impl_PlanOk.f kj3 t335).bind fun t338 => (if t338 = true then (some (t335, true)) else ((impl_own.f kj3 l0).bind fun t339 => (some (t339, false))))))) = some (r1, r2) := by first | (rw [hy324]; with_reducible exact H) | (have H2_ := (Option.bind_some _ _).symm.trans H; rw [hy324]; with_reducible exact H2_) | (have H2_ := (Option.bind_some _ _).symm.trans H; with_reducible exact H2_) | with_reducible exact H | (rw [hy324]; exact H) | exact H
        have Ny324 := Aside0.mk hy324
        clear hy324
        obtain ⟨y329, hy329⟩ : ∃ y_ : List (List (S33)), y_ = (([y318, l2, y324] : List (List (S33)))) := ⟨_, rfl⟩
        replace H : ((slices_Concat_impl_Node_impl_Node.f kj3 y329).bind fun t332 => ((impl_own.f kj3 t332).bind fun t335 => ((impl_PlanOk.f kj3 t335).bind fun t338 => (if t338 = true then (some (t335, true)) else ((impl_own.f kj3 l0).bind fun t339 => (some (t339, false))))))) = some (r1, r2) := by first | (rw [hy329]; with_reducible exact H) | (have H2_ := (Option.bind_some _ _).symm.trans H; rw [hy329]; with_reducible exact H2_) | (have H2_ := (Option.bind_some _ _).symm.trans H; with_reducible exact H2_) | with_reducible exact H | (rw [hy329]; exact H) | exact H
        have Ny329 := Aside0.mk hy329
        clear hy329
        replace H := Option.bind_eq_some_iff.mp H
        obtain ⟨t332, A190, H⟩ := H
        replace H : ((impl_own.f kj3 t332).bind fun t335 => ((impl_PlanOk.f kj3 t335).bind fun t338 => (if t338 = true then (some (t335, true)) else ((impl_own.f kj3 l0).bind fun t339 => (some (t339, false)))))) = some (r1, r2) := H
        have A19 := Aside0.mk A190
        clear A190
        replace H := Option.bind_eq_some_iff.mp H
        obtain ⟨t335, A200, H⟩ := H
        replace H : ((impl_PlanOk.f kj3 t335).bind fun t338 => (if t338 = true then (some (t335, true)) else ((impl_own.f kj3 l0).bind fun t339 => (some (t339, false))))) = some (r1, r2) := H
        have A20 := Aside0.mk A200
        clear A200
        replace H := Option.bind_eq_some_iff.mp H
        obtain ⟨t338, A210, H⟩ := H
        replace H : (if t338 = true then (some (t335, true)) else ((impl_own.f kj3 l0).bind fun t339 => (some (t339, false)))) = some (r1, r2) := H
        have A21 := Aside0.mk A210
        clear A210
        by_cases c22 : t338 = true
        ·subst c22
         have H1 : (some (t335, true)) = some (r1, r2) := by rw [if_pos rfl] at H; exact H
         clear H
         have H := H1
         clear H1
         simp only [Option.some.injEq, Prod.mk.injEq] at H
         obtain ⟨rfl, rfl⟩ := H
         try go_wp2
         have n0_ := Aside0.mk (Kd.V_drew HO_0.out)
         have n1_ := Aside0.mk (Kd.V_drew HO_2.out)
         have n2_ := Aside0.mk (below_drew1 HB.out)
         clear HO_0
         clear HO_2
         clear HB
         have HO_0 := n0_
         have HO_2 := n1_
         have HB := n2_
         clear n0_ n1_ n2_
         have q24 : (a1 : Int) ≤ ((l0.length : Int) : Int) := of_decide_eq_true (by assumption)
         obtain ⟨i024, hi024, _, hsz24, _⟩ := info_parts info33
         have hroom24 : l0.length ≤ c0 := (Kd.V_reads' HO_0.out).2.1
         have hC24 : Kd.F k33 _ _ A0 l0.length l0 := (Kd.V_at (base := w.heap.size) HO_0.out).2.2
         have hcut24 := cut_to (P := Try.prog) 25 33 .i64 Try.underlying25 hi024 A0 l0.length c0 a1 (of_decide_eq_true (by assumption)) q24 hroom24
         have hr24 := Kd.F_take (m := (a1 : Int).toNat) hC24 (by omega)
         have hy24 : y318.length = (a1 : Int).toNat := (by rw [Ny318.out, List.length_take]; omega)
         rw [← Ny318.out] at hr24
         rw [← hy24] at hcut24
         have HO322 := Aside0.mk (show Kd.V k33 33 _ w.heap.size _ (.slice A0 y318.length c0) y318 from Kd.V_mk (by omega) hr24)
         have HC322 := Aside0.mk (show y318.length ≤ c0 from by omega)
         clear hr24 hC24 hroom24 hi024 hsz24
         have KY24 := Aside0.mk hy24
         clear hy24
         replace q24 := eq_true q24
         refine start_ (n := 13) (S := fun w' => True) (ds := []) #[false, false, false, false, false, false, false, false, false, false, false, false, false] (by kernel_rfl) rfl rfl trivial (fun hHeld => ?_); refine with_tabW impl_PutPart.tab3 impl_PutPart.bits3 (fun HT_ HW_ => ?_)
         generalize wc.drew = w23 at HO_0 HO_2 HB HO322 hHeld ⊢
         refine pt_ 0 20 ?_
         refine pt_ 1 21 ?_
         refine pt_ 2 22 ?_
         refine pt_ 3 23 ?_
         refine pt_ 4 24 ?_
         refine pt_ 5 25 ?_
         refine pt_ 6 26 ?_
         refine one_ (i := 7) (N := some 27) #[true, true, true, true, true, true, true, true, false, false, false, false, false] rfl rfl (one_of HT_.out (by kernel_rfl)) (by decide) (fun K hK => ?_)
         refine goes_ Try.func75 (by kernel_rfl) rfl #[.slice A0 l0.length c0, .int .i64 a1, .int .i64 1] (by rfl) rfl rfl aL ?_
         with_reducible refine (impl_end.calls kj3 _ _ l0 a1 1 t323 _ ?side1 ?side2 A16.out).mono ?_
         (case side1 => repeat (first | exact (Kd.V_reads' HO_0.out).2.2 | (with_reducible refine Kd.C_alloc ?_ _) | (with_reducible refine Kd.C_drewN ?_ _) | (with_reducible refine Kd.C_drew ?_)))
         (case side2 => exact (Kd.V_reads' HO_0.out).2.1)
         rintro e wq ⟨rfl, ⟨nd, hw⟩⟩
         refine ⟨_, rfl, ?_⟩
         have n0_ := Aside0.mk (show Kd.V k33 33 wq w.heap.size _ _ _ from by rw [hw]; (with_reducible repeat (first | apply Kd.V_alloc | apply Kd.V_drewN | apply Kd.V_drew)); exact HO_0.out)
         have n1_ := Aside0.mk (show Kd.V k33 33 wq w.heap.size _ _ _ from by rw [hw]; (with_reducible repeat (first | apply Kd.V_alloc | apply Kd.V_drewN | apply Kd.V_drew)); exact HO_2.out)
         have n2_ := Aside0.mk (show Kd.V k33 33 wq w.heap.size _ _ _ from by rw [hw]; (with_reducible repeat (first | apply Kd.V_alloc | apply Kd.V_drewN | apply Kd.V_drew)); exact HO322.out)
         have n3_ : Aside0 (Below w.heap.size w wq) := ⟨by rw [hw]; exact bA⟩
         clear HO_0 HO_2 HO322 HB
         have HO_0 := n0_
         have HO_2 := n1_
         have HO322 := n2_
         have HB := n3_
         clear n0_ n1_ n2_ n3_ hw
         have q25 : (t323 : Int) ≤ ((l0.length : Int) : Int) := of_decide_eq_true (by assumption)
         obtain ⟨i025, hi025, _, hsz25, _⟩ := info_parts info33
         have hroom25 : l0.length ≤ c0 := (Kd.V_reads' HO_0.out).2.1
         have hC25 : Kd.F k33 _ _ A0 l0.length l0 := (Kd.V_at (base := w.heap.size) HO_0.out).2.2
         have q025 : (0 : Int) ≤ (t323 : Int) := of_decide_eq_true (by assumption)
         have hcut25 := cut_from (P := Try.prog) 25 33 .i64 Try.underlying25 hi025 7 hsz25 A0 l0.length c0 t323 q025 q25
         have hr25 := Kd.F_cut (m := (t323 : Int).toNat) (c := c0) hC25 (by omega) hroom25
         obtain ⟨A25, hA25⟩ : ∃ A1, A1 = (if c0 = (t323 : Int).toNat then A0 else (A0 : Option Addr).map (·.add ((t323 : Int).toNat * 7))) := ⟨_, rfl⟩
         obtain ⟨c25, hc25⟩ : ∃ c1, c1 = c0 - (t323 : Int).toNat := ⟨_, rfl⟩
         have hy25 : y324.length = l0.length - (t323 : Int).toNat := (by rw [Ny324.out, List.length_drop] <;> omega)
         rw [show (l0).drop (t323 : Int).toNat = y324 from Ny324.out.symm] at hr25
         replace hr25 : Kd.F k33 _ _ A25 y324.length y324 := (by rw [hA25]; exact hr25)
         rw [← hy25, ← hA25, ← hc25] at hcut25
         have HO328 := Aside0.mk (show Kd.V k33 33 _ w.heap.size _ (.slice A25 y324.length c25) y324 from Kd.V_mk (by rw [hy25, hc25]; exact Nat.sub_le_sub_right hroom25 _) hr25)
         have HC328 := Aside0.mk (show y324.length ≤ c25 from by rw [hy25, hc25]; exact Nat.sub_le_sub_right hroom25 _)
         clear hr25 hC25 hroom25 hi025 hsz25 hc25
         have KY25 := Aside0.mk hy25
         have KA25 := Aside0.mk hA25
         clear hy25 hA25
         replace q25 := eq_true q25
         refine hK.out _ _ trivial (fun hHeld => ?_)
         clear hK K
         refine norm_ (a' := ?_) ?_ ?_
         rotate_left
         ·show Act.put _ (some 27) _ = _
          simp only [Act.put, List.setIfInBounds_toArray, List.set_cons_zero, List.set_cons_succ, i64_w, i32_w]
          rfl
         refine pt_ 8 28 ?_
         refine one_ (i := 9) (N := some 29) #[true, true, true, true, true, true, true, true, true, true, false, false, false] rfl rfl (one_of HT_.out (by kernel_rfl)) (by decide) (fun K hK => ?_)
         refine Kd.N_lit_step (Kd.slice 33 k33) _ 25 ?hg (N' := 29) ?hd (xs := ([y318, l2, y324] : List (List (S33)))) (inner := [.slice A0 y318.length c0, .slice A2 l2.length c2, .slice A25 y324.length c25]) (ok := (fun k_ => ((P0_ k_ ∨ P2_ k_) ∨ w.heap.size ≤ k_))) (okp := (fun k_ => ((P0_ k_ ∨ P2_ k_) ∨ w.heap.size ≤ k_))) ?hr ?hp (fun _ hk => hk) ((show ∀ k_, wq.heap.size ≤ k_ → (fun k_ => ((P0_ k_ ∨ P2_ k_) ∨ w.heap.size ≤ k_)) k_ from fun k_ hk => (.inr (Nat.le_trans (below_size bA) hk))) _ (Nat.le_refl _)) (Below.refl _ _) (Nat.le_refl _) (by simp) ?_; (case hd => rfl); (case hg => rfl); (case hr => first | (go_simp; done) | (go_simp; rfl)); (case hp => exact (Reps.one (show Kd.FK (Kd.slice 33 k33) _ _ y318 [.slice A0 y318.length c0] from (Kd.FK_slice_mk (Kd.V_reads' (Kd.V_mono (ok' := (fun k_ => ((P0_ k_ ∨ P2_ k_) ∨ w.heap.size ≤ k_))) (HO322.out) (fun k_ hk => hk))).2.1 (Kd.V_F (Kd.V_mono (ok' := (fun k_ => ((P0_ k_ ∨ P2_ k_) ∨ w.heap.size ≤ k_))) (HO322.out) (fun k_ hk => hk))))) (Reps.one (show Kd.FK (Kd.slice 33 k33) _ _ l2 [.slice A2 l2.length c2] from (Kd.FK_slice_mk (Kd.V_reads' (Kd.V_mono (ok' := (fun k_ => ((P0_ k_ ∨ P2_ k_) ∨ w.heap.size ≤ k_))) (HO_2.out) (fun k_ hk => hk))).2.1 (Kd.V_F (Kd.V_mono (ok' := (fun k_ => ((P0_ k_ ∨ P2_ k_) ∨ w.heap.size ≤ k_))) (HO_2.out) (fun k_ hk => hk))))) (Reps.one (show Kd.FK (Kd.slice 33 k33) _ _ y324 [.slice A25 y324.length c25] from (Kd.FK_slice_mk (Kd.V_reads' (Kd.V_mono (ok' := (fun k_ => ((P0_ k_ ∨ P2_ k_) ∨ w.heap.size ≤ k_))) (HO328.out) (fun k_ hk => hk))).2.1 (Kd.V_F (Kd.V_mono (ok' := (fun k_ => ((P0_ k_ ∨ P2_ k_) ∨ w.heap.size ≤ k_))) (HO328.out) (fun k_ hk => hk))))) (Reps.none _ _)))))
         intro v330 w26 ho27 hb hg_ hnew_
         clear hg_ hnew_
         (first | rw [← Ny329.out] at ho27 | (simp only [Int.reduceToNat] at ho27; rw [← Ny329.out] at ho27))
         have n0_ := Aside0.mk (Kd.V_elder' (by (with_reducible repeat (first | apply Kd.V_alloc | apply Kd.V_drewN | apply Kd.V_drew)); exact HO_0.out) (Kd.N_base ho27) hb)
         have n1_ := Aside0.mk (Kd.V_elder' (by (with_reducible repeat (first | apply Kd.V_alloc | apply Kd.V_drewN | apply Kd.V_drew)); exact HO_2.out) (Kd.N_base ho27) hb)
         have n2_ := Aside0.mk (Kd.V_elder' (by (with_reducible repeat (first | apply Kd.V_alloc | apply Kd.V_drewN | apply Kd.V_drew)); exact HO322.out) (Kd.N_base ho27) hb)
         have n3_ := Aside0.mk (Kd.V_elder' (by (with_reducible repeat (first | apply Kd.V_alloc | apply Kd.V_drewN | apply Kd.V_drew)); exact HO328.out) (Kd.N_base ho27) hb)
         have n4_ := Aside0.mk (Kd.N_lower ho27 (below_size bA))
         have n5_ := Aside0.mk (below_step bA hb)
         clear HO_0
         clear HO_2
         clear HO322
         clear HO328
         clear HB
         have HO_0 := n0_
         have HO_2 := n1_
         have HO322 := n2_
         have HO328 := n3_
         have HO331 := n4_
         have HB := n5_
         clear n0_ n1_ n2_ n3_ n4_ n5_
         clear hb ho27
         obtain ⟨Ao28, co28, eo28⟩ := Kd.N_slice HO331.out
         (first | subst eo28 | (injection eo28 with f1_ f2_ f3_; have f4_ := f1_.symm; have f5_ := f3_.symm; clear f1_ f2_ f3_; subst f4_; subst f5_))
         refine hK.out _ _ trivial (fun hHeld => ?_)
         clear hK K
         refine norm_ (a' := ?_) ?_ ?_
         rotate_left
         ·show Act.put _ (some 29) _ = _
          simp only [Act.put, List.setIfInBounds_toArray, List.set_cons_zero, List.set_cons_succ, i64_w, i32_w]
          rfl
         refine one_ (i := 10) (N := some 30) #[true, true, true, true, true, true, true, true, true, true, true, false, false] rfl rfl (one_of HT_.out (by kernel_rfl)) (by decide) (fun K hK => ?_)
         refine goes_ Try.func85 (by kernel_rfl) rfl #[.slice Ao28 y329.length co28] (by rfl) rfl rfl aL ?_
         with_reducible refine (slices_Concat_impl_Node_impl_Node.calls kj3 _ _ y329 t332 _ ?side1 ?side2 A19.out).mono ?_
         (case side1 => repeat (first | exact (Kd.N_reads' HO331.out).2.2 | (with_reducible refine Kd.C_alloc ?_ _) | (with_reducible refine Kd.C_drewN ?_ _) | (with_reducible refine Kd.C_drew ?_)))
         (case side2 => exact (Kd.N_reads' HO331.out).2.1)
         rintro e w29 ⟨v333, rfl, ho0, hb⟩
         refine ⟨_, rfl, ?_⟩
         have n0_ := Aside0.mk (Kd.V_elder' (by (with_reducible repeat (first | apply Kd.V_alloc | apply Kd.V_drewN | apply Kd.V_drew)); exact HO_0.out) (by first | exact Kd.N_base ho0 | exact Kd.N_base (Kd.S_N ho0)) hb)
         have n1_ := Aside0.mk (Kd.V_elder' (by (with_reducible repeat (first | apply Kd.V_alloc | apply Kd.V_drewN | apply Kd.V_drew)); exact HO_2.out) (by first | exact Kd.N_base ho0 | exact Kd.N_base (Kd.S_N ho0)) hb)
         have n2_ := Aside0.mk (Kd.V_elder' (by (with_reducible repeat (first | apply Kd.V_alloc | apply Kd.V_drewN | apply Kd.V_drew)); exact HO322.out) (by first | exact Kd.N_base ho0 | exact Kd.N_base (Kd.S_N ho0)) hb)
         have n3_ := Aside0.mk (Kd.V_elder' (by (with_reducible repeat (first | apply Kd.V_alloc | apply Kd.V_drewN | apply Kd.V_drew)); exact HO328.out) (by first | exact Kd.N_base ho0 | exact Kd.N_base (Kd.S_N ho0)) hb)
         have n4_ := Aside0.mk (Kd.N_elder' (by (with_reducible repeat (first | apply Kd.N_alloc | apply Kd.N_drewN | apply Kd.N_drew)); exact HO331.out) (by first | exact Kd.N_base ho0 | exact Kd.N_base (Kd.S_N ho0)) hb)
         have n5_ := Aside0.mk (Kd.N_lower ho0 (below_size bA))
         have n6_ := Aside0.mk (below_step bA hb)
         clear HO_0
         clear HO_2
         clear HO322
         clear HO328
         clear HO331
         clear HB
         have HO_0 := n0_
         have HO_2 := n1_
         have HO322 := n2_
         have HO328 := n3_
         have HO331 := n4_
         have HO334 := n5_
         have HB := n6_
         clear n0_ n1_ n2_ n3_ n4_ n5_ n6_
         (try clear hb)
         (try clear hb2)
         (try clear hk)
         (try clear hi)
         (try clear ho0)
         obtain ⟨Ao30, co30, eo30⟩ := Kd.N_slice HO334.out
         (first | subst eo30 | (injection eo30 with f1_ f2_ f3_; have f4_ := f1_.symm; have f5_ := f3_.symm; clear f1_ f2_ f3_; subst f4_; subst f5_))
         refine hK.out _ _ trivial (fun hHeld => ?_)
         clear hK K
         refine norm_ (a' := ?_) ?_ ?_
         rotate_left
         ·show Act.put _ (some 30) _ = _
          simp only [Act.put, List.setIfInBounds_toArray, List.set_cons_zero, List.set_cons_succ, i64_w, i32_w]
          rfl
         refine one_ (i := 11) (N := some 31) #[true, true, true, true, true, true, true, true, true, true, true, true, false] rfl rfl (one_of HT_.out (by kernel_rfl)) (by decide) (fun K hK => ?_)
         refine goes_ Try.func83 (by kernel_rfl) rfl #[.slice Ao30 t332.length co30] (by rfl) rfl rfl aL ?_
         with_reducible refine (impl_own.calls kj3 _ _ t332 t335 _ ?side1 ?side2 A20.out).mono ?_
         (case side1 => repeat (first | exact (Kd.N_reads' HO334.out).2.2 | (with_reducible refine Kd.C_alloc ?_ _) | (with_reducible refine Kd.C_drewN ?_ _) | (with_reducible refine Kd.C_drew ?_)))
         (case side2 => exact (Kd.N_reads' HO334.out).2.1)
         rintro e w31 ⟨v336, rfl, ho0, hb⟩
         refine ⟨_, rfl, ?_⟩
         have HSr := Aside0.mk (Kd.S_lower ho0 (below_size bA))
         have n0_ := Aside0.mk (Kd.V_elder' (by (with_reducible repeat (first | apply Kd.V_alloc | apply Kd.V_drewN | apply Kd.V_drew)); exact HO_0.out) (by first | exact Kd.N_base ho0 | exact Kd.N_base (Kd.S_N ho0)) hb)
         have n1_ := Aside0.mk (Kd.V_elder' (by (with_reducible repeat (first | apply Kd.V_alloc | apply Kd.V_drewN | apply Kd.V_drew)); exact HO_2.out) (by first | exact Kd.N_base ho0 | exact Kd.N_base (Kd.S_N ho0)) hb)
         have n2_ := Aside0.mk (Kd.V_elder' (by (with_reducible repeat (first | apply Kd.V_alloc | apply Kd.V_drewN | apply Kd.V_drew)); exact HO322.out) (by first | exact Kd.N_base ho0 | exact Kd.N_base (Kd.S_N ho0)) hb)
         have n3_ := Aside0.mk (Kd.V_elder' (by (with_reducible repeat (first | apply Kd.V_alloc | apply Kd.V_drewN | apply Kd.V_drew)); exact HO328.out) (by first | exact Kd.N_base ho0 | exact Kd.N_base (Kd.S_N ho0)) hb)
         have n4_ := Aside0.mk (Kd.N_elder' (by (with_reducible repeat (first | apply Kd.N_alloc | apply Kd.N_drewN | apply Kd.N_drew)); exact HO331.out) (by first | exact Kd.N_base ho0 | exact Kd.N_base (Kd.S_N ho0)) hb)
         have n5_ := Aside0.mk (Kd.N_elder' (by (with_reducible repeat (first | apply Kd.N_alloc | apply Kd.N_drewN | apply Kd.N_drew)); exact HO334.out) (by first | exact Kd.N_base ho0 | exact Kd.N_base (Kd.S_N ho0)) hb)
         have n6_ := Aside0.mk (Kd.N_lower (Kd.N_mono (ok' := fun k_ => ((P0_ k_ ∨ P2_ k_) ∨ w.heap.size ≤ k_) ∧ some k_ ≠ (.slice Ao28 y329.length co28 : Value).ownBlock ∧ some k_ ≠ (.slice Ao30 t332.length co30 : Value).ownBlock) (Kd.S_N (Kd.S_bound ho0)) (fun k_ hk_ => ⟨(.inr (Nat.le_trans (below_size bA) hk_.2.1)), (Kd.fresh' (Kd.N_lt (by (with_reducible repeat (first | apply Kd.N_alloc | apply Kd.N_drewN | apply Kd.N_drew)); exact HO331.out)) k_ hk_.2.1), (Kd.fresh' (Kd.N_lt (by (with_reducible repeat (first | apply Kd.N_alloc | apply Kd.N_drewN | apply Kd.N_drew)); exact HO334.out)) k_ hk_.2.1)⟩)) (below_size bA))
         have n7_ := Aside0.mk (below_step bA hb)
         clear HO_0
         clear HO_2
         clear HO322
         clear HO328
         clear HO331
         clear HO334
         clear HB
         have HO_0 := n0_
         have HO_2 := n1_
         have HO322 := n2_
         have HO328 := n3_
         have HO331 := n4_
         have HO334 := n5_
         have HO337 := n6_
         have HB := n7_
         clear n0_ n1_ n2_ n3_ n4_ n5_ n6_ n7_
         (try clear hb)
         (try clear hb2)
         (try clear hk)
         (try clear hi)
         (try clear ho0)
         refine hK.out _ _ trivial (fun hHeld => ?_)
         clear hK K
         refine norm_ (a' := ?_) ?_ ?_
         rotate_left
         ·show Act.put _ (some 31) _ = _
          simp only [Act.put, List.setIfInBounds_toArray, List.set_cons_zero, List.set_cons_succ, i64_w, i32_w]
          rfl
         refine pt_ 12 8 ?_
         refine done_ (done_of HT_.out (by kernel_rfl)) ?_
         obtain ⟨Ao32, co32, eo32⟩ := Kd.N_slice HO337.out
         subst eo32
         try go_wp2_with (first | ((with_reducible refine gate_callee (f := 26) rfl ?_); refine goesL_ (some 33) rfl rfl Try.func26 (by kernel_rfl) rfl #[.slice Ao32 t335.length co32] rfl aL ?_; (with_reducible refine (impl_PlanOk.calls kj3 _ _ t335 true _ ?side1 ?side2 A21.out).mono ?_); (case side1 => repeat (first | exact (Kd.N_reads' HO337.out).2.2 | (with_reducible refine Kd.C_alloc ?_ _) | (with_reducible refine Kd.C_drewN ?_ _) | (with_reducible refine Kd.C_drew ?_))); (case side2 => exact (Kd.N_reads' HO337.out).2.1); rintro e w33 ⟨rfl, hb⟩; refine ⟨_, rfl, ?_⟩; have HSr2 := Aside0.mk (Kd.S_below (by (with_reducible repeat (first | apply Kd.S_alloc | apply Kd.S_drewN | apply Kd.S_drew)); exact HSr.out) hb); clear HSr; have HSr := HSr2; clear HSr2; have n0_ := Aside0.mk (Kd.V_below (by (with_reducible repeat (first | apply Kd.V_alloc | apply Kd.V_drewN | apply Kd.V_drew)); exact HO_0.out) hb); have n1_ := Aside0.mk (Kd.V_below (by (with_reducible repeat (first | apply Kd.V_alloc | apply Kd.V_drewN | apply Kd.V_drew)); exact HO_2.out) hb); have n2_ := Aside0.mk (Kd.V_below (by (with_reducible repeat (first | apply Kd.V_alloc | apply Kd.V_drewN | apply Kd.V_drew)); exact HO322.out) hb); have n3_ := Aside0.mk (Kd.V_below (by (with_reducible repeat (first | apply Kd.V_alloc | apply Kd.V_drewN | apply Kd.V_drew)); exact HO328.out) hb); have n4_ := Aside0.mk (Kd.N_below (by (with_reducible repeat (first | apply Kd.N_alloc | apply Kd.N_drewN | apply Kd.N_drew)); exact HO331.out) hb); have n5_ := Aside0.mk (Kd.N_below (by (with_reducible repeat (first | apply Kd.N_alloc | apply Kd.N_drewN | apply Kd.N_drew)); exact HO334.out) hb); have n6_ := Aside0.mk (Kd.N_below (by (with_reducible repeat (first | apply Kd.N_alloc | apply Kd.N_drewN | apply Kd.N_drew)); exact HO337.out) hb); have n7_ := Aside0.mk (below_step bA hb); clear HO_0; clear HO_2; clear HO322; clear HO328; clear HO331; clear HO334; clear HO337; clear HB; have HO_0 := n0_; have HO_2 := n1_; have HO322 := n2_; have HO328 := n3_; have HO331 := n4_; have HO334 := n5_; have HO337 := n6_; have HB := n7_; clear n0_ n1_ n2_ n3_ n4_ n5_ n6_ n7_; (try clear hb); (try clear hb2); (try clear hk); (try clear hi)))
         go_ret2
         exact ⟨_, rE, by (with_reducible repeat (first | apply Kd.S_alloc | apply Kd.S_drewN | apply Kd.S_drew)); exact HSr.out, bA⟩
        ·replace c22 := Bool.eq_false_iff.mpr c22
         subst c22
         have H1 : ((impl_own.f kj3 l0).bind fun t339 => (some (t339, false))) = some (r1, r2) := by rw [if_neg (show ¬ (false = true) by decide)] at H; exact H
         clear H
         have H := H1
         clear H1
         replace H := Option.bind_eq_some_iff.mp H
         obtain ⟨t339, A340, H⟩ := H
         replace H : (some (t339, false)) = some (r1, r2) := H
         have A34 := Aside0.mk A340
         clear A340
         simp only [Option.some.injEq, Prod.mk.injEq] at H
         obtain ⟨rfl, rfl⟩ := H
         try go_wp2
         have n0_ := Aside0.mk (Kd.V_drew HO_0.out)
         have n1_ := Aside0.mk (Kd.V_drew HO_2.out)
         have n2_ := Aside0.mk (below_drew1 HB.out)
         clear HO_0
         clear HO_2
         clear HB
         have HO_0 := n0_
         have HO_2 := n1_
         have HB := n2_
         clear n0_ n1_ n2_
         have q36 : (a1 : Int) ≤ ((l0.length : Int) : Int) := of_decide_eq_true (by assumption)
         obtain ⟨i036, hi036, _, hsz36, _⟩ := info_parts info33
         have hroom36 : l0.length ≤ c0 := (Kd.V_reads' HO_0.out).2.1
         have hC36 : Kd.F k33 _ _ A0 l0.length l0 := (Kd.V_at (base := w.heap.size) HO_0.out).2.2
         have hcut36 := cut_to (P := Try.prog) 25 33 .i64 Try.underlying25 hi036 A0 l0.length c0 a1 (of_decide_eq_true (by assumption)) q36 hroom36
         have hr36 := Kd.F_take (m := (a1 : Int).toNat) hC36 (by omega)
         have hy36 : y318.length = (a1 : Int).toNat := (by rw [Ny318.out, List.length_take]; omega)
         rw [← Ny318.out] at hr36
         rw [← hy36] at hcut36
         have HO322 := Aside0.mk (show Kd.V k33 33 _ w.heap.size _ (.slice A0 y318.length c0) y318 from Kd.V_mk (by omega) hr36)
         have HC322 := Aside0.mk (show y318.length ≤ c0 from by omega)
         clear hr36 hC36 hroom36 hi036 hsz36
         have KY36 := Aside0.mk hy36
         clear hy36
         replace q36 := eq_true q36
         refine start_ (n := 13) (S := fun w' => True) (ds := []) #[false, false, false, false, false, false, false, false, false, false, false, false, false] (by kernel_rfl) rfl rfl trivial (fun hHeld => ?_); refine with_tabW impl_PutPart.tab3 impl_PutPart.bits3 (fun HT_ HW_ => ?_)
         generalize wc.drew = w35 at HO_0 HO_2 HB HO322 hHeld ⊢
         refine pt_ 0 20 ?_
         refine pt_ 1 21 ?_
         refine pt_ 2 22 ?_
         refine pt_ 3 23 ?_
         refine pt_ 4 24 ?_
         refine pt_ 5 25 ?_
         refine pt_ 6 26 ?_
         refine one_ (i := 7) (N := some 27) #[true, true, true, true, true, true, true, true, false, false, false, false, false] rfl rfl (one_of HT_.out (by kernel_rfl)) (by decide) (fun K hK => ?_)
         refine goes_ Try.func75 (by kernel_rfl) rfl #[.slice A0 l0.length c0, .int .i64 a1, .int .i64 1] (by rfl) rfl rfl aL ?_
         with_reducible refine (impl_end.calls kj3 _ _ l0 a1 1 t323 _ ?side1 ?side2 A16.out).mono ?_
         (case side1 => repeat (first | exact (Kd.V_reads' HO_0.out).2.2 | (with_reducible refine Kd.C_alloc ?_ _) | (with_reducible refine Kd.C_drewN ?_ _) | (with_reducible refine Kd.C_drew ?_)))
         (case side2 => exact (Kd.V_reads' HO_0.out).2.1)
         rintro e wq ⟨rfl, ⟨nd, hw⟩⟩
         refine ⟨_, rfl, ?_⟩
         have n0_ := Aside0.mk (show Kd.V k33 33 wq w.heap.size _ _ _ from by rw [hw]; (with_reducible repeat (first | apply Kd.V_alloc | apply Kd.V_drewN | apply Kd.V_drew)); exact HO_0.out)
         have n1_ := Aside0.mk (show Kd.V k33 33 wq w.heap.size _ _ _ from by rw [hw]; (with_reducible repeat (first | apply Kd.V_alloc | apply Kd.V_drewN | apply Kd.V_drew)); exact HO_2.out)
         have n2_ := Aside0.mk (show Kd.V k33 33 wq w.heap.size _ _ _ from by rw [hw]; (with_reducible repeat (first | apply Kd.V_alloc | apply Kd.V_drewN | apply Kd.V_drew)); exact HO322.out)
         have n3_ : Aside0 (Below w.heap.size w wq) := ⟨by rw [hw]; exact bA⟩
         clear HO_0 HO_2 HO322 HB
         have HO_0 := n0_
         have HO_2 := n1_
         have HO322 := n2_
         have HB := n3_
         clear n0_ n1_ n2_ n3_ hw
         have q37 : (t323 : Int) ≤ ((l0.length : Int) : Int) := of_decide_eq_true (by assumption)
         obtain ⟨i037, hi037, _, hsz37, _⟩ := info_parts info33
         have hroom37 : l0.length ≤ c0 := (Kd.V_reads' HO_0.out).2.1
         have hC37 : Kd.F k33 _ _ A0 l0.length l0 := (Kd.V_at (base := w.heap.size) HO_0.out).2.2
         have q037 : (0 : Int) ≤ (t323 : Int) := of_decide_eq_true (by assumption)
         have hcut37 := cut_from (P := Try.prog) 25 33 .i64 Try.underlying25 hi037 7 hsz37 A0 l0.length c0 t323 q037 q37
         have hr37 := Kd.F_cut (m := (t323 : Int).toNat) (c := c0) hC37 (by omega) hroom37
         obtain ⟨A37, hA37⟩ : ∃ A1, A1 = (if c0 = (t323 : Int).toNat then A0 else (A0 : Option Addr).map (·.add ((t323 : Int).toNat * 7))) := ⟨_, rfl⟩
         obtain ⟨c37, hc37⟩ : ∃ c1, c1 = c0 - (t323 : Int).toNat := ⟨_, rfl⟩
         have hy37 : y324.length = l0.length - (t323 : Int).toNat := (by rw [Ny324.out, List.length_drop] <;> omega)
         rw [show (l0).drop (t323 : Int).toNat = y324 from Ny324.out.symm] at hr37
         replace hr37 : Kd.F k33 _ _ A37 y324.length y324 := (by rw [hA37]; exact hr37)
         rw [← hy37, ← hA37, ← hc37] at hcut37
         have HO328 := Aside0.mk (show Kd.V k33 33 _ w.heap.size _ (.slice A37 y324.length c37) y324 from Kd.V_mk (by rw [hy37, hc37]; exact Nat.sub_le_sub_right hroom37 _) hr37)
         have HC328 := Aside0.mk (show y324.length ≤ c37 from by rw [hy37, hc37]; exact Nat.sub_le_sub_right hroom37 _)
         clear hr37 hC37 hroom37 hi037 hsz37 hc37
         have KY37 := Aside0.mk hy37
         have KA37 := Aside0.mk hA37
         clear hy37 hA37
         replace q37 := eq_true q37
         refine hK.out _ _ trivial (fun hHeld => ?_)
         clear hK K
         refine norm_ (a' := ?_) ?_ ?_
         rotate_left
         ·show Act.put _ (some 27) _ = _
          simp only [Act.put, List.setIfInBounds_toArray, List.set_cons_zero, List.set_cons_succ, i64_w, i32_w]
          rfl
         refine pt_ 8 28 ?_
         refine one_ (i := 9) (N := some 29) #[true, true, true, true, true, true, true, true, true, true, false, false, false] rfl rfl (one_of HT_.out (by kernel_rfl)) (by decide) (fun K hK => ?_)
         refine Kd.N_lit_step (Kd.slice 33 k33) _ 25 ?hg (N' := 29) ?hd (xs := ([y318, l2, y324] : List (List (S33)))) (inner := [.slice A0 y318.length c0, .slice A2 l2.length c2, .slice A37 y324.length c37]) (ok := (fun k_ => ((P0_ k_ ∨ P2_ k_) ∨ w.heap.size ≤ k_))) (okp := (fun k_ => ((P0_ k_ ∨ P2_ k_) ∨ w.heap.size ≤ k_))) ?hr ?hp (fun _ hk => hk) ((show ∀ k_, wq.heap.size ≤ k_ → (fun k_ => ((P0_ k_ ∨ P2_ k_) ∨ w.heap.size ≤ k_)) k_ from fun k_ hk => (.inr (Nat.le_trans (below_size bA) hk))) _ (Nat.le_refl _)) (Below.refl _ _) (Nat.le_refl _) (by simp) ?_; (case hd => rfl); (case hg => rfl); (case hr => first | (go_simp; done) | (go_simp; rfl)); (case hp => exact (Reps.one (show Kd.FK (Kd.slice 33 k33) _ _ y318 [.slice A0 y318.length c0] from (Kd.FK_slice_mk (Kd.V_reads' (Kd.V_mono (ok' := (fun k_ => ((P0_ k_ ∨ P2_ k_) ∨ w.heap.size ≤ k_))) (HO322.out) (fun k_ hk => hk))).2.1 (Kd.V_F (Kd.V_mono (ok' := (fun k_ => ((P0_ k_ ∨ P2_ k_) ∨ w.heap.size ≤ k_))) (HO322.out) (fun k_ hk => hk))))) (Reps.one (show Kd.FK (Kd.slice 33 k33) _ _ l2 [.slice A2 l2.length c2] from (Kd.FK_slice_mk (Kd.V_reads' (Kd.V_mono (ok' := (fun k_ => ((P0_ k_ ∨ P2_ k_) ∨ w.heap.size ≤ k_))) (HO_2.out) (fun k_ hk => hk))).2.1 (Kd.V_F (Kd.V_mono (ok' := (fun k_ => ((P0_ k_ ∨ P2_ k_) ∨ w.heap.size ≤ k_))) (HO_2.out) (fun k_ hk => hk))))) (Reps.one (show Kd.FK (Kd.slice 33 k33) _ _ y324 [.slice A37 y324.length c37] from (Kd.FK_slice_mk (Kd.V_reads' (Kd.V_mono (ok' := (fun k_ => ((P0_ k_ ∨ P2_ k_) ∨ w.heap.size ≤ k_))) (HO328.out) (fun k_ hk => hk))).2.1 (Kd.V_F (Kd.V_mono (ok' := (fun k_ => ((P0_ k_ ∨ P2_ k_) ∨ w.heap.size ≤ k_))) (HO328.out) (fun k_ hk => hk))))) (Reps.none _ _)))))
         intro v330 w38 ho39 hb hg_ hnew_
         clear hg_ hnew_
         (first | rw [← Ny329.out] at ho39 | (simp only [Int.reduceToNat] at ho39; rw [← Ny329.out] at ho39))
         have n0_ := Aside0.mk (Kd.V_elder' (by (with_reducible repeat (first | apply Kd.V_alloc | apply Kd.V_drewN | apply Kd.V_drew)); exact HO_0.out) (Kd.N_base ho39) hb)
         have n1_ := Aside0.mk (Kd.V_elder' (by (with_reducible repeat (first | apply Kd.V_alloc | apply Kd.V_drewN | apply Kd.V_drew)); exact HO_2.out) (Kd.N_base ho39) hb)
         have n2_ := Aside0.mk (Kd.V_elder' (by (with_reducible repeat (first | apply Kd.V_alloc | apply Kd.V_drewN | apply Kd.V_drew)); exact HO322.out) (Kd.N_base ho39) hb)
         have n3_ := Aside0.mk (Kd.V_elder' (by (with_reducible repeat (first | apply Kd.V_alloc | apply Kd.V_drewN | apply Kd.V_drew)); exact HO328.out) (Kd.N_base ho39) hb)
         have n4_ := Aside0.mk (Kd.N_lower ho39 (below_size bA))
         have n5_ := Aside0.mk (below_step bA hb)
         clear HO_0
         clear HO_2
         clear HO322
         clear HO328
         clear HB
         have HO_0 := n0_
         have HO_2 := n1_
         have HO322 := n2_
         have HO328 := n3_
         have HO331 := n4_
         have HB := n5_
         clear n0_ n1_ n2_ n3_ n4_ n5_
         clear hb ho39
         obtain ⟨Ao40, co40, eo40⟩ := Kd.N_slice HO331.out
         (first | subst eo40 | (injection eo40 with f1_ f2_ f3_; have f4_ := f1_.symm; have f5_ := f3_.symm; clear f1_ f2_ f3_; subst f4_; subst f5_))
         refine hK.out _ _ trivial (fun hHeld => ?_)
         clear hK K
         refine norm_ (a' := ?_) ?_ ?_
         rotate_left
         ·show Act.put _ (some 29) _ = _
          simp only [Act.put, List.setIfInBounds_toArray, List.set_cons_zero, List.set_cons_succ, i64_w, i32_w]
          rfl
         refine one_ (i := 10) (N := some 30) #[true, true, true, true, true, true, true, true, true, true, true, false, false] rfl rfl (one_of HT_.out (by kernel_rfl)) (by decide) (fun K hK => ?_)
         refine goes_ Try.func85 (by kernel_rfl) rfl #[.slice Ao40 y329.length co40] (by rfl) rfl rfl aL ?_
         with_reducible refine (slices_Concat_impl_Node_impl_Node.calls kj3 _ _ y329 t332 _ ?side1 ?side2 A19.out).mono ?_
         (case side1 => repeat (first | exact (Kd.N_reads' HO331.out).2.2 | (with_reducible refine Kd.C_alloc ?_ _) | (with_reducible refine Kd.C_drewN ?_ _) | (with_reducible refine Kd.C_drew ?_)))
         (case side2 => exact (Kd.N_reads' HO331.out).2.1)
         rintro e w41 ⟨v333, rfl, ho0, hb⟩
         refine ⟨_, rfl, ?_⟩
         have n0_ := Aside0.mk (Kd.V_elder' (by (with_reducible repeat (first | apply Kd.V_alloc | apply Kd.V_drewN | apply Kd.V_drew)); exact HO_0.out) (by first | exact Kd.N_base ho0 | exact Kd.N_base (Kd.S_N ho0)) hb)
         have n1_ := Aside0.mk (Kd.V_elder' (by (with_reducible repeat (first | apply Kd.V_alloc | apply Kd.V_drewN | apply Kd.V_drew)); exact HO_2.out) (by first | exact Kd.N_base ho0 | exact Kd.N_base (Kd.S_N ho0)) hb)
         have n2_ := Aside0.mk (Kd.V_elder' (by (with_reducible repeat (first | apply Kd.V_alloc | apply Kd.V_drewN | apply Kd.V_drew)); exact HO322.out) (by first | exact Kd.N_base ho0 | exact Kd.N_base (Kd.S_N ho0)) hb)
         have n3_ := Aside0.mk (Kd.V_elder' (by (with_reducible repeat (first | apply Kd.V_alloc | apply Kd.V_drewN | apply Kd.V_drew)); exact HO328.out) (by first | exact Kd.N_base ho0 | exact Kd.N_base (Kd.S_N ho0)) hb)
         have n4_ := Aside0.mk (Kd.N_elder' (by (with_reducible repeat (first | apply Kd.N_alloc | apply Kd.N_drewN | apply Kd.N_drew)); exact HO331.out) (by first | exact Kd.N_base ho0 | exact Kd.N_base (Kd.S_N ho0)) hb)
         have n5_ := Aside0.mk (Kd.N_lower ho0 (below_size bA))
         have n6_ := Aside0.mk (below_step bA hb)
         clear HO_0
         clear HO_2
         clear HO322
         clear HO328
         clear HO331
         clear HB
         have HO_0 := n0_
         have HO_2 := n1_
         have HO322 := n2_
         have HO328 := n3_
         have HO331 := n4_
         have HO334 := n5_
         have HB := n6_
         clear n0_ n1_ n2_ n3_ n4_ n5_ n6_
         (try clear hb)
         (try clear hb2)
         (try clear hk)
         (try clear hi)
         (try clear ho0)
         obtain ⟨Ao42, co42, eo42⟩ := Kd.N_slice HO334.out
         (first | subst eo42 | (injection eo42 with f1_ f2_ f3_; have f4_ := f1_.symm; have f5_ := f3_.symm; clear f1_ f2_ f3_; subst f4_; subst f5_))
         refine hK.out _ _ trivial (fun hHeld => ?_)
         clear hK K
         refine norm_ (a' := ?_) ?_ ?_
         rotate_left
         ·show Act.put _ (some 30) _ = _
          simp only [Act.put, List.setIfInBounds_toArray, List.set_cons_zero, List.set_cons_succ, i64_w, i32_w]
          rfl
         refine one_ (i := 11) (N := some 31) #[true, true, true, true, true, true, true, true, true, true, true, true, false] rfl rfl (one_of HT_.out (by kernel_rfl)) (by decide) (fun K hK => ?_)
         refine goes_ Try.func83 (by kernel_rfl) rfl #[.slice Ao42 t332.length co42] (by rfl) rfl rfl aL ?_
         with_reducible refine (impl_own.calls kj3 _ _ t332 t335 _ ?side1 ?side2 A20.out).mono ?_
         (case side1 => repeat (first | exact (Kd.N_reads' HO334.out).2.2 | (with_reducible refine Kd.C_alloc ?_ _) | (with_reducible refine Kd.C_drewN ?_ _) | (with_reducible refine Kd.C_drew ?_)))
         (case side2 => exact (Kd.N_reads' HO334.out).2.1)
         rintro e w43 ⟨v336, rfl, ho0, hb⟩
         refine ⟨_, rfl, ?_⟩
         have HSr := Aside0.mk (Kd.S_lower ho0 (below_size bA))
         have n0_ := Aside0.mk (Kd.V_elder' (by (with_reducible repeat (first | apply Kd.V_alloc | apply Kd.V_drewN | apply Kd.V_drew)); exact HO_0.out) (by first | exact Kd.N_base ho0 | exact Kd.N_base (Kd.S_N ho0)) hb)
         have n1_ := Aside0.mk (Kd.V_elder' (by (with_reducible repeat (first | apply Kd.V_alloc | apply Kd.V_drewN | apply Kd.V_drew)); exact HO_2.out) (by first | exact Kd.N_base ho0 | exact Kd.N_base (Kd.S_N ho0)) hb)
         have n2_ := Aside0.mk (Kd.V_elder' (by (with_reducible repeat (first | apply Kd.V_alloc | apply Kd.V_drewN | apply Kd.V_drew)); exact HO322.out) (by first | exact Kd.N_base ho0 | exact Kd.N_base (Kd.S_N ho0)) hb)
         have n3_ := Aside0.mk (Kd.V_elder' (by (with_reducible repeat (first | apply Kd.V_alloc | apply Kd.V_drewN | apply Kd.V_drew)); exact HO328.out) (by first | exact Kd.N_base ho0 | exact Kd.N_base (Kd.S_N ho0)) hb)
         have n4_ := Aside0.mk (Kd.N_elder' (by (with_reducible repeat (first | apply Kd.N_alloc | apply Kd.N_drewN | apply Kd.N_drew)); exact HO331.out) (by first | exact Kd.N_base ho0 | exact Kd.N_base (Kd.S_N ho0)) hb)
         have n5_ := Aside0.mk (Kd.N_elder' (by (with_reducible repeat (first | apply Kd.N_alloc | apply Kd.N_drewN | apply Kd.N_drew)); exact HO334.out) (by first | exact Kd.N_base ho0 | exact Kd.N_base (Kd.S_N ho0)) hb)
         have n6_ := Aside0.mk (Kd.N_lower (Kd.N_mono (ok' := fun k_ => ((P0_ k_ ∨ P2_ k_) ∨ w.heap.size ≤ k_) ∧ some k_ ≠ (.slice Ao40 y329.length co40 : Value).ownBlock ∧ some k_ ≠ (.slice Ao42 t332.length co42 : Value).ownBlock) (Kd.S_N (Kd.S_bound ho0)) (fun k_ hk_ => ⟨(.inr (Nat.le_trans (below_size bA) hk_.2.1)), (Kd.fresh' (Kd.N_lt (by (with_reducible repeat (first | apply Kd.N_alloc | apply Kd.N_drewN | apply Kd.N_drew)); exact HO331.out)) k_ hk_.2.1), (Kd.fresh' (Kd.N_lt (by (with_reducible repeat (first | apply Kd.N_alloc | apply Kd.N_drewN | apply Kd.N_drew)); exact HO334.out)) k_ hk_.2.1)⟩)) (below_size bA))
         have n7_ := Aside0.mk (below_step bA hb)
         clear HO_0
         clear HO_2
         clear HO322
         clear HO328
         clear HO331
         clear HO334
         clear HB
         have HO_0 := n0_
         have HO_2 := n1_
         have HO322 := n2_
         have HO328 := n3_
         have HO331 := n4_
         have HO334 := n5_
         have HO337 := n6_
         have HB := n7_
         clear n0_ n1_ n2_ n3_ n4_ n5_ n6_ n7_
         (try clear hb)
         (try clear hb2)
         (try clear hk)
         (try clear hi)
         (try clear ho0)
         refine hK.out _ _ trivial (fun hHeld => ?_)
         clear hK K
         refine norm_ (a' := ?_) ?_ ?_
         rotate_left
         ·show Act.put _ (some 31) _ = _
          simp only [Act.put, List.setIfInBounds_toArray, List.set_cons_zero, List.set_cons_succ, i64_w, i32_w]
          rfl
         refine pt_ 12 8 ?_
         refine done_ (done_of HT_.out (by kernel_rfl)) ?_
         obtain ⟨Ao44, co44, eo44⟩ := Kd.N_slice HO337.out
         subst eo44
         try go_wp2_with (first | ((with_reducible refine gate_callee (f := 26) rfl ?_); refine goesL_ (some 33) rfl rfl Try.func26 (by kernel_rfl) rfl #[.slice Ao44 t335.length co44] rfl aL ?_; (with_reducible refine (impl_PlanOk.calls kj3 _ _ t335 false _ ?side1 ?side2 A21.out).mono ?_); (case side1 => repeat (first | exact (Kd.N_reads' HO337.out).2.2 | (with_reducible refine Kd.C_alloc ?_ _) | (with_reducible refine Kd.C_drewN ?_ _) | (with_reducible refine Kd.C_drew ?_))); (case side2 => exact (Kd.N_reads' HO337.out).2.1); rintro e w45 ⟨rfl, hb⟩; refine ⟨_, rfl, ?_⟩; have HSr2 := Aside0.mk (Kd.S_below (by (with_reducible repeat (first | apply Kd.S_alloc | apply Kd.S_drewN | apply Kd.S_drew)); exact HSr.out) hb); clear HSr; have HSr := HSr2; clear HSr2; have n0_ := Aside0.mk (Kd.V_below (by (with_reducible repeat (first | apply Kd.V_alloc | apply Kd.V_drewN | apply Kd.V_drew)); exact HO_0.out) hb); have n1_ := Aside0.mk (Kd.V_below (by (with_reducible repeat (first | apply Kd.V_alloc | apply Kd.V_drewN | apply Kd.V_drew)); exact HO_2.out) hb); have n2_ := Aside0.mk (Kd.V_below (by (with_reducible repeat (first | apply Kd.V_alloc | apply Kd.V_drewN | apply Kd.V_drew)); exact HO322.out) hb); have n3_ := Aside0.mk (Kd.V_below (by (with_reducible repeat (first | apply Kd.V_alloc | apply Kd.V_drewN | apply Kd.V_drew)); exact HO328.out) hb); have n4_ := Aside0.mk (Kd.N_below (by (with_reducible repeat (first | apply Kd.N_alloc | apply Kd.N_drewN | apply Kd.N_drew)); exact HO331.out) hb); have n5_ := Aside0.mk (Kd.N_below (by (with_reducible repeat (first | apply Kd.N_alloc | apply Kd.N_drewN | apply Kd.N_drew)); exact HO334.out) hb); have n6_ := Aside0.mk (Kd.N_below (by (with_reducible repeat (first | apply Kd.N_alloc | apply Kd.N_drewN | apply Kd.N_drew)); exact HO337.out) hb); have n7_ := Aside0.mk (below_step bA hb); clear HO_0; clear HO_2; clear HO322; clear HO328; clear HO331; clear HO334; clear HO337; clear HB; have HO_0 := n0_; have HO_2 := n1_; have HO322 := n2_; have HO328 := n3_; have HO331 := n4_; have HO334 := n5_; have HO337 := n6_; have HB := n7_; clear n0_ n1_ n2_ n3_ n4_ n5_ n6_ n7_; (try clear hb); (try clear hb2); (try clear hk); (try clear hi)) | ((with_reducible refine gate_callee (f := 83) rfl ?_); refine goesL_ (some 36) rfl rfl Try.func83 (by kernel_rfl) rfl #[.slice A0 l0.length c0] rfl aL ?_; (with_reducible refine (impl_own.calls kj3 _ _ l0 t339 _ ?side1 ?side2 A34.out).mono ?_); (case side1 => repeat (first | exact (Kd.V_reads' HO_0.out).2.2 | (with_reducible refine Kd.C_alloc ?_ _) | (with_reducible refine Kd.C_drewN ?_ _) | (with_reducible refine Kd.C_drew ?_))); (case side2 => exact (Kd.V_reads' HO_0.out).2.1); rintro e w46 ⟨v340, rfl, ho0, hb⟩; refine ⟨_, rfl, ?_⟩; (try clear HSr); have HSr := Aside0.mk (Kd.S_lower ho0 (below_size bA)); have n0_ := Aside0.mk (Kd.V_elder' (by (with_reducible repeat (first | apply Kd.V_alloc | apply Kd.V_drewN | apply Kd.V_drew)); exact HO_0.out) (by first | exact Kd.N_base ho0 | exact Kd.N_base (Kd.S_N ho0)) hb); have n1_ := Aside0.mk (Kd.V_elder' (by (with_reducible repeat (first | apply Kd.V_alloc | apply Kd.V_drewN | apply Kd.V_drew)); exact HO_2.out) (by first | exact Kd.N_base ho0 | exact Kd.N_base (Kd.S_N ho0)) hb); have n2_ := Aside0.mk (Kd.V_elder' (by (with_reducible repeat (first | apply Kd.V_alloc | apply Kd.V_drewN | apply Kd.V_drew)); exact HO322.out) (by first | exact Kd.N_base ho0 | exact Kd.N_base (Kd.S_N ho0)) hb); have n3_ := Aside0.mk (Kd.V_elder' (by (with_reducible repeat (first | apply Kd.V_alloc | apply Kd.V_drewN | apply Kd.V_drew)); exact HO328.out) (by first | exact Kd.N_base ho0 | exact Kd.N_base (Kd.S_N ho0)) hb); have n4_ := Aside0.mk (Kd.N_elder' (by (with_reducible repeat (first | apply Kd.N_alloc | apply Kd.N_drewN | apply Kd.N_drew)); exact HO331.out) (by first | exact Kd.N_base ho0 | exact Kd.N_base (Kd.S_N ho0)) hb); have n5_ := Aside0.mk (Kd.N_elder' (by (with_reducible repeat (first | apply Kd.N_alloc | apply Kd.N_drewN | apply Kd.N_drew)); exact HO334.out) (by first | exact Kd.N_base ho0 | exact Kd.N_base (Kd.S_N ho0)) hb); have n6_ := Aside0.mk (Kd.N_elder' (by (with_reducible repeat (first | apply Kd.N_alloc | apply Kd.N_drewN | apply Kd.N_drew)); exact HO337.out) (by first | exact Kd.N_base ho0 | exact Kd.N_base (Kd.S_N ho0)) hb); have n7_ := Aside0.mk (Kd.N_lower (Kd.N_mono (ok' := fun k_ => ((P0_ k_ ∨ P2_ k_) ∨ w.heap.size ≤ k_) ∧ some k_ ≠ (.slice Ao40 y329.length co40 : Value).ownBlock ∧ some k_ ≠ (.slice Ao42 t332.length co42 : Value).ownBlock ∧ some k_ ≠ (.slice Ao44 t335.length co44 : Value).ownBlock) (Kd.S_N (Kd.S_bound ho0)) (fun k_ hk_ => ⟨(.inr (Nat.le_trans (below_size bA) hk_.2.1)), (Kd.fresh' (Kd.N_lt (by (with_reducible repeat (first | apply Kd.N_alloc | apply Kd.N_drewN | apply Kd.N_drew)); exact HO331.out)) k_ hk_.2.1), (Kd.fresh' (Kd.N_lt (by (with_reducible repeat (first | apply Kd.N_alloc | apply Kd.N_drewN | apply Kd.N_drew)); exact HO334.out)) k_ hk_.2.1), (Kd.fresh' (Kd.N_lt (by (with_reducible repeat (first | apply Kd.N_alloc | apply Kd.N_drewN | apply Kd.N_drew)); exact HO337.out)) k_ hk_.2.1)⟩)) (below_size bA)); have n8_ := Aside0.mk (below_step bA hb); clear HO_0; clear HO_2; clear HO322; clear HO328; clear HO331; clear HO334; clear HO337; clear HB; have HO_0 := n0_; have HO_2 := n1_; have HO322 := n2_; have HO328 := n3_; have HO331 := n4_; have HO334 := n5_; have HO337 := n6_; have HO341 := n7_; have HB := n8_; clear n0_ n1_ n2_ n3_ n4_ n5_ n6_ n7_ n8_; (try clear hb); (try clear hb2); (try clear hk); (try clear hi); (try clear ho0)))
         go_ret2
         exact ⟨_, rE, by (with_reducible repeat (first | apply Kd.S_alloc | apply Kd.S_drewN | apply Kd.S_drew)); exact HSr.out, bA⟩
       ·rw [if_neg c18] at H
        exact absurd H (by simp)
      ·rw [if_neg c17] at H
       exact absurd H (by simp)
     ·rw [if_neg c15] at H
      exact absurd H (by simp)
    ·rw [if_neg c14] at H
     exact absurd H (by simp)
theorem impl_PutPart.calls (k : Nat) (A0 : Option Addr) (c0 : Nat) (l0 : List (S33)) (a1 : Int) (A2 : Option Addr) (c2 : Nat) (l2 : List (S33)) (r1 : List (S33)) (r2 : Bool) (w : World) (hr0 : Kd.C k33 w A0 l0.length l0) (hc0 : l0.length ≤ c0) (hr2 : Kd.C k33 w A2 l2.length l2) (hc2 : l2.length ≤ c2) (h : impl_PutPart.f k l0 a1 l2 = some (r1, r2)) :
  Calls Try.prog 43 #[.slice A0 l0.length c0, .int .i64 a1, .slice A2 l2.length c2] w fun e w' => ∃ v0_ : Value, e = .returned (.tuple #[v0_, .bool r2]) ∧ Kd.S k33 33 w' w.heap.size (fun _ => True) v0_ r1 ∧ Below w.heap.size w w' := by
 exact impl_PutPart.callsV k (fun k => k < w.heap.size) A0 c0 l0 a1 (fun k => k < w.heap.size) A2 c2 l2 r1 r2 w (Kd.V_mk hc0 (Kd.C_F (Kd.heap_iso _ (Kd.heap_pair (Kd.heap_int _) (Kd.heap_pair Kd.heap_string (Kd.heap_pair (Kd.heap_int _) (Kd.heap_pair (Kd.heap_int _) (Kd.heap_pair (Kd.heap_int _) (Kd.heap_pair Kd.heap_bool (Kd.heap_slice 3 (Kd.heap_int _)))))))) : Kd.Heap k33) hr0)) (Kd.V_mk hc2 (Kd.C_F (Kd.heap_iso _ (Kd.heap_pair (Kd.heap_int _) (Kd.heap_pair Kd.heap_string (Kd.heap_pair (Kd.heap_int _) (Kd.heap_pair (Kd.heap_int _) (Kd.heap_pair (Kd.heap_int _) (Kd.heap_pair Kd.heap_bool (Kd.heap_slice 3 (Kd.heap_int _)))))))) : Kd.Heap k33) hr2)) h


end Go.Proofs.Ytmjfnkebpdmhbaa.Q
