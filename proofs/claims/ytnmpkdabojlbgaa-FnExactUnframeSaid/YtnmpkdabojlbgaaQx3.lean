/- The machine side of a law, written by a program of this session over the translation: for each Go function a Lean function with the same answers, and the proof that the Go code comes to them. -/
import Derived.Test.YtnmpkdabojlbgaaQx0
import Derived.Test.YtnmpkdabojlbgaaQx1
namespace Go.Proofs.Ytnmpkdabojlbgaa.Q
open Go.RowKit Go.Proofs.Ytnmpkdabojlbgaa.Own Go.Proofs.YtnmpkdabojlbgaaW.PrintWords Go.Proofs.YtnmpkdabojlbgaaW.PrintLast Go.Proofs.YtnmpkdabojlbgaaW.PrintMore
attribute [local go_sem] max2_int min2_int max_two min_two max_three min_three max_four min_four   -- for this text's walks alone
set_option linter.unusedVariables false
set_option linter.unusedSimpArgs false

/-! ### spec_TakeNum: function 27 -/
mutual
def spec_TakeNum.l0 : Nat → List Int → Int → Int → Int → Option (Int × Int)
  | 0, _, _, _, _ => none
  | k + 1, x0, x1, x6, x7 => if x7 < 4 then (if x1 < 0 then (spec_TakeNum.j1 k x0 x1 x6 x7 true) else (spec_TakeNum.j1 k x0 x1 x6 x7 (decide (x1 ≥ (wrap64 ((x0.length : Int) - x7)))))) else (some (0, (-1)))
def spec_TakeNum.j1 : Nat → List Int → Int → Int → Int → Bool → Option (Int × Int)
  | 0, _, _, _, _, _ => none
  | k + 1, x0, x1, x6, x7, x23 => if x23 = true then (some (0, (-1))) else (if 0 ≤ (wrap64 (x1 + x7)) then (if (wrap64 (x1 + x7)) < (x0.length : Int) then (if 0 ≤ (IntKind.u64.wrap (wrap64 (7 * x7))) then (if (wrap64 (rd x0 (wrap64 (x1 + x7)))) ≥ 128 then (spec_TakeNum.l0 k x0 x1 (wrap64 (x6 + (shl .i64 (Int.tmod (wrap64 (rd x0 (wrap64 (x1 + x7)))) 128) (IntKind.u64.wrap (wrap64 (7 * x7)))))) (wrap64 (x7 + 1))) else (if (Int.tmod (wrap64 (x6 + (shl .i64 (Int.tmod (wrap64 (rd x0 (wrap64 (x1 + x7)))) 128) (IntKind.u64.wrap (wrap64 (7 * x7)))))) 2) = 1 then (if (wrap64 (rd x0 (wrap64 (x1 + x7)))) = 0 then (if x7 > 0 then (some (0, (-1))) else ((spec_l01Number.f (wrap64 (Int.tdiv (wrap64 (-(wrap64 ((wrap64 (x6 + (shl .i64 (Int.tmod (wrap64 (rd x0 (wrap64 (x1 + x7)))) 128) (IntKind.u64.wrap (wrap64 (7 * x7)))))) + 1)))) 2))).bind fun t180 => (if t180 = true then (some (wrap64 (Int.tdiv (wrap64 (-(wrap64 ((wrap64 (x6 + (shl .i64 (Int.tmod (wrap64 (rd x0 (wrap64 (x1 + x7)))) 128) (IntKind.u64.wrap (wrap64 (7 * x7)))))) + 1)))) 2), wrap64 ((wrap64 (x1 + x7)) + 1))) else (some (0, (-1)))))) else ((spec_l01Number.f (wrap64 (Int.tdiv (wrap64 (-(wrap64 ((wrap64 (x6 + (shl .i64 (Int.tmod (wrap64 (rd x0 (wrap64 (x1 + x7)))) 128) (IntKind.u64.wrap (wrap64 (7 * x7)))))) + 1)))) 2))).bind fun t181 => (if t181 = true then (some (wrap64 (Int.tdiv (wrap64 (-(wrap64 ((wrap64 (x6 + (shl .i64 (Int.tmod (wrap64 (rd x0 (wrap64 (x1 + x7)))) 128) (IntKind.u64.wrap (wrap64 (7 * x7)))))) + 1)))) 2), wrap64 ((wrap64 (x1 + x7)) + 1))) else (some (0, (-1)))))) else (if (wrap64 (rd x0 (wrap64 (x1 + x7)))) = 0 then (if x7 > 0 then (some (0, (-1))) else ((spec_l01Number.f (wrap64 (Int.tdiv (wrap64 (x6 + (shl .i64 (Int.tmod (wrap64 (rd x0 (wrap64 (x1 + x7)))) 128) (IntKind.u64.wrap (wrap64 (7 * x7)))))) 2))).bind fun t182 => (if t182 = true then (some (wrap64 (Int.tdiv (wrap64 (x6 + (shl .i64 (Int.tmod (wrap64 (rd x0 (wrap64 (x1 + x7)))) 128) (IntKind.u64.wrap (wrap64 (7 * x7)))))) 2), wrap64 ((wrap64 (x1 + x7)) + 1))) else (some (0, (-1)))))) else ((spec_l01Number.f (wrap64 (Int.tdiv (wrap64 (x6 + (shl .i64 (Int.tmod (wrap64 (rd x0 (wrap64 (x1 + x7)))) 128) (IntKind.u64.wrap (wrap64 (7 * x7)))))) 2))).bind fun t183 => (if t183 = true then (some (wrap64 (Int.tdiv (wrap64 (x6 + (shl .i64 (Int.tmod (wrap64 (rd x0 (wrap64 (x1 + x7)))) 128) (IntKind.u64.wrap (wrap64 (7 * x7)))))) 2), wrap64 ((wrap64 (x1 + x7)) + 1))) else (some (0, (-1)))))))) else (none)) else (none)) else (none))
end
def spec_TakeNum.f (k : Nat) (l0 : List Int) (a1 : Int) : Option (Int × Int) := spec_TakeNum.l0 k l0 a1 0 0
theorem spec_TakeNum.mono_l : ∀ k, (∀ y0 y1 y2 y3, LeO (spec_TakeNum.l0 k y0 y1 y2 y3) (spec_TakeNum.l0 (k + 1) y0 y1 y2 y3)) ∧ (∀ y0 y1 y2 y3 y4, LeO (spec_TakeNum.j1 k y0 y1 y2 y3 y4) (spec_TakeNum.j1 (k + 1) y0 y1 y2 y3 y4))
  | 0 => ⟨fun _ _ _ _ r h => by simp [spec_TakeNum.l0] at h, fun _ _ _ _ _ r h => by simp [spec_TakeNum.j1] at h⟩
  | k + 1 => by
    obtain ⟨ih0, ih1⟩ := spec_TakeNum.mono_l k
    refine ⟨?_, ?_⟩
    · intro y0 y1 y2 y3
      unfold spec_TakeNum.l0
      repeat' first
      | (with_reducible exact ih0 _ _ _ _)
      | (with_reducible exact ih1 _ _ _ _ _)
      | (with_reducible exact LeO.refl _)
      | (with_reducible exact LeO.none _)
      | (with_reducible refine LeO.ite ?_ ?_)
      | (with_reducible refine LeO.bind ?_ (fun _ => ?_))
      | exact ih0 _ _ _ _
      | exact ih1 _ _ _ _ _
      | exact LeO.none _
      | refine LeO.ite ?_ ?_
      | refine LeO.bind ?_ (fun _ => ?_)
    · intro y0 y1 y2 y3 y4
      unfold spec_TakeNum.j1
      repeat' first
      | (with_reducible exact ih0 _ _ _ _)
      | (with_reducible exact ih1 _ _ _ _ _)
      | (with_reducible exact LeO.refl _)
      | (with_reducible exact LeO.none _)
      | (with_reducible refine LeO.ite ?_ ?_)
      | (with_reducible refine LeO.bind ?_ (fun _ => ?_))
      | exact ih0 _ _ _ _
      | exact ih1 _ _ _ _ _
      | exact LeO.none _
      | refine LeO.ite ?_ ?_
      | refine LeO.bind ?_ (fun _ => ?_)
theorem spec_TakeNum.mono : ∀ a0 a1 k, LeO (spec_TakeNum.f k a0 a1) (spec_TakeNum.f (k + 1) a0 a1) := by
  intro a0 a1 k
  obtain ⟨ih0, ih1⟩ := spec_TakeNum.mono_l k
  unfold spec_TakeNum.f
  repeat' first
      | (with_reducible exact ih0 _ _ _ _)
      | (with_reducible exact ih1 _ _ _ _ _)
      | (with_reducible exact LeO.refl _)
      | (with_reducible exact LeO.none _)
      | (with_reducible refine LeO.ite ?_ ?_)
      | (with_reducible refine LeO.bind ?_ (fun _ => ?_))
      | exact ih0 _ _ _ _
      | exact ih1 _ _ _ _ _
      | exact LeO.none _
      | refine LeO.ite ?_ ?_
      | refine LeO.bind ?_ (fun _ => ?_)
set_option maxHeartbeats 8000000 in
set_option maxRecDepth 100000 in
theorem spec_TakeNum.calls (k : Nat) (A0 : Option Addr) (c0 : Nat) (l0 : List Int) (a1 : Int) (r1 : Int) (r2 : Int) (w : World) (hr0 : Kd.C (Kd.int .u8) w A0 l0.length l0) (hc0 : l0.length ≤ c0) (h : spec_TakeNum.f k l0 a1 = some (r1, r2)) :
    Calls Try.prog 27 #[.slice A0 l0.length c0, .int .i64 a1] w fun e w' => e = .returned (.tuple #[.int .i64 r1, .int .i64 r2]) ∧ Drawn0 w w' := by
  have HR0 := Aside0.mk hr0
  have HC0 := Aside0.mk hc0
  clear hr0 hc0
  have H : (spec_TakeNum.l0 k l0 a1 0 0) = some (r1, r2) := h
  clear h
  have H' := Aside0.mk H
  clear H
  go_enter Try.func27, Try.ntmps27
  go_wp2
  go_loopg [6, 7] k (fun kq v6 v7 w' => ∃ (x6_1 : Int) (x7_1 : Int), v6 = .int .i64 x6_1 ∧ v7 = .int .i64 x7_1 ∧ Aside0 (spec_TakeNum.l0 kq l0 a1 x6_1 x7_1 = some (r1, r2)) ∧ Aside0 (kq ≤ k) ∧ Drawn0 w w')
  case atStart => exact ⟨(0), (0), (by first | rfl | (simp; done) | (simp [*]; done)), (by first | rfl | (simp; done) | (simp [*]; done)), H', ⟨Nat.le_refl _⟩, by repeat (first | exact Drawn0.refl _ | apply Drawn0.step)⟩
  case round =>
    clear H'
    try clear c2
    try clear p2
    obtain ⟨x6_1, x7_1, rfl, rfl, HA, HK1, ⟨m1, rfl⟩⟩ := hrel
    cases gk with
    | zero => exact absurd HA.out (by simp [spec_TakeNum.l0])
    | succ k1 =>
      have H := HA.out
      clear HA
      simp only [spec_TakeNum.l0] at H
      by_cases c3 : x7_1 < 4
      · rw [if_pos c3] at H
        have c3b0 : decide (x7_1 < 4) = true := decide_eq_true c3
        clear c3
        have HC4 := Aside0.mk H
        clear H
        go_upto_region 5 with (fail)
        go_cut [23] (fun v23 wc => ∃ (kq : Nat) (x23_3 : Bool), v23 = .bool x23_3 ∧ Aside0 (spec_TakeNum.j1 kq l0 a1 x6_1 x7_1 x23_3 = some (r1, r2)) ∧ Aside0 (kq ≤ k1) ∧ Drawn0 w wc)
        case first =>
          have H := HC4.out
          clear HC4
          by_cases c5 : a1 < 0
          · rw [if_pos c5] at H
            have c5b0 : decide (a1 < 0) = true := decide_eq_true c5
            clear c5
            (first | rw [c5b0] | (simp only [i64_w, i32_w]; rw [c5b0]) | skip)
            have H' := Aside0.mk H
            clear H
            go_wp2
            go_meet
            case rel => exact ⟨_, (true), (by first | rfl | (simp; done) | (simp [*]; done)), H', ⟨by have := HK1.out; first | omega | exact Nat.le_refl _⟩, by repeat (first | exact Drawn0.refl _ | apply Drawn0.step)⟩
          · rw [if_neg c5] at H
            have c5b0 : decide (a1 < 0) = false := decide_eq_false c5
            clear c5
            (first | rw [c5b0] | (simp only [i64_w, i32_w]; rw [c5b0]) | skip)
            have H' := Aside0.mk H
            clear H
            go_wp2
            go_meet
            case rel => exact ⟨_, (decide (a1 ≥ (wrap64 ((l0.length : Int) - x7_1)))), (by first | rfl | (simp; done) | (simp [*]; done)), H', ⟨by have := HK1.out; first | omega | exact Nat.le_refl _⟩, by repeat (first | exact Drawn0.refl _ | apply Drawn0.step)⟩
        case rest =>
          clear HC4
          try clear c2
          try clear p2
          try clear c3
          try clear c3b0
          try clear c5
          try clear c5b0
          try clear p2
          obtain ⟨kq, x23_3, rfl, HA, HJ3, ⟨mc3, rfl⟩⟩ := hcut
          cases kq with
          | zero => exact absurd HA.out (by simp [spec_TakeNum.j1])
          | succ kj3 =>
            have H := HA.out
            clear HA
            simp only [spec_TakeNum.j1] at H
            by_cases c6 : x23_3 = true
            · subst c6
              have H1 : (some (0, (-1))) = some (r1, r2) := by rw [if_pos rfl] at H; exact H
              clear H
              have H := H1
              clear H1
              simp only [Option.some.injEq, Prod.mk.injEq] at H
              obtain ⟨rfl, rfl⟩ := H
              go_wp2
              go_ret2
              exact ⟨by first | rfl | (simp; done) | (simp [*]; done), by repeat (first | exact Drawn0.refl _ | apply Drawn0.step)⟩
            · replace c6 := Bool.eq_false_iff.mpr c6
              subst c6
              have H1 : (if 0 ≤ (wrap64 (a1 + x7_1)) then (if (wrap64 (a1 + x7_1)) < (l0.length : Int) then (if 0 ≤ (IntKind.u64.wrap (wrap64 (7 * x7_1))) then (if (wrap64 (rd l0 (wrap64 (a1 + x7_1)))) ≥ 128 then (spec_TakeNum.l0 kj3 l0 a1 (wrap64 (x6_1 + (shl .i64 (Int.tmod (wrap64 (rd l0 (wrap64 (a1 + x7_1)))) 128) (IntKind.u64.wrap (wrap64 (7 * x7_1)))))) (wrap64 (x7_1 + 1))) else (if (Int.tmod (wrap64 (x6_1 + (shl .i64 (Int.tmod (wrap64 (rd l0 (wrap64 (a1 + x7_1)))) 128) (IntKind.u64.wrap (wrap64 (7 * x7_1)))))) 2) = 1 then (if (wrap64 (rd l0 (wrap64 (a1 + x7_1)))) = 0 then (if x7_1 > 0 then (some (0, (-1))) else ((spec_l01Number.f (wrap64 (Int.tdiv (wrap64 (-(wrap64 ((wrap64 (x6_1 + (shl .i64 (Int.tmod (wrap64 (rd l0 (wrap64 (a1 + x7_1)))) 128) (IntKind.u64.wrap (wrap64 (7 * x7_1)))))) + 1)))) 2))).bind fun t180 => (if t180 = true then (some (wrap64 (Int.tdiv (wrap64 (-(wrap64 ((wrap64 (x6_1 + (shl .i64 (Int.tmod (wrap64 (rd l0 (wrap64 (a1 + x7_1)))) 128) (IntKind.u64.wrap (wrap64 (7 * x7_1)))))) + 1)))) 2), wrap64 ((wrap64 (a1 + x7_1)) + 1))) else (some (0, (-1)))))) else ((spec_l01Number.f (wrap64 (Int.tdiv (wrap64 (-(wrap64 ((wrap64 (x6_1 + (shl .i64 (Int.tmod (wrap64 (rd l0 (wrap64 (a1 + x7_1)))) 128) (IntKind.u64.wrap (wrap64 (7 * x7_1)))))) + 1)))) 2))).bind fun t181 => (if t181 = true then (some (wrap64 (Int.tdiv (wrap64 (-(wrap64 ((wrap64 (x6_1 + (shl .i64 (Int.tmod (wrap64 (rd l0 (wrap64 (a1 + x7_1)))) 128) (IntKind.u64.wrap (wrap64 (7 * x7_1)))))) + 1)))) 2), wrap64 ((wrap64 (a1 + x7_1)) + 1))) else (some (0, (-1)))))) else (if (wrap64 (rd l0 (wrap64 (a1 + x7_1)))) = 0 then (if x7_1 > 0 then (some (0, (-1))) else ((spec_l01Number.f (wrap64 (Int.tdiv (wrap64 (x6_1 + (shl .i64 (Int.tmod (wrap64 (rd l0 (wrap64 (a1 + x7_1)))) 128) (IntKind.u64.wrap (wrap64 (7 * x7_1)))))) 2))).bind fun t182 => (if t182 = true then (some (wrap64 (Int.tdiv (wrap64 (x6_1 + (shl .i64 (Int.tmod (wrap64 (rd l0 (wrap64 (a1 + x7_1)))) 128) (IntKind.u64.wrap (wrap64 (7 * x7_1)))))) 2), wrap64 ((wrap64 (a1 + x7_1)) + 1))) else (some (0, (-1)))))) else ((spec_l01Number.f (wrap64 (Int.tdiv (wrap64 (x6_1 + (shl .i64 (Int.tmod (wrap64 (rd l0 (wrap64 (a1 + x7_1)))) 128) (IntKind.u64.wrap (wrap64 (7 * x7_1)))))) 2))).bind fun t183 => (if t183 = true then (some (wrap64 (Int.tdiv (wrap64 (x6_1 + (shl .i64 (Int.tmod (wrap64 (rd l0 (wrap64 (a1 + x7_1)))) 128) (IntKind.u64.wrap (wrap64 (7 * x7_1)))))) 2), wrap64 ((wrap64 (a1 + x7_1)) + 1))) else (some (0, (-1)))))))) else (none)) else (none)) else (none)) = some (r1, r2) := by rw [if_neg (show ¬ (false = true) by decide)] at H; exact H
              clear H
              have H := H1
              clear H1
              obtain ⟨ji7, hji7⟩ : ∃ j_ : Int, (wrap64 (a1 + x7_1)) = j_ := ⟨_, rfl⟩
              replace H : (if 0 ≤ (ji7) then (if (ji7) < (l0.length : Int) then (if 0 ≤ (IntKind.u64.wrap (wrap64 (7 * x7_1))) then (if (wrap64 (rd l0 (ji7))) ≥ 128 then (spec_TakeNum.l0 kj3 l0 a1 (wrap64 (x6_1 + (shl .i64 (Int.tmod (wrap64 (rd l0 (ji7))) 128) (IntKind.u64.wrap (wrap64 (7 * x7_1)))))) (wrap64 (x7_1 + 1))) else (if (Int.tmod (wrap64 (x6_1 + (shl .i64 (Int.tmod (wrap64 (rd l0 (ji7))) 128) (IntKind.u64.wrap (wrap64 (7 * x7_1)))))) 2) = 1 then (if (wrap64 (rd l0 (ji7))) = 0 then (if x7_1 > 0 then (some (0, (-1))) else ((spec_l01Number.f (wrap64 (Int.tdiv (wrap64 (-(wrap64 ((wrap64 (x6_1 + (shl .i64 (Int.tmod (wrap64 (rd l0 (ji7))) 128) (IntKind.u64.wrap (wrap64 (7 * x7_1)))))) + 1)))) 2))).bind fun t180 => (if t180 = true then (some (wrap64 (Int.tdiv (wrap64 (-(wrap64 ((wrap64 (x6_1 + (shl .i64 (Int.tmod (wrap64 (rd l0 (ji7))) 128) (IntKind.u64.wrap (wrap64 (7 * x7_1)))))) + 1)))) 2), wrap64 ((ji7) + 1))) else (some (0, (-1)))))) else ((spec_l01Number.f (wrap64 (Int.tdiv (wrap64 (-(wrap64 ((wrap64 (x6_1 + (shl .i64 (Int.tmod (wrap64 (rd l0 (ji7))) 128) (IntKind.u64.wrap (wrap64 (7 * x7_1)))))) + 1)))) 2))).bind fun t181 => (if t181 = true then (some (wrap64 (Int.tdiv (wrap64 (-(wrap64 ((wrap64 (x6_1 + (shl .i64 (Int.tmod (wrap64 (rd l0 (ji7))) 128) (IntKind.u64.wrap (wrap64 (7 * x7_1)))))) + 1)))) 2), wrap64 ((ji7) + 1))) else (some (0, (-1)))))) else (if (wrap64 (rd l0 (ji7))) = 0 then (if x7_1 > 0 then (some (0, (-1))) else ((spec_l01Number.f (wrap64 (Int.tdiv (wrap64 (x6_1 + (shl .i64 (Int.tmod (wrap64 (rd l0 (ji7))) 128) (IntKind.u64.wrap (wrap64 (7 * x7_1)))))) 2))).bind fun t182 => (if t182 = true then (some (wrap64 (Int.tdiv (wrap64 (x6_1 + (shl .i64 (Int.tmod (wrap64 (rd l0 (ji7))) 128) (IntKind.u64.wrap (wrap64 (7 * x7_1)))))) 2), wrap64 ((ji7) + 1))) else (some (0, (-1)))))) else ((spec_l01Number.f (wrap64 (Int.tdiv (wrap64 (x6_1 + (shl .i64 (Int.tmod (wrap64 (rd l0 (ji7))) 128) (IntKind.u64.wrap (wrap64 (7 * x7_1)))))) 2))).bind fun t183 => (if t183 = true then (some (wrap64 (Int.tdiv (wrap64 (x6_1 + (shl .i64 (Int.tmod (wrap64 (rd l0 (ji7))) 128) (IntKind.u64.wrap (wrap64 (7 * x7_1)))))) 2), wrap64 ((ji7) + 1))) else (some (0, (-1)))))))) else (none)) else (none)) else (none)) = some (r1, r2) := by first | (rw [hji7] at H; exact H) | (simp only [hji7] at H ⊢; exact H)
              have hji7w : (IntKind.i64.wrap (a1 + x7_1)) = ji7 := (i64_w _).trans hji7
              by_cases c8 : 0 ≤ (ji7)
              · rw [if_pos c8] at H
                have c8b0 : decide (0 ≤ (ji7)) = true := decide_eq_true c8
                clear c8
                by_cases c9 : (ji7) < (l0.length : Int)
                · rw [if_pos c9] at H
                  have c9b0 : decide ((ji7) < (l0.length : Int)) = true := decide_eq_true c9
                  clear c9
                  obtain ⟨ji10, hji10⟩ : ∃ j_ : Int, (IntKind.u64.wrap (wrap64 (7 * x7_1))) = j_ := ⟨_, rfl⟩
                  replace H : (if 0 ≤ (ji10) then (if (wrap64 (rd l0 (ji7))) ≥ 128 then (spec_TakeNum.l0 kj3 l0 a1 (wrap64 (x6_1 + (shl .i64 (Int.tmod (wrap64 (rd l0 (ji7))) 128) (ji10)))) (wrap64 (x7_1 + 1))) else (if (Int.tmod (wrap64 (x6_1 + (shl .i64 (Int.tmod (wrap64 (rd l0 (ji7))) 128) (ji10)))) 2) = 1 then (if (wrap64 (rd l0 (ji7))) = 0 then (if x7_1 > 0 then (some (0, (-1))) else ((spec_l01Number.f (wrap64 (Int.tdiv (wrap64 (-(wrap64 ((wrap64 (x6_1 + (shl .i64 (Int.tmod (wrap64 (rd l0 (ji7))) 128) (ji10)))) + 1)))) 2))).bind fun t180 => (if t180 = true then (some (wrap64 (Int.tdiv (wrap64 (-(wrap64 ((wrap64 (x6_1 + (shl .i64 (Int.tmod (wrap64 (rd l0 (ji7))) 128) (ji10)))) + 1)))) 2), wrap64 ((ji7) + 1))) else (some (0, (-1)))))) else ((spec_l01Number.f (wrap64 (Int.tdiv (wrap64 (-(wrap64 ((wrap64 (x6_1 + (shl .i64 (Int.tmod (wrap64 (rd l0 (ji7))) 128) (ji10)))) + 1)))) 2))).bind fun t181 => (if t181 = true then (some (wrap64 (Int.tdiv (wrap64 (-(wrap64 ((wrap64 (x6_1 + (shl .i64 (Int.tmod (wrap64 (rd l0 (ji7))) 128) (ji10)))) + 1)))) 2), wrap64 ((ji7) + 1))) else (some (0, (-1)))))) else (if (wrap64 (rd l0 (ji7))) = 0 then (if x7_1 > 0 then (some (0, (-1))) else ((spec_l01Number.f (wrap64 (Int.tdiv (wrap64 (x6_1 + (shl .i64 (Int.tmod (wrap64 (rd l0 (ji7))) 128) (ji10)))) 2))).bind fun t182 => (if t182 = true then (some (wrap64 (Int.tdiv (wrap64 (x6_1 + (shl .i64 (Int.tmod (wrap64 (rd l0 (ji7))) 128) (ji10)))) 2), wrap64 ((ji7) + 1))) else (some (0, (-1)))))) else ((spec_l01Number.f (wrap64 (Int.tdiv (wrap64 (x6_1 + (shl .i64 (Int.tmod (wrap64 (rd l0 (ji7))) 128) (ji10)))) 2))).bind fun t183 => (if t183 = true then (some (wrap64 (Int.tdiv (wrap64 (x6_1 + (shl .i64 (Int.tmod (wrap64 (rd l0 (ji7))) 128) (ji10)))) 2), wrap64 ((ji7) + 1))) else (some (0, (-1)))))))) else (none)) = some (r1, r2) := by first | (rw [hji10] at H; exact H) | (simp only [hji10] at H ⊢; exact H)
                  by_cases c11 : 0 ≤ (ji10)
                  · rw [if_pos c11] at H
                    have c11b0 := eq_true c11
                    have c11b1 : decide (0 ≤ (ji10)) = true := decide_eq_true c11
                    clear c11
                    obtain ⟨ji12, hji12⟩ : ∃ j_ : Int, (shl .i64 (Int.tmod (wrap64 (rd l0 (ji7))) 128) (ji10)) = j_ := ⟨_, rfl⟩
                    replace H : (if (wrap64 (rd l0 (ji7))) ≥ 128 then (spec_TakeNum.l0 kj3 l0 a1 (wrap64 (x6_1 + (ji12))) (wrap64 (x7_1 + 1))) else (if (Int.tmod (wrap64 (x6_1 + (ji12))) 2) = 1 then (if (wrap64 (rd l0 (ji7))) = 0 then (if x7_1 > 0 then (some (0, (-1))) else ((spec_l01Number.f (wrap64 (Int.tdiv (wrap64 (-(wrap64 ((wrap64 (x6_1 + (ji12))) + 1)))) 2))).bind fun t180 => (if t180 = true then (some (wrap64 (Int.tdiv (wrap64 (-(wrap64 ((wrap64 (x6_1 + (ji12))) + 1)))) 2), wrap64 ((ji7) + 1))) else (some (0, (-1)))))) else ((spec_l01Number.f (wrap64 (Int.tdiv (wrap64 (-(wrap64 ((wrap64 (x6_1 + (ji12))) + 1)))) 2))).bind fun t181 => (if t181 = true then (some (wrap64 (Int.tdiv (wrap64 (-(wrap64 ((wrap64 (x6_1 + (ji12))) + 1)))) 2), wrap64 ((ji7) + 1))) else (some (0, (-1)))))) else (if (wrap64 (rd l0 (ji7))) = 0 then (if x7_1 > 0 then (some (0, (-1))) else ((spec_l01Number.f (wrap64 (Int.tdiv (wrap64 (x6_1 + (ji12))) 2))).bind fun t182 => (if t182 = true then (some (wrap64 (Int.tdiv (wrap64 (x6_1 + (ji12))) 2), wrap64 ((ji7) + 1))) else (some (0, (-1)))))) else ((spec_l01Number.f (wrap64 (Int.tdiv (wrap64 (x6_1 + (ji12))) 2))).bind fun t183 => (if t183 = true then (some (wrap64 (Int.tdiv (wrap64 (x6_1 + (ji12))) 2), wrap64 ((ji7) + 1))) else (some (0, (-1)))))))) = some (r1, r2) := by first | (rw [hji12] at H; exact H) | (simp only [hji12] at H ⊢; exact H)
                    have hji12_ : (IntKind.i64.wrap ((Int.tmod (wrap64 (rd l0 (ji7))) 128) * 2 ^ min (ji10).toNat 64)) = ji12 := hji12
                    have hji12z : (ji10) ≤ 64 → (IntKind.i64.wrap ((Int.tmod (wrap64 (rd l0 (ji7))) 128) * 2 ^ (ji10).toNat)) = ji12 := shl_small hji12
                    have hji12y : (wrap64 ((Int.tmod (wrap64 (rd l0 (ji7))) 128) * 2 ^ min (ji10).toNat 64)) = ji12 := (i64_w _).symm.trans hji12_
                    have hji12x : (ji10) ≤ 64 → (wrap64 ((Int.tmod (wrap64 (rd l0 (ji7))) 128) * 2 ^ (ji10).toNat)) = ji12 := fun h_ => (i64_w _).symm.trans (hji12z h_)
                    by_cases c13 : (wrap64 (rd l0 (ji7))) ≥ 128
                    · rw [if_pos c13] at H
                      have c13b0 : decide (128 ≤ (wrap64 (rd l0 (ji7)))) = true := decide_eq_true c13
                      clear c13
                      have H' := Aside0.mk H
                      clear H
                      have p179 : 0 ≤ ((ji7) : Int) := of_decide_eq_true (by first | (with_reducible assumption) | assumption)
                      have q179 : (ji7) < (l0.length : Int) := of_decide_eq_true (by first | (with_reducible assumption) | assumption)
                      obtain ⟨ad179, e179, hx179_0⟩ := Kd.at_int HR0.out (ji7) p179 q179
                      cases e179
                      replace p179 := eq_true p179
                      replace q179 := eq_true q179
                      go_wp2
                      go_roundg kj3
                      case measure => have := HK1.out; have := HJ3.out; omega
                      case rel => exact ⟨(wrap64 (x6_1 + (ji12))), (wrap64 (x7_1 + 1)), (by first | rfl | (simp; done) | (simp only [← hji12] <;> (first | rfl | simp)) | (simp [*]; done)), (by first | rfl | (simp; done) | (simp [*]; done)), H', ⟨by have := HK1.out; have := HJ3.out; omega⟩, by repeat (first | exact Drawn0.refl _ | apply Drawn0.step)⟩
                    · rw [if_neg c13] at H
                      have c13b0 : decide (128 ≤ (wrap64 (rd l0 (ji7)))) = false := decide_eq_false c13
                      clear c13
                      by_cases c14 : (Int.tmod (wrap64 (x6_1 + (ji12))) 2) = 1
                      · rw [if_pos c14] at H
                        have c14b0 : ((Int.tmod (wrap64 (x6_1 + (ji12))) 2) == 1) = true := beq_iff_eq.mpr c14
                        have c14b1 : ((Int.tmod (wrap64 (x6_1 + (ji12))) 2) != 1) = false := bne_eq_false_iff_eq.mpr c14
                        clear c14
                        by_cases c15 : (wrap64 (rd l0 (ji7))) = 0
                        · rw [if_pos c15] at H
                          have c15b0 : ((wrap64 (rd l0 (ji7))) == 0) = true := beq_iff_eq.mpr c15
                          have c15b1 : ((wrap64 (rd l0 (ji7))) != 0) = false := bne_eq_false_iff_eq.mpr c15
                          clear c15
                          by_cases c16 : x7_1 > 0
                          · rw [if_pos c16] at H
                            have c16b0 : decide (0 < x7_1) = true := decide_eq_true c16
                            clear c16
                            simp only [Option.some.injEq, Prod.mk.injEq] at H
                            obtain ⟨rfl, rfl⟩ := H
                            have p179 : 0 ≤ ((ji7) : Int) := of_decide_eq_true (by first | (with_reducible assumption) | assumption)
                            have q179 : (ji7) < (l0.length : Int) := of_decide_eq_true (by first | (with_reducible assumption) | assumption)
                            obtain ⟨ad179, e179, hx179_0⟩ := Kd.at_int HR0.out (ji7) p179 q179
                            cases e179
                            replace p179 := eq_true p179
                            replace q179 := eq_true q179
                            go_wp2
                            go_ret2
                            exact ⟨by first | rfl | (simp; done) | (simp only [← hji7, ← hji10, ← hji12] <;> (first | rfl | simp)) | (simp [*]; done), by repeat (first | exact Drawn0.refl _ | apply Drawn0.step)⟩
                          · rw [if_neg c16] at H
                            have c16b0 : decide (0 < x7_1) = false := decide_eq_false c16
                            clear c16
                            replace H := Option.bind_eq_some_iff.mp H
                            obtain ⟨t180, A170, H⟩ := H
                            replace H : (if t180 = true then (some (wrap64 (Int.tdiv (wrap64 (-(wrap64 ((wrap64 (x6_1 + (ji12))) + 1)))) 2), wrap64 ((ji7) + 1))) else (some (0, (-1)))) = some (r1, r2) := H
                            have A17 := Aside0.mk A170
                            clear A170
                            by_cases c18 : t180 = true
                            · subst c18
                              have H1 : (some (wrap64 (Int.tdiv (wrap64 (-(wrap64 ((wrap64 (x6_1 + (ji12))) + 1)))) 2), wrap64 ((ji7) + 1))) = some (r1, r2) := by rw [if_pos rfl] at H; exact H
                              clear H
                              have H := H1
                              clear H1
                              simp only [Option.some.injEq, Prod.mk.injEq] at H
                              obtain ⟨rfl, rfl⟩ := H
                              have p179 : 0 ≤ ((ji7) : Int) := of_decide_eq_true (by first | (with_reducible assumption) | assumption)
                              have q179 : (ji7) < (l0.length : Int) := of_decide_eq_true (by first | (with_reducible assumption) | assumption)
                              obtain ⟨ad179, e179, hx179_0⟩ := Kd.at_int HR0.out (ji7) p179 q179
                              cases e179
                              replace p179 := eq_true p179
                              replace q179 := eq_true q179
                              go_wp2_with (first | (go_at_call 47; (with_reducible refine (spec_l01Number.calls (wrap64 (Int.tdiv (wrap64 (-(wrap64 ((wrap64 (x6_1 + (ji12))) + 1)))) 2)) true _ A17.out).mono ?_); rintro e w' ⟨rfl, ⟨nd, rfl⟩⟩))
                              go_ret2
                              exact ⟨by first | rfl | (simp; done) | (simp only [← hji7, ← hji10, ← hji12] <;> (first | rfl | simp)) | (simp [*]; done), by repeat (first | exact Drawn0.refl _ | apply Drawn0.step)⟩
                            · replace c18 := Bool.eq_false_iff.mpr c18
                              subst c18
                              have H1 : (some (0, (-1))) = some (r1, r2) := by rw [if_neg (show ¬ (false = true) by decide)] at H; exact H
                              clear H
                              have H := H1
                              clear H1
                              simp only [Option.some.injEq, Prod.mk.injEq] at H
                              obtain ⟨rfl, rfl⟩ := H
                              have p179 : 0 ≤ ((ji7) : Int) := of_decide_eq_true (by first | (with_reducible assumption) | assumption)
                              have q179 : (ji7) < (l0.length : Int) := of_decide_eq_true (by first | (with_reducible assumption) | assumption)
                              obtain ⟨ad179, e179, hx179_0⟩ := Kd.at_int HR0.out (ji7) p179 q179
                              cases e179
                              replace p179 := eq_true p179
                              replace q179 := eq_true q179
                              go_wp2_with (first | (go_at_call 47; (with_reducible refine (spec_l01Number.calls (wrap64 (Int.tdiv (wrap64 (-(wrap64 ((wrap64 (x6_1 + (ji12))) + 1)))) 2)) false _ A17.out).mono ?_); rintro e w' ⟨rfl, ⟨nd, rfl⟩⟩))
                              go_ret2
                              exact ⟨by first | rfl | (simp; done) | (simp only [← hji7, ← hji10, ← hji12] <;> (first | rfl | simp)) | (simp [*]; done), by repeat (first | exact Drawn0.refl _ | apply Drawn0.step)⟩
                        · rw [if_neg c15] at H
                          have c15b0 : ((wrap64 (rd l0 (ji7))) == 0) = false := beq_eq_false_iff_ne.mpr c15
                          have c15b1 : ((wrap64 (rd l0 (ji7))) != 0) = true := bne_iff_ne.mpr c15
                          replace H := Option.bind_eq_some_iff.mp H
                          obtain ⟨t181, A190, H⟩ := H
                          replace H : (if t181 = true then (some (wrap64 (Int.tdiv (wrap64 (-(wrap64 ((wrap64 (x6_1 + (ji12))) + 1)))) 2), wrap64 ((ji7) + 1))) else (some (0, (-1)))) = some (r1, r2) := H
                          have A19 := Aside0.mk A190
                          clear A190
                          by_cases c20 : t181 = true
                          · subst c20
                            have H1 : (some (wrap64 (Int.tdiv (wrap64 (-(wrap64 ((wrap64 (x6_1 + (ji12))) + 1)))) 2), wrap64 ((ji7) + 1))) = some (r1, r2) := by rw [if_pos rfl] at H; exact H
                            clear H
                            have H := H1
                            clear H1
                            simp only [Option.some.injEq, Prod.mk.injEq] at H
                            obtain ⟨rfl, rfl⟩ := H
                            have p179 : 0 ≤ ((ji7) : Int) := of_decide_eq_true (by first | (with_reducible assumption) | assumption)
                            have q179 : (ji7) < (l0.length : Int) := of_decide_eq_true (by first | (with_reducible assumption) | assumption)
                            obtain ⟨ad179, e179, hx179_0⟩ := Kd.at_int HR0.out (ji7) p179 q179
                            cases e179
                            replace p179 := eq_true p179
                            replace q179 := eq_true q179
                            go_wp2_with (first | (go_at_call 47; (with_reducible refine (spec_l01Number.calls (wrap64 (Int.tdiv (wrap64 (-(wrap64 ((wrap64 (x6_1 + (ji12))) + 1)))) 2)) true _ A19.out).mono ?_); rintro e w' ⟨rfl, ⟨nd, rfl⟩⟩))
                            go_ret2
                            exact ⟨by first | rfl | (simp; done) | (simp only [← hji7, ← hji10, ← hji12] <;> (first | rfl | simp)) | (simp [*]; done), by repeat (first | exact Drawn0.refl _ | apply Drawn0.step)⟩
                          · replace c20 := Bool.eq_false_iff.mpr c20
                            subst c20
                            have H1 : (some (0, (-1))) = some (r1, r2) := by rw [if_neg (show ¬ (false = true) by decide)] at H; exact H
                            clear H
                            have H := H1
                            clear H1
                            simp only [Option.some.injEq, Prod.mk.injEq] at H
                            obtain ⟨rfl, rfl⟩ := H
                            have p179 : 0 ≤ ((ji7) : Int) := of_decide_eq_true (by first | (with_reducible assumption) | assumption)
                            have q179 : (ji7) < (l0.length : Int) := of_decide_eq_true (by first | (with_reducible assumption) | assumption)
                            obtain ⟨ad179, e179, hx179_0⟩ := Kd.at_int HR0.out (ji7) p179 q179
                            cases e179
                            replace p179 := eq_true p179
                            replace q179 := eq_true q179
                            go_wp2_with (first | (go_at_call 47; (with_reducible refine (spec_l01Number.calls (wrap64 (Int.tdiv (wrap64 (-(wrap64 ((wrap64 (x6_1 + (ji12))) + 1)))) 2)) false _ A19.out).mono ?_); rintro e w' ⟨rfl, ⟨nd, rfl⟩⟩))
                            go_ret2
                            exact ⟨by first | rfl | (simp; done) | (simp only [← hji7, ← hji10, ← hji12] <;> (first | rfl | simp)) | (simp [*]; done), by repeat (first | exact Drawn0.refl _ | apply Drawn0.step)⟩
                      · rw [if_neg c14] at H
                        have c14b0 : ((Int.tmod (wrap64 (x6_1 + (ji12))) 2) == 1) = false := beq_eq_false_iff_ne.mpr c14
                        have c14b1 : ((Int.tmod (wrap64 (x6_1 + (ji12))) 2) != 1) = true := bne_iff_ne.mpr c14
                        by_cases c21 : (wrap64 (rd l0 (ji7))) = 0
                        · rw [if_pos c21] at H
                          have c21b0 : ((wrap64 (rd l0 (ji7))) == 0) = true := beq_iff_eq.mpr c21
                          have c21b1 : ((wrap64 (rd l0 (ji7))) != 0) = false := bne_eq_false_iff_eq.mpr c21
                          clear c21
                          by_cases c22 : x7_1 > 0
                          · rw [if_pos c22] at H
                            have c22b0 : decide (0 < x7_1) = true := decide_eq_true c22
                            clear c22
                            simp only [Option.some.injEq, Prod.mk.injEq] at H
                            obtain ⟨rfl, rfl⟩ := H
                            have p179 : 0 ≤ ((ji7) : Int) := of_decide_eq_true (by first | (with_reducible assumption) | assumption)
                            have q179 : (ji7) < (l0.length : Int) := of_decide_eq_true (by first | (with_reducible assumption) | assumption)
                            obtain ⟨ad179, e179, hx179_0⟩ := Kd.at_int HR0.out (ji7) p179 q179
                            cases e179
                            replace p179 := eq_true p179
                            replace q179 := eq_true q179
                            go_wp2
                            go_ret2
                            exact ⟨by first | rfl | (simp; done) | (simp only [← hji7, ← hji10, ← hji12] <;> (first | rfl | simp)) | (simp [*]; done), by repeat (first | exact Drawn0.refl _ | apply Drawn0.step)⟩
                          · rw [if_neg c22] at H
                            have c22b0 : decide (0 < x7_1) = false := decide_eq_false c22
                            clear c22
                            replace H := Option.bind_eq_some_iff.mp H
                            obtain ⟨t182, A230, H⟩ := H
                            replace H : (if t182 = true then (some (wrap64 (Int.tdiv (wrap64 (x6_1 + (ji12))) 2), wrap64 ((ji7) + 1))) else (some (0, (-1)))) = some (r1, r2) := H
                            have A23 := Aside0.mk A230
                            clear A230
                            by_cases c24 : t182 = true
                            · subst c24
                              have H1 : (some (wrap64 (Int.tdiv (wrap64 (x6_1 + (ji12))) 2), wrap64 ((ji7) + 1))) = some (r1, r2) := by rw [if_pos rfl] at H; exact H
                              clear H
                              have H := H1
                              clear H1
                              simp only [Option.some.injEq, Prod.mk.injEq] at H
                              obtain ⟨rfl, rfl⟩ := H
                              have p179 : 0 ≤ ((ji7) : Int) := of_decide_eq_true (by first | (with_reducible assumption) | assumption)
                              have q179 : (ji7) < (l0.length : Int) := of_decide_eq_true (by first | (with_reducible assumption) | assumption)
                              obtain ⟨ad179, e179, hx179_0⟩ := Kd.at_int HR0.out (ji7) p179 q179
                              cases e179
                              replace p179 := eq_true p179
                              replace q179 := eq_true q179
                              go_wp2_with (first | (go_at_call 47; (with_reducible refine (spec_l01Number.calls (wrap64 (Int.tdiv (wrap64 (x6_1 + (ji12))) 2)) true _ A23.out).mono ?_); rintro e w' ⟨rfl, ⟨nd, rfl⟩⟩))
                              go_ret2
                              exact ⟨by first | rfl | (simp; done) | (simp only [← hji7, ← hji10, ← hji12] <;> (first | rfl | simp)) | (simp [*]; done), by repeat (first | exact Drawn0.refl _ | apply Drawn0.step)⟩
                            · replace c24 := Bool.eq_false_iff.mpr c24
                              subst c24
                              have H1 : (some (0, (-1))) = some (r1, r2) := by rw [if_neg (show ¬ (false = true) by decide)] at H; exact H
                              clear H
                              have H := H1
                              clear H1
                              simp only [Option.some.injEq, Prod.mk.injEq] at H
                              obtain ⟨rfl, rfl⟩ := H
                              have p179 : 0 ≤ ((ji7) : Int) := of_decide_eq_true (by first | (with_reducible assumption) | assumption)
                              have q179 : (ji7) < (l0.length : Int) := of_decide_eq_true (by first | (with_reducible assumption) | assumption)
                              obtain ⟨ad179, e179, hx179_0⟩ := Kd.at_int HR0.out (ji7) p179 q179
                              cases e179
                              replace p179 := eq_true p179
                              replace q179 := eq_true q179
                              go_wp2_with (first | (go_at_call 47; (with_reducible refine (spec_l01Number.calls (wrap64 (Int.tdiv (wrap64 (x6_1 + (ji12))) 2)) false _ A23.out).mono ?_); rintro e w' ⟨rfl, ⟨nd, rfl⟩⟩))
                              go_ret2
                              exact ⟨by first | rfl | (simp; done) | (simp only [← hji7, ← hji10, ← hji12] <;> (first | rfl | simp)) | (simp [*]; done), by repeat (first | exact Drawn0.refl _ | apply Drawn0.step)⟩
                        · rw [if_neg c21] at H
                          have c21b0 : ((wrap64 (rd l0 (ji7))) == 0) = false := beq_eq_false_iff_ne.mpr c21
                          have c21b1 : ((wrap64 (rd l0 (ji7))) != 0) = true := bne_iff_ne.mpr c21
                          replace H := Option.bind_eq_some_iff.mp H
                          obtain ⟨t183, A250, H⟩ := H
                          replace H : (if t183 = true then (some (wrap64 (Int.tdiv (wrap64 (x6_1 + (ji12))) 2), wrap64 ((ji7) + 1))) else (some (0, (-1)))) = some (r1, r2) := H
                          have A25 := Aside0.mk A250
                          clear A250
                          by_cases c26 : t183 = true
                          · subst c26
                            have H1 : (some (wrap64 (Int.tdiv (wrap64 (x6_1 + (ji12))) 2), wrap64 ((ji7) + 1))) = some (r1, r2) := by rw [if_pos rfl] at H; exact H
                            clear H
                            have H := H1
                            clear H1
                            simp only [Option.some.injEq, Prod.mk.injEq] at H
                            obtain ⟨rfl, rfl⟩ := H
                            have p179 : 0 ≤ ((ji7) : Int) := of_decide_eq_true (by first | (with_reducible assumption) | assumption)
                            have q179 : (ji7) < (l0.length : Int) := of_decide_eq_true (by first | (with_reducible assumption) | assumption)
                            obtain ⟨ad179, e179, hx179_0⟩ := Kd.at_int HR0.out (ji7) p179 q179
                            cases e179
                            replace p179 := eq_true p179
                            replace q179 := eq_true q179
                            go_wp2_with (first | (go_at_call 47; (with_reducible refine (spec_l01Number.calls (wrap64 (Int.tdiv (wrap64 (x6_1 + (ji12))) 2)) true _ A25.out).mono ?_); rintro e w' ⟨rfl, ⟨nd, rfl⟩⟩))
                            go_ret2
                            exact ⟨by first | rfl | (simp; done) | (simp only [← hji7, ← hji10, ← hji12] <;> (first | rfl | simp)) | (simp [*]; done), by repeat (first | exact Drawn0.refl _ | apply Drawn0.step)⟩
                          · replace c26 := Bool.eq_false_iff.mpr c26
                            subst c26
                            have H1 : (some (0, (-1))) = some (r1, r2) := by rw [if_neg (show ¬ (false = true) by decide)] at H; exact H
                            clear H
                            have H := H1
                            clear H1
                            simp only [Option.some.injEq, Prod.mk.injEq] at H
                            obtain ⟨rfl, rfl⟩ := H
                            have p179 : 0 ≤ ((ji7) : Int) := of_decide_eq_true (by first | (with_reducible assumption) | assumption)
                            have q179 : (ji7) < (l0.length : Int) := of_decide_eq_true (by first | (with_reducible assumption) | assumption)
                            obtain ⟨ad179, e179, hx179_0⟩ := Kd.at_int HR0.out (ji7) p179 q179
                            cases e179
                            replace p179 := eq_true p179
                            replace q179 := eq_true q179
                            go_wp2_with (first | (go_at_call 47; (with_reducible refine (spec_l01Number.calls (wrap64 (Int.tdiv (wrap64 (x6_1 + (ji12))) 2)) false _ A25.out).mono ?_); rintro e w' ⟨rfl, ⟨nd, rfl⟩⟩))
                            go_ret2
                            exact ⟨by first | rfl | (simp; done) | (simp only [← hji7, ← hji10, ← hji12] <;> (first | rfl | simp)) | (simp [*]; done), by repeat (first | exact Drawn0.refl _ | apply Drawn0.step)⟩
                  · rw [if_neg c11] at H
                    exact absurd H (by simp)
                · rw [if_neg c9] at H
                  exact absurd H (by simp)
              · rw [if_neg c8] at H
                exact absurd H (by simp)
      · rw [if_neg c3] at H
        have c3b0 : decide (x7_1 < 4) = false := decide_eq_false c3
        clear c3
        simp only [Option.some.injEq, Prod.mk.injEq] at H
        obtain ⟨rfl, rfl⟩ := H
        go_wp2
        go_ret2
        exact ⟨by first | rfl | (simp; done) | (simp [*]; done), by repeat (first | exact Drawn0.refl _ | apply Drawn0.step)⟩

/-! ### spec_Unframe: function 43 -/
mutual
def spec_Unframe.j0 : Nat → List Int → Bool → Option (List Int × Bool)
  | 0, _, _ => none
  | k + 1, x0, x23 => if x23 = true then (some (([] : List Int), false)) else ((spec_TakeNum.f k x0 2).bind fun bt186 => (if bt186.2 < 0 then (spec_Unframe.j1 k x0 bt186.1 bt186.2 true) else ((spec_l01In.f bt186.1 0 4000).bind fun t188 => (if t188 = true then (spec_Unframe.j1 k x0 bt186.1 bt186.2 (decide (bt186.1 > (wrap64 ((x0.length : Int) - bt186.2))))) else (spec_Unframe.j1 k x0 bt186.1 bt186.2 true)))))
def spec_Unframe.j1 : Nat → List Int → Int → Int → Bool → Option (List Int × Bool)
  | 0, _, _, _, _ => none
  | k + 1, x0, x4, x5, x43 => if x43 = true then (some (([] : List Int), false)) else (if 0 ≤ x5 then (if x5 ≤ (wrap64 (x5 + x4)) then (if (wrap64 (x5 + x4)) ≤ (x0.length : Int) then ((spec_TakeNum.f k x0 (wrap64 (x5 + x4))).bind fun bt190 => (if bt190.2 = (x0.length : Int) then ((spec_CheckOf.f k ((x0.take ((wrap64 (x5 + x4)) : Int).toNat).drop (x5 : Int).toNat)).bind fun t192 => (if bt190.1 = t192 then ((spec_l01Bytes.f k ((x0.take ((wrap64 (x5 + x4)) : Int).toNat).drop (x5 : Int).toNat)).bind fun t193 => (some (t193, true))) else (some (([] : List Int), false)))) else (some (([] : List Int), false)))) else (none)) else (none)) else (none))
end
def spec_Unframe.f (k : Nat) (l0 : List Int) : Option (List Int × Bool) := if (l0.length : Int) < 2 then (spec_Unframe.j0 k l0 true) else (if 0 < (l0.length : Int) then (if (rd l0 0) = 80 then (if 1 < (l0.length : Int) then (spec_Unframe.j0 k l0 ((rd l0 1) != 83)) else (none)) else (spec_Unframe.j0 k l0 true)) else (none))
theorem spec_Unframe.mono_l : ∀ k, (∀ y0 y1, LeO (spec_Unframe.j0 k y0 y1) (spec_Unframe.j0 (k + 1) y0 y1)) ∧ (∀ y0 y1 y2 y3, LeO (spec_Unframe.j1 k y0 y1 y2 y3) (spec_Unframe.j1 (k + 1) y0 y1 y2 y3))
  | 0 => ⟨fun _ _ r h => by simp [spec_Unframe.j0] at h, fun _ _ _ _ r h => by simp [spec_Unframe.j1] at h⟩
  | k + 1 => by
    obtain ⟨ih0, ih1⟩ := spec_Unframe.mono_l k
    refine ⟨?_, ?_⟩
    · intro y0 y1
      unfold spec_Unframe.j0
      repeat' first
      | (with_reducible exact ih0 _ _)
      | (with_reducible exact ih1 _ _ _ _)
      | (with_reducible exact spec_CheckOf.mono _ _)
      | (with_reducible exact spec_TakeNum.mono _ _ _)
      | (with_reducible exact spec_l01Bytes.mono _ _)
      | (with_reducible exact LeO.refl _)
      | (with_reducible exact LeO.none _)
      | (with_reducible refine LeO.ite ?_ ?_)
      | (with_reducible refine LeO.bind ?_ (fun _ => ?_))
      | exact ih0 _ _
      | exact ih1 _ _ _ _
      | exact spec_CheckOf.mono _ _
      | exact spec_TakeNum.mono _ _ _
      | exact spec_l01Bytes.mono _ _
      | exact LeO.none _
      | refine LeO.ite ?_ ?_
      | refine LeO.bind ?_ (fun _ => ?_)
    · intro y0 y1 y2 y3
      unfold spec_Unframe.j1
      repeat' first
      | (with_reducible exact ih0 _ _)
      | (with_reducible exact ih1 _ _ _ _)
      | (with_reducible exact spec_CheckOf.mono _ _)
      | (with_reducible exact spec_TakeNum.mono _ _ _)
      | (with_reducible exact spec_l01Bytes.mono _ _)
      | (with_reducible exact LeO.refl _)
      | (with_reducible exact LeO.none _)
      | (with_reducible refine LeO.ite ?_ ?_)
      | (with_reducible refine LeO.bind ?_ (fun _ => ?_))
      | exact ih0 _ _
      | exact ih1 _ _ _ _
      | exact spec_CheckOf.mono _ _
      | exact spec_TakeNum.mono _ _ _
      | exact spec_l01Bytes.mono _ _
      | exact LeO.none _
      | refine LeO.ite ?_ ?_
      | refine LeO.bind ?_ (fun _ => ?_)
theorem spec_Unframe.mono : ∀ a0 k, LeO (spec_Unframe.f k a0) (spec_Unframe.f (k + 1) a0) := by
  intro a0 k
  obtain ⟨ih0, ih1⟩ := spec_Unframe.mono_l k
  unfold spec_Unframe.f
  repeat' first
      | (with_reducible exact ih0 _ _)
      | (with_reducible exact ih1 _ _ _ _)
      | (with_reducible exact spec_CheckOf.mono _ _)
      | (with_reducible exact spec_TakeNum.mono _ _ _)
      | (with_reducible exact spec_l01Bytes.mono _ _)
      | (with_reducible exact LeO.refl _)
      | (with_reducible exact LeO.none _)
      | (with_reducible refine LeO.ite ?_ ?_)
      | (with_reducible refine LeO.bind ?_ (fun _ => ?_))
      | exact ih0 _ _
      | exact ih1 _ _ _ _
      | exact spec_CheckOf.mono _ _
      | exact spec_TakeNum.mono _ _ _
      | exact spec_l01Bytes.mono _ _
      | exact LeO.none _
      | refine LeO.ite ?_ ?_
      | refine LeO.bind ?_ (fun _ => ?_)
set_option maxHeartbeats 8000000 in
set_option maxRecDepth 100000 in
theorem spec_Unframe.calls (k : Nat) (A0 : Option Addr) (c0 : Nat) (l0 : List Int) (r1 : List Int) (r2 : Bool) (w : World) (hr0 : Kd.C (Kd.int .u8) w A0 l0.length l0) (hc0 : l0.length ≤ c0) (h : spec_Unframe.f k l0 = some (r1, r2)) :
    Calls Try.prog 43 #[.slice A0 l0.length c0] w fun e w' => ∃ v0_ : Value, e = .returned (.tuple #[v0_, .bool r2]) ∧ Kd.R (Kd.int .u8) 5 w' w.heap.size (fun _ => True) v0_ r1 ∧ Below w.heap.size w w' := by
  have HR0 := Aside0.mk hr0
  have HC0 := Aside0.mk hc0
  clear hr0 hc0
  have HB := Aside0.mk (Below.refl w.heap.size w)
  have H : (if (l0.length : Int) < 2 then (spec_Unframe.j0 k l0 true) else (if 0 < (l0.length : Int) then (if (rd l0 0) = 80 then (if 1 < (l0.length : Int) then (spec_Unframe.j0 k l0 ((rd l0 1) != 83)) else (none)) else (spec_Unframe.j0 k l0 true)) else (none))) = some (r1, r2) := h
  clear h
  have HC2 := Aside0.mk H
  clear H
  go_enter Try.func43, Try.ntmps43
  go_upto_region 1 with (fail)
  go_cut [23] (fun v23 wc => ∃ (kq : Nat) (x23_1 : Bool), v23 = .bool x23_1 ∧ Aside0 (spec_Unframe.j0 kq l0 x23_1 = some (r1, r2)) ∧ Aside0 (kq ≤ k) ∧ Aside0 (Below w.heap.size w wc))
  case first =>
    have H := HC2.out
    clear HC2
    by_cases c3 : (l0.length : Int) < 2
    · rw [if_pos c3] at H
      have c3b0 : decide ((l0.length : Int) < 2) = true := decide_eq_true c3
      have c3b1 : decide (l0.length < 2) = true := decide_eq_true (by omega)
      clear c3
      (first | rw [c3b0] | (simp only [i64_w, i32_w]; rw [c3b0]) | skip)
      have H' := Aside0.mk H
      clear H
      go_wp2
      go_meet
      case rel => exact ⟨_, (true), (by first | rfl | (simp; done) | (simp [*]; done)), H', ⟨by first | omega | exact Nat.le_refl _⟩, ⟨by repeat (first | (with_reducible first | exact HB.out | apply below_alloc | apply pw_below_drewN | apply below_drew1) | exact HB.out)⟩⟩
    · rw [if_neg c3] at H
      have c3b0 : decide ((l0.length : Int) < 2) = false := decide_eq_false c3
      have c3b1 : decide (l0.length < 2) = false := decide_eq_false (by omega)
      clear c3
      (first | rw [c3b0] | (simp only [i64_w, i32_w]; rw [c3b0]) | skip)
      by_cases c4 : 0 < (l0.length : Int)
      · rw [if_pos c4] at H
        have c4b0 : decide (0 < (l0.length : Int)) = true := decide_eq_true c4
        have c4b1 : decide (0 < l0.length) = true := decide_eq_true (by omega)
        clear c4
        by_cases c5 : (rd l0 0) = 80
        · rw [if_pos c5] at H
          have c5b0 : ((rd l0 0) == 80) = true := beq_iff_eq.mpr c5
          have c5b1 : ((rd l0 0) != 80) = false := bne_eq_false_iff_eq.mpr c5
          clear c5
          by_cases c6 : 1 < (l0.length : Int)
          · rw [if_pos c6] at H
            have c6b0 : decide (1 < (l0.length : Int)) = true := decide_eq_true c6
            have c6b1 : decide (1 < l0.length) = true := decide_eq_true (by omega)
            clear c6
            have H' := Aside0.mk H
            clear H
            have p184 : 0 ≤ (0 : Int) := (by omega)
            have q184 : 0 < (l0.length : Int) := of_decide_eq_true (by first | (with_reducible assumption) | assumption)
            obtain ⟨ad184, e184, hx184_0⟩ := Kd.at_int HR0.out 0 p184 q184
            cases e184
            have qi184 : (0 < l0.length) = True := eq_true (by omega)
            (try rw [show ((0 : Int)).toNat = 0 from rfl] at hx184_0)
            (try rw [Addr.add_zero'] at hx184_0)
            replace hx184_0 := (HB.out.cell (World.block_lt_of_cell? w _ hx184_0)).trans hx184_0
            replace p184 := eq_true p184
            replace q184 := eq_true q184
            have p185 : 0 ≤ (1 : Int) := (by omega)
            have q185 : 1 < (l0.length : Int) := of_decide_eq_true (by first | (with_reducible assumption) | assumption)
            obtain ⟨ad185, e185, hx185_0⟩ := Kd.at_int HR0.out 1 p185 q185
            obtain rfl : ad184 = ad185 := (by injection e185)
            (try simp only [show (1 : Int).toNat = 1 from rfl, Nat.reduceMul, Nat.reduceEqDiff, Go.Addr.add, ↓reduceIte] at hx185_0)
            have qi185 : (1 < l0.length) = True := eq_true (by omega)
            (try rw [show ((1 : Int)).toNat = 1 from rfl] at hx185_0)
            replace hx185_0 := (HB.out.cell (World.block_lt_of_cell? w _ hx185_0)).trans hx185_0
            replace p185 := eq_true p185
            replace q185 := eq_true q185
            go_wp2
            go_meet
            case rel => exact ⟨_, (((rd l0 1) != 83)), (by first | rfl | (simp; done) | (simp [*]; done)), H', ⟨by first | omega | exact Nat.le_refl _⟩, ⟨by repeat (first | (with_reducible first | exact HB.out | apply below_alloc | apply pw_below_drewN | apply below_drew1) | exact HB.out)⟩⟩
          · rw [if_neg c6] at H
            exact absurd H (by simp)
        · rw [if_neg c5] at H
          have c5b0 : ((rd l0 0) == 80) = false := beq_eq_false_iff_ne.mpr c5
          have c5b1 : ((rd l0 0) != 80) = true := bne_iff_ne.mpr c5
          have H' := Aside0.mk H
          clear H
          have p184 : 0 ≤ (0 : Int) := (by omega)
          have q184 : 0 < (l0.length : Int) := of_decide_eq_true (by first | (with_reducible assumption) | assumption)
          obtain ⟨ad184, e184, hx184_0⟩ := Kd.at_int HR0.out 0 p184 q184
          cases e184
          have qi184 : (0 < l0.length) = True := eq_true (by omega)
          (try rw [show ((0 : Int)).toNat = 0 from rfl] at hx184_0)
          (try rw [Addr.add_zero'] at hx184_0)
          replace hx184_0 := (HB.out.cell (World.block_lt_of_cell? w _ hx184_0)).trans hx184_0
          replace p184 := eq_true p184
          replace q184 := eq_true q184
          go_wp2
          go_meet
          case rel => exact ⟨_, (true), (by first | rfl | (simp; done) | (simp [*]; done)), H', ⟨by first | omega | exact Nat.le_refl _⟩, ⟨by repeat (first | (with_reducible first | exact HB.out | apply below_alloc | apply pw_below_drewN | apply below_drew1) | exact HB.out)⟩⟩
      · rw [if_neg c4] at H
        exact absurd H (by simp)
  case rest =>
    clear HC2
    try clear p1
    try clear q1
    try clear hx1
    try clear qi1
    try clear p2
    try clear c3
    try clear c3b0
    try clear c3b1
    try clear c4
    try clear c4b0
    try clear c4b1
    try clear c5
    try clear c5b0
    try clear c5b1
    try clear c6
    try clear c6b0
    try clear c6b1
    try clear hx184_0
    try clear hx185_0
    try clear p184
    try clear p185
    try clear q184
    try clear q185
    obtain ⟨kq, x23_1, rfl, HA, HJ1, HB⟩ := hcut
    cases kq with
    | zero => exact absurd HA.out (by simp [spec_Unframe.j0])
    | succ kj1 =>
      have H := HA.out
      clear HA
      simp only [spec_Unframe.j0] at H
      by_cases c7 : x23_1 = true
      · subst c7
        have H1 : (some (([] : List Int), false)) = some (r1, r2) := by rw [if_pos rfl] at H; exact H
        clear H
        have H := H1
        clear H1
        simp only [Option.some.injEq, Prod.mk.injEq] at H
        obtain ⟨rfl, rfl⟩ := H
        go_wp2
        go_ret2
        exact ⟨.slice none 0 0, by first | rfl | (simp [errW_none, errW_some] <;> rfl) | (simp [*, errW_none, errW_some] <;> rfl), by first | exact Kd.R_nil _ _ _ _ _ | exact Kd.N_nil _ _ _ _ _ | exact Kd.V_nil _ _ _ _ _ | exact Kd.Q_nil _ _ _ _ _ | exact Kd.S_nil _ _ _ _ _, by repeat (first | (with_reducible first | exact HB.out | apply below_alloc | apply pw_below_drewN | apply below_drew1) | exact HB.out)⟩
      · replace c7 := Bool.eq_false_iff.mpr c7
        subst c7
        have H1 : ((spec_TakeNum.f kj1 l0 2).bind fun bt186 => (if bt186.2 < 0 then (spec_Unframe.j1 kj1 l0 bt186.1 bt186.2 true) else ((spec_l01In.f bt186.1 0 4000).bind fun t188 => (if t188 = true then (spec_Unframe.j1 kj1 l0 bt186.1 bt186.2 (decide (bt186.1 > (wrap64 ((l0.length : Int) - bt186.2))))) else (spec_Unframe.j1 kj1 l0 bt186.1 bt186.2 true))))) = some (r1, r2) := by rw [if_neg (show ¬ (false = true) by decide)] at H; exact H
        clear H
        have H := H1
        clear H1
        replace H := Option.bind_eq_some_iff.mp H
        obtain ⟨⟨t186, t187⟩, A80, H⟩ := H
        replace H : (if t187 < 0 then (spec_Unframe.j1 kj1 l0 t186 t187 true) else ((spec_l01In.f t186 0 4000).bind fun t188 => (if t188 = true then (spec_Unframe.j1 kj1 l0 t186 t187 (decide (t186 > (wrap64 ((l0.length : Int) - t187))))) else (spec_Unframe.j1 kj1 l0 t186 t187 true)))) = some (r1, r2) := H
        have A8 := Aside0.mk A80
        clear A80
        have HC9 := Aside0.mk H
        clear H
        go_upto_region 4 with (first | ((with_reducible refine gate_callee (f := 27) rfl ?_); refine goesL_ (some 26) rfl rfl Try.func27 (by kernel_rfl) rfl #[.slice A0 l0.length c0, .int .i64 2] rfl (by (try simp only [List.map_toArray, List.map_cons, List.map_nil]); first | done | rfl | (simp only [List.length_drop, List.length_take]; rfl)) ?_; (with_reducible refine (spec_TakeNum.calls kj1 _ _ l0 2 t186 t187 _ ?side1 ?side2 A8.out).mono ?_); (case side1 => repeat (first | exact (Kd.C_below HR0.out HB.out) | (with_reducible refine Kd.C_alloc ?_ _) | (with_reducible refine Kd.C_drewN ?_ _) | (with_reducible refine Kd.C_drew ?_))); (case side2 => exact HC0.out); rintro e w' ⟨rfl, ⟨nd, rfl⟩⟩; refine ⟨_, rfl, ?_⟩))
        (try simp only [Act.put, List.setIfInBounds_toArray, List.set_cons_zero, List.set_cons_succ])
        go_cut [43] (fun v43 wc => ∃ (kq : Nat) (x43_8 : Bool), v43 = .bool x43_8 ∧ Aside0 (spec_Unframe.j1 kq l0 t186 t187 x43_8 = some (r1, r2)) ∧ Aside0 (kq ≤ kj1) ∧ Aside0 (Below w.heap.size w wc))
        case first =>
          have H := HC9.out
          clear HC9
          by_cases c10 : t187 < 0
          · rw [if_pos c10] at H
            have c10b0 : decide (t187 < 0) = true := decide_eq_true c10
            clear c10
            (first | rw [c10b0] | (simp only [i64_w, i32_w]; rw [c10b0]) | skip)
            have H' := Aside0.mk H
            clear H
            go_wp2
            go_meet
            case rel => exact ⟨_, (true), (by first | rfl | (simp; done) | (simp [*]; done)), H', ⟨by have := HJ1.out; first | omega | exact Nat.le_refl _⟩, ⟨by repeat (first | (with_reducible first | exact HB.out | apply below_alloc | apply pw_below_drewN | apply below_drew1) | exact HB.out)⟩⟩
          · rw [if_neg c10] at H
            have c10b0 : decide (t187 < 0) = false := decide_eq_false c10
            clear c10
            (first | rw [c10b0] | (simp only [i64_w, i32_w]; rw [c10b0]) | skip)
            replace H := Option.bind_eq_some_iff.mp H
            obtain ⟨t188, A110, H⟩ := H
            replace H : (if t188 = true then (spec_Unframe.j1 kj1 l0 t186 t187 (decide (t186 > (wrap64 ((l0.length : Int) - t187))))) else (spec_Unframe.j1 kj1 l0 t186 t187 true)) = some (r1, r2) := H
            have A11 := Aside0.mk A110
            clear A110
            by_cases c12 : t188 = true
            · subst c12
              have H1 : (spec_Unframe.j1 kj1 l0 t186 t187 (decide (t186 > (wrap64 ((l0.length : Int) - t187))))) = some (r1, r2) := by rw [if_pos rfl] at H; exact H
              clear H
              have H := H1
              clear H1
              have H' := Aside0.mk H
              clear H
              go_wp2_with (first | (go_at_call 45; (with_reducible refine (spec_l01In.calls t186 0 4000 true _ A11.out).mono ?_); rintro e w' ⟨rfl, ⟨nd, rfl⟩⟩))
              go_meet
              case rel => exact ⟨_, (decide (t186 > (wrap64 ((l0.length : Int) - t187)))), (by first | rfl | (simp; done) | (simp [*]; done)), H', ⟨by have := HJ1.out; first | omega | exact Nat.le_refl _⟩, ⟨by repeat (first | (with_reducible first | exact HB.out | apply below_alloc | apply pw_below_drewN | apply below_drew1) | exact HB.out)⟩⟩
            · replace c12 := Bool.eq_false_iff.mpr c12
              subst c12
              have H1 : (spec_Unframe.j1 kj1 l0 t186 t187 true) = some (r1, r2) := by rw [if_neg (show ¬ (false = true) by decide)] at H; exact H
              clear H
              have H := H1
              clear H1
              have H' := Aside0.mk H
              clear H
              go_wp2_with (first | (go_at_call 45; (with_reducible refine (spec_l01In.calls t186 0 4000 false _ A11.out).mono ?_); rintro e w' ⟨rfl, ⟨nd, rfl⟩⟩))
              go_meet
              case rel => exact ⟨_, (true), (by first | rfl | (simp; done) | (simp [*]; done)), H', ⟨by have := HJ1.out; first | omega | exact Nat.le_refl _⟩, ⟨by repeat (first | (with_reducible first | exact HB.out | apply below_alloc | apply pw_below_drewN | apply below_drew1) | exact HB.out)⟩⟩
        case rest =>
          clear HC9
          try clear c1
          try clear p1
          try clear q1
          try clear hx1
          try clear qi1
          try clear c2
          try clear p2
          try clear c3
          try clear c3b0
          try clear c3b1
          try clear c4
          try clear c4b0
          try clear c4b1
          try clear c5
          try clear c5b0
          try clear c5b1
          try clear c6
          try clear c6b0
          try clear c6b1
          try clear p6
          try clear c7
          try clear c10
          try clear c10b0
          try clear c12
          try clear hx184_0
          try clear hx185_0
          try clear p1
          try clear p184
          try clear p185
          try clear p2
          try clear q1
          try clear q184
          try clear q185
          obtain ⟨kq, x43_8, rfl, HA, HJ8, HB⟩ := hcut
          cases kq with
          | zero => exact absurd HA.out (by simp [spec_Unframe.j1])
          | succ kj8 =>
            have H := HA.out
            clear HA
            simp only [spec_Unframe.j1] at H
            by_cases c13 : x43_8 = true
            · subst c13
              have H1 : (some (([] : List Int), false)) = some (r1, r2) := by rw [if_pos rfl] at H; exact H
              clear H
              have H := H1
              clear H1
              simp only [Option.some.injEq, Prod.mk.injEq] at H
              obtain ⟨rfl, rfl⟩ := H
              go_wp2
              go_ret2
              exact ⟨.slice none 0 0, by first | rfl | (simp [errW_none, errW_some] <;> rfl) | (simp [*, errW_none, errW_some] <;> rfl), by first | exact Kd.R_nil _ _ _ _ _ | exact Kd.N_nil _ _ _ _ _ | exact Kd.V_nil _ _ _ _ _ | exact Kd.Q_nil _ _ _ _ _ | exact Kd.S_nil _ _ _ _ _, by repeat (first | (with_reducible first | exact HB.out | apply below_alloc | apply pw_below_drewN | apply below_drew1) | exact HB.out)⟩
            · replace c13 := Bool.eq_false_iff.mpr c13
              subst c13
              have H1 : (if 0 ≤ t187 then (if t187 ≤ (wrap64 (t187 + t186)) then (if (wrap64 (t187 + t186)) ≤ (l0.length : Int) then ((spec_TakeNum.f kj8 l0 (wrap64 (t187 + t186))).bind fun bt190 => (if bt190.2 = (l0.length : Int) then ((spec_CheckOf.f kj8 ((l0.take ((wrap64 (t187 + t186)) : Int).toNat).drop (t187 : Int).toNat)).bind fun t192 => (if bt190.1 = t192 then ((spec_l01Bytes.f kj8 ((l0.take ((wrap64 (t187 + t186)) : Int).toNat).drop (t187 : Int).toNat)).bind fun t193 => (some (t193, true))) else (some (([] : List Int), false)))) else (some (([] : List Int), false)))) else (none)) else (none)) else (none)) = some (r1, r2) := by rw [if_neg (show ¬ (false = true) by decide)] at H; exact H
              clear H
              have H := H1
              clear H1
              by_cases c14 : 0 ≤ t187
              · rw [if_pos c14] at H
                have c14b0 := eq_true c14
                have c14b1 : decide (0 ≤ t187) = true := decide_eq_true c14
                clear c14
                by_cases c15 : t187 ≤ (wrap64 (t187 + t186))
                · rw [if_pos c15] at H
                  have c15b0 := eq_true c15
                  have c15b1 : decide (t187 ≤ (wrap64 (t187 + t186))) = true := decide_eq_true c15
                  by_cases c16 : (wrap64 (t187 + t186)) ≤ (l0.length : Int)
                  · rw [if_pos c16] at H
                    have c16b0 := eq_true c16
                    have c16b1 : decide ((wrap64 (t187 + t186)) ≤ (l0.length : Int)) = true := decide_eq_true c16
                    replace H := Option.bind_eq_some_iff.mp H
                    obtain ⟨⟨t190, t191⟩, A170, H⟩ := H
                    replace H : (if t191 = (l0.length : Int) then ((spec_CheckOf.f kj8 ((l0.take ((wrap64 (t187 + t186)) : Int).toNat).drop (t187 : Int).toNat)).bind fun t192 => (if t190 = t192 then ((spec_l01Bytes.f kj8 ((l0.take ((wrap64 (t187 + t186)) : Int).toNat).drop (t187 : Int).toNat)).bind fun t193 => (some (t193, true))) else (some (([] : List Int), false)))) else (some (([] : List Int), false))) = some (r1, r2) := H
                    have A17 := Aside0.mk A170
                    clear A170
                    by_cases c18 : t191 = (l0.length : Int)
                    · rw [if_pos c18] at H
                      have c18b0 : (t191 == (l0.length : Int)) = true := beq_iff_eq.mpr c18
                      have c18b1 : (t191 != (l0.length : Int)) = false := bne_eq_false_iff_eq.mpr c18
                      clear c18
                      replace H := Option.bind_eq_some_iff.mp H
                      obtain ⟨t192, A190, H⟩ := H
                      replace H : (if t190 = t192 then ((spec_l01Bytes.f kj8 ((l0.take ((wrap64 (t187 + t186)) : Int).toNat).drop (t187 : Int).toNat)).bind fun t193 => (some (t193, true))) else (some (([] : List Int), false))) = some (r1, r2) := H
                      have A19 := Aside0.mk A190
                      clear A190
                      by_cases c20 : t190 = t192
                      · rw [if_pos c20] at H
                        have c20b0 : (t190 == t192) = true := beq_iff_eq.mpr c20
                        have c20b1 : (t190 != t192) = false := bne_eq_false_iff_eq.mpr c20
                        clear c20
                        replace H := Option.bind_eq_some_iff.mp H
                        obtain ⟨t193, A210, H⟩ := H
                        replace H : (some (t193, true)) = some (r1, r2) := H
                        have A21 := Aside0.mk A210
                        clear A210
                        simp only [Option.some.injEq, Prod.mk.injEq] at H
                        obtain ⟨rfl, rfl⟩ := H
                        obtain ⟨i022, hi022, _, hsz22, _⟩ := info_parts info5
                        obtain ⟨A22, hcut22, hA22, hC22⟩ := print_mid_of (P := Try.prog) (Value.int .u8) 0 26 5 .i64 .i64 Try.underlying26 hi022 hsz22 A0 c0 l0 t187 (wrap64 (t187 + t186)) (of_decide_eq_true (by first | (with_reducible assumption) | assumption)) (by first | omega | exact of_decide_eq_true (by first | (with_reducible assumption) | assumption)) (of_decide_eq_true (by first | (with_reducible assumption) | assumption)) HC0.out
                        have HR189 := Aside0.mk (Kd.C_of_reads (h1 := fun _ => rfl) (hA22 _ (Kd.reads_of_C HR0.out)))
                        have HC189 := Aside0.mk hC22
                        clear hA22 hC22 hi022 hsz22
                        go_wp2_with (first | ((with_reducible refine gate_callee (f := 27) rfl ?_); refine goesL_ (some 55) rfl rfl Try.func27 (by kernel_rfl) rfl #[.slice A0 l0.length c0, .int .i64 (wrap64 (t187 + t186))] rfl (by (try simp only [List.map_toArray, List.map_cons, List.map_nil]); first | done | rfl | (simp only [List.length_drop, List.length_take]; rfl)) ?_; (with_reducible refine (spec_TakeNum.calls kj8 _ _ l0 (wrap64 (t187 + t186)) t190 t191 _ ?side1 ?side2 A17.out).mono ?_); (case side1 => repeat (first | exact (Kd.C_below HR0.out HB.out) | (with_reducible refine Kd.C_alloc ?_ _) | (with_reducible refine Kd.C_drewN ?_ _) | (with_reducible refine Kd.C_drew ?_))); (case side2 => exact HC0.out); rintro e w' ⟨rfl, ⟨nd, rfl⟩⟩; refine ⟨_, rfl, ?_⟩) | (go_at_call 19; (have hcl_ : (((wrap64 (t187 + t186)) : Int).toNat - (t187 : Int).toNat) = ((l0.take ((wrap64 (t187 + t186)) : Int).toNat).drop (t187 : Int).toNat).length := (by have h_ : ((wrap64 (t187 + t186)) : Int) ≤ (l0.length : Int) := of_decide_eq_true (by first | (with_reducible assumption) | assumption); rw [List.length_drop, List.length_take]; omega); rw [hcl_]; clear hcl_); (with_reducible refine (spec_CheckOf.calls kj8 _ _ ((l0.take ((wrap64 (t187 + t186)) : Int).toNat).drop (t187 : Int).toNat) t192 _ ?side1 ?side2 A19.out).mono ?_); (case side1 => repeat (first | exact (Kd.C_below HR189.out (by repeat (first | (with_reducible first | exact HB.out | apply below_alloc | apply pw_below_drewN | apply below_drew1) | exact HB.out))) | (with_reducible refine Kd.C_alloc ?_ _) | (with_reducible refine Kd.C_drewN ?_ _) | (with_reducible refine Kd.C_drew ?_))); (case side2 => exact HC189.out); rintro e w' ⟨rfl, ⟨nd, rfl⟩⟩) | ((with_reducible refine gate_callee (f := 51) rfl ?_); refine goesL_ (some 69) rfl rfl Try.func51 (by kernel_rfl) rfl #[.slice A22 ((l0.take ((wrap64 (t187 + t186)) : Int).toNat).drop (t187 : Int).toNat).length (c0 - t187.toNat)] rfl (by (try simp only [List.map_toArray, List.map_cons, List.map_nil]); first | done | (rw [show ((l0.take ((wrap64 (t187 + t186)) : Int).toNat).drop (t187 : Int).toNat).length = ((wrap64 (t187 + t186)).toNat - t187.toNat) from (by rw [List.length_drop, List.length_take]; have h_ : ((wrap64 (t187 + t186)) : Int) ≤ (l0.length : Int) := of_decide_eq_true (by first | (with_reducible assumption) | assumption); omega)] <;> rfl) | rfl | (simp only [List.length_drop, List.length_take]; rfl)) ?_; (with_reducible refine (spec_l01Bytes.calls kj8 _ _ ((l0.take ((wrap64 (t187 + t186)) : Int).toNat).drop (t187 : Int).toNat) t193 _ ?side1 ?side2 A21.out).mono ?_); (case side1 => repeat (first | exact (Kd.C_below HR189.out (by repeat (first | (with_reducible first | exact HB.out | apply below_alloc | apply pw_below_drewN | apply below_drew1) | exact HB.out))) | (with_reducible refine Kd.C_alloc ?_ _) | (with_reducible refine Kd.C_drewN ?_ _) | (with_reducible refine Kd.C_drew ?_))); (case side2 => exact HC189.out); rintro e w23 ⟨v194, rfl, ho0, hb⟩; refine ⟨_, rfl, ?_⟩; have n0_ := Aside0.mk (Kd.R_lower ho0 (below_size (by repeat (first | (with_reducible first | exact HB.out | apply below_alloc | apply pw_below_drewN | apply below_drew1) | exact HB.out)))); have n1_ := Aside0.mk (below_step (by repeat (first | (with_reducible first | exact HB.out | apply below_alloc | apply pw_below_drewN | apply below_drew1) | exact HB.out)) hb); clear HB; have HO195 := n0_; have HB := n1_; clear n0_ n1_; (try clear hb); (try clear hb2); (try clear hk); (try clear hi); (try clear ho0)))
                        go_ret2
                        exact ⟨_, by first | rfl | (simp [errW_none, errW_some] <;> rfl) | (simp [*, errW_none, errW_some] <;> rfl), by (with_reducible repeat (first | apply Kd.R_alloc | apply Kd.R_drewN | apply Kd.R_drew)); exact HO195.out, by repeat (first | (with_reducible first | exact HB.out | apply below_alloc | apply pw_below_drewN | apply below_drew1) | exact HB.out)⟩
                      · rw [if_neg c20] at H
                        have c20b0 : (t190 == t192) = false := beq_eq_false_iff_ne.mpr c20
                        have c20b1 : (t190 != t192) = true := bne_iff_ne.mpr c20
                        simp only [Option.some.injEq, Prod.mk.injEq] at H
                        obtain ⟨rfl, rfl⟩ := H
                        obtain ⟨i024, hi024, _, hsz24, _⟩ := info_parts info5
                        obtain ⟨A24, hcut24, hA24, hC24⟩ := print_mid_of (P := Try.prog) (Value.int .u8) 0 26 5 .i64 .i64 Try.underlying26 hi024 hsz24 A0 c0 l0 t187 (wrap64 (t187 + t186)) (of_decide_eq_true (by first | (with_reducible assumption) | assumption)) (by first | omega | exact of_decide_eq_true (by first | (with_reducible assumption) | assumption)) (of_decide_eq_true (by first | (with_reducible assumption) | assumption)) HC0.out
                        have HR189 := Aside0.mk (Kd.C_of_reads (h1 := fun _ => rfl) (hA24 _ (Kd.reads_of_C HR0.out)))
                        have HC189 := Aside0.mk hC24
                        clear hA24 hC24 hi024 hsz24
                        go_wp2_with (first | ((with_reducible refine gate_callee (f := 27) rfl ?_); refine goesL_ (some 55) rfl rfl Try.func27 (by kernel_rfl) rfl #[.slice A0 l0.length c0, .int .i64 (wrap64 (t187 + t186))] rfl (by (try simp only [List.map_toArray, List.map_cons, List.map_nil]); first | done | rfl | (simp only [List.length_drop, List.length_take]; rfl)) ?_; (with_reducible refine (spec_TakeNum.calls kj8 _ _ l0 (wrap64 (t187 + t186)) t190 t191 _ ?side1 ?side2 A17.out).mono ?_); (case side1 => repeat (first | exact (Kd.C_below HR0.out HB.out) | (with_reducible refine Kd.C_alloc ?_ _) | (with_reducible refine Kd.C_drewN ?_ _) | (with_reducible refine Kd.C_drew ?_))); (case side2 => exact HC0.out); rintro e w' ⟨rfl, ⟨nd, rfl⟩⟩; refine ⟨_, rfl, ?_⟩) | (go_at_call 19; (have hcl_ : (((wrap64 (t187 + t186)) : Int).toNat - (t187 : Int).toNat) = ((l0.take ((wrap64 (t187 + t186)) : Int).toNat).drop (t187 : Int).toNat).length := (by have h_ : ((wrap64 (t187 + t186)) : Int) ≤ (l0.length : Int) := of_decide_eq_true (by first | (with_reducible assumption) | assumption); rw [List.length_drop, List.length_take]; omega); rw [hcl_]; clear hcl_); (with_reducible refine (spec_CheckOf.calls kj8 _ _ ((l0.take ((wrap64 (t187 + t186)) : Int).toNat).drop (t187 : Int).toNat) t192 _ ?side1 ?side2 A19.out).mono ?_); (case side1 => repeat (first | exact (Kd.C_below HR189.out (by repeat (first | (with_reducible first | exact HB.out | apply below_alloc | apply pw_below_drewN | apply below_drew1) | exact HB.out))) | (with_reducible refine Kd.C_alloc ?_ _) | (with_reducible refine Kd.C_drewN ?_ _) | (with_reducible refine Kd.C_drew ?_))); (case side2 => exact HC189.out); rintro e w' ⟨rfl, ⟨nd, rfl⟩⟩))
                        go_ret2
                        exact ⟨.slice none 0 0, by first | rfl | (simp [errW_none, errW_some] <;> rfl) | (simp [*, errW_none, errW_some] <;> rfl), by first | exact Kd.R_nil _ _ _ _ _ | exact Kd.N_nil _ _ _ _ _ | exact Kd.V_nil _ _ _ _ _ | exact Kd.Q_nil _ _ _ _ _ | exact Kd.S_nil _ _ _ _ _, by repeat (first | (with_reducible first | exact HB.out | apply below_alloc | apply pw_below_drewN | apply below_drew1) | exact HB.out)⟩
                    · rw [if_neg c18] at H
                      have c18b0 : (t191 == (l0.length : Int)) = false := beq_eq_false_iff_ne.mpr c18
                      have c18b1 : (t191 != (l0.length : Int)) = true := bne_iff_ne.mpr c18
                      simp only [Option.some.injEq, Prod.mk.injEq] at H
                      obtain ⟨rfl, rfl⟩ := H
                      obtain ⟨i025, hi025, _, hsz25, _⟩ := info_parts info5
                      obtain ⟨A25, hcut25, hA25, hC25⟩ := print_mid_of (P := Try.prog) (Value.int .u8) 0 26 5 .i64 .i64 Try.underlying26 hi025 hsz25 A0 c0 l0 t187 (wrap64 (t187 + t186)) (of_decide_eq_true (by first | (with_reducible assumption) | assumption)) (by first | omega | exact of_decide_eq_true (by first | (with_reducible assumption) | assumption)) (of_decide_eq_true (by first | (with_reducible assumption) | assumption)) HC0.out
                      have HR189 := Aside0.mk (Kd.C_of_reads (h1 := fun _ => rfl) (hA25 _ (Kd.reads_of_C HR0.out)))
                      have HC189 := Aside0.mk hC25
                      clear hA25 hC25 hi025 hsz25
                      go_wp2_with (first | ((with_reducible refine gate_callee (f := 27) rfl ?_); refine goesL_ (some 55) rfl rfl Try.func27 (by kernel_rfl) rfl #[.slice A0 l0.length c0, .int .i64 (wrap64 (t187 + t186))] rfl (by (try simp only [List.map_toArray, List.map_cons, List.map_nil]); first | done | rfl | (simp only [List.length_drop, List.length_take]; rfl)) ?_; (with_reducible refine (spec_TakeNum.calls kj8 _ _ l0 (wrap64 (t187 + t186)) t190 t191 _ ?side1 ?side2 A17.out).mono ?_); (case side1 => repeat (first | exact (Kd.C_below HR0.out HB.out) | (with_reducible refine Kd.C_alloc ?_ _) | (with_reducible refine Kd.C_drewN ?_ _) | (with_reducible refine Kd.C_drew ?_))); (case side2 => exact HC0.out); rintro e w' ⟨rfl, ⟨nd, rfl⟩⟩; refine ⟨_, rfl, ?_⟩))
                      go_ret2
                      exact ⟨.slice none 0 0, by first | rfl | (simp [errW_none, errW_some] <;> rfl) | (simp [*, errW_none, errW_some] <;> rfl), by first | exact Kd.R_nil _ _ _ _ _ | exact Kd.N_nil _ _ _ _ _ | exact Kd.V_nil _ _ _ _ _ | exact Kd.Q_nil _ _ _ _ _ | exact Kd.S_nil _ _ _ _ _, by repeat (first | (with_reducible first | exact HB.out | apply below_alloc | apply pw_below_drewN | apply below_drew1) | exact HB.out)⟩
                  · rw [if_neg c16] at H
                    exact absurd H (by simp)
                · rw [if_neg c15] at H
                  exact absurd H (by simp)
              · rw [if_neg c14] at H
                exact absurd H (by simp)

/-! ### impl_TakeNum: function 28 -/
mutual
def impl_TakeNum.l0 : Nat → List Int → Int → Int → Int → Int → Option (Int × Int)
  | 0, _, _, _, _, _ => none
  | k + 1, x0, x1, x6, x7, x8 => if x8 < (x0.length : Int) then (impl_TakeNum.j1 k x0 x1 x6 x7 x8 (decide (x8 < (wrap64 (x1 + 3))))) else (impl_TakeNum.j1 k x0 x1 x6 x7 x8 false)
def impl_TakeNum.j1 : Nat → List Int → Int → Int → Int → Int → Bool → Option (Int × Int)
  | 0, _, _, _, _, _, _ => none
  | k + 1, x0, x1, x6, x7, x8, x22 => if x22 = true then (if 0 ≤ x8 then (if x8 < (x0.length : Int) then (if (rd x0 x8) ≥ 128 then (impl_TakeNum.l0 k x0 x1 (wrap64 (x6 + (wrap64 ((wrap64 (Int.tmod (rd x0 x8) 128)) * x7)))) (wrap64 (x7 * 128)) (wrap64 (x8 + 1))) else (if (Int.tmod (wrap64 (x6 + (wrap64 ((wrap64 (Int.tmod (rd x0 x8) 128)) * x7)))) 2) = 1 then ((impl_isNum.f (wrap64 (Int.tdiv (wrap64 (-(wrap64 ((wrap64 (x6 + (wrap64 ((wrap64 (Int.tmod (rd x0 x8) 128)) * x7)))) + 1)))) 2))).bind fun t198 => (if t198 = true then (if (rd x0 x8) = 0 then (if x8 > x1 then (some (0, (-1))) else (some (wrap64 (Int.tdiv (wrap64 (-(wrap64 ((wrap64 (x6 + (wrap64 ((wrap64 (Int.tmod (rd x0 x8) 128)) * x7)))) + 1)))) 2), wrap64 (x8 + 1)))) else (some (wrap64 (Int.tdiv (wrap64 (-(wrap64 ((wrap64 (x6 + (wrap64 ((wrap64 (Int.tmod (rd x0 x8) 128)) * x7)))) + 1)))) 2), wrap64 (x8 + 1)))) else (some (0, (-1))))) else ((impl_isNum.f (wrap64 (Int.tdiv (wrap64 (x6 + (wrap64 ((wrap64 (Int.tmod (rd x0 x8) 128)) * x7)))) 2))).bind fun t200 => (if t200 = true then (if (rd x0 x8) = 0 then (if x8 > x1 then (some (0, (-1))) else (some (wrap64 (Int.tdiv (wrap64 (x6 + (wrap64 ((wrap64 (Int.tmod (rd x0 x8) 128)) * x7)))) 2), wrap64 (x8 + 1)))) else (some (wrap64 (Int.tdiv (wrap64 (x6 + (wrap64 ((wrap64 (Int.tmod (rd x0 x8) 128)) * x7)))) 2), wrap64 (x8 + 1)))) else (some (0, (-1))))))) else (none)) else (none)) else (some (0, (-1)))
end
def impl_TakeNum.f (k : Nat) (l0 : List Int) (a1 : Int) : Option (Int × Int) := if a1 < 0 then (some (0, (-1))) else (impl_TakeNum.l0 k l0 a1 0 1 a1)
theorem impl_TakeNum.mono_l : ∀ k, (∀ y0 y1 y2 y3 y4, LeO (impl_TakeNum.l0 k y0 y1 y2 y3 y4) (impl_TakeNum.l0 (k + 1) y0 y1 y2 y3 y4)) ∧ (∀ y0 y1 y2 y3 y4 y5, LeO (impl_TakeNum.j1 k y0 y1 y2 y3 y4 y5) (impl_TakeNum.j1 (k + 1) y0 y1 y2 y3 y4 y5))
  | 0 => ⟨fun _ _ _ _ _ r h => by simp [impl_TakeNum.l0] at h, fun _ _ _ _ _ _ r h => by simp [impl_TakeNum.j1] at h⟩
  | k + 1 => by
    obtain ⟨ih0, ih1⟩ := impl_TakeNum.mono_l k
    refine ⟨?_, ?_⟩
    · intro y0 y1 y2 y3 y4
      unfold impl_TakeNum.l0
      repeat' first
      | (with_reducible exact ih0 _ _ _ _ _)
      | (with_reducible exact ih1 _ _ _ _ _ _)
      | (with_reducible exact LeO.refl _)
      | (with_reducible exact LeO.none _)
      | (with_reducible refine LeO.ite ?_ ?_)
      | (with_reducible refine LeO.bind ?_ (fun _ => ?_))
      | exact ih0 _ _ _ _ _
      | exact ih1 _ _ _ _ _ _
      | exact LeO.none _
      | refine LeO.ite ?_ ?_
      | refine LeO.bind ?_ (fun _ => ?_)
    · intro y0 y1 y2 y3 y4 y5
      unfold impl_TakeNum.j1
      repeat' first
      | (with_reducible exact ih0 _ _ _ _ _)
      | (with_reducible exact ih1 _ _ _ _ _ _)
      | (with_reducible exact LeO.refl _)
      | (with_reducible exact LeO.none _)
      | (with_reducible refine LeO.ite ?_ ?_)
      | (with_reducible refine LeO.bind ?_ (fun _ => ?_))
      | exact ih0 _ _ _ _ _
      | exact ih1 _ _ _ _ _ _
      | exact LeO.none _
      | refine LeO.ite ?_ ?_
      | refine LeO.bind ?_ (fun _ => ?_)
theorem impl_TakeNum.mono : ∀ a0 a1 k, LeO (impl_TakeNum.f k a0 a1) (impl_TakeNum.f (k + 1) a0 a1) := by
  intro a0 a1 k
  obtain ⟨ih0, ih1⟩ := impl_TakeNum.mono_l k
  unfold impl_TakeNum.f
  repeat' first
      | (with_reducible exact ih0 _ _ _ _ _)
      | (with_reducible exact ih1 _ _ _ _ _ _)
      | (with_reducible exact LeO.refl _)
      | (with_reducible exact LeO.none _)
      | (with_reducible refine LeO.ite ?_ ?_)
      | (with_reducible refine LeO.bind ?_ (fun _ => ?_))
      | exact ih0 _ _ _ _ _
      | exact ih1 _ _ _ _ _ _
      | exact LeO.none _
      | refine LeO.ite ?_ ?_
      | refine LeO.bind ?_ (fun _ => ?_)
set_option maxHeartbeats 8000000 in
set_option maxRecDepth 100000 in
theorem impl_TakeNum.calls (k : Nat) (A0 : Option Addr) (c0 : Nat) (l0 : List Int) (a1 : Int) (r1 : Int) (r2 : Int) (w : World) (hr0 : Kd.C (Kd.int .u8) w A0 l0.length l0) (hc0 : l0.length ≤ c0) (h : impl_TakeNum.f k l0 a1 = some (r1, r2)) :
    Calls Try.prog 28 #[.slice A0 l0.length c0, .int .i64 a1] w fun e w' => e = .returned (.tuple #[.int .i64 r1, .int .i64 r2]) ∧ Drawn0 w w' := by
  have HR0 := Aside0.mk hr0
  have HC0 := Aside0.mk hc0
  clear hr0 hc0
  have H : (if a1 < 0 then (some (0, (-1))) else (impl_TakeNum.l0 k l0 a1 0 1 a1)) = some (r1, r2) := h
  clear h
  by_cases c3 : a1 < 0
  · rw [if_pos c3] at H
    have c3b0 : decide (a1 < 0) = true := decide_eq_true c3
    clear c3
    simp only [Option.some.injEq, Prod.mk.injEq] at H
    obtain ⟨rfl, rfl⟩ := H
    go_enter Try.func28, Try.ntmps28
    go_wp2
    go_ret2
    exact ⟨by first | rfl | (simp; done) | (simp [*]; done), by repeat (first | exact Drawn0.refl _ | apply Drawn0.step)⟩
  · rw [if_neg c3] at H
    have c3b0 : decide (a1 < 0) = false := decide_eq_false c3
    clear c3
    have H' := Aside0.mk H
    clear H
    go_enter Try.func28, Try.ntmps28
    go_wp2
    go_loopg [6, 7, 8] k (fun kq v6 v7 v8 w' => ∃ (x6_1 : Int) (x7_1 : Int) (x8_1 : Int), v6 = .int .i64 x6_1 ∧ v7 = .int .i64 x7_1 ∧ v8 = .int .i64 x8_1 ∧ Aside0 (impl_TakeNum.l0 kq l0 a1 x6_1 x7_1 x8_1 = some (r1, r2)) ∧ Aside0 (kq ≤ k) ∧ Drawn0 w w')
    case atStart => exact ⟨(0), (1), (a1), (by first | rfl | (simp; done) | (simp [*]; done)), (by first | rfl | (simp; done) | (simp [*]; done)), (by first | rfl | (simp; done) | (simp [*]; done)), H', ⟨Nat.le_refl _⟩, by repeat (first | exact Drawn0.refl _ | apply Drawn0.step)⟩
    case round =>
      clear H'
      try clear c2
      try clear p2
      try clear c3
      try clear c3b0
      obtain ⟨x6_1, x7_1, x8_1, rfl, rfl, rfl, HA, HK1, ⟨m1, rfl⟩⟩ := hrel
      cases gk with
      | zero => exact absurd HA.out (by simp [impl_TakeNum.l0])
      | succ k1 =>
        have H := HA.out
        clear HA
        simp only [impl_TakeNum.l0] at H
        have HC4 := Aside0.mk H
        clear H
        go_upto_region 5 with (fail)
        go_cut [22] (fun v22 wc => ∃ (kq : Nat) (x22_3 : Bool), v22 = .bool x22_3 ∧ Aside0 (impl_TakeNum.j1 kq l0 a1 x6_1 x7_1 x8_1 x22_3 = some (r1, r2)) ∧ Aside0 (kq ≤ k1) ∧ Drawn0 w wc)
        case first =>
          have H := HC4.out
          clear HC4
          by_cases c5 : x8_1 < (l0.length : Int)
          · rw [if_pos c5] at H
            have c5b0 : decide (x8_1 < (l0.length : Int)) = true := decide_eq_true c5
            clear c5
            (first | rw [c5b0] | (simp only [i64_w, i32_w]; rw [c5b0]) | skip)
            have H' := Aside0.mk H
            clear H
            go_wp2
            go_meet
            case rel => exact ⟨_, (decide (x8_1 < (wrap64 (a1 + 3)))), (by first | rfl | (simp; done) | (simp [*]; done)), H', ⟨by have := HK1.out; first | omega | exact Nat.le_refl _⟩, by repeat (first | exact Drawn0.refl _ | apply Drawn0.step)⟩
          · rw [if_neg c5] at H
            have c5b0 : decide (x8_1 < (l0.length : Int)) = false := decide_eq_false c5
            clear c5
            (first | rw [c5b0] | (simp only [i64_w, i32_w]; rw [c5b0]) | skip)
            have H' := Aside0.mk H
            clear H
            go_wp2
            go_meet
            case rel => exact ⟨_, (false), (by first | rfl | (simp; done) | (simp [*]; done)), H', ⟨by have := HK1.out; first | omega | exact Nat.le_refl _⟩, by repeat (first | exact Drawn0.refl _ | apply Drawn0.step)⟩
        case rest =>
          clear HC4
          try clear c2
          try clear p2
          try clear c3
          try clear c3b0
          try clear c5
          try clear c5b0
          try clear p2
          obtain ⟨kq, x22_3, rfl, HA, HJ3, ⟨mc3, rfl⟩⟩ := hcut
          cases kq with
          | zero => exact absurd HA.out (by simp [impl_TakeNum.j1])
          | succ kj3 =>
            have H := HA.out
            clear HA
            simp only [impl_TakeNum.j1] at H
            by_cases c6 : x22_3 = true
            · subst c6
              have H1 : (if 0 ≤ x8_1 then (if x8_1 < (l0.length : Int) then (if (rd l0 x8_1) ≥ 128 then (impl_TakeNum.l0 kj3 l0 a1 (wrap64 (x6_1 + (wrap64 ((wrap64 (Int.tmod (rd l0 x8_1) 128)) * x7_1)))) (wrap64 (x7_1 * 128)) (wrap64 (x8_1 + 1))) else (if (Int.tmod (wrap64 (x6_1 + (wrap64 ((wrap64 (Int.tmod (rd l0 x8_1) 128)) * x7_1)))) 2) = 1 then ((impl_isNum.f (wrap64 (Int.tdiv (wrap64 (-(wrap64 ((wrap64 (x6_1 + (wrap64 ((wrap64 (Int.tmod (rd l0 x8_1) 128)) * x7_1)))) + 1)))) 2))).bind fun t198 => (if t198 = true then (if (rd l0 x8_1) = 0 then (if x8_1 > a1 then (some (0, (-1))) else (some (wrap64 (Int.tdiv (wrap64 (-(wrap64 ((wrap64 (x6_1 + (wrap64 ((wrap64 (Int.tmod (rd l0 x8_1) 128)) * x7_1)))) + 1)))) 2), wrap64 (x8_1 + 1)))) else (some (wrap64 (Int.tdiv (wrap64 (-(wrap64 ((wrap64 (x6_1 + (wrap64 ((wrap64 (Int.tmod (rd l0 x8_1) 128)) * x7_1)))) + 1)))) 2), wrap64 (x8_1 + 1)))) else (some (0, (-1))))) else ((impl_isNum.f (wrap64 (Int.tdiv (wrap64 (x6_1 + (wrap64 ((wrap64 (Int.tmod (rd l0 x8_1) 128)) * x7_1)))) 2))).bind fun t200 => (if t200 = true then (if (rd l0 x8_1) = 0 then (if x8_1 > a1 then (some (0, (-1))) else (some (wrap64 (Int.tdiv (wrap64 (x6_1 + (wrap64 ((wrap64 (Int.tmod (rd l0 x8_1) 128)) * x7_1)))) 2), wrap64 (x8_1 + 1)))) else (some (wrap64 (Int.tdiv (wrap64 (x6_1 + (wrap64 ((wrap64 (Int.tmod (rd l0 x8_1) 128)) * x7_1)))) 2), wrap64 (x8_1 + 1)))) else (some (0, (-1))))))) else (none)) else (none)) = some (r1, r2) := by rw [if_pos rfl] at H; exact H
              clear H
              have H := H1
              clear H1
              by_cases c7 : 0 ≤ x8_1
              · rw [if_pos c7] at H
                have c7b0 : decide (0 ≤ x8_1) = true := decide_eq_true c7
                clear c7
                by_cases c8 : x8_1 < (l0.length : Int)
                · rw [if_pos c8] at H
                  have c8b0 : decide (x8_1 < (l0.length : Int)) = true := decide_eq_true c8
                  clear c8
                  by_cases c9 : (rd l0 x8_1) ≥ 128
                  · rw [if_pos c9] at H
                    have c9b0 : decide (128 ≤ (rd l0 x8_1)) = true := decide_eq_true c9
                    clear c9
                    have H' := Aside0.mk H
                    clear H
                    have p196 : 0 ≤ (x8_1 : Int) := of_decide_eq_true (by first | (with_reducible assumption) | assumption)
                    have q196 : x8_1 < (l0.length : Int) := of_decide_eq_true (by first | (with_reducible assumption) | assumption)
                    obtain ⟨ad196, e196, hx196_0⟩ := Kd.at_int HR0.out x8_1 p196 q196
                    cases e196
                    replace p196 := eq_true p196
                    replace q196 := eq_true q196
                    have p197 : 0 ≤ (x8_1 : Int) := of_decide_eq_true (by first | (with_reducible assumption) | assumption)
                    have q197 : x8_1 < (l0.length : Int) := of_decide_eq_true (by first | (with_reducible assumption) | assumption)
                    obtain ⟨ad197, e197, hx197_0⟩ := Kd.at_int HR0.out x8_1 p197 q197
                    obtain rfl : ad196 = ad197 := (by injection e197)
                    replace p197 := eq_true p197
                    replace q197 := eq_true q197
                    go_wp2
                    go_roundg kj3
                    case measure => have := HK1.out; have := HJ3.out; omega
                    case rel => exact ⟨(wrap64 (x6_1 + (wrap64 ((wrap64 (Int.tmod (rd l0 x8_1) 128)) * x7_1)))), (wrap64 (x7_1 * 128)), (wrap64 (x8_1 + 1)), (by first | rfl | (simp; done) | (simp [*]; done)), (by first | rfl | (simp; done) | (simp [*]; done)), (by first | rfl | (simp; done) | (simp [*]; done)), H', ⟨by have := HK1.out; have := HJ3.out; omega⟩, by repeat (first | exact Drawn0.refl _ | apply Drawn0.step)⟩
                  · rw [if_neg c9] at H
                    have c9b0 : decide (128 ≤ (rd l0 x8_1)) = false := decide_eq_false c9
                    clear c9
                    by_cases c10 : (Int.tmod (wrap64 (x6_1 + (wrap64 ((wrap64 (Int.tmod (rd l0 x8_1) 128)) * x7_1)))) 2) = 1
                    · rw [if_pos c10] at H
                      have c10b0 : ((Int.tmod (wrap64 (x6_1 + (wrap64 ((wrap64 (Int.tmod (rd l0 x8_1) 128)) * x7_1)))) 2) == 1) = true := beq_iff_eq.mpr c10
                      have c10b1 : ((Int.tmod (wrap64 (x6_1 + (wrap64 ((wrap64 (Int.tmod (rd l0 x8_1) 128)) * x7_1)))) 2) != 1) = false := bne_eq_false_iff_eq.mpr c10
                      clear c10
                      replace H := Option.bind_eq_some_iff.mp H
                      obtain ⟨t198, A110, H⟩ := H
                      replace H : (if t198 = true then (if (rd l0 x8_1) = 0 then (if x8_1 > a1 then (some (0, (-1))) else (some (wrap64 (Int.tdiv (wrap64 (-(wrap64 ((wrap64 (x6_1 + (wrap64 ((wrap64 (Int.tmod (rd l0 x8_1) 128)) * x7_1)))) + 1)))) 2), wrap64 (x8_1 + 1)))) else (some (wrap64 (Int.tdiv (wrap64 (-(wrap64 ((wrap64 (x6_1 + (wrap64 ((wrap64 (Int.tmod (rd l0 x8_1) 128)) * x7_1)))) + 1)))) 2), wrap64 (x8_1 + 1)))) else (some (0, (-1)))) = some (r1, r2) := H
                      have A11 := Aside0.mk A110
                      clear A110
                      by_cases c12 : t198 = true
                      · subst c12
                        have H1 : (if (rd l0 x8_1) = 0 then (if x8_1 > a1 then (some (0, (-1))) else (some (wrap64 (Int.tdiv (wrap64 (-(wrap64 ((wrap64 (x6_1 + (wrap64 ((wrap64 (Int.tmod (rd l0 x8_1) 128)) * x7_1)))) + 1)))) 2), wrap64 (x8_1 + 1)))) else (some (wrap64 (Int.tdiv (wrap64 (-(wrap64 ((wrap64 (x6_1 + (wrap64 ((wrap64 (Int.tmod (rd l0 x8_1) 128)) * x7_1)))) + 1)))) 2), wrap64 (x8_1 + 1)))) = some (r1, r2) := by rw [if_pos rfl] at H; exact H
                        clear H
                        have H := H1
                        clear H1
                        by_cases c13 : (rd l0 x8_1) = 0
                        · rw [if_pos c13] at H
                          have c13b0 : ((rd l0 x8_1) == 0) = true := beq_iff_eq.mpr c13
                          have c13b1 : ((rd l0 x8_1) != 0) = false := bne_eq_false_iff_eq.mpr c13
                          clear c13
                          by_cases c14 : x8_1 > a1
                          · rw [if_pos c14] at H
                            have c14b0 : decide (a1 < x8_1) = true := decide_eq_true c14
                            clear c14
                            simp only [Option.some.injEq, Prod.mk.injEq] at H
                            obtain ⟨rfl, rfl⟩ := H
                            have p196 : 0 ≤ (x8_1 : Int) := of_decide_eq_true (by first | (with_reducible assumption) | assumption)
                            have q196 : x8_1 < (l0.length : Int) := of_decide_eq_true (by first | (with_reducible assumption) | assumption)
                            obtain ⟨ad196, e196, hx196_0⟩ := Kd.at_int HR0.out x8_1 p196 q196
                            cases e196
                            replace p196 := eq_true p196
                            replace q196 := eq_true q196
                            have p197 : 0 ≤ (x8_1 : Int) := of_decide_eq_true (by first | (with_reducible assumption) | assumption)
                            have q197 : x8_1 < (l0.length : Int) := of_decide_eq_true (by first | (with_reducible assumption) | assumption)
                            obtain ⟨ad197, e197, hx197_0⟩ := Kd.at_int HR0.out x8_1 p197 q197
                            obtain rfl : ad196 = ad197 := (by injection e197)
                            replace p197 := eq_true p197
                            replace q197 := eq_true q197
                            go_wp2_with (first | ((with_reducible refine gate_callee (f := 48) rfl ?_); refine goesL_ (some 52) rfl rfl Try.func48 (by kernel_rfl) rfl #[.int .i64 (wrap64 (Int.tdiv (wrap64 (-(wrap64 ((wrap64 (x6_1 + (wrap64 ((wrap64 (Int.tmod (rd l0 x8_1) 128)) * x7_1)))) + 1)))) 2))] rfl (by (try simp only [List.map_toArray, List.map_cons, List.map_nil]); first | done | rfl | (simp only [List.length_drop, List.length_take]; rfl)) ?_; (with_reducible refine (impl_isNum.calls (wrap64 (Int.tdiv (wrap64 (-(wrap64 ((wrap64 (x6_1 + (wrap64 ((wrap64 (Int.tmod (rd l0 x8_1) 128)) * x7_1)))) + 1)))) 2)) true _ A11.out).mono ?_); rintro e w' ⟨rfl, ⟨nd, rfl⟩⟩; refine ⟨_, rfl, ?_⟩; have p199 : 0 ≤ (x8_1 : Int) := of_decide_eq_true (by first | (with_reducible assumption) | assumption); have q199 : x8_1 < (l0.length : Int) := of_decide_eq_true (by first | (with_reducible assumption) | assumption); obtain ⟨ad199, e199, hx199_0⟩ := Kd.at_int HR0.out x8_1 p199 q199; obtain rfl : ad196 = ad199 := (by injection e199); replace p199 := eq_true p199; replace q199 := eq_true q199))
                            go_ret2
                            exact ⟨by first | rfl | (simp; done) | (simp [*]; done), by repeat (first | exact Drawn0.refl _ | apply Drawn0.step)⟩
                          · rw [if_neg c14] at H
                            have c14b0 : decide (a1 < x8_1) = false := decide_eq_false c14
                            clear c14
                            simp only [Option.some.injEq, Prod.mk.injEq] at H
                            obtain ⟨rfl, rfl⟩ := H
                            have p196 : 0 ≤ (x8_1 : Int) := of_decide_eq_true (by first | (with_reducible assumption) | assumption)
                            have q196 : x8_1 < (l0.length : Int) := of_decide_eq_true (by first | (with_reducible assumption) | assumption)
                            obtain ⟨ad196, e196, hx196_0⟩ := Kd.at_int HR0.out x8_1 p196 q196
                            cases e196
                            replace p196 := eq_true p196
                            replace q196 := eq_true q196
                            have p197 : 0 ≤ (x8_1 : Int) := of_decide_eq_true (by first | (with_reducible assumption) | assumption)
                            have q197 : x8_1 < (l0.length : Int) := of_decide_eq_true (by first | (with_reducible assumption) | assumption)
                            obtain ⟨ad197, e197, hx197_0⟩ := Kd.at_int HR0.out x8_1 p197 q197
                            obtain rfl : ad196 = ad197 := (by injection e197)
                            replace p197 := eq_true p197
                            replace q197 := eq_true q197
                            go_wp2_with (first | ((with_reducible refine gate_callee (f := 48) rfl ?_); refine goesL_ (some 52) rfl rfl Try.func48 (by kernel_rfl) rfl #[.int .i64 (wrap64 (Int.tdiv (wrap64 (-(wrap64 ((wrap64 (x6_1 + (wrap64 ((wrap64 (Int.tmod (rd l0 x8_1) 128)) * x7_1)))) + 1)))) 2))] rfl (by (try simp only [List.map_toArray, List.map_cons, List.map_nil]); first | done | rfl | (simp only [List.length_drop, List.length_take]; rfl)) ?_; (with_reducible refine (impl_isNum.calls (wrap64 (Int.tdiv (wrap64 (-(wrap64 ((wrap64 (x6_1 + (wrap64 ((wrap64 (Int.tmod (rd l0 x8_1) 128)) * x7_1)))) + 1)))) 2)) true _ A11.out).mono ?_); rintro e w' ⟨rfl, ⟨nd, rfl⟩⟩; refine ⟨_, rfl, ?_⟩; have p199 : 0 ≤ (x8_1 : Int) := of_decide_eq_true (by first | (with_reducible assumption) | assumption); have q199 : x8_1 < (l0.length : Int) := of_decide_eq_true (by first | (with_reducible assumption) | assumption); obtain ⟨ad199, e199, hx199_0⟩ := Kd.at_int HR0.out x8_1 p199 q199; obtain rfl : ad196 = ad199 := (by injection e199); replace p199 := eq_true p199; replace q199 := eq_true q199))
                            go_ret2
                            exact ⟨by first | rfl | (simp; done) | (simp [*]; done), by repeat (first | exact Drawn0.refl _ | apply Drawn0.step)⟩
                        · rw [if_neg c13] at H
                          have c13b0 : ((rd l0 x8_1) == 0) = false := beq_eq_false_iff_ne.mpr c13
                          have c13b1 : ((rd l0 x8_1) != 0) = true := bne_iff_ne.mpr c13
                          simp only [Option.some.injEq, Prod.mk.injEq] at H
                          obtain ⟨rfl, rfl⟩ := H
                          have p196 : 0 ≤ (x8_1 : Int) := of_decide_eq_true (by first | (with_reducible assumption) | assumption)
                          have q196 : x8_1 < (l0.length : Int) := of_decide_eq_true (by first | (with_reducible assumption) | assumption)
                          obtain ⟨ad196, e196, hx196_0⟩ := Kd.at_int HR0.out x8_1 p196 q196
                          cases e196
                          replace p196 := eq_true p196
                          replace q196 := eq_true q196
                          have p197 : 0 ≤ (x8_1 : Int) := of_decide_eq_true (by first | (with_reducible assumption) | assumption)
                          have q197 : x8_1 < (l0.length : Int) := of_decide_eq_true (by first | (with_reducible assumption) | assumption)
                          obtain ⟨ad197, e197, hx197_0⟩ := Kd.at_int HR0.out x8_1 p197 q197
                          obtain rfl : ad196 = ad197 := (by injection e197)
                          replace p197 := eq_true p197
                          replace q197 := eq_true q197
                          go_wp2_with (first | ((with_reducible refine gate_callee (f := 48) rfl ?_); refine goesL_ (some 52) rfl rfl Try.func48 (by kernel_rfl) rfl #[.int .i64 (wrap64 (Int.tdiv (wrap64 (-(wrap64 ((wrap64 (x6_1 + (wrap64 ((wrap64 (Int.tmod (rd l0 x8_1) 128)) * x7_1)))) + 1)))) 2))] rfl (by (try simp only [List.map_toArray, List.map_cons, List.map_nil]); first | done | rfl | (simp only [List.length_drop, List.length_take]; rfl)) ?_; (with_reducible refine (impl_isNum.calls (wrap64 (Int.tdiv (wrap64 (-(wrap64 ((wrap64 (x6_1 + (wrap64 ((wrap64 (Int.tmod (rd l0 x8_1) 128)) * x7_1)))) + 1)))) 2)) true _ A11.out).mono ?_); rintro e w' ⟨rfl, ⟨nd, rfl⟩⟩; refine ⟨_, rfl, ?_⟩; have p199 : 0 ≤ (x8_1 : Int) := of_decide_eq_true (by first | (with_reducible assumption) | assumption); have q199 : x8_1 < (l0.length : Int) := of_decide_eq_true (by first | (with_reducible assumption) | assumption); obtain ⟨ad199, e199, hx199_0⟩ := Kd.at_int HR0.out x8_1 p199 q199; obtain rfl : ad196 = ad199 := (by injection e199); replace p199 := eq_true p199; replace q199 := eq_true q199))
                          go_ret2
                          exact ⟨by first | rfl | (simp; done) | (simp [*]; done), by repeat (first | exact Drawn0.refl _ | apply Drawn0.step)⟩
                      · replace c12 := Bool.eq_false_iff.mpr c12
                        subst c12
                        have H1 : (some (0, (-1))) = some (r1, r2) := by rw [if_neg (show ¬ (false = true) by decide)] at H; exact H
                        clear H
                        have H := H1
                        clear H1
                        simp only [Option.some.injEq, Prod.mk.injEq] at H
                        obtain ⟨rfl, rfl⟩ := H
                        have p196 : 0 ≤ (x8_1 : Int) := of_decide_eq_true (by first | (with_reducible assumption) | assumption)
                        have q196 : x8_1 < (l0.length : Int) := of_decide_eq_true (by first | (with_reducible assumption) | assumption)
                        obtain ⟨ad196, e196, hx196_0⟩ := Kd.at_int HR0.out x8_1 p196 q196
                        cases e196
                        replace p196 := eq_true p196
                        replace q196 := eq_true q196
                        have p197 : 0 ≤ (x8_1 : Int) := of_decide_eq_true (by first | (with_reducible assumption) | assumption)
                        have q197 : x8_1 < (l0.length : Int) := of_decide_eq_true (by first | (with_reducible assumption) | assumption)
                        obtain ⟨ad197, e197, hx197_0⟩ := Kd.at_int HR0.out x8_1 p197 q197
                        obtain rfl : ad196 = ad197 := (by injection e197)
                        replace p197 := eq_true p197
                        replace q197 := eq_true q197
                        go_wp2_with (first | ((with_reducible refine gate_callee (f := 48) rfl ?_); refine goesL_ (some 52) rfl rfl Try.func48 (by kernel_rfl) rfl #[.int .i64 (wrap64 (Int.tdiv (wrap64 (-(wrap64 ((wrap64 (x6_1 + (wrap64 ((wrap64 (Int.tmod (rd l0 x8_1) 128)) * x7_1)))) + 1)))) 2))] rfl (by (try simp only [List.map_toArray, List.map_cons, List.map_nil]); first | done | rfl | (simp only [List.length_drop, List.length_take]; rfl)) ?_; (with_reducible refine (impl_isNum.calls (wrap64 (Int.tdiv (wrap64 (-(wrap64 ((wrap64 (x6_1 + (wrap64 ((wrap64 (Int.tmod (rd l0 x8_1) 128)) * x7_1)))) + 1)))) 2)) false _ A11.out).mono ?_); rintro e w' ⟨rfl, ⟨nd, rfl⟩⟩; refine ⟨_, rfl, ?_⟩))
                        go_ret2
                        exact ⟨by first | rfl | (simp; done) | (simp [*]; done), by repeat (first | exact Drawn0.refl _ | apply Drawn0.step)⟩
                    · rw [if_neg c10] at H
                      have c10b0 : ((Int.tmod (wrap64 (x6_1 + (wrap64 ((wrap64 (Int.tmod (rd l0 x8_1) 128)) * x7_1)))) 2) == 1) = false := beq_eq_false_iff_ne.mpr c10
                      have c10b1 : ((Int.tmod (wrap64 (x6_1 + (wrap64 ((wrap64 (Int.tmod (rd l0 x8_1) 128)) * x7_1)))) 2) != 1) = true := bne_iff_ne.mpr c10
                      replace H := Option.bind_eq_some_iff.mp H
                      obtain ⟨t200, A150, H⟩ := H
                      replace H : (if t200 = true then (if (rd l0 x8_1) = 0 then (if x8_1 > a1 then (some (0, (-1))) else (some (wrap64 (Int.tdiv (wrap64 (x6_1 + (wrap64 ((wrap64 (Int.tmod (rd l0 x8_1) 128)) * x7_1)))) 2), wrap64 (x8_1 + 1)))) else (some (wrap64 (Int.tdiv (wrap64 (x6_1 + (wrap64 ((wrap64 (Int.tmod (rd l0 x8_1) 128)) * x7_1)))) 2), wrap64 (x8_1 + 1)))) else (some (0, (-1)))) = some (r1, r2) := H
                      have A15 := Aside0.mk A150
                      clear A150
                      by_cases c16 : t200 = true
                      · subst c16
                        have H1 : (if (rd l0 x8_1) = 0 then (if x8_1 > a1 then (some (0, (-1))) else (some (wrap64 (Int.tdiv (wrap64 (x6_1 + (wrap64 ((wrap64 (Int.tmod (rd l0 x8_1) 128)) * x7_1)))) 2), wrap64 (x8_1 + 1)))) else (some (wrap64 (Int.tdiv (wrap64 (x6_1 + (wrap64 ((wrap64 (Int.tmod (rd l0 x8_1) 128)) * x7_1)))) 2), wrap64 (x8_1 + 1)))) = some (r1, r2) := by rw [if_pos rfl] at H; exact H
                        clear H
                        have H := H1
                        clear H1
                        by_cases c17 : (rd l0 x8_1) = 0
                        · rw [if_pos c17] at H
                          have c17b0 : ((rd l0 x8_1) == 0) = true := beq_iff_eq.mpr c17
                          have c17b1 : ((rd l0 x8_1) != 0) = false := bne_eq_false_iff_eq.mpr c17
                          clear c17
                          by_cases c18 : x8_1 > a1
                          · rw [if_pos c18] at H
                            have c18b0 : decide (a1 < x8_1) = true := decide_eq_true c18
                            clear c18
                            simp only [Option.some.injEq, Prod.mk.injEq] at H
                            obtain ⟨rfl, rfl⟩ := H
                            have p196 : 0 ≤ (x8_1 : Int) := of_decide_eq_true (by first | (with_reducible assumption) | assumption)
                            have q196 : x8_1 < (l0.length : Int) := of_decide_eq_true (by first | (with_reducible assumption) | assumption)
                            obtain ⟨ad196, e196, hx196_0⟩ := Kd.at_int HR0.out x8_1 p196 q196
                            cases e196
                            replace p196 := eq_true p196
                            replace q196 := eq_true q196
                            have p197 : 0 ≤ (x8_1 : Int) := of_decide_eq_true (by first | (with_reducible assumption) | assumption)
                            have q197 : x8_1 < (l0.length : Int) := of_decide_eq_true (by first | (with_reducible assumption) | assumption)
                            obtain ⟨ad197, e197, hx197_0⟩ := Kd.at_int HR0.out x8_1 p197 q197
                            obtain rfl : ad196 = ad197 := (by injection e197)
                            replace p197 := eq_true p197
                            replace q197 := eq_true q197
                            go_wp2_with (first | ((with_reducible refine gate_callee (f := 48) rfl ?_); refine goesL_ (some 52) rfl rfl Try.func48 (by kernel_rfl) rfl #[.int .i64 (wrap64 (Int.tdiv (wrap64 (x6_1 + (wrap64 ((wrap64 (Int.tmod (rd l0 x8_1) 128)) * x7_1)))) 2))] rfl (by (try simp only [List.map_toArray, List.map_cons, List.map_nil]); first | done | rfl | (simp only [List.length_drop, List.length_take]; rfl)) ?_; (with_reducible refine (impl_isNum.calls (wrap64 (Int.tdiv (wrap64 (x6_1 + (wrap64 ((wrap64 (Int.tmod (rd l0 x8_1) 128)) * x7_1)))) 2)) true _ A15.out).mono ?_); rintro e w' ⟨rfl, ⟨nd, rfl⟩⟩; refine ⟨_, rfl, ?_⟩; have p201 : 0 ≤ (x8_1 : Int) := of_decide_eq_true (by first | (with_reducible assumption) | assumption); have q201 : x8_1 < (l0.length : Int) := of_decide_eq_true (by first | (with_reducible assumption) | assumption); obtain ⟨ad201, e201, hx201_0⟩ := Kd.at_int HR0.out x8_1 p201 q201; obtain rfl : ad196 = ad201 := (by injection e201); replace p201 := eq_true p201; replace q201 := eq_true q201))
                            go_ret2
                            exact ⟨by first | rfl | (simp; done) | (simp [*]; done), by repeat (first | exact Drawn0.refl _ | apply Drawn0.step)⟩
                          · rw [if_neg c18] at H
                            have c18b0 : decide (a1 < x8_1) = false := decide_eq_false c18
                            clear c18
                            simp only [Option.some.injEq, Prod.mk.injEq] at H
                            obtain ⟨rfl, rfl⟩ := H
                            have p196 : 0 ≤ (x8_1 : Int) := of_decide_eq_true (by first | (with_reducible assumption) | assumption)
                            have q196 : x8_1 < (l0.length : Int) := of_decide_eq_true (by first | (with_reducible assumption) | assumption)
                            obtain ⟨ad196, e196, hx196_0⟩ := Kd.at_int HR0.out x8_1 p196 q196
                            cases e196
                            replace p196 := eq_true p196
                            replace q196 := eq_true q196
                            have p197 : 0 ≤ (x8_1 : Int) := of_decide_eq_true (by first | (with_reducible assumption) | assumption)
                            have q197 : x8_1 < (l0.length : Int) := of_decide_eq_true (by first | (with_reducible assumption) | assumption)
                            obtain ⟨ad197, e197, hx197_0⟩ := Kd.at_int HR0.out x8_1 p197 q197
                            obtain rfl : ad196 = ad197 := (by injection e197)
                            replace p197 := eq_true p197
                            replace q197 := eq_true q197
                            go_wp2_with (first | ((with_reducible refine gate_callee (f := 48) rfl ?_); refine goesL_ (some 52) rfl rfl Try.func48 (by kernel_rfl) rfl #[.int .i64 (wrap64 (Int.tdiv (wrap64 (x6_1 + (wrap64 ((wrap64 (Int.tmod (rd l0 x8_1) 128)) * x7_1)))) 2))] rfl (by (try simp only [List.map_toArray, List.map_cons, List.map_nil]); first | done | rfl | (simp only [List.length_drop, List.length_take]; rfl)) ?_; (with_reducible refine (impl_isNum.calls (wrap64 (Int.tdiv (wrap64 (x6_1 + (wrap64 ((wrap64 (Int.tmod (rd l0 x8_1) 128)) * x7_1)))) 2)) true _ A15.out).mono ?_); rintro e w' ⟨rfl, ⟨nd, rfl⟩⟩; refine ⟨_, rfl, ?_⟩; have p201 : 0 ≤ (x8_1 : Int) := of_decide_eq_true (by first | (with_reducible assumption) | assumption); have q201 : x8_1 < (l0.length : Int) := of_decide_eq_true (by first | (with_reducible assumption) | assumption); obtain ⟨ad201, e201, hx201_0⟩ := Kd.at_int HR0.out x8_1 p201 q201; obtain rfl : ad196 = ad201 := (by injection e201); replace p201 := eq_true p201; replace q201 := eq_true q201))
                            go_ret2
                            exact ⟨by first | rfl | (simp; done) | (simp [*]; done), by repeat (first | exact Drawn0.refl _ | apply Drawn0.step)⟩
                        · rw [if_neg c17] at H
                          have c17b0 : ((rd l0 x8_1) == 0) = false := beq_eq_false_iff_ne.mpr c17
                          have c17b1 : ((rd l0 x8_1) != 0) = true := bne_iff_ne.mpr c17
                          simp only [Option.some.injEq, Prod.mk.injEq] at H
                          obtain ⟨rfl, rfl⟩ := H
                          have p196 : 0 ≤ (x8_1 : Int) := of_decide_eq_true (by first | (with_reducible assumption) | assumption)
                          have q196 : x8_1 < (l0.length : Int) := of_decide_eq_true (by first | (with_reducible assumption) | assumption)
                          obtain ⟨ad196, e196, hx196_0⟩ := Kd.at_int HR0.out x8_1 p196 q196
                          cases e196
                          replace p196 := eq_true p196
                          replace q196 := eq_true q196
                          have p197 : 0 ≤ (x8_1 : Int) := of_decide_eq_true (by first | (with_reducible assumption) | assumption)
                          have q197 : x8_1 < (l0.length : Int) := of_decide_eq_true (by first | (with_reducible assumption) | assumption)
                          obtain ⟨ad197, e197, hx197_0⟩ := Kd.at_int HR0.out x8_1 p197 q197
                          obtain rfl : ad196 = ad197 := (by injection e197)
                          replace p197 := eq_true p197
                          replace q197 := eq_true q197
                          go_wp2_with (first | ((with_reducible refine gate_callee (f := 48) rfl ?_); refine goesL_ (some 52) rfl rfl Try.func48 (by kernel_rfl) rfl #[.int .i64 (wrap64 (Int.tdiv (wrap64 (x6_1 + (wrap64 ((wrap64 (Int.tmod (rd l0 x8_1) 128)) * x7_1)))) 2))] rfl (by (try simp only [List.map_toArray, List.map_cons, List.map_nil]); first | done | rfl | (simp only [List.length_drop, List.length_take]; rfl)) ?_; (with_reducible refine (impl_isNum.calls (wrap64 (Int.tdiv (wrap64 (x6_1 + (wrap64 ((wrap64 (Int.tmod (rd l0 x8_1) 128)) * x7_1)))) 2)) true _ A15.out).mono ?_); rintro e w' ⟨rfl, ⟨nd, rfl⟩⟩; refine ⟨_, rfl, ?_⟩; have p201 : 0 ≤ (x8_1 : Int) := of_decide_eq_true (by first | (with_reducible assumption) | assumption); have q201 : x8_1 < (l0.length : Int) := of_decide_eq_true (by first | (with_reducible assumption) | assumption); obtain ⟨ad201, e201, hx201_0⟩ := Kd.at_int HR0.out x8_1 p201 q201; obtain rfl : ad196 = ad201 := (by injection e201); replace p201 := eq_true p201; replace q201 := eq_true q201))
                          go_ret2
                          exact ⟨by first | rfl | (simp; done) | (simp [*]; done), by repeat (first | exact Drawn0.refl _ | apply Drawn0.step)⟩
                      · replace c16 := Bool.eq_false_iff.mpr c16
                        subst c16
                        have H1 : (some (0, (-1))) = some (r1, r2) := by rw [if_neg (show ¬ (false = true) by decide)] at H; exact H
                        clear H
                        have H := H1
                        clear H1
                        simp only [Option.some.injEq, Prod.mk.injEq] at H
                        obtain ⟨rfl, rfl⟩ := H
                        have p196 : 0 ≤ (x8_1 : Int) := of_decide_eq_true (by first | (with_reducible assumption) | assumption)
                        have q196 : x8_1 < (l0.length : Int) := of_decide_eq_true (by first | (with_reducible assumption) | assumption)
                        obtain ⟨ad196, e196, hx196_0⟩ := Kd.at_int HR0.out x8_1 p196 q196
                        cases e196
                        replace p196 := eq_true p196
                        replace q196 := eq_true q196
                        have p197 : 0 ≤ (x8_1 : Int) := of_decide_eq_true (by first | (with_reducible assumption) | assumption)
                        have q197 : x8_1 < (l0.length : Int) := of_decide_eq_true (by first | (with_reducible assumption) | assumption)
                        obtain ⟨ad197, e197, hx197_0⟩ := Kd.at_int HR0.out x8_1 p197 q197
                        obtain rfl : ad196 = ad197 := (by injection e197)
                        replace p197 := eq_true p197
                        replace q197 := eq_true q197
                        go_wp2_with (first | ((with_reducible refine gate_callee (f := 48) rfl ?_); refine goesL_ (some 52) rfl rfl Try.func48 (by kernel_rfl) rfl #[.int .i64 (wrap64 (Int.tdiv (wrap64 (x6_1 + (wrap64 ((wrap64 (Int.tmod (rd l0 x8_1) 128)) * x7_1)))) 2))] rfl (by (try simp only [List.map_toArray, List.map_cons, List.map_nil]); first | done | rfl | (simp only [List.length_drop, List.length_take]; rfl)) ?_; (with_reducible refine (impl_isNum.calls (wrap64 (Int.tdiv (wrap64 (x6_1 + (wrap64 ((wrap64 (Int.tmod (rd l0 x8_1) 128)) * x7_1)))) 2)) false _ A15.out).mono ?_); rintro e w' ⟨rfl, ⟨nd, rfl⟩⟩; refine ⟨_, rfl, ?_⟩))
                        go_ret2
                        exact ⟨by first | rfl | (simp; done) | (simp [*]; done), by repeat (first | exact Drawn0.refl _ | apply Drawn0.step)⟩
                · rw [if_neg c8] at H
                  exact absurd H (by simp)
              · rw [if_neg c7] at H
                exact absurd H (by simp)
            · replace c6 := Bool.eq_false_iff.mpr c6
              subst c6
              have H1 : (some (0, (-1))) = some (r1, r2) := by rw [if_neg (show ¬ (false = true) by decide)] at H; exact H
              clear H
              have H := H1
              clear H1
              simp only [Option.some.injEq, Prod.mk.injEq] at H
              obtain ⟨rfl, rfl⟩ := H
              go_wp2
              go_ret2
              exact ⟨by first | rfl | (simp; done) | (simp [*]; done), by repeat (first | exact Drawn0.refl _ | apply Drawn0.step)⟩

/-! ### bytes_Equal: function 54 -/
def bytes_Equal.f (l0 : List Int) (l1 : List Int) : Option (Bool) := some ((strOfNums l0).toList == (strOfNums l1).toList)
set_option maxHeartbeats 8000000 in
set_option maxRecDepth 100000 in
theorem bytes_Equal.calls (A0 : Option Addr) (c0 : Nat) (l0 : List Int) (A1 : Option Addr) (c1 : Nat) (l1 : List Int) (r : Bool) (w : World) (hr0 : Kd.C (Kd.int .u8) w A0 l0.length l0) (hc0 : l0.length ≤ c0) (hr1 : Kd.C (Kd.int .u8) w A1 l1.length l1) (hc1 : l1.length ≤ c1) (h : bytes_Equal.f l0 l1 = some r) :
    Calls Try.prog 54 #[.slice A0 l0.length c0, .slice A1 l1.length c1] w fun e w' => e = .returned (.bool r) ∧ Drawn0 w w' := by
  have HR0 := Aside0.mk hr0
  have HC0 := Aside0.mk hc0
  clear hr0 hc0
  have HR1 := Aside0.mk hr1
  have HC1 := Aside0.mk hc1
  clear hr1 hc1
  have H : (some ((strOfNums l0).toList == (strOfNums l1).toList)) = some r := h
  clear h
  obtain rfl := Option.some.inj H
  have hcv3 := Kd.C_string (P := Try.prog) (A := A0) (c := c0) Try.underlying26 Try.underlying5 Try.underlying9 HR0.out; (try (have hcw3 := fun m_ => Kd.C_string (P := Try.prog) (A := A0) (c := c0) Try.underlying26 Try.underlying5 Try.underlying9 (Kd.C_drewN HR0.out m_); (try (have hcx_ := hcw3; simp only [List.length_drop, List.length_take] at hcx_; rw [Nat.min_eq_left (by first | omega | ((try simp only [eq_iff_iff, iff_true] at *); omega))] at hcx_; have hcy3 := hcx_; clear hcx_))))
  have hcv4 := Kd.C_string (P := Try.prog) (A := A1) (c := c1) Try.underlying26 Try.underlying5 Try.underlying9 HR1.out; (try (have hcw4 := fun m_ => Kd.C_string (P := Try.prog) (A := A1) (c := c1) Try.underlying26 Try.underlying5 Try.underlying9 (Kd.C_drewN HR1.out m_); (try (have hcx_ := hcw4; simp only [List.length_drop, List.length_take] at hcx_; rw [Nat.min_eq_left (by first | omega | ((try simp only [eq_iff_iff, iff_true] at *); omega))] at hcx_; have hcy4 := hcx_; clear hcx_))))
  go_enter Try.func54, Try.ntmps54
  go_wp2
  go_ret
  exact ⟨by first | rfl | (simp; done) | (simp [*]; done), by repeat (first | exact Drawn0.refl _ | apply Drawn0.step)⟩

/-! ### bytes_HasPrefix: function 52 -/
-- FORM 0 0 (makes memory, has rounds)
def bytes_HasPrefix.f (l0 : List Int) (l1 : List Int) : Option (Bool) := if l1.length ≤ l0.length then (bytes_Equal.f (l0.take l1.length) l1) else (some false)
set_option maxHeartbeats 8000000 in
set_option maxRecDepth 100000 in
theorem bytes_HasPrefix.calls (A0 : Option Addr) (c0 : Nat) (l0 : List Int) (A1 : Option Addr) (c1 : Nat) (l1 : List Int) (r : Bool) (w : World) (hr0 : Kd.C (Kd.int .u8) w A0 l0.length l0) (hc0 : l0.length ≤ c0) (hr1 : Kd.C (Kd.int .u8) w A1 l1.length l1) (hc1 : l1.length ≤ c1) (h : bytes_HasPrefix.f l0 l1 = some r) :
    Calls Try.prog 52 #[.slice A0 l0.length c0, .slice A1 l1.length c1] w fun e w' => e = .returned (.bool r) ∧ Drawn0 w w' := by
  have HR0 := Aside0.mk hr0
  have HR1 := Aside0.mk hr1
  have HC1 := Aside0.mk hc1
  have HC0 := Aside0.mk hc0
  clear hr0 hr1 hc0 hc1
  obtain ⟨i0, hi0, _, hsz, _⟩ := info_parts info5
  unfold bytes_HasPrefix.f at h
  by_cases c2 : l1.length ≤ l0.length
  · rw [if_pos c2] at h
    have HQ := Aside0.mk h
    have HLE := Aside0.mk c2
    have hcut : ∀ W : World, (Instr.slice 26 (.slice A0 l0.length c0) none (some (.int .i64 (l1.length : Int))) none).run Try.prog W = .ok (.slice A0 l1.length c0) W := by
      intro W
      have h_ := cut_to (P := Try.prog) 26 5 .i64 Try.underlying26 hi0 A0 l0.length c0 (l1.length : Int) (by omega) (by omega) HC0.out W
      rwa [Int.toNat_natCast] at h_
    have b1 : decide ((l1.length : Int) ≤ (l0.length : Int)) = true := decide_eq_true (by omega)
    have b2 : decide (l1.length ≤ l0.length) = true := decide_eq_true c2
    clear h c2 hi0 hsz
    go_enter Try.func52, Try.ntmps52
    go_wp2_with (first | (go_at_call 54; refine calls_of_args (args' := #[.slice A0 (l0.take l1.length).length c0, .slice A1 l1.length c1]) (by rw [List.length_take, Nat.min_eq_left HLE.out]) ?_; (with_reducible refine (bytes_Equal.calls A0 c0 (l0.take l1.length) A1 c1 l1 r _ ?side1 ?side2 ?side3 ?side4 HQ.out).mono ?_); (case side1 => (with_reducible repeat (first | apply Kd.C_alloc | apply Kd.C_drewN | apply Kd.C_drew)); exact Kd.C_take HR0.out HLE.out); (case side2 => exact Nat.le_trans (by rw [List.length_take]; omega) HC0.out); (case side3 => (with_reducible repeat (first | apply Kd.C_alloc | apply Kd.C_drewN | apply Kd.C_drew)); exact HR1.out); (case side4 => exact HC1.out); rintro e w' ⟨rfl, ⟨nd, rfl⟩⟩))
    go_ret
    exact ⟨by first | rfl | (simp; done) | (simp [*]; done), by first | exact ⟨⟨_, rfl⟩⟩ | (exact Drawn0.refl _) | (simp only [World.drewN_drewN]; exact ⟨⟨_, rfl⟩⟩)⟩
  · rw [if_neg c2] at h
    obtain rfl := Option.some.inj h
    have b1 : decide ((l1.length : Int) ≤ (l0.length : Int)) = false := decide_eq_false (by omega)
    have b2 : decide (l1.length ≤ l0.length) = false := decide_eq_false c2
    clear h c2 hi0 hsz
    go_enter Try.func52, Try.ntmps52
    go_wp2
    go_ret
    exact ⟨by first | rfl | (simp; done) | (simp [*]; done), by first | exact ⟨⟨_, rfl⟩⟩ | (exact Drawn0.refl _)⟩

end Go.Proofs.Ytnmpkdabojlbgaa.Q
