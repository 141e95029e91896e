/- The machine side of a law, written by a program of this session over the translation: for each Go function a Lean function with the same answers, and the proof that the Go code comes to them. -/
import Derived.Test.YtbdfidnldaghbaaQx0
import Derived.Test.YtbdfidnldaghbaaQx3
namespace Go.Proofs.Ytbdfidnldaghbaa.Q
open Go.RowKit Go.Proofs.Ytbdfidnldaghbaa.Own Go.Proofs.YtbdfidnldaghbaaW.PrintWords Go.Proofs.YtbdfidnldaghbaaW.PrintLast Go.Proofs.YtbdfidnldaghbaaW.PrintMore
attribute [local go_sem] max2_int min2_int max_two min_two max_three min_three max_four min_four   -- for this text's walks alone
set_option linter.unusedVariables false
set_option linter.unusedSimpArgs false

/-! ### spec_NodeOk: function 84 -/
mutual
def spec_NodeOk.j0 : Nat → Bool → Int → ByteArray → Int → Int → Int → Bool → List Int → Option (Bool)
 | 0, _, _, _, _, _, _, _, _ => none
 | k + 1, x42, x418000, x418001, x418002, x418003, x418004, x418005, x418006 => if x42 = true then (some false) else (if x418000 = 0 then ((spec_WordOk.f k x418001).bind fun t426 => (if t426 = true then (if x418002 = 0 then (if x418004 = 0 then (some (!x418005)) else (some false)) else (some false)) else (some false))) else (if x418000 = 1 then ((spec_l02Col.f x418002).bind fun t427 => (if t427 = true then ((spec_l01In.f x418003 0 3).bind fun t428 => (if t428 = true then ((spec_l01Number.f x418004).bind fun t429 => (if t429 = true then (if x418003 = 3 then (if x418004 = 0 then (some (!x418005)) else (some false)) else (some true)) else (some false))) else (some false))) else (some false))) else (if x418000 = 2 then (spec_NodeOk.l0 k 0 x418000 x418001 x418002 x418003 x418004 x418005 x418006) else (if x418000 = 3 then ((spec_l02Col.f x418002).bind fun t433 => (if t433 = true then ((spec_l02Col.f x418004).bind fun t434 => (if t434 = true then (some (!x418005)) else (some false))) else (some false))) else (if x418000 = 5 then ((spec_l02Col.f x418002).bind fun t435 => (if t435 = true then (if x418004 = 0 then (some (!x418005)) else (some false)) else (some false))) else (if x418000 = 6 then (if x418002 = 0 then ((spec_l01In.f x418004 0 1000000).bind fun t436 => (some t436)) else (some false)) else (if x418000 = 4 then (if x418002 = 0 then (if x418004 = 0 then (some (!x418005)) else (some false)) else (some false)) else (if x418000 = 7 then (if x418002 = 0 then (if x418004 = 0 then (some (!x418005)) else (some false)) else (some false)) else (some false)))))))))
def spec_NodeOk.l0 : Nat → Int → Int → ByteArray → Int → Int → Int → Bool → List Int → Option (Bool)
 | 0, _, _, _, _, _, _, _, _ => none
 | k + 1, x3, x418000, x418001, x418002, x418003, x418004, x418005, x418006 => if x3 < (x418006.length : Int) then (if 0 ≤ x3 then ((spec_l02Col.f (rd x418006 x3)).bind fun t431 => (if t431 = true then (spec_NodeOk.l0 k (wrap64 (x3 + 1)) x418000 x418001 x418002 x418003 x418004 x418005 x418006) else (some false))) else (none)) else ((spec_l01In.f (x418006.length : Int) 1 6).bind fun t432 => (if t432 = true then (if x418002 = 0 then (if x418004 = 0 then (some (!x418005)) else (some false)) else (some false)) else (some false)))
end
def spec_NodeOk.f (k : Nat) (a0_0 : Int) (a0_1 : ByteArray) (a0_2 : Int) (a0_3 : Int) (a0_4 : Int) (a0_5 : Bool) (l0_6 : List Int) : Option (Bool) := if a0_0 = 0 then (if a0_0 = 2 then (if a0_0 = 1 then (if a0_5 = true then ((spec_l01In.f a0_4 0 39).bind fun t418 => (spec_NodeOk.j0 k (!t418) a0_0 a0_1 a0_2 a0_3 a0_4 a0_5 l0_6)) else (spec_NodeOk.j0 k false a0_0 a0_1 a0_2 a0_3 a0_4 a0_5 l0_6)) else (if a0_3 = 0 then (if a0_5 = true then ((spec_l01In.f a0_4 0 39).bind fun t419 => (spec_NodeOk.j0 k (!t419) a0_0 a0_1 a0_2 a0_3 a0_4 a0_5 l0_6)) else (spec_NodeOk.j0 k false a0_0 a0_1 a0_2 a0_3 a0_4 a0_5 l0_6)) else (spec_NodeOk.j0 k true a0_0 a0_1 a0_2 a0_3 a0_4 a0_5 l0_6))) else (if (l0_6.length : Int) > 0 then (spec_NodeOk.j0 k true a0_0 a0_1 a0_2 a0_3 a0_4 a0_5 l0_6) else (if a0_0 = 1 then (if a0_5 = true then ((spec_l01In.f a0_4 0 39).bind fun t420 => (spec_NodeOk.j0 k (!t420) a0_0 a0_1 a0_2 a0_3 a0_4 a0_5 l0_6)) else (spec_NodeOk.j0 k false a0_0 a0_1 a0_2 a0_3 a0_4 a0_5 l0_6)) else (if a0_3 = 0 then (if a0_5 = true then ((spec_l01In.f a0_4 0 39).bind fun t421 => (spec_NodeOk.j0 k (!t421) a0_0 a0_1 a0_2 a0_3 a0_4 a0_5 l0_6)) else (spec_NodeOk.j0 k false a0_0 a0_1 a0_2 a0_3 a0_4 a0_5 l0_6)) else (spec_NodeOk.j0 k true a0_0 a0_1 a0_2 a0_3 a0_4 a0_5 l0_6))))) else (if a0_1.toList = ([] : List UInt8) then (if a0_0 = 2 then (if a0_0 = 1 then (if a0_5 = true then ((spec_l01In.f a0_4 0 39).bind fun t422 => (spec_NodeOk.j0 k (!t422) a0_0 a0_1 a0_2 a0_3 a0_4 a0_5 l0_6)) else (spec_NodeOk.j0 k false a0_0 a0_1 a0_2 a0_3 a0_4 a0_5 l0_6)) else (if a0_3 = 0 then (if a0_5 = true then ((spec_l01In.f a0_4 0 39).bind fun t423 => (spec_NodeOk.j0 k (!t423) a0_0 a0_1 a0_2 a0_3 a0_4 a0_5 l0_6)) else (spec_NodeOk.j0 k false a0_0 a0_1 a0_2 a0_3 a0_4 a0_5 l0_6)) else (spec_NodeOk.j0 k true a0_0 a0_1 a0_2 a0_3 a0_4 a0_5 l0_6))) else (if (l0_6.length : Int) > 0 then (spec_NodeOk.j0 k true a0_0 a0_1 a0_2 a0_3 a0_4 a0_5 l0_6) else (if a0_0 = 1 then (if a0_5 = true then ((spec_l01In.f a0_4 0 39).bind fun t424 => (spec_NodeOk.j0 k (!t424) a0_0 a0_1 a0_2 a0_3 a0_4 a0_5 l0_6)) else (spec_NodeOk.j0 k false a0_0 a0_1 a0_2 a0_3 a0_4 a0_5 l0_6)) else (if a0_3 = 0 then (if a0_5 = true then ((spec_l01In.f a0_4 0 39).bind fun t425 => (spec_NodeOk.j0 k (!t425) a0_0 a0_1 a0_2 a0_3 a0_4 a0_5 l0_6)) else (spec_NodeOk.j0 k false a0_0 a0_1 a0_2 a0_3 a0_4 a0_5 l0_6)) else (spec_NodeOk.j0 k true a0_0 a0_1 a0_2 a0_3 a0_4 a0_5 l0_6))))) else (spec_NodeOk.j0 k true a0_0 a0_1 a0_2 a0_3 a0_4 a0_5 l0_6))
theorem spec_NodeOk.mono_l : ∀ k, (∀ y0 y1 y2 y3 y4 y5 y6 y7, LeO (spec_NodeOk.j0 k y0 y1 y2 y3 y4 y5 y6 y7) (spec_NodeOk.j0 (k + 1) y0 y1 y2 y3 y4 y5 y6 y7)) ∧ (∀ y0 y1 y2 y3 y4 y5 y6 y7, LeO (spec_NodeOk.l0 k y0 y1 y2 y3 y4 y5 y6 y7) (spec_NodeOk.l0 (k + 1) y0 y1 y2 y3 y4 y5 y6 y7))
 | 0 => ⟨fun _ _ _ _ _ _ _ _ r h => by simp [spec_NodeOk.j0] at h, fun _ _ _ _ _ _ _ _ r h => by simp [spec_NodeOk.l0] at h⟩
 | k + 1 => by
  obtain ⟨ih0, ih1⟩ := spec_NodeOk.mono_l k
  refine ⟨?_, ?_⟩ <;> intros <;> (first | unfold spec_NodeOk.j0 | unfold spec_NodeOk.l0)
  all_goals repeat' first
  | (with_reducible exact ih0 _ _ _ _ _ _ _ _)
  | (with_reducible exact ih1 _ _ _ _ _ _ _ _)
  | (with_reducible exact spec_WordOk.mono _ _)
  | (with_reducible exact LeO.refl _)
  | (with_reducible exact LeO.none _)
  | (with_reducible refine LeO.ite ?_ ?_)
  | (with_reducible refine LeO.bind ?_ (fun _ => ?_))
  | exact ih0 _ _ _ _ _ _ _ _
  | exact ih1 _ _ _ _ _ _ _ _
  | exact spec_WordOk.mono _ _
  | exact LeO.none _
  | refine LeO.ite ?_ ?_
  | refine LeO.bind ?_ (fun _ => ?_)
theorem spec_NodeOk.mono : ∀ a0 a1 a2 a3 a4 a5 a6 k, LeO (spec_NodeOk.f k a0 a1 a2 a3 a4 a5 a6) (spec_NodeOk.f (k + 1) a0 a1 a2 a3 a4 a5 a6) := by
 intro a0 a1 a2 a3 a4 a5 a6 k
 obtain ⟨ih0, ih1⟩ := spec_NodeOk.mono_l k
 unfold spec_NodeOk.f
 repeat' first
   | (with_reducible exact ih0 _ _ _ _ _ _ _ _)
   | (with_reducible exact ih1 _ _ _ _ _ _ _ _)
   | (with_reducible exact spec_WordOk.mono _ _)
   | (with_reducible exact LeO.refl _)
   | (with_reducible exact LeO.none _)
   | (with_reducible refine LeO.ite ?_ ?_)
   | (with_reducible refine LeO.bind ?_ (fun _ => ?_))
   | exact ih0 _ _ _ _ _ _ _ _
   | exact ih1 _ _ _ _ _ _ _ _
   | exact spec_WordOk.mono _ _
   | exact LeO.none _
   | refine LeO.ite ?_ ?_
   | refine LeO.bind ?_ (fun _ => ?_)
set_option maxHeartbeats 8000000 in
set_option maxRecDepth 100000 in
theorem spec_NodeOk.calls (k : Nat) (a0_0 : Int) (a0_1 : ByteArray) (a0_2 : Int) (a0_3 : Int) (a0_4 : Int) (a0_5 : Bool) (A0_6 : Option Addr) (c0_6 : Nat) (l0_6 : List Int) (r : Bool) (w : World) (hr0_6 : Kd.C (Kd.int .i64) w A0_6 l0_6.length l0_6) (hc0_6 : l0_6.length ≤ c0_6) (h : spec_NodeOk.f k a0_0 a0_1 a0_2 a0_3 a0_4 a0_5 l0_6 = some r) :
  Calls Try.prog 84 #[.agg #[.int .i64 a0_0, .string a0_1, .int .i64 a0_2, .int .i64 a0_3, .int .i64 a0_4, .bool a0_5, .slice A0_6 l0_6.length c0_6]] w fun e w' => e = .returned (.bool r) ∧ Below w.heap.size w w' := by
 have hu58 := Try.underlying58
 have HR0_6 := Aside0.mk hr0_6
 have HC0_6 := Aside0.mk hc0_6
 clear hr0_6 hc0_6
 have HB := Aside0.mk (Below.refl w.heap.size w)
 have H : (if a0_0 = 0 then (if a0_0 = 2 then (if a0_0 = 1 then (if a0_5 = true then ((spec_l01In.f a0_4 0 39).bind fun t418 => (spec_NodeOk.j0 k (!t418) a0_0 a0_1 a0_2 a0_3 a0_4 a0_5 l0_6)) else (spec_NodeOk.j0 k false a0_0 a0_1 a0_2 a0_3 a0_4 a0_5 l0_6)) else (if a0_3 = 0 then (if a0_5 = true then ((spec_l01In.f a0_4 0 39).bind fun t419 => (spec_NodeOk.j0 k (!t419) a0_0 a0_1 a0_2 a0_3 a0_4 a0_5 l0_6)) else (spec_NodeOk.j0 k false a0_0 a0_1 a0_2 a0_3 a0_4 a0_5 l0_6)) else (spec_NodeOk.j0 k true a0_0 a0_1 a0_2 a0_3 a0_4 a0_5 l0_6))) else (if (l0_6.length : Int) > 0 then (spec_NodeOk.j0 k true a0_0 a0_1 a0_2 a0_3 a0_4 a0_5 l0_6) else (if a0_0 = 1 then (if a0_5 = true then ((spec_l01In.f a0_4 0 39).bind fun t420 => (spec_NodeOk.j0 k (!t420) a0_0 a0_1 a0_2 a0_3 a0_4 a0_5 l0_6)) else (spec_NodeOk.j0 k false a0_0 a0_1 a0_2 a0_3 a0_4 a0_5 l0_6)) else (if a0_3 = 0 then (if a0_5 = true then ((spec_l01In.f a0_4 0 39).bind fun t421 => (spec_NodeOk.j0 k (!t421) a0_0 a0_1 a0_2 a0_3 a0_4 a0_5 l0_6)) else (spec_NodeOk.j0 k false a0_0 a0_1 a0_2 a0_3 a0_4 a0_5 l0_6)) else (spec_NodeOk.j0 k true a0_0 a0_1 a0_2 a0_3 a0_4 a0_5 l0_6))))) else (if a0_1.toList = ([] : List UInt8) then (if a0_0 = 2 then (if a0_0 = 1 then (if a0_5 = true then ((spec_l01In.f a0_4 0 39).bind fun t422 => (spec_NodeOk.j0 k (!t422) a0_0 a0_1 a0_2 a0_3 a0_4 a0_5 l0_6)) else (spec_NodeOk.j0 k false a0_0 a0_1 a0_2 a0_3 a0_4 a0_5 l0_6)) else (if a0_3 = 0 then (if a0_5 = true then ((spec_l01In.f a0_4 0 39).bind fun t423 => (spec_NodeOk.j0 k (!t423) a0_0 a0_1 a0_2 a0_3 a0_4 a0_5 l0_6)) else (spec_NodeOk.j0 k false a0_0 a0_1 a0_2 a0_3 a0_4 a0_5 l0_6)) else (spec_NodeOk.j0 k true a0_0 a0_1 a0_2 a0_3 a0_4 a0_5 l0_6))) else (if (l0_6.length : Int) > 0 then (spec_NodeOk.j0 k true a0_0 a0_1 a0_2 a0_3 a0_4 a0_5 l0_6) else (if a0_0 = 1 then (if a0_5 = true then ((spec_l01In.f a0_4 0 39).bind fun t424 => (spec_NodeOk.j0 k (!t424) a0_0 a0_1 a0_2 a0_3 a0_4 a0_5 l0_6)) else (spec_NodeOk.j0 k false a0_0 a0_1 a0_2 a0_3 a0_4 a0_5 l0_6)) else (if a0_3 = 0 then (if a0_5 = true then ((spec_l01In.f a0_4 0 39).bind fun t425 => (spec_NodeOk.j0 k (!t425) a0_0 a0_1 a0_2 a0_3 a0_4 a0_5 l0_6)) else (spec_NodeOk.j0 k false a0_0 a0_1 a0_2 a0_3 a0_4 a0_5 l0_6)) else (spec_NodeOk.j0 k true a0_0 a0_1 a0_2 a0_3 a0_4 a0_5 l0_6))))) else (spec_NodeOk.j0 k true a0_0 a0_1 a0_2 a0_3 a0_4 a0_5 l0_6))) = some r := h
 clear h
 have HC2 := Aside0.mk H
 clear H
 go_enter Try.func84, Try.ntmps84
 go_upto_region 1 with (first | ((with_reducible refine gate_dst (N := 1) rfl ?_); (try (refine gate_guard (by rfl) ?_; dsimp only)); refine box_event ?hg (N := 1) ?hd (cs := #[.int .i64 a0_0, .string a0_1, .int .i64 a0_2, .int .i64 a0_3, .int .i64 a0_4, .bool a0_5, .slice A0_6 l0_6.length c0_6]) (t := 58) ?hr ?_; (case hd => rfl); (case hg => rfl); (case hr => first | (go_simp; done) | (go_simp; rfl)); intro gb417 hg w3 hbox hb; have n0_ := Aside0.mk (below_step bA hb); have n1_ := Aside0.mk (hbox); have n2_ := Aside0.mk ((by rw [hg]; exact (below_size bA) : w.heap.size ≤ gb417)); have n3_ := Aside0.mk ((by rw [hg]; exact (below_size bA) : w.heap.size ≤ gb417)); clear HB; have HB := n0_; have BK417 := n1_; have GW417 := n2_; have GE417 := n3_; clear n0_ n1_ n2_ n3_; clear hb hbox hg))
 (try simp only [Act.put, List.setIfInBounds_toArray, List.set_cons_zero, List.set_cons_succ])
 go_cut [42] (fun v42 wc => ∃ (kq : Nat) (x42_1 : Bool), v42 = .bool x42_1 ∧ Aside0 (spec_NodeOk.j0 kq x42_1 a0_0 a0_1 a0_2 a0_3 a0_4 a0_5 l0_6 = some r) ∧ Aside0 (kq ≤ k) ∧ Aside0 (wc.heap[gb417]? = some (.cells #[.int .i64 a0_0, .string a0_1, .int .i64 a0_2, .int .i64 a0_3, .int .i64 a0_4, .bool a0_5, (.slice A0_6 l0_6.length c0_6)] 58 (0, 0))) ∧ Aside0 (Below w.heap.size w wc))
 case first =>
  have H := HC2.out
  clear HC2
  by_cases c4 : a0_0 = 0
  ·rw [if_pos c4] at H
   have c4b0 : (a0_0 == 0) = true := beq_iff_eq.mpr c4
   have c4b1 : (a0_0 != 0) = false := bne_eq_false_iff_eq.mpr c4
   clear c4
   (first | rw [c4b0] | (simp only [i64_w, i32_w]; rw [c4b0]) | skip)
   by_cases c5 : a0_0 = 2
   ·rw [if_pos c5] at H
    have c5b0 : (a0_0 == 2) = true := beq_iff_eq.mpr c5
    have c5b1 : (a0_0 != 2) = false := bne_eq_false_iff_eq.mpr c5
    clear c5
    by_cases c6 : a0_0 = 1
    ·rw [if_pos c6] at H
     have c6b0 : (a0_0 == 1) = true := beq_iff_eq.mpr c6
     have c6b1 : (a0_0 != 1) = false := bne_eq_false_iff_eq.mpr c6
     clear c6
     by_cases c7 : a0_5 = true
     ·subst c7
      have H1 : ((spec_l01In.f a0_4 0 39).bind fun t418 => (spec_NodeOk.j0 k (!t418) a0_0 a0_1 a0_2 a0_3 a0_4 true l0_6)) = some r := by rw [if_pos rfl] at H; exact H
      clear H
      have H := H1
      clear H1
      replace H := Option.bind_eq_some_iff.mp H
      obtain ⟨t418, A80, H⟩ := H
      replace H : (spec_NodeOk.j0 k (!t418) a0_0 a0_1 a0_2 a0_3 a0_4 true l0_6) = some r := H
      have A8 := Aside0.mk A80
      clear A80
      have H' := Aside0.mk H
      clear H
      obtain ⟨⟨hcz9_0, hcz9_1, hcz9_2, hcz9_3, hcz9_4, hcz9_5, hcz9_6⟩, hfz9_0, hfz9_1, hfz9_2, hfz9_3, hfz9_4, hfz9_5, hfz9_6⟩ := Own.c7 BK417.out
      go_wp2_with (first | (go_at_call 69; (with_reducible refine (spec_l01In.calls a0_4 0 39 t418 _ A8.out).mono ?_); rintro e w' ⟨rfl, ⟨nd, rfl⟩⟩))
      go_meet
      case rel => exact ⟨_, (!t418), rF, H', ⟨by first | omega | exact Nat.le_refl _⟩, ⟨by (with_reducible repeat (first | refine blk_drewN ?_ _ | refine blk_drew ?_ | refine blk_alloc ?_ _)); exact BK417.out⟩, ⟨bA⟩⟩
     ·replace c7 := Bool.eq_false_iff.mpr c7
      subst c7
      have H1 : (spec_NodeOk.j0 k false a0_0 a0_1 a0_2 a0_3 a0_4 false l0_6) = some r := by rw [if_neg (show ¬ (false = true) by decide)] at H; exact H
      clear H
      have H := H1
      clear H1
      have H' := Aside0.mk H
      clear H
      obtain ⟨⟨hcz10_0, hcz10_1, hcz10_2, hcz10_3, hcz10_4, hcz10_5, hcz10_6⟩, hfz10_0, hfz10_1, hfz10_2, hfz10_3, hfz10_4, hfz10_5, hfz10_6⟩ := Own.c7 BK417.out
      go_wp2
      go_meet
      case rel => exact ⟨_, (false), rF, H', ⟨by first | omega | exact Nat.le_refl _⟩, ⟨by (with_reducible repeat (first | refine blk_drewN ?_ _ | refine blk_drew ?_ | refine blk_alloc ?_ _)); exact BK417.out⟩, ⟨bA⟩⟩
    ·rw [if_neg c6] at H
     have c6b0 : (a0_0 == 1) = false := beq_eq_false_iff_ne.mpr c6
     have c6b1 : (a0_0 != 1) = true := bne_iff_ne.mpr c6
     by_cases c11 : a0_3 = 0
     ·rw [if_pos c11] at H
      have c11b0 : (a0_3 == 0) = true := beq_iff_eq.mpr c11
      have c11b1 : (a0_3 != 0) = false := bne_eq_false_iff_eq.mpr c11
      clear c11
      by_cases c12 : a0_5 = true
      ·subst c12
       have H1 : ((spec_l01In.f a0_4 0 39).bind fun t419 => (spec_NodeOk.j0 k (!t419) a0_0 a0_1 a0_2 a0_3 a0_4 true l0_6)) = some r := by rw [if_pos rfl] at H; exact H
       clear H
       have H := H1
       clear H1
       replace H := Option.bind_eq_some_iff.mp H
       obtain ⟨t419, A130, H⟩ := H
       replace H : (spec_NodeOk.j0 k (!t419) a0_0 a0_1 a0_2 a0_3 a0_4 true l0_6) = some r := H
       have A13 := Aside0.mk A130
       clear A130
       have H' := Aside0.mk H
       clear H
       obtain ⟨⟨hcz14_0, hcz14_1, hcz14_2, hcz14_3, hcz14_4, hcz14_5, hcz14_6⟩, hfz14_0, hfz14_1, hfz14_2, hfz14_3, hfz14_4, hfz14_5, hfz14_6⟩ := Own.c7 BK417.out
       go_wp2_with (first | (go_at_call 69; (with_reducible refine (spec_l01In.calls a0_4 0 39 t419 _ A13.out).mono ?_); rintro e w' ⟨rfl, ⟨nd, rfl⟩⟩))
       go_meet
       case rel => exact ⟨_, (!t419), rF, H', ⟨by first | omega | exact Nat.le_refl _⟩, ⟨by (with_reducible repeat (first | refine blk_drewN ?_ _ | refine blk_drew ?_ | refine blk_alloc ?_ _)); exact BK417.out⟩, ⟨bA⟩⟩
      ·replace c12 := Bool.eq_false_iff.mpr c12
       subst c12
       have H1 : (spec_NodeOk.j0 k false a0_0 a0_1 a0_2 a0_3 a0_4 false l0_6) = some r := by rw [if_neg (show ¬ (false = true) by decide)] at H; exact H
       clear H
       have H := H1
       clear H1
       have H' := Aside0.mk H
       clear H
       obtain ⟨⟨hcz15_0, hcz15_1, hcz15_2, hcz15_3, hcz15_4, hcz15_5, hcz15_6⟩, hfz15_0, hfz15_1, hfz15_2, hfz15_3, hfz15_4, hfz15_5, hfz15_6⟩ := Own.c7 BK417.out
       go_wp2
       go_meet
       case rel => exact ⟨_, (false), rF, H', ⟨by first | omega | exact Nat.le_refl _⟩, ⟨by (with_reducible repeat (first | refine blk_drewN ?_ _ | refine blk_drew ?_ | refine blk_alloc ?_ _)); exact BK417.out⟩, ⟨bA⟩⟩
     ·rw [if_neg c11] at H
      have c11b0 : (a0_3 == 0) = false := beq_eq_false_iff_ne.mpr c11
      have c11b1 : (a0_3 != 0) = true := bne_iff_ne.mpr c11
      have H' := Aside0.mk H
      clear H
      obtain ⟨⟨hcz16_0, hcz16_1, hcz16_2, hcz16_3, hcz16_4, hcz16_5, hcz16_6⟩, hfz16_0, hfz16_1, hfz16_2, hfz16_3, hfz16_4, hfz16_5, hfz16_6⟩ := Own.c7 BK417.out
      go_wp2
      go_meet
      case rel => exact ⟨_, (true), rF, H', ⟨by first | omega | exact Nat.le_refl _⟩, ⟨by (with_reducible repeat (first | refine blk_drewN ?_ _ | refine blk_drew ?_ | refine blk_alloc ?_ _)); exact BK417.out⟩, ⟨bA⟩⟩
   ·rw [if_neg c5] at H
    have c5b0 : (a0_0 == 2) = false := beq_eq_false_iff_ne.mpr c5
    have c5b1 : (a0_0 != 2) = true := bne_iff_ne.mpr c5
    by_cases c17 : (l0_6.length : Int) > 0
    ·rw [if_pos c17] at H
     have c17b0 : decide (0 < (l0_6.length : Int)) = true := decide_eq_true c17
     have c17b1 : decide (0 < l0_6.length) = true := decide_eq_true (by omega)
     clear c17
     have H' := Aside0.mk H
     clear H
     obtain ⟨⟨hcz18_0, hcz18_1, hcz18_2, hcz18_3, hcz18_4, hcz18_5, hcz18_6⟩, hfz18_0, hfz18_1, hfz18_2, hfz18_3, hfz18_4, hfz18_5, hfz18_6⟩ := Own.c7 BK417.out
     go_wp2
     go_meet
     case rel => exact ⟨_, (true), rF, H', ⟨by first | omega | exact Nat.le_refl _⟩, ⟨by (with_reducible repeat (first | refine blk_drewN ?_ _ | refine blk_drew ?_ | refine blk_alloc ?_ _)); exact BK417.out⟩, ⟨bA⟩⟩
    ·rw [if_neg c17] at H
     have c17b0 : decide (0 < (l0_6.length : Int)) = false := decide_eq_false c17
     have c17b1 : decide (0 < l0_6.length) = false := decide_eq_false (by omega)
     clear c17
     by_cases c19 : a0_0 = 1
     ·rw [if_pos c19] at H
      have c19b0 : (a0_0 == 1) = true := beq_iff_eq.mpr c19
      have c19b1 : (a0_0 != 1) = false := bne_eq_false_iff_eq.mpr c19
      clear c19
      by_cases c20 : a0_5 = true
      ·subst c20
       have H1 : ((spec_l01In.f a0_4 0 39).bind fun t420 => (spec_NodeOk.j0 k (!t420) a0_0 a0_1 a0_2 a0_3 a0_4 true l0_6)) = some r := by rw [if_pos rfl] at H; exact H
       clear H
       have H := H1
       clear H1
       replace H := Option.bind_eq_some_iff.mp H
       obtain ⟨t420, A210, H⟩ := H
       replace H : (spec_NodeOk.j0 k (!t420) a0_0 a0_1 a0_2 a0_3 a0_4 true l0_6) = some r := H
       have A21 := Aside0.mk A210
       clear A210
       have H' := Aside0.mk H
       clear H
       obtain ⟨⟨hcz22_0, hcz22_1, hcz22_2, hcz22_3, hcz22_4, hcz22_5, hcz22_6⟩, hfz22_0, hfz22_1, hfz22_2, hfz22_3, hfz22_4, hfz22_5, hfz22_6⟩ := Own.c7 BK417.out
       go_wp2_with (first | (go_at_call 69; (with_reducible refine (spec_l01In.calls a0_4 0 39 t420 _ A21.out).mono ?_); rintro e w' ⟨rfl, ⟨nd, rfl⟩⟩))
       go_meet
       case rel => exact ⟨_, (!t420), rF, H', ⟨by first | omega | exact Nat.le_refl _⟩, ⟨by (with_reducible repeat (first | refine blk_drewN ?_ _ | refine blk_drew ?_ | refine blk_alloc ?_ _)); exact BK417.out⟩, ⟨bA⟩⟩
      ·replace c20 := Bool.eq_false_iff.mpr c20
       subst c20
       have H1 : (spec_NodeOk.j0 k false a0_0 a0_1 a0_2 a0_3 a0_4 false l0_6) = some r := by rw [if_neg (show ¬ (false = true) by decide)] at H; exact H
       clear H
       have H := H1
       clear H1
       have H' := Aside0.mk H
       clear H
       obtain ⟨⟨hcz23_0, hcz23_1, hcz23_2, hcz23_3, hcz23_4, hcz23_5, hcz23_6⟩, hfz23_0, hfz23_1, hfz23_2, hfz23_3, hfz23_4, hfz23_5, hfz23_6⟩ := Own.c7 BK417.out
       go_wp2
       go_meet
       case rel => exact ⟨_, (false), rF, H', ⟨by first | omega | exact Nat.le_refl _⟩, ⟨by (with_reducible repeat (first | refine blk_drewN ?_ _ | refine blk_drew ?_ | refine blk_alloc ?_ _)); exact BK417.out⟩, ⟨bA⟩⟩
     ·rw [if_neg c19] at H
      have c19b0 : (a0_0 == 1) = false := beq_eq_false_iff_ne.mpr c19
      have c19b1 : (a0_0 != 1) = true := bne_iff_ne.mpr c19
      by_cases c24 : a0_3 = 0
      ·rw [if_pos c24] at H
       have c24b0 : (a0_3 == 0) = true := beq_iff_eq.mpr c24
       have c24b1 : (a0_3 != 0) = false := bne_eq_false_iff_eq.mpr c24
       clear c24
       by_cases c25 : a0_5 = true
       ·subst c25
        have H1 : ((spec_l01In.f a0_4 0 39).bind fun t421 => (spec_NodeOk.j0 k (!t421) a0_0 a0_1 a0_2 a0_3 a0_4 true l0_6)) = some r := by rw [if_pos rfl] at H; exact H
        clear H
        have H := H1
        clear H1
        replace H := Option.bind_eq_some_iff.mp H
        obtain ⟨t421, A260, H⟩ := H
        replace H : (spec_NodeOk.j0 k (!t421) a0_0 a0_1 a0_2 a0_3 a0_4 true l0_6) = some r := H
        have A26 := Aside0.mk A260
        clear A260
        have H' := Aside0.mk H
        clear H
        obtain ⟨⟨hcz27_0, hcz27_1, hcz27_2, hcz27_3, hcz27_4, hcz27_5, hcz27_6⟩, hfz27_0, hfz27_1, hfz27_2, hfz27_3, hfz27_4, hfz27_5, hfz27_6⟩ := Own.c7 BK417.out
        go_wp2_with (first | (go_at_call 69; (with_reducible refine (spec_l01In.calls a0_4 0 39 t421 _ A26.out).mono ?_); rintro e w' ⟨rfl, ⟨nd, rfl⟩⟩))
        go_meet
        case rel => exact ⟨_, (!t421), rF, H', ⟨by first | omega | exact Nat.le_refl _⟩, ⟨by (with_reducible repeat (first | refine blk_drewN ?_ _ | refine blk_drew ?_ | refine blk_alloc ?_ _)); exact BK417.out⟩, ⟨bA⟩⟩
       ·replace c25 := Bool.eq_false_iff.mpr c25
        subst c25
        have H1 : (spec_NodeOk.j0 k false a0_0 a0_1 a0_2 a0_3 a0_4 false l0_6) = some r := by rw [if_neg (show ¬ (false = true) by decide)] at H; exact H
        clear H
        have H := H1
        clear H1
        have H' := Aside0.mk H
        clear H
        obtain ⟨⟨hcz28_0, hcz28_1, hcz28_2, hcz28_3, hcz28_4, hcz28_5, hcz28_6⟩, hfz28_0, hfz28_1, hfz28_2, hfz28_3, hfz28_4, hfz28_5, hfz28_6⟩ := Own.c7 BK417.out
        go_wp2
        go_meet
        case rel => exact ⟨_, (false), rF, H', ⟨by first | omega | exact Nat.le_refl _⟩, ⟨by (with_reducible repeat (first | refine blk_drewN ?_ _ | refine blk_drew ?_ | refine blk_alloc ?_ _)); exact BK417.out⟩, ⟨bA⟩⟩
      ·rw [if_neg c24] at H
       have c24b0 : (a0_3 == 0) = false := beq_eq_false_iff_ne.mpr c24
       have c24b1 : (a0_3 != 0) = true := bne_iff_ne.mpr c24
       have H' := Aside0.mk H
       clear H
       obtain ⟨⟨hcz29_0, hcz29_1, hcz29_2, hcz29_3, hcz29_4, hcz29_5, hcz29_6⟩, hfz29_0, hfz29_1, hfz29_2, hfz29_3, hfz29_4, hfz29_5, hfz29_6⟩ := Own.c7 BK417.out
       go_wp2
       go_meet
       case rel => exact ⟨_, (true), rF, H', ⟨by first | omega | exact Nat.le_refl _⟩, ⟨by (with_reducible repeat (first | refine blk_drewN ?_ _ | refine blk_drew ?_ | refine blk_alloc ?_ _)); exact BK417.out⟩, ⟨bA⟩⟩
  ·rw [if_neg c4] at H
   have c4b0 : (a0_0 == 0) = false := beq_eq_false_iff_ne.mpr c4
   have c4b1 : (a0_0 != 0) = true := bne_iff_ne.mpr c4
   (first | rw [c4b0] | (simp only [i64_w, i32_w]; rw [c4b0]) | skip)
   by_cases c30 : a0_1.toList = ([] : List UInt8)
   ·rw [if_pos c30] at H
    have c30b0 : (a0_1.toList == ([] : List UInt8)) = true := beq_iff_eq.mpr c30
    have c30b1 : (a0_1.toList != ([] : List UInt8)) = false := bne_eq_false_iff_eq.mpr c30
    clear c30
    by_cases c31 : a0_0 = 2
    ·rw [if_pos c31] at H
     have c31b0 : (a0_0 == 2) = true := beq_iff_eq.mpr c31
     have c31b1 : (a0_0 != 2) = false := bne_eq_false_iff_eq.mpr c31
     clear c31
     by_cases c32 : a0_0 = 1
     ·rw [if_pos c32] at H
      have c32b0 : (a0_0 == 1) = true := beq_iff_eq.mpr c32
      have c32b1 : (a0_0 != 1) = false := bne_eq_false_iff_eq.mpr c32
      clear c32
      by_cases c33 : a0_5 = true
      ·subst c33
       have H1 : ((spec_l01In.f a0_4 0 39).bind fun t422 => (spec_NodeOk.j0 k (!t422) a0_0 a0_1 a0_2 a0_3 a0_4 true l0_6)) = some r := by rw [if_pos rfl] at H; exact H
       clear H
       have H := H1
       clear H1
       replace H := Option.bind_eq_some_iff.mp H
       obtain ⟨t422, A340, H⟩ := H
       replace H : (spec_NodeOk.j0 k (!t422) a0_0 a0_1 a0_2 a0_3 a0_4 true l0_6) = some r := H
       have A34 := Aside0.mk A340
       clear A340
       have H' := Aside0.mk H
       clear H
       obtain ⟨⟨hcz35_0, hcz35_1, hcz35_2, hcz35_3, hcz35_4, hcz35_5, hcz35_6⟩, hfz35_0, hfz35_1, hfz35_2, hfz35_3, hfz35_4, hfz35_5, hfz35_6⟩ := Own.c7 BK417.out
       go_wp2_with (first | (go_at_call 69; (with_reducible refine (spec_l01In.calls a0_4 0 39 t422 _ A34.out).mono ?_); rintro e w' ⟨rfl, ⟨nd, rfl⟩⟩))
       go_meet
       case rel => exact ⟨_, (!t422), rF, H', ⟨by first | omega | exact Nat.le_refl _⟩, ⟨by (with_reducible repeat (first | refine blk_drewN ?_ _ | refine blk_drew ?_ | refine blk_alloc ?_ _)); exact BK417.out⟩, ⟨bA⟩⟩
      ·replace c33 := Bool.eq_false_iff.mpr c33
       subst c33
       have H1 : (spec_NodeOk.j0 k false a0_0 a0_1 a0_2 a0_3 a0_4 false l0_6) = some r := by rw [if_neg (show ¬ (false = true) by decide)] at H; exact H
       clear H
       have H := H1
       clear H1
       have H' := Aside0.mk H
       clear H
       obtain ⟨⟨hcz36_0, hcz36_1, hcz36_2, hcz36_3, hcz36_4, hcz36_5, hcz36_6⟩, hfz36_0, hfz36_1, hfz36_2, hfz36_3, hfz36_4, hfz36_5, hfz36_6⟩ := Own.c7 BK417.out
       go_wp2
       go_meet
       case rel => exact ⟨_, (false), rF, H', ⟨by first | omega | exact Nat.le_refl _⟩, ⟨by (with_reducible repeat (first | refine blk_drewN ?_ _ | refine blk_drew ?_ | refine blk_alloc ?_ _)); exact BK417.out⟩, ⟨bA⟩⟩
     ·rw [if_neg c32] at H
      have c32b0 : (a0_0 == 1) = false := beq_eq_false_iff_ne.mpr c32
      have c32b1 : (a0_0 != 1) = true := bne_iff_ne.mpr c32
      by_cases c37 : a0_3 = 0
      ·rw [if_pos c37] at H
       have c37b0 : (a0_3 == 0) = true := beq_iff_eq.mpr c37
       have c37b1 : (a0_3 != 0) = false := bne_eq_false_iff_eq.mpr c37
       clear c37
       by_cases c38 : a0_5 = true
       ·subst c38
        have H1 : ((spec_l01In.f a0_4 0 39).bind fun t423 => (spec_NodeOk.j0 k (!t423) a0_0 a0_1 a0_2 a0_3 a0_4 true l0_6)) = some r := by rw [if_pos rfl] at H; exact H
        clear H
        have H := H1
        clear H1
        replace H := Option.bind_eq_some_iff.mp H
        obtain ⟨t423, A390, H⟩ := H
        replace H : (spec_NodeOk.j0 k (!t423) a0_0 a0_1 a0_2 a0_3 a0_4 true l0_6) = some r := H
        have A39 := Aside0.mk A390
        clear A390
        have H' := Aside0.mk H
        clear H
        obtain ⟨⟨hcz40_0, hcz40_1, hcz40_2, hcz40_3, hcz40_4, hcz40_5, hcz40_6⟩, hfz40_0, hfz40_1, hfz40_2, hfz40_3, hfz40_4, hfz40_5, hfz40_6⟩ := Own.c7 BK417.out
        go_wp2_with (first | (go_at_call 69; (with_reducible refine (spec_l01In.calls a0_4 0 39 t423 _ A39.out).mono ?_); rintro e w' ⟨rfl, ⟨nd, rfl⟩⟩))
        go_meet
        case rel => exact ⟨_, (!t423), rF, H', ⟨by first | omega | exact Nat.le_refl _⟩, ⟨by (with_reducible repeat (first | refine blk_drewN ?_ _ | refine blk_drew ?_ | refine blk_alloc ?_ _)); exact BK417.out⟩, ⟨bA⟩⟩
       ·replace c38 := Bool.eq_false_iff.mpr c38
        subst c38
        have H1 : (spec_NodeOk.j0 k false a0_0 a0_1 a0_2 a0_3 a0_4 false l0_6) = some r := by rw [if_neg (show ¬ (false = true) by decide)] at H; exact H
        clear H
        have H := H1
        clear H1
        have H' := Aside0.mk H
        clear H
        obtain ⟨⟨hcz41_0, hcz41_1, hcz41_2, hcz41_3, hcz41_4, hcz41_5, hcz41_6⟩, hfz41_0, hfz41_1, hfz41_2, hfz41_3, hfz41_4, hfz41_5, hfz41_6⟩ := Own.c7 BK417.out
        go_wp2
        go_meet
        case rel => exact ⟨_, (false), rF, H', ⟨by first | omega | exact Nat.le_refl _⟩, ⟨by (with_reducible repeat (first | refine blk_drewN ?_ _ | refine blk_drew ?_ | refine blk_alloc ?_ _)); exact BK417.out⟩, ⟨bA⟩⟩
      ·rw [if_neg c37] at H
       have c37b0 : (a0_3 == 0) = false := beq_eq_false_iff_ne.mpr c37
       have c37b1 : (a0_3 != 0) = true := bne_iff_ne.mpr c37
       have H' := Aside0.mk H
       clear H
       obtain ⟨⟨hcz42_0, hcz42_1, hcz42_2, hcz42_3, hcz42_4, hcz42_5, hcz42_6⟩, hfz42_0, hfz42_1, hfz42_2, hfz42_3, hfz42_4, hfz42_5, hfz42_6⟩ := Own.c7 BK417.out
       go_wp2
       go_meet
       case rel => exact ⟨_, (true), rF, H', ⟨by first | omega | exact Nat.le_refl _⟩, ⟨by (with_reducible repeat (first | refine blk_drewN ?_ _ | refine blk_drew ?_ | refine blk_alloc ?_ _)); exact BK417.out⟩, ⟨bA⟩⟩
    ·rw [if_neg c31] at H
     have c31b0 : (a0_0 == 2) = false := beq_eq_false_iff_ne.mpr c31
     have c31b1 : (a0_0 != 2) = true := bne_iff_ne.mpr c31
     by_cases c43 : (l0_6.length : Int) > 0
     ·rw [if_pos c43] at H
      have c43b0 : decide (0 < (l0_6.length : Int)) = true := decide_eq_true c43
      have c43b1 : decide (0 < l0_6.length) = true := decide_eq_true (by omega)
      clear c43
      have H' := Aside0.mk H
      clear H
      obtain ⟨⟨hcz44_0, hcz44_1, hcz44_2, hcz44_3, hcz44_4, hcz44_5, hcz44_6⟩, hfz44_0, hfz44_1, hfz44_2, hfz44_3, hfz44_4, hfz44_5, hfz44_6⟩ := Own.c7 BK417.out
      go_wp2
      go_meet
      case rel => exact ⟨_, (true), rF, H', ⟨by first | omega | exact Nat.le_refl _⟩, ⟨by (with_reducible repeat (first | refine blk_drewN ?_ _ | refine blk_drew ?_ | refine blk_alloc ?_ _)); exact BK417.out⟩, ⟨bA⟩⟩
     ·rw [if_neg c43] at H
      have c43b0 : decide (0 < (l0_6.length : Int)) = false := decide_eq_false c43
      have c43b1 : decide (0 < l0_6.length) = false := decide_eq_false (by omega)
      clear c43
      by_cases c45 : a0_0 = 1
      ·rw [if_pos c45] at H
       have c45b0 : (a0_0 == 1) = true := beq_iff_eq.mpr c45
       have c45b1 : (a0_0 != 1) = false := bne_eq_false_iff_eq.mpr c45
       clear c45
       by_cases c46 : a0_5 = true
       ·subst c46
        have H1 : ((spec_l01In.f a0_4 0 39).bind fun t424 => (spec_NodeOk.j0 k (!t424) a0_0 a0_1 a0_2 a0_3 a0_4 true l0_6)) = some r := by rw [if_pos rfl] at H; exact H
        clear H
        have H := H1
        clear H1
        replace H := Option.bind_eq_some_iff.mp H
        obtain ⟨t424, A470, H⟩ := H
        replace H : (spec_NodeOk.j0 k (!t424) a0_0 a0_1 a0_2 a0_3 a0_4 true l0_6) = some r := H
        have A47 := Aside0.mk A470
        clear A470
        have H' := Aside0.mk H
        clear H
        obtain ⟨⟨hcz48_0, hcz48_1, hcz48_2, hcz48_3, hcz48_4, hcz48_5, hcz48_6⟩, hfz48_0, hfz48_1, hfz48_2, hfz48_3, hfz48_4, hfz48_5, hfz48_6⟩ := Own.c7 BK417.out
        go_wp2_with (first | (go_at_call 69; (with_reducible refine (spec_l01In.calls a0_4 0 39 t424 _ A47.out).mono ?_); rintro e w' ⟨rfl, ⟨nd, rfl⟩⟩))
        go_meet
        case rel => exact ⟨_, (!t424), rF, H', ⟨by first | omega | exact Nat.le_refl _⟩, ⟨by (with_reducible repeat (first | refine blk_drewN ?_ _ | refine blk_drew ?_ | refine blk_alloc ?_ _)); exact BK417.out⟩, ⟨bA⟩⟩
       ·replace c46 := Bool.eq_false_iff.mpr c46
        subst c46
        have H1 : (spec_NodeOk.j0 k false a0_0 a0_1 a0_2 a0_3 a0_4 false l0_6) = some r := by rw [if_neg (show ¬ (false = true) by decide)] at H; exact H
        clear H
        have H := H1
        clear H1
        have H' := Aside0.mk H
        clear H
        obtain ⟨⟨hcz49_0, hcz49_1, hcz49_2, hcz49_3, hcz49_4, hcz49_5, hcz49_6⟩, hfz49_0, hfz49_1, hfz49_2, hfz49_3, hfz49_4, hfz49_5, hfz49_6⟩ := Own.c7 BK417.out
        go_wp2
        go_meet
        case rel => exact ⟨_, (false), rF, H', ⟨by first | omega | exact Nat.le_refl _⟩, ⟨by (with_reducible repeat (first | refine blk_drewN ?_ _ | refine blk_drew ?_ | refine blk_alloc ?_ _)); exact BK417.out⟩, ⟨bA⟩⟩
      ·rw [if_neg c45] at H
       have c45b0 : (a0_0 == 1) = false := beq_eq_false_iff_ne.mpr c45
       have c45b1 : (a0_0 != 1) = true := bne_iff_ne.mpr c45
       by_cases c50 : a0_3 = 0
       ·rw [if_pos c50] at H
        have c50b0 : (a0_3 == 0) = true := beq_iff_eq.mpr c50
        have c50b1 : (a0_3 != 0) = false := bne_eq_false_iff_eq.mpr c50
        clear c50
        by_cases c51 : a0_5 = true
        ·subst c51
         have H1 : ((spec_l01In.f a0_4 0 39).bind fun t425 => (spec_NodeOk.j0 k (!t425) a0_0 a0_1 a0_2 a0_3 a0_4 true l0_6)) = some r := by rw [if_pos rfl] at H; exact H
         clear H
         have H := H1
         clear H1
         replace H := Option.bind_eq_some_iff.mp H
         obtain ⟨t425, A520, H⟩ := H
         replace H : (spec_NodeOk.j0 k (!t425) a0_0 a0_1 a0_2 a0_3 a0_4 true l0_6) = some r := H
         have A52 := Aside0.mk A520
         clear A520
         have H' := Aside0.mk H
         clear H
         obtain ⟨⟨hcz53_0, hcz53_1, hcz53_2, hcz53_3, hcz53_4, hcz53_5, hcz53_6⟩, hfz53_0, hfz53_1, hfz53_2, hfz53_3, hfz53_4, hfz53_5, hfz53_6⟩ := Own.c7 BK417.out
         go_wp2_with (first | (go_at_call 69; (with_reducible refine (spec_l01In.calls a0_4 0 39 t425 _ A52.out).mono ?_); rintro e w' ⟨rfl, ⟨nd, rfl⟩⟩))
         go_meet
         case rel => exact ⟨_, (!t425), rF, H', ⟨by first | omega | exact Nat.le_refl _⟩, ⟨by (with_reducible repeat (first | refine blk_drewN ?_ _ | refine blk_drew ?_ | refine blk_alloc ?_ _)); exact BK417.out⟩, ⟨bA⟩⟩
        ·replace c51 := Bool.eq_false_iff.mpr c51
         subst c51
         have H1 : (spec_NodeOk.j0 k false a0_0 a0_1 a0_2 a0_3 a0_4 false l0_6) = some r := by rw [if_neg (show ¬ (false = true) by decide)] at H; exact H
         clear H
         have H := H1
         clear H1
         have H' := Aside0.mk H
         clear H
         obtain ⟨⟨hcz54_0, hcz54_1, hcz54_2, hcz54_3, hcz54_4, hcz54_5, hcz54_6⟩, hfz54_0, hfz54_1, hfz54_2, hfz54_3, hfz54_4, hfz54_5, hfz54_6⟩ := Own.c7 BK417.out
         go_wp2
         go_meet
         case rel => exact ⟨_, (false), rF, H', ⟨by first | omega | exact Nat.le_refl _⟩, ⟨by (with_reducible repeat (first | refine blk_drewN ?_ _ | refine blk_drew ?_ | refine blk_alloc ?_ _)); exact BK417.out⟩, ⟨bA⟩⟩
       ·rw [if_neg c50] at H
        have c50b0 : (a0_3 == 0) = false := beq_eq_false_iff_ne.mpr c50
        have c50b1 : (a0_3 != 0) = true := bne_iff_ne.mpr c50
        have H' := Aside0.mk H
        clear H
        obtain ⟨⟨hcz55_0, hcz55_1, hcz55_2, hcz55_3, hcz55_4, hcz55_5, hcz55_6⟩, hfz55_0, hfz55_1, hfz55_2, hfz55_3, hfz55_4, hfz55_5, hfz55_6⟩ := Own.c7 BK417.out
        go_wp2
        go_meet
        case rel => exact ⟨_, (true), rF, H', ⟨by first | omega | exact Nat.le_refl _⟩, ⟨by (with_reducible repeat (first | refine blk_drewN ?_ _ | refine blk_drew ?_ | refine blk_alloc ?_ _)); exact BK417.out⟩, ⟨bA⟩⟩
   ·rw [if_neg c30] at H
    have c30b0 : (a0_1.toList == ([] : List UInt8)) = false := beq_eq_false_iff_ne.mpr c30
    have c30b1 : (a0_1.toList != ([] : List UInt8)) = true := bne_iff_ne.mpr c30
    have H' := Aside0.mk H
    clear H
    obtain ⟨⟨hcz56_0, hcz56_1, hcz56_2, hcz56_3, hcz56_4, hcz56_5, hcz56_6⟩, hfz56_0, hfz56_1, hfz56_2, hfz56_3, hfz56_4, hfz56_5, hfz56_6⟩ := Own.c7 BK417.out
    go_wp2
    go_meet
    case rel => exact ⟨_, (true), rF, H', ⟨by first | omega | exact Nat.le_refl _⟩, ⟨by (with_reducible repeat (first | refine blk_drewN ?_ _ | refine blk_drew ?_ | refine blk_alloc ?_ _)); exact BK417.out⟩, ⟨bA⟩⟩
 case rest =>
  clear HC2
  try clear c1
  try clear c2
  try clear p2
  try clear c3
  try clear c4
  try clear c4b0
  try clear c4b1
  try clear c5
  try clear c5b0
  try clear c5b1
  try clear c11
  try clear c11b0
  try clear c11b1
  try clear c12
  try clear c17
  try clear c17b0
  try clear c17b1
  try clear c19
  try clear c19b0
  try clear c19b1
  try clear c20
  try clear c24
  try clear c24b0
  try clear c24b1
  try clear c25
  try clear c30
  try clear c30b0
  try clear c30b1
  try clear c31
  try clear c31b0
  try clear c31b1
  try clear c32
  try clear c32b0
  try clear c32b1
  try clear c33
  try clear c37
  try clear c37b0
  try clear c37b1
  try clear c38
  try clear c43
  try clear c43b0
  try clear c43b1
  try clear c45
  try clear c45b0
  try clear c45b1
  try clear c46
  try clear c50
  try clear c50b0
  try clear c50b1
  try clear c51
  try clear hcz14_0 hcz14_1 hcz14_2 hcz14_3 hcz14_4 hcz14_5 hcz14_6
  try clear hcz15_0 hcz15_1 hcz15_2 hcz15_3 hcz15_4 hcz15_5 hcz15_6
  try clear hcz16_0 hcz16_1 hcz16_2 hcz16_3 hcz16_4 hcz16_5 hcz16_6
  try clear hcz18_0 hcz18_1 hcz18_2 hcz18_3 hcz18_4 hcz18_5 hcz18_6
  try clear hcz22_0 hcz22_1 hcz22_2 hcz22_3 hcz22_4 hcz22_5 hcz22_6
  try clear hcz23_0 hcz23_1 hcz23_2 hcz23_3 hcz23_4 hcz23_5 hcz23_6
  try clear hcz27_0 hcz27_1 hcz27_2 hcz27_3 hcz27_4 hcz27_5 hcz27_6
  try clear hcz28_0 hcz28_1 hcz28_2 hcz28_3 hcz28_4 hcz28_5 hcz28_6
  try clear hcz29_0 hcz29_1 hcz29_2 hcz29_3 hcz29_4 hcz29_5 hcz29_6
  try clear hcz35_0 hcz35_1 hcz35_2 hcz35_3 hcz35_4 hcz35_5 hcz35_6
  try clear hcz36_0 hcz36_1 hcz36_2 hcz36_3 hcz36_4 hcz36_5 hcz36_6
  try clear hcz40_0 hcz40_1 hcz40_2 hcz40_3 hcz40_4 hcz40_5 hcz40_6
  try clear hcz41_0 hcz41_1 hcz41_2 hcz41_3 hcz41_4 hcz41_5 hcz41_6
  try clear hcz42_0 hcz42_1 hcz42_2 hcz42_3 hcz42_4 hcz42_5 hcz42_6
  try clear hcz44_0 hcz44_1 hcz44_2 hcz44_3 hcz44_4 hcz44_5 hcz44_6
  try clear hcz48_0 hcz48_1 hcz48_2 hcz48_3 hcz48_4 hcz48_5 hcz48_6
  try clear hcz49_0 hcz49_1 hcz49_2 hcz49_3 hcz49_4 hcz49_5 hcz49_6
  try clear hcz53_0 hcz53_1 hcz53_2 hcz53_3 hcz53_4 hcz53_5 hcz53_6
  try clear hcz54_0 hcz54_1 hcz54_2 hcz54_3 hcz54_4 hcz54_5 hcz54_6
  try clear hcz55_0 hcz55_1 hcz55_2 hcz55_3 hcz55_4 hcz55_5 hcz55_6
  try clear hcz56_0 hcz56_1 hcz56_2 hcz56_3 hcz56_4 hcz56_5 hcz56_6
  try clear hfz14_0 hfz14_1 hfz14_2 hfz14_3 hfz14_4 hfz14_5 hfz14_6
  try clear hfz15_0 hfz15_1 hfz15_2 hfz15_3 hfz15_4 hfz15_5 hfz15_6
  try clear hfz16_0 hfz16_1 hfz16_2 hfz16_3 hfz16_4 hfz16_5 hfz16_6
  try clear hfz18_0 hfz18_1 hfz18_2 hfz18_3 hfz18_4 hfz18_5 hfz18_6
  try clear hfz22_0 hfz22_1 hfz22_2 hfz22_3 hfz22_4 hfz22_5 hfz22_6
  try clear hfz23_0 hfz23_1 hfz23_2 hfz23_3 hfz23_4 hfz23_5 hfz23_6
  try clear hfz27_0 hfz27_1 hfz27_2 hfz27_3 hfz27_4 hfz27_5 hfz27_6
  try clear hfz28_0 hfz28_1 hfz28_2 hfz28_3 hfz28_4 hfz28_5 hfz28_6
  try clear hfz29_0 hfz29_1 hfz29_2 hfz29_3 hfz29_4 hfz29_5 hfz29_6
  try clear hfz35_0 hfz35_1 hfz35_2 hfz35_3 hfz35_4 hfz35_5 hfz35_6
  try clear hfz36_0 hfz36_1 hfz36_2 hfz36_3 hfz36_4 hfz36_5 hfz36_6
  try clear hfz40_0 hfz40_1 hfz40_2 hfz40_3 hfz40_4 hfz40_5 hfz40_6
  try clear hfz41_0 hfz41_1 hfz41_2 hfz41_3 hfz41_4 hfz41_5 hfz41_6
  try clear hfz42_0 hfz42_1 hfz42_2 hfz42_3 hfz42_4 hfz42_5 hfz42_6
  try clear hfz44_0 hfz44_1 hfz44_2 hfz44_3 hfz44_4 hfz44_5 hfz44_6
  try clear hfz48_0 hfz48_1 hfz48_2 hfz48_3 hfz48_4 hfz48_5 hfz48_6
  try clear hfz49_0 hfz49_1 hfz49_2 hfz49_3 hfz49_4 hfz49_5 hfz49_6
  try clear hfz53_0 hfz53_1 hfz53_2 hfz53_3 hfz53_4 hfz53_5 hfz53_6
  try clear hfz54_0 hfz54_1 hfz54_2 hfz54_3 hfz54_4 hfz54_5 hfz54_6
  try clear hfz55_0 hfz55_1 hfz55_2 hfz55_3 hfz55_4 hfz55_5 hfz55_6
  try clear hfz56_0 hfz56_1 hfz56_2 hfz56_3 hfz56_4 hfz56_5 hfz56_6
  obtain ⟨kq, x42_1, rfl, HA, HJ1, BK417, HB⟩ := hcut
  cases kq with
  | zero => exact absurd HA.out (by simp [spec_NodeOk.j0])
  | succ kj1 =>
   have H := HA.out
   clear HA
   simp only [spec_NodeOk.j0] at H
   by_cases c57 : x42_1 = true
   ·subst c57
    have H1 : (some false) = some r := by rw [if_pos rfl] at H; exact H
    clear H
    have H := H1
    clear H1
    obtain rfl := Option.some.inj H
    go_wp2
    go_ret
    exact ⟨rE, bA⟩
   ·replace c57 := Bool.eq_false_iff.mpr c57
    subst c57
    have H1 : (if a0_0 = 0 then ((spec_WordOk.f kj1 a0_1).bind fun t426 => (if t426 = true then (if a0_2 = 0 then (if a0_4 = 0 then (some (!a0_5)) else (some false)) else (some false)) else (some false))) else (if a0_0 = 1 then ((spec_l02Col.f a0_2).bind fun t427 => (if t427 = true then ((spec_l01In.f a0_3 0 3).bind fun t428 => (if t428 = true then ((spec_l01Number.f a0_4).bind fun t429 => (if t429 = true then (if a0_3 = 3 then (if a0_4 = 0 then (some (!a0_5)) else (some false)) else (some true)) else (some false))) else (some false))) else (some false))) else (if a0_0 = 2 then (spec_NodeOk.l0 kj1 0 a0_0 a0_1 a0_2 a0_3 a0_4 a0_5 l0_6) else (if a0_0 = 3 then ((spec_l02Col.f a0_2).bind fun t433 => (if t433 = true then ((spec_l02Col.f a0_4).bind fun t434 => (if t434 = true then (some (!a0_5)) else (some false))) else (some false))) else (if a0_0 = 5 then ((spec_l02Col.f a0_2).bind fun t435 => (if t435 = true then (if a0_4 = 0 then (some (!a0_5)) else (some false)) else (some false))) else (if a0_0 = 6 then (if a0_2 = 0 then ((spec_l01In.f a0_4 0 1000000).bind fun t436 => (some t436)) else (some false)) else (if a0_0 = 4 then (if a0_2 = 0 then (if a0_4 = 0 then (some (!a0_5)) else (some false)) else (some false)) else (if a0_0 = 7 then (if a0_2 = 0 then (if a0_4 = 0 then (some (!a0_5)) else (some false)) else (some false)) else (some false))))))))) = some r := by rw [if_neg (show ¬ (false = true) by decide)] at H; exact H
    clear H
    have H := H1
    clear H1
    by_cases c58 : a0_0 = 0
    ·rw [if_pos c58] at H
     have c58b0 : (a0_0 == 0) = true := beq_iff_eq.mpr c58
     have c58b1 : (a0_0 != 0) = false := bne_eq_false_iff_eq.mpr c58
     clear c58
     replace H := Option.bind_eq_some_iff.mp H
     obtain ⟨t426, A590, H⟩ := H
     replace H : (if t426 = true then (if a0_2 = 0 then (if a0_4 = 0 then (some (!a0_5)) else (some false)) else (some false)) else (some false)) = some r := H
     have A59 := Aside0.mk A590
     clear A590
     by_cases c60 : t426 = true
     ·subst c60
      have H1 : (if a0_2 = 0 then (if a0_4 = 0 then (some (!a0_5)) else (some false)) else (some false)) = some r := by rw [if_pos rfl] at H; exact H
      clear H
      have H := H1
      clear H1
      by_cases c61 : a0_2 = 0
      ·rw [if_pos c61] at H
       have c61b0 : (a0_2 == 0) = true := beq_iff_eq.mpr c61
       have c61b1 : (a0_2 != 0) = false := bne_eq_false_iff_eq.mpr c61
       clear c61
       by_cases c62 : a0_4 = 0
       ·rw [if_pos c62] at H
        have c62b0 : (a0_4 == 0) = true := beq_iff_eq.mpr c62
        have c62b1 : (a0_4 != 0) = false := bne_eq_false_iff_eq.mpr c62
        clear c62
        obtain rfl := Option.some.inj H
        obtain ⟨⟨hcz63_0, hcz63_1, hcz63_2, hcz63_3, hcz63_4, hcz63_5, hcz63_6⟩, hfz63_0, hfz63_1, hfz63_2, hfz63_3, hfz63_4, hfz63_5, hfz63_6⟩ := Own.c7 BK417.out
        go_wp2_with (first | ((with_reducible refine gate_callee (f := 26) rfl ?_); refine goesL_ (some 49) rfl rfl Try.func26 (by kernel_rfl) rfl #[.string a0_1] rfl aL ?_; (with_reducible refine (spec_WordOk.calls kj1 a0_1 true _ A59.out).mono ?_); rintro e w' ⟨rfl, ⟨nd, rfl⟩⟩; refine ⟨_, rfl, ?_⟩))
        go_ret
        exact ⟨rE, bA⟩
       ·rw [if_neg c62] at H
        have c62b0 : (a0_4 == 0) = false := beq_eq_false_iff_ne.mpr c62
        have c62b1 : (a0_4 != 0) = true := bne_iff_ne.mpr c62
        obtain rfl := Option.some.inj H
        obtain ⟨⟨hcz64_0, hcz64_1, hcz64_2, hcz64_3, hcz64_4, hcz64_5, hcz64_6⟩, hfz64_0, hfz64_1, hfz64_2, hfz64_3, hfz64_4, hfz64_5, hfz64_6⟩ := Own.c7 BK417.out
        go_wp2_with (first | ((with_reducible refine gate_callee (f := 26) rfl ?_); refine goesL_ (some 49) rfl rfl Try.func26 (by kernel_rfl) rfl #[.string a0_1] rfl aL ?_; (with_reducible refine (spec_WordOk.calls kj1 a0_1 true _ A59.out).mono ?_); rintro e w' ⟨rfl, ⟨nd, rfl⟩⟩; refine ⟨_, rfl, ?_⟩))
        go_ret
        exact ⟨rE, bA⟩
      ·rw [if_neg c61] at H
       have c61b0 : (a0_2 == 0) = false := beq_eq_false_iff_ne.mpr c61
       have c61b1 : (a0_2 != 0) = true := bne_iff_ne.mpr c61
       obtain rfl := Option.some.inj H
       obtain ⟨⟨hcz65_0, hcz65_1, hcz65_2, hcz65_3, hcz65_4, hcz65_5, hcz65_6⟩, hfz65_0, hfz65_1, hfz65_2, hfz65_3, hfz65_4, hfz65_5, hfz65_6⟩ := Own.c7 BK417.out
       go_wp2_with (first | ((with_reducible refine gate_callee (f := 26) rfl ?_); refine goesL_ (some 49) rfl rfl Try.func26 (by kernel_rfl) rfl #[.string a0_1] rfl aL ?_; (with_reducible refine (spec_WordOk.calls kj1 a0_1 true _ A59.out).mono ?_); rintro e w' ⟨rfl, ⟨nd, rfl⟩⟩; refine ⟨_, rfl, ?_⟩))
       go_ret
       exact ⟨rE, bA⟩
     ·replace c60 := Bool.eq_false_iff.mpr c60
      subst c60
      have H1 : (some false) = some r := by rw [if_neg (show ¬ (false = true) by decide)] at H; exact H
      clear H
      have H := H1
      clear H1
      obtain rfl := Option.some.inj H
      obtain ⟨⟨hcz66_0, hcz66_1, hcz66_2, hcz66_3, hcz66_4, hcz66_5, hcz66_6⟩, hfz66_0, hfz66_1, hfz66_2, hfz66_3, hfz66_4, hfz66_5, hfz66_6⟩ := Own.c7 BK417.out
      go_wp2_with (first | ((with_reducible refine gate_callee (f := 26) rfl ?_); refine goesL_ (some 49) rfl rfl Try.func26 (by kernel_rfl) rfl #[.string a0_1] rfl aL ?_; (with_reducible refine (spec_WordOk.calls kj1 a0_1 false _ A59.out).mono ?_); rintro e w' ⟨rfl, ⟨nd, rfl⟩⟩; refine ⟨_, rfl, ?_⟩))
      go_ret
      exact ⟨rE, bA⟩
    ·rw [if_neg c58] at H
     have c58b0 : (a0_0 == 0) = false := beq_eq_false_iff_ne.mpr c58
     have c58b1 : (a0_0 != 0) = true := bne_iff_ne.mpr c58
     by_cases c67 : a0_0 = 1
     ·rw [if_pos c67] at H
      have c67b0 : (a0_0 == 1) = true := beq_iff_eq.mpr c67
      have c67b1 : (a0_0 != 1) = false := bne_eq_false_iff_eq.mpr c67
      clear c67
      replace H := Option.bind_eq_some_iff.mp H
      obtain ⟨t427, A680, H⟩ := H
      replace H : (if t427 = true then ((spec_l01In.f a0_3 0 3).bind fun t428 => (if t428 = true then ((spec_l01Number.f a0_4).bind fun t429 => (if t429 = true then (if a0_3 = 3 then (if a0_4 = 0 then (some (!a0_5)) else (some false)) else (some true)) else (some false))) else (some false))) else (some false)) = some r := H
      have A68 := Aside0.mk A680
      clear A680
      by_cases c69 : t427 = true
      ·subst c69
       have H1 : ((spec_l01In.f a0_3 0 3).bind fun t428 => (if t428 = true then ((spec_l01Number.f a0_4).bind fun t429 => (if t429 = true then (if a0_3 = 3 then (if a0_4 = 0 then (some (!a0_5)) else (some false)) else (some true)) else (some false))) else (some false))) = some r := by rw [if_pos rfl] at H; exact H
       clear H
       have H := H1
       clear H1
       replace H := Option.bind_eq_some_iff.mp H
       obtain ⟨t428, A700, H⟩ := H
       replace H : (if t428 = true then ((spec_l01Number.f a0_4).bind fun t429 => (if t429 = true then (if a0_3 = 3 then (if a0_4 = 0 then (some (!a0_5)) else (some false)) else (some true)) else (some false))) else (some false)) = some r := H
       have A70 := Aside0.mk A700
       clear A700
       by_cases c71 : t428 = true
       ·subst c71
        have H1 : ((spec_l01Number.f a0_4).bind fun t429 => (if t429 = true then (if a0_3 = 3 then (if a0_4 = 0 then (some (!a0_5)) else (some false)) else (some true)) else (some false))) = some r := by rw [if_pos rfl] at H; exact H
        clear H
        have H := H1
        clear H1
        replace H := Option.bind_eq_some_iff.mp H
        obtain ⟨t429, A720, H⟩ := H
        replace H : (if t429 = true then (if a0_3 = 3 then (if a0_4 = 0 then (some (!a0_5)) else (some false)) else (some true)) else (some false)) = some r := H
        have A72 := Aside0.mk A720
        clear A720
        by_cases c73 : t429 = true
        ·subst c73
         have H1 : (if a0_3 = 3 then (if a0_4 = 0 then (some (!a0_5)) else (some false)) else (some true)) = some r := by rw [if_pos rfl] at H; exact H
         clear H
         have H := H1
         clear H1
         by_cases c74 : a0_3 = 3
         ·rw [if_pos c74] at H
          have c74b0 : (a0_3 == 3) = true := beq_iff_eq.mpr c74
          have c74b1 : (a0_3 != 3) = false := bne_eq_false_iff_eq.mpr c74
          clear c74
          by_cases c75 : a0_4 = 0
          ·rw [if_pos c75] at H
           have c75b0 : (a0_4 == 0) = true := beq_iff_eq.mpr c75
           have c75b1 : (a0_4 != 0) = false := bne_eq_false_iff_eq.mpr c75
           clear c75
           obtain rfl := Option.some.inj H
           obtain ⟨⟨hcz76_0, hcz76_1, hcz76_2, hcz76_3, hcz76_4, hcz76_5, hcz76_6⟩, hfz76_0, hfz76_1, hfz76_2, hfz76_3, hfz76_4, hfz76_5, hfz76_6⟩ := Own.c7 BK417.out
           go_wp2_with (first | ((with_reducible refine gate_callee (f := 117) rfl ?_); refine goesL_ (some 69) rfl rfl Try.func117 (by kernel_rfl) rfl #[.int .i64 a0_2] rfl aL ?_; (with_reducible refine (spec_l02Col.calls a0_2 true _ A68.out).mono ?_); rintro e w' ⟨rfl, ⟨nd, rfl⟩⟩; refine ⟨_, rfl, ?_⟩) | (go_at_call 69; (with_reducible refine (spec_l01In.calls a0_3 0 3 true _ A70.out).mono ?_); rintro e w' ⟨rfl, ⟨nd, rfl⟩⟩) | (go_at_call 63; (with_reducible refine (spec_l01Number.calls a0_4 true _ A72.out).mono ?_); rintro e w' ⟨rfl, ⟨nd, rfl⟩⟩))
           go_ret
           exact ⟨rE, bA⟩
          ·rw [if_neg c75] at H
           have c75b0 : (a0_4 == 0) = false := beq_eq_false_iff_ne.mpr c75
           have c75b1 : (a0_4 != 0) = true := bne_iff_ne.mpr c75
           obtain rfl := Option.some.inj H
           obtain ⟨⟨hcz77_0, hcz77_1, hcz77_2, hcz77_3, hcz77_4, hcz77_5, hcz77_6⟩, hfz77_0, hfz77_1, hfz77_2, hfz77_3, hfz77_4, hfz77_5, hfz77_6⟩ := Own.c7 BK417.out
           go_wp2_with (first | ((with_reducible refine gate_callee (f := 117) rfl ?_); refine goesL_ (some 69) rfl rfl Try.func117 (by kernel_rfl) rfl #[.int .i64 a0_2] rfl aL ?_; (with_reducible refine (spec_l02Col.calls a0_2 true _ A68.out).mono ?_); rintro e w' ⟨rfl, ⟨nd, rfl⟩⟩; refine ⟨_, rfl, ?_⟩) | (go_at_call 69; (with_reducible refine (spec_l01In.calls a0_3 0 3 true _ A70.out).mono ?_); rintro e w' ⟨rfl, ⟨nd, rfl⟩⟩) | (go_at_call 63; (with_reducible refine (spec_l01Number.calls a0_4 true _ A72.out).mono ?_); rintro e w' ⟨rfl, ⟨nd, rfl⟩⟩))
           go_ret
           exact ⟨rE, bA⟩
         ·rw [if_neg c74] at H
          have c74b0 : (a0_3 == 3) = false := beq_eq_false_iff_ne.mpr c74
          have c74b1 : (a0_3 != 3) = true := bne_iff_ne.mpr c74
          obtain rfl := Option.some.inj H
          obtain ⟨⟨hcz78_0, hcz78_1, hcz78_2, hcz78_3, hcz78_4, hcz78_5, hcz78_6⟩, hfz78_0, hfz78_1, hfz78_2, hfz78_3, hfz78_4, hfz78_5, hfz78_6⟩ := Own.c7 BK417.out
          go_wp2_with (first | ((with_reducible refine gate_callee (f := 117) rfl ?_); refine goesL_ (some 69) rfl rfl Try.func117 (by kernel_rfl) rfl #[.int .i64 a0_2] rfl aL ?_; (with_reducible refine (spec_l02Col.calls a0_2 true _ A68.out).mono ?_); rintro e w' ⟨rfl, ⟨nd, rfl⟩⟩; refine ⟨_, rfl, ?_⟩) | (go_at_call 69; (with_reducible refine (spec_l01In.calls a0_3 0 3 true _ A70.out).mono ?_); rintro e w' ⟨rfl, ⟨nd, rfl⟩⟩) | (go_at_call 63; (with_reducible refine (spec_l01Number.calls a0_4 true _ A72.out).mono ?_); rintro e w' ⟨rfl, ⟨nd, rfl⟩⟩))
          go_ret
          exact ⟨rE, bA⟩
        ·replace c73 := Bool.eq_false_iff.mpr c73
         subst c73
         have H1 : (some false) = some r := by rw [if_neg (show ¬ (false = true) by decide)] at H; exact H
         clear H
         have H := H1
         clear H1
         obtain rfl := Option.some.inj H
         obtain ⟨⟨hcz79_0, hcz79_1, hcz79_2, hcz79_3, hcz79_4, hcz79_5, hcz79_6⟩, hfz79_0, hfz79_1, hfz79_2, hfz79_3, hfz79_4, hfz79_5, hfz79_6⟩ := Own.c7 BK417.out
         go_wp2_with (first | ((with_reducible refine gate_callee (f := 117) rfl ?_); refine goesL_ (some 69) rfl rfl Try.func117 (by kernel_rfl) rfl #[.int .i64 a0_2] rfl aL ?_; (with_reducible refine (spec_l02Col.calls a0_2 true _ A68.out).mono ?_); rintro e w' ⟨rfl, ⟨nd, rfl⟩⟩; refine ⟨_, rfl, ?_⟩) | (go_at_call 69; (with_reducible refine (spec_l01In.calls a0_3 0 3 true _ A70.out).mono ?_); rintro e w' ⟨rfl, ⟨nd, rfl⟩⟩) | (go_at_call 63; (with_reducible refine (spec_l01Number.calls a0_4 false _ A72.out).mono ?_); rintro e w' ⟨rfl, ⟨nd, rfl⟩⟩))
         go_ret
         exact ⟨rE, bA⟩
       ·replace c71 := Bool.eq_false_iff.mpr c71
        subst c71
        have H1 : (some false) = some r := by rw [if_neg (show ¬ (false = true) by decide)] at H; exact H
        clear H
        have H := H1
        clear H1
        obtain rfl := Option.some.inj H
        obtain ⟨⟨hcz80_0, hcz80_1, hcz80_2, hcz80_3, hcz80_4, hcz80_5, hcz80_6⟩, hfz80_0, hfz80_1, hfz80_2, hfz80_3, hfz80_4, hfz80_5, hfz80_6⟩ := Own.c7 BK417.out
        go_wp2_with (first | ((with_reducible refine gate_callee (f := 117) rfl ?_); refine goesL_ (some 69) rfl rfl Try.func117 (by kernel_rfl) rfl #[.int .i64 a0_2] rfl aL ?_; (with_reducible refine (spec_l02Col.calls a0_2 true _ A68.out).mono ?_); rintro e w' ⟨rfl, ⟨nd, rfl⟩⟩; refine ⟨_, rfl, ?_⟩) | (go_at_call 69; (with_reducible refine (spec_l01In.calls a0_3 0 3 false _ A70.out).mono ?_); rintro e w' ⟨rfl, ⟨nd, rfl⟩⟩))
        go_ret
        exact ⟨rE, bA⟩
      ·replace c69 := Bool.eq_false_iff.mpr c69
       subst c69
       have H1 : (some false) = some r := by rw [if_neg (show ¬ (false = true) by decide)] at H; exact H
       clear H
       have H := H1
       clear H1
       obtain rfl := Option.some.inj H
       obtain ⟨⟨hcz81_0, hcz81_1, hcz81_2, hcz81_3, hcz81_4, hcz81_5, hcz81_6⟩, hfz81_0, hfz81_1, hfz81_2, hfz81_3, hfz81_4, hfz81_5, hfz81_6⟩ := Own.c7 BK417.out
       go_wp2_with (first | ((with_reducible refine gate_callee (f := 117) rfl ?_); refine goesL_ (some 69) rfl rfl Try.func117 (by kernel_rfl) rfl #[.int .i64 a0_2] rfl aL ?_; (with_reducible refine (spec_l02Col.calls a0_2 false _ A68.out).mono ?_); rintro e w' ⟨rfl, ⟨nd, rfl⟩⟩; refine ⟨_, rfl, ?_⟩))
       go_ret
       exact ⟨rE, bA⟩
     ·rw [if_neg c67] at H
      have c67b0 : (a0_0 == 1) = false := beq_eq_false_iff_ne.mpr c67
      have c67b1 : (a0_0 != 1) = true := bne_iff_ne.mpr c67
      by_cases c82 : a0_0 = 2
      ·rw [if_pos c82] at H
       have c82b0 : (a0_0 == 2) = true := beq_iff_eq.mpr c82
       have c82b1 : (a0_0 != 2) = false := bne_eq_false_iff_eq.mpr c82
       clear c82
       have H' := Aside0.mk H
       clear H
       obtain ⟨⟨hcz83_0, hcz83_1, hcz83_2, hcz83_3, hcz83_4, hcz83_5, hcz83_6⟩, hfz83_0, hfz83_1, hfz83_2, hfz83_3, hfz83_4, hfz83_5, hfz83_6⟩ := Own.c7 BK417.out
       go_wp2
       go_loopg [3] kj1 (fun kq v3 w' => ∃ (x3_2 : Int), v3 = .int .i64 x3_2 ∧ Aside0 (spec_NodeOk.l0 kq x3_2 a0_0 a0_1 a0_2 a0_3 a0_4 a0_5 l0_6 = some r) ∧ Aside0 (kq ≤ kj1) ∧ Aside0 (w'.heap[gb417]? = some (.cells #[.int .i64 a0_0, .string a0_1, .int .i64 a0_2, .int .i64 a0_3, .int .i64 a0_4, .bool a0_5, (.slice A0_6 l0_6.length c0_6)] 58 (0, 0))) ∧ Aside0 (Below w.heap.size w w'))
       case atStart => exact ⟨(0), rF, H', ⟨Nat.le_refl _⟩, ⟨by (with_reducible repeat (first | refine blk_drewN ?_ _ | refine blk_drew ?_ | refine blk_alloc ?_ _)); exact BK417.out⟩, ⟨bA⟩⟩
       case round =>
        clear H'
        try clear c1
        try clear c2
        try clear p2
        try clear c5
        try clear c6
        try clear c7
        try clear c8
        try clear c11
        try clear c26
        try clear c57
        try clear c58
        try clear c58b0
        try clear c58b1
        try clear c60
        try clear c61
        try clear c61b0
        try clear c61b1
        try clear c62
        try clear c62b0
        try clear c62b1
        try clear c67
        try clear c67b0
        try clear c67b1
        try clear c69
        try clear c71
        try clear c73
        try clear c74
        try clear c74b0
        try clear c74b1
        try clear c75
        try clear c75b0
        try clear c75b1
        try clear c82
        try clear c82b0
        try clear c82b1
        try clear hcz23_4
        try clear hcz23_5
        try clear hcz23_6
        try clear hcz27_0 hcz27_1 hcz27_2 hcz27_3 hcz27_4 hcz27_5 hcz27_6
        try clear hcz28_0 hcz28_1 hcz28_2 hcz28_3 hcz28_4 hcz28_5 hcz28_6
        try clear hcz29_0 hcz29_1 hcz29_2 hcz29_3 hcz29_4 hcz29_5 hcz29_6
        try clear hcz35_0 hcz35_1 hcz35_2 hcz35_3 hcz35_4 hcz35_5 hcz35_6
        try clear hcz36_0 hcz36_1 hcz36_2 hcz36_3 hcz36_4 hcz36_5 hcz36_6
        try clear hcz40_0 hcz40_1 hcz40_2 hcz40_3 hcz40_4 hcz40_5 hcz40_6
        try clear hcz41_0 hcz41_1 hcz41_2 hcz41_3 hcz41_4 hcz41_5 hcz41_6
        try clear hcz42_0 hcz42_1 hcz42_2 hcz42_3 hcz42_4 hcz42_5 hcz42_6
        try clear hcz44_0 hcz44_1 hcz44_2 hcz44_3 hcz44_4 hcz44_5 hcz44_6
        try clear hcz48_0 hcz48_1 hcz48_2 hcz48_3 hcz48_4 hcz48_5 hcz48_6
        try clear hcz49_0 hcz49_1 hcz49_2 hcz49_3 hcz49_4 hcz49_5 hcz49_6
        try clear hcz53_0 hcz53_1 hcz53_2 hcz53_3 hcz53_4 hcz53_5 hcz53_6
        try clear hcz54_0 hcz54_1 hcz54_2 hcz54_3 hcz54_4 hcz54_5 hcz54_6
        try clear hcz55_0 hcz55_1 hcz55_2 hcz55_3 hcz55_4 hcz55_5 hcz55_6
        try clear hcz56_0 hcz56_1 hcz56_2 hcz56_3 hcz56_4 hcz56_5 hcz56_6
        try clear hcz63_0 hcz63_1 hcz63_2 hcz63_3 hcz63_4 hcz63_5 hcz63_6
        try clear hcz64_0 hcz64_1 hcz64_2 hcz64_3 hcz64_4 hcz64_5 hcz64_6
        try clear hcz65_0 hcz65_1 hcz65_2 hcz65_3 hcz65_4 hcz65_5 hcz65_6
        try clear hcz66_0 hcz66_1 hcz66_2 hcz66_3 hcz66_4 hcz66_5 hcz66_6
        try clear hcz76_0 hcz76_1 hcz76_2 hcz76_3 hcz76_4 hcz76_5 hcz76_6
        try clear hcz77_0 hcz77_1 hcz77_2 hcz77_3 hcz77_4 hcz77_5 hcz77_6
        try clear hcz78_0 hcz78_1 hcz78_2 hcz78_3 hcz78_4 hcz78_5 hcz78_6
        try clear hcz79_0 hcz79_1 hcz79_2 hcz79_3 hcz79_4 hcz79_5 hcz79_6
        try clear hcz80_0 hcz80_1 hcz80_2 hcz80_3 hcz80_4 hcz80_5 hcz80_6
        try clear hcz81_0 hcz81_1 hcz81_2 hcz81_3 hcz81_4 hcz81_5 hcz81_6
        try clear hcz83_0 hcz83_1 hcz83_2 hcz83_3 hcz83_4 hcz83_5 hcz83_6
        try clear hfz14_0 hfz14_1 hfz14_2 hfz14_3 hfz14_4 hfz14_5 hfz14_6
        try clear hfz15_0 hfz15_1 hfz15_2 hfz15_3 hfz15_4 hfz15_5 hfz15_6
        try clear hfz16_0 hfz16_1 hfz16_2 hfz16_3 hfz16_4 hfz16_5 hfz16_6
        try clear hfz18_0 hfz18_1 hfz18_2 hfz18_3 hfz18_4 hfz18_5 hfz18_6
        try clear hfz22_0 hfz22_1 hfz22_2 hfz22_3 hfz22_4 hfz22_5 hfz22_6
        try clear hfz23_0 hfz23_1 hfz23_2 hfz23_3 hfz23_4 hfz23_5 hfz23_6
        try clear hfz27_0 hfz27_1 hfz27_2 hfz27_3 hfz27_4 hfz27_5 hfz27_6
        try clear hfz28_0 hfz28_1 hfz28_2 hfz28_3 hfz28_4 hfz28_5 hfz28_6
        try clear hfz29_0 hfz29_1 hfz29_2 hfz29_3 hfz29_4 hfz29_5 hfz29_6
        try clear hfz35_0 hfz35_1 hfz35_2 hfz35_3 hfz35_4 hfz35_5 hfz35_6
        try clear hfz36_0 hfz36_1 hfz36_2 hfz36_3 hfz36_4 hfz36_5 hfz36_6
        try clear hfz40_0 hfz40_1 hfz40_2 hfz40_3 hfz40_4 hfz40_5 hfz40_6
        try clear hfz41_0 hfz41_1 hfz41_2 hfz41_3 hfz41_4 hfz41_5 hfz41_6
        try clear hfz42_0 hfz42_1 hfz42_2 hfz42_3 hfz42_4 hfz42_5 hfz42_6
        try clear hfz44_0 hfz44_1 hfz44_2 hfz44_3 hfz44_4 hfz44_5 hfz44_6
        try clear hfz48_0 hfz48_1 hfz48_2 hfz48_3 hfz48_4 hfz48_5 hfz48_6
        try clear hfz49_0 hfz49_1 hfz49_2 hfz49_3 hfz49_4 hfz49_5 hfz49_6
        try clear hfz53_0 hfz53_1 hfz53_2 hfz53_3 hfz53_4 hfz53_5 hfz53_6
        try clear hfz54_0 hfz54_1 hfz54_2 hfz54_3 hfz54_4 hfz54_5 hfz54_6
        try clear hfz55_0 hfz55_1 hfz55_2 hfz55_3 hfz55_4 hfz55_5 hfz55_6
        try clear hfz56_0 hfz56_1 hfz56_2 hfz56_3 hfz56_4 hfz56_5 hfz56_6
        try clear hfz63_0 hfz63_1 hfz63_2 hfz63_3 hfz63_4 hfz63_5 hfz63_6
        try clear hfz64_0 hfz64_1 hfz64_2 hfz64_3 hfz64_4 hfz64_5 hfz64_6
        try clear hfz65_0 hfz65_1 hfz65_2 hfz65_3 hfz65_4 hfz65_5 hfz65_6
        try clear hfz66_0 hfz66_1 hfz66_2 hfz66_3 hfz66_4 hfz66_5 hfz66_6
        try clear hfz76_0 hfz76_1 hfz76_2 hfz76_3 hfz76_4 hfz76_5 hfz76_6
        try clear hfz77_0 hfz77_1 hfz77_2 hfz77_3 hfz77_4 hfz77_5 hfz77_6
        try clear hfz78_0 hfz78_1 hfz78_2 hfz78_3 hfz78_4 hfz78_5 hfz78_6
        try clear hfz79_0 hfz79_1 hfz79_2 hfz79_3 hfz79_4 hfz79_5 hfz79_6
        try clear hfz80_0 hfz80_1 hfz80_2 hfz80_3 hfz80_4 hfz80_5 hfz80_6
        try clear hfz81_0 hfz81_1 hfz81_2 hfz81_3 hfz81_4 hfz81_5 hfz81_6
        try clear hfz83_0 hfz83_1 hfz83_2 hfz83_3 hfz83_4 hfz83_5 hfz83_6
        obtain ⟨x3_2, rfl, HA, HK2, BK417, HB⟩ := hrel
        cases gk with
        | zero => exact absurd HA.out (by simp [spec_NodeOk.l0])
        | succ k2 =>
         have H := HA.out
         clear HA
         simp only [spec_NodeOk.l0] at H
         by_cases c84 : x3_2 < (l0_6.length : Int)
         ·rw [if_pos c84] at H
          have c84b0 : decide (x3_2 < (l0_6.length : Int)) = true := decide_eq_true c84
          clear c84
          by_cases c85 : 0 ≤ x3_2
          ·rw [if_pos c85] at H
           have c85b0 : decide (0 ≤ x3_2) = true := decide_eq_true c85
           clear c85
           replace H := Option.bind_eq_some_iff.mp H
           obtain ⟨t431, A860, H⟩ := H
           replace H : (if t431 = true then (spec_NodeOk.l0 k2 (wrap64 (x3_2 + 1)) a0_0 a0_1 a0_2 a0_3 a0_4 a0_5 l0_6) else (some false)) = some r := H
           have A86 := Aside0.mk A860
           clear A860
           by_cases c87 : t431 = true
           ·subst c87
            have H1 : (spec_NodeOk.l0 k2 (wrap64 (x3_2 + 1)) a0_0 a0_1 a0_2 a0_3 a0_4 a0_5 l0_6) = some r := by rw [if_pos rfl] at H; exact H
            clear H
            have H := H1
            clear H1
            have H' := Aside0.mk H
            clear H
            obtain ⟨⟨hcz88_0, hcz88_1, hcz88_2, hcz88_3, hcz88_4, hcz88_5, hcz88_6⟩, hfz88_0, hfz88_1, hfz88_2, hfz88_3, hfz88_4, hfz88_5, hfz88_6⟩ := Own.c7 BK417.out
            have p430 : 0 ≤ (x3_2 : Int) := of_decide_eq_true (by assumption)
            have q430 : x3_2 < (l0_6.length : Int) := of_decide_eq_true (by assumption)
            obtain ⟨ad430, e430, hx430_0⟩ := Kd.at_int HR0_6.out x3_2 p430 q430
            cases e430
            replace hx430_0 := hxB HB.out hx430_0
            replace p430 := eq_true p430
            replace q430 := eq_true q430
            go_wp2_with (first | ((with_reducible refine gate_callee (f := 117) rfl ?_); refine goesL_ (some 109) rfl rfl Try.func117 (by kernel_rfl) rfl #[.int .i64 (rd l0_6 x3_2)] rfl aL ?_; (with_reducible refine (spec_l02Col.calls (rd l0_6 x3_2) true _ A86.out).mono ?_); rintro e w' ⟨rfl, ⟨nd, rfl⟩⟩; refine ⟨_, rfl, ?_⟩))
            go_roundg k2
            case measure => have := HJ1.out; have := HK2.out; omega
            case rel => exact ⟨(wrap64 (x3_2 + 1)), rF, H', ⟨by have := HJ1.out; have := HK2.out; omega⟩, ⟨by (with_reducible repeat (first | refine blk_drewN ?_ _ | refine blk_drew ?_ | refine blk_alloc ?_ _)); exact BK417.out⟩, ⟨bA⟩⟩
           ·replace c87 := Bool.eq_false_iff.mpr c87
            subst c87
            have H1 : (some false) = some r := by rw [if_neg (show ¬ (false = true) by decide)] at H; exact H
            clear H
            have H := H1
            clear H1
            obtain rfl := Option.some.inj H
            obtain ⟨⟨hcz89_0, hcz89_1, hcz89_2, hcz89_3, hcz89_4, hcz89_5, hcz89_6⟩, hfz89_0, hfz89_1, hfz89_2, hfz89_3, hfz89_4, hfz89_5, hfz89_6⟩ := Own.c7 BK417.out
            have p430 : 0 ≤ (x3_2 : Int) := of_decide_eq_true (by assumption)
            have q430 : x3_2 < (l0_6.length : Int) := of_decide_eq_true (by assumption)
            obtain ⟨ad430, e430, hx430_0⟩ := Kd.at_int HR0_6.out x3_2 p430 q430
            cases e430
            replace hx430_0 := hxB HB.out hx430_0
            replace p430 := eq_true p430
            replace q430 := eq_true q430
            go_wp2_with (first | ((with_reducible refine gate_callee (f := 117) rfl ?_); refine goesL_ (some 109) rfl rfl Try.func117 (by kernel_rfl) rfl #[.int .i64 (rd l0_6 x3_2)] rfl aL ?_; (with_reducible refine (spec_l02Col.calls (rd l0_6 x3_2) false _ A86.out).mono ?_); rintro e w' ⟨rfl, ⟨nd, rfl⟩⟩; refine ⟨_, rfl, ?_⟩))
            go_ret
            exact ⟨rE, bA⟩
          ·rw [if_neg c85] at H
           exact absurd H (by simp)
         ·rw [if_neg c84] at H
          have c84b0 : decide (x3_2 < (l0_6.length : Int)) = false := decide_eq_false c84
          clear c84
          replace H := Option.bind_eq_some_iff.mp H
          obtain ⟨t432, A900, H⟩ := H
          replace H : (if t432 = true then (if a0_2 = 0 then (if a0_4 = 0 then (some (!a0_5)) else (some false)) else (some false)) else (some false)) = some r := H
          have A90 := Aside0.mk A900
          clear A900
          by_cases c91 : t432 = true
          ·subst c91
           have H1 : (if a0_2 = 0 then (if a0_4 = 0 then (some (!a0_5)) else (some false)) else (some false)) = some r := by rw [if_pos rfl] at H; exact H
           clear H
           have H := H1
           clear H1
           by_cases c92 : a0_2 = 0
           ·rw [if_pos c92] at H
            have c92b0 : (a0_2 == 0) = true := beq_iff_eq.mpr c92
            have c92b1 : (a0_2 != 0) = false := bne_eq_false_iff_eq.mpr c92
            clear c92
            by_cases c93 : a0_4 = 0
            ·rw [if_pos c93] at H
             have c93b0 : (a0_4 == 0) = true := beq_iff_eq.mpr c93
             have c93b1 : (a0_4 != 0) = false := bne_eq_false_iff_eq.mpr c93
             clear c93
             obtain rfl := Option.some.inj H
             obtain ⟨⟨hcz94_0, hcz94_1, hcz94_2, hcz94_3, hcz94_4, hcz94_5, hcz94_6⟩, hfz94_0, hfz94_1, hfz94_2, hfz94_3, hfz94_4, hfz94_5, hfz94_6⟩ := Own.c7 BK417.out
             go_wp2_with (first | ((with_reducible refine gate_callee (f := 69) rfl ?_); refine goesL_ (some 114) rfl rfl Try.func69 (by kernel_rfl) rfl #[.int .i64 (l0_6.length : Int), .int .i64 1, .int .i64 6] rfl aL ?_; (with_reducible refine (spec_l01In.calls (l0_6.length : Int) 1 6 true _ A90.out).mono ?_); rintro e w' ⟨rfl, ⟨nd, rfl⟩⟩; refine ⟨_, rfl, ?_⟩))
             go_ret
             exact ⟨rE, bA⟩
            ·rw [if_neg c93] at H
             have c93b0 : (a0_4 == 0) = false := beq_eq_false_iff_ne.mpr c93
             have c93b1 : (a0_4 != 0) = true := bne_iff_ne.mpr c93
             obtain rfl := Option.some.inj H
             obtain ⟨⟨hcz95_0, hcz95_1, hcz95_2, hcz95_3, hcz95_4, hcz95_5, hcz95_6⟩, hfz95_0, hfz95_1, hfz95_2, hfz95_3, hfz95_4, hfz95_5, hfz95_6⟩ := Own.c7 BK417.out
             go_wp2_with (first | ((with_reducible refine gate_callee (f := 69) rfl ?_); refine goesL_ (some 114) rfl rfl Try.func69 (by kernel_rfl) rfl #[.int .i64 (l0_6.length : Int), .int .i64 1, .int .i64 6] rfl aL ?_; (with_reducible refine (spec_l01In.calls (l0_6.length : Int) 1 6 true _ A90.out).mono ?_); rintro e w' ⟨rfl, ⟨nd, rfl⟩⟩; refine ⟨_, rfl, ?_⟩))
             go_ret
             exact ⟨rE, bA⟩
           ·rw [if_neg c92] at H
            have c92b0 : (a0_2 == 0) = false := beq_eq_false_iff_ne.mpr c92
            have c92b1 : (a0_2 != 0) = true := bne_iff_ne.mpr c92
            obtain rfl := Option.some.inj H
            obtain ⟨⟨hcz96_0, hcz96_1, hcz96_2, hcz96_3, hcz96_4, hcz96_5, hcz96_6⟩, hfz96_0, hfz96_1, hfz96_2, hfz96_3, hfz96_4, hfz96_5, hfz96_6⟩ := Own.c7 BK417.out
            go_wp2_with (first | ((with_reducible refine gate_callee (f := 69) rfl ?_); refine goesL_ (some 114) rfl rfl Try.func69 (by kernel_rfl) rfl #[.int .i64 (l0_6.length : Int), .int .i64 1, .int .i64 6] rfl aL ?_; (with_reducible refine (spec_l01In.calls (l0_6.length : Int) 1 6 true _ A90.out).mono ?_); rintro e w' ⟨rfl, ⟨nd, rfl⟩⟩; refine ⟨_, rfl, ?_⟩))
            go_ret
            exact ⟨rE, bA⟩
          ·replace c91 := Bool.eq_false_iff.mpr c91
           subst c91
           have H1 : (some false) = some r := by rw [if_neg (show ¬ (false = true) by decide)] at H; exact H
           clear H
           have H := H1
           clear H1
           obtain rfl := Option.some.inj H
           obtain ⟨⟨hcz97_0, hcz97_1, hcz97_2, hcz97_3, hcz97_4, hcz97_5, hcz97_6⟩, hfz97_0, hfz97_1, hfz97_2, hfz97_3, hfz97_4, hfz97_5, hfz97_6⟩ := Own.c7 BK417.out
           go_wp2_with (first | ((with_reducible refine gate_callee (f := 69) rfl ?_); refine goesL_ (some 114) rfl rfl Try.func69 (by kernel_rfl) rfl #[.int .i64 (l0_6.length : Int), .int .i64 1, .int .i64 6] rfl aL ?_; (with_reducible refine (spec_l01In.calls (l0_6.length : Int) 1 6 false _ A90.out).mono ?_); rintro e w' ⟨rfl, ⟨nd, rfl⟩⟩; refine ⟨_, rfl, ?_⟩))
           go_ret
           exact ⟨rE, bA⟩
      ·rw [if_neg c82] at H
       have c82b0 : (a0_0 == 2) = false := beq_eq_false_iff_ne.mpr c82
       have c82b1 : (a0_0 != 2) = true := bne_iff_ne.mpr c82
       by_cases c98 : a0_0 = 3
       ·rw [if_pos c98] at H
        have c98b0 : (a0_0 == 3) = true := beq_iff_eq.mpr c98
        have c98b1 : (a0_0 != 3) = false := bne_eq_false_iff_eq.mpr c98
        clear c98
        replace H := Option.bind_eq_some_iff.mp H
        obtain ⟨t433, A990, H⟩ := H
        replace H : (if t433 = true then ((spec_l02Col.f a0_4).bind fun t434 => (if t434 = true then (some (!a0_5)) else (some false))) else (some false)) = some r := H
        have A99 := Aside0.mk A990
        clear A990
        by_cases c100 : t433 = true
        ·subst c100
         have H1 : ((spec_l02Col.f a0_4).bind fun t434 => (if t434 = true then (some (!a0_5)) else (some false))) = some r := by rw [if_pos rfl] at H; exact H
         clear H
         have H := H1
         clear H1
         replace H := Option.bind_eq_some_iff.mp H
         obtain ⟨t434, A1010, H⟩ := H
         replace H : (if t434 = true then (some (!a0_5)) else (some false)) = some r := H
         have A101 := Aside0.mk A1010
         clear A1010
         by_cases c102 : t434 = true
         ·subst c102
          have H1 : (some (!a0_5)) = some r := by rw [if_pos rfl] at H; exact H
          clear H
          have H := H1
          clear H1
          obtain rfl := Option.some.inj H
          obtain ⟨⟨hcz103_0, hcz103_1, hcz103_2, hcz103_3, hcz103_4, hcz103_5, hcz103_6⟩, hfz103_0, hfz103_1, hfz103_2, hfz103_3, hfz103_4, hfz103_5, hfz103_6⟩ := Own.c7 BK417.out
          go_wp2_with (first | ((with_reducible refine gate_callee (f := 117) rfl ?_); refine goesL_ (some 134) rfl rfl Try.func117 (by kernel_rfl) rfl #[.int .i64 a0_2] rfl aL ?_; (with_reducible refine (spec_l02Col.calls a0_2 true _ A99.out).mono ?_); rintro e w' ⟨rfl, ⟨nd, rfl⟩⟩; refine ⟨_, rfl, ?_⟩) | (go_at_call 117; (with_reducible refine (spec_l02Col.calls a0_4 true _ A101.out).mono ?_); rintro e w' ⟨rfl, ⟨nd, rfl⟩⟩))
          go_ret
          exact ⟨rE, bA⟩
         ·replace c102 := Bool.eq_false_iff.mpr c102
          subst c102
          have H1 : (some false) = some r := by rw [if_neg (show ¬ (false = true) by decide)] at H; exact H
          clear H
          have H := H1
          clear H1
          obtain rfl := Option.some.inj H
          obtain ⟨⟨hcz104_0, hcz104_1, hcz104_2, hcz104_3, hcz104_4, hcz104_5, hcz104_6⟩, hfz104_0, hfz104_1, hfz104_2, hfz104_3, hfz104_4, hfz104_5, hfz104_6⟩ := Own.c7 BK417.out
          go_wp2_with (first | ((with_reducible refine gate_callee (f := 117) rfl ?_); refine goesL_ (some 134) rfl rfl Try.func117 (by kernel_rfl) rfl #[.int .i64 a0_2] rfl aL ?_; (with_reducible refine (spec_l02Col.calls a0_2 true _ A99.out).mono ?_); rintro e w' ⟨rfl, ⟨nd, rfl⟩⟩; refine ⟨_, rfl, ?_⟩) | (go_at_call 117; (with_reducible refine (spec_l02Col.calls a0_4 false _ A101.out).mono ?_); rintro e w' ⟨rfl, ⟨nd, rfl⟩⟩))
          go_ret
          exact ⟨rE, bA⟩
        ·replace c100 := Bool.eq_false_iff.mpr c100
         subst c100
         have H1 : (some false) = some r := by rw [if_neg (show ¬ (false = true) by decide)] at H; exact H
         clear H
         have H := H1
         clear H1
         obtain rfl := Option.some.inj H
         obtain ⟨⟨hcz105_0, hcz105_1, hcz105_2, hcz105_3, hcz105_4, hcz105_5, hcz105_6⟩, hfz105_0, hfz105_1, hfz105_2, hfz105_3, hfz105_4, hfz105_5, hfz105_6⟩ := Own.c7 BK417.out
         go_wp2_with (first | ((with_reducible refine gate_callee (f := 117) rfl ?_); refine goesL_ (some 134) rfl rfl Try.func117 (by kernel_rfl) rfl #[.int .i64 a0_2] rfl aL ?_; (with_reducible refine (spec_l02Col.calls a0_2 false _ A99.out).mono ?_); rintro e w' ⟨rfl, ⟨nd, rfl⟩⟩; refine ⟨_, rfl, ?_⟩))
         go_ret
         exact ⟨rE, bA⟩
       ·rw [if_neg c98] at H
        have c98b0 : (a0_0 == 3) = false := beq_eq_false_iff_ne.mpr c98
        have c98b1 : (a0_0 != 3) = true := bne_iff_ne.mpr c98
        by_cases c106 : a0_0 = 5
        ·rw [if_pos c106] at H
         have c106b0 : (a0_0 == 5) = true := beq_iff_eq.mpr c106
         have c106b1 : (a0_0 != 5) = false := bne_eq_false_iff_eq.mpr c106
         clear c106
         replace H := Option.bind_eq_some_iff.mp H
         obtain ⟨t435, A1070, H⟩ := H
         replace H : (if t435 = true then (if a0_4 = 0 then (some (!a0_5)) else (some false)) else (some false)) = some r := H
         have A107 := Aside0.mk A1070
         clear A1070
         by_cases c108 : t435 = true
         ·subst c108
          have H1 : (if a0_4 = 0 then (some (!a0_5)) else (some false)) = some r := by rw [if_pos rfl] at H; exact H
          clear H
          have H := H1
          clear H1
          by_cases c109 : a0_4 = 0
          ·rw [if_pos c109] at H
           have c109b0 : (a0_4 == 0) = true := beq_iff_eq.mpr c109
           have c109b1 : (a0_4 != 0) = false := bne_eq_false_iff_eq.mpr c109
           clear c109
           obtain rfl := Option.some.inj H
           obtain ⟨⟨hcz110_0, hcz110_1, hcz110_2, hcz110_3, hcz110_4, hcz110_5, hcz110_6⟩, hfz110_0, hfz110_1, hfz110_2, hfz110_3, hfz110_4, hfz110_5, hfz110_6⟩ := Own.c7 BK417.out
           go_wp2_with (first | ((with_reducible refine gate_callee (f := 117) rfl ?_); refine goesL_ (some 149) rfl rfl Try.func117 (by kernel_rfl) rfl #[.int .i64 a0_2] rfl aL ?_; (with_reducible refine (spec_l02Col.calls a0_2 true _ A107.out).mono ?_); rintro e w' ⟨rfl, ⟨nd, rfl⟩⟩; refine ⟨_, rfl, ?_⟩))
           go_ret
           exact ⟨rE, bA⟩
          ·rw [if_neg c109] at H
           have c109b0 : (a0_4 == 0) = false := beq_eq_false_iff_ne.mpr c109
           have c109b1 : (a0_4 != 0) = true := bne_iff_ne.mpr c109
           obtain rfl := Option.some.inj H
           obtain ⟨⟨hcz111_0, hcz111_1, hcz111_2, hcz111_3, hcz111_4, hcz111_5, hcz111_6⟩, hfz111_0, hfz111_1, hfz111_2, hfz111_3, hfz111_4, hfz111_5, hfz111_6⟩ := Own.c7 BK417.out
           go_wp2_with (first | ((with_reducible refine gate_callee (f := 117) rfl ?_); refine goesL_ (some 149) rfl rfl Try.func117 (by kernel_rfl) rfl #[.int .i64 a0_2] rfl aL ?_; (with_reducible refine (spec_l02Col.calls a0_2 true _ A107.out).mono ?_); rintro e w' ⟨rfl, ⟨nd, rfl⟩⟩; refine ⟨_, rfl, ?_⟩))
           go_ret
           exact ⟨rE, bA⟩
         ·replace c108 := Bool.eq_false_iff.mpr c108
          subst c108
          have H1 : (some false) = some r := by rw [if_neg (show ¬ (false = true) by decide)] at H; exact H
          clear H
          have H := H1
          clear H1
          obtain rfl := Option.some.inj H
          obtain ⟨⟨hcz112_0, hcz112_1, hcz112_2, hcz112_3, hcz112_4, hcz112_5, hcz112_6⟩, hfz112_0, hfz112_1, hfz112_2, hfz112_3, hfz112_4, hfz112_5, hfz112_6⟩ := Own.c7 BK417.out
          go_wp2_with (first | ((with_reducible refine gate_callee (f := 117) rfl ?_); refine goesL_ (some 149) rfl rfl Try.func117 (by kernel_rfl) rfl #[.int .i64 a0_2] rfl aL ?_; (with_reducible refine (spec_l02Col.calls a0_2 false _ A107.out).mono ?_); rintro e w' ⟨rfl, ⟨nd, rfl⟩⟩; refine ⟨_, rfl, ?_⟩))
          go_ret
          exact ⟨rE, bA⟩
        ·rw [if_neg c106] at H
         have c106b0 : (a0_0 == 5) = false := beq_eq_false_iff_ne.mpr c106
         have c106b1 : (a0_0 != 5) = true := bne_iff_ne.mpr c106
         by_cases c113 : a0_0 = 6
         ·rw [if_pos c113] at H
          have c113b0 : (a0_0 == 6) = true := beq_iff_eq.mpr c113
          have c113b1 : (a0_0 != 6) = false := bne_eq_false_iff_eq.mpr c113
          clear c113
          by_cases c114 : a0_2 = 0
          ·rw [if_pos c114] at H
           have c114b0 : (a0_2 == 0) = true := beq_iff_eq.mpr c114
           have c114b1 : (a0_2 != 0) = false := bne_eq_false_iff_eq.mpr c114
           clear c114
           replace H := Option.bind_eq_some_iff.mp H
           obtain ⟨t436, A1150, H⟩ := H
           replace H : (some t436) = some r := H
           have A115 := Aside0.mk A1150
           clear A1150
           obtain rfl := Option.some.inj H
           obtain ⟨⟨hcz116_0, hcz116_1, hcz116_2, hcz116_3, hcz116_4, hcz116_5, hcz116_6⟩, hfz116_0, hfz116_1, hfz116_2, hfz116_3, hfz116_4, hfz116_5, hfz116_6⟩ := Own.c7 BK417.out
           go_wp2_with (first | (go_at_call 69; (with_reducible refine (spec_l01In.calls a0_4 0 1000000 t436 _ A115.out).mono ?_); rintro e w' ⟨rfl, ⟨nd, rfl⟩⟩))
           go_ret
           exact ⟨rE, bA⟩
          ·rw [if_neg c114] at H
           have c114b0 : (a0_2 == 0) = false := beq_eq_false_iff_ne.mpr c114
           have c114b1 : (a0_2 != 0) = true := bne_iff_ne.mpr c114
           obtain rfl := Option.some.inj H
           obtain ⟨⟨hcz117_0, hcz117_1, hcz117_2, hcz117_3, hcz117_4, hcz117_5, hcz117_6⟩, hfz117_0, hfz117_1, hfz117_2, hfz117_3, hfz117_4, hfz117_5, hfz117_6⟩ := Own.c7 BK417.out
           go_wp2
           go_ret
           exact ⟨rE, bA⟩
         ·rw [if_neg c113] at H
          have c113b0 : (a0_0 == 6) = false := beq_eq_false_iff_ne.mpr c113
          have c113b1 : (a0_0 != 6) = true := bne_iff_ne.mpr c113
          by_cases c118 : a0_0 = 4
          ·rw [if_pos c118] at H
           have c118b0 : (a0_0 == 4) = true := beq_iff_eq.mpr c118
           have c118b1 : (a0_0 != 4) = false := bne_eq_false_iff_eq.mpr c118
           clear c118
           by_cases c119 : a0_2 = 0
           ·rw [if_pos c119] at H
            have c119b0 : (a0_2 == 0) = true := beq_iff_eq.mpr c119
            have c119b1 : (a0_2 != 0) = false := bne_eq_false_iff_eq.mpr c119
            clear c119
            by_cases c120 : a0_4 = 0
            ·rw [if_pos c120] at H
             have c120b0 : (a0_4 == 0) = true := beq_iff_eq.mpr c120
             have c120b1 : (a0_4 != 0) = false := bne_eq_false_iff_eq.mpr c120
             clear c120
             obtain rfl := Option.some.inj H
             obtain ⟨⟨hcz121_0, hcz121_1, hcz121_2, hcz121_3, hcz121_4, hcz121_5, hcz121_6⟩, hfz121_0, hfz121_1, hfz121_2, hfz121_3, hfz121_4, hfz121_5, hfz121_6⟩ := Own.c7 BK417.out
             go_wp2
             go_ret
             exact ⟨rE, bA⟩
            ·rw [if_neg c120] at H
             have c120b0 : (a0_4 == 0) = false := beq_eq_false_iff_ne.mpr c120
             have c120b1 : (a0_4 != 0) = true := bne_iff_ne.mpr c120
             obtain rfl := Option.some.inj H
             obtain ⟨⟨hcz122_0, hcz122_1, hcz122_2, hcz122_3, hcz122_4, hcz122_5, hcz122_6⟩, hfz122_0, hfz122_1, hfz122_2, hfz122_3, hfz122_4, hfz122_5, hfz122_6⟩ := Own.c7 BK417.out
             go_wp2
             go_ret
             exact ⟨rE, bA⟩
           ·rw [if_neg c119] at H
            have c119b0 : (a0_2 == 0) = false := beq_eq_false_iff_ne.mpr c119
            have c119b1 : (a0_2 != 0) = true := bne_iff_ne.mpr c119
            obtain rfl := Option.some.inj H
            obtain ⟨⟨hcz123_0, hcz123_1, hcz123_2, hcz123_3, hcz123_4, hcz123_5, hcz123_6⟩, hfz123_0, hfz123_1, hfz123_2, hfz123_3, hfz123_4, hfz123_5, hfz123_6⟩ := Own.c7 BK417.out
            go_wp2
            go_ret
            exact ⟨rE, bA⟩
          ·rw [if_neg c118] at H
           have c118b0 : (a0_0 == 4) = false := beq_eq_false_iff_ne.mpr c118
           have c118b1 : (a0_0 != 4) = true := bne_iff_ne.mpr c118
           by_cases c124 : a0_0 = 7
           ·rw [if_pos c124] at H
            have c124b0 : (a0_0 == 7) = true := beq_iff_eq.mpr c124
            have c124b1 : (a0_0 != 7) = false := bne_eq_false_iff_eq.mpr c124
            clear c124
            by_cases c125 : a0_2 = 0
            ·rw [if_pos c125] at H
             have c125b0 : (a0_2 == 0) = true := beq_iff_eq.mpr c125
             have c125b1 : (a0_2 != 0) = false := bne_eq_false_iff_eq.mpr c125
             clear c125
             by_cases c126 : a0_4 = 0
             ·rw [if_pos c126] at H
              have c126b0 : (a0_4 == 0) = true := beq_iff_eq.mpr c126
              have c126b1 : (a0_4 != 0) = false := bne_eq_false_iff_eq.mpr c126
              clear c126
              obtain rfl := Option.some.inj H
              obtain ⟨⟨hcz127_0, hcz127_1, hcz127_2, hcz127_3, hcz127_4, hcz127_5, hcz127_6⟩, hfz127_0, hfz127_1, hfz127_2, hfz127_3, hfz127_4, hfz127_5, hfz127_6⟩ := Own.c7 BK417.out
              go_wp2
              go_ret
              exact ⟨rE, bA⟩
             ·rw [if_neg c126] at H
              have c126b0 : (a0_4 == 0) = false := beq_eq_false_iff_ne.mpr c126
              have c126b1 : (a0_4 != 0) = true := bne_iff_ne.mpr c126
              obtain rfl := Option.some.inj H
              obtain ⟨⟨hcz128_0, hcz128_1, hcz128_2, hcz128_3, hcz128_4, hcz128_5, hcz128_6⟩, hfz128_0, hfz128_1, hfz128_2, hfz128_3, hfz128_4, hfz128_5, hfz128_6⟩ := Own.c7 BK417.out
              go_wp2
              go_ret
              exact ⟨rE, bA⟩
            ·rw [if_neg c125] at H
             have c125b0 : (a0_2 == 0) = false := beq_eq_false_iff_ne.mpr c125
             have c125b1 : (a0_2 != 0) = true := bne_iff_ne.mpr c125
             obtain rfl := Option.some.inj H
             obtain ⟨⟨hcz129_0, hcz129_1, hcz129_2, hcz129_3, hcz129_4, hcz129_5, hcz129_6⟩, hfz129_0, hfz129_1, hfz129_2, hfz129_3, hfz129_4, hfz129_5, hfz129_6⟩ := Own.c7 BK417.out
             go_wp2
             go_ret
             exact ⟨rE, bA⟩
           ·rw [if_neg c124] at H
            have c124b0 : (a0_0 == 7) = false := beq_eq_false_iff_ne.mpr c124
            have c124b1 : (a0_0 != 7) = true := bne_iff_ne.mpr c124
            obtain rfl := Option.some.inj H
            obtain ⟨⟨hcz130_0, hcz130_1, hcz130_2, hcz130_3, hcz130_4, hcz130_5, hcz130_6⟩, hfz130_0, hfz130_1, hfz130_2, hfz130_3, hfz130_4, hfz130_5, hfz130_6⟩ := Own.c7 BK417.out
            go_wp2
            go_ret
            exact ⟨rE, bA⟩

end Go.Proofs.Ytbdfidnldaghbaa.Q
