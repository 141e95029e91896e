/- The machine side of a law, written by a program of this session over the translation: for each Go function a Lean function with the same answers, and the proof that the Go code comes to them. -/
import Derived.Test.YtmjfnkebpdmhbaaQx0
import Derived.Test.YtmjfnkebpdmhbaaQx1
import Derived.Test.YtmjfnkebpdmhbaaQx2
namespace Go.Proofs.Ytmjfnkebpdmhbaa.Q
open Go.RowKit Go.Proofs.YtmjfnkebpdmhbaaW.PrintWords Go.Proofs.YtmjfnkebpdmhbaaW.PrintLast Go.Proofs.YtmjfnkebpdmhbaaW.PrintMore
attribute [local go_sem] max2_int min2_int max_two min_two max_three min_three max_four min_four   -- for this text's walks alone
set_option linter.unusedVariables false
set_option linter.unusedSimpArgs false

/-! ### spec_NodeOk: function 21 -/
mutual
def spec_NodeOk.j0 : Nat → Bool → Int → ByteArray → Int → Int → Int → Bool → List Int → Option (Bool)
  | 0, _, _, _, _, _, _, _, _ => none
  | k + 1, x42, x142000, x142001, x142002, x142003, x142004, x142005, x142006 => if x42 = true then (some false) else (if x142000 = 0 then ((spec_WordOk.f k x142001).bind fun t150 => (if t150 = true then (if x142002 = 0 then (if x142004 = 0 then (some (!x142005)) else (some false)) else (some false)) else (some false))) else (if x142000 = 1 then ((spec_l02Col.f x142002).bind fun t151 => (if t151 = true then ((spec_l01In.f x142003 0 3).bind fun t152 => (if t152 = true then ((spec_l01Number.f x142004).bind fun t153 => (if t153 = true then (if x142003 = 3 then (if x142004 = 0 then (some (!x142005)) else (some false)) else (some true)) else (some false))) else (some false))) else (some false))) else (if x142000 = 2 then (spec_NodeOk.l0 k 0 x142000 x142001 x142002 x142003 x142004 x142005 x142006) else (if x142000 = 3 then ((spec_l02Col.f x142002).bind fun t157 => (if t157 = true then ((spec_l02Col.f x142004).bind fun t158 => (if t158 = true then (some (!x142005)) else (some false))) else (some false))) else (if x142000 = 5 then ((spec_l02Col.f x142002).bind fun t159 => (if t159 = true then (if x142004 = 0 then (some (!x142005)) else (some false)) else (some false))) else (if x142000 = 6 then (if x142002 = 0 then ((spec_l01In.f x142004 0 1000000).bind fun t160 => (some t160)) else (some false)) else (if x142000 = 4 then (if x142002 = 0 then (if x142004 = 0 then (some (!x142005)) else (some false)) else (some false)) else (if x142000 = 7 then (if x142002 = 0 then (if x142004 = 0 then (some (!x142005)) else (some false)) else (some false)) else (some false)))))))))
def spec_NodeOk.l0 : Nat → Int → Int → ByteArray → Int → Int → Int → Bool → List Int → Option (Bool)
  | 0, _, _, _, _, _, _, _, _ => none
  | k + 1, x3, x142000, x142001, x142002, x142003, x142004, x142005, x142006 => if x3 < (x142006.length : Int) then (if 0 ≤ x3 then ((spec_l02Col.f (rd x142006 x3)).bind fun t155 => (if t155 = true then (spec_NodeOk.l0 k (wrap64 (x3 + 1)) x142000 x142001 x142002 x142003 x142004 x142005 x142006) else (some false))) else (none)) else ((spec_l01In.f (x142006.length : Int) 1 6).bind fun t156 => (if t156 = true then (if x142002 = 0 then (if x142004 = 0 then (some (!x142005)) else (some false)) else (some false)) else (some false)))
end
def spec_NodeOk.f (k : Nat) (a0_0 : Int) (a0_1 : ByteArray) (a0_2 : Int) (a0_3 : Int) (a0_4 : Int) (a0_5 : Bool) (l0_6 : List Int) : Option (Bool) := if a0_0 = 0 then (if a0_0 = 2 then (if a0_0 = 1 then (if a0_5 = true then ((spec_l01In.f a0_4 0 39).bind fun t142 => (spec_NodeOk.j0 k (!t142) a0_0 a0_1 a0_2 a0_3 a0_4 a0_5 l0_6)) else (spec_NodeOk.j0 k false a0_0 a0_1 a0_2 a0_3 a0_4 a0_5 l0_6)) else (if a0_3 = 0 then (if a0_5 = true then ((spec_l01In.f a0_4 0 39).bind fun t143 => (spec_NodeOk.j0 k (!t143) a0_0 a0_1 a0_2 a0_3 a0_4 a0_5 l0_6)) else (spec_NodeOk.j0 k false a0_0 a0_1 a0_2 a0_3 a0_4 a0_5 l0_6)) else (spec_NodeOk.j0 k true a0_0 a0_1 a0_2 a0_3 a0_4 a0_5 l0_6))) else (if (l0_6.length : Int) > 0 then (spec_NodeOk.j0 k true a0_0 a0_1 a0_2 a0_3 a0_4 a0_5 l0_6) else (if a0_0 = 1 then (if a0_5 = true then ((spec_l01In.f a0_4 0 39).bind fun t144 => (spec_NodeOk.j0 k (!t144) a0_0 a0_1 a0_2 a0_3 a0_4 a0_5 l0_6)) else (spec_NodeOk.j0 k false a0_0 a0_1 a0_2 a0_3 a0_4 a0_5 l0_6)) else (if a0_3 = 0 then (if a0_5 = true then ((spec_l01In.f a0_4 0 39).bind fun t145 => (spec_NodeOk.j0 k (!t145) a0_0 a0_1 a0_2 a0_3 a0_4 a0_5 l0_6)) else (spec_NodeOk.j0 k false a0_0 a0_1 a0_2 a0_3 a0_4 a0_5 l0_6)) else (spec_NodeOk.j0 k true a0_0 a0_1 a0_2 a0_3 a0_4 a0_5 l0_6))))) else (if a0_1.toList = ([] : List UInt8) then (if a0_0 = 2 then (if a0_0 = 1 then (if a0_5 = true then ((spec_l01In.f a0_4 0 39).bind fun t146 => (spec_NodeOk.j0 k (!t146) a0_0 a0_1 a0_2 a0_3 a0_4 a0_5 l0_6)) else (spec_NodeOk.j0 k false a0_0 a0_1 a0_2 a0_3 a0_4 a0_5 l0_6)) else (if a0_3 = 0 then (if a0_5 = true then ((spec_l01In.f a0_4 0 39).bind fun t147 => (spec_NodeOk.j0 k (!t147) a0_0 a0_1 a0_2 a0_3 a0_4 a0_5 l0_6)) else (spec_NodeOk.j0 k false a0_0 a0_1 a0_2 a0_3 a0_4 a0_5 l0_6)) else (spec_NodeOk.j0 k true a0_0 a0_1 a0_2 a0_3 a0_4 a0_5 l0_6))) else (if (l0_6.length : Int) > 0 then (spec_NodeOk.j0 k true a0_0 a0_1 a0_2 a0_3 a0_4 a0_5 l0_6) else (if a0_0 = 1 then (if a0_5 = true then ((spec_l01In.f a0_4 0 39).bind fun t148 => (spec_NodeOk.j0 k (!t148) a0_0 a0_1 a0_2 a0_3 a0_4 a0_5 l0_6)) else (spec_NodeOk.j0 k false a0_0 a0_1 a0_2 a0_3 a0_4 a0_5 l0_6)) else (if a0_3 = 0 then (if a0_5 = true then ((spec_l01In.f a0_4 0 39).bind fun t149 => (spec_NodeOk.j0 k (!t149) a0_0 a0_1 a0_2 a0_3 a0_4 a0_5 l0_6)) else (spec_NodeOk.j0 k false a0_0 a0_1 a0_2 a0_3 a0_4 a0_5 l0_6)) else (spec_NodeOk.j0 k true a0_0 a0_1 a0_2 a0_3 a0_4 a0_5 l0_6))))) else (spec_NodeOk.j0 k true a0_0 a0_1 a0_2 a0_3 a0_4 a0_5 l0_6))
theorem spec_NodeOk.mono_l : ∀ k, (∀ y0 y1 y2 y3 y4 y5 y6 y7, LeO (spec_NodeOk.j0 k y0 y1 y2 y3 y4 y5 y6 y7) (spec_NodeOk.j0 (k + 1) y0 y1 y2 y3 y4 y5 y6 y7)) ∧ (∀ y0 y1 y2 y3 y4 y5 y6 y7, LeO (spec_NodeOk.l0 k y0 y1 y2 y3 y4 y5 y6 y7) (spec_NodeOk.l0 (k + 1) y0 y1 y2 y3 y4 y5 y6 y7))
  | 0 => ⟨fun _ _ _ _ _ _ _ _ r h => by simp [spec_NodeOk.j0] at h, fun _ _ _ _ _ _ _ _ r h => by simp [spec_NodeOk.l0] at h⟩
  | k + 1 => by
    obtain ⟨ih0, ih1⟩ := spec_NodeOk.mono_l k
    refine ⟨?_, ?_⟩
    · intro y0 y1 y2 y3 y4 y5 y6 y7
      unfold spec_NodeOk.j0
      repeat' first
      | (with_reducible exact ih0 _ _ _ _ _ _ _ _)
      | (with_reducible exact ih1 _ _ _ _ _ _ _ _)
      | (with_reducible exact spec_WordOk.mono _ _)
      | (with_reducible exact LeO.refl _)
      | (with_reducible exact LeO.none _)
      | (with_reducible refine LeO.ite ?_ ?_)
      | (with_reducible refine LeO.bind ?_ (fun _ => ?_))
      | exact ih0 _ _ _ _ _ _ _ _
      | exact ih1 _ _ _ _ _ _ _ _
      | exact spec_WordOk.mono _ _
      | exact LeO.none _
      | refine LeO.ite ?_ ?_
      | refine LeO.bind ?_ (fun _ => ?_)
    · intro y0 y1 y2 y3 y4 y5 y6 y7
      unfold spec_NodeOk.l0
      repeat' first
      | (with_reducible exact ih0 _ _ _ _ _ _ _ _)
      | (with_reducible exact ih1 _ _ _ _ _ _ _ _)
      | (with_reducible exact spec_WordOk.mono _ _)
      | (with_reducible exact LeO.refl _)
      | (with_reducible exact LeO.none _)
      | (with_reducible refine LeO.ite ?_ ?_)
      | (with_reducible refine LeO.bind ?_ (fun _ => ?_))
      | exact ih0 _ _ _ _ _ _ _ _
      | exact ih1 _ _ _ _ _ _ _ _
      | exact spec_WordOk.mono _ _
      | exact LeO.none _
      | refine LeO.ite ?_ ?_
      | refine LeO.bind ?_ (fun _ => ?_)
theorem spec_NodeOk.mono : ∀ a0 a1 a2 a3 a4 a5 a6 k, LeO (spec_NodeOk.f k a0 a1 a2 a3 a4 a5 a6) (spec_NodeOk.f (k + 1) a0 a1 a2 a3 a4 a5 a6) := by
  intro a0 a1 a2 a3 a4 a5 a6 k
  obtain ⟨ih0, ih1⟩ := spec_NodeOk.mono_l k
  unfold spec_NodeOk.f
  repeat' first
      | (with_reducible exact ih0 _ _ _ _ _ _ _ _)
      | (with_reducible exact ih1 _ _ _ _ _ _ _ _)
      | (with_reducible exact spec_WordOk.mono _ _)
      | (with_reducible exact LeO.refl _)
      | (with_reducible exact LeO.none _)
      | (with_reducible refine LeO.ite ?_ ?_)
      | (with_reducible refine LeO.bind ?_ (fun _ => ?_))
      | exact ih0 _ _ _ _ _ _ _ _
      | exact ih1 _ _ _ _ _ _ _ _
      | exact spec_WordOk.mono _ _
      | exact LeO.none _
      | refine LeO.ite ?_ ?_
      | refine LeO.bind ?_ (fun _ => ?_)
set_option maxHeartbeats 8000000 in
set_option maxRecDepth 100000 in
theorem spec_NodeOk.calls (k : Nat) (a0_0 : Int) (a0_1 : ByteArray) (a0_2 : Int) (a0_3 : Int) (a0_4 : Int) (a0_5 : Bool) (A0_6 : Option Addr) (c0_6 : Nat) (l0_6 : List Int) (r : Bool) (w : World) (hr0_6 : Kd.C (Kd.int .i64) w A0_6 l0_6.length l0_6) (hc0_6 : l0_6.length ≤ c0_6) (h : spec_NodeOk.f k a0_0 a0_1 a0_2 a0_3 a0_4 a0_5 l0_6 = some r) :
    Calls Try.prog 21 #[.agg #[.int .i64 a0_0, .string a0_1, .int .i64 a0_2, .int .i64 a0_3, .int .i64 a0_4, .bool a0_5, .slice A0_6 l0_6.length c0_6]] w fun e w' => e = .returned (.bool r) ∧ Below w.heap.size w w' := by
  have hu33 := Try.underlying33
  have HR0_6 := Aside0.mk hr0_6
  have HC0_6 := Aside0.mk hc0_6
  clear hr0_6 hc0_6
  have HB := Aside0.mk (Below.refl w.heap.size w)
  have H : (if a0_0 = 0 then (if a0_0 = 2 then (if a0_0 = 1 then (if a0_5 = true then ((spec_l01In.f a0_4 0 39).bind fun t142 => (spec_NodeOk.j0 k (!t142) a0_0 a0_1 a0_2 a0_3 a0_4 a0_5 l0_6)) else (spec_NodeOk.j0 k false a0_0 a0_1 a0_2 a0_3 a0_4 a0_5 l0_6)) else (if a0_3 = 0 then (if a0_5 = true then ((spec_l01In.f a0_4 0 39).bind fun t143 => (spec_NodeOk.j0 k (!t143) a0_0 a0_1 a0_2 a0_3 a0_4 a0_5 l0_6)) else (spec_NodeOk.j0 k false a0_0 a0_1 a0_2 a0_3 a0_4 a0_5 l0_6)) else (spec_NodeOk.j0 k true a0_0 a0_1 a0_2 a0_3 a0_4 a0_5 l0_6))) else (if (l0_6.length : Int) > 0 then (spec_NodeOk.j0 k true a0_0 a0_1 a0_2 a0_3 a0_4 a0_5 l0_6) else (if a0_0 = 1 then (if a0_5 = true then ((spec_l01In.f a0_4 0 39).bind fun t144 => (spec_NodeOk.j0 k (!t144) a0_0 a0_1 a0_2 a0_3 a0_4 a0_5 l0_6)) else (spec_NodeOk.j0 k false a0_0 a0_1 a0_2 a0_3 a0_4 a0_5 l0_6)) else (if a0_3 = 0 then (if a0_5 = true then ((spec_l01In.f a0_4 0 39).bind fun t145 => (spec_NodeOk.j0 k (!t145) a0_0 a0_1 a0_2 a0_3 a0_4 a0_5 l0_6)) else (spec_NodeOk.j0 k false a0_0 a0_1 a0_2 a0_3 a0_4 a0_5 l0_6)) else (spec_NodeOk.j0 k true a0_0 a0_1 a0_2 a0_3 a0_4 a0_5 l0_6))))) else (if a0_1.toList = ([] : List UInt8) then (if a0_0 = 2 then (if a0_0 = 1 then (if a0_5 = true then ((spec_l01In.f a0_4 0 39).bind fun t146 => (spec_NodeOk.j0 k (!t146) a0_0 a0_1 a0_2 a0_3 a0_4 a0_5 l0_6)) else (spec_NodeOk.j0 k false a0_0 a0_1 a0_2 a0_3 a0_4 a0_5 l0_6)) else (if a0_3 = 0 then (if a0_5 = true then ((spec_l01In.f a0_4 0 39).bind fun t147 => (spec_NodeOk.j0 k (!t147) a0_0 a0_1 a0_2 a0_3 a0_4 a0_5 l0_6)) else (spec_NodeOk.j0 k false a0_0 a0_1 a0_2 a0_3 a0_4 a0_5 l0_6)) else (spec_NodeOk.j0 k true a0_0 a0_1 a0_2 a0_3 a0_4 a0_5 l0_6))) else (if (l0_6.length : Int) > 0 then (spec_NodeOk.j0 k true a0_0 a0_1 a0_2 a0_3 a0_4 a0_5 l0_6) else (if a0_0 = 1 then (if a0_5 = true then ((spec_l01In.f a0_4 0 39).bind fun t148 => (spec_NodeOk.j0 k (!t148) a0_0 a0_1 a0_2 a0_3 a0_4 a0_5 l0_6)) else (spec_NodeOk.j0 k false a0_0 a0_1 a0_2 a0_3 a0_4 a0_5 l0_6)) else (if a0_3 = 0 then (if a0_5 = true then ((spec_l01In.f a0_4 0 39).bind fun t149 => (spec_NodeOk.j0 k (!t149) a0_0 a0_1 a0_2 a0_3 a0_4 a0_5 l0_6)) else (spec_NodeOk.j0 k false a0_0 a0_1 a0_2 a0_3 a0_4 a0_5 l0_6)) else (spec_NodeOk.j0 k true a0_0 a0_1 a0_2 a0_3 a0_4 a0_5 l0_6))))) else (spec_NodeOk.j0 k true a0_0 a0_1 a0_2 a0_3 a0_4 a0_5 l0_6))) = some r := h
  clear h
  have HC2 := Aside0.mk H
  clear H
  go_enter Try.func21, Try.ntmps21
  go_upto_region 1 with (first | ((with_reducible refine gate_dst (N := 1) rfl ?_); (try (refine gate_guard (by rfl) ?_; dsimp only)); refine box_event ?hg (N := 1) ?hd (cs := #[.int .i64 a0_0, .string a0_1, .int .i64 a0_2, .int .i64 a0_3, .int .i64 a0_4, .bool a0_5, .slice A0_6 l0_6.length c0_6]) (t := 33) ?hr ?_; (case hd => rfl); (case hg => rfl); (case hr => first | (go_simp; done) | (go_simp; rfl)); intro gb141 hg w3 hbox hb; have n0_ := Aside0.mk (below_step (by repeat (first | (with_reducible first | exact HB.out | apply below_alloc | apply pw_below_drewN | apply below_drew1) | exact HB.out)) hb); have n1_ := Aside0.mk (hbox); have n2_ := Aside0.mk ((by rw [hg]; exact (below_size (by repeat (first | (with_reducible first | exact HB.out | apply below_alloc | apply pw_below_drewN | apply below_drew1) | exact HB.out))) : w.heap.size ≤ gb141)); have n3_ := Aside0.mk ((by rw [hg]; exact (below_size (by repeat (first | (with_reducible first | exact HB.out | apply below_alloc | apply pw_below_drewN | apply below_drew1) | exact HB.out))) : w.heap.size ≤ gb141)); clear HB; have HB := n0_; have BK141 := n1_; have GW141 := n2_; have GE141 := n3_; clear n0_ n1_ n2_ n3_; clear hb hbox hg))
  (try simp only [Act.put, List.setIfInBounds_toArray, List.set_cons_zero, List.set_cons_succ])
  go_cut [42] (fun v42 wc => ∃ (kq : Nat) (x42_1 : Bool), v42 = .bool x42_1 ∧ Aside0 (spec_NodeOk.j0 kq x42_1 a0_0 a0_1 a0_2 a0_3 a0_4 a0_5 l0_6 = some r) ∧ Aside0 (kq ≤ k) ∧ Aside0 (wc.heap[gb141]? = some (.cells #[.int .i64 a0_0, .string a0_1, .int .i64 a0_2, .int .i64 a0_3, .int .i64 a0_4, .bool a0_5, (.slice A0_6 l0_6.length c0_6)] 33 (0, 0))) ∧ Aside0 (Below w.heap.size w wc))
  case first =>
    have H := HC2.out
    clear HC2
    by_cases c4 : a0_0 = 0
    · rw [if_pos c4] at H
      have c4b0 : (a0_0 == 0) = true := beq_iff_eq.mpr c4
      have c4b1 : (a0_0 != 0) = false := bne_eq_false_iff_eq.mpr c4
      clear c4
      (first | rw [c4b0] | (simp only [i64_w, i32_w]; rw [c4b0]) | skip)
      by_cases c5 : a0_0 = 2
      · rw [if_pos c5] at H
        have c5b0 : (a0_0 == 2) = true := beq_iff_eq.mpr c5
        have c5b1 : (a0_0 != 2) = false := bne_eq_false_iff_eq.mpr c5
        clear c5
        by_cases c6 : a0_0 = 1
        · rw [if_pos c6] at H
          have c6b0 : (a0_0 == 1) = true := beq_iff_eq.mpr c6
          have c6b1 : (a0_0 != 1) = false := bne_eq_false_iff_eq.mpr c6
          clear c6
          by_cases c7 : a0_5 = true
          · subst c7
            have H1 : ((spec_l01In.f a0_4 0 39).bind fun t142 => (spec_NodeOk.j0 k (!t142) a0_0 a0_1 a0_2 a0_3 a0_4 true l0_6)) = some r := by rw [if_pos rfl] at H; exact H
            clear H
            have H := H1
            clear H1
            replace H := Option.bind_eq_some_iff.mp H
            obtain ⟨t142, A80, H⟩ := H
            replace H : (spec_NodeOk.j0 k (!t142) a0_0 a0_1 a0_2 a0_3 a0_4 true l0_6) = some r := H
            have A8 := Aside0.mk A80
            clear A80
            have H' := Aside0.mk H
            clear H
            have hcz9_0 : w3.cell? ⟨gb141, 0, none⟩ = some (.int .i64 a0_0) := (blk_cell BK141.out 0).trans rfl
            have hcz9_1 : w3.cell? ⟨gb141, 1, none⟩ = some (.string a0_1) := (blk_cell BK141.out 1).trans rfl
            have hcz9_2 : w3.cell? ⟨gb141, 2, none⟩ = some (.int .i64 a0_2) := (blk_cell BK141.out 2).trans rfl
            have hcz9_3 : w3.cell? ⟨gb141, 3, none⟩ = some (.int .i64 a0_3) := (blk_cell BK141.out 3).trans rfl
            have hcz9_4 : w3.cell? ⟨gb141, 4, none⟩ = some (.int .i64 a0_4) := (blk_cell BK141.out 4).trans rfl
            have hcz9_5 : w3.cell? ⟨gb141, 5, none⟩ = some (.bool true) := (blk_cell BK141.out 5).trans rfl
            have hcz9_6 : w3.cell? ⟨gb141, 6, none⟩ = some (.slice A0_6 l0_6.length c0_6) := (blk_cell BK141.out 6).trans rfl
            have hfz9_0 := blk_frozen BK141.out 0
            have hfz9_1 := blk_frozen BK141.out 1
            have hfz9_2 := blk_frozen BK141.out 2
            have hfz9_3 := blk_frozen BK141.out 3
            have hfz9_4 := blk_frozen BK141.out 4
            have hfz9_5 := blk_frozen BK141.out 5
            have hfz9_6 := blk_frozen BK141.out 6
            go_wp2_with (first | (go_at_call 60; (with_reducible refine (spec_l01In.calls a0_4 0 39 t142 _ A8.out).mono ?_); rintro e w' ⟨rfl, ⟨nd, rfl⟩⟩))
            go_meet
            case rel => exact ⟨_, (!t142), (by first | rfl | (simp; done) | (simp [*]; done)), H', ⟨by first | omega | exact Nat.le_refl _⟩, ⟨by (with_reducible repeat (first | refine blk_drewN ?_ _ | refine blk_drew ?_ | refine blk_alloc ?_ _)); exact BK141.out⟩, ⟨by repeat (first | (with_reducible first | exact HB.out | apply below_alloc | apply pw_below_drewN | apply below_drew1 | refine below_set ?_ GE141.out) | exact HB.out)⟩⟩
          · replace c7 := Bool.eq_false_iff.mpr c7
            subst c7
            have H1 : (spec_NodeOk.j0 k false a0_0 a0_1 a0_2 a0_3 a0_4 false l0_6) = some r := by rw [if_neg (show ¬ (false = true) by decide)] at H; exact H
            clear H
            have H := H1
            clear H1
            have H' := Aside0.mk H
            clear H
            have hcz10_0 : w3.cell? ⟨gb141, 0, none⟩ = some (.int .i64 a0_0) := (blk_cell BK141.out 0).trans rfl
            have hcz10_1 : w3.cell? ⟨gb141, 1, none⟩ = some (.string a0_1) := (blk_cell BK141.out 1).trans rfl
            have hcz10_2 : w3.cell? ⟨gb141, 2, none⟩ = some (.int .i64 a0_2) := (blk_cell BK141.out 2).trans rfl
            have hcz10_3 : w3.cell? ⟨gb141, 3, none⟩ = some (.int .i64 a0_3) := (blk_cell BK141.out 3).trans rfl
            have hcz10_4 : w3.cell? ⟨gb141, 4, none⟩ = some (.int .i64 a0_4) := (blk_cell BK141.out 4).trans rfl
            have hcz10_5 : w3.cell? ⟨gb141, 5, none⟩ = some (.bool false) := (blk_cell BK141.out 5).trans rfl
            have hcz10_6 : w3.cell? ⟨gb141, 6, none⟩ = some (.slice A0_6 l0_6.length c0_6) := (blk_cell BK141.out 6).trans rfl
            have hfz10_0 := blk_frozen BK141.out 0
            have hfz10_1 := blk_frozen BK141.out 1
            have hfz10_2 := blk_frozen BK141.out 2
            have hfz10_3 := blk_frozen BK141.out 3
            have hfz10_4 := blk_frozen BK141.out 4
            have hfz10_5 := blk_frozen BK141.out 5
            have hfz10_6 := blk_frozen BK141.out 6
            go_wp2
            go_meet
            case rel => exact ⟨_, (false), (by first | rfl | (simp; done) | (simp [*]; done)), H', ⟨by first | omega | exact Nat.le_refl _⟩, ⟨by (with_reducible repeat (first | refine blk_drewN ?_ _ | refine blk_drew ?_ | refine blk_alloc ?_ _)); exact BK141.out⟩, ⟨by repeat (first | (with_reducible first | exact HB.out | apply below_alloc | apply pw_below_drewN | apply below_drew1 | refine below_set ?_ GE141.out) | exact HB.out)⟩⟩
        · rw [if_neg c6] at H
          have c6b0 : (a0_0 == 1) = false := beq_eq_false_iff_ne.mpr c6
          have c6b1 : (a0_0 != 1) = true := bne_iff_ne.mpr c6
          by_cases c11 : a0_3 = 0
          · rw [if_pos c11] at H
            have c11b0 : (a0_3 == 0) = true := beq_iff_eq.mpr c11
            have c11b1 : (a0_3 != 0) = false := bne_eq_false_iff_eq.mpr c11
            clear c11
            by_cases c12 : a0_5 = true
            · subst c12
              have H1 : ((spec_l01In.f a0_4 0 39).bind fun t143 => (spec_NodeOk.j0 k (!t143) a0_0 a0_1 a0_2 a0_3 a0_4 true l0_6)) = some r := by rw [if_pos rfl] at H; exact H
              clear H
              have H := H1
              clear H1
              replace H := Option.bind_eq_some_iff.mp H
              obtain ⟨t143, A130, H⟩ := H
              replace H : (spec_NodeOk.j0 k (!t143) a0_0 a0_1 a0_2 a0_3 a0_4 true l0_6) = some r := H
              have A13 := Aside0.mk A130
              clear A130
              have H' := Aside0.mk H
              clear H
              have hcz14_0 : w3.cell? ⟨gb141, 0, none⟩ = some (.int .i64 a0_0) := (blk_cell BK141.out 0).trans rfl
              have hcz14_1 : w3.cell? ⟨gb141, 1, none⟩ = some (.string a0_1) := (blk_cell BK141.out 1).trans rfl
              have hcz14_2 : w3.cell? ⟨gb141, 2, none⟩ = some (.int .i64 a0_2) := (blk_cell BK141.out 2).trans rfl
              have hcz14_3 : w3.cell? ⟨gb141, 3, none⟩ = some (.int .i64 a0_3) := (blk_cell BK141.out 3).trans rfl
              have hcz14_4 : w3.cell? ⟨gb141, 4, none⟩ = some (.int .i64 a0_4) := (blk_cell BK141.out 4).trans rfl
              have hcz14_5 : w3.cell? ⟨gb141, 5, none⟩ = some (.bool true) := (blk_cell BK141.out 5).trans rfl
              have hcz14_6 : w3.cell? ⟨gb141, 6, none⟩ = some (.slice A0_6 l0_6.length c0_6) := (blk_cell BK141.out 6).trans rfl
              have hfz14_0 := blk_frozen BK141.out 0
              have hfz14_1 := blk_frozen BK141.out 1
              have hfz14_2 := blk_frozen BK141.out 2
              have hfz14_3 := blk_frozen BK141.out 3
              have hfz14_4 := blk_frozen BK141.out 4
              have hfz14_5 := blk_frozen BK141.out 5
              have hfz14_6 := blk_frozen BK141.out 6
              go_wp2_with (first | (go_at_call 60; (with_reducible refine (spec_l01In.calls a0_4 0 39 t143 _ A13.out).mono ?_); rintro e w' ⟨rfl, ⟨nd, rfl⟩⟩))
              go_meet
              case rel => exact ⟨_, (!t143), (by first | rfl | (simp; done) | (simp [*]; done)), H', ⟨by first | omega | exact Nat.le_refl _⟩, ⟨by (with_reducible repeat (first | refine blk_drewN ?_ _ | refine blk_drew ?_ | refine blk_alloc ?_ _)); exact BK141.out⟩, ⟨by repeat (first | (with_reducible first | exact HB.out | apply below_alloc | apply pw_below_drewN | apply below_drew1 | refine below_set ?_ GE141.out) | exact HB.out)⟩⟩
            · replace c12 := Bool.eq_false_iff.mpr c12
              subst c12
              have H1 : (spec_NodeOk.j0 k false a0_0 a0_1 a0_2 a0_3 a0_4 false l0_6) = some r := by rw [if_neg (show ¬ (false = true) by decide)] at H; exact H
              clear H
              have H := H1
              clear H1
              have H' := Aside0.mk H
              clear H
              have hcz15_0 : w3.cell? ⟨gb141, 0, none⟩ = some (.int .i64 a0_0) := (blk_cell BK141.out 0).trans rfl
              have hcz15_1 : w3.cell? ⟨gb141, 1, none⟩ = some (.string a0_1) := (blk_cell BK141.out 1).trans rfl
              have hcz15_2 : w3.cell? ⟨gb141, 2, none⟩ = some (.int .i64 a0_2) := (blk_cell BK141.out 2).trans rfl
              have hcz15_3 : w3.cell? ⟨gb141, 3, none⟩ = some (.int .i64 a0_3) := (blk_cell BK141.out 3).trans rfl
              have hcz15_4 : w3.cell? ⟨gb141, 4, none⟩ = some (.int .i64 a0_4) := (blk_cell BK141.out 4).trans rfl
              have hcz15_5 : w3.cell? ⟨gb141, 5, none⟩ = some (.bool false) := (blk_cell BK141.out 5).trans rfl
              have hcz15_6 : w3.cell? ⟨gb141, 6, none⟩ = some (.slice A0_6 l0_6.length c0_6) := (blk_cell BK141.out 6).trans rfl
              have hfz15_0 := blk_frozen BK141.out 0
              have hfz15_1 := blk_frozen BK141.out 1
              have hfz15_2 := blk_frozen BK141.out 2
              have hfz15_3 := blk_frozen BK141.out 3
              have hfz15_4 := blk_frozen BK141.out 4
              have hfz15_5 := blk_frozen BK141.out 5
              have hfz15_6 := blk_frozen BK141.out 6
              go_wp2
              go_meet
              case rel => exact ⟨_, (false), (by first | rfl | (simp; done) | (simp [*]; done)), H', ⟨by first | omega | exact Nat.le_refl _⟩, ⟨by (with_reducible repeat (first | refine blk_drewN ?_ _ | refine blk_drew ?_ | refine blk_alloc ?_ _)); exact BK141.out⟩, ⟨by repeat (first | (with_reducible first | exact HB.out | apply below_alloc | apply pw_below_drewN | apply below_drew1 | refine below_set ?_ GE141.out) | exact HB.out)⟩⟩
          · rw [if_neg c11] at H
            have c11b0 : (a0_3 == 0) = false := beq_eq_false_iff_ne.mpr c11
            have c11b1 : (a0_3 != 0) = true := bne_iff_ne.mpr c11
            have H' := Aside0.mk H
            clear H
            have hcz16_0 : w3.cell? ⟨gb141, 0, none⟩ = some (.int .i64 a0_0) := (blk_cell BK141.out 0).trans rfl
            have hcz16_1 : w3.cell? ⟨gb141, 1, none⟩ = some (.string a0_1) := (blk_cell BK141.out 1).trans rfl
            have hcz16_2 : w3.cell? ⟨gb141, 2, none⟩ = some (.int .i64 a0_2) := (blk_cell BK141.out 2).trans rfl
            have hcz16_3 : w3.cell? ⟨gb141, 3, none⟩ = some (.int .i64 a0_3) := (blk_cell BK141.out 3).trans rfl
            have hcz16_4 : w3.cell? ⟨gb141, 4, none⟩ = some (.int .i64 a0_4) := (blk_cell BK141.out 4).trans rfl
            have hcz16_5 : w3.cell? ⟨gb141, 5, none⟩ = some (.bool a0_5) := (blk_cell BK141.out 5).trans rfl
            have hcz16_6 : w3.cell? ⟨gb141, 6, none⟩ = some (.slice A0_6 l0_6.length c0_6) := (blk_cell BK141.out 6).trans rfl
            have hfz16_0 := blk_frozen BK141.out 0
            have hfz16_1 := blk_frozen BK141.out 1
            have hfz16_2 := blk_frozen BK141.out 2
            have hfz16_3 := blk_frozen BK141.out 3
            have hfz16_4 := blk_frozen BK141.out 4
            have hfz16_5 := blk_frozen BK141.out 5
            have hfz16_6 := blk_frozen BK141.out 6
            go_wp2
            go_meet
            case rel => exact ⟨_, (true), (by first | rfl | (simp; done) | (simp [*]; done)), H', ⟨by first | omega | exact Nat.le_refl _⟩, ⟨by (with_reducible repeat (first | refine blk_drewN ?_ _ | refine blk_drew ?_ | refine blk_alloc ?_ _)); exact BK141.out⟩, ⟨by repeat (first | (with_reducible first | exact HB.out | apply below_alloc | apply pw_below_drewN | apply below_drew1 | refine below_set ?_ GE141.out) | exact HB.out)⟩⟩
      · rw [if_neg c5] at H
        have c5b0 : (a0_0 == 2) = false := beq_eq_false_iff_ne.mpr c5
        have c5b1 : (a0_0 != 2) = true := bne_iff_ne.mpr c5
        by_cases c17 : (l0_6.length : Int) > 0
        · rw [if_pos c17] at H
          have c17b0 : decide (0 < (l0_6.length : Int)) = true := decide_eq_true c17
          have c17b1 : decide (0 < l0_6.length) = true := decide_eq_true (by omega)
          clear c17
          have H' := Aside0.mk H
          clear H
          have hcz18_0 : w3.cell? ⟨gb141, 0, none⟩ = some (.int .i64 a0_0) := (blk_cell BK141.out 0).trans rfl
          have hcz18_1 : w3.cell? ⟨gb141, 1, none⟩ = some (.string a0_1) := (blk_cell BK141.out 1).trans rfl
          have hcz18_2 : w3.cell? ⟨gb141, 2, none⟩ = some (.int .i64 a0_2) := (blk_cell BK141.out 2).trans rfl
          have hcz18_3 : w3.cell? ⟨gb141, 3, none⟩ = some (.int .i64 a0_3) := (blk_cell BK141.out 3).trans rfl
          have hcz18_4 : w3.cell? ⟨gb141, 4, none⟩ = some (.int .i64 a0_4) := (blk_cell BK141.out 4).trans rfl
          have hcz18_5 : w3.cell? ⟨gb141, 5, none⟩ = some (.bool a0_5) := (blk_cell BK141.out 5).trans rfl
          have hcz18_6 : w3.cell? ⟨gb141, 6, none⟩ = some (.slice A0_6 l0_6.length c0_6) := (blk_cell BK141.out 6).trans rfl
          have hfz18_0 := blk_frozen BK141.out 0
          have hfz18_1 := blk_frozen BK141.out 1
          have hfz18_2 := blk_frozen BK141.out 2
          have hfz18_3 := blk_frozen BK141.out 3
          have hfz18_4 := blk_frozen BK141.out 4
          have hfz18_5 := blk_frozen BK141.out 5
          have hfz18_6 := blk_frozen BK141.out 6
          go_wp2
          go_meet
          case rel => exact ⟨_, (true), (by first | rfl | (simp; done) | (simp [*]; done)), H', ⟨by first | omega | exact Nat.le_refl _⟩, ⟨by (with_reducible repeat (first | refine blk_drewN ?_ _ | refine blk_drew ?_ | refine blk_alloc ?_ _)); exact BK141.out⟩, ⟨by repeat (first | (with_reducible first | exact HB.out | apply below_alloc | apply pw_below_drewN | apply below_drew1 | refine below_set ?_ GE141.out) | exact HB.out)⟩⟩
        · rw [if_neg c17] at H
          have c17b0 : decide (0 < (l0_6.length : Int)) = false := decide_eq_false c17
          have c17b1 : decide (0 < l0_6.length) = false := decide_eq_false (by omega)
          clear c17
          by_cases c19 : a0_0 = 1
          · rw [if_pos c19] at H
            have c19b0 : (a0_0 == 1) = true := beq_iff_eq.mpr c19
            have c19b1 : (a0_0 != 1) = false := bne_eq_false_iff_eq.mpr c19
            clear c19
            by_cases c20 : a0_5 = true
            · subst c20
              have H1 : ((spec_l01In.f a0_4 0 39).bind fun t144 => (spec_NodeOk.j0 k (!t144) a0_0 a0_1 a0_2 a0_3 a0_4 true l0_6)) = some r := by rw [if_pos rfl] at H; exact H
              clear H
              have H := H1
              clear H1
              replace H := Option.bind_eq_some_iff.mp H
              obtain ⟨t144, A210, H⟩ := H
              replace H : (spec_NodeOk.j0 k (!t144) a0_0 a0_1 a0_2 a0_3 a0_4 true l0_6) = some r := H
              have A21 := Aside0.mk A210
              clear A210
              have H' := Aside0.mk H
              clear H
              have hcz22_0 : w3.cell? ⟨gb141, 0, none⟩ = some (.int .i64 a0_0) := (blk_cell BK141.out 0).trans rfl
              have hcz22_1 : w3.cell? ⟨gb141, 1, none⟩ = some (.string a0_1) := (blk_cell BK141.out 1).trans rfl
              have hcz22_2 : w3.cell? ⟨gb141, 2, none⟩ = some (.int .i64 a0_2) := (blk_cell BK141.out 2).trans rfl
              have hcz22_3 : w3.cell? ⟨gb141, 3, none⟩ = some (.int .i64 a0_3) := (blk_cell BK141.out 3).trans rfl
              have hcz22_4 : w3.cell? ⟨gb141, 4, none⟩ = some (.int .i64 a0_4) := (blk_cell BK141.out 4).trans rfl
              have hcz22_5 : w3.cell? ⟨gb141, 5, none⟩ = some (.bool true) := (blk_cell BK141.out 5).trans rfl
              have hcz22_6 : w3.cell? ⟨gb141, 6, none⟩ = some (.slice A0_6 l0_6.length c0_6) := (blk_cell BK141.out 6).trans rfl
              have hfz22_0 := blk_frozen BK141.out 0
              have hfz22_1 := blk_frozen BK141.out 1
              have hfz22_2 := blk_frozen BK141.out 2
              have hfz22_3 := blk_frozen BK141.out 3
              have hfz22_4 := blk_frozen BK141.out 4
              have hfz22_5 := blk_frozen BK141.out 5
              have hfz22_6 := blk_frozen BK141.out 6
              go_wp2_with (first | (go_at_call 60; (with_reducible refine (spec_l01In.calls a0_4 0 39 t144 _ A21.out).mono ?_); rintro e w' ⟨rfl, ⟨nd, rfl⟩⟩))
              go_meet
              case rel => exact ⟨_, (!t144), (by first | rfl | (simp; done) | (simp [*]; done)), H', ⟨by first | omega | exact Nat.le_refl _⟩, ⟨by (with_reducible repeat (first | refine blk_drewN ?_ _ | refine blk_drew ?_ | refine blk_alloc ?_ _)); exact BK141.out⟩, ⟨by repeat (first | (with_reducible first | exact HB.out | apply below_alloc | apply pw_below_drewN | apply below_drew1 | refine below_set ?_ GE141.out) | exact HB.out)⟩⟩
            · replace c20 := Bool.eq_false_iff.mpr c20
              subst c20
              have H1 : (spec_NodeOk.j0 k false a0_0 a0_1 a0_2 a0_3 a0_4 false l0_6) = some r := by rw [if_neg (show ¬ (false = true) by decide)] at H; exact H
              clear H
              have H := H1
              clear H1
              have H' := Aside0.mk H
              clear H
              have hcz23_0 : w3.cell? ⟨gb141, 0, none⟩ = some (.int .i64 a0_0) := (blk_cell BK141.out 0).trans rfl
              have hcz23_1 : w3.cell? ⟨gb141, 1, none⟩ = some (.string a0_1) := (blk_cell BK141.out 1).trans rfl
              have hcz23_2 : w3.cell? ⟨gb141, 2, none⟩ = some (.int .i64 a0_2) := (blk_cell BK141.out 2).trans rfl
              have hcz23_3 : w3.cell? ⟨gb141, 3, none⟩ = some (.int .i64 a0_3) := (blk_cell BK141.out 3).trans rfl
              have hcz23_4 : w3.cell? ⟨gb141, 4, none⟩ = some (.int .i64 a0_4) := (blk_cell BK141.out 4).trans rfl
              have hcz23_5 : w3.cell? ⟨gb141, 5, none⟩ = some (.bool false) := (blk_cell BK141.out 5).trans rfl
              have hcz23_6 : w3.cell? ⟨gb141, 6, none⟩ = some (.slice A0_6 l0_6.length c0_6) := (blk_cell BK141.out 6).trans rfl
              have hfz23_0 := blk_frozen BK141.out 0
              have hfz23_1 := blk_frozen BK141.out 1
              have hfz23_2 := blk_frozen BK141.out 2
              have hfz23_3 := blk_frozen BK141.out 3
              have hfz23_4 := blk_frozen BK141.out 4
              have hfz23_5 := blk_frozen BK141.out 5
              have hfz23_6 := blk_frozen BK141.out 6
              go_wp2
              go_meet
              case rel => exact ⟨_, (false), (by first | rfl | (simp; done) | (simp [*]; done)), H', ⟨by first | omega | exact Nat.le_refl _⟩, ⟨by (with_reducible repeat (first | refine blk_drewN ?_ _ | refine blk_drew ?_ | refine blk_alloc ?_ _)); exact BK141.out⟩, ⟨by repeat (first | (with_reducible first | exact HB.out | apply below_alloc | apply pw_below_drewN | apply below_drew1 | refine below_set ?_ GE141.out) | exact HB.out)⟩⟩
          · rw [if_neg c19] at H
            have c19b0 : (a0_0 == 1) = false := beq_eq_false_iff_ne.mpr c19
            have c19b1 : (a0_0 != 1) = true := bne_iff_ne.mpr c19
            by_cases c24 : a0_3 = 0
            · rw [if_pos c24] at H
              have c24b0 : (a0_3 == 0) = true := beq_iff_eq.mpr c24
              have c24b1 : (a0_3 != 0) = false := bne_eq_false_iff_eq.mpr c24
              clear c24
              by_cases c25 : a0_5 = true
              · subst c25
                have H1 : ((spec_l01In.f a0_4 0 39).bind fun t145 => (spec_NodeOk.j0 k (!t145) a0_0 a0_1 a0_2 a0_3 a0_4 true l0_6)) = some r := by rw [if_pos rfl] at H; exact H
                clear H
                have H := H1
                clear H1
                replace H := Option.bind_eq_some_iff.mp H
                obtain ⟨t145, A260, H⟩ := H
                replace H : (spec_NodeOk.j0 k (!t145) a0_0 a0_1 a0_2 a0_3 a0_4 true l0_6) = some r := H
                have A26 := Aside0.mk A260
                clear A260
                have H' := Aside0.mk H
                clear H
                have hcz27_0 : w3.cell? ⟨gb141, 0, none⟩ = some (.int .i64 a0_0) := (blk_cell BK141.out 0).trans rfl
                have hcz27_1 : w3.cell? ⟨gb141, 1, none⟩ = some (.string a0_1) := (blk_cell BK141.out 1).trans rfl
                have hcz27_2 : w3.cell? ⟨gb141, 2, none⟩ = some (.int .i64 a0_2) := (blk_cell BK141.out 2).trans rfl
                have hcz27_3 : w3.cell? ⟨gb141, 3, none⟩ = some (.int .i64 a0_3) := (blk_cell BK141.out 3).trans rfl
                have hcz27_4 : w3.cell? ⟨gb141, 4, none⟩ = some (.int .i64 a0_4) := (blk_cell BK141.out 4).trans rfl
                have hcz27_5 : w3.cell? ⟨gb141, 5, none⟩ = some (.bool true) := (blk_cell BK141.out 5).trans rfl
                have hcz27_6 : w3.cell? ⟨gb141, 6, none⟩ = some (.slice A0_6 l0_6.length c0_6) := (blk_cell BK141.out 6).trans rfl
                have hfz27_0 := blk_frozen BK141.out 0
                have hfz27_1 := blk_frozen BK141.out 1
                have hfz27_2 := blk_frozen BK141.out 2
                have hfz27_3 := blk_frozen BK141.out 3
                have hfz27_4 := blk_frozen BK141.out 4
                have hfz27_5 := blk_frozen BK141.out 5
                have hfz27_6 := blk_frozen BK141.out 6
                go_wp2_with (first | (go_at_call 60; (with_reducible refine (spec_l01In.calls a0_4 0 39 t145 _ A26.out).mono ?_); rintro e w' ⟨rfl, ⟨nd, rfl⟩⟩))
                go_meet
                case rel => exact ⟨_, (!t145), (by first | rfl | (simp; done) | (simp [*]; done)), H', ⟨by first | omega | exact Nat.le_refl _⟩, ⟨by (with_reducible repeat (first | refine blk_drewN ?_ _ | refine blk_drew ?_ | refine blk_alloc ?_ _)); exact BK141.out⟩, ⟨by repeat (first | (with_reducible first | exact HB.out | apply below_alloc | apply pw_below_drewN | apply below_drew1 | refine below_set ?_ GE141.out) | exact HB.out)⟩⟩
              · replace c25 := Bool.eq_false_iff.mpr c25
                subst c25
                have H1 : (spec_NodeOk.j0 k false a0_0 a0_1 a0_2 a0_3 a0_4 false l0_6) = some r := by rw [if_neg (show ¬ (false = true) by decide)] at H; exact H
                clear H
                have H := H1
                clear H1
                have H' := Aside0.mk H
                clear H
                have hcz28_0 : w3.cell? ⟨gb141, 0, none⟩ = some (.int .i64 a0_0) := (blk_cell BK141.out 0).trans rfl
                have hcz28_1 : w3.cell? ⟨gb141, 1, none⟩ = some (.string a0_1) := (blk_cell BK141.out 1).trans rfl
                have hcz28_2 : w3.cell? ⟨gb141, 2, none⟩ = some (.int .i64 a0_2) := (blk_cell BK141.out 2).trans rfl
                have hcz28_3 : w3.cell? ⟨gb141, 3, none⟩ = some (.int .i64 a0_3) := (blk_cell BK141.out 3).trans rfl
                have hcz28_4 : w3.cell? ⟨gb141, 4, none⟩ = some (.int .i64 a0_4) := (blk_cell BK141.out 4).trans rfl
                have hcz28_5 : w3.cell? ⟨gb141, 5, none⟩ = some (.bool false) := (blk_cell BK141.out 5).trans rfl
                have hcz28_6 : w3.cell? ⟨gb141, 6, none⟩ = some (.slice A0_6 l0_6.length c0_6) := (blk_cell BK141.out 6).trans rfl
                have hfz28_0 := blk_frozen BK141.out 0
                have hfz28_1 := blk_frozen BK141.out 1
                have hfz28_2 := blk_frozen BK141.out 2
                have hfz28_3 := blk_frozen BK141.out 3
                have hfz28_4 := blk_frozen BK141.out 4
                have hfz28_5 := blk_frozen BK141.out 5
                have hfz28_6 := blk_frozen BK141.out 6
                go_wp2
                go_meet
                case rel => exact ⟨_, (false), (by first | rfl | (simp; done) | (simp [*]; done)), H', ⟨by first | omega | exact Nat.le_refl _⟩, ⟨by (with_reducible repeat (first | refine blk_drewN ?_ _ | refine blk_drew ?_ | refine blk_alloc ?_ _)); exact BK141.out⟩, ⟨by repeat (first | (with_reducible first | exact HB.out | apply below_alloc | apply pw_below_drewN | apply below_drew1 | refine below_set ?_ GE141.out) | exact HB.out)⟩⟩
            · rw [if_neg c24] at H
              have c24b0 : (a0_3 == 0) = false := beq_eq_false_iff_ne.mpr c24
              have c24b1 : (a0_3 != 0) = true := bne_iff_ne.mpr c24
              have H' := Aside0.mk H
              clear H
              have hcz29_0 : w3.cell? ⟨gb141, 0, none⟩ = some (.int .i64 a0_0) := (blk_cell BK141.out 0).trans rfl
              have hcz29_1 : w3.cell? ⟨gb141, 1, none⟩ = some (.string a0_1) := (blk_cell BK141.out 1).trans rfl
              have hcz29_2 : w3.cell? ⟨gb141, 2, none⟩ = some (.int .i64 a0_2) := (blk_cell BK141.out 2).trans rfl
              have hcz29_3 : w3.cell? ⟨gb141, 3, none⟩ = some (.int .i64 a0_3) := (blk_cell BK141.out 3).trans rfl
              have hcz29_4 : w3.cell? ⟨gb141, 4, none⟩ = some (.int .i64 a0_4) := (blk_cell BK141.out 4).trans rfl
              have hcz29_5 : w3.cell? ⟨gb141, 5, none⟩ = some (.bool a0_5) := (blk_cell BK141.out 5).trans rfl
              have hcz29_6 : w3.cell? ⟨gb141, 6, none⟩ = some (.slice A0_6 l0_6.length c0_6) := (blk_cell BK141.out 6).trans rfl
              have hfz29_0 := blk_frozen BK141.out 0
              have hfz29_1 := blk_frozen BK141.out 1
              have hfz29_2 := blk_frozen BK141.out 2
              have hfz29_3 := blk_frozen BK141.out 3
              have hfz29_4 := blk_frozen BK141.out 4
              have hfz29_5 := blk_frozen BK141.out 5
              have hfz29_6 := blk_frozen BK141.out 6
              go_wp2
              go_meet
              case rel => exact ⟨_, (true), (by first | rfl | (simp; done) | (simp [*]; done)), H', ⟨by first | omega | exact Nat.le_refl _⟩, ⟨by (with_reducible repeat (first | refine blk_drewN ?_ _ | refine blk_drew ?_ | refine blk_alloc ?_ _)); exact BK141.out⟩, ⟨by repeat (first | (with_reducible first | exact HB.out | apply below_alloc | apply pw_below_drewN | apply below_drew1 | refine below_set ?_ GE141.out) | exact HB.out)⟩⟩
    · rw [if_neg c4] at H
      have c4b0 : (a0_0 == 0) = false := beq_eq_false_iff_ne.mpr c4
      have c4b1 : (a0_0 != 0) = true := bne_iff_ne.mpr c4
      (first | rw [c4b0] | (simp only [i64_w, i32_w]; rw [c4b0]) | skip)
      by_cases c30 : a0_1.toList = ([] : List UInt8)
      · rw [if_pos c30] at H
        have c30b0 : (a0_1.toList == ([] : List UInt8)) = true := beq_iff_eq.mpr c30
        have c30b1 : (a0_1.toList != ([] : List UInt8)) = false := bne_eq_false_iff_eq.mpr c30
        clear c30
        by_cases c31 : a0_0 = 2
        · rw [if_pos c31] at H
          have c31b0 : (a0_0 == 2) = true := beq_iff_eq.mpr c31
          have c31b1 : (a0_0 != 2) = false := bne_eq_false_iff_eq.mpr c31
          clear c31
          by_cases c32 : a0_0 = 1
          · rw [if_pos c32] at H
            have c32b0 : (a0_0 == 1) = true := beq_iff_eq.mpr c32
            have c32b1 : (a0_0 != 1) = false := bne_eq_false_iff_eq.mpr c32
            clear c32
            by_cases c33 : a0_5 = true
            · subst c33
              have H1 : ((spec_l01In.f a0_4 0 39).bind fun t146 => (spec_NodeOk.j0 k (!t146) a0_0 a0_1 a0_2 a0_3 a0_4 true l0_6)) = some r := by rw [if_pos rfl] at H; exact H
              clear H
              have H := H1
              clear H1
              replace H := Option.bind_eq_some_iff.mp H
              obtain ⟨t146, A340, H⟩ := H
              replace H : (spec_NodeOk.j0 k (!t146) a0_0 a0_1 a0_2 a0_3 a0_4 true l0_6) = some r := H
              have A34 := Aside0.mk A340
              clear A340
              have H' := Aside0.mk H
              clear H
              have hcz35_0 : w3.cell? ⟨gb141, 0, none⟩ = some (.int .i64 a0_0) := (blk_cell BK141.out 0).trans rfl
              have hcz35_1 : w3.cell? ⟨gb141, 1, none⟩ = some (.string a0_1) := (blk_cell BK141.out 1).trans rfl
              have hcz35_2 : w3.cell? ⟨gb141, 2, none⟩ = some (.int .i64 a0_2) := (blk_cell BK141.out 2).trans rfl
              have hcz35_3 : w3.cell? ⟨gb141, 3, none⟩ = some (.int .i64 a0_3) := (blk_cell BK141.out 3).trans rfl
              have hcz35_4 : w3.cell? ⟨gb141, 4, none⟩ = some (.int .i64 a0_4) := (blk_cell BK141.out 4).trans rfl
              have hcz35_5 : w3.cell? ⟨gb141, 5, none⟩ = some (.bool true) := (blk_cell BK141.out 5).trans rfl
              have hcz35_6 : w3.cell? ⟨gb141, 6, none⟩ = some (.slice A0_6 l0_6.length c0_6) := (blk_cell BK141.out 6).trans rfl
              have hfz35_0 := blk_frozen BK141.out 0
              have hfz35_1 := blk_frozen BK141.out 1
              have hfz35_2 := blk_frozen BK141.out 2
              have hfz35_3 := blk_frozen BK141.out 3
              have hfz35_4 := blk_frozen BK141.out 4
              have hfz35_5 := blk_frozen BK141.out 5
              have hfz35_6 := blk_frozen BK141.out 6
              go_wp2_with (first | (go_at_call 60; (with_reducible refine (spec_l01In.calls a0_4 0 39 t146 _ A34.out).mono ?_); rintro e w' ⟨rfl, ⟨nd, rfl⟩⟩))
              go_meet
              case rel => exact ⟨_, (!t146), (by first | rfl | (simp; done) | (simp [*]; done)), H', ⟨by first | omega | exact Nat.le_refl _⟩, ⟨by (with_reducible repeat (first | refine blk_drewN ?_ _ | refine blk_drew ?_ | refine blk_alloc ?_ _)); exact BK141.out⟩, ⟨by repeat (first | (with_reducible first | exact HB.out | apply below_alloc | apply pw_below_drewN | apply below_drew1 | refine below_set ?_ GE141.out) | exact HB.out)⟩⟩
            · replace c33 := Bool.eq_false_iff.mpr c33
              subst c33
              have H1 : (spec_NodeOk.j0 k false a0_0 a0_1 a0_2 a0_3 a0_4 false l0_6) = some r := by rw [if_neg (show ¬ (false = true) by decide)] at H; exact H
              clear H
              have H := H1
              clear H1
              have H' := Aside0.mk H
              clear H
              have hcz36_0 : w3.cell? ⟨gb141, 0, none⟩ = some (.int .i64 a0_0) := (blk_cell BK141.out 0).trans rfl
              have hcz36_1 : w3.cell? ⟨gb141, 1, none⟩ = some (.string a0_1) := (blk_cell BK141.out 1).trans rfl
              have hcz36_2 : w3.cell? ⟨gb141, 2, none⟩ = some (.int .i64 a0_2) := (blk_cell BK141.out 2).trans rfl
              have hcz36_3 : w3.cell? ⟨gb141, 3, none⟩ = some (.int .i64 a0_3) := (blk_cell BK141.out 3).trans rfl
              have hcz36_4 : w3.cell? ⟨gb141, 4, none⟩ = some (.int .i64 a0_4) := (blk_cell BK141.out 4).trans rfl
              have hcz36_5 : w3.cell? ⟨gb141, 5, none⟩ = some (.bool false) := (blk_cell BK141.out 5).trans rfl
              have hcz36_6 : w3.cell? ⟨gb141, 6, none⟩ = some (.slice A0_6 l0_6.length c0_6) := (blk_cell BK141.out 6).trans rfl
              have hfz36_0 := blk_frozen BK141.out 0
              have hfz36_1 := blk_frozen BK141.out 1
              have hfz36_2 := blk_frozen BK141.out 2
              have hfz36_3 := blk_frozen BK141.out 3
              have hfz36_4 := blk_frozen BK141.out 4
              have hfz36_5 := blk_frozen BK141.out 5
              have hfz36_6 := blk_frozen BK141.out 6
              go_wp2
              go_meet
              case rel => exact ⟨_, (false), (by first | rfl | (simp; done) | (simp [*]; done)), H', ⟨by first | omega | exact Nat.le_refl _⟩, ⟨by (with_reducible repeat (first | refine blk_drewN ?_ _ | refine blk_drew ?_ | refine blk_alloc ?_ _)); exact BK141.out⟩, ⟨by repeat (first | (with_reducible first | exact HB.out | apply below_alloc | apply pw_below_drewN | apply below_drew1 | refine below_set ?_ GE141.out) | exact HB.out)⟩⟩
          · rw [if_neg c32] at H
            have c32b0 : (a0_0 == 1) = false := beq_eq_false_iff_ne.mpr c32
            have c32b1 : (a0_0 != 1) = true := bne_iff_ne.mpr c32
            by_cases c37 : a0_3 = 0
            · rw [if_pos c37] at H
              have c37b0 : (a0_3 == 0) = true := beq_iff_eq.mpr c37
              have c37b1 : (a0_3 != 0) = false := bne_eq_false_iff_eq.mpr c37
              clear c37
              by_cases c38 : a0_5 = true
              · subst c38
                have H1 : ((spec_l01In.f a0_4 0 39).bind fun t147 => (spec_NodeOk.j0 k (!t147) a0_0 a0_1 a0_2 a0_3 a0_4 true l0_6)) = some r := by rw [if_pos rfl] at H; exact H
                clear H
                have H := H1
                clear H1
                replace H := Option.bind_eq_some_iff.mp H
                obtain ⟨t147, A390, H⟩ := H
                replace H : (spec_NodeOk.j0 k (!t147) a0_0 a0_1 a0_2 a0_3 a0_4 true l0_6) = some r := H
                have A39 := Aside0.mk A390
                clear A390
                have H' := Aside0.mk H
                clear H
                have hcz40_0 : w3.cell? ⟨gb141, 0, none⟩ = some (.int .i64 a0_0) := (blk_cell BK141.out 0).trans rfl
                have hcz40_1 : w3.cell? ⟨gb141, 1, none⟩ = some (.string a0_1) := (blk_cell BK141.out 1).trans rfl
                have hcz40_2 : w3.cell? ⟨gb141, 2, none⟩ = some (.int .i64 a0_2) := (blk_cell BK141.out 2).trans rfl
                have hcz40_3 : w3.cell? ⟨gb141, 3, none⟩ = some (.int .i64 a0_3) := (blk_cell BK141.out 3).trans rfl
                have hcz40_4 : w3.cell? ⟨gb141, 4, none⟩ = some (.int .i64 a0_4) := (blk_cell BK141.out 4).trans rfl
                have hcz40_5 : w3.cell? ⟨gb141, 5, none⟩ = some (.bool true) := (blk_cell BK141.out 5).trans rfl
                have hcz40_6 : w3.cell? ⟨gb141, 6, none⟩ = some (.slice A0_6 l0_6.length c0_6) := (blk_cell BK141.out 6).trans rfl
                have hfz40_0 := blk_frozen BK141.out 0
                have hfz40_1 := blk_frozen BK141.out 1
                have hfz40_2 := blk_frozen BK141.out 2
                have hfz40_3 := blk_frozen BK141.out 3
                have hfz40_4 := blk_frozen BK141.out 4
                have hfz40_5 := blk_frozen BK141.out 5
                have hfz40_6 := blk_frozen BK141.out 6
                go_wp2_with (first | (go_at_call 60; (with_reducible refine (spec_l01In.calls a0_4 0 39 t147 _ A39.out).mono ?_); rintro e w' ⟨rfl, ⟨nd, rfl⟩⟩))
                go_meet
                case rel => exact ⟨_, (!t147), (by first | rfl | (simp; done) | (simp [*]; done)), H', ⟨by first | omega | exact Nat.le_refl _⟩, ⟨by (with_reducible repeat (first | refine blk_drewN ?_ _ | refine blk_drew ?_ | refine blk_alloc ?_ _)); exact BK141.out⟩, ⟨by repeat (first | (with_reducible first | exact HB.out | apply below_alloc | apply pw_below_drewN | apply below_drew1 | refine below_set ?_ GE141.out) | exact HB.out)⟩⟩
              · replace c38 := Bool.eq_false_iff.mpr c38
                subst c38
                have H1 : (spec_NodeOk.j0 k false a0_0 a0_1 a0_2 a0_3 a0_4 false l0_6) = some r := by rw [if_neg (show ¬ (false = true) by decide)] at H; exact H
                clear H
                have H := H1
                clear H1
                have H' := Aside0.mk H
                clear H
                have hcz41_0 : w3.cell? ⟨gb141, 0, none⟩ = some (.int .i64 a0_0) := (blk_cell BK141.out 0).trans rfl
                have hcz41_1 : w3.cell? ⟨gb141, 1, none⟩ = some (.string a0_1) := (blk_cell BK141.out 1).trans rfl
                have hcz41_2 : w3.cell? ⟨gb141, 2, none⟩ = some (.int .i64 a0_2) := (blk_cell BK141.out 2).trans rfl
                have hcz41_3 : w3.cell? ⟨gb141, 3, none⟩ = some (.int .i64 a0_3) := (blk_cell BK141.out 3).trans rfl
                have hcz41_4 : w3.cell? ⟨gb141, 4, none⟩ = some (.int .i64 a0_4) := (blk_cell BK141.out 4).trans rfl
                have hcz41_5 : w3.cell? ⟨gb141, 5, none⟩ = some (.bool false) := (blk_cell BK141.out 5).trans rfl
                have hcz41_6 : w3.cell? ⟨gb141, 6, none⟩ = some (.slice A0_6 l0_6.length c0_6) := (blk_cell BK141.out 6).trans rfl
                have hfz41_0 := blk_frozen BK141.out 0
                have hfz41_1 := blk_frozen BK141.out 1
                have hfz41_2 := blk_frozen BK141.out 2
                have hfz41_3 := blk_frozen BK141.out 3
                have hfz41_4 := blk_frozen BK141.out 4
                have hfz41_5 := blk_frozen BK141.out 5
                have hfz41_6 := blk_frozen BK141.out 6
                go_wp2
                go_meet
                case rel => exact ⟨_, (false), (by first | rfl | (simp; done) | (simp [*]; done)), H', ⟨by first | omega | exact Nat.le_refl _⟩, ⟨by (with_reducible repeat (first | refine blk_drewN ?_ _ | refine blk_drew ?_ | refine blk_alloc ?_ _)); exact BK141.out⟩, ⟨by repeat (first | (with_reducible first | exact HB.out | apply below_alloc | apply pw_below_drewN | apply below_drew1 | refine below_set ?_ GE141.out) | exact HB.out)⟩⟩
            · rw [if_neg c37] at H
              have c37b0 : (a0_3 == 0) = false := beq_eq_false_iff_ne.mpr c37
              have c37b1 : (a0_3 != 0) = true := bne_iff_ne.mpr c37
              have H' := Aside0.mk H
              clear H
              have hcz42_0 : w3.cell? ⟨gb141, 0, none⟩ = some (.int .i64 a0_0) := (blk_cell BK141.out 0).trans rfl
              have hcz42_1 : w3.cell? ⟨gb141, 1, none⟩ = some (.string a0_1) := (blk_cell BK141.out 1).trans rfl
              have hcz42_2 : w3.cell? ⟨gb141, 2, none⟩ = some (.int .i64 a0_2) := (blk_cell BK141.out 2).trans rfl
              have hcz42_3 : w3.cell? ⟨gb141, 3, none⟩ = some (.int .i64 a0_3) := (blk_cell BK141.out 3).trans rfl
              have hcz42_4 : w3.cell? ⟨gb141, 4, none⟩ = some (.int .i64 a0_4) := (blk_cell BK141.out 4).trans rfl
              have hcz42_5 : w3.cell? ⟨gb141, 5, none⟩ = some (.bool a0_5) := (blk_cell BK141.out 5).trans rfl
              have hcz42_6 : w3.cell? ⟨gb141, 6, none⟩ = some (.slice A0_6 l0_6.length c0_6) := (blk_cell BK141.out 6).trans rfl
              have hfz42_0 := blk_frozen BK141.out 0
              have hfz42_1 := blk_frozen BK141.out 1
              have hfz42_2 := blk_frozen BK141.out 2
              have hfz42_3 := blk_frozen BK141.out 3
              have hfz42_4 := blk_frozen BK141.out 4
              have hfz42_5 := blk_frozen BK141.out 5
              have hfz42_6 := blk_frozen BK141.out 6
              go_wp2
              go_meet
              case rel => exact ⟨_, (true), (by first | rfl | (simp; done) | (simp [*]; done)), H', ⟨by first | omega | exact Nat.le_refl _⟩, ⟨by (with_reducible repeat (first | refine blk_drewN ?_ _ | refine blk_drew ?_ | refine blk_alloc ?_ _)); exact BK141.out⟩, ⟨by repeat (first | (with_reducible first | exact HB.out | apply below_alloc | apply pw_below_drewN | apply below_drew1 | refine below_set ?_ GE141.out) | exact HB.out)⟩⟩
        · rw [if_neg c31] at H
          have c31b0 : (a0_0 == 2) = false := beq_eq_false_iff_ne.mpr c31
          have c31b1 : (a0_0 != 2) = true := bne_iff_ne.mpr c31
          by_cases c43 : (l0_6.length : Int) > 0
          · rw [if_pos c43] at H
            have c43b0 : decide (0 < (l0_6.length : Int)) = true := decide_eq_true c43
            have c43b1 : decide (0 < l0_6.length) = true := decide_eq_true (by omega)
            clear c43
            have H' := Aside0.mk H
            clear H
            have hcz44_0 : w3.cell? ⟨gb141, 0, none⟩ = some (.int .i64 a0_0) := (blk_cell BK141.out 0).trans rfl
            have hcz44_1 : w3.cell? ⟨gb141, 1, none⟩ = some (.string a0_1) := (blk_cell BK141.out 1).trans rfl
            have hcz44_2 : w3.cell? ⟨gb141, 2, none⟩ = some (.int .i64 a0_2) := (blk_cell BK141.out 2).trans rfl
            have hcz44_3 : w3.cell? ⟨gb141, 3, none⟩ = some (.int .i64 a0_3) := (blk_cell BK141.out 3).trans rfl
            have hcz44_4 : w3.cell? ⟨gb141, 4, none⟩ = some (.int .i64 a0_4) := (blk_cell BK141.out 4).trans rfl
            have hcz44_5 : w3.cell? ⟨gb141, 5, none⟩ = some (.bool a0_5) := (blk_cell BK141.out 5).trans rfl
            have hcz44_6 : w3.cell? ⟨gb141, 6, none⟩ = some (.slice A0_6 l0_6.length c0_6) := (blk_cell BK141.out 6).trans rfl
            have hfz44_0 := blk_frozen BK141.out 0
            have hfz44_1 := blk_frozen BK141.out 1
            have hfz44_2 := blk_frozen BK141.out 2
            have hfz44_3 := blk_frozen BK141.out 3
            have hfz44_4 := blk_frozen BK141.out 4
            have hfz44_5 := blk_frozen BK141.out 5
            have hfz44_6 := blk_frozen BK141.out 6
            go_wp2
            go_meet
            case rel => exact ⟨_, (true), (by first | rfl | (simp; done) | (simp [*]; done)), H', ⟨by first | omega | exact Nat.le_refl _⟩, ⟨by (with_reducible repeat (first | refine blk_drewN ?_ _ | refine blk_drew ?_ | refine blk_alloc ?_ _)); exact BK141.out⟩, ⟨by repeat (first | (with_reducible first | exact HB.out | apply below_alloc | apply pw_below_drewN | apply below_drew1 | refine below_set ?_ GE141.out) | exact HB.out)⟩⟩
          · rw [if_neg c43] at H
            have c43b0 : decide (0 < (l0_6.length : Int)) = false := decide_eq_false c43
            have c43b1 : decide (0 < l0_6.length) = false := decide_eq_false (by omega)
            clear c43
            by_cases c45 : a0_0 = 1
            · rw [if_pos c45] at H
              have c45b0 : (a0_0 == 1) = true := beq_iff_eq.mpr c45
              have c45b1 : (a0_0 != 1) = false := bne_eq_false_iff_eq.mpr c45
              clear c45
              by_cases c46 : a0_5 = true
              · subst c46
                have H1 : ((spec_l01In.f a0_4 0 39).bind fun t148 => (spec_NodeOk.j0 k (!t148) a0_0 a0_1 a0_2 a0_3 a0_4 true l0_6)) = some r := by rw [if_pos rfl] at H; exact H
                clear H
                have H := H1
                clear H1
                replace H := Option.bind_eq_some_iff.mp H
                obtain ⟨t148, A470, H⟩ := H
                replace H : (spec_NodeOk.j0 k (!t148) a0_0 a0_1 a0_2 a0_3 a0_4 true l0_6) = some r := H
                have A47 := Aside0.mk A470
                clear A470
                have H' := Aside0.mk H
                clear H
                have hcz48_0 : w3.cell? ⟨gb141, 0, none⟩ = some (.int .i64 a0_0) := (blk_cell BK141.out 0).trans rfl
                have hcz48_1 : w3.cell? ⟨gb141, 1, none⟩ = some (.string a0_1) := (blk_cell BK141.out 1).trans rfl
                have hcz48_2 : w3.cell? ⟨gb141, 2, none⟩ = some (.int .i64 a0_2) := (blk_cell BK141.out 2).trans rfl
                have hcz48_3 : w3.cell? ⟨gb141, 3, none⟩ = some (.int .i64 a0_3) := (blk_cell BK141.out 3).trans rfl
                have hcz48_4 : w3.cell? ⟨gb141, 4, none⟩ = some (.int .i64 a0_4) := (blk_cell BK141.out 4).trans rfl
                have hcz48_5 : w3.cell? ⟨gb141, 5, none⟩ = some (.bool true) := (blk_cell BK141.out 5).trans rfl
                have hcz48_6 : w3.cell? ⟨gb141, 6, none⟩ = some (.slice A0_6 l0_6.length c0_6) := (blk_cell BK141.out 6).trans rfl
                have hfz48_0 := blk_frozen BK141.out 0
                have hfz48_1 := blk_frozen BK141.out 1
                have hfz48_2 := blk_frozen BK141.out 2
                have hfz48_3 := blk_frozen BK141.out 3
                have hfz48_4 := blk_frozen BK141.out 4
                have hfz48_5 := blk_frozen BK141.out 5
                have hfz48_6 := blk_frozen BK141.out 6
                go_wp2_with (first | (go_at_call 60; (with_reducible refine (spec_l01In.calls a0_4 0 39 t148 _ A47.out).mono ?_); rintro e w' ⟨rfl, ⟨nd, rfl⟩⟩))
                go_meet
                case rel => exact ⟨_, (!t148), (by first | rfl | (simp; done) | (simp [*]; done)), H', ⟨by first | omega | exact Nat.le_refl _⟩, ⟨by (with_reducible repeat (first | refine blk_drewN ?_ _ | refine blk_drew ?_ | refine blk_alloc ?_ _)); exact BK141.out⟩, ⟨by repeat (first | (with_reducible first | exact HB.out | apply below_alloc | apply pw_below_drewN | apply below_drew1 | refine below_set ?_ GE141.out) | exact HB.out)⟩⟩
              · replace c46 := Bool.eq_false_iff.mpr c46
                subst c46
                have H1 : (spec_NodeOk.j0 k false a0_0 a0_1 a0_2 a0_3 a0_4 false l0_6) = some r := by rw [if_neg (show ¬ (false = true) by decide)] at H; exact H
                clear H
                have H := H1
                clear H1
                have H' := Aside0.mk H
                clear H
                have hcz49_0 : w3.cell? ⟨gb141, 0, none⟩ = some (.int .i64 a0_0) := (blk_cell BK141.out 0).trans rfl
                have hcz49_1 : w3.cell? ⟨gb141, 1, none⟩ = some (.string a0_1) := (blk_cell BK141.out 1).trans rfl
                have hcz49_2 : w3.cell? ⟨gb141, 2, none⟩ = some (.int .i64 a0_2) := (blk_cell BK141.out 2).trans rfl
                have hcz49_3 : w3.cell? ⟨gb141, 3, none⟩ = some (.int .i64 a0_3) := (blk_cell BK141.out 3).trans rfl
                have hcz49_4 : w3.cell? ⟨gb141, 4, none⟩ = some (.int .i64 a0_4) := (blk_cell BK141.out 4).trans rfl
                have hcz49_5 : w3.cell? ⟨gb141, 5, none⟩ = some (.bool false) := (blk_cell BK141.out 5).trans rfl
                have hcz49_6 : w3.cell? ⟨gb141, 6, none⟩ = some (.slice A0_6 l0_6.length c0_6) := (blk_cell BK141.out 6).trans rfl
                have hfz49_0 := blk_frozen BK141.out 0
                have hfz49_1 := blk_frozen BK141.out 1
                have hfz49_2 := blk_frozen BK141.out 2
                have hfz49_3 := blk_frozen BK141.out 3
                have hfz49_4 := blk_frozen BK141.out 4
                have hfz49_5 := blk_frozen BK141.out 5
                have hfz49_6 := blk_frozen BK141.out 6
                go_wp2
                go_meet
                case rel => exact ⟨_, (false), (by first | rfl | (simp; done) | (simp [*]; done)), H', ⟨by first | omega | exact Nat.le_refl _⟩, ⟨by (with_reducible repeat (first | refine blk_drewN ?_ _ | refine blk_drew ?_ | refine blk_alloc ?_ _)); exact BK141.out⟩, ⟨by repeat (first | (with_reducible first | exact HB.out | apply below_alloc | apply pw_below_drewN | apply below_drew1 | refine below_set ?_ GE141.out) | exact HB.out)⟩⟩
            · rw [if_neg c45] at H
              have c45b0 : (a0_0 == 1) = false := beq_eq_false_iff_ne.mpr c45
              have c45b1 : (a0_0 != 1) = true := bne_iff_ne.mpr c45
              by_cases c50 : a0_3 = 0
              · rw [if_pos c50] at H
                have c50b0 : (a0_3 == 0) = true := beq_iff_eq.mpr c50
                have c50b1 : (a0_3 != 0) = false := bne_eq_false_iff_eq.mpr c50
                clear c50
                by_cases c51 : a0_5 = true
                · subst c51
                  have H1 : ((spec_l01In.f a0_4 0 39).bind fun t149 => (spec_NodeOk.j0 k (!t149) a0_0 a0_1 a0_2 a0_3 a0_4 true l0_6)) = some r := by rw [if_pos rfl] at H; exact H
                  clear H
                  have H := H1
                  clear H1
                  replace H := Option.bind_eq_some_iff.mp H
                  obtain ⟨t149, A520, H⟩ := H
                  replace H : (spec_NodeOk.j0 k (!t149) a0_0 a0_1 a0_2 a0_3 a0_4 true l0_6) = some r := H
                  have A52 := Aside0.mk A520
                  clear A520
                  have H' := Aside0.mk H
                  clear H
                  have hcz53_0 : w3.cell? ⟨gb141, 0, none⟩ = some (.int .i64 a0_0) := (blk_cell BK141.out 0).trans rfl
                  have hcz53_1 : w3.cell? ⟨gb141, 1, none⟩ = some (.string a0_1) := (blk_cell BK141.out 1).trans rfl
                  have hcz53_2 : w3.cell? ⟨gb141, 2, none⟩ = some (.int .i64 a0_2) := (blk_cell BK141.out 2).trans rfl
                  have hcz53_3 : w3.cell? ⟨gb141, 3, none⟩ = some (.int .i64 a0_3) := (blk_cell BK141.out 3).trans rfl
                  have hcz53_4 : w3.cell? ⟨gb141, 4, none⟩ = some (.int .i64 a0_4) := (blk_cell BK141.out 4).trans rfl
                  have hcz53_5 : w3.cell? ⟨gb141, 5, none⟩ = some (.bool true) := (blk_cell BK141.out 5).trans rfl
                  have hcz53_6 : w3.cell? ⟨gb141, 6, none⟩ = some (.slice A0_6 l0_6.length c0_6) := (blk_cell BK141.out 6).trans rfl
                  have hfz53_0 := blk_frozen BK141.out 0
                  have hfz53_1 := blk_frozen BK141.out 1
                  have hfz53_2 := blk_frozen BK141.out 2
                  have hfz53_3 := blk_frozen BK141.out 3
                  have hfz53_4 := blk_frozen BK141.out 4
                  have hfz53_5 := blk_frozen BK141.out 5
                  have hfz53_6 := blk_frozen BK141.out 6
                  go_wp2_with (first | (go_at_call 60; (with_reducible refine (spec_l01In.calls a0_4 0 39 t149 _ A52.out).mono ?_); rintro e w' ⟨rfl, ⟨nd, rfl⟩⟩))
                  go_meet
                  case rel => exact ⟨_, (!t149), (by first | rfl | (simp; done) | (simp [*]; done)), H', ⟨by first | omega | exact Nat.le_refl _⟩, ⟨by (with_reducible repeat (first | refine blk_drewN ?_ _ | refine blk_drew ?_ | refine blk_alloc ?_ _)); exact BK141.out⟩, ⟨by repeat (first | (with_reducible first | exact HB.out | apply below_alloc | apply pw_below_drewN | apply below_drew1 | refine below_set ?_ GE141.out) | exact HB.out)⟩⟩
                · replace c51 := Bool.eq_false_iff.mpr c51
                  subst c51
                  have H1 : (spec_NodeOk.j0 k false a0_0 a0_1 a0_2 a0_3 a0_4 false l0_6) = some r := by rw [if_neg (show ¬ (false = true) by decide)] at H; exact H
                  clear H
                  have H := H1
                  clear H1
                  have H' := Aside0.mk H
                  clear H
                  have hcz54_0 : w3.cell? ⟨gb141, 0, none⟩ = some (.int .i64 a0_0) := (blk_cell BK141.out 0).trans rfl
                  have hcz54_1 : w3.cell? ⟨gb141, 1, none⟩ = some (.string a0_1) := (blk_cell BK141.out 1).trans rfl
                  have hcz54_2 : w3.cell? ⟨gb141, 2, none⟩ = some (.int .i64 a0_2) := (blk_cell BK141.out 2).trans rfl
                  have hcz54_3 : w3.cell? ⟨gb141, 3, none⟩ = some (.int .i64 a0_3) := (blk_cell BK141.out 3).trans rfl
                  have hcz54_4 : w3.cell? ⟨gb141, 4, none⟩ = some (.int .i64 a0_4) := (blk_cell BK141.out 4).trans rfl
                  have hcz54_5 : w3.cell? ⟨gb141, 5, none⟩ = some (.bool false) := (blk_cell BK141.out 5).trans rfl
                  have hcz54_6 : w3.cell? ⟨gb141, 6, none⟩ = some (.slice A0_6 l0_6.length c0_6) := (blk_cell BK141.out 6).trans rfl
                  have hfz54_0 := blk_frozen BK141.out 0
                  have hfz54_1 := blk_frozen BK141.out 1
                  have hfz54_2 := blk_frozen BK141.out 2
                  have hfz54_3 := blk_frozen BK141.out 3
                  have hfz54_4 := blk_frozen BK141.out 4
                  have hfz54_5 := blk_frozen BK141.out 5
                  have hfz54_6 := blk_frozen BK141.out 6
                  go_wp2
                  go_meet
                  case rel => exact ⟨_, (false), (by first | rfl | (simp; done) | (simp [*]; done)), H', ⟨by first | omega | exact Nat.le_refl _⟩, ⟨by (with_reducible repeat (first | refine blk_drewN ?_ _ | refine blk_drew ?_ | refine blk_alloc ?_ _)); exact BK141.out⟩, ⟨by repeat (first | (with_reducible first | exact HB.out | apply below_alloc | apply pw_below_drewN | apply below_drew1 | refine below_set ?_ GE141.out) | exact HB.out)⟩⟩
              · rw [if_neg c50] at H
                have c50b0 : (a0_3 == 0) = false := beq_eq_false_iff_ne.mpr c50
                have c50b1 : (a0_3 != 0) = true := bne_iff_ne.mpr c50
                have H' := Aside0.mk H
                clear H
                have hcz55_0 : w3.cell? ⟨gb141, 0, none⟩ = some (.int .i64 a0_0) := (blk_cell BK141.out 0).trans rfl
                have hcz55_1 : w3.cell? ⟨gb141, 1, none⟩ = some (.string a0_1) := (blk_cell BK141.out 1).trans rfl
                have hcz55_2 : w3.cell? ⟨gb141, 2, none⟩ = some (.int .i64 a0_2) := (blk_cell BK141.out 2).trans rfl
                have hcz55_3 : w3.cell? ⟨gb141, 3, none⟩ = some (.int .i64 a0_3) := (blk_cell BK141.out 3).trans rfl
                have hcz55_4 : w3.cell? ⟨gb141, 4, none⟩ = some (.int .i64 a0_4) := (blk_cell BK141.out 4).trans rfl
                have hcz55_5 : w3.cell? ⟨gb141, 5, none⟩ = some (.bool a0_5) := (blk_cell BK141.out 5).trans rfl
                have hcz55_6 : w3.cell? ⟨gb141, 6, none⟩ = some (.slice A0_6 l0_6.length c0_6) := (blk_cell BK141.out 6).trans rfl
                have hfz55_0 := blk_frozen BK141.out 0
                have hfz55_1 := blk_frozen BK141.out 1
                have hfz55_2 := blk_frozen BK141.out 2
                have hfz55_3 := blk_frozen BK141.out 3
                have hfz55_4 := blk_frozen BK141.out 4
                have hfz55_5 := blk_frozen BK141.out 5
                have hfz55_6 := blk_frozen BK141.out 6
                go_wp2
                go_meet
                case rel => exact ⟨_, (true), (by first | rfl | (simp; done) | (simp [*]; done)), H', ⟨by first | omega | exact Nat.le_refl _⟩, ⟨by (with_reducible repeat (first | refine blk_drewN ?_ _ | refine blk_drew ?_ | refine blk_alloc ?_ _)); exact BK141.out⟩, ⟨by repeat (first | (with_reducible first | exact HB.out | apply below_alloc | apply pw_below_drewN | apply below_drew1 | refine below_set ?_ GE141.out) | exact HB.out)⟩⟩
      · rw [if_neg c30] at H
        have c30b0 : (a0_1.toList == ([] : List UInt8)) = false := beq_eq_false_iff_ne.mpr c30
        have c30b1 : (a0_1.toList != ([] : List UInt8)) = true := bne_iff_ne.mpr c30
        have H' := Aside0.mk H
        clear H
        have hcz56_0 : w3.cell? ⟨gb141, 0, none⟩ = some (.int .i64 a0_0) := (blk_cell BK141.out 0).trans rfl
        have hcz56_1 : w3.cell? ⟨gb141, 1, none⟩ = some (.string a0_1) := (blk_cell BK141.out 1).trans rfl
        have hcz56_2 : w3.cell? ⟨gb141, 2, none⟩ = some (.int .i64 a0_2) := (blk_cell BK141.out 2).trans rfl
        have hcz56_3 : w3.cell? ⟨gb141, 3, none⟩ = some (.int .i64 a0_3) := (blk_cell BK141.out 3).trans rfl
        have hcz56_4 : w3.cell? ⟨gb141, 4, none⟩ = some (.int .i64 a0_4) := (blk_cell BK141.out 4).trans rfl
        have hcz56_5 : w3.cell? ⟨gb141, 5, none⟩ = some (.bool a0_5) := (blk_cell BK141.out 5).trans rfl
        have hcz56_6 : w3.cell? ⟨gb141, 6, none⟩ = some (.slice A0_6 l0_6.length c0_6) := (blk_cell BK141.out 6).trans rfl
        have hfz56_0 := blk_frozen BK141.out 0
        have hfz56_1 := blk_frozen BK141.out 1
        have hfz56_2 := blk_frozen BK141.out 2
        have hfz56_3 := blk_frozen BK141.out 3
        have hfz56_4 := blk_frozen BK141.out 4
        have hfz56_5 := blk_frozen BK141.out 5
        have hfz56_6 := blk_frozen BK141.out 6
        go_wp2
        go_meet
        case rel => exact ⟨_, (true), (by first | rfl | (simp; done) | (simp [*]; done)), H', ⟨by first | omega | exact Nat.le_refl _⟩, ⟨by (with_reducible repeat (first | refine blk_drewN ?_ _ | refine blk_drew ?_ | refine blk_alloc ?_ _)); exact BK141.out⟩, ⟨by repeat (first | (with_reducible first | exact HB.out | apply below_alloc | apply pw_below_drewN | apply below_drew1 | refine below_set ?_ GE141.out) | exact HB.out)⟩⟩
  case rest =>
    clear HC2
    try clear c1
    try clear c2
    try clear p2
    try clear c3
    try clear c4
    try clear c4b0
    try clear c4b1
    try clear c5
    try clear c5b0
    try clear c5b1
    try clear c11
    try clear c11b0
    try clear c11b1
    try clear c12
    try clear c17
    try clear c17b0
    try clear c17b1
    try clear c19
    try clear c19b0
    try clear c19b1
    try clear c20
    try clear c24
    try clear c24b0
    try clear c24b1
    try clear c25
    try clear c30
    try clear c30b0
    try clear c30b1
    try clear c31
    try clear c31b0
    try clear c31b1
    try clear c32
    try clear c32b0
    try clear c32b1
    try clear c33
    try clear c37
    try clear c37b0
    try clear c37b1
    try clear c38
    try clear c43
    try clear c43b0
    try clear c43b1
    try clear c45
    try clear c45b0
    try clear c45b1
    try clear c46
    try clear c50
    try clear c50b0
    try clear c50b1
    try clear c51
    try clear hcz14_0
    try clear hcz14_1
    try clear hcz14_2
    try clear hcz14_3
    try clear hcz14_4
    try clear hcz14_5
    try clear hcz14_6
    try clear hcz15_0
    try clear hcz15_1
    try clear hcz15_2
    try clear hcz15_3
    try clear hcz15_4
    try clear hcz15_5
    try clear hcz15_6
    try clear hcz16_0
    try clear hcz16_1
    try clear hcz16_2
    try clear hcz16_3
    try clear hcz16_4
    try clear hcz16_5
    try clear hcz16_6
    try clear hcz18_0
    try clear hcz18_1
    try clear hcz18_2
    try clear hcz18_3
    try clear hcz18_4
    try clear hcz18_5
    try clear hcz18_6
    try clear hcz22_0
    try clear hcz22_1
    try clear hcz22_2
    try clear hcz22_3
    try clear hcz22_4
    try clear hcz22_5
    try clear hcz22_6
    try clear hcz23_0
    try clear hcz23_1
    try clear hcz23_2
    try clear hcz23_3
    try clear hcz23_4
    try clear hcz23_5
    try clear hcz23_6
    try clear hcz27_0
    try clear hcz27_1
    try clear hcz27_2
    try clear hcz27_3
    try clear hcz27_4
    try clear hcz27_5
    try clear hcz27_6
    try clear hcz28_0
    try clear hcz28_1
    try clear hcz28_2
    try clear hcz28_3
    try clear hcz28_4
    try clear hcz28_5
    try clear hcz28_6
    try clear hcz29_0
    try clear hcz29_1
    try clear hcz29_2
    try clear hcz29_3
    try clear hcz29_4
    try clear hcz29_5
    try clear hcz29_6
    try clear hcz35_0
    try clear hcz35_1
    try clear hcz35_2
    try clear hcz35_3
    try clear hcz35_4
    try clear hcz35_5
    try clear hcz35_6
    try clear hcz36_0
    try clear hcz36_1
    try clear hcz36_2
    try clear hcz36_3
    try clear hcz36_4
    try clear hcz36_5
    try clear hcz36_6
    try clear hcz40_0
    try clear hcz40_1
    try clear hcz40_2
    try clear hcz40_3
    try clear hcz40_4
    try clear hcz40_5
    try clear hcz40_6
    try clear hcz41_0
    try clear hcz41_1
    try clear hcz41_2
    try clear hcz41_3
    try clear hcz41_4
    try clear hcz41_5
    try clear hcz41_6
    try clear hcz42_0
    try clear hcz42_1
    try clear hcz42_2
    try clear hcz42_3
    try clear hcz42_4
    try clear hcz42_5
    try clear hcz42_6
    try clear hcz44_0
    try clear hcz44_1
    try clear hcz44_2
    try clear hcz44_3
    try clear hcz44_4
    try clear hcz44_5
    try clear hcz44_6
    try clear hcz48_0
    try clear hcz48_1
    try clear hcz48_2
    try clear hcz48_3
    try clear hcz48_4
    try clear hcz48_5
    try clear hcz48_6
    try clear hcz49_0
    try clear hcz49_1
    try clear hcz49_2
    try clear hcz49_3
    try clear hcz49_4
    try clear hcz49_5
    try clear hcz49_6
    try clear hcz53_0
    try clear hcz53_1
    try clear hcz53_2
    try clear hcz53_3
    try clear hcz53_4
    try clear hcz53_5
    try clear hcz53_6
    try clear hcz54_0
    try clear hcz54_1
    try clear hcz54_2
    try clear hcz54_3
    try clear hcz54_4
    try clear hcz54_5
    try clear hcz54_6
    try clear hcz55_0
    try clear hcz55_1
    try clear hcz55_2
    try clear hcz55_3
    try clear hcz55_4
    try clear hcz55_5
    try clear hcz55_6
    try clear hcz56_0
    try clear hcz56_1
    try clear hcz56_2
    try clear hcz56_3
    try clear hcz56_4
    try clear hcz56_5
    try clear hcz56_6
    try clear hfz14_0
    try clear hfz14_1
    try clear hfz14_2
    try clear hfz14_3
    try clear hfz14_4
    try clear hfz14_5
    try clear hfz14_6
    try clear hfz15_0
    try clear hfz15_1
    try clear hfz15_2
    try clear hfz15_3
    try clear hfz15_4
    try clear hfz15_5
    try clear hfz15_6
    try clear hfz16_0
    try clear hfz16_1
    try clear hfz16_2
    try clear hfz16_3
    try clear hfz16_4
    try clear hfz16_5
    try clear hfz16_6
    try clear hfz18_0
    try clear hfz18_1
    try clear hfz18_2
    try clear hfz18_3
    try clear hfz18_4
    try clear hfz18_5
    try clear hfz18_6
    try clear hfz22_0
    try clear hfz22_1
    try clear hfz22_2
    try clear hfz22_3
    try clear hfz22_4
    try clear hfz22_5
    try clear hfz22_6
    try clear hfz23_0
    try clear hfz23_1
    try clear hfz23_2
    try clear hfz23_3
    try clear hfz23_4
    try clear hfz23_5
    try clear hfz23_6
    try clear hfz27_0
    try clear hfz27_1
    try clear hfz27_2
    try clear hfz27_3
    try clear hfz27_4
    try clear hfz27_5
    try clear hfz27_6
    try clear hfz28_0
    try clear hfz28_1
    try clear hfz28_2
    try clear hfz28_3
    try clear hfz28_4
    try clear hfz28_5
    try clear hfz28_6
    try clear hfz29_0
    try clear hfz29_1
    try clear hfz29_2
    try clear hfz29_3
    try clear hfz29_4
    try clear hfz29_5
    try clear hfz29_6
    try clear hfz35_0
    try clear hfz35_1
    try clear hfz35_2
    try clear hfz35_3
    try clear hfz35_4
    try clear hfz35_5
    try clear hfz35_6
    try clear hfz36_0
    try clear hfz36_1
    try clear hfz36_2
    try clear hfz36_3
    try clear hfz36_4
    try clear hfz36_5
    try clear hfz36_6
    try clear hfz40_0
    try clear hfz40_1
    try clear hfz40_2
    try clear hfz40_3
    try clear hfz40_4
    try clear hfz40_5
    try clear hfz40_6
    try clear hfz41_0
    try clear hfz41_1
    try clear hfz41_2
    try clear hfz41_3
    try clear hfz41_4
    try clear hfz41_5
    try clear hfz41_6
    try clear hfz42_0
    try clear hfz42_1
    try clear hfz42_2
    try clear hfz42_3
    try clear hfz42_4
    try clear hfz42_5
    try clear hfz42_6
    try clear hfz44_0
    try clear hfz44_1
    try clear hfz44_2
    try clear hfz44_3
    try clear hfz44_4
    try clear hfz44_5
    try clear hfz44_6
    try clear hfz48_0
    try clear hfz48_1
    try clear hfz48_2
    try clear hfz48_3
    try clear hfz48_4
    try clear hfz48_5
    try clear hfz48_6
    try clear hfz49_0
    try clear hfz49_1
    try clear hfz49_2
    try clear hfz49_3
    try clear hfz49_4
    try clear hfz49_5
    try clear hfz49_6
    try clear hfz53_0
    try clear hfz53_1
    try clear hfz53_2
    try clear hfz53_3
    try clear hfz53_4
    try clear hfz53_5
    try clear hfz53_6
    try clear hfz54_0
    try clear hfz54_1
    try clear hfz54_2
    try clear hfz54_3
    try clear hfz54_4
    try clear hfz54_5
    try clear hfz54_6
    try clear hfz55_0
    try clear hfz55_1
    try clear hfz55_2
    try clear hfz55_3
    try clear hfz55_4
    try clear hfz55_5
    try clear hfz55_6
    try clear hfz56_0
    try clear hfz56_1
    try clear hfz56_2
    try clear hfz56_3
    try clear hfz56_4
    try clear hfz56_5
    try clear hfz56_6
    obtain ⟨kq, x42_1, rfl, HA, HJ1, BK141, HB⟩ := hcut
    cases kq with
    | zero => exact absurd HA.out (by simp [spec_NodeOk.j0])
    | succ kj1 =>
      have H := HA.out
      clear HA
      simp only [spec_NodeOk.j0] at H
      by_cases c57 : x42_1 = true
      · subst c57
        have H1 : (some false) = some r := by rw [if_pos rfl] at H; exact H
        clear H
        have H := H1
        clear H1
        obtain rfl := Option.some.inj H
        go_wp2
        go_ret
        exact ⟨by first | rfl | (simp [errW_none, errW_some] <;> rfl) | (simp [*, errW_none, errW_some] <;> rfl), by repeat (first | (with_reducible first | exact HB.out | apply below_alloc | apply pw_below_drewN | apply below_drew1 | refine below_set ?_ GE141.out) | exact HB.out)⟩
      · replace c57 := Bool.eq_false_iff.mpr c57
        subst c57
        have H1 : (if a0_0 = 0 then ((spec_WordOk.f kj1 a0_1).bind fun t150 => (if t150 = true then (if a0_2 = 0 then (if a0_4 = 0 then (some (!a0_5)) else (some false)) else (some false)) else (some false))) else (if a0_0 = 1 then ((spec_l02Col.f a0_2).bind fun t151 => (if t151 = true then ((spec_l01In.f a0_3 0 3).bind fun t152 => (if t152 = true then ((spec_l01Number.f a0_4).bind fun t153 => (if t153 = true then (if a0_3 = 3 then (if a0_4 = 0 then (some (!a0_5)) else (some false)) else (some true)) else (some false))) else (some false))) else (some false))) else (if a0_0 = 2 then (spec_NodeOk.l0 kj1 0 a0_0 a0_1 a0_2 a0_3 a0_4 a0_5 l0_6) else (if a0_0 = 3 then ((spec_l02Col.f a0_2).bind fun t157 => (if t157 = true then ((spec_l02Col.f a0_4).bind fun t158 => (if t158 = true then (some (!a0_5)) else (some false))) else (some false))) else (if a0_0 = 5 then ((spec_l02Col.f a0_2).bind fun t159 => (if t159 = true then (if a0_4 = 0 then (some (!a0_5)) else (some false)) else (some false))) else (if a0_0 = 6 then (if a0_2 = 0 then ((spec_l01In.f a0_4 0 1000000).bind fun t160 => (some t160)) else (some false)) else (if a0_0 = 4 then (if a0_2 = 0 then (if a0_4 = 0 then (some (!a0_5)) else (some false)) else (some false)) else (if a0_0 = 7 then (if a0_2 = 0 then (if a0_4 = 0 then (some (!a0_5)) else (some false)) else (some false)) else (some false))))))))) = some r := by rw [if_neg (show ¬ (false = true) by decide)] at H; exact H
        clear H
        have H := H1
        clear H1
        by_cases c58 : a0_0 = 0
        · rw [if_pos c58] at H
          have c58b0 : (a0_0 == 0) = true := beq_iff_eq.mpr c58
          have c58b1 : (a0_0 != 0) = false := bne_eq_false_iff_eq.mpr c58
          clear c58
          replace H := Option.bind_eq_some_iff.mp H
          obtain ⟨t150, A590, H⟩ := H
          replace H : (if t150 = true then (if a0_2 = 0 then (if a0_4 = 0 then (some (!a0_5)) else (some false)) else (some false)) else (some false)) = some r := H
          have A59 := Aside0.mk A590
          clear A590
          by_cases c60 : t150 = true
          · subst c60
            have H1 : (if a0_2 = 0 then (if a0_4 = 0 then (some (!a0_5)) else (some false)) else (some false)) = some r := by rw [if_pos rfl] at H; exact H
            clear H
            have H := H1
            clear H1
            by_cases c61 : a0_2 = 0
            · rw [if_pos c61] at H
              have c61b0 : (a0_2 == 0) = true := beq_iff_eq.mpr c61
              have c61b1 : (a0_2 != 0) = false := bne_eq_false_iff_eq.mpr c61
              clear c61
              by_cases c62 : a0_4 = 0
              · rw [if_pos c62] at H
                have c62b0 : (a0_4 == 0) = true := beq_iff_eq.mpr c62
                have c62b1 : (a0_4 != 0) = false := bne_eq_false_iff_eq.mpr c62
                clear c62
                obtain rfl := Option.some.inj H
                have hcz63_0 : wc.cell? ⟨gb141, 0, none⟩ = some (.int .i64 a0_0) := (blk_cell BK141.out 0).trans rfl
                have hcz63_1 : wc.cell? ⟨gb141, 1, none⟩ = some (.string a0_1) := (blk_cell BK141.out 1).trans rfl
                have hcz63_2 : wc.cell? ⟨gb141, 2, none⟩ = some (.int .i64 a0_2) := (blk_cell BK141.out 2).trans rfl
                have hcz63_3 : wc.cell? ⟨gb141, 3, none⟩ = some (.int .i64 a0_3) := (blk_cell BK141.out 3).trans rfl
                have hcz63_4 : wc.cell? ⟨gb141, 4, none⟩ = some (.int .i64 a0_4) := (blk_cell BK141.out 4).trans rfl
                have hcz63_5 : wc.cell? ⟨gb141, 5, none⟩ = some (.bool a0_5) := (blk_cell BK141.out 5).trans rfl
                have hcz63_6 : wc.cell? ⟨gb141, 6, none⟩ = some (.slice A0_6 l0_6.length c0_6) := (blk_cell BK141.out 6).trans rfl
                have hfz63_0 := blk_frozen BK141.out 0
                have hfz63_1 := blk_frozen BK141.out 1
                have hfz63_2 := blk_frozen BK141.out 2
                have hfz63_3 := blk_frozen BK141.out 3
                have hfz63_4 := blk_frozen BK141.out 4
                have hfz63_5 := blk_frozen BK141.out 5
                have hfz63_6 := blk_frozen BK141.out 6
                go_wp2_with (first | ((with_reducible refine gate_callee (f := 61) rfl ?_); refine goesL_ (some 49) rfl rfl Try.func61 (by kernel_rfl) rfl #[.string a0_1] rfl (by (try simp only [List.map_toArray, List.map_cons, List.map_nil]); first | done | rfl | (simp only [List.length_drop, List.length_take]; rfl)) ?_; (with_reducible refine (spec_WordOk.calls kj1 a0_1 true _ A59.out).mono ?_); rintro e w' ⟨rfl, ⟨nd, rfl⟩⟩; refine ⟨_, rfl, ?_⟩))
                go_ret
                exact ⟨by first | rfl | (simp [errW_none, errW_some] <;> rfl) | (simp [*, errW_none, errW_some] <;> rfl), by repeat (first | (with_reducible first | exact HB.out | apply below_alloc | apply pw_below_drewN | apply below_drew1 | refine below_set ?_ GE141.out) | exact HB.out)⟩
              · rw [if_neg c62] at H
                have c62b0 : (a0_4 == 0) = false := beq_eq_false_iff_ne.mpr c62
                have c62b1 : (a0_4 != 0) = true := bne_iff_ne.mpr c62
                obtain rfl := Option.some.inj H
                have hcz64_0 : wc.cell? ⟨gb141, 0, none⟩ = some (.int .i64 a0_0) := (blk_cell BK141.out 0).trans rfl
                have hcz64_1 : wc.cell? ⟨gb141, 1, none⟩ = some (.string a0_1) := (blk_cell BK141.out 1).trans rfl
                have hcz64_2 : wc.cell? ⟨gb141, 2, none⟩ = some (.int .i64 a0_2) := (blk_cell BK141.out 2).trans rfl
                have hcz64_3 : wc.cell? ⟨gb141, 3, none⟩ = some (.int .i64 a0_3) := (blk_cell BK141.out 3).trans rfl
                have hcz64_4 : wc.cell? ⟨gb141, 4, none⟩ = some (.int .i64 a0_4) := (blk_cell BK141.out 4).trans rfl
                have hcz64_5 : wc.cell? ⟨gb141, 5, none⟩ = some (.bool a0_5) := (blk_cell BK141.out 5).trans rfl
                have hcz64_6 : wc.cell? ⟨gb141, 6, none⟩ = some (.slice A0_6 l0_6.length c0_6) := (blk_cell BK141.out 6).trans rfl
                have hfz64_0 := blk_frozen BK141.out 0
                have hfz64_1 := blk_frozen BK141.out 1
                have hfz64_2 := blk_frozen BK141.out 2
                have hfz64_3 := blk_frozen BK141.out 3
                have hfz64_4 := blk_frozen BK141.out 4
                have hfz64_5 := blk_frozen BK141.out 5
                have hfz64_6 := blk_frozen BK141.out 6
                go_wp2_with (first | ((with_reducible refine gate_callee (f := 61) rfl ?_); refine goesL_ (some 49) rfl rfl Try.func61 (by kernel_rfl) rfl #[.string a0_1] rfl (by (try simp only [List.map_toArray, List.map_cons, List.map_nil]); first | done | rfl | (simp only [List.length_drop, List.length_take]; rfl)) ?_; (with_reducible refine (spec_WordOk.calls kj1 a0_1 true _ A59.out).mono ?_); rintro e w' ⟨rfl, ⟨nd, rfl⟩⟩; refine ⟨_, rfl, ?_⟩))
                go_ret
                exact ⟨by first | rfl | (simp [errW_none, errW_some] <;> rfl) | (simp [*, errW_none, errW_some] <;> rfl), by repeat (first | (with_reducible first | exact HB.out | apply below_alloc | apply pw_below_drewN | apply below_drew1 | refine below_set ?_ GE141.out) | exact HB.out)⟩
            · rw [if_neg c61] at H
              have c61b0 : (a0_2 == 0) = false := beq_eq_false_iff_ne.mpr c61
              have c61b1 : (a0_2 != 0) = true := bne_iff_ne.mpr c61
              obtain rfl := Option.some.inj H
              have hcz65_0 : wc.cell? ⟨gb141, 0, none⟩ = some (.int .i64 a0_0) := (blk_cell BK141.out 0).trans rfl
              have hcz65_1 : wc.cell? ⟨gb141, 1, none⟩ = some (.string a0_1) := (blk_cell BK141.out 1).trans rfl
              have hcz65_2 : wc.cell? ⟨gb141, 2, none⟩ = some (.int .i64 a0_2) := (blk_cell BK141.out 2).trans rfl
              have hcz65_3 : wc.cell? ⟨gb141, 3, none⟩ = some (.int .i64 a0_3) := (blk_cell BK141.out 3).trans rfl
              have hcz65_4 : wc.cell? ⟨gb141, 4, none⟩ = some (.int .i64 a0_4) := (blk_cell BK141.out 4).trans rfl
              have hcz65_5 : wc.cell? ⟨gb141, 5, none⟩ = some (.bool a0_5) := (blk_cell BK141.out 5).trans rfl
              have hcz65_6 : wc.cell? ⟨gb141, 6, none⟩ = some (.slice A0_6 l0_6.length c0_6) := (blk_cell BK141.out 6).trans rfl
              have hfz65_0 := blk_frozen BK141.out 0
              have hfz65_1 := blk_frozen BK141.out 1
              have hfz65_2 := blk_frozen BK141.out 2
              have hfz65_3 := blk_frozen BK141.out 3
              have hfz65_4 := blk_frozen BK141.out 4
              have hfz65_5 := blk_frozen BK141.out 5
              have hfz65_6 := blk_frozen BK141.out 6
              go_wp2_with (first | ((with_reducible refine gate_callee (f := 61) rfl ?_); refine goesL_ (some 49) rfl rfl Try.func61 (by kernel_rfl) rfl #[.string a0_1] rfl (by (try simp only [List.map_toArray, List.map_cons, List.map_nil]); first | done | rfl | (simp only [List.length_drop, List.length_take]; rfl)) ?_; (with_reducible refine (spec_WordOk.calls kj1 a0_1 true _ A59.out).mono ?_); rintro e w' ⟨rfl, ⟨nd, rfl⟩⟩; refine ⟨_, rfl, ?_⟩))
              go_ret
              exact ⟨by first | rfl | (simp [errW_none, errW_some] <;> rfl) | (simp [*, errW_none, errW_some] <;> rfl), by repeat (first | (with_reducible first | exact HB.out | apply below_alloc | apply pw_below_drewN | apply below_drew1 | refine below_set ?_ GE141.out) | exact HB.out)⟩
          · replace c60 := Bool.eq_false_iff.mpr c60
            subst c60
            have H1 : (some false) = some r := by rw [if_neg (show ¬ (false = true) by decide)] at H; exact H
            clear H
            have H := H1
            clear H1
            obtain rfl := Option.some.inj H
            have hcz66_0 : wc.cell? ⟨gb141, 0, none⟩ = some (.int .i64 a0_0) := (blk_cell BK141.out 0).trans rfl
            have hcz66_1 : wc.cell? ⟨gb141, 1, none⟩ = some (.string a0_1) := (blk_cell BK141.out 1).trans rfl
            have hcz66_2 : wc.cell? ⟨gb141, 2, none⟩ = some (.int .i64 a0_2) := (blk_cell BK141.out 2).trans rfl
            have hcz66_3 : wc.cell? ⟨gb141, 3, none⟩ = some (.int .i64 a0_3) := (blk_cell BK141.out 3).trans rfl
            have hcz66_4 : wc.cell? ⟨gb141, 4, none⟩ = some (.int .i64 a0_4) := (blk_cell BK141.out 4).trans rfl
            have hcz66_5 : wc.cell? ⟨gb141, 5, none⟩ = some (.bool a0_5) := (blk_cell BK141.out 5).trans rfl
            have hcz66_6 : wc.cell? ⟨gb141, 6, none⟩ = some (.slice A0_6 l0_6.length c0_6) := (blk_cell BK141.out 6).trans rfl
            have hfz66_0 := blk_frozen BK141.out 0
            have hfz66_1 := blk_frozen BK141.out 1
            have hfz66_2 := blk_frozen BK141.out 2
            have hfz66_3 := blk_frozen BK141.out 3
            have hfz66_4 := blk_frozen BK141.out 4
            have hfz66_5 := blk_frozen BK141.out 5
            have hfz66_6 := blk_frozen BK141.out 6
            go_wp2_with (first | ((with_reducible refine gate_callee (f := 61) rfl ?_); refine goesL_ (some 49) rfl rfl Try.func61 (by kernel_rfl) rfl #[.string a0_1] rfl (by (try simp only [List.map_toArray, List.map_cons, List.map_nil]); first | done | rfl | (simp only [List.length_drop, List.length_take]; rfl)) ?_; (with_reducible refine (spec_WordOk.calls kj1 a0_1 false _ A59.out).mono ?_); rintro e w' ⟨rfl, ⟨nd, rfl⟩⟩; refine ⟨_, rfl, ?_⟩))
            go_ret
            exact ⟨by first | rfl | (simp [errW_none, errW_some] <;> rfl) | (simp [*, errW_none, errW_some] <;> rfl), by repeat (first | (with_reducible first | exact HB.out | apply below_alloc | apply pw_below_drewN | apply below_drew1 | refine below_set ?_ GE141.out) | exact HB.out)⟩
        · rw [if_neg c58] at H
          have c58b0 : (a0_0 == 0) = false := beq_eq_false_iff_ne.mpr c58
          have c58b1 : (a0_0 != 0) = true := bne_iff_ne.mpr c58
          by_cases c67 : a0_0 = 1
          · rw [if_pos c67] at H
            have c67b0 : (a0_0 == 1) = true := beq_iff_eq.mpr c67
            have c67b1 : (a0_0 != 1) = false := bne_eq_false_iff_eq.mpr c67
            clear c67
            replace H := Option.bind_eq_some_iff.mp H
            obtain ⟨t151, A680, H⟩ := H
            replace H : (if t151 = true then ((spec_l01In.f a0_3 0 3).bind fun t152 => (if t152 = true then ((spec_l01Number.f a0_4).bind fun t153 => (if t153 = true then (if a0_3 = 3 then (if a0_4 = 0 then (some (!a0_5)) else (some false)) else (some true)) else (some false))) else (some false))) else (some false)) = some r := H
            have A68 := Aside0.mk A680
            clear A680
            by_cases c69 : t151 = true
            · subst c69
              have H1 : ((spec_l01In.f a0_3 0 3).bind fun t152 => (if t152 = true then ((spec_l01Number.f a0_4).bind fun t153 => (if t153 = true then (if a0_3 = 3 then (if a0_4 = 0 then (some (!a0_5)) else (some false)) else (some true)) else (some false))) else (some false))) = some r := by rw [if_pos rfl] at H; exact H
              clear H
              have H := H1
              clear H1
              replace H := Option.bind_eq_some_iff.mp H
              obtain ⟨t152, A700, H⟩ := H
              replace H : (if t152 = true then ((spec_l01Number.f a0_4).bind fun t153 => (if t153 = true then (if a0_3 = 3 then (if a0_4 = 0 then (some (!a0_5)) else (some false)) else (some true)) else (some false))) else (some false)) = some r := H
              have A70 := Aside0.mk A700
              clear A700
              by_cases c71 : t152 = true
              · subst c71
                have H1 : ((spec_l01Number.f a0_4).bind fun t153 => (if t153 = true then (if a0_3 = 3 then (if a0_4 = 0 then (some (!a0_5)) else (some false)) else (some true)) else (some false))) = some r := by rw [if_pos rfl] at H; exact H
                clear H
                have H := H1
                clear H1
                replace H := Option.bind_eq_some_iff.mp H
                obtain ⟨t153, A720, H⟩ := H
                replace H : (if t153 = true then (if a0_3 = 3 then (if a0_4 = 0 then (some (!a0_5)) else (some false)) else (some true)) else (some false)) = some r := H
                have A72 := Aside0.mk A720
                clear A720
                by_cases c73 : t153 = true
                · subst c73
                  have H1 : (if a0_3 = 3 then (if a0_4 = 0 then (some (!a0_5)) else (some false)) else (some true)) = some r := by rw [if_pos rfl] at H; exact H
                  clear H
                  have H := H1
                  clear H1
                  by_cases c74 : a0_3 = 3
                  · rw [if_pos c74] at H
                    have c74b0 : (a0_3 == 3) = true := beq_iff_eq.mpr c74
                    have c74b1 : (a0_3 != 3) = false := bne_eq_false_iff_eq.mpr c74
                    clear c74
                    by_cases c75 : a0_4 = 0
                    · rw [if_pos c75] at H
                      have c75b0 : (a0_4 == 0) = true := beq_iff_eq.mpr c75
                      have c75b1 : (a0_4 != 0) = false := bne_eq_false_iff_eq.mpr c75
                      clear c75
                      obtain rfl := Option.some.inj H
                      have hcz76_0 : wc.cell? ⟨gb141, 0, none⟩ = some (.int .i64 a0_0) := (blk_cell BK141.out 0).trans rfl
                      have hcz76_1 : wc.cell? ⟨gb141, 1, none⟩ = some (.string a0_1) := (blk_cell BK141.out 1).trans rfl
                      have hcz76_2 : wc.cell? ⟨gb141, 2, none⟩ = some (.int .i64 a0_2) := (blk_cell BK141.out 2).trans rfl
                      have hcz76_3 : wc.cell? ⟨gb141, 3, none⟩ = some (.int .i64 a0_3) := (blk_cell BK141.out 3).trans rfl
                      have hcz76_4 : wc.cell? ⟨gb141, 4, none⟩ = some (.int .i64 a0_4) := (blk_cell BK141.out 4).trans rfl
                      have hcz76_5 : wc.cell? ⟨gb141, 5, none⟩ = some (.bool a0_5) := (blk_cell BK141.out 5).trans rfl
                      have hcz76_6 : wc.cell? ⟨gb141, 6, none⟩ = some (.slice A0_6 l0_6.length c0_6) := (blk_cell BK141.out 6).trans rfl
                      have hfz76_0 := blk_frozen BK141.out 0
                      have hfz76_1 := blk_frozen BK141.out 1
                      have hfz76_2 := blk_frozen BK141.out 2
                      have hfz76_3 := blk_frozen BK141.out 3
                      have hfz76_4 := blk_frozen BK141.out 4
                      have hfz76_5 := blk_frozen BK141.out 5
                      have hfz76_6 := blk_frozen BK141.out 6
                      go_wp2_with (first | ((with_reducible refine gate_callee (f := 62) rfl ?_); refine goesL_ (some 69) rfl rfl Try.func62 (by kernel_rfl) rfl #[.int .i64 a0_2] rfl (by (try simp only [List.map_toArray, List.map_cons, List.map_nil]); first | done | rfl | (simp only [List.length_drop, List.length_take]; rfl)) ?_; (with_reducible refine (spec_l02Col.calls a0_2 true _ A68.out).mono ?_); rintro e w' ⟨rfl, ⟨nd, rfl⟩⟩; refine ⟨_, rfl, ?_⟩) | (go_at_call 60; (with_reducible refine (spec_l01In.calls a0_3 0 3 true _ A70.out).mono ?_); rintro e w' ⟨rfl, ⟨nd, rfl⟩⟩) | (go_at_call 63; (with_reducible refine (spec_l01Number.calls a0_4 true _ A72.out).mono ?_); rintro e w' ⟨rfl, ⟨nd, rfl⟩⟩))
                      go_ret
                      exact ⟨by first | rfl | (simp [errW_none, errW_some] <;> rfl) | (simp [*, errW_none, errW_some] <;> rfl), by repeat (first | (with_reducible first | exact HB.out | apply below_alloc | apply pw_below_drewN | apply below_drew1 | refine below_set ?_ GE141.out) | exact HB.out)⟩
                    · rw [if_neg c75] at H
                      have c75b0 : (a0_4 == 0) = false := beq_eq_false_iff_ne.mpr c75
                      have c75b1 : (a0_4 != 0) = true := bne_iff_ne.mpr c75
                      obtain rfl := Option.some.inj H
                      have hcz77_0 : wc.cell? ⟨gb141, 0, none⟩ = some (.int .i64 a0_0) := (blk_cell BK141.out 0).trans rfl
                      have hcz77_1 : wc.cell? ⟨gb141, 1, none⟩ = some (.string a0_1) := (blk_cell BK141.out 1).trans rfl
                      have hcz77_2 : wc.cell? ⟨gb141, 2, none⟩ = some (.int .i64 a0_2) := (blk_cell BK141.out 2).trans rfl
                      have hcz77_3 : wc.cell? ⟨gb141, 3, none⟩ = some (.int .i64 a0_3) := (blk_cell BK141.out 3).trans rfl
                      have hcz77_4 : wc.cell? ⟨gb141, 4, none⟩ = some (.int .i64 a0_4) := (blk_cell BK141.out 4).trans rfl
                      have hcz77_5 : wc.cell? ⟨gb141, 5, none⟩ = some (.bool a0_5) := (blk_cell BK141.out 5).trans rfl
                      have hcz77_6 : wc.cell? ⟨gb141, 6, none⟩ = some (.slice A0_6 l0_6.length c0_6) := (blk_cell BK141.out 6).trans rfl
                      have hfz77_0 := blk_frozen BK141.out 0
                      have hfz77_1 := blk_frozen BK141.out 1
                      have hfz77_2 := blk_frozen BK141.out 2
                      have hfz77_3 := blk_frozen BK141.out 3
                      have hfz77_4 := blk_frozen BK141.out 4
                      have hfz77_5 := blk_frozen BK141.out 5
                      have hfz77_6 := blk_frozen BK141.out 6
                      go_wp2_with (first | ((with_reducible refine gate_callee (f := 62) rfl ?_); refine goesL_ (some 69) rfl rfl Try.func62 (by kernel_rfl) rfl #[.int .i64 a0_2] rfl (by (try simp only [List.map_toArray, List.map_cons, List.map_nil]); first | done | rfl | (simp only [List.length_drop, List.length_take]; rfl)) ?_; (with_reducible refine (spec_l02Col.calls a0_2 true _ A68.out).mono ?_); rintro e w' ⟨rfl, ⟨nd, rfl⟩⟩; refine ⟨_, rfl, ?_⟩) | (go_at_call 60; (with_reducible refine (spec_l01In.calls a0_3 0 3 true _ A70.out).mono ?_); rintro e w' ⟨rfl, ⟨nd, rfl⟩⟩) | (go_at_call 63; (with_reducible refine (spec_l01Number.calls a0_4 true _ A72.out).mono ?_); rintro e w' ⟨rfl, ⟨nd, rfl⟩⟩))
                      go_ret
                      exact ⟨by first | rfl | (simp [errW_none, errW_some] <;> rfl) | (simp [*, errW_none, errW_some] <;> rfl), by repeat (first | (with_reducible first | exact HB.out | apply below_alloc | apply pw_below_drewN | apply below_drew1 | refine below_set ?_ GE141.out) | exact HB.out)⟩
                  · rw [if_neg c74] at H
                    have c74b0 : (a0_3 == 3) = false := beq_eq_false_iff_ne.mpr c74
                    have c74b1 : (a0_3 != 3) = true := bne_iff_ne.mpr c74
                    obtain rfl := Option.some.inj H
                    have hcz78_0 : wc.cell? ⟨gb141, 0, none⟩ = some (.int .i64 a0_0) := (blk_cell BK141.out 0).trans rfl
                    have hcz78_1 : wc.cell? ⟨gb141, 1, none⟩ = some (.string a0_1) := (blk_cell BK141.out 1).trans rfl
                    have hcz78_2 : wc.cell? ⟨gb141, 2, none⟩ = some (.int .i64 a0_2) := (blk_cell BK141.out 2).trans rfl
                    have hcz78_3 : wc.cell? ⟨gb141, 3, none⟩ = some (.int .i64 a0_3) := (blk_cell BK141.out 3).trans rfl
                    have hcz78_4 : wc.cell? ⟨gb141, 4, none⟩ = some (.int .i64 a0_4) := (blk_cell BK141.out 4).trans rfl
                    have hcz78_5 : wc.cell? ⟨gb141, 5, none⟩ = some (.bool a0_5) := (blk_cell BK141.out 5).trans rfl
                    have hcz78_6 : wc.cell? ⟨gb141, 6, none⟩ = some (.slice A0_6 l0_6.length c0_6) := (blk_cell BK141.out 6).trans rfl
                    have hfz78_0 := blk_frozen BK141.out 0
                    have hfz78_1 := blk_frozen BK141.out 1
                    have hfz78_2 := blk_frozen BK141.out 2
                    have hfz78_3 := blk_frozen BK141.out 3
                    have hfz78_4 := blk_frozen BK141.out 4
                    have hfz78_5 := blk_frozen BK141.out 5
                    have hfz78_6 := blk_frozen BK141.out 6
                    go_wp2_with (first | ((with_reducible refine gate_callee (f := 62) rfl ?_); refine goesL_ (some 69) rfl rfl Try.func62 (by kernel_rfl) rfl #[.int .i64 a0_2] rfl (by (try simp only [List.map_toArray, List.map_cons, List.map_nil]); first | done | rfl | (simp only [List.length_drop, List.length_take]; rfl)) ?_; (with_reducible refine (spec_l02Col.calls a0_2 true _ A68.out).mono ?_); rintro e w' ⟨rfl, ⟨nd, rfl⟩⟩; refine ⟨_, rfl, ?_⟩) | (go_at_call 60; (with_reducible refine (spec_l01In.calls a0_3 0 3 true _ A70.out).mono ?_); rintro e w' ⟨rfl, ⟨nd, rfl⟩⟩) | (go_at_call 63; (with_reducible refine (spec_l01Number.calls a0_4 true _ A72.out).mono ?_); rintro e w' ⟨rfl, ⟨nd, rfl⟩⟩))
                    go_ret
                    exact ⟨by first | rfl | (simp [errW_none, errW_some] <;> rfl) | (simp [*, errW_none, errW_some] <;> rfl), by repeat (first | (with_reducible first | exact HB.out | apply below_alloc | apply pw_below_drewN | apply below_drew1 | refine below_set ?_ GE141.out) | exact HB.out)⟩
                · replace c73 := Bool.eq_false_iff.mpr c73
                  subst c73
                  have H1 : (some false) = some r := by rw [if_neg (show ¬ (false = true) by decide)] at H; exact H
                  clear H
                  have H := H1
                  clear H1
                  obtain rfl := Option.some.inj H
                  have hcz79_0 : wc.cell? ⟨gb141, 0, none⟩ = some (.int .i64 a0_0) := (blk_cell BK141.out 0).trans rfl
                  have hcz79_1 : wc.cell? ⟨gb141, 1, none⟩ = some (.string a0_1) := (blk_cell BK141.out 1).trans rfl
                  have hcz79_2 : wc.cell? ⟨gb141, 2, none⟩ = some (.int .i64 a0_2) := (blk_cell BK141.out 2).trans rfl
                  have hcz79_3 : wc.cell? ⟨gb141, 3, none⟩ = some (.int .i64 a0_3) := (blk_cell BK141.out 3).trans rfl
                  have hcz79_4 : wc.cell? ⟨gb141, 4, none⟩ = some (.int .i64 a0_4) := (blk_cell BK141.out 4).trans rfl
                  have hcz79_5 : wc.cell? ⟨gb141, 5, none⟩ = some (.bool a0_5) := (blk_cell BK141.out 5).trans rfl
                  have hcz79_6 : wc.cell? ⟨gb141, 6, none⟩ = some (.slice A0_6 l0_6.length c0_6) := (blk_cell BK141.out 6).trans rfl
                  have hfz79_0 := blk_frozen BK141.out 0
                  have hfz79_1 := blk_frozen BK141.out 1
                  have hfz79_2 := blk_frozen BK141.out 2
                  have hfz79_3 := blk_frozen BK141.out 3
                  have hfz79_4 := blk_frozen BK141.out 4
                  have hfz79_5 := blk_frozen BK141.out 5
                  have hfz79_6 := blk_frozen BK141.out 6
                  go_wp2_with (first | ((with_reducible refine gate_callee (f := 62) rfl ?_); refine goesL_ (some 69) rfl rfl Try.func62 (by kernel_rfl) rfl #[.int .i64 a0_2] rfl (by (try simp only [List.map_toArray, List.map_cons, List.map_nil]); first | done | rfl | (simp only [List.length_drop, List.length_take]; rfl)) ?_; (with_reducible refine (spec_l02Col.calls a0_2 true _ A68.out).mono ?_); rintro e w' ⟨rfl, ⟨nd, rfl⟩⟩; refine ⟨_, rfl, ?_⟩) | (go_at_call 60; (with_reducible refine (spec_l01In.calls a0_3 0 3 true _ A70.out).mono ?_); rintro e w' ⟨rfl, ⟨nd, rfl⟩⟩) | (go_at_call 63; (with_reducible refine (spec_l01Number.calls a0_4 false _ A72.out).mono ?_); rintro e w' ⟨rfl, ⟨nd, rfl⟩⟩))
                  go_ret
                  exact ⟨by first | rfl | (simp [errW_none, errW_some] <;> rfl) | (simp [*, errW_none, errW_some] <;> rfl), by repeat (first | (with_reducible first | exact HB.out | apply below_alloc | apply pw_below_drewN | apply below_drew1 | refine below_set ?_ GE141.out) | exact HB.out)⟩
              · replace c71 := Bool.eq_false_iff.mpr c71
                subst c71
                have H1 : (some false) = some r := by rw [if_neg (show ¬ (false = true) by decide)] at H; exact H
                clear H
                have H := H1
                clear H1
                obtain rfl := Option.some.inj H
                have hcz80_0 : wc.cell? ⟨gb141, 0, none⟩ = some (.int .i64 a0_0) := (blk_cell BK141.out 0).trans rfl
                have hcz80_1 : wc.cell? ⟨gb141, 1, none⟩ = some (.string a0_1) := (blk_cell BK141.out 1).trans rfl
                have hcz80_2 : wc.cell? ⟨gb141, 2, none⟩ = some (.int .i64 a0_2) := (blk_cell BK141.out 2).trans rfl
                have hcz80_3 : wc.cell? ⟨gb141, 3, none⟩ = some (.int .i64 a0_3) := (blk_cell BK141.out 3).trans rfl
                have hcz80_4 : wc.cell? ⟨gb141, 4, none⟩ = some (.int .i64 a0_4) := (blk_cell BK141.out 4).trans rfl
                have hcz80_5 : wc.cell? ⟨gb141, 5, none⟩ = some (.bool a0_5) := (blk_cell BK141.out 5).trans rfl
                have hcz80_6 : wc.cell? ⟨gb141, 6, none⟩ = some (.slice A0_6 l0_6.length c0_6) := (blk_cell BK141.out 6).trans rfl
                have hfz80_0 := blk_frozen BK141.out 0
                have hfz80_1 := blk_frozen BK141.out 1
                have hfz80_2 := blk_frozen BK141.out 2
                have hfz80_3 := blk_frozen BK141.out 3
                have hfz80_4 := blk_frozen BK141.out 4
                have hfz80_5 := blk_frozen BK141.out 5
                have hfz80_6 := blk_frozen BK141.out 6
                go_wp2_with (first | ((with_reducible refine gate_callee (f := 62) rfl ?_); refine goesL_ (some 69) rfl rfl Try.func62 (by kernel_rfl) rfl #[.int .i64 a0_2] rfl (by (try simp only [List.map_toArray, List.map_cons, List.map_nil]); first | done | rfl | (simp only [List.length_drop, List.length_take]; rfl)) ?_; (with_reducible refine (spec_l02Col.calls a0_2 true _ A68.out).mono ?_); rintro e w' ⟨rfl, ⟨nd, rfl⟩⟩; refine ⟨_, rfl, ?_⟩) | (go_at_call 60; (with_reducible refine (spec_l01In.calls a0_3 0 3 false _ A70.out).mono ?_); rintro e w' ⟨rfl, ⟨nd, rfl⟩⟩))
                go_ret
                exact ⟨by first | rfl | (simp [errW_none, errW_some] <;> rfl) | (simp [*, errW_none, errW_some] <;> rfl), by repeat (first | (with_reducible first | exact HB.out | apply below_alloc | apply pw_below_drewN | apply below_drew1 | refine below_set ?_ GE141.out) | exact HB.out)⟩
            · replace c69 := Bool.eq_false_iff.mpr c69
              subst c69
              have H1 : (some false) = some r := by rw [if_neg (show ¬ (false = true) by decide)] at H; exact H
              clear H
              have H := H1
              clear H1
              obtain rfl := Option.some.inj H
              have hcz81_0 : wc.cell? ⟨gb141, 0, none⟩ = some (.int .i64 a0_0) := (blk_cell BK141.out 0).trans rfl
              have hcz81_1 : wc.cell? ⟨gb141, 1, none⟩ = some (.string a0_1) := (blk_cell BK141.out 1).trans rfl
              have hcz81_2 : wc.cell? ⟨gb141, 2, none⟩ = some (.int .i64 a0_2) := (blk_cell BK141.out 2).trans rfl
              have hcz81_3 : wc.cell? ⟨gb141, 3, none⟩ = some (.int .i64 a0_3) := (blk_cell BK141.out 3).trans rfl
              have hcz81_4 : wc.cell? ⟨gb141, 4, none⟩ = some (.int .i64 a0_4) := (blk_cell BK141.out 4).trans rfl
              have hcz81_5 : wc.cell? ⟨gb141, 5, none⟩ = some (.bool a0_5) := (blk_cell BK141.out 5).trans rfl
              have hcz81_6 : wc.cell? ⟨gb141, 6, none⟩ = some (.slice A0_6 l0_6.length c0_6) := (blk_cell BK141.out 6).trans rfl
              have hfz81_0 := blk_frozen BK141.out 0
              have hfz81_1 := blk_frozen BK141.out 1
              have hfz81_2 := blk_frozen BK141.out 2
              have hfz81_3 := blk_frozen BK141.out 3
              have hfz81_4 := blk_frozen BK141.out 4
              have hfz81_5 := blk_frozen BK141.out 5
              have hfz81_6 := blk_frozen BK141.out 6
              go_wp2_with (first | ((with_reducible refine gate_callee (f := 62) rfl ?_); refine goesL_ (some 69) rfl rfl Try.func62 (by kernel_rfl) rfl #[.int .i64 a0_2] rfl (by (try simp only [List.map_toArray, List.map_cons, List.map_nil]); first | done | rfl | (simp only [List.length_drop, List.length_take]; rfl)) ?_; (with_reducible refine (spec_l02Col.calls a0_2 false _ A68.out).mono ?_); rintro e w' ⟨rfl, ⟨nd, rfl⟩⟩; refine ⟨_, rfl, ?_⟩))
              go_ret
              exact ⟨by first | rfl | (simp [errW_none, errW_some] <;> rfl) | (simp [*, errW_none, errW_some] <;> rfl), by repeat (first | (with_reducible first | exact HB.out | apply below_alloc | apply pw_below_drewN | apply below_drew1 | refine below_set ?_ GE141.out) | exact HB.out)⟩
          · rw [if_neg c67] at H
            have c67b0 : (a0_0 == 1) = false := beq_eq_false_iff_ne.mpr c67
            have c67b1 : (a0_0 != 1) = true := bne_iff_ne.mpr c67
            by_cases c82 : a0_0 = 2
            · rw [if_pos c82] at H
              have c82b0 : (a0_0 == 2) = true := beq_iff_eq.mpr c82
              have c82b1 : (a0_0 != 2) = false := bne_eq_false_iff_eq.mpr c82
              clear c82
              have H' := Aside0.mk H
              clear H
              have hcz83_0 : wc.cell? ⟨gb141, 0, none⟩ = some (.int .i64 a0_0) := (blk_cell BK141.out 0).trans rfl
              have hcz83_1 : wc.cell? ⟨gb141, 1, none⟩ = some (.string a0_1) := (blk_cell BK141.out 1).trans rfl
              have hcz83_2 : wc.cell? ⟨gb141, 2, none⟩ = some (.int .i64 a0_2) := (blk_cell BK141.out 2).trans rfl
              have hcz83_3 : wc.cell? ⟨gb141, 3, none⟩ = some (.int .i64 a0_3) := (blk_cell BK141.out 3).trans rfl
              have hcz83_4 : wc.cell? ⟨gb141, 4, none⟩ = some (.int .i64 a0_4) := (blk_cell BK141.out 4).trans rfl
              have hcz83_5 : wc.cell? ⟨gb141, 5, none⟩ = some (.bool a0_5) := (blk_cell BK141.out 5).trans rfl
              have hcz83_6 : wc.cell? ⟨gb141, 6, none⟩ = some (.slice A0_6 l0_6.length c0_6) := (blk_cell BK141.out 6).trans rfl
              have hfz83_0 := blk_frozen BK141.out 0
              have hfz83_1 := blk_frozen BK141.out 1
              have hfz83_2 := blk_frozen BK141.out 2
              have hfz83_3 := blk_frozen BK141.out 3
              have hfz83_4 := blk_frozen BK141.out 4
              have hfz83_5 := blk_frozen BK141.out 5
              have hfz83_6 := blk_frozen BK141.out 6
              go_wp2
              go_loopg [3] kj1 (fun kq v3 w' => ∃ (x3_2 : Int), v3 = .int .i64 x3_2 ∧ Aside0 (spec_NodeOk.l0 kq x3_2 a0_0 a0_1 a0_2 a0_3 a0_4 a0_5 l0_6 = some r) ∧ Aside0 (kq ≤ kj1) ∧ Aside0 (w'.heap[gb141]? = some (.cells #[.int .i64 a0_0, .string a0_1, .int .i64 a0_2, .int .i64 a0_3, .int .i64 a0_4, .bool a0_5, (.slice A0_6 l0_6.length c0_6)] 33 (0, 0))) ∧ Aside0 (Below w.heap.size w w'))
              case atStart => exact ⟨(0), (by first | rfl | (simp; done) | (simp [*]; done)), H', ⟨Nat.le_refl _⟩, ⟨by (with_reducible repeat (first | refine blk_drewN ?_ _ | refine blk_drew ?_ | refine blk_alloc ?_ _)); exact BK141.out⟩, ⟨by repeat (first | (with_reducible first | exact HB.out | apply below_alloc | apply pw_below_drewN | apply below_drew1 | refine below_set ?_ GE141.out) | exact HB.out)⟩⟩
              case round =>
                clear H'
                try clear p2
                try clear c5
                try clear c6
                try clear c7
                try clear c8
                try clear c57
                try clear c58
                try clear c58b0
                try clear c58b1
                try clear c60
                try clear c61
                try clear c61b0
                try clear c61b1
                try clear c62
                try clear c62b0
                try clear c62b1
                try clear c67
                try clear c67b0
                try clear c67b1
                try clear c69
                try clear c71
                try clear c73
                try clear c74
                try clear c74b0
                try clear c74b1
                try clear c75
                try clear c75b0
                try clear c75b1
                try clear c82
                try clear c82b0
                try clear c82b1
                try clear hcz23_4
                try clear hcz23_5
                try clear hcz23_6
                try clear hcz27_0
                try clear hcz27_1
                try clear hcz27_2
                try clear hcz27_3
                try clear hcz27_4
                try clear hcz27_5
                try clear hcz27_6
                try clear hcz28_0
                try clear hcz28_1
                try clear hcz28_2
                try clear hcz28_3
                try clear hcz28_4
                try clear hcz28_5
                try clear hcz28_6
                try clear hcz29_0
                try clear hcz29_1
                try clear hcz29_2
                try clear hcz29_3
                try clear hcz29_4
                try clear hcz29_5
                try clear hcz29_6
                try clear hcz35_0
                try clear hcz35_1
                try clear hcz35_2
                try clear hcz35_3
                try clear hcz35_4
                try clear hcz35_5
                try clear hcz35_6
                try clear hcz36_0
                try clear hcz36_1
                try clear hcz36_2
                try clear hcz36_3
                try clear hcz36_4
                try clear hcz36_5
                try clear hcz36_6
                try clear hcz40_0
                try clear hcz40_1
                try clear hcz40_2
                try clear hcz40_3
                try clear hcz40_4
                try clear hcz40_5
                try clear hcz40_6
                try clear hcz41_0
                try clear hcz41_1
                try clear hcz41_2
                try clear hcz41_3
                try clear hcz41_4
                try clear hcz41_5
                try clear hcz41_6
                try clear hcz42_0
                try clear hcz42_1
                try clear hcz42_2
                try clear hcz42_3
                try clear hcz42_4
                try clear hcz42_5
                try clear hcz42_6
                try clear hcz44_0
                try clear hcz44_1
                try clear hcz44_2
                try clear hcz44_3
                try clear hcz44_4
                try clear hcz44_5
                try clear hcz44_6
                try clear hcz48_0
                try clear hcz48_1
                try clear hcz48_2
                try clear hcz48_3
                try clear hcz48_4
                try clear hcz48_5
                try clear hcz48_6
                try clear hcz49_0
                try clear hcz49_1
                try clear hcz49_2
                try clear hcz49_3
                try clear hcz49_4
                try clear hcz49_5
                try clear hcz49_6
                try clear hcz53_0
                try clear hcz53_1
                try clear hcz53_2
                try clear hcz53_3
                try clear hcz53_4
                try clear hcz53_5
                try clear hcz53_6
                try clear hcz54_0
                try clear hcz54_1
                try clear hcz54_2
                try clear hcz54_3
                try clear hcz54_4
                try clear hcz54_5
                try clear hcz54_6
                try clear hcz55_0
                try clear hcz55_1
                try clear hcz55_2
                try clear hcz55_3
                try clear hcz55_4
                try clear hcz55_5
                try clear hcz55_6
                try clear hcz56_0
                try clear hcz56_1
                try clear hcz56_2
                try clear hcz56_3
                try clear hcz56_4
                try clear hcz56_5
                try clear hcz56_6
                try clear hcz63_0
                try clear hcz63_1
                try clear hcz63_2
                try clear hcz63_3
                try clear hcz63_4
                try clear hcz63_5
                try clear hcz63_6
                try clear hcz64_0
                try clear hcz64_1
                try clear hcz64_2
                try clear hcz64_3
                try clear hcz64_4
                try clear hcz64_5
                try clear hcz64_6
                try clear hcz65_0
                try clear hcz65_1
                try clear hcz65_2
                try clear hcz65_3
                try clear hcz65_4
                try clear hcz65_5
                try clear hcz65_6
                try clear hcz66_0
                try clear hcz66_1
                try clear hcz66_2
                try clear hcz66_3
                try clear hcz66_4
                try clear hcz66_5
                try clear hcz66_6
                try clear hcz76_0
                try clear hcz76_1
                try clear hcz76_2
                try clear hcz76_3
                try clear hcz76_4
                try clear hcz76_5
                try clear hcz76_6
                try clear hcz77_0
                try clear hcz77_1
                try clear hcz77_2
                try clear hcz77_3
                try clear hcz77_4
                try clear hcz77_5
                try clear hcz77_6
                try clear hcz78_0
                try clear hcz78_1
                try clear hcz78_2
                try clear hcz78_3
                try clear hcz78_4
                try clear hcz78_5
                try clear hcz78_6
                try clear hcz79_0
                try clear hcz79_1
                try clear hcz79_2
                try clear hcz79_3
                try clear hcz79_4
                try clear hcz79_5
                try clear hcz79_6
                try clear hcz80_0
                try clear hcz80_1
                try clear hcz80_2
                try clear hcz80_3
                try clear hcz80_4
                try clear hcz80_5
                try clear hcz80_6
                try clear hcz81_0
                try clear hcz81_1
                try clear hcz81_2
                try clear hcz81_3
                try clear hcz81_4
                try clear hcz81_5
                try clear hcz81_6
                try clear hcz83_0
                try clear hcz83_1
                try clear hcz83_2
                try clear hcz83_3
                try clear hcz83_4
                try clear hcz83_5
                try clear hcz83_6
                try clear hfz14_0
                try clear hfz14_1
                try clear hfz14_2
                try clear hfz14_3
                try clear hfz14_4
                try clear hfz14_5
                try clear hfz14_6
                try clear hfz15_0
                try clear hfz15_1
                try clear hfz15_2
                try clear hfz15_3
                try clear hfz15_4
                try clear hfz15_5
                try clear hfz15_6
                try clear hfz16_0
                try clear hfz16_1
                try clear hfz16_2
                try clear hfz16_3
                try clear hfz16_4
                try clear hfz16_5
                try clear hfz16_6
                try clear hfz18_0
                try clear hfz18_1
                try clear hfz18_2
                try clear hfz18_3
                try clear hfz18_4
                try clear hfz18_5
                try clear hfz18_6
                try clear hfz22_0
                try clear hfz22_1
                try clear hfz22_2
                try clear hfz22_3
                try clear hfz22_4
                try clear hfz22_5
                try clear hfz22_6
                try clear hfz23_0
                try clear hfz23_1
                try clear hfz23_2
                try clear hfz23_3
                try clear hfz23_4
                try clear hfz23_5
                try clear hfz23_6
                try clear hfz27_0
                try clear hfz27_1
                try clear hfz27_2
                try clear hfz27_3
                try clear hfz27_4
                try clear hfz27_5
                try clear hfz27_6
                try clear hfz28_0
                try clear hfz28_1
                try clear hfz28_2
                try clear hfz28_3
                try clear hfz28_4
                try clear hfz28_5
                try clear hfz28_6
                try clear hfz29_0
                try clear hfz29_1
                try clear hfz29_2
                try clear hfz29_3
                try clear hfz29_4
                try clear hfz29_5
                try clear hfz29_6
                try clear hfz35_0
                try clear hfz35_1
                try clear hfz35_2
                try clear hfz35_3
                try clear hfz35_4
                try clear hfz35_5
                try clear hfz35_6
                try clear hfz36_0
                try clear hfz36_1
                try clear hfz36_2
                try clear hfz36_3
                try clear hfz36_4
                try clear hfz36_5
                try clear hfz36_6
                try clear hfz40_0
                try clear hfz40_1
                try clear hfz40_2
                try clear hfz40_3
                try clear hfz40_4
                try clear hfz40_5
                try clear hfz40_6
                try clear hfz41_0
                try clear hfz41_1
                try clear hfz41_2
                try clear hfz41_3
                try clear hfz41_4
                try clear hfz41_5
                try clear hfz41_6
                try clear hfz42_0
                try clear hfz42_1
                try clear hfz42_2
                try clear hfz42_3
                try clear hfz42_4
                try clear hfz42_5
                try clear hfz42_6
                try clear hfz44_0
                try clear hfz44_1
                try clear hfz44_2
                try clear hfz44_3
                try clear hfz44_4
                try clear hfz44_5
                try clear hfz44_6
                try clear hfz48_0
                try clear hfz48_1
                try clear hfz48_2
                try clear hfz48_3
                try clear hfz48_4
                try clear hfz48_5
                try clear hfz48_6
                try clear hfz49_0
                try clear hfz49_1
                try clear hfz49_2
                try clear hfz49_3
                try clear hfz49_4
                try clear hfz49_5
                try clear hfz49_6
                try clear hfz53_0
                try clear hfz53_1
                try clear hfz53_2
                try clear hfz53_3
                try clear hfz53_4
                try clear hfz53_5
                try clear hfz53_6
                try clear hfz54_0
                try clear hfz54_1
                try clear hfz54_2
                try clear hfz54_3
                try clear hfz54_4
                try clear hfz54_5
                try clear hfz54_6
                try clear hfz55_0
                try clear hfz55_1
                try clear hfz55_2
                try clear hfz55_3
                try clear hfz55_4
                try clear hfz55_5
                try clear hfz55_6
                try clear hfz56_0
                try clear hfz56_1
                try clear hfz56_2
                try clear hfz56_3
                try clear hfz56_4
                try clear hfz56_5
                try clear hfz56_6
                try clear hfz63_0
                try clear hfz63_1
                try clear hfz63_2
                try clear hfz63_3
                try clear hfz63_4
                try clear hfz63_5
                try clear hfz63_6
                try clear hfz64_0
                try clear hfz64_1
                try clear hfz64_2
                try clear hfz64_3
                try clear hfz64_4
                try clear hfz64_5
                try clear hfz64_6
                try clear hfz65_0
                try clear hfz65_1
                try clear hfz65_2
                try clear hfz65_3
                try clear hfz65_4
                try clear hfz65_5
                try clear hfz65_6
                try clear hfz66_0
                try clear hfz66_1
                try clear hfz66_2
                try clear hfz66_3
                try clear hfz66_4
                try clear hfz66_5
                try clear hfz66_6
                try clear hfz76_0
                try clear hfz76_1
                try clear hfz76_2
                try clear hfz76_3
                try clear hfz76_4
                try clear hfz76_5
                try clear hfz76_6
                try clear hfz77_0
                try clear hfz77_1
                try clear hfz77_2
                try clear hfz77_3
                try clear hfz77_4
                try clear hfz77_5
                try clear hfz77_6
                try clear hfz78_0
                try clear hfz78_1
                try clear hfz78_2
                try clear hfz78_3
                try clear hfz78_4
                try clear hfz78_5
                try clear hfz78_6
                try clear hfz79_0
                try clear hfz79_1
                try clear hfz79_2
                try clear hfz79_3
                try clear hfz79_4
                try clear hfz79_5
                try clear hfz79_6
                try clear hfz80_0
                try clear hfz80_1
                try clear hfz80_2
                try clear hfz80_3
                try clear hfz80_4
                try clear hfz80_5
                try clear hfz80_6
                try clear hfz81_0
                try clear hfz81_1
                try clear hfz81_2
                try clear hfz81_3
                try clear hfz81_4
                try clear hfz81_5
                try clear hfz81_6
                try clear hfz83_0
                try clear hfz83_1
                try clear hfz83_2
                try clear hfz83_3
                try clear hfz83_4
                try clear hfz83_5
                try clear hfz83_6
                obtain ⟨x3_2, rfl, HA, HK2, BK141, HB⟩ := hrel
                cases gk with
                | zero => exact absurd HA.out (by simp [spec_NodeOk.l0])
                | succ k2 =>
                  have H := HA.out
                  clear HA
                  simp only [spec_NodeOk.l0] at H
                  by_cases c84 : x3_2 < (l0_6.length : Int)
                  · rw [if_pos c84] at H
                    have c84b0 : decide (x3_2 < (l0_6.length : Int)) = true := decide_eq_true c84
                    clear c84
                    by_cases c85 : 0 ≤ x3_2
                    · rw [if_pos c85] at H
                      have c85b0 : decide (0 ≤ x3_2) = true := decide_eq_true c85
                      clear c85
                      replace H := Option.bind_eq_some_iff.mp H
                      obtain ⟨t155, A860, H⟩ := H
                      replace H : (if t155 = true then (spec_NodeOk.l0 k2 (wrap64 (x3_2 + 1)) a0_0 a0_1 a0_2 a0_3 a0_4 a0_5 l0_6) else (some false)) = some r := H
                      have A86 := Aside0.mk A860
                      clear A860
                      by_cases c87 : t155 = true
                      · subst c87
                        have H1 : (spec_NodeOk.l0 k2 (wrap64 (x3_2 + 1)) a0_0 a0_1 a0_2 a0_3 a0_4 a0_5 l0_6) = some r := by rw [if_pos rfl] at H; exact H
                        clear H
                        have H := H1
                        clear H1
                        have H' := Aside0.mk H
                        clear H
                        have hcz88_0 : wr.cell? ⟨gb141, 0, none⟩ = some (.int .i64 a0_0) := (blk_cell BK141.out 0).trans rfl
                        have hcz88_1 : wr.cell? ⟨gb141, 1, none⟩ = some (.string a0_1) := (blk_cell BK141.out 1).trans rfl
                        have hcz88_2 : wr.cell? ⟨gb141, 2, none⟩ = some (.int .i64 a0_2) := (blk_cell BK141.out 2).trans rfl
                        have hcz88_3 : wr.cell? ⟨gb141, 3, none⟩ = some (.int .i64 a0_3) := (blk_cell BK141.out 3).trans rfl
                        have hcz88_4 : wr.cell? ⟨gb141, 4, none⟩ = some (.int .i64 a0_4) := (blk_cell BK141.out 4).trans rfl
                        have hcz88_5 : wr.cell? ⟨gb141, 5, none⟩ = some (.bool a0_5) := (blk_cell BK141.out 5).trans rfl
                        have hcz88_6 : wr.cell? ⟨gb141, 6, none⟩ = some (.slice A0_6 l0_6.length c0_6) := (blk_cell BK141.out 6).trans rfl
                        have hfz88_0 := blk_frozen BK141.out 0
                        have hfz88_1 := blk_frozen BK141.out 1
                        have hfz88_2 := blk_frozen BK141.out 2
                        have hfz88_3 := blk_frozen BK141.out 3
                        have hfz88_4 := blk_frozen BK141.out 4
                        have hfz88_5 := blk_frozen BK141.out 5
                        have hfz88_6 := blk_frozen BK141.out 6
                        have p154 : 0 ≤ (x3_2 : Int) := of_decide_eq_true (by first | (with_reducible assumption) | assumption)
                        have q154 : x3_2 < (l0_6.length : Int) := of_decide_eq_true (by first | (with_reducible assumption) | assumption)
                        obtain ⟨ad154, e154, hx154_0⟩ := Kd.at_int HR0_6.out x3_2 p154 q154
                        cases e154
                        replace hx154_0 := (HB.out.cell (World.block_lt_of_cell? w _ hx154_0)).trans hx154_0
                        replace p154 := eq_true p154
                        replace q154 := eq_true q154
                        go_wp2_with (first | ((with_reducible refine gate_callee (f := 62) rfl ?_); refine goesL_ (some 109) rfl rfl Try.func62 (by kernel_rfl) rfl #[.int .i64 (rd l0_6 x3_2)] rfl (by (try simp only [List.map_toArray, List.map_cons, List.map_nil]); first | done | rfl | (simp only [List.length_drop, List.length_take]; rfl)) ?_; (with_reducible refine (spec_l02Col.calls (rd l0_6 x3_2) true _ A86.out).mono ?_); rintro e w' ⟨rfl, ⟨nd, rfl⟩⟩; refine ⟨_, rfl, ?_⟩))
                        go_roundg k2
                        case measure => have := HJ1.out; have := HK2.out; omega
                        case rel => exact ⟨(wrap64 (x3_2 + 1)), (by first | rfl | (simp; done) | (simp [*]; done)), H', ⟨by have := HJ1.out; have := HK2.out; omega⟩, ⟨by (with_reducible repeat (first | refine blk_drewN ?_ _ | refine blk_drew ?_ | refine blk_alloc ?_ _)); exact BK141.out⟩, ⟨by repeat (first | (with_reducible first | exact HB.out | apply below_alloc | apply pw_below_drewN | apply below_drew1 | refine below_set ?_ GE141.out) | exact HB.out)⟩⟩
                      · replace c87 := Bool.eq_false_iff.mpr c87
                        subst c87
                        have H1 : (some false) = some r := by rw [if_neg (show ¬ (false = true) by decide)] at H; exact H
                        clear H
                        have H := H1
                        clear H1
                        obtain rfl := Option.some.inj H
                        have hcz89_0 : wr.cell? ⟨gb141, 0, none⟩ = some (.int .i64 a0_0) := (blk_cell BK141.out 0).trans rfl
                        have hcz89_1 : wr.cell? ⟨gb141, 1, none⟩ = some (.string a0_1) := (blk_cell BK141.out 1).trans rfl
                        have hcz89_2 : wr.cell? ⟨gb141, 2, none⟩ = some (.int .i64 a0_2) := (blk_cell BK141.out 2).trans rfl
                        have hcz89_3 : wr.cell? ⟨gb141, 3, none⟩ = some (.int .i64 a0_3) := (blk_cell BK141.out 3).trans rfl
                        have hcz89_4 : wr.cell? ⟨gb141, 4, none⟩ = some (.int .i64 a0_4) := (blk_cell BK141.out 4).trans rfl
                        have hcz89_5 : wr.cell? ⟨gb141, 5, none⟩ = some (.bool a0_5) := (blk_cell BK141.out 5).trans rfl
                        have hcz89_6 : wr.cell? ⟨gb141, 6, none⟩ = some (.slice A0_6 l0_6.length c0_6) := (blk_cell BK141.out 6).trans rfl
                        have hfz89_0 := blk_frozen BK141.out 0
                        have hfz89_1 := blk_frozen BK141.out 1
                        have hfz89_2 := blk_frozen BK141.out 2
                        have hfz89_3 := blk_frozen BK141.out 3
                        have hfz89_4 := blk_frozen BK141.out 4
                        have hfz89_5 := blk_frozen BK141.out 5
                        have hfz89_6 := blk_frozen BK141.out 6
                        have p154 : 0 ≤ (x3_2 : Int) := of_decide_eq_true (by first | (with_reducible assumption) | assumption)
                        have q154 : x3_2 < (l0_6.length : Int) := of_decide_eq_true (by first | (with_reducible assumption) | assumption)
                        obtain ⟨ad154, e154, hx154_0⟩ := Kd.at_int HR0_6.out x3_2 p154 q154
                        cases e154
                        replace hx154_0 := (HB.out.cell (World.block_lt_of_cell? w _ hx154_0)).trans hx154_0
                        replace p154 := eq_true p154
                        replace q154 := eq_true q154
                        go_wp2_with (first | ((with_reducible refine gate_callee (f := 62) rfl ?_); refine goesL_ (some 109) rfl rfl Try.func62 (by kernel_rfl) rfl #[.int .i64 (rd l0_6 x3_2)] rfl (by (try simp only [List.map_toArray, List.map_cons, List.map_nil]); first | done | rfl | (simp only [List.length_drop, List.length_take]; rfl)) ?_; (with_reducible refine (spec_l02Col.calls (rd l0_6 x3_2) false _ A86.out).mono ?_); rintro e w' ⟨rfl, ⟨nd, rfl⟩⟩; refine ⟨_, rfl, ?_⟩))
                        go_ret
                        exact ⟨by first | rfl | (simp [errW_none, errW_some] <;> rfl) | (simp [*, errW_none, errW_some] <;> rfl), by repeat (first | (with_reducible first | exact HB.out | apply below_alloc | apply pw_below_drewN | apply below_drew1 | refine below_set ?_ GE141.out) | exact HB.out)⟩
                    · rw [if_neg c85] at H
                      exact absurd H (by simp)
                  · rw [if_neg c84] at H
                    have c84b0 : decide (x3_2 < (l0_6.length : Int)) = false := decide_eq_false c84
                    clear c84
                    replace H := Option.bind_eq_some_iff.mp H
                    obtain ⟨t156, A900, H⟩ := H
                    replace H : (if t156 = true then (if a0_2 = 0 then (if a0_4 = 0 then (some (!a0_5)) else (some false)) else (some false)) else (some false)) = some r := H
                    have A90 := Aside0.mk A900
                    clear A900
                    by_cases c91 : t156 = true
                    · subst c91
                      have H1 : (if a0_2 = 0 then (if a0_4 = 0 then (some (!a0_5)) else (some false)) else (some false)) = some r := by rw [if_pos rfl] at H; exact H
                      clear H
                      have H := H1
                      clear H1
                      by_cases c92 : a0_2 = 0
                      · rw [if_pos c92] at H
                        have c92b0 : (a0_2 == 0) = true := beq_iff_eq.mpr c92
                        have c92b1 : (a0_2 != 0) = false := bne_eq_false_iff_eq.mpr c92
                        clear c92
                        by_cases c93 : a0_4 = 0
                        · rw [if_pos c93] at H
                          have c93b0 : (a0_4 == 0) = true := beq_iff_eq.mpr c93
                          have c93b1 : (a0_4 != 0) = false := bne_eq_false_iff_eq.mpr c93
                          clear c93
                          obtain rfl := Option.some.inj H
                          have hcz94_0 : wr.cell? ⟨gb141, 0, none⟩ = some (.int .i64 a0_0) := (blk_cell BK141.out 0).trans rfl
                          have hcz94_1 : wr.cell? ⟨gb141, 1, none⟩ = some (.string a0_1) := (blk_cell BK141.out 1).trans rfl
                          have hcz94_2 : wr.cell? ⟨gb141, 2, none⟩ = some (.int .i64 a0_2) := (blk_cell BK141.out 2).trans rfl
                          have hcz94_3 : wr.cell? ⟨gb141, 3, none⟩ = some (.int .i64 a0_3) := (blk_cell BK141.out 3).trans rfl
                          have hcz94_4 : wr.cell? ⟨gb141, 4, none⟩ = some (.int .i64 a0_4) := (blk_cell BK141.out 4).trans rfl
                          have hcz94_5 : wr.cell? ⟨gb141, 5, none⟩ = some (.bool a0_5) := (blk_cell BK141.out 5).trans rfl
                          have hcz94_6 : wr.cell? ⟨gb141, 6, none⟩ = some (.slice A0_6 l0_6.length c0_6) := (blk_cell BK141.out 6).trans rfl
                          have hfz94_0 := blk_frozen BK141.out 0
                          have hfz94_1 := blk_frozen BK141.out 1
                          have hfz94_2 := blk_frozen BK141.out 2
                          have hfz94_3 := blk_frozen BK141.out 3
                          have hfz94_4 := blk_frozen BK141.out 4
                          have hfz94_5 := blk_frozen BK141.out 5
                          have hfz94_6 := blk_frozen BK141.out 6
                          go_wp2_with (first | ((with_reducible refine gate_callee (f := 60) rfl ?_); refine goesL_ (some 114) rfl rfl Try.func60 (by kernel_rfl) rfl #[.int .i64 (l0_6.length : Int), .int .i64 1, .int .i64 6] rfl (by (try simp only [List.map_toArray, List.map_cons, List.map_nil]); first | done | rfl | (simp only [List.length_drop, List.length_take]; rfl)) ?_; (with_reducible refine (spec_l01In.calls (l0_6.length : Int) 1 6 true _ A90.out).mono ?_); rintro e w' ⟨rfl, ⟨nd, rfl⟩⟩; refine ⟨_, rfl, ?_⟩))
                          go_ret
                          exact ⟨by first | rfl | (simp [errW_none, errW_some] <;> rfl) | (simp [*, errW_none, errW_some] <;> rfl), by repeat (first | (with_reducible first | exact HB.out | apply below_alloc | apply pw_below_drewN | apply below_drew1 | refine below_set ?_ GE141.out) | exact HB.out)⟩
                        · rw [if_neg c93] at H
                          have c93b0 : (a0_4 == 0) = false := beq_eq_false_iff_ne.mpr c93
                          have c93b1 : (a0_4 != 0) = true := bne_iff_ne.mpr c93
                          obtain rfl := Option.some.inj H
                          have hcz95_0 : wr.cell? ⟨gb141, 0, none⟩ = some (.int .i64 a0_0) := (blk_cell BK141.out 0).trans rfl
                          have hcz95_1 : wr.cell? ⟨gb141, 1, none⟩ = some (.string a0_1) := (blk_cell BK141.out 1).trans rfl
                          have hcz95_2 : wr.cell? ⟨gb141, 2, none⟩ = some (.int .i64 a0_2) := (blk_cell BK141.out 2).trans rfl
                          have hcz95_3 : wr.cell? ⟨gb141, 3, none⟩ = some (.int .i64 a0_3) := (blk_cell BK141.out 3).trans rfl
                          have hcz95_4 : wr.cell? ⟨gb141, 4, none⟩ = some (.int .i64 a0_4) := (blk_cell BK141.out 4).trans rfl
                          have hcz95_5 : wr.cell? ⟨gb141, 5, none⟩ = some (.bool a0_5) := (blk_cell BK141.out 5).trans rfl
                          have hcz95_6 : wr.cell? ⟨gb141, 6, none⟩ = some (.slice A0_6 l0_6.length c0_6) := (blk_cell BK141.out 6).trans rfl
                          have hfz95_0 := blk_frozen BK141.out 0
                          have hfz95_1 := blk_frozen BK141.out 1
                          have hfz95_2 := blk_frozen BK141.out 2
                          have hfz95_3 := blk_frozen BK141.out 3
                          have hfz95_4 := blk_frozen BK141.out 4
                          have hfz95_5 := blk_frozen BK141.out 5
                          have hfz95_6 := blk_frozen BK141.out 6
                          go_wp2_with (first | ((with_reducible refine gate_callee (f := 60) rfl ?_); refine goesL_ (some 114) rfl rfl Try.func60 (by kernel_rfl) rfl #[.int .i64 (l0_6.length : Int), .int .i64 1, .int .i64 6] rfl (by (try simp only [List.map_toArray, List.map_cons, List.map_nil]); first | done | rfl | (simp only [List.length_drop, List.length_take]; rfl)) ?_; (with_reducible refine (spec_l01In.calls (l0_6.length : Int) 1 6 true _ A90.out).mono ?_); rintro e w' ⟨rfl, ⟨nd, rfl⟩⟩; refine ⟨_, rfl, ?_⟩))
                          go_ret
                          exact ⟨by first | rfl | (simp [errW_none, errW_some] <;> rfl) | (simp [*, errW_none, errW_some] <;> rfl), by repeat (first | (with_reducible first | exact HB.out | apply below_alloc | apply pw_below_drewN | apply below_drew1 | refine below_set ?_ GE141.out) | exact HB.out)⟩
                      · rw [if_neg c92] at H
                        have c92b0 : (a0_2 == 0) = false := beq_eq_false_iff_ne.mpr c92
                        have c92b1 : (a0_2 != 0) = true := bne_iff_ne.mpr c92
                        obtain rfl := Option.some.inj H
                        have hcz96_0 : wr.cell? ⟨gb141, 0, none⟩ = some (.int .i64 a0_0) := (blk_cell BK141.out 0).trans rfl
                        have hcz96_1 : wr.cell? ⟨gb141, 1, none⟩ = some (.string a0_1) := (blk_cell BK141.out 1).trans rfl
                        have hcz96_2 : wr.cell? ⟨gb141, 2, none⟩ = some (.int .i64 a0_2) := (blk_cell BK141.out 2).trans rfl
                        have hcz96_3 : wr.cell? ⟨gb141, 3, none⟩ = some (.int .i64 a0_3) := (blk_cell BK141.out 3).trans rfl
                        have hcz96_4 : wr.cell? ⟨gb141, 4, none⟩ = some (.int .i64 a0_4) := (blk_cell BK141.out 4).trans rfl
                        have hcz96_5 : wr.cell? ⟨gb141, 5, none⟩ = some (.bool a0_5) := (blk_cell BK141.out 5).trans rfl
                        have hcz96_6 : wr.cell? ⟨gb141, 6, none⟩ = some (.slice A0_6 l0_6.length c0_6) := (blk_cell BK141.out 6).trans rfl
                        have hfz96_0 := blk_frozen BK141.out 0
                        have hfz96_1 := blk_frozen BK141.out 1
                        have hfz96_2 := blk_frozen BK141.out 2
                        have hfz96_3 := blk_frozen BK141.out 3
                        have hfz96_4 := blk_frozen BK141.out 4
                        have hfz96_5 := blk_frozen BK141.out 5
                        have hfz96_6 := blk_frozen BK141.out 6
                        go_wp2_with (first | ((with_reducible refine gate_callee (f := 60) rfl ?_); refine goesL_ (some 114) rfl rfl Try.func60 (by kernel_rfl) rfl #[.int .i64 (l0_6.length : Int), .int .i64 1, .int .i64 6] rfl (by (try simp only [List.map_toArray, List.map_cons, List.map_nil]); first | done | rfl | (simp only [List.length_drop, List.length_take]; rfl)) ?_; (with_reducible refine (spec_l01In.calls (l0_6.length : Int) 1 6 true _ A90.out).mono ?_); rintro e w' ⟨rfl, ⟨nd, rfl⟩⟩; refine ⟨_, rfl, ?_⟩))
                        go_ret
                        exact ⟨by first | rfl | (simp [errW_none, errW_some] <;> rfl) | (simp [*, errW_none, errW_some] <;> rfl), by repeat (first | (with_reducible first | exact HB.out | apply below_alloc | apply pw_below_drewN | apply below_drew1 | refine below_set ?_ GE141.out) | exact HB.out)⟩
                    · replace c91 := Bool.eq_false_iff.mpr c91
                      subst c91
                      have H1 : (some false) = some r := by rw [if_neg (show ¬ (false = true) by decide)] at H; exact H
                      clear H
                      have H := H1
                      clear H1
                      obtain rfl := Option.some.inj H
                      have hcz97_0 : wr.cell? ⟨gb141, 0, none⟩ = some (.int .i64 a0_0) := (blk_cell BK141.out 0).trans rfl
                      have hcz97_1 : wr.cell? ⟨gb141, 1, none⟩ = some (.string a0_1) := (blk_cell BK141.out 1).trans rfl
                      have hcz97_2 : wr.cell? ⟨gb141, 2, none⟩ = some (.int .i64 a0_2) := (blk_cell BK141.out 2).trans rfl
                      have hcz97_3 : wr.cell? ⟨gb141, 3, none⟩ = some (.int .i64 a0_3) := (blk_cell BK141.out 3).trans rfl
                      have hcz97_4 : wr.cell? ⟨gb141, 4, none⟩ = some (.int .i64 a0_4) := (blk_cell BK141.out 4).trans rfl
                      have hcz97_5 : wr.cell? ⟨gb141, 5, none⟩ = some (.bool a0_5) := (blk_cell BK141.out 5).trans rfl
                      have hcz97_6 : wr.cell? ⟨gb141, 6, none⟩ = some (.slice A0_6 l0_6.length c0_6) := (blk_cell BK141.out 6).trans rfl
                      have hfz97_0 := blk_frozen BK141.out 0
                      have hfz97_1 := blk_frozen BK141.out 1
                      have hfz97_2 := blk_frozen BK141.out 2
                      have hfz97_3 := blk_frozen BK141.out 3
                      have hfz97_4 := blk_frozen BK141.out 4
                      have hfz97_5 := blk_frozen BK141.out 5
                      have hfz97_6 := blk_frozen BK141.out 6
                      go_wp2_with (first | ((with_reducible refine gate_callee (f := 60) rfl ?_); refine goesL_ (some 114) rfl rfl Try.func60 (by kernel_rfl) rfl #[.int .i64 (l0_6.length : Int), .int .i64 1, .int .i64 6] rfl (by (try simp only [List.map_toArray, List.map_cons, List.map_nil]); first | done | rfl | (simp only [List.length_drop, List.length_take]; rfl)) ?_; (with_reducible refine (spec_l01In.calls (l0_6.length : Int) 1 6 false _ A90.out).mono ?_); rintro e w' ⟨rfl, ⟨nd, rfl⟩⟩; refine ⟨_, rfl, ?_⟩))
                      go_ret
                      exact ⟨by first | rfl | (simp [errW_none, errW_some] <;> rfl) | (simp [*, errW_none, errW_some] <;> rfl), by repeat (first | (with_reducible first | exact HB.out | apply below_alloc | apply pw_below_drewN | apply below_drew1 | refine below_set ?_ GE141.out) | exact HB.out)⟩
            · rw [if_neg c82] at H
              have c82b0 : (a0_0 == 2) = false := beq_eq_false_iff_ne.mpr c82
              have c82b1 : (a0_0 != 2) = true := bne_iff_ne.mpr c82
              by_cases c98 : a0_0 = 3
              · rw [if_pos c98] at H
                have c98b0 : (a0_0 == 3) = true := beq_iff_eq.mpr c98
                have c98b1 : (a0_0 != 3) = false := bne_eq_false_iff_eq.mpr c98
                clear c98
                replace H := Option.bind_eq_some_iff.mp H
                obtain ⟨t157, A990, H⟩ := H
                replace H : (if t157 = true then ((spec_l02Col.f a0_4).bind fun t158 => (if t158 = true then (some (!a0_5)) else (some false))) else (some false)) = some r := H
                have A99 := Aside0.mk A990
                clear A990
                by_cases c100 : t157 = true
                · subst c100
                  have H1 : ((spec_l02Col.f a0_4).bind fun t158 => (if t158 = true then (some (!a0_5)) else (some false))) = some r := by rw [if_pos rfl] at H; exact H
                  clear H
                  have H := H1
                  clear H1
                  replace H := Option.bind_eq_some_iff.mp H
                  obtain ⟨t158, A1010, H⟩ := H
                  replace H : (if t158 = true then (some (!a0_5)) else (some false)) = some r := H
                  have A101 := Aside0.mk A1010
                  clear A1010
                  by_cases c102 : t158 = true
                  · subst c102
                    have H1 : (some (!a0_5)) = some r := by rw [if_pos rfl] at H; exact H
                    clear H
                    have H := H1
                    clear H1
                    obtain rfl := Option.some.inj H
                    have hcz103_0 : wc.cell? ⟨gb141, 0, none⟩ = some (.int .i64 a0_0) := (blk_cell BK141.out 0).trans rfl
                    have hcz103_1 : wc.cell? ⟨gb141, 1, none⟩ = some (.string a0_1) := (blk_cell BK141.out 1).trans rfl
                    have hcz103_2 : wc.cell? ⟨gb141, 2, none⟩ = some (.int .i64 a0_2) := (blk_cell BK141.out 2).trans rfl
                    have hcz103_3 : wc.cell? ⟨gb141, 3, none⟩ = some (.int .i64 a0_3) := (blk_cell BK141.out 3).trans rfl
                    have hcz103_4 : wc.cell? ⟨gb141, 4, none⟩ = some (.int .i64 a0_4) := (blk_cell BK141.out 4).trans rfl
                    have hcz103_5 : wc.cell? ⟨gb141, 5, none⟩ = some (.bool a0_5) := (blk_cell BK141.out 5).trans rfl
                    have hcz103_6 : wc.cell? ⟨gb141, 6, none⟩ = some (.slice A0_6 l0_6.length c0_6) := (blk_cell BK141.out 6).trans rfl
                    have hfz103_0 := blk_frozen BK141.out 0
                    have hfz103_1 := blk_frozen BK141.out 1
                    have hfz103_2 := blk_frozen BK141.out 2
                    have hfz103_3 := blk_frozen BK141.out 3
                    have hfz103_4 := blk_frozen BK141.out 4
                    have hfz103_5 := blk_frozen BK141.out 5
                    have hfz103_6 := blk_frozen BK141.out 6
                    go_wp2_with (first | ((with_reducible refine gate_callee (f := 62) rfl ?_); refine goesL_ (some 134) rfl rfl Try.func62 (by kernel_rfl) rfl #[.int .i64 a0_2] rfl (by (try simp only [List.map_toArray, List.map_cons, List.map_nil]); first | done | rfl | (simp only [List.length_drop, List.length_take]; rfl)) ?_; (with_reducible refine (spec_l02Col.calls a0_2 true _ A99.out).mono ?_); rintro e w' ⟨rfl, ⟨nd, rfl⟩⟩; refine ⟨_, rfl, ?_⟩) | (go_at_call 62; (with_reducible refine (spec_l02Col.calls a0_4 true _ A101.out).mono ?_); rintro e w' ⟨rfl, ⟨nd, rfl⟩⟩))
                    go_ret
                    exact ⟨by first | rfl | (simp [errW_none, errW_some] <;> rfl) | (simp [*, errW_none, errW_some] <;> rfl), by repeat (first | (with_reducible first | exact HB.out | apply below_alloc | apply pw_below_drewN | apply below_drew1 | refine below_set ?_ GE141.out) | exact HB.out)⟩
                  · replace c102 := Bool.eq_false_iff.mpr c102
                    subst c102
                    have H1 : (some false) = some r := by rw [if_neg (show ¬ (false = true) by decide)] at H; exact H
                    clear H
                    have H := H1
                    clear H1
                    obtain rfl := Option.some.inj H
                    have hcz104_0 : wc.cell? ⟨gb141, 0, none⟩ = some (.int .i64 a0_0) := (blk_cell BK141.out 0).trans rfl
                    have hcz104_1 : wc.cell? ⟨gb141, 1, none⟩ = some (.string a0_1) := (blk_cell BK141.out 1).trans rfl
                    have hcz104_2 : wc.cell? ⟨gb141, 2, none⟩ = some (.int .i64 a0_2) := (blk_cell BK141.out 2).trans rfl
                    have hcz104_3 : wc.cell? ⟨gb141, 3, none⟩ = some (.int .i64 a0_3) := (blk_cell BK141.out 3).trans rfl
                    have hcz104_4 : wc.cell? ⟨gb141, 4, none⟩ = some (.int .i64 a0_4) := (blk_cell BK141.out 4).trans rfl
                    have hcz104_5 : wc.cell? ⟨gb141, 5, none⟩ = some (.bool a0_5) := (blk_cell BK141.out 5).trans rfl
                    have hcz104_6 : wc.cell? ⟨gb141, 6, none⟩ = some (.slice A0_6 l0_6.length c0_6) := (blk_cell BK141.out 6).trans rfl
                    have hfz104_0 := blk_frozen BK141.out 0
                    have hfz104_1 := blk_frozen BK141.out 1
                    have hfz104_2 := blk_frozen BK141.out 2
                    have hfz104_3 := blk_frozen BK141.out 3
                    have hfz104_4 := blk_frozen BK141.out 4
                    have hfz104_5 := blk_frozen BK141.out 5
                    have hfz104_6 := blk_frozen BK141.out 6
                    go_wp2_with (first | ((with_reducible refine gate_callee (f := 62) rfl ?_); refine goesL_ (some 134) rfl rfl Try.func62 (by kernel_rfl) rfl #[.int .i64 a0_2] rfl (by (try simp only [List.map_toArray, List.map_cons, List.map_nil]); first | done | rfl | (simp only [List.length_drop, List.length_take]; rfl)) ?_; (with_reducible refine (spec_l02Col.calls a0_2 true _ A99.out).mono ?_); rintro e w' ⟨rfl, ⟨nd, rfl⟩⟩; refine ⟨_, rfl, ?_⟩) | (go_at_call 62; (with_reducible refine (spec_l02Col.calls a0_4 false _ A101.out).mono ?_); rintro e w' ⟨rfl, ⟨nd, rfl⟩⟩))
                    go_ret
                    exact ⟨by first | rfl | (simp [errW_none, errW_some] <;> rfl) | (simp [*, errW_none, errW_some] <;> rfl), by repeat (first | (with_reducible first | exact HB.out | apply below_alloc | apply pw_below_drewN | apply below_drew1 | refine below_set ?_ GE141.out) | exact HB.out)⟩
                · replace c100 := Bool.eq_false_iff.mpr c100
                  subst c100
                  have H1 : (some false) = some r := by rw [if_neg (show ¬ (false = true) by decide)] at H; exact H
                  clear H
                  have H := H1
                  clear H1
                  obtain rfl := Option.some.inj H
                  have hcz105_0 : wc.cell? ⟨gb141, 0, none⟩ = some (.int .i64 a0_0) := (blk_cell BK141.out 0).trans rfl
                  have hcz105_1 : wc.cell? ⟨gb141, 1, none⟩ = some (.string a0_1) := (blk_cell BK141.out 1).trans rfl
                  have hcz105_2 : wc.cell? ⟨gb141, 2, none⟩ = some (.int .i64 a0_2) := (blk_cell BK141.out 2).trans rfl
                  have hcz105_3 : wc.cell? ⟨gb141, 3, none⟩ = some (.int .i64 a0_3) := (blk_cell BK141.out 3).trans rfl
                  have hcz105_4 : wc.cell? ⟨gb141, 4, none⟩ = some (.int .i64 a0_4) := (blk_cell BK141.out 4).trans rfl
                  have hcz105_5 : wc.cell? ⟨gb141, 5, none⟩ = some (.bool a0_5) := (blk_cell BK141.out 5).trans rfl
                  have hcz105_6 : wc.cell? ⟨gb141, 6, none⟩ = some (.slice A0_6 l0_6.length c0_6) := (blk_cell BK141.out 6).trans rfl
                  have hfz105_0 := blk_frozen BK141.out 0
                  have hfz105_1 := blk_frozen BK141.out 1
                  have hfz105_2 := blk_frozen BK141.out 2
                  have hfz105_3 := blk_frozen BK141.out 3
                  have hfz105_4 := blk_frozen BK141.out 4
                  have hfz105_5 := blk_frozen BK141.out 5
                  have hfz105_6 := blk_frozen BK141.out 6
                  go_wp2_with (first | ((with_reducible refine gate_callee (f := 62) rfl ?_); refine goesL_ (some 134) rfl rfl Try.func62 (by kernel_rfl) rfl #[.int .i64 a0_2] rfl (by (try simp only [List.map_toArray, List.map_cons, List.map_nil]); first | done | rfl | (simp only [List.length_drop, List.length_take]; rfl)) ?_; (with_reducible refine (spec_l02Col.calls a0_2 false _ A99.out).mono ?_); rintro e w' ⟨rfl, ⟨nd, rfl⟩⟩; refine ⟨_, rfl, ?_⟩))
                  go_ret
                  exact ⟨by first | rfl | (simp [errW_none, errW_some] <;> rfl) | (simp [*, errW_none, errW_some] <;> rfl), by repeat (first | (with_reducible first | exact HB.out | apply below_alloc | apply pw_below_drewN | apply below_drew1 | refine below_set ?_ GE141.out) | exact HB.out)⟩
              · rw [if_neg c98] at H
                have c98b0 : (a0_0 == 3) = false := beq_eq_false_iff_ne.mpr c98
                have c98b1 : (a0_0 != 3) = true := bne_iff_ne.mpr c98
                by_cases c106 : a0_0 = 5
                · rw [if_pos c106] at H
                  have c106b0 : (a0_0 == 5) = true := beq_iff_eq.mpr c106
                  have c106b1 : (a0_0 != 5) = false := bne_eq_false_iff_eq.mpr c106
                  clear c106
                  replace H := Option.bind_eq_some_iff.mp H
                  obtain ⟨t159, A1070, H⟩ := H
                  replace H : (if t159 = true then (if a0_4 = 0 then (some (!a0_5)) else (some false)) else (some false)) = some r := H
                  have A107 := Aside0.mk A1070
                  clear A1070
                  by_cases c108 : t159 = true
                  · subst c108
                    have H1 : (if a0_4 = 0 then (some (!a0_5)) else (some false)) = some r := by rw [if_pos rfl] at H; exact H
                    clear H
                    have H := H1
                    clear H1
                    by_cases c109 : a0_4 = 0
                    · rw [if_pos c109] at H
                      have c109b0 : (a0_4 == 0) = true := beq_iff_eq.mpr c109
                      have c109b1 : (a0_4 != 0) = false := bne_eq_false_iff_eq.mpr c109
                      clear c109
                      obtain rfl := Option.some.inj H
                      have hcz110_0 : wc.cell? ⟨gb141, 0, none⟩ = some (.int .i64 a0_0) := (blk_cell BK141.out 0).trans rfl
                      have hcz110_1 : wc.cell? ⟨gb141, 1, none⟩ = some (.string a0_1) := (blk_cell BK141.out 1).trans rfl
                      have hcz110_2 : wc.cell? ⟨gb141, 2, none⟩ = some (.int .i64 a0_2) := (blk_cell BK141.out 2).trans rfl
                      have hcz110_3 : wc.cell? ⟨gb141, 3, none⟩ = some (.int .i64 a0_3) := (blk_cell BK141.out 3).trans rfl
                      have hcz110_4 : wc.cell? ⟨gb141, 4, none⟩ = some (.int .i64 a0_4) := (blk_cell BK141.out 4).trans rfl
                      have hcz110_5 : wc.cell? ⟨gb141, 5, none⟩ = some (.bool a0_5) := (blk_cell BK141.out 5).trans rfl
                      have hcz110_6 : wc.cell? ⟨gb141, 6, none⟩ = some (.slice A0_6 l0_6.length c0_6) := (blk_cell BK141.out 6).trans rfl
                      have hfz110_0 := blk_frozen BK141.out 0
                      have hfz110_1 := blk_frozen BK141.out 1
                      have hfz110_2 := blk_frozen BK141.out 2
                      have hfz110_3 := blk_frozen BK141.out 3
                      have hfz110_4 := blk_frozen BK141.out 4
                      have hfz110_5 := blk_frozen BK141.out 5
                      have hfz110_6 := blk_frozen BK141.out 6
                      go_wp2_with (first | ((with_reducible refine gate_callee (f := 62) rfl ?_); refine goesL_ (some 149) rfl rfl Try.func62 (by kernel_rfl) rfl #[.int .i64 a0_2] rfl (by (try simp only [List.map_toArray, List.map_cons, List.map_nil]); first | done | rfl | (simp only [List.length_drop, List.length_take]; rfl)) ?_; (with_reducible refine (spec_l02Col.calls a0_2 true _ A107.out).mono ?_); rintro e w' ⟨rfl, ⟨nd, rfl⟩⟩; refine ⟨_, rfl, ?_⟩))
                      go_ret
                      exact ⟨by first | rfl | (simp [errW_none, errW_some] <;> rfl) | (simp [*, errW_none, errW_some] <;> rfl), by repeat (first | (with_reducible first | exact HB.out | apply below_alloc | apply pw_below_drewN | apply below_drew1 | refine below_set ?_ GE141.out) | exact HB.out)⟩
                    · rw [if_neg c109] at H
                      have c109b0 : (a0_4 == 0) = false := beq_eq_false_iff_ne.mpr c109
                      have c109b1 : (a0_4 != 0) = true := bne_iff_ne.mpr c109
                      obtain rfl := Option.some.inj H
                      have hcz111_0 : wc.cell? ⟨gb141, 0, none⟩ = some (.int .i64 a0_0) := (blk_cell BK141.out 0).trans rfl
                      have hcz111_1 : wc.cell? ⟨gb141, 1, none⟩ = some (.string a0_1) := (blk_cell BK141.out 1).trans rfl
                      have hcz111_2 : wc.cell? ⟨gb141, 2, none⟩ = some (.int .i64 a0_2) := (blk_cell BK141.out 2).trans rfl
                      have hcz111_3 : wc.cell? ⟨gb141, 3, none⟩ = some (.int .i64 a0_3) := (blk_cell BK141.out 3).trans rfl
                      have hcz111_4 : wc.cell? ⟨gb141, 4, none⟩ = some (.int .i64 a0_4) := (blk_cell BK141.out 4).trans rfl
                      have hcz111_5 : wc.cell? ⟨gb141, 5, none⟩ = some (.bool a0_5) := (blk_cell BK141.out 5).trans rfl
                      have hcz111_6 : wc.cell? ⟨gb141, 6, none⟩ = some (.slice A0_6 l0_6.length c0_6) := (blk_cell BK141.out 6).trans rfl
                      have hfz111_0 := blk_frozen BK141.out 0
                      have hfz111_1 := blk_frozen BK141.out 1
                      have hfz111_2 := blk_frozen BK141.out 2
                      have hfz111_3 := blk_frozen BK141.out 3
                      have hfz111_4 := blk_frozen BK141.out 4
                      have hfz111_5 := blk_frozen BK141.out 5
                      have hfz111_6 := blk_frozen BK141.out 6
                      go_wp2_with (first | ((with_reducible refine gate_callee (f := 62) rfl ?_); refine goesL_ (some 149) rfl rfl Try.func62 (by kernel_rfl) rfl #[.int .i64 a0_2] rfl (by (try simp only [List.map_toArray, List.map_cons, List.map_nil]); first | done | rfl | (simp only [List.length_drop, List.length_take]; rfl)) ?_; (with_reducible refine (spec_l02Col.calls a0_2 true _ A107.out).mono ?_); rintro e w' ⟨rfl, ⟨nd, rfl⟩⟩; refine ⟨_, rfl, ?_⟩))
                      go_ret
                      exact ⟨by first | rfl | (simp [errW_none, errW_some] <;> rfl) | (simp [*, errW_none, errW_some] <;> rfl), by repeat (first | (with_reducible first | exact HB.out | apply below_alloc | apply pw_below_drewN | apply below_drew1 | refine below_set ?_ GE141.out) | exact HB.out)⟩
                  · replace c108 := Bool.eq_false_iff.mpr c108
                    subst c108
                    have H1 : (some false) = some r := by rw [if_neg (show ¬ (false = true) by decide)] at H; exact H
                    clear H
                    have H := H1
                    clear H1
                    obtain rfl := Option.some.inj H
                    have hcz112_0 : wc.cell? ⟨gb141, 0, none⟩ = some (.int .i64 a0_0) := (blk_cell BK141.out 0).trans rfl
                    have hcz112_1 : wc.cell? ⟨gb141, 1, none⟩ = some (.string a0_1) := (blk_cell BK141.out 1).trans rfl
                    have hcz112_2 : wc.cell? ⟨gb141, 2, none⟩ = some (.int .i64 a0_2) := (blk_cell BK141.out 2).trans rfl
                    have hcz112_3 : wc.cell? ⟨gb141, 3, none⟩ = some (.int .i64 a0_3) := (blk_cell BK141.out 3).trans rfl
                    have hcz112_4 : wc.cell? ⟨gb141, 4, none⟩ = some (.int .i64 a0_4) := (blk_cell BK141.out 4).trans rfl
                    have hcz112_5 : wc.cell? ⟨gb141, 5, none⟩ = some (.bool a0_5) := (blk_cell BK141.out 5).trans rfl
                    have hcz112_6 : wc.cell? ⟨gb141, 6, none⟩ = some (.slice A0_6 l0_6.length c0_6) := (blk_cell BK141.out 6).trans rfl
                    have hfz112_0 := blk_frozen BK141.out 0
                    have hfz112_1 := blk_frozen BK141.out 1
                    have hfz112_2 := blk_frozen BK141.out 2
                    have hfz112_3 := blk_frozen BK141.out 3
                    have hfz112_4 := blk_frozen BK141.out 4
                    have hfz112_5 := blk_frozen BK141.out 5
                    have hfz112_6 := blk_frozen BK141.out 6
                    go_wp2_with (first | ((with_reducible refine gate_callee (f := 62) rfl ?_); refine goesL_ (some 149) rfl rfl Try.func62 (by kernel_rfl) rfl #[.int .i64 a0_2] rfl (by (try simp only [List.map_toArray, List.map_cons, List.map_nil]); first | done | rfl | (simp only [List.length_drop, List.length_take]; rfl)) ?_; (with_reducible refine (spec_l02Col.calls a0_2 false _ A107.out).mono ?_); rintro e w' ⟨rfl, ⟨nd, rfl⟩⟩; refine ⟨_, rfl, ?_⟩))
                    go_ret
                    exact ⟨by first | rfl | (simp [errW_none, errW_some] <;> rfl) | (simp [*, errW_none, errW_some] <;> rfl), by repeat (first | (with_reducible first | exact HB.out | apply below_alloc | apply pw_below_drewN | apply below_drew1 | refine below_set ?_ GE141.out) | exact HB.out)⟩
                · rw [if_neg c106] at H
                  have c106b0 : (a0_0 == 5) = false := beq_eq_false_iff_ne.mpr c106
                  have c106b1 : (a0_0 != 5) = true := bne_iff_ne.mpr c106
                  by_cases c113 : a0_0 = 6
                  · rw [if_pos c113] at H
                    have c113b0 : (a0_0 == 6) = true := beq_iff_eq.mpr c113
                    have c113b1 : (a0_0 != 6) = false := bne_eq_false_iff_eq.mpr c113
                    clear c113
                    by_cases c114 : a0_2 = 0
                    · rw [if_pos c114] at H
                      have c114b0 : (a0_2 == 0) = true := beq_iff_eq.mpr c114
                      have c114b1 : (a0_2 != 0) = false := bne_eq_false_iff_eq.mpr c114
                      clear c114
                      replace H := Option.bind_eq_some_iff.mp H
                      obtain ⟨t160, A1150, H⟩ := H
                      replace H : (some t160) = some r := H
                      have A115 := Aside0.mk A1150
                      clear A1150
                      obtain rfl := Option.some.inj H
                      have hcz116_0 : wc.cell? ⟨gb141, 0, none⟩ = some (.int .i64 a0_0) := (blk_cell BK141.out 0).trans rfl
                      have hcz116_1 : wc.cell? ⟨gb141, 1, none⟩ = some (.string a0_1) := (blk_cell BK141.out 1).trans rfl
                      have hcz116_2 : wc.cell? ⟨gb141, 2, none⟩ = some (.int .i64 a0_2) := (blk_cell BK141.out 2).trans rfl
                      have hcz116_3 : wc.cell? ⟨gb141, 3, none⟩ = some (.int .i64 a0_3) := (blk_cell BK141.out 3).trans rfl
                      have hcz116_4 : wc.cell? ⟨gb141, 4, none⟩ = some (.int .i64 a0_4) := (blk_cell BK141.out 4).trans rfl
                      have hcz116_5 : wc.cell? ⟨gb141, 5, none⟩ = some (.bool a0_5) := (blk_cell BK141.out 5).trans rfl
                      have hcz116_6 : wc.cell? ⟨gb141, 6, none⟩ = some (.slice A0_6 l0_6.length c0_6) := (blk_cell BK141.out 6).trans rfl
                      have hfz116_0 := blk_frozen BK141.out 0
                      have hfz116_1 := blk_frozen BK141.out 1
                      have hfz116_2 := blk_frozen BK141.out 2
                      have hfz116_3 := blk_frozen BK141.out 3
                      have hfz116_4 := blk_frozen BK141.out 4
                      have hfz116_5 := blk_frozen BK141.out 5
                      have hfz116_6 := blk_frozen BK141.out 6
                      go_wp2_with (first | (go_at_call 60; (with_reducible refine (spec_l01In.calls a0_4 0 1000000 t160 _ A115.out).mono ?_); rintro e w' ⟨rfl, ⟨nd, rfl⟩⟩))
                      go_ret
                      exact ⟨by first | rfl | (simp [errW_none, errW_some] <;> rfl) | (simp [*, errW_none, errW_some] <;> rfl), by repeat (first | (with_reducible first | exact HB.out | apply below_alloc | apply pw_below_drewN | apply below_drew1 | refine below_set ?_ GE141.out) | exact HB.out)⟩
                    · rw [if_neg c114] at H
                      have c114b0 : (a0_2 == 0) = false := beq_eq_false_iff_ne.mpr c114
                      have c114b1 : (a0_2 != 0) = true := bne_iff_ne.mpr c114
                      obtain rfl := Option.some.inj H
                      have hcz117_0 : wc.cell? ⟨gb141, 0, none⟩ = some (.int .i64 a0_0) := (blk_cell BK141.out 0).trans rfl
                      have hcz117_1 : wc.cell? ⟨gb141, 1, none⟩ = some (.string a0_1) := (blk_cell BK141.out 1).trans rfl
                      have hcz117_2 : wc.cell? ⟨gb141, 2, none⟩ = some (.int .i64 a0_2) := (blk_cell BK141.out 2).trans rfl
                      have hcz117_3 : wc.cell? ⟨gb141, 3, none⟩ = some (.int .i64 a0_3) := (blk_cell BK141.out 3).trans rfl
                      have hcz117_4 : wc.cell? ⟨gb141, 4, none⟩ = some (.int .i64 a0_4) := (blk_cell BK141.out 4).trans rfl
                      have hcz117_5 : wc.cell? ⟨gb141, 5, none⟩ = some (.bool a0_5) := (blk_cell BK141.out 5).trans rfl
                      have hcz117_6 : wc.cell? ⟨gb141, 6, none⟩ = some (.slice A0_6 l0_6.length c0_6) := (blk_cell BK141.out 6).trans rfl
                      have hfz117_0 := blk_frozen BK141.out 0
                      have hfz117_1 := blk_frozen BK141.out 1
                      have hfz117_2 := blk_frozen BK141.out 2
                      have hfz117_3 := blk_frozen BK141.out 3
                      have hfz117_4 := blk_frozen BK141.out 4
                      have hfz117_5 := blk_frozen BK141.out 5
                      have hfz117_6 := blk_frozen BK141.out 6
                      go_wp2
                      go_ret
                      exact ⟨by first | rfl | (simp [errW_none, errW_some] <;> rfl) | (simp [*, errW_none, errW_some] <;> rfl), by repeat (first | (with_reducible first | exact HB.out | apply below_alloc | apply pw_below_drewN | apply below_drew1 | refine below_set ?_ GE141.out) | exact HB.out)⟩
                  · rw [if_neg c113] at H
                    have c113b0 : (a0_0 == 6) = false := beq_eq_false_iff_ne.mpr c113
                    have c113b1 : (a0_0 != 6) = true := bne_iff_ne.mpr c113
                    by_cases c118 : a0_0 = 4
                    · rw [if_pos c118] at H
                      have c118b0 : (a0_0 == 4) = true := beq_iff_eq.mpr c118
                      have c118b1 : (a0_0 != 4) = false := bne_eq_false_iff_eq.mpr c118
                      clear c118
                      by_cases c119 : a0_2 = 0
                      · rw [if_pos c119] at H
                        have c119b0 : (a0_2 == 0) = true := beq_iff_eq.mpr c119
                        have c119b1 : (a0_2 != 0) = false := bne_eq_false_iff_eq.mpr c119
                        clear c119
                        by_cases c120 : a0_4 = 0
                        · rw [if_pos c120] at H
                          have c120b0 : (a0_4 == 0) = true := beq_iff_eq.mpr c120
                          have c120b1 : (a0_4 != 0) = false := bne_eq_false_iff_eq.mpr c120
                          clear c120
                          obtain rfl := Option.some.inj H
                          have hcz121_0 : wc.cell? ⟨gb141, 0, none⟩ = some (.int .i64 a0_0) := (blk_cell BK141.out 0).trans rfl
                          have hcz121_1 : wc.cell? ⟨gb141, 1, none⟩ = some (.string a0_1) := (blk_cell BK141.out 1).trans rfl
                          have hcz121_2 : wc.cell? ⟨gb141, 2, none⟩ = some (.int .i64 a0_2) := (blk_cell BK141.out 2).trans rfl
                          have hcz121_3 : wc.cell? ⟨gb141, 3, none⟩ = some (.int .i64 a0_3) := (blk_cell BK141.out 3).trans rfl
                          have hcz121_4 : wc.cell? ⟨gb141, 4, none⟩ = some (.int .i64 a0_4) := (blk_cell BK141.out 4).trans rfl
                          have hcz121_5 : wc.cell? ⟨gb141, 5, none⟩ = some (.bool a0_5) := (blk_cell BK141.out 5).trans rfl
                          have hcz121_6 : wc.cell? ⟨gb141, 6, none⟩ = some (.slice A0_6 l0_6.length c0_6) := (blk_cell BK141.out 6).trans rfl
                          have hfz121_0 := blk_frozen BK141.out 0
                          have hfz121_1 := blk_frozen BK141.out 1
                          have hfz121_2 := blk_frozen BK141.out 2
                          have hfz121_3 := blk_frozen BK141.out 3
                          have hfz121_4 := blk_frozen BK141.out 4
                          have hfz121_5 := blk_frozen BK141.out 5
                          have hfz121_6 := blk_frozen BK141.out 6
                          go_wp2
                          go_ret
                          exact ⟨by first | rfl | (simp [errW_none, errW_some] <;> rfl) | (simp [*, errW_none, errW_some] <;> rfl), by repeat (first | (with_reducible first | exact HB.out | apply below_alloc | apply pw_below_drewN | apply below_drew1 | refine below_set ?_ GE141.out) | exact HB.out)⟩
                        · rw [if_neg c120] at H
                          have c120b0 : (a0_4 == 0) = false := beq_eq_false_iff_ne.mpr c120
                          have c120b1 : (a0_4 != 0) = true := bne_iff_ne.mpr c120
                          obtain rfl := Option.some.inj H
                          have hcz122_0 : wc.cell? ⟨gb141, 0, none⟩ = some (.int .i64 a0_0) := (blk_cell BK141.out 0).trans rfl
                          have hcz122_1 : wc.cell? ⟨gb141, 1, none⟩ = some (.string a0_1) := (blk_cell BK141.out 1).trans rfl
                          have hcz122_2 : wc.cell? ⟨gb141, 2, none⟩ = some (.int .i64 a0_2) := (blk_cell BK141.out 2).trans rfl
                          have hcz122_3 : wc.cell? ⟨gb141, 3, none⟩ = some (.int .i64 a0_3) := (blk_cell BK141.out 3).trans rfl
                          have hcz122_4 : wc.cell? ⟨gb141, 4, none⟩ = some (.int .i64 a0_4) := (blk_cell BK141.out 4).trans rfl
                          have hcz122_5 : wc.cell? ⟨gb141, 5, none⟩ = some (.bool a0_5) := (blk_cell BK141.out 5).trans rfl
                          have hcz122_6 : wc.cell? ⟨gb141, 6, none⟩ = some (.slice A0_6 l0_6.length c0_6) := (blk_cell BK141.out 6).trans rfl
                          have hfz122_0 := blk_frozen BK141.out 0
                          have hfz122_1 := blk_frozen BK141.out 1
                          have hfz122_2 := blk_frozen BK141.out 2
                          have hfz122_3 := blk_frozen BK141.out 3
                          have hfz122_4 := blk_frozen BK141.out 4
                          have hfz122_5 := blk_frozen BK141.out 5
                          have hfz122_6 := blk_frozen BK141.out 6
                          go_wp2
                          go_ret
                          exact ⟨by first | rfl | (simp [errW_none, errW_some] <;> rfl) | (simp [*, errW_none, errW_some] <;> rfl), by repeat (first | (with_reducible first | exact HB.out | apply below_alloc | apply pw_below_drewN | apply below_drew1 | refine below_set ?_ GE141.out) | exact HB.out)⟩
                      · rw [if_neg c119] at H
                        have c119b0 : (a0_2 == 0) = false := beq_eq_false_iff_ne.mpr c119
                        have c119b1 : (a0_2 != 0) = true := bne_iff_ne.mpr c119
                        obtain rfl := Option.some.inj H
                        have hcz123_0 : wc.cell? ⟨gb141, 0, none⟩ = some (.int .i64 a0_0) := (blk_cell BK141.out 0).trans rfl
                        have hcz123_1 : wc.cell? ⟨gb141, 1, none⟩ = some (.string a0_1) := (blk_cell BK141.out 1).trans rfl
                        have hcz123_2 : wc.cell? ⟨gb141, 2, none⟩ = some (.int .i64 a0_2) := (blk_cell BK141.out 2).trans rfl
                        have hcz123_3 : wc.cell? ⟨gb141, 3, none⟩ = some (.int .i64 a0_3) := (blk_cell BK141.out 3).trans rfl
                        have hcz123_4 : wc.cell? ⟨gb141, 4, none⟩ = some (.int .i64 a0_4) := (blk_cell BK141.out 4).trans rfl
                        have hcz123_5 : wc.cell? ⟨gb141, 5, none⟩ = some (.bool a0_5) := (blk_cell BK141.out 5).trans rfl
                        have hcz123_6 : wc.cell? ⟨gb141, 6, none⟩ = some (.slice A0_6 l0_6.length c0_6) := (blk_cell BK141.out 6).trans rfl
                        have hfz123_0 := blk_frozen BK141.out 0
                        have hfz123_1 := blk_frozen BK141.out 1
                        have hfz123_2 := blk_frozen BK141.out 2
                        have hfz123_3 := blk_frozen BK141.out 3
                        have hfz123_4 := blk_frozen BK141.out 4
                        have hfz123_5 := blk_frozen BK141.out 5
                        have hfz123_6 := blk_frozen BK141.out 6
                        go_wp2
                        go_ret
                        exact ⟨by first | rfl | (simp [errW_none, errW_some] <;> rfl) | (simp [*, errW_none, errW_some] <;> rfl), by repeat (first | (with_reducible first | exact HB.out | apply below_alloc | apply pw_below_drewN | apply below_drew1 | refine below_set ?_ GE141.out) | exact HB.out)⟩
                    · rw [if_neg c118] at H
                      have c118b0 : (a0_0 == 4) = false := beq_eq_false_iff_ne.mpr c118
                      have c118b1 : (a0_0 != 4) = true := bne_iff_ne.mpr c118
                      by_cases c124 : a0_0 = 7
                      · rw [if_pos c124] at H
                        have c124b0 : (a0_0 == 7) = true := beq_iff_eq.mpr c124
                        have c124b1 : (a0_0 != 7) = false := bne_eq_false_iff_eq.mpr c124
                        clear c124
                        by_cases c125 : a0_2 = 0
                        · rw [if_pos c125] at H
                          have c125b0 : (a0_2 == 0) = true := beq_iff_eq.mpr c125
                          have c125b1 : (a0_2 != 0) = false := bne_eq_false_iff_eq.mpr c125
                          clear c125
                          by_cases c126 : a0_4 = 0
                          · rw [if_pos c126] at H
                            have c126b0 : (a0_4 == 0) = true := beq_iff_eq.mpr c126
                            have c126b1 : (a0_4 != 0) = false := bne_eq_false_iff_eq.mpr c126
                            clear c126
                            obtain rfl := Option.some.inj H
                            have hcz127_0 : wc.cell? ⟨gb141, 0, none⟩ = some (.int .i64 a0_0) := (blk_cell BK141.out 0).trans rfl
                            have hcz127_1 : wc.cell? ⟨gb141, 1, none⟩ = some (.string a0_1) := (blk_cell BK141.out 1).trans rfl
                            have hcz127_2 : wc.cell? ⟨gb141, 2, none⟩ = some (.int .i64 a0_2) := (blk_cell BK141.out 2).trans rfl
                            have hcz127_3 : wc.cell? ⟨gb141, 3, none⟩ = some (.int .i64 a0_3) := (blk_cell BK141.out 3).trans rfl
                            have hcz127_4 : wc.cell? ⟨gb141, 4, none⟩ = some (.int .i64 a0_4) := (blk_cell BK141.out 4).trans rfl
                            have hcz127_5 : wc.cell? ⟨gb141, 5, none⟩ = some (.bool a0_5) := (blk_cell BK141.out 5).trans rfl
                            have hcz127_6 : wc.cell? ⟨gb141, 6, none⟩ = some (.slice A0_6 l0_6.length c0_6) := (blk_cell BK141.out 6).trans rfl
                            have hfz127_0 := blk_frozen BK141.out 0
                            have hfz127_1 := blk_frozen BK141.out 1
                            have hfz127_2 := blk_frozen BK141.out 2
                            have hfz127_3 := blk_frozen BK141.out 3
                            have hfz127_4 := blk_frozen BK141.out 4
                            have hfz127_5 := blk_frozen BK141.out 5
                            have hfz127_6 := blk_frozen BK141.out 6
                            go_wp2
                            go_ret
                            exact ⟨by first | rfl | (simp [errW_none, errW_some] <;> rfl) | (simp [*, errW_none, errW_some] <;> rfl), by repeat (first | (with_reducible first | exact HB.out | apply below_alloc | apply pw_below_drewN | apply below_drew1 | refine below_set ?_ GE141.out) | exact HB.out)⟩
                          · rw [if_neg c126] at H
                            have c126b0 : (a0_4 == 0) = false := beq_eq_false_iff_ne.mpr c126
                            have c126b1 : (a0_4 != 0) = true := bne_iff_ne.mpr c126
                            obtain rfl := Option.some.inj H
                            have hcz128_0 : wc.cell? ⟨gb141, 0, none⟩ = some (.int .i64 a0_0) := (blk_cell BK141.out 0).trans rfl
                            have hcz128_1 : wc.cell? ⟨gb141, 1, none⟩ = some (.string a0_1) := (blk_cell BK141.out 1).trans rfl
                            have hcz128_2 : wc.cell? ⟨gb141, 2, none⟩ = some (.int .i64 a0_2) := (blk_cell BK141.out 2).trans rfl
                            have hcz128_3 : wc.cell? ⟨gb141, 3, none⟩ = some (.int .i64 a0_3) := (blk_cell BK141.out 3).trans rfl
                            have hcz128_4 : wc.cell? ⟨gb141, 4, none⟩ = some (.int .i64 a0_4) := (blk_cell BK141.out 4).trans rfl
                            have hcz128_5 : wc.cell? ⟨gb141, 5, none⟩ = some (.bool a0_5) := (blk_cell BK141.out 5).trans rfl
                            have hcz128_6 : wc.cell? ⟨gb141, 6, none⟩ = some (.slice A0_6 l0_6.length c0_6) := (blk_cell BK141.out 6).trans rfl
                            have hfz128_0 := blk_frozen BK141.out 0
                            have hfz128_1 := blk_frozen BK141.out 1
                            have hfz128_2 := blk_frozen BK141.out 2
                            have hfz128_3 := blk_frozen BK141.out 3
                            have hfz128_4 := blk_frozen BK141.out 4
                            have hfz128_5 := blk_frozen BK141.out 5
                            have hfz128_6 := blk_frozen BK141.out 6
                            go_wp2
                            go_ret
                            exact ⟨by first | rfl | (simp [errW_none, errW_some] <;> rfl) | (simp [*, errW_none, errW_some] <;> rfl), by repeat (first | (with_reducible first | exact HB.out | apply below_alloc | apply pw_below_drewN | apply below_drew1 | refine below_set ?_ GE141.out) | exact HB.out)⟩
                        · rw [if_neg c125] at H
                          have c125b0 : (a0_2 == 0) = false := beq_eq_false_iff_ne.mpr c125
                          have c125b1 : (a0_2 != 0) = true := bne_iff_ne.mpr c125
                          obtain rfl := Option.some.inj H
                          have hcz129_0 : wc.cell? ⟨gb141, 0, none⟩ = some (.int .i64 a0_0) := (blk_cell BK141.out 0).trans rfl
                          have hcz129_1 : wc.cell? ⟨gb141, 1, none⟩ = some (.string a0_1) := (blk_cell BK141.out 1).trans rfl
                          have hcz129_2 : wc.cell? ⟨gb141, 2, none⟩ = some (.int .i64 a0_2) := (blk_cell BK141.out 2).trans rfl
                          have hcz129_3 : wc.cell? ⟨gb141, 3, none⟩ = some (.int .i64 a0_3) := (blk_cell BK141.out 3).trans rfl
                          have hcz129_4 : wc.cell? ⟨gb141, 4, none⟩ = some (.int .i64 a0_4) := (blk_cell BK141.out 4).trans rfl
                          have hcz129_5 : wc.cell? ⟨gb141, 5, none⟩ = some (.bool a0_5) := (blk_cell BK141.out 5).trans rfl
                          have hcz129_6 : wc.cell? ⟨gb141, 6, none⟩ = some (.slice A0_6 l0_6.length c0_6) := (blk_cell BK141.out 6).trans rfl
                          have hfz129_0 := blk_frozen BK141.out 0
                          have hfz129_1 := blk_frozen BK141.out 1
                          have hfz129_2 := blk_frozen BK141.out 2
                          have hfz129_3 := blk_frozen BK141.out 3
                          have hfz129_4 := blk_frozen BK141.out 4
                          have hfz129_5 := blk_frozen BK141.out 5
                          have hfz129_6 := blk_frozen BK141.out 6
                          go_wp2
                          go_ret
                          exact ⟨by first | rfl | (simp [errW_none, errW_some] <;> rfl) | (simp [*, errW_none, errW_some] <;> rfl), by repeat (first | (with_reducible first | exact HB.out | apply below_alloc | apply pw_below_drewN | apply below_drew1 | refine below_set ?_ GE141.out) | exact HB.out)⟩
                      · rw [if_neg c124] at H
                        have c124b0 : (a0_0 == 7) = false := beq_eq_false_iff_ne.mpr c124
                        have c124b1 : (a0_0 != 7) = true := bne_iff_ne.mpr c124
                        obtain rfl := Option.some.inj H
                        have hcz130_0 : wc.cell? ⟨gb141, 0, none⟩ = some (.int .i64 a0_0) := (blk_cell BK141.out 0).trans rfl
                        have hcz130_1 : wc.cell? ⟨gb141, 1, none⟩ = some (.string a0_1) := (blk_cell BK141.out 1).trans rfl
                        have hcz130_2 : wc.cell? ⟨gb141, 2, none⟩ = some (.int .i64 a0_2) := (blk_cell BK141.out 2).trans rfl
                        have hcz130_3 : wc.cell? ⟨gb141, 3, none⟩ = some (.int .i64 a0_3) := (blk_cell BK141.out 3).trans rfl
                        have hcz130_4 : wc.cell? ⟨gb141, 4, none⟩ = some (.int .i64 a0_4) := (blk_cell BK141.out 4).trans rfl
                        have hcz130_5 : wc.cell? ⟨gb141, 5, none⟩ = some (.bool a0_5) := (blk_cell BK141.out 5).trans rfl
                        have hcz130_6 : wc.cell? ⟨gb141, 6, none⟩ = some (.slice A0_6 l0_6.length c0_6) := (blk_cell BK141.out 6).trans rfl
                        have hfz130_0 := blk_frozen BK141.out 0
                        have hfz130_1 := blk_frozen BK141.out 1
                        have hfz130_2 := blk_frozen BK141.out 2
                        have hfz130_3 := blk_frozen BK141.out 3
                        have hfz130_4 := blk_frozen BK141.out 4
                        have hfz130_5 := blk_frozen BK141.out 5
                        have hfz130_6 := blk_frozen BK141.out 6
                        go_wp2
                        go_ret
                        exact ⟨by first | rfl | (simp [errW_none, errW_some] <;> rfl) | (simp [*, errW_none, errW_some] <;> rfl), by repeat (first | (with_reducible first | exact HB.out | apply below_alloc | apply pw_below_drewN | apply below_drew1 | refine below_set ?_ GE141.out) | exact HB.out)⟩

end Go.Proofs.Ytmjfnkebpdmhbaa.Q
