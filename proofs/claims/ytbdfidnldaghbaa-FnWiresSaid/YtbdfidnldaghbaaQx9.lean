/- The machine side of a law, written by a program of this session over the translation: for each Go function a Lean function with the same answers, and the proof that the Go code comes to them. -/
import Derived.Test.YtbdfidnldaghbaaQx0
import Derived.Test.YtbdfidnldaghbaaQx6
import Derived.Test.YtbdfidnldaghbaaQx7
import Derived.Test.YtbdfidnldaghbaaQx8
namespace Go.Proofs.Ytbdfidnldaghbaa.Q
open Go.RowKit Go.Proofs.Ytbdfidnldaghbaa.Own Go.Proofs.YtbdfidnldaghbaaW.PrintWords Go.Proofs.YtbdfidnldaghbaaW.PrintLast Go.Proofs.YtbdfidnldaghbaaW.PrintMore
attribute [local go_sem] max2_int min2_int max_two min_two max_three min_three max_four min_four   -- for this text's walks alone
set_option linter.unusedVariables false
set_option linter.unusedSimpArgs false

/-! ### spec_l01DrawBytes: function 70 -/
def spec_l01DrawBytes.l0 : Nat → Int → List Int → Int → List Int → Int → Int → Option (List Int × Int × Int)
  | 0, _, _, _, _, _, _ => none
  | k + 1, x1, x5, x6, x1000, x1001, x1002 => if x6 < x1 then ((spec_l01Below.f x1000 x1001 x1002 256).bind fun bt487 => ((spec_l01Below.f x1000 bt487.2.1 bt487.2.2 256).bind fun bt490 => ((spec_l01PickInt.f x1000 bt490.2.1 bt490.2.2 (([0, 1, 255, 128, bt487.1, bt490.1] : List Int))).bind fun bt496 => (if x5.length < 140737488355328 then (spec_l01DrawBytes.l0 k x1 (x5 ++ [(bt496.1) % 256]) (wrap64 (x6 + 1)) x1000 bt496.2.1 bt496.2.2) else (none))))) else (some (x5, x1001, x1002))
def spec_l01DrawBytes.f (k : Nat) (s0_0 : List Int) (s0_1 : Int) (s0_2 : Int) (a1 : Int) : Option (List Int × Int × Int) := spec_l01DrawBytes.l0 k a1 (([] : List Int)) 0 s0_0 s0_1 s0_2
theorem spec_l01DrawBytes.mono_l : ∀ k, (∀ y0 y1 y2 y3 y4 y5, LeO (spec_l01DrawBytes.l0 k y0 y1 y2 y3 y4 y5) (spec_l01DrawBytes.l0 (k + 1) y0 y1 y2 y3 y4 y5))
  | 0 => fun _ _ _ _ _ _ r h => by simp [spec_l01DrawBytes.l0] at h
  | k + 1 => by
    have ih0 := spec_l01DrawBytes.mono_l k
    · intro y0 y1 y2 y3 y4 y5
      unfold spec_l01DrawBytes.l0
      repeat' first
      | (with_reducible exact ih0 _ _ _ _ _ _)
      | (with_reducible exact LeO.refl _)
      | (with_reducible exact LeO.none _)
      | (with_reducible refine LeO.ite ?_ ?_)
      | (with_reducible refine LeO.bind ?_ (fun _ => ?_))
      | exact ih0 _ _ _ _ _ _
      | exact LeO.none _
      | refine LeO.ite ?_ ?_
      | refine LeO.bind ?_ (fun _ => ?_)
theorem spec_l01DrawBytes.mono : ∀ a0 a1 a2 a3 k, LeO (spec_l01DrawBytes.f k a0 a1 a2 a3) (spec_l01DrawBytes.f (k + 1) a0 a1 a2 a3) := by
  intro a0 a1 a2 a3 k
  have ih0 := spec_l01DrawBytes.mono_l k
  unfold spec_l01DrawBytes.f
  repeat' first
      | (with_reducible exact ih0 _ _ _ _ _ _)
      | (with_reducible exact LeO.refl _)
      | (with_reducible exact LeO.none _)
      | (with_reducible refine LeO.ite ?_ ?_)
      | (with_reducible refine LeO.bind ?_ (fun _ => ?_))
      | exact ih0 _ _ _ _ _ _
      | exact LeO.none _
      | refine LeO.ite ?_ ?_
      | refine LeO.bind ?_ (fun _ => ?_)
set_option maxHeartbeats 8000000 in
set_option maxRecDepth 100000 in
theorem spec_l01DrawBytes.calls (k : Nat) (g : Nat) (s0_0 : List Int) (s0_1 : Int) (s0_2 : Int) (a1 : Int) (r1 : List Int) (r2 : Int) (r3 : Int) (w0 w : World) (hI : IsS98 w0 w g s0_0 s0_1 s0_2) (hB : Below w0.heap.size w0 w) (h : spec_l01DrawBytes.f k s0_0 s0_1 s0_2 a1 = some (r1, r2, r3)) :
    Calls Try.prog 70 #[.pointer (some ⟨g, 0, none⟩), .int .i64 a1] w fun e w' => ∃ v0_ : Value, e = .returned (v0_) ∧ Kd.R (Kd.int .u8) 5 w' w.heap.size (fun _ => True) v0_ r1 ∧ IsS98 w0 w' g s0_0 r2 r3 ∧ Below w0.heap.size w0 w' ∧ KeepBut w w' g none := by
  have HI0 := Aside0.mk hI
  have HK := Aside0.mk (KeepBut.refl w g none)
  have HL := Aside0.mk hB.size
  clear hI
  have HW0 := Aside0.mk hB.size
  have HB := Aside0.mk hB
  clear hB
  have H : (spec_l01DrawBytes.l0 k a1 (([] : List Int)) 0 s0_0 s0_1 s0_2) = some (r1, r2, r3) := h
  clear h
  obtain ⟨y484, hy484⟩ : ∃ y_ : List Int, y_ = (([] : List Int)) := ⟨_, rfl⟩
  replace H : (spec_l01DrawBytes.l0 k a1 y484 0 s0_0 s0_1 s0_2) = some (r1, r2, r3) := by first | (rw [hy484]; with_reducible exact H) | (have H2_ := (Option.bind_some _ _).symm.trans H; rw [hy484]; with_reducible exact H2_) | (have H2_ := (Option.bind_some _ _).symm.trans H; with_reducible exact H2_) | with_reducible exact H | (rw [hy484]; exact H) | exact H
  have Ny484 := Aside0.mk hy484
  clear hy484
  have H' := Aside0.mk H
  clear H
  go_enter Try.func70, Try.ntmps70
  go_wp2_with (first | ((with_reducible refine gate_dst (N := 7) rfl ?_); refine Kd.R_lit (Kd.int .u8) _ 5 ?hg (N := 7) ?hd (xs := ([] : List Int)) (inner := []) (ok := fun _ => True) (okp := fun _ => True) ?hr ?hp (fun _ hk => hk) trivial (Below.refl _ _) (Nat.le_refl _) (by simp) ?_; (case hd => rfl); (case hg => rfl); (case hr => first | (go_simp; done) | (go_simp; rfl)); (case hp => exact (Reps.none _ _)); intro v485 w3 ho4 hb hg_ hnew_; clear hg_ hnew_; (first | rw [← Ny484.out] at ho4 | (simp only [Int.reduceToNat] at ho4; rw [← Ny484.out] at ho4)); have n0_ := Aside0.mk (Kd.R_lower ho4 (keep_size (w := w) (g := g) (row := none) (by repeat (first | (with_reducible first | exact HK.out | apply KeepBut.set_ | apply keep_drewN | apply keep_drew | apply keep_alloc) | exact HK.out)))); have n1_ := Aside0.mk (IsS98.below (by repeat (first | (with_reducible first | exact HI0.out | apply IsS98.alloc | apply IsS98.drewN | apply IsS98.drew | apply IsS98.set_1 | apply IsS98.set_2) | exact HI0.out)) hb); have n2_ := Aside0.mk (KeepBut.trans (by repeat (first | (with_reducible first | exact HK.out | apply KeepBut.set_ | apply keep_drewN | apply keep_drew | apply keep_alloc) | exact HK.out)) (KeepBut.of_below hb g none) (.inl rfl)); have n3_ := Aside0.mk (below_step (by repeat (first | (with_reducible first | exact HB.out | apply below_alloc | apply pw_below_drewN | apply below_drew1 | refine below_set ?_ (IsS98.ge HI0.out)) | exact HB.out)) hb); clear HI0; clear HK; clear HB; have HO486 := n0_; have HI0 := n1_; have HK := n2_; have HB := n3_; clear n0_ n1_ n2_ n3_; clear hb ho4))
  go_loopg [5, 6] k (fun kq v5 v6 w' => ∃ (x5_1 : List Int) (x6_1 : Int) (x1001_1 : Int) (x1002_1 : Int), v6 = .int .i64 x6_1 ∧ Aside0 (spec_l01DrawBytes.l0 kq a1 x5_1 x6_1 s0_0 x1001_1 x1002_1 = some (r1, r2, r3)) ∧ Aside0 (kq ≤ k) ∧ Aside0 (Kd.R (Kd.int .u8) 5 w' w.heap.size (fun _ => True) v5 x5_1) ∧ Aside0 (IsS98 w0 w' g s0_0 x1001_1 x1002_1) ∧ Aside0 (KeepBut w w' g none) ∧ Aside0 (Below w0.heap.size w0 w'))
  case atStart => exact ⟨(y484), (0), (s0_1), (s0_2), (by first | rfl | (simp; done) | (simp [*]; done)), H', ⟨Nat.le_refl _⟩, ⟨by (with_reducible repeat (first | apply Kd.R_alloc | apply Kd.R_drewN | apply Kd.R_drew)); exact HO486.out⟩, ⟨by repeat (first | (with_reducible first | exact HI0.out | apply IsS98.alloc | apply IsS98.drewN | apply IsS98.drew | apply IsS98.set_1 | apply IsS98.set_2) | exact HI0.out)⟩, ⟨by repeat (first | (with_reducible first | exact HK.out | apply KeepBut.set_ | apply keep_drewN | apply keep_drew | apply keep_alloc) | exact HK.out)⟩, ⟨by repeat (first | (with_reducible first | exact HB.out | apply below_alloc | apply pw_below_drewN | apply below_drew1 | refine below_set ?_ (IsS98.ge HI0.out)) | exact HB.out)⟩⟩
  case round =>
    clear H'
    try clear p2
    obtain ⟨x5_1, x6_1, x1001_1, x1002_1, rfl, HA, HK1, HO_5, HI0, HK, HB⟩ := hrel
    cases gk with
    | zero => exact absurd HA.out (by simp [spec_l01DrawBytes.l0])
    | succ k1 =>
      have H := HA.out
      clear HA
      simp only [spec_l01DrawBytes.l0] at H
      by_cases c5 : x6_1 < a1
      · rw [if_pos c5] at H
        have c5b0 : decide (x6_1 < a1) = true := decide_eq_true c5
        clear c5
        replace H := Option.bind_eq_some_iff.mp H
        obtain ⟨⟨t487, t488, t489⟩, A60, H⟩ := H
        replace H : ((spec_l01Below.f s0_0 t488 t489 256).bind fun bt490 => ((spec_l01PickInt.f s0_0 bt490.2.1 bt490.2.2 (([0, 1, 255, 128, t487, bt490.1] : List Int))).bind fun bt496 => (if x5_1.length < 140737488355328 then (spec_l01DrawBytes.l0 k1 a1 (x5_1 ++ [(bt496.1) % 256]) (wrap64 (x6_1 + 1)) s0_0 bt496.2.1 bt496.2.2) else (none)))) = some (r1, r2, r3) := H
        have A6 := Aside0.mk A60
        clear A60
        replace H := Option.bind_eq_some_iff.mp H
        obtain ⟨⟨t490, t491, t492⟩, A70, H⟩ := H
        replace H : ((spec_l01PickInt.f s0_0 t491 t492 (([0, 1, 255, 128, t487, t490] : List Int))).bind fun bt496 => (if x5_1.length < 140737488355328 then (spec_l01DrawBytes.l0 k1 a1 (x5_1 ++ [(bt496.1) % 256]) (wrap64 (x6_1 + 1)) s0_0 bt496.2.1 bt496.2.2) else (none))) = some (r1, r2, r3) := H
        have A7 := Aside0.mk A70
        clear A70
        obtain ⟨y493, hy493⟩ : ∃ y_ : List Int, y_ = (([0, 1, 255, 128, t487, t490] : List Int)) := ⟨_, rfl⟩
        replace H : ((spec_l01PickInt.f s0_0 t491 t492 y493).bind fun bt496 => (if x5_1.length < 140737488355328 then (spec_l01DrawBytes.l0 k1 a1 (x5_1 ++ [(bt496.1) % 256]) (wrap64 (x6_1 + 1)) s0_0 bt496.2.1 bt496.2.2) else (none))) = some (r1, r2, r3) := by first | (rw [hy493]; with_reducible exact H) | (have H2_ := (Option.bind_some _ _).symm.trans H; rw [hy493]; with_reducible exact H2_) | (have H2_ := (Option.bind_some _ _).symm.trans H; with_reducible exact H2_) | with_reducible exact H | (rw [hy493]; exact H) | exact H
        have Ny493 := Aside0.mk hy493
        clear hy493
        replace H := Option.bind_eq_some_iff.mp H
        obtain ⟨⟨t496, t497, t498⟩, A80, H⟩ := H
        replace H : (if x5_1.length < 140737488355328 then (spec_l01DrawBytes.l0 k1 a1 (x5_1 ++ [(t496) % 256]) (wrap64 (x6_1 + 1)) s0_0 t497 t498) else (none)) = some (r1, r2, r3) := H
        have A8 := Aside0.mk A80
        clear A80
        by_cases c9 : x5_1.length < 140737488355328
        · rw [if_pos c9] at H
          have LMc9 := Aside0.mk c9
          clear c9
          obtain ⟨y499, hy499⟩ : ∃ y_ : List Int, y_ = (x5_1 ++ [(t496) % 256]) := ⟨_, rfl⟩
          replace H : (spec_l01DrawBytes.l0 k1 a1 y499 (wrap64 (x6_1 + 1)) s0_0 t497 t498) = some (r1, r2, r3) := by first | (rw [hy499]; with_reducible exact H) | (have H2_ := (Option.bind_some _ _).symm.trans H; rw [hy499]; with_reducible exact H2_) | (have H2_ := (Option.bind_some _ _).symm.trans H; with_reducible exact H2_) | with_reducible exact H | (rw [hy499]; exact H) | exact H
          have Ny499 := Aside0.mk hy499
          clear hy499
          have H' := Aside0.mk H
          clear H
          go_wp2_with (first | ((with_reducible refine gate_callee (f := 71) rfl ?_); refine goesL_ (some 16) rfl rfl Try.func71 (by kernel_rfl) rfl #[.pointer (some ⟨g, 0, none⟩), .int .i64 256] rfl (by (try simp only [List.map_toArray, List.map_cons, List.map_nil]); first | done | rfl | (simp only [List.length_drop, List.length_take]; rfl)) ?_; (with_reducible refine (spec_l01Below.calls g s0_0 x1001_1 x1002_1 256 t487 t488 t489 w0 _ ?side1 ?side2 A6.out).mono ?_); (case side1 => repeat (first | (with_reducible first | exact HI0.out | apply IsS98.alloc | apply IsS98.drewN | apply IsS98.drew | apply IsS98.set_1 | apply IsS98.set_2) | exact HI0.out)); (case side2 => repeat (first | (with_reducible first | exact HB.out | apply below_alloc | apply pw_below_drewN | apply below_drew1 | refine below_set ?_ (IsS98.ge HI0.out)) | exact HB.out)); rintro e w10 ⟨rfl, hi, hb, hk⟩; refine ⟨_, rfl, ?_⟩; have n0_ := Aside0.mk (Kd.R_mono (Kd.R_keep (IsS98.apart (show IsS98 w0 _ g s0_0 x1001_1 x1002_1 from by repeat (first | (with_reducible first | exact HI0.out | apply IsS98.alloc | apply IsS98.drewN | apply IsS98.drew | apply IsS98.set_1 | apply IsS98.set_2) | exact HI0.out)) (by (with_reducible repeat (first | apply Kd.R_alloc | apply Kd.R_drewN | apply Kd.R_drew)); exact HO_5.out) (by decide)) hk (fun _ h => h.2)) (fun _ h => h.1)); have n1_ := Aside0.mk (KeepBut.trans (by repeat (first | (with_reducible first | exact HK.out | apply KeepBut.set_ | apply keep_drewN | apply keep_drew | apply keep_alloc) | exact HK.out)) hk (.inl rfl)); have n2_ := Aside0.mk (hb); have n3_ := Aside0.mk (hi); clear HO_5; clear HK; clear HB; clear HI0; have HO_5 := n0_; have HK := n1_; have HB := n2_; have HI0 := n3_; clear n0_ n1_ n2_ n3_; (try clear hb); (try clear hb2); (try clear hk); (try clear hi)) | ((with_reducible refine gate_callee (f := 71) rfl ?_); refine goesL_ (some 18) rfl rfl Try.func71 (by kernel_rfl) rfl #[.pointer (some ⟨g, 0, none⟩), .int .i64 256] rfl (by (try simp only [List.map_toArray, List.map_cons, List.map_nil]); first | done | rfl | (simp only [List.length_drop, List.length_take]; rfl)) ?_; (with_reducible refine (spec_l01Below.calls g s0_0 t488 t489 256 t490 t491 t492 w0 _ ?side1 ?side2 A7.out).mono ?_); (case side1 => repeat (first | (with_reducible first | exact HI0.out | apply IsS98.alloc | apply IsS98.drewN | apply IsS98.drew | apply IsS98.set_1 | apply IsS98.set_2) | exact HI0.out)); (case side2 => repeat (first | (with_reducible first | exact HB.out | apply below_alloc | apply pw_below_drewN | apply below_drew1 | refine below_set ?_ (IsS98.ge HI0.out)) | exact HB.out)); rintro e w11 ⟨rfl, hi, hb, hk⟩; refine ⟨_, rfl, ?_⟩; have n0_ := Aside0.mk (Kd.R_mono (Kd.R_keep (IsS98.apart (show IsS98 w0 _ g s0_0 t488 t489 from by repeat (first | (with_reducible first | exact HI0.out | apply IsS98.alloc | apply IsS98.drewN | apply IsS98.drew | apply IsS98.set_1 | apply IsS98.set_2) | exact HI0.out)) (by (with_reducible repeat (first | apply Kd.R_alloc | apply Kd.R_drewN | apply Kd.R_drew)); exact HO_5.out) (by decide)) hk (fun _ h => h.2)) (fun _ h => h.1)); have n1_ := Aside0.mk (KeepBut.trans (by repeat (first | (with_reducible first | exact HK.out | apply KeepBut.set_ | apply keep_drewN | apply keep_drew | apply keep_alloc) | exact HK.out)) hk (.inl rfl)); have n2_ := Aside0.mk (hb); have n3_ := Aside0.mk (hi); clear HO_5; clear HK; clear HB; clear HI0; have HO_5 := n0_; have HK := n1_; have HB := n2_; have HI0 := n3_; clear n0_ n1_ n2_ n3_; (try clear hb); (try clear hb2); (try clear hk); (try clear hi)) | ((with_reducible refine gate_dst (N := 19) rfl ?_); refine Kd.R_lit (Kd.int .i64) _ 3 ?hg (N := 19) ?hd (xs := ([0, 1, 255, 128, t487, t490] : List Int)) (inner := [.int .i64 0, .int .i64 1, .int .i64 255, .int .i64 128, .int .i64 t487, .int .i64 t490]) (ok := fun _ => True) (okp := fun _ => True) ?hr ?hp (fun _ hk => hk) trivial (Below.refl _ _) (Nat.le_refl _) (by simp) ?_; (case hd => rfl); (case hg => rfl); (case hr => first | (go_simp; done) | (go_simp; rfl)); (case hp => exact (Reps.one (show Kd.M (Kd.int .i64) _ _ _ 0 [.int .i64 0] from rfl) (Reps.one (show Kd.M (Kd.int .i64) _ _ _ 1 [.int .i64 1] from rfl) (Reps.one (show Kd.M (Kd.int .i64) _ _ _ 255 [.int .i64 255] from rfl) (Reps.one (show Kd.M (Kd.int .i64) _ _ _ 128 [.int .i64 128] from rfl) (Reps.one (show Kd.M (Kd.int .i64) _ _ _ t487 [.int .i64 t487] from rfl) (Reps.one (show Kd.M (Kd.int .i64) _ _ _ t490 [.int .i64 t490] from rfl) (Reps.none _ _)))))))); intro v494 w12 ho13 hb hg_ hnew_; clear hg_ hnew_; (first | rw [← Ny493.out] at ho13 | (simp only [Int.reduceToNat] at ho13; rw [← Ny493.out] at ho13)); have n0_ := Aside0.mk (Kd.R_below (by (with_reducible repeat (first | apply Kd.R_alloc | apply Kd.R_drewN | apply Kd.R_drew)); exact HO_5.out) hb); have n1_ := Aside0.mk (Kd.R_lower ho13 (keep_size (w := w) (g := g) (row := none) (by repeat (first | (with_reducible first | exact HK.out | apply KeepBut.set_ | apply keep_drewN | apply keep_drew | apply keep_alloc) | exact HK.out)))); have n2_ := Aside0.mk (IsS98.below (by repeat (first | (with_reducible first | exact HI0.out | apply IsS98.alloc | apply IsS98.drewN | apply IsS98.drew | apply IsS98.set_1 | apply IsS98.set_2) | exact HI0.out)) hb); have n3_ := Aside0.mk (KeepBut.trans (by repeat (first | (with_reducible first | exact HK.out | apply KeepBut.set_ | apply keep_drewN | apply keep_drew | apply keep_alloc) | exact HK.out)) (KeepBut.of_below hb g none) (.inl rfl)); have n4_ := Aside0.mk (below_step (by repeat (first | (with_reducible first | exact HB.out | apply below_alloc | apply pw_below_drewN | apply below_drew1 | refine below_set ?_ (IsS98.ge HI0.out)) | exact HB.out)) hb); clear HO_5; clear HI0; clear HK; clear HB; have HO_5 := n0_; have HO495 := n1_; have HI0 := n2_; have HK := n3_; have HB := n4_; clear n0_ n1_ n2_ n3_ n4_; clear hb ho13; obtain ⟨Ao14, co14, eo14⟩ := Kd.R_slice HO495.out; subst eo14) | ((with_reducible refine gate_callee (f := 107) rfl ?_); refine goesL_ (some 20) rfl rfl Try.func107 (by kernel_rfl) rfl #[.pointer (some ⟨g, 0, none⟩), .slice Ao14 y493.length co14] rfl (by (try simp only [List.map_toArray, List.map_cons, List.map_nil]); first | done | rfl | (simp only [List.length_drop, List.length_take]; rfl)) ?_; (with_reducible refine (spec_l01PickInt.calls g s0_0 t491 t492 _ _ y493 t496 t497 t498 w0 _ ?side1 ?side2 ?side3 ?side4 ?side5 A8.out).mono ?_); (case side1 => repeat (first | (with_reducible first | exact HI0.out | apply IsS98.alloc | apply IsS98.drewN | apply IsS98.drew | apply IsS98.set_1 | apply IsS98.set_2) | exact HI0.out)); (case side2 => repeat (first | (with_reducible first | exact HB.out | apply below_alloc | apply pw_below_drewN | apply below_drew1 | refine below_set ?_ (IsS98.ge HI0.out)) | exact HB.out)); (case side3 => repeat (first | exact (Kd.R_reads' HO495.out).2.2 | (with_reducible refine Kd.C_alloc ?_ _) | (with_reducible refine Kd.C_drewN ?_ _) | (with_reducible refine Kd.C_drew ?_))); (case side4 => exact (Kd.R_reads' HO495.out).2.1); (case side5 => exact far_slice (IsS98.own_ne HI0.out HO495.out (by decide))); rintro e w15 ⟨rfl, hi, hb, hk⟩; refine ⟨_, rfl, ?_⟩; have n0_ := Aside0.mk (Kd.R_mono (Kd.R_keep (IsS98.apart (show IsS98 w0 _ g s0_0 t491 t492 from by repeat (first | (with_reducible first | exact HI0.out | apply IsS98.alloc | apply IsS98.drewN | apply IsS98.drew | apply IsS98.set_1 | apply IsS98.set_2) | exact HI0.out)) (by (with_reducible repeat (first | apply Kd.R_alloc | apply Kd.R_drewN | apply Kd.R_drew)); exact HO_5.out) (by decide)) hk (fun _ h => h.2)) (fun _ h => h.1)); have n1_ := Aside0.mk (Kd.R_mono (Kd.R_keep (IsS98.apart (show IsS98 w0 _ g s0_0 t491 t492 from by repeat (first | (with_reducible first | exact HI0.out | apply IsS98.alloc | apply IsS98.drewN | apply IsS98.drew | apply IsS98.set_1 | apply IsS98.set_2) | exact HI0.out)) (by (with_reducible repeat (first | apply Kd.R_alloc | apply Kd.R_drewN | apply Kd.R_drew)); exact HO495.out) (by decide)) hk (fun _ h => h.2)) (fun _ h => h.1)); have n2_ := Aside0.mk (KeepBut.trans (by repeat (first | (with_reducible first | exact HK.out | apply KeepBut.set_ | apply keep_drewN | apply keep_drew | apply keep_alloc) | exact HK.out)) hk (.inl rfl)); have n3_ := Aside0.mk (hb); have n4_ := Aside0.mk (hi); clear HO_5; clear HO495; clear HK; clear HB; clear HI0; have HO_5 := n0_; have HO495 := n1_; have HK := n2_; have HB := n3_; have HI0 := n4_; clear n0_ n1_ n2_ n3_ n4_; (try clear hb); (try clear hb2); (try clear hk); (try clear hi)) | ((with_reducible refine gate_builtin (b := .append) (xs := #[.tmp 13, .tmp 22]) rfl ?_); at_builtin; refine Kd.R_append (Kd.int .u8) w.heap.size rfl (.tmp 13) (.tmp 22) 27 5 (.int .u8 0) 1 rfl Try.underlying27 info5 rfl (by decide) (by omega) u5 x5_1 ((t496) % 256) [.int .u8 ((t496) % 256)] (fun _ => True) (fun _ => False) rfl rfl ?aP (fun _ hk => hk.elim) ?aF ?aO (Below.refl _ _) ?aS ?aL ?_; (case aP => exact rfl); (case aF => exact (fun _ _ => trivial)); (case aO => exact (by (with_reducible repeat (first | apply Kd.R_alloc | apply Kd.R_drewN | apply Kd.R_drew)); exact HO_5.out)); (case aS => exact (keep_size (w := w) (g := g) (row := none) (by repeat (first | (with_reducible first | exact HK.out | apply KeepBut.set_ | apply keep_drewN | apply keep_drew | apply keep_alloc) | exact HK.out)))); (case aL => have := LMc9.out; omega); intro v500 w16 ho hb hg hat; rw [← Ny499.out] at ho; have n0_ := Aside0.mk (IsS98.grown (by repeat (first | (with_reducible first | exact HI0.out | apply IsS98.alloc | apply IsS98.drewN | apply IsS98.drew | apply IsS98.set_1 | apply IsS98.set_2) | exact HI0.out)) hg (IsS98.own_ne HI0.out HO_5.out (by decide))); have n1_ := Aside0.mk (Kd.R_over' (by (with_reducible repeat (first | apply Kd.R_alloc | apply Kd.R_drewN | apply Kd.R_drew)); exact HO495.out) (Kd.R_typed (by (with_reducible repeat (first | apply Kd.R_alloc | apply Kd.R_drewN | apply Kd.R_drew)); exact HO_5.out)) (by decide) hg); have n2_ := Aside0.mk (below_weaken (by repeat (first | (with_reducible first | exact HB.out | apply below_alloc | apply pw_below_drewN | apply below_drew1 | refine below_set ?_ (IsS98.ge HI0.out)) | exact HB.out)) HL.out hb); have n3_ := Aside0.mk (KeepBut.trans (by repeat (first | (with_reducible first | exact HK.out | apply KeepBut.set_ | apply keep_drewN | apply keep_drew | apply keep_alloc) | exact HK.out)) (KeepBut.of_grown hg g) (Kd.R_base2 HO_5.out)); have n4_ := Aside0.mk (ho); clear HI0; clear HO495; clear HB; clear HK; clear HO_5; have HI0 := n0_; have HO495 := n1_; have HB := n2_; have HK := n3_; have HO501 := n4_; clear n0_ n1_ n2_ n3_ n4_; clear ho hb hg hat))
          go_roundg k1
          case measure => have := HK1.out; omega
          case rel => exact ⟨(y499), (wrap64 (x6_1 + 1)), (t497), (t498), (by first | rfl | (simp; done) | (simp [*]; done)), H', ⟨by have := HK1.out; omega⟩, ⟨by (with_reducible repeat (first | apply Kd.R_alloc | apply Kd.R_drewN | apply Kd.R_drew)); exact HO501.out⟩, ⟨by repeat (first | (with_reducible first | exact HI0.out | apply IsS98.alloc | apply IsS98.drewN | apply IsS98.drew | apply IsS98.set_1 | apply IsS98.set_2) | exact HI0.out)⟩, ⟨by repeat (first | (with_reducible first | exact HK.out | apply KeepBut.set_ | apply keep_drewN | apply keep_drew | apply keep_alloc) | exact HK.out)⟩, ⟨by repeat (first | (with_reducible first | exact HB.out | apply below_alloc | apply pw_below_drewN | apply below_drew1 | refine below_set ?_ (IsS98.ge HI0.out)) | exact HB.out)⟩⟩
        · rw [if_neg c9] at H
          exact absurd H (by simp)
      · rw [if_neg c5] at H
        have c5b0 : decide (x6_1 < a1) = false := decide_eq_false c5
        clear c5
        simp only [Option.some.injEq, Prod.mk.injEq] at H
        obtain ⟨rfl, rfl, rfl⟩ := H
        go_wp2
        go_ret
        exact ⟨_, by first | rfl | (simp [errW_none, errW_some] <;> rfl) | (simp [*, errW_none, errW_some] <;> rfl), by (with_reducible repeat (first | apply Kd.R_alloc | apply Kd.R_drewN | apply Kd.R_drew)); exact HO_5.out, by repeat (first | (with_reducible first | exact HI0.out | apply IsS98.alloc | apply IsS98.drewN | apply IsS98.drew | apply IsS98.set_1 | apply IsS98.set_2) | exact HI0.out), by repeat (first | (with_reducible first | exact HB.out | apply below_alloc | apply pw_below_drewN | apply below_drew1 | refine below_set ?_ (IsS98.ge HI0.out)) | exact HB.out), by repeat (first | (with_reducible first | exact HK.out | apply KeepBut.set_ | apply keep_drewN | apply keep_drew | apply keep_alloc) | exact HK.out)⟩

/-! ### spec_DrawFrame: function 28 -/
def spec_DrawFrame.f (k : Nat) (l0 : List Int) : Option (List Int) := (spec_l01New.f k l0).bind fun bt502 => ((spec_l01Below.f bt502.1 bt502.2.1 bt502.2.2 60).bind fun bt506 => ((spec_l01DrawBytes.f k bt502.1 bt506.2.1 bt506.2.2 bt506.1).bind fun bt509 => ((spec_l01Once.f bt502.1 bt509.2.1 bt509.2.2 40).bind fun bt514 => (if bt514.1 = true then ((spec_l01Below.f bt502.1 bt514.2.1 bt514.2.2 2).bind fun bt517 => (if 0 ≤ (wrap64 (4000 + bt517.1)) then (if (wrap64 (4000 + bt517.1) : Int).toNat ≤ 281474976710656 then (some (List.replicate (wrap64 (4000 + bt517.1) : Int).toNat 0)) else (none)) else (none))) else (some bt509.1)))))
theorem spec_DrawFrame.mono : ∀ a0 k, LeO (spec_DrawFrame.f k a0) (spec_DrawFrame.f (k + 1) a0) := by
  intro a0 k
  unfold spec_DrawFrame.f
  repeat' first
      | (with_reducible exact spec_l01DrawBytes.mono _ _ _ _ _)
      | (with_reducible exact spec_l01New.mono _ _)
      | (with_reducible exact LeO.refl _)
      | (with_reducible exact LeO.none _)
      | (with_reducible refine LeO.ite ?_ ?_)
      | (with_reducible refine LeO.bind ?_ (fun _ => ?_))
      | exact spec_l01DrawBytes.mono _ _ _ _ _
      | exact spec_l01New.mono _ _
      | exact LeO.none _
      | refine LeO.ite ?_ ?_
      | refine LeO.bind ?_ (fun _ => ?_)
set_option maxHeartbeats 8000000 in
set_option maxRecDepth 100000 in
theorem spec_DrawFrame.calls (k : Nat) (A0 : Option Addr) (c0 : Nat) (l0 : List Int) (r : List Int) (w : World) (hr0 : Kd.C (Kd.int .u8) w A0 l0.length l0) (hc0 : l0.length ≤ c0) (h : spec_DrawFrame.f k l0 = some r) :
    Calls Try.prog 28 #[.slice A0 l0.length c0] w fun e w' => ∃ v0_ : Value, e = .returned (v0_) ∧ Kd.R (Kd.int .u8) 5 w' w.heap.size (fun _ => True) v0_ r ∧ Below w.heap.size w w' := by
  have HR0 := Aside0.mk hr0
  have HC0 := Aside0.mk hc0
  clear hr0 hc0
  have HB := Aside0.mk (Below.refl w.heap.size w)
  have H : ((spec_l01New.f k l0).bind fun bt502 => ((spec_l01Below.f bt502.1 bt502.2.1 bt502.2.2 60).bind fun bt506 => ((spec_l01DrawBytes.f k bt502.1 bt506.2.1 bt506.2.2 bt506.1).bind fun bt509 => ((spec_l01Once.f bt502.1 bt509.2.1 bt509.2.2 40).bind fun bt514 => (if bt514.1 = true then ((spec_l01Below.f bt502.1 bt514.2.1 bt514.2.2 2).bind fun bt517 => (if 0 ≤ (wrap64 (4000 + bt517.1)) then (if (wrap64 (4000 + bt517.1) : Int).toNat ≤ 281474976710656 then (some (List.replicate (wrap64 (4000 + bt517.1) : Int).toNat 0)) else (none)) else (none))) else (some bt509.1)))))) = some r := h
  clear h
  replace H := Option.bind_eq_some_iff.mp H
  obtain ⟨⟨t502, t503, t504⟩, A20, H⟩ := H
  replace H : ((spec_l01Below.f t502 t503 t504 60).bind fun bt506 => ((spec_l01DrawBytes.f k t502 bt506.2.1 bt506.2.2 bt506.1).bind fun bt509 => ((spec_l01Once.f t502 bt509.2.1 bt509.2.2 40).bind fun bt514 => (if bt514.1 = true then ((spec_l01Below.f t502 bt514.2.1 bt514.2.2 2).bind fun bt517 => (if 0 ≤ (wrap64 (4000 + bt517.1)) then (if (wrap64 (4000 + bt517.1) : Int).toNat ≤ 281474976710656 then (some (List.replicate (wrap64 (4000 + bt517.1) : Int).toNat 0)) else (none)) else (none))) else (some bt509.1))))) = some r := H
  have A2 := Aside0.mk A20
  clear A20
  replace H := Option.bind_eq_some_iff.mp H
  obtain ⟨⟨t506, t507, t508⟩, A30, H⟩ := H
  replace H : ((spec_l01DrawBytes.f k t502 t507 t508 t506).bind fun bt509 => ((spec_l01Once.f t502 bt509.2.1 bt509.2.2 40).bind fun bt514 => (if bt514.1 = true then ((spec_l01Below.f t502 bt514.2.1 bt514.2.2 2).bind fun bt517 => (if 0 ≤ (wrap64 (4000 + bt517.1)) then (if (wrap64 (4000 + bt517.1) : Int).toNat ≤ 281474976710656 then (some (List.replicate (wrap64 (4000 + bt517.1) : Int).toNat 0)) else (none)) else (none))) else (some bt509.1)))) = some r := H
  have A3 := Aside0.mk A30
  clear A30
  replace H := Option.bind_eq_some_iff.mp H
  obtain ⟨⟨t509, t512, t513⟩, A40, H⟩ := H
  replace H : ((spec_l01Once.f t502 t512 t513 40).bind fun bt514 => (if bt514.1 = true then ((spec_l01Below.f t502 bt514.2.1 bt514.2.2 2).bind fun bt517 => (if 0 ≤ (wrap64 (4000 + bt517.1)) then (if (wrap64 (4000 + bt517.1) : Int).toNat ≤ 281474976710656 then (some (List.replicate (wrap64 (4000 + bt517.1) : Int).toNat 0)) else (none)) else (none))) else (some t509))) = some r := H
  have A4 := Aside0.mk A40
  clear A40
  replace H := Option.bind_eq_some_iff.mp H
  obtain ⟨⟨t514, t515, t516⟩, A50, H⟩ := H
  replace H : (if t514 = true then ((spec_l01Below.f t502 t515 t516 2).bind fun bt517 => (if 0 ≤ (wrap64 (4000 + bt517.1)) then (if (wrap64 (4000 + bt517.1) : Int).toNat ≤ 281474976710656 then (some (List.replicate (wrap64 (4000 + bt517.1) : Int).toNat 0)) else (none)) else (none))) else (some t509)) = some r := H
  have A5 := Aside0.mk A50
  clear A50
  by_cases c6 : t514 = true
  · subst c6
    have H1 : ((spec_l01Below.f t502 t515 t516 2).bind fun bt517 => (if 0 ≤ (wrap64 (4000 + bt517.1)) then (if (wrap64 (4000 + bt517.1) : Int).toNat ≤ 281474976710656 then (some (List.replicate (wrap64 (4000 + bt517.1) : Int).toNat 0)) else (none)) else (none))) = some r := by rw [if_pos rfl] at H; exact H
    clear H
    have H := H1
    clear H1
    replace H := Option.bind_eq_some_iff.mp H
    obtain ⟨⟨t517, t518, t519⟩, A70, H⟩ := H
    replace H : (if 0 ≤ (wrap64 (4000 + t517)) then (if (wrap64 (4000 + t517) : Int).toNat ≤ 281474976710656 then (some (List.replicate (wrap64 (4000 + t517) : Int).toNat 0)) else (none)) else (none)) = some r := H
    have A7 := Aside0.mk A70
    clear A70
    obtain ⟨ji8, hji8⟩ : ∃ j_ : Int, (wrap64 (4000 + t517)) = j_ := ⟨_, rfl⟩
    replace H : (if 0 ≤ (ji8) then (if (ji8 : Int).toNat ≤ 281474976710656 then (some (List.replicate (ji8 : Int).toNat 0)) else (none)) else (none)) = some r := by first | (rw [hji8] at H; exact H) | (simp only [hji8] at H ⊢; exact H)
    (try rw [hji8] at A2)
    (try rw [hji8] at A3)
    (try rw [hji8] at A4)
    (try rw [hji8] at A5)
    (try rw [hji8] at A7)
    have hji8w : (IntKind.i64.wrap (4000 + t517)) = ji8 := (i64_w _).trans hji8
    by_cases c9 : 0 ≤ (ji8)
    · rw [if_pos c9] at H
      have c9b0 := eq_true c9
      have c9b1 : decide (0 ≤ (ji8)) = true := decide_eq_true c9
      clear c9
      by_cases c10 : (ji8 : Int).toNat ≤ 281474976710656
      · rw [if_pos c10] at H
        have c10b0 := eq_true c10
        have c10b1 : decide ((ji8 : Int).toNat ≤ 281474976710656) = true := decide_eq_true c10
        clear c10
        obtain ⟨y520, hy520⟩ : ∃ y_ : List Int, y_ = (List.replicate (ji8 : Int).toNat 0) := ⟨_, rfl⟩
        replace H : (some y520) = some r := by first | (rw [hy520]; with_reducible exact H) | (have H2_ := (Option.bind_some _ _).symm.trans H; rw [hy520]; with_reducible exact H2_) | (have H2_ := (Option.bind_some _ _).symm.trans H; with_reducible exact H2_) | with_reducible exact H | (rw [hy520]; exact H) | exact H
        have Ny520 := Aside0.mk hy520
        clear hy520
        obtain rfl := Option.some.inj H
        go_enter Try.func28, Try.ntmps28
        go_wp2_with (first | ((with_reducible refine gate_callee (f := 59) rfl ?_); refine goesL_ (some 6) rfl rfl Try.func59 (by kernel_rfl) rfl #[.slice A0 l0.length c0] rfl (by (try simp only [List.map_toArray, List.map_cons, List.map_nil]); first | done | rfl | (simp only [List.length_drop, List.length_take]; rfl)) ?_; (with_reducible refine (spec_l01New.calls k _ _ l0 t502 t503 t504 w _ ?side1 ?side2 ?side3 A2.out).mono ?_); (case side1 => repeat (first | (with_reducible first | exact HB.out | apply below_alloc | apply pw_below_drewN | apply below_drew1) | exact HB.out)); (case side2 => exact HR0.out); (case side3 => exact HC0.out); rintro e w11 ⟨g505, rfl, hi, hb, hb2⟩; refine ⟨_, rfl, ?_⟩; have n0_ := Aside0.mk (hb); have n1_ := Aside0.mk (hi); clear HB; have HB := n0_; have HI505 := n1_; clear n0_ n1_; (try clear hb); (try clear hb2); (try clear hk); (try clear hi)) | ((with_reducible refine gate_callee (f := 71) rfl ?_); refine goesL_ (some 9) rfl rfl Try.func71 (by kernel_rfl) rfl #[.pointer (some ⟨g505, 0, none⟩), .int .i64 60] rfl (by (try simp only [List.map_toArray, List.map_cons, List.map_nil]); first | done | rfl | (simp only [List.length_drop, List.length_take]; rfl)) ?_; (with_reducible refine (spec_l01Below.calls g505 t502 t503 t504 60 t506 t507 t508 w _ ?side1 ?side2 A3.out).mono ?_); (case side1 => repeat (first | (with_reducible first | exact HI505.out | apply IsS98.alloc | apply IsS98.drewN | apply IsS98.drew | apply IsS98.set_1 | apply IsS98.set_2) | exact HI505.out)); (case side2 => repeat (first | (with_reducible first | exact HB.out | apply below_alloc | apply pw_below_drewN | apply below_drew1 | refine below_set ?_ (IsS98.ge HI505.out)) | exact HB.out)); rintro e w12 ⟨rfl, hi, hb, hk⟩; refine ⟨_, rfl, ?_⟩; have n0_ := Aside0.mk (hb); have n1_ := Aside0.mk (hi); clear HB; clear HI505; have HB := n0_; have HI505 := n1_; clear n0_ n1_; (try clear hb); (try clear hb2); (try clear hk); (try clear hi)) | ((with_reducible refine gate_callee (f := 70) rfl ?_); refine goesL_ (some 10) rfl rfl Try.func70 (by kernel_rfl) rfl #[.pointer (some ⟨g505, 0, none⟩), .int .i64 t506] rfl (by (try simp only [List.map_toArray, List.map_cons, List.map_nil]); first | done | rfl | (simp only [List.length_drop, List.length_take]; rfl)) ?_; (with_reducible refine (spec_l01DrawBytes.calls k g505 t502 t507 t508 t506 t509 t512 t513 w _ ?side1 ?side2 A4.out).mono ?_); (case side1 => repeat (first | (with_reducible first | exact HI505.out | apply IsS98.alloc | apply IsS98.drewN | apply IsS98.drew | apply IsS98.set_1 | apply IsS98.set_2) | exact HI505.out)); (case side2 => repeat (first | (with_reducible first | exact HB.out | apply below_alloc | apply pw_below_drewN | apply below_drew1 | refine below_set ?_ (IsS98.ge HI505.out)) | exact HB.out)); rintro e w13 ⟨v510, rfl, ho0, hi, hb, hk⟩; refine ⟨_, rfl, ?_⟩; have n0_ := Aside0.mk (Kd.R_lower ho0 (below_size (by repeat (first | (with_reducible first | exact HB.out | apply below_alloc | apply pw_below_drewN | apply below_drew1 | refine below_set ?_ (IsS98.ge HI505.out)) | exact HB.out)))); have n1_ := Aside0.mk (hb); have n2_ := Aside0.mk (hi); clear HB; clear HI505; have HO511 := n0_; have HB := n1_; have HI505 := n2_; clear n0_ n1_ n2_; (try clear hb); (try clear hb2); (try clear hk); (try clear hi); (try clear ho0)) | ((with_reducible refine gate_callee (f := 72) rfl ?_); refine goesL_ (some 12) rfl rfl Try.func72 (by kernel_rfl) rfl #[.pointer (some ⟨g505, 0, none⟩), .int .i64 40] rfl (by (try simp only [List.map_toArray, List.map_cons, List.map_nil]); first | done | rfl | (simp only [List.length_drop, List.length_take]; rfl)) ?_; (with_reducible refine (spec_l01Once.calls g505 t502 t512 t513 40 true t515 t516 w _ ?side1 ?side2 A5.out).mono ?_); (case side1 => repeat (first | (with_reducible first | exact HI505.out | apply IsS98.alloc | apply IsS98.drewN | apply IsS98.drew | apply IsS98.set_1 | apply IsS98.set_2) | exact HI505.out)); (case side2 => repeat (first | (with_reducible first | exact HB.out | apply below_alloc | apply pw_below_drewN | apply below_drew1 | refine below_set ?_ (IsS98.ge HI505.out)) | exact HB.out)); rintro e w14 ⟨rfl, hi, hb, hk⟩; refine ⟨_, rfl, ?_⟩; have n0_ := Aside0.mk (Kd.R_mono (Kd.R_keep (IsS98.apart (show IsS98 w _ g505 t502 t512 t513 from by repeat (first | (with_reducible first | exact HI505.out | apply IsS98.alloc | apply IsS98.drewN | apply IsS98.drew | apply IsS98.set_1 | apply IsS98.set_2) | exact HI505.out)) (by (with_reducible repeat (first | apply Kd.R_alloc | apply Kd.R_drewN | apply Kd.R_drew)); exact HO511.out) (by decide)) hk (fun _ h => h.2)) (fun _ h => h.1)); have n1_ := Aside0.mk (hb); have n2_ := Aside0.mk (hi); clear HO511; clear HB; clear HI505; have HO511 := n0_; have HB := n1_; have HI505 := n2_; clear n0_ n1_ n2_; (try clear hb); (try clear hb2); (try clear hk); (try clear hi)) | ((with_reducible refine gate_callee (f := 71) rfl ?_); refine goesL_ (some 14) rfl rfl Try.func71 (by kernel_rfl) rfl #[.pointer (some ⟨g505, 0, none⟩), .int .i64 2] rfl (by (try simp only [List.map_toArray, List.map_cons, List.map_nil]); first | done | rfl | (simp only [List.length_drop, List.length_take]; rfl)) ?_; (with_reducible refine (spec_l01Below.calls g505 t502 t515 t516 2 t517 t518 t519 w _ ?side1 ?side2 A7.out).mono ?_); (case side1 => repeat (first | (with_reducible first | exact HI505.out | apply IsS98.alloc | apply IsS98.drewN | apply IsS98.drew | apply IsS98.set_1 | apply IsS98.set_2) | exact HI505.out)); (case side2 => repeat (first | (with_reducible first | exact HB.out | apply below_alloc | apply pw_below_drewN | apply below_drew1 | refine below_set ?_ (IsS98.ge HI505.out)) | exact HB.out)); rintro e w15 ⟨rfl, hi, hb, hk⟩; refine ⟨_, rfl, ?_⟩; have n0_ := Aside0.mk (Kd.R_mono (Kd.R_keep (IsS98.apart (show IsS98 w _ g505 t502 t515 t516 from by repeat (first | (with_reducible first | exact HI505.out | apply IsS98.alloc | apply IsS98.drewN | apply IsS98.drew | apply IsS98.set_1 | apply IsS98.set_2) | exact HI505.out)) (by (with_reducible repeat (first | apply Kd.R_alloc | apply Kd.R_drewN | apply Kd.R_drew)); exact HO511.out) (by decide)) hk (fun _ h => h.2)) (fun _ h => h.1)); have n1_ := Aside0.mk (hb); have n2_ := Aside0.mk (hi); clear HO511; clear HB; clear HI505; have HO511 := n0_; have HB := n1_; have HI505 := n2_; clear n0_ n1_ n2_; (try clear hb); (try clear hb2); (try clear hk); (try clear hi)) | ((with_reducible refine gate_dst (N := 16) rfl ?_); refine Kd.R_make (Kd.int .u8) _ 5 rfl (N := 16) rfl 27 _ _ rfl ji8 rfl rfl Try.underlying27 (.int .u8 0) 1 info5 rfl (by decide) (by omega) 0 (ok := fun _ => True) (okp := fun _ => True) rfl (fun _ hk => hk) trivial (of_decide_eq_true (by first | (with_reducible assumption) | assumption)) (Nat.le_trans (Nat.mul_le_mul_right _ (of_decide_eq_true (by first | (with_reducible assumption) | assumption) : ji8.toNat ≤ 281474976710656)) (by omega)) (Below.refl _ _) (Nat.le_refl _) ?_; intro v521 w16 ho17 hb hg_ hnew_; clear hg_ hnew_; (first | rw [← Ny520.out] at ho17 | (simp only [Int.reduceToNat] at ho17; rw [← Ny520.out] at ho17)); have n0_ := Aside0.mk (Kd.R_elder' (by (with_reducible repeat (first | apply Kd.R_alloc | apply Kd.R_drewN | apply Kd.R_drew)); exact HO511.out) (Kd.R_base ho17) hb); have n1_ := Aside0.mk (Kd.R_lower (Kd.R_new' ho17 (Kd.R_lt (by (with_reducible repeat (first | apply Kd.R_alloc | apply Kd.R_drewN | apply Kd.R_drew)); exact HO511.out))) (below_size (by repeat (first | (with_reducible first | exact HB.out | apply below_alloc | apply pw_below_drewN | apply below_drew1 | refine below_set ?_ (IsS98.ge HI505.out)) | exact HB.out)))); have n2_ := Aside0.mk (IsS98.below (by repeat (first | (with_reducible first | exact HI505.out | apply IsS98.alloc | apply IsS98.drewN | apply IsS98.drew | apply IsS98.set_1 | apply IsS98.set_2) | exact HI505.out)) hb); have n3_ := Aside0.mk (below_step (by repeat (first | (with_reducible first | exact HB.out | apply below_alloc | apply pw_below_drewN | apply below_drew1 | refine below_set ?_ (IsS98.ge HI505.out)) | exact HB.out)) hb); clear HO511; clear HI505; clear HB; have HO511 := n0_; have HO522 := n1_; have HI505 := n2_; have HB := n3_; clear n0_ n1_ n2_ n3_; clear hb ho17))
        go_ret
        exact ⟨_, by first | rfl | (simp [errW_none, errW_some] <;> rfl) | (simp only [← hji8]; first | rfl | (simp [errW_none, errW_some] <;> rfl)) | (simp [*, errW_none, errW_some] <;> rfl), by (with_reducible repeat (first | apply Kd.R_alloc | apply Kd.R_drewN | apply Kd.R_drew)); exact Kd.R_mono HO522.out (fun _ hk => trivial), by repeat (first | (with_reducible first | exact HB.out | apply below_alloc | apply pw_below_drewN | apply below_drew1 | refine below_set ?_ (IsS98.ge HI505.out)) | exact HB.out)⟩
      · rw [if_neg c10] at H
        exact absurd H (by simp)
    · rw [if_neg c9] at H
      exact absurd H (by simp)
  · replace c6 := Bool.eq_false_iff.mpr c6
    subst c6
    have H1 : (some t509) = some r := by rw [if_neg (show ¬ (false = true) by decide)] at H; exact H
    clear H
    have H := H1
    clear H1
    obtain rfl := Option.some.inj H
    go_enter Try.func28, Try.ntmps28
    go_wp2_with (first | ((with_reducible refine gate_callee (f := 59) rfl ?_); refine goesL_ (some 6) rfl rfl Try.func59 (by kernel_rfl) rfl #[.slice A0 l0.length c0] rfl (by (try simp only [List.map_toArray, List.map_cons, List.map_nil]); first | done | rfl | (simp only [List.length_drop, List.length_take]; rfl)) ?_; (with_reducible refine (spec_l01New.calls k _ _ l0 t502 t503 t504 w _ ?side1 ?side2 ?side3 A2.out).mono ?_); (case side1 => repeat (first | (with_reducible first | exact HB.out | apply below_alloc | apply pw_below_drewN | apply below_drew1) | exact HB.out)); (case side2 => exact HR0.out); (case side3 => exact HC0.out); rintro e w18 ⟨g505, rfl, hi, hb, hb2⟩; refine ⟨_, rfl, ?_⟩; have n0_ := Aside0.mk (hb); have n1_ := Aside0.mk (hi); clear HB; have HB := n0_; have HI505 := n1_; clear n0_ n1_; (try clear hb); (try clear hb2); (try clear hk); (try clear hi)) | ((with_reducible refine gate_callee (f := 71) rfl ?_); refine goesL_ (some 9) rfl rfl Try.func71 (by kernel_rfl) rfl #[.pointer (some ⟨g505, 0, none⟩), .int .i64 60] rfl (by (try simp only [List.map_toArray, List.map_cons, List.map_nil]); first | done | rfl | (simp only [List.length_drop, List.length_take]; rfl)) ?_; (with_reducible refine (spec_l01Below.calls g505 t502 t503 t504 60 t506 t507 t508 w _ ?side1 ?side2 A3.out).mono ?_); (case side1 => repeat (first | (with_reducible first | exact HI505.out | apply IsS98.alloc | apply IsS98.drewN | apply IsS98.drew | apply IsS98.set_1 | apply IsS98.set_2) | exact HI505.out)); (case side2 => repeat (first | (with_reducible first | exact HB.out | apply below_alloc | apply pw_below_drewN | apply below_drew1 | refine below_set ?_ (IsS98.ge HI505.out)) | exact HB.out)); rintro e w19 ⟨rfl, hi, hb, hk⟩; refine ⟨_, rfl, ?_⟩; have n0_ := Aside0.mk (hb); have n1_ := Aside0.mk (hi); clear HB; clear HI505; have HB := n0_; have HI505 := n1_; clear n0_ n1_; (try clear hb); (try clear hb2); (try clear hk); (try clear hi)) | ((with_reducible refine gate_callee (f := 70) rfl ?_); refine goesL_ (some 10) rfl rfl Try.func70 (by kernel_rfl) rfl #[.pointer (some ⟨g505, 0, none⟩), .int .i64 t506] rfl (by (try simp only [List.map_toArray, List.map_cons, List.map_nil]); first | done | rfl | (simp only [List.length_drop, List.length_take]; rfl)) ?_; (with_reducible refine (spec_l01DrawBytes.calls k g505 t502 t507 t508 t506 t509 t512 t513 w _ ?side1 ?side2 A4.out).mono ?_); (case side1 => repeat (first | (with_reducible first | exact HI505.out | apply IsS98.alloc | apply IsS98.drewN | apply IsS98.drew | apply IsS98.set_1 | apply IsS98.set_2) | exact HI505.out)); (case side2 => repeat (first | (with_reducible first | exact HB.out | apply below_alloc | apply pw_below_drewN | apply below_drew1 | refine below_set ?_ (IsS98.ge HI505.out)) | exact HB.out)); rintro e w20 ⟨v510, rfl, ho0, hi, hb, hk⟩; refine ⟨_, rfl, ?_⟩; have n0_ := Aside0.mk (Kd.R_lower ho0 (below_size (by repeat (first | (with_reducible first | exact HB.out | apply below_alloc | apply pw_below_drewN | apply below_drew1 | refine below_set ?_ (IsS98.ge HI505.out)) | exact HB.out)))); have n1_ := Aside0.mk (hb); have n2_ := Aside0.mk (hi); clear HB; clear HI505; have HO511 := n0_; have HB := n1_; have HI505 := n2_; clear n0_ n1_ n2_; (try clear hb); (try clear hb2); (try clear hk); (try clear hi); (try clear ho0)) | ((with_reducible refine gate_callee (f := 72) rfl ?_); refine goesL_ (some 12) rfl rfl Try.func72 (by kernel_rfl) rfl #[.pointer (some ⟨g505, 0, none⟩), .int .i64 40] rfl (by (try simp only [List.map_toArray, List.map_cons, List.map_nil]); first | done | rfl | (simp only [List.length_drop, List.length_take]; rfl)) ?_; (with_reducible refine (spec_l01Once.calls g505 t502 t512 t513 40 false t515 t516 w _ ?side1 ?side2 A5.out).mono ?_); (case side1 => repeat (first | (with_reducible first | exact HI505.out | apply IsS98.alloc | apply IsS98.drewN | apply IsS98.drew | apply IsS98.set_1 | apply IsS98.set_2) | exact HI505.out)); (case side2 => repeat (first | (with_reducible first | exact HB.out | apply below_alloc | apply pw_below_drewN | apply below_drew1 | refine below_set ?_ (IsS98.ge HI505.out)) | exact HB.out)); rintro e w21 ⟨rfl, hi, hb, hk⟩; refine ⟨_, rfl, ?_⟩; have n0_ := Aside0.mk (Kd.R_mono (Kd.R_keep (IsS98.apart (show IsS98 w _ g505 t502 t512 t513 from by repeat (first | (with_reducible first | exact HI505.out | apply IsS98.alloc | apply IsS98.drewN | apply IsS98.drew | apply IsS98.set_1 | apply IsS98.set_2) | exact HI505.out)) (by (with_reducible repeat (first | apply Kd.R_alloc | apply Kd.R_drewN | apply Kd.R_drew)); exact HO511.out) (by decide)) hk (fun _ h => h.2)) (fun _ h => h.1)); have n1_ := Aside0.mk (hb); have n2_ := Aside0.mk (hi); clear HO511; clear HB; clear HI505; have HO511 := n0_; have HB := n1_; have HI505 := n2_; clear n0_ n1_ n2_; (try clear hb); (try clear hb2); (try clear hk); (try clear hi)))
    go_ret
    exact ⟨_, by first | rfl | (simp [errW_none, errW_some] <;> rfl) | (simp [*, errW_none, errW_some] <;> rfl), by (with_reducible repeat (first | apply Kd.R_alloc | apply Kd.R_drewN | apply Kd.R_drew)); exact HO511.out, by repeat (first | (with_reducible first | exact HB.out | apply below_alloc | apply pw_below_drewN | apply below_drew1 | refine below_set ?_ (IsS98.ge HI505.out)) | exact HB.out)⟩

-- NOT PRINTED: function 109 (slices_Grow_byte_byte)

/-! ### impl_CheckOf: function 74 -/
def impl_CheckOf.l0 : Nat → Int → List Int → Int → Int → Option (Int)
  | 0, _, _, _, _ => none
  | k + 1, x3, x6, x7, x8 => if x8 < x7 then (if 0 ≤ x8 then (if x8 < (x6.length : Int) then (impl_CheckOf.l0 k (Int.tmod (wrap64 ((wrap64 (269 * x3)) + (wrap64 (rd x6 x8)))) 999983) x6 x7 (wrap64 (x8 + 1))) else (none)) else (none)) else (some x3)
def impl_CheckOf.f (k : Nat) (l0 : List Int) : Option (Int) := impl_CheckOf.l0 k 5 l0 (l0.length : Int) 0
theorem impl_CheckOf.mono_l : ∀ k, (∀ y0 y1 y2 y3, LeO (impl_CheckOf.l0 k y0 y1 y2 y3) (impl_CheckOf.l0 (k + 1) y0 y1 y2 y3))
  | 0 => fun _ _ _ _ r h => by simp [impl_CheckOf.l0] at h
  | k + 1 => by
    have ih0 := impl_CheckOf.mono_l k
    · intro y0 y1 y2 y3
      unfold impl_CheckOf.l0
      repeat' first
      | (with_reducible exact ih0 _ _ _ _)
      | (with_reducible exact LeO.refl _)
      | (with_reducible exact LeO.none _)
      | (with_reducible refine LeO.ite ?_ ?_)
      | (with_reducible refine LeO.bind ?_ (fun _ => ?_))
      | exact ih0 _ _ _ _
      | exact LeO.none _
      | refine LeO.ite ?_ ?_
      | refine LeO.bind ?_ (fun _ => ?_)
theorem impl_CheckOf.mono : ∀ a0 k, LeO (impl_CheckOf.f k a0) (impl_CheckOf.f (k + 1) a0) := by
  intro a0 k
  have ih0 := impl_CheckOf.mono_l k
  unfold impl_CheckOf.f
  repeat' first
      | (with_reducible exact ih0 _ _ _ _)
      | (with_reducible exact LeO.refl _)
      | (with_reducible exact LeO.none _)
      | (with_reducible refine LeO.ite ?_ ?_)
      | (with_reducible refine LeO.bind ?_ (fun _ => ?_))
      | exact ih0 _ _ _ _
      | exact LeO.none _
      | refine LeO.ite ?_ ?_
      | refine LeO.bind ?_ (fun _ => ?_)
set_option maxHeartbeats 8000000 in
set_option maxRecDepth 100000 in
theorem impl_CheckOf.calls (k : Nat) (A0 : Option Addr) (c0 : Nat) (l0 : List Int) (r : Int) (w : World) (hr0 : Kd.C (Kd.int .u8) w A0 l0.length l0) (hc0 : l0.length ≤ c0) (h : impl_CheckOf.f k l0 = some r) :
    Calls Try.prog 74 #[.slice A0 l0.length c0] w fun e w' => e = .returned (.int .i64 r) ∧ Drawn0 w w' := by
  have HR0 := Aside0.mk hr0
  have HC0 := Aside0.mk hc0
  clear hr0 hc0
  have H : (impl_CheckOf.l0 k 5 l0 (l0.length : Int) 0) = some r := h
  clear h
  have H' := Aside0.mk H
  clear H
  go_enter Try.func74, Try.ntmps74
  go_wp2
  go_loopg [3, 8] k (fun kq v3 v8 w' => ∃ (x3_1 : Int) (x8_1 : Int), v3 = .int .i64 x3_1 ∧ v8 = .int .i64 x8_1 ∧ Aside0 (impl_CheckOf.l0 kq x3_1 l0 (l0.length : Int) x8_1 = some r) ∧ Aside0 (kq ≤ k) ∧ Drawn0 w w')
  case atStart => exact ⟨(5), (0), (by first | rfl | (simp; done) | (simp [*]; done)), (by first | rfl | (simp; done) | (simp [*]; done)), H', ⟨Nat.le_refl _⟩, by repeat (first | exact Drawn0.refl _ | apply Drawn0.step)⟩
  case round =>
    clear H'
    obtain ⟨x3_1, x8_1, rfl, rfl, HA, HK1, ⟨m1, rfl⟩⟩ := hrel
    cases gk with
    | zero => exact absurd HA.out (by simp [impl_CheckOf.l0])
    | succ k1 =>
      have H := HA.out
      clear HA
      simp only [impl_CheckOf.l0] at H
      by_cases c2 : x8_1 < (l0.length : Int)
      · rw [if_pos c2] at H
        have c2b0 : decide (x8_1 < (l0.length : Int)) = true := decide_eq_true c2
        clear c2
        by_cases c3 : 0 ≤ x8_1
        · rw [if_pos c3] at H
          have c3b0 : decide (0 ≤ x8_1) = true := decide_eq_true c3
          clear c3
          by_cases c4 : x8_1 < (l0.length : Int)
          · rw [if_pos c4] at H
            have c4b0 : decide (x8_1 < (l0.length : Int)) = true := decide_eq_true c4
            clear c4
            have H' := Aside0.mk H
            clear H
            have p523 : 0 ≤ (x8_1 : Int) := of_decide_eq_true (by first | (with_reducible assumption) | assumption)
            have q523 : x8_1 < (l0.length : Int) := of_decide_eq_true (by first | (with_reducible assumption) | assumption)
            obtain ⟨ad523, e523, hx523_0⟩ := Kd.at_int HR0.out x8_1 p523 q523
            cases e523
            replace p523 := eq_true p523
            replace q523 := eq_true q523
            go_wp2
            go_roundg k1
            case measure => have := HK1.out; omega
            case rel => exact ⟨(Int.tmod (wrap64 ((wrap64 (269 * x3_1)) + (wrap64 (rd l0 x8_1)))) 999983), (wrap64 (x8_1 + 1)), (by first | rfl | (simp; done) | (simp [*]; done)), (by first | rfl | (simp; done) | (simp [*]; done)), H', ⟨by have := HK1.out; omega⟩, by repeat (first | exact Drawn0.refl _ | apply Drawn0.step)⟩
          · rw [if_neg c4] at H
            exact absurd H (by simp)
        · rw [if_neg c3] at H
          exact absurd H (by simp)
      · rw [if_neg c2] at H
        have c2b0 : decide (x8_1 < (l0.length : Int)) = false := decide_eq_false c2
        clear c2
        obtain rfl := Option.some.inj H
        go_wp2
        go_ret
        exact ⟨by first | rfl | (simp; done) | (simp [*]; done), by repeat (first | exact Drawn0.refl _ | apply Drawn0.step)⟩

/-! ### impl_Frame: function 29 -/
theorem impl_Frame.lit2 {W : World} {e : TypeId} {fr : Nat × Nat} : Kd.C (Kd.int .u8) (W.alloc (.cells #[.int .u8 80, .int .u8 83] e fr)) (some ⟨W.heap.size, 0, none⟩) ([80, 83] : List Int).length ([80, 83] : List Int) := by
  refine Kd.C_of_reads (enc := Value.int .u8) (d := (0 : Int)) (h1 := fun _ => rfl) ⟨rfl, by decide, fun _ => ⟨_, rfl, fun j hj => ?_⟩⟩
  have hb : (W.alloc (.cells #[.int .u8 80, .int .u8 83] e fr)).heap[W.heap.size]? = some (.cells #[.int .u8 80, .int .u8 83] e fr) := blk_new W _
  rw [add_plain, cell_of_row _ _ _ _ _ _ hb]
  match j, hj with
  | 0, _ => rfl
  | 1, _ => rfl
def impl_Frame.f (k : Nat) (l0 : List Int) : Option (List Int × Bool) := if (l0.length : Int) > 4000 then (some (([] : List Int), false)) else ((impl_PutNum.f k (l0.length : Int)).bind fun t225 => ((impl_CheckOf.f k l0).bind fun t228 => ((impl_PutNum.f k t228).bind fun t229 => ((slices_Concat_byte_byte.f k (([(([80, 83] : List Int)), t225, l0, t229] : List (List Int)))).bind fun t235 => (some (t235, true))))))
theorem impl_Frame.row4 {W : World} {A0 A1 A2 A3 : Option Addr} {c0 c1 c2 c3 e q : Nat} {l0 l1 l2 l3 : List Int} (h0 : Kd.C (Kd.int .u8) W A0 l0.length l0) (g0 : l0.length ≤ c0) (h1 : Kd.C (Kd.int .u8) W A1 l1.length l1) (g1 : l1.length ≤ c1) (h2 : Kd.C (Kd.int .u8) W A2 l2.length l2) (g2 : l2.length ≤ c2) (h3 : Kd.C (Kd.int .u8) W A3 l3.length l3) (g3 : l3.length ≤ c3) :
    Kd.C (Kd.slice q (Kd.int .u8)) (W.alloc (.cells #[.slice A0 l0.length c0, .slice A1 l1.length c1, .slice A2 l2.length c2, .slice A3 l3.length c3] e)) (some ⟨W.heap.size, 0, none⟩) 4 [l0, l1, l2, l3] := by
  refine ⟨rfl, by decide, fun _ => ⟨_, rfl, fun j p hj => ?_⟩⟩
  have hb : (W.alloc (.cells #[.slice A0 l0.length c0, .slice A1 l1.length c1, .slice A2 l2.length c2, .slice A3 l3.length c3] e)).heap[W.heap.size]? = some (.cells #[.slice A0 l0.length c0, .slice A1 l1.length c1, .slice A2 l2.length c2, .slice A3 l3.length c3] e) := blk_new W _
  have al := fun {A : Option Addr} {n : Nat} {l : List Int} (h : Kd.C (Kd.int .u8) W A n l) => Kd.C_alloc h (.cells #[.slice A0 l0.length c0, .slice A1 l1.length c1, .slice A2 l2.length c2, .slice A3 l3.length c3] e)
  have cell : ∀ (i : Nat) (u : Value), (#[.slice A0 l0.length c0, .slice A1 l1.length c1, .slice A2 l2.length c2, .slice A3 l3.length c3] : Array Value)[i]? = some u → (W.alloc (.cells #[.slice A0 l0.length c0, .slice A1 l1.length c1, .slice A2 l2.length c2, .slice A3 l3.length c3] e)).cell? ((⟨W.heap.size, 0, none⟩ : Addr).add i) = some u := fun i u hu => by
    rw [add_plain, cell_of_row _ _ _ _ _ _ hb]; exact hu
  have one : ∀ (i : Nat) (u : Value), (#[.slice A0 l0.length c0, .slice A1 l1.length c1, .slice A2 l2.length c2, .slice A3 l3.length c3] : Array Value)[i]? = some u → ∀ q v, [u][q]? = some v → (W.alloc (.cells #[.slice A0 l0.length c0, .slice A1 l1.length c1, .slice A2 l2.length c2, .slice A3 l3.length c3] e)).cell? ((⟨W.heap.size, 0, none⟩ : Addr).add (i * 1 + q)) = some v := fun i u hu q v hv => by
    cases q with
    | zero => rw [List.getElem?_cons_zero] at hv; injection hv with hv; subst hv; rw [Nat.mul_one, Nat.add_zero]; exact cell i u hu
    | succ q => simp at hv
  match j, hj with
  | 0, hj => injection hj with hj; subst hj; exact ⟨_, rfl, ⟨A0, c0, rfl, g0, al h0⟩, one 0 _ rfl⟩
  | 1, hj => injection hj with hj; subst hj; exact ⟨_, rfl, ⟨A1, c1, rfl, g1, al h1⟩, one 1 _ rfl⟩
  | 2, hj => injection hj with hj; subst hj; exact ⟨_, rfl, ⟨A2, c2, rfl, g2, al h2⟩, one 2 _ rfl⟩
  | 3, hj => injection hj with hj; subst hj; exact ⟨_, rfl, ⟨A3, c3, rfl, g3, al h3⟩, one 3 _ rfl⟩
  | j + 4, hj => simp at hj
theorem impl_Frame.mono : ∀ a0 k, LeO (impl_Frame.f k a0) (impl_Frame.f (k + 1) a0) := by
  intro a0 k
  unfold impl_Frame.f
  repeat' first
      | (with_reducible exact impl_CheckOf.mono _ _)
      | (with_reducible exact impl_PutNum.mono _ _)
      | (with_reducible exact slices_Concat_byte_byte.mono _ _)
      | (with_reducible exact LeO.refl _)
      | (with_reducible exact LeO.none _)
      | (with_reducible refine LeO.ite ?_ ?_)
      | (with_reducible refine LeO.bind ?_ (fun _ => ?_))
set_option maxHeartbeats 8000000 in
set_option maxRecDepth 100000 in
theorem impl_Frame.calls (k : Nat) (A0 : Option Addr) (c0 : Nat) (l0 : List Int) (r1 : List Int) (r2 : Bool) (w : World) (hr0 : Kd.C (Kd.int .u8) w A0 l0.length l0) (hc0 : l0.length ≤ c0) (h : impl_Frame.f k l0 = some (r1, r2)) :
    Calls Try.prog 29 #[.slice A0 l0.length c0] w fun e w' => ∃ v0_ : Value, e = .returned (.tuple #[v0_, .bool r2]) ∧ Kd.R (Kd.int .u8) 5 w' w.heap.size (fun _ => True) v0_ r1 ∧ Below w.heap.size w w' := by
  have HR0 := Aside0.mk hr0
  have HC0 := Aside0.mk hc0
  clear hr0 hc0
  have HB := Aside0.mk (Below.refl w.heap.size w)
  have kc := fun (w : World) (C : Array Value) (n c : Nat) => Lib.run_convert_bytes_const (P := Try.prog) w 27 5 C n c Try.underlying27 Try.underlying5
  unfold impl_Frame.f at h
  by_cases c2 : (l0.length : Int) > 4000
  · rw [if_pos c2] at h
    have c2b0 : decide (4000 < (l0.length : Int)) = true := decide_eq_true c2
    have c2b1 : decide (4000 < l0.length) = true := decide_eq_true (by omega)
    clear c2
    simp only [Option.some.injEq, Prod.mk.injEq] at h
    obtain ⟨rfl, rfl⟩ := h
    go_enter Try.func29, Try.ntmps29
    go_wp2
    go_ret2
    exact ⟨_, rfl, Kd.R_nil _ _ _ _ _, HB.out⟩
  · rw [if_neg c2] at h
    have c2b0 : decide (4000 < (l0.length : Int)) = false := decide_eq_false c2
    have c2b1 : decide (4000 < l0.length) = false := decide_eq_false (by omega)
    clear c2
    obtain ⟨t1, f1, h⟩ := Option.bind_eq_some_iff.mp h
    have F1 := Aside0.mk f1
    clear f1
    obtain ⟨t2, f2, h⟩ := Option.bind_eq_some_iff.mp h
    have F2 := Aside0.mk f2
    clear f2
    obtain ⟨t3, f3, h⟩ := Option.bind_eq_some_iff.mp h
    have F3 := Aside0.mk f3
    clear f3
    obtain ⟨t4, f4, h⟩ := Option.bind_eq_some_iff.mp h
    have F4 := Aside0.mk f4
    clear f4
    simp only [Option.some.injEq, Prod.mk.injEq] at h
    obtain ⟨rfl, rfl⟩ := h
    have HLIT := Aside0.mk (impl_Frame.lit2 (W := w) (e := 5) (fr := (2, 3)))
    go_enter Try.func29, Try.ntmps29
    go_wp2_with (first | ((with_reducible refine gate_dst (N := 11) rfl ?_); refine goesL_ (some 11) rfl rfl Try.func60 (by kernel_rfl) rfl #[.int .i64 (l0.length : Int)] rfl (by (try simp only [List.map_toArray, List.map_cons, List.map_nil]); first | done | rfl) ?_; (with_reducible refine (impl_PutNum.calls k (l0.length : Int) t1 _ F1.out).mono ?_); rintro e wn11 ⟨v1, rfl, ho1, hb⟩; refine ⟨_, rfl, ?_⟩; obtain ⟨lo1, hi1, q1, e_⟩ := LR.make ho1 (by repeat (first | (with_reducible first | exact HB.out | apply below_alloc | apply pw_below_drewN | apply below_drew1) | exact HB.out)) hb; clear e_; have nl_ := Aside0.mk (Kd.C_below HLIT.out hb); have nb_ := Aside0.mk (below_step (by repeat (first | (with_reducible first | exact HB.out | apply below_alloc | apply pw_below_drewN | apply below_drew1) | exact HB.out)) hb); clear HB HLIT hb; have HB := nb_; clear nb_; have HLIT := nl_; clear nl_; have HO1 := Aside0.mk q1; clear q1 ho1; obtain ⟨Ao1, co1, eo1, _⟩ := HO1.out.reads; subst eo1) | ((with_reducible refine gate_dst (N := 14) rfl ?_); refine goesL_ (some 14) rfl rfl Try.func74 (by kernel_rfl) rfl #[.slice A0 l0.length c0] rfl (by (try simp only [List.map_toArray, List.map_cons, List.map_nil]); first | done | rfl) ?_; (with_reducible refine (impl_CheckOf.calls k A0 c0 l0 t2 _ (C_now HR0.out (by repeat (first | (with_reducible first | exact HB.out | apply below_alloc | apply pw_below_drewN | apply below_drew1) | exact HB.out))) HC0.out F2.out).mono ?_); rintro e wn14 ⟨rfl, hb⟩; refine ⟨_, rfl, ?_⟩; replace hb := hb.below; have n1_ := Aside0.mk (LR.below (by (with_reducible repeat (first | apply LR.alloc | apply LR.drewN)); exact HO1.out) hb); have nl_ := Aside0.mk (Kd.C_below HLIT.out hb); have nb_ := Aside0.mk (below_step (by repeat (first | (with_reducible first | exact HB.out | apply below_alloc | apply pw_below_drewN | apply below_drew1) | exact HB.out)) hb); clear HB HO1 HLIT hb; have HB := nb_; clear nb_; have HO1 := n1_; clear n1_; have HLIT := nl_; clear nl_) | ((with_reducible refine gate_dst (N := 15) rfl ?_); refine goesL_ (some 15) rfl rfl Try.func60 (by kernel_rfl) rfl #[.int .i64 t2] rfl (by (try simp only [List.map_toArray, List.map_cons, List.map_nil]); first | done | rfl) ?_; (with_reducible refine (impl_PutNum.calls k t2 t3 _ F3.out).mono ?_); rintro e wn15 ⟨v3, rfl, ho3, hb⟩; refine ⟨_, rfl, ?_⟩; obtain ⟨lo3, hi3, q3, e_⟩ := LR.make ho3 (by repeat (first | (with_reducible first | exact HB.out | apply below_alloc | apply pw_below_drewN | apply below_drew1) | exact HB.out)) hb; clear e_; have n1_ := Aside0.mk (LR.below (by (with_reducible repeat (first | apply LR.alloc | apply LR.drewN)); exact HO1.out) hb); have nl_ := Aside0.mk (Kd.C_below HLIT.out hb); have nb_ := Aside0.mk (below_step (by repeat (first | (with_reducible first | exact HB.out | apply below_alloc | apply pw_below_drewN | apply below_drew1) | exact HB.out)) hb); clear HB HO1 HLIT hb; have HB := nb_; clear nb_; have HO1 := n1_; clear n1_; have HLIT := nl_; clear nl_; have HO3 := Aside0.mk q3; clear q3 ho3; obtain ⟨Ao3, co3, eo3, _⟩ := HO3.out.reads; subst eo3) | ((with_reducible refine gate_dst (N := 17) rfl ?_); refine goesL_ (some 17) rfl rfl Try.func73 (by kernel_rfl) rfl #[.slice (some ⟨(World.heap wn15).size, 0, none⟩) 4 4] rfl (by (try simp only [List.map_toArray, List.map_cons, List.map_nil]); first | done | rfl) ?_; (have hrow := impl_Frame.row4 (W := wn15) (e := 27) (q := 5) (A0 := some ⟨(World.heap w).size, 0, none⟩) (A1 := Ao1) (A2 := A0) (A3 := Ao3) (c0 := 2) (c1 := co1) (c2 := c0) (c3 := co3) (l0 := ([80, 83] : List Int)) (l1 := t1) (l2 := l0) (l3 := t3) HLIT.out (by decide) HO1.out.C HO1.out.cap (C_now HR0.out HB.out) HC0.out HO3.out.C HO3.out.cap); (have hrow2 : Kd.C (Kd.slice 5 (Kd.int .u8)) (wn15.alloc (.cells #[.slice (some ⟨(World.heap w).size, 0, none⟩) 2 2, .slice Ao1 t1.length co1, .slice A0 l0.length c0, .slice Ao3 t3.length co3] 27)) (some ⟨(World.heap wn15).size, 0, none⟩) ([([80, 83] : List Int), t1, l0, t3] : List (List Int)).length [([80, 83] : List Int), t1, l0, t3] := hrow); clear hrow; refine calls_of_args (args' := #[.slice (some ⟨(World.heap wn15).size, 0, none⟩) ([([80, 83] : List Int), t1, l0, t3] : List (List Int)).length 4]) rfl ?_; (with_reducible refine (slices_Concat_byte_byte.calls k (some ⟨(World.heap wn15).size, 0, none⟩) 4 [([80, 83] : List Int), t1, l0, t3] t4 _ hrow2 (by simp) F4.out).mono ?_); rintro e wn17 ⟨v4, rfl, ho4, hb⟩; refine ⟨_, rfl, ?_⟩; obtain ⟨lo4, hi4, q4, e_⟩ := LR.make ho4 (by repeat (first | (with_reducible first | exact HB.out | apply below_alloc | apply pw_below_drewN | apply below_drew1) | exact HB.out)) hb; clear e_; have nb_ := Aside0.mk (below_step (by repeat (first | (with_reducible first | exact HB.out | apply below_alloc | apply pw_below_drewN | apply below_drew1) | exact HB.out)) hb); clear HB HO1 HO3 HLIT hb; have HB := nb_; clear nb_; have HO4 := Aside0.mk q4; clear q4 ho4; obtain ⟨Ao4, co4, eo4, _⟩ := HO4.out.reads; subst eo4))
    go_ret2
    exact ⟨_, by first | rfl | (simp; done) | (simp [*]; done), Kd.R_mono (by (with_reducible repeat (first | apply Kd.R_alloc | apply Kd.R_drewN | apply Kd.R_drew)); exact HO4.out.row) (fun _ _ => trivial), (by repeat (first | (with_reducible first | exact HB.out | apply below_alloc | apply pw_below_drewN | apply below_drew1) | exact HB.out))⟩

/-! ### spec_CheckOf: function 75 -/
def spec_CheckOf.l0 : Nat → List Int → Int → Int → Option (Int)
  | 0, _, _, _ => none
  | k + 1, x0, x3, x4 => if x4 < (x0.length : Int) then (if 0 ≤ x4 then (spec_CheckOf.l0 k x0 (Int.tmod (wrap64 ((wrap64 (269 * x3)) + (wrap64 (rd x0 x4)))) 999983) (wrap64 (x4 + 1))) else (none)) else (some x3)
def spec_CheckOf.f (k : Nat) (l0 : List Int) : Option (Int) := spec_CheckOf.l0 k l0 5 0
theorem spec_CheckOf.mono_l : ∀ k, (∀ y0 y1 y2, LeO (spec_CheckOf.l0 k y0 y1 y2) (spec_CheckOf.l0 (k + 1) y0 y1 y2))
  | 0 => fun _ _ _ r h => by simp [spec_CheckOf.l0] at h
  | k + 1 => by
    have ih0 := spec_CheckOf.mono_l k
    · intro y0 y1 y2
      unfold spec_CheckOf.l0
      repeat' first
      | (with_reducible exact ih0 _ _ _)
      | (with_reducible exact LeO.refl _)
      | (with_reducible exact LeO.none _)
      | (with_reducible refine LeO.ite ?_ ?_)
      | (with_reducible refine LeO.bind ?_ (fun _ => ?_))
      | exact ih0 _ _ _
      | exact LeO.none _
      | refine LeO.ite ?_ ?_
      | refine LeO.bind ?_ (fun _ => ?_)
theorem spec_CheckOf.mono : ∀ a0 k, LeO (spec_CheckOf.f k a0) (spec_CheckOf.f (k + 1) a0) := by
  intro a0 k
  have ih0 := spec_CheckOf.mono_l k
  unfold spec_CheckOf.f
  repeat' first
      | (with_reducible exact ih0 _ _ _)
      | (with_reducible exact LeO.refl _)
      | (with_reducible exact LeO.none _)
      | (with_reducible refine LeO.ite ?_ ?_)
      | (with_reducible refine LeO.bind ?_ (fun _ => ?_))
      | exact ih0 _ _ _
      | exact LeO.none _
      | refine LeO.ite ?_ ?_
      | refine LeO.bind ?_ (fun _ => ?_)
set_option maxHeartbeats 8000000 in
set_option maxRecDepth 100000 in
theorem spec_CheckOf.calls (k : Nat) (A0 : Option Addr) (c0 : Nat) (l0 : List Int) (r : Int) (w : World) (hr0 : Kd.C (Kd.int .u8) w A0 l0.length l0) (hc0 : l0.length ≤ c0) (h : spec_CheckOf.f k l0 = some r) :
    Calls Try.prog 75 #[.slice A0 l0.length c0] w fun e w' => e = .returned (.int .i64 r) ∧ Drawn0 w w' := by
  have HR0 := Aside0.mk hr0
  have HC0 := Aside0.mk hc0
  clear hr0 hc0
  have H : (spec_CheckOf.l0 k l0 5 0) = some r := h
  clear h
  have H' := Aside0.mk H
  clear H
  go_enter Try.func75, Try.ntmps75
  go_wp2
  go_loopg [3, 4] k (fun kq v3 v4 w' => ∃ (x3_1 : Int) (x4_1 : Int), v3 = .int .i64 x3_1 ∧ v4 = .int .i64 x4_1 ∧ Aside0 (spec_CheckOf.l0 kq l0 x3_1 x4_1 = some r) ∧ Aside0 (kq ≤ k) ∧ Drawn0 w w')
  case atStart => exact ⟨(5), (0), (by first | rfl | (simp; done) | (simp [*]; done)), (by first | rfl | (simp; done) | (simp [*]; done)), H', ⟨Nat.le_refl _⟩, by repeat (first | exact Drawn0.refl _ | apply Drawn0.step)⟩
  case round =>
    clear H'
    obtain ⟨x3_1, x4_1, rfl, rfl, HA, HK1, ⟨m1, rfl⟩⟩ := hrel
    cases gk with
    | zero => exact absurd HA.out (by simp [spec_CheckOf.l0])
    | succ k1 =>
      have H := HA.out
      clear HA
      simp only [spec_CheckOf.l0] at H
      by_cases c2 : x4_1 < (l0.length : Int)
      · rw [if_pos c2] at H
        have c2b0 : decide (x4_1 < (l0.length : Int)) = true := decide_eq_true c2
        clear c2
        by_cases c3 : 0 ≤ x4_1
        · rw [if_pos c3] at H
          have c3b0 : decide (0 ≤ x4_1) = true := decide_eq_true c3
          clear c3
          have H' := Aside0.mk H
          clear H
          have p524 : 0 ≤ (x4_1 : Int) := of_decide_eq_true (by first | (with_reducible assumption) | assumption)
          have q524 : x4_1 < (l0.length : Int) := of_decide_eq_true (by first | (with_reducible assumption) | assumption)
          obtain ⟨ad524, e524, hx524_0⟩ := Kd.at_int HR0.out x4_1 p524 q524
          cases e524
          replace p524 := eq_true p524
          replace q524 := eq_true q524
          go_wp2
          go_roundg k1
          case measure => have := HK1.out; omega
          case rel => exact ⟨(Int.tmod (wrap64 ((wrap64 (269 * x3_1)) + (wrap64 (rd l0 x4_1)))) 999983), (wrap64 (x4_1 + 1)), (by first | rfl | (simp; done) | (simp [*]; done)), (by first | rfl | (simp; done) | (simp [*]; done)), H', ⟨by have := HK1.out; omega⟩, by repeat (first | exact Drawn0.refl _ | apply Drawn0.step)⟩
        · rw [if_neg c3] at H
          exact absurd H (by simp)
      · rw [if_neg c2] at H
        have c2b0 : decide (x4_1 < (l0.length : Int)) = false := decide_eq_false c2
        clear c2
        obtain rfl := Option.some.inj H
        go_wp2
        go_ret
        exact ⟨by first | rfl | (simp; done) | (simp [*]; done), by repeat (first | exact Drawn0.refl _ | apply Drawn0.step)⟩

/-! ### spec_Frame: function 30 -/
theorem spec_Frame.lit2 {W : World} {e : TypeId} {fr : Nat × Nat} : Kd.C (Kd.int .u8) (W.alloc (.cells #[.int .u8 80, .int .u8 83] e fr)) (some ⟨W.heap.size, 0, none⟩) ([80, 83] : List Int).length ([80, 83] : List Int) := by
  refine Kd.C_of_reads (enc := Value.int .u8) (d := (0 : Int)) (h1 := fun _ => rfl) ⟨rfl, by decide, fun _ => ⟨_, rfl, fun j hj => ?_⟩⟩
  have hb : (W.alloc (.cells #[.int .u8 80, .int .u8 83] e fr)).heap[W.heap.size]? = some (.cells #[.int .u8 80, .int .u8 83] e fr) := blk_new W _
  rw [add_plain, cell_of_row _ _ _ _ _ _ hb]
  match j, hj with
  | 0, _ => rfl
  | 1, _ => rfl
def spec_Frame.f (k : Nat) (l0 : List Int) : Option (List Int × Bool) := if (l0.length : Int) > 4000 then (some (([] : List Int), false)) else ((spec_PutNum.f k (l0.length : Int)).bind fun t162 => ((spec_l01Join.f k (([80, 83] : List Int)) t162).bind fun t165 => ((spec_l01Join.f k t165 l0).bind fun t168 => ((spec_CheckOf.f k l0).bind fun t171 => ((spec_PutNum.f k t171).bind fun t172 => ((spec_l01Join.f k t168 t172).bind fun t175 => (some (t175, true))))))))
theorem spec_Frame.mono : ∀ a0 k, LeO (spec_Frame.f k a0) (spec_Frame.f (k + 1) a0) := by
  intro a0 k
  unfold spec_Frame.f
  repeat' first
      | (with_reducible exact spec_CheckOf.mono _ _)
      | (with_reducible exact spec_PutNum.mono _ _)
      | (with_reducible exact spec_l01Join.mono _ _ _)
      | (with_reducible exact LeO.refl _)
      | (with_reducible exact LeO.none _)
      | (with_reducible refine LeO.ite ?_ ?_)
      | (with_reducible refine LeO.bind ?_ (fun _ => ?_))
set_option maxHeartbeats 8000000 in
set_option maxRecDepth 100000 in
theorem spec_Frame.calls (k : Nat) (A0 : Option Addr) (c0 : Nat) (l0 : List Int) (r1 : List Int) (r2 : Bool) (w : World) (hr0 : Kd.C (Kd.int .u8) w A0 l0.length l0) (hc0 : l0.length ≤ c0) (h : spec_Frame.f k l0 = some (r1, r2)) :
    Calls Try.prog 30 #[.slice A0 l0.length c0] w fun e w' => ∃ v0_ : Value, e = .returned (.tuple #[v0_, .bool r2]) ∧ Kd.R (Kd.int .u8) 5 w' w.heap.size (fun _ => True) v0_ r1 ∧ Below w.heap.size w w' := by
  have HR0 := Aside0.mk hr0
  have HC0 := Aside0.mk hc0
  clear hr0 hc0
  have HB := Aside0.mk (Below.refl w.heap.size w)
  have kc := fun (w : World) (C : Array Value) (n c : Nat) => Lib.run_convert_bytes_const (P := Try.prog) w 27 5 C n c Try.underlying27 Try.underlying5
  unfold spec_Frame.f at h
  by_cases c2 : (l0.length : Int) > 4000
  · rw [if_pos c2] at h
    have c2b0 : decide (4000 < (l0.length : Int)) = true := decide_eq_true c2
    have c2b1 : decide (4000 < l0.length) = true := decide_eq_true (by omega)
    clear c2
    simp only [Option.some.injEq, Prod.mk.injEq] at h
    obtain ⟨rfl, rfl⟩ := h
    go_enter Try.func30, Try.ntmps30
    go_wp2
    go_ret2
    exact ⟨_, rfl, Kd.R_nil _ _ _ _ _, HB.out⟩
  · rw [if_neg c2] at h
    have c2b0 : decide (4000 < (l0.length : Int)) = false := decide_eq_false c2
    have c2b1 : decide (4000 < l0.length) = false := decide_eq_false (by omega)
    clear c2
    obtain ⟨t1, f1, h⟩ := Option.bind_eq_some_iff.mp h
    have F1 := Aside0.mk f1
    clear f1
    obtain ⟨t2, f2, h⟩ := Option.bind_eq_some_iff.mp h
    have F2 := Aside0.mk f2
    clear f2
    obtain ⟨t3, f3, h⟩ := Option.bind_eq_some_iff.mp h
    have F3 := Aside0.mk f3
    clear f3
    obtain ⟨t4, f4, h⟩ := Option.bind_eq_some_iff.mp h
    have F4 := Aside0.mk f4
    clear f4
    obtain ⟨t5, f5, h⟩ := Option.bind_eq_some_iff.mp h
    have F5 := Aside0.mk f5
    clear f5
    obtain ⟨t6, f6, h⟩ := Option.bind_eq_some_iff.mp h
    have F6 := Aside0.mk f6
    clear f6
    simp only [Option.some.injEq, Prod.mk.injEq] at h
    obtain ⟨rfl, rfl⟩ := h
    have HLIT := Aside0.mk (spec_Frame.lit2 (W := w) (e := 5) (fr := (2, 3)))
    go_enter Try.func30, Try.ntmps30
    go_wp2_with (first | ((with_reducible refine gate_dst (N := 12) rfl ?_); refine goesL_ (some 12) rfl rfl Try.func62 (by kernel_rfl) rfl #[.int .i64 (l0.length : Int)] rfl (by (try simp only [List.map_toArray, List.map_cons, List.map_nil]); first | done | rfl) ?_; (with_reducible refine (spec_PutNum.calls k (l0.length : Int) t1 _ F1.out).mono ?_); rintro e wn12 ⟨v1, rfl, ho1, hb⟩; refine ⟨_, rfl, ?_⟩; obtain ⟨lo1, hi1, q1, e_⟩ := LR.make ho1 (by repeat (first | (with_reducible first | exact HB.out | apply below_alloc | apply pw_below_drewN | apply below_drew1) | exact HB.out)) hb; clear e_; have nl_ := Aside0.mk (Kd.C_below HLIT.out hb); have nb_ := Aside0.mk (below_step (by repeat (first | (with_reducible first | exact HB.out | apply below_alloc | apply pw_below_drewN | apply below_drew1) | exact HB.out)) hb); clear HB HLIT hb; have HB := nb_; clear nb_; have HLIT := nl_; clear nl_; have HO1 := Aside0.mk q1; clear q1 ho1; obtain ⟨Ao1, co1, eo1, _⟩ := HO1.out.reads; subst eo1) | ((with_reducible refine gate_dst (N := 13) rfl ?_); refine goesL_ (some 13) rfl rfl Try.func64 (by kernel_rfl) rfl #[.slice (some ⟨w.heap.size, 0, none⟩) 2 2, .slice Ao1 t1.length co1] rfl (by (try simp only [List.map_toArray, List.map_cons, List.map_nil]); first | done | rfl) ?_; refine calls_of_args (args' := #[.slice (some ⟨w.heap.size, 0, none⟩) ([80, 83] : List Int).length 2, .slice Ao1 t1.length co1]) rfl ?_; (with_reducible refine (spec_l01Join.calls k (some ⟨w.heap.size, 0, none⟩) 2 ([80, 83] : List Int) Ao1 co1 t1 t2 _ (by (with_reducible repeat (first | apply Kd.C_alloc | apply Kd.C_drewN | apply Kd.C_drew)); exact HLIT.out) (by decide) (by (with_reducible repeat (first | apply Kd.C_alloc | apply Kd.C_drewN | apply Kd.C_drew)); exact HO1.out.C) HO1.out.cap F2.out).mono ?_); rintro e wn13 ⟨v2, rfl, ho2, hb⟩; refine ⟨_, rfl, ?_⟩; obtain ⟨lo2, hi2, q2, e_⟩ := LR.make ho2 (by repeat (first | (with_reducible first | exact HB.out | apply below_alloc | apply pw_below_drewN | apply below_drew1) | exact HB.out)) hb; clear e_; have nb_ := Aside0.mk (below_step (by repeat (first | (with_reducible first | exact HB.out | apply below_alloc | apply pw_below_drewN | apply below_drew1) | exact HB.out)) hb); clear HB HO1 HLIT hb; have HB := nb_; clear nb_; have HO2 := Aside0.mk q2; clear q2 ho2; obtain ⟨Ao2, co2, eo2, _⟩ := HO2.out.reads; subst eo2) | ((with_reducible refine gate_dst (N := 16) rfl ?_); refine goesL_ (some 16) rfl rfl Try.func64 (by kernel_rfl) rfl #[.slice Ao2 t2.length co2, .slice A0 l0.length c0] rfl (by (try simp only [List.map_toArray, List.map_cons, List.map_nil]); first | done | rfl) ?_; (with_reducible refine (spec_l01Join.calls k Ao2 co2 t2 A0 c0 l0 t3 _ (by (with_reducible repeat (first | apply Kd.C_alloc | apply Kd.C_drewN | apply Kd.C_drew)); exact HO2.out.C) HO2.out.cap (C_now HR0.out (by repeat (first | (with_reducible first | exact HB.out | apply below_alloc | apply pw_below_drewN | apply below_drew1) | exact HB.out))) HC0.out F3.out).mono ?_); rintro e wn16 ⟨v3, rfl, ho3, hb⟩; refine ⟨_, rfl, ?_⟩; obtain ⟨lo3, hi3, q3, e_⟩ := LR.make ho3 (by repeat (first | (with_reducible first | exact HB.out | apply below_alloc | apply pw_below_drewN | apply below_drew1) | exact HB.out)) hb; clear e_; have nb_ := Aside0.mk (below_step (by repeat (first | (with_reducible first | exact HB.out | apply below_alloc | apply pw_below_drewN | apply below_drew1) | exact HB.out)) hb); clear HB HO2 hb; have HB := nb_; clear nb_; have HO3 := Aside0.mk q3; clear q3 ho3; obtain ⟨Ao3, co3, eo3, _⟩ := HO3.out.reads; subst eo3) | ((with_reducible refine gate_dst (N := 18) rfl ?_); refine goesL_ (some 18) rfl rfl Try.func75 (by kernel_rfl) rfl #[.slice A0 l0.length c0] rfl (by (try simp only [List.map_toArray, List.map_cons, List.map_nil]); first | done | rfl) ?_; (with_reducible refine (spec_CheckOf.calls k A0 c0 l0 t4 _ (C_now HR0.out (by repeat (first | (with_reducible first | exact HB.out | apply below_alloc | apply pw_below_drewN | apply below_drew1) | exact HB.out))) HC0.out F4.out).mono ?_); rintro e wn18 ⟨rfl, hb⟩; refine ⟨_, rfl, ?_⟩; replace hb := hb.below; have n3_ := Aside0.mk (LR.below (by (with_reducible repeat (first | apply LR.alloc | apply LR.drewN)); exact HO3.out) hb); have nb_ := Aside0.mk (below_step (by repeat (first | (with_reducible first | exact HB.out | apply below_alloc | apply pw_below_drewN | apply below_drew1) | exact HB.out)) hb); clear HB HO3 hb; have HB := nb_; clear nb_; have HO3 := n3_; clear n3_) | ((with_reducible refine gate_dst (N := 19) rfl ?_); refine goesL_ (some 19) rfl rfl Try.func62 (by kernel_rfl) rfl #[.int .i64 t4] rfl (by (try simp only [List.map_toArray, List.map_cons, List.map_nil]); first | done | rfl) ?_; (with_reducible refine (spec_PutNum.calls k t4 t5 _ F5.out).mono ?_); rintro e wn19 ⟨v5, rfl, ho5, hb⟩; refine ⟨_, rfl, ?_⟩; obtain ⟨lo5, hi5, q5, e_⟩ := LR.make ho5 (by repeat (first | (with_reducible first | exact HB.out | apply below_alloc | apply pw_below_drewN | apply below_drew1) | exact HB.out)) hb; clear e_; have n3_ := Aside0.mk (LR.below (by (with_reducible repeat (first | apply LR.alloc | apply LR.drewN)); exact HO3.out) hb); have nb_ := Aside0.mk (below_step (by repeat (first | (with_reducible first | exact HB.out | apply below_alloc | apply pw_below_drewN | apply below_drew1) | exact HB.out)) hb); clear HB HO3 hb; have HB := nb_; clear nb_; have HO3 := n3_; clear n3_; have HO5 := Aside0.mk q5; clear q5 ho5; obtain ⟨Ao5, co5, eo5, _⟩ := HO5.out.reads; subst eo5) | ((with_reducible refine gate_dst (N := 20) rfl ?_); refine goesL_ (some 20) rfl rfl Try.func64 (by kernel_rfl) rfl #[.slice Ao3 t3.length co3, .slice Ao5 t5.length co5] rfl (by (try simp only [List.map_toArray, List.map_cons, List.map_nil]); first | done | rfl) ?_; (with_reducible refine (spec_l01Join.calls k Ao3 co3 t3 Ao5 co5 t5 t6 _ (by (with_reducible repeat (first | apply Kd.C_alloc | apply Kd.C_drewN | apply Kd.C_drew)); exact HO3.out.C) HO3.out.cap (by (with_reducible repeat (first | apply Kd.C_alloc | apply Kd.C_drewN | apply Kd.C_drew)); exact HO5.out.C) HO5.out.cap F6.out).mono ?_); rintro e wn20 ⟨v6, rfl, ho6, hb⟩; refine ⟨_, rfl, ?_⟩; obtain ⟨lo6, hi6, q6, e_⟩ := LR.make ho6 (by repeat (first | (with_reducible first | exact HB.out | apply below_alloc | apply pw_below_drewN | apply below_drew1) | exact HB.out)) hb; clear e_; have nb_ := Aside0.mk (below_step (by repeat (first | (with_reducible first | exact HB.out | apply below_alloc | apply pw_below_drewN | apply below_drew1) | exact HB.out)) hb); clear HB HO3 HO5 hb; have HB := nb_; clear nb_; have HO6 := Aside0.mk q6; clear q6 ho6; obtain ⟨Ao6, co6, eo6, _⟩ := HO6.out.reads; subst eo6))
    go_ret2
    exact ⟨_, by first | rfl | (simp; done) | (simp [*]; done), Kd.R_mono (by (with_reducible repeat (first | apply Kd.R_alloc | apply Kd.R_drewN | apply Kd.R_drew)); exact HO6.out.row) (fun _ _ => trivial), (by repeat (first | (with_reducible first | exact HB.out | apply below_alloc | apply pw_below_drewN | apply below_drew1) | exact HB.out))⟩

/-! ### bytes_HasPrefix: function 76 -/
-- FORM 0 0 (makes memory, has rounds)
def bytes_HasPrefix.f (l0 : List Int) (l1 : List Int) : Option (Bool) := if l1.length ≤ l0.length then (bytes_Equal.f (l0.take l1.length) l1) else (some false)
set_option maxHeartbeats 8000000 in
set_option maxRecDepth 100000 in
theorem bytes_HasPrefix.calls (A0 : Option Addr) (c0 : Nat) (l0 : List Int) (A1 : Option Addr) (c1 : Nat) (l1 : List Int) (r : Bool) (w : World) (hr0 : Kd.C (Kd.int .u8) w A0 l0.length l0) (hc0 : l0.length ≤ c0) (hr1 : Kd.C (Kd.int .u8) w A1 l1.length l1) (hc1 : l1.length ≤ c1) (h : bytes_HasPrefix.f l0 l1 = some r) :
    Calls Try.prog 76 #[.slice A0 l0.length c0, .slice A1 l1.length c1] w fun e w' => e = .returned (.bool r) ∧ Drawn0 w w' := by
  have HR0 := Aside0.mk hr0
  have HR1 := Aside0.mk hr1
  have HC1 := Aside0.mk hc1
  have HC0 := Aside0.mk hc0
  clear hr0 hr1 hc0 hc1
  obtain ⟨i0, hi0, _, hsz, _⟩ := info_parts info5
  unfold bytes_HasPrefix.f at h
  by_cases c2 : l1.length ≤ l0.length
  · rw [if_pos c2] at h
    have HQ := Aside0.mk h
    have HLE := Aside0.mk c2
    have hcut : ∀ W : World, (Instr.slice 27 (.slice A0 l0.length c0) none (some (.int .i64 (l1.length : Int))) none).run Try.prog W = .ok (.slice A0 l1.length c0) W := by
      intro W
      have h_ := cut_to (P := Try.prog) 27 5 .i64 Try.underlying27 hi0 A0 l0.length c0 (l1.length : Int) (by omega) (by omega) HC0.out W
      rwa [Int.toNat_natCast] at h_
    have b1 : decide ((l1.length : Int) ≤ (l0.length : Int)) = true := decide_eq_true (by omega)
    have b2 : decide (l1.length ≤ l0.length) = true := decide_eq_true c2
    clear h c2 hi0 hsz
    go_enter Try.func76, Try.ntmps76
    go_wp2_with (first | (go_at_call 78; refine calls_of_args (args' := #[.slice A0 (l0.take l1.length).length c0, .slice A1 l1.length c1]) (by rw [List.length_take, Nat.min_eq_left HLE.out]) ?_; (with_reducible refine (bytes_Equal.calls A0 c0 (l0.take l1.length) A1 c1 l1 r _ ?side1 ?side2 ?side3 ?side4 HQ.out).mono ?_); (case side1 => (with_reducible repeat (first | apply Kd.C_alloc | apply Kd.C_drewN | apply Kd.C_drew)); exact Kd.C_take HR0.out HLE.out); (case side2 => exact Nat.le_trans (by rw [List.length_take]; omega) HC0.out); (case side3 => (with_reducible repeat (first | apply Kd.C_alloc | apply Kd.C_drewN | apply Kd.C_drew)); exact HR1.out); (case side4 => exact HC1.out); rintro e w' ⟨rfl, ⟨nd, rfl⟩⟩))
    go_ret
    exact ⟨by first | rfl | (simp; done) | (simp [*]; done), by first | exact ⟨⟨_, rfl⟩⟩ | (exact Drawn0.refl _) | (simp only [World.drewN_drewN]; exact ⟨⟨_, rfl⟩⟩)⟩
  · rw [if_neg c2] at h
    obtain rfl := Option.some.inj h
    have b1 : decide ((l1.length : Int) ≤ (l0.length : Int)) = false := decide_eq_false (by omega)
    have b2 : decide (l1.length ≤ l0.length) = false := decide_eq_false c2
    clear h c2 hi0 hsz
    go_enter Try.func76, Try.ntmps76
    go_wp2
    go_ret
    exact ⟨by first | rfl | (simp; done) | (simp [*]; done), by first | exact ⟨⟨_, rfl⟩⟩ | (exact Drawn0.refl _)⟩

/-! ### slices_Clone_byte_byte: function 77 -/
def slices_Clone_byte_byte.f (l0 : List Int) : Option (List Int) := (some (([] : List Int) : List Int)).bind fun y525 => (if y525.length + l0.length < 140737488355328 then (some (y525 ++ l0)) else (none))
set_option maxHeartbeats 8000000 in
set_option maxRecDepth 100000 in
theorem slices_Clone_byte_byte.calls_some (A0 : Option Addr) (c0 : Nat) (l0 : List Int) (r : List Int) (w : World) (hr0 : Kd.C (Kd.int .u8) w A0 l0.length l0) (hc0 : l0.length ≤ c0) (h : slices_Clone_byte_byte.f l0 = some r) (hs_ : A0.isNone = false) :
    Calls Try.prog 77 #[.slice A0 l0.length c0] w fun e w' => ∃ v0_ : Value, e = .returned (v0_) ∧ Kd.R (Kd.int .u8) 5 w' w.heap.size (fun _ => True) v0_ r ∧ Below w.heap.size w w' := by
  have HR0 := Aside0.mk hr0
  have HC0 := Aside0.mk hc0
  clear hr0 hc0
  have HB := Aside0.mk (Below.refl w.heap.size w)
  have H : ((some (([] : List Int) : List Int)).bind fun y525 => (if y525.length + l0.length < 140737488355328 then (some (y525 ++ l0)) else (none))) = some r := h
  clear h
  obtain ⟨y525, hy525⟩ : ∃ y_ : List Int, y_ = (([] : List Int)) := ⟨_, rfl⟩
  replace H : (if y525.length + l0.length < 140737488355328 then (some (y525 ++ l0)) else (none)) = some r := by first | (rw [hy525]; with_reducible exact H) | (have H2_ := (Option.bind_some _ _).symm.trans H; rw [hy525]; with_reducible exact H2_) | (have H2_ := (Option.bind_some _ _).symm.trans H; with_reducible exact H2_) | with_reducible exact H | (rw [hy525]; exact H) | exact H
  have Ny525 := Aside0.mk hy525
  clear hy525
  by_cases c2 : y525.length + l0.length < 140737488355328
  · rw [if_pos c2] at H
    have LMc2 := Aside0.mk c2
    clear c2
    obtain ⟨y528, hy528⟩ : ∃ y_ : List Int, y_ = (y525 ++ l0) := ⟨_, rfl⟩
    replace H : (some y528) = some r := by first | (rw [hy528]; with_reducible exact H) | (have H2_ := (Option.bind_some _ _).symm.trans H; rw [hy528]; with_reducible exact H2_) | (have H2_ := (Option.bind_some _ _).symm.trans H; with_reducible exact H2_) | with_reducible exact H | (rw [hy528]; exact H) | exact H
    have Ny528 := Aside0.mk hy528
    clear hy528
    obtain rfl := Option.some.inj H
    have kn_ : ∀ (W : World) (n c : Nat), (binOp .eql 27 (.slice A0 n c) (.slice none 0 0)).run Try.prog W = .ok (.bool false) W := fun W n c => by rw [Lib.run_eql_slice_nil W 27 5 A0 n c 0 0 Try.underlying27, hs_]
    go_enter Try.func77, Try.ntmps77
    go_wp2_with (first | ((with_reducible refine gate_dst (N := 5) rfl ?_); refine Kd.R_lit (Kd.int .u8) _ 5 ?hg (N := 5) ?hd (xs := ([] : List Int)) (inner := []) (ok := fun _ => True) (okp := fun _ => True) ?hr ?hp (fun _ hk => hk) trivial (Below.refl _ _) (Nat.le_refl _) (by simp) ?_; (case hd => rfl); (case hg => rfl); (case hr => first | (go_simp; done) | (go_simp; rfl)); (case hp => exact (Reps.none _ _)); intro v526 w3 ho4 hb hg_ hnew_; clear hg_ hnew_; (first | rw [← Ny525.out] at ho4 | (simp only [Int.reduceToNat] at ho4; rw [← Ny525.out] at ho4)); have n0_ := Aside0.mk (Kd.R_lower ho4 (below_size (by repeat (first | (with_reducible first | exact HB.out | apply below_alloc | apply pw_below_drewN | apply below_drew1) | exact HB.out)))); have n1_ := Aside0.mk (below_step (by repeat (first | (with_reducible first | exact HB.out | apply below_alloc | apply pw_below_drewN | apply below_drew1) | exact HB.out)) hb); clear HB; have HO527 := n0_; have HB := n1_; clear n0_ n1_; clear hb ho4) | ((with_reducible refine gate_builtin (b := .append) (xs := #[.tmp 5, .tmp 6]) rfl ?_); at_builtin; refine Kd.R_append_rows (Kd.int .u8) (w0 := w) w.heap.size rfl (.tmp 5) (.tmp 6) 27 5 (.int .u8 0) 1 rfl Try.underlying27 info5 rfl (by decide) (by omega) v526 y525 l0 _ _ _ (fun _ => True) (fun _ => False) rfl rfl ?aO ?aR (fun _ _ h => h) (fun _ h => h.elim) ?aF ?aB ?aS ?aL ?_; (case aR => repeat (first | exact (Kd.C_below HR0.out HB.out) | (with_reducible refine Kd.C_alloc ?_ _) | (with_reducible refine Kd.C_drewN ?_ _) | (with_reducible refine Kd.C_drew ?_))); (case aB => exact (by repeat (first | (with_reducible first | exact HB.out | apply below_alloc | apply pw_below_drewN | apply below_drew1) | exact HB.out))); (case aF => exact (fun _ _ => trivial)); (case aO => exact (by (with_reducible repeat (first | apply Kd.R_alloc | apply Kd.R_drewN | apply Kd.R_drew)); exact HO527.out)); (case aS => exact (below_size (by repeat (first | (with_reducible first | exact HB.out | apply below_alloc | apply pw_below_drewN | apply below_drew1) | exact HB.out)))); (case aL => have := LMc2.out; omega); intro v529 w5 ho hb hg hat; rw [← Ny528.out] at ho; have n0_ := Aside0.mk (hb); have n1_ := Aside0.mk (ho); clear HB; clear HO527; have HB := n0_; have HO530 := n1_; clear n0_ n1_; clear ho hb hg hat))
    go_ret
    exact ⟨_, by first | rfl | (simp [errW_none, errW_some] <;> rfl) | (simp [*, errW_none, errW_some] <;> rfl), by (with_reducible repeat (first | apply Kd.R_alloc | apply Kd.R_drewN | apply Kd.R_drew)); exact HO530.out, by repeat (first | (with_reducible first | exact HB.out | apply below_alloc | apply pw_below_drewN | apply below_drew1) | exact HB.out)⟩
  · rw [if_neg c2] at H
    exact absurd H (by simp)
set_option maxHeartbeats 8000000 in
set_option maxRecDepth 100000 in
theorem slices_Clone_byte_byte.calls (A0 : Option Addr) (c0 : Nat) (l0 : List Int) (r : List Int) (w : World) (hr0 : Kd.C (Kd.int .u8) w A0 l0.length l0) (hc0 : l0.length ≤ c0) (h : slices_Clone_byte_byte.f l0 = some r) :
    Calls Try.prog 77 #[.slice A0 l0.length c0] w fun e w' => ∃ v0_ : Value, e = .returned (v0_) ∧ Kd.R (Kd.int .u8) 5 w' w.heap.size (fun _ => True) v0_ r ∧ Below w.heap.size w w' := by
  cases A0 with
  | some a => exact slices_Clone_byte_byte.calls_some (some a) c0 l0 r w hr0 hc0 h rfl
  | none =>
    have e : l0 = [] := by
      have h3 := hr0.2.2
      cases l0 with
      | nil => rfl
      | cons x xs => obtain ⟨_, e, _⟩ := h3 (by simp); cases e
    subst e
    have h2 : ([] : List Int) = r := by simpa [slices_Clone_byte_byte.f] using h
    subst h2
    have kn_ : ∀ (W : World) (n c : Nat), (binOp .eql 27 (.slice none n c) (.slice none 0 0)).run Try.prog W = .ok (.bool true) W := fun W n c => Lib.run_eql_slice_nil W 27 5 none n c 0 0 Try.underlying27
    go_enter Try.func77, Try.ntmps77
    go_wp2
    go_ret
    exact ⟨.slice none 0 0, by first | rfl | (simp; done), Kd.R_nil _ _ _ _ _, Below.refl _ _⟩

/-! ### impl_Unframe: function 31 -/
theorem impl_Unframe.lit2 {W : World} {e : TypeId} {fr : Nat × Nat} : Kd.C (Kd.int .u8) (W.alloc (.cells #[.int .u8 80, .int .u8 83] e fr)) (some ⟨W.heap.size, 0, none⟩) ([80, 83] : List Int).length ([80, 83] : List Int) := by
  refine Kd.C_of_reads (enc := Value.int .u8) (d := (0 : Int)) (h1 := fun _ => rfl) ⟨rfl, by decide, fun _ => ⟨_, rfl, fun j hj => ?_⟩⟩
  have hb : (W.alloc (.cells #[.int .u8 80, .int .u8 83] e fr)).heap[W.heap.size]? = some (.cells #[.int .u8 80, .int .u8 83] e fr) := blk_new W _
  rw [add_plain, cell_of_row _ _ _ _ _ _ hb]
  match j, hj with
  | 0, _ => rfl
  | 1, _ => rfl
def impl_Unframe.f (k : Nat) (l0 : List Int) : Option (List Int × Bool) := (bytes_HasPrefix.f l0 (([80, 83] : List Int))).bind fun t1 => (if t1 = true then ((impl_TakeNum.f k l0 2).bind fun b2 => (if b2.2 < 0 then (some (([] : List Int), false)) else ((impl_in.f b2.1 0 (wrap64 ((l0.length : Int) - b2.2))).bind fun t4 => (if t4 = true then (if 0 ≤ b2.2 then (if b2.2 ≤ (wrap64 (b2.2 + b2.1)) then (if (wrap64 (b2.2 + b2.1)) ≤ (l0.length : Int) then ((slices_Clone_byte_byte.f ((l0.take (wrap64 (b2.2 + b2.1) : Int).toNat).drop (b2.2 : Int).toNat)).bind fun t5 => ((impl_Frame.f k t5).bind fun b6 => (if b6.2 = true then ((bytes_Equal.f b6.1 l0).bind fun t8 => (if t8 = true then (some (t5, true)) else (some (([] : List Int), false)))) else (some (([] : List Int), false))))) else none) else none) else none) else (some (([] : List Int), false)))))) else (some (([] : List Int), false)))
theorem impl_Unframe.mono : ∀ a0 k, LeO (impl_Unframe.f k a0) (impl_Unframe.f (k + 1) a0) := by
  intro a0 k
  unfold impl_Unframe.f
  repeat' first
      | (with_reducible exact impl_TakeNum.mono _ _ _)
      | (with_reducible exact impl_Frame.mono _ _)
      | (with_reducible exact LeO.refl _)
      | (with_reducible exact LeO.none _)
      | (with_reducible refine LeO.ite ?_ ?_)
      | (with_reducible refine LeO.bind ?_ (fun _ => ?_))
set_option maxHeartbeats 8000000 in
set_option maxRecDepth 100000 in
theorem impl_Unframe.calls (k : Nat) (A0 : Option Addr) (c0 : Nat) (l0 : List Int) (r1 : List Int) (r2 : Bool) (w : World) (hr0 : Kd.C (Kd.int .u8) w A0 l0.length l0) (hc0 : l0.length ≤ c0) (h : impl_Unframe.f k l0 = some (r1, r2)) :
    Calls Try.prog 31 #[.slice A0 l0.length c0] w fun e w' => ∃ v0_ : Value, e = .returned (.tuple #[v0_, .bool r2]) ∧ Kd.R (Kd.int .u8) 5 w' w.heap.size (fun _ => True) v0_ r1 ∧ Below w.heap.size w w' := by
  have HR0 := Aside0.mk hr0
  have HC0 := Aside0.mk hc0
  clear hr0 hc0
  have HB := Aside0.mk (Below.refl w.heap.size w)
  have kc := fun (w : World) (C : Array Value) (n c : Nat) => Lib.run_convert_bytes_const (P := Try.prog) w 27 5 C n c Try.underlying27 Try.underlying5
  have HLIT := Aside0.mk (impl_Unframe.lit2 (W := w) (e := 5) (fr := (2, 3)))
  unfold impl_Unframe.f at h
  obtain ⟨t1, f1, h⟩ := Option.bind_eq_some_iff.mp h
  have F1 := Aside0.mk f1
  clear f1
  by_cases c1 : t1 = true
  · rw [if_pos c1] at h
    subst c1
    obtain ⟨⟨t2, t3⟩, f2, h⟩ := Option.bind_eq_some_iff.mp h
    have F2 := Aside0.mk f2
    clear f2
    replace h : (if t3 < 0 then (some (([] : List Int), false)) else ((impl_in.f t2 0 (wrap64 ((l0.length : Int) - t3))).bind fun t4 => (if t4 = true then (if 0 ≤ t3 then (if t3 ≤ (wrap64 (t3 + t2)) then (if (wrap64 (t3 + t2)) ≤ (l0.length : Int) then ((slices_Clone_byte_byte.f ((l0.take (wrap64 (t3 + t2) : Int).toNat).drop (t3 : Int).toNat)).bind fun t5 => ((impl_Frame.f k t5).bind fun b6 => (if b6.2 = true then ((bytes_Equal.f b6.1 l0).bind fun t8 => (if t8 = true then (some (t5, true)) else (some (([] : List Int), false)))) else (some (([] : List Int), false))))) else none) else none) else none) else (some (([] : List Int), false))))) = some (r1, r2) := h
    by_cases c2 : t3 < 0
    · rw [if_pos c2] at h
      have c2b : decide (t3 < 0) = true := decide_eq_true c2
      clear c2
      simp only [Option.some.injEq, Prod.mk.injEq] at h
      obtain ⟨rfl, rfl⟩ := h
      go_enter Try.func31, Try.ntmps31
      go_wp2_with (first | ((with_reducible refine gate_dst (N := 12) rfl ?_); refine goesL_ (some 12) rfl rfl Try.func76 (by kernel_rfl) rfl #[.slice A0 l0.length c0, .slice (some ⟨w.heap.size, 0, none⟩) 2 2] rfl (by (try simp only [List.map_toArray, List.map_cons, List.map_nil]); first | done | rfl) ?_; refine calls_of_args (args' := #[.slice A0 l0.length c0, .slice (some ⟨w.heap.size, 0, none⟩) ([80, 83] : List Int).length 2]) rfl ?_; (with_reducible refine (bytes_HasPrefix.calls A0 c0 l0 (some ⟨w.heap.size, 0, none⟩) 2 ([80, 83] : List Int) true _ (C_now HR0.out (by repeat (first | (with_reducible first | exact HB.out | apply below_alloc | apply pw_below_drewN | apply below_drew1) | exact HB.out))) HC0.out (by first | exact HLIT.out | (with_reducible exact Kd.C_drewN HLIT.out _) | ((with_reducible repeat (first | apply Kd.C_alloc | apply Kd.C_drewN | apply Kd.C_drew)); exact HLIT.out)) (by decide) F1.out).mono ?_); rintro e wn12 ⟨rfl, hb⟩; refine ⟨_, rfl, ?_⟩; replace hb := hb.below; have nb_ := Aside0.mk (below_step (by repeat (first | (with_reducible first | exact HB.out | apply below_alloc | apply pw_below_drewN | apply below_drew1) | exact HB.out)) hb); clear HB HLIT hb; have HB := nb_; clear nb_) | ((with_reducible refine gate_dst (N := 16) rfl ?_); refine goesL_ (some 16) rfl rfl Try.func65 (by kernel_rfl) rfl #[.slice A0 l0.length c0, .int .i64 2] rfl (by (try simp only [List.map_toArray, List.map_cons, List.map_nil]); first | done | rfl) ?_; (with_reducible refine (impl_TakeNum.calls k A0 c0 l0 2 t2 t3 _ (C_now HR0.out (by repeat (first | (with_reducible first | exact HB.out | apply below_alloc | apply pw_below_drewN | apply below_drew1) | exact HB.out))) HC0.out F2.out).mono ?_); rintro e wn16 ⟨rfl, hb⟩; refine ⟨_, rfl, ?_⟩; replace hb := hb.below; have nb_ := Aside0.mk (below_step (by repeat (first | (with_reducible first | exact HB.out | apply below_alloc | apply pw_below_drewN | apply below_drew1) | exact HB.out)) hb); clear HB hb; have HB := nb_; clear nb_))
      go_ret2
      exact ⟨_, by first | rfl | (simp; done) | (simp [*]; done), Kd.R_nil _ _ _ _ _, (by repeat (first | (with_reducible first | exact HB.out | apply below_alloc | apply pw_below_drewN | apply below_drew1) | exact HB.out))⟩
    · rw [if_neg c2] at h
      have c2b : decide (t3 < 0) = false := decide_eq_false c2
      clear c2
      obtain ⟨t4, f4, h⟩ := Option.bind_eq_some_iff.mp h
      have F4 := Aside0.mk f4
      clear f4
      by_cases c4 : t4 = true
      · rw [if_pos c4] at h
        subst c4
        by_cases c5 : 0 ≤ t3
        · rw [if_pos c5] at h
          by_cases c6 : t3 ≤ (wrap64 (t3 + t2))
          · rw [if_pos c6] at h
            by_cases c7 : (wrap64 (t3 + t2)) ≤ (l0.length : Int)
            · rw [if_pos c7] at h
              obtain ⟨t5, f5, h⟩ := Option.bind_eq_some_iff.mp h
              have F5 := Aside0.mk f5
              clear f5
              obtain ⟨⟨t6, t7⟩, f6, h⟩ := Option.bind_eq_some_iff.mp h
              have F6 := Aside0.mk f6
              clear f6
              obtain ⟨i022, hi022, _, hsz22, _⟩ := info_parts info5
              obtain ⟨A22, hcut22, hA22, hC22⟩ := print_mid_of (P := Try.prog) (Value.int .u8) 0 27 5 .i64 .i64 Try.underlying27 hi022 hsz22 A0 c0 l0 t3 (wrap64 (t3 + t2)) c5 c6 c7 HC0.out
              have hr22_ : Kd.C (Kd.int .u8) w A22 ((l0.take (wrap64 (t3 + t2) : Int).toNat).drop (t3 : Int).toNat).length ((l0.take (wrap64 (t3 + t2) : Int).toNat).drop (t3 : Int).toNat) := Kd.C_of_reads (h1 := fun _ => rfl) (hA22 _ (Kd.reads_of_C HR0.out))
              have HR22 := Aside0.mk hr22_
              clear hr22_
              have HC22 := Aside0.mk hC22
              have hcl_ : (min (wrap64 (t3 + t2) : Int).toNat l0.length - (t3 : Int).toNat) = ((l0.take (wrap64 (t3 + t2) : Int).toNat).drop (t3 : Int).toNat).length := by rw [List.length_drop, List.length_take]
              have HCL := Aside0.mk hcl_
              clear hcl_ hA22 hC22 hi022 hsz22
              have c5b : decide (0 ≤ t3) = true := decide_eq_true c5
              have c6b : decide (t3 ≤ (wrap64 (t3 + t2))) = true := decide_eq_true c6
              have c7b : decide ((wrap64 (t3 + t2)) ≤ (l0.length : Int)) = true := decide_eq_true c7
              clear c5 c6 c7
              replace h : (if t7 = true then ((bytes_Equal.f t6 l0).bind fun t8 => (if t8 = true then (some (t5, true)) else (some (([] : List Int), false)))) else (some (([] : List Int), false))) = some (r1, r2) := h
              by_cases c8 : t7 = true
              · rw [if_pos c8] at h
                subst c8
                obtain ⟨t8, f8, h⟩ := Option.bind_eq_some_iff.mp h
                have F8 := Aside0.mk f8
                clear f8
                by_cases c9 : t8 = true
                · rw [if_pos c9] at h
                  subst c9
                  simp only [Option.some.injEq, Prod.mk.injEq] at h
                  obtain ⟨rfl, rfl⟩ := h
                  go_enter Try.func31, Try.ntmps31
                  go_wp2_with (first | ((with_reducible refine gate_dst (N := 12) rfl ?_); refine goesL_ (some 12) rfl rfl Try.func76 (by kernel_rfl) rfl #[.slice A0 l0.length c0, .slice (some ⟨w.heap.size, 0, none⟩) 2 2] rfl (by (try simp only [List.map_toArray, List.map_cons, List.map_nil]); first | done | rfl) ?_; refine calls_of_args (args' := #[.slice A0 l0.length c0, .slice (some ⟨w.heap.size, 0, none⟩) ([80, 83] : List Int).length 2]) rfl ?_; (with_reducible refine (bytes_HasPrefix.calls A0 c0 l0 (some ⟨w.heap.size, 0, none⟩) 2 ([80, 83] : List Int) true _ (C_now HR0.out (by repeat (first | (with_reducible first | exact HB.out | apply below_alloc | apply pw_below_drewN | apply below_drew1) | exact HB.out))) HC0.out (by first | exact HLIT.out | (with_reducible exact Kd.C_drewN HLIT.out _) | ((with_reducible repeat (first | apply Kd.C_alloc | apply Kd.C_drewN | apply Kd.C_drew)); exact HLIT.out)) (by decide) F1.out).mono ?_); rintro e wn12 ⟨rfl, hb⟩; refine ⟨_, rfl, ?_⟩; replace hb := hb.below; have nb_ := Aside0.mk (below_step (by repeat (first | (with_reducible first | exact HB.out | apply below_alloc | apply pw_below_drewN | apply below_drew1) | exact HB.out)) hb); clear HB HLIT hb; have HB := nb_; clear nb_) | ((with_reducible refine gate_dst (N := 16) rfl ?_); refine goesL_ (some 16) rfl rfl Try.func65 (by kernel_rfl) rfl #[.slice A0 l0.length c0, .int .i64 2] rfl (by (try simp only [List.map_toArray, List.map_cons, List.map_nil]); first | done | rfl) ?_; (with_reducible refine (impl_TakeNum.calls k A0 c0 l0 2 t2 t3 _ (C_now HR0.out (by repeat (first | (with_reducible first | exact HB.out | apply below_alloc | apply pw_below_drewN | apply below_drew1) | exact HB.out))) HC0.out F2.out).mono ?_); rintro e wn16 ⟨rfl, hb⟩; refine ⟨_, rfl, ?_⟩; replace hb := hb.below; have nb_ := Aside0.mk (below_step (by repeat (first | (with_reducible first | exact HB.out | apply below_alloc | apply pw_below_drewN | apply below_drew1) | exact HB.out)) hb); clear HB hb; have HB := nb_; clear nb_) | ((with_reducible refine gate_dst (N := 36) rfl ?_); refine goesL_ (some 36) rfl rfl Try.func77 (by kernel_rfl) rfl #[.slice A22 ((l0.take (wrap64 (t3 + t2) : Int).toNat).drop (t3 : Int).toNat).length (c0 - (t3 : Int).toNat)] rfl (by (try simp only [List.map_toArray, List.map_cons, List.map_nil]); first | done | rfl | (rw [← HCL.out]; rfl) | (simp only [HCL.out]; rfl)) ?_; (with_reducible refine (slices_Clone_byte_byte.calls A22 _ ((l0.take (wrap64 (t3 + t2) : Int).toNat).drop (t3 : Int).toNat) t5 _ (Kd.C_below HR22.out (by repeat (first | (with_reducible first | exact HB.out | apply below_alloc | apply pw_below_drewN | apply below_drew1) | exact HB.out))) HC22.out F5.out).mono ?_); rintro e wn36 ⟨v5, rfl, ho5, hb⟩; refine ⟨_, rfl, ?_⟩; obtain ⟨lo5, hi5, q5, e_⟩ := LR.make ho5 (by repeat (first | (with_reducible first | exact HB.out | apply below_alloc | apply pw_below_drewN | apply below_drew1) | exact HB.out)) hb; clear e_; have nb_ := Aside0.mk (below_step (by repeat (first | (with_reducible first | exact HB.out | apply below_alloc | apply pw_below_drewN | apply below_drew1) | exact HB.out)) hb); clear HB hb; have HB := nb_; clear nb_; have HO5 := Aside0.mk q5; clear q5 ho5; obtain ⟨Ao5, co5, eo5, _⟩ := HO5.out.reads; subst eo5) | ((with_reducible refine gate_dst (N := 39) rfl ?_); refine goesL_ (some 39) rfl rfl Try.func29 (by kernel_rfl) rfl #[.slice Ao5 t5.length co5] rfl (by (try simp only [List.map_toArray, List.map_cons, List.map_nil]); first | done | rfl) ?_; (with_reducible refine (impl_Frame.calls k Ao5 co5 t5 t6 true _ (by (with_reducible repeat (first | apply Kd.C_alloc | apply Kd.C_drewN | apply Kd.C_drew)); exact HO5.out.C) HO5.out.cap F6.out).mono ?_); rintro e wn39 ⟨v6, rfl, ho6, hb⟩; refine ⟨_, rfl, ?_⟩; obtain ⟨lo6, hi6, q6, e_⟩ := LR.make ho6 (by repeat (first | (with_reducible first | exact HB.out | apply below_alloc | apply pw_below_drewN | apply below_drew1) | exact HB.out)) hb; clear e_; have n5_ := Aside0.mk (LR.below (by (with_reducible repeat (first | apply LR.alloc | apply LR.drewN)); exact HO5.out) hb); have nb_ := Aside0.mk (below_step (by repeat (first | (with_reducible first | exact HB.out | apply below_alloc | apply pw_below_drewN | apply below_drew1) | exact HB.out)) hb); clear HB HO5 hb; have HB := nb_; clear nb_; have HO5 := n5_; clear n5_; have HO6 := Aside0.mk q6; clear q6 ho6; obtain ⟨Ao6, co6, eo6, _⟩ := HO6.out.reads; subst eo6) | (go_at_call 66; (with_reducible refine (impl_in.calls t2 0 (wrap64 ((l0.length : Int) - t3)) true _ F4.out).mono ?_); rintro e wn27 ⟨rfl, hb⟩; replace hb := hb.below; have nb_ := Aside0.mk (below_step (by repeat (first | (with_reducible first | exact HB.out | apply below_alloc | apply pw_below_drewN | apply below_drew1) | exact HB.out)) hb); clear HB hb; have HB := nb_; clear nb_) | (go_at_call 78; (with_reducible refine (bytes_Equal.calls Ao6 co6 t6 A0 c0 l0 true _ (by (with_reducible repeat (first | apply Kd.C_alloc | apply Kd.C_drewN | apply Kd.C_drew)); exact HO6.out.C) HO6.out.cap (C_now HR0.out (by repeat (first | (with_reducible first | exact HB.out | apply below_alloc | apply pw_below_drewN | apply below_drew1) | exact HB.out))) HC0.out F8.out).mono ?_); rintro e wn47 ⟨rfl, hb⟩; replace hb := hb.below; have n5_ := Aside0.mk (LR.below (by (with_reducible repeat (first | apply LR.alloc | apply LR.drewN)); exact HO5.out) hb); have n6_ := Aside0.mk (LR.below (by (with_reducible repeat (first | apply LR.alloc | apply LR.drewN)); exact HO6.out) hb); have nb_ := Aside0.mk (below_step (by repeat (first | (with_reducible first | exact HB.out | apply below_alloc | apply pw_below_drewN | apply below_drew1) | exact HB.out)) hb); clear HB HO5 HO6 hb; have HB := nb_; clear nb_; have HO5 := n5_; clear n5_; have HO6 := n6_; clear n6_))
                  go_ret2
                  exact ⟨_, by first | rfl | (simp; done) | (simp [*]; done), Kd.R_mono (by (with_reducible repeat (first | apply Kd.R_alloc | apply Kd.R_drewN | apply Kd.R_drew)); exact HO5.out.row) (fun _ _ => trivial), (by repeat (first | (with_reducible first | exact HB.out | apply below_alloc | apply pw_below_drewN | apply below_drew1) | exact HB.out))⟩
                · rw [if_neg c9] at h
                  obtain rfl : t8 = false := Bool.eq_false_iff.mpr c9
                  simp only [Option.some.injEq, Prod.mk.injEq] at h
                  obtain ⟨rfl, rfl⟩ := h
                  go_enter Try.func31, Try.ntmps31
                  go_wp2_with (first | ((with_reducible refine gate_dst (N := 12) rfl ?_); refine goesL_ (some 12) rfl rfl Try.func76 (by kernel_rfl) rfl #[.slice A0 l0.length c0, .slice (some ⟨w.heap.size, 0, none⟩) 2 2] rfl (by (try simp only [List.map_toArray, List.map_cons, List.map_nil]); first | done | rfl) ?_; refine calls_of_args (args' := #[.slice A0 l0.length c0, .slice (some ⟨w.heap.size, 0, none⟩) ([80, 83] : List Int).length 2]) rfl ?_; (with_reducible refine (bytes_HasPrefix.calls A0 c0 l0 (some ⟨w.heap.size, 0, none⟩) 2 ([80, 83] : List Int) true _ (C_now HR0.out (by repeat (first | (with_reducible first | exact HB.out | apply below_alloc | apply pw_below_drewN | apply below_drew1) | exact HB.out))) HC0.out (by first | exact HLIT.out | (with_reducible exact Kd.C_drewN HLIT.out _) | ((with_reducible repeat (first | apply Kd.C_alloc | apply Kd.C_drewN | apply Kd.C_drew)); exact HLIT.out)) (by decide) F1.out).mono ?_); rintro e wn12 ⟨rfl, hb⟩; refine ⟨_, rfl, ?_⟩; replace hb := hb.below; have nb_ := Aside0.mk (below_step (by repeat (first | (with_reducible first | exact HB.out | apply below_alloc | apply pw_below_drewN | apply below_drew1) | exact HB.out)) hb); clear HB HLIT hb; have HB := nb_; clear nb_) | ((with_reducible refine gate_dst (N := 16) rfl ?_); refine goesL_ (some 16) rfl rfl Try.func65 (by kernel_rfl) rfl #[.slice A0 l0.length c0, .int .i64 2] rfl (by (try simp only [List.map_toArray, List.map_cons, List.map_nil]); first | done | rfl) ?_; (with_reducible refine (impl_TakeNum.calls k A0 c0 l0 2 t2 t3 _ (C_now HR0.out (by repeat (first | (with_reducible first | exact HB.out | apply below_alloc | apply pw_below_drewN | apply below_drew1) | exact HB.out))) HC0.out F2.out).mono ?_); rintro e wn16 ⟨rfl, hb⟩; refine ⟨_, rfl, ?_⟩; replace hb := hb.below; have nb_ := Aside0.mk (below_step (by repeat (first | (with_reducible first | exact HB.out | apply below_alloc | apply pw_below_drewN | apply below_drew1) | exact HB.out)) hb); clear HB hb; have HB := nb_; clear nb_) | ((with_reducible refine gate_dst (N := 36) rfl ?_); refine goesL_ (some 36) rfl rfl Try.func77 (by kernel_rfl) rfl #[.slice A22 ((l0.take (wrap64 (t3 + t2) : Int).toNat).drop (t3 : Int).toNat).length (c0 - (t3 : Int).toNat)] rfl (by (try simp only [List.map_toArray, List.map_cons, List.map_nil]); first | done | rfl | (rw [← HCL.out]; rfl) | (simp only [HCL.out]; rfl)) ?_; (with_reducible refine (slices_Clone_byte_byte.calls A22 _ ((l0.take (wrap64 (t3 + t2) : Int).toNat).drop (t3 : Int).toNat) t5 _ (Kd.C_below HR22.out (by repeat (first | (with_reducible first | exact HB.out | apply below_alloc | apply pw_below_drewN | apply below_drew1) | exact HB.out))) HC22.out F5.out).mono ?_); rintro e wn36 ⟨v5, rfl, ho5, hb⟩; refine ⟨_, rfl, ?_⟩; obtain ⟨lo5, hi5, q5, e_⟩ := LR.make ho5 (by repeat (first | (with_reducible first | exact HB.out | apply below_alloc | apply pw_below_drewN | apply below_drew1) | exact HB.out)) hb; clear e_; have nb_ := Aside0.mk (below_step (by repeat (first | (with_reducible first | exact HB.out | apply below_alloc | apply pw_below_drewN | apply below_drew1) | exact HB.out)) hb); clear HB hb; have HB := nb_; clear nb_; have HO5 := Aside0.mk q5; clear q5 ho5; obtain ⟨Ao5, co5, eo5, _⟩ := HO5.out.reads; subst eo5) | ((with_reducible refine gate_dst (N := 39) rfl ?_); refine goesL_ (some 39) rfl rfl Try.func29 (by kernel_rfl) rfl #[.slice Ao5 t5.length co5] rfl (by (try simp only [List.map_toArray, List.map_cons, List.map_nil]); first | done | rfl) ?_; (with_reducible refine (impl_Frame.calls k Ao5 co5 t5 t6 true _ (by (with_reducible repeat (first | apply Kd.C_alloc | apply Kd.C_drewN | apply Kd.C_drew)); exact HO5.out.C) HO5.out.cap F6.out).mono ?_); rintro e wn39 ⟨v6, rfl, ho6, hb⟩; refine ⟨_, rfl, ?_⟩; obtain ⟨lo6, hi6, q6, e_⟩ := LR.make ho6 (by repeat (first | (with_reducible first | exact HB.out | apply below_alloc | apply pw_below_drewN | apply below_drew1) | exact HB.out)) hb; clear e_; have n5_ := Aside0.mk (LR.below (by (with_reducible repeat (first | apply LR.alloc | apply LR.drewN)); exact HO5.out) hb); have nb_ := Aside0.mk (below_step (by repeat (first | (with_reducible first | exact HB.out | apply below_alloc | apply pw_below_drewN | apply below_drew1) | exact HB.out)) hb); clear HB HO5 hb; have HB := nb_; clear nb_; have HO5 := n5_; clear n5_; have HO6 := Aside0.mk q6; clear q6 ho6; obtain ⟨Ao6, co6, eo6, _⟩ := HO6.out.reads; subst eo6) | (go_at_call 66; (with_reducible refine (impl_in.calls t2 0 (wrap64 ((l0.length : Int) - t3)) true _ F4.out).mono ?_); rintro e wn27 ⟨rfl, hb⟩; replace hb := hb.below; have nb_ := Aside0.mk (below_step (by repeat (first | (with_reducible first | exact HB.out | apply below_alloc | apply pw_below_drewN | apply below_drew1) | exact HB.out)) hb); clear HB hb; have HB := nb_; clear nb_) | (go_at_call 78; (with_reducible refine (bytes_Equal.calls Ao6 co6 t6 A0 c0 l0 false _ (by (with_reducible repeat (first | apply Kd.C_alloc | apply Kd.C_drewN | apply Kd.C_drew)); exact HO6.out.C) HO6.out.cap (C_now HR0.out (by repeat (first | (with_reducible first | exact HB.out | apply below_alloc | apply pw_below_drewN | apply below_drew1) | exact HB.out))) HC0.out F8.out).mono ?_); rintro e wn47 ⟨rfl, hb⟩; replace hb := hb.below; have n5_ := Aside0.mk (LR.below (by (with_reducible repeat (first | apply LR.alloc | apply LR.drewN)); exact HO5.out) hb); have n6_ := Aside0.mk (LR.below (by (with_reducible repeat (first | apply LR.alloc | apply LR.drewN)); exact HO6.out) hb); have nb_ := Aside0.mk (below_step (by repeat (first | (with_reducible first | exact HB.out | apply below_alloc | apply pw_below_drewN | apply below_drew1) | exact HB.out)) hb); clear HB HO5 HO6 hb; have HB := nb_; clear nb_; have HO5 := n5_; clear n5_; have HO6 := n6_; clear n6_))
                  go_ret2
                  exact ⟨_, by first | rfl | (simp; done) | (simp [*]; done), Kd.R_nil _ _ _ _ _, (by repeat (first | (with_reducible first | exact HB.out | apply below_alloc | apply pw_below_drewN | apply below_drew1) | exact HB.out))⟩
              · rw [if_neg c8] at h
                obtain rfl : t7 = false := Bool.eq_false_iff.mpr c8
                simp only [Option.some.injEq, Prod.mk.injEq] at h
                obtain ⟨rfl, rfl⟩ := h
                go_enter Try.func31, Try.ntmps31
                go_wp2_with (first | ((with_reducible refine gate_dst (N := 12) rfl ?_); refine goesL_ (some 12) rfl rfl Try.func76 (by kernel_rfl) rfl #[.slice A0 l0.length c0, .slice (some ⟨w.heap.size, 0, none⟩) 2 2] rfl (by (try simp only [List.map_toArray, List.map_cons, List.map_nil]); first | done | rfl) ?_; refine calls_of_args (args' := #[.slice A0 l0.length c0, .slice (some ⟨w.heap.size, 0, none⟩) ([80, 83] : List Int).length 2]) rfl ?_; (with_reducible refine (bytes_HasPrefix.calls A0 c0 l0 (some ⟨w.heap.size, 0, none⟩) 2 ([80, 83] : List Int) true _ (C_now HR0.out (by repeat (first | (with_reducible first | exact HB.out | apply below_alloc | apply pw_below_drewN | apply below_drew1) | exact HB.out))) HC0.out (by first | exact HLIT.out | (with_reducible exact Kd.C_drewN HLIT.out _) | ((with_reducible repeat (first | apply Kd.C_alloc | apply Kd.C_drewN | apply Kd.C_drew)); exact HLIT.out)) (by decide) F1.out).mono ?_); rintro e wn12 ⟨rfl, hb⟩; refine ⟨_, rfl, ?_⟩; replace hb := hb.below; have nb_ := Aside0.mk (below_step (by repeat (first | (with_reducible first | exact HB.out | apply below_alloc | apply pw_below_drewN | apply below_drew1) | exact HB.out)) hb); clear HB HLIT hb; have HB := nb_; clear nb_) | ((with_reducible refine gate_dst (N := 16) rfl ?_); refine goesL_ (some 16) rfl rfl Try.func65 (by kernel_rfl) rfl #[.slice A0 l0.length c0, .int .i64 2] rfl (by (try simp only [List.map_toArray, List.map_cons, List.map_nil]); first | done | rfl) ?_; (with_reducible refine (impl_TakeNum.calls k A0 c0 l0 2 t2 t3 _ (C_now HR0.out (by repeat (first | (with_reducible first | exact HB.out | apply below_alloc | apply pw_below_drewN | apply below_drew1) | exact HB.out))) HC0.out F2.out).mono ?_); rintro e wn16 ⟨rfl, hb⟩; refine ⟨_, rfl, ?_⟩; replace hb := hb.below; have nb_ := Aside0.mk (below_step (by repeat (first | (with_reducible first | exact HB.out | apply below_alloc | apply pw_below_drewN | apply below_drew1) | exact HB.out)) hb); clear HB hb; have HB := nb_; clear nb_) | ((with_reducible refine gate_dst (N := 36) rfl ?_); refine goesL_ (some 36) rfl rfl Try.func77 (by kernel_rfl) rfl #[.slice A22 ((l0.take (wrap64 (t3 + t2) : Int).toNat).drop (t3 : Int).toNat).length (c0 - (t3 : Int).toNat)] rfl (by (try simp only [List.map_toArray, List.map_cons, List.map_nil]); first | done | rfl | (rw [← HCL.out]; rfl) | (simp only [HCL.out]; rfl)) ?_; (with_reducible refine (slices_Clone_byte_byte.calls A22 _ ((l0.take (wrap64 (t3 + t2) : Int).toNat).drop (t3 : Int).toNat) t5 _ (Kd.C_below HR22.out (by repeat (first | (with_reducible first | exact HB.out | apply below_alloc | apply pw_below_drewN | apply below_drew1) | exact HB.out))) HC22.out F5.out).mono ?_); rintro e wn36 ⟨v5, rfl, ho5, hb⟩; refine ⟨_, rfl, ?_⟩; obtain ⟨lo5, hi5, q5, e_⟩ := LR.make ho5 (by repeat (first | (with_reducible first | exact HB.out | apply below_alloc | apply pw_below_drewN | apply below_drew1) | exact HB.out)) hb; clear e_; have nb_ := Aside0.mk (below_step (by repeat (first | (with_reducible first | exact HB.out | apply below_alloc | apply pw_below_drewN | apply below_drew1) | exact HB.out)) hb); clear HB hb; have HB := nb_; clear nb_; have HO5 := Aside0.mk q5; clear q5 ho5; obtain ⟨Ao5, co5, eo5, _⟩ := HO5.out.reads; subst eo5) | ((with_reducible refine gate_dst (N := 39) rfl ?_); refine goesL_ (some 39) rfl rfl Try.func29 (by kernel_rfl) rfl #[.slice Ao5 t5.length co5] rfl (by (try simp only [List.map_toArray, List.map_cons, List.map_nil]); first | done | rfl) ?_; (with_reducible refine (impl_Frame.calls k Ao5 co5 t5 t6 false _ (by (with_reducible repeat (first | apply Kd.C_alloc | apply Kd.C_drewN | apply Kd.C_drew)); exact HO5.out.C) HO5.out.cap F6.out).mono ?_); rintro e wn39 ⟨v6, rfl, ho6, hb⟩; refine ⟨_, rfl, ?_⟩; obtain ⟨lo6, hi6, q6, e_⟩ := LR.make ho6 (by repeat (first | (with_reducible first | exact HB.out | apply below_alloc | apply pw_below_drewN | apply below_drew1) | exact HB.out)) hb; clear e_; have n5_ := Aside0.mk (LR.below (by (with_reducible repeat (first | apply LR.alloc | apply LR.drewN)); exact HO5.out) hb); have nb_ := Aside0.mk (below_step (by repeat (first | (with_reducible first | exact HB.out | apply below_alloc | apply pw_below_drewN | apply below_drew1) | exact HB.out)) hb); clear HB HO5 hb; have HB := nb_; clear nb_; have HO5 := n5_; clear n5_; have HO6 := Aside0.mk q6; clear q6 ho6; obtain ⟨Ao6, co6, eo6, _⟩ := HO6.out.reads; subst eo6) | (go_at_call 66; (with_reducible refine (impl_in.calls t2 0 (wrap64 ((l0.length : Int) - t3)) true _ F4.out).mono ?_); rintro e wn27 ⟨rfl, hb⟩; replace hb := hb.below; have nb_ := Aside0.mk (below_step (by repeat (first | (with_reducible first | exact HB.out | apply below_alloc | apply pw_below_drewN | apply below_drew1) | exact HB.out)) hb); clear HB hb; have HB := nb_; clear nb_))
                go_ret2
                exact ⟨_, by first | rfl | (simp; done) | (simp [*]; done), Kd.R_nil _ _ _ _ _, (by repeat (first | (with_reducible first | exact HB.out | apply below_alloc | apply pw_below_drewN | apply below_drew1) | exact HB.out))⟩
            · rw [if_neg c7] at h; cases h
          · rw [if_neg c6] at h; cases h
        · rw [if_neg c5] at h; cases h
      · rw [if_neg c4] at h
        obtain rfl : t4 = false := Bool.eq_false_iff.mpr c4
        simp only [Option.some.injEq, Prod.mk.injEq] at h
        obtain ⟨rfl, rfl⟩ := h
        go_enter Try.func31, Try.ntmps31
        go_wp2_with (first | ((with_reducible refine gate_dst (N := 12) rfl ?_); refine goesL_ (some 12) rfl rfl Try.func76 (by kernel_rfl) rfl #[.slice A0 l0.length c0, .slice (some ⟨w.heap.size, 0, none⟩) 2 2] rfl (by (try simp only [List.map_toArray, List.map_cons, List.map_nil]); first | done | rfl) ?_; refine calls_of_args (args' := #[.slice A0 l0.length c0, .slice (some ⟨w.heap.size, 0, none⟩) ([80, 83] : List Int).length 2]) rfl ?_; (with_reducible refine (bytes_HasPrefix.calls A0 c0 l0 (some ⟨w.heap.size, 0, none⟩) 2 ([80, 83] : List Int) true _ (C_now HR0.out (by repeat (first | (with_reducible first | exact HB.out | apply below_alloc | apply pw_below_drewN | apply below_drew1) | exact HB.out))) HC0.out (by first | exact HLIT.out | (with_reducible exact Kd.C_drewN HLIT.out _) | ((with_reducible repeat (first | apply Kd.C_alloc | apply Kd.C_drewN | apply Kd.C_drew)); exact HLIT.out)) (by decide) F1.out).mono ?_); rintro e wn12 ⟨rfl, hb⟩; refine ⟨_, rfl, ?_⟩; replace hb := hb.below; have nb_ := Aside0.mk (below_step (by repeat (first | (with_reducible first | exact HB.out | apply below_alloc | apply pw_below_drewN | apply below_drew1) | exact HB.out)) hb); clear HB HLIT hb; have HB := nb_; clear nb_) | ((with_reducible refine gate_dst (N := 16) rfl ?_); refine goesL_ (some 16) rfl rfl Try.func65 (by kernel_rfl) rfl #[.slice A0 l0.length c0, .int .i64 2] rfl (by (try simp only [List.map_toArray, List.map_cons, List.map_nil]); first | done | rfl) ?_; (with_reducible refine (impl_TakeNum.calls k A0 c0 l0 2 t2 t3 _ (C_now HR0.out (by repeat (first | (with_reducible first | exact HB.out | apply below_alloc | apply pw_below_drewN | apply below_drew1) | exact HB.out))) HC0.out F2.out).mono ?_); rintro e wn16 ⟨rfl, hb⟩; refine ⟨_, rfl, ?_⟩; replace hb := hb.below; have nb_ := Aside0.mk (below_step (by repeat (first | (with_reducible first | exact HB.out | apply below_alloc | apply pw_below_drewN | apply below_drew1) | exact HB.out)) hb); clear HB hb; have HB := nb_; clear nb_) | (go_at_call 66; (with_reducible refine (impl_in.calls t2 0 (wrap64 ((l0.length : Int) - t3)) false _ F4.out).mono ?_); rintro e wn27 ⟨rfl, hb⟩; replace hb := hb.below; have nb_ := Aside0.mk (below_step (by repeat (first | (with_reducible first | exact HB.out | apply below_alloc | apply pw_below_drewN | apply below_drew1) | exact HB.out)) hb); clear HB hb; have HB := nb_; clear nb_))
        go_ret2
        exact ⟨_, by first | rfl | (simp; done) | (simp [*]; done), Kd.R_nil _ _ _ _ _, (by repeat (first | (with_reducible first | exact HB.out | apply below_alloc | apply pw_below_drewN | apply below_drew1) | exact HB.out))⟩
  · rw [if_neg c1] at h
    obtain rfl : t1 = false := Bool.eq_false_iff.mpr c1
    simp only [Option.some.injEq, Prod.mk.injEq] at h
    obtain ⟨rfl, rfl⟩ := h
    go_enter Try.func31, Try.ntmps31
    go_wp2_with (first | ((with_reducible refine gate_dst (N := 12) rfl ?_); refine goesL_ (some 12) rfl rfl Try.func76 (by kernel_rfl) rfl #[.slice A0 l0.length c0, .slice (some ⟨w.heap.size, 0, none⟩) 2 2] rfl (by (try simp only [List.map_toArray, List.map_cons, List.map_nil]); first | done | rfl) ?_; refine calls_of_args (args' := #[.slice A0 l0.length c0, .slice (some ⟨w.heap.size, 0, none⟩) ([80, 83] : List Int).length 2]) rfl ?_; (with_reducible refine (bytes_HasPrefix.calls A0 c0 l0 (some ⟨w.heap.size, 0, none⟩) 2 ([80, 83] : List Int) false _ (C_now HR0.out (by repeat (first | (with_reducible first | exact HB.out | apply below_alloc | apply pw_below_drewN | apply below_drew1) | exact HB.out))) HC0.out (by first | exact HLIT.out | (with_reducible exact Kd.C_drewN HLIT.out _) | ((with_reducible repeat (first | apply Kd.C_alloc | apply Kd.C_drewN | apply Kd.C_drew)); exact HLIT.out)) (by decide) F1.out).mono ?_); rintro e wn12 ⟨rfl, hb⟩; refine ⟨_, rfl, ?_⟩; replace hb := hb.below; have nb_ := Aside0.mk (below_step (by repeat (first | (with_reducible first | exact HB.out | apply below_alloc | apply pw_below_drewN | apply below_drew1) | exact HB.out)) hb); clear HB HLIT hb; have HB := nb_; clear nb_))
    go_ret2
    exact ⟨_, by first | rfl | (simp; done) | (simp [*]; done), Kd.R_nil _ _ _ _ _, (by repeat (first | (with_reducible first | exact HB.out | apply below_alloc | apply pw_below_drewN | apply below_drew1) | exact HB.out))⟩

/-! ### laws_at: function 32 -/
def laws_at.f (l0 : List Int) (a1 : Int) : Option (Int) := if a1 < (l0.length : Int) then (if 0 ≤ a1 then (some (wrap64 (rd l0 a1))) else (none)) else (some (Int.tmod (wrap64 ((wrap64 (a1 * 13)) + (wrap64 ((l0.length : Int) * 5)))) 256))
set_option maxHeartbeats 8000000 in
set_option maxRecDepth 100000 in
theorem laws_at.calls (A0 : Option Addr) (c0 : Nat) (l0 : List Int) (a1 : Int) (r : Int) (w : World) (hr0 : Kd.C (Kd.int .u8) w A0 l0.length l0) (hc0 : l0.length ≤ c0) (h : laws_at.f l0 a1 = some r) :
    Calls Try.prog 32 #[.slice A0 l0.length c0, .int .i64 a1] w fun e w' => e = .returned (.int .i64 r) ∧ Drawn0 w w' := by
  have HR0 := Aside0.mk hr0
  have HC0 := Aside0.mk hc0
  clear hr0 hc0
  have H : (if a1 < (l0.length : Int) then (if 0 ≤ a1 then (some (wrap64 (rd l0 a1))) else (none)) else (some (Int.tmod (wrap64 ((wrap64 (a1 * 13)) + (wrap64 ((l0.length : Int) * 5)))) 256))) = some r := h
  clear h
  by_cases c3 : a1 < (l0.length : Int)
  · rw [if_pos c3] at H
    have c3b0 : decide (a1 < (l0.length : Int)) = true := decide_eq_true c3
    clear c3
    by_cases c4 : 0 ≤ a1
    · rw [if_pos c4] at H
      have c4b0 : decide (0 ≤ a1) = true := decide_eq_true c4
      clear c4
      obtain rfl := Option.some.inj H
      have p531 : 0 ≤ (a1 : Int) := of_decide_eq_true (by first | (with_reducible assumption) | assumption)
      have q531 : a1 < (l0.length : Int) := of_decide_eq_true (by first | (with_reducible assumption) | assumption)
      obtain ⟨ad531, e531, hx531_0⟩ := Kd.at_int HR0.out a1 p531 q531
      cases e531
      replace p531 := eq_true p531
      replace q531 := eq_true q531
      go_enter Try.func32, Try.ntmps32
      go_wp2
      go_ret
      exact ⟨by first | rfl | (simp; done) | (simp [*]; done), by repeat (first | exact Drawn0.refl _ | apply Drawn0.step)⟩
    · rw [if_neg c4] at H
      exact absurd H (by simp)
  · rw [if_neg c3] at H
    have c3b0 : decide (a1 < (l0.length : Int)) = false := decide_eq_false c3
    clear c3
    obtain rfl := Option.some.inj H
    go_enter Try.func32, Try.ntmps32
    go_wp2
    go_ret
    exact ⟨by first | rfl | (simp; done) | (simp [*]; done), by repeat (first | exact Drawn0.refl _ | apply Drawn0.step)⟩

end Go.Proofs.Ytbdfidnldaghbaa.Q
