/- The walk of the law FnExactRowText: its own body, over the contracts of what it calls; written by a program of this session. -/
import Derived.Test.YtbdfidnldaghbaaDoorQx0
import Derived.Test.YtbdfidnldaghbaaDoorQx1
import Derived.Test.YtbdfidnldaghbaaDoorOwn
namespace Go.Proofs.YtbdfidnldaghbaaDoor.Q
open Go.RowKit Go.Proofs.YtbdfidnldaghbaaDoorW.PrintWords Go.Proofs.YtbdfidnldaghbaaDoorW.PrintLast Go.Proofs.YtbdfidnldaghbaaDoorW.PrintMore Go.Proofs.YtbdfidnldaghbaaDoor.Own Go.Proofs.YtbdfidnldaghbaaDoor
set_option linter.unusedVariables false
set_option linter.unusedSimpArgs false
def laws_FnExactRowText.Facts (k : Nat) (l0 : List Int) : Prop :=
  ((l0.length : Int) > 1048576) ∨
  (∃ (t1 : List Int) (t2 : ByteArray), ¬ (l0.length : Int) > 1048576 ∧ laws_toIntS.f k l0 = some t1 ∧ spec_RowText.f k t1 = some t2 ∧ impl_RowText.f k t1 = some t2 ∧ laws_eqIntS.f k t1 t1 = some true)
set_option maxHeartbeats 8000000 in
set_option maxRecDepth 100000 in
theorem laws_FnExactRowText.way0 (k : Nat) (A0 : Option Addr) (c0 : Nat) (l0 : List Int) (w : World) (hr0 : Kd.C (Kd.int .i64) w A0 l0.length l0) (hc0 : l0.length ≤ c0) (HT : Aside0 (Lay.Tab w))  (f0 : (l0.length : Int) > 1048576) :
    Calls Tryd.prog 3 #[.slice A0 l0.length c0] w fun e w' => e = .returned (.bool true) ∧ Below w.heap.size w w' := by
  have HR0 := Aside0.mk hr0
  have HC0 := Aside0.mk hc0
  clear hr0 hc0
  have HB := Aside0.mk (Below.refl w.heap.size w)
  have b0 : decide ((l0.length : Int) > 1048576) = true := decide_eq_true f0
  clear f0
  go_enter Tryd.func3, Tryd.ntmps3
  go_wp2
  go_ret
  exact ⟨by first | rfl | (simp; done) | (simp [*]; done), by repeat (first | (with_reducible first | exact HB.out | apply below_alloc | apply pw_below_drewN | apply below_drew1) | exact HB.out)⟩
set_option maxHeartbeats 8000000 in
set_option maxRecDepth 100000 in
theorem laws_FnExactRowText.main (k : Nat) (A0 : Option Addr) (c0 : Nat) (l0 : List Int) (w : World) (hr0 : Kd.C (Kd.int .i64) w A0 l0.length l0) (hc0 : l0.length ≤ c0) (HT : Aside0 (Lay.Tab w)) (t1 : List Int) (t2 : ByteArray) (f0 : ¬ (l0.length : Int) > 1048576) (f1 : laws_toIntS.f k l0 = some t1) (f2 : spec_RowText.f k t1 = some t2) (f3 : impl_RowText.f k t1 = some t2) (f4 : laws_eqIntS.f k t1 t1 = some true) :
    Calls Tryd.prog 3 #[.slice A0 l0.length c0] w fun e w' => e = .returned (.bool true) ∧ Below w.heap.size w w' := by
  have HR0 := Aside0.mk hr0
  have HC0 := Aside0.mk hc0
  clear hr0 hc0
  have HB := Aside0.mk (Below.refl w.heap.size w)
  have b0 : decide ((l0.length : Int) > 1048576) = false := decide_eq_false f0
  clear f0
  have F1 := Aside0.mk f1
  clear f1
  have F2 := Aside0.mk f2
  clear f2
  have F3 := Aside0.mk f3
  clear f3
  have F4 := Aside0.mk f4
  clear f4
  go_enter Tryd.func3, Tryd.ntmps3
  go_wp2_with (first | ((with_reducible refine gate_dst (N := 10) rfl ?_); refine goesL_ (some 10) rfl rfl Tryd.func6 (by kernel_rfl) rfl #[.slice A0 l0.length c0] rfl (by (try simp only [List.map_toArray, List.map_cons, List.map_nil]); first | done | rfl) ?_; (with_reducible refine (laws_toIntS.calls k A0 c0 l0 _ _ (C_now HR0.out (by repeat (first | (with_reducible first | exact HB.out | apply below_alloc | apply pw_below_drewN | apply below_drew1) | exact HB.out))) HC0.out F1.out).mono ?_); rintro e wn1 ⟨v0, rfl, ho0, hb⟩; refine ⟨_, rfl, ?_⟩; obtain ⟨lo0, hi0, q0, e0_⟩ := LR.make ho0 (by repeat (first | (with_reducible first | exact HB.out | apply below_alloc | apply pw_below_drewN | apply below_drew1) | exact HB.out)) hb; clear e0_; have nb_ := Aside0.mk (below_step (by repeat (first | (with_reducible first | exact HB.out | apply below_alloc | apply pw_below_drewN | apply below_drew1) | exact HB.out)) hb); have HO0 := Aside0.mk q0; clear q0 ho0; obtain ⟨Ao0, co0, eo0, _⟩ := HO0.out.reads; subst eo0; clear HB hb; have HB := nb_; clear nb_) | ((with_reducible refine gate_dst (N := 11) rfl ?_); refine goesL_ (some 11) rfl rfl Tryd.func5 (by kernel_rfl) rfl #[.slice Ao0 t1.length co0] rfl (by (try simp only [List.map_toArray, List.map_cons, List.map_nil]); first | done | rfl) ?_; (with_reducible refine (spec_RowText.calls k Ao0 co0 t1 _ _ (by (with_reducible repeat (first | apply Kd.C_alloc | apply Kd.C_drewN | apply Kd.C_drew)); exact HO0.out.C) HO0.out.cap F2.out).mono ?_); rintro e wn2 ⟨rfl, hb⟩; refine ⟨_, rfl, ?_⟩; have nb_ := Aside0.mk (below_step (by repeat (first | (with_reducible first | exact HB.out | apply below_alloc | apply pw_below_drewN | apply below_drew1) | exact HB.out)) hb); clear HB HO0 hb; have HB := nb_; clear nb_) | ((with_reducible refine gate_dst (N := 13) rfl ?_); refine goesL_ (some 13) rfl rfl Tryd.func6 (by kernel_rfl) rfl #[.slice A0 l0.length c0] rfl (by (try simp only [List.map_toArray, List.map_cons, List.map_nil]); first | done | rfl) ?_; (with_reducible refine (laws_toIntS.calls k A0 c0 l0 _ _ (C_now HR0.out (by repeat (first | (with_reducible first | exact HB.out | apply below_alloc | apply pw_below_drewN | apply below_drew1) | exact HB.out))) HC0.out F1.out).mono ?_); rintro e wn3 ⟨v1, rfl, ho1, hb⟩; refine ⟨_, rfl, ?_⟩; obtain ⟨lo1, hi1, q1, e1_⟩ := LR.make ho1 (by repeat (first | (with_reducible first | exact HB.out | apply below_alloc | apply pw_below_drewN | apply below_drew1) | exact HB.out)) hb; clear e1_; have nb_ := Aside0.mk (below_step (by repeat (first | (with_reducible first | exact HB.out | apply below_alloc | apply pw_below_drewN | apply below_drew1) | exact HB.out)) hb); have HO1 := Aside0.mk q1; clear q1 ho1; obtain ⟨Ao1, co1, eo1, _⟩ := HO1.out.reads; subst eo1; clear HB hb; have HB := nb_; clear nb_) | ((with_reducible refine gate_dst (N := 15) rfl ?_); refine goesL_ (some 15) rfl rfl Tryd.func7 (by kernel_rfl) rfl #[.slice Ao1 t1.length co1] rfl (by (try simp only [List.map_toArray, List.map_cons, List.map_nil]); first | done | rfl) ?_; (with_reducible refine (impl_RowText.calls k Ao1 co1 t1 _ _ (by (with_reducible repeat (first | apply Kd.C_alloc | apply Kd.C_drewN | apply Kd.C_drew)); exact HO1.out.C) HO1.out.cap F3.out).mono ?_); rintro e wn4 ⟨rfl, hb⟩; refine ⟨_, rfl, ?_⟩; have n1_ := Aside0.mk (LR.below (by (with_reducible repeat (first | apply LR.alloc | apply LR.drewN)); exact HO1.out) hb); have nb_ := Aside0.mk (below_step (by repeat (first | (with_reducible first | exact HB.out | apply below_alloc | apply pw_below_drewN | apply below_drew1) | exact HB.out)) hb); clear HB HO1 hb; have HB := nb_; clear nb_; have HO1 := n1_; clear n1_) | ((with_reducible refine gate_dst (N := 21) rfl ?_); refine goesL_ (some 21) rfl rfl Tryd.func6 (by kernel_rfl) rfl #[.slice A0 l0.length c0] rfl (by (try simp only [List.map_toArray, List.map_cons, List.map_nil]); first | done | rfl) ?_; (with_reducible refine (laws_toIntS.calls k A0 c0 l0 _ _ (C_now HR0.out (by repeat (first | (with_reducible first | exact HB.out | apply below_alloc | apply pw_below_drewN | apply below_drew1) | exact HB.out))) HC0.out F1.out).mono ?_); rintro e wn5 ⟨v2, rfl, ho2, hb⟩; refine ⟨_, rfl, ?_⟩; obtain ⟨lo2, hi2, q2, e2_⟩ := LR.make ho2 (by repeat (first | (with_reducible first | exact HB.out | apply below_alloc | apply pw_below_drewN | apply below_drew1) | exact HB.out)) hb; have HL1_2 := Aside0.mk (LR.then_ (by (with_reducible repeat (first | apply LR.alloc | apply LR.drewN)); exact HO1.out) e2_); clear e2_; have n1_ := Aside0.mk (LR.below (by (with_reducible repeat (first | apply LR.alloc | apply LR.drewN)); exact HO1.out) hb); have nb_ := Aside0.mk (below_step (by repeat (first | (with_reducible first | exact HB.out | apply below_alloc | apply pw_below_drewN | apply below_drew1) | exact HB.out)) hb); have HO2 := Aside0.mk q2; clear q2 ho2; obtain ⟨Ao2, co2, eo2, _⟩ := HO2.out.reads; subst eo2; clear HB HO1 hb; have HB := nb_; clear nb_; have HO1 := n1_; clear n1_) | ((with_reducible refine gate_dst (N := 22) rfl ?_); refine goesL_ (some 22) rfl rfl Tryd.func8 (by kernel_rfl) rfl #[.slice Ao1 t1.length co1, .slice Ao2 t1.length co2] rfl (by (try simp only [List.map_toArray, List.map_cons, List.map_nil]); first | done | rfl) ?_; (with_reducible refine (laws_eqIntS.calls k Ao1 co1 t1 Ao2 co2 t1 _ _ (by (with_reducible repeat (first | apply Kd.C_alloc | apply Kd.C_drewN | apply Kd.C_drew)); exact HO1.out.C) HO1.out.cap (by (with_reducible repeat (first | apply Kd.C_alloc | apply Kd.C_drewN | apply Kd.C_drew)); exact HO2.out.C) HO2.out.cap F4.out).mono ?_); rintro e wn6 ⟨rfl, hb⟩; refine ⟨_, rfl, ?_⟩; replace hb := hb.below; have nb_ := Aside0.mk (below_step (by repeat (first | (with_reducible first | exact HB.out | apply below_alloc | apply pw_below_drewN | apply below_drew1) | exact HB.out)) hb); clear HB HO1 HO2 hb; have HB := nb_; clear nb_))
  go_ret
  exact ⟨by first | rfl | (simp; done) | (simp [*]; done), by repeat (first | (with_reducible first | exact HB.out | apply below_alloc | apply pw_below_drewN | apply below_drew1) | exact HB.out)⟩
theorem laws_FnExactRowText.calls (k : Nat) (A0 : Option Addr) (c0 : Nat) (l0 : List Int) (w : World) (hr0 : Kd.C (Kd.int .i64) w A0 l0.length l0) (hc0 : l0.length ≤ c0) (HT : Aside0 (Lay.Tab w)) (h : laws_FnExactRowText.Facts k l0) :
    Calls Tryd.prog 3 #[.slice A0 l0.length c0] w fun e w' => e = .returned (.bool true) ∧ Below w.heap.size w w' := by
  rcases h with f0 | ⟨t1, t2, f0, f1, f2, f3, f4⟩
  · exact laws_FnExactRowText.way0 k A0 c0 l0 w hr0 hc0 HT  f0
  · exact laws_FnExactRowText.main k A0 c0 l0 w hr0 hc0 HT t1 t2 f0 f1 f2 f3 f4
end Go.Proofs.YtbdfidnldaghbaaDoor.Q
