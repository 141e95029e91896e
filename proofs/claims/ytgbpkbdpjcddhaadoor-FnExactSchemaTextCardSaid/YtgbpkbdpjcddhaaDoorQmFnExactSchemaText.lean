/- The walk of the law FnExactSchemaText: its own body, over the contracts of what it calls; written by a program of this session. -/
import Derived.Test.YtgbpkbdpjcddhaaDoorQx0
import Derived.Test.YtgbpkbdpjcddhaaDoorQx1
import Derived.Test.YtgbpkbdpjcddhaaDoorQx2
import Derived.Test.YtgbpkbdpjcddhaaDoorQx4
import Derived.Test.YtgbpkbdpjcddhaaDoorQx5
import Derived.Test.YtgbpkbdpjcddhaaDoorOwn
namespace Go.Proofs.YtgbpkbdpjcddhaaDoor.Q
open Go.RowKit Go.Proofs.YtgbpkbdpjcddhaaDoorW.PrintWords Go.Proofs.YtgbpkbdpjcddhaaDoorW.PrintLast Go.Proofs.YtgbpkbdpjcddhaaDoorW.PrintMore Go.Proofs.YtgbpkbdpjcddhaaDoor.Own Go.Proofs.YtgbpkbdpjcddhaaDoor
set_option linter.unusedVariables false
set_option linter.unusedSimpArgs false
def laws_FnExactSchemaText.Facts (k : Nat) (l0 : List (S46)) : Prop :=
  (∃ (t1 : Int), laws_szTableS.f k l0 1048576 = some t1 ∧ t1 < 0) ∨
  (∃ (t1 : Int) (t2 : List (S38)) (t3 : ByteArray), laws_szTableS.f k l0 1048576 = some t1 ∧ ¬ t1 < 0 ∧ laws_toTableS.f k l0 = some t2 ∧ spec_SchemaText.f k t2 = some t3 ∧ impl_SchemaText.f k t2 = some t3 ∧ laws_eqTableS.f k t2 t2 = some true)
set_option maxHeartbeats 8000000 in
set_option maxRecDepth 100000 in
theorem laws_FnExactSchemaText.way0 (k : Nat) (A0 : Option Addr) (c0 : Nat) (l0 : List (S46)) (w : World) (hr0 : Kd.C k46 w A0 l0.length l0) (hc0 : l0.length ≤ c0) (HT : Aside0 (Lay.Tab w)) (t1 : Int) (f0 : laws_szTableS.f k l0 1048576 = some t1) (f1 : t1 < 0) :
    Calls Tryd.prog 4 #[.slice A0 l0.length c0] w fun e w' => e = .returned (.bool true) ∧ Below w.heap.size w w' := by
  have HR0 := Aside0.mk hr0
  have HC0 := Aside0.mk hc0
  clear hr0 hc0
  have HB := Aside0.mk (Below.refl w.heap.size w)
  have F0 := Aside0.mk f0
  clear f0
  have b1 : decide (t1 < 0) = true := decide_eq_true f1
  clear f1
  go_enter Tryd.func4, Tryd.ntmps4
  go_wp2_with (first | ((with_reducible refine gate_dst (N := 9) rfl ?_); refine goesL_ (some 9) rfl rfl Tryd.func10 (by kernel_rfl) rfl #[.slice A0 l0.length c0, .int .i64 1048576] rfl (by (try simp only [List.map_toArray, List.map_cons, List.map_nil]); first | done | rfl) ?_; (with_reducible refine (laws_szTableS.calls k A0 c0 l0 1048576 _ _ (C_now HR0.out (by repeat (first | (with_reducible first | exact HB.out | apply below_alloc | apply pw_below_drewN | apply below_drew1) | exact HB.out))) HC0.out F0.out).mono ?_); rintro e wn0 ⟨rfl, hb⟩; refine ⟨_, rfl, ?_⟩; have nb_ := Aside0.mk (below_step (by repeat (first | (with_reducible first | exact HB.out | apply below_alloc | apply pw_below_drewN | apply below_drew1) | exact HB.out)) hb); clear HB hb; have HB := nb_; clear nb_))
  go_ret
  exact ⟨by first | rfl | (simp; done) | (simp [*]; done), by repeat (first | (with_reducible first | exact HB.out | apply below_alloc | apply pw_below_drewN | apply below_drew1) | exact HB.out)⟩
set_option maxHeartbeats 8000000 in
set_option maxRecDepth 100000 in
theorem laws_FnExactSchemaText.main (k : Nat) (A0 : Option Addr) (c0 : Nat) (l0 : List (S46)) (w : World) (hr0 : Kd.C k46 w A0 l0.length l0) (hc0 : l0.length ≤ c0) (HT : Aside0 (Lay.Tab w)) (t1 : Int) (t2 : List (S38)) (t3 : ByteArray) (f0 : laws_szTableS.f k l0 1048576 = some t1) (f1 : ¬ t1 < 0) (f2 : laws_toTableS.f k l0 = some t2) (f3 : spec_SchemaText.f k t2 = some t3) (f4 : impl_SchemaText.f k t2 = some t3) (f5 : laws_eqTableS.f k t2 t2 = some true) :
    Calls Tryd.prog 4 #[.slice A0 l0.length c0] w fun e w' => e = .returned (.bool true) ∧ Below w.heap.size w w' := by
  have HR0 := Aside0.mk hr0
  have HC0 := Aside0.mk hc0
  clear hr0 hc0
  have HB := Aside0.mk (Below.refl w.heap.size w)
  have F0 := Aside0.mk f0
  clear f0
  have b1 : decide (t1 < 0) = false := decide_eq_false f1
  clear f1
  have F2 := Aside0.mk f2
  clear f2
  have F3 := Aside0.mk f3
  clear f3
  have F4 := Aside0.mk f4
  clear f4
  have F5 := Aside0.mk f5
  clear f5
  go_enter Tryd.func4, Tryd.ntmps4
  go_wp2_with (first | ((with_reducible refine gate_dst (N := 9) rfl ?_); refine goesL_ (some 9) rfl rfl Tryd.func10 (by kernel_rfl) rfl #[.slice A0 l0.length c0, .int .i64 1048576] rfl (by (try simp only [List.map_toArray, List.map_cons, List.map_nil]); first | done | rfl) ?_; (with_reducible refine (laws_szTableS.calls k A0 c0 l0 1048576 _ _ (C_now HR0.out (by repeat (first | (with_reducible first | exact HB.out | apply below_alloc | apply pw_below_drewN | apply below_drew1) | exact HB.out))) HC0.out F0.out).mono ?_); rintro e wn0 ⟨rfl, hb⟩; refine ⟨_, rfl, ?_⟩; have nb_ := Aside0.mk (below_step (by repeat (first | (with_reducible first | exact HB.out | apply below_alloc | apply pw_below_drewN | apply below_drew1) | exact HB.out)) hb); clear HB hb; have HB := nb_; clear nb_) | ((with_reducible refine gate_dst (N := 13) rfl ?_); refine goesL_ (some 13) rfl rfl Tryd.func12 (by kernel_rfl) rfl #[.slice A0 l0.length c0] rfl (by (try simp only [List.map_toArray, List.map_cons, List.map_nil]); first | done | rfl) ?_; (with_reducible refine (laws_toTableS.calls k A0 c0 l0 _ _ (C_now HR0.out (by repeat (first | (with_reducible first | exact HB.out | apply below_alloc | apply pw_below_drewN | apply below_drew1) | exact HB.out))) HC0.out F2.out).mono ?_); rintro e wn2 ⟨v0, rfl, ho0, hb⟩; refine ⟨_, rfl, ?_⟩; obtain ⟨lo0, hi0, q0, e0_⟩ := LR.make ho0 (by repeat (first | (with_reducible first | exact HB.out | apply below_alloc | apply pw_below_drewN | apply below_drew1) | exact HB.out)) hb; clear e0_; have nb_ := Aside0.mk (below_step (by repeat (first | (with_reducible first | exact HB.out | apply below_alloc | apply pw_below_drewN | apply below_drew1) | exact HB.out)) hb); have HO0 := Aside0.mk q0; clear q0 ho0; obtain ⟨Ao0, co0, eo0, _⟩ := HO0.out.reads; subst eo0; clear HB hb; have HB := nb_; clear nb_) | ((with_reducible refine gate_dst (N := 14) rfl ?_); refine goesL_ (some 14) rfl rfl Tryd.func11 (by kernel_rfl) rfl #[.slice Ao0 t2.length co0] rfl (by (try simp only [List.map_toArray, List.map_cons, List.map_nil]); first | done | rfl) ?_; (with_reducible refine (spec_SchemaText.calls k Ao0 co0 t2 _ _ (by (with_reducible repeat (first | apply Kd.C_alloc | apply Kd.C_drewN | apply Kd.C_drew)); exact HO0.out.C) HO0.out.cap F3.out).mono ?_); rintro e wn3 ⟨rfl, hb⟩; refine ⟨_, rfl, ?_⟩; have nb_ := Aside0.mk (below_step (by repeat (first | (with_reducible first | exact HB.out | apply below_alloc | apply pw_below_drewN | apply below_drew1) | exact HB.out)) hb); clear HB HO0 hb; have HB := nb_; clear nb_) | ((with_reducible refine gate_dst (N := 16) rfl ?_); refine goesL_ (some 16) rfl rfl Tryd.func12 (by kernel_rfl) rfl #[.slice A0 l0.length c0] rfl (by (try simp only [List.map_toArray, List.map_cons, List.map_nil]); first | done | rfl) ?_; (with_reducible refine (laws_toTableS.calls k A0 c0 l0 _ _ (C_now HR0.out (by repeat (first | (with_reducible first | exact HB.out | apply below_alloc | apply pw_below_drewN | apply below_drew1) | exact HB.out))) HC0.out F2.out).mono ?_); rintro e wn4 ⟨v1, rfl, ho1, hb⟩; refine ⟨_, rfl, ?_⟩; obtain ⟨lo1, hi1, q1, e1_⟩ := LR.make ho1 (by repeat (first | (with_reducible first | exact HB.out | apply below_alloc | apply pw_below_drewN | apply below_drew1) | exact HB.out)) hb; clear e1_; have nb_ := Aside0.mk (below_step (by repeat (first | (with_reducible first | exact HB.out | apply below_alloc | apply pw_below_drewN | apply below_drew1) | exact HB.out)) hb); have HO1 := Aside0.mk q1; clear q1 ho1; obtain ⟨Ao1, co1, eo1, _⟩ := HO1.out.reads; subst eo1; clear HB hb; have HB := nb_; clear nb_) | ((with_reducible refine gate_dst (N := 18) rfl ?_); refine goesL_ (some 18) rfl rfl Tryd.func13 (by kernel_rfl) rfl #[.slice Ao1 t2.length co1] rfl (by (try simp only [List.map_toArray, List.map_cons, List.map_nil]); first | done | rfl) ?_; (with_reducible refine (impl_SchemaText.calls k Ao1 co1 t2 _ _ (by (with_reducible repeat (first | apply Kd.C_alloc | apply Kd.C_drewN | apply Kd.C_drew)); exact HO1.out.C) HO1.out.cap F4.out).mono ?_); rintro e wn5 ⟨rfl, hb⟩; refine ⟨_, rfl, ?_⟩; have n1_ := Aside0.mk (LR.below (by (with_reducible repeat (first | apply LR.alloc | apply LR.drewN)); exact HO1.out) hb); have nb_ := Aside0.mk (below_step (by repeat (first | (with_reducible first | exact HB.out | apply below_alloc | apply pw_below_drewN | apply below_drew1) | exact HB.out)) hb); clear HB HO1 hb; have HB := nb_; clear nb_; have HO1 := n1_; clear n1_) | ((with_reducible refine gate_dst (N := 24) rfl ?_); refine goesL_ (some 24) rfl rfl Tryd.func12 (by kernel_rfl) rfl #[.slice A0 l0.length c0] rfl (by (try simp only [List.map_toArray, List.map_cons, List.map_nil]); first | done | rfl) ?_; (with_reducible refine (laws_toTableS.calls k A0 c0 l0 _ _ (C_now HR0.out (by repeat (first | (with_reducible first | exact HB.out | apply below_alloc | apply pw_below_drewN | apply below_drew1) | exact HB.out))) HC0.out F2.out).mono ?_); rintro e wn6 ⟨v2, rfl, ho2, hb⟩; refine ⟨_, rfl, ?_⟩; obtain ⟨lo2, hi2, q2, e2_⟩ := LR.make ho2 (by repeat (first | (with_reducible first | exact HB.out | apply below_alloc | apply pw_below_drewN | apply below_drew1) | exact HB.out)) hb; have HL1_2 := Aside0.mk (LR.then_ (by (with_reducible repeat (first | apply LR.alloc | apply LR.drewN)); exact HO1.out) e2_); clear e2_; have n1_ := Aside0.mk (LR.below (by (with_reducible repeat (first | apply LR.alloc | apply LR.drewN)); exact HO1.out) hb); have nb_ := Aside0.mk (below_step (by repeat (first | (with_reducible first | exact HB.out | apply below_alloc | apply pw_below_drewN | apply below_drew1) | exact HB.out)) hb); have HO2 := Aside0.mk q2; clear q2 ho2; obtain ⟨Ao2, co2, eo2, _⟩ := HO2.out.reads; subst eo2; clear HB HO1 hb; have HB := nb_; clear nb_; have HO1 := n1_; clear n1_) | ((with_reducible refine gate_dst (N := 25) rfl ?_); refine goesL_ (some 25) rfl rfl Tryd.func7 (by kernel_rfl) rfl #[.slice Ao1 t2.length co1, .slice Ao2 t2.length co2] rfl (by (try simp only [List.map_toArray, List.map_cons, List.map_nil]); first | done | rfl) ?_; (with_reducible refine (laws_eqTableS.calls k Ao1 co1 t2 Ao2 co2 t2 _ _ (by (with_reducible repeat (first | apply Kd.C_alloc | apply Kd.C_drewN | apply Kd.C_drew)); exact HO1.out.C) HO1.out.cap (by (with_reducible repeat (first | apply Kd.C_alloc | apply Kd.C_drewN | apply Kd.C_drew)); exact HO2.out.C) HO2.out.cap F5.out).mono ?_); rintro e wn7 ⟨rfl, hb⟩; refine ⟨_, rfl, ?_⟩; have nb_ := Aside0.mk (below_step (by repeat (first | (with_reducible first | exact HB.out | apply below_alloc | apply pw_below_drewN | apply below_drew1) | exact HB.out)) hb); clear HB HO1 HO2 hb; have HB := nb_; clear nb_))
  go_ret
  exact ⟨by first | rfl | (simp; done) | (simp [*]; done), by repeat (first | (with_reducible first | exact HB.out | apply below_alloc | apply pw_below_drewN | apply below_drew1) | exact HB.out)⟩
theorem laws_FnExactSchemaText.calls (k : Nat) (A0 : Option Addr) (c0 : Nat) (l0 : List (S46)) (w : World) (hr0 : Kd.C k46 w A0 l0.length l0) (hc0 : l0.length ≤ c0) (HT : Aside0 (Lay.Tab w)) (h : laws_FnExactSchemaText.Facts k l0) :
    Calls Tryd.prog 4 #[.slice A0 l0.length c0] w fun e w' => e = .returned (.bool true) ∧ Below w.heap.size w w' := by
  rcases h with ⟨t1, f0, f1⟩ | ⟨t1, t2, t3, f0, f1, f2, f3, f4, f5⟩
  · exact laws_FnExactSchemaText.way0 k A0 c0 l0 w hr0 hc0 HT t1 f0 f1
  · exact laws_FnExactSchemaText.main k A0 c0 l0 w hr0 hc0 HT t1 t2 t3 f0 f1 f2 f3 f4 f5
end Go.Proofs.YtgbpkbdpjcddhaaDoor.Q
