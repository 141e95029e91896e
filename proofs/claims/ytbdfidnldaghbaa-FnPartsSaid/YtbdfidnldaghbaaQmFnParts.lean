/- The walk of the law FnParts: its own body, over the contracts of what it calls; written by a program of this session. -/
import Derived.Test.YtbdfidnldaghbaaQx84
import Derived.Test.YtbdfidnldaghbaaEp
namespace Go.Proofs.Ytbdfidnldaghbaa.Q
open Go.RowKit Go.Proofs.Ytbdfidnldaghbaa.Own Go.Proofs.YtbdfidnldaghbaaW.PrintWords Go.Proofs.YtbdfidnldaghbaaW.PrintLast Go.Proofs.YtbdfidnldaghbaaW.PrintMore Go.Proofs.Ytbdfidnldaghbaa.Lib Go.Proofs.Ytbdfidnldaghbaa.Ep Go.Proofs.Ytbdfidnldaghbaa
set_option linter.unusedVariables false
set_option linter.unusedSimpArgs false
def Sm (p : List S58) : Prop := p.length ≤ 1048576 ∧ ∀ x ∈ p, x.f1.size ≤ 1048576 ∧ x.f6.length ≤ 1048576
theorem Smq.sm {p : List S58} (h : Smq p) : Sm p := ⟨Nat.le_trans h.len (by decide), fun x hx => ⟨Nat.le_trans (h.el x hx).1 (by decide), Nat.le_trans (h.el x hx).2 (by decide)⟩⟩
theorem Sm.part {p : List S58} (h : Sm p) (k : Int) : Sm (partOf p k) := ⟨Nat.le_trans (partOf_length p k) h.1, fun x hx => h.2 x (partOf_mem hx)⟩
section
variable {w : World} {A : Option Addr} {c : Nat} {p : List S58}
theorem iOk_ex (hs : Sm p) (hr : Kd.C k58 w A p.length p) (hc : p.length ≤ c) {b : Bool} (hb : planOk p = b) : Calls Try.prog 34 #[.slice A p.length c] w fun e w' => e = .returned (.bool b) ∧ Below w.heap.size w w' := by
  obtain ⟨K, h⟩ := ev_impl_PlanOk p hs.1 hs.2
  exact impl_PlanOk.calls K A c p b w hr hc (hb ▸ h K (Nat.le_refl K))
theorem sOk_ex (hs : Sm p) (hr : Kd.C k58 w A p.length p) (hc : p.length ≤ c) {b : Bool} (hb : planOk p = b) : Calls Try.prog 35 #[.slice A p.length c] w fun e w' => e = .returned (.bool b) ∧ Below w.heap.size w w' := by
  obtain ⟨K, h⟩ := ev_spec_PlanOk p hs.1 hs.2
  exact spec_PlanOk.calls K A c p b w hr hc (hb ▸ h K (Nat.le_refl K))
theorem iDep_ex (hs : Sm p) (hr : Kd.C k58 w A p.length p) (hc : p.length ≤ c) {d : Int} (hd : depthOf p = d) : Calls Try.prog 36 #[.slice A p.length c] w fun e w' => e = .returned (.int .i64 d) ∧ Below w.heap.size w w' := by
  obtain ⟨q, ⟨K, h⟩, e⟩ := ev_impl_DepthOf p hs.1 hs.2
  have : q = d := e.trans hd
  subst this
  exact impl_DepthOf.calls K A c p q w hr hc (h K (Nat.le_refl K))
theorem sDep_ex (hs : Sm p) (hr : Kd.C k58 w A p.length p) (hc : p.length ≤ c) {d : Int} (hd : depthOf p = d) : Calls Try.prog 37 #[.slice A p.length c] w fun e w' => e = .returned (.int .i64 d) ∧ Below w.heap.size w w' := by
  obtain ⟨q, ⟨K, h⟩, e⟩ := ev_spec_DepthOf p hs.1 hs.2
  have : q = d := e.trans hd
  subst this
  exact spec_DepthOf.calls K A c p q w hr hc (h K (Nat.le_refl K))
theorem end_ex (hs : Sm p) (hr : Kd.C k58 w A p.length p) (hc : p.length ≤ c) (k : Int) {d : Int} (hd : endOf p k = d) : Calls Try.prog 38 #[.slice A p.length c, .int .i64 k] w fun e w' => e = .returned (.int .i64 d) ∧ Below w.heap.size w w' := by
  obtain ⟨K, h⟩ := ev_impl_EndOf p hs.1 hs.2 k
  exact impl_EndOf.calls K A c p k d w hr hc (hd ▸ h K (Nat.le_refl K))
theorem part_ex (hs : Sm p) (hr : Kd.C k58 w A p.length p) (hc : p.length ≤ c) (k : Int) {q : List S58} (hq : partOf p k = q) : Calls Try.prog 39 #[.slice A p.length c, .int .i64 k] w fun e w' => ∃ A1 c1, e = .returned (.slice A1 q.length c1) ∧ q.length ≤ c1 ∧ Kd.C k58 w' A1 q.length q ∧ Below w.heap.size w w' := by
  obtain ⟨K, h⟩ := ev_impl_PartOf p hs.1 hs.2 k
  refine (impl_PartOf.calls K A c p k q w hr hc (hq ▸ h K (Nat.le_refl K))).mono ?_
  rintro e w' ⟨v, rfl, ho, hb⟩
  obtain ⟨A1, c1, rfl, h1, h2⟩ := Kd.S_reads ho
  exact ⟨A1, c1, rfl, h1, h2, hb⟩
theorem put_ex (hs : Sm p) (hr : Kd.C k58 w A p.length p) (hc : p.length ≤ c) (k : Int) {A2 : Option Addr} {c2 : Nat} {q : List S58} (hs2 : Sm q) (hr2 : Kd.C k58 w A2 q.length q) (hc2 : q.length ≤ c2) {r : List S58} {b : Bool} (h : putPart p k q = (r, b)) : Calls Try.prog 40 #[.slice A p.length c, .int .i64 k, .slice A2 q.length c2] w fun e w' => ∃ A1 c1, e = .returned (.tuple #[.slice A1 r.length c1, .bool b]) ∧ r.length ≤ c1 ∧ Kd.C k58 w' A1 r.length r ∧ Below w.heap.size w w' := by
  obtain ⟨K, h1⟩ := ev_impl_PutPart p hs.1 hs.2 k q hs2.1 hs2.2
  refine (impl_PutPart.calls K A c p k A2 c2 q r b w hr hc hr2 hc2 (h ▸ h1 K (Nat.le_refl K))).mono ?_
  rintro e w' ⟨v, rfl, ho, hb⟩
  obtain ⟨A1, c1, rfl, h1, h2⟩ := Kd.S_reads ho
  exact ⟨A1, c1, rfl, h1, h2, hb⟩
theorem kids_ex (hs : Sm p) (hr : Kd.C k58 w A p.length p) (hc : p.length ≤ c) (k : Int) {q : List Int} (hq : kidsOf p k = q) : Calls Try.prog 41 #[.slice A p.length c, .int .i64 k] w fun e w' => ∃ A1 c1, e = .returned (.slice A1 q.length c1) ∧ q.length ≤ c1 ∧ Kd.C (Kd.int .i64) w' A1 q.length q ∧ Below w.heap.size w w' := by
  obtain ⟨K, h⟩ := ev_impl_ChildrenOf p hs.1 hs.2 k
  refine (impl_ChildrenOf.calls K A c p k q w hr hc (hq ▸ h K (Nat.le_refl K))).mono ?_
  rintro e w' ⟨v, rfl, ho, hb⟩
  obtain ⟨A1, c1, rfl, h1, h2⟩ := Kd.R_reads ho
  exact ⟨A1, c1, rfl, h1, h2, hb⟩
theorem same_ex (hs : Sm p) {A1 A2 : Option Addr} {c1 c2 : Nat} (hr : Kd.C k58 w A1 p.length p) (hc : p.length ≤ c1) (hr2 : Kd.C k58 w A2 p.length p) (hc2 : p.length ≤ c2) : Calls Try.prog 42 #[.slice A1 p.length c1, .slice A2 p.length c2] w fun e w' => e = .returned (.bool true) ∧ Below w.heap.size w w' := by
  obtain ⟨q, ⟨K, h⟩, e⟩ := ev_impl_SamePlan p p (Nat.le_trans hs.1 (by decide)) (fun x hx => Nat.le_trans (hs.2 x hx).2 (by decide))
  have : q = true := e.2 rfl
  subst this
  exact impl_SamePlan.calls K A1 c1 p A2 c2 p true w hr hc hr2 hc2 (h K (Nat.le_refl K))
theorem ar_ex (a : Int) {r : Int} (h : arity a = r) : Calls Try.prog 43 #[.int .i64 a] w fun e w' => e = .returned (.int .i64 r) ∧ Drawn0 w w' := by
  obtain ⟨K, h1⟩ := ev_impl_ArityOf a
  exact impl_ArityOf.calls K a r w (h ▸ h1 K (Nat.le_refl K))
theorem cnt_ex (hs : Sm p) (hr : Kd.C k58 w A p.length p) (hc : p.length ≤ c) (hok : planOk p = true) (k : Int) {d : Int} (hd : countK k p = d) : Calls Try.prog 44 #[.slice A p.length c, .int .i64 k] w fun e w' => e = .returned (.int .i64 d) ∧ Below w.heap.size w w' := by
  obtain ⟨K, h⟩ := ev_impl_CountKind p hs.1 hs.2 k
  have h2 := h K (Nat.le_refl K)
  rw [if_pos hok, hd] at h2
  exact impl_CountKind.calls K A c p k d w hr hc h2
theorem tab_ex (hs : Sm p) (hr : Kd.C k58 w A p.length p) (hc : p.length ≤ c) : Calls Try.prog 45 #[.slice A p.length c] w fun e w' => ∃ A1 c1, e = .returned (.slice A1 (tablesOf p).length c1) ∧ Below w.heap.size w w' := by
  obtain ⟨K, h⟩ := ev_impl_TablesOf p hs.1 hs.2
  refine (impl_TablesOf.calls K A c p _ w hr hc (h K (Nat.le_refl K))).mono ?_
  rintro e w' ⟨v, rfl, ho, hb⟩
  obtain ⟨A1, c1, rfl⟩ := Kd.R_slice ho
  exact ⟨A1, c1, rfl, hb⟩
end
/-- What the walk's round wants to know of the place k. -/
structure PlaceLaw (p : List S58) (kn : Nat) (x5 en : Int) (part : List S58) (ks : List Int) : Prop where
  hx : x5 = (kn : Int)
  hp : partOf p x5 = part
  he : endOf p x5 = en
  hk : kidsOf p x5 = ks
  ok : planOk part = true
  put : putPart p x5 part = (p, true)
  len : wrap64 (x5 + (part.length : Int)) = en
  ar : arity (rd_T58 p x5).f0 = (ks.length : Int)
  at_ : ∀ i, i < ks.length → rd ks (i : Int) = nxt p kn i
  end_ : nxt p kn ks.length = en
  deep : depthOf part = dpt p kn ks.length + 1
  lo : ∀ i, i ≤ ks.length → 0 ≤ dpt p kn i ∧ dpt p kn i ≤ 10
  kl : ks.length ≤ 2
theorem place_law {p : List S58} (h : planOk p = true) {x5 : Int} (h0 : 0 ≤ x5) (h1 : x5 < (p.length : Int)) : ∃ kn en part ks, PlaceLaw p kn x5 en part ks := by
  obtain ⟨kn, rfl⟩ := Int.eq_ofNat_of_zero_le h0
  have hk : kn < p.length := by omega
  obtain ⟨x, hx, he⟩ := end_at h hk
  have hr := endP_range p _ _ _ hx
  obtain ⟨_, hl, hok, _⟩ := part_law h hk hx
  have K := kids_law h hk
  have hlen := planOk_len h
  refine ⟨kn, endOf p kn, partOf p kn, kidsOf p kn, rfl, rfl, rfl, rfl, hok, put_back h hk, ?_, K.ar.symm, K.at_, K.end_, K.deep, K.lo, kidsOf_length _ _⟩
  rw [he, hl]
  have : (kn : Int) + ((x.1 - kn : Nat) : Int) = x.1 := by omega
  rw [this]
  unfold wrap64
  omega
set_option maxHeartbeats 8000000 in
set_option maxRecDepth 100000 in
theorem laws_FnParts.big (A0 : Option Addr) (c0 : Nat) (l0 : List Int) (w : World) (hr0 : Kd.C (Kd.int .u8) w A0 l0.length l0) (hc0 : l0.length ≤ c0) (fb : laws_big.f l0 = some true) :
    Calls Try.prog 6 #[.slice A0 l0.length c0] w fun e w' => e = .returned (.bool true) ∧ Below w.heap.size w w' := by
  have HR0 := Aside0.mk hr0
  have HC0 := Aside0.mk hc0
  have HB := Aside0.mk (Below.refl w.heap.size w)
  clear hr0 hc0
  have FB := Aside0.mk fb
  clear fb
  go_enter Try.func6, Try.ntmps6
  go_wp2_with (first | ((with_reducible refine gate_dst (N := 18) rfl ?_); refine goesL_ (some 18) rfl rfl Try.func16 (by kernel_rfl) rfl #[.slice A0 l0.length c0] rfl (by (try simp only [List.map_toArray, List.map_cons, List.map_nil]); first | done | rfl) ?_; (with_reducible refine (laws_big.calls A0 c0 l0 true _ (C_now HR0.out (by repeat (first | (with_reducible first | exact HB.out | apply below_alloc | apply pw_below_drewN | apply below_drew1) | exact HB.out))) HC0.out FB.out).mono ?_); rintro e w' ⟨rfl, ⟨nd, rfl⟩⟩; refine ⟨_, rfl, ?_⟩))
  go_ret
  exact ⟨(by first | rfl | (simp; done) | (simp [*]; done)), by repeat (first | (with_reducible first | exact HB.out | apply below_alloc | apply pw_below_drewN | apply below_drew1) | exact HB.out)⟩
set_option maxHeartbeats 8000000 in
set_option maxRecDepth 100000 in
theorem laws_FnParts.main (A0 : Option Addr) (c0 : Nat) (l0 : List Int) (w : World) (hr0 : Kd.C (Kd.int .u8) w A0 l0.length l0) (hc0 : l0.length ≤ c0) (fb : laws_big.f l0 = some false) (hl : l0.length ≤ 1099511627776) :
    Calls Try.prog 6 #[.slice A0 l0.length c0] w fun e w' => e = .returned (.bool true) ∧ Below w.heap.size w w' := by
  have HR0 := Aside0.mk hr0
  have HC0 := Aside0.mk hc0
  have HB := Aside0.mk (Below.refl w.heap.size w)
  clear hr0 hc0
  have FB := Aside0.mk fb
  have HL := Aside0.mk hl
  clear fb hl
  go_enter Try.func6, Try.ntmps6
  go_upto_region 4 with (first | ((with_reducible refine gate_dst (N := 18) rfl ?_); refine goesL_ (some 18) rfl rfl Try.func16 (by kernel_rfl) rfl #[.slice A0 l0.length c0] rfl (by (try simp only [List.map_toArray, List.map_cons, List.map_nil]); first | done | rfl) ?_; (with_reducible refine (laws_big.calls A0 c0 l0 false _ (C_now HR0.out (by repeat (first | (with_reducible first | exact HB.out | apply below_alloc | apply pw_below_drewN | apply below_drew1) | exact HB.out))) HC0.out FB.out).mono ?_); rintro e w' ⟨rfl, ⟨nd, rfl⟩⟩; refine ⟨_, rfl, ?_⟩) | ((with_reducible refine gate_dst (N := 20) rfl ?_); refine goesL_ (some 20) rfl rfl Try.func33 (by kernel_rfl) rfl #[.slice A0 l0.length c0] rfl (by (try simp only [List.map_toArray, List.map_cons, List.map_nil]); first | done | rfl) ?_; (with_reducible refine (drawPlanOk_ex _ A0 c0 l0 (C_now HR0.out (by repeat (first | (with_reducible first | exact HB.out | apply below_alloc | apply pw_below_drewN | apply below_drew1) | exact HB.out))) HC0.out HL.out).mono ?_); rintro e w20 ⟨A1, c1, p, rfl, hc1, hr1, hb, hz⟩; refine ⟨_, rfl, ?_⟩; have HR := Aside0.mk hr1; have HC := Aside0.mk hc1; have HS := Aside0.mk (Smq.sm hz); have H20 := Aside0.mk (below_step (by repeat (first | (with_reducible first | exact HB.out | apply below_alloc | apply pw_below_drewN | apply below_drew1) | exact HB.out)) hb); have HQ := Aside0.mk (Below.refl w20.heap.size w20); clear HB HR0 FB hb hz hr1 hc1))
  cases hok : planOk p
  · obtain ⟨D0, hD0⟩ : ∃ d, depthOf p = d := ⟨_, rfl⟩
    have DP := Aside0.mk hD0
    have OK := Aside0.mk hok
    clear hD0
    have EN := Aside0.mk (show endOf p 0 = -1 by unfold endOf goodAt; rw [hok]; rfl)
    clear hok
    go_wp2_with (first | ((with_reducible refine gate_dst (N := 22) rfl ?_); refine goesL_ (some 22) rfl rfl Try.func34 (by kernel_rfl) rfl #[.slice A1 p.length c1] rfl (by (try simp only [List.map_toArray, List.map_cons, List.map_nil]); first | done | rfl) ?_; (with_reducible refine (iOk_ex HS.out (Kd.C_below HR.out (by repeat (first | (with_reducible first | exact HQ.out | apply below_alloc | apply pw_below_drewN | apply below_drew1) | exact HQ.out))) HC.out (b := false) OK.out).mono ?_); rintro e w22 ⟨rfl, hb⟩; refine ⟨_, rfl, ?_⟩; have n0_ := Aside0.mk (below_step (by repeat (first | (with_reducible first | exact HQ.out | apply below_alloc | apply pw_below_drewN | apply below_drew1) | exact HQ.out)) hb); clear hb HQ; have HQ := n0_; clear n0_) | ((with_reducible refine gate_dst (N := 37) rfl ?_); refine goesL_ (some 37) rfl rfl Try.func38 (by kernel_rfl) rfl #[.slice A1 p.length c1, .int .i64 0] rfl (by (try simp only [List.map_toArray, List.map_cons, List.map_nil]); first | done | rfl) ?_; (with_reducible refine (end_ex HS.out (Kd.C_below HR.out (by repeat (first | (with_reducible first | exact HQ.out | apply below_alloc | apply pw_below_drewN | apply below_drew1) | exact HQ.out))) HC.out 0 (d := -1) EN.out).mono ?_); rintro e w37 ⟨rfl, hb⟩; refine ⟨_, rfl, ?_⟩; have n0_ := Aside0.mk (below_step (by repeat (first | (with_reducible first | exact HQ.out | apply below_alloc | apply pw_below_drewN | apply below_drew1) | exact HQ.out)) hb); clear hb HQ; have HQ := n0_; clear n0_) | (go_at_call 35; (with_reducible refine (sOk_ex HS.out (Kd.C_below HR.out (by repeat (first | (with_reducible first | exact HQ.out | apply below_alloc | apply pw_below_drewN | apply below_drew1) | exact HQ.out))) HC.out (b := false) OK.out).mono ?_); rintro e w25 ⟨rfl, hb⟩; have n0_ := Aside0.mk (below_step (by repeat (first | (with_reducible first | exact HQ.out | apply below_alloc | apply pw_below_drewN | apply below_drew1) | exact HQ.out)) hb); clear hb HQ; have HQ := n0_; clear n0_) | (go_at_call 36; (with_reducible refine (iDep_ex HS.out (Kd.C_below HR.out (by repeat (first | (with_reducible first | exact HQ.out | apply below_alloc | apply pw_below_drewN | apply below_drew1) | exact HQ.out))) HC.out (d := D0) DP.out).mono ?_); rintro e w29 ⟨rfl, hb⟩; have n0_ := Aside0.mk (below_step (by repeat (first | (with_reducible first | exact HQ.out | apply below_alloc | apply pw_below_drewN | apply below_drew1) | exact HQ.out)) hb); clear hb HQ; have HQ := n0_; clear n0_) | (go_at_call 37; (with_reducible refine (sDep_ex HS.out (Kd.C_below HR.out (by repeat (first | (with_reducible first | exact HQ.out | apply below_alloc | apply pw_below_drewN | apply below_drew1) | exact HQ.out))) HC.out (d := D0) DP.out).mono ?_); rintro e w31 ⟨rfl, hb⟩; have n0_ := Aside0.mk (below_step (by repeat (first | (with_reducible first | exact HQ.out | apply below_alloc | apply pw_below_drewN | apply below_drew1) | exact HQ.out)) hb); clear hb HQ; have HQ := n0_; clear n0_))
    go_ret
    exact ⟨(by first | rfl | (simp; done) | (simp [*]; done)), (below_step H20.out (by repeat (first | (with_reducible first | exact HQ.out | apply below_alloc | apply pw_below_drewN | apply below_drew1) | exact HQ.out)))⟩
  · obtain ⟨D0, hD0⟩ : ∃ d, depthOf p = d := ⟨_, rfl⟩
    have DP := Aside0.mk hD0
    have OK := Aside0.mk hok
    clear hD0
    have HP1 := Aside0.mk (show 1 ≤ p.length ∧ p.length ≤ 40 by have h := hok; unfold planOk at h; simp only [Bool.and_eq_true, decide_eq_true_eq] at h; exact h.1.1)
    have SK := Aside0.mk (show sumK p 8 = p.length from sumK_all p (fun x hx => nodeOk_kind (planOk_node hok hx)))
    have TL := Aside0.mk (tables_le p hok)
    clear hok
    obtain ⟨ad, A6_, c6_, eA, _⟩ := at_T58 HR.out 0 (Int.le_refl 0) (by have := HP1.out; omega)
    subst eA
    go_wp2_with (first | ((with_reducible refine gate_dst (N := 22) rfl ?_); refine goesL_ (some 22) rfl rfl Try.func34 (by kernel_rfl) rfl #[.slice (some ad) p.length c1] rfl (by (try simp only [List.map_toArray, List.map_cons, List.map_nil]); first | done | rfl) ?_; (with_reducible refine (iOk_ex HS.out (Kd.C_below HR.out (by repeat (first | (with_reducible first | exact HQ.out | apply below_alloc | apply pw_below_drewN | apply below_drew1) | exact HQ.out))) HC.out (b := true) OK.out).mono ?_); rintro e w22 ⟨rfl, hb⟩; refine ⟨_, rfl, ?_⟩; have n0_ := Aside0.mk (below_step (by repeat (first | (with_reducible first | exact HQ.out | apply below_alloc | apply pw_below_drewN | apply below_drew1) | exact HQ.out)) hb); clear hb HQ; have HQ := n0_; clear n0_) | (go_at_call 35; (with_reducible refine (sOk_ex HS.out (Kd.C_below HR.out (by repeat (first | (with_reducible first | exact HQ.out | apply below_alloc | apply pw_below_drewN | apply below_drew1) | exact HQ.out))) HC.out (b := true) OK.out).mono ?_); rintro e w25 ⟨rfl, hb⟩; have n0_ := Aside0.mk (below_step (by repeat (first | (with_reducible first | exact HQ.out | apply below_alloc | apply pw_below_drewN | apply below_drew1) | exact HQ.out)) hb); clear hb HQ; have HQ := n0_; clear n0_) | (go_at_call 36; (with_reducible refine (iDep_ex HS.out (Kd.C_below HR.out (by repeat (first | (with_reducible first | exact HQ.out | apply below_alloc | apply pw_below_drewN | apply below_drew1) | exact HQ.out))) HC.out (d := D0) DP.out).mono ?_); rintro e w29 ⟨rfl, hb⟩; have n0_ := Aside0.mk (below_step (by repeat (first | (with_reducible first | exact HQ.out | apply below_alloc | apply pw_below_drewN | apply below_drew1) | exact HQ.out)) hb); clear hb HQ; have HQ := n0_; clear n0_) | (go_at_call 37; (with_reducible refine (sDep_ex HS.out (Kd.C_below HR.out (by repeat (first | (with_reducible first | exact HQ.out | apply below_alloc | apply pw_below_drewN | apply below_drew1) | exact HQ.out))) HC.out (d := D0) DP.out).mono ?_); rintro e w31 ⟨rfl, hb⟩; have n0_ := Aside0.mk (below_step (by repeat (first | (with_reducible first | exact HQ.out | apply below_alloc | apply pw_below_drewN | apply below_drew1) | exact HQ.out)) hb); clear hb HQ; have HQ := n0_; clear n0_))
    go_loopg [5] (p.length + 1) (fun kq v5 w' => ∃ x5 : Int, v5 = .int .i64 x5 ∧ Aside0 (0 ≤ x5 ∧ x5 ≤ p.length ∧ kq + x5.toNat = p.length + 1) ∧ Aside0 (Below w20.heap.size w20 w'))
    case atStart => exact ⟨0, (by first | rfl | (simp; done) | (simp [*]; done)), ⟨by omega, by omega, rfl⟩, ⟨(by repeat (first | (with_reducible first | exact HQ.out | apply below_alloc | apply pw_below_drewN | apply below_drew1) | exact HQ.out))⟩⟩
    case round =>
      clear HQ
      obtain ⟨x5, rfl, HX, HQ⟩ := hrel
      by_cases hx : x5 < (p.length : Int)
      · have hxb : decide (x5 < (p.length : Int)) = true := decide_eq_true hx
        obtain ⟨kn, en, part, ks, PL⟩ := place_law OK.out HX.out.1 hx
        have LW := Aside0.mk PL
        clear PL
        obtain ⟨x6, hx6⟩ : ∃ x, x = x5 + 1 := ⟨_, rfl⟩
        have hs5 : wrap64 (x5 + 1) = x6 := by have := HX.out; have := HP1.out; unfold wrap64; omega
        have hs6 : IntKind.i64.wrap (x5 + 1) = x6 := (i64_w _).trans hs5
        have HX6 := Aside0.mk (show x6 = x5 + 1 ∧ x6 = nxt p kn 0 from ⟨hx6, by rw [hx6, LW.out.hx]; rfl⟩)
        have hs7 : wrap64 (x5 + (part.length : Int)) = en := LW.out.len
        have hs8 : IntKind.i64.wrap (x5 + (part.length : Int)) = en := (i64_w _).trans hs7
        have SP := Aside0.mk (show Sm part by rw [← LW.out.hp]; exact Sm.part HS.out x5)
        clear hx6 hx
        have hq1 : (0 ≤ x5) = True := eq_true HX.out.1
        have hq2 : (x5 < (p.length : Int)) = True := eq_true (of_decide_eq_true hxb)
        go_wp2_with (first | ((with_reducible refine gate_dst (N := 47) rfl ?_); refine goesL_ (some 47) rfl rfl Try.func39 (by kernel_rfl) rfl #[.slice (some ad) p.length c1, .int .i64 x5] rfl (by (try simp only [List.map_toArray, List.map_cons, List.map_nil]); first | done | rfl) ?_; (with_reducible refine (part_ex HS.out (Kd.C_below HR.out (by repeat (first | (with_reducible first | exact HQ.out | apply below_alloc | apply pw_below_drewN | apply below_drew1) | exact HQ.out))) HC.out x5 (q := part) LW.out.hp).mono ?_); rintro e w47 ⟨A2, c2, rfl, hc2, hr2, hb⟩; refine ⟨_, rfl, ?_⟩; have n0_ := Aside0.mk (below_step (by repeat (first | (with_reducible first | exact HQ.out | apply below_alloc | apply pw_below_drewN | apply below_drew1) | exact HQ.out)) hb); clear hb HQ; have HQ := n0_; clear n0_; have CP := Aside0.mk hr2; have HC2 := Aside0.mk hc2; clear hr2 hc2) | ((with_reducible refine gate_dst (N := 50) rfl ?_); refine goesL_ (some 50) rfl rfl Try.func38 (by kernel_rfl) rfl #[.slice (some ad) p.length c1, .int .i64 x5] rfl (by (try simp only [List.map_toArray, List.map_cons, List.map_nil]); first | done | rfl) ?_; (with_reducible refine (end_ex HS.out (Kd.C_below HR.out (by repeat (first | (with_reducible first | exact HQ.out | apply below_alloc | apply pw_below_drewN | apply below_drew1) | exact HQ.out))) HC.out x5 (d := en) LW.out.he).mono ?_); rintro e w50 ⟨rfl, hb⟩; refine ⟨_, rfl, ?_⟩; have n0_ := Aside0.mk (below_step (by repeat (first | (with_reducible first | exact HQ.out | apply below_alloc | apply pw_below_drewN | apply below_drew1) | exact HQ.out)) hb); have n1_ := Aside0.mk (Kd.C_below (by (with_reducible repeat (first | apply Kd.C_alloc | apply Kd.C_drewN | apply Kd.C_drew)); exact CP.out) hb); clear hb HQ CP; have HQ := n0_; have CP := n1_; clear n0_ n1_) | ((with_reducible refine gate_dst (N := 55) rfl ?_); refine goesL_ (some 55) rfl rfl Try.func40 (by kernel_rfl) rfl #[.slice (some ad) p.length c1, .int .i64 x5, .slice A2 part.length c2] rfl (by (try simp only [List.map_toArray, List.map_cons, List.map_nil]); first | done | rfl) ?_; (with_reducible refine (put_ex HS.out (Kd.C_below HR.out (by repeat (first | (with_reducible first | exact HQ.out | apply below_alloc | apply pw_below_drewN | apply below_drew1) | exact HQ.out))) HC.out x5 SP.out (by (with_reducible repeat (first | apply Kd.C_alloc | apply Kd.C_drewN | apply Kd.C_drew)); exact CP.out) HC2.out LW.out.put).mono ?_); rintro e w55 ⟨A3, c3, rfl, hc3, hr3, hb⟩; refine ⟨_, rfl, ?_⟩; have n0_ := Aside0.mk (below_step (by repeat (first | (with_reducible first | exact HQ.out | apply below_alloc | apply pw_below_drewN | apply below_drew1) | exact HQ.out)) hb); have n1_ := Aside0.mk (Kd.C_below (by (with_reducible repeat (first | apply Kd.C_alloc | apply Kd.C_drewN | apply Kd.C_drew)); exact CP.out) hb); clear hb HQ CP; have HQ := n0_; have CP := n1_; clear n0_ n1_; have CS := Aside0.mk hr3; have HC3 := Aside0.mk hc3; clear hr3 hc3) | ((with_reducible refine gate_dst (N := 60) rfl ?_); refine goesL_ (some 60) rfl rfl Try.func41 (by kernel_rfl) rfl #[.slice (some ad) p.length c1, .int .i64 x5] rfl (by (try simp only [List.map_toArray, List.map_cons, List.map_nil]); first | done | rfl) ?_; (with_reducible refine (kids_ex HS.out (Kd.C_below HR.out (by repeat (first | (with_reducible first | exact HQ.out | apply below_alloc | apply pw_below_drewN | apply below_drew1) | exact HQ.out))) HC.out x5 (q := ks) LW.out.hk).mono ?_); rintro e w60 ⟨A4, c4, rfl, hc4, hr4, hb⟩; refine ⟨_, rfl, ?_⟩; have n0_ := Aside0.mk (below_step (by repeat (first | (with_reducible first | exact HQ.out | apply below_alloc | apply pw_below_drewN | apply below_drew1) | exact HQ.out)) hb); have n1_ := Aside0.mk (Kd.C_below (by (with_reducible repeat (first | apply Kd.C_alloc | apply Kd.C_drewN | apply Kd.C_drew)); exact CP.out) hb); have n2_ := Aside0.mk (Kd.C_below (by (with_reducible repeat (first | apply Kd.C_alloc | apply Kd.C_drewN | apply Kd.C_drew)); exact CS.out) hb); clear hb HQ CP CS; have HQ := n0_; have CP := n1_; have CS := n2_; clear n0_ n1_ n2_; have CK := Aside0.mk hr4; clear hr4 hc4) | (go_at_call 42; (with_reducible refine (same_ex HS.out (by (with_reducible repeat (first | apply Kd.C_alloc | apply Kd.C_drewN | apply Kd.C_drew)); exact CS.out) HC3.out (Kd.C_below HR.out (by repeat (first | (with_reducible first | exact HQ.out | apply below_alloc | apply pw_below_drewN | apply below_drew1) | exact HQ.out))) HC.out).mono ?_); rintro e w66 ⟨rfl, hb⟩; have n0_ := Aside0.mk (below_step (by repeat (first | (with_reducible first | exact HQ.out | apply below_alloc | apply pw_below_drewN | apply below_drew1) | exact HQ.out)) hb); have n1_ := Aside0.mk (Kd.C_below (by (with_reducible repeat (first | apply Kd.C_alloc | apply Kd.C_drewN | apply Kd.C_drew)); exact CP.out) hb); have n2_ := Aside0.mk (Kd.C_below (by (with_reducible repeat (first | apply Kd.C_alloc | apply Kd.C_drewN | apply Kd.C_drew)); exact CS.out) hb); have n3_ := Aside0.mk (Kd.C_below (by (with_reducible repeat (first | apply Kd.C_alloc | apply Kd.C_drewN | apply Kd.C_drew)); exact CK.out) hb); clear hb HQ CP CS CK; have HQ := n0_; have CP := n1_; have CS := n2_; have CK := n3_; clear n0_ n1_ n2_ n3_) | (go_at_call 35; (with_reducible refine (sOk_ex SP.out (by (with_reducible repeat (first | apply Kd.C_alloc | apply Kd.C_drewN | apply Kd.C_drew)); exact CP.out) HC2.out (b := true) LW.out.ok).mono ?_); rintro e w71 ⟨rfl, hb⟩; have n0_ := Aside0.mk (below_step (by repeat (first | (with_reducible first | exact HQ.out | apply below_alloc | apply pw_below_drewN | apply below_drew1) | exact HQ.out)) hb); have n1_ := Aside0.mk (Kd.C_below (by (with_reducible repeat (first | apply Kd.C_alloc | apply Kd.C_drewN | apply Kd.C_drew)); exact CP.out) hb); have n2_ := Aside0.mk (Kd.C_below (by (with_reducible repeat (first | apply Kd.C_alloc | apply Kd.C_drewN | apply Kd.C_drew)); exact CS.out) hb); have n3_ := Aside0.mk (Kd.C_below (by (with_reducible repeat (first | apply Kd.C_alloc | apply Kd.C_drewN | apply Kd.C_drew)); exact CK.out) hb); clear hb HQ CP CS CK; have HQ := n0_; have CP := n1_; have CS := n2_; have CK := n3_; clear n0_ n1_ n2_ n3_; obtain ⟨ad2_, A7_, c7_, eA, hxk, _⟩ := at_T58 (show Kd.C k58 w71 (some ad) p.length p from (Kd.C_below HR.out (by repeat (first | (with_reducible first | exact HQ.out | apply below_alloc | apply pw_below_drewN | apply below_drew1) | exact HQ.out)))) x5 HX.out.1 (of_decide_eq_true hxb); injection eA with eA; subst eA) | (go_at_call 43; (with_reducible refine (ar_ex (rd_T58 p x5).f0 (r := (ks.length : Int)) LW.out.ar).mono ?_); rintro e w90 ⟨rfl, ⟨nd, rfl⟩⟩))
        clear CS
        go_loopg [11, 12, 13] (ks.length + 1) (fun kq v11 v12 v13 w' => ∃ x11 x12 x13 : Int, v11 = .int .i64 x11 ∧ v12 = .int .i64 x12 ∧ v13 = .int .i64 x13 ∧ Aside0 (0 ≤ x13 ∧ x13 ≤ ks.length ∧ kq + x13.toNat = ks.length + 1 ∧ x11 = nxt p kn x13.toNat ∧ x12 = dpt p kn x13.toNat) ∧ Aside0 (Below w20.heap.size w20 w') ∧ Aside0 (Kd.C k58 w' A2 part.length part) ∧ Aside0 (Kd.C (Kd.int .i64) w' A4 ks.length ks))
        case atStart => exact ⟨x6, 0, 0, (by first | rfl | (simp; done) | (simp [*]; done)), (by first | rfl | (simp; done) | (simp [*]; done)), (by first | rfl | (simp; done) | (simp [*]; done)), ⟨by omega, by omega, rfl, HX6.out.2, rfl⟩, ⟨(by repeat (first | (with_reducible first | exact HQ.out | apply below_alloc | apply pw_below_drewN | apply below_drew1) | exact HQ.out))⟩, ⟨(by (with_reducible repeat (first | apply Kd.C_alloc | apply Kd.C_drewN | apply Kd.C_drew)); exact CP.out)⟩, ⟨(by (with_reducible repeat (first | apply Kd.C_alloc | apply Kd.C_drewN | apply Kd.C_drew)); exact CK.out)⟩⟩
        case round =>
          clear HQ CP CK
          (try clear hxk)
          obtain ⟨x11, x12, x13, rfl, rfl, rfl, HI, HQ, CP, CK⟩ := hrel
          by_cases hy : x13 < (ks.length : Int)
          · have hyb : decide (x13 < (ks.length : Int)) = true := decide_eq_true hy
            have hrd : rd ks x13 = x11 := by have h1 := LW.out.at_ x13.toNat (by have := HI.out; omega); rw [Int.toNat_of_nonneg HI.out.1] at h1; rw [h1]; exact HI.out.2.2.2.1.symm
            obtain ⟨adk, eK, hk1⟩ := Kd.at_int CK.out x13 HI.out.1 hy
            subst eK
            rw [hrd] at hk1
            have HRD := Aside0.mk hrd
            have HY := Aside0.mk hy
            obtain ⟨x14, hx14⟩ : ∃ x, endOf p x11 = x := ⟨_, rfl⟩
            obtain ⟨pc, hpc⟩ : ∃ x, partOf p x11 = x := ⟨_, rfl⟩
            obtain ⟨dd, hdd⟩ : ∃ x, depthOf pc = x := ⟨_, rfl⟩
            obtain ⟨x15, hx15⟩ : ∃ x, x = x13 + 1 := ⟨_, rfl⟩
            have hs9 : wrap64 (x13 + 1) = x15 := by have := HI.out; have := LW.out.kl; unfold wrap64; omega
            have hs10 : IntKind.i64.wrap (x13 + 1) = x15 := (i64_w _).trans hs9
            have SC := Aside0.mk (show Sm pc by rw [← hpc]; exact Sm.part HS.out x11)
            have H14 := Aside0.mk hx14
            have HPC := Aside0.mk hpc
            have HDD := Aside0.mk hdd
            have HN := Aside0.mk (show x14 = nxt p kn x15.toNat by rw [show x15.toNat = x13.toNat + 1 by have := HI.out; omega]; show x14 = endOf p (nxt p kn x13.toNat); rw [← HI.out.2.2.2.1, hx14])
            have HD := Aside0.mk (show (if x12 < dd then dd else x12) = dpt p kn x15.toNat by rw [show x15.toNat = x13.toNat + 1 by have := HI.out; omega]; show _ = (if dpt p kn x13.toNat < depthOf (partOf p (nxt p kn x13.toNat)) then depthOf (partOf p (nxt p kn x13.toNat)) else dpt p kn x13.toNat); rw [← HI.out.2.2.2.1, ← HI.out.2.2.2.2, hpc, hdd])
            have HX15 := Aside0.mk hx15
            have hq3 : (0 ≤ x13) = True := eq_true HI.out.1
            have hq4 : (x13 < (ks.length : Int)) = True := eq_true hy
            clear hx14 hpc hdd hx15 hrd hy
            by_cases hd : x12 < dd
            · have hdb : decide (x12 < dd) = true := decide_eq_true hd
              have HDH := Aside0.mk hd
              clear hd
              go_wp2_with (first | ((with_reducible refine gate_dst (N := 112) rfl ?_); refine goesL_ (some 112) rfl rfl Try.func38 (by kernel_rfl) rfl #[.slice (some ad) p.length c1, .int .i64 x11] rfl (by (try simp only [List.map_toArray, List.map_cons, List.map_nil]); first | done | rfl) ?_; (with_reducible refine (end_ex HS.out (Kd.C_below HR.out (by repeat (first | (with_reducible first | exact HQ.out | apply below_alloc | apply pw_below_drewN | apply below_drew1) | exact HQ.out))) HC.out x11 (d := x14) H14.out).mono ?_); rintro e w112 ⟨rfl, hb⟩; refine ⟨_, rfl, ?_⟩; have n0_ := Aside0.mk (below_step (by repeat (first | (with_reducible first | exact HQ.out | apply below_alloc | apply pw_below_drewN | apply below_drew1) | exact HQ.out)) hb); have n1_ := Aside0.mk (Kd.C_below (by (with_reducible repeat (first | apply Kd.C_alloc | apply Kd.C_drewN | apply Kd.C_drew)); exact CP.out) hb); have n2_ := Aside0.mk (Kd.C_below (by (with_reducible repeat (first | apply Kd.C_alloc | apply Kd.C_drewN | apply Kd.C_drew)); exact CK.out) hb); clear hb HQ CP CK; have HQ := n0_; have CP := n1_; have CK := n2_; clear n0_ n1_ n2_; obtain ⟨ad2_, eK_, hk2⟩ := Kd.at_int (show Kd.C (Kd.int .i64) w112 (some adk) ks.length ks from (by (with_reducible repeat (first | apply Kd.C_alloc | apply Kd.C_drewN | apply Kd.C_drew)); exact CK.out)) x13 HI.out.1 HY.out; injection eK_ with eK_; subst eK_; rw [HRD.out] at hk2) | ((with_reducible refine gate_dst (N := 118) rfl ?_); refine goesL_ (some 118) rfl rfl Try.func39 (by kernel_rfl) rfl #[.slice (some ad) p.length c1, .int .i64 x11] rfl (by (try simp only [List.map_toArray, List.map_cons, List.map_nil]); first | done | rfl) ?_; (with_reducible refine (part_ex HS.out (Kd.C_below HR.out (by repeat (first | (with_reducible first | exact HQ.out | apply below_alloc | apply pw_below_drewN | apply below_drew1) | exact HQ.out))) HC.out x11 (q := pc) HPC.out).mono ?_); rintro e w118 ⟨A8, c8, rfl, hc8, hr8, hb⟩; refine ⟨_, rfl, ?_⟩; have n0_ := Aside0.mk (below_step (by repeat (first | (with_reducible first | exact HQ.out | apply below_alloc | apply pw_below_drewN | apply below_drew1) | exact HQ.out)) hb); have n1_ := Aside0.mk (Kd.C_below (by (with_reducible repeat (first | apply Kd.C_alloc | apply Kd.C_drewN | apply Kd.C_drew)); exact CP.out) hb); have n2_ := Aside0.mk (Kd.C_below (by (with_reducible repeat (first | apply Kd.C_alloc | apply Kd.C_drewN | apply Kd.C_drew)); exact CK.out) hb); clear hb HQ CP CK; have HQ := n0_; have CP := n1_; have CK := n2_; clear n0_ n1_ n2_; have CC := Aside0.mk hr8; have HC8 := Aside0.mk hc8; clear hr8 hc8) | ((with_reducible refine gate_dst (N := 119) rfl ?_); refine goesL_ (some 119) rfl rfl Try.func36 (by kernel_rfl) rfl #[.slice A8 pc.length c8] rfl (by (try simp only [List.map_toArray, List.map_cons, List.map_nil]); first | done | rfl) ?_; (with_reducible refine (iDep_ex SC.out (by (with_reducible repeat (first | apply Kd.C_alloc | apply Kd.C_drewN | apply Kd.C_drew)); exact CC.out) HC8.out (d := dd) HDD.out).mono ?_); rintro e w119 ⟨rfl, hb⟩; refine ⟨_, rfl, ?_⟩; have n0_ := Aside0.mk (below_step (by repeat (first | (with_reducible first | exact HQ.out | apply below_alloc | apply pw_below_drewN | apply below_drew1) | exact HQ.out)) hb); have n1_ := Aside0.mk (Kd.C_below (by (with_reducible repeat (first | apply Kd.C_alloc | apply Kd.C_drewN | apply Kd.C_drew)); exact CP.out) hb); have n2_ := Aside0.mk (Kd.C_below (by (with_reducible repeat (first | apply Kd.C_alloc | apply Kd.C_drewN | apply Kd.C_drew)); exact CK.out) hb); clear hb HQ CP CK; have HQ := n0_; have CP := n1_; have CK := n2_; clear n0_ n1_ n2_; clear CC))
              go_roundg (ks.length - x13.toNat)
              case measure => have := HI.out; have := HY.out; omega
              case rel => exact ⟨x14, dd, x15, (by first | rfl | (simp; done) | (simp [*]; done)), (by first | rfl | (simp; done) | (simp [*]; done)), (by first | rfl | (simp; done) | (simp [*]; done)), ⟨by have := HI.out; have := HY.out; have := HX15.out; exact ⟨by omega, by omega, by omega, HN.out, by rw [← HD.out, if_pos HDH.out]⟩⟩, ⟨(by repeat (first | (with_reducible first | exact HQ.out | apply below_alloc | apply pw_below_drewN | apply below_drew1) | exact HQ.out))⟩, ⟨(by (with_reducible repeat (first | apply Kd.C_alloc | apply Kd.C_drewN | apply Kd.C_drew)); exact CP.out)⟩, ⟨(by (with_reducible repeat (first | apply Kd.C_alloc | apply Kd.C_drewN | apply Kd.C_drew)); exact CK.out)⟩⟩
            · have hdb : decide (x12 < dd) = false := decide_eq_false hd
              have HDH := Aside0.mk hd
              clear hd
              go_wp2_with (first | ((with_reducible refine gate_dst (N := 112) rfl ?_); refine goesL_ (some 112) rfl rfl Try.func38 (by kernel_rfl) rfl #[.slice (some ad) p.length c1, .int .i64 x11] rfl (by (try simp only [List.map_toArray, List.map_cons, List.map_nil]); first | done | rfl) ?_; (with_reducible refine (end_ex HS.out (Kd.C_below HR.out (by repeat (first | (with_reducible first | exact HQ.out | apply below_alloc | apply pw_below_drewN | apply below_drew1) | exact HQ.out))) HC.out x11 (d := x14) H14.out).mono ?_); rintro e w112 ⟨rfl, hb⟩; refine ⟨_, rfl, ?_⟩; have n0_ := Aside0.mk (below_step (by repeat (first | (with_reducible first | exact HQ.out | apply below_alloc | apply pw_below_drewN | apply below_drew1) | exact HQ.out)) hb); have n1_ := Aside0.mk (Kd.C_below (by (with_reducible repeat (first | apply Kd.C_alloc | apply Kd.C_drewN | apply Kd.C_drew)); exact CP.out) hb); have n2_ := Aside0.mk (Kd.C_below (by (with_reducible repeat (first | apply Kd.C_alloc | apply Kd.C_drewN | apply Kd.C_drew)); exact CK.out) hb); clear hb HQ CP CK; have HQ := n0_; have CP := n1_; have CK := n2_; clear n0_ n1_ n2_; obtain ⟨ad2_, eK_, hk2⟩ := Kd.at_int (show Kd.C (Kd.int .i64) w112 (some adk) ks.length ks from (by (with_reducible repeat (first | apply Kd.C_alloc | apply Kd.C_drewN | apply Kd.C_drew)); exact CK.out)) x13 HI.out.1 HY.out; injection eK_ with eK_; subst eK_; rw [HRD.out] at hk2) | ((with_reducible refine gate_dst (N := 118) rfl ?_); refine goesL_ (some 118) rfl rfl Try.func39 (by kernel_rfl) rfl #[.slice (some ad) p.length c1, .int .i64 x11] rfl (by (try simp only [List.map_toArray, List.map_cons, List.map_nil]); first | done | rfl) ?_; (with_reducible refine (part_ex HS.out (Kd.C_below HR.out (by repeat (first | (with_reducible first | exact HQ.out | apply below_alloc | apply pw_below_drewN | apply below_drew1) | exact HQ.out))) HC.out x11 (q := pc) HPC.out).mono ?_); rintro e w118 ⟨A8, c8, rfl, hc8, hr8, hb⟩; refine ⟨_, rfl, ?_⟩; have n0_ := Aside0.mk (below_step (by repeat (first | (with_reducible first | exact HQ.out | apply below_alloc | apply pw_below_drewN | apply below_drew1) | exact HQ.out)) hb); have n1_ := Aside0.mk (Kd.C_below (by (with_reducible repeat (first | apply Kd.C_alloc | apply Kd.C_drewN | apply Kd.C_drew)); exact CP.out) hb); have n2_ := Aside0.mk (Kd.C_below (by (with_reducible repeat (first | apply Kd.C_alloc | apply Kd.C_drewN | apply Kd.C_drew)); exact CK.out) hb); clear hb HQ CP CK; have HQ := n0_; have CP := n1_; have CK := n2_; clear n0_ n1_ n2_; have CC := Aside0.mk hr8; have HC8 := Aside0.mk hc8; clear hr8 hc8) | ((with_reducible refine gate_dst (N := 119) rfl ?_); refine goesL_ (some 119) rfl rfl Try.func36 (by kernel_rfl) rfl #[.slice A8 pc.length c8] rfl (by (try simp only [List.map_toArray, List.map_cons, List.map_nil]); first | done | rfl) ?_; (with_reducible refine (iDep_ex SC.out (by (with_reducible repeat (first | apply Kd.C_alloc | apply Kd.C_drewN | apply Kd.C_drew)); exact CC.out) HC8.out (d := dd) HDD.out).mono ?_); rintro e w119 ⟨rfl, hb⟩; refine ⟨_, rfl, ?_⟩; have n0_ := Aside0.mk (below_step (by repeat (first | (with_reducible first | exact HQ.out | apply below_alloc | apply pw_below_drewN | apply below_drew1) | exact HQ.out)) hb); have n1_ := Aside0.mk (Kd.C_below (by (with_reducible repeat (first | apply Kd.C_alloc | apply Kd.C_drewN | apply Kd.C_drew)); exact CP.out) hb); have n2_ := Aside0.mk (Kd.C_below (by (with_reducible repeat (first | apply Kd.C_alloc | apply Kd.C_drewN | apply Kd.C_drew)); exact CK.out) hb); clear hb HQ CP CK; have HQ := n0_; have CP := n1_; have CK := n2_; clear n0_ n1_ n2_; clear CC))
              go_roundg (ks.length - x13.toNat)
              case measure => have := HI.out; have := HY.out; omega
              case rel => exact ⟨x14, x12, x15, (by first | rfl | (simp; done) | (simp [*]; done)), (by first | rfl | (simp; done) | (simp [*]; done)), (by first | rfl | (simp; done) | (simp [*]; done)), ⟨by have := HI.out; have := HY.out; have := HX15.out; exact ⟨by omega, by omega, by omega, HN.out, by rw [← HD.out, if_neg (by have := HDH.out; omega)]⟩⟩, ⟨(by repeat (first | (with_reducible first | exact HQ.out | apply below_alloc | apply pw_below_drewN | apply below_drew1) | exact HQ.out))⟩, ⟨(by (with_reducible repeat (first | apply Kd.C_alloc | apply Kd.C_drewN | apply Kd.C_drew)); exact CP.out)⟩, ⟨(by (with_reducible repeat (first | apply Kd.C_alloc | apply Kd.C_drewN | apply Kd.C_drew)); exact CK.out)⟩⟩
          · have hyb : decide (x13 < (ks.length : Int)) = false := decide_eq_false hy
            have hi_ : x13.toNat = ks.length := by have := HI.out; omega
            obtain rfl : x11 = en := by have := HI.out.2.2.2.1; rw [hi_, LW.out.end_] at this; exact this
            obtain ⟨D1, hD1⟩ : ∃ d, depthOf part = d := ⟨_, rfl⟩
            have D1A := Aside0.mk hD1
            have hs11 : wrap64 (x12 + 1) = D1 := by have h1 := LW.out.deep; have h2 := LW.out.lo ks.length (Nat.le_refl _); have h3 := HI.out.2.2.2.2; rw [hi_] at h3; rw [hD1] at h1; unfold wrap64; omega
            have hs12 : IntKind.i64.wrap (x12 + 1) = D1 := (i64_w _).trans hs11
            clear hy hi_ hD1 CK
            go_wp2_with (first | (go_at_call 36; (with_reducible refine (iDep_ex SP.out (by (with_reducible repeat (first | apply Kd.C_alloc | apply Kd.C_drewN | apply Kd.C_drew)); exact CP.out) HC2.out (d := D1) D1A.out).mono ?_); rintro e w129 ⟨rfl, hb⟩; have n0_ := Aside0.mk (below_step (by repeat (first | (with_reducible first | exact HQ.out | apply below_alloc | apply pw_below_drewN | apply below_drew1) | exact HQ.out)) hb); have n1_ := Aside0.mk (Kd.C_below (by (with_reducible repeat (first | apply Kd.C_alloc | apply Kd.C_drewN | apply Kd.C_drew)); exact CP.out) hb); clear hb HQ CP; have HQ := n0_; have CP := n1_; clear n0_ n1_))
            go_roundg (p.length - x5.toNat)
            case measure => have := HX.out; have := of_decide_eq_true hxb; omega
            case rel => exact ⟨x6, (by first | rfl | (simp; done) | (simp [*]; done)), ⟨by have := HX.out; have := HX6.out.1; have := of_decide_eq_true hxb; omega⟩, ⟨(by repeat (first | (with_reducible first | exact HQ.out | apply below_alloc | apply pw_below_drewN | apply below_drew1) | exact HQ.out))⟩⟩
      · have hxb : decide (x5 < (p.length : Int)) = false := decide_eq_false hx
        clear hx
        go_wp2
        go_loopg [15, 16] 9 (fun kq v15 v16 w' => ∃ x15 x16 : Int, v15 = .int .i64 x15 ∧ v16 = .int .i64 x16 ∧ Aside0 (0 ≤ x16 ∧ x16 ≤ 8 ∧ kq + x16.toNat = 9 ∧ x15 = sumK p x16.toNat) ∧ Aside0 (Below w20.heap.size w20 w'))
        case atStart => exact ⟨0, 0, (by first | rfl | (simp; done) | (simp [*]; done)), (by first | rfl | (simp; done) | (simp [*]; done)), ⟨by omega, by omega, rfl, rfl⟩, ⟨(by repeat (first | (with_reducible first | exact HQ.out | apply below_alloc | apply pw_below_drewN | apply below_drew1) | exact HQ.out))⟩⟩
        case round =>
          clear HQ
          obtain ⟨x15, x16, rfl, rfl, HI, HQ⟩ := hrel
          by_cases hy : x16 < 8
          · have hyb : decide (x16 < 8) = true := decide_eq_true hy
            obtain ⟨ck, hck⟩ : ∃ c, countK x16 p = c := ⟨_, rfl⟩
            have CKA := Aside0.mk hck
            obtain ⟨x17, hx17⟩ : ∃ x, x = x16 + 1 := ⟨_, rfl⟩
            obtain ⟨x18, hx18⟩ : ∃ x, x = x15 + ck := ⟨_, rfl⟩
            have hr1 := countK_range x16 p
            have hr2 := sumK_range p x16.toNat
            rw [hck] at hr1
            have hb8 : ((x16.toNat : Nat) : Int) * (p.length : Int) ≤ 8 * 40 := Int.mul_le_mul (by have := HI.out; omega) (by have := HP1.out; omega) (by omega) (by decide)
            have hs13 : wrap64 (x15 + ck) = x18 := by have h1 := HI.out.2.2.2; rw [← h1] at hr2; have := HP1.out; unfold wrap64; omega
            have hs14 : IntKind.i64.wrap (x15 + ck) = x18 := (i64_w _).trans hs13
            have hs15 : wrap64 (x16 + 1) = x17 := by have := HI.out; unfold wrap64; omega
            have hs16 : IntKind.i64.wrap (x16 + 1) = x17 := (i64_w _).trans hs15
            have HX7 := Aside0.mk (show x17 = x16 + 1 ∧ x18 = sumK p x17.toNat from ⟨hx17, by rw [show x17.toNat = x16.toNat + 1 by have := HI.out; omega]; show x18 = sumK p x16.toNat + countK ((x16.toNat : Nat) : Int) p; rw [Int.toNat_of_nonneg HI.out.1, hck, ← HI.out.2.2.2]; exact hx18⟩)
            have HY := Aside0.mk hy
            clear hck hx17 hx18 hr1 hr2 hb8 hy
            go_wp2_with (first | ((with_reducible refine gate_dst (N := 141) rfl ?_); refine goesL_ (some 141) rfl rfl Try.func44 (by kernel_rfl) rfl #[.slice (some ad) p.length c1, .int .i64 x16] rfl (by (try simp only [List.map_toArray, List.map_cons, List.map_nil]); first | done | rfl) ?_; (with_reducible refine (cnt_ex HS.out (Kd.C_below HR.out (by repeat (first | (with_reducible first | exact HQ.out | apply below_alloc | apply pw_below_drewN | apply below_drew1) | exact HQ.out))) HC.out OK.out x16 (d := ck) CKA.out).mono ?_); rintro e w141 ⟨rfl, hb⟩; refine ⟨_, rfl, ?_⟩; have n0_ := Aside0.mk (below_step (by repeat (first | (with_reducible first | exact HQ.out | apply below_alloc | apply pw_below_drewN | apply below_drew1) | exact HQ.out)) hb); clear hb HQ; have HQ := n0_; clear n0_))
            go_roundg (8 - x16.toNat)
            case measure => have := HI.out; have := HY.out; omega
            case rel => exact ⟨x18, x17, (by first | rfl | (simp; done) | (simp [*]; done)), (by first | rfl | (simp; done) | (simp [*]; done)), ⟨by have := HI.out; have := HY.out; have h7 := HX7.out; exact ⟨by omega, by omega, by omega, h7.2⟩⟩, ⟨(by repeat (first | (with_reducible first | exact HQ.out | apply below_alloc | apply pw_below_drewN | apply below_drew1) | exact HQ.out))⟩⟩
          · have hyb : decide (x16 < 8) = false := decide_eq_false hy
            obtain rfl : x15 = (p.length : Int) := by have h1 := HI.out; rw [h1.2.2.2, show x16.toNat = 8 by omega]; exact SK.out
            obtain ⟨c0k, hc0k⟩ : ∃ c, countK 0 p = c := ⟨_, rfl⟩
            have C0A := Aside0.mk hc0k
            have hle : ((tablesOf p).length : Int) ≤ c0k := by rw [← hc0k]; exact TL.out
            have hlb : decide (((tablesOf p).length : Int) ≤ c0k) = true := decide_eq_true hle
            clear hy hc0k
            go_wp2_with (first | (go_at_call 45; (with_reducible refine (tab_ex HS.out (Kd.C_below HR.out (by repeat (first | (with_reducible first | exact HQ.out | apply below_alloc | apply pw_below_drewN | apply below_drew1) | exact HQ.out))) HC.out).mono ?_); rintro e w149 ⟨A9, c9, rfl, hb⟩; have n0_ := Aside0.mk (below_step (by repeat (first | (with_reducible first | exact HQ.out | apply below_alloc | apply pw_below_drewN | apply below_drew1) | exact HQ.out)) hb); clear hb HQ; have HQ := n0_; clear n0_) | (go_at_call 44; (with_reducible refine (cnt_ex HS.out (Kd.C_below HR.out (by repeat (first | (with_reducible first | exact HQ.out | apply below_alloc | apply pw_below_drewN | apply below_drew1) | exact HQ.out))) HC.out OK.out 0 (d := c0k) C0A.out).mono ?_); rintro e w152 ⟨rfl, hb⟩; have n0_ := Aside0.mk (below_step (by repeat (first | (with_reducible first | exact HQ.out | apply below_alloc | apply pw_below_drewN | apply below_drew1) | exact HQ.out)) hb); clear hb HQ; have HQ := n0_; clear n0_))
            go_ret
            exact ⟨(by first | rfl | (simp; done) | (simp [*]; done)), (below_step H20.out (by repeat (first | (with_reducible first | exact HQ.out | apply below_alloc | apply pw_below_drewN | apply below_drew1) | exact HQ.out)))⟩
def laws_FnParts.f (k : Nat) (l0 : List Int) : Option (Bool) := some true
theorem laws_FnParts.calls (k : Nat) (A0 : Option Addr) (c0 : Nat) (l0 : List Int) (r : Bool) (w : World) (hr0 : Kd.C (Kd.int .u8) w A0 l0.length l0) (hc0 : l0.length ≤ c0) (h : laws_FnParts.f k l0 = some r) (hr_ : r = true) :
    Calls Try.prog 6 #[.slice A0 l0.length c0] w fun e w' => e = .returned (.bool r) ∧ Below w.heap.size w w' := by
  subst hr_
  by_cases hb : (l0.length : Int) > 1048576
  · exact laws_FnParts.big A0 c0 l0 w hr0 hc0 (by simp only [laws_big.f, decide_eq_true hb])
  · exact laws_FnParts.main A0 c0 l0 w hr0 hc0 (by simp only [laws_big.f, decide_eq_false hb]) (by omega)
end Go.Proofs.Ytbdfidnldaghbaa.Q
