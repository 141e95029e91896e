/- spec.l02Break: what it may give. -/
import Derived.Test.YtbdfidnldaghbaaQx82
namespace Go.Proofs.Ytbdfidnldaghbaa.Q
open Go.RowKit Go.Proofs.Ytbdfidnldaghbaa.Own Go.Proofs.YtbdfidnldaghbaaW.PrintWords Go.Proofs.YtbdfidnldaghbaaW.PrintLast Go.Proofs.YtbdfidnldaghbaaW.PrintMore Go.Proofs.Ytbdfidnldaghbaa.Dp Go.Proofs.Ytbdfidnldaghbaa.Lib
set_option linter.unusedVariables false
set_option linter.unusedSimpArgs false
/-! ### spec.l02Break, l02DrawDeep, l02DrawLoose, DrawPlanOk: what they may give -/
/-- A list of nodes that is only read from now on; none of its blocks is the cursor's. -/
def RD (W : World) (g : Nat) (v : Value) (q : List S58) : Prop := ∃ (B : Nat) (A : Option Addr) (c : Nat), g < B ∧ v = .slice A q.length c ∧ q.length ≤ c ∧ Kd.F k58 W (fun k => B ≤ k) A q.length q
structure Smq (q : List S58) : Prop where
 len : q.length ≤ 2000
 el : ∀ x ∈ q, x.f1.size ≤ 16 ∧ x.f6.length ≤ 17
section
variable {w0 w W W1 : World} {g T gp n c : Nat} {v : Value} {p q : List S58}
theorem RD.step (h : RD W g v q) (hm : ∀ k, k ≠ g → k < W.heap.size → W1.heap[k]? = W.heap[k]?) : RD W1 g v q := by
 obtain ⟨B, A, c, hg, e, hc, hF⟩ := h
 exact ⟨B, A, c, hg, e, hc, Kd.F_step hF (fun k hk hlt => hm k (by have : B ≤ k := hk; omega) hlt)⟩
theorem RD.keep (h : RD W g v q) (hk : KeepBut W W1 g none) : RD W1 g v q := h.step (fun k h1 h2 => hk.2 k h2 h1 (by simp))
theorem RD.below (h : RD W g v q) (hb : Below W.heap.size W W1) : RD W1 g v q := h.step (fun k _ h2 => hb.block k h2)
theorem RD.alloc (h : RD W g v q) (o : Obj) : RD (W.alloc o) g v q := h.below (below_alloc (Below.refl _ _) o)
theorem RD.drew (h : RD W g v q) : RD W.drew g v q := h.below (below_drew (Below.refl _ _))
theorem RD.drewN (h : RD W g v q) (m : Nat) : RD (W.drewN m) g v q := h.below (pw_below_drewN (Below.refl _ _) m)
theorem RD.of {B : Nat} (h : Kd.R k58 58 W B (fun k => B ≤ k) v q) (hg : g < B) : RD W g v q := by
 obtain ⟨A, c, e, hc, _⟩ := Kd.R_reads h
 subst e
 exact ⟨B, A, c, hg, rfl, hc, Kd.R_F h⟩
theorem RD.nil (W : World) (g : Nat) : RD W g (.slice none 0 0) [] := RD.of (B := g + 1) (Kd.R_nil _ _ _ _ _) (by omega)
theorem RN.rd (h : RN W g T v p) : RD W g v p := by
 obtain ⟨B, hg, _, h⟩ := h
 exact RD.of (Kd.R_mono (Kd.S_R h) (fun k hk => hk.1)) hg
theorem RN.take {A : Option Addr} {m : Nat} (h : RN W g T (.slice A n c) p) (hm : m ≤ p.length) : RD W g (.slice A m c) (p.take m) := by
 obtain ⟨B, hg, _, h⟩ := h
 exact RD.of (Kd.R_mono (Kd.S_R (Kd.S_take h hm)) (fun k hk => hk.1)) hg
theorem Smq.set (h : Smq p) (i : Nat) (x : S58) (h1 : x.f1.size ≤ 16) (h2 : x.f6.length ≤ 17) : Smq (p.set i x) :=
 ⟨by rw [List.length_set]; exact h.len, fun y hy => by
  rcases List.mem_or_eq_of_mem_set hy with hy | rfl
  ·exact h.el y hy
  ·exact ⟨h1, h2⟩⟩
theorem Smq.take (h : Smq p) (m : Nat) : Smq (p.take m) := ⟨Nat.le_trans (by rw [List.length_take]; omega) h.len, fun y hy => h.el y (List.mem_of_mem_take hy)⟩
theorem Sml.small7 {D : Nat} {wd : Int} (h : Sml D p wd) (hD : D ≤ 7) : p.length ≤ 600 ∧ ∀ x ∈ p, x.f1.size ≤ 16 ∧ x.f6.length ≤ 16 := by
 have h1 := h.len
 have h2 : 2 ^ D ≤ 128 := Nat.pow_le_pow_right (by decide) hD
 exact ⟨by omega, h.el⟩
def cs58 (y : S58) (v6 : Value) : List Value := [.int .i64 y.f0, .string y.f1, .int .i64 y.f2, .int .i64 y.f3, .int .i64 y.f4, .bool y.f5, v6]
theorem RN.form (h : RN W g T v p) (hp : 0 < p.length) : ∃ gp c, v = .slice (some ⟨gp, 0, none⟩) p.length c := by
 obtain ⟨B, _, _, h⟩ := h
 obtain ⟨gp, c, e, _⟩ := Kd.S_form h hp
 exact ⟨gp, c, e⟩
theorem RN.gpgt (h : RN W g T (.slice (some ⟨gp, 0, none⟩) n c) p) : g < gp := by
 obtain ⟨B, hg, _, h⟩ := h
 have : B ≤ gp := (h.choose_spec.1 gp rfl).1
 omega
/-- Element i: its cells. -/
theorem RN.at_ (h : RN W g T (.slice (some ⟨gp, 0, none⟩) n c) p) (i : Int) (h0 : 0 ≤ i) (h1 : i < n) :
  ∃ A6 c6, (∀ j u, (cs58 (rd_T58 p i) (.slice A6 (rd_T58 p i).f6.length c6))[j]? = some u → W.cell? ⟨gp, i.toNat * 7 + j, none⟩ = some u) ∧ ∀ j, W.frozen? ⟨gp, i.toNat * 7 + j, none⟩ = false := by
 obtain ⟨B, _, _, h⟩ := h
 obtain ⟨ce, _, hM, hcc, hfr⟩ := Kd.R_elem (Kd.S_R h) z58 i h0 h1
 obtain ⟨v6, rfl, g6⟩ := k58_openM hM
 obtain ⟨A6, c6, rfl⟩ := Kd.R_slice g6
 exact ⟨A6, c6, hcc, hfr⟩
/-- A field of element i is written (no pointer). -/
theorem RN.fld (h : RN W g T (.slice (some ⟨gp, 0, none⟩) n c) p) (hd : DC w0 W g) (i : Int) (h0 : 0 ≤ i) (h1 : i < n) (j : Nat) (u : Value) (x' : S58) (hj : j < 7) (hf : x'.f6 = (rd_T58 p i).f6) (hc : ∀ v6, (cs58 (rd_T58 p i) v6).take j ++ [u] ++ (cs58 (rd_T58 p i) v6).drop (j + 1) = cs58 x' v6) :
  RD (W.setCell ⟨gp, i.toNat * 7 + j, none⟩ u) g (.slice (some ⟨gp, 0, none⟩) n c) (p.set i.toNat x') ∧ DC w0 (W.setCell ⟨gp, i.toNat * 7 + j, none⟩ u) g := by
 have hgp := h.gpgt
 have hge := hd.ge
 obtain ⟨B, hg, _, h⟩ := h
 have h' := Kd.S_mono h (ok' := fun k => B ≤ k ∧ ¬ (fun _ : Nat => False) k) (fun k hk => ⟨hk.1, id⟩)
 obtain ⟨oki, c', hcl, hM, hcc, hfr, hoki, hH⟩ := Kd.S_elem h' z58 i h0 h1
 obtain ⟨v6, rfl, g6⟩ := k58_openM hM
 have h2 := (Kd.S_seg (ok := fun k => B ≤ k) (okg := fun _ => False) hH h0 h1 (seg := [u]) (j := j) (show j + 1 ≤ 7 by omega) (x' := x') (okp := oki) (by
  have e := hc v6
  have : k58.M W B oki x' (cs58 x' v6) := k58_mkM W B oki x' (by rw [hf]; exact g6)
  rw [← e] at this
  exact this) (fun k hk => .inl hk) (fun k hk => hk.elim)).1
 exact ⟨RD.of (Kd.S_R h2) hg, hd.far (by omega) (by omega) _ u⟩
theorem rdT_memN' {i : Int} (h : 0 ≤ i ∧ i < (p.length : Int)) : rd_T58 p i ∈ p := by
 obtain ⟨m, rfl⟩ := Int.eq_ofNat_of_zero_le h.1
 exact rdT_memN (by omega)
theorem DC.alloc_ (h : DC w0 W g) (o : Obj) : DC w0 (W.alloc o) g := h.below (below_alloc (Below.refl _ _) o)
theorem DC.drew_ (h : DC w0 W g) : DC w0 W.drew g := h.below (below_drew (Below.refl _ _))
theorem DC.drewN_ (h : DC w0 W g) (m : Nat) : DC w0 (W.drewN m) g := h.below (pw_below_drewN (Below.refl _ _) m)
theorem RN.cap {A : Option Addr} (h : RN W g T (.slice A n c) p) : p.length ≤ c := by
 obtain ⟨B, _, _, h⟩ := h
 have := Kd.S_reads' h
 omega
end
set_option maxHeartbeats 8000000 in
set_option maxRecDepth 100000 in
theorem break_ex (g : Nat) (w0 w : World) (T : Nat) (A : Option Addr) (c : Nat) (p : List S58) (hd : DC w0 w g) (hp : RN w g T (.slice A p.length c) p) (hc : p.length ≤ c) (hz : p.length ≤ 600 ∧ ∀ x ∈ p, x.f1.size ≤ 16 ∧ x.f6.length ≤ 16) :
  Calls Try.prog 110 #[.pointer (some ⟨g, 0, none⟩), .slice A p.length c] w fun e w' => ∃ (v1 : Value) (q : List S58), e = .returned v1 ∧ RD w' g v1 q ∧ DC w0 w' g ∧ Smq q := by
 have HW := Aside0.mk (DW.mk hd (KeepBut.refl w g none) hd.lt)
 have Rp := Aside0.mk hp
 have HZ := Aside0.mk (Smq.mk (by omega) (fun x hx => by have := hz.2 x hx; omega) : Smq p)
 have HS := Aside0.mk hz
 have HC := Aside0.mk hc
 obtain ⟨⟨b, i, hh, hI, hi, hl⟩, hB⟩ := hd
 clear hp hz hc
 have hu58 := Try.underlying58
 obtain ⟨t7, i', h', e7, hi'⟩ := dr_once b i hh 8 hl hi
 have HI := Aside0.mk hI
 have HB := Aside0.mk hB
 have E7 := Aside0.mk e7
 have HI2 := Aside0.mk hi'
 have HL := Aside0.mk hl
 clear hI hB e7 hi' hl hi
 cases t7
 ·go_enter Try.func110, Try.ntmps110
  go_wp2_with (first | (go_at_call 72; (with_reducible refine (spec_l01Once.calls g b i hh 8 false i' h' w0 _ HI.out HB.out E7.out).mono ?_); rintro e w7 ⟨rfl, hI_, hB_, hk⟩; have hd : DC w0 w7 g := ⟨⟨b, i', h', hI_, HI2.out, HL.out⟩, hB_⟩; clear hI_ hB_; have n0_ := Aside0.mk (DW.step wD hd hk); have n1_ := Aside0.mk (RN.keep rNp hk); clear HW Rp hd hk; have HW := n0_; have Rp := n1_; clear n0_ n1_))
  go_ret
  exact ⟨_, p, rF, RN.rd rNp, (DW.dc wD), HZ.out⟩
 ·by_cases hn : p.length = 0
  ·obtain rfl : p = [] := List.eq_nil_of_length_eq_zero hn
   go_enter Try.func110, Try.ntmps110
   go_wp2_with (first | (go_at_call 72; (with_reducible refine (spec_l01Once.calls g b i hh 8 true i' h' w0 _ HI.out HB.out E7.out).mono ?_); rintro e w7 ⟨rfl, hI_, hB_, hk⟩; have hd : DC w0 w7 g := ⟨⟨b, i', h', hI_, HI2.out, HL.out⟩, hB_⟩; clear hI_ hB_; have n0_ := Aside0.mk (DW.step wD hd hk); have n1_ := Aside0.mk (RN.keep rNp hk); clear HW Rp hd hk; have HW := n0_; have Rp := n1_; clear n0_ n1_))
   go_ret
   exact ⟨.slice A 0 c, [], rF, RN.rd (show RN w7 g T (.slice A ([] : List S58).length c) [] from rNp), (DW.dc wD), HZ.out⟩
  ·have hn1 : (((p.length : Int)) == 0) = false := beq_eq_false_iff_ne.mpr (by omega)
   have hn2 : decide ((p.length : Int) = 0) = false := decide_eq_false (by omega)
   have HN := Aside0.mk (show 0 < (p.length : Int) by omega)
   obtain ⟨gp, cp, eo⟩ := RN.form Rp.out (by omega)
   injection eo with eA _ ec
   subst eA
   subst ec
   clear hn
   go_enter Try.func110, Try.ntmps110
   go_upto_region 5 with (first | (go_at_call 72; (with_reducible refine (spec_l01Once.calls g b i hh 8 true i' h' w0 _ HI.out HB.out E7.out).mono ?_); rintro e w7 ⟨rfl, hI_, hB_, hk⟩; have hd : DC w0 w7 g := ⟨⟨b, i', h', hI_, HI2.out, HL.out⟩, hB_⟩; clear hI_ hB_; have n0_ := Aside0.mk (DW.step wD hd hk); have n1_ := Aside0.mk (RN.keep rNp hk); clear HW Rp hd hk; have HW := n0_; have Rp := n1_; clear n0_ n1_) | ((with_reducible refine gate_dst (N := 18) rfl ?_); refine goesL_ (some 18) rfl rfl Try.func71 (by kernel_rfl) rfl #[.pointer (some ⟨g, 0, none⟩), .int .i64 p.length] rfl aL ?_; (with_reducible refine (below_ex p.length (DW.dc wD)).mono ?_); rintro e w18 ⟨r1, rfl, hr_, hd, hk⟩; refine ⟨_, rfl, ?_⟩; have Hr1 := Aside0.mk hr_; clear hr_; have n0_ := Aside0.mk (DW.step wD hd hk); have n1_ := Aside0.mk (RN.keep rNp hk); clear HW Rp hd hk; have HW := n0_; have Rp := n1_; clear n0_ n1_) | ((with_reducible refine gate_dst (N := 20) rfl ?_); refine goesL_ (some 20) rfl rfl Try.func71 (by kernel_rfl) rfl #[.pointer (some ⟨g, 0, none⟩), .int .i64 7] rfl aL ?_; (with_reducible refine (below_ex 7 (DW.dc wD)).mono ?_); rintro e w20 ⟨r2, rfl, hr_, hd, hk⟩; refine ⟨_, rfl, ?_⟩; have Hr2 := Aside0.mk hr_; clear hr_; have n0_ := Aside0.mk (DW.step wD hd hk); have n1_ := Aside0.mk (RN.keep rNp hk); clear HW Rp hd hk; have HW := n0_; have Rp := n1_; clear n0_ n1_))
   have h0 : 0 ≤ r1 := Hr1.out.1
   have h1 : r1 < (p.length : Int) := Hr1.out.2.1 HN.out
   have hp1 : (0 ≤ r1) = True := eq_true h0
   have hp2 : (r1 < (p.length : Int)) = True := eq_true h1
   have hp3 : decide (0 ≤ r1) = true := decide_eq_true h0
   have hp4 : decide (r1 < (p.length : Int)) = true := decide_eq_true h1
   have H01 := Aside0.mk (And.intro h0 h1)
   clear h0 h1
   have hr2 : r2 = 0 ∨ r2 = 1 ∨ r2 = 2 ∨ r2 = 3 ∨ r2 = 4 ∨ r2 = 5 ∨ r2 = 6 := by have := Hr2.out; omega
   clear Hr1 Hr2
   rcases hr2 with rfl | rfl | rfl | rfl | rfl | rfl | rfl
   ·go_wp2_with (first | ((with_reducible refine gate_dst (N := 26) rfl ?_); refine goesL_ (some 26) rfl rfl Try.func71 (by kernel_rfl) rfl #[.pointer (some ⟨g, 0, none⟩), .int .i64 10] rfl aL ?_; (with_reducible refine (below_ex 10 (DW.dc wD)).mono ?_); rintro e w26 ⟨r3, rfl, hr_, hd, hk⟩; refine ⟨_, rfl, ?_⟩; have Hr3 := Aside0.mk hr_; clear hr_; have n0_ := Aside0.mk (DW.step wD hd hk); have n1_ := Aside0.mk (RN.keep rNp hk); clear HW Rp hd hk; have HW := n0_; have Rp := n1_; clear n0_ n1_; obtain ⟨r4, hr4⟩ : ∃ r4, r4 = r3 - 1 := ⟨_, rfl⟩; have hs1 : wrap64 (r3 - 1) = r4 := (by have := Hr3.out; unfold wrap64; omega); have hs2 : IntKind.i64.wrap (r3 - 1) = r4 := (i64_w _).trans hs1; clear hr4; obtain ⟨A6, c6, hcc_, hfr_⟩ := RN.at_ (show RN w26 g T (.slice (some ⟨gp, 0, none⟩) p.length c) p from rNp) r1 H01.out.1 H01.out.2; have hx_0 : w26.cell? ⟨gp, r1.toNat * 7, none⟩ = some (.int .i64 (rd_T58 p r1).f0) := hcc_ 0 _ rfl; have hf_0 : w26.frozen? ⟨gp, r1.toNat * 7, none⟩ = false := hfr_ 0; have hx_1 : w26.cell? ⟨gp, r1.toNat * 7 + 1, none⟩ = some (.string (rd_T58 p r1).f1) := hcc_ 1 _ rfl; have hf_1 : w26.frozen? ⟨gp, r1.toNat * 7 + 1, none⟩ = false := hfr_ 1; have hx_2 : w26.cell? ⟨gp, r1.toNat * 7 + 2, none⟩ = some (.int .i64 (rd_T58 p r1).f2) := hcc_ 2 _ rfl; have hf_2 : w26.frozen? ⟨gp, r1.toNat * 7 + 2, none⟩ = false := hfr_ 2; have hx_3 : w26.cell? ⟨gp, r1.toNat * 7 + 3, none⟩ = some (.int .i64 (rd_T58 p r1).f3) := hcc_ 3 _ rfl; have hf_3 : w26.frozen? ⟨gp, r1.toNat * 7 + 3, none⟩ = false := hfr_ 3; have hx_4 : w26.cell? ⟨gp, r1.toNat * 7 + 4, none⟩ = some (.int .i64 (rd_T58 p r1).f4) := hcc_ 4 _ rfl; have hf_4 : w26.frozen? ⟨gp, r1.toNat * 7 + 4, none⟩ = false := hfr_ 4; have hx_5 : w26.cell? ⟨gp, r1.toNat * 7 + 5, none⟩ = some (.bool (rd_T58 p r1).f5) := hcc_ 5 _ rfl; have hf_5 : w26.frozen? ⟨gp, r1.toNat * 7 + 5, none⟩ = false := hfr_ 5; have hx_6 : w26.cell? ⟨gp, r1.toNat * 7 + 6, none⟩ = some (.slice A6 (rd_T58 p r1).f6.length c6) := hcc_ 6 _ rfl; have hf_6 : w26.frozen? ⟨gp, r1.toNat * 7 + 6, none⟩ = false := hfr_ 6; clear hcc_ hfr_))
    go_ret
    have hE := RN.fld (show RN w26 g T (.slice (some ⟨gp, 0, none⟩) p.length c) p from rNp) (DW.dc (show DW w0 w w26 g from wD)) r1 H01.out.1 H01.out.2 0 (.int .i64 r4) (⟨r4, (rd_T58 p r1).f1, (rd_T58 p r1).f2, (rd_T58 p r1).f3, (rd_T58 p r1).f4, (rd_T58 p r1).f5, (rd_T58 p r1).f6⟩ : S58) (by decide) rfl (fun _ => rfl)
    exact ⟨_, p.set r1.toNat (⟨r4, (rd_T58 p r1).f1, (rd_T58 p r1).f2, (rd_T58 p r1).f3, (rd_T58 p r1).f4, (rd_T58 p r1).f5, (rd_T58 p r1).f6⟩ : S58), rF, hE.1, hE.2, Smq.set HZ.out _ _ (HZ.out.el _ (rdT_memN' H01.out)).1 (HZ.out.el _ (rdT_memN' H01.out)).2⟩
   ·go_wp2_with (first | ((with_reducible refine gate_dst (N := 35) rfl ?_); refine lit_event ?hg (N := 35) ?hd (cs := #[.int .i64 (-1), .int .i64 63, .int .i64 64, .int .i64 2]) (t := 3) (n := 4) ?hr ?_; (case hd => rfl); (case hg => rfl); (case hr => first | (go_simp; done) | (go_simp; rfl)); intro gk hgl wk hbox hb; have NBk := Aside0.mk (DW.ne wD hgl); have n0_ := Aside0.mk (DW.below wD hb); have n1_ := Aside0.mk (RN.below rNp hb); clear HW Rp hb; have HW := n0_; have Rp := n1_; clear n0_ n1_; have Bk := Aside0.mk hbox; clear hbox hgl) | ((with_reducible refine gate_dst (N := 36) rfl ?_); refine goesL_ (some 36) rfl rfl Try.func107 (by kernel_rfl) rfl #[.pointer (some ⟨g, 0, none⟩), .slice (some ⟨gk, 0, none⟩) ([(-1), 63, 64, 2] : List Int).length 4] rfl aL ?_; (with_reducible refine (pick_ex (c := 4) ([(-1), 63, 64, 2] : List Int) (DW.dc wD) (C_ints (cs := #[.int .i64 (-1), .int .i64 63, .int .i64 64, .int .i64 2]) ([(-1), 63, 64, 2] : List Int) bBk rfl (by decide)) (by decide) NBk.out (by decide)).mono ?_); rintro e wp_ ⟨r3, rfl, hr_, hd, hk⟩; refine ⟨_, rfl, ?_⟩; clear hr_; have n0_ := Aside0.mk (DW.step wD hd hk); have n1_ := Aside0.mk (RN.keep rNp hk); clear HW Rp hd hk; have HW := n0_; have Rp := n1_; clear n0_ n1_; clear Bk; obtain ⟨A6, c6, hcc_, hfr_⟩ := RN.at_ (show RN wp_ g T (.slice (some ⟨gp, 0, none⟩) p.length c) p from rNp) r1 H01.out.1 H01.out.2; have hx_0 : wp_.cell? ⟨gp, r1.toNat * 7, none⟩ = some (.int .i64 (rd_T58 p r1).f0) := hcc_ 0 _ rfl; have hf_0 : wp_.frozen? ⟨gp, r1.toNat * 7, none⟩ = false := hfr_ 0; have hx_1 : wp_.cell? ⟨gp, r1.toNat * 7 + 1, none⟩ = some (.string (rd_T58 p r1).f1) := hcc_ 1 _ rfl; have hf_1 : wp_.frozen? ⟨gp, r1.toNat * 7 + 1, none⟩ = false := hfr_ 1; have hx_2 : wp_.cell? ⟨gp, r1.toNat * 7 + 2, none⟩ = some (.int .i64 (rd_T58 p r1).f2) := hcc_ 2 _ rfl; have hf_2 : wp_.frozen? ⟨gp, r1.toNat * 7 + 2, none⟩ = false := hfr_ 2; have hx_3 : wp_.cell? ⟨gp, r1.toNat * 7 + 3, none⟩ = some (.int .i64 (rd_T58 p r1).f3) := hcc_ 3 _ rfl; have hf_3 : wp_.frozen? ⟨gp, r1.toNat * 7 + 3, none⟩ = false := hfr_ 3; have hx_4 : wp_.cell? ⟨gp, r1.toNat * 7 + 4, none⟩ = some (.int .i64 (rd_T58 p r1).f4) := hcc_ 4 _ rfl; have hf_4 : wp_.frozen? ⟨gp, r1.toNat * 7 + 4, none⟩ = false := hfr_ 4; have hx_5 : wp_.cell? ⟨gp, r1.toNat * 7 + 5, none⟩ = some (.bool (rd_T58 p r1).f5) := hcc_ 5 _ rfl; have hf_5 : wp_.frozen? ⟨gp, r1.toNat * 7 + 5, none⟩ = false := hfr_ 5; have hx_6 : wp_.cell? ⟨gp, r1.toNat * 7 + 6, none⟩ = some (.slice A6 (rd_T58 p r1).f6.length c6) := hcc_ 6 _ rfl; have hf_6 : wp_.frozen? ⟨gp, r1.toNat * 7 + 6, none⟩ = false := hfr_ 6; clear hcc_ hfr_))
    go_ret
    have hE := RN.fld (show RN wp_ g T (.slice (some ⟨gp, 0, none⟩) p.length c) p from rNp) (DW.dc (show DW w0 w wp_ g from wD)) r1 H01.out.1 H01.out.2 2 (.int .i64 r3) (⟨(rd_T58 p r1).f0, (rd_T58 p r1).f1, r3, (rd_T58 p r1).f3, (rd_T58 p r1).f4, (rd_T58 p r1).f5, (rd_T58 p r1).f6⟩ : S58) (by decide) rfl (fun _ => rfl)
    exact ⟨_, p.set r1.toNat (⟨(rd_T58 p r1).f0, (rd_T58 p r1).f1, r3, (rd_T58 p r1).f3, (rd_T58 p r1).f4, (rd_T58 p r1).f5, (rd_T58 p r1).f6⟩ : S58), rF, hE.1, hE.2, Smq.set HZ.out _ _ (HZ.out.el _ (rdT_memN' H01.out)).1 (HZ.out.el _ (rdT_memN' H01.out)).2⟩
   ·go_wp2_with (first | ((with_reducible refine gate_dst (N := 44) rfl ?_); refine lit_event ?hg (N := 44) ?hd (cs := #[.int .i64 (-1), .int .i64 1000000, .int .i64 1000001]) (t := 3) (n := 3) ?hr ?_; (case hd => rfl); (case hg => rfl); (case hr => first | (go_simp; done) | (go_simp; rfl)); intro gk hgl wk hbox hb; have NBk := Aside0.mk (DW.ne wD hgl); have n0_ := Aside0.mk (DW.below wD hb); have n1_ := Aside0.mk (RN.below rNp hb); clear HW Rp hb; have HW := n0_; have Rp := n1_; clear n0_ n1_; have Bk := Aside0.mk hbox; clear hbox hgl) | ((with_reducible refine gate_dst (N := 45) rfl ?_); refine goesL_ (some 45) rfl rfl Try.func107 (by kernel_rfl) rfl #[.pointer (some ⟨g, 0, none⟩), .slice (some ⟨gk, 0, none⟩) ([(-1), 1000000, 1000001] : List Int).length 3] rfl aL ?_; (with_reducible refine (pick_ex (c := 3) ([(-1), 1000000, 1000001] : List Int) (DW.dc wD) (C_ints (cs := #[.int .i64 (-1), .int .i64 1000000, .int .i64 1000001]) ([(-1), 1000000, 1000001] : List Int) bBk rfl (by decide)) (by decide) NBk.out (by decide)).mono ?_); rintro e wp_ ⟨r3, rfl, hr_, hd, hk⟩; refine ⟨_, rfl, ?_⟩; clear hr_; have n0_ := Aside0.mk (DW.step wD hd hk); have n1_ := Aside0.mk (RN.keep rNp hk); clear HW Rp hd hk; have HW := n0_; have Rp := n1_; clear n0_ n1_; clear Bk; obtain ⟨A6, c6, hcc_, hfr_⟩ := RN.at_ (show RN wp_ g T (.slice (some ⟨gp, 0, none⟩) p.length c) p from rNp) r1 H01.out.1 H01.out.2; have hx_0 : wp_.cell? ⟨gp, r1.toNat * 7, none⟩ = some (.int .i64 (rd_T58 p r1).f0) := hcc_ 0 _ rfl; have hf_0 : wp_.frozen? ⟨gp, r1.toNat * 7, none⟩ = false := hfr_ 0; have hx_1 : wp_.cell? ⟨gp, r1.toNat * 7 + 1, none⟩ = some (.string (rd_T58 p r1).f1) := hcc_ 1 _ rfl; have hf_1 : wp_.frozen? ⟨gp, r1.toNat * 7 + 1, none⟩ = false := hfr_ 1; have hx_2 : wp_.cell? ⟨gp, r1.toNat * 7 + 2, none⟩ = some (.int .i64 (rd_T58 p r1).f2) := hcc_ 2 _ rfl; have hf_2 : wp_.frozen? ⟨gp, r1.toNat * 7 + 2, none⟩ = false := hfr_ 2; have hx_3 : wp_.cell? ⟨gp, r1.toNat * 7 + 3, none⟩ = some (.int .i64 (rd_T58 p r1).f3) := hcc_ 3 _ rfl; have hf_3 : wp_.frozen? ⟨gp, r1.toNat * 7 + 3, none⟩ = false := hfr_ 3; have hx_4 : wp_.cell? ⟨gp, r1.toNat * 7 + 4, none⟩ = some (.int .i64 (rd_T58 p r1).f4) := hcc_ 4 _ rfl; have hf_4 : wp_.frozen? ⟨gp, r1.toNat * 7 + 4, none⟩ = false := hfr_ 4; have hx_5 : wp_.cell? ⟨gp, r1.toNat * 7 + 5, none⟩ = some (.bool (rd_T58 p r1).f5) := hcc_ 5 _ rfl; have hf_5 : wp_.frozen? ⟨gp, r1.toNat * 7 + 5, none⟩ = false := hfr_ 5; have hx_6 : wp_.cell? ⟨gp, r1.toNat * 7 + 6, none⟩ = some (.slice A6 (rd_T58 p r1).f6.length c6) := hcc_ 6 _ rfl; have hf_6 : wp_.frozen? ⟨gp, r1.toNat * 7 + 6, none⟩ = false := hfr_ 6; clear hcc_ hfr_))
    go_ret
    have hE := RN.fld (show RN wp_ g T (.slice (some ⟨gp, 0, none⟩) p.length c) p from rNp) (DW.dc (show DW w0 w wp_ g from wD)) r1 H01.out.1 H01.out.2 4 (.int .i64 r3) (⟨(rd_T58 p r1).f0, (rd_T58 p r1).f1, (rd_T58 p r1).f2, (rd_T58 p r1).f3, r3, (rd_T58 p r1).f5, (rd_T58 p r1).f6⟩ : S58) (by decide) rfl (fun _ => rfl)
    exact ⟨_, p.set r1.toNat (⟨(rd_T58 p r1).f0, (rd_T58 p r1).f1, (rd_T58 p r1).f2, (rd_T58 p r1).f3, r3, (rd_T58 p r1).f5, (rd_T58 p r1).f6⟩ : S58), rF, hE.1, hE.2, Smq.set HZ.out _ _ (HZ.out.el _ (rdT_memN' H01.out)).1 (HZ.out.el _ (rdT_memN' H01.out)).2⟩
   ·obtain ⟨A6, c6, hcc_, hfr_⟩ := RN.at_ (show RN w20 g T (.slice (some ⟨gp, 0, none⟩) p.length c) p from rNp) r1 H01.out.1 H01.out.2
    have hx_0 : w20.cell? ⟨gp, r1.toNat * 7, none⟩ = some (.int .i64 (rd_T58 p r1).f0) := hcc_ 0 _ rfl
    have hf_0 : w20.frozen? ⟨gp, r1.toNat * 7, none⟩ = false := hfr_ 0
    have hx_1 : w20.cell? ⟨gp, r1.toNat * 7 + 1, none⟩ = some (.string (rd_T58 p r1).f1) := hcc_ 1 _ rfl
    have hf_1 : w20.frozen? ⟨gp, r1.toNat * 7 + 1, none⟩ = false := hfr_ 1
    have hx_2 : w20.cell? ⟨gp, r1.toNat * 7 + 2, none⟩ = some (.int .i64 (rd_T58 p r1).f2) := hcc_ 2 _ rfl
    have hf_2 : w20.frozen? ⟨gp, r1.toNat * 7 + 2, none⟩ = false := hfr_ 2
    have hx_3 : w20.cell? ⟨gp, r1.toNat * 7 + 3, none⟩ = some (.int .i64 (rd_T58 p r1).f3) := hcc_ 3 _ rfl
    have hf_3 : w20.frozen? ⟨gp, r1.toNat * 7 + 3, none⟩ = false := hfr_ 3
    have hx_4 : w20.cell? ⟨gp, r1.toNat * 7 + 4, none⟩ = some (.int .i64 (rd_T58 p r1).f4) := hcc_ 4 _ rfl
    have hf_4 : w20.frozen? ⟨gp, r1.toNat * 7 + 4, none⟩ = false := hfr_ 4
    have hx_5 : w20.cell? ⟨gp, r1.toNat * 7 + 5, none⟩ = some (.bool (rd_T58 p r1).f5) := hcc_ 5 _ rfl
    have hf_5 : w20.frozen? ⟨gp, r1.toNat * 7 + 5, none⟩ = false := hfr_ 5
    have hx_6 : w20.cell? ⟨gp, r1.toNat * 7 + 6, none⟩ = some (.slice A6 (rd_T58 p r1).f6.length c6) := hcc_ 6 _ rfl
    have hf_6 : w20.frozen? ⟨gp, r1.toNat * 7 + 6, none⟩ = false := hfr_ 6
    clear hcc_ hfr_
    go_wp2
    go_ret
    have hE := RN.fld (show RN w20 g T (.slice (some ⟨gp, 0, none⟩) p.length c) p from rNp) (DW.dc (show DW w0 w w20 g from wD)) r1 H01.out.1 H01.out.2 5 (.bool true) (⟨(rd_T58 p r1).f0, (rd_T58 p r1).f1, (rd_T58 p r1).f2, (rd_T58 p r1).f3, (rd_T58 p r1).f4, true, (rd_T58 p r1).f6⟩ : S58) (by decide) rfl (fun _ => rfl)
    exact ⟨_, p.set r1.toNat (⟨(rd_T58 p r1).f0, (rd_T58 p r1).f1, (rd_T58 p r1).f2, (rd_T58 p r1).f3, (rd_T58 p r1).f4, true, (rd_T58 p r1).f6⟩ : S58), rF, hE.1, hE.2, Smq.set HZ.out _ _ (HZ.out.el _ (rdT_memN' H01.out)).1 (HZ.out.el _ (rdT_memN' H01.out)).2⟩
   ·obtain ⟨B, hgB, hTB, hSB⟩ := (show RN w20 g T (.slice (some ⟨gp, 0, none⟩) p.length c) p from Rp.out)
    have HR := Aside0.mk (Kd.R_mono (Kd.S_R hSB) (ok' := fun k => B ≤ k) (fun k hk => hk.1))
    have BS := Aside0.mk (show B ≤ w20.heap.size from by have := HR.out.1 gp rfl; have := Kd.R_lt HR.out gp rfl; omega)
    obtain ⟨ce, hcl, hM, hcc_, hfr_⟩ := Kd.R_elem HR.out z58 r1 H01.out.1 H01.out.2
    obtain ⟨v6, rfl, g6⟩ := k58_openM hM
    obtain ⟨A6, c6, rfl⟩ := Kd.R_slice g6
    have HM := Aside0.mk (show k58.M w20 B (fun k => B ≤ k ∧ k ≠ gp) (rd_T58 p r1) [.int .i64 (rd_T58 p r1).f0, .string (rd_T58 p r1).f1, .int .i64 (rd_T58 p r1).f2, .int .i64 (rd_T58 p r1).f3, .int .i64 (rd_T58 p r1).f4, .bool (rd_T58 p r1).f5, .slice A6 (rd_T58 p r1).f6.length c6] from hM)
    have hx_0 : w20.cell? ⟨gp, r1.toNat * 7, none⟩ = some (.int .i64 (rd_T58 p r1).f0) := hcc_ 0 _ rfl
    have hx_1 : w20.cell? ⟨gp, r1.toNat * 7 + 1, none⟩ = some (.string (rd_T58 p r1).f1) := hcc_ 1 _ rfl
    have hx_2 : w20.cell? ⟨gp, r1.toNat * 7 + 2, none⟩ = some (.int .i64 (rd_T58 p r1).f2) := hcc_ 2 _ rfl
    have hx_3 : w20.cell? ⟨gp, r1.toNat * 7 + 3, none⟩ = some (.int .i64 (rd_T58 p r1).f3) := hcc_ 3 _ rfl
    have hx_4 : w20.cell? ⟨gp, r1.toNat * 7 + 4, none⟩ = some (.int .i64 (rd_T58 p r1).f4) := hcc_ 4 _ rfl
    have hx_5 : w20.cell? ⟨gp, r1.toNat * 7 + 5, none⟩ = some (.bool (rd_T58 p r1).f5) := hcc_ 5 _ rfl
    have hx_6 : w20.cell? ⟨gp, r1.toNat * 7 + 6, none⟩ = some (.slice A6 (rd_T58 p r1).f6.length c6) := hcc_ 6 _ rfl
    have hf_0 : w20.frozen? ⟨gp, r1.toNat * 7, none⟩ = false := hfr_ 0
    have hf_1 : w20.frozen? ⟨gp, r1.toNat * 7 + 1, none⟩ = false := hfr_ 1
    have hf_2 : w20.frozen? ⟨gp, r1.toNat * 7 + 2, none⟩ = false := hfr_ 2
    have hf_3 : w20.frozen? ⟨gp, r1.toNat * 7 + 3, none⟩ = false := hfr_ 3
    have hf_4 : w20.frozen? ⟨gp, r1.toNat * 7 + 4, none⟩ = false := hfr_ 4
    have hf_5 : w20.frozen? ⟨gp, r1.toNat * 7 + 5, none⟩ = false := hfr_ 5
    have hf_6 : w20.frozen? ⟨gp, r1.toNat * 7 + 6, none⟩ = false := hfr_ 6
    clear hcl hM hcc_ hfr_ g6 hSB hTB
    have HGB := Aside0.mk hgB
    clear hgB
    go_wp2_with (first | ((with_reducible refine gate_builtin (b := .append) (xs := #[.tmp 56, .tmp 61]) rfl ?_); at_builtin; refine Kd.R_append k58 (w0 := w20) B rfl (.tmp 56) (.tmp 61) 46 58 (.agg #[.int .i64 0, .string ⟨#[]⟩, .int .i64 0, .int .i64 0, .int .i64 0, .bool false, .slice none 0 0]) 80 rfl Try.underlying46 info58 rfl (by decide) (by omega) (.slice (some ⟨gp, 0, none⟩) p.length c) p (rd_T58 p r1) [.int .i64 (rd_T58 p r1).f0, .string (rd_T58 p r1).f1, .int .i64 (rd_T58 p r1).f2, .int .i64 (rd_T58 p r1).f3, .int .i64 (rd_T58 p r1).f4, .bool (rd_T58 p r1).f5, .slice A6 (rd_T58 p r1).f6.length c6] (fun k => B ≤ k) (fun k => B ≤ k ∧ k ≠ gp) rfl rfl HM.out (fun k hk => ⟨hk.1, fun e => hk.2 (by injection e)⟩) (fun k hk => Nat.le_trans BS.out hk) HR.out (Below.refl _ _) BS.out (by have := HS.out.1; omega) ?_; intro v1 w62 ho hb hg hat; have HO := Aside0.mk ho; have HG := Aside0.mk hg; clear ho hb hg hat))
    go_ret
    exact ⟨v1, p ++ [(rd_T58 p r1)], rF, RD.of HO.out HGB.out, DC.grown (DW.dc HW.out) HG.out (fun k hk => by have e : gp = k := (by simpa [Value.ownBlock] using hk); have := Kd.R_base HR.out gp rfl; have := HGB.out; omega), Smq.mk (by rw [List.length_append, List.length_singleton]; have := HS.out.1; omega) (fun y hy => by rcases List.mem_append.1 hy with hy | hy; exact HZ.out.el y hy; rw [List.mem_singleton.1 hy]; exact HZ.out.el _ (rdT_memN' H01.out))⟩
   ·obtain ⟨i0, hi0, _, hsz, _⟩ := info_parts info58
    have kB : ∀ w : World, (Instr.slice 46 (.slice (some ⟨gp, 0, none⟩) p.length c) none (some (.int .i64 r1)) none).run Try.prog w = .ok (.slice (some ⟨gp, 0, none⟩) r1.toNat c) w := fun w => by
     have hel : Try.prog.elem 46 = 58 := by simp [Program.elem, Try.underlying46]
     rw [run_slice_h w 46 (some ⟨gp, 0, none⟩) p.length c (by rw [hel]; exact Try.underlying46) .i64 r1 H01.out.1 (by have := H01.out; have := HC.out; omega), hel]
     simp [sizeOf, typeInfo, hi0, sliced, Result.andThen, Addr.add]
    clear hi0 hsz
    go_wp2
    go_ret
    exact ⟨_, p.take r1.toNat, rF, by first | exact RN.take rNp (by have := H01.out; omega) | (rw [show r1.toNat = (p.take r1.toNat).length by rw [List.length_take]; have := H01.out; omega]; exact RN.take rNp (by have := H01.out; omega)), (DW.dc wD), Smq.take HZ.out _⟩
   ·obtain ⟨B, hgB, hTB, hSB⟩ := (show RN w20 g T (.slice (some ⟨gp, 0, none⟩) p.length c) p from Rp.out)
    have HR := Aside0.mk (Kd.R_mono (Kd.S_R hSB) (ok' := fun k => B ≤ k) (fun k hk => hk.1))
    have BS := Aside0.mk (show B ≤ w20.heap.size from by have := HR.out.1 gp rfl; have := Kd.R_lt HR.out gp rfl; omega)
    obtain ⟨oki, ce, hcl, hM, hcc_, hfr_, hoki, hH⟩ := Kd.S_elem (Kd.S_mono hSB (ok' := fun k => B ≤ k) (fun k hk => hk.1)) z58 r1 H01.out.1 H01.out.2
    obtain ⟨v6, rfl, g6⟩ := k58_openM hM
    obtain ⟨A6, c6, rfl⟩ := Kd.R_slice g6
    have G6 := Aside0.mk (show (Kd.int .i64).R 3 w20 B oki (.slice A6 (rd_T58 p r1).f6.length c6) (rd_T58 p r1).f6 from g6)
    have HH := Aside0.mk (show Kd.H k58 58 w20 B (fun k => B ≤ k) (.slice (some ⟨gp, 0, none⟩) p.length c) p r1 oki [.int .i64 (rd_T58 p r1).f0, .string (rd_T58 p r1).f1, .int .i64 (rd_T58 p r1).f2, .int .i64 (rd_T58 p r1).f3, .int .i64 (rd_T58 p r1).f4, .bool (rd_T58 p r1).f5, .slice A6 (rd_T58 p r1).f6.length c6] from hH)
    have OK := Aside0.mk (show ∀ k, oki k → B ≤ k from fun k hk => (hoki k hk).1)
    have hx_0 : w20.cell? ⟨gp, r1.toNat * 7, none⟩ = some (.int .i64 (rd_T58 p r1).f0) := hcc_ 0 _ rfl
    have hx_1 : w20.cell? ⟨gp, r1.toNat * 7 + 1, none⟩ = some (.string (rd_T58 p r1).f1) := hcc_ 1 _ rfl
    have hx_2 : w20.cell? ⟨gp, r1.toNat * 7 + 2, none⟩ = some (.int .i64 (rd_T58 p r1).f2) := hcc_ 2 _ rfl
    have hx_3 : w20.cell? ⟨gp, r1.toNat * 7 + 3, none⟩ = some (.int .i64 (rd_T58 p r1).f3) := hcc_ 3 _ rfl
    have hx_4 : w20.cell? ⟨gp, r1.toNat * 7 + 4, none⟩ = some (.int .i64 (rd_T58 p r1).f4) := hcc_ 4 _ rfl
    have hx_5 : w20.cell? ⟨gp, r1.toNat * 7 + 5, none⟩ = some (.bool (rd_T58 p r1).f5) := hcc_ 5 _ rfl
    have hx_6 : w20.cell? ⟨gp, r1.toNat * 7 + 6, none⟩ = some (.slice A6 (rd_T58 p r1).f6.length c6) := hcc_ 6 _ rfl
    have hf_0 : w20.frozen? ⟨gp, r1.toNat * 7, none⟩ = false := hfr_ 0
    have hf_1 : w20.frozen? ⟨gp, r1.toNat * 7 + 1, none⟩ = false := hfr_ 1
    have hf_2 : w20.frozen? ⟨gp, r1.toNat * 7 + 2, none⟩ = false := hfr_ 2
    have hf_3 : w20.frozen? ⟨gp, r1.toNat * 7 + 3, none⟩ = false := hfr_ 3
    have hf_4 : w20.frozen? ⟨gp, r1.toNat * 7 + 4, none⟩ = false := hfr_ 4
    have hf_5 : w20.frozen? ⟨gp, r1.toNat * 7 + 5, none⟩ = false := hfr_ 5
    have hf_6 : w20.frozen? ⟨gp, r1.toNat * 7 + 6, none⟩ = false := hfr_ 6
    have HNE := Aside0.mk (show ∀ k, oki k → k ≠ gp from fun k hk => (hoki k hk).2)
    clear hcl hM hcc_ hfr_ g6 hSB hTB hoki hH
    have HGB := Aside0.mk hgB
    clear hgB
    go_wp2_with (first | ((with_reducible refine gate_builtin (b := .append) (xs := #[.tmp 76, .tmp 77]) rfl ?_); at_builtin; refine Kd.R_append (Kd.int .i64) (w0 := w20) B rfl (.tmp 76) (.tmp 77) 29 3 (.int .i64 0) 8 rfl Try.underlying29 info3 rfl (by decide) (by omega) (.slice A6 (rd_T58 p r1).f6.length c6) (rd_T58 p r1).f6 0 [.int .i64 0] (fun k => oki k ∨ B ≤ k ∧ w20.heap.size ≤ k) (fun _ => False) rfl rfl rfl (fun _ hk => hk.elim) (fun k hk => .inr ⟨Nat.le_trans BS.out hk, hk⟩) (Kd.R_mono G6.out (fun k hk => .inl hk)) (Below.refl _ _) BS.out (by have := HS.out.2 _ (rdT_memN' H01.out); omega) ?_; intro v78 w78 ho hb hg hat; have HO := Aside0.mk ho; have HH2 := Aside0.mk (Kd.H_grown (Kd.H_widen HH.out) hg (fun k hk => .inl (G6.out.1 k hk))); have HD := Aside0.mk (DC.grown (DW.dc HW.out) hg (fun k hk => by have h1 := G6.out.1 k hk; have := OK.out k h1; have := HGB.out; omega)); clear ho hb hg hat HH; obtain ⟨hat_, hft_⟩ := Kd.H_at HH2.out H01.out.1 H01.out.2; have hy_0 : w78.cell? ⟨gp, r1.toNat * 7, none⟩ = some (.int .i64 (rd_T58 p r1).f0) := hat_ 0 _ rfl; have hfy_0 : w78.frozen? ⟨gp, r1.toNat * 7, none⟩ = false := hft_ 0; have hy_1 : w78.cell? ⟨gp, r1.toNat * 7 + 1, none⟩ = some (.string (rd_T58 p r1).f1) := hat_ 1 _ rfl; have hfy_1 : w78.frozen? ⟨gp, r1.toNat * 7 + 1, none⟩ = false := hft_ 1; have hy_2 : w78.cell? ⟨gp, r1.toNat * 7 + 2, none⟩ = some (.int .i64 (rd_T58 p r1).f2) := hat_ 2 _ rfl; have hfy_2 : w78.frozen? ⟨gp, r1.toNat * 7 + 2, none⟩ = false := hft_ 2; have hy_3 : w78.cell? ⟨gp, r1.toNat * 7 + 3, none⟩ = some (.int .i64 (rd_T58 p r1).f3) := hat_ 3 _ rfl; have hfy_3 : w78.frozen? ⟨gp, r1.toNat * 7 + 3, none⟩ = false := hft_ 3; have hy_4 : w78.cell? ⟨gp, r1.toNat * 7 + 4, none⟩ = some (.int .i64 (rd_T58 p r1).f4) := hat_ 4 _ rfl; have hfy_4 : w78.frozen? ⟨gp, r1.toNat * 7 + 4, none⟩ = false := hft_ 4; have hy_5 : w78.cell? ⟨gp, r1.toNat * 7 + 5, none⟩ = some (.bool (rd_T58 p r1).f5) := hat_ 5 _ rfl; have hfy_5 : w78.frozen? ⟨gp, r1.toNat * 7 + 5, none⟩ = false := hft_ 5; have hy_6 : w78.cell? ⟨gp, r1.toNat * 7 + 6, none⟩ = some (.slice A6 (rd_T58 p r1).f6.length c6) := hat_ 6 _ rfl; have hfy_6 : w78.frozen? ⟨gp, r1.toNat * 7 + 6, none⟩ = false := hft_ 6; clear hat_ hft_; obtain ⟨A7, c7, eo⟩ := Kd.R_slice HO.out; rw [List.length_append, List.length_singleton] at eo; subst eo))
    go_ret
    have hglt : gp < w20.heap.size := Kd.R_lt HR.out gp rfl
    obtain ⟨hs, hgw⟩ := Kd.H_seg HH2.out H01.out.1 H01.out.2 (seg := [.slice A7 ((rd_T58 p r1).f6.length + 1) c7]) (j := 6) (show 6 + 1 ≤ 7 by decide) (fun q hq => by rw [List.mem_singleton.1 hq]; rfl)
    have hM7 : k58.M (w78.setCells gp (r1.toNat * 7 + 6) [.slice A7 ((rd_T58 p r1).f6.length + 1) c7]) B (fun k => oki k ∨ B ≤ k ∧ w20.heap.size ≤ k) (⟨(rd_T58 p r1).f0, (rd_T58 p r1).f1, (rd_T58 p r1).f2, (rd_T58 p r1).f3, (rd_T58 p r1).f4, (rd_T58 p r1).f5, (rd_T58 p r1).f6 ++ [0]⟩ : S58) [.int .i64 (rd_T58 p r1).f0, .string (rd_T58 p r1).f1, .int .i64 (rd_T58 p r1).f2, .int .i64 (rd_T58 p r1).f3, .int .i64 (rd_T58 p r1).f4, .bool (rd_T58 p r1).f5, .slice A7 ((rd_T58 p r1).f6.length + 1) c7] := k58_mkM _ _ _ _ (Kd.R_step HO.out (fun k hk hlt => hgw.block k hlt (fun e => by have e2 : k = gp := Option.some.inj e; rcases hk with hk | hk; exact HNE.out k hk e2; have := hk.2; omega)))
    have hS7 := Kd.H_back hs (x' := (⟨(rd_T58 p r1).f0, (rd_T58 p r1).f1, (rd_T58 p r1).f2, (rd_T58 p r1).f3, (rd_T58 p r1).f4, (rd_T58 p r1).f5, (rd_T58 p r1).f6 ++ [0]⟩ : S58)) hM7 (fun _ hk => hk)
    have hgp : g < gp := by have := Kd.R_base HR.out gp rfl; have := HGB.out; omega
    have hge := HD.out.ge
    exact ⟨.slice (some ⟨gp, 0, none⟩) p.length c, p.set r1.toNat (⟨(rd_T58 p r1).f0, (rd_T58 p r1).f1, (rd_T58 p r1).f2, (rd_T58 p r1).f3, (rd_T58 p r1).f4, (rd_T58 p r1).f5, (rd_T58 p r1).f6 ++ [0]⟩ : S58), rF, RD.of (Kd.S_R hS7) HGB.out, HD.out.far (by omega) (by omega) _ _, Smq.set HZ.out _ _ (HZ.out.el _ (rdT_memN' H01.out)).1 (by show ((rd_T58 p r1).f6 ++ [0]).length ≤ 17; rw [List.length_append, List.length_singleton]; have := HS.out.2 _ (rdT_memN' H01.out); omega)⟩
end Go.Proofs.Ytbdfidnldaghbaa.Q
