/- spec.l02DrawDeep, l02DrawLoose, DrawPlanOk: what they may give. -/
import Derived.Test.YtbdfidnldaghbaaQx83
namespace Go.Proofs.Ytbdfidnldaghbaa.Q
open Go.RowKit Go.Proofs.Ytbdfidnldaghbaa.Own Go.Proofs.YtbdfidnldaghbaaW.PrintWords Go.Proofs.YtbdfidnldaghbaaW.PrintLast Go.Proofs.YtbdfidnldaghbaaW.PrintMore Go.Proofs.Ytbdfidnldaghbaa.Dp Go.Proofs.Ytbdfidnldaghbaa.Lib
set_option linter.unusedVariables false
set_option linter.unusedSimpArgs false
set_option maxHeartbeats 8000000 in
set_option maxRecDepth 100000 in
theorem deep_ex (g : Nat) (w0 w : World) (A : Option Addr) (c : Nat) (l : List Int) (hr : Kd.C (Kd.int .u8) w0 A l.length l) (hc : l.length ≤ c) (hl : l.length ≤ 1099511627776) (hd : DC w0 w g) :
  Calls Try.prog 111 #[.pointer (some ⟨g, 0, none⟩), .slice A l.length c] w fun e w' => ∃ (T : Nat) (v : Value) (p : List S58), e = .returned v ∧ RN w' g T v p ∧ DC w0 w' g ∧ KeepBut w w' g none ∧ p.length ≤ 600 ∧ ∀ x ∈ p, x.f1.size ≤ 16 ∧ x.f6.length ≤ 16 := by
 have HW := Aside0.mk (DW.mk hd (KeepBut.refl w g none) hd.lt)
 have HR := Aside0.mk hr
 have HC := Aside0.mk hc
 obtain ⟨n0, e0, hn1, hn2⟩ := dr_size l 7 hl (by decide)
 have E0 := Aside0.mk e0
 have N0 := Aside0.mk (And.intro hn1 hn2)
 clear hd hr hc e0 hn1 hn2 hl
 have hu58 := Try.underlying58
 go_enter Try.func111, Try.ntmps111
 go_wp2_with (first | ((with_reducible refine gate_dst (N := 11) rfl ?_); refine goesL_ (some 11) rfl rfl Try.func103 (by kernel_rfl) rfl #[.slice A l.length c, .int .i64 7] rfl aL ?_; (with_reducible refine (spec_l01Size.calls A c l 7 n0 _ (C_now HR.out (DC.hb (DW.dc wD))) HC.out E0.out).mono ?_); rintro e w' ⟨rfl, ⟨nd, rfl⟩⟩; refine ⟨_, rfl, ?_⟩) | ((with_reducible refine gate_dst (N := 12) rfl ?_); refine goesL_ (some 12) rfl rfl Try.func71 (by kernel_rfl) rfl #[.pointer (some ⟨g, 0, none⟩), .int .i64 n0] rfl aL ?_; (with_reducible refine (below_ex n0 (DW.dc wD)).mono ?_); rintro e w12 ⟨r1, rfl, hr_, hd, hk⟩; refine ⟨_, rfl, ?_⟩; have Hr1 := Aside0.mk hr_; clear hr_; have n0_ := Aside0.mk (DW.step wD hd hk); clear HW hd hk; have HW := n0_; clear n0_; obtain ⟨d0, hd0⟩ : ∃ d0, d0 = 1 + r1 := ⟨_, rfl⟩; have hs1 : wrap64 (1 + r1) = d0 := (by have := Hr1.out; have := N0.out; unfold wrap64; omega); have hs2 : IntKind.i64.wrap (1 + r1) = d0 := (i64_w _).trans hs1; have HD0 := Aside0.mk (show -1 ≤ d0 ∧ d0 ≤ ((7 : Nat) : Int) from (by have := Hr1.out; have := N0.out; omega)); clear hd0) | ((with_reducible refine gate_dst (N := 14) rfl ?_); refine goesL_ (some 14) rfl rfl Try.func132 (by kernel_rfl) rfl #[.pointer (some ⟨g, 0, none⟩), .int .i64 d0] rfl aL ?_; (with_reducible refine (drawPlan_ex g w0 7 (by decide) d0 _ HD0.out (DW.dc wD)).mono ?_); rintro e w14 ⟨va, la, da, rfl, ho_, hd, hk, hs_⟩; refine ⟨_, rfl, ?_⟩; have Ra := Aside0.mk (RN.of ho_ (DW.glt wD)); have Za := Aside0.mk hs_; clear ho_ hs_; have n0_ := Aside0.mk (DW.step wD hd hk); clear HW hd hk; have HW := n0_; clear n0_; obtain ⟨Aa, ca, eo_⟩ := RN.slice Ra.out; subst eo_))
 go_ret
 exact ⟨_, .slice Aa la.length ca, la, rF, Ra.out, (DW.dc wD), (DW.hk wD), Sml.small7 Za.out (by decide)⟩
set_option maxHeartbeats 8000000 in
set_option maxRecDepth 100000 in
theorem loose_ex (g : Nat) (w0 w : World) (A : Option Addr) (c : Nat) (l : List Int) (hr : Kd.C (Kd.int .u8) w0 A l.length l) (hc : l.length ≤ c) (hl : l.length ≤ 1099511627776) (hd : DC w0 w g) :
  Calls Try.prog 79 #[.pointer (some ⟨g, 0, none⟩), .slice A l.length c] w fun e w' => ∃ (v : Value) (q : List S58), e = .returned v ∧ RD w' g v q ∧ DC w0 w' g ∧ Smq q := by
 have HD := Aside0.mk hd
 have HR := Aside0.mk hr
 have HC := Aside0.mk hc
 have HL := Aside0.mk hl
 clear hd hr hc hl
 have hu58 := Try.underlying58
 go_enter Try.func79, Try.ntmps79
 go_upto_if 14 with (first | ((with_reducible refine gate_dst (N := 11) rfl ?_); refine goesL_ (some 11) rfl rfl Try.func111 (by kernel_rfl) rfl #[.pointer (some ⟨g, 0, none⟩), .slice A l.length c] rfl aL ?_; (with_reducible refine (deep_ex g w0 _ A c l HR.out HC.out HL.out (by (with_reducible repeat (first | apply DC.alloc_ | apply DC.drewN_ | apply DC.drew_)); exact HD.out)).mono ?_); rintro e w11 ⟨T, va, la, rfl, hra, hd, hk, hz1, hz2⟩; refine ⟨_, rfl, ?_⟩; have Ra := Aside0.mk hra; have HZ := Aside0.mk (And.intro hz1 hz2); clear HD hra hz1 hz2 hk; have HD := Aside0.mk hd; clear hd; obtain ⟨Aa, ca, eo_⟩ := RN.slice Ra.out; subst eo_) | ((with_reducible refine gate_dst (N := 12) rfl ?_); refine goesL_ (some 12) rfl rfl Try.func110 (by kernel_rfl) rfl #[.pointer (some ⟨g, 0, none⟩), .slice Aa la.length ca] rfl aL ?_; (with_reducible refine (break_ex g w0 _ T Aa ca la (by (with_reducible repeat (first | apply DC.alloc_ | apply DC.drewN_ | apply DC.drew_)); exact HD.out) rNa (RN.cap Ra.out) HZ.out).mono ?_); rintro e w12 ⟨vq, q, rfl, hrq, hd, hz⟩; refine ⟨_, rfl, ?_⟩; have Rq := Aside0.mk hrq; have SQ := Aside0.mk hz; clear HD Ra HZ hrq hz; have HD := Aside0.mk hd; clear hd) | ((with_reducible refine gate_dst (N := 14) rfl ?_); refine goesL_ (some 14) rfl rfl Try.func72 (by kernel_rfl) rfl #[.pointer (some ⟨g, 0, none⟩), .int .i64 30] rfl aL ?_; (with_reducible refine (once_ex 30 (by (with_reducible repeat (first | apply DC.alloc_ | apply DC.drewN_ | apply DC.drew_)); exact HD.out)).mono ?_); rintro e w14 ⟨t14, rfl, hd, hk⟩; refine ⟨_, rfl, ?_⟩; have n1_ := Aside0.mk (RD.keep (by (with_reducible repeat (first | apply RD.alloc | apply RD.drewN | apply RD.drew)); exact Rq.out) hk); clear HD Rq; have HD := Aside0.mk hd; have Rq := n1_; clear n1_ hd hk))
 cases t14
 ·go_wp2
  go_ret
  exact ⟨vq, q, rF, (by (with_reducible repeat (first | apply RD.alloc | apply RD.drewN | apply RD.drew)); exact Rq.out), (by (with_reducible repeat (first | apply DC.alloc_ | apply DC.drewN_ | apply DC.drew_)); exact HD.out), SQ.out⟩
 ·go_wp2_with (first | ((with_reducible refine gate_dst (N := 16) rfl ?_); refine goesL_ (some 16) rfl rfl Try.func71 (by kernel_rfl) rfl #[.pointer (some ⟨g, 0, none⟩), .int .i64 2] rfl aL ?_; (with_reducible refine (below_ex 2 (by (with_reducible repeat (first | apply DC.alloc_ | apply DC.drewN_ | apply DC.drew_)); exact HD.out)).mono ?_); rintro e w16 ⟨r1, rfl, hr_, hd, hk⟩; refine ⟨_, rfl, ?_⟩; have Hr1 := Aside0.mk hr_; clear hr_ hk; clear HD Rq SQ; have HD := Aside0.mk hd; clear hd; obtain ⟨n0, hn0⟩ : ∃ n0, n0 = 9 + r1 := ⟨_, rfl⟩; have hs1 : wrap64 (9 + r1) = n0 := (by have := Hr1.out; unfold wrap64; omega); have hs2 : IntKind.i64.wrap (9 + r1) = n0 := (i64_w _).trans hs1; have HN0 := Aside0.mk (show 9 ≤ n0 ∧ n0 ≤ 10 from (by have := Hr1.out; omega)); clear hn0; obtain ⟨N, hN⟩ : ∃ N, N = w16.heap.size := ⟨_, rfl⟩; have GN := Aside0.mk (show g < N by rw [hN]; exact DC.lt HD.out); have NW := Aside0.mk (show N ≤ w16.heap.size from Nat.le_of_eq hN); clear hN))
  go_loopg [5, 7] 11 (fun kq v5 v7 w' => ∃ (x7 : Int) (q : List S58), v7 = .int .i64 x7 ∧ Aside0 (0 ≤ x7 ∧ x7 ≤ n0 ∧ (q.length : Int) = x7 ∧ kq + x7.toNat = 11 ∧ ∀ x ∈ q, x.f1.size ≤ 16 ∧ x.f6.length ≤ 17) ∧ Aside0 (DC w0 w' g) ∧ Aside0 (N ≤ w'.heap.size) ∧ Aside0 (Kd.R k58 58 w' N (fun k => N ≤ k) v5 q))
  case atStart => exact ⟨0, [], rF, ⟨by have := HN0.out; exact ⟨by omega, by omega, rfl, rfl, by simp⟩⟩, ⟨(by (with_reducible repeat (first | apply DC.alloc_ | apply DC.drewN_ | apply DC.drew_)); exact HD.out)⟩, ⟨(by first | exact NW.out | exact Nat.le_trans NW.out (by simp))⟩, ⟨Kd.R_nil _ _ _ _ _⟩⟩
  case round =>
   clear HD NW
   obtain ⟨x7, q, rfl, HX, HD, NW, HQ⟩ := hrel
   by_cases hx : x7 < n0
   ·have hxb : decide (x7 < n0) = true := decide_eq_true hx
    obtain ⟨x8, hx8⟩ : ∃ x8, x8 = x7 + 1 := ⟨_, rfl⟩
    have hs3 : wrap64 (x7 + 1) = x8 := by have := HX.out; have := HN0.out; unfold wrap64; omega
    have hs4 : IntKind.i64.wrap (x7 + 1) = x8 := (i64_w _).trans hs3
    have HX8 := Aside0.mk (show 0 ≤ x8 ∧ x8 ≤ n0 ∧ x8 = x7 + 1 by have := HX.out; omega)
    clear hx8 hx
    go_wp2_with (first | ((with_reducible refine gate_builtin (b := .append) (xs := #[.tmp 23, .tmp 25]) rfl ?_); at_builtin; refine Kd.R_append k58 (w0 := wr) N rfl (.tmp 23) (.tmp 25) 46 58 (.agg #[.int .i64 0, .string ⟨#[]⟩, .int .i64 0, .int .i64 0, .int .i64 0, .bool false, .slice none 0 0]) 80 rfl Try.underlying46 info58 rfl (by decide) (by omega) u5 q (⟨7, (⟨#[]⟩ : ByteArray), 0, 0, 0, false, ([] : List Int)⟩ : S58) [.int .i64 7, .string (⟨#[]⟩ : ByteArray), .int .i64 0, .int .i64 0, .int .i64 0, .bool false, .slice none 0 0] (fun k => N ≤ k) (fun _ => False) rfl rfl (k58_mkM _ _ _ (⟨7, (⟨#[]⟩ : ByteArray), 0, 0, 0, false, ([] : List Int)⟩ : S58) (Kd.R_nil _ _ _ _ _)) (fun _ hk => hk.elim) (fun k hk => Nat.le_trans NW.out hk) HQ.out (Below.refl _ _) NW.out (by have := HX.out; have := HN0.out; omega) ?_; intro v1 w1 ho hb hg hat; have n0_ := Aside0.mk (DC.grown HD.out hg (fun k hk => by have := Kd.R_base HQ.out k hk; have := GN.out; omega)); have n1_ := Aside0.mk (Nat.le_trans NW.out hg.size); clear HD NW HQ; have HD := n0_; have NW := n1_; have HQ := Aside0.mk ho; clear n0_ n1_ ho hb hg hat))
    go_roundg (10 - x7.toNat)
    case measure => have := HX.out; have := HN0.out; have := HX8.out; omega
    case rel => exact ⟨x8, q ++ [(⟨7, (⟨#[]⟩ : ByteArray), 0, 0, 0, false, ([] : List Int)⟩ : S58)], rF, ⟨by have h1 := HX.out; have := HX8.out; have := HN0.out; exact ⟨by omega, by omega, by rw [List.length_append, List.length_singleton]; omega, by omega, fun y hy => by rcases List.mem_append.1 hy with hy | hy; exact h1.2.2.2.2 y hy; rw [List.mem_singleton.1 hy]; exact ⟨Nat.zero_le 16, Nat.zero_le 17⟩⟩⟩, ⟨(by (with_reducible repeat (first | apply DC.alloc_ | apply DC.drewN_ | apply DC.drew_)); exact HD.out)⟩, ⟨(by first | exact NW.out | exact Nat.le_trans NW.out (by simp))⟩, ⟨(by (with_reducible repeat (first | apply Kd.R_alloc | apply Kd.R_drewN | apply Kd.R_drew)); exact HQ.out)⟩⟩
   ·have hxb : decide (x7 < n0) = false := decide_eq_false hx
    clear hx
    go_wp2_with (first | ((with_reducible refine gate_builtin (b := .append) (xs := #[.tmp 27, .tmp 29]) rfl ?_); at_builtin; refine Kd.R_append k58 (w0 := wr) N rfl (.tmp 27) (.tmp 29) 46 58 (.agg #[.int .i64 0, .string ⟨#[]⟩, .int .i64 0, .int .i64 0, .int .i64 0, .bool false, .slice none 0 0]) 80 rfl Try.underlying46 info58 rfl (by decide) (by omega) u5 q (⟨0, { data := #[116, 49] }, 0, 0, 0, false, ([] : List Int)⟩ : S58) [.int .i64 0, .string { data := #[116, 49] }, .int .i64 0, .int .i64 0, .int .i64 0, .bool false, .slice none 0 0] (fun k => N ≤ k) (fun _ => False) rfl rfl (k58_mkM _ _ _ (⟨0, { data := #[116, 49] }, 0, 0, 0, false, ([] : List Int)⟩ : S58) (Kd.R_nil _ _ _ _ _)) (fun _ hk => hk.elim) (fun k hk => Nat.le_trans NW.out hk) HQ.out (Below.refl _ _) NW.out (by have := HX.out; have := HN0.out; omega) ?_; intro v1 w1 ho hb hg hat; have n0_ := Aside0.mk (DC.grown HD.out hg (fun k hk => by have := Kd.R_base HQ.out k hk; have := GN.out; omega)); have n1_ := Aside0.mk (Nat.le_trans NW.out hg.size); clear HD NW HQ; have HD := n0_; have NW := n1_; have HQ := Aside0.mk ho; clear n0_ n1_ ho hb hg hat))
    go_ret
    exact ⟨v1, q ++ [(⟨0, { data := #[116, 49] }, 0, 0, 0, false, ([] : List Int)⟩ : S58)], rF, RD.of (by (with_reducible repeat (first | apply Kd.R_alloc | apply Kd.R_drewN | apply Kd.R_drew)); exact HQ.out) GN.out, (by (with_reducible repeat (first | apply DC.alloc_ | apply DC.drewN_ | apply DC.drew_)); exact HD.out), ⟨by rw [List.length_append, List.length_singleton]; have := HX.out; have := HN0.out; omega, fun y hy => by rcases List.mem_append.1 hy with hy | hy; exact HX.out.2.2.2.2 y hy; rw [List.mem_singleton.1 hy]; exact ⟨by show 2 ≤ 16; decide, Nat.zero_le 17⟩⟩⟩
set_option maxHeartbeats 8000000 in
set_option maxRecDepth 100000 in
theorem drawPlanOk_ex (w : World) (A : Option Addr) (c : Nat) (l : List Int) (hr : Kd.C (Kd.int .u8) w A l.length l) (hc : l.length ≤ c) (hl : l.length ≤ 1099511627776) :
  Calls Try.prog 33 #[.slice A l.length c] w fun e w' => ∃ (A1 : Option Addr) (c1 : Nat) (q : List S58), e = .returned (.slice A1 q.length c1) ∧ q.length ≤ c1 ∧ Kd.C k58 w' A1 q.length q ∧ Below w.heap.size w w' ∧ Smq q := by
 obtain ⟨h0, k, e0⟩ := dr_new l hl
 have E0 := Aside0.mk (e0 k (Nat.le_refl k))
 have HB := Aside0.mk (Below.refl w.heap.size w)
 have HR := Aside0.mk hr
 have HC := Aside0.mk hc
 have HL := Aside0.mk hl
 clear hr hc hl e0
 go_enter Try.func33, Try.ntmps33
 go_wp2_with (first | ((with_reducible refine gate_dst (N := 4) rfl ?_); refine goesL_ (some 4) rfl rfl Try.func59 (by kernel_rfl) rfl #[.slice A l.length c] rfl aL ?_; (with_reducible refine (spec_l01New.calls k A c l l 0 h0 w _ bA HR.out HC.out E0.out).mono ?_); rintro e w4 ⟨g, rfl, hI, hB, hb⟩; refine ⟨_, rfl, ?_⟩; have HD := Aside0.mk (DC.mk ⟨l, 0, h0, hI, Int.le_refl 0, HL.out⟩ hB); clear HB hI hB hb) | ((with_reducible refine gate_dst (N := 6) rfl ?_); refine goesL_ (some 6) rfl rfl Try.func79 (by kernel_rfl) rfl #[.pointer (some ⟨g, 0, none⟩), .slice A l.length c] rfl aL ?_; (with_reducible refine (loose_ex g w _ A c l HR.out HC.out HL.out (by (with_reducible repeat (first | apply DC.alloc_ | apply DC.drewN_ | apply DC.drew_)); exact HD.out)).mono ?_); rintro e w6 ⟨vq, q, rfl, hrq, hd, hz⟩; refine ⟨_, rfl, ?_⟩; have Rq := Aside0.mk hrq; have SQ := Aside0.mk hz; clear HD hrq hz; have HD := Aside0.mk hd; clear hd))
 go_ret
 obtain ⟨B, A1, c1, _, e1, h1, h2⟩ := (show RD w6 g vq q from (by (with_reducible repeat (first | apply RD.alloc | apply RD.drewN | apply RD.drew)); exact Rq.out))
 subst e1
 exact ⟨A1, c1, q, rF, h1, Kd.F_now h2, DC.hb (show DC w w6 g from (by (with_reducible repeat (first | apply DC.alloc_ | apply DC.drewN_ | apply DC.drew_)); exact HD.out)), SQ.out⟩
end Go.Proofs.Ytbdfidnldaghbaa.Q
