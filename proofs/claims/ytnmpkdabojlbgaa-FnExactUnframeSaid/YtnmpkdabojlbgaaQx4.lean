/- The machine side of a law, written by a program of this session over the translation: for each Go function a Lean function with the same answers, and the proof that the Go code comes to them. -/
import Derived.Test.YtnmpkdabojlbgaaQx0
import Derived.Test.YtnmpkdabojlbgaaQx1
import Derived.Test.YtnmpkdabojlbgaaQx3
namespace Go.Proofs.Ytnmpkdabojlbgaa.Q
open Go.RowKit Go.Proofs.Ytnmpkdabojlbgaa.Own Go.Proofs.YtnmpkdabojlbgaaW.PrintWords Go.Proofs.YtnmpkdabojlbgaaW.PrintLast Go.Proofs.YtnmpkdabojlbgaaW.PrintMore
attribute [local go_sem] max2_int min2_int max_two min_two max_three min_three max_four min_four   -- for this text's walks alone
set_option linter.unusedVariables false
set_option linter.unusedSimpArgs false

/-! ### slices_Clone_byte_byte: function 53 -/
def slices_Clone_byte_byte.f (l0 : List Int) : Option (List Int) := (some (([] : List Int) : List Int)).bind fun y202 => (if y202.length + l0.length < 140737488355328 then (some (y202 ++ l0)) else (none))
set_option maxHeartbeats 8000000 in
set_option maxRecDepth 100000 in
theorem slices_Clone_byte_byte.calls_some (A0 : Option Addr) (c0 : Nat) (l0 : List Int) (r : List Int) (w : World) (hr0 : Kd.C (Kd.int .u8) w A0 l0.length l0) (hc0 : l0.length ≤ c0) (h : slices_Clone_byte_byte.f l0 = some r) (hs_ : A0.isNone = false) :
    Calls Try.prog 53 #[.slice A0 l0.length c0] w fun e w' => ∃ v0_ : Value, e = .returned (v0_) ∧ Kd.R (Kd.int .u8) 5 w' w.heap.size (fun _ => True) v0_ r ∧ Below w.heap.size w w' := by
  have HR0 := Aside0.mk hr0
  have HC0 := Aside0.mk hc0
  clear hr0 hc0
  have HB := Aside0.mk (Below.refl w.heap.size w)
  have H : ((some (([] : List Int) : List Int)).bind fun y202 => (if y202.length + l0.length < 140737488355328 then (some (y202 ++ l0)) else (none))) = some r := h
  clear h
  obtain ⟨y202, hy202⟩ : ∃ y_ : List Int, y_ = (([] : List Int)) := ⟨_, rfl⟩
  replace H : (if y202.length + l0.length < 140737488355328 then (some (y202 ++ l0)) else (none)) = some r := by first | (rw [hy202]; with_reducible exact H) | (have H2_ := (Option.bind_some _ _).symm.trans H; rw [hy202]; with_reducible exact H2_) | (have H2_ := (Option.bind_some _ _).symm.trans H; with_reducible exact H2_) | with_reducible exact H | (rw [hy202]; exact H) | exact H
  have Ny202 := Aside0.mk hy202
  clear hy202
  by_cases c2 : y202.length + l0.length < 140737488355328
  · rw [if_pos c2] at H
    have LMc2 := Aside0.mk c2
    clear c2
    obtain ⟨y205, hy205⟩ : ∃ y_ : List Int, y_ = (y202 ++ l0) := ⟨_, rfl⟩
    replace H : (some y205) = some r := by first | (rw [hy205]; with_reducible exact H) | (have H2_ := (Option.bind_some _ _).symm.trans H; rw [hy205]; with_reducible exact H2_) | (have H2_ := (Option.bind_some _ _).symm.trans H; with_reducible exact H2_) | with_reducible exact H | (rw [hy205]; exact H) | exact H
    have Ny205 := Aside0.mk hy205
    clear hy205
    obtain rfl := Option.some.inj H
    have kn_ : ∀ (W : World) (n c : Nat), (binOp .eql 26 (.slice A0 n c) (.slice none 0 0)).run Try.prog W = .ok (.bool false) W := fun W n c => by rw [Lib.run_eql_slice_nil W 26 5 A0 n c 0 0 Try.underlying26, hs_]
    go_enter Try.func53, Try.ntmps53
    go_wp2_with (first | ((with_reducible refine gate_dst (N := 5) rfl ?_); refine Kd.R_lit (Kd.int .u8) _ 5 ?hg (N := 5) ?hd (xs := ([] : List Int)) (inner := []) (ok := fun _ => True) (okp := fun _ => True) ?hr ?hp (fun _ hk => hk) trivial (Below.refl _ _) (Nat.le_refl _) (by simp) ?_; (case hd => rfl); (case hg => rfl); (case hr => first | (go_simp; done) | (go_simp; rfl)); (case hp => exact (Reps.none _ _)); intro v203 w3 ho4 hb hg_ hnew_; clear hg_ hnew_; (first | rw [← Ny202.out] at ho4 | (simp only [Int.reduceToNat] at ho4; rw [← Ny202.out] at ho4)); have n0_ := Aside0.mk (Kd.R_lower ho4 (below_size (by repeat (first | (with_reducible first | exact HB.out | apply below_alloc | apply pw_below_drewN | apply below_drew1) | exact HB.out)))); have n1_ := Aside0.mk (below_step (by repeat (first | (with_reducible first | exact HB.out | apply below_alloc | apply pw_below_drewN | apply below_drew1) | exact HB.out)) hb); clear HB; have HO204 := n0_; have HB := n1_; clear n0_ n1_; clear hb ho4) | ((with_reducible refine gate_builtin (b := .append) (xs := #[.tmp 5, .tmp 6]) rfl ?_); at_builtin; refine Kd.R_append_rows (Kd.int .u8) (w0 := w) w.heap.size rfl (.tmp 5) (.tmp 6) 26 5 (.int .u8 0) 1 rfl Try.underlying26 info5 rfl (by decide) (by omega) v203 y202 l0 _ _ _ (fun _ => True) (fun _ => False) rfl rfl ?aO ?aR (fun _ _ h => h) (fun _ h => h.elim) ?aF ?aB ?aS ?aL ?_; (case aR => repeat (first | exact (Kd.C_below HR0.out HB.out) | (with_reducible refine Kd.C_alloc ?_ _) | (with_reducible refine Kd.C_drewN ?_ _) | (with_reducible refine Kd.C_drew ?_))); (case aB => exact (by repeat (first | (with_reducible first | exact HB.out | apply below_alloc | apply pw_below_drewN | apply below_drew1) | exact HB.out))); (case aF => exact (fun _ _ => trivial)); (case aO => exact (by (with_reducible repeat (first | apply Kd.R_alloc | apply Kd.R_drewN | apply Kd.R_drew)); exact HO204.out)); (case aS => exact (below_size (by repeat (first | (with_reducible first | exact HB.out | apply below_alloc | apply pw_below_drewN | apply below_drew1) | exact HB.out)))); (case aL => have := LMc2.out; omega); intro v206 w5 ho hb hg hat; rw [← Ny205.out] at ho; have n0_ := Aside0.mk (hb); have n1_ := Aside0.mk (ho); clear HB; clear HO204; have HB := n0_; have HO207 := n1_; clear n0_ n1_; clear ho hb hg hat))
    go_ret
    exact ⟨_, by first | rfl | (simp [errW_none, errW_some] <;> rfl) | (simp [*, errW_none, errW_some] <;> rfl), by (with_reducible repeat (first | apply Kd.R_alloc | apply Kd.R_drewN | apply Kd.R_drew)); exact HO207.out, by repeat (first | (with_reducible first | exact HB.out | apply below_alloc | apply pw_below_drewN | apply below_drew1) | exact HB.out)⟩
  · rw [if_neg c2] at H
    exact absurd H (by simp)
set_option maxHeartbeats 8000000 in
set_option maxRecDepth 100000 in
theorem slices_Clone_byte_byte.calls (A0 : Option Addr) (c0 : Nat) (l0 : List Int) (r : List Int) (w : World) (hr0 : Kd.C (Kd.int .u8) w A0 l0.length l0) (hc0 : l0.length ≤ c0) (h : slices_Clone_byte_byte.f l0 = some r) :
    Calls Try.prog 53 #[.slice A0 l0.length c0] w fun e w' => ∃ v0_ : Value, e = .returned (v0_) ∧ Kd.R (Kd.int .u8) 5 w' w.heap.size (fun _ => True) v0_ r ∧ Below w.heap.size w w' := by
  cases A0 with
  | some a => exact slices_Clone_byte_byte.calls_some (some a) c0 l0 r w hr0 hc0 h rfl
  | none =>
    have e : l0 = [] := by
      have h3 := hr0.2.2
      cases l0 with
      | nil => rfl
      | cons x xs => obtain ⟨_, e, _⟩ := h3 (by simp); cases e
    subst e
    have h2 : ([] : List Int) = r := by simpa [slices_Clone_byte_byte.f] using h
    subst h2
    have kn_ : ∀ (W : World) (n c : Nat), (binOp .eql 26 (.slice none n c) (.slice none 0 0)).run Try.prog W = .ok (.bool true) W := fun W n c => Lib.run_eql_slice_nil W 26 5 none n c 0 0 Try.underlying26
    go_enter Try.func53, Try.ntmps53
    go_wp2
    go_ret
    exact ⟨.slice none 0 0, by first | rfl | (simp; done), Kd.R_nil _ _ _ _ _, Below.refl _ _⟩

/-! ### impl_Unframe: function 44 -/
theorem impl_Unframe.lit2 {W : World} {e : TypeId} {fr : Nat × Nat} : Kd.C (Kd.int .u8) (W.alloc (.cells #[.int .u8 80, .int .u8 83] e fr)) (some ⟨W.heap.size, 0, none⟩) ([80, 83] : List Int).length ([80, 83] : List Int) := by
  refine Kd.C_of_reads (enc := Value.int .u8) (d := (0 : Int)) (h1 := fun _ => rfl) ⟨rfl, by decide, fun _ => ⟨_, rfl, fun j hj => ?_⟩⟩
  have hb : (W.alloc (.cells #[.int .u8 80, .int .u8 83] e fr)).heap[W.heap.size]? = some (.cells #[.int .u8 80, .int .u8 83] e fr) := blk_new W _
  rw [add_plain, cell_of_row _ _ _ _ _ _ hb]
  match j, hj with
  | 0, _ => rfl
  | 1, _ => rfl
def impl_Unframe.f (k : Nat) (l0 : List Int) : Option (List Int × Bool) := (bytes_HasPrefix.f l0 (([80, 83] : List Int))).bind fun t1 => (if t1 = true then ((impl_TakeNum.f k l0 2).bind fun b2 => (if b2.2 < 0 then (some (([] : List Int), false)) else ((impl_in.f b2.1 0 (wrap64 ((l0.length : Int) - b2.2))).bind fun t4 => (if t4 = true then (if 0 ≤ b2.2 then (if b2.2 ≤ (wrap64 (b2.2 + b2.1)) then (if (wrap64 (b2.2 + b2.1)) ≤ (l0.length : Int) then ((slices_Clone_byte_byte.f ((l0.take (wrap64 (b2.2 + b2.1) : Int).toNat).drop (b2.2 : Int).toNat)).bind fun t5 => ((impl_Frame.f k t5).bind fun b6 => (if b6.2 = true then ((bytes_Equal.f b6.1 l0).bind fun t8 => (if t8 = true then (some (t5, true)) else (some (([] : List Int), false)))) else (some (([] : List Int), false))))) else none) else none) else none) else (some (([] : List Int), false)))))) else (some (([] : List Int), false)))
theorem impl_Unframe.mono : ∀ a0 k, LeO (impl_Unframe.f k a0) (impl_Unframe.f (k + 1) a0) := by
  intro a0 k
  unfold impl_Unframe.f
  repeat' first
      | (with_reducible exact impl_TakeNum.mono _ _ _)
      | (with_reducible exact impl_Frame.mono _ _)
      | (with_reducible exact LeO.refl _)
      | (with_reducible exact LeO.none _)
      | (with_reducible refine LeO.ite ?_ ?_)
      | (with_reducible refine LeO.bind ?_ (fun _ => ?_))
set_option maxHeartbeats 8000000 in
set_option maxRecDepth 100000 in
theorem impl_Unframe.calls (k : Nat) (A0 : Option Addr) (c0 : Nat) (l0 : List Int) (r1 : List Int) (r2 : Bool) (w : World) (hr0 : Kd.C (Kd.int .u8) w A0 l0.length l0) (hc0 : l0.length ≤ c0) (h : impl_Unframe.f k l0 = some (r1, r2)) :
    Calls Try.prog 44 #[.slice A0 l0.length c0] w fun e w' => ∃ v0_ : Value, e = .returned (.tuple #[v0_, .bool r2]) ∧ Kd.R (Kd.int .u8) 5 w' w.heap.size (fun _ => True) v0_ r1 ∧ Below w.heap.size w w' := by
  have HR0 := Aside0.mk hr0
  have HC0 := Aside0.mk hc0
  clear hr0 hc0
  have HB := Aside0.mk (Below.refl w.heap.size w)
  have kc := fun (w : World) (C : Array Value) (n c : Nat) => Lib.run_convert_bytes_const (P := Try.prog) w 26 5 C n c Try.underlying26 Try.underlying5
  have HLIT := Aside0.mk (impl_Unframe.lit2 (W := w) (e := 5) (fr := (2, 3)))
  unfold impl_Unframe.f at h
  obtain ⟨t1, f1, h⟩ := Option.bind_eq_some_iff.mp h
  have F1 := Aside0.mk f1
  clear f1
  by_cases c1 : t1 = true
  · rw [if_pos c1] at h
    subst c1
    obtain ⟨⟨t2, t3⟩, f2, h⟩ := Option.bind_eq_some_iff.mp h
    have F2 := Aside0.mk f2
    clear f2
    replace h : (if t3 < 0 then (some (([] : List Int), false)) else ((impl_in.f t2 0 (wrap64 ((l0.length : Int) - t3))).bind fun t4 => (if t4 = true then (if 0 ≤ t3 then (if t3 ≤ (wrap64 (t3 + t2)) then (if (wrap64 (t3 + t2)) ≤ (l0.length : Int) then ((slices_Clone_byte_byte.f ((l0.take (wrap64 (t3 + t2) : Int).toNat).drop (t3 : Int).toNat)).bind fun t5 => ((impl_Frame.f k t5).bind fun b6 => (if b6.2 = true then ((bytes_Equal.f b6.1 l0).bind fun t8 => (if t8 = true then (some (t5, true)) else (some (([] : List Int), false)))) else (some (([] : List Int), false))))) else none) else none) else none) else (some (([] : List Int), false))))) = some (r1, r2) := h
    by_cases c2 : t3 < 0
    · rw [if_pos c2] at h
      have c2b : decide (t3 < 0) = true := decide_eq_true c2
      clear c2
      simp only [Option.some.injEq, Prod.mk.injEq] at h
      obtain ⟨rfl, rfl⟩ := h
      go_enter Try.func44, Try.ntmps44
      go_wp2_with (first | ((with_reducible refine gate_dst (N := 12) rfl ?_); refine goesL_ (some 12) rfl rfl Try.func52 (by kernel_rfl) rfl #[.slice A0 l0.length c0, .slice (some ⟨w.heap.size, 0, none⟩) 2 2] rfl (by (try simp only [List.map_toArray, List.map_cons, List.map_nil]); first | done | rfl) ?_; refine calls_of_args (args' := #[.slice A0 l0.length c0, .slice (some ⟨w.heap.size, 0, none⟩) ([80, 83] : List Int).length 2]) rfl ?_; (with_reducible refine (bytes_HasPrefix.calls A0 c0 l0 (some ⟨w.heap.size, 0, none⟩) 2 ([80, 83] : List Int) true _ (C_now HR0.out (by repeat (first | (with_reducible first | exact HB.out | apply below_alloc | apply pw_below_drewN | apply below_drew1) | exact HB.out))) HC0.out (by first | exact HLIT.out | (with_reducible exact Kd.C_drewN HLIT.out _) | ((with_reducible repeat (first | apply Kd.C_alloc | apply Kd.C_drewN | apply Kd.C_drew)); exact HLIT.out)) (by decide) F1.out).mono ?_); rintro e wn12 ⟨rfl, hb⟩; refine ⟨_, rfl, ?_⟩; replace hb := hb.below; have nb_ := Aside0.mk (below_step (by repeat (first | (with_reducible first | exact HB.out | apply below_alloc | apply pw_below_drewN | apply below_drew1) | exact HB.out)) hb); clear HB HLIT hb; have HB := nb_; clear nb_) | ((with_reducible refine gate_dst (N := 16) rfl ?_); refine goesL_ (some 16) rfl rfl Try.func28 (by kernel_rfl) rfl #[.slice A0 l0.length c0, .int .i64 2] rfl (by (try simp only [List.map_toArray, List.map_cons, List.map_nil]); first | done | rfl) ?_; (with_reducible refine (impl_TakeNum.calls k A0 c0 l0 2 t2 t3 _ (C_now HR0.out (by repeat (first | (with_reducible first | exact HB.out | apply below_alloc | apply pw_below_drewN | apply below_drew1) | exact HB.out))) HC0.out F2.out).mono ?_); rintro e wn16 ⟨rfl, hb⟩; refine ⟨_, rfl, ?_⟩; replace hb := hb.below; have nb_ := Aside0.mk (below_step (by repeat (first | (with_reducible first | exact HB.out | apply below_alloc | apply pw_below_drewN | apply below_drew1) | exact HB.out)) hb); clear HB hb; have HB := nb_; clear nb_))
      go_ret2
      exact ⟨_, by first | rfl | (simp; done) | (simp [*]; done), Kd.R_nil _ _ _ _ _, (by repeat (first | (with_reducible first | exact HB.out | apply below_alloc | apply pw_below_drewN | apply below_drew1) | exact HB.out))⟩
    · rw [if_neg c2] at h
      have c2b : decide (t3 < 0) = false := decide_eq_false c2
      clear c2
      obtain ⟨t4, f4, h⟩ := Option.bind_eq_some_iff.mp h
      have F4 := Aside0.mk f4
      clear f4
      by_cases c4 : t4 = true
      · rw [if_pos c4] at h
        subst c4
        by_cases c5 : 0 ≤ t3
        · rw [if_pos c5] at h
          by_cases c6 : t3 ≤ (wrap64 (t3 + t2))
          · rw [if_pos c6] at h
            by_cases c7 : (wrap64 (t3 + t2)) ≤ (l0.length : Int)
            · rw [if_pos c7] at h
              obtain ⟨t5, f5, h⟩ := Option.bind_eq_some_iff.mp h
              have F5 := Aside0.mk f5
              clear f5
              obtain ⟨⟨t6, t7⟩, f6, h⟩ := Option.bind_eq_some_iff.mp h
              have F6 := Aside0.mk f6
              clear f6
              obtain ⟨i022, hi022, _, hsz22, _⟩ := info_parts info5
              obtain ⟨A22, hcut22, hA22, hC22⟩ := print_mid_of (P := Try.prog) (Value.int .u8) 0 26 5 .i64 .i64 Try.underlying26 hi022 hsz22 A0 c0 l0 t3 (wrap64 (t3 + t2)) c5 c6 c7 HC0.out
              have hr22_ : Kd.C (Kd.int .u8) w A22 ((l0.take (wrap64 (t3 + t2) : Int).toNat).drop (t3 : Int).toNat).length ((l0.take (wrap64 (t3 + t2) : Int).toNat).drop (t3 : Int).toNat) := Kd.C_of_reads (h1 := fun _ => rfl) (hA22 _ (Kd.reads_of_C HR0.out))
              have HR22 := Aside0.mk hr22_
              clear hr22_
              have HC22 := Aside0.mk hC22
              have hcl_ : (min (wrap64 (t3 + t2) : Int).toNat l0.length - (t3 : Int).toNat) = ((l0.take (wrap64 (t3 + t2) : Int).toNat).drop (t3 : Int).toNat).length := by rw [List.length_drop, List.length_take]
              have HCL := Aside0.mk hcl_
              clear hcl_ hA22 hC22 hi022 hsz22
              have c5b : decide (0 ≤ t3) = true := decide_eq_true c5
              have c6b : decide (t3 ≤ (wrap64 (t3 + t2))) = true := decide_eq_true c6
              have c7b : decide ((wrap64 (t3 + t2)) ≤ (l0.length : Int)) = true := decide_eq_true c7
              clear c5 c6 c7
              replace h : (if t7 = true then ((bytes_Equal.f t6 l0).bind fun t8 => (if t8 = true then (some (t5, true)) else (some (([] : List Int), false)))) else (some (([] : List Int), false))) = some (r1, r2) := h
              by_cases c8 : t7 = true
              · rw [if_pos c8] at h
                subst c8
                obtain ⟨t8, f8, h⟩ := Option.bind_eq_some_iff.mp h
                have F8 := Aside0.mk f8
                clear f8
                by_cases c9 : t8 = true
                · rw [if_pos c9] at h
                  subst c9
                  simp only [Option.some.injEq, Prod.mk.injEq] at h
                  obtain ⟨rfl, rfl⟩ := h
                  go_enter Try.func44, Try.ntmps44
                  go_wp2_with (first | ((with_reducible refine gate_dst (N := 12) rfl ?_); refine goesL_ (some 12) rfl rfl Try.func52 (by kernel_rfl) rfl #[.slice A0 l0.length c0, .slice (some ⟨w.heap.size, 0, none⟩) 2 2] rfl (by (try simp only [List.map_toArray, List.map_cons, List.map_nil]); first | done | rfl) ?_; refine calls_of_args (args' := #[.slice A0 l0.length c0, .slice (some ⟨w.heap.size, 0, none⟩) ([80, 83] : List Int).length 2]) rfl ?_; (with_reducible refine (bytes_HasPrefix.calls A0 c0 l0 (some ⟨w.heap.size, 0, none⟩) 2 ([80, 83] : List Int) true _ (C_now HR0.out (by repeat (first | (with_reducible first | exact HB.out | apply below_alloc | apply pw_below_drewN | apply below_drew1) | exact HB.out))) HC0.out (by first | exact HLIT.out | (with_reducible exact Kd.C_drewN HLIT.out _) | ((with_reducible repeat (first | apply Kd.C_alloc | apply Kd.C_drewN | apply Kd.C_drew)); exact HLIT.out)) (by decide) F1.out).mono ?_); rintro e wn12 ⟨rfl, hb⟩; refine ⟨_, rfl, ?_⟩; replace hb := hb.below; have nb_ := Aside0.mk (below_step (by repeat (first | (with_reducible first | exact HB.out | apply below_alloc | apply pw_below_drewN | apply below_drew1) | exact HB.out)) hb); clear HB HLIT hb; have HB := nb_; clear nb_) | ((with_reducible refine gate_dst (N := 16) rfl ?_); refine goesL_ (some 16) rfl rfl Try.func28 (by kernel_rfl) rfl #[.slice A0 l0.length c0, .int .i64 2] rfl (by (try simp only [List.map_toArray, List.map_cons, List.map_nil]); first | done | rfl) ?_; (with_reducible refine (impl_TakeNum.calls k A0 c0 l0 2 t2 t3 _ (C_now HR0.out (by repeat (first | (with_reducible first | exact HB.out | apply below_alloc | apply pw_below_drewN | apply below_drew1) | exact HB.out))) HC0.out F2.out).mono ?_); rintro e wn16 ⟨rfl, hb⟩; refine ⟨_, rfl, ?_⟩; replace hb := hb.below; have nb_ := Aside0.mk (below_step (by repeat (first | (with_reducible first | exact HB.out | apply below_alloc | apply pw_below_drewN | apply below_drew1) | exact HB.out)) hb); clear HB hb; have HB := nb_; clear nb_) | ((with_reducible refine gate_dst (N := 36) rfl ?_); refine goesL_ (some 36) rfl rfl Try.func53 (by kernel_rfl) rfl #[.slice A22 ((l0.take (wrap64 (t3 + t2) : Int).toNat).drop (t3 : Int).toNat).length (c0 - (t3 : Int).toNat)] rfl (by (try simp only [List.map_toArray, List.map_cons, List.map_nil]); first | done | rfl | (rw [← HCL.out]; rfl) | (simp only [HCL.out]; rfl)) ?_; (with_reducible refine (slices_Clone_byte_byte.calls A22 _ ((l0.take (wrap64 (t3 + t2) : Int).toNat).drop (t3 : Int).toNat) t5 _ (Kd.C_below HR22.out (by repeat (first | (with_reducible first | exact HB.out | apply below_alloc | apply pw_below_drewN | apply below_drew1) | exact HB.out))) HC22.out F5.out).mono ?_); rintro e wn36 ⟨v5, rfl, ho5, hb⟩; refine ⟨_, rfl, ?_⟩; obtain ⟨lo5, hi5, q5, e_⟩ := LR.make ho5 (by repeat (first | (with_reducible first | exact HB.out | apply below_alloc | apply pw_below_drewN | apply below_drew1) | exact HB.out)) hb; clear e_; have nb_ := Aside0.mk (below_step (by repeat (first | (with_reducible first | exact HB.out | apply below_alloc | apply pw_below_drewN | apply below_drew1) | exact HB.out)) hb); clear HB hb; have HB := nb_; clear nb_; have HO5 := Aside0.mk q5; clear q5 ho5; obtain ⟨Ao5, co5, eo5, _⟩ := HO5.out.reads; subst eo5) | ((with_reducible refine gate_dst (N := 39) rfl ?_); refine goesL_ (some 39) rfl rfl Try.func42 (by kernel_rfl) rfl #[.slice Ao5 t5.length co5] rfl (by (try simp only [List.map_toArray, List.map_cons, List.map_nil]); first | done | rfl) ?_; (with_reducible refine (impl_Frame.calls k Ao5 co5 t5 t6 true _ (by (with_reducible repeat (first | apply Kd.C_alloc | apply Kd.C_drewN | apply Kd.C_drew)); exact HO5.out.C) HO5.out.cap F6.out).mono ?_); rintro e wn39 ⟨v6, rfl, ho6, hb⟩; refine ⟨_, rfl, ?_⟩; obtain ⟨lo6, hi6, q6, e_⟩ := LR.make ho6 (by repeat (first | (with_reducible first | exact HB.out | apply below_alloc | apply pw_below_drewN | apply below_drew1) | exact HB.out)) hb; clear e_; have n5_ := Aside0.mk (LR.below (by (with_reducible repeat (first | apply LR.alloc | apply LR.drewN)); exact HO5.out) hb); have nb_ := Aside0.mk (below_step (by repeat (first | (with_reducible first | exact HB.out | apply below_alloc | apply pw_below_drewN | apply below_drew1) | exact HB.out)) hb); clear HB HO5 hb; have HB := nb_; clear nb_; have HO5 := n5_; clear n5_; have HO6 := Aside0.mk q6; clear q6 ho6; obtain ⟨Ao6, co6, eo6, _⟩ := HO6.out.reads; subst eo6) | (go_at_call 46; (with_reducible refine (impl_in.calls t2 0 (wrap64 ((l0.length : Int) - t3)) true _ F4.out).mono ?_); rintro e wn27 ⟨rfl, hb⟩; replace hb := hb.below; have nb_ := Aside0.mk (below_step (by repeat (first | (with_reducible first | exact HB.out | apply below_alloc | apply pw_below_drewN | apply below_drew1) | exact HB.out)) hb); clear HB hb; have HB := nb_; clear nb_) | (go_at_call 54; (with_reducible refine (bytes_Equal.calls Ao6 co6 t6 A0 c0 l0 true _ (by (with_reducible repeat (first | apply Kd.C_alloc | apply Kd.C_drewN | apply Kd.C_drew)); exact HO6.out.C) HO6.out.cap (C_now HR0.out (by repeat (first | (with_reducible first | exact HB.out | apply below_alloc | apply pw_below_drewN | apply below_drew1) | exact HB.out))) HC0.out F8.out).mono ?_); rintro e wn47 ⟨rfl, hb⟩; replace hb := hb.below; have n5_ := Aside0.mk (LR.below (by (with_reducible repeat (first | apply LR.alloc | apply LR.drewN)); exact HO5.out) hb); have n6_ := Aside0.mk (LR.below (by (with_reducible repeat (first | apply LR.alloc | apply LR.drewN)); exact HO6.out) hb); have nb_ := Aside0.mk (below_step (by repeat (first | (with_reducible first | exact HB.out | apply below_alloc | apply pw_below_drewN | apply below_drew1) | exact HB.out)) hb); clear HB HO5 HO6 hb; have HB := nb_; clear nb_; have HO5 := n5_; clear n5_; have HO6 := n6_; clear n6_))
                  go_ret2
                  exact ⟨_, by first | rfl | (simp; done) | (simp [*]; done), Kd.R_mono (by (with_reducible repeat (first | apply Kd.R_alloc | apply Kd.R_drewN | apply Kd.R_drew)); exact HO5.out.row) (fun _ _ => trivial), (by repeat (first | (with_reducible first | exact HB.out | apply below_alloc | apply pw_below_drewN | apply below_drew1) | exact HB.out))⟩
                · rw [if_neg c9] at h
                  obtain rfl : t8 = false := Bool.eq_false_iff.mpr c9
                  simp only [Option.some.injEq, Prod.mk.injEq] at h
                  obtain ⟨rfl, rfl⟩ := h
                  go_enter Try.func44, Try.ntmps44
                  go_wp2_with (first | ((with_reducible refine gate_dst (N := 12) rfl ?_); refine goesL_ (some 12) rfl rfl Try.func52 (by kernel_rfl) rfl #[.slice A0 l0.length c0, .slice (some ⟨w.heap.size, 0, none⟩) 2 2] rfl (by (try simp only [List.map_toArray, List.map_cons, List.map_nil]); first | done | rfl) ?_; refine calls_of_args (args' := #[.slice A0 l0.length c0, .slice (some ⟨w.heap.size, 0, none⟩) ([80, 83] : List Int).length 2]) rfl ?_; (with_reducible refine (bytes_HasPrefix.calls A0 c0 l0 (some ⟨w.heap.size, 0, none⟩) 2 ([80, 83] : List Int) true _ (C_now HR0.out (by repeat (first | (with_reducible first | exact HB.out | apply below_alloc | apply pw_below_drewN | apply below_drew1) | exact HB.out))) HC0.out (by first | exact HLIT.out | (with_reducible exact Kd.C_drewN HLIT.out _) | ((with_reducible repeat (first | apply Kd.C_alloc | apply Kd.C_drewN | apply Kd.C_drew)); exact HLIT.out)) (by decide) F1.out).mono ?_); rintro e wn12 ⟨rfl, hb⟩; refine ⟨_, rfl, ?_⟩; replace hb := hb.below; have nb_ := Aside0.mk (below_step (by repeat (first | (with_reducible first | exact HB.out | apply below_alloc | apply pw_below_drewN | apply below_drew1) | exact HB.out)) hb); clear HB HLIT hb; have HB := nb_; clear nb_) | ((with_reducible refine gate_dst (N := 16) rfl ?_); refine goesL_ (some 16) rfl rfl Try.func28 (by kernel_rfl) rfl #[.slice A0 l0.length c0, .int .i64 2] rfl (by (try simp only [List.map_toArray, List.map_cons, List.map_nil]); first | done | rfl) ?_; (with_reducible refine (impl_TakeNum.calls k A0 c0 l0 2 t2 t3 _ (C_now HR0.out (by repeat (first | (with_reducible first | exact HB.out | apply below_alloc | apply pw_below_drewN | apply below_drew1) | exact HB.out))) HC0.out F2.out).mono ?_); rintro e wn16 ⟨rfl, hb⟩; refine ⟨_, rfl, ?_⟩; replace hb := hb.below; have nb_ := Aside0.mk (below_step (by repeat (first | (with_reducible first | exact HB.out | apply below_alloc | apply pw_below_drewN | apply below_drew1) | exact HB.out)) hb); clear HB hb; have HB := nb_; clear nb_) | ((with_reducible refine gate_dst (N := 36) rfl ?_); refine goesL_ (some 36) rfl rfl Try.func53 (by kernel_rfl) rfl #[.slice A22 ((l0.take (wrap64 (t3 + t2) : Int).toNat).drop (t3 : Int).toNat).length (c0 - (t3 : Int).toNat)] rfl (by (try simp only [List.map_toArray, List.map_cons, List.map_nil]); first | done | rfl | (rw [← HCL.out]; rfl) | (simp only [HCL.out]; rfl)) ?_; (with_reducible refine (slices_Clone_byte_byte.calls A22 _ ((l0.take (wrap64 (t3 + t2) : Int).toNat).drop (t3 : Int).toNat) t5 _ (Kd.C_below HR22.out (by repeat (first | (with_reducible first | exact HB.out | apply below_alloc | apply pw_below_drewN | apply below_drew1) | exact HB.out))) HC22.out F5.out).mono ?_); rintro e wn36 ⟨v5, rfl, ho5, hb⟩; refine ⟨_, rfl, ?_⟩; obtain ⟨lo5, hi5, q5, e_⟩ := LR.make ho5 (by repeat (first | (with_reducible first | exact HB.out | apply below_alloc | apply pw_below_drewN | apply below_drew1) | exact HB.out)) hb; clear e_; have nb_ := Aside0.mk (below_step (by repeat (first | (with_reducible first | exact HB.out | apply below_alloc | apply pw_below_drewN | apply below_drew1) | exact HB.out)) hb); clear HB hb; have HB := nb_; clear nb_; have HO5 := Aside0.mk q5; clear q5 ho5; obtain ⟨Ao5, co5, eo5, _⟩ := HO5.out.reads; subst eo5) | ((with_reducible refine gate_dst (N := 39) rfl ?_); refine goesL_ (some 39) rfl rfl Try.func42 (by kernel_rfl) rfl #[.slice Ao5 t5.length co5] rfl (by (try simp only [List.map_toArray, List.map_cons, List.map_nil]); first | done | rfl) ?_; (with_reducible refine (impl_Frame.calls k Ao5 co5 t5 t6 true _ (by (with_reducible repeat (first | apply Kd.C_alloc | apply Kd.C_drewN | apply Kd.C_drew)); exact HO5.out.C) HO5.out.cap F6.out).mono ?_); rintro e wn39 ⟨v6, rfl, ho6, hb⟩; refine ⟨_, rfl, ?_⟩; obtain ⟨lo6, hi6, q6, e_⟩ := LR.make ho6 (by repeat (first | (with_reducible first | exact HB.out | apply below_alloc | apply pw_below_drewN | apply below_drew1) | exact HB.out)) hb; clear e_; have n5_ := Aside0.mk (LR.below (by (with_reducible repeat (first | apply LR.alloc | apply LR.drewN)); exact HO5.out) hb); have nb_ := Aside0.mk (below_step (by repeat (first | (with_reducible first | exact HB.out | apply below_alloc | apply pw_below_drewN | apply below_drew1) | exact HB.out)) hb); clear HB HO5 hb; have HB := nb_; clear nb_; have HO5 := n5_; clear n5_; have HO6 := Aside0.mk q6; clear q6 ho6; obtain ⟨Ao6, co6, eo6, _⟩ := HO6.out.reads; subst eo6) | (go_at_call 46; (with_reducible refine (impl_in.calls t2 0 (wrap64 ((l0.length : Int) - t3)) true _ F4.out).mono ?_); rintro e wn27 ⟨rfl, hb⟩; replace hb := hb.below; have nb_ := Aside0.mk (below_step (by repeat (first | (with_reducible first | exact HB.out | apply below_alloc | apply pw_below_drewN | apply below_drew1) | exact HB.out)) hb); clear HB hb; have HB := nb_; clear nb_) | (go_at_call 54; (with_reducible refine (bytes_Equal.calls Ao6 co6 t6 A0 c0 l0 false _ (by (with_reducible repeat (first | apply Kd.C_alloc | apply Kd.C_drewN | apply Kd.C_drew)); exact HO6.out.C) HO6.out.cap (C_now HR0.out (by repeat (first | (with_reducible first | exact HB.out | apply below_alloc | apply pw_below_drewN | apply below_drew1) | exact HB.out))) HC0.out F8.out).mono ?_); rintro e wn47 ⟨rfl, hb⟩; replace hb := hb.below; have n5_ := Aside0.mk (LR.below (by (with_reducible repeat (first | apply LR.alloc | apply LR.drewN)); exact HO5.out) hb); have n6_ := Aside0.mk (LR.below (by (with_reducible repeat (first | apply LR.alloc | apply LR.drewN)); exact HO6.out) hb); have nb_ := Aside0.mk (below_step (by repeat (first | (with_reducible first | exact HB.out | apply below_alloc | apply pw_below_drewN | apply below_drew1) | exact HB.out)) hb); clear HB HO5 HO6 hb; have HB := nb_; clear nb_; have HO5 := n5_; clear n5_; have HO6 := n6_; clear n6_))
                  go_ret2
                  exact ⟨_, by first | rfl | (simp; done) | (simp [*]; done), Kd.R_nil _ _ _ _ _, (by repeat (first | (with_reducible first | exact HB.out | apply below_alloc | apply pw_below_drewN | apply below_drew1) | exact HB.out))⟩
              · rw [if_neg c8] at h
                obtain rfl : t7 = false := Bool.eq_false_iff.mpr c8
                simp only [Option.some.injEq, Prod.mk.injEq] at h
                obtain ⟨rfl, rfl⟩ := h
                go_enter Try.func44, Try.ntmps44
                go_wp2_with (first | ((with_reducible refine gate_dst (N := 12) rfl ?_); refine goesL_ (some 12) rfl rfl Try.func52 (by kernel_rfl) rfl #[.slice A0 l0.length c0, .slice (some ⟨w.heap.size, 0, none⟩) 2 2] rfl (by (try simp only [List.map_toArray, List.map_cons, List.map_nil]); first | done | rfl) ?_; refine calls_of_args (args' := #[.slice A0 l0.length c0, .slice (some ⟨w.heap.size, 0, none⟩) ([80, 83] : List Int).length 2]) rfl ?_; (with_reducible refine (bytes_HasPrefix.calls A0 c0 l0 (some ⟨w.heap.size, 0, none⟩) 2 ([80, 83] : List Int) true _ (C_now HR0.out (by repeat (first | (with_reducible first | exact HB.out | apply below_alloc | apply pw_below_drewN | apply below_drew1) | exact HB.out))) HC0.out (by first | exact HLIT.out | (with_reducible exact Kd.C_drewN HLIT.out _) | ((with_reducible repeat (first | apply Kd.C_alloc | apply Kd.C_drewN | apply Kd.C_drew)); exact HLIT.out)) (by decide) F1.out).mono ?_); rintro e wn12 ⟨rfl, hb⟩; refine ⟨_, rfl, ?_⟩; replace hb := hb.below; have nb_ := Aside0.mk (below_step (by repeat (first | (with_reducible first | exact HB.out | apply below_alloc | apply pw_below_drewN | apply below_drew1) | exact HB.out)) hb); clear HB HLIT hb; have HB := nb_; clear nb_) | ((with_reducible refine gate_dst (N := 16) rfl ?_); refine goesL_ (some 16) rfl rfl Try.func28 (by kernel_rfl) rfl #[.slice A0 l0.length c0, .int .i64 2] rfl (by (try simp only [List.map_toArray, List.map_cons, List.map_nil]); first | done | rfl) ?_; (with_reducible refine (impl_TakeNum.calls k A0 c0 l0 2 t2 t3 _ (C_now HR0.out (by repeat (first | (with_reducible first | exact HB.out | apply below_alloc | apply pw_below_drewN | apply below_drew1) | exact HB.out))) HC0.out F2.out).mono ?_); rintro e wn16 ⟨rfl, hb⟩; refine ⟨_, rfl, ?_⟩; replace hb := hb.below; have nb_ := Aside0.mk (below_step (by repeat (first | (with_reducible first | exact HB.out | apply below_alloc | apply pw_below_drewN | apply below_drew1) | exact HB.out)) hb); clear HB hb; have HB := nb_; clear nb_) | ((with_reducible refine gate_dst (N := 36) rfl ?_); refine goesL_ (some 36) rfl rfl Try.func53 (by kernel_rfl) rfl #[.slice A22 ((l0.take (wrap64 (t3 + t2) : Int).toNat).drop (t3 : Int).toNat).length (c0 - (t3 : Int).toNat)] rfl (by (try simp only [List.map_toArray, List.map_cons, List.map_nil]); first | done | rfl | (rw [← HCL.out]; rfl) | (simp only [HCL.out]; rfl)) ?_; (with_reducible refine (slices_Clone_byte_byte.calls A22 _ ((l0.take (wrap64 (t3 + t2) : Int).toNat).drop (t3 : Int).toNat) t5 _ (Kd.C_below HR22.out (by repeat (first | (with_reducible first | exact HB.out | apply below_alloc | apply pw_below_drewN | apply below_drew1) | exact HB.out))) HC22.out F5.out).mono ?_); rintro e wn36 ⟨v5, rfl, ho5, hb⟩; refine ⟨_, rfl, ?_⟩; obtain ⟨lo5, hi5, q5, e_⟩ := LR.make ho5 (by repeat (first | (with_reducible first | exact HB.out | apply below_alloc | apply pw_below_drewN | apply below_drew1) | exact HB.out)) hb; clear e_; have nb_ := Aside0.mk (below_step (by repeat (first | (with_reducible first | exact HB.out | apply below_alloc | apply pw_below_drewN | apply below_drew1) | exact HB.out)) hb); clear HB hb; have HB := nb_; clear nb_; have HO5 := Aside0.mk q5; clear q5 ho5; obtain ⟨Ao5, co5, eo5, _⟩ := HO5.out.reads; subst eo5) | ((with_reducible refine gate_dst (N := 39) rfl ?_); refine goesL_ (some 39) rfl rfl Try.func42 (by kernel_rfl) rfl #[.slice Ao5 t5.length co5] rfl (by (try simp only [List.map_toArray, List.map_cons, List.map_nil]); first | done | rfl) ?_; (with_reducible refine (impl_Frame.calls k Ao5 co5 t5 t6 false _ (by (with_reducible repeat (first | apply Kd.C_alloc | apply Kd.C_drewN | apply Kd.C_drew)); exact HO5.out.C) HO5.out.cap F6.out).mono ?_); rintro e wn39 ⟨v6, rfl, ho6, hb⟩; refine ⟨_, rfl, ?_⟩; obtain ⟨lo6, hi6, q6, e_⟩ := LR.make ho6 (by repeat (first | (with_reducible first | exact HB.out | apply below_alloc | apply pw_below_drewN | apply below_drew1) | exact HB.out)) hb; clear e_; have n5_ := Aside0.mk (LR.below (by (with_reducible repeat (first | apply LR.alloc | apply LR.drewN)); exact HO5.out) hb); have nb_ := Aside0.mk (below_step (by repeat (first | (with_reducible first | exact HB.out | apply below_alloc | apply pw_below_drewN | apply below_drew1) | exact HB.out)) hb); clear HB HO5 hb; have HB := nb_; clear nb_; have HO5 := n5_; clear n5_; have HO6 := Aside0.mk q6; clear q6 ho6; obtain ⟨Ao6, co6, eo6, _⟩ := HO6.out.reads; subst eo6) | (go_at_call 46; (with_reducible refine (impl_in.calls t2 0 (wrap64 ((l0.length : Int) - t3)) true _ F4.out).mono ?_); rintro e wn27 ⟨rfl, hb⟩; replace hb := hb.below; have nb_ := Aside0.mk (below_step (by repeat (first | (with_reducible first | exact HB.out | apply below_alloc | apply pw_below_drewN | apply below_drew1) | exact HB.out)) hb); clear HB hb; have HB := nb_; clear nb_))
                go_ret2
                exact ⟨_, by first | rfl | (simp; done) | (simp [*]; done), Kd.R_nil _ _ _ _ _, (by repeat (first | (with_reducible first | exact HB.out | apply below_alloc | apply pw_below_drewN | apply below_drew1) | exact HB.out))⟩
            · rw [if_neg c7] at h; cases h
          · rw [if_neg c6] at h; cases h
        · rw [if_neg c5] at h; cases h
      · rw [if_neg c4] at h
        obtain rfl : t4 = false := Bool.eq_false_iff.mpr c4
        simp only [Option.some.injEq, Prod.mk.injEq] at h
        obtain ⟨rfl, rfl⟩ := h
        go_enter Try.func44, Try.ntmps44
        go_wp2_with (first | ((with_reducible refine gate_dst (N := 12) rfl ?_); refine goesL_ (some 12) rfl rfl Try.func52 (by kernel_rfl) rfl #[.slice A0 l0.length c0, .slice (some ⟨w.heap.size, 0, none⟩) 2 2] rfl (by (try simp only [List.map_toArray, List.map_cons, List.map_nil]); first | done | rfl) ?_; refine calls_of_args (args' := #[.slice A0 l0.length c0, .slice (some ⟨w.heap.size, 0, none⟩) ([80, 83] : List Int).length 2]) rfl ?_; (with_reducible refine (bytes_HasPrefix.calls A0 c0 l0 (some ⟨w.heap.size, 0, none⟩) 2 ([80, 83] : List Int) true _ (C_now HR0.out (by repeat (first | (with_reducible first | exact HB.out | apply below_alloc | apply pw_below_drewN | apply below_drew1) | exact HB.out))) HC0.out (by first | exact HLIT.out | (with_reducible exact Kd.C_drewN HLIT.out _) | ((with_reducible repeat (first | apply Kd.C_alloc | apply Kd.C_drewN | apply Kd.C_drew)); exact HLIT.out)) (by decide) F1.out).mono ?_); rintro e wn12 ⟨rfl, hb⟩; refine ⟨_, rfl, ?_⟩; replace hb := hb.below; have nb_ := Aside0.mk (below_step (by repeat (first | (with_reducible first | exact HB.out | apply below_alloc | apply pw_below_drewN | apply below_drew1) | exact HB.out)) hb); clear HB HLIT hb; have HB := nb_; clear nb_) | ((with_reducible refine gate_dst (N := 16) rfl ?_); refine goesL_ (some 16) rfl rfl Try.func28 (by kernel_rfl) rfl #[.slice A0 l0.length c0, .int .i64 2] rfl (by (try simp only [List.map_toArray, List.map_cons, List.map_nil]); first | done | rfl) ?_; (with_reducible refine (impl_TakeNum.calls k A0 c0 l0 2 t2 t3 _ (C_now HR0.out (by repeat (first | (with_reducible first | exact HB.out | apply below_alloc | apply pw_below_drewN | apply below_drew1) | exact HB.out))) HC0.out F2.out).mono ?_); rintro e wn16 ⟨rfl, hb⟩; refine ⟨_, rfl, ?_⟩; replace hb := hb.below; have nb_ := Aside0.mk (below_step (by repeat (first | (with_reducible first | exact HB.out | apply below_alloc | apply pw_below_drewN | apply below_drew1) | exact HB.out)) hb); clear HB hb; have HB := nb_; clear nb_) | (go_at_call 46; (with_reducible refine (impl_in.calls t2 0 (wrap64 ((l0.length : Int) - t3)) false _ F4.out).mono ?_); rintro e wn27 ⟨rfl, hb⟩; replace hb := hb.below; have nb_ := Aside0.mk (below_step (by repeat (first | (with_reducible first | exact HB.out | apply below_alloc | apply pw_below_drewN | apply below_drew1) | exact HB.out)) hb); clear HB hb; have HB := nb_; clear nb_))
        go_ret2
        exact ⟨_, by first | rfl | (simp; done) | (simp [*]; done), Kd.R_nil _ _ _ _ _, (by repeat (first | (with_reducible first | exact HB.out | apply below_alloc | apply pw_below_drewN | apply below_drew1) | exact HB.out))⟩
  · rw [if_neg c1] at h
    obtain rfl : t1 = false := Bool.eq_false_iff.mpr c1
    simp only [Option.some.injEq, Prod.mk.injEq] at h
    obtain ⟨rfl, rfl⟩ := h
    go_enter Try.func44, Try.ntmps44
    go_wp2_with (first | ((with_reducible refine gate_dst (N := 12) rfl ?_); refine goesL_ (some 12) rfl rfl Try.func52 (by kernel_rfl) rfl #[.slice A0 l0.length c0, .slice (some ⟨w.heap.size, 0, none⟩) 2 2] rfl (by (try simp only [List.map_toArray, List.map_cons, List.map_nil]); first | done | rfl) ?_; refine calls_of_args (args' := #[.slice A0 l0.length c0, .slice (some ⟨w.heap.size, 0, none⟩) ([80, 83] : List Int).length 2]) rfl ?_; (with_reducible refine (bytes_HasPrefix.calls A0 c0 l0 (some ⟨w.heap.size, 0, none⟩) 2 ([80, 83] : List Int) false _ (C_now HR0.out (by repeat (first | (with_reducible first | exact HB.out | apply below_alloc | apply pw_below_drewN | apply below_drew1) | exact HB.out))) HC0.out (by first | exact HLIT.out | (with_reducible exact Kd.C_drewN HLIT.out _) | ((with_reducible repeat (first | apply Kd.C_alloc | apply Kd.C_drewN | apply Kd.C_drew)); exact HLIT.out)) (by decide) F1.out).mono ?_); rintro e wn12 ⟨rfl, hb⟩; refine ⟨_, rfl, ?_⟩; replace hb := hb.below; have nb_ := Aside0.mk (below_step (by repeat (first | (with_reducible first | exact HB.out | apply below_alloc | apply pw_below_drewN | apply below_drew1) | exact HB.out)) hb); clear HB HLIT hb; have HB := nb_; clear nb_))
    go_ret2
    exact ⟨_, by first | rfl | (simp; done) | (simp [*]; done), Kd.R_nil _ _ _ _ _, (by repeat (first | (with_reducible first | exact HB.out | apply below_alloc | apply pw_below_drewN | apply below_drew1) | exact HB.out))⟩

end Go.Proofs.Ytnmpkdabojlbgaa.Q
