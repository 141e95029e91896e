/- The machine side of a law, written by a program of this session over the translation: for each Go function a Lean function with the same answers, and the proof that the Go code comes to them. -/
import Derived.Test.YtgmhohafoclmpaaQx0
import Derived.Test.YtgmhohafoclmpaaQx2
import Derived.Test.YtgmhohafoclmpaaQx4
import Derived.Test.YtgmhohafoclmpaaQx7
namespace Go.Proofs.Ytgmhohafoclmpaa.Q
open Go.RowKit Go.Proofs.Ytgmhohafoclmpaa.Own Go.Proofs.YtgmhohafoclmpaaW.PrintWords Go.Proofs.YtgmhohafoclmpaaW.PrintLast Go.Proofs.YtgmhohafoclmpaaW.PrintMore
attribute [local go_sem] max2_int min2_int max_two min_two max_three min_three max_four min_four   -- for this text's walks alone
set_option linter.unusedVariables false
set_option linter.unusedSimpArgs false

/-! ### impl_TakeWord: function 102 -/
def impl_TakeWord.f (k : Nat) (l0 : List Int) (a1 : Int) : Option (ByteArray × Int) := (impl_TakeNum.f k l0 a1).bind fun bt281 => (if bt281.2 < 0 then (some ((⟨#[]⟩ : ByteArray), (-1))) else ((impl_in.f bt281.1 1 (wrap64 ((l0.length : Int) - bt281.2))).bind fun t283 => (if t283 = true then (if 0 ≤ bt281.2 then (if bt281.2 ≤ (wrap64 (bt281.2 + bt281.1)) then (if (wrap64 (bt281.2 + bt281.1)) ≤ (l0.length : Int) then ((impl_WordOk.f k (strOfNums ((l0.take ((wrap64 (bt281.2 + bt281.1)) : Int).toNat).drop (bt281.2 : Int).toNat))).bind fun t285 => (if t285 = true then (some (strOfNums ((l0.take ((wrap64 (bt281.2 + bt281.1)) : Int).toNat).drop (bt281.2 : Int).toNat), wrap64 (bt281.2 + bt281.1))) else (some ((⟨#[]⟩ : ByteArray), (-1))))) else (none)) else (none)) else (none)) else (some ((⟨#[]⟩ : ByteArray), (-1))))))
theorem impl_TakeWord.mono : ∀ a0 a1 k, LeO (impl_TakeWord.f k a0 a1) (impl_TakeWord.f (k + 1) a0 a1) := by
 intro a0 a1 k
 unfold impl_TakeWord.f
 repeat' first
   | (with_reducible exact impl_TakeNum.mono _ _ _)
   | (with_reducible exact impl_WordOk.mono _ _)
   | (with_reducible exact LeO.refl _)
   | (with_reducible exact LeO.none _)
   | (with_reducible refine LeO.ite ?_ ?_)
   | (with_reducible refine LeO.bind ?_ (fun _ => ?_))
   | exact impl_TakeNum.mono _ _ _
   | exact impl_WordOk.mono _ _
   | exact LeO.none _
   | refine LeO.ite ?_ ?_
   | refine LeO.bind ?_ (fun _ => ?_)
set_option maxHeartbeats 8000000 in
set_option maxRecDepth 100000 in
theorem impl_TakeWord.calls (k : Nat) (A0 : Option Addr) (c0 : Nat) (l0 : List Int) (a1 : Int) (r1 : ByteArray) (r2 : Int) (w : World) (hr0 : Kd.C (Kd.int .u8) w A0 l0.length l0) (hc0 : l0.length ≤ c0) (h : impl_TakeWord.f k l0 a1 = some (r1, r2)) :
  Calls Try.prog 102 #[.slice A0 l0.length c0, .int .i64 a1] w fun e w' => e = .returned (.tuple #[.string r1, .int .i64 r2]) ∧ Drawn0 w w' := by
 have HR0 := Aside0.mk hr0
 have HC0 := Aside0.mk hc0
 clear hr0 hc0
 have H : ((impl_TakeNum.f k l0 a1).bind fun bt281 => (if bt281.2 < 0 then (some ((⟨#[]⟩ : ByteArray), (-1))) else ((impl_in.f bt281.1 1 (wrap64 ((l0.length : Int) - bt281.2))).bind fun t283 => (if t283 = true then (if 0 ≤ bt281.2 then (if bt281.2 ≤ (wrap64 (bt281.2 + bt281.1)) then (if (wrap64 (bt281.2 + bt281.1)) ≤ (l0.length : Int) then ((impl_WordOk.f k (strOfNums ((l0.take ((wrap64 (bt281.2 + bt281.1)) : Int).toNat).drop (bt281.2 : Int).toNat))).bind fun t285 => (if t285 = true then (some (strOfNums ((l0.take ((wrap64 (bt281.2 + bt281.1)) : Int).toNat).drop (bt281.2 : Int).toNat), wrap64 (bt281.2 + bt281.1))) else (some ((⟨#[]⟩ : ByteArray), (-1))))) else (none)) else (none)) else (none)) else (some ((⟨#[]⟩ : ByteArray), (-1))))))) = some (r1, r2) := h
 clear h
 replace H := Option.bind_eq_some_iff.mp H
 obtain ⟨⟨t281, t282⟩, A30, H⟩ := H
 replace H : (if t282 < 0 then (some ((⟨#[]⟩ : ByteArray), (-1))) else ((impl_in.f t281 1 (wrap64 ((l0.length : Int) - t282))).bind fun t283 => (if t283 = true then (if 0 ≤ t282 then (if t282 ≤ (wrap64 (t282 + t281)) then (if (wrap64 (t282 + t281)) ≤ (l0.length : Int) then ((impl_WordOk.f k (strOfNums ((l0.take ((wrap64 (t282 + t281)) : Int).toNat).drop (t282 : Int).toNat))).bind fun t285 => (if t285 = true then (some (strOfNums ((l0.take ((wrap64 (t282 + t281)) : Int).toNat).drop (t282 : Int).toNat), wrap64 (t282 + t281))) else (some ((⟨#[]⟩ : ByteArray), (-1))))) else (none)) else (none)) else (none)) else (some ((⟨#[]⟩ : ByteArray), (-1)))))) = some (r1, r2) := H
 have A3 := Aside0.mk A30
 clear A30
 by_cases c4 : t282 < 0
 ·rw [if_pos c4] at H
  have c4b0 : decide (t282 < 0) = true := decide_eq_true c4
  clear c4
  simp only [Option.some.injEq, Prod.mk.injEq] at H
  obtain ⟨rfl, rfl⟩ := H
  go_enter Try.func102, Try.ntmps102
  go_wp2_with (first | ((with_reducible refine gate_callee (f := 58) rfl ?_); refine goesL_ (some 11) rfl rfl Try.func58 (by kernel_rfl) rfl #[.slice A0 l0.length c0, .int .i64 a1] rfl aL ?_; (with_reducible refine (impl_TakeNum.calls k _ _ l0 a1 t281 t282 _ ?side1 ?side2 A3.out).mono ?_); (case side1 => exact cA); (case side2 => exact HC0.out); rintro e w' ⟨rfl, ⟨nd, rfl⟩⟩; refine ⟨_, rfl, ?_⟩))
  go_ret2
  exact ⟨rF, by repeat (first | exact Drawn0.refl _ | apply Drawn0.step)⟩
 ·rw [if_neg c4] at H
  have c4b0 : decide (t282 < 0) = false := decide_eq_false c4
  clear c4
  replace H := Option.bind_eq_some_iff.mp H
  obtain ⟨t283, A50, H⟩ := H
  replace H : (if t283 = true then (if 0 ≤ t282 then (if t282 ≤ (wrap64 (t282 + t281)) then (if (wrap64 (t282 + t281)) ≤ (l0.length : Int) then ((impl_WordOk.f k (strOfNums ((l0.take ((wrap64 (t282 + t281)) : Int).toNat).drop (t282 : Int).toNat))).bind fun t285 => (if t285 = true then (some (strOfNums ((l0.take ((wrap64 (t282 + t281)) : Int).toNat).drop (t282 : Int).toNat), wrap64 (t282 + t281))) else (some ((⟨#[]⟩ : ByteArray), (-1))))) else (none)) else (none)) else (none)) else (some ((⟨#[]⟩ : ByteArray), (-1)))) = some (r1, r2) := H
  have A5 := Aside0.mk A50
  clear A50
  by_cases c6 : t283 = true
  ·subst c6
   have H1 : (if 0 ≤ t282 then (if t282 ≤ (wrap64 (t282 + t281)) then (if (wrap64 (t282 + t281)) ≤ (l0.length : Int) then ((impl_WordOk.f k (strOfNums ((l0.take ((wrap64 (t282 + t281)) : Int).toNat).drop (t282 : Int).toNat))).bind fun t285 => (if t285 = true then (some (strOfNums ((l0.take ((wrap64 (t282 + t281)) : Int).toNat).drop (t282 : Int).toNat), wrap64 (t282 + t281))) else (some ((⟨#[]⟩ : ByteArray), (-1))))) else (none)) else (none)) else (none)) = some (r1, r2) := by rw [if_pos rfl] at H; exact H
   clear H
   have H := H1
   clear H1
   by_cases c7 : 0 ≤ t282
   ·rw [if_pos c7] at H
    have c7b0 := eq_true c7
    have c7b1 : decide (0 ≤ t282) = true := decide_eq_true c7
    clear c7
    by_cases c8 : t282 ≤ (wrap64 (t282 + t281))
    ·rw [if_pos c8] at H
     have c8b0 := eq_true c8
     have c8b1 : decide (t282 ≤ (wrap64 (t282 + t281))) = true := decide_eq_true c8
     by_cases c9 : (wrap64 (t282 + t281)) ≤ (l0.length : Int)
     ·rw [if_pos c9] at H
      have c9b0 := eq_true c9
      have c9b1 : decide ((wrap64 (t282 + t281)) ≤ (l0.length : Int)) = true := decide_eq_true c9
      replace H := Option.bind_eq_some_iff.mp H
      obtain ⟨t285, A100, H⟩ := H
      replace H : (if t285 = true then (some (strOfNums ((l0.take ((wrap64 (t282 + t281)) : Int).toNat).drop (t282 : Int).toNat), wrap64 (t282 + t281))) else (some ((⟨#[]⟩ : ByteArray), (-1)))) = some (r1, r2) := H
      have A10 := Aside0.mk A100
      clear A100
      by_cases c11 : t285 = true
      ·subst c11
       have H1 : (some (strOfNums ((l0.take ((wrap64 (t282 + t281)) : Int).toNat).drop (t282 : Int).toNat), wrap64 (t282 + t281))) = some (r1, r2) := by rw [if_pos rfl] at H; exact H
       clear H
       have H := H1
       clear H1
       have c12b0 := eq_true (of_decide_eq_true (by assumption) : 0 ≤ t282)
       have c13b0 := eq_true (of_decide_eq_true (by assumption) : t282 ≤ (wrap64 (t282 + t281)))
       have c14b0 := eq_true (of_decide_eq_true (by assumption) : (wrap64 (t282 + t281)) ≤ (l0.length : Int))
       simp only [Option.some.injEq, Prod.mk.injEq] at H
       obtain ⟨rfl, rfl⟩ := H
       go_enter Try.func102, Try.ntmps102
       go_wp2_with (first | ((with_reducible refine gate_callee (f := 58) rfl ?_); refine goesL_ (some 11) rfl rfl Try.func58 (by kernel_rfl) rfl #[.slice A0 l0.length c0, .int .i64 a1] rfl aL ?_; (with_reducible refine (impl_TakeNum.calls k _ _ l0 a1 t281 t282 _ ?side1 ?side2 A3.out).mono ?_); (case side1 => exact cA); (case side2 => exact HC0.out); rintro e w' ⟨rfl, ⟨nd, rfl⟩⟩; refine ⟨_, rfl, ?_⟩) | (go_at_call 59; (with_reducible refine (impl_in.calls t281 1 (wrap64 ((l0.length : Int) - t282)) true _ A5.out).mono ?_); rintro e w' ⟨rfl, ⟨nd, rfl⟩⟩; obtain ⟨i015, hi015, _, hsz15, _⟩ := info_parts info5; obtain ⟨A15, hcut15, hA15, hC15⟩ := print_mid_of (P := Try.prog) (Value.int .u8) 0 39 5 .i64 .i64 Try.underlying39 hi015 hsz15 A0 c0 l0 t282 (wrap64 (t282 + t281)) (of_decide_eq_true (by assumption)) (by first | omega | exact of_decide_eq_true (by assumption)) (of_decide_eq_true (by assumption)) HC0.out; have HR284 := Aside0.mk (Kd.C_of_reads (h1 := fun _ => rfl) (hA15 _ (Kd.reads_of_C HR0.out))); have HC284 := Aside0.mk hC15; clear hA15 hC15 hi015 hsz15; have hcv16 := Kd.C_string (P := Try.prog) (A := A15) (c := (c0 - t282.toNat)) Try.underlying39 Try.underlying5 Try.underlying9 HR284.out; (try (have hcw16 := fun m_ => Kd.C_string (P := Try.prog) (A := A15) (c := (c0 - t282.toNat)) Try.underlying39 Try.underlying5 Try.underlying9 (Kd.C_drewN HR284.out m_); (try (have hcx_ := hcw16; simp only [List.length_drop, List.length_take] at hcx_; rw [Nat.min_eq_left (by first | omega | ((try simp only [eq_iff_iff, iff_true] at *); omega))] at hcx_; have hcy16 := hcx_; clear hcx_))))) | (go_at_call 74; (with_reducible refine (impl_WordOk.calls k (strOfNums ((l0.take ((wrap64 (t282 + t281)) : Int).toNat).drop (t282 : Int).toNat)) true _ A10.out).mono ?_); rintro e w' ⟨rfl, ⟨nd, rfl⟩⟩; obtain ⟨i017, hi017, _, hsz17, _⟩ := info_parts info5; obtain ⟨A17, hcut17, hA17, hC17⟩ := print_mid_of (P := Try.prog) (Value.int .u8) 0 39 5 .i64 .i64 Try.underlying39 hi017 hsz17 A0 c0 l0 t282 (wrap64 (t282 + t281)) (of_decide_eq_true (by assumption)) (by first | omega | exact of_decide_eq_true (by assumption)) (of_decide_eq_true (by assumption)) HC0.out; have HR286 := Aside0.mk (Kd.C_of_reads (h1 := fun _ => rfl) (hA17 _ (Kd.reads_of_C HR0.out))); have HC286 := Aside0.mk hC17; clear hA17 hC17 hi017 hsz17; have hcv18 := Kd.C_string (P := Try.prog) (A := A17) (c := (c0 - t282.toNat)) Try.underlying39 Try.underlying5 Try.underlying9 HR286.out; (try (have hcw18 := fun m_ => Kd.C_string (P := Try.prog) (A := A17) (c := (c0 - t282.toNat)) Try.underlying39 Try.underlying5 Try.underlying9 (Kd.C_drewN HR286.out m_); (try (have hcx_ := hcw18; simp only [List.length_drop, List.length_take] at hcx_; rw [Nat.min_eq_left (by first | omega | ((try simp only [eq_iff_iff, iff_true] at *); omega))] at hcx_; have hcy18 := hcx_; clear hcx_))))))
       go_ret2
       exact ⟨rF, by repeat (first | exact Drawn0.refl _ | apply Drawn0.step)⟩
      ·replace c11 := Bool.eq_false_iff.mpr c11
       subst c11
       have H1 : (some ((⟨#[]⟩ : ByteArray), (-1))) = some (r1, r2) := by rw [if_neg (show ¬ (false = true) by decide)] at H; exact H
       clear H
       have H := H1
       clear H1
       simp only [Option.some.injEq, Prod.mk.injEq] at H
       obtain ⟨rfl, rfl⟩ := H
       go_enter Try.func102, Try.ntmps102
       go_wp2_with (first | ((with_reducible refine gate_callee (f := 58) rfl ?_); refine goesL_ (some 11) rfl rfl Try.func58 (by kernel_rfl) rfl #[.slice A0 l0.length c0, .int .i64 a1] rfl aL ?_; (with_reducible refine (impl_TakeNum.calls k _ _ l0 a1 t281 t282 _ ?side1 ?side2 A3.out).mono ?_); (case side1 => exact cA); (case side2 => exact HC0.out); rintro e w' ⟨rfl, ⟨nd, rfl⟩⟩; refine ⟨_, rfl, ?_⟩) | (go_at_call 59; (with_reducible refine (impl_in.calls t281 1 (wrap64 ((l0.length : Int) - t282)) true _ A5.out).mono ?_); rintro e w' ⟨rfl, ⟨nd, rfl⟩⟩; obtain ⟨i019, hi019, _, hsz19, _⟩ := info_parts info5; obtain ⟨A19, hcut19, hA19, hC19⟩ := print_mid_of (P := Try.prog) (Value.int .u8) 0 39 5 .i64 .i64 Try.underlying39 hi019 hsz19 A0 c0 l0 t282 (wrap64 (t282 + t281)) (of_decide_eq_true (by assumption)) (by first | omega | exact of_decide_eq_true (by assumption)) (of_decide_eq_true (by assumption)) HC0.out; have HR284 := Aside0.mk (Kd.C_of_reads (h1 := fun _ => rfl) (hA19 _ (Kd.reads_of_C HR0.out))); have HC284 := Aside0.mk hC19; clear hA19 hC19 hi019 hsz19; have hcv20 := Kd.C_string (P := Try.prog) (A := A19) (c := (c0 - t282.toNat)) Try.underlying39 Try.underlying5 Try.underlying9 HR284.out; (try (have hcw20 := fun m_ => Kd.C_string (P := Try.prog) (A := A19) (c := (c0 - t282.toNat)) Try.underlying39 Try.underlying5 Try.underlying9 (Kd.C_drewN HR284.out m_); (try (have hcx_ := hcw20; simp only [List.length_drop, List.length_take] at hcx_; rw [Nat.min_eq_left (by first | omega | ((try simp only [eq_iff_iff, iff_true] at *); omega))] at hcx_; have hcy20 := hcx_; clear hcx_))))) | (go_at_call 74; (with_reducible refine (impl_WordOk.calls k (strOfNums ((l0.take ((wrap64 (t282 + t281)) : Int).toNat).drop (t282 : Int).toNat)) false _ A10.out).mono ?_); rintro e w' ⟨rfl, ⟨nd, rfl⟩⟩))
       go_ret2
       exact ⟨rF, by repeat (first | exact Drawn0.refl _ | apply Drawn0.step)⟩
     ·rw [if_neg c9] at H
      exact absurd H (by simp)
    ·rw [if_neg c8] at H
     exact absurd H (by simp)
   ·rw [if_neg c7] at H
    exact absurd H (by simp)
  ·replace c6 := Bool.eq_false_iff.mpr c6
   subst c6
   have H1 : (some ((⟨#[]⟩ : ByteArray), (-1))) = some (r1, r2) := by rw [if_neg (show ¬ (false = true) by decide)] at H; exact H
   clear H
   have H := H1
   clear H1
   simp only [Option.some.injEq, Prod.mk.injEq] at H
   obtain ⟨rfl, rfl⟩ := H
   go_enter Try.func102, Try.ntmps102
   go_wp2_with (first | ((with_reducible refine gate_callee (f := 58) rfl ?_); refine goesL_ (some 11) rfl rfl Try.func58 (by kernel_rfl) rfl #[.slice A0 l0.length c0, .int .i64 a1] rfl aL ?_; (with_reducible refine (impl_TakeNum.calls k _ _ l0 a1 t281 t282 _ ?side1 ?side2 A3.out).mono ?_); (case side1 => exact cA); (case side2 => exact HC0.out); rintro e w' ⟨rfl, ⟨nd, rfl⟩⟩; refine ⟨_, rfl, ?_⟩) | (go_at_call 59; (with_reducible refine (impl_in.calls t281 1 (wrap64 ((l0.length : Int) - t282)) false _ A5.out).mono ?_); rintro e w' ⟨rfl, ⟨nd, rfl⟩⟩))
   go_ret2
   exact ⟨rF, by repeat (first | exact Drawn0.refl _ | apply Drawn0.step)⟩

/-! ### impl_takeAll: function 103 -/
def impl_takeAll.l0 : Nat → List Int → Int → List Int → Int → Int → Option (List Int × Int)
 | 0, _, _, _, _, _ => none
 | k + 1, x0, x1, x8, x11, x12 => if x12 < x11 then ((impl_TakeNum.f k x0 x1).bind fun bt287 => (if bt287.2 < 0 then (some (([] : List Int), (-1))) else (if x8.length < 17592186044416 then (impl_takeAll.l0 k x0 bt287.2 (x8 ++ [bt287.1]) x11 (wrap64 (x12 + 1))) else (none)))) else (some (x8, x1))
def impl_takeAll.f (k : Nat) (l0 : List Int) (a1 : Int) (a2 : Int) : Option (List Int × Int) := impl_takeAll.l0 k l0 a1 ([] : List Int) a2 0
theorem impl_takeAll.mono_l : ∀ k, (∀ y0 y1 y2 y3 y4, LeO (impl_takeAll.l0 k y0 y1 y2 y3 y4) (impl_takeAll.l0 (k + 1) y0 y1 y2 y3 y4))
 | 0 => fun _ _ _ _ _ r h => by simp [impl_takeAll.l0] at h
 | k + 1 => by
  have ih0 := impl_takeAll.mono_l k
  ·intro y0 y1 y2 y3 y4
   unfold impl_takeAll.l0
   repeat' first
   | (with_reducible exact ih0 _ _ _ _ _)
   | (with_reducible exact impl_TakeNum.mono _ _ _)
   | (with_reducible exact LeO.refl _)
   | (with_reducible exact LeO.none _)
   | (with_reducible refine LeO.ite ?_ ?_)
   | (with_reducible refine LeO.bind ?_ (fun _ => ?_))
   | exact ih0 _ _ _ _ _
   | exact impl_TakeNum.mono _ _ _
   | exact LeO.none _
   | refine LeO.ite ?_ ?_
   | refine LeO.bind ?_ (fun _ => ?_)
theorem impl_takeAll.mono : ∀ a0 a1 a2 k, LeO (impl_takeAll.f k a0 a1 a2) (impl_takeAll.f (k + 1) a0 a1 a2) := by
 intro a0 a1 a2 k
 have ih0 := impl_takeAll.mono_l k
 unfold impl_takeAll.f
 repeat' first
   | (with_reducible exact ih0 _ _ _ _ _)
   | (with_reducible exact impl_TakeNum.mono _ _ _)
   | (with_reducible exact LeO.refl _)
   | (with_reducible exact LeO.none _)
   | (with_reducible refine LeO.ite ?_ ?_)
   | (with_reducible refine LeO.bind ?_ (fun _ => ?_))
   | exact ih0 _ _ _ _ _
   | exact impl_TakeNum.mono _ _ _
   | exact LeO.none _
   | refine LeO.ite ?_ ?_
   | refine LeO.bind ?_ (fun _ => ?_)
set_option maxHeartbeats 8000000 in
set_option maxRecDepth 100000 in
theorem impl_takeAll.calls (k : Nat) (A0 : Option Addr) (c0 : Nat) (l0 : List Int) (a1 : Int) (a2 : Int) (r1 : List Int) (r2 : Int) (w : World) (hr0 : Kd.C (Kd.int .u8) w A0 l0.length l0) (hc0 : l0.length ≤ c0) (h : impl_takeAll.f k l0 a1 a2 = some (r1, r2)) :
  Calls Try.prog 103 #[.slice A0 l0.length c0, .int .i64 a1, .int .i64 a2] w fun e w' => ∃ v0_ : Value, e = .returned (.tuple #[v0_, .int .i64 r2]) ∧ Kd.R (Kd.int .i64) 3 w' w.heap.size (fun _ => True) v0_ r1 ∧ Below w.heap.size w w' := by
 have HR0 := Aside0.mk hr0
 have HC0 := Aside0.mk hc0
 clear hr0 hc0
 have HB := Aside0.mk (Below.refl w.heap.size w)
 have H : (impl_takeAll.l0 k l0 a1 ([] : List Int) a2 0) = some (r1, r2) := h
 clear h
 have H' := Aside0.mk H
 clear H
 go_enter Try.func103, Try.ntmps103
 go_wp2
 go_loopg [1, 8, 12] k (fun kq v1 v8 v12 w' => ∃ (x1_1 : Int) (x8_1 : List Int) (x12_1 : Int), v1 = .int .i64 x1_1 ∧ v12 = .int .i64 x12_1 ∧ Aside0 (impl_takeAll.l0 kq l0 x1_1 x8_1 a2 x12_1 = some (r1, r2)) ∧ Aside0 (kq ≤ k) ∧ Aside0 (Kd.R (Kd.int .i64) 3 w' w.heap.size (fun _ => True) v8 x8_1) ∧ Aside0 (Below w.heap.size w w'))
 case atStart => exact ⟨(a1), (([] : List Int)), (0), rF, rF, H', ⟨Nat.le_refl _⟩, ⟨by first | exact Kd.R_nil _ _ _ _ _ | exact Kd.N_nil _ _ _ _ _ | exact Kd.V_nil _ _ _ _ _ | exact Kd.Q_nil _ _ _ _ _ | exact Kd.S_nil _ _ _ _ _⟩, ⟨bA⟩⟩
 case round =>
  clear H'
  try clear c1
  try clear p2
  obtain ⟨x1_1, x8_1, x12_1, rfl, rfl, HA, HK1, HO_8, HB⟩ := hrel
  cases gk with
  | zero => exact absurd HA.out (by simp [impl_takeAll.l0])
  | succ k1 =>
   have H := HA.out
   clear HA
   simp only [impl_takeAll.l0] at H
   by_cases c4 : x12_1 < a2
   ·rw [if_pos c4] at H
    have c4b0 : decide (x12_1 < a2) = true := decide_eq_true c4
    clear c4
    replace H := Option.bind_eq_some_iff.mp H
    obtain ⟨⟨t287, t288⟩, A50, H⟩ := H
    replace H : (if t288 < 0 then (some (([] : List Int), (-1))) else (if x8_1.length < 17592186044416 then (impl_takeAll.l0 k1 l0 t288 (x8_1 ++ [t287]) a2 (wrap64 (x12_1 + 1))) else (none))) = some (r1, r2) := H
    have A5 := Aside0.mk A50
    clear A50
    by_cases c6 : t288 < 0
    ·rw [if_pos c6] at H
     have c6b0 : decide (t288 < 0) = true := decide_eq_true c6
     clear c6
     simp only [Option.some.injEq, Prod.mk.injEq] at H
     obtain ⟨rfl, rfl⟩ := H
     go_wp2_with (first | ((with_reducible refine gate_callee (f := 58) rfl ?_); refine goesL_ (some 17) rfl rfl Try.func58 (by kernel_rfl) rfl #[.slice A0 l0.length c0, .int .i64 x1_1] rfl aL ?_; (with_reducible refine (impl_TakeNum.calls k1 _ _ l0 x1_1 t287 t288 _ ?side1 ?side2 A5.out).mono ?_); (case side1 => exact cA); (case side2 => exact HC0.out); rintro e w' ⟨rfl, ⟨nd, rfl⟩⟩; refine ⟨_, rfl, ?_⟩))
     go_ret2
     exact ⟨.slice none 0 0, rE, by first | exact Kd.R_nil _ _ _ _ _ | exact Kd.N_nil _ _ _ _ _ | exact Kd.V_nil _ _ _ _ _ | exact Kd.Q_nil _ _ _ _ _ | exact Kd.S_nil _ _ _ _ _, bA⟩
    ·rw [if_neg c6] at H
     have c6b0 : decide (t288 < 0) = false := decide_eq_false c6
     clear c6
     by_cases c7 : x8_1.length < 17592186044416
     ·rw [if_pos c7] at H
      have LMc7 := Aside0.mk c7
      clear c7
      obtain ⟨y289, hy289⟩ : ∃ y_ : List Int, y_ = (x8_1 ++ [t287]) := ⟨_, rfl⟩
      replace H : (impl_takeAll.l0 k1 l0 t288 y289 a2 (wrap64 (x12_1 + 1))) = some (r1, r2) := by first | (rw [hy289]; with_reducible exact H) | (have H2_ := (Option.bind_some _ _).symm.trans H; rw [hy289]; with_reducible exact H2_) | (have H2_ := (Option.bind_some _ _).symm.trans H; with_reducible exact H2_) | with_reducible exact H | (rw [hy289]; exact H) | exact H
      have Ny289 := Aside0.mk hy289
      clear hy289
      have H' := Aside0.mk H
      clear H
      go_wp2_with (first | ((with_reducible refine gate_callee (f := 58) rfl ?_); refine goesL_ (some 17) rfl rfl Try.func58 (by kernel_rfl) rfl #[.slice A0 l0.length c0, .int .i64 x1_1] rfl aL ?_; (with_reducible refine (impl_TakeNum.calls k1 _ _ l0 x1_1 t287 t288 _ ?side1 ?side2 A5.out).mono ?_); (case side1 => exact cA); (case side2 => exact HC0.out); rintro e w' ⟨rfl, ⟨nd, rfl⟩⟩; refine ⟨_, rfl, ?_⟩) | ((with_reducible refine gate_builtin (b := .append) (xs := #[.tmp 22, .tmp 24]) rfl ?_); at_builtin; refine Kd.R_append (Kd.int .i64) (w0 := w) w.heap.size rfl (.tmp 22) (.tmp 24) 55 3 (.int .i64 0) 8 rfl Try.underlying55 info3 rfl (by decide) (by omega) u8 x8_1 t287 [.int .i64 t287] (fun _ => True) (fun _ => False) rfl rfl ?aP (fun _ hk => hk.elim) ?aF ?aO ?aB ?aS ?aL ?_; (case aP => exact rfl); (case aB => exact bA); (case aF => exact (fun _ _ => trivial)); (case aO => exact (by (with_reducible repeat (first | apply Kd.R_alloc | apply Kd.R_drewN | apply Kd.R_drew)); exact HO_8.out)); (case aS => exact (below_size bA)); (case aL => have := LMc7.out; omega); intro v290 w8 ho hb hg hat; rw [← Ny289.out] at ho; have n0_ := Aside0.mk (hb); have n1_ := Aside0.mk (ho); clear HB; clear HO_8; have HB := n0_; have HO291 := n1_; clear n0_ n1_; clear ho hb hg hat))
      go_roundg k1
      case measure => have := HK1.out; omega
      case rel => exact ⟨(t288), (y289), (wrap64 (x12_1 + 1)), rF, rF, H', ⟨by have := HK1.out; omega⟩, ⟨by (with_reducible repeat (first | apply Kd.R_alloc | apply Kd.R_drewN | apply Kd.R_drew)); exact HO291.out⟩, ⟨bA⟩⟩
     ·rw [if_neg c7] at H
      exact absurd H (by simp)
   ·rw [if_neg c4] at H
    have c4b0 : decide (x12_1 < a2) = false := decide_eq_false c4
    clear c4
    simp only [Option.some.injEq, Prod.mk.injEq] at H
    obtain ⟨rfl, rfl⟩ := H
    go_wp2
    go_ret2
    exact ⟨_, rE, by (with_reducible repeat (first | apply Kd.R_alloc | apply Kd.R_drewN | apply Kd.R_drew)); exact HO_8.out, bA⟩

/-! ### impl_TakeNums: function 104 -/
mutual
def impl_TakeNums.j0 : Nat → List Int → Int → Int → Bool → Option (List Int × Int)
 | 0, _, _, _, _ => none
 | k + 1, x0, x6, x7, x23 => if x23 = true then (some (([] : List Int), (-1))) else (impl_TakeNums.l0 k x0 x7 ([] : List Int) x6 0)
def impl_TakeNums.l0 : Nat → List Int → Int → List Int → Int → Int → Option (List Int × Int)
 | 0, _, _, _, _, _ => none
 | k + 1, x0, x7, x8, x24, x25 => if x25 < x24 then ((impl_TakeNum.f k x0 x7).bind fun bt295 => (if bt295.2 < 0 then (some (([] : List Int), (-1))) else (if x8.length < 17592186044416 then (impl_TakeNums.l0 k x0 bt295.2 (x8 ++ [bt295.1]) x24 (wrap64 (x25 + 1))) else (none)))) else (some (x8, x7))
end
def impl_TakeNums.f (k : Nat) (l0 : List Int) (a1 : Int) : Option (List Int × Int) := (impl_TakeNum.f k l0 a1).bind fun bt292 => (if bt292.2 < 0 then (impl_TakeNums.j0 k l0 bt292.1 bt292.2 true) else ((impl_in.f bt292.1 0 300).bind fun t294 => (impl_TakeNums.j0 k l0 bt292.1 bt292.2 (!t294))))
theorem impl_TakeNums.mono_l : ∀ k, (∀ y0 y1 y2 y3, LeO (impl_TakeNums.j0 k y0 y1 y2 y3) (impl_TakeNums.j0 (k + 1) y0 y1 y2 y3)) ∧ (∀ y0 y1 y2 y3 y4, LeO (impl_TakeNums.l0 k y0 y1 y2 y3 y4) (impl_TakeNums.l0 (k + 1) y0 y1 y2 y3 y4))
 | 0 => ⟨fun _ _ _ _ r h => by simp [impl_TakeNums.j0] at h, fun _ _ _ _ _ r h => by simp [impl_TakeNums.l0] at h⟩
 | k + 1 => by
  obtain ⟨ih0, ih1⟩ := impl_TakeNums.mono_l k
  refine ⟨?_, ?_⟩ <;> intros <;> (first | unfold impl_TakeNums.j0 | unfold impl_TakeNums.l0)
  all_goals repeat' first
  | (with_reducible exact ih0 _ _ _ _)
  | (with_reducible exact ih1 _ _ _ _ _)
  | (with_reducible exact impl_TakeNum.mono _ _ _)
  | (with_reducible exact LeO.refl _)
  | (with_reducible exact LeO.none _)
  | (with_reducible refine LeO.ite ?_ ?_)
  | (with_reducible refine LeO.bind ?_ (fun _ => ?_))
  | exact ih0 _ _ _ _
  | exact ih1 _ _ _ _ _
  | exact impl_TakeNum.mono _ _ _
  | exact LeO.none _
  | refine LeO.ite ?_ ?_
  | refine LeO.bind ?_ (fun _ => ?_)
theorem impl_TakeNums.mono : ∀ a0 a1 k, LeO (impl_TakeNums.f k a0 a1) (impl_TakeNums.f (k + 1) a0 a1) := by
 intro a0 a1 k
 obtain ⟨ih0, ih1⟩ := impl_TakeNums.mono_l k
 unfold impl_TakeNums.f
 repeat' first
   | (with_reducible exact ih0 _ _ _ _)
   | (with_reducible exact ih1 _ _ _ _ _)
   | (with_reducible exact impl_TakeNum.mono _ _ _)
   | (with_reducible exact LeO.refl _)
   | (with_reducible exact LeO.none _)
   | (with_reducible refine LeO.ite ?_ ?_)
   | (with_reducible refine LeO.bind ?_ (fun _ => ?_))
   | exact ih0 _ _ _ _
   | exact ih1 _ _ _ _ _
   | exact impl_TakeNum.mono _ _ _
   | exact LeO.none _
   | refine LeO.ite ?_ ?_
   | refine LeO.bind ?_ (fun _ => ?_)
set_option maxHeartbeats 8000000 in
set_option maxRecDepth 100000 in
theorem impl_TakeNums.calls (k : Nat) (A0 : Option Addr) (c0 : Nat) (l0 : List Int) (a1 : Int) (r1 : List Int) (r2 : Int) (w : World) (hr0 : Kd.C (Kd.int .u8) w A0 l0.length l0) (hc0 : l0.length ≤ c0) (h : impl_TakeNums.f k l0 a1 = some (r1, r2)) :
  Calls Try.prog 104 #[.slice A0 l0.length c0, .int .i64 a1] w fun e w' => ∃ v0_ : Value, e = .returned (.tuple #[v0_, .int .i64 r2]) ∧ Kd.R (Kd.int .i64) 3 w' w.heap.size (fun _ => True) v0_ r1 ∧ Below w.heap.size w w' := by
 have HR0 := Aside0.mk hr0
 have HC0 := Aside0.mk hc0
 clear hr0 hc0
 have HB := Aside0.mk (Below.refl w.heap.size w)
 have H : ((impl_TakeNum.f k l0 a1).bind fun bt292 => (if bt292.2 < 0 then (impl_TakeNums.j0 k l0 bt292.1 bt292.2 true) else ((impl_in.f bt292.1 0 300).bind fun t294 => (impl_TakeNums.j0 k l0 bt292.1 bt292.2 (!t294))))) = some (r1, r2) := h
 clear h
 replace H := Option.bind_eq_some_iff.mp H
 obtain ⟨⟨t292, t293⟩, A30, H⟩ := H
 replace H : (if t293 < 0 then (impl_TakeNums.j0 k l0 t292 t293 true) else ((impl_in.f t292 0 300).bind fun t294 => (impl_TakeNums.j0 k l0 t292 t293 (!t294)))) = some (r1, r2) := H
 have A3 := Aside0.mk A30
 clear A30
 have HC4 := Aside0.mk H
 clear H
 go_enter Try.func104, Try.ntmps104
 go_upto_region 2 with (first | ((with_reducible refine gate_callee (f := 58) rfl ?_); refine goesL_ (some 14) rfl rfl Try.func58 (by kernel_rfl) rfl #[.slice A0 l0.length c0, .int .i64 a1] rfl aL ?_; (with_reducible refine (impl_TakeNum.calls k _ _ l0 a1 t292 t293 _ ?side1 ?side2 A3.out).mono ?_); (case side1 => exact cA); (case side2 => exact HC0.out); rintro e w' ⟨rfl, ⟨nd, rfl⟩⟩; refine ⟨_, rfl, ?_⟩))
 (try simp only [Act.put, List.setIfInBounds_toArray, List.set_cons_zero, List.set_cons_succ])
 go_cut [23] (fun v23 wc => ∃ (kq : Nat) (x23_3 : Bool), v23 = .bool x23_3 ∧ Aside0 (impl_TakeNums.j0 kq l0 t292 t293 x23_3 = some (r1, r2)) ∧ Aside0 (kq ≤ k) ∧ Aside0 (Below w.heap.size w wc))
 case first =>
  have H := HC4.out
  clear HC4
  by_cases c5 : t293 < 0
  ·rw [if_pos c5] at H
   have c5b0 : decide (t293 < 0) = true := decide_eq_true c5
   clear c5
   (first | rw [c5b0] | (simp only [i64_w, i32_w]; rw [c5b0]) | skip)
   have H' := Aside0.mk H
   clear H
   go_wp2
   go_meet
   case rel => exact ⟨_, (true), rF, H', ⟨by first | omega | exact Nat.le_refl _⟩, ⟨bA⟩⟩
  ·rw [if_neg c5] at H
   have c5b0 : decide (t293 < 0) = false := decide_eq_false c5
   clear c5
   (first | rw [c5b0] | (simp only [i64_w, i32_w]; rw [c5b0]) | skip)
   replace H := Option.bind_eq_some_iff.mp H
   obtain ⟨t294, A60, H⟩ := H
   replace H : (impl_TakeNums.j0 k l0 t292 t293 (!t294)) = some (r1, r2) := H
   have A6 := Aside0.mk A60
   clear A60
   have H' := Aside0.mk H
   clear H
   go_wp2_with (first | (go_at_call 59; (with_reducible refine (impl_in.calls t292 0 300 t294 _ A6.out).mono ?_); rintro e w' ⟨rfl, ⟨nd, rfl⟩⟩))
   go_meet
   case rel => exact ⟨_, (!t294), rF, H', ⟨by first | omega | exact Nat.le_refl _⟩, ⟨bA⟩⟩
 case rest =>
  clear HC4
  try clear c1
  try clear p2
  try clear c5
  try clear c5b0
  obtain ⟨kq, x23_3, rfl, HA, HJ3, HB⟩ := hcut
  cases kq with
  | zero => exact absurd HA.out (by simp [impl_TakeNums.j0])
  | succ kj3 =>
   have H := HA.out
   clear HA
   simp only [impl_TakeNums.j0] at H
   by_cases c7 : x23_3 = true
   ·subst c7
    have H1 : (some (([] : List Int), (-1))) = some (r1, r2) := by rw [if_pos rfl] at H; exact H
    clear H
    have H := H1
    clear H1
    simp only [Option.some.injEq, Prod.mk.injEq] at H
    obtain ⟨rfl, rfl⟩ := H
    go_wp2
    go_ret2
    exact ⟨.slice none 0 0, rE, by first | exact Kd.R_nil _ _ _ _ _ | exact Kd.N_nil _ _ _ _ _ | exact Kd.V_nil _ _ _ _ _ | exact Kd.Q_nil _ _ _ _ _ | exact Kd.S_nil _ _ _ _ _, bA⟩
   ·replace c7 := Bool.eq_false_iff.mpr c7
    subst c7
    have H1 : (impl_TakeNums.l0 kj3 l0 t293 ([] : List Int) t292 0) = some (r1, r2) := by rw [if_neg (show ¬ (false = true) by decide)] at H; exact H
    clear H
    have H := H1
    clear H1
    have H' := Aside0.mk H
    clear H
    go_wp2
    go_loopg [7, 8, 25] kj3 (fun kq v7 v8 v25 w' => ∃ (x7_2 : Int) (x8_2 : List Int) (x25_2 : Int), v7 = .int .i64 x7_2 ∧ v25 = .int .i64 x25_2 ∧ Aside0 (impl_TakeNums.l0 kq l0 x7_2 x8_2 t292 x25_2 = some (r1, r2)) ∧ Aside0 (kq ≤ kj3) ∧ Aside0 (Kd.R (Kd.int .i64) 3 w' w.heap.size (fun _ => True) v8 x8_2) ∧ Aside0 (Below w.heap.size w w'))
    case atStart => exact ⟨(t293), (([] : List Int)), (0), rF, rF, H', ⟨Nat.le_refl _⟩, ⟨by first | exact Kd.R_nil _ _ _ _ _ | exact Kd.N_nil _ _ _ _ _ | exact Kd.V_nil _ _ _ _ _ | exact Kd.Q_nil _ _ _ _ _ | exact Kd.S_nil _ _ _ _ _⟩, ⟨bA⟩⟩
    case round =>
     clear H'
     try clear c1
     try clear p2
     try clear c5
     try clear c5b0
     try clear c7
     try clear p2
     obtain ⟨x7_2, x8_2, x25_2, rfl, rfl, HA, HK2, HO_8, HB⟩ := hrel
     cases gk with
     | zero => exact absurd HA.out (by simp [impl_TakeNums.l0])
     | succ k2 =>
      have H := HA.out
      clear HA
      simp only [impl_TakeNums.l0] at H
      by_cases c8 : x25_2 < t292
      ·rw [if_pos c8] at H
       have c8b0 : decide (x25_2 < t292) = true := decide_eq_true c8
       clear c8
       replace H := Option.bind_eq_some_iff.mp H
       obtain ⟨⟨t295, t296⟩, A90, H⟩ := H
       replace H : (if t296 < 0 then (some (([] : List Int), (-1))) else (if x8_2.length < 17592186044416 then (impl_TakeNums.l0 k2 l0 t296 (x8_2 ++ [t295]) t292 (wrap64 (x25_2 + 1))) else (none))) = some (r1, r2) := H
       have A9 := Aside0.mk A90
       clear A90
       by_cases c10 : t296 < 0
       ·rw [if_pos c10] at H
        have c10b0 : decide (t296 < 0) = true := decide_eq_true c10
        clear c10
        simp only [Option.some.injEq, Prod.mk.injEq] at H
        obtain ⟨rfl, rfl⟩ := H
        go_wp2_with (first | ((with_reducible refine gate_callee (f := 58) rfl ?_); refine goesL_ (some 30) rfl rfl Try.func58 (by kernel_rfl) rfl #[.slice A0 l0.length c0, .int .i64 x7_2] rfl aL ?_; (with_reducible refine (impl_TakeNum.calls k2 _ _ l0 x7_2 t295 t296 _ ?side1 ?side2 A9.out).mono ?_); (case side1 => exact cA); (case side2 => exact HC0.out); rintro e w' ⟨rfl, ⟨nd, rfl⟩⟩; refine ⟨_, rfl, ?_⟩))
        go_ret2
        exact ⟨.slice none 0 0, rE, by first | exact Kd.R_nil _ _ _ _ _ | exact Kd.N_nil _ _ _ _ _ | exact Kd.V_nil _ _ _ _ _ | exact Kd.Q_nil _ _ _ _ _ | exact Kd.S_nil _ _ _ _ _, bA⟩
       ·rw [if_neg c10] at H
        have c10b0 : decide (t296 < 0) = false := decide_eq_false c10
        clear c10
        by_cases c11 : x8_2.length < 17592186044416
        ·rw [if_pos c11] at H
         have LMc11 := Aside0.mk c11
         clear c11
         obtain ⟨y297, hy297⟩ : ∃ y_ : List Int, y_ = (x8_2 ++ [t295]) := ⟨_, rfl⟩
         replace H : (impl_TakeNums.l0 k2 l0 t296 y297 t292 (wrap64 (x25_2 + 1))) = some (r1, r2) := by first | (rw [hy297]; with_reducible exact H) | (have H2_ := (Option.bind_some _ _).symm.trans H; rw [hy297]; with_reducible exact H2_) | (have H2_ := (Option.bind_some _ _).symm.trans H; with_reducible exact H2_) | with_reducible exact H | (rw [hy297]; exact H) | exact H
         have Ny297 := Aside0.mk hy297
         clear hy297
         have H' := Aside0.mk H
         clear H
         go_wp2_with (first | ((with_reducible refine gate_callee (f := 58) rfl ?_); refine goesL_ (some 30) rfl rfl Try.func58 (by kernel_rfl) rfl #[.slice A0 l0.length c0, .int .i64 x7_2] rfl aL ?_; (with_reducible refine (impl_TakeNum.calls k2 _ _ l0 x7_2 t295 t296 _ ?side1 ?side2 A9.out).mono ?_); (case side1 => exact cA); (case side2 => exact HC0.out); rintro e w' ⟨rfl, ⟨nd, rfl⟩⟩; refine ⟨_, rfl, ?_⟩) | ((with_reducible refine gate_builtin (b := .append) (xs := #[.tmp 35, .tmp 37]) rfl ?_); at_builtin; refine Kd.R_append (Kd.int .i64) (w0 := w) w.heap.size rfl (.tmp 35) (.tmp 37) 55 3 (.int .i64 0) 8 rfl Try.underlying55 info3 rfl (by decide) (by omega) u8 x8_2 t295 [.int .i64 t295] (fun _ => True) (fun _ => False) rfl rfl ?aP (fun _ hk => hk.elim) ?aF ?aO ?aB ?aS ?aL ?_; (case aP => exact rfl); (case aB => exact bA); (case aF => exact (fun _ _ => trivial)); (case aO => exact (by (with_reducible repeat (first | apply Kd.R_alloc | apply Kd.R_drewN | apply Kd.R_drew)); exact HO_8.out)); (case aS => exact (below_size bA)); (case aL => have := LMc11.out; omega); intro v298 w12 ho hb hg hat; rw [← Ny297.out] at ho; have n0_ := Aside0.mk (hb); have n1_ := Aside0.mk (ho); clear HB; clear HO_8; have HB := n0_; have HO299 := n1_; clear n0_ n1_; clear ho hb hg hat))
         go_roundg k2
         case measure => have := HJ3.out; have := HK2.out; omega
         case rel => exact ⟨(t296), (y297), (wrap64 (x25_2 + 1)), rF, rF, H', ⟨by have := HJ3.out; have := HK2.out; omega⟩, ⟨by (with_reducible repeat (first | apply Kd.R_alloc | apply Kd.R_drewN | apply Kd.R_drew)); exact HO299.out⟩, ⟨bA⟩⟩
        ·rw [if_neg c11] at H
         exact absurd H (by simp)
      ·rw [if_neg c8] at H
       have c8b0 : decide (x25_2 < t292) = false := decide_eq_false c8
       clear c8
       simp only [Option.some.injEq, Prod.mk.injEq] at H
       obtain ⟨rfl, rfl⟩ := H
       go_wp2
       go_ret2
       exact ⟨_, rE, by (with_reducible repeat (first | apply Kd.R_alloc | apply Kd.R_drewN | apply Kd.R_drew)); exact HO_8.out, bA⟩

/-! ### laws_eqByteS: function 26 -/
def laws_eqByteS.l0 : Nat → List Int → List Int → Int → Option (Bool)
 | 0, _, _, _ => none
 | k + 1, x0, x1, x5 => if x5 < (x0.length : Int) then (if 0 ≤ x5 then (if x5 < (x1.length : Int) then (if (rd x0 x5) = (rd x1 x5) then (laws_eqByteS.l0 k x0 x1 (wrap64 (x5 + 1))) else (some false)) else (none)) else (none)) else (some true)
def laws_eqByteS.f (k : Nat) (l0 : List Int) (l1 : List Int) : Option (Bool) := if (l0.length : Int) = (l1.length : Int) then (laws_eqByteS.l0 k l0 l1 0) else (some false)
theorem laws_eqByteS.mono_l : ∀ k, (∀ y0 y1 y2, LeO (laws_eqByteS.l0 k y0 y1 y2) (laws_eqByteS.l0 (k + 1) y0 y1 y2))
 | 0 => fun _ _ _ r h => by simp [laws_eqByteS.l0] at h
 | k + 1 => by
  have ih0 := laws_eqByteS.mono_l k
  ·intro y0 y1 y2
   unfold laws_eqByteS.l0
   repeat' first
   | (with_reducible exact ih0 _ _ _)
   | (with_reducible exact LeO.refl _)
   | (with_reducible exact LeO.none _)
   | (with_reducible refine LeO.ite ?_ ?_)
   | (with_reducible refine LeO.bind ?_ (fun _ => ?_))
   | exact ih0 _ _ _
   | exact LeO.none _
   | refine LeO.ite ?_ ?_
   | refine LeO.bind ?_ (fun _ => ?_)
theorem laws_eqByteS.mono : ∀ a0 a1 k, LeO (laws_eqByteS.f k a0 a1) (laws_eqByteS.f (k + 1) a0 a1) := by
 intro a0 a1 k
 have ih0 := laws_eqByteS.mono_l k
 unfold laws_eqByteS.f
 repeat' first
   | (with_reducible exact ih0 _ _ _)
   | (with_reducible exact LeO.refl _)
   | (with_reducible exact LeO.none _)
   | (with_reducible refine LeO.ite ?_ ?_)
   | (with_reducible refine LeO.bind ?_ (fun _ => ?_))
   | exact ih0 _ _ _
   | exact LeO.none _
   | refine LeO.ite ?_ ?_
   | refine LeO.bind ?_ (fun _ => ?_)
set_option maxHeartbeats 8000000 in
set_option maxRecDepth 100000 in
theorem laws_eqByteS.calls (k : Nat) (A0 : Option Addr) (c0 : Nat) (l0 : List Int) (A1 : Option Addr) (c1 : Nat) (l1 : List Int) (r : Bool) (w : World) (hr0 : Kd.C (Kd.int .u8) w A0 l0.length l0) (hc0 : l0.length ≤ c0) (hr1 : Kd.C (Kd.int .u8) w A1 l1.length l1) (hc1 : l1.length ≤ c1) (h : laws_eqByteS.f k l0 l1 = some r) :
  Calls Try.prog 26 #[.slice A0 l0.length c0, .slice A1 l1.length c1] w fun e w' => e = .returned (.bool r) ∧ Drawn0 w w' := by
 have HR0 := Aside0.mk hr0
 have HC0 := Aside0.mk hc0
 clear hr0 hc0
 have HR1 := Aside0.mk hr1
 have HC1 := Aside0.mk hc1
 clear hr1 hc1
 have H : (if (l0.length : Int) = (l1.length : Int) then (laws_eqByteS.l0 k l0 l1 0) else (some false)) = some r := h
 clear h
 by_cases c3 : (l0.length : Int) = (l1.length : Int)
 ·rw [if_pos c3] at H
  have c3b0 : ((l0.length : Int) == (l1.length : Int)) = true := beq_iff_eq.mpr c3
  have c3b1 : ((l0.length : Int) != (l1.length : Int)) = false := bne_eq_false_iff_eq.mpr c3
  have c3b2 : (l0.length == l1.length) = true := by first | simpa using c3 | (simp at c3 ⊢; omega)
  clear c3
  have H' := Aside0.mk H
  clear H
  go_enter Try.func26, Try.ntmps26
  go_wp2
  repeat (go_quiet (fail); try go_wp2)
  go_loopg [5] k (fun kq v5 w' => ∃ (x5_1 : Int), v5 = .int .i64 x5_1 ∧ Aside0 (laws_eqByteS.l0 kq l0 l1 x5_1 = some r) ∧ Aside0 (kq ≤ k) ∧ Drawn0 w w')
  case atStart => exact ⟨(0), rF, H', ⟨Nat.le_refl _⟩, by repeat (first | exact Drawn0.refl _ | apply Drawn0.step)⟩
  case round =>
   clear H'
   try clear c1
   try clear c2
   try clear p2
   try clear c3
   try clear c3b0
   try clear c3b1
   try clear c3b2
   obtain ⟨x5_1, rfl, HA, HK1, ⟨m1, rfl⟩⟩ := hrel
   cases gk with
   | zero => exact absurd HA.out (by simp [laws_eqByteS.l0])
   | succ k1 =>
    have H := HA.out
    clear HA
    simp only [laws_eqByteS.l0] at H
    by_cases c4 : x5_1 < (l0.length : Int)
    ·rw [if_pos c4] at H
     have c4b0 : decide (x5_1 < (l0.length : Int)) = true := decide_eq_true c4
     clear c4
     by_cases c5 : 0 ≤ x5_1
     ·rw [if_pos c5] at H
      have c5b0 : decide (0 ≤ x5_1) = true := decide_eq_true c5
      clear c5
      by_cases c6 : x5_1 < (l1.length : Int)
      ·rw [if_pos c6] at H
       have c6b0 : decide (x5_1 < (l1.length : Int)) = true := decide_eq_true c6
       clear c6
       by_cases c7 : (rd l0 x5_1) = (rd l1 x5_1)
       ·rw [if_pos c7] at H
        have c7b0 : ((rd l0 x5_1) == (rd l1 x5_1)) = true := beq_iff_eq.mpr c7
        have c7b1 : ((rd l0 x5_1) != (rd l1 x5_1)) = false := bne_eq_false_iff_eq.mpr c7
        clear c7
        have H' := Aside0.mk H
        clear H
        have p356 : 0 ≤ (x5_1 : Int) := of_decide_eq_true (by assumption)
        have q356 : x5_1 < (l0.length : Int) := of_decide_eq_true (by assumption)
        obtain ⟨ad356, e356, hx356_0⟩ := Kd.at_int HR0.out x5_1 p356 q356
        cases e356
        replace p356 := eq_true p356
        replace q356 := eq_true q356
        have p357 : 0 ≤ (x5_1 : Int) := of_decide_eq_true (by assumption)
        have q357 : x5_1 < (l1.length : Int) := of_decide_eq_true (by assumption)
        obtain ⟨ad357, e357, hx357_0⟩ := Kd.at_int HR1.out x5_1 p357 q357
        cases e357
        replace p357 := eq_true p357
        replace q357 := eq_true q357
        go_wp2
        repeat (go_quiet (fail); try go_wp2)
        go_roundg k1
        case measure => have := HK1.out; omega
        case rel => exact ⟨(wrap64 (x5_1 + 1)), rF, H', ⟨by have := HK1.out; omega⟩, by repeat (first | exact Drawn0.refl _ | apply Drawn0.step)⟩
       ·rw [if_neg c7] at H
        have c7b0 : ((rd l0 x5_1) == (rd l1 x5_1)) = false := beq_eq_false_iff_ne.mpr c7
        have c7b1 : ((rd l0 x5_1) != (rd l1 x5_1)) = true := bne_iff_ne.mpr c7
        obtain rfl := Option.some.inj H
        have p356 : 0 ≤ (x5_1 : Int) := of_decide_eq_true (by assumption)
        have q356 : x5_1 < (l0.length : Int) := of_decide_eq_true (by assumption)
        obtain ⟨ad356, e356, hx356_0⟩ := Kd.at_int HR0.out x5_1 p356 q356
        cases e356
        replace p356 := eq_true p356
        replace q356 := eq_true q356
        have p357 : 0 ≤ (x5_1 : Int) := of_decide_eq_true (by assumption)
        have q357 : x5_1 < (l1.length : Int) := of_decide_eq_true (by assumption)
        obtain ⟨ad357, e357, hx357_0⟩ := Kd.at_int HR1.out x5_1 p357 q357
        cases e357
        replace p357 := eq_true p357
        replace q357 := eq_true q357
        go_wp2
        repeat (go_quiet (fail); try go_wp2)
        go_ret
        exact ⟨rF, by repeat (first | exact Drawn0.refl _ | apply Drawn0.step)⟩
      ·rw [if_neg c6] at H
       exact absurd H (by simp)
     ·rw [if_neg c5] at H
      exact absurd H (by simp)
    ·rw [if_neg c4] at H
     have c4b0 : decide (x5_1 < (l0.length : Int)) = false := decide_eq_false c4
     clear c4
     obtain rfl := Option.some.inj H
     go_wp2
     repeat (go_quiet (fail); try go_wp2)
     go_ret
     exact ⟨rF, by repeat (first | exact Drawn0.refl _ | apply Drawn0.step)⟩
 ·rw [if_neg c3] at H
  have c3b0 : ((l0.length : Int) == (l1.length : Int)) = false := beq_eq_false_iff_ne.mpr c3
  have c3b1 : ((l0.length : Int) != (l1.length : Int)) = true := bne_iff_ne.mpr c3
  have c3b2 : (l0.length == l1.length) = false := by first | simpa using c3 | (simp at c3 ⊢; omega)
  obtain rfl := Option.some.inj H
  go_enter Try.func26, Try.ntmps26
  go_wp2
  repeat (go_quiet (fail); try go_wp2)
  go_ret
  exact ⟨rF, by repeat (first | exact Drawn0.refl _ | apply Drawn0.step)⟩

/-! ### laws_markByteS: function 27 -/
def laws_markByteS.l0 : Nat → List Int → Int → Int → Option (Int × List Int)
 | 0, _, _, _ => none
 | k + 1, x0, x1, x5 => if x5 < (x0.length : Int) then (if 0 ≤ x5 then (laws_markByteS.l0 k (x0.set (x5 : Int).toNat ((x1) % 256)) (wrap64 (x1 + 1)) (wrap64 (x5 + 1))) else (none)) else (some (x1, x0))
def laws_markByteS.f (k : Nat) (l0 : List Int) (a1 : Int) : Option (Int × List Int) := laws_markByteS.l0 k l0 a1 0
theorem laws_markByteS.mono_l : ∀ k, (∀ y0 y1 y2, LeO (laws_markByteS.l0 k y0 y1 y2) (laws_markByteS.l0 (k + 1) y0 y1 y2))
 | 0 => fun _ _ _ r h => by simp [laws_markByteS.l0] at h
 | k + 1 => by
  have ih0 := laws_markByteS.mono_l k
  ·intro y0 y1 y2
   unfold laws_markByteS.l0
   repeat' first
   | (with_reducible exact ih0 _ _ _)
   | (with_reducible exact LeO.refl _)
   | (with_reducible exact LeO.none _)
   | (with_reducible refine LeO.ite ?_ ?_)
   | (with_reducible refine LeO.bind ?_ (fun _ => ?_))
   | exact ih0 _ _ _
   | exact LeO.none _
   | refine LeO.ite ?_ ?_
   | refine LeO.bind ?_ (fun _ => ?_)
theorem laws_markByteS.mono : ∀ a0 a1 k, LeO (laws_markByteS.f k a0 a1) (laws_markByteS.f (k + 1) a0 a1) := by
 intro a0 a1 k
 have ih0 := laws_markByteS.mono_l k
 unfold laws_markByteS.f
 repeat' first
   | (with_reducible exact ih0 _ _ _)
   | (with_reducible exact LeO.refl _)
   | (with_reducible exact LeO.none _)
   | (with_reducible refine LeO.ite ?_ ?_)
   | (with_reducible refine LeO.bind ?_ (fun _ => ?_))
   | exact ih0 _ _ _
   | exact LeO.none _
   | refine LeO.ite ?_ ?_
   | refine LeO.bind ?_ (fun _ => ?_)
set_option maxHeartbeats 8000000 in
set_option maxRecDepth 100000 in
theorem laws_markByteS.calls (k : Nat) (P0_ : Nat → Prop) (u9000_ : Value) (l0 : List Int) (a1 : Int) (r1 : Int) (r2 : List Int) (w0 w : World) (hB : Below w0.heap.size w0 w) (ho0 : Kd.R (Kd.int .u8) 5 w w0.heap.size P0_ u9000_ l0) (h : laws_markByteS.f k l0 a1 = some (r1, r2)) :
  Calls Try.prog 27 #[u9000_, .int .i64 a1] w fun e w' => e = .returned (.int .i64 r1) ∧ Kd.R (Kd.int .u8) 5 w' w0.heap.size (fun k_ => (P0_ k_ ∨ w.heap.size ≤ k_)) u9000_ r2 ∧ Below w0.heap.size w0 w' ∧ Kept w w' (fun k_ => P0_ k_) := by
 have HO0 := Aside0.mk (show Kd.R (Kd.int .u8) 5 w w0.heap.size (fun k_ => (P0_ k_ ∨ w.heap.size ≤ k_)) u9000_ l0 from Kd.R_mono ho0 (fun k_ hk => (.inl hk)))
 have HK := Aside0.mk (Kept.refl w (fun k_ => P0_ k_))
 have HW0 := Aside0.mk hB.size
 have HB := Aside0.mk hB
 clear hB
 have H : (laws_markByteS.l0 k l0 a1 0) = some (r1, r2) := h
 clear h
 have H' := Aside0.mk H
 clear H
 go_enter Try.func27, Try.ntmps27
 go_wp2
 go_loopg [1, 5] k (fun kq v1 v5 w' => ∃ (x0_1 : List Int) (x1_1 : Int) (x5_1 : Int), v1 = .int .i64 x1_1 ∧ v5 = .int .i64 x5_1 ∧ Aside0 (laws_markByteS.l0 kq x0_1 x1_1 x5_1 = some (r1, r2)) ∧ Aside0 (kq ≤ k) ∧ Aside0 (Kd.R (Kd.int .u8) 5 w' w0.heap.size (fun k_ => (P0_ k_ ∨ w.heap.size ≤ k_)) u9000_ x0_1) ∧ Aside0 (Kept w w' (fun k_ => P0_ k_)) ∧ Aside0 (Below w0.heap.size w0 w'))
 case atStart => exact ⟨(l0), (a1), (0), rF, rF, H', ⟨Nat.le_refl _⟩, ⟨by (with_reducible repeat (first | apply Kd.R_alloc | apply Kd.R_drewN | apply Kd.R_drew)); exact HO0.out⟩, ⟨by repeat (first | (with_reducible first | exact HK.out | apply Kept.alloc | apply Kept.drewN | apply Kept.drew) | exact HK.out)⟩, ⟨bA⟩⟩
 case round =>
  clear H'
  try clear c2
  try clear p2
  obtain ⟨x0_1, x1_1, x5_1, rfl, rfl, HA, HK1, HO_0, HK, HB⟩ := hrel
  cases gk with
  | zero => exact absurd HA.out (by simp [laws_markByteS.l0])
  | succ k1 =>
   have H := HA.out
   clear HA
   simp only [laws_markByteS.l0] at H
   by_cases c3 : x5_1 < (x0_1.length : Int)
   ·rw [if_pos c3] at H
    have c3b0 : decide (x5_1 < (x0_1.length : Int)) = true := decide_eq_true c3
    clear c3
    by_cases c4 : 0 ≤ x5_1
    ·rw [if_pos c4] at H
     have c4b0 : decide (0 ≤ x5_1) = true := decide_eq_true c4
     clear c4
     obtain ⟨y358, hy358⟩ : ∃ y_ : List Int, y_ = (x0_1.set (x5_1 : Int).toNat ((x1_1) % 256)) := ⟨_, rfl⟩
     replace H : (laws_markByteS.l0 k1 y358 (wrap64 (x1_1 + 1)) (wrap64 (x5_1 + 1))) = some (r1, r2) := by first | (rw [hy358]; with_reducible exact H) | (have H2_ := (Option.bind_some _ _).symm.trans H; rw [hy358]; with_reducible exact H2_) | (have H2_ := (Option.bind_some _ _).symm.trans H; with_reducible exact H2_) | with_reducible exact H | (rw [hy358]; exact H) | exact H
     have Ny358 := Aside0.mk hy358
     clear hy358
     have H' := Aside0.mk H
     clear H
     obtain ⟨Ao6, co6, eo6⟩ := Kd.R_slice HO_0.out
     subst eo6
     have p5 : 0 ≤ (x5_1 : Int) := of_decide_eq_true (by assumption)
     have q5 : (x5_1 : Int) < ((x0_1.length : Int) : Int) := of_decide_eq_true (by assumption)
     obtain ⟨go5, co5, eo5, gb5, gl5, cl5, HG5⟩ := Kd.R_form HO_0.out (by omega)
     (first | cases eo5 | (injection eo5 with ea_ en_ ec_; (first | subst ea_ | (injection ea_ with ea_; subst ea_)); subst ec_; clear en_))
     have GB5 := Aside0.mk gb5
     have GG5 := Aside0.mk HG5
     clear gb5 gl5 HG5
     have HMgo5 := Aside0.mk (show (P0_ go5 ∨ w.heap.size ≤ go5) from (HO_0.out.1 _ rfl))
     obtain ⟨hx5_0, hf5_0⟩ := Kd.R_celln 0 HO_0.out (x5_1 : Int) p5 q5
     replace p5 := eq_true p5
     replace q5 := eq_true q5
     have HP7 := Kd.R_putg HO_0.out (x5_1 : Int) ((x1_1) % 256)
     go_wp2_with (first | ((with_reducible refine gate_store (t := 5) (p := 16) rfl ?_); refine store_event (t := 5) (p := 16) (v := ?vo_w8) (w1 := (wr.setCell ⟨go5, (x5_1 : Int).toNat, none⟩ (.int .u8 ((x1_1) % 256)))) ?hg ?ho ?hn ?hr ?_; (case ho => rfl); (case hg => rfl); (case hn => rfl); (case hr => first | (go_simp; done) | (go_simp; rfl)); intro w8 hw; have hg : wr.grownBy w8 (some go5) := (by rw [hw]; exact HP7.2); have hp_ : Kd.R (Kd.int .u8) 5 w8 w0.heap.size (fun k_ => (P0_ k_ ∨ w.heap.size ≤ k_)) (.slice (some ⟨go5, 0, none⟩) x0_1.length co6) y358 := (by rw [hw, Ny358.out]; exact HP7.1); clear HP7; have n0_ := Aside0.mk (hp_); have n1_ := Aside0.mk ((by rw [hw]; exact below_set (HB.out) GB5.out : Below w0.heap.size w0 w8)); have n2_ := Aside0.mk (Kept.of_grown (S := (fun k_ => P0_ k_)) hg (by repeat (first | (with_reducible first | exact HK.out | apply Kept.alloc | apply Kept.drewN | apply Kept.drew) | exact HK.out)) (fun k_ e_ => (HO_0.out.1 k_ e_))); clear HO_0; clear HB; clear HK; have HO_0 := n0_; have HB := n1_; have HK := n2_; clear n0_ n1_ n2_; clear hg hw hp_))
     go_roundg k1
     case measure => have := HK1.out; omega
     case rel => exact ⟨(y358), (wrap64 (x1_1 + 1)), (wrap64 (x5_1 + 1)), rF, rF, H', ⟨by have := HK1.out; omega⟩, ⟨by (with_reducible repeat (first | apply Kd.R_alloc | apply Kd.R_drewN | apply Kd.R_drew)); exact HO_0.out⟩, ⟨by repeat (first | (with_reducible first | exact HK.out | apply Kept.alloc | apply Kept.drewN | apply Kept.drew) | exact HK.out)⟩, ⟨bA⟩⟩
    ·rw [if_neg c4] at H
     exact absurd H (by simp)
   ·rw [if_neg c3] at H
    have c3b0 : decide (x5_1 < (x0_1.length : Int)) = false := decide_eq_false c3
    clear c3
    simp only [Option.some.injEq, Prod.mk.injEq] at H
    obtain ⟨rfl, rfl⟩ := H
    obtain ⟨Ao9, co9, eo9⟩ := Kd.R_slice HO_0.out
    subst eo9
    go_wp2
    go_ret
    exact ⟨rE, by (with_reducible repeat (first | apply Kd.R_alloc | apply Kd.R_drewN | apply Kd.R_drew)); exact HO_0.out, bA, by repeat (first | (with_reducible first | exact HK.out | apply Kept.alloc | apply Kept.drewN | apply Kept.drew) | exact HK.out)⟩

/-! ### laws_markText: function 61 -/
def laws_markText.l0 : Nat → Int → ByteArray → Option (ByteArray)
 | 0, _, _ => none
 | k + 1, x0, x3 => if x0 > 0 then ((some (([(wrap64 (48 + (Int.tmod x0 10))) % 256] : List Int) : List Int)).bind fun y359 => (if (strOfNums y359).size + x3.size ≤ 9223372036854775807 then (laws_markText.l0 k (wrap64 (Int.tdiv x0 10)) ((strOfNums y359) ++ x3)) else (none))) else (if 1 + x3.size ≤ 9223372036854775807 then (some ((⟨#[109]⟩ : ByteArray) ++ x3)) else (none))
def laws_markText.f (k : Nat) (a0 : Int) : Option (ByteArray) := if a0 ≤ 0 then (some (⟨#[109, 48]⟩ : ByteArray)) else (laws_markText.l0 k a0 (⟨#[]⟩ : ByteArray))
theorem laws_markText.mono_l : ∀ k, (∀ y0 y1, LeO (laws_markText.l0 k y0 y1) (laws_markText.l0 (k + 1) y0 y1))
 | 0 => fun _ _ r h => by simp [laws_markText.l0] at h
 | k + 1 => by
  have ih0 := laws_markText.mono_l k
  ·intro y0 y1
   unfold laws_markText.l0
   repeat' first
   | (with_reducible exact ih0 _ _)
   | (with_reducible exact LeO.refl _)
   | (with_reducible exact LeO.none _)
   | (with_reducible refine LeO.ite ?_ ?_)
   | (with_reducible refine LeO.bind ?_ (fun _ => ?_))
   | exact ih0 _ _
   | exact LeO.none _
   | refine LeO.ite ?_ ?_
   | refine LeO.bind ?_ (fun _ => ?_)
theorem laws_markText.mono : ∀ a0 k, LeO (laws_markText.f k a0) (laws_markText.f (k + 1) a0) := by
 intro a0 k
 have ih0 := laws_markText.mono_l k
 unfold laws_markText.f
 repeat' first
   | (with_reducible exact ih0 _ _)
   | (with_reducible exact LeO.refl _)
   | (with_reducible exact LeO.none _)
   | (with_reducible refine LeO.ite ?_ ?_)
   | (with_reducible refine LeO.bind ?_ (fun _ => ?_))
   | exact ih0 _ _
   | exact LeO.none _
   | refine LeO.ite ?_ ?_
   | refine LeO.bind ?_ (fun _ => ?_)
set_option maxHeartbeats 8000000 in
set_option maxRecDepth 100000 in
theorem laws_markText.calls (k : Nat) (a0 : Int) (r : ByteArray) (w : World) (h : laws_markText.f k a0 = some r) :
  Calls Try.prog 61 #[.int .i64 a0] w fun e w' => e = .returned (.string r) ∧ Below w.heap.size w w' := by
 have HB := Aside0.mk (Below.refl w.heap.size w)
 have H : (if a0 ≤ 0 then (some (⟨#[109, 48]⟩ : ByteArray)) else (laws_markText.l0 k a0 (⟨#[]⟩ : ByteArray))) = some r := h
 clear h
 by_cases c2 : a0 ≤ 0
 ·rw [if_pos c2] at H
  have c2b0 : decide (a0 ≤ 0) = true := decide_eq_true c2
  clear c2
  obtain rfl := Option.some.inj H
  go_enter Try.func61, Try.ntmps61
  go_wp2
  go_ret
  exact ⟨rE, bA⟩
 ·rw [if_neg c2] at H
  have c2b0 : decide (a0 ≤ 0) = false := decide_eq_false c2
  clear c2
  have H' := Aside0.mk H
  clear H
  go_enter Try.func61, Try.ntmps61
  go_wp2
  go_loopg [0, 3] k (fun kq v0 v3 w' => ∃ (x0_1 : Int) (x3_1 : ByteArray), v0 = .int .i64 x0_1 ∧ v3 = .string x3_1 ∧ Aside0 (laws_markText.l0 kq x0_1 x3_1 = some r) ∧ Aside0 (kq ≤ k) ∧ Aside0 (Below w.heap.size w w'))
  case atStart => exact ⟨(a0), ((⟨#[]⟩ : ByteArray)), rF, rF, H', ⟨Nat.le_refl _⟩, ⟨bA⟩⟩
  case round =>
   clear H'
   try clear c2
   try clear c2b0
   try clear p2
   obtain ⟨x0_1, x3_1, rfl, rfl, HA, HK1, HB⟩ := hrel
   cases gk with
   | zero => exact absurd HA.out (by simp [laws_markText.l0])
   | succ k1 =>
    have H := HA.out
    clear HA
    simp only [laws_markText.l0] at H
    by_cases c3 : x0_1 > 0
    ·rw [if_pos c3] at H
     have c3b0 : decide (0 < x0_1) = true := decide_eq_true c3
     clear c3
     obtain ⟨y359, hy359⟩ : ∃ y_ : List Int, y_ = (([(wrap64 (48 + (Int.tmod x0_1 10))) % 256] : List Int)) := ⟨_, rfl⟩
     replace H : (if (strOfNums y359).size + x3_1.size ≤ 9223372036854775807 then (laws_markText.l0 k1 (wrap64 (Int.tdiv x0_1 10)) ((strOfNums y359) ++ x3_1)) else (none)) = some r := by first | (rw [hy359]; with_reducible exact H) | (have H2_ := (Option.bind_some _ _).symm.trans H; rw [hy359]; with_reducible exact H2_) | (have H2_ := (Option.bind_some _ _).symm.trans H; with_reducible exact H2_) | with_reducible exact H | (rw [hy359]; exact H) | exact H
     have Ny359 := Aside0.mk hy359
     clear hy359
     by_cases c4 : (strOfNums y359).size + x3_1.size ≤ 9223372036854775807
     ·rw [if_pos c4] at H
      have c4b0 := eq_true c4
      have c4b1 : decide ((strOfNums y359).size + x3_1.size ≤ 9223372036854775807) = true := decide_eq_true c4
      try have c4b2 : (9223372036854775807 < (strOfNums y359).size + x3_1.size) = False := eq_false (Nat.not_lt.2 c4)
      have H' := Aside0.mk H
      clear H
      go_wp2_with (first | ((with_reducible refine gate_dst (N := 12) rfl ?_); refine Kd.R_lit (Kd.int .u8) _ 5 ?hg (N := 12) ?hd (xs := ([(wrap64 (48 + (Int.tmod x0_1 10))) % 256] : List Int)) (inner := [.int .u8 ((wrap64 (48 + (Int.tmod x0_1 10))) % 256)]) (ok := fun _ => True) (okp := fun _ => True) ?hr ?hp (fun _ hk => hk) trivial (Below.refl _ _) (Nat.le_refl _) (by simp) ?_; (case hd => rfl); (case hg => rfl); (case hr => first | (go_simp; done) | (go_simp; rfl)); (case hp => exact (Reps.one (show Kd.M (Kd.int .u8) _ _ _ ((wrap64 (48 + (Int.tmod x0_1 10))) % 256) [.int .u8 ((wrap64 (48 + (Int.tmod x0_1 10))) % 256)] from rfl) (Reps.none _ _))); intro v360 w5 ho6 hb hg_ hnew_; clear hg_ hnew_; (first | rw [← Ny359.out] at ho6 | (simp only [Int.reduceToNat] at ho6; rw [← Ny359.out] at ho6)); have n0_ := Aside0.mk (Kd.R_lower ho6 (below_size bA)); have n1_ := Aside0.mk (below_step bA hb); clear HB; have HO361 := n0_; have HB := n1_; clear n0_ n1_; clear hb ho6; have hcv7 := own_string (P := Try.prog) Try.underlying39 Try.underlying5 Try.underlying9 (Kd.own_of_R HO361.out)))
      go_roundg k1
      case measure => have := HK1.out; omega
      case rel => exact ⟨(wrap64 (Int.tdiv x0_1 10)), ((strOfNums y359) ++ x3_1), rF, rF, H', ⟨by have := HK1.out; omega⟩, ⟨bA⟩⟩
     ·rw [if_neg c4] at H
      exact absurd H (by simp)
    ·rw [if_neg c3] at H
     have c3b0 : decide (0 < x0_1) = false := decide_eq_false c3
     clear c3
     by_cases c8 : 1 + x3_1.size ≤ 9223372036854775807
     ·rw [if_pos c8] at H
      have c8b0 := eq_true c8
      have c8b1 : decide (1 + x3_1.size ≤ 9223372036854775807) = true := decide_eq_true c8
      try have c8b2 : (9223372036854775807 < 1 + x3_1.size) = False := eq_false (Nat.not_lt.2 c8)
      obtain rfl := Option.some.inj H
      go_wp2
      go_ret
      exact ⟨rE, bA⟩
     ·rw [if_neg c8] at H
      exact absurd H (by simp)

/-! ### laws_markIntS: function 62 -/
def laws_markIntS.l0 : Nat → List Int → Int → Int → Option (Int × List Int)
 | 0, _, _, _ => none
 | k + 1, x0, x1, x5 => if x5 < (x0.length : Int) then (if 0 ≤ x5 then (laws_markIntS.l0 k (x0.set (x5 : Int).toNat x1) (wrap64 (x1 + 1)) (wrap64 (x5 + 1))) else (none)) else (some (x1, x0))
def laws_markIntS.f (k : Nat) (l0 : List Int) (a1 : Int) : Option (Int × List Int) := laws_markIntS.l0 k l0 a1 0
theorem laws_markIntS.mono_l : ∀ k, (∀ y0 y1 y2, LeO (laws_markIntS.l0 k y0 y1 y2) (laws_markIntS.l0 (k + 1) y0 y1 y2))
 | 0 => fun _ _ _ r h => by simp [laws_markIntS.l0] at h
 | k + 1 => by
  have ih0 := laws_markIntS.mono_l k
  ·intro y0 y1 y2
   unfold laws_markIntS.l0
   repeat' first
   | (with_reducible exact ih0 _ _ _)
   | (with_reducible exact LeO.refl _)
   | (with_reducible exact LeO.none _)
   | (with_reducible refine LeO.ite ?_ ?_)
   | (with_reducible refine LeO.bind ?_ (fun _ => ?_))
   | exact ih0 _ _ _
   | exact LeO.none _
   | refine LeO.ite ?_ ?_
   | refine LeO.bind ?_ (fun _ => ?_)
theorem laws_markIntS.mono : ∀ a0 a1 k, LeO (laws_markIntS.f k a0 a1) (laws_markIntS.f (k + 1) a0 a1) := by
 intro a0 a1 k
 have ih0 := laws_markIntS.mono_l k
 unfold laws_markIntS.f
 repeat' first
   | (with_reducible exact ih0 _ _ _)
   | (with_reducible exact LeO.refl _)
   | (with_reducible exact LeO.none _)
   | (with_reducible refine LeO.ite ?_ ?_)
   | (with_reducible refine LeO.bind ?_ (fun _ => ?_))
   | exact ih0 _ _ _
   | exact LeO.none _
   | refine LeO.ite ?_ ?_
   | refine LeO.bind ?_ (fun _ => ?_)
set_option maxHeartbeats 8000000 in
set_option maxRecDepth 100000 in
theorem laws_markIntS.calls (k : Nat) (P0_ : Nat → Prop) (u9000_ : Value) (l0 : List Int) (a1 : Int) (r1 : Int) (r2 : List Int) (w0 w : World) (hB : Below w0.heap.size w0 w) (ho0 : Kd.R (Kd.int .i64) 3 w w0.heap.size P0_ u9000_ l0) (h : laws_markIntS.f k l0 a1 = some (r1, r2)) :
  Calls Try.prog 62 #[u9000_, .int .i64 a1] w fun e w' => e = .returned (.int .i64 r1) ∧ Kd.R (Kd.int .i64) 3 w' w0.heap.size (fun k_ => (P0_ k_ ∨ w.heap.size ≤ k_)) u9000_ r2 ∧ Below w0.heap.size w0 w' ∧ Kept w w' (fun k_ => P0_ k_) := by
 have HO0 := Aside0.mk (show Kd.R (Kd.int .i64) 3 w w0.heap.size (fun k_ => (P0_ k_ ∨ w.heap.size ≤ k_)) u9000_ l0 from Kd.R_mono ho0 (fun k_ hk => (.inl hk)))
 have HK := Aside0.mk (Kept.refl w (fun k_ => P0_ k_))
 have HW0 := Aside0.mk hB.size
 have HB := Aside0.mk hB
 clear hB
 have H : (laws_markIntS.l0 k l0 a1 0) = some (r1, r2) := h
 clear h
 have H' := Aside0.mk H
 clear H
 go_enter Try.func62, Try.ntmps62
 go_wp2
 go_loopg [1, 5] k (fun kq v1 v5 w' => ∃ (x0_1 : List Int) (x1_1 : Int) (x5_1 : Int), v1 = .int .i64 x1_1 ∧ v5 = .int .i64 x5_1 ∧ Aside0 (laws_markIntS.l0 kq x0_1 x1_1 x5_1 = some (r1, r2)) ∧ Aside0 (kq ≤ k) ∧ Aside0 (Kd.R (Kd.int .i64) 3 w' w0.heap.size (fun k_ => (P0_ k_ ∨ w.heap.size ≤ k_)) u9000_ x0_1) ∧ Aside0 (Kept w w' (fun k_ => P0_ k_)) ∧ Aside0 (Below w0.heap.size w0 w'))
 case atStart => exact ⟨(l0), (a1), (0), rF, rF, H', ⟨Nat.le_refl _⟩, ⟨by (with_reducible repeat (first | apply Kd.R_alloc | apply Kd.R_drewN | apply Kd.R_drew)); exact HO0.out⟩, ⟨by repeat (first | (with_reducible first | exact HK.out | apply Kept.alloc | apply Kept.drewN | apply Kept.drew) | exact HK.out)⟩, ⟨bA⟩⟩
 case round =>
  clear H'
  try clear p2
  obtain ⟨x0_1, x1_1, x5_1, rfl, rfl, HA, HK1, HO_0, HK, HB⟩ := hrel
  cases gk with
  | zero => exact absurd HA.out (by simp [laws_markIntS.l0])
  | succ k1 =>
   have H := HA.out
   clear HA
   simp only [laws_markIntS.l0] at H
   by_cases c3 : x5_1 < (x0_1.length : Int)
   ·rw [if_pos c3] at H
    have c3b0 : decide (x5_1 < (x0_1.length : Int)) = true := decide_eq_true c3
    clear c3
    by_cases c4 : 0 ≤ x5_1
    ·rw [if_pos c4] at H
     have c4b0 : decide (0 ≤ x5_1) = true := decide_eq_true c4
     clear c4
     obtain ⟨y362, hy362⟩ : ∃ y_ : List Int, y_ = (x0_1.set (x5_1 : Int).toNat x1_1) := ⟨_, rfl⟩
     replace H : (laws_markIntS.l0 k1 y362 (wrap64 (x1_1 + 1)) (wrap64 (x5_1 + 1))) = some (r1, r2) := by first | (rw [hy362]; with_reducible exact H) | (have H2_ := (Option.bind_some _ _).symm.trans H; rw [hy362]; with_reducible exact H2_) | (have H2_ := (Option.bind_some _ _).symm.trans H; with_reducible exact H2_) | with_reducible exact H | (rw [hy362]; exact H) | exact H
     have Ny362 := Aside0.mk hy362
     clear hy362
     have H' := Aside0.mk H
     clear H
     obtain ⟨Ao6, co6, eo6⟩ := Kd.R_slice HO_0.out
     subst eo6
     have p5 : 0 ≤ (x5_1 : Int) := of_decide_eq_true (by assumption)
     have q5 : (x5_1 : Int) < ((x0_1.length : Int) : Int) := of_decide_eq_true (by assumption)
     obtain ⟨go5, co5, eo5, gb5, gl5, cl5, HG5⟩ := Kd.R_form HO_0.out (by omega)
     (first | cases eo5 | (injection eo5 with ea_ en_ ec_; (first | subst ea_ | (injection ea_ with ea_; subst ea_)); subst ec_; clear en_))
     have GB5 := Aside0.mk gb5
     have GG5 := Aside0.mk HG5
     clear gb5 gl5 HG5
     have HMgo5 := Aside0.mk (show (P0_ go5 ∨ w.heap.size ≤ go5) from (HO_0.out.1 _ rfl))
     obtain ⟨hx5_0, hf5_0⟩ := Kd.R_celln 0 HO_0.out (x5_1 : Int) p5 q5
     replace p5 := eq_true p5
     replace q5 := eq_true q5
     have HP7 := Kd.R_putg HO_0.out (x5_1 : Int) x1_1
     go_wp2_with (first | ((with_reducible refine gate_store (t := 3) (p := 15) rfl ?_); refine store_event (t := 3) (p := 15) (v := ?vo_w8) (w1 := (wr.setCell ⟨go5, (x5_1 : Int).toNat, none⟩ (.int .i64 x1_1))) ?hg ?ho ?hn ?hr ?_; (case ho => rfl); (case hg => rfl); (case hn => rfl); (case hr => first | (go_simp; done) | (go_simp; rfl)); intro w8 hw; have hg : wr.grownBy w8 (some go5) := (by rw [hw]; exact HP7.2); have hp_ : Kd.R (Kd.int .i64) 3 w8 w0.heap.size (fun k_ => (P0_ k_ ∨ w.heap.size ≤ k_)) (.slice (some ⟨go5, 0, none⟩) x0_1.length co6) y362 := (by rw [hw, Ny362.out]; exact HP7.1); clear HP7; have n0_ := Aside0.mk (hp_); have n1_ := Aside0.mk ((by rw [hw]; exact below_set (HB.out) GB5.out : Below w0.heap.size w0 w8)); have n2_ := Aside0.mk (Kept.of_grown (S := (fun k_ => P0_ k_)) hg (by repeat (first | (with_reducible first | exact HK.out | apply Kept.alloc | apply Kept.drewN | apply Kept.drew) | exact HK.out)) (fun k_ e_ => (HO_0.out.1 k_ e_))); clear HO_0; clear HB; clear HK; have HO_0 := n0_; have HB := n1_; have HK := n2_; clear n0_ n1_ n2_; clear hg hw hp_))
     go_roundg k1
     case measure => have := HK1.out; omega
     case rel => exact ⟨(y362), (wrap64 (x1_1 + 1)), (wrap64 (x5_1 + 1)), rF, rF, H', ⟨by have := HK1.out; omega⟩, ⟨by (with_reducible repeat (first | apply Kd.R_alloc | apply Kd.R_drewN | apply Kd.R_drew)); exact HO_0.out⟩, ⟨by repeat (first | (with_reducible first | exact HK.out | apply Kept.alloc | apply Kept.drewN | apply Kept.drew) | exact HK.out)⟩, ⟨bA⟩⟩
    ·rw [if_neg c4] at H
     exact absurd H (by simp)
   ·rw [if_neg c3] at H
    have c3b0 : decide (x5_1 < (x0_1.length : Int)) = false := decide_eq_false c3
    clear c3
    simp only [Option.some.injEq, Prod.mk.injEq] at H
    obtain ⟨rfl, rfl⟩ := H
    obtain ⟨Ao9, co9, eo9⟩ := Kd.R_slice HO_0.out
    subst eo9
    go_wp2
    go_ret
    exact ⟨rE, by (with_reducible repeat (first | apply Kd.R_alloc | apply Kd.R_drewN | apply Kd.R_drew)); exact HO_0.out, bA, by repeat (first | (with_reducible first | exact HK.out | apply Kept.alloc | apply Kept.drewN | apply Kept.drew) | exact HK.out)⟩

/-! ### laws_markNodeS: function 28 -/
def laws_markNodeS.row (x0 : List (S62)) (i : Int) : (S62) := x0.getD i.toNat z62
def laws_markNodeS.elem (x1 : Int) (t : ByteArray) (l : List Int) : (S62) := ⟨x1, t, (wrap64 ((wrap64 (x1 + 1)) + 1)), (wrap64 ((wrap64 ((wrap64 (x1 + 1)) + 1)) + 1)), (wrap64 ((wrap64 ((wrap64 ((wrap64 (x1 + 1)) + 1)) + 1)) + 1)), (Int.tmod (wrap64 ((wrap64 ((wrap64 ((wrap64 ((wrap64 (x1 + 1)) + 1)) + 1)) + 1)) + 1)) 3 == 0), l⟩
def laws_markNodeS.l0 : Nat → List (S62) → Int → Int → Option (Int × List (S62))
 | 0, _, _, _ => none
 | k + 1, x0, x1, x5 => if x5 < (x0.length : Int) then (if 0 ≤ x5 then ((laws_markText.f k (wrap64 (x1 + 1))).bind fun t => ((laws_markIntS.f k (laws_markNodeS.row x0 x5).f6 (wrap64 ((wrap64 ((wrap64 ((wrap64 ((wrap64 ((wrap64 (x1 + 1)) + 1)) + 1)) + 1)) + 1)) + 1))).bind fun bt => (laws_markNodeS.l0 k (x0.set x5.toNat (laws_markNodeS.elem x1 t bt.2)) bt.1 (wrap64 (x5 + 1))))) else (none)) else (some (x1, x0))
def laws_markNodeS.f (k : Nat) (l0 : List (S62)) (a1 : Int) : Option (Int × List (S62)) := laws_markNodeS.l0 k l0 a1 0
set_option maxHeartbeats 16000000 in
set_option maxRecDepth 100000 in
theorem laws_markNodeS.calls (k : Nat) (P0_ : Nat → Prop) (u9000_ : Value) (l0 : List (S62)) (a1 : Int) (r1 : Int) (r2 : List (S62)) (w0 w : World) (hB : Below w0.heap.size w0 w) (ho0 : Kd.S k62 62 w w0.heap.size P0_ u9000_ l0) (h : laws_markNodeS.f k l0 a1 = some (r1, r2)) :
  Calls Try.prog 28 #[u9000_, .int .i64 a1] w fun e w' => e = .returned (.int .i64 r1) ∧ Kd.S k62 62 w' w0.heap.size P0_ u9000_ r2 ∧ Below w0.heap.size w0 w' ∧ Kept w w' P0_ := by
 have HO0 := Aside0.mk ho0
 have HK := Aside0.mk (Kept.refl w P0_)
 have HB := Aside0.mk hB
 clear hB ho0
 have H' : Aside0 (laws_markNodeS.l0 k l0 a1 0 = some (r1, r2)) := ⟨h⟩
 clear h
 go_enter Try.func28, Try.ntmps28
 go_wp2
 go_loopg [1, 5] k (fun kq v1 v5 w' => ∃ (x0_1 : List (S62)) (x1_1 : Int) (x5_1 : Int), v1 = .int .i64 x1_1 ∧ v5 = .int .i64 x5_1 ∧ Aside0 (laws_markNodeS.l0 kq x0_1 x1_1 x5_1 = some (r1, r2)) ∧ Aside0 (kq ≤ k) ∧ Aside0 (Kd.S k62 62 w' w0.heap.size P0_ u9000_ x0_1) ∧ Aside0 (Kept w w' P0_) ∧ Aside0 (Below w0.heap.size w0 w'))
 case atStart => exact ⟨l0, a1, 0, rF, rF, H', ⟨Nat.le_refl _⟩, ⟨by (with_reducible repeat (first | apply Kd.S_alloc | apply Kd.S_drewN | apply Kd.S_drew)); exact HO0.out⟩, ⟨by repeat (first | (with_reducible first | exact HK.out | apply Kept.alloc | apply Kept.drewN | apply Kept.drew) | exact HK.out)⟩, ⟨bA⟩⟩
 case round =>
  clear H'
  obtain ⟨x0_1, x1_1, x5_1, rfl, rfl, HA, HK1, HO_0, HK, HB⟩ := hrel
  cases gk with
  | zero => exact absurd HA.out (by simp [laws_markNodeS.l0])
  | succ k1 =>
   have H := HA.out
   clear HA
   simp only [laws_markNodeS.l0] at H
   by_cases c3 : x5_1 < (x0_1.length : Int)
   ·rw [if_pos c3] at H
    have c3b0 : decide (x5_1 < (x0_1.length : Int)) = true := decide_eq_true c3
    by_cases c4 : 0 ≤ x5_1
    ·rw [if_pos c4] at H
     have c4b0 : decide (0 ≤ x5_1) = true := decide_eq_true c4
     obtain ⟨tn, A30, H⟩ := Option.bind_eq_some_iff.mp H
     have A3 := Aside0.mk A30
     clear A30
     obtain ⟨⟨t1, t2⟩, A40, H⟩ := Option.bind_eq_some_iff.mp H
     have A4 := Aside0.mk A40
     clear A40
     have H' := Aside0.mk H
     clear H
     obtain ⟨go5, co5, eo5, gb5, gl5, cl5, HG5⟩ := Kd.S_form HO_0.out (by omega)
     subst eo5
     obtain ⟨oki, ce, hcl, hM, hcc, hfr, hoki, hH⟩ := Kd.S_elem HO_0.out z62 x5_1 c4 c3
     replace hM : k62.M wr w0.heap.size oki (laws_markNodeS.row x0_1 x5_1) ce := hM
     obtain ⟨ve6, hce, hR⟩ := k62_openM hM
     subst hce
     have PG5 := Aside0.mk (show P0_ go5 from (Kd.S_R HO_0.out).1 go5 rfl)
     have GB5 := Aside0.mk gb5
     have HR5 := Aside0.mk hR
     have HH5 := Aside0.mk hH
     have HOK := Aside0.mk hoki
     have P5 := Aside0.mk c4
     have Q5 := Aside0.mk c3
     have p5 := eq_true c4
     have q5 := eq_true c3
     have hx5_0 : wr.cell? ⟨go5, (x5_1 : Int).toNat * 7, none⟩ = some (.int .i64 (laws_markNodeS.row x0_1 x5_1).f0) := hcc 0 _ rfl
     have hf5_0 : wr.frozen? ⟨go5, (x5_1 : Int).toNat * 7, none⟩ = false := hfr 0
     have hx5_1 : wr.cell? ⟨go5, (x5_1 : Int).toNat * 7 + 1, none⟩ = some (.string (laws_markNodeS.row x0_1 x5_1).f1) := hcc 1 _ rfl
     have hf5_1 : wr.frozen? ⟨go5, (x5_1 : Int).toNat * 7 + 1, none⟩ = false := hfr 1
     have hx5_2 : wr.cell? ⟨go5, (x5_1 : Int).toNat * 7 + 2, none⟩ = some (.int .i64 (laws_markNodeS.row x0_1 x5_1).f2) := hcc 2 _ rfl
     have hf5_2 : wr.frozen? ⟨go5, (x5_1 : Int).toNat * 7 + 2, none⟩ = false := hfr 2
     have hx5_3 : wr.cell? ⟨go5, (x5_1 : Int).toNat * 7 + 3, none⟩ = some (.int .i64 (laws_markNodeS.row x0_1 x5_1).f3) := hcc 3 _ rfl
     have hf5_3 : wr.frozen? ⟨go5, (x5_1 : Int).toNat * 7 + 3, none⟩ = false := hfr 3
     have hx5_4 : wr.cell? ⟨go5, (x5_1 : Int).toNat * 7 + 4, none⟩ = some (.int .i64 (laws_markNodeS.row x0_1 x5_1).f4) := hcc 4 _ rfl
     have hf5_4 : wr.frozen? ⟨go5, (x5_1 : Int).toNat * 7 + 4, none⟩ = false := hfr 4
     have hx5_5 : wr.cell? ⟨go5, (x5_1 : Int).toNat * 7 + 5, none⟩ = some (.bool (laws_markNodeS.row x0_1 x5_1).f5) := hcc 5 _ rfl
     have hf5_5 : wr.frozen? ⟨go5, (x5_1 : Int).toNat * 7 + 5, none⟩ = false := hfr 5
     have hx5_6 : wr.cell? ⟨go5, (x5_1 : Int).toNat * 7 + 6, none⟩ = some (ve6) := hcc 6 _ rfl
     have hf5_6 : wr.frozen? ⟨go5, (x5_1 : Int).toNat * 7 + 6, none⟩ = false := hfr 6
     clear gb5 gl5 HG5 hcc hfr hcl hR hH hoki c3 c4 HO_0
     go_wp2_with (first | ((with_reducible refine gate_store (t := 3) (p := 16) rfl ?_); refine store_event (t := 3) (p := 16) (v := ?vo_wa) (w1 := (wr.setCell ⟨go5, (x5_1 : Int).toNat * 7, none⟩ (.int .i64 x1_1))) ?hg ?ho ?hn ?hr ?_; (case ho => rfl); (case hg => rfl); (case hn => rfl); (case hr => first | (go_simp; done) | (go_simp; rfl)); intro wa hw; have hs_ := Kd.H_seg HH5.out P5.out Q5.out (seg := [.int .i64 x1_1]) (j := 0) (by show 1 ≤ 7; omega) (by intro q hq; rw [List.mem_singleton.1 hq]; rfl); have hg : wr.grownBy wa (some go5) := (by rw [hw]; exact hs_.2); have n0_ : Aside0 (Kd.H k62 62 wa w0.heap.size P0_ (.slice (some ⟨go5, 0, none⟩) x0_1.length co5) x0_1 x5_1 oki [.int .i64 x1_1, .string (laws_markNodeS.row x0_1 x5_1).f1, .int .i64 (laws_markNodeS.row x0_1 x5_1).f2, .int .i64 (laws_markNodeS.row x0_1 x5_1).f3, .int .i64 (laws_markNodeS.row x0_1 x5_1).f4, .bool (laws_markNodeS.row x0_1 x5_1).f5, ve6]) := ⟨by rw [hw]; exact hs_.1⟩; have n1_ : Aside0 ((Kd.int .i64).R 3 wa w0.heap.size oki ve6 (laws_markNodeS.row x0_1 x5_1).f6) := ⟨by rw [hw]; exact Kd.R_far HR5.out (p := ⟨go5, (x5_1 : Int).toNat * 7, none⟩) (fun k_ hk_ => (HOK.out k_ hk_).2) _⟩; have n2_ : Aside0 (Below w0.heap.size w0 wa) := ⟨by rw [hw]; exact below_set HB.out GB5.out⟩; have n3_ : Aside0 (Kept w wa P0_) := ⟨by rw [hw]; exact Kept.setCell HK.out (.inl PG5.out) _⟩; clear HH5 HR5 HB HK hs_ hw hg; clear hx5_0 hf5_0 hx5_1 hf5_1 hx5_2 hf5_2 hx5_3 hf5_3 hx5_4 hf5_4 hx5_5 hf5_5 hx5_6 hf5_6; have HH5 := n0_; have HR5 := n1_; have HB := n2_; have HK := n3_; clear n0_ n1_ n2_ n3_; obtain ⟨hcc, hfr⟩ := Kd.H_at HH5.out P5.out Q5.out; have hx5_0 : wa.cell? ⟨go5, (x5_1 : Int).toNat * 7, none⟩ = some (.int .i64 x1_1) := hcc 0 _ rfl; have hf5_0 : wa.frozen? ⟨go5, (x5_1 : Int).toNat * 7, none⟩ = false := hfr 0; have hx5_1 : wa.cell? ⟨go5, (x5_1 : Int).toNat * 7 + 1, none⟩ = some (.string (laws_markNodeS.row x0_1 x5_1).f1) := hcc 1 _ rfl; have hf5_1 : wa.frozen? ⟨go5, (x5_1 : Int).toNat * 7 + 1, none⟩ = false := hfr 1; have hx5_2 : wa.cell? ⟨go5, (x5_1 : Int).toNat * 7 + 2, none⟩ = some (.int .i64 (laws_markNodeS.row x0_1 x5_1).f2) := hcc 2 _ rfl; have hf5_2 : wa.frozen? ⟨go5, (x5_1 : Int).toNat * 7 + 2, none⟩ = false := hfr 2; have hx5_3 : wa.cell? ⟨go5, (x5_1 : Int).toNat * 7 + 3, none⟩ = some (.int .i64 (laws_markNodeS.row x0_1 x5_1).f3) := hcc 3 _ rfl; have hf5_3 : wa.frozen? ⟨go5, (x5_1 : Int).toNat * 7 + 3, none⟩ = false := hfr 3; have hx5_4 : wa.cell? ⟨go5, (x5_1 : Int).toNat * 7 + 4, none⟩ = some (.int .i64 (laws_markNodeS.row x0_1 x5_1).f4) := hcc 4 _ rfl; have hf5_4 : wa.frozen? ⟨go5, (x5_1 : Int).toNat * 7 + 4, none⟩ = false := hfr 4; have hx5_5 : wa.cell? ⟨go5, (x5_1 : Int).toNat * 7 + 5, none⟩ = some (.bool (laws_markNodeS.row x0_1 x5_1).f5) := hcc 5 _ rfl; have hf5_5 : wa.frozen? ⟨go5, (x5_1 : Int).toNat * 7 + 5, none⟩ = false := hfr 5; have hx5_6 : wa.cell? ⟨go5, (x5_1 : Int).toNat * 7 + 6, none⟩ = some (ve6) := hcc 6 _ rfl; have hf5_6 : wa.frozen? ⟨go5, (x5_1 : Int).toNat * 7 + 6, none⟩ = false := hfr 6; clear hcc hfr) | (go_at_call 61; (with_reducible refine (laws_markText.calls k1 (wrap64 (x1_1 + 1)) tn _ A3.out).mono ?_); rintro e wb ⟨rfl, hb⟩; have n0_ : Aside0 (Kd.H k62 62 wb w0.heap.size P0_ (.slice (some ⟨go5, 0, none⟩) x0_1.length co5) x0_1 x5_1 oki [.int .i64 x1_1, .string (laws_markNodeS.row x0_1 x5_1).f1, .int .i64 (laws_markNodeS.row x0_1 x5_1).f2, .int .i64 (laws_markNodeS.row x0_1 x5_1).f3, .int .i64 (laws_markNodeS.row x0_1 x5_1).f4, .bool (laws_markNodeS.row x0_1 x5_1).f5, ve6]) := ⟨Kd.H_below HH5.out hb⟩; have n1_ := Aside0.mk (Kd.R_below HR5.out hb); have n2_ := Aside0.mk (below_step HB.out hb); have n3_ := Aside0.mk (Kept.below HK.out hb); clear HH5 HR5 HB HK hb; clear hx5_0 hf5_0 hx5_1 hf5_1 hx5_2 hf5_2 hx5_3 hf5_3 hx5_4 hf5_4 hx5_5 hf5_5 hx5_6 hf5_6; have HH5 := n0_; have HR5 := n1_; have HB := n2_; have HK := n3_; clear n0_ n1_ n2_ n3_; obtain ⟨hcc, hfr⟩ := Kd.H_at HH5.out P5.out Q5.out; have hx5_0 : wb.cell? ⟨go5, (x5_1 : Int).toNat * 7, none⟩ = some (.int .i64 x1_1) := hcc 0 _ rfl; have hf5_0 : wb.frozen? ⟨go5, (x5_1 : Int).toNat * 7, none⟩ = false := hfr 0; have hx5_1 : wb.cell? ⟨go5, (x5_1 : Int).toNat * 7 + 1, none⟩ = some (.string (laws_markNodeS.row x0_1 x5_1).f1) := hcc 1 _ rfl; have hf5_1 : wb.frozen? ⟨go5, (x5_1 : Int).toNat * 7 + 1, none⟩ = false := hfr 1; have hx5_2 : wb.cell? ⟨go5, (x5_1 : Int).toNat * 7 + 2, none⟩ = some (.int .i64 (laws_markNodeS.row x0_1 x5_1).f2) := hcc 2 _ rfl; have hf5_2 : wb.frozen? ⟨go5, (x5_1 : Int).toNat * 7 + 2, none⟩ = false := hfr 2; have hx5_3 : wb.cell? ⟨go5, (x5_1 : Int).toNat * 7 + 3, none⟩ = some (.int .i64 (laws_markNodeS.row x0_1 x5_1).f3) := hcc 3 _ rfl; have hf5_3 : wb.frozen? ⟨go5, (x5_1 : Int).toNat * 7 + 3, none⟩ = false := hfr 3; have hx5_4 : wb.cell? ⟨go5, (x5_1 : Int).toNat * 7 + 4, none⟩ = some (.int .i64 (laws_markNodeS.row x0_1 x5_1).f4) := hcc 4 _ rfl; have hf5_4 : wb.frozen? ⟨go5, (x5_1 : Int).toNat * 7 + 4, none⟩ = false := hfr 4; have hx5_5 : wb.cell? ⟨go5, (x5_1 : Int).toNat * 7 + 5, none⟩ = some (.bool (laws_markNodeS.row x0_1 x5_1).f5) := hcc 5 _ rfl; have hf5_5 : wb.frozen? ⟨go5, (x5_1 : Int).toNat * 7 + 5, none⟩ = false := hfr 5; have hx5_6 : wb.cell? ⟨go5, (x5_1 : Int).toNat * 7 + 6, none⟩ = some (ve6) := hcc 6 _ rfl; have hf5_6 : wb.frozen? ⟨go5, (x5_1 : Int).toNat * 7 + 6, none⟩ = false := hfr 6; clear hcc hfr) | ((with_reducible refine gate_store (t := 9) (p := 24) rfl ?_); refine store_event (t := 9) (p := 24) (v := ?vo_wc) (w1 := (wb.setCell ⟨go5, (x5_1 : Int).toNat * 7 + 1, none⟩ (.string tn))) ?hg ?ho ?hn ?hr ?_; (case ho => rfl); (case hg => rfl); (case hn => rfl); (case hr => first | (go_simp; done) | (go_simp; rfl)); intro wc hw; have hs_ := Kd.H_seg HH5.out P5.out Q5.out (seg := [.string tn]) (j := 1) (by show 2 ≤ 7; omega) (by intro q hq; rw [List.mem_singleton.1 hq]; rfl); have hg : wb.grownBy wc (some go5) := (by rw [hw]; exact hs_.2); have n0_ : Aside0 (Kd.H k62 62 wc w0.heap.size P0_ (.slice (some ⟨go5, 0, none⟩) x0_1.length co5) x0_1 x5_1 oki [.int .i64 x1_1, .string tn, .int .i64 (laws_markNodeS.row x0_1 x5_1).f2, .int .i64 (laws_markNodeS.row x0_1 x5_1).f3, .int .i64 (laws_markNodeS.row x0_1 x5_1).f4, .bool (laws_markNodeS.row x0_1 x5_1).f5, ve6]) := ⟨by rw [hw]; exact hs_.1⟩; have n1_ : Aside0 ((Kd.int .i64).R 3 wc w0.heap.size oki ve6 (laws_markNodeS.row x0_1 x5_1).f6) := ⟨by rw [hw]; exact Kd.R_far HR5.out (p := ⟨go5, (x5_1 : Int).toNat * 7 + 1, none⟩) (fun k_ hk_ => (HOK.out k_ hk_).2) _⟩; have n2_ : Aside0 (Below w0.heap.size w0 wc) := ⟨by rw [hw]; exact below_set HB.out GB5.out⟩; have n3_ : Aside0 (Kept w wc P0_) := ⟨by rw [hw]; exact Kept.setCell HK.out (.inl PG5.out) _⟩; clear HH5 HR5 HB HK hs_ hw hg; clear hx5_0 hf5_0 hx5_1 hf5_1 hx5_2 hf5_2 hx5_3 hf5_3 hx5_4 hf5_4 hx5_5 hf5_5 hx5_6 hf5_6; have HH5 := n0_; have HR5 := n1_; have HB := n2_; have HK := n3_; clear n0_ n1_ n2_ n3_; obtain ⟨hcc, hfr⟩ := Kd.H_at HH5.out P5.out Q5.out; have hx5_0 : wc.cell? ⟨go5, (x5_1 : Int).toNat * 7, none⟩ = some (.int .i64 x1_1) := hcc 0 _ rfl; have hf5_0 : wc.frozen? ⟨go5, (x5_1 : Int).toNat * 7, none⟩ = false := hfr 0; have hx5_1 : wc.cell? ⟨go5, (x5_1 : Int).toNat * 7 + 1, none⟩ = some (.string tn) := hcc 1 _ rfl; have hf5_1 : wc.frozen? ⟨go5, (x5_1 : Int).toNat * 7 + 1, none⟩ = false := hfr 1; have hx5_2 : wc.cell? ⟨go5, (x5_1 : Int).toNat * 7 + 2, none⟩ = some (.int .i64 (laws_markNodeS.row x0_1 x5_1).f2) := hcc 2 _ rfl; have hf5_2 : wc.frozen? ⟨go5, (x5_1 : Int).toNat * 7 + 2, none⟩ = false := hfr 2; have hx5_3 : wc.cell? ⟨go5, (x5_1 : Int).toNat * 7 + 3, none⟩ = some (.int .i64 (laws_markNodeS.row x0_1 x5_1).f3) := hcc 3 _ rfl; have hf5_3 : wc.frozen? ⟨go5, (x5_1 : Int).toNat * 7 + 3, none⟩ = false := hfr 3; have hx5_4 : wc.cell? ⟨go5, (x5_1 : Int).toNat * 7 + 4, none⟩ = some (.int .i64 (laws_markNodeS.row x0_1 x5_1).f4) := hcc 4 _ rfl; have hf5_4 : wc.frozen? ⟨go5, (x5_1 : Int).toNat * 7 + 4, none⟩ = false := hfr 4; have hx5_5 : wc.cell? ⟨go5, (x5_1 : Int).toNat * 7 + 5, none⟩ = some (.bool (laws_markNodeS.row x0_1 x5_1).f5) := hcc 5 _ rfl; have hf5_5 : wc.frozen? ⟨go5, (x5_1 : Int).toNat * 7 + 5, none⟩ = false := hfr 5; have hx5_6 : wc.cell? ⟨go5, (x5_1 : Int).toNat * 7 + 6, none⟩ = some (ve6) := hcc 6 _ rfl; have hf5_6 : wc.frozen? ⟨go5, (x5_1 : Int).toNat * 7 + 6, none⟩ = false := hfr 6; clear hcc hfr) | ((with_reducible refine gate_store (t := 3) (p := 31) rfl ?_); refine store_event (t := 3) (p := 31) (v := ?vo_wd) (w1 := (wc.setCell ⟨go5, (x5_1 : Int).toNat * 7 + 2, none⟩ (.int .i64 (wrap64 ((wrap64 (x1_1 + 1)) + 1))))) ?hg ?ho ?hn ?hr ?_; (case ho => rfl); (case hg => rfl); (case hn => rfl); (case hr => first | (go_simp; done) | (go_simp; rfl)); intro wd hw; have hs_ := Kd.H_seg HH5.out P5.out Q5.out (seg := [.int .i64 (wrap64 ((wrap64 (x1_1 + 1)) + 1))]) (j := 2) (by show 3 ≤ 7; omega) (by intro q hq; rw [List.mem_singleton.1 hq]; rfl); have hg : wc.grownBy wd (some go5) := (by rw [hw]; exact hs_.2); have n0_ : Aside0 (Kd.H k62 62 wd w0.heap.size P0_ (.slice (some ⟨go5, 0, none⟩) x0_1.length co5) x0_1 x5_1 oki [.int .i64 x1_1, .string tn, .int .i64 (wrap64 ((wrap64 (x1_1 + 1)) + 1)), .int .i64 (laws_markNodeS.row x0_1 x5_1).f3, .int .i64 (laws_markNodeS.row x0_1 x5_1).f4, .bool (laws_markNodeS.row x0_1 x5_1).f5, ve6]) := ⟨by rw [hw]; exact hs_.1⟩; have n1_ : Aside0 ((Kd.int .i64).R 3 wd w0.heap.size oki ve6 (laws_markNodeS.row x0_1 x5_1).f6) := ⟨by rw [hw]; exact Kd.R_far HR5.out (p := ⟨go5, (x5_1 : Int).toNat * 7 + 2, none⟩) (fun k_ hk_ => (HOK.out k_ hk_).2) _⟩; have n2_ : Aside0 (Below w0.heap.size w0 wd) := ⟨by rw [hw]; exact below_set HB.out GB5.out⟩; have n3_ : Aside0 (Kept w wd P0_) := ⟨by rw [hw]; exact Kept.setCell HK.out (.inl PG5.out) _⟩; clear HH5 HR5 HB HK hs_ hw hg; clear hx5_0 hf5_0 hx5_1 hf5_1 hx5_2 hf5_2 hx5_3 hf5_3 hx5_4 hf5_4 hx5_5 hf5_5 hx5_6 hf5_6; have HH5 := n0_; have HR5 := n1_; have HB := n2_; have HK := n3_; clear n0_ n1_ n2_ n3_; obtain ⟨hcc, hfr⟩ := Kd.H_at HH5.out P5.out Q5.out; have hx5_0 : wd.cell? ⟨go5, (x5_1 : Int).toNat * 7, none⟩ = some (.int .i64 x1_1) := hcc 0 _ rfl; have hf5_0 : wd.frozen? ⟨go5, (x5_1 : Int).toNat * 7, none⟩ = false := hfr 0; have hx5_1 : wd.cell? ⟨go5, (x5_1 : Int).toNat * 7 + 1, none⟩ = some (.string tn) := hcc 1 _ rfl; have hf5_1 : wd.frozen? ⟨go5, (x5_1 : Int).toNat * 7 + 1, none⟩ = false := hfr 1; have hx5_2 : wd.cell? ⟨go5, (x5_1 : Int).toNat * 7 + 2, none⟩ = some (.int .i64 (wrap64 ((wrap64 (x1_1 + 1)) + 1))) := hcc 2 _ rfl; have hf5_2 : wd.frozen? ⟨go5, (x5_1 : Int).toNat * 7 + 2, none⟩ = false := hfr 2; have hx5_3 : wd.cell? ⟨go5, (x5_1 : Int).toNat * 7 + 3, none⟩ = some (.int .i64 (laws_markNodeS.row x0_1 x5_1).f3) := hcc 3 _ rfl; have hf5_3 : wd.frozen? ⟨go5, (x5_1 : Int).toNat * 7 + 3, none⟩ = false := hfr 3; have hx5_4 : wd.cell? ⟨go5, (x5_1 : Int).toNat * 7 + 4, none⟩ = some (.int .i64 (laws_markNodeS.row x0_1 x5_1).f4) := hcc 4 _ rfl; have hf5_4 : wd.frozen? ⟨go5, (x5_1 : Int).toNat * 7 + 4, none⟩ = false := hfr 4; have hx5_5 : wd.cell? ⟨go5, (x5_1 : Int).toNat * 7 + 5, none⟩ = some (.bool (laws_markNodeS.row x0_1 x5_1).f5) := hcc 5 _ rfl; have hf5_5 : wd.frozen? ⟨go5, (x5_1 : Int).toNat * 7 + 5, none⟩ = false := hfr 5; have hx5_6 : wd.cell? ⟨go5, (x5_1 : Int).toNat * 7 + 6, none⟩ = some (ve6) := hcc 6 _ rfl; have hf5_6 : wd.frozen? ⟨go5, (x5_1 : Int).toNat * 7 + 6, none⟩ = false := hfr 6; clear hcc hfr) | ((with_reducible refine gate_store (t := 3) (p := 38) rfl ?_); refine store_event (t := 3) (p := 38) (v := ?vo_we) (w1 := (wd.setCell ⟨go5, (x5_1 : Int).toNat * 7 + 3, none⟩ (.int .i64 (wrap64 ((wrap64 ((wrap64 (x1_1 + 1)) + 1)) + 1))))) ?hg ?ho ?hn ?hr ?_; (case ho => rfl); (case hg => rfl); (case hn => rfl); (case hr => first | (go_simp; done) | (go_simp; rfl)); intro we hw; have hs_ := Kd.H_seg HH5.out P5.out Q5.out (seg := [.int .i64 (wrap64 ((wrap64 ((wrap64 (x1_1 + 1)) + 1)) + 1))]) (j := 3) (by show 4 ≤ 7; omega) (by intro q hq; rw [List.mem_singleton.1 hq]; rfl); have hg : wd.grownBy we (some go5) := (by rw [hw]; exact hs_.2); have n0_ : Aside0 (Kd.H k62 62 we w0.heap.size P0_ (.slice (some ⟨go5, 0, none⟩) x0_1.length co5) x0_1 x5_1 oki [.int .i64 x1_1, .string tn, .int .i64 (wrap64 ((wrap64 (x1_1 + 1)) + 1)), .int .i64 (wrap64 ((wrap64 ((wrap64 (x1_1 + 1)) + 1)) + 1)), .int .i64 (laws_markNodeS.row x0_1 x5_1).f4, .bool (laws_markNodeS.row x0_1 x5_1).f5, ve6]) := ⟨by rw [hw]; exact hs_.1⟩; have n1_ : Aside0 ((Kd.int .i64).R 3 we w0.heap.size oki ve6 (laws_markNodeS.row x0_1 x5_1).f6) := ⟨by rw [hw]; exact Kd.R_far HR5.out (p := ⟨go5, (x5_1 : Int).toNat * 7 + 3, none⟩) (fun k_ hk_ => (HOK.out k_ hk_).2) _⟩; have n2_ : Aside0 (Below w0.heap.size w0 we) := ⟨by rw [hw]; exact below_set HB.out GB5.out⟩; have n3_ : Aside0 (Kept w we P0_) := ⟨by rw [hw]; exact Kept.setCell HK.out (.inl PG5.out) _⟩; clear HH5 HR5 HB HK hs_ hw hg; clear hx5_0 hf5_0 hx5_1 hf5_1 hx5_2 hf5_2 hx5_3 hf5_3 hx5_4 hf5_4 hx5_5 hf5_5 hx5_6 hf5_6; have HH5 := n0_; have HR5 := n1_; have HB := n2_; have HK := n3_; clear n0_ n1_ n2_ n3_; obtain ⟨hcc, hfr⟩ := Kd.H_at HH5.out P5.out Q5.out; have hx5_0 : we.cell? ⟨go5, (x5_1 : Int).toNat * 7, none⟩ = some (.int .i64 x1_1) := hcc 0 _ rfl; have hf5_0 : we.frozen? ⟨go5, (x5_1 : Int).toNat * 7, none⟩ = false := hfr 0; have hx5_1 : we.cell? ⟨go5, (x5_1 : Int).toNat * 7 + 1, none⟩ = some (.string tn) := hcc 1 _ rfl; have hf5_1 : we.frozen? ⟨go5, (x5_1 : Int).toNat * 7 + 1, none⟩ = false := hfr 1; have hx5_2 : we.cell? ⟨go5, (x5_1 : Int).toNat * 7 + 2, none⟩ = some (.int .i64 (wrap64 ((wrap64 (x1_1 + 1)) + 1))) := hcc 2 _ rfl; have hf5_2 : we.frozen? ⟨go5, (x5_1 : Int).toNat * 7 + 2, none⟩ = false := hfr 2; have hx5_3 : we.cell? ⟨go5, (x5_1 : Int).toNat * 7 + 3, none⟩ = some (.int .i64 (wrap64 ((wrap64 ((wrap64 (x1_1 + 1)) + 1)) + 1))) := hcc 3 _ rfl; have hf5_3 : we.frozen? ⟨go5, (x5_1 : Int).toNat * 7 + 3, none⟩ = false := hfr 3; have hx5_4 : we.cell? ⟨go5, (x5_1 : Int).toNat * 7 + 4, none⟩ = some (.int .i64 (laws_markNodeS.row x0_1 x5_1).f4) := hcc 4 _ rfl; have hf5_4 : we.frozen? ⟨go5, (x5_1 : Int).toNat * 7 + 4, none⟩ = false := hfr 4; have hx5_5 : we.cell? ⟨go5, (x5_1 : Int).toNat * 7 + 5, none⟩ = some (.bool (laws_markNodeS.row x0_1 x5_1).f5) := hcc 5 _ rfl; have hf5_5 : we.frozen? ⟨go5, (x5_1 : Int).toNat * 7 + 5, none⟩ = false := hfr 5; have hx5_6 : we.cell? ⟨go5, (x5_1 : Int).toNat * 7 + 6, none⟩ = some (ve6) := hcc 6 _ rfl; have hf5_6 : we.frozen? ⟨go5, (x5_1 : Int).toNat * 7 + 6, none⟩ = false := hfr 6; clear hcc hfr) | ((with_reducible refine gate_store (t := 3) (p := 45) rfl ?_); refine store_event (t := 3) (p := 45) (v := ?vo_wf) (w1 := (we.setCell ⟨go5, (x5_1 : Int).toNat * 7 + 4, none⟩ (.int .i64 (wrap64 ((wrap64 ((wrap64 ((wrap64 (x1_1 + 1)) + 1)) + 1)) + 1))))) ?hg ?ho ?hn ?hr ?_; (case ho => rfl); (case hg => rfl); (case hn => rfl); (case hr => first | (go_simp; done) | (go_simp; rfl)); intro wf hw; have hs_ := Kd.H_seg HH5.out P5.out Q5.out (seg := [.int .i64 (wrap64 ((wrap64 ((wrap64 ((wrap64 (x1_1 + 1)) + 1)) + 1)) + 1))]) (j := 4) (by show 5 ≤ 7; omega) (by intro q hq; rw [List.mem_singleton.1 hq]; rfl); have hg : we.grownBy wf (some go5) := (by rw [hw]; exact hs_.2); have n0_ : Aside0 (Kd.H k62 62 wf w0.heap.size P0_ (.slice (some ⟨go5, 0, none⟩) x0_1.length co5) x0_1 x5_1 oki [.int .i64 x1_1, .string tn, .int .i64 (wrap64 ((wrap64 (x1_1 + 1)) + 1)), .int .i64 (wrap64 ((wrap64 ((wrap64 (x1_1 + 1)) + 1)) + 1)), .int .i64 (wrap64 ((wrap64 ((wrap64 ((wrap64 (x1_1 + 1)) + 1)) + 1)) + 1)), .bool (laws_markNodeS.row x0_1 x5_1).f5, ve6]) := ⟨by rw [hw]; exact hs_.1⟩; have n1_ : Aside0 ((Kd.int .i64).R 3 wf w0.heap.size oki ve6 (laws_markNodeS.row x0_1 x5_1).f6) := ⟨by rw [hw]; exact Kd.R_far HR5.out (p := ⟨go5, (x5_1 : Int).toNat * 7 + 4, none⟩) (fun k_ hk_ => (HOK.out k_ hk_).2) _⟩; have n2_ : Aside0 (Below w0.heap.size w0 wf) := ⟨by rw [hw]; exact below_set HB.out GB5.out⟩; have n3_ : Aside0 (Kept w wf P0_) := ⟨by rw [hw]; exact Kept.setCell HK.out (.inl PG5.out) _⟩; clear HH5 HR5 HB HK hs_ hw hg; clear hx5_0 hf5_0 hx5_1 hf5_1 hx5_2 hf5_2 hx5_3 hf5_3 hx5_4 hf5_4 hx5_5 hf5_5 hx5_6 hf5_6; have HH5 := n0_; have HR5 := n1_; have HB := n2_; have HK := n3_; clear n0_ n1_ n2_ n3_; obtain ⟨hcc, hfr⟩ := Kd.H_at HH5.out P5.out Q5.out; have hx5_0 : wf.cell? ⟨go5, (x5_1 : Int).toNat * 7, none⟩ = some (.int .i64 x1_1) := hcc 0 _ rfl; have hf5_0 : wf.frozen? ⟨go5, (x5_1 : Int).toNat * 7, none⟩ = false := hfr 0; have hx5_1 : wf.cell? ⟨go5, (x5_1 : Int).toNat * 7 + 1, none⟩ = some (.string tn) := hcc 1 _ rfl; have hf5_1 : wf.frozen? ⟨go5, (x5_1 : Int).toNat * 7 + 1, none⟩ = false := hfr 1; have hx5_2 : wf.cell? ⟨go5, (x5_1 : Int).toNat * 7 + 2, none⟩ = some (.int .i64 (wrap64 ((wrap64 (x1_1 + 1)) + 1))) := hcc 2 _ rfl; have hf5_2 : wf.frozen? ⟨go5, (x5_1 : Int).toNat * 7 + 2, none⟩ = false := hfr 2; have hx5_3 : wf.cell? ⟨go5, (x5_1 : Int).toNat * 7 + 3, none⟩ = some (.int .i64 (wrap64 ((wrap64 ((wrap64 (x1_1 + 1)) + 1)) + 1))) := hcc 3 _ rfl; have hf5_3 : wf.frozen? ⟨go5, (x5_1 : Int).toNat * 7 + 3, none⟩ = false := hfr 3; have hx5_4 : wf.cell? ⟨go5, (x5_1 : Int).toNat * 7 + 4, none⟩ = some (.int .i64 (wrap64 ((wrap64 ((wrap64 ((wrap64 (x1_1 + 1)) + 1)) + 1)) + 1))) := hcc 4 _ rfl; have hf5_4 : wf.frozen? ⟨go5, (x5_1 : Int).toNat * 7 + 4, none⟩ = false := hfr 4; have hx5_5 : wf.cell? ⟨go5, (x5_1 : Int).toNat * 7 + 5, none⟩ = some (.bool (laws_markNodeS.row x0_1 x5_1).f5) := hcc 5 _ rfl; have hf5_5 : wf.frozen? ⟨go5, (x5_1 : Int).toNat * 7 + 5, none⟩ = false := hfr 5; have hx5_6 : wf.cell? ⟨go5, (x5_1 : Int).toNat * 7 + 6, none⟩ = some (ve6) := hcc 6 _ rfl; have hf5_6 : wf.frozen? ⟨go5, (x5_1 : Int).toNat * 7 + 6, none⟩ = false := hfr 6; clear hcc hfr) | ((with_reducible refine gate_store (t := 4) (p := 54) rfl ?_); refine store_event (t := 4) (p := 54) (v := ?vo_wg) (w1 := (wf.setCell ⟨go5, (x5_1 : Int).toNat * 7 + 5, none⟩ (.bool (Int.tmod (wrap64 ((wrap64 ((wrap64 ((wrap64 ((wrap64 (x1_1 + 1)) + 1)) + 1)) + 1)) + 1)) 3 == 0)))) ?hg ?ho ?hn ?hr ?_; (case ho => rfl); (case hg => rfl); (case hn => rfl); (case hr => first | (go_simp; done) | (go_simp; rfl)); intro wg hw; have hs_ := Kd.H_seg HH5.out P5.out Q5.out (seg := [.bool (Int.tmod (wrap64 ((wrap64 ((wrap64 ((wrap64 ((wrap64 (x1_1 + 1)) + 1)) + 1)) + 1)) + 1)) 3 == 0)]) (j := 5) (by show 6 ≤ 7; omega) (by intro q hq; rw [List.mem_singleton.1 hq]; rfl); have hg : wf.grownBy wg (some go5) := (by rw [hw]; exact hs_.2); have n0_ : Aside0 (Kd.H k62 62 wg w0.heap.size P0_ (.slice (some ⟨go5, 0, none⟩) x0_1.length co5) x0_1 x5_1 oki [.int .i64 x1_1, .string tn, .int .i64 (wrap64 ((wrap64 (x1_1 + 1)) + 1)), .int .i64 (wrap64 ((wrap64 ((wrap64 (x1_1 + 1)) + 1)) + 1)), .int .i64 (wrap64 ((wrap64 ((wrap64 ((wrap64 (x1_1 + 1)) + 1)) + 1)) + 1)), .bool (Int.tmod (wrap64 ((wrap64 ((wrap64 ((wrap64 ((wrap64 (x1_1 + 1)) + 1)) + 1)) + 1)) + 1)) 3 == 0), ve6]) := ⟨by rw [hw]; exact hs_.1⟩; have n1_ : Aside0 ((Kd.int .i64).R 3 wg w0.heap.size oki ve6 (laws_markNodeS.row x0_1 x5_1).f6) := ⟨by rw [hw]; exact Kd.R_far HR5.out (p := ⟨go5, (x5_1 : Int).toNat * 7 + 5, none⟩) (fun k_ hk_ => (HOK.out k_ hk_).2) _⟩; have n2_ : Aside0 (Below w0.heap.size w0 wg) := ⟨by rw [hw]; exact below_set HB.out GB5.out⟩; have n3_ : Aside0 (Kept w wg P0_) := ⟨by rw [hw]; exact Kept.setCell HK.out (.inl PG5.out) _⟩; clear HH5 HR5 HB HK hs_ hw hg; clear hx5_0 hf5_0 hx5_1 hf5_1 hx5_2 hf5_2 hx5_3 hf5_3 hx5_4 hf5_4 hx5_5 hf5_5 hx5_6 hf5_6; have HH5 := n0_; have HR5 := n1_; have HB := n2_; have HK := n3_; clear n0_ n1_ n2_ n3_; obtain ⟨hcc, hfr⟩ := Kd.H_at HH5.out P5.out Q5.out; have hx5_0 : wg.cell? ⟨go5, (x5_1 : Int).toNat * 7, none⟩ = some (.int .i64 x1_1) := hcc 0 _ rfl; have hf5_0 : wg.frozen? ⟨go5, (x5_1 : Int).toNat * 7, none⟩ = false := hfr 0; have hx5_1 : wg.cell? ⟨go5, (x5_1 : Int).toNat * 7 + 1, none⟩ = some (.string tn) := hcc 1 _ rfl; have hf5_1 : wg.frozen? ⟨go5, (x5_1 : Int).toNat * 7 + 1, none⟩ = false := hfr 1; have hx5_2 : wg.cell? ⟨go5, (x5_1 : Int).toNat * 7 + 2, none⟩ = some (.int .i64 (wrap64 ((wrap64 (x1_1 + 1)) + 1))) := hcc 2 _ rfl; have hf5_2 : wg.frozen? ⟨go5, (x5_1 : Int).toNat * 7 + 2, none⟩ = false := hfr 2; have hx5_3 : wg.cell? ⟨go5, (x5_1 : Int).toNat * 7 + 3, none⟩ = some (.int .i64 (wrap64 ((wrap64 ((wrap64 (x1_1 + 1)) + 1)) + 1))) := hcc 3 _ rfl; have hf5_3 : wg.frozen? ⟨go5, (x5_1 : Int).toNat * 7 + 3, none⟩ = false := hfr 3; have hx5_4 : wg.cell? ⟨go5, (x5_1 : Int).toNat * 7 + 4, none⟩ = some (.int .i64 (wrap64 ((wrap64 ((wrap64 ((wrap64 (x1_1 + 1)) + 1)) + 1)) + 1))) := hcc 4 _ rfl; have hf5_4 : wg.frozen? ⟨go5, (x5_1 : Int).toNat * 7 + 4, none⟩ = false := hfr 4; have hx5_5 : wg.cell? ⟨go5, (x5_1 : Int).toNat * 7 + 5, none⟩ = some (.bool (Int.tmod (wrap64 ((wrap64 ((wrap64 ((wrap64 ((wrap64 (x1_1 + 1)) + 1)) + 1)) + 1)) + 1)) 3 == 0)) := hcc 5 _ rfl; have hf5_5 : wg.frozen? ⟨go5, (x5_1 : Int).toNat * 7 + 5, none⟩ = false := hfr 5; have hx5_6 : wg.cell? ⟨go5, (x5_1 : Int).toNat * 7 + 6, none⟩ = some (ve6) := hcc 6 _ rfl; have hf5_6 : wg.frozen? ⟨go5, (x5_1 : Int).toNat * 7 + 6, none⟩ = false := hfr 6; clear hcc hfr) | (go_at_call 62; (with_reducible refine (laws_markIntS.calls k1 oki ve6 (laws_markNodeS.row x0_1 x5_1).f6 (wrap64 ((wrap64 ((wrap64 ((wrap64 ((wrap64 ((wrap64 (x1_1 + 1)) + 1)) + 1)) + 1)) + 1)) + 1)) t1 t2 w0 _ ?side1 ?side2 A4.out).mono ?_); (case side1 => exact HB.out); (case side2 => exact HR5.out); rintro e wh ⟨rfl, ho, hb, hk⟩; have hH2 : Kd.H k62 62 wh w0.heap.size P0_ (.slice (some ⟨go5, 0, none⟩) x0_1.length co5) x0_1 x5_1 oki [.int .i64 x1_1, .string tn, .int .i64 (wrap64 ((wrap64 (x1_1 + 1)) + 1)), .int .i64 (wrap64 ((wrap64 ((wrap64 (x1_1 + 1)) + 1)) + 1)), .int .i64 (wrap64 ((wrap64 ((wrap64 ((wrap64 (x1_1 + 1)) + 1)) + 1)) + 1)), .bool (Int.tmod (wrap64 ((wrap64 ((wrap64 ((wrap64 ((wrap64 (x1_1 + 1)) + 1)) + 1)) + 1)) + 1)) 3 == 0), ve6] := Kd.H_kept HH5.out hk (fun k_ _ hn_ => hn_); have hM2 : k62.M wh w0.heap.size oki (laws_markNodeS.elem x1_1 tn t2) [.int .i64 x1_1, .string tn, .int .i64 (wrap64 ((wrap64 (x1_1 + 1)) + 1)), .int .i64 (wrap64 ((wrap64 ((wrap64 (x1_1 + 1)) + 1)) + 1)), .int .i64 (wrap64 ((wrap64 ((wrap64 ((wrap64 (x1_1 + 1)) + 1)) + 1)) + 1)), .bool (Int.tmod (wrap64 ((wrap64 ((wrap64 ((wrap64 ((wrap64 (x1_1 + 1)) + 1)) + 1)) + 1)) + 1)) 3 == 0), ve6] := k62_mkM wh w0.heap.size oki (laws_markNodeS.elem x1_1 tn t2) (Kd.R_reok rfl ho (fun k_ hk_ => HR5.out.1 k_ hk_)); have n0_ := Aside0.mk (Kd.H_back hH2 hM2 (fun _ hk_ => hk_)); have n1_ := Aside0.mk hb; have n2_ := Aside0.mk (Kept.then_ (S2 := oki) HK.out hk (fun k_ hk_ => .inl (HOK.out k_ hk_).1)); clear hH2 hM2 HB HK HH5 HR5 ho hb hk; clear hx5_0 hf5_0 hx5_1 hf5_1 hx5_2 hf5_2 hx5_3 hf5_3 hx5_4 hf5_4 hx5_5 hf5_5 hx5_6 hf5_6; have HO_0 := n0_; have HB := n1_; have HK := n2_; clear n0_ n1_ n2_))
     go_roundg k1
     case measure => have := HK1.out; omega
     case rel => exact ⟨(x0_1.set x5_1.toNat (laws_markNodeS.elem x1_1 tn t2)), t1, (wrap64 (x5_1 + 1)), rF, rF, H', ⟨by have := HK1.out; omega⟩, ⟨by (with_reducible repeat (first | apply Kd.S_alloc | apply Kd.S_drewN | apply Kd.S_drew)); exact HO_0.out⟩, ⟨by repeat (first | (with_reducible first | exact HK.out | apply Kept.alloc | apply Kept.drewN | apply Kept.drew) | exact HK.out)⟩, ⟨bA⟩⟩
    ·rw [if_neg c4] at H
     exact absurd H (by simp)
   ·rw [if_neg c3] at H
    have c3b0 : decide (x5_1 < (x0_1.length : Int)) = false := decide_eq_false c3
    clear c3
    simp only [Option.some.injEq, Prod.mk.injEq] at H
    obtain ⟨rfl, rfl⟩ := H
    obtain ⟨Ao9, co9, eo9⟩ := Kd.S_slice HO_0.out
    subst eo9
    go_wp2
    go_ret
    exact ⟨rF, by (with_reducible repeat (first | apply Kd.S_alloc | apply Kd.S_drewN | apply Kd.S_drew)); exact HO_0.out, bA, by repeat (first | (with_reducible first | exact HK.out | apply Kept.alloc | apply Kept.drewN | apply Kept.drew) | exact HK.out)⟩

/-! ### laws_heldIntS: function 63 -/
def laws_heldIntS.l0 : Nat → List Int → Int → Int → Option (Int)
 | 0, _, _, _ => none
 | k + 1, x0, x1, x5 => if x5 < (x0.length : Int) then (if 0 ≤ x5 then (if (rd x0 x5) = x1 then (laws_heldIntS.l0 k x0 (wrap64 (x1 + 1)) (wrap64 (x5 + 1))) else (some (-1))) else (none)) else (some x1)
def laws_heldIntS.f (k : Nat) (l0 : List Int) (a1 : Int) : Option (Int) := laws_heldIntS.l0 k l0 a1 0
theorem laws_heldIntS.mono_l : ∀ k, (∀ y0 y1 y2, LeO (laws_heldIntS.l0 k y0 y1 y2) (laws_heldIntS.l0 (k + 1) y0 y1 y2))
 | 0 => fun _ _ _ r h => by simp [laws_heldIntS.l0] at h
 | k + 1 => by
  have ih0 := laws_heldIntS.mono_l k
  ·intro y0 y1 y2
   unfold laws_heldIntS.l0
   repeat' first
   | (with_reducible exact ih0 _ _ _)
   | (with_reducible exact LeO.refl _)
   | (with_reducible exact LeO.none _)
   | (with_reducible refine LeO.ite ?_ ?_)
   | (with_reducible refine LeO.bind ?_ (fun _ => ?_))
   | exact ih0 _ _ _
   | exact LeO.none _
   | refine LeO.ite ?_ ?_
   | refine LeO.bind ?_ (fun _ => ?_)
theorem laws_heldIntS.mono : ∀ a0 a1 k, LeO (laws_heldIntS.f k a0 a1) (laws_heldIntS.f (k + 1) a0 a1) := by
 intro a0 a1 k
 have ih0 := laws_heldIntS.mono_l k
 unfold laws_heldIntS.f
 repeat' first
   | (with_reducible exact ih0 _ _ _)
   | (with_reducible exact LeO.refl _)
   | (with_reducible exact LeO.none _)
   | (with_reducible refine LeO.ite ?_ ?_)
   | (with_reducible refine LeO.bind ?_ (fun _ => ?_))
   | exact ih0 _ _ _
   | exact LeO.none _
   | refine LeO.ite ?_ ?_
   | refine LeO.bind ?_ (fun _ => ?_)
set_option maxHeartbeats 8000000 in
set_option maxRecDepth 100000 in
theorem laws_heldIntS.calls (k : Nat) (A0 : Option Addr) (c0 : Nat) (l0 : List Int) (a1 : Int) (r : Int) (w : World) (hr0 : Kd.C (Kd.int .i64) w A0 l0.length l0) (hc0 : l0.length ≤ c0) (h : laws_heldIntS.f k l0 a1 = some r) :
  Calls Try.prog 63 #[.slice A0 l0.length c0, .int .i64 a1] w fun e w' => e = .returned (.int .i64 r) ∧ Drawn0 w w' := by
 have HR0 := Aside0.mk hr0
 have HC0 := Aside0.mk hc0
 clear hr0 hc0
 have H : (laws_heldIntS.l0 k l0 a1 0) = some r := h
 clear h
 have H' := Aside0.mk H
 clear H
 go_enter Try.func63, Try.ntmps63
 go_wp2
 go_loopg [1, 5] k (fun kq v1 v5 w' => ∃ (x1_1 : Int) (x5_1 : Int), v1 = .int .i64 x1_1 ∧ v5 = .int .i64 x5_1 ∧ Aside0 (laws_heldIntS.l0 kq l0 x1_1 x5_1 = some r) ∧ Aside0 (kq ≤ k) ∧ Drawn0 w w')
 case atStart => exact ⟨(a1), (0), rF, rF, H', ⟨Nat.le_refl _⟩, by repeat (first | exact Drawn0.refl _ | apply Drawn0.step)⟩
 case round =>
  clear H'
  try clear p2
  obtain ⟨x1_1, x5_1, rfl, rfl, HA, HK1, ⟨m1, rfl⟩⟩ := hrel
  cases gk with
  | zero => exact absurd HA.out (by simp [laws_heldIntS.l0])
  | succ k1 =>
   have H := HA.out
   clear HA
   simp only [laws_heldIntS.l0] at H
   by_cases c3 : x5_1 < (l0.length : Int)
   ·rw [if_pos c3] at H
    have c3b0 : decide (x5_1 < (l0.length : Int)) = true := decide_eq_true c3
    clear c3
    by_cases c4 : 0 ≤ x5_1
    ·rw [if_pos c4] at H
     have c4b0 : decide (0 ≤ x5_1) = true := decide_eq_true c4
     clear c4
     by_cases c5 : (rd l0 x5_1) = x1_1
     ·rw [if_pos c5] at H
      have c5b0 : ((rd l0 x5_1) == x1_1) = true := beq_iff_eq.mpr c5
      have c5b1 : ((rd l0 x5_1) != x1_1) = false := bne_eq_false_iff_eq.mpr c5
      clear c5
      have H' := Aside0.mk H
      clear H
      have p363 : 0 ≤ (x5_1 : Int) := of_decide_eq_true (by assumption)
      have q363 : x5_1 < (l0.length : Int) := of_decide_eq_true (by assumption)
      obtain ⟨ad363, e363, hx363_0⟩ := Kd.at_int HR0.out x5_1 p363 q363
      cases e363
      replace p363 := eq_true p363
      replace q363 := eq_true q363
      go_wp2
      go_roundg k1
      case measure => have := HK1.out; omega
      case rel => exact ⟨(wrap64 (x1_1 + 1)), (wrap64 (x5_1 + 1)), rF, rF, H', ⟨by have := HK1.out; omega⟩, by repeat (first | exact Drawn0.refl _ | apply Drawn0.step)⟩
     ·rw [if_neg c5] at H
      have c5b0 : ((rd l0 x5_1) == x1_1) = false := beq_eq_false_iff_ne.mpr c5
      have c5b1 : ((rd l0 x5_1) != x1_1) = true := bne_iff_ne.mpr c5
      obtain rfl := Option.some.inj H
      have p363 : 0 ≤ (x5_1 : Int) := of_decide_eq_true (by assumption)
      have q363 : x5_1 < (l0.length : Int) := of_decide_eq_true (by assumption)
      obtain ⟨ad363, e363, hx363_0⟩ := Kd.at_int HR0.out x5_1 p363 q363
      cases e363
      replace p363 := eq_true p363
      replace q363 := eq_true q363
      go_wp2
      go_ret
      exact ⟨rF, by repeat (first | exact Drawn0.refl _ | apply Drawn0.step)⟩
    ·rw [if_neg c4] at H
     exact absurd H (by simp)
   ·rw [if_neg c3] at H
    have c3b0 : decide (x5_1 < (l0.length : Int)) = false := decide_eq_false c3
    clear c3
    obtain rfl := Option.some.inj H
    go_wp2
    go_ret
    exact ⟨rF, by repeat (first | exact Drawn0.refl _ | apply Drawn0.step)⟩

end Go.Proofs.Ytgmhohafoclmpaa.Q
