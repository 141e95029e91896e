/- The machine side of a law, written by a program of this session over the translation: for each Go function a Lean function with the same answers, and the proof that the Go code comes to them. -/
import Derived.Test.YtbdfidnldaghbaaQx0
import Derived.Test.YtbdfidnldaghbaaQx6
import Derived.Test.YtbdfidnldaghbaaQx7
import Derived.Test.YtbdfidnldaghbaaQx8
import Derived.Test.YtbdfidnldaghbaaQx9
namespace Go.Proofs.Ytbdfidnldaghbaa.Q
open Go.RowKit Go.Proofs.Ytbdfidnldaghbaa.Own Go.Proofs.YtbdfidnldaghbaaW.PrintWords Go.Proofs.YtbdfidnldaghbaaW.PrintLast Go.Proofs.YtbdfidnldaghbaaW.PrintMore
attribute [local go_sem] max2_int min2_int max_two min_two max_three min_three max_four min_four   -- for this text's walks alone
set_option linter.unusedVariables false
set_option linter.unusedSimpArgs false

theorem told_R {α : Type} {d : Kd α} {e b n : Nat} {w w' : World} {ok : Nat → Prop} {v : Value} {xs : List α} (h : Kd.R d e w b ok v xs) (hq : World.drewN w n = w') : Kd.R d e w' b ok v xs := hq ▸ Kd.R_drewN h n
theorem told_c {w : World} {a : Addr} {v : Value} (h : w.cell? a = some v) (n : Nat) : (World.drewN w n).cell? a = some v := h
theorem told_B {b n : Nat} {w0 w w' : World} (h : Below b w0 w) (hq : World.drewN w n = w') : Below b w0 w' := hq ▸ pw_below_drewN h n
/-! ### laws_FnWires: function 5 -/
mutual
def laws_FnWires.j0 : Nat → List Int → Option (Bool)
  | 0, _ => none
  | k + 1, x0 => (laws_alt.f k x0 1).bind fun t556 => ((spec_DrawPutWord.f k t556).bind fun t559 => ((impl_PutWord.f k t559).bind fun t560 => ((spec_WordOk.f k t559).bind fun t563 => (if ((decide ((t560.length : Int) > 0)) != t563) = true then (some false) else (if (t560.length : Int) > 0 then ((impl_TakeWord.f k t560 0).bind fun bt564 => (if bt564.1.toList = t559.toList then (if bt564.2 = (t560.length : Int) then (laws_FnWires.j1 k x0) else (some false)) else (some false))) else (laws_FnWires.j1 k x0))))))
def laws_FnWires.j1 : Nat → List Int → Option (Bool)
  | 0, _ => none
  | k + 1, x0 => (laws_alt.f k x0 2).bind fun t566 => ((spec_DrawFrame.f k t566).bind fun t569 => ((impl_Frame.f k t569).bind fun bt572 => ((spec_Frame.f k t569).bind fun bt576 => (if (bt576.2 != bt572.2) = true then (laws_FnWires.j2 k x0 t569 bt572.1 bt572.2 true) else ((laws_sameBytes.f k bt572.1 bt576.1).bind fun t580 => (laws_FnWires.j2 k x0 t569 bt572.1 bt572.2 (!t580)))))))
def laws_FnWires.j2 : Nat → List Int → List Int → List Int → Bool → Bool → Option (Bool)
  | 0, _, _, _, _, _ => none
  | k + 1, x0, x13, x14, x15, x115 => if x115 = true then (some false) else (if x15 = true then ((impl_Unframe.f k x14).bind fun bt581 => ((some (([] : List Int) : List Int)).bind fun y585 => (if y585.length + x14.length < 140737488355328 then ((some (y585 ++ x14 : List Int)).bind fun y588 => ((laws_at.f x0 0).bind fun t591 => ((laws_at.f x0 1).bind fun t592 => (if (x14.length : Int) = 0 then (none) else (if 0 ≤ (Int.tmod (wrap64 (t591 * (wrap64 (1 + t592)))) (x14.length : Int)) then (if (Int.tmod (wrap64 (t591 * (wrap64 (1 + t592)))) (x14.length : Int)) < (y588.length : Int) then ((laws_at.f x0 2).bind fun t594 => ((impl_Unframe.f k (y588.set ((Int.tmod (wrap64 (t591 * (wrap64 (1 + t592)))) (x14.length : Int)) : Int).toNat (Go.bits .xor .u8 (rd y588 (Int.tmod (wrap64 (t591 * (wrap64 (1 + t592)))) (x14.length : Int))) ((wrap64 (1 + (Int.tmod t594 255))) % 256)))).bind fun bt596 => (if bt581.2 = true then ((laws_sameBytes.f k bt581.1 x13).bind fun t600 => (if t600 = true then (if bt596.2 = true then ((laws_sameBytes.f k bt596.1 x13).bind fun t601 => (some (!t601))) else (some true)) else (some false))) else (some false)))) else (none)) else (none)))))) else (none)))) else (some true))
end
def laws_FnWires.f (k : Nat) (l0 : List Int) : Option (Bool) := (laws_big.f l0).bind fun t532 => (if t532 = true then (some true) else ((spec_DrawPutNums.f k l0).bind fun t533 => ((impl_PutNums.f k t533).bind fun t536 => ((spec_PutNums.f k t533).bind fun t539 => ((laws_sameBytes.f k t536 t539).bind fun t542 => (if t542 = true then (if (t536.length : Int) > 0 then ((impl_TakeNums.f k t536 0).bind fun bt543 => (if 0 ≤ (wrap64 ((t536.length : Int) - 1)) then (if (wrap64 ((t536.length : Int) - 1)) ≤ (t536.length : Int) then ((impl_TakeNums.f k (t536.take ((wrap64 ((t536.length : Int) - 1)) : Int).toNat) 0).bind fun bt551 => (if bt543.2 = (t536.length : Int) then ((laws_same.f k bt543.1 t533).bind fun t555 => (if t555 = true then (if bt551.2 = (-1) then (laws_FnWires.j0 k l0) else (some false)) else (some false))) else (some false))) else (none)) else (none))) else (laws_FnWires.j0 k l0)) else (some false)))))))
theorem laws_FnWires.mono_l : ∀ k, (∀ y0, LeO (laws_FnWires.j0 k y0) (laws_FnWires.j0 (k + 1) y0)) ∧ (∀ y0, LeO (laws_FnWires.j1 k y0) (laws_FnWires.j1 (k + 1) y0)) ∧ (∀ y0 y1 y2 y3 y4, LeO (laws_FnWires.j2 k y0 y1 y2 y3 y4) (laws_FnWires.j2 (k + 1) y0 y1 y2 y3 y4))
  | 0 => ⟨fun _ r h => by simp [laws_FnWires.j0] at h, fun _ r h => by simp [laws_FnWires.j1] at h, fun _ _ _ _ _ r h => by simp [laws_FnWires.j2] at h⟩
  | k + 1 => by
    obtain ⟨ih0, ih1, ih2⟩ := laws_FnWires.mono_l k
    refine ⟨?_, ?_, ?_⟩
    · intro y0
      unfold laws_FnWires.j0
      repeat' first
      | (with_reducible exact ih0 _)
      | (with_reducible exact ih1 _)
      | (with_reducible exact ih2 _ _ _ _ _)
      | (with_reducible exact impl_Frame.mono _ _)
      | (with_reducible exact impl_PutNums.mono _ _)
      | (with_reducible exact impl_PutWord.mono _ _)
      | (with_reducible exact impl_TakeNums.mono _ _ _)
      | (with_reducible exact impl_TakeWord.mono _ _ _)
      | (with_reducible exact impl_Unframe.mono _ _)
      | (with_reducible exact laws_alt.mono _ _ _)
      | (with_reducible exact laws_same.mono _ _ _)
      | (with_reducible exact laws_sameBytes.mono _ _ _)
      | (with_reducible exact spec_DrawFrame.mono _ _)
      | (with_reducible exact spec_DrawPutNums.mono _ _)
      | (with_reducible exact spec_DrawPutWord.mono _ _)
      | (with_reducible exact spec_Frame.mono _ _)
      | (with_reducible exact spec_PutNums.mono _ _)
      | (with_reducible exact spec_WordOk.mono _ _)
      | (with_reducible exact LeO.refl _)
      | (with_reducible exact LeO.none _)
      | (with_reducible refine LeO.ite ?_ ?_)
      | (with_reducible refine LeO.bind ?_ (fun _ => ?_))
      | exact ih0 _
      | exact ih1 _
      | exact ih2 _ _ _ _ _
      | exact impl_Frame.mono _ _
      | exact impl_PutNums.mono _ _
      | exact impl_PutWord.mono _ _
      | exact impl_TakeNums.mono _ _ _
      | exact impl_TakeWord.mono _ _ _
      | exact impl_Unframe.mono _ _
      | exact laws_alt.mono _ _ _
      | exact laws_same.mono _ _ _
      | exact laws_sameBytes.mono _ _ _
      | exact spec_DrawFrame.mono _ _
      | exact spec_DrawPutNums.mono _ _
      | exact spec_DrawPutWord.mono _ _
      | exact spec_Frame.mono _ _
      | exact spec_PutNums.mono _ _
      | exact spec_WordOk.mono _ _
      | exact LeO.none _
      | refine LeO.ite ?_ ?_
      | refine LeO.bind ?_ (fun _ => ?_)
    · intro y0
      unfold laws_FnWires.j1
      repeat' first
      | (with_reducible exact ih0 _)
      | (with_reducible exact ih1 _)
      | (with_reducible exact ih2 _ _ _ _ _)
      | (with_reducible exact impl_Frame.mono _ _)
      | (with_reducible exact impl_PutNums.mono _ _)
      | (with_reducible exact impl_PutWord.mono _ _)
      | (with_reducible exact impl_TakeNums.mono _ _ _)
      | (with_reducible exact impl_TakeWord.mono _ _ _)
      | (with_reducible exact impl_Unframe.mono _ _)
      | (with_reducible exact laws_alt.mono _ _ _)
      | (with_reducible exact laws_same.mono _ _ _)
      | (with_reducible exact laws_sameBytes.mono _ _ _)
      | (with_reducible exact spec_DrawFrame.mono _ _)
      | (with_reducible exact spec_DrawPutNums.mono _ _)
      | (with_reducible exact spec_DrawPutWord.mono _ _)
      | (with_reducible exact spec_Frame.mono _ _)
      | (with_reducible exact spec_PutNums.mono _ _)
      | (with_reducible exact spec_WordOk.mono _ _)
      | (with_reducible exact LeO.refl _)
      | (with_reducible exact LeO.none _)
      | (with_reducible refine LeO.ite ?_ ?_)
      | (with_reducible refine LeO.bind ?_ (fun _ => ?_))
      | exact ih0 _
      | exact ih1 _
      | exact ih2 _ _ _ _ _
      | exact impl_Frame.mono _ _
      | exact impl_PutNums.mono _ _
      | exact impl_PutWord.mono _ _
      | exact impl_TakeNums.mono _ _ _
      | exact impl_TakeWord.mono _ _ _
      | exact impl_Unframe.mono _ _
      | exact laws_alt.mono _ _ _
      | exact laws_same.mono _ _ _
      | exact laws_sameBytes.mono _ _ _
      | exact spec_DrawFrame.mono _ _
      | exact spec_DrawPutNums.mono _ _
      | exact spec_DrawPutWord.mono _ _
      | exact spec_Frame.mono _ _
      | exact spec_PutNums.mono _ _
      | exact spec_WordOk.mono _ _
      | exact LeO.none _
      | refine LeO.ite ?_ ?_
      | refine LeO.bind ?_ (fun _ => ?_)
    · intro y0 y1 y2 y3 y4
      unfold laws_FnWires.j2
      repeat' first
      | (with_reducible exact ih0 _)
      | (with_reducible exact ih1 _)
      | (with_reducible exact ih2 _ _ _ _ _)
      | (with_reducible exact impl_Frame.mono _ _)
      | (with_reducible exact impl_PutNums.mono _ _)
      | (with_reducible exact impl_PutWord.mono _ _)
      | (with_reducible exact impl_TakeNums.mono _ _ _)
      | (with_reducible exact impl_TakeWord.mono _ _ _)
      | (with_reducible exact impl_Unframe.mono _ _)
      | (with_reducible exact laws_alt.mono _ _ _)
      | (with_reducible exact laws_same.mono _ _ _)
      | (with_reducible exact laws_sameBytes.mono _ _ _)
      | (with_reducible exact spec_DrawFrame.mono _ _)
      | (with_reducible exact spec_DrawPutNums.mono _ _)
      | (with_reducible exact spec_DrawPutWord.mono _ _)
      | (with_reducible exact spec_Frame.mono _ _)
      | (with_reducible exact spec_PutNums.mono _ _)
      | (with_reducible exact spec_WordOk.mono _ _)
      | (with_reducible exact LeO.refl _)
      | (with_reducible exact LeO.none _)
      | (with_reducible refine LeO.ite ?_ ?_)
      | (with_reducible refine LeO.bind ?_ (fun _ => ?_))
      | exact ih0 _
      | exact ih1 _
      | exact ih2 _ _ _ _ _
      | exact impl_Frame.mono _ _
      | exact impl_PutNums.mono _ _
      | exact impl_PutWord.mono _ _
      | exact impl_TakeNums.mono _ _ _
      | exact impl_TakeWord.mono _ _ _
      | exact impl_Unframe.mono _ _
      | exact laws_alt.mono _ _ _
      | exact laws_same.mono _ _ _
      | exact laws_sameBytes.mono _ _ _
      | exact spec_DrawFrame.mono _ _
      | exact spec_DrawPutNums.mono _ _
      | exact spec_DrawPutWord.mono _ _
      | exact spec_Frame.mono _ _
      | exact spec_PutNums.mono _ _
      | exact spec_WordOk.mono _ _
      | exact LeO.none _
      | refine LeO.ite ?_ ?_
      | refine LeO.bind ?_ (fun _ => ?_)
theorem laws_FnWires.mono : ∀ a0 k, LeO (laws_FnWires.f k a0) (laws_FnWires.f (k + 1) a0) := by
  intro a0 k
  obtain ⟨ih0, ih1, ih2⟩ := laws_FnWires.mono_l k
  unfold laws_FnWires.f
  repeat' first
      | (with_reducible exact ih0 _)
      | (with_reducible exact ih1 _)
      | (with_reducible exact ih2 _ _ _ _ _)
      | (with_reducible exact impl_Frame.mono _ _)
      | (with_reducible exact impl_PutNums.mono _ _)
      | (with_reducible exact impl_PutWord.mono _ _)
      | (with_reducible exact impl_TakeNums.mono _ _ _)
      | (with_reducible exact impl_TakeWord.mono _ _ _)
      | (with_reducible exact impl_Unframe.mono _ _)
      | (with_reducible exact laws_alt.mono _ _ _)
      | (with_reducible exact laws_same.mono _ _ _)
      | (with_reducible exact laws_sameBytes.mono _ _ _)
      | (with_reducible exact spec_DrawFrame.mono _ _)
      | (with_reducible exact spec_DrawPutNums.mono _ _)
      | (with_reducible exact spec_DrawPutWord.mono _ _)
      | (with_reducible exact spec_Frame.mono _ _)
      | (with_reducible exact spec_PutNums.mono _ _)
      | (with_reducible exact spec_WordOk.mono _ _)
      | (with_reducible exact LeO.refl _)
      | (with_reducible exact LeO.none _)
      | (with_reducible refine LeO.ite ?_ ?_)
      | (with_reducible refine LeO.bind ?_ (fun _ => ?_))
      | exact ih0 _
      | exact ih1 _
      | exact ih2 _ _ _ _ _
      | exact impl_Frame.mono _ _
      | exact impl_PutNums.mono _ _
      | exact impl_PutWord.mono _ _
      | exact impl_TakeNums.mono _ _ _
      | exact impl_TakeWord.mono _ _ _
      | exact impl_Unframe.mono _ _
      | exact laws_alt.mono _ _ _
      | exact laws_same.mono _ _ _
      | exact laws_sameBytes.mono _ _ _
      | exact spec_DrawFrame.mono _ _
      | exact spec_DrawPutNums.mono _ _
      | exact spec_DrawPutWord.mono _ _
      | exact spec_Frame.mono _ _
      | exact spec_PutNums.mono _ _
      | exact spec_WordOk.mono _ _
      | exact LeO.none _
      | refine LeO.ite ?_ ?_
      | refine LeO.bind ?_ (fun _ => ?_)
def laws_FnWires.T30 : Bool × List (List Nat × List Nat) := (true, [([], []), ([], []), ([], []), ([], []), ([2, 3], [2, 3]), ([4], [4]), ([], []), ([6], [6]), ([7], [7]), ([8], [8]), ([9], [9]), ([5, 10], [5, 10]), ([0, 1, 0, 1, 2, 3, 4, 5, 6, 7, 8, 9, 10, 11], [0, 1]), ([12, 11, 7, 0, 1, 2, 3, 4, 5, 6, 7, 8, 9, 10, 11], [11, 12])])
def laws_FnWires.B30 : List Nat := [0, 0, 0, 0, 12, 28, 0, 64, 192, 448, 960, 2044, 4095, 8191]
theorem laws_FnWires.tab30 : rtab .any (opsOf Try.f5 30) = laws_FnWires.T30 := by kernel_rfl
theorem laws_FnWires.bits30 : waitsOk laws_FnWires.T30.2 laws_FnWires.B30 = true := by kernel_rfl
set_option maxHeartbeats 8000000 in
set_option maxRecDepth 100000 in
theorem laws_FnWires.calls (k : Nat) (A0 : Option Addr) (c0 : Nat) (l0 : List Int) (r : Bool) (w : World) (hr0 : Kd.C (Kd.int .u8) w A0 l0.length l0) (hc0 : l0.length ≤ c0) (h : laws_FnWires.f k l0 = some r) (hr_ : r = true) :
    Calls Try.prog 5 #[.slice A0 l0.length c0] w fun e w' => e = .returned (.bool r) ∧ Below w.heap.size w w' := by
  have HR0 := Aside0.mk hr0
  have HC0 := Aside0.mk hc0
  clear hr0 hc0
  have HB := Aside0.mk (Below.refl w.heap.size w)
  have H : ((laws_big.f l0).bind fun t532 => (if t532 = true then (some true) else ((spec_DrawPutNums.f k l0).bind fun t533 => ((impl_PutNums.f k t533).bind fun t536 => ((spec_PutNums.f k t533).bind fun t539 => ((laws_sameBytes.f k t536 t539).bind fun t542 => (if t542 = true then (if (t536.length : Int) > 0 then ((impl_TakeNums.f k t536 0).bind fun bt543 => (if 0 ≤ (wrap64 ((t536.length : Int) - 1)) then (if (wrap64 ((t536.length : Int) - 1)) ≤ (t536.length : Int) then ((impl_TakeNums.f k (t536.take ((wrap64 ((t536.length : Int) - 1)) : Int).toNat) 0).bind fun bt551 => (if bt543.2 = (t536.length : Int) then ((laws_same.f k bt543.1 t533).bind fun t555 => (if t555 = true then (if bt551.2 = (-1) then (laws_FnWires.j0 k l0) else (some false)) else (some false))) else (some false))) else (none)) else (none))) else (laws_FnWires.j0 k l0)) else (some false)))))))) = some r := h
  clear h
  replace H := Option.bind_eq_some_iff.mp H
  obtain ⟨t532, A20, H⟩ := H
  replace H : (if t532 = true then (some true) else ((spec_DrawPutNums.f k l0).bind fun t533 => ((impl_PutNums.f k t533).bind fun t536 => ((spec_PutNums.f k t533).bind fun t539 => ((laws_sameBytes.f k t536 t539).bind fun t542 => (if t542 = true then (if (t536.length : Int) > 0 then ((impl_TakeNums.f k t536 0).bind fun bt543 => (if 0 ≤ (wrap64 ((t536.length : Int) - 1)) then (if (wrap64 ((t536.length : Int) - 1)) ≤ (t536.length : Int) then ((impl_TakeNums.f k (t536.take ((wrap64 ((t536.length : Int) - 1)) : Int).toNat) 0).bind fun bt551 => (if bt543.2 = (t536.length : Int) then ((laws_same.f k bt543.1 t533).bind fun t555 => (if t555 = true then (if bt551.2 = (-1) then (laws_FnWires.j0 k l0) else (some false)) else (some false))) else (some false))) else (none)) else (none))) else (laws_FnWires.j0 k l0)) else (some false))))))) = some r := H
  have A2 := Aside0.mk A20
  clear A20
  by_cases c3 : t532 = true
  · subst c3
    have H1 : (some true) = some r := by rw [if_pos rfl] at H; exact H
    clear H
    have H := H1
    clear H1
    obtain rfl := Option.some.inj H
    go_enter Try.func5, Try.ntmps5
    go_wp2_with (first | ((with_reducible refine gate_callee (f := 16) rfl ?_); refine goesL_ (some 25) rfl rfl Try.func16 (by kernel_rfl) rfl #[.slice A0 l0.length c0] rfl (by (try simp only [List.map_toArray, List.map_cons, List.map_nil]); first | done | rfl | (simp only [List.length_drop, List.length_take]; rfl)) ?_; (with_reducible refine (laws_big.calls _ _ l0 true _ ?side1 ?side2 A2.out).mono ?_); (case side1 => repeat (first | exact HR0.out | (with_reducible refine Kd.C_alloc ?_ _) | (with_reducible refine Kd.C_drewN ?_ _) | (with_reducible refine Kd.C_drew ?_))); (case side2 => exact HC0.out); rintro e w' ⟨rfl, ⟨nd, rfl⟩⟩; refine ⟨_, rfl, ?_⟩))
    go_ret
    exact ⟨by first | rfl | (simp [errW_none, errW_some] <;> rfl) | (simp [*, errW_none, errW_some] <;> rfl), by repeat (first | (with_reducible first | exact HB.out | apply below_alloc | apply pw_below_drewN | apply below_drew1) | exact HB.out)⟩
  · replace c3 := Bool.eq_false_iff.mpr c3
    subst c3
    have H1 : ((spec_DrawPutNums.f k l0).bind fun t533 => ((impl_PutNums.f k t533).bind fun t536 => ((spec_PutNums.f k t533).bind fun t539 => ((laws_sameBytes.f k t536 t539).bind fun t542 => (if t542 = true then (if (t536.length : Int) > 0 then ((impl_TakeNums.f k t536 0).bind fun bt543 => (if 0 ≤ (wrap64 ((t536.length : Int) - 1)) then (if (wrap64 ((t536.length : Int) - 1)) ≤ (t536.length : Int) then ((impl_TakeNums.f k (t536.take ((wrap64 ((t536.length : Int) - 1)) : Int).toNat) 0).bind fun bt551 => (if bt543.2 = (t536.length : Int) then ((laws_same.f k bt543.1 t533).bind fun t555 => (if t555 = true then (if bt551.2 = (-1) then (laws_FnWires.j0 k l0) else (some false)) else (some false))) else (some false))) else (none)) else (none))) else (laws_FnWires.j0 k l0)) else (some false)))))) = some r := by rw [if_neg (show ¬ (false = true) by decide)] at H; exact H
    clear H
    have H := H1
    clear H1
    replace H := Option.bind_eq_some_iff.mp H
    obtain ⟨t533, A40, H⟩ := H
    replace H : ((impl_PutNums.f k t533).bind fun t536 => ((spec_PutNums.f k t533).bind fun t539 => ((laws_sameBytes.f k t536 t539).bind fun t542 => (if t542 = true then (if (t536.length : Int) > 0 then ((impl_TakeNums.f k t536 0).bind fun bt543 => (if 0 ≤ (wrap64 ((t536.length : Int) - 1)) then (if (wrap64 ((t536.length : Int) - 1)) ≤ (t536.length : Int) then ((impl_TakeNums.f k (t536.take ((wrap64 ((t536.length : Int) - 1)) : Int).toNat) 0).bind fun bt551 => (if bt543.2 = (t536.length : Int) then ((laws_same.f k bt543.1 t533).bind fun t555 => (if t555 = true then (if bt551.2 = (-1) then (laws_FnWires.j0 k l0) else (some false)) else (some false))) else (some false))) else (none)) else (none))) else (laws_FnWires.j0 k l0)) else (some false))))) = some r := H
    have A4 := Aside0.mk A40
    clear A40
    replace H := Option.bind_eq_some_iff.mp H
    obtain ⟨t536, A50, H⟩ := H
    replace H : ((spec_PutNums.f k t533).bind fun t539 => ((laws_sameBytes.f k t536 t539).bind fun t542 => (if t542 = true then (if (t536.length : Int) > 0 then ((impl_TakeNums.f k t536 0).bind fun bt543 => (if 0 ≤ (wrap64 ((t536.length : Int) - 1)) then (if (wrap64 ((t536.length : Int) - 1)) ≤ (t536.length : Int) then ((impl_TakeNums.f k (t536.take ((wrap64 ((t536.length : Int) - 1)) : Int).toNat) 0).bind fun bt551 => (if bt543.2 = (t536.length : Int) then ((laws_same.f k bt543.1 t533).bind fun t555 => (if t555 = true then (if bt551.2 = (-1) then (laws_FnWires.j0 k l0) else (some false)) else (some false))) else (some false))) else (none)) else (none))) else (laws_FnWires.j0 k l0)) else (some false)))) = some r := H
    have A5 := Aside0.mk A50
    clear A50
    replace H := Option.bind_eq_some_iff.mp H
    obtain ⟨t539, A60, H⟩ := H
    replace H : ((laws_sameBytes.f k t536 t539).bind fun t542 => (if t542 = true then (if (t536.length : Int) > 0 then ((impl_TakeNums.f k t536 0).bind fun bt543 => (if 0 ≤ (wrap64 ((t536.length : Int) - 1)) then (if (wrap64 ((t536.length : Int) - 1)) ≤ (t536.length : Int) then ((impl_TakeNums.f k (t536.take ((wrap64 ((t536.length : Int) - 1)) : Int).toNat) 0).bind fun bt551 => (if bt543.2 = (t536.length : Int) then ((laws_same.f k bt543.1 t533).bind fun t555 => (if t555 = true then (if bt551.2 = (-1) then (laws_FnWires.j0 k l0) else (some false)) else (some false))) else (some false))) else (none)) else (none))) else (laws_FnWires.j0 k l0)) else (some false))) = some r := H
    have A6 := Aside0.mk A60
    clear A60
    replace H := Option.bind_eq_some_iff.mp H
    obtain ⟨t542, A70, H⟩ := H
    replace H : (if t542 = true then (if (t536.length : Int) > 0 then ((impl_TakeNums.f k t536 0).bind fun bt543 => (if 0 ≤ (wrap64 ((t536.length : Int) - 1)) then (if (wrap64 ((t536.length : Int) - 1)) ≤ (t536.length : Int) then ((impl_TakeNums.f k (t536.take ((wrap64 ((t536.length : Int) - 1)) : Int).toNat) 0).bind fun bt551 => (if bt543.2 = (t536.length : Int) then ((laws_same.f k bt543.1 t533).bind fun t555 => (if t555 = true then (if bt551.2 = (-1) then (laws_FnWires.j0 k l0) else (some false)) else (some false))) else (some false))) else (none)) else (none))) else (laws_FnWires.j0 k l0)) else (some false)) = some r := H
    have A7 := Aside0.mk A70
    clear A70
    by_cases c8 : t542 = true
    · subst c8
      have H1 : (if (t536.length : Int) > 0 then ((impl_TakeNums.f k t536 0).bind fun bt543 => (if 0 ≤ (wrap64 ((t536.length : Int) - 1)) then (if (wrap64 ((t536.length : Int) - 1)) ≤ (t536.length : Int) then ((impl_TakeNums.f k (t536.take ((wrap64 ((t536.length : Int) - 1)) : Int).toNat) 0).bind fun bt551 => (if bt543.2 = (t536.length : Int) then ((laws_same.f k bt543.1 t533).bind fun t555 => (if t555 = true then (if bt551.2 = (-1) then (laws_FnWires.j0 k l0) else (some false)) else (some false))) else (some false))) else (none)) else (none))) else (laws_FnWires.j0 k l0)) = some r := by rw [if_pos rfl] at H; exact H
      clear H
      have H := H1
      clear H1
      have HC9 := Aside0.mk H
      clear H
      go_enter Try.func5, Try.ntmps5
      go_upto_if 37 with (first | ((with_reducible refine gate_callee (f := 16) rfl ?_); refine goesL_ (some 25) rfl rfl Try.func16 (by kernel_rfl) rfl #[.slice A0 l0.length c0] rfl (by (try simp only [List.map_toArray, List.map_cons, List.map_nil]); first | done | rfl | (simp only [List.length_drop, List.length_take]; rfl)) ?_; (with_reducible refine (laws_big.calls _ _ l0 false _ ?side1 ?side2 A2.out).mono ?_); (case side1 => repeat (first | exact HR0.out | (with_reducible refine Kd.C_alloc ?_ _) | (with_reducible refine Kd.C_drewN ?_ _) | (with_reducible refine Kd.C_drew ?_))); (case side2 => exact HC0.out); rintro e w' ⟨rfl, ⟨nd, rfl⟩⟩; refine ⟨_, rfl, ?_⟩) | ((with_reducible refine gate_callee (f := 17) rfl ?_); refine goesL_ (some 27) rfl rfl Try.func17 (by kernel_rfl) rfl #[.slice A0 l0.length c0] rfl (by (try simp only [List.map_toArray, List.map_cons, List.map_nil]); first | done | rfl | (simp only [List.length_drop, List.length_take]; rfl)) ?_; (with_reducible refine (spec_DrawPutNums.calls k _ _ l0 t533 _ ?side1 ?side2 A4.out).mono ?_); (case side1 => repeat (first | exact HR0.out | (with_reducible refine Kd.C_alloc ?_ _) | (with_reducible refine Kd.C_drewN ?_ _) | (with_reducible refine Kd.C_drew ?_))); (case side2 => exact HC0.out); rintro e w10 ⟨v534, rfl, ho0, hb⟩; refine ⟨_, rfl, ?_⟩; have n0_ := Aside0.mk (Kd.R_lower ho0 (below_size (by repeat (first | (with_reducible first | exact HB.out | apply below_alloc | apply pw_below_drewN | apply below_drew1) | exact HB.out)))); have n1_ := Aside0.mk (below_step (by repeat (first | (with_reducible first | exact HB.out | apply below_alloc | apply pw_below_drewN | apply below_drew1) | exact HB.out)) hb); clear HB; have HO535 := n0_; have HB := n1_; clear n0_ n1_; (try clear hb); (try clear hb2); (try clear hk); (try clear hi); (try clear ho0); obtain ⟨Ao11, co11, eo11⟩ := Kd.R_slice HO535.out; subst eo11) | ((with_reducible refine gate_callee (f := 18) rfl ?_); refine goesL_ (some 29) rfl rfl Try.func18 (by kernel_rfl) rfl #[.slice Ao11 t533.length co11] rfl (by (try simp only [List.map_toArray, List.map_cons, List.map_nil]); first | done | rfl | (simp only [List.length_drop, List.length_take]; rfl)) ?_; (with_reducible refine (impl_PutNums.calls k _ _ t533 t536 _ ?side1 ?side2 A5.out).mono ?_); (case side1 => repeat (first | exact (Kd.R_reads' HO535.out).2.2 | (with_reducible refine Kd.C_alloc ?_ _) | (with_reducible refine Kd.C_drewN ?_ _) | (with_reducible refine Kd.C_drew ?_))); (case side2 => exact (Kd.R_reads' HO535.out).2.1); rintro e w12 ⟨v537, rfl, ho0, hb⟩; refine ⟨_, rfl, ?_⟩; have n0_ := Aside0.mk (Kd.R_below (by (with_reducible repeat (first | apply Kd.R_alloc | apply Kd.R_drewN | apply Kd.R_drew)); exact HO535.out) hb); have n1_ := Aside0.mk (Kd.R_lower ho0 (below_size (by repeat (first | (with_reducible first | exact HB.out | apply below_alloc | apply pw_below_drewN | apply below_drew1) | exact HB.out)))); have n2_ := Aside0.mk (below_step (by repeat (first | (with_reducible first | exact HB.out | apply below_alloc | apply pw_below_drewN | apply below_drew1) | exact HB.out)) hb); clear HO535; clear HB; have HO535 := n0_; have HO538 := n1_; have HB := n2_; clear n0_ n1_ n2_; (try clear hb); (try clear hb2); (try clear hk); (try clear hi); (try clear ho0)) | ((with_reducible refine gate_callee (f := 20) rfl ?_); refine goesL_ (some 32) rfl rfl Try.func20 (by kernel_rfl) rfl #[.slice Ao11 t533.length co11] rfl (by (try simp only [List.map_toArray, List.map_cons, List.map_nil]); first | done | rfl | (simp only [List.length_drop, List.length_take]; rfl)) ?_; (with_reducible refine (spec_PutNums.calls k _ _ t533 t539 _ ?side1 ?side2 A6.out).mono ?_); (case side1 => repeat (first | exact (Kd.R_reads' HO535.out).2.2 | (with_reducible refine Kd.C_alloc ?_ _) | (with_reducible refine Kd.C_drewN ?_ _) | (with_reducible refine Kd.C_drew ?_))); (case side2 => exact (Kd.R_reads' HO535.out).2.1); rintro e w13 ⟨v540, rfl, ho0, hb⟩; refine ⟨_, rfl, ?_⟩; have n0_ := Aside0.mk (Kd.R_below (by (with_reducible repeat (first | apply Kd.R_alloc | apply Kd.R_drewN | apply Kd.R_drew)); exact HO535.out) hb); have n1_ := Aside0.mk (Kd.R_elder' (by (with_reducible repeat (first | apply Kd.R_alloc | apply Kd.R_drewN | apply Kd.R_drew)); exact HO538.out) (Kd.R_base ho0) hb); have n2_ := Aside0.mk (Kd.R_lower (Kd.R_new' ho0 (Kd.R_lt (by (with_reducible repeat (first | apply Kd.R_alloc | apply Kd.R_drewN | apply Kd.R_drew)); exact HO538.out))) (below_size (by repeat (first | (with_reducible first | exact HB.out | apply below_alloc | apply pw_below_drewN | apply below_drew1) | exact HB.out)))); have n3_ := Aside0.mk (below_step (by repeat (first | (with_reducible first | exact HB.out | apply below_alloc | apply pw_below_drewN | apply below_drew1) | exact HB.out)) hb); clear HO535; clear HO538; clear HB; have HO535 := n0_; have HO538 := n1_; have HO541 := n2_; have HB := n3_; clear n0_ n1_ n2_ n3_; (try clear hb); (try clear hb2); (try clear hk); (try clear hi); (try clear ho0); obtain ⟨Ao14, co14, eo14⟩ := Kd.R_slice HO538.out; subst eo14; obtain ⟨Ao15, co15, eo15⟩ := Kd.R_slice HO541.out; subst eo15) | ((with_reducible refine gate_callee (f := 19) rfl ?_); refine goesL_ (some 33) rfl rfl Try.func19 (by kernel_rfl) rfl #[.slice Ao14 t536.length co14, .slice Ao15 t539.length co15] rfl (by (try simp only [List.map_toArray, List.map_cons, List.map_nil]); first | done | rfl | (simp only [List.length_drop, List.length_take]; rfl)) ?_; (with_reducible refine (laws_sameBytes.calls k _ _ t536 _ _ t539 true _ ?side1 ?side2 ?side3 ?side4 A7.out).mono ?_); (case side1 => repeat (first | exact (Kd.R_reads' HO538.out).2.2 | (with_reducible refine Kd.C_alloc ?_ _) | (with_reducible refine Kd.C_drewN ?_ _) | (with_reducible refine Kd.C_drew ?_))); (case side2 => exact (Kd.R_reads' HO538.out).2.1); (case side3 => repeat (first | exact (Kd.R_reads' HO541.out).2.2 | (with_reducible refine Kd.C_alloc ?_ _) | (with_reducible refine Kd.C_drewN ?_ _) | (with_reducible refine Kd.C_drew ?_))); (case side4 => exact (Kd.R_reads' HO541.out).2.1); rintro e w' ⟨rfl, ⟨nd, rfl⟩⟩; refine ⟨_, rfl, ?_⟩))
      (try simp only [Act.put, List.setIfInBounds_toArray, List.set_cons_zero, List.set_cons_succ])
      go_cut [] (fun wc => ∃ (kq : Nat), Aside0 (laws_FnWires.j0 kq l0 = some r) ∧ Aside0 (kq ≤ k) ∧ Aside0 (Below w.heap.size w wc))
      case first =>
        have H := HC9.out
        clear HC9
        by_cases c16 : (t536.length : Int) > 0
        · rw [if_pos c16] at H
          have c16b0 : decide (0 < (t536.length : Int)) = true := decide_eq_true c16
          have c16b1 : decide (0 < t536.length) = true := decide_eq_true (by omega)
          clear c16
          (first | rw [c16b0] | rw [c16b1] | (simp only [i64_w, i32_w]; rw [c16b0]) | skip)
          replace H := Option.bind_eq_some_iff.mp H
          obtain ⟨⟨t543, t544⟩, A170, H⟩ := H
          replace H : (if 0 ≤ (wrap64 ((t536.length : Int) - 1)) then (if (wrap64 ((t536.length : Int) - 1)) ≤ (t536.length : Int) then ((impl_TakeNums.f k (t536.take ((wrap64 ((t536.length : Int) - 1)) : Int).toNat) 0).bind fun bt551 => (if t544 = (t536.length : Int) then ((laws_same.f k t543 t533).bind fun t555 => (if t555 = true then (if bt551.2 = (-1) then (laws_FnWires.j0 k l0) else (some false)) else (some false))) else (some false))) else (none)) else (none)) = some r := H
          have A17 := Aside0.mk A170
          clear A170
          obtain ⟨ji18, hji18⟩ : ∃ j_ : Int, (wrap64 ((t536.length : Int) - 1)) = j_ := ⟨_, rfl⟩
          replace H : (if 0 ≤ (ji18) then (if (ji18) ≤ (t536.length : Int) then ((impl_TakeNums.f k (t536.take ((ji18) : Int).toNat) 0).bind fun bt551 => (if t544 = (t536.length : Int) then ((laws_same.f k t543 t533).bind fun t555 => (if t555 = true then (if bt551.2 = (-1) then (laws_FnWires.j0 k l0) else (some false)) else (some false))) else (some false))) else (none)) else (none)) = some r := by first | (rw [hji18] at H; exact H) | (simp only [hji18] at H ⊢; exact H)
          (try rw [hji18] at A17)
          have hji18w : (IntKind.i64.wrap ((t536.length : Int) - 1)) = ji18 := (i64_w _).trans hji18
          by_cases c19 : 0 ≤ (ji18)
          · rw [if_pos c19] at H
            have c19b0 := eq_true c19
            have c19b1 : decide (0 ≤ (ji18)) = true := decide_eq_true c19
            clear c19
            by_cases c20 : (ji18) ≤ (t536.length : Int)
            · rw [if_pos c20] at H
              have c20b0 := eq_true c20
              have c20b1 : decide ((ji18) ≤ (t536.length : Int)) = true := decide_eq_true c20
              clear c20
              obtain ⟨y547, hy547⟩ : ∃ y_ : List Int, y_ = (t536.take ((ji18) : Int).toNat) := ⟨_, rfl⟩
              replace H : ((impl_TakeNums.f k y547 0).bind fun bt551 => (if t544 = (t536.length : Int) then ((laws_same.f k t543 t533).bind fun t555 => (if t555 = true then (if bt551.2 = (-1) then (laws_FnWires.j0 k l0) else (some false)) else (some false))) else (some false))) = some r := by first | (rw [hy547]; with_reducible exact H) | (have H2_ := (Option.bind_some _ _).symm.trans H; rw [hy547]; with_reducible exact H2_) | (have H2_ := (Option.bind_some _ _).symm.trans H; with_reducible exact H2_) | with_reducible exact H | (rw [hy547]; exact H) | exact H
              have Ny547 := Aside0.mk hy547
              clear hy547
              replace H := Option.bind_eq_some_iff.mp H
              obtain ⟨⟨t551, t552⟩, A210, H⟩ := H
              replace H : (if t544 = (t536.length : Int) then ((laws_same.f k t543 t533).bind fun t555 => (if t555 = true then (if t552 = (-1) then (laws_FnWires.j0 k l0) else (some false)) else (some false))) else (some false)) = some r := H
              have A21 := Aside0.mk A210
              clear A210
              by_cases c22 : t544 = (t536.length : Int)
              · rw [if_pos c22] at H
                have c22b0 : (t544 == (t536.length : Int)) = true := beq_iff_eq.mpr c22
                have c22b1 : (t544 != (t536.length : Int)) = false := bne_eq_false_iff_eq.mpr c22
                clear c22
                replace H := Option.bind_eq_some_iff.mp H
                obtain ⟨t555, A230, H⟩ := H
                replace H : (if t555 = true then (if t552 = (-1) then (laws_FnWires.j0 k l0) else (some false)) else (some false)) = some r := H
                have A23 := Aside0.mk A230
                clear A230
                by_cases c24 : t555 = true
                · subst c24
                  have H1 : (if t552 = (-1) then (laws_FnWires.j0 k l0) else (some false)) = some r := by rw [if_pos rfl] at H; exact H
                  clear H
                  have H := H1
                  clear H1
                  by_cases c25 : t552 = (-1)
                  · rw [if_pos c25] at H
                    have c25b0 : (t552 == (-1)) = true := beq_iff_eq.mpr c25
                    have c25b1 : (t552 != (-1)) = false := bne_eq_false_iff_eq.mpr c25
                    clear c25
                    have H' := Aside0.mk H
                    clear H
                    go_wp2_with (first | ((with_reducible refine gate_callee (f := 21) rfl ?_); refine goesL_ (some 40) rfl rfl Try.func21 (by kernel_rfl) rfl #[.slice Ao14 t536.length co14, .int .i64 0] rfl (by (try simp only [List.map_toArray, List.map_cons, List.map_nil]); first | done | rfl | (simp only [List.length_drop, List.length_take]; rfl)) ?_; (with_reducible refine (impl_TakeNums.calls k _ _ t536 0 t543 t544 _ ?side1 ?side2 A17.out).mono ?_); (case side1 => repeat (first | exact (Kd.R_reads' HO538.out).2.2 | (with_reducible refine Kd.C_alloc ?_ _) | (with_reducible refine Kd.C_drewN ?_ _) | (with_reducible refine Kd.C_drew ?_))); (case side2 => exact (Kd.R_reads' HO538.out).2.1); rintro e w26 ⟨v545, rfl, ho0, hb⟩; refine ⟨_, rfl, ?_⟩; have n0_ := Aside0.mk (Kd.R_elder' (by (with_reducible repeat (first | apply Kd.R_alloc | apply Kd.R_drewN | apply Kd.R_drew)); exact HO535.out) (Kd.R_base ho0) hb); have n1_ := Aside0.mk (Kd.R_below (by (with_reducible repeat (first | apply Kd.R_alloc | apply Kd.R_drewN | apply Kd.R_drew)); exact HO538.out) hb); have n2_ := Aside0.mk (Kd.R_below (by (with_reducible repeat (first | apply Kd.R_alloc | apply Kd.R_drewN | apply Kd.R_drew)); exact HO541.out) hb); have n3_ := Aside0.mk (Kd.R_lower (Kd.R_new' ho0 (Kd.R_lt (by (with_reducible repeat (first | apply Kd.R_alloc | apply Kd.R_drewN | apply Kd.R_drew)); exact HO535.out))) (below_size (by repeat (first | (with_reducible first | exact HB.out | apply below_alloc | apply pw_below_drewN | apply below_drew1) | exact HB.out)))); have n4_ := Aside0.mk (below_step (by repeat (first | (with_reducible first | exact HB.out | apply below_alloc | apply pw_below_drewN | apply below_drew1) | exact HB.out)) hb); clear HO535; clear HO538; clear HO541; clear HB; have HO535 := n0_; have HO538 := n1_; have HO541 := n2_; have HO546 := n3_; have HB := n4_; clear n0_ n1_ n2_ n3_ n4_; (try clear hb); (try clear hb2); (try clear hk); (try clear hi); (try clear ho0); have q27 : ((ji18) : Int) ≤ ((t536.length : Int) : Int) := of_decide_eq_true (by first | (with_reducible assumption) | assumption); obtain ⟨i027, hi027, _, hsz27, _⟩ := info_parts info5; have hroom27 : t536.length ≤ co14 := (Kd.R_reads' HO538.out).2.1; have hC27 : Kd.C (Kd.int .u8) _ Ao14 t536.length t536 := (Kd.R_reads' HO538.out).2.2; have hcut27 := cut_to (P := Try.prog) 27 5 .i64 Try.underlying27 hi027 Ao14 t536.length co14 (ji18) (of_decide_eq_true (by first | (with_reducible assumption) | assumption)) q27 hroom27; have hr27 := Kd.C_take (m := ((ji18) : Int).toNat) hC27 (by omega); have hy27 : y547.length = ((ji18) : Int).toNat := (by rw [Ny547.out, List.length_take]; omega); rw [← Ny547.out] at hr27; rw [← hy27] at hcut27; have HR550 := Aside0.mk hr27; have HC550 := Aside0.mk (show y547.length ≤ co14 from by omega); clear hr27 hC27 hroom27 hi027 hsz27; have KY27 := Aside0.mk hy27; clear hy27; have KL27 := Aside0.mk (show ((ji18) : Int).toNat ≤ t536.length from by omega); replace q27 := eq_true q27) | ((with_reducible refine gate_callee (f := 21) rfl ?_); refine goesL_ (some 49) rfl rfl Try.func21 (by kernel_rfl) rfl #[.slice Ao14 y547.length co14, .int .i64 0] rfl (by (try simp only [List.map_toArray, List.map_cons, List.map_nil]); first | done | rfl | (simp only [List.length_drop, List.length_take]; rfl)) ?_; (with_reducible refine (impl_TakeNums.calls k _ _ y547 0 t551 t552 _ ?side1 ?side2 A21.out).mono ?_); (case side1 => repeat (first | exact (by repeat (first | (with_reducible exact HR550.out) | (with_reducible refine Kd.C_alloc ?_ _) | (with_reducible refine Kd.C_drewN ?_ _) | (with_reducible refine Kd.C_drew ?_) | exact HR550.out)) | (with_reducible refine Kd.C_alloc ?_ _) | (with_reducible refine Kd.C_drewN ?_ _) | (with_reducible refine Kd.C_drew ?_))); (case side2 => exact HC550.out); rintro e w28 ⟨v553, rfl, ho0, hb⟩; refine ⟨_, rfl, ?_⟩; have n0_ := Aside0.mk (Kd.R_elder' (by (with_reducible repeat (first | apply Kd.R_alloc | apply Kd.R_drewN | apply Kd.R_drew)); exact HO535.out) (Kd.R_base ho0) hb); have n1_ := Aside0.mk (Kd.R_below (by (with_reducible repeat (first | apply Kd.R_alloc | apply Kd.R_drewN | apply Kd.R_drew)); exact HO538.out) hb); have n2_ := Aside0.mk (Kd.R_below (by (with_reducible repeat (first | apply Kd.R_alloc | apply Kd.R_drewN | apply Kd.R_drew)); exact HO541.out) hb); have n3_ := Aside0.mk (Kd.R_elder' (by (with_reducible repeat (first | apply Kd.R_alloc | apply Kd.R_drewN | apply Kd.R_drew)); exact HO546.out) (Kd.R_base ho0) hb); have n4_ := Aside0.mk (Kd.R_lower (Kd.R_new' (Kd.R_new' ho0 (Kd.R_lt (by (with_reducible repeat (first | apply Kd.R_alloc | apply Kd.R_drewN | apply Kd.R_drew)); exact HO535.out))) (Kd.R_lt (by (with_reducible repeat (first | apply Kd.R_alloc | apply Kd.R_drewN | apply Kd.R_drew)); exact HO546.out))) (below_size (by repeat (first | (with_reducible first | exact HB.out | apply below_alloc | apply pw_below_drewN | apply below_drew1) | exact HB.out)))); have n5_ := Aside0.mk (Kd.C_below (by repeat (first | (with_reducible exact HR550.out) | (with_reducible refine Kd.C_alloc ?_ _) | (with_reducible refine Kd.C_drewN ?_ _) | (with_reducible refine Kd.C_drew ?_) | exact HR550.out)) hb); have n6_ := Aside0.mk (below_step (by repeat (first | (with_reducible first | exact HB.out | apply below_alloc | apply pw_below_drewN | apply below_drew1) | exact HB.out)) hb); clear HO535; clear HO538; clear HO541; clear HO546; clear HR550; clear HB; have HO535 := n0_; have HO538 := n1_; have HO541 := n2_; have HO546 := n3_; have HO554 := n4_; have HR550 := n5_; have HB := n6_; clear n0_ n1_ n2_ n3_ n4_ n5_ n6_; (try clear hb); (try clear hb2); (try clear hk); (try clear hi); (try clear ho0); obtain ⟨Ao29, co29, eo29⟩ := Kd.R_slice HO546.out; subst eo29) | (go_at_call 22; (with_reducible refine (laws_same.calls k _ _ t543 _ _ t533 true _ ?side1 ?side2 ?side3 ?side4 A23.out).mono ?_); (case side1 => repeat (first | exact (Kd.R_reads' HO546.out).2.2 | (with_reducible refine Kd.C_alloc ?_ _) | (with_reducible refine Kd.C_drewN ?_ _) | (with_reducible refine Kd.C_drew ?_))); (case side2 => exact (Kd.R_reads' HO546.out).2.1); (case side3 => repeat (first | exact (Kd.R_reads' HO535.out).2.2 | (with_reducible refine Kd.C_alloc ?_ _) | (with_reducible refine Kd.C_drewN ?_ _) | (with_reducible refine Kd.C_drew ?_))); (case side4 => exact (Kd.R_reads' HO535.out).2.1); rintro e w' ⟨rfl, ⟨nd, rfl⟩⟩))
                    go_meet
                    case rel => exact ⟨_, H', ⟨by first | omega | exact Nat.le_refl _⟩, ⟨by repeat (first | (with_reducible first | exact HB.out | apply below_alloc | apply pw_below_drewN | apply below_drew1) | exact HB.out)⟩⟩
                  · rw [if_neg c25] at H
                    have c25b0 : (t552 == (-1)) = false := beq_eq_false_iff_ne.mpr c25
                    have c25b1 : (t552 != (-1)) = true := bne_iff_ne.mpr c25
                    exact absurd ((Option.some.inj H).trans hr_) (by decide)
                · replace c24 := Bool.eq_false_iff.mpr c24
                  subst c24
                  have H1 : (some false) = some r := by rw [if_neg (show ¬ (false = true) by decide)] at H; exact H
                  clear H
                  have H := H1
                  clear H1
                  exact absurd ((Option.some.inj H).trans hr_) (by decide)
              · rw [if_neg c22] at H
                have c22b0 : (t544 == (t536.length : Int)) = false := beq_eq_false_iff_ne.mpr c22
                have c22b1 : (t544 != (t536.length : Int)) = true := bne_iff_ne.mpr c22
                exact absurd ((Option.some.inj H).trans hr_) (by decide)
            · rw [if_neg c20] at H
              exact absurd H (by simp)
          · rw [if_neg c19] at H
            exact absurd H (by simp)
        · rw [if_neg c16] at H
          have c16b0 : decide (0 < (t536.length : Int)) = false := decide_eq_false c16
          have c16b1 : decide (0 < t536.length) = false := decide_eq_false (by omega)
          clear c16
          (first | rw [c16b0] | rw [c16b1] | (simp only [i64_w, i32_w]; rw [c16b0]) | skip)
          have H' := Aside0.mk H
          clear H
          go_wp2
          go_meet
          case rel => exact ⟨_, H', ⟨by first | omega | exact Nat.le_refl _⟩, ⟨by repeat (first | (with_reducible first | exact HB.out | apply below_alloc | apply pw_below_drewN | apply below_drew1) | exact HB.out)⟩⟩
      case rest =>
        clear HC9
        try clear c1
        try clear c2
        try clear p2
        try clear q2
        try clear c3
        try clear q3
        try clear c5
        try clear p6
        try clear c8
        try clear c16
        try clear c16b0
        try clear c16b1
        try clear c17
        try clear c18
        try clear c19
        try clear c19b0
        try clear c19b1
        try clear c20
        try clear c20b0
        try clear c20b1
        try clear c21
        try clear c22
        try clear c22b0
        try clear c22b1
        try clear c24
        try clear c25
        try clear c25b0
        try clear c25b1
        try clear q27
        try clear q31
        try clear q35
        try clear q39
        try clear q27
        try clear q31
        try clear q35
        try clear q39
        obtain ⟨kq, HA, HJ8, HB⟩ := hcut
        cases kq with
        | zero => exact absurd HA.out (by simp [laws_FnWires.j0])
        | succ kj8 =>
          have H := HA.out
          clear HA
          simp only [laws_FnWires.j0] at H
          replace H := Option.bind_eq_some_iff.mp H
          obtain ⟨t556, A410, H⟩ := H
          replace H : ((spec_DrawPutWord.f kj8 t556).bind fun t559 => ((impl_PutWord.f kj8 t559).bind fun t560 => ((spec_WordOk.f kj8 t559).bind fun t563 => (if ((decide ((t560.length : Int) > 0)) != t563) = true then (some false) else (if (t560.length : Int) > 0 then ((impl_TakeWord.f kj8 t560 0).bind fun bt564 => (if bt564.1.toList = t559.toList then (if bt564.2 = (t560.length : Int) then (laws_FnWires.j1 kj8 l0) else (some false)) else (some false))) else (laws_FnWires.j1 kj8 l0)))))) = some r := H
          have A41 := Aside0.mk A410
          clear A410
          replace H := Option.bind_eq_some_iff.mp H
          obtain ⟨t559, A420, H⟩ := H
          replace H : ((impl_PutWord.f kj8 t559).bind fun t560 => ((spec_WordOk.f kj8 t559).bind fun t563 => (if ((decide ((t560.length : Int) > 0)) != t563) = true then (some false) else (if (t560.length : Int) > 0 then ((impl_TakeWord.f kj8 t560 0).bind fun bt564 => (if bt564.1.toList = t559.toList then (if bt564.2 = (t560.length : Int) then (laws_FnWires.j1 kj8 l0) else (some false)) else (some false))) else (laws_FnWires.j1 kj8 l0))))) = some r := H
          have A42 := Aside0.mk A420
          clear A420
          replace H := Option.bind_eq_some_iff.mp H
          obtain ⟨t560, A430, H⟩ := H
          replace H : ((spec_WordOk.f kj8 t559).bind fun t563 => (if ((decide ((t560.length : Int) > 0)) != t563) = true then (some false) else (if (t560.length : Int) > 0 then ((impl_TakeWord.f kj8 t560 0).bind fun bt564 => (if bt564.1.toList = t559.toList then (if bt564.2 = (t560.length : Int) then (laws_FnWires.j1 kj8 l0) else (some false)) else (some false))) else (laws_FnWires.j1 kj8 l0)))) = some r := H
          have A43 := Aside0.mk A430
          clear A430
          replace H := Option.bind_eq_some_iff.mp H
          obtain ⟨t563, A440, H⟩ := H
          replace H : (if ((decide ((t560.length : Int) > 0)) != t563) = true then (some false) else (if (t560.length : Int) > 0 then ((impl_TakeWord.f kj8 t560 0).bind fun bt564 => (if bt564.1.toList = t559.toList then (if bt564.2 = (t560.length : Int) then (laws_FnWires.j1 kj8 l0) else (some false)) else (some false))) else (laws_FnWires.j1 kj8 l0))) = some r := H
          have A44 := Aside0.mk A440
          clear A440
          by_cases c45 : ((decide ((t560.length : Int) > 0)) != t563) = true
          · rw [if_pos c45] at H
            have c45b0 : ((decide ((t560.length : Int) > 0)) != t563) = true := c45
            (try (have c45b1 : decide ((decide ((t560.length : Int) > 0)) = t563) = false := by simpa using c45))
            (try (have c45b2 : ((decide ((t560.length : Int) > 0)) == t563) = false := by simpa using c45))
            (try (have c45b4 : ((decide (0 < t560.length)) == t563) = false := by simpa using c45))
            (try (have c45b3 : ¬ ((decide ((t560.length : Int) > 0)) = t563) := by simpa using c45))
            clear c45
            exact absurd ((Option.some.inj H).trans hr_) (by decide)
          · rw [if_neg c45] at H
            have c45b0 : ((decide ((t560.length : Int) > 0)) != t563) = false := by simpa using c45
            (try (have c45b1 : decide ((decide ((t560.length : Int) > 0)) = t563) = true := by simpa using c45))
            (try (have c45b2 : ((decide ((t560.length : Int) > 0)) == t563) = true := by simpa using c45))
            (try (have c45b4 : ((decide (0 < t560.length)) == t563) = true := by simpa using c45))
            clear c45
            have HC51 := Aside0.mk H
            clear H
            go_upto_if 79 with (first | ((with_reducible refine gate_callee (f := 24) rfl ?_); refine goesL_ (some 67) rfl rfl Try.func24 (by kernel_rfl) rfl #[.slice A0 l0.length c0, .int .i64 1] rfl (by (try simp only [List.map_toArray, List.map_cons, List.map_nil]); first | done | rfl | (simp only [List.length_drop, List.length_take]; rfl)) ?_; (with_reducible refine (laws_alt.calls kj8 _ _ l0 1 t556 _ ?side1 ?side2 A41.out).mono ?_); (case side1 => repeat (first | exact (Kd.C_below HR0.out HB.out) | (with_reducible refine Kd.C_alloc ?_ _) | (with_reducible refine Kd.C_drewN ?_ _) | (with_reducible refine Kd.C_drew ?_))); (case side2 => exact HC0.out); rintro e w52 ⟨v557, rfl, ho0, hb⟩; refine ⟨_, rfl, ?_⟩; have n0_ := Aside0.mk (Kd.R_lower ho0 (below_size (by repeat (first | (with_reducible first | exact HB.out | apply below_alloc | apply pw_below_drewN | apply below_drew1) | exact HB.out)))); have n1_ := Aside0.mk (below_step (by repeat (first | (with_reducible first | exact HB.out | apply below_alloc | apply pw_below_drewN | apply below_drew1) | exact HB.out)) hb); clear HB; have HO558 := n0_; have HB := n1_; clear n0_ n1_; (try clear hb); (try clear hb2); (try clear hk); (try clear hi); (try clear ho0); obtain ⟨Ao53, co53, eo53⟩ := Kd.R_slice HO558.out; subst eo53) | ((with_reducible refine gate_callee (f := 23) rfl ?_); refine goesL_ (some 68) rfl rfl Try.func23 (by kernel_rfl) rfl #[.slice Ao53 t556.length co53] rfl (by (try simp only [List.map_toArray, List.map_cons, List.map_nil]); first | done | rfl | (simp only [List.length_drop, List.length_take]; rfl)) ?_; (with_reducible refine (spec_DrawPutWord.calls kj8 _ _ t556 t559 _ ?side1 ?side2 A42.out).mono ?_); (case side1 => repeat (first | exact (Kd.R_reads' HO558.out).2.2 | (with_reducible refine Kd.C_alloc ?_ _) | (with_reducible refine Kd.C_drewN ?_ _) | (with_reducible refine Kd.C_drew ?_))); (case side2 => exact (Kd.R_reads' HO558.out).2.1); rintro e w54 ⟨rfl, hb⟩; refine ⟨_, rfl, ?_⟩; have n0_ := Aside0.mk (Kd.R_below (by (with_reducible repeat (first | apply Kd.R_alloc | apply Kd.R_drewN | apply Kd.R_drew)); exact HO558.out) hb); have n1_ := Aside0.mk (below_step (by repeat (first | (with_reducible first | exact HB.out | apply below_alloc | apply pw_below_drewN | apply below_drew1) | exact HB.out)) hb); clear HO558; clear HB; have HO558 := n0_; have HB := n1_; clear n0_ n1_; (try clear hb); (try clear hb2); (try clear hk); (try clear hi)) | ((with_reducible refine gate_callee (f := 25) rfl ?_); refine goesL_ (some 70) rfl rfl Try.func25 (by kernel_rfl) rfl #[.string t559] rfl (by (try simp only [List.map_toArray, List.map_cons, List.map_nil]); first | done | rfl | (simp only [List.length_drop, List.length_take]; rfl)) ?_; (with_reducible refine (impl_PutWord.calls kj8 t559 t560 _ A43.out).mono ?_); rintro e w55 ⟨v561, rfl, ho0, hb⟩; refine ⟨_, rfl, ?_⟩; have n0_ := Aside0.mk (Kd.R_elder' (by (with_reducible repeat (first | apply Kd.R_alloc | apply Kd.R_drewN | apply Kd.R_drew)); exact HO558.out) (Kd.R_base ho0) hb); have n1_ := Aside0.mk (Kd.R_lower (Kd.R_new' ho0 (Kd.R_lt (by (with_reducible repeat (first | apply Kd.R_alloc | apply Kd.R_drewN | apply Kd.R_drew)); exact HO558.out))) (below_size (by repeat (first | (with_reducible first | exact HB.out | apply below_alloc | apply pw_below_drewN | apply below_drew1) | exact HB.out)))); have n2_ := Aside0.mk (below_step (by repeat (first | (with_reducible first | exact HB.out | apply below_alloc | apply pw_below_drewN | apply below_drew1) | exact HB.out)) hb); clear HO558; clear HB; have HO558 := n0_; have HO562 := n1_; have HB := n2_; clear n0_ n1_ n2_; (try clear hb); (try clear hb2); (try clear hk); (try clear hi); (try clear ho0); obtain ⟨Ao56, co56, eo56⟩ := Kd.R_slice HO562.out; subst eo56) | ((with_reducible refine gate_callee (f := 26) rfl ?_); refine goesL_ (some 75) rfl rfl Try.func26 (by kernel_rfl) rfl #[.string t559] rfl (by (try simp only [List.map_toArray, List.map_cons, List.map_nil]); first | done | rfl | (simp only [List.length_drop, List.length_take]; rfl)) ?_; (with_reducible refine (spec_WordOk.calls kj8 t559 t563 _ A44.out).mono ?_); rintro e w' ⟨rfl, ⟨nd, rfl⟩⟩; refine ⟨_, rfl, ?_⟩))
            (try simp only [Act.put, List.setIfInBounds_toArray, List.set_cons_zero, List.set_cons_succ])
            go_cut [] (fun wc => ∃ (kq : Nat), Aside0 (laws_FnWires.j1 kq l0 = some r) ∧ Aside0 (kq ≤ kj8) ∧ Aside0 (Below w.heap.size w wc))
            case first =>
              have H := HC51.out
              clear HC51
              by_cases c57 : (t560.length : Int) > 0
              · rw [if_pos c57] at H
                have c57b0 : decide (0 < (t560.length : Int)) = true := decide_eq_true c57
                have c57b1 : decide (0 < t560.length) = true := decide_eq_true (by omega)
                clear c57
                (first | rw [c57b0] | rw [c57b1] | (simp only [i64_w, i32_w]; rw [c57b0]) | skip)
                replace H := Option.bind_eq_some_iff.mp H
                obtain ⟨⟨t564, t565⟩, A580, H⟩ := H
                replace H : (if t564.toList = t559.toList then (if t565 = (t560.length : Int) then (laws_FnWires.j1 kj8 l0) else (some false)) else (some false)) = some r := H
                have A58 := Aside0.mk A580
                clear A580
                by_cases c59 : t564.toList = t559.toList
                · rw [if_pos c59] at H
                  have c59b0 : (t564.toList == t559.toList) = true := beq_iff_eq.mpr c59
                  have c59b1 : (t564.toList != t559.toList) = false := bne_eq_false_iff_eq.mpr c59
                  clear c59
                  by_cases c60 : t565 = (t560.length : Int)
                  · rw [if_pos c60] at H
                    have c60b0 : (t565 == (t560.length : Int)) = true := beq_iff_eq.mpr c60
                    have c60b1 : (t565 != (t560.length : Int)) = false := bne_eq_false_iff_eq.mpr c60
                    clear c60
                    have H' := Aside0.mk H
                    clear H
                    go_wp2_with (first | ((with_reducible refine gate_callee (f := 27) rfl ?_); refine goesL_ (some 82) rfl rfl Try.func27 (by kernel_rfl) rfl #[.slice Ao56 t560.length co56, .int .i64 0] rfl (by (try simp only [List.map_toArray, List.map_cons, List.map_nil]); first | done | rfl | (simp only [List.length_drop, List.length_take]; rfl)) ?_; (with_reducible refine (impl_TakeWord.calls kj8 _ _ t560 0 t564 t565 _ ?side1 ?side2 A58.out).mono ?_); (case side1 => repeat (first | exact (Kd.R_reads' HO562.out).2.2 | (with_reducible refine Kd.C_alloc ?_ _) | (with_reducible refine Kd.C_drewN ?_ _) | (with_reducible refine Kd.C_drew ?_))); (case side2 => exact (Kd.R_reads' HO562.out).2.1); rintro e w' ⟨rfl, ⟨nd, rfl⟩⟩; refine ⟨_, rfl, ?_⟩))
                    go_meet
                    case rel => exact ⟨_, H', ⟨by have := HJ8.out; first | omega | exact Nat.le_refl _⟩, ⟨by repeat (first | (with_reducible first | exact HB.out | apply below_alloc | apply pw_below_drewN | apply below_drew1) | exact HB.out)⟩⟩
                  · rw [if_neg c60] at H
                    have c60b0 : (t565 == (t560.length : Int)) = false := beq_eq_false_iff_ne.mpr c60
                    have c60b1 : (t565 != (t560.length : Int)) = true := bne_iff_ne.mpr c60
                    exact absurd ((Option.some.inj H).trans hr_) (by decide)
                · rw [if_neg c59] at H
                  have c59b0 : (t564.toList == t559.toList) = false := beq_eq_false_iff_ne.mpr c59
                  have c59b1 : (t564.toList != t559.toList) = true := bne_iff_ne.mpr c59
                  exact absurd ((Option.some.inj H).trans hr_) (by decide)
              · rw [if_neg c57] at H
                have c57b0 : decide (0 < (t560.length : Int)) = false := decide_eq_false c57
                have c57b1 : decide (0 < t560.length) = false := decide_eq_false (by omega)
                clear c57
                (first | rw [c57b0] | rw [c57b1] | (simp only [i64_w, i32_w]; rw [c57b0]) | skip)
                have H' := Aside0.mk H
                clear H
                go_wp2
                go_meet
                case rel => exact ⟨_, H', ⟨by have := HJ8.out; first | omega | exact Nat.le_refl _⟩, ⟨by repeat (first | (with_reducible first | exact HB.out | apply below_alloc | apply pw_below_drewN | apply below_drew1) | exact HB.out)⟩⟩
            case rest =>
              clear HC51
              try clear c1
              try clear c2
              try clear p2
              try clear q2
              try clear c3
              try clear q3
              try clear c4
              try clear c5
              try clear c6
              try clear p6
              try clear c8
              try clear c16
              try clear c16b0
              try clear c16b1
              try clear c17
              try clear c18
              try clear c19
              try clear c19b0
              try clear c19b1
              try clear c20
              try clear c20b0
              try clear c20b1
              try clear c21
              try clear c22
              try clear c22b0
              try clear c22b1
              try clear c23
              try clear c24
              try clear c25
              try clear c25b0
              try clear c25b1
              try clear c26
              try clear c27
              try clear q27
              try clear q31
              try clear q35
              try clear q39
              try clear c45
              try clear c45b0
              try clear c45b1
              try clear c45b2
              try clear c57
              try clear c57b0
              try clear c57b1
              try clear c59
              try clear c59b0
              try clear c59b1
              try clear c60
              try clear c60b0
              try clear c60b1
              try clear p2
              try clear p6
              try clear q2
              try clear q27
              try clear q3
              try clear q31
              try clear q35
              try clear q39
              obtain ⟨kq, HA, HJ50, HB⟩ := hcut
              cases kq with
              | zero => exact absurd HA.out (by simp [laws_FnWires.j1])
              | succ kj50 =>
                have H := HA.out
                clear HA
                simp only [laws_FnWires.j1] at H
                replace H := Option.bind_eq_some_iff.mp H
                obtain ⟨t566, A610, H⟩ := H
                replace H : ((spec_DrawFrame.f kj50 t566).bind fun t569 => ((impl_Frame.f kj50 t569).bind fun bt572 => ((spec_Frame.f kj50 t569).bind fun bt576 => (if (bt576.2 != bt572.2) = true then (laws_FnWires.j2 kj50 l0 t569 bt572.1 bt572.2 true) else ((laws_sameBytes.f kj50 bt572.1 bt576.1).bind fun t580 => (laws_FnWires.j2 kj50 l0 t569 bt572.1 bt572.2 (!t580))))))) = some r := H
                have A61 := Aside0.mk A610
                clear A610
                replace H := Option.bind_eq_some_iff.mp H
                obtain ⟨t569, A620, H⟩ := H
                replace H : ((impl_Frame.f kj50 t569).bind fun bt572 => ((spec_Frame.f kj50 t569).bind fun bt576 => (if (bt576.2 != bt572.2) = true then (laws_FnWires.j2 kj50 l0 t569 bt572.1 bt572.2 true) else ((laws_sameBytes.f kj50 bt572.1 bt576.1).bind fun t580 => (laws_FnWires.j2 kj50 l0 t569 bt572.1 bt572.2 (!t580)))))) = some r := H
                have A62 := Aside0.mk A620
                clear A620
                replace H := Option.bind_eq_some_iff.mp H
                obtain ⟨⟨t572, t573⟩, A630, H⟩ := H
                replace H : ((spec_Frame.f kj50 t569).bind fun bt576 => (if (bt576.2 != t573) = true then (laws_FnWires.j2 kj50 l0 t569 t572 t573 true) else ((laws_sameBytes.f kj50 t572 bt576.1).bind fun t580 => (laws_FnWires.j2 kj50 l0 t569 t572 t573 (!t580))))) = some r := H
                have A63 := Aside0.mk A630
                clear A630
                replace H := Option.bind_eq_some_iff.mp H
                obtain ⟨⟨t576, t577⟩, A640, H⟩ := H
                replace H : (if (t577 != t573) = true then (laws_FnWires.j2 kj50 l0 t569 t572 t573 true) else ((laws_sameBytes.f kj50 t572 t576).bind fun t580 => (laws_FnWires.j2 kj50 l0 t569 t572 t573 (!t580)))) = some r := H
                have A64 := Aside0.mk A640
                clear A640
                have HC65 := Aside0.mk H
                clear H
                go_upto_region 23 with (first | ((with_reducible refine gate_callee (f := 24) rfl ?_); refine goesL_ (some 95) rfl rfl Try.func24 (by kernel_rfl) rfl #[.slice A0 l0.length c0, .int .i64 2] rfl (by (try simp only [List.map_toArray, List.map_cons, List.map_nil]); first | done | rfl | (simp only [List.length_drop, List.length_take]; rfl)) ?_; (with_reducible refine (laws_alt.calls kj50 _ _ l0 2 t566 _ ?side1 ?side2 A61.out).mono ?_); (case side1 => repeat (first | exact (Kd.C_below HR0.out HB.out) | (with_reducible refine Kd.C_alloc ?_ _) | (with_reducible refine Kd.C_drewN ?_ _) | (with_reducible refine Kd.C_drew ?_))); (case side2 => exact HC0.out); rintro e w66 ⟨v567, rfl, ho0, hb⟩; refine ⟨_, rfl, ?_⟩; have n0_ := Aside0.mk (Kd.R_lower ho0 (below_size (by repeat (first | (with_reducible first | exact HB.out | apply below_alloc | apply pw_below_drewN | apply below_drew1) | exact HB.out)))); have n1_ := Aside0.mk (below_step (by repeat (first | (with_reducible first | exact HB.out | apply below_alloc | apply pw_below_drewN | apply below_drew1) | exact HB.out)) hb); clear HB; have HO568 := n0_; have HB := n1_; clear n0_ n1_; (try clear hb); (try clear hb2); (try clear hk); (try clear hi); (try clear ho0); obtain ⟨Ao67, co67, eo67⟩ := Kd.R_slice HO568.out; subst eo67) | ((with_reducible refine gate_callee (f := 28) rfl ?_); refine goesL_ (some 96) rfl rfl Try.func28 (by kernel_rfl) rfl #[.slice Ao67 t566.length co67] rfl (by (try simp only [List.map_toArray, List.map_cons, List.map_nil]); first | done | rfl | (simp only [List.length_drop, List.length_take]; rfl)) ?_; (with_reducible refine (spec_DrawFrame.calls kj50 _ _ t566 t569 _ ?side1 ?side2 A62.out).mono ?_); (case side1 => repeat (first | exact (Kd.R_reads' HO568.out).2.2 | (with_reducible refine Kd.C_alloc ?_ _) | (with_reducible refine Kd.C_drewN ?_ _) | (with_reducible refine Kd.C_drew ?_))); (case side2 => exact (Kd.R_reads' HO568.out).2.1); rintro e w68 ⟨v570, rfl, ho0, hb⟩; refine ⟨_, rfl, ?_⟩; have n0_ := Aside0.mk (Kd.R_elder' (by (with_reducible repeat (first | apply Kd.R_alloc | apply Kd.R_drewN | apply Kd.R_drew)); exact HO568.out) (Kd.R_base ho0) hb); have n1_ := Aside0.mk (Kd.R_lower (Kd.R_new' ho0 (Kd.R_lt (by (with_reducible repeat (first | apply Kd.R_alloc | apply Kd.R_drewN | apply Kd.R_drew)); exact HO568.out))) (below_size (by repeat (first | (with_reducible first | exact HB.out | apply below_alloc | apply pw_below_drewN | apply below_drew1) | exact HB.out)))); have n2_ := Aside0.mk (below_step (by repeat (first | (with_reducible first | exact HB.out | apply below_alloc | apply pw_below_drewN | apply below_drew1) | exact HB.out)) hb); clear HO568; clear HB; have HO568 := n0_; have HO571 := n1_; have HB := n2_; clear n0_ n1_ n2_; (try clear hb); (try clear hb2); (try clear hk); (try clear hi); (try clear ho0); obtain ⟨Ao69, co69, eo69⟩ := Kd.R_slice HO571.out; subst eo69) | ((with_reducible refine gate_callee (f := 29) rfl ?_); refine goesL_ (some 99) rfl rfl Try.func29 (by kernel_rfl) rfl #[.slice Ao69 t569.length co69] rfl (by (try simp only [List.map_toArray, List.map_cons, List.map_nil]); first | done | rfl | (simp only [List.length_drop, List.length_take]; rfl)) ?_; (with_reducible refine (impl_Frame.calls kj50 _ _ t569 t572 t573 _ ?side1 ?side2 A63.out).mono ?_); (case side1 => repeat (first | exact (Kd.R_reads' HO571.out).2.2 | (with_reducible refine Kd.C_alloc ?_ _) | (with_reducible refine Kd.C_drewN ?_ _) | (with_reducible refine Kd.C_drew ?_))); (case side2 => exact (Kd.R_reads' HO571.out).2.1); rintro e w70 ⟨v574, rfl, ho0, hb⟩; refine ⟨_, rfl, ?_⟩; have n0_ := Aside0.mk (Kd.R_elder' (by (with_reducible repeat (first | apply Kd.R_alloc | apply Kd.R_drewN | apply Kd.R_drew)); exact HO568.out) (Kd.R_base ho0) hb); have n1_ := Aside0.mk (Kd.R_elder' (by (with_reducible repeat (first | apply Kd.R_alloc | apply Kd.R_drewN | apply Kd.R_drew)); exact HO571.out) (Kd.R_base ho0) hb); have n2_ := Aside0.mk (Kd.R_lower (Kd.R_new' (Kd.R_new' ho0 (Kd.R_lt (by (with_reducible repeat (first | apply Kd.R_alloc | apply Kd.R_drewN | apply Kd.R_drew)); exact HO568.out))) (Kd.R_lt (by (with_reducible repeat (first | apply Kd.R_alloc | apply Kd.R_drewN | apply Kd.R_drew)); exact HO571.out))) (below_size (by repeat (first | (with_reducible first | exact HB.out | apply below_alloc | apply pw_below_drewN | apply below_drew1) | exact HB.out)))); have n3_ := Aside0.mk (below_step (by repeat (first | (with_reducible first | exact HB.out | apply below_alloc | apply pw_below_drewN | apply below_drew1) | exact HB.out)) hb); clear HO568; clear HO571; clear HB; have HO568 := n0_; have HO571 := n1_; have HO575 := n2_; have HB := n3_; clear n0_ n1_ n2_ n3_; (try clear hb); (try clear hb2); (try clear hk); (try clear hi); (try clear ho0)) | ((with_reducible refine gate_callee (f := 30) rfl ?_); refine goesL_ (some 104) rfl rfl Try.func30 (by kernel_rfl) rfl #[.slice Ao69 t569.length co69] rfl (by (try simp only [List.map_toArray, List.map_cons, List.map_nil]); first | done | rfl | (simp only [List.length_drop, List.length_take]; rfl)) ?_; (with_reducible refine (spec_Frame.calls kj50 _ _ t569 t576 t577 _ ?side1 ?side2 A64.out).mono ?_); (case side1 => repeat (first | exact (Kd.R_reads' HO571.out).2.2 | (with_reducible refine Kd.C_alloc ?_ _) | (with_reducible refine Kd.C_drewN ?_ _) | (with_reducible refine Kd.C_drew ?_))); (case side2 => exact (Kd.R_reads' HO571.out).2.1); rintro e w71 ⟨v578, rfl, ho0, hb⟩; refine ⟨_, rfl, ?_⟩; have n0_ := Aside0.mk (Kd.R_elder' (by (with_reducible repeat (first | apply Kd.R_alloc | apply Kd.R_drewN | apply Kd.R_drew)); exact HO568.out) (Kd.R_base ho0) hb); have n1_ := Aside0.mk (Kd.R_elder' (by (with_reducible repeat (first | apply Kd.R_alloc | apply Kd.R_drewN | apply Kd.R_drew)); exact HO571.out) (Kd.R_base ho0) hb); have n2_ := Aside0.mk (Kd.R_elder' (by (with_reducible repeat (first | apply Kd.R_alloc | apply Kd.R_drewN | apply Kd.R_drew)); exact HO575.out) (Kd.R_base ho0) hb); have n3_ := Aside0.mk (Kd.R_lower (Kd.R_new' (Kd.R_new' (Kd.R_new' ho0 (Kd.R_lt (by (with_reducible repeat (first | apply Kd.R_alloc | apply Kd.R_drewN | apply Kd.R_drew)); exact HO568.out))) (Kd.R_lt (by (with_reducible repeat (first | apply Kd.R_alloc | apply Kd.R_drewN | apply Kd.R_drew)); exact HO571.out))) (Kd.R_lt (by (with_reducible repeat (first | apply Kd.R_alloc | apply Kd.R_drewN | apply Kd.R_drew)); exact HO575.out))) (below_size (by repeat (first | (with_reducible first | exact HB.out | apply below_alloc | apply pw_below_drewN | apply below_drew1) | exact HB.out)))); have n4_ := Aside0.mk (below_step (by repeat (first | (with_reducible first | exact HB.out | apply below_alloc | apply pw_below_drewN | apply below_drew1) | exact HB.out)) hb); clear HO568; clear HO571; clear HO575; clear HB; have HO568 := n0_; have HO571 := n1_; have HO575 := n2_; have HO579 := n3_; have HB := n4_; clear n0_ n1_ n2_ n3_ n4_; (try clear hb); (try clear hb2); (try clear hk); (try clear hi); (try clear ho0)))
                (try simp only [Act.put, List.setIfInBounds_toArray, List.set_cons_zero, List.set_cons_succ])
                go_cut [115] (fun v115 wc => ∃ (kq : Nat) (x115_64 : Bool), v115 = .bool x115_64 ∧ Aside0 (laws_FnWires.j2 kq l0 t569 t572 t573 x115_64 = some r) ∧ Aside0 (kq ≤ kj50) ∧ Aside0 (Kd.R (Kd.int .u8) 5 wc w.heap.size (fun k_ => some k_ ≠ (v574 : Value).ownBlock) (.slice Ao69 t569.length co69) t569) ∧ Aside0 (Kd.R (Kd.int .u8) 5 wc w.heap.size (fun k_ => some k_ ≠ ((.slice Ao69 t569.length co69) : Value).ownBlock) v574 t572) ∧ Aside0 (Below w.heap.size w wc))
                case first =>
                  have H := HC65.out
                  clear HC65
                  by_cases c72 : (t577 != t573) = true
                  · rw [if_pos c72] at H
                    have c72b0 : (t577 != t573) = true := c72
                    (try (have c72b1 : decide (t577 = t573) = false := by simpa using c72))
                    (try (have c72b2 : (t577 == t573) = false := by simpa using c72))
                    (try (have c72b3 : ¬ (t577 = t573) := by simpa using c72))
                    clear c72
                    (first | rw [c72b0] | (simp only [i64_w, i32_w]; rw [c72b0]) | skip)
                    have H' := Aside0.mk H
                    clear H
                    go_wp2
                    go_meet
                    case rel => exact ⟨_, (true), (by first | rfl | (simp; done) | (simp [*]; done)), H', ⟨by have := HJ8.out; have := HJ50.out; first | omega | exact Nat.le_refl _⟩, ⟨by (with_reducible repeat (first | apply Kd.R_alloc | apply Kd.R_drewN | apply Kd.R_drew)); exact Kd.R_mono HO571.out (fun _ hk => hk.1.2)⟩, ⟨by (with_reducible repeat (first | apply Kd.R_alloc | apply Kd.R_drewN | apply Kd.R_drew)); exact Kd.R_mono HO575.out (fun _ hk => hk.1.2)⟩, ⟨by repeat (first | (with_reducible first | exact HB.out | apply below_alloc | apply pw_below_drewN | apply below_drew1) | exact HB.out)⟩⟩
                  · rw [if_neg c72] at H
                    have c72b0 : (t577 != t573) = false := by simpa using c72
                    (try (have c72b1 : decide (t577 = t573) = true := by simpa using c72))
                    (try (have c72b2 : (t577 == t573) = true := by simpa using c72))
                    clear c72
                    (first | rw [c72b0] | (simp only [i64_w, i32_w]; rw [c72b0]) | skip)
                    replace H := Option.bind_eq_some_iff.mp H
                    obtain ⟨t580, A730, H⟩ := H
                    replace H : (laws_FnWires.j2 kj50 l0 t569 t572 t573 (!t580)) = some r := H
                    have A73 := Aside0.mk A730
                    clear A730
                    have H' := Aside0.mk H
                    clear H
                    obtain ⟨Ao74, co74, eo74⟩ := Kd.R_slice HO575.out
                    subst eo74
                    obtain ⟨Ao75, co75, eo75⟩ := Kd.R_slice HO579.out
                    subst eo75
                    go_wp2_with (first | (go_at_call 19; (with_reducible refine (laws_sameBytes.calls kj50 _ _ t572 _ _ t576 t580 _ ?side1 ?side2 ?side3 ?side4 A73.out).mono ?_); (case side1 => repeat (first | exact (Kd.R_reads' HO575.out).2.2 | (with_reducible refine Kd.C_alloc ?_ _) | (with_reducible refine Kd.C_drewN ?_ _) | (with_reducible refine Kd.C_drew ?_))); (case side2 => exact (Kd.R_reads' HO575.out).2.1); (case side3 => repeat (first | exact (Kd.R_reads' HO579.out).2.2 | (with_reducible refine Kd.C_alloc ?_ _) | (with_reducible refine Kd.C_drewN ?_ _) | (with_reducible refine Kd.C_drew ?_))); (case side4 => exact (Kd.R_reads' HO579.out).2.1); rintro e w' ⟨rfl, ⟨nd, rfl⟩⟩))
                    go_meet
                    case rel => exact ⟨_, (!t580), (by first | rfl | (simp; done) | (simp [*]; done)), H', ⟨by have := HJ8.out; have := HJ50.out; first | omega | exact Nat.le_refl _⟩, ⟨by (with_reducible repeat (first | apply Kd.R_alloc | apply Kd.R_drewN | apply Kd.R_drew)); exact Kd.R_mono HO571.out (fun _ hk => hk.1.2)⟩, ⟨by (with_reducible repeat (first | apply Kd.R_alloc | apply Kd.R_drewN | apply Kd.R_drew)); exact Kd.R_mono HO575.out (fun _ hk => hk.1.2)⟩, ⟨by repeat (first | (with_reducible first | exact HB.out | apply below_alloc | apply pw_below_drewN | apply below_drew1) | exact HB.out)⟩⟩
                case rest =>
                  clear HC65
                  try clear c1
                  try clear c2
                  try clear p2
                  try clear q2
                  try clear c3
                  try clear q3
                  try clear c4
                  try clear c5
                  try clear c6
                  try clear p6
                  try clear c7
                  try clear c8
                  try clear c16
                  try clear c16b0
                  try clear c16b1
                  try clear c17
                  try clear c18
                  try clear c19
                  try clear c19b0
                  try clear c19b1
                  try clear c20
                  try clear c20b0
                  try clear c20b1
                  try clear c21
                  try clear c22
                  try clear c22b0
                  try clear c22b1
                  try clear c23
                  try clear c24
                  try clear c25
                  try clear c25b0
                  try clear c25b1
                  try clear c26
                  try clear c27
                  try clear q27
                  try clear c28
                  try clear c29
                  try clear c30
                  try clear q31
                  try clear q35
                  try clear q39
                  try clear c45
                  try clear c45b0
                  try clear c45b1
                  try clear c45b2
                  try clear c57
                  try clear c57b0
                  try clear c57b1
                  try clear c59
                  try clear c59b0
                  try clear c59b1
                  try clear c60
                  try clear c60b0
                  try clear c60b1
                  try clear p64
                  try clear c72
                  try clear c72b0
                  try clear c72b1
                  try clear c72b2
                  try clear p2
                  try clear p6
                  try clear q2
                  try clear q27
                  try clear q3
                  try clear q31
                  try clear q35
                  try clear q39
                  obtain ⟨kq, x115_64, rfl, HA, HJ64, HO_13, HO_14, HB⟩ := hcut
                  cases kq with
                  | zero => exact absurd HA.out (by simp [laws_FnWires.j2])
                  | succ kj64 =>
                    have H := HA.out
                    clear HA
                    simp only [laws_FnWires.j2] at H
                    by_cases c76 : x115_64 = true
                    · subst c76
                      have H1 : (some false) = some r := by rw [if_pos rfl] at H; exact H
                      clear H
                      have H := H1
                      clear H1
                      exact absurd ((Option.some.inj H).trans hr_) (by decide)
                    · replace c76 := Bool.eq_false_iff.mpr c76
                      subst c76
                      have H1 : (if t573 = true then ((impl_Unframe.f kj64 t572).bind fun bt581 => ((some (([] : List Int) : List Int)).bind fun y585 => (if y585.length + t572.length < 140737488355328 then ((some (y585 ++ t572 : List Int)).bind fun y588 => ((laws_at.f l0 0).bind fun t591 => ((laws_at.f l0 1).bind fun t592 => (if (t572.length : Int) = 0 then (none) else (if 0 ≤ (Int.tmod (wrap64 (t591 * (wrap64 (1 + t592)))) (t572.length : Int)) then (if (Int.tmod (wrap64 (t591 * (wrap64 (1 + t592)))) (t572.length : Int)) < (y588.length : Int) then ((laws_at.f l0 2).bind fun t594 => ((impl_Unframe.f kj64 (y588.set ((Int.tmod (wrap64 (t591 * (wrap64 (1 + t592)))) (t572.length : Int)) : Int).toNat (Go.bits .xor .u8 (rd y588 (Int.tmod (wrap64 (t591 * (wrap64 (1 + t592)))) (t572.length : Int))) ((wrap64 (1 + (Int.tmod t594 255))) % 256)))).bind fun bt596 => (if bt581.2 = true then ((laws_sameBytes.f kj64 bt581.1 t569).bind fun t600 => (if t600 = true then (if bt596.2 = true then ((laws_sameBytes.f kj64 bt596.1 t569).bind fun t601 => (some (!t601))) else (some true)) else (some false))) else (some false)))) else (none)) else (none)))))) else (none)))) else (some true)) = some r := by rw [if_neg (show ¬ (false = true) by decide)] at H; exact H
                      clear H
                      have H := H1
                      clear H1
                      by_cases c77 : t573 = true
                      · subst c77
                        have H1 : ((impl_Unframe.f kj64 t572).bind fun bt581 => ((some (([] : List Int) : List Int)).bind fun y585 => (if y585.length + t572.length < 140737488355328 then ((some (y585 ++ t572 : List Int)).bind fun y588 => ((laws_at.f l0 0).bind fun t591 => ((laws_at.f l0 1).bind fun t592 => (if (t572.length : Int) = 0 then (none) else (if 0 ≤ (Int.tmod (wrap64 (t591 * (wrap64 (1 + t592)))) (t572.length : Int)) then (if (Int.tmod (wrap64 (t591 * (wrap64 (1 + t592)))) (t572.length : Int)) < (y588.length : Int) then ((laws_at.f l0 2).bind fun t594 => ((impl_Unframe.f kj64 (y588.set ((Int.tmod (wrap64 (t591 * (wrap64 (1 + t592)))) (t572.length : Int)) : Int).toNat (Go.bits .xor .u8 (rd y588 (Int.tmod (wrap64 (t591 * (wrap64 (1 + t592)))) (t572.length : Int))) ((wrap64 (1 + (Int.tmod t594 255))) % 256)))).bind fun bt596 => (if bt581.2 = true then ((laws_sameBytes.f kj64 bt581.1 t569).bind fun t600 => (if t600 = true then (if bt596.2 = true then ((laws_sameBytes.f kj64 bt596.1 t569).bind fun t601 => (some (!t601))) else (some true)) else (some false))) else (some false)))) else (none)) else (none)))))) else (none)))) = some r := by rw [if_pos rfl] at H; exact H
                        clear H
                        have H := H1
                        clear H1
                        replace H := Option.bind_eq_some_iff.mp H
                        obtain ⟨⟨t581, t582⟩, A780, H⟩ := H
                        replace H : ((some (([] : List Int) : List Int)).bind fun y585 => (if y585.length + t572.length < 140737488355328 then ((some (y585 ++ t572 : List Int)).bind fun y588 => ((laws_at.f l0 0).bind fun t591 => ((laws_at.f l0 1).bind fun t592 => (if (t572.length : Int) = 0 then (none) else (if 0 ≤ (Int.tmod (wrap64 (t591 * (wrap64 (1 + t592)))) (t572.length : Int)) then (if (Int.tmod (wrap64 (t591 * (wrap64 (1 + t592)))) (t572.length : Int)) < (y588.length : Int) then ((laws_at.f l0 2).bind fun t594 => ((impl_Unframe.f kj64 (y588.set ((Int.tmod (wrap64 (t591 * (wrap64 (1 + t592)))) (t572.length : Int)) : Int).toNat (Go.bits .xor .u8 (rd y588 (Int.tmod (wrap64 (t591 * (wrap64 (1 + t592)))) (t572.length : Int))) ((wrap64 (1 + (Int.tmod t594 255))) % 256)))).bind fun bt596 => (if t582 = true then ((laws_sameBytes.f kj64 t581 t569).bind fun t600 => (if t600 = true then (if bt596.2 = true then ((laws_sameBytes.f kj64 bt596.1 t569).bind fun t601 => (some (!t601))) else (some true)) else (some false))) else (some false)))) else (none)) else (none)))))) else (none))) = some r := H
                        have A78 := Aside0.mk A780
                        clear A780
                        obtain ⟨y585, hy585⟩ : ∃ y_ : List Int, y_ = (([] : List Int)) := ⟨_, rfl⟩
                        replace H : (if y585.length + t572.length < 140737488355328 then ((some (y585 ++ t572 : List Int)).bind fun y588 => ((laws_at.f l0 0).bind fun t591 => ((laws_at.f l0 1).bind fun t592 => (if (t572.length : Int) = 0 then (none) else (if 0 ≤ (Int.tmod (wrap64 (t591 * (wrap64 (1 + t592)))) (t572.length : Int)) then (if (Int.tmod (wrap64 (t591 * (wrap64 (1 + t592)))) (t572.length : Int)) < (y588.length : Int) then ((laws_at.f l0 2).bind fun t594 => ((impl_Unframe.f kj64 (y588.set ((Int.tmod (wrap64 (t591 * (wrap64 (1 + t592)))) (t572.length : Int)) : Int).toNat (Go.bits .xor .u8 (rd y588 (Int.tmod (wrap64 (t591 * (wrap64 (1 + t592)))) (t572.length : Int))) ((wrap64 (1 + (Int.tmod t594 255))) % 256)))).bind fun bt596 => (if t582 = true then ((laws_sameBytes.f kj64 t581 t569).bind fun t600 => (if t600 = true then (if bt596.2 = true then ((laws_sameBytes.f kj64 bt596.1 t569).bind fun t601 => (some (!t601))) else (some true)) else (some false))) else (some false)))) else (none)) else (none)))))) else (none)) = some r := by first | (rw [hy585]; with_reducible exact H) | (have H2_ := (Option.bind_some _ _).symm.trans H; rw [hy585]; with_reducible exact H2_) | (have H2_ := (Option.bind_some _ _).symm.trans H; with_reducible exact H2_) | with_reducible exact H | (rw [hy585]; exact H) | exact H
                        have Ny585 := Aside0.mk hy585
                        clear hy585
                        by_cases c79 : y585.length + t572.length < 140737488355328
                        · rw [if_pos c79] at H
                          have LMc79 := Aside0.mk c79
                          clear c79
                          obtain ⟨y588, hy588⟩ : ∃ y_ : List Int, y_ = (y585 ++ t572) := ⟨_, rfl⟩
                          replace H : ((laws_at.f l0 0).bind fun t591 => ((laws_at.f l0 1).bind fun t592 => (if (t572.length : Int) = 0 then (none) else (if 0 ≤ (Int.tmod (wrap64 (t591 * (wrap64 (1 + t592)))) (t572.length : Int)) then (if (Int.tmod (wrap64 (t591 * (wrap64 (1 + t592)))) (t572.length : Int)) < (y588.length : Int) then ((laws_at.f l0 2).bind fun t594 => ((impl_Unframe.f kj64 (y588.set ((Int.tmod (wrap64 (t591 * (wrap64 (1 + t592)))) (t572.length : Int)) : Int).toNat (Go.bits .xor .u8 (rd y588 (Int.tmod (wrap64 (t591 * (wrap64 (1 + t592)))) (t572.length : Int))) ((wrap64 (1 + (Int.tmod t594 255))) % 256)))).bind fun bt596 => (if t582 = true then ((laws_sameBytes.f kj64 t581 t569).bind fun t600 => (if t600 = true then (if bt596.2 = true then ((laws_sameBytes.f kj64 bt596.1 t569).bind fun t601 => (some (!t601))) else (some true)) else (some false))) else (some false)))) else (none)) else (none))))) = some r := by first | (rw [hy588]; with_reducible exact H) | (have H2_ := (Option.bind_some _ _).symm.trans H; rw [hy588]; with_reducible exact H2_) | (have H2_ := (Option.bind_some _ _).symm.trans H; with_reducible exact H2_) | with_reducible exact H | (rw [hy588]; exact H) | exact H
                          have Ny588 := Aside0.mk hy588
                          clear hy588
                          replace H := Option.bind_eq_some_iff.mp H
                          obtain ⟨t591, A800, H⟩ := H
                          replace H : ((laws_at.f l0 1).bind fun t592 => (if (t572.length : Int) = 0 then (none) else (if 0 ≤ (Int.tmod (wrap64 (t591 * (wrap64 (1 + t592)))) (t572.length : Int)) then (if (Int.tmod (wrap64 (t591 * (wrap64 (1 + t592)))) (t572.length : Int)) < (y588.length : Int) then ((laws_at.f l0 2).bind fun t594 => ((impl_Unframe.f kj64 (y588.set ((Int.tmod (wrap64 (t591 * (wrap64 (1 + t592)))) (t572.length : Int)) : Int).toNat (Go.bits .xor .u8 (rd y588 (Int.tmod (wrap64 (t591 * (wrap64 (1 + t592)))) (t572.length : Int))) ((wrap64 (1 + (Int.tmod t594 255))) % 256)))).bind fun bt596 => (if t582 = true then ((laws_sameBytes.f kj64 t581 t569).bind fun t600 => (if t600 = true then (if bt596.2 = true then ((laws_sameBytes.f kj64 bt596.1 t569).bind fun t601 => (some (!t601))) else (some true)) else (some false))) else (some false)))) else (none)) else (none)))) = some r := H
                          have A80 := Aside0.mk A800
                          clear A800
                          replace H := Option.bind_eq_some_iff.mp H
                          obtain ⟨t592, A810, H⟩ := H
                          replace H : (if (t572.length : Int) = 0 then (none) else (if 0 ≤ (Int.tmod (wrap64 (t591 * (wrap64 (1 + t592)))) (t572.length : Int)) then (if (Int.tmod (wrap64 (t591 * (wrap64 (1 + t592)))) (t572.length : Int)) < (y588.length : Int) then ((laws_at.f l0 2).bind fun t594 => ((impl_Unframe.f kj64 (y588.set ((Int.tmod (wrap64 (t591 * (wrap64 (1 + t592)))) (t572.length : Int)) : Int).toNat (Go.bits .xor .u8 (rd y588 (Int.tmod (wrap64 (t591 * (wrap64 (1 + t592)))) (t572.length : Int))) ((wrap64 (1 + (Int.tmod t594 255))) % 256)))).bind fun bt596 => (if t582 = true then ((laws_sameBytes.f kj64 t581 t569).bind fun t600 => (if t600 = true then (if bt596.2 = true then ((laws_sameBytes.f kj64 bt596.1 t569).bind fun t601 => (some (!t601))) else (some true)) else (some false))) else (some false)))) else (none)) else (none))) = some r := H
                          have A81 := Aside0.mk A810
                          clear A810
                          by_cases c82 : (t572.length : Int) = 0
                          · rw [if_pos c82] at H
                            exact absurd H (by simp)
                          · rw [if_neg c82] at H
                            have c82b0 : ((t572.length : Int) == 0) = false := beq_eq_false_iff_ne.mpr c82
                            have c82b1 : ((t572.length : Int) != 0) = true := bne_iff_ne.mpr c82
                            have c82b2 : ¬ (t572 = []) := fun h_ => c82 (by rw [h_]; rfl)
                            obtain ⟨ji83, hji83⟩ : ∃ j_ : Int, (Int.tmod (wrap64 (t591 * (wrap64 (1 + t592)))) (t572.length : Int)) = j_ := ⟨_, rfl⟩
                            replace H : (if 0 ≤ (ji83) then (if (ji83) < (y588.length : Int) then ((laws_at.f l0 2).bind fun t594 => ((impl_Unframe.f kj64 (y588.set ((ji83) : Int).toNat (Go.bits .xor .u8 (rd y588 (ji83)) ((wrap64 (1 + (Int.tmod t594 255))) % 256)))).bind fun bt596 => (if t582 = true then ((laws_sameBytes.f kj64 t581 t569).bind fun t600 => (if t600 = true then (if bt596.2 = true then ((laws_sameBytes.f kj64 bt596.1 t569).bind fun t601 => (some (!t601))) else (some true)) else (some false))) else (some false)))) else (none)) else (none)) = some r := by first | (rw [hji83] at H; exact H) | (simp only [hji83] at H ⊢; exact H)
                            (try rw [hji83] at A78)
                            (try rw [hji83] at A80)
                            (try rw [hji83] at A81)
                            by_cases c84 : 0 ≤ (ji83)
                            · rw [if_pos c84] at H
                              have c84b0 : decide (0 ≤ (ji83)) = true := decide_eq_true c84
                              clear c84
                              by_cases c85 : (ji83) < (y588.length : Int)
                              · rw [if_pos c85] at H
                                have c85b0 : decide ((ji83) < (y588.length : Int)) = true := decide_eq_true c85
                                clear c85
                                replace H := Option.bind_eq_some_iff.mp H
                                obtain ⟨t594, A860, H⟩ := H
                                replace H : ((impl_Unframe.f kj64 (y588.set ((ji83) : Int).toNat (Go.bits .xor .u8 (rd y588 (ji83)) ((wrap64 (1 + (Int.tmod t594 255))) % 256)))).bind fun bt596 => (if t582 = true then ((laws_sameBytes.f kj64 t581 t569).bind fun t600 => (if t600 = true then (if bt596.2 = true then ((laws_sameBytes.f kj64 bt596.1 t569).bind fun t601 => (some (!t601))) else (some true)) else (some false))) else (some false))) = some r := H
                                have A86 := Aside0.mk A860
                                clear A860
                                obtain ⟨y595, hy595⟩ : ∃ y_ : List Int, y_ = (y588.set ((ji83) : Int).toNat (Go.bits .xor .u8 (rd y588 (ji83)) ((wrap64 (1 + (Int.tmod t594 255))) % 256))) := ⟨_, rfl⟩
                                replace H : ((impl_Unframe.f kj64 y595).bind fun bt596 => (if t582 = true then ((laws_sameBytes.f kj64 t581 t569).bind fun t600 => (if t600 = true then (if bt596.2 = true then ((laws_sameBytes.f kj64 bt596.1 t569).bind fun t601 => (some (!t601))) else (some true)) else (some false))) else (some false))) = some r := by first | (rw [hy595]; with_reducible exact H) | (have H2_ := (Option.bind_some _ _).symm.trans H; rw [hy595]; with_reducible exact H2_) | (have H2_ := (Option.bind_some _ _).symm.trans H; with_reducible exact H2_) | with_reducible exact H | (rw [hy595]; exact H) | exact H
                                have Ny595 := Aside0.mk hy595
                                clear hy595
                                replace H := Option.bind_eq_some_iff.mp H
                                obtain ⟨⟨t596, t597⟩, A880, H⟩ := H
                                replace H : (if t582 = true then ((laws_sameBytes.f kj64 t581 t569).bind fun t600 => (if t600 = true then (if t597 = true then ((laws_sameBytes.f kj64 t596 t569).bind fun t601 => (some (!t601))) else (some true)) else (some false))) else (some false)) = some r := H
                                have A88 := Aside0.mk A880
                                clear A880
                                by_cases c89 : t582 = true
                                · subst c89
                                  have H1 : ((laws_sameBytes.f kj64 t581 t569).bind fun t600 => (if t600 = true then (if t597 = true then ((laws_sameBytes.f kj64 t596 t569).bind fun t601 => (some (!t601))) else (some true)) else (some false))) = some r := by rw [if_pos rfl] at H; exact H
                                  clear H
                                  have H := H1
                                  clear H1
                                  replace H := Option.bind_eq_some_iff.mp H
                                  obtain ⟨t600, A900, H⟩ := H
                                  replace H : (if t600 = true then (if t597 = true then ((laws_sameBytes.f kj64 t596 t569).bind fun t601 => (some (!t601))) else (some true)) else (some false)) = some r := H
                                  have A90 := Aside0.mk A900
                                  clear A900
                                  by_cases c91 : t600 = true
                                  · subst c91
                                    have H1 : (if t597 = true then ((laws_sameBytes.f kj64 t596 t569).bind fun t601 => (some (!t601))) else (some true)) = some r := by rw [if_pos rfl] at H; exact H
                                    clear H
                                    have H := H1
                                    clear H1
                                    by_cases c92 : t597 = true
                                    · subst c92
                                      have H1 : ((laws_sameBytes.f kj64 t596 t569).bind fun t601 => (some (!t601))) = some r := by rw [if_pos rfl] at H; exact H
                                      clear H
                                      have H := H1
                                      clear H1
                                      replace H := Option.bind_eq_some_iff.mp H
                                      obtain ⟨t601, A930, H⟩ := H
                                      replace H : (some (!t601)) = some r := H
                                      have A93 := Aside0.mk A930
                                      clear A930
                                      obtain rfl := Option.some.inj H
                                      obtain ⟨Ao94, co94, eo94⟩ := Kd.R_slice HO_14.out
                                      subst eo94
                                      try go_wp2_with (first | ((with_reducible refine gate_callee (f := 31) rfl ?_); refine goesL_ (some 120) rfl rfl Try.func31 (by kernel_rfl) rfl #[.slice Ao94 t572.length co94] rfl (by (try simp only [List.map_toArray, List.map_cons, List.map_nil]); first | done | rfl | (simp only [List.length_drop, List.length_take]; rfl)) ?_; (with_reducible refine (impl_Unframe.calls kj64 _ _ t572 t581 true _ ?side1 ?side2 A78.out).mono ?_); (case side1 => repeat (first | exact (Kd.R_reads' HO_14.out).2.2 | (with_reducible refine Kd.C_alloc ?_ _) | (with_reducible refine Kd.C_drewN ?_ _) | (with_reducible refine Kd.C_drew ?_))); (case side2 => exact (Kd.R_reads' HO_14.out).2.1); rintro e w95 ⟨v583, rfl, ho0, hb⟩; refine ⟨_, rfl, ?_⟩; have n0_ := Aside0.mk (Kd.R_elder' (by (with_reducible repeat (first | apply Kd.R_alloc | apply Kd.R_drewN | apply Kd.R_drew)); exact HO_13.out) (Kd.R_base ho0) hb); have n1_ := Aside0.mk (Kd.R_elder' (by (with_reducible repeat (first | apply Kd.R_alloc | apply Kd.R_drewN | apply Kd.R_drew)); exact HO_14.out) (Kd.R_base ho0) hb); have n2_ := Aside0.mk (Kd.R_lower (Kd.R_new' (Kd.R_new' ho0 (Kd.R_lt (by (with_reducible repeat (first | apply Kd.R_alloc | apply Kd.R_drewN | apply Kd.R_drew)); exact HO_13.out))) (Kd.R_lt (by (with_reducible repeat (first | apply Kd.R_alloc | apply Kd.R_drewN | apply Kd.R_drew)); exact HO_14.out))) (below_size (by repeat (first | (with_reducible first | exact HB.out | apply below_alloc | apply pw_below_drewN | apply below_drew1) | exact HB.out)))); have n3_ := Aside0.mk (below_step (by repeat (first | (with_reducible first | exact HB.out | apply below_alloc | apply pw_below_drewN | apply below_drew1) | exact HB.out)) hb); clear HO_13; clear HO_14; clear HB; have HO_13 := n0_; have HO_14 := n1_; have HO584 := n2_; have HB := n3_; clear n0_ n1_ n2_ n3_; (try clear hb); (try clear hb2); (try clear hk); (try clear hi); (try clear ho0)) | ((with_reducible refine gate_dst (N := 123) rfl ?_); (try (refine gate_guard (by rfl) ?_; dsimp only)); refine Kd.R_lit (Kd.int .u8) _ 5 ?hg (N := 123) ?hd (xs := ([] : List Int)) (inner := []) (ok := fun _ => True) (okp := fun _ => True) ?hr ?hp (fun _ hk => hk) trivial (Below.refl _ _) (Nat.le_refl _) (by simp) ?_; (case hd => rfl); (case hg => rfl); (case hr => first | (go_simp; done) | (go_simp; rfl)); (case hp => exact (Reps.none _ _)); intro v586 w96 ho97 hb hg_ hnew_; clear hg_ hnew_; (first | rw [← Ny585.out] at ho97 | (simp only [Int.reduceToNat] at ho97; rw [← Ny585.out] at ho97)); have n0_ := Aside0.mk (Kd.R_elder' (by (with_reducible repeat (first | apply Kd.R_alloc | apply Kd.R_drewN | apply Kd.R_drew)); exact HO_13.out) (Kd.R_base ho97) hb); have n1_ := Aside0.mk (Kd.R_elder' (by (with_reducible repeat (first | apply Kd.R_alloc | apply Kd.R_drewN | apply Kd.R_drew)); exact HO_14.out) (Kd.R_base ho97) hb); have n2_ := Aside0.mk (Kd.R_elder' (by (with_reducible repeat (first | apply Kd.R_alloc | apply Kd.R_drewN | apply Kd.R_drew)); exact HO584.out) (Kd.R_base ho97) hb); have n3_ := Aside0.mk (Kd.R_lower (Kd.R_new' (Kd.R_new' (Kd.R_new' ho97 (Kd.R_lt (by (with_reducible repeat (first | apply Kd.R_alloc | apply Kd.R_drewN | apply Kd.R_drew)); exact HO_13.out))) (Kd.R_lt (by (with_reducible repeat (first | apply Kd.R_alloc | apply Kd.R_drewN | apply Kd.R_drew)); exact HO_14.out))) (Kd.R_lt (by (with_reducible repeat (first | apply Kd.R_alloc | apply Kd.R_drewN | apply Kd.R_drew)); exact HO584.out))) (below_size (by repeat (first | (with_reducible first | exact HB.out | apply below_alloc | apply pw_below_drewN | apply below_drew1) | exact HB.out)))); have n4_ := Aside0.mk (below_step (by repeat (first | (with_reducible first | exact HB.out | apply below_alloc | apply pw_below_drewN | apply below_drew1) | exact HB.out)) hb); clear HO_13; clear HO_14; clear HO584; clear HB; have HO_13 := n0_; have HO_14 := n1_; have HO584 := n2_; have HO587 := n3_; have HB := n4_; clear n0_ n1_ n2_ n3_ n4_; clear hb ho97) | ((with_reducible refine gate_builtin (b := .append) (xs := #[.tmp 123, .tmp 124]) rfl ?_); (try (refine gate_guard (by rfl) ?_; dsimp only)); at_builtin; refine Kd.R_append_rows (Kd.int .u8) (w0 := w) w.heap.size rfl (.tmp 123) (.tmp 124) 27 5 (.int .u8 0) 1 rfl Try.underlying27 info5 rfl (by decide) (by omega) v586 y585 t572 _ _ _ (fun k_ => some k_ ≠ (.slice Ao69 t569.length co69 : Value).ownBlock ∧ some k_ ≠ (.slice Ao94 t572.length co94 : Value).ownBlock ∧ some k_ ≠ (v583 : Value).ownBlock) (fun _ => False) rfl rfl ?aO ?aR (fun _ _ h => h) (fun _ h => h.elim) ?aF ?aB ?aS ?aL ?_; (case aR => repeat (first | exact (Kd.R_reads' HO_14.out).2.2 | (with_reducible refine Kd.C_alloc ?_ _) | (with_reducible refine Kd.C_drewN ?_ _) | (with_reducible refine Kd.C_drew ?_))); (case aB => exact (by repeat (first | (with_reducible first | exact HB.out | apply below_alloc | apply pw_below_drewN | apply below_drew1) | exact HB.out))); (case aF => exact (fun k_ hk => ⟨Kd.fresh' (Kd.R_lt (by (with_reducible repeat (first | apply Kd.R_alloc | apply Kd.R_drewN | apply Kd.R_drew)); exact HO_13.out)) k_ hk, Kd.fresh' (Kd.R_lt (by (with_reducible repeat (first | apply Kd.R_alloc | apply Kd.R_drewN | apply Kd.R_drew)); exact HO_14.out)) k_ hk, Kd.fresh' (Kd.R_lt (by (with_reducible repeat (first | apply Kd.R_alloc | apply Kd.R_drewN | apply Kd.R_drew)); exact HO584.out)) k_ hk⟩)); (case aO => exact (by (with_reducible repeat (first | apply Kd.R_alloc | apply Kd.R_drewN | apply Kd.R_drew)); exact Kd.R_mono HO587.out (fun _ hk => ⟨hk.1.1.2, ⟨hk.1.2, hk.2⟩⟩))); (case aS => exact (below_size (by repeat (first | (with_reducible first | exact HB.out | apply below_alloc | apply pw_below_drewN | apply below_drew1) | exact HB.out)))); (case aL => have := LMc79.out; omega); intro v589 w98 ho hb hg hat; rw [← Ny588.out] at ho; have n0_ := Aside0.mk (Kd.R_after (ok := (fun k_ => some k_ ≠ (.slice Ao94 t572.length co94 : Value).ownBlock ∧ some k_ ≠ (v583 : Value).ownBlock)) (by (with_reducible repeat (first | apply Kd.R_alloc | apply Kd.R_drewN | apply Kd.R_drew)); exact HO_13.out) hg hat); have n1_ := Aside0.mk (Kd.R_after (ok := (fun k_ => some k_ ≠ (.slice Ao69 t569.length co69 : Value).ownBlock ∧ some k_ ≠ (v583 : Value).ownBlock)) (by (with_reducible repeat (first | apply Kd.R_alloc | apply Kd.R_drewN | apply Kd.R_drew)); exact HO_14.out) hg hat); have n2_ := Aside0.mk (Kd.R_after (ok := (fun k_ => some k_ ≠ (.slice Ao69 t569.length co69 : Value).ownBlock ∧ some k_ ≠ (.slice Ao94 t572.length co94 : Value).ownBlock)) (by (with_reducible repeat (first | apply Kd.R_alloc | apply Kd.R_drewN | apply Kd.R_drew)); exact Kd.R_mono HO584.out (fun _ hk => ⟨⟨hk.1.1.2, hk.1.2⟩, hk.2⟩)) hg hat); have n3_ := Aside0.mk (hb); have n4_ := Aside0.mk (ho); clear HO_13; clear HO_14; clear HO584; clear HB; clear HO587; have HO_13 := n0_; have HO_14 := n1_; have HO584 := n2_; have HB := n3_; have HO590 := n4_; clear n0_ n1_ n2_ n3_ n4_; clear ho hb hg hat) | ((with_reducible refine gate_callee (f := 32) rfl ?_); refine goesL_ (some 127) rfl rfl Try.func32 (by kernel_rfl) rfl #[.slice A0 l0.length c0, .int .i64 0] rfl (by (try simp only [List.map_toArray, List.map_cons, List.map_nil]); first | done | rfl | (simp only [List.length_drop, List.length_take]; rfl)) ?_; (with_reducible refine (laws_at.calls _ _ l0 0 t591 _ ?side1 ?side2 A80.out).mono ?_); (case side1 => repeat (first | exact (Kd.C_below HR0.out HB.out) | (with_reducible refine Kd.C_alloc ?_ _) | (with_reducible refine Kd.C_drewN ?_ _) | (with_reducible refine Kd.C_drew ?_))); (case side2 => exact HC0.out); rintro e w' ⟨rfl, ⟨nd, rfl⟩⟩; refine ⟨_, rfl, ?_⟩) | ((with_reducible refine gate_callee (f := 32) rfl ?_); refine goesL_ (some 129) rfl rfl Try.func32 (by kernel_rfl) rfl #[.slice A0 l0.length c0, .int .i64 1] rfl (by (try simp only [List.map_toArray, List.map_cons, List.map_nil]); first | done | rfl | (simp only [List.length_drop, List.length_take]; rfl)) ?_; (with_reducible refine (laws_at.calls _ _ l0 1 t592 _ ?side1 ?side2 A81.out).mono ?_); (case side1 => repeat (first | exact (Kd.C_below HR0.out HB.out) | (with_reducible refine Kd.C_alloc ?_ _) | (with_reducible refine Kd.C_drewN ?_ _) | (with_reducible refine Kd.C_drew ?_))); (case side2 => exact HC0.out); rintro e w' ⟨rfl, ⟨nd, rfl⟩⟩; refine ⟨_, rfl, ?_⟩))
                                      (try (generalize hq_ : World.drewN w98 _ = w98; have n0_ := Aside0.mk (told_R HO_13.out hq_); have n1_ := Aside0.mk (told_R HO_14.out hq_); have n2_ := Aside0.mk (told_R HO584.out hq_); have n3_ := Aside0.mk (told_R HO590.out hq_); have nb_ := Aside0.mk (told_B HB.out hq_); clear HO_13 HO_14 HO584 HO590 HB hq_; have HO_13 := n0_; have HO_14 := n1_; have HO584 := n2_; have HO590 := n3_; have HB := nb_; clear n0_ n1_ n2_ n3_ nb_))
                                      have n0_ := Aside0.mk (Kd.R_drew HO_13.out)
                                      have n1_ := Aside0.mk (Kd.R_drew HO_14.out)
                                      have n2_ := Aside0.mk (Kd.R_drew HO584.out)
                                      have n3_ := Aside0.mk (Kd.R_drew HO590.out)
                                      have n4_ := Aside0.mk (below_drew1 HB.out)
                                      clear HO_13
                                      clear HO_14
                                      clear HO584
                                      clear HO590
                                      clear HB
                                      have HO_13 := n0_
                                      have HO_14 := n1_
                                      have HO584 := n2_
                                      have HO590 := n3_
                                      have HB := n4_
                                      clear n0_ n1_ n2_ n3_ n4_
                                      obtain ⟨Ao100, co100, eo100⟩ := Kd.R_slice HO590.out
                                      (first | subst eo100 | (injection eo100 with f1_ f2_ f3_; have f4_ := f1_.symm; have f5_ := f3_.symm; clear f1_ f2_ f3_; subst f4_; subst f5_))
                                      have p593 : 0 ≤ ((ji83) : Int) := of_decide_eq_true (by first | (with_reducible assumption) | assumption)
                                      have q593 : (ji83) < (y588.length : Int) := of_decide_eq_true (by first | (with_reducible assumption) | assumption)
                                      obtain ⟨ad593, e593, hx593_0⟩ := Kd.at_int (Kd.R_reads' HO590.out).2.2 (ji83) p593 q593
                                      cases e593
                                      replace p593 := eq_true p593
                                      replace q593 := eq_true q593
                                      refine start_ (n := 14) (S := fun w' => w'.cell? (ad593.add ((ji83)).toNat) = some (.int .u8 (rd y588 (ji83)))) (ds := [13]) #[false, false, false, false, false, false, false, false, false, false, false, false, false, false] (by kernel_rfl) rfl rfl (hx593_0) (fun hHeld => ?_); refine with_tabW laws_FnWires.tab30 laws_FnWires.bits30 (fun HT_ HW_ => ?_)
                                      generalize w98.drew = w99 at HO_13 HO_14 HO584 HO590 HB hx593_0 hHeld ⊢
                                      refine pure_ (i := 0) (N := some 135) (v := ?_) (a' := ?_) #[true, false, false, false, false, false, false, false, false, false, false, false, false, false] rfl rfl (any_of HT_.out (by kernel_rfl)) (fun _ _ _ h => h) (Or.inl ⟨by rfl, ?_⟩) ?_ ?_
                                      rotate_left
                                      · intro w'
                                        go_simp
                                        with_reducible rfl
                                      rotate_left
                                      · simp only [Act.put, List.setIfInBounds_toArray, List.set_cons_zero, List.set_cons_succ, i64_w, i32_w]
                                        rfl
                                      refine pure_ (i := 1) (N := some 136) (v := ?_) (a' := ?_) #[true, true, false, false, false, false, false, false, false, false, false, false, false, false] rfl rfl (any_of HT_.out (by kernel_rfl)) (fun _ _ _ h => h) (Or.inl ⟨by rfl, ?_⟩) ?_ ?_
                                      rotate_left
                                      · intro w'
                                        go_simp
                                        with_reducible rfl
                                      rotate_left
                                      · simp only [Act.put, List.setIfInBounds_toArray, List.set_cons_zero, List.set_cons_succ, i64_w, i32_w]
                                        rfl
                                      refine pure_ (i := 2) (N := some 137) (v := ?_) (a' := ?_) #[true, true, true, false, false, false, false, false, false, false, false, false, false, false] rfl rfl (any_of HT_.out (by kernel_rfl)) (fun _ _ _ h => h) (Or.inl ⟨by rfl, ?_⟩) ?_ ?_
                                      rotate_left
                                      · intro w'
                                        go_simp
                                        with_reducible rfl
                                      rotate_left
                                      · simp only [Act.put, List.setIfInBounds_toArray, List.set_cons_zero, List.set_cons_succ, i64_w, i32_w]
                                        rfl
                                      refine pure_ (i := 3) (N := some 138) (v := ?_) (a' := ?_) #[true, true, true, true, false, false, false, false, false, false, false, false, false, false] rfl rfl (any_of HT_.out (by kernel_rfl)) (fun _ _ _ h => h) (Or.inl ⟨by rfl, ?_⟩) ?_ ?_
                                      rotate_left
                                      · intro w'
                                        go_simp
                                        with_reducible rfl
                                      rotate_left
                                      · simp only [Act.put, List.setIfInBounds_toArray, List.set_cons_zero, List.set_cons_succ, i64_w, i32_w]
                                        rfl
                                      refine pure_ (i := 4) (N := some 139) (v := ?_) (a' := ?_) #[true, true, true, true, true, false, false, false, false, false, false, false, false, false] rfl rfl (any_of HT_.out (by kernel_rfl)) (fun _ _ _ h => h) (Or.inl ⟨by rfl, ?_⟩) ?_ ?_
                                      rotate_left
                                      · intro w'
                                        go_simp
                                        with_reducible rfl
                                      rotate_left
                                      · simp only [Act.put, List.setIfInBounds_toArray, List.set_cons_zero, List.set_cons_succ, i64_w, i32_w]
                                        rfl
                                      refine pure_ (i := 6) (N := some 141) (v := ?_) (a' := ?_) #[true, true, true, true, true, false, true, false, false, false, false, false, false, false] rfl rfl (any_of HT_.out (by kernel_rfl)) (fun _ _ _ h => h) (Or.inl ⟨by rfl, ?_⟩) ?_ ?_
                                      rotate_left
                                      · intro w'
                                        go_simp
                                        with_reducible rfl
                                      rotate_left
                                      · simp only [Act.put, List.setIfInBounds_toArray, List.set_cons_zero, List.set_cons_succ, i64_w, i32_w]
                                        rfl
                                      refine take_ (i := 5) (N := some 140) (v := ?_) (a' := ?_) #[true, true, true, true, true, true, true, false, false, false, false, false, false, false] rfl rfl (take_ofW HT_.out HW_.out (by kernel_rfl)) (fun _ _ _ h => h) (Or.inl ⟨by rfl, ?_⟩) hHeld ?_ ?_
                                      rotate_left
                                      · intro w' s0
                                        go_simp
                                        with_reducible rfl
                                      rotate_left
                                      · simp only [Act.put, List.setIfInBounds_toArray, List.set_cons_zero, List.set_cons_succ, i64_w, i32_w]
                                        rfl
                                      refine one_ (i := 7) (N := some 142) #[true, true, true, true, true, true, true, true, false, false, false, false, false, false] rfl rfl (one_of HT_.out (by kernel_rfl)) (by decide) (fun K hK => ?_)
                                      refine goes_ Try.func32 (by kernel_rfl) rfl #[.slice A0 l0.length c0, .int .i64 2] (by rfl) rfl rfl (by (try simp only [List.map_toArray, List.map_cons, List.map_nil]); first | done | rfl | (simp only [List.length_drop, List.length_take]; rfl)) ?_
                                      with_reducible refine (laws_at.calls _ _ l0 2 t594 _ ?side1 ?side2 A86.out).mono ?_
                                      (case side1 => repeat (first | exact (Kd.C_below HR0.out HB.out) | (with_reducible refine Kd.C_alloc ?_ _) | (with_reducible refine Kd.C_drewN ?_ _) | (with_reducible refine Kd.C_drew ?_)))
                                      (case side2 => exact HC0.out)
                                      rintro e w' ⟨rfl, ⟨nd, rfl⟩⟩
                                      refine ⟨_, rfl, ?_⟩
                                      have n0_ := Aside0.mk (Kd.R_drewN HO_13.out nd)
                                      have n1_ := Aside0.mk (Kd.R_drewN HO_14.out nd)
                                      have n2_ := Aside0.mk (Kd.R_drewN HO584.out nd)
                                      have n3_ := Aside0.mk (Kd.R_drewN HO590.out nd)
                                      have nb_ := Aside0.mk (pw_below_drewN HB.out nd)
                                      have m0_ := (told_c hx593_0 nd)
                                      have m1_ := (told_c hHeld nd)
                                      clear HO_13 HO_14 HO584 HO590 HB hx593_0 hHeld
                                      generalize w99.drewN nd = w99 at n0_ n1_ n2_ n3_ nb_ m0_ m1_ ⊢
                                      have HO_13 := n0_
                                      have HO_14 := n1_
                                      have HO584 := n2_
                                      have HO590 := n3_
                                      have HB := nb_
                                      have hx593_0 := m0_
                                      have hHeld := m1_
                                      clear n0_ n1_ n2_ n3_ nb_ m0_ m1_
                                      have p87 : 0 ≤ ((ji83) : Int) := of_decide_eq_true (by first | (with_reducible assumption) | assumption)
                                      have q87 : ((ji83) : Int) < ((y588.length : Int) : Int) := of_decide_eq_true (by first | (with_reducible assumption) | assumption)
                                      obtain ⟨go87, co87, eo87, gb87, gl87, cl87, HG87⟩ := Kd.R_form HO590.out (by omega)
                                      (first | cases eo87 | (injection eo87 with ea_ en_ ec_; (first | subst ea_ | (injection ea_ with ea_; subst ea_)); subst ec_; clear en_))
                                      have GB87 := Aside0.mk gb87
                                      have GG87 := Aside0.mk HG87
                                      clear gb87 gl87 HG87
                                      (first | simp only [add_plain] at hx593_0 | skip)
                                      obtain ⟨hx87_0, hf87_0⟩ := Kd.R_celln 0 HO590.out ((ji83) : Int) p87 q87
                                      replace p87 := eq_true p87
                                      replace q87 := eq_true q87
                                      have HP101 := Kd.R_putn HO590.out ((ji83) : Int) (Go.bits .xor .u8 (rd y588 (ji83)) ((wrap64 (1 + (Int.tmod t594 255))) % 256))
                                      rw [← Ny595.out] at HP101
                                      have HQ101 := Aside0.mk HP101
                                      clear HP101
                                      refine hK.out _ _ (hHeld) (fun hHeld => ?_)
                                      clear hK K
                                      refine norm_ (a' := ?_) ?_ ?_
                                      rotate_left
                                      · show Act.put _ (some 142) _ = _
                                        simp only [Act.put, List.setIfInBounds_toArray, List.set_cons_zero, List.set_cons_succ, i64_w, i32_w]
                                        rfl
                                      refine pure_ (i := 8) (N := some 143) (v := ?_) (a' := ?_) #[true, true, true, true, true, true, true, true, true, false, false, false, false, false] rfl rfl (any_of HT_.out (by kernel_rfl)) (fun _ _ _ h => h) (Or.inl ⟨by rfl, ?_⟩) ?_ ?_
                                      rotate_left
                                      · intro w'
                                        go_simp
                                        with_reducible rfl
                                      rotate_left
                                      · simp only [Act.put, List.setIfInBounds_toArray, List.set_cons_zero, List.set_cons_succ, i64_w, i32_w]
                                        rfl
                                      refine pure_ (i := 9) (N := some 144) (v := ?_) (a' := ?_) #[true, true, true, true, true, true, true, true, true, true, false, false, false, false] rfl rfl (any_of HT_.out (by kernel_rfl)) (fun _ _ _ h => h) (Or.inl ⟨by rfl, ?_⟩) ?_ ?_
                                      rotate_left
                                      · intro w'
                                        go_simp
                                        with_reducible rfl
                                      rotate_left
                                      · simp only [Act.put, List.setIfInBounds_toArray, List.set_cons_zero, List.set_cons_succ, i64_w, i32_w]
                                        rfl
                                      refine pure_ (i := 10) (N := some 145) (v := ?_) (a' := ?_) #[true, true, true, true, true, true, true, true, true, true, true, false, false, false] rfl rfl (any_of HT_.out (by kernel_rfl)) (fun _ _ _ h => h) (Or.inl ⟨by rfl, ?_⟩) ?_ ?_
                                      rotate_left
                                      · intro w'
                                        go_simp
                                        with_reducible rfl
                                      rotate_left
                                      · simp only [Act.put, List.setIfInBounds_toArray, List.set_cons_zero, List.set_cons_succ, i64_w, i32_w]
                                        rfl
                                      refine pure_ (i := 11) (N := some 146) (v := ?_) (a' := ?_) #[true, true, true, true, true, true, true, true, true, true, true, true, false, false] rfl rfl (any_of HT_.out (by kernel_rfl)) (fun _ _ _ h => h) (Or.inl ⟨by rfl, ?_⟩) ?_ ?_
                                      rotate_left
                                      · intro w'
                                        go_simp
                                        with_reducible rfl
                                      rotate_left
                                      · simp only [Act.put, List.setIfInBounds_toArray, List.set_cons_zero, List.set_cons_succ, i64_w, i32_w]
                                        rfl
                                      refine pure_ (i := 12) (N := some 147) (v := ?_) (a' := ?_) #[true, true, true, true, true, true, true, true, true, true, true, true, true, false] rfl rfl (any_of HT_.out (by kernel_rfl)) (fun _ _ _ h => h) (Or.inl ⟨by rfl, ?_⟩) ?_ ?_
                                      rotate_left
                                      · intro w'
                                        go_simp
                                        with_reducible rfl
                                      rotate_left
                                      · simp only [Act.put, List.setIfInBounds_toArray, List.set_cons_zero, List.set_cons_succ, i64_w, i32_w]
                                        rfl
                                      refine last_ (i := 13) (N := none) #[true, true, true, true, true, true, true, true, true, true, true, true, true, true] rfl rfl (one_of HT_.out (by kernel_rfl)) (by decide) (fun K hK => ?_)
                                      refine skip_ (w1 := ?_) (by rfl) rfl ?_ ?_
                                      rotate_left
                                      · go_simp
                                        rfl
                                      refine hK.out _ _ ?_
                                      clear hK K
                                      refine done_ (done_of HT_.out (by kernel_rfl)) ?_
                                      try go_wp2_with (first | ((with_reducible refine gate_callee (f := 31) rfl ?_); refine goesL_ (some 150) rfl rfl Try.func31 (by kernel_rfl) rfl #[.slice (some ⟨go87, 0, none⟩) y595.length co100] rfl (by (try simp only [List.map_toArray, List.map_cons, List.map_nil]); first | done | (rw [show y595.length = y588.length from (Kd.R_reads' HQ101.out).1.symm] <;> rfl) | rfl | (simp only [List.length_drop, List.length_take]; rfl)) ?_; (with_reducible refine (impl_Unframe.calls kj64 _ _ y595 t596 true _ ?side1 ?side2 A88.out).mono ?_); (case side1 => refine (Kd.R_reads' (e := 5) (base := w.heap.size) (ok := fun k_ => (some k_ ≠ (.slice Ao69 t569.length co69 : Value).ownBlock ∧ (some k_ ≠ (.slice Ao94 t572.length co94 : Value).ownBlock ∧ some k_ ≠ (v583 : Value).ownBlock))) (n := y588.length) (c := co100) ?_).2.2; exact (by (with_reducible repeat (first | apply Kd.R_alloc | apply Kd.R_drewN | apply Kd.R_drew)); exact HQ101.out)); (case side2 => rw [show y595.length = y588.length from (Kd.R_reads' HQ101.out).1.symm]; exact (Kd.R_reads' HO590.out).2.1); rintro e w102 ⟨v598, rfl, ho0, hb⟩; refine ⟨_, rfl, ?_⟩; have n0_ := Aside0.mk (Kd.R_elder' (by (with_reducible repeat (first | apply Kd.R_alloc | apply Kd.R_drewN | apply Kd.R_drew)); exact (Kd.R_mono (Kd.R_far (p := ⟨go87, ((ji83) : Int).toNat, none⟩) (Kd.R_mono HO_13.out (fun k_ hk => (⟨hk, fun e_ => hk.2 (by rw [e_]; rfl)⟩ : _ ∧ k_ ≠ go87))) (fun _ hk => hk.2) (.int .u8 (Go.bits .xor .u8 (rd y588 (ji83)) ((wrap64 (1 + (Int.tmod t594 255))) % 256)))) (fun _ h_ => h_.1))) (Kd.R_base ho0) hb); have n1_ := Aside0.mk (Kd.R_elder' (by (with_reducible repeat (first | apply Kd.R_alloc | apply Kd.R_drewN | apply Kd.R_drew)); exact (Kd.R_mono (Kd.R_far (p := ⟨go87, ((ji83) : Int).toNat, none⟩) (Kd.R_mono HO_14.out (fun k_ hk => (⟨hk, fun e_ => hk.2 (by rw [e_]; rfl)⟩ : _ ∧ k_ ≠ go87))) (fun _ hk => hk.2) (.int .u8 (Go.bits .xor .u8 (rd y588 (ji83)) ((wrap64 (1 + (Int.tmod t594 255))) % 256)))) (fun _ h_ => h_.1))) (Kd.R_base ho0) hb); have n2_ := Aside0.mk (Kd.R_elder' (by (with_reducible repeat (first | apply Kd.R_alloc | apply Kd.R_drewN | apply Kd.R_drew)); exact (Kd.R_mono (Kd.R_far (p := ⟨go87, ((ji83) : Int).toNat, none⟩) (Kd.R_mono HO584.out (fun k_ hk => (⟨hk, fun e_ => hk.2 (by rw [e_]; rfl)⟩ : _ ∧ k_ ≠ go87))) (fun _ hk => hk.2) (.int .u8 (Go.bits .xor .u8 (rd y588 (ji83)) ((wrap64 (1 + (Int.tmod t594 255))) % 256)))) (fun _ h_ => h_.1))) (Kd.R_base ho0) hb); have n3_ := Aside0.mk (Kd.R_elder' (by (with_reducible repeat (first | apply Kd.R_alloc | apply Kd.R_drewN | apply Kd.R_drew)); exact HQ101.out) (Kd.R_base ho0) hb); have n4_ := Aside0.mk (Kd.R_lower (Kd.R_new' (Kd.R_new' (Kd.R_new' (Kd.R_new' ho0 (Kd.R_lt (by (with_reducible repeat (first | apply Kd.R_alloc | apply Kd.R_drewN | apply Kd.R_drew)); exact (Kd.R_mono (Kd.R_far (p := ⟨go87, ((ji83) : Int).toNat, none⟩) (Kd.R_mono HO_13.out (fun k_ hk => (⟨hk, fun e_ => hk.2 (by rw [e_]; rfl)⟩ : _ ∧ k_ ≠ go87))) (fun _ hk => hk.2) (.int .u8 (Go.bits .xor .u8 (rd y588 (ji83)) ((wrap64 (1 + (Int.tmod t594 255))) % 256)))) (fun _ h_ => h_.1))))) (Kd.R_lt (by (with_reducible repeat (first | apply Kd.R_alloc | apply Kd.R_drewN | apply Kd.R_drew)); exact (Kd.R_mono (Kd.R_far (p := ⟨go87, ((ji83) : Int).toNat, none⟩) (Kd.R_mono HO_14.out (fun k_ hk => (⟨hk, fun e_ => hk.2 (by rw [e_]; rfl)⟩ : _ ∧ k_ ≠ go87))) (fun _ hk => hk.2) (.int .u8 (Go.bits .xor .u8 (rd y588 (ji83)) ((wrap64 (1 + (Int.tmod t594 255))) % 256)))) (fun _ h_ => h_.1))))) (Kd.R_lt (by (with_reducible repeat (first | apply Kd.R_alloc | apply Kd.R_drewN | apply Kd.R_drew)); exact (Kd.R_mono (Kd.R_far (p := ⟨go87, ((ji83) : Int).toNat, none⟩) (Kd.R_mono HO584.out (fun k_ hk => (⟨hk, fun e_ => hk.2 (by rw [e_]; rfl)⟩ : _ ∧ k_ ≠ go87))) (fun _ hk => hk.2) (.int .u8 (Go.bits .xor .u8 (rd y588 (ji83)) ((wrap64 (1 + (Int.tmod t594 255))) % 256)))) (fun _ h_ => h_.1))))) (Kd.R_lt (by (with_reducible repeat (first | apply Kd.R_alloc | apply Kd.R_drewN | apply Kd.R_drew)); exact HQ101.out))) (below_size (by repeat (first | (with_reducible first | exact HB.out | apply below_alloc | apply pw_below_drewN | apply below_drew1 | refine below_set ?_ GB87.out) | exact HB.out)))); have n5_ := Aside0.mk (below_step (by repeat (first | (with_reducible first | exact HB.out | apply below_alloc | apply pw_below_drewN | apply below_drew1 | refine below_set ?_ GB87.out) | exact HB.out)) hb); clear HO_13; clear HO_14; clear HO584; clear HO590; clear HB; have HO_13 := n0_; have HO_14 := n1_; have HO584 := n2_; have HO590 := n3_; have HO599 := n4_; have HB := n5_; clear n0_ n1_ n2_ n3_ n4_ n5_; (try clear hb); (try clear hb2); (try clear hk); (try clear hi); (try clear ho0); obtain ⟨Ao103, co103, eo103⟩ := Kd.R_slice HO584.out; subst eo103) | (go_at_call 19; (with_reducible refine (laws_sameBytes.calls kj64 _ _ t581 _ _ t569 true _ ?side1 ?side2 ?side3 ?side4 A90.out).mono ?_); (case side1 => repeat (first | exact (Kd.R_reads' HO584.out).2.2 | (with_reducible refine Kd.C_alloc ?_ _) | (with_reducible refine Kd.C_drewN ?_ _) | (with_reducible refine Kd.C_drew ?_))); (case side2 => exact (Kd.R_reads' HO584.out).2.1); (case side3 => repeat (first | exact (Kd.R_reads' HO_13.out).2.2 | (with_reducible refine Kd.C_alloc ?_ _) | (with_reducible refine Kd.C_drewN ?_ _) | (with_reducible refine Kd.C_drew ?_))); (case side4 => exact (Kd.R_reads' HO_13.out).2.1); rintro e w' ⟨rfl, ⟨nd, rfl⟩⟩; obtain ⟨Ao104, co104, eo104⟩ := Kd.R_slice HO599.out; subst eo104) | (go_at_call 19; (with_reducible refine (laws_sameBytes.calls kj64 _ _ t596 _ _ t569 t601 _ ?side1 ?side2 ?side3 ?side4 A93.out).mono ?_); (case side1 => repeat (first | exact (Kd.R_reads' HO599.out).2.2 | (with_reducible refine Kd.C_alloc ?_ _) | (with_reducible refine Kd.C_drewN ?_ _) | (with_reducible refine Kd.C_drew ?_))); (case side2 => exact (Kd.R_reads' HO599.out).2.1); (case side3 => repeat (first | exact (Kd.R_reads' HO_13.out).2.2 | (with_reducible refine Kd.C_alloc ?_ _) | (with_reducible refine Kd.C_drewN ?_ _) | (with_reducible refine Kd.C_drew ?_))); (case side4 => exact (Kd.R_reads' HO_13.out).2.1); rintro e w' ⟨rfl, ⟨nd, rfl⟩⟩))
                                      go_ret
                                      exact ⟨by first | rfl | (simp [errW_none, errW_some] <;> rfl) | (simp only [← hji83]; first | rfl | (simp [errW_none, errW_some] <;> rfl)) | (simp [*, errW_none, errW_some] <;> rfl), by repeat (first | (with_reducible first | exact HB.out | apply below_alloc | apply pw_below_drewN | apply below_drew1) | exact HB.out)⟩
                                    · replace c92 := Bool.eq_false_iff.mpr c92
                                      subst c92
                                      have H1 : (some true) = some r := by rw [if_neg (show ¬ (false = true) by decide)] at H; exact H
                                      clear H
                                      have H := H1
                                      clear H1
                                      obtain rfl := Option.some.inj H
                                      obtain ⟨Ao105, co105, eo105⟩ := Kd.R_slice HO_14.out
                                      subst eo105
                                      try go_wp2_with (first | ((with_reducible refine gate_callee (f := 31) rfl ?_); refine goesL_ (some 120) rfl rfl Try.func31 (by kernel_rfl) rfl #[.slice Ao105 t572.length co105] rfl (by (try simp only [List.map_toArray, List.map_cons, List.map_nil]); first | done | rfl | (simp only [List.length_drop, List.length_take]; rfl)) ?_; (with_reducible refine (impl_Unframe.calls kj64 _ _ t572 t581 true _ ?side1 ?side2 A78.out).mono ?_); (case side1 => repeat (first | exact (Kd.R_reads' HO_14.out).2.2 | (with_reducible refine Kd.C_alloc ?_ _) | (with_reducible refine Kd.C_drewN ?_ _) | (with_reducible refine Kd.C_drew ?_))); (case side2 => exact (Kd.R_reads' HO_14.out).2.1); rintro e w106 ⟨v583, rfl, ho0, hb⟩; refine ⟨_, rfl, ?_⟩; have n0_ := Aside0.mk (Kd.R_elder' (by (with_reducible repeat (first | apply Kd.R_alloc | apply Kd.R_drewN | apply Kd.R_drew)); exact HO_13.out) (Kd.R_base ho0) hb); have n1_ := Aside0.mk (Kd.R_elder' (by (with_reducible repeat (first | apply Kd.R_alloc | apply Kd.R_drewN | apply Kd.R_drew)); exact HO_14.out) (Kd.R_base ho0) hb); have n2_ := Aside0.mk (Kd.R_lower (Kd.R_new' (Kd.R_new' ho0 (Kd.R_lt (by (with_reducible repeat (first | apply Kd.R_alloc | apply Kd.R_drewN | apply Kd.R_drew)); exact HO_13.out))) (Kd.R_lt (by (with_reducible repeat (first | apply Kd.R_alloc | apply Kd.R_drewN | apply Kd.R_drew)); exact HO_14.out))) (below_size (by repeat (first | (with_reducible first | exact HB.out | apply below_alloc | apply pw_below_drewN | apply below_drew1) | exact HB.out)))); have n3_ := Aside0.mk (below_step (by repeat (first | (with_reducible first | exact HB.out | apply below_alloc | apply pw_below_drewN | apply below_drew1) | exact HB.out)) hb); clear HO_13; clear HO_14; clear HB; have HO_13 := n0_; have HO_14 := n1_; have HO584 := n2_; have HB := n3_; clear n0_ n1_ n2_ n3_; (try clear hb); (try clear hb2); (try clear hk); (try clear hi); (try clear ho0)) | ((with_reducible refine gate_dst (N := 123) rfl ?_); (try (refine gate_guard (by rfl) ?_; dsimp only)); refine Kd.R_lit (Kd.int .u8) _ 5 ?hg (N := 123) ?hd (xs := ([] : List Int)) (inner := []) (ok := fun _ => True) (okp := fun _ => True) ?hr ?hp (fun _ hk => hk) trivial (Below.refl _ _) (Nat.le_refl _) (by simp) ?_; (case hd => rfl); (case hg => rfl); (case hr => first | (go_simp; done) | (go_simp; rfl)); (case hp => exact (Reps.none _ _)); intro v586 w107 ho108 hb hg_ hnew_; clear hg_ hnew_; (first | rw [← Ny585.out] at ho108 | (simp only [Int.reduceToNat] at ho108; rw [← Ny585.out] at ho108)); have n0_ := Aside0.mk (Kd.R_elder' (by (with_reducible repeat (first | apply Kd.R_alloc | apply Kd.R_drewN | apply Kd.R_drew)); exact HO_13.out) (Kd.R_base ho108) hb); have n1_ := Aside0.mk (Kd.R_elder' (by (with_reducible repeat (first | apply Kd.R_alloc | apply Kd.R_drewN | apply Kd.R_drew)); exact HO_14.out) (Kd.R_base ho108) hb); have n2_ := Aside0.mk (Kd.R_elder' (by (with_reducible repeat (first | apply Kd.R_alloc | apply Kd.R_drewN | apply Kd.R_drew)); exact HO584.out) (Kd.R_base ho108) hb); have n3_ := Aside0.mk (Kd.R_lower (Kd.R_new' (Kd.R_new' (Kd.R_new' ho108 (Kd.R_lt (by (with_reducible repeat (first | apply Kd.R_alloc | apply Kd.R_drewN | apply Kd.R_drew)); exact HO_13.out))) (Kd.R_lt (by (with_reducible repeat (first | apply Kd.R_alloc | apply Kd.R_drewN | apply Kd.R_drew)); exact HO_14.out))) (Kd.R_lt (by (with_reducible repeat (first | apply Kd.R_alloc | apply Kd.R_drewN | apply Kd.R_drew)); exact HO584.out))) (below_size (by repeat (first | (with_reducible first | exact HB.out | apply below_alloc | apply pw_below_drewN | apply below_drew1) | exact HB.out)))); have n4_ := Aside0.mk (below_step (by repeat (first | (with_reducible first | exact HB.out | apply below_alloc | apply pw_below_drewN | apply below_drew1) | exact HB.out)) hb); clear HO_13; clear HO_14; clear HO584; clear HB; have HO_13 := n0_; have HO_14 := n1_; have HO584 := n2_; have HO587 := n3_; have HB := n4_; clear n0_ n1_ n2_ n3_ n4_; clear hb ho108) | ((with_reducible refine gate_builtin (b := .append) (xs := #[.tmp 123, .tmp 124]) rfl ?_); (try (refine gate_guard (by rfl) ?_; dsimp only)); at_builtin; refine Kd.R_append_rows (Kd.int .u8) (w0 := w) w.heap.size rfl (.tmp 123) (.tmp 124) 27 5 (.int .u8 0) 1 rfl Try.underlying27 info5 rfl (by decide) (by omega) v586 y585 t572 _ _ _ (fun k_ => some k_ ≠ (.slice Ao69 t569.length co69 : Value).ownBlock ∧ some k_ ≠ (.slice Ao105 t572.length co105 : Value).ownBlock ∧ some k_ ≠ (v583 : Value).ownBlock) (fun _ => False) rfl rfl ?aO ?aR (fun _ _ h => h) (fun _ h => h.elim) ?aF ?aB ?aS ?aL ?_; (case aR => repeat (first | exact (Kd.R_reads' HO_14.out).2.2 | (with_reducible refine Kd.C_alloc ?_ _) | (with_reducible refine Kd.C_drewN ?_ _) | (with_reducible refine Kd.C_drew ?_))); (case aB => exact (by repeat (first | (with_reducible first | exact HB.out | apply below_alloc | apply pw_below_drewN | apply below_drew1) | exact HB.out))); (case aF => exact (fun k_ hk => ⟨Kd.fresh' (Kd.R_lt (by (with_reducible repeat (first | apply Kd.R_alloc | apply Kd.R_drewN | apply Kd.R_drew)); exact HO_13.out)) k_ hk, Kd.fresh' (Kd.R_lt (by (with_reducible repeat (first | apply Kd.R_alloc | apply Kd.R_drewN | apply Kd.R_drew)); exact HO_14.out)) k_ hk, Kd.fresh' (Kd.R_lt (by (with_reducible repeat (first | apply Kd.R_alloc | apply Kd.R_drewN | apply Kd.R_drew)); exact HO584.out)) k_ hk⟩)); (case aO => exact (by (with_reducible repeat (first | apply Kd.R_alloc | apply Kd.R_drewN | apply Kd.R_drew)); exact Kd.R_mono HO587.out (fun _ hk => ⟨hk.1.1.2, ⟨hk.1.2, hk.2⟩⟩))); (case aS => exact (below_size (by repeat (first | (with_reducible first | exact HB.out | apply below_alloc | apply pw_below_drewN | apply below_drew1) | exact HB.out)))); (case aL => have := LMc79.out; omega); intro v589 w109 ho hb hg hat; rw [← Ny588.out] at ho; have n0_ := Aside0.mk (Kd.R_after (ok := (fun k_ => some k_ ≠ (.slice Ao105 t572.length co105 : Value).ownBlock ∧ some k_ ≠ (v583 : Value).ownBlock)) (by (with_reducible repeat (first | apply Kd.R_alloc | apply Kd.R_drewN | apply Kd.R_drew)); exact HO_13.out) hg hat); have n1_ := Aside0.mk (Kd.R_after (ok := (fun k_ => some k_ ≠ (.slice Ao69 t569.length co69 : Value).ownBlock ∧ some k_ ≠ (v583 : Value).ownBlock)) (by (with_reducible repeat (first | apply Kd.R_alloc | apply Kd.R_drewN | apply Kd.R_drew)); exact HO_14.out) hg hat); have n2_ := Aside0.mk (Kd.R_after (ok := (fun k_ => some k_ ≠ (.slice Ao69 t569.length co69 : Value).ownBlock ∧ some k_ ≠ (.slice Ao105 t572.length co105 : Value).ownBlock)) (by (with_reducible repeat (first | apply Kd.R_alloc | apply Kd.R_drewN | apply Kd.R_drew)); exact Kd.R_mono HO584.out (fun _ hk => ⟨⟨hk.1.1.2, hk.1.2⟩, hk.2⟩)) hg hat); have n3_ := Aside0.mk (hb); have n4_ := Aside0.mk (ho); clear HO_13; clear HO_14; clear HO584; clear HB; clear HO587; have HO_13 := n0_; have HO_14 := n1_; have HO584 := n2_; have HB := n3_; have HO590 := n4_; clear n0_ n1_ n2_ n3_ n4_; clear ho hb hg hat) | ((with_reducible refine gate_callee (f := 32) rfl ?_); refine goesL_ (some 127) rfl rfl Try.func32 (by kernel_rfl) rfl #[.slice A0 l0.length c0, .int .i64 0] rfl (by (try simp only [List.map_toArray, List.map_cons, List.map_nil]); first | done | rfl | (simp only [List.length_drop, List.length_take]; rfl)) ?_; (with_reducible refine (laws_at.calls _ _ l0 0 t591 _ ?side1 ?side2 A80.out).mono ?_); (case side1 => repeat (first | exact (Kd.C_below HR0.out HB.out) | (with_reducible refine Kd.C_alloc ?_ _) | (with_reducible refine Kd.C_drewN ?_ _) | (with_reducible refine Kd.C_drew ?_))); (case side2 => exact HC0.out); rintro e w' ⟨rfl, ⟨nd, rfl⟩⟩; refine ⟨_, rfl, ?_⟩) | ((with_reducible refine gate_callee (f := 32) rfl ?_); refine goesL_ (some 129) rfl rfl Try.func32 (by kernel_rfl) rfl #[.slice A0 l0.length c0, .int .i64 1] rfl (by (try simp only [List.map_toArray, List.map_cons, List.map_nil]); first | done | rfl | (simp only [List.length_drop, List.length_take]; rfl)) ?_; (with_reducible refine (laws_at.calls _ _ l0 1 t592 _ ?side1 ?side2 A81.out).mono ?_); (case side1 => repeat (first | exact (Kd.C_below HR0.out HB.out) | (with_reducible refine Kd.C_alloc ?_ _) | (with_reducible refine Kd.C_drewN ?_ _) | (with_reducible refine Kd.C_drew ?_))); (case side2 => exact HC0.out); rintro e w' ⟨rfl, ⟨nd, rfl⟩⟩; refine ⟨_, rfl, ?_⟩))
                                      (try (generalize hq_ : World.drewN w109 _ = w109; have n0_ := Aside0.mk (told_R HO_13.out hq_); have n1_ := Aside0.mk (told_R HO_14.out hq_); have n2_ := Aside0.mk (told_R HO584.out hq_); have n3_ := Aside0.mk (told_R HO590.out hq_); have nb_ := Aside0.mk (told_B HB.out hq_); clear HO_13 HO_14 HO584 HO590 HB hq_; have HO_13 := n0_; have HO_14 := n1_; have HO584 := n2_; have HO590 := n3_; have HB := nb_; clear n0_ n1_ n2_ n3_ nb_))
                                      have n0_ := Aside0.mk (Kd.R_drew HO_13.out)
                                      have n1_ := Aside0.mk (Kd.R_drew HO_14.out)
                                      have n2_ := Aside0.mk (Kd.R_drew HO584.out)
                                      have n3_ := Aside0.mk (Kd.R_drew HO590.out)
                                      have n4_ := Aside0.mk (below_drew1 HB.out)
                                      clear HO_13
                                      clear HO_14
                                      clear HO584
                                      clear HO590
                                      clear HB
                                      have HO_13 := n0_
                                      have HO_14 := n1_
                                      have HO584 := n2_
                                      have HO590 := n3_
                                      have HB := n4_
                                      clear n0_ n1_ n2_ n3_ n4_
                                      obtain ⟨Ao111, co111, eo111⟩ := Kd.R_slice HO590.out
                                      (first | subst eo111 | (injection eo111 with f1_ f2_ f3_; have f4_ := f1_.symm; have f5_ := f3_.symm; clear f1_ f2_ f3_; subst f4_; subst f5_))
                                      have p593 : 0 ≤ ((ji83) : Int) := of_decide_eq_true (by first | (with_reducible assumption) | assumption)
                                      have q593 : (ji83) < (y588.length : Int) := of_decide_eq_true (by first | (with_reducible assumption) | assumption)
                                      obtain ⟨ad593, e593, hx593_0⟩ := Kd.at_int (Kd.R_reads' HO590.out).2.2 (ji83) p593 q593
                                      cases e593
                                      replace p593 := eq_true p593
                                      replace q593 := eq_true q593
                                      refine start_ (n := 14) (S := fun w' => w'.cell? (ad593.add ((ji83)).toNat) = some (.int .u8 (rd y588 (ji83)))) (ds := [13]) #[false, false, false, false, false, false, false, false, false, false, false, false, false, false] (by kernel_rfl) rfl rfl (hx593_0) (fun hHeld => ?_); refine with_tabW laws_FnWires.tab30 laws_FnWires.bits30 (fun HT_ HW_ => ?_)
                                      generalize w109.drew = w110 at HO_13 HO_14 HO584 HO590 HB hx593_0 hHeld ⊢
                                      refine pure_ (i := 0) (N := some 135) (v := ?_) (a' := ?_) #[true, false, false, false, false, false, false, false, false, false, false, false, false, false] rfl rfl (any_of HT_.out (by kernel_rfl)) (fun _ _ _ h => h) (Or.inl ⟨by rfl, ?_⟩) ?_ ?_
                                      rotate_left
                                      · intro w'
                                        go_simp
                                        with_reducible rfl
                                      rotate_left
                                      · simp only [Act.put, List.setIfInBounds_toArray, List.set_cons_zero, List.set_cons_succ, i64_w, i32_w]
                                        rfl
                                      refine pure_ (i := 1) (N := some 136) (v := ?_) (a' := ?_) #[true, true, false, false, false, false, false, false, false, false, false, false, false, false] rfl rfl (any_of HT_.out (by kernel_rfl)) (fun _ _ _ h => h) (Or.inl ⟨by rfl, ?_⟩) ?_ ?_
                                      rotate_left
                                      · intro w'
                                        go_simp
                                        with_reducible rfl
                                      rotate_left
                                      · simp only [Act.put, List.setIfInBounds_toArray, List.set_cons_zero, List.set_cons_succ, i64_w, i32_w]
                                        rfl
                                      refine pure_ (i := 2) (N := some 137) (v := ?_) (a' := ?_) #[true, true, true, false, false, false, false, false, false, false, false, false, false, false] rfl rfl (any_of HT_.out (by kernel_rfl)) (fun _ _ _ h => h) (Or.inl ⟨by rfl, ?_⟩) ?_ ?_
                                      rotate_left
                                      · intro w'
                                        go_simp
                                        with_reducible rfl
                                      rotate_left
                                      · simp only [Act.put, List.setIfInBounds_toArray, List.set_cons_zero, List.set_cons_succ, i64_w, i32_w]
                                        rfl
                                      refine pure_ (i := 3) (N := some 138) (v := ?_) (a' := ?_) #[true, true, true, true, false, false, false, false, false, false, false, false, false, false] rfl rfl (any_of HT_.out (by kernel_rfl)) (fun _ _ _ h => h) (Or.inl ⟨by rfl, ?_⟩) ?_ ?_
                                      rotate_left
                                      · intro w'
                                        go_simp
                                        with_reducible rfl
                                      rotate_left
                                      · simp only [Act.put, List.setIfInBounds_toArray, List.set_cons_zero, List.set_cons_succ, i64_w, i32_w]
                                        rfl
                                      refine pure_ (i := 4) (N := some 139) (v := ?_) (a' := ?_) #[true, true, true, true, true, false, false, false, false, false, false, false, false, false] rfl rfl (any_of HT_.out (by kernel_rfl)) (fun _ _ _ h => h) (Or.inl ⟨by rfl, ?_⟩) ?_ ?_
                                      rotate_left
                                      · intro w'
                                        go_simp
                                        with_reducible rfl
                                      rotate_left
                                      · simp only [Act.put, List.setIfInBounds_toArray, List.set_cons_zero, List.set_cons_succ, i64_w, i32_w]
                                        rfl
                                      refine pure_ (i := 6) (N := some 141) (v := ?_) (a' := ?_) #[true, true, true, true, true, false, true, false, false, false, false, false, false, false] rfl rfl (any_of HT_.out (by kernel_rfl)) (fun _ _ _ h => h) (Or.inl ⟨by rfl, ?_⟩) ?_ ?_
                                      rotate_left
                                      · intro w'
                                        go_simp
                                        with_reducible rfl
                                      rotate_left
                                      · simp only [Act.put, List.setIfInBounds_toArray, List.set_cons_zero, List.set_cons_succ, i64_w, i32_w]
                                        rfl
                                      refine take_ (i := 5) (N := some 140) (v := ?_) (a' := ?_) #[true, true, true, true, true, true, true, false, false, false, false, false, false, false] rfl rfl (take_ofW HT_.out HW_.out (by kernel_rfl)) (fun _ _ _ h => h) (Or.inl ⟨by rfl, ?_⟩) hHeld ?_ ?_
                                      rotate_left
                                      · intro w' s0
                                        go_simp
                                        with_reducible rfl
                                      rotate_left
                                      · simp only [Act.put, List.setIfInBounds_toArray, List.set_cons_zero, List.set_cons_succ, i64_w, i32_w]
                                        rfl
                                      refine one_ (i := 7) (N := some 142) #[true, true, true, true, true, true, true, true, false, false, false, false, false, false] rfl rfl (one_of HT_.out (by kernel_rfl)) (by decide) (fun K hK => ?_)
                                      refine goes_ Try.func32 (by kernel_rfl) rfl #[.slice A0 l0.length c0, .int .i64 2] (by rfl) rfl rfl (by (try simp only [List.map_toArray, List.map_cons, List.map_nil]); first | done | rfl | (simp only [List.length_drop, List.length_take]; rfl)) ?_
                                      with_reducible refine (laws_at.calls _ _ l0 2 t594 _ ?side1 ?side2 A86.out).mono ?_
                                      (case side1 => repeat (first | exact (Kd.C_below HR0.out HB.out) | (with_reducible refine Kd.C_alloc ?_ _) | (with_reducible refine Kd.C_drewN ?_ _) | (with_reducible refine Kd.C_drew ?_)))
                                      (case side2 => exact HC0.out)
                                      rintro e w' ⟨rfl, ⟨nd, rfl⟩⟩
                                      refine ⟨_, rfl, ?_⟩
                                      have n0_ := Aside0.mk (Kd.R_drewN HO_13.out nd)
                                      have n1_ := Aside0.mk (Kd.R_drewN HO_14.out nd)
                                      have n2_ := Aside0.mk (Kd.R_drewN HO584.out nd)
                                      have n3_ := Aside0.mk (Kd.R_drewN HO590.out nd)
                                      have nb_ := Aside0.mk (pw_below_drewN HB.out nd)
                                      have m0_ := (told_c hx593_0 nd)
                                      have m1_ := (told_c hHeld nd)
                                      clear HO_13 HO_14 HO584 HO590 HB hx593_0 hHeld
                                      generalize w110.drewN nd = w110 at n0_ n1_ n2_ n3_ nb_ m0_ m1_ ⊢
                                      have HO_13 := n0_
                                      have HO_14 := n1_
                                      have HO584 := n2_
                                      have HO590 := n3_
                                      have HB := nb_
                                      have hx593_0 := m0_
                                      have hHeld := m1_
                                      clear n0_ n1_ n2_ n3_ nb_ m0_ m1_
                                      have p87 : 0 ≤ ((ji83) : Int) := of_decide_eq_true (by first | (with_reducible assumption) | assumption)
                                      have q87 : ((ji83) : Int) < ((y588.length : Int) : Int) := of_decide_eq_true (by first | (with_reducible assumption) | assumption)
                                      obtain ⟨go87, co87, eo87, gb87, gl87, cl87, HG87⟩ := Kd.R_form HO590.out (by omega)
                                      (first | cases eo87 | (injection eo87 with ea_ en_ ec_; (first | subst ea_ | (injection ea_ with ea_; subst ea_)); subst ec_; clear en_))
                                      have GB87 := Aside0.mk gb87
                                      have GG87 := Aside0.mk HG87
                                      clear gb87 gl87 HG87
                                      (first | simp only [add_plain] at hx593_0 | skip)
                                      obtain ⟨hx87_0, hf87_0⟩ := Kd.R_celln 0 HO590.out ((ji83) : Int) p87 q87
                                      replace p87 := eq_true p87
                                      replace q87 := eq_true q87
                                      have HP112 := Kd.R_putn HO590.out ((ji83) : Int) (Go.bits .xor .u8 (rd y588 (ji83)) ((wrap64 (1 + (Int.tmod t594 255))) % 256))
                                      rw [← Ny595.out] at HP112
                                      have HQ112 := Aside0.mk HP112
                                      clear HP112
                                      refine hK.out _ _ (hHeld) (fun hHeld => ?_)
                                      clear hK K
                                      refine norm_ (a' := ?_) ?_ ?_
                                      rotate_left
                                      · show Act.put _ (some 142) _ = _
                                        simp only [Act.put, List.setIfInBounds_toArray, List.set_cons_zero, List.set_cons_succ, i64_w, i32_w]
                                        rfl
                                      refine pure_ (i := 8) (N := some 143) (v := ?_) (a' := ?_) #[true, true, true, true, true, true, true, true, true, false, false, false, false, false] rfl rfl (any_of HT_.out (by kernel_rfl)) (fun _ _ _ h => h) (Or.inl ⟨by rfl, ?_⟩) ?_ ?_
                                      rotate_left
                                      · intro w'
                                        go_simp
                                        with_reducible rfl
                                      rotate_left
                                      · simp only [Act.put, List.setIfInBounds_toArray, List.set_cons_zero, List.set_cons_succ, i64_w, i32_w]
                                        rfl
                                      refine pure_ (i := 9) (N := some 144) (v := ?_) (a' := ?_) #[true, true, true, true, true, true, true, true, true, true, false, false, false, false] rfl rfl (any_of HT_.out (by kernel_rfl)) (fun _ _ _ h => h) (Or.inl ⟨by rfl, ?_⟩) ?_ ?_
                                      rotate_left
                                      · intro w'
                                        go_simp
                                        with_reducible rfl
                                      rotate_left
                                      · simp only [Act.put, List.setIfInBounds_toArray, List.set_cons_zero, List.set_cons_succ, i64_w, i32_w]
                                        rfl
                                      refine pure_ (i := 10) (N := some 145) (v := ?_) (a' := ?_) #[true, true, true, true, true, true, true, true, true, true, true, false, false, false] rfl rfl (any_of HT_.out (by kernel_rfl)) (fun _ _ _ h => h) (Or.inl ⟨by rfl, ?_⟩) ?_ ?_
                                      rotate_left
                                      · intro w'
                                        go_simp
                                        with_reducible rfl
                                      rotate_left
                                      · simp only [Act.put, List.setIfInBounds_toArray, List.set_cons_zero, List.set_cons_succ, i64_w, i32_w]
                                        rfl
                                      refine pure_ (i := 11) (N := some 146) (v := ?_) (a' := ?_) #[true, true, true, true, true, true, true, true, true, true, true, true, false, false] rfl rfl (any_of HT_.out (by kernel_rfl)) (fun _ _ _ h => h) (Or.inl ⟨by rfl, ?_⟩) ?_ ?_
                                      rotate_left
                                      · intro w'
                                        go_simp
                                        with_reducible rfl
                                      rotate_left
                                      · simp only [Act.put, List.setIfInBounds_toArray, List.set_cons_zero, List.set_cons_succ, i64_w, i32_w]
                                        rfl
                                      refine pure_ (i := 12) (N := some 147) (v := ?_) (a' := ?_) #[true, true, true, true, true, true, true, true, true, true, true, true, true, false] rfl rfl (any_of HT_.out (by kernel_rfl)) (fun _ _ _ h => h) (Or.inl ⟨by rfl, ?_⟩) ?_ ?_
                                      rotate_left
                                      · intro w'
                                        go_simp
                                        with_reducible rfl
                                      rotate_left
                                      · simp only [Act.put, List.setIfInBounds_toArray, List.set_cons_zero, List.set_cons_succ, i64_w, i32_w]
                                        rfl
                                      refine last_ (i := 13) (N := none) #[true, true, true, true, true, true, true, true, true, true, true, true, true, true] rfl rfl (one_of HT_.out (by kernel_rfl)) (by decide) (fun K hK => ?_)
                                      refine skip_ (w1 := ?_) (by rfl) rfl ?_ ?_
                                      rotate_left
                                      · go_simp
                                        rfl
                                      refine hK.out _ _ ?_
                                      clear hK K
                                      refine done_ (done_of HT_.out (by kernel_rfl)) ?_
                                      try go_wp2_with (first | ((with_reducible refine gate_callee (f := 31) rfl ?_); refine goesL_ (some 150) rfl rfl Try.func31 (by kernel_rfl) rfl #[.slice (some ⟨go87, 0, none⟩) y595.length co111] rfl (by (try simp only [List.map_toArray, List.map_cons, List.map_nil]); first | done | (rw [show y595.length = y588.length from (Kd.R_reads' HQ112.out).1.symm] <;> rfl) | rfl | (simp only [List.length_drop, List.length_take]; rfl)) ?_; (with_reducible refine (impl_Unframe.calls kj64 _ _ y595 t596 false _ ?side1 ?side2 A88.out).mono ?_); (case side1 => refine (Kd.R_reads' (e := 5) (base := w.heap.size) (ok := fun k_ => (some k_ ≠ (.slice Ao69 t569.length co69 : Value).ownBlock ∧ (some k_ ≠ (.slice Ao105 t572.length co105 : Value).ownBlock ∧ some k_ ≠ (v583 : Value).ownBlock))) (n := y588.length) (c := co111) ?_).2.2; exact (by (with_reducible repeat (first | apply Kd.R_alloc | apply Kd.R_drewN | apply Kd.R_drew)); exact HQ112.out)); (case side2 => rw [show y595.length = y588.length from (Kd.R_reads' HQ112.out).1.symm]; exact (Kd.R_reads' HO590.out).2.1); rintro e w113 ⟨v598, rfl, ho0, hb⟩; refine ⟨_, rfl, ?_⟩; have n0_ := Aside0.mk (Kd.R_elder' (by (with_reducible repeat (first | apply Kd.R_alloc | apply Kd.R_drewN | apply Kd.R_drew)); exact (Kd.R_mono (Kd.R_far (p := ⟨go87, ((ji83) : Int).toNat, none⟩) (Kd.R_mono HO_13.out (fun k_ hk => (⟨hk, fun e_ => hk.2 (by rw [e_]; rfl)⟩ : _ ∧ k_ ≠ go87))) (fun _ hk => hk.2) (.int .u8 (Go.bits .xor .u8 (rd y588 (ji83)) ((wrap64 (1 + (Int.tmod t594 255))) % 256)))) (fun _ h_ => h_.1))) (Kd.R_base ho0) hb); have n1_ := Aside0.mk (Kd.R_elder' (by (with_reducible repeat (first | apply Kd.R_alloc | apply Kd.R_drewN | apply Kd.R_drew)); exact (Kd.R_mono (Kd.R_far (p := ⟨go87, ((ji83) : Int).toNat, none⟩) (Kd.R_mono HO_14.out (fun k_ hk => (⟨hk, fun e_ => hk.2 (by rw [e_]; rfl)⟩ : _ ∧ k_ ≠ go87))) (fun _ hk => hk.2) (.int .u8 (Go.bits .xor .u8 (rd y588 (ji83)) ((wrap64 (1 + (Int.tmod t594 255))) % 256)))) (fun _ h_ => h_.1))) (Kd.R_base ho0) hb); have n2_ := Aside0.mk (Kd.R_elder' (by (with_reducible repeat (first | apply Kd.R_alloc | apply Kd.R_drewN | apply Kd.R_drew)); exact (Kd.R_mono (Kd.R_far (p := ⟨go87, ((ji83) : Int).toNat, none⟩) (Kd.R_mono HO584.out (fun k_ hk => (⟨hk, fun e_ => hk.2 (by rw [e_]; rfl)⟩ : _ ∧ k_ ≠ go87))) (fun _ hk => hk.2) (.int .u8 (Go.bits .xor .u8 (rd y588 (ji83)) ((wrap64 (1 + (Int.tmod t594 255))) % 256)))) (fun _ h_ => h_.1))) (Kd.R_base ho0) hb); have n3_ := Aside0.mk (Kd.R_elder' (by (with_reducible repeat (first | apply Kd.R_alloc | apply Kd.R_drewN | apply Kd.R_drew)); exact HQ112.out) (Kd.R_base ho0) hb); have n4_ := Aside0.mk (Kd.R_lower (Kd.R_new' (Kd.R_new' (Kd.R_new' (Kd.R_new' ho0 (Kd.R_lt (by (with_reducible repeat (first | apply Kd.R_alloc | apply Kd.R_drewN | apply Kd.R_drew)); exact (Kd.R_mono (Kd.R_far (p := ⟨go87, ((ji83) : Int).toNat, none⟩) (Kd.R_mono HO_13.out (fun k_ hk => (⟨hk, fun e_ => hk.2 (by rw [e_]; rfl)⟩ : _ ∧ k_ ≠ go87))) (fun _ hk => hk.2) (.int .u8 (Go.bits .xor .u8 (rd y588 (ji83)) ((wrap64 (1 + (Int.tmod t594 255))) % 256)))) (fun _ h_ => h_.1))))) (Kd.R_lt (by (with_reducible repeat (first | apply Kd.R_alloc | apply Kd.R_drewN | apply Kd.R_drew)); exact (Kd.R_mono (Kd.R_far (p := ⟨go87, ((ji83) : Int).toNat, none⟩) (Kd.R_mono HO_14.out (fun k_ hk => (⟨hk, fun e_ => hk.2 (by rw [e_]; rfl)⟩ : _ ∧ k_ ≠ go87))) (fun _ hk => hk.2) (.int .u8 (Go.bits .xor .u8 (rd y588 (ji83)) ((wrap64 (1 + (Int.tmod t594 255))) % 256)))) (fun _ h_ => h_.1))))) (Kd.R_lt (by (with_reducible repeat (first | apply Kd.R_alloc | apply Kd.R_drewN | apply Kd.R_drew)); exact (Kd.R_mono (Kd.R_far (p := ⟨go87, ((ji83) : Int).toNat, none⟩) (Kd.R_mono HO584.out (fun k_ hk => (⟨hk, fun e_ => hk.2 (by rw [e_]; rfl)⟩ : _ ∧ k_ ≠ go87))) (fun _ hk => hk.2) (.int .u8 (Go.bits .xor .u8 (rd y588 (ji83)) ((wrap64 (1 + (Int.tmod t594 255))) % 256)))) (fun _ h_ => h_.1))))) (Kd.R_lt (by (with_reducible repeat (first | apply Kd.R_alloc | apply Kd.R_drewN | apply Kd.R_drew)); exact HQ112.out))) (below_size (by repeat (first | (with_reducible first | exact HB.out | apply below_alloc | apply pw_below_drewN | apply below_drew1 | refine below_set ?_ GB87.out) | exact HB.out)))); have n5_ := Aside0.mk (below_step (by repeat (first | (with_reducible first | exact HB.out | apply below_alloc | apply pw_below_drewN | apply below_drew1 | refine below_set ?_ GB87.out) | exact HB.out)) hb); clear HO_13; clear HO_14; clear HO584; clear HO590; clear HB; have HO_13 := n0_; have HO_14 := n1_; have HO584 := n2_; have HO590 := n3_; have HO599 := n4_; have HB := n5_; clear n0_ n1_ n2_ n3_ n4_ n5_; (try clear hb); (try clear hb2); (try clear hk); (try clear hi); (try clear ho0); obtain ⟨Ao114, co114, eo114⟩ := Kd.R_slice HO584.out; subst eo114) | (go_at_call 19; (with_reducible refine (laws_sameBytes.calls kj64 _ _ t581 _ _ t569 true _ ?side1 ?side2 ?side3 ?side4 A90.out).mono ?_); (case side1 => repeat (first | exact (Kd.R_reads' HO584.out).2.2 | (with_reducible refine Kd.C_alloc ?_ _) | (with_reducible refine Kd.C_drewN ?_ _) | (with_reducible refine Kd.C_drew ?_))); (case side2 => exact (Kd.R_reads' HO584.out).2.1); (case side3 => repeat (first | exact (Kd.R_reads' HO_13.out).2.2 | (with_reducible refine Kd.C_alloc ?_ _) | (with_reducible refine Kd.C_drewN ?_ _) | (with_reducible refine Kd.C_drew ?_))); (case side4 => exact (Kd.R_reads' HO_13.out).2.1); rintro e w' ⟨rfl, ⟨nd, rfl⟩⟩))
                                      go_ret
                                      exact ⟨by first | rfl | (simp [errW_none, errW_some] <;> rfl) | (simp only [← hji83]; first | rfl | (simp [errW_none, errW_some] <;> rfl)) | (simp [*, errW_none, errW_some] <;> rfl), by repeat (first | (with_reducible first | exact HB.out | apply below_alloc | apply pw_below_drewN | apply below_drew1) | exact HB.out)⟩
                                  · replace c91 := Bool.eq_false_iff.mpr c91
                                    subst c91
                                    have H1 : (some false) = some r := by rw [if_neg (show ¬ (false = true) by decide)] at H; exact H
                                    clear H
                                    have H := H1
                                    clear H1
                                    exact absurd ((Option.some.inj H).trans hr_) (by decide)
                                · replace c89 := Bool.eq_false_iff.mpr c89
                                  subst c89
                                  have H1 : (some false) = some r := by rw [if_neg (show ¬ (false = true) by decide)] at H; exact H
                                  clear H
                                  have H := H1
                                  clear H1
                                  exact absurd ((Option.some.inj H).trans hr_) (by decide)
                              · rw [if_neg c85] at H
                                exact absurd H (by simp)
                            · rw [if_neg c84] at H
                              exact absurd H (by simp)
                        · rw [if_neg c79] at H
                          exact absurd H (by simp)
                      · replace c77 := Bool.eq_false_iff.mpr c77
                        subst c77
                        have H1 : (some true) = some r := by rw [if_neg (show ¬ (false = true) by decide)] at H; exact H
                        clear H
                        have H := H1
                        clear H1
                        obtain rfl := Option.some.inj H
                        go_wp2
                        go_ret
                        exact ⟨by first | rfl | (simp [errW_none, errW_some] <;> rfl) | (simp [*, errW_none, errW_some] <;> rfl), by repeat (first | (with_reducible first | exact HB.out | apply below_alloc | apply pw_below_drewN | apply below_drew1) | exact HB.out)⟩
    · replace c8 := Bool.eq_false_iff.mpr c8
      subst c8
      have H1 : (some false) = some r := by rw [if_neg (show ¬ (false = true) by decide)] at H; exact H
      clear H
      have H := H1
      clear H1
      exact absurd ((Option.some.inj H).trans hr_) (by decide)

end Go.Proofs.Ytbdfidnldaghbaa.Q
