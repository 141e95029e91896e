/- The machine side of a law, written by a program of this session over the translation: for each Go function a Lean function with the same answers, and the proof that the Go code comes to them. -/
import Derived.Test.YtgmhohafoclmpaaQx0
import Derived.Test.YtgmhohafoclmpaaQx2
import Derived.Test.YtgmhohafoclmpaaQx6
import Derived.Test.YtgmhohafoclmpaaQx7
import Derived.Test.YtgmhohafoclmpaaQx8
namespace Go.Proofs.Ytgmhohafoclmpaa.Q
open Go.RowKit Go.Proofs.Ytgmhohafoclmpaa.Own Go.Proofs.YtgmhohafoclmpaaW.PrintWords Go.Proofs.YtgmhohafoclmpaaW.PrintLast Go.Proofs.YtgmhohafoclmpaaW.PrintMore
attribute [local go_sem] max2_int min2_int max_two min_two max_three min_three max_four min_four   -- for this text's walks alone
set_option linter.unusedVariables false
set_option linter.unusedSimpArgs false

/-! ### impl_TakeNode: function 60 -/
def impl_TakeNode.j0 : Nat → Int → Int → Int → ByteArray → Int → Int → Int → Bool → List Int → Option (Int × ByteArray × Int × Int × Int × Bool × List Int × Int)
 | 0, _, _, _, _, _, _, _, _, _ => none
 | k + 1, x7, x10, x304000, x304001, x304002, x304003, x304004, x304005, x304006 => if x7 < 0 then (some (0, (⟨#[]⟩ : ByteArray), 0, 0, 0, false, ([] : List Int), (-1))) else ((impl_in.f x10 0 1).bind fun t332 => (if t332 = true then ((impl_NodeOk.f k x304000 x304001 x304002 x304003 x304004 (x10 == 1) x304006).bind fun t333 => (if t333 = true then (some (x304000, x304001, x304002, x304003, x304004, (x10 == 1), x304006, x7)) else (some (0, (⟨#[]⟩ : ByteArray), 0, 0, 0, false, ([] : List Int), (-1))))) else (some (0, (⟨#[]⟩ : ByteArray), 0, 0, 0, false, ([] : List Int), (-1)))))
def impl_TakeNode.f (k : Nat) (l0 : List Int) (a1 : Int) : Option (Int × ByteArray × Int × Int × Int × Bool × List Int × Int) := (impl_TakeNum.f k l0 a1).bind fun bt301 => (if bt301.2 < 0 then (some (0, (⟨#[]⟩ : ByteArray), 0, 0, 0, false, ([] : List Int), (-1))) else (if bt301.1 = 0 then ((impl_TakeWord.f k l0 bt301.2).bind fun bt304 => (impl_TakeNode.j0 k bt304.2 0 bt301.1 bt304.1 0 0 0 false ([] : List Int))) else (if bt301.1 = 1 then ((impl_takeAll.f k l0 bt301.2 4).bind fun bt306 => (if bt306.2 ≥ 0 then (if 0 < (bt306.1.length : Int) then (if 1 < (bt306.1.length : Int) then (if 2 < (bt306.1.length : Int) then (if 3 < (bt306.1.length : Int) then (impl_TakeNode.j0 k bt306.2 (rd bt306.1 2) bt301.1 (⟨#[]⟩ : ByteArray) (rd bt306.1 0) (rd bt306.1 1) (rd bt306.1 3) false ([] : List Int)) else (none)) else (none)) else (none)) else (none)) else (impl_TakeNode.j0 k bt306.2 0 bt301.1 (⟨#[]⟩ : ByteArray) 0 0 0 false ([] : List Int)))) else (if bt301.1 = 2 then ((impl_TakeNums.f k l0 bt301.2).bind fun bt314 => (impl_TakeNode.j0 k bt314.2 0 bt301.1 (⟨#[]⟩ : ByteArray) 0 0 0 false bt314.1)) else (if bt301.1 = 3 then ((impl_takeAll.f k l0 bt301.2 2).bind fun bt318 => (if bt318.2 ≥ 0 then (if 0 < (bt318.1.length : Int) then (if 1 < (bt318.1.length : Int) then (impl_TakeNode.j0 k bt318.2 0 bt301.1 (⟨#[]⟩ : ByteArray) (rd bt318.1 0) 0 (rd bt318.1 1) false ([] : List Int)) else (none)) else (none)) else (impl_TakeNode.j0 k bt318.2 0 bt301.1 (⟨#[]⟩ : ByteArray) 0 0 0 false ([] : List Int)))) else (if bt301.1 = 5 then ((impl_TakeNum.f k l0 bt301.2).bind fun bt324 => (impl_TakeNode.j0 k bt324.2 0 bt301.1 (⟨#[]⟩ : ByteArray) bt324.1 0 0 false ([] : List Int))) else (if bt301.1 = 6 then ((impl_takeAll.f k l0 bt301.2 2).bind fun bt326 => (if bt326.2 ≥ 0 then (if 0 < (bt326.1.length : Int) then (if 1 < (bt326.1.length : Int) then (impl_TakeNode.j0 k bt326.2 (rd bt326.1 0) bt301.1 (⟨#[]⟩ : ByteArray) 0 0 (rd bt326.1 1) false ([] : List Int)) else (none)) else (none)) else (impl_TakeNode.j0 k bt326.2 0 bt301.1 (⟨#[]⟩ : ByteArray) 0 0 0 false ([] : List Int)))) else (impl_TakeNode.j0 k bt301.2 0 bt301.1 (⟨#[]⟩ : ByteArray) 0 0 0 false ([] : List Int)))))))))
theorem impl_TakeNode.mono_l : ∀ k, (∀ y0 y1 y2 y3 y4 y5 y6 y7 y8, LeO (impl_TakeNode.j0 k y0 y1 y2 y3 y4 y5 y6 y7 y8) (impl_TakeNode.j0 (k + 1) y0 y1 y2 y3 y4 y5 y6 y7 y8))
 | 0 => fun _ _ _ _ _ _ _ _ _ r h => by simp [impl_TakeNode.j0] at h
 | k + 1 => by
  have ih0 := impl_TakeNode.mono_l k
  ·intro y0 y1 y2 y3 y4 y5 y6 y7 y8
   unfold impl_TakeNode.j0
   repeat' first
   | (with_reducible exact ih0 _ _ _ _ _ _ _ _ _)
   | (with_reducible exact impl_NodeOk.mono _ _ _ _ _ _ _ _)
   | (with_reducible exact impl_TakeNum.mono _ _ _)
   | (with_reducible exact impl_TakeNums.mono _ _ _)
   | (with_reducible exact impl_TakeWord.mono _ _ _)
   | (with_reducible exact impl_takeAll.mono _ _ _ _)
   | (with_reducible exact LeO.refl _)
   | (with_reducible exact LeO.none _)
   | (with_reducible refine LeO.ite ?_ ?_)
   | (with_reducible refine LeO.bind ?_ (fun _ => ?_))
   | exact ih0 _ _ _ _ _ _ _ _ _
   | exact impl_NodeOk.mono _ _ _ _ _ _ _ _
   | exact impl_TakeNum.mono _ _ _
   | exact impl_TakeNums.mono _ _ _
   | exact impl_TakeWord.mono _ _ _
   | exact impl_takeAll.mono _ _ _ _
   | exact LeO.none _
   | refine LeO.ite ?_ ?_
   | refine LeO.bind ?_ (fun _ => ?_)
theorem impl_TakeNode.mono : ∀ a0 a1 k, LeO (impl_TakeNode.f k a0 a1) (impl_TakeNode.f (k + 1) a0 a1) := by
 intro a0 a1 k
 have ih0 := impl_TakeNode.mono_l k
 unfold impl_TakeNode.f
 repeat' first
   | (with_reducible exact ih0 _ _ _ _ _ _ _ _ _)
   | (with_reducible exact impl_NodeOk.mono _ _ _ _ _ _ _ _)
   | (with_reducible exact impl_TakeNum.mono _ _ _)
   | (with_reducible exact impl_TakeNums.mono _ _ _)
   | (with_reducible exact impl_TakeWord.mono _ _ _)
   | (with_reducible exact impl_takeAll.mono _ _ _ _)
   | (with_reducible exact LeO.refl _)
   | (with_reducible exact LeO.none _)
   | (with_reducible refine LeO.ite ?_ ?_)
   | (with_reducible refine LeO.bind ?_ (fun _ => ?_))
   | exact ih0 _ _ _ _ _ _ _ _ _
   | exact impl_NodeOk.mono _ _ _ _ _ _ _ _
   | exact impl_TakeNum.mono _ _ _
   | exact impl_TakeNums.mono _ _ _
   | exact impl_TakeWord.mono _ _ _
   | exact impl_takeAll.mono _ _ _ _
   | exact LeO.none _
   | refine LeO.ite ?_ ?_
   | refine LeO.bind ?_ (fun _ => ?_)
def impl_TakeNode.T13 : Bool × List (List Nat × List Nat) := (true, [([], []), ([0], [0]), ([1], [1]), ([], []), ([3], [3]), ([4], [4]), ([], []), ([6], [6]), ([7], [7]), ([], []), ([9], [9]), ([10], [10]), ([0, 1, 2], []), ([12, 2, 0, 1, 2], [2, 12]), ([0, 1, 2, 3, 4, 5, 12, 13], []), ([14, 5, 13, 0, 1, 2, 3, 4, 5, 12, 13], [5, 14]), ([8, 15, 0, 1, 2, 3, 4, 5, 6, 7, 8, 12, 13, 14, 15], [8]), ([0, 1, 2, 3, 4, 5, 6, 7, 8, 9, 10, 11, 12, 13, 14, 15, 16], []), ([17, 11, 16, 0, 1, 2, 3, 4, 5, 6, 7, 8, 9, 10, 11, 12, 13, 14, 15, 16], [11, 17])])
def impl_TakeNode.B13 : List Nat := [0, 1, 3, 0, 8, 24, 0, 64, 192, 0, 512, 1536, 7, 4103, 12351, 28735, 61951, 131071, 262143]
theorem impl_TakeNode.tab13 : rtab .any (opsOf Try.f60 13) = impl_TakeNode.T13 := by kernel_rfl
theorem impl_TakeNode.bits13 : waitsOk impl_TakeNode.T13.2 impl_TakeNode.B13 = true := by kernel_rfl
def impl_TakeNode.T19 : Bool × List (List Nat × List Nat) := (true, [([], []), ([0], [0]), ([1], [1]), ([], []), ([3], [3]), ([4], [4]), ([0, 1, 2], []), ([6, 2, 0, 1, 2], [2, 6]), ([0, 1, 2, 3, 4, 5, 6, 7], []), ([8, 5, 7, 0, 1, 2, 3, 4, 5, 6, 7], [5, 8])])
def impl_TakeNode.B19 : List Nat := [0, 1, 3, 0, 8, 24, 7, 71, 255, 511]
theorem impl_TakeNode.tab19 : rtab .any (opsOf Try.f60 19) = impl_TakeNode.T19 := by kernel_rfl
theorem impl_TakeNode.bits19 : waitsOk impl_TakeNode.T19.2 impl_TakeNode.B19 = true := by kernel_rfl
def impl_TakeNode.T25 : Bool × List (List Nat × List Nat) := (true, [([], []), ([0], [0]), ([1], [1]), ([], []), ([3], [3]), ([4], [4]), ([2, 0, 1, 2], [2]), ([0, 1, 2, 3, 4, 5, 6], []), ([7, 5, 6, 0, 1, 2, 3, 4, 5, 6], [5, 7])])
def impl_TakeNode.B25 : List Nat := [0, 1, 3, 0, 8, 24, 7, 127, 255]
theorem impl_TakeNode.tab25 : rtab .any (opsOf Try.f60 25) = impl_TakeNode.T25 := by kernel_rfl
theorem impl_TakeNode.bits25 : waitsOk impl_TakeNode.T25.2 impl_TakeNode.B25 = true := by kernel_rfl
set_option maxHeartbeats 8000000 in
set_option maxRecDepth 100000 in
theorem impl_TakeNode.calls (k : Nat) (A0 : Option Addr) (c0 : Nat) (l0 : List Int) (a1 : Int) (r1 : Int) (r2 : ByteArray) (r3 : Int) (r4 : Int) (r5 : Int) (r6 : Bool) (r7 : List Int) (r8 : Int) (w : World) (hr0 : Kd.C (Kd.int .u8) w A0 l0.length l0) (hc0 : l0.length ≤ c0) (h : impl_TakeNode.f k l0 a1 = some (r1, r2, r3, r4, r5, r6, r7, r8)) :
  Calls Try.prog 60 #[.slice A0 l0.length c0, .int .i64 a1] w fun e w' => ∃ v6_ : Value, e = .returned (.tuple #[.agg #[.int .i64 r1, .string r2, .int .i64 r3, .int .i64 r4, .int .i64 r5, .bool r6, v6_], .int .i64 r8]) ∧ Kd.R (Kd.int .i64) 3 w' w.heap.size (fun _ => True) v6_ r7 ∧ Below w.heap.size w w' := by
 have hu62 := Try.underlying62
 have HR0 := Aside0.mk hr0
 have HC0 := Aside0.mk hc0
 clear hr0 hc0
 have HB := Aside0.mk (Below.refl w.heap.size w)
 have H : ((impl_TakeNum.f k l0 a1).bind fun bt301 => (if bt301.2 < 0 then (some (0, (⟨#[]⟩ : ByteArray), 0, 0, 0, false, ([] : List Int), (-1))) else (if bt301.1 = 0 then ((impl_TakeWord.f k l0 bt301.2).bind fun bt304 => (impl_TakeNode.j0 k bt304.2 0 bt301.1 bt304.1 0 0 0 false ([] : List Int))) else (if bt301.1 = 1 then ((impl_takeAll.f k l0 bt301.2 4).bind fun bt306 => (if bt306.2 ≥ 0 then (if 0 < (bt306.1.length : Int) then (if 1 < (bt306.1.length : Int) then (if 2 < (bt306.1.length : Int) then (if 3 < (bt306.1.length : Int) then (impl_TakeNode.j0 k bt306.2 (rd bt306.1 2) bt301.1 (⟨#[]⟩ : ByteArray) (rd bt306.1 0) (rd bt306.1 1) (rd bt306.1 3) false ([] : List Int)) else (none)) else (none)) else (none)) else (none)) else (impl_TakeNode.j0 k bt306.2 0 bt301.1 (⟨#[]⟩ : ByteArray) 0 0 0 false ([] : List Int)))) else (if bt301.1 = 2 then ((impl_TakeNums.f k l0 bt301.2).bind fun bt314 => (impl_TakeNode.j0 k bt314.2 0 bt301.1 (⟨#[]⟩ : ByteArray) 0 0 0 false bt314.1)) else (if bt301.1 = 3 then ((impl_takeAll.f k l0 bt301.2 2).bind fun bt318 => (if bt318.2 ≥ 0 then (if 0 < (bt318.1.length : Int) then (if 1 < (bt318.1.length : Int) then (impl_TakeNode.j0 k bt318.2 0 bt301.1 (⟨#[]⟩ : ByteArray) (rd bt318.1 0) 0 (rd bt318.1 1) false ([] : List Int)) else (none)) else (none)) else (impl_TakeNode.j0 k bt318.2 0 bt301.1 (⟨#[]⟩ : ByteArray) 0 0 0 false ([] : List Int)))) else (if bt301.1 = 5 then ((impl_TakeNum.f k l0 bt301.2).bind fun bt324 => (impl_TakeNode.j0 k bt324.2 0 bt301.1 (⟨#[]⟩ : ByteArray) bt324.1 0 0 false ([] : List Int))) else (if bt301.1 = 6 then ((impl_takeAll.f k l0 bt301.2 2).bind fun bt326 => (if bt326.2 ≥ 0 then (if 0 < (bt326.1.length : Int) then (if 1 < (bt326.1.length : Int) then (impl_TakeNode.j0 k bt326.2 (rd bt326.1 0) bt301.1 (⟨#[]⟩ : ByteArray) 0 0 (rd bt326.1 1) false ([] : List Int)) else (none)) else (none)) else (impl_TakeNode.j0 k bt326.2 0 bt301.1 (⟨#[]⟩ : ByteArray) 0 0 0 false ([] : List Int)))) else (impl_TakeNode.j0 k bt301.2 0 bt301.1 (⟨#[]⟩ : ByteArray) 0 0 0 false ([] : List Int)))))))))) = some (r1, r2, r3, r4, r5, r6, r7, r8) := h
 clear h
 replace H := Option.bind_eq_some_iff.mp H
 obtain ⟨⟨t301, t302⟩, A30, H⟩ := H
 replace H : (if t302 < 0 then (some (0, (⟨#[]⟩ : ByteArray), 0, 0, 0, false, ([] : List Int), (-1))) else (if t301 = 0 then ((impl_TakeWord.f k l0 t302).bind fun bt304 => (impl_TakeNode.j0 k bt304.2 0 t301 bt304.1 0 0 0 false ([] : List Int))) else (if t301 = 1 then ((impl_takeAll.f k l0 t302 4).bind fun bt306 => (if bt306.2 ≥ 0 then (if 0 < (bt306.1.length : Int) then (if 1 < (bt306.1.length : Int) then (if 2 < (bt306.1.length : Int) then (if 3 < (bt306.1.length : Int) then (impl_TakeNode.j0 k bt306.2 (rd bt306.1 2) t301 (⟨#[]⟩ : ByteArray) (rd bt306.1 0) (rd bt306.1 1) (rd bt306.1 3) false ([] : List Int)) else (none)) else (none)) else (none)) else (none)) else (impl_TakeNode.j0 k bt306.2 0 t301 (⟨#[]⟩ : ByteArray) 0 0 0 false ([] : List Int)))) else (if t301 = 2 then ((impl_TakeNums.f k l0 t302).bind fun bt314 => (impl_TakeNode.j0 k bt314.2 0 t301 (⟨#[]⟩ : ByteArray) 0 0 0 false bt314.1)) else (if t301 = 3 then ((impl_takeAll.f k l0 t302 2).bind fun bt318 => (if bt318.2 ≥ 0 then (if 0 < (bt318.1.length : Int) then (if 1 < (bt318.1.length : Int) then (impl_TakeNode.j0 k bt318.2 0 t301 (⟨#[]⟩ : ByteArray) (rd bt318.1 0) 0 (rd bt318.1 1) false ([] : List Int)) else (none)) else (none)) else (impl_TakeNode.j0 k bt318.2 0 t301 (⟨#[]⟩ : ByteArray) 0 0 0 false ([] : List Int)))) else (if t301 = 5 then ((impl_TakeNum.f k l0 t302).bind fun bt324 => (impl_TakeNode.j0 k bt324.2 0 t301 (⟨#[]⟩ : ByteArray) bt324.1 0 0 false ([] : List Int))) else (if t301 = 6 then ((impl_takeAll.f k l0 t302 2).bind fun bt326 => (if bt326.2 ≥ 0 then (if 0 < (bt326.1.length : Int) then (if 1 < (bt326.1.length : Int) then (impl_TakeNode.j0 k bt326.2 (rd bt326.1 0) t301 (⟨#[]⟩ : ByteArray) 0 0 (rd bt326.1 1) false ([] : List Int)) else (none)) else (none)) else (impl_TakeNode.j0 k bt326.2 0 t301 (⟨#[]⟩ : ByteArray) 0 0 0 false ([] : List Int)))) else (impl_TakeNode.j0 k t302 0 t301 (⟨#[]⟩ : ByteArray) 0 0 0 false ([] : List Int))))))))) = some (r1, r2, r3, r4, r5, r6, r7, r8) := H
 have A3 := Aside0.mk A30
 clear A30
 by_cases c4 : t302 < 0
 ·rw [if_pos c4] at H
  have c4b0 : decide (t302 < 0) = true := decide_eq_true c4
  clear c4
  simp only [Option.some.injEq, Prod.mk.injEq] at H
  obtain ⟨rfl, rfl, rfl, rfl, rfl, rfl, rfl, rfl⟩ := H
  go_enter Try.func60, Try.ntmps60
  go_wp2_with (first | ((with_reducible refine gate_dst (N := 4) rfl ?_); refine box_event ?hg (N := 4) ?hd (cs := #[.int .i64 0, .string (⟨#[]⟩ : ByteArray), .int .i64 0, .int .i64 0, .int .i64 0, .bool false, .slice none 0 0]) (t := 62) ?hr ?_; (case hd => rfl); (case hg => rfl); (case hr => first | (go_simp; done) | (go_simp; rfl)); intro gb300 hg w5 hbox hb; have n0_ := Aside0.mk (below_step bA hb); have n1_ := Aside0.mk (hbox); have n2_ := Aside0.mk ((by rw [hg]; exact (below_size bA) : w.heap.size ≤ gb300)); have n3_ := Aside0.mk ((by rw [hg]; exact (below_size bA) : w.heap.size ≤ gb300)); clear HB; have HB := n0_; have BK300 := n1_; have GW300 := n2_; have GE300 := n3_; clear n0_ n1_ n2_ n3_; clear hb hbox hg) | ((with_reducible refine gate_callee (f := 58) rfl ?_); refine goesL_ (some 14) rfl rfl Try.func58 (by kernel_rfl) rfl #[.slice A0 l0.length c0, .int .i64 a1] rfl aL ?_; (with_reducible refine (impl_TakeNum.calls k _ _ l0 a1 t301 t302 _ ?side1 ?side2 A3.out).mono ?_); (case side1 => exact cA); (case side2 => exact HC0.out); rintro e w' ⟨rfl, ⟨nd, rfl⟩⟩; refine ⟨_, rfl, ?_⟩; (try (rw [drewN_self w5]; generalize hq_ : World.drewN w5 _ = w5; have n0_ : Aside0 (w5.heap[gb300]? = some (.cells #[.int .i64 0, .string (⟨#[]⟩ : ByteArray), .int .i64 0, .int .i64 0, .int .i64 0, .bool false, .slice none 0 0] 62 (0, 0))) := ⟨by rw [← hq_]; exact (by (with_reducible repeat (first | refine blk_drewN ?_ _ | refine blk_drew ?_ | refine blk_alloc ?_ _)); exact BK300.out)⟩; have n1_ : Aside0 (Below w.heap.size w w5) := ⟨by rw [← hq_]; exact bA⟩; clear BK300 HB hq_; have BK300 := n0_; have HB := n1_; clear n0_ n1_)); obtain ⟨⟨hcz6_0, hcz6_1, hcz6_2, hcz6_3, hcz6_4, hcz6_5, hcz6_6⟩, hfz6_0, hfz6_1, hfz6_2, hfz6_3, hfz6_4, hfz6_5, hfz6_6⟩ := Own.c7 BK300.out) | ((with_reducible refine gate_store (t := 62) (p := 4) rfl ?_); refine store_event (t := 62) (p := 4) (v := ?vo_w7) (w1 := (((((((w5.setCell ⟨gb300, 0, none⟩ (.int .i64 0)).setCell ⟨gb300, 1, none⟩ (.string (⟨#[]⟩ : ByteArray))).setCell ⟨gb300, 2, none⟩ (.int .i64 0)).setCell ⟨gb300, 3, none⟩ (.int .i64 0)).setCell ⟨gb300, 4, none⟩ (.int .i64 0)).setCell ⟨gb300, 5, none⟩ (.bool false)).setCell ⟨gb300, 6, none⟩ (.slice none 0 0))) ?hg ?ho ?hn ?hr ?_; (case ho => rfl); (case hg => rfl); (case hn => rfl); (case hr => first | (go_simp; done) | (go_simp; rfl)); intro w7 hw; have n0_ : Aside0 (w7.heap[gb300]? = some (.cells #[.int .i64 0, .string (⟨#[]⟩ : ByteArray), .int .i64 0, .int .i64 0, .int .i64 0, .bool false, .slice none 0 0] 62 (0, 0))) := ⟨(by rw [hw]; exact (by exact put7 BK300.out))⟩; have n1_ : Aside0 (Below w.heap.size w w7) := ⟨(by rw [hw]; exact bA)⟩; clear hw; clear BK300; clear HB; have BK300 := n0_; have HB := n1_; clear n0_ n1_))
  refine bodyPost_ret (results_ct rfl _ _ gb300 62 #[.int .i64 0, .string (⟨#[]⟩ : ByteArray), .int .i64 0, .int .i64 0, .int .i64 0, .bool false, .slice none 0 0] (0, 0) _ rfl (by (with_reducible repeat (first | refine blk_drewN ?_ _ | refine blk_drew ?_ | refine blk_alloc ?_ _)); exact BK300.out) Try.underlying62 rfl (by kernel_rfl)) rfl ?_
  exact ⟨.slice none 0 0, rE, by first | exact Kd.R_nil _ _ _ _ _ | exact Kd.N_nil _ _ _ _ _ | exact Kd.V_nil _ _ _ _ _ | exact Kd.Q_nil _ _ _ _ _ | exact Kd.S_nil _ _ _ _ _, bA⟩
 ·rw [if_neg c4] at H
  have c4b0 : decide (t302 < 0) = false := decide_eq_false c4
  clear c4
  have HC8 := Aside0.mk H
  clear H
  go_enter Try.func60, Try.ntmps60
  go_upto_block 0 with (first | ((with_reducible refine gate_dst (N := 4) rfl ?_); refine box_event ?hg (N := 4) ?hd (cs := #[.int .i64 0, .string (⟨#[]⟩ : ByteArray), .int .i64 0, .int .i64 0, .int .i64 0, .bool false, .slice none 0 0]) (t := 62) ?hr ?_; (case hd => rfl); (case hg => rfl); (case hr => first | (go_simp; done) | (go_simp; rfl)); intro gb300 hg w9 hbox hb; have n0_ := Aside0.mk (below_step bA hb); have n1_ := Aside0.mk (hbox); have n2_ := Aside0.mk ((by rw [hg]; exact (below_size bA) : w.heap.size ≤ gb300)); have n3_ := Aside0.mk ((by rw [hg]; exact (below_size bA) : w.heap.size ≤ gb300)); clear HB; have HB := n0_; have BK300 := n1_; have GW300 := n2_; have GE300 := n3_; clear n0_ n1_ n2_ n3_; clear hb hbox hg) | ((with_reducible refine gate_callee (f := 58) rfl ?_); refine goesL_ (some 14) rfl rfl Try.func58 (by kernel_rfl) rfl #[.slice A0 l0.length c0, .int .i64 a1] rfl aL ?_; (with_reducible refine (impl_TakeNum.calls k _ _ l0 a1 t301 t302 _ ?side1 ?side2 A3.out).mono ?_); (case side1 => exact cA); (case side2 => exact HC0.out); rintro e w' ⟨rfl, ⟨nd, rfl⟩⟩; refine ⟨_, rfl, ?_⟩; (try (rw [drewN_self w9]; generalize hq_ : World.drewN w9 _ = w9; have n0_ : Aside0 (w9.heap[gb300]? = some (.cells #[.int .i64 0, .string (⟨#[]⟩ : ByteArray), .int .i64 0, .int .i64 0, .int .i64 0, .bool false, .slice none 0 0] 62 (0, 0))) := ⟨by rw [← hq_]; exact (by (with_reducible repeat (first | refine blk_drewN ?_ _ | refine blk_drew ?_ | refine blk_alloc ?_ _)); exact BK300.out)⟩; have n1_ : Aside0 (Below w.heap.size w w9) := ⟨by rw [← hq_]; exact bA⟩; clear BK300 HB hq_; have BK300 := n0_; have HB := n1_; clear n0_ n1_))) | ((with_reducible refine gate_dst (N := 8) rfl ?_); refine box_event ?hg (N := 8) ?hd (cs := #[.int .i64 0, .string (⟨#[]⟩ : ByteArray), .int .i64 0, .int .i64 0, .int .i64 0, .bool false, .slice none 0 0]) (t := 62) ?hr ?_; (case hd => rfl); (case hg => rfl); (case hr => first | (go_simp; done) | (go_simp; rfl)); intro gb303 hg w10 hbox hb; have n0_ := Aside0.mk (blk_below (g := gb300) (o := .cells #[.int .i64 0, .string (⟨#[]⟩ : ByteArray), .int .i64 0, .int .i64 0, .int .i64 0, .bool false, .slice none 0 0] 62 (0, 0)) (by (with_reducible repeat (first | refine blk_drewN ?_ _ | refine blk_drew ?_ | refine blk_alloc ?_ _)); exact BK300.out) hb); have n1_ := Aside0.mk (below_step bA hb); have n2_ := Aside0.mk (hbox); have n3_ := Aside0.mk ((by rw [hg]; exact (below_size bA) : w.heap.size ≤ gb303)); have n4_ := Aside0.mk ((by rw [hg]; exact (below_size bA) : w.heap.size ≤ gb303)); have n5_ := Aside0.mk ((by rw [hg]; exact Nat.ne_of_lt (blk_lt (g := gb300) (o := .cells #[.int .i64 0, .string (⟨#[]⟩ : ByteArray), .int .i64 0, .int .i64 0, .int .i64 0, .bool false, .slice none 0 0] 62 (0, 0)) (by (with_reducible repeat (first | refine blk_drewN ?_ _ | refine blk_drew ?_ | refine blk_alloc ?_ _)); exact BK300.out)) : gb300 ≠ gb303)); have n6_ := Aside0.mk ((by rw [hg]; exact Nat.ne_of_gt (blk_lt (g := gb300) (o := .cells #[.int .i64 0, .string (⟨#[]⟩ : ByteArray), .int .i64 0, .int .i64 0, .int .i64 0, .bool false, .slice none 0 0] 62 (0, 0)) (by (with_reducible repeat (first | refine blk_drewN ?_ _ | refine blk_drew ?_ | refine blk_alloc ?_ _)); exact BK300.out)) : gb303 ≠ gb300)); clear BK300; clear HB; have BK300 := n0_; have HB := n1_; have BK303 := n2_; have GW303 := n3_; have GE303 := n4_; have NB300_303 := n5_; have NB303_300 := n6_; clear n0_ n1_ n2_ n3_ n4_ n5_ n6_; clear hb hbox hg; have hnb11 := NB303_300.out; have hnc11 := NB300_303.out; obtain ⟨⟨hcz12_0, hcz12_1, hcz12_2, hcz12_3, hcz12_4, hcz12_5, hcz12_6⟩, hfz12_0, hfz12_1, hfz12_2, hfz12_3, hfz12_4, hfz12_5, hfz12_6⟩ := Own.c7 BK303.out) | ((with_reducible refine gate_store (t := 62) (p := 8) rfl ?_); refine store_event (t := 62) (p := 8) (v := ?vo_w13) (w1 := (((((((w10.setCell ⟨gb303, 0, none⟩ (.int .i64 t301)).setCell ⟨gb303, 1, none⟩ (.string (⟨#[]⟩ : ByteArray))).setCell ⟨gb303, 2, none⟩ (.int .i64 0)).setCell ⟨gb303, 3, none⟩ (.int .i64 0)).setCell ⟨gb303, 4, none⟩ (.int .i64 0)).setCell ⟨gb303, 5, none⟩ (.bool false)).setCell ⟨gb303, 6, none⟩ (.slice none 0 0))) ?hg ?ho ?hn ?hr ?_; (case ho => rfl); (case hg => rfl); (case hn => rfl); (case hr => first | (go_simp; done) | (go_simp; rfl)); intro w13 hw; have n0_ : Aside0 (w13.heap[gb300]? = some (.cells #[.int .i64 0, .string (⟨#[]⟩ : ByteArray), .int .i64 0, .int .i64 0, .int .i64 0, .bool false, .slice none 0 0] 62 (0, 0))) := ⟨(by rw [hw]; exact (by (with_reducible repeat (first | refine blk_drewN ?_ _ | refine blk_drew ?_ | refine blk_alloc ?_ _)); refine blk_far ?_ NB300_303.out _; (with_reducible repeat (first | refine blk_drewN ?_ _ | refine blk_drew ?_ | refine blk_alloc ?_ _)); refine blk_far ?_ NB300_303.out _; (with_reducible repeat (first | refine blk_drewN ?_ _ | refine blk_drew ?_ | refine blk_alloc ?_ _)); refine blk_far ?_ NB300_303.out _; (with_reducible repeat (first | refine blk_drewN ?_ _ | refine blk_drew ?_ | refine blk_alloc ?_ _)); refine blk_far ?_ NB300_303.out _; (with_reducible repeat (first | refine blk_drewN ?_ _ | refine blk_drew ?_ | refine blk_alloc ?_ _)); refine blk_far ?_ NB300_303.out _; (with_reducible repeat (first | refine blk_drewN ?_ _ | refine blk_drew ?_ | refine blk_alloc ?_ _)); refine blk_far ?_ NB300_303.out _; (with_reducible repeat (first | refine blk_drewN ?_ _ | refine blk_drew ?_ | refine blk_alloc ?_ _)); refine blk_far ?_ NB300_303.out _; (with_reducible repeat (first | refine blk_drewN ?_ _ | refine blk_drew ?_ | refine blk_alloc ?_ _)); exact BK300.out))⟩; have n1_ : Aside0 (w13.heap[gb303]? = some (.cells #[.int .i64 t301, .string (⟨#[]⟩ : ByteArray), .int .i64 0, .int .i64 0, .int .i64 0, .bool false, .slice none 0 0] 62 (0, 0))) := ⟨(by rw [hw]; exact (by exact put7 BK303.out))⟩; have n2_ : Aside0 (Below w.heap.size w w13) := ⟨(by rw [hw]; exact bA)⟩; clear hw; clear BK300; clear BK303; clear HB; have BK300 := n0_; have BK303 := n1_; have HB := n2_; clear n0_ n1_ n2_))
  (try simp only [Act.put, List.setIfInBounds_toArray, List.set_cons_zero, List.set_cons_succ])
  go_cut [7, 10] (fun v7 v10 wc => ∃ (kq : Nat) (x7_7 : Int) (x10_7 : Int) (x304001_7 : ByteArray) (x304002_7 : Int) (x304003_7 : Int) (x304004_7 : Int) (x304006_7 : List Int) (u304006 : Value), v7 = .int .i64 x7_7 ∧ v10 = .int .i64 x10_7 ∧ Aside0 (impl_TakeNode.j0 kq x7_7 x10_7 t301 x304001_7 x304002_7 x304003_7 x304004_7 false x304006_7 = some (r1, r2, r3, r4, r5, r6, r7, r8)) ∧ Aside0 (kq ≤ k) ∧ Aside0 (Kd.R (Kd.int .i64) 3 wc w.heap.size (fun _ => True) u304006 x304006_7) ∧ Aside0 (wc.heap[gb300]? = some (.cells #[.int .i64 0, .string (⟨#[]⟩ : ByteArray), .int .i64 0, .int .i64 0, .int .i64 0, .bool false, (.slice none 0 0)] 62 (0, 0))) ∧ Aside0 (wc.heap[gb303]? = some (.cells #[.int .i64 t301, .string x304001_7, .int .i64 x304002_7, .int .i64 x304003_7, .int .i64 x304004_7, .bool false, u304006] 62 (0, 0))) ∧ Aside0 (Below w.heap.size w wc))
  case first =>
   have H := HC8.out
   clear HC8
   by_cases c14 : t301 = 0
   ·rw [if_pos c14] at H
    have c14b0 : (t301 == 0) = true := beq_iff_eq.mpr c14
    have c14b1 : (t301 != 0) = false := bne_eq_false_iff_eq.mpr c14
    clear c14
    (first | rw [c14b0] | (simp only [i64_w, i32_w]; rw [c14b0]) | skip)
    replace H := Option.bind_eq_some_iff.mp H
    obtain ⟨⟨t304, t305⟩, A150, H⟩ := H
    replace H : (impl_TakeNode.j0 k t305 0 t301 t304 0 0 0 false ([] : List Int)) = some (r1, r2, r3, r4, r5, r6, r7, r8) := H
    have A15 := Aside0.mk A150
    clear A150
    have H' := Aside0.mk H
    clear H
    go_wp2_with (first | ((with_reducible refine gate_callee (f := 102) rfl ?_); refine goesL_ (some 28) rfl rfl Try.func102 (by kernel_rfl) rfl #[.slice A0 l0.length c0, .int .i64 t302] rfl aL ?_; (with_reducible refine (impl_TakeWord.calls k _ _ l0 t302 t304 t305 _ ?side1 ?side2 A15.out).mono ?_); (case side1 => exact cA); (case side2 => exact HC0.out); rintro e w' ⟨rfl, ⟨nd, rfl⟩⟩; refine ⟨_, rfl, ?_⟩; (try (rw [drewN_self w13]; generalize hq_ : World.drewN w13 _ = w13; have n0_ : Aside0 (w13.heap[gb300]? = some (.cells #[.int .i64 0, .string (⟨#[]⟩ : ByteArray), .int .i64 0, .int .i64 0, .int .i64 0, .bool false, .slice none 0 0] 62 (0, 0))) := ⟨by rw [← hq_]; exact (by (with_reducible repeat (first | refine blk_drewN ?_ _ | refine blk_drew ?_ | refine blk_alloc ?_ _)); exact BK300.out)⟩; have n1_ : Aside0 (w13.heap[gb303]? = some (.cells #[.int .i64 t301, .string (⟨#[]⟩ : ByteArray), .int .i64 0, .int .i64 0, .int .i64 0, .bool false, .slice none 0 0] 62 (0, 0))) := ⟨by rw [← hq_]; exact (by (with_reducible repeat (first | refine blk_drewN ?_ _ | refine blk_drew ?_ | refine blk_alloc ?_ _)); exact BK303.out)⟩; have n2_ : Aside0 (Below w.heap.size w w13) := ⟨by rw [← hq_]; exact bA⟩; clear BK300 BK303 HB hq_; have BK300 := n0_; have BK303 := n1_; have HB := n2_; clear n0_ n1_ n2_)); have hnb16 := NB303_300.out; have hnc16 := NB300_303.out; obtain ⟨⟨hcz17_0, hcz17_1, hcz17_2, hcz17_3, hcz17_4, hcz17_5, hcz17_6⟩, hfz17_0, hfz17_1, hfz17_2, hfz17_3, hfz17_4, hfz17_5, hfz17_6⟩ := Own.c7 BK303.out))
    go_meet
    case rel => exact ⟨_, (t305), (0), (t304), (0), (0), (0), (([] : List Int)), (.slice none 0 0), rF, rF, H', ⟨by first | omega | exact Nat.le_refl _⟩, ⟨by first | exact Kd.R_nil _ _ _ _ _ | exact Kd.N_nil _ _ _ _ _ | exact Kd.V_nil _ _ _ _ _ | exact Kd.Q_nil _ _ _ _ _ | exact Kd.S_nil _ _ _ _ _⟩, ⟨by (with_reducible repeat (first | refine blk_drewN ?_ _ | refine blk_drew ?_ | refine blk_alloc ?_ _)); refine blk_far ?_ NB300_303.out _; (with_reducible repeat (first | refine blk_drewN ?_ _ | refine blk_drew ?_ | refine blk_alloc ?_ _)); exact BK300.out⟩, ⟨by (with_reducible repeat (first | refine blk_drewN ?_ _ | refine blk_drew ?_ | refine blk_alloc ?_ _)); refine blk_put (cs := #[.int .i64 t301, .string (⟨#[]⟩ : ByteArray), .int .i64 0, .int .i64 0, .int .i64 0, .bool false, .slice none 0 0]) ?_ 1 _ rfl; (with_reducible repeat (first | refine blk_drewN ?_ _ | refine blk_drew ?_ | refine blk_alloc ?_ _)); exact BK303.out⟩, ⟨bA⟩⟩
   ·rw [if_neg c14] at H
    have c14b0 : (t301 == 0) = false := beq_eq_false_iff_ne.mpr c14
    have c14b1 : (t301 != 0) = true := bne_iff_ne.mpr c14
    (first | rw [c14b0] | (simp only [i64_w, i32_w]; rw [c14b0]) | skip)
    by_cases c18 : t301 = 1
    ·rw [if_pos c18] at H
     have c18b0 : (t301 == 1) = true := beq_iff_eq.mpr c18
     have c18b1 : (t301 != 1) = false := bne_eq_false_iff_eq.mpr c18
     clear c18
     replace H := Option.bind_eq_some_iff.mp H
     obtain ⟨⟨t306, t307⟩, A190, H⟩ := H
     replace H : (if t307 ≥ 0 then (if 0 < (t306.length : Int) then (if 1 < (t306.length : Int) then (if 2 < (t306.length : Int) then (if 3 < (t306.length : Int) then (impl_TakeNode.j0 k t307 (rd t306 2) t301 (⟨#[]⟩ : ByteArray) (rd t306 0) (rd t306 1) (rd t306 3) false ([] : List Int)) else (none)) else (none)) else (none)) else (none)) else (impl_TakeNode.j0 k t307 0 t301 (⟨#[]⟩ : ByteArray) 0 0 0 false ([] : List Int))) = some (r1, r2, r3, r4, r5, r6, r7, r8) := H
     have A19 := Aside0.mk A190
     clear A190
     by_cases c20 : t307 ≥ 0
     ·rw [if_pos c20] at H
      have c20b0 : decide (0 ≤ t307) = true := decide_eq_true c20
      clear c20
      by_cases c21 : 0 < (t306.length : Int)
      ·rw [if_pos c21] at H
       have c21b0 : decide (0 < (t306.length : Int)) = true := decide_eq_true c21
       have c21b1 : decide (0 < t306.length) = true := decide_eq_true (by omega)
       clear c21
       by_cases c22 : 1 < (t306.length : Int)
       ·rw [if_pos c22] at H
        have c22b0 : decide (1 < (t306.length : Int)) = true := decide_eq_true c22
        have c22b1 : decide (1 < t306.length) = true := decide_eq_true (by omega)
        clear c22
        by_cases c23 : 2 < (t306.length : Int)
        ·rw [if_pos c23] at H
         have c23b0 : decide (2 < (t306.length : Int)) = true := decide_eq_true c23
         have c23b1 : decide (2 < t306.length) = true := decide_eq_true (by omega)
         clear c23
         by_cases c24 : 3 < (t306.length : Int)
         ·rw [if_pos c24] at H
          have c24b0 : decide (3 < (t306.length : Int)) = true := decide_eq_true c24
          have c24b1 : decide (3 < t306.length) = true := decide_eq_true (by omega)
          clear c24
          have H' := Aside0.mk H
          clear H
          try go_wp2_with (first | ((with_reducible refine gate_callee (f := 103) rfl ?_); refine goesL_ (some 37) rfl rfl Try.func103 (by kernel_rfl) rfl #[.slice A0 l0.length c0, .int .i64 t302, .int .i64 4] rfl aL ?_; (with_reducible refine (impl_takeAll.calls k _ _ l0 t302 4 t306 t307 _ ?side1 ?side2 A19.out).mono ?_); (case side1 => exact cA); (case side2 => exact HC0.out); rintro e w25 ⟨v308, rfl, ho0, hb⟩; refine ⟨_, rfl, ?_⟩; have n0_ := Aside0.mk (Kd.R_lower ho0 (below_size bA)); have n1_ := Aside0.mk (blk_below (g := gb300) (o := .cells #[.int .i64 0, .string (⟨#[]⟩ : ByteArray), .int .i64 0, .int .i64 0, .int .i64 0, .bool false, .slice none 0 0] 62 (0, 0)) (by (with_reducible repeat (first | refine blk_drewN ?_ _ | refine blk_drew ?_ | refine blk_alloc ?_ _)); exact BK300.out) hb); have n2_ := Aside0.mk (blk_below (g := gb303) (o := .cells #[.int .i64 t301, .string (⟨#[]⟩ : ByteArray), .int .i64 0, .int .i64 0, .int .i64 0, .bool false, .slice none 0 0] 62 (0, 0)) (by (with_reducible repeat (first | refine blk_drewN ?_ _ | refine blk_drew ?_ | refine blk_alloc ?_ _)); exact BK303.out) hb); have n3_ := Aside0.mk (below_step bA hb); clear BK300; clear BK303; clear HB; have HO309 := n0_; have BK300 := n1_; have BK303 := n2_; have HB := n3_; clear n0_ n1_ n2_ n3_; (try clear hb); (try clear hb2); (try clear hk); (try clear hi); (try clear ho0)))
          have n0_ := Aside0.mk (Kd.R_drew HO309.out)
          have n1_ := Aside0.mk (blk_drew BK300.out)
          have n2_ := Aside0.mk (blk_drew BK303.out)
          have n3_ := Aside0.mk (below_drew1 HB.out)
          clear HO309
          clear BK300
          clear BK303
          clear HB
          have HO309 := n0_
          have BK300 := n1_
          have BK303 := n2_
          have HB := n3_
          clear n0_ n1_ n2_ n3_
          obtain ⟨Ao27, co27, eo27⟩ := Kd.R_slice HO309.out
          (first | subst eo27 | (injection eo27 with f1_ f2_ f3_; have f4_ := f1_.symm; have f5_ := f3_.symm; clear f1_ f2_ f3_; subst f4_; subst f5_))
          have p310 : 0 ≤ (0 : Int) := (by omega)
          have q310 : 0 < (t306.length : Int) := of_decide_eq_true (by assumption)
          obtain ⟨ad310, e310, hx310_0⟩ := Kd.at_int (Kd.R_reads' HO309.out).2.2 0 p310 q310
          cases e310
          have qi310 : (0 < t306.length) = True := eq_true (by omega)
          (try rw [show ((0 : Int)).toNat = 0 from rfl] at hx310_0)
          (try rw [Addr.add_zero'] at hx310_0)
          replace p310 := eq_true p310
          replace q310 := eq_true q310
          have p311 : 0 ≤ (1 : Int) := (by omega)
          have q311 : 1 < (t306.length : Int) := of_decide_eq_true (by assumption)
          obtain ⟨ad311, e311, hx311_0⟩ := Kd.at_int (Kd.R_reads' HO309.out).2.2 1 p311 q311
          obtain rfl : ad310 = ad311 := (by injection e311)
          (try simp only [show (1 : Int).toNat = 1 from rfl, Nat.reduceMul, Nat.reduceEqDiff, Go.Addr.add, ↓reduceIte] at hx311_0)
          have qi311 : (1 < t306.length) = True := eq_true (by omega)
          (try rw [show ((1 : Int)).toNat = 1 from rfl] at hx311_0)
          replace p311 := eq_true p311
          replace q311 := eq_true q311
          have p312 : 0 ≤ (2 : Int) := (by omega)
          have q312 : 2 < (t306.length : Int) := of_decide_eq_true (by assumption)
          obtain ⟨ad312, e312, hx312_0⟩ := Kd.at_int (Kd.R_reads' HO309.out).2.2 2 p312 q312
          obtain rfl : ad310 = ad312 := (by injection e312)
          (try simp only [show (2 : Int).toNat = 2 from rfl, Nat.reduceMul, Nat.reduceEqDiff, Go.Addr.add, ↓reduceIte] at hx312_0)
          have qi312 : (2 < t306.length) = True := eq_true (by omega)
          (try rw [show ((2 : Int)).toNat = 2 from rfl] at hx312_0)
          replace p312 := eq_true p312
          replace q312 := eq_true q312
          have p313 : 0 ≤ (3 : Int) := (by omega)
          have q313 : 3 < (t306.length : Int) := of_decide_eq_true (by assumption)
          obtain ⟨ad313, e313, hx313_0⟩ := Kd.at_int (Kd.R_reads' HO309.out).2.2 3 p313 q313
          obtain rfl : ad310 = ad313 := (by injection e313)
          (try simp only [show (3 : Int).toNat = 3 from rfl, Nat.reduceMul, Nat.reduceEqDiff, Go.Addr.add, ↓reduceIte] at hx313_0)
          have qi313 : (3 < t306.length) = True := eq_true (by omega)
          (try rw [show ((3 : Int)).toNat = 3 from rfl] at hx313_0)
          replace p313 := eq_true p313
          replace q313 := eq_true q313
          refine start_ (n := 19) (S := fun w' => w'.cell? ad310 = some (.int .i64 (rd t306 0)) ∧ w'.cell? ⟨ad310.block, ad310.off + 1, none⟩ = some (.int .i64 (rd t306 1)) ∧ w'.cell? ⟨ad310.block, ad310.off + 2, none⟩ = some (.int .i64 (rd t306 2)) ∧ w'.cell? ⟨ad310.block, ad310.off + 3, none⟩ = some (.int .i64 (rd t306 3))) (ds := []) #[false, false, false, false, false, false, false, false, false, false, false, false, false, false, false, false, false, false, false] (by kernel_rfl) rfl rfl ⟨hx310_0, hx311_0, hx312_0, hx313_0⟩ (fun hHeld => ?_); refine with_tabW impl_TakeNode.tab13 impl_TakeNode.bits13 (fun HT_ HW_ => ?_)
          generalize w25.drew = w26 at HO309 BK300 BK303 HB hx310_0 hx311_0 hx312_0 hx313_0 hHeld ⊢
          refine pt_ 0 42 ?_
          refine pt_ 1 43 ?_
          refine pt_ 3 45 ?_
          refine pt_ 4 46 ?_
          refine pt_ 6 48 ?_
          refine pt_ 7 49 ?_
          refine pt_ 9 51 ?_
          refine pt_ 10 52 ?_
          refine tt_ 2 44 ?_
          refine pt_ 12 54 ?_
          refine tt_ 5 47 ?_
          refine tt_ 8 50 ?_
          refine tt_ 11 53 ?_
          refine one_ (i := 13) (N := none) #[true, true, true, true, true, true, true, true, true, true, true, true, true, true, false, false, false, false, false] rfl rfl (one_of HT_.out (by kernel_rfl)) (by decide) (fun K hK => ?_)
          have hs28 : w26.cell? ⟨gb303, 2, none⟩ = some (.int .i64 0) := (blk_cell BK303.out 2).trans rfl
          have hfs28 := blk_frozen BK303.out 2
          have hns28_0 := NB300_303.out
          have hms28_0 := NB303_300.out
          refine skip_ (w1 := ?_) (by rfl) rfl ?_ ?_
          rotate_left
          ·go_simp
           rfl
          refine hK.out _ _ ⟨((cell_far (p := ⟨gb303, _, none⟩) (by first | exact Kd.own_blk (Kd.R_ne HO309.out BK303.out (by decide)) | (rw [add_block]; exact Kd.own_blk (Kd.R_ne HO309.out BK303.out (by decide))) | (show (Addr.add _ _).block ≠ _; rw [add_block]; exact Kd.own_blk (Kd.R_ne HO309.out BK303.out (by decide))) | (dsimp only; exact Kd.own_blk (Kd.R_ne HO309.out BK303.out (by decide)))) _).trans (hHeld.1)), ((cell_far (p := ⟨gb303, _, none⟩) (by first | exact Kd.own_blk (Kd.R_ne HO309.out BK303.out (by decide)) | (rw [add_block]; exact Kd.own_blk (Kd.R_ne HO309.out BK303.out (by decide))) | (show (Addr.add _ _).block ≠ _; rw [add_block]; exact Kd.own_blk (Kd.R_ne HO309.out BK303.out (by decide))) | (dsimp only; exact Kd.own_blk (Kd.R_ne HO309.out BK303.out (by decide)))) _).trans (hHeld.2.1)), ((cell_far (p := ⟨gb303, _, none⟩) (by first | exact Kd.own_blk (Kd.R_ne HO309.out BK303.out (by decide)) | (rw [add_block]; exact Kd.own_blk (Kd.R_ne HO309.out BK303.out (by decide))) | (show (Addr.add _ _).block ≠ _; rw [add_block]; exact Kd.own_blk (Kd.R_ne HO309.out BK303.out (by decide))) | (dsimp only; exact Kd.own_blk (Kd.R_ne HO309.out BK303.out (by decide)))) _).trans (hHeld.2.2.1)), ((cell_far (p := ⟨gb303, _, none⟩) (by first | exact Kd.own_blk (Kd.R_ne HO309.out BK303.out (by decide)) | (rw [add_block]; exact Kd.own_blk (Kd.R_ne HO309.out BK303.out (by decide))) | (show (Addr.add _ _).block ≠ _; rw [add_block]; exact Kd.own_blk (Kd.R_ne HO309.out BK303.out (by decide))) | (dsimp only; exact Kd.own_blk (Kd.R_ne HO309.out BK303.out (by decide)))) _).trans (hHeld.2.2.2))⟩ (fun hHeld => ?_)
          clear hK K
          refine pt_ 14 55 ?_
          refine one_ (i := 15) (N := none) #[true, true, true, true, true, true, true, true, true, true, true, true, true, true, true, true, false, false, false] rfl rfl (one_of HT_.out (by kernel_rfl)) (by decide) (fun K hK => ?_)
          have hs29 : w26.cell? ⟨gb303, 3, none⟩ = some (.int .i64 0) := (blk_cell BK303.out 3).trans rfl
          have hfs29 := blk_frozen BK303.out 3
          have hns29_0 := NB300_303.out
          have hms29_0 := NB303_300.out
          refine skip_ (w1 := ?_) (by rfl) rfl ?_ ?_
          rotate_left
          ·go_simp
           rfl
          refine hK.out _ _ ⟨((cell_far (p := ⟨gb303, _, none⟩) (by first | exact Kd.own_blk (Kd.R_ne HO309.out BK303.out (by decide)) | (rw [add_block]; exact Kd.own_blk (Kd.R_ne HO309.out BK303.out (by decide))) | (show (Addr.add _ _).block ≠ _; rw [add_block]; exact Kd.own_blk (Kd.R_ne HO309.out BK303.out (by decide))) | (dsimp only; exact Kd.own_blk (Kd.R_ne HO309.out BK303.out (by decide)))) _).trans (hHeld.1)), ((cell_far (p := ⟨gb303, _, none⟩) (by first | exact Kd.own_blk (Kd.R_ne HO309.out BK303.out (by decide)) | (rw [add_block]; exact Kd.own_blk (Kd.R_ne HO309.out BK303.out (by decide))) | (show (Addr.add _ _).block ≠ _; rw [add_block]; exact Kd.own_blk (Kd.R_ne HO309.out BK303.out (by decide))) | (dsimp only; exact Kd.own_blk (Kd.R_ne HO309.out BK303.out (by decide)))) _).trans (hHeld.2.1)), ((cell_far (p := ⟨gb303, _, none⟩) (by first | exact Kd.own_blk (Kd.R_ne HO309.out BK303.out (by decide)) | (rw [add_block]; exact Kd.own_blk (Kd.R_ne HO309.out BK303.out (by decide))) | (show (Addr.add _ _).block ≠ _; rw [add_block]; exact Kd.own_blk (Kd.R_ne HO309.out BK303.out (by decide))) | (dsimp only; exact Kd.own_blk (Kd.R_ne HO309.out BK303.out (by decide)))) _).trans (hHeld.2.2.1)), ((cell_far (p := ⟨gb303, _, none⟩) (by first | exact Kd.own_blk (Kd.R_ne HO309.out BK303.out (by decide)) | (rw [add_block]; exact Kd.own_blk (Kd.R_ne HO309.out BK303.out (by decide))) | (show (Addr.add _ _).block ≠ _; rw [add_block]; exact Kd.own_blk (Kd.R_ne HO309.out BK303.out (by decide))) | (dsimp only; exact Kd.own_blk (Kd.R_ne HO309.out BK303.out (by decide)))) _).trans (hHeld.2.2.2))⟩ (fun hHeld => ?_)
          clear hK K
          refine pt_ 16 10 ?_
          refine pt_ 17 56 ?_
          refine one_ (i := 18) (N := none) #[true, true, true, true, true, true, true, true, true, true, true, true, true, true, true, true, true, true, true] rfl rfl (one_of HT_.out (by kernel_rfl)) (by decide) (fun K hK => ?_)
          have hs30 : w26.cell? ⟨gb303, 4, none⟩ = some (.int .i64 0) := (blk_cell BK303.out 4).trans rfl
          have hfs30 := blk_frozen BK303.out 4
          have hns30_0 := NB300_303.out
          have hms30_0 := NB303_300.out
          refine skip_ (w1 := ?_) (by rfl) rfl ?_ ?_
          rotate_left
          ·go_simp
           rfl
          refine hK.out _ _ ⟨((cell_far (p := ⟨gb303, _, none⟩) (by first | exact Kd.own_blk (Kd.R_ne HO309.out BK303.out (by decide)) | (rw [add_block]; exact Kd.own_blk (Kd.R_ne HO309.out BK303.out (by decide))) | (show (Addr.add _ _).block ≠ _; rw [add_block]; exact Kd.own_blk (Kd.R_ne HO309.out BK303.out (by decide))) | (dsimp only; exact Kd.own_blk (Kd.R_ne HO309.out BK303.out (by decide)))) _).trans (hHeld.1)), ((cell_far (p := ⟨gb303, _, none⟩) (by first | exact Kd.own_blk (Kd.R_ne HO309.out BK303.out (by decide)) | (rw [add_block]; exact Kd.own_blk (Kd.R_ne HO309.out BK303.out (by decide))) | (show (Addr.add _ _).block ≠ _; rw [add_block]; exact Kd.own_blk (Kd.R_ne HO309.out BK303.out (by decide))) | (dsimp only; exact Kd.own_blk (Kd.R_ne HO309.out BK303.out (by decide)))) _).trans (hHeld.2.1)), ((cell_far (p := ⟨gb303, _, none⟩) (by first | exact Kd.own_blk (Kd.R_ne HO309.out BK303.out (by decide)) | (rw [add_block]; exact Kd.own_blk (Kd.R_ne HO309.out BK303.out (by decide))) | (show (Addr.add _ _).block ≠ _; rw [add_block]; exact Kd.own_blk (Kd.R_ne HO309.out BK303.out (by decide))) | (dsimp only; exact Kd.own_blk (Kd.R_ne HO309.out BK303.out (by decide)))) _).trans (hHeld.2.2.1)), ((cell_far (p := ⟨gb303, _, none⟩) (by first | exact Kd.own_blk (Kd.R_ne HO309.out BK303.out (by decide)) | (rw [add_block]; exact Kd.own_blk (Kd.R_ne HO309.out BK303.out (by decide))) | (show (Addr.add _ _).block ≠ _; rw [add_block]; exact Kd.own_blk (Kd.R_ne HO309.out BK303.out (by decide))) | (dsimp only; exact Kd.own_blk (Kd.R_ne HO309.out BK303.out (by decide)))) _).trans (hHeld.2.2.2))⟩ (fun hHeld => ?_)
          clear hK K
          refine done_ (done_of HT_.out (by kernel_rfl)) ?_
          try go_wp2
          go_meet
          case rel => exact ⟨_, (t307), (rd t306 2), ((⟨#[]⟩ : ByteArray)), (rd t306 0), (rd t306 1), (rd t306 3), (([] : List Int)), (.slice none 0 0), rF, rF, H', ⟨by first | omega | exact Nat.le_refl _⟩, ⟨by first | exact Kd.R_nil _ _ _ _ _ | exact Kd.N_nil _ _ _ _ _ | exact Kd.V_nil _ _ _ _ _ | exact Kd.Q_nil _ _ _ _ _ | exact Kd.S_nil _ _ _ _ _⟩, ⟨by (with_reducible repeat (first | refine blk_drewN ?_ _ | refine blk_drew ?_ | refine blk_alloc ?_ _)); refine blk_far ?_ NB300_303.out _; (with_reducible repeat (first | refine blk_drewN ?_ _ | refine blk_drew ?_ | refine blk_alloc ?_ _)); refine blk_far ?_ NB300_303.out _; (with_reducible repeat (first | refine blk_drewN ?_ _ | refine blk_drew ?_ | refine blk_alloc ?_ _)); refine blk_far ?_ NB300_303.out _; (with_reducible repeat (first | refine blk_drewN ?_ _ | refine blk_drew ?_ | refine blk_alloc ?_ _)); exact BK300.out⟩, ⟨by (with_reducible repeat (first | refine blk_drewN ?_ _ | refine blk_drew ?_ | refine blk_alloc ?_ _)); refine blk_put (cs := #[.int .i64 t301, .string (⟨#[]⟩ : ByteArray), .int .i64 (rd t306 0), .int .i64 (rd t306 1), .int .i64 0, .bool false, .slice none 0 0]) ?_ 4 _ rfl; (with_reducible repeat (first | refine blk_drewN ?_ _ | refine blk_drew ?_ | refine blk_alloc ?_ _)); refine blk_put (cs := #[.int .i64 t301, .string (⟨#[]⟩ : ByteArray), .int .i64 (rd t306 0), .int .i64 0, .int .i64 0, .bool false, .slice none 0 0]) ?_ 3 _ rfl; (with_reducible repeat (first | refine blk_drewN ?_ _ | refine blk_drew ?_ | refine blk_alloc ?_ _)); refine blk_put (cs := #[.int .i64 t301, .string (⟨#[]⟩ : ByteArray), .int .i64 0, .int .i64 0, .int .i64 0, .bool false, .slice none 0 0]) ?_ 2 _ rfl; (with_reducible repeat (first | refine blk_drewN ?_ _ | refine blk_drew ?_ | refine blk_alloc ?_ _)); exact BK303.out⟩, ⟨bA⟩⟩
         ·rw [if_neg c24] at H
          exact absurd H (by simp)
        ·rw [if_neg c23] at H
         exact absurd H (by simp)
       ·rw [if_neg c22] at H
        exact absurd H (by simp)
      ·rw [if_neg c21] at H
       exact absurd H (by simp)
     ·rw [if_neg c20] at H
      have c20b0 : decide (0 ≤ t307) = false := decide_eq_false c20
      clear c20
      have H' := Aside0.mk H
      clear H
      go_wp2_with (first | ((with_reducible refine gate_callee (f := 103) rfl ?_); refine goesL_ (some 37) rfl rfl Try.func103 (by kernel_rfl) rfl #[.slice A0 l0.length c0, .int .i64 t302, .int .i64 4] rfl aL ?_; (with_reducible refine (impl_takeAll.calls k _ _ l0 t302 4 t306 t307 _ ?side1 ?side2 A19.out).mono ?_); (case side1 => exact cA); (case side2 => exact HC0.out); rintro e w31 ⟨v308, rfl, ho0, hb⟩; refine ⟨_, rfl, ?_⟩; have n0_ := Aside0.mk (Kd.R_lower ho0 (below_size bA)); have n1_ := Aside0.mk (blk_below (g := gb300) (o := .cells #[.int .i64 0, .string (⟨#[]⟩ : ByteArray), .int .i64 0, .int .i64 0, .int .i64 0, .bool false, .slice none 0 0] 62 (0, 0)) (by (with_reducible repeat (first | refine blk_drewN ?_ _ | refine blk_drew ?_ | refine blk_alloc ?_ _)); exact BK300.out) hb); have n2_ := Aside0.mk (blk_below (g := gb303) (o := .cells #[.int .i64 t301, .string (⟨#[]⟩ : ByteArray), .int .i64 0, .int .i64 0, .int .i64 0, .bool false, .slice none 0 0] 62 (0, 0)) (by (with_reducible repeat (first | refine blk_drewN ?_ _ | refine blk_drew ?_ | refine blk_alloc ?_ _)); exact BK303.out) hb); have n3_ := Aside0.mk (below_step bA hb); clear BK300; clear BK303; clear HB; have HO309 := n0_; have BK300 := n1_; have BK303 := n2_; have HB := n3_; clear n0_ n1_ n2_ n3_; (try clear hb); (try clear hb2); (try clear hk); (try clear hi); (try clear ho0)))
      go_meet
      case rel => exact ⟨_, (t307), (0), ((⟨#[]⟩ : ByteArray)), (0), (0), (0), (([] : List Int)), (.slice none 0 0), rF, rF, H', ⟨by first | omega | exact Nat.le_refl _⟩, ⟨by first | exact Kd.R_nil _ _ _ _ _ | exact Kd.N_nil _ _ _ _ _ | exact Kd.V_nil _ _ _ _ _ | exact Kd.Q_nil _ _ _ _ _ | exact Kd.S_nil _ _ _ _ _⟩, ⟨by (with_reducible repeat (first | refine blk_drewN ?_ _ | refine blk_drew ?_ | refine blk_alloc ?_ _)); exact BK300.out⟩, ⟨by (with_reducible repeat (first | refine blk_drewN ?_ _ | refine blk_drew ?_ | refine blk_alloc ?_ _)); exact BK303.out⟩, ⟨bA⟩⟩
    ·rw [if_neg c18] at H
     have c18b0 : (t301 == 1) = false := beq_eq_false_iff_ne.mpr c18
     have c18b1 : (t301 != 1) = true := bne_iff_ne.mpr c18
     by_cases c32 : t301 = 2
     ·rw [if_pos c32] at H
      have c32b0 : (t301 == 2) = true := beq_iff_eq.mpr c32
      have c32b1 : (t301 != 2) = false := bne_eq_false_iff_eq.mpr c32
      clear c32
      replace H := Option.bind_eq_some_iff.mp H
      obtain ⟨⟨t314, t315⟩, A330, H⟩ := H
      replace H : (impl_TakeNode.j0 k t315 0 t301 (⟨#[]⟩ : ByteArray) 0 0 0 false t314) = some (r1, r2, r3, r4, r5, r6, r7, r8) := H
      have A33 := Aside0.mk A330
      clear A330
      have H' := Aside0.mk H
      clear H
      go_wp2_with (first | ((with_reducible refine gate_callee (f := 104) rfl ?_); refine goesL_ (some 62) rfl rfl Try.func104 (by kernel_rfl) rfl #[.slice A0 l0.length c0, .int .i64 t302] rfl aL ?_; (with_reducible refine (impl_TakeNums.calls k _ _ l0 t302 t314 t315 _ ?side1 ?side2 A33.out).mono ?_); (case side1 => exact cA); (case side2 => exact HC0.out); rintro e w34 ⟨v316, rfl, ho0, hb⟩; refine ⟨_, rfl, ?_⟩; have n0_ := Aside0.mk (Kd.R_lower ho0 (below_size bA)); have n1_ := Aside0.mk (blk_below (g := gb300) (o := .cells #[.int .i64 0, .string (⟨#[]⟩ : ByteArray), .int .i64 0, .int .i64 0, .int .i64 0, .bool false, .slice none 0 0] 62 (0, 0)) (by (with_reducible repeat (first | refine blk_drewN ?_ _ | refine blk_drew ?_ | refine blk_alloc ?_ _)); exact BK300.out) hb); have n2_ := Aside0.mk (blk_below (g := gb303) (o := .cells #[.int .i64 t301, .string (⟨#[]⟩ : ByteArray), .int .i64 0, .int .i64 0, .int .i64 0, .bool false, .slice none 0 0] 62 (0, 0)) (by (with_reducible repeat (first | refine blk_drewN ?_ _ | refine blk_drew ?_ | refine blk_alloc ?_ _)); exact BK303.out) hb); have n3_ := Aside0.mk (below_step bA hb); clear BK300; clear BK303; clear HB; have HO317 := n0_; have BK300 := n1_; have BK303 := n2_; have HB := n3_; clear n0_ n1_ n2_ n3_; (try clear hb); (try clear hb2); (try clear hk); (try clear hi); (try clear ho0); obtain ⟨Ao35, co35, eo35⟩ := Kd.R_slice HO317.out; subst eo35; have hnb36 := NB303_300.out; have hnc36 := NB300_303.out; obtain ⟨⟨hcz37_0, hcz37_1, hcz37_2, hcz37_3, hcz37_4, hcz37_5, hcz37_6⟩, hfz37_0, hfz37_1, hfz37_2, hfz37_3, hfz37_4, hfz37_5, hfz37_6⟩ := Own.c7 BK303.out))
      go_meet
      case rel => exact ⟨_, (t315), (0), ((⟨#[]⟩ : ByteArray)), (0), (0), (0), (t314), (.slice Ao35 t314.length co35), rF, rF, H', ⟨by first | omega | exact Nat.le_refl _⟩, ⟨by (with_reducible repeat (first | apply Kd.R_alloc | apply Kd.R_drewN | apply Kd.R_drew)); exact Kd.R_mono (Kd.R_far (p := ⟨gb303, 6, none⟩) (Kd.R_types HO317.out BK303.out (by decide)) (fun _ hk => hk.2) (.slice Ao35 t314.length co35)) (fun _ hk => trivial)⟩, ⟨by (with_reducible repeat (first | refine blk_drewN ?_ _ | refine blk_drew ?_ | refine blk_alloc ?_ _)); refine blk_far ?_ NB300_303.out _; (with_reducible repeat (first | refine blk_drewN ?_ _ | refine blk_drew ?_ | refine blk_alloc ?_ _)); exact BK300.out⟩, ⟨by (with_reducible repeat (first | refine blk_drewN ?_ _ | refine blk_drew ?_ | refine blk_alloc ?_ _)); refine blk_put (cs := #[.int .i64 t301, .string (⟨#[]⟩ : ByteArray), .int .i64 0, .int .i64 0, .int .i64 0, .bool false, .slice none 0 0]) ?_ 6 _ rfl; (with_reducible repeat (first | refine blk_drewN ?_ _ | refine blk_drew ?_ | refine blk_alloc ?_ _)); exact BK303.out⟩, ⟨bA⟩⟩
     ·rw [if_neg c32] at H
      have c32b0 : (t301 == 2) = false := beq_eq_false_iff_ne.mpr c32
      have c32b1 : (t301 != 2) = true := bne_iff_ne.mpr c32
      by_cases c38 : t301 = 3
      ·rw [if_pos c38] at H
       have c38b0 : (t301 == 3) = true := beq_iff_eq.mpr c38
       have c38b1 : (t301 != 3) = false := bne_eq_false_iff_eq.mpr c38
       clear c38
       replace H := Option.bind_eq_some_iff.mp H
       obtain ⟨⟨t318, t319⟩, A390, H⟩ := H
       replace H : (if t319 ≥ 0 then (if 0 < (t318.length : Int) then (if 1 < (t318.length : Int) then (impl_TakeNode.j0 k t319 0 t301 (⟨#[]⟩ : ByteArray) (rd t318 0) 0 (rd t318 1) false ([] : List Int)) else (none)) else (none)) else (impl_TakeNode.j0 k t319 0 t301 (⟨#[]⟩ : ByteArray) 0 0 0 false ([] : List Int))) = some (r1, r2, r3, r4, r5, r6, r7, r8) := H
       have A39 := Aside0.mk A390
       clear A390
       by_cases c40 : t319 ≥ 0
       ·rw [if_pos c40] at H
        have c40b0 : decide (0 ≤ t319) = true := decide_eq_true c40
        clear c40
        by_cases c41 : 0 < (t318.length : Int)
        ·rw [if_pos c41] at H
         have c41b0 : decide (0 < (t318.length : Int)) = true := decide_eq_true c41
         have c41b1 : decide (0 < t318.length) = true := decide_eq_true (by omega)
         clear c41
         by_cases c42 : 1 < (t318.length : Int)
         ·rw [if_pos c42] at H
          have c42b0 : decide (1 < (t318.length : Int)) = true := decide_eq_true c42
          have c42b1 : decide (1 < t318.length) = true := decide_eq_true (by omega)
          clear c42
          have H' := Aside0.mk H
          clear H
          try go_wp2_with (first | ((with_reducible refine gate_callee (f := 103) rfl ?_); refine goesL_ (some 71) rfl rfl Try.func103 (by kernel_rfl) rfl #[.slice A0 l0.length c0, .int .i64 t302, .int .i64 2] rfl aL ?_; (with_reducible refine (impl_takeAll.calls k _ _ l0 t302 2 t318 t319 _ ?side1 ?side2 A39.out).mono ?_); (case side1 => exact cA); (case side2 => exact HC0.out); rintro e w43 ⟨v320, rfl, ho0, hb⟩; refine ⟨_, rfl, ?_⟩; have n0_ := Aside0.mk (Kd.R_lower ho0 (below_size bA)); have n1_ := Aside0.mk (blk_below (g := gb300) (o := .cells #[.int .i64 0, .string (⟨#[]⟩ : ByteArray), .int .i64 0, .int .i64 0, .int .i64 0, .bool false, .slice none 0 0] 62 (0, 0)) (by (with_reducible repeat (first | refine blk_drewN ?_ _ | refine blk_drew ?_ | refine blk_alloc ?_ _)); exact BK300.out) hb); have n2_ := Aside0.mk (blk_below (g := gb303) (o := .cells #[.int .i64 t301, .string (⟨#[]⟩ : ByteArray), .int .i64 0, .int .i64 0, .int .i64 0, .bool false, .slice none 0 0] 62 (0, 0)) (by (with_reducible repeat (first | refine blk_drewN ?_ _ | refine blk_drew ?_ | refine blk_alloc ?_ _)); exact BK303.out) hb); have n3_ := Aside0.mk (below_step bA hb); clear BK300; clear BK303; clear HB; have HO321 := n0_; have BK300 := n1_; have BK303 := n2_; have HB := n3_; clear n0_ n1_ n2_ n3_; (try clear hb); (try clear hb2); (try clear hk); (try clear hi); (try clear ho0)))
          have n0_ := Aside0.mk (Kd.R_drew HO321.out)
          have n1_ := Aside0.mk (blk_drew BK300.out)
          have n2_ := Aside0.mk (blk_drew BK303.out)
          have n3_ := Aside0.mk (below_drew1 HB.out)
          clear HO321
          clear BK300
          clear BK303
          clear HB
          have HO321 := n0_
          have BK300 := n1_
          have BK303 := n2_
          have HB := n3_
          clear n0_ n1_ n2_ n3_
          obtain ⟨Ao45, co45, eo45⟩ := Kd.R_slice HO321.out
          (first | subst eo45 | (injection eo45 with f1_ f2_ f3_; have f4_ := f1_.symm; have f5_ := f3_.symm; clear f1_ f2_ f3_; subst f4_; subst f5_))
          have p322 : 0 ≤ (0 : Int) := (by omega)
          have q322 : 0 < (t318.length : Int) := of_decide_eq_true (by assumption)
          obtain ⟨ad322, e322, hx322_0⟩ := Kd.at_int (Kd.R_reads' HO321.out).2.2 0 p322 q322
          cases e322
          have qi322 : (0 < t318.length) = True := eq_true (by omega)
          (try rw [show ((0 : Int)).toNat = 0 from rfl] at hx322_0)
          (try rw [Addr.add_zero'] at hx322_0)
          replace p322 := eq_true p322
          replace q322 := eq_true q322
          have p323 : 0 ≤ (1 : Int) := (by omega)
          have q323 : 1 < (t318.length : Int) := of_decide_eq_true (by assumption)
          obtain ⟨ad323, e323, hx323_0⟩ := Kd.at_int (Kd.R_reads' HO321.out).2.2 1 p323 q323
          obtain rfl : ad322 = ad323 := (by injection e323)
          (try simp only [show (1 : Int).toNat = 1 from rfl, Nat.reduceMul, Nat.reduceEqDiff, Go.Addr.add, ↓reduceIte] at hx323_0)
          have qi323 : (1 < t318.length) = True := eq_true (by omega)
          (try rw [show ((1 : Int)).toNat = 1 from rfl] at hx323_0)
          replace p323 := eq_true p323
          replace q323 := eq_true q323
          refine start_ (n := 10) (S := fun w' => w'.cell? ad322 = some (.int .i64 (rd t318 0)) ∧ w'.cell? ⟨ad322.block, ad322.off + 1, none⟩ = some (.int .i64 (rd t318 1))) (ds := []) #[false, false, false, false, false, false, false, false, false, false] (by kernel_rfl) rfl rfl ⟨hx322_0, hx323_0⟩ (fun hHeld => ?_); refine with_tabW impl_TakeNode.tab19 impl_TakeNode.bits19 (fun HT_ HW_ => ?_)
          generalize w43.drew = w44 at HO321 BK300 BK303 HB hx322_0 hx323_0 hHeld ⊢
          refine pt_ 0 76 ?_
          refine pt_ 1 77 ?_
          refine pt_ 3 79 ?_
          refine pt_ 4 80 ?_
          refine tt_ 2 78 ?_
          refine pt_ 6 82 ?_
          refine tt_ 5 81 ?_
          refine one_ (i := 7) (N := none) #[true, true, true, true, true, true, true, true, false, false] rfl rfl (one_of HT_.out (by kernel_rfl)) (by decide) (fun K hK => ?_)
          have hs46 : w44.cell? ⟨gb303, 2, none⟩ = some (.int .i64 0) := (blk_cell BK303.out 2).trans rfl
          have hfs46 := blk_frozen BK303.out 2
          have hns46_0 := NB300_303.out
          have hms46_0 := NB303_300.out
          refine skip_ (w1 := ?_) (by rfl) rfl ?_ ?_
          rotate_left
          ·go_simp
           rfl
          refine hK.out _ _ ⟨((cell_far (p := ⟨gb303, _, none⟩) (by first | exact Kd.own_blk (Kd.R_ne HO321.out BK303.out (by decide)) | (rw [add_block]; exact Kd.own_blk (Kd.R_ne HO321.out BK303.out (by decide))) | (show (Addr.add _ _).block ≠ _; rw [add_block]; exact Kd.own_blk (Kd.R_ne HO321.out BK303.out (by decide))) | (dsimp only; exact Kd.own_blk (Kd.R_ne HO321.out BK303.out (by decide)))) _).trans (hHeld.1)), ((cell_far (p := ⟨gb303, _, none⟩) (by first | exact Kd.own_blk (Kd.R_ne HO321.out BK303.out (by decide)) | (rw [add_block]; exact Kd.own_blk (Kd.R_ne HO321.out BK303.out (by decide))) | (show (Addr.add _ _).block ≠ _; rw [add_block]; exact Kd.own_blk (Kd.R_ne HO321.out BK303.out (by decide))) | (dsimp only; exact Kd.own_blk (Kd.R_ne HO321.out BK303.out (by decide)))) _).trans (hHeld.2))⟩ (fun hHeld => ?_)
          clear hK K
          refine pt_ 8 83 ?_
          refine one_ (i := 9) (N := none) #[true, true, true, true, true, true, true, true, true, true] rfl rfl (one_of HT_.out (by kernel_rfl)) (by decide) (fun K hK => ?_)
          have hs47 : w44.cell? ⟨gb303, 4, none⟩ = some (.int .i64 0) := (blk_cell BK303.out 4).trans rfl
          have hfs47 := blk_frozen BK303.out 4
          have hns47_0 := NB300_303.out
          have hms47_0 := NB303_300.out
          refine skip_ (w1 := ?_) (by rfl) rfl ?_ ?_
          rotate_left
          ·go_simp
           rfl
          refine hK.out _ _ ⟨((cell_far (p := ⟨gb303, _, none⟩) (by first | exact Kd.own_blk (Kd.R_ne HO321.out BK303.out (by decide)) | (rw [add_block]; exact Kd.own_blk (Kd.R_ne HO321.out BK303.out (by decide))) | (show (Addr.add _ _).block ≠ _; rw [add_block]; exact Kd.own_blk (Kd.R_ne HO321.out BK303.out (by decide))) | (dsimp only; exact Kd.own_blk (Kd.R_ne HO321.out BK303.out (by decide)))) _).trans (hHeld.1)), ((cell_far (p := ⟨gb303, _, none⟩) (by first | exact Kd.own_blk (Kd.R_ne HO321.out BK303.out (by decide)) | (rw [add_block]; exact Kd.own_blk (Kd.R_ne HO321.out BK303.out (by decide))) | (show (Addr.add _ _).block ≠ _; rw [add_block]; exact Kd.own_blk (Kd.R_ne HO321.out BK303.out (by decide))) | (dsimp only; exact Kd.own_blk (Kd.R_ne HO321.out BK303.out (by decide)))) _).trans (hHeld.2))⟩ (fun hHeld => ?_)
          clear hK K
          refine done_ (done_of HT_.out (by kernel_rfl)) ?_
          try go_wp2
          go_meet
          case rel => exact ⟨_, (t319), (0), ((⟨#[]⟩ : ByteArray)), (rd t318 0), (0), (rd t318 1), (([] : List Int)), (.slice none 0 0), rF, rF, H', ⟨by first | omega | exact Nat.le_refl _⟩, ⟨by first | exact Kd.R_nil _ _ _ _ _ | exact Kd.N_nil _ _ _ _ _ | exact Kd.V_nil _ _ _ _ _ | exact Kd.Q_nil _ _ _ _ _ | exact Kd.S_nil _ _ _ _ _⟩, ⟨by (with_reducible repeat (first | refine blk_drewN ?_ _ | refine blk_drew ?_ | refine blk_alloc ?_ _)); refine blk_far ?_ NB300_303.out _; (with_reducible repeat (first | refine blk_drewN ?_ _ | refine blk_drew ?_ | refine blk_alloc ?_ _)); refine blk_far ?_ NB300_303.out _; (with_reducible repeat (first | refine blk_drewN ?_ _ | refine blk_drew ?_ | refine blk_alloc ?_ _)); exact BK300.out⟩, ⟨by (with_reducible repeat (first | refine blk_drewN ?_ _ | refine blk_drew ?_ | refine blk_alloc ?_ _)); refine blk_put (cs := #[.int .i64 t301, .string (⟨#[]⟩ : ByteArray), .int .i64 (rd t318 0), .int .i64 0, .int .i64 0, .bool false, .slice none 0 0]) ?_ 4 _ rfl; (with_reducible repeat (first | refine blk_drewN ?_ _ | refine blk_drew ?_ | refine blk_alloc ?_ _)); refine blk_put (cs := #[.int .i64 t301, .string (⟨#[]⟩ : ByteArray), .int .i64 0, .int .i64 0, .int .i64 0, .bool false, .slice none 0 0]) ?_ 2 _ rfl; (with_reducible repeat (first | refine blk_drewN ?_ _ | refine blk_drew ?_ | refine blk_alloc ?_ _)); exact BK303.out⟩, ⟨bA⟩⟩
         ·rw [if_neg c42] at H
          exact absurd H (by simp)
        ·rw [if_neg c41] at H
         exact absurd H (by simp)
       ·rw [if_neg c40] at H
        have c40b0 : decide (0 ≤ t319) = false := decide_eq_false c40
        clear c40
        have H' := Aside0.mk H
        clear H
        go_wp2_with (first | ((with_reducible refine gate_callee (f := 103) rfl ?_); refine goesL_ (some 71) rfl rfl Try.func103 (by kernel_rfl) rfl #[.slice A0 l0.length c0, .int .i64 t302, .int .i64 2] rfl aL ?_; (with_reducible refine (impl_takeAll.calls k _ _ l0 t302 2 t318 t319 _ ?side1 ?side2 A39.out).mono ?_); (case side1 => exact cA); (case side2 => exact HC0.out); rintro e w48 ⟨v320, rfl, ho0, hb⟩; refine ⟨_, rfl, ?_⟩; have n0_ := Aside0.mk (Kd.R_lower ho0 (below_size bA)); have n1_ := Aside0.mk (blk_below (g := gb300) (o := .cells #[.int .i64 0, .string (⟨#[]⟩ : ByteArray), .int .i64 0, .int .i64 0, .int .i64 0, .bool false, .slice none 0 0] 62 (0, 0)) (by (with_reducible repeat (first | refine blk_drewN ?_ _ | refine blk_drew ?_ | refine blk_alloc ?_ _)); exact BK300.out) hb); have n2_ := Aside0.mk (blk_below (g := gb303) (o := .cells #[.int .i64 t301, .string (⟨#[]⟩ : ByteArray), .int .i64 0, .int .i64 0, .int .i64 0, .bool false, .slice none 0 0] 62 (0, 0)) (by (with_reducible repeat (first | refine blk_drewN ?_ _ | refine blk_drew ?_ | refine blk_alloc ?_ _)); exact BK303.out) hb); have n3_ := Aside0.mk (below_step bA hb); clear BK300; clear BK303; clear HB; have HO321 := n0_; have BK300 := n1_; have BK303 := n2_; have HB := n3_; clear n0_ n1_ n2_ n3_; (try clear hb); (try clear hb2); (try clear hk); (try clear hi); (try clear ho0)))
        go_meet
        case rel => exact ⟨_, (t319), (0), ((⟨#[]⟩ : ByteArray)), (0), (0), (0), (([] : List Int)), (.slice none 0 0), rF, rF, H', ⟨by first | omega | exact Nat.le_refl _⟩, ⟨by first | exact Kd.R_nil _ _ _ _ _ | exact Kd.N_nil _ _ _ _ _ | exact Kd.V_nil _ _ _ _ _ | exact Kd.Q_nil _ _ _ _ _ | exact Kd.S_nil _ _ _ _ _⟩, ⟨by (with_reducible repeat (first | refine blk_drewN ?_ _ | refine blk_drew ?_ | refine blk_alloc ?_ _)); exact BK300.out⟩, ⟨by (with_reducible repeat (first | refine blk_drewN ?_ _ | refine blk_drew ?_ | refine blk_alloc ?_ _)); exact BK303.out⟩, ⟨bA⟩⟩
      ·rw [if_neg c38] at H
       have c38b0 : (t301 == 3) = false := beq_eq_false_iff_ne.mpr c38
       have c38b1 : (t301 != 3) = true := bne_iff_ne.mpr c38
       by_cases c49 : t301 = 5
       ·rw [if_pos c49] at H
        have c49b0 : (t301 == 5) = true := beq_iff_eq.mpr c49
        have c49b1 : (t301 != 5) = false := bne_eq_false_iff_eq.mpr c49
        clear c49
        replace H := Option.bind_eq_some_iff.mp H
        obtain ⟨⟨t324, t325⟩, A500, H⟩ := H
        replace H : (impl_TakeNode.j0 k t325 0 t301 (⟨#[]⟩ : ByteArray) t324 0 0 false ([] : List Int)) = some (r1, r2, r3, r4, r5, r6, r7, r8) := H
        have A50 := Aside0.mk A500
        clear A500
        have H' := Aside0.mk H
        clear H
        go_wp2_with (first | ((with_reducible refine gate_callee (f := 58) rfl ?_); refine goesL_ (some 89) rfl rfl Try.func58 (by kernel_rfl) rfl #[.slice A0 l0.length c0, .int .i64 t302] rfl aL ?_; (with_reducible refine (impl_TakeNum.calls k _ _ l0 t302 t324 t325 _ ?side1 ?side2 A50.out).mono ?_); (case side1 => exact cA); (case side2 => exact HC0.out); rintro e w' ⟨rfl, ⟨nd, rfl⟩⟩; refine ⟨_, rfl, ?_⟩; (try (rw [drewN_self w13]; generalize hq_ : World.drewN w13 _ = w13; have n0_ : Aside0 (w13.heap[gb300]? = some (.cells #[.int .i64 0, .string (⟨#[]⟩ : ByteArray), .int .i64 0, .int .i64 0, .int .i64 0, .bool false, .slice none 0 0] 62 (0, 0))) := ⟨by rw [← hq_]; exact (by (with_reducible repeat (first | refine blk_drewN ?_ _ | refine blk_drew ?_ | refine blk_alloc ?_ _)); exact BK300.out)⟩; have n1_ : Aside0 (w13.heap[gb303]? = some (.cells #[.int .i64 t301, .string (⟨#[]⟩ : ByteArray), .int .i64 0, .int .i64 0, .int .i64 0, .bool false, .slice none 0 0] 62 (0, 0))) := ⟨by rw [← hq_]; exact (by (with_reducible repeat (first | refine blk_drewN ?_ _ | refine blk_drew ?_ | refine blk_alloc ?_ _)); exact BK303.out)⟩; have n2_ : Aside0 (Below w.heap.size w w13) := ⟨by rw [← hq_]; exact bA⟩; clear BK300 BK303 HB hq_; have BK300 := n0_; have BK303 := n1_; have HB := n2_; clear n0_ n1_ n2_)); have hnb51 := NB303_300.out; have hnc51 := NB300_303.out; obtain ⟨⟨hcz52_0, hcz52_1, hcz52_2, hcz52_3, hcz52_4, hcz52_5, hcz52_6⟩, hfz52_0, hfz52_1, hfz52_2, hfz52_3, hfz52_4, hfz52_5, hfz52_6⟩ := Own.c7 BK303.out))
        go_meet
        case rel => exact ⟨_, (t325), (0), ((⟨#[]⟩ : ByteArray)), (t324), (0), (0), (([] : List Int)), (.slice none 0 0), rF, rF, H', ⟨by first | omega | exact Nat.le_refl _⟩, ⟨by first | exact Kd.R_nil _ _ _ _ _ | exact Kd.N_nil _ _ _ _ _ | exact Kd.V_nil _ _ _ _ _ | exact Kd.Q_nil _ _ _ _ _ | exact Kd.S_nil _ _ _ _ _⟩, ⟨by (with_reducible repeat (first | refine blk_drewN ?_ _ | refine blk_drew ?_ | refine blk_alloc ?_ _)); refine blk_far ?_ NB300_303.out _; (with_reducible repeat (first | refine blk_drewN ?_ _ | refine blk_drew ?_ | refine blk_alloc ?_ _)); exact BK300.out⟩, ⟨by (with_reducible repeat (first | refine blk_drewN ?_ _ | refine blk_drew ?_ | refine blk_alloc ?_ _)); refine blk_put (cs := #[.int .i64 t301, .string (⟨#[]⟩ : ByteArray), .int .i64 0, .int .i64 0, .int .i64 0, .bool false, .slice none 0 0]) ?_ 2 _ rfl; (with_reducible repeat (first | refine blk_drewN ?_ _ | refine blk_drew ?_ | refine blk_alloc ?_ _)); exact BK303.out⟩, ⟨bA⟩⟩
       ·rw [if_neg c49] at H
        have c49b0 : (t301 == 5) = false := beq_eq_false_iff_ne.mpr c49
        have c49b1 : (t301 != 5) = true := bne_iff_ne.mpr c49
        by_cases c53 : t301 = 6
        ·rw [if_pos c53] at H
         have c53b0 : (t301 == 6) = true := beq_iff_eq.mpr c53
         have c53b1 : (t301 != 6) = false := bne_eq_false_iff_eq.mpr c53
         clear c53
         replace H := Option.bind_eq_some_iff.mp H
         obtain ⟨⟨t326, t327⟩, A540, H⟩ := H
         replace H : (if t327 ≥ 0 then (if 0 < (t326.length : Int) then (if 1 < (t326.length : Int) then (impl_TakeNode.j0 k t327 (rd t326 0) t301 (⟨#[]⟩ : ByteArray) 0 0 (rd t326 1) false ([] : List Int)) else (none)) else (none)) else (impl_TakeNode.j0 k t327 0 t301 (⟨#[]⟩ : ByteArray) 0 0 0 false ([] : List Int))) = some (r1, r2, r3, r4, r5, r6, r7, r8) := H
         have A54 := Aside0.mk A540
         clear A540
         by_cases c55 : t327 ≥ 0
         ·rw [if_pos c55] at H
          have c55b0 : decide (0 ≤ t327) = true := decide_eq_true c55
          clear c55
          by_cases c56 : 0 < (t326.length : Int)
          ·rw [if_pos c56] at H
           have c56b0 : decide (0 < (t326.length : Int)) = true := decide_eq_true c56
           have c56b1 : decide (0 < t326.length) = true := decide_eq_true (by omega)
           clear c56
           by_cases c57 : 1 < (t326.length : Int)
           ·rw [if_pos c57] at H
            have c57b0 : decide (1 < (t326.length : Int)) = true := decide_eq_true c57
            have c57b1 : decide (1 < t326.length) = true := decide_eq_true (by omega)
            clear c57
            have H' := Aside0.mk H
            clear H
            try go_wp2_with (first | ((with_reducible refine gate_callee (f := 103) rfl ?_); refine goesL_ (some 98) rfl rfl Try.func103 (by kernel_rfl) rfl #[.slice A0 l0.length c0, .int .i64 t302, .int .i64 2] rfl aL ?_; (with_reducible refine (impl_takeAll.calls k _ _ l0 t302 2 t326 t327 _ ?side1 ?side2 A54.out).mono ?_); (case side1 => exact cA); (case side2 => exact HC0.out); rintro e w58 ⟨v328, rfl, ho0, hb⟩; refine ⟨_, rfl, ?_⟩; have n0_ := Aside0.mk (Kd.R_lower ho0 (below_size bA)); have n1_ := Aside0.mk (blk_below (g := gb300) (o := .cells #[.int .i64 0, .string (⟨#[]⟩ : ByteArray), .int .i64 0, .int .i64 0, .int .i64 0, .bool false, .slice none 0 0] 62 (0, 0)) (by (with_reducible repeat (first | refine blk_drewN ?_ _ | refine blk_drew ?_ | refine blk_alloc ?_ _)); exact BK300.out) hb); have n2_ := Aside0.mk (blk_below (g := gb303) (o := .cells #[.int .i64 t301, .string (⟨#[]⟩ : ByteArray), .int .i64 0, .int .i64 0, .int .i64 0, .bool false, .slice none 0 0] 62 (0, 0)) (by (with_reducible repeat (first | refine blk_drewN ?_ _ | refine blk_drew ?_ | refine blk_alloc ?_ _)); exact BK303.out) hb); have n3_ := Aside0.mk (below_step bA hb); clear BK300; clear BK303; clear HB; have HO329 := n0_; have BK300 := n1_; have BK303 := n2_; have HB := n3_; clear n0_ n1_ n2_ n3_; (try clear hb); (try clear hb2); (try clear hk); (try clear hi); (try clear ho0)))
            have n0_ := Aside0.mk (Kd.R_drew HO329.out)
            have n1_ := Aside0.mk (blk_drew BK300.out)
            have n2_ := Aside0.mk (blk_drew BK303.out)
            have n3_ := Aside0.mk (below_drew1 HB.out)
            clear HO329
            clear BK300
            clear BK303
            clear HB
            have HO329 := n0_
            have BK300 := n1_
            have BK303 := n2_
            have HB := n3_
            clear n0_ n1_ n2_ n3_
            obtain ⟨Ao60, co60, eo60⟩ := Kd.R_slice HO329.out
            (first | subst eo60 | (injection eo60 with f1_ f2_ f3_; have f4_ := f1_.symm; have f5_ := f3_.symm; clear f1_ f2_ f3_; subst f4_; subst f5_))
            have p330 : 0 ≤ (0 : Int) := (by omega)
            have q330 : 0 < (t326.length : Int) := of_decide_eq_true (by assumption)
            obtain ⟨ad330, e330, hx330_0⟩ := Kd.at_int (Kd.R_reads' HO329.out).2.2 0 p330 q330
            cases e330
            have qi330 : (0 < t326.length) = True := eq_true (by omega)
            (try rw [show ((0 : Int)).toNat = 0 from rfl] at hx330_0)
            (try rw [Addr.add_zero'] at hx330_0)
            replace p330 := eq_true p330
            replace q330 := eq_true q330
            have p331 : 0 ≤ (1 : Int) := (by omega)
            have q331 : 1 < (t326.length : Int) := of_decide_eq_true (by assumption)
            obtain ⟨ad331, e331, hx331_0⟩ := Kd.at_int (Kd.R_reads' HO329.out).2.2 1 p331 q331
            obtain rfl : ad330 = ad331 := (by injection e331)
            (try simp only [show (1 : Int).toNat = 1 from rfl, Nat.reduceMul, Nat.reduceEqDiff, Go.Addr.add, ↓reduceIte] at hx331_0)
            have qi331 : (1 < t326.length) = True := eq_true (by omega)
            (try rw [show ((1 : Int)).toNat = 1 from rfl] at hx331_0)
            replace p331 := eq_true p331
            replace q331 := eq_true q331
            refine start_ (n := 9) (S := fun w' => w'.cell? ad330 = some (.int .i64 (rd t326 0)) ∧ w'.cell? ⟨ad330.block, ad330.off + 1, none⟩ = some (.int .i64 (rd t326 1))) (ds := []) #[false, false, false, false, false, false, false, false, false] (by kernel_rfl) rfl rfl ⟨hx330_0, hx331_0⟩ (fun hHeld => ?_); refine with_tabW impl_TakeNode.tab25 impl_TakeNode.bits25 (fun HT_ HW_ => ?_)
            generalize w58.drew = w59 at HO329 BK300 BK303 HB hx330_0 hx331_0 hHeld ⊢
            refine pt_ 0 103 ?_
            refine pt_ 1 104 ?_
            refine pt_ 3 106 ?_
            refine pt_ 4 107 ?_
            refine tt_ 2 105 ?_
            refine pt_ 6 10 ?_
            refine tt_ 5 108 ?_
            refine pt_ 7 109 ?_
            refine one_ (i := 8) (N := none) #[true, true, true, true, true, true, true, true, true] rfl rfl (one_of HT_.out (by kernel_rfl)) (by decide) (fun K hK => ?_)
            have hs61 : w59.cell? ⟨gb303, 4, none⟩ = some (.int .i64 0) := (blk_cell BK303.out 4).trans rfl
            have hfs61 := blk_frozen BK303.out 4
            have hns61_0 := NB300_303.out
            have hms61_0 := NB303_300.out
            refine skip_ (w1 := ?_) (by rfl) rfl ?_ ?_
            rotate_left
            ·go_simp
             rfl
            refine hK.out _ _ ⟨((cell_far (p := ⟨gb303, _, none⟩) (by first | exact Kd.own_blk (Kd.R_ne HO329.out BK303.out (by decide)) | (rw [add_block]; exact Kd.own_blk (Kd.R_ne HO329.out BK303.out (by decide))) | (show (Addr.add _ _).block ≠ _; rw [add_block]; exact Kd.own_blk (Kd.R_ne HO329.out BK303.out (by decide))) | (dsimp only; exact Kd.own_blk (Kd.R_ne HO329.out BK303.out (by decide)))) _).trans (hHeld.1)), ((cell_far (p := ⟨gb303, _, none⟩) (by first | exact Kd.own_blk (Kd.R_ne HO329.out BK303.out (by decide)) | (rw [add_block]; exact Kd.own_blk (Kd.R_ne HO329.out BK303.out (by decide))) | (show (Addr.add _ _).block ≠ _; rw [add_block]; exact Kd.own_blk (Kd.R_ne HO329.out BK303.out (by decide))) | (dsimp only; exact Kd.own_blk (Kd.R_ne HO329.out BK303.out (by decide)))) _).trans (hHeld.2))⟩ (fun hHeld => ?_)
            clear hK K
            refine done_ (done_of HT_.out (by kernel_rfl)) ?_
            try go_wp2
            go_meet
            case rel => exact ⟨_, (t327), (rd t326 0), ((⟨#[]⟩ : ByteArray)), (0), (0), (rd t326 1), (([] : List Int)), (.slice none 0 0), rF, rF, H', ⟨by first | omega | exact Nat.le_refl _⟩, ⟨by first | exact Kd.R_nil _ _ _ _ _ | exact Kd.N_nil _ _ _ _ _ | exact Kd.V_nil _ _ _ _ _ | exact Kd.Q_nil _ _ _ _ _ | exact Kd.S_nil _ _ _ _ _⟩, ⟨by (with_reducible repeat (first | refine blk_drewN ?_ _ | refine blk_drew ?_ | refine blk_alloc ?_ _)); refine blk_far ?_ NB300_303.out _; (with_reducible repeat (first | refine blk_drewN ?_ _ | refine blk_drew ?_ | refine blk_alloc ?_ _)); exact BK300.out⟩, ⟨by (with_reducible repeat (first | refine blk_drewN ?_ _ | refine blk_drew ?_ | refine blk_alloc ?_ _)); refine blk_put (cs := #[.int .i64 t301, .string (⟨#[]⟩ : ByteArray), .int .i64 0, .int .i64 0, .int .i64 0, .bool false, .slice none 0 0]) ?_ 4 _ rfl; (with_reducible repeat (first | refine blk_drewN ?_ _ | refine blk_drew ?_ | refine blk_alloc ?_ _)); exact BK303.out⟩, ⟨bA⟩⟩
           ·rw [if_neg c57] at H
            exact absurd H (by simp)
          ·rw [if_neg c56] at H
           exact absurd H (by simp)
         ·rw [if_neg c55] at H
          have c55b0 : decide (0 ≤ t327) = false := decide_eq_false c55
          clear c55
          have H' := Aside0.mk H
          clear H
          go_wp2_with (first | ((with_reducible refine gate_callee (f := 103) rfl ?_); refine goesL_ (some 98) rfl rfl Try.func103 (by kernel_rfl) rfl #[.slice A0 l0.length c0, .int .i64 t302, .int .i64 2] rfl aL ?_; (with_reducible refine (impl_takeAll.calls k _ _ l0 t302 2 t326 t327 _ ?side1 ?side2 A54.out).mono ?_); (case side1 => exact cA); (case side2 => exact HC0.out); rintro e w62 ⟨v328, rfl, ho0, hb⟩; refine ⟨_, rfl, ?_⟩; have n0_ := Aside0.mk (Kd.R_lower ho0 (below_size bA)); have n1_ := Aside0.mk (blk_below (g := gb300) (o := .cells #[.int .i64 0, .string (⟨#[]⟩ : ByteArray), .int .i64 0, .int .i64 0, .int .i64 0, .bool false, .slice none 0 0] 62 (0, 0)) (by (with_reducible repeat (first | refine blk_drewN ?_ _ | refine blk_drew ?_ | refine blk_alloc ?_ _)); exact BK300.out) hb); have n2_ := Aside0.mk (blk_below (g := gb303) (o := .cells #[.int .i64 t301, .string (⟨#[]⟩ : ByteArray), .int .i64 0, .int .i64 0, .int .i64 0, .bool false, .slice none 0 0] 62 (0, 0)) (by (with_reducible repeat (first | refine blk_drewN ?_ _ | refine blk_drew ?_ | refine blk_alloc ?_ _)); exact BK303.out) hb); have n3_ := Aside0.mk (below_step bA hb); clear BK300; clear BK303; clear HB; have HO329 := n0_; have BK300 := n1_; have BK303 := n2_; have HB := n3_; clear n0_ n1_ n2_ n3_; (try clear hb); (try clear hb2); (try clear hk); (try clear hi); (try clear ho0)))
          go_meet
          case rel => exact ⟨_, (t327), (0), ((⟨#[]⟩ : ByteArray)), (0), (0), (0), (([] : List Int)), (.slice none 0 0), rF, rF, H', ⟨by first | omega | exact Nat.le_refl _⟩, ⟨by first | exact Kd.R_nil _ _ _ _ _ | exact Kd.N_nil _ _ _ _ _ | exact Kd.V_nil _ _ _ _ _ | exact Kd.Q_nil _ _ _ _ _ | exact Kd.S_nil _ _ _ _ _⟩, ⟨by (with_reducible repeat (first | refine blk_drewN ?_ _ | refine blk_drew ?_ | refine blk_alloc ?_ _)); exact BK300.out⟩, ⟨by (with_reducible repeat (first | refine blk_drewN ?_ _ | refine blk_drew ?_ | refine blk_alloc ?_ _)); exact BK303.out⟩, ⟨bA⟩⟩
        ·rw [if_neg c53] at H
         have c53b0 : (t301 == 6) = false := beq_eq_false_iff_ne.mpr c53
         have c53b1 : (t301 != 6) = true := bne_iff_ne.mpr c53
         have H' := Aside0.mk H
         clear H
         go_wp2
         go_meet
         case rel => exact ⟨_, (t302), (0), ((⟨#[]⟩ : ByteArray)), (0), (0), (0), (([] : List Int)), (.slice none 0 0), rF, rF, H', ⟨by first | omega | exact Nat.le_refl _⟩, ⟨by first | exact Kd.R_nil _ _ _ _ _ | exact Kd.N_nil _ _ _ _ _ | exact Kd.V_nil _ _ _ _ _ | exact Kd.Q_nil _ _ _ _ _ | exact Kd.S_nil _ _ _ _ _⟩, ⟨by (with_reducible repeat (first | refine blk_drewN ?_ _ | refine blk_drew ?_ | refine blk_alloc ?_ _)); exact BK300.out⟩, ⟨by (with_reducible repeat (first | refine blk_drewN ?_ _ | refine blk_drew ?_ | refine blk_alloc ?_ _)); exact BK303.out⟩, ⟨bA⟩⟩
  case rest =>
   clear HC8
   try clear c1
   try clear c2
   try clear p2
   try clear c3
   try clear p3
   try clear q3
   try clear hx3
   try clear qi3
   try clear c4
   try clear c5
   try clear c10
   try clear c18
   try clear c18b0
   try clear c18b1
   try clear c20
   try clear c20b0
   try clear c21
   try clear c22
   try clear c23
   try clear c24
   try clear p31
   try clear q31
   try clear hx31
   try clear qi31
   try clear c32
   try clear c32b0
   try clear c32b1
   try clear p32
   try clear q32
   try clear hx32
   try clear qi32
   try clear p33
   try clear q33
   try clear hx33
   try clear qi33
   try clear c36
   try clear c38
   try clear c38b0
   try clear c38b1
   try clear c40
   try clear c40b0
   try clear c41
   try clear c41b0
   try clear c41b1
   try clear c42
   try clear c42b0
   try clear c42b1
   try clear c49
   try clear c49b0
   try clear c49b1
   try clear c51
   try clear c53
   try clear c53b0
   try clear c53b1
   try clear c55
   try clear c55b0
   try clear c56
   try clear c56b0
   try clear c56b1
   try clear c57
   try clear c57b0
   try clear c57b1
   try clear c58
   try clear hcz37_0 hcz37_1 hcz37_2 hcz37_3 hcz37_4 hcz37_5 hcz37_6
   try clear hcz52_0 hcz52_1 hcz52_2 hcz52_3 hcz52_4 hcz52_5 hcz52_6
   try clear hfz37_0 hfz37_1 hfz37_2 hfz37_3 hfz37_4 hfz37_5 hfz37_6
   try clear hfz52_0 hfz52_1 hfz52_2 hfz52_3 hfz52_4 hfz52_5 hfz52_6
   try clear hx310_0
   try clear hx311_0
   try clear hx312_0
   try clear hx313_0
   try clear hx322_0
   try clear hx323_0
   try clear hx330_0
   try clear hx331_0
   try clear p310
   try clear p311
   try clear p312
   try clear p313
   try clear p322
   try clear p323
   try clear p330
   try clear p331
   try clear q310
   try clear q311
   try clear q312
   try clear q313
   try clear q322
   try clear q323
   try clear q330
   try clear q331
   obtain ⟨kq, x7_7, x10_7, x304001_7, x304002_7, x304003_7, x304004_7, x304006_7, u304006, rfl, rfl, HA, HJ7, HO_304006, BK300, BK303, HB⟩ := hcut
   cases kq with
   | zero => exact absurd HA.out (by simp [impl_TakeNode.j0])
   | succ kj7 =>
    have H := HA.out
    clear HA
    simp only [impl_TakeNode.j0] at H
    by_cases c63 : x7_7 < 0
    ·rw [if_pos c63] at H
     have c63b0 : decide (x7_7 < 0) = true := decide_eq_true c63
     clear c63
     simp only [Option.some.injEq, Prod.mk.injEq] at H
     obtain ⟨rfl, rfl, rfl, rfl, rfl, rfl, rfl, rfl⟩ := H
     have hnb64 := NB303_300.out
     have hnc64 := NB300_303.out
     obtain ⟨⟨hcz65_0, hcz65_1, hcz65_2, hcz65_3, hcz65_4, hcz65_5, hcz65_6⟩, hfz65_0, hfz65_1, hfz65_2, hfz65_3, hfz65_4, hfz65_5, hfz65_6⟩ := Own.c7 BK303.out
     obtain ⟨⟨hcz66_0, hcz66_1, hcz66_2, hcz66_3, hcz66_4, hcz66_5, hcz66_6⟩, hfz66_0, hfz66_1, hfz66_2, hfz66_3, hfz66_4, hfz66_5, hfz66_6⟩ := Own.c7 BK300.out
     go_wp2_with (first | ((with_reducible refine gate_store (t := 62) (p := 4) rfl ?_); refine store_event (t := 62) (p := 4) (v := ?vo_w67) (w1 := ((((((((wc.setCell ⟨gb303, 5, none⟩ (.bool (x10_7 == 1))).setCell ⟨gb300, 0, none⟩ (.int .i64 0)).setCell ⟨gb300, 1, none⟩ (.string (⟨#[]⟩ : ByteArray))).setCell ⟨gb300, 2, none⟩ (.int .i64 0)).setCell ⟨gb300, 3, none⟩ (.int .i64 0)).setCell ⟨gb300, 4, none⟩ (.int .i64 0)).setCell ⟨gb300, 5, none⟩ (.bool false)).setCell ⟨gb300, 6, none⟩ (.slice none 0 0))) ?hg ?ho ?hn ?hr ?_; (case ho => rfl); (case hg => rfl); (case hn => rfl); (case hr => first | (go_simp; done) | (go_simp; rfl)); intro w67 hw; have n0_ : Aside0 (Kd.R (Kd.int .i64) 3 w67 w.heap.size (fun _ => True) u304006 x304006_7) := ⟨(by rw [hw]; exact (by (with_reducible repeat (first | apply Kd.R_alloc | apply Kd.R_drewN | apply Kd.R_drew)); exact Kd.R_mono (Kd.R_far (p := ⟨gb300, 6, none⟩) (Kd.R_far (p := ⟨gb300, 5, none⟩) (Kd.R_far (p := ⟨gb300, 4, none⟩) (Kd.R_far (p := ⟨gb300, 3, none⟩) (Kd.R_far (p := ⟨gb300, 2, none⟩) (Kd.R_far (p := ⟨gb300, 1, none⟩) (Kd.R_far (p := ⟨gb300, 0, none⟩) (Kd.R_far (p := ⟨gb303, 5, none⟩) (Kd.R_types (Kd.R_types HO_304006.out BK303.out (by decide)) BK300.out (by decide)) (fun _ hk => hk.1.2) (.bool (x10_7 == 1))) (fun _ hk => hk.2) (.int .i64 0)) (fun _ hk => hk.2) (.string (⟨#[]⟩ : ByteArray))) (fun _ hk => hk.2) (.int .i64 0)) (fun _ hk => hk.2) (.int .i64 0)) (fun _ hk => hk.2) (.int .i64 0)) (fun _ hk => hk.2) (.bool false)) (fun _ hk => hk.2) (.slice none 0 0)) (fun _ hk => trivial)))⟩; have n1_ : Aside0 (w67.heap[gb300]? = some (.cells #[.int .i64 0, .string (⟨#[]⟩ : ByteArray), .int .i64 0, .int .i64 0, .int .i64 0, .bool false, .slice none 0 0] 62 (0, 0))) := ⟨(by rw [hw]; exact (by (with_reducible repeat (first | refine blk_drewN ?_ _ | refine blk_drew ?_ | refine blk_alloc ?_ _)); refine blk_put (cs := #[.int .i64 0, .string (⟨#[]⟩ : ByteArray), .int .i64 0, .int .i64 0, .int .i64 0, .bool false, .slice none 0 0]) ?_ 6 _ rfl; (with_reducible repeat (first | refine blk_drewN ?_ _ | refine blk_drew ?_ | refine blk_alloc ?_ _)); refine blk_put (cs := #[.int .i64 0, .string (⟨#[]⟩ : ByteArray), .int .i64 0, .int .i64 0, .int .i64 0, .bool false, .slice none 0 0]) ?_ 5 _ rfl; (with_reducible repeat (first | refine blk_drewN ?_ _ | refine blk_drew ?_ | refine blk_alloc ?_ _)); refine blk_put (cs := #[.int .i64 0, .string (⟨#[]⟩ : ByteArray), .int .i64 0, .int .i64 0, .int .i64 0, .bool false, .slice none 0 0]) ?_ 4 _ rfl; (with_reducible repeat (first | refine blk_drewN ?_ _ | refine blk_drew ?_ | refine blk_alloc ?_ _)); refine blk_put (cs := #[.int .i64 0, .string (⟨#[]⟩ : ByteArray), .int .i64 0, .int .i64 0, .int .i64 0, .bool false, .slice none 0 0]) ?_ 3 _ rfl; (with_reducible repeat (first | refine blk_drewN ?_ _ | refine blk_drew ?_ | refine blk_alloc ?_ _)); refine blk_put (cs := #[.int .i64 0, .string (⟨#[]⟩ : ByteArray), .int .i64 0, .int .i64 0, .int .i64 0, .bool false, .slice none 0 0]) ?_ 2 _ rfl; (with_reducible repeat (first | refine blk_drewN ?_ _ | refine blk_drew ?_ | refine blk_alloc ?_ _)); refine blk_put (cs := #[.int .i64 0, .string (⟨#[]⟩ : ByteArray), .int .i64 0, .int .i64 0, .int .i64 0, .bool false, .slice none 0 0]) ?_ 1 _ rfl; (with_reducible repeat (first | refine blk_drewN ?_ _ | refine blk_drew ?_ | refine blk_alloc ?_ _)); refine blk_put (cs := #[.int .i64 0, .string (⟨#[]⟩ : ByteArray), .int .i64 0, .int .i64 0, .int .i64 0, .bool false, .slice none 0 0]) ?_ 0 _ rfl; (with_reducible repeat (first | refine blk_drewN ?_ _ | refine blk_drew ?_ | refine blk_alloc ?_ _)); refine blk_far ?_ NB300_303.out _; (with_reducible repeat (first | refine blk_drewN ?_ _ | refine blk_drew ?_ | refine blk_alloc ?_ _)); exact BK300.out))⟩; have n2_ : Aside0 (w67.heap[gb303]? = some (.cells #[.int .i64 t301, .string x304001_7, .int .i64 x304002_7, .int .i64 x304003_7, .int .i64 x304004_7, .bool (x10_7 == 1), u304006] 62 (0, 0))) := ⟨(by rw [hw]; exact (by (with_reducible repeat (first | refine blk_drewN ?_ _ | refine blk_drew ?_ | refine blk_alloc ?_ _)); refine blk_far ?_ NB303_300.out _; (with_reducible repeat (first | refine blk_drewN ?_ _ | refine blk_drew ?_ | refine blk_alloc ?_ _)); refine blk_far ?_ NB303_300.out _; (with_reducible repeat (first | refine blk_drewN ?_ _ | refine blk_drew ?_ | refine blk_alloc ?_ _)); refine blk_far ?_ NB303_300.out _; (with_reducible repeat (first | refine blk_drewN ?_ _ | refine blk_drew ?_ | refine blk_alloc ?_ _)); refine blk_far ?_ NB303_300.out _; (with_reducible repeat (first | refine blk_drewN ?_ _ | refine blk_drew ?_ | refine blk_alloc ?_ _)); refine blk_far ?_ NB303_300.out _; (with_reducible repeat (first | refine blk_drewN ?_ _ | refine blk_drew ?_ | refine blk_alloc ?_ _)); refine blk_far ?_ NB303_300.out _; (with_reducible repeat (first | refine blk_drewN ?_ _ | refine blk_drew ?_ | refine blk_alloc ?_ _)); refine blk_far ?_ NB303_300.out _; (with_reducible repeat (first | refine blk_drewN ?_ _ | refine blk_drew ?_ | refine blk_alloc ?_ _)); refine blk_put (cs := #[.int .i64 t301, .string x304001_7, .int .i64 x304002_7, .int .i64 x304003_7, .int .i64 x304004_7, .bool false, u304006]) ?_ 5 _ rfl; (with_reducible repeat (first | refine blk_drewN ?_ _ | refine blk_drew ?_ | refine blk_alloc ?_ _)); exact BK303.out))⟩; have n3_ : Aside0 (Below w.heap.size w w67) := ⟨(by rw [hw]; exact bA)⟩; clear hw; clear HO_304006; clear BK300; clear BK303; clear HB; have HO_304006 := n0_; have BK300 := n1_; have BK303 := n2_; have HB := n3_; clear n0_ n1_ n2_ n3_))
     refine bodyPost_ret (results_ct rfl _ _ gb300 62 #[.int .i64 0, .string (⟨#[]⟩ : ByteArray), .int .i64 0, .int .i64 0, .int .i64 0, .bool false, .slice none 0 0] (0, 0) _ rfl (by (with_reducible repeat (first | refine blk_drewN ?_ _ | refine blk_drew ?_ | refine blk_alloc ?_ _)); exact BK300.out) Try.underlying62 rfl (by kernel_rfl)) rfl ?_
     exact ⟨.slice none 0 0, rE, by first | exact Kd.R_nil _ _ _ _ _ | exact Kd.N_nil _ _ _ _ _ | exact Kd.V_nil _ _ _ _ _ | exact Kd.Q_nil _ _ _ _ _ | exact Kd.S_nil _ _ _ _ _, bA⟩
    ·rw [if_neg c63] at H
     have c63b0 : decide (x7_7 < 0) = false := decide_eq_false c63
     clear c63
     replace H := Option.bind_eq_some_iff.mp H
     obtain ⟨t332, A680, H⟩ := H
     replace H : (if t332 = true then ((impl_NodeOk.f kj7 t301 x304001_7 x304002_7 x304003_7 x304004_7 (x10_7 == 1) x304006_7).bind fun t333 => (if t333 = true then (some (t301, x304001_7, x304002_7, x304003_7, x304004_7, (x10_7 == 1), x304006_7, x7_7)) else (some (0, (⟨#[]⟩ : ByteArray), 0, 0, 0, false, ([] : List Int), (-1))))) else (some (0, (⟨#[]⟩ : ByteArray), 0, 0, 0, false, ([] : List Int), (-1)))) = some (r1, r2, r3, r4, r5, r6, r7, r8) := H
     have A68 := Aside0.mk A680
     clear A680
     by_cases c69 : t332 = true
     ·subst c69
      have H1 : ((impl_NodeOk.f kj7 t301 x304001_7 x304002_7 x304003_7 x304004_7 (x10_7 == 1) x304006_7).bind fun t333 => (if t333 = true then (some (t301, x304001_7, x304002_7, x304003_7, x304004_7, (x10_7 == 1), x304006_7, x7_7)) else (some (0, (⟨#[]⟩ : ByteArray), 0, 0, 0, false, ([] : List Int), (-1))))) = some (r1, r2, r3, r4, r5, r6, r7, r8) := by rw [if_pos rfl] at H; exact H
      clear H
      have H := H1
      clear H1
      replace H := Option.bind_eq_some_iff.mp H
      obtain ⟨t333, A700, H⟩ := H
      replace H : (if t333 = true then (some (t301, x304001_7, x304002_7, x304003_7, x304004_7, (x10_7 == 1), x304006_7, x7_7)) else (some (0, (⟨#[]⟩ : ByteArray), 0, 0, 0, false, ([] : List Int), (-1)))) = some (r1, r2, r3, r4, r5, r6, r7, r8) := H
      have A70 := Aside0.mk A700
      clear A700
      by_cases c71 : t333 = true
      ·subst c71
       have H1 : (some (t301, x304001_7, x304002_7, x304003_7, x304004_7, (x10_7 == 1), x304006_7, x7_7)) = some (r1, r2, r3, r4, r5, r6, r7, r8) := by rw [if_pos rfl] at H; exact H
       clear H
       have H := H1
       clear H1
       simp only [Option.some.injEq, Prod.mk.injEq] at H
       obtain ⟨rfl, rfl, rfl, rfl, rfl, rfl, rfl, rfl⟩ := H
       have hnb72 := NB303_300.out
       have hnc72 := NB300_303.out
       obtain ⟨⟨hcz73_0, hcz73_1, hcz73_2, hcz73_3, hcz73_4, hcz73_5, hcz73_6⟩, hfz73_0, hfz73_1, hfz73_2, hfz73_3, hfz73_4, hfz73_5, hfz73_6⟩ := Own.c7 BK303.out
       go_wp2_with (first | (go_at_call 59; (with_reducible refine (impl_in.calls x10_7 0 1 true _ A68.out).mono ?_); rintro e w' ⟨rfl, ⟨nd, rfl⟩⟩; obtain ⟨Ao74, co74, eo74⟩ := Kd.R_slice HO_304006.out; subst eo74) | (go_at_call 77; (with_reducible refine (impl_NodeOk.calls kj7 t301 x304001_7 x304002_7 x304003_7 x304004_7 (x10_7 == 1) _ _ x304006_7 true _ ?side1 ?side2 A70.out).mono ?_); (case side1 => refine (Kd.R_reads' (e := 3) (base := w.heap.size) (ok := fun k_ => True) (n := x304006_7.length) (c := co74) ?_).2.2; exact (by (with_reducible repeat (first | apply Kd.R_alloc | apply Kd.R_drewN | apply Kd.R_drew)); exact (Kd.R_mono (Kd.R_far (p := ⟨gb303, 5, none⟩) (Kd.R_types HO_304006.out BK303.out (by decide)) (fun _ hk => hk.2) (.bool (x10_7 == 1))) (fun _ h_ => h_.1)))); (case side2 => exact (Kd.R_reads' HO_304006.out).2.1); rintro e w75 ⟨rfl, hb⟩; have n0_ := Aside0.mk (Kd.R_below (by (with_reducible repeat (first | apply Kd.R_alloc | apply Kd.R_drewN | apply Kd.R_drew)); exact (Kd.R_mono (Kd.R_far (p := ⟨gb303, 5, none⟩) (Kd.R_types HO_304006.out BK303.out (by decide)) (fun _ hk => hk.2) (.bool (x10_7 == 1))) (fun _ h_ => h_.1))) hb); have n1_ := Aside0.mk (blk_below (g := gb300) (o := .cells #[.int .i64 0, .string (⟨#[]⟩ : ByteArray), .int .i64 0, .int .i64 0, .int .i64 0, .bool false, .slice none 0 0] 62 (0, 0)) (by (with_reducible repeat (first | refine blk_drewN ?_ _ | refine blk_drew ?_ | refine blk_alloc ?_ _)); refine blk_far ?_ NB300_303.out _; (with_reducible repeat (first | refine blk_drewN ?_ _ | refine blk_drew ?_ | refine blk_alloc ?_ _)); exact BK300.out) hb); have n2_ := Aside0.mk (blk_below (g := gb303) (o := .cells #[.int .i64 t301, .string x304001_7, .int .i64 x304002_7, .int .i64 x304003_7, .int .i64 x304004_7, .bool (x10_7 == 1), .slice Ao74 x304006_7.length co74] 62 (0, 0)) (by (with_reducible repeat (first | refine blk_drewN ?_ _ | refine blk_drew ?_ | refine blk_alloc ?_ _)); refine blk_put (cs := #[.int .i64 t301, .string x304001_7, .int .i64 x304002_7, .int .i64 x304003_7, .int .i64 x304004_7, .bool false, .slice Ao74 x304006_7.length co74]) ?_ 5 _ rfl; (with_reducible repeat (first | refine blk_drewN ?_ _ | refine blk_drew ?_ | refine blk_alloc ?_ _)); exact BK303.out) hb); have n3_ := Aside0.mk (below_step bA hb); clear HO_304006; clear BK300; clear BK303; clear HB; have HO_304006 := n0_; have BK300 := n1_; have BK303 := n2_; have HB := n3_; clear n0_ n1_ n2_ n3_; (try clear hb); (try clear hb2); (try clear hk); (try clear hi); obtain ⟨⟨hcz76_0, hcz76_1, hcz76_2, hcz76_3, hcz76_4, hcz76_5, hcz76_6⟩, hfz76_0, hfz76_1, hfz76_2, hfz76_3, hfz76_4, hfz76_5, hfz76_6⟩ := Own.c7 BK303.out; obtain ⟨⟨hcz77_0, hcz77_1, hcz77_2, hcz77_3, hcz77_4, hcz77_5, hcz77_6⟩, hfz77_0, hfz77_1, hfz77_2, hfz77_3, hfz77_4, hfz77_5, hfz77_6⟩ := Own.c7 BK300.out) | ((with_reducible refine gate_store (t := 62) (p := 4) rfl ?_); refine store_event (t := 62) (p := 4) (v := ?vo_w78) (w1 := (((((((w75.setCell ⟨gb300, 0, none⟩ (.int .i64 t301)).setCell ⟨gb300, 1, none⟩ (.string x304001_7)).setCell ⟨gb300, 2, none⟩ (.int .i64 x304002_7)).setCell ⟨gb300, 3, none⟩ (.int .i64 x304003_7)).setCell ⟨gb300, 4, none⟩ (.int .i64 x304004_7)).setCell ⟨gb300, 5, none⟩ (.bool (x10_7 == 1))).setCell ⟨gb300, 6, none⟩ (.slice Ao74 x304006_7.length co74))) ?hg ?ho ?hn ?hr ?_; (case ho => rfl); (case hg => rfl); (case hn => rfl); (case hr => first | (go_simp; done) | (go_simp; rfl)); intro w78 hw; have n0_ : Aside0 (Kd.R (Kd.int .i64) 3 w78 w.heap.size (fun _ => True) (.slice Ao74 x304006_7.length co74) x304006_7) := ⟨(by rw [hw]; exact (by (with_reducible repeat (first | apply Kd.R_alloc | apply Kd.R_drewN | apply Kd.R_drew)); exact Kd.R_mono (Kd.R_far (p := ⟨gb300, 6, none⟩) (Kd.R_far (p := ⟨gb300, 5, none⟩) (Kd.R_far (p := ⟨gb300, 4, none⟩) (Kd.R_far (p := ⟨gb300, 3, none⟩) (Kd.R_far (p := ⟨gb300, 2, none⟩) (Kd.R_far (p := ⟨gb300, 1, none⟩) (Kd.R_far (p := ⟨gb300, 0, none⟩) (Kd.R_types HO_304006.out BK300.out (by decide)) (fun _ hk => hk.2) (.int .i64 t301)) (fun _ hk => hk.2) (.string x304001_7)) (fun _ hk => hk.2) (.int .i64 x304002_7)) (fun _ hk => hk.2) (.int .i64 x304003_7)) (fun _ hk => hk.2) (.int .i64 x304004_7)) (fun _ hk => hk.2) (.bool (x10_7 == 1))) (fun _ hk => hk.2) (.slice Ao74 x304006_7.length co74)) (fun _ hk => trivial)))⟩; have n1_ : Aside0 (w78.heap[gb300]? = some (.cells #[.int .i64 t301, .string x304001_7, .int .i64 x304002_7, .int .i64 x304003_7, .int .i64 x304004_7, .bool (x10_7 == 1), .slice Ao74 x304006_7.length co74] 62 (0, 0))) := ⟨(by rw [hw]; exact (by exact put7 BK300.out))⟩; have n2_ : Aside0 (w78.heap[gb303]? = some (.cells #[.int .i64 t301, .string x304001_7, .int .i64 x304002_7, .int .i64 x304003_7, .int .i64 x304004_7, .bool (x10_7 == 1), .slice Ao74 x304006_7.length co74] 62 (0, 0))) := ⟨(by rw [hw]; exact (by (with_reducible repeat (first | refine blk_drewN ?_ _ | refine blk_drew ?_ | refine blk_alloc ?_ _)); refine blk_far ?_ NB303_300.out _; (with_reducible repeat (first | refine blk_drewN ?_ _ | refine blk_drew ?_ | refine blk_alloc ?_ _)); refine blk_far ?_ NB303_300.out _; (with_reducible repeat (first | refine blk_drewN ?_ _ | refine blk_drew ?_ | refine blk_alloc ?_ _)); refine blk_far ?_ NB303_300.out _; (with_reducible repeat (first | refine blk_drewN ?_ _ | refine blk_drew ?_ | refine blk_alloc ?_ _)); refine blk_far ?_ NB303_300.out _; (with_reducible repeat (first | refine blk_drewN ?_ _ | refine blk_drew ?_ | refine blk_alloc ?_ _)); refine blk_far ?_ NB303_300.out _; (with_reducible repeat (first | refine blk_drewN ?_ _ | refine blk_drew ?_ | refine blk_alloc ?_ _)); refine blk_far ?_ NB303_300.out _; (with_reducible repeat (first | refine blk_drewN ?_ _ | refine blk_drew ?_ | refine blk_alloc ?_ _)); refine blk_far ?_ NB303_300.out _; (with_reducible repeat (first | refine blk_drewN ?_ _ | refine blk_drew ?_ | refine blk_alloc ?_ _)); exact BK303.out))⟩; have n3_ : Aside0 (Below w.heap.size w w78) := ⟨(by rw [hw]; exact bA)⟩; clear hw; clear HO_304006; clear BK300; clear BK303; clear HB; have HO_304006 := n0_; have BK300 := n1_; have BK303 := n2_; have HB := n3_; clear n0_ n1_ n2_ n3_))
       refine bodyPost_ret (results_ct rfl _ _ gb300 62 #[.int .i64 t301, .string x304001_7, .int .i64 x304002_7, .int .i64 x304003_7, .int .i64 x304004_7, .bool (x10_7 == 1), .slice Ao74 x304006_7.length co74] (0, 0) _ rfl (by (with_reducible repeat (first | refine blk_drewN ?_ _ | refine blk_drew ?_ | refine blk_alloc ?_ _)); exact BK300.out) Try.underlying62 rfl (by kernel_rfl)) rfl ?_
       exact ⟨_, rE, by (with_reducible repeat (first | apply Kd.R_alloc | apply Kd.R_drewN | apply Kd.R_drew)); exact HO_304006.out, bA⟩
      ·replace c71 := Bool.eq_false_iff.mpr c71
       subst c71
       have H1 : (some (0, (⟨#[]⟩ : ByteArray), 0, 0, 0, false, ([] : List Int), (-1))) = some (r1, r2, r3, r4, r5, r6, r7, r8) := by rw [if_neg (show ¬ (false = true) by decide)] at H; exact H
       clear H
       have H := H1
       clear H1
       simp only [Option.some.injEq, Prod.mk.injEq] at H
       obtain ⟨rfl, rfl, rfl, rfl, rfl, rfl, rfl, rfl⟩ := H
       have hnb79 := NB303_300.out
       have hnc79 := NB300_303.out
       obtain ⟨⟨hcz80_0, hcz80_1, hcz80_2, hcz80_3, hcz80_4, hcz80_5, hcz80_6⟩, hfz80_0, hfz80_1, hfz80_2, hfz80_3, hfz80_4, hfz80_5, hfz80_6⟩ := Own.c7 BK303.out
       go_wp2_with (first | (go_at_call 59; (with_reducible refine (impl_in.calls x10_7 0 1 true _ A68.out).mono ?_); rintro e w' ⟨rfl, ⟨nd, rfl⟩⟩; obtain ⟨Ao81, co81, eo81⟩ := Kd.R_slice HO_304006.out; subst eo81) | (go_at_call 77; (with_reducible refine (impl_NodeOk.calls kj7 t301 x304001_7 x304002_7 x304003_7 x304004_7 (x10_7 == 1) _ _ x304006_7 false _ ?side1 ?side2 A70.out).mono ?_); (case side1 => refine (Kd.R_reads' (e := 3) (base := w.heap.size) (ok := fun k_ => True) (n := x304006_7.length) (c := co81) ?_).2.2; exact (by (with_reducible repeat (first | apply Kd.R_alloc | apply Kd.R_drewN | apply Kd.R_drew)); exact (Kd.R_mono (Kd.R_far (p := ⟨gb303, 5, none⟩) (Kd.R_types HO_304006.out BK303.out (by decide)) (fun _ hk => hk.2) (.bool (x10_7 == 1))) (fun _ h_ => h_.1)))); (case side2 => exact (Kd.R_reads' HO_304006.out).2.1); rintro e w82 ⟨rfl, hb⟩; have n0_ := Aside0.mk (Kd.R_below (by (with_reducible repeat (first | apply Kd.R_alloc | apply Kd.R_drewN | apply Kd.R_drew)); exact (Kd.R_mono (Kd.R_far (p := ⟨gb303, 5, none⟩) (Kd.R_types HO_304006.out BK303.out (by decide)) (fun _ hk => hk.2) (.bool (x10_7 == 1))) (fun _ h_ => h_.1))) hb); have n1_ := Aside0.mk (blk_below (g := gb300) (o := .cells #[.int .i64 0, .string (⟨#[]⟩ : ByteArray), .int .i64 0, .int .i64 0, .int .i64 0, .bool false, .slice none 0 0] 62 (0, 0)) (by (with_reducible repeat (first | refine blk_drewN ?_ _ | refine blk_drew ?_ | refine blk_alloc ?_ _)); refine blk_far ?_ NB300_303.out _; (with_reducible repeat (first | refine blk_drewN ?_ _ | refine blk_drew ?_ | refine blk_alloc ?_ _)); exact BK300.out) hb); have n2_ := Aside0.mk (blk_below (g := gb303) (o := .cells #[.int .i64 t301, .string x304001_7, .int .i64 x304002_7, .int .i64 x304003_7, .int .i64 x304004_7, .bool (x10_7 == 1), .slice Ao81 x304006_7.length co81] 62 (0, 0)) (by (with_reducible repeat (first | refine blk_drewN ?_ _ | refine blk_drew ?_ | refine blk_alloc ?_ _)); refine blk_put (cs := #[.int .i64 t301, .string x304001_7, .int .i64 x304002_7, .int .i64 x304003_7, .int .i64 x304004_7, .bool false, .slice Ao81 x304006_7.length co81]) ?_ 5 _ rfl; (with_reducible repeat (first | refine blk_drewN ?_ _ | refine blk_drew ?_ | refine blk_alloc ?_ _)); exact BK303.out) hb); have n3_ := Aside0.mk (below_step bA hb); clear HO_304006; clear BK300; clear BK303; clear HB; have HO_304006 := n0_; have BK300 := n1_; have BK303 := n2_; have HB := n3_; clear n0_ n1_ n2_ n3_; (try clear hb); (try clear hb2); (try clear hk); (try clear hi); obtain ⟨⟨hcz83_0, hcz83_1, hcz83_2, hcz83_3, hcz83_4, hcz83_5, hcz83_6⟩, hfz83_0, hfz83_1, hfz83_2, hfz83_3, hfz83_4, hfz83_5, hfz83_6⟩ := Own.c7 BK300.out) | ((with_reducible refine gate_store (t := 62) (p := 4) rfl ?_); refine store_event (t := 62) (p := 4) (v := ?vo_w84) (w1 := (((((((w82.setCell ⟨gb300, 0, none⟩ (.int .i64 0)).setCell ⟨gb300, 1, none⟩ (.string (⟨#[]⟩ : ByteArray))).setCell ⟨gb300, 2, none⟩ (.int .i64 0)).setCell ⟨gb300, 3, none⟩ (.int .i64 0)).setCell ⟨gb300, 4, none⟩ (.int .i64 0)).setCell ⟨gb300, 5, none⟩ (.bool false)).setCell ⟨gb300, 6, none⟩ (.slice none 0 0))) ?hg ?ho ?hn ?hr ?_; (case ho => rfl); (case hg => rfl); (case hn => rfl); (case hr => first | (go_simp; done) | (go_simp; rfl)); intro w84 hw; have n0_ : Aside0 (Kd.R (Kd.int .i64) 3 w84 w.heap.size (fun _ => True) (.slice Ao81 x304006_7.length co81) x304006_7) := ⟨(by rw [hw]; exact (by (with_reducible repeat (first | apply Kd.R_alloc | apply Kd.R_drewN | apply Kd.R_drew)); exact Kd.R_mono (Kd.R_far (p := ⟨gb300, 6, none⟩) (Kd.R_far (p := ⟨gb300, 5, none⟩) (Kd.R_far (p := ⟨gb300, 4, none⟩) (Kd.R_far (p := ⟨gb300, 3, none⟩) (Kd.R_far (p := ⟨gb300, 2, none⟩) (Kd.R_far (p := ⟨gb300, 1, none⟩) (Kd.R_far (p := ⟨gb300, 0, none⟩) (Kd.R_types HO_304006.out BK300.out (by decide)) (fun _ hk => hk.2) (.int .i64 0)) (fun _ hk => hk.2) (.string (⟨#[]⟩ : ByteArray))) (fun _ hk => hk.2) (.int .i64 0)) (fun _ hk => hk.2) (.int .i64 0)) (fun _ hk => hk.2) (.int .i64 0)) (fun _ hk => hk.2) (.bool false)) (fun _ hk => hk.2) (.slice none 0 0)) (fun _ hk => trivial)))⟩; have n1_ : Aside0 (w84.heap[gb300]? = some (.cells #[.int .i64 0, .string (⟨#[]⟩ : ByteArray), .int .i64 0, .int .i64 0, .int .i64 0, .bool false, .slice none 0 0] 62 (0, 0))) := ⟨(by rw [hw]; exact (by exact put7 BK300.out))⟩; have n2_ : Aside0 (w84.heap[gb303]? = some (.cells #[.int .i64 t301, .string x304001_7, .int .i64 x304002_7, .int .i64 x304003_7, .int .i64 x304004_7, .bool (x10_7 == 1), .slice Ao81 x304006_7.length co81] 62 (0, 0))) := ⟨(by rw [hw]; exact (by (with_reducible repeat (first | refine blk_drewN ?_ _ | refine blk_drew ?_ | refine blk_alloc ?_ _)); refine blk_far ?_ NB303_300.out _; (with_reducible repeat (first | refine blk_drewN ?_ _ | refine blk_drew ?_ | refine blk_alloc ?_ _)); refine blk_far ?_ NB303_300.out _; (with_reducible repeat (first | refine blk_drewN ?_ _ | refine blk_drew ?_ | refine blk_alloc ?_ _)); refine blk_far ?_ NB303_300.out _; (with_reducible repeat (first | refine blk_drewN ?_ _ | refine blk_drew ?_ | refine blk_alloc ?_ _)); refine blk_far ?_ NB303_300.out _; (with_reducible repeat (first | refine blk_drewN ?_ _ | refine blk_drew ?_ | refine blk_alloc ?_ _)); refine blk_far ?_ NB303_300.out _; (with_reducible repeat (first | refine blk_drewN ?_ _ | refine blk_drew ?_ | refine blk_alloc ?_ _)); refine blk_far ?_ NB303_300.out _; (with_reducible repeat (first | refine blk_drewN ?_ _ | refine blk_drew ?_ | refine blk_alloc ?_ _)); refine blk_far ?_ NB303_300.out _; (with_reducible repeat (first | refine blk_drewN ?_ _ | refine blk_drew ?_ | refine blk_alloc ?_ _)); exact BK303.out))⟩; have n3_ : Aside0 (Below w.heap.size w w84) := ⟨(by rw [hw]; exact bA)⟩; clear hw; clear HO_304006; clear BK300; clear BK303; clear HB; have HO_304006 := n0_; have BK300 := n1_; have BK303 := n2_; have HB := n3_; clear n0_ n1_ n2_ n3_))
       refine bodyPost_ret (results_ct rfl _ _ gb300 62 #[.int .i64 0, .string (⟨#[]⟩ : ByteArray), .int .i64 0, .int .i64 0, .int .i64 0, .bool false, .slice none 0 0] (0, 0) _ rfl (by (with_reducible repeat (first | refine blk_drewN ?_ _ | refine blk_drew ?_ | refine blk_alloc ?_ _)); exact BK300.out) Try.underlying62 rfl (by kernel_rfl)) rfl ?_
       exact ⟨.slice none 0 0, rE, by first | exact Kd.R_nil _ _ _ _ _ | exact Kd.N_nil _ _ _ _ _ | exact Kd.V_nil _ _ _ _ _ | exact Kd.Q_nil _ _ _ _ _ | exact Kd.S_nil _ _ _ _ _, bA⟩
     ·replace c69 := Bool.eq_false_iff.mpr c69
      subst c69
      have H1 : (some (0, (⟨#[]⟩ : ByteArray), 0, 0, 0, false, ([] : List Int), (-1))) = some (r1, r2, r3, r4, r5, r6, r7, r8) := by rw [if_neg (show ¬ (false = true) by decide)] at H; exact H
      clear H
      have H := H1
      clear H1
      simp only [Option.some.injEq, Prod.mk.injEq] at H
      obtain ⟨rfl, rfl, rfl, rfl, rfl, rfl, rfl, rfl⟩ := H
      have hnb85 := NB303_300.out
      have hnc85 := NB300_303.out
      obtain ⟨⟨hcz86_0, hcz86_1, hcz86_2, hcz86_3, hcz86_4, hcz86_5, hcz86_6⟩, hfz86_0, hfz86_1, hfz86_2, hfz86_3, hfz86_4, hfz86_5, hfz86_6⟩ := Own.c7 BK303.out
      go_wp2_with (first | (go_at_call 59; (with_reducible refine (impl_in.calls x10_7 0 1 false _ A68.out).mono ?_); rintro e wq ⟨rfl, ⟨nd, hw⟩⟩; have n0_ : Aside0 (wq.heap[gb300]? = some (.cells #[.int .i64 0, .string (⟨#[]⟩ : ByteArray), .int .i64 0, .int .i64 0, .int .i64 0, .bool false, .slice none 0 0] 62 (0, 0))) := ⟨by rw [hw]; exact blk_drewN (blk_far BK300.out NB300_303.out _) _⟩; have n1_ : Aside0 (Below w.heap.size w wq) := ⟨by rw [hw]; exact bA⟩; clear BK300 HB hw; have BK300 := n0_; have HB := n1_; clear n0_ n1_; obtain ⟨⟨hq_0, hq_1, hq_2, hq_3, hq_4, hq_5, hq_6⟩, hr_0, hr_1, hr_2, hr_3, hr_4, hr_5, hr_6⟩ := Own.c7 BK300.out) | ((with_reducible refine gate_store (t := 62) (p := 4) rfl ?_); refine store_event (t := 62) (p := 4) (v := ?vo_w88) (w1 := (((((((wq.setCell ⟨gb300, 0, none⟩ (.int .i64 0)).setCell ⟨gb300, 1, none⟩ (.string (⟨#[]⟩ : ByteArray))).setCell ⟨gb300, 2, none⟩ (.int .i64 0)).setCell ⟨gb300, 3, none⟩ (.int .i64 0)).setCell ⟨gb300, 4, none⟩ (.int .i64 0)).setCell ⟨gb300, 5, none⟩ (.bool false)).setCell ⟨gb300, 6, none⟩ (.slice none 0 0))) ?hg ?ho ?hn ?hr ?_; (case ho => rfl); (case hg => rfl); (case hn => rfl); (case hr => first | (go_simp; done) | (go_simp; rfl)); intro wr hw; have n0_ : Aside0 (wr.heap[gb300]? = some (.cells #[.int .i64 0, .string (⟨#[]⟩ : ByteArray), .int .i64 0, .int .i64 0, .int .i64 0, .bool false, .slice none 0 0] 62 (0, 0))) := ⟨by rw [hw]; exact put7 BK300.out⟩; have n1_ : Aside0 (Below w.heap.size w wr) := ⟨by rw [hw]; exact bA⟩; clear hw; clear BK300 HB; have BK300 := n0_; have HB := n1_; clear n0_ n1_))
      refine bodyPost_ret (results_ct rfl _ _ gb300 62 #[.int .i64 0, .string (⟨#[]⟩ : ByteArray), .int .i64 0, .int .i64 0, .int .i64 0, .bool false, .slice none 0 0] (0, 0) _ rfl (by (with_reducible repeat (first | refine blk_drewN ?_ _ | refine blk_drew ?_ | refine blk_alloc ?_ _)); exact BK300.out) Try.underlying62 rfl (by kernel_rfl)) rfl ?_
      exact ⟨.slice none 0 0, rE, by first | exact Kd.R_nil _ _ _ _ _ | exact Kd.N_nil _ _ _ _ _ | exact Kd.V_nil _ _ _ _ _ | exact Kd.Q_nil _ _ _ _ _ | exact Kd.S_nil _ _ _ _ _, bA⟩


end Go.Proofs.Ytgmhohafoclmpaa.Q
