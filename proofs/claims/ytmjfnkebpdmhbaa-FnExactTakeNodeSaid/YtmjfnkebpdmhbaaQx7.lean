/- The machine side of a law, written by a program of this session over the translation: for each Go function a Lean function with the same answers, and the proof that the Go code comes to them. -/
import Derived.Test.YtmjfnkebpdmhbaaQx0
import Derived.Test.YtmjfnkebpdmhbaaQx2
import Derived.Test.YtmjfnkebpdmhbaaQx4
import Derived.Test.YtmjfnkebpdmhbaaQx5
import Derived.Test.YtmjfnkebpdmhbaaQx6
namespace Go.Proofs.Ytmjfnkebpdmhbaa.Q
open Go.RowKit Go.Proofs.Ytmjfnkebpdmhbaa.Own Go.Proofs.YtmjfnkebpdmhbaaW.PrintWords Go.Proofs.YtmjfnkebpdmhbaaW.PrintLast Go.Proofs.YtmjfnkebpdmhbaaW.PrintMore
attribute [local go_sem] max2_int min2_int max_two min_two max_three min_three max_four min_four   -- for this text's walks alone
set_option linter.unusedVariables false
set_option linter.unusedSimpArgs false

/-! ### impl_TakeNode: function 52 -/
def impl_TakeNode.j0 : Nat → Int → Int → Int → ByteArray → Int → Int → Int → Bool → List Int → Option (Int × ByteArray × Int × Int × Int × Bool × List Int × Int)
 | 0, _, _, _, _, _, _, _, _, _ => none
 | k + 1, x7, x10, x229000, x229001, x229002, x229003, x229004, x229005, x229006 => if x7 < 0 then (some (0, (⟨#[]⟩ : ByteArray), 0, 0, 0, false, ([] : List Int), (-1))) else ((impl_in.f x10 0 1).bind fun t257 => (if t257 = true then ((impl_NodeOk.f k x229000 x229001 x229002 x229003 x229004 (x10 == 1) x229006).bind fun t258 => (if t258 = true then (some (x229000, x229001, x229002, x229003, x229004, (x10 == 1), x229006, x7)) else (some (0, (⟨#[]⟩ : ByteArray), 0, 0, 0, false, ([] : List Int), (-1))))) else (some (0, (⟨#[]⟩ : ByteArray), 0, 0, 0, false, ([] : List Int), (-1)))))
def impl_TakeNode.f (k : Nat) (l0 : List Int) (a1 : Int) : Option (Int × ByteArray × Int × Int × Int × Bool × List Int × Int) := (impl_TakeNum.f k l0 a1).bind fun bt226 => (if bt226.2 < 0 then (some (0, (⟨#[]⟩ : ByteArray), 0, 0, 0, false, ([] : List Int), (-1))) else (if bt226.1 = 0 then ((impl_TakeWord.f k l0 bt226.2).bind fun bt229 => (impl_TakeNode.j0 k bt229.2 0 bt226.1 bt229.1 0 0 0 false ([] : List Int))) else (if bt226.1 = 1 then ((impl_takeAll.f k l0 bt226.2 4).bind fun bt231 => (if bt231.2 ≥ 0 then (if 0 < (bt231.1.length : Int) then (if 1 < (bt231.1.length : Int) then (if 2 < (bt231.1.length : Int) then (if 3 < (bt231.1.length : Int) then (impl_TakeNode.j0 k bt231.2 (rd bt231.1 2) bt226.1 (⟨#[]⟩ : ByteArray) (rd bt231.1 0) (rd bt231.1 1) (rd bt231.1 3) false ([] : List Int)) else (none)) else (none)) else (none)) else (none)) else (impl_TakeNode.j0 k bt231.2 0 bt226.1 (⟨#[]⟩ : ByteArray) 0 0 0 false ([] : List Int)))) else (if bt226.1 = 2 then ((impl_TakeNums.f k l0 bt226.2).bind fun bt239 => (impl_TakeNode.j0 k bt239.2 0 bt226.1 (⟨#[]⟩ : ByteArray) 0 0 0 false bt239.1)) else (if bt226.1 = 3 then ((impl_takeAll.f k l0 bt226.2 2).bind fun bt243 => (if bt243.2 ≥ 0 then (if 0 < (bt243.1.length : Int) then (if 1 < (bt243.1.length : Int) then (impl_TakeNode.j0 k bt243.2 0 bt226.1 (⟨#[]⟩ : ByteArray) (rd bt243.1 0) 0 (rd bt243.1 1) false ([] : List Int)) else (none)) else (none)) else (impl_TakeNode.j0 k bt243.2 0 bt226.1 (⟨#[]⟩ : ByteArray) 0 0 0 false ([] : List Int)))) else (if bt226.1 = 5 then ((impl_TakeNum.f k l0 bt226.2).bind fun bt249 => (impl_TakeNode.j0 k bt249.2 0 bt226.1 (⟨#[]⟩ : ByteArray) bt249.1 0 0 false ([] : List Int))) else (if bt226.1 = 6 then ((impl_takeAll.f k l0 bt226.2 2).bind fun bt251 => (if bt251.2 ≥ 0 then (if 0 < (bt251.1.length : Int) then (if 1 < (bt251.1.length : Int) then (impl_TakeNode.j0 k bt251.2 (rd bt251.1 0) bt226.1 (⟨#[]⟩ : ByteArray) 0 0 (rd bt251.1 1) false ([] : List Int)) else (none)) else (none)) else (impl_TakeNode.j0 k bt251.2 0 bt226.1 (⟨#[]⟩ : ByteArray) 0 0 0 false ([] : List Int)))) else (impl_TakeNode.j0 k bt226.2 0 bt226.1 (⟨#[]⟩ : ByteArray) 0 0 0 false ([] : List Int)))))))))
theorem impl_TakeNode.mono_l : ∀ k, (∀ y0 y1 y2 y3 y4 y5 y6 y7 y8, LeO (impl_TakeNode.j0 k y0 y1 y2 y3 y4 y5 y6 y7 y8) (impl_TakeNode.j0 (k + 1) y0 y1 y2 y3 y4 y5 y6 y7 y8))
 | 0 => fun _ _ _ _ _ _ _ _ _ r h => by simp [impl_TakeNode.j0] at h
 | k + 1 => by
  have ih0 := impl_TakeNode.mono_l k
  ·intro y0 y1 y2 y3 y4 y5 y6 y7 y8
   unfold impl_TakeNode.j0
   repeat' first
   | (with_reducible exact ih0 _ _ _ _ _ _ _ _ _)
   | (with_reducible exact impl_NodeOk.mono _ _ _ _ _ _ _ _)
   | (with_reducible exact impl_TakeNum.mono _ _ _)
   | (with_reducible exact impl_TakeNums.mono _ _ _)
   | (with_reducible exact impl_TakeWord.mono _ _ _)
   | (with_reducible exact impl_takeAll.mono _ _ _ _)
   | (with_reducible exact LeO.refl _)
   | (with_reducible exact LeO.none _)
   | (with_reducible refine LeO.ite ?_ ?_)
   | (with_reducible refine LeO.bind ?_ (fun _ => ?_))
   | exact ih0 _ _ _ _ _ _ _ _ _
   | exact impl_NodeOk.mono _ _ _ _ _ _ _ _
   | exact impl_TakeNum.mono _ _ _
   | exact impl_TakeNums.mono _ _ _
   | exact impl_TakeWord.mono _ _ _
   | exact impl_takeAll.mono _ _ _ _
   | exact LeO.none _
   | refine LeO.ite ?_ ?_
   | refine LeO.bind ?_ (fun _ => ?_)
theorem impl_TakeNode.mono : ∀ a0 a1 k, LeO (impl_TakeNode.f k a0 a1) (impl_TakeNode.f (k + 1) a0 a1) := by
 intro a0 a1 k
 have ih0 := impl_TakeNode.mono_l k
 unfold impl_TakeNode.f
 repeat' first
   | (with_reducible exact ih0 _ _ _ _ _ _ _ _ _)
   | (with_reducible exact impl_NodeOk.mono _ _ _ _ _ _ _ _)
   | (with_reducible exact impl_TakeNum.mono _ _ _)
   | (with_reducible exact impl_TakeNums.mono _ _ _)
   | (with_reducible exact impl_TakeWord.mono _ _ _)
   | (with_reducible exact impl_takeAll.mono _ _ _ _)
   | (with_reducible exact LeO.refl _)
   | (with_reducible exact LeO.none _)
   | (with_reducible refine LeO.ite ?_ ?_)
   | (with_reducible refine LeO.bind ?_ (fun _ => ?_))
   | exact ih0 _ _ _ _ _ _ _ _ _
   | exact impl_NodeOk.mono _ _ _ _ _ _ _ _
   | exact impl_TakeNum.mono _ _ _
   | exact impl_TakeNums.mono _ _ _
   | exact impl_TakeWord.mono _ _ _
   | exact impl_takeAll.mono _ _ _ _
   | exact LeO.none _
   | refine LeO.ite ?_ ?_
   | refine LeO.bind ?_ (fun _ => ?_)
def impl_TakeNode.T13 : Bool × List (List Nat × List Nat) := (true, [([], []), ([0], [0]), ([1], [1]), ([], []), ([3], [3]), ([4], [4]), ([], []), ([6], [6]), ([7], [7]), ([], []), ([9], [9]), ([10], [10]), ([0, 1, 2], []), ([12, 2, 0, 1, 2], [2, 12]), ([0, 1, 2, 3, 4, 5, 12, 13], []), ([14, 5, 13, 0, 1, 2, 3, 4, 5, 12, 13], [5, 14]), ([8, 15, 0, 1, 2, 3, 4, 5, 6, 7, 8, 12, 13, 14, 15], [8]), ([0, 1, 2, 3, 4, 5, 6, 7, 8, 9, 10, 11, 12, 13, 14, 15, 16], []), ([17, 11, 16, 0, 1, 2, 3, 4, 5, 6, 7, 8, 9, 10, 11, 12, 13, 14, 15, 16], [11, 17])])
def impl_TakeNode.B13 : List Nat := [0, 1, 3, 0, 8, 24, 0, 64, 192, 0, 512, 1536, 7, 4103, 12351, 28735, 61951, 131071, 262143]
theorem impl_TakeNode.tab13 : rtab .any (opsOf Try.f52 13) = impl_TakeNode.T13 := by kernel_rfl
theorem impl_TakeNode.bits13 : waitsOk impl_TakeNode.T13.2 impl_TakeNode.B13 = true := by kernel_rfl
def impl_TakeNode.T19 : Bool × List (List Nat × List Nat) := (true, [([], []), ([0], [0]), ([1], [1]), ([], []), ([3], [3]), ([4], [4]), ([0, 1, 2], []), ([6, 2, 0, 1, 2], [2, 6]), ([0, 1, 2, 3, 4, 5, 6, 7], []), ([8, 5, 7, 0, 1, 2, 3, 4, 5, 6, 7], [5, 8])])
def impl_TakeNode.B19 : List Nat := [0, 1, 3, 0, 8, 24, 7, 71, 255, 511]
theorem impl_TakeNode.tab19 : rtab .any (opsOf Try.f52 19) = impl_TakeNode.T19 := by kernel_rfl
theorem impl_TakeNode.bits19 : waitsOk impl_TakeNode.T19.2 impl_TakeNode.B19 = true := by kernel_rfl
def impl_TakeNode.T25 : Bool × List (List Nat × List Nat) := (true, [([], []), ([0], [0]), ([1], [1]), ([], []), ([3], [3]), ([4], [4]), ([2, 0, 1, 2], [2]), ([0, 1, 2, 3, 4, 5, 6], []), ([7, 5, 6, 0, 1, 2, 3, 4, 5, 6], [5, 7])])
def impl_TakeNode.B25 : List Nat := [0, 1, 3, 0, 8, 24, 7, 127, 255]
theorem impl_TakeNode.tab25 : rtab .any (opsOf Try.f52 25) = impl_TakeNode.T25 := by kernel_rfl
theorem impl_TakeNode.bits25 : waitsOk impl_TakeNode.T25.2 impl_TakeNode.B25 = true := by kernel_rfl
set_option maxHeartbeats 8000000 in
set_option maxRecDepth 100000 in
theorem impl_TakeNode.calls (k : Nat) (A0 : Option Addr) (c0 : Nat) (l0 : List Int) (a1 : Int) (r1 : Int) (r2 : ByteArray) (r3 : Int) (r4 : Int) (r5 : Int) (r6 : Bool) (r7 : List Int) (r8 : Int) (w : World) (hr0 : Kd.C (Kd.int .u8) w A0 l0.length l0) (hc0 : l0.length ≤ c0) (h : impl_TakeNode.f k l0 a1 = some (r1, r2, r3, r4, r5, r6, r7, r8)) :
  Calls Try.prog 52 #[.slice A0 l0.length c0, .int .i64 a1] w fun e w' => ∃ v6_ : Value, e = .returned (.tuple #[.agg #[.int .i64 r1, .string r2, .int .i64 r3, .int .i64 r4, .int .i64 r5, .bool r6, v6_], .int .i64 r8]) ∧ Kd.R (Kd.int .i64) 3 w' w.heap.size (fun _ => True) v6_ r7 ∧ Below w.heap.size w w' := by
 have hu33 := Try.underlying33
 have HR0 := Aside0.mk hr0
 have HC0 := Aside0.mk hc0
 clear hr0 hc0
 have HB := Aside0.mk (Below.refl w.heap.size w)
 have H : ((impl_TakeNum.f k l0 a1).bind fun bt226 => (if bt226.2 < 0 then (some (0, (⟨#[]⟩ : ByteArray), 0, 0, 0, false, ([] : List Int), (-1))) else (if bt226.1 = 0 then ((impl_TakeWord.f k l0 bt226.2).bind fun bt229 => (impl_TakeNode.j0 k bt229.2 0 bt226.1 bt229.1 0 0 0 false ([] : List Int))) else (if bt226.1 = 1 then ((impl_takeAll.f k l0 bt226.2 4).bind fun bt231 => (if bt231.2 ≥ 0 then (if 0 < (bt231.1.length : Int) then (if 1 < (bt231.1.length : Int) then (if 2 < (bt231.1.length : Int) then (if 3 < (bt231.1.length : Int) then (impl_TakeNode.j0 k bt231.2 (rd bt231.1 2) bt226.1 (⟨#[]⟩ : ByteArray) (rd bt231.1 0) (rd bt231.1 1) (rd bt231.1 3) false ([] : List Int)) else (none)) else (none)) else (none)) else (none)) else (impl_TakeNode.j0 k bt231.2 0 bt226.1 (⟨#[]⟩ : ByteArray) 0 0 0 false ([] : List Int)))) else (if bt226.1 = 2 then ((impl_TakeNums.f k l0 bt226.2).bind fun bt239 => (impl_TakeNode.j0 k bt239.2 0 bt226.1 (⟨#[]⟩ : ByteArray) 0 0 0 false bt239.1)) else (if bt226.1 = 3 then ((impl_takeAll.f k l0 bt226.2 2).bind fun bt243 => (if bt243.2 ≥ 0 then (if 0 < (bt243.1.length : Int) then (if 1 < (bt243.1.length : Int) then (impl_TakeNode.j0 k bt243.2 0 bt226.1 (⟨#[]⟩ : ByteArray) (rd bt243.1 0) 0 (rd bt243.1 1) false ([] : List Int)) else (none)) else (none)) else (impl_TakeNode.j0 k bt243.2 0 bt226.1 (⟨#[]⟩ : ByteArray) 0 0 0 false ([] : List Int)))) else (if bt226.1 = 5 then ((impl_TakeNum.f k l0 bt226.2).bind fun bt249 => (impl_TakeNode.j0 k bt249.2 0 bt226.1 (⟨#[]⟩ : ByteArray) bt249.1 0 0 false ([] : List Int))) else (if bt226.1 = 6 then ((impl_takeAll.f k l0 bt226.2 2).bind fun bt251 => (if bt251.2 ≥ 0 then (if 0 < (bt251.1.length : Int) then (if 1 < (bt251.1.length : Int) then (impl_TakeNode.j0 k bt251.2 (rd bt251.1 0) bt226.1 (⟨#[]⟩ : ByteArray) 0 0 (rd bt251.1 1) false ([] : List Int)) else (none)) else (none)) else (impl_TakeNode.j0 k bt251.2 0 bt226.1 (⟨#[]⟩ : ByteArray) 0 0 0 false ([] : List Int)))) else (impl_TakeNode.j0 k bt226.2 0 bt226.1 (⟨#[]⟩ : ByteArray) 0 0 0 false ([] : List Int)))))))))) = some (r1, r2, r3, r4, r5, r6, r7, r8) := h
 clear h
 replace H := Option.bind_eq_some_iff.mp H
 obtain ⟨⟨t226, t227⟩, A30, H⟩ := H
 replace H : (if t227 < 0 then (some (0, (⟨#[]⟩ : ByteArray), 0, 0, 0, false, ([] : List Int), (-1))) else (if t226 = 0 then ((impl_TakeWord.f k l0 t227).bind fun bt229 => (impl_TakeNode.j0 k bt229.2 0 t226 bt229.1 0 0 0 false ([] : List Int))) else (if t226 = 1 then ((impl_takeAll.f k l0 t227 4).bind fun bt231 => (if bt231.2 ≥ 0 then (if 0 < (bt231.1.length : Int) then (if 1 < (bt231.1.length : Int) then (if 2 < (bt231.1.length : Int) then (if 3 < (bt231.1.length : Int) then (impl_TakeNode.j0 k bt231.2 (rd bt231.1 2) t226 (⟨#[]⟩ : ByteArray) (rd bt231.1 0) (rd bt231.1 1) (rd bt231.1 3) false ([] : List Int)) else (none)) else (none)) else (none)) else (none)) else (impl_TakeNode.j0 k bt231.2 0 t226 (⟨#[]⟩ : ByteArray) 0 0 0 false ([] : List Int)))) else (if t226 = 2 then ((impl_TakeNums.f k l0 t227).bind fun bt239 => (impl_TakeNode.j0 k bt239.2 0 t226 (⟨#[]⟩ : ByteArray) 0 0 0 false bt239.1)) else (if t226 = 3 then ((impl_takeAll.f k l0 t227 2).bind fun bt243 => (if bt243.2 ≥ 0 then (if 0 < (bt243.1.length : Int) then (if 1 < (bt243.1.length : Int) then (impl_TakeNode.j0 k bt243.2 0 t226 (⟨#[]⟩ : ByteArray) (rd bt243.1 0) 0 (rd bt243.1 1) false ([] : List Int)) else (none)) else (none)) else (impl_TakeNode.j0 k bt243.2 0 t226 (⟨#[]⟩ : ByteArray) 0 0 0 false ([] : List Int)))) else (if t226 = 5 then ((impl_TakeNum.f k l0 t227).bind fun bt249 => (impl_TakeNode.j0 k bt249.2 0 t226 (⟨#[]⟩ : ByteArray) bt249.1 0 0 false ([] : List Int))) else (if t226 = 6 then ((impl_takeAll.f k l0 t227 2).bind fun bt251 => (if bt251.2 ≥ 0 then (if 0 < (bt251.1.length : Int) then (if 1 < (bt251.1.length : Int) then (impl_TakeNode.j0 k bt251.2 (rd bt251.1 0) t226 (⟨#[]⟩ : ByteArray) 0 0 (rd bt251.1 1) false ([] : List Int)) else (none)) else (none)) else (impl_TakeNode.j0 k bt251.2 0 t226 (⟨#[]⟩ : ByteArray) 0 0 0 false ([] : List Int)))) else (impl_TakeNode.j0 k t227 0 t226 (⟨#[]⟩ : ByteArray) 0 0 0 false ([] : List Int))))))))) = some (r1, r2, r3, r4, r5, r6, r7, r8) := H
 have A3 := Aside0.mk A30
 clear A30
 by_cases c4 : t227 < 0
 ·rw [if_pos c4] at H
  have c4b0 : decide (t227 < 0) = true := decide_eq_true c4
  clear c4
  simp only [Option.some.injEq, Prod.mk.injEq] at H
  obtain ⟨rfl, rfl, rfl, rfl, rfl, rfl, rfl, rfl⟩ := H
  go_enter Try.func52, Try.ntmps52
  go_wp2_with (first | ((with_reducible refine gate_dst (N := 4) rfl ?_); refine box_event ?hg (N := 4) ?hd (cs := #[.int .i64 0, .string (⟨#[]⟩ : ByteArray), .int .i64 0, .int .i64 0, .int .i64 0, .bool false, .slice none 0 0]) (t := 33) ?hr ?_; (case hd => rfl); (case hg => rfl); (case hr => first | (go_simp; done) | (go_simp; rfl)); intro gb225 hg w5 hbox hb; have n0_ := Aside0.mk (below_step bA hb); have n1_ := Aside0.mk (hbox); have n2_ := Aside0.mk ((by rw [hg]; exact (below_size bA) : w.heap.size ≤ gb225)); have n3_ := Aside0.mk ((by rw [hg]; exact (below_size bA) : w.heap.size ≤ gb225)); clear HB; have HB := n0_; have BK225 := n1_; have GW225 := n2_; have GE225 := n3_; clear n0_ n1_ n2_ n3_; clear hb hbox hg) | ((with_reducible refine gate_callee (f := 101) rfl ?_); refine goesL_ (some 14) rfl rfl Try.func101 (by kernel_rfl) rfl #[.slice A0 l0.length c0, .int .i64 a1] rfl aL ?_; (with_reducible refine (impl_TakeNum.calls k _ _ l0 a1 t226 t227 _ ?side1 ?side2 A3.out).mono ?_); (case side1 => exact cA); (case side2 => exact HC0.out); rintro e w' ⟨rfl, ⟨nd, rfl⟩⟩; refine ⟨_, rfl, ?_⟩; (try (rw [drewN_self w5]; generalize hq_ : World.drewN w5 _ = w5; have n0_ : Aside0 (w5.heap[gb225]? = some (.cells #[.int .i64 0, .string (⟨#[]⟩ : ByteArray), .int .i64 0, .int .i64 0, .int .i64 0, .bool false, .slice none 0 0] 33 (0, 0))) := ⟨by rw [← hq_]; exact (by (with_reducible repeat (first | refine blk_drewN ?_ _ | refine blk_drew ?_ | refine blk_alloc ?_ _)); exact BK225.out)⟩; have n1_ : Aside0 (Below w.heap.size w w5) := ⟨by rw [← hq_]; exact bA⟩; clear BK225 HB hq_; have BK225 := n0_; have HB := n1_; clear n0_ n1_)); obtain ⟨⟨hcz6_0, hcz6_1, hcz6_2, hcz6_3, hcz6_4, hcz6_5, hcz6_6⟩, hfz6_0, hfz6_1, hfz6_2, hfz6_3, hfz6_4, hfz6_5, hfz6_6⟩ := Own.c7 BK225.out) | ((with_reducible refine gate_store (t := 33) (p := 4) rfl ?_); refine store_event (t := 33) (p := 4) (v := ?vo_w7) (w1 := (((((((w5.setCell ⟨gb225, 0, none⟩ (.int .i64 0)).setCell ⟨gb225, 1, none⟩ (.string (⟨#[]⟩ : ByteArray))).setCell ⟨gb225, 2, none⟩ (.int .i64 0)).setCell ⟨gb225, 3, none⟩ (.int .i64 0)).setCell ⟨gb225, 4, none⟩ (.int .i64 0)).setCell ⟨gb225, 5, none⟩ (.bool false)).setCell ⟨gb225, 6, none⟩ (.slice none 0 0))) ?hg ?ho ?hn ?hr ?_; (case ho => rfl); (case hg => rfl); (case hn => rfl); (case hr => first | (go_simp; done) | (go_simp; rfl)); intro w7 hw; have n0_ : Aside0 (w7.heap[gb225]? = some (.cells #[.int .i64 0, .string (⟨#[]⟩ : ByteArray), .int .i64 0, .int .i64 0, .int .i64 0, .bool false, .slice none 0 0] 33 (0, 0))) := ⟨(by rw [hw]; exact (by exact put7 BK225.out))⟩; have n1_ : Aside0 (Below w.heap.size w w7) := ⟨(by rw [hw]; exact bA)⟩; clear hw; clear BK225; clear HB; have BK225 := n0_; have HB := n1_; clear n0_ n1_))
  refine bodyPost_ret (results_ct rfl _ _ gb225 33 #[.int .i64 0, .string (⟨#[]⟩ : ByteArray), .int .i64 0, .int .i64 0, .int .i64 0, .bool false, .slice none 0 0] (0, 0) _ rfl (by (with_reducible repeat (first | refine blk_drewN ?_ _ | refine blk_drew ?_ | refine blk_alloc ?_ _)); exact BK225.out) Try.underlying33 rfl (by kernel_rfl)) rfl ?_
  exact ⟨.slice none 0 0, rE, by first | exact Kd.R_nil _ _ _ _ _ | exact Kd.N_nil _ _ _ _ _ | exact Kd.V_nil _ _ _ _ _ | exact Kd.Q_nil _ _ _ _ _ | exact Kd.S_nil _ _ _ _ _, bA⟩
 ·rw [if_neg c4] at H
  have c4b0 : decide (t227 < 0) = false := decide_eq_false c4
  clear c4
  have HC8 := Aside0.mk H
  clear H
  go_enter Try.func52, Try.ntmps52
  go_upto_block 0 with (first | ((with_reducible refine gate_dst (N := 4) rfl ?_); refine box_event ?hg (N := 4) ?hd (cs := #[.int .i64 0, .string (⟨#[]⟩ : ByteArray), .int .i64 0, .int .i64 0, .int .i64 0, .bool false, .slice none 0 0]) (t := 33) ?hr ?_; (case hd => rfl); (case hg => rfl); (case hr => first | (go_simp; done) | (go_simp; rfl)); intro gb225 hg w9 hbox hb; have n0_ := Aside0.mk (below_step bA hb); have n1_ := Aside0.mk (hbox); have n2_ := Aside0.mk ((by rw [hg]; exact (below_size bA) : w.heap.size ≤ gb225)); have n3_ := Aside0.mk ((by rw [hg]; exact (below_size bA) : w.heap.size ≤ gb225)); clear HB; have HB := n0_; have BK225 := n1_; have GW225 := n2_; have GE225 := n3_; clear n0_ n1_ n2_ n3_; clear hb hbox hg) | ((with_reducible refine gate_callee (f := 101) rfl ?_); refine goesL_ (some 14) rfl rfl Try.func101 (by kernel_rfl) rfl #[.slice A0 l0.length c0, .int .i64 a1] rfl aL ?_; (with_reducible refine (impl_TakeNum.calls k _ _ l0 a1 t226 t227 _ ?side1 ?side2 A3.out).mono ?_); (case side1 => exact cA); (case side2 => exact HC0.out); rintro e w' ⟨rfl, ⟨nd, rfl⟩⟩; refine ⟨_, rfl, ?_⟩; (try (rw [drewN_self w9]; generalize hq_ : World.drewN w9 _ = w9; have n0_ : Aside0 (w9.heap[gb225]? = some (.cells #[.int .i64 0, .string (⟨#[]⟩ : ByteArray), .int .i64 0, .int .i64 0, .int .i64 0, .bool false, .slice none 0 0] 33 (0, 0))) := ⟨by rw [← hq_]; exact (by (with_reducible repeat (first | refine blk_drewN ?_ _ | refine blk_drew ?_ | refine blk_alloc ?_ _)); exact BK225.out)⟩; have n1_ : Aside0 (Below w.heap.size w w9) := ⟨by rw [← hq_]; exact bA⟩; clear BK225 HB hq_; have BK225 := n0_; have HB := n1_; clear n0_ n1_))) | ((with_reducible refine gate_dst (N := 8) rfl ?_); refine box_event ?hg (N := 8) ?hd (cs := #[.int .i64 0, .string (⟨#[]⟩ : ByteArray), .int .i64 0, .int .i64 0, .int .i64 0, .bool false, .slice none 0 0]) (t := 33) ?hr ?_; (case hd => rfl); (case hg => rfl); (case hr => first | (go_simp; done) | (go_simp; rfl)); intro gb228 hg w10 hbox hb; have n0_ := Aside0.mk (blk_below (g := gb225) (o := .cells #[.int .i64 0, .string (⟨#[]⟩ : ByteArray), .int .i64 0, .int .i64 0, .int .i64 0, .bool false, .slice none 0 0] 33 (0, 0)) (by (with_reducible repeat (first | refine blk_drewN ?_ _ | refine blk_drew ?_ | refine blk_alloc ?_ _)); exact BK225.out) hb); have n1_ := Aside0.mk (below_step bA hb); have n2_ := Aside0.mk (hbox); have n3_ := Aside0.mk ((by rw [hg]; exact (below_size bA) : w.heap.size ≤ gb228)); have n4_ := Aside0.mk ((by rw [hg]; exact (below_size bA) : w.heap.size ≤ gb228)); have n5_ := Aside0.mk ((by rw [hg]; exact Nat.ne_of_lt (blk_lt (g := gb225) (o := .cells #[.int .i64 0, .string (⟨#[]⟩ : ByteArray), .int .i64 0, .int .i64 0, .int .i64 0, .bool false, .slice none 0 0] 33 (0, 0)) (by (with_reducible repeat (first | refine blk_drewN ?_ _ | refine blk_drew ?_ | refine blk_alloc ?_ _)); exact BK225.out)) : gb225 ≠ gb228)); have n6_ := Aside0.mk ((by rw [hg]; exact Nat.ne_of_gt (blk_lt (g := gb225) (o := .cells #[.int .i64 0, .string (⟨#[]⟩ : ByteArray), .int .i64 0, .int .i64 0, .int .i64 0, .bool false, .slice none 0 0] 33 (0, 0)) (by (with_reducible repeat (first | refine blk_drewN ?_ _ | refine blk_drew ?_ | refine blk_alloc ?_ _)); exact BK225.out)) : gb228 ≠ gb225)); clear BK225; clear HB; have BK225 := n0_; have HB := n1_; have BK228 := n2_; have GW228 := n3_; have GE228 := n4_; have NB225_228 := n5_; have NB228_225 := n6_; clear n0_ n1_ n2_ n3_ n4_ n5_ n6_; clear hb hbox hg; have hnb11 := NB228_225.out; have hnc11 := NB225_228.out; obtain ⟨⟨hcz12_0, hcz12_1, hcz12_2, hcz12_3, hcz12_4, hcz12_5, hcz12_6⟩, hfz12_0, hfz12_1, hfz12_2, hfz12_3, hfz12_4, hfz12_5, hfz12_6⟩ := Own.c7 BK228.out) | ((with_reducible refine gate_store (t := 33) (p := 8) rfl ?_); refine store_event (t := 33) (p := 8) (v := ?vo_w13) (w1 := (((((((w10.setCell ⟨gb228, 0, none⟩ (.int .i64 t226)).setCell ⟨gb228, 1, none⟩ (.string (⟨#[]⟩ : ByteArray))).setCell ⟨gb228, 2, none⟩ (.int .i64 0)).setCell ⟨gb228, 3, none⟩ (.int .i64 0)).setCell ⟨gb228, 4, none⟩ (.int .i64 0)).setCell ⟨gb228, 5, none⟩ (.bool false)).setCell ⟨gb228, 6, none⟩ (.slice none 0 0))) ?hg ?ho ?hn ?hr ?_; (case ho => rfl); (case hg => rfl); (case hn => rfl); (case hr => first | (go_simp; done) | (go_simp; rfl)); intro w13 hw; have n0_ : Aside0 (w13.heap[gb225]? = some (.cells #[.int .i64 0, .string (⟨#[]⟩ : ByteArray), .int .i64 0, .int .i64 0, .int .i64 0, .bool false, .slice none 0 0] 33 (0, 0))) := ⟨(by rw [hw]; exact (by (with_reducible repeat (first | refine blk_drewN ?_ _ | refine blk_drew ?_ | refine blk_alloc ?_ _)); refine blk_far ?_ NB225_228.out _; (with_reducible repeat (first | refine blk_drewN ?_ _ | refine blk_drew ?_ | refine blk_alloc ?_ _)); refine blk_far ?_ NB225_228.out _; (with_reducible repeat (first | refine blk_drewN ?_ _ | refine blk_drew ?_ | refine blk_alloc ?_ _)); refine blk_far ?_ NB225_228.out _; (with_reducible repeat (first | refine blk_drewN ?_ _ | refine blk_drew ?_ | refine blk_alloc ?_ _)); refine blk_far ?_ NB225_228.out _; (with_reducible repeat (first | refine blk_drewN ?_ _ | refine blk_drew ?_ | refine blk_alloc ?_ _)); refine blk_far ?_ NB225_228.out _; (with_reducible repeat (first | refine blk_drewN ?_ _ | refine blk_drew ?_ | refine blk_alloc ?_ _)); refine blk_far ?_ NB225_228.out _; (with_reducible repeat (first | refine blk_drewN ?_ _ | refine blk_drew ?_ | refine blk_alloc ?_ _)); refine blk_far ?_ NB225_228.out _; (with_reducible repeat (first | refine blk_drewN ?_ _ | refine blk_drew ?_ | refine blk_alloc ?_ _)); exact BK225.out))⟩; have n1_ : Aside0 (w13.heap[gb228]? = some (.cells #[.int .i64 t226, .string (⟨#[]⟩ : ByteArray), .int .i64 0, .int .i64 0, .int .i64 0, .bool false, .slice none 0 0] 33 (0, 0))) := ⟨(by rw [hw]; exact (by exact put7 BK228.out))⟩; have n2_ : Aside0 (Below w.heap.size w w13) := ⟨(by rw [hw]; exact bA)⟩; clear hw; clear BK225; clear BK228; clear HB; have BK225 := n0_; have BK228 := n1_; have HB := n2_; clear n0_ n1_ n2_))
  (try simp only [Act.put, List.setIfInBounds_toArray, List.set_cons_zero, List.set_cons_succ])
  go_cut [7, 10] (fun v7 v10 wc => ∃ (kq : Nat) (x7_7 : Int) (x10_7 : Int) (x229001_7 : ByteArray) (x229002_7 : Int) (x229003_7 : Int) (x229004_7 : Int) (x229006_7 : List Int) (u229006 : Value), v7 = .int .i64 x7_7 ∧ v10 = .int .i64 x10_7 ∧ Aside0 (impl_TakeNode.j0 kq x7_7 x10_7 t226 x229001_7 x229002_7 x229003_7 x229004_7 false x229006_7 = some (r1, r2, r3, r4, r5, r6, r7, r8)) ∧ Aside0 (kq ≤ k) ∧ Aside0 (Kd.R (Kd.int .i64) 3 wc w.heap.size (fun _ => True) u229006 x229006_7) ∧ Aside0 (wc.heap[gb225]? = some (.cells #[.int .i64 0, .string (⟨#[]⟩ : ByteArray), .int .i64 0, .int .i64 0, .int .i64 0, .bool false, (.slice none 0 0)] 33 (0, 0))) ∧ Aside0 (wc.heap[gb228]? = some (.cells #[.int .i64 t226, .string x229001_7, .int .i64 x229002_7, .int .i64 x229003_7, .int .i64 x229004_7, .bool false, u229006] 33 (0, 0))) ∧ Aside0 (Below w.heap.size w wc))
  case first =>
   have H := HC8.out
   clear HC8
   by_cases c14 : t226 = 0
   ·rw [if_pos c14] at H
    have c14b0 : (t226 == 0) = true := beq_iff_eq.mpr c14
    have c14b1 : (t226 != 0) = false := bne_eq_false_iff_eq.mpr c14
    clear c14
    (first | rw [c14b0] | (simp only [i64_w, i32_w]; rw [c14b0]) | skip)
    replace H := Option.bind_eq_some_iff.mp H
    obtain ⟨⟨t229, t230⟩, A150, H⟩ := H
    replace H : (impl_TakeNode.j0 k t230 0 t226 t229 0 0 0 false ([] : List Int)) = some (r1, r2, r3, r4, r5, r6, r7, r8) := H
    have A15 := Aside0.mk A150
    clear A150
    have H' := Aside0.mk H
    clear H
    go_wp2_with (first | ((with_reducible refine gate_callee (f := 102) rfl ?_); refine goesL_ (some 28) rfl rfl Try.func102 (by kernel_rfl) rfl #[.slice A0 l0.length c0, .int .i64 t227] rfl aL ?_; (with_reducible refine (impl_TakeWord.calls k _ _ l0 t227 t229 t230 _ ?side1 ?side2 A15.out).mono ?_); (case side1 => exact cA); (case side2 => exact HC0.out); rintro e w' ⟨rfl, ⟨nd, rfl⟩⟩; refine ⟨_, rfl, ?_⟩; (try (rw [drewN_self w13]; generalize hq_ : World.drewN w13 _ = w13; have n0_ : Aside0 (w13.heap[gb225]? = some (.cells #[.int .i64 0, .string (⟨#[]⟩ : ByteArray), .int .i64 0, .int .i64 0, .int .i64 0, .bool false, .slice none 0 0] 33 (0, 0))) := ⟨by rw [← hq_]; exact (by (with_reducible repeat (first | refine blk_drewN ?_ _ | refine blk_drew ?_ | refine blk_alloc ?_ _)); exact BK225.out)⟩; have n1_ : Aside0 (w13.heap[gb228]? = some (.cells #[.int .i64 t226, .string (⟨#[]⟩ : ByteArray), .int .i64 0, .int .i64 0, .int .i64 0, .bool false, .slice none 0 0] 33 (0, 0))) := ⟨by rw [← hq_]; exact (by (with_reducible repeat (first | refine blk_drewN ?_ _ | refine blk_drew ?_ | refine blk_alloc ?_ _)); exact BK228.out)⟩; have n2_ : Aside0 (Below w.heap.size w w13) := ⟨by rw [← hq_]; exact bA⟩; clear BK225 BK228 HB hq_; have BK225 := n0_; have BK228 := n1_; have HB := n2_; clear n0_ n1_ n2_)); have hnb16 := NB228_225.out; have hnc16 := NB225_228.out; obtain ⟨⟨hcz17_0, hcz17_1, hcz17_2, hcz17_3, hcz17_4, hcz17_5, hcz17_6⟩, hfz17_0, hfz17_1, hfz17_2, hfz17_3, hfz17_4, hfz17_5, hfz17_6⟩ := Own.c7 BK228.out))
    go_meet
    case rel => exact ⟨_, (t230), (0), (t229), (0), (0), (0), (([] : List Int)), (.slice none 0 0), rF, rF, H', ⟨by first | omega | exact Nat.le_refl _⟩, ⟨by first | exact Kd.R_nil _ _ _ _ _ | exact Kd.N_nil _ _ _ _ _ | exact Kd.V_nil _ _ _ _ _ | exact Kd.Q_nil _ _ _ _ _ | exact Kd.S_nil _ _ _ _ _⟩, ⟨by (with_reducible repeat (first | refine blk_drewN ?_ _ | refine blk_drew ?_ | refine blk_alloc ?_ _)); refine blk_far ?_ NB225_228.out _; (with_reducible repeat (first | refine blk_drewN ?_ _ | refine blk_drew ?_ | refine blk_alloc ?_ _)); exact BK225.out⟩, ⟨by (with_reducible repeat (first | refine blk_drewN ?_ _ | refine blk_drew ?_ | refine blk_alloc ?_ _)); refine blk_put (cs := #[.int .i64 t226, .string (⟨#[]⟩ : ByteArray), .int .i64 0, .int .i64 0, .int .i64 0, .bool false, .slice none 0 0]) ?_ 1 _ rfl; (with_reducible repeat (first | refine blk_drewN ?_ _ | refine blk_drew ?_ | refine blk_alloc ?_ _)); exact BK228.out⟩, ⟨bA⟩⟩
   ·rw [if_neg c14] at H
    have c14b0 : (t226 == 0) = false := beq_eq_false_iff_ne.mpr c14
    have c14b1 : (t226 != 0) = true := bne_iff_ne.mpr c14
    (first | rw [c14b0] | (simp only [i64_w, i32_w]; rw [c14b0]) | skip)
    by_cases c18 : t226 = 1
    ·rw [if_pos c18] at H
     have c18b0 : (t226 == 1) = true := beq_iff_eq.mpr c18
     have c18b1 : (t226 != 1) = false := bne_eq_false_iff_eq.mpr c18
     clear c18
     replace H := Option.bind_eq_some_iff.mp H
     obtain ⟨⟨t231, t232⟩, A190, H⟩ := H
     replace H : (if t232 ≥ 0 then (if 0 < (t231.length : Int) then (if 1 < (t231.length : Int) then (if 2 < (t231.length : Int) then (if 3 < (t231.length : Int) then (impl_TakeNode.j0 k t232 (rd t231 2) t226 (⟨#[]⟩ : ByteArray) (rd t231 0) (rd t231 1) (rd t231 3) false ([] : List Int)) else (none)) else (none)) else (none)) else (none)) else (impl_TakeNode.j0 k t232 0 t226 (⟨#[]⟩ : ByteArray) 0 0 0 false ([] : List Int))) = some (r1, r2, r3, r4, r5, r6, r7, r8) := H
     have A19 := Aside0.mk A190
     clear A190
     by_cases c20 : t232 ≥ 0
     ·rw [if_pos c20] at H
      have c20b0 : decide (0 ≤ t232) = true := decide_eq_true c20
      clear c20
      by_cases c21 : 0 < (t231.length : Int)
      ·rw [if_pos c21] at H
       have c21b0 : decide (0 < (t231.length : Int)) = true := decide_eq_true c21
       have c21b1 : decide (0 < t231.length) = true := decide_eq_true (by omega)
       clear c21
       by_cases c22 : 1 < (t231.length : Int)
       ·rw [if_pos c22] at H
        have c22b0 : decide (1 < (t231.length : Int)) = true := decide_eq_true c22
        have c22b1 : decide (1 < t231.length) = true := decide_eq_true (by omega)
        clear c22
        by_cases c23 : 2 < (t231.length : Int)
        ·rw [if_pos c23] at H
         have c23b0 : decide (2 < (t231.length : Int)) = true := decide_eq_true c23
         have c23b1 : decide (2 < t231.length) = true := decide_eq_true (by omega)
         clear c23
         by_cases c24 : 3 < (t231.length : Int)
         ·rw [if_pos c24] at H
          have c24b0 : decide (3 < (t231.length : Int)) = true := decide_eq_true c24
          have c24b1 : decide (3 < t231.length) = true := decide_eq_true (by omega)
          clear c24
          have H' := Aside0.mk H
          clear H
          try go_wp2_with (first | ((with_reducible refine gate_callee (f := 103) rfl ?_); refine goesL_ (some 37) rfl rfl Try.func103 (by kernel_rfl) rfl #[.slice A0 l0.length c0, .int .i64 t227, .int .i64 4] rfl aL ?_; (with_reducible refine (impl_takeAll.calls k _ _ l0 t227 4 t231 t232 _ ?side1 ?side2 A19.out).mono ?_); (case side1 => exact cA); (case side2 => exact HC0.out); rintro e w25 ⟨v233, rfl, ho0, hb⟩; refine ⟨_, rfl, ?_⟩; have n0_ := Aside0.mk (Kd.R_lower ho0 (below_size bA)); have n1_ := Aside0.mk (blk_below (g := gb225) (o := .cells #[.int .i64 0, .string (⟨#[]⟩ : ByteArray), .int .i64 0, .int .i64 0, .int .i64 0, .bool false, .slice none 0 0] 33 (0, 0)) (by (with_reducible repeat (first | refine blk_drewN ?_ _ | refine blk_drew ?_ | refine blk_alloc ?_ _)); exact BK225.out) hb); have n2_ := Aside0.mk (blk_below (g := gb228) (o := .cells #[.int .i64 t226, .string (⟨#[]⟩ : ByteArray), .int .i64 0, .int .i64 0, .int .i64 0, .bool false, .slice none 0 0] 33 (0, 0)) (by (with_reducible repeat (first | refine blk_drewN ?_ _ | refine blk_drew ?_ | refine blk_alloc ?_ _)); exact BK228.out) hb); have n3_ := Aside0.mk (below_step bA hb); clear BK225; clear BK228; clear HB; have HO234 := n0_; have BK225 := n1_; have BK228 := n2_; have HB := n3_; clear n0_ n1_ n2_ n3_; (try clear hb); (try clear hb2); (try clear hk); (try clear hi); (try clear ho0)))
          have n0_ := Aside0.mk (Kd.R_drew HO234.out)
          have n1_ := Aside0.mk (blk_drew BK225.out)
          have n2_ := Aside0.mk (blk_drew BK228.out)
          have n3_ := Aside0.mk (below_drew1 HB.out)
          clear HO234
          clear BK225
          clear BK228
          clear HB
          have HO234 := n0_
          have BK225 := n1_
          have BK228 := n2_
          have HB := n3_
          clear n0_ n1_ n2_ n3_
          obtain ⟨Ao27, co27, eo27⟩ := Kd.R_slice HO234.out
          (first | subst eo27 | (injection eo27 with f1_ f2_ f3_; have f4_ := f1_.symm; have f5_ := f3_.symm; clear f1_ f2_ f3_; subst f4_; subst f5_))
          have p235 : 0 ≤ (0 : Int) := (by omega)
          have q235 : 0 < (t231.length : Int) := of_decide_eq_true (by assumption)
          obtain ⟨ad235, e235, hx235_0⟩ := Kd.at_int (Kd.R_reads' HO234.out).2.2 0 p235 q235
          cases e235
          have qi235 : (0 < t231.length) = True := eq_true (by omega)
          (try rw [show ((0 : Int)).toNat = 0 from rfl] at hx235_0)
          (try rw [Addr.add_zero'] at hx235_0)
          replace p235 := eq_true p235
          replace q235 := eq_true q235
          have p236 : 0 ≤ (1 : Int) := (by omega)
          have q236 : 1 < (t231.length : Int) := of_decide_eq_true (by assumption)
          obtain ⟨ad236, e236, hx236_0⟩ := Kd.at_int (Kd.R_reads' HO234.out).2.2 1 p236 q236
          obtain rfl : ad235 = ad236 := (by injection e236)
          (try simp only [show (1 : Int).toNat = 1 from rfl, Nat.reduceMul, Nat.reduceEqDiff, Go.Addr.add, ↓reduceIte] at hx236_0)
          have qi236 : (1 < t231.length) = True := eq_true (by omega)
          (try rw [show ((1 : Int)).toNat = 1 from rfl] at hx236_0)
          replace p236 := eq_true p236
          replace q236 := eq_true q236
          have p237 : 0 ≤ (2 : Int) := (by omega)
          have q237 : 2 < (t231.length : Int) := of_decide_eq_true (by assumption)
          obtain ⟨ad237, e237, hx237_0⟩ := Kd.at_int (Kd.R_reads' HO234.out).2.2 2 p237 q237
          obtain rfl : ad235 = ad237 := (by injection e237)
          (try simp only [show (2 : Int).toNat = 2 from rfl, Nat.reduceMul, Nat.reduceEqDiff, Go.Addr.add, ↓reduceIte] at hx237_0)
          have qi237 : (2 < t231.length) = True := eq_true (by omega)
          (try rw [show ((2 : Int)).toNat = 2 from rfl] at hx237_0)
          replace p237 := eq_true p237
          replace q237 := eq_true q237
          have p238 : 0 ≤ (3 : Int) := (by omega)
          have q238 : 3 < (t231.length : Int) := of_decide_eq_true (by assumption)
          obtain ⟨ad238, e238, hx238_0⟩ := Kd.at_int (Kd.R_reads' HO234.out).2.2 3 p238 q238
          obtain rfl : ad235 = ad238 := (by injection e238)
          (try simp only [show (3 : Int).toNat = 3 from rfl, Nat.reduceMul, Nat.reduceEqDiff, Go.Addr.add, ↓reduceIte] at hx238_0)
          have qi238 : (3 < t231.length) = True := eq_true (by omega)
          (try rw [show ((3 : Int)).toNat = 3 from rfl] at hx238_0)
          replace p238 := eq_true p238
          replace q238 := eq_true q238
          refine start_ (n := 19) (S := fun w' => w'.cell? ad235 = some (.int .i64 (rd t231 0)) ∧ w'.cell? ⟨ad235.block, ad235.off + 1, none⟩ = some (.int .i64 (rd t231 1)) ∧ w'.cell? ⟨ad235.block, ad235.off + 2, none⟩ = some (.int .i64 (rd t231 2)) ∧ w'.cell? ⟨ad235.block, ad235.off + 3, none⟩ = some (.int .i64 (rd t231 3))) (ds := []) #[false, false, false, false, false, false, false, false, false, false, false, false, false, false, false, false, false, false, false] (by kernel_rfl) rfl rfl ⟨hx235_0, hx236_0, hx237_0, hx238_0⟩ (fun hHeld => ?_); refine with_tabW impl_TakeNode.tab13 impl_TakeNode.bits13 (fun HT_ HW_ => ?_)
          generalize w25.drew = w26 at HO234 BK225 BK228 HB hx235_0 hx236_0 hx237_0 hx238_0 hHeld ⊢
          refine pt_ 0 42 ?_
          refine pt_ 1 43 ?_
          refine pt_ 3 45 ?_
          refine pt_ 4 46 ?_
          refine pt_ 6 48 ?_
          refine pt_ 7 49 ?_
          refine pt_ 9 51 ?_
          refine pt_ 10 52 ?_
          refine tt_ 2 44 ?_
          refine pt_ 12 54 ?_
          refine tt_ 5 47 ?_
          refine tt_ 8 50 ?_
          refine tt_ 11 53 ?_
          refine one_ (i := 13) (N := none) #[true, true, true, true, true, true, true, true, true, true, true, true, true, true, false, false, false, false, false] rfl rfl (one_of HT_.out (by kernel_rfl)) (by decide) (fun K hK => ?_)
          have hs28 : w26.cell? ⟨gb228, 2, none⟩ = some (.int .i64 0) := (blk_cell BK228.out 2).trans rfl
          have hfs28 := blk_frozen BK228.out 2
          have hns28_0 := NB225_228.out
          have hms28_0 := NB228_225.out
          refine skip_ (w1 := ?_) (by rfl) rfl ?_ ?_
          rotate_left
          ·go_simp
           rfl
          refine hK.out _ _ ⟨((cell_far (p := ⟨gb228, _, none⟩) (by first | exact Kd.own_blk (Kd.R_ne HO234.out BK228.out (by decide)) | (rw [add_block]; exact Kd.own_blk (Kd.R_ne HO234.out BK228.out (by decide))) | (show (Addr.add _ _).block ≠ _; rw [add_block]; exact Kd.own_blk (Kd.R_ne HO234.out BK228.out (by decide))) | (dsimp only; exact Kd.own_blk (Kd.R_ne HO234.out BK228.out (by decide)))) _).trans (hHeld.1)), ((cell_far (p := ⟨gb228, _, none⟩) (by first | exact Kd.own_blk (Kd.R_ne HO234.out BK228.out (by decide)) | (rw [add_block]; exact Kd.own_blk (Kd.R_ne HO234.out BK228.out (by decide))) | (show (Addr.add _ _).block ≠ _; rw [add_block]; exact Kd.own_blk (Kd.R_ne HO234.out BK228.out (by decide))) | (dsimp only; exact Kd.own_blk (Kd.R_ne HO234.out BK228.out (by decide)))) _).trans (hHeld.2.1)), ((cell_far (p := ⟨gb228, _, none⟩) (by first | exact Kd.own_blk (Kd.R_ne HO234.out BK228.out (by decide)) | (rw [add_block]; exact Kd.own_blk (Kd.R_ne HO234.out BK228.out (by decide))) | (show (Addr.add _ _).block ≠ _; rw [add_block]; exact Kd.own_blk (Kd.R_ne HO234.out BK228.out (by decide))) | (dsimp only; exact Kd.own_blk (Kd.R_ne HO234.out BK228.out (by decide)))) _).trans (hHeld.2.2.1)), ((cell_far (p := ⟨gb228, _, none⟩) (by first | exact Kd.own_blk (Kd.R_ne HO234.out BK228.out (by decide)) | (rw [add_block]; exact Kd.own_blk (Kd.R_ne HO234.out BK228.out (by decide))) | (show (Addr.add _ _).block ≠ _; rw [add_block]; exact Kd.own_blk (Kd.R_ne HO234.out BK228.out (by decide))) | (dsimp only; exact Kd.own_blk (Kd.R_ne HO234.out BK228.out (by decide)))) _).trans (hHeld.2.2.2))⟩ (fun hHeld => ?_)
          clear hK K
          refine pt_ 14 55 ?_
          refine one_ (i := 15) (N := none) #[true, true, true, true, true, true, true, true, true, true, true, true, true, true, true, true, false, false, false] rfl rfl (one_of HT_.out (by kernel_rfl)) (by decide) (fun K hK => ?_)
          have hs29 : w26.cell? ⟨gb228, 3, none⟩ = some (.int .i64 0) := (blk_cell BK228.out 3).trans rfl
          have hfs29 := blk_frozen BK228.out 3
          have hns29_0 := NB225_228.out
          have hms29_0 := NB228_225.out
          refine skip_ (w1 := ?_) (by rfl) rfl ?_ ?_
          rotate_left
          ·go_simp
           rfl
          refine hK.out _ _ ⟨((cell_far (p := ⟨gb228, _, none⟩) (by first | exact Kd.own_blk (Kd.R_ne HO234.out BK228.out (by decide)) | (rw [add_block]; exact Kd.own_blk (Kd.R_ne HO234.out BK228.out (by decide))) | (show (Addr.add _ _).block ≠ _; rw [add_block]; exact Kd.own_blk (Kd.R_ne HO234.out BK228.out (by decide))) | (dsimp only; exact Kd.own_blk (Kd.R_ne HO234.out BK228.out (by decide)))) _).trans (hHeld.1)), ((cell_far (p := ⟨gb228, _, none⟩) (by first | exact Kd.own_blk (Kd.R_ne HO234.out BK228.out (by decide)) | (rw [add_block]; exact Kd.own_blk (Kd.R_ne HO234.out BK228.out (by decide))) | (show (Addr.add _ _).block ≠ _; rw [add_block]; exact Kd.own_blk (Kd.R_ne HO234.out BK228.out (by decide))) | (dsimp only; exact Kd.own_blk (Kd.R_ne HO234.out BK228.out (by decide)))) _).trans (hHeld.2.1)), ((cell_far (p := ⟨gb228, _, none⟩) (by first | exact Kd.own_blk (Kd.R_ne HO234.out BK228.out (by decide)) | (rw [add_block]; exact Kd.own_blk (Kd.R_ne HO234.out BK228.out (by decide))) | (show (Addr.add _ _).block ≠ _; rw [add_block]; exact Kd.own_blk (Kd.R_ne HO234.out BK228.out (by decide))) | (dsimp only; exact Kd.own_blk (Kd.R_ne HO234.out BK228.out (by decide)))) _).trans (hHeld.2.2.1)), ((cell_far (p := ⟨gb228, _, none⟩) (by first | exact Kd.own_blk (Kd.R_ne HO234.out BK228.out (by decide)) | (rw [add_block]; exact Kd.own_blk (Kd.R_ne HO234.out BK228.out (by decide))) | (show (Addr.add _ _).block ≠ _; rw [add_block]; exact Kd.own_blk (Kd.R_ne HO234.out BK228.out (by decide))) | (dsimp only; exact Kd.own_blk (Kd.R_ne HO234.out BK228.out (by decide)))) _).trans (hHeld.2.2.2))⟩ (fun hHeld => ?_)
          clear hK K
          refine pt_ 16 10 ?_
          refine pt_ 17 56 ?_
          refine one_ (i := 18) (N := none) #[true, true, true, true, true, true, true, true, true, true, true, true, true, true, true, true, true, true, true] rfl rfl (one_of HT_.out (by kernel_rfl)) (by decide) (fun K hK => ?_)
          have hs30 : w26.cell? ⟨gb228, 4, none⟩ = some (.int .i64 0) := (blk_cell BK228.out 4).trans rfl
          have hfs30 := blk_frozen BK228.out 4
          have hns30_0 := NB225_228.out
          have hms30_0 := NB228_225.out
          refine skip_ (w1 := ?_) (by rfl) rfl ?_ ?_
          rotate_left
          ·go_simp
           rfl
          refine hK.out _ _ ⟨((cell_far (p := ⟨gb228, _, none⟩) (by first | exact Kd.own_blk (Kd.R_ne HO234.out BK228.out (by decide)) | (rw [add_block]; exact Kd.own_blk (Kd.R_ne HO234.out BK228.out (by decide))) | (show (Addr.add _ _).block ≠ _; rw [add_block]; exact Kd.own_blk (Kd.R_ne HO234.out BK228.out (by decide))) | (dsimp only; exact Kd.own_blk (Kd.R_ne HO234.out BK228.out (by decide)))) _).trans (hHeld.1)), ((cell_far (p := ⟨gb228, _, none⟩) (by first | exact Kd.own_blk (Kd.R_ne HO234.out BK228.out (by decide)) | (rw [add_block]; exact Kd.own_blk (Kd.R_ne HO234.out BK228.out (by decide))) | (show (Addr.add _ _).block ≠ _; rw [add_block]; exact Kd.own_blk (Kd.R_ne HO234.out BK228.out (by decide))) | (dsimp only; exact Kd.own_blk (Kd.R_ne HO234.out BK228.out (by decide)))) _).trans (hHeld.2.1)), ((cell_far (p := ⟨gb228, _, none⟩) (by first | exact Kd.own_blk (Kd.R_ne HO234.out BK228.out (by decide)) | (rw [add_block]; exact Kd.own_blk (Kd.R_ne HO234.out BK228.out (by decide))) | (show (Addr.add _ _).block ≠ _; rw [add_block]; exact Kd.own_blk (Kd.R_ne HO234.out BK228.out (by decide))) | (dsimp only; exact Kd.own_blk (Kd.R_ne HO234.out BK228.out (by decide)))) _).trans (hHeld.2.2.1)), ((cell_far (p := ⟨gb228, _, none⟩) (by first | exact Kd.own_blk (Kd.R_ne HO234.out BK228.out (by decide)) | (rw [add_block]; exact Kd.own_blk (Kd.R_ne HO234.out BK228.out (by decide))) | (show (Addr.add _ _).block ≠ _; rw [add_block]; exact Kd.own_blk (Kd.R_ne HO234.out BK228.out (by decide))) | (dsimp only; exact Kd.own_blk (Kd.R_ne HO234.out BK228.out (by decide)))) _).trans (hHeld.2.2.2))⟩ (fun hHeld => ?_)
          clear hK K
          refine done_ (done_of HT_.out (by kernel_rfl)) ?_
          try go_wp2
          go_meet
          case rel => exact ⟨_, (t232), (rd t231 2), ((⟨#[]⟩ : ByteArray)), (rd t231 0), (rd t231 1), (rd t231 3), (([] : List Int)), (.slice none 0 0), rF, rF, H', ⟨by first | omega | exact Nat.le_refl _⟩, ⟨by first | exact Kd.R_nil _ _ _ _ _ | exact Kd.N_nil _ _ _ _ _ | exact Kd.V_nil _ _ _ _ _ | exact Kd.Q_nil _ _ _ _ _ | exact Kd.S_nil _ _ _ _ _⟩, ⟨by (with_reducible repeat (first | refine blk_drewN ?_ _ | refine blk_drew ?_ | refine blk_alloc ?_ _)); refine blk_far ?_ NB225_228.out _; (with_reducible repeat (first | refine blk_drewN ?_ _ | refine blk_drew ?_ | refine blk_alloc ?_ _)); refine blk_far ?_ NB225_228.out _; (with_reducible repeat (first | refine blk_drewN ?_ _ | refine blk_drew ?_ | refine blk_alloc ?_ _)); refine blk_far ?_ NB225_228.out _; (with_reducible repeat (first | refine blk_drewN ?_ _ | refine blk_drew ?_ | refine blk_alloc ?_ _)); exact BK225.out⟩, ⟨by (with_reducible repeat (first | refine blk_drewN ?_ _ | refine blk_drew ?_ | refine blk_alloc ?_ _)); refine blk_put (cs := #[.int .i64 t226, .string (⟨#[]⟩ : ByteArray), .int .i64 (rd t231 0), .int .i64 (rd t231 1), .int .i64 0, .bool false, .slice none 0 0]) ?_ 4 _ rfl; (with_reducible repeat (first | refine blk_drewN ?_ _ | refine blk_drew ?_ | refine blk_alloc ?_ _)); refine blk_put (cs := #[.int .i64 t226, .string (⟨#[]⟩ : ByteArray), .int .i64 (rd t231 0), .int .i64 0, .int .i64 0, .bool false, .slice none 0 0]) ?_ 3 _ rfl; (with_reducible repeat (first | refine blk_drewN ?_ _ | refine blk_drew ?_ | refine blk_alloc ?_ _)); refine blk_put (cs := #[.int .i64 t226, .string (⟨#[]⟩ : ByteArray), .int .i64 0, .int .i64 0, .int .i64 0, .bool false, .slice none 0 0]) ?_ 2 _ rfl; (with_reducible repeat (first | refine blk_drewN ?_ _ | refine blk_drew ?_ | refine blk_alloc ?_ _)); exact BK228.out⟩, ⟨bA⟩⟩
         ·rw [if_neg c24] at H
          exact absurd H (by simp)
        ·rw [if_neg c23] at H
         exact absurd H (by simp)
       ·rw [if_neg c22] at H
        exact absurd H (by simp)
      ·rw [if_neg c21] at H
       exact absurd H (by simp)
     ·rw [if_neg c20] at H
      have c20b0 : decide (0 ≤ t232) = false := decide_eq_false c20
      clear c20
      have H' := Aside0.mk H
      clear H
      go_wp2_with (first | ((with_reducible refine gate_callee (f := 103) rfl ?_); refine goesL_ (some 37) rfl rfl Try.func103 (by kernel_rfl) rfl #[.slice A0 l0.length c0, .int .i64 t227, .int .i64 4] rfl aL ?_; (with_reducible refine (impl_takeAll.calls k _ _ l0 t227 4 t231 t232 _ ?side1 ?side2 A19.out).mono ?_); (case side1 => exact cA); (case side2 => exact HC0.out); rintro e w31 ⟨v233, rfl, ho0, hb⟩; refine ⟨_, rfl, ?_⟩; have n0_ := Aside0.mk (Kd.R_lower ho0 (below_size bA)); have n1_ := Aside0.mk (blk_below (g := gb225) (o := .cells #[.int .i64 0, .string (⟨#[]⟩ : ByteArray), .int .i64 0, .int .i64 0, .int .i64 0, .bool false, .slice none 0 0] 33 (0, 0)) (by (with_reducible repeat (first | refine blk_drewN ?_ _ | refine blk_drew ?_ | refine blk_alloc ?_ _)); exact BK225.out) hb); have n2_ := Aside0.mk (blk_below (g := gb228) (o := .cells #[.int .i64 t226, .string (⟨#[]⟩ : ByteArray), .int .i64 0, .int .i64 0, .int .i64 0, .bool false, .slice none 0 0] 33 (0, 0)) (by (with_reducible repeat (first | refine blk_drewN ?_ _ | refine blk_drew ?_ | refine blk_alloc ?_ _)); exact BK228.out) hb); have n3_ := Aside0.mk (below_step bA hb); clear BK225; clear BK228; clear HB; have HO234 := n0_; have BK225 := n1_; have BK228 := n2_; have HB := n3_; clear n0_ n1_ n2_ n3_; (try clear hb); (try clear hb2); (try clear hk); (try clear hi); (try clear ho0)))
      go_meet
      case rel => exact ⟨_, (t232), (0), ((⟨#[]⟩ : ByteArray)), (0), (0), (0), (([] : List Int)), (.slice none 0 0), rF, rF, H', ⟨by first | omega | exact Nat.le_refl _⟩, ⟨by first | exact Kd.R_nil _ _ _ _ _ | exact Kd.N_nil _ _ _ _ _ | exact Kd.V_nil _ _ _ _ _ | exact Kd.Q_nil _ _ _ _ _ | exact Kd.S_nil _ _ _ _ _⟩, ⟨by (with_reducible repeat (first | refine blk_drewN ?_ _ | refine blk_drew ?_ | refine blk_alloc ?_ _)); exact BK225.out⟩, ⟨by (with_reducible repeat (first | refine blk_drewN ?_ _ | refine blk_drew ?_ | refine blk_alloc ?_ _)); exact BK228.out⟩, ⟨bA⟩⟩
    ·rw [if_neg c18] at H
     have c18b0 : (t226 == 1) = false := beq_eq_false_iff_ne.mpr c18
     have c18b1 : (t226 != 1) = true := bne_iff_ne.mpr c18
     by_cases c32 : t226 = 2
     ·rw [if_pos c32] at H
      have c32b0 : (t226 == 2) = true := beq_iff_eq.mpr c32
      have c32b1 : (t226 != 2) = false := bne_eq_false_iff_eq.mpr c32
      clear c32
      replace H := Option.bind_eq_some_iff.mp H
      obtain ⟨⟨t239, t240⟩, A330, H⟩ := H
      replace H : (impl_TakeNode.j0 k t240 0 t226 (⟨#[]⟩ : ByteArray) 0 0 0 false t239) = some (r1, r2, r3, r4, r5, r6, r7, r8) := H
      have A33 := Aside0.mk A330
      clear A330
      have H' := Aside0.mk H
      clear H
      go_wp2_with (first | ((with_reducible refine gate_callee (f := 104) rfl ?_); refine goesL_ (some 62) rfl rfl Try.func104 (by kernel_rfl) rfl #[.slice A0 l0.length c0, .int .i64 t227] rfl aL ?_; (with_reducible refine (impl_TakeNums.calls k _ _ l0 t227 t239 t240 _ ?side1 ?side2 A33.out).mono ?_); (case side1 => exact cA); (case side2 => exact HC0.out); rintro e w34 ⟨v241, rfl, ho0, hb⟩; refine ⟨_, rfl, ?_⟩; have n0_ := Aside0.mk (Kd.R_lower ho0 (below_size bA)); have n1_ := Aside0.mk (blk_below (g := gb225) (o := .cells #[.int .i64 0, .string (⟨#[]⟩ : ByteArray), .int .i64 0, .int .i64 0, .int .i64 0, .bool false, .slice none 0 0] 33 (0, 0)) (by (with_reducible repeat (first | refine blk_drewN ?_ _ | refine blk_drew ?_ | refine blk_alloc ?_ _)); exact BK225.out) hb); have n2_ := Aside0.mk (blk_below (g := gb228) (o := .cells #[.int .i64 t226, .string (⟨#[]⟩ : ByteArray), .int .i64 0, .int .i64 0, .int .i64 0, .bool false, .slice none 0 0] 33 (0, 0)) (by (with_reducible repeat (first | refine blk_drewN ?_ _ | refine blk_drew ?_ | refine blk_alloc ?_ _)); exact BK228.out) hb); have n3_ := Aside0.mk (below_step bA hb); clear BK225; clear BK228; clear HB; have HO242 := n0_; have BK225 := n1_; have BK228 := n2_; have HB := n3_; clear n0_ n1_ n2_ n3_; (try clear hb); (try clear hb2); (try clear hk); (try clear hi); (try clear ho0); obtain ⟨Ao35, co35, eo35⟩ := Kd.R_slice HO242.out; subst eo35; have hnb36 := NB228_225.out; have hnc36 := NB225_228.out; obtain ⟨⟨hcz37_0, hcz37_1, hcz37_2, hcz37_3, hcz37_4, hcz37_5, hcz37_6⟩, hfz37_0, hfz37_1, hfz37_2, hfz37_3, hfz37_4, hfz37_5, hfz37_6⟩ := Own.c7 BK228.out))
      go_meet
      case rel => exact ⟨_, (t240), (0), ((⟨#[]⟩ : ByteArray)), (0), (0), (0), (t239), (.slice Ao35 t239.length co35), rF, rF, H', ⟨by first | omega | exact Nat.le_refl _⟩, ⟨by (with_reducible repeat (first | apply Kd.R_alloc | apply Kd.R_drewN | apply Kd.R_drew)); exact Kd.R_mono (Kd.R_far (p := ⟨gb228, 6, none⟩) (Kd.R_types HO242.out BK228.out (by decide)) (fun _ hk => hk.2) (.slice Ao35 t239.length co35)) (fun _ hk => trivial)⟩, ⟨by (with_reducible repeat (first | refine blk_drewN ?_ _ | refine blk_drew ?_ | refine blk_alloc ?_ _)); refine blk_far ?_ NB225_228.out _; (with_reducible repeat (first | refine blk_drewN ?_ _ | refine blk_drew ?_ | refine blk_alloc ?_ _)); exact BK225.out⟩, ⟨by (with_reducible repeat (first | refine blk_drewN ?_ _ | refine blk_drew ?_ | refine blk_alloc ?_ _)); refine blk_put (cs := #[.int .i64 t226, .string (⟨#[]⟩ : ByteArray), .int .i64 0, .int .i64 0, .int .i64 0, .bool false, .slice none 0 0]) ?_ 6 _ rfl; (with_reducible repeat (first | refine blk_drewN ?_ _ | refine blk_drew ?_ | refine blk_alloc ?_ _)); exact BK228.out⟩, ⟨bA⟩⟩
     ·rw [if_neg c32] at H
      have c32b0 : (t226 == 2) = false := beq_eq_false_iff_ne.mpr c32
      have c32b1 : (t226 != 2) = true := bne_iff_ne.mpr c32
      by_cases c38 : t226 = 3
      ·rw [if_pos c38] at H
       have c38b0 : (t226 == 3) = true := beq_iff_eq.mpr c38
       have c38b1 : (t226 != 3) = false := bne_eq_false_iff_eq.mpr c38
       clear c38
       replace H := Option.bind_eq_some_iff.mp H
       obtain ⟨⟨t243, t244⟩, A390, H⟩ := H
       replace H : (if t244 ≥ 0 then (if 0 < (t243.length : Int) then (if 1 < (t243.length : Int) then (impl_TakeNode.j0 k t244 0 t226 (⟨#[]⟩ : ByteArray) (rd t243 0) 0 (rd t243 1) false ([] : List Int)) else (none)) else (none)) else (impl_TakeNode.j0 k t244 0 t226 (⟨#[]⟩ : ByteArray) 0 0 0 false ([] : List Int))) = some (r1, r2, r3, r4, r5, r6, r7, r8) := H
       have A39 := Aside0.mk A390
       clear A390
       by_cases c40 : t244 ≥ 0
       ·rw [if_pos c40] at H
        have c40b0 : decide (0 ≤ t244) = true := decide_eq_true c40
        clear c40
        by_cases c41 : 0 < (t243.length : Int)
        ·rw [if_pos c41] at H
         have c41b0 : decide (0 < (t243.length : Int)) = true := decide_eq_true c41
         have c41b1 : decide (0 < t243.length) = true := decide_eq_true (by omega)
         clear c41
         by_cases c42 : 1 < (t243.length : Int)
         ·rw [if_pos c42] at H
          have c42b0 : decide (1 < (t243.length : Int)) = true := decide_eq_true c42
          have c42b1 : decide (1 < t243.length) = true := decide_eq_true (by omega)
          clear c42
          have H' := Aside0.mk H
          clear H
          try go_wp2_with (first | ((with_reducible refine gate_callee (f := 103) rfl ?_); refine goesL_ (some 71) rfl rfl Try.func103 (by kernel_rfl) rfl #[.slice A0 l0.length c0, .int .i64 t227, .int .i64 2] rfl aL ?_; (with_reducible refine (impl_takeAll.calls k _ _ l0 t227 2 t243 t244 _ ?side1 ?side2 A39.out).mono ?_); (case side1 => exact cA); (case side2 => exact HC0.out); rintro e w43 ⟨v245, rfl, ho0, hb⟩; refine ⟨_, rfl, ?_⟩; have n0_ := Aside0.mk (Kd.R_lower ho0 (below_size bA)); have n1_ := Aside0.mk (blk_below (g := gb225) (o := .cells #[.int .i64 0, .string (⟨#[]⟩ : ByteArray), .int .i64 0, .int .i64 0, .int .i64 0, .bool false, .slice none 0 0] 33 (0, 0)) (by (with_reducible repeat (first | refine blk_drewN ?_ _ | refine blk_drew ?_ | refine blk_alloc ?_ _)); exact BK225.out) hb); have n2_ := Aside0.mk (blk_below (g := gb228) (o := .cells #[.int .i64 t226, .string (⟨#[]⟩ : ByteArray), .int .i64 0, .int .i64 0, .int .i64 0, .bool false, .slice none 0 0] 33 (0, 0)) (by (with_reducible repeat (first | refine blk_drewN ?_ _ | refine blk_drew ?_ | refine blk_alloc ?_ _)); exact BK228.out) hb); have n3_ := Aside0.mk (below_step bA hb); clear BK225; clear BK228; clear HB; have HO246 := n0_; have BK225 := n1_; have BK228 := n2_; have HB := n3_; clear n0_ n1_ n2_ n3_; (try clear hb); (try clear hb2); (try clear hk); (try clear hi); (try clear ho0)))
          have n0_ := Aside0.mk (Kd.R_drew HO246.out)
          have n1_ := Aside0.mk (blk_drew BK225.out)
          have n2_ := Aside0.mk (blk_drew BK228.out)
          have n3_ := Aside0.mk (below_drew1 HB.out)
          clear HO246
          clear BK225
          clear BK228
          clear HB
          have HO246 := n0_
          have BK225 := n1_
          have BK228 := n2_
          have HB := n3_
          clear n0_ n1_ n2_ n3_
          obtain ⟨Ao45, co45, eo45⟩ := Kd.R_slice HO246.out
          (first | subst eo45 | (injection eo45 with f1_ f2_ f3_; have f4_ := f1_.symm; have f5_ := f3_.symm; clear f1_ f2_ f3_; subst f4_; subst f5_))
          have p247 : 0 ≤ (0 : Int) := (by omega)
          have q247 : 0 < (t243.length : Int) := of_decide_eq_true (by assumption)
          obtain ⟨ad247, e247, hx247_0⟩ := Kd.at_int (Kd.R_reads' HO246.out).2.2 0 p247 q247
          cases e247
          have qi247 : (0 < t243.length) = True := eq_true (by omega)
          (try rw [show ((0 : Int)).toNat = 0 from rfl] at hx247_0)
          (try rw [Addr.add_zero'] at hx247_0)
          replace p247 := eq_true p247
          replace q247 := eq_true q247
          have p248 : 0 ≤ (1 : Int) := (by omega)
          have q248 : 1 < (t243.length : Int) := of_decide_eq_true (by assumption)
          obtain ⟨ad248, e248, hx248_0⟩ := Kd.at_int (Kd.R_reads' HO246.out).2.2 1 p248 q248
          obtain rfl : ad247 = ad248 := (by injection e248)
          (try simp only [show (1 : Int).toNat = 1 from rfl, Nat.reduceMul, Nat.reduceEqDiff, Go.Addr.add, ↓reduceIte] at hx248_0)
          have qi248 : (1 < t243.length) = True := eq_true (by omega)
          (try rw [show ((1 : Int)).toNat = 1 from rfl] at hx248_0)
          replace p248 := eq_true p248
          replace q248 := eq_true q248
          refine start_ (n := 10) (S := fun w' => w'.cell? ad247 = some (.int .i64 (rd t243 0)) ∧ w'.cell? ⟨ad247.block, ad247.off + 1, none⟩ = some (.int .i64 (rd t243 1))) (ds := []) #[false, false, false, false, false, false, false, false, false, false] (by kernel_rfl) rfl rfl ⟨hx247_0, hx248_0⟩ (fun hHeld => ?_); refine with_tabW impl_TakeNode.tab19 impl_TakeNode.bits19 (fun HT_ HW_ => ?_)
          generalize w43.drew = w44 at HO246 BK225 BK228 HB hx247_0 hx248_0 hHeld ⊢
          refine pt_ 0 76 ?_
          refine pt_ 1 77 ?_
          refine pt_ 3 79 ?_
          refine pt_ 4 80 ?_
          refine tt_ 2 78 ?_
          refine pt_ 6 82 ?_
          refine tt_ 5 81 ?_
          refine one_ (i := 7) (N := none) #[true, true, true, true, true, true, true, true, false, false] rfl rfl (one_of HT_.out (by kernel_rfl)) (by decide) (fun K hK => ?_)
          have hs46 : w44.cell? ⟨gb228, 2, none⟩ = some (.int .i64 0) := (blk_cell BK228.out 2).trans rfl
          have hfs46 := blk_frozen BK228.out 2
          have hns46_0 := NB225_228.out
          have hms46_0 := NB228_225.out
          refine skip_ (w1 := ?_) (by rfl) rfl ?_ ?_
          rotate_left
          ·go_simp
           rfl
          refine hK.out _ _ ⟨((cell_far (p := ⟨gb228, _, none⟩) (by first | exact Kd.own_blk (Kd.R_ne HO246.out BK228.out (by decide)) | (rw [add_block]; exact Kd.own_blk (Kd.R_ne HO246.out BK228.out (by decide))) | (show (Addr.add _ _).block ≠ _; rw [add_block]; exact Kd.own_blk (Kd.R_ne HO246.out BK228.out (by decide))) | (dsimp only; exact Kd.own_blk (Kd.R_ne HO246.out BK228.out (by decide)))) _).trans (hHeld.1)), ((cell_far (p := ⟨gb228, _, none⟩) (by first | exact Kd.own_blk (Kd.R_ne HO246.out BK228.out (by decide)) | (rw [add_block]; exact Kd.own_blk (Kd.R_ne HO246.out BK228.out (by decide))) | (show (Addr.add _ _).block ≠ _; rw [add_block]; exact Kd.own_blk (Kd.R_ne HO246.out BK228.out (by decide))) | (dsimp only; exact Kd.own_blk (Kd.R_ne HO246.out BK228.out (by decide)))) _).trans (hHeld.2))⟩ (fun hHeld => ?_)
          clear hK K
          refine pt_ 8 83 ?_
          refine one_ (i := 9) (N := none) #[true, true, true, true, true, true, true, true, true, true] rfl rfl (one_of HT_.out (by kernel_rfl)) (by decide) (fun K hK => ?_)
          have hs47 : w44.cell? ⟨gb228, 4, none⟩ = some (.int .i64 0) := (blk_cell BK228.out 4).trans rfl
          have hfs47 := blk_frozen BK228.out 4
          have hns47_0 := NB225_228.out
          have hms47_0 := NB228_225.out
          refine skip_ (w1 := ?_) (by rfl) rfl ?_ ?_
          rotate_left
          ·go_simp
           rfl
          refine hK.out _ _ ⟨((cell_far (p := ⟨gb228, _, none⟩) (by first | exact Kd.own_blk (Kd.R_ne HO246.out BK228.out (by decide)) | (rw [add_block]; exact Kd.own_blk (Kd.R_ne HO246.out BK228.out (by decide))) | (show (Addr.add _ _).block ≠ _; rw [add_block]; exact Kd.own_blk (Kd.R_ne HO246.out BK228.out (by decide))) | (dsimp only; exact Kd.own_blk (Kd.R_ne HO246.out BK228.out (by decide)))) _).trans (hHeld.1)), ((cell_far (p := ⟨gb228, _, none⟩) (by first | exact Kd.own_blk (Kd.R_ne HO246.out BK228.out (by decide)) | (rw [add_block]; exact Kd.own_blk (Kd.R_ne HO246.out BK228.out (by decide))) | (show (Addr.add _ _).block ≠ _; rw [add_block]; exact Kd.own_blk (Kd.R_ne HO246.out BK228.out (by decide))) | (dsimp only; exact Kd.own_blk (Kd.R_ne HO246.out BK228.out (by decide)))) _).trans (hHeld.2))⟩ (fun hHeld => ?_)
          clear hK K
          refine done_ (done_of HT_.out (by kernel_rfl)) ?_
          try go_wp2
          go_meet
          case rel => exact ⟨_, (t244), (0), ((⟨#[]⟩ : ByteArray)), (rd t243 0), (0), (rd t243 1), (([] : List Int)), (.slice none 0 0), rF, rF, H', ⟨by first | omega | exact Nat.le_refl _⟩, ⟨by first | exact Kd.R_nil _ _ _ _ _ | exact Kd.N_nil _ _ _ _ _ | exact Kd.V_nil _ _ _ _ _ | exact Kd.Q_nil _ _ _ _ _ | exact Kd.S_nil _ _ _ _ _⟩, ⟨by (with_reducible repeat (first | refine blk_drewN ?_ _ | refine blk_drew ?_ | refine blk_alloc ?_ _)); refine blk_far ?_ NB225_228.out _; (with_reducible repeat (first | refine blk_drewN ?_ _ | refine blk_drew ?_ | refine blk_alloc ?_ _)); refine blk_far ?_ NB225_228.out _; (with_reducible repeat (first | refine blk_drewN ?_ _ | refine blk_drew ?_ | refine blk_alloc ?_ _)); exact BK225.out⟩, ⟨by (with_reducible repeat (first | refine blk_drewN ?_ _ | refine blk_drew ?_ | refine blk_alloc ?_ _)); refine blk_put (cs := #[.int .i64 t226, .string (⟨#[]⟩ : ByteArray), .int .i64 (rd t243 0), .int .i64 0, .int .i64 0, .bool false, .slice none 0 0]) ?_ 4 _ rfl; (with_reducible repeat (first | refine blk_drewN ?_ _ | refine blk_drew ?_ | refine blk_alloc ?_ _)); refine blk_put (cs := #[.int .i64 t226, .string (⟨#[]⟩ : ByteArray), .int .i64 0, .int .i64 0, .int .i64 0, .bool false, .slice none 0 0]) ?_ 2 _ rfl; (with_reducible repeat (first | refine blk_drewN ?_ _ | refine blk_drew ?_ | refine blk_alloc ?_ _)); exact BK228.out⟩, ⟨bA⟩⟩
         ·rw [if_neg c42] at H
          exact absurd H (by simp)
        ·rw [if_neg c41] at H
         exact absurd H (by simp)
       ·rw [if_neg c40] at H
        have c40b0 : decide (0 ≤ t244) = false := decide_eq_false c40
        clear c40
        have H' := Aside0.mk H
        clear H
        go_wp2_with (first | ((with_reducible refine gate_callee (f := 103) rfl ?_); refine goesL_ (some 71) rfl rfl Try.func103 (by kernel_rfl) rfl #[.slice A0 l0.length c0, .int .i64 t227, .int .i64 2] rfl aL ?_; (with_reducible refine (impl_takeAll.calls k _ _ l0 t227 2 t243 t244 _ ?side1 ?side2 A39.out).mono ?_); (case side1 => exact cA); (case side2 => exact HC0.out); rintro e w48 ⟨v245, rfl, ho0, hb⟩; refine ⟨_, rfl, ?_⟩; have n0_ := Aside0.mk (Kd.R_lower ho0 (below_size bA)); have n1_ := Aside0.mk (blk_below (g := gb225) (o := .cells #[.int .i64 0, .string (⟨#[]⟩ : ByteArray), .int .i64 0, .int .i64 0, .int .i64 0, .bool false, .slice none 0 0] 33 (0, 0)) (by (with_reducible repeat (first | refine blk_drewN ?_ _ | refine blk_drew ?_ | refine blk_alloc ?_ _)); exact BK225.out) hb); have n2_ := Aside0.mk (blk_below (g := gb228) (o := .cells #[.int .i64 t226, .string (⟨#[]⟩ : ByteArray), .int .i64 0, .int .i64 0, .int .i64 0, .bool false, .slice none 0 0] 33 (0, 0)) (by (with_reducible repeat (first | refine blk_drewN ?_ _ | refine blk_drew ?_ | refine blk_alloc ?_ _)); exact BK228.out) hb); have n3_ := Aside0.mk (below_step bA hb); clear BK225; clear BK228; clear HB; have HO246 := n0_; have BK225 := n1_; have BK228 := n2_; have HB := n3_; clear n0_ n1_ n2_ n3_; (try clear hb); (try clear hb2); (try clear hk); (try clear hi); (try clear ho0)))
        go_meet
        case rel => exact ⟨_, (t244), (0), ((⟨#[]⟩ : ByteArray)), (0), (0), (0), (([] : List Int)), (.slice none 0 0), rF, rF, H', ⟨by first | omega | exact Nat.le_refl _⟩, ⟨by first | exact Kd.R_nil _ _ _ _ _ | exact Kd.N_nil _ _ _ _ _ | exact Kd.V_nil _ _ _ _ _ | exact Kd.Q_nil _ _ _ _ _ | exact Kd.S_nil _ _ _ _ _⟩, ⟨by (with_reducible repeat (first | refine blk_drewN ?_ _ | refine blk_drew ?_ | refine blk_alloc ?_ _)); exact BK225.out⟩, ⟨by (with_reducible repeat (first | refine blk_drewN ?_ _ | refine blk_drew ?_ | refine blk_alloc ?_ _)); exact BK228.out⟩, ⟨bA⟩⟩
      ·rw [if_neg c38] at H
       have c38b0 : (t226 == 3) = false := beq_eq_false_iff_ne.mpr c38
       have c38b1 : (t226 != 3) = true := bne_iff_ne.mpr c38
       by_cases c49 : t226 = 5
       ·rw [if_pos c49] at H
        have c49b0 : (t226 == 5) = true := beq_iff_eq.mpr c49
        have c49b1 : (t226 != 5) = false := bne_eq_false_iff_eq.mpr c49
        clear c49
        replace H := Option.bind_eq_some_iff.mp H
        obtain ⟨⟨t249, t250⟩, A500, H⟩ := H
        replace H : (impl_TakeNode.j0 k t250 0 t226 (⟨#[]⟩ : ByteArray) t249 0 0 false ([] : List Int)) = some (r1, r2, r3, r4, r5, r6, r7, r8) := H
        have A50 := Aside0.mk A500
        clear A500
        have H' := Aside0.mk H
        clear H
        go_wp2_with (first | ((with_reducible refine gate_callee (f := 101) rfl ?_); refine goesL_ (some 89) rfl rfl Try.func101 (by kernel_rfl) rfl #[.slice A0 l0.length c0, .int .i64 t227] rfl aL ?_; (with_reducible refine (impl_TakeNum.calls k _ _ l0 t227 t249 t250 _ ?side1 ?side2 A50.out).mono ?_); (case side1 => exact cA); (case side2 => exact HC0.out); rintro e w' ⟨rfl, ⟨nd, rfl⟩⟩; refine ⟨_, rfl, ?_⟩; (try (rw [drewN_self w13]; generalize hq_ : World.drewN w13 _ = w13; have n0_ : Aside0 (w13.heap[gb225]? = some (.cells #[.int .i64 0, .string (⟨#[]⟩ : ByteArray), .int .i64 0, .int .i64 0, .int .i64 0, .bool false, .slice none 0 0] 33 (0, 0))) := ⟨by rw [← hq_]; exact (by (with_reducible repeat (first | refine blk_drewN ?_ _ | refine blk_drew ?_ | refine blk_alloc ?_ _)); exact BK225.out)⟩; have n1_ : Aside0 (w13.heap[gb228]? = some (.cells #[.int .i64 t226, .string (⟨#[]⟩ : ByteArray), .int .i64 0, .int .i64 0, .int .i64 0, .bool false, .slice none 0 0] 33 (0, 0))) := ⟨by rw [← hq_]; exact (by (with_reducible repeat (first | refine blk_drewN ?_ _ | refine blk_drew ?_ | refine blk_alloc ?_ _)); exact BK228.out)⟩; have n2_ : Aside0 (Below w.heap.size w w13) := ⟨by rw [← hq_]; exact bA⟩; clear BK225 BK228 HB hq_; have BK225 := n0_; have BK228 := n1_; have HB := n2_; clear n0_ n1_ n2_)); have hnb51 := NB228_225.out; have hnc51 := NB225_228.out; obtain ⟨⟨hcz52_0, hcz52_1, hcz52_2, hcz52_3, hcz52_4, hcz52_5, hcz52_6⟩, hfz52_0, hfz52_1, hfz52_2, hfz52_3, hfz52_4, hfz52_5, hfz52_6⟩ := Own.c7 BK228.out))
        go_meet
        case rel => exact ⟨_, (t250), (0), ((⟨#[]⟩ : ByteArray)), (t249), (0), (0), (([] : List Int)), (.slice none 0 0), rF, rF, H', ⟨by first | omega | exact Nat.le_refl _⟩, ⟨by first | exact Kd.R_nil _ _ _ _ _ | exact Kd.N_nil _ _ _ _ _ | exact Kd.V_nil _ _ _ _ _ | exact Kd.Q_nil _ _ _ _ _ | exact Kd.S_nil _ _ _ _ _⟩, ⟨by (with_reducible repeat (first | refine blk_drewN ?_ _ | refine blk_drew ?_ | refine blk_alloc ?_ _)); refine blk_far ?_ NB225_228.out _; (with_reducible repeat (first | refine blk_drewN ?_ _ | refine blk_drew ?_ | refine blk_alloc ?_ _)); exact BK225.out⟩, ⟨by (with_reducible repeat (first | refine blk_drewN ?_ _ | refine blk_drew ?_ | refine blk_alloc ?_ _)); refine blk_put (cs := #[.int .i64 t226, .string (⟨#[]⟩ : ByteArray), .int .i64 0, .int .i64 0, .int .i64 0, .bool false, .slice none 0 0]) ?_ 2 _ rfl; (with_reducible repeat (first | refine blk_drewN ?_ _ | refine blk_drew ?_ | refine blk_alloc ?_ _)); exact BK228.out⟩, ⟨bA⟩⟩
       ·rw [if_neg c49] at H
        have c49b0 : (t226 == 5) = false := beq_eq_false_iff_ne.mpr c49
        have c49b1 : (t226 != 5) = true := bne_iff_ne.mpr c49
        by_cases c53 : t226 = 6
        ·rw [if_pos c53] at H
         have c53b0 : (t226 == 6) = true := beq_iff_eq.mpr c53
         have c53b1 : (t226 != 6) = false := bne_eq_false_iff_eq.mpr c53
         clear c53
         replace H := Option.bind_eq_some_iff.mp H
         obtain ⟨⟨t251, t252⟩, A540, H⟩ := H
         replace H : (if t252 ≥ 0 then (if 0 < (t251.length : Int) then (if 1 < (t251.length : Int) then (impl_TakeNode.j0 k t252 (rd t251 0) t226 (⟨#[]⟩ : ByteArray) 0 0 (rd t251 1) false ([] : List Int)) else (none)) else (none)) else (impl_TakeNode.j0 k t252 0 t226 (⟨#[]⟩ : ByteArray) 0 0 0 false ([] : List Int))) = some (r1, r2, r3, r4, r5, r6, r7, r8) := H
         have A54 := Aside0.mk A540
         clear A540
         by_cases c55 : t252 ≥ 0
         ·rw [if_pos c55] at H
          have c55b0 : decide (0 ≤ t252) = true := decide_eq_true c55
          clear c55
          by_cases c56 : 0 < (t251.length : Int)
          ·rw [if_pos c56] at H
           have c56b0 : decide (0 < (t251.length : Int)) = true := decide_eq_true c56
           have c56b1 : decide (0 < t251.length) = true := decide_eq_true (by omega)
           clear c56
           by_cases c57 : 1 < (t251.length : Int)
           ·rw [if_pos c57] at H
            have c57b0 : decide (1 < (t251.length : Int)) = true := decide_eq_true c57
            have c57b1 : decide (1 < t251.length) = true := decide_eq_true (by omega)
            clear c57
            have H' := Aside0.mk H
            clear H
            try go_wp2_with (first | ((with_reducible refine gate_callee (f := 103) rfl ?_); refine goesL_ (some 98) rfl rfl Try.func103 (by kernel_rfl) rfl #[.slice A0 l0.length c0, .int .i64 t227, .int .i64 2] rfl aL ?_; (with_reducible refine (impl_takeAll.calls k _ _ l0 t227 2 t251 t252 _ ?side1 ?side2 A54.out).mono ?_); (case side1 => exact cA); (case side2 => exact HC0.out); rintro e w58 ⟨v253, rfl, ho0, hb⟩; refine ⟨_, rfl, ?_⟩; have n0_ := Aside0.mk (Kd.R_lower ho0 (below_size bA)); have n1_ := Aside0.mk (blk_below (g := gb225) (o := .cells #[.int .i64 0, .string (⟨#[]⟩ : ByteArray), .int .i64 0, .int .i64 0, .int .i64 0, .bool false, .slice none 0 0] 33 (0, 0)) (by (with_reducible repeat (first | refine blk_drewN ?_ _ | refine blk_drew ?_ | refine blk_alloc ?_ _)); exact BK225.out) hb); have n2_ := Aside0.mk (blk_below (g := gb228) (o := .cells #[.int .i64 t226, .string (⟨#[]⟩ : ByteArray), .int .i64 0, .int .i64 0, .int .i64 0, .bool false, .slice none 0 0] 33 (0, 0)) (by (with_reducible repeat (first | refine blk_drewN ?_ _ | refine blk_drew ?_ | refine blk_alloc ?_ _)); exact BK228.out) hb); have n3_ := Aside0.mk (below_step bA hb); clear BK225; clear BK228; clear HB; have HO254 := n0_; have BK225 := n1_; have BK228 := n2_; have HB := n3_; clear n0_ n1_ n2_ n3_; (try clear hb); (try clear hb2); (try clear hk); (try clear hi); (try clear ho0)))
            have n0_ := Aside0.mk (Kd.R_drew HO254.out)
            have n1_ := Aside0.mk (blk_drew BK225.out)
            have n2_ := Aside0.mk (blk_drew BK228.out)
            have n3_ := Aside0.mk (below_drew1 HB.out)
            clear HO254
            clear BK225
            clear BK228
            clear HB
            have HO254 := n0_
            have BK225 := n1_
            have BK228 := n2_
            have HB := n3_
            clear n0_ n1_ n2_ n3_
            obtain ⟨Ao60, co60, eo60⟩ := Kd.R_slice HO254.out
            (first | subst eo60 | (injection eo60 with f1_ f2_ f3_; have f4_ := f1_.symm; have f5_ := f3_.symm; clear f1_ f2_ f3_; subst f4_; subst f5_))
            have p255 : 0 ≤ (0 : Int) := (by omega)
            have q255 : 0 < (t251.length : Int) := of_decide_eq_true (by assumption)
            obtain ⟨ad255, e255, hx255_0⟩ := Kd.at_int (Kd.R_reads' HO254.out).2.2 0 p255 q255
            cases e255
            have qi255 : (0 < t251.length) = True := eq_true (by omega)
            (try rw [show ((0 : Int)).toNat = 0 from rfl] at hx255_0)
            (try rw [Addr.add_zero'] at hx255_0)
            replace p255 := eq_true p255
            replace q255 := eq_true q255
            have p256 : 0 ≤ (1 : Int) := (by omega)
            have q256 : 1 < (t251.length : Int) := of_decide_eq_true (by assumption)
            obtain ⟨ad256, e256, hx256_0⟩ := Kd.at_int (Kd.R_reads' HO254.out).2.2 1 p256 q256
            obtain rfl : ad255 = ad256 := (by injection e256)
            (try simp only [show (1 : Int).toNat = 1 from rfl, Nat.reduceMul, Nat.reduceEqDiff, Go.Addr.add, ↓reduceIte] at hx256_0)
            have qi256 : (1 < t251.length) = True := eq_true (by omega)
            (try rw [show ((1 : Int)).toNat = 1 from rfl] at hx256_0)
            replace p256 := eq_true p256
            replace q256 := eq_true q256
            refine start_ (n := 9) (S := fun w' => w'.cell? ad255 = some (.int .i64 (rd t251 0)) ∧ w'.cell? ⟨ad255.block, ad255.off + 1, none⟩ = some (.int .i64 (rd t251 1))) (ds := []) #[false, false, false, false, false, false, false, false, false] (by kernel_rfl) rfl rfl ⟨hx255_0, hx256_0⟩ (fun hHeld => ?_); refine with_tabW impl_TakeNode.tab25 impl_TakeNode.bits25 (fun HT_ HW_ => ?_)
            generalize w58.drew = w59 at HO254 BK225 BK228 HB hx255_0 hx256_0 hHeld ⊢
            refine pt_ 0 103 ?_
            refine pt_ 1 104 ?_
            refine pt_ 3 106 ?_
            refine pt_ 4 107 ?_
            refine tt_ 2 105 ?_
            refine pt_ 6 10 ?_
            refine tt_ 5 108 ?_
            refine pt_ 7 109 ?_
            refine one_ (i := 8) (N := none) #[true, true, true, true, true, true, true, true, true] rfl rfl (one_of HT_.out (by kernel_rfl)) (by decide) (fun K hK => ?_)
            have hs61 : w59.cell? ⟨gb228, 4, none⟩ = some (.int .i64 0) := (blk_cell BK228.out 4).trans rfl
            have hfs61 := blk_frozen BK228.out 4
            have hns61_0 := NB225_228.out
            have hms61_0 := NB228_225.out
            refine skip_ (w1 := ?_) (by rfl) rfl ?_ ?_
            rotate_left
            ·go_simp
             rfl
            refine hK.out _ _ ⟨((cell_far (p := ⟨gb228, _, none⟩) (by first | exact Kd.own_blk (Kd.R_ne HO254.out BK228.out (by decide)) | (rw [add_block]; exact Kd.own_blk (Kd.R_ne HO254.out BK228.out (by decide))) | (show (Addr.add _ _).block ≠ _; rw [add_block]; exact Kd.own_blk (Kd.R_ne HO254.out BK228.out (by decide))) | (dsimp only; exact Kd.own_blk (Kd.R_ne HO254.out BK228.out (by decide)))) _).trans (hHeld.1)), ((cell_far (p := ⟨gb228, _, none⟩) (by first | exact Kd.own_blk (Kd.R_ne HO254.out BK228.out (by decide)) | (rw [add_block]; exact Kd.own_blk (Kd.R_ne HO254.out BK228.out (by decide))) | (show (Addr.add _ _).block ≠ _; rw [add_block]; exact Kd.own_blk (Kd.R_ne HO254.out BK228.out (by decide))) | (dsimp only; exact Kd.own_blk (Kd.R_ne HO254.out BK228.out (by decide)))) _).trans (hHeld.2))⟩ (fun hHeld => ?_)
            clear hK K
            refine done_ (done_of HT_.out (by kernel_rfl)) ?_
            try go_wp2
            go_meet
            case rel => exact ⟨_, (t252), (rd t251 0), ((⟨#[]⟩ : ByteArray)), (0), (0), (rd t251 1), (([] : List Int)), (.slice none 0 0), rF, rF, H', ⟨by first | omega | exact Nat.le_refl _⟩, ⟨by first | exact Kd.R_nil _ _ _ _ _ | exact Kd.N_nil _ _ _ _ _ | exact Kd.V_nil _ _ _ _ _ | exact Kd.Q_nil _ _ _ _ _ | exact Kd.S_nil _ _ _ _ _⟩, ⟨by (with_reducible repeat (first | refine blk_drewN ?_ _ | refine blk_drew ?_ | refine blk_alloc ?_ _)); refine blk_far ?_ NB225_228.out _; (with_reducible repeat (first | refine blk_drewN ?_ _ | refine blk_drew ?_ | refine blk_alloc ?_ _)); exact BK225.out⟩, ⟨by (with_reducible repeat (first | refine blk_drewN ?_ _ | refine blk_drew ?_ | refine blk_alloc ?_ _)); refine blk_put (cs := #[.int .i64 t226, .string (⟨#[]⟩ : ByteArray), .int .i64 0, .int .i64 0, .int .i64 0, .bool false, .slice none 0 0]) ?_ 4 _ rfl; (with_reducible repeat (first | refine blk_drewN ?_ _ | refine blk_drew ?_ | refine blk_alloc ?_ _)); exact BK228.out⟩, ⟨bA⟩⟩
           ·rw [if_neg c57] at H
            exact absurd H (by simp)
          ·rw [if_neg c56] at H
           exact absurd H (by simp)
         ·rw [if_neg c55] at H
          have c55b0 : decide (0 ≤ t252) = false := decide_eq_false c55
          clear c55
          have H' := Aside0.mk H
          clear H
          go_wp2_with (first | ((with_reducible refine gate_callee (f := 103) rfl ?_); refine goesL_ (some 98) rfl rfl Try.func103 (by kernel_rfl) rfl #[.slice A0 l0.length c0, .int .i64 t227, .int .i64 2] rfl aL ?_; (with_reducible refine (impl_takeAll.calls k _ _ l0 t227 2 t251 t252 _ ?side1 ?side2 A54.out).mono ?_); (case side1 => exact cA); (case side2 => exact HC0.out); rintro e w62 ⟨v253, rfl, ho0, hb⟩; refine ⟨_, rfl, ?_⟩; have n0_ := Aside0.mk (Kd.R_lower ho0 (below_size bA)); have n1_ := Aside0.mk (blk_below (g := gb225) (o := .cells #[.int .i64 0, .string (⟨#[]⟩ : ByteArray), .int .i64 0, .int .i64 0, .int .i64 0, .bool false, .slice none 0 0] 33 (0, 0)) (by (with_reducible repeat (first | refine blk_drewN ?_ _ | refine blk_drew ?_ | refine blk_alloc ?_ _)); exact BK225.out) hb); have n2_ := Aside0.mk (blk_below (g := gb228) (o := .cells #[.int .i64 t226, .string (⟨#[]⟩ : ByteArray), .int .i64 0, .int .i64 0, .int .i64 0, .bool false, .slice none 0 0] 33 (0, 0)) (by (with_reducible repeat (first | refine blk_drewN ?_ _ | refine blk_drew ?_ | refine blk_alloc ?_ _)); exact BK228.out) hb); have n3_ := Aside0.mk (below_step bA hb); clear BK225; clear BK228; clear HB; have HO254 := n0_; have BK225 := n1_; have BK228 := n2_; have HB := n3_; clear n0_ n1_ n2_ n3_; (try clear hb); (try clear hb2); (try clear hk); (try clear hi); (try clear ho0)))
          go_meet
          case rel => exact ⟨_, (t252), (0), ((⟨#[]⟩ : ByteArray)), (0), (0), (0), (([] : List Int)), (.slice none 0 0), rF, rF, H', ⟨by first | omega | exact Nat.le_refl _⟩, ⟨by first | exact Kd.R_nil _ _ _ _ _ | exact Kd.N_nil _ _ _ _ _ | exact Kd.V_nil _ _ _ _ _ | exact Kd.Q_nil _ _ _ _ _ | exact Kd.S_nil _ _ _ _ _⟩, ⟨by (with_reducible repeat (first | refine blk_drewN ?_ _ | refine blk_drew ?_ | refine blk_alloc ?_ _)); exact BK225.out⟩, ⟨by (with_reducible repeat (first | refine blk_drewN ?_ _ | refine blk_drew ?_ | refine blk_alloc ?_ _)); exact BK228.out⟩, ⟨bA⟩⟩
        ·rw [if_neg c53] at H
         have c53b0 : (t226 == 6) = false := beq_eq_false_iff_ne.mpr c53
         have c53b1 : (t226 != 6) = true := bne_iff_ne.mpr c53
         have H' := Aside0.mk H
         clear H
         go_wp2
         go_meet
         case rel => exact ⟨_, (t227), (0), ((⟨#[]⟩ : ByteArray)), (0), (0), (0), (([] : List Int)), (.slice none 0 0), rF, rF, H', ⟨by first | omega | exact Nat.le_refl _⟩, ⟨by first | exact Kd.R_nil _ _ _ _ _ | exact Kd.N_nil _ _ _ _ _ | exact Kd.V_nil _ _ _ _ _ | exact Kd.Q_nil _ _ _ _ _ | exact Kd.S_nil _ _ _ _ _⟩, ⟨by (with_reducible repeat (first | refine blk_drewN ?_ _ | refine blk_drew ?_ | refine blk_alloc ?_ _)); exact BK225.out⟩, ⟨by (with_reducible repeat (first | refine blk_drewN ?_ _ | refine blk_drew ?_ | refine blk_alloc ?_ _)); exact BK228.out⟩, ⟨bA⟩⟩
  case rest =>
   clear HC8
   try clear c1
   try clear c2
   try clear p2
   try clear q2
   try clear hx2
   try clear qi2
   try clear c3
   try clear c4
   try clear c5
   try clear c10
   try clear c18
   try clear c18b0
   try clear c18b1
   try clear c20
   try clear c20b0
   try clear c21
   try clear c22
   try clear c23
   try clear p23
   try clear q23
   try clear hx23
   try clear qi23
   try clear c24
   try clear p24
   try clear q24
   try clear hx24
   try clear qi24
   try clear p25
   try clear q25
   try clear hx25
   try clear qi25
   try clear c32
   try clear c32b0
   try clear c32b1
   try clear c36
   try clear c38
   try clear c38b0
   try clear c38b1
   try clear c40
   try clear c40b0
   try clear c41
   try clear c41b0
   try clear c41b1
   try clear c42
   try clear c42b0
   try clear c42b1
   try clear c49
   try clear c49b0
   try clear c49b1
   try clear c51
   try clear c53
   try clear c53b0
   try clear c53b1
   try clear c55
   try clear c55b0
   try clear c56
   try clear c56b0
   try clear c56b1
   try clear c57
   try clear c57b0
   try clear c57b1
   try clear hcz37_0 hcz37_1 hcz37_2 hcz37_3 hcz37_4 hcz37_5 hcz37_6
   try clear hcz52_0 hcz52_1 hcz52_2 hcz52_3 hcz52_4 hcz52_5 hcz52_6
   try clear hfz37_0 hfz37_1 hfz37_2 hfz37_3 hfz37_4 hfz37_5 hfz37_6
   try clear hfz52_0 hfz52_1 hfz52_2 hfz52_3 hfz52_4 hfz52_5 hfz52_6
   try clear hx235_0
   try clear hx236_0
   try clear hx237_0
   try clear hx238_0
   try clear hx247_0
   try clear hx248_0
   try clear hx255_0
   try clear hx256_0
   try clear p235
   try clear p236
   try clear p237
   try clear p238
   try clear p247
   try clear p248
   try clear p255
   try clear p256
   try clear q235
   try clear q236
   try clear q237
   try clear q238
   try clear q247
   try clear q248
   try clear q255
   try clear q256
   obtain ⟨kq, x7_7, x10_7, x229001_7, x229002_7, x229003_7, x229004_7, x229006_7, u229006, rfl, rfl, HA, HJ7, HO_229006, BK225, BK228, HB⟩ := hcut
   cases kq with
   | zero => exact absurd HA.out (by simp [impl_TakeNode.j0])
   | succ kj7 =>
    have H := HA.out
    clear HA
    simp only [impl_TakeNode.j0] at H
    by_cases c63 : x7_7 < 0
    ·rw [if_pos c63] at H
     have c63b0 : decide (x7_7 < 0) = true := decide_eq_true c63
     clear c63
     simp only [Option.some.injEq, Prod.mk.injEq] at H
     obtain ⟨rfl, rfl, rfl, rfl, rfl, rfl, rfl, rfl⟩ := H
     have hnb64 := NB228_225.out
     have hnc64 := NB225_228.out
     obtain ⟨⟨hcz65_0, hcz65_1, hcz65_2, hcz65_3, hcz65_4, hcz65_5, hcz65_6⟩, hfz65_0, hfz65_1, hfz65_2, hfz65_3, hfz65_4, hfz65_5, hfz65_6⟩ := Own.c7 BK228.out
     obtain ⟨⟨hcz66_0, hcz66_1, hcz66_2, hcz66_3, hcz66_4, hcz66_5, hcz66_6⟩, hfz66_0, hfz66_1, hfz66_2, hfz66_3, hfz66_4, hfz66_5, hfz66_6⟩ := Own.c7 BK225.out
     go_wp2_with (first | ((with_reducible refine gate_store (t := 33) (p := 4) rfl ?_); refine store_event (t := 33) (p := 4) (v := ?vo_w67) (w1 := ((((((((wc.setCell ⟨gb228, 5, none⟩ (.bool (x10_7 == 1))).setCell ⟨gb225, 0, none⟩ (.int .i64 0)).setCell ⟨gb225, 1, none⟩ (.string (⟨#[]⟩ : ByteArray))).setCell ⟨gb225, 2, none⟩ (.int .i64 0)).setCell ⟨gb225, 3, none⟩ (.int .i64 0)).setCell ⟨gb225, 4, none⟩ (.int .i64 0)).setCell ⟨gb225, 5, none⟩ (.bool false)).setCell ⟨gb225, 6, none⟩ (.slice none 0 0))) ?hg ?ho ?hn ?hr ?_; (case ho => rfl); (case hg => rfl); (case hn => rfl); (case hr => first | (go_simp; done) | (go_simp; rfl)); intro w67 hw; have n0_ : Aside0 (Kd.R (Kd.int .i64) 3 w67 w.heap.size (fun _ => True) u229006 x229006_7) := ⟨(by rw [hw]; exact (by (with_reducible repeat (first | apply Kd.R_alloc | apply Kd.R_drewN | apply Kd.R_drew)); exact Kd.R_mono (Kd.R_far (p := ⟨gb225, 6, none⟩) (Kd.R_far (p := ⟨gb225, 5, none⟩) (Kd.R_far (p := ⟨gb225, 4, none⟩) (Kd.R_far (p := ⟨gb225, 3, none⟩) (Kd.R_far (p := ⟨gb225, 2, none⟩) (Kd.R_far (p := ⟨gb225, 1, none⟩) (Kd.R_far (p := ⟨gb225, 0, none⟩) (Kd.R_far (p := ⟨gb228, 5, none⟩) (Kd.R_types (Kd.R_types HO_229006.out BK228.out (by decide)) BK225.out (by decide)) (fun _ hk => hk.1.2) (.bool (x10_7 == 1))) (fun _ hk => hk.2) (.int .i64 0)) (fun _ hk => hk.2) (.string (⟨#[]⟩ : ByteArray))) (fun _ hk => hk.2) (.int .i64 0)) (fun _ hk => hk.2) (.int .i64 0)) (fun _ hk => hk.2) (.int .i64 0)) (fun _ hk => hk.2) (.bool false)) (fun _ hk => hk.2) (.slice none 0 0)) (fun _ hk => trivial)))⟩; have n1_ : Aside0 (w67.heap[gb225]? = some (.cells #[.int .i64 0, .string (⟨#[]⟩ : ByteArray), .int .i64 0, .int .i64 0, .int .i64 0, .bool false, .slice none 0 0] 33 (0, 0))) := ⟨(by rw [hw]; exact (by (with_reducible repeat (first | refine blk_drewN ?_ _ | refine blk_drew ?_ | refine blk_alloc ?_ _)); refine blk_put (cs := #[.int .i64 0, .string (⟨#[]⟩ : ByteArray), .int .i64 0, .int .i64 0, .int .i64 0, .bool false, .slice none 0 0]) ?_ 6 _ rfl; (with_reducible repeat (first | refine blk_drewN ?_ _ | refine blk_drew ?_ | refine blk_alloc ?_ _)); refine blk_put (cs := #[.int .i64 0, .string (⟨#[]⟩ : ByteArray), .int .i64 0, .int .i64 0, .int .i64 0, .bool false, .slice none 0 0]) ?_ 5 _ rfl; (with_reducible repeat (first | refine blk_drewN ?_ _ | refine blk_drew ?_ | refine blk_alloc ?_ _)); refine blk_put (cs := #[.int .i64 0, .string (⟨#[]⟩ : ByteArray), .int .i64 0, .int .i64 0, .int .i64 0, .bool false, .slice none 0 0]) ?_ 4 _ rfl; (with_reducible repeat (first | refine blk_drewN ?_ _ | refine blk_drew ?_ | refine blk_alloc ?_ _)); refine blk_put (cs := #[.int .i64 0, .string (⟨#[]⟩ : ByteArray), .int .i64 0, .int .i64 0, .int .i64 0, .bool false, .slice none 0 0]) ?_ 3 _ rfl; (with_reducible repeat (first | refine blk_drewN ?_ _ | refine blk_drew ?_ | refine blk_alloc ?_ _)); refine blk_put (cs := #[.int .i64 0, .string (⟨#[]⟩ : ByteArray), .int .i64 0, .int .i64 0, .int .i64 0, .bool false, .slice none 0 0]) ?_ 2 _ rfl; (with_reducible repeat (first | refine blk_drewN ?_ _ | refine blk_drew ?_ | refine blk_alloc ?_ _)); refine blk_put (cs := #[.int .i64 0, .string (⟨#[]⟩ : ByteArray), .int .i64 0, .int .i64 0, .int .i64 0, .bool false, .slice none 0 0]) ?_ 1 _ rfl; (with_reducible repeat (first | refine blk_drewN ?_ _ | refine blk_drew ?_ | refine blk_alloc ?_ _)); refine blk_put (cs := #[.int .i64 0, .string (⟨#[]⟩ : ByteArray), .int .i64 0, .int .i64 0, .int .i64 0, .bool false, .slice none 0 0]) ?_ 0 _ rfl; (with_reducible repeat (first | refine blk_drewN ?_ _ | refine blk_drew ?_ | refine blk_alloc ?_ _)); refine blk_far ?_ NB225_228.out _; (with_reducible repeat (first | refine blk_drewN ?_ _ | refine blk_drew ?_ | refine blk_alloc ?_ _)); exact BK225.out))⟩; have n2_ : Aside0 (w67.heap[gb228]? = some (.cells #[.int .i64 t226, .string x229001_7, .int .i64 x229002_7, .int .i64 x229003_7, .int .i64 x229004_7, .bool (x10_7 == 1), u229006] 33 (0, 0))) := ⟨(by rw [hw]; exact (by (with_reducible repeat (first | refine blk_drewN ?_ _ | refine blk_drew ?_ | refine blk_alloc ?_ _)); refine blk_far ?_ NB228_225.out _; (with_reducible repeat (first | refine blk_drewN ?_ _ | refine blk_drew ?_ | refine blk_alloc ?_ _)); refine blk_far ?_ NB228_225.out _; (with_reducible repeat (first | refine blk_drewN ?_ _ | refine blk_drew ?_ | refine blk_alloc ?_ _)); refine blk_far ?_ NB228_225.out _; (with_reducible repeat (first | refine blk_drewN ?_ _ | refine blk_drew ?_ | refine blk_alloc ?_ _)); refine blk_far ?_ NB228_225.out _; (with_reducible repeat (first | refine blk_drewN ?_ _ | refine blk_drew ?_ | refine blk_alloc ?_ _)); refine blk_far ?_ NB228_225.out _; (with_reducible repeat (first | refine blk_drewN ?_ _ | refine blk_drew ?_ | refine blk_alloc ?_ _)); refine blk_far ?_ NB228_225.out _; (with_reducible repeat (first | refine blk_drewN ?_ _ | refine blk_drew ?_ | refine blk_alloc ?_ _)); refine blk_far ?_ NB228_225.out _; (with_reducible repeat (first | refine blk_drewN ?_ _ | refine blk_drew ?_ | refine blk_alloc ?_ _)); refine blk_put (cs := #[.int .i64 t226, .string x229001_7, .int .i64 x229002_7, .int .i64 x229003_7, .int .i64 x229004_7, .bool false, u229006]) ?_ 5 _ rfl; (with_reducible repeat (first | refine blk_drewN ?_ _ | refine blk_drew ?_ | refine blk_alloc ?_ _)); exact BK228.out))⟩; have n3_ : Aside0 (Below w.heap.size w w67) := ⟨(by rw [hw]; exact bA)⟩; clear hw; clear HO_229006; clear BK225; clear BK228; clear HB; have HO_229006 := n0_; have BK225 := n1_; have BK228 := n2_; have HB := n3_; clear n0_ n1_ n2_ n3_))
     refine bodyPost_ret (results_ct rfl _ _ gb225 33 #[.int .i64 0, .string (⟨#[]⟩ : ByteArray), .int .i64 0, .int .i64 0, .int .i64 0, .bool false, .slice none 0 0] (0, 0) _ rfl (by (with_reducible repeat (first | refine blk_drewN ?_ _ | refine blk_drew ?_ | refine blk_alloc ?_ _)); exact BK225.out) Try.underlying33 rfl (by kernel_rfl)) rfl ?_
     exact ⟨.slice none 0 0, rE, by first | exact Kd.R_nil _ _ _ _ _ | exact Kd.N_nil _ _ _ _ _ | exact Kd.V_nil _ _ _ _ _ | exact Kd.Q_nil _ _ _ _ _ | exact Kd.S_nil _ _ _ _ _, bA⟩
    ·rw [if_neg c63] at H
     have c63b0 : decide (x7_7 < 0) = false := decide_eq_false c63
     clear c63
     replace H := Option.bind_eq_some_iff.mp H
     obtain ⟨t257, A680, H⟩ := H
     replace H : (if t257 = true then ((impl_NodeOk.f kj7 t226 x229001_7 x229002_7 x229003_7 x229004_7 (x10_7 == 1) x229006_7).bind fun t258 => (if t258 = true then (some (t226, x229001_7, x229002_7, x229003_7, x229004_7, (x10_7 == 1), x229006_7, x7_7)) else (some (0, (⟨#[]⟩ : ByteArray), 0, 0, 0, false, ([] : List Int), (-1))))) else (some (0, (⟨#[]⟩ : ByteArray), 0, 0, 0, false, ([] : List Int), (-1)))) = some (r1, r2, r3, r4, r5, r6, r7, r8) := H
     have A68 := Aside0.mk A680
     clear A680
     by_cases c69 : t257 = true
     ·subst c69
      have H1 : ((impl_NodeOk.f kj7 t226 x229001_7 x229002_7 x229003_7 x229004_7 (x10_7 == 1) x229006_7).bind fun t258 => (if t258 = true then (some (t226, x229001_7, x229002_7, x229003_7, x229004_7, (x10_7 == 1), x229006_7, x7_7)) else (some (0, (⟨#[]⟩ : ByteArray), 0, 0, 0, false, ([] : List Int), (-1))))) = some (r1, r2, r3, r4, r5, r6, r7, r8) := by rw [if_pos rfl] at H; exact H
      clear H
      have H := H1
      clear H1
      replace H := Option.bind_eq_some_iff.mp H
      obtain ⟨t258, A700, H⟩ := H
      replace H : (if t258 = true then (some (t226, x229001_7, x229002_7, x229003_7, x229004_7, (x10_7 == 1), x229006_7, x7_7)) else (some (0, (⟨#[]⟩ : ByteArray), 0, 0, 0, false, ([] : List Int), (-1)))) = some (r1, r2, r3, r4, r5, r6, r7, r8) := H
      have A70 := Aside0.mk A700
      clear A700
      by_cases c71 : t258 = true
      ·subst c71
       have H1 : (some (t226, x229001_7, x229002_7, x229003_7, x229004_7, (x10_7 == 1), x229006_7, x7_7)) = some (r1, r2, r3, r4, r5, r6, r7, r8) := by rw [if_pos rfl] at H; exact H
       clear H
       have H := H1
       clear H1
       simp only [Option.some.injEq, Prod.mk.injEq] at H
       obtain ⟨rfl, rfl, rfl, rfl, rfl, rfl, rfl, rfl⟩ := H
       have hnb72 := NB228_225.out
       have hnc72 := NB225_228.out
       obtain ⟨⟨hcz73_0, hcz73_1, hcz73_2, hcz73_3, hcz73_4, hcz73_5, hcz73_6⟩, hfz73_0, hfz73_1, hfz73_2, hfz73_3, hfz73_4, hfz73_5, hfz73_6⟩ := Own.c7 BK228.out
       go_wp2_with (first | (go_at_call 67; (with_reducible refine (impl_in.calls x10_7 0 1 true _ A68.out).mono ?_); rintro e w' ⟨rfl, ⟨nd, rfl⟩⟩; obtain ⟨Ao74, co74, eo74⟩ := Kd.R_slice HO_229006.out; subst eo74) | (go_at_call 23; (with_reducible refine (impl_NodeOk.calls kj7 t226 x229001_7 x229002_7 x229003_7 x229004_7 (x10_7 == 1) _ _ x229006_7 true _ ?side1 ?side2 A70.out).mono ?_); (case side1 => refine (Kd.R_reads' (e := 3) (base := w.heap.size) (ok := fun k_ => True) (n := x229006_7.length) (c := co74) ?_).2.2; exact (by (with_reducible repeat (first | apply Kd.R_alloc | apply Kd.R_drewN | apply Kd.R_drew)); exact (Kd.R_mono (Kd.R_far (p := ⟨gb228, 5, none⟩) (Kd.R_types HO_229006.out BK228.out (by decide)) (fun _ hk => hk.2) (.bool (x10_7 == 1))) (fun _ h_ => h_.1)))); (case side2 => exact (Kd.R_reads' HO_229006.out).2.1); rintro e w75 ⟨rfl, hb⟩; have n0_ := Aside0.mk (Kd.R_below (by (with_reducible repeat (first | apply Kd.R_alloc | apply Kd.R_drewN | apply Kd.R_drew)); exact (Kd.R_mono (Kd.R_far (p := ⟨gb228, 5, none⟩) (Kd.R_types HO_229006.out BK228.out (by decide)) (fun _ hk => hk.2) (.bool (x10_7 == 1))) (fun _ h_ => h_.1))) hb); have n1_ := Aside0.mk (blk_below (g := gb225) (o := .cells #[.int .i64 0, .string (⟨#[]⟩ : ByteArray), .int .i64 0, .int .i64 0, .int .i64 0, .bool false, .slice none 0 0] 33 (0, 0)) (by (with_reducible repeat (first | refine blk_drewN ?_ _ | refine blk_drew ?_ | refine blk_alloc ?_ _)); refine blk_far ?_ NB225_228.out _; (with_reducible repeat (first | refine blk_drewN ?_ _ | refine blk_drew ?_ | refine blk_alloc ?_ _)); exact BK225.out) hb); have n2_ := Aside0.mk (blk_below (g := gb228) (o := .cells #[.int .i64 t226, .string x229001_7, .int .i64 x229002_7, .int .i64 x229003_7, .int .i64 x229004_7, .bool (x10_7 == 1), .slice Ao74 x229006_7.length co74] 33 (0, 0)) (by (with_reducible repeat (first | refine blk_drewN ?_ _ | refine blk_drew ?_ | refine blk_alloc ?_ _)); refine blk_put (cs := #[.int .i64 t226, .string x229001_7, .int .i64 x229002_7, .int .i64 x229003_7, .int .i64 x229004_7, .bool false, .slice Ao74 x229006_7.length co74]) ?_ 5 _ rfl; (with_reducible repeat (first | refine blk_drewN ?_ _ | refine blk_drew ?_ | refine blk_alloc ?_ _)); exact BK228.out) hb); have n3_ := Aside0.mk (below_step bA hb); clear HO_229006; clear BK225; clear BK228; clear HB; have HO_229006 := n0_; have BK225 := n1_; have BK228 := n2_; have HB := n3_; clear n0_ n1_ n2_ n3_; (try clear hb); (try clear hb2); (try clear hk); (try clear hi); obtain ⟨⟨hcz76_0, hcz76_1, hcz76_2, hcz76_3, hcz76_4, hcz76_5, hcz76_6⟩, hfz76_0, hfz76_1, hfz76_2, hfz76_3, hfz76_4, hfz76_5, hfz76_6⟩ := Own.c7 BK228.out; obtain ⟨⟨hcz77_0, hcz77_1, hcz77_2, hcz77_3, hcz77_4, hcz77_5, hcz77_6⟩, hfz77_0, hfz77_1, hfz77_2, hfz77_3, hfz77_4, hfz77_5, hfz77_6⟩ := Own.c7 BK225.out) | ((with_reducible refine gate_store (t := 33) (p := 4) rfl ?_); refine store_event (t := 33) (p := 4) (v := ?vo_w78) (w1 := (((((((w75.setCell ⟨gb225, 0, none⟩ (.int .i64 t226)).setCell ⟨gb225, 1, none⟩ (.string x229001_7)).setCell ⟨gb225, 2, none⟩ (.int .i64 x229002_7)).setCell ⟨gb225, 3, none⟩ (.int .i64 x229003_7)).setCell ⟨gb225, 4, none⟩ (.int .i64 x229004_7)).setCell ⟨gb225, 5, none⟩ (.bool (x10_7 == 1))).setCell ⟨gb225, 6, none⟩ (.slice Ao74 x229006_7.length co74))) ?hg ?ho ?hn ?hr ?_; (case ho => rfl); (case hg => rfl); (case hn => rfl); (case hr => first | (go_simp; done) | (go_simp; rfl)); intro w78 hw; have n0_ : Aside0 (Kd.R (Kd.int .i64) 3 w78 w.heap.size (fun _ => True) (.slice Ao74 x229006_7.length co74) x229006_7) := ⟨(by rw [hw]; exact (by (with_reducible repeat (first | apply Kd.R_alloc | apply Kd.R_drewN | apply Kd.R_drew)); exact Kd.R_mono (Kd.R_far (p := ⟨gb225, 6, none⟩) (Kd.R_far (p := ⟨gb225, 5, none⟩) (Kd.R_far (p := ⟨gb225, 4, none⟩) (Kd.R_far (p := ⟨gb225, 3, none⟩) (Kd.R_far (p := ⟨gb225, 2, none⟩) (Kd.R_far (p := ⟨gb225, 1, none⟩) (Kd.R_far (p := ⟨gb225, 0, none⟩) (Kd.R_types HO_229006.out BK225.out (by decide)) (fun _ hk => hk.2) (.int .i64 t226)) (fun _ hk => hk.2) (.string x229001_7)) (fun _ hk => hk.2) (.int .i64 x229002_7)) (fun _ hk => hk.2) (.int .i64 x229003_7)) (fun _ hk => hk.2) (.int .i64 x229004_7)) (fun _ hk => hk.2) (.bool (x10_7 == 1))) (fun _ hk => hk.2) (.slice Ao74 x229006_7.length co74)) (fun _ hk => trivial)))⟩; have n1_ : Aside0 (w78.heap[gb225]? = some (.cells #[.int .i64 t226, .string x229001_7, .int .i64 x229002_7, .int .i64 x229003_7, .int .i64 x229004_7, .bool (x10_7 == 1), .slice Ao74 x229006_7.length co74] 33 (0, 0))) := ⟨(by rw [hw]; exact (by exact put7 BK225.out))⟩; have n2_ : Aside0 (w78.heap[gb228]? = some (.cells #[.int .i64 t226, .string x229001_7, .int .i64 x229002_7, .int .i64 x229003_7, .int .i64 x229004_7, .bool (x10_7 == 1), .slice Ao74 x229006_7.length co74] 33 (0, 0))) := ⟨(by rw [hw]; exact (by (with_reducible repeat (first | refine blk_drewN ?_ _ | refine blk_drew ?_ | refine blk_alloc ?_ _)); refine blk_far ?_ NB228_225.out _; (with_reducible repeat (first | refine blk_drewN ?_ _ | refine blk_drew ?_ | refine blk_alloc ?_ _)); refine blk_far ?_ NB228_225.out _; (with_reducible repeat (first | refine blk_drewN ?_ _ | refine blk_drew ?_ | refine blk_alloc ?_ _)); refine blk_far ?_ NB228_225.out _; (with_reducible repeat (first | refine blk_drewN ?_ _ | refine blk_drew ?_ | refine blk_alloc ?_ _)); refine blk_far ?_ NB228_225.out _; (with_reducible repeat (first | refine blk_drewN ?_ _ | refine blk_drew ?_ | refine blk_alloc ?_ _)); refine blk_far ?_ NB228_225.out _; (with_reducible repeat (first | refine blk_drewN ?_ _ | refine blk_drew ?_ | refine blk_alloc ?_ _)); refine blk_far ?_ NB228_225.out _; (with_reducible repeat (first | refine blk_drewN ?_ _ | refine blk_drew ?_ | refine blk_alloc ?_ _)); refine blk_far ?_ NB228_225.out _; (with_reducible repeat (first | refine blk_drewN ?_ _ | refine blk_drew ?_ | refine blk_alloc ?_ _)); exact BK228.out))⟩; have n3_ : Aside0 (Below w.heap.size w w78) := ⟨(by rw [hw]; exact bA)⟩; clear hw; clear HO_229006; clear BK225; clear BK228; clear HB; have HO_229006 := n0_; have BK225 := n1_; have BK228 := n2_; have HB := n3_; clear n0_ n1_ n2_ n3_))
       refine bodyPost_ret (results_ct rfl _ _ gb225 33 #[.int .i64 t226, .string x229001_7, .int .i64 x229002_7, .int .i64 x229003_7, .int .i64 x229004_7, .bool (x10_7 == 1), .slice Ao74 x229006_7.length co74] (0, 0) _ rfl (by (with_reducible repeat (first | refine blk_drewN ?_ _ | refine blk_drew ?_ | refine blk_alloc ?_ _)); exact BK225.out) Try.underlying33 rfl (by kernel_rfl)) rfl ?_
       exact ⟨_, rE, by (with_reducible repeat (first | apply Kd.R_alloc | apply Kd.R_drewN | apply Kd.R_drew)); exact HO_229006.out, bA⟩
      ·replace c71 := Bool.eq_false_iff.mpr c71
       subst c71
       have H1 : (some (0, (⟨#[]⟩ : ByteArray), 0, 0, 0, false, ([] : List Int), (-1))) = some (r1, r2, r3, r4, r5, r6, r7, r8) := by rw [if_neg (show ¬ (false = true) by decide)] at H; exact H
       clear H
       have H := H1
       clear H1
       simp only [Option.some.injEq, Prod.mk.injEq] at H
       obtain ⟨rfl, rfl, rfl, rfl, rfl, rfl, rfl, rfl⟩ := H
       have hnb79 := NB228_225.out
       have hnc79 := NB225_228.out
       obtain ⟨⟨hcz80_0, hcz80_1, hcz80_2, hcz80_3, hcz80_4, hcz80_5, hcz80_6⟩, hfz80_0, hfz80_1, hfz80_2, hfz80_3, hfz80_4, hfz80_5, hfz80_6⟩ := Own.c7 BK228.out
       go_wp2_with (first | (go_at_call 67; (with_reducible refine (impl_in.calls x10_7 0 1 true _ A68.out).mono ?_); rintro e w' ⟨rfl, ⟨nd, rfl⟩⟩; obtain ⟨Ao81, co81, eo81⟩ := Kd.R_slice HO_229006.out; subst eo81) | (go_at_call 23; (with_reducible refine (impl_NodeOk.calls kj7 t226 x229001_7 x229002_7 x229003_7 x229004_7 (x10_7 == 1) _ _ x229006_7 false _ ?side1 ?side2 A70.out).mono ?_); (case side1 => refine (Kd.R_reads' (e := 3) (base := w.heap.size) (ok := fun k_ => True) (n := x229006_7.length) (c := co81) ?_).2.2; exact (by (with_reducible repeat (first | apply Kd.R_alloc | apply Kd.R_drewN | apply Kd.R_drew)); exact (Kd.R_mono (Kd.R_far (p := ⟨gb228, 5, none⟩) (Kd.R_types HO_229006.out BK228.out (by decide)) (fun _ hk => hk.2) (.bool (x10_7 == 1))) (fun _ h_ => h_.1)))); (case side2 => exact (Kd.R_reads' HO_229006.out).2.1); rintro e w82 ⟨rfl, hb⟩; have n0_ := Aside0.mk (Kd.R_below (by (with_reducible repeat (first | apply Kd.R_alloc | apply Kd.R_drewN | apply Kd.R_drew)); exact (Kd.R_mono (Kd.R_far (p := ⟨gb228, 5, none⟩) (Kd.R_types HO_229006.out BK228.out (by decide)) (fun _ hk => hk.2) (.bool (x10_7 == 1))) (fun _ h_ => h_.1))) hb); have n1_ := Aside0.mk (blk_below (g := gb225) (o := .cells #[.int .i64 0, .string (⟨#[]⟩ : ByteArray), .int .i64 0, .int .i64 0, .int .i64 0, .bool false, .slice none 0 0] 33 (0, 0)) (by (with_reducible repeat (first | refine blk_drewN ?_ _ | refine blk_drew ?_ | refine blk_alloc ?_ _)); refine blk_far ?_ NB225_228.out _; (with_reducible repeat (first | refine blk_drewN ?_ _ | refine blk_drew ?_ | refine blk_alloc ?_ _)); exact BK225.out) hb); have n2_ := Aside0.mk (blk_below (g := gb228) (o := .cells #[.int .i64 t226, .string x229001_7, .int .i64 x229002_7, .int .i64 x229003_7, .int .i64 x229004_7, .bool (x10_7 == 1), .slice Ao81 x229006_7.length co81] 33 (0, 0)) (by (with_reducible repeat (first | refine blk_drewN ?_ _ | refine blk_drew ?_ | refine blk_alloc ?_ _)); refine blk_put (cs := #[.int .i64 t226, .string x229001_7, .int .i64 x229002_7, .int .i64 x229003_7, .int .i64 x229004_7, .bool false, .slice Ao81 x229006_7.length co81]) ?_ 5 _ rfl; (with_reducible repeat (first | refine blk_drewN ?_ _ | refine blk_drew ?_ | refine blk_alloc ?_ _)); exact BK228.out) hb); have n3_ := Aside0.mk (below_step bA hb); clear HO_229006; clear BK225; clear BK228; clear HB; have HO_229006 := n0_; have BK225 := n1_; have BK228 := n2_; have HB := n3_; clear n0_ n1_ n2_ n3_; (try clear hb); (try clear hb2); (try clear hk); (try clear hi); obtain ⟨⟨hcz83_0, hcz83_1, hcz83_2, hcz83_3, hcz83_4, hcz83_5, hcz83_6⟩, hfz83_0, hfz83_1, hfz83_2, hfz83_3, hfz83_4, hfz83_5, hfz83_6⟩ := Own.c7 BK225.out) | ((with_reducible refine gate_store (t := 33) (p := 4) rfl ?_); refine store_event (t := 33) (p := 4) (v := ?vo_w84) (w1 := (((((((w82.setCell ⟨gb225, 0, none⟩ (.int .i64 0)).setCell ⟨gb225, 1, none⟩ (.string (⟨#[]⟩ : ByteArray))).setCell ⟨gb225, 2, none⟩ (.int .i64 0)).setCell ⟨gb225, 3, none⟩ (.int .i64 0)).setCell ⟨gb225, 4, none⟩ (.int .i64 0)).setCell ⟨gb225, 5, none⟩ (.bool false)).setCell ⟨gb225, 6, none⟩ (.slice none 0 0))) ?hg ?ho ?hn ?hr ?_; (case ho => rfl); (case hg => rfl); (case hn => rfl); (case hr => first | (go_simp; done) | (go_simp; rfl)); intro w84 hw; have n0_ : Aside0 (Kd.R (Kd.int .i64) 3 w84 w.heap.size (fun _ => True) (.slice Ao81 x229006_7.length co81) x229006_7) := ⟨(by rw [hw]; exact (by (with_reducible repeat (first | apply Kd.R_alloc | apply Kd.R_drewN | apply Kd.R_drew)); exact Kd.R_mono (Kd.R_far (p := ⟨gb225, 6, none⟩) (Kd.R_far (p := ⟨gb225, 5, none⟩) (Kd.R_far (p := ⟨gb225, 4, none⟩) (Kd.R_far (p := ⟨gb225, 3, none⟩) (Kd.R_far (p := ⟨gb225, 2, none⟩) (Kd.R_far (p := ⟨gb225, 1, none⟩) (Kd.R_far (p := ⟨gb225, 0, none⟩) (Kd.R_types HO_229006.out BK225.out (by decide)) (fun _ hk => hk.2) (.int .i64 0)) (fun _ hk => hk.2) (.string (⟨#[]⟩ : ByteArray))) (fun _ hk => hk.2) (.int .i64 0)) (fun _ hk => hk.2) (.int .i64 0)) (fun _ hk => hk.2) (.int .i64 0)) (fun _ hk => hk.2) (.bool false)) (fun _ hk => hk.2) (.slice none 0 0)) (fun _ hk => trivial)))⟩; have n1_ : Aside0 (w84.heap[gb225]? = some (.cells #[.int .i64 0, .string (⟨#[]⟩ : ByteArray), .int .i64 0, .int .i64 0, .int .i64 0, .bool false, .slice none 0 0] 33 (0, 0))) := ⟨(by rw [hw]; exact (by exact put7 BK225.out))⟩; have n2_ : Aside0 (w84.heap[gb228]? = some (.cells #[.int .i64 t226, .string x229001_7, .int .i64 x229002_7, .int .i64 x229003_7, .int .i64 x229004_7, .bool (x10_7 == 1), .slice Ao81 x229006_7.length co81] 33 (0, 0))) := ⟨(by rw [hw]; exact (by (with_reducible repeat (first | refine blk_drewN ?_ _ | refine blk_drew ?_ | refine blk_alloc ?_ _)); refine blk_far ?_ NB228_225.out _; (with_reducible repeat (first | refine blk_drewN ?_ _ | refine blk_drew ?_ | refine blk_alloc ?_ _)); refine blk_far ?_ NB228_225.out _; (with_reducible repeat (first | refine blk_drewN ?_ _ | refine blk_drew ?_ | refine blk_alloc ?_ _)); refine blk_far ?_ NB228_225.out _; (with_reducible repeat (first | refine blk_drewN ?_ _ | refine blk_drew ?_ | refine blk_alloc ?_ _)); refine blk_far ?_ NB228_225.out _; (with_reducible repeat (first | refine blk_drewN ?_ _ | refine blk_drew ?_ | refine blk_alloc ?_ _)); refine blk_far ?_ NB228_225.out _; (with_reducible repeat (first | refine blk_drewN ?_ _ | refine blk_drew ?_ | refine blk_alloc ?_ _)); refine blk_far ?_ NB228_225.out _; (with_reducible repeat (first | refine blk_drewN ?_ _ | refine blk_drew ?_ | refine blk_alloc ?_ _)); refine blk_far ?_ NB228_225.out _; (with_reducible repeat (first | refine blk_drewN ?_ _ | refine blk_drew ?_ | refine blk_alloc ?_ _)); exact BK228.out))⟩; have n3_ : Aside0 (Below w.heap.size w w84) := ⟨(by rw [hw]; exact bA)⟩; clear hw; clear HO_229006; clear BK225; clear BK228; clear HB; have HO_229006 := n0_; have BK225 := n1_; have BK228 := n2_; have HB := n3_; clear n0_ n1_ n2_ n3_))
       refine bodyPost_ret (results_ct rfl _ _ gb225 33 #[.int .i64 0, .string (⟨#[]⟩ : ByteArray), .int .i64 0, .int .i64 0, .int .i64 0, .bool false, .slice none 0 0] (0, 0) _ rfl (by (with_reducible repeat (first | refine blk_drewN ?_ _ | refine blk_drew ?_ | refine blk_alloc ?_ _)); exact BK225.out) Try.underlying33 rfl (by kernel_rfl)) rfl ?_
       exact ⟨.slice none 0 0, rE, by first | exact Kd.R_nil _ _ _ _ _ | exact Kd.N_nil _ _ _ _ _ | exact Kd.V_nil _ _ _ _ _ | exact Kd.Q_nil _ _ _ _ _ | exact Kd.S_nil _ _ _ _ _, bA⟩
     ·replace c69 := Bool.eq_false_iff.mpr c69
      subst c69
      have H1 : (some (0, (⟨#[]⟩ : ByteArray), 0, 0, 0, false, ([] : List Int), (-1))) = some (r1, r2, r3, r4, r5, r6, r7, r8) := by rw [if_neg (show ¬ (false = true) by decide)] at H; exact H
      clear H
      have H := H1
      clear H1
      simp only [Option.some.injEq, Prod.mk.injEq] at H
      obtain ⟨rfl, rfl, rfl, rfl, rfl, rfl, rfl, rfl⟩ := H
      have hnb85 := NB228_225.out
      have hnc85 := NB225_228.out
      obtain ⟨⟨hcz86_0, hcz86_1, hcz86_2, hcz86_3, hcz86_4, hcz86_5, hcz86_6⟩, hfz86_0, hfz86_1, hfz86_2, hfz86_3, hfz86_4, hfz86_5, hfz86_6⟩ := Own.c7 BK228.out
      go_wp2_with (first | (go_at_call 67; (with_reducible refine (impl_in.calls x10_7 0 1 false _ A68.out).mono ?_); rintro e wq ⟨rfl, ⟨nd, hw⟩⟩; have n0_ : Aside0 (wq.heap[gb225]? = some (.cells #[.int .i64 0, .string (⟨#[]⟩ : ByteArray), .int .i64 0, .int .i64 0, .int .i64 0, .bool false, .slice none 0 0] 33 (0, 0))) := ⟨by rw [hw]; exact blk_drewN (blk_far BK225.out NB225_228.out _) _⟩; have n1_ : Aside0 (Below w.heap.size w wq) := ⟨by rw [hw]; exact bA⟩; clear BK225 HB hw; have BK225 := n0_; have HB := n1_; clear n0_ n1_; obtain ⟨⟨hq_0, hq_1, hq_2, hq_3, hq_4, hq_5, hq_6⟩, hr_0, hr_1, hr_2, hr_3, hr_4, hr_5, hr_6⟩ := Own.c7 BK225.out) | ((with_reducible refine gate_store (t := 33) (p := 4) rfl ?_); refine store_event (t := 33) (p := 4) (v := ?vo_w88) (w1 := (((((((wq.setCell ⟨gb225, 0, none⟩ (.int .i64 0)).setCell ⟨gb225, 1, none⟩ (.string (⟨#[]⟩ : ByteArray))).setCell ⟨gb225, 2, none⟩ (.int .i64 0)).setCell ⟨gb225, 3, none⟩ (.int .i64 0)).setCell ⟨gb225, 4, none⟩ (.int .i64 0)).setCell ⟨gb225, 5, none⟩ (.bool false)).setCell ⟨gb225, 6, none⟩ (.slice none 0 0))) ?hg ?ho ?hn ?hr ?_; (case ho => rfl); (case hg => rfl); (case hn => rfl); (case hr => first | (go_simp; done) | (go_simp; rfl)); intro wr hw; have n0_ : Aside0 (wr.heap[gb225]? = some (.cells #[.int .i64 0, .string (⟨#[]⟩ : ByteArray), .int .i64 0, .int .i64 0, .int .i64 0, .bool false, .slice none 0 0] 33 (0, 0))) := ⟨by rw [hw]; exact put7 BK225.out⟩; have n1_ : Aside0 (Below w.heap.size w wr) := ⟨by rw [hw]; exact bA⟩; clear hw; clear BK225 HB; have BK225 := n0_; have HB := n1_; clear n0_ n1_))
      refine bodyPost_ret (results_ct rfl _ _ gb225 33 #[.int .i64 0, .string (⟨#[]⟩ : ByteArray), .int .i64 0, .int .i64 0, .int .i64 0, .bool false, .slice none 0 0] (0, 0) _ rfl (by (with_reducible repeat (first | refine blk_drewN ?_ _ | refine blk_drew ?_ | refine blk_alloc ?_ _)); exact BK225.out) Try.underlying33 rfl (by kernel_rfl)) rfl ?_
      exact ⟨.slice none 0 0, rE, by first | exact Kd.R_nil _ _ _ _ _ | exact Kd.N_nil _ _ _ _ _ | exact Kd.V_nil _ _ _ _ _ | exact Kd.Q_nil _ _ _ _ _ | exact Kd.S_nil _ _ _ _ _, bA⟩

end Go.Proofs.Ytmjfnkebpdmhbaa.Q
