/- The machine side of a law, written by a program of this session over the translation: for each Go function a Lean function with the same answers, and the proof that the Go code comes to them. -/
import Derived.Test.YtbdfidnldaghbaaQx0
import Derived.Test.YtbdfidnldaghbaaQx3
namespace Go.Proofs.Ytbdfidnldaghbaa.Q
open Go.RowKit Go.Proofs.Ytbdfidnldaghbaa.Own Go.Proofs.YtbdfidnldaghbaaW.PrintWords Go.Proofs.YtbdfidnldaghbaaW.PrintLast Go.Proofs.YtbdfidnldaghbaaW.PrintMore
attribute [local go_sem] max2_int min2_int max_two min_two max_three min_three max_four min_four   -- for this text's walks alone
set_option linter.unusedVariables false
set_option linter.unusedSimpArgs false

/-! ### impl_NodeOk: function 82 -/
def impl_NodeOk.j0 : Nat → Bool → Int → ByteArray → Int → Int → Int → Bool → List Int → Int → ByteArray → Int → Int → Int → Bool → List Int → Option (Bool)
 | 0, _, _, _, _, _, _, _, _, _, _, _, _, _, _, _ => none
 | k + 1, x4, x379000, x379001, x379002, x379003, x379004, x379005, x379006, x380000, x380001, x380002, x380003, x380004, x380005, x380006 => if x379003 = 3 then (if x4 = true then (if x379004 = 0 then (if x379005 = true then (some false) else ((impl_sameNode.f k x380000 x380001 0 0 0 false x380006 0 (⟨#[]⟩ : ByteArray) 0 0 0 false ([] : List Int)).bind fun t384 => (some t384))) else (some false)) else (some false)) else (if x379005 = true then (if x4 = true then ((impl_isSlot.f x379004).bind fun t385 => (if t385 = true then ((impl_sameNode.f k x380000 x380001 0 0 0 false x380006 0 (⟨#[]⟩ : ByteArray) 0 0 0 false ([] : List Int)).bind fun t386 => (some t386)) else (some false))) else (some false)) else (if x4 = true then ((impl_isNum.f x379004).bind fun t387 => (if t387 = true then ((impl_sameNode.f k x380000 x380001 0 0 0 false x380006 0 (⟨#[]⟩ : ByteArray) 0 0 0 false ([] : List Int)).bind fun t388 => (some t388)) else (some false))) else (some false)))
def impl_NodeOk.f (k : Nat) (a0_0 : Int) (a0_1 : ByteArray) (a0_2 : Int) (a0_3 : Int) (a0_4 : Int) (a0_5 : Bool) (l0_6 : List Int) : Option (Bool) := if a0_0 = 0 then ((impl_WordOk.f k a0_1).bind fun t380 => (if t380 = true then ((impl_sameNode.f k 0 (⟨#[]⟩ : ByteArray) a0_2 a0_3 a0_4 a0_5 l0_6 0 (⟨#[]⟩ : ByteArray) 0 0 0 false ([] : List Int)).bind fun t381 => (some t381)) else (some false))) else (if a0_0 = 1 then ((impl_isCol.f a0_2).bind fun t382 => (if t382 = true then ((impl_in.f a0_3 0 3).bind fun t383 => (impl_NodeOk.j0 k t383 a0_0 a0_1 a0_2 a0_3 a0_4 a0_5 l0_6 0 a0_1 a0_2 a0_3 a0_4 a0_5 l0_6)) else (impl_NodeOk.j0 k false a0_0 a0_1 a0_2 a0_3 a0_4 a0_5 l0_6 0 a0_1 a0_2 a0_3 a0_4 a0_5 l0_6))) else (if a0_0 = 2 then ((impl_in.f (l0_6.length : Int) 1 6).bind fun t389 => (if t389 = true then ((slices_ContainsFunc_int_int.f k l0_6).bind fun t390 => (if t390 = true then (some false) else ((impl_sameNode.f k 0 a0_1 a0_2 a0_3 a0_4 a0_5 ([] : List Int) 0 (⟨#[]⟩ : ByteArray) 0 0 0 false ([] : List Int)).bind fun t391 => (some t391)))) else (some false))) else (if a0_0 = 3 then ((impl_isCol.f a0_2).bind fun t392 => (if t392 = true then ((impl_isCol.f a0_4).bind fun t393 => (if t393 = true then ((impl_sameNode.f k 0 a0_1 0 a0_3 0 a0_5 l0_6 0 (⟨#[]⟩ : ByteArray) 0 0 0 false ([] : List Int)).bind fun t394 => (some t394)) else (some false))) else (some false))) else (if a0_0 = 5 then ((impl_isCol.f a0_2).bind fun t395 => (if t395 = true then ((impl_sameNode.f k 0 a0_1 0 a0_3 a0_4 a0_5 l0_6 0 (⟨#[]⟩ : ByteArray) 0 0 0 false ([] : List Int)).bind fun t396 => (some t396)) else (some false))) else (if a0_0 = 6 then ((impl_in.f a0_4 0 1000000).bind fun t397 => (if t397 = true then (if a0_5 = true then ((impl_isSlot.f a0_4).bind fun t398 => (if t398 = true then ((impl_sameNode.f k 0 a0_1 a0_2 a0_3 0 false l0_6 0 (⟨#[]⟩ : ByteArray) 0 0 0 false ([] : List Int)).bind fun t399 => (some t399)) else (some false))) else ((impl_sameNode.f k 0 a0_1 a0_2 a0_3 0 false l0_6 0 (⟨#[]⟩ : ByteArray) 0 0 0 false ([] : List Int)).bind fun t400 => (some t400))) else (some false))) else (if a0_0 = 4 then ((impl_sameNode.f k 0 a0_1 a0_2 a0_3 a0_4 a0_5 l0_6 0 (⟨#[]⟩ : ByteArray) 0 0 0 false ([] : List Int)).bind fun t401 => (some t401)) else (if a0_0 = 7 then ((impl_sameNode.f k 0 a0_1 a0_2 a0_3 a0_4 a0_5 l0_6 0 (⟨#[]⟩ : ByteArray) 0 0 0 false ([] : List Int)).bind fun t402 => (some t402)) else (some false))))))))
theorem impl_NodeOk.mono_l : ∀ k, (∀ y0 y1 y2 y3 y4 y5 y6 y7 y8 y9 y10 y11 y12 y13 y14, LeO (impl_NodeOk.j0 k y0 y1 y2 y3 y4 y5 y6 y7 y8 y9 y10 y11 y12 y13 y14) (impl_NodeOk.j0 (k + 1) y0 y1 y2 y3 y4 y5 y6 y7 y8 y9 y10 y11 y12 y13 y14))
 | 0 => fun _ _ _ _ _ _ _ _ _ _ _ _ _ _ _ r h => by simp [impl_NodeOk.j0] at h
 | k + 1 => by
  have ih0 := impl_NodeOk.mono_l k
  ·intro y0 y1 y2 y3 y4 y5 y6 y7 y8 y9 y10 y11 y12 y13 y14
   unfold impl_NodeOk.j0
   repeat' first
   | (with_reducible exact ih0 _ _ _ _ _ _ _ _ _ _ _ _ _ _ _)
   | (with_reducible exact impl_WordOk.mono _ _)
   | (with_reducible exact impl_sameNode.mono _ _ _ _ _ _ _ _ _ _ _ _ _ _ _)
   | (with_reducible exact slices_ContainsFunc_int_int.mono _ _)
   | (with_reducible exact LeO.refl _)
   | (with_reducible exact LeO.none _)
   | (with_reducible refine LeO.ite ?_ ?_)
   | (with_reducible refine LeO.bind ?_ (fun _ => ?_))
   | exact ih0 _ _ _ _ _ _ _ _ _ _ _ _ _ _ _
   | exact impl_WordOk.mono _ _
   | exact impl_sameNode.mono _ _ _ _ _ _ _ _ _ _ _ _ _ _ _
   | exact slices_ContainsFunc_int_int.mono _ _
   | exact LeO.none _
   | refine LeO.ite ?_ ?_
   | refine LeO.bind ?_ (fun _ => ?_)
theorem impl_NodeOk.mono : ∀ a0 a1 a2 a3 a4 a5 a6 k, LeO (impl_NodeOk.f k a0 a1 a2 a3 a4 a5 a6) (impl_NodeOk.f (k + 1) a0 a1 a2 a3 a4 a5 a6) := by
 intro a0 a1 a2 a3 a4 a5 a6 k
 have ih0 := impl_NodeOk.mono_l k
 unfold impl_NodeOk.f
 repeat' first
   | (with_reducible exact ih0 _ _ _ _ _ _ _ _ _ _ _ _ _ _ _)
   | (with_reducible exact impl_WordOk.mono _ _)
   | (with_reducible exact impl_sameNode.mono _ _ _ _ _ _ _ _ _ _ _ _ _ _ _)
   | (with_reducible exact slices_ContainsFunc_int_int.mono _ _)
   | (with_reducible exact LeO.refl _)
   | (with_reducible exact LeO.none _)
   | (with_reducible refine LeO.ite ?_ ?_)
   | (with_reducible refine LeO.bind ?_ (fun _ => ?_))
   | exact ih0 _ _ _ _ _ _ _ _ _ _ _ _ _ _ _
   | exact impl_WordOk.mono _ _
   | exact impl_sameNode.mono _ _ _ _ _ _ _ _ _ _ _ _ _ _ _
   | exact slices_ContainsFunc_int_int.mono _ _
   | exact LeO.none _
   | refine LeO.ite ?_ ?_
   | refine LeO.bind ?_ (fun _ => ?_)
set_option maxHeartbeats 8000000 in
set_option maxRecDepth 100000 in
theorem impl_NodeOk.calls (k : Nat) (a0_0 : Int) (a0_1 : ByteArray) (a0_2 : Int) (a0_3 : Int) (a0_4 : Int) (a0_5 : Bool) (A0_6 : Option Addr) (c0_6 : Nat) (l0_6 : List Int) (r : Bool) (w : World) (hr0_6 : Kd.C (Kd.int .i64) w A0_6 l0_6.length l0_6) (hc0_6 : l0_6.length ≤ c0_6) (h : impl_NodeOk.f k a0_0 a0_1 a0_2 a0_3 a0_4 a0_5 l0_6 = some r) :
  Calls Try.prog 82 #[.agg #[.int .i64 a0_0, .string a0_1, .int .i64 a0_2, .int .i64 a0_3, .int .i64 a0_4, .bool a0_5, .slice A0_6 l0_6.length c0_6]] w fun e w' => e = .returned (.bool r) ∧ Below w.heap.size w w' := by
 have hu58 := Try.underlying58
 have HR0_6 := Aside0.mk hr0_6
 have HC0_6 := Aside0.mk hc0_6
 clear hr0_6 hc0_6
 have HB := Aside0.mk (Below.refl w.heap.size w)
 have H : (if a0_0 = 0 then ((impl_WordOk.f k a0_1).bind fun t380 => (if t380 = true then ((impl_sameNode.f k 0 (⟨#[]⟩ : ByteArray) a0_2 a0_3 a0_4 a0_5 l0_6 0 (⟨#[]⟩ : ByteArray) 0 0 0 false ([] : List Int)).bind fun t381 => (some t381)) else (some false))) else (if a0_0 = 1 then ((impl_isCol.f a0_2).bind fun t382 => (if t382 = true then ((impl_in.f a0_3 0 3).bind fun t383 => (impl_NodeOk.j0 k t383 a0_0 a0_1 a0_2 a0_3 a0_4 a0_5 l0_6 0 a0_1 a0_2 a0_3 a0_4 a0_5 l0_6)) else (impl_NodeOk.j0 k false a0_0 a0_1 a0_2 a0_3 a0_4 a0_5 l0_6 0 a0_1 a0_2 a0_3 a0_4 a0_5 l0_6))) else (if a0_0 = 2 then ((impl_in.f (l0_6.length : Int) 1 6).bind fun t389 => (if t389 = true then ((slices_ContainsFunc_int_int.f k l0_6).bind fun t390 => (if t390 = true then (some false) else ((impl_sameNode.f k 0 a0_1 a0_2 a0_3 a0_4 a0_5 ([] : List Int) 0 (⟨#[]⟩ : ByteArray) 0 0 0 false ([] : List Int)).bind fun t391 => (some t391)))) else (some false))) else (if a0_0 = 3 then ((impl_isCol.f a0_2).bind fun t392 => (if t392 = true then ((impl_isCol.f a0_4).bind fun t393 => (if t393 = true then ((impl_sameNode.f k 0 a0_1 0 a0_3 0 a0_5 l0_6 0 (⟨#[]⟩ : ByteArray) 0 0 0 false ([] : List Int)).bind fun t394 => (some t394)) else (some false))) else (some false))) else (if a0_0 = 5 then ((impl_isCol.f a0_2).bind fun t395 => (if t395 = true then ((impl_sameNode.f k 0 a0_1 0 a0_3 a0_4 a0_5 l0_6 0 (⟨#[]⟩ : ByteArray) 0 0 0 false ([] : List Int)).bind fun t396 => (some t396)) else (some false))) else (if a0_0 = 6 then ((impl_in.f a0_4 0 1000000).bind fun t397 => (if t397 = true then (if a0_5 = true then ((impl_isSlot.f a0_4).bind fun t398 => (if t398 = true then ((impl_sameNode.f k 0 a0_1 a0_2 a0_3 0 false l0_6 0 (⟨#[]⟩ : ByteArray) 0 0 0 false ([] : List Int)).bind fun t399 => (some t399)) else (some false))) else ((impl_sameNode.f k 0 a0_1 a0_2 a0_3 0 false l0_6 0 (⟨#[]⟩ : ByteArray) 0 0 0 false ([] : List Int)).bind fun t400 => (some t400))) else (some false))) else (if a0_0 = 4 then ((impl_sameNode.f k 0 a0_1 a0_2 a0_3 a0_4 a0_5 l0_6 0 (⟨#[]⟩ : ByteArray) 0 0 0 false ([] : List Int)).bind fun t401 => (some t401)) else (if a0_0 = 7 then ((impl_sameNode.f k 0 a0_1 a0_2 a0_3 a0_4 a0_5 l0_6 0 (⟨#[]⟩ : ByteArray) 0 0 0 false ([] : List Int)).bind fun t402 => (some t402)) else (some false))))))))) = some r := h
 clear h
 go_enter Try.func82, Try.ntmps82
 go_upto_block 0 with (first | ((with_reducible refine gate_dst (N := 1) rfl ?_); refine box_event ?hg (N := 1) ?hd (cs := #[.int .i64 a0_0, .string a0_1, .int .i64 a0_2, .int .i64 a0_3, .int .i64 a0_4, .bool a0_5, .slice A0_6 l0_6.length c0_6]) (t := 58) ?hr ?_; (case hd => rfl); (case hg => rfl); (case hr => first | (go_simp; done) | (go_simp; rfl)); intro gb378 hg w6 hbox hb; have n0_ := Aside0.mk (below_step bA hb); have n1_ := Aside0.mk (hbox); have n2_ := Aside0.mk ((by rw [hg]; exact (below_size bA) : w.heap.size ≤ gb378)); have n3_ := Aside0.mk ((by rw [hg]; exact (below_size bA) : w.heap.size ≤ gb378)); clear HB; have HB := n0_; have BK378 := n1_; have GW378 := n2_; have GE378 := n3_; clear n0_ n1_ n2_ n3_; clear hb hbox hg; obtain ⟨⟨hcz7_0, hcz7_1, hcz7_2, hcz7_3, hcz7_4, hcz7_5, hcz7_6⟩, hfz7_0, hfz7_1, hfz7_2, hfz7_3, hfz7_4, hfz7_5, hfz7_6⟩ := Own.c7 BK378.out) | ((with_reducible refine gate_dst (N := 3) rfl ?_); refine box_event ?hg (N := 3) ?hd (cs := #[.int .i64 0, .string (⟨#[]⟩ : ByteArray), .int .i64 0, .int .i64 0, .int .i64 0, .bool false, .slice none 0 0]) (t := 58) ?hr ?_; (case hd => rfl); (case hg => rfl); (case hr => first | (go_simp; done) | (go_simp; rfl)); intro gb379 hg w8 hbox hb; have n0_ := Aside0.mk (blk_below (g := gb378) (o := .cells #[.int .i64 a0_0, .string a0_1, .int .i64 a0_2, .int .i64 a0_3, .int .i64 a0_4, .bool a0_5, .slice A0_6 l0_6.length c0_6] 58 (0, 0)) (by (with_reducible repeat (first | refine blk_drewN ?_ _ | refine blk_drew ?_ | refine blk_alloc ?_ _)); exact BK378.out) hb); have n1_ := Aside0.mk (below_step bA hb); have n2_ := Aside0.mk (hbox); have n3_ := Aside0.mk ((by rw [hg]; exact (below_size bA) : w.heap.size ≤ gb379)); have n4_ := Aside0.mk ((by rw [hg]; exact (below_size bA) : w.heap.size ≤ gb379)); have n5_ := Aside0.mk ((by rw [hg]; exact Nat.ne_of_lt (blk_lt (g := gb378) (o := .cells #[.int .i64 a0_0, .string a0_1, .int .i64 a0_2, .int .i64 a0_3, .int .i64 a0_4, .bool a0_5, .slice A0_6 l0_6.length c0_6] 58 (0, 0)) (by (with_reducible repeat (first | refine blk_drewN ?_ _ | refine blk_drew ?_ | refine blk_alloc ?_ _)); exact BK378.out)) : gb378 ≠ gb379)); have n6_ := Aside0.mk ((by rw [hg]; exact Nat.ne_of_gt (blk_lt (g := gb378) (o := .cells #[.int .i64 a0_0, .string a0_1, .int .i64 a0_2, .int .i64 a0_3, .int .i64 a0_4, .bool a0_5, .slice A0_6 l0_6.length c0_6] 58 (0, 0)) (by (with_reducible repeat (first | refine blk_drewN ?_ _ | refine blk_drew ?_ | refine blk_alloc ?_ _)); exact BK378.out)) : gb379 ≠ gb378)); clear BK378; clear HB; have BK378 := n0_; have HB := n1_; have BK379 := n2_; have GW379 := n3_; have GE379 := n4_; have NB378_379 := n5_; have NB379_378 := n6_; clear n0_ n1_ n2_ n3_ n4_ n5_ n6_; clear hb hbox hg; have hnb9 := NB379_378.out; have hnc9 := NB378_379.out; obtain ⟨⟨hcz10_0, hcz10_1, hcz10_2, hcz10_3, hcz10_4, hcz10_5, hcz10_6⟩, hfz10_0, hfz10_1, hfz10_2, hfz10_3, hfz10_4, hfz10_5, hfz10_6⟩ := Own.c7 BK379.out) | ((with_reducible refine gate_store (t := 58) (p := 3) rfl ?_); refine store_event (t := 58) (p := 3) (v := ?vo_w11) (w1 := (((((((w8.setCell ⟨gb379, 0, none⟩ (.int .i64 a0_0)).setCell ⟨gb379, 1, none⟩ (.string a0_1)).setCell ⟨gb379, 2, none⟩ (.int .i64 a0_2)).setCell ⟨gb379, 3, none⟩ (.int .i64 a0_3)).setCell ⟨gb379, 4, none⟩ (.int .i64 a0_4)).setCell ⟨gb379, 5, none⟩ (.bool a0_5)).setCell ⟨gb379, 6, none⟩ (.slice A0_6 l0_6.length c0_6))) ?hg ?ho ?hn ?hr ?_; (case ho => rfl); (case hg => rfl); (case hn => rfl); (case hr => first | (go_simp; done) | (go_simp; rfl)); intro w11 hw; have n0_ : Aside0 (w11.heap[gb378]? = some (.cells #[.int .i64 a0_0, .string a0_1, .int .i64 a0_2, .int .i64 a0_3, .int .i64 a0_4, .bool a0_5, .slice A0_6 l0_6.length c0_6] 58 (0, 0))) := ⟨(by rw [hw]; exact (by (with_reducible repeat (first | refine blk_drewN ?_ _ | refine blk_drew ?_ | refine blk_alloc ?_ _)); refine blk_far ?_ NB378_379.out _; (with_reducible repeat (first | refine blk_drewN ?_ _ | refine blk_drew ?_ | refine blk_alloc ?_ _)); refine blk_far ?_ NB378_379.out _; (with_reducible repeat (first | refine blk_drewN ?_ _ | refine blk_drew ?_ | refine blk_alloc ?_ _)); refine blk_far ?_ NB378_379.out _; (with_reducible repeat (first | refine blk_drewN ?_ _ | refine blk_drew ?_ | refine blk_alloc ?_ _)); refine blk_far ?_ NB378_379.out _; (with_reducible repeat (first | refine blk_drewN ?_ _ | refine blk_drew ?_ | refine blk_alloc ?_ _)); refine blk_far ?_ NB378_379.out _; (with_reducible repeat (first | refine blk_drewN ?_ _ | refine blk_drew ?_ | refine blk_alloc ?_ _)); refine blk_far ?_ NB378_379.out _; (with_reducible repeat (first | refine blk_drewN ?_ _ | refine blk_drew ?_ | refine blk_alloc ?_ _)); refine blk_far ?_ NB378_379.out _; (with_reducible repeat (first | refine blk_drewN ?_ _ | refine blk_drew ?_ | refine blk_alloc ?_ _)); exact BK378.out))⟩; have n1_ : Aside0 (w11.heap[gb379]? = some (.cells #[.int .i64 a0_0, .string a0_1, .int .i64 a0_2, .int .i64 a0_3, .int .i64 a0_4, .bool a0_5, .slice A0_6 l0_6.length c0_6] 58 (0, 0))) := ⟨(by rw [hw]; exact (by exact put7 BK379.out))⟩; have n2_ : Aside0 (Below w.heap.size w w11) := ⟨(by rw [hw]; exact bA)⟩; clear hw; clear BK378; clear BK379; clear HB; have BK378 := n0_; have BK379 := n1_; have HB := n2_; clear n0_ n1_ n2_; obtain ⟨⟨hcz12_0, hcz12_1, hcz12_2, hcz12_3, hcz12_4, hcz12_5, hcz12_6⟩, hfz12_0, hfz12_1, hfz12_2, hfz12_3, hfz12_4, hfz12_5, hfz12_6⟩ := Own.c7 BK379.out; obtain ⟨⟨hcz13_0, hcz13_1, hcz13_2, hcz13_3, hcz13_4, hcz13_5, hcz13_6⟩, hfz13_0, hfz13_1, hfz13_2, hfz13_3, hfz13_4, hfz13_5, hfz13_6⟩ := Own.c7 BK378.out))
 by_cases c2 : a0_0 = 0
 ·rw [if_pos c2] at H
  have c2b0 : (a0_0 == 0) = true := beq_iff_eq.mpr c2
  have c2b1 : (a0_0 != 0) = false := bne_eq_false_iff_eq.mpr c2
  clear c2
  replace H := Option.bind_eq_some_iff.mp H
  obtain ⟨t380, A30, H⟩ := H
  replace H : (if t380 = true then ((impl_sameNode.f k 0 (⟨#[]⟩ : ByteArray) a0_2 a0_3 a0_4 a0_5 l0_6 0 (⟨#[]⟩ : ByteArray) 0 0 0 false ([] : List Int)).bind fun t381 => (some t381)) else (some false)) = some r := H
  have A3 := Aside0.mk A30
  clear A30
  by_cases c4 : t380 = true
  ·subst c4
   have H1 : ((impl_sameNode.f k 0 (⟨#[]⟩ : ByteArray) a0_2 a0_3 a0_4 a0_5 l0_6 0 (⟨#[]⟩ : ByteArray) 0 0 0 false ([] : List Int)).bind fun t381 => (some t381)) = some r := by rw [if_pos rfl] at H; exact H
   clear H
   have H := H1
   clear H1
   replace H := Option.bind_eq_some_iff.mp H
   obtain ⟨t381, A50, H⟩ := H
   replace H : (some t381) = some r := H
   have A5 := Aside0.mk A50
   clear A50
   obtain rfl := Option.some.inj H
   go_wp2_with (first | ((with_reducible refine gate_callee (f := 68) rfl ?_); refine goesL_ (some 13) rfl rfl Try.func68 (by kernel_rfl) rfl #[.string a0_1] rfl aL ?_; (with_reducible refine (impl_WordOk.calls k a0_1 true _ A3.out).mono ?_); rintro e w' ⟨rfl, ⟨nd, rfl⟩⟩; refine ⟨_, rfl, ?_⟩) | (go_at_call 92; (refine (impl_sameNode.calls k 0 (⟨#[]⟩ : ByteArray) a0_2 a0_3 a0_4 a0_5 _ _ l0_6 0 (⟨#[]⟩ : ByteArray) 0 0 0 false _ _ ([] : List Int) t381 _ ?side1 ?side2 ?side3 ?side4 A5.out).mono ?_); (case side1 => exact Kd.C_below HR0_6.out bA); (case side2 => exact HC0_6.out); (case side3 => exact Kd.C_nil _ _); (case side4 => exact Nat.le_refl _); rintro e w14 ⟨rfl, hb⟩; have n0_ := Aside0.mk (blk_below (g := gb378) (o := .cells #[.int .i64 a0_0, .string a0_1, .int .i64 a0_2, .int .i64 a0_3, .int .i64 a0_4, .bool a0_5, .slice A0_6 l0_6.length c0_6] 58 (0, 0)) (by (with_reducible repeat (first | refine blk_drewN ?_ _ | refine blk_drew ?_ | refine blk_alloc ?_ _)); refine blk_far ?_ NB378_379.out _; (with_reducible repeat (first | refine blk_drewN ?_ _ | refine blk_drew ?_ | refine blk_alloc ?_ _)); refine blk_far ?_ NB378_379.out _; (with_reducible repeat (first | refine blk_drewN ?_ _ | refine blk_drew ?_ | refine blk_alloc ?_ _)); exact BK378.out) hb); have n1_ := Aside0.mk (blk_below (g := gb379) (o := .cells #[.int .i64 0, .string (⟨#[]⟩ : ByteArray), .int .i64 a0_2, .int .i64 a0_3, .int .i64 a0_4, .bool a0_5, .slice A0_6 l0_6.length c0_6] 58 (0, 0)) (by (with_reducible repeat (first | refine blk_drewN ?_ _ | refine blk_drew ?_ | refine blk_alloc ?_ _)); refine blk_put (cs := #[.int .i64 0, .string a0_1, .int .i64 a0_2, .int .i64 a0_3, .int .i64 a0_4, .bool a0_5, .slice A0_6 l0_6.length c0_6]) ?_ 1 _ rfl; (with_reducible repeat (first | refine blk_drewN ?_ _ | refine blk_drew ?_ | refine blk_alloc ?_ _)); refine blk_put (cs := #[.int .i64 a0_0, .string a0_1, .int .i64 a0_2, .int .i64 a0_3, .int .i64 a0_4, .bool a0_5, .slice A0_6 l0_6.length c0_6]) ?_ 0 _ rfl; (with_reducible repeat (first | refine blk_drewN ?_ _ | refine blk_drew ?_ | refine blk_alloc ?_ _)); exact BK379.out) hb); have n2_ := Aside0.mk (below_step bA hb); clear BK378; clear BK379; clear HB; have BK378 := n0_; have BK379 := n1_; have HB := n2_; clear n0_ n1_ n2_; (try clear hb); (try clear hb2); (try clear hk); (try clear hi)))
   go_ret
   exact ⟨rE, bA⟩
  ·replace c4 := Bool.eq_false_iff.mpr c4
   subst c4
   have H1 : (some false) = some r := by rw [if_neg (show ¬ (false = true) by decide)] at H; exact H
   clear H
   have H := H1
   clear H1
   obtain rfl := Option.some.inj H
   go_wp2_with (first | ((with_reducible refine gate_callee (f := 68) rfl ?_); refine goesL_ (some 13) rfl rfl Try.func68 (by kernel_rfl) rfl #[.string a0_1] rfl aL ?_; (with_reducible refine (impl_WordOk.calls k a0_1 false _ A3.out).mono ?_); rintro e w' ⟨rfl, ⟨nd, rfl⟩⟩; refine ⟨_, rfl, ?_⟩))
   go_ret
   exact ⟨rE, bA⟩
 ·rw [if_neg c2] at H
  have c2b0 : (a0_0 == 0) = false := beq_eq_false_iff_ne.mpr c2
  have c2b1 : (a0_0 != 0) = true := bne_iff_ne.mpr c2
  by_cases c23 : a0_0 = 1
  ·rw [if_pos c23] at H
   have c23b0 : (a0_0 == 1) = true := beq_iff_eq.mpr c23
   have c23b1 : (a0_0 != 1) = false := bne_eq_false_iff_eq.mpr c23
   clear c23
   have HC24 := Aside0.mk H
   clear H
   go_upto_region 9 with (fail)
   (try simp only [Act.put, List.setIfInBounds_toArray, List.set_cons_zero, List.set_cons_succ])
   go_cut [4] (fun v4 wc => ∃ (kq : Nat) (x4_23 : Bool), v4 = .bool x4_23 ∧ Aside0 (impl_NodeOk.j0 kq x4_23 a0_0 a0_1 a0_2 a0_3 a0_4 a0_5 l0_6 0 a0_1 a0_2 a0_3 a0_4 a0_5 l0_6 = some r) ∧ Aside0 (kq ≤ k) ∧ Aside0 (wc.heap[gb378]? = some (.cells #[.int .i64 a0_0, .string a0_1, .int .i64 a0_2, .int .i64 a0_3, .int .i64 a0_4, .bool a0_5, (.slice A0_6 l0_6.length c0_6)] 58 (0, 0))) ∧ Aside0 (wc.heap[gb379]? = some (.cells #[.int .i64 0, .string a0_1, .int .i64 a0_2, .int .i64 a0_3, .int .i64 a0_4, .bool a0_5, (.slice A0_6 l0_6.length c0_6)] 58 (0, 0))) ∧ Aside0 (Below w.heap.size w wc))
   case first =>
    have H := HC24.out
    clear HC24
    replace H := Option.bind_eq_some_iff.mp H
    obtain ⟨t382, A330, H⟩ := H
    replace H : (if t382 = true then ((impl_in.f a0_3 0 3).bind fun t383 => (impl_NodeOk.j0 k t383 a0_0 a0_1 a0_2 a0_3 a0_4 a0_5 l0_6 0 a0_1 a0_2 a0_3 a0_4 a0_5 l0_6)) else (impl_NodeOk.j0 k false a0_0 a0_1 a0_2 a0_3 a0_4 a0_5 l0_6 0 a0_1 a0_2 a0_3 a0_4 a0_5 l0_6)) = some r := H
    have A33 := Aside0.mk A330
    clear A330
    by_cases c34 : t382 = true
    ·subst c34
     have H1 : ((impl_in.f a0_3 0 3).bind fun t383 => (impl_NodeOk.j0 k t383 a0_0 a0_1 a0_2 a0_3 a0_4 a0_5 l0_6 0 a0_1 a0_2 a0_3 a0_4 a0_5 l0_6)) = some r := by rw [if_pos rfl] at H; exact H
     clear H
     have H := H1
     clear H1
     replace H := Option.bind_eq_some_iff.mp H
     obtain ⟨t383, A350, H⟩ := H
     replace H : (impl_NodeOk.j0 k t383 a0_0 a0_1 a0_2 a0_3 a0_4 a0_5 l0_6 0 a0_1 a0_2 a0_3 a0_4 a0_5 l0_6) = some r := H
     have A35 := Aside0.mk A350
     clear A350
     have H' := Aside0.mk H
     clear H
     have hnb36 := NB378_379.out
     have hnc36 := NB379_378.out
     obtain ⟨⟨hcz37_0, hcz37_1, hcz37_2, hcz37_3, hcz37_4, hcz37_5, hcz37_6⟩, hfz37_0, hfz37_1, hfz37_2, hfz37_3, hfz37_4, hfz37_5, hfz37_6⟩ := Own.c7 BK378.out
     go_wp2_with (first | ((with_reducible refine gate_callee (f := 113) rfl ?_); refine goesL_ (some 19) rfl rfl Try.func113 (by kernel_rfl) rfl #[.int .i64 a0_2] rfl aL ?_; (with_reducible refine (impl_isCol.calls a0_2 true _ A33.out).mono ?_); rintro e w' ⟨rfl, ⟨nd, rfl⟩⟩; refine ⟨_, rfl, ?_⟩) | (go_at_call 66; (with_reducible refine (impl_in.calls a0_3 0 3 t383 _ A35.out).mono ?_); rintro e w' ⟨rfl, ⟨nd, rfl⟩⟩))
     go_meet
     case rel => exact ⟨_, (t383), rF, H', ⟨by first | omega | exact Nat.le_refl _⟩, ⟨by (with_reducible repeat (first | refine blk_drewN ?_ _ | refine blk_drew ?_ | refine blk_alloc ?_ _)); refine blk_far ?_ NB378_379.out _; (with_reducible repeat (first | refine blk_drewN ?_ _ | refine blk_drew ?_ | refine blk_alloc ?_ _)); exact BK378.out⟩, ⟨by (with_reducible repeat (first | refine blk_drewN ?_ _ | refine blk_drew ?_ | refine blk_alloc ?_ _)); refine blk_put (cs := #[.int .i64 a0_0, .string a0_1, .int .i64 a0_2, .int .i64 a0_3, .int .i64 a0_4, .bool a0_5, .slice A0_6 l0_6.length c0_6]) ?_ 0 _ rfl; (with_reducible repeat (first | refine blk_drewN ?_ _ | refine blk_drew ?_ | refine blk_alloc ?_ _)); exact BK379.out⟩, ⟨bA⟩⟩
    ·replace c34 := Bool.eq_false_iff.mpr c34
     subst c34
     have H1 : (impl_NodeOk.j0 k false a0_0 a0_1 a0_2 a0_3 a0_4 a0_5 l0_6 0 a0_1 a0_2 a0_3 a0_4 a0_5 l0_6) = some r := by rw [if_neg (show ¬ (false = true) by decide)] at H; exact H
     clear H
     have H := H1
     clear H1
     have H' := Aside0.mk H
     clear H
     have hnb38 := NB378_379.out
     have hnc38 := NB379_378.out
     obtain ⟨⟨hcz39_0, hcz39_1, hcz39_2, hcz39_3, hcz39_4, hcz39_5, hcz39_6⟩, hfz39_0, hfz39_1, hfz39_2, hfz39_3, hfz39_4, hfz39_5, hfz39_6⟩ := Own.c7 BK378.out
     go_wp2_with (first | ((with_reducible refine gate_callee (f := 113) rfl ?_); refine goesL_ (some 19) rfl rfl Try.func113 (by kernel_rfl) rfl #[.int .i64 a0_2] rfl aL ?_; (with_reducible refine (impl_isCol.calls a0_2 false _ A33.out).mono ?_); rintro e w' ⟨rfl, ⟨nd, rfl⟩⟩; refine ⟨_, rfl, ?_⟩))
     go_meet
     case rel => exact ⟨_, (false), rF, H', ⟨by first | omega | exact Nat.le_refl _⟩, ⟨by (with_reducible repeat (first | refine blk_drewN ?_ _ | refine blk_drew ?_ | refine blk_alloc ?_ _)); refine blk_far ?_ NB378_379.out _; (with_reducible repeat (first | refine blk_drewN ?_ _ | refine blk_drew ?_ | refine blk_alloc ?_ _)); exact BK378.out⟩, ⟨by (with_reducible repeat (first | refine blk_drewN ?_ _ | refine blk_drew ?_ | refine blk_alloc ?_ _)); refine blk_put (cs := #[.int .i64 a0_0, .string a0_1, .int .i64 a0_2, .int .i64 a0_3, .int .i64 a0_4, .bool a0_5, .slice A0_6 l0_6.length c0_6]) ?_ 0 _ rfl; (with_reducible repeat (first | refine blk_drewN ?_ _ | refine blk_drew ?_ | refine blk_alloc ?_ _)); exact BK379.out⟩, ⟨bA⟩⟩
   case rest =>
    clear HC24
    try clear c1
    try clear c2
    try clear c2b0
    try clear c2b1
    try clear p2
    try clear c3
    try clear c4
    try clear c6
    try clear c8
    try clear c9
    try clear c11
    try clear c18
    try clear c23
    try clear c23b0
    try clear c23b1
    try clear c28
    try clear c34
    try clear c36
    try clear c38
    try clear hcz10_0 hcz10_1 hcz10_2 hcz10_3 hcz10_4 hcz10_5 hcz10_6
    try clear hcz12_0 hcz12_1 hcz12_2 hcz12_3 hcz12_4 hcz12_5 hcz12_6
    try clear hcz13_0 hcz13_1 hcz13_2 hcz13_3 hcz13_4 hcz13_5 hcz13_6
    try clear hcz16_0 hcz16_1 hcz16_2 hcz16_3 hcz16_4 hcz16_5 hcz16_6
    try clear hcz19_0 hcz19_1 hcz19_2 hcz19_3 hcz19_4 hcz19_5 hcz19_6
    try clear hcz21_0 hcz21_1 hcz21_2 hcz21_3 hcz21_4 hcz21_5 hcz21_6
    try clear hcz22_0 hcz22_1 hcz22_2 hcz22_3 hcz22_4 hcz22_5 hcz22_6
    try clear hcz7_0 hcz7_1 hcz7_2 hcz7_3 hcz7_4 hcz7_5 hcz7_6
    try clear hcz10_0 hcz10_1 hcz10_2 hcz10_3 hcz10_4 hcz10_5 hcz10_6
    try clear hcz12_0 hcz12_1 hcz12_2 hcz12_3 hcz12_4 hcz12_5 hcz12_6
    try clear hcz13_0 hcz13_1 hcz13_2 hcz13_3 hcz13_4 hcz13_5 hcz13_6
    try clear hcz37_0 hcz37_1 hcz37_2 hcz37_3 hcz37_4 hcz37_5 hcz37_6
    try clear hcz39_0 hcz39_1 hcz39_2 hcz39_3 hcz39_4 hcz39_5 hcz39_6
    try clear hcz7_0 hcz7_1 hcz7_2 hcz7_3 hcz7_4 hcz7_5 hcz7_6
    try clear hfz10_0 hfz10_1 hfz10_2 hfz10_3 hfz10_4 hfz10_5 hfz10_6
    try clear hfz12_0 hfz12_1 hfz12_2 hfz12_3 hfz12_4 hfz12_5 hfz12_6
    try clear hfz13_0 hfz13_1 hfz13_2 hfz13_3 hfz13_4 hfz13_5 hfz13_6
    try clear hfz16_0 hfz16_1 hfz16_2 hfz16_3 hfz16_4 hfz16_5 hfz16_6
    try clear hfz19_0 hfz19_1 hfz19_2 hfz19_3 hfz19_4 hfz19_5 hfz19_6
    try clear hfz21_0 hfz21_1 hfz21_2 hfz21_3 hfz21_4 hfz21_5 hfz21_6
    try clear hfz22_0 hfz22_1 hfz22_2 hfz22_3 hfz22_4 hfz22_5 hfz22_6
    try clear hfz7_0 hfz7_1 hfz7_2 hfz7_3 hfz7_4 hfz7_5 hfz7_6
    try clear hfz10_0 hfz10_1 hfz10_2 hfz10_3 hfz10_4 hfz10_5 hfz10_6
    try clear hfz12_0 hfz12_1 hfz12_2 hfz12_3 hfz12_4 hfz12_5 hfz12_6
    try clear hfz13_0 hfz13_1 hfz13_2 hfz13_3 hfz13_4 hfz13_5 hfz13_6
    try clear hfz37_0 hfz37_1 hfz37_2 hfz37_3 hfz37_4 hfz37_5 hfz37_6
    try clear hfz39_0 hfz39_1 hfz39_2 hfz39_3 hfz39_4 hfz39_5 hfz39_6
    try clear hfz7_0 hfz7_1 hfz7_2 hfz7_3 hfz7_4 hfz7_5 hfz7_6
    obtain ⟨kq, x4_23, rfl, HA, HJ23, BK378, BK379, HB⟩ := hcut
    cases kq with
    | zero => exact absurd HA.out (by simp [impl_NodeOk.j0])
    | succ kj23 =>
     have H := HA.out
     clear HA
     simp only [impl_NodeOk.j0] at H
     by_cases c40 : a0_3 = 3
     ·rw [if_pos c40] at H
      have c40b0 : (a0_3 == 3) = true := beq_iff_eq.mpr c40
      have c40b1 : (a0_3 != 3) = false := bne_eq_false_iff_eq.mpr c40
      clear c40
      by_cases c41 : x4_23 = true
      ·subst c41
       have H1 : (if a0_4 = 0 then (if a0_5 = true then (some false) else ((impl_sameNode.f kj23 0 a0_1 0 0 0 false l0_6 0 (⟨#[]⟩ : ByteArray) 0 0 0 false ([] : List Int)).bind fun t384 => (some t384))) else (some false)) = some r := by rw [if_pos rfl] at H; exact H
       clear H
       have H := H1
       clear H1
       by_cases c42 : a0_4 = 0
       ·rw [if_pos c42] at H
        have c42b0 : (a0_4 == 0) = true := beq_iff_eq.mpr c42
        have c42b1 : (a0_4 != 0) = false := bne_eq_false_iff_eq.mpr c42
        clear c42
        by_cases c43 : a0_5 = true
        ·subst c43
         have H1 : (some false) = some r := by rw [if_pos rfl] at H; exact H
         clear H
         have H := H1
         clear H1
         obtain rfl := Option.some.inj H
         have hnb44 := NB378_379.out
         have hnc44 := NB379_378.out
         obtain ⟨⟨hcz45_0, hcz45_1, hcz45_2, hcz45_3, hcz45_4, hcz45_5, hcz45_6⟩, hfz45_0, hfz45_1, hfz45_2, hfz45_3, hfz45_4, hfz45_5, hfz45_6⟩ := Own.c7 BK378.out
         obtain ⟨⟨hcz46_0, hcz46_1, hcz46_2, hcz46_3, hcz46_4, hcz46_5, hcz46_6⟩, hfz46_0, hfz46_1, hfz46_2, hfz46_3, hfz46_4, hfz46_5, hfz46_6⟩ := Own.c7 BK379.out
         go_wp2
         go_ret
         exact ⟨rE, bA⟩
        ·replace c43 := Bool.eq_false_iff.mpr c43
         subst c43
         have H1 : ((impl_sameNode.f kj23 0 a0_1 0 0 0 false l0_6 0 (⟨#[]⟩ : ByteArray) 0 0 0 false ([] : List Int)).bind fun t384 => (some t384)) = some r := by rw [if_neg (show ¬ (false = true) by decide)] at H; exact H
         clear H
         have H := H1
         clear H1
         replace H := Option.bind_eq_some_iff.mp H
         obtain ⟨t384, A470, H⟩ := H
         replace H : (some t384) = some r := H
         have A47 := Aside0.mk A470
         clear A470
         obtain rfl := Option.some.inj H
         have hnb48 := NB378_379.out
         have hnc48 := NB379_378.out
         obtain ⟨⟨hcz49_0, hcz49_1, hcz49_2, hcz49_3, hcz49_4, hcz49_5, hcz49_6⟩, hfz49_0, hfz49_1, hfz49_2, hfz49_3, hfz49_4, hfz49_5, hfz49_6⟩ := Own.c7 BK378.out
         obtain ⟨⟨hcz50_0, hcz50_1, hcz50_2, hcz50_3, hcz50_4, hcz50_5, hcz50_6⟩, hfz50_0, hfz50_1, hfz50_2, hfz50_3, hfz50_4, hfz50_5, hfz50_6⟩ := Own.c7 BK379.out
         go_wp2_with (first | (go_at_call 92; (refine (impl_sameNode.calls kj23 0 a0_1 0 0 0 false _ _ l0_6 0 (⟨#[]⟩ : ByteArray) 0 0 0 false _ _ ([] : List Int) t384 _ ?side1 ?side2 ?side3 ?side4 A47.out).mono ?_); (case side1 => exact Kd.C_below HR0_6.out bA); (case side2 => exact HC0_6.out); (case side3 => exact Kd.C_nil _ _); (case side4 => exact Nat.le_refl _); rintro e w51 ⟨rfl, hb⟩; have n0_ := Aside0.mk (blk_below (g := gb378) (o := .cells #[.int .i64 a0_0, .string a0_1, .int .i64 a0_2, .int .i64 a0_3, .int .i64 a0_4, .bool false, .slice A0_6 l0_6.length c0_6] 58 (0, 0)) (by (with_reducible repeat (first | refine blk_drewN ?_ _ | refine blk_drew ?_ | refine blk_alloc ?_ _)); refine blk_far ?_ NB378_379.out _; (with_reducible repeat (first | refine blk_drewN ?_ _ | refine blk_drew ?_ | refine blk_alloc ?_ _)); refine blk_far ?_ NB378_379.out _; (with_reducible repeat (first | refine blk_drewN ?_ _ | refine blk_drew ?_ | refine blk_alloc ?_ _)); refine blk_far ?_ NB378_379.out _; (with_reducible repeat (first | refine blk_drewN ?_ _ | refine blk_drew ?_ | refine blk_alloc ?_ _)); refine blk_far ?_ NB378_379.out _; (with_reducible repeat (first | refine blk_drewN ?_ _ | refine blk_drew ?_ | refine blk_alloc ?_ _)); exact BK378.out) hb); have n1_ := Aside0.mk (blk_below (g := gb379) (o := .cells #[.int .i64 0, .string a0_1, .int .i64 0, .int .i64 0, .int .i64 0, .bool false, .slice A0_6 l0_6.length c0_6] 58 (0, 0)) (by (with_reducible repeat (first | refine blk_drewN ?_ _ | refine blk_drew ?_ | refine blk_alloc ?_ _)); refine blk_put (cs := #[.int .i64 0, .string a0_1, .int .i64 0, .int .i64 0, .int .i64 0, .bool false, .slice A0_6 l0_6.length c0_6]) ?_ 5 _ rfl; (with_reducible repeat (first | refine blk_drewN ?_ _ | refine blk_drew ?_ | refine blk_alloc ?_ _)); refine blk_put (cs := #[.int .i64 0, .string a0_1, .int .i64 0, .int .i64 0, .int .i64 a0_4, .bool false, .slice A0_6 l0_6.length c0_6]) ?_ 4 _ rfl; (with_reducible repeat (first | refine blk_drewN ?_ _ | refine blk_drew ?_ | refine blk_alloc ?_ _)); refine blk_put (cs := #[.int .i64 0, .string a0_1, .int .i64 0, .int .i64 a0_3, .int .i64 a0_4, .bool false, .slice A0_6 l0_6.length c0_6]) ?_ 3 _ rfl; (with_reducible repeat (first | refine blk_drewN ?_ _ | refine blk_drew ?_ | refine blk_alloc ?_ _)); refine blk_put (cs := #[.int .i64 0, .string a0_1, .int .i64 a0_2, .int .i64 a0_3, .int .i64 a0_4, .bool false, .slice A0_6 l0_6.length c0_6]) ?_ 2 _ rfl; (with_reducible repeat (first | refine blk_drewN ?_ _ | refine blk_drew ?_ | refine blk_alloc ?_ _)); exact BK379.out) hb); have n2_ := Aside0.mk (below_step bA hb); clear BK378; clear BK379; clear HB; have BK378 := n0_; have BK379 := n1_; have HB := n2_; clear n0_ n1_ n2_; (try clear hb); (try clear hb2); (try clear hk); (try clear hi)))
         go_ret
         exact ⟨rE, bA⟩
       ·rw [if_neg c42] at H
        have c42b0 : (a0_4 == 0) = false := beq_eq_false_iff_ne.mpr c42
        have c42b1 : (a0_4 != 0) = true := bne_iff_ne.mpr c42
        obtain rfl := Option.some.inj H
        have hnb52 := NB378_379.out
        have hnc52 := NB379_378.out
        obtain ⟨⟨hcz53_0, hcz53_1, hcz53_2, hcz53_3, hcz53_4, hcz53_5, hcz53_6⟩, hfz53_0, hfz53_1, hfz53_2, hfz53_3, hfz53_4, hfz53_5, hfz53_6⟩ := Own.c7 BK378.out
        obtain ⟨⟨hcz54_0, hcz54_1, hcz54_2, hcz54_3, hcz54_4, hcz54_5, hcz54_6⟩, hfz54_0, hfz54_1, hfz54_2, hfz54_3, hfz54_4, hfz54_5, hfz54_6⟩ := Own.c7 BK379.out
        go_wp2
        go_ret
        exact ⟨rE, bA⟩
      ·replace c41 := Bool.eq_false_iff.mpr c41
       subst c41
       have H1 : (some false) = some r := by rw [if_neg (show ¬ (false = true) by decide)] at H; exact H
       clear H
       have H := H1
       clear H1
       obtain rfl := Option.some.inj H
       have hnb55 := NB378_379.out
       have hnc55 := NB379_378.out
       obtain ⟨⟨hcz56_0, hcz56_1, hcz56_2, hcz56_3, hcz56_4, hcz56_5, hcz56_6⟩, hfz56_0, hfz56_1, hfz56_2, hfz56_3, hfz56_4, hfz56_5, hfz56_6⟩ := Own.c7 BK378.out
       obtain ⟨⟨hcz57_0, hcz57_1, hcz57_2, hcz57_3, hcz57_4, hcz57_5, hcz57_6⟩, hfz57_0, hfz57_1, hfz57_2, hfz57_3, hfz57_4, hfz57_5, hfz57_6⟩ := Own.c7 BK379.out
       go_wp2
       go_ret
       exact ⟨rE, bA⟩
     ·rw [if_neg c40] at H
      have c40b0 : (a0_3 == 3) = false := beq_eq_false_iff_ne.mpr c40
      have c40b1 : (a0_3 != 3) = true := bne_iff_ne.mpr c40
      by_cases c58 : a0_5 = true
      ·subst c58
       have H1 : (if x4_23 = true then ((impl_isSlot.f a0_4).bind fun t385 => (if t385 = true then ((impl_sameNode.f kj23 0 a0_1 0 0 0 false l0_6 0 (⟨#[]⟩ : ByteArray) 0 0 0 false ([] : List Int)).bind fun t386 => (some t386)) else (some false))) else (some false)) = some r := by rw [if_pos rfl] at H; exact H
       clear H
       have H := H1
       clear H1
       by_cases c59 : x4_23 = true
       ·subst c59
        have H1 : ((impl_isSlot.f a0_4).bind fun t385 => (if t385 = true then ((impl_sameNode.f kj23 0 a0_1 0 0 0 false l0_6 0 (⟨#[]⟩ : ByteArray) 0 0 0 false ([] : List Int)).bind fun t386 => (some t386)) else (some false))) = some r := by rw [if_pos rfl] at H; exact H
        clear H
        have H := H1
        clear H1
        replace H := Option.bind_eq_some_iff.mp H
        obtain ⟨t385, A600, H⟩ := H
        replace H : (if t385 = true then ((impl_sameNode.f kj23 0 a0_1 0 0 0 false l0_6 0 (⟨#[]⟩ : ByteArray) 0 0 0 false ([] : List Int)).bind fun t386 => (some t386)) else (some false)) = some r := H
        have A60 := Aside0.mk A600
        clear A600
        by_cases c61 : t385 = true
        ·subst c61
         have H1 : ((impl_sameNode.f kj23 0 a0_1 0 0 0 false l0_6 0 (⟨#[]⟩ : ByteArray) 0 0 0 false ([] : List Int)).bind fun t386 => (some t386)) = some r := by rw [if_pos rfl] at H; exact H
         clear H
         have H := H1
         clear H1
         replace H := Option.bind_eq_some_iff.mp H
         obtain ⟨t386, A620, H⟩ := H
         replace H : (some t386) = some r := H
         have A62 := Aside0.mk A620
         clear A620
         obtain rfl := Option.some.inj H
         have hnb63 := NB378_379.out
         have hnc63 := NB379_378.out
         obtain ⟨⟨hcz64_0, hcz64_1, hcz64_2, hcz64_3, hcz64_4, hcz64_5, hcz64_6⟩, hfz64_0, hfz64_1, hfz64_2, hfz64_3, hfz64_4, hfz64_5, hfz64_6⟩ := Own.c7 BK378.out
         go_wp2_with (first | (go_at_call 114; (with_reducible refine (impl_isSlot.calls a0_4 true _ A60.out).mono ?_); rintro e w' ⟨rfl, ⟨nd, rfl⟩⟩; (try (rw [drewN_self wc]; generalize hq_ : World.drewN wc _ = wc; have n0_ : Aside0 (wc.heap[gb378]? = some (.cells #[.int .i64 a0_0, .string a0_1, .int .i64 a0_2, .int .i64 a0_3, .int .i64 a0_4, .bool true, .slice A0_6 l0_6.length c0_6] 58 (0, 0))) := ⟨by rw [← hq_]; exact (by (with_reducible repeat (first | refine blk_drewN ?_ _ | refine blk_drew ?_ | refine blk_alloc ?_ _)); exact BK378.out)⟩; have n1_ : Aside0 (wc.heap[gb379]? = some (.cells #[.int .i64 0, .string a0_1, .int .i64 a0_2, .int .i64 a0_3, .int .i64 a0_4, .bool true, .slice A0_6 l0_6.length c0_6] 58 (0, 0))) := ⟨by rw [← hq_]; exact (by (with_reducible repeat (first | refine blk_drewN ?_ _ | refine blk_drew ?_ | refine blk_alloc ?_ _)); exact BK379.out)⟩; have n2_ : Aside0 (Below w.heap.size w wc) := ⟨by rw [← hq_]; exact bA⟩; clear BK378 BK379 HB hq_; have BK378 := n0_; have BK379 := n1_; have HB := n2_; clear n0_ n1_ n2_)); obtain ⟨⟨hcz65_0, hcz65_1, hcz65_2, hcz65_3, hcz65_4, hcz65_5, hcz65_6⟩, hfz65_0, hfz65_1, hfz65_2, hfz65_3, hfz65_4, hfz65_5, hfz65_6⟩ := Own.c7 BK379.out) | (go_at_call 92; (refine (impl_sameNode.calls kj23 0 a0_1 0 0 0 false _ _ l0_6 0 (⟨#[]⟩ : ByteArray) 0 0 0 false _ _ ([] : List Int) t386 _ ?side1 ?side2 ?side3 ?side4 A62.out).mono ?_); (case side1 => exact Kd.C_below HR0_6.out bA); (case side2 => exact HC0_6.out); (case side3 => exact Kd.C_nil _ _); (case side4 => exact Nat.le_refl _); rintro e w66 ⟨rfl, hb⟩; have n0_ := Aside0.mk (blk_below (g := gb378) (o := .cells #[.int .i64 a0_0, .string a0_1, .int .i64 a0_2, .int .i64 a0_3, .int .i64 a0_4, .bool true, .slice A0_6 l0_6.length c0_6] 58 (0, 0)) (by (with_reducible repeat (first | refine blk_drewN ?_ _ | refine blk_drew ?_ | refine blk_alloc ?_ _)); refine blk_far ?_ NB378_379.out _; (with_reducible repeat (first | refine blk_drewN ?_ _ | refine blk_drew ?_ | refine blk_alloc ?_ _)); refine blk_far ?_ NB378_379.out _; (with_reducible repeat (first | refine blk_drewN ?_ _ | refine blk_drew ?_ | refine blk_alloc ?_ _)); refine blk_far ?_ NB378_379.out _; (with_reducible repeat (first | refine blk_drewN ?_ _ | refine blk_drew ?_ | refine blk_alloc ?_ _)); refine blk_far ?_ NB378_379.out _; (with_reducible repeat (first | refine blk_drewN ?_ _ | refine blk_drew ?_ | refine blk_alloc ?_ _)); exact BK378.out) hb); have n1_ := Aside0.mk (blk_below (g := gb379) (o := .cells #[.int .i64 0, .string a0_1, .int .i64 0, .int .i64 0, .int .i64 0, .bool false, .slice A0_6 l0_6.length c0_6] 58 (0, 0)) (by (with_reducible repeat (first | refine blk_drewN ?_ _ | refine blk_drew ?_ | refine blk_alloc ?_ _)); refine blk_put (cs := #[.int .i64 0, .string a0_1, .int .i64 0, .int .i64 0, .int .i64 0, .bool true, .slice A0_6 l0_6.length c0_6]) ?_ 5 _ rfl; (with_reducible repeat (first | refine blk_drewN ?_ _ | refine blk_drew ?_ | refine blk_alloc ?_ _)); refine blk_put (cs := #[.int .i64 0, .string a0_1, .int .i64 0, .int .i64 0, .int .i64 a0_4, .bool true, .slice A0_6 l0_6.length c0_6]) ?_ 4 _ rfl; (with_reducible repeat (first | refine blk_drewN ?_ _ | refine blk_drew ?_ | refine blk_alloc ?_ _)); refine blk_put (cs := #[.int .i64 0, .string a0_1, .int .i64 0, .int .i64 a0_3, .int .i64 a0_4, .bool true, .slice A0_6 l0_6.length c0_6]) ?_ 3 _ rfl; (with_reducible repeat (first | refine blk_drewN ?_ _ | refine blk_drew ?_ | refine blk_alloc ?_ _)); refine blk_put (cs := #[.int .i64 0, .string a0_1, .int .i64 a0_2, .int .i64 a0_3, .int .i64 a0_4, .bool true, .slice A0_6 l0_6.length c0_6]) ?_ 2 _ rfl; (with_reducible repeat (first | refine blk_drewN ?_ _ | refine blk_drew ?_ | refine blk_alloc ?_ _)); exact BK379.out) hb); have n2_ := Aside0.mk (below_step bA hb); clear BK378; clear BK379; clear HB; have BK378 := n0_; have BK379 := n1_; have HB := n2_; clear n0_ n1_ n2_; (try clear hb); (try clear hb2); (try clear hk); (try clear hi)))
         go_ret
         exact ⟨rE, bA⟩
        ·replace c61 := Bool.eq_false_iff.mpr c61
         subst c61
         have H1 : (some false) = some r := by rw [if_neg (show ¬ (false = true) by decide)] at H; exact H
         clear H
         have H := H1
         clear H1
         obtain rfl := Option.some.inj H
         have hnb67 := NB378_379.out
         have hnc67 := NB379_378.out
         obtain ⟨⟨hcz68_0, hcz68_1, hcz68_2, hcz68_3, hcz68_4, hcz68_5, hcz68_6⟩, hfz68_0, hfz68_1, hfz68_2, hfz68_3, hfz68_4, hfz68_5, hfz68_6⟩ := Own.c7 BK378.out
         go_wp2_with (first | (go_at_call 114; (with_reducible refine (impl_isSlot.calls a0_4 false _ A60.out).mono ?_); rintro e w' ⟨rfl, ⟨nd, rfl⟩⟩; (try (rw [drewN_self wc]; generalize hq_ : World.drewN wc _ = wc; have n0_ : Aside0 (wc.heap[gb378]? = some (.cells #[.int .i64 a0_0, .string a0_1, .int .i64 a0_2, .int .i64 a0_3, .int .i64 a0_4, .bool true, .slice A0_6 l0_6.length c0_6] 58 (0, 0))) := ⟨by rw [← hq_]; exact (by (with_reducible repeat (first | refine blk_drewN ?_ _ | refine blk_drew ?_ | refine blk_alloc ?_ _)); exact BK378.out)⟩; have n1_ : Aside0 (wc.heap[gb379]? = some (.cells #[.int .i64 0, .string a0_1, .int .i64 a0_2, .int .i64 a0_3, .int .i64 a0_4, .bool true, .slice A0_6 l0_6.length c0_6] 58 (0, 0))) := ⟨by rw [← hq_]; exact (by (with_reducible repeat (first | refine blk_drewN ?_ _ | refine blk_drew ?_ | refine blk_alloc ?_ _)); exact BK379.out)⟩; have n2_ : Aside0 (Below w.heap.size w wc) := ⟨by rw [← hq_]; exact bA⟩; clear BK378 BK379 HB hq_; have BK378 := n0_; have BK379 := n1_; have HB := n2_; clear n0_ n1_ n2_)); obtain ⟨⟨hcz69_0, hcz69_1, hcz69_2, hcz69_3, hcz69_4, hcz69_5, hcz69_6⟩, hfz69_0, hfz69_1, hfz69_2, hfz69_3, hfz69_4, hfz69_5, hfz69_6⟩ := Own.c7 BK379.out))
         go_ret
         exact ⟨rE, bA⟩
       ·replace c59 := Bool.eq_false_iff.mpr c59
        subst c59
        have H1 : (some false) = some r := by rw [if_neg (show ¬ (false = true) by decide)] at H; exact H
        clear H
        have H := H1
        clear H1
        obtain rfl := Option.some.inj H
        have hnb70 := NB378_379.out
        have hnc70 := NB379_378.out
        obtain ⟨⟨hcz71_0, hcz71_1, hcz71_2, hcz71_3, hcz71_4, hcz71_5, hcz71_6⟩, hfz71_0, hfz71_1, hfz71_2, hfz71_3, hfz71_4, hfz71_5, hfz71_6⟩ := Own.c7 BK378.out
        obtain ⟨⟨hcz72_0, hcz72_1, hcz72_2, hcz72_3, hcz72_4, hcz72_5, hcz72_6⟩, hfz72_0, hfz72_1, hfz72_2, hfz72_3, hfz72_4, hfz72_5, hfz72_6⟩ := Own.c7 BK379.out
        go_wp2
        go_ret
        exact ⟨rE, bA⟩
      ·replace c58 := Bool.eq_false_iff.mpr c58
       subst c58
       have H1 : (if x4_23 = true then ((impl_isNum.f a0_4).bind fun t387 => (if t387 = true then ((impl_sameNode.f kj23 0 a0_1 0 0 0 false l0_6 0 (⟨#[]⟩ : ByteArray) 0 0 0 false ([] : List Int)).bind fun t388 => (some t388)) else (some false))) else (some false)) = some r := by rw [if_neg (show ¬ (false = true) by decide)] at H; exact H
       clear H
       have H := H1
       clear H1
       by_cases c73 : x4_23 = true
       ·subst c73
        have H1 : ((impl_isNum.f a0_4).bind fun t387 => (if t387 = true then ((impl_sameNode.f kj23 0 a0_1 0 0 0 false l0_6 0 (⟨#[]⟩ : ByteArray) 0 0 0 false ([] : List Int)).bind fun t388 => (some t388)) else (some false))) = some r := by rw [if_pos rfl] at H; exact H
        clear H
        have H := H1
        clear H1
        replace H := Option.bind_eq_some_iff.mp H
        obtain ⟨t387, A740, H⟩ := H
        replace H : (if t387 = true then ((impl_sameNode.f kj23 0 a0_1 0 0 0 false l0_6 0 (⟨#[]⟩ : ByteArray) 0 0 0 false ([] : List Int)).bind fun t388 => (some t388)) else (some false)) = some r := H
        have A74 := Aside0.mk A740
        clear A740
        by_cases c75 : t387 = true
        ·subst c75
         have H1 : ((impl_sameNode.f kj23 0 a0_1 0 0 0 false l0_6 0 (⟨#[]⟩ : ByteArray) 0 0 0 false ([] : List Int)).bind fun t388 => (some t388)) = some r := by rw [if_pos rfl] at H; exact H
         clear H
         have H := H1
         clear H1
         replace H := Option.bind_eq_some_iff.mp H
         obtain ⟨t388, A760, H⟩ := H
         replace H : (some t388) = some r := H
         have A76 := Aside0.mk A760
         clear A760
         obtain rfl := Option.some.inj H
         have hnb77 := NB378_379.out
         have hnc77 := NB379_378.out
         obtain ⟨⟨hcz78_0, hcz78_1, hcz78_2, hcz78_3, hcz78_4, hcz78_5, hcz78_6⟩, hfz78_0, hfz78_1, hfz78_2, hfz78_3, hfz78_4, hfz78_5, hfz78_6⟩ := Own.c7 BK378.out
         go_wp2_with (first | (go_at_call 61; (with_reducible refine (impl_isNum.calls a0_4 true _ A74.out).mono ?_); rintro e w' ⟨rfl, ⟨nd, rfl⟩⟩; (try (rw [drewN_self wc]; generalize hq_ : World.drewN wc _ = wc; have n0_ : Aside0 (wc.heap[gb378]? = some (.cells #[.int .i64 a0_0, .string a0_1, .int .i64 a0_2, .int .i64 a0_3, .int .i64 a0_4, .bool false, .slice A0_6 l0_6.length c0_6] 58 (0, 0))) := ⟨by rw [← hq_]; exact (by (with_reducible repeat (first | refine blk_drewN ?_ _ | refine blk_drew ?_ | refine blk_alloc ?_ _)); exact BK378.out)⟩; have n1_ : Aside0 (wc.heap[gb379]? = some (.cells #[.int .i64 0, .string a0_1, .int .i64 a0_2, .int .i64 a0_3, .int .i64 a0_4, .bool false, .slice A0_6 l0_6.length c0_6] 58 (0, 0))) := ⟨by rw [← hq_]; exact (by (with_reducible repeat (first | refine blk_drewN ?_ _ | refine blk_drew ?_ | refine blk_alloc ?_ _)); exact BK379.out)⟩; have n2_ : Aside0 (Below w.heap.size w wc) := ⟨by rw [← hq_]; exact bA⟩; clear BK378 BK379 HB hq_; have BK378 := n0_; have BK379 := n1_; have HB := n2_; clear n0_ n1_ n2_)); obtain ⟨⟨hcz79_0, hcz79_1, hcz79_2, hcz79_3, hcz79_4, hcz79_5, hcz79_6⟩, hfz79_0, hfz79_1, hfz79_2, hfz79_3, hfz79_4, hfz79_5, hfz79_6⟩ := Own.c7 BK379.out) | (go_at_call 92; (refine (impl_sameNode.calls kj23 0 a0_1 0 0 0 false _ _ l0_6 0 (⟨#[]⟩ : ByteArray) 0 0 0 false _ _ ([] : List Int) t388 _ ?side1 ?side2 ?side3 ?side4 A76.out).mono ?_); (case side1 => exact Kd.C_below HR0_6.out bA); (case side2 => exact HC0_6.out); (case side3 => exact Kd.C_nil _ _); (case side4 => exact Nat.le_refl _); rintro e w80 ⟨rfl, hb⟩; have n0_ := Aside0.mk (blk_below (g := gb378) (o := .cells #[.int .i64 a0_0, .string a0_1, .int .i64 a0_2, .int .i64 a0_3, .int .i64 a0_4, .bool false, .slice A0_6 l0_6.length c0_6] 58 (0, 0)) (by (with_reducible repeat (first | refine blk_drewN ?_ _ | refine blk_drew ?_ | refine blk_alloc ?_ _)); refine blk_far ?_ NB378_379.out _; (with_reducible repeat (first | refine blk_drewN ?_ _ | refine blk_drew ?_ | refine blk_alloc ?_ _)); refine blk_far ?_ NB378_379.out _; (with_reducible repeat (first | refine blk_drewN ?_ _ | refine blk_drew ?_ | refine blk_alloc ?_ _)); refine blk_far ?_ NB378_379.out _; (with_reducible repeat (first | refine blk_drewN ?_ _ | refine blk_drew ?_ | refine blk_alloc ?_ _)); refine blk_far ?_ NB378_379.out _; (with_reducible repeat (first | refine blk_drewN ?_ _ | refine blk_drew ?_ | refine blk_alloc ?_ _)); exact BK378.out) hb); have n1_ := Aside0.mk (blk_below (g := gb379) (o := .cells #[.int .i64 0, .string a0_1, .int .i64 0, .int .i64 0, .int .i64 0, .bool false, .slice A0_6 l0_6.length c0_6] 58 (0, 0)) (by (with_reducible repeat (first | refine blk_drewN ?_ _ | refine blk_drew ?_ | refine blk_alloc ?_ _)); refine blk_put (cs := #[.int .i64 0, .string a0_1, .int .i64 0, .int .i64 0, .int .i64 0, .bool false, .slice A0_6 l0_6.length c0_6]) ?_ 5 _ rfl; (with_reducible repeat (first | refine blk_drewN ?_ _ | refine blk_drew ?_ | refine blk_alloc ?_ _)); refine blk_put (cs := #[.int .i64 0, .string a0_1, .int .i64 0, .int .i64 0, .int .i64 a0_4, .bool false, .slice A0_6 l0_6.length c0_6]) ?_ 4 _ rfl; (with_reducible repeat (first | refine blk_drewN ?_ _ | refine blk_drew ?_ | refine blk_alloc ?_ _)); refine blk_put (cs := #[.int .i64 0, .string a0_1, .int .i64 0, .int .i64 a0_3, .int .i64 a0_4, .bool false, .slice A0_6 l0_6.length c0_6]) ?_ 3 _ rfl; (with_reducible repeat (first | refine blk_drewN ?_ _ | refine blk_drew ?_ | refine blk_alloc ?_ _)); refine blk_put (cs := #[.int .i64 0, .string a0_1, .int .i64 a0_2, .int .i64 a0_3, .int .i64 a0_4, .bool false, .slice A0_6 l0_6.length c0_6]) ?_ 2 _ rfl; (with_reducible repeat (first | refine blk_drewN ?_ _ | refine blk_drew ?_ | refine blk_alloc ?_ _)); exact BK379.out) hb); have n2_ := Aside0.mk (below_step bA hb); clear BK378; clear BK379; clear HB; have BK378 := n0_; have BK379 := n1_; have HB := n2_; clear n0_ n1_ n2_; (try clear hb); (try clear hb2); (try clear hk); (try clear hi)))
         go_ret
         exact ⟨rE, bA⟩
        ·replace c75 := Bool.eq_false_iff.mpr c75
         subst c75
         have H1 : (some false) = some r := by rw [if_neg (show ¬ (false = true) by decide)] at H; exact H
         clear H
         have H := H1
         clear H1
         obtain rfl := Option.some.inj H
         have hnb81 := NB378_379.out
         have hnc81 := NB379_378.out
         obtain ⟨⟨hcz82_0, hcz82_1, hcz82_2, hcz82_3, hcz82_4, hcz82_5, hcz82_6⟩, hfz82_0, hfz82_1, hfz82_2, hfz82_3, hfz82_4, hfz82_5, hfz82_6⟩ := Own.c7 BK378.out
         go_wp2_with (first | (go_at_call 61; (with_reducible refine (impl_isNum.calls a0_4 false _ A74.out).mono ?_); rintro e w' ⟨rfl, ⟨nd, rfl⟩⟩; (try (rw [drewN_self wc]; generalize hq_ : World.drewN wc _ = wc; have n0_ : Aside0 (wc.heap[gb378]? = some (.cells #[.int .i64 a0_0, .string a0_1, .int .i64 a0_2, .int .i64 a0_3, .int .i64 a0_4, .bool false, .slice A0_6 l0_6.length c0_6] 58 (0, 0))) := ⟨by rw [← hq_]; exact (by (with_reducible repeat (first | refine blk_drewN ?_ _ | refine blk_drew ?_ | refine blk_alloc ?_ _)); exact BK378.out)⟩; have n1_ : Aside0 (wc.heap[gb379]? = some (.cells #[.int .i64 0, .string a0_1, .int .i64 a0_2, .int .i64 a0_3, .int .i64 a0_4, .bool false, .slice A0_6 l0_6.length c0_6] 58 (0, 0))) := ⟨by rw [← hq_]; exact (by (with_reducible repeat (first | refine blk_drewN ?_ _ | refine blk_drew ?_ | refine blk_alloc ?_ _)); exact BK379.out)⟩; have n2_ : Aside0 (Below w.heap.size w wc) := ⟨by rw [← hq_]; exact bA⟩; clear BK378 BK379 HB hq_; have BK378 := n0_; have BK379 := n1_; have HB := n2_; clear n0_ n1_ n2_)); obtain ⟨⟨hcz83_0, hcz83_1, hcz83_2, hcz83_3, hcz83_4, hcz83_5, hcz83_6⟩, hfz83_0, hfz83_1, hfz83_2, hfz83_3, hfz83_4, hfz83_5, hfz83_6⟩ := Own.c7 BK379.out))
         go_ret
         exact ⟨rE, bA⟩
       ·replace c73 := Bool.eq_false_iff.mpr c73
        subst c73
        have H1 : (some false) = some r := by rw [if_neg (show ¬ (false = true) by decide)] at H; exact H
        clear H
        have H := H1
        clear H1
        obtain rfl := Option.some.inj H
        have hnb84 := NB378_379.out
        have hnc84 := NB379_378.out
        obtain ⟨⟨hcz85_0, hcz85_1, hcz85_2, hcz85_3, hcz85_4, hcz85_5, hcz85_6⟩, hfz85_0, hfz85_1, hfz85_2, hfz85_3, hfz85_4, hfz85_5, hfz85_6⟩ := Own.c7 BK378.out
        obtain ⟨⟨hcz86_0, hcz86_1, hcz86_2, hcz86_3, hcz86_4, hcz86_5, hcz86_6⟩, hfz86_0, hfz86_1, hfz86_2, hfz86_3, hfz86_4, hfz86_5, hfz86_6⟩ := Own.c7 BK379.out
        go_wp2
        go_ret
        exact ⟨rE, bA⟩
  ·rw [if_neg c23] at H
   have c23b0 : (a0_0 == 1) = false := beq_eq_false_iff_ne.mpr c23
   have c23b1 : (a0_0 != 1) = true := bne_iff_ne.mpr c23
   by_cases c87 : a0_0 = 2
   ·rw [if_pos c87] at H
    have c87b0 : (a0_0 == 2) = true := beq_iff_eq.mpr c87
    have c87b1 : (a0_0 != 2) = false := bne_eq_false_iff_eq.mpr c87
    clear c87
    replace H := Option.bind_eq_some_iff.mp H
    obtain ⟨t389, A880, H⟩ := H
    replace H : (if t389 = true then ((slices_ContainsFunc_int_int.f k l0_6).bind fun t390 => (if t390 = true then (some false) else ((impl_sameNode.f k 0 a0_1 a0_2 a0_3 a0_4 a0_5 ([] : List Int) 0 (⟨#[]⟩ : ByteArray) 0 0 0 false ([] : List Int)).bind fun t391 => (some t391)))) else (some false)) = some r := H
    have A88 := Aside0.mk A880
    clear A880
    by_cases c89 : t389 = true
    ·subst c89
     have H1 : ((slices_ContainsFunc_int_int.f k l0_6).bind fun t390 => (if t390 = true then (some false) else ((impl_sameNode.f k 0 a0_1 a0_2 a0_3 a0_4 a0_5 ([] : List Int) 0 (⟨#[]⟩ : ByteArray) 0 0 0 false ([] : List Int)).bind fun t391 => (some t391)))) = some r := by rw [if_pos rfl] at H; exact H
     clear H
     have H := H1
     clear H1
     replace H := Option.bind_eq_some_iff.mp H
     obtain ⟨t390, A900, H⟩ := H
     replace H : (if t390 = true then (some false) else ((impl_sameNode.f k 0 a0_1 a0_2 a0_3 a0_4 a0_5 ([] : List Int) 0 (⟨#[]⟩ : ByteArray) 0 0 0 false ([] : List Int)).bind fun t391 => (some t391))) = some r := H
     have A90 := Aside0.mk A900
     clear A900
     by_cases c91 : t390 = true
     ·subst c91
      have H1 : (some false) = some r := by rw [if_pos rfl] at H; exact H
      clear H
      have H := H1
      clear H1
      obtain rfl := Option.some.inj H
      go_wp2_with (first | ((with_reducible refine gate_callee (f := 66) rfl ?_); refine goesL_ (some 64) rfl rfl Try.func66 (by kernel_rfl) rfl #[.int .i64 (l0_6.length : Int), .int .i64 1, .int .i64 6] rfl aL ?_; (with_reducible refine (impl_in.calls (l0_6.length : Int) 1 6 true _ A88.out).mono ?_); rintro e w' ⟨rfl, ⟨nd, rfl⟩⟩; refine ⟨_, rfl, ?_⟩) | (go_at_call 115; (with_reducible refine (slices_ContainsFunc_int_int.calls k _ _ l0_6  true _ ?side1 ?side2 A90.out).mono ?_); (case side1 => exact Kd.C_below HR0_6.out bA); (case side2 => exact HC0_6.out); rintro e w' ⟨rfl, ⟨nd, rfl⟩⟩))
      go_ret
      exact ⟨rE, bA⟩
     ·replace c91 := Bool.eq_false_iff.mpr c91
      subst c91
      have H1 : ((impl_sameNode.f k 0 a0_1 a0_2 a0_3 a0_4 a0_5 ([] : List Int) 0 (⟨#[]⟩ : ByteArray) 0 0 0 false ([] : List Int)).bind fun t391 => (some t391)) = some r := by rw [if_neg (show ¬ (false = true) by decide)] at H; exact H
      clear H
      have H := H1
      clear H1
      replace H := Option.bind_eq_some_iff.mp H
      obtain ⟨t391, A1000, H⟩ := H
      replace H : (some t391) = some r := H
      have A100 := Aside0.mk A1000
      clear A1000
      obtain rfl := Option.some.inj H
      go_wp2_with (first | ((with_reducible refine gate_callee (f := 66) rfl ?_); refine goesL_ (some 64) rfl rfl Try.func66 (by kernel_rfl) rfl #[.int .i64 (l0_6.length : Int), .int .i64 1, .int .i64 6] rfl aL ?_; (with_reducible refine (impl_in.calls (l0_6.length : Int) 1 6 true _ A88.out).mono ?_); rintro e w' ⟨rfl, ⟨nd, rfl⟩⟩; refine ⟨_, rfl, ?_⟩) | (go_at_call 115; (with_reducible refine (slices_ContainsFunc_int_int.calls k _ _ l0_6  false _ ?side1 ?side2 A90.out).mono ?_); (case side1 => exact Kd.C_below HR0_6.out bA); (case side2 => exact HC0_6.out); rintro e w' ⟨rfl, ⟨nd, rfl⟩⟩) | (go_at_call 92; (refine (impl_sameNode.calls k 0 a0_1 a0_2 a0_3 a0_4 a0_5 _ _ ([] : List Int) 0 (⟨#[]⟩ : ByteArray) 0 0 0 false _ _ ([] : List Int) t391 _ ?side1 ?side2 ?side3 ?side4 A100.out).mono ?_); (case side1 => exact Kd.C_nil _ _); (case side2 => exact Nat.le_refl _); (case side3 => exact Kd.C_nil _ _); (case side4 => exact Nat.le_refl _); rintro e w109 ⟨rfl, hb⟩; have n0_ := Aside0.mk (blk_below (g := gb378) (o := .cells #[.int .i64 a0_0, .string a0_1, .int .i64 a0_2, .int .i64 a0_3, .int .i64 a0_4, .bool a0_5, .slice A0_6 l0_6.length c0_6] 58 (0, 0)) (by (with_reducible repeat (first | refine blk_drewN ?_ _ | refine blk_drew ?_ | refine blk_alloc ?_ _)); refine blk_far ?_ NB378_379.out _; (with_reducible repeat (first | refine blk_drewN ?_ _ | refine blk_drew ?_ | refine blk_alloc ?_ _)); refine blk_far ?_ NB378_379.out _; (with_reducible repeat (first | refine blk_drewN ?_ _ | refine blk_drew ?_ | refine blk_alloc ?_ _)); exact BK378.out) hb); have n1_ := Aside0.mk (blk_below (g := gb379) (o := .cells #[.int .i64 0, .string a0_1, .int .i64 a0_2, .int .i64 a0_3, .int .i64 a0_4, .bool a0_5, .slice none 0 0] 58 (0, 0)) (by (with_reducible repeat (first | refine blk_drewN ?_ _ | refine blk_drew ?_ | refine blk_alloc ?_ _)); refine blk_put (cs := #[.int .i64 0, .string a0_1, .int .i64 a0_2, .int .i64 a0_3, .int .i64 a0_4, .bool a0_5, .slice A0_6 l0_6.length c0_6]) ?_ 6 _ rfl; (with_reducible repeat (first | refine blk_drewN ?_ _ | refine blk_drew ?_ | refine blk_alloc ?_ _)); refine blk_put (cs := #[.int .i64 a0_0, .string a0_1, .int .i64 a0_2, .int .i64 a0_3, .int .i64 a0_4, .bool a0_5, .slice A0_6 l0_6.length c0_6]) ?_ 0 _ rfl; (with_reducible repeat (first | refine blk_drewN ?_ _ | refine blk_drew ?_ | refine blk_alloc ?_ _)); exact BK379.out) hb); have n2_ := Aside0.mk (below_step bA hb); clear BK378; clear BK379; clear HB; have BK378 := n0_; have BK379 := n1_; have HB := n2_; clear n0_ n1_ n2_; (try clear hb); (try clear hb2); (try clear hk); (try clear hi)))
      go_ret
      exact ⟨rE, bA⟩
    ·replace c89 := Bool.eq_false_iff.mpr c89
     subst c89
     have H1 : (some false) = some r := by rw [if_neg (show ¬ (false = true) by decide)] at H; exact H
     clear H
     have H := H1
     clear H1
     obtain rfl := Option.some.inj H
     go_wp2_with (first | ((with_reducible refine gate_callee (f := 66) rfl ?_); refine goesL_ (some 64) rfl rfl Try.func66 (by kernel_rfl) rfl #[.int .i64 (l0_6.length : Int), .int .i64 1, .int .i64 6] rfl aL ?_; (with_reducible refine (impl_in.calls (l0_6.length : Int) 1 6 false _ A88.out).mono ?_); rintro e w' ⟨rfl, ⟨nd, rfl⟩⟩; refine ⟨_, rfl, ?_⟩))
     go_ret
     exact ⟨rE, bA⟩
   ·rw [if_neg c87] at H
    have c87b0 : (a0_0 == 2) = false := beq_eq_false_iff_ne.mpr c87
    have c87b1 : (a0_0 != 2) = true := bne_iff_ne.mpr c87
    by_cases c118 : a0_0 = 3
    ·rw [if_pos c118] at H
     have c118b0 : (a0_0 == 3) = true := beq_iff_eq.mpr c118
     have c118b1 : (a0_0 != 3) = false := bne_eq_false_iff_eq.mpr c118
     clear c118
     replace H := Option.bind_eq_some_iff.mp H
     obtain ⟨t392, A1190, H⟩ := H
     replace H : (if t392 = true then ((impl_isCol.f a0_4).bind fun t393 => (if t393 = true then ((impl_sameNode.f k 0 a0_1 0 a0_3 0 a0_5 l0_6 0 (⟨#[]⟩ : ByteArray) 0 0 0 false ([] : List Int)).bind fun t394 => (some t394)) else (some false))) else (some false)) = some r := H
     have A119 := Aside0.mk A1190
     clear A1190
     by_cases c120 : t392 = true
     ·subst c120
      have H1 : ((impl_isCol.f a0_4).bind fun t393 => (if t393 = true then ((impl_sameNode.f k 0 a0_1 0 a0_3 0 a0_5 l0_6 0 (⟨#[]⟩ : ByteArray) 0 0 0 false ([] : List Int)).bind fun t394 => (some t394)) else (some false))) = some r := by rw [if_pos rfl] at H; exact H
      clear H
      have H := H1
      clear H1
      replace H := Option.bind_eq_some_iff.mp H
      obtain ⟨t393, A1210, H⟩ := H
      replace H : (if t393 = true then ((impl_sameNode.f k 0 a0_1 0 a0_3 0 a0_5 l0_6 0 (⟨#[]⟩ : ByteArray) 0 0 0 false ([] : List Int)).bind fun t394 => (some t394)) else (some false)) = some r := H
      have A121 := Aside0.mk A1210
      clear A1210
      by_cases c122 : t393 = true
      ·subst c122
       have H1 : ((impl_sameNode.f k 0 a0_1 0 a0_3 0 a0_5 l0_6 0 (⟨#[]⟩ : ByteArray) 0 0 0 false ([] : List Int)).bind fun t394 => (some t394)) = some r := by rw [if_pos rfl] at H; exact H
       clear H
       have H := H1
       clear H1
       replace H := Option.bind_eq_some_iff.mp H
       obtain ⟨t394, A1230, H⟩ := H
       replace H : (some t394) = some r := H
       have A123 := Aside0.mk A1230
       clear A1230
       obtain rfl := Option.some.inj H
       go_wp2_with (first | ((with_reducible refine gate_callee (f := 113) rfl ?_); refine goesL_ (some 76) rfl rfl Try.func113 (by kernel_rfl) rfl #[.int .i64 a0_2] rfl aL ?_; (with_reducible refine (impl_isCol.calls a0_2 true _ A119.out).mono ?_); rintro e w' ⟨rfl, ⟨nd, rfl⟩⟩; refine ⟨_, rfl, ?_⟩) | (go_at_call 113; (with_reducible refine (impl_isCol.calls a0_4 true _ A121.out).mono ?_); rintro e w' ⟨rfl, ⟨nd, rfl⟩⟩) | (go_at_call 92; (refine (impl_sameNode.calls k 0 a0_1 0 a0_3 0 a0_5 _ _ l0_6 0 (⟨#[]⟩ : ByteArray) 0 0 0 false _ _ ([] : List Int) t394 _ ?side1 ?side2 ?side3 ?side4 A123.out).mono ?_); (case side1 => exact Kd.C_below HR0_6.out bA); (case side2 => exact HC0_6.out); (case side3 => exact Kd.C_nil _ _); (case side4 => exact Nat.le_refl _); rintro e w132 ⟨rfl, hb⟩; have n0_ := Aside0.mk (blk_below (g := gb378) (o := .cells #[.int .i64 a0_0, .string a0_1, .int .i64 a0_2, .int .i64 a0_3, .int .i64 a0_4, .bool a0_5, .slice A0_6 l0_6.length c0_6] 58 (0, 0)) (by (with_reducible repeat (first | refine blk_drewN ?_ _ | refine blk_drew ?_ | refine blk_alloc ?_ _)); refine blk_far ?_ NB378_379.out _; (with_reducible repeat (first | refine blk_drewN ?_ _ | refine blk_drew ?_ | refine blk_alloc ?_ _)); refine blk_far ?_ NB378_379.out _; (with_reducible repeat (first | refine blk_drewN ?_ _ | refine blk_drew ?_ | refine blk_alloc ?_ _)); refine blk_far ?_ NB378_379.out _; (with_reducible repeat (first | refine blk_drewN ?_ _ | refine blk_drew ?_ | refine blk_alloc ?_ _)); exact BK378.out) hb); have n1_ := Aside0.mk (blk_below (g := gb379) (o := .cells #[.int .i64 0, .string a0_1, .int .i64 0, .int .i64 a0_3, .int .i64 0, .bool a0_5, .slice A0_6 l0_6.length c0_6] 58 (0, 0)) (by (with_reducible repeat (first | refine blk_drewN ?_ _ | refine blk_drew ?_ | refine blk_alloc ?_ _)); refine blk_put (cs := #[.int .i64 0, .string a0_1, .int .i64 0, .int .i64 a0_3, .int .i64 a0_4, .bool a0_5, .slice A0_6 l0_6.length c0_6]) ?_ 4 _ rfl; (with_reducible repeat (first | refine blk_drewN ?_ _ | refine blk_drew ?_ | refine blk_alloc ?_ _)); refine blk_put (cs := #[.int .i64 0, .string a0_1, .int .i64 a0_2, .int .i64 a0_3, .int .i64 a0_4, .bool a0_5, .slice A0_6 l0_6.length c0_6]) ?_ 2 _ rfl; (with_reducible repeat (first | refine blk_drewN ?_ _ | refine blk_drew ?_ | refine blk_alloc ?_ _)); refine blk_put (cs := #[.int .i64 a0_0, .string a0_1, .int .i64 a0_2, .int .i64 a0_3, .int .i64 a0_4, .bool a0_5, .slice A0_6 l0_6.length c0_6]) ?_ 0 _ rfl; (with_reducible repeat (first | refine blk_drewN ?_ _ | refine blk_drew ?_ | refine blk_alloc ?_ _)); exact BK379.out) hb); have n2_ := Aside0.mk (below_step bA hb); clear BK378; clear BK379; clear HB; have BK378 := n0_; have BK379 := n1_; have HB := n2_; clear n0_ n1_ n2_; (try clear hb); (try clear hb2); (try clear hk); (try clear hi)))
       go_ret
       exact ⟨rE, bA⟩
      ·replace c122 := Bool.eq_false_iff.mpr c122
       subst c122
       have H1 : (some false) = some r := by rw [if_neg (show ¬ (false = true) by decide)] at H; exact H
       clear H
       have H := H1
       clear H1
       obtain rfl := Option.some.inj H
       go_wp2_with (first | ((with_reducible refine gate_callee (f := 113) rfl ?_); refine goesL_ (some 76) rfl rfl Try.func113 (by kernel_rfl) rfl #[.int .i64 a0_2] rfl aL ?_; (with_reducible refine (impl_isCol.calls a0_2 true _ A119.out).mono ?_); rintro e w' ⟨rfl, ⟨nd, rfl⟩⟩; refine ⟨_, rfl, ?_⟩) | (go_at_call 113; (with_reducible refine (impl_isCol.calls a0_4 false _ A121.out).mono ?_); rintro e w' ⟨rfl, ⟨nd, rfl⟩⟩))
       go_ret
       exact ⟨rE, bA⟩
     ·replace c120 := Bool.eq_false_iff.mpr c120
      subst c120
      have H1 : (some false) = some r := by rw [if_neg (show ¬ (false = true) by decide)] at H; exact H
      clear H
      have H := H1
      clear H1
      obtain rfl := Option.some.inj H
      go_wp2_with (first | ((with_reducible refine gate_callee (f := 113) rfl ?_); refine goesL_ (some 76) rfl rfl Try.func113 (by kernel_rfl) rfl #[.int .i64 a0_2] rfl aL ?_; (with_reducible refine (impl_isCol.calls a0_2 false _ A119.out).mono ?_); rintro e w' ⟨rfl, ⟨nd, rfl⟩⟩; refine ⟨_, rfl, ?_⟩))
      go_ret
      exact ⟨rE, bA⟩
    ·rw [if_neg c118] at H
     have c118b0 : (a0_0 == 3) = false := beq_eq_false_iff_ne.mpr c118
     have c118b1 : (a0_0 != 3) = true := bne_iff_ne.mpr c118
     by_cases c149 : a0_0 = 5
     ·rw [if_pos c149] at H
      have c149b0 : (a0_0 == 5) = true := beq_iff_eq.mpr c149
      have c149b1 : (a0_0 != 5) = false := bne_eq_false_iff_eq.mpr c149
      clear c149
      replace H := Option.bind_eq_some_iff.mp H
      obtain ⟨t395, A1500, H⟩ := H
      replace H : (if t395 = true then ((impl_sameNode.f k 0 a0_1 0 a0_3 a0_4 a0_5 l0_6 0 (⟨#[]⟩ : ByteArray) 0 0 0 false ([] : List Int)).bind fun t396 => (some t396)) else (some false)) = some r := H
      have A150 := Aside0.mk A1500
      clear A1500
      by_cases c151 : t395 = true
      ·subst c151
       have H1 : ((impl_sameNode.f k 0 a0_1 0 a0_3 a0_4 a0_5 l0_6 0 (⟨#[]⟩ : ByteArray) 0 0 0 false ([] : List Int)).bind fun t396 => (some t396)) = some r := by rw [if_pos rfl] at H; exact H
       clear H
       have H := H1
       clear H1
       replace H := Option.bind_eq_some_iff.mp H
       obtain ⟨t396, A1520, H⟩ := H
       replace H : (some t396) = some r := H
       have A152 := Aside0.mk A1520
       clear A1520
       obtain rfl := Option.some.inj H
       go_wp2_with (first | ((with_reducible refine gate_callee (f := 113) rfl ?_); refine goesL_ (some 88) rfl rfl Try.func113 (by kernel_rfl) rfl #[.int .i64 a0_2] rfl aL ?_; (with_reducible refine (impl_isCol.calls a0_2 true _ A150.out).mono ?_); rintro e w' ⟨rfl, ⟨nd, rfl⟩⟩; refine ⟨_, rfl, ?_⟩) | (go_at_call 92; (refine (impl_sameNode.calls k 0 a0_1 0 a0_3 a0_4 a0_5 _ _ l0_6 0 (⟨#[]⟩ : ByteArray) 0 0 0 false _ _ ([] : List Int) t396 _ ?side1 ?side2 ?side3 ?side4 A152.out).mono ?_); (case side1 => exact Kd.C_below HR0_6.out bA); (case side2 => exact HC0_6.out); (case side3 => exact Kd.C_nil _ _); (case side4 => exact Nat.le_refl _); rintro e w161 ⟨rfl, hb⟩; have n0_ := Aside0.mk (blk_below (g := gb378) (o := .cells #[.int .i64 a0_0, .string a0_1, .int .i64 a0_2, .int .i64 a0_3, .int .i64 a0_4, .bool a0_5, .slice A0_6 l0_6.length c0_6] 58 (0, 0)) (by (with_reducible repeat (first | refine blk_drewN ?_ _ | refine blk_drew ?_ | refine blk_alloc ?_ _)); refine blk_far ?_ NB378_379.out _; (with_reducible repeat (first | refine blk_drewN ?_ _ | refine blk_drew ?_ | refine blk_alloc ?_ _)); refine blk_far ?_ NB378_379.out _; (with_reducible repeat (first | refine blk_drewN ?_ _ | refine blk_drew ?_ | refine blk_alloc ?_ _)); exact BK378.out) hb); have n1_ := Aside0.mk (blk_below (g := gb379) (o := .cells #[.int .i64 0, .string a0_1, .int .i64 0, .int .i64 a0_3, .int .i64 a0_4, .bool a0_5, .slice A0_6 l0_6.length c0_6] 58 (0, 0)) (by (with_reducible repeat (first | refine blk_drewN ?_ _ | refine blk_drew ?_ | refine blk_alloc ?_ _)); refine blk_put (cs := #[.int .i64 0, .string a0_1, .int .i64 a0_2, .int .i64 a0_3, .int .i64 a0_4, .bool a0_5, .slice A0_6 l0_6.length c0_6]) ?_ 2 _ rfl; (with_reducible repeat (first | refine blk_drewN ?_ _ | refine blk_drew ?_ | refine blk_alloc ?_ _)); refine blk_put (cs := #[.int .i64 a0_0, .string a0_1, .int .i64 a0_2, .int .i64 a0_3, .int .i64 a0_4, .bool a0_5, .slice A0_6 l0_6.length c0_6]) ?_ 0 _ rfl; (with_reducible repeat (first | refine blk_drewN ?_ _ | refine blk_drew ?_ | refine blk_alloc ?_ _)); exact BK379.out) hb); have n2_ := Aside0.mk (below_step bA hb); clear BK378; clear BK379; clear HB; have BK378 := n0_; have BK379 := n1_; have HB := n2_; clear n0_ n1_ n2_; (try clear hb); (try clear hb2); (try clear hk); (try clear hi)))
       go_ret
       exact ⟨rE, bA⟩
      ·replace c151 := Bool.eq_false_iff.mpr c151
       subst c151
       have H1 : (some false) = some r := by rw [if_neg (show ¬ (false = true) by decide)] at H; exact H
       clear H
       have H := H1
       clear H1
       obtain rfl := Option.some.inj H
       go_wp2_with (first | ((with_reducible refine gate_callee (f := 113) rfl ?_); refine goesL_ (some 88) rfl rfl Try.func113 (by kernel_rfl) rfl #[.int .i64 a0_2] rfl aL ?_; (with_reducible refine (impl_isCol.calls a0_2 false _ A150.out).mono ?_); rintro e w' ⟨rfl, ⟨nd, rfl⟩⟩; refine ⟨_, rfl, ?_⟩))
       go_ret
       exact ⟨rE, bA⟩
     ·rw [if_neg c149] at H
      have c149b0 : (a0_0 == 5) = false := beq_eq_false_iff_ne.mpr c149
      have c149b1 : (a0_0 != 5) = true := bne_iff_ne.mpr c149
      by_cases c170 : a0_0 = 6
      ·rw [if_pos c170] at H
       have c170b0 : (a0_0 == 6) = true := beq_iff_eq.mpr c170
       have c170b1 : (a0_0 != 6) = false := bne_eq_false_iff_eq.mpr c170
       clear c170
       replace H := Option.bind_eq_some_iff.mp H
       obtain ⟨t397, A1710, H⟩ := H
       replace H : (if t397 = true then (if a0_5 = true then ((impl_isSlot.f a0_4).bind fun t398 => (if t398 = true then ((impl_sameNode.f k 0 a0_1 a0_2 a0_3 0 false l0_6 0 (⟨#[]⟩ : ByteArray) 0 0 0 false ([] : List Int)).bind fun t399 => (some t399)) else (some false))) else ((impl_sameNode.f k 0 a0_1 a0_2 a0_3 0 false l0_6 0 (⟨#[]⟩ : ByteArray) 0 0 0 false ([] : List Int)).bind fun t400 => (some t400))) else (some false)) = some r := H
       have A171 := Aside0.mk A1710
       clear A1710
       by_cases c172 : t397 = true
       ·subst c172
        have H1 : (if a0_5 = true then ((impl_isSlot.f a0_4).bind fun t398 => (if t398 = true then ((impl_sameNode.f k 0 a0_1 a0_2 a0_3 0 false l0_6 0 (⟨#[]⟩ : ByteArray) 0 0 0 false ([] : List Int)).bind fun t399 => (some t399)) else (some false))) else ((impl_sameNode.f k 0 a0_1 a0_2 a0_3 0 false l0_6 0 (⟨#[]⟩ : ByteArray) 0 0 0 false ([] : List Int)).bind fun t400 => (some t400))) = some r := by rw [if_pos rfl] at H; exact H
        clear H
        have H := H1
        clear H1
        by_cases c173 : a0_5 = true
        ·subst c173
         have H1 : ((impl_isSlot.f a0_4).bind fun t398 => (if t398 = true then ((impl_sameNode.f k 0 a0_1 a0_2 a0_3 0 false l0_6 0 (⟨#[]⟩ : ByteArray) 0 0 0 false ([] : List Int)).bind fun t399 => (some t399)) else (some false))) = some r := by rw [if_pos rfl] at H; exact H
         clear H
         have H := H1
         clear H1
         replace H := Option.bind_eq_some_iff.mp H
         obtain ⟨t398, A1740, H⟩ := H
         replace H : (if t398 = true then ((impl_sameNode.f k 0 a0_1 a0_2 a0_3 0 false l0_6 0 (⟨#[]⟩ : ByteArray) 0 0 0 false ([] : List Int)).bind fun t399 => (some t399)) else (some false)) = some r := H
         have A174 := Aside0.mk A1740
         clear A1740
         by_cases c175 : t398 = true
         ·subst c175
          have H1 : ((impl_sameNode.f k 0 a0_1 a0_2 a0_3 0 false l0_6 0 (⟨#[]⟩ : ByteArray) 0 0 0 false ([] : List Int)).bind fun t399 => (some t399)) = some r := by rw [if_pos rfl] at H; exact H
          clear H
          have H := H1
          clear H1
          replace H := Option.bind_eq_some_iff.mp H
          obtain ⟨t399, A1760, H⟩ := H
          replace H : (some t399) = some r := H
          have A176 := Aside0.mk A1760
          clear A1760
          obtain rfl := Option.some.inj H
          go_wp2_with (first | ((with_reducible refine gate_callee (f := 66) rfl ?_); refine goesL_ (some 94) rfl rfl Try.func66 (by kernel_rfl) rfl #[.int .i64 a0_4, .int .i64 0, .int .i64 1000000] rfl aL ?_; (with_reducible refine (impl_in.calls a0_4 0 1000000 true _ A171.out).mono ?_); rintro e w' ⟨rfl, ⟨nd, rfl⟩⟩; refine ⟨_, rfl, ?_⟩) | (go_at_call 114; (with_reducible refine (impl_isSlot.calls a0_4 true _ A174.out).mono ?_); rintro e w' ⟨rfl, ⟨nd, rfl⟩⟩) | (go_at_call 92; (refine (impl_sameNode.calls k 0 a0_1 a0_2 a0_3 0 false _ _ l0_6 0 (⟨#[]⟩ : ByteArray) 0 0 0 false _ _ ([] : List Int) t399 _ ?side1 ?side2 ?side3 ?side4 A176.out).mono ?_); (case side1 => exact Kd.C_below HR0_6.out bA); (case side2 => exact HC0_6.out); (case side3 => exact Kd.C_nil _ _); (case side4 => exact Nat.le_refl _); rintro e w185 ⟨rfl, hb⟩; have n0_ := Aside0.mk (blk_below (g := gb378) (o := .cells #[.int .i64 a0_0, .string a0_1, .int .i64 a0_2, .int .i64 a0_3, .int .i64 a0_4, .bool true, .slice A0_6 l0_6.length c0_6] 58 (0, 0)) (by (with_reducible repeat (first | refine blk_drewN ?_ _ | refine blk_drew ?_ | refine blk_alloc ?_ _)); refine blk_far ?_ NB378_379.out _; (with_reducible repeat (first | refine blk_drewN ?_ _ | refine blk_drew ?_ | refine blk_alloc ?_ _)); refine blk_far ?_ NB378_379.out _; (with_reducible repeat (first | refine blk_drewN ?_ _ | refine blk_drew ?_ | refine blk_alloc ?_ _)); refine blk_far ?_ NB378_379.out _; (with_reducible repeat (first | refine blk_drewN ?_ _ | refine blk_drew ?_ | refine blk_alloc ?_ _)); exact BK378.out) hb); have n1_ := Aside0.mk (blk_below (g := gb379) (o := .cells #[.int .i64 0, .string a0_1, .int .i64 a0_2, .int .i64 a0_3, .int .i64 0, .bool false, .slice A0_6 l0_6.length c0_6] 58 (0, 0)) (by (with_reducible repeat (first | refine blk_drewN ?_ _ | refine blk_drew ?_ | refine blk_alloc ?_ _)); refine blk_put (cs := #[.int .i64 0, .string a0_1, .int .i64 a0_2, .int .i64 a0_3, .int .i64 0, .bool true, .slice A0_6 l0_6.length c0_6]) ?_ 5 _ rfl; (with_reducible repeat (first | refine blk_drewN ?_ _ | refine blk_drew ?_ | refine blk_alloc ?_ _)); refine blk_put (cs := #[.int .i64 0, .string a0_1, .int .i64 a0_2, .int .i64 a0_3, .int .i64 a0_4, .bool true, .slice A0_6 l0_6.length c0_6]) ?_ 4 _ rfl; (with_reducible repeat (first | refine blk_drewN ?_ _ | refine blk_drew ?_ | refine blk_alloc ?_ _)); refine blk_put (cs := #[.int .i64 a0_0, .string a0_1, .int .i64 a0_2, .int .i64 a0_3, .int .i64 a0_4, .bool true, .slice A0_6 l0_6.length c0_6]) ?_ 0 _ rfl; (with_reducible repeat (first | refine blk_drewN ?_ _ | refine blk_drew ?_ | refine blk_alloc ?_ _)); exact BK379.out) hb); have n2_ := Aside0.mk (below_step bA hb); clear BK378; clear BK379; clear HB; have BK378 := n0_; have BK379 := n1_; have HB := n2_; clear n0_ n1_ n2_; (try clear hb); (try clear hb2); (try clear hk); (try clear hi)))
          go_ret
          exact ⟨rE, bA⟩
         ·replace c175 := Bool.eq_false_iff.mpr c175
          subst c175
          have H1 : (some false) = some r := by rw [if_neg (show ¬ (false = true) by decide)] at H; exact H
          clear H
          have H := H1
          clear H1
          obtain rfl := Option.some.inj H
          go_wp2_with (first | ((with_reducible refine gate_callee (f := 66) rfl ?_); refine goesL_ (some 94) rfl rfl Try.func66 (by kernel_rfl) rfl #[.int .i64 a0_4, .int .i64 0, .int .i64 1000000] rfl aL ?_; (with_reducible refine (impl_in.calls a0_4 0 1000000 true _ A171.out).mono ?_); rintro e w' ⟨rfl, ⟨nd, rfl⟩⟩; refine ⟨_, rfl, ?_⟩) | (go_at_call 114; (with_reducible refine (impl_isSlot.calls a0_4 false _ A174.out).mono ?_); rintro e w' ⟨rfl, ⟨nd, rfl⟩⟩))
          go_ret
          exact ⟨rE, bA⟩
        ·replace c173 := Bool.eq_false_iff.mpr c173
         subst c173
         have H1 : ((impl_sameNode.f k 0 a0_1 a0_2 a0_3 0 false l0_6 0 (⟨#[]⟩ : ByteArray) 0 0 0 false ([] : List Int)).bind fun t400 => (some t400)) = some r := by rw [if_neg (show ¬ (false = true) by decide)] at H; exact H
         clear H
         have H := H1
         clear H1
         replace H := Option.bind_eq_some_iff.mp H
         obtain ⟨t400, A1940, H⟩ := H
         replace H : (some t400) = some r := H
         have A194 := Aside0.mk A1940
         clear A1940
         obtain rfl := Option.some.inj H
         go_wp2_with (first | ((with_reducible refine gate_callee (f := 66) rfl ?_); refine goesL_ (some 94) rfl rfl Try.func66 (by kernel_rfl) rfl #[.int .i64 a0_4, .int .i64 0, .int .i64 1000000] rfl aL ?_; (with_reducible refine (impl_in.calls a0_4 0 1000000 true _ A171.out).mono ?_); rintro e w' ⟨rfl, ⟨nd, rfl⟩⟩; refine ⟨_, rfl, ?_⟩) | (go_at_call 92; (refine (impl_sameNode.calls k 0 a0_1 a0_2 a0_3 0 false _ _ l0_6 0 (⟨#[]⟩ : ByteArray) 0 0 0 false _ _ ([] : List Int) t400 _ ?side1 ?side2 ?side3 ?side4 A194.out).mono ?_); (case side1 => exact Kd.C_below HR0_6.out bA); (case side2 => exact HC0_6.out); (case side3 => exact Kd.C_nil _ _); (case side4 => exact Nat.le_refl _); rintro e w203 ⟨rfl, hb⟩; have n0_ := Aside0.mk (blk_below (g := gb378) (o := .cells #[.int .i64 a0_0, .string a0_1, .int .i64 a0_2, .int .i64 a0_3, .int .i64 a0_4, .bool false, .slice A0_6 l0_6.length c0_6] 58 (0, 0)) (by (with_reducible repeat (first | refine blk_drewN ?_ _ | refine blk_drew ?_ | refine blk_alloc ?_ _)); refine blk_far ?_ NB378_379.out _; (with_reducible repeat (first | refine blk_drewN ?_ _ | refine blk_drew ?_ | refine blk_alloc ?_ _)); refine blk_far ?_ NB378_379.out _; (with_reducible repeat (first | refine blk_drewN ?_ _ | refine blk_drew ?_ | refine blk_alloc ?_ _)); refine blk_far ?_ NB378_379.out _; (with_reducible repeat (first | refine blk_drewN ?_ _ | refine blk_drew ?_ | refine blk_alloc ?_ _)); exact BK378.out) hb); have n1_ := Aside0.mk (blk_below (g := gb379) (o := .cells #[.int .i64 0, .string a0_1, .int .i64 a0_2, .int .i64 a0_3, .int .i64 0, .bool false, .slice A0_6 l0_6.length c0_6] 58 (0, 0)) (by (with_reducible repeat (first | refine blk_drewN ?_ _ | refine blk_drew ?_ | refine blk_alloc ?_ _)); refine blk_put (cs := #[.int .i64 0, .string a0_1, .int .i64 a0_2, .int .i64 a0_3, .int .i64 0, .bool false, .slice A0_6 l0_6.length c0_6]) ?_ 5 _ rfl; (with_reducible repeat (first | refine blk_drewN ?_ _ | refine blk_drew ?_ | refine blk_alloc ?_ _)); refine blk_put (cs := #[.int .i64 0, .string a0_1, .int .i64 a0_2, .int .i64 a0_3, .int .i64 a0_4, .bool false, .slice A0_6 l0_6.length c0_6]) ?_ 4 _ rfl; (with_reducible repeat (first | refine blk_drewN ?_ _ | refine blk_drew ?_ | refine blk_alloc ?_ _)); refine blk_put (cs := #[.int .i64 a0_0, .string a0_1, .int .i64 a0_2, .int .i64 a0_3, .int .i64 a0_4, .bool false, .slice A0_6 l0_6.length c0_6]) ?_ 0 _ rfl; (with_reducible repeat (first | refine blk_drewN ?_ _ | refine blk_drew ?_ | refine blk_alloc ?_ _)); exact BK379.out) hb); have n2_ := Aside0.mk (below_step bA hb); clear BK378; clear BK379; clear HB; have BK378 := n0_; have BK379 := n1_; have HB := n2_; clear n0_ n1_ n2_; (try clear hb); (try clear hb2); (try clear hk); (try clear hi)))
         go_ret
         exact ⟨rE, bA⟩
       ·replace c172 := Bool.eq_false_iff.mpr c172
        subst c172
        have H1 : (some false) = some r := by rw [if_neg (show ¬ (false = true) by decide)] at H; exact H
        clear H
        have H := H1
        clear H1
        obtain rfl := Option.some.inj H
        go_wp2_with (first | ((with_reducible refine gate_callee (f := 66) rfl ?_); refine goesL_ (some 94) rfl rfl Try.func66 (by kernel_rfl) rfl #[.int .i64 a0_4, .int .i64 0, .int .i64 1000000] rfl aL ?_; (with_reducible refine (impl_in.calls a0_4 0 1000000 false _ A171.out).mono ?_); rintro e w' ⟨rfl, ⟨nd, rfl⟩⟩; refine ⟨_, rfl, ?_⟩))
        go_ret
        exact ⟨rE, bA⟩
      ·rw [if_neg c170] at H
       have c170b0 : (a0_0 == 6) = false := beq_eq_false_iff_ne.mpr c170
       have c170b1 : (a0_0 != 6) = true := bne_iff_ne.mpr c170
       by_cases c212 : a0_0 = 4
       ·rw [if_pos c212] at H
        have c212b0 : (a0_0 == 4) = true := beq_iff_eq.mpr c212
        have c212b1 : (a0_0 != 4) = false := bne_eq_false_iff_eq.mpr c212
        clear c212
        replace H := Option.bind_eq_some_iff.mp H
        obtain ⟨t401, A2130, H⟩ := H
        replace H : (some t401) = some r := H
        have A213 := Aside0.mk A2130
        clear A2130
        obtain rfl := Option.some.inj H
        go_wp2_with (first | (go_at_call 92; (refine (impl_sameNode.calls k 0 a0_1 a0_2 a0_3 a0_4 a0_5 _ _ l0_6 0 (⟨#[]⟩ : ByteArray) 0 0 0 false _ _ ([] : List Int) t401 _ ?side1 ?side2 ?side3 ?side4 A213.out).mono ?_); (case side1 => exact Kd.C_below HR0_6.out bA); (case side2 => exact HC0_6.out); (case side3 => exact Kd.C_nil _ _); (case side4 => exact Nat.le_refl _); rintro e w222 ⟨rfl, hb⟩; have n0_ := Aside0.mk (blk_below (g := gb378) (o := .cells #[.int .i64 a0_0, .string a0_1, .int .i64 a0_2, .int .i64 a0_3, .int .i64 a0_4, .bool a0_5, .slice A0_6 l0_6.length c0_6] 58 (0, 0)) (by (with_reducible repeat (first | refine blk_drewN ?_ _ | refine blk_drew ?_ | refine blk_alloc ?_ _)); refine blk_far ?_ NB378_379.out _; (with_reducible repeat (first | refine blk_drewN ?_ _ | refine blk_drew ?_ | refine blk_alloc ?_ _)); exact BK378.out) hb); have n1_ := Aside0.mk (blk_below (g := gb379) (o := .cells #[.int .i64 0, .string a0_1, .int .i64 a0_2, .int .i64 a0_3, .int .i64 a0_4, .bool a0_5, .slice A0_6 l0_6.length c0_6] 58 (0, 0)) (by (with_reducible repeat (first | refine blk_drewN ?_ _ | refine blk_drew ?_ | refine blk_alloc ?_ _)); refine blk_put (cs := #[.int .i64 a0_0, .string a0_1, .int .i64 a0_2, .int .i64 a0_3, .int .i64 a0_4, .bool a0_5, .slice A0_6 l0_6.length c0_6]) ?_ 0 _ rfl; (with_reducible repeat (first | refine blk_drewN ?_ _ | refine blk_drew ?_ | refine blk_alloc ?_ _)); exact BK379.out) hb); have n2_ := Aside0.mk (below_step bA hb); clear BK378; clear BK379; clear HB; have BK378 := n0_; have BK379 := n1_; have HB := n2_; clear n0_ n1_ n2_; (try clear hb); (try clear hb2); (try clear hk); (try clear hi)))
        go_ret
        exact ⟨rE, bA⟩
       ·rw [if_neg c212] at H
        have c212b0 : (a0_0 == 4) = false := beq_eq_false_iff_ne.mpr c212
        have c212b1 : (a0_0 != 4) = true := bne_iff_ne.mpr c212
        by_cases c223 : a0_0 = 7
        ·rw [if_pos c223] at H
         have c223b0 : (a0_0 == 7) = true := beq_iff_eq.mpr c223
         have c223b1 : (a0_0 != 7) = false := bne_eq_false_iff_eq.mpr c223
         clear c223
         replace H := Option.bind_eq_some_iff.mp H
         obtain ⟨t402, A2240, H⟩ := H
         replace H : (some t402) = some r := H
         have A224 := Aside0.mk A2240
         clear A2240
         obtain rfl := Option.some.inj H
         go_wp2_with (first | (go_at_call 92; (refine (impl_sameNode.calls k 0 a0_1 a0_2 a0_3 a0_4 a0_5 _ _ l0_6 0 (⟨#[]⟩ : ByteArray) 0 0 0 false _ _ ([] : List Int) t402 _ ?side1 ?side2 ?side3 ?side4 A224.out).mono ?_); (case side1 => exact Kd.C_below HR0_6.out bA); (case side2 => exact HC0_6.out); (case side3 => exact Kd.C_nil _ _); (case side4 => exact Nat.le_refl _); rintro e w233 ⟨rfl, hb⟩; have n0_ := Aside0.mk (blk_below (g := gb378) (o := .cells #[.int .i64 a0_0, .string a0_1, .int .i64 a0_2, .int .i64 a0_3, .int .i64 a0_4, .bool a0_5, .slice A0_6 l0_6.length c0_6] 58 (0, 0)) (by (with_reducible repeat (first | refine blk_drewN ?_ _ | refine blk_drew ?_ | refine blk_alloc ?_ _)); refine blk_far ?_ NB378_379.out _; (with_reducible repeat (first | refine blk_drewN ?_ _ | refine blk_drew ?_ | refine blk_alloc ?_ _)); exact BK378.out) hb); have n1_ := Aside0.mk (blk_below (g := gb379) (o := .cells #[.int .i64 0, .string a0_1, .int .i64 a0_2, .int .i64 a0_3, .int .i64 a0_4, .bool a0_5, .slice A0_6 l0_6.length c0_6] 58 (0, 0)) (by (with_reducible repeat (first | refine blk_drewN ?_ _ | refine blk_drew ?_ | refine blk_alloc ?_ _)); refine blk_put (cs := #[.int .i64 a0_0, .string a0_1, .int .i64 a0_2, .int .i64 a0_3, .int .i64 a0_4, .bool a0_5, .slice A0_6 l0_6.length c0_6]) ?_ 0 _ rfl; (with_reducible repeat (first | refine blk_drewN ?_ _ | refine blk_drew ?_ | refine blk_alloc ?_ _)); exact BK379.out) hb); have n2_ := Aside0.mk (below_step bA hb); clear BK378; clear BK379; clear HB; have BK378 := n0_; have BK379 := n1_; have HB := n2_; clear n0_ n1_ n2_; (try clear hb); (try clear hb2); (try clear hk); (try clear hi)))
         go_ret
         exact ⟨rE, bA⟩
        ·rw [if_neg c223] at H
         have c223b0 : (a0_0 == 7) = false := beq_eq_false_iff_ne.mpr c223
         have c223b1 : (a0_0 != 7) = true := bne_iff_ne.mpr c223
         obtain rfl := Option.some.inj H
         go_wp2
         go_ret
         exact ⟨rE, bA⟩

/-! ### impl_PlanOk_1: function 81 -/
def impl_PlanOk_1.f (k : Nat) (a0_0 : Int) (a0_1 : ByteArray) (a0_2 : Int) (a0_3 : Int) (a0_4 : Int) (a0_5 : Bool) (l0_6 : List Int) : Option (Bool) := (impl_NodeOk.f k a0_0 a0_1 a0_2 a0_3 a0_4 a0_5 l0_6).bind fun t404 => (some (!t404))
theorem impl_PlanOk_1.mono : ∀ a0 a1 a2 a3 a4 a5 a6 k, LeO (impl_PlanOk_1.f k a0 a1 a2 a3 a4 a5 a6) (impl_PlanOk_1.f (k + 1) a0 a1 a2 a3 a4 a5 a6) := by
 intro a0 a1 a2 a3 a4 a5 a6 k
 unfold impl_PlanOk_1.f
 repeat' first
   | (with_reducible exact impl_NodeOk.mono _ _ _ _ _ _ _ _)
   | (with_reducible exact LeO.refl _)
   | (with_reducible exact LeO.none _)
   | (with_reducible refine LeO.ite ?_ ?_)
   | (with_reducible refine LeO.bind ?_ (fun _ => ?_))
   | exact impl_NodeOk.mono _ _ _ _ _ _ _ _
   | exact LeO.none _
   | refine LeO.ite ?_ ?_
   | refine LeO.bind ?_ (fun _ => ?_)
set_option maxHeartbeats 8000000 in
set_option maxRecDepth 100000 in
theorem impl_PlanOk_1.calls (k : Nat) (a0_0 : Int) (a0_1 : ByteArray) (a0_2 : Int) (a0_3 : Int) (a0_4 : Int) (a0_5 : Bool) (A0_6 : Option Addr) (c0_6 : Nat) (l0_6 : List Int) (r : Bool) (w : World) (hr0_6 : Kd.C (Kd.int .i64) w A0_6 l0_6.length l0_6) (hc0_6 : l0_6.length ≤ c0_6) (h : impl_PlanOk_1.f k a0_0 a0_1 a0_2 a0_3 a0_4 a0_5 l0_6 = some r) :
  Calls Try.prog 81 #[.agg #[.int .i64 a0_0, .string a0_1, .int .i64 a0_2, .int .i64 a0_3, .int .i64 a0_4, .bool a0_5, .slice A0_6 l0_6.length c0_6]] w fun e w' => e = .returned (.bool r) ∧ Below w.heap.size w w' := by
 have hu58 := Try.underlying58
 have HR0_6 := Aside0.mk hr0_6
 have HC0_6 := Aside0.mk hc0_6
 clear hr0_6 hc0_6
 have HB := Aside0.mk (Below.refl w.heap.size w)
 have H : ((impl_NodeOk.f k a0_0 a0_1 a0_2 a0_3 a0_4 a0_5 l0_6).bind fun t404 => (some (!t404))) = some r := h
 clear h
 replace H := Option.bind_eq_some_iff.mp H
 obtain ⟨t404, A20, H⟩ := H
 replace H : (some (!t404)) = some r := H
 have A2 := Aside0.mk A20
 clear A20
 obtain rfl := Option.some.inj H
 go_enter Try.func81, Try.ntmps81
 go_wp2_with (first | ((with_reducible refine gate_dst (N := 1) rfl ?_); refine box_event ?hg (N := 1) ?hd (cs := #[.int .i64 a0_0, .string a0_1, .int .i64 a0_2, .int .i64 a0_3, .int .i64 a0_4, .bool a0_5, .slice A0_6 l0_6.length c0_6]) (t := 58) ?hr ?_; (case hd => rfl); (case hg => rfl); (case hr => first | (go_simp; done) | (go_simp; rfl)); intro gb403 hg w3 hbox hb; have n0_ := Aside0.mk (below_step bA hb); have n1_ := Aside0.mk (hbox); have n2_ := Aside0.mk ((by rw [hg]; exact (below_size bA) : w.heap.size ≤ gb403)); have n3_ := Aside0.mk ((by rw [hg]; exact (below_size bA) : w.heap.size ≤ gb403)); clear HB; have HB := n0_; have BK403 := n1_; have GW403 := n2_; have GE403 := n3_; clear n0_ n1_ n2_ n3_; clear hb hbox hg; obtain ⟨⟨hcz4_0, hcz4_1, hcz4_2, hcz4_3, hcz4_4, hcz4_5, hcz4_6⟩, hfz4_0, hfz4_1, hfz4_2, hfz4_3, hfz4_4, hfz4_5, hfz4_6⟩ := Own.c7 BK403.out) | ((with_reducible refine gate_callee (f := 82) rfl ?_); refine goesL_ (some 4) rfl rfl Try.func82 (by kernel_rfl) rfl #[.agg #[.int .i64 a0_0, .string a0_1, .int .i64 a0_2, .int .i64 a0_3, .int .i64 a0_4, .bool a0_5, .slice A0_6 l0_6.length c0_6]] rfl aL ?_; (with_reducible refine (impl_NodeOk.calls k a0_0 a0_1 a0_2 a0_3 a0_4 a0_5 _ _ l0_6 t404 _ ?side1 ?side2 A2.out).mono ?_); (case side1 => exact cA); (case side2 => exact HC0_6.out); rintro e w5 ⟨rfl, hb⟩; refine ⟨_, rfl, ?_⟩; have n0_ := Aside0.mk (blk_below (g := gb403) (o := .cells #[.int .i64 a0_0, .string a0_1, .int .i64 a0_2, .int .i64 a0_3, .int .i64 a0_4, .bool a0_5, .slice A0_6 l0_6.length c0_6] 58 (0, 0)) (by (with_reducible repeat (first | refine blk_drewN ?_ _ | refine blk_drew ?_ | refine blk_alloc ?_ _)); exact BK403.out) hb); have n1_ := Aside0.mk (below_step bA hb); clear BK403; clear HB; have BK403 := n0_; have HB := n1_; clear n0_ n1_; (try clear hb); (try clear hb2); (try clear hk); (try clear hi)))
 go_ret
 exact ⟨rE, bA⟩

end Go.Proofs.Ytbdfidnldaghbaa.Q
