/- The machine side of a law, written by a program of this session over the translation: for each Go function a Lean function with the same answers, and the proof that the Go code comes to them. -/
import Derived.Test.YtmjfnkebpdmhbaaQx0
import Derived.Test.YtmjfnkebpdmhbaaQx2
import Derived.Test.YtmjfnkebpdmhbaaQx3
namespace Go.Proofs.Ytmjfnkebpdmhbaa.Q
open Go.RowKit Go.Proofs.Ytmjfnkebpdmhbaa.Own Go.Proofs.YtmjfnkebpdmhbaaW.PrintWords Go.Proofs.YtmjfnkebpdmhbaaW.PrintLast Go.Proofs.YtmjfnkebpdmhbaaW.PrintMore
attribute [local go_sem] max2_int min2_int max_two min_two max_three min_three max_four min_four   -- for this text's walks alone
set_option linter.unusedVariables false
set_option linter.unusedSimpArgs false

/-! ### spec_TakeNode: function 50 -/
-- FORM 1 1
def spec_TakeNode.j0 (k : Nat) (b : Bool) (x7 x0 : Int) (x1 : ByteArray) (x2 x3 x4 : Int) (x5 : Bool) (x6 : List Int) : Option (Int × ByteArray × Int × Int × Int × Bool × List Int × Int) := if b = true then some (0, (⟨#[]⟩ : ByteArray), 0, 0, 0, false, ([] : List Int), (-1)) else (spec_NodeOk.f k x0 x1 x2 x3 x4 x5 x6).bind fun t => (if t = true then some (x0, x1, x2, x3, x4, x5, x6, x7) else some (0, (⟨#[]⟩ : ByteArray), 0, 0, 0, false, ([] : List Int), (-1)))
def spec_TakeNode.g (k : Nat) (l0 : List Int) (x0 a : Int) : Option (Int × ByteArray × Int × Int × Int × Bool × List Int × Int) :=
 if x0 = 0 then (spec_TakeWord.f k l0 a).bind fun u => (if u.2 < 0 then some (0, (⟨#[]⟩ : ByteArray), 0, 0, 0, false, ([] : List Int), (-1)) else spec_TakeNode.j0 k false u.2 x0 u.1 0 0 0 false ([] : List Int))
 else if x0 = 1 then (spec_l05Next.f k l0 a false).bind fun p => (spec_l05Next.f k l0 p.2.1 p.2.2).bind fun q => (spec_l05Slot.f k l0 q.2.1 q.2.2).bind fun s => (spec_l05Next.f k l0 s.2.1 s.2.2).bind fun v => spec_TakeNode.j0 k v.2.2 v.2.1 x0 (⟨#[]⟩ : ByteArray) p.1 q.1 v.1 s.1 ([] : List Int)
 else if x0 = 2 then (spec_TakeNums.f k l0 a).bind fun u => (if u.2 < 0 then some (0, (⟨#[]⟩ : ByteArray), 0, 0, 0, false, ([] : List Int), (-1)) else spec_TakeNode.j0 k false u.2 x0 (⟨#[]⟩ : ByteArray) 0 0 0 false u.1)
 else if x0 = 3 then (spec_l05Next.f k l0 a false).bind fun p => (spec_l05Next.f k l0 p.2.1 p.2.2).bind fun q => spec_TakeNode.j0 k q.2.2 q.2.1 x0 (⟨#[]⟩ : ByteArray) p.1 0 q.1 false ([] : List Int)
 else if x0 = 5 then (spec_l05Next.f k l0 a false).bind fun p => spec_TakeNode.j0 k p.2.2 p.2.1 x0 (⟨#[]⟩ : ByteArray) p.1 0 0 false ([] : List Int)
 else if x0 = 6 then (spec_l05Slot.f k l0 a false).bind fun s => (spec_l05Next.f k l0 s.2.1 s.2.2).bind fun v => spec_TakeNode.j0 k v.2.2 v.2.1 x0 (⟨#[]⟩ : ByteArray) 0 0 v.1 s.1 ([] : List Int)
 else spec_TakeNode.j0 k false a x0 (⟨#[]⟩ : ByteArray) 0 0 0 false ([] : List Int)
def spec_TakeNode.f (k : Nat) (l0 : List Int) (a1 : Int) : Option (Int × ByteArray × Int × Int × Int × Bool × List Int × Int) := (spec_l05Next.f k l0 a1 false).bind fun t => (if t.2.2 = true then some (0, (⟨#[]⟩ : ByteArray), 0, 0, 0, false, ([] : List Int), (-1)) else spec_TakeNode.g k l0 t.1 t.2.1)
theorem spec_TakeNode.mono : ∀ a0 a1 k, LeO (spec_TakeNode.f k a0 a1) (spec_TakeNode.f (k + 1) a0 a1) := by
 intro a0 a1 k
 unfold spec_TakeNode.f spec_TakeNode.g spec_TakeNode.j0
 repeat' first
 | (with_reducible exact LeO.refl _)
 | (with_reducible exact spec_l05Next.mono _ _ _ _)
 | (with_reducible exact spec_l05Slot.mono _ _ _ _)
 | (with_reducible exact spec_TakeWord.mono _ _ _)
 | (with_reducible exact spec_TakeNums.mono _ _ _)
 | (with_reducible exact spec_NodeOk.mono _ _ _ _ _ _ _ _)
 | (with_reducible refine LeO.ite ?_ ?_)
 | (with_reducible refine LeO.bind ?_ (fun _ => ?_))
/- helpers -/
theorem spec_TakeNode.c3 {w : World} {g : Nat} {t : TypeId} {v0 v1 v2 : Value} (h : w.heap[g]? = some (.cells #[v0, v1, v2] t (0, 0))) : w.cell? ⟨g, 0, none⟩ = some v0 ∧ w.cell? ⟨g, 1, none⟩ = some v1 ∧ w.cell? ⟨g, 2, none⟩ = some v2 ∧ w.frozen? ⟨g, 0, none⟩ = false ∧ w.frozen? ⟨g, 1, none⟩ = false ∧ w.frozen? ⟨g, 2, none⟩ = false :=
 ⟨(blk_cell h 0).trans rfl, (blk_cell h 1).trans rfl, (blk_cell h 2).trans rfl, blk_frozen h 0, blk_frozen h 1, blk_frozen h 2⟩
theorem spec_TakeNode.put3 {w : World} {g : Nat} {t : TypeId} {u0 u1 u2 v0 v1 v2 : Value} (h : w.heap[g]? = some (.cells #[u0, u1, u2] t (0, 0))) : (((w.setCell ⟨g, 0, none⟩ v0).setCell ⟨g, 1, none⟩ v1).setCell ⟨g, 2, none⟩ v2).heap[g]? = some (.cells #[v0, v1, v2] t (0, 0)) :=
 blk_put (cs' := #[v0, v1, v2]) (blk_put (cs' := #[v0, v1, u2]) (blk_put (cs' := #[v0, u1, u2]) h 0 v0 rfl) 1 v1 rfl) 2 v2 rfl
theorem spec_TakeNode.far7 {w : World} {g b : Nat} {t : TypeId} {cs : Array Value} {v0 v1 v2 v3 v4 v5 v6 : Value} (h : w.heap[g]? = some (.cells cs t (0, 0))) (hn : g ≠ b) : (((((((w.setCell ⟨b, 0, none⟩ v0).setCell ⟨b, 1, none⟩ v1).setCell ⟨b, 2, none⟩ v2).setCell ⟨b, 3, none⟩ v3).setCell ⟨b, 4, none⟩ v4).setCell ⟨b, 5, none⟩ v5).setCell ⟨b, 6, none⟩ v6).heap[g]? = some (.cells cs t (0, 0)) :=
 blk_far (blk_far (blk_far (blk_far (blk_far (blk_far (blk_far h hn _) hn _) hn _) hn _) hn _) hn _) hn _
theorem spec_TakeNode.row7 {w : World} {b base : Nat} {t : TypeId} {cs : Array Value} {v0 v1 v2 v3 v4 v5 v6 v : Value} {xs : List Int} (h : Kd.R (Kd.int .i64) 3 w base (fun _ => True) v xs) (hb : w.heap[b]? = some (.cells cs t (0, 0))) (ht : ∀ q, q ∈ 3 :: (Kd.int .i64).E → q ≠ t) : Kd.R (Kd.int .i64) 3 (((((((w.setCell ⟨b, 0, none⟩ v0).setCell ⟨b, 1, none⟩ v1).setCell ⟨b, 2, none⟩ v2).setCell ⟨b, 3, none⟩ v3).setCell ⟨b, 4, none⟩ v4).setCell ⟨b, 5, none⟩ v5).setCell ⟨b, 6, none⟩ v6) base (fun _ => True) v xs := by
 refine Kd.R_mono (ok := fun k => True ∧ k ≠ b) ?_ (fun _ _ => trivial)
 exact Kd.R_far (p := ⟨b, 6, none⟩) (Kd.R_far (p := ⟨b, 5, none⟩) (Kd.R_far (p := ⟨b, 4, none⟩) (Kd.R_far (p := ⟨b, 3, none⟩) (Kd.R_far (p := ⟨b, 2, none⟩) (Kd.R_far (p := ⟨b, 1, none⟩) (Kd.R_far (p := ⟨b, 0, none⟩) (Kd.R_types h hb ht) (fun _ hk => hk.2) _) (fun _ hk => hk.2) _) (fun _ hk => hk.2) _) (fun _ hk => hk.2) _) (fun _ hk => hk.2) _) (fun _ hk => hk.2) _) (fun _ hk => hk.2) _
set_option maxHeartbeats 8000000 in
set_option maxRecDepth 100000 in
theorem spec_TakeNode.calls (k : Nat) (A0 : Option Addr) (c0 : Nat) (l0 : List Int) (a1 : Int) (r1 : Int) (r2 : ByteArray) (r3 : Int) (r4 : Int) (r5 : Int) (r6 : Bool) (r7 : List Int) (r8 : Int) (w : World) (hr0 : Kd.C (Kd.int .u8) w A0 l0.length l0) (hc0 : l0.length ≤ c0) (h : spec_TakeNode.f k l0 a1 = some (r1, r2, r3, r4, r5, r6, r7, r8)) :
  Calls Try.prog 50 #[.slice A0 l0.length c0, .int .i64 a1] w fun e w' => ∃ v6_ : Value, e = .returned (.tuple #[.agg #[.int .i64 r1, .string r2, .int .i64 r3, .int .i64 r4, .int .i64 r5, .bool r6, v6_], .int .i64 r8]) ∧ Kd.R (Kd.int .i64) 3 w' w.heap.size (fun _ => True) v6_ r7 ∧ Below w.heap.size w w' := by
 have hu62 := Try.underlying33
 have hu99 := Try.underlying84
 have HR0 := Aside0.mk hr0
 have HC0 := Aside0.mk hc0
 clear hr0 hc0
 have HB := Aside0.mk (Below.refl w.heap.size w)
 unfold spec_TakeNode.f at h
 obtain ⟨⟨t1, t2, t3⟩, f1, H⟩ := Option.bind_eq_some_iff.mp h
 replace H : (if t3 = true then some (0, (⟨#[]⟩ : ByteArray), 0, 0, 0, false, ([] : List Int), (-1)) else spec_TakeNode.g k l0 t1 t2) = some (r1, r2, r3, r4, r5, r6, r7, r8) := H
 have A1 := Aside0.mk f1
 clear f1 h
 by_cases c1 : t3 = true
 ·rw [if_pos c1] at H
  subst c1
  simp only [Option.some.injEq, Prod.mk.injEq] at H
  obtain ⟨rfl, rfl, rfl, rfl, rfl, rfl, rfl, rfl⟩ := H
  go_enter Try.func50, Try.ntmps50
  go_wp2_with (first | ((with_reducible refine gate_dst (N := 4) rfl ?_); refine box_event ?hg (N := 4) ?hd (cs := #[.int .i64 0, .string (⟨#[]⟩ : ByteArray), .int .i64 0, .int .i64 0, .int .i64 0, .bool false, .slice none 0 0]) (t := 33) ?hr ?_; (case hd => rfl); (case hg => rfl); (case hr => first | (go_simp; done) | (go_simp; rfl)); intro gb4 hg w1 hbox hb; have GE4 := Aside0.mk ((by rw [hg]; exact (below_size bA)) : w.heap.size ≤ gb4); have n0_ := Aside0.mk hbox; have n1_ := Aside0.mk (below_step bA hb); clear HB; have BK4 := n0_; have HB := n1_; clear n0_ n1_; clear hb hbox hg) | ((with_reducible refine gate_dst (N := 6) rfl ?_); refine box_event ?hg (N := 6) ?hd (cs := #[.slice none 0 0, .int .i64 0, .bool false]) (t := 84) ?hr ?_; (case hd => rfl); (case hg => rfl); (case hr => first | (go_simp; done) | (go_simp; rfl)); intro gb6 hg w2 hbox hb; have GE6 := Aside0.mk ((by rw [hg]; exact (below_size bA)) : w.heap.size ≤ gb6); have NB46 := Aside0.mk ((by rw [hg]; exact Nat.ne_of_lt (blk_lt BK4.out)) : gb4 ≠ gb6); have NB64 := Aside0.mk (Ne.symm NB46.out); have n0_ := Aside0.mk (blk_below (g := gb4) (o := .cells #[.int .i64 0, .string (⟨#[]⟩ : ByteArray), .int .i64 0, .int .i64 0, .int .i64 0, .bool false, .slice none 0 0] 33 (0, 0)) BK4.out hb); have n1_ := Aside0.mk hbox; have n2_ := Aside0.mk (below_step bA hb); clear BK4 HB; have BK4 := n0_; have BK6 := n1_; have HB := n2_; clear n0_ n1_ n2_; clear hb hbox hg; have hn46 := NB46.out; have hn64 := NB64.out; obtain ⟨hy2_0, hy2_1, hy2_2, he2_0, he2_1, he2_2⟩ := spec_TakeNode.c3 BK6.out) | ((with_reducible refine gate_store (t := 84) (p := 6) rfl ?_); refine store_event (t := 84) (p := 6) (v := ?vo_1) (w1 := (((w2.setCell ⟨gb6, 0, none⟩ (.slice A0 l0.length c0)).setCell ⟨gb6, 1, none⟩ (.int .i64 a1)).setCell ⟨gb6, 2, none⟩ (.bool false))) ?hg ?ho ?hn ?hr ?_; (case ho => rfl); (case hg => rfl); (case hn => rfl); (case hr => first | (go_simp; done) | (go_simp; rfl)); intro w3 hw; have n0_ : Aside0 (w3.heap[gb4]? = some (.cells #[.int .i64 0, .string (⟨#[]⟩ : ByteArray), .int .i64 0, .int .i64 0, .int .i64 0, .bool false, .slice none 0 0] 33 (0, 0))) := ⟨by rw [hw]; exact blk_far (blk_far (blk_far BK4.out NB46.out _) NB46.out _) NB46.out _⟩; have n1_ : Aside0 (w3.heap[gb6]? = some (.cells #[.slice A0 l0.length c0, .int .i64 a1, .bool false] 84 (0, 0))) := ⟨by rw [hw]; exact spec_TakeNode.put3 BK6.out⟩; have n2_ : Aside0 (Below w.heap.size w w3) := ⟨by rw [hw]; exact bA⟩; clear BK4 BK6 HB; have BK4 := n0_; have BK6 := n1_; have HB := n2_; clear n0_ n1_ n2_; clear hw) | ((with_reducible refine gate_callee (f := 97) rfl ?_); refine goesL_ (some 15) rfl rfl Try.func97 (by kernel_rfl) rfl #[.pointer (some ⟨gb6, 0, none⟩)] rfl aL ?_; refine (spec_l05Next.calls k A0 c0 l0 a1 false t1 t2 true w _ gb6 BK6.out GE6.out bA HR0.out HC0.out A1.out).mono ?_; rintro e w4 ⟨rfl, hg, hb, hk⟩; refine ⟨_, rfl, ?_⟩; have n0_ := Aside0.mk (KeepBut.blk hk (g' := gb4) BK4.out NB46.out (by simp)); have n1_ := Aside0.mk hg; have n2_ := Aside0.mk hb; clear BK4 BK6 HB; have BK4 := n0_; have BK6 := n1_; have HB := n2_; clear n0_ n1_ n2_; clear hg hb hk) | ((with_reducible refine gate_dst (N := 7) rfl ?_); refine box_event ?hg (N := 7) ?hd (cs := #[.int .i64 0, .string (⟨#[]⟩ : ByteArray), .int .i64 0, .int .i64 0, .int .i64 0, .bool false, .slice none 0 0]) (t := 33) ?hr ?_; (case hd => rfl); (case hg => rfl); (case hr => first | (go_simp; done) | (go_simp; rfl)); intro gb7 hg w5 hbox hb; have GE7 := Aside0.mk ((by rw [hg]; exact (below_size bA)) : w.heap.size ≤ gb7); have NB47 := Aside0.mk ((by rw [hg]; exact Nat.ne_of_lt (blk_lt BK4.out)) : gb4 ≠ gb7); have NB67 := Aside0.mk ((by rw [hg]; exact Nat.ne_of_lt (blk_lt BK6.out)) : gb6 ≠ gb7); have NB74 := Aside0.mk (Ne.symm NB47.out); have NB76 := Aside0.mk (Ne.symm NB67.out); have n0_ := Aside0.mk (blk_below (g := gb4) (o := .cells #[.int .i64 0, .string (⟨#[]⟩ : ByteArray), .int .i64 0, .int .i64 0, .int .i64 0, .bool false, .slice none 0 0] 33 (0, 0)) BK4.out hb); have n1_ := Aside0.mk (blk_below (g := gb6) (o := .cells #[.slice A0 l0.length c0, .int .i64 t2, .bool true] 84 (0, 0)) BK6.out hb); have n2_ := Aside0.mk hbox; have n3_ := Aside0.mk (below_step bA hb); clear BK4 BK6 HB; have BK4 := n0_; have BK6 := n1_; have BK7 := n2_; have HB := n3_; clear n0_ n1_ n2_ n3_; clear hb hbox hg; have hn47 := NB47.out; have hn74 := NB74.out; have hn67 := NB67.out; have hn76 := NB76.out; obtain ⟨⟨hz5_0, hz5_1, hz5_2, hz5_3, hz5_4, hz5_5, hz5_6⟩, hf5_0, hf5_1, hf5_2, hf5_3, hf5_4, hf5_5, hf5_6⟩ := Own.c7 BK7.out) | ((with_reducible refine gate_store (t := 33) (p := 7) rfl ?_); refine store_event (t := 33) (p := 7) (v := ?vo_2) (w1 := (((((((w5.setCell ⟨gb7, 0, none⟩ (.int .i64 t1)).setCell ⟨gb7, 1, none⟩ (.string (⟨#[]⟩ : ByteArray))).setCell ⟨gb7, 2, none⟩ (.int .i64 0)).setCell ⟨gb7, 3, none⟩ (.int .i64 0)).setCell ⟨gb7, 4, none⟩ (.int .i64 0)).setCell ⟨gb7, 5, none⟩ (.bool false)).setCell ⟨gb7, 6, none⟩ (.slice none 0 0))) ?hg ?ho ?hn ?hr ?_; (case ho => rfl); (case hg => rfl); (case hn => rfl); (case hr => first | (go_simp; done) | (go_simp; rfl)); intro w6 hw; have n0_ : Aside0 (w6.heap[gb4]? = some (.cells #[.int .i64 0, .string (⟨#[]⟩ : ByteArray), .int .i64 0, .int .i64 0, .int .i64 0, .bool false, .slice none 0 0] 33 (0, 0))) := ⟨by rw [hw]; exact spec_TakeNode.far7 BK4.out NB47.out⟩; have n1_ : Aside0 (w6.heap[gb6]? = some (.cells #[.slice A0 l0.length c0, .int .i64 t2, .bool true] 84 (0, 0))) := ⟨by rw [hw]; exact spec_TakeNode.far7 BK6.out NB67.out⟩; have n2_ : Aside0 (w6.heap[gb7]? = some (.cells #[.int .i64 t1, .string (⟨#[]⟩ : ByteArray), .int .i64 0, .int .i64 0, .int .i64 0, .bool false, .slice none 0 0] 33 (0, 0))) := ⟨by rw [hw]; exact put7 BK7.out⟩; have n3_ : Aside0 (Below w.heap.size w w6) := ⟨by rw [hw]; exact bA⟩; clear BK4 BK6 BK7 HB; have BK4 := n0_; have BK6 := n1_; have BK7 := n2_; have HB := n3_; clear n0_ n1_ n2_ n3_; clear hw; obtain ⟨⟨hz67_0, hz67_1, hz67_2, hz67_3, hz67_4, hz67_5, hz67_6⟩, hf67_0, hf67_1, hf67_2, hf67_3, hf67_4, hf67_5, hf67_6⟩ := Own.c7 BK7.out; obtain ⟨⟨hz64_0, hz64_1, hz64_2, hz64_3, hz64_4, hz64_5, hz64_6⟩, hf64_0, hf64_1, hf64_2, hf64_3, hf64_4, hf64_5, hf64_6⟩ := Own.c7 BK4.out; obtain ⟨hy66_0, hy66_1, hy66_2, he66_0, he66_1, he66_2⟩ := spec_TakeNode.c3 BK6.out) | ((with_reducible refine gate_store (t := 33) (p := 4) rfl ?_); refine store_event (t := 33) (p := 4) (v := ?vo_3) (w1 := (((((((w6.setCell ⟨gb4, 0, none⟩ (.int .i64 0)).setCell ⟨gb4, 1, none⟩ (.string (⟨#[]⟩ : ByteArray))).setCell ⟨gb4, 2, none⟩ (.int .i64 0)).setCell ⟨gb4, 3, none⟩ (.int .i64 0)).setCell ⟨gb4, 4, none⟩ (.int .i64 0)).setCell ⟨gb4, 5, none⟩ (.bool false)).setCell ⟨gb4, 6, none⟩ (.slice none 0 0))) ?hg ?ho ?hn ?hr ?_; (case ho => rfl); (case hg => rfl); (case hn => rfl); (case hr => first | (go_simp; done) | (go_simp; rfl)); intro w7 hw; have n0_ : Aside0 (w7.heap[gb4]? = some (.cells #[.int .i64 0, .string (⟨#[]⟩ : ByteArray), .int .i64 0, .int .i64 0, .int .i64 0, .bool false, .slice none 0 0] 33 (0, 0))) := ⟨by rw [hw]; exact put7 BK4.out⟩; have n1_ : Aside0 (Below w.heap.size w w7) := ⟨by rw [hw]; exact bA⟩; clear BK4 HB; have BK4 := n0_; have HB := n1_; clear n0_ n1_; clear hw))
  refine bodyPost_ret (results_ct rfl _ _ gb4 33 #[.int .i64 0, .string (⟨#[]⟩ : ByteArray), .int .i64 0, .int .i64 0, .int .i64 0, .bool false, .slice none 0 0] (0, 0) _ rfl BK4.out Try.underlying33 rfl (by kernel_rfl)) rfl ?_
  exact ⟨.slice none 0 0, rE, Kd.R_nil _ _ _ _ _, bA⟩
 ·rw [if_neg c1] at H
  obtain rfl : t3 = false := Bool.eq_false_iff.mpr c1
  clear c1
  have HG := Aside0.mk H
  clear H
  go_enter Try.func50, Try.ntmps50
  go_upto_block 0 with (first | ((with_reducible refine gate_dst (N := 4) rfl ?_); refine box_event ?hg (N := 4) ?hd (cs := #[.int .i64 0, .string (⟨#[]⟩ : ByteArray), .int .i64 0, .int .i64 0, .int .i64 0, .bool false, .slice none 0 0]) (t := 33) ?hr ?_; (case hd => rfl); (case hg => rfl); (case hr => first | (go_simp; done) | (go_simp; rfl)); intro gb4 hg w1 hbox hb; have GE4 := Aside0.mk ((by rw [hg]; exact (below_size bA)) : w.heap.size ≤ gb4); have n0_ := Aside0.mk hbox; have n1_ := Aside0.mk (below_step bA hb); clear HB; have BK4 := n0_; have HB := n1_; clear n0_ n1_; clear hb hbox hg) | ((with_reducible refine gate_dst (N := 6) rfl ?_); refine box_event ?hg (N := 6) ?hd (cs := #[.slice none 0 0, .int .i64 0, .bool false]) (t := 84) ?hr ?_; (case hd => rfl); (case hg => rfl); (case hr => first | (go_simp; done) | (go_simp; rfl)); intro gb6 hg w2 hbox hb; have GE6 := Aside0.mk ((by rw [hg]; exact (below_size bA)) : w.heap.size ≤ gb6); have NB46 := Aside0.mk ((by rw [hg]; exact Nat.ne_of_lt (blk_lt BK4.out)) : gb4 ≠ gb6); have NB64 := Aside0.mk (Ne.symm NB46.out); have n0_ := Aside0.mk (blk_below (g := gb4) (o := .cells #[.int .i64 0, .string (⟨#[]⟩ : ByteArray), .int .i64 0, .int .i64 0, .int .i64 0, .bool false, .slice none 0 0] 33 (0, 0)) BK4.out hb); have n1_ := Aside0.mk hbox; have n2_ := Aside0.mk (below_step bA hb); clear BK4 HB; have BK4 := n0_; have BK6 := n1_; have HB := n2_; clear n0_ n1_ n2_; clear hb hbox hg; have hn46 := NB46.out; have hn64 := NB64.out; obtain ⟨hy2_0, hy2_1, hy2_2, he2_0, he2_1, he2_2⟩ := spec_TakeNode.c3 BK6.out) | ((with_reducible refine gate_store (t := 84) (p := 6) rfl ?_); refine store_event (t := 84) (p := 6) (v := ?vo_4) (w1 := (((w2.setCell ⟨gb6, 0, none⟩ (.slice A0 l0.length c0)).setCell ⟨gb6, 1, none⟩ (.int .i64 a1)).setCell ⟨gb6, 2, none⟩ (.bool false))) ?hg ?ho ?hn ?hr ?_; (case ho => rfl); (case hg => rfl); (case hn => rfl); (case hr => first | (go_simp; done) | (go_simp; rfl)); intro w3 hw; have n0_ : Aside0 (w3.heap[gb4]? = some (.cells #[.int .i64 0, .string (⟨#[]⟩ : ByteArray), .int .i64 0, .int .i64 0, .int .i64 0, .bool false, .slice none 0 0] 33 (0, 0))) := ⟨by rw [hw]; exact blk_far (blk_far (blk_far BK4.out NB46.out _) NB46.out _) NB46.out _⟩; have n1_ : Aside0 (w3.heap[gb6]? = some (.cells #[.slice A0 l0.length c0, .int .i64 a1, .bool false] 84 (0, 0))) := ⟨by rw [hw]; exact spec_TakeNode.put3 BK6.out⟩; have n2_ : Aside0 (Below w.heap.size w w3) := ⟨by rw [hw]; exact bA⟩; clear BK4 BK6 HB; have BK4 := n0_; have BK6 := n1_; have HB := n2_; clear n0_ n1_ n2_; clear hw) | ((with_reducible refine gate_callee (f := 97) rfl ?_); refine goesL_ (some 15) rfl rfl Try.func97 (by kernel_rfl) rfl #[.pointer (some ⟨gb6, 0, none⟩)] rfl aL ?_; refine (spec_l05Next.calls k A0 c0 l0 a1 false t1 t2 false w _ gb6 BK6.out GE6.out bA HR0.out HC0.out A1.out).mono ?_; rintro e w4 ⟨rfl, hg, hb, hk⟩; refine ⟨_, rfl, ?_⟩; have n0_ := Aside0.mk (KeepBut.blk hk (g' := gb4) BK4.out NB46.out (by simp)); have n1_ := Aside0.mk hg; have n2_ := Aside0.mk hb; clear BK4 BK6 HB; have BK4 := n0_; have BK6 := n1_; have HB := n2_; clear n0_ n1_ n2_; clear hg hb hk) | ((with_reducible refine gate_dst (N := 7) rfl ?_); refine box_event ?hg (N := 7) ?hd (cs := #[.int .i64 0, .string (⟨#[]⟩ : ByteArray), .int .i64 0, .int .i64 0, .int .i64 0, .bool false, .slice none 0 0]) (t := 33) ?hr ?_; (case hd => rfl); (case hg => rfl); (case hr => first | (go_simp; done) | (go_simp; rfl)); intro gb7 hg w5 hbox hb; have GE7 := Aside0.mk ((by rw [hg]; exact (below_size bA)) : w.heap.size ≤ gb7); have NB47 := Aside0.mk ((by rw [hg]; exact Nat.ne_of_lt (blk_lt BK4.out)) : gb4 ≠ gb7); have NB67 := Aside0.mk ((by rw [hg]; exact Nat.ne_of_lt (blk_lt BK6.out)) : gb6 ≠ gb7); have NB74 := Aside0.mk (Ne.symm NB47.out); have NB76 := Aside0.mk (Ne.symm NB67.out); have n0_ := Aside0.mk (blk_below (g := gb4) (o := .cells #[.int .i64 0, .string (⟨#[]⟩ : ByteArray), .int .i64 0, .int .i64 0, .int .i64 0, .bool false, .slice none 0 0] 33 (0, 0)) BK4.out hb); have n1_ := Aside0.mk (blk_below (g := gb6) (o := .cells #[.slice A0 l0.length c0, .int .i64 t2, .bool false] 84 (0, 0)) BK6.out hb); have n2_ := Aside0.mk hbox; have n3_ := Aside0.mk (below_step bA hb); clear BK4 BK6 HB; have BK4 := n0_; have BK6 := n1_; have BK7 := n2_; have HB := n3_; clear n0_ n1_ n2_ n3_; clear hb hbox hg; have hn47 := NB47.out; have hn74 := NB74.out; have hn67 := NB67.out; have hn76 := NB76.out; obtain ⟨⟨hz5_0, hz5_1, hz5_2, hz5_3, hz5_4, hz5_5, hz5_6⟩, hf5_0, hf5_1, hf5_2, hf5_3, hf5_4, hf5_5, hf5_6⟩ := Own.c7 BK7.out) | ((with_reducible refine gate_store (t := 33) (p := 7) rfl ?_); refine store_event (t := 33) (p := 7) (v := ?vo_5) (w1 := (((((((w5.setCell ⟨gb7, 0, none⟩ (.int .i64 t1)).setCell ⟨gb7, 1, none⟩ (.string (⟨#[]⟩ : ByteArray))).setCell ⟨gb7, 2, none⟩ (.int .i64 0)).setCell ⟨gb7, 3, none⟩ (.int .i64 0)).setCell ⟨gb7, 4, none⟩ (.int .i64 0)).setCell ⟨gb7, 5, none⟩ (.bool false)).setCell ⟨gb7, 6, none⟩ (.slice none 0 0))) ?hg ?ho ?hn ?hr ?_; (case ho => rfl); (case hg => rfl); (case hn => rfl); (case hr => first | (go_simp; done) | (go_simp; rfl)); intro w6 hw; have n0_ : Aside0 (w6.heap[gb4]? = some (.cells #[.int .i64 0, .string (⟨#[]⟩ : ByteArray), .int .i64 0, .int .i64 0, .int .i64 0, .bool false, .slice none 0 0] 33 (0, 0))) := ⟨by rw [hw]; exact spec_TakeNode.far7 BK4.out NB47.out⟩; have n1_ : Aside0 (w6.heap[gb6]? = some (.cells #[.slice A0 l0.length c0, .int .i64 t2, .bool false] 84 (0, 0))) := ⟨by rw [hw]; exact spec_TakeNode.far7 BK6.out NB67.out⟩; have n2_ : Aside0 (w6.heap[gb7]? = some (.cells #[.int .i64 t1, .string (⟨#[]⟩ : ByteArray), .int .i64 0, .int .i64 0, .int .i64 0, .bool false, .slice none 0 0] 33 (0, 0))) := ⟨by rw [hw]; exact put7 BK7.out⟩; have n3_ : Aside0 (Below w.heap.size w w6) := ⟨by rw [hw]; exact bA⟩; clear BK4 BK6 BK7 HB; have BK4 := n0_; have BK6 := n1_; have BK7 := n2_; have HB := n3_; clear n0_ n1_ n2_ n3_; clear hw; obtain ⟨⟨hz67_0, hz67_1, hz67_2, hz67_3, hz67_4, hz67_5, hz67_6⟩, hf67_0, hf67_1, hf67_2, hf67_3, hf67_4, hf67_5, hf67_6⟩ := Own.c7 BK7.out; obtain ⟨⟨hz64_0, hz64_1, hz64_2, hz64_3, hz64_4, hz64_5, hz64_6⟩, hf64_0, hf64_1, hf64_2, hf64_3, hf64_4, hf64_5, hf64_6⟩ := Own.c7 BK4.out; obtain ⟨hy66_0, hy66_1, hy66_2, he66_0, he66_1, he66_2⟩ := spec_TakeNode.c3 BK6.out))
  (try simp only [Act.put, List.setIfInBounds_toArray, List.set_cons_zero, List.set_cons_succ])
  go_cut [] (fun wc => ∃ (b : Bool) (x7 : Int) (x1 : ByteArray) (x2 x3 x4 : Int) (x5 : Bool) (x6 : List Int) (u6 : Value), Aside0 (spec_TakeNode.j0 k b x7 t1 x1 x2 x3 x4 x5 x6 = some (r1, r2, r3, r4, r5, r6, r7, r8)) ∧ Aside0 (Kd.R (Kd.int .i64) 3 wc w.heap.size (fun _ => True) u6 x6) ∧ Aside0 (wc.heap[gb4]? = some (.cells #[.int .i64 0, .string (⟨#[]⟩ : ByteArray), .int .i64 0, .int .i64 0, .int .i64 0, .bool false, .slice none 0 0] 33 (0, 0))) ∧ Aside0 (wc.heap[gb6]? = some (.cells #[.slice A0 l0.length c0, .int .i64 x7, .bool b] 84 (0, 0))) ∧ Aside0 (wc.heap[gb7]? = some (.cells #[.int .i64 t1, .string x1, .int .i64 x2, .int .i64 x3, .int .i64 x4, .bool x5, u6] 33 (0, 0))) ∧ Aside0 (Below w.heap.size w wc))
  case first =>
   have H := HG.out
   clear HG
   unfold spec_TakeNode.g at H
   by_cases k0 : t1 = 0
   ·rw [if_pos k0] at H
    have k0b : (t1 == 0) = true := beq_iff_eq.mpr k0
    (first | rw [k0b] | skip)
    clear k0
    obtain ⟨⟨u1, u2⟩, f2, H⟩ := Option.bind_eq_some_iff.mp H
    replace H : (if u2 < 0 then some (0, (⟨#[]⟩ : ByteArray), 0, 0, 0, false, ([] : List Int), (-1)) else spec_TakeNode.j0 k false u2 t1 u1 0 0 0 false ([] : List Int)) = some (r1, r2, r3, r4, r5, r6, r7, r8) := H
    have A2 := Aside0.mk f2
    clear f2
    by_cases cu : u2 < 0
    ·rw [if_pos cu] at H
     have cub : decide (u2 < 0) = true := decide_eq_true cu
     clear cu
     simp only [Option.some.injEq, Prod.mk.injEq] at H
     obtain ⟨rfl, rfl, rfl, rfl, rfl, rfl, rfl, rfl⟩ := H
     go_wp2_with (first | ((with_reducible refine gate_callee (f := 98) rfl ?_); refine goesL_ (some 28) rfl rfl Try.func98 (by kernel_rfl) rfl #[.slice A0 l0.length c0, .int .i64 t2] rfl aL ?_; (with_reducible refine (spec_TakeWord.calls k _ _ l0 t2 u1 u2 _ ?side1 ?side2 A2.out).mono ?_); (case side1 => exact cA); (case side2 => exact HC0.out); rintro e w' ⟨rfl, ⟨nd, hw⟩⟩; refine ⟨_, rfl, ?_⟩; have n0_ : Aside0 (w'.heap[gb4]? = some (.cells #[.int .i64 0, .string (⟨#[]⟩ : ByteArray), .int .i64 0, .int .i64 0, .int .i64 0, .bool false, .slice none 0 0] 33 (0, 0))) := ⟨by rw [hw]; exact blk_drewN BK4.out _⟩; have n1_ : Aside0 (w'.heap[gb6]? = some (.cells #[.slice A0 l0.length c0, .int .i64 t2, .bool false] 84 (0, 0))) := ⟨by rw [hw]; exact blk_drewN BK6.out _⟩; have n2_ : Aside0 (w'.heap[gb7]? = some (.cells #[.int .i64 t1, .string (⟨#[]⟩ : ByteArray), .int .i64 0, .int .i64 0, .int .i64 0, .bool false, .slice none 0 0] 33 (0, 0))) := ⟨by rw [hw]; exact blk_drewN BK7.out _⟩; have n3_ : Aside0 (Below w.heap.size w w') := ⟨by rw [hw]; exact bA⟩; clear BK4 BK6 BK7 HB; have BK4 := n0_; have BK6 := n1_; have BK7 := n2_; have HB := n3_; clear n0_ n1_ n2_ n3_; clear hw; obtain ⟨⟨hza7_0, hza7_1, hza7_2, hza7_3, hza7_4, hza7_5, hza7_6⟩, hfa7_0, hfa7_1, hfa7_2, hfa7_3, hfa7_4, hfa7_5, hfa7_6⟩ := Own.c7 BK7.out; obtain ⟨⟨hza4_0, hza4_1, hza4_2, hza4_3, hza4_4, hza4_5, hza4_6⟩, hfa4_0, hfa4_1, hfa4_2, hfa4_3, hfa4_4, hfa4_5, hfa4_6⟩ := Own.c7 BK4.out; obtain ⟨hya6_0, hya6_1, hya6_2, hea6_0, hea6_1, hea6_2⟩ := spec_TakeNode.c3 BK6.out) | ((with_reducible refine gate_store (t := 33) (p := 4) rfl ?_); refine store_event (t := 33) (p := 4) (v := ?vo_6) (w1 := (((((((w'.setCell ⟨gb4, 0, none⟩ (.int .i64 0)).setCell ⟨gb4, 1, none⟩ (.string (⟨#[]⟩ : ByteArray))).setCell ⟨gb4, 2, none⟩ (.int .i64 0)).setCell ⟨gb4, 3, none⟩ (.int .i64 0)).setCell ⟨gb4, 4, none⟩ (.int .i64 0)).setCell ⟨gb4, 5, none⟩ (.bool false)).setCell ⟨gb4, 6, none⟩ (.slice none 0 0))) ?hg ?ho ?hn ?hr ?_; (case ho => rfl); (case hg => rfl); (case hn => rfl); (case hr => first | (go_simp; done) | (go_simp; rfl)); intro w8 hw; have n0_ : Aside0 (w8.heap[gb4]? = some (.cells #[.int .i64 0, .string (⟨#[]⟩ : ByteArray), .int .i64 0, .int .i64 0, .int .i64 0, .bool false, .slice none 0 0] 33 (0, 0))) := ⟨by rw [hw]; exact put7 BK4.out⟩; have n1_ : Aside0 (Below w.heap.size w w8) := ⟨by rw [hw]; exact bA⟩; clear BK4 HB; have BK4 := n0_; have HB := n1_; clear n0_ n1_; clear hw))
     refine bodyPost_ret (results_ct rfl _ _ gb4 33 #[.int .i64 0, .string (⟨#[]⟩ : ByteArray), .int .i64 0, .int .i64 0, .int .i64 0, .bool false, .slice none 0 0] (0, 0) _ rfl BK4.out Try.underlying33 rfl (by kernel_rfl)) rfl ?_
     exact ⟨.slice none 0 0, rE, Kd.R_nil _ _ _ _ _, bA⟩
    ·rw [if_neg cu] at H
     have cub : decide (u2 < 0) = false := decide_eq_false cu
     clear cu
     go_wp2_with (first | ((with_reducible refine gate_callee (f := 98) rfl ?_); refine goesL_ (some 28) rfl rfl Try.func98 (by kernel_rfl) rfl #[.slice A0 l0.length c0, .int .i64 t2] rfl aL ?_; (with_reducible refine (spec_TakeWord.calls k _ _ l0 t2 u1 u2 _ ?side1 ?side2 A2.out).mono ?_); (case side1 => exact cA); (case side2 => exact HC0.out); rintro e w' ⟨rfl, ⟨nd, hw⟩⟩; refine ⟨_, rfl, ?_⟩; have n0_ : Aside0 (w'.heap[gb4]? = some (.cells #[.int .i64 0, .string (⟨#[]⟩ : ByteArray), .int .i64 0, .int .i64 0, .int .i64 0, .bool false, .slice none 0 0] 33 (0, 0))) := ⟨by rw [hw]; exact blk_drewN BK4.out _⟩; have n1_ : Aside0 (w'.heap[gb6]? = some (.cells #[.slice A0 l0.length c0, .int .i64 t2, .bool false] 84 (0, 0))) := ⟨by rw [hw]; exact blk_drewN BK6.out _⟩; have n2_ : Aside0 (w'.heap[gb7]? = some (.cells #[.int .i64 t1, .string (⟨#[]⟩ : ByteArray), .int .i64 0, .int .i64 0, .int .i64 0, .bool false, .slice none 0 0] 33 (0, 0))) := ⟨by rw [hw]; exact blk_drewN BK7.out _⟩; have n3_ : Aside0 (Below w.heap.size w w') := ⟨by rw [hw]; exact bA⟩; clear BK4 BK6 BK7 HB; have BK4 := n0_; have BK6 := n1_; have BK7 := n2_; have HB := n3_; clear n0_ n1_ n2_ n3_; clear hw; obtain ⟨⟨hza7_0, hza7_1, hza7_2, hza7_3, hza7_4, hza7_5, hza7_6⟩, hfa7_0, hfa7_1, hfa7_2, hfa7_3, hfa7_4, hfa7_5, hfa7_6⟩ := Own.c7 BK7.out; obtain ⟨⟨hza4_0, hza4_1, hza4_2, hza4_3, hza4_4, hza4_5, hza4_6⟩, hfa4_0, hfa4_1, hfa4_2, hfa4_3, hfa4_4, hfa4_5, hfa4_6⟩ := Own.c7 BK4.out; obtain ⟨hya6_0, hya6_1, hya6_2, hea6_0, hea6_1, hea6_2⟩ := spec_TakeNode.c3 BK6.out))
     go_meet
     case rel => exact ⟨false, u2, u1, 0, 0, 0, false, (([] : List Int)), (.slice none 0 0), ⟨H⟩, ⟨Kd.R_nil _ _ _ _ _⟩, ⟨blk_far (blk_far BK4.out NB47.out _) NB46.out _⟩, ⟨blk_put (cs' := #[.slice A0 l0.length c0, .int .i64 u2, .bool false]) (blk_far BK6.out NB67.out _) 1 _ rfl⟩, ⟨blk_far (blk_put (cs' := #[.int .i64 t1, .string u1, .int .i64 0, .int .i64 0, .int .i64 0, .bool false, .slice none 0 0]) BK7.out 1 _ rfl) NB76.out _⟩, ⟨bA⟩⟩
   ·rw [if_neg k0] at H
    have k0b : (t1 == 0) = false := beq_eq_false_iff_ne.mpr k0
    (first | rw [k0b] | skip)
    by_cases k1 : t1 = 1
    ·rw [if_pos k1] at H
     have k1b : (t1 == 1) = true := beq_iff_eq.mpr k1
     (first | rw [k1b] | skip)
     clear k1
     obtain ⟨⟨p0, y0, z0⟩, f0, H⟩ := Option.bind_eq_some_iff.mp H
     have F0 := Aside0.mk f0
     clear f0
     obtain ⟨⟨p1, y1, z1⟩, f1, H⟩ := Option.bind_eq_some_iff.mp H
     have F1 := Aside0.mk f1
     clear f1
     obtain ⟨⟨p2, y2, z2⟩, f2, H⟩ := Option.bind_eq_some_iff.mp H
     have F2 := Aside0.mk f2
     clear f2
     obtain ⟨⟨p3, y3, z3⟩, f3, H⟩ := Option.bind_eq_some_iff.mp H
     have F3 := Aside0.mk f3
     clear f3
     go_wp2_with (first | ((with_reducible refine gate_callee (f := 97) rfl ?_); refine goesL_ (some 40) rfl rfl Try.func97 (by kernel_rfl) rfl #[.pointer (some ⟨gb6, 0, none⟩)] rfl aL ?_; refine (spec_l05Next.calls k A0 c0 l0 t2 false p0 y0 z0 w _ gb6 BK6.out GE6.out bA HR0.out HC0.out F0.out).mono ?_; rintro e w20 ⟨rfl, hg, hb, hk⟩; refine ⟨_, rfl, ?_⟩; have n0_ := Aside0.mk (KeepBut.blk hk (g' := gb4) BK4.out NB46.out (by simp)); have n1_ := Aside0.mk (KeepBut.blk hk (g' := gb7) BK7.out NB76.out (by simp)); have n2_ := Aside0.mk hg; have n3_ := Aside0.mk hb; clear BK4 BK7 BK6 HB; have BK4 := n0_; have BK7 := n1_; have BK6 := n2_; have HB := n3_; clear n0_ n1_ n2_ n3_; clear hg hb hk; obtain ⟨⟨hzw20s_0, hzw20s_1, hzw20s_2, hzw20s_3, hzw20s_4, hzw20s_5, hzw20s_6⟩, hfw20s_0, hfw20s_1, hfw20s_2, hfw20s_3, hfw20s_4, hfw20s_5, hfw20s_6⟩ := Own.c7 BK7.out; obtain ⟨hyw20r_0, hyw20r_1, hyw20r_2, hew20r_0, hew20r_1, hew20r_2⟩ := spec_TakeNode.c3 BK6.out) | ((with_reducible refine gate_callee (f := 97) rfl ?_); refine goesL_ (some 42) rfl rfl Try.func97 (by kernel_rfl) rfl #[.pointer (some ⟨gb6, 0, none⟩)] rfl aL ?_; refine (spec_l05Next.calls k A0 c0 l0 y0 z0 p1 y1 z1 w _ gb6 (blk_far BK6.out NB67.out _) GE6.out bA HR0.out HC0.out F1.out).mono ?_; rintro e w21 ⟨rfl, hg, hb, hk⟩; refine ⟨_, rfl, ?_⟩; have n0_ := Aside0.mk (KeepBut.blk hk (g' := gb4) (blk_far BK4.out NB47.out _) NB46.out (by simp)); have n1_ := Aside0.mk (KeepBut.blk hk (g' := gb7) (blk_put (cs' := #[.int .i64 t1, .string ((⟨#[]⟩ : ByteArray)), .int .i64 p0, .int .i64 0, .int .i64 0, .bool false, .slice none 0 0]) BK7.out 2 _ rfl) NB76.out (by simp)); have n2_ := Aside0.mk hg; have n3_ := Aside0.mk hb; clear BK4 BK7 BK6 HB; have BK4 := n0_; have BK7 := n1_; have BK6 := n2_; have HB := n3_; clear n0_ n1_ n2_ n3_; clear hg hb hk; obtain ⟨⟨hzw21s_0, hzw21s_1, hzw21s_2, hzw21s_3, hzw21s_4, hzw21s_5, hzw21s_6⟩, hfw21s_0, hfw21s_1, hfw21s_2, hfw21s_3, hfw21s_4, hfw21s_5, hfw21s_6⟩ := Own.c7 BK7.out; obtain ⟨hyw21r_0, hyw21r_1, hyw21r_2, hew21r_0, hew21r_1, hew21r_2⟩ := spec_TakeNode.c3 BK6.out) | ((with_reducible refine gate_callee (f := 99) rfl ?_); refine goesL_ (some 44) rfl rfl Try.func99 (by kernel_rfl) rfl #[.pointer (some ⟨gb6, 0, none⟩)] rfl aL ?_; refine (spec_l05Slot.calls k A0 c0 l0 y1 z1 p2 y2 z2 w _ gb6 (blk_far BK6.out NB67.out _) GE6.out bA HR0.out HC0.out F2.out).mono ?_; rintro e w22 ⟨rfl, hg, hb, hk⟩; refine ⟨_, rfl, ?_⟩; have n0_ := Aside0.mk (KeepBut.blk hk (g' := gb4) (blk_far BK4.out NB47.out _) NB46.out (by simp)); have n1_ := Aside0.mk (KeepBut.blk hk (g' := gb7) (blk_put (cs' := #[.int .i64 t1, .string ((⟨#[]⟩ : ByteArray)), .int .i64 p0, .int .i64 p1, .int .i64 0, .bool false, .slice none 0 0]) BK7.out 3 _ rfl) NB76.out (by simp)); have n2_ := Aside0.mk hg; have n3_ := Aside0.mk hb; clear BK4 BK7 BK6 HB; have BK4 := n0_; have BK7 := n1_; have BK6 := n2_; have HB := n3_; clear n0_ n1_ n2_ n3_; clear hg hb hk; obtain ⟨⟨hzw22s_0, hzw22s_1, hzw22s_2, hzw22s_3, hzw22s_4, hzw22s_5, hzw22s_6⟩, hfw22s_0, hfw22s_1, hfw22s_2, hfw22s_3, hfw22s_4, hfw22s_5, hfw22s_6⟩ := Own.c7 BK7.out; obtain ⟨hyw22r_0, hyw22r_1, hyw22r_2, hew22r_0, hew22r_1, hew22r_2⟩ := spec_TakeNode.c3 BK6.out) | ((with_reducible refine gate_callee (f := 97) rfl ?_); refine goesL_ (some 46) rfl rfl Try.func97 (by kernel_rfl) rfl #[.pointer (some ⟨gb6, 0, none⟩)] rfl aL ?_; refine (spec_l05Next.calls k A0 c0 l0 y2 z2 p3 y3 z3 w _ gb6 (blk_far BK6.out NB67.out _) GE6.out bA HR0.out HC0.out F3.out).mono ?_; rintro e w23 ⟨rfl, hg, hb, hk⟩; refine ⟨_, rfl, ?_⟩; have n0_ := Aside0.mk (KeepBut.blk hk (g' := gb4) (blk_far BK4.out NB47.out _) NB46.out (by simp)); have n1_ := Aside0.mk (KeepBut.blk hk (g' := gb7) (blk_put (cs' := #[.int .i64 t1, .string ((⟨#[]⟩ : ByteArray)), .int .i64 p0, .int .i64 p1, .int .i64 0, .bool p2, .slice none 0 0]) BK7.out 5 _ rfl) NB76.out (by simp)); have n2_ := Aside0.mk hg; have n3_ := Aside0.mk hb; clear BK4 BK7 BK6 HB; have BK4 := n0_; have BK7 := n1_; have BK6 := n2_; have HB := n3_; clear n0_ n1_ n2_ n3_; clear hg hb hk; obtain ⟨⟨hzw23s_0, hzw23s_1, hzw23s_2, hzw23s_3, hzw23s_4, hzw23s_5, hzw23s_6⟩, hfw23s_0, hfw23s_1, hfw23s_2, hfw23s_3, hfw23s_4, hfw23s_5, hfw23s_6⟩ := Own.c7 BK7.out; obtain ⟨hyw23r_0, hyw23r_1, hyw23r_2, hew23r_0, hew23r_1, hew23r_2⟩ := spec_TakeNode.c3 BK6.out))
     go_meet
     case rel => exact ⟨z3, y3, ((⟨#[]⟩ : ByteArray)), p0, p1, p3, p2, (([] : List Int)), (.slice none 0 0), ⟨H⟩, ⟨Kd.R_nil _ _ _ _ _⟩, ⟨blk_far BK4.out NB47.out _⟩, ⟨blk_far BK6.out NB67.out _⟩, ⟨blk_put (cs' := #[.int .i64 t1, .string ((⟨#[]⟩ : ByteArray)), .int .i64 p0, .int .i64 p1, .int .i64 p3, .bool p2, .slice none 0 0]) BK7.out 4 _ rfl⟩, ⟨bA⟩⟩
    ·rw [if_neg k1] at H
     have k1b : (t1 == 1) = false := beq_eq_false_iff_ne.mpr k1
     (first | rw [k1b] | skip)
     by_cases k2 : t1 = 2
     ·rw [if_pos k2] at H
      have k2b : (t1 == 2) = true := beq_iff_eq.mpr k2
      (first | rw [k2b] | skip)
      clear k2
      obtain ⟨⟨u1, u2⟩, f2, H⟩ := Option.bind_eq_some_iff.mp H
      replace H : (if u2 < 0 then some (0, (⟨#[]⟩ : ByteArray), 0, 0, 0, false, ([] : List Int), (-1)) else spec_TakeNode.j0 k false u2 t1 (⟨#[]⟩ : ByteArray) 0 0 0 false u1) = some (r1, r2, r3, r4, r5, r6, r7, r8) := H
      have A2 := Aside0.mk f2
      clear f2
      by_cases cu : u2 < 0
      ·rw [if_pos cu] at H
       have cub : decide (u2 < 0) = true := decide_eq_true cu
       clear cu
       simp only [Option.some.injEq, Prod.mk.injEq] at H
       obtain ⟨rfl, rfl, rfl, rfl, rfl, rfl, rfl, rfl⟩ := H
       go_wp2_with (first | ((with_reducible refine gate_callee (f := 100) rfl ?_); refine goesL_ (some 54) rfl rfl Try.func100 (by kernel_rfl) rfl #[.slice A0 l0.length c0, .int .i64 t2] rfl aL ?_; (with_reducible refine (spec_TakeNums.calls k _ _ l0 t2 u1 u2 _ ?side1 ?side2 A2.out).mono ?_); (case side1 => exact cA); (case side2 => exact HC0.out); rintro e w' ⟨v, rfl, ho, hb⟩; refine ⟨_, rfl, ?_⟩; have HO := Aside0.mk (Kd.R_lower ho (below_size bA)); have n0_ := Aside0.mk (blk_below (g := gb4) (o := .cells #[.int .i64 0, .string (⟨#[]⟩ : ByteArray), .int .i64 0, .int .i64 0, .int .i64 0, .bool false, .slice none 0 0] 33 (0, 0)) BK4.out hb); have n1_ := Aside0.mk (blk_below (g := gb6) (o := .cells #[.slice A0 l0.length c0, .int .i64 t2, .bool false] 84 (0, 0)) BK6.out hb); have n2_ := Aside0.mk (blk_below (g := gb7) (o := .cells #[.int .i64 t1, .string (⟨#[]⟩ : ByteArray), .int .i64 0, .int .i64 0, .int .i64 0, .bool false, .slice none 0 0] 33 (0, 0)) BK7.out hb); have n3_ := Aside0.mk (below_step bA hb); clear BK4 BK6 BK7 HB; have BK4 := n0_; have BK6 := n1_; have BK7 := n2_; have HB := n3_; clear n0_ n1_ n2_ n3_; clear ho hb; obtain ⟨Ao, co, eo⟩ := Kd.R_slice HO.out; subst eo; obtain ⟨⟨hza7_0, hza7_1, hza7_2, hza7_3, hza7_4, hza7_5, hza7_6⟩, hfa7_0, hfa7_1, hfa7_2, hfa7_3, hfa7_4, hfa7_5, hfa7_6⟩ := Own.c7 BK7.out; obtain ⟨⟨hza4_0, hza4_1, hza4_2, hza4_3, hza4_4, hza4_5, hza4_6⟩, hfa4_0, hfa4_1, hfa4_2, hfa4_3, hfa4_4, hfa4_5, hfa4_6⟩ := Own.c7 BK4.out; obtain ⟨hya6_0, hya6_1, hya6_2, hea6_0, hea6_1, hea6_2⟩ := spec_TakeNode.c3 BK6.out) | ((with_reducible refine gate_store (t := 33) (p := 4) rfl ?_); refine store_event (t := 33) (p := 4) (v := ?vo_7) (w1 := (((((((w'.setCell ⟨gb4, 0, none⟩ (.int .i64 0)).setCell ⟨gb4, 1, none⟩ (.string (⟨#[]⟩ : ByteArray))).setCell ⟨gb4, 2, none⟩ (.int .i64 0)).setCell ⟨gb4, 3, none⟩ (.int .i64 0)).setCell ⟨gb4, 4, none⟩ (.int .i64 0)).setCell ⟨gb4, 5, none⟩ (.bool false)).setCell ⟨gb4, 6, none⟩ (.slice none 0 0))) ?hg ?ho ?hn ?hr ?_; (case ho => rfl); (case hg => rfl); (case hn => rfl); (case hr => first | (go_simp; done) | (go_simp; rfl)); intro w8 hw; have n0_ : Aside0 (w8.heap[gb4]? = some (.cells #[.int .i64 0, .string (⟨#[]⟩ : ByteArray), .int .i64 0, .int .i64 0, .int .i64 0, .bool false, .slice none 0 0] 33 (0, 0))) := ⟨by rw [hw]; exact put7 BK4.out⟩; have n1_ : Aside0 (Below w.heap.size w w8) := ⟨by rw [hw]; exact bA⟩; clear BK4 HB; have BK4 := n0_; have HB := n1_; clear n0_ n1_; clear hw))
       refine bodyPost_ret (results_ct rfl _ _ gb4 33 #[.int .i64 0, .string (⟨#[]⟩ : ByteArray), .int .i64 0, .int .i64 0, .int .i64 0, .bool false, .slice none 0 0] (0, 0) _ rfl BK4.out Try.underlying33 rfl (by kernel_rfl)) rfl ?_
       exact ⟨.slice none 0 0, rE, Kd.R_nil _ _ _ _ _, bA⟩
      ·rw [if_neg cu] at H
       have cub : decide (u2 < 0) = false := decide_eq_false cu
       clear cu
       go_wp2_with (first | ((with_reducible refine gate_callee (f := 100) rfl ?_); refine goesL_ (some 54) rfl rfl Try.func100 (by kernel_rfl) rfl #[.slice A0 l0.length c0, .int .i64 t2] rfl aL ?_; (with_reducible refine (spec_TakeNums.calls k _ _ l0 t2 u1 u2 _ ?side1 ?side2 A2.out).mono ?_); (case side1 => exact cA); (case side2 => exact HC0.out); rintro e w' ⟨v, rfl, ho, hb⟩; refine ⟨_, rfl, ?_⟩; have HO := Aside0.mk (Kd.R_lower ho (below_size bA)); have n0_ := Aside0.mk (blk_below (g := gb4) (o := .cells #[.int .i64 0, .string (⟨#[]⟩ : ByteArray), .int .i64 0, .int .i64 0, .int .i64 0, .bool false, .slice none 0 0] 33 (0, 0)) BK4.out hb); have n1_ := Aside0.mk (blk_below (g := gb6) (o := .cells #[.slice A0 l0.length c0, .int .i64 t2, .bool false] 84 (0, 0)) BK6.out hb); have n2_ := Aside0.mk (blk_below (g := gb7) (o := .cells #[.int .i64 t1, .string (⟨#[]⟩ : ByteArray), .int .i64 0, .int .i64 0, .int .i64 0, .bool false, .slice none 0 0] 33 (0, 0)) BK7.out hb); have n3_ := Aside0.mk (below_step bA hb); clear BK4 BK6 BK7 HB; have BK4 := n0_; have BK6 := n1_; have BK7 := n2_; have HB := n3_; clear n0_ n1_ n2_ n3_; clear ho hb; obtain ⟨Ao, co, eo⟩ := Kd.R_slice HO.out; subst eo; obtain ⟨⟨hza7_0, hza7_1, hza7_2, hza7_3, hza7_4, hza7_5, hza7_6⟩, hfa7_0, hfa7_1, hfa7_2, hfa7_3, hfa7_4, hfa7_5, hfa7_6⟩ := Own.c7 BK7.out; obtain ⟨⟨hza4_0, hza4_1, hza4_2, hza4_3, hza4_4, hza4_5, hza4_6⟩, hfa4_0, hfa4_1, hfa4_2, hfa4_3, hfa4_4, hfa4_5, hfa4_6⟩ := Own.c7 BK4.out; obtain ⟨hya6_0, hya6_1, hya6_2, hea6_0, hea6_1, hea6_2⟩ := spec_TakeNode.c3 BK6.out))
       go_meet
       case rel => exact ⟨false, u2, ((⟨#[]⟩ : ByteArray)), 0, 0, 0, false, u1, (.slice Ao u1.length co), ⟨H⟩, ⟨Kd.R_mono (Kd.R_far (p := ⟨gb6, 1, none⟩) (Kd.R_far (p := ⟨gb7, 6, none⟩) (Kd.R_types (Kd.R_types HO.out BK6.out (by decide)) BK7.out (by decide)) (fun _ hk => hk.2) _) (fun _ hk => hk.1.2) _) (fun _ hk => trivial)⟩, ⟨blk_far (blk_far BK4.out NB47.out _) NB46.out _⟩, ⟨blk_put (cs' := #[.slice A0 l0.length c0, .int .i64 u2, .bool false]) (blk_far BK6.out NB67.out _) 1 _ rfl⟩, ⟨blk_far (blk_put (cs' := #[.int .i64 t1, .string ((⟨#[]⟩ : ByteArray)), .int .i64 0, .int .i64 0, .int .i64 0, .bool false, .slice Ao u1.length co]) BK7.out 6 _ rfl) NB76.out _⟩, ⟨bA⟩⟩
     ·rw [if_neg k2] at H
      have k2b : (t1 == 2) = false := beq_eq_false_iff_ne.mpr k2
      (first | rw [k2b] | skip)
      by_cases k3 : t1 = 3
      ·rw [if_pos k3] at H
       have k3b : (t1 == 3) = true := beq_iff_eq.mpr k3
       (first | rw [k3b] | skip)
       clear k3
       obtain ⟨⟨p0, y0, z0⟩, f0, H⟩ := Option.bind_eq_some_iff.mp H
       have F0 := Aside0.mk f0
       clear f0
       obtain ⟨⟨p1, y1, z1⟩, f1, H⟩ := Option.bind_eq_some_iff.mp H
       have F1 := Aside0.mk f1
       clear f1
       go_wp2_with (first | ((with_reducible refine gate_callee (f := 97) rfl ?_); refine goesL_ (some 66) rfl rfl Try.func97 (by kernel_rfl) rfl #[.pointer (some ⟨gb6, 0, none⟩)] rfl aL ?_; refine (spec_l05Next.calls k A0 c0 l0 t2 false p0 y0 z0 w _ gb6 BK6.out GE6.out bA HR0.out HC0.out F0.out).mono ?_; rintro e w20 ⟨rfl, hg, hb, hk⟩; refine ⟨_, rfl, ?_⟩; have n0_ := Aside0.mk (KeepBut.blk hk (g' := gb4) BK4.out NB46.out (by simp)); have n1_ := Aside0.mk (KeepBut.blk hk (g' := gb7) BK7.out NB76.out (by simp)); have n2_ := Aside0.mk hg; have n3_ := Aside0.mk hb; clear BK4 BK7 BK6 HB; have BK4 := n0_; have BK7 := n1_; have BK6 := n2_; have HB := n3_; clear n0_ n1_ n2_ n3_; clear hg hb hk; obtain ⟨⟨hzw20s_0, hzw20s_1, hzw20s_2, hzw20s_3, hzw20s_4, hzw20s_5, hzw20s_6⟩, hfw20s_0, hfw20s_1, hfw20s_2, hfw20s_3, hfw20s_4, hfw20s_5, hfw20s_6⟩ := Own.c7 BK7.out; obtain ⟨hyw20r_0, hyw20r_1, hyw20r_2, hew20r_0, hew20r_1, hew20r_2⟩ := spec_TakeNode.c3 BK6.out) | ((with_reducible refine gate_callee (f := 97) rfl ?_); refine goesL_ (some 68) rfl rfl Try.func97 (by kernel_rfl) rfl #[.pointer (some ⟨gb6, 0, none⟩)] rfl aL ?_; refine (spec_l05Next.calls k A0 c0 l0 y0 z0 p1 y1 z1 w _ gb6 (blk_far BK6.out NB67.out _) GE6.out bA HR0.out HC0.out F1.out).mono ?_; rintro e w21 ⟨rfl, hg, hb, hk⟩; refine ⟨_, rfl, ?_⟩; have n0_ := Aside0.mk (KeepBut.blk hk (g' := gb4) (blk_far BK4.out NB47.out _) NB46.out (by simp)); have n1_ := Aside0.mk (KeepBut.blk hk (g' := gb7) (blk_put (cs' := #[.int .i64 t1, .string ((⟨#[]⟩ : ByteArray)), .int .i64 p0, .int .i64 0, .int .i64 0, .bool false, .slice none 0 0]) BK7.out 2 _ rfl) NB76.out (by simp)); have n2_ := Aside0.mk hg; have n3_ := Aside0.mk hb; clear BK4 BK7 BK6 HB; have BK4 := n0_; have BK7 := n1_; have BK6 := n2_; have HB := n3_; clear n0_ n1_ n2_ n3_; clear hg hb hk; obtain ⟨⟨hzw21s_0, hzw21s_1, hzw21s_2, hzw21s_3, hzw21s_4, hzw21s_5, hzw21s_6⟩, hfw21s_0, hfw21s_1, hfw21s_2, hfw21s_3, hfw21s_4, hfw21s_5, hfw21s_6⟩ := Own.c7 BK7.out; obtain ⟨hyw21r_0, hyw21r_1, hyw21r_2, hew21r_0, hew21r_1, hew21r_2⟩ := spec_TakeNode.c3 BK6.out))
       go_meet
       case rel => exact ⟨z1, y1, ((⟨#[]⟩ : ByteArray)), p0, 0, p1, false, (([] : List Int)), (.slice none 0 0), ⟨H⟩, ⟨Kd.R_nil _ _ _ _ _⟩, ⟨blk_far BK4.out NB47.out _⟩, ⟨blk_far BK6.out NB67.out _⟩, ⟨blk_put (cs' := #[.int .i64 t1, .string ((⟨#[]⟩ : ByteArray)), .int .i64 p0, .int .i64 0, .int .i64 p1, .bool false, .slice none 0 0]) BK7.out 4 _ rfl⟩, ⟨bA⟩⟩
      ·rw [if_neg k3] at H
       have k3b : (t1 == 3) = false := beq_eq_false_iff_ne.mpr k3
       (first | rw [k3b] | skip)
       by_cases k5 : t1 = 5
       ·rw [if_pos k5] at H
        have k5b : (t1 == 5) = true := beq_iff_eq.mpr k5
        (first | rw [k5b] | skip)
        clear k5
        obtain ⟨⟨p0, y0, z0⟩, f0, H⟩ := Option.bind_eq_some_iff.mp H
        have F0 := Aside0.mk f0
        clear f0
        go_wp2_with (first | ((with_reducible refine gate_callee (f := 97) rfl ?_); refine goesL_ (some 72) rfl rfl Try.func97 (by kernel_rfl) rfl #[.pointer (some ⟨gb6, 0, none⟩)] rfl aL ?_; refine (spec_l05Next.calls k A0 c0 l0 t2 false p0 y0 z0 w _ gb6 BK6.out GE6.out bA HR0.out HC0.out F0.out).mono ?_; rintro e w20 ⟨rfl, hg, hb, hk⟩; refine ⟨_, rfl, ?_⟩; have n0_ := Aside0.mk (KeepBut.blk hk (g' := gb4) BK4.out NB46.out (by simp)); have n1_ := Aside0.mk (KeepBut.blk hk (g' := gb7) BK7.out NB76.out (by simp)); have n2_ := Aside0.mk hg; have n3_ := Aside0.mk hb; clear BK4 BK7 BK6 HB; have BK4 := n0_; have BK7 := n1_; have BK6 := n2_; have HB := n3_; clear n0_ n1_ n2_ n3_; clear hg hb hk; obtain ⟨⟨hzw20s_0, hzw20s_1, hzw20s_2, hzw20s_3, hzw20s_4, hzw20s_5, hzw20s_6⟩, hfw20s_0, hfw20s_1, hfw20s_2, hfw20s_3, hfw20s_4, hfw20s_5, hfw20s_6⟩ := Own.c7 BK7.out; obtain ⟨hyw20r_0, hyw20r_1, hyw20r_2, hew20r_0, hew20r_1, hew20r_2⟩ := spec_TakeNode.c3 BK6.out))
        go_meet
        case rel => exact ⟨z0, y0, ((⟨#[]⟩ : ByteArray)), p0, 0, 0, false, (([] : List Int)), (.slice none 0 0), ⟨H⟩, ⟨Kd.R_nil _ _ _ _ _⟩, ⟨blk_far BK4.out NB47.out _⟩, ⟨blk_far BK6.out NB67.out _⟩, ⟨blk_put (cs' := #[.int .i64 t1, .string ((⟨#[]⟩ : ByteArray)), .int .i64 p0, .int .i64 0, .int .i64 0, .bool false, .slice none 0 0]) BK7.out 2 _ rfl⟩, ⟨bA⟩⟩
       ·rw [if_neg k5] at H
        have k5b : (t1 == 5) = false := beq_eq_false_iff_ne.mpr k5
        (first | rw [k5b] | skip)
        by_cases k6 : t1 = 6
        ·rw [if_pos k6] at H
         have k6b : (t1 == 6) = true := beq_iff_eq.mpr k6
         (first | rw [k6b] | skip)
         clear k6
         obtain ⟨⟨p0, y0, z0⟩, f0, H⟩ := Option.bind_eq_some_iff.mp H
         have F0 := Aside0.mk f0
         clear f0
         obtain ⟨⟨p1, y1, z1⟩, f1, H⟩ := Option.bind_eq_some_iff.mp H
         have F1 := Aside0.mk f1
         clear f1
         go_wp2_with (first | ((with_reducible refine gate_callee (f := 99) rfl ?_); refine goesL_ (some 76) rfl rfl Try.func99 (by kernel_rfl) rfl #[.pointer (some ⟨gb6, 0, none⟩)] rfl aL ?_; refine (spec_l05Slot.calls k A0 c0 l0 t2 false p0 y0 z0 w _ gb6 BK6.out GE6.out bA HR0.out HC0.out F0.out).mono ?_; rintro e w20 ⟨rfl, hg, hb, hk⟩; refine ⟨_, rfl, ?_⟩; have n0_ := Aside0.mk (KeepBut.blk hk (g' := gb4) BK4.out NB46.out (by simp)); have n1_ := Aside0.mk (KeepBut.blk hk (g' := gb7) BK7.out NB76.out (by simp)); have n2_ := Aside0.mk hg; have n3_ := Aside0.mk hb; clear BK4 BK7 BK6 HB; have BK4 := n0_; have BK7 := n1_; have BK6 := n2_; have HB := n3_; clear n0_ n1_ n2_ n3_; clear hg hb hk; obtain ⟨⟨hzw20s_0, hzw20s_1, hzw20s_2, hzw20s_3, hzw20s_4, hzw20s_5, hzw20s_6⟩, hfw20s_0, hfw20s_1, hfw20s_2, hfw20s_3, hfw20s_4, hfw20s_5, hfw20s_6⟩ := Own.c7 BK7.out; obtain ⟨hyw20r_0, hyw20r_1, hyw20r_2, hew20r_0, hew20r_1, hew20r_2⟩ := spec_TakeNode.c3 BK6.out) | ((with_reducible refine gate_callee (f := 97) rfl ?_); refine goesL_ (some 78) rfl rfl Try.func97 (by kernel_rfl) rfl #[.pointer (some ⟨gb6, 0, none⟩)] rfl aL ?_; refine (spec_l05Next.calls k A0 c0 l0 y0 z0 p1 y1 z1 w _ gb6 (blk_far BK6.out NB67.out _) GE6.out bA HR0.out HC0.out F1.out).mono ?_; rintro e w21 ⟨rfl, hg, hb, hk⟩; refine ⟨_, rfl, ?_⟩; have n0_ := Aside0.mk (KeepBut.blk hk (g' := gb4) (blk_far BK4.out NB47.out _) NB46.out (by simp)); have n1_ := Aside0.mk (KeepBut.blk hk (g' := gb7) (blk_put (cs' := #[.int .i64 t1, .string ((⟨#[]⟩ : ByteArray)), .int .i64 0, .int .i64 0, .int .i64 0, .bool p0, .slice none 0 0]) BK7.out 5 _ rfl) NB76.out (by simp)); have n2_ := Aside0.mk hg; have n3_ := Aside0.mk hb; clear BK4 BK7 BK6 HB; have BK4 := n0_; have BK7 := n1_; have BK6 := n2_; have HB := n3_; clear n0_ n1_ n2_ n3_; clear hg hb hk; obtain ⟨⟨hzw21s_0, hzw21s_1, hzw21s_2, hzw21s_3, hzw21s_4, hzw21s_5, hzw21s_6⟩, hfw21s_0, hfw21s_1, hfw21s_2, hfw21s_3, hfw21s_4, hfw21s_5, hfw21s_6⟩ := Own.c7 BK7.out; obtain ⟨hyw21r_0, hyw21r_1, hyw21r_2, hew21r_0, hew21r_1, hew21r_2⟩ := spec_TakeNode.c3 BK6.out))
         go_meet
         case rel => exact ⟨z1, y1, ((⟨#[]⟩ : ByteArray)), 0, 0, p1, p0, (([] : List Int)), (.slice none 0 0), ⟨H⟩, ⟨Kd.R_nil _ _ _ _ _⟩, ⟨blk_far BK4.out NB47.out _⟩, ⟨blk_far BK6.out NB67.out _⟩, ⟨blk_put (cs' := #[.int .i64 t1, .string ((⟨#[]⟩ : ByteArray)), .int .i64 0, .int .i64 0, .int .i64 p1, .bool p0, .slice none 0 0]) BK7.out 4 _ rfl⟩, ⟨bA⟩⟩
        ·rw [if_neg k6] at H
         have k6b : (t1 == 6) = false := beq_eq_false_iff_ne.mpr k6
         (first | rw [k6b] | skip)
         go_wp2
         go_meet
         case rel => exact ⟨false, t2, ((⟨#[]⟩ : ByteArray)), 0, 0, 0, false, (([] : List Int)), (.slice none 0 0), ⟨H⟩, ⟨Kd.R_nil _ _ _ _ _⟩, ⟨BK4.out⟩, ⟨BK6.out⟩, ⟨BK7.out⟩, ⟨bA⟩⟩
  case rest =>
   clear HG
   try clear hz67_0 hz67_1 hz67_2 hz67_3 hz67_4 hz67_5 hz67_6
   try clear hz64_0 hz64_1 hz64_2 hz64_3 hz64_4 hz64_5 hz64_6
   try clear hy66_0 hy66_1 hy66_2
   obtain ⟨b, x7, x1, x2, x3, x4, x5, x6, u6, HA, HO, BK4, BK6, BK7, HB⟩ := hcut
   have H := HA.out
   clear HA
   unfold spec_TakeNode.j0 at H
   obtain ⟨Ao, co, eo⟩ := Kd.R_slice HO.out
   subst eo
   obtain ⟨⟨hzc7_0, hzc7_1, hzc7_2, hzc7_3, hzc7_4, hzc7_5, hzc7_6⟩, hfc7_0, hfc7_1, hfc7_2, hfc7_3, hfc7_4, hfc7_5, hfc7_6⟩ := Own.c7 BK7.out
   obtain ⟨⟨hzc4_0, hzc4_1, hzc4_2, hzc4_3, hzc4_4, hzc4_5, hzc4_6⟩, hfc4_0, hfc4_1, hfc4_2, hfc4_3, hfc4_4, hfc4_5, hfc4_6⟩ := Own.c7 BK4.out
   obtain ⟨hyc6_0, hyc6_1, hyc6_2, hec6_0, hec6_1, hec6_2⟩ := spec_TakeNode.c3 BK6.out
   by_cases cb : b = true
   ·rw [if_pos cb] at H
    subst cb
    simp only [Option.some.injEq, Prod.mk.injEq] at H
    obtain ⟨rfl, rfl, rfl, rfl, rfl, rfl, rfl, rfl⟩ := H
    go_wp2_with (first | ((with_reducible refine gate_store (t := 33) (p := 4) rfl ?_); refine store_event (t := 33) (p := 4) (v := ?vo_8) (w1 := (((((((wc.setCell ⟨gb4, 0, none⟩ (.int .i64 0)).setCell ⟨gb4, 1, none⟩ (.string (⟨#[]⟩ : ByteArray))).setCell ⟨gb4, 2, none⟩ (.int .i64 0)).setCell ⟨gb4, 3, none⟩ (.int .i64 0)).setCell ⟨gb4, 4, none⟩ (.int .i64 0)).setCell ⟨gb4, 5, none⟩ (.bool false)).setCell ⟨gb4, 6, none⟩ (.slice none 0 0))) ?hg ?ho ?hn ?hr ?_; (case ho => rfl); (case hg => rfl); (case hn => rfl); (case hr => first | (go_simp; done) | (go_simp; rfl)); intro w8 hw; have n0_ : Aside0 (w8.heap[gb4]? = some (.cells #[.int .i64 0, .string (⟨#[]⟩ : ByteArray), .int .i64 0, .int .i64 0, .int .i64 0, .bool false, .slice none 0 0] 33 (0, 0))) := ⟨by rw [hw]; exact put7 BK4.out⟩; have n1_ : Aside0 (Below w.heap.size w w8) := ⟨by rw [hw]; exact bA⟩; clear BK4 HB; have BK4 := n0_; have HB := n1_; clear n0_ n1_; clear hw))
    refine bodyPost_ret (results_ct rfl _ _ gb4 33 #[.int .i64 0, .string (⟨#[]⟩ : ByteArray), .int .i64 0, .int .i64 0, .int .i64 0, .bool false, .slice none 0 0] (0, 0) _ rfl BK4.out Try.underlying33 rfl (by kernel_rfl)) rfl ?_
    exact ⟨.slice none 0 0, rE, Kd.R_nil _ _ _ _ _, bA⟩
   ·rw [if_neg cb] at H
    obtain rfl : b = false := Bool.eq_false_iff.mpr cb
    clear cb
    obtain ⟨t, f2, H⟩ := Option.bind_eq_some_iff.mp H
    have A2 := Aside0.mk f2
    clear f2
    by_cases ct : t = true
    ·subst ct
     replace H : some (t1, x1, x2, x3, x4, x5, x6, x7) = some (r1, r2, r3, r4, r5, r6, r7, r8) := H
     simp only [Option.some.injEq, Prod.mk.injEq] at H
     obtain ⟨rfl, rfl, rfl, rfl, rfl, rfl, rfl, rfl⟩ := H
     go_wp2_with (first | (go_at_call 21; (with_reducible refine (spec_NodeOk.calls k t1 x1 x2 x3 x4 x5 _ _ x6 true _ ?side1 ?side2 A2.out).mono ?_); (case side1 => exact (Kd.R_reads' HO.out).2.2); (case side2 => exact (Kd.R_reads' HO.out).2.1); rintro e w7 ⟨rfl, hb⟩; have n0_ := Aside0.mk (blk_below (g := gb4) (o := .cells #[.int .i64 0, .string (⟨#[]⟩ : ByteArray), .int .i64 0, .int .i64 0, .int .i64 0, .bool false, .slice none 0 0] 33 (0, 0)) BK4.out hb); have n1_ := Aside0.mk (blk_below (g := gb6) (o := .cells #[.slice A0 l0.length c0, .int .i64 x7, .bool false] 84 (0, 0)) BK6.out hb); have n2_ := Aside0.mk (blk_below (g := gb7) (o := .cells #[.int .i64 t1, .string x1, .int .i64 x2, .int .i64 x3, .int .i64 x4, .bool x5, .slice Ao x6.length co] 33 (0, 0)) BK7.out hb); have n3_ := Aside0.mk (Kd.R_below HO.out hb); have n4_ := Aside0.mk (below_step bA hb); clear BK4 BK6 BK7 HO HB; have BK4 := n0_; have BK6 := n1_; have BK7 := n2_; have HO := n3_; have HB := n4_; clear n0_ n1_ n2_ n3_ n4_; clear hb; obtain ⟨⟨hzd7_0, hzd7_1, hzd7_2, hzd7_3, hzd7_4, hzd7_5, hzd7_6⟩, hfd7_0, hfd7_1, hfd7_2, hfd7_3, hfd7_4, hfd7_5, hfd7_6⟩ := Own.c7 BK7.out; obtain ⟨⟨hzd4_0, hzd4_1, hzd4_2, hzd4_3, hzd4_4, hzd4_5, hzd4_6⟩, hfd4_0, hfd4_1, hfd4_2, hfd4_3, hfd4_4, hfd4_5, hfd4_6⟩ := Own.c7 BK4.out; obtain ⟨hyd6_0, hyd6_1, hyd6_2, hed6_0, hed6_1, hed6_2⟩ := spec_TakeNode.c3 BK6.out))
     have BK4' := Aside0.mk (blk_drew BK4.out)
     have BK6' := Aside0.mk (blk_drew BK6.out)
     have BK7' := Aside0.mk (blk_drew BK7.out)
     have HO' := Aside0.mk (Kd.R_drew HO.out)
     have HB' := Aside0.mk (below_drew1 HB.out)
     clear BK4 BK6 BK7 HO HB
     have BK4 := BK4'
     have BK6 := BK6'
     have BK7 := BK7'
     have HO := HO'
     have HB := HB'
     clear BK4' BK6' BK7' HO' HB'
     refine start_ (n := 5) (S := fun w' => w'.cell? ⟨gb7, 0, none⟩ = some (.int .i64 t1) ∧ w'.cell? ⟨gb7, 1, none⟩ = some (.string x1) ∧ w'.cell? ⟨gb7, 2, none⟩ = some (.int .i64 x2) ∧ w'.cell? ⟨gb7, 3, none⟩ = some (.int .i64 x3) ∧ w'.cell? ⟨gb7, 4, none⟩ = some (.int .i64 x4) ∧ w'.cell? ⟨gb7, 5, none⟩ = some (.bool x5) ∧ w'.cell? ⟨gb7, 6, none⟩ = some (.slice Ao x6.length co) ∧ w'.cell? ⟨gb6, 1, none⟩ = some (.int .i64 x7)) (ds := []) #[false, false, false, false, false] (by kernel_rfl) rfl rfl ⟨(blk_cell BK7.out 0).trans rfl, (blk_cell BK7.out 1).trans rfl, (blk_cell BK7.out 2).trans rfl, (blk_cell BK7.out 3).trans rfl, (blk_cell BK7.out 4).trans rfl, (blk_cell BK7.out 5).trans rfl, (blk_cell BK7.out 6).trans rfl, (blk_cell BK6.out 1).trans rfl⟩ (fun hHeld => ?_)
     generalize w7.drew = w8 at BK4 BK6 BK7 HO HB hHeld ⊢
     obtain ⟨⟨hzg4_0, hzg4_1, hzg4_2, hzg4_3, hzg4_4, hzg4_5, hzg4_6⟩, hfg4_0, hfg4_1, hfg4_2, hfg4_3, hfg4_4, hfg4_5, hfg4_6⟩ := Own.c7 BK4.out
     refine tu_ 0 88 ?_
     refine pu_ 1 89 ?_
     refine tu_ 2 90 ?_
     refine one_ (i := 3) (N := none) #[true, true, true, true, false] rfl rfl (by kernel_rfl) (by decide) (fun K hK => ?_)
     refine skip_ (w1 := (((((((w8.setCell ⟨gb4, 0, none⟩ (.int .i64 t1)).setCell ⟨gb4, 1, none⟩ (.string x1)).setCell ⟨gb4, 2, none⟩ (.int .i64 x2)).setCell ⟨gb4, 3, none⟩ (.int .i64 x3)).setCell ⟨gb4, 4, none⟩ (.int .i64 x4)).setCell ⟨gb4, 5, none⟩ (.bool x5)).setCell ⟨gb4, 6, none⟩ (.slice Ao x6.length co))) (by rfl) rfl ?_ ?_
     ·first | (go_simp; done) | (go_simp; rfl)
     refine hK.out _ _ ⟨(blk_cell (spec_TakeNode.far7 BK7.out NB74.out) 0).trans rfl, (blk_cell (spec_TakeNode.far7 BK7.out NB74.out) 1).trans rfl, (blk_cell (spec_TakeNode.far7 BK7.out NB74.out) 2).trans rfl, (blk_cell (spec_TakeNode.far7 BK7.out NB74.out) 3).trans rfl, (blk_cell (spec_TakeNode.far7 BK7.out NB74.out) 4).trans rfl, (blk_cell (spec_TakeNode.far7 BK7.out NB74.out) 5).trans rfl, (blk_cell (spec_TakeNode.far7 BK7.out NB74.out) 6).trans rfl, (blk_cell (spec_TakeNode.far7 BK6.out NB64.out) 1).trans rfl⟩ (fun hHeld => ?_)
     refine pu_ 4 5 ?_
     refine done_ (by kernel_rfl) ?_
     try go_wp2
     refine bodyPost_ret (results_ct rfl _ _ gb4 33 #[.int .i64 t1, .string x1, .int .i64 x2, .int .i64 x3, .int .i64 x4, .bool x5, .slice Ao x6.length co] (0, 0) _ rfl (put7 BK4.out) Try.underlying33 rfl (by kernel_rfl)) rfl ?_
     exact ⟨_, rE, spec_TakeNode.row7 HO.out BK4.out (by decide), bA⟩
    ·obtain rfl : t = false := Bool.eq_false_iff.mpr ct
     clear ct
     replace H : some (0, (⟨#[]⟩ : ByteArray), 0, 0, 0, false, ([] : List Int), (-1)) = some (r1, r2, r3, r4, r5, r6, r7, r8) := H
     simp only [Option.some.injEq, Prod.mk.injEq] at H
     obtain ⟨rfl, rfl, rfl, rfl, rfl, rfl, rfl, rfl⟩ := H
     go_wp2_with (first | (go_at_call 21; (with_reducible refine (spec_NodeOk.calls k t1 x1 x2 x3 x4 x5 _ _ x6 false _ ?side1 ?side2 A2.out).mono ?_); (case side1 => exact (Kd.R_reads' HO.out).2.2); (case side2 => exact (Kd.R_reads' HO.out).2.1); rintro e w7 ⟨rfl, hb⟩; have n0_ := Aside0.mk (blk_below (g := gb4) (o := .cells #[.int .i64 0, .string (⟨#[]⟩ : ByteArray), .int .i64 0, .int .i64 0, .int .i64 0, .bool false, .slice none 0 0] 33 (0, 0)) BK4.out hb); have n1_ := Aside0.mk (blk_below (g := gb6) (o := .cells #[.slice A0 l0.length c0, .int .i64 x7, .bool false] 84 (0, 0)) BK6.out hb); have n2_ := Aside0.mk (blk_below (g := gb7) (o := .cells #[.int .i64 t1, .string x1, .int .i64 x2, .int .i64 x3, .int .i64 x4, .bool x5, .slice Ao x6.length co] 33 (0, 0)) BK7.out hb); have n3_ := Aside0.mk (Kd.R_below HO.out hb); have n4_ := Aside0.mk (below_step bA hb); clear BK4 BK6 BK7 HO HB; have BK4 := n0_; have BK6 := n1_; have BK7 := n2_; have HO := n3_; have HB := n4_; clear n0_ n1_ n2_ n3_ n4_; clear hb; obtain ⟨⟨hzd7_0, hzd7_1, hzd7_2, hzd7_3, hzd7_4, hzd7_5, hzd7_6⟩, hfd7_0, hfd7_1, hfd7_2, hfd7_3, hfd7_4, hfd7_5, hfd7_6⟩ := Own.c7 BK7.out; obtain ⟨⟨hzd4_0, hzd4_1, hzd4_2, hzd4_3, hzd4_4, hzd4_5, hzd4_6⟩, hfd4_0, hfd4_1, hfd4_2, hfd4_3, hfd4_4, hfd4_5, hfd4_6⟩ := Own.c7 BK4.out; obtain ⟨hyd6_0, hyd6_1, hyd6_2, hed6_0, hed6_1, hed6_2⟩ := spec_TakeNode.c3 BK6.out) | ((with_reducible refine gate_store (t := 33) (p := 4) rfl ?_); refine store_event (t := 33) (p := 4) (v := ?vo_9) (w1 := (((((((w7.setCell ⟨gb4, 0, none⟩ (.int .i64 0)).setCell ⟨gb4, 1, none⟩ (.string (⟨#[]⟩ : ByteArray))).setCell ⟨gb4, 2, none⟩ (.int .i64 0)).setCell ⟨gb4, 3, none⟩ (.int .i64 0)).setCell ⟨gb4, 4, none⟩ (.int .i64 0)).setCell ⟨gb4, 5, none⟩ (.bool false)).setCell ⟨gb4, 6, none⟩ (.slice none 0 0))) ?hg ?ho ?hn ?hr ?_; (case ho => rfl); (case hg => rfl); (case hn => rfl); (case hr => first | (go_simp; done) | (go_simp; rfl)); intro w8 hw; have n0_ : Aside0 (w8.heap[gb4]? = some (.cells #[.int .i64 0, .string (⟨#[]⟩ : ByteArray), .int .i64 0, .int .i64 0, .int .i64 0, .bool false, .slice none 0 0] 33 (0, 0))) := ⟨by rw [hw]; exact put7 BK4.out⟩; have n1_ : Aside0 (Below w.heap.size w w8) := ⟨by rw [hw]; exact bA⟩; clear BK4 HB; have BK4 := n0_; have HB := n1_; clear n0_ n1_; clear hw))
     refine bodyPost_ret (results_ct rfl _ _ gb4 33 #[.int .i64 0, .string (⟨#[]⟩ : ByteArray), .int .i64 0, .int .i64 0, .int .i64 0, .bool false, .slice none 0 0] (0, 0) _ rfl BK4.out Try.underlying33 rfl (by kernel_rfl)) rfl ?_
     exact ⟨.slice none 0 0, rE, Kd.R_nil _ _ _ _ _, bA⟩

/-! ### impl_TakeNum: function 101 -/
mutual
def impl_TakeNum.l0 : Nat → List Int → Int → Int → Int → Int → Option (Int × Int)
 | 0, _, _, _, _, _ => none
 | k + 1, x0, x1, x6, x7, x8 => if x8 < (x0.length : Int) then (impl_TakeNum.j1 k x0 x1 x6 x7 x8 (decide (x8 < (wrap64 (x1 + 3))))) else (impl_TakeNum.j1 k x0 x1 x6 x7 x8 false)
def impl_TakeNum.j1 : Nat → List Int → Int → Int → Int → Int → Bool → Option (Int × Int)
 | 0, _, _, _, _, _, _ => none
 | k + 1, x0, x1, x6, x7, x8, x22 => if x22 = true then (if 0 ≤ x8 then (if x8 < (x0.length : Int) then (if (rd x0 x8) ≥ 128 then (impl_TakeNum.l0 k x0 x1 (wrap64 (x6 + (wrap64 ((wrap64 (Int.tmod (rd x0 x8) 128)) * x7)))) (wrap64 (x7 * 128)) (wrap64 (x8 + 1))) else (if (Int.tmod (wrap64 (x6 + (wrap64 ((wrap64 (Int.tmod (rd x0 x8) 128)) * x7)))) 2) = 1 then ((impl_isNum.f (wrap64 (Int.tdiv (wrap64 (-(wrap64 ((wrap64 (x6 + (wrap64 ((wrap64 (Int.tmod (rd x0 x8) 128)) * x7)))) + 1)))) 2))).bind fun t202 => (if t202 = true then (if (rd x0 x8) = 0 then (if x8 > x1 then (some (0, (-1))) else (some (wrap64 (Int.tdiv (wrap64 (-(wrap64 ((wrap64 (x6 + (wrap64 ((wrap64 (Int.tmod (rd x0 x8) 128)) * x7)))) + 1)))) 2), wrap64 (x8 + 1)))) else (some (wrap64 (Int.tdiv (wrap64 (-(wrap64 ((wrap64 (x6 + (wrap64 ((wrap64 (Int.tmod (rd x0 x8) 128)) * x7)))) + 1)))) 2), wrap64 (x8 + 1)))) else (some (0, (-1))))) else ((impl_isNum.f (wrap64 (Int.tdiv (wrap64 (x6 + (wrap64 ((wrap64 (Int.tmod (rd x0 x8) 128)) * x7)))) 2))).bind fun t204 => (if t204 = true then (if (rd x0 x8) = 0 then (if x8 > x1 then (some (0, (-1))) else (some (wrap64 (Int.tdiv (wrap64 (x6 + (wrap64 ((wrap64 (Int.tmod (rd x0 x8) 128)) * x7)))) 2), wrap64 (x8 + 1)))) else (some (wrap64 (Int.tdiv (wrap64 (x6 + (wrap64 ((wrap64 (Int.tmod (rd x0 x8) 128)) * x7)))) 2), wrap64 (x8 + 1)))) else (some (0, (-1))))))) else (none)) else (none)) else (some (0, (-1)))
end
def impl_TakeNum.f (k : Nat) (l0 : List Int) (a1 : Int) : Option (Int × Int) := if a1 < 0 then (some (0, (-1))) else (impl_TakeNum.l0 k l0 a1 0 1 a1)
theorem impl_TakeNum.mono_l : ∀ k, (∀ y0 y1 y2 y3 y4, LeO (impl_TakeNum.l0 k y0 y1 y2 y3 y4) (impl_TakeNum.l0 (k + 1) y0 y1 y2 y3 y4)) ∧ (∀ y0 y1 y2 y3 y4 y5, LeO (impl_TakeNum.j1 k y0 y1 y2 y3 y4 y5) (impl_TakeNum.j1 (k + 1) y0 y1 y2 y3 y4 y5))
 | 0 => ⟨fun _ _ _ _ _ r h => by simp [impl_TakeNum.l0] at h, fun _ _ _ _ _ _ r h => by simp [impl_TakeNum.j1] at h⟩
 | k + 1 => by
  obtain ⟨ih0, ih1⟩ := impl_TakeNum.mono_l k
  refine ⟨?_, ?_⟩ <;> intros <;> (first | unfold impl_TakeNum.l0 | unfold impl_TakeNum.j1)
  all_goals repeat' first
  | (with_reducible exact ih0 _ _ _ _ _)
  | (with_reducible exact ih1 _ _ _ _ _ _)
  | (with_reducible exact LeO.refl _)
  | (with_reducible exact LeO.none _)
  | (with_reducible refine LeO.ite ?_ ?_)
  | (with_reducible refine LeO.bind ?_ (fun _ => ?_))
  | exact ih0 _ _ _ _ _
  | exact ih1 _ _ _ _ _ _
  | exact LeO.none _
  | refine LeO.ite ?_ ?_
  | refine LeO.bind ?_ (fun _ => ?_)
theorem impl_TakeNum.mono : ∀ a0 a1 k, LeO (impl_TakeNum.f k a0 a1) (impl_TakeNum.f (k + 1) a0 a1) := by
 intro a0 a1 k
 obtain ⟨ih0, ih1⟩ := impl_TakeNum.mono_l k
 unfold impl_TakeNum.f
 repeat' first
   | (with_reducible exact ih0 _ _ _ _ _)
   | (with_reducible exact ih1 _ _ _ _ _ _)
   | (with_reducible exact LeO.refl _)
   | (with_reducible exact LeO.none _)
   | (with_reducible refine LeO.ite ?_ ?_)
   | (with_reducible refine LeO.bind ?_ (fun _ => ?_))
   | exact ih0 _ _ _ _ _
   | exact ih1 _ _ _ _ _ _
   | exact LeO.none _
   | refine LeO.ite ?_ ?_
   | refine LeO.bind ?_ (fun _ => ?_)
set_option maxHeartbeats 8000000 in
set_option maxRecDepth 100000 in
theorem impl_TakeNum.calls (k : Nat) (A0 : Option Addr) (c0 : Nat) (l0 : List Int) (a1 : Int) (r1 : Int) (r2 : Int) (w : World) (hr0 : Kd.C (Kd.int .u8) w A0 l0.length l0) (hc0 : l0.length ≤ c0) (h : impl_TakeNum.f k l0 a1 = some (r1, r2)) :
  Calls Try.prog 101 #[.slice A0 l0.length c0, .int .i64 a1] w fun e w' => e = .returned (.tuple #[.int .i64 r1, .int .i64 r2]) ∧ Drawn0 w w' := by
 have HR0 := Aside0.mk hr0
 have HC0 := Aside0.mk hc0
 clear hr0 hc0
 have H : (if a1 < 0 then (some (0, (-1))) else (impl_TakeNum.l0 k l0 a1 0 1 a1)) = some (r1, r2) := h
 clear h
 by_cases c3 : a1 < 0
 ·rw [if_pos c3] at H
  have c3b0 : decide (a1 < 0) = true := decide_eq_true c3
  clear c3
  simp only [Option.some.injEq, Prod.mk.injEq] at H
  obtain ⟨rfl, rfl⟩ := H
  go_enter Try.func101, Try.ntmps101
  go_wp2
  go_ret2
  exact ⟨rF, by repeat (first | exact Drawn0.refl _ | apply Drawn0.step)⟩
 ·rw [if_neg c3] at H
  have c3b0 : decide (a1 < 0) = false := decide_eq_false c3
  clear c3
  have H' := Aside0.mk H
  clear H
  go_enter Try.func101, Try.ntmps101
  go_wp2
  go_loopg [6, 7, 8] k (fun kq v6 v7 v8 w' => ∃ (x6_1 : Int) (x7_1 : Int) (x8_1 : Int), v6 = .int .i64 x6_1 ∧ v7 = .int .i64 x7_1 ∧ v8 = .int .i64 x8_1 ∧ Aside0 (impl_TakeNum.l0 kq l0 a1 x6_1 x7_1 x8_1 = some (r1, r2)) ∧ Aside0 (kq ≤ k) ∧ Drawn0 w w')
  case atStart => exact ⟨(0), (1), (a1), rF, rF, rF, H', ⟨Nat.le_refl _⟩, by repeat (first | exact Drawn0.refl _ | apply Drawn0.step)⟩
  case round =>
   clear H'
   try clear c1
   try clear p2
   try clear c3
   try clear c3b0
   obtain ⟨x6_1, x7_1, x8_1, rfl, rfl, rfl, HA, HK1, ⟨m1, rfl⟩⟩ := hrel
   cases gk with
   | zero => exact absurd HA.out (by simp [impl_TakeNum.l0])
   | succ k1 =>
    have H := HA.out
    clear HA
    simp only [impl_TakeNum.l0] at H
    have HC4 := Aside0.mk H
    clear H
    go_upto_region 5 with (fail)
    go_cut [22] (fun v22 wc => ∃ (kq : Nat) (x22_3 : Bool), v22 = .bool x22_3 ∧ Aside0 (impl_TakeNum.j1 kq l0 a1 x6_1 x7_1 x8_1 x22_3 = some (r1, r2)) ∧ Aside0 (kq ≤ k1) ∧ Drawn0 w wc)
    case first =>
     have H := HC4.out
     clear HC4
     by_cases c5 : x8_1 < (l0.length : Int)
     ·rw [if_pos c5] at H
      have c5b0 : decide (x8_1 < (l0.length : Int)) = true := decide_eq_true c5
      clear c5
      (first | rw [c5b0] | (simp only [i64_w, i32_w]; rw [c5b0]) | skip)
      have H' := Aside0.mk H
      clear H
      go_wp2
      go_meet
      case rel => exact ⟨_, (decide (x8_1 < (wrap64 (a1 + 3)))), rF, H', ⟨by have := HK1.out; first | omega | exact Nat.le_refl _⟩, by repeat (first | exact Drawn0.refl _ | apply Drawn0.step)⟩
     ·rw [if_neg c5] at H
      have c5b0 : decide (x8_1 < (l0.length : Int)) = false := decide_eq_false c5
      clear c5
      (first | rw [c5b0] | (simp only [i64_w, i32_w]; rw [c5b0]) | skip)
      have H' := Aside0.mk H
      clear H
      go_wp2
      go_meet
      case rel => exact ⟨_, (false), rF, H', ⟨by have := HK1.out; first | omega | exact Nat.le_refl _⟩, by repeat (first | exact Drawn0.refl _ | apply Drawn0.step)⟩
    case rest =>
     clear HC4
     try clear c1
     try clear p2
     try clear c3
     try clear c3b0
     try clear c5
     try clear c5b0
     try clear p2
     obtain ⟨kq, x22_3, rfl, HA, HJ3, ⟨mc3, rfl⟩⟩ := hcut
     cases kq with
     | zero => exact absurd HA.out (by simp [impl_TakeNum.j1])
     | succ kj3 =>
      have H := HA.out
      clear HA
      simp only [impl_TakeNum.j1] at H
      by_cases c6 : x22_3 = true
      ·subst c6
       have H1 : (if 0 ≤ x8_1 then (if x8_1 < (l0.length : Int) then (if (rd l0 x8_1) ≥ 128 then (impl_TakeNum.l0 kj3 l0 a1 (wrap64 (x6_1 + (wrap64 ((wrap64 (Int.tmod (rd l0 x8_1) 128)) * x7_1)))) (wrap64 (x7_1 * 128)) (wrap64 (x8_1 + 1))) else (if (Int.tmod (wrap64 (x6_1 + (wrap64 ((wrap64 (Int.tmod (rd l0 x8_1) 128)) * x7_1)))) 2) = 1 then ((impl_isNum.f (wrap64 (Int.tdiv (wrap64 (-(wrap64 ((wrap64 (x6_1 + (wrap64 ((wrap64 (Int.tmod (rd l0 x8_1) 128)) * x7_1)))) + 1)))) 2))).bind fun t202 => (if t202 = true then (if (rd l0 x8_1) = 0 then (if x8_1 > a1 then (some (0, (-1))) else (some (wrap64 (Int.tdiv (wrap64 (-(wrap64 ((wrap64 (x6_1 + (wrap64 ((wrap64 (Int.tmod (rd l0 x8_1) 128)) * x7_1)))) + 1)))) 2), wrap64 (x8_1 + 1)))) else (some (wrap64 (Int.tdiv (wrap64 (-(wrap64 ((wrap64 (x6_1 + (wrap64 ((wrap64 (Int.tmod (rd l0 x8_1) 128)) * x7_1)))) + 1)))) 2), wrap64 (x8_1 + 1)))) else (some (0, (-1))))) else ((impl_isNum.f (wrap64 (Int.tdiv (wrap64 (x6_1 + (wrap64 ((wrap64 (Int.tmod (rd l0 x8_1) 128)) * x7_1)))) 2))).bind fun t204 => (if t204 = true then (if (rd l0 x8_1) = 0 then (if x8_1 > a1 then (some (0, (-1))) else (some (wrap64 (Int.tdiv (wrap64 (x6_1 + (wrap64 ((wrap64 (Int.tmod (rd l0 x8_1) 128)) * x7_1)))) 2), wrap64 (x8_1 + 1)))) else (some (wrap64 (Int.tdiv (wrap64 (x6_1 + (wrap64 ((wrap64 (Int.tmod (rd l0 x8_1) 128)) * x7_1)))) 2), wrap64 (x8_1 + 1)))) else (some (0, (-1))))))) else (none)) else (none)) = some (r1, r2) := by rw [if_pos rfl] at H; exact H
       clear H
       have H := H1
       clear H1
       by_cases c7 : 0 ≤ x8_1
       ·rw [if_pos c7] at H
        have c7b0 : decide (0 ≤ x8_1) = true := decide_eq_true c7
        clear c7
        by_cases c8 : x8_1 < (l0.length : Int)
        ·rw [if_pos c8] at H
         have c8b0 : decide (x8_1 < (l0.length : Int)) = true := decide_eq_true c8
         clear c8
         by_cases c9 : (rd l0 x8_1) ≥ 128
         ·rw [if_pos c9] at H
          have c9b0 : decide (128 ≤ (rd l0 x8_1)) = true := decide_eq_true c9
          clear c9
          have H' := Aside0.mk H
          clear H
          have p200 : 0 ≤ (x8_1 : Int) := of_decide_eq_true (by assumption)
          have q200 : x8_1 < (l0.length : Int) := of_decide_eq_true (by assumption)
          obtain ⟨ad200, e200, hx200_0⟩ := Kd.at_int HR0.out x8_1 p200 q200
          cases e200
          replace p200 := eq_true p200
          replace q200 := eq_true q200
          have p201 : 0 ≤ (x8_1 : Int) := of_decide_eq_true (by assumption)
          have q201 : x8_1 < (l0.length : Int) := of_decide_eq_true (by assumption)
          obtain ⟨ad201, e201, hx201_0⟩ := Kd.at_int HR0.out x8_1 p201 q201
          obtain rfl : ad200 = ad201 := (by injection e201)
          replace p201 := eq_true p201
          replace q201 := eq_true q201
          go_wp2
          go_roundg kj3
          case measure => have := HK1.out; have := HJ3.out; omega
          case rel => exact ⟨(wrap64 (x6_1 + (wrap64 ((wrap64 (Int.tmod (rd l0 x8_1) 128)) * x7_1)))), (wrap64 (x7_1 * 128)), (wrap64 (x8_1 + 1)), rF, rF, rF, H', ⟨by have := HK1.out; have := HJ3.out; omega⟩, by repeat (first | exact Drawn0.refl _ | apply Drawn0.step)⟩
         ·rw [if_neg c9] at H
          have c9b0 : decide (128 ≤ (rd l0 x8_1)) = false := decide_eq_false c9
          clear c9
          by_cases c10 : (Int.tmod (wrap64 (x6_1 + (wrap64 ((wrap64 (Int.tmod (rd l0 x8_1) 128)) * x7_1)))) 2) = 1
          ·rw [if_pos c10] at H
           have c10b0 : ((Int.tmod (wrap64 (x6_1 + (wrap64 ((wrap64 (Int.tmod (rd l0 x8_1) 128)) * x7_1)))) 2) == 1) = true := beq_iff_eq.mpr c10
           have c10b1 : ((Int.tmod (wrap64 (x6_1 + (wrap64 ((wrap64 (Int.tmod (rd l0 x8_1) 128)) * x7_1)))) 2) != 1) = false := bne_eq_false_iff_eq.mpr c10
           clear c10
           replace H := Option.bind_eq_some_iff.mp H
           obtain ⟨t202, A110, H⟩ := H
           replace H : (if t202 = true then (if (rd l0 x8_1) = 0 then (if x8_1 > a1 then (some (0, (-1))) else (some (wrap64 (Int.tdiv (wrap64 (-(wrap64 ((wrap64 (x6_1 + (wrap64 ((wrap64 (Int.tmod (rd l0 x8_1) 128)) * x7_1)))) + 1)))) 2), wrap64 (x8_1 + 1)))) else (some (wrap64 (Int.tdiv (wrap64 (-(wrap64 ((wrap64 (x6_1 + (wrap64 ((wrap64 (Int.tmod (rd l0 x8_1) 128)) * x7_1)))) + 1)))) 2), wrap64 (x8_1 + 1)))) else (some (0, (-1)))) = some (r1, r2) := H
           have A11 := Aside0.mk A110
           clear A110
           by_cases c12 : t202 = true
           ·subst c12
            have H1 : (if (rd l0 x8_1) = 0 then (if x8_1 > a1 then (some (0, (-1))) else (some (wrap64 (Int.tdiv (wrap64 (-(wrap64 ((wrap64 (x6_1 + (wrap64 ((wrap64 (Int.tmod (rd l0 x8_1) 128)) * x7_1)))) + 1)))) 2), wrap64 (x8_1 + 1)))) else (some (wrap64 (Int.tdiv (wrap64 (-(wrap64 ((wrap64 (x6_1 + (wrap64 ((wrap64 (Int.tmod (rd l0 x8_1) 128)) * x7_1)))) + 1)))) 2), wrap64 (x8_1 + 1)))) = some (r1, r2) := by rw [if_pos rfl] at H; exact H
            clear H
            have H := H1
            clear H1
            by_cases c13 : (rd l0 x8_1) = 0
            ·rw [if_pos c13] at H
             have c13b0 : ((rd l0 x8_1) == 0) = true := beq_iff_eq.mpr c13
             have c13b1 : ((rd l0 x8_1) != 0) = false := bne_eq_false_iff_eq.mpr c13
             clear c13
             by_cases c14 : x8_1 > a1
             ·rw [if_pos c14] at H
              have c14b0 : decide (a1 < x8_1) = true := decide_eq_true c14
              clear c14
              simp only [Option.some.injEq, Prod.mk.injEq] at H
              obtain ⟨rfl, rfl⟩ := H
              have p200 : 0 ≤ (x8_1 : Int) := of_decide_eq_true (by assumption)
              have q200 : x8_1 < (l0.length : Int) := of_decide_eq_true (by assumption)
              obtain ⟨ad200, e200, hx200_0⟩ := Kd.at_int HR0.out x8_1 p200 q200
              cases e200
              replace p200 := eq_true p200
              replace q200 := eq_true q200
              have p201 : 0 ≤ (x8_1 : Int) := of_decide_eq_true (by assumption)
              have q201 : x8_1 < (l0.length : Int) := of_decide_eq_true (by assumption)
              obtain ⟨ad201, e201, hx201_0⟩ := Kd.at_int HR0.out x8_1 p201 q201
              obtain rfl : ad200 = ad201 := (by injection e201)
              replace p201 := eq_true p201
              replace q201 := eq_true q201
              go_wp2_with (first | ((with_reducible refine gate_callee (f := 69) rfl ?_); refine goesL_ (some 52) rfl rfl Try.func69 (by kernel_rfl) rfl #[.int .i64 (wrap64 (Int.tdiv (wrap64 (-(wrap64 ((wrap64 (x6_1 + (wrap64 ((wrap64 (Int.tmod (rd l0 x8_1) 128)) * x7_1)))) + 1)))) 2))] rfl aL ?_; (with_reducible refine (impl_isNum.calls (wrap64 (Int.tdiv (wrap64 (-(wrap64 ((wrap64 (x6_1 + (wrap64 ((wrap64 (Int.tmod (rd l0 x8_1) 128)) * x7_1)))) + 1)))) 2)) true _ A11.out).mono ?_); rintro e w' ⟨rfl, ⟨nd, rfl⟩⟩; refine ⟨_, rfl, ?_⟩; have p203 : 0 ≤ (x8_1 : Int) := of_decide_eq_true (by assumption); have q203 : x8_1 < (l0.length : Int) := of_decide_eq_true (by assumption); obtain ⟨ad203, e203, hx203_0⟩ := Kd.at_int HR0.out x8_1 p203 q203; obtain rfl : ad200 = ad203 := (by injection e203); replace p203 := eq_true p203; replace q203 := eq_true q203))
              go_ret2
              exact ⟨rF, by repeat (first | exact Drawn0.refl _ | apply Drawn0.step)⟩
             ·rw [if_neg c14] at H
              have c14b0 : decide (a1 < x8_1) = false := decide_eq_false c14
              clear c14
              simp only [Option.some.injEq, Prod.mk.injEq] at H
              obtain ⟨rfl, rfl⟩ := H
              have p200 : 0 ≤ (x8_1 : Int) := of_decide_eq_true (by assumption)
              have q200 : x8_1 < (l0.length : Int) := of_decide_eq_true (by assumption)
              obtain ⟨ad200, e200, hx200_0⟩ := Kd.at_int HR0.out x8_1 p200 q200
              cases e200
              replace p200 := eq_true p200
              replace q200 := eq_true q200
              have p201 : 0 ≤ (x8_1 : Int) := of_decide_eq_true (by assumption)
              have q201 : x8_1 < (l0.length : Int) := of_decide_eq_true (by assumption)
              obtain ⟨ad201, e201, hx201_0⟩ := Kd.at_int HR0.out x8_1 p201 q201
              obtain rfl : ad200 = ad201 := (by injection e201)
              replace p201 := eq_true p201
              replace q201 := eq_true q201
              go_wp2_with (first | ((with_reducible refine gate_callee (f := 69) rfl ?_); refine goesL_ (some 52) rfl rfl Try.func69 (by kernel_rfl) rfl #[.int .i64 (wrap64 (Int.tdiv (wrap64 (-(wrap64 ((wrap64 (x6_1 + (wrap64 ((wrap64 (Int.tmod (rd l0 x8_1) 128)) * x7_1)))) + 1)))) 2))] rfl aL ?_; (with_reducible refine (impl_isNum.calls (wrap64 (Int.tdiv (wrap64 (-(wrap64 ((wrap64 (x6_1 + (wrap64 ((wrap64 (Int.tmod (rd l0 x8_1) 128)) * x7_1)))) + 1)))) 2)) true _ A11.out).mono ?_); rintro e w' ⟨rfl, ⟨nd, rfl⟩⟩; refine ⟨_, rfl, ?_⟩; have p203 : 0 ≤ (x8_1 : Int) := of_decide_eq_true (by assumption); have q203 : x8_1 < (l0.length : Int) := of_decide_eq_true (by assumption); obtain ⟨ad203, e203, hx203_0⟩ := Kd.at_int HR0.out x8_1 p203 q203; obtain rfl : ad200 = ad203 := (by injection e203); replace p203 := eq_true p203; replace q203 := eq_true q203))
              go_ret2
              exact ⟨rF, by repeat (first | exact Drawn0.refl _ | apply Drawn0.step)⟩
            ·rw [if_neg c13] at H
             have c13b0 : ((rd l0 x8_1) == 0) = false := beq_eq_false_iff_ne.mpr c13
             have c13b1 : ((rd l0 x8_1) != 0) = true := bne_iff_ne.mpr c13
             simp only [Option.some.injEq, Prod.mk.injEq] at H
             obtain ⟨rfl, rfl⟩ := H
             have p200 : 0 ≤ (x8_1 : Int) := of_decide_eq_true (by assumption)
             have q200 : x8_1 < (l0.length : Int) := of_decide_eq_true (by assumption)
             obtain ⟨ad200, e200, hx200_0⟩ := Kd.at_int HR0.out x8_1 p200 q200
             cases e200
             replace p200 := eq_true p200
             replace q200 := eq_true q200
             have p201 : 0 ≤ (x8_1 : Int) := of_decide_eq_true (by assumption)
             have q201 : x8_1 < (l0.length : Int) := of_decide_eq_true (by assumption)
             obtain ⟨ad201, e201, hx201_0⟩ := Kd.at_int HR0.out x8_1 p201 q201
             obtain rfl : ad200 = ad201 := (by injection e201)
             replace p201 := eq_true p201
             replace q201 := eq_true q201
             go_wp2_with (first | ((with_reducible refine gate_callee (f := 69) rfl ?_); refine goesL_ (some 52) rfl rfl Try.func69 (by kernel_rfl) rfl #[.int .i64 (wrap64 (Int.tdiv (wrap64 (-(wrap64 ((wrap64 (x6_1 + (wrap64 ((wrap64 (Int.tmod (rd l0 x8_1) 128)) * x7_1)))) + 1)))) 2))] rfl aL ?_; (with_reducible refine (impl_isNum.calls (wrap64 (Int.tdiv (wrap64 (-(wrap64 ((wrap64 (x6_1 + (wrap64 ((wrap64 (Int.tmod (rd l0 x8_1) 128)) * x7_1)))) + 1)))) 2)) true _ A11.out).mono ?_); rintro e w' ⟨rfl, ⟨nd, rfl⟩⟩; refine ⟨_, rfl, ?_⟩; have p203 : 0 ≤ (x8_1 : Int) := of_decide_eq_true (by assumption); have q203 : x8_1 < (l0.length : Int) := of_decide_eq_true (by assumption); obtain ⟨ad203, e203, hx203_0⟩ := Kd.at_int HR0.out x8_1 p203 q203; obtain rfl : ad200 = ad203 := (by injection e203); replace p203 := eq_true p203; replace q203 := eq_true q203))
             go_ret2
             exact ⟨rF, by repeat (first | exact Drawn0.refl _ | apply Drawn0.step)⟩
           ·replace c12 := Bool.eq_false_iff.mpr c12
            subst c12
            have H1 : (some (0, (-1))) = some (r1, r2) := by rw [if_neg (show ¬ (false = true) by decide)] at H; exact H
            clear H
            have H := H1
            clear H1
            simp only [Option.some.injEq, Prod.mk.injEq] at H
            obtain ⟨rfl, rfl⟩ := H
            have p200 : 0 ≤ (x8_1 : Int) := of_decide_eq_true (by assumption)
            have q200 : x8_1 < (l0.length : Int) := of_decide_eq_true (by assumption)
            obtain ⟨ad200, e200, hx200_0⟩ := Kd.at_int HR0.out x8_1 p200 q200
            cases e200
            replace p200 := eq_true p200
            replace q200 := eq_true q200
            have p201 : 0 ≤ (x8_1 : Int) := of_decide_eq_true (by assumption)
            have q201 : x8_1 < (l0.length : Int) := of_decide_eq_true (by assumption)
            obtain ⟨ad201, e201, hx201_0⟩ := Kd.at_int HR0.out x8_1 p201 q201
            obtain rfl : ad200 = ad201 := (by injection e201)
            replace p201 := eq_true p201
            replace q201 := eq_true q201
            go_wp2_with (first | ((with_reducible refine gate_callee (f := 69) rfl ?_); refine goesL_ (some 52) rfl rfl Try.func69 (by kernel_rfl) rfl #[.int .i64 (wrap64 (Int.tdiv (wrap64 (-(wrap64 ((wrap64 (x6_1 + (wrap64 ((wrap64 (Int.tmod (rd l0 x8_1) 128)) * x7_1)))) + 1)))) 2))] rfl aL ?_; (with_reducible refine (impl_isNum.calls (wrap64 (Int.tdiv (wrap64 (-(wrap64 ((wrap64 (x6_1 + (wrap64 ((wrap64 (Int.tmod (rd l0 x8_1) 128)) * x7_1)))) + 1)))) 2)) false _ A11.out).mono ?_); rintro e w' ⟨rfl, ⟨nd, rfl⟩⟩; refine ⟨_, rfl, ?_⟩))
            go_ret2
            exact ⟨rF, by repeat (first | exact Drawn0.refl _ | apply Drawn0.step)⟩
          ·rw [if_neg c10] at H
           have c10b0 : ((Int.tmod (wrap64 (x6_1 + (wrap64 ((wrap64 (Int.tmod (rd l0 x8_1) 128)) * x7_1)))) 2) == 1) = false := beq_eq_false_iff_ne.mpr c10
           have c10b1 : ((Int.tmod (wrap64 (x6_1 + (wrap64 ((wrap64 (Int.tmod (rd l0 x8_1) 128)) * x7_1)))) 2) != 1) = true := bne_iff_ne.mpr c10
           replace H := Option.bind_eq_some_iff.mp H
           obtain ⟨t204, A150, H⟩ := H
           replace H : (if t204 = true then (if (rd l0 x8_1) = 0 then (if x8_1 > a1 then (some (0, (-1))) else (some (wrap64 (Int.tdiv (wrap64 (x6_1 + (wrap64 ((wrap64 (Int.tmod (rd l0 x8_1) 128)) * x7_1)))) 2), wrap64 (x8_1 + 1)))) else (some (wrap64 (Int.tdiv (wrap64 (x6_1 + (wrap64 ((wrap64 (Int.tmod (rd l0 x8_1) 128)) * x7_1)))) 2), wrap64 (x8_1 + 1)))) else (some (0, (-1)))) = some (r1, r2) := H
           have A15 := Aside0.mk A150
           clear A150
           by_cases c16 : t204 = true
           ·subst c16
            have H1 : (if (rd l0 x8_1) = 0 then (if x8_1 > a1 then (some (0, (-1))) else (some (wrap64 (Int.tdiv (wrap64 (x6_1 + (wrap64 ((wrap64 (Int.tmod (rd l0 x8_1) 128)) * x7_1)))) 2), wrap64 (x8_1 + 1)))) else (some (wrap64 (Int.tdiv (wrap64 (x6_1 + (wrap64 ((wrap64 (Int.tmod (rd l0 x8_1) 128)) * x7_1)))) 2), wrap64 (x8_1 + 1)))) = some (r1, r2) := by rw [if_pos rfl] at H; exact H
            clear H
            have H := H1
            clear H1
            by_cases c17 : (rd l0 x8_1) = 0
            ·rw [if_pos c17] at H
             have c17b0 : ((rd l0 x8_1) == 0) = true := beq_iff_eq.mpr c17
             have c17b1 : ((rd l0 x8_1) != 0) = false := bne_eq_false_iff_eq.mpr c17
             clear c17
             by_cases c18 : x8_1 > a1
             ·rw [if_pos c18] at H
              have c18b0 : decide (a1 < x8_1) = true := decide_eq_true c18
              clear c18
              simp only [Option.some.injEq, Prod.mk.injEq] at H
              obtain ⟨rfl, rfl⟩ := H
              have p200 : 0 ≤ (x8_1 : Int) := of_decide_eq_true (by assumption)
              have q200 : x8_1 < (l0.length : Int) := of_decide_eq_true (by assumption)
              obtain ⟨ad200, e200, hx200_0⟩ := Kd.at_int HR0.out x8_1 p200 q200
              cases e200
              replace p200 := eq_true p200
              replace q200 := eq_true q200
              have p201 : 0 ≤ (x8_1 : Int) := of_decide_eq_true (by assumption)
              have q201 : x8_1 < (l0.length : Int) := of_decide_eq_true (by assumption)
              obtain ⟨ad201, e201, hx201_0⟩ := Kd.at_int HR0.out x8_1 p201 q201
              obtain rfl : ad200 = ad201 := (by injection e201)
              replace p201 := eq_true p201
              replace q201 := eq_true q201
              go_wp2_with (first | ((with_reducible refine gate_callee (f := 69) rfl ?_); refine goesL_ (some 52) rfl rfl Try.func69 (by kernel_rfl) rfl #[.int .i64 (wrap64 (Int.tdiv (wrap64 (x6_1 + (wrap64 ((wrap64 (Int.tmod (rd l0 x8_1) 128)) * x7_1)))) 2))] rfl aL ?_; (with_reducible refine (impl_isNum.calls (wrap64 (Int.tdiv (wrap64 (x6_1 + (wrap64 ((wrap64 (Int.tmod (rd l0 x8_1) 128)) * x7_1)))) 2)) true _ A15.out).mono ?_); rintro e w' ⟨rfl, ⟨nd, rfl⟩⟩; refine ⟨_, rfl, ?_⟩; have p205 : 0 ≤ (x8_1 : Int) := of_decide_eq_true (by assumption); have q205 : x8_1 < (l0.length : Int) := of_decide_eq_true (by assumption); obtain ⟨ad205, e205, hx205_0⟩ := Kd.at_int HR0.out x8_1 p205 q205; obtain rfl : ad200 = ad205 := (by injection e205); replace p205 := eq_true p205; replace q205 := eq_true q205))
              go_ret2
              exact ⟨rF, by repeat (first | exact Drawn0.refl _ | apply Drawn0.step)⟩
             ·rw [if_neg c18] at H
              have c18b0 : decide (a1 < x8_1) = false := decide_eq_false c18
              clear c18
              simp only [Option.some.injEq, Prod.mk.injEq] at H
              obtain ⟨rfl, rfl⟩ := H
              have p200 : 0 ≤ (x8_1 : Int) := of_decide_eq_true (by assumption)
              have q200 : x8_1 < (l0.length : Int) := of_decide_eq_true (by assumption)
              obtain ⟨ad200, e200, hx200_0⟩ := Kd.at_int HR0.out x8_1 p200 q200
              cases e200
              replace p200 := eq_true p200
              replace q200 := eq_true q200
              have p201 : 0 ≤ (x8_1 : Int) := of_decide_eq_true (by assumption)
              have q201 : x8_1 < (l0.length : Int) := of_decide_eq_true (by assumption)
              obtain ⟨ad201, e201, hx201_0⟩ := Kd.at_int HR0.out x8_1 p201 q201
              obtain rfl : ad200 = ad201 := (by injection e201)
              replace p201 := eq_true p201
              replace q201 := eq_true q201
              go_wp2_with (first | ((with_reducible refine gate_callee (f := 69) rfl ?_); refine goesL_ (some 52) rfl rfl Try.func69 (by kernel_rfl) rfl #[.int .i64 (wrap64 (Int.tdiv (wrap64 (x6_1 + (wrap64 ((wrap64 (Int.tmod (rd l0 x8_1) 128)) * x7_1)))) 2))] rfl aL ?_; (with_reducible refine (impl_isNum.calls (wrap64 (Int.tdiv (wrap64 (x6_1 + (wrap64 ((wrap64 (Int.tmod (rd l0 x8_1) 128)) * x7_1)))) 2)) true _ A15.out).mono ?_); rintro e w' ⟨rfl, ⟨nd, rfl⟩⟩; refine ⟨_, rfl, ?_⟩; have p205 : 0 ≤ (x8_1 : Int) := of_decide_eq_true (by assumption); have q205 : x8_1 < (l0.length : Int) := of_decide_eq_true (by assumption); obtain ⟨ad205, e205, hx205_0⟩ := Kd.at_int HR0.out x8_1 p205 q205; obtain rfl : ad200 = ad205 := (by injection e205); replace p205 := eq_true p205; replace q205 := eq_true q205))
              go_ret2
              exact ⟨rF, by repeat (first | exact Drawn0.refl _ | apply Drawn0.step)⟩
            ·rw [if_neg c17] at H
             have c17b0 : ((rd l0 x8_1) == 0) = false := beq_eq_false_iff_ne.mpr c17
             have c17b1 : ((rd l0 x8_1) != 0) = true := bne_iff_ne.mpr c17
             simp only [Option.some.injEq, Prod.mk.injEq] at H
             obtain ⟨rfl, rfl⟩ := H
             have p200 : 0 ≤ (x8_1 : Int) := of_decide_eq_true (by assumption)
             have q200 : x8_1 < (l0.length : Int) := of_decide_eq_true (by assumption)
             obtain ⟨ad200, e200, hx200_0⟩ := Kd.at_int HR0.out x8_1 p200 q200
             cases e200
             replace p200 := eq_true p200
             replace q200 := eq_true q200
             have p201 : 0 ≤ (x8_1 : Int) := of_decide_eq_true (by assumption)
             have q201 : x8_1 < (l0.length : Int) := of_decide_eq_true (by assumption)
             obtain ⟨ad201, e201, hx201_0⟩ := Kd.at_int HR0.out x8_1 p201 q201
             obtain rfl : ad200 = ad201 := (by injection e201)
             replace p201 := eq_true p201
             replace q201 := eq_true q201
             go_wp2_with (first | ((with_reducible refine gate_callee (f := 69) rfl ?_); refine goesL_ (some 52) rfl rfl Try.func69 (by kernel_rfl) rfl #[.int .i64 (wrap64 (Int.tdiv (wrap64 (x6_1 + (wrap64 ((wrap64 (Int.tmod (rd l0 x8_1) 128)) * x7_1)))) 2))] rfl aL ?_; (with_reducible refine (impl_isNum.calls (wrap64 (Int.tdiv (wrap64 (x6_1 + (wrap64 ((wrap64 (Int.tmod (rd l0 x8_1) 128)) * x7_1)))) 2)) true _ A15.out).mono ?_); rintro e w' ⟨rfl, ⟨nd, rfl⟩⟩; refine ⟨_, rfl, ?_⟩; have p205 : 0 ≤ (x8_1 : Int) := of_decide_eq_true (by assumption); have q205 : x8_1 < (l0.length : Int) := of_decide_eq_true (by assumption); obtain ⟨ad205, e205, hx205_0⟩ := Kd.at_int HR0.out x8_1 p205 q205; obtain rfl : ad200 = ad205 := (by injection e205); replace p205 := eq_true p205; replace q205 := eq_true q205))
             go_ret2
             exact ⟨rF, by repeat (first | exact Drawn0.refl _ | apply Drawn0.step)⟩
           ·replace c16 := Bool.eq_false_iff.mpr c16
            subst c16
            have H1 : (some (0, (-1))) = some (r1, r2) := by rw [if_neg (show ¬ (false = true) by decide)] at H; exact H
            clear H
            have H := H1
            clear H1
            simp only [Option.some.injEq, Prod.mk.injEq] at H
            obtain ⟨rfl, rfl⟩ := H
            have p200 : 0 ≤ (x8_1 : Int) := of_decide_eq_true (by assumption)
            have q200 : x8_1 < (l0.length : Int) := of_decide_eq_true (by assumption)
            obtain ⟨ad200, e200, hx200_0⟩ := Kd.at_int HR0.out x8_1 p200 q200
            cases e200
            replace p200 := eq_true p200
            replace q200 := eq_true q200
            have p201 : 0 ≤ (x8_1 : Int) := of_decide_eq_true (by assumption)
            have q201 : x8_1 < (l0.length : Int) := of_decide_eq_true (by assumption)
            obtain ⟨ad201, e201, hx201_0⟩ := Kd.at_int HR0.out x8_1 p201 q201
            obtain rfl : ad200 = ad201 := (by injection e201)
            replace p201 := eq_true p201
            replace q201 := eq_true q201
            go_wp2_with (first | ((with_reducible refine gate_callee (f := 69) rfl ?_); refine goesL_ (some 52) rfl rfl Try.func69 (by kernel_rfl) rfl #[.int .i64 (wrap64 (Int.tdiv (wrap64 (x6_1 + (wrap64 ((wrap64 (Int.tmod (rd l0 x8_1) 128)) * x7_1)))) 2))] rfl aL ?_; (with_reducible refine (impl_isNum.calls (wrap64 (Int.tdiv (wrap64 (x6_1 + (wrap64 ((wrap64 (Int.tmod (rd l0 x8_1) 128)) * x7_1)))) 2)) false _ A15.out).mono ?_); rintro e w' ⟨rfl, ⟨nd, rfl⟩⟩; refine ⟨_, rfl, ?_⟩))
            go_ret2
            exact ⟨rF, by repeat (first | exact Drawn0.refl _ | apply Drawn0.step)⟩
        ·rw [if_neg c8] at H
         exact absurd H (by simp)
       ·rw [if_neg c7] at H
        exact absurd H (by simp)
      ·replace c6 := Bool.eq_false_iff.mpr c6
       subst c6
       have H1 : (some (0, (-1))) = some (r1, r2) := by rw [if_neg (show ¬ (false = true) by decide)] at H; exact H
       clear H
       have H := H1
       clear H1
       simp only [Option.some.injEq, Prod.mk.injEq] at H
       obtain ⟨rfl, rfl⟩ := H
       go_wp2
       go_ret2
       exact ⟨rF, by repeat (first | exact Drawn0.refl _ | apply Drawn0.step)⟩

/-! ### impl_TakeWord: function 102 -/
def impl_TakeWord.f (k : Nat) (l0 : List Int) (a1 : Int) : Option (ByteArray × Int) := (impl_TakeNum.f k l0 a1).bind fun bt206 => (if bt206.2 < 0 then (some ((⟨#[]⟩ : ByteArray), (-1))) else ((impl_in.f bt206.1 1 (wrap64 ((l0.length : Int) - bt206.2))).bind fun t208 => (if t208 = true then (if 0 ≤ bt206.2 then (if bt206.2 ≤ (wrap64 (bt206.2 + bt206.1)) then (if (wrap64 (bt206.2 + bt206.1)) ≤ (l0.length : Int) then ((impl_WordOk.f k (strOfNums ((l0.take ((wrap64 (bt206.2 + bt206.1)) : Int).toNat).drop (bt206.2 : Int).toNat))).bind fun t210 => (if t210 = true then (some (strOfNums ((l0.take ((wrap64 (bt206.2 + bt206.1)) : Int).toNat).drop (bt206.2 : Int).toNat), wrap64 (bt206.2 + bt206.1))) else (some ((⟨#[]⟩ : ByteArray), (-1))))) else (none)) else (none)) else (none)) else (some ((⟨#[]⟩ : ByteArray), (-1))))))
theorem impl_TakeWord.mono : ∀ a0 a1 k, LeO (impl_TakeWord.f k a0 a1) (impl_TakeWord.f (k + 1) a0 a1) := by
 intro a0 a1 k
 unfold impl_TakeWord.f
 repeat' first
   | (with_reducible exact impl_TakeNum.mono _ _ _)
   | (with_reducible exact impl_WordOk.mono _ _)
   | (with_reducible exact LeO.refl _)
   | (with_reducible exact LeO.none _)
   | (with_reducible refine LeO.ite ?_ ?_)
   | (with_reducible refine LeO.bind ?_ (fun _ => ?_))
   | exact impl_TakeNum.mono _ _ _
   | exact impl_WordOk.mono _ _
   | exact LeO.none _
   | refine LeO.ite ?_ ?_
   | refine LeO.bind ?_ (fun _ => ?_)
set_option maxHeartbeats 8000000 in
set_option maxRecDepth 100000 in
theorem impl_TakeWord.calls (k : Nat) (A0 : Option Addr) (c0 : Nat) (l0 : List Int) (a1 : Int) (r1 : ByteArray) (r2 : Int) (w : World) (hr0 : Kd.C (Kd.int .u8) w A0 l0.length l0) (hc0 : l0.length ≤ c0) (h : impl_TakeWord.f k l0 a1 = some (r1, r2)) :
  Calls Try.prog 102 #[.slice A0 l0.length c0, .int .i64 a1] w fun e w' => e = .returned (.tuple #[.string r1, .int .i64 r2]) ∧ Drawn0 w w' := by
 have HR0 := Aside0.mk hr0
 have HC0 := Aside0.mk hc0
 clear hr0 hc0
 have H : ((impl_TakeNum.f k l0 a1).bind fun bt206 => (if bt206.2 < 0 then (some ((⟨#[]⟩ : ByteArray), (-1))) else ((impl_in.f bt206.1 1 (wrap64 ((l0.length : Int) - bt206.2))).bind fun t208 => (if t208 = true then (if 0 ≤ bt206.2 then (if bt206.2 ≤ (wrap64 (bt206.2 + bt206.1)) then (if (wrap64 (bt206.2 + bt206.1)) ≤ (l0.length : Int) then ((impl_WordOk.f k (strOfNums ((l0.take ((wrap64 (bt206.2 + bt206.1)) : Int).toNat).drop (bt206.2 : Int).toNat))).bind fun t210 => (if t210 = true then (some (strOfNums ((l0.take ((wrap64 (bt206.2 + bt206.1)) : Int).toNat).drop (bt206.2 : Int).toNat), wrap64 (bt206.2 + bt206.1))) else (some ((⟨#[]⟩ : ByteArray), (-1))))) else (none)) else (none)) else (none)) else (some ((⟨#[]⟩ : ByteArray), (-1))))))) = some (r1, r2) := h
 clear h
 replace H := Option.bind_eq_some_iff.mp H
 obtain ⟨⟨t206, t207⟩, A30, H⟩ := H
 replace H : (if t207 < 0 then (some ((⟨#[]⟩ : ByteArray), (-1))) else ((impl_in.f t206 1 (wrap64 ((l0.length : Int) - t207))).bind fun t208 => (if t208 = true then (if 0 ≤ t207 then (if t207 ≤ (wrap64 (t207 + t206)) then (if (wrap64 (t207 + t206)) ≤ (l0.length : Int) then ((impl_WordOk.f k (strOfNums ((l0.take ((wrap64 (t207 + t206)) : Int).toNat).drop (t207 : Int).toNat))).bind fun t210 => (if t210 = true then (some (strOfNums ((l0.take ((wrap64 (t207 + t206)) : Int).toNat).drop (t207 : Int).toNat), wrap64 (t207 + t206))) else (some ((⟨#[]⟩ : ByteArray), (-1))))) else (none)) else (none)) else (none)) else (some ((⟨#[]⟩ : ByteArray), (-1)))))) = some (r1, r2) := H
 have A3 := Aside0.mk A30
 clear A30
 by_cases c4 : t207 < 0
 ·rw [if_pos c4] at H
  have c4b0 : decide (t207 < 0) = true := decide_eq_true c4
  clear c4
  simp only [Option.some.injEq, Prod.mk.injEq] at H
  obtain ⟨rfl, rfl⟩ := H
  go_enter Try.func102, Try.ntmps102
  go_wp2_with (first | ((with_reducible refine gate_callee (f := 101) rfl ?_); refine goesL_ (some 11) rfl rfl Try.func101 (by kernel_rfl) rfl #[.slice A0 l0.length c0, .int .i64 a1] rfl aL ?_; (with_reducible refine (impl_TakeNum.calls k _ _ l0 a1 t206 t207 _ ?side1 ?side2 A3.out).mono ?_); (case side1 => exact cA); (case side2 => exact HC0.out); rintro e w' ⟨rfl, ⟨nd, rfl⟩⟩; refine ⟨_, rfl, ?_⟩))
  go_ret2
  exact ⟨rF, by repeat (first | exact Drawn0.refl _ | apply Drawn0.step)⟩
 ·rw [if_neg c4] at H
  have c4b0 : decide (t207 < 0) = false := decide_eq_false c4
  clear c4
  replace H := Option.bind_eq_some_iff.mp H
  obtain ⟨t208, A50, H⟩ := H
  replace H : (if t208 = true then (if 0 ≤ t207 then (if t207 ≤ (wrap64 (t207 + t206)) then (if (wrap64 (t207 + t206)) ≤ (l0.length : Int) then ((impl_WordOk.f k (strOfNums ((l0.take ((wrap64 (t207 + t206)) : Int).toNat).drop (t207 : Int).toNat))).bind fun t210 => (if t210 = true then (some (strOfNums ((l0.take ((wrap64 (t207 + t206)) : Int).toNat).drop (t207 : Int).toNat), wrap64 (t207 + t206))) else (some ((⟨#[]⟩ : ByteArray), (-1))))) else (none)) else (none)) else (none)) else (some ((⟨#[]⟩ : ByteArray), (-1)))) = some (r1, r2) := H
  have A5 := Aside0.mk A50
  clear A50
  by_cases c6 : t208 = true
  ·subst c6
   have H1 : (if 0 ≤ t207 then (if t207 ≤ (wrap64 (t207 + t206)) then (if (wrap64 (t207 + t206)) ≤ (l0.length : Int) then ((impl_WordOk.f k (strOfNums ((l0.take ((wrap64 (t207 + t206)) : Int).toNat).drop (t207 : Int).toNat))).bind fun t210 => (if t210 = true then (some (strOfNums ((l0.take ((wrap64 (t207 + t206)) : Int).toNat).drop (t207 : Int).toNat), wrap64 (t207 + t206))) else (some ((⟨#[]⟩ : ByteArray), (-1))))) else (none)) else (none)) else (none)) = some (r1, r2) := by rw [if_pos rfl] at H; exact H
   clear H
   have H := H1
   clear H1
   by_cases c7 : 0 ≤ t207
   ·rw [if_pos c7] at H
    have c7b0 := eq_true c7
    have c7b1 : decide (0 ≤ t207) = true := decide_eq_true c7
    clear c7
    by_cases c8 : t207 ≤ (wrap64 (t207 + t206))
    ·rw [if_pos c8] at H
     have c8b0 := eq_true c8
     have c8b1 : decide (t207 ≤ (wrap64 (t207 + t206))) = true := decide_eq_true c8
     by_cases c9 : (wrap64 (t207 + t206)) ≤ (l0.length : Int)
     ·rw [if_pos c9] at H
      have c9b0 := eq_true c9
      have c9b1 : decide ((wrap64 (t207 + t206)) ≤ (l0.length : Int)) = true := decide_eq_true c9
      replace H := Option.bind_eq_some_iff.mp H
      obtain ⟨t210, A100, H⟩ := H
      replace H : (if t210 = true then (some (strOfNums ((l0.take ((wrap64 (t207 + t206)) : Int).toNat).drop (t207 : Int).toNat), wrap64 (t207 + t206))) else (some ((⟨#[]⟩ : ByteArray), (-1)))) = some (r1, r2) := H
      have A10 := Aside0.mk A100
      clear A100
      by_cases c11 : t210 = true
      ·subst c11
       have H1 : (some (strOfNums ((l0.take ((wrap64 (t207 + t206)) : Int).toNat).drop (t207 : Int).toNat), wrap64 (t207 + t206))) = some (r1, r2) := by rw [if_pos rfl] at H; exact H
       clear H
       have H := H1
       clear H1
       have c12b0 := eq_true (of_decide_eq_true (by assumption) : 0 ≤ t207)
       have c13b0 := eq_true (of_decide_eq_true (by assumption) : t207 ≤ (wrap64 (t207 + t206)))
       have c14b0 := eq_true (of_decide_eq_true (by assumption) : (wrap64 (t207 + t206)) ≤ (l0.length : Int))
       simp only [Option.some.injEq, Prod.mk.injEq] at H
       obtain ⟨rfl, rfl⟩ := H
       go_enter Try.func102, Try.ntmps102
       go_wp2_with (first | ((with_reducible refine gate_callee (f := 101) rfl ?_); refine goesL_ (some 11) rfl rfl Try.func101 (by kernel_rfl) rfl #[.slice A0 l0.length c0, .int .i64 a1] rfl aL ?_; (with_reducible refine (impl_TakeNum.calls k _ _ l0 a1 t206 t207 _ ?side1 ?side2 A3.out).mono ?_); (case side1 => exact cA); (case side2 => exact HC0.out); rintro e w' ⟨rfl, ⟨nd, rfl⟩⟩; refine ⟨_, rfl, ?_⟩) | (go_at_call 67; (with_reducible refine (impl_in.calls t206 1 (wrap64 ((l0.length : Int) - t207)) true _ A5.out).mono ?_); rintro e w' ⟨rfl, ⟨nd, rfl⟩⟩; obtain ⟨i015, hi015, _, hsz15, _⟩ := info_parts info5; obtain ⟨A15, hcut15, hA15, hC15⟩ := print_mid_of (P := Try.prog) (Value.int .u8) 0 49 5 .i64 .i64 Try.underlying49 hi015 hsz15 A0 c0 l0 t207 (wrap64 (t207 + t206)) (of_decide_eq_true (by assumption)) (by first | omega | exact of_decide_eq_true (by assumption)) (of_decide_eq_true (by assumption)) HC0.out; have HR209 := Aside0.mk (Kd.C_of_reads (h1 := fun _ => rfl) (hA15 _ (Kd.reads_of_C HR0.out))); have HC209 := Aside0.mk hC15; clear hA15 hC15 hi015 hsz15; have hcv16 := Kd.C_string (P := Try.prog) (A := A15) (c := (c0 - t207.toNat)) Try.underlying49 Try.underlying5 Try.underlying9 HR209.out; (try (have hcw16 := fun m_ => Kd.C_string (P := Try.prog) (A := A15) (c := (c0 - t207.toNat)) Try.underlying49 Try.underlying5 Try.underlying9 (Kd.C_drewN HR209.out m_); (try (have hcx_ := hcw16; simp only [List.length_drop, List.length_take] at hcx_; rw [Nat.min_eq_left (by first | omega | ((try simp only [eq_iff_iff, iff_true] at *); omega))] at hcx_; have hcy16 := hcx_; clear hcx_))))) | (go_at_call 65; (with_reducible refine (impl_WordOk.calls k (strOfNums ((l0.take ((wrap64 (t207 + t206)) : Int).toNat).drop (t207 : Int).toNat)) true _ A10.out).mono ?_); rintro e w' ⟨rfl, ⟨nd, rfl⟩⟩; obtain ⟨i017, hi017, _, hsz17, _⟩ := info_parts info5; obtain ⟨A17, hcut17, hA17, hC17⟩ := print_mid_of (P := Try.prog) (Value.int .u8) 0 49 5 .i64 .i64 Try.underlying49 hi017 hsz17 A0 c0 l0 t207 (wrap64 (t207 + t206)) (of_decide_eq_true (by assumption)) (by first | omega | exact of_decide_eq_true (by assumption)) (of_decide_eq_true (by assumption)) HC0.out; have HR211 := Aside0.mk (Kd.C_of_reads (h1 := fun _ => rfl) (hA17 _ (Kd.reads_of_C HR0.out))); have HC211 := Aside0.mk hC17; clear hA17 hC17 hi017 hsz17; have hcv18 := Kd.C_string (P := Try.prog) (A := A17) (c := (c0 - t207.toNat)) Try.underlying49 Try.underlying5 Try.underlying9 HR211.out; (try (have hcw18 := fun m_ => Kd.C_string (P := Try.prog) (A := A17) (c := (c0 - t207.toNat)) Try.underlying49 Try.underlying5 Try.underlying9 (Kd.C_drewN HR211.out m_); (try (have hcx_ := hcw18; simp only [List.length_drop, List.length_take] at hcx_; rw [Nat.min_eq_left (by first | omega | ((try simp only [eq_iff_iff, iff_true] at *); omega))] at hcx_; have hcy18 := hcx_; clear hcx_))))))
       go_ret2
       exact ⟨rF, by repeat (first | exact Drawn0.refl _ | apply Drawn0.step)⟩
      ·replace c11 := Bool.eq_false_iff.mpr c11
       subst c11
       have H1 : (some ((⟨#[]⟩ : ByteArray), (-1))) = some (r1, r2) := by rw [if_neg (show ¬ (false = true) by decide)] at H; exact H
       clear H
       have H := H1
       clear H1
       simp only [Option.some.injEq, Prod.mk.injEq] at H
       obtain ⟨rfl, rfl⟩ := H
       go_enter Try.func102, Try.ntmps102
       go_wp2_with (first | ((with_reducible refine gate_callee (f := 101) rfl ?_); refine goesL_ (some 11) rfl rfl Try.func101 (by kernel_rfl) rfl #[.slice A0 l0.length c0, .int .i64 a1] rfl aL ?_; (with_reducible refine (impl_TakeNum.calls k _ _ l0 a1 t206 t207 _ ?side1 ?side2 A3.out).mono ?_); (case side1 => exact cA); (case side2 => exact HC0.out); rintro e w' ⟨rfl, ⟨nd, rfl⟩⟩; refine ⟨_, rfl, ?_⟩) | (go_at_call 67; (with_reducible refine (impl_in.calls t206 1 (wrap64 ((l0.length : Int) - t207)) true _ A5.out).mono ?_); rintro e w' ⟨rfl, ⟨nd, rfl⟩⟩; obtain ⟨i019, hi019, _, hsz19, _⟩ := info_parts info5; obtain ⟨A19, hcut19, hA19, hC19⟩ := print_mid_of (P := Try.prog) (Value.int .u8) 0 49 5 .i64 .i64 Try.underlying49 hi019 hsz19 A0 c0 l0 t207 (wrap64 (t207 + t206)) (of_decide_eq_true (by assumption)) (by first | omega | exact of_decide_eq_true (by assumption)) (of_decide_eq_true (by assumption)) HC0.out; have HR209 := Aside0.mk (Kd.C_of_reads (h1 := fun _ => rfl) (hA19 _ (Kd.reads_of_C HR0.out))); have HC209 := Aside0.mk hC19; clear hA19 hC19 hi019 hsz19; have hcv20 := Kd.C_string (P := Try.prog) (A := A19) (c := (c0 - t207.toNat)) Try.underlying49 Try.underlying5 Try.underlying9 HR209.out; (try (have hcw20 := fun m_ => Kd.C_string (P := Try.prog) (A := A19) (c := (c0 - t207.toNat)) Try.underlying49 Try.underlying5 Try.underlying9 (Kd.C_drewN HR209.out m_); (try (have hcx_ := hcw20; simp only [List.length_drop, List.length_take] at hcx_; rw [Nat.min_eq_left (by first | omega | ((try simp only [eq_iff_iff, iff_true] at *); omega))] at hcx_; have hcy20 := hcx_; clear hcx_))))) | (go_at_call 65; (with_reducible refine (impl_WordOk.calls k (strOfNums ((l0.take ((wrap64 (t207 + t206)) : Int).toNat).drop (t207 : Int).toNat)) false _ A10.out).mono ?_); rintro e w' ⟨rfl, ⟨nd, rfl⟩⟩))
       go_ret2
       exact ⟨rF, by repeat (first | exact Drawn0.refl _ | apply Drawn0.step)⟩
     ·rw [if_neg c9] at H
      exact absurd H (by simp)
    ·rw [if_neg c8] at H
     exact absurd H (by simp)
   ·rw [if_neg c7] at H
    exact absurd H (by simp)
  ·replace c6 := Bool.eq_false_iff.mpr c6
   subst c6
   have H1 : (some ((⟨#[]⟩ : ByteArray), (-1))) = some (r1, r2) := by rw [if_neg (show ¬ (false = true) by decide)] at H; exact H
   clear H
   have H := H1
   clear H1
   simp only [Option.some.injEq, Prod.mk.injEq] at H
   obtain ⟨rfl, rfl⟩ := H
   go_enter Try.func102, Try.ntmps102
   go_wp2_with (first | ((with_reducible refine gate_callee (f := 101) rfl ?_); refine goesL_ (some 11) rfl rfl Try.func101 (by kernel_rfl) rfl #[.slice A0 l0.length c0, .int .i64 a1] rfl aL ?_; (with_reducible refine (impl_TakeNum.calls k _ _ l0 a1 t206 t207 _ ?side1 ?side2 A3.out).mono ?_); (case side1 => exact cA); (case side2 => exact HC0.out); rintro e w' ⟨rfl, ⟨nd, rfl⟩⟩; refine ⟨_, rfl, ?_⟩) | (go_at_call 67; (with_reducible refine (impl_in.calls t206 1 (wrap64 ((l0.length : Int) - t207)) false _ A5.out).mono ?_); rintro e w' ⟨rfl, ⟨nd, rfl⟩⟩))
   go_ret2
   exact ⟨rF, by repeat (first | exact Drawn0.refl _ | apply Drawn0.step)⟩

end Go.Proofs.Ytmjfnkebpdmhbaa.Q
