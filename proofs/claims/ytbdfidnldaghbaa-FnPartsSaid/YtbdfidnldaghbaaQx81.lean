/- The draws, told by what they may give: where the cursor stands, how great what is drawn may be. -/
import Derived.Test.YtbdfidnldaghbaaDp
namespace Go.Proofs.Ytbdfidnldaghbaa.Q
open Go.RowKit Go.Proofs.Ytbdfidnldaghbaa.Own Go.Proofs.YtbdfidnldaghbaaW.PrintWords Go.Proofs.YtbdfidnldaghbaaW.PrintLast Go.Proofs.YtbdfidnldaghbaaW.PrintMore Go.Proofs.Ytbdfidnldaghbaa.Dp Go.Proofs.Ytbdfidnldaghbaa.Lib
set_option linter.unusedVariables false
set_option linter.unusedSimpArgs false
/-! ### the draws, told by what they may give -/
/-- The cursor is there. -/
structure DC (w0 W : World) (g : Nat) : Prop where
  cur : ∃ (b : List Int) (i h : Int), IsS98 w0 W g b i h ∧ 0 ≤ i ∧ b.length ≤ 1099511627776
  hb : Below w0.heap.size w0 W
/-- .. and of what there was at w nothing but the cursor has turned. -/
structure DW (w0 w W : World) (g : Nat) : Prop where
  dc : DC w0 W g
  hk : KeepBut w W g none
  lt : g < w.heap.size
/-- A list of nodes that was drawn: its blocks lie below T, and none is the cursor's. -/
def RN (W : World) (g T : Nat) (v : Value) (p : List S58) : Prop := ∃ B, g < B ∧ T ≤ W.heap.size ∧ Kd.S k58 58 W B (fun k => B ≤ k ∧ k < T) v p
section
variable {w0 w W W1 : World} {g T gb : Nat} {v : Value} {p : List S58} {row : Option Nat}
theorem DC.lt (h : DC w0 W g) : g < W.heap.size := by obtain ⟨_, _, _, hI, _⟩ := h.cur; exact hI.lt
theorem DC.ge (h : DC w0 W g) : w0.heap.size ≤ g := by obtain ⟨_, _, _, hI, _⟩ := h.cur; exact hI.ge
theorem DC.below (h : DC w0 W g) (hb : Below W.heap.size W W1) : DC w0 W1 g := by
  obtain ⟨⟨b, i, hh, hI, hi, hl⟩, hB⟩ := h
  exact ⟨⟨b, i, hh, hI.below hb, hi, hl⟩, below_weaken hB hB.size hb⟩
theorem DC.far (h : DC w0 W g) (hne : g ≠ gb) (hge : w0.heap.size ≤ gb) (j : Nat) (u : Value) : DC w0 (W.setCell ⟨gb, j, none⟩ u) g := by
  obtain ⟨⟨b, i, hh, hI, hi, hl⟩, hB⟩ := h
  exact ⟨⟨b, i, hh, hI.far (p := ⟨gb, j, none⟩) hne u, hi, hl⟩, below_set hB hge⟩
theorem DC.grown (h : DC w0 W g) (hg : W.grownBy W1 row) (hr : ∀ k, row = some k → g < k) : DC w0 W1 g := by
  have hge := h.ge
  obtain ⟨⟨b, i, hh, hI, hi, hl⟩, hB⟩ := h
  exact ⟨⟨b, i, hh, hI.grown hg (fun e => by have := hr g e.symm; omega), hi, hl⟩, hB.grown hg hB.size (fun k hk => by have := hr k hk; omega)⟩
theorem DW.below (h : DW w0 w W g) (hb : Below W.heap.size W W1) : DW w0 w W1 g := ⟨h.dc.below hb, h.hk.trans (KeepBut.of_below hb g none) (.inl rfl), h.lt⟩
theorem DW.step (h : DW w0 w W g) (hd : DC w0 W1 g) (hk : KeepBut W W1 g none) : DW w0 w W1 g := ⟨hd, h.hk.trans hk (.inl rfl), h.lt⟩
theorem DW.alloc (h : DW w0 w W g) (o : Obj) : DW w0 w (W.alloc o) g := h.below (below_alloc (Below.refl _ _) o)
theorem DW.drew (h : DW w0 w W g) : DW w0 w W.drew g := h.below (below_drew (Below.refl _ _))
theorem DW.drewN (h : DW w0 w W g) (m : Nat) : DW w0 w (W.drewN m) g := h.below (pw_below_drewN (Below.refl _ _) m)
theorem DW.size (h : DW w0 w W g) : w.heap.size ≤ W.heap.size := h.hk.1
theorem DW.glt (h : DW w0 w W g) : g < W.heap.size := Nat.lt_of_lt_of_le h.lt h.hk.1
theorem DW.far (h : DW w0 w W g) (hge : w.heap.size ≤ gb) (j : Nat) (u : Value) : DW w0 w (W.setCell ⟨gb, j, none⟩ u) g := by
  have h1 := h.lt
  have h2 := h.dc.ge
  exact ⟨h.dc.far (by omega) (by omega) j u, keep_far (p := ⟨gb, j, none⟩) h.hk hge u, h.lt⟩
theorem DW.grown (h : DW w0 w W g) (hg : W.grownBy W1 row) (hr : ∀ k, row = some k → w.heap.size ≤ k) : DW w0 w W1 g := by
  have h1 := h.lt
  refine ⟨h.dc.grown hg (fun k hk => by have := hr k hk; omega), h.hk.trans (KeepBut.of_grown hg g) ?_, h.lt⟩
  cases row with
  | none => exact .inl rfl
  | some k => exact .inr ⟨k, rfl, hr k rfl⟩
theorem DW.ne (h : DW w0 w W g) (hg : gb = W.heap.size) : gb ≠ g := by have := h.glt; omega
theorem RN.of {B : Nat} (h : Kd.S k58 58 W B (fun _ => True) v p) (hg : g < B) : RN W g W.heap.size v p := ⟨B, hg, Nat.le_refl _, Kd.S_mono (Kd.S_bound h) (fun k hk => ⟨hk.2.1, hk.2.2.1⟩)⟩
theorem RN.step (h : RN W g T v p) (hs : W.heap.size ≤ W1.heap.size) (hm : ∀ k, k ≠ g → k < T → W1.heap[k]? = W.heap[k]?) : RN W1 g T v p := by
  obtain ⟨B, hg, hT, h⟩ := h
  exact ⟨B, hg, Nat.le_trans hT hs, Kd.S_move h (fun k hk => hm k (by omega) hk.2)⟩
theorem RN.keep (h : RN W g T v p) (hk : KeepBut W W1 g none) : RN W1 g T v p := h.step hk.1 (fun k h1 h2 => hk.2 k (by obtain ⟨_, _, hT, _⟩ := h; omega) h1 (by simp))
theorem RN.below (h : RN W g T v p) (hb : Below W.heap.size W W1) : RN W1 g T v p := h.keep (KeepBut.of_below hb g none)
theorem RN.alloc (h : RN W g T v p) (o : Obj) : RN (W.alloc o) g T v p := h.below (below_alloc (Below.refl _ _) o)
theorem RN.drew (h : RN W g T v p) : RN W.drew g T v p := h.below (below_drew (Below.refl _ _))
theorem RN.drewN (h : RN W g T v p) (m : Nat) : RN (W.drewN m) g T v p := h.below (pw_below_drewN (Below.refl _ _) m)
theorem RN.fars (h : RN W g T v p) (hT : T ≤ gb) (vs : List Value) (o : Nat) : RN (W.setCells gb o vs) g T v p :=
  h.step (by rw [(setCells_same gb vs o W).2.2.2]; exact Nat.le_refl _) (fun k _ h2 => setCells_far vs o k (by omega))
theorem RN.grown (h : RN W g T v p) (hg : W.grownBy W1 row) (hr : ∀ k, row = some k → T ≤ k) : RN W1 g T v p :=
  h.step hg.size (fun k _ h2 => hg.block k (by obtain ⟨_, _, hT, _⟩ := h; omega) (fun e => by have := hr k e.symm; omega))
theorem RN.le (h : RN W g T v p) : T ≤ W.heap.size := by obtain ⟨_, _, hT, _⟩ := h; exact hT
theorem RN.slice (h : RN W g T v p) : ∃ A c, v = .slice A p.length c := by obtain ⟨_, _, _, h⟩ := h; exact Kd.S_slice h
/-- A slice value and the list that is read from it. -/
def LS (W : World) (s : Value) (l : List S58) : Prop := ∃ A c, s = .slice A l.length c ∧ l.length ≤ c ∧ Kd.C k58 W A l.length l
theorem RN.ls (h : RN W g T v p) : LS W v p := by obtain ⟨_, _, _, h⟩ := h; exact Kd.S_reads h
end
theorem DW.fars {w0 w : World} {g gb : Nat} (hge : w.heap.size ≤ gb) : ∀ (vs : List Value) (o : Nat) {W : World}, DW w0 w W g → DW w0 w (W.setCells gb o vs) g
  | [], _, _, h => h
  | u :: vs, o, _, h => DW.fars hge vs (o + 1) (h.far hge o u)
-- what is known now, told at the world that is asked for (the tactics name the hypotheses of the place of use)
theorem wD {w0 w W : World} {g : Nat} (h : DW w0 w W g := by (with_reducible repeat (first | apply DW.alloc | apply DW.drewN | apply DW.drew)); exact HW.out) : DW w0 w W g := h
theorem rNa {W : World} {g T : Nat} {v : Value} {p : List S58} (h : RN W g T v p := by (with_reducible repeat (first | apply RN.alloc | apply RN.drewN | apply RN.drew)); exact Ra.out) : RN W g T v p := h
theorem rNb {W : World} {g T : Nat} {v : Value} {p : List S58} (h : RN W g T v p := by (with_reducible repeat (first | apply RN.alloc | apply RN.drewN | apply RN.drew)); exact Rb.out) : RN W g T v p := h
theorem rNx {W : World} {g T : Nat} {v : Value} {p : List S58} (h : RN W g T v p := by (with_reducible repeat (first | apply RN.alloc | apply RN.drewN | apply RN.drew)); exact Rx.out) : RN W g T v p := h
theorem rNy {W : World} {g T : Nat} {v : Value} {p : List S58} (h : RN W g T v p := by (with_reducible repeat (first | apply RN.alloc | apply RN.drewN | apply RN.drew)); exact Ry.out) : RN W g T v p := h
theorem rNp {W : World} {g T : Nat} {v : Value} {p : List S58} (h : RN W g T v p := by (with_reducible repeat (first | apply RN.alloc | apply RN.drewN | apply RN.drew)); exact Rp.out) : RN W g T v p := h
theorem bBk {W : World} {g : Nat} {o : Obj} (h : W.heap[g]? = some o := by (with_reducible repeat (first | refine blk_drewN ?_ _ | refine blk_drew ?_ | refine blk_alloc ?_ _)); exact Bk.out) : W.heap[g]? = some o := h
theorem bBa {W : World} {g : Nat} {o : Obj} (h : W.heap[g]? = some o := by (with_reducible repeat (first | refine blk_drewN ?_ _ | refine blk_drew ?_ | refine blk_alloc ?_ _)); exact Ba.out) : W.heap[g]? = some o := h
theorem bBb {W : World} {g : Nat} {o : Obj} (h : W.heap[g]? = some o := by (with_reducible repeat (first | refine blk_drewN ?_ _ | refine blk_drew ?_ | refine blk_alloc ?_ _)); exact Bb.out) : W.heap[g]? = some o := h
theorem bBe {W : World} {g : Nat} {o : Obj} (h : W.heap[g]? = some o := by (with_reducible repeat (first | refine blk_drewN ?_ _ | refine blk_drew ?_ | refine blk_alloc ?_ _)); exact Be.out) : W.heap[g]? = some o := h
theorem bBn {W : World} {g : Nat} {o : Obj} (h : W.heap[g]? = some o := by (with_reducible repeat (first | refine blk_drewN ?_ _ | refine blk_drew ?_ | refine blk_alloc ?_ _)); exact Bn.out) : W.heap[g]? = some o := h
theorem bBo {W : World} {g : Nat} {o : Obj} (h : W.heap[g]? = some o := by (with_reducible repeat (first | refine blk_drewN ?_ _ | refine blk_drew ?_ | refine blk_alloc ?_ _)); exact Bo.out) : W.heap[g]? = some o := h
theorem bBca {W : World} {g : Nat} {o : Obj} (h : W.heap[g]? = some o := by (with_reducible repeat (first | refine blk_drewN ?_ _ | refine blk_drew ?_ | refine blk_alloc ?_ _)); exact Bca.out) : W.heap[g]? = some o := h
theorem bBna {W : World} {g : Nat} {o : Obj} (h : W.heap[g]? = some o := by (with_reducible repeat (first | refine blk_drewN ?_ _ | refine blk_drew ?_ | refine blk_alloc ?_ _)); exact Bna.out) : W.heap[g]? = some o := h
theorem bBma {W : World} {g : Nat} {o : Obj} (h : W.heap[g]? = some o := by (with_reducible repeat (first | refine blk_drewN ?_ _ | refine blk_drew ?_ | refine blk_alloc ?_ _)); exact Bma.out) : W.heap[g]? = some o := h
theorem bBcb {W : World} {g : Nat} {o : Obj} (h : W.heap[g]? = some o := by (with_reducible repeat (first | refine blk_drewN ?_ _ | refine blk_drew ?_ | refine blk_alloc ?_ _)); exact Bcb.out) : W.heap[g]? = some o := h
theorem bBnb {W : World} {g : Nat} {o : Obj} (h : W.heap[g]? = some o := by (with_reducible repeat (first | refine blk_drewN ?_ _ | refine blk_drew ?_ | refine blk_alloc ?_ _)); exact Bnb.out) : W.heap[g]? = some o := h
theorem bBmb {W : World} {g : Nat} {o : Obj} (h : W.heap[g]? = some o := by (with_reducible repeat (first | refine blk_drewN ?_ _ | refine blk_drew ?_ | refine blk_alloc ?_ _)); exact Bmb.out) : W.heap[g]? = some o := h
theorem C_cells {α : Type} (d : Kd α) {W : World} {gb t : Nat} {cs : Array Value} (xs : List α) (h : W.heap[gb]? = some (.cells cs t (0, 0))) (hl : xs.length ≤ 9223372036854775807) (hs : 0 < d.sz) (hr : Reps (d.K W) d.sz xs cs.toList) : Kd.C d W (some ⟨gb, 0, none⟩) xs.length xs := by
  refine ⟨rfl, hl, fun _ => ⟨_, rfl, fun j p hj => ⟨(cs.toList.drop (j * d.sz)).take d.sz, ?_, hr.2 j p hj, fun i u hi => ?_⟩⟩⟩
  · exact d.K_len (hr.2 j p hj)
  · rw [add_plain, cell_of_row W gb _ cs t (0, 0) h]
    rw [List.getElem?_take] at hi
    split at hi
    · rw [List.getElem?_drop] at hi
      simpa using hi
    · cases hi
theorem C_ints {W : World} {gb t : Nat} {cs : Array Value} (l : List Int) (h : W.heap[gb]? = some (.cells cs t (0, 0))) (e : cs.toList = l.map (fun x => Value.int .i64 x)) (hl : l.length ≤ 9223372036854775807) : Kd.C (Kd.int .i64) W (some ⟨gb, 0, none⟩) l.length l := by
  refine C_cells (Kd.int .i64) l h hl Nat.one_pos ⟨?_, fun j p hj => ?_⟩
  · rw [e, List.length_map]; exact (Nat.mul_one _).symm
  · have hl2 : j < l.length := (List.getElem?_eq_some_iff.1 hj).1
    rw [e]
    show ((l.map (fun x => Value.int .i64 x)).drop (j * 1)).take 1 = [Value.int .i64 p]
    rw [Nat.mul_one, ← List.map_drop, List.drop_eq_getElem_cons hl2]
    rw [List.getElem?_eq_getElem hl2] at hj
    injection hj with hj
    simp [hj]
theorem C_lists {W : World} {gb t : Nat} {cs : Array Value} (ls : List (List S58)) (h : W.heap[gb]? = some (.cells cs t (0, 0))) (hl : ls.length ≤ 9223372036854775807) (hn : cs.toList.length = ls.length) (hs : ∀ (j : Nat) (s : Value) (l : List S58), cs.toList[j]? = some s → ls[j]? = some l → LS W s l) : Kd.C (Kd.slice 58 k58) W (some ⟨gb, 0, none⟩) ls.length ls := by
  refine C_cells (Kd.slice 58 k58) ls h hl Nat.one_pos ⟨by rw [hn]; exact (Nat.mul_one _).symm, fun j p hj => ?_⟩
  have hl2 : j < ls.length := (List.getElem?_eq_some_iff.1 hj).1
  have hl3 : j < cs.toList.length := by rw [hn]; exact hl2
  obtain ⟨A, c, e, hc, hC⟩ := hs j _ _ (List.getElem?_eq_getElem hl3) (List.getElem?_eq_getElem hl2)
  rw [List.getElem?_eq_getElem hl2] at hj
  injection hj with hj
  show ∃ A c, (cs.toList.drop (j * 1)).take 1 = [.slice A p.length c] ∧ p.length ≤ c ∧ Kd.C k58 W A p.length p
  refine ⟨A, c, ?_, ?_, ?_⟩
  · rw [Nat.mul_one, List.drop_eq_getElem_cons hl3]
    have : cs.toList[j] = .slice A (ls[j]).length c := e
    rw [this, hj]; rfl
  · rw [← hj]; exact hc
  · rw [← hj]; exact hC
theorem C_lists2 {W : World} {gb t : Nat} {s1 s2 : Value} (a b : List S58) (h : W.heap[gb]? = some (.cells #[s1, s2] t (0, 0))) (h1 : LS W s1 a) (h2 : LS W s2 b) : Kd.C (Kd.slice 58 k58) W (some ⟨gb, 0, none⟩) 2 [a, b] := by
  refine C_lists [a, b] h (by simp) rfl (fun j s l hs hl => ?_)
  match j, hs, hl with
  | 0, hs, hl => obtain rfl : s1 = s := by simpa using hs
                 obtain rfl : a = l := by simpa using hl
                 exact h1
  | 1, hs, hl => obtain rfl : s2 = s := by simpa using hs
                 obtain rfl : b = l := by simpa using hl
                 exact h2
  | j + 2, hs, hl => simp at hl
theorem C_lists3 {W : World} {gb t : Nat} {s1 s2 s3 : Value} (a b d : List S58) (h : W.heap[gb]? = some (.cells #[s1, s2, s3] t (0, 0))) (h1 : LS W s1 a) (h2 : LS W s2 b) (h3 : LS W s3 d) : Kd.C (Kd.slice 58 k58) W (some ⟨gb, 0, none⟩) 3 [a, b, d] := by
  refine C_lists [a, b, d] h (by simp) rfl (fun j s l hs hl => ?_)
  match j, hs, hl with
  | 0, hs, hl => obtain rfl : s1 = s := by simpa using hs
                 obtain rfl : a = l := by simpa using hl
                 exact h1
  | 1, hs, hl => obtain rfl : s2 = s := by simpa using hs
                 obtain rfl : b = l := by simpa using hl
                 exact h2
  | 2, hs, hl => obtain rfl : s3 = s := by simpa using hs
                 obtain rfl : d = l := by simpa using hl
                 exact h3
  | j + 3, hs, hl => simp at hl
theorem LS_one {W : World} {gb t c6 : Nat} {A6 : Option Addr} (x : S58) (h : W.heap[gb]? = some (.cells #[.int .i64 x.f0, .string x.f1, .int .i64 x.f2, .int .i64 x.f3, .int .i64 x.f4, .bool x.f5, .slice A6 x.f6.length c6] t (0, 0))) (l6 : x.f6.length ≤ c6) (g6 : Kd.C (Kd.int .i64) W A6 x.f6.length x.f6) : LS W (.slice (some ⟨gb, 0, none⟩) 1 1) [x] := by
  refine ⟨_, 1, rfl, Nat.le_refl _, C_cells k58 [x] h (by simp) (by decide) ⟨rfl, fun j p hj => ?_⟩⟩
  cases j with
  | zero =>
    obtain rfl : x = p := by simpa using hj
    exact k58_mk W x l6 g6
  | succ j => simp at hj
section
variable {P : Program} {ops : Array Oper} {rest : List Oper} {o : Oper} {a : Act} {Q : Exit → Act → World → Prop}
theorem lit_event {W : World} (hgd : o.guard = none) {N : Tmp} (_hd : o.dst = some N) {cs : Array Value} {t : TypeId} {n : Nat}
    (hrun : (execOp a.eval o).run P W = .ok (.value (.slice (some ⟨W.heap.size, 0, none⟩) n n)) (W.alloc (.cells cs t (0, 0))))
    (h : ∀ g, g = W.heap.size → ∀ w1, w1.heap[g]? = some (.cells cs t (0, 0)) → Below W.heap.size W w1 → wpList P ops Q rest (a.put o.dst (.slice (some ⟨g, 0, none⟩) n n)) w1) : wpList P ops Q (o :: rest) a W :=
  Kd.event_run hgd hrun (h _ rfl _ (blk_new W _) (below_alloc (Below.refl _ _) _))
end
theorem below_ex {w0 w : World} {g : Nat} (a1 : Int) (h : DC w0 w g) : Calls Try.prog 71 #[.pointer (some ⟨g, 0, none⟩), .int .i64 a1] w fun e w' => ∃ r : Int, e = .returned (.int .i64 r) ∧ (0 ≤ r ∧ (0 < a1 → r < a1) ∧ (a1 ≤ 0 → r = 0)) ∧ DC w0 w' g ∧ KeepBut w w' g none := by
  obtain ⟨⟨b, i, hh, hI, hi, hl⟩, hB⟩ := h
  obtain ⟨v, i', h', e, p, q, r, s⟩ := dr_below b i hh a1 hl hi
  refine (spec_l01Below.calls g b i hh a1 v i' h' w0 w hI hB e).mono ?_
  rintro e w' ⟨rfl, hI', hB', hk⟩
  exact ⟨v, rfl, ⟨q, r, s⟩, ⟨⟨b, i', h', hI', p, hl⟩, hB'⟩, hk⟩
theorem once_ex {w0 w : World} {g : Nat} (a1 : Int) (h : DC w0 w g) : Calls Try.prog 72 #[.pointer (some ⟨g, 0, none⟩), .int .i64 a1] w fun e w' => ∃ r : Bool, e = .returned (.bool r) ∧ DC w0 w' g ∧ KeepBut w w' g none := by
  obtain ⟨⟨b, i, hh, hI, hi, hl⟩, hB⟩ := h
  obtain ⟨v, i', h', e, p⟩ := dr_once b i hh a1 hl hi
  refine (spec_l01Once.calls g b i hh a1 v i' h' w0 w hI hB e).mono ?_
  rintro e w' ⟨rfl, hI', hB', hk⟩
  exact ⟨v, rfl, ⟨⟨b, i', h', hI', p, hl⟩, hB'⟩, hk⟩
theorem pick_ex {w0 w : World} {g gb c : Nat} (l : List Int) (h : DC w0 w g) (hr : Kd.C (Kd.int .i64) w (some ⟨gb, 0, none⟩) l.length l) (hc : l.length ≤ c) (hne : gb ≠ g) (hl0 : 0 < l.length) : Calls Try.prog 107 #[.pointer (some ⟨g, 0, none⟩), .slice (some ⟨gb, 0, none⟩) l.length c] w fun e w' => ∃ r : Int, e = .returned (.int .i64 r) ∧ r ∈ l ∧ DC w0 w' g ∧ KeepBut w w' g none := by
  obtain ⟨⟨b, i, hh, hI, hi, hl⟩, hB⟩ := h
  obtain ⟨v, i', h', e, p, q⟩ := dr_pick b i hh l hl hi hl0
  refine (spec_l01PickInt.calls g b i hh (some ⟨gb, 0, none⟩) c l v i' h' w0 w hI hB hr hc (fun ad e _ => by injection e with e; subst e; exact hne) e).mono ?_
  rintro e w' ⟨rfl, hI', hB', hk⟩
  exact ⟨v, rfl, q, ⟨⟨b, i', h', hI', p, hl⟩, hB'⟩, hk⟩
theorem joined2_ex {w : World} {A : Option Addr} {c : Nat} (a b : List S58) (hr : Kd.C (Kd.slice 58 k58) w A 2 [a, b]) (hc : 2 ≤ c) (la : a.length ≤ 1048576) (lb : b.length ≤ 1048576) (ha : ∀ x ∈ a, x.f6.length ≤ 1048576) (hb : ∀ x ∈ b, x.f6.length ≤ 1048576) :
    Calls Try.prog 148 #[.slice A 2 c] w fun e w' => ∃ v : Value, e = .returned v ∧ Kd.S k58 58 w' w.heap.size (fun _ => True) v (a ++ b) ∧ Below w.heap.size w w' := by
  obtain ⟨k, hk⟩ := ev_spec_l02Joined2 a b la lb ha hb
  exact spec_l02Joined.calls k A c [a, b] (a ++ b) w hr hc (hk k (Nat.le_refl k))
theorem joined3_ex {w : World} {A : Option Addr} {c : Nat} (a b d : List S58) (hr : Kd.C (Kd.slice 58 k58) w A 3 [a, b, d]) (hc : 3 ≤ c) (la : a.length ≤ 1048576) (lb : b.length ≤ 1048576) (ld : d.length ≤ 1048576) (ha : ∀ x ∈ a, x.f6.length ≤ 1048576) (hb : ∀ x ∈ b, x.f6.length ≤ 1048576) (hd : ∀ x ∈ d, x.f6.length ≤ 1048576) :
    Calls Try.prog 148 #[.slice A 3 c] w fun e w' => ∃ v : Value, e = .returned v ∧ Kd.S k58 58 w' w.heap.size (fun _ => True) v (a ++ b ++ d) ∧ Below w.heap.size w w' := by
  obtain ⟨k, hk⟩ := ev_spec_l02Joined3 a b d la lb ld ha hb hd
  exact spec_l02Joined.calls k A c [a, b, d] (a ++ b ++ d) w hr hc (hk k (Nat.le_refl k))
/-- How great what is drawn may be, by the depth. -/
structure Sml (D : Nat) (p : List S58) (wd : Int) : Prop where
  len : p.length + 3 ≤ 4 * 2 ^ D
  lo : 1 ≤ wd
  hi : wd.toNat ≤ 3 * 2 ^ D
  el : ∀ x ∈ p, x.f1.size ≤ 16 ∧ x.f6.length ≤ 16
def DPost (w0 w : World) (g D : Nat) (e : Ending) (w' : World) : Prop := ∃ (v : Value) (p : List S58) (wd : Int), e = .returned (.tuple #[v, .int .i64 wd]) ∧ Kd.S k58 58 w' w.heap.size (fun _ => True) v p ∧ DC w0 w' g ∧ KeepBut w w' g none ∧ Sml D p wd
end Go.Proofs.Ytbdfidnldaghbaa.Q
