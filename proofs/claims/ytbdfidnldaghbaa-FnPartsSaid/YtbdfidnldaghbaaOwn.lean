/- Rows of a call's own whose blocks lie between two heap sizes: what calls leave of them, what is kept while another one is written. No function of the program is in sight here. -/
import Derived.Test.YtbdfidnldaghbaaWMore
import Derived.Test.YtbdfidnldaghbaaWTab
import Derived.Test.YtbdfidnldaghbaaWKept
import Derived.Test.YtbdfidnldaghbaaWApart
import Derived.Test.YtbdfidnldaghbaaWN
set_option linter.unusedVariables false
set_option linter.unusedSimpArgs false
namespace Go.Proofs.Ytbdfidnldaghbaa.Own
open Go Go.RowKit Go.Proofs.YtbdfidnldaghbaaW.PrintWords Go.Proofs.YtbdfidnldaghbaaW.PrintLast Go.Proofs.YtbdfidnldaghbaaW.PrintMore
/-- A row, its blocks from lo up to hi. -/
structure LR {α : Type} (d : Kd α) (e : Nat) (w0 w : World) (lo hi : Nat) (v : Value) (xs : List α) : Prop where
  row : Kd.R d e w w0.heap.size (fun k => lo ≤ k ∧ k < hi) v xs
  lo_ : w0.heap.size ≤ lo
  hi_ : hi ≤ w.heap.size
/-- The same, no two elements leading to one block. -/
structure LS {α : Type} (d : Kd α) (e : Nat) (w0 w : World) (lo hi : Nat) (v : Value) (xs : List α) : Prop where
  row : Kd.S d e w w0.heap.size (fun k => lo ≤ k ∧ k < hi) v xs
  lo_ : w0.heap.size ≤ lo
  hi_ : hi ≤ w.heap.size
section
variable {α : Type} {d : Kd α} {e lo hi lo' hi' b : Nat} {w0 w w1 : World} {v : Value} {xs : List α} {ok : Nat → Prop}
theorem LR.new (h : Kd.R d e w1 w.heap.size ok v xs) (hB : Below w0.heap.size w0 w) (hb : Below w.heap.size w w1) : LR d e w0 w1 w.heap.size w1.heap.size v xs :=
  ⟨Kd.R_lower (Kd.R_mono (Kd.R_bound h) (fun k hk => ⟨hk.2.1, hk.2.2.1⟩)) hB.size, hB.size, Nat.le_refl _⟩
theorem LS.new (h : Kd.S d e w1 w.heap.size ok v xs) (hB : Below w0.heap.size w0 w) (hb : Below w.heap.size w w1) : LS d e w0 w1 w.heap.size w1.heap.size v xs :=
  ⟨Kd.S_lower (Kd.S_mono (Kd.S_bound h) (fun k hk => ⟨hk.2.1, hk.2.2.1⟩)) hB.size, hB.size, Nat.le_refl _⟩
theorem LR.nil (d : Kd α) (e : Nat) (hB : Below w0.heap.size w0 w) : LR d e w0 w w.heap.size w.heap.size (.slice none 0 0) [] := ⟨Kd.R_nil _ _ _ _ _, hB.size, Nat.le_refl _⟩
theorem LR.below (h : LR d e w0 w lo hi v xs) (hb : Below w.heap.size w w1) : LR d e w0 w1 lo hi v xs := ⟨Kd.R_below h.row hb, h.lo_, Nat.le_trans h.hi_ hb.size⟩
theorem LS.below (h : LS d e w0 w lo hi v xs) (hb : Below w.heap.size w w1) : LS d e w0 w1 lo hi v xs := ⟨Kd.S_below h.row hb, h.lo_, Nat.le_trans h.hi_ hb.size⟩
theorem LR.drawn (h : LR d e w0 w lo hi v xs) (hb : Drawn0 w w1) : LR d e w0 w1 lo hi v xs := h.below hb.below
theorem LS.drawn (h : LS d e w0 w lo hi v xs) (hb : Drawn0 w w1) : LS d e w0 w1 lo hi v xs := h.below hb.below
theorem LR.drewN (h : LR d e w0 w lo hi v xs) (n : Nat) : LR d e w0 (w.drewN n) lo hi v xs := h.below (pw_below_drewN (Below.refl _ _) n)
theorem LS.drewN (h : LS d e w0 w lo hi v xs) (n : Nat) : LS d e w0 (w.drewN n) lo hi v xs := h.below (pw_below_drewN (Below.refl _ _) n)
theorem LR.alloc (h : LR d e w0 w lo hi v xs) (o : Obj) : LR d e w0 (w.alloc o) lo hi v xs := h.below (below_alloc (Below.refl _ _) o)
theorem LS.alloc (h : LS d e w0 w lo hi v xs) (o : Obj) : LS d e w0 (w.alloc o) lo hi v xs := h.below (below_alloc (Below.refl _ _) o)
/-- Another row is written. -/
theorem LR.kept (h : LR d e w0 w lo hi v xs) (hk : Kept w w1 (fun k => lo' ≤ k ∧ k < hi')) (hd : hi ≤ lo' ∨ hi' ≤ lo) : LR d e w0 w1 lo hi v xs :=
  ⟨Kd.R_kept h.row hk (fun k ho hs => by have h1 := ho.1; have h2 := ho.2; have h3 := hs.1; have h4 := hs.2; omega), h.lo_, Nat.le_trans h.hi_ hk.1⟩
theorem LS.kept (h : LS d e w0 w lo hi v xs) (hk : Kept w w1 (fun k => lo' ≤ k ∧ k < hi')) (hd : hi ≤ lo' ∨ hi' ≤ lo) : LS d e w0 w1 lo hi v xs :=
  ⟨Kd.S_kept h.row hk (fun k ho hs => by have h1 := ho.1; have h2 := ho.2; have h3 := hs.1; have h4 := hs.2; omega), h.lo_, Nat.le_trans h.hi_ hk.1⟩
theorem LR.reads (h : LR d e w0 w lo hi v xs) : ∃ A c, v = .slice A xs.length c ∧ xs.length ≤ c := by
  obtain ⟨A, c, he, hl, _⟩ := Kd.R_reads h.row
  exact ⟨A, c, he, hl⟩
theorem LS.reads (h : LS d e w0 w lo hi v xs) : ∃ A c, v = .slice A xs.length c ∧ xs.length ≤ c := by
  obtain ⟨A, c, he, hl, _⟩ := Kd.S_reads h.row
  exact ⟨A, c, he, hl⟩
theorem LR.C {A : Option Addr} {n c : Nat} (h : LR d e w0 w lo hi (.slice A n c) xs) : d.C w A xs.length xs := (Kd.R_reads' h.row).2.2
theorem LS.C {A : Option Addr} {n c : Nat} (h : LS d e w0 w lo hi (.slice A n c) xs) : d.C w A xs.length xs := (Kd.S_reads' h.row).2.2
theorem LR.cap {A : Option Addr} {n c : Nat} (h : LR d e w0 w lo hi (.slice A n c) xs) : xs.length ≤ c := by
  obtain ⟨h1, h2, _⟩ := Kd.R_reads' h.row
  omega
theorem LS.cap {A : Option Addr} {n c : Nat} (h : LS d e w0 w lo hi (.slice A n c) xs) : xs.length ≤ c := by
  obtain ⟨h1, h2, _⟩ := Kd.S_reads' h.row
  omega
/-- Behind a write. -/
theorem LR.wrote (h : Kd.R d e w1 w0.heap.size ok v xs) (hB : Below w0.heap.size w0 w1) : ∃ lo hi, LR d e w0 w1 lo hi v xs :=
  ⟨w0.heap.size, w1.heap.size, Kd.R_mono (Kd.R_bound h) (fun k hk => ⟨hk.2.1, hk.2.2.1⟩), Nat.le_refl _, Nat.le_refl _⟩
theorem LS.wrote (h : Kd.S d e w1 w0.heap.size ok v xs) (hB : Below w0.heap.size w0 w1) : ∃ lo hi, LS d e w0 w1 lo hi v xs :=
  ⟨w0.heap.size, w1.heap.size, Kd.S_mono (Kd.S_bound h) (fun k hk => ⟨hk.2.1, hk.2.2.1⟩), Nat.le_refl _, Nat.le_refl _⟩
theorem LR.make (h : Kd.R d e w1 w.heap.size ok v xs) (hB : Below w0.heap.size w0 w) (hb : Below w.heap.size w w1) : ∃ lo hi, LR d e w0 w1 lo hi v xs ∧ lo = w.heap.size := ⟨_, _, LR.new h hB hb, rfl⟩
theorem LS.make (h : Kd.S d e w1 w.heap.size ok v xs) (hB : Below w0.heap.size w0 w) (hb : Below w.heap.size w w1) : ∃ lo hi, LS d e w0 w1 lo hi v xs ∧ lo = w.heap.size := ⟨_, _, LS.new h hB hb, rfl⟩
theorem LR.then_ (h : LR d e w0 w lo hi v xs) (hl : lo' = w.heap.size) : hi ≤ lo' := hl ▸ h.hi_
theorem LS.then_ (h : LS d e w0 w lo hi v xs) (hl : lo' = w.heap.size) : hi ≤ lo' := hl ▸ h.hi_
/-- What is read of the arguments. -/
theorem C_now {A : Option Addr} {n : Nat} (h : d.C w0 A n xs) (hB : Below w0.heap.size w0 w) : d.C w A n xs := Kd.C_below h hB
end
theorem cells7 {w : World} {g : Nat} {t : TypeId} (v0 v1 v2 v3 v4 v5 v6 : Value) (h : w.heap[g]? = some (.cells #[v0, v1, v2, v3, v4, v5, v6] t (0, 0))) : (w.cell? ⟨g, 0, none⟩ = some v0 ∧ w.cell? ⟨g, 1, none⟩ = some v1 ∧ w.cell? ⟨g, 2, none⟩ = some v2 ∧ w.cell? ⟨g, 3, none⟩ = some v3 ∧ w.cell? ⟨g, 4, none⟩ = some v4 ∧ w.cell? ⟨g, 5, none⟩ = some v5 ∧ w.cell? ⟨g, 6, none⟩ = some v6) ∧ w.frozen? ⟨g, 0, none⟩ = false ∧ w.frozen? ⟨g, 1, none⟩ = false ∧ w.frozen? ⟨g, 2, none⟩ = false ∧ w.frozen? ⟨g, 3, none⟩ = false ∧ w.frozen? ⟨g, 4, none⟩ = false ∧ w.frozen? ⟨g, 5, none⟩ = false ∧ w.frozen? ⟨g, 6, none⟩ = false :=
  ⟨⟨(blk_cell h 0).trans rfl, (blk_cell h 1).trans rfl, (blk_cell h 2).trans rfl, (blk_cell h 3).trans rfl, (blk_cell h 4).trans rfl, (blk_cell h 5).trans rfl, (blk_cell h 6).trans rfl⟩, blk_frozen h 0, blk_frozen h 1, blk_frozen h 2, blk_frozen h 3, blk_frozen h 4, blk_frozen h 5, blk_frozen h 6⟩
/-- A row whose blocks, and those that its elements lead to, lie from lo up to hi; two elements may lead to one block. It is only read. -/
structure LN {α : Type} (d : Kd α) (e : Nat) (w0 w : World) (lo hi : Nat) (v : Value) (xs : List α) : Prop where
  row : Kd.N d e w w0.heap.size (fun k => lo ≤ k ∧ k < hi) v xs
  lo_ : w0.heap.size ≤ lo
  hi_ : hi ≤ w.heap.size
section
variable {α : Type} {d : Kd α} {e lo hi lo' hi' b : Nat} {w0 w w1 : World} {v : Value} {xs : List α} {ok : Nat → Prop}
theorem LN.new (h : Kd.N d e w1 w.heap.size (fun k => w.heap.size ≤ k) v xs) (hB : Below w0.heap.size w0 w) (hb : Below w.heap.size w w1) : LN d e w0 w1 w.heap.size w1.heap.size v xs :=
  ⟨Kd.N_lower (Kd.N_mono (Kd.N_bound h) (fun k hk => ⟨hk.1, hk.2⟩)) hB.size, hB.size, Nat.le_refl _⟩
theorem LN.below (h : LN d e w0 w lo hi v xs) (hb : Below w.heap.size w w1) : LN d e w0 w1 lo hi v xs := ⟨Kd.N_below h.row hb, h.lo_, Nat.le_trans h.hi_ hb.size⟩
theorem LN.drawn (h : LN d e w0 w lo hi v xs) (hb : Drawn0 w w1) : LN d e w0 w1 lo hi v xs := h.below hb.below
theorem LN.drewN (h : LN d e w0 w lo hi v xs) (n : Nat) : LN d e w0 (w.drewN n) lo hi v xs := h.below (pw_below_drewN (Below.refl _ _) n)
theorem LN.alloc (h : LN d e w0 w lo hi v xs) (o : Obj) : LN d e w0 (w.alloc o) lo hi v xs := h.below (below_alloc (Below.refl _ _) o)
theorem LN.kept (h : LN d e w0 w lo hi v xs) (hk : Kept w w1 (fun k => lo' ≤ k ∧ k < hi')) (hd : hi ≤ lo' ∨ hi' ≤ lo) : LN d e w0 w1 lo hi v xs :=
  ⟨Kd.N_kept h.row hk (fun k ho hs => by have h1 := ho.1; have h2 := ho.2; have h3 := hs.1; have h4 := hs.2; omega), h.lo_, Nat.le_trans h.hi_ hk.1⟩
theorem LN.reads (h : LN d e w0 w lo hi v xs) : ∃ A c, v = .slice A xs.length c ∧ xs.length ≤ c := by
  obtain ⟨A, c, he, hl, _⟩ := Kd.N_reads h.row
  exact ⟨A, c, he, hl⟩
theorem LN.C {A : Option Addr} {n c : Nat} (h : LN d e w0 w lo hi (.slice A n c) xs) : d.C w A xs.length xs := (Kd.N_reads' h.row).2.2
theorem LN.cap {A : Option Addr} {n c : Nat} (h : LN d e w0 w lo hi (.slice A n c) xs) : xs.length ≤ c := by
  obtain ⟨h1, h2, _⟩ := Kd.N_reads' h.row
  omega
theorem LN.make (h : Kd.N d e w1 w.heap.size (fun k => (w.heap.size ≤ k)) v xs) (hB : Below w0.heap.size w0 w) (hb : Below w.heap.size w w1) : ∃ lo hi, LN d e w0 w1 lo hi v xs ∧ lo = w.heap.size := ⟨_, _, LN.new h hB hb, rfl⟩
theorem LN.then_ (h : LN d e w0 w lo hi v xs) (hl : lo' = w.heap.size) : hi ≤ lo' := hl ▸ h.hi_
end
/-! Steps that occur again and again: what is to be shown at each is found where they are used. -/
theorem bA {n : Nat} {w w' : World} (h : Below n w w' := by repeat (first | (with_reducible first | exact HB.out | apply below_alloc | apply pw_below_drewN | apply below_drew1 | refine below_set ?_ (Aside0.out (by assumption))) | exact HB.out)) : Below n w w' := h
theorem rE {α : Type} {a b : α} (h : a = b := by first | rfl | (simp [errW_none, errW_some] <;> rfl) | (simp [*, errW_none, errW_some] <;> rfl)) : a = b := h
theorem rF {α : Type} {a b : α} (h : a = b := by first | rfl | (simp; done) | (simp [*]; done)) : a = b := h
theorem aL {α : Type} {a b : α} (h : a = b := by (try simp only [List.map_toArray, List.map_cons, List.map_nil]); first | done | rfl | (simp only [List.length_drop, List.length_take]; rfl)) : a = b := h
theorem cA {α : Type} {d : Kd α} {w : World} {A : Option Addr} {n : Nat} {xs : List α} (h : d.C w A n xs := by repeat (first | exact Kd.C_below (Aside0.out (by assumption)) HB.out | exact Aside0.out (by assumption) | (with_reducible refine Kd.C_alloc ?_ _) | (with_reducible refine Kd.C_drewN ?_ _) | (with_reducible refine Kd.C_drew ?_))) : d.C w A n xs := h
theorem hxB {w w' : World} {a : Addr} {v : Value} (hb : Below w.heap.size w w') (h : w.cell? a = some v) : w'.cell? a = some v := (hb.cell (World.block_lt_of_cell? w _ h)).trans h
theorem bF {w : World} {g : Nat} {o : Obj} (h : w.heap[g]? = some o := by first | ((with_reducible repeat (first | exact Aside0.out (by assumption) | refine blk_drewN ?_ _ | refine blk_drew ?_ | refine blk_alloc ?_ _ | refine blk_far ?_ (Aside0.out (by assumption)) _)); done) | (repeat (first | exact Aside0.out (by assumption) | (with_reducible refine blk_drewN ?_ _) | (with_reducible refine blk_drew ?_) | (with_reducible refine blk_alloc ?_ _) | refine blk_far ?_ (Aside0.out (by assumption)) _))) : w.heap[g]? = some o := h
theorem c7 {w : World} {g : Nat} {t : TypeId} {v0 v1 v2 v3 v4 v5 v6 : Value} (h : w.heap[g]? = some (.cells #[v0, v1, v2, v3, v4, v5, v6] t (0, 0))) : (w.cell? ⟨g, 0, none⟩ = some v0 ∧ w.cell? ⟨g, 1, none⟩ = some v1 ∧ w.cell? ⟨g, 2, none⟩ = some v2 ∧ w.cell? ⟨g, 3, none⟩ = some v3 ∧ w.cell? ⟨g, 4, none⟩ = some v4 ∧ w.cell? ⟨g, 5, none⟩ = some v5 ∧ w.cell? ⟨g, 6, none⟩ = some v6) ∧ w.frozen? ⟨g, 0, none⟩ = false ∧ w.frozen? ⟨g, 1, none⟩ = false ∧ w.frozen? ⟨g, 2, none⟩ = false ∧ w.frozen? ⟨g, 3, none⟩ = false ∧ w.frozen? ⟨g, 4, none⟩ = false ∧ w.frozen? ⟨g, 5, none⟩ = false ∧ w.frozen? ⟨g, 6, none⟩ = false :=
  cells7 v0 v1 v2 v3 v4 v5 v6 h
theorem put7 {w : World} {g : Nat} {t : TypeId} {u0 u1 u2 u3 u4 u5 u6 v0 v1 v2 v3 v4 v5 v6 : Value} (h : w.heap[g]? = some (.cells #[u0, u1, u2, u3, u4, u5, u6] t (0, 0))) : (((((((w.setCell ⟨g, 0, none⟩ v0).setCell ⟨g, 1, none⟩ v1).setCell ⟨g, 2, none⟩ v2).setCell ⟨g, 3, none⟩ v3).setCell ⟨g, 4, none⟩ v4).setCell ⟨g, 5, none⟩ v5).setCell ⟨g, 6, none⟩ v6).heap[g]? = some (.cells #[v0, v1, v2, v3, v4, v5, v6] t (0, 0)) :=
  blk_put (cs' := #[v0, v1, v2, v3, v4, v5, v6]) (blk_put (cs' := #[v0, v1, v2, v3, v4, v5, u6]) (blk_put (cs' := #[v0, v1, v2, v3, v4, u5, u6]) (blk_put (cs' := #[v0, v1, v2, v3, u4, u5, u6]) (blk_put (cs' := #[v0, v1, v2, u3, u4, u5, u6]) (blk_put (cs' := #[v0, v1, u2, u3, u4, u5, u6]) (blk_put (cs' := #[v0, u1, u2, u3, u4, u5, u6]) h 0 v0 rfl) 1 v1 rfl) 2 v2 rfl) 3 v3 rfl) 4 v4 rfl) 5 v5 rfl) 6 v6 rfl
section
variable {P : Program} {ops : Array Oper} {Q : Exit → Act → World → Prop} {md : Region.Mode} {S : World → Prop} {ds : List Nat} {oi : Oper} {v : Value} {fuel : Nat} {l : Array Bool} {a a' : Act} {w : World}
/-- A pure step of a region: what is done at the place i, into the place N. -/
theorem pu_ (i : Nat) (N : Tmp) (h : wpAnyLast P md ops Q S ds fuel (l.setIfInBounds i true) a' w) (hi : ops[i]? = some oi := by exact rfl) (hN : oi.dst = some N := by exact rfl) (hc : anyB md ops l (l.setIfInBounds i true) i = true := by kernel_rfl) (hQ : ∀ c a w, Q (.panic c) (a.put oi.dst v) w → Q (.panic c) a w := by exact fun _ _ _ h => h) (hw : Region.wanted oi (yielded ops a.tmps) = true := by rfl) (hv : ∀ w, (execOp a.eval oi).run P w = .ok (.value v) w := by intro w'; go_simp; with_reducible rfl) (ha : a.put (some N) v = a' := by simp only [Act.put, List.setIfInBounds_toArray, List.set_cons_zero, List.set_cons_succ, i64_w, i32_w]; rfl) : wpAnyLast P md ops Q S ds (fuel + 1) l a w :=
  pure_ (l.setIfInBounds i true) hi hN hc hQ (Or.inl ⟨hw, hv⟩) ha h
theorem pt_ (i : Nat) (N : Tmp) (h : wpAnyLast P md ops Q S ds fuel (l.setIfInBounds i true) a' w) (hi : ops[i]? = some oi := by exact rfl) (hN : oi.dst = some N := by exact rfl) (hc : anyB md ops l (l.setIfInBounds i true) i = true := by exact any_of HT_.out (by kernel_rfl)) (hQ : ∀ c a w, Q (.panic c) (a.put oi.dst v) w → Q (.panic c) a w := by exact fun _ _ _ h => h) (hw : Region.wanted oi (yielded ops a.tmps) = true := by rfl) (hv : ∀ w, (execOp a.eval oi).run P w = .ok (.value v) w := by intro w'; go_simp; with_reducible rfl) (ha : a.put (some N) v = a' := by simp only [Act.put, List.setIfInBounds_toArray, List.set_cons_zero, List.set_cons_succ, i64_w, i32_w]; rfl) : wpAnyLast P md ops Q S ds (fuel + 1) l a w :=
  pure_ (l.setIfInBounds i true) hi hN hc hQ (Or.inl ⟨hw, hv⟩) ha h
theorem po_ (i : Nat) (N : Tmp) (h : wpAnyLast P md ops Q S ds fuel (l.setIfInBounds i true) a' w) (hi : ops[i]? = some oi := by exact rfl) (hN : oi.dst = some N := by exact rfl) (hc : anyB md ops l (l.setIfInBounds i true) i = true := by exact any_of HT_.out (by kernel_rfl)) (hQ : ∀ c a w, Q (.panic c) (a.put oi.dst undef) w → Q (.panic c) a w := by exact fun _ _ _ h => h) (hw : Region.wanted oi (yielded ops a.tmps) = false := by rfl) (ha : a.put (some N) undef = a' := by simp only [Act.put, List.setIfInBounds_toArray, List.set_cons_zero, List.set_cons_succ, i64_w, i32_w]; rfl) : wpAnyLast P md ops Q S ds (fuel + 1) l a w :=
  pure_ (l.setIfInBounds i true) hi hN hc hQ (Or.inr ⟨hw, rfl⟩) ha h
theorem tu_ (i : Nat) (N : Tmp) (h : wpAnyLast P md ops Q S ds fuel (l.setIfInBounds i true) a' w) (hi : ops[i]? = some oi := by exact rfl) (hN : oi.dst = some N := by exact rfl) (hc : takeB md ops ds l (l.setIfInBounds i true) i = true := by kernel_rfl) (hQ : ∀ c a w, Q (.panic c) (a.put oi.dst v) w → Q (.panic c) a w := by exact fun _ _ _ h => h) (hw : Region.wanted oi (yielded ops a.tmps) = true := by rfl) (hS : S w := by exact hHeld) (hv : ∀ w, S w → (execOp a.eval oi).run P w = .ok (.value v) w := by intro w' s; (repeat (have s0 := And.left s; replace s := And.right s)); go_simp; with_reducible rfl) (ha : a.put (some N) v = a' := by simp only [Act.put, List.setIfInBounds_toArray, List.set_cons_zero, List.set_cons_succ, i64_w, i32_w]; rfl) : wpAnyLast P md ops Q S ds (fuel + 1) l a w :=
  take_ (l.setIfInBounds i true) hi hN hc hQ (Or.inl ⟨hw, hv⟩) hS ha h
theorem tt_ (i : Nat) (N : Tmp) (h : wpAnyLast P md ops Q S ds fuel (l.setIfInBounds i true) a' w) (hi : ops[i]? = some oi := by exact rfl) (hN : oi.dst = some N := by exact rfl) (hc : takeB md ops ds l (l.setIfInBounds i true) i = true := by exact take_ofW HT_.out HW_.out (by kernel_rfl)) (hQ : ∀ c a w, Q (.panic c) (a.put oi.dst v) w → Q (.panic c) a w := by exact fun _ _ _ h => h) (hw : Region.wanted oi (yielded ops a.tmps) = true := by rfl) (hS : S w := by exact hHeld) (hv : ∀ w, S w → (execOp a.eval oi).run P w = .ok (.value v) w := by intro w' s; (repeat (have s0 := And.left s; replace s := And.right s)); go_simp; with_reducible rfl) (ha : a.put (some N) v = a' := by simp only [Act.put, List.setIfInBounds_toArray, List.set_cons_zero, List.set_cons_succ, i64_w, i32_w]; rfl) : wpAnyLast P md ops Q S ds (fuel + 1) l a w :=
  take_ (l.setIfInBounds i true) hi hN hc hQ (Or.inl ⟨hw, hv⟩) hS ha h
end
end Go.Proofs.Ytbdfidnldaghbaa.Own
