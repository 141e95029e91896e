/- impl.PutTable over the contracts of what it calls. -/
import Derived.Test.YtgbpkbdpjcddhaaQx92
import Derived.Test.YtgbpkbdpjcddhaaQx4
namespace Go.Proofs.Ytgbpkbdpjcddhaa.Q
open Go.RowKit Go.Proofs.Ytgbpkbdpjcddhaa.Own Go.Proofs.Ytgbpkbdpjcddhaa Go.Proofs.YtgbpkbdpjcddhaaW.PrintWords Go.Proofs.YtgbpkbdpjcddhaaW.PrintLast Go.Proofs.YtgbpkbdpjcddhaaW.PrintMore
set_option linter.unusedVariables false
set_option linter.unusedSimpArgs false
/-! ### impl_PutTable: function 9 -/
def atT (l : List S31) (nm : ByteArray) : Nat := (l.takeWhile (fun x => Op.bytesLess x.f0.toList nm.toList)).length
def putT (l : List S31) (nm : ByteArray) (wd : Int) : List S31 := if atT l nm < l.length ∧ (rd_T31 l (atT l nm : Int)).f0.toList = nm.toList then l.set (atT l nm) ⟨nm, wd⟩ else l.take (atT l nm) ++ ⟨nm, wd⟩ :: l.drop (atT l nm)
theorem atT_le : ∀ (l : List S31) (nm : ByteArray), atT l nm ≤ l.length
  | [], _ => Nat.le_refl _
  | x :: l, nm => by
    have ih := atT_le l nm
    unfold atT at ih ⊢
    rw [List.takeWhile_cons]
    split
    · simp only [List.length_cons]; omega
    · simp
theorem atT_at : ∀ (l : List S31) (nm : ByteArray) (j : Nat), j < atT l nm → Op.bytesLess (l.getD j z31).f0.toList nm.toList = true
  | [], _, j, h => by simp [atT] at h
  | x :: l, nm, j, h => by
    unfold atT at h
    rw [List.takeWhile_cons] at h
    split at h
    · cases j with
      | zero => simpa using ‹_›
      | succ j => simpa using atT_at l nm j (by unfold atT; simp only [List.length_cons] at h; omega)
    · simp at h
theorem atT_end : ∀ (l : List S31) (nm : ByteArray), atT l nm < l.length → Op.bytesLess (l.getD (atT l nm) z31).f0.toList nm.toList = false
  | [], _, h => by simp [atT] at h
  | x :: l, nm, h => by
    have ih := atT_end l nm
    unfold atT at h ih ⊢
    rw [List.takeWhile_cons] at h ⊢
    split
    · rename_i hx
      rw [if_pos hx] at h
      simp only [List.length_cons] at h
      simpa using ih (by omega)
    · rename_i hx
      simpa using hx
theorem atT_lt {l : List S31} {nm : ByteArray} {x : Int} (h : x.toNat < atT l nm) : Op.bytesLess (rd_T31 l x).f0.toList nm.toList = true := atT_at l nm _ h
theorem atT_ge {l : List S31} {nm : ByteArray} (h : atT l nm < l.length) : Op.bytesLess (rd_T31 l (atT l nm : Int)).f0.toList nm.toList = false := by
  rw [rd_T31, Int.toNat_natCast]; exact atT_end l nm h
def impl_PutTable.f (k : Nat) (l0 : List S31) (a1_0 : ByteArray) (a1_1 : Int) : Option (List S31 × Bool) :=
  if l0.length < 5864062014804 then (impl_SchemaOk.f k l0).bind fun b1 => if b1 = true then (impl_SchemaOk.f k (putT l0 a1_0 a1_1)).bind fun b2 => some (if b2 = true then putT l0 a1_0 a1_1 else l0, b2) else some (l0, false) else none
theorem clone_f (l0 : List S31) (h : l0.length < 5864062014805) : slices_Clone_impl_Table_impl_Table.f l0 = some l0 := by
  simp [slices_Clone_impl_Table_impl_Table.f, h]
section
variable {P : Program} {ops : Array Oper} {rest : List Oper} {o : Oper} {a : Act} {Q : Exit → Act → World → Prop}
theorem lit_event {W : World} (hgd : o.guard = none) {N : Tmp} (_hd : o.dst = some N) {cs : Array Value} {t : TypeId} {n : Nat}
    (hrun : (execOp a.eval o).run P W = .ok (.value (.slice (some ⟨W.heap.size, 0, none⟩) n n)) (W.alloc (.cells cs t (0, 0))))
    (h : ∀ g, g = W.heap.size → ∀ w1, w1.heap[g]? = some (.cells cs t (0, 0)) → Below W.heap.size W w1 → wpList P ops Q rest (a.put o.dst (.slice (some ⟨g, 0, none⟩) n n)) w1) : wpList P ops Q (o :: rest) a W :=
  Kd.event_run hgd hrun (h _ rfl _ (blk_new W _) (below_alloc (Below.refl _ _) _))
end
/-- The clone is there: it lies above B, the box of the argument below. -/
structure PT (w W : World) (gb B : Nat) (v : Value) (xs : List S31) (nm : ByteArray) (wd : Int) : Prop where
  hb : Below w.heap.size w W
  bk : W.heap[gb]? = some (.cells #[.string nm, .int .i64 wd] 31 (0, 0))
  ho : Kd.R k31 31 W B (fun _ => True) v xs
  gb : gb < B
  wB : w.heap.size ≤ B
  sB : B ≤ W.heap.size
/-- What is to be returned lies above B. -/
structure PU (w W : World) (B : Nat) (v : Value) (xs : List S31) : Prop where
  hb : Below w.heap.size w W
  ho : Kd.R k31 31 W B (fun _ => True) v xs
  wB : w.heap.size ≤ B
section
variable {w W W1 : World} {gb B : Nat} {v : Value} {xs : List S31} {nm : ByteArray} {wd : Int}
theorem PT.drewN (h : PT w W gb B v xs nm wd) (n : Nat) : PT w (W.drewN n) gb B v xs nm wd := ⟨pw_below_drewN h.hb n, blk_drewN h.bk n, Kd.R_drewN h.ho n, h.gb, h.wB, h.sB⟩
theorem PT.drew (h : PT w W gb B v xs nm wd) : PT w W.drew gb B v xs nm wd := ⟨below_drew1 h.hb, blk_drew h.bk, Kd.R_drew h.ho, h.gb, h.wB, h.sB⟩
theorem PT.below (h : PT w W gb B v xs nm wd) (hb : Below W.heap.size W W1) : PT w W1 gb B v xs nm wd := ⟨below_step h.hb hb, blk_below h.bk hb, Kd.R_below h.ho hb, h.gb, h.wB, Nat.le_trans h.sB hb.size⟩
theorem PT.alloc (h : PT w W gb B v xs nm wd) (o : Obj) : PT w (W.alloc o) gb B v xs nm wd := h.below (below_alloc (Below.refl _ _) o)
theorem PT.mk_ (hb : Below w.heap.size w W) (bk : W.heap[gb]? = some (.cells #[.string nm, .int .i64 wd] 31 (0, 0))) (_ : w.heap.size ≤ gb) (ho : Kd.R k31 31 W1 W.heap.size (fun _ => True) v xs) (hb1 : Below W.heap.size W W1) : PT w W1 gb W.heap.size v xs nm wd :=
  ⟨below_step hb hb1, blk_below bk hb1, ho, blk_lt bk, hb.size, hb1.size⟩
theorem PT.own (h : PT w W gb B v xs nm wd) : Kd.R k31 31 W w.heap.size (fun _ => True) v xs := Kd.R_lower h.ho h.wB
theorem PT.fresh (h : PT w W gb B v xs nm wd) {g : Nat} (hg : g = W.heap.size) : v.ownBlock ≠ some g := fun e => by
  have := (own_of_RT h.ho).lt g e
  omega
theorem PU.mk_ {v1 : Value} (h : PT w W gb B v1 xs nm wd) {o2 : List S31} (ho : Kd.R k31 31 W1 B (fun _ => True) v o2) (hb : Below B W W1) : PU w W1 B v o2 := ⟨h.hb.trans (hb.mono h.wB), ho, h.wB⟩
theorem PU.drewN (h : PU w W B v xs) (n : Nat) : PU w (W.drewN n) B v xs := ⟨pw_below_drewN h.hb n, Kd.R_drewN h.ho n, h.wB⟩
theorem PU.drew (h : PU w W B v xs) : PU w W.drew B v xs := ⟨below_drew1 h.hb, Kd.R_drew h.ho, h.wB⟩
theorem PU.below (h : PU w W B v xs) (hb : Below W.heap.size W W1) : PU w W1 B v xs := ⟨below_step h.hb hb, Kd.R_below h.ho hb, h.wB⟩
theorem PU.alloc (h : PU w W B v xs) (o : Obj) : PU w (W.alloc o) B v xs := h.below (below_alloc (Below.refl _ _) o)
theorem PU.own (h : PU w W B v xs) : Kd.R k31 31 W w.heap.size (fun _ => True) v xs := Kd.R_lower h.ho h.wB
theorem PU.of_set {g n c : Nat} (h : PT w W gb B (.slice (some ⟨g, 0, none⟩) n c) xs nm wd) {x : Int} (h0 : 0 ≤ x) (h1 : x < n) {o2 : List S31} (eo : o2 = xs.set x.toNat ⟨nm, wd⟩) (hw : W1 = W.setCells g (x.toNat * 2) [.string nm, .int .i64 wd]) : PU w W1 B (.slice (some ⟨g, 0, none⟩) n c) o2 := by
  obtain ⟨ce, hcl, hM, hcc, _⟩ := Kd.R_elem h.ho z31 x h0 h1
  obtain rfl := k31_openM hM
  obtain ⟨hr, hg⟩ := Kd.R_seg h.ho x h0 h1 (seg := [.string nm, .int .i64 wd]) (j := 0) hcl hcc (show 2 ≤ 2 from Nat.le_refl _) (x' := (⟨nm, wd⟩ : S31)) (k31_mkM _ _ _ (⟨nm, wd⟩ : S31)) (fun _ hk => hk)
  have hge := (own_of_RT h.ho).lt g rfl
  subst hw eo
  exact ⟨h.hb.trans ((below_cells (Below.refl B W) g hge.1 _ _).mono h.wB), hr, h.wB⟩
theorem PU.of_set2 {g n c : Nat} (h : PT w W gb B (.slice (some ⟨g, 0, none⟩) n c) xs nm wd) {x : Int} (h0 : 0 ≤ x) (h1 : x < n) {o2 : List S31} (eo : o2 = xs.set x.toNat ⟨nm, wd⟩) : PU w ((W.setCell ⟨g, x.toNat * 2, none⟩ (.string nm)).setCell ⟨g, x.toNat * 2 + 1, none⟩ (.int .i64 wd)) B (.slice (some ⟨g, 0, none⟩) n c) o2 := PU.of_set h h0 h1 eo rfl
end
set_option maxHeartbeats 8000000 in
set_option maxRecDepth 100000 in
theorem impl_PutTable.no (k : Nat) (A0 : Option Addr) (c0 : Nat) (l0 : List S31) (nm : ByteArray) (wd : Int) (w : World) (hr0 : Kd.C k31 w A0 l0.length l0) (hc0 : l0.length ≤ c0) (hl : l0.length < 5864062014804) (f1 : impl_SchemaOk.f k l0 = some false) :
    Calls Try.prog 9 #[.slice A0 l0.length c0, .agg #[.string nm, .int .i64 wd]] w fun e w' => ∃ v0_ : Value, e = .returned (.tuple #[v0_, .bool false]) ∧ Kd.R k31 31 w' w.heap.size (fun _ => True) v0_ l0 ∧ Below w.heap.size w w' := by
  have HR0 := Aside0.mk hr0
  have HC0 := Aside0.mk hc0
  have FC := Aside0.mk (clone_f l0 (by omega))
  have HB := Aside0.mk (Below.refl w.heap.size w)
  have HL := Aside0.mk hl
  have F1 := Aside0.mk f1
  clear hr0 hc0 hl f1
  have hu31 := Try.underlying31
  go_enter Try.func9, Try.ntmps9
  go_wp2_with (first | ((with_reducible refine gate_dst (N := 3) rfl ?_); refine box_event ?hg (N := 3) ?hd (cs := #[.string nm, .int .i64 wd]) (t := 31) ?hr ?_; (case hd => rfl); (case hg => rfl); (case hr => first | (go_simp; done) | (go_simp; rfl)); intro gb hg w3 hbox hb; have n0_ := Aside0.mk (below_step (by repeat (first | (with_reducible first | exact HB.out | apply below_alloc | apply pw_below_drewN | apply below_drew1) | exact HB.out)) hb); have BK := Aside0.mk hbox; have GB := Aside0.mk ((by rw [hg]; exact (below_size (by repeat (first | (with_reducible first | exact HB.out | apply below_alloc | apply pw_below_drewN | apply below_drew1) | exact HB.out)))) : w.heap.size ≤ gb); clear HB hb hg hbox; have HB := n0_; clear n0_) | ((with_reducible refine gate_dst (N := 9) rfl ?_); refine goesL_ (some 9) rfl rfl Try.func16 (by kernel_rfl) rfl #[.slice A0 l0.length c0] rfl (by (try simp only [List.map_toArray, List.map_cons, List.map_nil]); first | done | rfl) ?_; (with_reducible refine (slices_Clone_impl_Table_impl_Table.calls A0 c0 l0 l0 _ (C_now HR0.out (by repeat (first | (with_reducible first | exact HB.out | apply below_alloc | apply pw_below_drewN | apply below_drew1) | exact HB.out))) HC0.out FC.out).mono ?_); rintro e w9 ⟨v9, rfl, ho, hb⟩; refine ⟨_, rfl, ?_⟩; have HP := Aside0.mk (PT.mk_ (by repeat (first | (with_reducible first | exact HB.out | apply below_alloc | apply pw_below_drewN | apply below_drew1) | exact HB.out)) (by (with_reducible repeat (first | refine blk_drewN ?_ _ | refine blk_drew ?_ | refine blk_alloc ?_ _)); exact BK.out) GB.out ho hb); clear HB BK ho hb; obtain ⟨A1, c1, eo⟩ := Kd.R_slice HP.out.ho; subst eo) | ((with_reducible refine gate_dst (N := 11) rfl ?_); refine goesL_ (some 11) rfl rfl Try.func17 (by kernel_rfl) rfl #[.slice A0 l0.length c0] rfl (by (try simp only [List.map_toArray, List.map_cons, List.map_nil]); first | done | rfl) ?_; (with_reducible refine (impl_SchemaOk.calls k A0 c0 l0 false _ (C_now HR0.out (PT.hb (by (with_reducible repeat (first | apply PT.drewN | apply PT.drew | apply PT.alloc)); exact HP.out))) HC0.out F1.out).mono ?_); rintro e w11 ⟨rfl, hb⟩; refine ⟨_, rfl, ?_⟩; have n0_ := Aside0.mk (PT.below (by (with_reducible repeat (first | apply PT.drewN | apply PT.drew | apply PT.alloc)); exact HP.out) hb); clear HP hb; have HP := n0_; clear n0_))
  go_ret2
  exact ⟨_, rfl, PT.own (by (with_reducible repeat (first | apply PT.drewN | apply PT.drew | apply PT.alloc)); exact HP.out), PT.hb (by (with_reducible repeat (first | apply PT.drewN | apply PT.drew | apply PT.alloc)); exact HP.out)⟩
set_option maxHeartbeats 8000000 in
set_option maxRecDepth 100000 in
theorem impl_PutTable.yes (k : Nat) (A0 : Option Addr) (c0 : Nat) (l0 : List S31) (nm : ByteArray) (wd : Int) (w : World) (hr0 : Kd.C k31 w A0 l0.length l0) (hc0 : l0.length ≤ c0) (hl : l0.length < 5864062014804) (b2 : Bool) (o2 : List S31) (eo2 : o2 = putT l0 nm wd) (f1 : impl_SchemaOk.f k l0 = some true) (f2 : impl_SchemaOk.f k o2 = some b2) :
    Calls Try.prog 9 #[.slice A0 l0.length c0, .agg #[.string nm, .int .i64 wd]] w fun e w' => ∃ v0_ : Value, e = .returned (.tuple #[v0_, .bool b2]) ∧ Kd.R k31 31 w' w.heap.size (fun _ => True) v0_ (if b2 = true then o2 else l0) ∧ Below w.heap.size w w' := by
  have HR0 := Aside0.mk hr0
  have HC0 := Aside0.mk hc0
  have FC := Aside0.mk (clone_f l0 (by omega))
  have HB := Aside0.mk (Below.refl w.heap.size w)
  have HL := Aside0.mk hl
  have F1 := Aside0.mk f1
  clear hr0 hc0 hl f1
  have hu31 := Try.underlying31
  have F2 := Aside0.mk f2
  clear f2
  have LE := Aside0.mk (atT_le l0 nm)
  have BIG := Aside0.mk (show (l0.length + 1) * 24 ≤ 140737488355328 by have := HL.out; omega)
  go_enter Try.func9, Try.ntmps9
  go_wp2_with (first | ((with_reducible refine gate_dst (N := 3) rfl ?_); refine box_event ?hg (N := 3) ?hd (cs := #[.string nm, .int .i64 wd]) (t := 31) ?hr ?_; (case hd => rfl); (case hg => rfl); (case hr => first | (go_simp; done) | (go_simp; rfl)); intro gb hg w3 hbox hb; have n0_ := Aside0.mk (below_step (by repeat (first | (with_reducible first | exact HB.out | apply below_alloc | apply pw_below_drewN | apply below_drew1) | exact HB.out)) hb); have BK := Aside0.mk hbox; have GB := Aside0.mk ((by rw [hg]; exact (below_size (by repeat (first | (with_reducible first | exact HB.out | apply below_alloc | apply pw_below_drewN | apply below_drew1) | exact HB.out)))) : w.heap.size ≤ gb); clear HB hb hg hbox; have HB := n0_; clear n0_) | ((with_reducible refine gate_dst (N := 9) rfl ?_); refine goesL_ (some 9) rfl rfl Try.func16 (by kernel_rfl) rfl #[.slice A0 l0.length c0] rfl (by (try simp only [List.map_toArray, List.map_cons, List.map_nil]); first | done | rfl) ?_; (with_reducible refine (slices_Clone_impl_Table_impl_Table.calls A0 c0 l0 l0 _ (C_now HR0.out (by repeat (first | (with_reducible first | exact HB.out | apply below_alloc | apply pw_below_drewN | apply below_drew1) | exact HB.out))) HC0.out FC.out).mono ?_); rintro e w9 ⟨v9, rfl, ho, hb⟩; refine ⟨_, rfl, ?_⟩; have HP := Aside0.mk (PT.mk_ (by repeat (first | (with_reducible first | exact HB.out | apply below_alloc | apply pw_below_drewN | apply below_drew1) | exact HB.out)) (by (with_reducible repeat (first | refine blk_drewN ?_ _ | refine blk_drew ?_ | refine blk_alloc ?_ _)); exact BK.out) GB.out ho hb); clear HB BK ho hb; obtain ⟨A1, c1, eo⟩ := Kd.R_slice HP.out.ho; subst eo) | ((with_reducible refine gate_dst (N := 11) rfl ?_); refine goesL_ (some 11) rfl rfl Try.func17 (by kernel_rfl) rfl #[.slice A0 l0.length c0] rfl (by (try simp only [List.map_toArray, List.map_cons, List.map_nil]); first | done | rfl) ?_; (with_reducible refine (impl_SchemaOk.calls k A0 c0 l0 true _ (C_now HR0.out (PT.hb (by (with_reducible repeat (first | apply PT.drewN | apply PT.drew | apply PT.alloc)); exact HP.out))) HC0.out F1.out).mono ?_); rintro e w11 ⟨rfl, hb⟩; refine ⟨_, rfl, ?_⟩; have n0_ := Aside0.mk (PT.below (by (with_reducible repeat (first | apply PT.drewN | apply PT.drew | apply PT.alloc)); exact HP.out) hb); clear HP hb; have HP := n0_; clear n0_))
  obtain ⟨B, HPB⟩ : ∃ B, Aside0 (PT w _ gb B (.slice A1 l0.length c1) l0 nm wd) := ⟨_, HP⟩
  clear HP
  go_loopg [7] (atT l0 nm + 1) (fun kq v7 w' => ∃ x7 : Int, v7 = .int .i64 x7 ∧ Aside0 (0 ≤ x7 ∧ x7.toNat ≤ atT l0 nm ∧ kq + x7.toNat = atT l0 nm + 1) ∧ Aside0 (PT w w' gb B (.slice A1 l0.length c1) l0 nm wd))
  case atStart => exact ⟨0, rfl, ⟨by omega, by omega, rfl⟩, ⟨(by (with_reducible repeat (first | apply PT.drewN | apply PT.drew | apply PT.alloc)); exact HPB.out)⟩⟩
  case round =>
    clear HPB
    obtain ⟨x7, rfl, HX, HP⟩ := hrel
    by_cases hx : x7.toNat < atT l0 nm
    · have hle : atT l0 nm ≤ l0.length := LE.out
      have p6 : 0 ≤ x7 := HX.out.1
      have q6 : x7 < (l0.length : Int) := by omega
      have hless : Op.bytesLess ((rd_T31 l0 x7).f0.toList) nm.toList = true := atT_lt hx
      have hlt : decide (x7 < (l0.length : Int)) = true := decide_eq_true q6
      obtain ⟨x8, hx8⟩ : ∃ x8, x8 = x7 + 1 := ⟨_, rfl⟩
      have HW := Aside0.mk (show wrap64 (x7 + 1) = x8 by have := HL.out; rw [hx8]; unfold wrap64; omega)
      have HX8 := Aside0.mk (show 0 ≤ x8 ∧ x8.toNat ≤ atT l0 nm ∧ x8.toNat = x7.toNat + 1 by omega)
      obtain ⟨go, co, eo, gb6, gl6, cl6, HG6⟩ := Kd.R_form HP.out.ho (by have := HL.out; omega)
      injection eo with ea en ec
      subst ea
      subst ec
      clear en gb6 gl6 HG6
      obtain ⟨ce6, hcl6, hM6, hcc6, hfr6⟩ := Kd.R_elem HP.out.ho z31 x7 p6 q6
      obtain rfl := k31_openM hM6
      have hx6_0 : wr.cell? ⟨go, x7.toNat * 2, none⟩ = some (.string ((rd_T31 l0 x7).f0)) := hcc6 0 _ rfl
      have hx6_1 : wr.cell? ⟨go, x7.toNat * 2 + 1, none⟩ = some (.int .i64 ((rd_T31 l0 x7).f1)) := hcc6 1 _ rfl
      have hf6_0 : wr.frozen? ⟨go, x7.toNat * 2, none⟩ = false := hfr6 0
      have hf6_1 : wr.frozen? ⟨go, x7.toNat * 2 + 1, none⟩ = false := hfr6 1
      clear hcl6 hM6 hcc6 hfr6
      replace p6 := eq_true p6
      replace q6 := eq_true q6
      have hcz_0 : wr.cell? ⟨gb, 0, none⟩ = some (.string nm) := (blk_cell HP.out.bk 0).trans rfl
      have hcz_1 : wr.cell? ⟨gb, 1, none⟩ = some (.int .i64 wd) := (blk_cell HP.out.bk 1).trans rfl
      have hfz_0 := blk_frozen HP.out.bk 0
      have hfz_1 := blk_frozen HP.out.bk 1
      have hw1 := HW.out
      have hw2 : IntKind.i64.wrap (x7 + 1) = x8 := by rw [i64_w]; exact hw1
      clear hx8 HW hx hle
      go_wp2
      repeat (go_quiet (fail); try go_wp2)
      go_roundg (atT l0 nm - x7.toNat)
      case measure => have := HX.out; have := HX8.out; omega
      case rel => exact ⟨x8, (by first | rfl | (simp; done) | (simp [*]; done)), ⟨by have := HX.out; have := HX8.out; omega⟩, ⟨(by (with_reducible repeat (first | apply PT.drewN | apply PT.drew | apply PT.alloc)); exact HP.out)⟩⟩
    · have EX := Aside0.mk (show x7 = (atT l0 nm : Int) by have := HX.out; omega)
      clear hx
      rcases Nat.lt_or_ge (atT l0 nm) l0.length with hlt | hge
      · have p6 : 0 ≤ x7 := HX.out.1
        have q6 : x7 < (l0.length : Int) := by have := EX.out; omega
        have hless : Op.bytesLess ((rd_T31 l0 x7).f0.toList) nm.toList = false := by rw [EX.out]; exact atT_ge hlt
        have hlt' : decide (x7 < (l0.length : Int)) = true := decide_eq_true q6
        obtain ⟨go, co, eo, gb6, gl6, cl6, HG6⟩ := Kd.R_form HP.out.ho (by have := HL.out; omega)
        injection eo with ea en ec
        subst ea
        subst ec
        clear en gb6 gl6 HG6
        obtain ⟨ce6, hcl6, hM6, hcc6, hfr6⟩ := Kd.R_elem HP.out.ho z31 x7 p6 q6
        obtain rfl := k31_openM hM6
        have hx6_0 : wr.cell? ⟨go, x7.toNat * 2, none⟩ = some (.string ((rd_T31 l0 x7).f0)) := hcc6 0 _ rfl
        have hx6_1 : wr.cell? ⟨go, x7.toNat * 2 + 1, none⟩ = some (.int .i64 ((rd_T31 l0 x7).f1)) := hcc6 1 _ rfl
        have hf6_0 : wr.frozen? ⟨go, x7.toNat * 2, none⟩ = false := hfr6 0
        have hf6_1 : wr.frozen? ⟨go, x7.toNat * 2 + 1, none⟩ = false := hfr6 1
        clear hcl6 hM6 hcc6 hfr6
        replace p6 := eq_true p6
        replace q6 := eq_true q6
        have hcz_0 : wr.cell? ⟨gb, 0, none⟩ = some (.string nm) := (blk_cell HP.out.bk 0).trans rfl
        have hcz_1 : wr.cell? ⟨gb, 1, none⟩ = some (.int .i64 wd) := (blk_cell HP.out.bk 1).trans rfl
        have hfz_0 := blk_frozen HP.out.bk 0
        have hfz_1 := blk_frozen HP.out.bk 1
        by_cases heq : (rd_T31 l0 x7).f0.toList = nm.toList
        · have heqb : ((rd_T31 l0 x7).f0.toList == nm.toList) = true := beq_iff_eq.mpr heq
          have EO := Aside0.mk (show o2 = l0.set x7.toNat ⟨nm, wd⟩ by rw [eo2, putT, if_pos ⟨hlt, by rw [EX.out] at heq; exact heq⟩, EX.out, Int.toNat_natCast])
          have QX := Aside0.mk (show x7 < (l0.length : Int) by have := EX.out; omega)
          have HC1 := Aside0.mk ((Kd.R_reads' HP.out.ho).2.1)
          have LN := Aside0.mk (show o2.length = l0.length by rw [EO.out, List.length_set])
          clear heq eo2 hlt
          cases b2
          · go_wp2_with (first | ((with_reducible refine gate_dst (N := 54) rfl ?_); refine goesL_ (some 54) rfl rfl Try.func17 (by kernel_rfl) rfl #[.slice (some ⟨go, 0, none⟩) l0.length c1] rfl (by (try simp only [List.map_toArray, List.map_cons, List.map_nil]); first | done | rfl) ?_; refine calls_of_args (args' := #[.slice (some ⟨go, 0, none⟩) o2.length c1]) (by rw [LN.out]) ?_; (with_reducible refine (impl_SchemaOk.calls k (some ⟨go, 0, none⟩) c1 o2 _ _ (Kd.R_reads' (PU.ho (PU.of_set2 (by (with_reducible repeat (first | apply PT.drewN | apply PT.drew | apply PT.alloc)); exact HP.out) HX.out.1 QX.out EO.out))).2.2 (by rw [LN.out]; exact HC1.out) F2.out).mono ?_); rintro e w54 ⟨rfl, hb⟩; refine ⟨_, rfl, ?_⟩; have HU := Aside0.mk (PU.below (PU.of_set2 (by (with_reducible repeat (first | apply PT.drewN | apply PT.drew | apply PT.alloc)); exact HP.out) HX.out.1 QX.out EO.out) hb); clear HP hb) | ((with_reducible refine gate_dst (N := 57) rfl ?_); refine goesL_ (some 57) rfl rfl Try.func16 (by kernel_rfl) rfl #[.slice A0 l0.length c0] rfl (by (try simp only [List.map_toArray, List.map_cons, List.map_nil]); first | done | rfl) ?_; (with_reducible refine (slices_Clone_impl_Table_impl_Table.calls A0 c0 l0 l0 _ (C_now HR0.out (PU.hb (by (with_reducible repeat (first | apply PU.drewN | apply PU.drew | apply PU.alloc)); exact HU.out))) HC0.out FC.out).mono ?_); rintro e w57 ⟨v57, rfl, ho, hb⟩; refine ⟨_, rfl, ?_⟩; have HV := Aside0.mk (Kd.R_lower ho (Below.size (PU.hb (by (with_reducible repeat (first | apply PU.drewN | apply PU.drew | apply PU.alloc)); exact HU.out)))); have HB := Aside0.mk (below_step (PU.hb (by (with_reducible repeat (first | apply PU.drewN | apply PU.drew | apply PU.alloc)); exact HU.out)) hb); clear HU ho hb))
            repeat (go_quiet (fail); try go_wp2_with (first | ((with_reducible refine gate_dst (N := 54) rfl ?_); refine goesL_ (some 54) rfl rfl Try.func17 (by kernel_rfl) rfl #[.slice (some ⟨go, 0, none⟩) l0.length c1] rfl (by (try simp only [List.map_toArray, List.map_cons, List.map_nil]); first | done | rfl) ?_; refine calls_of_args (args' := #[.slice (some ⟨go, 0, none⟩) o2.length c1]) (by rw [LN.out]) ?_; (with_reducible refine (impl_SchemaOk.calls k (some ⟨go, 0, none⟩) c1 o2 _ _ (Kd.R_reads' (PU.ho (PU.of_set2 (by (with_reducible repeat (first | apply PT.drewN | apply PT.drew | apply PT.alloc)); exact HP.out) HX.out.1 QX.out EO.out))).2.2 (by rw [LN.out]; exact HC1.out) F2.out).mono ?_); rintro e w54 ⟨rfl, hb⟩; refine ⟨_, rfl, ?_⟩; have HU := Aside0.mk (PU.below (PU.of_set2 (by (with_reducible repeat (first | apply PT.drewN | apply PT.drew | apply PT.alloc)); exact HP.out) HX.out.1 QX.out EO.out) hb); clear HP hb) | ((with_reducible refine gate_dst (N := 57) rfl ?_); refine goesL_ (some 57) rfl rfl Try.func16 (by kernel_rfl) rfl #[.slice A0 l0.length c0] rfl (by (try simp only [List.map_toArray, List.map_cons, List.map_nil]); first | done | rfl) ?_; (with_reducible refine (slices_Clone_impl_Table_impl_Table.calls A0 c0 l0 l0 _ (C_now HR0.out (PU.hb (by (with_reducible repeat (first | apply PU.drewN | apply PU.drew | apply PU.alloc)); exact HU.out))) HC0.out FC.out).mono ?_); rintro e w57 ⟨v57, rfl, ho, hb⟩; refine ⟨_, rfl, ?_⟩; have HV := Aside0.mk (Kd.R_lower ho (Below.size (PU.hb (by (with_reducible repeat (first | apply PU.drewN | apply PU.drew | apply PU.alloc)); exact HU.out)))); have HB := Aside0.mk (below_step (PU.hb (by (with_reducible repeat (first | apply PU.drewN | apply PU.drew | apply PU.alloc)); exact HU.out)) hb); clear HU ho hb)))
            go_ret2
            exact ⟨_, rfl, by exact (by (with_reducible repeat (first | apply Kd.R_alloc | apply Kd.R_drewN | apply Kd.R_drew)); exact HV.out), (by repeat (first | (with_reducible first | exact HB.out | apply below_alloc | apply pw_below_drewN | apply below_drew1) | exact HB.out))⟩
          · go_wp2_with (first | ((with_reducible refine gate_dst (N := 54) rfl ?_); refine goesL_ (some 54) rfl rfl Try.func17 (by kernel_rfl) rfl #[.slice (some ⟨go, 0, none⟩) l0.length c1] rfl (by (try simp only [List.map_toArray, List.map_cons, List.map_nil]); first | done | rfl) ?_; refine calls_of_args (args' := #[.slice (some ⟨go, 0, none⟩) o2.length c1]) (by rw [LN.out]) ?_; (with_reducible refine (impl_SchemaOk.calls k (some ⟨go, 0, none⟩) c1 o2 _ _ (Kd.R_reads' (PU.ho (PU.of_set2 (by (with_reducible repeat (first | apply PT.drewN | apply PT.drew | apply PT.alloc)); exact HP.out) HX.out.1 QX.out EO.out))).2.2 (by rw [LN.out]; exact HC1.out) F2.out).mono ?_); rintro e w54 ⟨rfl, hb⟩; refine ⟨_, rfl, ?_⟩; have HU := Aside0.mk (PU.below (PU.of_set2 (by (with_reducible repeat (first | apply PT.drewN | apply PT.drew | apply PT.alloc)); exact HP.out) HX.out.1 QX.out EO.out) hb); clear HP hb))
            repeat (go_quiet (fail); try go_wp2_with (first | ((with_reducible refine gate_dst (N := 54) rfl ?_); refine goesL_ (some 54) rfl rfl Try.func17 (by kernel_rfl) rfl #[.slice (some ⟨go, 0, none⟩) l0.length c1] rfl (by (try simp only [List.map_toArray, List.map_cons, List.map_nil]); first | done | rfl) ?_; refine calls_of_args (args' := #[.slice (some ⟨go, 0, none⟩) o2.length c1]) (by rw [LN.out]) ?_; (with_reducible refine (impl_SchemaOk.calls k (some ⟨go, 0, none⟩) c1 o2 _ _ (Kd.R_reads' (PU.ho (PU.of_set2 (by (with_reducible repeat (first | apply PT.drewN | apply PT.drew | apply PT.alloc)); exact HP.out) HX.out.1 QX.out EO.out))).2.2 (by rw [LN.out]; exact HC1.out) F2.out).mono ?_); rintro e w54 ⟨rfl, hb⟩; refine ⟨_, rfl, ?_⟩; have HU := Aside0.mk (PU.below (PU.of_set2 (by (with_reducible repeat (first | apply PT.drewN | apply PT.drew | apply PT.alloc)); exact HP.out) HX.out.1 QX.out EO.out) hb); clear HP hb)))
            go_ret2
            exact ⟨_, rfl, by exact PU.own (by (with_reducible repeat (first | apply PU.drewN | apply PU.drew | apply PU.alloc)); exact HU.out), PU.hb (by (with_reducible repeat (first | apply PU.drewN | apply PU.drew | apply PU.alloc)); exact HU.out)⟩
        · have heqb : ((rd_T31 l0 x7).f0.toList == nm.toList) = false := beq_eq_false_iff_ne.mpr heq
          have EO := Aside0.mk (show o2 = l0.take (atT l0 nm) ++ ⟨nm, wd⟩ :: l0.drop (atT l0 nm) by rw [eo2, putT, if_neg (fun h => heq (by rw [EX.out]; exact h.2))])
          clear heq eo2 hlt
          cases b2
          · go_wp2_with (first | ((with_reducible refine gate_dst (N := 51) rfl ?_); refine lit_event ?hg (N := 51) ?hd (cs := #[.string nm, .int .i64 wd]) (t := 31) (n := 1) ?hr ?_; (case hd => rfl); (case hg => rfl); (case hr => first | (go_simp; done) | (go_simp; rfl)); intro gv hg w51 hbox hb; have BV := Aside0.mk hbox; have n0_ := Aside0.mk (PT.below (by (with_reducible repeat (first | apply PT.drewN | apply PT.drew | apply PT.alloc)); exact HP.out) hb); have NV := Aside0.mk (PT.fresh (by (with_reducible repeat (first | apply PT.drewN | apply PT.drew | apply PT.alloc)); exact HP.out) hg); clear HP hb hg hbox; have HP := n0_; clear n0_) | ((with_reducible refine gate_dst (N := 52) rfl ?_); refine goesL_ (some 52) rfl rfl Try.func18 (by kernel_rfl) rfl #[.slice (some ⟨go, 0, none⟩) l0.length c1, .int .i64 x7, .slice (some ⟨gv, 0, none⟩) 1 1] rfl (by (try simp only [List.map_toArray, List.map_cons, List.map_nil]); first | done | rfl) ?_; (with_reducible refine (slices_Insert_impl_Table.calls (.slice (some ⟨go, 0, none⟩) l0.length c1) B gv (atT l0 nm) x7 l0 ⟨nm, wd⟩ _ (PT.ho (by (with_reducible repeat (first | apply PT.drewN | apply PT.drew | apply PT.alloc)); exact HP.out)) (PT.sB (by (with_reducible repeat (first | apply PT.drewN | apply PT.drew | apply PT.alloc)); exact HP.out)) (by (with_reducible repeat (first | refine blk_drewN ?_ _ | refine blk_drew ?_ | refine blk_alloc ?_ _)); exact BV.out) NV.out EX.out LE.out BIG.out).mono ?_); rintro e w52 ⟨v52, rfl, ho, hb⟩; refine ⟨_, rfl, ?_⟩; have HU := Aside0.mk (PU.mk_ (by (with_reducible repeat (first | apply PT.drewN | apply PT.drew | apply PT.alloc)); exact HP.out) (o2 := o2) (by rw [EO.out]; exact ho) hb); clear HP ho hb; obtain ⟨A2, c2, eo, hc2, _⟩ := Kd.R_reads HU.out.ho; have HC2 := Aside0.mk hc2; clear hc2; subst eo) | ((with_reducible refine gate_dst (N := 54) rfl ?_); refine goesL_ (some 54) rfl rfl Try.func17 (by kernel_rfl) rfl #[.slice A2 o2.length c2] rfl (by (try simp only [List.map_toArray, List.map_cons, List.map_nil]); first | done | rfl) ?_; (with_reducible refine (impl_SchemaOk.calls k A2 c2 o2 _ _ (Kd.R_reads' (PU.ho (by (with_reducible repeat (first | apply PU.drewN | apply PU.drew | apply PU.alloc)); exact HU.out))).2.2 HC2.out F2.out).mono ?_); rintro e w54 ⟨rfl, hb⟩; refine ⟨_, rfl, ?_⟩; have n0_ := Aside0.mk (PU.below (by (with_reducible repeat (first | apply PU.drewN | apply PU.drew | apply PU.alloc)); exact HU.out) hb); clear HU hb; have HU := n0_; clear n0_) | ((with_reducible refine gate_dst (N := 57) rfl ?_); refine goesL_ (some 57) rfl rfl Try.func16 (by kernel_rfl) rfl #[.slice A0 l0.length c0] rfl (by (try simp only [List.map_toArray, List.map_cons, List.map_nil]); first | done | rfl) ?_; (with_reducible refine (slices_Clone_impl_Table_impl_Table.calls A0 c0 l0 l0 _ (C_now HR0.out (PU.hb (by (with_reducible repeat (first | apply PU.drewN | apply PU.drew | apply PU.alloc)); exact HU.out))) HC0.out FC.out).mono ?_); rintro e w57 ⟨v57, rfl, ho, hb⟩; refine ⟨_, rfl, ?_⟩; have HV := Aside0.mk (Kd.R_lower ho (Below.size (PU.hb (by (with_reducible repeat (first | apply PU.drewN | apply PU.drew | apply PU.alloc)); exact HU.out)))); have HB := Aside0.mk (below_step (PU.hb (by (with_reducible repeat (first | apply PU.drewN | apply PU.drew | apply PU.alloc)); exact HU.out)) hb); clear HU ho hb))
            repeat (go_quiet (fail); try go_wp2_with (first | ((with_reducible refine gate_dst (N := 51) rfl ?_); refine lit_event ?hg (N := 51) ?hd (cs := #[.string nm, .int .i64 wd]) (t := 31) (n := 1) ?hr ?_; (case hd => rfl); (case hg => rfl); (case hr => first | (go_simp; done) | (go_simp; rfl)); intro gv hg w51 hbox hb; have BV := Aside0.mk hbox; have n0_ := Aside0.mk (PT.below (by (with_reducible repeat (first | apply PT.drewN | apply PT.drew | apply PT.alloc)); exact HP.out) hb); have NV := Aside0.mk (PT.fresh (by (with_reducible repeat (first | apply PT.drewN | apply PT.drew | apply PT.alloc)); exact HP.out) hg); clear HP hb hg hbox; have HP := n0_; clear n0_) | ((with_reducible refine gate_dst (N := 52) rfl ?_); refine goesL_ (some 52) rfl rfl Try.func18 (by kernel_rfl) rfl #[.slice (some ⟨go, 0, none⟩) l0.length c1, .int .i64 x7, .slice (some ⟨gv, 0, none⟩) 1 1] rfl (by (try simp only [List.map_toArray, List.map_cons, List.map_nil]); first | done | rfl) ?_; (with_reducible refine (slices_Insert_impl_Table.calls (.slice (some ⟨go, 0, none⟩) l0.length c1) B gv (atT l0 nm) x7 l0 ⟨nm, wd⟩ _ (PT.ho (by (with_reducible repeat (first | apply PT.drewN | apply PT.drew | apply PT.alloc)); exact HP.out)) (PT.sB (by (with_reducible repeat (first | apply PT.drewN | apply PT.drew | apply PT.alloc)); exact HP.out)) (by (with_reducible repeat (first | refine blk_drewN ?_ _ | refine blk_drew ?_ | refine blk_alloc ?_ _)); exact BV.out) NV.out EX.out LE.out BIG.out).mono ?_); rintro e w52 ⟨v52, rfl, ho, hb⟩; refine ⟨_, rfl, ?_⟩; have HU := Aside0.mk (PU.mk_ (by (with_reducible repeat (first | apply PT.drewN | apply PT.drew | apply PT.alloc)); exact HP.out) (o2 := o2) (by rw [EO.out]; exact ho) hb); clear HP ho hb; obtain ⟨A2, c2, eo, hc2, _⟩ := Kd.R_reads HU.out.ho; have HC2 := Aside0.mk hc2; clear hc2; subst eo) | ((with_reducible refine gate_dst (N := 54) rfl ?_); refine goesL_ (some 54) rfl rfl Try.func17 (by kernel_rfl) rfl #[.slice A2 o2.length c2] rfl (by (try simp only [List.map_toArray, List.map_cons, List.map_nil]); first | done | rfl) ?_; (with_reducible refine (impl_SchemaOk.calls k A2 c2 o2 _ _ (Kd.R_reads' (PU.ho (by (with_reducible repeat (first | apply PU.drewN | apply PU.drew | apply PU.alloc)); exact HU.out))).2.2 HC2.out F2.out).mono ?_); rintro e w54 ⟨rfl, hb⟩; refine ⟨_, rfl, ?_⟩; have n0_ := Aside0.mk (PU.below (by (with_reducible repeat (first | apply PU.drewN | apply PU.drew | apply PU.alloc)); exact HU.out) hb); clear HU hb; have HU := n0_; clear n0_) | ((with_reducible refine gate_dst (N := 57) rfl ?_); refine goesL_ (some 57) rfl rfl Try.func16 (by kernel_rfl) rfl #[.slice A0 l0.length c0] rfl (by (try simp only [List.map_toArray, List.map_cons, List.map_nil]); first | done | rfl) ?_; (with_reducible refine (slices_Clone_impl_Table_impl_Table.calls A0 c0 l0 l0 _ (C_now HR0.out (PU.hb (by (with_reducible repeat (first | apply PU.drewN | apply PU.drew | apply PU.alloc)); exact HU.out))) HC0.out FC.out).mono ?_); rintro e w57 ⟨v57, rfl, ho, hb⟩; refine ⟨_, rfl, ?_⟩; have HV := Aside0.mk (Kd.R_lower ho (Below.size (PU.hb (by (with_reducible repeat (first | apply PU.drewN | apply PU.drew | apply PU.alloc)); exact HU.out)))); have HB := Aside0.mk (below_step (PU.hb (by (with_reducible repeat (first | apply PU.drewN | apply PU.drew | apply PU.alloc)); exact HU.out)) hb); clear HU ho hb)))
            go_ret2
            exact ⟨_, rfl, by exact (by (with_reducible repeat (first | apply Kd.R_alloc | apply Kd.R_drewN | apply Kd.R_drew)); exact HV.out), (by repeat (first | (with_reducible first | exact HB.out | apply below_alloc | apply pw_below_drewN | apply below_drew1) | exact HB.out))⟩
          · go_wp2_with (first | ((with_reducible refine gate_dst (N := 51) rfl ?_); refine lit_event ?hg (N := 51) ?hd (cs := #[.string nm, .int .i64 wd]) (t := 31) (n := 1) ?hr ?_; (case hd => rfl); (case hg => rfl); (case hr => first | (go_simp; done) | (go_simp; rfl)); intro gv hg w51 hbox hb; have BV := Aside0.mk hbox; have n0_ := Aside0.mk (PT.below (by (with_reducible repeat (first | apply PT.drewN | apply PT.drew | apply PT.alloc)); exact HP.out) hb); have NV := Aside0.mk (PT.fresh (by (with_reducible repeat (first | apply PT.drewN | apply PT.drew | apply PT.alloc)); exact HP.out) hg); clear HP hb hg hbox; have HP := n0_; clear n0_) | ((with_reducible refine gate_dst (N := 52) rfl ?_); refine goesL_ (some 52) rfl rfl Try.func18 (by kernel_rfl) rfl #[.slice (some ⟨go, 0, none⟩) l0.length c1, .int .i64 x7, .slice (some ⟨gv, 0, none⟩) 1 1] rfl (by (try simp only [List.map_toArray, List.map_cons, List.map_nil]); first | done | rfl) ?_; (with_reducible refine (slices_Insert_impl_Table.calls (.slice (some ⟨go, 0, none⟩) l0.length c1) B gv (atT l0 nm) x7 l0 ⟨nm, wd⟩ _ (PT.ho (by (with_reducible repeat (first | apply PT.drewN | apply PT.drew | apply PT.alloc)); exact HP.out)) (PT.sB (by (with_reducible repeat (first | apply PT.drewN | apply PT.drew | apply PT.alloc)); exact HP.out)) (by (with_reducible repeat (first | refine blk_drewN ?_ _ | refine blk_drew ?_ | refine blk_alloc ?_ _)); exact BV.out) NV.out EX.out LE.out BIG.out).mono ?_); rintro e w52 ⟨v52, rfl, ho, hb⟩; refine ⟨_, rfl, ?_⟩; have HU := Aside0.mk (PU.mk_ (by (with_reducible repeat (first | apply PT.drewN | apply PT.drew | apply PT.alloc)); exact HP.out) (o2 := o2) (by rw [EO.out]; exact ho) hb); clear HP ho hb; obtain ⟨A2, c2, eo, hc2, _⟩ := Kd.R_reads HU.out.ho; have HC2 := Aside0.mk hc2; clear hc2; subst eo) | ((with_reducible refine gate_dst (N := 54) rfl ?_); refine goesL_ (some 54) rfl rfl Try.func17 (by kernel_rfl) rfl #[.slice A2 o2.length c2] rfl (by (try simp only [List.map_toArray, List.map_cons, List.map_nil]); first | done | rfl) ?_; (with_reducible refine (impl_SchemaOk.calls k A2 c2 o2 _ _ (Kd.R_reads' (PU.ho (by (with_reducible repeat (first | apply PU.drewN | apply PU.drew | apply PU.alloc)); exact HU.out))).2.2 HC2.out F2.out).mono ?_); rintro e w54 ⟨rfl, hb⟩; refine ⟨_, rfl, ?_⟩; have n0_ := Aside0.mk (PU.below (by (with_reducible repeat (first | apply PU.drewN | apply PU.drew | apply PU.alloc)); exact HU.out) hb); clear HU hb; have HU := n0_; clear n0_))
            repeat (go_quiet (fail); try go_wp2_with (first | ((with_reducible refine gate_dst (N := 51) rfl ?_); refine lit_event ?hg (N := 51) ?hd (cs := #[.string nm, .int .i64 wd]) (t := 31) (n := 1) ?hr ?_; (case hd => rfl); (case hg => rfl); (case hr => first | (go_simp; done) | (go_simp; rfl)); intro gv hg w51 hbox hb; have BV := Aside0.mk hbox; have n0_ := Aside0.mk (PT.below (by (with_reducible repeat (first | apply PT.drewN | apply PT.drew | apply PT.alloc)); exact HP.out) hb); have NV := Aside0.mk (PT.fresh (by (with_reducible repeat (first | apply PT.drewN | apply PT.drew | apply PT.alloc)); exact HP.out) hg); clear HP hb hg hbox; have HP := n0_; clear n0_) | ((with_reducible refine gate_dst (N := 52) rfl ?_); refine goesL_ (some 52) rfl rfl Try.func18 (by kernel_rfl) rfl #[.slice (some ⟨go, 0, none⟩) l0.length c1, .int .i64 x7, .slice (some ⟨gv, 0, none⟩) 1 1] rfl (by (try simp only [List.map_toArray, List.map_cons, List.map_nil]); first | done | rfl) ?_; (with_reducible refine (slices_Insert_impl_Table.calls (.slice (some ⟨go, 0, none⟩) l0.length c1) B gv (atT l0 nm) x7 l0 ⟨nm, wd⟩ _ (PT.ho (by (with_reducible repeat (first | apply PT.drewN | apply PT.drew | apply PT.alloc)); exact HP.out)) (PT.sB (by (with_reducible repeat (first | apply PT.drewN | apply PT.drew | apply PT.alloc)); exact HP.out)) (by (with_reducible repeat (first | refine blk_drewN ?_ _ | refine blk_drew ?_ | refine blk_alloc ?_ _)); exact BV.out) NV.out EX.out LE.out BIG.out).mono ?_); rintro e w52 ⟨v52, rfl, ho, hb⟩; refine ⟨_, rfl, ?_⟩; have HU := Aside0.mk (PU.mk_ (by (with_reducible repeat (first | apply PT.drewN | apply PT.drew | apply PT.alloc)); exact HP.out) (o2 := o2) (by rw [EO.out]; exact ho) hb); clear HP ho hb; obtain ⟨A2, c2, eo, hc2, _⟩ := Kd.R_reads HU.out.ho; have HC2 := Aside0.mk hc2; clear hc2; subst eo) | ((with_reducible refine gate_dst (N := 54) rfl ?_); refine goesL_ (some 54) rfl rfl Try.func17 (by kernel_rfl) rfl #[.slice A2 o2.length c2] rfl (by (try simp only [List.map_toArray, List.map_cons, List.map_nil]); first | done | rfl) ?_; (with_reducible refine (impl_SchemaOk.calls k A2 c2 o2 _ _ (Kd.R_reads' (PU.ho (by (with_reducible repeat (first | apply PU.drewN | apply PU.drew | apply PU.alloc)); exact HU.out))).2.2 HC2.out F2.out).mono ?_); rintro e w54 ⟨rfl, hb⟩; refine ⟨_, rfl, ?_⟩; have n0_ := Aside0.mk (PU.below (by (with_reducible repeat (first | apply PU.drewN | apply PU.drew | apply PU.alloc)); exact HU.out) hb); clear HU hb; have HU := n0_; clear n0_)))
            go_ret2
            exact ⟨_, rfl, by exact PU.own (by (with_reducible repeat (first | apply PU.drewN | apply PU.drew | apply PU.alloc)); exact HU.out), PU.hb (by (with_reducible repeat (first | apply PU.drewN | apply PU.drew | apply PU.alloc)); exact HU.out)⟩
      · have hlt' : decide (x7 < (l0.length : Int)) = false := decide_eq_false (by have := EX.out; omega)
        have EO := Aside0.mk (show o2 = l0.take (atT l0 nm) ++ ⟨nm, wd⟩ :: l0.drop (atT l0 nm) by rw [eo2, putT, if_neg (fun h => by omega)])
        clear hge eo2
        have hcz_0 : wr.cell? ⟨gb, 0, none⟩ = some (.string nm) := (blk_cell HP.out.bk 0).trans rfl
        have hcz_1 : wr.cell? ⟨gb, 1, none⟩ = some (.int .i64 wd) := (blk_cell HP.out.bk 1).trans rfl
        have hfz_0 := blk_frozen HP.out.bk 0
        have hfz_1 := blk_frozen HP.out.bk 1
        cases b2
        · go_wp2_with (first | ((with_reducible refine gate_dst (N := 51) rfl ?_); refine lit_event ?hg (N := 51) ?hd (cs := #[.string nm, .int .i64 wd]) (t := 31) (n := 1) ?hr ?_; (case hd => rfl); (case hg => rfl); (case hr => first | (go_simp; done) | (go_simp; rfl)); intro gv hg w51 hbox hb; have BV := Aside0.mk hbox; have n0_ := Aside0.mk (PT.below (by (with_reducible repeat (first | apply PT.drewN | apply PT.drew | apply PT.alloc)); exact HP.out) hb); have NV := Aside0.mk (PT.fresh (by (with_reducible repeat (first | apply PT.drewN | apply PT.drew | apply PT.alloc)); exact HP.out) hg); clear HP hb hg hbox; have HP := n0_; clear n0_) | ((with_reducible refine gate_dst (N := 52) rfl ?_); refine goesL_ (some 52) rfl rfl Try.func18 (by kernel_rfl) rfl #[.slice A1 l0.length c1, .int .i64 x7, .slice (some ⟨gv, 0, none⟩) 1 1] rfl (by (try simp only [List.map_toArray, List.map_cons, List.map_nil]); first | done | rfl) ?_; (with_reducible refine (slices_Insert_impl_Table.calls (.slice A1 l0.length c1) B gv (atT l0 nm) x7 l0 ⟨nm, wd⟩ _ (PT.ho (by (with_reducible repeat (first | apply PT.drewN | apply PT.drew | apply PT.alloc)); exact HP.out)) (PT.sB (by (with_reducible repeat (first | apply PT.drewN | apply PT.drew | apply PT.alloc)); exact HP.out)) (by (with_reducible repeat (first | refine blk_drewN ?_ _ | refine blk_drew ?_ | refine blk_alloc ?_ _)); exact BV.out) NV.out EX.out LE.out BIG.out).mono ?_); rintro e w52 ⟨v52, rfl, ho, hb⟩; refine ⟨_, rfl, ?_⟩; have HU := Aside0.mk (PU.mk_ (by (with_reducible repeat (first | apply PT.drewN | apply PT.drew | apply PT.alloc)); exact HP.out) (o2 := o2) (by rw [EO.out]; exact ho) hb); clear HP ho hb; obtain ⟨A2, c2, eo, hc2, _⟩ := Kd.R_reads HU.out.ho; have HC2 := Aside0.mk hc2; clear hc2; subst eo) | ((with_reducible refine gate_dst (N := 54) rfl ?_); refine goesL_ (some 54) rfl rfl Try.func17 (by kernel_rfl) rfl #[.slice A2 o2.length c2] rfl (by (try simp only [List.map_toArray, List.map_cons, List.map_nil]); first | done | rfl) ?_; (with_reducible refine (impl_SchemaOk.calls k A2 c2 o2 _ _ (Kd.R_reads' (PU.ho (by (with_reducible repeat (first | apply PU.drewN | apply PU.drew | apply PU.alloc)); exact HU.out))).2.2 HC2.out F2.out).mono ?_); rintro e w54 ⟨rfl, hb⟩; refine ⟨_, rfl, ?_⟩; have n0_ := Aside0.mk (PU.below (by (with_reducible repeat (first | apply PU.drewN | apply PU.drew | apply PU.alloc)); exact HU.out) hb); clear HU hb; have HU := n0_; clear n0_) | ((with_reducible refine gate_dst (N := 57) rfl ?_); refine goesL_ (some 57) rfl rfl Try.func16 (by kernel_rfl) rfl #[.slice A0 l0.length c0] rfl (by (try simp only [List.map_toArray, List.map_cons, List.map_nil]); first | done | rfl) ?_; (with_reducible refine (slices_Clone_impl_Table_impl_Table.calls A0 c0 l0 l0 _ (C_now HR0.out (PU.hb (by (with_reducible repeat (first | apply PU.drewN | apply PU.drew | apply PU.alloc)); exact HU.out))) HC0.out FC.out).mono ?_); rintro e w57 ⟨v57, rfl, ho, hb⟩; refine ⟨_, rfl, ?_⟩; have HV := Aside0.mk (Kd.R_lower ho (Below.size (PU.hb (by (with_reducible repeat (first | apply PU.drewN | apply PU.drew | apply PU.alloc)); exact HU.out)))); have HB := Aside0.mk (below_step (PU.hb (by (with_reducible repeat (first | apply PU.drewN | apply PU.drew | apply PU.alloc)); exact HU.out)) hb); clear HU ho hb))
          repeat (go_quiet (fail); try go_wp2_with (first | ((with_reducible refine gate_dst (N := 51) rfl ?_); refine lit_event ?hg (N := 51) ?hd (cs := #[.string nm, .int .i64 wd]) (t := 31) (n := 1) ?hr ?_; (case hd => rfl); (case hg => rfl); (case hr => first | (go_simp; done) | (go_simp; rfl)); intro gv hg w51 hbox hb; have BV := Aside0.mk hbox; have n0_ := Aside0.mk (PT.below (by (with_reducible repeat (first | apply PT.drewN | apply PT.drew | apply PT.alloc)); exact HP.out) hb); have NV := Aside0.mk (PT.fresh (by (with_reducible repeat (first | apply PT.drewN | apply PT.drew | apply PT.alloc)); exact HP.out) hg); clear HP hb hg hbox; have HP := n0_; clear n0_) | ((with_reducible refine gate_dst (N := 52) rfl ?_); refine goesL_ (some 52) rfl rfl Try.func18 (by kernel_rfl) rfl #[.slice A1 l0.length c1, .int .i64 x7, .slice (some ⟨gv, 0, none⟩) 1 1] rfl (by (try simp only [List.map_toArray, List.map_cons, List.map_nil]); first | done | rfl) ?_; (with_reducible refine (slices_Insert_impl_Table.calls (.slice A1 l0.length c1) B gv (atT l0 nm) x7 l0 ⟨nm, wd⟩ _ (PT.ho (by (with_reducible repeat (first | apply PT.drewN | apply PT.drew | apply PT.alloc)); exact HP.out)) (PT.sB (by (with_reducible repeat (first | apply PT.drewN | apply PT.drew | apply PT.alloc)); exact HP.out)) (by (with_reducible repeat (first | refine blk_drewN ?_ _ | refine blk_drew ?_ | refine blk_alloc ?_ _)); exact BV.out) NV.out EX.out LE.out BIG.out).mono ?_); rintro e w52 ⟨v52, rfl, ho, hb⟩; refine ⟨_, rfl, ?_⟩; have HU := Aside0.mk (PU.mk_ (by (with_reducible repeat (first | apply PT.drewN | apply PT.drew | apply PT.alloc)); exact HP.out) (o2 := o2) (by rw [EO.out]; exact ho) hb); clear HP ho hb; obtain ⟨A2, c2, eo, hc2, _⟩ := Kd.R_reads HU.out.ho; have HC2 := Aside0.mk hc2; clear hc2; subst eo) | ((with_reducible refine gate_dst (N := 54) rfl ?_); refine goesL_ (some 54) rfl rfl Try.func17 (by kernel_rfl) rfl #[.slice A2 o2.length c2] rfl (by (try simp only [List.map_toArray, List.map_cons, List.map_nil]); first | done | rfl) ?_; (with_reducible refine (impl_SchemaOk.calls k A2 c2 o2 _ _ (Kd.R_reads' (PU.ho (by (with_reducible repeat (first | apply PU.drewN | apply PU.drew | apply PU.alloc)); exact HU.out))).2.2 HC2.out F2.out).mono ?_); rintro e w54 ⟨rfl, hb⟩; refine ⟨_, rfl, ?_⟩; have n0_ := Aside0.mk (PU.below (by (with_reducible repeat (first | apply PU.drewN | apply PU.drew | apply PU.alloc)); exact HU.out) hb); clear HU hb; have HU := n0_; clear n0_) | ((with_reducible refine gate_dst (N := 57) rfl ?_); refine goesL_ (some 57) rfl rfl Try.func16 (by kernel_rfl) rfl #[.slice A0 l0.length c0] rfl (by (try simp only [List.map_toArray, List.map_cons, List.map_nil]); first | done | rfl) ?_; (with_reducible refine (slices_Clone_impl_Table_impl_Table.calls A0 c0 l0 l0 _ (C_now HR0.out (PU.hb (by (with_reducible repeat (first | apply PU.drewN | apply PU.drew | apply PU.alloc)); exact HU.out))) HC0.out FC.out).mono ?_); rintro e w57 ⟨v57, rfl, ho, hb⟩; refine ⟨_, rfl, ?_⟩; have HV := Aside0.mk (Kd.R_lower ho (Below.size (PU.hb (by (with_reducible repeat (first | apply PU.drewN | apply PU.drew | apply PU.alloc)); exact HU.out)))); have HB := Aside0.mk (below_step (PU.hb (by (with_reducible repeat (first | apply PU.drewN | apply PU.drew | apply PU.alloc)); exact HU.out)) hb); clear HU ho hb)))
          go_ret2
          exact ⟨_, rfl, by exact (by (with_reducible repeat (first | apply Kd.R_alloc | apply Kd.R_drewN | apply Kd.R_drew)); exact HV.out), (by repeat (first | (with_reducible first | exact HB.out | apply below_alloc | apply pw_below_drewN | apply below_drew1) | exact HB.out))⟩
        · go_wp2_with (first | ((with_reducible refine gate_dst (N := 51) rfl ?_); refine lit_event ?hg (N := 51) ?hd (cs := #[.string nm, .int .i64 wd]) (t := 31) (n := 1) ?hr ?_; (case hd => rfl); (case hg => rfl); (case hr => first | (go_simp; done) | (go_simp; rfl)); intro gv hg w51 hbox hb; have BV := Aside0.mk hbox; have n0_ := Aside0.mk (PT.below (by (with_reducible repeat (first | apply PT.drewN | apply PT.drew | apply PT.alloc)); exact HP.out) hb); have NV := Aside0.mk (PT.fresh (by (with_reducible repeat (first | apply PT.drewN | apply PT.drew | apply PT.alloc)); exact HP.out) hg); clear HP hb hg hbox; have HP := n0_; clear n0_) | ((with_reducible refine gate_dst (N := 52) rfl ?_); refine goesL_ (some 52) rfl rfl Try.func18 (by kernel_rfl) rfl #[.slice A1 l0.length c1, .int .i64 x7, .slice (some ⟨gv, 0, none⟩) 1 1] rfl (by (try simp only [List.map_toArray, List.map_cons, List.map_nil]); first | done | rfl) ?_; (with_reducible refine (slices_Insert_impl_Table.calls (.slice A1 l0.length c1) B gv (atT l0 nm) x7 l0 ⟨nm, wd⟩ _ (PT.ho (by (with_reducible repeat (first | apply PT.drewN | apply PT.drew | apply PT.alloc)); exact HP.out)) (PT.sB (by (with_reducible repeat (first | apply PT.drewN | apply PT.drew | apply PT.alloc)); exact HP.out)) (by (with_reducible repeat (first | refine blk_drewN ?_ _ | refine blk_drew ?_ | refine blk_alloc ?_ _)); exact BV.out) NV.out EX.out LE.out BIG.out).mono ?_); rintro e w52 ⟨v52, rfl, ho, hb⟩; refine ⟨_, rfl, ?_⟩; have HU := Aside0.mk (PU.mk_ (by (with_reducible repeat (first | apply PT.drewN | apply PT.drew | apply PT.alloc)); exact HP.out) (o2 := o2) (by rw [EO.out]; exact ho) hb); clear HP ho hb; obtain ⟨A2, c2, eo, hc2, _⟩ := Kd.R_reads HU.out.ho; have HC2 := Aside0.mk hc2; clear hc2; subst eo) | ((with_reducible refine gate_dst (N := 54) rfl ?_); refine goesL_ (some 54) rfl rfl Try.func17 (by kernel_rfl) rfl #[.slice A2 o2.length c2] rfl (by (try simp only [List.map_toArray, List.map_cons, List.map_nil]); first | done | rfl) ?_; (with_reducible refine (impl_SchemaOk.calls k A2 c2 o2 _ _ (Kd.R_reads' (PU.ho (by (with_reducible repeat (first | apply PU.drewN | apply PU.drew | apply PU.alloc)); exact HU.out))).2.2 HC2.out F2.out).mono ?_); rintro e w54 ⟨rfl, hb⟩; refine ⟨_, rfl, ?_⟩; have n0_ := Aside0.mk (PU.below (by (with_reducible repeat (first | apply PU.drewN | apply PU.drew | apply PU.alloc)); exact HU.out) hb); clear HU hb; have HU := n0_; clear n0_))
          repeat (go_quiet (fail); try go_wp2_with (first | ((with_reducible refine gate_dst (N := 51) rfl ?_); refine lit_event ?hg (N := 51) ?hd (cs := #[.string nm, .int .i64 wd]) (t := 31) (n := 1) ?hr ?_; (case hd => rfl); (case hg => rfl); (case hr => first | (go_simp; done) | (go_simp; rfl)); intro gv hg w51 hbox hb; have BV := Aside0.mk hbox; have n0_ := Aside0.mk (PT.below (by (with_reducible repeat (first | apply PT.drewN | apply PT.drew | apply PT.alloc)); exact HP.out) hb); have NV := Aside0.mk (PT.fresh (by (with_reducible repeat (first | apply PT.drewN | apply PT.drew | apply PT.alloc)); exact HP.out) hg); clear HP hb hg hbox; have HP := n0_; clear n0_) | ((with_reducible refine gate_dst (N := 52) rfl ?_); refine goesL_ (some 52) rfl rfl Try.func18 (by kernel_rfl) rfl #[.slice A1 l0.length c1, .int .i64 x7, .slice (some ⟨gv, 0, none⟩) 1 1] rfl (by (try simp only [List.map_toArray, List.map_cons, List.map_nil]); first | done | rfl) ?_; (with_reducible refine (slices_Insert_impl_Table.calls (.slice A1 l0.length c1) B gv (atT l0 nm) x7 l0 ⟨nm, wd⟩ _ (PT.ho (by (with_reducible repeat (first | apply PT.drewN | apply PT.drew | apply PT.alloc)); exact HP.out)) (PT.sB (by (with_reducible repeat (first | apply PT.drewN | apply PT.drew | apply PT.alloc)); exact HP.out)) (by (with_reducible repeat (first | refine blk_drewN ?_ _ | refine blk_drew ?_ | refine blk_alloc ?_ _)); exact BV.out) NV.out EX.out LE.out BIG.out).mono ?_); rintro e w52 ⟨v52, rfl, ho, hb⟩; refine ⟨_, rfl, ?_⟩; have HU := Aside0.mk (PU.mk_ (by (with_reducible repeat (first | apply PT.drewN | apply PT.drew | apply PT.alloc)); exact HP.out) (o2 := o2) (by rw [EO.out]; exact ho) hb); clear HP ho hb; obtain ⟨A2, c2, eo, hc2, _⟩ := Kd.R_reads HU.out.ho; have HC2 := Aside0.mk hc2; clear hc2; subst eo) | ((with_reducible refine gate_dst (N := 54) rfl ?_); refine goesL_ (some 54) rfl rfl Try.func17 (by kernel_rfl) rfl #[.slice A2 o2.length c2] rfl (by (try simp only [List.map_toArray, List.map_cons, List.map_nil]); first | done | rfl) ?_; (with_reducible refine (impl_SchemaOk.calls k A2 c2 o2 _ _ (Kd.R_reads' (PU.ho (by (with_reducible repeat (first | apply PU.drewN | apply PU.drew | apply PU.alloc)); exact HU.out))).2.2 HC2.out F2.out).mono ?_); rintro e w54 ⟨rfl, hb⟩; refine ⟨_, rfl, ?_⟩; have n0_ := Aside0.mk (PU.below (by (with_reducible repeat (first | apply PU.drewN | apply PU.drew | apply PU.alloc)); exact HU.out) hb); clear HU hb; have HU := n0_; clear n0_)))
          go_ret2
          exact ⟨_, rfl, by exact PU.own (by (with_reducible repeat (first | apply PU.drewN | apply PU.drew | apply PU.alloc)); exact HU.out), PU.hb (by (with_reducible repeat (first | apply PU.drewN | apply PU.drew | apply PU.alloc)); exact HU.out)⟩
theorem impl_PutTable.mono : ∀ a0 a1 a2 k, LeO (impl_PutTable.f k a0 a1 a2) (impl_PutTable.f (k + 1) a0 a1 a2) := by
  intro a0 a1 a2 k
  unfold impl_PutTable.f
  refine LeO.ite ?_ (LeO.none _)
  refine LeO.bind (impl_SchemaOk.mono _ _) (fun _ => ?_)
  refine LeO.ite ?_ (LeO.refl _)
  exact LeO.bind (impl_SchemaOk.mono _ _) (fun _ => LeO.refl _)
theorem impl_PutTable.calls (k : Nat) (A0 : Option Addr) (c0 : Nat) (l0 : List (S31)) (a1_0 : ByteArray) (a1_1 : Int) (r1 : List (S31)) (r2 : Bool) (w : World) (hr0 : Kd.C k31 w A0 l0.length l0) (hc0 : l0.length ≤ c0) (h : impl_PutTable.f k l0 a1_0 a1_1 = some (r1, r2)) :
    Calls Try.prog 9 #[.slice A0 l0.length c0, .agg #[.string a1_0, .int .i64 a1_1]] w fun e w' => ∃ v0_ : Value, e = .returned (.tuple #[v0_, .bool r2]) ∧ Kd.R k31 31 w' w.heap.size (fun _ => True) v0_ r1 ∧ Below w.heap.size w w' := by
  unfold impl_PutTable.f at h
  by_cases hl : l0.length < 5864062014804
  · rw [if_pos hl] at h
    obtain ⟨b1, f1, h⟩ := Option.bind_eq_some_iff.mp h
    cases b1 with
    | false =>
      rw [if_neg (by decide)] at h
      obtain ⟨rfl, rfl⟩ := Prod.mk.inj (Option.some.inj h)
      exact impl_PutTable.no k A0 c0 l0 a1_0 a1_1 w hr0 hc0 hl f1
    | true =>
      rw [if_pos rfl] at h
      obtain ⟨b2, f2, h⟩ := Option.bind_eq_some_iff.mp h
      obtain ⟨rfl, rfl⟩ := Prod.mk.inj (Option.some.inj h)
      exact impl_PutTable.yes k A0 c0 l0 a1_0 a1_1 w hr0 hc0 hl b2 _ rfl f1 f2
  · rw [if_neg hl] at h
    cases h
end Go.Proofs.Ytgbpkbdpjcddhaa.Q
