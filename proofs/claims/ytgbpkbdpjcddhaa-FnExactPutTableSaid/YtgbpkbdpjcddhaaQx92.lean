/- slices.Insert and slices.Clone at rows of tables. -/
import Derived.Test.YtgbpkbdpjcddhaaQx91
import Derived.Test.YtgbpkbdpjcddhaaQx4
namespace Go.Proofs.Ytgbpkbdpjcddhaa.Q
open Go.RowKit Go.Proofs.Ytgbpkbdpjcddhaa.Own Go.Proofs.Ytgbpkbdpjcddhaa Go.Proofs.YtgbpkbdpjcddhaaW.PrintWords Go.Proofs.YtgbpkbdpjcddhaaW.PrintLast Go.Proofs.YtgbpkbdpjcddhaaW.PrintMore
set_option linter.unusedVariables false
set_option linter.unusedSimpArgs false
theorem C_cT {w : World} {A : Option Addr} {n : Nat} {xs : List S31} (h : Kd.C k31 w A n xs) : ReadsRow (fun p cs => cs = cT p) k31.sz w A n xs := ReadsRow.imp_ h (Below.refl w.heap.size w) (fun _ _ hp => k31_open hp)
theorem below_cells {base : Nat} {W w : World} (h : Below base W w) (g : Nat) (hg : base ≤ g) (vs : List Value) (o : Nat) : Below base W (w.setCells g o vs) := by
  obtain ⟨s1, s2, s3, s4⟩ := setCells_same g vs o w
  exact h.trans ⟨s1, s2, s3, by rw [s4]; exact Nat.le_refl _, fun k hk => setCells_far vs o k (by omega)⟩
theorem spl_shift (L L1 L2 A D X : List Value) (o0 o1 m : Nat) (ho : o1 = o0 + 2) (hA : L.take o0 = A) (hAl : A.length = o0) (hX : X.length = 2) (hD : D.length = m) (hL : o1 + m ≤ L.length)
    (h1 : L1 = L.take o1 ++ D ++ L.drop (o1 + D.length)) (h2 : L2 = L1.take o0 ++ X ++ L1.drop (o0 + X.length)) : L2.take (o1 + m) = A ++ X ++ D := by
  have e1 : L1.take o0 = A := by rw [h1, List.append_assoc, List.take_append_of_le_length (by rw [List.length_take]; omega), List.take_take, Nat.min_eq_left (by omega), hA]
  have e2 : L1.drop o1 = D ++ L.drop (o1 + m) := by rw [h1, List.append_assoc, List.drop_left' (by rw [List.length_take]; omega), hD]
  rw [h2, e1, hX, ← ho, e2, ← List.append_assoc]
  exact List.take_left' (by simp only [List.length_append]; omega)
theorem spl_grow (L L1 L2 A D X : List Value) (o0 o1 m : Nat) (ho : o1 = o0 + 2) (hA : L.take o0 = A) (hAl : A.length = o0) (hX : X.length = 2) (hD : D.length = m)
    (h1 : L1 = L.take o0 ++ X ++ L.drop (o0 + X.length)) (h2 : L2 = L1.take o1 ++ D ++ L1.drop (o1 + D.length)) : L2.take (o1 + m) = A ++ X ++ D := by
  have e1 : L1.take o1 = A ++ X := by rw [h1, hA]; exact List.take_left' (by simp only [List.length_append]; omega)
  rw [h2, e1]
  exact List.take_left' (by simp only [List.length_append]; omega)
theorem cTs_mid (a : List S31) (x : S31) (b : List S31) : cTs (a ++ x :: b) = cTs a ++ cTs [x] ++ cTs b := by
  rw [show a ++ x :: b = a ++ ([x] ++ b) from rfl, cTs_app, cTs_app, List.append_assoc]
set_option maxHeartbeats 1000000 in
set_option maxRecDepth 100000 in
theorem ins_end (A : Option Addr) (c vb base : Nat) (xs : List S31) (x : S31) (W : World) (hr : Kd.R k31 31 W base (fun _ => True) (.slice A xs.length c) xs) (hc : xs.length ≤ c) (hb : base ≤ W.heap.size)
    (hv : W.heap[vb]? = some (.cells #[.string x.f0, .int .i64 x.f1] 31 (0, 0))) (hbig : (xs.length + 1) * 24 ≤ 140737488355328) :
    Calls Try.prog 18 #[.slice A xs.length c, .int .i64 (xs.length : Int), .slice (some ⟨vb, 0, none⟩) 1 1] W fun e w' => ∃ v' : Value, e = .returned v' ∧ Kd.R k31 31 w' base (fun _ => True) v' (xs ++ [x]) ∧ Below base W w' := by
  obtain ⟨i0, hi0, _, hsz, _⟩ := info_parts info31
  have HR := Aside0.mk hr
  have HBG := Aside0.mk hbig
  have HBS := Aside0.mk hb
  have hRd : ReadsRow (fun p cs => cs = cT p) k31.sz W (some ⟨vb, 0, none⟩) 1 [x] := by
    refine ⟨rfl, by omega, fun _ => ⟨_, rfl, fun j p hj => ?_⟩⟩
    cases j with
    | zero =>
      obtain rfl : x = p := by simpa using hj
      refine ⟨cT x, rfl, rfl, fun i u hi => ?_⟩
      rw [show ((⟨vb, 0, none⟩ : Addr).add (0 * k31.sz + i)) = ⟨vb, i, none⟩ by rw [addT]; simp, cell_of_row W vb i _ 31 (0, 0) hv]
      match i, hi with
      | 0, hi => simpa [cT] using hi
      | 1, hi => simpa [cT] using hi
      | i + 2, hi => simp [cT] at hi
    | succ j => simp at hj
  have HRD := Aside0.mk hRd
  obtain ⟨u, kA⟩ : ∃ u, ∀ w : World, (Instr.slice 27 (.slice A xs.length c) (some (.int .i64 (xs.length : Int))) none none).run Try.prog w = .ok u w := ⟨_, cut_from 27 31 .i64 Try.underlying27 hi0 2 hsz A xs.length c (xs.length : Int) (by omega) (by omega)⟩
  have hz1 : ((1 : Int) == 0) = false := by decide
  clear hr hb hbig hRd hv hsz hi0
  go_enter Try.func18, Try.ntmps18
  go_wp2_with (at_builtin; refine Kd.R_append_rows k31 (Rr := fun p cs => cs = cT p) (w0 := W) base rfl _ _ 27 31 (.agg #[.string ⟨#[]⟩, .int .i64 0]) 24 rfl Try.underlying27 info31 rfl (by decide) (by omega) (.slice A xs.length c) xs [x] (some ⟨vb, 0, none⟩) 1 1 (fun _ => True) (fun _ => False) rfl rfl HR.out HRD.out (fun p cs h => by subst h; exact k31_mkM _ _ _ _) (fun _ h => h.elim) (fun _ _ => trivial) (Below.refl _ _) HBS.out (by have := HBG.out; omega) ?_; intro v1 w1 ho hb1 hg hat; have HO := Aside0.mk ho; have HB1 := Aside0.mk hb1; clear ho hb1 hg hat)
  go_ret
  exact ⟨_, rfl, HO.out, HB1.out⟩
set_option maxHeartbeats 1000000 in
theorem slices_Insert_impl_Table.calls (v : Value) (base vb i : Nat) (j : Int) (xs : List S31) (x : S31) (W : World) (hr : Kd.R k31 31 W base (fun _ => True) v xs) (hb : base ≤ W.heap.size)
    (hv : W.heap[vb]? = some (.cells #[.string x.f0, .int .i64 x.f1] 31 (0, 0))) (hne : v.ownBlock ≠ some vb) (hj : j = (i : Int)) (hi : i ≤ xs.length) (hbig : (xs.length + 1) * 24 ≤ 140737488355328) :
    Calls Try.prog 18 #[v, .int .i64 j, .slice (some ⟨vb, 0, none⟩) 1 1] W fun e w' => ∃ v' : Value, e = .returned v' ∧ Kd.R k31 31 w' base (fun _ => True) v' (xs.take i ++ x :: xs.drop i) ∧ Below base W w' := by
  subst hj
  have ho := own_of_RT hr
  rcases Nat.lt_or_ge i xs.length with hlt | hge
  · have hlen : (xs.take i ++ x :: xs.drop i).length = xs.length + 1 := by simp only [List.length_append, List.length_take, List.length_cons, List.length_drop]; omega
    have htl : (cTs (xs.take i)).length = i * 2 := by rw [cTs_length, List.length_take, Nat.min_eq_left (by omega)]
    have hdl : (cTs (xs.drop i)).length = (xs.length - i) * 2 := by rw [cTs_length, List.length_drop]
    rcases ho.2 with ⟨_, h0⟩ | ⟨g, c, cur, rfl, hbg, hg, hnc, hcm, hcs, htk⟩
    · omega
    · have hne' : vb ≠ g := fun e => hne (by rw [e]; rfl)
      have hti : cur.toList.take (i * 2) = cTs (xs.take i) := by rw [← cTs_take, ← htk, List.take_take, Nat.min_eq_left (by omega)]
      rcases Nat.lt_or_ge c (xs.length + 1) with hroom | hroom
      · refine (ins_grow g c vb i cur xs x W hg hv hne' hlt hnc hroom hbig htk).mono ?_
        rintro e w' ⟨G, ROW, h1, h2, h3, h4, rfl, rfl⟩
        have a1 : ((W.alloc (.cells ROW 31)).drew).heap[W.heap.size]? = some (.cells ROW 31 (0, 0)) := heap_alloc_new W _
        obtain ⟨c1, b1, b2, b3⟩ := setCells_row (cTs [x]) (i * 2) _ ROW a1 (by rw [cTs_length]; simp only [List.length_singleton]; omega)
        obtain ⟨c2, d1, d2, d3⟩ := setCells_row (cTs (xs.drop i)) ((i + 1) * 2) (((W.alloc (.cells ROW 31)).drew).setCells W.heap.size (i * 2) (cTs [x])).drew c1 b1 (by rw [hdl]; omega)
        refine ⟨_, rfl, R_of_ownT (xs := xs.take i ++ x :: xs.drop i) ⟨cTs_length _, .inr ⟨W.heap.size, G, c2, by rw [hlen], hb, d1, by omega, h2, by omega, ?_⟩⟩ (fun _ _ => trivial), ?_⟩
        · rw [hlen, cTs_mid, show (xs.length + 1) * 2 = (i + 1) * 2 + (xs.length - i) * 2 by omega]
          exact spl_grow ROW.toList c1.toList c2.toList _ _ _ (i * 2) ((i + 1) * 2) _ (by omega) h4 htl rfl hdl b3 d3
        · exact below_cells (Below.drew (below_cells (Below.drew ((Below.refl base W).alloc hb _)) _ hb _ _)) _ hb _ _
      · refine (ins_shift g c vb i cur xs x W hg hv hne' hlt hroom hcm hcs htk).mono ?_
        rintro e w' ⟨rfl, rfl⟩
        obtain ⟨c1, b1, b2, b3⟩ := setCells_row (cTs (xs.drop i)) ((i + 1) * 2) W.drew cur hg (by rw [hdl]; omega)
        obtain ⟨c2, d1, d2, d3⟩ := setCells_row (cTs [x]) (i * 2) _ c1 b1 (by rw [cTs_length]; simp only [List.length_singleton]; omega)
        refine ⟨_, rfl, R_of_ownT (xs := xs.take i ++ x :: xs.drop i) ⟨cTs_length _, .inr ⟨g, c, c2, by rw [hlen], hbg, d1, by omega, hcm, by omega, ?_⟩⟩ (fun _ _ => trivial), ?_⟩
        · rw [hlen, cTs_mid, show (xs.length + 1) * 2 = (i + 1) * 2 + (xs.length - i) * 2 by omega]
          exact spl_shift cur.toList c1.toList c2.toList _ _ _ (i * 2) ((i + 1) * 2) _ (by omega) hti htl rfl hdl (by have := Array.length_toList (xs := cur); omega) b3 d3
        · exact below_cells (below_cells (Below.refl base W).drew _ hbg _ _) _ hbg _ _
  · obtain rfl : i = xs.length := by omega
    obtain ⟨A, c, e1, hc, _⟩ := Kd.R_reads hr
    subst e1
    rw [List.take_length, List.drop_length]
    exact ins_end A c vb base xs x W hr hc hb hv hbig
/-! ### slices_Clone_impl_Table_impl_Table: function 16 -/
def slices_Clone_impl_Table_impl_Table.f (l0 : List S31) : Option (List S31) := (some (([] : List S31) : List S31)).bind fun y171 => (if y171.length + l0.length < 5864062014805 then (some (y171 ++ l0)) else (none))
set_option maxHeartbeats 8000000 in
set_option maxRecDepth 100000 in
theorem slices_Clone_impl_Table_impl_Table.calls_some (A0 : Option Addr) (c0 : Nat) (l0 : List S31) (r : List S31) (w : World) (hr0 : Kd.C k31 w A0 l0.length l0) (hc0 : l0.length ≤ c0) (h : slices_Clone_impl_Table_impl_Table.f l0 = some r) (hs_ : A0.isNone = false) :
    Calls Try.prog 16 #[.slice A0 l0.length c0] w fun e w' => ∃ v0_ : Value, e = .returned (v0_) ∧ Kd.R k31 31 w' w.heap.size (fun _ => True) v0_ r ∧ Below w.heap.size w w' := by
  have HR0 := Aside0.mk hr0
  have HC0 := Aside0.mk hc0
  clear hr0 hc0
  have HB := Aside0.mk (Below.refl w.heap.size w)
  have H : ((some (([] : List S31) : List S31)).bind fun y171 => (if y171.length + l0.length < 5864062014805 then (some (y171 ++ l0)) else (none))) = some r := h
  clear h
  obtain ⟨y171, hy171⟩ : ∃ y_ : List S31, y_ = (([] : List S31)) := ⟨_, rfl⟩
  replace H : (if y171.length + l0.length < 5864062014805 then (some (y171 ++ l0)) else (none)) = some r := by first | (rw [hy171]; with_reducible exact H) | (have H2_ := (Option.bind_some _ _).symm.trans H; rw [hy171]; with_reducible exact H2_) | (have H2_ := (Option.bind_some _ _).symm.trans H; with_reducible exact H2_) | with_reducible exact H | (rw [hy171]; exact H) | exact H
  have Ny171 := Aside0.mk hy171
  clear hy171
  by_cases c2 : y171.length + l0.length < 5864062014805
  · rw [if_pos c2] at H
    have LMc2 := Aside0.mk c2
    clear c2
    obtain ⟨y174, hy174⟩ : ∃ y_ : List S31, y_ = (y171 ++ l0) := ⟨_, rfl⟩
    replace H : (some y174) = some r := by first | (rw [hy174]; with_reducible exact H) | (have H2_ := (Option.bind_some _ _).symm.trans H; rw [hy174]; with_reducible exact H2_) | (have H2_ := (Option.bind_some _ _).symm.trans H; with_reducible exact H2_) | with_reducible exact H | (rw [hy174]; exact H) | exact H
    have Ny174 := Aside0.mk hy174
    clear hy174
    obtain rfl := Option.some.inj H
    have kn_ : ∀ (W : World) (n c : Nat), (binOp .eql 27 (.slice A0 n c) (.slice none 0 0)).run Try.prog W = .ok (.bool false) W := fun W n c => by rw [Lib.run_eql_slice_nil W 27 31 A0 n c 0 0 Try.underlying27, hs_]
    go_enter Try.func16, Try.ntmps16
    go_wp2_with (first | ((with_reducible refine gate_dst (N := 5) rfl ?_); refine Kd.R_lit k31 _ 31 ?hg (N := 5) ?hd (xs := ([] : List S31)) (inner := []) (ok := fun _ => True) (okp := fun _ => True) ?hr ?hp (fun _ hk => hk) trivial (Below.refl _ _) (Nat.le_refl _) (by simp) ?_; (case hd => rfl); (case hg => rfl); (case hr => first | (go_simp; done) | (go_simp; rfl)); (case hp => exact (Reps.none _ _)); intro v172 w3 ho4 hb hg_ hnew_; clear hg_ hnew_; (first | rw [← Ny171.out] at ho4 | (simp only [Int.reduceToNat] at ho4; rw [← Ny171.out] at ho4)); have n0_ := Aside0.mk (Kd.R_lower ho4 (below_size (by repeat (first | (with_reducible first | exact HB.out | apply below_alloc | apply pw_below_drewN | apply below_drew1) | exact HB.out)))); have n1_ := Aside0.mk (below_step (by repeat (first | (with_reducible first | exact HB.out | apply below_alloc | apply pw_below_drewN | apply below_drew1) | exact HB.out)) hb); clear HB; have HO173 := n0_; have HB := n1_; clear n0_ n1_; clear hb ho4) | ((with_reducible refine gate_builtin (b := .append) (xs := #[.tmp 5, .tmp 6]) rfl ?_); at_builtin; refine Kd.R_append_rows k31 (Rr := fun p cs => cs = cT p) (w0 := w) w.heap.size rfl (.tmp 5) (.tmp 6) 27 31 (.agg #[.string ⟨#[]⟩, .int .i64 0]) 24 rfl Try.underlying27 info31 rfl (by decide) (by omega) v172 y171 l0 A0 l0.length c0 (fun _ => True) (fun _ => False) rfl rfl ?aO ?aR ?aK (fun _ h => h.elim) ?aF ?aB ?aS ?aL ?_; (case aR => first | exact C_cT (Kd.C_below HR0.out HB.out) | (with_reducible refine C_cT (Kd.C_drew ?_); exact Kd.C_below HR0.out HB.out)); (case aK => exact (fun p c hpc => by subst hpc; exact k31_mkM _ _ _ _)); (case aB => exact (by repeat (first | (with_reducible first | exact HB.out | apply below_alloc | apply pw_below_drewN | apply below_drew1) | exact HB.out))); (case aF => exact (fun _ _ => trivial)); (case aO => exact (by (with_reducible repeat (first | apply Kd.R_alloc | apply Kd.R_drewN | apply Kd.R_drew)); exact HO173.out)); (case aS => exact (below_size (by repeat (first | (with_reducible first | exact HB.out | apply below_alloc | apply pw_below_drewN | apply below_drew1) | exact HB.out)))); (case aL => have := LMc2.out; omega); intro v175 w5 ho hb hg hat; rw [← Ny174.out] at ho; have n0_ := Aside0.mk (hb); have n1_ := Aside0.mk (ho); clear HB; clear HO173; have HB := n0_; have HO176 := n1_; clear n0_ n1_; clear ho hb hg hat))
    go_ret
    exact ⟨_, by first | rfl | (simp [errW_none, errW_some] <;> rfl) | (simp [*, errW_none, errW_some] <;> rfl), by (with_reducible repeat (first | apply Kd.R_alloc | apply Kd.R_drewN | apply Kd.R_drew)); exact HO176.out, by repeat (first | (with_reducible first | exact HB.out | apply below_alloc | apply pw_below_drewN | apply below_drew1) | exact HB.out)⟩
  · rw [if_neg c2] at H
    exact absurd H (by simp)
set_option maxHeartbeats 8000000 in
set_option maxRecDepth 100000 in
theorem slices_Clone_impl_Table_impl_Table.calls (A0 : Option Addr) (c0 : Nat) (l0 : List S31) (r : List S31) (w : World) (hr0 : Kd.C k31 w A0 l0.length l0) (hc0 : l0.length ≤ c0) (h : slices_Clone_impl_Table_impl_Table.f l0 = some r) :
    Calls Try.prog 16 #[.slice A0 l0.length c0] w fun e w' => ∃ v0_ : Value, e = .returned (v0_) ∧ Kd.R k31 31 w' w.heap.size (fun _ => True) v0_ r ∧ Below w.heap.size w w' := by
  cases A0 with
  | some a => exact slices_Clone_impl_Table_impl_Table.calls_some (some a) c0 l0 r w hr0 hc0 h rfl
  | none =>
    have e : l0 = [] := by
      have h3 := hr0.2.2
      cases l0 with
      | nil => rfl
      | cons x xs => obtain ⟨_, e, _⟩ := h3 (by simp); cases e
    subst e
    have h2 : ([] : List S31) = r := by simpa [slices_Clone_impl_Table_impl_Table.f] using h
    subst h2
    have kn_ : ∀ (W : World) (n c : Nat), (binOp .eql 27 (.slice none n c) (.slice none 0 0)).run Try.prog W = .ok (.bool true) W := fun W n c => Lib.run_eql_slice_nil W 27 31 none n c 0 0 Try.underlying27
    go_enter Try.func16, Try.ntmps16
    go_wp2
    go_ret
    exact ⟨.slice none 0 0, by first | rfl | (simp; done), Kd.R_nil _ _ _ _ _, Below.refl _ _⟩

end Go.Proofs.Ytgbpkbdpjcddhaa.Q
