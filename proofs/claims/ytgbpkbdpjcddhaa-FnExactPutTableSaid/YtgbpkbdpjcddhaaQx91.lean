/- slices.Clone and slices.Insert over rows of tables (two cells each, no pointers), and impl.PutTable over them. -/
import Derived.Test.YtgbpkbdpjcddhaaQx0
import Derived.Test.YtgbpkbdpjcddhaaQx1
import Derived.Shelf.Spec.SlicesInsert
import Derived.Lib.AppendZerosOnto
namespace Go.Proofs.Ytgbpkbdpjcddhaa.Q
open Go.RowKit Go.Proofs.Ytgbpkbdpjcddhaa.Own Go.Proofs.Ytgbpkbdpjcddhaa Go.Proofs.YtgbpkbdpjcddhaaW.PrintWords Go.Proofs.YtgbpkbdpjcddhaaW.PrintLast Go.Proofs.YtgbpkbdpjcddhaaW.PrintMore
set_option linter.unusedVariables false
set_option linter.unusedSimpArgs false
/-! ### cells of tables -/
def cT (x : S31) : List Value := [.string x.f0, .int .i64 x.f1]
def cTs : List S31 → List Value
  | [] => []
  | x :: xs => cT x ++ cTs xs
theorem cTs_length : ∀ xs : List S31, (cTs xs).length = xs.length * 2
  | [] => rfl
  | x :: xs => by simp only [cTs, cT, List.length_append, cTs_length xs, List.length_cons, List.length_nil]; omega
theorem cTs_app : ∀ xs ys : List S31, cTs (xs ++ ys) = cTs xs ++ cTs ys
  | [], ys => rfl
  | x :: xs, ys => by simp only [List.cons_append, cTs, cTs_app xs ys, List.append_assoc]
theorem cTs_take (xs : List S31) (n : Nat) : (cTs xs).take (n * 2) = cTs (xs.take n) := by
  by_cases h : n ≤ xs.length
  · conv => lhs; rw [← List.take_append_drop n xs, cTs_app]
    rw [List.take_left' (by rw [cTs_length, List.length_take]; omega)]
  · rw [List.take_of_length_le (show xs.length ≤ n by omega), List.take_of_length_le (by rw [cTs_length]; omega)]
theorem cTs_drop (xs : List S31) (n : Nat) : (cTs xs).drop (n * 2) = cTs (xs.drop n) := by
  by_cases h : n ≤ xs.length
  · conv => lhs; rw [← List.take_append_drop n xs, cTs_app]
    rw [List.drop_left' (by rw [cTs_length, List.length_take]; omega)]
  · rw [List.drop_eq_nil_of_le (show xs.length ≤ n by omega), List.drop_eq_nil_of_le (by rw [cTs_length]; omega)]; rfl
theorem cTs_one (xs : List S31) : ∀ u ∈ cTs xs, u.oneCell' = true := by
  induction xs with
  | nil => intro u hu; cases hu
  | cons x xs ih =>
    intro u hu
    rcases List.mem_append.1 hu with hu | hu
    · simp only [cT, List.mem_cons, List.not_mem_nil, or_false] at hu
      rcases hu with rfl | rfl <;> rfl
    · exact ih u hu
theorem reps_cTs {w : World} {base : Nat} {ok : Nat → Prop} : ∀ {xs : List S31} {cs : List Value}, Reps (k31.M w base ok) 2 xs cs → cs = cTs xs
  | [], cs, h => List.eq_nil_of_length_eq_zero (by simpa using h.1)
  | x :: xs, cs, h => by
    have h0 := k31_openM (h.2 0 x rfl)
    rw [Nat.zero_mul, List.drop_zero] at h0
    have ih := reps_cTs (w := w) (base := base) (ok := ok) (xs := xs) (cs := cs.drop 2) ⟨by have := h.1; rw [List.length_drop]; simp only [List.length_cons] at this; omega, fun j p hj => by
      have := h.2 (j + 1) p (by simpa using hj)
      rwa [List.drop_drop, show 2 + j * 2 = (j + 1) * 2 by omega]⟩
    rw [cTs, ← ih, cT, ← h0, List.take_append_drop]
theorem cTs_reps {w : World} {base : Nat} {ok : Nat → Prop} (xs : List S31) : Reps (k31.M w base ok) 2 xs (cTs xs) := by
  refine ⟨cTs_length xs, fun j p hj => ?_⟩
  have hl : j < xs.length := by
    rcases Nat.lt_or_ge j xs.length with h | h
    · exact h
    · rw [List.getElem?_eq_none h] at hj; cases hj
  rw [cTs_drop, show (2 : Nat) = 1 * 2 from rfl, cTs_take, List.drop_eq_getElem_cons hl]
  rw [List.getElem?_eq_getElem hl] at hj
  injection hj with hj
  simp only [List.take_succ_cons, List.take_zero, cTs, List.append_nil, hj]
  exact k31_mkM _ _ _ _
theorem own_of_RT {w : World} {base : Nat} {ok : Nat → Prop} {v : Value} {xs : List S31} (h : Kd.R k31 31 w base ok v xs) : w.ownsRow base 31 2 v xs.length (cTs xs) := by
  obtain ⟨_, inner, ho, hr⟩ := h
  obtain rfl := reps_cTs hr
  exact ho
theorem R_of_ownT {w : World} {base : Nat} {ok : Nat → Prop} {v : Value} {xs : List S31} (ho : w.ownsRow base 31 2 v xs.length (cTs xs)) (hok : ∀ k, v.ownBlock = some k → ok k) : Kd.R k31 31 w base ok v xs := ⟨hok, cTs xs, ho, cTs_reps xs⟩
/-- copy, elements of any size. -/
theorem run_copy_sz {P : Program} (w : World) (dT sT ty elem : TypeId) (sz b o dLen dCap : Nat) (a : Addr) (sLen sCap : Nat) (cs : List Value) (n : Nat)
    (hu : P.underlying dT = some (.slice elem)) (hs : (P.info? elem).map (·.size) = some sz) (hn : n = Nat.min sLen dLen) (hl0 : cs.length = n * sz)
    (hsrc : ∀ j v, cs[j]? = some v → w.cell? (a.add j) = some v) (hc : ∀ j, j < cs.length → (w.cell? ⟨b, o + j, none⟩).isSome = true) (hf : ∀ j, j < cs.length → w.frozen? ⟨b, o + j, none⟩ = false) (h1 : ∀ v ∈ cs, v.oneCell' = true) :
    (Builtin.copy_ #[dT, sT] ty #[.slice (some ⟨b, o, none⟩) dLen dCap, .slice (some a) sLen sCap]).run P w = .ok (goInt n) (w.setCells b o cs) := by
  have hl := run_loadCells_list (P := P) w a cs hsrc
  have hst := run_storeCells_cells (P := P) b o cs 0 w (by simpa using hc) (by simpa using hf) h1
  cases hq : P.info? elem with
  | none => simp [hq] at hs
  | some i =>
    have hi : i.size = sz := by simpa [hq] using hs
    rw [hl0] at hl
    simp [Builtin.copy_, run_underlying hu, Builtin.lenOf, Builtin.firstCells, sizeOf, typeInfo, hq, hi, ← hn, hl, hst]
theorem cell_blk {w : World} {g : Nat} {cur : Array Value} {e : TypeId} (hg : w.heap[g]? = some (.cells cur e (0, 0))) (k : Nat) (h : k < cur.size) : w.cell? ⟨g, k, none⟩ = some cur[k] := by
  rw [cell_of_row w g _ cur e (0, 0) hg]; simp [h]
theorem copy_T (w : World) (ty : TypeId) (b o dLen dCap g s sLen sCap : Nat) (ys : List S31) (cur src : Array Value) (eb es : TypeId)
    (hb : w.heap[b]? = some (.cells cur eb (0, 0))) (hs : w.heap[g]? = some (.cells src es (0, 0))) (hn : ys.length = Nat.min sLen dLen)
    (hfit : o + ys.length * 2 ≤ cur.size) (hsrc : (src.toList.drop s).take (ys.length * 2) = cTs ys) :
    (Builtin.copy_ #[27, 27] ty #[.slice (some ⟨b, o, none⟩) dLen dCap, .slice (some ⟨g, s, none⟩) sLen sCap]).run Try.prog w = .ok (goInt ys.length) (w.setCells b o (cTs ys)) := by
  obtain ⟨i0, hi0, _, hsz, _⟩ := info_parts info31
  refine run_copy_sz w 27 27 ty 31 2 b o dLen dCap ⟨g, s, none⟩ sLen sCap (cTs ys) ys.length Try.underlying27 (by rw [hi0]; simp [hsz]) hn (cTs_length ys) ?_ ?_ ?_ (cTs_one ys)
  · intro j v hj
    rw [← hsrc] at hj
    have hj2 : j < ys.length * 2 := by
      rcases Nat.lt_or_ge j (ys.length * 2) with h | h
      · exact h
      · rw [List.getElem?_take, if_neg (by omega)] at hj; cases hj
    rw [List.getElem?_take_of_lt hj2, List.getElem?_drop] at hj
    rw [show (⟨g, s, none⟩ : Addr).add j = ⟨g, s + j, none⟩ by simp [Addr.add], cell_of_row w g _ src es (0, 0) hs]
    simpa using hj
  · intro j hj
    rw [cTs_length] at hj
    rw [cell_blk hb (o + j) (by omega)]; rfl
  · intro j _; exact blk_frozen hb _
theorem addT (g k : Nat) : (⟨g, 0, none⟩ : Addr).add k = ⟨g, k, none⟩ := by rw [add_plain]
set_option maxHeartbeats 1000000 in
set_option maxRecDepth 100000 in
theorem ins_shift (g c vb i : Nat) (cur : Array Value) (xs : List S31) (x : S31) (W : World) (hg : W.heap[g]? = some (.cells cur 31 (0, 0))) (hv : W.heap[vb]? = some (.cells #[.string x.f0, .int .i64 x.f1] 31 (0, 0)))
    (hne : vb ≠ g) (hi : i < xs.length) (hc : xs.length + 1 ≤ c) (hc63 : c ≤ maxLen) (hcs : cur.size = c * 2) (htk : cur.toList.take (xs.length * 2) = cTs xs) :
    Calls Try.prog 18 #[.slice (some ⟨g, 0, none⟩) xs.length c, .int .i64 i, .slice (some ⟨vb, 0, none⟩) 1 1] W fun e w' =>
      e = .returned (.slice (some ⟨g, 0, none⟩) (xs.length + 1) c) ∧ w' = (W.drew.setCells g ((i + 1) * 2) (cTs (xs.drop i))).setCells g (i * 2) (cTs [x]) := by
  obtain ⟨i0, hi0, _, hsz, _⟩ := info_parts info31
  replace hc63 : c ≤ 9223372036854775807 := hc63
  obtain ⟨n, hn⟩ : ∃ n, n = xs.length := ⟨_, rfl⟩
  rw [← hn] at hi hc htk ⊢
  obtain ⟨o0, ho0⟩ : ∃ o, o = i * 2 := ⟨_, rfl⟩
  obtain ⟨o1, ho1⟩ : ∃ o, o = (i + 1) * 2 := ⟨_, rfl⟩
  obtain ⟨n1, hn1⟩ : ∃ o, o = n + 1 := ⟨_, rfl⟩
  obtain ⟨i1, hi1⟩ : ∃ o, o = i + 1 := ⟨_, rfl⟩
  have hz1 : ((1 : Int) == 0) = false := by decide
  have hz2 : decide ((i : Int) = (n : Int)) = false := decide_eq_false (by omega)
  have hz2' : ((i : Int) == (n : Int)) = false := beq_eq_false_iff_ne.2 (by omega)
  have Hw1 := Aside0.mk (show wrap64 ((n : Int) + 1) = (n1 : Int) by unfold wrap64; omega)
  have Hw2 := Aside0.mk (show wrap64 ((i : Int) + 1) = (i1 : Int) by unfold wrap64; omega)
  have hgt : decide ((c : Int) < (n1 : Int)) = false := decide_eq_false (by omega)
  have hgt' : decide (c < n1) = false := decide_eq_false (by omega)
  obtain ⟨la, hla⟩ : ∃ o, o = n - i := ⟨_, rfl⟩
  obtain ⟨lb, hlb⟩ : ∃ o, o = n1 - i := ⟨_, rfl⟩
  obtain ⟨ca, hca⟩ : ∃ o, o = c - i := ⟨_, rfl⟩
  obtain ⟨cb, hcb⟩ : ∃ o, o = c - i1 := ⟨_, rfl⟩
  have kA : ∀ w : World, (Instr.slice 27 (.slice (some ⟨g, 0, none⟩) n c) (some (.int .i64 (i : Int))) none none).run Try.prog w = .ok (.slice (some ⟨g, o0, none⟩) la ca) w := fun w => by
    rw [cut_from 27 31 .i64 Try.underlying27 hi0 2 hsz (some ⟨g, 0, none⟩) n c (i : Int) (by omega) (by omega) w, if_neg (by omega)]
    rw [Option.map_some, addT, Int.toNat_natCast, ← ho0, ← hla, ← hca]
  have kB : ∀ w : World, (Instr.slice 27 (.slice (some ⟨g, 0, none⟩) n c) none (some (.int .i64 (n1 : Int))) none).run Try.prog w = .ok (.slice (some ⟨g, 0, none⟩) n1 c) w := fun w => by
    have hel : Try.prog.elem 27 = 31 := by simp [Program.elem, Try.underlying27]
    rw [run_slice_h w 27 (some ⟨g, 0, none⟩) n c (by rw [hel]; exact Try.underlying27) .i64 (n1 : Int) (by omega) (by omega), hel]
    simp [sizeOf, typeInfo, hi0, sliced, Result.andThen, Addr.add]
  have kC : ∀ w : World, (Instr.slice 27 (.slice (some ⟨g, 0, none⟩) n1 c) (some (.int .i64 (i1 : Int))) none none).run Try.prog w = .ok (.slice (some ⟨g, o1, none⟩) la cb) w := fun w => by
    rw [cut_from 27 31 .i64 Try.underlying27 hi0 2 hsz (some ⟨g, 0, none⟩) n1 c (i1 : Int) (by omega) (by omega) w, if_neg (by omega)]
    rw [Option.map_some, addT, Int.toNat_natCast, show i1 * 2 = o1 by omega, show n1 - i1 = la by omega, ← hcb]
  have kD : ∀ w : World, (Instr.slice 27 (.slice (some ⟨g, 0, none⟩) n1 c) (some (.int .i64 (i : Int))) none none).run Try.prog w = .ok (.slice (some ⟨g, o0, none⟩) lb ca) w := fun w => by
    rw [cut_from 27 31 .i64 Try.underlying27 hi0 2 hsz (some ⟨g, 0, none⟩) n1 c (i : Int) (by omega) (by omega) w, if_neg (by omega)]
    rw [Option.map_some, addT, Int.toNat_natCast, ← ho0, ← hlb, ← hca]
  have hov : ∀ w : World, w = W → (callFunc 25 #[.slice (some ⟨vb, 0, none⟩) 1 1, .slice (some ⟨g, o1, none⟩) la cb]).run Try.prog w = .ok (.value (.bool false)) w := fun w hw => by
    subst hw
    rw [run_callFunc_extern Try.func25 (by kernel_rfl) (by kernel_rfl) (by kernel_rfl) (e := Extern.SlicesOverlaps.overlaps #[27, 27] #[4]) (by kernel_rfl),
      Lib.run_overlaps_apart w 27 4 31 Try.underlying27 2 (fun w => by simp [Go.sizeOf, typeInfo, hi0, hsz]) ⟨vb, 0, none⟩ ⟨g, o1, none⟩ 1 1 la cb hne 31 31 2 (c * 2) (by simp [World.shape?, hv]) (by simp [World.shape?, hg, hcs]) (by omega) (blk_frozen hv _) (blk_frozen hv _)]
    rfl
  have hdl : (xs.drop i).length = la := by rw [List.length_drop, hla, hn]
  have htk2 : ∀ m, m ≤ n → (cur.toList.drop (i * 2)).take (m * 2) = cTs ((xs.drop i).take m) ∨ True := fun _ _ => .inr trivial
  have hsrc1 : (cur.toList.drop (i * 2)).take ((xs.drop i).length * 2) = cTs (xs.drop i) := by
    rw [hdl, ← cTs_drop, ← htk, List.drop_take, show n * 2 - i * 2 = la * 2 by omega]
  have hcp1 : ∀ ty, (Builtin.copy_ #[27, 27] ty #[.slice (some ⟨g, o1, none⟩) la cb, .slice (some ⟨g, o0, none⟩) lb ca]).run Try.prog W.drew = .ok (goInt (xs.drop i).length) (W.drew.setCells g o1 (cTs (xs.drop i))) := fun ty =>
    copy_T W.drew ty g o1 la cb g o0 lb ca (xs.drop i) cur cur 31 31 hg hg (by rw [hdl]; simp only [Nat.min_def]; split <;> omega) (by rw [hdl]; omega) (by rw [ho0]; exact hsrc1)
  obtain ⟨cur', h3, h4, h5⟩ := setCells_row (cTs (xs.drop i)) o1 W.drew cur hg (by rw [cTs_length, hdl]; omega)
  obtain ⟨W1, hW1⟩ : ∃ W1, W1 = W.drew.setCells g o1 (cTs (xs.drop i)) := ⟨_, rfl⟩
  rw [← hW1] at hcp1 h3
  have hv1 : W1.heap[vb]? = some (.cells #[.string x.f0, .int .i64 x.f1] 31 (0, 0)) := by rw [hW1, setCells_far _ _ vb hne]; exact hv
  have hcp2 : ∀ ty, (Builtin.copy_ #[27, 27] ty #[.slice (some ⟨g, o0, none⟩) lb ca, .slice (some ⟨vb, 0, none⟩) 1 1]).run Try.prog W1 = .ok (goInt 1) (W1.setCells g o0 (cTs [x])) := fun ty =>
    copy_T W1 ty g o0 lb ca vb 0 1 1 [x] cur' #[.string x.f0, .int .i64 x.f1] 31 31 h3 hv1 (by simp only [List.length_singleton, Nat.min_def]; split <;> omega) (by simp only [List.length_singleton]; omega) rfl
  rw [← ho0]
  rw [← ho1, ← hW1, ← hn1]
  have hw1 := Hw1.out
  have hw2 := Hw2.out
  have hw1' : IntKind.i64.wrap ((n : Int) + 1) = (n1 : Int) := by rw [i64_w]; exact hw1
  have hw2' : IntKind.i64.wrap ((i : Int) + 1) = (i1 : Int) := by rw [i64_w]; exact hw2
  clear Hw1 Hw2 hn hla hlb hca hcb hn1 hi1 ho0 ho1 hc63 hc hi hcs htk hdl htk2 hsrc1 h4 h5
  have mixed : Try.prog.follows .mixedOrders = true := by kernel_rfl
  subst hW1
  go_enter Try.func18, Try.ntmps18
  go_wp2_with (simp only [hov _ rfl])
  go_region_law_o (refine step_copy_runI rfl _ _ 27 27 rfl _ _ (by simp [Act.eval, Act.put]) (by simp [Act.eval, Act.put]) (hcp1 _) ?_)
  go_wp2_with (at_builtin; refine wpList_copy_runI _ rfl _ _ 27 27 rfl _ _ rfl rfl (hcp2 _) ?_)
  go_ret
  exact ⟨rfl, rfl⟩
set_option maxHeartbeats 1000000 in
set_option maxRecDepth 100000 in
theorem ins_grow (g c vb i : Nat) (cur : Array Value) (xs : List S31) (x : S31) (W : World) (hg : W.heap[g]? = some (.cells cur 31 (0, 0))) (hv : W.heap[vb]? = some (.cells #[.string x.f0, .int .i64 x.f1] 31 (0, 0)))
    (hne : vb ≠ g) (hi : i < xs.length) (hnc : xs.length ≤ c) (hroom : c < xs.length + 1) (hbig : (xs.length + 1) * 24 ≤ 140737488355328) (htk : cur.toList.take (xs.length * 2) = cTs xs) :
    Calls Try.prog 18 #[.slice (some ⟨g, 0, none⟩) xs.length c, .int .i64 i, .slice (some ⟨vb, 0, none⟩) 1 1] W fun e w' =>
      ∃ (G : Nat) (ROW : Array Value), xs.length + 1 ≤ G ∧ G ≤ maxLen ∧ ROW.size = G * 2 ∧ ROW.toList.take (i * 2) = cTs (xs.take i) ∧
      e = .returned (.slice (some ⟨W.heap.size, 0, none⟩) (xs.length + 1) G) ∧ w' = ((((W.alloc (.cells ROW 31)).drew).setCells W.heap.size (i * 2) (cTs [x])).drew).setCells W.heap.size ((i + 1) * 2) (cTs (xs.drop i)) := by
  obtain ⟨i0, hi0, hz0, hsz, hbz⟩ := info_parts info31
  obtain ⟨n, hn⟩ : ∃ n, n = xs.length := ⟨_, rfl⟩
  rw [← hn] at hi hnc hroom hbig htk ⊢
  obtain ⟨o0, ho0⟩ : ∃ o, o = i * 2 := ⟨_, rfl⟩
  obtain ⟨o1, ho1⟩ : ∃ o, o = (i + 1) * 2 := ⟨_, rfl⟩
  obtain ⟨n1, hn1⟩ : ∃ o, o = n + 1 := ⟨_, rfl⟩
  obtain ⟨i1, hi1⟩ : ∃ o, o = i + 1 := ⟨_, rfl⟩
  obtain ⟨la, hla⟩ : ∃ o, o = n - i := ⟨_, rfl⟩
  obtain ⟨lb, hlb⟩ : ∃ o, o = n1 - i := ⟨_, rfl⟩
  obtain ⟨ca, hca⟩ : ∃ o, o = c - i := ⟨_, rfl⟩
  obtain ⟨G, hG⟩ : ∃ G, G = grownCap W n1 c 31 := ⟨_, rfl⟩
  obtain ⟨N, hN⟩ : ∃ N, N = W.heap.size := ⟨_, rfl⟩
  obtain ⟨Ga, hGa⟩ : ∃ o, o = G - i := ⟨_, rfl⟩
  obtain ⟨Gb, hGb⟩ : ∃ o, o = G - i1 := ⟨_, rfl⟩
  have hz1 : ((1 : Int) == 0) = false := by decide
  have hz2 : decide ((i : Int) = (n : Int)) = false := decide_eq_false (by omega)
  have hz2' : ((i : Int) == (n : Int)) = false := beq_eq_false_iff_ne.2 (by omega)
  have Hw1 := Aside0.mk (show wrap64 ((n : Int) + 1) = (n1 : Int) by unfold wrap64; omega)
  have Hw2 := Aside0.mk (show wrap64 ((i : Int) + 1) = (i1 : Int) by unfold wrap64; omega)
  have Hw3 := Aside0.mk (show wrap64 ((n1 : Int) - (i : Int)) = (lb : Int) by unfold wrap64; omega)
  have hgt : decide ((c : Int) < (n1 : Int)) = true := decide_eq_true (by omega)
  have hgt' : decide (c < n1) = true := decide_eq_true (by omega)
  have hGn : n1 ≤ G := by rw [hG]; exact grownCap_ge W _ _ _
  have hGm : G ≤ maxLen := by rw [hG]; exact grownCap_le_maxLen W n1 c 31 (by simp only [maxLen]; omega)
  have hG63 : G ≤ 9223372036854775807 := hGm
  have hti : cur.toList.take (i * 2) = cTs (xs.take i) := by rw [← cTs_take, ← htk, List.take_take, Nat.min_eq_left (by omega)]
  have htl : (xs.take i).length = i := by rw [List.length_take]; omega
  have kA : ∀ w : World, (Instr.slice 27 (.slice (some ⟨g, 0, none⟩) n c) (some (.int .i64 (i : Int))) none none).run Try.prog w = .ok (.slice (some ⟨g, o0, none⟩) la ca) w := fun w => by
    rw [cut_from 27 31 .i64 Try.underlying27 hi0 2 hsz (some ⟨g, 0, none⟩) n c (i : Int) (by omega) (by omega) w, if_neg (by omega)]
    rw [Option.map_some, addT, Int.toNat_natCast, ← ho0, ← hla, ← hca]
  have kB : ∀ w : World, (Instr.slice 27 (.slice (some ⟨g, 0, none⟩) n c) none (some (.int .i64 (i : Int))) none).run Try.prog w = .ok (.slice (some ⟨g, 0, none⟩) i c) w := fun w => by
    have hel : Try.prog.elem 27 = 31 := by simp [Program.elem, Try.underlying27]
    rw [run_slice_h w 27 (some ⟨g, 0, none⟩) n c (by rw [hel]; exact Try.underlying27) .i64 (i : Int) (by omega) (by omega), hel]
    simp [sizeOf, typeInfo, hi0, sliced, Result.andThen, Addr.add]
  have kC : ∀ w : World, (Instr.slice 27 (.slice (some ⟨N, 0, none⟩) n1 G) (some (.int .i64 (i1 : Int))) none none).run Try.prog w = .ok (.slice (some ⟨N, o1, none⟩) la Gb) w := fun w => by
    rw [cut_from 27 31 .i64 Try.underlying27 hi0 2 hsz (some ⟨N, 0, none⟩) n1 G (i1 : Int) (by omega) (by omega) w, if_neg (by omega)]
    rw [Option.map_some, addT, Int.toNat_natCast, show i1 * 2 = o1 by omega, show n1 - i1 = la by omega, ← hGb]
  have kD : ∀ w : World, (Instr.slice 27 (.slice (some ⟨N, 0, none⟩) n1 G) (some (.int .i64 (i : Int))) none none).run Try.prog w = .ok (.slice (some ⟨N, o0, none⟩) lb Ga) w := fun w => by
    rw [cut_from 27 31 .i64 Try.underlying27 hi0 2 hsz (some ⟨N, 0, none⟩) n1 G (i : Int) (by omega) (by omega) w, if_neg (by omega)]
    rw [Option.map_some, addT, Int.toNat_natCast, ← ho0, ← hlb, ← hGa]
  obtain ⟨ROW, hROW⟩ : ∃ ROW : Array Value, ROW = (cTs (xs.take i)).toArray ++ Builtin.zeroCells (Value.agg #[.string ⟨#[]⟩, .int .i64 0]).cells lb ++ Builtin.zeroCells (Value.agg #[.string ⟨#[]⟩, .int .i64 0]).cells (G - n1) := ⟨_, rfl⟩
  have hZs : (Value.agg #[.string ⟨#[]⟩, .int .i64 0]).cells.size = 2 := rfl
  have hRs : ROW.size = G * 2 := by
    rw [hROW]
    simp only [Array.size_append, List.size_toArray, size_zeroCells, hZs, cTs_length, htl]
    omega
  have hRt : ROW.toList.take (i * 2) = cTs (xs.take i) := by
    rw [hROW, Array.toList_append, Array.toList_append, List.append_assoc]
    exact List.take_left' (by rw [cTs_length, htl])
  have hold : (Builtin.firstCells i0.size i (.slice (some ⟨g, 0, none⟩) i c)).run Try.prog W.drew = .ok (cTs (xs.take i)).toArray W.drew := by
    rw [hsz]
    refine run_firstCells_some (w := W.drew) 2 i ⟨g, 0, none⟩ i c (cTs (xs.take i)) (by rw [cTs_length, htl]) (fun j v hj => ?_)
    rw [addT, cell_of_row W.drew g j cur 31 (0, 0) hg]
    rw [← hti, List.getElem?_take] at hj
    split at hj
    · simpa using hj
    · cases hj
  have hrz : ∀ ty, (Builtin.append_ #[27, 3] ty #[.slice (some ⟨g, 0, none⟩) i c, .int .i64 (lb : Int)]).run Try.prog W = .ok (.slice (some ⟨N, 0, none⟩) n1 G) (W.drew.alloc (.cells ROW 31)) := fun ty => by
    have h := Lib.run_append_grow_zeros W 27 3 ty 31 i0 _ .i64 .i64 Try.underlying27 Try.underlying3 hi0 hz0 (some ⟨g, 0, none⟩) i c (cTs (xs.take i)) hold lb (by omega) (by rw [hsz]; omega) (by omega) (by omega) (by rw [hbz]; omega) (by rw [hbz]; exact growslice_fits (by omega) (by omega))
    rw [show i + lb = n1 by omega, ← hG, ← hN] at h
    rw [hROW]
    exact h
  have hdl : (xs.drop i).length = la := by rw [List.length_drop, hla, hn]
  have hsrc1 : (cur.toList.drop (i * 2)).take ((xs.drop i).length * 2) = cTs (xs.drop i) := by
    rw [hdl, ← cTs_drop, ← htk, List.drop_take, show n * 2 - i * 2 = la * 2 by omega]
  have hgN : g < N := by
    rcases Nat.lt_or_ge g W.heap.size with h | h
    · omega
    · rw [Array.getElem?_eq_none h] at hg; cases hg
  have hvN : vb < N := by
    rcases Nat.lt_or_ge vb W.heap.size with h | h
    · omega
    · rw [Array.getElem?_eq_none h] at hv; cases hv
  have hcA : ∀ w : World, w.heap[N]? = some (.cells ROW 31 (0, 0)) → w.heap[vb]? = some (.cells #[.string x.f0, .int .i64 x.f1] 31 (0, 0)) → ∀ ty, (Builtin.copy_ #[27, 27] ty #[.slice (some ⟨N, o0, none⟩) lb Ga, .slice (some ⟨vb, 0, none⟩) 1 1]).run Try.prog w = .ok (goInt 1) (w.setCells N o0 (cTs [x])) := fun w h1 h2 ty =>
    copy_T w ty N o0 lb Ga vb 0 1 1 [x] ROW #[.string x.f0, .int .i64 x.f1] 31 31 h1 h2 (by simp only [List.length_singleton, Nat.min_def]; split <;> omega) (by simp only [List.length_singleton]; omega) rfl
  have hcB : ∀ w : World, (∃ cr : Array Value, w.heap[N]? = some (.cells cr 31 (0, 0)) ∧ cr.size = G * 2) → w.heap[g]? = some (.cells cur 31 (0, 0)) → ∀ ty, (Builtin.copy_ #[27, 27] ty #[.slice (some ⟨N, o1, none⟩) la Gb, .slice (some ⟨g, o0, none⟩) la ca]).run Try.prog w = .ok (goInt (xs.drop i).length) (w.setCells N o1 (cTs (xs.drop i))) := fun w h1 h2 ty => by
    obtain ⟨cr, h3, h4⟩ := h1
    exact copy_T w ty N o1 la Gb g o0 la ca (xs.drop i) cr cur 31 31 h3 h2 (by rw [hdl]; simp only [Nat.min_def]; split <;> omega) (by rw [hdl]; omega) (by rw [ho0]; exact hsrc1)
  have a1 : ((W.alloc (.cells ROW 31)).drew).heap[N]? = some (.cells ROW 31 (0, 0)) := by rw [hN]; exact heap_alloc_new W _
  have a2 : ∀ k u, k < N → W.heap[k]? = some u → ((W.alloc (.cells ROW 31)).drew).heap[k]? = some u := fun k u hk h => (heap_alloc_old W _ (show k < W.heap.size from hN ▸ hk)).trans h
  have a3 := a2 _ _ hvN hv
  have a4 := a2 _ _ hgN hg
  have b1 : ∃ cr : Array Value, ((((W.alloc (.cells ROW 31)).drew).setCells N o0 (cTs [x])).drew).heap[N]? = some (.cells cr 31 (0, 0)) ∧ cr.size = G * 2 := by
    obtain ⟨cr, h3, h4, _⟩ := setCells_row (cTs [x]) o0 ((W.alloc (.cells ROW 31)).drew) ROW a1 (by rw [cTs_length]; simp only [List.length_singleton]; omega)
    exact ⟨cr, h3, by rw [h4, hRs]⟩
  have b2 : ((((W.alloc (.cells ROW 31)).drew).setCells N o0 (cTs [x])).drew).heap[g]? = some (.cells cur 31 (0, 0)) := (setCells_far (cTs [x]) o0 g (show g ≠ N by omega)).trans a4
  rw [← ho0]
  rw [← ho1, ← hn1]
  have hw1 := Hw1.out
  have hw2 := Hw2.out
  have hw3 := Hw3.out
  have hw1' : IntKind.i64.wrap ((n : Int) + 1) = (n1 : Int) := by rw [i64_w]; exact hw1
  have hw2' : IntKind.i64.wrap ((i : Int) + 1) = (i1 : Int) := by rw [i64_w]; exact hw2
  have hw3' : IntKind.i64.wrap ((n1 : Int) - (i : Int)) = (lb : Int) := by rw [i64_w]; exact hw3
  have HR := And.intro hGn (And.intro hGm (And.intro hRs (show ROW.toList.take o0 = cTs (xs.take i) by rw [ho0]; exact hRt)))
  have HRA := Aside0.mk HR
  rw [← hN]
  clear HR hold hROW hG hRs hRt hGn hGm hG63 Hw1 Hw2 Hw3 hn hla hlb hca hn1 hi1 ho0 ho1 hroom hnc hi htk hti htl hdl hsrc1 hGa hGb hbig hgN hvN a2 hN
  have mixed : Try.prog.follows .mixedOrders = true := by kernel_rfl
  go_enter Try.func18, Try.ntmps18
  go_wp2_with (first
    | (at_builtin; refine Lib.wpList_append_run _ rfl _ _ _ _ rfl _ _ rfl rfl _ _ (hrz _) ?_)
    | (at_builtin; refine wpList_copy_runI _ rfl _ _ 27 27 rfl _ _ rfl rfl (hcA _ a1 a3 _) ?_))
  go_region_law_o (refine step_copy_runI rfl _ _ 27 27 rfl _ _ (by simp [Act.eval, Act.put]) (by simp [Act.eval, Act.put]) (hcB _ b1 b2 _) ?_)
  go_wp2
  go_ret
  exact ⟨G, ROW, HRA.out.1, HRA.out.2.1, HRA.out.2.2.1, HRA.out.2.2.2, rfl, rfl⟩
end Go.Proofs.Ytgbpkbdpjcddhaa.Q
