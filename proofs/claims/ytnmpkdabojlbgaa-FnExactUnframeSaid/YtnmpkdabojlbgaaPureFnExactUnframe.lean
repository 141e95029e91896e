/- Of every list of bytes: the program's Unframe gives what the reference's Unframe gives, in new memory of its own, and its argument stays as it was. -/
import Derived.Test.YtnmpkdabojlbgaaQmFnExactUnframe
import Derived.Test.YtnmpkdabojlbgaaShapes
import Derived.Test.YtnmpkdabojlbgaaLib
set_option linter.unusedVariables false
set_option linter.unusedSimpArgs false
namespace Go.Proofs.Ytnmpkdabojlbgaa.Pure
namespace EFnExactUnframe
open Go.RowKit Go.Proofs.YtnmpkdabojlbgaaW.PrintWords Go.Proofs.YtnmpkdabojlbgaaW.PrintLast Go.Proofs.YtnmpkdabojlbgaaW.PrintMore Go.Proofs.Ytnmpkdabojlbgaa.Lib Go.Proofs.Ytnmpkdabojlbgaa.Q

def frameB (b : List Int) : List Int := [80, 83] ++ (putNum b.length ++ (b ++ putNum (checkOf b)))
def frame (b : List Int) : List Int × Bool := if b.length ≤ 4000 then (frameB b, true) else ([], false)
theorem Bytes_app {a b : List Int} (ha : Bytes a) (hb : Bytes b) : Bytes (a ++ b) := fun x hx => (List.mem_append.1 hx).elim (ha x) (hb x)
theorem Bytes_put (x : Int) : Bytes (putNum x) := putNum_range x
theorem Bytes_nil : Bytes [] := fun x hx => by cases hx
theorem frameB_length (b : List Int) : (frameB b).length ≤ b.length + 8 := by
  have := putNum_length (b.length : Int)
  have := putNum_length (checkOf b)
  simp [frameB]; omega
theorem frame_length (b : List Int) : (frame b).1.length ≤ b.length + 8 := by
  unfold frame
  split
  · exact frameB_length b
  · simp
theorem checkOf_num (b : List Int) : isNumB (checkOf b) = true := by
  have := checkTo_range b b.length
  show decide _ = true
  rw [decide_eq_true_eq]
  unfold checkOf
  omega

/-! A number that is read is written so, one way alone. -/
theorem rd_app (a l : List Int) (j : Nat) : rd (a ++ l) ((a.length + j : Nat) : Int) = rd l (j : Int) := by
  show (a ++ l).getD ((a.length + j : Nat) : Int).toNat 0 = l.getD ((j : Nat) : Int).toNat 0
  rw [Int.toNat_natCast, Int.toNat_natCast, List.getD_eq_getElem?_getD, List.getD_eq_getElem?_getD, List.getElem?_append_right (by omega), Nat.add_sub_cancel_left]
theorem rd_cons0 (x : Int) (l : List Int) : rd (x :: l) 0 = x := rfl
theorem rd_cons1 (x y : Int) (l : List Int) : rd (x :: y :: l) 1 = y := rfl
theorem rd_cons2 (x y z : Int) (l : List Int) : rd (x :: y :: z :: l) 2 = z := rfl
theorem unzig {x : Int} (h : isNumB x = true) : (if zig x % 2 = 1 then -((zig x + 1) / 2) else zig x / 2) = x := by
  unfold zig
  split <;> split <;> omega
theorem takeFin_zig {x : Int} (h : isNumB x = true) (v i p : Int) (hv : v ≠ 0 ∨ i ≤ 0) : takeFin (zig x) v i p = (x, p + i + 1) := by
  unfold takeFin
  rw [unzig h, if_neg (by rw [h]; simp; omega)]
theorem rd_app0 (a l : List Int) : rd (a ++ l) (a.length : Int) = rd l 0 := by
  have := rd_app a l 0
  simpa using this
theorem rd_app1 (a l : List Int) : rd (a ++ l) ((a.length : Int) + 1) = rd l 1 := rd_app a l 1
theorem rd_app2 (a l : List Int) : rd (a ++ l) ((a.length : Int) + 2) = rd l 2 := rd_app a l 2
theorem takeNum_put (a r : List Int) (x : Int) (h : isNumB x = true) : takeNum (a ++ (putNum x ++ r)) (a.length : Int) = (x, (a.length : Int) + (putNum x).length) := by
  have hz := zig_range h
  have hl : ((a ++ (putNum x ++ r)).length : Int) = a.length + (putNum x).length + r.length := by simp only [List.length_append]; omega
  unfold takeNum
  rw [rd_app0, rd_app1, rd_app2, hl]
  by_cases c1 : zig x < 128
  · have e : putNum x = [zig x] := by unfold putNum groups; rw [if_pos h, if_pos c1]
    have el : (putNum x).length = 1 := by rw [e]; rfl
    have q0 : rd (putNum x ++ r) 0 = zig x := by rw [e]; rfl
    rw [q0, if_neg (by omega), if_pos c1, takeFin_zig h _ _ _ (.inr (by omega))]
    exact congrArg (Prod.mk x) (by omega)
  by_cases c2 : zig x < 16384
  · have e : putNum x = [zig x % 128 + 128, zig x / 128] := by unfold putNum groups; rw [if_pos h, if_neg c1, if_pos c2]
    have el : (putNum x).length = 2 := by rw [e]; rfl
    have q0 : rd (putNum x ++ r) 0 = zig x % 128 + 128 := by rw [e]; rfl
    have q1 : rd (putNum x ++ r) 1 = zig x / 128 := by rw [e]; rfl
    rw [q0, q1, if_neg (by omega), if_neg (by omega), if_neg (by omega), if_pos (by omega), show (zig x % 128 + 128) % 128 + zig x / 128 * 128 = zig x by omega, takeFin_zig h _ _ _ (.inl (by omega))]
    exact congrArg (Prod.mk x) (by omega)
  · have e : putNum x = [zig x % 128 + 128, zig x / 128 % 128 + 128, zig x / 16384] := by unfold putNum groups; rw [if_pos h, if_neg c1, if_neg c2]
    have el : (putNum x).length = 3 := by rw [e]; rfl
    have q0 : rd (putNum x ++ r) 0 = zig x % 128 + 128 := by rw [e]; rfl
    have q1 : rd (putNum x ++ r) 1 = zig x / 128 % 128 + 128 := by rw [e]; rfl
    have q2 : rd (putNum x ++ r) 2 = zig x / 16384 := by rw [e]; rfl
    rw [q0, q1, q2, if_neg (by omega), if_neg (by omega), if_neg (by omega), if_neg (by omega), if_neg (by omega), if_pos (by omega), show (zig x % 128 + 128) % 128 + (zig x / 128 % 128 + 128) % 128 * 128 + zig x / 16384 * 16384 = zig x by omega, takeFin_zig h _ _ _ (.inl (by omega))]
    exact congrArg (Prod.mk x) (by omega)
theorem zig_un {u x : Int} (h0 : 0 ≤ u) (hx : x = if u % 2 = 1 then -((u + 1) / 2) else u / 2) : zig x = u := by
  unfold zig
  subst hx
  split <;> split <;> omega
theorem takeFin_some {u v i p x q : Int} (h : takeFin u v i p = (x, q)) (hq : 0 ≤ q) : isNumB x = true ∧ (x = if u % 2 = 1 then -((u + 1) / 2) else u / 2) ∧ q = p + i + 1 ∧ (v ≠ 0 ∨ i ≤ 0) := by
  unfold takeFin at h
  by_cases c : (v = 0 ∧ 0 < i) ∨ isNumB (if u % 2 = 1 then -((u + 1) / 2) else u / 2) = false
  · rw [if_pos c] at h
    injection h with h1 h2
    omega
  · rw [if_neg c] at h
    injection h with h1 h2
    subst h1
    simp only [not_or, Bool.not_eq_false] at c
    exact ⟨c.2, rfl, h2.symm, by have := c.1; omega⟩
theorem seg1 (b : List Int) (p : Nat) (h : p < b.length) : (b.take (p + 1)).drop p = [rd b p] := by
  rw [List.drop_take, drop_rd b p h, show p + 1 - p = 1 by omega]; rfl
theorem seg2 (b : List Int) (p : Nat) (h : p + 1 < b.length) : (b.take (p + 2)).drop p = [rd b p, rd b ((p : Int) + 1)] := by
  rw [List.drop_take, drop_rd b p (by omega), drop_rd b (p + 1) h, show p + 2 - p = 2 by omega]
  simp
theorem seg3 (b : List Int) (p : Nat) (h : p + 2 < b.length) : (b.take (p + 3)).drop p = [rd b p, rd b ((p : Int) + 1), rd b ((p : Int) + 2)] := by
  rw [List.drop_take, drop_rd b p (by omega), drop_rd b (p + 1) (by omega), drop_rd b (p + 2) h, show p + 3 - p = 3 by omega]
  simp
theorem takeNum_canon (b : List Int) (hb : Bytes b) (p : Nat) {x q : Int} (h : takeNum b (p : Int) = (x, q)) (hq : 0 ≤ q) : (b.take q.toNat).drop p = putNum x ∧ isNumB x = true := by
  have b0 := Bytes_rd hb (p : Int)
  have b1 := Bytes_rd hb ((p : Int) + 1)
  have b2 := Bytes_rd hb ((p : Int) + 2)
  have neg : ∀ {y : Int × Int}, y = (0, -1) → y = (x, q) → False := fun e1 e2 => by
    rw [e1] at e2
    injection e2 with _ e3
    omega
  unfold takeNum at h
  by_cases c0 : (p : Int) < 0 ∨ (b.length : Int) ≤ p
  · rw [if_pos c0] at h; exact (neg rfl h).elim
  rw [if_neg c0] at h
  by_cases c1 : rd b (p : Int) < 128
  · rw [if_pos c1] at h
    obtain ⟨g1, g2, g3, _⟩ := takeFin_some h hq
    have hz := zig_un b0.1 g2
    refine ⟨?_, g1⟩
    rw [show q.toNat = p + 1 by omega, seg1 b p (by omega), putNum, if_pos g1, groups, hz, if_pos c1]
  rw [if_neg c1] at h
  by_cases c2 : (b.length : Int) ≤ (p : Int) + 1
  · rw [if_pos c2] at h; exact (neg rfl h).elim
  rw [if_neg c2] at h
  by_cases c3 : rd b ((p : Int) + 1) < 128
  · rw [if_pos c3] at h
    obtain ⟨g1, g2, g3, g4⟩ := takeFin_some h hq
    have hz := zig_un (by omega) g2
    refine ⟨?_, g1⟩
    rw [show q.toNat = p + 2 by omega, seg2 b p (by omega), putNum, if_pos g1, groups, hz, if_neg (by omega), if_pos (by omega)]
    congr 1
    · omega
    · congr 1; omega
  rw [if_neg c3] at h
  by_cases c4 : (b.length : Int) ≤ (p : Int) + 2
  · rw [if_pos c4] at h; exact (neg rfl h).elim
  rw [if_neg c4] at h
  by_cases c5 : rd b ((p : Int) + 2) < 128
  · rw [if_pos c5] at h
    obtain ⟨g1, g2, g3, g4⟩ := takeFin_some h hq
    have hz := zig_un (by omega) g2
    refine ⟨?_, g1⟩
    rw [show q.toNat = p + 3 by omega, seg3 b p (by omega), putNum, if_pos g1, groups, hz, if_neg (by omega), if_neg (by omega)]
    congr 1
    · omega
    · congr 1
      · omega
      · congr 1; omega
  · rw [if_neg c5] at h; exact (neg rfl h).elim

def bodyF (b : List Int) : List Int := (b.take ((takeNum b 2).2 + (takeNum b 2).1).toNat).drop (takeNum b 2).2.toNat
def unOk (b : List Int) : Bool := decide (b.take 2 = [80, 83] ∧ 0 ≤ (takeNum b 2).2 ∧ 0 ≤ (takeNum b 2).1 ∧ (takeNum b 2).1 ≤ 4000 ∧ (takeNum b 2).1 ≤ (b.length : Int) - (takeNum b 2).2 ∧ frameB (bodyF b) = b)
def unframe (b : List Int) : List Int × Bool := if unOk b = true then (bodyF b, true) else ([], false)
theorem bodyF_length {b : List Int} (h0 : 0 ≤ (takeNum b 2).2) (h1 : 0 ≤ (takeNum b 2).1) (h2 : (takeNum b 2).1 ≤ (b.length : Int) - (takeNum b 2).2) : ((bodyF b).length : Int) = (takeNum b 2).1 := by
  unfold bodyF
  rw [List.length_drop, List.length_take]
  omega
theorem unframe_length (b : List Int) : (unframe b).1.length ≤ b.length := by
  unfold unframe
  split
  · unfold bodyF; simp; omega
  · simp
theorem Bytes_sub {b : List Int} (hb : Bytes b) (i j : Nat) : Bytes ((b.take j).drop i) := fun x hx => hb x (List.mem_of_mem_take (List.mem_of_mem_drop hx))
theorem Bytes_body {b : List Int} (hb : Bytes b) : Bytes (bodyF b) := Bytes_sub hb _ _
theorem Bytes_unframe {b : List Int} (hb : Bytes b) : Bytes (unframe b).1 := by
  unfold unframe
  split
  · exact Bytes_body hb
  · exact Bytes_nil
theorem parts3 (b : List Int) (i j k : Nat) (h1 : i ≤ j) (h2 : j ≤ k) : b = b.take i ++ ((b.take j).drop i ++ ((b.take k).drop j ++ b.drop k)) := by
  have e : ∀ (u v : Nat), u ≤ v → b.take u ++ (b.take v).drop u = b.take v := fun u v h => by
    have := List.take_append_drop u (b.take v)
    rwa [List.take_take, Nat.min_eq_left h] at this
  rw [← List.append_assoc, e i j h1, ← List.append_assoc, e j k h2, List.take_append_drop]
theorem frame_iff {b : List Int} (hb : Bytes b) (hp : b.take 2 = [80, 83]) (h0 : 0 ≤ (takeNum b 2).2) (h1 : 0 ≤ (takeNum b 2).1) (h2 : (takeNum b 2).1 ≤ (b.length : Int) - (takeNum b 2).2) :
    (takeNum b ((takeNum b 2).2 + (takeNum b 2).1) = (checkOf (bodyF b), (b.length : Int))) ↔ frameB (bodyF b) = b := by
  have hbl := bodyF_length h0 h1 h2
  have hnx := takeNum_next b 2
  have hn : isNumB (takeNum b 2).1 = true := by
    rcases hnx with h | h
    · omega
    · exact h.2.2.2.2
  constructor
  · intro h
    obtain ⟨c1, _⟩ := takeNum_canon b hb 2 (x := (takeNum b 2).1) (q := (takeNum b 2).2) rfl h0
    have h' : takeNum b ((((takeNum b 2).2 + (takeNum b 2).1).toNat : Nat) : Int) = (checkOf (bodyF b), (b.length : Int)) := by
      rw [show (((((takeNum b 2).2 + (takeNum b 2).1).toNat : Nat)) : Int) = (takeNum b 2).2 + (takeNum b 2).1 by omega]; exact h
    obtain ⟨c2, _⟩ := takeNum_canon b hb _ h' (by omega)
    rw [show ((b.length : Int)).toNat = b.length by omega, List.take_length] at c2
    have hps := parts3 b 2 (takeNum b 2).2.toNat ((takeNum b 2).2 + (takeNum b 2).1).toNat (by rcases hnx with h | h <;> omega) (by omega)
    rw [hp, c1, c2] at hps
    unfold frameB
    rw [hbl]
    exact hps.symm
  · intro h
    have e1 := takeNum_put [80, 83] (bodyF b ++ putNum (checkOf (bodyF b))) ((bodyF b).length : Int) (by rw [hbl]; exact hn)
    have e0 : [80, 83] ++ (putNum ((bodyF b).length : Int) ++ (bodyF b ++ putNum (checkOf (bodyF b)))) = b := h
    rw [e0] at e1
    have e1' : takeNum b 2 = (((bodyF b).length : Int), (2 : Int) + ((putNum ((bodyF b).length : Int)).length : Int)) := e1
    have e2 := takeNum_put ([80, 83] ++ (putNum ((bodyF b).length : Int) ++ bodyF b)) [] (checkOf (bodyF b)) (checkOf_num _)
    have e3 : [80, 83] ++ (putNum ((bodyF b).length : Int) ++ bodyF b) ++ (putNum (checkOf (bodyF b)) ++ []) = b := by
      refine Eq.trans ?_ e0
      simp only [List.append_assoc, List.append_nil]
    have hlen : (b.length : Int) = 2 + (putNum ((bodyF b).length : Int)).length + (bodyF b).length + (putNum (checkOf (bodyF b))).length := by
      have := congrArg List.length e0
      simp only [List.length_append, List.length_cons, List.length_nil] at this
      omega
    have hf : (takeNum b 2).2 = 2 + (putNum ((bodyF b).length : Int)).length := by rw [e1']
    have hm : (takeNum b 2).1 = ((bodyF b).length : Int) := hbl.symm
    rw [hf, hm]
    have e4 : takeNum b ((([80, 83] ++ (putNum ((bodyF b).length : Int) ++ bodyF b) : List Int).length : Nat) : Int) = (checkOf (bodyF b), ((([80, 83] ++ (putNum ((bodyF b).length : Int) ++ bodyF b) : List Int).length : Nat) : Int) + (putNum (checkOf (bodyF b))).length) := by
      have := e2
      rwa [e3] at this
    have hl2 : ((([80, 83] ++ (putNum ((bodyF b).length : Int) ++ bodyF b) : List Int).length : Nat) : Int) = 2 + ((putNum ((bodyF b).length : Int)).length : Int) + ((bodyF b).length : Int) := by
      simp only [List.length_append, List.length_cons, List.length_nil]; omega
    rw [hl2] at e4
    rw [e4]
    congr 1
    omega
theorem strOf_inj {a b : List Int} (ha : Bytes a) (hb : Bytes b) : ((strOfNums a).toList == (strOfNums b).toList) = decide (a = b) := by
  have key : ∀ {a b : List Int}, Bytes a → Bytes b → (a.map fun n => UInt8.ofNat n.toNat) = (b.map fun n => UInt8.ofNat n.toNat) → a = b := by
    intro a
    induction a with
    | nil => intro b _ _ h; cases b with | nil => rfl | cons y ys => cases h
    | cons x xs ih =>
      intro b ha hb h
      cases b with
      | nil => cases h
      | cons y ys =>
        rw [List.map_cons, List.map_cons] at h
        injection h with h1 h2
        have hx := ha x List.mem_cons_self
        have hy := hb y List.mem_cons_self
        have h3 : (UInt8.ofNat x.toNat).toNat = (UInt8.ofNat y.toNat).toNat := by rw [h1]
        rw [UInt8.toNat_ofNat', UInt8.toNat_ofNat'] at h3
        rw [ih (fun z hz => ha z (List.mem_cons_of_mem _ hz)) (fun z hz => hb z (List.mem_cons_of_mem _ hz)) h2]
        congr 1
        omega
  rw [Bool.eq_iff_iff, beq_iff_eq, decide_eq_true_eq, Lib.toList_data, Lib.toList_data, strOfNums_data, strOfNums_data]
  exact ⟨key ha hb, fun h => by rw [h]⟩

theorem bytesEq_eq {a b : List Int} (ha : Bytes a) (hb : Bytes b) : bytes_Equal.f a b = some (decide (a = b)) := by
  simp only [bytes_Equal.f, strOf_inj ha hb]

theorem hasPS_eq {b : List Int} (hb : Bytes b) : bytes_HasPrefix.f b [80, 83] = some (decide (b.take 2 = [80, 83])) := by
  unfold bytes_HasPrefix.f
  by_cases h : ([80, 83] : List Int).length ≤ b.length
  · rw [if_pos h, bytesEq_eq (fun x hx => hb x (List.mem_of_mem_take hx)) (fun x hx => by simp at hx; omega)]; rfl
  · rw [if_neg h, decide_eq_false]
    intro e
    have := congrArg List.length e
    simp at this h
    omega

theorem ev_impl_CheckOf_l0 (b : List Int) (hb : Bytes b) (hl : b.length ≤ 1099511627776) : ∀ (d i : Nat), i + d = b.length → Ev (fun k => impl_CheckOf.l0 k (checkTo b i) b (b.length : Int) i) (checkOf b) := by
  intro d
  induction d with
  | zero =>
    intro i h
    obtain rfl : i = b.length := by omega
    apply Ev.step
    · intro k; rw [impl_CheckOf.l0]
    simp only [if_neg (show ¬ ((b.length : Int) < b.length) by omega)]
    exact Ev.now _
  | succ d ih =>
    intro i h
    have ih' := ih (i + 1) (by omega)
    have hc := checkTo_range b i
    have hr := Bytes_rd hb i
    apply Ev.step
    · intro k; rw [impl_CheckOf.l0]
    simp only [if_pos (show (i : Int) < b.length by omega), if_pos (show (0 : Int) ≤ i by omega), w64 (x := (i : Int) + 1) (by omega), w64 (x := rd b i) (by omega), w64 (x := 269 * checkTo b i) (by omega), w64 (x := 269 * checkTo b i + rd b i) (by omega), tmod_nn (show 0 ≤ 269 * checkTo b i + rd b i by omega)]
    exact ih'
theorem ev_impl_CheckOf (b : List Int) (hb : Bytes b) (hl : b.length ≤ 1099511627776) : Ev (fun k => impl_CheckOf.f k b) (checkOf b) :=
  ev_impl_CheckOf_l0 b hb hl b.length 0 (by omega)

theorem impl_in_eq (a b c : Int) : impl_in.f a b c = some (decide (b ≤ a ∧ a ≤ c)) := by
  unfold impl_in.f
  by_cases h : b ≤ a
  · rw [if_pos h]; simp [h]
  · rw [if_neg (show ¬ a ≥ b from h)]; simp [h]

theorem impl_isNum_eq (a : Int) : impl_isNum.f a = some (isNumB a) := by
  unfold impl_isNum.f; rw [impl_in_eq]; rfl

theorem ev_impl_PutNum_l0 (n : Int) (h : 0 ≤ n ∧ n < 2097152) : Ev (fun k => impl_PutNum.l0 k n []) (groups n) := by
  unfold groups
  by_cases h1 : n < 128
  · apply Ev.step
    · intro k; rw [impl_PutNum.l0]
    simp only [if_neg (show ¬ n ≥ 128 by omega), if_pos h1, List.length_nil, List.nil_append]
    exact Ev.const (by simp; omega)
  · apply Ev.step
    · intro k; rw [impl_PutNum.l0]
    simp only [if_pos (show n ≥ 128 by omega), if_neg h1, List.length_nil, List.nil_append, tmod_nn h.1, tdiv_nn h.1, w64 (x := n % 128 + 128) (by omega), w64 (x := n / 128) (by omega), show (n % 128 + 128) % 256 = n % 128 + 128 by omega]
    simp only [show (0 : Nat) < 140737488355328 by omega, if_true]
    by_cases h2 : n < 16384
    · apply Ev.step
      · intro k; rw [impl_PutNum.l0]
      simp only [if_neg (show ¬ n / 128 ≥ 128 by omega), if_pos h2, List.length_cons, List.length_nil]
      exact Ev.const (by simp; omega)
    · apply Ev.step
      · intro k; rw [impl_PutNum.l0]
      simp only [if_pos (show n / 128 ≥ 128 by omega), if_neg h2, List.length_cons, List.length_nil, tmod_nn (show 0 ≤ n / 128 by omega), tdiv_nn (show 0 ≤ n / 128 by omega), w64 (x := n / 128 % 128 + 128) (by omega), w64 (x := n / 128 / 128) (by omega), show (n / 128 % 128 + 128) % 256 = n / 128 % 128 + 128 by omega]
      simp only [show (0 + 1 : Nat) < 140737488355328 by omega, if_true, List.cons_append, List.nil_append]
      apply Ev.step
      · intro k; rw [impl_PutNum.l0]
      simp only [if_neg (show ¬ n / 128 / 128 ≥ 128 by omega), List.length_cons, List.length_nil]
      exact Ev.const (by simp; omega)
theorem ev_impl_PutNum (x : Int) : Ev (fun k => impl_PutNum.f k x) (putNum x) := by
  unfold putNum
  simp only [impl_PutNum.f, impl_isNum_eq, Option.bind_some]
  by_cases h : isNumB x = true
  · have hz := zig_range h
    have hb : -1000000 ≤ x ∧ x ≤ 1000000 := by simpa [isNumB] using h
    simp only [h, if_true]
    unfold zig at hz ⊢
    by_cases h0 : x < 0
    · simp only [h0, if_true] at hz ⊢
      apply Ev.step
      · intro k; rw [impl_PutNum.j0]
      simp only [w64 (x := -2 * x) (by omega), w64 (x := -2 * x - 1) (by omega)]
      exact ev_impl_PutNum_l0 _ (by omega)
    · simp only [h0, if_false] at hz ⊢
      apply Ev.step
      · intro k; rw [impl_PutNum.j0]
      simp only [w64 (x := 2 * x) (by omega)]
      exact ev_impl_PutNum_l0 _ (by omega)
  · simp only [h]
    exact Ev.now _

theorem concat_eq (k : Nat) (l : List (List Int)) (h : slices_Concat_byte_byte.sum l ≤ 35184372088832) : slices_Concat_byte_byte.f k l = some l.flatten := by
  unfold slices_Concat_byte_byte.f
  rw [if_pos h]

theorem ev_impl_Frame (b : List Int) (hb : Bytes b) (hl : b.length ≤ 1048576) : Ev (fun k => impl_Frame.f k b) (frame b) := by
  simp only [impl_Frame.f, frame]
  have p1 := putNum_length (b.length : Int)
  have p2 := putNum_length (checkOf b)
  by_cases h : b.length ≤ 4000
  · simp only [if_neg (show ¬ (b.length : Int) > 4000 by omega), if_pos h]
    refine Ev.bind (ev_impl_PutNum _) ?_
    refine Ev.bind (ev_impl_CheckOf b hb (by omega)) ?_
    refine Ev.bind (ev_impl_PutNum _) ?_
    simp only [concat_eq _ [([80, 83] : List Int), putNum b.length, b, putNum (checkOf b)] (by simp [slices_Concat_byte_byte.sum]; omega), Option.bind_some]
    exact Ev.const (by simp [frameB])
  · simp only [if_pos (show (b.length : Int) > 4000 by omega), if_neg h]
    exact Ev.now _

theorem impl_fin (b : List Int) (hb : Bytes b) (hl : b.length ≤ 1048576) (p q u s : Int) (hp : 0 ≤ p ∧ p ≤ q) (hlt : q < b.length) (hu : 0 ≤ u ∧ u ≤ 2097152) (hs : s = 1 ∨ s = 128 ∨ s = 16384) (hv : rd b q < 128) :
    Ev (fun k => impl_TakeNum.j1 k b p u s q true) (takeFin (u + rd b q * s) (rd b q) (q - p) p) := by
  have hr := Bytes_rd hb q
  have hm : 0 ≤ rd b q * s ∧ rd b q * s ≤ 266338304 := by
    rcases hs with e | e | e <;> subst e <;> omega
  generalize hm0 : rd b q * s = m at *
  have e5 : Int.tmod (rd b q) 128 = rd b q := by rw [tmod_nn (by omega)]; omega
  have e4 : wrap64 (rd b q) = rd b q := w64 (by omega)
  apply Ev.step
  · intro k; rw [impl_TakeNum.j1]
  simp only [e5, e4, hm0, w64 (x := m) (by omega), if_true, if_pos (show (0 : Int) ≤ q by omega), if_pos hlt, if_neg (show ¬ rd b q ≥ 128 by omega), w64 (x := u + m) (by omega), tmod_nn (show 0 ≤ u + m by omega), impl_isNum_eq, Option.bind_some, w64 (x := u + m + 1) (by omega), w64 (x := -(u + m + 1)) (by omega), tdiv_neg' (show 0 ≤ u + m + 1 by omega), tdiv_nn (show 0 ≤ u + m by omega), w64 (x := -((u + m + 1) / 2)) (by omega), w64 (x := (u + m) / 2) (by omega), w64 (x := q + 1) (by omega)]
  refine Ev.const ?_
  unfold takeFin
  have e6 : p + (q - p) + 1 = q + 1 := by omega
  rw [e6]
  by_cases h1 : (u + m) % 2 = 1
  · simp only [h1, if_true]
    by_cases h2 : rd b q = 0
    · by_cases h3 : p < q
      · rw [if_pos (show (rd b q = 0 ∧ 0 < q - p) ∨ _ from Or.inl ⟨h2, by omega⟩)]
        simp [h2, h3]
      · have h3' : ¬ 0 < q - p := by omega
        simp [h2, h3, h3']; split <;> simp_all
    · simp [h2]; split <;> simp_all
  · simp only [h1, if_false]
    by_cases h2 : rd b q = 0
    · by_cases h3 : p < q
      · rw [if_pos (show (rd b q = 0 ∧ 0 < q - p) ∨ _ from Or.inl ⟨h2, by omega⟩)]
        simp [h2, h3]
      · have h3' : ¬ 0 < q - p := by omega
        simp [h2, h3, h3']; split <;> simp_all
    · simp [h2]; split <;> simp_all
theorem impl_cont (b : List Int) (hb : Bytes b) (hl : b.length ≤ 1048576) (p q u s : Int) (r : Int × Int) (hp : 0 ≤ p ∧ p ≤ q) (hlt : q < b.length) (hu : 0 ≤ u ∧ u ≤ 2097152) (hs : s = 1 ∨ s = 128 ∨ s = 16384) (hv : ¬ rd b q < 128)
    (h : Ev (fun k => impl_TakeNum.l0 k b p (u + rd b q % 128 * s) (s * 128) (q + 1)) r) : Ev (fun k => impl_TakeNum.j1 k b p u s q true) r := by
  have hr := Bytes_rd hb q
  have hm : 0 ≤ rd b q % 128 * s ∧ rd b q % 128 * s ≤ 266338304 := by
    rcases hs with e | e | e <;> subst e <;> omega
  generalize hm0 : rd b q % 128 * s = m at *
  have e5 : Int.tmod (rd b q) 128 = rd b q % 128 := tmod_nn (by omega)
  apply Ev.step
  · intro k; rw [impl_TakeNum.j1]
  simp only [e5, w64 (x := rd b q % 128) (by omega), hm0, w64 (x := m) (by omega), if_true, if_pos (show (0 : Int) ≤ q by omega), if_pos hlt, if_pos (show rd b q ≥ 128 by omega), w64 (x := u + m) (by omega), w64 (x := q + 1) (by omega), w64 (x := s * 128) (by omega)]
  exact h
theorem impl_head (b : List Int) (hl : b.length ≤ 1048576) (p q u s : Int) (r : Int × Int) (hp : 0 ≤ p ∧ p ≤ q ∧ p ≤ 9223372036854775807) (hr : (b.length : Int) ≤ q ∨ p + 3 ≤ q → r = (0, -1))
    (h : ¬ ((b.length : Int) ≤ q ∨ p + 3 ≤ q) → Ev (fun k => impl_TakeNum.j1 k b p u s q true) r) : Ev (fun k => impl_TakeNum.l0 k b p u s q) r := by
  apply Ev.step
  · intro k; rw [impl_TakeNum.l0]
  by_cases h0 : q < (b.length : Int)
  · simp only [if_pos h0, w64 (x := p + 3) (by omega)]
    by_cases h1 : q < p + 3
    · simp only [decide_eq_true h1]
      exact h (by omega)
    · simp only [decide_eq_false h1]
      rw [hr (by omega)]
      apply Ev.step
      · intro k; rw [impl_TakeNum.j1]
      exact Ev.now _
  · simp only [if_neg h0]
    rw [hr (by omega)]
    apply Ev.step
    · intro k; rw [impl_TakeNum.j1]
    exact Ev.now _
theorem ev_impl_TakeNum (b : List Int) (hb : Bytes b) (hl : b.length ≤ 1048576) (p : Int) (hp : p ≤ 9223372036854775807) : Ev (fun k => impl_TakeNum.f k b p) (takeNum b p) := by
  have r0 := Bytes_rd hb p
  have r1 := Bytes_rd hb (p + 1)
  have r2 := Bytes_rd hb (p + 2)
  simp only [impl_TakeNum.f]
  by_cases hn : p < 0
  · simp only [if_pos hn]
    rw [takeNum, if_pos (Or.inl hn)]
    exact Ev.now _
  simp only [if_neg hn]
  refine impl_head b hl p p 0 1 _ (by omega) (fun h => ?_) (fun h => ?_)
  · unfold takeNum; rw [if_pos (by omega)]
  have hg : ¬ (p < 0 ∨ (b.length : Int) ≤ p) := by omega
  rw [takeNum, if_neg hg]
  by_cases h0 : rd b p < 128
  · rw [if_pos h0]
    have := impl_fin b hb hl p p 0 1 (by omega) (by omega) (by omega) (by omega) h0
    simpa using this
  rw [if_neg h0]
  refine impl_cont b hb hl p p 0 1 _ (by omega) (by omega) (by omega) (by omega) h0 ?_
  simp only [Int.zero_add, Int.mul_one, Int.one_mul]
  refine impl_head b hl p (p + 1) _ _ _ (by omega) (fun h => ?_) (fun h => ?_)
  · rw [if_pos (by omega)]
  rw [if_neg (by omega)]
  by_cases h1 : rd b (p + 1) < 128
  · rw [if_pos h1]
    have := impl_fin b hb hl p (p + 1) (rd b p % 128) 128 (by omega) (by omega) (by omega) (by omega) h1
    rwa [show p + 1 - p = 1 by omega] at this
  rw [if_neg h1]
  refine impl_cont b hb hl p (p + 1) _ 128 _ (by omega) (by omega) (by omega) (by omega) h1 ?_
  simp only [show p + 1 + 1 = p + 2 by omega, show (128 : Int) * 128 = 16384 from rfl]
  refine impl_head b hl p (p + 2) _ _ _ (by omega) (fun h => ?_) (fun h => ?_)
  · rw [if_pos (by omega)]
  rw [if_neg (by omega)]
  by_cases h2 : rd b (p + 2) < 128
  · rw [if_pos h2]
    have := impl_fin b hb hl p (p + 2) (rd b p % 128 + rd b (p + 1) % 128 * 128) 16384 (by omega) (by omega) (by omega) (by omega) h2
    rwa [show p + 2 - p = 2 by omega] at this
  rw [if_neg h2]
  refine impl_cont b hb hl p (p + 2) _ 16384 _ (by omega) (by omega) (by omega) (by omega) h2 ?_
  exact impl_head b hl p (p + 2 + 1) _ _ _ (by omega) (fun _ => rfl) (fun h => by omega)

theorem clone_byte (l : List Int) (hl : l.length ≤ 1048576) : slices_Clone_byte_byte.f l = some l := by
  simp only [slices_Clone_byte_byte.f, Option.bind_some, List.length_nil, List.nil_append]
  rw [if_pos (by omega)]

theorem ev_impl_Unframe (b : List Int) (hb : Bytes b) (hl : b.length ≤ 1048576) : Ev (fun k => impl_Unframe.f k b) (unframe b) := by
  have hnx := takeNum_next b 2
  have no : unOk b = false → unframe b = ([], false) := fun h => by unfold unframe; rw [h]; simp
  simp only [impl_Unframe.f, hasPS_eq hb, Option.bind_some, impl_in_eq]
  by_cases hp : b.take 2 = [80, 83]
  · simp only [hp, decide_true, if_true]
    refine Ev.bind (ev_impl_TakeNum b hb hl 2 (by omega)) ?_
    refine Ev_ite (fun h0 => ?_) (fun h0 => ?_)
    · rw [no (by unfold unOk; exact decide_eq_false (by omega))]; exact Ev.now _
    have hn : -1000000 ≤ (takeNum b 2).1 ∧ (takeNum b 2).1 ≤ 1000000 ∧ (takeNum b 2).2 ≤ b.length := by
      rcases hnx with h | h
      · omega
      · have h4 := h.2.2.2.2
        simp [isNumB] at h4
        omega
    rw [w64 (x := (b.length : Int) - (takeNum b 2).2) (by omega)]
    by_cases h1 : 0 ≤ (takeNum b 2).1 ∧ (takeNum b 2).1 ≤ (b.length : Int) - (takeNum b 2).2
    · simp only [decide_eq_true h1, if_true]
      rw [w64 (x := (takeNum b 2).2 + (takeNum b 2).1) (by omega)]
      simp only [if_pos (show 0 ≤ (takeNum b 2).2 by omega), if_pos (show (takeNum b 2).2 ≤ (takeNum b 2).2 + (takeNum b 2).1 by omega), if_pos (show (takeNum b 2).2 + (takeNum b 2).1 ≤ (b.length : Int) by omega)]
      have hbl := bodyF_length (b := b) (by omega) h1.1 h1.2
      rw [show (b.take ((takeNum b 2).2 + (takeNum b 2).1).toNat).drop (takeNum b 2).2.toNat = bodyF b from rfl]
      simp only [clone_byte (bodyF b) (by omega), Option.bind_some]
      refine Ev.bind (ev_impl_Frame (bodyF b) (Bytes_body hb) (by omega)) ?_
      unfold frame
      by_cases h4 : (bodyF b).length ≤ 4000
      · simp only [if_pos h4, if_true]
        have hbf : Bytes (frameB (bodyF b)) := by
          unfold frameB
          exact Bytes_app (fun x hx => by simp at hx; omega) (Bytes_app (Bytes_put _) (Bytes_app (Bytes_body hb) (Bytes_put _)))
        simp only [bytesEq_eq hbf hb, Option.bind_some]
        by_cases h5 : frameB (bodyF b) = b
        · simp only [decide_eq_true h5, if_true]
          unfold unframe
          rw [if_pos (by unfold unOk; exact decide_eq_true ⟨hp, by omega, h1.1, by omega, h1.2, h5⟩)]
          exact Ev.now _
        · simp only [decide_eq_false h5, if_neg Bool.false_ne_true]
          rw [no (by unfold unOk; exact decide_eq_false (fun h => h5 h.2.2.2.2.2))]; exact Ev.now _
      · simp only [if_neg h4, if_neg Bool.false_ne_true]
        rw [no (by unfold unOk; exact decide_eq_false (by omega))]; exact Ev.now _
    · simp only [decide_eq_false h1, if_neg Bool.false_ne_true]
      rw [no (by unfold unOk; exact decide_eq_false (fun h => h1 ⟨h.2.2.1, h.2.2.2.2.1⟩))]; exact Ev.now _
  · simp only [decide_eq_false hp, if_neg Bool.false_ne_true]
    rw [no (by unfold unOk; exact decide_eq_false (fun h => hp h.1))]; exact Ev.now _

theorem ev_eqByteS_l0 (x0 : List Int) (hl : x0.length ≤ 1099511627776) : ∀ (d : Nat) (i : Nat), i + d = x0.length → Ev (fun k => laws_eqByteS.l0 k x0 x0 i) true := by
  intro d
  induction d with
  | zero =>
    intro i h2
    apply Ev.step
    · intro k; rw [laws_eqByteS.l0]
    simp only [if_neg (show ¬ ((i : Int) < x0.length) by omega)]
    exact Ev.now _
  | succ d ih =>
    intro i h2
    apply Ev.step
    · intro k; rw [laws_eqByteS.l0]
    simp only [if_pos (show (i : Int) < x0.length by omega), if_pos (show (0 : Int) ≤ i by omega), if_true, w64 (x := (i : Int) + 1) (by omega)]
    have := ih (i + 1) (by omega)
    simpa using this
theorem ev_eqByteS (l : List Int) (h : l.length ≤ 1099511627776) : Ev (fun k => laws_eqByteS.f k l l) true := by
  simp only [laws_eqByteS.f, if_true]
  exact ev_eqByteS_l0 l h l.length 0 (by omega)

theorem ev_markByteS_l0 (a : Int) (n : Nat) (hn : n ≤ 1099511627776) (ha : 0 ≤ a ∧ a ≤ 1125899906842624) : ∀ (d : Nat) (x0 : List Int) (i : Nat), x0.length = n → i + d = n → (∀ j : Nat, j < i → rd x0 j = (a + j) % 256) →
    ∃ L : List Int, L.length = n ∧ (∀ j : Nat, j < n → rd L j = (a + j) % 256) ∧ Ev (fun k => laws_markByteS.l0 k x0 (a + i) i) (a + n, L) := by
  intro d
  induction d with
  | zero =>
    intro x0 i h1 h2 h3
    refine ⟨x0, h1, fun j hj => h3 j (by omega), ?_⟩
    apply Ev.step
    · intro k; rw [laws_markByteS.l0]
    obtain rfl : i = n := by omega
    simp only [if_neg (show ¬ ((i : Int) < x0.length) by omega)]
    exact Ev.now _
  | succ d ih =>
    intro x0 i h1 h2 h3
    obtain ⟨L, hL, hj, he⟩ := ih (x0.set i ((a + i) % 256)) (i + 1) (by simp [h1]) (by omega) (by
      intro j hj
      by_cases e : j = i
      · subst e; rw [rd_set_self _ _ _ (by omega)]
      · rw [rd_set_ne _ _ _ _ (Ne.symm e)]; exact h3 j (by omega))
    refine ⟨L, hL, hj, ?_⟩
    apply Ev.step
    · intro k; rw [laws_markByteS.l0]
    simp only [if_pos (show (i : Int) < x0.length by omega), if_pos (show (0 : Int) ≤ i by omega), w64 (x := (i : Int) + 1) (by omega), w64 (x := a + (i : Int) + 1) (by omega)]
    simpa [Int.add_assoc] using he
theorem ev_markByteS (l : List Int) (a : Int) (hn : l.length ≤ 1099511627776) (ha : 0 ≤ a ∧ a ≤ 1125899906842624) :
    ∃ L : List Int, L.length = l.length ∧ (∀ j : Nat, j < l.length → rd L j = (a + j) % 256) ∧ Ev (fun k => laws_markByteS.f k l a) (a + l.length, L) := by
  obtain ⟨L, h1, h2, h3⟩ := ev_markByteS_l0 a l.length hn ha l.length l 0 rfl (by omega) (by intro j hj; omega)
  exact ⟨L, h1, h2, by simpa [laws_markByteS.f] using h3⟩

theorem ev_heldByteS_l0 (a : Int) (ha : 0 ≤ a ∧ a ≤ 1125899906842624) (x0 : List Int) (hn : x0.length ≤ 1099511627776) (hj : ∀ j : Nat, j < x0.length → rd x0 j = (a + j) % 256) : ∀ (d : Nat) (i : Nat), i + d = x0.length → Ev (fun k => laws_heldByteS.l0 k x0 (a + i) i) (a + x0.length) := by
  intro d
  induction d with
  | zero =>
    intro i h2
    apply Ev.step
    · intro k; rw [laws_heldByteS.l0]
    obtain rfl : i = x0.length := by omega
    simp only [if_neg (show ¬ ((x0.length : Int) < x0.length) by omega)]
    exact Ev.now _
  | succ d ih =>
    intro i h2
    apply Ev.step
    · intro k; rw [laws_heldByteS.l0]
    simp only [if_pos (show (i : Int) < x0.length by omega), if_pos (show (0 : Int) ≤ i by omega), if_pos (hj i (by omega)), w64 (x := (i : Int) + 1) (by omega), w64 (x := a + (i : Int) + 1) (by omega)]
    have := ih (i + 1) (by omega)
    simpa [Int.add_assoc] using this
theorem ev_heldByteS (L : List Int) (a : Int) (hn : L.length ≤ 1099511627776) (ha : 0 ≤ a ∧ a ≤ 1125899906842624) (hj : ∀ j : Nat, j < L.length → rd L j = (a + j) % 256) : Ev (fun k => laws_heldByteS.f k L a) (a + L.length) := by
  have := ev_heldByteS_l0 a ha L hn hj L.length 0 (by omega)
  simpa [laws_heldByteS.f] using this
/-- What was marked is held. -/
theorem ev_byteS (l : List Int) (a : Int) (hn : l.length ≤ 1099511627776) (ha : 0 ≤ a ∧ a ≤ 1125899906842624) : ∃ L : List Int, L.length = l.length ∧ Ev (fun k => laws_markByteS.f k l a) (a + l.length, L) ∧ Ev (fun k => laws_heldByteS.f k L a) (a + l.length) := by
  obtain ⟨L, h1, h2, h3⟩ := ev_markByteS l a hn ha
  exact ⟨L, h1, h3, by have := ev_heldByteS L a (by omega) ha (by rw [h1]; exact h2); rwa [h1] at this⟩

theorem ev_toByteS_l0 (x0 : List Int) (hl : x0.length ≤ 1048576) : ∀ (d : Nat) (x3 : List Int) (i : Nat), x3.length = x0.length → i + d = x0.length → x3.take i = x0.take i → Ev (fun k => laws_toByteS.l0 k x0 x3 i) x0 := by
  intro d
  induction d with
  | zero =>
    intro x3 i h1 h2 h3
    apply Ev.step
    · intro k; rw [laws_toByteS.l0]
    simp only [if_neg (show ¬ ((i : Int) < x0.length) by omega)]
    rw [take_eq_all h1 (by omega) h3]
    exact Ev.now _
  | succ d ih =>
    intro x3 i h1 h2 h3
    apply Ev.step
    · intro k; rw [laws_toByteS.l0]
    simp only [if_pos (show (i : Int) < x0.length by omega), if_pos (show (0 : Int) ≤ i by omega), if_pos (show (i : Int) < x3.length by omega), w64 (x := (i : Int) + 1) (by omega)]
    have := ih (x3.set i (rd x0 i)) (i + 1) (by simp [h1]) (by omega) (take_set_at _ _ _ _ h1 (by omega) (rd_get _ _ (by omega)) h3)
    simpa using this
theorem ev_toByteS (l : List Int) (h : l.length ≤ 1048576) : Ev (fun k => laws_toByteS.f k l) l := by
  simp only [laws_toByteS.f, if_pos (show (0 : Int) ≤ l.length by omega), if_pos (show (l.length : Int).toNat ≤ 281474976710656 by omega)]
  exact ev_toByteS_l0 l h l.length _ 0 (by simp) (by omega) (by simp)

theorem ev_spec_CheckOf_l0 (b : List Int) (hb : Bytes b) (hl : b.length ≤ 1099511627776) : ∀ (d i : Nat), i + d = b.length → Ev (fun k => spec_CheckOf.l0 k b (checkTo b i) i) (checkOf b) := by
  intro d
  induction d with
  | zero =>
    intro i h
    obtain rfl : i = b.length := by omega
    apply Ev.step
    · intro k; rw [spec_CheckOf.l0]
    simp only [if_neg (show ¬ ((b.length : Int) < b.length) by omega)]
    exact Ev.now _
  | succ d ih =>
    intro i h
    have ih' := ih (i + 1) (by omega)
    have hc := checkTo_range b i
    have hr := Bytes_rd hb i
    apply Ev.step
    · intro k; rw [spec_CheckOf.l0]
    simp only [if_pos (show (i : Int) < b.length by omega), if_pos (show (0 : Int) ≤ i by omega), w64 (x := (i : Int) + 1) (by omega), w64 (x := rd b i) (by omega), w64 (x := 269 * checkTo b i) (by omega), w64 (x := 269 * checkTo b i + rd b i) (by omega), tmod_nn (show 0 ≤ 269 * checkTo b i + rd b i by omega)]
    exact ih'
theorem ev_spec_CheckOf (b : List Int) (hb : Bytes b) (hl : b.length ≤ 1099511627776) : Ev (fun k => spec_CheckOf.f k b) (checkOf b) :=
  ev_spec_CheckOf_l0 b hb hl b.length 0 (by omega)

theorem spec_l01In_eq (a b c : Int) : spec_l01In.f a b c = some (decide (b ≤ a ∧ a ≤ c)) := by
  unfold spec_l01In.f
  by_cases h : b ≤ a
  · rw [if_pos h]; simp [h]
  · rw [if_neg h]; simp [h]

theorem spec_l01Number_eq (a : Int) : spec_l01Number.f a = some (isNumB a) := by
  unfold spec_l01Number.f; rw [spec_l01In_eq]; rfl

theorem spec_fin (b : List Int) (hb : Bytes b) (hl : b.length ≤ 1048576) (p i u : Int) (n : Nat) (hp : 0 ≤ p) (hi : i = n) (hn : n ≤ 3) (hlt : p + i < b.length) (hu : 0 ≤ u ∧ u ≤ 2097152) (hv : rd b (p + i) < 128) :
    Ev (fun k => spec_TakeNum.j1 k b p u i false) (takeFin (u + rd b (p + i) * 2 ^ (7 * n)) (rd b (p + i)) i p) := by
  have hr := Bytes_rd hb (p + i)
  have e1 : wrap64 (p + i) = p + i := w64 (by omega)
  have e2 : IntKind.u64.wrap (wrap64 (7 * i)) = ((7 * n : Nat) : Int) := by rw [w64 (by omega), u64_small (by omega)]; omega
  have hpow : (2 : Int) ^ (7 * n) ≤ 2097152 ∧ 1 ≤ (2 : Int) ^ (7 * n) := by
    rcases (by omega : n = 0 ∨ n = 1 ∨ n = 2 ∨ n = 3) with e | e | e | e <;> subst e <;> decide
  have hm : 0 ≤ rd b (p + i) * 2 ^ (7 * n) ∧ rd b (p + i) * 2 ^ (7 * n) ≤ 266338304 := by
    rcases (by omega : n = 0 ∨ n = 1 ∨ n = 2 ∨ n = 3) with e | e | e | e <;> subst e <;> simp <;> omega
  have e3 : shl .i64 (rd b (p + i)) ((7 * n : Nat) : Int) = rd b (p + i) * 2 ^ (7 * n) := shl_i64 _ _ (7 * n) rfl (by omega) (by omega)
  generalize hm0 : rd b (p + i) * 2 ^ (7 * n) = m at *
  have e4 : wrap64 (rd b (p + i)) = rd b (p + i) := w64 (by omega)
  have e5 : Int.tmod (rd b (p + i)) 128 = rd b (p + i) := by rw [tmod_nn (by omega)]; omega
  apply Ev.step
  · intro k; rw [spec_TakeNum.j1]
  simp only [e1, e2, e4, e5, e3, if_pos (show (0 : Int) ≤ p + i by omega), if_pos hlt, if_pos (show (0 : Int) ≤ ((7 * n : Nat) : Int) by omega), if_neg (show ¬ rd b (p + i) ≥ 128 by omega), w64 (x := u + m) (by omega), tmod_nn (show 0 ≤ u + m by omega), spec_l01Number_eq, Option.bind_some, w64 (x := u + m + 1) (by omega), w64 (x := -(u + m + 1)) (by omega), tdiv_neg' (show 0 ≤ u + m + 1 by omega), tdiv_nn (show 0 ≤ u + m by omega), w64 (x := -((u + m + 1) / 2)) (by omega), w64 (x := (u + m) / 2) (by omega), w64 (x := p + i + 1) (by omega)]
  refine Ev.const ?_
  unfold takeFin
  by_cases h1 : (u + m) % 2 = 1
  · simp only [h1, if_true]
    by_cases h2 : rd b (p + i) = 0
    · by_cases h3 : 0 < i
      · simp [h2, h3]
      · simp [h2, h3]; split <;> simp_all
    · simp [h2]; split <;> simp_all
  · simp only [h1, if_false]
    by_cases h2 : rd b (p + i) = 0
    · by_cases h3 : 0 < i
      · simp [h2, h3]
      · simp [h2, h3]; split <;> simp_all
    · simp [h2]; split <;> simp_all
theorem spec_cont (b : List Int) (hb : Bytes b) (hl : b.length ≤ 1048576) (p i u : Int) (n : Nat) (r : Int × Int) (hp : 0 ≤ p) (hi : i = n) (hn : n ≤ 3) (hlt : p + i < b.length) (hu : 0 ≤ u ∧ u ≤ 2097152) (hv : ¬ rd b (p + i) < 128)
    (h : Ev (fun k => spec_TakeNum.l0 k b p (u + rd b (p + i) % 128 * 2 ^ (7 * n)) (i + 1)) r) :
    Ev (fun k => spec_TakeNum.j1 k b p u i false) r := by
  have hr := Bytes_rd hb (p + i)
  have e1 : wrap64 (p + i) = p + i := w64 (by omega)
  have e2 : IntKind.u64.wrap (wrap64 (7 * i)) = ((7 * n : Nat) : Int) := by rw [w64 (by omega), u64_small (by omega)]; omega
  have hm : 0 ≤ rd b (p + i) % 128 * 2 ^ (7 * n) ∧ rd b (p + i) % 128 * 2 ^ (7 * n) ≤ 266338304 := by
    rcases (by omega : n = 0 ∨ n = 1 ∨ n = 2 ∨ n = 3) with e | e | e | e <;> subst e <;> simp <;> omega
  have e3 : shl .i64 (rd b (p + i) % 128) ((7 * n : Nat) : Int) = rd b (p + i) % 128 * 2 ^ (7 * n) := shl_i64 _ _ (7 * n) rfl (by omega) (by omega)
  generalize hm0 : rd b (p + i) % 128 * 2 ^ (7 * n) = m at *
  have e4 : wrap64 (rd b (p + i)) = rd b (p + i) := w64 (by omega)
  have e5 : Int.tmod (rd b (p + i)) 128 = rd b (p + i) % 128 := tmod_nn (by omega)
  apply Ev.step
  · intro k; rw [spec_TakeNum.j1]
  simp only [e1, e2, e4, e5, e3, if_pos (show (0 : Int) ≤ p + i by omega), if_pos hlt, if_pos (show (0 : Int) ≤ ((7 * n : Nat) : Int) by omega), if_pos (show rd b (p + i) ≥ 128 by omega), w64 (x := u + m) (by omega), w64 (x := i + 1) (by omega)]
  exact h
theorem spec_head (b : List Int) (hl : b.length ≤ 1048576) (p i u : Int) (r : Int × Int) (hi : 0 ≤ i ∧ i < 4) (hr : p < 0 ∨ (b.length : Int) ≤ p + i → r = (0, -1))
    (h : ¬ (p < 0 ∨ (b.length : Int) ≤ p + i) → Ev (fun k => spec_TakeNum.j1 k b p u i false) r) : Ev (fun k => spec_TakeNum.l0 k b p u i) r := by
  apply Ev.step
  · intro k; rw [spec_TakeNum.l0]
  simp only [if_pos hi.2, w64 (x := (b.length : Int) - i) (by omega)]
  by_cases h0 : p < 0
  · simp only [if_pos h0]
    rw [hr (Or.inl h0)]
    apply Ev.step
    · intro k; rw [spec_TakeNum.j1]
    exact Ev.now _
  · simp only [if_neg h0]
    by_cases h1 : (b.length : Int) ≤ p + i
    · rw [hr (Or.inr h1)]
      apply Ev.step
      · intro k; rw [spec_TakeNum.j1]
      simp only [decide_eq_true (show p ≥ (b.length : Int) - i by omega), if_true]
      exact Ev.now _
    · simp only [decide_eq_false (show ¬ p ≥ (b.length : Int) - i by omega)]
      exact h (by omega)
theorem ev_spec_TakeNum (b : List Int) (hb : Bytes b) (hl : b.length ≤ 1048576) (p : Int) : Ev (fun k => spec_TakeNum.f k b p) (takeNum b p) := by
  have r0 := Bytes_rd hb p
  have r1 := Bytes_rd hb (p + 1)
  have r2 := Bytes_rd hb (p + 2)
  have r3 := Bytes_rd hb (p + 3)
  simp only [spec_TakeNum.f]
  refine spec_head b hl p 0 0 _ (by omega) (fun h => ?_) (fun h => ?_)
  · unfold takeNum; rw [if_pos (by omega)]
  have hg : ¬ (p < 0 ∨ (b.length : Int) ≤ p) := by omega
  rw [takeNum, if_neg hg]
  by_cases h0 : rd b p < 128
  · rw [if_pos h0]
    have := spec_fin b hb hl p 0 0 0 (by omega) rfl (by omega) (by omega) (by omega) (by simpa using h0)
    simpa using this
  rw [if_neg h0]
  refine spec_cont b hb hl p 0 0 0 _ (by omega) rfl (by omega) (by omega) (by omega) (by simpa using h0) ?_
  simp only [Int.add_zero, Int.zero_add, Nat.mul_zero, Int.pow_zero, Int.mul_one]
  refine spec_head b hl p 1 _ _ (by omega) (fun h => ?_) (fun h => ?_)
  · rw [if_pos (by omega)]
  rw [if_neg (by omega)]
  by_cases h1 : rd b (p + 1) < 128
  · rw [if_pos h1]
    have := spec_fin b hb hl p 1 (rd b p % 128) 1 (by omega) rfl (by omega) (by omega) (by omega) h1
    simpa using this
  rw [if_neg h1]
  refine spec_cont b hb hl p 1 (rd b p % 128) 1 _ (by omega) rfl (by omega) (by omega) (by omega) h1 ?_
  simp only [show (1 : Int) + 1 = 2 from rfl, show (2 : Int) ^ (7 * 1) = 128 from rfl]
  refine spec_head b hl p 2 _ _ (by omega) (fun h => ?_) (fun h => ?_)
  · rw [if_pos (by omega)]
  rw [if_neg (by omega)]
  by_cases h2 : rd b (p + 2) < 128
  · rw [if_pos h2]
    have := spec_fin b hb hl p 2 (rd b p % 128 + rd b (p + 1) % 128 * 128) 2 (by omega) rfl (by omega) (by omega) (by omega) h2
    simpa using this
  rw [if_neg h2]
  refine spec_cont b hb hl p 2 _ 2 _ (by omega) rfl (by omega) (by omega) (by omega) h2 ?_
  simp only [show (2 : Int) + 1 = 3 from rfl, show (2 : Int) ^ (7 * 2) = 16384 from rfl]
  refine spec_head b hl p 3 _ _ (by omega) (fun h => rfl) (fun h => ?_)
  by_cases h3 : rd b (p + 3) < 128
  · have := spec_fin b hb hl p 3 (rd b p % 128 + rd b (p + 1) % 128 * 128 + rd b (p + 2) % 128 * 16384) 3 (by omega) rfl (by omega) (by omega) (by omega) h3
    refine Ev.eq this ?_
    unfold takeFin
    rw [if_pos]
    by_cases h4 : rd b (p + 3) = 0
    · left; exact ⟨h4, by omega⟩
    · right
      rw [isNumB_eq, decide_eq_false_iff_not]
      simp only [show (2 : Int) ^ (7 * 3) = 2097152 from rfl]
      split <;> omega
  · refine spec_cont b hb hl p 3 _ 3 _ (by omega) rfl (by omega) (by omega) (by omega) h3 ?_
    apply Ev.step
    · intro k; rw [spec_TakeNum.l0]
    simp only [if_neg (show ¬ (3 : Int) + 1 < 4 by omega)]
    exact Ev.now _

theorem ev_spec_l01Bytes_l0 (b : List Int) (hl : b.length ≤ 1099511627776) : ∀ (d i : Nat), i + d = b.length → Ev (fun k => spec_l01Bytes.l0 k b (b.take i) i) b := by
  intro d
  induction d with
  | zero =>
    intro i h
    obtain rfl : i = b.length := by omega
    apply Ev.step
    · intro k; rw [spec_l01Bytes.l0]
    simp only [if_neg (show ¬ ((b.length : Int) < b.length) by omega), List.take_length]
    exact Ev.now _
  | succ d ih =>
    intro i h
    have ih' := ih (i + 1) (by omega)
    apply Ev.step
    · intro k; rw [spec_l01Bytes.l0]
    simp only [if_pos (show (i : Int) < b.length by omega), if_pos (show (0 : Int) ≤ i by omega), w64 (x := (i : Int) + 1) (by omega), if_pos (show (b.take i).length < 140737488355328 by rw [List.length_take]; omega), take_rd b i (by omega)]
    exact ih'
theorem ev_spec_l01Bytes (b : List Int) (hl : b.length ≤ 1099511627776) : Ev (fun k => spec_l01Bytes.f k b) b := by
  have := ev_spec_l01Bytes_l0 b hl b.length 0 (by omega)
  simpa [spec_l01Bytes.f] using this

theorem take2_iff (b : List Int) (h : 2 ≤ b.length) : b.take 2 = [80, 83] ↔ rd b 0 = 80 ∧ rd b 1 = 83 := by
  match b, h with
  | x :: y :: r, _ => simp [rd]
theorem ev_spec_Unframe (b : List Int) (hb : Bytes b) (hl : b.length ≤ 1048576) : Ev (fun k => spec_Unframe.f k b) (unframe b) := by
  have hnx := takeNum_next b 2
  have no : unOk b = false → unframe b = ([], false) := fun h => by unfold unframe; rw [h]; simp
  have bad0 : unOk b = false → Ev (fun k => spec_Unframe.j0 k b true) (unframe b) := by
    intro h
    rw [no h]
    apply Ev.step
    · intro k; rw [spec_Unframe.j0]
    simp only [if_true]
    exact Ev.now _
  have bad1 : unOk b = false → Ev (fun k => spec_Unframe.j1 k b (takeNum b 2).1 (takeNum b 2).2 true) (unframe b) := by
    intro h
    rw [no h]
    apply Ev.step
    · intro k; rw [spec_Unframe.j1]
    simp only [if_true]
    exact Ev.now _
  simp only [spec_Unframe.f]
  by_cases hlt : b.length < 2
  · simp only [if_pos (show (b.length : Int) < 2 by omega)]
    refine bad0 ?_
    unfold unOk
    apply decide_eq_false
    intro h
    have := congrArg List.length h.1
    simp at this
    omega
  have h2 := take2_iff b (by omega)
  simp only [if_neg (show ¬ (b.length : Int) < 2 by omega), if_pos (show (0 : Int) < (b.length : Int) by omega), if_pos (show (1 : Int) < (b.length : Int) by omega)]
  by_cases e0 : rd b 0 = 80
  · simp only [if_pos e0]
    by_cases e1 : rd b 1 = 83
    · have hp := h2.2 ⟨e0, e1⟩
      simp only [bne_eq_false_iff_eq.mpr e1]
      apply Ev.step
      · intro k; rw [spec_Unframe.j0]
      simp only [if_neg Bool.false_ne_true, spec_l01In_eq, Option.bind_some]
      refine Ev.bind (ev_spec_TakeNum b hb hl 2) ?_
      refine Ev_ite (fun h0 => ?_) (fun h0 => ?_)
      · exact bad1 (by unfold unOk; exact decide_eq_false (by omega))
      have hn : -1000000 ≤ (takeNum b 2).1 ∧ (takeNum b 2).1 ≤ 1000000 ∧ (takeNum b 2).2 ≤ b.length := by
        rcases hnx with h | h
        · omega
        · have h4 := h.2.2.2.2
          simp [isNumB] at h4
          omega
      rw [w64 (x := (b.length : Int) - (takeNum b 2).2) (by omega)]
      by_cases h1 : 0 ≤ (takeNum b 2).1 ∧ (takeNum b 2).1 ≤ 4000
      · simp only [decide_eq_true h1, if_true]
        by_cases h3 : (takeNum b 2).1 > (b.length : Int) - (takeNum b 2).2
        · simp only [decide_eq_true h3]
          exact bad1 (by unfold unOk; exact decide_eq_false (by omega))
        · simp only [decide_eq_false h3]
          apply Ev.step
          · intro k; rw [spec_Unframe.j1]
          simp only [if_neg Bool.false_ne_true]
          rw [w64 (x := (takeNum b 2).2 + (takeNum b 2).1) (by omega)]
          simp only [if_pos (show 0 ≤ (takeNum b 2).2 by omega), if_pos (show (takeNum b 2).2 ≤ (takeNum b 2).2 + (takeNum b 2).1 by omega), if_pos (show (takeNum b 2).2 + (takeNum b 2).1 ≤ (b.length : Int) by omega)]
          have hbl := bodyF_length (b := b) (by omega) h1.1 (by omega)
          have hif := frame_iff hb hp (by omega) h1.1 (by omega)
          rw [show (b.take ((takeNum b 2).2 + (takeNum b 2).1).toNat).drop (takeNum b 2).2.toNat = bodyF b from rfl]
          refine Ev.bind (ev_spec_TakeNum b hb hl _) ?_
          refine Ev_ite (fun h5 => ?_) (fun h5 => ?_)
          · refine Ev.bind (ev_spec_CheckOf (bodyF b) (Bytes_body hb) (by omega)) ?_
            refine Ev_ite (fun h6 => ?_) (fun h6 => ?_)
            · refine Ev.bind (ev_spec_l01Bytes (bodyF b) (by omega)) ?_
              unfold unframe
              rw [if_pos (by unfold unOk; exact decide_eq_true ⟨hp, by omega, h1.1, by omega, by omega, hif.1 (Prod.ext h6 h5)⟩)]
              exact Ev.now _
            · rw [no (by unfold unOk; exact decide_eq_false (fun h => h6 (by rw [hif.2 h.2.2.2.2.2])))]; exact Ev.now _
          · rw [no (by unfold unOk; exact decide_eq_false (fun h => h5 (by rw [hif.2 h.2.2.2.2.2])))]; exact Ev.now _
      · simp only [decide_eq_false h1, if_neg Bool.false_ne_true]
        exact bad1 (by unfold unOk; exact decide_eq_false (by omega))
    · simp only [bne_iff_ne.mpr e1]
      exact bad0 (by unfold unOk; exact decide_eq_false (fun h => e1 (h2.1 h.1).2))
  · simp only [if_neg e0]
    exact bad0 (by unfold unOk; exact decide_eq_false (fun h => e0 (h2.1 h.1).1))

theorem holds : ∀ (l0 : List (Int)), (l0.length ≤ 9223372036854775807 ∧ ∀ yl0 ∈ l0, (Lit.int .u8 yl0).wf = true) → ∃ k, laws_FnExactUnframe.Facts k l0 := by
  intro b hl
  by_cases hs : (b.length : Int) > 1048576
  · exact ⟨0, .inl hs⟩
  have hb := Bytes_of hl.2
  have hel := unframe_length b
  obtain ⟨L, hL, _, hm⟩ := ev_markByteS b 1 (by omega) (by omega)
  obtain ⟨L2, hL2, hm2, hh2⟩ := ev_byteS (unframe b).1 1 (by omega) (by omega)
  obtain ⟨k2, e2⟩ := ev_toByteS b (by omega)
  obtain ⟨k3, e3⟩ := ev_spec_Unframe b hb (by omega)
  obtain ⟨k4, e4⟩ := ev_impl_Unframe b hb (by omega)
  obtain ⟨k5, e5⟩ := ev_eqByteS (unframe b).1 (by omega)
  obtain ⟨k6, e6⟩ := ev_eqByteS b (by omega)
  obtain ⟨k7, e7⟩ := hm
  obtain ⟨k8, e8⟩ := hm2
  obtain ⟨k9, e9⟩ := hh2
  let k := k2 + k3 + k4 + k5 + k6 + k7 + k8 + k9
  exact ⟨k, .inr ⟨b, (unframe b).1, (unframe b).2, _, L, _, L2, hs, e2 k (by omega), e3 k (by omega), e4 k (by omega), e5 k (by omega), e6 k (by omega), e7 k (by omega), by omega, e8 k (by omega), e9 k (by omega), by omega⟩⟩

end EFnExactUnframe
open Go.RowKit Go.Proofs.YtnmpkdabojlbgaaW.PrintWords Go.Proofs.YtnmpkdabojlbgaaW.PrintLast Go.Proofs.YtnmpkdabojlbgaaW.PrintMore Go.Proofs.Ytnmpkdabojlbgaa.Lib Go.Proofs.Ytnmpkdabojlbgaa.Q
theorem FnExactUnframe : ∀ (l0 : List (Int)), (l0.length ≤ 9223372036854775807 ∧ ∀ yl0 ∈ l0, (Lit.int .u8 yl0).wf = true) → ∃ k, laws_FnExactUnframe.Facts k l0 := EFnExactUnframe.holds
end Go.Proofs.Ytnmpkdabojlbgaa.Pure
