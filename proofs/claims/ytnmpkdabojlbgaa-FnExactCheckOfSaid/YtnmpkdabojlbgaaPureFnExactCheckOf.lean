/- Of every list of bytes: the program's CheckOf gives what the reference's CheckOf gives, and its argument stays as it was. -/
import Derived.Test.YtnmpkdabojlbgaaPFnExactCheckOfx1
import Derived.Test.YtnmpkdabojlbgaaLib
set_option linter.unusedVariables false
set_option linter.unusedSimpArgs false
namespace Go.Proofs.Ytnmpkdabojlbgaa.Pure
namespace EFnExactCheckOf
open Go.RowKit Go.Proofs.Ytnmpkdabojlbgaa.PFnExactCheckOf Go.Proofs.YtnmpkdabojlbgaaW.PrintWords Go.Proofs.YtnmpkdabojlbgaaW.PrintLast Go.Proofs.YtnmpkdabojlbgaaW.PrintMore Go.Proofs.Ytnmpkdabojlbgaa.Lib

theorem ev_spec_CheckOf_l0 (b : List Int) (hb : Bytes b) (hl : b.length ≤ 1099511627776) : ∀ (d i : Nat), i + d = b.length → Ev (fun k => spec_CheckOf.l0 k b (checkTo b i) i) (checkOf b) := by
  intro d
  induction d with
  | zero =>
    intro i h
    obtain rfl : i = b.length := by omega
    apply Ev.step
    · intro k; rw [spec_CheckOf.l0]
    simp only [if_neg (show ¬ ((b.length : Int) < b.length) by omega)]
    exact Ev.now _
  | succ d ih =>
    intro i h
    have ih' := ih (i + 1) (by omega)
    have hc := checkTo_range b i
    have hr := Bytes_rd hb i
    apply Ev.step
    · intro k; rw [spec_CheckOf.l0]
    simp only [if_pos (show (i : Int) < b.length by omega), if_pos (show (0 : Int) ≤ i by omega), w64 (x := (i : Int) + 1) (by omega), w64 (x := rd b i) (by omega), w64 (x := 269 * checkTo b i) (by omega), w64 (x := 269 * checkTo b i + rd b i) (by omega), tmod_nn (show 0 ≤ 269 * checkTo b i + rd b i by omega)]
    exact ih'
theorem ev_spec_CheckOf (b : List Int) (hb : Bytes b) (hl : b.length ≤ 1099511627776) : Ev (fun k => spec_CheckOf.f k b) (checkOf b) :=
  ev_spec_CheckOf_l0 b hb hl b.length 0 (by omega)

theorem ev_toByteS_l0 (x0 : List Int) (hl : x0.length ≤ 1048576) : ∀ (d : Nat) (x3 : List Int) (i : Nat), x3.length = x0.length → i + d = x0.length → x3.take i = x0.take i → Ev (fun k => laws_toByteS.l0 k x0 x3 i) x0 := by
  intro d
  induction d with
  | zero =>
    intro x3 i h1 h2 h3
    apply Ev.step
    · intro k; rw [laws_toByteS.l0]
    simp only [if_neg (show ¬ ((i : Int) < x0.length) by omega)]
    rw [take_eq_all h1 (by omega) h3]
    exact Ev.now _
  | succ d ih =>
    intro x3 i h1 h2 h3
    apply Ev.step
    · intro k; rw [laws_toByteS.l0]
    simp only [if_pos (show (i : Int) < x0.length by omega), if_pos (show (0 : Int) ≤ i by omega), if_pos (show (i : Int) < x3.length by omega), w64 (x := (i : Int) + 1) (by omega)]
    have := ih (x3.set i (rd x0 i)) (i + 1) (by simp [h1]) (by omega) (take_set_at _ _ _ _ h1 (by omega) (rd_get _ _ (by omega)) h3)
    simpa using this
theorem ev_toByteS (l : List Int) (h : l.length ≤ 1048576) : Ev (fun k => laws_toByteS.f k l) l := by
  simp only [laws_toByteS.f, if_pos (show (0 : Int) ≤ l.length by omega), if_pos (show (l.length : Int).toNat ≤ 281474976710656 by omega)]
  exact ev_toByteS_l0 l h l.length _ 0 (by simp) (by omega) (by simp)

theorem ev_impl_CheckOf_l0 (b : List Int) (hb : Bytes b) (hl : b.length ≤ 1099511627776) : ∀ (d i : Nat), i + d = b.length → Ev (fun k => impl_CheckOf.l0 k (checkTo b i) b (b.length : Int) i) (checkOf b) := by
  intro d
  induction d with
  | zero =>
    intro i h
    obtain rfl : i = b.length := by omega
    apply Ev.step
    · intro k; rw [impl_CheckOf.l0]
    simp only [if_neg (show ¬ ((b.length : Int) < b.length) by omega)]
    exact Ev.now _
  | succ d ih =>
    intro i h
    have ih' := ih (i + 1) (by omega)
    have hc := checkTo_range b i
    have hr := Bytes_rd hb i
    apply Ev.step
    · intro k; rw [impl_CheckOf.l0]
    simp only [if_pos (show (i : Int) < b.length by omega), if_pos (show (0 : Int) ≤ i by omega), w64 (x := (i : Int) + 1) (by omega), w64 (x := rd b i) (by omega), w64 (x := 269 * checkTo b i) (by omega), w64 (x := 269 * checkTo b i + rd b i) (by omega), tmod_nn (show 0 ≤ 269 * checkTo b i + rd b i by omega)]
    exact ih'
theorem ev_impl_CheckOf (b : List Int) (hb : Bytes b) (hl : b.length ≤ 1099511627776) : Ev (fun k => impl_CheckOf.f k b) (checkOf b) :=
  ev_impl_CheckOf_l0 b hb hl b.length 0 (by omega)

theorem ev_eqByteS_l0 (x0 : List Int) (hl : x0.length ≤ 1099511627776) : ∀ (d : Nat) (i : Nat), i + d = x0.length → Ev (fun k => laws_eqByteS.l0 k x0 x0 i) true := by
  intro d
  induction d with
  | zero =>
    intro i h2
    apply Ev.step
    · intro k; rw [laws_eqByteS.l0]
    simp only [if_neg (show ¬ ((i : Int) < x0.length) by omega)]
    exact Ev.now _
  | succ d ih =>
    intro i h2
    apply Ev.step
    · intro k; rw [laws_eqByteS.l0]
    simp only [if_pos (show (i : Int) < x0.length by omega), if_pos (show (0 : Int) ≤ i by omega), if_true, w64 (x := (i : Int) + 1) (by omega)]
    have := ih (i + 1) (by omega)
    simpa using this
theorem ev_eqByteS (l : List Int) (h : l.length ≤ 1099511627776) : Ev (fun k => laws_eqByteS.f k l l) true := by
  simp only [laws_eqByteS.f, if_true]
  exact ev_eqByteS_l0 l h l.length 0 (by omega)

theorem holds : laws_FnExactCheckOf.Pure := by
  intro b _ _ hw
  apply Ev.ex
  have hb := Bytes_of hw
  simp only [laws_FnExactCheckOf.f]
  by_cases hs : (b.length : Int) > 1048576
  · simp only [if_pos hs]; exact Ev.now _
  simp only [if_neg hs]
  refine Ev.bind (ev_toByteS b (by omega)) ?_
  refine Ev.bind (ev_spec_CheckOf b hb (by omega)) ?_
  refine Ev.bind (ev_toByteS b (by omega)) ?_
  refine Ev.bind (ev_impl_CheckOf b hb (by omega)) ?_
  simp only [if_true]
  refine Ev.bind (ev_toByteS b (by omega)) ?_
  refine Ev.bind (ev_eqByteS b (by omega)) ?_
  exact Ev.const (by simp)

end EFnExactCheckOf
open Go.RowKit Go.Proofs.Ytnmpkdabojlbgaa.PFnExactCheckOf Go.Proofs.YtnmpkdabojlbgaaW.PrintWords Go.Proofs.YtnmpkdabojlbgaaW.PrintLast
theorem FnExactCheckOf : laws_FnExactCheckOf.Pure := EFnExactCheckOf.holds
end Go.Proofs.Ytnmpkdabojlbgaa.Pure
