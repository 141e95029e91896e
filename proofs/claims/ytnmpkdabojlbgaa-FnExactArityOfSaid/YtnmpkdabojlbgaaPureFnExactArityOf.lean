/- Of every whole number: the program's ArityOf gives what the reference's ArityOf gives. -/
import Derived.Test.YtnmpkdabojlbgaaPFnExactArityOfx1
import Derived.Test.YtnmpkdabojlbgaaLib
set_option linter.unusedVariables false
set_option linter.unusedSimpArgs false
namespace Go.Proofs.Ytnmpkdabojlbgaa.Pure
namespace EFnExactArityOf
open Go.RowKit Go.Proofs.Ytnmpkdabojlbgaa.PFnExactArityOf Go.Proofs.YtnmpkdabojlbgaaW.PrintWords Go.Proofs.YtnmpkdabojlbgaaW.PrintLast Go.Proofs.YtnmpkdabojlbgaaW.PrintMore Go.Proofs.Ytnmpkdabojlbgaa.Lib

theorem ev_spec_ArityOf (a : Int) : Ev (fun k => spec_ArityOf.f k a) (arity a) := by
  simp only [spec_ArityOf.f]
  by_cases h0 : a = 0
  · subst h0; simp only [if_true]; exact Ev.now _
  by_cases h3 : a = 3
  · subst h3
    simp only [if_neg (show ¬ (3 : Int) = 0 by omega), if_true]
    apply Ev.step
    · intro k; rw [spec_ArityOf.j0]
    exact Ev.const (by simp [arity])
  simp only [if_neg h0, if_neg h3]
  apply Ev.step
  · intro k; rw [spec_ArityOf.j0]
  refine Ev.const ?_
  unfold arity
  by_cases h4 : a = 4
  · subst h4; simp
  · simp only [beq_iff_eq, if_neg h0, if_neg h3, if_neg h4]
    repeat' split
    all_goals first | rfl | omega

theorem ev_impl_ArityOf (a : Int) : Ev (fun k => impl_ArityOf.f k a) (arity a) := by
  simp only [impl_ArityOf.f]
  by_cases h0 : a = 0
  · subst h0; simp only [if_true]; exact Ev.now _
  by_cases h3 : a = 3
  · subst h3
    simp only [if_neg (show ¬ (3 : Int) = 0 by omega), if_true]
    apply Ev.step
    · intro k; rw [impl_ArityOf.j0]
    exact Ev.const (by simp [arity])
  simp only [if_neg h0, if_neg h3]
  apply Ev.step
  · intro k; rw [impl_ArityOf.j0]
  refine Ev.const ?_
  unfold arity
  by_cases h4 : a = 4
  · subst h4; simp
  · simp only [beq_iff_eq, if_neg h0, if_neg h3, if_neg h4]
    repeat' split
    all_goals first | rfl | omega

theorem holds : laws_FnExactArityOf.Pure := by
  intro a ha
  apply Ev.ex
  simp only [laws_FnExactArityOf.f]
  refine Ev.bind (ev_spec_ArityOf a) ?_
  refine Ev.bind (ev_impl_ArityOf a) ?_
  simp only [if_true]
  exact Ev.now _

end EFnExactArityOf
open Go.RowKit Go.Proofs.Ytnmpkdabojlbgaa.PFnExactArityOf Go.Proofs.YtnmpkdabojlbgaaW.PrintWords Go.Proofs.YtnmpkdabojlbgaaW.PrintLast
theorem FnExactArityOf : laws_FnExactArityOf.Pure := EFnExactArityOf.holds
end Go.Proofs.Ytnmpkdabojlbgaa.Pure
