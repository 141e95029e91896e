/- How the arguments of this seat's laws are opened, to the bottom: written by a program of this session. -/
import Derived.Test.YtgmhohafoclmpaaOpen
import Derived.Test.YtgmhohafoclmpaaQx0
set_option linter.unusedVariables false
set_option linter.unusedSimpArgs false
namespace Go.Proofs.Ytgmhohafoclmpaa.Q
open Go Go.RowKit Go.Proofs.YtgmhohafoclmpaaW.PrintWords Go.Proofs.YtgmhohafoclmpaaW.PrintLast Go.Proofs.YtgmhohafoclmpaaW.PrintMore Go.Proofs.Ytgmhohafoclmpaa.Lib
def Ok57 (x : S57) : Prop := (Lit.int .i64 x.f0).wf = true ∧ x.f1.size ≤ 9223372036854775807 ∧ (Lit.int .i64 x.f2).wf = true ∧ (Lit.int .i64 x.f3).wf = true ∧ (Lit.int .i64 x.f4).wf = true ∧ True ∧ (x.f6.length ≤ 9223372036854775807 ∧ ∀ yxf6 ∈ x.f6, (Lit.int .i64 yxf6).wf = true)
set_option maxRecDepth 100000 in
theorem opens57 : Opens Try.prog 57 k57 Ok57 := by
  intro H enc w base spare held fuel cs x h
  obtain ⟨xs, n, _, _, hl, hlen, hf⟩ := DataW.trod_struct Try.underlying57 h
  have hl' : cs.length = 7 := hl.trans (by kernel_rfl)
  have hlen' : xs.length = 7 := hlen
  obtain ⟨y0, e0⟩ := get_some hlen' (show 0 < 7 by omega)
  have g0 := (hf 0 _ rfl).trans e0
  obtain ⟨a0, q0, r0⟩ := (opens_int Try.underlying3) H enc w base spare held n _ _ g0
  replace q0 : (Kd.int .i64).K w a0 ((cs.drop 0).take 1) := q0
  obtain ⟨y1, e1⟩ := get_some hlen' (show 1 < 7 by omega)
  have g1 := (hf 1 _ rfl).trans e1
  obtain ⟨a1, q1, r1⟩ := (opens_string Try.underlying9) H enc w base spare held n _ _ g1
  replace q1 : Kd.string.K w a1 ((cs.drop 1).take 1) := q1
  obtain ⟨y2, e2⟩ := get_some hlen' (show 2 < 7 by omega)
  have g2 := (hf 2 _ rfl).trans e2
  obtain ⟨a2, q2, r2⟩ := (opens_int Try.underlying3) H enc w base spare held n _ _ g2
  replace q2 : (Kd.int .i64).K w a2 ((cs.drop 2).take 1) := q2
  obtain ⟨y3, e3⟩ := get_some hlen' (show 3 < 7 by omega)
  have g3 := (hf 3 _ rfl).trans e3
  obtain ⟨a3, q3, r3⟩ := (opens_int Try.underlying3) H enc w base spare held n _ _ g3
  replace q3 : (Kd.int .i64).K w a3 ((cs.drop 3).take 1) := q3
  obtain ⟨y4, e4⟩ := get_some hlen' (show 4 < 7 by omega)
  have g4 := (hf 4 _ rfl).trans e4
  obtain ⟨a4, q4, r4⟩ := (opens_int Try.underlying3) H enc w base spare held n _ _ g4
  replace q4 : (Kd.int .i64).K w a4 ((cs.drop 4).take 1) := q4
  obtain ⟨y5, e5⟩ := get_some hlen' (show 5 < 7 by omega)
  have g5 := (hf 5 _ rfl).trans e5
  obtain ⟨a5, q5, r5⟩ := (opens_bool Try.underlying4) H enc w base spare held n _ _ g5
  replace q5 : Kd.bool.K w a5 ((cs.drop 5).take 1) := q5
  obtain ⟨y6, e6⟩ := get_some hlen' (show 6 < 7 by omega)
  have g6 := (hf 6 _ rfl).trans e6
  obtain ⟨a6, q6, r6⟩ := (opens_slice (0 : Int) Try.underlying55 (by kernel_rfl) (opens_int Try.underlying3)) H enc w base spare held n _ _ g6
  replace q6 : (Kd.slice 3 (Kd.int .i64)).K w a6 ((cs.drop 6).take 1) := q6
  rw [List.take_of_length_le (by rw [List.length_drop]; omega)] at q6
  exact ⟨⟨a0, a1, a2, a3, a4, a5, a6⟩, ⟨_, _, chop cs 0 1, q0, ⟨_, _, chop cs 1 1, q1, ⟨_, _, chop cs 2 1, q2, ⟨_, _, chop cs 3 1, q3, ⟨_, _, chop cs 4 1, q4, ⟨_, _, chop cs 5 1, q5, q6⟩⟩⟩⟩⟩⟩, r0, r1, r2, r3, r4, r5, r6⟩
end Go.Proofs.Ytgmhohafoclmpaa.Q
