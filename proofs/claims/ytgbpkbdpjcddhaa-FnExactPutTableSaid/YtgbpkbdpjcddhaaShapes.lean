/- How the arguments of this seat's laws are opened, to the bottom: written by a program of this session. -/
import Derived.Test.YtgbpkbdpjcddhaaOpen
import Derived.Test.YtgbpkbdpjcddhaaQx0
set_option linter.unusedVariables false
set_option linter.unusedSimpArgs false
namespace Go.Proofs.Ytgbpkbdpjcddhaa.Q
open Go Go.RowKit Go.Proofs.YtgbpkbdpjcddhaaW.PrintWords Go.Proofs.YtgbpkbdpjcddhaaW.PrintLast Go.Proofs.YtgbpkbdpjcddhaaW.PrintMore Go.Proofs.Ytgbpkbdpjcddhaa.Lib
def Ok24 (x : S24) : Prop := x.f0.size ≤ 9223372036854775807 ∧ (Lit.int .i64 x.f1).wf = true
set_option maxRecDepth 100000 in
theorem opens24 : Opens Try.prog 24 k24 Ok24 := by
  intro H enc w base spare held fuel cs x h
  obtain ⟨xs, n, _, _, hl, hlen, hf⟩ := DataW.trod_struct Try.underlying24 h
  have hl' : cs.length = 2 := hl.trans (by kernel_rfl)
  have hlen' : xs.length = 2 := hlen
  obtain ⟨y0, e0⟩ := get_some hlen' (show 0 < 2 by omega)
  have g0 := (hf 0 _ rfl).trans e0
  obtain ⟨a0, q0, r0⟩ := (opens_string Try.underlying9) H enc w base spare held n _ _ g0
  replace q0 : Kd.string.K w a0 ((cs.drop 0).take 1) := q0
  obtain ⟨y1, e1⟩ := get_some hlen' (show 1 < 2 by omega)
  have g1 := (hf 1 _ rfl).trans e1
  obtain ⟨a1, q1, r1⟩ := (opens_int Try.underlying3) H enc w base spare held n _ _ g1
  replace q1 : (Kd.int .i64).K w a1 ((cs.drop 1).take 1) := q1
  rw [List.take_of_length_le (by rw [List.length_drop]; omega)] at q1
  exact ⟨⟨a0, a1⟩, ⟨_, _, chop cs 0 1, q0, q1⟩, r0, r1⟩
end Go.Proofs.Ytgbpkbdpjcddhaa.Q
