/- The machine side of a law, written by a program of this session over the translation: for each Go function a Lean function with the same answers, and the proof that the Go code comes to them. -/
import Derived.Test.YtnmpkdabojlbgaaProg
import Derived.Below
import Derived.Deep.Draws
import Derived.Deep.AppendLies
import Derived.Maps.AppendAt
import Derived.OwnWalk
import Derived.Laws.BytesArg
import Derived.Laws.MakeOwn
import Derived.Laws.OwnMore
import Derived.Deep.OwnRows
import Derived.Tactics
import Derived.Lib.ConvBytes
import Derived.Laws.Slices
import Derived.WalkKit
import Derived.KernelRfl
import Derived.RowKit3
import Derived.Deep.LoopGhost
import Derived.Deep.QuietTactic
import Derived.BigQuiet
import Derived.WideLaws
import Derived.Deep.DeepCutAuto
import Derived.Deep.CutBlock
import Derived.Deep.RegionHeld3
import Derived.Laws.Rows
import Derived.Lib.AppendStr
import Derived.ArgAppend
import Derived.Laws.IdiomCopy
import Derived.OrdersHeld
import Derived.Laws.BitsLemmas
import Derived.RowKit
import Derived.Laws.Cover1
import Derived.Lib.SliceRun
import Derived.Test.YtnmpkdabojlbgaaWWords
import Derived.Test.YtnmpkdabojlbgaaWLast
import Derived.Test.YtnmpkdabojlbgaaWTab
import Derived.Test.YtnmpkdabojlbgaaWFour
import Derived.Test.YtnmpkdabojlbgaaWQPut
import Derived.Test.YtnmpkdabojlbgaaWApart
import Derived.Test.YtnmpkdabojlbgaaWArr
import Derived.Test.YtnmpkdabojlbgaaWZeros
import Derived.Test.YtnmpkdabojlbgaaWFoot
import Derived.Test.YtnmpkdabojlbgaaWKept
import Derived.Test.YtnmpkdabojlbgaaWShare
import Derived.Test.YtnmpkdabojlbgaaWN
import Derived.Test.YtnmpkdabojlbgaaWFootNe
import Derived.Test.YtnmpkdabojlbgaaWAt
import Derived.Test.YtnmpkdabojlbgaaWEqStruct
import Derived.Test.YtnmpkdabojlbgaaWRepsOne
import Derived.Test.YtnmpkdabojlbgaaWInv
import Derived.Test.YtnmpkdabojlbgaaWInvWords
import Derived.Test.YtnmpkdabojlbgaaWGuard
import Derived.Test.YtnmpkdabojlbgaaWNEv
import Derived.Test.YtnmpkdabojlbgaaWMore
import Derived.Test.YtnmpkdabojlbgaaOwn
import Derived.Lib.SlBytesConst
namespace Go.Proofs.Ytnmpkdabojlbgaa.Q
open Go.RowKit Go.Proofs.Ytnmpkdabojlbgaa.Own Go.Proofs.YtnmpkdabojlbgaaW.PrintWords Go.Proofs.YtnmpkdabojlbgaaW.PrintLast Go.Proofs.YtnmpkdabojlbgaaW.PrintMore
attribute [local go_sem] max2_int min2_int max_two min_two max_three min_three max_four min_four   -- for this text's walks alone
set_option linter.unusedVariables false
set_option linter.unusedSimpArgs false



def errW : Option Int → Value
  | none => .nilIface
  | some c => .iface 0 (.int .i64 c)
theorem errW_none : errW none = .nilIface := rfl
theorem errW_some (c : Int) : errW (some c) = .iface 0 (.int .i64 c) := rfl

theorem info5 : (Try.prog.info? 5).map (fun i => (i.zero, i.size, i.bytes)) = some (some (.int .u8 0), 1, 1) := by kernel_rfl
theorem info26 : (Try.prog.info? 26).map (fun i => (i.zero, i.size, i.bytes)) = some (some (.slice none 0 0), 1, 24) := by kernel_rfl
-- the values' own types

end Go.Proofs.Ytnmpkdabojlbgaa.Q
