/- The machine side of a law, written by a program of this session over the translation: for each Go function a Lean function with the same answers, and the proof that the Go code comes to them. -/
import Derived.Test.YtmjfnkebpdmhbaaProg
import Derived.Below
import Derived.Deep.Draws
import Derived.Deep.AppendLies
import Derived.Maps.AppendAt
import Derived.OwnWalk
import Derived.Laws.BytesArg
import Derived.Laws.MakeOwn
import Derived.Laws.OwnMore
import Derived.Deep.OwnRows
import Derived.Tactics
import Derived.Lib.ConvBytes
import Derived.Laws.Slices
import Derived.WalkKit
import Derived.KernelRfl
import Derived.RowKit3
import Derived.Deep.LoopGhost
import Derived.Deep.QuietTactic
import Derived.BigQuiet
import Derived.WideLaws
import Derived.Deep.DeepCutAuto
import Derived.Deep.CutBlock
import Derived.Deep.RegionHeld3
import Derived.Laws.Rows
import Derived.Lib.AppendStr
import Derived.ArgAppend
import Derived.Laws.IdiomCopy
import Derived.OrdersHeld
import Derived.Laws.BitsLemmas
import Derived.RowKit
import Derived.Laws.Cover1
import Derived.Lib.SliceRun
import Derived.Test.YtmjfnkebpdmhbaaWWords
import Derived.Test.YtmjfnkebpdmhbaaWLast
import Derived.Test.YtmjfnkebpdmhbaaWTab
import Derived.Test.YtmjfnkebpdmhbaaWFour
import Derived.Test.YtmjfnkebpdmhbaaWQPut
import Derived.Test.YtmjfnkebpdmhbaaWApart
import Derived.Test.YtmjfnkebpdmhbaaWArr
import Derived.Test.YtmjfnkebpdmhbaaWZeros
import Derived.Test.YtmjfnkebpdmhbaaWFoot
import Derived.Test.YtmjfnkebpdmhbaaWKept
import Derived.Test.YtmjfnkebpdmhbaaWShare
import Derived.Test.YtmjfnkebpdmhbaaWN
import Derived.Test.YtmjfnkebpdmhbaaWFootNe
import Derived.Test.YtmjfnkebpdmhbaaWAt
import Derived.Test.YtmjfnkebpdmhbaaWEqStruct
import Derived.Test.YtmjfnkebpdmhbaaWRepsOne
import Derived.Test.YtmjfnkebpdmhbaaWInv
import Derived.Test.YtmjfnkebpdmhbaaWInvWords
import Derived.Test.YtmjfnkebpdmhbaaWGuard
import Derived.Test.YtmjfnkebpdmhbaaWNEv
import Derived.Test.YtmjfnkebpdmhbaaWMore
import Derived.Test.YtmjfnkebpdmhbaaOwn
import Derived.Lib.SlBytesConst
namespace Go.Proofs.Ytmjfnkebpdmhbaa.Q
open Go.RowKit Go.Proofs.Ytmjfnkebpdmhbaa.Own Go.Proofs.YtmjfnkebpdmhbaaW.PrintWords Go.Proofs.YtmjfnkebpdmhbaaW.PrintLast Go.Proofs.YtmjfnkebpdmhbaaW.PrintMore
attribute [local go_sem] max2_int min2_int max_two min_two max_three min_three max_four min_four   -- for this text's walks alone
set_option linter.unusedVariables false
set_option linter.unusedSimpArgs false



def errW : Option Int → Value
  | none => .nilIface
  | some c => .iface 0 (.int .i64 c)
theorem errW_none : errW none = .nilIface := rfl
theorem errW_some (c : Int) : errW (some c) = .iface 0 (.int .i64 c) := rfl

theorem info3 : (Try.prog.info? 3).map (fun i => (i.zero, i.size, i.bytes)) = some (some (.int .i64 0), 1, 8) := by kernel_rfl
theorem info5 : (Try.prog.info? 5).map (fun i => (i.zero, i.size, i.bytes)) = some (some (.int .u8 0), 1, 1) := by kernel_rfl
-- the values' own types

end Go.Proofs.Ytmjfnkebpdmhbaa.Q
