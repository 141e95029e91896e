/- The machine side of a law, written by a program of this session over the translation: for each Go function a Lean function with the same answers, and the proof that the Go code comes to them. -/
import Derived.Test.YtbdfidnldaghbaaDoorProg
import Derived.Below
import Derived.Deep.Draws
import Derived.Deep.AppendLies
import Derived.Maps.AppendAt
import Derived.OwnWalk
import Derived.Laws.BytesArg
import Derived.Laws.MakeOwn
import Derived.Laws.OwnMore
import Derived.Deep.OwnRows
import Derived.Tactics
import Derived.Lib.ConvBytes
import Derived.Laws.Slices
import Derived.WalkKit
import Derived.KernelRfl
import Derived.RowKit3
import Derived.Deep.LoopGhost
import Derived.Deep.QuietTactic
import Derived.BigQuiet
import Derived.WideLaws
import Derived.Deep.DeepCutAuto
import Derived.Deep.CutBlock
import Derived.Deep.RegionHeld3
import Derived.Laws.Rows
import Derived.Lib.AppendStr
import Derived.ArgAppend
import Derived.Laws.IdiomCopy
import Derived.OrdersHeld
import Derived.Laws.BitsLemmas
import Derived.RowKit
import Derived.Laws.Cover1
import Derived.Lib.SliceRun
import Derived.Test.YtbdfidnldaghbaaDoorWWords
import Derived.Test.YtbdfidnldaghbaaDoorWLast
import Derived.Test.YtbdfidnldaghbaaDoorWTab
import Derived.Test.YtbdfidnldaghbaaDoorWFour
import Derived.Test.YtbdfidnldaghbaaDoorWQPut
import Derived.Test.YtbdfidnldaghbaaDoorWApart
import Derived.Test.YtbdfidnldaghbaaDoorWArr
import Derived.Test.YtbdfidnldaghbaaDoorWZeros
import Derived.Test.YtbdfidnldaghbaaDoorWFoot
import Derived.Test.YtbdfidnldaghbaaDoorWKept
import Derived.Test.YtbdfidnldaghbaaDoorWShare
import Derived.Test.YtbdfidnldaghbaaDoorWN
import Derived.Test.YtbdfidnldaghbaaDoorWFootNe
import Derived.Test.YtbdfidnldaghbaaDoorWAt
import Derived.Test.YtbdfidnldaghbaaDoorWEqStruct
import Derived.Test.YtbdfidnldaghbaaDoorWRepsOne
import Derived.Test.YtbdfidnldaghbaaDoorWInv
import Derived.Test.YtbdfidnldaghbaaDoorWInvWords
import Derived.Test.YtbdfidnldaghbaaDoorWGuard
import Derived.Test.YtbdfidnldaghbaaDoorWNEv
import Derived.Test.YtbdfidnldaghbaaDoorWMore
import Derived.Test.YtbdfidnldaghbaaDoorOwn
import Derived.Lib.SlBytesConst
import Derived.Test.YtbdfidnldaghbaaDoorLay
namespace Go.Proofs.YtbdfidnldaghbaaDoor.Q
open Go.RowKit Go.Proofs.YtbdfidnldaghbaaDoor.Own Go.Proofs.YtbdfidnldaghbaaDoor Go.Proofs.YtbdfidnldaghbaaDoorW.PrintWords Go.Proofs.YtbdfidnldaghbaaDoorW.PrintLast Go.Proofs.YtbdfidnldaghbaaDoorW.PrintMore
attribute [local go_sem] max2_int min2_int max_two min_two max_three min_three max_four min_four   -- for this text's walks alone
set_option linter.unusedVariables false
set_option linter.unusedSimpArgs false



def errW : Option Int → Value
  | none => .nilIface
  | some c => .iface 63 (.int .i64 c)
theorem errW_none : errW none = .nilIface := rfl
theorem errW_some (c : Int) : errW (some c) = .iface 63 (.int .i64 c) := rfl

theorem info3 : (Tryd.prog.info? 3).map (fun i => (i.zero, i.size, i.bytes)) = some (some (.int .i64 0), 1, 8) := by kernel_rfl
theorem info5 : (Tryd.prog.info? 5).map (fun i => (i.zero, i.size, i.bytes)) = some (some (.int .u8 0), 1, 1) := by kernel_rfl
theorem info9 : (Tryd.prog.info? 9).map (fun i => (i.zero, i.size, i.bytes)) = some (some (.string ⟨#[]⟩), 1, 16) := by kernel_rfl
-- the values' own types

end Go.Proofs.YtbdfidnldaghbaaDoor.Q
