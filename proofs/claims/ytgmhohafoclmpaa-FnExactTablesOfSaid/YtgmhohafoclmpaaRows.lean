/-
  No cell of these rows narrows 'for every input' (looked for: loops, veiled, ifaces, maps, wideKeys, modest, calm, conditions, laid).
  DERIVED. THE GIVEN ROWS OF THIS SEAT. 6 by the template 'for every input the law returns true; each argument reads behind the call as it read before'; 0 by the template 'total and deterministic' (their statements: YtgmhohafoclmpaaTotals.lean).
  GIVEN WITH THE SEED: the statements are not yours to turn. If you find one false, say at which input.
  Laid BY PROGRAM, IN A SANDBOX (cutbox-rows.mjs): the forced cells as the released guide's own fill.sh prints them over the translation 8e0c099ab7c0b226… (all of the seat's roots in one cut). By AI agents, Wed Nov 11 2026. No macro, syntax, notation, axiom, sorry.
-/
import Derived.Test.YtgmhohafoclmpaaChecked
import GoSem.Claim
import GoSem.ClaimJoined
import GoSem.ClaimMapViews
import Derived.JoinedTies
import Derived.KernelRfl
namespace Go.Proofs.Ytgmhohafoclmpaa
/- THE CELL 'sum', in the pinned program and in every row, IS THE sha256 OF THE DUMP (.gsa) THAT YtgmhohafoclmpaaProg.lean LOADS. Nothing in Lean hashes anything: it is a label: what it is worth is what the hold of that sum in a sandbox is worth. -/
noncomputable def Try.pinned : Pinned := { name := "ytgmhohafoclmpaa", sum := "8e0c099ab7c0b226caca5b544b81f393f66be54c211102592cd8e198be4ee11f", checked := Try.checked }
namespace Rows
def none {H : Type} : Left H := { results := [], args := [] }

/-- 'laws.FnExactWidthOf': WHATEVER THE INPUT: true; the input reads as it did. -/
def fnExactWidthOfSpec : ChangeSpec := { name := "fnExactWidthOf", fn := fun _ => fun
  | [d1, d2] => { results := [.lit (.bool true)], args := [d1, d2] }
  | _ => none }
def fnExactWidthOfRow : OpenClaim := { program := "ytgmhohafoclmpaa", sum := "8e0c099ab7c0b226caca5b544b81f393f66be54c211102592cd8e198be4ee11f", func := "loop.example/g00844/laws.FnExactWidthOf", spec := "fnExactWidthOf", unfollowed := true, recurses := true, apart := false }
def FnExactWidthOfSaid : Prop := fnExactWidthOfRow.holds Try.pinned (OpenSpec.ofChange fnExactWidthOfSpec)

/-- ITS FALSE NEIGHBOUR: 'it returns false'. Refute it at one input. -/
def fnExactWidthOfWrong : ChangeSpec := { name := "fnExactWidthOf", fn := fun _ => fun
  | [d1, d2] => { results := [.lit (.bool false)], args := [d1, d2] }
  | _ => none }
def FnExactWidthOfWrongFalsely : Prop := fnExactWidthOfRow.holds Try.pinned (OpenSpec.ofChange fnExactWidthOfWrong)

/-- 'laws.FnExactTypedOk': WHATEVER THE INPUT: true; the input reads as it did. -/
def fnExactTypedOkSpec : ChangeSpec := { name := "fnExactTypedOk", fn := fun _ => fun
  | [d1, d2] => { results := [.lit (.bool true)], args := [d1, d2] }
  | _ => none }
def fnExactTypedOkRow : OpenClaim := { program := "ytgmhohafoclmpaa", sum := "8e0c099ab7c0b226caca5b544b81f393f66be54c211102592cd8e198be4ee11f", func := "loop.example/g00844/laws.FnExactTypedOk", spec := "fnExactTypedOk", unfollowed := true, recurses := true, apart := false }
def FnExactTypedOkSaid : Prop := fnExactTypedOkRow.holds Try.pinned (OpenSpec.ofChange fnExactTypedOkSpec)

/-- ITS FALSE NEIGHBOUR: 'it returns false'. Refute it at one input. -/
def fnExactTypedOkWrong : ChangeSpec := { name := "fnExactTypedOk", fn := fun _ => fun
  | [d1, d2] => { results := [.lit (.bool false)], args := [d1, d2] }
  | _ => none }
def FnExactTypedOkWrongFalsely : Prop := fnExactTypedOkRow.holds Try.pinned (OpenSpec.ofChange fnExactTypedOkWrong)

/-- 'laws.FnExactWidthAt': WHATEVER THE INPUT: true; the input reads as it did. -/
def fnExactWidthAtSpec : ChangeSpec := { name := "fnExactWidthAt", fn := fun _ => fun
  | [d1, d2, d3] => { results := [.lit (.bool true)], args := [d1, d2, d3] }
  | _ => none }
def fnExactWidthAtRow : OpenClaim := { program := "ytgmhohafoclmpaa", sum := "8e0c099ab7c0b226caca5b544b81f393f66be54c211102592cd8e198be4ee11f", func := "loop.example/g00844/laws.FnExactWidthAt", spec := "fnExactWidthAt", unfollowed := true, recurses := true, apart := false }
def FnExactWidthAtSaid : Prop := fnExactWidthAtRow.holds Try.pinned (OpenSpec.ofChange fnExactWidthAtSpec)

/-- ITS FALSE NEIGHBOUR: 'it returns false'. Refute it at one input. -/
def fnExactWidthAtWrong : ChangeSpec := { name := "fnExactWidthAt", fn := fun _ => fun
  | [d1, d2, d3] => { results := [.lit (.bool false)], args := [d1, d2, d3] }
  | _ => none }
def FnExactWidthAtWrongFalsely : Prop := fnExactWidthAtRow.holds Try.pinned (OpenSpec.ofChange fnExactWidthAtWrong)

/-- 'laws.FnExactPlanSum': WHATEVER THE INPUT: true; the input reads as it did. -/
def fnExactPlanSumSpec : ChangeSpec := { name := "fnExactPlanSum", fn := fun _ => fun
  | [d] => { results := [.lit (.bool true)], args := [d] }
  | _ => none }
def fnExactPlanSumRow : OpenClaim := { program := "ytgmhohafoclmpaa", sum := "8e0c099ab7c0b226caca5b544b81f393f66be54c211102592cd8e198be4ee11f", func := "loop.example/g00844/laws.FnExactPlanSum", spec := "fnExactPlanSum", unfollowed := true, recurses := true, apart := false }
def FnExactPlanSumSaid : Prop := fnExactPlanSumRow.holds Try.pinned (OpenSpec.ofChange fnExactPlanSumSpec)

/-- ITS FALSE NEIGHBOUR: 'it returns false'. Refute it at one input. -/
def fnExactPlanSumWrong : ChangeSpec := { name := "fnExactPlanSum", fn := fun _ => fun
  | [d] => { results := [.lit (.bool false)], args := [d] }
  | _ => none }
def FnExactPlanSumWrongFalsely : Prop := fnExactPlanSumRow.holds Try.pinned (OpenSpec.ofChange fnExactPlanSumWrong)

/-- 'laws.FnExactDecodePlan': WHATEVER THE INPUT: true; the input reads as it did. -/
def fnExactDecodePlanSpec : ChangeSpec := { name := "fnExactDecodePlan", fn := fun _ => fun
  | [d] => { results := [.lit (.bool true)], args := [d] }
  | _ => none }
def fnExactDecodePlanRow : OpenClaim := { program := "ytgmhohafoclmpaa", sum := "8e0c099ab7c0b226caca5b544b81f393f66be54c211102592cd8e198be4ee11f", func := "loop.example/g00844/laws.FnExactDecodePlan", spec := "fnExactDecodePlan", unfollowed := true, recurses := true, apart := false }
def FnExactDecodePlanSaid : Prop := fnExactDecodePlanRow.holds Try.pinned (OpenSpec.ofChange fnExactDecodePlanSpec)

/-- ITS FALSE NEIGHBOUR: 'it returns false'. Refute it at one input. -/
def fnExactDecodePlanWrong : ChangeSpec := { name := "fnExactDecodePlan", fn := fun _ => fun
  | [d] => { results := [.lit (.bool false)], args := [d] }
  | _ => none }
def FnExactDecodePlanWrongFalsely : Prop := fnExactDecodePlanRow.holds Try.pinned (OpenSpec.ofChange fnExactDecodePlanWrong)

/-- 'laws.FnExactTablesOf': WHATEVER THE INPUT: true; the input reads as it did. -/
def fnExactTablesOfSpec : ChangeSpec := { name := "fnExactTablesOf", fn := fun _ => fun
  | [d] => { results := [.lit (.bool true)], args := [d] }
  | _ => none }
def fnExactTablesOfRow : OpenClaim := { program := "ytgmhohafoclmpaa", sum := "8e0c099ab7c0b226caca5b544b81f393f66be54c211102592cd8e198be4ee11f", func := "loop.example/g00844/laws.FnExactTablesOf", spec := "fnExactTablesOf", unfollowed := true, recurses := true, apart := false }
def FnExactTablesOfSaid : Prop := fnExactTablesOfRow.holds Try.pinned (OpenSpec.ofChange fnExactTablesOfSpec)

/-- ITS FALSE NEIGHBOUR: 'it returns false'. Refute it at one input. -/
def fnExactTablesOfWrong : ChangeSpec := { name := "fnExactTablesOf", fn := fun _ => fun
  | [d] => { results := [.lit (.bool false)], args := [d] }
  | _ => none }
def FnExactTablesOfWrongFalsely : Prop := fnExactTablesOfRow.holds Try.pinned (OpenSpec.ofChange fnExactTablesOfWrong)

/- THE SECOND FORM. 'bulk': how many values and letters a reading holds, each counted each time it is reached (what is shared counts as often as it is met; a slice's spare places count too). A statement '..UptoSaid' is the law's where the arguments, and the package variables that the reading takes, are together of bulk at most 1048576: NARROWER than '..Said'. Prove '..Said' where nothing that the law and all that it calls make is longer than what came in: it says more and counts as full. Else prove '..UptoSaid'. A law counts once. -/
mutual
def uptoBulk {H : Type} : DataW H → Nat
  | .lit (.string bytes) => bytes.length + 1
  | .lit _ => 1
  | .nil => 1
  | .ptr d => uptoBulk d + 1
  | .slice elems spare => uptoBulkAll elems + uptoBulkAll spare + 1
  | .agg parts => uptoBulkAll parts + 1
  | .iface _ d => uptoBulk d + 1
  | .map entries => uptoBulkEntries entries + 1
  | .held _ => 1
def uptoBulkAll {H : Type} : List (DataW H) → Nat
  | [] => 0
  | d :: r => uptoBulk d + uptoBulkAll r
def uptoBulkEntries {H : Type} : List (Lit × DataW H) → Nat
  | [] => 0
  | x :: r => uptoBulkEntry x + uptoBulkEntries r
def uptoBulkEntry {H : Type} : Lit × DataW H → Nat
  | (.string bytes, d) => bytes.length + uptoBulk d + 1
  | (_, d) => uptoBulk d + 1
 end
def uptoSmall : (H : Type) → List (DataW H) → Bool := fun _ ds => decide (uptoBulkAll ds ≤ 1048576)
def OpenSpec.upto (s : _root_.Go.ChangeSpec) : _root_.Go.OpenSpec := { _root_.Go.OpenSpec.ofChange s with cond := some uptoSmall }

/-- 'laws.FnExactWidthOf', WHERE WHAT IT READS IS OF BULK AT MOST 1048576: true; the input reads as it did. -/
def fnExactWidthOfUptoRow : OpenClaim := { program := "ytgmhohafoclmpaa", sum := "8e0c099ab7c0b226caca5b544b81f393f66be54c211102592cd8e198be4ee11f", func := "loop.example/g00844/laws.FnExactWidthOf", spec := "fnExactWidthOf", unfollowed := true, recurses := true, apart := false, narrowed := true }
def FnExactWidthOfUptoSaid : Prop := fnExactWidthOfUptoRow.holds Try.pinned (OpenSpec.upto fnExactWidthOfSpec)

/-- 'laws.FnExactTypedOk', WHERE WHAT IT READS IS OF BULK AT MOST 1048576: true; the input reads as it did. -/
def fnExactTypedOkUptoRow : OpenClaim := { program := "ytgmhohafoclmpaa", sum := "8e0c099ab7c0b226caca5b544b81f393f66be54c211102592cd8e198be4ee11f", func := "loop.example/g00844/laws.FnExactTypedOk", spec := "fnExactTypedOk", unfollowed := true, recurses := true, apart := false, narrowed := true }
def FnExactTypedOkUptoSaid : Prop := fnExactTypedOkUptoRow.holds Try.pinned (OpenSpec.upto fnExactTypedOkSpec)

/-- 'laws.FnExactWidthAt', WHERE WHAT IT READS IS OF BULK AT MOST 1048576: true; the input reads as it did. -/
def fnExactWidthAtUptoRow : OpenClaim := { program := "ytgmhohafoclmpaa", sum := "8e0c099ab7c0b226caca5b544b81f393f66be54c211102592cd8e198be4ee11f", func := "loop.example/g00844/laws.FnExactWidthAt", spec := "fnExactWidthAt", unfollowed := true, recurses := true, apart := false, narrowed := true }
def FnExactWidthAtUptoSaid : Prop := fnExactWidthAtUptoRow.holds Try.pinned (OpenSpec.upto fnExactWidthAtSpec)

/-- 'laws.FnExactPlanSum', WHERE WHAT IT READS IS OF BULK AT MOST 1048576: true; the input reads as it did. -/
def fnExactPlanSumUptoRow : OpenClaim := { program := "ytgmhohafoclmpaa", sum := "8e0c099ab7c0b226caca5b544b81f393f66be54c211102592cd8e198be4ee11f", func := "loop.example/g00844/laws.FnExactPlanSum", spec := "fnExactPlanSum", unfollowed := true, recurses := true, apart := false, narrowed := true }
def FnExactPlanSumUptoSaid : Prop := fnExactPlanSumUptoRow.holds Try.pinned (OpenSpec.upto fnExactPlanSumSpec)

/-- 'laws.FnExactDecodePlan', WHERE WHAT IT READS IS OF BULK AT MOST 1048576: true; the input reads as it did. -/
def fnExactDecodePlanUptoRow : OpenClaim := { program := "ytgmhohafoclmpaa", sum := "8e0c099ab7c0b226caca5b544b81f393f66be54c211102592cd8e198be4ee11f", func := "loop.example/g00844/laws.FnExactDecodePlan", spec := "fnExactDecodePlan", unfollowed := true, recurses := true, apart := false, narrowed := true }
def FnExactDecodePlanUptoSaid : Prop := fnExactDecodePlanUptoRow.holds Try.pinned (OpenSpec.upto fnExactDecodePlanSpec)

/-- 'laws.FnExactTablesOf', WHERE WHAT IT READS IS OF BULK AT MOST 1048576: true; the input reads as it did. -/
def fnExactTablesOfUptoRow : OpenClaim := { program := "ytgmhohafoclmpaa", sum := "8e0c099ab7c0b226caca5b544b81f393f66be54c211102592cd8e198be4ee11f", func := "loop.example/g00844/laws.FnExactTablesOf", spec := "fnExactTablesOf", unfollowed := true, recurses := true, apart := false, narrowed := true }
def FnExactTablesOfUptoSaid : Prop := fnExactTablesOfUptoRow.holds Try.pinned (OpenSpec.upto fnExactTablesOfSpec)

end Rows
end Go.Proofs.Ytgmhohafoclmpaa
