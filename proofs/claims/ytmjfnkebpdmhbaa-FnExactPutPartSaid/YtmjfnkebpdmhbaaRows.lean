/-
  No cell of these rows narrows 'for every input' (looked for: loops, veiled, ifaces, maps, wideKeys, modest, calm, conditions, laid).
  DERIVED. THE GIVEN ROWS OF THIS SEAT. 12 by the template 'for every input the law returns true; each argument reads behind the call as it read before'; 0 by the template 'total and deterministic' (their statements: YtmjfnkebpdmhbaaTotals.lean).
  GIVEN WITH THE SEED: the statements are not yours to turn. If you find one false, say at which input.
  Laid BY PROGRAM, IN A SANDBOX (cutbox-rows.mjs): the forced cells as the released guide's own fill.sh prints them over the translation 5bcb58fdc4159e4a… (all of the seat's roots in one cut). By AI agents, Wed Nov 11 2026. No macro, syntax, notation, axiom, sorry.
-/
import Derived.Test.YtmjfnkebpdmhbaaChecked
import GoSem.Claim
import GoSem.ClaimJoined
import GoSem.ClaimMapViews
import Derived.JoinedTies
import Derived.KernelRfl
namespace Go.Proofs.Ytmjfnkebpdmhbaa
/- THE CELL 'sum', in the pinned program and in every row, IS THE sha256 OF THE DUMP (.gsa) THAT YtmjfnkebpdmhbaaProg.lean LOADS. Nothing in Lean hashes anything: it is a label: what it is worth is what the hold of that sum in a sandbox is worth. -/
noncomputable def Try.pinned : Pinned := { name := "ytmjfnkebpdmhbaa", sum := "5bcb58fdc4159e4aa492fd639c47a113fb35d0ab084419b21ff0cbe9f1b698b7", checked := Try.checked }
namespace Rows
def none {H : Type} : Left H := { results := [], args := [] }

/-- 'laws.FnExactSamePlan': WHATEVER THE INPUT: true; the input reads as it did. -/
def fnExactSamePlanSpec : ChangeSpec := { name := "fnExactSamePlan", fn := fun _ => fun
  | [d1, d2] => { results := [.lit (.bool true)], args := [d1, d2] }
  | _ => none }
def fnExactSamePlanRow : OpenClaim := { program := "ytmjfnkebpdmhbaa", sum := "5bcb58fdc4159e4aa492fd639c47a113fb35d0ab084419b21ff0cbe9f1b698b7", func := "loop.example/g00844/laws.FnExactSamePlan", spec := "fnExactSamePlan", unfollowed := true, recurses := true, apart := false }
def FnExactSamePlanSaid : Prop := fnExactSamePlanRow.holds Try.pinned (OpenSpec.ofChange fnExactSamePlanSpec)

/-- ITS FALSE NEIGHBOUR: 'it returns false'. Refute it at one input. -/
def fnExactSamePlanWrong : ChangeSpec := { name := "fnExactSamePlan", fn := fun _ => fun
  | [d1, d2] => { results := [.lit (.bool false)], args := [d1, d2] }
  | _ => none }
def FnExactSamePlanWrongFalsely : Prop := fnExactSamePlanRow.holds Try.pinned (OpenSpec.ofChange fnExactSamePlanWrong)

/-- 'laws.FnExactNodeOk': WHATEVER THE INPUT: true; the input reads as it did. -/
def fnExactNodeOkSpec : ChangeSpec := { name := "fnExactNodeOk", fn := fun _ => fun
  | [d] => { results := [.lit (.bool true)], args := [d] }
  | _ => none }
def fnExactNodeOkRow : OpenClaim := { program := "ytmjfnkebpdmhbaa", sum := "5bcb58fdc4159e4aa492fd639c47a113fb35d0ab084419b21ff0cbe9f1b698b7", func := "loop.example/g00844/laws.FnExactNodeOk", spec := "fnExactNodeOk", unfollowed := true, recurses := true, apart := false }
def FnExactNodeOkSaid : Prop := fnExactNodeOkRow.holds Try.pinned (OpenSpec.ofChange fnExactNodeOkSpec)

/-- ITS FALSE NEIGHBOUR: 'it returns false'. Refute it at one input. -/
def fnExactNodeOkWrong : ChangeSpec := { name := "fnExactNodeOk", fn := fun _ => fun
  | [d] => { results := [.lit (.bool false)], args := [d] }
  | _ => none }
def FnExactNodeOkWrongFalsely : Prop := fnExactNodeOkRow.holds Try.pinned (OpenSpec.ofChange fnExactNodeOkWrong)

/-- 'laws.FnExactPlanOk': WHATEVER THE INPUT: true; the input reads as it did. -/
def fnExactPlanOkSpec : ChangeSpec := { name := "fnExactPlanOk", fn := fun _ => fun
  | [d] => { results := [.lit (.bool true)], args := [d] }
  | _ => none }
def fnExactPlanOkRow : OpenClaim := { program := "ytmjfnkebpdmhbaa", sum := "5bcb58fdc4159e4aa492fd639c47a113fb35d0ab084419b21ff0cbe9f1b698b7", func := "loop.example/g00844/laws.FnExactPlanOk", spec := "fnExactPlanOk", unfollowed := true, recurses := true, apart := false }
def FnExactPlanOkSaid : Prop := fnExactPlanOkRow.holds Try.pinned (OpenSpec.ofChange fnExactPlanOkSpec)

/-- ITS FALSE NEIGHBOUR: 'it returns false'. Refute it at one input. -/
def fnExactPlanOkWrong : ChangeSpec := { name := "fnExactPlanOk", fn := fun _ => fun
  | [d] => { results := [.lit (.bool false)], args := [d] }
  | _ => none }
def FnExactPlanOkWrongFalsely : Prop := fnExactPlanOkRow.holds Try.pinned (OpenSpec.ofChange fnExactPlanOkWrong)

/-- 'laws.FnExactEndOf': WHATEVER THE INPUT: true; the input reads as it did. -/
def fnExactEndOfSpec : ChangeSpec := { name := "fnExactEndOf", fn := fun _ => fun
  | [d1, d2] => { results := [.lit (.bool true)], args := [d1, d2] }
  | _ => none }
def fnExactEndOfRow : OpenClaim := { program := "ytmjfnkebpdmhbaa", sum := "5bcb58fdc4159e4aa492fd639c47a113fb35d0ab084419b21ff0cbe9f1b698b7", func := "loop.example/g00844/laws.FnExactEndOf", spec := "fnExactEndOf", unfollowed := true, recurses := true, apart := false }
def FnExactEndOfSaid : Prop := fnExactEndOfRow.holds Try.pinned (OpenSpec.ofChange fnExactEndOfSpec)

/-- ITS FALSE NEIGHBOUR: 'it returns false'. Refute it at one input. -/
def fnExactEndOfWrong : ChangeSpec := { name := "fnExactEndOf", fn := fun _ => fun
  | [d1, d2] => { results := [.lit (.bool false)], args := [d1, d2] }
  | _ => none }
def FnExactEndOfWrongFalsely : Prop := fnExactEndOfRow.holds Try.pinned (OpenSpec.ofChange fnExactEndOfWrong)

/-- 'laws.FnExactCountKind': WHATEVER THE INPUT: true; the input reads as it did. -/
def fnExactCountKindSpec : ChangeSpec := { name := "fnExactCountKind", fn := fun _ => fun
  | [d1, d2] => { results := [.lit (.bool true)], args := [d1, d2] }
  | _ => none }
def fnExactCountKindRow : OpenClaim := { program := "ytmjfnkebpdmhbaa", sum := "5bcb58fdc4159e4aa492fd639c47a113fb35d0ab084419b21ff0cbe9f1b698b7", func := "loop.example/g00844/laws.FnExactCountKind", spec := "fnExactCountKind", unfollowed := true, recurses := true, apart := false }
def FnExactCountKindSaid : Prop := fnExactCountKindRow.holds Try.pinned (OpenSpec.ofChange fnExactCountKindSpec)

/-- ITS FALSE NEIGHBOUR: 'it returns false'. Refute it at one input. -/
def fnExactCountKindWrong : ChangeSpec := { name := "fnExactCountKind", fn := fun _ => fun
  | [d1, d2] => { results := [.lit (.bool false)], args := [d1, d2] }
  | _ => none }
def FnExactCountKindWrongFalsely : Prop := fnExactCountKindRow.holds Try.pinned (OpenSpec.ofChange fnExactCountKindWrong)

/-- 'laws.FnExactDepthOf': WHATEVER THE INPUT: true; the input reads as it did. -/
def fnExactDepthOfSpec : ChangeSpec := { name := "fnExactDepthOf", fn := fun _ => fun
  | [d] => { results := [.lit (.bool true)], args := [d] }
  | _ => none }
def fnExactDepthOfRow : OpenClaim := { program := "ytmjfnkebpdmhbaa", sum := "5bcb58fdc4159e4aa492fd639c47a113fb35d0ab084419b21ff0cbe9f1b698b7", func := "loop.example/g00844/laws.FnExactDepthOf", spec := "fnExactDepthOf", unfollowed := true, recurses := true, apart := false }
def FnExactDepthOfSaid : Prop := fnExactDepthOfRow.holds Try.pinned (OpenSpec.ofChange fnExactDepthOfSpec)

/-- ITS FALSE NEIGHBOUR: 'it returns false'. Refute it at one input. -/
def fnExactDepthOfWrong : ChangeSpec := { name := "fnExactDepthOf", fn := fun _ => fun
  | [d] => { results := [.lit (.bool false)], args := [d] }
  | _ => none }
def FnExactDepthOfWrongFalsely : Prop := fnExactDepthOfRow.holds Try.pinned (OpenSpec.ofChange fnExactDepthOfWrong)

/-- 'laws.FnExactChildrenOf': WHATEVER THE INPUT: true; the input reads as it did. -/
def fnExactChildrenOfSpec : ChangeSpec := { name := "fnExactChildrenOf", fn := fun _ => fun
  | [d1, d2] => { results := [.lit (.bool true)], args := [d1, d2] }
  | _ => none }
def fnExactChildrenOfRow : OpenClaim := { program := "ytmjfnkebpdmhbaa", sum := "5bcb58fdc4159e4aa492fd639c47a113fb35d0ab084419b21ff0cbe9f1b698b7", func := "loop.example/g00844/laws.FnExactChildrenOf", spec := "fnExactChildrenOf", unfollowed := true, recurses := true, apart := false }
def FnExactChildrenOfSaid : Prop := fnExactChildrenOfRow.holds Try.pinned (OpenSpec.ofChange fnExactChildrenOfSpec)

/-- ITS FALSE NEIGHBOUR: 'it returns false'. Refute it at one input. -/
def fnExactChildrenOfWrong : ChangeSpec := { name := "fnExactChildrenOf", fn := fun _ => fun
  | [d1, d2] => { results := [.lit (.bool false)], args := [d1, d2] }
  | _ => none }
def FnExactChildrenOfWrongFalsely : Prop := fnExactChildrenOfRow.holds Try.pinned (OpenSpec.ofChange fnExactChildrenOfWrong)

/-- 'laws.FnExactPartOf': WHATEVER THE INPUT: true; the input reads as it did. -/
def fnExactPartOfSpec : ChangeSpec := { name := "fnExactPartOf", fn := fun _ => fun
  | [d1, d2] => { results := [.lit (.bool true)], args := [d1, d2] }
  | _ => none }
def fnExactPartOfRow : OpenClaim := { program := "ytmjfnkebpdmhbaa", sum := "5bcb58fdc4159e4aa492fd639c47a113fb35d0ab084419b21ff0cbe9f1b698b7", func := "loop.example/g00844/laws.FnExactPartOf", spec := "fnExactPartOf", unfollowed := true, recurses := true, apart := false }
def FnExactPartOfSaid : Prop := fnExactPartOfRow.holds Try.pinned (OpenSpec.ofChange fnExactPartOfSpec)

/-- ITS FALSE NEIGHBOUR: 'it returns false'. Refute it at one input. -/
def fnExactPartOfWrong : ChangeSpec := { name := "fnExactPartOf", fn := fun _ => fun
  | [d1, d2] => { results := [.lit (.bool false)], args := [d1, d2] }
  | _ => none }
def FnExactPartOfWrongFalsely : Prop := fnExactPartOfRow.holds Try.pinned (OpenSpec.ofChange fnExactPartOfWrong)

/-- 'laws.FnExactPutPart': WHATEVER THE INPUT: true; the input reads as it did. -/
def fnExactPutPartSpec : ChangeSpec := { name := "fnExactPutPart", fn := fun _ => fun
  | [d1, d2, d3] => { results := [.lit (.bool true)], args := [d1, d2, d3] }
  | _ => none }
def fnExactPutPartRow : OpenClaim := { program := "ytmjfnkebpdmhbaa", sum := "5bcb58fdc4159e4aa492fd639c47a113fb35d0ab084419b21ff0cbe9f1b698b7", func := "loop.example/g00844/laws.FnExactPutPart", spec := "fnExactPutPart", unfollowed := true, recurses := true, apart := false }
def FnExactPutPartSaid : Prop := fnExactPutPartRow.holds Try.pinned (OpenSpec.ofChange fnExactPutPartSpec)

/-- ITS FALSE NEIGHBOUR: 'it returns false'. Refute it at one input. -/
def fnExactPutPartWrong : ChangeSpec := { name := "fnExactPutPart", fn := fun _ => fun
  | [d1, d2, d3] => { results := [.lit (.bool false)], args := [d1, d2, d3] }
  | _ => none }
def FnExactPutPartWrongFalsely : Prop := fnExactPutPartRow.holds Try.pinned (OpenSpec.ofChange fnExactPutPartWrong)

/-- 'laws.FnExactPutNode': WHATEVER THE INPUT: true; the input reads as it did. -/
def fnExactPutNodeSpec : ChangeSpec := { name := "fnExactPutNode", fn := fun _ => fun
  | [d] => { results := [.lit (.bool true)], args := [d] }
  | _ => none }
def fnExactPutNodeRow : OpenClaim := { program := "ytmjfnkebpdmhbaa", sum := "5bcb58fdc4159e4aa492fd639c47a113fb35d0ab084419b21ff0cbe9f1b698b7", func := "loop.example/g00844/laws.FnExactPutNode", spec := "fnExactPutNode", unfollowed := true, recurses := true, apart := false }
def FnExactPutNodeSaid : Prop := fnExactPutNodeRow.holds Try.pinned (OpenSpec.ofChange fnExactPutNodeSpec)

/-- ITS FALSE NEIGHBOUR: 'it returns false'. Refute it at one input. -/
def fnExactPutNodeWrong : ChangeSpec := { name := "fnExactPutNode", fn := fun _ => fun
  | [d] => { results := [.lit (.bool false)], args := [d] }
  | _ => none }
def FnExactPutNodeWrongFalsely : Prop := fnExactPutNodeRow.holds Try.pinned (OpenSpec.ofChange fnExactPutNodeWrong)

/-- 'laws.FnExactTakeNode': WHATEVER THE INPUT: true; the input reads as it did. -/
def fnExactTakeNodeSpec : ChangeSpec := { name := "fnExactTakeNode", fn := fun _ => fun
  | [d1, d2] => { results := [.lit (.bool true)], args := [d1, d2] }
  | _ => none }
def fnExactTakeNodeRow : OpenClaim := { program := "ytmjfnkebpdmhbaa", sum := "5bcb58fdc4159e4aa492fd639c47a113fb35d0ab084419b21ff0cbe9f1b698b7", func := "loop.example/g00844/laws.FnExactTakeNode", spec := "fnExactTakeNode", unfollowed := true, recurses := true, apart := false }
def FnExactTakeNodeSaid : Prop := fnExactTakeNodeRow.holds Try.pinned (OpenSpec.ofChange fnExactTakeNodeSpec)

/-- ITS FALSE NEIGHBOUR: 'it returns false'. Refute it at one input. -/
def fnExactTakeNodeWrong : ChangeSpec := { name := "fnExactTakeNode", fn := fun _ => fun
  | [d1, d2] => { results := [.lit (.bool false)], args := [d1, d2] }
  | _ => none }
def FnExactTakeNodeWrongFalsely : Prop := fnExactTakeNodeRow.holds Try.pinned (OpenSpec.ofChange fnExactTakeNodeWrong)

/-- 'laws.FnExactEncodePlan': WHATEVER THE INPUT: true; the input reads as it did. -/
def fnExactEncodePlanSpec : ChangeSpec := { name := "fnExactEncodePlan", fn := fun _ => fun
  | [d] => { results := [.lit (.bool true)], args := [d] }
  | _ => none }
def fnExactEncodePlanRow : OpenClaim := { program := "ytmjfnkebpdmhbaa", sum := "5bcb58fdc4159e4aa492fd639c47a113fb35d0ab084419b21ff0cbe9f1b698b7", func := "loop.example/g00844/laws.FnExactEncodePlan", spec := "fnExactEncodePlan", unfollowed := true, recurses := true, apart := false }
def FnExactEncodePlanSaid : Prop := fnExactEncodePlanRow.holds Try.pinned (OpenSpec.ofChange fnExactEncodePlanSpec)

/-- ITS FALSE NEIGHBOUR: 'it returns false'. Refute it at one input. -/
def fnExactEncodePlanWrong : ChangeSpec := { name := "fnExactEncodePlan", fn := fun _ => fun
  | [d] => { results := [.lit (.bool false)], args := [d] }
  | _ => none }
def FnExactEncodePlanWrongFalsely : Prop := fnExactEncodePlanRow.holds Try.pinned (OpenSpec.ofChange fnExactEncodePlanWrong)

/- THE SECOND FORM. 'bulk': how many values and letters a reading holds, each counted each time it is reached (what is shared counts as often as it is met; a slice's spare places count too). A statement '..UptoSaid' is the law's where the arguments, and the package variables that the reading takes, are together of bulk at most 1048576: NARROWER than '..Said'. Prove '..Said' where nothing that the law and all that it calls make is longer than what came in: it says more and counts as full. Else prove '..UptoSaid'. A law counts once. -/
mutual
def uptoBulk {H : Type} : DataW H → Nat
  | .lit (.string bytes) => bytes.length + 1
  | .lit _ => 1
  | .nil => 1
  | .ptr d => uptoBulk d + 1
  | .slice elems spare => uptoBulkAll elems + uptoBulkAll spare + 1
  | .agg parts => uptoBulkAll parts + 1
  | .iface _ d => uptoBulk d + 1
  | .map entries => uptoBulkEntries entries + 1
  | .held _ => 1
def uptoBulkAll {H : Type} : List (DataW H) → Nat
  | [] => 0
  | d :: r => uptoBulk d + uptoBulkAll r
def uptoBulkEntries {H : Type} : List (Lit × DataW H) → Nat
  | [] => 0
  | x :: r => uptoBulkEntry x + uptoBulkEntries r
def uptoBulkEntry {H : Type} : Lit × DataW H → Nat
  | (.string bytes, d) => bytes.length + uptoBulk d + 1
  | (_, d) => uptoBulk d + 1
 end
def uptoSmall : (H : Type) → List (DataW H) → Bool := fun _ ds => decide (uptoBulkAll ds ≤ 1048576)
def OpenSpec.upto (s : _root_.Go.ChangeSpec) : _root_.Go.OpenSpec := { _root_.Go.OpenSpec.ofChange s with cond := some uptoSmall }

/-- 'laws.FnExactSamePlan', WHERE WHAT IT READS IS OF BULK AT MOST 1048576: true; the input reads as it did. -/
def fnExactSamePlanUptoRow : OpenClaim := { program := "ytmjfnkebpdmhbaa", sum := "5bcb58fdc4159e4aa492fd639c47a113fb35d0ab084419b21ff0cbe9f1b698b7", func := "loop.example/g00844/laws.FnExactSamePlan", spec := "fnExactSamePlan", unfollowed := true, recurses := true, apart := false, narrowed := true }
def FnExactSamePlanUptoSaid : Prop := fnExactSamePlanUptoRow.holds Try.pinned (OpenSpec.upto fnExactSamePlanSpec)

/-- 'laws.FnExactNodeOk', WHERE WHAT IT READS IS OF BULK AT MOST 1048576: true; the input reads as it did. -/
def fnExactNodeOkUptoRow : OpenClaim := { program := "ytmjfnkebpdmhbaa", sum := "5bcb58fdc4159e4aa492fd639c47a113fb35d0ab084419b21ff0cbe9f1b698b7", func := "loop.example/g00844/laws.FnExactNodeOk", spec := "fnExactNodeOk", unfollowed := true, recurses := true, apart := false, narrowed := true }
def FnExactNodeOkUptoSaid : Prop := fnExactNodeOkUptoRow.holds Try.pinned (OpenSpec.upto fnExactNodeOkSpec)

/-- 'laws.FnExactPlanOk', WHERE WHAT IT READS IS OF BULK AT MOST 1048576: true; the input reads as it did. -/
def fnExactPlanOkUptoRow : OpenClaim := { program := "ytmjfnkebpdmhbaa", sum := "5bcb58fdc4159e4aa492fd639c47a113fb35d0ab084419b21ff0cbe9f1b698b7", func := "loop.example/g00844/laws.FnExactPlanOk", spec := "fnExactPlanOk", unfollowed := true, recurses := true, apart := false, narrowed := true }
def FnExactPlanOkUptoSaid : Prop := fnExactPlanOkUptoRow.holds Try.pinned (OpenSpec.upto fnExactPlanOkSpec)

/-- 'laws.FnExactEndOf', WHERE WHAT IT READS IS OF BULK AT MOST 1048576: true; the input reads as it did. -/
def fnExactEndOfUptoRow : OpenClaim := { program := "ytmjfnkebpdmhbaa", sum := "5bcb58fdc4159e4aa492fd639c47a113fb35d0ab084419b21ff0cbe9f1b698b7", func := "loop.example/g00844/laws.FnExactEndOf", spec := "fnExactEndOf", unfollowed := true, recurses := true, apart := false, narrowed := true }
def FnExactEndOfUptoSaid : Prop := fnExactEndOfUptoRow.holds Try.pinned (OpenSpec.upto fnExactEndOfSpec)

/-- 'laws.FnExactCountKind', WHERE WHAT IT READS IS OF BULK AT MOST 1048576: true; the input reads as it did. -/
def fnExactCountKindUptoRow : OpenClaim := { program := "ytmjfnkebpdmhbaa", sum := "5bcb58fdc4159e4aa492fd639c47a113fb35d0ab084419b21ff0cbe9f1b698b7", func := "loop.example/g00844/laws.FnExactCountKind", spec := "fnExactCountKind", unfollowed := true, recurses := true, apart := false, narrowed := true }
def FnExactCountKindUptoSaid : Prop := fnExactCountKindUptoRow.holds Try.pinned (OpenSpec.upto fnExactCountKindSpec)

/-- 'laws.FnExactDepthOf', WHERE WHAT IT READS IS OF BULK AT MOST 1048576: true; the input reads as it did. -/
def fnExactDepthOfUptoRow : OpenClaim := { program := "ytmjfnkebpdmhbaa", sum := "5bcb58fdc4159e4aa492fd639c47a113fb35d0ab084419b21ff0cbe9f1b698b7", func := "loop.example/g00844/laws.FnExactDepthOf", spec := "fnExactDepthOf", unfollowed := true, recurses := true, apart := false, narrowed := true }
def FnExactDepthOfUptoSaid : Prop := fnExactDepthOfUptoRow.holds Try.pinned (OpenSpec.upto fnExactDepthOfSpec)

/-- 'laws.FnExactChildrenOf', WHERE WHAT IT READS IS OF BULK AT MOST 1048576: true; the input reads as it did. -/
def fnExactChildrenOfUptoRow : OpenClaim := { program := "ytmjfnkebpdmhbaa", sum := "5bcb58fdc4159e4aa492fd639c47a113fb35d0ab084419b21ff0cbe9f1b698b7", func := "loop.example/g00844/laws.FnExactChildrenOf", spec := "fnExactChildrenOf", unfollowed := true, recurses := true, apart := false, narrowed := true }
def FnExactChildrenOfUptoSaid : Prop := fnExactChildrenOfUptoRow.holds Try.pinned (OpenSpec.upto fnExactChildrenOfSpec)

/-- 'laws.FnExactPartOf', WHERE WHAT IT READS IS OF BULK AT MOST 1048576: true; the input reads as it did. -/
def fnExactPartOfUptoRow : OpenClaim := { program := "ytmjfnkebpdmhbaa", sum := "5bcb58fdc4159e4aa492fd639c47a113fb35d0ab084419b21ff0cbe9f1b698b7", func := "loop.example/g00844/laws.FnExactPartOf", spec := "fnExactPartOf", unfollowed := true, recurses := true, apart := false, narrowed := true }
def FnExactPartOfUptoSaid : Prop := fnExactPartOfUptoRow.holds Try.pinned (OpenSpec.upto fnExactPartOfSpec)

/-- 'laws.FnExactPutPart', WHERE WHAT IT READS IS OF BULK AT MOST 1048576: true; the input reads as it did. -/
def fnExactPutPartUptoRow : OpenClaim := { program := "ytmjfnkebpdmhbaa", sum := "5bcb58fdc4159e4aa492fd639c47a113fb35d0ab084419b21ff0cbe9f1b698b7", func := "loop.example/g00844/laws.FnExactPutPart", spec := "fnExactPutPart", unfollowed := true, recurses := true, apart := false, narrowed := true }
def FnExactPutPartUptoSaid : Prop := fnExactPutPartUptoRow.holds Try.pinned (OpenSpec.upto fnExactPutPartSpec)

/-- 'laws.FnExactPutNode', WHERE WHAT IT READS IS OF BULK AT MOST 1048576: true; the input reads as it did. -/
def fnExactPutNodeUptoRow : OpenClaim := { program := "ytmjfnkebpdmhbaa", sum := "5bcb58fdc4159e4aa492fd639c47a113fb35d0ab084419b21ff0cbe9f1b698b7", func := "loop.example/g00844/laws.FnExactPutNode", spec := "fnExactPutNode", unfollowed := true, recurses := true, apart := false, narrowed := true }
def FnExactPutNodeUptoSaid : Prop := fnExactPutNodeUptoRow.holds Try.pinned (OpenSpec.upto fnExactPutNodeSpec)

/-- 'laws.FnExactTakeNode', WHERE WHAT IT READS IS OF BULK AT MOST 1048576: true; the input reads as it did. -/
def fnExactTakeNodeUptoRow : OpenClaim := { program := "ytmjfnkebpdmhbaa", sum := "5bcb58fdc4159e4aa492fd639c47a113fb35d0ab084419b21ff0cbe9f1b698b7", func := "loop.example/g00844/laws.FnExactTakeNode", spec := "fnExactTakeNode", unfollowed := true, recurses := true, apart := false, narrowed := true }
def FnExactTakeNodeUptoSaid : Prop := fnExactTakeNodeUptoRow.holds Try.pinned (OpenSpec.upto fnExactTakeNodeSpec)

/-- 'laws.FnExactEncodePlan', WHERE WHAT IT READS IS OF BULK AT MOST 1048576: true; the input reads as it did. -/
def fnExactEncodePlanUptoRow : OpenClaim := { program := "ytmjfnkebpdmhbaa", sum := "5bcb58fdc4159e4aa492fd639c47a113fb35d0ab084419b21ff0cbe9f1b698b7", func := "loop.example/g00844/laws.FnExactEncodePlan", spec := "fnExactEncodePlan", unfollowed := true, recurses := true, apart := false, narrowed := true }
def FnExactEncodePlanUptoSaid : Prop := fnExactEncodePlanUptoRow.holds Try.pinned (OpenSpec.upto fnExactEncodePlanSpec)

end Rows
end Go.Proofs.Ytmjfnkebpdmhbaa
