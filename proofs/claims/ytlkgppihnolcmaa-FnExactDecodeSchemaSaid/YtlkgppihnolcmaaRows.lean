/-
  No cell of these rows narrows 'for every input' (looked for: loops, veiled, ifaces, maps, wideKeys, modest, calm, conditions, laid).
  DERIVED. THE GIVEN ROWS OF THIS SEAT. 10 by the template 'for every input the law returns true; each argument reads behind the call as it read before'; 0 by the template 'total and deterministic' (their statements: YtlkgppihnolcmaaTotals.lean).
  GIVEN WITH THE SEED: the statements are not yours to turn. If you find one false, say at which input.
  Laid BY PROGRAM, IN A SANDBOX (cutbox-rows.mjs): the forced cells as the released guide's own fill.sh prints them over the translation 7ac504b3b1ca2474… (all of the seat's roots in one cut). By AI agents, Wed Nov 11 2026. No macro, syntax, notation, axiom, sorry.
-/
import Derived.Test.YtlkgppihnolcmaaChecked
import GoSem.Claim
import GoSem.ClaimJoined
import GoSem.ClaimMapViews
import Derived.JoinedTies
import Derived.KernelRfl
namespace Go.Proofs.Ytlkgppihnolcmaa
/- THE CELL 'sum', in the pinned program and in every row, IS THE sha256 OF THE DUMP (.gsa) THAT YtlkgppihnolcmaaProg.lean LOADS. Nothing in Lean hashes anything: it is a label: what it is worth is what the hold of that sum in a sandbox is worth. -/
noncomputable def Try.pinned : Pinned := { name := "ytlkgppihnolcmaa", sum := "7ac504b3b1ca24741ccc1dfc971c967875d8e98c3b324f591667ea7863c55888", checked := Try.checked }
namespace Rows
def none {H : Type} : Left H := { results := [], args := [] }

/-- 'laws.FnExactRowLess': WHATEVER THE INPUT: true; the input reads as it did. -/
def fnExactRowLessSpec : ChangeSpec := { name := "fnExactRowLess", fn := fun _ => fun
  | [d1, d2] => { results := [.lit (.bool true)], args := [d1, d2] }
  | _ => none }
def fnExactRowLessRow : OpenClaim := { program := "ytlkgppihnolcmaa", sum := "7ac504b3b1ca24741ccc1dfc971c967875d8e98c3b324f591667ea7863c55888", func := "loop.example/g00844/laws.FnExactRowLess", spec := "fnExactRowLess", apart := false }
def FnExactRowLessSaid : Prop := fnExactRowLessRow.holds Try.pinned (OpenSpec.ofChange fnExactRowLessSpec)

/-- ITS FALSE NEIGHBOUR: 'it returns false'. Refute it at one input. -/
def fnExactRowLessWrong : ChangeSpec := { name := "fnExactRowLess", fn := fun _ => fun
  | [d1, d2] => { results := [.lit (.bool false)], args := [d1, d2] }
  | _ => none }
def FnExactRowLessWrongFalsely : Prop := fnExactRowLessRow.holds Try.pinned (OpenSpec.ofChange fnExactRowLessWrong)

/-- 'laws.FnExactCountSame': WHATEVER THE INPUT: true; the input reads as it did. -/
def fnExactCountSameSpec : ChangeSpec := { name := "fnExactCountSame", fn := fun _ => fun
  | [d1, d2] => { results := [.lit (.bool true)], args := [d1, d2] }
  | _ => none }
def fnExactCountSameRow : OpenClaim := { program := "ytlkgppihnolcmaa", sum := "7ac504b3b1ca24741ccc1dfc971c967875d8e98c3b324f591667ea7863c55888", func := "loop.example/g00844/laws.FnExactCountSame", spec := "fnExactCountSame", apart := false }
def FnExactCountSameSaid : Prop := fnExactCountSameRow.holds Try.pinned (OpenSpec.ofChange fnExactCountSameSpec)

/-- ITS FALSE NEIGHBOUR: 'it returns false'. Refute it at one input. -/
def fnExactCountSameWrong : ChangeSpec := { name := "fnExactCountSame", fn := fun _ => fun
  | [d1, d2] => { results := [.lit (.bool false)], args := [d1, d2] }
  | _ => none }
def FnExactCountSameWrongFalsely : Prop := fnExactCountSameRow.holds Try.pinned (OpenSpec.ofChange fnExactCountSameWrong)

/-- 'laws.FnExactColumnOf': WHATEVER THE INPUT: true; the input reads as it did. -/
def fnExactColumnOfSpec : ChangeSpec := { name := "fnExactColumnOf", fn := fun _ => fun
  | [d1, d2] => { results := [.lit (.bool true)], args := [d1, d2] }
  | _ => none }
def fnExactColumnOfRow : OpenClaim := { program := "ytlkgppihnolcmaa", sum := "7ac504b3b1ca24741ccc1dfc971c967875d8e98c3b324f591667ea7863c55888", func := "loop.example/g00844/laws.FnExactColumnOf", spec := "fnExactColumnOf", apart := false }
def FnExactColumnOfSaid : Prop := fnExactColumnOfRow.holds Try.pinned (OpenSpec.ofChange fnExactColumnOfSpec)

/-- ITS FALSE NEIGHBOUR: 'it returns false'. Refute it at one input. -/
def fnExactColumnOfWrong : ChangeSpec := { name := "fnExactColumnOf", fn := fun _ => fun
  | [d1, d2] => { results := [.lit (.bool false)], args := [d1, d2] }
  | _ => none }
def FnExactColumnOfWrongFalsely : Prop := fnExactColumnOfRow.holds Try.pinned (OpenSpec.ofChange fnExactColumnOfWrong)

/-- 'laws.FnExactSameRows': WHATEVER THE INPUT: true; the input reads as it did. -/
def fnExactSameRowsSpec : ChangeSpec := { name := "fnExactSameRows", fn := fun _ => fun
  | [d1, d2] => { results := [.lit (.bool true)], args := [d1, d2] }
  | _ => none }
def fnExactSameRowsRow : OpenClaim := { program := "ytlkgppihnolcmaa", sum := "7ac504b3b1ca24741ccc1dfc971c967875d8e98c3b324f591667ea7863c55888", func := "loop.example/g00844/laws.FnExactSameRows", spec := "fnExactSameRows", unfollowed := true, recurses := true, apart := false }
def FnExactSameRowsSaid : Prop := fnExactSameRowsRow.holds Try.pinned (OpenSpec.ofChange fnExactSameRowsSpec)

/-- ITS FALSE NEIGHBOUR: 'it returns false'. Refute it at one input. -/
def fnExactSameRowsWrong : ChangeSpec := { name := "fnExactSameRows", fn := fun _ => fun
  | [d1, d2] => { results := [.lit (.bool false)], args := [d1, d2] }
  | _ => none }
def FnExactSameRowsWrongFalsely : Prop := fnExactSameRowsRow.holds Try.pinned (OpenSpec.ofChange fnExactSameRowsWrong)

/-- 'laws.FnExactSchemaOk': WHATEVER THE INPUT: true; the input reads as it did. -/
def fnExactSchemaOkSpec : ChangeSpec := { name := "fnExactSchemaOk", fn := fun _ => fun
  | [d] => { results := [.lit (.bool true)], args := [d] }
  | _ => none }
def fnExactSchemaOkRow : OpenClaim := { program := "ytlkgppihnolcmaa", sum := "7ac504b3b1ca24741ccc1dfc971c967875d8e98c3b324f591667ea7863c55888", func := "loop.example/g00844/laws.FnExactSchemaOk", spec := "fnExactSchemaOk", apart := false }
def FnExactSchemaOkSaid : Prop := fnExactSchemaOkRow.holds Try.pinned (OpenSpec.ofChange fnExactSchemaOkSpec)

/-- ITS FALSE NEIGHBOUR: 'it returns false'. Refute it at one input. -/
def fnExactSchemaOkWrong : ChangeSpec := { name := "fnExactSchemaOk", fn := fun _ => fun
  | [d] => { results := [.lit (.bool false)], args := [d] }
  | _ => none }
def FnExactSchemaOkWrongFalsely : Prop := fnExactSchemaOkRow.holds Try.pinned (OpenSpec.ofChange fnExactSchemaOkWrong)

/-- 'laws.FnExactFindTable': WHATEVER THE INPUT: true; the input reads as it did. -/
def fnExactFindTableSpec : ChangeSpec := { name := "fnExactFindTable", fn := fun _ => fun
  | [d1, d2] => { results := [.lit (.bool true)], args := [d1, d2] }
  | _ => none }
def fnExactFindTableRow : OpenClaim := { program := "ytlkgppihnolcmaa", sum := "7ac504b3b1ca24741ccc1dfc971c967875d8e98c3b324f591667ea7863c55888", func := "loop.example/g00844/laws.FnExactFindTable", spec := "fnExactFindTable", unfollowed := true, recurses := true, apart := false }
def FnExactFindTableSaid : Prop := fnExactFindTableRow.holds Try.pinned (OpenSpec.ofChange fnExactFindTableSpec)

/-- ITS FALSE NEIGHBOUR: 'it returns false'. Refute it at one input. -/
def fnExactFindTableWrong : ChangeSpec := { name := "fnExactFindTable", fn := fun _ => fun
  | [d1, d2] => { results := [.lit (.bool false)], args := [d1, d2] }
  | _ => none }
def FnExactFindTableWrongFalsely : Prop := fnExactFindTableRow.holds Try.pinned (OpenSpec.ofChange fnExactFindTableWrong)

/-- 'laws.FnExactStoreOk': WHATEVER THE INPUT: true; the input reads as it did. -/
def fnExactStoreOkSpec : ChangeSpec := { name := "fnExactStoreOk", fn := fun _ => fun
  | [d1, d2] => { results := [.lit (.bool true)], args := [d1, d2] }
  | _ => none }
def fnExactStoreOkRow : OpenClaim := { program := "ytlkgppihnolcmaa", sum := "7ac504b3b1ca24741ccc1dfc971c967875d8e98c3b324f591667ea7863c55888", func := "loop.example/g00844/laws.FnExactStoreOk", spec := "fnExactStoreOk", unfollowed := true, recurses := true, apart := false }
def FnExactStoreOkSaid : Prop := fnExactStoreOkRow.holds Try.pinned (OpenSpec.ofChange fnExactStoreOkSpec)

/-- ITS FALSE NEIGHBOUR: 'it returns false'. Refute it at one input. -/
def fnExactStoreOkWrong : ChangeSpec := { name := "fnExactStoreOk", fn := fun _ => fun
  | [d1, d2] => { results := [.lit (.bool false)], args := [d1, d2] }
  | _ => none }
def FnExactStoreOkWrongFalsely : Prop := fnExactStoreOkRow.holds Try.pinned (OpenSpec.ofChange fnExactStoreOkWrong)

/-- 'laws.FnExactPutTable': WHATEVER THE INPUT: true; the input reads as it did. -/
def fnExactPutTableSpec : ChangeSpec := { name := "fnExactPutTable", fn := fun _ => fun
  | [d1, d2] => { results := [.lit (.bool true)], args := [d1, d2] }
  | _ => none }
def fnExactPutTableRow : OpenClaim := { program := "ytlkgppihnolcmaa", sum := "7ac504b3b1ca24741ccc1dfc971c967875d8e98c3b324f591667ea7863c55888", func := "loop.example/g00844/laws.FnExactPutTable", spec := "fnExactPutTable", inPlace := ["slices.overlaps[loop.example/g00844/impl.Table]"], apart := false }
def FnExactPutTableSaid : Prop := fnExactPutTableRow.holds Try.pinned (OpenSpec.ofChange fnExactPutTableSpec)

/-- ITS FALSE NEIGHBOUR: 'it returns false'. Refute it at one input. -/
def fnExactPutTableWrong : ChangeSpec := { name := "fnExactPutTable", fn := fun _ => fun
  | [d1, d2] => { results := [.lit (.bool false)], args := [d1, d2] }
  | _ => none }
def FnExactPutTableWrongFalsely : Prop := fnExactPutTableRow.holds Try.pinned (OpenSpec.ofChange fnExactPutTableWrong)

/-- 'laws.FnExactEncodeSchema': WHATEVER THE INPUT: true; the input reads as it did. -/
def fnExactEncodeSchemaSpec : ChangeSpec := { name := "fnExactEncodeSchema", fn := fun _ => fun
  | [d] => { results := [.lit (.bool true)], args := [d] }
  | _ => none }
def fnExactEncodeSchemaRow : OpenClaim := { program := "ytlkgppihnolcmaa", sum := "7ac504b3b1ca24741ccc1dfc971c967875d8e98c3b324f591667ea7863c55888", func := "loop.example/g00844/laws.FnExactEncodeSchema", spec := "fnExactEncodeSchema", apart := false }
def FnExactEncodeSchemaSaid : Prop := fnExactEncodeSchemaRow.holds Try.pinned (OpenSpec.ofChange fnExactEncodeSchemaSpec)

/-- ITS FALSE NEIGHBOUR: 'it returns false'. Refute it at one input. -/
def fnExactEncodeSchemaWrong : ChangeSpec := { name := "fnExactEncodeSchema", fn := fun _ => fun
  | [d] => { results := [.lit (.bool false)], args := [d] }
  | _ => none }
def FnExactEncodeSchemaWrongFalsely : Prop := fnExactEncodeSchemaRow.holds Try.pinned (OpenSpec.ofChange fnExactEncodeSchemaWrong)

/-- 'laws.FnExactDecodeSchema': WHATEVER THE INPUT: true; the input reads as it did. -/
def fnExactDecodeSchemaSpec : ChangeSpec := { name := "fnExactDecodeSchema", fn := fun _ => fun
  | [d] => { results := [.lit (.bool true)], args := [d] }
  | _ => none }
def fnExactDecodeSchemaRow : OpenClaim := { program := "ytlkgppihnolcmaa", sum := "7ac504b3b1ca24741ccc1dfc971c967875d8e98c3b324f591667ea7863c55888", func := "loop.example/g00844/laws.FnExactDecodeSchema", spec := "fnExactDecodeSchema", apart := false }
def FnExactDecodeSchemaSaid : Prop := fnExactDecodeSchemaRow.holds Try.pinned (OpenSpec.ofChange fnExactDecodeSchemaSpec)

/-- ITS FALSE NEIGHBOUR: 'it returns false'. Refute it at one input. -/
def fnExactDecodeSchemaWrong : ChangeSpec := { name := "fnExactDecodeSchema", fn := fun _ => fun
  | [d] => { results := [.lit (.bool false)], args := [d] }
  | _ => none }
def FnExactDecodeSchemaWrongFalsely : Prop := fnExactDecodeSchemaRow.holds Try.pinned (OpenSpec.ofChange fnExactDecodeSchemaWrong)

/- THE SECOND FORM. 'bulk': how many values and letters a reading holds, each counted each time it is reached (what is shared counts as often as it is met; a slice's spare places count too). A statement '..UptoSaid' is the law's where the arguments, and the package variables that the reading takes, are together of bulk at most 1048576: NARROWER than '..Said'. Prove '..Said' where nothing that the law and all that it calls make is longer than what came in: it says more and counts as full. Else prove '..UptoSaid'. A law counts once. -/
mutual
def uptoBulk {H : Type} : DataW H → Nat
  | .lit (.string bytes) => bytes.length + 1
  | .lit _ => 1
  | .nil => 1
  | .ptr d => uptoBulk d + 1
  | .slice elems spare => uptoBulkAll elems + uptoBulkAll spare + 1
  | .agg parts => uptoBulkAll parts + 1
  | .iface _ d => uptoBulk d + 1
  | .map entries => uptoBulkEntries entries + 1
  | .held _ => 1
def uptoBulkAll {H : Type} : List (DataW H) → Nat
  | [] => 0
  | d :: r => uptoBulk d + uptoBulkAll r
def uptoBulkEntries {H : Type} : List (Lit × DataW H) → Nat
  | [] => 0
  | x :: r => uptoBulkEntry x + uptoBulkEntries r
def uptoBulkEntry {H : Type} : Lit × DataW H → Nat
  | (.string bytes, d) => bytes.length + uptoBulk d + 1
  | (_, d) => uptoBulk d + 1
 end
def uptoSmall : (H : Type) → List (DataW H) → Bool := fun _ ds => decide (uptoBulkAll ds ≤ 1048576)
def OpenSpec.upto (s : _root_.Go.ChangeSpec) : _root_.Go.OpenSpec := { _root_.Go.OpenSpec.ofChange s with cond := some uptoSmall }

/-- 'laws.FnExactRowLess', WHERE WHAT IT READS IS OF BULK AT MOST 1048576: true; the input reads as it did. -/
def fnExactRowLessUptoRow : OpenClaim := { program := "ytlkgppihnolcmaa", sum := "7ac504b3b1ca24741ccc1dfc971c967875d8e98c3b324f591667ea7863c55888", func := "loop.example/g00844/laws.FnExactRowLess", spec := "fnExactRowLess", apart := false, narrowed := true }
def FnExactRowLessUptoSaid : Prop := fnExactRowLessUptoRow.holds Try.pinned (OpenSpec.upto fnExactRowLessSpec)

/-- 'laws.FnExactCountSame', WHERE WHAT IT READS IS OF BULK AT MOST 1048576: true; the input reads as it did. -/
def fnExactCountSameUptoRow : OpenClaim := { program := "ytlkgppihnolcmaa", sum := "7ac504b3b1ca24741ccc1dfc971c967875d8e98c3b324f591667ea7863c55888", func := "loop.example/g00844/laws.FnExactCountSame", spec := "fnExactCountSame", apart := false, narrowed := true }
def FnExactCountSameUptoSaid : Prop := fnExactCountSameUptoRow.holds Try.pinned (OpenSpec.upto fnExactCountSameSpec)

/-- 'laws.FnExactColumnOf', WHERE WHAT IT READS IS OF BULK AT MOST 1048576: true; the input reads as it did. -/
def fnExactColumnOfUptoRow : OpenClaim := { program := "ytlkgppihnolcmaa", sum := "7ac504b3b1ca24741ccc1dfc971c967875d8e98c3b324f591667ea7863c55888", func := "loop.example/g00844/laws.FnExactColumnOf", spec := "fnExactColumnOf", apart := false, narrowed := true }
def FnExactColumnOfUptoSaid : Prop := fnExactColumnOfUptoRow.holds Try.pinned (OpenSpec.upto fnExactColumnOfSpec)

/-- 'laws.FnExactSameRows', WHERE WHAT IT READS IS OF BULK AT MOST 1048576: true; the input reads as it did. -/
def fnExactSameRowsUptoRow : OpenClaim := { program := "ytlkgppihnolcmaa", sum := "7ac504b3b1ca24741ccc1dfc971c967875d8e98c3b324f591667ea7863c55888", func := "loop.example/g00844/laws.FnExactSameRows", spec := "fnExactSameRows", unfollowed := true, recurses := true, apart := false, narrowed := true }
def FnExactSameRowsUptoSaid : Prop := fnExactSameRowsUptoRow.holds Try.pinned (OpenSpec.upto fnExactSameRowsSpec)

/-- 'laws.FnExactSchemaOk', WHERE WHAT IT READS IS OF BULK AT MOST 1048576: true; the input reads as it did. -/
def fnExactSchemaOkUptoRow : OpenClaim := { program := "ytlkgppihnolcmaa", sum := "7ac504b3b1ca24741ccc1dfc971c967875d8e98c3b324f591667ea7863c55888", func := "loop.example/g00844/laws.FnExactSchemaOk", spec := "fnExactSchemaOk", apart := false, narrowed := true }
def FnExactSchemaOkUptoSaid : Prop := fnExactSchemaOkUptoRow.holds Try.pinned (OpenSpec.upto fnExactSchemaOkSpec)

/-- 'laws.FnExactFindTable', WHERE WHAT IT READS IS OF BULK AT MOST 1048576: true; the input reads as it did. -/
def fnExactFindTableUptoRow : OpenClaim := { program := "ytlkgppihnolcmaa", sum := "7ac504b3b1ca24741ccc1dfc971c967875d8e98c3b324f591667ea7863c55888", func := "loop.example/g00844/laws.FnExactFindTable", spec := "fnExactFindTable", unfollowed := true, recurses := true, apart := false, narrowed := true }
def FnExactFindTableUptoSaid : Prop := fnExactFindTableUptoRow.holds Try.pinned (OpenSpec.upto fnExactFindTableSpec)

/-- 'laws.FnExactStoreOk', WHERE WHAT IT READS IS OF BULK AT MOST 1048576: true; the input reads as it did. -/
def fnExactStoreOkUptoRow : OpenClaim := { program := "ytlkgppihnolcmaa", sum := "7ac504b3b1ca24741ccc1dfc971c967875d8e98c3b324f591667ea7863c55888", func := "loop.example/g00844/laws.FnExactStoreOk", spec := "fnExactStoreOk", unfollowed := true, recurses := true, apart := false, narrowed := true }
def FnExactStoreOkUptoSaid : Prop := fnExactStoreOkUptoRow.holds Try.pinned (OpenSpec.upto fnExactStoreOkSpec)

/-- 'laws.FnExactPutTable', WHERE WHAT IT READS IS OF BULK AT MOST 1048576: true; the input reads as it did. -/
def fnExactPutTableUptoRow : OpenClaim := { program := "ytlkgppihnolcmaa", sum := "7ac504b3b1ca24741ccc1dfc971c967875d8e98c3b324f591667ea7863c55888", func := "loop.example/g00844/laws.FnExactPutTable", spec := "fnExactPutTable", inPlace := ["slices.overlaps[loop.example/g00844/impl.Table]"], apart := false, narrowed := true }
def FnExactPutTableUptoSaid : Prop := fnExactPutTableUptoRow.holds Try.pinned (OpenSpec.upto fnExactPutTableSpec)

/-- 'laws.FnExactEncodeSchema', WHERE WHAT IT READS IS OF BULK AT MOST 1048576: true; the input reads as it did. -/
def fnExactEncodeSchemaUptoRow : OpenClaim := { program := "ytlkgppihnolcmaa", sum := "7ac504b3b1ca24741ccc1dfc971c967875d8e98c3b324f591667ea7863c55888", func := "loop.example/g00844/laws.FnExactEncodeSchema", spec := "fnExactEncodeSchema", apart := false, narrowed := true }
def FnExactEncodeSchemaUptoSaid : Prop := fnExactEncodeSchemaUptoRow.holds Try.pinned (OpenSpec.upto fnExactEncodeSchemaSpec)

/-- 'laws.FnExactDecodeSchema', WHERE WHAT IT READS IS OF BULK AT MOST 1048576: true; the input reads as it did. -/
def fnExactDecodeSchemaUptoRow : OpenClaim := { program := "ytlkgppihnolcmaa", sum := "7ac504b3b1ca24741ccc1dfc971c967875d8e98c3b324f591667ea7863c55888", func := "loop.example/g00844/laws.FnExactDecodeSchema", spec := "fnExactDecodeSchema", apart := false, narrowed := true }
def FnExactDecodeSchemaUptoSaid : Prop := fnExactDecodeSchemaUptoRow.holds Try.pinned (OpenSpec.upto fnExactDecodeSchemaSpec)

end Rows
end Go.Proofs.Ytlkgppihnolcmaa
