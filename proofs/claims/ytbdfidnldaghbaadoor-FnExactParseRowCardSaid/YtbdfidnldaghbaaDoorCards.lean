/-
  DERIVED. GIVEN WITH THE SEED: THE CARDS: each row of YtbdfidnldaghbaaDoorRows.lean that lists a variable, with what it lists TIED to the program's text (the seventh form; the later family's looks); each row that meets fmt, with fmt's text TOLD by the authors' own Lean function (tested against real Go, not proved from fmt's source: count such statements apart). THE CARD IS WHAT COUNTS. Prove the row's statement (the work); the ties are given (YtbdfidnldaghbaaDoorTie.lean); close each card by the builder's one call (the guide's Derived/Test/ToyasCard.lean, 'card_holds'). Laid BY PROGRAM, IN A SANDBOX (cutbox-door.mjs). By AI agents, Wed Nov 11 2026. No macro, syntax, notation, axiom, sorry.
-/
import Derived.Test.YtbdfidnldaghbaaDoorRows
import GoSem.ClaimSeven
namespace Go.Proofs.YtbdfidnldaghbaaDoor
namespace Rows

/-- THE TIED CARD OF 'laws.FnExactRowText'. -/
def fnExactRowTextCard : Claim7 := { stood := { row := fnExactRowTextRow, standIns := [], harness := (true, "ffc58ad446aec4574c752686f56b8c05e140bb04e24df7507fe642dec9dc4c41"), looks := true }, kinds := [], alts := [], laidByText := true, laidKinds := [.data, .data, .data], laidTests := true, laidLooks := .later }
def FnExactRowTextCardSaid : Prop := Claim7.holds Tryd.pinned (.plain (OpenSpec.ofChange fnExactRowTextSpec)) fnExactRowTextCard

/-- THE TIED CARD OF 'laws.FnExactParseRow'. -/
def fnExactParseRowCard : Claim7 := { stood := { row := fnExactParseRowRow, standIns := [], harness := (true, "ffc58ad446aec4574c752686f56b8c05e140bb04e24df7507fe642dec9dc4c41"), looks := true }, kinds := [], alts := [], laidByText := true, laidKinds := [.data, .data, .data, .data, .sentinel, .sentinel, .pinned], laidTests := true, laidLooks := .later }
def FnExactParseRowCardSaid : Prop := Claim7.holds Tryd.pinned (.plain (OpenSpec.ofChange fnExactParseRowSpec)) fnExactParseRowCard

/-- THE SECOND FORM's CARD OF 'laws.FnExactRowText'. -/
def fnExactRowTextUptoCard : Claim7 := { stood := { row := fnExactRowTextUptoRow, standIns := [], harness := (true, "ffc58ad446aec4574c752686f56b8c05e140bb04e24df7507fe642dec9dc4c41"), looks := true }, kinds := [], alts := [], laidByText := true, laidKinds := [.data, .data, .data], laidTests := true, laidLooks := .later }
def FnExactRowTextUptoCardSaid : Prop := Claim7.holds Tryd.pinned (.plain (OpenSpec.upto fnExactRowTextSpec)) fnExactRowTextUptoCard

/-- THE SECOND FORM's CARD OF 'laws.FnExactParseRow'. -/
def fnExactParseRowUptoCard : Claim7 := { stood := { row := fnExactParseRowUptoRow, standIns := [], harness := (true, "ffc58ad446aec4574c752686f56b8c05e140bb04e24df7507fe642dec9dc4c41"), looks := true }, kinds := [], alts := [], laidByText := true, laidKinds := [.data, .data, .data, .data, .sentinel, .sentinel, .pinned], laidTests := true, laidLooks := .later }
def FnExactParseRowUptoCardSaid : Prop := Claim7.holds Tryd.pinned (.plain (OpenSpec.upto fnExactParseRowSpec)) fnExactParseRowUptoCard
end Rows
end Go.Proofs.YtbdfidnldaghbaaDoor
