/-
  DERIVED. GIVEN WITH THE SEED: THE CARDS: each row of YtccdgppplkfjfaaDoorRows.lean that lists a variable, with what it lists TIED to the program's text (the seventh form; the later family's looks); each row that meets fmt, with fmt's text TOLD by the authors' own Lean function (tested against real Go, not proved from fmt's source: count such statements apart). THE CARD IS WHAT COUNTS. Prove the row's statement (the work); the ties are given (YtccdgppplkfjfaaDoorTie.lean); close each card by the builder's one call (the guide's Derived/Test/ToyasCard.lean, 'card_holds'). Laid BY PROGRAM, IN A SANDBOX (cutbox-door.mjs). By AI agents, Wed Nov 11 2026. No macro, syntax, notation, axiom, sorry.
-/
import Derived.Test.YtccdgppplkfjfaaDoorRows
import GoSem.ClaimSeven
namespace Go.Proofs.YtccdgppplkfjfaaDoor
namespace Rows

/-- THE TIED CARD OF 'laws.FnExactExprText'. -/
def fnExactExprTextCard : Claim7 := { stood := { row := fnExactExprTextRow, standIns := [], harness := (true, "449fa3483cb327c3330063d462d035a9283120f2a83ca7926ffed959a4fed11e"), looks := false }, kinds := [], alts := [], laidByText := true, laidKinds := [.data, .data, .data], laidTests := true, laidLooks := .later }
def FnExactExprTextCardSaid : Prop := Claim7.holds Tryd.pinned (.plain (OpenSpec.ofChange fnExactExprTextSpec)) fnExactExprTextCard

/-- THE TIED CARD OF 'laws.FnExactValueText'. -/
def fnExactValueTextCard : Claim7 := { stood := { row := fnExactValueTextRow, standIns := [], harness := (true, "449fa3483cb327c3330063d462d035a9283120f2a83ca7926ffed959a4fed11e"), looks := false }, kinds := [], alts := [], laidByText := true, laidKinds := [.data, .data, .data], laidTests := true, laidLooks := .later }
def FnExactValueTextCardSaid : Prop := Claim7.holds Tryd.pinned (.plain (OpenSpec.ofChange fnExactValueTextSpec)) fnExactValueTextCard

/-- THE TIED CARD OF 'laws.FnExactFreshName'. -/
def fnExactFreshNameCard : Claim7 := { stood := { row := fnExactFreshNameRow, standIns := [], harness := (true, "449fa3483cb327c3330063d462d035a9283120f2a83ca7926ffed959a4fed11e"), looks := false }, kinds := [], alts := [], laidByText := true, laidKinds := [.data, .data, .data, .data, .pinned], laidTests := true, laidLooks := .later }
def FnExactFreshNameCardSaid : Prop := Claim7.holds Tryd.pinned (.plain (OpenSpec.ofChange fnExactFreshNameSpec)) fnExactFreshNameCard

/-- THE SECOND FORM's CARD OF 'laws.FnExactExprText'. -/
def fnExactExprTextUptoCard : Claim7 := { stood := { row := fnExactExprTextUptoRow, standIns := [], harness := (true, "449fa3483cb327c3330063d462d035a9283120f2a83ca7926ffed959a4fed11e"), looks := false }, kinds := [], alts := [], laidByText := true, laidKinds := [.data, .data, .data], laidTests := true, laidLooks := .later }
def FnExactExprTextUptoCardSaid : Prop := Claim7.holds Tryd.pinned (.plain (OpenSpec.upto fnExactExprTextSpec)) fnExactExprTextUptoCard

/-- THE SECOND FORM's CARD OF 'laws.FnExactValueText'. -/
def fnExactValueTextUptoCard : Claim7 := { stood := { row := fnExactValueTextUptoRow, standIns := [], harness := (true, "449fa3483cb327c3330063d462d035a9283120f2a83ca7926ffed959a4fed11e"), looks := false }, kinds := [], alts := [], laidByText := true, laidKinds := [.data, .data, .data], laidTests := true, laidLooks := .later }
def FnExactValueTextUptoCardSaid : Prop := Claim7.holds Tryd.pinned (.plain (OpenSpec.upto fnExactValueTextSpec)) fnExactValueTextUptoCard

/-- THE SECOND FORM's CARD OF 'laws.FnExactFreshName'. -/
def fnExactFreshNameUptoCard : Claim7 := { stood := { row := fnExactFreshNameUptoRow, standIns := [], harness := (true, "449fa3483cb327c3330063d462d035a9283120f2a83ca7926ffed959a4fed11e"), looks := false }, kinds := [], alts := [], laidByText := true, laidKinds := [.data, .data, .data, .data, .pinned], laidTests := true, laidLooks := .later }
def FnExactFreshNameUptoCardSaid : Prop := Claim7.holds Tryd.pinned (.plain (OpenSpec.upto fnExactFreshNameSpec)) fnExactFreshNameUptoCard
end Rows
end Go.Proofs.YtccdgppplkfjfaaDoor
