/-
  DERIVED. GIVEN WITH THE SEED: THE CARDS: each row of YtgaiemhbllbaiaaDoorRows.lean that lists a variable, with what it lists TIED to the program's text (the seventh form; the later family's looks); each row that meets fmt, with fmt's text TOLD by the authors' own Lean function (tested against real Go, not proved from fmt's source: count such statements apart). THE CARD IS WHAT COUNTS. Prove the row's statement (the work); the ties are given (YtgaiemhbllbaiaaDoorTie.lean); close each card by the builder's one call (the guide's Derived/Test/ToyasCard.lean, 'card_holds'). Laid BY PROGRAM, IN A SANDBOX (cutbox-door.mjs). By AI agents, Wed Nov 11 2026. No macro, syntax, notation, axiom, sorry.
-/
import Derived.Test.YtgaiemhbllbaiaaDoorRows
import GoSem.ClaimSeven
namespace Go.Proofs.YtgaiemhbllbaiaaDoor
namespace Rows

/-- THE TIED CARD OF 'laws.FnExactEnumOf'. -/
def fnExactEnumOfCard : Claim7 := { stood := { row := fnExactEnumOfRow, standIns := [], harness := (true, "a329b688e286b5eb1d2589619f40dd88e23aae00912569de3e65984a42fcc5c3"), looks := false }, kinds := [], alts := [], laidByText := true, laidKinds := [.data, .data], laidTests := true, laidLooks := .later }
def FnExactEnumOfCardSaid : Prop := Claim7.holds Tryd.pinned (.plain (OpenSpec.ofChange fnExactEnumOfSpec)) fnExactEnumOfCard

/-- THE SECOND FORM's CARD OF 'laws.FnExactEnumOf'. -/
def fnExactEnumOfUptoCard : Claim7 := { stood := { row := fnExactEnumOfUptoRow, standIns := [], harness := (true, "a329b688e286b5eb1d2589619f40dd88e23aae00912569de3e65984a42fcc5c3"), looks := false }, kinds := [], alts := [], laidByText := true, laidKinds := [.data, .data], laidTests := true, laidLooks := .later }
def FnExactEnumOfUptoCardSaid : Prop := Claim7.holds Tryd.pinned (.plain (OpenSpec.upto fnExactEnumOfSpec)) fnExactEnumOfUptoCard
end Rows
end Go.Proofs.YtgaiemhbllbaiaaDoor
