/-
  DERIVED. GIVEN WITH THE SEED: THE CARDS: each row of YtcenphnkcifbhaaGreatDoorRows.lean that lists a variable, with what it lists TIED to the program's text (the seventh form; the later family's looks); each row that meets fmt, with fmt's text TOLD by the authors' own Lean function (tested against real Go, not proved from fmt's source: count such statements apart). THE CARD IS WHAT COUNTS. Prove the row's statement (the work); the ties are given (YtcenphnkcifbhaaGreatDoorTie.lean); close each card by the builder's one call (the guide's Derived/Test/ToyasCard.lean, 'card_holds'). Laid BY PROGRAM, IN A SANDBOX (cutbox-door.mjs). By AI agents, Wed Nov 11 2026. No macro, syntax, notation, axiom, sorry.
-/
import Derived.Test.YtcenphnkcifbhaaGreatDoorRows
import GoSem.ClaimSeven
namespace Go.Proofs.YtcenphnkcifbhaaGreatDoor
namespace Rows

/-- THE TIED CARD OF 'unicodetextlaw29.BreakautoStates'. -/
def breakautoStatesCard : Claim7 := { stood := { row := breakautoStatesRow, standIns := [], harness := (true, "c6caa255e8a619446ba423143206beb88a64419afa0cfc38b7cb7f94f5d1c681"), looks := false }, kinds := [], alts := [], laidByText := true, laidKinds := [.data, .data, .data], laidTests := true, laidLooks := .later }
def BreakautoStatesCardSaid : Prop := Claim7.holds Tryz.pinned (.plain (OpenSpec.ofChange breakautoStatesSpec)) breakautoStatesCard

/-- THE TIED CARD OF 'unicodetextlaw29.BreakautoDecides'. -/
def breakautoDecidesCard : Claim7 := { stood := { row := breakautoDecidesRow, standIns := [], harness := (true, "c6caa255e8a619446ba423143206beb88a64419afa0cfc38b7cb7f94f5d1c681"), looks := false }, kinds := [], alts := [], laidByText := true, laidKinds := [.data, .data, .data], laidTests := true, laidLooks := .later }
def BreakautoDecidesCardSaid : Prop := Claim7.holds Tryz.pinned (.plain (OpenSpec.ofChange breakautoDecidesSpec)) breakautoDecidesCard

/-- THE SECOND FORM's CARD OF 'unicodetextlaw29.BreakautoStates'. -/
def breakautoStatesUptoCard : Claim7 := { stood := { row := breakautoStatesUptoRow, standIns := [], harness := (true, "c6caa255e8a619446ba423143206beb88a64419afa0cfc38b7cb7f94f5d1c681"), looks := false }, kinds := [], alts := [], laidByText := true, laidKinds := [.data, .data, .data], laidTests := true, laidLooks := .later }
def BreakautoStatesUptoCardSaid : Prop := Claim7.holds Tryz.pinned (.plain (OpenSpec.upto breakautoStatesSpec)) breakautoStatesUptoCard

/-- THE SECOND FORM's CARD OF 'unicodetextlaw29.BreakautoDecides'. -/
def breakautoDecidesUptoCard : Claim7 := { stood := { row := breakautoDecidesUptoRow, standIns := [], harness := (true, "c6caa255e8a619446ba423143206beb88a64419afa0cfc38b7cb7f94f5d1c681"), looks := false }, kinds := [], alts := [], laidByText := true, laidKinds := [.data, .data, .data], laidTests := true, laidLooks := .later }
def BreakautoDecidesUptoCardSaid : Prop := Claim7.holds Tryz.pinned (.plain (OpenSpec.upto breakautoDecidesSpec)) breakautoDecidesUptoCard
end Rows
end Go.Proofs.YtcenphnkcifbhaaGreatDoor
