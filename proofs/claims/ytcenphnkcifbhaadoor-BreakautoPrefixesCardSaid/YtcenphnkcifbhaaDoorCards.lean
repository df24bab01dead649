/-
  DERIVED. GIVEN WITH THE SEED: THE CARDS: each row of YtcenphnkcifbhaaDoorRows.lean that lists a variable, with what it lists TIED to the program's text (the seventh form; the later family's looks); each row that meets fmt, with fmt's text TOLD by the authors' own Lean function (tested against real Go, not proved from fmt's source: count such statements apart). THE CARD IS WHAT COUNTS. Prove the row's statement (the work); the ties are given (YtcenphnkcifbhaaDoorTie.lean); close each card by the builder's one call (the guide's Derived/Test/ToyasCard.lean, 'card_holds'). Laid BY PROGRAM, IN A SANDBOX (cutbox-door.mjs). By AI agents, Wed Nov 11 2026. No macro, syntax, notation, axiom, sorry.
-/
import Derived.Test.YtcenphnkcifbhaaDoorRows
import GoSem.ClaimSeven
namespace Go.Proofs.YtcenphnkcifbhaaDoor
namespace Rows

/-- THE TIED CARD OF 'unicodetextlaw29.BreakautoValid'. -/
def breakautoValidCard : Claim7 := { stood := { row := breakautoValidRow, standIns := [], harness := (true, "4d1fd78870be541fe0329455baa22da194f165e23f190dc904d4895d60c67afa"), looks := false }, kinds := [], alts := [], laidByText := true, laidKinds := [.data, .data, .data], laidTests := true, laidLooks := .later }
def BreakautoValidCardSaid : Prop := Claim7.holds Tryd.pinned (.plain (OpenSpec.ofChange breakautoValidSpec)) breakautoValidCard

/-- THE TIED CARD OF 'unicodetextlaw29.BreakautoPrefixes'. -/
def breakautoPrefixesCard : Claim7 := { stood := { row := breakautoPrefixesRow, standIns := [], harness := (true, "4d1fd78870be541fe0329455baa22da194f165e23f190dc904d4895d60c67afa"), looks := false }, kinds := [], alts := [], laidByText := true, laidKinds := [.data, .data, .data], laidTests := true, laidLooks := .later }
def BreakautoPrefixesCardSaid : Prop := Claim7.holds Tryd.pinned (.plain (OpenSpec.ofChange breakautoPrefixesSpec)) breakautoPrefixesCard

/-- THE TIED CARD OF 'unicodetextlaw29.BreakautoActions'. -/
def breakautoActionsCard : Claim7 := { stood := { row := breakautoActionsRow, standIns := [], harness := (true, "4d1fd78870be541fe0329455baa22da194f165e23f190dc904d4895d60c67afa"), looks := false }, kinds := [], alts := [], laidByText := true, laidKinds := [.data, .data, .data], laidTests := true, laidLooks := .later }
def BreakautoActionsCardSaid : Prop := Claim7.holds Tryd.pinned (.plain (OpenSpec.ofChange breakautoActionsSpec)) breakautoActionsCard

/-- THE SECOND FORM's CARD OF 'unicodetextlaw29.BreakautoValid'. -/
def breakautoValidUptoCard : Claim7 := { stood := { row := breakautoValidUptoRow, standIns := [], harness := (true, "4d1fd78870be541fe0329455baa22da194f165e23f190dc904d4895d60c67afa"), looks := false }, kinds := [], alts := [], laidByText := true, laidKinds := [.data, .data, .data], laidTests := true, laidLooks := .later }
def BreakautoValidUptoCardSaid : Prop := Claim7.holds Tryd.pinned (.plain (OpenSpec.upto breakautoValidSpec)) breakautoValidUptoCard

/-- THE SECOND FORM's CARD OF 'unicodetextlaw29.BreakautoPrefixes'. -/
def breakautoPrefixesUptoCard : Claim7 := { stood := { row := breakautoPrefixesUptoRow, standIns := [], harness := (true, "4d1fd78870be541fe0329455baa22da194f165e23f190dc904d4895d60c67afa"), looks := false }, kinds := [], alts := [], laidByText := true, laidKinds := [.data, .data, .data], laidTests := true, laidLooks := .later }
def BreakautoPrefixesUptoCardSaid : Prop := Claim7.holds Tryd.pinned (.plain (OpenSpec.upto breakautoPrefixesSpec)) breakautoPrefixesUptoCard

/-- THE SECOND FORM's CARD OF 'unicodetextlaw29.BreakautoActions'. -/
def breakautoActionsUptoCard : Claim7 := { stood := { row := breakautoActionsUptoRow, standIns := [], harness := (true, "4d1fd78870be541fe0329455baa22da194f165e23f190dc904d4895d60c67afa"), looks := false }, kinds := [], alts := [], laidByText := true, laidKinds := [.data, .data, .data], laidTests := true, laidLooks := .later }
def BreakautoActionsUptoCardSaid : Prop := Claim7.holds Tryd.pinned (.plain (OpenSpec.upto breakautoActionsSpec)) breakautoActionsUptoCard
end Rows
end Go.Proofs.YtcenphnkcifbhaaDoor
