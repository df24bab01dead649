/-
  DERIVED. GIVEN WITH THE SEED: THE CARDS: each row of YtpcoponpfhnhlaaGreatDoorRows.lean that lists a variable, with what it lists TIED to the program's text (the seventh form; the later family's looks); each row that meets fmt, with fmt's text TOLD by the authors' own Lean function (tested against real Go, not proved from fmt's source: count such statements apart). THE CARD IS WHAT COUNTS. Prove the row's statement (the work); the ties are given (YtpcoponpfhnhlaaGreatDoorTie.lean); close each card by the builder's one call (the guide's Derived/Test/ToyasCard.lean, 'card_holds'). Laid BY PROGRAM, IN A SANDBOX (cutbox-door.mjs). By AI agents, Wed Nov 11 2026. No macro, syntax, notation, axiom, sorry.
-/
import Derived.Test.YtpcoponpfhnhlaaGreatDoorRows
import GoSem.ClaimSeven
namespace Go.Proofs.YtpcoponpfhnhlaaGreatDoor
namespace Rows

/-- THE TIED CARD OF 'unicodetextlaw30.SegmentCovers'. -/
def segmentCoversCard : Claim7 := { stood := { row := segmentCoversRow, standIns := [], harness := (true, "cfea216d6e1942bbbc4654f38650ecb8173f9cea67fc5c473994386c01c36329"), looks := true }, kinds := [], alts := [], laidByText := true, laidKinds := [.data, .data, .data, .data, .pinned], laidTests := true, laidLooks := .later }
def SegmentCoversCardSaid : Prop := Claim7.holds Tryz.pinned (.plain (OpenSpec.ofChange segmentCoversSpec)) segmentCoversCard

/-- THE TIED CARD OF 'unicodetextlaw30.SegmentAgrees'. -/
def segmentAgreesCard : Claim7 := { stood := { row := segmentAgreesRow, standIns := [], harness := (true, "cfea216d6e1942bbbc4654f38650ecb8173f9cea67fc5c473994386c01c36329"), looks := true }, kinds := [], alts := [], laidByText := true, laidKinds := [.data, .data, .data, .data, .pinned], laidTests := true, laidLooks := .later }
def SegmentAgreesCardSaid : Prop := Claim7.holds Tryz.pinned (.plain (OpenSpec.ofChange segmentAgreesSpec)) segmentAgreesCard

/-- THE TIED CARD OF 'unicodetextlaw30.SegmentClasses'. -/
def segmentClassesCard : Claim7 := { stood := { row := segmentClassesRow, standIns := [], harness := (true, "cfea216d6e1942bbbc4654f38650ecb8173f9cea67fc5c473994386c01c36329"), looks := true }, kinds := [], alts := [], laidByText := true, laidKinds := [.data, .data, .data, .data, .pinned], laidTests := true, laidLooks := .later }
def SegmentClassesCardSaid : Prop := Claim7.holds Tryz.pinned (.plain (OpenSpec.ofChange segmentClassesSpec)) segmentClassesCard

/-- THE TIED CARD OF 'unicodetextlaw30.SegmentActions'. -/
def segmentActionsCard : Claim7 := { stood := { row := segmentActionsRow, standIns := [], harness := (true, "cfea216d6e1942bbbc4654f38650ecb8173f9cea67fc5c473994386c01c36329"), looks := true }, kinds := [], alts := [], laidByText := true, laidKinds := [.data, .data, .data, .data, .pinned], laidTests := true, laidLooks := .later }
def SegmentActionsCardSaid : Prop := Claim7.holds Tryz.pinned (.plain (OpenSpec.ofChange segmentActionsSpec)) segmentActionsCard

/-- THE TIED CARD OF 'unicodetextlaw30.SegmentBoundaries'. -/
def segmentBoundariesCard : Claim7 := { stood := { row := segmentBoundariesRow, standIns := [], harness := (true, "cfea216d6e1942bbbc4654f38650ecb8173f9cea67fc5c473994386c01c36329"), looks := true }, kinds := [], alts := [], laidByText := true, laidKinds := [.data, .data, .data, .data, .pinned], laidTests := true, laidLooks := .later }
def SegmentBoundariesCardSaid : Prop := Claim7.holds Tryz.pinned (.plain (OpenSpec.ofChange segmentBoundariesSpec)) segmentBoundariesCard

/-- THE TIED CARD OF 'unicodetextlaw30.SegmentDecides'. -/
def segmentDecidesCard : Claim7 := { stood := { row := segmentDecidesRow, standIns := [], harness := (true, "cfea216d6e1942bbbc4654f38650ecb8173f9cea67fc5c473994386c01c36329"), looks := true }, kinds := [], alts := [], laidByText := true, laidKinds := [.data, .data, .data, .data, .pinned], laidTests := true, laidLooks := .later }
def SegmentDecidesCardSaid : Prop := Claim7.holds Tryz.pinned (.plain (OpenSpec.ofChange segmentDecidesSpec)) segmentDecidesCard

/-- THE TIED CARD OF 'unicodetextlaw30.SegmentParts'. -/
def segmentPartsCard : Claim7 := { stood := { row := segmentPartsRow, standIns := [], harness := (true, "cfea216d6e1942bbbc4654f38650ecb8173f9cea67fc5c473994386c01c36329"), looks := true }, kinds := [], alts := [], laidByText := true, laidKinds := [.data, .data, .data, .data, .pinned], laidTests := true, laidLooks := .later }
def SegmentPartsCardSaid : Prop := Claim7.holds Tryz.pinned (.plain (OpenSpec.ofChange segmentPartsSpec)) segmentPartsCard

/-- THE SECOND FORM's CARD OF 'unicodetextlaw30.SegmentCovers'. -/
def segmentCoversUptoCard : Claim7 := { stood := { row := segmentCoversUptoRow, standIns := [], harness := (true, "cfea216d6e1942bbbc4654f38650ecb8173f9cea67fc5c473994386c01c36329"), looks := true }, kinds := [], alts := [], laidByText := true, laidKinds := [.data, .data, .data, .data, .pinned], laidTests := true, laidLooks := .later }
def SegmentCoversUptoCardSaid : Prop := Claim7.holds Tryz.pinned (.plain (OpenSpec.upto segmentCoversSpec)) segmentCoversUptoCard

/-- THE SECOND FORM's CARD OF 'unicodetextlaw30.SegmentAgrees'. -/
def segmentAgreesUptoCard : Claim7 := { stood := { row := segmentAgreesUptoRow, standIns := [], harness := (true, "cfea216d6e1942bbbc4654f38650ecb8173f9cea67fc5c473994386c01c36329"), looks := true }, kinds := [], alts := [], laidByText := true, laidKinds := [.data, .data, .data, .data, .pinned], laidTests := true, laidLooks := .later }
def SegmentAgreesUptoCardSaid : Prop := Claim7.holds Tryz.pinned (.plain (OpenSpec.upto segmentAgreesSpec)) segmentAgreesUptoCard

/-- THE SECOND FORM's CARD OF 'unicodetextlaw30.SegmentClasses'. -/
def segmentClassesUptoCard : Claim7 := { stood := { row := segmentClassesUptoRow, standIns := [], harness := (true, "cfea216d6e1942bbbc4654f38650ecb8173f9cea67fc5c473994386c01c36329"), looks := true }, kinds := [], alts := [], laidByText := true, laidKinds := [.data, .data, .data, .data, .pinned], laidTests := true, laidLooks := .later }
def SegmentClassesUptoCardSaid : Prop := Claim7.holds Tryz.pinned (.plain (OpenSpec.upto segmentClassesSpec)) segmentClassesUptoCard

/-- THE SECOND FORM's CARD OF 'unicodetextlaw30.SegmentActions'. -/
def segmentActionsUptoCard : Claim7 := { stood := { row := segmentActionsUptoRow, standIns := [], harness := (true, "cfea216d6e1942bbbc4654f38650ecb8173f9cea67fc5c473994386c01c36329"), looks := true }, kinds := [], alts := [], laidByText := true, laidKinds := [.data, .data, .data, .data, .pinned], laidTests := true, laidLooks := .later }
def SegmentActionsUptoCardSaid : Prop := Claim7.holds Tryz.pinned (.plain (OpenSpec.upto segmentActionsSpec)) segmentActionsUptoCard

/-- THE SECOND FORM's CARD OF 'unicodetextlaw30.SegmentBoundaries'. -/
def segmentBoundariesUptoCard : Claim7 := { stood := { row := segmentBoundariesUptoRow, standIns := [], harness := (true, "cfea216d6e1942bbbc4654f38650ecb8173f9cea67fc5c473994386c01c36329"), looks := true }, kinds := [], alts := [], laidByText := true, laidKinds := [.data, .data, .data, .data, .pinned], laidTests := true, laidLooks := .later }
def SegmentBoundariesUptoCardSaid : Prop := Claim7.holds Tryz.pinned (.plain (OpenSpec.upto segmentBoundariesSpec)) segmentBoundariesUptoCard

/-- THE SECOND FORM's CARD OF 'unicodetextlaw30.SegmentDecides'. -/
def segmentDecidesUptoCard : Claim7 := { stood := { row := segmentDecidesUptoRow, standIns := [], harness := (true, "cfea216d6e1942bbbc4654f38650ecb8173f9cea67fc5c473994386c01c36329"), looks := true }, kinds := [], alts := [], laidByText := true, laidKinds := [.data, .data, .data, .data, .pinned], laidTests := true, laidLooks := .later }
def SegmentDecidesUptoCardSaid : Prop := Claim7.holds Tryz.pinned (.plain (OpenSpec.upto segmentDecidesSpec)) segmentDecidesUptoCard

/-- THE SECOND FORM's CARD OF 'unicodetextlaw30.SegmentParts'. -/
def segmentPartsUptoCard : Claim7 := { stood := { row := segmentPartsUptoRow, standIns := [], harness := (true, "cfea216d6e1942bbbc4654f38650ecb8173f9cea67fc5c473994386c01c36329"), looks := true }, kinds := [], alts := [], laidByText := true, laidKinds := [.data, .data, .data, .data, .pinned], laidTests := true, laidLooks := .later }
def SegmentPartsUptoCardSaid : Prop := Claim7.holds Tryz.pinned (.plain (OpenSpec.upto segmentPartsSpec)) segmentPartsUptoCard
end Rows
end Go.Proofs.YtpcoponpfhnhlaaGreatDoor
