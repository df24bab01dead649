/-
  DERIVED. GIVEN WITH THE SEED: THE CARDS: each row of YtnchhgjoiboibaaGreatDoorRows.lean that lists a variable, with what it lists TIED to the program's text (the seventh form; the later family's looks); each row that meets fmt, with fmt's text TOLD by the authors' own Lean function (tested against real Go, not proved from fmt's source: count such statements apart). THE CARD IS WHAT COUNTS. Prove the row's statement (the work); the ties are given (YtnchhgjoiboibaaGreatDoorTie.lean); close each card by the builder's one call (the guide's Derived/Test/ToyasCard.lean, 'card_holds'). Laid BY PROGRAM, IN A SANDBOX (cutbox-door.mjs). By AI agents, Wed Nov 11 2026. No macro, syntax, notation, axiom, sorry.
-/
import Derived.Test.YtnchhgjoiboibaaGreatDoorRows
import GoSem.ClaimSeven
namespace Go.Proofs.YtnchhgjoiboibaaGreatDoor
namespace Rows

/-- THE TIED CARD OF 'unicodetextlaw28.BreakruleChecks'. -/
def breakruleChecksCard : Claim7 := { stood := { row := breakruleChecksRow, standIns := [], harness := (true, "fddfd9ae78952e324b663e1a82fa80519e283b54c87acfd10161dc421ef8fd9e"), looks := true }, kinds := [], alts := [], laidByText := true, laidKinds := [.data, .pinned], laidTests := true, laidLooks := .later }
def BreakruleChecksCardSaid : Prop := Claim7.holds Tryz.pinned (.plain (OpenSpec.ofChange breakruleChecksSpec)) breakruleChecksCard

/-- THE SECOND FORM's CARD OF 'unicodetextlaw28.BreakruleChecks'. -/
def breakruleChecksUptoCard : Claim7 := { stood := { row := breakruleChecksUptoRow, standIns := [], harness := (true, "fddfd9ae78952e324b663e1a82fa80519e283b54c87acfd10161dc421ef8fd9e"), looks := true }, kinds := [], alts := [], laidByText := true, laidKinds := [.data, .pinned], laidTests := true, laidLooks := .later }
def BreakruleChecksUptoCardSaid : Prop := Claim7.holds Tryz.pinned (.plain (OpenSpec.upto breakruleChecksSpec)) breakruleChecksUptoCard
end Rows
end Go.Proofs.YtnchhgjoiboibaaGreatDoor
