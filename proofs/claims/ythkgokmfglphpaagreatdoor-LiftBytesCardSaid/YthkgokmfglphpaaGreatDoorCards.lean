/-
  DERIVED. GIVEN WITH THE SEED: THE CARDS: each row of YthkgokmfglphpaaGreatDoorRows.lean that lists a variable, with what it lists TIED to the program's text (the seventh form; the later family's looks); each row that meets fmt, with fmt's text TOLD by the authors' own Lean function (tested against real Go, not proved from fmt's source: count such statements apart). THE CARD IS WHAT COUNTS. Prove the row's statement (the work); the ties are given (YthkgokmfglphpaaGreatDoorTie.lean); close each card by the builder's one call (the guide's Derived/Test/ToyasCard.lean, 'card_holds'). Laid BY PROGRAM, IN A SANDBOX (cutbox-door.mjs). By AI agents, Wed Nov 11 2026. No macro, syntax, notation, axiom, sorry.
-/
import Derived.Test.YthkgokmfglphpaaGreatDoorRows
import GoSem.ClaimSeven
namespace Go.Proofs.YthkgokmfglphpaaGreatDoor
namespace Rows

/-- THE TIED CARD OF 'sundiallaw21.LiftBytes'. -/
def liftBytesCard : Claim7 := { stood := { row := liftBytesRow, standIns := [], harness := (true, "2376ee8a2affa8b32524d756725b0ed86859f7107cf27d42bcd4dc5c1a004a1e"), looks := false }, kinds := [], alts := [], laidByText := true, laidKinds := [.data, .data, .data, .data, .data], laidTests := true, laidLooks := .later }
def LiftBytesCardSaid : Prop := Claim7.holds Tryz.pinned (.plain (OpenSpec.ofChange liftBytesSpec)) liftBytesCard

/-- THE SECOND FORM's CARD OF 'sundiallaw21.LiftBytes'. -/
def liftBytesUptoCard : Claim7 := { stood := { row := liftBytesUptoRow, standIns := [], harness := (true, "2376ee8a2affa8b32524d756725b0ed86859f7107cf27d42bcd4dc5c1a004a1e"), looks := false }, kinds := [], alts := [], laidByText := true, laidKinds := [.data, .data, .data, .data, .data], laidTests := true, laidLooks := .later }
def LiftBytesUptoCardSaid : Prop := Claim7.holds Tryz.pinned (.plain (OpenSpec.upto liftBytesSpec)) liftBytesUptoCard
end Rows
end Go.Proofs.YthkgokmfglphpaaGreatDoor
