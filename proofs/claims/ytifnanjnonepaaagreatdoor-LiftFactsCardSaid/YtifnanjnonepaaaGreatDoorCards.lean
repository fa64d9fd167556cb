/-
  DERIVED. GIVEN WITH THE SEED: THE CARDS: each row of YtifnanjnonepaaaGreatDoorRows.lean that lists a variable, with what it lists TIED to the program's text (the seventh form; the later family's looks); each row that meets fmt, with fmt's text TOLD by the authors' own Lean function (tested against real Go, not proved from fmt's source: count such statements apart). THE CARD IS WHAT COUNTS. Prove the row's statement (the work); the ties are given (YtifnanjnonepaaaGreatDoorTie.lean); close each card by the builder's one call (the guide's Derived/Test/ToyasCard.lean, 'card_holds'). Laid BY PROGRAM, IN A SANDBOX (cutbox-door.mjs). By AI agents, Wed Nov 11 2026. No macro, syntax, notation, axiom, sorry.
-/
import Derived.Test.YtifnanjnonepaaaGreatDoorRows
import GoSem.ClaimSeven
namespace Go.Proofs.YtifnanjnonepaaaGreatDoor
namespace Rows

/-- THE TIED CARD OF 'sundiallaw21.LiftRight'. -/
def liftRightCard : Claim7 := { stood := { row := liftRightRow, standIns := [], harness := (true, "3756f20f39523ea7192bb36d52c783f51885864e98924abeb7c58d541a7ff4e4"), looks := false }, kinds := [], alts := [], laidByText := true, laidKinds := [.data, .data, .data, .data, .data], laidTests := true, laidLooks := .later }
def LiftRightCardSaid : Prop := Claim7.holds Tryz.pinned (.plain (OpenSpec.ofChange liftRightSpec)) liftRightCard

/-- THE TIED CARD OF 'sundiallaw21.LiftFacts'. -/
def liftFactsCard : Claim7 := { stood := { row := liftFactsRow, standIns := [], harness := (true, "3756f20f39523ea7192bb36d52c783f51885864e98924abeb7c58d541a7ff4e4"), looks := false }, kinds := [], alts := [], laidByText := true, laidKinds := [.data, .data, .data, .data, .data], laidTests := true, laidLooks := .later }
def LiftFactsCardSaid : Prop := Claim7.holds Tryz.pinned (.plain (OpenSpec.ofChange liftFactsSpec)) liftFactsCard

/-- THE SECOND FORM's CARD OF 'sundiallaw21.LiftRight'. -/
def liftRightUptoCard : Claim7 := { stood := { row := liftRightUptoRow, standIns := [], harness := (true, "3756f20f39523ea7192bb36d52c783f51885864e98924abeb7c58d541a7ff4e4"), looks := false }, kinds := [], alts := [], laidByText := true, laidKinds := [.data, .data, .data, .data, .data], laidTests := true, laidLooks := .later }
def LiftRightUptoCardSaid : Prop := Claim7.holds Tryz.pinned (.plain (OpenSpec.upto liftRightSpec)) liftRightUptoCard

/-- THE SECOND FORM's CARD OF 'sundiallaw21.LiftFacts'. -/
def liftFactsUptoCard : Claim7 := { stood := { row := liftFactsUptoRow, standIns := [], harness := (true, "3756f20f39523ea7192bb36d52c783f51885864e98924abeb7c58d541a7ff4e4"), looks := false }, kinds := [], alts := [], laidByText := true, laidKinds := [.data, .data, .data, .data, .data], laidTests := true, laidLooks := .later }
def LiftFactsUptoCardSaid : Prop := Claim7.holds Tryz.pinned (.plain (OpenSpec.upto liftFactsSpec)) liftFactsUptoCard
end Rows
end Go.Proofs.YtifnanjnonepaaaGreatDoor
