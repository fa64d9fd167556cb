/-
  DERIVED. GIVEN WITH THE SEED: THE CARDS: each row of YtjjoocjlmopfjaaGreatDoorRows.lean that lists a variable, with what it lists TIED to the program's text (the seventh form; the later family's looks); each row that meets fmt, with fmt's text TOLD by the authors' own Lean function (tested against real Go, not proved from fmt's source: count such statements apart). THE CARD IS WHAT COUNTS. Prove the row's statement (the work); the ties are given (YtjjoocjlmopfjaaGreatDoorTie.lean); close each card by the builder's one call (the guide's Derived/Test/ToyasCard.lean, 'card_holds'). Laid BY PROGRAM, IN A SANDBOX (cutbox-door.mjs). By AI agents, Wed Nov 11 2026. No macro, syntax, notation, axiom, sorry.
-/
import Derived.Test.YtjjoocjlmopfjaaGreatDoorRows
import GoSem.ClaimSeven
namespace Go.Proofs.YtjjoocjlmopfjaaGreatDoor
namespace Rows

/-- THE TIED CARD OF 'sundiallaw10.EncodeBack'. -/
def encodeBackCard : Claim7 := { stood := { row := encodeBackRow, standIns := [], harness := (true, "94005b58828bb07815d529ccc338804afdc9dbca8f5cf88e9e077ba659a4bc38"), looks := false }, kinds := [], alts := [], laidByText := true, laidKinds := [.data, .data], laidTests := true, laidLooks := .later }
def EncodeBackCardSaid : Prop := Claim7.holds Tryz.pinned (.plain (OpenSpec.ofChange encodeBackSpec)) encodeBackCard

/-- THE SECOND FORM's CARD OF 'sundiallaw10.EncodeBack'. -/
def encodeBackUptoCard : Claim7 := { stood := { row := encodeBackUptoRow, standIns := [], harness := (true, "94005b58828bb07815d529ccc338804afdc9dbca8f5cf88e9e077ba659a4bc38"), looks := false }, kinds := [], alts := [], laidByText := true, laidKinds := [.data, .data], laidTests := true, laidLooks := .later }
def EncodeBackUptoCardSaid : Prop := Claim7.holds Tryz.pinned (.plain (OpenSpec.upto encodeBackSpec)) encodeBackUptoCard
end Rows
end Go.Proofs.YtjjoocjlmopfjaaGreatDoor
