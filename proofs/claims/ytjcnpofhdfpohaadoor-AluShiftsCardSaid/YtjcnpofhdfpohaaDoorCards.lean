/-
  DERIVED. GIVEN WITH THE SEED: THE CARDS: each row of YtjcnpofhdfpohaaDoorRows.lean that lists a variable, with what it lists TIED to the program's text (the seventh form; the later family's looks); each row that meets fmt, with fmt's text TOLD by the authors' own Lean function (tested against real Go, not proved from fmt's source: count such statements apart). THE CARD IS WHAT COUNTS. Prove the row's statement (the work); the ties are given (YtjcnpofhdfpohaaDoorTie.lean); close each card by the builder's one call (the guide's Derived/Test/ToyasCard.lean, 'card_holds'). Laid BY PROGRAM, IN A SANDBOX (cutbox-door.mjs). By AI agents, Wed Nov 11 2026. No macro, syntax, notation, axiom, sorry.
-/
import Derived.Test.YtjcnpofhdfpohaaDoorRows
import GoSem.ClaimSeven
namespace Go.Proofs.YtjcnpofhdfpohaaDoor
namespace Rows

/-- THE TIED CARD OF 'sundiallaw01.BitsSigned'. -/
def bitsSignedCard : Claim7 := { stood := { row := bitsSignedRow, standIns := [], harness := (true, "7f53a71b46cb96690ecf066c06641b7306d9b13a8da8c2313de4f621e78bbca8"), looks := false }, kinds := [], alts := [], laidByText := true, laidKinds := [.data], laidTests := true, laidLooks := .later }
def BitsSignedCardSaid : Prop := Claim7.holds Tryd.pinned (.plain (OpenSpec.ofChange bitsSignedSpec)) bitsSignedCard

/-- THE TIED CARD OF 'sundiallaw01.BitsParity'. -/
def bitsParityCard : Claim7 := { stood := { row := bitsParityRow, standIns := [], harness := (true, "7f53a71b46cb96690ecf066c06641b7306d9b13a8da8c2313de4f621e78bbca8"), looks := false }, kinds := [], alts := [], laidByText := true, laidKinds := [.data], laidTests := true, laidLooks := .later }
def BitsParityCardSaid : Prop := Claim7.holds Tryd.pinned (.plain (OpenSpec.ofChange bitsParitySpec)) bitsParityCard

/-- THE TIED CARD OF 'sundiallaw01.BitsBack'. -/
def bitsBackCard : Claim7 := { stood := { row := bitsBackRow, standIns := [], harness := (true, "7f53a71b46cb96690ecf066c06641b7306d9b13a8da8c2313de4f621e78bbca8"), looks := false }, kinds := [], alts := [], laidByText := true, laidKinds := [.data], laidTests := true, laidLooks := .later }
def BitsBackCardSaid : Prop := Claim7.holds Tryd.pinned (.plain (OpenSpec.ofChange bitsBackSpec)) bitsBackCard

/-- THE TIED CARD OF 'sundiallaw01.BitsTurn'. -/
def bitsTurnCard : Claim7 := { stood := { row := bitsTurnRow, standIns := [], harness := (true, "7f53a71b46cb96690ecf066c06641b7306d9b13a8da8c2313de4f621e78bbca8"), looks := false }, kinds := [], alts := [], laidByText := true, laidKinds := [.data], laidTests := true, laidLooks := .later }
def BitsTurnCardSaid : Prop := Claim7.holds Tryd.pinned (.plain (OpenSpec.ofChange bitsTurnSpec)) bitsTurnCard

/-- THE TIED CARD OF 'sundiallaw13.AluBack'. -/
def aluBackCard : Claim7 := { stood := { row := aluBackRow, standIns := [], harness := (true, "7f53a71b46cb96690ecf066c06641b7306d9b13a8da8c2313de4f621e78bbca8"), looks := false }, kinds := [], alts := [], laidByText := true, laidKinds := [.data], laidTests := true, laidLooks := .later }
def AluBackCardSaid : Prop := Claim7.holds Tryd.pinned (.plain (OpenSpec.ofChange aluBackSpec)) aluBackCard

/-- THE TIED CARD OF 'sundiallaw13.AluCompares'. -/
def aluComparesCard : Claim7 := { stood := { row := aluComparesRow, standIns := [], harness := (true, "7f53a71b46cb96690ecf066c06641b7306d9b13a8da8c2313de4f621e78bbca8"), looks := false }, kinds := [], alts := [], laidByText := true, laidKinds := [.data], laidTests := true, laidLooks := .later }
def AluComparesCardSaid : Prop := Claim7.holds Tryd.pinned (.plain (OpenSpec.ofChange aluComparesSpec)) aluComparesCard

/-- THE TIED CARD OF 'sundiallaw13.AluShifts'. -/
def aluShiftsCard : Claim7 := { stood := { row := aluShiftsRow, standIns := [], harness := (true, "7f53a71b46cb96690ecf066c06641b7306d9b13a8da8c2313de4f621e78bbca8"), looks := false }, kinds := [], alts := [], laidByText := true, laidKinds := [.data], laidTests := true, laidLooks := .later }
def AluShiftsCardSaid : Prop := Claim7.holds Tryd.pinned (.plain (OpenSpec.ofChange aluShiftsSpec)) aluShiftsCard

/-- THE TIED CARD OF 'sundiallaw13.AluSigned'. -/
def aluSignedCard : Claim7 := { stood := { row := aluSignedRow, standIns := [], harness := (true, "7f53a71b46cb96690ecf066c06641b7306d9b13a8da8c2313de4f621e78bbca8"), looks := false }, kinds := [], alts := [], laidByText := true, laidKinds := [.data], laidTests := true, laidLooks := .later }
def AluSignedCardSaid : Prop := Claim7.holds Tryd.pinned (.plain (OpenSpec.ofChange aluSignedSpec)) aluSignedCard

/-- THE TIED CARD OF 'sundiallaw13.AluTells'. -/
def aluTellsCard : Claim7 := { stood := { row := aluTellsRow, standIns := [], harness := (true, "7f53a71b46cb96690ecf066c06641b7306d9b13a8da8c2313de4f621e78bbca8"), looks := false }, kinds := [], alts := [], laidByText := true, laidKinds := [.data], laidTests := true, laidLooks := .later }
def AluTellsCardSaid : Prop := Claim7.holds Tryd.pinned (.plain (OpenSpec.ofChange aluTellsSpec)) aluTellsCard

/-- THE SECOND FORM's CARD OF 'sundiallaw01.BitsSigned'. -/
def bitsSignedUptoCard : Claim7 := { stood := { row := bitsSignedUptoRow, standIns := [], harness := (true, "7f53a71b46cb96690ecf066c06641b7306d9b13a8da8c2313de4f621e78bbca8"), looks := false }, kinds := [], alts := [], laidByText := true, laidKinds := [.data], laidTests := true, laidLooks := .later }
def BitsSignedUptoCardSaid : Prop := Claim7.holds Tryd.pinned (.plain (OpenSpec.upto bitsSignedSpec)) bitsSignedUptoCard

/-- THE SECOND FORM's CARD OF 'sundiallaw01.BitsParity'. -/
def bitsParityUptoCard : Claim7 := { stood := { row := bitsParityUptoRow, standIns := [], harness := (true, "7f53a71b46cb96690ecf066c06641b7306d9b13a8da8c2313de4f621e78bbca8"), looks := false }, kinds := [], alts := [], laidByText := true, laidKinds := [.data], laidTests := true, laidLooks := .later }
def BitsParityUptoCardSaid : Prop := Claim7.holds Tryd.pinned (.plain (OpenSpec.upto bitsParitySpec)) bitsParityUptoCard

/-- THE SECOND FORM's CARD OF 'sundiallaw01.BitsBack'. -/
def bitsBackUptoCard : Claim7 := { stood := { row := bitsBackUptoRow, standIns := [], harness := (true, "7f53a71b46cb96690ecf066c06641b7306d9b13a8da8c2313de4f621e78bbca8"), looks := false }, kinds := [], alts := [], laidByText := true, laidKinds := [.data], laidTests := true, laidLooks := .later }
def BitsBackUptoCardSaid : Prop := Claim7.holds Tryd.pinned (.plain (OpenSpec.upto bitsBackSpec)) bitsBackUptoCard

/-- THE SECOND FORM's CARD OF 'sundiallaw01.BitsTurn'. -/
def bitsTurnUptoCard : Claim7 := { stood := { row := bitsTurnUptoRow, standIns := [], harness := (true, "7f53a71b46cb96690ecf066c06641b7306d9b13a8da8c2313de4f621e78bbca8"), looks := false }, kinds := [], alts := [], laidByText := true, laidKinds := [.data], laidTests := true, laidLooks := .later }
def BitsTurnUptoCardSaid : Prop := Claim7.holds Tryd.pinned (.plain (OpenSpec.upto bitsTurnSpec)) bitsTurnUptoCard

/-- THE SECOND FORM's CARD OF 'sundiallaw13.AluBack'. -/
def aluBackUptoCard : Claim7 := { stood := { row := aluBackUptoRow, standIns := [], harness := (true, "7f53a71b46cb96690ecf066c06641b7306d9b13a8da8c2313de4f621e78bbca8"), looks := false }, kinds := [], alts := [], laidByText := true, laidKinds := [.data], laidTests := true, laidLooks := .later }
def AluBackUptoCardSaid : Prop := Claim7.holds Tryd.pinned (.plain (OpenSpec.upto aluBackSpec)) aluBackUptoCard

/-- THE SECOND FORM's CARD OF 'sundiallaw13.AluCompares'. -/
def aluComparesUptoCard : Claim7 := { stood := { row := aluComparesUptoRow, standIns := [], harness := (true, "7f53a71b46cb96690ecf066c06641b7306d9b13a8da8c2313de4f621e78bbca8"), looks := false }, kinds := [], alts := [], laidByText := true, laidKinds := [.data], laidTests := true, laidLooks := .later }
def AluComparesUptoCardSaid : Prop := Claim7.holds Tryd.pinned (.plain (OpenSpec.upto aluComparesSpec)) aluComparesUptoCard

/-- THE SECOND FORM's CARD OF 'sundiallaw13.AluShifts'. -/
def aluShiftsUptoCard : Claim7 := { stood := { row := aluShiftsUptoRow, standIns := [], harness := (true, "7f53a71b46cb96690ecf066c06641b7306d9b13a8da8c2313de4f621e78bbca8"), looks := false }, kinds := [], alts := [], laidByText := true, laidKinds := [.data], laidTests := true, laidLooks := .later }
def AluShiftsUptoCardSaid : Prop := Claim7.holds Tryd.pinned (.plain (OpenSpec.upto aluShiftsSpec)) aluShiftsUptoCard

/-- THE SECOND FORM's CARD OF 'sundiallaw13.AluSigned'. -/
def aluSignedUptoCard : Claim7 := { stood := { row := aluSignedUptoRow, standIns := [], harness := (true, "7f53a71b46cb96690ecf066c06641b7306d9b13a8da8c2313de4f621e78bbca8"), looks := false }, kinds := [], alts := [], laidByText := true, laidKinds := [.data], laidTests := true, laidLooks := .later }
def AluSignedUptoCardSaid : Prop := Claim7.holds Tryd.pinned (.plain (OpenSpec.upto aluSignedSpec)) aluSignedUptoCard

/-- THE SECOND FORM's CARD OF 'sundiallaw13.AluTells'. -/
def aluTellsUptoCard : Claim7 := { stood := { row := aluTellsUptoRow, standIns := [], harness := (true, "7f53a71b46cb96690ecf066c06641b7306d9b13a8da8c2313de4f621e78bbca8"), looks := false }, kinds := [], alts := [], laidByText := true, laidKinds := [.data], laidTests := true, laidLooks := .later }
def AluTellsUptoCardSaid : Prop := Claim7.holds Tryd.pinned (.plain (OpenSpec.upto aluTellsSpec)) aluTellsUptoCard
end Rows
end Go.Proofs.YtjcnpofhdfpohaaDoor
