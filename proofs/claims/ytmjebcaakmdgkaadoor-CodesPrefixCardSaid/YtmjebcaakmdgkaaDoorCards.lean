/-
  DERIVED. GIVEN WITH THE SEED: THE CARDS: each row of YtmjebcaakmdgkaaDoorRows.lean that lists a variable, with what it lists TIED to the program's text (the seventh form; the later family's looks); each row that meets fmt, with fmt's text TOLD by the authors' own Lean function (tested against real Go, not proved from fmt's source: count such statements apart). THE CARD IS WHAT COUNTS. Prove the row's statement (the work); the ties are given (YtmjebcaakmdgkaaDoorTie.lean); close each card by the builder's one call (the guide's Derived/Test/ToyasCard.lean, 'card_holds'). Laid BY PROGRAM, IN A SANDBOX (cutbox-door.mjs). By AI agents, Wed Nov 11 2026. No macro, syntax, notation, axiom, sorry.
-/
import Derived.Test.YtmjebcaakmdgkaaDoorRows
import GoSem.ClaimSeven
namespace Go.Proofs.YtmjebcaakmdgkaaDoor
namespace Rows

/-- THE TIED CARD OF 'sundiallaw07.CodesTells'. -/
def codesTellsCard : Claim7 := { stood := { row := codesTellsRow, standIns := [], harness := (true, "5f9120756621531aedfdff874538d62981d0d9c07d0bc45c397c3643ef5c1280"), looks := false }, kinds := [], alts := [], laidByText := true, laidKinds := [.data], laidTests := true, laidLooks := .later }
def CodesTellsCardSaid : Prop := Claim7.holds Tryd.pinned (.plain (OpenSpec.ofChange codesTellsSpec)) codesTellsCard

/-- THE TIED CARD OF 'sundiallaw07.CodesOne'. -/
def codesOneCard : Claim7 := { stood := { row := codesOneRow, standIns := [], harness := (true, "5f9120756621531aedfdff874538d62981d0d9c07d0bc45c397c3643ef5c1280"), looks := false }, kinds := [], alts := [], laidByText := true, laidKinds := [.data], laidTests := true, laidLooks := .later }
def CodesOneCardSaid : Prop := Claim7.holds Tryd.pinned (.plain (OpenSpec.ofChange codesOneSpec)) codesOneCard

/-- THE TIED CARD OF 'sundiallaw07.CodesEach'. -/
def codesEachCard : Claim7 := { stood := { row := codesEachRow, standIns := [], harness := (true, "5f9120756621531aedfdff874538d62981d0d9c07d0bc45c397c3643ef5c1280"), looks := false }, kinds := [], alts := [], laidByText := true, laidKinds := [.data], laidTests := true, laidLooks := .later }
def CodesEachCardSaid : Prop := Claim7.holds Tryd.pinned (.plain (OpenSpec.ofChange codesEachSpec)) codesEachCard

/-- THE TIED CARD OF 'sundiallaw07.CodesBytes'. -/
def codesBytesCard : Claim7 := { stood := { row := codesBytesRow, standIns := [], harness := (true, "5f9120756621531aedfdff874538d62981d0d9c07d0bc45c397c3643ef5c1280"), looks := false }, kinds := [], alts := [], laidByText := true, laidKinds := [.data], laidTests := true, laidLooks := .later }
def CodesBytesCardSaid : Prop := Claim7.holds Tryd.pinned (.plain (OpenSpec.ofChange codesBytesSpec)) codesBytesCard

/-- THE TIED CARD OF 'sundiallaw07.CodesPrefix'. -/
def codesPrefixCard : Claim7 := { stood := { row := codesPrefixRow, standIns := [], harness := (true, "5f9120756621531aedfdff874538d62981d0d9c07d0bc45c397c3643ef5c1280"), looks := false }, kinds := [], alts := [], laidByText := true, laidKinds := [.data], laidTests := true, laidLooks := .later }
def CodesPrefixCardSaid : Prop := Claim7.holds Tryd.pinned (.plain (OpenSpec.ofChange codesPrefixSpec)) codesPrefixCard

/-- THE SECOND FORM's CARD OF 'sundiallaw07.CodesTells'. -/
def codesTellsUptoCard : Claim7 := { stood := { row := codesTellsUptoRow, standIns := [], harness := (true, "5f9120756621531aedfdff874538d62981d0d9c07d0bc45c397c3643ef5c1280"), looks := false }, kinds := [], alts := [], laidByText := true, laidKinds := [.data], laidTests := true, laidLooks := .later }
def CodesTellsUptoCardSaid : Prop := Claim7.holds Tryd.pinned (.plain (OpenSpec.upto codesTellsSpec)) codesTellsUptoCard

/-- THE SECOND FORM's CARD OF 'sundiallaw07.CodesOne'. -/
def codesOneUptoCard : Claim7 := { stood := { row := codesOneUptoRow, standIns := [], harness := (true, "5f9120756621531aedfdff874538d62981d0d9c07d0bc45c397c3643ef5c1280"), looks := false }, kinds := [], alts := [], laidByText := true, laidKinds := [.data], laidTests := true, laidLooks := .later }
def CodesOneUptoCardSaid : Prop := Claim7.holds Tryd.pinned (.plain (OpenSpec.upto codesOneSpec)) codesOneUptoCard

/-- THE SECOND FORM's CARD OF 'sundiallaw07.CodesEach'. -/
def codesEachUptoCard : Claim7 := { stood := { row := codesEachUptoRow, standIns := [], harness := (true, "5f9120756621531aedfdff874538d62981d0d9c07d0bc45c397c3643ef5c1280"), looks := false }, kinds := [], alts := [], laidByText := true, laidKinds := [.data], laidTests := true, laidLooks := .later }
def CodesEachUptoCardSaid : Prop := Claim7.holds Tryd.pinned (.plain (OpenSpec.upto codesEachSpec)) codesEachUptoCard

/-- THE SECOND FORM's CARD OF 'sundiallaw07.CodesBytes'. -/
def codesBytesUptoCard : Claim7 := { stood := { row := codesBytesUptoRow, standIns := [], harness := (true, "5f9120756621531aedfdff874538d62981d0d9c07d0bc45c397c3643ef5c1280"), looks := false }, kinds := [], alts := [], laidByText := true, laidKinds := [.data], laidTests := true, laidLooks := .later }
def CodesBytesUptoCardSaid : Prop := Claim7.holds Tryd.pinned (.plain (OpenSpec.upto codesBytesSpec)) codesBytesUptoCard

/-- THE SECOND FORM's CARD OF 'sundiallaw07.CodesPrefix'. -/
def codesPrefixUptoCard : Claim7 := { stood := { row := codesPrefixUptoRow, standIns := [], harness := (true, "5f9120756621531aedfdff874538d62981d0d9c07d0bc45c397c3643ef5c1280"), looks := false }, kinds := [], alts := [], laidByText := true, laidKinds := [.data], laidTests := true, laidLooks := .later }
def CodesPrefixUptoCardSaid : Prop := Claim7.holds Tryd.pinned (.plain (OpenSpec.upto codesPrefixSpec)) codesPrefixUptoCard
end Rows
end Go.Proofs.YtmjebcaakmdgkaaDoor
