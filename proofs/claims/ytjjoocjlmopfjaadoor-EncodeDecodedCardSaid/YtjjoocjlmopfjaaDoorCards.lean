/-
  DERIVED. GIVEN WITH THE SEED: THE CARDS: each row of YtjjoocjlmopfjaaDoorRows.lean that lists a variable, with what it lists TIED to the program's text (the seventh form; the later family's looks); each row that meets fmt, with fmt's text TOLD by the authors' own Lean function (tested against real Go, not proved from fmt's source: count such statements apart). THE CARD IS WHAT COUNTS. Prove the row's statement (the work); the ties are given (YtjjoocjlmopfjaaDoorTie.lean); close each card by the builder's one call (the guide's Derived/Test/ToyasCard.lean, 'card_holds'). Laid BY PROGRAM, IN A SANDBOX (cutbox-door.mjs). By AI agents, Wed Nov 11 2026. No macro, syntax, notation, axiom, sorry.
-/
import Derived.Test.YtjjoocjlmopfjaaDoorRows
import GoSem.ClaimSeven
namespace Go.Proofs.YtjjoocjlmopfjaaDoor
namespace Rows

/-- THE TIED CARD OF 'sundiallaw10.EncodeTells'. -/
def encodeTellsCard : Claim7 := { stood := { row := encodeTellsRow, standIns := [], harness := (true, "babbe7d2204f2f88f5dc0e45b534efb1010ef365313fc8a72a0b7cdddc1982cf"), looks := false }, kinds := [], alts := [], laidByText := true, laidKinds := [.data, .data], laidTests := true, laidLooks := .later }
def EncodeTellsCardSaid : Prop := Claim7.holds Tryd.pinned (.plain (OpenSpec.ofChange encodeTellsSpec)) encodeTellsCard

/-- THE TIED CARD OF 'sundiallaw10.EncodeLens'. -/
def encodeLensCard : Claim7 := { stood := { row := encodeLensRow, standIns := [], harness := (true, "babbe7d2204f2f88f5dc0e45b534efb1010ef365313fc8a72a0b7cdddc1982cf"), looks := false }, kinds := [], alts := [], laidByText := true, laidKinds := [.data, .data], laidTests := true, laidLooks := .later }
def EncodeLensCardSaid : Prop := Claim7.holds Tryd.pinned (.plain (OpenSpec.ofChange encodeLensSpec)) encodeLensCard

/-- THE TIED CARD OF 'sundiallaw10.EncodeCode'. -/
def encodeCodeCard : Claim7 := { stood := { row := encodeCodeRow, standIns := [], harness := (true, "babbe7d2204f2f88f5dc0e45b534efb1010ef365313fc8a72a0b7cdddc1982cf"), looks := false }, kinds := [], alts := [], laidByText := true, laidKinds := [.data, .data], laidTests := true, laidLooks := .later }
def EncodeCodeCardSaid : Prop := Claim7.holds Tryd.pinned (.plain (OpenSpec.ofChange encodeCodeSpec)) encodeCodeCard

/-- THE TIED CARD OF 'sundiallaw10.EncodeWide'. -/
def encodeWideCard : Claim7 := { stood := { row := encodeWideRow, standIns := [], harness := (true, "babbe7d2204f2f88f5dc0e45b534efb1010ef365313fc8a72a0b7cdddc1982cf"), looks := false }, kinds := [], alts := [], laidByText := true, laidKinds := [.data, .data], laidTests := true, laidLooks := .later }
def EncodeWideCardSaid : Prop := Claim7.holds Tryd.pinned (.plain (OpenSpec.ofChange encodeWideSpec)) encodeWideCard

/-- THE TIED CARD OF 'sundiallaw10.EncodeDecoded'. -/
def encodeDecodedCard : Claim7 := { stood := { row := encodeDecodedRow, standIns := [], harness := (true, "babbe7d2204f2f88f5dc0e45b534efb1010ef365313fc8a72a0b7cdddc1982cf"), looks := false }, kinds := [], alts := [], laidByText := true, laidKinds := [.data, .data], laidTests := true, laidLooks := .later }
def EncodeDecodedCardSaid : Prop := Claim7.holds Tryd.pinned (.plain (OpenSpec.ofChange encodeDecodedSpec)) encodeDecodedCard

/-- THE TIED CARD OF 'sundiallaw09.DecodeTells'. -/
def decodeTellsCard : Claim7 := { stood := { row := decodeTellsRow, standIns := [], harness := (true, "babbe7d2204f2f88f5dc0e45b534efb1010ef365313fc8a72a0b7cdddc1982cf"), looks := false }, kinds := [], alts := [], laidByText := true, laidKinds := [.data, .funcs], laidTests := true, laidLooks := .later }
def DecodeTellsCardSaid : Prop := Claim7.holds Tryd.pinned (.plain (OpenSpec.ofChange decodeTellsSpec)) decodeTellsCard

/-- THE TIED CARD OF 'sundiallaw09.DecodeOwn'. -/
def decodeOwnCard : Claim7 := { stood := { row := decodeOwnRow, standIns := [], harness := (true, "babbe7d2204f2f88f5dc0e45b534efb1010ef365313fc8a72a0b7cdddc1982cf"), looks := false }, kinds := [], alts := [], laidByText := true, laidKinds := [.data, .funcs], laidTests := true, laidLooks := .later }
def DecodeOwnCardSaid : Prop := Claim7.holds Tryd.pinned (.plain (OpenSpec.ofChange decodeOwnSpec)) decodeOwnCard

/-- THE TIED CARD OF 'sundiallaw09.DecodeRow'. -/
def decodeRowCard : Claim7 := { stood := { row := decodeRowRow, standIns := [], harness := (true, "babbe7d2204f2f88f5dc0e45b534efb1010ef365313fc8a72a0b7cdddc1982cf"), looks := false }, kinds := [], alts := [], laidByText := true, laidKinds := [.data, .funcs], laidTests := true, laidLooks := .later }
def DecodeRowCardSaid : Prop := Claim7.holds Tryd.pinned (.plain (OpenSpec.ofChange decodeRowSpec)) decodeRowCard

/-- THE TIED CARD OF 'sundiallaw09.DecodeForms'. -/
def decodeFormsCard : Claim7 := { stood := { row := decodeFormsRow, standIns := [], harness := (true, "babbe7d2204f2f88f5dc0e45b534efb1010ef365313fc8a72a0b7cdddc1982cf"), looks := false }, kinds := [], alts := [], laidByText := true, laidKinds := [.data, .funcs], laidTests := true, laidLooks := .later }
def DecodeFormsCardSaid : Prop := Claim7.holds Tryd.pinned (.plain (OpenSpec.ofChange decodeFormsSpec)) decodeFormsCard

/-- THE TIED CARD OF 'sundiallaw09.DecodeWide'. -/
def decodeWideCard : Claim7 := { stood := { row := decodeWideRow, standIns := [], harness := (true, "babbe7d2204f2f88f5dc0e45b534efb1010ef365313fc8a72a0b7cdddc1982cf"), looks := false }, kinds := [], alts := [], laidByText := true, laidKinds := [.data, .funcs], laidTests := true, laidLooks := .later }
def DecodeWideCardSaid : Prop := Claim7.holds Tryd.pinned (.plain (OpenSpec.ofChange decodeWideSpec)) decodeWideCard

/-- THE SECOND FORM's CARD OF 'sundiallaw10.EncodeTells'. -/
def encodeTellsUptoCard : Claim7 := { stood := { row := encodeTellsUptoRow, standIns := [], harness := (true, "babbe7d2204f2f88f5dc0e45b534efb1010ef365313fc8a72a0b7cdddc1982cf"), looks := false }, kinds := [], alts := [], laidByText := true, laidKinds := [.data, .data], laidTests := true, laidLooks := .later }
def EncodeTellsUptoCardSaid : Prop := Claim7.holds Tryd.pinned (.plain (OpenSpec.upto encodeTellsSpec)) encodeTellsUptoCard

/-- THE SECOND FORM's CARD OF 'sundiallaw10.EncodeLens'. -/
def encodeLensUptoCard : Claim7 := { stood := { row := encodeLensUptoRow, standIns := [], harness := (true, "babbe7d2204f2f88f5dc0e45b534efb1010ef365313fc8a72a0b7cdddc1982cf"), looks := false }, kinds := [], alts := [], laidByText := true, laidKinds := [.data, .data], laidTests := true, laidLooks := .later }
def EncodeLensUptoCardSaid : Prop := Claim7.holds Tryd.pinned (.plain (OpenSpec.upto encodeLensSpec)) encodeLensUptoCard

/-- THE SECOND FORM's CARD OF 'sundiallaw10.EncodeCode'. -/
def encodeCodeUptoCard : Claim7 := { stood := { row := encodeCodeUptoRow, standIns := [], harness := (true, "babbe7d2204f2f88f5dc0e45b534efb1010ef365313fc8a72a0b7cdddc1982cf"), looks := false }, kinds := [], alts := [], laidByText := true, laidKinds := [.data, .data], laidTests := true, laidLooks := .later }
def EncodeCodeUptoCardSaid : Prop := Claim7.holds Tryd.pinned (.plain (OpenSpec.upto encodeCodeSpec)) encodeCodeUptoCard

/-- THE SECOND FORM's CARD OF 'sundiallaw10.EncodeWide'. -/
def encodeWideUptoCard : Claim7 := { stood := { row := encodeWideUptoRow, standIns := [], harness := (true, "babbe7d2204f2f88f5dc0e45b534efb1010ef365313fc8a72a0b7cdddc1982cf"), looks := false }, kinds := [], alts := [], laidByText := true, laidKinds := [.data, .data], laidTests := true, laidLooks := .later }
def EncodeWideUptoCardSaid : Prop := Claim7.holds Tryd.pinned (.plain (OpenSpec.upto encodeWideSpec)) encodeWideUptoCard

/-- THE SECOND FORM's CARD OF 'sundiallaw10.EncodeDecoded'. -/
def encodeDecodedUptoCard : Claim7 := { stood := { row := encodeDecodedUptoRow, standIns := [], harness := (true, "babbe7d2204f2f88f5dc0e45b534efb1010ef365313fc8a72a0b7cdddc1982cf"), looks := false }, kinds := [], alts := [], laidByText := true, laidKinds := [.data, .data], laidTests := true, laidLooks := .later }
def EncodeDecodedUptoCardSaid : Prop := Claim7.holds Tryd.pinned (.plain (OpenSpec.upto encodeDecodedSpec)) encodeDecodedUptoCard

/-- THE SECOND FORM's CARD OF 'sundiallaw09.DecodeTells'. -/
def decodeTellsUptoCard : Claim7 := { stood := { row := decodeTellsUptoRow, standIns := [], harness := (true, "babbe7d2204f2f88f5dc0e45b534efb1010ef365313fc8a72a0b7cdddc1982cf"), looks := false }, kinds := [], alts := [], laidByText := true, laidKinds := [.data, .funcs], laidTests := true, laidLooks := .later }
def DecodeTellsUptoCardSaid : Prop := Claim7.holds Tryd.pinned (.plain (OpenSpec.upto decodeTellsSpec)) decodeTellsUptoCard

/-- THE SECOND FORM's CARD OF 'sundiallaw09.DecodeOwn'. -/
def decodeOwnUptoCard : Claim7 := { stood := { row := decodeOwnUptoRow, standIns := [], harness := (true, "babbe7d2204f2f88f5dc0e45b534efb1010ef365313fc8a72a0b7cdddc1982cf"), looks := false }, kinds := [], alts := [], laidByText := true, laidKinds := [.data, .funcs], laidTests := true, laidLooks := .later }
def DecodeOwnUptoCardSaid : Prop := Claim7.holds Tryd.pinned (.plain (OpenSpec.upto decodeOwnSpec)) decodeOwnUptoCard

/-- THE SECOND FORM's CARD OF 'sundiallaw09.DecodeRow'. -/
def decodeRowUptoCard : Claim7 := { stood := { row := decodeRowUptoRow, standIns := [], harness := (true, "babbe7d2204f2f88f5dc0e45b534efb1010ef365313fc8a72a0b7cdddc1982cf"), looks := false }, kinds := [], alts := [], laidByText := true, laidKinds := [.data, .funcs], laidTests := true, laidLooks := .later }
def DecodeRowUptoCardSaid : Prop := Claim7.holds Tryd.pinned (.plain (OpenSpec.upto decodeRowSpec)) decodeRowUptoCard

/-- THE SECOND FORM's CARD OF 'sundiallaw09.DecodeForms'. -/
def decodeFormsUptoCard : Claim7 := { stood := { row := decodeFormsUptoRow, standIns := [], harness := (true, "babbe7d2204f2f88f5dc0e45b534efb1010ef365313fc8a72a0b7cdddc1982cf"), looks := false }, kinds := [], alts := [], laidByText := true, laidKinds := [.data, .funcs], laidTests := true, laidLooks := .later }
def DecodeFormsUptoCardSaid : Prop := Claim7.holds Tryd.pinned (.plain (OpenSpec.upto decodeFormsSpec)) decodeFormsUptoCard

/-- THE SECOND FORM's CARD OF 'sundiallaw09.DecodeWide'. -/
def decodeWideUptoCard : Claim7 := { stood := { row := decodeWideUptoRow, standIns := [], harness := (true, "babbe7d2204f2f88f5dc0e45b534efb1010ef365313fc8a72a0b7cdddc1982cf"), looks := false }, kinds := [], alts := [], laidByText := true, laidKinds := [.data, .funcs], laidTests := true, laidLooks := .later }
def DecodeWideUptoCardSaid : Prop := Claim7.holds Tryd.pinned (.plain (OpenSpec.upto decodeWideSpec)) decodeWideUptoCard
end Rows
end Go.Proofs.YtjjoocjlmopfjaaDoor
