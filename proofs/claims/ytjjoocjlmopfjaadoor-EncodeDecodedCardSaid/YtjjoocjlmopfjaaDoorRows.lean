/-
  NARROWER THAN 'FOR EVERY INPUT', by the rows' own cells (each row's printed sentence says how): EncodeTells: laid · EncodeLens: laid · EncodeCode: laid · EncodeWide: laid · EncodeDecoded: laid · DecodeTells: laid · DecodeOwn: laid · DecodeRow: laid · DecodeForms: laid · DecodeWide: laid.
  DERIVED. THE GIVEN ROWS OF THIS SEAT. 10 by the template 'for every input the law returns true; each argument reads behind the call as it read before'; 0 by the template 'total and deterministic' (their statements: YtjjoocjlmopfjaaDoorTotals.lean).
  GIVEN WITH THE SEED: the statements are not yours to turn. If you find one false, say at which input.
  Laid BY PROGRAM, IN A SANDBOX (cutbox-rows.mjs): the forced cells as the released guide's own fill.sh prints them over the translation bd8e3eca6f95f4fb… (all of the seat's roots in one cut). By AI agents, Wed Nov 11 2026. No macro, syntax, notation, axiom, sorry.
-/
import Derived.Test.YtjjoocjlmopfjaaDoorChecked
import GoSem.Claim
import GoSem.ClaimJoined
import GoSem.ClaimMapViews
import Derived.JoinedTies
import Derived.KernelRfl
namespace Go.Proofs.YtjjoocjlmopfjaaDoor
/- THE CELL 'sum', in the pinned program and in every row, IS THE sha256 OF THE DUMP (.gsa) THAT YtjjoocjlmopfjaaDoorProg.lean LOADS. Nothing in Lean hashes anything: it is a label: what it is worth is what the hold of that sum in a sandbox is worth. -/
noncomputable def Tryd.pinned : Pinned := { name := "ytjjoocjlmopfjaadoor", sum := "bd8e3eca6f95f4fbb13794d73aa4011edfb71f605ead3a357452b3cb71a6e8b2", checked := Tryd.checked }
namespace Rows
def none {H : Type} : Left H := { results := [], args := [] }

/- WHAT THE LISTED PACKAGE-LEVEL VARIABLES READ AS WHEN THE CALL BEGINS. Each datum BY PROGRAM (the guide's laid-datum.mjs) off the statement by which the dump's own 'gosem.cut.vars' lays the variable. In a bare row this is a premise. The card (YtjjoocjlmopfjaaDoorCards.lean) ties it to the program's text. -/
def laid_math_bits_deBruijn32tab {H : Type} : DataW H := .agg [.lit (.int .u8 0), .lit (.int .u8 1), .lit (.int .u8 28), .lit (.int .u8 2), .lit (.int .u8 29), .lit (.int .u8 14), .lit (.int .u8 24), .lit (.int .u8 3), .lit (.int .u8 30), .lit (.int .u8 22), .lit (.int .u8 20), .lit (.int .u8 15), .lit (.int .u8 25), .lit (.int .u8 17), .lit (.int .u8 4), .lit (.int .u8 8), .lit (.int .u8 31), .lit (.int .u8 27), .lit (.int .u8 13), .lit (.int .u8 23), .lit (.int .u8 21), .lit (.int .u8 19), .lit (.int .u8 16), .lit (.int .u8 7), .lit (.int .u8 26), .lit (.int .u8 12), .lit (.int .u8 18), .lit (.int .u8 6), .lit (.int .u8 11), .lit (.int .u8 5), .lit (.int .u8 10), .lit (.int .u8 9)]
def laid_math_bits_deBruijn64tab {H : Type} : DataW H := .agg [.lit (.int .u8 0), .lit (.int .u8 1), .lit (.int .u8 56), .lit (.int .u8 2), .lit (.int .u8 57), .lit (.int .u8 49), .lit (.int .u8 28), .lit (.int .u8 3), .lit (.int .u8 61), .lit (.int .u8 58), .lit (.int .u8 42), .lit (.int .u8 50), .lit (.int .u8 38), .lit (.int .u8 29), .lit (.int .u8 17), .lit (.int .u8 4), .lit (.int .u8 62), .lit (.int .u8 47), .lit (.int .u8 59), .lit (.int .u8 36), .lit (.int .u8 45), .lit (.int .u8 43), .lit (.int .u8 51), .lit (.int .u8 22), .lit (.int .u8 53), .lit (.int .u8 39), .lit (.int .u8 33), .lit (.int .u8 30), .lit (.int .u8 24), .lit (.int .u8 18), .lit (.int .u8 12), .lit (.int .u8 5), .lit (.int .u8 63), .lit (.int .u8 55), .lit (.int .u8 48), .lit (.int .u8 27), .lit (.int .u8 60), .lit (.int .u8 41), .lit (.int .u8 37), .lit (.int .u8 16), .lit (.int .u8 46), .lit (.int .u8 35), .lit (.int .u8 44), .lit (.int .u8 21), .lit (.int .u8 52), .lit (.int .u8 32), .lit (.int .u8 23), .lit (.int .u8 11), .lit (.int .u8 54), .lit (.int .u8 26), .lit (.int .u8 40), .lit (.int .u8 15), .lit (.int .u8 34), .lit (.int .u8 20), .lit (.int .u8 31), .lit (.int .u8 10), .lit (.int .u8 25), .lit (.int .u8 14), .lit (.int .u8 19), .lit (.int .u8 9), .lit (.int .u8 13), .lit (.int .u8 8), .lit (.int .u8 7), .lit (.int .u8 6)]
def laid_sundial_codes_deeds {H : Type} : DataW H := .agg [.lit (.int .u8 3), .lit (.int .u8 4), .lit (.int .u8 5), .lit (.int .u8 6), .lit (.int .u8 7), .lit (.int .u8 8), .lit (.int .u8 9), .lit (.int .u8 10)]
def laid_sundial_decode_stands {H : Type} : DataW H := .iface "func table" (.agg [.iface "func" (.lit (.string [115, 117, 110, 100, 105, 97, 108, 47, 100, 101, 99, 111, 100, 101, 46, 115, 116, 97, 110, 100, 115, 36, 49])), .iface "func" (.lit (.string [115, 117, 110, 100, 105, 97, 108, 47, 100, 101, 99, 111, 100, 101, 46, 115, 116, 97, 110, 100, 115, 36, 50])), .iface "func" (.lit (.string [115, 117, 110, 100, 105, 97, 108, 47, 100, 101, 99, 111, 100, 101, 46, 115, 116, 97, 110, 100, 115, 36, 51])), .iface "func" (.lit (.string [115, 117, 110, 100, 105, 97, 108, 47, 100, 101, 99, 111, 100, 101, 46, 115, 116, 97, 110, 100, 115, 36, 52])), .iface "func" (.lit (.string [115, 117, 110, 100, 105, 97, 108, 47, 100, 101, 99, 111, 100, 101, 46, 115, 116, 97, 110, 100, 115, 36, 53])), .iface "func" (.lit (.string [115, 117, 110, 100, 105, 97, 108, 47, 100, 101, 99, 111, 100, 101, 46, 115, 116, 97, 110, 100, 115, 36, 54])), .iface "func" (.lit (.string [115, 117, 110, 100, 105, 97, 108, 47, 100, 101, 99, 111, 100, 101, 46, 115, 116, 97, 110, 100, 115, 36, 55])), .iface "func" (.lit (.string [115, 117, 110, 100, 105, 97, 108, 47, 100, 101, 99, 111, 100, 101, 46, 115, 116, 97, 110, 100, 115, 36, 56])), .iface "func" (.lit (.string [115, 117, 110, 100, 105, 97, 108, 47, 100, 101, 99, 111, 100, 101, 46, 115, 116, 97, 110, 100, 115, 36, 57]))])

/-- 'sundiallaw10.EncodeTells': WHATEVER THE INPUT: true; the input reads as it did. -/
def encodeTellsSpec : ChangeSpec := { name := "encodeTells", fn := fun _ => fun
  | [d1, d2, d3, d4] => { results := [.lit (.bool true)], args := [d1, d2, d3, d4] }
  | _ => none }
def encodeTellsRow : OpenClaim := { program := "ytjjoocjlmopfjaadoor", sum := "bd8e3eca6f95f4fbb13794d73aa4011edfb71f605ead3a357452b3cb71a6e8b2", func := "sundial/sundiallaw10.EncodeTells", spec := "encodeTells", unfollowed := true, recurses := true, named := ["math/bits.deBruijn32tab", "math/bits.deBruijn64tab"], apart := false, laid := [("math/bits.deBruijn32tab", laid_math_bits_deBruijn32tab), ("math/bits.deBruijn64tab", laid_math_bits_deBruijn64tab)] }
def EncodeTellsSaid : Prop := encodeTellsRow.holds Tryd.pinned (OpenSpec.ofChange encodeTellsSpec)

/-- ITS FALSE NEIGHBOUR: 'it returns false'. Refute it at one input. -/
def encodeTellsWrong : ChangeSpec := { name := "encodeTells", fn := fun _ => fun
  | [d1, d2, d3, d4] => { results := [.lit (.bool false)], args := [d1, d2, d3, d4] }
  | _ => none }
def EncodeTellsWrongFalsely : Prop := encodeTellsRow.holds Tryd.pinned (OpenSpec.ofChange encodeTellsWrong)

/-- 'sundiallaw10.EncodeLens': WHATEVER THE INPUT: true; the input reads as it did. -/
def encodeLensSpec : ChangeSpec := { name := "encodeLens", fn := fun _ => fun
  | [d1, d2] => { results := [.lit (.bool true)], args := [d1, d2] }
  | _ => none }
def encodeLensRow : OpenClaim := { program := "ytjjoocjlmopfjaadoor", sum := "bd8e3eca6f95f4fbb13794d73aa4011edfb71f605ead3a357452b3cb71a6e8b2", func := "sundial/sundiallaw10.EncodeLens", spec := "encodeLens", unfollowed := true, recurses := true, named := ["math/bits.deBruijn32tab", "math/bits.deBruijn64tab"], apart := false, laid := [("math/bits.deBruijn32tab", laid_math_bits_deBruijn32tab), ("math/bits.deBruijn64tab", laid_math_bits_deBruijn64tab)] }
def EncodeLensSaid : Prop := encodeLensRow.holds Tryd.pinned (OpenSpec.ofChange encodeLensSpec)

/-- ITS FALSE NEIGHBOUR: 'it returns false'. Refute it at one input. -/
def encodeLensWrong : ChangeSpec := { name := "encodeLens", fn := fun _ => fun
  | [d1, d2] => { results := [.lit (.bool false)], args := [d1, d2] }
  | _ => none }
def EncodeLensWrongFalsely : Prop := encodeLensRow.holds Tryd.pinned (OpenSpec.ofChange encodeLensWrong)

/-- 'sundiallaw10.EncodeCode': WHATEVER THE INPUT: true; the input reads as it did. -/
def encodeCodeSpec : ChangeSpec := { name := "encodeCode", fn := fun _ => fun
  | [d] => { results := [.lit (.bool true)], args := [d] }
  | _ => none }
def encodeCodeRow : OpenClaim := { program := "ytjjoocjlmopfjaadoor", sum := "bd8e3eca6f95f4fbb13794d73aa4011edfb71f605ead3a357452b3cb71a6e8b2", func := "sundial/sundiallaw10.EncodeCode", spec := "encodeCode", unfollowed := true, recurses := true, named := ["math/bits.deBruijn32tab", "math/bits.deBruijn64tab"], apart := false, laid := [("math/bits.deBruijn32tab", laid_math_bits_deBruijn32tab), ("math/bits.deBruijn64tab", laid_math_bits_deBruijn64tab)] }
def EncodeCodeSaid : Prop := encodeCodeRow.holds Tryd.pinned (OpenSpec.ofChange encodeCodeSpec)

/-- ITS FALSE NEIGHBOUR: 'it returns false'. Refute it at one input. -/
def encodeCodeWrong : ChangeSpec := { name := "encodeCode", fn := fun _ => fun
  | [d] => { results := [.lit (.bool false)], args := [d] }
  | _ => none }
def EncodeCodeWrongFalsely : Prop := encodeCodeRow.holds Tryd.pinned (OpenSpec.ofChange encodeCodeWrong)

/-- 'sundiallaw10.EncodeWide': WHATEVER THE INPUT: true; the input reads as it did. -/
def encodeWideSpec : ChangeSpec := { name := "encodeWide", fn := fun _ => fun
  | [d] => { results := [.lit (.bool true)], args := [d] }
  | _ => none }
def encodeWideRow : OpenClaim := { program := "ytjjoocjlmopfjaadoor", sum := "bd8e3eca6f95f4fbb13794d73aa4011edfb71f605ead3a357452b3cb71a6e8b2", func := "sundial/sundiallaw10.EncodeWide", spec := "encodeWide", unfollowed := true, recurses := true, named := ["math/bits.deBruijn32tab", "math/bits.deBruijn64tab"], apart := false, laid := [("math/bits.deBruijn32tab", laid_math_bits_deBruijn32tab), ("math/bits.deBruijn64tab", laid_math_bits_deBruijn64tab)] }
def EncodeWideSaid : Prop := encodeWideRow.holds Tryd.pinned (OpenSpec.ofChange encodeWideSpec)

/-- ITS FALSE NEIGHBOUR: 'it returns false'. Refute it at one input. -/
def encodeWideWrong : ChangeSpec := { name := "encodeWide", fn := fun _ => fun
  | [d] => { results := [.lit (.bool false)], args := [d] }
  | _ => none }
def EncodeWideWrongFalsely : Prop := encodeWideRow.holds Tryd.pinned (OpenSpec.ofChange encodeWideWrong)

/-- 'sundiallaw10.EncodeDecoded': WHATEVER THE INPUT: true; the input reads as it did. -/
def encodeDecodedSpec : ChangeSpec := { name := "encodeDecoded", fn := fun _ => fun
  | [d] => { results := [.lit (.bool true)], args := [d] }
  | _ => none }
def encodeDecodedRow : OpenClaim := { program := "ytjjoocjlmopfjaadoor", sum := "bd8e3eca6f95f4fbb13794d73aa4011edfb71f605ead3a357452b3cb71a6e8b2", func := "sundial/sundiallaw10.EncodeDecoded", spec := "encodeDecoded", unfollowed := true, recurses := true, named := ["math/bits.deBruijn32tab", "math/bits.deBruijn64tab"], apart := false, laid := [("math/bits.deBruijn32tab", laid_math_bits_deBruijn32tab), ("math/bits.deBruijn64tab", laid_math_bits_deBruijn64tab)] }
def EncodeDecodedSaid : Prop := encodeDecodedRow.holds Tryd.pinned (OpenSpec.ofChange encodeDecodedSpec)

/-- ITS FALSE NEIGHBOUR: 'it returns false'. Refute it at one input. -/
def encodeDecodedWrong : ChangeSpec := { name := "encodeDecoded", fn := fun _ => fun
  | [d] => { results := [.lit (.bool false)], args := [d] }
  | _ => none }
def EncodeDecodedWrongFalsely : Prop := encodeDecodedRow.holds Tryd.pinned (OpenSpec.ofChange encodeDecodedWrong)

/-- 'sundiallaw09.DecodeTells': WHATEVER THE INPUT: true; the input reads as it did. -/
def decodeTellsSpec : ChangeSpec := { name := "decodeTells", fn := fun _ => fun
  | [d] => { results := [.lit (.bool true)], args := [d] }
  | _ => none }
def decodeTellsRow : OpenClaim := { program := "ytjjoocjlmopfjaadoor", sum := "bd8e3eca6f95f4fbb13794d73aa4011edfb71f605ead3a357452b3cb71a6e8b2", func := "sundial/sundiallaw09.DecodeTells", spec := "decodeTells", inPlace := ["slices.overlaps[sundial/api.Form]"], unfollowed := true, recurses := true, named := ["sundial/decode.stands", "sundial/codes.deeds"], apart := false, laid := [("sundial/codes.deeds", laid_sundial_codes_deeds), ("sundial/decode.stands", laid_sundial_decode_stands)] }
def DecodeTellsSaid : Prop := decodeTellsRow.holds Tryd.pinned (OpenSpec.ofChange decodeTellsSpec)

/-- ITS FALSE NEIGHBOUR: 'it returns false'. Refute it at one input. -/
def decodeTellsWrong : ChangeSpec := { name := "decodeTells", fn := fun _ => fun
  | [d] => { results := [.lit (.bool false)], args := [d] }
  | _ => none }
def DecodeTellsWrongFalsely : Prop := decodeTellsRow.holds Tryd.pinned (OpenSpec.ofChange decodeTellsWrong)

/-- 'sundiallaw09.DecodeOwn': WHATEVER THE INPUT: true; the input reads as it did. -/
def decodeOwnSpec : ChangeSpec := { name := "decodeOwn", fn := fun _ => fun
  | [d1, d2] => { results := [.lit (.bool true)], args := [d1, d2] }
  | _ => none }
def decodeOwnRow : OpenClaim := { program := "ytjjoocjlmopfjaadoor", sum := "bd8e3eca6f95f4fbb13794d73aa4011edfb71f605ead3a357452b3cb71a6e8b2", func := "sundial/sundiallaw09.DecodeOwn", spec := "decodeOwn", inPlace := ["slices.overlaps[sundial/api.Form]"], unfollowed := true, recurses := true, named := ["sundial/decode.stands", "sundial/codes.deeds"], apart := false, laid := [("sundial/codes.deeds", laid_sundial_codes_deeds), ("sundial/decode.stands", laid_sundial_decode_stands)] }
def DecodeOwnSaid : Prop := decodeOwnRow.holds Tryd.pinned (OpenSpec.ofChange decodeOwnSpec)

/-- ITS FALSE NEIGHBOUR: 'it returns false'. Refute it at one input. -/
def decodeOwnWrong : ChangeSpec := { name := "decodeOwn", fn := fun _ => fun
  | [d1, d2] => { results := [.lit (.bool false)], args := [d1, d2] }
  | _ => none }
def DecodeOwnWrongFalsely : Prop := decodeOwnRow.holds Tryd.pinned (OpenSpec.ofChange decodeOwnWrong)

/-- 'sundiallaw09.DecodeRow': WHATEVER THE INPUT: true; the input reads as it did. -/
def decodeRowSpec : ChangeSpec := { name := "decodeRow", fn := fun _ => fun
  | [d] => { results := [.lit (.bool true)], args := [d] }
  | _ => none }
def decodeRowRow : OpenClaim := { program := "ytjjoocjlmopfjaadoor", sum := "bd8e3eca6f95f4fbb13794d73aa4011edfb71f605ead3a357452b3cb71a6e8b2", func := "sundial/sundiallaw09.DecodeRow", spec := "decodeRow", inPlace := ["slices.overlaps[sundial/api.Form]"], unfollowed := true, recurses := true, named := ["sundial/decode.stands", "sundial/codes.deeds"], apart := false, laid := [("sundial/codes.deeds", laid_sundial_codes_deeds), ("sundial/decode.stands", laid_sundial_decode_stands)] }
def DecodeRowSaid : Prop := decodeRowRow.holds Tryd.pinned (OpenSpec.ofChange decodeRowSpec)

/-- ITS FALSE NEIGHBOUR: 'it returns false'. Refute it at one input. -/
def decodeRowWrong : ChangeSpec := { name := "decodeRow", fn := fun _ => fun
  | [d] => { results := [.lit (.bool false)], args := [d] }
  | _ => none }
def DecodeRowWrongFalsely : Prop := decodeRowRow.holds Tryd.pinned (OpenSpec.ofChange decodeRowWrong)

/-- 'sundiallaw09.DecodeForms': WHATEVER THE INPUT: true; the input reads as it did. -/
def decodeFormsSpec : ChangeSpec := { name := "decodeForms", fn := fun _ => fun
  | [d1, d2, d3, d4, d5] => { results := [.lit (.bool true)], args := [d1, d2, d3, d4, d5] }
  | _ => none }
def decodeFormsRow : OpenClaim := { program := "ytjjoocjlmopfjaadoor", sum := "bd8e3eca6f95f4fbb13794d73aa4011edfb71f605ead3a357452b3cb71a6e8b2", func := "sundial/sundiallaw09.DecodeForms", spec := "decodeForms", inPlace := ["slices.overlaps[sundial/api.Form]"], unfollowed := true, recurses := true, named := ["sundial/decode.stands", "sundial/codes.deeds"], apart := false, laid := [("sundial/codes.deeds", laid_sundial_codes_deeds), ("sundial/decode.stands", laid_sundial_decode_stands)] }
def DecodeFormsSaid : Prop := decodeFormsRow.holds Tryd.pinned (OpenSpec.ofChange decodeFormsSpec)

/-- ITS FALSE NEIGHBOUR: 'it returns false'. Refute it at one input. -/
def decodeFormsWrong : ChangeSpec := { name := "decodeForms", fn := fun _ => fun
  | [d1, d2, d3, d4, d5] => { results := [.lit (.bool false)], args := [d1, d2, d3, d4, d5] }
  | _ => none }
def DecodeFormsWrongFalsely : Prop := decodeFormsRow.holds Tryd.pinned (OpenSpec.ofChange decodeFormsWrong)

/-- 'sundiallaw09.DecodeWide': WHATEVER THE INPUT: true; the input reads as it did. -/
def decodeWideSpec : ChangeSpec := { name := "decodeWide", fn := fun _ => fun
  | [d1, d2, d3, d4] => { results := [.lit (.bool true)], args := [d1, d2, d3, d4] }
  | _ => none }
def decodeWideRow : OpenClaim := { program := "ytjjoocjlmopfjaadoor", sum := "bd8e3eca6f95f4fbb13794d73aa4011edfb71f605ead3a357452b3cb71a6e8b2", func := "sundial/sundiallaw09.DecodeWide", spec := "decodeWide", inPlace := ["slices.overlaps[sundial/api.Form]"], unfollowed := true, recurses := true, named := ["sundial/decode.stands", "sundial/codes.deeds"], apart := false, laid := [("sundial/codes.deeds", laid_sundial_codes_deeds), ("sundial/decode.stands", laid_sundial_decode_stands)] }
def DecodeWideSaid : Prop := decodeWideRow.holds Tryd.pinned (OpenSpec.ofChange decodeWideSpec)

/-- ITS FALSE NEIGHBOUR: 'it returns false'. Refute it at one input. -/
def decodeWideWrong : ChangeSpec := { name := "decodeWide", fn := fun _ => fun
  | [d1, d2, d3, d4] => { results := [.lit (.bool false)], args := [d1, d2, d3, d4] }
  | _ => none }
def DecodeWideWrongFalsely : Prop := decodeWideRow.holds Tryd.pinned (OpenSpec.ofChange decodeWideWrong)

/- THE SECOND FORM. 'bulk': how many values and letters a reading holds, each counted each time it is reached (what is shared counts as often as it is met; a slice's spare places count too). A statement '..UptoSaid' is the law's where the arguments, and the package variables that the reading takes, are together of bulk at most 1048576: NARROWER than '..Said'. Prove '..Said' where nothing that the law and all that it calls make is longer than what came in: it says more and counts as full. Else prove '..UptoSaid'. A law counts once. -/
mutual
def uptoBulk {H : Type} : DataW H → Nat
  | .lit (.string bytes) => bytes.length + 1
  | .lit _ => 1
  | .nil => 1
  | .ptr d => uptoBulk d + 1
  | .slice elems spare => uptoBulkAll elems + uptoBulkAll spare + 1
  | .agg parts => uptoBulkAll parts + 1
  | .iface _ d => uptoBulk d + 1
  | .map entries => uptoBulkEntries entries + 1
  | .held _ => 1
def uptoBulkAll {H : Type} : List (DataW H) → Nat
  | [] => 0
  | d :: r => uptoBulk d + uptoBulkAll r
def uptoBulkEntries {H : Type} : List (Lit × DataW H) → Nat
  | [] => 0
  | x :: r => uptoBulkEntry x + uptoBulkEntries r
def uptoBulkEntry {H : Type} : Lit × DataW H → Nat
  | (.string bytes, d) => bytes.length + uptoBulk d + 1
  | (_, d) => uptoBulk d + 1
 end
def uptoSmall : (H : Type) → List (DataW H) → Bool := fun _ ds => decide (uptoBulkAll ds ≤ 1048576)
def OpenSpec.upto (s : _root_.Go.ChangeSpec) : _root_.Go.OpenSpec := { _root_.Go.OpenSpec.ofChange s with cond := some uptoSmall }

/-- 'sundiallaw10.EncodeTells', WHERE WHAT IT READS IS OF BULK AT MOST 1048576: true; the input reads as it did. -/
def encodeTellsUptoRow : OpenClaim := { program := "ytjjoocjlmopfjaadoor", sum := "bd8e3eca6f95f4fbb13794d73aa4011edfb71f605ead3a357452b3cb71a6e8b2", func := "sundial/sundiallaw10.EncodeTells", spec := "encodeTells", unfollowed := true, recurses := true, named := ["math/bits.deBruijn32tab", "math/bits.deBruijn64tab"], apart := false, laid := [("math/bits.deBruijn32tab", laid_math_bits_deBruijn32tab), ("math/bits.deBruijn64tab", laid_math_bits_deBruijn64tab)], narrowed := true }
def EncodeTellsUptoSaid : Prop := encodeTellsUptoRow.holds Tryd.pinned (OpenSpec.upto encodeTellsSpec)

/-- 'sundiallaw10.EncodeLens', WHERE WHAT IT READS IS OF BULK AT MOST 1048576: true; the input reads as it did. -/
def encodeLensUptoRow : OpenClaim := { program := "ytjjoocjlmopfjaadoor", sum := "bd8e3eca6f95f4fbb13794d73aa4011edfb71f605ead3a357452b3cb71a6e8b2", func := "sundial/sundiallaw10.EncodeLens", spec := "encodeLens", unfollowed := true, recurses := true, named := ["math/bits.deBruijn32tab", "math/bits.deBruijn64tab"], apart := false, laid := [("math/bits.deBruijn32tab", laid_math_bits_deBruijn32tab), ("math/bits.deBruijn64tab", laid_math_bits_deBruijn64tab)], narrowed := true }
def EncodeLensUptoSaid : Prop := encodeLensUptoRow.holds Tryd.pinned (OpenSpec.upto encodeLensSpec)

/-- 'sundiallaw10.EncodeCode', WHERE WHAT IT READS IS OF BULK AT MOST 1048576: true; the input reads as it did. -/
def encodeCodeUptoRow : OpenClaim := { program := "ytjjoocjlmopfjaadoor", sum := "bd8e3eca6f95f4fbb13794d73aa4011edfb71f605ead3a357452b3cb71a6e8b2", func := "sundial/sundiallaw10.EncodeCode", spec := "encodeCode", unfollowed := true, recurses := true, named := ["math/bits.deBruijn32tab", "math/bits.deBruijn64tab"], apart := false, laid := [("math/bits.deBruijn32tab", laid_math_bits_deBruijn32tab), ("math/bits.deBruijn64tab", laid_math_bits_deBruijn64tab)], narrowed := true }
def EncodeCodeUptoSaid : Prop := encodeCodeUptoRow.holds Tryd.pinned (OpenSpec.upto encodeCodeSpec)

/-- 'sundiallaw10.EncodeWide', WHERE WHAT IT READS IS OF BULK AT MOST 1048576: true; the input reads as it did. -/
def encodeWideUptoRow : OpenClaim := { program := "ytjjoocjlmopfjaadoor", sum := "bd8e3eca6f95f4fbb13794d73aa4011edfb71f605ead3a357452b3cb71a6e8b2", func := "sundial/sundiallaw10.EncodeWide", spec := "encodeWide", unfollowed := true, recurses := true, named := ["math/bits.deBruijn32tab", "math/bits.deBruijn64tab"], apart := false, laid := [("math/bits.deBruijn32tab", laid_math_bits_deBruijn32tab), ("math/bits.deBruijn64tab", laid_math_bits_deBruijn64tab)], narrowed := true }
def EncodeWideUptoSaid : Prop := encodeWideUptoRow.holds Tryd.pinned (OpenSpec.upto encodeWideSpec)

/-- 'sundiallaw10.EncodeDecoded', WHERE WHAT IT READS IS OF BULK AT MOST 1048576: true; the input reads as it did. -/
def encodeDecodedUptoRow : OpenClaim := { program := "ytjjoocjlmopfjaadoor", sum := "bd8e3eca6f95f4fbb13794d73aa4011edfb71f605ead3a357452b3cb71a6e8b2", func := "sundial/sundiallaw10.EncodeDecoded", spec := "encodeDecoded", unfollowed := true, recurses := true, named := ["math/bits.deBruijn32tab", "math/bits.deBruijn64tab"], apart := false, laid := [("math/bits.deBruijn32tab", laid_math_bits_deBruijn32tab), ("math/bits.deBruijn64tab", laid_math_bits_deBruijn64tab)], narrowed := true }
def EncodeDecodedUptoSaid : Prop := encodeDecodedUptoRow.holds Tryd.pinned (OpenSpec.upto encodeDecodedSpec)

/-- 'sundiallaw09.DecodeTells', WHERE WHAT IT READS IS OF BULK AT MOST 1048576: true; the input reads as it did. -/
def decodeTellsUptoRow : OpenClaim := { program := "ytjjoocjlmopfjaadoor", sum := "bd8e3eca6f95f4fbb13794d73aa4011edfb71f605ead3a357452b3cb71a6e8b2", func := "sundial/sundiallaw09.DecodeTells", spec := "decodeTells", inPlace := ["slices.overlaps[sundial/api.Form]"], unfollowed := true, recurses := true, named := ["sundial/decode.stands", "sundial/codes.deeds"], apart := false, laid := [("sundial/codes.deeds", laid_sundial_codes_deeds), ("sundial/decode.stands", laid_sundial_decode_stands)], narrowed := true }
def DecodeTellsUptoSaid : Prop := decodeTellsUptoRow.holds Tryd.pinned (OpenSpec.upto decodeTellsSpec)

/-- 'sundiallaw09.DecodeOwn', WHERE WHAT IT READS IS OF BULK AT MOST 1048576: true; the input reads as it did. -/
def decodeOwnUptoRow : OpenClaim := { program := "ytjjoocjlmopfjaadoor", sum := "bd8e3eca6f95f4fbb13794d73aa4011edfb71f605ead3a357452b3cb71a6e8b2", func := "sundial/sundiallaw09.DecodeOwn", spec := "decodeOwn", inPlace := ["slices.overlaps[sundial/api.Form]"], unfollowed := true, recurses := true, named := ["sundial/decode.stands", "sundial/codes.deeds"], apart := false, laid := [("sundial/codes.deeds", laid_sundial_codes_deeds), ("sundial/decode.stands", laid_sundial_decode_stands)], narrowed := true }
def DecodeOwnUptoSaid : Prop := decodeOwnUptoRow.holds Tryd.pinned (OpenSpec.upto decodeOwnSpec)

/-- 'sundiallaw09.DecodeRow', WHERE WHAT IT READS IS OF BULK AT MOST 1048576: true; the input reads as it did. -/
def decodeRowUptoRow : OpenClaim := { program := "ytjjoocjlmopfjaadoor", sum := "bd8e3eca6f95f4fbb13794d73aa4011edfb71f605ead3a357452b3cb71a6e8b2", func := "sundial/sundiallaw09.DecodeRow", spec := "decodeRow", inPlace := ["slices.overlaps[sundial/api.Form]"], unfollowed := true, recurses := true, named := ["sundial/decode.stands", "sundial/codes.deeds"], apart := false, laid := [("sundial/codes.deeds", laid_sundial_codes_deeds), ("sundial/decode.stands", laid_sundial_decode_stands)], narrowed := true }
def DecodeRowUptoSaid : Prop := decodeRowUptoRow.holds Tryd.pinned (OpenSpec.upto decodeRowSpec)

/-- 'sundiallaw09.DecodeForms', WHERE WHAT IT READS IS OF BULK AT MOST 1048576: true; the input reads as it did. -/
def decodeFormsUptoRow : OpenClaim := { program := "ytjjoocjlmopfjaadoor", sum := "bd8e3eca6f95f4fbb13794d73aa4011edfb71f605ead3a357452b3cb71a6e8b2", func := "sundial/sundiallaw09.DecodeForms", spec := "decodeForms", inPlace := ["slices.overlaps[sundial/api.Form]"], unfollowed := true, recurses := true, named := ["sundial/decode.stands", "sundial/codes.deeds"], apart := false, laid := [("sundial/codes.deeds", laid_sundial_codes_deeds), ("sundial/decode.stands", laid_sundial_decode_stands)], narrowed := true }
def DecodeFormsUptoSaid : Prop := decodeFormsUptoRow.holds Tryd.pinned (OpenSpec.upto decodeFormsSpec)

/-- 'sundiallaw09.DecodeWide', WHERE WHAT IT READS IS OF BULK AT MOST 1048576: true; the input reads as it did. -/
def decodeWideUptoRow : OpenClaim := { program := "ytjjoocjlmopfjaadoor", sum := "bd8e3eca6f95f4fbb13794d73aa4011edfb71f605ead3a357452b3cb71a6e8b2", func := "sundial/sundiallaw09.DecodeWide", spec := "decodeWide", inPlace := ["slices.overlaps[sundial/api.Form]"], unfollowed := true, recurses := true, named := ["sundial/decode.stands", "sundial/codes.deeds"], apart := false, laid := [("sundial/codes.deeds", laid_sundial_codes_deeds), ("sundial/decode.stands", laid_sundial_decode_stands)], narrowed := true }
def DecodeWideUptoSaid : Prop := decodeWideUptoRow.holds Tryd.pinned (OpenSpec.upto decodeWideSpec)

end Rows
end Go.Proofs.YtjjoocjlmopfjaaDoor
