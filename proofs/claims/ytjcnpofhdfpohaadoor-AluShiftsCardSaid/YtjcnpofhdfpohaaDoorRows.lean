/-
  NARROWER THAN 'FOR EVERY INPUT', by the rows' own cells (each row's printed sentence says how): BitsSigned: laid · BitsParity: laid · BitsBack: laid · BitsTurn: laid · AluBack: laid · AluCompares: laid · AluShifts: laid · AluSigned: laid · AluTells: laid.
  DERIVED. THE GIVEN ROWS OF THIS SEAT. 9 by the template 'for every input the law returns true; each argument reads behind the call as it read before'; 0 by the template 'total and deterministic' (their statements: YtjcnpofhdfpohaaDoorTotals.lean).
  GIVEN WITH THE SEED: the statements are not yours to turn. If you find one false, say at which input.
  Laid BY PROGRAM, IN A SANDBOX (cutbox-rows.mjs): the forced cells as the released guide's own fill.sh prints them over the translation ab9a6d03de83a46f… (all of the seat's roots in one cut). By AI agents, Wed Nov 11 2026. No macro, syntax, notation, axiom, sorry.
-/
import Derived.Test.YtjcnpofhdfpohaaDoorChecked
import GoSem.Claim
import GoSem.ClaimJoined
import GoSem.ClaimMapViews
import Derived.JoinedTies
import Derived.KernelRfl
namespace Go.Proofs.YtjcnpofhdfpohaaDoor
/- THE CELL 'sum', in the pinned program and in every row, IS THE sha256 OF THE DUMP (.gsa) THAT YtjcnpofhdfpohaaDoorProg.lean LOADS. Nothing in Lean hashes anything: it is a label: what it is worth is what the hold of that sum in a sandbox is worth. -/
noncomputable def Tryd.pinned : Pinned := { name := "ytjcnpofhdfpohaadoor", sum := "ab9a6d03de83a46fc715b4ff34bdd710d366287e04c8ba898bd58db6046cb988", checked := Tryd.checked }
namespace Rows
def none {H : Type} : Left H := { results := [], args := [] }

/- WHAT THE LISTED PACKAGE-LEVEL VARIABLES READ AS WHEN THE CALL BEGINS. Each datum BY PROGRAM (the guide's laid-datum.mjs) off the statement by which the dump's own 'gosem.cut.vars' lays the variable. In a bare row this is a premise. The card (YtjcnpofhdfpohaaDoorCards.lean) ties it to the program's text. -/
def laid_sundial_bits_masks {H : Type} : DataW H := .agg [.lit (.int .u64 255), .lit (.int .u64 255), .lit (.int .u64 65535), .lit (.int .u64 16777215), .lit (.int .u64 4294967295), .lit (.int .u64 1099511627775), .lit (.int .u64 281474976710655), .lit (.int .u64 72057594037927935), .lit (.int .u64 18446744073709551615)]

/-- 'sundiallaw01.BitsSigned': WHATEVER THE INPUT: true; the input reads as it did. -/
def bitsSignedSpec : ChangeSpec := { name := "bitsSigned", fn := fun _ => fun
  | [d1, d2, d3, d4] => { results := [.lit (.bool true)], args := [d1, d2, d3, d4] }
  | _ => none }
def bitsSignedRow : OpenClaim := { program := "ytjcnpofhdfpohaadoor", sum := "ab9a6d03de83a46fc715b4ff34bdd710d366287e04c8ba898bd58db6046cb988", func := "sundial/sundiallaw01.BitsSigned", spec := "bitsSigned", inPlace := ["math/bits.Add64", "math/bits.Sub64"], unfollowed := true, recurses := true, named := ["sundial/bits.masks"], apart := false, laid := [("sundial/bits.masks", laid_sundial_bits_masks)] }
def BitsSignedSaid : Prop := bitsSignedRow.holds Tryd.pinned (OpenSpec.ofChange bitsSignedSpec)

/-- ITS FALSE NEIGHBOUR: 'it returns false'. Refute it at one input. -/
def bitsSignedWrong : ChangeSpec := { name := "bitsSigned", fn := fun _ => fun
  | [d1, d2, d3, d4] => { results := [.lit (.bool false)], args := [d1, d2, d3, d4] }
  | _ => none }
def BitsSignedWrongFalsely : Prop := bitsSignedRow.holds Tryd.pinned (OpenSpec.ofChange bitsSignedWrong)

/-- 'sundiallaw01.BitsParity': WHATEVER THE INPUT: true; the input reads as it did. -/
def bitsParitySpec : ChangeSpec := { name := "bitsParity", fn := fun _ => fun
  | [d1, d2] => { results := [.lit (.bool true)], args := [d1, d2] }
  | _ => none }
def bitsParityRow : OpenClaim := { program := "ytjcnpofhdfpohaadoor", sum := "ab9a6d03de83a46fc715b4ff34bdd710d366287e04c8ba898bd58db6046cb988", func := "sundial/sundiallaw01.BitsParity", spec := "bitsParity", inPlace := ["math/bits.Add64", "math/bits.Sub64"], unfollowed := true, recurses := true, named := ["sundial/bits.masks"], apart := false, laid := [("sundial/bits.masks", laid_sundial_bits_masks)] }
def BitsParitySaid : Prop := bitsParityRow.holds Tryd.pinned (OpenSpec.ofChange bitsParitySpec)

/-- ITS FALSE NEIGHBOUR: 'it returns false'. Refute it at one input. -/
def bitsParityWrong : ChangeSpec := { name := "bitsParity", fn := fun _ => fun
  | [d1, d2] => { results := [.lit (.bool false)], args := [d1, d2] }
  | _ => none }
def BitsParityWrongFalsely : Prop := bitsParityRow.holds Tryd.pinned (OpenSpec.ofChange bitsParityWrong)

/-- 'sundiallaw01.BitsBack': WHATEVER THE INPUT: true; the input reads as it did. -/
def bitsBackSpec : ChangeSpec := { name := "bitsBack", fn := fun _ => fun
  | [d1, d2, d3, d4, d5] => { results := [.lit (.bool true)], args := [d1, d2, d3, d4, d5] }
  | _ => none }
def bitsBackRow : OpenClaim := { program := "ytjcnpofhdfpohaadoor", sum := "ab9a6d03de83a46fc715b4ff34bdd710d366287e04c8ba898bd58db6046cb988", func := "sundial/sundiallaw01.BitsBack", spec := "bitsBack", inPlace := ["math/bits.Add64", "math/bits.Sub64"], unfollowed := true, recurses := true, named := ["sundial/bits.masks"], apart := false, laid := [("sundial/bits.masks", laid_sundial_bits_masks)] }
def BitsBackSaid : Prop := bitsBackRow.holds Tryd.pinned (OpenSpec.ofChange bitsBackSpec)

/-- ITS FALSE NEIGHBOUR: 'it returns false'. Refute it at one input. -/
def bitsBackWrong : ChangeSpec := { name := "bitsBack", fn := fun _ => fun
  | [d1, d2, d3, d4, d5] => { results := [.lit (.bool false)], args := [d1, d2, d3, d4, d5] }
  | _ => none }
def BitsBackWrongFalsely : Prop := bitsBackRow.holds Tryd.pinned (OpenSpec.ofChange bitsBackWrong)

/-- 'sundiallaw01.BitsTurn': WHATEVER THE INPUT: true; the input reads as it did. -/
def bitsTurnSpec : ChangeSpec := { name := "bitsTurn", fn := fun _ => fun
  | [d1, d2, d3, d4] => { results := [.lit (.bool true)], args := [d1, d2, d3, d4] }
  | _ => none }
def bitsTurnRow : OpenClaim := { program := "ytjcnpofhdfpohaadoor", sum := "ab9a6d03de83a46fc715b4ff34bdd710d366287e04c8ba898bd58db6046cb988", func := "sundial/sundiallaw01.BitsTurn", spec := "bitsTurn", inPlace := ["math/bits.Add64", "math/bits.Sub64"], unfollowed := true, recurses := true, named := ["sundial/bits.masks"], apart := false, laid := [("sundial/bits.masks", laid_sundial_bits_masks)] }
def BitsTurnSaid : Prop := bitsTurnRow.holds Tryd.pinned (OpenSpec.ofChange bitsTurnSpec)

/-- ITS FALSE NEIGHBOUR: 'it returns false'. Refute it at one input. -/
def bitsTurnWrong : ChangeSpec := { name := "bitsTurn", fn := fun _ => fun
  | [d1, d2, d3, d4] => { results := [.lit (.bool false)], args := [d1, d2, d3, d4] }
  | _ => none }
def BitsTurnWrongFalsely : Prop := bitsTurnRow.holds Tryd.pinned (OpenSpec.ofChange bitsTurnWrong)

/-- 'sundiallaw13.AluBack': WHATEVER THE INPUT: true; the input reads as it did. -/
def aluBackSpec : ChangeSpec := { name := "aluBack", fn := fun _ => fun
  | [d1, d2, d3, d4] => { results := [.lit (.bool true)], args := [d1, d2, d3, d4] }
  | _ => none }
def aluBackRow : OpenClaim := { program := "ytjcnpofhdfpohaadoor", sum := "ab9a6d03de83a46fc715b4ff34bdd710d366287e04c8ba898bd58db6046cb988", func := "sundial/sundiallaw13.AluBack", spec := "aluBack", inPlace := ["math/bits.Sub64"], unfollowed := true, recurses := true, named := ["sundial/bits.masks", "math/bits.divideError", "math/bits.overflowError"], apart := false, laid := [("sundial/bits.masks", laid_sundial_bits_masks)] }
def AluBackSaid : Prop := aluBackRow.holds Tryd.pinned (OpenSpec.ofChange aluBackSpec)

/-- ITS FALSE NEIGHBOUR: 'it returns false'. Refute it at one input. -/
def aluBackWrong : ChangeSpec := { name := "aluBack", fn := fun _ => fun
  | [d1, d2, d3, d4] => { results := [.lit (.bool false)], args := [d1, d2, d3, d4] }
  | _ => none }
def AluBackWrongFalsely : Prop := aluBackRow.holds Tryd.pinned (OpenSpec.ofChange aluBackWrong)

/-- 'sundiallaw13.AluCompares': WHATEVER THE INPUT: true; the input reads as it did. -/
def aluComparesSpec : ChangeSpec := { name := "aluCompares", fn := fun _ => fun
  | [d1, d2, d3] => { results := [.lit (.bool true)], args := [d1, d2, d3] }
  | _ => none }
def aluComparesRow : OpenClaim := { program := "ytjcnpofhdfpohaadoor", sum := "ab9a6d03de83a46fc715b4ff34bdd710d366287e04c8ba898bd58db6046cb988", func := "sundial/sundiallaw13.AluCompares", spec := "aluCompares", inPlace := ["math/bits.Sub64", "math/bits.Add64"], unfollowed := true, recurses := true, named := ["sundial/bits.masks", "math/bits.divideError", "math/bits.overflowError"], apart := false, laid := [("sundial/bits.masks", laid_sundial_bits_masks)] }
def AluComparesSaid : Prop := aluComparesRow.holds Tryd.pinned (OpenSpec.ofChange aluComparesSpec)

/-- ITS FALSE NEIGHBOUR: 'it returns false'. Refute it at one input. -/
def aluComparesWrong : ChangeSpec := { name := "aluCompares", fn := fun _ => fun
  | [d1, d2, d3] => { results := [.lit (.bool false)], args := [d1, d2, d3] }
  | _ => none }
def AluComparesWrongFalsely : Prop := aluComparesRow.holds Tryd.pinned (OpenSpec.ofChange aluComparesWrong)

/-- 'sundiallaw13.AluShifts': WHATEVER THE INPUT: true; the input reads as it did. -/
def aluShiftsSpec : ChangeSpec := { name := "aluShifts", fn := fun _ => fun
  | [d1, d2, d3, d4, d5] => { results := [.lit (.bool true)], args := [d1, d2, d3, d4, d5] }
  | _ => none }
def aluShiftsRow : OpenClaim := { program := "ytjcnpofhdfpohaadoor", sum := "ab9a6d03de83a46fc715b4ff34bdd710d366287e04c8ba898bd58db6046cb988", func := "sundial/sundiallaw13.AluShifts", spec := "aluShifts", inPlace := ["math/bits.Sub64"], unfollowed := true, recurses := true, named := ["sundial/bits.masks", "math/bits.divideError", "math/bits.overflowError"], apart := false, laid := [("sundial/bits.masks", laid_sundial_bits_masks)] }
def AluShiftsSaid : Prop := aluShiftsRow.holds Tryd.pinned (OpenSpec.ofChange aluShiftsSpec)

/-- ITS FALSE NEIGHBOUR: 'it returns false'. Refute it at one input. -/
def aluShiftsWrong : ChangeSpec := { name := "aluShifts", fn := fun _ => fun
  | [d1, d2, d3, d4, d5] => { results := [.lit (.bool false)], args := [d1, d2, d3, d4, d5] }
  | _ => none }
def AluShiftsWrongFalsely : Prop := aluShiftsRow.holds Tryd.pinned (OpenSpec.ofChange aluShiftsWrong)

/-- 'sundiallaw13.AluSigned': WHATEVER THE INPUT: true; the input reads as it did. -/
def aluSignedSpec : ChangeSpec := { name := "aluSigned", fn := fun _ => fun
  | [d1, d2, d3] => { results := [.lit (.bool true)], args := [d1, d2, d3] }
  | _ => none }
def aluSignedRow : OpenClaim := { program := "ytjcnpofhdfpohaadoor", sum := "ab9a6d03de83a46fc715b4ff34bdd710d366287e04c8ba898bd58db6046cb988", func := "sundial/sundiallaw13.AluSigned", spec := "aluSigned", inPlace := ["math/bits.Sub64"], unfollowed := true, recurses := true, named := ["sundial/bits.masks", "math/bits.divideError", "math/bits.overflowError"], apart := false, laid := [("sundial/bits.masks", laid_sundial_bits_masks)] }
def AluSignedSaid : Prop := aluSignedRow.holds Tryd.pinned (OpenSpec.ofChange aluSignedSpec)

/-- ITS FALSE NEIGHBOUR: 'it returns false'. Refute it at one input. -/
def aluSignedWrong : ChangeSpec := { name := "aluSigned", fn := fun _ => fun
  | [d1, d2, d3] => { results := [.lit (.bool false)], args := [d1, d2, d3] }
  | _ => none }
def AluSignedWrongFalsely : Prop := aluSignedRow.holds Tryd.pinned (OpenSpec.ofChange aluSignedWrong)

/-- 'sundiallaw13.AluTells': WHATEVER THE INPUT: true; the input reads as it did. -/
def aluTellsSpec : ChangeSpec := { name := "aluTells", fn := fun _ => fun
  | [d1, d2, d3, d4, d5, d6, d7, d8] => { results := [.lit (.bool true)], args := [d1, d2, d3, d4, d5, d6, d7, d8] }
  | _ => none }
def aluTellsRow : OpenClaim := { program := "ytjcnpofhdfpohaadoor", sum := "ab9a6d03de83a46fc715b4ff34bdd710d366287e04c8ba898bd58db6046cb988", func := "sundial/sundiallaw13.AluTells", spec := "aluTells", inPlace := ["math/bits.Add64", "math/bits.Sub64"], unfollowed := true, recurses := true, named := ["sundial/bits.masks", "math/bits.divideError", "math/bits.overflowError"], apart := false, laid := [("sundial/bits.masks", laid_sundial_bits_masks)] }
def AluTellsSaid : Prop := aluTellsRow.holds Tryd.pinned (OpenSpec.ofChange aluTellsSpec)

/-- ITS FALSE NEIGHBOUR: 'it returns false'. Refute it at one input. -/
def aluTellsWrong : ChangeSpec := { name := "aluTells", fn := fun _ => fun
  | [d1, d2, d3, d4, d5, d6, d7, d8] => { results := [.lit (.bool false)], args := [d1, d2, d3, d4, d5, d6, d7, d8] }
  | _ => none }
def AluTellsWrongFalsely : Prop := aluTellsRow.holds Tryd.pinned (OpenSpec.ofChange aluTellsWrong)

/- THE SECOND FORM. 'bulk': how many values and letters a reading holds, each counted each time it is reached (what is shared counts as often as it is met; a slice's spare places count too). A statement '..UptoSaid' is the law's where the arguments, and the package variables that the reading takes, are together of bulk at most 1048576: NARROWER than '..Said'. Prove '..Said' where nothing that the law and all that it calls make is longer than what came in: it says more and counts as full. Else prove '..UptoSaid'. A law counts once. -/
mutual
def uptoBulk {H : Type} : DataW H → Nat
  | .lit (.string bytes) => bytes.length + 1
  | .lit _ => 1
  | .nil => 1
  | .ptr d => uptoBulk d + 1
  | .slice elems spare => uptoBulkAll elems + uptoBulkAll spare + 1
  | .agg parts => uptoBulkAll parts + 1
  | .iface _ d => uptoBulk d + 1
  | .map entries => uptoBulkEntries entries + 1
  | .held _ => 1
def uptoBulkAll {H : Type} : List (DataW H) → Nat
  | [] => 0
  | d :: r => uptoBulk d + uptoBulkAll r
def uptoBulkEntries {H : Type} : List (Lit × DataW H) → Nat
  | [] => 0
  | x :: r => uptoBulkEntry x + uptoBulkEntries r
def uptoBulkEntry {H : Type} : Lit × DataW H → Nat
  | (.string bytes, d) => bytes.length + uptoBulk d + 1
  | (_, d) => uptoBulk d + 1
 end
def uptoSmall : (H : Type) → List (DataW H) → Bool := fun _ ds => decide (uptoBulkAll ds ≤ 1048576)
def OpenSpec.upto (s : _root_.Go.ChangeSpec) : _root_.Go.OpenSpec := { _root_.Go.OpenSpec.ofChange s with cond := some uptoSmall }

/-- 'sundiallaw01.BitsSigned', WHERE WHAT IT READS IS OF BULK AT MOST 1048576: true; the input reads as it did. -/
def bitsSignedUptoRow : OpenClaim := { program := "ytjcnpofhdfpohaadoor", sum := "ab9a6d03de83a46fc715b4ff34bdd710d366287e04c8ba898bd58db6046cb988", func := "sundial/sundiallaw01.BitsSigned", spec := "bitsSigned", inPlace := ["math/bits.Add64", "math/bits.Sub64"], unfollowed := true, recurses := true, named := ["sundial/bits.masks"], apart := false, laid := [("sundial/bits.masks", laid_sundial_bits_masks)], narrowed := true }
def BitsSignedUptoSaid : Prop := bitsSignedUptoRow.holds Tryd.pinned (OpenSpec.upto bitsSignedSpec)

/-- 'sundiallaw01.BitsParity', WHERE WHAT IT READS IS OF BULK AT MOST 1048576: true; the input reads as it did. -/
def bitsParityUptoRow : OpenClaim := { program := "ytjcnpofhdfpohaadoor", sum := "ab9a6d03de83a46fc715b4ff34bdd710d366287e04c8ba898bd58db6046cb988", func := "sundial/sundiallaw01.BitsParity", spec := "bitsParity", inPlace := ["math/bits.Add64", "math/bits.Sub64"], unfollowed := true, recurses := true, named := ["sundial/bits.masks"], apart := false, laid := [("sundial/bits.masks", laid_sundial_bits_masks)], narrowed := true }
def BitsParityUptoSaid : Prop := bitsParityUptoRow.holds Tryd.pinned (OpenSpec.upto bitsParitySpec)

/-- 'sundiallaw01.BitsBack', WHERE WHAT IT READS IS OF BULK AT MOST 1048576: true; the input reads as it did. -/
def bitsBackUptoRow : OpenClaim := { program := "ytjcnpofhdfpohaadoor", sum := "ab9a6d03de83a46fc715b4ff34bdd710d366287e04c8ba898bd58db6046cb988", func := "sundial/sundiallaw01.BitsBack", spec := "bitsBack", inPlace := ["math/bits.Add64", "math/bits.Sub64"], unfollowed := true, recurses := true, named := ["sundial/bits.masks"], apart := false, laid := [("sundial/bits.masks", laid_sundial_bits_masks)], narrowed := true }
def BitsBackUptoSaid : Prop := bitsBackUptoRow.holds Tryd.pinned (OpenSpec.upto bitsBackSpec)

/-- 'sundiallaw01.BitsTurn', WHERE WHAT IT READS IS OF BULK AT MOST 1048576: true; the input reads as it did. -/
def bitsTurnUptoRow : OpenClaim := { program := "ytjcnpofhdfpohaadoor", sum := "ab9a6d03de83a46fc715b4ff34bdd710d366287e04c8ba898bd58db6046cb988", func := "sundial/sundiallaw01.BitsTurn", spec := "bitsTurn", inPlace := ["math/bits.Add64", "math/bits.Sub64"], unfollowed := true, recurses := true, named := ["sundial/bits.masks"], apart := false, laid := [("sundial/bits.masks", laid_sundial_bits_masks)], narrowed := true }
def BitsTurnUptoSaid : Prop := bitsTurnUptoRow.holds Tryd.pinned (OpenSpec.upto bitsTurnSpec)

/-- 'sundiallaw13.AluBack', WHERE WHAT IT READS IS OF BULK AT MOST 1048576: true; the input reads as it did. -/
def aluBackUptoRow : OpenClaim := { program := "ytjcnpofhdfpohaadoor", sum := "ab9a6d03de83a46fc715b4ff34bdd710d366287e04c8ba898bd58db6046cb988", func := "sundial/sundiallaw13.AluBack", spec := "aluBack", inPlace := ["math/bits.Sub64"], unfollowed := true, recurses := true, named := ["sundial/bits.masks", "math/bits.divideError", "math/bits.overflowError"], apart := false, laid := [("sundial/bits.masks", laid_sundial_bits_masks)], narrowed := true }
def AluBackUptoSaid : Prop := aluBackUptoRow.holds Tryd.pinned (OpenSpec.upto aluBackSpec)

/-- 'sundiallaw13.AluCompares', WHERE WHAT IT READS IS OF BULK AT MOST 1048576: true; the input reads as it did. -/
def aluComparesUptoRow : OpenClaim := { program := "ytjcnpofhdfpohaadoor", sum := "ab9a6d03de83a46fc715b4ff34bdd710d366287e04c8ba898bd58db6046cb988", func := "sundial/sundiallaw13.AluCompares", spec := "aluCompares", inPlace := ["math/bits.Sub64", "math/bits.Add64"], unfollowed := true, recurses := true, named := ["sundial/bits.masks", "math/bits.divideError", "math/bits.overflowError"], apart := false, laid := [("sundial/bits.masks", laid_sundial_bits_masks)], narrowed := true }
def AluComparesUptoSaid : Prop := aluComparesUptoRow.holds Tryd.pinned (OpenSpec.upto aluComparesSpec)

/-- 'sundiallaw13.AluShifts', WHERE WHAT IT READS IS OF BULK AT MOST 1048576: true; the input reads as it did. -/
def aluShiftsUptoRow : OpenClaim := { program := "ytjcnpofhdfpohaadoor", sum := "ab9a6d03de83a46fc715b4ff34bdd710d366287e04c8ba898bd58db6046cb988", func := "sundial/sundiallaw13.AluShifts", spec := "aluShifts", inPlace := ["math/bits.Sub64"], unfollowed := true, recurses := true, named := ["sundial/bits.masks", "math/bits.divideError", "math/bits.overflowError"], apart := false, laid := [("sundial/bits.masks", laid_sundial_bits_masks)], narrowed := true }
def AluShiftsUptoSaid : Prop := aluShiftsUptoRow.holds Tryd.pinned (OpenSpec.upto aluShiftsSpec)

/-- 'sundiallaw13.AluSigned', WHERE WHAT IT READS IS OF BULK AT MOST 1048576: true; the input reads as it did. -/
def aluSignedUptoRow : OpenClaim := { program := "ytjcnpofhdfpohaadoor", sum := "ab9a6d03de83a46fc715b4ff34bdd710d366287e04c8ba898bd58db6046cb988", func := "sundial/sundiallaw13.AluSigned", spec := "aluSigned", inPlace := ["math/bits.Sub64"], unfollowed := true, recurses := true, named := ["sundial/bits.masks", "math/bits.divideError", "math/bits.overflowError"], apart := false, laid := [("sundial/bits.masks", laid_sundial_bits_masks)], narrowed := true }
def AluSignedUptoSaid : Prop := aluSignedUptoRow.holds Tryd.pinned (OpenSpec.upto aluSignedSpec)

/-- 'sundiallaw13.AluTells', WHERE WHAT IT READS IS OF BULK AT MOST 1048576: true; the input reads as it did. -/
def aluTellsUptoRow : OpenClaim := { program := "ytjcnpofhdfpohaadoor", sum := "ab9a6d03de83a46fc715b4ff34bdd710d366287e04c8ba898bd58db6046cb988", func := "sundial/sundiallaw13.AluTells", spec := "aluTells", inPlace := ["math/bits.Add64", "math/bits.Sub64"], unfollowed := true, recurses := true, named := ["sundial/bits.masks", "math/bits.divideError", "math/bits.overflowError"], apart := false, laid := [("sundial/bits.masks", laid_sundial_bits_masks)], narrowed := true }
def AluTellsUptoSaid : Prop := aluTellsUptoRow.holds Tryd.pinned (OpenSpec.upto aluTellsSpec)

end Rows
end Go.Proofs.YtjcnpofhdfpohaaDoor
