/-
  NARROWER THAN 'FOR EVERY INPUT', by the rows' own cells (each row's printed sentence says how): CodesTells: laid · CodesOne: laid · CodesEach: laid · CodesBytes: laid · CodesPrefix: laid.
  DERIVED. THE GIVEN ROWS OF THIS SEAT. 5 by the template 'for every input the law returns true; each argument reads behind the call as it read before'; 0 by the template 'total and deterministic' (their statements: YtmjebcaakmdgkaaDoorTotals.lean).
  GIVEN WITH THE SEED: the statements are not yours to turn. If you find one false, say at which input.
  Laid BY PROGRAM, IN A SANDBOX (cutbox-rows.mjs): the forced cells as the released guide's own fill.sh prints them over the translation 7bf761676449a621… (all of the seat's roots in one cut). By AI agents, Wed Nov 11 2026. No macro, syntax, notation, axiom, sorry.
-/
import Derived.Test.YtmjebcaakmdgkaaDoorChecked
import GoSem.Claim
import GoSem.ClaimJoined
import GoSem.ClaimMapViews
import Derived.JoinedTies
import Derived.KernelRfl
namespace Go.Proofs.YtmjebcaakmdgkaaDoor
/- THE CELL 'sum', in the pinned program and in every row, IS THE sha256 OF THE DUMP (.gsa) THAT YtmjebcaakmdgkaaDoorProg.lean LOADS. Nothing in Lean hashes anything: it is a label: what it is worth is what the hold of that sum in a sandbox is worth. -/
noncomputable def Tryd.pinned : Pinned := { name := "ytmjebcaakmdgkaadoor", sum := "7bf761676449a621eaca8b5667713b8bc477de92a1fe7a004931cf4ccd789992", checked := Tryd.checked }
namespace Rows
def none {H : Type} : Left H := { results := [], args := [] }

/- WHAT THE LISTED PACKAGE-LEVEL VARIABLES READ AS WHEN THE CALL BEGINS. Each datum BY PROGRAM (the guide's laid-datum.mjs) off the statement by which the dump's own 'gosem.cut.vars' lays the variable. In a bare row this is a premise. The card (YtmjebcaakmdgkaaDoorCards.lean) ties it to the program's text. -/
def laid_sundial_codes_deeds {H : Type} : DataW H := .agg [.lit (.int .u8 3), .lit (.int .u8 4), .lit (.int .u8 5), .lit (.int .u8 6), .lit (.int .u8 7), .lit (.int .u8 8), .lit (.int .u8 9), .lit (.int .u8 10)]

/-- 'sundiallaw07.CodesTells': WHATEVER THE INPUT: true; the input reads as it did. -/
def codesTellsSpec : ChangeSpec := { name := "codesTells", fn := fun _ => fun
  | [d1, d2, d3, d4, d5] => { results := [.lit (.bool true)], args := [d1, d2, d3, d4, d5] }
  | _ => none }
def codesTellsRow : OpenClaim := { program := "ytmjebcaakmdgkaadoor", sum := "7bf761676449a621eaca8b5667713b8bc477de92a1fe7a004931cf4ccd789992", func := "sundial/sundiallaw07.CodesTells", spec := "codesTells", inPlace := ["slices.overlaps[sundial/api.Form]"], unfollowed := true, recurses := true, named := ["sundial/codes.deeds"], apart := false, laid := [("sundial/codes.deeds", laid_sundial_codes_deeds)] }
def CodesTellsSaid : Prop := codesTellsRow.holds Tryd.pinned (OpenSpec.ofChange codesTellsSpec)

/-- ITS FALSE NEIGHBOUR: 'it returns false'. Refute it at one input. -/
def codesTellsWrong : ChangeSpec := { name := "codesTells", fn := fun _ => fun
  | [d1, d2, d3, d4, d5] => { results := [.lit (.bool false)], args := [d1, d2, d3, d4, d5] }
  | _ => none }
def CodesTellsWrongFalsely : Prop := codesTellsRow.holds Tryd.pinned (OpenSpec.ofChange codesTellsWrong)

/-- 'sundiallaw07.CodesOne': WHATEVER THE INPUT: true; the input reads as it did. -/
def codesOneSpec : ChangeSpec := { name := "codesOne", fn := fun _ => fun
  | [d1, d2, d3, d4] => { results := [.lit (.bool true)], args := [d1, d2, d3, d4] }
  | _ => none }
def codesOneRow : OpenClaim := { program := "ytmjebcaakmdgkaadoor", sum := "7bf761676449a621eaca8b5667713b8bc477de92a1fe7a004931cf4ccd789992", func := "sundial/sundiallaw07.CodesOne", spec := "codesOne", inPlace := ["slices.overlaps[sundial/api.Form]"], unfollowed := true, recurses := true, named := ["sundial/codes.deeds"], apart := false, laid := [("sundial/codes.deeds", laid_sundial_codes_deeds)] }
def CodesOneSaid : Prop := codesOneRow.holds Tryd.pinned (OpenSpec.ofChange codesOneSpec)

/-- ITS FALSE NEIGHBOUR: 'it returns false'. Refute it at one input. -/
def codesOneWrong : ChangeSpec := { name := "codesOne", fn := fun _ => fun
  | [d1, d2, d3, d4] => { results := [.lit (.bool false)], args := [d1, d2, d3, d4] }
  | _ => none }
def CodesOneWrongFalsely : Prop := codesOneRow.holds Tryd.pinned (OpenSpec.ofChange codesOneWrong)

/-- 'sundiallaw07.CodesEach': WHATEVER THE INPUT: true; the input reads as it did. -/
def codesEachSpec : ChangeSpec := { name := "codesEach", fn := fun _ => fun
  | [d1, d2] => { results := [.lit (.bool true)], args := [d1, d2] }
  | _ => none }
def codesEachRow : OpenClaim := { program := "ytmjebcaakmdgkaadoor", sum := "7bf761676449a621eaca8b5667713b8bc477de92a1fe7a004931cf4ccd789992", func := "sundial/sundiallaw07.CodesEach", spec := "codesEach", inPlace := ["slices.overlaps[sundial/api.Form]"], unfollowed := true, recurses := true, named := ["sundial/codes.deeds"], apart := false, laid := [("sundial/codes.deeds", laid_sundial_codes_deeds)] }
def CodesEachSaid : Prop := codesEachRow.holds Tryd.pinned (OpenSpec.ofChange codesEachSpec)

/-- ITS FALSE NEIGHBOUR: 'it returns false'. Refute it at one input. -/
def codesEachWrong : ChangeSpec := { name := "codesEach", fn := fun _ => fun
  | [d1, d2] => { results := [.lit (.bool false)], args := [d1, d2] }
  | _ => none }
def CodesEachWrongFalsely : Prop := codesEachRow.holds Tryd.pinned (OpenSpec.ofChange codesEachWrong)

/-- 'sundiallaw07.CodesBytes': WHATEVER THE INPUT: true; the input reads as it did. -/
def codesBytesSpec : ChangeSpec := { name := "codesBytes", fn := fun _ => fun
  | [d] => { results := [.lit (.bool true)], args := [d] }
  | _ => none }
def codesBytesRow : OpenClaim := { program := "ytmjebcaakmdgkaadoor", sum := "7bf761676449a621eaca8b5667713b8bc477de92a1fe7a004931cf4ccd789992", func := "sundial/sundiallaw07.CodesBytes", spec := "codesBytes", inPlace := ["slices.overlaps[sundial/api.Form]"], unfollowed := true, recurses := true, named := ["sundial/codes.deeds"], apart := false, laid := [("sundial/codes.deeds", laid_sundial_codes_deeds)] }
def CodesBytesSaid : Prop := codesBytesRow.holds Tryd.pinned (OpenSpec.ofChange codesBytesSpec)

/-- ITS FALSE NEIGHBOUR: 'it returns false'. Refute it at one input. -/
def codesBytesWrong : ChangeSpec := { name := "codesBytes", fn := fun _ => fun
  | [d] => { results := [.lit (.bool false)], args := [d] }
  | _ => none }
def CodesBytesWrongFalsely : Prop := codesBytesRow.holds Tryd.pinned (OpenSpec.ofChange codesBytesWrong)

/-- 'sundiallaw07.CodesPrefix': WHATEVER THE INPUT: true; the input reads as it did. -/
def codesPrefixSpec : ChangeSpec := { name := "codesPrefix", fn := fun _ => fun
  | [d1, d2, d3, d4] => { results := [.lit (.bool true)], args := [d1, d2, d3, d4] }
  | _ => none }
def codesPrefixRow : OpenClaim := { program := "ytmjebcaakmdgkaadoor", sum := "7bf761676449a621eaca8b5667713b8bc477de92a1fe7a004931cf4ccd789992", func := "sundial/sundiallaw07.CodesPrefix", spec := "codesPrefix", inPlace := ["slices.overlaps[sundial/api.Form]"], unfollowed := true, recurses := true, named := ["sundial/codes.deeds"], apart := false, laid := [("sundial/codes.deeds", laid_sundial_codes_deeds)] }
def CodesPrefixSaid : Prop := codesPrefixRow.holds Tryd.pinned (OpenSpec.ofChange codesPrefixSpec)

/-- ITS FALSE NEIGHBOUR: 'it returns false'. Refute it at one input. -/
def codesPrefixWrong : ChangeSpec := { name := "codesPrefix", fn := fun _ => fun
  | [d1, d2, d3, d4] => { results := [.lit (.bool false)], args := [d1, d2, d3, d4] }
  | _ => none }
def CodesPrefixWrongFalsely : Prop := codesPrefixRow.holds Tryd.pinned (OpenSpec.ofChange codesPrefixWrong)

/- THE SECOND FORM. 'bulk': how many values and letters a reading holds, each counted each time it is reached (what is shared counts as often as it is met; a slice's spare places count too). A statement '..UptoSaid' is the law's where the arguments, and the package variables that the reading takes, are together of bulk at most 1048576: NARROWER than '..Said'. Prove '..Said' where nothing that the law and all that it calls make is longer than what came in: it says more and counts as full. Else prove '..UptoSaid'. A law counts once. -/
mutual
def uptoBulk {H : Type} : DataW H → Nat
  | .lit (.string bytes) => bytes.length + 1
  | .lit _ => 1
  | .nil => 1
  | .ptr d => uptoBulk d + 1
  | .slice elems spare => uptoBulkAll elems + uptoBulkAll spare + 1
  | .agg parts => uptoBulkAll parts + 1
  | .iface _ d => uptoBulk d + 1
  | .map entries => uptoBulkEntries entries + 1
  | .held _ => 1
def uptoBulkAll {H : Type} : List (DataW H) → Nat
  | [] => 0
  | d :: r => uptoBulk d + uptoBulkAll r
def uptoBulkEntries {H : Type} : List (Lit × DataW H) → Nat
  | [] => 0
  | x :: r => uptoBulkEntry x + uptoBulkEntries r
def uptoBulkEntry {H : Type} : Lit × DataW H → Nat
  | (.string bytes, d) => bytes.length + uptoBulk d + 1
  | (_, d) => uptoBulk d + 1
 end
def uptoSmall : (H : Type) → List (DataW H) → Bool := fun _ ds => decide (uptoBulkAll ds ≤ 1048576)
def OpenSpec.upto (s : _root_.Go.ChangeSpec) : _root_.Go.OpenSpec := { _root_.Go.OpenSpec.ofChange s with cond := some uptoSmall }

/-- 'sundiallaw07.CodesTells', WHERE WHAT IT READS IS OF BULK AT MOST 1048576: true; the input reads as it did. -/
def codesTellsUptoRow : OpenClaim := { program := "ytmjebcaakmdgkaadoor", sum := "7bf761676449a621eaca8b5667713b8bc477de92a1fe7a004931cf4ccd789992", func := "sundial/sundiallaw07.CodesTells", spec := "codesTells", inPlace := ["slices.overlaps[sundial/api.Form]"], unfollowed := true, recurses := true, named := ["sundial/codes.deeds"], apart := false, laid := [("sundial/codes.deeds", laid_sundial_codes_deeds)], narrowed := true }
def CodesTellsUptoSaid : Prop := codesTellsUptoRow.holds Tryd.pinned (OpenSpec.upto codesTellsSpec)

/-- 'sundiallaw07.CodesOne', WHERE WHAT IT READS IS OF BULK AT MOST 1048576: true; the input reads as it did. -/
def codesOneUptoRow : OpenClaim := { program := "ytmjebcaakmdgkaadoor", sum := "7bf761676449a621eaca8b5667713b8bc477de92a1fe7a004931cf4ccd789992", func := "sundial/sundiallaw07.CodesOne", spec := "codesOne", inPlace := ["slices.overlaps[sundial/api.Form]"], unfollowed := true, recurses := true, named := ["sundial/codes.deeds"], apart := false, laid := [("sundial/codes.deeds", laid_sundial_codes_deeds)], narrowed := true }
def CodesOneUptoSaid : Prop := codesOneUptoRow.holds Tryd.pinned (OpenSpec.upto codesOneSpec)

/-- 'sundiallaw07.CodesEach', WHERE WHAT IT READS IS OF BULK AT MOST 1048576: true; the input reads as it did. -/
def codesEachUptoRow : OpenClaim := { program := "ytmjebcaakmdgkaadoor", sum := "7bf761676449a621eaca8b5667713b8bc477de92a1fe7a004931cf4ccd789992", func := "sundial/sundiallaw07.CodesEach", spec := "codesEach", inPlace := ["slices.overlaps[sundial/api.Form]"], unfollowed := true, recurses := true, named := ["sundial/codes.deeds"], apart := false, laid := [("sundial/codes.deeds", laid_sundial_codes_deeds)], narrowed := true }
def CodesEachUptoSaid : Prop := codesEachUptoRow.holds Tryd.pinned (OpenSpec.upto codesEachSpec)

/-- 'sundiallaw07.CodesBytes', WHERE WHAT IT READS IS OF BULK AT MOST 1048576: true; the input reads as it did. -/
def codesBytesUptoRow : OpenClaim := { program := "ytmjebcaakmdgkaadoor", sum := "7bf761676449a621eaca8b5667713b8bc477de92a1fe7a004931cf4ccd789992", func := "sundial/sundiallaw07.CodesBytes", spec := "codesBytes", inPlace := ["slices.overlaps[sundial/api.Form]"], unfollowed := true, recurses := true, named := ["sundial/codes.deeds"], apart := false, laid := [("sundial/codes.deeds", laid_sundial_codes_deeds)], narrowed := true }
def CodesBytesUptoSaid : Prop := codesBytesUptoRow.holds Tryd.pinned (OpenSpec.upto codesBytesSpec)

/-- 'sundiallaw07.CodesPrefix', WHERE WHAT IT READS IS OF BULK AT MOST 1048576: true; the input reads as it did. -/
def codesPrefixUptoRow : OpenClaim := { program := "ytmjebcaakmdgkaadoor", sum := "7bf761676449a621eaca8b5667713b8bc477de92a1fe7a004931cf4ccd789992", func := "sundial/sundiallaw07.CodesPrefix", spec := "codesPrefix", inPlace := ["slices.overlaps[sundial/api.Form]"], unfollowed := true, recurses := true, named := ["sundial/codes.deeds"], apart := false, laid := [("sundial/codes.deeds", laid_sundial_codes_deeds)], narrowed := true }
def CodesPrefixUptoSaid : Prop := codesPrefixUptoRow.holds Tryd.pinned (OpenSpec.upto codesPrefixSpec)

end Rows
end Go.Proofs.YtmjebcaakmdgkaaDoor
