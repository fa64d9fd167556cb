/-
  NARROWER THAN 'FOR EVERY INPUT', by the rows' own cells (each row's printed sentence says how): FactsStack: laid · FactsCond: laid.
  DERIVED. THE GIVEN ROWS OF THIS SEAT. 2 by the template 'for every input the law returns true; each argument reads behind the call as it read before'; 0 by the template 'total and deterministic' (their statements: YtohejjhnnghieaaDoorTotals.lean).
  GIVEN WITH THE SEED: the statements are not yours to turn. If you find one false, say at which input.
  Laid BY PROGRAM, IN A SANDBOX (cutbox-rows.mjs): the forced cells as the released guide's own fill.sh prints them over the translation d31bb7eff1af249e… (all of the seat's roots in one cut). By AI agents, Wed Nov 11 2026. No macro, syntax, notation, axiom, sorry.
-/
import Derived.Test.YtohejjhnnghieaaDoorChecked
import GoSem.Claim
import GoSem.ClaimJoined
import GoSem.ClaimMapViews
import Derived.JoinedTies
import Derived.KernelRfl
namespace Go.Proofs.YtohejjhnnghieaaDoor
/- THE CELL 'sum', in the pinned program and in every row, IS THE sha256 OF THE DUMP (.gsa) THAT YtohejjhnnghieaaDoorProg.lean LOADS. Nothing in Lean hashes anything: it is a label: what it is worth is what the hold of that sum in a sandbox is worth. -/
noncomputable def Tryd.pinned : Pinned := { name := "ytohejjhnnghieaadoor", sum := "d31bb7eff1af249e6bdf801ab7ae8525611ef4caf192388a73cd230825f33079", checked := Tryd.checked }
namespace Rows
def none {H : Type} : Left H := { results := [], args := [] }

/- WHAT THE LISTED PACKAGE-LEVEL VARIABLES READ AS WHEN THE CALL BEGINS. Each datum BY PROGRAM (the guide's laid-datum.mjs) off the statement by which the dump's own 'gosem.cut.vars' lays the variable. In a bare row this is a premise. The card (YtohejjhnnghieaaDoorCards.lean) ties it to the program's text. -/
def laid_sundial_facts_conds {H : Type} : DataW H := .agg [.lit (.int .u8 8), .lit (.int .u8 1), .lit (.int .u8 2), .lit (.int .u8 3), .lit (.int .u8 4), .lit (.int .u8 16), .lit (.int .u8 12), .lit (.int .u8 14)]
def laid_sundial_facts_ends {H : Type} : DataW H := .agg [.lit (.int .u8 26), .lit (.int .u8 27), .lit (.int .u8 28), .lit (.int .u8 29)]

/-- 'sundiallaw11.FactsStack': WHATEVER THE INPUT: true; the input reads as it did. -/
def factsStackSpec : ChangeSpec := { name := "factsStack", fn := fun _ => fun
  | [d] => { results := [.lit (.bool true)], args := [d] }
  | _ => none }
def factsStackRow : OpenClaim := { program := "ytohejjhnnghieaadoor", sum := "d31bb7eff1af249e6bdf801ab7ae8525611ef4caf192388a73cd230825f33079", func := "sundial/sundiallaw11.FactsStack", spec := "factsStack", unfollowed := true, recurses := true, named := ["sundial/facts.ends", "sundial/facts.conds"], apart := false, laid := [("sundial/facts.conds", laid_sundial_facts_conds), ("sundial/facts.ends", laid_sundial_facts_ends)] }
def FactsStackSaid : Prop := factsStackRow.holds Tryd.pinned (OpenSpec.ofChange factsStackSpec)

/-- ITS FALSE NEIGHBOUR: 'it returns false'. Refute it at one input. -/
def factsStackWrong : ChangeSpec := { name := "factsStack", fn := fun _ => fun
  | [d] => { results := [.lit (.bool false)], args := [d] }
  | _ => none }
def FactsStackWrongFalsely : Prop := factsStackRow.holds Tryd.pinned (OpenSpec.ofChange factsStackWrong)

/-- 'sundiallaw11.FactsCond': WHATEVER THE INPUT: true; the input reads as it did. -/
def factsCondSpec : ChangeSpec := { name := "factsCond", fn := fun _ => fun
  | [d1, d2, d3] => { results := [.lit (.bool true)], args := [d1, d2, d3] }
  | _ => none }
def factsCondRow : OpenClaim := { program := "ytohejjhnnghieaadoor", sum := "d31bb7eff1af249e6bdf801ab7ae8525611ef4caf192388a73cd230825f33079", func := "sundial/sundiallaw11.FactsCond", spec := "factsCond", unfollowed := true, recurses := true, named := ["sundial/facts.conds", "sundial/facts.ends"], apart := false, laid := [("sundial/facts.conds", laid_sundial_facts_conds), ("sundial/facts.ends", laid_sundial_facts_ends)] }
def FactsCondSaid : Prop := factsCondRow.holds Tryd.pinned (OpenSpec.ofChange factsCondSpec)

/-- ITS FALSE NEIGHBOUR: 'it returns false'. Refute it at one input. -/
def factsCondWrong : ChangeSpec := { name := "factsCond", fn := fun _ => fun
  | [d1, d2, d3] => { results := [.lit (.bool false)], args := [d1, d2, d3] }
  | _ => none }
def FactsCondWrongFalsely : Prop := factsCondRow.holds Tryd.pinned (OpenSpec.ofChange factsCondWrong)

/- THE SECOND FORM. 'bulk': how many values and letters a reading holds, each counted each time it is reached (what is shared counts as often as it is met; a slice's spare places count too). A statement '..UptoSaid' is the law's where the arguments, and the package variables that the reading takes, are together of bulk at most 1048576: NARROWER than '..Said'. Prove '..Said' where nothing that the law and all that it calls make is longer than what came in: it says more and counts as full. Else prove '..UptoSaid'. A law counts once. -/
mutual
def uptoBulk {H : Type} : DataW H → Nat
  | .lit (.string bytes) => bytes.length + 1
  | .lit _ => 1
  | .nil => 1
  | .ptr d => uptoBulk d + 1
  | .slice elems spare => uptoBulkAll elems + uptoBulkAll spare + 1
  | .agg parts => uptoBulkAll parts + 1
  | .iface _ d => uptoBulk d + 1
  | .map entries => uptoBulkEntries entries + 1
  | .held _ => 1
def uptoBulkAll {H : Type} : List (DataW H) → Nat
  | [] => 0
  | d :: r => uptoBulk d + uptoBulkAll r
def uptoBulkEntries {H : Type} : List (Lit × DataW H) → Nat
  | [] => 0
  | x :: r => uptoBulkEntry x + uptoBulkEntries r
def uptoBulkEntry {H : Type} : Lit × DataW H → Nat
  | (.string bytes, d) => bytes.length + uptoBulk d + 1
  | (_, d) => uptoBulk d + 1
 end
def uptoSmall : (H : Type) → List (DataW H) → Bool := fun _ ds => decide (uptoBulkAll ds ≤ 1048576)
def OpenSpec.upto (s : _root_.Go.ChangeSpec) : _root_.Go.OpenSpec := { _root_.Go.OpenSpec.ofChange s with cond := some uptoSmall }

/-- 'sundiallaw11.FactsStack', WHERE WHAT IT READS IS OF BULK AT MOST 1048576: true; the input reads as it did. -/
def factsStackUptoRow : OpenClaim := { program := "ytohejjhnnghieaadoor", sum := "d31bb7eff1af249e6bdf801ab7ae8525611ef4caf192388a73cd230825f33079", func := "sundial/sundiallaw11.FactsStack", spec := "factsStack", unfollowed := true, recurses := true, named := ["sundial/facts.ends", "sundial/facts.conds"], apart := false, laid := [("sundial/facts.conds", laid_sundial_facts_conds), ("sundial/facts.ends", laid_sundial_facts_ends)], narrowed := true }
def FactsStackUptoSaid : Prop := factsStackUptoRow.holds Tryd.pinned (OpenSpec.upto factsStackSpec)

/-- 'sundiallaw11.FactsCond', WHERE WHAT IT READS IS OF BULK AT MOST 1048576: true; the input reads as it did. -/
def factsCondUptoRow : OpenClaim := { program := "ytohejjhnnghieaadoor", sum := "d31bb7eff1af249e6bdf801ab7ae8525611ef4caf192388a73cd230825f33079", func := "sundial/sundiallaw11.FactsCond", spec := "factsCond", unfollowed := true, recurses := true, named := ["sundial/facts.conds", "sundial/facts.ends"], apart := false, laid := [("sundial/facts.conds", laid_sundial_facts_conds), ("sundial/facts.ends", laid_sundial_facts_ends)], narrowed := true }
def FactsCondUptoSaid : Prop := factsCondUptoRow.holds Tryd.pinned (OpenSpec.upto factsCondSpec)

end Rows
end Go.Proofs.YtohejjhnnghieaaDoor
