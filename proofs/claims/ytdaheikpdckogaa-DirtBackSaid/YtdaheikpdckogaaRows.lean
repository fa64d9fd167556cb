/-
  No cell of these rows narrows 'for every input' (looked for: loops, veiled, ifaces, maps, wideKeys, modest, calm, conditions, laid).
  DERIVED. THE GIVEN ROWS OF THIS SEAT. 4 by the template 'for every input the law returns true; each argument reads behind the call as it read before'; 0 by the template 'total and deterministic' (their statements: YtdaheikpdckogaaTotals.lean).
  GIVEN WITH THE SEED: the statements are not yours to turn. If you find one false, say at which input.
  Laid BY PROGRAM, IN A SANDBOX (cutbox-rows.mjs): the forced cells as the released guide's own fill.sh prints them over the translation 0a3428f67affcc2c… (all of the seat's roots in one cut). By AI agents, Wed Nov 11 2026. No macro, syntax, notation, axiom, sorry.
-/
import Derived.Test.YtdaheikpdckogaaChecked
import GoSem.Claim
import GoSem.ClaimJoined
import GoSem.ClaimMapViews
import Derived.JoinedTies
import Derived.KernelRfl
namespace Go.Proofs.Ytdaheikpdckogaa
/- THE CELL 'sum', in the pinned program and in every row, IS THE sha256 OF THE DUMP (.gsa) THAT YtdaheikpdckogaaProg.lean LOADS. Nothing in Lean hashes anything: it is a label: what it is worth is what the hold of that sum in a sandbox is worth. -/
noncomputable def Try.pinned : Pinned := { name := "ytdaheikpdckogaa", sum := "0a3428f67affcc2c2469e8f3080b4557dbdafc209fcfbef9074114d79b50a8a0", checked := Try.checked }
namespace Rows
def none {H : Type} : Left H := { results := [], args := [] }

/-- 'sundiallaw23.DirtHas': WHATEVER THE INPUT: true; the input reads as it did. -/
def dirtHasSpec : ChangeSpec := { name := "dirtHas", fn := fun _ => fun
  | [d1, d2, d3, d4] => { results := [.lit (.bool true)], args := [d1, d2, d3, d4] }
  | _ => none }
def dirtHasRow : OpenClaim := { program := "ytdaheikpdckogaa", sum := "0a3428f67affcc2c2469e8f3080b4557dbdafc209fcfbef9074114d79b50a8a0", func := "sundial/sundiallaw23.DirtHas", spec := "dirtHas", unfollowed := true, recurses := true, apart := false }
def DirtHasSaid : Prop := dirtHasRow.holds Try.pinned (OpenSpec.ofChange dirtHasSpec)

/-- ITS FALSE NEIGHBOUR: 'it returns false'. Refute it at one input. -/
def dirtHasWrong : ChangeSpec := { name := "dirtHas", fn := fun _ => fun
  | [d1, d2, d3, d4] => { results := [.lit (.bool false)], args := [d1, d2, d3, d4] }
  | _ => none }
def DirtHasWrongFalsely : Prop := dirtHasRow.holds Try.pinned (OpenSpec.ofChange dirtHasWrong)

/-- 'sundiallaw23.DirtTells': WHATEVER THE INPUT: true; the input reads as it did. -/
def dirtTellsSpec : ChangeSpec := { name := "dirtTells", fn := fun _ => fun
  | [d1, d2, d3, d4] => { results := [.lit (.bool true)], args := [d1, d2, d3, d4] }
  | _ => none }
def dirtTellsRow : OpenClaim := { program := "ytdaheikpdckogaa", sum := "0a3428f67affcc2c2469e8f3080b4557dbdafc209fcfbef9074114d79b50a8a0", func := "sundial/sundiallaw23.DirtTells", spec := "dirtTells", unfollowed := true, recurses := true, apart := false }
def DirtTellsSaid : Prop := dirtTellsRow.holds Try.pinned (OpenSpec.ofChange dirtTellsSpec)

/-- ITS FALSE NEIGHBOUR: 'it returns false'. Refute it at one input. -/
def dirtTellsWrong : ChangeSpec := { name := "dirtTells", fn := fun _ => fun
  | [d1, d2, d3, d4] => { results := [.lit (.bool false)], args := [d1, d2, d3, d4] }
  | _ => none }
def DirtTellsWrongFalsely : Prop := dirtTellsRow.holds Try.pinned (OpenSpec.ofChange dirtTellsWrong)

/-- 'sundiallaw23.DirtOne': WHATEVER THE INPUT: true; the input reads as it did. -/
def dirtOneSpec : ChangeSpec := { name := "dirtOne", fn := fun _ => fun
  | [d1, d2, d3] => { results := [.lit (.bool true)], args := [d1, d2, d3] }
  | _ => none }
def dirtOneRow : OpenClaim := { program := "ytdaheikpdckogaa", sum := "0a3428f67affcc2c2469e8f3080b4557dbdafc209fcfbef9074114d79b50a8a0", func := "sundial/sundiallaw23.DirtOne", spec := "dirtOne", unfollowed := true, recurses := true, apart := false }
def DirtOneSaid : Prop := dirtOneRow.holds Try.pinned (OpenSpec.ofChange dirtOneSpec)

/-- ITS FALSE NEIGHBOUR: 'it returns false'. Refute it at one input. -/
def dirtOneWrong : ChangeSpec := { name := "dirtOne", fn := fun _ => fun
  | [d1, d2, d3] => { results := [.lit (.bool false)], args := [d1, d2, d3] }
  | _ => none }
def DirtOneWrongFalsely : Prop := dirtOneRow.holds Try.pinned (OpenSpec.ofChange dirtOneWrong)

/-- 'sundiallaw23.DirtBack': WHATEVER THE INPUT: true; the input reads as it did. -/
def dirtBackSpec : ChangeSpec := { name := "dirtBack", fn := fun _ => fun
  | [d1, d2] => { results := [.lit (.bool true)], args := [d1, d2] }
  | _ => none }
def dirtBackRow : OpenClaim := { program := "ytdaheikpdckogaa", sum := "0a3428f67affcc2c2469e8f3080b4557dbdafc209fcfbef9074114d79b50a8a0", func := "sundial/sundiallaw23.DirtBack", spec := "dirtBack", unfollowed := true, recurses := true, apart := false }
def DirtBackSaid : Prop := dirtBackRow.holds Try.pinned (OpenSpec.ofChange dirtBackSpec)

/-- ITS FALSE NEIGHBOUR: 'it returns false'. Refute it at one input. -/
def dirtBackWrong : ChangeSpec := { name := "dirtBack", fn := fun _ => fun
  | [d1, d2] => { results := [.lit (.bool false)], args := [d1, d2] }
  | _ => none }
def DirtBackWrongFalsely : Prop := dirtBackRow.holds Try.pinned (OpenSpec.ofChange dirtBackWrong)

/- THE SECOND FORM. 'bulk': how many values and letters a reading holds, each counted each time it is reached (what is shared counts as often as it is met; a slice's spare places count too). A statement '..UptoSaid' is the law's where the arguments, and the package variables that the reading takes, are together of bulk at most 1048576: NARROWER than '..Said'. Prove '..Said' where nothing that the law and all that it calls make is longer than what came in: it says more and counts as full. Else prove '..UptoSaid'. A law counts once. -/
mutual
def uptoBulk {H : Type} : DataW H → Nat
  | .lit (.string bytes) => bytes.length + 1
  | .lit _ => 1
  | .nil => 1
  | .ptr d => uptoBulk d + 1
  | .slice elems spare => uptoBulkAll elems + uptoBulkAll spare + 1
  | .agg parts => uptoBulkAll parts + 1
  | .iface _ d => uptoBulk d + 1
  | .map entries => uptoBulkEntries entries + 1
  | .held _ => 1
def uptoBulkAll {H : Type} : List (DataW H) → Nat
  | [] => 0
  | d :: r => uptoBulk d + uptoBulkAll r
def uptoBulkEntries {H : Type} : List (Lit × DataW H) → Nat
  | [] => 0
  | x :: r => uptoBulkEntry x + uptoBulkEntries r
def uptoBulkEntry {H : Type} : Lit × DataW H → Nat
  | (.string bytes, d) => bytes.length + uptoBulk d + 1
  | (_, d) => uptoBulk d + 1
 end
def uptoSmall : (H : Type) → List (DataW H) → Bool := fun _ ds => decide (uptoBulkAll ds ≤ 1048576)
def OpenSpec.upto (s : _root_.Go.ChangeSpec) : _root_.Go.OpenSpec := { _root_.Go.OpenSpec.ofChange s with cond := some uptoSmall }

/-- 'sundiallaw23.DirtHas', WHERE WHAT IT READS IS OF BULK AT MOST 1048576: true; the input reads as it did. -/
def dirtHasUptoRow : OpenClaim := { program := "ytdaheikpdckogaa", sum := "0a3428f67affcc2c2469e8f3080b4557dbdafc209fcfbef9074114d79b50a8a0", func := "sundial/sundiallaw23.DirtHas", spec := "dirtHas", unfollowed := true, recurses := true, apart := false, narrowed := true }
def DirtHasUptoSaid : Prop := dirtHasUptoRow.holds Try.pinned (OpenSpec.upto dirtHasSpec)

/-- 'sundiallaw23.DirtTells', WHERE WHAT IT READS IS OF BULK AT MOST 1048576: true; the input reads as it did. -/
def dirtTellsUptoRow : OpenClaim := { program := "ytdaheikpdckogaa", sum := "0a3428f67affcc2c2469e8f3080b4557dbdafc209fcfbef9074114d79b50a8a0", func := "sundial/sundiallaw23.DirtTells", spec := "dirtTells", unfollowed := true, recurses := true, apart := false, narrowed := true }
def DirtTellsUptoSaid : Prop := dirtTellsUptoRow.holds Try.pinned (OpenSpec.upto dirtTellsSpec)

/-- 'sundiallaw23.DirtOne', WHERE WHAT IT READS IS OF BULK AT MOST 1048576: true; the input reads as it did. -/
def dirtOneUptoRow : OpenClaim := { program := "ytdaheikpdckogaa", sum := "0a3428f67affcc2c2469e8f3080b4557dbdafc209fcfbef9074114d79b50a8a0", func := "sundial/sundiallaw23.DirtOne", spec := "dirtOne", unfollowed := true, recurses := true, apart := false, narrowed := true }
def DirtOneUptoSaid : Prop := dirtOneUptoRow.holds Try.pinned (OpenSpec.upto dirtOneSpec)

/-- 'sundiallaw23.DirtBack', WHERE WHAT IT READS IS OF BULK AT MOST 1048576: true; the input reads as it did. -/
def dirtBackUptoRow : OpenClaim := { program := "ytdaheikpdckogaa", sum := "0a3428f67affcc2c2469e8f3080b4557dbdafc209fcfbef9074114d79b50a8a0", func := "sundial/sundiallaw23.DirtBack", spec := "dirtBack", unfollowed := true, recurses := true, apart := false, narrowed := true }
def DirtBackUptoSaid : Prop := dirtBackUptoRow.holds Try.pinned (OpenSpec.upto dirtBackSpec)

end Rows
end Go.Proofs.Ytdaheikpdckogaa
