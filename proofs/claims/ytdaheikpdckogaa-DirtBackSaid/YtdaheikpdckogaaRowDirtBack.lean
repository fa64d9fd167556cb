/- The law DirtBack of this seat holds for every input that its row lets in (package-level variables that it lists as the program lays them). Conditions: none beyond the row. -/
import Derived.Test.YtdaheikpdckogaaFns0
import Derived.Test.YtdaheikpdckogaaRows
import Derived.WalkKit
import Derived.ProofKit
import Derived.OpenShut
import Derived.Lay
import Derived.MakeChecks
set_option linter.unusedVariables false
set_option linter.unusedSimpArgs false
set_option linter.unusedSectionVars false
section
/- The row of DirtBack: whatever the input, it returns true. -/
namespace Go.Proofs.Ytdaheikpdckogaa.dirtBack
open Go.ChangeShapes Go.WideShapes Go.ChangeAt Go.RowKit Go.Eng
theorem own : ownKnob Try.prog.godebug = none := by kernel_rfl
theorem laidOut : Go.laidOutB Try.prog = true := by kernel_rfl
set_option maxRecDepth 100000 in
theorem lifted (os : Os) (started : os.Started) (H : Type) (enc : TypeId × Value → H) :
    ReturnsInHanded {} Try.checked os 6 .any (Rows.dirtBackSpec.pre6 enc Try.prog Try.f6 Rows.dirtBackRow.domain false)
      (Rows.dirtBackSpec.post enc Try.prog Try.f6 false true false false) := by
  refine returnsInHanded_of_change (C := Try.checked) own started (by kernel_rfl) Try.func6
    (ChangeSpec.witness6 (enc := enc) (C := Try.checked) false ⟨#[], #[.slice none 0 0, .agg #[.int .u64 0, .int .u64 0]], []⟩ 8 (by kernel_rfl) (by kernel_rfl) (by kernel_rfl) (by kernel_rfl)) ?_
  intro W base args ds gs before hval0 hW _ _
  have hW' := hW
  obtain ⟨p, q, hA0, hV, rfl, _, _⟩ := hW
  have hA : DataW.TrodAll enc Try.prog W 0 (fun _ => true) true Try.f6.params.toList args.toList ds p := hA0
  obtain ⟨rfl, rfl⟩ := trodVars_none hV
  have hval : ∀ (j : Nat) t v, Try.f6.params.toList[j]? = some t → args.toList[j]? = some v → Value.okWide Try.prog W .any base t v := fun j t v e1 e2 => hval0 j t v (by simpa using e1) (by simpa using e2)
  obtain ⟨x, hx, wx⟩ := args_ok (ι := ⟨W, protAll W, []⟩) (fun _ _ => rfl) (.st (.slice (.st (.int .u64) (.st1 (.int .u64)))) (.st1 (.st (.int .u64) (.st1 (.int .u64))))) Try.f6.params.toList args.toList ds p (by kernel_rfl) hval hA
  have hl0 : ds.length = 2 := (trodAll_len _ _ _ _ hA).trans (by kernel_rfl)
  obtain ⟨d0, ds0, rfl, hl1⟩ := uncons hl0
  obtain ⟨d1, ds1, rfl, hl2⟩ := uncons hl1
  obtain rfl := unnil hl2
  have hg : GlobRep RT.env0 ⟨W, protAll W, []⟩ := fun g v e => by cases (show none = some v from e)
  have hpl := RT.back_law x wx
  have hw := law_walk (RT.valid _ _) (f := 6) (fn := Try.f6) (c := bodyOf Try.f6) (by kernel_rfl) (by kernel_rfl) RT.ok6 hg (x := x) hpl.1 hx (by
    change ofD .bool (RT.fn6 x) = _
    rw [hpl.2]; rfl)
  simp only [Array.toArray_toList] at hw
  refine hw.mono fun e W' ⟨he, hb⟩ => ?_
  subst he
  exact ⟨_, rfl, _, _, _, [], p, [], hW', (trodAll_cons_mk (shut_bool Try.underlying4 _) trodAll_mk0), trodAll_stays laidOut hb _ _ _ _ (by kernel_rfl) hA, rfl, hb.frame _, fun h => by cases h⟩

theorem over : Rows.DirtBackSaid :=
  OpenClaim.holds_of_wide 6 Try.f6 rfl rfl rfl rfl rfl rfl rfl ⟨rfl, rfl, rfl, rfl, rfl⟩ rfl rfl rfl rfl rfl (by kernel_rfl) Try.func6 (by kernel_rfl)
    (of_decide_eq_true (by kernel_rfl)) (by unfold Func.isWrapper; first | (rw [if_pos (by decide +kernel)]; kernel_rfl) | (rw [if_neg (by decide +kernel)]; exact ⟨rfl, rfl⟩))
    (fun os started H enc _ => lifted os started H enc)

theorem proved : Rows.DirtBackSaid := over
end Go.Proofs.Ytdaheikpdckogaa.dirtBack
end
