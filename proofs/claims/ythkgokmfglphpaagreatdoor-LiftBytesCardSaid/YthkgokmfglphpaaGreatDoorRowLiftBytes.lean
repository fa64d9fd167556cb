/- The law LiftBytes of this seat holds for every input that its row lets in (package-level variables that it lists as the program lays them). Conditions: none beyond the row. -/
import Derived.Test.YthkgokmfglphpaaGreatDoorFns3
import Derived.Test.YthkgokmfglphpaaGreatDoorRows
import Derived.Test.YthkgokmfglphpaaGreatDoorCards
import Derived.Test.YthkgokmfglphpaaGreatDoorTie
import Derived.WalkKit
import Derived.ProofKit
import Derived.OpenShut
import Derived.Lay
import Derived.LaidOnce
import Derived.Shelf.Lay
import Derived.MakeChecks
import Derived.SevenTiedAt
set_option maxRecDepth 100000
set_option linter.unusedVariables false
set_option linter.unusedSimpArgs false
set_option linter.unusedSectionVars false
section
namespace Go.Proofs.YthkgokmfglphpaaGreatDoor.liftBytes
open Go.ChangeShapes Go.WideShapes Go.ChangeAt Go.RowKit Go.aA
theorem own : ownKnob Tryz.prog.godebug = none := by kernel_rfl
abbrev laid : List (String × DataW Unit) := Rows.liftBytesRow.laid
theorem laidOut : Go.laidOutB Tryz.prog = true := by kernel_rfl
set_option maxRecDepth 100000 in
theorem lifted (os : Os) (started : os.Started) (H : Type) (enc : TypeId × Value → H) :
    ReturnsInHanded {} Tryz.checked os 3 .any (fun w args => (Rows.liftBytesSpec.pre enc Tryz.prog Tryz.f3 [] false w args ∧ laidMetH Tryz.prog laid w) ∧ sizedMet enc Tryz.prog Tryz.f3 (OpenSpec.ofChange Rows.liftBytesSpec) false w args)
      (Rows.liftBytesSpec.post enc Tryz.prog Tryz.f3 false true false false) := by
  refine returnsInHanded_of_change_and (C := Tryz.checked) (X := fun w _ => laidMetH Tryz.prog laid w) (fun _ _ _ hh h => h.of_heap hh) own started (by kernel_rfl) Tryz.func3
    (ChangeSpec.witness_shaped (enc := enc) (C := Tryz.checked) (os := os) (X := fun w _ => laidMetH Tryz.prog laid w) false (World.laidAll Tryz.prog os laid) #[.slice none 0 0, .int .u64 0] 8 (World.laidAll_os _ _ _)
      (World.shaped_of_ZipB (by kernel_rfl) (by kernel_rfl)) (by kernel_rfl) (by kernel_rfl) (by kernel_rfl)
      (by rw [MakeChecks.laidMetH_plain _ _ _ (by kernel_rfl)]; exact laidMet_laidAll _ (by kernel_rfl) (by kernel_rfl))) ?_
  intro W base args ds gs before hval0 hW _ _ hL _
  have hW' := hW
  obtain ⟨p, q, hA0, hV, rfl, _, _⟩ := hW
  have hA : DataW.TrodAll enc Tryz.prog W 0 (fun _ => true) true Tryz.f3.params.toList args.toList ds p := hA0
  obtain ⟨rfl, rfl⟩ := trodVars_none hV
  have hval : ∀ (j : Nat) t v, Tryz.f3.params.toList[j]? = some t → args.toList[j]? = some v → Value.okWide Tryz.prog W .any base t v := fun j t v e1 e2 => hval0 j t v (by simpa using e1) (by simpa using e2)
  obtain ⟨x, hx, wx⟩ := Ir (ι := ⟨W, oR W, ⟨[]⟩⟩) (fun _ _ => rfl) (.st (.slice (.int .u8)) (.a7 (.int .u64))) Tryz.f3.params.toList args.toList ds p (by kernel_rfl) hval hA
  have hl0 : ds.length = 2 := (sO _ _ _ _ hA).trans (by kernel_rfl)
  obtain ⟨d0, ds0, rfl, hl1⟩ := J9 hl0
  obtain ⟨d1, ds1, rfl, hl2⟩ := J9 hl1
  obtain rfl := VZ hl2
  rw [MakeChecks.laidMetH_plain _ _ _ (by kernel_rfl)] at hL
  have hg : cS RV.aT ⟨W, oR W, ⟨[]⟩⟩ := RV.Ji (show laidMet _ _ _ from hL)
  have hpl := S9.FI x wx
  have hw := Nv (RV.valid _ _ _ _) (f := 3) (fn := Tryz.f3) (c := ah Tryz.f3) (by kernel_rfl) (by kernel_rfl) RV.ok3 hg (x := x) hpl.1 hx (by
    change tN .bool (RV.fn3 x) = _
    rw [hpl.2]; rfl)
  simp only [Array.toArray_toList] at hw
  refine hw.mono fun e W' ⟨he, hb⟩ => ?_
  subst he
  exact ⟨_, rfl, _, _, _, [], p, [], hW', (trodAll_cons_mk (shut_bool Tryz.underlying4 _) trodAll_mk0), po laidOut hb _ _ _ _ (by kernel_rfl) hA, rfl, hb.frame _, fun h => by cases h⟩
theorem over : Rows.LiftBytesSaid :=
  OpenClaim.holds_of_wide 3 Tryz.f3 rfl rfl rfl rfl rfl rfl rfl ⟨rfl, rfl, rfl, rfl, rfl⟩ rfl rfl rfl rfl rfl (by kernel_rfl) Tryz.func3 (by kernel_rfl)
    (of_decide_eq_true (by kernel_rfl)) (by unfold Func.isWrapper; first | (rw [if_pos (by decide +kernel)]; kernel_rfl) | (rw [if_neg (by decide +kernel)]; exact ⟨rfl, rfl⟩))
    (fun os started H enc _ => lifted os started H enc)
set_option maxRecDepth 100000 in
theorem proved : Rows.LiftBytesCardSaid :=
  Claim7.holds_tied_plain_at .later [] [.data, .data, .data, .data, .data] true (true, "2376ee8a2affa8b32524d756725b0ed86859f7107cf27d42bcd4dc5c1a004a1e") false over (fun _ h => by cases h) (by kernel_rfl) (fun _ h => by cases h) liftBytes_row_tie rfl ⟨rfl, rfl⟩ (by kernel_rfl) rfl
    (fun f fn hf hfn => by
      obtain rfl : f = 3 := Option.some.inj ((show Tryz.prog.funcNamed "sundial/sundiallaw21.LiftBytes" = some 3 by kernel_rfl).symm.trans hf) |>.symm
      obtain rfl : fn = Tryz.f3 := (Option.some.inj (Tryz.func3.symm.trans hfn)).symm
      exact ⟨by kernel_rfl, fun j t ht => by
        rw [Tryz.params3] at ht
        have hm : t ∈ [22, 23] := by simpa using Array.mem_of_getElem? ht
        have hall : ([22, 23].all fun u => !Tryz.prog.wantsStandIn u) = true := by kernel_rfl
        exact (show Tryz.prog.wantsStandIn t = false by simpa using List.all_eq_true.1 hall t hm)⟩)
    (by kernel_rfl)
end Go.Proofs.YthkgokmfglphpaaGreatDoor.liftBytes
end
