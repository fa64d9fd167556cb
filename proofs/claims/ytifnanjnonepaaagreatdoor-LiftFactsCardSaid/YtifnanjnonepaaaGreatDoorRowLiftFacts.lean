/- The law LiftFacts of this seat holds for every input that its row lets in (package-level variables that it lists as the program lays them). Conditions: none beyond the row. -/
import Derived.Test.YtifnanjnonepaaaGreatDoorFns4
import Derived.Test.YtifnanjnonepaaaGreatDoorRows
import Derived.Test.YtifnanjnonepaaaGreatDoorCards
import Derived.Test.YtifnanjnonepaaaGreatDoorTie
import Derived.WalkKit
import Derived.ProofKit
import Derived.OpenShut
import Derived.Lay
import Derived.LaidOnce
import Derived.Shelf.Lay
import Derived.MakeChecks
import Derived.SevenTiedAt
set_option maxRecDepth 100000
set_option linter.unusedVariables false
set_option linter.unusedSimpArgs false
set_option linter.unusedSectionVars false
section
namespace Go.Proofs.YtifnanjnonepaaaGreatDoor.liftFacts
open Go.ChangeShapes Go.WideShapes Go.ChangeAt Go.RowKit Go.bz
theorem own : ownKnob Tryz.prog.godebug = none := by kernel_rfl
abbrev laid : List (String × DataW Unit) := Rows.liftFactsRow.laid
theorem laidOut : Go.laidOutB Tryz.prog = true := by kernel_rfl
set_option maxRecDepth 100000 in
theorem lifted (os : Os) (started : os.Started) (H : Type) (enc : TypeId × Value → H) :
    ReturnsInHanded {} Tryz.checked os 4 .any (fun w args => (Rows.liftFactsSpec.pre enc Tryz.prog Tryz.f4 [] false w args ∧ laidMetH Tryz.prog laid w) ∧ sizedMet enc Tryz.prog Tryz.f4 (OpenSpec.ofChange Rows.liftFactsSpec) false w args)
      (Rows.liftFactsSpec.post enc Tryz.prog Tryz.f4 false true false false) := by
  refine returnsInHanded_of_change_and (C := Tryz.checked) (X := fun w _ => laidMetH Tryz.prog laid w) (fun _ _ _ hh h => h.of_heap hh) own started (by kernel_rfl) Tryz.func4
    (ChangeSpec.witness_shaped (enc := enc) (C := Tryz.checked) (os := os) (X := fun w _ => laidMetH Tryz.prog laid w) false (World.laidAll Tryz.prog os laid) #[.agg #[.int .u8 0, .int .u8 0, .int .i64 0, .int .u8 0, .int .i64 0, .int .i64 0, .int .i64 0, .int .i64 0, .int .i64 0, .bool false, .int .i64 0, .int .u8 0, .int .i64 0, .int .i64 0, .int .i64 0, .int .i64 0, .int .i64 0, .bool false, .int .i64 0, .int .u8 0, .int .i64 0], .int .u64 0] 8 (World.laidAll_os _ _ _)
      (World.shaped_of_ZipB (by kernel_rfl) (by kernel_rfl)) (by kernel_rfl) (by kernel_rfl) (by kernel_rfl)
      (by rw [MakeChecks.laidMetH_plain _ _ _ (by kernel_rfl)]; exact laidMet_laidAll _ (by kernel_rfl) (by kernel_rfl))) ?_
  intro W base args ds gs before hval0 hW _ _ hL _
  have hW' := hW
  obtain ⟨p, q, hA0, hV, rfl, _, _⟩ := hW
  have hA : DataW.TrodAll enc Tryz.prog W 0 (fun _ => true) true Tryz.f4.params.toList args.toList ds p := hA0
  obtain ⟨rfl, rfl⟩ := trodVars_none hV
  have hval : ∀ (j : Nat) t v, Tryz.f4.params.toList[j]? = some t → args.toList[j]? = some v → Value.okWide Tryz.prog W .any base t v := fun j t v e1 e2 => hval0 j t v (by simpa using e1) (by simpa using e2)
  obtain ⟨x, hx, wx⟩ := HM (ι := ⟨W, nb W, ⟨[]⟩⟩) (fun _ _ => rfl) (.st (.st (.int .u8) (.st (.int .u8) (.st (.int .i64) (.st (.st (.int .u8) (.st (.int .i64) (.st (.int .i64) (.st (.int .i64) (.st (.int .i64) (.st (.int .i64) (.st .bool (.bu (.int .i64))))))))) (.st (.st (.int .u8) (.st (.int .i64) (.st (.int .i64) (.st (.int .i64) (.st (.int .i64) (.st (.int .i64) (.st .bool (.bu (.int .i64))))))))) (.st (.int .u8) (.bu (.int .i64)))))))) (.bu (.int .u64))) Tryz.f4.params.toList args.toList ds p (by kernel_rfl) hval hA
  have hl0 : ds.length = 2 := (rS _ _ _ _ hA).trans (by kernel_rfl)
  obtain ⟨d0, ds0, rfl, hl1⟩ := Kq hl0
  obtain ⟨d1, ds1, rfl, hl2⟩ := Kq hl1
  obtain rfl := SX hl2
  rw [MakeChecks.laidMetH_plain _ _ _ (by kernel_rfl)] at hL
  have hg : dc RL.aA ⟨W, nb W, ⟨[]⟩⟩ := RL.JH (show laidMet _ _ _ from hL)
  have hpl := RM.Gb x wx
  have hw := Mc (RL.valid _ _ _ _) (f := 4) (fn := Tryz.f4) (c := ag Tryz.f4) (by kernel_rfl) (by kernel_rfl) RL.YM hg (x := x) hpl.1 hx (by
    change sA .bool (RL.XF x) = _
    rw [hpl.2]; rfl)
  simp only [Array.toArray_toList] at hw
  refine hw.mono fun e W' ⟨he, hb⟩ => ?_
  subst he
  exact ⟨_, rfl, _, _, _, [], p, [], hW', (trodAll_cons_mk (shut_bool Tryz.underlying4 _) trodAll_mk0), nL laidOut hb _ _ _ _ (by kernel_rfl) hA, rfl, hb.frame _, fun h => by cases h⟩
theorem over : Rows.LiftFactsSaid :=
  OpenClaim.holds_of_wide 4 Tryz.f4 rfl rfl rfl rfl rfl rfl rfl ⟨rfl, rfl, rfl, rfl, rfl⟩ rfl rfl rfl rfl rfl (by kernel_rfl) Tryz.func4 (by kernel_rfl)
    (of_decide_eq_true (by kernel_rfl)) (by unfold Func.isWrapper; first | (rw [if_pos (by decide +kernel)]; kernel_rfl) | (rw [if_neg (by decide +kernel)]; exact ⟨rfl, rfl⟩))
    (fun os started H enc _ => lifted os started H enc)
set_option maxRecDepth 100000 in
theorem proved : Rows.LiftFactsCardSaid :=
  Claim7.holds_tied_plain_at .later [] [.data, .data, .data, .data, .data] true (true, "3756f20f39523ea7192bb36d52c783f51885864e98924abeb7c58d541a7ff4e4") false over (fun _ h => by cases h) (by kernel_rfl) (fun _ h => by cases h) liftFacts_row_tie rfl ⟨rfl, rfl⟩ (by kernel_rfl) rfl
    (fun f fn hf hfn => by
      obtain rfl : f = 4 := Option.some.inj ((show Tryz.prog.funcNamed "sundial/sundiallaw21.LiftFacts" = some 4 by kernel_rfl).symm.trans hf) |>.symm
      obtain rfl : fn = Tryz.f4 := (Option.some.inj (Tryz.func4.symm.trans hfn)).symm
      exact ⟨by kernel_rfl, fun j t ht => by
        rw [Tryz.params4] at ht
        have hm : t ∈ [25, 26] := by simpa using Array.mem_of_getElem? ht
        have hall : ([25, 26].all fun u => !Tryz.prog.wantsStandIn u) = true := by kernel_rfl
        exact (show Tryz.prog.wantsStandIn t = false by simpa using List.all_eq_true.1 hall t hm)⟩)
    (by kernel_rfl)
end Go.Proofs.YtifnanjnonepaaaGreatDoor.liftFacts
end
