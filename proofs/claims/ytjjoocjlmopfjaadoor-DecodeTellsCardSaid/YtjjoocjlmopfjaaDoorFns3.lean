/- A part of the proof that the laws of this seat hold. Conditions: none beyond the row. -/
import Derived.Test.YtjjoocjlmopfjaaDoorFns2
section
/- The document's Take is Go's. -/
namespace Go.Eng.RD
open Go.Eng
set_option maxRecDepth 100000
set_option linter.unusedSectionVars false
noncomputable section

theorem shr0 (x : Int) : ishr .u8 x 0 = x := by
  have : ishr .u8 x 0 = x.fdiv 1 := rfl
  rw [this]; simp
theorem low_eq (rex c : Int) : iadd .i64 (iconv .i64 (iand .u8 c 7)) (imul .i64 (iconv .i64 (iand .u8 rex 1)) 8) = takeLow rex c := by
  have : fn113 (0, rex) = imul .i64 (iconv .i64 (iand .u8 (ishr .u8 rex 0) 1)) 8 := rfl
  unfold takeLow
  rw [this, shr0]
theorem pre35_ok (x) : pre35 x := trivial
theorem pre105_ok (x) : pre105 x := trivial

section
variable {rex : Int} {b : List Int} (hl : b.length ≤ 1000) (hB : AllB b)
include hl hB

theorem rtake_h5 {used w : Nat} (o : DOperand) (reg : Int) (hw : w = 0 ∨ w = 1 ∨ w = 4) (hu : used ≤ 2) (hub : used ≤ b.length) :
    Ends (step82 (b, rex)) (takeR b (dispP reg w o (b.drop used))) (step82 (b, rex) (.h5 reg used w o)) := by
  have e : iadd .i64 (used : Int) (w : Int) = ((used + w : Nat) : Int) := by rw [iadd_i64] <;> omega
  have h8 : ∀ o', Ends (step82 (b, rex)) (reg, (o', (((used + w : Nat) : Int), 0))) (step82 (b, rex) (.h8 reg used w o')) := fun o' => by
    simp only [step82]
    simp only [e, ends_ret]
  simp only [step82]
  rw [ends_ite]
  unfold dispP bytesP
  simp only [Int.toNat_natCast, List.length_drop]
  refine ⟨fun h => ?_, fun h => ?_⟩
  · have hw' : (w : Int) = 1 ∨ (w : Int) = 4 := by rw [ilt_iff] at h; omega
    have hl' : (b.drop used).length ≤ 1000 := by simp; omega
    simp only [ends_need, ends_ite, ends_jump, ends_ret]
    rw [fn106_ok hw' hl']
    refine ⟨by omega, by omega, pre106_ok hw' hl', ?_⟩
    cases hc : ilt ((b.drop used).length : Int) (w : Int) with
    | true =>
      rw [ilt_iff, List.length_drop] at hc
      rw [if_neg (by omega)]
      exact ⟨fun _ => rfl, fun h => by cases h⟩
    | false =>
      rw [ilt_no, List.length_drop] at hc
      rw [if_pos (by omega)]
      refine ⟨(fun h => by cases h), fun _ => ?_⟩
      simp only [step82]
      simp only [ends_jump]
      have hdl : ((b.drop used).take w).length = w := by simp; omega
      have hd := disp_same (w := (w : Int)) hw' (d := (b.drop used).take w) (by rw [hdl]; simp) ((hB.drop _).take _) o
      have hlen : (b.length : Int) - ((b.drop used).drop w).length = ((used + w : Nat) : Int) := by simp; omega
      unfold takeR retP
      simp only
      rw [hd, hlen]
      exact h8 _
  · have hw0 : w = 0 := by rw [ilt_no] at h; omega
    subst hw0
    simp only [ends_jump]
    rw [if_pos (by omega)]
    have hlen : (b.length : Int) - ((b.drop used).drop 0).length = ((used + 0 : Nat) : Int) := by simp; omega
    unfold takeR retP
    simp only
    rw [hlen]
    exact h8 _

theorem rtake_ends : Ends (step82 (b, rex)) (takeR b (takeS rex b)) (tree82 (b, rex)) := by
  unfold tree82
  cases hb : b with
  | nil =>
    simp only [ends_ite, ends_ret, ends_jump]
    exact ⟨fun _ => rfl, fun h => by cases h⟩
  | cons c b' =>
    subst hb
    have hm := mode_b (hB c (List.mem_cons_self ..))
    have h5 := fun {used w : Nat} (o : DOperand) (reg : Int) hw hu hub => rtake_h5 (rex := rex) hl hB (used := used) (w := w) o reg hw hu hub
    have e0 : ieq (((c :: b').length : Nat) : Int) 0 = false := by rw [ieq_no, List.length_cons]; omega
    have hlen : 0 < (c :: b').length := by simp
    simp only [ends_ite, ends_ret, ends_jump]
    refine ⟨fun h => (by rw [e0] at h; cases h), fun _ => ?_⟩
    simp only [step82]
    simp only [ends_need, rdc_zero]
    refine ⟨by omega, by omega, by omega, by omega, by omega, by omega, by omega, by omega, by omega, ?_⟩
    have hlow := low_eq rex c
    rw [ends_ite, hlow]
    refine ⟨fun h3 => ?_, fun h3 => ?_⟩
    · simp only [ends_need, ends_ret]
      refine ⟨pre35_ok _, ?_⟩
      unfold takeS byteP
      simp only [h3, cond_true]
      rw [ieq_iff.1 h3]
      unfold dispP bytesP retP takeR
      simp only [show widthS 3 = 0 from rfl, Int.toNat_zero, Nat.zero_le, if_true, List.take_zero, List.drop_zero, List.length_nil, dispL]
      have e1 : (((c :: b').length : Nat) : Int) - (b'.length : Nat) = 1 := by rw [List.length_cons]; omega
      rw [e1]
      rfl
    · have hS : takeS rex (c :: b') = (cond (ieq (iconv .i64 (iand .u8 c 7)) 4) (sibP rex (ishr .u8 c 6) (takeReg rex c) (fn114 (takeLow rex c, 0)))
          (cond (ieq (iconv .i64 (iand .u8 c 7)) 5 && ieq (ishr .u8 c 6) 0) (dispP (takeReg rex c) 4 (ripO (fn114 (takeLow rex c, 0)))) (dispP (takeReg rex c) (widthS (ishr .u8 c 6)) (fn114 (takeLow rex c, 0))))) b' := by
        simp only [takeS, byteP, h3, cond_false]
      have hwid : ∃ w : Nat, widthS (ishr .u8 c 6) = w ∧ (w = 0 ∨ w = 1 ∨ w = 4) ∧ (ieq (ishr .u8 c 6) 1 = true → w = 1) ∧ (ieq (ishr .u8 c 6) 2 = true → w = 4) ∧ (ieq (ishr .u8 c 6) 1 = false → ieq (ishr .u8 c 6) 2 = false → w = 0) := by
        have : ishr .u8 c 6 = 0 ∨ ishr .u8 c 6 = 1 ∨ ishr .u8 c 6 = 2 := by rw [ieq_no] at h3; omega
        rcases this with e | e | e <;> rw [e]
        · exact ⟨0, rfl, .inl rfl, (fun h => by cases h), (fun h => by cases h), fun _ _ => rfl⟩
        · exact ⟨1, rfl, .inr (.inl rfl), fun _ => rfl, (fun h => by cases h), fun h => by cases h⟩
        · exact ⟨4, rfl, .inr (.inr rfl), (fun h => by cases h), fun _ => rfl, fun _ h => by cases h⟩
      obtain ⟨w, hw, hwc, hw1, hw2, hw0⟩ := hwid
      -- what stands behind the widths
      have h3E : Ends (step82 (c :: b', rex)) (takeR (c :: b') (takeS rex (c :: b'))) (step82 (c :: b', rex) (.h3 (ishr .u8 c 6) (iconv .i64 (iand .u8 c 7)) (takeReg rex c) w (fn105 (takeLow rex c, 0)))) := by
        rw [hS, hw]
        simp only [step82]
        rw [ends_ite]
        refine ⟨fun h4 => ?_, fun h4 => ?_⟩
        · rw [h4, cond_true]
          cases b' with
          | nil =>
            simp only [ends_ite, ends_ret, ends_jump]
            exact ⟨fun _ => rfl, fun h => by cases h⟩
          | cons c1 b2 =>
            have hm1 := mode_b (hB c1 (List.mem_cons_of_mem _ (List.mem_cons_self ..)))
            have hlen2 : 1 < (c :: c1 :: b2).length := by simp
            simp only [ends_ite, ends_ret, ends_jump]
            refine ⟨fun h => by rw [ilt_iff, List.length_cons, List.length_cons] at h; omega, fun _ => ?_⟩
            have hgo : ∀ o, Ends (step82 (c :: c1 :: b2, rex)) (takeR (c :: c1 :: b2) ((cond (ieq (iand .u8 c1 7) 5 && ieq (ishr .u8 c 6) 0) (dispP (takeReg rex c) 4 (setBase o (-1))) (dispP (takeReg rex c) w o)) b2))
                (step82 (c :: c1 :: b2, rex) (.h6 (ishr .u8 c 6) (takeReg rex c) w o)) := by
              intro o
              simp only [step82]
              simp only [rdc_one, ends_need, ends_ite, ends_jump]
              refine ⟨by omega, by omega, fun h5' => ⟨fun h0 => ?_, fun h0 => ?_⟩, fun h5' => ?_⟩
              · have h5' : ieq (iand .u8 c1 7) 5 = true := by simpa using h5'
                rw [h5', h0]
                exact h5 (used := 2) (w := 4) _ _ (.inr (.inr rfl)) (by omega) (by omega)
              · rw [h0, Bool.and_false]
                exact h5 (used := 2) (w := w) _ _ hwc (by omega) (by omega)
              · have h5' : ieq (iand .u8 c1 7) 5 = false := by simpa using h5'
                rw [h5']
                exact h5 (used := 2) (w := w) _ _ hwc (by omega) (by omega)
            have hsib : sibP rex (ishr .u8 c 6) (takeReg rex c) (fn114 (takeLow rex c, 0)) (c1 :: b2) = (cond (ieq (iand .u8 c1 7) 5 && ieq (ishr .u8 c 6) 0) (dispP (takeReg rex c) 4 (setBase (sibO rex c1 (fn114 (takeLow rex c, 0))) (-1))) (dispP (takeReg rex c) w (sibO rex c1 (fn114 (takeLow rex c, 0))))) b2 := by
              unfold sibP byteP
              rw [hw]
            rw [hsib]
            have hgo := hgo (sibO rex c1 (fn114 (takeLow rex c, 0)))
            generalize takeR (c :: c1 :: b2) ((cond (ieq (iand .u8 c1 7) 5 && ieq (ishr .u8 c 6) 0) (dispP (takeReg rex c) 4 (setBase (sibO rex c1 (fn114 (takeLow rex c, 0))) (-1))) (dispP (takeReg rex c) w (sibO rex c1 (fn114 (takeLow rex c, 0))))) b2) = R at hgo ⊢
            have hsc : iconv .u64 (ishr .u8 c1 6) = ishr .u8 c1 6 := by unfold iconv; rw [wrap_u64]; omega
            have hbase : iadd .i64 (iconv .i64 (iand .u8 c1 7)) (imul .i64 (iconv .i64 (iand .u8 rex 1)) 8) = iadd .i64 (iconv .i64 (iand .u8 c1 7)) (fn113 (0, rex)) := low_eq rex c1
            unfold sibO at hgo
            simp only [step82]
            simp only [rdc_one, ends_need, hsc, hbase]
            refine ⟨by omega, by omega, by omega, by omega, by omega, by omega, ?_⟩
            rw [ends_ite]
            refine ⟨fun hi => ?_, fun hi => ?_⟩
            · simp only [ends_need, ends_jump]
              have hi' : ine (takeIdx rex c1) 4 = true := hi
              rw [hi'] at hgo
              exact ⟨by omega, by omega, by omega, hm1.1, hgo⟩
            · simp only [ends_jump]
              have hi' : ine (takeIdx rex c1) 4 = false := hi
              rw [hi'] at hgo
              exact hgo
        · rw [h4, cond_false]
          simp only [ends_ite, ends_jump]
          refine ⟨fun h5' => ⟨fun h0 => ?_, fun h0 => ?_⟩, fun h5' => ?_⟩
          · have h5' : ieq (iconv .i64 (iand .u8 c 7)) 5 = true := by simpa using h5'
            rw [h5', h0]
            exact h5 (used := 1) (w := 4) (ripO (fn114 (takeLow rex c, 0))) _ (.inr (.inr rfl)) (by omega) (by omega)
          · rw [h0, Bool.and_false]
            exact h5 (used := 1) (w := w) (fn114 (takeLow rex c, 0)) _ hwc (by omega) (by omega)
          · have h5' : ieq (iconv .i64 (iand .u8 c 7)) 5 = false := by simpa using h5'
            rw [h5']
            exact h5 (used := 1) (w := w) (fn114 (takeLow rex c, 0)) _ hwc (by omega) (by omega)
      simp only [ends_jump]
      simp only [step82]
      simp only [ends_need, ends_ite, ends_jump, hlow]
      refine ⟨pre105_ok _, fun h1 => ?_, fun h1 => ?_⟩
      · have e2 : ieq (ishr .u8 c 6) 2 = false := by rw [ieq_iff.1 h1]; rfl
        have := hw1 h1
        subst this
        simp only [step82]
        simp only [e2, ends_ite, ends_jump]
        exact ⟨(fun h => by cases h), fun _ => h3E⟩
      · simp only [step82]
        simp only [ends_ite, ends_jump]
        refine ⟨fun h2 => ?_, fun h2 => ?_⟩
        · have := hw2 h2
          subst this
          exact h3E
        · have := hw0 h1 h2
          subst this
          exact h3E
end

theorem pre82_ok {rex : Int} {b : List Int} (hl : b.length ≤ 1000) (hB : AllB b) : pre82 (b, rex) := ⟨_, rtake_ends hl hB⟩
theorem fn82_ok {rex : Int} {b : List Int} (hl : b.length ≤ 1000) (hB : AllB b) : fn82 (b, rex) = takeR b (takeS rex b) := endVal_eq (rtake_ends hl hB)
end
end Go.Eng.RD
end
section
/- Functions of this program, written out. -/
namespace Go.Eng.RD
open Go.Proofs Go.Eng
set_option maxRecDepth 100000

/-! ### sundial/sundiallaw09.DecodeForms -/
inductive J11 where
  | h0 (v0 : Int) (v1 : Int) (v6 : DForm) (v21 : (List Int))
  | h1 (v0 : Int) (v1 : Int) (v4 : DForm)
  | h2 (v0 : Int) (v1 : Int) (v5 : Int) (v7 : DForm) (v22 : (List Int))
  | h3 (v0 : Int) (v1 : Int) (v3 : Int) (v5 : DForm)
  | h4 (v0 : Int) (v1 : Int) (v4 : Nat) (v6 : DForm) (v20 : Nat) (v21 : (List Int))
  | h5 (v0 : Int) (v1 : Int) (v4 : Nat) (v5 : Int) (v7 : DForm) (v21 : Nat) (v22 : (List Int))
  | h6 (v0 : Int) (v1 : Int) (v4 : Nat) (v6 : DForm) (v20 : Nat) (v21 : (List Int))
  | h7 (v0 : Int) (v1 : Int) (v3 : Int) (v4 : Int) (v5 : DForm) (v19 : DInsn)
  | h8 (v0 : Int) (v1 : Int) (v2 : DForm) (v16 : DInsn)
  | h9 (v0 : Int) (v1 : Int) (v2 : Int) (v3 : DForm) (v17 : DInsn)
  | h10 (v0 : DInsn)
noncomputable def tree11 (x : (Int × (Int × (Int × (Bool × (List Int)))))) : Tr (J11 ⊕ Bool) :=
  .need (pre33 ()) <|
  let y0 : Int := ((fn33 ()).length : Int)
  .need ((y0 : Int) ≠ 0) <|
  .need ((y0 : Int) ≠ 0) <|
  let y1 : Int := (irem .i64 (iadd .i64 (irem .i64 x.1 y0) y0) y0)
  .need ((0 : Int) ≤ y1) <|
  .need (y1 < ((fn33 ()).length : Int)) <|
  .need ((16 : Int) ≠ 0) <|
  .need ((16 : Int) ≠ 0) <|
  .need ((16 : Int) ≠ 0) <|
  .need ((16 : Int) ≠ 0) <|
  let y2 : DForm := (rdc CForm (fn33 ()) (y1).toNat)
  let y3 : Int := y2.1
  .ite (ine y3 0) (
    .need ((0 : Nat) < 1) <|
    .need (((0 : Nat) + 1 : Nat) ≤ 1) <|
    .need (((1 : Nat) * 1 : Nat) ≤ 2 ^ 40) <|
    .need ((1 : Nat) ≤ 2 ^ 40) <|
    let y4 : Int := (irem .i64 (iadd .i64 (irem .i64 x.2.1 16) 16) 16)
    let y5 : Int := (irem .i64 (iadd .i64 (irem .i64 x.2.2.1 16) 16) 16)
    .ret (.inl (.h0 y4 y5 y2 [y3]))) (
    let y6 : Int := (irem .i64 (iadd .i64 (irem .i64 x.2.1 16) 16) 16)
    let y7 : Int := (irem .i64 (iadd .i64 (irem .i64 x.2.2.1 16) 16) 16)
    .ret (.inl (.h1 y6 y7 y2)))
noncomputable def step11 (x : (Int × (Int × (Int × (Bool × (List Int)))))) : J11 → Tr (J11 ⊕ Bool)
  | .h0 v0 v1 v6 v21 =>
    .need ((0 : Int) ≤ 3) <|
    .need ((0 : Int) ≤ 2) <|
    .need ((0 : Int) ≤ 3) <|
    .ite x.2.2.2.1 (
      let y0 : Int := (ior .u8 (ior .u8 64 (ishl .u8 (iconv .u8 (ishr .i64 v0 3)) 2)) (iconv .u8 (ishr .i64 v1 3)))
      .ret (.inl (.h2 v0 v1 (ior .u8 y0 8) v6 v21))) (
      let y1 : Int := (ior .u8 (ior .u8 64 (ishl .u8 (iconv .u8 (ishr .i64 v0 3)) 2)) (iconv .u8 (ishr .i64 v1 3)))
      .ret (.inl (.h2 v0 v1 y1 v6 v21)))
  | .h1 v0 v1 v4 =>
    .need ((0 : Int) ≤ 3) <|
    .need ((0 : Int) ≤ 2) <|
    .need ((0 : Int) ≤ 3) <|
    .ite x.2.2.2.1 (
      let y0 : Int := (ior .u8 (ior .u8 64 (ishl .u8 (iconv .u8 (ishr .i64 v0 3)) 2)) (iconv .u8 (ishr .i64 v1 3)))
      .ret (.inl (.h3 v0 v1 (ior .u8 y0 8) v4))) (
      let y1 : Int := (ior .u8 (ior .u8 64 (ishl .u8 (iconv .u8 (ishr .i64 v0 3)) 2)) (iconv .u8 (ishr .i64 v1 3)))
      .ret (.inl (.h3 v0 v1 y1 v4)))
  | .h2 v0 v1 v5 v7 v22 =>
    .both (
      .need ((0 : Nat) < 1) <|
      .both (
        .need (((0 : Nat) + 1 : Nat) ≤ 1) <|
        .need ((1 : Nat) = 1) <|
        .need (((2 : Nat) * 1 : Nat) ≤ 2 ^ 40) <|
        .need ((2 : Nat) ≤ 2 ^ 40) <|
        .need (pre34 v7) <|
        .need ((2 : Nat) = 2) <|
        let y0 : Nat := (2 + (fn34 v7).length)
        .need (((y0 : Nat) * 1 : Nat) ≤ 2 ^ 40) <|
        .need ((y0 : Nat) ≤ 2 ^ 40) <|
        let y1 : Bool := v7.2.2.2.1
        .ite y1 (
          let y2 : Int := (isub .i64 (y0 : Int) 1)
          .need ((0 : Int) ≤ y2) <|
          .need (y2 < (y0 : Int)) <|
          let y3 : Nat := (0 + (y2).toNat)
          .need ((y3 : Nat) < y0) <|
          .need ((0 : Int) ≤ y2) <|
          .need (y2 < (y0 : Int)) <|
          .need ((y3 : Nat) < y0) <|
          let y4 : (List Int) := ((v22 ++ [v5]) ++ (fn34 v7))
          let y5 : (List Int) := (y4.set y3 (iadd .u8 (rdc (.int .u8) y4 y3) (iconv .u8 (iand .i64 v1 7))))
          .ret (.inl (.h4 v0 v1 y0 v7 y0 y5))) (
          let y6 : (List Int) := ((v22 ++ [v5]) ++ (fn34 v7))
          .ret (.inl (.h4 v0 v1 y0 v7 y0 y6)))) (
        .need (((0 : Nat) + 1 : Nat) ≤ 1) <|
        .need ((1 : Nat) = 1) <|
        .need (((2 : Nat) * 1 : Nat) ≤ 2 ^ 40) <|
        .need ((2 : Nat) ≤ 2 ^ 40) <|
        .need (pre34 v7) <|
        .need ((2 : Nat) = 2) <|
        let y7 : Nat := (2 + (fn34 v7).length)
        .need (((y7 : Nat) * 1 : Nat) ≤ 2 ^ 40) <|
        .need ((y7 : Nat) ≤ 2 ^ 40) <|
        let y8 : Bool := v7.2.2.2.1
        .ite y8 (
          let y9 : Int := (isub .i64 (y7 : Int) 1)
          .need ((0 : Int) ≤ y9) <|
          .need (y9 < (y7 : Int)) <|
          let y10 : Nat := (0 + (y9).toNat)
          .need ((y10 : Nat) < y7) <|
          .need ((0 : Int) ≤ y9) <|
          .need (y9 < (y7 : Int)) <|
          .need ((y10 : Nat) < y7) <|
          let y11 : (List Int) := ((v22 ++ [v5]) ++ (fn34 v7))
          let y12 : (List Int) := (y11.set y10 (iadd .u8 (rdc (.int .u8) y11 y10) (iconv .u8 (iand .i64 v1 7))))
          .ret (.inl (.h4 v0 v1 y7 v7 y7 y12))) (
          let y13 : (List Int) := ((v22 ++ [v5]) ++ (fn34 v7))
          .ret (.inl (.h4 v0 v1 y7 v7 y7 y13))))) (
      .need ((0 : Nat) < 1) <|
      .need (((0 : Nat) + 1 : Nat) ≤ 1) <|
      .need ((1 : Nat) = 1) <|
      .need (((2 : Nat) * 1 : Nat) ≤ 2 ^ 40) <|
      .need ((2 : Nat) ≤ 2 ^ 40) <|
      .need (pre34 v7) <|
      .need ((2 : Nat) = 2) <|
      let y14 : Nat := (2 + (fn34 v7).length)
      .need (((y14 : Nat) * 1 : Nat) ≤ 2 ^ 40) <|
      .need ((y14 : Nat) ≤ 2 ^ 40) <|
      let y15 : Bool := v7.2.2.2.1
      .ite y15 (
        let y16 : Int := (isub .i64 (y14 : Int) 1)
        .need ((0 : Int) ≤ y16) <|
        .need (y16 < (y14 : Int)) <|
        let y17 : Nat := (0 + (y16).toNat)
        .need ((y17 : Nat) < y14) <|
        .need ((0 : Int) ≤ y16) <|
        .need (y16 < (y14 : Int)) <|
        .need ((y17 : Nat) < y14) <|
        let y18 : (List Int) := ((v22 ++ [v5]) ++ (fn34 v7))
        let y19 : (List Int) := (y18.set y17 (iadd .u8 (rdc (.int .u8) y18 y17) (iconv .u8 (iand .i64 v1 7))))
        .ret (.inl (.h4 v0 v1 y14 v7 y14 y19))) (
        let y20 : (List Int) := ((v22 ++ [v5]) ++ (fn34 v7))
        .ret (.inl (.h4 v0 v1 y14 v7 y14 y20))))
  | .h3 v0 v1 v3 v5 =>
    .both (
      .need ((0 : Nat) < 1) <|
      .both (
        .need (((0 : Nat) + 1 : Nat) ≤ 1) <|
        .need (((1 : Nat) * 1 : Nat) ≤ 2 ^ 40) <|
        .need ((1 : Nat) ≤ 2 ^ 40) <|
        .need (pre34 v5) <|
        .need ((1 : Nat) = 1) <|
        let y0 : Nat := (1 + (fn34 v5).length)
        .need (((y0 : Nat) * 1 : Nat) ≤ 2 ^ 40) <|
        .need ((y0 : Nat) ≤ 2 ^ 40) <|
        let y1 : Bool := v5.2.2.2.1
        .ite y1 (
          let y2 : Int := (isub .i64 (y0 : Int) 1)
          .need ((0 : Int) ≤ y2) <|
          .need (y2 < (y0 : Int)) <|
          let y3 : Nat := (0 + (y2).toNat)
          .need ((y3 : Nat) < y0) <|
          .need ((0 : Int) ≤ y2) <|
          .need (y2 < (y0 : Int)) <|
          .need ((y3 : Nat) < y0) <|
          let y4 : (List Int) := ([v3] ++ (fn34 v5))
          let y5 : (List Int) := (y4.set y3 (iadd .u8 (rdc (.int .u8) y4 y3) (iconv .u8 (iand .i64 v1 7))))
          .ret (.inl (.h4 v0 v1 y0 v5 y0 y5))) (
          let y6 : (List Int) := ([v3] ++ (fn34 v5))
          .ret (.inl (.h4 v0 v1 y0 v5 y0 y6)))) (
        .need (((0 : Nat) + 1 : Nat) ≤ 1) <|
        .need (((1 : Nat) * 1 : Nat) ≤ 2 ^ 40) <|
        .need ((1 : Nat) ≤ 2 ^ 40) <|
        .need (pre34 v5) <|
        .need ((1 : Nat) = 1) <|
        let y7 : Nat := (1 + (fn34 v5).length)
        .need (((y7 : Nat) * 1 : Nat) ≤ 2 ^ 40) <|
        .need ((y7 : Nat) ≤ 2 ^ 40) <|
        let y8 : Bool := v5.2.2.2.1
        .ite y8 (
          let y9 : Int := (isub .i64 (y7 : Int) 1)
          .need ((0 : Int) ≤ y9) <|
          .need (y9 < (y7 : Int)) <|
          let y10 : Nat := (0 + (y9).toNat)
          .need ((y10 : Nat) < y7) <|
          .need ((0 : Int) ≤ y9) <|
          .need (y9 < (y7 : Int)) <|
          .need ((y10 : Nat) < y7) <|
          let y11 : (List Int) := ([v3] ++ (fn34 v5))
          let y12 : (List Int) := (y11.set y10 (iadd .u8 (rdc (.int .u8) y11 y10) (iconv .u8 (iand .i64 v1 7))))
          .ret (.inl (.h4 v0 v1 y7 v5 y7 y12))) (
          let y13 : (List Int) := ([v3] ++ (fn34 v5))
          .ret (.inl (.h4 v0 v1 y7 v5 y7 y13))))) (
      .need ((0 : Nat) < 1) <|
      .need (((0 : Nat) + 1 : Nat) ≤ 1) <|
      .need (((1 : Nat) * 1 : Nat) ≤ 2 ^ 40) <|
      .need ((1 : Nat) ≤ 2 ^ 40) <|
      .need (pre34 v5) <|
      .need ((1 : Nat) = 1) <|
      let y14 : Nat := (1 + (fn34 v5).length)
      .need (((y14 : Nat) * 1 : Nat) ≤ 2 ^ 40) <|
      .need ((y14 : Nat) ≤ 2 ^ 40) <|
      let y15 : Bool := v5.2.2.2.1
      .ite y15 (
        let y16 : Int := (isub .i64 (y14 : Int) 1)
        .need ((0 : Int) ≤ y16) <|
        .need (y16 < (y14 : Int)) <|
        let y17 : Nat := (0 + (y16).toNat)
        .need ((y17 : Nat) < y14) <|
        .need ((0 : Int) ≤ y16) <|
        .need (y16 < (y14 : Int)) <|
        .need ((y17 : Nat) < y14) <|
        let y18 : (List Int) := ([v3] ++ (fn34 v5))
        let y19 : (List Int) := (y18.set y17 (iadd .u8 (rdc (.int .u8) y18 y17) (iconv .u8 (iand .i64 v1 7))))
        .ret (.inl (.h4 v0 v1 y14 v5 y14 y19))) (
        let y20 : (List Int) := ([v3] ++ (fn34 v5))
        .ret (.inl (.h4 v0 v1 y14 v5 y14 y20))))
  | .h4 v0 v1 v4 v6 v20 v21 =>
    let y0 : Int := v6.2.2.2.2.1
    .ite (ile 0 y0) (
      .ret (.inl (.h5 v0 v1 v4 (iconv .u8 y0) v6 v20 v21))) (
      .ret (.inl (.h5 v0 v1 v4 (iconv .u8 (iand .i64 v0 7)) v6 v20 v21)))
  | .h5 v0 v1 v4 v5 v7 v21 v22 =>
    let y0 : Int := v7.2.2.2.2.2.2.2.2.1
    .ite ((ile 1 y0) == true) (
      .ite (ile y0 5) (
        .need ((0 : Int) ≤ 3) <|
        .need ((0 : Nat) < 1) <|
        .need (((0 : Nat) + 1 : Nat) ≤ 1) <|
        .need ((v4 : Nat) = v21) <|
        let y1 : Nat := (v4 + 1)
        .need (((y1 : Nat) * 1 : Nat) ≤ 2 ^ 40) <|
        .need ((y1 : Nat) ≤ 2 ^ 40) <|
        .ret (.inl (.h6 v0 v1 y1 v7 y1 (v22 ++ [(ior .u8 (ior .u8 192 (ishl .u8 v5 3)) (iconv .u8 (iand .i64 v1 7)))])))) (
        .ret (.inl (.h6 v0 v1 v4 v7 v21 v22)))) (
      .ret (.inl (.h6 v0 v1 v4 v7 v21 v22)))
  | .h6 v0 v1 v4 v6 v20 v21 =>
    .need (((0 : Nat) + 8 : Nat) ≤ 8) <|
    .need ((v4 : Nat) = v20) <|
    let y0 : (Bool × (List Int)) := x.2.2.2
    let y1 : (List Int) := (y0.2.take 8)
    let y2 : Nat := (v4 + y1.length)
    .need (((y2 : Nat) * 1 : Nat) ≤ 2 ^ 40) <|
    .need ((y2 : Nat) ≤ 2 ^ 40) <|
    .need (((0 : Nat) + y2 : Nat) ≤ y2) <|
    let y3 : (List Int) := ((v21 ++ y1).take y2)
    .need (pre27 y3) <|
    let y4 : (Int × (Bool × (Bool × (Bool × Bool)))) := v6.2.2.2.2.2.2.2.2.2
    let y5 : (Bool × (Bool × (Bool × Bool))) := y4.2
    .ite (y5.2.2.2 == false) (
      .ite (y5.1 == true) (
        .ite (!y0.1) (
          let y6 : (DInsn × Int) := (fn27 y3)
          let y7 : Int := y6.2
          let y8 : Bool := ((ieq y7 80) == true)
          .ite y8 (
            .need (pre26 ()) <|
            .ret (.inr (fn26 ()))) (
            .ret (.inr false))) (
          let y9 : Int := (iadd .i64 (v4 : Int) y4.1)
          let y10 : (DInsn × Int) := (fn27 y3)
          let y11 : Int := y10.2
          let y12 : DInsn := y10.1
          .ret (.inl (.h7 v0 v1 y9 y11 v6 y12)))) (
        let y13 : Int := (iadd .i64 (v4 : Int) y4.1)
        let y14 : (DInsn × Int) := (fn27 y3)
        let y15 : Int := y14.2
        let y16 : DInsn := y14.1
        .ret (.inl (.h7 v0 v1 y13 y15 v6 y16)))) (
      let y17 : (DInsn × Int) := (fn27 y3)
      let y18 : Int := y17.2
      let y19 : Bool := ((ieq y18 80) == true)
      .ite y19 (
        .need (pre26 ()) <|
        .ret (.inr (fn26 ()))) (
        .ret (.inr false)))
  | .h7 v0 v1 v3 v4 v5 v19 =>
    .ite ((ine v4 0) == false) (
      let y0 : (Int × (Int × (Int × (Int × (Int × (Bool × (Bool × (Bool × Bool)))))))) := v5.2.2.2.2.2
      .ite ((ine v19.1 y0.1) == false) (
        let y1 : (Int × (Int × (Int × (Int × (Bool × (Bool × (Bool × Bool))))))) := y0.2
        .ite ((ine v19.2.1 y1.1) == false) (
          let y2 : (Int × (DOperand × (DOperand × (Int × Int)))) := v19.2.2
          .ite ((ine y2.2.2.2.2 v3) == false) (
            let y3 : Int := y1.2.1
            .ite ((ilt 0 y3) == true) (
              let y4 : Int := y2.1
              .ite ((ine y4 y3) == false) (
                let y5 : Bool := ((ieq y3 0) == true)
                .ite y5 (
                  let y6 : Bool := (!((ieq y4 8) == x.2.2.2.1))
                  .ite y6 (
                    .ret (.inr false)) (
                    .ret (.inl (.h8 v0 v1 v5 v19)))) (
                  .ret (.inl (.h8 v0 v1 v5 v19)))) (
                .ret (.inr false))) (
              let y7 : Bool := ((ieq y3 0) == true)
              .ite y7 (
                let y8 : Int := y2.1
                let y9 : Bool := (!((ieq y8 8) == x.2.2.2.1))
                .ite y9 (
                  .ret (.inr false)) (
                  .ret (.inl (.h8 v0 v1 v5 v19)))) (
                .ret (.inl (.h8 v0 v1 v5 v19))))) (
            .ret (.inr false))) (
          .ret (.inr false))) (
        .ret (.inr false))) (
      .ret (.inr false))
  | .h8 v0 v1 v2 v16 =>
    .ite v2.2.2.2.2.2.2.2.2.2.2.2.1 (
      .ret (.inl (.h9 v0 v1 16 v2 v16))) (
      .ret (.inl (.h9 v0 v1 0 v2 v16)))
  | .h9 v0 v1 v2 v3 v17 =>
    let y0 : Int := v3.2.2.2.2.2.2.2.2.1
    .ite (ieq y0 1) (
      let y1 : (DOperand × (DOperand × (Int × Int))) := v17.2.2.2
      let y2 : DOperand := y1.1
      let y3 : Int := y2.2.1
      let y4 : Int := (iadd .i64 v1 v2)
      .ite ((ieq y3 y4) == true) (
        let y5 : DOperand := y1.2.1
        let y6 : Int := y5.2.1
        let y7 : Int := (iadd .i64 v0 v2)
        .ite ((ieq y6 y7) == true) (
          .need (pre26 ()) <|
          .ret (.inr (fn26 ()))) (
          .ret (.inr false))) (
        .ret (.inr false))) (
      .ite (ieq y0 2) (
        let y8 : (DOperand × (DOperand × (Int × Int))) := v17.2.2.2
        let y9 : DOperand := y8.1
        let y10 : Int := y9.2.1
        let y11 : Int := (iadd .i64 v0 v2)
        .ite ((ieq y10 y11) == true) (
          let y12 : DOperand := y8.2.1
          let y13 : Int := y12.2.1
          let y14 : Int := (iadd .i64 v1 v2)
          .ite ((ieq y13 y14) == true) (
            .need (pre26 ()) <|
            .ret (.inr (fn26 ()))) (
            .ret (.inr false))) (
          .ret (.inr false))) (
        .ite (ieq y0 3) (
          let y15 : (DOperand × (DOperand × (Int × Int))) := v17.2.2.2
          let y16 : DOperand := y15.1
          let y17 : Int := y16.2.1
          let y18 : Bool := ((ieq y17 v1) == true)
          .ite y18 (
            let y19 : Bool := ((ieq y16.1 1) == true)
            .ite y19 (
              .need (pre26 ()) <|
              .ret (.inr (fn26 ()))) (
              .ret (.inr false))) (
            .ret (.inr false))) (
          .ite (ieq y0 4) (
            let y20 : (DOperand × (DOperand × (Int × Int))) := v17.2.2.2
            let y21 : DOperand := y20.1
            let y22 : Int := y21.2.1
            let y23 : Bool := ((ieq y22 v1) == true)
            .ite y23 (
              let y24 : Bool := ((ieq y21.1 1) == true)
              .ite y24 (
                .need (pre26 ()) <|
                .ret (.inr (fn26 ()))) (
                .ret (.inr false))) (
              .ret (.inr false))) (
            .ite (ieq y0 5) (
              let y25 : (DOperand × (DOperand × (Int × Int))) := v17.2.2.2
              let y26 : DOperand := y25.1
              let y27 : Int := y26.2.1
              let y28 : Bool := ((ieq y27 v1) == true)
              .ite y28 (
                let y29 : Bool := ((ieq y26.1 1) == true)
                .ite y29 (
                  .need (pre26 ()) <|
                  .ret (.inr (fn26 ()))) (
                  .ret (.inr false))) (
                .ret (.inr false))) (
              .ite (ieq y0 6) (
                let y30 : (DOperand × (DOperand × (Int × Int))) := v17.2.2.2
                let y31 : DOperand := y30.1
                let y32 : Int := y31.2.1
                let y33 : Bool := ((ieq y32 v1) == true)
                .ite y33 (
                  let y34 : Bool := ((ieq y31.1 1) == true)
                  .ite y34 (
                    .need (pre26 ()) <|
                    .ret (.inr (fn26 ()))) (
                    .ret (.inr false))) (
                  .ret (.inr false))) (
                .ite (ieq y0 7) (
                  let y35 : (DOperand × (DOperand × (Int × Int))) := v17.2.2.2
                  let y36 : DOperand := y35.1
                  let y37 : Int := y36.2.1
                  let y38 : Bool := ((ieq y37 v1) == true)
                  .ite y38 (
                    let y39 : Bool := ((ieq y36.1 1) == true)
                    .ite y39 (
                      .need (pre26 ()) <|
                      .ret (.inr (fn26 ()))) (
                      .ret (.inr false))) (
                    .ret (.inr false))) (
                  .ite (ieq y0 8) (
                    let y40 : (DOperand × (DOperand × (Int × Int))) := v17.2.2.2
                    let y41 : DOperand := y40.1
                    .ite ((eqD COperand y41 (0, (0, (0, (0, (0, (0, (false, 0)))))))) == true) (
                      let y42 : DOperand := y40.2.1
                      .ite ((ieq y42.1 3) == true) (
                        .need (pre26 ()) <|
                        .ret (.inr (fn26 ()))) (
                        .ret (.inr false))) (
                      .ret (.inr false))) (
                    .ret (.inl (.h10 v17))))))))))
  | .h10 v0 =>
    let y0 : (DOperand × (DOperand × (Int × Int))) := v0.2.2.2
    let y1 : (Int × (Int × (Int × (Int × (Int × (Int × (Bool × Int))))))) := (0, (0, (0, (0, (0, (0, (false, 0)))))))
    .ite ((eqD COperand y0.1 y1) == true) (
      .ite ((eqD COperand y0.2.1 y1) == true) (
        .need (pre26 ()) <|
        .ret (.inr (fn26 ()))) (
        .ret (.inr false))) (
      .ret (.inr false))
noncomputable def head11 (x : (Int × (Int × (Int × (Bool × (List Int)))))) : J11 → Head
  | .h0 v0 v1 v6 v21 =>
    { fr := { id := 11, kind := .top, T := [.any, (.int .i64 v0), (.int .i64 v1), (.bool x.2.2.2.1)] ++ List.replicate 5 .any ++ [(.ptr 0 []), .any, .any, (.ptr 1 []), (.osl 2 [] 1 0 1 none)] ++ List.replicate 266 .any, items := [.code (subc [1, 1, 1, 1, 1, 1, 0] (bodyOf Tryd.f11)), .code (subc [1, 1, 1, 1, 1, 1, 1] (bodyOf Tryd.f11))], D := [], base := 0 },
      stk := [],
      H := [.cell true 47 (.arr 8 (.int .u8) x.2.2.2.2), .cell true 51 (.agg [1, 1, 1, 1, 1, 1, 1, 1, 1, 1, 1, 1, 1, 1] [(.int .u8 v6.1), (.int .u8 v6.2.1), (.int .u8 v6.2.2.1), (.bool v6.2.2.2.1), (.int .i64 v6.2.2.2.2.1), (.int .u8 v6.2.2.2.2.2.1), (.int .u8 v6.2.2.2.2.2.2.1), (.int .i64 v6.2.2.2.2.2.2.2.1), (.int .u8 v6.2.2.2.2.2.2.2.2.1), (.int .i64 v6.2.2.2.2.2.2.2.2.2.1), (.bool v6.2.2.2.2.2.2.2.2.2.2.1), (.bool v6.2.2.2.2.2.2.2.2.2.2.2.1), (.bool v6.2.2.2.2.2.2.2.2.2.2.2.2.1), (.bool v6.2.2.2.2.2.2.2.2.2.2.2.2.2)]), .cell true 5 (.arr 1 (.int .u8) v21)] }
  | .h1 v0 v1 v4 =>
    { fr := { id := 11, kind := .top, T := [.any, (.int .i64 v0), (.int .i64 v1), (.bool x.2.2.2.1)] ++ List.replicate 5 .any ++ [(.ptr 0 []), .any, .any, (.ptr 1 []), (.raw (.slice none 0 0))] ++ List.replicate 266 .any, items := [.code (subc [1, 1, 1, 1, 1, 1, 0] (bodyOf Tryd.f11)), .code (subc [1, 1, 1, 1, 1, 1, 1] (bodyOf Tryd.f11))], D := [], base := 0 },
      stk := [],
      H := [.cell true 47 (.arr 8 (.int .u8) x.2.2.2.2), .cell true 51 (.agg [1, 1, 1, 1, 1, 1, 1, 1, 1, 1, 1, 1, 1, 1] [(.int .u8 v4.1), (.int .u8 v4.2.1), (.int .u8 v4.2.2.1), (.bool v4.2.2.2.1), (.int .i64 v4.2.2.2.2.1), (.int .u8 v4.2.2.2.2.2.1), (.int .u8 v4.2.2.2.2.2.2.1), (.int .i64 v4.2.2.2.2.2.2.2.1), (.int .u8 v4.2.2.2.2.2.2.2.2.1), (.int .i64 v4.2.2.2.2.2.2.2.2.2.1), (.bool v4.2.2.2.2.2.2.2.2.2.2.1), (.bool v4.2.2.2.2.2.2.2.2.2.2.2.1), (.bool v4.2.2.2.2.2.2.2.2.2.2.2.2.1), (.bool v4.2.2.2.2.2.2.2.2.2.2.2.2.2)])] }
  | .h2 v0 v1 v5 v7 v22 =>
    { fr := { id := 11, kind := .top, T := [.any, (.int .i64 v0), (.int .i64 v1), (.bool x.2.2.2.1)] ++ List.replicate 5 .any ++ [(.ptr 0 []), .any, .any, (.ptr 1 []), (.osl 2 [] 1 0 1 none), (.int .u8 v5)] ++ List.replicate 265 .any, items := [.code (subc [1, 1, 1, 1, 1, 1, 1, 1, 0] (bodyOf Tryd.f11)), .code (subc [1, 1, 1, 1, 1, 1, 1, 1, 1] (bodyOf Tryd.f11))], D := [], base := 0 },
      stk := [],
      H := [.cell true 47 (.arr 8 (.int .u8) x.2.2.2.2), .cell true 51 (.agg [1, 1, 1, 1, 1, 1, 1, 1, 1, 1, 1, 1, 1, 1] [(.int .u8 v7.1), (.int .u8 v7.2.1), (.int .u8 v7.2.2.1), (.bool v7.2.2.2.1), (.int .i64 v7.2.2.2.2.1), (.int .u8 v7.2.2.2.2.2.1), (.int .u8 v7.2.2.2.2.2.2.1), (.int .i64 v7.2.2.2.2.2.2.2.1), (.int .u8 v7.2.2.2.2.2.2.2.2.1), (.int .i64 v7.2.2.2.2.2.2.2.2.2.1), (.bool v7.2.2.2.2.2.2.2.2.2.2.1), (.bool v7.2.2.2.2.2.2.2.2.2.2.2.1), (.bool v7.2.2.2.2.2.2.2.2.2.2.2.2.1), (.bool v7.2.2.2.2.2.2.2.2.2.2.2.2.2)]), .cell true 5 (.arr 1 (.int .u8) v22)] }
  | .h3 v0 v1 v3 v5 =>
    { fr := { id := 11, kind := .top, T := [.any, (.int .i64 v0), (.int .i64 v1), (.bool x.2.2.2.1)] ++ List.replicate 5 .any ++ [(.ptr 0 []), .any, .any, (.ptr 1 []), (.raw (.slice none 0 0)), (.int .u8 v3)] ++ List.replicate 265 .any, items := [.code (subc [1, 1, 1, 1, 1, 1, 1, 1, 0] (bodyOf Tryd.f11)), .code (subc [1, 1, 1, 1, 1, 1, 1, 1, 1] (bodyOf Tryd.f11))], D := [], base := 0 },
      stk := [],
      H := [.cell true 47 (.arr 8 (.int .u8) x.2.2.2.2), .cell true 51 (.agg [1, 1, 1, 1, 1, 1, 1, 1, 1, 1, 1, 1, 1, 1] [(.int .u8 v5.1), (.int .u8 v5.2.1), (.int .u8 v5.2.2.1), (.bool v5.2.2.2.1), (.int .i64 v5.2.2.2.2.1), (.int .u8 v5.2.2.2.2.2.1), (.int .u8 v5.2.2.2.2.2.2.1), (.int .i64 v5.2.2.2.2.2.2.2.1), (.int .u8 v5.2.2.2.2.2.2.2.2.1), (.int .i64 v5.2.2.2.2.2.2.2.2.2.1), (.bool v5.2.2.2.2.2.2.2.2.2.2.1), (.bool v5.2.2.2.2.2.2.2.2.2.2.2.1), (.bool v5.2.2.2.2.2.2.2.2.2.2.2.2.1), (.bool v5.2.2.2.2.2.2.2.2.2.2.2.2.2)])] }
  | .h4 v0 v1 v4 v6 v20 v21 =>
    { fr := { id := 11, kind := .top, T := [.any, (.int .i64 v0), (.int .i64 v1), (.bool x.2.2.2.1)] ++ List.replicate 5 .any ++ [(.ptr 0 []), .any, .any, (.ptr 1 []), (.osl 2 [] 1 0 v4 none)] ++ List.replicate 266 .any, items := [.code (subc [1, 1, 1, 1, 1, 1, 1, 1, 1, 1, 0] (bodyOf Tryd.f11)), .code (subc [1, 1, 1, 1, 1, 1, 1, 1, 1, 1, 1] (bodyOf Tryd.f11))], D := [], base := 0 },
      stk := [],
      H := [.cell true 47 (.arr 8 (.int .u8) x.2.2.2.2), .cell true 51 (.agg [1, 1, 1, 1, 1, 1, 1, 1, 1, 1, 1, 1, 1, 1] [(.int .u8 v6.1), (.int .u8 v6.2.1), (.int .u8 v6.2.2.1), (.bool v6.2.2.2.1), (.int .i64 v6.2.2.2.2.1), (.int .u8 v6.2.2.2.2.2.1), (.int .u8 v6.2.2.2.2.2.2.1), (.int .i64 v6.2.2.2.2.2.2.2.1), (.int .u8 v6.2.2.2.2.2.2.2.2.1), (.int .i64 v6.2.2.2.2.2.2.2.2.2.1), (.bool v6.2.2.2.2.2.2.2.2.2.2.1), (.bool v6.2.2.2.2.2.2.2.2.2.2.2.1), (.bool v6.2.2.2.2.2.2.2.2.2.2.2.2.1), (.bool v6.2.2.2.2.2.2.2.2.2.2.2.2.2)]), .cell true 5 (.arr v20 (.int .u8) v21)] }
  | .h5 v0 v1 v4 v5 v7 v21 v22 =>
    { fr := { id := 11, kind := .top, T := [.any, (.int .i64 v0), (.int .i64 v1), (.bool x.2.2.2.1)] ++ List.replicate 5 .any ++ [(.ptr 0 []), .any, .any, (.ptr 1 []), (.osl 2 [] 1 0 v4 none), .any, (.int .u8 v5)] ++ List.replicate 264 .any, items := [.code (subc [1, 1, 1, 1, 1, 1, 1, 1, 1, 1, 1, 1, 0, 0] (bodyOf Tryd.f11)), .code (subc [1, 1, 1, 1, 1, 1, 1, 1, 1, 1, 1, 1, 0, 1] (bodyOf Tryd.f11)), .code (subc [1, 1, 1, 1, 1, 1, 1, 1, 1, 1, 1, 1, 1] (bodyOf Tryd.f11))], D := [], base := 0 },
      stk := [],
      H := [.cell true 47 (.arr 8 (.int .u8) x.2.2.2.2), .cell true 51 (.agg [1, 1, 1, 1, 1, 1, 1, 1, 1, 1, 1, 1, 1, 1] [(.int .u8 v7.1), (.int .u8 v7.2.1), (.int .u8 v7.2.2.1), (.bool v7.2.2.2.1), (.int .i64 v7.2.2.2.2.1), (.int .u8 v7.2.2.2.2.2.1), (.int .u8 v7.2.2.2.2.2.2.1), (.int .i64 v7.2.2.2.2.2.2.2.1), (.int .u8 v7.2.2.2.2.2.2.2.2.1), (.int .i64 v7.2.2.2.2.2.2.2.2.2.1), (.bool v7.2.2.2.2.2.2.2.2.2.2.1), (.bool v7.2.2.2.2.2.2.2.2.2.2.2.1), (.bool v7.2.2.2.2.2.2.2.2.2.2.2.2.1), (.bool v7.2.2.2.2.2.2.2.2.2.2.2.2.2)]), .cell true 5 (.arr v21 (.int .u8) v22)] }
  | .h6 v0 v1 v4 v6 v20 v21 =>
    { fr := { id := 11, kind := .top, T := [.any, (.int .i64 v0), (.int .i64 v1), (.bool x.2.2.2.1)] ++ List.replicate 5 .any ++ [(.ptr 0 []), .any, .any, (.ptr 1 []), (.osl 2 [] 1 0 v4 none)] ++ List.replicate 266 .any, items := [.code (subc [1, 1, 1, 1, 1, 1, 1, 1, 1, 1, 1, 1, 1, 0] (bodyOf Tryd.f11)), .code (subc [1, 1, 1, 1, 1, 1, 1, 1, 1, 1, 1, 1, 1, 1] (bodyOf Tryd.f11))], D := [], base := 0 },
      stk := [],
      H := [.cell true 47 (.arr 8 (.int .u8) x.2.2.2.2), .cell true 51 (.agg [1, 1, 1, 1, 1, 1, 1, 1, 1, 1, 1, 1, 1, 1] [(.int .u8 v6.1), (.int .u8 v6.2.1), (.int .u8 v6.2.2.1), (.bool v6.2.2.2.1), (.int .i64 v6.2.2.2.2.1), (.int .u8 v6.2.2.2.2.2.1), (.int .u8 v6.2.2.2.2.2.2.1), (.int .i64 v6.2.2.2.2.2.2.2.1), (.int .u8 v6.2.2.2.2.2.2.2.2.1), (.int .i64 v6.2.2.2.2.2.2.2.2.2.1), (.bool v6.2.2.2.2.2.2.2.2.2.2.1), (.bool v6.2.2.2.2.2.2.2.2.2.2.2.1), (.bool v6.2.2.2.2.2.2.2.2.2.2.2.2.1), (.bool v6.2.2.2.2.2.2.2.2.2.2.2.2.2)]), .cell true 5 (.arr v20 (.int .u8) v21)] }
  | .h7 v0 v1 v3 v4 v5 v19 =>
    { fr := { id := 11, kind := .top, T := [.any, (.int .i64 v0), (.int .i64 v1), (.bool x.2.2.2.1)] ++ List.replicate 8 .any ++ [(.ptr 0 []), .any, .any, .any, (.int .i64 v3), (.ptr 1 []), (.int .i64 v4)] ++ List.replicate 261 .any, items := [.code (subc [1, 1, 1, 1, 1, 1, 1, 1, 1, 1, 1, 1, 1, 1, 1, 1, 0, 0] (bodyOf Tryd.f11)), .code (subc [1, 1, 1, 1, 1, 1, 1, 1, 1, 1, 1, 1, 1, 1, 1, 1, 0, 1] (bodyOf Tryd.f11)), .code (subc [1, 1, 1, 1, 1, 1, 1, 1, 1, 1, 1, 1, 1, 1, 1, 1, 1] (bodyOf Tryd.f11))], D := [], base := 0 },
      stk := [],
      H := [.cell true 51 (.agg [1, 1, 1, 1, 1, 1, 1, 1, 1, 1, 1, 1, 1, 1] [(.int .u8 v5.1), (.int .u8 v5.2.1), (.int .u8 v5.2.2.1), (.bool v5.2.2.2.1), (.int .i64 v5.2.2.2.2.1), (.int .u8 v5.2.2.2.2.2.1), (.int .u8 v5.2.2.2.2.2.2.1), (.int .i64 v5.2.2.2.2.2.2.2.1), (.int .u8 v5.2.2.2.2.2.2.2.2.1), (.int .i64 v5.2.2.2.2.2.2.2.2.2.1), (.bool v5.2.2.2.2.2.2.2.2.2.2.1), (.bool v5.2.2.2.2.2.2.2.2.2.2.2.1), (.bool v5.2.2.2.2.2.2.2.2.2.2.2.2.1), (.bool v5.2.2.2.2.2.2.2.2.2.2.2.2.2)]), .cell true 25 (.agg [1, 1, 1, 8, 8, 1, 1] [(.int .u8 v19.1), (.int .u8 v19.2.1), (.int .i64 v19.2.2.1), (.agg [1, 1, 1, 1, 1, 1, 1, 1] [(.int .u8 v19.2.2.2.1.1), (.int .i64 v19.2.2.2.1.2.1), (.int .i64 v19.2.2.2.1.2.2.1), (.int .i64 v19.2.2.2.1.2.2.2.1), (.int .i64 v19.2.2.2.1.2.2.2.2.1), (.int .i64 v19.2.2.2.1.2.2.2.2.2.1), (.bool v19.2.2.2.1.2.2.2.2.2.2.1), (.int .i64 v19.2.2.2.1.2.2.2.2.2.2.2)]), (.agg [1, 1, 1, 1, 1, 1, 1, 1] [(.int .u8 v19.2.2.2.2.1.1), (.int .i64 v19.2.2.2.2.1.2.1), (.int .i64 v19.2.2.2.2.1.2.2.1), (.int .i64 v19.2.2.2.2.1.2.2.2.1), (.int .i64 v19.2.2.2.2.1.2.2.2.2.1), (.int .i64 v19.2.2.2.2.1.2.2.2.2.2.1), (.bool v19.2.2.2.2.1.2.2.2.2.2.2.1), (.int .i64 v19.2.2.2.2.1.2.2.2.2.2.2.2)]), (.int .u8 v19.2.2.2.2.2.1), (.int .i64 v19.2.2.2.2.2.2)])] }
  | .h8 v0 v1 v2 v16 =>
    { fr := { id := 11, kind := .top, T := [.any, (.int .i64 v0), (.int .i64 v1)] ++ List.replicate 9 .any ++ [(.ptr 0 [])] ++ List.replicate 4 .any ++ [(.ptr 1 [])] ++ List.replicate 262 .any, items := [.code (subc [1, 1, 1, 1, 1, 1, 1, 1, 1, 1, 1, 1, 1, 1, 1, 1, 1, 0] (bodyOf Tryd.f11)), .code (subc [1, 1, 1, 1, 1, 1, 1, 1, 1, 1, 1, 1, 1, 1, 1, 1, 1, 1] (bodyOf Tryd.f11))], D := [], base := 0 },
      stk := [],
      H := [.cell true 51 (.agg [1, 1, 1, 1, 1, 1, 1, 1, 1, 1, 1, 1, 1, 1] [(.int .u8 v2.1), (.int .u8 v2.2.1), (.int .u8 v2.2.2.1), (.bool v2.2.2.2.1), (.int .i64 v2.2.2.2.2.1), (.int .u8 v2.2.2.2.2.2.1), (.int .u8 v2.2.2.2.2.2.2.1), (.int .i64 v2.2.2.2.2.2.2.2.1), (.int .u8 v2.2.2.2.2.2.2.2.2.1), (.int .i64 v2.2.2.2.2.2.2.2.2.2.1), (.bool v2.2.2.2.2.2.2.2.2.2.2.1), (.bool v2.2.2.2.2.2.2.2.2.2.2.2.1), (.bool v2.2.2.2.2.2.2.2.2.2.2.2.2.1), (.bool v2.2.2.2.2.2.2.2.2.2.2.2.2.2)]), .cell true 25 (.agg [1, 1, 1, 8, 8, 1, 1] [(.int .u8 v16.1), (.int .u8 v16.2.1), (.int .i64 v16.2.2.1), (.agg [1, 1, 1, 1, 1, 1, 1, 1] [(.int .u8 v16.2.2.2.1.1), (.int .i64 v16.2.2.2.1.2.1), (.int .i64 v16.2.2.2.1.2.2.1), (.int .i64 v16.2.2.2.1.2.2.2.1), (.int .i64 v16.2.2.2.1.2.2.2.2.1), (.int .i64 v16.2.2.2.1.2.2.2.2.2.1), (.bool v16.2.2.2.1.2.2.2.2.2.2.1), (.int .i64 v16.2.2.2.1.2.2.2.2.2.2.2)]), (.agg [1, 1, 1, 1, 1, 1, 1, 1] [(.int .u8 v16.2.2.2.2.1.1), (.int .i64 v16.2.2.2.2.1.2.1), (.int .i64 v16.2.2.2.2.1.2.2.1), (.int .i64 v16.2.2.2.2.1.2.2.2.1), (.int .i64 v16.2.2.2.2.1.2.2.2.2.1), (.int .i64 v16.2.2.2.2.1.2.2.2.2.2.1), (.bool v16.2.2.2.2.1.2.2.2.2.2.2.1), (.int .i64 v16.2.2.2.2.1.2.2.2.2.2.2.2)]), (.int .u8 v16.2.2.2.2.2.1), (.int .i64 v16.2.2.2.2.2.2)])] }
  | .h9 v0 v1 v2 v3 v17 =>
    { fr := { id := 11, kind := .top, T := [.any, (.int .i64 v0), (.int .i64 v1)] ++ List.replicate 9 .any ++ [(.ptr 0 [])] ++ List.replicate 4 .any ++ [(.ptr 1 []), .any, (.int .i64 v2)] ++ List.replicate 260 .any, items := [.code (subc [1, 1, 1, 1, 1, 1, 1, 1, 1, 1, 1, 1, 1, 1, 1, 1, 1, 1, 1, 0, 0] (bodyOf Tryd.f11)), .code (subc [1, 1, 1, 1, 1, 1, 1, 1, 1, 1, 1, 1, 1, 1, 1, 1, 1, 1, 1, 0, 1] (bodyOf Tryd.f11)), .code (subc [1, 1, 1, 1, 1, 1, 1, 1, 1, 1, 1, 1, 1, 1, 1, 1, 1, 1, 1, 1] (bodyOf Tryd.f11))], D := [], base := 0 },
      stk := [],
      H := [.cell true 51 (.agg [1, 1, 1, 1, 1, 1, 1, 1, 1, 1, 1, 1, 1, 1] [(.int .u8 v3.1), (.int .u8 v3.2.1), (.int .u8 v3.2.2.1), (.bool v3.2.2.2.1), (.int .i64 v3.2.2.2.2.1), (.int .u8 v3.2.2.2.2.2.1), (.int .u8 v3.2.2.2.2.2.2.1), (.int .i64 v3.2.2.2.2.2.2.2.1), (.int .u8 v3.2.2.2.2.2.2.2.2.1), (.int .i64 v3.2.2.2.2.2.2.2.2.2.1), (.bool v3.2.2.2.2.2.2.2.2.2.2.1), (.bool v3.2.2.2.2.2.2.2.2.2.2.2.1), (.bool v3.2.2.2.2.2.2.2.2.2.2.2.2.1), (.bool v3.2.2.2.2.2.2.2.2.2.2.2.2.2)]), .cell true 25 (.agg [1, 1, 1, 8, 8, 1, 1] [(.int .u8 v17.1), (.int .u8 v17.2.1), (.int .i64 v17.2.2.1), (.agg [1, 1, 1, 1, 1, 1, 1, 1] [(.int .u8 v17.2.2.2.1.1), (.int .i64 v17.2.2.2.1.2.1), (.int .i64 v17.2.2.2.1.2.2.1), (.int .i64 v17.2.2.2.1.2.2.2.1), (.int .i64 v17.2.2.2.1.2.2.2.2.1), (.int .i64 v17.2.2.2.1.2.2.2.2.2.1), (.bool v17.2.2.2.1.2.2.2.2.2.2.1), (.int .i64 v17.2.2.2.1.2.2.2.2.2.2.2)]), (.agg [1, 1, 1, 1, 1, 1, 1, 1] [(.int .u8 v17.2.2.2.2.1.1), (.int .i64 v17.2.2.2.2.1.2.1), (.int .i64 v17.2.2.2.2.1.2.2.1), (.int .i64 v17.2.2.2.2.1.2.2.2.1), (.int .i64 v17.2.2.2.2.1.2.2.2.2.1), (.int .i64 v17.2.2.2.2.1.2.2.2.2.2.1), (.bool v17.2.2.2.2.1.2.2.2.2.2.2.1), (.int .i64 v17.2.2.2.2.1.2.2.2.2.2.2.2)]), (.int .u8 v17.2.2.2.2.2.1), (.int .i64 v17.2.2.2.2.2.2)])] }
  | .h10 v0 =>
    { fr := { id := 11, kind := .top, T := List.replicate 17 .any ++ [(.ptr 0 [])] ++ List.replicate 262 .any, items := [.code (subc [1, 1, 1, 1, 1, 1, 1, 1, 1, 1, 1, 1, 1, 1, 1, 1, 1, 1, 1, 1, 0] (bodyOf Tryd.f11)), .code (subc [1, 1, 1, 1, 1, 1, 1, 1, 1, 1, 1, 1, 1, 1, 1, 1, 1, 1, 1, 1, 1] (bodyOf Tryd.f11))], D := [], base := 0 },
      stk := [],
      H := [.cell true 25 (.agg [1, 1, 1, 8, 8, 1, 1] [(.int .u8 v0.1), (.int .u8 v0.2.1), (.int .i64 v0.2.2.1), (.agg [1, 1, 1, 1, 1, 1, 1, 1] [(.int .u8 v0.2.2.2.1.1), (.int .i64 v0.2.2.2.1.2.1), (.int .i64 v0.2.2.2.1.2.2.1), (.int .i64 v0.2.2.2.1.2.2.2.1), (.int .i64 v0.2.2.2.1.2.2.2.2.1), (.int .i64 v0.2.2.2.1.2.2.2.2.2.1), (.bool v0.2.2.2.1.2.2.2.2.2.2.1), (.int .i64 v0.2.2.2.1.2.2.2.2.2.2.2)]), (.agg [1, 1, 1, 1, 1, 1, 1, 1] [(.int .u8 v0.2.2.2.2.1.1), (.int .i64 v0.2.2.2.2.1.2.1), (.int .i64 v0.2.2.2.2.1.2.2.1), (.int .i64 v0.2.2.2.2.1.2.2.2.1), (.int .i64 v0.2.2.2.2.1.2.2.2.2.1), (.int .i64 v0.2.2.2.2.1.2.2.2.2.2.1), (.bool v0.2.2.2.2.1.2.2.2.2.2.2.1), (.int .i64 v0.2.2.2.2.1.2.2.2.2.2.2.2)]), (.int .u8 v0.2.2.2.2.2.1), (.int .i64 v0.2.2.2.2.2.2)])] }
noncomputable def stop11 : FuncId → Nat → Nat → Option Cut
  | 11, 15, 0 => some { tmps := [1, 2, 3, 9, 12, 13], loops := [], dead := [], stk := [] }
  | 11, 21, 0 => some { tmps := [1, 2, 3, 9, 12, 13, 14], loops := [], dead := [], stk := [] }
  | 11, 27, 0 => some { tmps := [1, 2, 3, 9, 12, 13], loops := [], dead := [], stk := [] }
  | 11, 33, 0 => some { tmps := [1, 2, 3, 9, 12, 13, 15], loops := [], dead := [], stk := [] }
  | 11, 37, 0 => some { tmps := [1, 2, 3, 9, 12, 13], loops := [], dead := [], stk := [] }
  | 11, 45, 0 => some { tmps := [1, 2, 3, 12, 16, 17, 18], loops := [], dead := [], stk := [] }
  | 11, 49, 0 => some { tmps := [1, 2, 12, 17], loops := [], dead := [], stk := [] }
  | 11, 55, 0 => some { tmps := [1, 2, 12, 17, 19], loops := [], dead := [], stk := [] }
  | 11, 81, 0 => some { tmps := [17], loops := [], dead := [], stk := [] }
  | _, _, _ => none
noncomputable def fn11 (x : (Int × (Int × (Int × (Bool × (List Int)))))) : Bool := endVal (TC.dflt .bool) (step11 x) (tree11 x)
def pre11 (x : (Int × (Int × (Int × (Bool × (List Int)))))) : Prop := ∃ r, Ends (step11 x) r (tree11 x)
noncomputable def spec11 : Spec := { dom := (.st (.int .i64) (.st (.int .i64) (.st (.int .i64) (.st .bool (.st1 (.arr 8 (.int .u8))))))), cod := .bool, n := 1, pre := pre11, f := fn11 }
noncomputable def need11 : FuncId → Option Spec
  | 26 => some spec26
  | 27 => some spec27
  | 33 => some spec33
  | 34 => some spec34
  | _ => none
theorem need11_ok : ∀ f sp, need11 f = some sp → SpecOk env0 f sp := by
  intro f sp h
  unfold need11 at h
  split at h
  · cases h; exact ok26
  · cases h; exact ok27
  · cases h; exact ok33
  · cases h; exact ok34
  · cases h
theorem run11 (W : Cfg) (Q : Bool → Prop) (x : (Int × (Int × (Int × (Bool × (List Int)))))) : run (env need11 (fun _ _ => none)) stop11 (finS spec11 Q) W 100000 (startFr 11 Tryd.f11 (bodyOf Tryd.f11) (argsOf (.st (.int .i64) (.st (.int .i64) (.st (.int .i64) (.st .bool (.st1 (.arr 8 (.int .u8))))))) x)) [] [] = (tree11 x).wp (kont W Q (head11 x)) := by kernel_rfl
theorem run11h0 (W : Cfg) (Q : Bool → Prop) (x : (Int × (Int × (Int × (Bool × (List Int)))))) (v0 : Int) (v1 : Int) (v6 : DForm) (v21 : (List Int)) : run (env need11 (fun _ _ => none)) stop11 (finS spec11 Q) W 100000 (head11 x (.h0 v0 v1 v6 v21)).fr.enter (head11 x (.h0 v0 v1 v6 v21)).stk (head11 x (.h0 v0 v1 v6 v21)).H = (step11 x (.h0 v0 v1 v6 v21)).wp (kont W Q (head11 x)) := by kernel_rfl
theorem run11h1 (W : Cfg) (Q : Bool → Prop) (x : (Int × (Int × (Int × (Bool × (List Int)))))) (v0 : Int) (v1 : Int) (v4 : DForm) : run (env need11 (fun _ _ => none)) stop11 (finS spec11 Q) W 100000 (head11 x (.h1 v0 v1 v4)).fr.enter (head11 x (.h1 v0 v1 v4)).stk (head11 x (.h1 v0 v1 v4)).H = (step11 x (.h1 v0 v1 v4)).wp (kont W Q (head11 x)) := by kernel_rfl
theorem run11h2 (W : Cfg) (Q : Bool → Prop) (x : (Int × (Int × (Int × (Bool × (List Int)))))) (v0 : Int) (v1 : Int) (v5 : Int) (v7 : DForm) (v22 : (List Int)) : run (env need11 (fun _ _ => none)) stop11 (finS spec11 Q) W 100000 (head11 x (.h2 v0 v1 v5 v7 v22)).fr.enter (head11 x (.h2 v0 v1 v5 v7 v22)).stk (head11 x (.h2 v0 v1 v5 v7 v22)).H = (step11 x (.h2 v0 v1 v5 v7 v22)).wp (kont W Q (head11 x)) := by kernel_rfl
theorem run11h3 (W : Cfg) (Q : Bool → Prop) (x : (Int × (Int × (Int × (Bool × (List Int)))))) (v0 : Int) (v1 : Int) (v3 : Int) (v5 : DForm) : run (env need11 (fun _ _ => none)) stop11 (finS spec11 Q) W 100000 (head11 x (.h3 v0 v1 v3 v5)).fr.enter (head11 x (.h3 v0 v1 v3 v5)).stk (head11 x (.h3 v0 v1 v3 v5)).H = (step11 x (.h3 v0 v1 v3 v5)).wp (kont W Q (head11 x)) := by kernel_rfl
theorem run11h4 (W : Cfg) (Q : Bool → Prop) (x : (Int × (Int × (Int × (Bool × (List Int)))))) (v0 : Int) (v1 : Int) (v4 : Nat) (v6 : DForm) (v20 : Nat) (v21 : (List Int)) : run (env need11 (fun _ _ => none)) stop11 (finS spec11 Q) W 100000 (head11 x (.h4 v0 v1 v4 v6 v20 v21)).fr.enter (head11 x (.h4 v0 v1 v4 v6 v20 v21)).stk (head11 x (.h4 v0 v1 v4 v6 v20 v21)).H = (step11 x (.h4 v0 v1 v4 v6 v20 v21)).wp (kont W Q (head11 x)) := by kernel_rfl
theorem run11h5 (W : Cfg) (Q : Bool → Prop) (x : (Int × (Int × (Int × (Bool × (List Int)))))) (v0 : Int) (v1 : Int) (v4 : Nat) (v5 : Int) (v7 : DForm) (v21 : Nat) (v22 : (List Int)) : run (env need11 (fun _ _ => none)) stop11 (finS spec11 Q) W 100000 (head11 x (.h5 v0 v1 v4 v5 v7 v21 v22)).fr.enter (head11 x (.h5 v0 v1 v4 v5 v7 v21 v22)).stk (head11 x (.h5 v0 v1 v4 v5 v7 v21 v22)).H = (step11 x (.h5 v0 v1 v4 v5 v7 v21 v22)).wp (kont W Q (head11 x)) := by kernel_rfl
theorem run11h6 (W : Cfg) (Q : Bool → Prop) (x : (Int × (Int × (Int × (Bool × (List Int)))))) (v0 : Int) (v1 : Int) (v4 : Nat) (v6 : DForm) (v20 : Nat) (v21 : (List Int)) : run (env need11 (fun _ _ => none)) stop11 (finS spec11 Q) W 100000 (head11 x (.h6 v0 v1 v4 v6 v20 v21)).fr.enter (head11 x (.h6 v0 v1 v4 v6 v20 v21)).stk (head11 x (.h6 v0 v1 v4 v6 v20 v21)).H = (step11 x (.h6 v0 v1 v4 v6 v20 v21)).wp (kont W Q (head11 x)) := by kernel_rfl
theorem run11h7 (W : Cfg) (Q : Bool → Prop) (x : (Int × (Int × (Int × (Bool × (List Int)))))) (v0 : Int) (v1 : Int) (v3 : Int) (v4 : Int) (v5 : DForm) (v19 : DInsn) : run (env need11 (fun _ _ => none)) stop11 (finS spec11 Q) W 100000 (head11 x (.h7 v0 v1 v3 v4 v5 v19)).fr.enter (head11 x (.h7 v0 v1 v3 v4 v5 v19)).stk (head11 x (.h7 v0 v1 v3 v4 v5 v19)).H = (step11 x (.h7 v0 v1 v3 v4 v5 v19)).wp (kont W Q (head11 x)) := by kernel_rfl
theorem run11h8 (W : Cfg) (Q : Bool → Prop) (x : (Int × (Int × (Int × (Bool × (List Int)))))) (v0 : Int) (v1 : Int) (v2 : DForm) (v16 : DInsn) : run (env need11 (fun _ _ => none)) stop11 (finS spec11 Q) W 100000 (head11 x (.h8 v0 v1 v2 v16)).fr.enter (head11 x (.h8 v0 v1 v2 v16)).stk (head11 x (.h8 v0 v1 v2 v16)).H = (step11 x (.h8 v0 v1 v2 v16)).wp (kont W Q (head11 x)) := by kernel_rfl
theorem run11h9 (W : Cfg) (Q : Bool → Prop) (x : (Int × (Int × (Int × (Bool × (List Int)))))) (v0 : Int) (v1 : Int) (v2 : Int) (v3 : DForm) (v17 : DInsn) : run (env need11 (fun _ _ => none)) stop11 (finS spec11 Q) W 100000 (head11 x (.h9 v0 v1 v2 v3 v17)).fr.enter (head11 x (.h9 v0 v1 v2 v3 v17)).stk (head11 x (.h9 v0 v1 v2 v3 v17)).H = (step11 x (.h9 v0 v1 v2 v3 v17)).wp (kont W Q (head11 x)) := by kernel_rfl
theorem run11h10 (W : Cfg) (Q : Bool → Prop) (x : (Int × (Int × (Int × (Bool × (List Int)))))) (v0 : DInsn) : run (env need11 (fun _ _ => none)) stop11 (finS spec11 Q) W 100000 (head11 x (.h10 v0)).fr.enter (head11 x (.h10 v0)).stk (head11 x (.h10 v0)).H = (step11 x (.h10 v0)).wp (kont W Q (head11 x)) := by kernel_rfl
theorem runs11 (W : Cfg) (Q : Bool → Prop) (x : (Int × (Int × (Int × (Bool × (List Int)))))) : ∀ j : J11, run (env need11 (fun _ _ => none)) stop11 (finS spec11 Q) W 100000 (head11 x j).fr.enter (head11 x j).stk (head11 x j).H = (step11 x j).wp (kont W Q (head11 x))
  | .h0 v0 v1 v6 v21 => run11h0 W Q x v0 v1 v6 v21
  | .h1 v0 v1 v4 => run11h1 W Q x v0 v1 v4
  | .h2 v0 v1 v5 v7 v22 => run11h2 W Q x v0 v1 v5 v7 v22
  | .h3 v0 v1 v3 v5 => run11h3 W Q x v0 v1 v3 v5
  | .h4 v0 v1 v4 v6 v20 v21 => run11h4 W Q x v0 v1 v4 v6 v20 v21
  | .h5 v0 v1 v4 v5 v7 v21 v22 => run11h5 W Q x v0 v1 v4 v5 v7 v21 v22
  | .h6 v0 v1 v4 v6 v20 v21 => run11h6 W Q x v0 v1 v4 v6 v20 v21
  | .h7 v0 v1 v3 v4 v5 v19 => run11h7 W Q x v0 v1 v3 v4 v5 v19
  | .h8 v0 v1 v2 v16 => run11h8 W Q x v0 v1 v2 v16
  | .h9 v0 v1 v2 v3 v17 => run11h9 W Q x v0 v1 v2 v3 v17
  | .h10 v0 => run11h10 W Q x v0
theorem ok11 : SpecOk env0 11 spec11 := SpecOk.env rfl (fun _ _ h => h) (spec_of_trees (E := (env need11 (fun _ _ => none))) (sp := spec11) (valid _ _) (fun f sp h => SpecOk.env rfl (fun _ _ h => h) (need11_ok f sp h)) (fn := Tryd.f11) (c := (bodyOf Tryd.f11)) (by kernel_rfl) (by kernel_rfl) tree11 step11 head11 run11 runs11 (fun _ h => endVal_ends h))

end Go.Eng.RD
end
section
/- A form's own bytes, with registers: what is read of them. -/
namespace Go.Eng.RD
open Go.Eng
set_option maxRecDepth 100000
set_option linter.unusedSectionVars false
noncomputable section

def rexN (reg rm : Int) : Int := ior .u8 (ior .u8 64 (ishl .u8 (iconv .u8 (ishr .i64 reg 3)) 2)) (iconv .u8 (ishr .i64 rm 3))
def rexS (reg rm : Int) (w : Bool) : Int := cond w (ior .u8 (rexN reg rm) 8) (rexN reg rm)
def opS (f : DForm) (rm : Int) : Int := cond f.2.2.2.1 (iadd .u8 f.2.2.1 (iconv .u8 (iand .i64 rm 7))) f.2.2.1
def thirdS (f : DForm) (reg : Int) : Int := cond (ile 0 (fDigit f)) (iconv .u8 (fDigit f)) (iconv .u8 (iand .i64 reg 7))
def modS (third rm : Int) : Int := ior .u8 (ior .u8 192 (ishl .u8 third 3)) (iconv .u8 (iand .i64 rm 7))
def preL (f : DForm) : List Int := cond (ine f.1 0) [f.1] []
def mapL (f : DForm) (o : Int) : List Int := cond (ieq f.2.1 1) [15, o] (cond (ieq f.2.1 2) [15, 56, o] (cond (ieq f.2.1 3) [15, 58, o] [o]))
def modL (f : DForm) (reg rm : Int) : List Int := cond (ile 1 (fKind f) && ile (fKind f) 5) [modS (thirdS f reg) rm] []
def codeL (f : DForm) (reg rm : Int) (w : Bool) : List Int := preL f ++ [rexS reg rm w] ++ mapL f (opS f rm) ++ modL f reg rm

/-! ### Facts by reckoning -/
def rexOk (reg rm : Nat) (w : Bool) : Bool :=
  let R := rexS reg rm w
  isBb R && fn89 R && !(ieq R 102) && !(ieq R 243) && (ieq (iand .u8 (iand .u8 R 15) 8) 0 == !w) && ieq (iadd .i64 4 (ishr .i64 (iconv .i64 (iand .u8 (iand .u8 R 15) 8)) 1)) (cond w 8 4) &&
  (List.range 32).all fun o => ieq (iconv .i64 (ior .u8 (iand .u8 (iadd .u8 (8 * (o : Nat) : Int) (iconv .u8 (iand .i64 rm 7))) 7) (ishl .u8 (iand .u8 (iand .u8 R 15) 1) 3))) rm
def modOk (reg rm : Nat) (w : Bool) (third : Nat) : Bool :=
  let b := iand .u8 (rexS reg rm w) 15
  let M := modS third rm
  isBb M && ieq (ishr .u8 M 6) 3 && ieq (iconv .i64 (iand .u8 (ishr .u8 M 3) 7)) third && ieq (takeLow b M) rm && (!(third == reg % 8) || ieq (takeReg b M) reg)
theorem rex_all : (List.range 16).all (fun reg => (List.range 16).all fun rm => [true, false].all fun w => rexOk reg rm w) = true := by decide +kernel
theorem mod_all : (List.range 16).all (fun reg => (List.range 16).all fun rm => [true, false].all fun w => (List.range 8).all fun t => modOk reg rm w t) = true := by decide +kernel
theorem mem_bool (w : Bool) : w ∈ [true, false] := by cases w <;> simp
theorem rex_ok {reg rm : Nat} (w : Bool) (h1 : reg < 16) (h2 : rm < 16) : rexOk reg rm w = true :=
  List.all_eq_true.1 (List.all_eq_true.1 (List.all_eq_true.1 rex_all reg (List.mem_range.2 h1)) rm (List.mem_range.2 h2)) w (mem_bool w)
theorem mod_ok {reg rm t : Nat} (w : Bool) (h1 : reg < 16) (h2 : rm < 16) (h3 : t < 8) : modOk reg rm w t = true :=
  List.all_eq_true.1 (List.all_eq_true.1 (List.all_eq_true.1 (List.all_eq_true.1 mod_all reg (List.mem_range.2 h1)) rm (List.mem_range.2 h2)) w (mem_bool w)) t (List.mem_range.2 h3)

/-- Of a form, with a register in its opcode. -/
def formOk (f : DForm) (rm : Nat) : Bool :=
  let o := opS f rm
  isBb o && (ieq f.1 0 || ((ieq f.1 102 || ieq f.1 243) && isBb f.1)) && codeB f o &&
  (ieq f.2.1 1 || (ieq f.2.1 2 || (ieq f.2.1 3 || ieq f.2.1 0))) && (!(ieq f.2.1 0) || !(ieq o 15)) && (!(ieq f.2.1 1) || (!(ieq o 56) && !(ieq o 58))) &&
  (ieq (fDigit f) (-1) || (ile 0 (fDigit f) && ilt (fDigit f) 8)) && (hasOp f == (ile 1 (fKind f) && ile (fKind f) 5)) &&
  (!f.2.2.2.1 || (ieq f.2.1 0 && (List.range 32).any fun o => ieq f.2.2.1 (8 * (o : Nat) : Int))) && (!(hasOp f) || (ieq (fKind f) 3 || (ieq (fKind f) 4 || (ieq (fKind f) 5 || ieq (fDigit f) (-1))))) && (hasOp f || !(fMem f)) && (ile 0 (fWide f)) && (!(fVec f) || (ieq (fKind f) 1 || ieq (fKind f) 2)) &&
  (!(ieq (fKind f) 6 || ieq (fKind f) 7) || f.2.2.2.1)
theorem form_all : forms.all (fun f => (List.range 16).all fun rm => formOk f rm) = true := by decide +kernel
theorem form_ok {f : DForm} {rm : Nat} (hf : f ∈ forms) (h : rm < 16) : formOk f rm = true := List.all_eq_true.1 (List.all_eq_true.1 form_all f hf) rm (List.mem_range.2 h)

/-- The third bits: the digit, or the register's. -/
theorem third_eq {f : DForm} {reg rm : Nat} (hf : f ∈ forms) (hr : reg < 16) (h : rm < 16) : ∃ t : Nat, t < 8 ∧ thirdS f reg = t ∧ (fDigit f = -1 → t = reg % 8) ∧ (fDigit f ≠ -1 → (t : Int) = fDigit f) := by
  have h7 : (List.range 16).all (fun r => ieq (iconv .u8 (iand .i64 (r : Nat) 7)) ((r % 8 : Nat) : Int)) = true := by decide +kernel
  have hd8 : (List.range 8).all (fun r => ieq (iconv .u8 (r : Nat)) (r : Nat)) = true := by decide +kernel
  have hF := form_ok hf h
  simp only [formOk, Bool.and_eq_true, Bool.or_eq_true, ieq_iff, ile_iff, ilt_iff] at hF
  rcases hF.1.1.1.1.1.1.1.2 with hd | ⟨hd1, hd2⟩
  · refine ⟨reg % 8, Nat.mod_lt _ (by omega), ?_, fun _ => rfl, fun hn => (hn hd).elim⟩
    have : ile 0 (fDigit f) = false := by rw [hd]; rfl
    unfold thirdS
    rw [this, cond_false]
    exact ieq_iff.1 (List.all_eq_true.1 h7 reg (List.mem_range.2 hr))
  · obtain ⟨t, ht⟩ : ∃ t : Nat, fDigit f = t := ⟨(fDigit f).toNat, by omega⟩
    refine ⟨t, by omega, ?_, fun e => by omega, fun _ => ht.symm⟩
    unfold thirdS
    have : ile 0 (fDigit f) = true := by rw [ile_iff]; omega
    rw [this, cond_true, ht]
    exact ieq_iff.1 (List.all_eq_true.1 hd8 t (List.mem_range.2 (by omega)))

/-! ### What stands ahead -/
def headS (f : DForm) (reg rm : Int) (w : Bool) : DH := (f.1, (true, (iand .u8 (rexS reg rm w) 15, (f.2.1, opS f rm))))

theorem ahead_code {f : DForm} {reg rm : Nat} (w : Bool) (hf : f ∈ forms) (h1 : reg < 16) (h2 : rm < 16) (r : List Int) :
    aheadS (preL f ++ [rexS reg rm w] ++ mapL f (opS f rm) ++ r) = some (headS f reg rm w, r) := by
  have hR := rex_ok w h1 h2
  have hF := form_ok hf h2
  simp only [rexOk, Bool.and_eq_true, Bool.not_eq_true'] at hR
  obtain ⟨⟨⟨⟨⟨⟨_, r89⟩, r102⟩, r243⟩, _⟩, _⟩, _⟩ := hR
  simp only [formOk, Bool.and_eq_true, Bool.or_eq_true, Bool.not_eq_true'] at hF
  obtain ⟨⟨⟨⟨⟨⟨⟨⟨⟨⟨⟨⟨⟨_, fp⟩, _⟩, fm⟩, fm0⟩, fm1⟩, _⟩, _⟩, _⟩, _⟩, _⟩, _⟩, _⟩, _⟩ := hF
  have s1 : ∀ p, (aS1 p (rexS reg rm w) (mapL f (opS f rm) ++ r)) = some ((p, (true, (iand .u8 (rexS reg rm w) 15, (f.2.1, opS f rm)))), r) := by
    intro p
    unfold aS1 mapL
    rw [r89, cond_true]
    rcases fm with e | e | e | e
    · have e56 := (fm1.resolve_left (by rw [e]; decide)).1
      have e58 := (fm1.resolve_left (by rw [e]; decide)).2
      rw [e]
      simp only [cond_true, List.cons_append, List.nil_append, byteP, aS2, show ieq 15 15 = true from rfl, aS3, e56, e58, cond_false, retP, ieq_iff.1 e]
    · have e1 : ieq f.2.1 1 = false := by rw [ieq_no, ieq_iff.1 e]; decide
      rw [e1, e]
      simp only [cond_true, cond_false, List.cons_append, List.nil_append, byteP, aS2, show ieq 15 15 = true from rfl, aS3, show ieq 56 56 = true from rfl, retP, ieq_iff.1 e]
    · have e1 : ieq f.2.1 1 = false := by rw [ieq_no, ieq_iff.1 e]; decide
      have e2 : ieq f.2.1 2 = false := by rw [ieq_no, ieq_iff.1 e]; decide
      rw [e1, e2, e]
      simp only [cond_true, cond_false, List.cons_append, List.nil_append, byteP, aS2, show ieq 15 15 = true from rfl, aS3, show ieq 58 56 = false from rfl, show ieq 58 58 = true from rfl, retP, ieq_iff.1 e]
    · have e1 : ieq f.2.1 1 = false := by rw [ieq_no, ieq_iff.1 e]; decide
      have e2 : ieq f.2.1 2 = false := by rw [ieq_no, ieq_iff.1 e]; decide
      have e3 : ieq f.2.1 3 = false := by rw [ieq_no, ieq_iff.1 e]; decide
      have e15 := fm0.resolve_left (by rw [e]; decide)
      rw [e1, e2, e3]
      simp only [cond_false, List.cons_append, List.nil_append, byteP, aS2, e15, retP, ieq_iff.1 e]
  unfold aheadS preL headS
  rcases fp with e | ⟨e, _⟩
  · have e0 : ine f.1 0 = false := by rw [ine_no, ieq_iff.1 e]
    rw [e0]
    simp only [cond_false, List.nil_append, List.cons_append, List.append_assoc, byteP, aS0, r102, r243, Bool.or_self]
    rw [s1 0, ieq_iff.1 e]
  · have e0 : ine f.1 0 = true := by rcases e with e | e <;> rw [ine_iff, ieq_iff.1 e] <;> decide
    have eo : (ieq f.1 102 || ieq f.1 243) = true := by rcases e with e | e <;> rw [e] <;> simp
    rw [e0]
    simp only [cond_true, List.nil_append, List.cons_append, List.append_assoc, byteP, aS0, eo]
    exact s1 f.1

/-! ### The form, operands, the number -/
theorem found_code {f : DForm} {reg rm : Nat} (w : Bool) (hf : f ∈ forms) (h2 : rm < 16) {d : Int} (hd : fDigit f = -1 ∨ fDigit f = d) : foundB (keyS (headS f reg rm w) d) = (f, true) := by
  have hF := form_ok hf h2
  simp only [formOk, Bool.and_eq_true] at hF
  obtain ⟨⟨⟨⟨⟨⟨⟨⟨⟨⟨⟨⟨⟨_, _⟩, fc⟩, _⟩, _⟩, _⟩, _⟩, _⟩, _⟩, _⟩, _⟩, _⟩, _⟩, _⟩ := hF
  refine found_of hf ?_
  simp only [fitsB, keyS, headS, Bool.and_eq_true, Bool.or_eq_true, ieq_iff]
  exact ⟨trivial, trivial, fc, hd⟩

/-- What is read of the operand's byte: the register's number. -/
def regNo (f : DForm) (reg rm : Int) (w : Bool) : Int := takeReg (iand .u8 (rexS reg rm w) 15) (modS (thirdS f reg) rm)

theorem take_code {f : DForm} {reg rm : Nat} (w : Bool) (hf : f ∈ forms) (h1 : reg < 16) (h2 : rm < 16) (r : List Int) :
    takeS (iand .u8 (rexS reg rm w) 15) (modS (thirdS f reg) rm :: r) = some ((regNo f reg rm w, fn60 rm), r) := by
  obtain ⟨t, ht, et, _⟩ := third_eq hf h1 h2
  have hM := mod_ok w h1 h2 ht
  simp only [modOk, Bool.and_eq_true] at hM
  rw [← et] at hM
  obtain ⟨⟨⟨⟨_, m6⟩, _⟩, ml⟩, _⟩ := hM
  have m6' := ieq_iff.1 m6
  simp only [takeS, byteP, m6, cond_true]
  rw [m6']
  have hw : widthS 3 = 0 := rfl
  rw [hw]
  unfold dispP bytesP
  simp only [Int.toNat_zero, Nat.zero_le, if_true, List.take_zero, List.drop_zero, List.length_nil, dispL, retP]
  rw [ieq_iff.1 ml]
  rfl

/-- The operands that are read. -/
def opndC (f : DForm) (reg rm : Int) (w : Bool) : DOperand × DOperand := cond (hasOp f) (regV f (regNo f reg rm w), rmV f (fn60 rm)) (zO, zO)

theorem one_code {f : DForm} {reg rm : Nat} (w : Bool) (hf : f ∈ forms) (h1 : reg < 16) (h2 : rm < 16) {tail : List Int} (hl : tail.length = 8) :
    oneP (codeL f reg rm w ++ tail) = cond (fMem f || (fMust f && !w)) none
      (some ((headS f reg rm w, (f, ((opndC f reg rm w).1, ((opndC f reg rm w).2, numS f (tail.take (fImm f).toNat))))), tail.drop (fImm f).toNat)) := by
  have hR := rex_ok w h1 h2
  have hF := form_ok hf h2
  obtain ⟨hk, hi⟩ := forms_fact f hf
  obtain ⟨t, ht, et, td1, td2⟩ := third_eq hf h1 h2
  simp only [rexOk, Bool.and_eq_true, Bool.not_eq_true', beq_iff_eq] at hR
  obtain ⟨⟨⟨⟨⟨⟨_, _⟩, _⟩, _⟩, rw8⟩, _⟩, _⟩ := hR
  simp only [formOk, Bool.and_eq_true, Bool.or_eq_true, Bool.not_eq_true', beq_iff_eq] at hF
  obtain ⟨⟨⟨⟨⟨⟨⟨⟨⟨⟨⟨⟨⟨_, _⟩, _⟩, _⟩, _⟩, _⟩, _⟩, fk⟩, _⟩, _⟩, fmem⟩, _⟩, _⟩, _⟩ := hF
  have hnum : ∀ {β : Type} (q : Int → Pz β), bindP (numP f) q tail = q (numS f (tail.take (fImm f).toNat)) (tail.drop (fImm f).toNat) := by
    intro β q
    unfold bindP numP bytesP
    rw [if_pos (by omega)]
    rfl
  have hmust : ieq (iand .u8 (headS f reg rm w).2.2.1 8) 0 = !w := rw8
  unfold oneP codeL
  rw [List.append_assoc, bindP, ahead_code w hf h1 h2]
  simp only
  unfold formP modL
  rw [← fk]
  cases hop : hasOp f with
  | true =>
    simp only [cond_true, List.cons_append, List.nil_append]
    have hM := mod_ok w h1 h2 ht
    simp only [modOk, Bool.and_eq_true] at hM
    rw [← et] at hM
    obtain ⟨⟨⟨⟨_, _⟩, m3⟩, _⟩, _⟩ := hM
    have hdig : digitB (modS (thirdS f reg) rm :: tail) = t := by rw [← et]; exact ieq_iff.1 m3
    rw [found_code w hf h2 (by
      by_cases e : fDigit f = -1
      · exact .inl e
      · exact .inr (by rw [hdig, td2 e]))]
    simp only [Bool.true_and, hmust]
    cases hm : (fMust f && !w) with
    | true => simp only [Bool.not_true, cond_false, Bool.or_true, cond_true]
    | false =>
      simp only [Bool.not_false, cond_true, Bool.or_false]
      unfold restP opndP opndC
      rw [hop, cond_true, cond_true]
      have htk := take_code w hf h1 h2 tail
      have hb : badOp (headS f reg rm w) f (regNo f reg rm w) (fn60 rm) = fMem f := by
        unfold badOp headS
        simp only [show ieq (fn60 (rm : Int)).1 1 = true from rfl, Bool.and_true, Bool.not_true, Bool.false_and, Bool.and_false, Bool.or_false]
      unfold bindP
      rw [show (headS f reg rm w).2.2.1 = iand .u8 (rexS reg rm w) 15 from rfl, htk]
      simp only [hb]
      cases hmem : fMem f with
      | true => rfl
      | false =>
        simp only [cond_false, retP]
        have := hnum fun n => retP (headS f reg rm w, (f, (regV f (regNo f reg rm w), (rmV f (fn60 rm), n))))
        unfold bindP retP at this
        exact this
  | false =>
    have hmem : fMem f = false := fmem.resolve_left (by rw [hop]; decide)
    have hdg := (forms_more f hf).1 hop
    simp only [cond_false, List.nil_append]
    rw [found_code w hf h2 (.inl hdg)]
    simp only [Bool.true_and, hmust, hmem, Bool.false_or]
    cases hm : (fMust f && !w) with
    | true => rfl
    | false =>
      simp only [Bool.not_false, cond_true, cond_false]
      unfold restP opndC
      rw [hop, cond_false]
      exact hnum fun n => retP (headS f reg rm w, (f, (zO, (zO, n))))
end
end Go.Eng.RD
end
section
/- DecodeForms: plain. -/
namespace Go.Eng.RD
open Go.Eng
set_option maxRecDepth 100000
set_option linter.unusedSectionVars false
noncomputable section

theorem pre63_ok : pre63 () := by
  unfold pre63 tree63; simp only [ok_need, ok_ret]; simp
theorem pre64_ok : pre64 () := by
  unfold pre64 tree64; simp only [ok_need, ok_ret]; simp
theorem pre65_ok : pre65 () := by
  unfold pre65 tree65; simp only [ok_need, ok_ret]; simp
theorem len63 : (fn63 ()).length = 51 := by rw [fn63_eq]; rfl
theorem len64 : (fn64 ()).length = 71 := by rw [fn64_eq]; rfl
theorem len65 : (fn65 ()).length = 9 := by rw [fn65_eq]; rfl
theorem pre33_ok (x) : pre33 x := by
  unfold pre33 tree33
  simp only [ok_need, ok_ret, ok_ite, pre63_ok, pre64_ok, pre65_ok, len63, len64, len65]
  simp [ilt]
theorem fn33_ok' (x) : fn33 x = forms := by
  cases x
  kernel_rfl
theorem forms_len : forms.length = 139 := rfl

theorem pre34_ok (x) : pre34 x := by
  unfold pre34 tree34; simp only [ok_ite, ok_need, ok_ret]; simp
theorem fn34_ok (f : DForm) : fn34 f = mapL f f.2.2.1 := by
  unfold fn34 tree34 mapL
  simp only [val_ite, val_need, val_ret]

/-- A rest, made to lie from 0 on. -/
theorem rest_mod (x : Int) {n : Nat} (h1 : 0 < n) (h2 : n ≤ 1000) : ∃ m : Nat, irem .i64 (iadd .i64 (irem .i64 x n) n) n = m ∧ m < n := by
  have hn : (0 : Int) < n := by omega
  have b1 : x.tmod n < n := Int.tmod_lt_of_pos x hn
  have b2 : -(n : Int) < x.tmod n := Int.lt_tmod_of_pos x hn
  have e : iadd .i64 (x.tmod n) n = x.tmod n + n := by rw [iadd_i64] <;> omega
  have e2 : irem .i64 (iadd .i64 (irem .i64 x n) n) n = (x.tmod n + n).tmod n := by
    unfold irem; rw [e]
  rw [e2]
  have p1 := Int.tmod_nonneg (n : Int) (show 0 ≤ x.tmod n + n by omega)
  have p2 := Int.tmod_lt_of_pos (x.tmod n + n) hn
  exact ⟨((x.tmod n + n).tmod n).toNat, by omega, by omega⟩

abbrev X11 : Type := Int × (Int × (Int × (Bool × List Int)))

/-- The opcode's bytes, as they are put together. -/
theorem plus_set {f : DForm} {rm : Nat} (hf : f ∈ forms) (h2 : rm < 16) (l : List Int) (hp : f.2.2.2.1 = true) :
    ((l ++ mapL f f.2.2.1).set (0 + ((((l.length + (mapL f f.2.2.1).length : Nat) : Int) - 1)).toNat) (iadd .u8 (rdc (.int .u8) (l ++ mapL f f.2.2.1) (0 + ((((l.length + (mapL f f.2.2.1).length : Nat) : Int) - 1)).toNat)) (iconv .u8 (iand .i64 rm 7)))) = l ++ mapL f (opS f rm) := by
  have hF := form_ok hf h2
  simp only [formOk, Bool.and_eq_true, Bool.or_eq_true, Bool.not_eq_true'] at hF
  obtain ⟨⟨⟨⟨⟨⟨_, fpl⟩, _⟩, _⟩, _⟩, _⟩, _⟩ := hF
  have hm := (fpl.resolve_left (by rw [hp]; decide)).1
  have hm0 := ieq_iff.1 hm
  have hml : ∀ o, mapL f o = [o] := fun o => by unfold mapL; rw [hm0]; rfl
  rw [hml, hml]
  have e : (0 + (((l.length + ([f.2.2.1] : List Int).length : Nat) : Int) - 1).toNat) = l.length := by simp
  rw [e]
  have e2 : rdc (.int .u8) (l ++ [f.2.2.1]) l.length = f.2.2.1 := by simp [rdc]
  rw [e2]
  unfold opS
  rw [hp, cond_true]
  simp

theorem mapL_len (f : DForm) (o : Int) : 1 ≤ (mapL f o).length ∧ (mapL f o).length ≤ 3 ∧ (mapL f o).length = (mapL f f.2.2.1).length := by
  unfold mapL
  cases ieq f.2.1 1 <;> cases ieq f.2.1 2 <;> cases ieq f.2.1 3 <;> simp

theorem code_byte {f : DForm} {reg rm : Nat} (w : Bool) (hf : f ∈ forms) (h1 : reg < 16) (h2 : rm < 16) : AllB (codeL f reg rm w) := by
  have hR := rex_ok w h1 h2
  have hF := form_ok hf h2
  obtain ⟨t, ht, et, _⟩ := third_eq hf h1 h2
  have hM := mod_ok w h1 h2 ht
  simp only [rexOk, Bool.and_eq_true] at hR
  obtain ⟨⟨⟨⟨⟨⟨rb, _⟩, _⟩, _⟩, _⟩, _⟩, _⟩ := hR
  simp only [formOk, Bool.and_eq_true, Bool.or_eq_true] at hF
  obtain ⟨⟨⟨⟨⟨⟨⟨⟨⟨⟨⟨⟨⟨ob, fp⟩, _⟩, _⟩, _⟩, _⟩, _⟩, _⟩, _⟩, _⟩, _⟩, _⟩, _⟩, _⟩ := hF
  simp only [modOk, Bool.and_eq_true] at hM
  obtain ⟨⟨⟨⟨mb, _⟩, _⟩, _⟩, _⟩ := hM
  rw [← et] at mb
  have b : ∀ {a : Int}, isBb a = true → isB a := fun h => by simpa [isBb, isB] using h
  refine AllB.app (AllB.app (AllB.app ?_ ?_) ?_) ?_
  · unfold preL
    rcases fp with e | ⟨_, pb⟩
    · have e0 : ine f.1 0 = false := by rw [ine_no, ieq_iff.1 e]
      rw [e0]; intro c hc; cases hc
    · intro c hc
      cases hi : ine f.1 0 with
      | true => rw [hi] at hc; simp only [cond_true, List.mem_singleton] at hc; rw [hc]; exact b pb
      | false => rw [hi] at hc; cases hc
  · intro c hc; rw [List.mem_singleton.1 hc]; exact b rb
  · have k : ∀ c ∈ mapL f (opS f rm), c = 15 ∨ c = 56 ∨ c = 58 ∨ c = opS f rm := by
      unfold mapL
      cases ieq f.2.1 1 <;> cases ieq f.2.1 2 <;> cases ieq f.2.1 3 <;> (intro c hc; simp at hc; omega)
    intro c hc
    rcases k c hc with rfl | rfl | rfl | rfl
    · exact ⟨by decide, by decide⟩
    · exact ⟨by decide, by decide⟩
    · exact ⟨by decide, by decide⟩
    · exact b ob
  · unfold modL
    cases (ile 1 (fKind f) && ile (fKind f) 5) with
    | true => intro c hc; rw [List.mem_singleton.1 hc]; exact b mb
    | false => intro c hc; cases hc

/-- The operands' numbers. -/
theorem opnd_facts {f : DForm} {reg rm : Nat} (w : Bool) (hf : f ∈ forms) (h1 : reg < 16) (h2 : rm < 16) (n : Int) :
    let up : Int := cond (fVec f) 16 0
    let P := placesS (fKind f) ((opndC f reg rm w).1, ((opndC f reg rm w).2, (plusO (headS f reg rm w), immO n)))
    (fKind f = 1 → P.1.2.1 = iadd .i64 rm up ∧ P.2.2.1 = iadd .i64 reg up) ∧ (fKind f = 2 → P.1.2.1 = iadd .i64 reg up ∧ P.2.2.1 = iadd .i64 rm up) ∧
    (fKind f = 3 ∨ fKind f = 4 ∨ fKind f = 5 ∨ fKind f = 6 ∨ fKind f = 7 → P.1.2.1 = rm ∧ P.1.1 = 1) ∧ (fKind f = 8 → P.1 = zO ∧ P.2.1 = 3) ∧ (fKind f = 0 → P = (zO, zO)) := by
  have hR := rex_ok w h1 h2
  have hF := form_ok hf h2
  obtain ⟨t, ht, et, td, _⟩ := third_eq hf h1 h2
  have hM := mod_ok w h1 h2 ht
  simp only [rexOk, Bool.and_eq_true] at hR
  obtain ⟨_, rplus⟩ := hR
  simp only [formOk, Bool.and_eq_true, Bool.or_eq_true, Bool.not_eq_true'] at hF
  obtain ⟨⟨⟨⟨⟨⟨_, fpl⟩, fdig⟩, _⟩, _⟩, fvec⟩, fk67⟩ := hF
  simp only [modOk, Bool.and_eq_true, Bool.or_eq_true, Bool.not_eq_true', beq_eq_false_iff_ne] at hM
  obtain ⟨_, mreg⟩ := hM
  have z : ∀ a : Nat, a < 16 → iadd .i64 (a : Int) 0 = (a : Int) := fun a ha => by rw [iadd_i64] <;> omega
  have hop : ∀ k : Int, fKind f = k → hasOp f = (ieq k 1 || (ieq k 2 || (ieq k 3 || (ieq k 4 || ieq k 5)))) := fun k e => by unfold hasOp; rw [e]
  have hreg : (fKind f = 1 ∨ fKind f = 2) → regNo f reg rm w = reg := by
    intro hk
    have hd : fDigit f = -1 := by
      have hh : hasOp f = true := by rcases hk with e | e <;> (rw [hop _ e]; rfl)
      rcases fdig with h | h
      · rw [hh] at h; cases h
      · simp only [ieq_iff] at h
        omega
    unfold regNo
    rw [et]
    have e := td hd
    subst e
    exact ieq_iff.1 (mreg.resolve_left (fun h => h rfl))
  have hv : (fKind f = 1 ∨ fKind f = 2) ∨ fVec f = false := by
    rcases fvec with h | h
    · exact .inr h
    · simp only [ieq_iff] at h; exact .inl h
  refine ⟨fun hk => ?_, fun hk => ?_, fun hk => ?_, fun hk => ?_, fun hk => ?_⟩
  · have e1 : placesS (fKind f) = fn195 := by rw [hk]; rfl
    rw [e1]
    unfold opndC
    rw [hop _ hk, hreg (.inl hk)]
    cases hvv : fVec f with
    | true => unfold regV rmV; rw [hvv]; exact ⟨rfl, rfl⟩
    | false =>
      unfold regV rmV; rw [hvv]
      exact ⟨(z rm h2).symm, (z reg h1).symm⟩
  · have e1 : placesS (fKind f) = fn196 := by rw [hk]; rfl
    rw [e1]
    unfold opndC
    rw [hop _ hk, hreg (.inr hk)]
    cases hvv : fVec f with
    | true => unfold regV rmV; rw [hvv]; exact ⟨rfl, rfl⟩
    | false =>
      unfold regV rmV; rw [hvv]
      exact ⟨(z reg h1).symm, (z rm h2).symm⟩
  · have hvf : fVec f = false := hv.resolve_left (by omega)
    have h67 : (fKind f = 6 ∨ fKind f = 7) → plusO (headS f reg rm w) = fn60 rm := by
      intro hk
      have hp : f.2.2.2.1 = true := by
        rcases fk67 with h | h
        · simp only [Bool.or_eq_false_iff, ieq_no] at h; omega
        · exact h
      have ho := (fpl.resolve_left (by rw [hp]; decide)).2
      obtain ⟨o, ho1, ho2⟩ := List.any_eq_true.1 ho
      have hr := ieq_iff.1 (List.all_eq_true.1 rplus o ho1)
      rw [← ieq_iff.1 ho2] at hr
      unfold plusO headS opS
      rw [hp, cond_true]
      simp only
      rw [hr]
    rcases hk with hk | hk | hk | hk | hk
    · have e1 : placesS (fKind f) = fn197 := by rw [hk]; rfl
      rw [e1]; unfold opndC rmV; rw [hop _ hk, hvf]; exact ⟨rfl, rfl⟩
    · have e1 : placesS (fKind f) = fn198 := by rw [hk]; rfl
      rw [e1]; unfold opndC rmV; rw [hop _ hk, hvf]; exact ⟨rfl, rfl⟩
    · have e1 : placesS (fKind f) = fn199 := by rw [hk]; rfl
      rw [e1]; unfold opndC rmV; rw [hop _ hk, hvf]; exact ⟨rfl, rfl⟩
    · have e1 : placesS (fKind f) = fn200 := by rw [hk]; rfl
      rw [e1, h67 (.inl hk)]; exact ⟨rfl, rfl⟩
    · have e1 : placesS (fKind f) = fn201 := by rw [hk]; rfl
      rw [e1, h67 (.inr hk)]; exact ⟨rfl, rfl⟩
  · have e1 : placesS (fKind f) = fn202 := by rw [hk]; rfl
    rw [e1]; exact ⟨rfl, rfl⟩
  · have e1 : placesS (fKind f) = fn194 := by rw [hk]; rfl
    rw [e1]; rfl
end
end Go.Eng.RD
end
section
/- The document's One: what stands ahead, the form. -/
namespace Go.Eng.RD
open Go.Eng
set_option maxRecDepth 100000
set_option linter.unusedSectionVars false
noncomputable section

/-! ### Find -/
theorem rfind_h0 (k : Key) (hk : isB k.2.2.1) : ∀ (m i : Nat), i + m = forms.length → Ends (step48 k) (foundIn (forms.drop i) k) (step48 k (.h0 forms i)) := by
  intro m
  induction m with
  | zero =>
    intro i hi
    rw [List.drop_of_length_le (by omega)]
    simp only [step48]
    simp only [lt_no (show forms.length ≤ i by omega), ends_ite, ends_ret]
    exact ⟨(fun h => by cases h), fun _ => rfl⟩
  | succ m ih =>
    intro i hi
    have hf := forms_len
    have hi' : i < forms.length := by omega
    have hb := forms_byte _ (List.getElem_mem hi')
    rw [List.drop_eq_getElem_cons hi', foundIn_cons]
    simp only [step48]
    simp only [lt_yes hi', ends_ite, ends_need, ends_jump, ends_ret, Int.toNat_natCast, rdc_form forms i hi', pre81_ok, one_more i (by omega)]
    rw [fn81_ok _ hb hk]
    refine ⟨fun _ => ⟨by omega, by omega, trivial, fun h => ⟨by omega, by omega, ?_⟩, fun h => ?_⟩, (fun h => by cases h)⟩
    · rw [if_pos h]
    · rw [if_neg (by simp [h])]
      exact ih (i + 1) (by omega)

theorem rfind_ends (k : Key) (hk : isB k.2.2.1) : Ends (step48 k) (foundB k) (tree48 k) := by
  unfold tree48
  simp only [ends_need, ends_jump, pre33_ok, fn33_ok']
  exact ⟨trivial, rfind_h0 k hk _ 0 (Nat.zero_add _)⟩

theorem pre48_ok (k : Key) (hk : isB k.2.2.1) : pre48 k := ⟨_, rfind_ends k hk⟩
theorem fn48_ok (k : Key) (hk : isB k.2.2.1) : fn48 k = foundB k := endVal_eq (rfind_ends k hk)



/-! ### What stands ahead -/
def goodA (x : List Int) : Option (DH × List Int) → Dhead × Bool → Prop
  | some (h, t), r => r = ((h.1, (h.2.1, (h.2.2.1, (h.2.2.2.1, (h.2.2.2.2, (x.length : Int) - t.length))))), true)
  | none, r => r.2 = false

theorem rex_same {c : Int} (h : isB c) : ieq (iand .u8 c 240) 64 = fn89 c := by
  have key : (List.range 256).all (fun n => ieq (iand .u8 (n : Nat) 240) 64 == fn89 (n : Nat)) = true := by decide +kernel
  obtain ⟨h1, h2⟩ := h
  have := List.all_eq_true.1 key c.toNat (List.mem_range.2 (by omega))
  rw [Int.toNat_of_nonneg h1] at this
  simpa using this

section
variable {x : List Int} (hl : x.length ≤ 1000) (hB : AllB x)
include hl hB

theorem at_drop {n : Nat} {c : Int} {t : List Int} (h : x.drop n = c :: t) : n < x.length ∧ rdc (.int .u8) x n = c ∧ x.drop (n + 1) = t ∧ isB c ∧ (x.length : Int) - t.length = ((n + 1 : Nat) : Int) ∧ iadd .i64 (n : Int) 1 = ((n + 1 : Nat) : Int) := by
  have hlen := congrArg List.length h
  simp only [List.length_drop, List.length_cons] at hlen
  have hn : n < x.length := by omega
  rw [List.drop_eq_getElem_cons hn] at h
  obtain ⟨h1, h2⟩ := List.cons.inj h
  refine ⟨hn, by rw [rdc_at (c := .int .u8) hn]; exact h1, h2, h1 ▸ hB _ (List.getElem_mem hn), by omega, one_more n (by omega)⟩
theorem no_drop {n : Nat} (h : x.drop n = []) : x.length ≤ n := by
  have hlen := congrArg List.length h
  simp at hlen; omega

theorem ra_h2 (n : Nat) (p : Int) (rex : Bool) (bits tab : Int) : ∃ r, Ends (step47 x) r (step47 x (.h2 p rex bits tab n)) ∧ goodA x (byteP (fun o => retP (p, (rex, (bits, (tab, o))))) (x.drop n)) r := by
  cases hd : x.drop n with
  | nil =>
    have hn := no_drop hl hB hd
    refine ⟨((p, (rex, (bits, (tab, (0, (n : Int)))))), false), ?_, rfl⟩
    simp only [step47]
    simp only [ends_ite, ends_ret, ends_jump]
    exact ⟨fun _ => trivial, fun h => by rw [ile_no] at h; omega⟩
  | cons c t =>
    obtain ⟨hn, hr, _, _, hlen, hadd⟩ := at_drop hl hB hd
    refine ⟨((p, (rex, (bits, (tab, (c, ((n + 1 : Nat) : Int)))))), true), ?_, ?_⟩
    · simp only [step47]
      simp only [ends_ite, ends_ret, ends_jump]
      refine ⟨fun h => by rw [ile_iff] at h; omega, fun _ => ?_⟩
      simp only [step47]
      simp only [ends_need, ends_ret, Int.toNat_natCast, hr, hadd]
      exact ⟨by omega, by omega, trivial⟩
    · show _ = _
      rw [hlen]

theorem ra_h1 (n : Nat) (p : Int) (rex : Bool) (bits : Int) : ∃ r, Ends (step47 x) r (step47 x (.h1 p rex bits n)) ∧ goodA x (byteP (aS2 p rex bits) (x.drop n)) r := by
  have h2 := fun n tab => ra_h2 hl hB n p rex bits tab
  cases hd : x.drop n with
  | nil =>
    have hn := no_drop hl hB hd
    obtain ⟨r, hr, hg⟩ := h2 n 0
    refine ⟨r, ?_, by rw [hd] at hg; exact hg⟩
    simp only [step47]
    simp only [ends_ite, ends_jump]
    exact ⟨fun h => (by rw [lt_no hn] at h; cases h), fun _ => hr⟩
  | cons c t =>
    obtain ⟨hn, hr, ht, _, _, hadd⟩ := at_drop hl hB hd
    cases e15 : ieq c 15 with
    | false =>
      obtain ⟨r, hr2, hg⟩ := h2 n 0
      refine ⟨r, ?_, ?_⟩
      · simp only [step47]
        simp only [ends_ite, ends_need, ends_jump, Int.toNat_natCast, hr, e15]
        exact ⟨fun _ => ⟨by omega, by omega, (fun h => by cases h), fun _ => hr2⟩, fun h => (by rw [lt_yes hn] at h; cases h)⟩
      · rw [hd] at hg
        simp only [byteP, aS2, e15, cond_false]
        exact hg
    | true =>
      have hS : byteP (aS2 p rex bits) (c :: t) = byteP (aS3 p rex bits) t := by simp only [byteP, aS2, e15, cond_true]
      rw [hS]
      have go : ∀ r, Ends (step47 x) r (.ite ((ilt ((n + 1 : Nat) : Int) (x.length : Int)) == true) (.need ((0 : Int) ≤ ((n + 1 : Nat) : Int)) (.need (((n + 1 : Nat) : Int) < (x.length : Int)) (.ite (ieq (rdc (.int .u8) x (n + 1)) 56) (.ret (.inl (.h2 p rex bits 2 (iadd .i64 ((n + 1 : Nat) : Int) 1))))
          (.ite ((ilt ((n + 1 : Nat) : Int) (x.length : Int)) == true) (.need ((0 : Int) ≤ ((n + 1 : Nat) : Int)) (.need (((n + 1 : Nat) : Int) < (x.length : Int)) (.ite (ieq (rdc (.int .u8) x (n + 1)) 58) (.ret (.inl (.h2 p rex bits 3 (iadd .i64 ((n + 1 : Nat) : Int) 1)))) (.ret (.inl (.h2 p rex bits 1 ((n + 1 : Nat) : Int))))))) (.ret (.inl (.h2 p rex bits 1 ((n + 1 : Nat) : Int))))))))
          (.ite ((ilt ((n + 1 : Nat) : Int) (x.length : Int)) == true) (.need ((0 : Int) ≤ ((n + 1 : Nat) : Int)) (.need (((n + 1 : Nat) : Int) < (x.length : Int)) (.ite (ieq (rdc (.int .u8) x (n + 1)) 58) (.ret (.inl (.h2 p rex bits 3 (iadd .i64 ((n + 1 : Nat) : Int) 1)))) (.ret (.inl (.h2 p rex bits 1 ((n + 1 : Nat) : Int))))))) (.ret (.inl (.h2 p rex bits 1 ((n + 1 : Nat) : Int)))))) →
          Ends (step47 x) r (step47 x (.h1 p rex bits n)) := fun r h => by
        simp only [step47]
        simp only [ends_ite, ends_need, ends_jump, Int.toNat_natCast, hr, e15, hadd] at h ⊢
        exact ⟨fun _ => ⟨by omega, by omega, fun _ => h, (fun h => by cases h)⟩, fun h => (by rw [lt_yes hn] at h; cases h)⟩
      cases t with
      | nil =>
        have hn1 := no_drop hl hB ht
        obtain ⟨r, hr2, hg⟩ := h2 (n + 1) 1
        refine ⟨r, go r ?_, by rw [ht] at hg; exact hg⟩
        simp only [ends_ite, ends_need, ends_jump]
        refine ⟨fun h => (by rw [lt_no hn1] at h; cases h), fun _ => ⟨fun h => (by rw [lt_no hn1] at h; cases h), fun _ => hr2⟩⟩
      | cons c1 t1 =>
        obtain ⟨hn1, hr1, ht1, _, _, hadd1⟩ := at_drop hl hB ht
        have hS : byteP (aS3 p rex bits) (c1 :: t1) = aS3 p rex bits c1 t1 := rfl
        rw [hS]
        cases e56 : ieq c1 56 with
        | true =>
          obtain ⟨r, hr2, hg⟩ := h2 (n + 2) 2
          rw [ht1] at hg
          refine ⟨r, go r ?_, by unfold aS3; rw [e56]; exact hg⟩
          simp only [ends_ite, ends_need, ends_jump, hr1, e56, hadd1]
          refine ⟨fun _ => ⟨by omega, by omega, fun _ => hr2, (fun h => by cases h)⟩, fun h => (by rw [lt_yes hn1] at h; cases h)⟩
        | false =>
          cases e58 : ieq c1 58 with
          | true =>
            obtain ⟨r, hr2, hg⟩ := h2 (n + 2) 3
            rw [ht1] at hg
            refine ⟨r, go r ?_, by unfold aS3; rw [e56, e58]; exact hg⟩
            simp only [ends_ite, ends_need, ends_jump, hr1, e56, e58, hadd1]
            refine ⟨fun _ => ⟨by omega, by omega, (fun h => by cases h), fun _ => ⟨fun _ => ⟨by omega, by omega, fun _ => hr2, (fun h => by cases h)⟩, fun h => (by rw [lt_yes hn1] at h; cases h)⟩⟩, fun h => (by rw [lt_yes hn1] at h; cases h)⟩
          | false =>
            obtain ⟨r, hr2, hg⟩ := h2 (n + 1) 1
            rw [ht] at hg
            refine ⟨r, go r ?_, by unfold aS3; rw [e56, e58]; exact hg⟩
            simp only [ends_ite, ends_need, ends_jump, hr1, e56, e58]
            refine ⟨fun _ => ⟨by omega, by omega, (fun h => by cases h), fun _ => ⟨fun _ => ⟨by omega, by omega, (fun h => by cases h), fun _ => hr2⟩, fun h => (by rw [lt_yes hn1] at h; cases h)⟩⟩, fun h => (by rw [lt_yes hn1] at h; cases h)⟩

theorem ra_h0 (n : Nat) (p : Int) : ∃ r, Ends (step47 x) r (step47 x (.h0 p n)) ∧ goodA x (byteP (aS1 p) (x.drop n)) r := by
  have h1 := fun n rex bits => ra_h1 hl hB n p rex bits
  cases hd : x.drop n with
  | nil =>
    have hn := no_drop hl hB hd
    obtain ⟨r, hr, hg⟩ := h1 n false 0
    refine ⟨r, ?_, by rw [hd] at hg; exact hg⟩
    simp only [step47]
    simp only [ends_ite, ends_jump]
    exact ⟨fun h => (by rw [lt_no hn] at h; cases h), fun _ => hr⟩
  | cons c t =>
    obtain ⟨hn, hr, ht, hb, _, hadd⟩ := at_drop hl hB hd
    have hx := rex_same hb
    cases e : fn89 c with
    | true =>
      obtain ⟨r, hr2, hg⟩ := h1 (n + 1) true (iand .u8 c 15)
      rw [ht] at hg
      refine ⟨r, ?_, by simp only [byteP, aS1, e, cond_true]; exact hg⟩
      simp only [step47]
      simp only [ends_ite, ends_need, ends_jump, Int.toNat_natCast, hr, hx, e, hadd]
      exact ⟨fun _ => ⟨by omega, by omega, fun _ => ⟨by omega, by omega, hr2⟩, (fun h => by cases h)⟩, fun h => (by rw [lt_yes hn] at h; cases h)⟩
    | false =>
      obtain ⟨r, hr2, hg⟩ := h1 n false 0
      rw [hd] at hg
      refine ⟨r, ?_, by simp only [byteP, aS1, e, cond_false]; exact hg⟩
      simp only [step47]
      simp only [ends_ite, ends_need, ends_jump, Int.toNat_natCast, hr, hx, e]
      exact ⟨fun _ => ⟨by omega, by omega, (fun h => by cases h), fun _ => hr2⟩, fun h => (by rw [lt_yes hn] at h; cases h)⟩

theorem ra_ends : ∃ r, Ends (step47 x) r (tree47 x) ∧ goodA x (aheadS x) r := by
  have h0 := fun n p => ra_h0 hl hB n p
  unfold tree47
  cases hd : x with
  | nil =>
    obtain ⟨r, hr, hg⟩ := h0 0 0
    subst hd
    refine ⟨r, ?_, hg⟩
    simp only [ends_ite, ends_jump]
    exact ⟨fun h => (by cases h), fun _ => hr⟩
  | cons c t =>
    subst hd
    have hlen : (0 : Int) < ((c :: t).length : Nat) := by rw [List.length_cons]; omega
    have hS : aheadS (c :: t) = aS0 c t := rfl
    rw [hS]
    have hlt : (ilt 0 (((c :: t).length : Nat) : Int) == true) = true := by rw [show ilt 0 (((c :: t).length : Nat) : Int) = true from ilt_iff.2 hlen]; rfl
    cases e1 : ieq c 102 with
    | true =>
      obtain ⟨r, hr, hg⟩ := h0 1 c
      refine ⟨r, ?_, by unfold aS0; rw [e1]; exact hg⟩
      simp only [ends_ite, ends_need, ends_jump, rdc_zero, e1]
      exact ⟨fun _ => ⟨by omega, hlen, (fun h => by cases h), fun _ => ⟨by omega, hlen, hr⟩⟩, fun h => (by rw [hlt] at h; cases h)⟩
    | false =>
      cases e2 : ieq c 243 with
      | true =>
        obtain ⟨r, hr, hg⟩ := h0 1 c
        refine ⟨r, ?_, by unfold aS0; rw [e1, e2]; exact hg⟩
        simp only [ends_ite, ends_need, ends_jump, rdc_zero, e1, e2]
        exact ⟨fun _ => ⟨by omega, hlen, fun _ => ⟨by omega, hlen, fun _ => ⟨by omega, hlen, hr⟩, (fun h => by cases h)⟩, (fun h => by cases h)⟩, fun h => (by rw [hlt] at h; cases h)⟩
      | false =>
        obtain ⟨r, hr, hg⟩ := h0 0 0
        refine ⟨r, ?_, by unfold aS0; rw [e1, e2]; exact hg⟩
        simp only [ends_ite, ends_need, ends_jump, rdc_zero, e1, e2]
        exact ⟨fun _ => ⟨by omega, hlen, fun _ => ⟨by omega, hlen, (fun h => by cases h), fun _ => hr⟩, (fun h => by cases h)⟩, fun h => (by rw [hlt] at h; cases h)⟩

theorem pre47_ok : pre47 x := by obtain ⟨r, h, _⟩ := ra_ends hl hB; exact ⟨r, h⟩
theorem fn47_good : goodA x (aheadS x) (fn47 x) := by
  obtain ⟨r, h, hg⟩ := ra_ends hl hB
  have : fn47 x = r := endVal_eq h
  rw [this]; exact hg
end
end
end Go.Eng.RD
end
section
/- The document's One: operands, places. -/
namespace Go.Eng.RD
open Go.Eng
set_option maxRecDepth 100000
set_option linter.unusedSectionVars false
set_option linter.unusedSimpArgs false
noncomputable section

def takenR (b : List Int) : Option ((DOperand × DOperand) × List Int) → DOperand × (DOperand × (Int × Bool))
  | none => (zO, (zO, (0, false)))
  | some (a, r) => (a.1, (a.2, ((b.length : Int) - r.length, true)))

abbrev X50 : Type := Dhead × (DForm × List Int)
def headD (h : Dhead) : DH := (h.1, (h.2.1, (h.2.2.1, (h.2.2.2.1, h.2.2.2.2.1))))

theorem f50_h1 {x : X50} (n used : Int) (rm : DOperand) : Ends (step50 x) (regV x.2.1 n, (rmV x.2.1 rm, (used, true))) (step50 x (.h1 n used rm)) := by
  have h2 : ∀ a b, Ends (step50 x) (a, (b, (used, true))) (step50 x (.h2 used b a)) := fun a b => by
    simp only [step50, ends_ret]
  simp only [step50]
  simp only [ends_need, ends_ite, ends_jump]
  unfold regV rmV fVec
  refine ⟨trivial, fun hv => ⟨fun h1 => ?_, fun h1 => ?_⟩, fun hv => ?_⟩
  · rw [hv, h1]; exact h2 _ _
  · rw [hv, h1]; exact h2 _ _
  · rw [hv]; exact h2 _ _

set_option maxHeartbeats 8000000 in
theorem f50_h0 {x : X50} (n used : Int) (rm : DOperand) :
    Ends (step50 x) (cond (fByte x.2.1 && (!x.1.2.1 && (fn93 rm || (ieq (fWide x.2.1) 1 && (ieq (fKind x.2.1) 1 || ieq (fKind x.2.1) 2) && fn93 (fn60 n))))) (zO, (zO, (0, false))) (regV x.2.1 n, (rmV x.2.1 rm, (used, true)))) (step50 x (.h0 n used rm)) := by
  have k1 := f50_h1 (x := x) n used rm
  have k0 : Ends (step50 x) (zO, (zO, (0, false))) (.ret (.inr (zO, (zO, (0, false))))) := ends_ret.2 rfl
  have e1 : fn93 rm = cond (ieq rm.1 1) (cond (ile 4 rm.2.1) (ilt rm.2.1 8) false) false := by
    unfold fn93 tree93; simp only [val_ite, val_ret]
    cases ieq rm.1 1 <;> cases ile 4 rm.2.1 <;> rfl
  have e2 : fn93 (fn60 n) = cond (ile 4 n) (ilt n 8) false := by
    unfold fn93 tree93; simp only [val_ite, val_ret]
    show cond (ieq (1 : Int) 1 == true) (cond (ile 4 n == true) (ilt n 8) false) false = _
    cases ile 4 n <;> rfl
  rw [e1, e2]
  generalize (regV x.2.1 n, (rmV x.2.1 rm, (used, true))) = R at k1 ⊢
  unfold zO at k0 ⊢
  simp only [fByte, fWide, fKind]
  simp only [step50]
  generalize (ieq x.2.1.2.2.2.2.2.2.2.2.1 1) = kk1
  generalize (ieq x.2.1.2.2.2.2.2.2.2.2.1 2) = kk2
  generalize (ieq x.2.1.2.2.2.2.2.2.2.1 1) = w1
  generalize x.2.1.2.2.2.2.2.2.2.2.2.2.2.2.1 = y
  generalize x.1.2.1 = rx
  generalize ieq rm.1 1 = r1
  generalize ile 4 rm.2.1 = a
  generalize ilt rm.2.1 8 = b
  generalize ile 4 n = c
  generalize ilt n 8 = d
  cases y
  · simp only [ends_ite, ends_jump]; exact ⟨(fun h => by cases h), fun _ => k1⟩
  cases rx
  · cases w1 <;> cases r1 <;> cases a <;> cases b <;> cases c <;> cases d <;> cases kk1 <;> cases kk2 <;>
      (simp only [ends_ite, ends_jump, ends_ret, beq_self_eq_true, Bool.not_true, Bool.not_false, Bool.and_true, Bool.and_false, Bool.true_and, Bool.false_and, Bool.or_true, Bool.or_false, Bool.true_or, Bool.false_or, cond_true, cond_false, true_and, and_true,
        implies_true, forall_const, Bool.false_eq_true, Bool.true_eq_false, false_implies, true_implies, beq_false, beq_true, reduceCtorEq]; try exact k1)
  · simp only [ends_ite, ends_jump]; exact ⟨fun _ => ⟨(fun h => by cases h), fun _ => k1⟩, fun h => by cases h⟩

theorem f50_ends {x : X50} (hl : x.2.2.length ≤ 1000) (hB : AllB x.2.2) : Ends (step50 x) (takenR x.2.2 (opndP (headD x.1) x.2.1 x.2.2)) (tree50 x) := by
  unfold tree50
  rw [ends_need]
  refine ⟨pre82_ok hl hB, ?_⟩
  rw [fn82_ok hl hB]
  unfold opndP bindP
  have hbits : (headD x.1).2.2.1 = x.1.2.2.1 := rfl
  rw [hbits]
  cases ht : takeS x.1.2.2.1 x.2.2 with
  | none =>
    simp only [takeR, ends_ite, ends_ret, ends_jump]
    exact ⟨(fun h => by cases h), fun _ => rfl⟩
  | some ar =>
    obtain ⟨⟨n, rm⟩, r⟩ := ar
    have h0 := f50_h0 (x := x) n ((x.2.2.length : Int) - r.length) rm
    simp only [takeR, ends_ite, ends_ret, ends_jump]
    unfold badOp headD
    refine ⟨fun _ => ⟨fun hm => ⟨fun h1 => ?_, fun h1 => ?_⟩, fun hm => ?_⟩, (fun h => by cases h)⟩
    · have hm : fMem x.2.1 = true := by simpa using hm
      rw [hm, h1]; rfl
    · have hm : fMem x.2.1 = true := by simpa using hm
      rw [hm, h1]
      simp only [Bool.and_false, Bool.false_or]
      cases hbd : (fByte x.2.1 && (!x.1.2.1 && (fn93 rm || (ieq (fWide x.2.1) 1 && (ieq (fKind x.2.1) 1 || ieq (fKind x.2.1) 2) && fn93 (fn60 n))))) with
      | true => rw [hbd] at h0; exact h0
      | false => rw [hbd] at h0; exact h0
    · have hm : fMem x.2.1 = false := by simpa using hm
      rw [hm]
      simp only [Bool.false_and, Bool.false_or]
      cases hbd : (fByte x.2.1 && (!x.1.2.1 && (fn93 rm || (ieq (fWide x.2.1) 1 && (ieq (fKind x.2.1) 1 || ieq (fKind x.2.1) 2) && fn93 (fn60 n))))) with
      | true => rw [hbd] at h0; exact h0
      | false => rw [hbd] at h0; exact h0

theorem pre50_ok {x : X50} (hl : x.2.2.length ≤ 1000) (hB : AllB x.2.2) : pre50 x := ⟨_, f50_ends hl hB⟩
theorem fn50_ok {x : X50} (hl : x.2.2.length ≤ 1000) (hB : AllB x.2.2) : fn50 x = takenR x.2.2 (opndP (headD x.1) x.2.1 x.2.2) := endVal_eq (f50_ends hl hB)

/-! ### Places -/
theorem pre52_ok (x) : pre52 x := by
  unfold pre52 tree52
  simp only [ok_ite, ok_need, ok_ret]
  have p86 : ∀ a, pre86 a := fun _ => trivial
  simp [p86, pre35_ok]
theorem fn52_ok {f : DForm} (hk : 0 ≤ fKind f ∧ fKind f < 9) (d c w : Int) (reg rm o : DOperand) (n : Int) :
    fn52 ((d, (c, (w, (zO, (zO, (0, 0)))))), (f, (reg, (rm, (o, n))))) = (d, (c, (w, ((placesS (fKind f) (reg, (rm, (o, immO n)))).1, ((placesS (fKind f) (reg, (rm, (o, immO n)))).2, (0, 0)))))) := by
  have hcases : fKind f = 0 ∨ fKind f = 1 ∨ fKind f = 2 ∨ fKind f = 3 ∨ fKind f = 4 ∨ fKind f = 5 ∨ fKind f = 6 ∨ fKind f = 7 ∨ fKind f = 8 := by omega
  unfold fn52 tree52
  simp only [val_ite, val_need, val_ret]
  unfold fKind at hcases ⊢
  rcases hcases with e | e | e | e | e | e | e | e | e <;> (rw [e]; rfl)
end
end Go.Eng.RD
end
section
/- The document's One is Go's. -/
namespace Go.Eng.RD
open Go.Eng
set_option maxRecDepth 100000
set_option linter.unusedSectionVars false
set_option linter.unusedSimpArgs false
noncomputable section

/-! ### Facts by reckoning -/
theorem bits_all : (List.range 16).all (fun k => (ieq (iand .u8 (ishr .u8 (k : Nat) 3) 1) 1 == !(ieq (iand .u8 (k : Nat) 8) 0)) && ieq (iadd .i64 4 (ishr .i64 (iconv .i64 (iand .u8 (k : Nat) 8)) 1)) (cond (ieq (iand .u8 (k : Nat) 8) 0) 4 8)) = true := by decide +kernel
theorem plus_all : (List.range 16).all (fun k => (List.range 256).all fun o => ieq (iadd .i64 (iconv .i64 (iand .u8 (o : Nat) 7)) (imul .i64 (iconv .i64 (iand .u8 (k : Nat) 1)) 8)) (iconv .i64 (ior .u8 (iand .u8 (o : Nat) 7) (ishl .u8 (iand .u8 (k : Nat) 1) 3)))) = true := by decide +kernel

theorem and15 {c : Int} (h : isB c) : 0 ≤ iand .u8 c 15 ∧ iand .u8 c 15 < 16 := by
  have key : (List.range 256).all (fun n => decide (0 ≤ iand .u8 (n : Nat) 15) && decide (iand .u8 (n : Nat) 15 < 16)) = true := by decide +kernel
  obtain ⟨h1, h2⟩ := h
  have := List.all_eq_true.1 key c.toNat (List.mem_range.2 (by omega))
  rw [Int.toNat_of_nonneg h1] at this
  simpa using this

/-- What stands ahead, as it must be. -/
def okH (h : DH) : Prop := (0 ≤ h.2.2.1 ∧ h.2.2.1 < 16) ∧ isB h.2.2.2.2
def okP (p : Pz DH) : Prop := ∀ b h r, AllB b → p b = some (h, r) → okH h
theorem okP_byte {q : Int → Pz DH} (h : ∀ c, isB c → okP (q c)) : okP (byteP q) := by
  intro b hh r hB e
  cases b with
  | nil => cases e
  | cons c b => exact h c (hB c (List.mem_cons_self ..)) b hh r hB.tail e
theorem okP_cond {c : Bool} {p q : Pz DH} (hp : okP p) (hq : okP q) : okP (cond c p q) := by cases c <;> assumption
theorem okP_ret {p : Int} {rex : Bool} {bits tab o : Int} (hb : 0 ≤ bits ∧ bits < 16) (ho : isB o) : okP (retP (p, (rex, (bits, (tab, o))))) := by
  intro b h r _ e
  simp only [retP, Option.some.injEq, Prod.mk.injEq] at e
  obtain ⟨rfl, _⟩ := e
  exact ⟨hb, ho⟩
theorem ahead_okH : okP aheadS := by
  have s3 : ∀ p rex bits c, (0 ≤ bits ∧ bits < 16) → isB c → okP (aS3 p rex bits c) := fun p rex bits c hb hc => okP_cond (okP_byte fun _ ho => okP_ret hb ho) (okP_cond (okP_byte fun _ ho => okP_ret hb ho) (okP_ret hb hc))
  have s2 : ∀ p rex bits c, (0 ≤ bits ∧ bits < 16) → isB c → okP (aS2 p rex bits c) := fun p rex bits c hb hc => okP_cond (okP_byte fun o ho => s3 _ _ _ o hb ho) (okP_ret hb hc)
  have s1 : ∀ p c, isB c → okP (aS1 p c) := fun p c hc => okP_cond (okP_byte fun o ho => s2 _ _ _ o (and15 hc) ho) (s2 _ _ _ _ ⟨by omega, by omega⟩ hc)
  exact okP_byte fun c hc => okP_cond (okP_byte fun o ho => s1 _ o ho) (s1 _ _ hc)

theorem w_eq {h : DH} (ho : okH h) : ieq (iand .u8 (ishr .u8 h.2.2.1 3) 1) 1 = !(ieq (iand .u8 h.2.2.1 8) 0) ∧ iadd .i64 4 (ishr .i64 (iconv .i64 (iand .u8 h.2.2.1 8)) 1) = cond (ieq (iand .u8 h.2.2.1 8) 0) 4 8 := by
  obtain ⟨⟨h1, h2⟩, _⟩ := ho
  have := List.all_eq_true.1 bits_all h.2.2.1.toNat (List.mem_range.2 (by omega))
  rw [Int.toNat_of_nonneg h1] at this
  simp only [Bool.and_eq_true, beq_iff_eq, ieq_iff] at this
  exact this
theorem plus_eq {h : DH} (ho : okH h) : fn35 (iadd .i64 (iconv .i64 (iand .u8 h.2.2.2.2 7)) (imul .i64 (iconv .i64 (iand .u8 h.2.2.1 1)) 8)) = plusO h := by
  obtain ⟨⟨h1, h2⟩, h3, h4⟩ := ho
  have := List.all_eq_true.1 (List.all_eq_true.1 plus_all h.2.2.1.toNat (List.mem_range.2 (by omega))) h.2.2.2.2.toNat (List.mem_range.2 (by omega))
  rw [Int.toNat_of_nonneg h1, Int.toNat_of_nonneg h3, ieq_iff] at this
  rw [this]; rfl

def dhead (h : DH) (n : Int) : Dhead := (h.1, (h.2.1, (h.2.2.1, (h.2.2.2.1, (h.2.2.2.2, n)))))

section
variable {x : List Int} (hl : x.length ≤ 1000) (hB : AllB x) {h : DH} (ho : okH h)
include hl hB ho

theorem o_h4 {f : DForm} (hk : 0 ≤ fKind f ∧ fKind f < 9) (hi : 0 ≤ fImm f ∧ fImm f ≤ 8) (n : Int) {p : Nat} (hp : p ≤ x.length) (reg rm : DOperand) :
    Ends (step25 x) (oneR x (bindP (numP f) (fun m => retP (h, (f, (reg, (rm, m))))) (x.drop p))) (step25 x (.h4 (!(ieq (iand .u8 h.2.2.1 8) 0)) p (dhead h n) f reg rm)) := by
  have hs : isub .i64 (x.length : Int) (p : Int) = (x.length : Int) - p := by rw [isub_i64] <;> omega
  simp only [step25]
  simp only [hs, ends_ite, ends_ret, ends_jump]
  unfold bindP numP bytesP
  simp only [List.length_drop]
  refine ⟨fun hc => ?_, fun hc => ?_⟩
  · rw [ilt_iff] at hc
    have hc : (x.length : Int) - p < fImm f := hc
    rw [if_neg (by omega)]
    rfl
  · rw [ilt_no] at hc
    have hc : fImm f ≤ (x.length : Int) - p := hc
    have hle : (fImm f).toNat ≤ (x.drop p).length := by simp; omega
    rw [if_pos (by simp at hle; omega)]
    obtain ⟨b1, b2⟩ := behind_ok hi hle
    have hadd : iadd .i64 (p : Int) (fImm f) = (x.length : Int) - ((x.drop p).drop (fImm f).toNat).length := by
      rw [iadd_i64 (by omega) (by omega)]; simp; omega
    have hlen : isub .i64 (x.length : Int) (((x.drop p).drop (fImm f).toNat).length : Int) = (x.length : Int) - ((x.drop p).drop (fImm f).toNat).length := len_i64 hl (by simp; omega)
    have h6 : ∀ W, Ends (step25 x) ((fDo f, (fCond f, (W, ((abS (h, (f, (reg, (rm, numS f ((x.drop p).take (fImm f).toNat)))))).1, ((abS (h, (f, (reg, (rm, numS f ((x.drop p).take (fImm f).toNat)))))).2, (cond (ieq (fDo f) 39) (iconv .u8 (numS f ((x.drop p).take (fImm f).toNat))) 0, isub .i64 (x.length : Int) (((x.drop p).drop (fImm f).toNat).length : Int))))))), 0)
        (step25 x (.h6 p (dhead h n) f reg rm (fDo f) (fCond f) W)) := by
      intro W
      have h52 := fn52_ok hk (fDo f) (fCond f) W reg rm (plusO h) (numS f ((x.drop p).take (fImm f).toNat))
      have hpl := plus_eq ho
      simp only [step25]
      simp only [ends_need, Int.toNat_natCast]
      unfold dhead
      simp only [hpl, b2]
      unfold zO at h52
      simp only [h52]
      refine ⟨by omega, by omega, b1, pre35_ok _, pre52_ok _, ?_⟩
      rw [ends_ite]
      refine ⟨fun e => ?_, fun e => ?_⟩
      · simp only [ends_jump]
        simp only [step25]
        simp only [ends_ret]
        rw [e, hadd, hlen]
        rfl
      · simp only [ends_jump]
        simp only [step25]
        simp only [ends_ret]
        rw [e, hadd, hlen]
        rfl
    simp only [step25]
    simp only [ends_ite, ends_jump]
    unfold oneR retP
    simp only
    unfold mkI
    simp only
    have hw : wideS h f = cond (ieq (fWide f) 0) (cond (ieq (iand .u8 h.2.2.1 8) 0) 4 8) (fWide f) := by
      unfold wideS; rw [(w_eq ho).2]
    rw [hw]
    refine ⟨fun e => ⟨fun e2 => ?_, fun e2 => ?_⟩, fun e => ?_⟩
    · have e2 : ieq (iand .u8 h.2.2.1 8) 0 = false := by simpa using e2
      rw [show ieq (fWide f) 0 = true from e, e2]
      exact h6 _
    · have e2 : ieq (iand .u8 h.2.2.1 8) 0 = true := by simpa using e2
      rw [show ieq (fWide f) 0 = true from e, e2]
      exact h6 _
    · rw [show ieq (fWide f) 0 = false from e]
      exact h6 _

theorem bare_eq {f : DForm} (hk : 0 ≤ fKind f ∧ fKind f < 9) : pre49 (fKind f) ∧ (!(fn49 (fKind f))) = hasOp f := by
  have hcases : fKind f = 0 ∨ fKind f = 1 ∨ fKind f = 2 ∨ fKind f = 3 ∨ fKind f = 4 ∨ fKind f = 5 ∨ fKind f = 6 ∨ fKind f = 7 ∨ fKind f = 8 := by omega
  constructor
  · unfold pre49 tree49; simp only [ok_ite, ok_ret]; simp
  · unfold hasOp fn49 tree49
    simp only [val_ite, val_ret]
    rcases hcases with e | e | e | e | e | e | e | e | e <;> (rw [e]; rfl)

theorem o_h2 {f : DForm} (hk : 0 ≤ fKind f ∧ fKind f < 9) (hi : 0 ≤ fImm f ∧ fImm f ≤ 8) {p : Nat} (hp : p ≤ x.length) :
    Ends (step25 x) (oneR x (restP h f (x.drop p))) (step25 x (.h2 (!(ieq (iand .u8 h.2.2.1 8) 0)) (dhead h p) f)) := by
  have h4 := fun {q : Nat} (hq : q ≤ x.length) reg rm => o_h4 hl hB ho hk hi (p : Int) hq reg rm
  obtain ⟨p49, e49⟩ := bare_eq hl hB ho hk
  have hdl : (x.drop p).length ≤ 1000 := by simp; omega
  simp only [step25]
  rw [ends_need]
  refine ⟨p49, ?_⟩
  rw [ends_ite, show (!(fn49 f.2.2.2.2.2.2.2.2.1)) = hasOp f from e49]
  unfold restP
  refine ⟨fun e => ?_, fun e => ?_⟩
  · rw [e, cond_true]
    have hn : (dhead h (p : Int)).2.2.2.2.2 = (p : Int) := rfl
    simp only [hn, ends_need, Int.toNat_natCast]
    refine ⟨by omega, hp, pre50_ok hdl (hB.drop p), ?_⟩
    rw [fn50_ok (x := (dhead h p, (f, x.drop p))) hdl (hB.drop p)]
    have hh : headD (dhead h (p : Int)) = h := rfl
    simp only [hh]
    rw [ends_both]
    refine (fun a => ⟨a, a⟩) ?_
    unfold bindP
    cases hop : opndP h f (x.drop p) with
    | none =>
      simp only [takenR, ends_ite, ends_ret, ends_jump]
      exact ⟨fun _ => rfl, fun h => by cases h⟩
    | some ar =>
      obtain ⟨⟨reg, rm⟩, r⟩ := ar
      obtain ⟨u, hu, _, _⟩ := opnd_st h f _ _ _ hop
      have hlen : ((x.drop p).length : Int) - r.length = (u.length : Nat) := by rw [hu, List.length_append]; omega
      have hlen2 : (x.drop p).length = u.length + r.length := by rw [hu, List.length_append]
      have hlen3 : (x.drop p).length = x.length - p := by simp
      have hd : x.drop (p + u.length) = r := by rw [← List.drop_drop, hu]; simp
      have hadd : iadd .i64 (p : Int) (u.length : Nat) = ((p + u.length : Nat) : Int) := by rw [iadd_i64] <;> omega
      have := h4 (q := p + u.length) (by omega) reg rm
      rw [hd] at this
      simp only [takenR, ends_ite, ends_ret, ends_jump, hlen]
      refine ⟨(fun h => by cases h), fun _ => ?_⟩
      simp only [step25]
      simp only [ends_jump, hadd]
      exact this
  · rw [e, cond_false]
    simp only [ends_jump]
    exact h4 hp zO zO

theorem o_h1 {p : Nat} (hp : p ≤ x.length) : Ends (step25 x) (oneR x (formP h (x.drop p))) (step25 x (.h1 (digitB (x.drop p)) (dhead h p))) := by
  have hkey : isB (keyS h (digitB (x.drop p))).2.2.1 := ho.2
  have ew := (w_eq ho).1
  simp only [step25]
  have hd : ((dhead h (p : Int)).1, ((dhead h (p : Int)).2.2.2.1, ((dhead h (p : Int)).2.2.2.2.1, digitB (x.drop p)))) = keyS h (digitB (x.drop p)) := rfl
  have hb : (dhead h (p : Int)).2.2.1 = h.2.2.1 := rfl
  simp only [hd, hb, ew, ends_need]
  rw [fn48_ok _ hkey]
  refine ⟨pre48_ok _ hkey, by omega, ?_⟩
  unfold formP
  generalize hF : foundB (keyS h (digitB (x.drop p))) = F
  obtain ⟨f, ok⟩ := F
  cases ok with
  | false =>
    simp only [ends_ite, ends_ret, ends_jump, Bool.false_and, cond_false]
    exact ⟨(fun h => by cases h), fun _ => rfl⟩
  | true =>
    have hf : f ∈ forms := by
      have := found_some (k := keyS h (digitB (x.drop p))) (by rw [hF])
      rw [hF] at this; exact this.1
    obtain ⟨hk, hi⟩ := forms_fact f hf
    have h2 := o_h2 hl hB ho hk hi hp
    simp only [ends_ite, ends_ret, ends_jump, Bool.true_and]
    refine ⟨fun _ => ⟨fun hm => ⟨fun hw => ?_, fun hw => ?_⟩, fun hm => ?_⟩, (fun h => by cases h)⟩
    · have hm : fMust f = true := by simpa using hm
      have hw : ieq (iand .u8 h.2.2.1 8) 0 = true := by simpa using hw
      rw [hm, hw]; rfl
    · have hm : fMust f = true := by simpa using hm
      have hw : ieq (iand .u8 h.2.2.1 8) 0 = false := by simpa using hw
      rw [hm, hw]
      rw [hw] at h2
      exact h2
    · have hm : fMust f = false := by simpa using hm
      rw [hm]
      exact h2
end

theorem rone_ends {x : List Int} (hl : x.length ≤ 1000) (hB : AllB x) : Ends (step25 x) (oneS x) (tree25 x) := by
  have hg := fn47_good hl hB
  unfold tree25 oneS oneP bindP
  rw [ends_need]
  refine ⟨pre47_ok hl hB, ?_⟩
  cases ha : aheadS x with
  | none =>
    rw [ha] at hg
    have hg : (fn47 x).2 = false := hg
    simp only [hg, ends_ite, ends_ret, ends_jump]
    exact ⟨fun _ => rfl, fun h => by cases h⟩
  | some hr =>
    obtain ⟨h, r⟩ := hr
    rw [ha] at hg
    obtain ⟨u, hu, _, _⟩ := ahead_st _ _ _ ha
    have ho : okH h := ahead_okH x h r hB ha
    have hlen : (x.length : Int) - r.length = (u.length : Nat) := by rw [hu, List.length_append]; omega
    have hxl : x.length = u.length + r.length := by rw [hu, List.length_append]
    have hd : x.drop u.length = r := by rw [hu]; simp
    have hg : fn47 x = (dhead h (u.length : Nat), true) := by
      have hg : fn47 x = ((h.1, (h.2.1, (h.2.2.1, (h.2.2.2.1, (h.2.2.2.2, (x.length : Int) - r.length))))), true) := hg
      rw [hg, hlen]; rfl
    have h1 := o_h1 hl hB ho (p := u.length) (by omega)
    rw [hd] at h1
    rw [hg]
    simp only [ends_ite, ends_ret, ends_jump]
    refine ⟨(fun h => by cases h), fun _ => ?_⟩
    simp only [step25]
    have hn : (dhead h ((u.length : Nat) : Int)).2.2.2.2.2 = (u.length : Nat) := rfl
    simp only [hn, ends_ite, ends_need, ends_jump, Int.toNat_natCast]
    refine ⟨fun hlt => ?_, fun hlt => ?_⟩
    · rw [ilt_iff] at hlt
      cases r with
      | nil => simp at hxl; omega
      | cons c t =>
        obtain ⟨_, hrd, _⟩ := at_drop hl hB hd
        rw [hrd]
        exact ⟨by omega, by omega, by omega, h1⟩
    · rw [ilt_no] at hlt
      have : r = [] := List.length_eq_zero_iff.1 (by omega)
      subst this
      exact h1

theorem pre25_ok {x : List Int} (hl : x.length ≤ 1000) (hB : AllB x) : pre25 x := ⟨_, rone_ends hl hB⟩
theorem fn25_ok {x : List Int} (hl : x.length ≤ 1000) (hB : AllB x) : fn25 x = oneS x := endVal_eq (rone_ends hl hB)
end
end Go.Eng.RD
end
section
/- DecodeTells: plain. -/
namespace Go.Eng.RD
open Go.Eng
set_option maxRecDepth 100000
set_option linter.unusedSectionVars false
set_option linter.unusedSimpArgs false
noncomputable section

theorem rall_h1 {x : List Int} : ∀ (n : Nat) (b : List Int) (acc : List DInsn), b.length ≤ n → acc.length + b.length ≤ 1000 → AllB b →
    Ends (step29 x) (acc ++ (allS n b).1, (allS n b).2) (step29 x (.h1 b acc.length acc.length acc)) := by
  intro n
  induction n with
  | zero =>
    intro b acc hn hl hB
    have : b = [] := List.length_eq_zero_iff.1 (by omega)
    subst this
    simp only [step29]
    simp only [ends_ite, ends_need, ends_ret, List.take_length]
    refine ⟨(fun e => by cases e), fun _ => ⟨by omega, ?_⟩⟩
    rw [allS_nil, List.append_nil]
  | succ n ih =>
    intro b acc hn hl hB
    simp only [step29]
    by_cases hb : b = []
    · subst hb
      simp only [ends_ite, ends_need, ends_ret, List.take_length]
      refine ⟨(fun e => by cases e), fun _ => ⟨by omega, ?_⟩⟩
      rw [allS_nil, List.append_nil]
    · have h0 : ilt 0 (b.length : Int) = true := by
        rw [ilt_iff]; have := List.length_pos_iff.2 hb; omega
      have hb1 : b.length ≤ 1000 := by omega
      rw [fn25_ok hb1 hB]
      simp only [h0, ends_ite, ends_need, ends_jump, ends_ret]
      refine ⟨fun _ => ⟨pre25_ok hb1 hB, ?_⟩, (fun e => by cases e)⟩
      cases ho : oneP b with
      | none =>
        rw [oneS_none ho, allS_none hb ho]
        refine ⟨fun _ => ⟨by omega, ?_⟩, (fun e => by cases e)⟩
        rw [List.append_nil, List.take_length]
      | some ar =>
        obtain ⟨a, r⟩ := ar
        rw [allS_some ho]
        obtain ⟨u, hu, h1, h2, hS, _, _⟩ := oneS_some hb1 ho
        rw [hS]
        have hlen : b.length = u.length + r.length := by rw [hu, List.length_append]
        have e1 : (mkI (u.length : Int) a).2.2.2.2.2.2 = (u.length : Int) := rfl
        have e2 : b.drop u.length = r := by rw [hu]; simp
        have e3 : ((b.length : Int) - r.length) = (u.length : Int) := by omega
        have hr := ih r (acc ++ [mkI (u.length : Int) a]) (by omega) (by rw [List.length_append]; simp; omega) (by rw [← e2]; exact hB.drop _)
        rw [List.length_append, List.append_assoc] at hr
        simp only [e1, Int.toNat_natCast, e2, e3]
        exact ⟨(fun e => by cases e), fun _ => ⟨by omega, by omega, trivial, by omega, by omega, by omega, by omega, hr⟩⟩

theorem rall_ends {x : List Int} (hl : x.length ≤ 900) (hB : AllB x) : Ends (step29 x) (allS x.length x) (tree29 x) := by
  unfold tree29
  simp only [ends_jump]
  simp only [step29]
  by_cases hb : x = []
  · subst hb
    simp only [ends_ite, ends_ret]
    exact ⟨(fun e => by cases e), fun _ => rfl⟩
  · have hpos := List.length_pos_iff.2 hb
    have h0 : ilt 0 (x.length : Int) = true := by rw [ilt_iff]; omega
    have hb1 : x.length ≤ 1000 := by omega
    rw [fn25_ok hb1 hB]
    simp only [h0, ends_ite, ends_need, ends_jump, ends_ret]
    obtain ⟨n, hn⟩ : ∃ n, x.length = n + 1 := ⟨x.length - 1, by omega⟩
    refine ⟨fun _ => ⟨pre25_ok hb1 hB, ?_⟩, (fun e => by cases e)⟩
    cases ho : oneP x with
    | none =>
      rw [oneS_none ho, hn, allS_none hb ho]
      exact ⟨fun _ => rfl, (fun e => by cases e)⟩
    | some ar =>
      obtain ⟨a, r⟩ := ar
      obtain ⟨u, hu, h1, h2, hS, _, _⟩ := oneS_some hb1 ho
      have hlen : x.length = u.length + r.length := by rw [hu, List.length_append]
      have e1 : (mkI (u.length : Int) a).2.2.2.2.2.2 = (u.length : Int) := rfl
      have e2 : x.drop u.length = r := by rw [hu]; simp
      have e3 : ((x.length : Int) - r.length) = (u.length : Int) := by omega
      have hr := rall_h1 (x := x) n r [mkI (u.length : Int) a] (by omega) (by simp; omega) (by rw [← e2]; exact hB.drop _)
      rw [hS]
      have e4 : allS x.length x = ([mkI (u.length : Int) a] ++ (allS n r).1, (allS n r).2) := by
        rw [hn, allS_some ho, e3]; rfl
      rw [e4]
      simp only [e1, Int.toNat_natCast, e2]
      exact ⟨(fun e => by cases e), fun _ => ⟨by omega, by omega, by omega, by omega, by omega, by omega, hr⟩⟩

theorem pre29_ok {x : List Int} (hl : x.length ≤ 900) (hB : AllB x) : pre29 x := ⟨_, rall_ends hl hB⟩
theorem fn29_ok {x : List Int} (hl : x.length ≤ 900) (hB : AllB x) : fn29 x = allS x.length x := endVal_eq (rall_ends hl hB)

theorem insns_h0 (l : List DInsn) (hl : l.length ≤ 1000) : ∀ (m i : Nat), i + m = l.length → Ends (step30 (l, l)) true (step30 (l, l) (.h0 i)) := by
  intro m
  induction m with
  | zero =>
    intro i hi
    simp only [step30]
    simp only [lt_no (show l.length ≤ i by omega), ends_ite, ends_ret]
    exact ⟨(fun h => by cases h), fun _ => trivial⟩
  | succ m ih =>
    intro i hi
    have hr := ih (i + 1) (by omega)
    simp only [step30]
    simp only [lt_yes (show i < l.length by omega), ends_ite, ends_need, ends_jump, ends_ret, Int.toNat_natCast, one_more i (by omega), eqI (rfl : rdc CInsn l i = rdc CInsn l i)]
    exact ⟨fun _ => ⟨by omega, by omega, by omega, by omega, (fun h => by cases h), fun _ => hr⟩, (fun h => by cases h)⟩
theorem insns_ends (l : List DInsn) (hl : l.length ≤ 1000) : Ends (step30 (l, l)) true (tree30 (l, l)) := by
  unfold tree30
  simp only [show ine (l.length : Int) (l.length : Int) = false from ine_no.2 rfl, ends_ite, ends_ret, ends_jump]
  exact ⟨(fun h => by cases h), fun _ => insns_h0 l hl _ 0 (Nat.zero_add _)⟩

theorem decodeTells (x : List Int) (w : TC.wf (.st1 (.slice (.int .u8))) x) : pre8 x ∧ fn8 x = true := by
  have hB := allB_wf w.2
  have hw := wakes_ok ()
  by_cases hlen : ilt 200 (x.length : Int) = true
  · constructor
    · unfold pre8 tree8
      rw [ok_ite]
      exact ⟨fun _ => ⟨hw.1, trivial⟩, fun e => by rw [hlen] at e; cases e⟩
    · unfold fn8 tree8
      rw [val_ite, hlen, cond_true]
      exact hw.2
  · have hlen : ilt 200 (x.length : Int) = false := by simpa using hlen
    have hl : x.length ≤ 200 := by rw [ilt_no] at hlen; omega
    have hl1 : x.length ≤ 1000 := by omega
    have hl9 : x.length ≤ 900 := by omega
    have e27 := fn27_ok hl1 hB
    have e25 := fn25_ok hl1 hB
    have e28 := fn28_ok hl9 hB
    have e29 := fn29_ok hl9 hB
    have e31 := fn31_ok hl1 hB
    have e32 : fn32 x = (oneS x).1.2.2.2.2.2.2 := by
      have : fn32 x = (fn25 x).1.2.2.2.2.2.2 := rfl
      rw [this, e25]
    have hn := allS_len x.length x
    have hins := insns_ends (allS x.length x).1 (by omega)
    have p30 : pre30 ((allS x.length x).1, (allS x.length x).1) := ⟨_, hins⟩
    have e30 : fn30 ((allS x.length x).1, (allS x.length x).1) = true := endVal_eq hins
    have q1 : eqD CInsn (oneS x).1 (oneS x).1 = true := eqI rfl
    have q2 : ∀ a : Int, ieq a a = true := fun a => ieq_iff.2 rfl
    have p32 : pre32 x := ⟨pre25_ok hl1 hB, trivial⟩
    constructor
    · unfold pre8 tree8
      simp only [ok_ite, ok_need, ok_ret, hlen, e27, e25, e28, e29, e30, e31, e32, q1, q2]
      refine ⟨(fun e => by cases e), fun _ => ⟨pre27_ok hl1 hB, pre25_ok hl1 hB, pre28_ok hl9 hB, pre29_ok hl9 hB, fun _ => ⟨fun _ => ⟨p30, fun _ => ⟨fun _ => ⟨pre31_ok hl1 hB, p32, fun _ => ⟨hw.1, trivial⟩, fun _ => trivial⟩, fun _ => trivial⟩, fun _ => trivial⟩, fun _ => trivial⟩, fun _ => trivial⟩⟩
    · unfold fn8 tree8
      simp only [val_ite, val_need, val_ret, hlen, e27, e25, e28, e29, e30, e31, e32, q1, q2, cond_false]
      exact hw.2
end
end Go.Eng.RD
end
