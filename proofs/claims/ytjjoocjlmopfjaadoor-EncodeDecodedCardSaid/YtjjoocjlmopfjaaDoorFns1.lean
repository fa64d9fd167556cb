/- A part of the proof that the laws of this seat hold. Conditions: none beyond the row. -/
import Derived.Test.YtjjoocjlmopfjaaDoorFns0
set_option maxRecDepth 100000
set_option linter.unusedVariables false
set_option linter.unusedSimpArgs false
set_option linter.unusedSectionVars false
section
/- Functions of this program, written out. -/
namespace Go.Eng.RE
open Go.Proofs Go.Eng
noncomputable def tree37 (x : DO) : Tr DO :=
  .ite (ieq x.1 1) (
 .ret (x.1, ((iand .i64 x.2.1 15), x.2.2))) (
 .ret x)
noncomputable def fn37 (x : DO) : DO := (tree37 x).val
def pre37 (x : DO) : Prop := (tree37 x).ok
noncomputable def spec37 : Spec := { dom := (.st1 CO), cod := CO, n := 1, pre := pre37, f := fn37 }
noncomputable def need37 : FuncId → Option Spec
  | _ => none
theorem need37_ok : ∀ f sp, need37 f = some sp → SpecOk env0 f sp := by
  intro f sp h
  unfold need37 at h
  split at h
  · cases h
section
variable (W : Cfg) (Q : DO → Prop) (x : DO)
theorem run37 : run (env need37 (fun _ _ => none)) (fun _ _ _ => none) (finS spec37 Q) W 100000 (startFr 37 Tryd.f37 (bodyOf Tryd.f37) (argsOf (.st1 CO) x)) [] [] = (tree37 x).wp Q := by kernel_rfl
end
theorem ok37 : SpecOk env0 37 spec37 := SpecOk.env rfl (fun _ _ h => h) (spec_of_tree (E := (env need37 (fun _ _ => none))) (sp := spec37) (valid _ _) (fun f sp h => SpecOk.env rfl (fun _ _ h => h) (need37_ok f sp h)) (fn := Tryd.f37) (c := (bodyOf Tryd.f37)) (by kernel_rfl) (by kernel_rfl) tree37 run37 (fun _ h => Tr.gives_val h))
noncomputable def tree38 (x : (List Int)) : Tr (List Int) :=
  .need ((0 : Nat) < x.length) <|
  let y0 : Nat := (0 + x.length)
  .ite (ilt ((0 : Nat) : Int) ((y0 : Nat) : Int)) (
 .need ((0 + 0 : Nat) ≤ 0) <|
 .need (((y0 : Nat) * 1 : Nat) ≤ 2 ^ 40) <|
 .need ((y0 : Nat) ≤ 2 ^ 40) <|
 .need ((y0 : Nat) ≤ y0) <|
 .ret ((([] : List Int) ++ x).take y0)) (
 .need ((0 + 0 + x.length : Nat) ≤ 0) <|
 .need ((y0 : Nat) ≤ 0) <|
 .ret ((spliceL (List.replicate 0 (0 : Int)) 0 x).take y0))
noncomputable def fn38 (x : (List Int)) : (List Int) := (tree38 x).val
def pre38 (x : (List Int)) : Prop := (tree38 x).ok
noncomputable def spec38 : Spec := { dom := (.st1 (.slice (.int .u8))), cod := (.slice (.int .u8)), n := 1, pre := pre38, f := fn38, own := some 5 }
noncomputable def need38 : FuncId → Option Spec
  | _ => none
theorem need38_ok : ∀ f sp, need38 f = some sp → SpecOk env0 f sp := by
  intro f sp h
  unfold need38 at h
  split at h
  · cases h
section
variable (W : Cfg) (Q : (List Int) → Prop) (x : List Int)
theorem run38 : run (env need38 (fun _ _ => none)) (fun _ _ _ => none) (finS spec38 Q) W 100000 (startFr 38 Tryd.f38 (bodyOf Tryd.f38) (argsOf (.st1 (.slice (.int .u8))) x)) [] [] = (tree38 x).wp Q := by kernel_rfl
end
theorem ok38 : SpecOk env0 38 spec38 := SpecOk.env rfl (fun _ _ h => h) (spec_of_tree (E := (env need38 (fun _ _ => none))) (sp := spec38) (valid _ _) (fun f sp h => SpecOk.env rfl (fun _ _ h => h) (need38_ok f sp h)) (fn := Tryd.f38) (c := (bodyOf Tryd.f38)) (by kernel_rfl) (by kernel_rfl) tree38 run38 (fun _ h => Tr.gives_val h))
noncomputable def tree68 (x : Int) : Tr Int :=
  .ret (iconv .u8 (iand .i64 x 7))
noncomputable def fn68 (x : Int) : Int := (tree68 x).val
def pre68 (x : Int) : Prop := (tree68 x).ok
noncomputable def spec68 : Spec := { dom := (.st1 (.int .i64)), cod := (.int .u8), n := 1, pre := pre68, f := fn68 }
noncomputable def need68 : FuncId → Option Spec
  | _ => none
theorem need68_ok : ∀ f sp, need68 f = some sp → SpecOk env0 f sp := by
  intro f sp h
  unfold need68 at h
  split at h
  · cases h
section
variable (W : Cfg) (Q : Int → Prop) (x : Int)
theorem run68 : run (env need68 (fun _ _ => none)) (fun _ _ _ => none) (finS spec68 Q) W 100000 (startFr 68 Tryd.f68 (bodyOf Tryd.f68) (argsOf (.st1 (.int .i64)) x)) [] [] = (tree68 x).wp Q := by kernel_rfl
end
theorem ok68 : SpecOk env0 68 spec68 := SpecOk.env rfl (fun _ _ h => h) (spec_of_tree (E := (env need68 (fun _ _ => none))) (sp := spec68) (valid _ _) (fun f sp h => SpecOk.env rfl (fun _ _ h => h) (need68_ok f sp h)) (fn := Tryd.f68) (c := (bodyOf Tryd.f68)) (by kernel_rfl) (by kernel_rfl) tree68 run68 (fun _ h => Tr.gives_val h))
noncomputable def tree69 (x : Int) : Tr Int :=
  .need ((0 : Int) ≤ 3) <|
  .ret (iconv .u8 (iand .i64 (ishr .i64 x 3) 1))
noncomputable def fn69 (x : Int) : Int := (tree69 x).val
def pre69 (x : Int) : Prop := (tree69 x).ok
noncomputable def spec69 : Spec := { dom := (.st1 (.int .i64)), cod := (.int .u8), n := 1, pre := pre69, f := fn69 }
noncomputable def need69 : FuncId → Option Spec
  | _ => none
theorem need69_ok : ∀ f sp, need69 f = some sp → SpecOk env0 f sp := by
  intro f sp h
  unfold need69 at h
  split at h
  · cases h
section
variable (W : Cfg) (Q : Int → Prop) (x : Int)
theorem run69 : run (env need69 (fun _ _ => none)) (fun _ _ _ => none) (finS spec69 Q) W 100000 (startFr 69 Tryd.f69 (bodyOf Tryd.f69) (argsOf (.st1 (.int .i64)) x)) [] [] = (tree69 x).wp Q := by kernel_rfl
end
theorem ok69 : SpecOk env0 69 spec69 := SpecOk.env rfl (fun _ _ h => h) (spec_of_tree (E := (env need69 (fun _ _ => none))) (sp := spec69) (valid _ _) (fun f sp h => SpecOk.env rfl (fun _ _ h => h) (need69_ok f sp h)) (fn := Tryd.f69) (c := (bodyOf Tryd.f69)) (by kernel_rfl) (by kernel_rfl) tree69 run69 (fun _ h => Tr.gives_val h))
noncomputable def tree71 (x : DO) : Tr (Int × Int) :=
  let y0 : (Int × (Int × (Int × (Int × (Bool × Int))))) := x.2.2
  let y1 : Int := y0.1
  .ite (ilt y1 0) (
 .ret (0, 4)) (
 let y2 := y0.2.2.2.1
 .ite ((ieq y2 0) == true) (
 .need (pre68 y1) <|
 .ite (ine (fn68 y1) 5) (
 .ret (0, 0)) (
 let y3 := (ieq (iconv .i64 (iconv .i8 y2)) y2)
 .ite y3 (
 let y4 : (Int × Int) := (1, 1)
 .ret y4) (
 let y5 : (Int × Int) := (2, 4)
 .ret y5))) (
 let y6 := (ieq (iconv .i64 (iconv .i8 y2)) y2)
 .ite y6 (
 let y7 : (Int × Int) := (1, 1)
 .ret y7) (
 let y8 : (Int × Int) := (2, 4)
 .ret y8)))
noncomputable def fn71 (x : DO) : (Int × Int) := (tree71 x).val
def pre71 (x : DO) : Prop := (tree71 x).ok
noncomputable def spec71 : Spec := { dom := (.st1 CO), cod := (.st (.int .u8) (.st1 (.int .i64))), n := 2, pre := pre71, f := fn71 }
noncomputable def need71 : FuncId → Option Spec
  | 68 => some spec68
  | _ => none
theorem need71_ok : ∀ f sp, need71 f = some sp → SpecOk env0 f sp := by
  intro f sp h
  unfold need71 at h
  split at h
  · cases h; exact ok68
  · cases h
section
variable (W : Cfg) (Q : (Int × Int) → Prop) (x : DO)
theorem run71 : run (env need71 (fun _ _ => none)) (fun _ _ _ => none) (finS spec71 Q) W 100000 (startFr 71 Tryd.f71 (bodyOf Tryd.f71) (argsOf (.st1 CO) x)) [] [] = (tree71 x).wp Q := by kernel_rfl
end
theorem ok71 : SpecOk env0 71 spec71 := SpecOk.env rfl (fun _ _ h => h) (spec_of_tree (E := (env need71 (fun _ _ => none))) (sp := spec71) (valid _ _) (fun f sp h => SpecOk.env rfl (fun _ _ h => h) (need71_ok f sp h)) (fn := Tryd.f71) (c := (bodyOf Tryd.f71)) (by kernel_rfl) (by kernel_rfl) tree71 run71 (fun _ h => Tr.gives_val h))
noncomputable def tree102 (x : Int) : Tr Int :=
  .ite (ieq x 0) (
 .ret 64) (
 .need ((0 : Int) ≤ 58) <|
 let y0 : Int := (ishr .u64 (imul .u64 (iand .u64 x (ineg .u64 x)) 285870213051353865) 58)
 .need ((0 : Int) ≤ y0) <|
 .need ((y0 : Int) < 64) <|
 let y1 : Nat := (y0).toNat
 .need ((y1 : Nat) < 64) <|
 .ret (iconv .i64 (rdc (.int .u8) [0, 1, 56, 2, 57, 49, 28, 3, 61, 58, 42, 50, 38, 29, 17, 4, 62, 47, 59, 36, 45, 43, 51, 22, 53, 39, 33, 30, 24, 18, 12, 5, 63, 55, 48, 27, 60, 41, 37, 16, 46, 35, 44, 21, 52, 32, 23, 11, 54, 26, 40, 15, 34, 20, 31, 10, 25, 14, 19, 9, 13, 8, 7, 6] y1)))
noncomputable def fn102 (x : Int) : Int := (tree102 x).val
def pre102 (x : Int) : Prop := (tree102 x).ok
noncomputable def spec102 : Spec := { dom := (.st1 (.int .u64)), cod := (.int .i64), n := 1, pre := pre102, f := fn102 }
noncomputable def need102 : FuncId → Option Spec
  | _ => none
theorem need102_ok : ∀ f sp, need102 f = some sp → SpecOk env0 f sp := by
  intro f sp h
  unfold need102 at h
  split at h
  · cases h
section
variable (W : Cfg) (Q : Int → Prop) (x : Int)
theorem run102 : run (env need102 (fun _ _ => none)) (fun _ _ _ => none) (finS spec102 Q) W 100000 (startFr 102 Tryd.f102 (bodyOf Tryd.f102) (argsOf (.st1 (.int .u64)) x)) [] [] = (tree102 x).wp Q := by kernel_rfl
end
theorem ok102 : SpecOk env0 102 spec102 := SpecOk.env rfl (fun _ _ h => h) (spec_of_tree (E := (env need102 (fun _ _ => none))) (sp := spec102) (valid _ _) (fun f sp h => SpecOk.env rfl (fun _ _ h => h) (need102_ok f sp h)) (fn := Tryd.f102) (c := (bodyOf Tryd.f102)) (by kernel_rfl) (by kernel_rfl) tree102 run102 (fun _ h => Tr.gives_val h))
noncomputable def tree72 (x : Int) : Tr Int :=
  .need (pre102 x) <|
  .ret (fn102 x)
noncomputable def fn72 (x : Int) : Int := (tree72 x).val
def pre72 (x : Int) : Prop := (tree72 x).ok
noncomputable def spec72 : Spec := { dom := (.st1 (.int .u64)), cod := (.int .i64), n := 1, pre := pre72, f := fn72 }
noncomputable def need72 : FuncId → Option Spec
  | 102 => some spec102
  | _ => none
theorem need72_ok : ∀ f sp, need72 f = some sp → SpecOk env0 f sp := by
  intro f sp h
  unfold need72 at h
  split at h
  · cases h; exact ok102
  · cases h
section
variable (W : Cfg) (Q : Int → Prop) (x : Int)
theorem run72 : run (env need72 (fun _ _ => none)) (fun _ _ _ => none) (finS spec72 Q) W 100000 (startFr 72 Tryd.f72 (bodyOf Tryd.f72) (argsOf (.st1 (.int .u64)) x)) [] [] = (tree72 x).wp Q := by kernel_rfl
end
theorem ok72 : SpecOk env0 72 spec72 := SpecOk.env rfl (fun _ _ h => h) (spec_of_tree (E := (env need72 (fun _ _ => none))) (sp := spec72) (valid _ _) (fun f sp h => SpecOk.env rfl (fun _ _ h => h) (need72_ok f sp h)) (fn := Tryd.f72) (c := (bodyOf Tryd.f72)) (by kernel_rfl) (by kernel_rfl) tree72 run72 (fun _ h => Tr.gives_val h))
inductive J39 where
 | h0
 | h1 (v0 : Int) (v1 : Int)
 | h2 (v0 : Int) (v1 : Int) (v2 : Int) (v3 : Int) (v4 : Int)
 | h3 (v0 : Int) (v1 : Int) (v2 : Int) (v3 : Int) (v4 : Int) (v5 : Int) (v6 : Int)
 | h4 (v0 : Int) (v1 : Int) (v5 : (List Int))
 | h5 (v0 : Int) (v1 : Int) (v5 : (List Int))
noncomputable def tree39 (x : (Int × DO)) : Tr (J39 ⊕ ((List Int) × (Int × Int))) :=
  .ite ((ilt x.1 0) == false) (
 .ite ((ilt 15 x.1) == false) (
 .need (pre67 x.2) <|
 .ite (!(fn67 x.2)) (
 let y0 : ((List Int) × (Int × Int)) := (([] : List Int), (0, 2))
 .ret (.inr y0)) (
 .ret (.inl (.h0)))) (
 let y1 : ((List Int) × (Int × Int)) := (([] : List Int), (0, 2))
 .ret (.inr y1))) (
 let y2 : ((List Int) × (Int × Int)) := (([] : List Int), (0, 2))
 .ret (.inr y2))
noncomputable def step39 (x : (Int × DO)) : J39 → Tr (J39 ⊕ ((List Int) × (Int × Int)))
 | .h0 =>
 .need (pre68 x.1) <|
 .need ((0 : Int) ≤ 3) <|
 .need (pre69 x.1) <|
 .need ((0 : Int) ≤ 2) <|
 .ite (ieq x.2.1 1) (
 let y0 := x.2.2
 let y1 := y0.1
 .need (pre68 y1) <|
 .need (pre69 y1) <|
 .need ((0 : Nat) < 1) <|
 .need (((0 : Nat) + 1 : Nat) ≤ 1) <|
 let y2 : Int := (ishl .u8 (fn68 x.1) 3)
 let y3 : Int := (ishl .u8 (fn69 x.1) 2)
 .ret (.inr ([(ior .u8 (ior .u8 192 y2) (fn68 y1))], ((ior .u8 y3 (fn69 y1)), 0)))) (
 let y4 := x.2.2
 let y5 := y4.2.2.2.2
 .ite y5.2.1 (
 .need ((0 : Nat) < 1) <|
 .need ((0 : Int) ≤ 0) <|
 .need ((0 : Nat) < 1) <|
 .need (((0 : Nat) + 1 : Nat) ≤ 1) <|
 .need ((0 + 1 : Nat) ≤ 1) <|
 .need (((2 : Nat) * 1 : Nat) ≤ 2 ^ 40) <|
 .need ((2 : Nat) ≤ 2 ^ 40) <|
 .need ((0 : Int) ≤ 8) <|
 .need ((0 : Nat) < 1) <|
 .need (((0 : Nat) + 1 : Nat) ≤ 1) <|
 .need ((2 : Nat) = 2) <|
 .need (((3 : Nat) * 1 : Nat) ≤ 2 ^ 40) <|
 .need ((3 : Nat) ≤ 2 ^ 40) <|
 .need ((0 : Int) ≤ 16) <|
 .need ((0 : Nat) < 1) <|
 .need (((0 : Nat) + 1 : Nat) ≤ 1) <|
 .need ((3 : Nat) = 3) <|
 .need (((4 : Nat) * 1 : Nat) ≤ 2 ^ 40) <|
 .need ((4 : Nat) ≤ 2 ^ 40) <|
 .need ((0 : Int) ≤ 24) <|
 .need ((0 : Nat) < 1) <|
 .need (((0 : Nat) + 1 : Nat) ≤ 1) <|
 .need ((4 : Nat) = 4) <|
 .need (((5 : Nat) * 1 : Nat) ≤ 2 ^ 40) <|
 .need ((5 : Nat) ≤ 2 ^ 40) <|
 .need (((0 : Nat) + 5 : Nat) ≤ 5) <|
 let y6 : Int := (ishl .u8 (fn68 x.1) 3)
 let y7 := y5.1
 let y8 : Int := (ishl .u8 (fn69 x.1) 2)
 .ret (.inr ([(ior .u8 y6 5), (iconv .u8 (ishr .i64 y7 0)), (iconv .u8 (ishr .i64 y7 8)), (iconv .u8 (ishr .i64 y7 16)), (iconv .u8 (ishr .i64 y7 24))], (y8, 0)))) (
 let y9 : Int := (ishl .u8 (fn69 x.1) 2)
 let y10 : Int := (ishl .u8 (fn68 x.1) 3)
 .ret (.inl (.h1 y9 y10))))
 | .h1 v0 v1 =>
 .need (pre71 x.2) <|
 let y0 := x.2.2.2.1
 .ite (ile 0 y0) (
 .need (pre68 y0) <|
 .need (pre69 y0) <|
 let y1 := (fn71 x.2)
 let y2 := y1.1
 let y3 := y1.2
 .ret (.inl (.h2 (ior .u8 v0 (fn69 y0)) v1 y2 y3 (fn68 y0)))) (
 let y4 := (fn71 x.2)
 let y5 := y4.1
 let y6 := y4.2
 .ret (.inl (.h2 v0 v1 y5 y6 5)))
 | .h2 v0 v1 v2 v3 v4 =>
 let y0 := x.2.2.2.2
 let y1 := y0.1
 .ite (ile 0 y1) (
 .need (pre68 y1) <|
 .need (pre69 y1) <|
 .need ((0 : Int) ≤ 1) <|
 let y2 : Int := (iconv .u64 y0.2.1)
 .need (pre72 y2) <|
 .ret (.inl (.h3 (ior .u8 v0 (ishl .u8 (fn69 y1) 1)) v1 v2 v3 v4 (fn68 y1) (fn72 y2)))) (
 .ret (.inl (.h3 v0 v1 v2 v3 v4 4 0)))
 | .h3 v0 v1 v2 v3 v4 v5 v6 =>
 .need ((0 : Int) ≤ 6) <|
 .need ((0 : Nat) < 1) <|
 let y0 := x.2.2.2
 .ite ((ile 0 y0.2.1) == false) (
 .ite ((ilt y0.1 0) == false) (
 .ite (ieq v4 4) (
 .need ((0 : Int) ≤ 6) <|
 .need ((0 : Int) ≤ 6) <|
 .need ((0 : Int) ≤ 3) <|
 .need ((0 : Nat) < 2) <|
 .need ((1 : Nat) < 2) <|
 let y1 : Int := (ior .u8 (ishl .u8 v2 6) v1)
 let y2 : (List Int) := [(ior .u8 y1 4), (ior .u8 (ior .u8 (ishl .u8 (iconv .u8 v6) 6) (ishl .u8 v5 3)) v4)]
 .ret (.inl (.h4 v0 v3 y2))) (
 let y3 : Int := (ior .u8 (ishl .u8 v2 6) v1)
 .ret (.inl (.h5 v0 v3 [(ior .u8 y3 v4)])))) (
 .need ((0 : Int) ≤ 6) <|
 .need ((0 : Int) ≤ 6) <|
 .need ((0 : Int) ≤ 3) <|
 .need ((0 : Nat) < 2) <|
 .need ((1 : Nat) < 2) <|
 let y4 : Int := (ior .u8 (ishl .u8 v2 6) v1)
 let y5 : (List Int) := [(ior .u8 y4 4), (ior .u8 (ior .u8 (ishl .u8 (iconv .u8 v6) 6) (ishl .u8 v5 3)) v4)]
 .ret (.inl (.h4 v0 v3 y5)))) (
 .need ((0 : Int) ≤ 6) <|
 .need ((0 : Int) ≤ 6) <|
 .need ((0 : Int) ≤ 3) <|
 .need ((0 : Nat) < 2) <|
 .need ((1 : Nat) < 2) <|
 let y6 : Int := (ior .u8 (ishl .u8 v2 6) v1)
 let y7 : (List Int) := [(ior .u8 y6 4), (ior .u8 (ior .u8 (ishl .u8 (iconv .u8 v6) 6) (ishl .u8 v5 3)) v4)]
 .ret (.inl (.h4 v0 v3 y7)))
 | .h4 v0 v1 v5 =>
 .need ((0 : Int) ≤ v1) <|
 .need ((v1 : Int) < 5) <|
 .ite (ieq v1 0) (
 .need (((0 : Nat) + 2 : Nat) ≤ 2) <|
 let y0 : (List Int) := (v5.take 2)
 let y1 : (Int × Int) := (v0, 0)
 .ret (.inr (y0, y1))) (
 .ite (ieq v1 1) (
 .need ((0 : Int) ≤ 0) <|
 .need ((0 : Nat) < 1) <|
 .need (((0 : Nat) + 1 : Nat) ≤ 1) <|
 .need ((0 + 2 : Nat) ≤ 2) <|
 .need (((3 : Nat) * 1 : Nat) ≤ 2 ^ 40) <|
 .need ((3 : Nat) ≤ 2 ^ 40) <|
 .need (((0 : Nat) + 3 : Nat) ≤ 3) <|
 let y2 : (List Int) := (v5.take 2)
 let y3 := x.2.2.2.2.2.2.1
 let y4 : (List Int) := (y2 ++ [(iconv .u8 (ishr .i64 y3 0))])
 let y5 : (Int × Int) := (v0, 0)
 .ret (.inr ((y4.take 3), y5))) (
 .ite (ieq v1 2) (
 .need ((0 : Int) ≤ 0) <|
 .need ((0 : Nat) < 1) <|
 .need (((0 : Nat) + 1 : Nat) ≤ 1) <|
 .need ((0 + 2 : Nat) ≤ 2) <|
 .need (((3 : Nat) * 1 : Nat) ≤ 2 ^ 40) <|
 .need ((3 : Nat) ≤ 2 ^ 40) <|
 .need ((0 : Int) ≤ 8) <|
 .need ((0 : Nat) < 1) <|
 .need (((0 : Nat) + 1 : Nat) ≤ 1) <|
 .need ((3 : Nat) = 3) <|
 .need (((4 : Nat) * 1 : Nat) ≤ 2 ^ 40) <|
 .need ((4 : Nat) ≤ 2 ^ 40) <|
 .need (((0 : Nat) + 4 : Nat) ≤ 4) <|
 let y6 : (List Int) := (v5.take 2)
 let y7 := x.2.2.2.2.2.2.1
 let y8 : (List Int) := (y6 ++ [(iconv .u8 (ishr .i64 y7 0))])
 let y9 : (List Int) := (y8 ++ [(iconv .u8 (ishr .i64 y7 8))])
 let y10 : (Int × Int) := (v0, 0)
 .ret (.inr ((y9.take 4), y10))) (
 .ite (ieq v1 3) (
 .need ((0 : Int) ≤ 0) <|
 .need ((0 : Nat) < 1) <|
 .need (((0 : Nat) + 1 : Nat) ≤ 1) <|
 .need ((0 + 2 : Nat) ≤ 2) <|
 .need (((3 : Nat) * 1 : Nat) ≤ 2 ^ 40) <|
 .need ((3 : Nat) ≤ 2 ^ 40) <|
 .need ((0 : Int) ≤ 8) <|
 .need ((0 : Nat) < 1) <|
 .need (((0 : Nat) + 1 : Nat) ≤ 1) <|
 .need ((3 : Nat) = 3) <|
 .need (((4 : Nat) * 1 : Nat) ≤ 2 ^ 40) <|
 .need ((4 : Nat) ≤ 2 ^ 40) <|
 .need ((0 : Int) ≤ 16) <|
 .need ((0 : Nat) < 1) <|
 .need (((0 : Nat) + 1 : Nat) ≤ 1) <|
 .need ((4 : Nat) = 4) <|
 .need (((5 : Nat) * 1 : Nat) ≤ 2 ^ 40) <|
 .need ((5 : Nat) ≤ 2 ^ 40) <|
 .need (((0 : Nat) + 5 : Nat) ≤ 5) <|
 let y11 : (List Int) := (v5.take 2)
 let y12 := x.2.2.2.2.2.2.1
 let y13 : (List Int) := (y11 ++ [(iconv .u8 (ishr .i64 y12 0))])
 let y14 : (List Int) := (y13 ++ [(iconv .u8 (ishr .i64 y12 8))])
 let y15 : (List Int) := (y14 ++ [(iconv .u8 (ishr .i64 y12 16))])
 let y16 : (Int × Int) := (v0, 0)
 .ret (.inr ((y15.take 5), y16))) (
 .need ((0 : Int) ≤ 0) <|
 .need ((0 : Nat) < 1) <|
 .need (((0 : Nat) + 1 : Nat) ≤ 1) <|
 .need ((0 + 2 : Nat) ≤ 2) <|
 .need (((3 : Nat) * 1 : Nat) ≤ 2 ^ 40) <|
 .need ((3 : Nat) ≤ 2 ^ 40) <|
 .need ((0 : Int) ≤ 8) <|
 .need ((0 : Nat) < 1) <|
 .need (((0 : Nat) + 1 : Nat) ≤ 1) <|
 .need ((3 : Nat) = 3) <|
 .need (((4 : Nat) * 1 : Nat) ≤ 2 ^ 40) <|
 .need ((4 : Nat) ≤ 2 ^ 40) <|
 .need ((0 : Int) ≤ 16) <|
 .need ((0 : Nat) < 1) <|
 .need (((0 : Nat) + 1 : Nat) ≤ 1) <|
 .need ((4 : Nat) = 4) <|
 .need (((5 : Nat) * 1 : Nat) ≤ 2 ^ 40) <|
 .need ((5 : Nat) ≤ 2 ^ 40) <|
 .need ((0 : Int) ≤ 24) <|
 .need ((0 : Nat) < 1) <|
 .need (((0 : Nat) + 1 : Nat) ≤ 1) <|
 .need ((5 : Nat) = 5) <|
 .need (((6 : Nat) * 1 : Nat) ≤ 2 ^ 40) <|
 .need ((6 : Nat) ≤ 2 ^ 40) <|
 .need (((0 : Nat) + 6 : Nat) ≤ 6) <|
 let y17 : (List Int) := (v5.take 2)
 let y18 := x.2.2.2.2.2.2.1
 let y19 : (List Int) := (y17 ++ [(iconv .u8 (ishr .i64 y18 0))])
 let y20 : (List Int) := (y19 ++ [(iconv .u8 (ishr .i64 y18 8))])
 let y21 : (List Int) := (y20 ++ [(iconv .u8 (ishr .i64 y18 16))])
 let y22 : (Int × Int) := (v0, 0)
 .ret (.inr (((y21 ++ [(iconv .u8 (ishr .i64 y18 24))]).take 6), y22))))))
 | .h5 v0 v1 v5 =>
 .need ((0 : Int) ≤ v1) <|
 .need ((v1 : Int) < 5) <|
 .ite (ieq v1 0) (
 .need (((0 : Nat) + 1 : Nat) ≤ 1) <|
 let y0 : (List Int) := (v5.take 1)
 let y1 : (Int × Int) := (v0, 0)
 .ret (.inr (y0, y1))) (
 .ite (ieq v1 1) (
 .need ((0 : Int) ≤ 0) <|
 .need ((0 : Nat) < 1) <|
 .need (((0 : Nat) + 1 : Nat) ≤ 1) <|
 .need ((0 + 1 : Nat) ≤ 1) <|
 .need (((2 : Nat) * 1 : Nat) ≤ 2 ^ 40) <|
 .need ((2 : Nat) ≤ 2 ^ 40) <|
 .need (((0 : Nat) + 2 : Nat) ≤ 2) <|
 let y2 : (List Int) := (v5.take 1)
 let y3 := x.2.2.2.2.2.2.1
 let y4 : (List Int) := (y2 ++ [(iconv .u8 (ishr .i64 y3 0))])
 let y5 : (Int × Int) := (v0, 0)
 .ret (.inr ((y4.take 2), y5))) (
 .ite (ieq v1 2) (
 .need ((0 : Int) ≤ 0) <|
 .need ((0 : Nat) < 1) <|
 .need (((0 : Nat) + 1 : Nat) ≤ 1) <|
 .need ((0 + 1 : Nat) ≤ 1) <|
 .need (((2 : Nat) * 1 : Nat) ≤ 2 ^ 40) <|
 .need ((2 : Nat) ≤ 2 ^ 40) <|
 .need ((0 : Int) ≤ 8) <|
 .need ((0 : Nat) < 1) <|
 .need (((0 : Nat) + 1 : Nat) ≤ 1) <|
 .need ((2 : Nat) = 2) <|
 .need (((3 : Nat) * 1 : Nat) ≤ 2 ^ 40) <|
 .need ((3 : Nat) ≤ 2 ^ 40) <|
 .need (((0 : Nat) + 3 : Nat) ≤ 3) <|
 let y6 : (List Int) := (v5.take 1)
 let y7 := x.2.2.2.2.2.2.1
 let y8 : (List Int) := (y6 ++ [(iconv .u8 (ishr .i64 y7 0))])
 let y9 : (List Int) := (y8 ++ [(iconv .u8 (ishr .i64 y7 8))])
 let y10 : (Int × Int) := (v0, 0)
 .ret (.inr ((y9.take 3), y10))) (
 .ite (ieq v1 3) (
 .need ((0 : Int) ≤ 0) <|
 .need ((0 : Nat) < 1) <|
 .need (((0 : Nat) + 1 : Nat) ≤ 1) <|
 .need ((0 + 1 : Nat) ≤ 1) <|
 .need (((2 : Nat) * 1 : Nat) ≤ 2 ^ 40) <|
 .need ((2 : Nat) ≤ 2 ^ 40) <|
 .need ((0 : Int) ≤ 8) <|
 .need ((0 : Nat) < 1) <|
 .need (((0 : Nat) + 1 : Nat) ≤ 1) <|
 .need ((2 : Nat) = 2) <|
 .need (((3 : Nat) * 1 : Nat) ≤ 2 ^ 40) <|
 .need ((3 : Nat) ≤ 2 ^ 40) <|
 .need ((0 : Int) ≤ 16) <|
 .need ((0 : Nat) < 1) <|
 .need (((0 : Nat) + 1 : Nat) ≤ 1) <|
 .need ((3 : Nat) = 3) <|
 .need (((4 : Nat) * 1 : Nat) ≤ 2 ^ 40) <|
 .need ((4 : Nat) ≤ 2 ^ 40) <|
 .need (((0 : Nat) + 4 : Nat) ≤ 4) <|
 let y11 : (List Int) := (v5.take 1)
 let y12 := x.2.2.2.2.2.2.1
 let y13 : (List Int) := (y11 ++ [(iconv .u8 (ishr .i64 y12 0))])
 let y14 : (List Int) := (y13 ++ [(iconv .u8 (ishr .i64 y12 8))])
 let y15 : (List Int) := (y14 ++ [(iconv .u8 (ishr .i64 y12 16))])
 let y16 : (Int × Int) := (v0, 0)
 .ret (.inr ((y15.take 4), y16))) (
 .need ((0 : Int) ≤ 0) <|
 .need ((0 : Nat) < 1) <|
 .need (((0 : Nat) + 1 : Nat) ≤ 1) <|
 .need ((0 + 1 : Nat) ≤ 1) <|
 .need (((2 : Nat) * 1 : Nat) ≤ 2 ^ 40) <|
 .need ((2 : Nat) ≤ 2 ^ 40) <|
 .need ((0 : Int) ≤ 8) <|
 .need ((0 : Nat) < 1) <|
 .need (((0 : Nat) + 1 : Nat) ≤ 1) <|
 .need ((2 : Nat) = 2) <|
 .need (((3 : Nat) * 1 : Nat) ≤ 2 ^ 40) <|
 .need ((3 : Nat) ≤ 2 ^ 40) <|
 .need ((0 : Int) ≤ 16) <|
 .need ((0 : Nat) < 1) <|
 .need (((0 : Nat) + 1 : Nat) ≤ 1) <|
 .need ((3 : Nat) = 3) <|
 .need (((4 : Nat) * 1 : Nat) ≤ 2 ^ 40) <|
 .need ((4 : Nat) ≤ 2 ^ 40) <|
 .need ((0 : Int) ≤ 24) <|
 .need ((0 : Nat) < 1) <|
 .need (((0 : Nat) + 1 : Nat) ≤ 1) <|
 .need ((4 : Nat) = 4) <|
 .need (((5 : Nat) * 1 : Nat) ≤ 2 ^ 40) <|
 .need ((5 : Nat) ≤ 2 ^ 40) <|
 .need (((0 : Nat) + 5 : Nat) ≤ 5) <|
 let y17 : (List Int) := (v5.take 1)
 let y18 := x.2.2.2.2.2.2.1
 let y19 : (List Int) := (y17 ++ [(iconv .u8 (ishr .i64 y18 0))])
 let y20 : (List Int) := (y19 ++ [(iconv .u8 (ishr .i64 y18 8))])
 let y21 : (List Int) := (y20 ++ [(iconv .u8 (ishr .i64 y18 16))])
 let y22 : (Int × Int) := (v0, 0)
 .ret (.inr (((y21 ++ [(iconv .u8 (ishr .i64 y18 24))]).take 5), y22))))))
noncomputable def cREF2_1 (x : (Int × DO)) : AObj := .cell true 23 (.agg [1, 1, 1, 1, 1, 1, 1, 1] [(.int .u8 x.2.1), (.int .i64 x.2.2.1), (.int .i64 x.2.2.2.1), (.int .i64 x.2.2.2.2.1), (.int .i64 x.2.2.2.2.2.1), (.int .i64 x.2.2.2.2.2.2.1), (.bool x.2.2.2.2.2.2.2.1), (.int .i64 x.2.2.2.2.2.2.2.2)])
noncomputable def cREF2_2 : List It := [.code (subc [1, 1, 1, 1, 1, 1, 1, 1, 1, 1, 1, 0] (bodyOf Tryd.f39)), .code (subc [1, 1, 1, 1, 1, 1, 1, 1, 1, 1, 1, 1] (bodyOf Tryd.f39))]
noncomputable def head39 (x : (Int × DO)) : J39 → Head
 | .h0 =>
 { fr := { id := 39, kind := .top, T := [(.int .i64 x.1), .any, .any, (.ptr 0 []), (.ptr 1 [])] ++ List.replicate 123 .any, items := [.code (subc [1, 1, 0] (bodyOf Tryd.f39)), .code (subc [1, 1, 1] (bodyOf Tryd.f39))], D := [], base := 0 },
   stk := [],
   H := [(cREF2_1 x), .cell true 28 (.raw (.slice none 0 0))] }
 | .h1 v0 v1 =>
 { fr := { id := 39, kind := .top, T := [.any, .any, .any, (.ptr 0 []), (.ptr 1 []), (.int .u8 v0), .any, (.int .u8 v1), (.fn 70 [(.ptr 1 []), (.ptr 0 [])])] ++ List.replicate 119 .any, items := [.code (subc [1, 1, 1, 1, 1, 1, 0] (bodyOf Tryd.f39)), .code (subc [1, 1, 1, 1, 1, 1, 1] (bodyOf Tryd.f39))], D := [], base := 0 },
   stk := [],
   H := [(cREF2_1 x), .cell true 28 (.raw (.slice none 0 0))] }
 | .h2 v0 v1 v2 v3 v4 =>
 { fr := { id := 39, kind := .top, T := [.any, .any, .any, (.ptr 0 []), (.ptr 1 []), (.int .u8 v0), .any, (.int .u8 v1), (.fn 70 [(.ptr 1 []), (.ptr 0 [])]), (.int .u8 v2), (.int .i64 v3), (.int .u8 v4), (.int .u8 4), (.int .i64 0)] ++ List.replicate 114 .any, items := [.code (subc [1, 1, 1, 1, 1, 1, 1, 1, 1, 0, 0] (bodyOf Tryd.f39)), .code (subc [1, 1, 1, 1, 1, 1, 1, 1, 1, 0, 1] (bodyOf Tryd.f39)), .code (subc [1, 1, 1, 1, 1, 1, 1, 1, 1, 1] (bodyOf Tryd.f39))], D := [], base := 0 },
   stk := [],
   H := [(cREF2_1 x), .cell true 28 (.raw (.slice none 0 0))] }
 | .h3 v0 v1 v2 v3 v4 v5 v6 =>
 { fr := { id := 39, kind := .top, T := [.any, .any, .any, (.ptr 0 []), (.ptr 1 []), (.int .u8 v0), .any, (.int .u8 v1), (.fn 70 [(.ptr 1 []), (.ptr 0 [])]), (.int .u8 v2), (.int .i64 v3), (.int .u8 v4), (.int .u8 v5), (.int .i64 v6)] ++ List.replicate 114 .any, items := [.code (subc [1, 1, 1, 1, 1, 1, 1, 1, 1, 1, 0, 0] (bodyOf Tryd.f39)), .code (subc [1, 1, 1, 1, 1, 1, 1, 1, 1, 1, 0, 1] (bodyOf Tryd.f39)), .code (subc [1, 1, 1, 1, 1, 1, 1, 1, 1, 1, 1] (bodyOf Tryd.f39))], D := [], base := 0 },
   stk := [],
   H := [(cREF2_1 x), .cell true 28 (.raw (.slice none 0 0))] }
 | .h4 v0 v1 v5 =>
 { fr := { id := 39, kind := .top, T := List.replicate 4 .any ++ [(.ptr 0 []), (.int .u8 v0), .any, .any, (.fn 70 [(.ptr 0 []), (.ptr 2 [])]), .any, (.int .i64 v1)] ++ List.replicate 117 .any, items := cREF2_2, D := [], base := 0 },
   stk := [],
   H := [.cell true 28 (.osl 1 [] 1 0 2 (some 2)), .cell true 5 (.arr 2 (.int .u8) v5), (cREF2_1 x)] }
 | .h5 v0 v1 v5 =>
 { fr := { id := 39, kind := .top, T := List.replicate 4 .any ++ [(.ptr 0 []), (.int .u8 v0), .any, .any, (.fn 70 [(.ptr 0 []), (.ptr 2 [])]), .any, (.int .i64 v1)] ++ List.replicate 117 .any, items := cREF2_2, D := [], base := 0 },
   stk := [],
   H := [.cell true 28 (.osl 1 [] 1 0 1 (some 1)), .cell true 5 (.arr 1 (.int .u8) v5), (cREF2_1 x)] }
noncomputable def stop39 : FuncId → Nat → Nat → Option Cut
  | 39, 7, 0 => some { tmps := [0, 3, 4], loops := [], dead := [], stk := [] }
  | 39, 25, 0 => some { tmps := [3, 4, 5, 7, 8], loops := [], dead := [], stk := [] }
  | 39, 33, 0 => some { tmps := [3, 4, 5, 7, 8, 9, 10, 11, 12, 13], loops := [], dead := [], stk := [] }
  | 39, 37, 0 => some { tmps := [3, 4, 5, 7, 8, 9, 10, 11, 12, 13], loops := [], dead := [], stk := [] }
  | 39, 43, 0 => some { tmps := [4, 5, 8, 10], loops := [], dead := [], stk := [] }
  | _, _, _ => none
noncomputable def fn39 (x : (Int × DO)) : ((List Int) × (Int × Int)) := endVal (TC.dflt (.st (.slice (.int .u8)) (.st (.int .u8) (.st1 (.int .i64))))) (step39 x) (tree39 x)
def pre39 (x : (Int × DO)) : Prop := ∃ r, Ends (step39 x) r (tree39 x)
noncomputable def spec39 : Spec := { dom := (.st (.int .i64) (.st1 CO)), cod := (.st (.slice (.int .u8)) (.st (.int .u8) (.st1 (.int .i64)))), n := 3, pre := pre39, f := fn39 }
noncomputable def need39 : FuncId → Option Spec
  | 67 => some spec67
  | 68 => some spec68
  | 69 => some spec69
  | 71 => some spec71
  | 72 => some spec72
  | _ => none
theorem need39_ok : ∀ f sp, need39 f = some sp → SpecOk env0 f sp := by
  intro f sp h
  unfold need39 at h
  split at h
  · cases h; exact ok67
  · cases h; exact ok68
  · cases h; exact ok69
  · cases h; exact ok71
  · cases h; exact ok72
  · cases h
section
variable (W : Cfg) (Q : ((List Int) × (Int × Int)) → Prop) (x : (Int × DO))
theorem run39 : run (env need39 (fun _ _ => none)) stop39 (finS spec39 Q) W 100000 (startFr 39 Tryd.f39 (bodyOf Tryd.f39) (argsOf (.st (.int .i64) (.st1 CO)) x)) [] [] = (tree39 x).wp (kont W Q (head39 x)) := by kernel_rfl
theorem run39h0 : run (env need39 (fun _ _ => none)) stop39 (finS spec39 Q) W 100000 (head39 x (.h0)).fr.enter (head39 x (.h0)).stk (head39 x (.h0)).H = (step39 x (.h0)).wp (kont W Q (head39 x)) := by kernel_rfl
theorem run39h1 (v0 v1 : Int) : run (env need39 (fun _ _ => none)) stop39 (finS spec39 Q) W 100000 (head39 x (.h1 v0 v1)).fr.enter (head39 x (.h1 v0 v1)).stk (head39 x (.h1 v0 v1)).H = (step39 x (.h1 v0 v1)).wp (kont W Q (head39 x)) := by kernel_rfl
theorem run39h2 (v0 v1 : Int) (v2 v3 v4 : Int) : run (env need39 (fun _ _ => none)) stop39 (finS spec39 Q) W 100000 (head39 x (.h2 v0 v1 v2 v3 v4)).fr.enter (head39 x (.h2 v0 v1 v2 v3 v4)).stk (head39 x (.h2 v0 v1 v2 v3 v4)).H = (step39 x (.h2 v0 v1 v2 v3 v4)).wp (kont W Q (head39 x)) := by kernel_rfl
theorem run39h3 (v0 v1 : Int) (v2 v3 : Int) (v4 v5 v6 : Int) : run (env need39 (fun _ _ => none)) stop39 (finS spec39 Q) W 100000 (head39 x (.h3 v0 v1 v2 v3 v4 v5 v6)).fr.enter (head39 x (.h3 v0 v1 v2 v3 v4 v5 v6)).stk (head39 x (.h3 v0 v1 v2 v3 v4 v5 v6)).H = (step39 x (.h3 v0 v1 v2 v3 v4 v5 v6)).wp (kont W Q (head39 x)) := by kernel_rfl
theorem run39h4 (v0 v1 : Int) (v5 : List Int) : run (env need39 (fun _ _ => none)) stop39 (finS spec39 Q) W 100000 (head39 x (.h4 v0 v1 v5)).fr.enter (head39 x (.h4 v0 v1 v5)).stk (head39 x (.h4 v0 v1 v5)).H = (step39 x (.h4 v0 v1 v5)).wp (kont W Q (head39 x)) := by kernel_rfl
theorem run39h5 (v0 v1 : Int) (v5 : List Int) : run (env need39 (fun _ _ => none)) stop39 (finS spec39 Q) W 100000 (head39 x (.h5 v0 v1 v5)).fr.enter (head39 x (.h5 v0 v1 v5)).stk (head39 x (.h5 v0 v1 v5)).H = (step39 x (.h5 v0 v1 v5)).wp (kont W Q (head39 x)) := by kernel_rfl
end
theorem runs39 (W : Cfg) (Q : ((List Int) × (Int × Int)) → Prop) (x : (Int × DO)) : ∀ j : J39, run (env need39 (fun _ _ => none)) stop39 (finS spec39 Q) W 100000 (head39 x j).fr.enter (head39 x j).stk (head39 x j).H = (step39 x j).wp (kont W Q (head39 x))
 | .h0 => run39h0 W Q x
 | .h1 v0 v1 => run39h1 W Q x v0 v1
 | .h2 v0 v1 v2 v3 v4 => run39h2 W Q x v0 v1 v2 v3 v4
 | .h3 v0 v1 v2 v3 v4 v5 v6 => run39h3 W Q x v0 v1 v2 v3 v4 v5 v6
 | .h4 v0 v1 v5 => run39h4 W Q x v0 v1 v5
 | .h5 v0 v1 v5 => run39h5 W Q x v0 v1 v5
theorem ok39 : SpecOk env0 39 spec39 := SpecOk.env rfl (fun _ _ h => h) (spec_of_trees (E := (env need39 (fun _ _ => none))) (sp := spec39) (valid _ _) (fun f sp h => SpecOk.env rfl (fun _ _ h => h) (need39_ok f sp h)) (fn := Tryd.f39) (c := (bodyOf Tryd.f39)) (by kernel_rfl) (by kernel_rfl) tree39 step39 head39 run39 runs39 (fun _ h => endVal_ends h))
noncomputable def tree73 (x : DO) : Tr Bool :=
  .ite ((ieq x.1 1) == true) (
 let y0 := x.2.1
 .ite ((ile 4 y0) == true) (
 .ret (ile y0 7)) (
 .ret false)) (
 .ret false)
noncomputable def fn73 (x : DO) : Bool := (tree73 x).val
def pre73 (x : DO) : Prop := (tree73 x).ok
noncomputable def spec73 : Spec := { dom := (.st1 CO), cod := .bool, n := 1, pre := pre73, f := fn73 }
noncomputable def need73 : FuncId → Option Spec
  | _ => none
theorem need73_ok : ∀ f sp, need73 f = some sp → SpecOk env0 f sp := by
  intro f sp h
  unfold need73 at h
  split at h
  · cases h
section
variable (W : Cfg) (Q : Bool → Prop) (x : DO)
theorem run73 : run (env need73 (fun _ _ => none)) (fun _ _ _ => none) (finS spec73 Q) W 100000 (startFr 73 Tryd.f73 (bodyOf Tryd.f73) (argsOf (.st1 CO) x)) [] [] = (tree73 x).wp Q := by kernel_rfl
end
theorem ok73 : SpecOk env0 73 spec73 := SpecOk.env rfl (fun _ _ h => h) (spec_of_tree (E := (env need73 (fun _ _ => none))) (sp := spec73) (valid _ _) (fun f sp h => SpecOk.env rfl (fun _ _ h => h) (need73_ok f sp h)) (fn := Tryd.f73) (c := (bodyOf Tryd.f73)) (by kernel_rfl) (by kernel_rfl) tree73 run73 (fun _ h => Tr.gives_val h))
noncomputable def tree40 (x : DI) : Tr Bool :=
  .ite ((ieq x.1 32) == false) (
 .ite (ieq x.1 33) (
 let y0 := x.2.2
 let y1 := y0.2
 let y2 := y1.2.1
 .need (pre73 y2) <|
 let y3 := (fn73 y2)
 .ret y3) (
 let y4 := x.2.2
 .ite ((ieq y4.1 1) == true) (
 let y5 := y4.2
 let y6 := y5.1
 .need (pre73 y6) <|
 .ite ((fn73 y6) == false) (
 let y7 := y5.2.1
 .need (pre73 y7) <|
 let y8 := (fn73 y7)
 .ret y8) (
 .ret true)) (
 .ret false))) (
 let y9 := x.2.2
 let y10 := y9.2
 let y11 := y10.2.1
 .need (pre73 y11) <|
 let y12 := (fn73 y11)
 .ret y12)
noncomputable def fn40 (x : DI) : Bool := (tree40 x).val
def pre40 (x : DI) : Prop := (tree40 x).ok
noncomputable def spec40 : Spec := { dom := (.st1 CInsn), cod := .bool, n := 1, pre := pre40, f := fn40 }
noncomputable def need40 : FuncId → Option Spec
  | 73 => some spec73
  | _ => none
theorem need40_ok : ∀ f sp, need40 f = some sp → SpecOk env0 f sp := by
  intro f sp h
  unfold need40 at h
  split at h
  · cases h; exact ok73
  · cases h
section
variable (W : Cfg) (Q : Bool → Prop) (x : DI)
theorem run40 : run (env need40 (fun _ _ => none)) (fun _ _ _ => none) (finS spec40 Q) W 100000 (startFr 40 Tryd.f40 (bodyOf Tryd.f40) (argsOf (.st1 CInsn) x)) [] [] = (tree40 x).wp Q := by kernel_rfl
end
theorem ok40 : SpecOk env0 40 spec40 := SpecOk.env rfl (fun _ _ h => h) (spec_of_tree (E := (env need40 (fun _ _ => none))) (sp := spec40) (valid _ _) (fun f sp h => SpecOk.env rfl (fun _ _ h => h) (need40_ok f sp h)) (fn := Tryd.f40) (c := (bodyOf Tryd.f40)) (by kernel_rfl) (by kernel_rfl) tree40 run40 (fun _ h => Tr.gives_val h))
inductive J41 where
 | h0 (v1 : Int) (v3 : Int) (v4 : Int)
 | h1 (v1 : Int) (v3 : Int) (v4 : Int)
 | h2 (v1 : Int)
 | h3 (v1 : Int) (v3 : Int) (v4 : Int)
 | h4 (v1 : Int) (v2 : Int)
 | h5 (v1 : Nat) (v2 : Nat) (v4 : Int) (v5 : Int) (v6 : Nat) (v7 : (List Int))
 | h6 (v1 : Int) (v2 : Int)
 | h7
 | h8 (v1 : Nat) (v2 : Nat) (v4 : Int) (v5 : Int) (v6 : Nat) (v7 : (List Int))
 | h9 (v1 : Nat) (v2 : Nat) (v3 : Nat) (v4 : (List Int))
noncomputable def tree41 (x : (List (List Int))) : Tr (J41 ⊕ (List Int)) :=
  .ret (.inl (.h0 0 (x.length : Int) 0))
noncomputable def step41 (x : (List (List Int))) : J41 → Tr (J41 ⊕ (List Int))
 | .h0 v1 v3 v4 =>
 .ite (ilt v4 v3) (
 .ret (.inl (.h1 v1 v3 v4))) (
 .ret (.inl (.h2 v1)))
 | .h1 v1 v3 v4 =>
 .need ((0 : Int) ≤ v4) <|
 .need (v4 < (x.length : Int)) <|
 let y0 : Int := (iadd .i64 v1 ((rdc (.slice (.int .u8)) x (v4).toNat).length : Int))
 .ite (ilt y0 0) (
 .fail (.inr (TC.dflt (.slice (.int .u8))))) (
 .ret (.inl (.h3 y0 v3 v4)))
 | .h2 v1 =>
 .ite (ilt v1 0) (
 .fail (.inr (TC.dflt (.slice (.int .u8))))) (
 let y0 : Int := (isub .i64 v1 0)
 .ite (ilt 0 y0) (
 .need ((0 : Int) = 0) <|
 .need ((0 : Nat) = 0) <|
 .need ((0 : Int) < y0) <|
 let y1 : Nat := (y0).toNat
 .need (((y1 : Nat) * 1 : Nat) ≤ 2 ^ 40) <|
 .need ((y1 : Nat) ≤ 2 ^ 40) <|
 .all fun j3 =>
 .need ((0 : Int) ≤ 0) <|
 .need ((0 : Nat) ≤ 0) <|
 let y2 : Nat := (y1 + j3)
 .need ((0 : Nat) ≤ y2) <|
 .need ((0 : Nat) = 0 ∨ (0 : Nat) < y2) <|
 .ret (.inl (.h5 0 y2 (x.length : Int) 0 y2 ((List.replicate y1 0) ++ (List.replicate j3 0))))) (
 .ret (.inl (.h4 (x.length : Int) 0))))
 | .h3 v1 v3 v4 =>
 .ret (.inl (.h0 v1 v3 (iadd .i64 v4 1)))
 | .h4 v1 v2 =>
 .ite (ilt v2 v1) (
 .ret (.inl (.h6 v1 v2))) (
 .ret (.inl (.h7)))
 | .h5 v1 v2 v4 v5 v6 v7 =>
 .ite (ilt v5 v4) (
 .ret (.inl (.h8 v1 v2 v4 v5 v6 v7))) (
 .ret (.inl (.h9 v1 v2 v6 v7)))
 | .h6 v1 v2 =>
 .need ((0 : Int) ≤ v2) <|
 .need (v2 < (x.length : Int)) <|
 let y0 : (List Int) := (rdc (.slice (.int .u8)) x (v2).toNat)
 let y1 : Nat := y0.length
 .ite (ieq (y1 : Int) 0) (
 let y2 : Int := (iadd .i64 v2 1)
 .ret (.inl (.h4 v1 y2))) (
 .need (((y1 : Nat) * 1 : Nat) ≤ 2 ^ 40) <|
 .need ((y1 : Nat) ≤ 2 ^ 40) <|
 .all fun j3 =>
 let y3 : Nat := (y1 + j3)
 let y4 : Int := (iadd .i64 v2 1)
 .ret (.inl (.h5 y1 y3 v1 y4 y3 (y0 ++ (List.replicate j3 0)))))
 | .h7 =>
 .fail (.inr (TC.dflt (.slice (.int .u8))))
 | .h8 v1 v2 v4 v5 v6 v7 =>
 .need ((0 : Int) ≤ v5) <|
 .need (v5 < (x.length : Int)) <|
 let y0 : (List Int) := (rdc (.slice (.int .u8)) x (v5).toNat)
 let y1 : Nat := y0.length
 let y2 : Nat := (v1 + y1)
 .ite (ilt ((v2 : Nat) : Int) ((y2 : Nat) : Int)) (
 .need ((0 + v1 : Nat) ≤ v6) <|
 .need (((y2 : Nat) * 1 : Nat) ≤ 2 ^ 40) <|
 .need ((y2 : Nat) ≤ 2 ^ 40) <|
 .all fun j3 =>
 let y3 : Nat := (y2 + j3)
 let y4 : Int := (iadd .i64 v5 1)
 .ret (.inl (.h5 y2 y3 v4 y4 y3 (((v7.take v1) ++ y0) ++ (List.replicate j3 0))))) (
 .need ((0 + v1 + y1 : Nat) ≤ v6) <|
 let y5 : Int := (iadd .i64 v5 1)
 .ret (.inl (.h5 y2 v2 v4 y5 v6 (spliceL v7 (0 + v1) y0))))
 | .h9 v1 v2 v3 v4 =>
 .need ((v1 : Nat) ≤ v3) <|
 .ret (.inr (v4.take v1))
noncomputable def cREF2_0 : List It := [.code (subc [1, 1, 1, 1, 0, 1, 0, 0, 1, 1, 0, 0, 0] (bodyOf Tryd.f41)), .code (subc [1, 1, 1, 1, 0, 1, 0, 0, 1, 1, 0, 0, 1] (bodyOf Tryd.f41)), .blk 3, .code (subc [1, 1, 1, 1, 0, 1, 0, 0, 1, 1, 1] (bodyOf Tryd.f41)), .lp (subc [1, 1, 1, 1, 0, 1, 0, 0] (bodyOf Tryd.f41)), .blk 2, .code (subc [1, 1, 1, 1, 1] (bodyOf Tryd.f41))]
noncomputable def head41 (x : (List (List Int))) : J41 → Head
 | .h0 v1 v3 v4 =>
 { fr := { id := 41, kind := .top, T := [(.fsl (.slice (.int .u8)) x), .any, .any, (.int .i64 v1)] ++ List.replicate 5 .any ++ [(.fsl (.slice (.int .u8)) x), (.int .i64 v3), (.int .i64 v4)] ++ List.replicate 24 .any, items := [.lp (subc [1, 1, 0, 1, 0, 0] (bodyOf Tryd.f41)), .blk 0, .code (subc [1, 1, 1] (bodyOf Tryd.f41))], D := [], base := 0 },
   stk := [],
   H := [] }
 | .h1 v1 v3 v4 =>
 { fr := { id := 41, kind := .top, T := [(.fsl (.slice (.int .u8)) x), .any, .any, (.int .i64 v1)] ++ List.replicate 5 .any ++ [(.fsl (.slice (.int .u8)) x), (.int .i64 v3), (.int .i64 v4)] ++ List.replicate 24 .any, items := [.code (subc [1, 1, 0, 1, 0, 0, 1, 1, 0, 0, 0] (bodyOf Tryd.f41)), .code (subc [1, 1, 0, 1, 0, 0, 1, 1, 0, 0, 1] (bodyOf Tryd.f41)), .blk 1, .code (subc [1, 1, 0, 1, 0, 0, 1, 1, 1] (bodyOf Tryd.f41)), .lp (subc [1, 1, 0, 1, 0, 0] (bodyOf Tryd.f41)), .blk 0, .code (subc [1, 1, 1] (bodyOf Tryd.f41))], D := [], base := 0 },
   stk := [],
   H := [] }
 | .h2 v1 =>
 { fr := { id := 41, kind := .top, T := [(.fsl (.slice (.int .u8)) x), .any, .any, (.int .i64 v1)] ++ List.replicate 32 .any, items := [.code (subc [1, 1, 1, 0] (bodyOf Tryd.f41)), .code (subc [1, 1, 1, 1] (bodyOf Tryd.f41))], D := [], base := 0 },
   stk := [],
   H := [] }
 | .h3 v1 v3 v4 =>
 { fr := { id := 41, kind := .top, T := [(.fsl (.slice (.int .u8)) x), .any, .any, (.int .i64 v1)] ++ List.replicate 5 .any ++ [(.fsl (.slice (.int .u8)) x), (.int .i64 v3), (.int .i64 v4)] ++ List.replicate 24 .any, items := [.code (subc [1, 1, 0, 1, 0, 0, 1, 1, 1] (bodyOf Tryd.f41)), .lp (subc [1, 1, 0, 1, 0, 0] (bodyOf Tryd.f41)), .blk 0, .code (subc [1, 1, 1] (bodyOf Tryd.f41))], D := [], base := 0 },
   stk := [],
   H := [] }
 | .h4 v1 v2 =>
 { fr := { id := 41, kind := .top, T := List.replicate 6 .any ++ [(.raw (.slice none 0 0))] ++ List.replicate 18 .any ++ [(.fsl (.slice (.int .u8)) x), (.int .i64 v1), (.int .i64 v2)] ++ List.replicate 8 .any, items := [.lp (subc [1, 1, 1, 1, 0, 1, 0, 0] (bodyOf Tryd.f41)), .blk 2, .code (subc [1, 1, 1, 1, 1] (bodyOf Tryd.f41))], D := [], base := 0 },
   stk := [],
   H := [] }
 | .h5 v1 v2 v4 v5 v6 v7 =>
 { fr := { id := 41, kind := .top, T := List.replicate 6 .any ++ [(.osl 0 [] 1 0 v1 (some v2))] ++ List.replicate 18 .any ++ [(.fsl (.slice (.int .u8)) x), (.int .i64 v4), (.int .i64 v5)] ++ List.replicate 8 .any, items := [.lp (subc [1, 1, 1, 1, 0, 1, 0, 0] (bodyOf Tryd.f41)), .blk 2, .code (subc [1, 1, 1, 1, 1] (bodyOf Tryd.f41))], D := [], base := 0 },
   stk := [],
   H := [.cell true 5 (.arr v6 (.int .u8) v7)] }
 | .h6 v1 v2 =>
 { fr := { id := 41, kind := .top, T := List.replicate 6 .any ++ [(.raw (.slice none 0 0))] ++ List.replicate 18 .any ++ [(.fsl (.slice (.int .u8)) x), (.int .i64 v1), (.int .i64 v2)] ++ List.replicate 8 .any, items := cREF2_0, D := [], base := 0 },
   stk := [],
   H := [] }
 | .h7 =>
 { fr := { id := 41, kind := .top, T := List.replicate 6 .any ++ [(.raw (.slice none 0 0))] ++ List.replicate 29 .any, items := [.code (subc [1, 1, 1, 1, 1, 0] (bodyOf Tryd.f41)), .code (subc [1, 1, 1, 1, 1, 1] (bodyOf Tryd.f41))], D := [], base := 0 },
   stk := [],
   H := [] }
 | .h8 v1 v2 v4 v5 v6 v7 =>
 { fr := { id := 41, kind := .top, T := List.replicate 6 .any ++ [(.osl 0 [] 1 0 v1 (some v2))] ++ List.replicate 18 .any ++ [(.fsl (.slice (.int .u8)) x), (.int .i64 v4), (.int .i64 v5)] ++ List.replicate 8 .any, items := cREF2_0, D := [], base := 0 },
   stk := [],
   H := [.cell true 5 (.arr v6 (.int .u8) v7)] }
 | .h9 v1 v2 v3 v4 =>
 { fr := { id := 41, kind := .top, T := List.replicate 6 .any ++ [(.osl 0 [] 1 0 v1 (some v2))] ++ List.replicate 29 .any, items := [.code (subc [1, 1, 1, 1, 1, 0] (bodyOf Tryd.f41)), .code (subc [1, 1, 1, 1, 1, 1] (bodyOf Tryd.f41))], D := [], base := 0 },
   stk := [],
   H := [.cell true 5 (.arr v3 (.int .u8) v4)] }
noncomputable def stop41 : FuncId → Nat → Nat → Option Cut
  | 41, 0, 0 => some { tmps := [0, 3, 9, 10, 11], loops := [], dead := [], stk := [] }
  | 41, 9, 0 => some { tmps := [0, 3, 9, 10, 11], loops := [], dead := [], stk := [] }
  | 41, 19, 0 => some { tmps := [0, 3], loops := [], dead := [], stk := [] }
  | 41, 17, 0 => some { tmps := [0, 3, 9, 10, 11], loops := [], dead := [], stk := [] }
  | 41, 4, 0 => some { tmps := [6, 25, 26, 27], loops := [], dead := [], stk := [] }
  | 41, 25, 0 => some { tmps := [6, 25, 26, 27], loops := [], dead := [], stk := [] }
  | 41, 31, 0 => some { tmps := [6], loops := [], dead := [], stk := [] }
  | _, _, _ => none
noncomputable def fn41 (x : (List (List Int))) : (List Int) := endVal (TC.dflt (.slice (.int .u8))) (step41 x) (tree41 x)
def pre41 (x : (List (List Int))) : Prop := ∃ r, Ends (step41 x) r (tree41 x)
noncomputable def spec41 : Spec := { dom := (.st1 (.slice (.slice (.int .u8)))), cod := (.slice (.int .u8)), n := 1, pre := pre41, f := fn41, own := some 5 }
noncomputable def need41 : FuncId → Option Spec
  | _ => none
theorem need41_ok : ∀ f sp, need41 f = some sp → SpecOk env0 f sp := by
  intro f sp h
  unfold need41 at h
  split at h
  · cases h
section
variable (W : Cfg) (Q : (List Int) → Prop) (x : (List (List Int)))
theorem run41 : run (env need41 (fun _ _ => none)) stop41 (finS spec41 Q) W 100000 (startFr 41 Tryd.f41 (bodyOf Tryd.f41) (argsOf (.st1 (.slice (.slice (.int .u8)))) x)) [] [] = (tree41 x).wp (kont W Q (head41 x)) := by kernel_rfl
theorem run41h0 (v1 v3 v4 : Int) : run (env need41 (fun _ _ => none)) stop41 (finS spec41 Q) W 100000 (head41 x (.h0 v1 v3 v4)).fr.enter (head41 x (.h0 v1 v3 v4)).stk (head41 x (.h0 v1 v3 v4)).H = (step41 x (.h0 v1 v3 v4)).wp (kont W Q (head41 x)) := by kernel_rfl
theorem run41h1 (v1 v3 v4 : Int) : run (env need41 (fun _ _ => none)) stop41 (finS spec41 Q) W 100000 (head41 x (.h1 v1 v3 v4)).fr.enter (head41 x (.h1 v1 v3 v4)).stk (head41 x (.h1 v1 v3 v4)).H = (step41 x (.h1 v1 v3 v4)).wp (kont W Q (head41 x)) := by kernel_rfl
theorem run41h2 (v1 : Int) : run (env need41 (fun _ _ => none)) stop41 (finS spec41 Q) W 100000 (head41 x (.h2 v1)).fr.enter (head41 x (.h2 v1)).stk (head41 x (.h2 v1)).H = (step41 x (.h2 v1)).wp (kont W Q (head41 x)) := by kernel_rfl
theorem run41h3 (v1 v3 v4 : Int) : run (env need41 (fun _ _ => none)) stop41 (finS spec41 Q) W 100000 (head41 x (.h3 v1 v3 v4)).fr.enter (head41 x (.h3 v1 v3 v4)).stk (head41 x (.h3 v1 v3 v4)).H = (step41 x (.h3 v1 v3 v4)).wp (kont W Q (head41 x)) := by kernel_rfl
theorem run41h4 (v1 v2 : Int) : run (env need41 (fun _ _ => none)) stop41 (finS spec41 Q) W 100000 (head41 x (.h4 v1 v2)).fr.enter (head41 x (.h4 v1 v2)).stk (head41 x (.h4 v1 v2)).H = (step41 x (.h4 v1 v2)).wp (kont W Q (head41 x)) := by kernel_rfl
theorem run41h5 (v1 v2 : Nat) (v4 v5 : Int) (v6 : Nat) (v7 : List Int) : run (env need41 (fun _ _ => none)) stop41 (finS spec41 Q) W 100000 (head41 x (.h5 v1 v2 v4 v5 v6 v7)).fr.enter (head41 x (.h5 v1 v2 v4 v5 v6 v7)).stk (head41 x (.h5 v1 v2 v4 v5 v6 v7)).H = (step41 x (.h5 v1 v2 v4 v5 v6 v7)).wp (kont W Q (head41 x)) := by kernel_rfl
theorem run41h6 (v1 v2 : Int) : run (env need41 (fun _ _ => none)) stop41 (finS spec41 Q) W 100000 (head41 x (.h6 v1 v2)).fr.enter (head41 x (.h6 v1 v2)).stk (head41 x (.h6 v1 v2)).H = (step41 x (.h6 v1 v2)).wp (kont W Q (head41 x)) := by kernel_rfl
theorem run41h7 : run (env need41 (fun _ _ => none)) stop41 (finS spec41 Q) W 100000 (head41 x (.h7)).fr.enter (head41 x (.h7)).stk (head41 x (.h7)).H = (step41 x (.h7)).wp (kont W Q (head41 x)) := by kernel_rfl
theorem run41h8 (v1 v2 : Nat) (v4 v5 : Int) (v6 : Nat) (v7 : List Int) : run (env need41 (fun _ _ => none)) stop41 (finS spec41 Q) W 100000 (head41 x (.h8 v1 v2 v4 v5 v6 v7)).fr.enter (head41 x (.h8 v1 v2 v4 v5 v6 v7)).stk (head41 x (.h8 v1 v2 v4 v5 v6 v7)).H = (step41 x (.h8 v1 v2 v4 v5 v6 v7)).wp (kont W Q (head41 x)) := by kernel_rfl
theorem run41h9 (v1 v2 v3 : Nat) (v4 : List Int) : run (env need41 (fun _ _ => none)) stop41 (finS spec41 Q) W 100000 (head41 x (.h9 v1 v2 v3 v4)).fr.enter (head41 x (.h9 v1 v2 v3 v4)).stk (head41 x (.h9 v1 v2 v3 v4)).H = (step41 x (.h9 v1 v2 v3 v4)).wp (kont W Q (head41 x)) := by kernel_rfl
end
theorem runs41 (W : Cfg) (Q : (List Int) → Prop) (x : (List (List Int))) : ∀ j : J41, run (env need41 (fun _ _ => none)) stop41 (finS spec41 Q) W 100000 (head41 x j).fr.enter (head41 x j).stk (head41 x j).H = (step41 x j).wp (kont W Q (head41 x))
 | .h0 v1 v3 v4 => run41h0 W Q x v1 v3 v4
 | .h1 v1 v3 v4 => run41h1 W Q x v1 v3 v4
 | .h2 v1 => run41h2 W Q x v1
 | .h3 v1 v3 v4 => run41h3 W Q x v1 v3 v4
 | .h4 v1 v2 => run41h4 W Q x v1 v2
 | .h5 v1 v2 v4 v5 v6 v7 => run41h5 W Q x v1 v2 v4 v5 v6 v7
 | .h6 v1 v2 => run41h6 W Q x v1 v2
 | .h7 => run41h7 W Q x
 | .h8 v1 v2 v4 v5 v6 v7 => run41h8 W Q x v1 v2 v4 v5 v6 v7
 | .h9 v1 v2 v3 v4 => run41h9 W Q x v1 v2 v3 v4
theorem ok41 : SpecOk env0 41 spec41 := SpecOk.env rfl (fun _ _ h => h) (spec_of_trees (E := (env need41 (fun _ _ => none))) (sp := spec41) (valid _ _) (fun f sp h => SpecOk.env rfl (fun _ _ h => h) (need41_ok f sp h)) (fn := Tryd.f41) (c := (bodyOf Tryd.f41)) (by kernel_rfl) (by kernel_rfl) tree41 step41 head41 run41 runs41 (fun _ h => endVal_ends h))
end Go.Eng.RE
end
section
/- Functions of this program, written out. -/
namespace Go.Eng.RE
open Go.Proofs Go.Eng
inductive J14 where
 | h0 (v21 : (List Int)) (v22 : Int) (v23 : (List Int)) (v24 : Int) (v25 : Int) (v26 : Int)
 | h1 (v21 : (List Int)) (v22 : Int) (v23 : (List Int)) (v24 : Int) (v25 : Int) (v26 : Int) (v27 : DO) (v35 : DO)
 | h2 (v1 : Nat) (v3 : Int) (v25 : (List Int)) (v26 : Int) (v27 : (List Int)) (v28 : Int) (v29 : Int) (v30 : Int) (v31 : DO) (v39 : Nat) (v40 : (List Int))
 | h3 (v0 : (List Int)) (v2 : Nat) (v3 : Int) (v25 : (List Int)) (v26 : Int) (v27 : (List Int)) (v28 : Int) (v29 : Int) (v30 : Int) (v31 : Nat) (v32 : (List Int))
 | h4 (v1 : Nat) (v2 : Int) (v24 : (List Int)) (v25 : Int) (v26 : (List Int)) (v27 : Int) (v28 : Int) (v29 : Int) (v30 : Nat) (v31 : (List Int))
 | h5 (v0 : (List Int)) (v2 : Nat) (v3 : Int) (v25 : (List Int)) (v26 : Int) (v27 : (List Int)) (v28 : Int) (v29 : Int) (v30 : Int) (v31 : Nat) (v32 : (List Int))
 | h6 (v1 : Nat) (v2 : Int) (v24 : (List Int)) (v25 : Int) (v26 : (List Int)) (v27 : Int) (v28 : Int) (v29 : Int) (v30 : Nat) (v31 : (List Int))
 | h7 (v2 : (List Int)) (v4 : Nat) (v5 : Int) (v28 : (List Int)) (v29 : (List Int)) (v30 : Int) (v31 : Int) (v32 : Int) (v33 : Nat) (v34 : (List Int))
 | h8 (v0 : (List Int)) (v2 : Nat) (v3 : Int) (v25 : (List Int)) (v26 : Int) (v27 : Int) (v28 : Int) (v29 : Nat) (v30 : (List Int))
 | h9 (v3 : Nat) (v4 : Int) (v27 : (List Int)) (v28 : (List Int)) (v29 : Int) (v30 : Int) (v31 : Int) (v32 : Nat) (v33 : (List Int))
 | h10 (v1 : Nat) (v2 : Int) (v24 : (List Int)) (v25 : Int) (v26 : Int) (v27 : Int) (v28 : Nat) (v29 : (List Int))
 | h11 (v1 : Nat) (v2 : (List Int)) (v4 : Nat) (v26 : Nat) (v27 : (List Int)) (v28 : (List Int)) (v29 : Int) (v30 : Int) (v31 : Int) (v32 : Nat) (v33 : (List Int))
 | h12 (v0 : (List Int)) (v2 : Nat) (v24 : (List Int)) (v25 : Int) (v26 : Int) (v27 : Int) (v28 : Nat) (v29 : (List Int))
 | h13 (v1 : Nat) (v3 : Nat) (v25 : Nat) (v26 : (List Int)) (v27 : (List Int)) (v28 : Int) (v29 : Int) (v30 : Int) (v31 : Nat) (v32 : (List Int))
 | h14 (v1 : Nat) (v23 : (List Int)) (v24 : Int) (v25 : Int) (v26 : Int) (v27 : Nat) (v28 : (List Int))
 | h15 (v1 : Nat) (v2 : Int) (v3 : Nat) (v4 : (List Int)) (v5 : (List Int)) (v6 : Int) (v7 : Int) (v8 : Int)
 | h16 (v1 : Nat) (v2 : Int) (v3 : Int) (v4 : Int) (v5 : Nat) (v6 : (List Int))
 | h17 (v1 : Nat) (v2 : Int) (v3 : Int) (v4 : Int) (v5 : Nat) (v6 : (List Int))
 | h18 (v1 : Nat) (v2 : Nat) (v3 : (List Int))
noncomputable def tree14 (x : DI) : Tr (J14 ⊕ ((List Int) × Int)) :=
  .need (pre36 x) <|
  let y0 : ((Unit × (Unit × ((List Int) × (Int × (Int × Int))))) × Bool) := (fn36 x).2
  .ite (!y0.2) (
 .ret (.inr (([] : List Int), 2))) (
 let y1 := (fn36 x).1
 let y2 := y0.1.2.2
 let y3 := y2.2
 let y4 := y3.2
 .ret (.inl (.h0 y1.1 y1.2.1 y2.1 y3.1 y4.1 y4.2)))
noncomputable def step14 (x : DI) : J14 → Tr (J14 ⊕ ((List Int) × Int))
 | .h0 v21 v22 v23 v24 v25 v26 =>
 let y0 := x.2.2.2
 let y1 := y0.1
 .need (pre37 y1) <|
 let y2 := y0.2.1
 .need (pre37 y2) <|
 .both (
 let y3 := (ieq v25 2)
 .ite y3 (
 let y4 := (fn37 y2)
 let y5 := (fn37 y1)
 .ret (.inl (.h1 v21 v22 v23 v24 v25 v26 y4 y5))) (
 let y6 := (fn37 y1)
 let y7 := (fn37 y2)
 .ret (.inl (.h1 v21 v22 v23 v24 v25 v26 y6 y7)))) (
 let y8 := (ieq v25 2)
 .ite y8 (
 let y9 := (fn37 y2)
 let y10 := (fn37 y1)
 .ret (.inl (.h1 v21 v22 v23 v24 v25 v26 y9 y10))) (
 let y11 := (fn37 y1)
 let y12 := (fn37 y2)
 .ret (.inl (.h1 v21 v22 v23 v24 v25 v26 y11 y12))))
 | .h1 v21 v22 v23 v24 v25 v26 v27 v35 =>
 .both (
 .need (pre38 v23) <|
 let y0 := (ilt v24 0)
 .ite y0 (
 let y1 : Nat := (fn38 v23).length
 let y2 : Int := v35.2.1
 .ret (.inl (.h2 y1 y2 v21 v22 v23 v24 v25 v26 v27 y1 (fn38 v23)))) (
 let y3 : Nat := (fn38 v23).length
 .ret (.inl (.h2 y3 v24 v21 v22 v23 v24 v25 v26 v27 y3 (fn38 v23))))) (
 .need (pre38 v23) <|
 let y4 := (ilt v24 0)
 .ite y4 (
 let y5 : Nat := (fn38 v23).length
 let y6 : Int := v35.2.1
 .ret (.inl (.h2 y5 y6 v21 v22 v23 v24 v25 v26 v27 y5 (fn38 v23)))) (
 let y7 : Nat := (fn38 v23).length
 .ret (.inl (.h2 y7 v24 v21 v22 v23 v24 v25 v26 v27 y7 (fn38 v23)))))
 | .h2 v1 v3 v25 v26 v27 v28 v29 v30 v31 v39 v40 =>
 .ite (ieq v29 1) (
 let y0 : (Int × DO) := (v3, v31)
 .need (pre39 y0) <|
 let y1 := (fn39 y0)
 let y2 := y1.1
 let y3 := y1.2.1
 .ret (.inl (.h3 y2 v1 y3 v25 v26 v27 v28 v29 v30 v39 v40))) (
 .ite (ieq v29 2) (
 let y4 : (Int × DO) := (v3, v31)
 .need (pre39 y4) <|
 let y5 := (fn39 y4)
 let y6 := y5.1
 let y7 := y5.2.1
 .ret (.inl (.h3 y6 v1 y7 v25 v26 v27 v28 v29 v30 v39 v40))) (
 .ite (ieq v29 3) (
 let y8 : Int := (isub .i64 (v1 : Int) 1)
 .need ((0 : Int) ≤ y8) <|
 .need (y8 < (v1 : Int)) <|
 let y9 : Nat := (0 + (y8).toNat)
 .need ((y9 : Nat) < v39) <|
 .need ((0 : Int) ≤ y8) <|
 .need (y8 < (v1 : Int)) <|
 .need ((y9 : Nat) < v39) <|
 .need ((0 : Int) ≤ 3) <|
 let y10 : Int := v31.2.1
 .ret (.inl (.h4 v1 (iconv .u8 (ishr .i64 y10 3)) v25 v26 v27 v28 v29 v30 v39 (v40.set y9 (iadd .u8 (rdc (.int .u8) v40 y9) (iconv .u8 (iand .i64 y10 7))))))) (
 .ret (.inl (.h4 v1 0 v25 v26 v27 v28 v29 v30 v39 v40)))))
 | .h3 v0 v2 v3 v25 v26 v27 v28 v29 v30 v31 v32 =>
 .ite ((ieq x.2.2.1 8) == true) (
 .ite ((ieq (v25.length : Int) 1) == false) (
 .need ((0 : Int) ≤ 0) <|
 .need (0 < (v25.length : Int)) <|
 .ite (ieq (rdc (.int .i64) v25 0) 4) (
 let y0 : Int := (ior .u8 v3 8)
 .ret (.inl (.h5 v0 v2 y0 v25 v26 v27 v28 v29 v30 v31 v32))) (
 .ret (.inl (.h5 v0 v2 v3 v25 v26 v27 v28 v29 v30 v31 v32)))) (
 let y1 : Int := (ior .u8 v3 8)
 .ret (.inl (.h5 v0 v2 y1 v25 v26 v27 v28 v29 v30 v31 v32)))) (
 .ret (.inl (.h5 v0 v2 v3 v25 v26 v27 v28 v29 v30 v31 v32)))
 | .h4 v1 v2 v24 v25 v26 v27 v28 v29 v30 v31 =>
 .ite ((ieq x.2.2.1 8) == true) (
 .ite ((ieq (v24.length : Int) 1) == false) (
 .need ((0 : Int) ≤ 0) <|
 .need (0 < (v24.length : Int)) <|
 .ite (ieq (rdc (.int .i64) v24 0) 4) (
 let y0 : Int := (ior .u8 v2 8)
 .ret (.inl (.h6 v1 y0 v24 v25 v26 v27 v28 v29 v30 v31))) (
 .ret (.inl (.h6 v1 v2 v24 v25 v26 v27 v28 v29 v30 v31)))) (
 let y1 : Int := (ior .u8 v2 8)
 .ret (.inl (.h6 v1 y1 v24 v25 v26 v27 v28 v29 v30 v31)))) (
 .ret (.inl (.h6 v1 v2 v24 v25 v26 v27 v28 v29 v30 v31)))
 | .h5 v0 v2 v3 v25 v26 v27 v28 v29 v30 v31 v32 =>
 .ite (ine v26 0) (
 .need ((0 : Nat) < 1) <|
 .need (((0 : Nat) + 1 : Nat) ≤ 1) <|
 .need (((1 : Nat) * 1 : Nat) ≤ 2 ^ 40) <|
 .need ((1 : Nat) ≤ 2 ^ 40) <|
 .ret (.inl (.h7 v0 v2 v3 [v26] v27 v28 v29 v30 v31 v32))) (
 .ret (.inl (.h8 v0 v2 v3 v27 v28 v29 v30 v31 v32)))
 | .h6 v1 v2 v24 v25 v26 v27 v28 v29 v30 v31 =>
 .ite (ine v25 0) (
 .need ((0 : Nat) < 1) <|
 .need (((0 : Nat) + 1 : Nat) ≤ 1) <|
 .need (((1 : Nat) * 1 : Nat) ≤ 2 ^ 40) <|
 .need ((1 : Nat) ≤ 2 ^ 40) <|
 .ret (.inl (.h9 v1 v2 [v25] v26 v27 v28 v29 v30 v31))) (
 .ret (.inl (.h10 v1 v2 v26 v27 v28 v29 v30 v31)))
 | .h7 v2 v4 v5 v28 v29 v30 v31 v32 v33 v34 =>
 .ite ((ine v5 0) == false) (
 .need (pre40 x) <|
 .ite (fn40 x) (
 .need ((0 : Nat) < 1) <|
 .need (((0 : Nat) + 1 : Nat) ≤ 1) <|
 .need ((1 : Nat) = 1) <|
 .need (((2 : Nat) * 1 : Nat) ≤ 2 ^ 40) <|
 .need ((2 : Nat) ≤ 2 ^ 40) <|
 let y0 : (List Int) := (v28 ++ [(ior .u8 64 v5)])
 .ret (.inl (.h11 2 v2 v4 2 y0 v29 v30 v31 v32 v33 v34))) (
 .ret (.inl (.h11 1 v2 v4 1 v28 v29 v30 v31 v32 v33 v34)))) (
 .need ((0 : Nat) < 1) <|
 .need (((0 : Nat) + 1 : Nat) ≤ 1) <|
 .need ((1 : Nat) = 1) <|
 .need (((2 : Nat) * 1 : Nat) ≤ 2 ^ 40) <|
 .need ((2 : Nat) ≤ 2 ^ 40) <|
 let y1 : (List Int) := (v28 ++ [(ior .u8 64 v5)])
 .ret (.inl (.h11 2 v2 v4 2 y1 v29 v30 v31 v32 v33 v34)))
 | .h8 v0 v2 v3 v25 v26 v27 v28 v29 v30 =>
 .ite ((ine v3 0) == false) (
 .need (pre40 x) <|
 .ite (fn40 x) (
 .need ((0 : Nat) < 1) <|
 .need (((0 : Nat) + 1 : Nat) ≤ 1) <|
 .need (((1 : Nat) * 1 : Nat) ≤ 2 ^ 40) <|
 .need ((1 : Nat) ≤ 2 ^ 40) <|
 let y0 : (List Int) := [(ior .u8 64 v3)]
 .ret (.inl (.h11 1 v0 v2 1 y0 v25 v26 v27 v28 v29 v30))) (
 .ret (.inl (.h12 v0 v2 v25 v26 v27 v28 v29 v30)))) (
 .need ((0 : Nat) < 1) <|
 .need (((0 : Nat) + 1 : Nat) ≤ 1) <|
 .need (((1 : Nat) * 1 : Nat) ≤ 2 ^ 40) <|
 .need ((1 : Nat) ≤ 2 ^ 40) <|
 let y1 : (List Int) := [(ior .u8 64 v3)]
 .ret (.inl (.h11 1 v0 v2 1 y1 v25 v26 v27 v28 v29 v30)))
 | .h9 v3 v4 v27 v28 v29 v30 v31 v32 v33 =>
 .ite ((ine v4 0) == false) (
 .need (pre40 x) <|
 .ite (fn40 x) (
 .need ((0 : Nat) < 1) <|
 .need (((0 : Nat) + 1 : Nat) ≤ 1) <|
 .need ((1 : Nat) = 1) <|
 .need (((2 : Nat) * 1 : Nat) ≤ 2 ^ 40) <|
 .need ((2 : Nat) ≤ 2 ^ 40) <|
 let y0 : (List Int) := (v27 ++ [(ior .u8 64 v4)])
 .ret (.inl (.h13 2 v3 2 y0 v28 v29 v30 v31 v32 v33))) (
 .ret (.inl (.h13 1 v3 1 v27 v28 v29 v30 v31 v32 v33)))) (
 .need ((0 : Nat) < 1) <|
 .need (((0 : Nat) + 1 : Nat) ≤ 1) <|
 .need ((1 : Nat) = 1) <|
 .need (((2 : Nat) * 1 : Nat) ≤ 2 ^ 40) <|
 .need ((2 : Nat) ≤ 2 ^ 40) <|
 let y1 : (List Int) := (v27 ++ [(ior .u8 64 v4)])
 .ret (.inl (.h13 2 v3 2 y1 v28 v29 v30 v31 v32 v33)))
 | .h10 v1 v2 v24 v25 v26 v27 v28 v29 =>
 .ite ((ine v2 0) == false) (
 .need (pre40 x) <|
 .ite (fn40 x) (
 .need ((0 : Nat) < 1) <|
 .need (((0 : Nat) + 1 : Nat) ≤ 1) <|
 .need (((1 : Nat) * 1 : Nat) ≤ 2 ^ 40) <|
 .need ((1 : Nat) ≤ 2 ^ 40) <|
 let y0 : (List Int) := [(ior .u8 64 v2)]
 .ret (.inl (.h13 1 v1 1 y0 v24 v25 v26 v27 v28 v29))) (
 .ret (.inl (.h14 v1 v24 v25 v26 v27 v28 v29)))) (
 .need ((0 : Nat) < 1) <|
 .need (((0 : Nat) + 1 : Nat) ≤ 1) <|
 .need (((1 : Nat) * 1 : Nat) ≤ 2 ^ 40) <|
 .need ((1 : Nat) ≤ 2 ^ 40) <|
 let y1 : (List Int) := [(ior .u8 64 v2)]
 .ret (.inl (.h13 1 v1 1 y1 v24 v25 v26 v27 v28 v29)))
 | .h11 v1 v2 v4 v26 v27 v28 v29 v30 v31 v32 v33 =>
 .need (((0 : Nat) + v1 : Nat) ≤ v26) <|
 .need (((0 : Nat) + v4 : Nat) ≤ v32) <|
 .need ((0 : Nat) < 3) <|
 .need ((1 : Nat) < 3) <|
 .need ((2 : Nat) < 3) <|
 .need (((0 : Nat) + 3 : Nat) ≤ 3) <|
 let y0 : (List (List Int)) := [(v27.take v1), (v33.take v4), v2]
 .need (pre41 y0) <|
 .ite (ieq x.1 39) (
 let y1 := (fn41 y0)
 let y2 : Nat := y1.length
 let y3 := x.2.2.2.2
 .ret (.inl (.h15 y2 (iconv .i64 y3.2.1) y2 y1 v28 v29 v30 v31))) (
 let y4 := (fn41 y0)
 let y5 : Nat := y4.length
 let y6 := x.2.2.2.2
 .ret (.inl (.h15 y5 y6.1.2.2.2.2.2.2.2 y5 y4 v28 v29 v30 v31)))
 | .h12 v0 v2 v24 v25 v26 v27 v28 v29 =>
 .need (((0 : Nat) + v2 : Nat) ≤ v28) <|
 .need ((0 : Nat) < 3) <|
 .need ((1 : Nat) < 3) <|
 .need ((2 : Nat) < 3) <|
 .need (((0 : Nat) + 3 : Nat) ≤ 3) <|
 let y0 : (List (List Int)) := [([] : List Int), (v29.take v2), v0]
 .need (pre41 y0) <|
 .ite (ieq x.1 39) (
 let y1 := (fn41 y0)
 let y2 : Nat := y1.length
 let y3 := x.2.2.2.2
 .ret (.inl (.h15 y2 (iconv .i64 y3.2.1) y2 y1 v24 v25 v26 v27))) (
 let y4 := (fn41 y0)
 let y5 : Nat := y4.length
 let y6 := x.2.2.2.2
 .ret (.inl (.h15 y5 y6.1.2.2.2.2.2.2.2 y5 y4 v24 v25 v26 v27)))
 | .h13 v1 v3 v25 v26 v27 v28 v29 v30 v31 v32 =>
 .need (((0 : Nat) + v1 : Nat) ≤ v25) <|
 .need (((0 : Nat) + v3 : Nat) ≤ v31) <|
 .need ((0 : Nat) < 3) <|
 .need ((1 : Nat) < 3) <|
 .need ((2 : Nat) < 3) <|
 .need (((0 : Nat) + 3 : Nat) ≤ 3) <|
 let y0 : (List (List Int)) := [(v26.take v1), (v32.take v3), ([] : List Int)]
 .need (pre41 y0) <|
 .ite (ieq x.1 39) (
 let y1 := (fn41 y0)
 let y2 : Nat := y1.length
 let y3 := x.2.2.2.2
 .ret (.inl (.h15 y2 (iconv .i64 y3.2.1) y2 y1 v27 v28 v29 v30))) (
 let y4 := (fn41 y0)
 let y5 : Nat := y4.length
 let y6 := x.2.2.2.2
 .ret (.inl (.h15 y5 y6.1.2.2.2.2.2.2.2 y5 y4 v27 v28 v29 v30)))
 | .h14 v1 v23 v24 v25 v26 v27 v28 =>
 .need (((0 : Nat) + v1 : Nat) ≤ v27) <|
 .need ((0 : Nat) < 3) <|
 .need ((1 : Nat) < 3) <|
 .need ((2 : Nat) < 3) <|
 .need (((0 : Nat) + 3 : Nat) ≤ 3) <|
 let y0 : (List (List Int)) := [([] : List Int), (v28.take v1), ([] : List Int)]
 .need (pre41 y0) <|
 .ite (ieq x.1 39) (
 let y1 := (fn41 y0)
 let y2 : Nat := y1.length
 let y3 := x.2.2.2.2
 .ret (.inl (.h15 y2 (iconv .i64 y3.2.1) y2 y1 v23 v24 v25 v26))) (
 let y4 := (fn41 y0)
 let y5 : Nat := y4.length
 let y6 := x.2.2.2.2
 .ret (.inl (.h15 y5 y6.1.2.2.2.2.2.2.2 y5 y4 v23 v24 v25 v26)))
 | .h15 v1 v2 v3 v4 v5 v6 v7 v8 =>
 .ret (.inl (.h16 v1 v2 v8 0 v3 v4))
 | .h16 v1 v2 v3 v4 v5 v6 =>
 .ite (ilt v4 v3) (
 .ret (.inl (.h17 v1 v2 v3 v4 v5 v6))) (
 .ret (.inl (.h18 v1 v5 v6)))
 | .h17 v1 v2 v3 v4 v5 v6 =>
 let y0 : Int := (imul .i64 8 v4)
 .need ((0 : Int) ≤ y0) <|
 .need ((0 : Nat) < 1) <|
 .need (((0 : Nat) + 1 : Nat) ≤ 1) <|
 .need ((v1 : Nat) = v5) <|
 let y1 : Nat := (v1 + 1)
 .need (((y1 : Nat) * 1 : Nat) ≤ 2 ^ 40) <|
 .need ((y1 : Nat) ≤ 2 ^ 40) <|
 .ret (.inl (.h16 y1 v2 v3 (iadd .i64 v4 1) y1 (v6 ++ [(iconv .u8 (ishr .i64 v2 y0))])))
 | .h18 v1 v2 v3 =>
 .need (((0 : Nat) + v1 : Nat) ≤ v2) <|
 .ret (.inr ((v3.take v1), 0))
noncomputable def cREF3_0 (x : DI) : AObj := .cell true 25 (.agg [1, 1, 1, 8, 8, 1, 1] [(.int .u8 x.1), (.int .u8 x.2.1), (.int .i64 x.2.2.1), (.agg [1, 1, 1, 1, 1, 1, 1, 1] [(.int .u8 x.2.2.2.1.1), (.int .i64 x.2.2.2.1.2.1), (.int .i64 x.2.2.2.1.2.2.1), (.int .i64 x.2.2.2.1.2.2.2.1), (.int .i64 x.2.2.2.1.2.2.2.2.1), (.int .i64 x.2.2.2.1.2.2.2.2.2.1), (.bool x.2.2.2.1.2.2.2.2.2.2.1), (.int .i64 x.2.2.2.1.2.2.2.2.2.2.2)]), (.agg [1, 1, 1, 1, 1, 1, 1, 1] [(.int .u8 x.2.2.2.2.1.1), (.int .i64 x.2.2.2.2.1.2.1), (.int .i64 x.2.2.2.2.1.2.2.1), (.int .i64 x.2.2.2.2.1.2.2.2.1), (.int .i64 x.2.2.2.2.1.2.2.2.2.1), (.int .i64 x.2.2.2.2.1.2.2.2.2.2.1), (.bool x.2.2.2.2.1.2.2.2.2.2.2.1), (.int .i64 x.2.2.2.2.1.2.2.2.2.2.2.2)]), (.int .u8 x.2.2.2.2.2.1), (.int .i64 x.2.2.2.2.2.2)])
noncomputable def cREF3_1 : List It := [.code (subc [1, 1, 1, 1, 1, 1, 1, 1, 1, 1, 1, 0, 0] (bodyOf Tryd.f14)), .code (subc [1, 1, 1, 1, 1, 1, 1, 1, 1, 1, 1, 0, 1] (bodyOf Tryd.f14)), .code (subc [1, 1, 1, 1, 1, 1, 1, 1, 1, 1, 1, 1] (bodyOf Tryd.f14))]
noncomputable def cREF3_2 : List It := [.code (subc [1, 1, 1, 1, 1, 1, 1, 1, 1, 1, 0, 0] (bodyOf Tryd.f14)), .code (subc [1, 1, 1, 1, 1, 1, 1, 1, 1, 1, 0, 1] (bodyOf Tryd.f14)), .code (subc [1, 1, 1, 1, 1, 1, 1, 1, 1, 1, 1] (bodyOf Tryd.f14))]
noncomputable def cREF3_3 : List It := [.code (subc [1, 1, 1, 1, 1, 1, 1, 1, 1, 0, 0] (bodyOf Tryd.f14)), .code (subc [1, 1, 1, 1, 1, 1, 1, 1, 1, 0, 1] (bodyOf Tryd.f14)), .code (subc [1, 1, 1, 1, 1, 1, 1, 1, 1, 1] (bodyOf Tryd.f14))]
noncomputable def cREF3_4 : List It := [.code (subc [1, 1, 1, 1, 1, 1, 1, 1, 1, 1, 1, 1, 0] (bodyOf Tryd.f14)), .code (subc [1, 1, 1, 1, 1, 1, 1, 1, 1, 1, 1, 1, 1] (bodyOf Tryd.f14))]
noncomputable def head14 (x : DI) : J14 → Head
 | .h0 v21 v22 v23 v24 v25 v26 =>
 { fr := { id := 14, kind := .top, T := [.any, (.ptr 0 []), (.raw (.slice none 0 0)), .any, (.ptr 1 []), (.ptr 2 [])] ++ List.replicate 133 .any, items := [.code (subc [1, 1, 1, 0] (bodyOf Tryd.f14)), .code (subc [1, 1, 1, 1] (bodyOf Tryd.f14))], D := [], base := 0 },
   stk := [],
   H := [(cREF3_0 x), .cell true 59 (.agg [1, 1, 1] [(.fsl (.int .i64) v21), (.int .u8 v22), .junk]), .cell true 63 (.agg [1, 1, 1, 1, 1, 1] [.junk, .junk, (.fsl (.int .u8) v23), (.int .i64 v24), (.int .i64 v25), (.int .i64 v26)])] }
 | .h1 v21 v22 v23 v24 v25 v26 v27 v35 =>
 { fr := { id := 14, kind := .top, T := [.any, (.ptr 0 []), (.raw (.slice none 0 0)), .any, (.ptr 1 []), (.ptr 2 []), .any, (.ptr 3 []), (.ptr 4 [])] ++ List.replicate 130 .any, items := [.code (subc [1, 1, 1, 1, 1, 0] (bodyOf Tryd.f14)), .code (subc [1, 1, 1, 1, 1, 1] (bodyOf Tryd.f14))], D := [], base := 0 },
   stk := [],
   H := [(cREF3_0 x), .cell true 59 (.agg [1, 1, 1] [(.fsl (.int .i64) v21), (.int .u8 v22), .junk]), .cell true 63 (.agg [1, 1, 1, 1, 1, 1] [.junk, .junk, (.fsl (.int .u8) v23), (.int .i64 v24), (.int .i64 v25), (.int .i64 v26)]), .cell true 23 (.agg [1, 1, 1, 1, 1, 1, 1, 1] [(.int .u8 v27.1), (.int .i64 v27.2.1), (.int .i64 v27.2.2.1), (.int .i64 v27.2.2.2.1), (.int .i64 v27.2.2.2.2.1), (.int .i64 v27.2.2.2.2.2.1), (.bool v27.2.2.2.2.2.2.1), (.int .i64 v27.2.2.2.2.2.2.2)]), .cell true 23 (.agg [1, 1, 1, 1, 1, 1, 1, 1] [(.int .u8 v35.1), (.int .i64 v35.2.1), (.int .i64 v35.2.2.1), (.int .i64 v35.2.2.2.1), (.int .i64 v35.2.2.2.2.1), (.int .i64 v35.2.2.2.2.2.1), (.bool v35.2.2.2.2.2.2.1), (.int .i64 v35.2.2.2.2.2.2.2)])] }
 | .h2 v1 v3 v25 v26 v27 v28 v29 v30 v31 v39 v40 =>
 { fr := { id := 14, kind := .top, T := [.any, (.ptr 0 []), (.raw (.slice none 0 0)), .any, (.ptr 1 []), (.ptr 2 []), .any, (.ptr 3 []), .any, (.raw (.slice none 0 0)), (.osl 4 [] 1 0 v1 none), (.int .u8 0), (.int .i64 v3)] ++ List.replicate 126 .any, items := [.code (subc [1, 1, 1, 1, 1, 1, 1, 1, 0, 0] (bodyOf Tryd.f14)), .code (subc [1, 1, 1, 1, 1, 1, 1, 1, 0, 1] (bodyOf Tryd.f14)), .code (subc [1, 1, 1, 1, 1, 1, 1, 1, 1] (bodyOf Tryd.f14))], D := [], base := 0 },
   stk := [],
   H := [(cREF3_0 x), .cell true 59 (.agg [1, 1, 1] [(.fsl (.int .i64) v25), (.int .u8 v26), .junk]), .cell true 63 (.agg [1, 1, 1, 1, 1, 1] [.junk, .junk, (.fsl (.int .u8) v27), (.int .i64 v28), (.int .i64 v29), (.int .i64 v30)]), .cell true 23 (.agg [1, 1, 1, 1, 1, 1, 1, 1] [(.int .u8 v31.1), (.int .i64 v31.2.1), (.int .i64 v31.2.2.1), (.int .i64 v31.2.2.2.1), (.int .i64 v31.2.2.2.2.1), (.int .i64 v31.2.2.2.2.2.1), (.bool v31.2.2.2.2.2.2.1), (.int .i64 v31.2.2.2.2.2.2.2)]), .cell true 5 (.arr v39 (.int .u8) v40)] }
 | .h3 v0 v2 v3 v25 v26 v27 v28 v29 v30 v31 v32 =>
 { fr := { id := 14, kind := .top, T := [.any, (.ptr 0 []), (.raw (.slice none 0 0)), .any, (.ptr 1 []), (.ptr 2 []), .any, .any, .any, (.fsl (.int .u8) v0), (.osl 3 [] 1 0 v2 none), (.int .u8 v3)] ++ List.replicate 127 .any, items := cREF3_3, D := [], base := 0 },
   stk := [],
   H := [(cREF3_0 x), .cell true 59 (.agg [1, 1, 1] [(.fsl (.int .i64) v25), (.int .u8 v26), .junk]), .cell true 63 (.agg [1, 1, 1, 1, 1, 1] [.junk, .junk, (.fsl (.int .u8) v27), (.int .i64 v28), (.int .i64 v29), (.int .i64 v30)]), .cell true 5 (.arr v31 (.int .u8) v32)] }
 | .h4 v1 v2 v24 v25 v26 v27 v28 v29 v30 v31 =>
 { fr := { id := 14, kind := .top, T := [.any, (.ptr 0 []), (.raw (.slice none 0 0)), .any, (.ptr 1 []), (.ptr 2 []), .any, .any, .any, (.raw (.slice none 0 0)), (.osl 3 [] 1 0 v1 none), (.int .u8 v2)] ++ List.replicate 127 .any, items := cREF3_3, D := [], base := 0 },
   stk := [],
   H := [(cREF3_0 x), .cell true 59 (.agg [1, 1, 1] [(.fsl (.int .i64) v24), (.int .u8 v25), .junk]), .cell true 63 (.agg [1, 1, 1, 1, 1, 1] [.junk, .junk, (.fsl (.int .u8) v26), (.int .i64 v27), (.int .i64 v28), (.int .i64 v29)]), .cell true 5 (.arr v30 (.int .u8) v31)] }
 | .h5 v0 v2 v3 v25 v26 v27 v28 v29 v30 v31 v32 =>
 { fr := { id := 14, kind := .top, T := [.any, (.ptr 0 []), (.raw (.slice none 0 0)), .any, (.ptr 1 []), (.ptr 2 []), .any, .any, .any, (.fsl (.int .u8) v0), (.osl 3 [] 1 0 v2 none), (.int .u8 v3)] ++ List.replicate 127 .any, items := cREF3_2, D := [], base := 0 },
   stk := [],
   H := [(cREF3_0 x), .cell true 59 (.agg [1, 1, 1] [(.fsl (.int .i64) v25), (.int .u8 v26), .junk]), .cell true 63 (.agg [1, 1, 1, 1, 1, 1] [.junk, .junk, (.fsl (.int .u8) v27), (.int .i64 v28), (.int .i64 v29), (.int .i64 v30)]), .cell true 5 (.arr v31 (.int .u8) v32)] }
 | .h6 v1 v2 v24 v25 v26 v27 v28 v29 v30 v31 =>
 { fr := { id := 14, kind := .top, T := [.any, (.ptr 0 []), (.raw (.slice none 0 0)), .any, (.ptr 1 []), (.ptr 2 []), .any, .any, .any, (.raw (.slice none 0 0)), (.osl 3 [] 1 0 v1 none), (.int .u8 v2)] ++ List.replicate 127 .any, items := cREF3_2, D := [], base := 0 },
   stk := [],
   H := [(cREF3_0 x), .cell true 59 (.agg [1, 1, 1] [(.fsl (.int .i64) v24), (.int .u8 v25), .junk]), .cell true 63 (.agg [1, 1, 1, 1, 1, 1] [.junk, .junk, (.fsl (.int .u8) v26), (.int .i64 v27), (.int .i64 v28), (.int .i64 v29)]), .cell true 5 (.arr v30 (.int .u8) v31)] }
 | .h7 v2 v4 v5 v28 v29 v30 v31 v32 v33 v34 =>
 { fr := { id := 14, kind := .top, T := [.any, (.ptr 0 []), (.osl 1 [] 1 0 1 none), .any, .any, (.ptr 2 []), .any, .any, .any, (.fsl (.int .u8) v2), (.osl 3 [] 1 0 v4 none), (.int .u8 v5)] ++ List.replicate 127 .any, items := cREF3_1, D := [], base := 0 },
   stk := [],
   H := [(cREF3_0 x), .cell true 5 (.arr 1 (.int .u8) v28), .cell true 63 (.agg [1, 1, 1, 1, 1, 1] [.junk, .junk, (.fsl (.int .u8) v29), (.int .i64 v30), (.int .i64 v31), (.int .i64 v32)]), .cell true 5 (.arr v33 (.int .u8) v34)] }
 | .h8 v0 v2 v3 v25 v26 v27 v28 v29 v30 =>
 { fr := { id := 14, kind := .top, T := [.any, (.ptr 0 []), (.raw (.slice none 0 0)), .any, .any, (.ptr 1 []), .any, .any, .any, (.fsl (.int .u8) v0), (.osl 2 [] 1 0 v2 none), (.int .u8 v3)] ++ List.replicate 127 .any, items := cREF3_1, D := [], base := 0 },
   stk := [],
   H := [(cREF3_0 x), .cell true 63 (.agg [1, 1, 1, 1, 1, 1] [.junk, .junk, (.fsl (.int .u8) v25), (.int .i64 v26), (.int .i64 v27), (.int .i64 v28)]), .cell true 5 (.arr v29 (.int .u8) v30)] }
 | .h9 v3 v4 v27 v28 v29 v30 v31 v32 v33 =>
 { fr := { id := 14, kind := .top, T := [.any, (.ptr 0 []), (.osl 1 [] 1 0 1 none), .any, .any, (.ptr 2 []), .any, .any, .any, (.raw (.slice none 0 0)), (.osl 3 [] 1 0 v3 none), (.int .u8 v4)] ++ List.replicate 127 .any, items := cREF3_1, D := [], base := 0 },
   stk := [],
   H := [(cREF3_0 x), .cell true 5 (.arr 1 (.int .u8) v27), .cell true 63 (.agg [1, 1, 1, 1, 1, 1] [.junk, .junk, (.fsl (.int .u8) v28), (.int .i64 v29), (.int .i64 v30), (.int .i64 v31)]), .cell true 5 (.arr v32 (.int .u8) v33)] }
 | .h10 v1 v2 v24 v25 v26 v27 v28 v29 =>
 { fr := { id := 14, kind := .top, T := [.any, (.ptr 0 []), (.raw (.slice none 0 0)), .any, .any, (.ptr 1 []), .any, .any, .any, (.raw (.slice none 0 0)), (.osl 2 [] 1 0 v1 none), (.int .u8 v2)] ++ List.replicate 127 .any, items := cREF3_1, D := [], base := 0 },
   stk := [],
   H := [(cREF3_0 x), .cell true 63 (.agg [1, 1, 1, 1, 1, 1] [.junk, .junk, (.fsl (.int .u8) v24), (.int .i64 v25), (.int .i64 v26), (.int .i64 v27)]), .cell true 5 (.arr v28 (.int .u8) v29)] }
 | .h11 v1 v2 v4 v26 v27 v28 v29 v30 v31 v32 v33 =>
 { fr := { id := 14, kind := .top, T := [.any, (.ptr 0 []), (.osl 1 [] 1 0 v1 none), .any, .any, (.ptr 2 []), .any, .any, .any, (.fsl (.int .u8) v2), (.osl 3 [] 1 0 v4 none)] ++ List.replicate 128 .any, items := cREF3_4, D := [], base := 0 },
   stk := [],
   H := [(cREF3_0 x), .cell true 5 (.arr v26 (.int .u8) v27), .cell true 63 (.agg [1, 1, 1, 1, 1, 1] [.junk, .junk, (.fsl (.int .u8) v28), (.int .i64 v29), (.int .i64 v30), (.int .i64 v31)]), .cell true 5 (.arr v32 (.int .u8) v33)] }
 | .h12 v0 v2 v24 v25 v26 v27 v28 v29 =>
 { fr := { id := 14, kind := .top, T := [.any, (.ptr 0 []), (.raw (.slice none 0 0)), .any, .any, (.ptr 1 []), .any, .any, .any, (.fsl (.int .u8) v0), (.osl 2 [] 1 0 v2 none)] ++ List.replicate 128 .any, items := cREF3_4, D := [], base := 0 },
   stk := [],
   H := [(cREF3_0 x), .cell true 63 (.agg [1, 1, 1, 1, 1, 1] [.junk, .junk, (.fsl (.int .u8) v24), (.int .i64 v25), (.int .i64 v26), (.int .i64 v27)]), .cell true 5 (.arr v28 (.int .u8) v29)] }
 | .h13 v1 v3 v25 v26 v27 v28 v29 v30 v31 v32 =>
 { fr := { id := 14, kind := .top, T := [.any, (.ptr 0 []), (.osl 1 [] 1 0 v1 none), .any, .any, (.ptr 2 []), .any, .any, .any, (.raw (.slice none 0 0)), (.osl 3 [] 1 0 v3 none)] ++ List.replicate 128 .any, items := cREF3_4, D := [], base := 0 },
   stk := [],
   H := [(cREF3_0 x), .cell true 5 (.arr v25 (.int .u8) v26), .cell true 63 (.agg [1, 1, 1, 1, 1, 1] [.junk, .junk, (.fsl (.int .u8) v27), (.int .i64 v28), (.int .i64 v29), (.int .i64 v30)]), .cell true 5 (.arr v31 (.int .u8) v32)] }
 | .h14 v1 v23 v24 v25 v26 v27 v28 =>
 { fr := { id := 14, kind := .top, T := [.any, (.ptr 0 []), (.raw (.slice none 0 0)), .any, .any, (.ptr 1 []), .any, .any, .any, (.raw (.slice none 0 0)), (.osl 2 [] 1 0 v1 none)] ++ List.replicate 128 .any, items := cREF3_4, D := [], base := 0 },
   stk := [],
   H := [(cREF3_0 x), .cell true 63 (.agg [1, 1, 1, 1, 1, 1] [.junk, .junk, (.fsl (.int .u8) v23), (.int .i64 v24), (.int .i64 v25), (.int .i64 v26)]), .cell true 5 (.arr v27 (.int .u8) v28)] }
 | .h15 v1 v2 v3 v4 v5 v6 v7 v8 =>
 { fr := { id := 14, kind := .top, T := [.any, .any, (.osl 0 [] 1 0 v1 none), .any, .any, (.ptr 1 [])] ++ List.replicate 7 .any ++ [(.int .i64 v2)] ++ List.replicate 125 .any, items := [.code (subc [1, 1, 1, 1, 1, 1, 1, 1, 1, 1, 1, 1, 1, 1, 1, 0, 0] (bodyOf Tryd.f14)), .code (subc [1, 1, 1, 1, 1, 1, 1, 1, 1, 1, 1, 1, 1, 1, 1, 0, 1] (bodyOf Tryd.f14)), .code (subc [1, 1, 1, 1, 1, 1, 1, 1, 1, 1, 1, 1, 1, 1, 1, 1] (bodyOf Tryd.f14))], D := [], base := 0 },
   stk := [],
   H := [.cell true 5 (.arr v3 (.int .u8) v4), .cell true 63 (.agg [1, 1, 1, 1, 1, 1] [.junk, .junk, (.fsl (.int .u8) v5), (.int .i64 v6), (.int .i64 v7), (.int .i64 v8)])] }
 | .h16 v1 v2 v3 v4 v5 v6 =>
 { fr := { id := 14, kind := .top, T := [.any, .any, (.osl 0 [] 1 0 v1 none)] ++ List.replicate 10 .any ++ [(.int .i64 v2)] ++ List.replicate 111 .any ++ [(.int .i64 v3), (.int .i64 v4)] ++ List.replicate 12 .any, items := [.lp (subc [1, 1, 1, 1, 1, 1, 1, 1, 1, 1, 1, 1, 1, 1, 1, 0, 1, 0, 0] (bodyOf Tryd.f14)), .blk 1, .code (subc [1, 1, 1, 1, 1, 1, 1, 1, 1, 1, 1, 1, 1, 1, 1, 1] (bodyOf Tryd.f14))], D := [], base := 0 },
   stk := [],
   H := [.cell true 5 (.arr v5 (.int .u8) v6)] }
 | .h17 v1 v2 v3 v4 v5 v6 =>
 { fr := { id := 14, kind := .top, T := [.any, .any, (.osl 0 [] 1 0 v1 none)] ++ List.replicate 10 .any ++ [(.int .i64 v2)] ++ List.replicate 111 .any ++ [(.int .i64 v3), (.int .i64 v4)] ++ List.replicate 12 .any, items := [.code (subc [1, 1, 1, 1, 1, 1, 1, 1, 1, 1, 1, 1, 1, 1, 1, 0, 1, 0, 0, 1, 1, 0, 0, 0] (bodyOf Tryd.f14)), .code (subc [1, 1, 1, 1, 1, 1, 1, 1, 1, 1, 1, 1, 1, 1, 1, 0, 1, 0, 0, 1, 1, 0, 0, 1] (bodyOf Tryd.f14)), .blk 2, .code (subc [1, 1, 1, 1, 1, 1, 1, 1, 1, 1, 1, 1, 1, 1, 1, 0, 1, 0, 0, 1, 1, 1] (bodyOf Tryd.f14)), .lp (subc [1, 1, 1, 1, 1, 1, 1, 1, 1, 1, 1, 1, 1, 1, 1, 0, 1, 0, 0] (bodyOf Tryd.f14)), .blk 1, .code (subc [1, 1, 1, 1, 1, 1, 1, 1, 1, 1, 1, 1, 1, 1, 1, 1] (bodyOf Tryd.f14))], D := [], base := 0 },
   stk := [],
   H := [.cell true 5 (.arr v5 (.int .u8) v6)] }
 | .h18 v1 v2 v3 =>
 { fr := { id := 14, kind := .top, T := [.any, .any, (.osl 0 [] 1 0 v1 none)] ++ List.replicate 136 .any, items := [.code (subc [1, 1, 1, 1, 1, 1, 1, 1, 1, 1, 1, 1, 1, 1, 1, 1, 0] (bodyOf Tryd.f14)), .code (subc [1, 1, 1, 1, 1, 1, 1, 1, 1, 1, 1, 1, 1, 1, 1, 1, 1] (bodyOf Tryd.f14))], D := [], base := 0 },
   stk := [],
   H := [.cell true 5 (.arr v2 (.int .u8) v3)] }
noncomputable def stop14 : FuncId → Nat → Nat → Option Cut
  | 14, 9, 0 => some { tmps := [1, 2, 4, 5], loops := [], dead := [], stk := [] }
  | 14, 15, 0 => some { tmps := [1, 2, 4, 5, 7, 8], loops := [], dead := [], stk := [] }
  | 14, 23, 0 => some { tmps := [1, 2, 4, 5, 7, 9, 10, 11, 12], loops := [], dead := [], stk := [] }
  | 14, 37, 0 => some { tmps := [1, 2, 4, 5, 9, 10, 11], loops := [], dead := [], stk := [] }
  | 14, 41, 0 => some { tmps := [1, 2, 4, 5, 9, 10, 11], loops := [], dead := [], stk := [] }
  | 14, 45, 0 => some { tmps := [1, 2, 5, 9, 10, 11], loops := [], dead := [], stk := [] }
  | 14, 49, 0 => some { tmps := [1, 2, 5, 9, 10], loops := [], dead := [], stk := [] }
  | 14, 57, 0 => some { tmps := [2, 5, 13], loops := [], dead := [], stk := [] }
  | 14, 2, 0 => some { tmps := [2, 13, 125, 126], loops := [], dead := [], stk := [] }
  | 14, 61, 0 => some { tmps := [2, 13, 125, 126], loops := [], dead := [], stk := [] }
  | 14, 67, 0 => some { tmps := [2], loops := [], dead := [], stk := [] }
  | _, _, _ => none
noncomputable def fn14 (x : DI) : ((List Int) × Int) := endVal (TC.dflt (.st (.slice (.int .u8)) (.st1 (.int .i64)))) (step14 x) (tree14 x)
def pre14 (x : DI) : Prop := ∃ r, Ends (step14 x) r (tree14 x)
noncomputable def spec14 : Spec := { dom := (.st1 CInsn), cod := (.st (.slice (.int .u8)) (.st1 (.int .i64))), n := 2, pre := pre14, f := fn14 }
noncomputable def need14 : FuncId → Option Spec
  | 36 => some spec36
  | 37 => some spec37
  | 38 => some spec38
  | 39 => some spec39
  | 40 => some spec40
  | 41 => some spec41
  | _ => none
theorem need14_ok : ∀ f sp, need14 f = some sp → SpecOk env0 f sp := by
  intro f sp h
  unfold need14 at h
  split at h
  · cases h; exact ok36
  · cases h; exact ok37
  · cases h; exact ok38
  · cases h; exact ok39
  · cases h; exact ok40
  · cases h; exact ok41
  · cases h
section
variable (W : Cfg) (Q : ((List Int) × Int) → Prop) (x : DI)
theorem run14 : run (env need14 (fun _ _ => none)) stop14 (finS spec14 Q) W 100000 (startFr 14 Tryd.f14 (bodyOf Tryd.f14) (argsOf (.st1 CInsn) x)) [] [] = (tree14 x).wp (kont W Q (head14 x)) := by kernel_rfl
theorem run14h0 (v21 : List Int) (v22 : Int) (v23 : List Int) (v24 v25 v26 : Int) : run (env need14 (fun _ _ => none)) stop14 (finS spec14 Q) W 100000 (head14 x (.h0 v21 v22 v23 v24 v25 v26)).fr.enter (head14 x (.h0 v21 v22 v23 v24 v25 v26)).stk (head14 x (.h0 v21 v22 v23 v24 v25 v26)).H = (step14 x (.h0 v21 v22 v23 v24 v25 v26)).wp (kont W Q (head14 x)) := by kernel_rfl
theorem run14h1 (v21 : List Int) (v22 : Int) (v23 : List Int) (v24 v25 v26 : Int) (v27 v35 : DO) : run (env need14 (fun _ _ => none)) stop14 (finS spec14 Q) W 100000 (head14 x (.h1 v21 v22 v23 v24 v25 v26 v27 v35)).fr.enter (head14 x (.h1 v21 v22 v23 v24 v25 v26 v27 v35)).stk (head14 x (.h1 v21 v22 v23 v24 v25 v26 v27 v35)).H = (step14 x (.h1 v21 v22 v23 v24 v25 v26 v27 v35)).wp (kont W Q (head14 x)) := by kernel_rfl
theorem run14h2 (v1 : Nat) (v3 : Int) (v25 : List Int) (v26 : Int) (v27 : List Int) (v28 v29 v30 : Int) (v31 : DO) (v39 : Nat) (v40 : List Int) : run (env need14 (fun _ _ => none)) stop14 (finS spec14 Q) W 100000 (head14 x (.h2 v1 v3 v25 v26 v27 v28 v29 v30 v31 v39 v40)).fr.enter (head14 x (.h2 v1 v3 v25 v26 v27 v28 v29 v30 v31 v39 v40)).stk (head14 x (.h2 v1 v3 v25 v26 v27 v28 v29 v30 v31 v39 v40)).H = (step14 x (.h2 v1 v3 v25 v26 v27 v28 v29 v30 v31 v39 v40)).wp (kont W Q (head14 x)) := by kernel_rfl
theorem run14h3 (v0 : List Int) (v2 : Nat) (v3 : Int) (v25 : List Int) (v26 : Int) (v27 : List Int) (v28 v29 v30 : Int) (v31 : Nat) (v32 : List Int) : run (env need14 (fun _ _ => none)) stop14 (finS spec14 Q) W 100000 (head14 x (.h3 v0 v2 v3 v25 v26 v27 v28 v29 v30 v31 v32)).fr.enter (head14 x (.h3 v0 v2 v3 v25 v26 v27 v28 v29 v30 v31 v32)).stk (head14 x (.h3 v0 v2 v3 v25 v26 v27 v28 v29 v30 v31 v32)).H = (step14 x (.h3 v0 v2 v3 v25 v26 v27 v28 v29 v30 v31 v32)).wp (kont W Q (head14 x)) := by kernel_rfl
theorem run14h4 (v1 : Nat) (v2 : Int) (v24 : List Int) (v25 : Int) (v26 : List Int) (v27 v28 v29 : Int) (v30 : Nat) (v31 : List Int) : run (env need14 (fun _ _ => none)) stop14 (finS spec14 Q) W 100000 (head14 x (.h4 v1 v2 v24 v25 v26 v27 v28 v29 v30 v31)).fr.enter (head14 x (.h4 v1 v2 v24 v25 v26 v27 v28 v29 v30 v31)).stk (head14 x (.h4 v1 v2 v24 v25 v26 v27 v28 v29 v30 v31)).H = (step14 x (.h4 v1 v2 v24 v25 v26 v27 v28 v29 v30 v31)).wp (kont W Q (head14 x)) := by kernel_rfl
theorem run14h5 (v0 : List Int) (v2 : Nat) (v3 : Int) (v25 : List Int) (v26 : Int) (v27 : List Int) (v28 v29 v30 : Int) (v31 : Nat) (v32 : List Int) : run (env need14 (fun _ _ => none)) stop14 (finS spec14 Q) W 100000 (head14 x (.h5 v0 v2 v3 v25 v26 v27 v28 v29 v30 v31 v32)).fr.enter (head14 x (.h5 v0 v2 v3 v25 v26 v27 v28 v29 v30 v31 v32)).stk (head14 x (.h5 v0 v2 v3 v25 v26 v27 v28 v29 v30 v31 v32)).H = (step14 x (.h5 v0 v2 v3 v25 v26 v27 v28 v29 v30 v31 v32)).wp (kont W Q (head14 x)) := by kernel_rfl
theorem run14h6 (v1 : Nat) (v2 : Int) (v24 : List Int) (v25 : Int) (v26 : List Int) (v27 v28 v29 : Int) (v30 : Nat) (v31 : List Int) : run (env need14 (fun _ _ => none)) stop14 (finS spec14 Q) W 100000 (head14 x (.h6 v1 v2 v24 v25 v26 v27 v28 v29 v30 v31)).fr.enter (head14 x (.h6 v1 v2 v24 v25 v26 v27 v28 v29 v30 v31)).stk (head14 x (.h6 v1 v2 v24 v25 v26 v27 v28 v29 v30 v31)).H = (step14 x (.h6 v1 v2 v24 v25 v26 v27 v28 v29 v30 v31)).wp (kont W Q (head14 x)) := by kernel_rfl
theorem run14h7 (v2 : List Int) (v4 : Nat) (v5 : Int) (v28 v29 : List Int) (v30 v31 v32 : Int) (v33 : Nat) (v34 : List Int) : run (env need14 (fun _ _ => none)) stop14 (finS spec14 Q) W 100000 (head14 x (.h7 v2 v4 v5 v28 v29 v30 v31 v32 v33 v34)).fr.enter (head14 x (.h7 v2 v4 v5 v28 v29 v30 v31 v32 v33 v34)).stk (head14 x (.h7 v2 v4 v5 v28 v29 v30 v31 v32 v33 v34)).H = (step14 x (.h7 v2 v4 v5 v28 v29 v30 v31 v32 v33 v34)).wp (kont W Q (head14 x)) := by kernel_rfl
theorem run14h8 (v0 : List Int) (v2 : Nat) (v3 : Int) (v25 : List Int) (v26 v27 v28 : Int) (v29 : Nat) (v30 : List Int) : run (env need14 (fun _ _ => none)) stop14 (finS spec14 Q) W 100000 (head14 x (.h8 v0 v2 v3 v25 v26 v27 v28 v29 v30)).fr.enter (head14 x (.h8 v0 v2 v3 v25 v26 v27 v28 v29 v30)).stk (head14 x (.h8 v0 v2 v3 v25 v26 v27 v28 v29 v30)).H = (step14 x (.h8 v0 v2 v3 v25 v26 v27 v28 v29 v30)).wp (kont W Q (head14 x)) := by kernel_rfl
theorem run14h9 (v3 : Nat) (v4 : Int) (v27 v28 : List Int) (v29 v30 v31 : Int) (v32 : Nat) (v33 : List Int) : run (env need14 (fun _ _ => none)) stop14 (finS spec14 Q) W 100000 (head14 x (.h9 v3 v4 v27 v28 v29 v30 v31 v32 v33)).fr.enter (head14 x (.h9 v3 v4 v27 v28 v29 v30 v31 v32 v33)).stk (head14 x (.h9 v3 v4 v27 v28 v29 v30 v31 v32 v33)).H = (step14 x (.h9 v3 v4 v27 v28 v29 v30 v31 v32 v33)).wp (kont W Q (head14 x)) := by kernel_rfl
theorem run14h10 (v1 : Nat) (v2 : Int) (v24 : List Int) (v25 v26 v27 : Int) (v28 : Nat) (v29 : List Int) : run (env need14 (fun _ _ => none)) stop14 (finS spec14 Q) W 100000 (head14 x (.h10 v1 v2 v24 v25 v26 v27 v28 v29)).fr.enter (head14 x (.h10 v1 v2 v24 v25 v26 v27 v28 v29)).stk (head14 x (.h10 v1 v2 v24 v25 v26 v27 v28 v29)).H = (step14 x (.h10 v1 v2 v24 v25 v26 v27 v28 v29)).wp (kont W Q (head14 x)) := by kernel_rfl
theorem run14h11 (v1 : Nat) (v2 : List Int) (v4 v26 : Nat) (v27 v28 : List Int) (v29 v30 v31 : Int) (v32 : Nat) (v33 : List Int) : run (env need14 (fun _ _ => none)) stop14 (finS spec14 Q) W 100000 (head14 x (.h11 v1 v2 v4 v26 v27 v28 v29 v30 v31 v32 v33)).fr.enter (head14 x (.h11 v1 v2 v4 v26 v27 v28 v29 v30 v31 v32 v33)).stk (head14 x (.h11 v1 v2 v4 v26 v27 v28 v29 v30 v31 v32 v33)).H = (step14 x (.h11 v1 v2 v4 v26 v27 v28 v29 v30 v31 v32 v33)).wp (kont W Q (head14 x)) := by kernel_rfl
theorem run14h12 (v0 : List Int) (v2 : Nat) (v24 : List Int) (v25 v26 v27 : Int) (v28 : Nat) (v29 : List Int) : run (env need14 (fun _ _ => none)) stop14 (finS spec14 Q) W 100000 (head14 x (.h12 v0 v2 v24 v25 v26 v27 v28 v29)).fr.enter (head14 x (.h12 v0 v2 v24 v25 v26 v27 v28 v29)).stk (head14 x (.h12 v0 v2 v24 v25 v26 v27 v28 v29)).H = (step14 x (.h12 v0 v2 v24 v25 v26 v27 v28 v29)).wp (kont W Q (head14 x)) := by kernel_rfl
theorem run14h13 (v1 v3 v25 : Nat) (v26 v27 : List Int) (v28 v29 v30 : Int) (v31 : Nat) (v32 : List Int) : run (env need14 (fun _ _ => none)) stop14 (finS spec14 Q) W 100000 (head14 x (.h13 v1 v3 v25 v26 v27 v28 v29 v30 v31 v32)).fr.enter (head14 x (.h13 v1 v3 v25 v26 v27 v28 v29 v30 v31 v32)).stk (head14 x (.h13 v1 v3 v25 v26 v27 v28 v29 v30 v31 v32)).H = (step14 x (.h13 v1 v3 v25 v26 v27 v28 v29 v30 v31 v32)).wp (kont W Q (head14 x)) := by kernel_rfl
theorem run14h14 (v1 : Nat) (v23 : List Int) (v24 v25 v26 : Int) (v27 : Nat) (v28 : List Int) : run (env need14 (fun _ _ => none)) stop14 (finS spec14 Q) W 100000 (head14 x (.h14 v1 v23 v24 v25 v26 v27 v28)).fr.enter (head14 x (.h14 v1 v23 v24 v25 v26 v27 v28)).stk (head14 x (.h14 v1 v23 v24 v25 v26 v27 v28)).H = (step14 x (.h14 v1 v23 v24 v25 v26 v27 v28)).wp (kont W Q (head14 x)) := by kernel_rfl
theorem run14h15 (v1 : Nat) (v2 : Int) (v3 : Nat) (v4 v5 : List Int) (v6 v7 v8 : Int) : run (env need14 (fun _ _ => none)) stop14 (finS spec14 Q) W 100000 (head14 x (.h15 v1 v2 v3 v4 v5 v6 v7 v8)).fr.enter (head14 x (.h15 v1 v2 v3 v4 v5 v6 v7 v8)).stk (head14 x (.h15 v1 v2 v3 v4 v5 v6 v7 v8)).H = (step14 x (.h15 v1 v2 v3 v4 v5 v6 v7 v8)).wp (kont W Q (head14 x)) := by kernel_rfl
theorem run14h16 (v1 : Nat) (v2 v3 v4 : Int) (v5 : Nat) (v6 : List Int) : run (env need14 (fun _ _ => none)) stop14 (finS spec14 Q) W 100000 (head14 x (.h16 v1 v2 v3 v4 v5 v6)).fr.enter (head14 x (.h16 v1 v2 v3 v4 v5 v6)).stk (head14 x (.h16 v1 v2 v3 v4 v5 v6)).H = (step14 x (.h16 v1 v2 v3 v4 v5 v6)).wp (kont W Q (head14 x)) := by kernel_rfl
theorem run14h17 (v1 : Nat) (v2 v3 v4 : Int) (v5 : Nat) (v6 : List Int) : run (env need14 (fun _ _ => none)) stop14 (finS spec14 Q) W 100000 (head14 x (.h17 v1 v2 v3 v4 v5 v6)).fr.enter (head14 x (.h17 v1 v2 v3 v4 v5 v6)).stk (head14 x (.h17 v1 v2 v3 v4 v5 v6)).H = (step14 x (.h17 v1 v2 v3 v4 v5 v6)).wp (kont W Q (head14 x)) := by kernel_rfl
theorem run14h18 (v1 v2 : Nat) (v3 : List Int) : run (env need14 (fun _ _ => none)) stop14 (finS spec14 Q) W 100000 (head14 x (.h18 v1 v2 v3)).fr.enter (head14 x (.h18 v1 v2 v3)).stk (head14 x (.h18 v1 v2 v3)).H = (step14 x (.h18 v1 v2 v3)).wp (kont W Q (head14 x)) := by kernel_rfl
end
theorem runs14 (W : Cfg) (Q : ((List Int) × Int) → Prop) (x : DI) : ∀ j : J14, run (env need14 (fun _ _ => none)) stop14 (finS spec14 Q) W 100000 (head14 x j).fr.enter (head14 x j).stk (head14 x j).H = (step14 x j).wp (kont W Q (head14 x))
 | .h0 v21 v22 v23 v24 v25 v26 => run14h0 W Q x v21 v22 v23 v24 v25 v26
 | .h1 v21 v22 v23 v24 v25 v26 v27 v35 => run14h1 W Q x v21 v22 v23 v24 v25 v26 v27 v35
 | .h2 v1 v3 v25 v26 v27 v28 v29 v30 v31 v39 v40 => run14h2 W Q x v1 v3 v25 v26 v27 v28 v29 v30 v31 v39 v40
 | .h3 v0 v2 v3 v25 v26 v27 v28 v29 v30 v31 v32 => run14h3 W Q x v0 v2 v3 v25 v26 v27 v28 v29 v30 v31 v32
 | .h4 v1 v2 v24 v25 v26 v27 v28 v29 v30 v31 => run14h4 W Q x v1 v2 v24 v25 v26 v27 v28 v29 v30 v31
 | .h5 v0 v2 v3 v25 v26 v27 v28 v29 v30 v31 v32 => run14h5 W Q x v0 v2 v3 v25 v26 v27 v28 v29 v30 v31 v32
 | .h6 v1 v2 v24 v25 v26 v27 v28 v29 v30 v31 => run14h6 W Q x v1 v2 v24 v25 v26 v27 v28 v29 v30 v31
 | .h7 v2 v4 v5 v28 v29 v30 v31 v32 v33 v34 => run14h7 W Q x v2 v4 v5 v28 v29 v30 v31 v32 v33 v34
 | .h8 v0 v2 v3 v25 v26 v27 v28 v29 v30 => run14h8 W Q x v0 v2 v3 v25 v26 v27 v28 v29 v30
 | .h9 v3 v4 v27 v28 v29 v30 v31 v32 v33 => run14h9 W Q x v3 v4 v27 v28 v29 v30 v31 v32 v33
 | .h10 v1 v2 v24 v25 v26 v27 v28 v29 => run14h10 W Q x v1 v2 v24 v25 v26 v27 v28 v29
 | .h11 v1 v2 v4 v26 v27 v28 v29 v30 v31 v32 v33 => run14h11 W Q x v1 v2 v4 v26 v27 v28 v29 v30 v31 v32 v33
 | .h12 v0 v2 v24 v25 v26 v27 v28 v29 => run14h12 W Q x v0 v2 v24 v25 v26 v27 v28 v29
 | .h13 v1 v3 v25 v26 v27 v28 v29 v30 v31 v32 => run14h13 W Q x v1 v3 v25 v26 v27 v28 v29 v30 v31 v32
 | .h14 v1 v23 v24 v25 v26 v27 v28 => run14h14 W Q x v1 v23 v24 v25 v26 v27 v28
 | .h15 v1 v2 v3 v4 v5 v6 v7 v8 => run14h15 W Q x v1 v2 v3 v4 v5 v6 v7 v8
 | .h16 v1 v2 v3 v4 v5 v6 => run14h16 W Q x v1 v2 v3 v4 v5 v6
 | .h17 v1 v2 v3 v4 v5 v6 => run14h17 W Q x v1 v2 v3 v4 v5 v6
 | .h18 v1 v2 v3 => run14h18 W Q x v1 v2 v3
theorem ok14 : SpecOk env0 14 spec14 := SpecOk.env rfl (fun _ _ h => h) (spec_of_trees (E := (env need14 (fun _ _ => none))) (sp := spec14) (valid _ _) (fun f sp h => SpecOk.env rfl (fun _ _ h => h) (need14_ok f sp h)) (fn := Tryd.f14) (c := (bodyOf Tryd.f14)) (by kernel_rfl) (by kernel_rfl) tree14 step14 head14 run14 runs14 (fun _ h => endVal_ends h))
inductive J16 where
 | h0 (v1 : Int) (v2 : Int)
 | h1 (v1 : Nat) (v3 : Int) (v4 : Int) (v5 : Nat) (v6 : (List Int))
noncomputable def tree16 (x : (List DI)) : Tr (J16 ⊕ ((List Int) × Int)) :=
  .ret (.inl (.h0 (x.length : Int) 0))
noncomputable def step16 (x : (List DI)) : J16 → Tr (J16 ⊕ ((List Int) × Int))
 | .h0 v1 v2 =>
 .ite (ilt v2 v1) (
 .need ((0 : Int) ≤ v2) <|
 .need (v2 < (x.length : Int)) <|
 let y0 : DI := (rdc CInsn x (v2).toNat)
 .need (pre14 y0) <|
 let y1 := (fn14 y0)
 let y2 := y1.2
 .ite (ine y2 0) (
 .ret (.inr (([] : List Int), y2))) (
 let y3 := y1.1
 let y4 : Nat := y3.length
 .ite (ieq (y4 : Int) 0) (
 let y5 : Int := (iadd .i64 v2 1)
 .ret (.inl (.h0 v1 y5))) (
 .need (((y4 : Nat) * 1 : Nat) ≤ 2 ^ 40) <|
 .need ((y4 : Nat) ≤ 2 ^ 40) <|
 let y6 : Int := (iadd .i64 v2 1)
 .ret (.inl (.h1 y4 v1 y6 y4 y3))))) (
 .ret (.inr (([] : List Int), 0)))
 | .h1 v1 v3 v4 v5 v6 =>
 .ite (ilt v4 v3) (
 .need ((0 : Int) ≤ v4) <|
 .need (v4 < (x.length : Int)) <|
 let y0 : DI := (rdc CInsn x (v4).toNat)
 .need (pre14 y0) <|
 let y1 := (fn14 y0)
 let y2 := y1.2
 .ite (ine y2 0) (
 .ret (.inr (([] : List Int), y2))) (
 .need ((v1 : Nat) = v5) <|
 let y3 := y1.1
 let y4 : Nat := (v1 + y3.length)
 .need (((y4 : Nat) * 1 : Nat) ≤ 2 ^ 40) <|
 .need ((y4 : Nat) ≤ 2 ^ 40) <|
 .ret (.inl (.h1 y4 v3 (iadd .i64 v4 1) y4 (v6 ++ y3))))) (
 .need (((0 : Nat) + v1 : Nat) ≤ v5) <|
 .ret (.inr ((v6.take v1), 0)))
noncomputable def head16 (x : (List DI)) : J16 → Head
 | .h0 v1 v2 =>
 { fr := { id := 16, kind := .top, T := [.any, .any, (.raw (.slice none 0 0))] ++ List.replicate 5 .any ++ [(.fsl CInsn x), (.int .i64 v1), (.int .i64 v2)] ++ List.replicate 16 .any, items := [.lp (subc [1, 0, 1, 0, 0] (bodyOf Tryd.f16)), .blk 0, .code (subc [1, 1] (bodyOf Tryd.f16))], D := [], base := 0 },
   stk := [],
   H := [] }
 | .h1 v1 v3 v4 v5 v6 =>
 { fr := { id := 16, kind := .top, T := [.any, .any, (.osl 0 [] 1 0 v1 none)] ++ List.replicate 5 .any ++ [(.fsl CInsn x), (.int .i64 v3), (.int .i64 v4)] ++ List.replicate 16 .any, items := [.lp (subc [1, 0, 1, 0, 0] (bodyOf Tryd.f16)), .blk 0, .code (subc [1, 1] (bodyOf Tryd.f16))], D := [], base := 0 },
   stk := [],
   H := [.cell true 5 (.arr v5 (.int .u8) v6)] }
noncomputable def stop16 : FuncId → Nat → Nat → Option Cut
  | 16, 0, 0 => some { tmps := [2, 8, 9, 10], loops := [], dead := [], stk := [] }
  | _, _, _ => none
noncomputable def fn16 (x : (List DI)) : ((List Int) × Int) := endVal (TC.dflt (.st (.slice (.int .u8)) (.st1 (.int .i64)))) (step16 x) (tree16 x)
def pre16 (x : (List DI)) : Prop := ∃ r, Ends (step16 x) r (tree16 x)
noncomputable def spec16 : Spec := { dom := (.st1 (.slice CInsn)), cod := (.st (.slice (.int .u8)) (.st1 (.int .i64))), n := 2, pre := pre16, f := fn16 }
noncomputable def need16 : FuncId → Option Spec
  | 14 => some spec14
  | _ => none
theorem need16_ok : ∀ f sp, need16 f = some sp → SpecOk env0 f sp := by
  intro f sp h
  unfold need16 at h
  split at h
  · cases h; exact ok14
  · cases h
section
variable (W : Cfg) (Q : ((List Int) × Int) → Prop) (x : (List DI))
theorem run16 : run (env need16 (fun _ _ => none)) stop16 (finS spec16 Q) W 100000 (startFr 16 Tryd.f16 (bodyOf Tryd.f16) (argsOf (.st1 (.slice CInsn)) x)) [] [] = (tree16 x).wp (kont W Q (head16 x)) := by kernel_rfl
theorem run16h0 (v1 v2 : Int) : run (env need16 (fun _ _ => none)) stop16 (finS spec16 Q) W 100000 (head16 x (.h0 v1 v2)).fr.enter (head16 x (.h0 v1 v2)).stk (head16 x (.h0 v1 v2)).H = (step16 x (.h0 v1 v2)).wp (kont W Q (head16 x)) := by kernel_rfl
theorem run16h1 (v1 : Nat) (v3 v4 : Int) (v5 : Nat) (v6 : List Int) : run (env need16 (fun _ _ => none)) stop16 (finS spec16 Q) W 100000 (head16 x (.h1 v1 v3 v4 v5 v6)).fr.enter (head16 x (.h1 v1 v3 v4 v5 v6)).stk (head16 x (.h1 v1 v3 v4 v5 v6)).H = (step16 x (.h1 v1 v3 v4 v5 v6)).wp (kont W Q (head16 x)) := by kernel_rfl
end
theorem runs16 (W : Cfg) (Q : ((List Int) × Int) → Prop) (x : (List DI)) : ∀ j : J16, run (env need16 (fun _ _ => none)) stop16 (finS spec16 Q) W 100000 (head16 x j).fr.enter (head16 x j).stk (head16 x j).H = (step16 x j).wp (kont W Q (head16 x))
 | .h0 v1 v2 => run16h0 W Q x v1 v2
 | .h1 v1 v3 v4 v5 v6 => run16h1 W Q x v1 v3 v4 v5 v6
theorem ok16 : SpecOk env0 16 spec16 := SpecOk.env rfl (fun _ _ h => h) (spec_of_trees (E := (env need16 (fun _ _ => none))) (sp := spec16) (valid _ _) (fun f sp h => SpecOk.env rfl (fun _ _ h => h) (need16_ok f sp h)) (fn := Tryd.f16) (c := (bodyOf Tryd.f16)) (by kernel_rfl) (by kernel_rfl) tree16 step16 head16 run16 runs16 (fun _ h => endVal_ends h))
end Go.Eng.RE
end
section
/- Functions of this program, written out. -/
namespace Go.Eng.RE
open Go.Proofs Go.Eng
noncomputable def tree19 (x : DI) : Tr Bool :=
  .need (pre36 x) <|
  .ret (fn36 x).2.2
noncomputable def fn19 (x : DI) : Bool := (tree19 x).val
def pre19 (x : DI) : Prop := (tree19 x).ok
noncomputable def spec19 : Spec := { dom := (.st1 CInsn), cod := .bool, n := 1, pre := pre19, f := fn19 }
noncomputable def need19 : FuncId → Option Spec
  | 36 => some spec36
  | _ => none
theorem need19_ok : ∀ f sp, need19 f = some sp → SpecOk env0 f sp := by
  intro f sp h
  unfold need19 at h
  split at h
  · cases h; exact ok36
  · cases h
section
variable (W : Cfg) (Q : Bool → Prop) (x : DI)
theorem run19 : run (env need19 (fun _ _ => none)) (fun _ _ _ => none) (finS spec19 Q) W 100000 (startFr 19 Tryd.f19 (bodyOf Tryd.f19) (argsOf (.st1 CInsn) x)) [] [] = (tree19 x).wp Q := by kernel_rfl
end
theorem ok19 : SpecOk env0 19 spec19 := SpecOk.env rfl (fun _ _ h => h) (spec_of_tree (E := (env need19 (fun _ _ => none))) (sp := spec19) (valid _ _) (fun f sp h => SpecOk.env rfl (fun _ _ h => h) (need19_ok f sp h)) (fn := Tryd.f19) (c := (bodyOf Tryd.f19)) (by kernel_rfl) (by kernel_rfl) tree19 run19 (fun _ h => Tr.gives_val h))
noncomputable def tree35 (x : Int) : Tr DO :=
  .ret (1, (x, ((-1), ((-1), (0, (0, (false, 0)))))))
noncomputable def fn35 (x : Int) : DO := (tree35 x).val
def pre35 (x : Int) : Prop := (tree35 x).ok
noncomputable def spec35 : Spec := { dom := (.st1 (.int .i64)), cod := CO, n := 1, pre := pre35, f := fn35 }
noncomputable def need35 : FuncId → Option Spec
  | _ => none
theorem need35_ok : ∀ f sp, need35 f = some sp → SpecOk env0 f sp := by
  intro f sp h
  unfold need35 at h
  split at h
  · cases h
section
variable (W : Cfg) (Q : DO → Prop) (x : Int)
theorem run35 : run (env need35 (fun _ _ => none)) (fun _ _ _ => none) (finS spec35 Q) W 100000 (startFr 35 Tryd.f35 (bodyOf Tryd.f35) (argsOf (.st1 (.int .i64)) x)) [] [] = (tree35 x).wp Q := by kernel_rfl
end
theorem ok35 : SpecOk env0 35 spec35 := SpecOk.env rfl (fun _ _ h => h) (spec_of_tree (E := (env need35 (fun _ _ => none))) (sp := spec35) (valid _ _) (fun f sp h => SpecOk.env rfl (fun _ _ h => h) (need35_ok f sp h)) (fn := Tryd.f35) (c := (bodyOf Tryd.f35)) (by kernel_rfl) (by kernel_rfl) tree35 run35 (fun _ h => Tr.gives_val h))
noncomputable def tree13 (_x : Unit) : Tr Bool :=
  .need (pre35 0) <|
  .need (pre35 1) <|
  let y0 : (Int × Int) := (0, 0)
  let y1 : (Int × (Int × (Int × (DO × (DO × (Int × Int)))))) := (1, (0, (8, ((fn35 0), ((fn35 1), y0)))))
  .need (pre14 y1) <|
  .need ((0 : Nat) < 2) <|
  .need ((1 : Nat) < 2) <|
  .need (((0 : Nat) + 2 : Nat) ≤ 2) <|
  let y2 : (Int × (Int × (Int × (Int × (Int × (Int × (Bool × Int))))))) := (0, (0, (0, (0, (0, (0, (false, 0)))))))
  let y3 : ((Int × (Int × (Int × (Int × (Int × (Int × (Bool × Int))))))) × ((Int × (Int × (Int × (Int × (Int × (Int × (Bool × Int))))))) × (Int × Int))) := (y2, (y2, y0))
  let y4 : (List DI) := [y1, (27, (0, (8, y3)))]
  .need (pre16 y4) <|
  let y5 : (Int × (Int × (Int × ((Int × (Int × (Int × (Int × (Int × (Int × (Bool × Int))))))) × ((Int × (Int × (Int × (Int × (Int × (Int × (Bool × Int))))))) × (Int × Int)))))) := (0, (0, (0, y3)))
  .need (pre14 y5) <|
  let y6 : ((List Int) × Int) := (fn14 y1)
  .ite ((ieq y6.2 0) == true) (
 .ite (((strOfNums y6.1) == (ByteArray.mk #[72, 137, 200])) == true) (
 let y7 := (fn16 y4)
 .ite ((ieq y7.2 0) == true) (
 .ite (((strOfNums y7.1) == (ByteArray.mk #[72, 137, 200, 195])) == true) (
 .ite ((ieq (fn14 y5).2 2) == true) (
 .need (pre19 y1) <|
 .ite ((fn19 y1) == true) (
 .need (pre21 (-5)) <|
 .ite ((ieq (fn21 (-5)).2.2.2.2.2.2.2 (-5)) == true) (
 .need (pre23 3) <|
 .ret (ieq (fn23 3).2.1 19)) (
 .ret false)) (
 .ret false)) (
 .ret false)) (
 .ret false)) (
 .ret false)) (
 .ret false)) (
 .ret false)
noncomputable def fn13 (x : Unit) : Bool := (tree13 x).val
def pre13 (x : Unit) : Prop := (tree13 x).ok
noncomputable def spec13 : Spec := { dom := .unit, cod := .bool, n := 1, pre := pre13, f := fn13 }
noncomputable def need13 : FuncId → Option Spec
  | 14 => some spec14
  | 16 => some spec16
  | 19 => some spec19
  | 21 => some spec21
  | 23 => some spec23
  | 35 => some spec35
  | _ => none
theorem need13_ok : ∀ f sp, need13 f = some sp → SpecOk env0 f sp := by
  intro f sp h
  unfold need13 at h
  split at h
  · cases h; exact ok14
  · cases h; exact ok16
  · cases h; exact ok19
  · cases h; exact ok21
  · cases h; exact ok23
  · cases h; exact ok35
  · cases h
section
variable (W : Cfg) (Q : Bool → Prop) (x : Unit)
theorem run13 : run (env need13 (fun _ _ => none)) (fun _ _ _ => none) (finS spec13 Q) W 100000 (startFr 13 Tryd.f13 (bodyOf Tryd.f13) (argsOf .unit x)) [] [] = (tree13 x).wp Q := by kernel_rfl
end
theorem ok13 : SpecOk env0 13 spec13 := SpecOk.env rfl (fun _ _ h => h) (spec_of_tree (E := (env need13 (fun _ _ => none))) (sp := spec13) (valid _ _) (fun f sp h => SpecOk.env rfl (fun _ _ h => h) (need13_ok f sp h)) (fn := Tryd.f13) (c := (bodyOf Tryd.f13)) (by kernel_rfl) (by kernel_rfl) tree13 run13 (fun _ h => Tr.gives_val h))
inductive J155 where
 | h0 (v1 : Int) (v2 : (List Int))
noncomputable def tree155 (_x : Int) : Tr (J155 ⊕ Int) :=
  .need ((0 : Nat) < 8) <|
  .need ((1 : Nat) < 8) <|
  .need ((2 : Nat) < 8) <|
  .need ((3 : Nat) < 8) <|
  .need ((4 : Nat) < 8) <|
  .need ((5 : Nat) < 8) <|
  .need ((6 : Nat) < 8) <|
  .need ((7 : Nat) < 8) <|
  .ret (.inl (.h0 0 [3, 4, 5, 6, 7, 8, 9, 10]))
noncomputable def step155 (x : Int) : J155 → Tr (J155 ⊕ Int)
 | .h0 v1 v2 =>
 .ite (ilt v1 8) (
 .need ((0 : Int) ≤ v1) <|
 .need ((v1 : Int) < 8) <|
 .need (((v1).toNat : Nat) < 8) <|
 .ite (ieq (rdc (.int .u8) v2 (v1).toNat) x) (
 .ret (.inr v1)) (
 .ret (.inl (.h0 (iadd .i64 v1 1) v2)))) (
 .ret (.inr (-1)))
noncomputable def fn155 (x : Int) : Int := endVal (TC.dflt (.int .i64)) (step155 x) (tree155 x)
def pre155 (x : Int) : Prop := ∃ r, Ends (step155 x) r (tree155 x)
noncomputable def tree156 (x : Int) : Tr Int :=
  .ite (ieq x 12) (
 .ret 0) (
 .ite (ieq x 19) (
 .ret 0) (
 .ite (ieq x 13) (
 .ret 1) (
 .ite (ieq x 20) (
 .ret 1) (
 .ite (ieq x 15) (
 .ret 2) (
 .ite (ieq x 14) (
 .ret 3) (
 .ite (ieq x 22) (
 .ret 4) (
 .ite (ieq x 16) (
 .ret 4) (
 .ite (ieq x 17) (
 .ret 5) (
 .ite (ieq x 23) (
 .ret 6) (
 .ite (ieq x 18) (
 .ret 7) (
 .ret (-1))))))))))))
noncomputable def fn156 (x : Int) : Int := (tree156 x).val
def pre156 (x : Int) : Prop := (tree156 x).ok
noncomputable def tree103 (x : Int) : Tr (List Drow) :=
  .need (pre155 x) <|
  .need (pre156 x) <|
  .ite (ieq x 1) (
 .need ((0 : Nat) < 1) <|
 .need ((0 : Nat) < 1) <|
 .need ((0 : Nat) < 1) <|
 .need ((0 : Nat) < 1) <|
 .need ((0 : Nat) < 1) <|
 .need ((0 : Nat) < 1) <|
 .need ((0 : Nat) < 1) <|
 .need (((0 : Nat) + 1 : Nat) ≤ 1) <|
 .need (((0 : Nat) + 1 : Nat) ≤ 1) <|
 .need (((0 : Nat) + 1 : Nat) ≤ 1) <|
 .need (((0 : Nat) + 1 : Nat) ≤ 1) <|
 .need (((0 : Nat) + 1 : Nat) ≤ 1) <|
 .need (((0 : Nat) + 1 : Nat) ≤ 1) <|
 .need (((0 : Nat) + 1 : Nat) ≤ 1) <|
 .need ((0 : Nat) < 7) <|
 .need ((1 : Nat) < 7) <|
 .need ((2 : Nat) < 7) <|
 .need ((3 : Nat) < 7) <|
 .need ((4 : Nat) < 7) <|
 .need ((5 : Nat) < 7) <|
 .need ((6 : Nat) < 7) <|
 .need (((0 : Nat) + 7 : Nat) ≤ 7) <|
 let y0 : (Int × Int) := (1, 0)
 let y1 : (Int × (Int × Int)) := ((-1), y0)
 let y2 : (Int × (Int × Int)) := ((-1), (2, 0))
 let y3 : (Int × Int) := (1, 1)
 let y4 : (Int × Int) := (1, 4)
 let y5 : (Int × (Int × Int)) := (0, y4)
 .ret [(1, ((ByteArray.mk #[114, 109]), ((ByteArray.mk #[114]), (0, ([136], y1))))), (1, ((ByteArray.mk #[114]), ((ByteArray.mk #[109]), (0, ([138], y2))))), (1, ((ByteArray.mk #[114, 109]), ((ByteArray.mk #[105, 56]), (0, ([198], (0, y3)))))), (4, ((ByteArray.mk #[114, 109]), ((ByteArray.mk #[114]), (0, ([137], y1))))), (4, ((ByteArray.mk #[114]), ((ByteArray.mk #[109]), (0, ([139], y2))))), (4, ((ByteArray.mk #[114, 109]), ((ByteArray.mk #[105, 51, 50]), (0, ([199], y5))))), (8, ((ByteArray.mk #[114]), ((ByteArray.mk #[105, 54, 52]), (0, ([184], (0, (3, 8)))))))]) (
 .ite (ieq x 2) (
 .need ((0 : Nat) < 1) <|
 .need (((0 : Nat) + 1 : Nat) ≤ 1) <|
 .need ((0 : Nat) < 1) <|
 .need (((0 : Nat) + 1 : Nat) ≤ 1) <|
 let y6 : (Int × (Int × Int)) := ((-1), (2, 0))
 .ret [(4, ((ByteArray.mk #[114]), ((ByteArray.mk #[109]), (0, ([141], y6)))))]) (
 .ite (ieq x 3) (
 .need ((0 : Nat) < 1) <|
 .need ((0 : Nat) < 1) <|
 .need ((0 : Nat) < 1) <|
 .need ((0 : Nat) < 1) <|
 .need (((0 : Nat) + 1 : Nat) ≤ 1) <|
 .need (((0 : Nat) + 1 : Nat) ≤ 1) <|
 .need (((0 : Nat) + 1 : Nat) ≤ 1) <|
 .need (((0 : Nat) + 1 : Nat) ≤ 1) <|
 .need ((0 : Nat) < 4) <|
 .need ((1 : Nat) < 4) <|
 .need ((2 : Nat) < 4) <|
 .need ((3 : Nat) < 4) <|
 .need (((0 : Nat) + 4 : Nat) ≤ 4) <|
 let y7 : Int := (iconv .u8 (imax (fn155 x) 0))
 let y8 : Int := (imul .u8 8 y7)
 let y9 : (Int × Int) := (1, 0)
 let y10 : (Int × (Int × Int)) := ((-1), y9)
 let y11 : (Int × (Int × Int)) := ((-1), (2, 0))
 let y12 : Int := (iconv .i64 y7)
 let y13 : (Int × Int) := (1, 1)
 let y14 : (Int × Int) := (1, 4)
 let y15 : (List Drow) := [(4, ((ByteArray.mk #[114, 109]), ((ByteArray.mk #[114]), (0, ([(iadd .u8 y8 1)], y10))))), (4, ((ByteArray.mk #[114]), ((ByteArray.mk #[109]), (0, ([(iadd .u8 y8 3)], y11))))), (4, ((ByteArray.mk #[114, 109]), ((ByteArray.mk #[105, 56]), (0, ([131], (y12, y13)))))), (4, ((ByteArray.mk #[114, 109]), ((ByteArray.mk #[105, 51, 50]), (0, ([129], (y12, y14))))))]
 .ret y15) (
 .ite (ieq x 4) (
 .need ((0 : Nat) < 1) <|
 .need ((0 : Nat) < 1) <|
 .need ((0 : Nat) < 1) <|
 .need ((0 : Nat) < 1) <|
 .need (((0 : Nat) + 1 : Nat) ≤ 1) <|
 .need (((0 : Nat) + 1 : Nat) ≤ 1) <|
 .need (((0 : Nat) + 1 : Nat) ≤ 1) <|
 .need (((0 : Nat) + 1 : Nat) ≤ 1) <|
 .need ((0 : Nat) < 4) <|
 .need ((1 : Nat) < 4) <|
 .need ((2 : Nat) < 4) <|
 .need ((3 : Nat) < 4) <|
 .need (((0 : Nat) + 4 : Nat) ≤ 4) <|
 let y16 : Int := (iconv .u8 (imax (fn155 x) 0))
 let y17 : Int := (imul .u8 8 y16)
 let y18 : (Int × Int) := (1, 0)
 let y19 : (Int × (Int × Int)) := ((-1), y18)
 let y20 : (Int × (Int × Int)) := ((-1), (2, 0))
 let y21 : Int := (iconv .i64 y16)
 let y22 : (Int × Int) := (1, 1)
 let y23 : (Int × Int) := (1, 4)
 let y24 : (List Drow) := [(4, ((ByteArray.mk #[114, 109]), ((ByteArray.mk #[114]), (0, ([(iadd .u8 y17 1)], y19))))), (4, ((ByteArray.mk #[114]), ((ByteArray.mk #[109]), (0, ([(iadd .u8 y17 3)], y20))))), (4, ((ByteArray.mk #[114, 109]), ((ByteArray.mk #[105, 56]), (0, ([131], (y21, y22)))))), (4, ((ByteArray.mk #[114, 109]), ((ByteArray.mk #[105, 51, 50]), (0, ([129], (y21, y23))))))]
 .ret y24) (
 .ite (ieq x 5) (
 .need ((0 : Nat) < 1) <|
 .need ((0 : Nat) < 1) <|
 .need ((0 : Nat) < 1) <|
 .need ((0 : Nat) < 1) <|
 .need (((0 : Nat) + 1 : Nat) ≤ 1) <|
 .need (((0 : Nat) + 1 : Nat) ≤ 1) <|
 .need (((0 : Nat) + 1 : Nat) ≤ 1) <|
 .need (((0 : Nat) + 1 : Nat) ≤ 1) <|
 .need ((0 : Nat) < 4) <|
 .need ((1 : Nat) < 4) <|
 .need ((2 : Nat) < 4) <|
 .need ((3 : Nat) < 4) <|
 .need (((0 : Nat) + 4 : Nat) ≤ 4) <|
 let y25 : Int := (iconv .u8 (imax (fn155 x) 0))
 let y26 : Int := (imul .u8 8 y25)
 let y27 : (Int × Int) := (1, 0)
 let y28 : (Int × (Int × Int)) := ((-1), y27)
 let y29 : (Int × (Int × Int)) := ((-1), (2, 0))
 let y30 : Int := (iconv .i64 y25)
 let y31 : (Int × Int) := (1, 1)
 let y32 : (Int × Int) := (1, 4)
 let y33 : (List Drow) := [(4, ((ByteArray.mk #[114, 109]), ((ByteArray.mk #[114]), (0, ([(iadd .u8 y26 1)], y28))))), (4, ((ByteArray.mk #[114]), ((ByteArray.mk #[109]), (0, ([(iadd .u8 y26 3)], y29))))), (4, ((ByteArray.mk #[114, 109]), ((ByteArray.mk #[105, 56]), (0, ([131], (y30, y31)))))), (4, ((ByteArray.mk #[114, 109]), ((ByteArray.mk #[105, 51, 50]), (0, ([129], (y30, y32))))))]
 .ret y33) (
 .ite (ieq x 6) (
 .need ((0 : Nat) < 1) <|
 .need ((0 : Nat) < 1) <|
 .need ((0 : Nat) < 1) <|
 .need ((0 : Nat) < 1) <|
 .need (((0 : Nat) + 1 : Nat) ≤ 1) <|
 .need (((0 : Nat) + 1 : Nat) ≤ 1) <|
 .need (((0 : Nat) + 1 : Nat) ≤ 1) <|
 .need (((0 : Nat) + 1 : Nat) ≤ 1) <|
 .need ((0 : Nat) < 4) <|
 .need ((1 : Nat) < 4) <|
 .need ((2 : Nat) < 4) <|
 .need ((3 : Nat) < 4) <|
 .need (((0 : Nat) + 4 : Nat) ≤ 4) <|
 let y34 : Int := (iconv .u8 (imax (fn155 x) 0))
 let y35 : Int := (imul .u8 8 y34)
 let y36 : (Int × Int) := (1, 0)
 let y37 : (Int × (Int × Int)) := ((-1), y36)
 let y38 : (Int × (Int × Int)) := ((-1), (2, 0))
 let y39 : Int := (iconv .i64 y34)
 let y40 : (Int × Int) := (1, 1)
 let y41 : (Int × Int) := (1, 4)
 let y42 : (List Drow) := [(4, ((ByteArray.mk #[114, 109]), ((ByteArray.mk #[114]), (0, ([(iadd .u8 y35 1)], y37))))), (4, ((ByteArray.mk #[114]), ((ByteArray.mk #[109]), (0, ([(iadd .u8 y35 3)], y38))))), (4, ((ByteArray.mk #[114, 109]), ((ByteArray.mk #[105, 56]), (0, ([131], (y39, y40)))))), (4, ((ByteArray.mk #[114, 109]), ((ByteArray.mk #[105, 51, 50]), (0, ([129], (y39, y41))))))]
 .ret y42) (
 .ite (ieq x 7) (
 .need ((0 : Nat) < 1) <|
 .need ((0 : Nat) < 1) <|
 .need ((0 : Nat) < 1) <|
 .need ((0 : Nat) < 1) <|
 .need (((0 : Nat) + 1 : Nat) ≤ 1) <|
 .need (((0 : Nat) + 1 : Nat) ≤ 1) <|
 .need (((0 : Nat) + 1 : Nat) ≤ 1) <|
 .need (((0 : Nat) + 1 : Nat) ≤ 1) <|
 .need ((0 : Nat) < 4) <|
 .need ((1 : Nat) < 4) <|
 .need ((2 : Nat) < 4) <|
 .need ((3 : Nat) < 4) <|
 .need (((0 : Nat) + 4 : Nat) ≤ 4) <|
 let y43 : Int := (iconv .u8 (imax (fn155 x) 0))
 let y44 : Int := (imul .u8 8 y43)
 let y45 : (Int × Int) := (1, 0)
 let y46 : (Int × (Int × Int)) := ((-1), y45)
 let y47 : (Int × (Int × Int)) := ((-1), (2, 0))
 let y48 : Int := (iconv .i64 y43)
 let y49 : (Int × Int) := (1, 1)
 let y50 : (Int × Int) := (1, 4)
 let y51 : (List Drow) := [(4, ((ByteArray.mk #[114, 109]), ((ByteArray.mk #[114]), (0, ([(iadd .u8 y44 1)], y46))))), (4, ((ByteArray.mk #[114]), ((ByteArray.mk #[109]), (0, ([(iadd .u8 y44 3)], y47))))), (4, ((ByteArray.mk #[114, 109]), ((ByteArray.mk #[105, 56]), (0, ([131], (y48, y49)))))), (4, ((ByteArray.mk #[114, 109]), ((ByteArray.mk #[105, 51, 50]), (0, ([129], (y48, y50))))))]
 .ret y51) (
 .ite (ieq x 8) (
 .need ((0 : Nat) < 1) <|
 .need ((0 : Nat) < 1) <|
 .need ((0 : Nat) < 1) <|
 .need ((0 : Nat) < 1) <|
 .need (((0 : Nat) + 1 : Nat) ≤ 1) <|
 .need (((0 : Nat) + 1 : Nat) ≤ 1) <|
 .need (((0 : Nat) + 1 : Nat) ≤ 1) <|
 .need (((0 : Nat) + 1 : Nat) ≤ 1) <|
 .need ((0 : Nat) < 4) <|
 .need ((1 : Nat) < 4) <|
 .need ((2 : Nat) < 4) <|
 .need ((3 : Nat) < 4) <|
 .need (((0 : Nat) + 4 : Nat) ≤ 4) <|
 let y52 : Int := (iconv .u8 (imax (fn155 x) 0))
 let y53 : Int := (imul .u8 8 y52)
 let y54 : (Int × Int) := (1, 0)
 let y55 : (Int × (Int × Int)) := ((-1), y54)
 let y56 : (Int × (Int × Int)) := ((-1), (2, 0))
 let y57 : Int := (iconv .i64 y52)
 let y58 : (Int × Int) := (1, 1)
 let y59 : (Int × Int) := (1, 4)
 let y60 : (List Drow) := [(4, ((ByteArray.mk #[114, 109]), ((ByteArray.mk #[114]), (0, ([(iadd .u8 y53 1)], y55))))), (4, ((ByteArray.mk #[114]), ((ByteArray.mk #[109]), (0, ([(iadd .u8 y53 3)], y56))))), (4, ((ByteArray.mk #[114, 109]), ((ByteArray.mk #[105, 56]), (0, ([131], (y57, y58)))))), (4, ((ByteArray.mk #[114, 109]), ((ByteArray.mk #[105, 51, 50]), (0, ([129], (y57, y59))))))]
 .ret y60) (
 .ite (ieq x 9) (
 .need ((0 : Nat) < 1) <|
 .need ((0 : Nat) < 1) <|
 .need ((0 : Nat) < 1) <|
 .need ((0 : Nat) < 1) <|
 .need (((0 : Nat) + 1 : Nat) ≤ 1) <|
 .need (((0 : Nat) + 1 : Nat) ≤ 1) <|
 .need (((0 : Nat) + 1 : Nat) ≤ 1) <|
 .need (((0 : Nat) + 1 : Nat) ≤ 1) <|
 .need ((0 : Nat) < 4) <|
 .need ((1 : Nat) < 4) <|
 .need ((2 : Nat) < 4) <|
 .need ((3 : Nat) < 4) <|
 .need (((0 : Nat) + 4 : Nat) ≤ 4) <|
 let y61 : Int := (iconv .u8 (imax (fn155 x) 0))
 let y62 : Int := (imul .u8 8 y61)
 let y63 : (Int × Int) := (1, 0)
 let y64 : (Int × (Int × Int)) := ((-1), y63)
 let y65 : (Int × (Int × Int)) := ((-1), (2, 0))
 let y66 : Int := (iconv .i64 y61)
 let y67 : (Int × Int) := (1, 1)
 let y68 : (Int × Int) := (1, 4)
 let y69 : (List Drow) := [(4, ((ByteArray.mk #[114, 109]), ((ByteArray.mk #[114]), (0, ([(iadd .u8 y62 1)], y64))))), (4, ((ByteArray.mk #[114]), ((ByteArray.mk #[109]), (0, ([(iadd .u8 y62 3)], y65))))), (4, ((ByteArray.mk #[114, 109]), ((ByteArray.mk #[105, 56]), (0, ([131], (y66, y67)))))), (4, ((ByteArray.mk #[114, 109]), ((ByteArray.mk #[105, 51, 50]), (0, ([129], (y66, y68))))))]
 .ret y69) (
 .ite (ieq x 10) (
 .need ((0 : Nat) < 1) <|
 .need ((0 : Nat) < 1) <|
 .need ((0 : Nat) < 1) <|
 .need ((0 : Nat) < 1) <|
 .need (((0 : Nat) + 1 : Nat) ≤ 1) <|
 .need (((0 : Nat) + 1 : Nat) ≤ 1) <|
 .need (((0 : Nat) + 1 : Nat) ≤ 1) <|
 .need (((0 : Nat) + 1 : Nat) ≤ 1) <|
 .need ((0 : Nat) < 4) <|
 .need ((1 : Nat) < 4) <|
 .need ((2 : Nat) < 4) <|
 .need ((3 : Nat) < 4) <|
 .need (((0 : Nat) + 4 : Nat) ≤ 4) <|
 let y70 : Int := (iconv .u8 (imax (fn155 x) 0))
 let y71 : Int := (imul .u8 8 y70)
 let y72 : (Int × Int) := (1, 0)
 let y73 : (Int × (Int × Int)) := ((-1), y72)
 let y74 : (Int × (Int × Int)) := ((-1), (2, 0))
 let y75 : Int := (iconv .i64 y70)
 let y76 : (Int × Int) := (1, 1)
 let y77 : (Int × Int) := (1, 4)
 let y78 : (List Drow) := [(4, ((ByteArray.mk #[114, 109]), ((ByteArray.mk #[114]), (0, ([(iadd .u8 y71 1)], y73))))), (4, ((ByteArray.mk #[114]), ((ByteArray.mk #[109]), (0, ([(iadd .u8 y71 3)], y74))))), (4, ((ByteArray.mk #[114, 109]), ((ByteArray.mk #[105, 56]), (0, ([131], (y75, y76)))))), (4, ((ByteArray.mk #[114, 109]), ((ByteArray.mk #[105, 51, 50]), (0, ([129], (y75, y77))))))]
 .ret y78) (
 .ite (ieq x 11) (
 .need ((0 : Nat) < 1) <|
 .need ((0 : Nat) < 1) <|
 .need (((0 : Nat) + 1 : Nat) ≤ 1) <|
 .need (((0 : Nat) + 1 : Nat) ≤ 1) <|
 .need ((0 : Nat) < 2) <|
 .need ((1 : Nat) < 2) <|
 .need (((0 : Nat) + 2 : Nat) ≤ 2) <|
 let y79 : (Int × Int) := (1, 0)
 let y80 : (Int × (Int × Int)) := ((-1), y79)
 let y81 : (Int × Int) := (1, 4)
 let y82 : (Int × (Int × Int)) := (0, y81)
 .ret [(4, ((ByteArray.mk #[114, 109]), ((ByteArray.mk #[114]), (0, ([133], y80))))), (4, ((ByteArray.mk #[114, 109]), ((ByteArray.mk #[105, 51, 50]), (0, ([247], y82)))))]) (
 .ite (ieq x 12) (
 .need ((0 : Nat) < 1) <|
 .need (((0 : Nat) + 1 : Nat) ≤ 1) <|
 .need ((0 : Nat) < 1) <|
 .need (((0 : Nat) + 1 : Nat) ≤ 1) <|
 let y83 : (Int × Int) := (1, 0)
 let y84 : (Int × (Int × Int)) := ((fn156 x), y83)
 let y85 : (List Drow) := [(4, ((ByteArray.mk #[114, 109]), ((ByteArray.mk #[45]), (0, ([255], y84)))))]
 .ret y85) (
 .ite (ieq x 13) (
 .need ((0 : Nat) < 1) <|
 .need (((0 : Nat) + 1 : Nat) ≤ 1) <|
 .need ((0 : Nat) < 1) <|
 .need (((0 : Nat) + 1 : Nat) ≤ 1) <|
 let y86 : (Int × Int) := (1, 0)
 let y87 : (Int × (Int × Int)) := ((fn156 x), y86)
 let y88 : (List Drow) := [(4, ((ByteArray.mk #[114, 109]), ((ByteArray.mk #[45]), (0, ([255], y87)))))]
 .ret y88) (
 .ite (ieq x 15) (
 .need ((0 : Nat) < 1) <|
 .need (((0 : Nat) + 1 : Nat) ≤ 1) <|
 .need ((0 : Nat) < 1) <|
 .need (((0 : Nat) + 1 : Nat) ≤ 1) <|
 let y89 : (Int × Int) := (1, 0)
 let y90 : (Int × (Int × Int)) := ((fn156 x), y89)
 let y91 : (List Drow) := [(4, ((ByteArray.mk #[114, 109]), ((ByteArray.mk #[45]), (0, ([247], y90)))))]
 .ret y91) (
 .ite (ieq x 14) (
 .need ((0 : Nat) < 1) <|
 .need (((0 : Nat) + 1 : Nat) ≤ 1) <|
 .need ((0 : Nat) < 1) <|
 .need (((0 : Nat) + 1 : Nat) ≤ 1) <|
 let y92 : (Int × Int) := (1, 0)
 let y93 : (Int × (Int × Int)) := ((fn156 x), y92)
 let y94 : (List Drow) := [(4, ((ByteArray.mk #[114, 109]), ((ByteArray.mk #[45]), (0, ([247], y93)))))]
 .ret y94) (
 .ite (ieq x 22) (
 .need ((0 : Nat) < 1) <|
 .need (((0 : Nat) + 1 : Nat) ≤ 1) <|
 .need ((0 : Nat) < 1) <|
 .need (((0 : Nat) + 1 : Nat) ≤ 1) <|
 let y95 : (Int × Int) := (1, 0)
 let y96 : (Int × (Int × Int)) := ((fn156 x), y95)
 let y97 : (List Drow) := [(4, ((ByteArray.mk #[114, 109]), ((ByteArray.mk #[45]), (0, ([247], y96)))))]
 .ret y97) (
 .ite (ieq x 23) (
 .need ((0 : Nat) < 1) <|
 .need (((0 : Nat) + 1 : Nat) ≤ 1) <|
 .need ((0 : Nat) < 1) <|
 .need (((0 : Nat) + 1 : Nat) ≤ 1) <|
 let y98 : (Int × Int) := (1, 0)
 let y99 : (Int × (Int × Int)) := ((fn156 x), y98)
 let y100 : (List Drow) := [(4, ((ByteArray.mk #[114, 109]), ((ByteArray.mk #[45]), (0, ([247], y99)))))]
 .ret y100) (
 .ite (ieq x 19) (
 .need ((0 : Nat) < 1) <|
 .need ((0 : Nat) < 1) <|
 .need (((0 : Nat) + 1 : Nat) ≤ 1) <|
 .need (((0 : Nat) + 1 : Nat) ≤ 1) <|
 .need ((0 : Nat) < 2) <|
 .need ((1 : Nat) < 2) <|
 .need (((0 : Nat) + 2 : Nat) ≤ 2) <|
 let y101 : (Int × Int) := (1, 1)
 let y102 : (Int × Int) := (1, 0)
 let y103 : (Int × (Int × Int)) := ((fn156 x), y102)
 let y104 : (List Drow) := [(4, ((ByteArray.mk #[114, 109]), ((ByteArray.mk #[117, 56]), (0, ([193], ((fn156 x), y101)))))), (4, ((ByteArray.mk #[114, 109]), ((ByteArray.mk #[99, 108]), (0, ([211], y103)))))]
 .ret y104) (
 .ite (ieq x 20) (
 .need ((0 : Nat) < 1) <|
 .need ((0 : Nat) < 1) <|
 .need (((0 : Nat) + 1 : Nat) ≤ 1) <|
 .need (((0 : Nat) + 1 : Nat) ≤ 1) <|
 .need ((0 : Nat) < 2) <|
 .need ((1 : Nat) < 2) <|
 .need (((0 : Nat) + 2 : Nat) ≤ 2) <|
 let y105 : (Int × Int) := (1, 1)
 let y106 : (Int × Int) := (1, 0)
 let y107 : (Int × (Int × Int)) := ((fn156 x), y106)
 let y108 : (List Drow) := [(4, ((ByteArray.mk #[114, 109]), ((ByteArray.mk #[117, 56]), (0, ([193], ((fn156 x), y105)))))), (4, ((ByteArray.mk #[114, 109]), ((ByteArray.mk #[99, 108]), (0, ([211], y107)))))]
 .ret y108) (
 .ite (ieq x 16) (
 .need ((0 : Nat) < 1) <|
 .need ((0 : Nat) < 1) <|
 .need (((0 : Nat) + 1 : Nat) ≤ 1) <|
 .need (((0 : Nat) + 1 : Nat) ≤ 1) <|
 .need ((0 : Nat) < 2) <|
 .need ((1 : Nat) < 2) <|
 .need (((0 : Nat) + 2 : Nat) ≤ 2) <|
 let y109 : (Int × Int) := (1, 1)
 let y110 : (Int × Int) := (1, 0)
 let y111 : (Int × (Int × Int)) := ((fn156 x), y110)
 let y112 : (List Drow) := [(4, ((ByteArray.mk #[114, 109]), ((ByteArray.mk #[117, 56]), (0, ([193], ((fn156 x), y109)))))), (4, ((ByteArray.mk #[114, 109]), ((ByteArray.mk #[99, 108]), (0, ([211], y111)))))]
 .ret y112) (
 .ite (ieq x 17) (
 .need ((0 : Nat) < 1) <|
 .need ((0 : Nat) < 1) <|
 .need (((0 : Nat) + 1 : Nat) ≤ 1) <|
 .need (((0 : Nat) + 1 : Nat) ≤ 1) <|
 .need ((0 : Nat) < 2) <|
 .need ((1 : Nat) < 2) <|
 .need (((0 : Nat) + 2 : Nat) ≤ 2) <|
 let y113 : (Int × Int) := (1, 1)
 let y114 : (Int × Int) := (1, 0)
 let y115 : (Int × (Int × Int)) := ((fn156 x), y114)
 let y116 : (List Drow) := [(4, ((ByteArray.mk #[114, 109]), ((ByteArray.mk #[117, 56]), (0, ([193], ((fn156 x), y113)))))), (4, ((ByteArray.mk #[114, 109]), ((ByteArray.mk #[99, 108]), (0, ([211], y115)))))]
 .ret y116) (
 .ite (ieq x 18) (
 .need ((0 : Nat) < 1) <|
 .need ((0 : Nat) < 1) <|
 .need (((0 : Nat) + 1 : Nat) ≤ 1) <|
 .need (((0 : Nat) + 1 : Nat) ≤ 1) <|
 .need ((0 : Nat) < 2) <|
 .need ((1 : Nat) < 2) <|
 .need (((0 : Nat) + 2 : Nat) ≤ 2) <|
 let y117 : (Int × Int) := (1, 1)
 let y118 : (Int × Int) := (1, 0)
 let y119 : (Int × (Int × Int)) := ((fn156 x), y118)
 let y120 : (List Drow) := [(4, ((ByteArray.mk #[114, 109]), ((ByteArray.mk #[117, 56]), (0, ([193], ((fn156 x), y117)))))), (4, ((ByteArray.mk #[114, 109]), ((ByteArray.mk #[99, 108]), (0, ([211], y119)))))]
 .ret y120) (
 .ite (ieq x 21) (
 .need ((0 : Nat) < 2) <|
 .need ((1 : Nat) < 2) <|
 .need (((0 : Nat) + 2 : Nat) ≤ 2) <|
 .need ((0 : Nat) < 1) <|
 .need (((0 : Nat) + 1 : Nat) ≤ 1) <|
 let y121 : (Int × (Int × Int)) := ((-1), (2, 0))
 .ret [(4, ((ByteArray.mk #[114]), ((ByteArray.mk #[114, 109]), (0, ([15, 175], y121)))))]) (
 .ret ([] : List Drow))))))))))))))))))))))))
noncomputable def fn103 (x : Int) : (List Drow) := (tree103 x).val
def pre103 (x : Int) : Prop := (tree103 x).ok
noncomputable def tree75 (x : (Int × Int)) : Tr (List Drow) :=
  .need ((16 : Int) ≠ 0) <|
  .ite (ieq x.1 24) (
 .need ((0 : Nat) < 1) <|
 .need (((0 : Nat) + 1 : Nat) ≤ 1) <|
 .need ((0 : Nat) < 1) <|
 .need (((0 : Nat) + 1 : Nat) ≤ 1) <|
 let y0 : (Int × (Int × Int)) := (0, (3, 0))
 .ret [(16, ((ByteArray.mk #[114]), ((ByteArray.mk #[45]), (0, ([80], y0)))))]) (
 .ite (ieq x.1 25) (
 .need ((0 : Nat) < 1) <|
 .need (((0 : Nat) + 1 : Nat) ≤ 1) <|
 .need ((0 : Nat) < 1) <|
 .need (((0 : Nat) + 1 : Nat) ≤ 1) <|
 let y1 : (Int × (Int × Int)) := (0, (3, 0))
 .ret [(16, ((ByteArray.mk #[114]), ((ByteArray.mk #[45]), (0, ([88], y1)))))]) (
 .ite (ieq x.1 26) (
 .need ((0 : Nat) < 1) <|
 .need (((0 : Nat) + 1 : Nat) ≤ 1) <|
 .need ((0 : Nat) < 1) <|
 .need (((0 : Nat) + 1 : Nat) ≤ 1) <|
 let y2 : (Int × (Int × Int)) := (0, (0, 4))
 .ret [(16, ((ByteArray.mk #[45]), ((ByteArray.mk #[105, 51, 50]), (0, ([232], y2)))))]) (
 .ite (ieq x.1 28) (
 .need ((0 : Nat) < 1) <|
 .need ((0 : Nat) < 1) <|
 .need (((0 : Nat) + 1 : Nat) ≤ 1) <|
 .need (((0 : Nat) + 1 : Nat) ≤ 1) <|
 .need ((0 : Nat) < 2) <|
 .need ((1 : Nat) < 2) <|
 .need (((0 : Nat) + 2 : Nat) ≤ 2) <|
 let y3 : (Int × (Int × Int)) := (0, (0, 4))
 let y4 : (Int × Int) := (1, 0)
 .ret [(16, ((ByteArray.mk #[45]), ((ByteArray.mk #[105, 51, 50]), (0, ([233], y3))))), (16, ((ByteArray.mk #[114, 109]), ((ByteArray.mk #[45]), (0, ([255], (4, y4))))))]) (
 .ite (ieq x.1 29) (
 .need ((0 : Nat) < 2) <|
 .need ((1 : Nat) < 2) <|
 .need (((0 : Nat) + 2 : Nat) ≤ 2) <|
 .need ((0 : Nat) < 1) <|
 .need (((0 : Nat) + 1 : Nat) ≤ 1) <|
 let y5 : Int := (irem .u8 x.2 16)
 let y6 : (Int × (Int × Int)) := (0, (0, 4))
 .ret [(16, ((ByteArray.mk #[45]), ((ByteArray.mk #[105, 51, 50]), (0, ([15, (iadd .u8 128 y5)], y6)))))]) (
 .ite (ieq x.1 27) (
 .need ((0 : Nat) < 1) <|
 .need (((0 : Nat) + 1 : Nat) ≤ 1) <|
 .need ((0 : Nat) < 1) <|
 .need (((0 : Nat) + 1 : Nat) ≤ 1) <|
 let y7 : (Int × (Int × Int)) := (0, (0, 0))
 .ret [(16, ((ByteArray.mk #[45]), ((ByteArray.mk #[45]), (0, ([195], y7)))))]) (
 .ite (ieq x.1 34) (
 .need ((0 : Nat) < 1) <|
 .need (((0 : Nat) + 1 : Nat) ≤ 1) <|
 .need ((0 : Nat) < 1) <|
 .need (((0 : Nat) + 1 : Nat) ≤ 1) <|
 let y8 : (Int × (Int × Int)) := (0, (0, 0))
 .ret [(16, ((ByteArray.mk #[45]), ((ByteArray.mk #[45]), (0, ([144], y8)))))]) (
 .ite (ieq x.1 30) (
 .need ((0 : Nat) < 2) <|
 .need ((1 : Nat) < 2) <|
 .need (((0 : Nat) + 2 : Nat) ≤ 2) <|
 .need ((0 : Nat) < 1) <|
 .need (((0 : Nat) + 1 : Nat) ≤ 1) <|
 let y9 : Int := (irem .u8 x.2 16)
 let y10 : (Int × (Int × Int)) := ((-1), (2, 0))
 .ret [(4, ((ByteArray.mk #[114]), ((ByteArray.mk #[114, 109]), (0, ([15, (iadd .u8 64 y9)], y10)))))]) (
 .ite (ieq x.1 31) (
 .need ((0 : Nat) < 2) <|
 .need ((1 : Nat) < 2) <|
 .need (((0 : Nat) + 2 : Nat) ≤ 2) <|
 .need ((0 : Nat) < 1) <|
 .need (((0 : Nat) + 1 : Nat) ≤ 1) <|
 let y11 : Int := (irem .u8 x.2 16)
 let y12 : (Int × Int) := (1, 0)
 .ret [(1, ((ByteArray.mk #[114, 109]), ((ByteArray.mk #[45]), (0, ([15, (iadd .u8 144 y11)], (0, y12))))))]) (
 .ite (ieq x.1 32) (
 .need ((0 : Nat) < 2) <|
 .need ((1 : Nat) < 2) <|
 .need (((0 : Nat) + 2 : Nat) ≤ 2) <|
 .need ((0 : Nat) < 1) <|
 .need (((0 : Nat) + 1 : Nat) ≤ 1) <|
 let y13 : (Int × (Int × Int)) := ((-1), (2, 0))
 .ret [(4, ((ByteArray.mk #[114]), ((ByteArray.mk #[114, 109]), (0, ([15, 182], y13)))))]) (
 .ite (ieq x.1 33) (
 .need ((0 : Nat) < 2) <|
 .need ((1 : Nat) < 2) <|
 .need (((0 : Nat) + 2 : Nat) ≤ 2) <|
 .need ((0 : Nat) < 1) <|
 .need (((0 : Nat) + 1 : Nat) ≤ 1) <|
 let y14 : (Int × (Int × Int)) := ((-1), (2, 0))
 .ret [(4, ((ByteArray.mk #[114]), ((ByteArray.mk #[114, 109]), (0, ([15, 190], y14)))))]) (
 .ite (ieq x.1 35) (
 .need ((0 : Nat) < 2) <|
 .need ((1 : Nat) < 2) <|
 .need ((0 : Nat) < 2) <|
 .need ((1 : Nat) < 2) <|
 .need (((0 : Nat) + 2 : Nat) ≤ 2) <|
 .need (((0 : Nat) + 2 : Nat) ≤ 2) <|
 .need ((0 : Nat) < 2) <|
 .need ((1 : Nat) < 2) <|
 .need (((0 : Nat) + 2 : Nat) ≤ 2) <|
 let y15 : (Int × (Int × Int)) := ((-1), (2, 0))
 let y16 : (Int × Int) := (1, 0)
 .ret [(32, ((ByteArray.mk #[120]), ((ByteArray.mk #[120, 109]), (243, ([15, 111], y15))))), (32, ((ByteArray.mk #[109]), ((ByteArray.mk #[120]), (243, ([15, 127], ((-1), y16))))))]) (
 .ite (ieq x.1 36) (
 .need ((0 : Nat) < 2) <|
 .need ((1 : Nat) < 2) <|
 .need (((0 : Nat) + 2 : Nat) ≤ 2) <|
 .need ((0 : Nat) < 1) <|
 .need (((0 : Nat) + 1 : Nat) ≤ 1) <|
 let y17 : (Int × (Int × Int)) := ((-1), (2, 0))
 .ret [(32, ((ByteArray.mk #[120]), ((ByteArray.mk #[120, 109]), (102, ([15, 239], y17)))))]) (
 .ite (ieq x.1 37) (
 .need ((0 : Nat) < 3) <|
 .need ((1 : Nat) < 3) <|
 .need ((2 : Nat) < 3) <|
 .need (((0 : Nat) + 3 : Nat) ≤ 3) <|
 .need ((0 : Nat) < 1) <|
 .need (((0 : Nat) + 1 : Nat) ≤ 1) <|
 let y18 : (Int × (Int × Int)) := ((-1), (2, 0))
 .ret [(32, ((ByteArray.mk #[120]), ((ByteArray.mk #[120, 109]), (102, ([15, 56, 220], y18)))))]) (
 .ite (ieq x.1 38) (
 .need ((0 : Nat) < 3) <|
 .need ((1 : Nat) < 3) <|
 .need ((2 : Nat) < 3) <|
 .need (((0 : Nat) + 3 : Nat) ≤ 3) <|
 .need ((0 : Nat) < 1) <|
 .need (((0 : Nat) + 1 : Nat) ≤ 1) <|
 let y19 : (Int × (Int × Int)) := ((-1), (2, 0))
 .ret [(32, ((ByteArray.mk #[120]), ((ByteArray.mk #[120, 109]), (102, ([15, 56, 221], y19)))))]) (
 .ite (ieq x.1 39) (
 .need ((0 : Nat) < 3) <|
 .need ((1 : Nat) < 3) <|
 .need ((2 : Nat) < 3) <|
 .need (((0 : Nat) + 3 : Nat) ≤ 3) <|
 .need ((0 : Nat) < 1) <|
 .need (((0 : Nat) + 1 : Nat) ≤ 1) <|
 .ret [(32, ((ByteArray.mk #[120]), ((ByteArray.mk #[120, 109]), (102, ([15, 58, 68], ((-1), (2, 1)))))))]) (
 .need (pre103 x.1) <|
 .ret (fn103 x.1)))))))))))))))))
noncomputable def fn75 (x : (Int × Int)) : (List Drow) := (tree75 x).val
noncomputable def tree24 (x : Int) : Tr DO :=
  .need ((16 : Int) ≠ 0) <|
  .need ((16 : Int) ≠ 0) <|
  .ret (1, ((iadd .i64 (irem .i64 (iadd .i64 (irem .i64 x 16) 16) 16) 16), ((-1), ((-1), (0, (0, (false, 0)))))))
noncomputable def fn24 (x : Int) : DO := (tree24 x).val
end Go.Eng.RE
end
section
/- Functions of this program, written out. -/
namespace Go.Eng.RE
open Go.Proofs Go.Eng
noncomputable def tree43 (x : DO) : Tr DO :=
  .ite ((ieq x.1 1) == true) (
 let y0 := x.2.1
 .ite (ile 16 y0) (
 .ret (x.1, ((isub .i64 y0 16), x.2.2))) (
 .ret x)) (
 .ret x)
noncomputable def fn43 (x : DO) : DO := (tree43 x).val
end Go.Eng.RE
end
section
/- Functions of this program, written out. -/
namespace Go.Eng.RE
open Go.Proofs Go.Eng
inductive J47 where
 | h0 (v7 : Int) (v12 : Int)
 | h1 (v7 : Int) (v8 : Bool) (v9 : Int) (v12 : Int)
 | h2 (v7 : Int) (v8 : Bool) (v9 : Int) (v10 : Int) (v12 : Int)
 | h3 (v7 : Int) (v8 : Bool) (v9 : Int) (v10 : Int) (v12 : Int)
noncomputable def tree47 (x : (List Int)) : Tr (J47 ⊕ (Dhead × Bool)) :=
  .ite ((ilt 0 (x.length : Int)) == true) (
 .need ((0 : Int) ≤ 0) <|
 .need (0 < (x.length : Int)) <|
 let y0 : Int := (rdc (.int .u8) x 0)
 .ite ((ieq y0 102) == false) (
 .need ((0 : Int) ≤ 0) <|
 .need (0 < (x.length : Int)) <|
 .ite (ieq y0 243) (
 .need ((0 : Int) ≤ 0) <|
 .need (0 < (x.length : Int)) <|
 .ret (.inl (.h0 y0 1))) (
 .ret (.inl (.h0 0 0)))) (
 .need ((0 : Int) ≤ 0) <|
 .need (0 < (x.length : Int)) <|
 .ret (.inl (.h0 y0 1)))) (
 .ret (.inl (.h0 0 0)))
noncomputable def step47 (x : (List Int)) : J47 → Tr (J47 ⊕ (Dhead × Bool))
 | .h0 v7 v12 =>
 .ite ((ilt v12 (x.length : Int)) == true) (
 .need ((0 : Int) ≤ v12) <|
 .need (v12 < (x.length : Int)) <|
 let y0 : Int := (rdc (.int .u8) x (v12).toNat)
 .ite (ieq (iand .u8 y0 240) 64) (
 .need ((0 : Int) ≤ v12) <|
 .need (v12 < (x.length : Int)) <|
 .ret (.inl (.h1 v7 true (iand .u8 y0 15) (iadd .i64 v12 1)))) (
 .ret (.inl (.h1 v7 false 0 v12)))) (
 .ret (.inl (.h1 v7 false 0 v12)))
 | .h1 v7 v8 v9 v12 =>
 .ite ((ilt v12 (x.length : Int)) == true) (
 .need ((0 : Int) ≤ v12) <|
 .need (v12 < (x.length : Int)) <|
 .ite (ieq (rdc (.int .u8) x (v12).toNat) 15) (
 let y0 : Int := (iadd .i64 v12 1)
 let y1 := ((ilt y0 (x.length : Int)) == true)
 .ite y1 (
 .need ((0 : Int) ≤ y0) <|
 .need (y0 < (x.length : Int)) <|
 let y2 : Int := (rdc (.int .u8) x (y0).toNat)
 .ite (ieq y2 56) (
 let y3 : Int := (iadd .i64 y0 1)
 .ret (.inl (.h2 v7 v8 v9 2 y3))) (
 .ite y1 (
 .need ((0 : Int) ≤ y0) <|
 .need (y0 < (x.length : Int)) <|
 let y4 := (ieq y2 58)
 .ite y4 (
 let y5 : Int := (iadd .i64 y0 1)
 .ret (.inl (.h2 v7 v8 v9 3 y5))) (
 .ret (.inl (.h2 v7 v8 v9 1 y0)))) (
 .ret (.inl (.h2 v7 v8 v9 1 y0))))) (
 .ite y1 (
 .need ((0 : Int) ≤ y0) <|
 .need (y0 < (x.length : Int)) <|
 let y6 : Int := (rdc (.int .u8) x (y0).toNat)
 let y7 := (ieq y6 58)
 .ite y7 (
 let y8 : Int := (iadd .i64 y0 1)
 .ret (.inl (.h2 v7 v8 v9 3 y8))) (
 .ret (.inl (.h2 v7 v8 v9 1 y0)))) (
 .ret (.inl (.h2 v7 v8 v9 1 y0))))) (
 .ret (.inl (.h2 v7 v8 v9 0 v12)))) (
 .ret (.inl (.h2 v7 v8 v9 0 v12)))
 | .h2 v7 v8 v9 v10 v12 =>
 .ite (ile (x.length : Int) v12) (
 .ret (.inr ((v7, (v8, (v9, (v10, (0, v12))))), false))) (
 .ret (.inl (.h3 v7 v8 v9 v10 v12)))
 | .h3 v7 v8 v9 v10 v12 =>
 .need ((0 : Int) ≤ v12) <|
 .need (v12 < (x.length : Int)) <|
 .ret (.inr ((v7, (v8, (v9, (v10, ((rdc (.int .u8) x (v12).toNat), (iadd .i64 v12 1)))))), true))
noncomputable def cREF8_0 : AObj := .cell true 77 (.agg [1, 1, 1, 1, 1, 1] [(.int .u8 0), (.bool false), (.int .u8 0), (.int .u8 0), (.int .u8 0), (.int .i64 0)])
noncomputable def head47 (x : (List Int)) : J47 → Head
 | .h0 v7 v12 =>
 { fr := { id := 47, kind := .top, T := [(.fsl (.int .u8) x), .any, (.ptr 0 []), .any, (.ptr 1 [])] ++ List.replicate 128 .any, items := [.code (subc [1, 1, 1, 0, 0] (bodyOf Tryd.f47)), .code (subc [1, 1, 1, 0, 1] (bodyOf Tryd.f47)), .code (subc [1, 1, 1, 1] (bodyOf Tryd.f47))], D := [], base := 0 },
   stk := [],
   H := [cREF8_0, .cell true 77 (.agg [1, 1, 1, 1, 1, 1] [(.int .u8 v7), (.bool false), (.int .u8 0), (.int .u8 0), (.int .u8 0), (.int .i64 v12)])] }
 | .h1 v7 v8 v9 v12 =>
 { fr := { id := 47, kind := .top, T := [(.fsl (.int .u8) x), .any, (.ptr 0 []), .any, (.ptr 1 [])] ++ List.replicate 128 .any, items := [.code (subc [1, 1, 1, 1, 0, 0] (bodyOf Tryd.f47)), .code (subc [1, 1, 1, 1, 0, 1] (bodyOf Tryd.f47)), .code (subc [1, 1, 1, 1, 1] (bodyOf Tryd.f47))], D := [], base := 0 },
   stk := [],
   H := [cREF8_0, .cell true 77 (.agg [1, 1, 1, 1, 1, 1] [(.int .u8 v7), (.bool v8), (.int .u8 v9), (.int .u8 0), (.int .u8 0), (.int .i64 v12)])] }
 | .h2 v7 v8 v9 v10 v12 =>
 { fr := { id := 47, kind := .top, T := [(.fsl (.int .u8) x), .any, (.ptr 0 []), .any, (.ptr 1 [])] ++ List.replicate 128 .any, items := [.code (subc [1, 1, 1, 1, 1, 0, 0] (bodyOf Tryd.f47)), .code (subc [1, 1, 1, 1, 1, 0, 1] (bodyOf Tryd.f47)), .code (subc [1, 1, 1, 1, 1, 1] (bodyOf Tryd.f47))], D := [], base := 0 },
   stk := [],
   H := [cREF8_0, .cell true 77 (.agg [1, 1, 1, 1, 1, 1] [(.int .u8 v7), (.bool v8), (.int .u8 v9), (.int .u8 v10), (.int .u8 0), (.int .i64 v12)])] }
 | .h3 v7 v8 v9 v10 v12 =>
 { fr := { id := 47, kind := .top, T := [(.fsl (.int .u8) x), .any, (.ptr 0 []), .any, (.ptr 1 [])] ++ List.replicate 128 .any, items := [.code (subc [1, 1, 1, 1, 1, 1, 0] (bodyOf Tryd.f47)), .code (subc [1, 1, 1, 1, 1, 1, 1] (bodyOf Tryd.f47))], D := [], base := 0 },
   stk := [],
   H := [cREF8_0, .cell true 77 (.agg [1, 1, 1, 1, 1, 1] [(.int .u8 v7), (.bool v8), (.int .u8 v9), (.int .u8 v10), (.int .u8 0), (.int .i64 v12)])] }
noncomputable def stop47 : FuncId → Nat → Nat → Option Cut
  | 47, 11, 0 => some { tmps := [0, 2, 4], loops := [], dead := [], stk := [] }
  | 47, 19, 0 => some { tmps := [0, 2, 4], loops := [], dead := [], stk := [] }
  | 47, 37, 0 => some { tmps := [0, 2, 4], loops := [], dead := [], stk := [] }
  | 47, 41, 0 => some { tmps := [0, 2, 4], loops := [], dead := [], stk := [] }
  | _, _, _ => none
noncomputable def fn47 (x : (List Int)) : (Dhead × Bool) := endVal (TC.dflt (.st Chead (.st1 .bool))) (step47 x) (tree47 x)
def pre47 (x : (List Int)) : Prop := ∃ r, Ends (step47 x) r (tree47 x)
noncomputable def spec47 : Spec := { dom := (.st1 (.slice (.int .u8))), cod := (.st Chead (.st1 .bool)), n := 2, pre := pre47, f := fn47 }
noncomputable def need47 : FuncId → Option Spec
  | _ => none
theorem need47_ok : ∀ f sp, need47 f = some sp → SpecOk env0 f sp := by
  intro f sp h
  unfold need47 at h
  split at h
  · cases h
section
variable (W : Cfg) (Q : (Dhead × Bool) → Prop) (x : List Int)
theorem run47 : run (env need47 (fun _ _ => none)) stop47 (finS spec47 Q) W 100000 (startFr 47 Tryd.f47 (bodyOf Tryd.f47) (argsOf (.st1 (.slice (.int .u8))) x)) [] [] = (tree47 x).wp (kont W Q (head47 x)) := by kernel_rfl
theorem run47h0 (v7 v12 : Int) : run (env need47 (fun _ _ => none)) stop47 (finS spec47 Q) W 100000 (head47 x (.h0 v7 v12)).fr.enter (head47 x (.h0 v7 v12)).stk (head47 x (.h0 v7 v12)).H = (step47 x (.h0 v7 v12)).wp (kont W Q (head47 x)) := by kernel_rfl
theorem run47h1 (v7 : Int) (v8 : Bool) (v9 v12 : Int) : run (env need47 (fun _ _ => none)) stop47 (finS spec47 Q) W 100000 (head47 x (.h1 v7 v8 v9 v12)).fr.enter (head47 x (.h1 v7 v8 v9 v12)).stk (head47 x (.h1 v7 v8 v9 v12)).H = (step47 x (.h1 v7 v8 v9 v12)).wp (kont W Q (head47 x)) := by kernel_rfl
theorem run47h2 (v7 : Int) (v8 : Bool) (v9 v10 v12 : Int) : run (env need47 (fun _ _ => none)) stop47 (finS spec47 Q) W 100000 (head47 x (.h2 v7 v8 v9 v10 v12)).fr.enter (head47 x (.h2 v7 v8 v9 v10 v12)).stk (head47 x (.h2 v7 v8 v9 v10 v12)).H = (step47 x (.h2 v7 v8 v9 v10 v12)).wp (kont W Q (head47 x)) := by kernel_rfl
theorem run47h3 (v7 : Int) (v8 : Bool) (v9 v10 v12 : Int) : run (env need47 (fun _ _ => none)) stop47 (finS spec47 Q) W 100000 (head47 x (.h3 v7 v8 v9 v10 v12)).fr.enter (head47 x (.h3 v7 v8 v9 v10 v12)).stk (head47 x (.h3 v7 v8 v9 v10 v12)).H = (step47 x (.h3 v7 v8 v9 v10 v12)).wp (kont W Q (head47 x)) := by kernel_rfl
end
theorem runs47 (W : Cfg) (Q : (Dhead × Bool) → Prop) (x : List Int) : ∀ j : J47, run (env need47 (fun _ _ => none)) stop47 (finS spec47 Q) W 100000 (head47 x j).fr.enter (head47 x j).stk (head47 x j).H = (step47 x j).wp (kont W Q (head47 x))
 | .h0 v7 v12 => run47h0 W Q x v7 v12
 | .h1 v7 v8 v9 v12 => run47h1 W Q x v7 v8 v9 v12
 | .h2 v7 v8 v9 v10 v12 => run47h2 W Q x v7 v8 v9 v10 v12
 | .h3 v7 v8 v9 v10 v12 => run47h3 W Q x v7 v8 v9 v10 v12
theorem ok47 : SpecOk env0 47 spec47 := SpecOk.env rfl (fun _ _ h => h) (spec_of_trees (E := (env need47 (fun _ _ => none))) (sp := spec47) (valid _ _) (fun f sp h => SpecOk.env rfl (fun _ _ h => h) (need47_ok f sp h)) (fn := Tryd.f47) (c := (bodyOf Tryd.f47)) (by kernel_rfl) (by kernel_rfl) tree47 step47 head47 run47 runs47 (fun _ h => endVal_ends h))
noncomputable def tree63 (_x : Unit) : Tr (List DF) :=
  .need ((0 : Nat) < 8) <|
  .need ((1 : Nat) < 8) <|
  .need ((2 : Nat) < 8) <|
  .need ((3 : Nat) < 8) <|
  .need ((4 : Nat) < 8) <|
  .need ((5 : Nat) < 8) <|
  .need ((6 : Nat) < 8) <|
  .need ((7 : Nat) < 8) <|
  .need ((0 : Int) ≤ 0) <|
  .need ((0 : Int) < 8) <|
  .need ((0 : Nat) < 8) <|
  .need ((0 : Nat) < 1) <|
  .need (((0 : Nat) + 1 : Nat) ≤ 1) <|
  .need (((1 : Nat) * 56 : Nat) ≤ 2 ^ 40) <|
  .need ((1 : Nat) ≤ 2 ^ 40) <|
  .need ((0 : Int) ≤ 0) <|
  .need ((0 : Int) < 8) <|
  .need ((0 : Nat) < 8) <|
  .need ((0 : Nat) < 1) <|
  .need (((0 : Nat) + 1 : Nat) ≤ 1) <|
  .need ((1 : Nat) = 1) <|
  .need (((2 : Nat) * 56 : Nat) ≤ 2 ^ 40) <|
  .need ((2 : Nat) ≤ 2 ^ 40) <|
  .need ((0 : Int) ≤ 1) <|
  .need ((1 : Int) < 8) <|
  .need ((1 : Nat) < 8) <|
  .need ((0 : Nat) < 1) <|
  .need (((0 : Nat) + 1 : Nat) ≤ 1) <|
  .need ((2 : Nat) = 2) <|
  .need (((3 : Nat) * 56 : Nat) ≤ 2 ^ 40) <|
  .need ((3 : Nat) ≤ 2 ^ 40) <|
  .need ((0 : Int) ≤ 1) <|
  .need ((1 : Int) < 8) <|
  .need ((1 : Nat) < 8) <|
  .need ((0 : Nat) < 1) <|
  .need (((0 : Nat) + 1 : Nat) ≤ 1) <|
  .need ((3 : Nat) = 3) <|
  .need (((4 : Nat) * 56 : Nat) ≤ 2 ^ 40) <|
  .need ((4 : Nat) ≤ 2 ^ 40) <|
  .need ((0 : Int) ≤ 2) <|
  .need ((2 : Int) < 8) <|
  .need ((2 : Nat) < 8) <|
  .need ((0 : Nat) < 1) <|
  .need (((0 : Nat) + 1 : Nat) ≤ 1) <|
  .need ((4 : Nat) = 4) <|
  .need (((5 : Nat) * 56 : Nat) ≤ 2 ^ 40) <|
  .need ((5 : Nat) ≤ 2 ^ 40) <|
  .need ((0 : Int) ≤ 2) <|
  .need ((2 : Int) < 8) <|
  .need ((2 : Nat) < 8) <|
  .need ((0 : Nat) < 1) <|
  .need (((0 : Nat) + 1 : Nat) ≤ 1) <|
  .need ((5 : Nat) = 5) <|
  .need (((6 : Nat) * 56 : Nat) ≤ 2 ^ 40) <|
  .need ((6 : Nat) ≤ 2 ^ 40) <|
  .need ((0 : Int) ≤ 3) <|
  .need ((3 : Int) < 8) <|
  .need ((3 : Nat) < 8) <|
  .need ((0 : Nat) < 1) <|
  .need (((0 : Nat) + 1 : Nat) ≤ 1) <|
  .need ((6 : Nat) = 6) <|
  .need (((7 : Nat) * 56 : Nat) ≤ 2 ^ 40) <|
  .need ((7 : Nat) ≤ 2 ^ 40) <|
  .need ((0 : Int) ≤ 3) <|
  .need ((3 : Int) < 8) <|
  .need ((3 : Nat) < 8) <|
  .need ((0 : Nat) < 1) <|
  .need (((0 : Nat) + 1 : Nat) ≤ 1) <|
  .need ((7 : Nat) = 7) <|
  .need (((8 : Nat) * 56 : Nat) ≤ 2 ^ 40) <|
  .need ((8 : Nat) ≤ 2 ^ 40) <|
  .need ((0 : Int) ≤ 4) <|
  .need ((4 : Int) < 8) <|
  .need ((4 : Nat) < 8) <|
  .need ((0 : Nat) < 1) <|
  .need (((0 : Nat) + 1 : Nat) ≤ 1) <|
  .need ((8 : Nat) = 8) <|
  .need (((9 : Nat) * 56 : Nat) ≤ 2 ^ 40) <|
  .need ((9 : Nat) ≤ 2 ^ 40) <|
  .need ((0 : Int) ≤ 4) <|
  .need ((4 : Int) < 8) <|
  .need ((4 : Nat) < 8) <|
  .need ((0 : Nat) < 1) <|
  .need (((0 : Nat) + 1 : Nat) ≤ 1) <|
  .need ((9 : Nat) = 9) <|
  .need (((10 : Nat) * 56 : Nat) ≤ 2 ^ 40) <|
  .need ((10 : Nat) ≤ 2 ^ 40) <|
  .need ((0 : Int) ≤ 5) <|
  .need ((5 : Int) < 8) <|
  .need ((5 : Nat) < 8) <|
  .need ((0 : Nat) < 1) <|
  .need (((0 : Nat) + 1 : Nat) ≤ 1) <|
  .need ((10 : Nat) = 10) <|
  .need (((11 : Nat) * 56 : Nat) ≤ 2 ^ 40) <|
  .need ((11 : Nat) ≤ 2 ^ 40) <|
  .need ((0 : Int) ≤ 5) <|
  .need ((5 : Int) < 8) <|
  .need ((5 : Nat) < 8) <|
  .need ((0 : Nat) < 1) <|
  .need (((0 : Nat) + 1 : Nat) ≤ 1) <|
  .need ((11 : Nat) = 11) <|
  .need (((12 : Nat) * 56 : Nat) ≤ 2 ^ 40) <|
  .need ((12 : Nat) ≤ 2 ^ 40) <|
  .need ((0 : Int) ≤ 6) <|
  .need ((6 : Int) < 8) <|
  .need ((6 : Nat) < 8) <|
  .need ((0 : Nat) < 1) <|
  .need (((0 : Nat) + 1 : Nat) ≤ 1) <|
  .need ((12 : Nat) = 12) <|
  .need (((13 : Nat) * 56 : Nat) ≤ 2 ^ 40) <|
  .need ((13 : Nat) ≤ 2 ^ 40) <|
  .need ((0 : Int) ≤ 6) <|
  .need ((6 : Int) < 8) <|
  .need ((6 : Nat) < 8) <|
  .need ((0 : Nat) < 1) <|
  .need (((0 : Nat) + 1 : Nat) ≤ 1) <|
  .need ((13 : Nat) = 13) <|
  .need (((14 : Nat) * 56 : Nat) ≤ 2 ^ 40) <|
  .need ((14 : Nat) ≤ 2 ^ 40) <|
  .need ((0 : Int) ≤ 7) <|
  .need ((7 : Int) < 8) <|
  .need ((7 : Nat) < 8) <|
  .need ((0 : Nat) < 1) <|
  .need (((0 : Nat) + 1 : Nat) ≤ 1) <|
  .need ((14 : Nat) = 14) <|
  .need (((15 : Nat) * 56 : Nat) ≤ 2 ^ 40) <|
  .need ((15 : Nat) ≤ 2 ^ 40) <|
  .need ((0 : Int) ≤ 7) <|
  .need ((7 : Int) < 8) <|
  .need ((7 : Nat) < 8) <|
  .need ((0 : Nat) < 1) <|
  .need (((0 : Nat) + 1 : Nat) ≤ 1) <|
  .need ((15 : Nat) = 15) <|
  .need (((16 : Nat) * 56 : Nat) ≤ 2 ^ 40) <|
  .need ((16 : Nat) ≤ 2 ^ 40) <|
  .need ((0 : Int) ≤ 0) <|
  .need ((0 : Int) < 8) <|
  .need ((0 : Nat) < 8) <|
  .need ((0 : Nat) < 1) <|
  .need (((0 : Nat) + 1 : Nat) ≤ 1) <|
  .need ((16 : Nat) = 16) <|
  .need (((17 : Nat) * 56 : Nat) ≤ 2 ^ 40) <|
  .need ((17 : Nat) ≤ 2 ^ 40) <|
  .need ((0 : Int) ≤ 0) <|
  .need ((0 : Int) < 8) <|
  .need ((0 : Nat) < 8) <|
  .need ((0 : Nat) < 1) <|
  .need (((0 : Nat) + 1 : Nat) ≤ 1) <|
  .need ((17 : Nat) = 17) <|
  .need (((18 : Nat) * 56 : Nat) ≤ 2 ^ 40) <|
  .need ((18 : Nat) ≤ 2 ^ 40) <|
  .need ((0 : Int) ≤ 1) <|
  .need ((1 : Int) < 8) <|
  .need ((1 : Nat) < 8) <|
  .need ((0 : Nat) < 1) <|
  .need (((0 : Nat) + 1 : Nat) ≤ 1) <|
  .need ((18 : Nat) = 18) <|
  .need (((19 : Nat) * 56 : Nat) ≤ 2 ^ 40) <|
  .need ((19 : Nat) ≤ 2 ^ 40) <|
  .need ((0 : Int) ≤ 1) <|
  .need ((1 : Int) < 8) <|
  .need ((1 : Nat) < 8) <|
  .need ((0 : Nat) < 1) <|
  .need (((0 : Nat) + 1 : Nat) ≤ 1) <|
  .need ((19 : Nat) = 19) <|
  .need (((20 : Nat) * 56 : Nat) ≤ 2 ^ 40) <|
  .need ((20 : Nat) ≤ 2 ^ 40) <|
  .need ((0 : Int) ≤ 2) <|
  .need ((2 : Int) < 8) <|
  .need ((2 : Nat) < 8) <|
  .need ((0 : Nat) < 1) <|
  .need (((0 : Nat) + 1 : Nat) ≤ 1) <|
  .need ((20 : Nat) = 20) <|
  .need (((21 : Nat) * 56 : Nat) ≤ 2 ^ 40) <|
  .need ((21 : Nat) ≤ 2 ^ 40) <|
  .need ((0 : Int) ≤ 2) <|
  .need ((2 : Int) < 8) <|
  .need ((2 : Nat) < 8) <|
  .need ((0 : Nat) < 1) <|
  .need (((0 : Nat) + 1 : Nat) ≤ 1) <|
  .need ((21 : Nat) = 21) <|
  .need (((22 : Nat) * 56 : Nat) ≤ 2 ^ 40) <|
  .need ((22 : Nat) ≤ 2 ^ 40) <|
  .need ((0 : Int) ≤ 3) <|
  .need ((3 : Int) < 8) <|
  .need ((3 : Nat) < 8) <|
  .need ((0 : Nat) < 1) <|
  .need (((0 : Nat) + 1 : Nat) ≤ 1) <|
  .need ((22 : Nat) = 22) <|
  .need (((23 : Nat) * 56 : Nat) ≤ 2 ^ 40) <|
  .need ((23 : Nat) ≤ 2 ^ 40) <|
  .need ((0 : Int) ≤ 3) <|
  .need ((3 : Int) < 8) <|
  .need ((3 : Nat) < 8) <|
  .need ((0 : Nat) < 1) <|
  .need (((0 : Nat) + 1 : Nat) ≤ 1) <|
  .need ((23 : Nat) = 23) <|
  .need (((24 : Nat) * 56 : Nat) ≤ 2 ^ 40) <|
  .need ((24 : Nat) ≤ 2 ^ 40) <|
  .need ((0 : Int) ≤ 4) <|
  .need ((4 : Int) < 8) <|
  .need ((4 : Nat) < 8) <|
  .need ((0 : Nat) < 1) <|
  .need (((0 : Nat) + 1 : Nat) ≤ 1) <|
  .need ((24 : Nat) = 24) <|
  .need (((25 : Nat) * 56 : Nat) ≤ 2 ^ 40) <|
  .need ((25 : Nat) ≤ 2 ^ 40) <|
  .need ((0 : Int) ≤ 4) <|
  .need ((4 : Int) < 8) <|
  .need ((4 : Nat) < 8) <|
  .need ((0 : Nat) < 1) <|
  .need (((0 : Nat) + 1 : Nat) ≤ 1) <|
  .need ((25 : Nat) = 25) <|
  .need (((26 : Nat) * 56 : Nat) ≤ 2 ^ 40) <|
  .need ((26 : Nat) ≤ 2 ^ 40) <|
  .need ((0 : Int) ≤ 5) <|
  .need ((5 : Int) < 8) <|
  .need ((5 : Nat) < 8) <|
  .need ((0 : Nat) < 1) <|
  .need (((0 : Nat) + 1 : Nat) ≤ 1) <|
  .need ((26 : Nat) = 26) <|
  .need (((27 : Nat) * 56 : Nat) ≤ 2 ^ 40) <|
  .need ((27 : Nat) ≤ 2 ^ 40) <|
  .need ((0 : Int) ≤ 5) <|
  .need ((5 : Int) < 8) <|
  .need ((5 : Nat) < 8) <|
  .need ((0 : Nat) < 1) <|
  .need (((0 : Nat) + 1 : Nat) ≤ 1) <|
  .need ((27 : Nat) = 27) <|
  .need (((28 : Nat) * 56 : Nat) ≤ 2 ^ 40) <|
  .need ((28 : Nat) ≤ 2 ^ 40) <|
  .need ((0 : Int) ≤ 6) <|
  .need ((6 : Int) < 8) <|
  .need ((6 : Nat) < 8) <|
  .need ((0 : Nat) < 1) <|
  .need (((0 : Nat) + 1 : Nat) ≤ 1) <|
  .need ((28 : Nat) = 28) <|
  .need (((29 : Nat) * 56 : Nat) ≤ 2 ^ 40) <|
  .need ((29 : Nat) ≤ 2 ^ 40) <|
  .need ((0 : Int) ≤ 6) <|
  .need ((6 : Int) < 8) <|
  .need ((6 : Nat) < 8) <|
  .need ((0 : Nat) < 1) <|
  .need (((0 : Nat) + 1 : Nat) ≤ 1) <|
  .need ((29 : Nat) = 29) <|
  .need (((30 : Nat) * 56 : Nat) ≤ 2 ^ 40) <|
  .need ((30 : Nat) ≤ 2 ^ 40) <|
  .need ((0 : Int) ≤ 7) <|
  .need ((7 : Int) < 8) <|
  .need ((7 : Nat) < 8) <|
  .need ((0 : Nat) < 1) <|
  .need (((0 : Nat) + 1 : Nat) ≤ 1) <|
  .need ((30 : Nat) = 30) <|
  .need (((31 : Nat) * 56 : Nat) ≤ 2 ^ 40) <|
  .need ((31 : Nat) ≤ 2 ^ 40) <|
  .need ((0 : Int) ≤ 7) <|
  .need ((7 : Int) < 8) <|
  .need ((7 : Nat) < 8) <|
  .need ((0 : Nat) < 1) <|
  .need (((0 : Nat) + 1 : Nat) ≤ 1) <|
  .need ((31 : Nat) = 31) <|
  .need (((32 : Nat) * 56 : Nat) ≤ 2 ^ 40) <|
  .need ((32 : Nat) ≤ 2 ^ 40) <|
  .need ((0 : Nat) < 1) <|
  .need (((0 : Nat) + 1 : Nat) ≤ 1) <|
  .need ((32 : Nat) = 32) <|
  .need (((33 : Nat) * 56 : Nat) ≤ 2 ^ 40) <|
  .need ((33 : Nat) ≤ 2 ^ 40) <|
  .need ((0 : Nat) < 1) <|
  .need (((0 : Nat) + 1 : Nat) ≤ 1) <|
  .need ((33 : Nat) = 33) <|
  .need (((34 : Nat) * 56 : Nat) ≤ 2 ^ 40) <|
  .need ((34 : Nat) ≤ 2 ^ 40) <|
  .need ((0 : Nat) < 1) <|
  .need (((0 : Nat) + 1 : Nat) ≤ 1) <|
  .need ((34 : Nat) = 34) <|
  .need (((35 : Nat) * 56 : Nat) ≤ 2 ^ 40) <|
  .need ((35 : Nat) ≤ 2 ^ 40) <|
  .need ((0 : Nat) < 1) <|
  .need (((0 : Nat) + 1 : Nat) ≤ 1) <|
  .need ((35 : Nat) = 35) <|
  .need (((36 : Nat) * 56 : Nat) ≤ 2 ^ 40) <|
  .need ((36 : Nat) ≤ 2 ^ 40) <|
  .need ((0 : Nat) < 1) <|
  .need (((0 : Nat) + 1 : Nat) ≤ 1) <|
  .need ((36 : Nat) = 36) <|
  .need (((37 : Nat) * 56 : Nat) ≤ 2 ^ 40) <|
  .need ((37 : Nat) ≤ 2 ^ 40) <|
  .need ((0 : Nat) < 1) <|
  .need (((0 : Nat) + 1 : Nat) ≤ 1) <|
  .need ((37 : Nat) = 37) <|
  .need (((38 : Nat) * 56 : Nat) ≤ 2 ^ 40) <|
  .need ((38 : Nat) ≤ 2 ^ 40) <|
  .need ((0 : Nat) < 1) <|
  .need (((0 : Nat) + 1 : Nat) ≤ 1) <|
  .need ((38 : Nat) = 38) <|
  .need (((39 : Nat) * 56 : Nat) ≤ 2 ^ 40) <|
  .need ((39 : Nat) ≤ 2 ^ 40) <|
  .need ((0 : Nat) < 1) <|
  .need (((0 : Nat) + 1 : Nat) ≤ 1) <|
  .need ((39 : Nat) = 39) <|
  .need (((40 : Nat) * 56 : Nat) ≤ 2 ^ 40) <|
  .need ((40 : Nat) ≤ 2 ^ 40) <|
  .need ((0 : Nat) < 5) <|
  .need ((1 : Nat) < 5) <|
  .need ((2 : Nat) < 5) <|
  .need ((3 : Nat) < 5) <|
  .need ((4 : Nat) < 5) <|
  .need ((0 : Nat) < 5) <|
  .need ((1 : Nat) < 5) <|
  .need ((2 : Nat) < 5) <|
  .need ((3 : Nat) < 5) <|
  .need ((4 : Nat) < 5) <|
  .need ((0 : Int) ≤ 0) <|
  .need ((0 : Int) < 5) <|
  .need ((0 : Nat) < 5) <|
  .need ((0 : Int) ≤ 0) <|
  .need ((0 : Int) < 5) <|
  .need ((0 : Nat) < 5) <|
  .need ((0 : Nat) < 1) <|
  .need (((0 : Nat) + 1 : Nat) ≤ 1) <|
  .need ((40 : Nat) = 40) <|
  .need (((41 : Nat) * 56 : Nat) ≤ 2 ^ 40) <|
  .need ((41 : Nat) ≤ 2 ^ 40) <|
  .need ((0 : Int) ≤ 0) <|
  .need ((0 : Int) < 5) <|
  .need ((0 : Nat) < 5) <|
  .need ((0 : Int) ≤ 0) <|
  .need ((0 : Int) < 5) <|
  .need ((0 : Nat) < 5) <|
  .need ((0 : Nat) < 1) <|
  .need (((0 : Nat) + 1 : Nat) ≤ 1) <|
  .need ((41 : Nat) = 41) <|
  .need (((42 : Nat) * 56 : Nat) ≤ 2 ^ 40) <|
  .need ((42 : Nat) ≤ 2 ^ 40) <|
  .need ((0 : Int) ≤ 1) <|
  .need ((1 : Int) < 5) <|
  .need ((1 : Nat) < 5) <|
  .need ((0 : Int) ≤ 1) <|
  .need ((1 : Int) < 5) <|
  .need ((1 : Nat) < 5) <|
  .need ((0 : Nat) < 1) <|
  .need (((0 : Nat) + 1 : Nat) ≤ 1) <|
  .need ((42 : Nat) = 42) <|
  .need (((43 : Nat) * 56 : Nat) ≤ 2 ^ 40) <|
  .need ((43 : Nat) ≤ 2 ^ 40) <|
  .need ((0 : Int) ≤ 1) <|
  .need ((1 : Int) < 5) <|
  .need ((1 : Nat) < 5) <|
  .need ((0 : Int) ≤ 1) <|
  .need ((1 : Int) < 5) <|
  .need ((1 : Nat) < 5) <|
  .need ((0 : Nat) < 1) <|
  .need (((0 : Nat) + 1 : Nat) ≤ 1) <|
  .need ((43 : Nat) = 43) <|
  .need (((44 : Nat) * 56 : Nat) ≤ 2 ^ 40) <|
  .need ((44 : Nat) ≤ 2 ^ 40) <|
  .need ((0 : Int) ≤ 2) <|
  .need ((2 : Int) < 5) <|
  .need ((2 : Nat) < 5) <|
  .need ((0 : Int) ≤ 2) <|
  .need ((2 : Int) < 5) <|
  .need ((2 : Nat) < 5) <|
  .need ((0 : Nat) < 1) <|
  .need (((0 : Nat) + 1 : Nat) ≤ 1) <|
  .need ((44 : Nat) = 44) <|
  .need (((45 : Nat) * 56 : Nat) ≤ 2 ^ 40) <|
  .need ((45 : Nat) ≤ 2 ^ 40) <|
  .need ((0 : Int) ≤ 2) <|
  .need ((2 : Int) < 5) <|
  .need ((2 : Nat) < 5) <|
  .need ((0 : Int) ≤ 2) <|
  .need ((2 : Int) < 5) <|
  .need ((2 : Nat) < 5) <|
  .need ((0 : Nat) < 1) <|
  .need (((0 : Nat) + 1 : Nat) ≤ 1) <|
  .need ((45 : Nat) = 45) <|
  .need (((46 : Nat) * 56 : Nat) ≤ 2 ^ 40) <|
  .need ((46 : Nat) ≤ 2 ^ 40) <|
  .need ((0 : Int) ≤ 3) <|
  .need ((3 : Int) < 5) <|
  .need ((3 : Nat) < 5) <|
  .need ((0 : Int) ≤ 3) <|
  .need ((3 : Int) < 5) <|
  .need ((3 : Nat) < 5) <|
  .need ((0 : Nat) < 1) <|
  .need (((0 : Nat) + 1 : Nat) ≤ 1) <|
  .need ((46 : Nat) = 46) <|
  .need (((47 : Nat) * 56 : Nat) ≤ 2 ^ 40) <|
  .need ((47 : Nat) ≤ 2 ^ 40) <|
  .need ((0 : Int) ≤ 3) <|
  .need ((3 : Int) < 5) <|
  .need ((3 : Nat) < 5) <|
  .need ((0 : Int) ≤ 3) <|
  .need ((3 : Int) < 5) <|
  .need ((3 : Nat) < 5) <|
  .need ((0 : Nat) < 1) <|
  .need (((0 : Nat) + 1 : Nat) ≤ 1) <|
  .need ((47 : Nat) = 47) <|
  .need (((48 : Nat) * 56 : Nat) ≤ 2 ^ 40) <|
  .need ((48 : Nat) ≤ 2 ^ 40) <|
  .need ((0 : Int) ≤ 4) <|
  .need ((4 : Int) < 5) <|
  .need ((4 : Nat) < 5) <|
  .need ((0 : Int) ≤ 4) <|
  .need ((4 : Int) < 5) <|
  .need ((4 : Nat) < 5) <|
  .need ((0 : Nat) < 1) <|
  .need (((0 : Nat) + 1 : Nat) ≤ 1) <|
  .need ((48 : Nat) = 48) <|
  .need (((49 : Nat) * 56 : Nat) ≤ 2 ^ 40) <|
  .need ((49 : Nat) ≤ 2 ^ 40) <|
  .need ((0 : Int) ≤ 4) <|
  .need ((4 : Int) < 5) <|
  .need ((4 : Nat) < 5) <|
  .need ((0 : Int) ≤ 4) <|
  .need ((4 : Int) < 5) <|
  .need ((4 : Nat) < 5) <|
  .need ((0 : Nat) < 1) <|
  .need (((0 : Nat) + 1 : Nat) ≤ 1) <|
  .need ((49 : Nat) = 49) <|
  .need (((50 : Nat) * 56 : Nat) ≤ 2 ^ 40) <|
  .need ((50 : Nat) ≤ 2 ^ 40) <|
  .need ((0 : Nat) < 1) <|
  .need (((0 : Nat) + 1 : Nat) ≤ 1) <|
  .need ((50 : Nat) = 50) <|
  .need (((51 : Nat) * 56 : Nat) ≤ 2 ^ 40) <|
  .need ((51 : Nat) ≤ 2 ^ 40) <|
  .need (((0 : Nat) + 51 : Nat) ≤ 51) <|
  let y0 : (Bool × (Bool × (Bool × Bool))) := (false, (false, (false, false)))
  let y1 : (Int × (Bool × (Bool × (Bool × Bool)))) := (0, y0)
  let y2 : (Int × (Int × (Int × (Int × (Bool × (Bool × (Bool × Bool))))))) := (0, (0, (1, y1)))
  let y3 : (Int × (Int × (Int × (Int × (Bool × (Bool × (Bool × Bool))))))) := (0, (0, (2, y1)))
  let y4 : (Int × (Int × (Int × (Int × (Bool × (Bool × (Bool × Bool))))))) := (0, (0, (4, (1, y0))))
  let y5 : (Int × (Int × (Int × (Int × (Bool × (Bool × (Bool × Bool))))))) := (0, (0, (4, (4, y0))))
  let y6 : (Int × (Int × (Int × (Int × (Bool × (Bool × (Bool × Bool))))))) := (0, (0, (3, y1)))
  let y7 : (Int × (Int × (Int × (Int × (Bool × (Bool × (Bool × Bool))))))) := (0, (0, (5, y1)))
  .ret [(0, (0, (1, (false, ((-1), (3, y2)))))), (0, (0, (3, (false, ((-1), (3, y3)))))), (0, (0, (9, (false, ((-1), (4, y2)))))), (0, (0, (11, (false, ((-1), (4, y3)))))), (0, (0, (17, (false, ((-1), (5, y2)))))), (0, (0, (19, (false, ((-1), (5, y3)))))), (0, (0, (25, (false, ((-1), (6, y2)))))), (0, (0, (27, (false, ((-1), (6, y3)))))), (0, (0, (33, (false, ((-1), (7, y2)))))), (0, (0, (35, (false, ((-1), (7, y3)))))), (0, (0, (41, (false, ((-1), (8, y2)))))), (0, (0, (43, (false, ((-1), (8, y3)))))), (0, (0, (49, (false, ((-1), (9, y2)))))), (0, (0, (51, (false, ((-1), (9, y3)))))), (0, (0, (57, (false, ((-1), (10, y2)))))), (0, (0, (59, (false, ((-1), (10, y3)))))), (0, (0, (131, (false, (0, (3, y4)))))), (0, (0, (129, (false, (0, (3, y5)))))), (0, (0, (131, (false, (1, (4, y4)))))), (0, (0, (129, (false, (1, (4, y5)))))), (0, (0, (131, (false, (2, (5, y4)))))), (0, (0, (129, (false, (2, (5, y5)))))), (0, (0, (131, (false, (3, (6, y4)))))), (0, (0, (129, (false, (3, (6, y5)))))), (0, (0, (131, (false, (4, (7, y4)))))), (0, (0, (129, (false, (4, (7, y5)))))), (0, (0, (131, (false, (5, (8, y4)))))), (0, (0, (129, (false, (5, (8, y5)))))), (0, (0, (131, (false, (6, (9, y4)))))), (0, (0, (129, (false, (6, (9, y5)))))), (0, (0, (131, (false, (7, (10, y4)))))), (0, (0, (129, (false, (7, (10, y5)))))), (0, (0, (133, (false, ((-1), (11, y2)))))), (0, (0, (247, (false, (0, (11, y5)))))), (0, (0, (255, (false, (0, (12, y6)))))), (0, (0, (255, (false, (1, (13, y6)))))), (0, (0, (247, (false, (2, (15, y6)))))), (0, (0, (247, (false, (3, (14, y6)))))), (0, (0, (247, (false, (4, (22, y6)))))), (0, (0, (247, (false, (6, (23, y6)))))), (0, (0, (193, (false, (0, (19, y4)))))), (0, (0, (211, (false, (0, (19, y7)))))), (0, (0, (193, (false, (1, (20, y4)))))), (0, (0, (211, (false, (1, (20, y7)))))), (0, (0, (193, (false, (4, (16, y4)))))), (0, (0, (211, (false, (4, (16, y7)))))), (0, (0, (193, (false, (5, (17, y4)))))), (0, (0, (211, (false, (5, (17, y7)))))), (0, (0, (193, (false, (7, (18, y4)))))), (0, (0, (211, (false, (7, (18, y7)))))), (0, (1, (175, (false, ((-1), (21, y3))))))]
noncomputable def fn63 (x : Unit) : (List DF) := (tree63 x).val
def pre63 (x : Unit) : Prop := (tree63 x).ok
noncomputable def spec63 : Spec := { dom := .unit, cod := (.slice CForm), n := 1, pre := pre63, f := fn63 }
noncomputable def need63 : FuncId → Option Spec
  | _ => none
theorem need63_ok : ∀ f sp, need63 f = some sp → SpecOk env0 f sp := by
  intro f sp h
  unfold need63 at h
  split at h
  · cases h
section
variable (W : Cfg) (Q : (List DF) → Prop) (x : Unit)
theorem run63 : run (env need63 (fun _ _ => none)) (fun _ _ _ => none) (finS spec63 Q) W 100000 (startFr 63 Tryd.f63 (bodyOf Tryd.f63) (argsOf .unit x)) [] [] = (tree63 x).wp Q := by kernel_rfl
end
theorem ok63 : SpecOk env0 63 spec63 := SpecOk.env rfl (fun _ _ h => h) (spec_of_tree (E := (env need63 (fun _ _ => none))) (sp := spec63) (valid _ _) (fun f sp h => SpecOk.env rfl (fun _ _ h => h) (need63_ok f sp h)) (fn := Tryd.f63) (c := (bodyOf Tryd.f63)) (by kernel_rfl) (by kernel_rfl) tree63 run63 (fun _ h => Tr.gives_val h))
end Go.Eng.RE
end
section
/- Functions of this program, written out. -/
namespace Go.Eng.RE
open Go.Proofs Go.Eng
noncomputable def tree64 (_x : Unit) : Tr (List DF) :=
  .need ((0 : Nat) < 7) <|
  .need ((1 : Nat) < 7) <|
  .need ((2 : Nat) < 7) <|
  .need ((3 : Nat) < 7) <|
  .need ((4 : Nat) < 7) <|
  .need ((5 : Nat) < 7) <|
  .need ((6 : Nat) < 7) <|
  .need ((0 : Nat) < 1) <|
  .need (((0 : Nat) + 1 : Nat) ≤ 1) <|
  .need ((0 + 7 : Nat) ≤ 7) <|
  .need (((8 : Nat) * 56 : Nat) ≤ 2 ^ 40) <|
  .need ((8 : Nat) ≤ 2 ^ 40) <|
  .need ((0 : Nat) < 1) <|
  .need (((0 : Nat) + 1 : Nat) ≤ 1) <|
  .need ((8 : Nat) = 8) <|
  .need (((9 : Nat) * 56 : Nat) ≤ 2 ^ 40) <|
  .need ((9 : Nat) ≤ 2 ^ 40) <|
  .need ((0 : Nat) < 1) <|
  .need (((0 : Nat) + 1 : Nat) ≤ 1) <|
  .need ((9 : Nat) = 9) <|
  .need (((10 : Nat) * 56 : Nat) ≤ 2 ^ 40) <|
  .need ((10 : Nat) ≤ 2 ^ 40) <|
  .need ((0 : Nat) < 1) <|
  .need (((0 : Nat) + 1 : Nat) ≤ 1) <|
  .need ((10 : Nat) = 10) <|
  .need (((11 : Nat) * 56 : Nat) ≤ 2 ^ 40) <|
  .need ((11 : Nat) ≤ 2 ^ 40) <|
  .need ((0 : Nat) < 1) <|
  .need (((0 : Nat) + 1 : Nat) ≤ 1) <|
  .need ((11 : Nat) = 11) <|
  .need (((12 : Nat) * 56 : Nat) ≤ 2 ^ 40) <|
  .need ((12 : Nat) ≤ 2 ^ 40) <|
  .need ((0 : Nat) < 1) <|
  .need (((0 : Nat) + 1 : Nat) ≤ 1) <|
  .need ((12 : Nat) = 12) <|
  .need (((13 : Nat) * 56 : Nat) ≤ 2 ^ 40) <|
  .need ((13 : Nat) ≤ 2 ^ 40) <|
  .need ((0 : Nat) < 1) <|
  .need (((0 : Nat) + 1 : Nat) ≤ 1) <|
  .need ((13 : Nat) = 13) <|
  .need (((14 : Nat) * 56 : Nat) ≤ 2 ^ 40) <|
  .need ((14 : Nat) ≤ 2 ^ 40) <|
  .need ((0 : Nat) < 1) <|
  .need (((0 : Nat) + 1 : Nat) ≤ 1) <|
  .need ((14 : Nat) = 14) <|
  .need (((15 : Nat) * 56 : Nat) ≤ 2 ^ 40) <|
  .need ((15 : Nat) ≤ 2 ^ 40) <|
  .need ((0 : Nat) < 1) <|
  .need (((0 : Nat) + 1 : Nat) ≤ 1) <|
  .need ((15 : Nat) = 15) <|
  .need (((16 : Nat) * 56 : Nat) ≤ 2 ^ 40) <|
  .need ((16 : Nat) ≤ 2 ^ 40) <|
  .need ((0 : Nat) < 1) <|
  .need (((0 : Nat) + 1 : Nat) ≤ 1) <|
  .need ((16 : Nat) = 16) <|
  .need (((17 : Nat) * 56 : Nat) ≤ 2 ^ 40) <|
  .need ((17 : Nat) ≤ 2 ^ 40) <|
  .need ((0 : Nat) < 1) <|
  .need (((0 : Nat) + 1 : Nat) ≤ 1) <|
  .need ((17 : Nat) = 17) <|
  .need (((18 : Nat) * 56 : Nat) ≤ 2 ^ 40) <|
  .need ((18 : Nat) ≤ 2 ^ 40) <|
  .need ((0 : Nat) < 1) <|
  .need (((0 : Nat) + 1 : Nat) ≤ 1) <|
  .need ((18 : Nat) = 18) <|
  .need (((19 : Nat) * 56 : Nat) ≤ 2 ^ 40) <|
  .need ((19 : Nat) ≤ 2 ^ 40) <|
  .need ((0 : Nat) < 1) <|
  .need (((0 : Nat) + 1 : Nat) ≤ 1) <|
  .need ((19 : Nat) = 19) <|
  .need (((20 : Nat) * 56 : Nat) ≤ 2 ^ 40) <|
  .need ((20 : Nat) ≤ 2 ^ 40) <|
  .need ((0 : Nat) < 1) <|
  .need (((0 : Nat) + 1 : Nat) ≤ 1) <|
  .need ((20 : Nat) = 20) <|
  .need (((21 : Nat) * 56 : Nat) ≤ 2 ^ 40) <|
  .need ((21 : Nat) ≤ 2 ^ 40) <|
  .need ((0 : Nat) < 1) <|
  .need (((0 : Nat) + 1 : Nat) ≤ 1) <|
  .need ((21 : Nat) = 21) <|
  .need (((22 : Nat) * 56 : Nat) ≤ 2 ^ 40) <|
  .need ((22 : Nat) ≤ 2 ^ 40) <|
  .need ((0 : Nat) < 1) <|
  .need (((0 : Nat) + 1 : Nat) ≤ 1) <|
  .need ((22 : Nat) = 22) <|
  .need (((23 : Nat) * 56 : Nat) ≤ 2 ^ 40) <|
  .need ((23 : Nat) ≤ 2 ^ 40) <|
  .need ((0 : Nat) < 1) <|
  .need (((0 : Nat) + 1 : Nat) ≤ 1) <|
  .need ((23 : Nat) = 23) <|
  .need (((24 : Nat) * 56 : Nat) ≤ 2 ^ 40) <|
  .need ((24 : Nat) ≤ 2 ^ 40) <|
  .need ((0 : Nat) < 1) <|
  .need (((0 : Nat) + 1 : Nat) ≤ 1) <|
  .need ((24 : Nat) = 24) <|
  .need (((25 : Nat) * 56 : Nat) ≤ 2 ^ 40) <|
  .need ((25 : Nat) ≤ 2 ^ 40) <|
  .need ((0 : Nat) < 1) <|
  .need (((0 : Nat) + 1 : Nat) ≤ 1) <|
  .need ((25 : Nat) = 25) <|
  .need (((26 : Nat) * 56 : Nat) ≤ 2 ^ 40) <|
  .need ((26 : Nat) ≤ 2 ^ 40) <|
  .need ((0 : Nat) < 1) <|
  .need (((0 : Nat) + 1 : Nat) ≤ 1) <|
  .need ((26 : Nat) = 26) <|
  .need (((27 : Nat) * 56 : Nat) ≤ 2 ^ 40) <|
  .need ((27 : Nat) ≤ 2 ^ 40) <|
  .need ((0 : Nat) < 1) <|
  .need (((0 : Nat) + 1 : Nat) ≤ 1) <|
  .need ((27 : Nat) = 27) <|
  .need (((28 : Nat) * 56 : Nat) ≤ 2 ^ 40) <|
  .need ((28 : Nat) ≤ 2 ^ 40) <|
  .need ((0 : Nat) < 1) <|
  .need (((0 : Nat) + 1 : Nat) ≤ 1) <|
  .need ((28 : Nat) = 28) <|
  .need (((29 : Nat) * 56 : Nat) ≤ 2 ^ 40) <|
  .need ((29 : Nat) ≤ 2 ^ 40) <|
  .need ((0 : Nat) < 1) <|
  .need (((0 : Nat) + 1 : Nat) ≤ 1) <|
  .need ((29 : Nat) = 29) <|
  .need (((30 : Nat) * 56 : Nat) ≤ 2 ^ 40) <|
  .need ((30 : Nat) ≤ 2 ^ 40) <|
  .need ((0 : Nat) < 1) <|
  .need (((0 : Nat) + 1 : Nat) ≤ 1) <|
  .need ((30 : Nat) = 30) <|
  .need (((31 : Nat) * 56 : Nat) ≤ 2 ^ 40) <|
  .need ((31 : Nat) ≤ 2 ^ 40) <|
  .need ((0 : Nat) < 1) <|
  .need (((0 : Nat) + 1 : Nat) ≤ 1) <|
  .need ((31 : Nat) = 31) <|
  .need (((32 : Nat) * 56 : Nat) ≤ 2 ^ 40) <|
  .need ((32 : Nat) ≤ 2 ^ 40) <|
  .need ((0 : Nat) < 1) <|
  .need (((0 : Nat) + 1 : Nat) ≤ 1) <|
  .need ((32 : Nat) = 32) <|
  .need (((33 : Nat) * 56 : Nat) ≤ 2 ^ 40) <|
  .need ((33 : Nat) ≤ 2 ^ 40) <|
  .need ((0 : Nat) < 1) <|
  .need (((0 : Nat) + 1 : Nat) ≤ 1) <|
  .need ((33 : Nat) = 33) <|
  .need (((34 : Nat) * 56 : Nat) ≤ 2 ^ 40) <|
  .need ((34 : Nat) ≤ 2 ^ 40) <|
  .need ((0 : Nat) < 1) <|
  .need (((0 : Nat) + 1 : Nat) ≤ 1) <|
  .need ((34 : Nat) = 34) <|
  .need (((35 : Nat) * 56 : Nat) ≤ 2 ^ 40) <|
  .need ((35 : Nat) ≤ 2 ^ 40) <|
  .need ((0 : Nat) < 1) <|
  .need (((0 : Nat) + 1 : Nat) ≤ 1) <|
  .need ((35 : Nat) = 35) <|
  .need (((36 : Nat) * 56 : Nat) ≤ 2 ^ 40) <|
  .need ((36 : Nat) ≤ 2 ^ 40) <|
  .need ((0 : Nat) < 1) <|
  .need (((0 : Nat) + 1 : Nat) ≤ 1) <|
  .need ((36 : Nat) = 36) <|
  .need (((37 : Nat) * 56 : Nat) ≤ 2 ^ 40) <|
  .need ((37 : Nat) ≤ 2 ^ 40) <|
  .need ((0 : Nat) < 1) <|
  .need (((0 : Nat) + 1 : Nat) ≤ 1) <|
  .need ((37 : Nat) = 37) <|
  .need (((38 : Nat) * 56 : Nat) ≤ 2 ^ 40) <|
  .need ((38 : Nat) ≤ 2 ^ 40) <|
  .need ((0 : Nat) < 1) <|
  .need (((0 : Nat) + 1 : Nat) ≤ 1) <|
  .need ((38 : Nat) = 38) <|
  .need (((39 : Nat) * 56 : Nat) ≤ 2 ^ 40) <|
  .need ((39 : Nat) ≤ 2 ^ 40) <|
  .need ((0 : Nat) < 1) <|
  .need (((0 : Nat) + 1 : Nat) ≤ 1) <|
  .need ((39 : Nat) = 39) <|
  .need (((40 : Nat) * 56 : Nat) ≤ 2 ^ 40) <|
  .need ((40 : Nat) ≤ 2 ^ 40) <|
  .need ((0 : Nat) < 1) <|
  .need (((0 : Nat) + 1 : Nat) ≤ 1) <|
  .need ((40 : Nat) = 40) <|
  .need (((41 : Nat) * 56 : Nat) ≤ 2 ^ 40) <|
  .need ((41 : Nat) ≤ 2 ^ 40) <|
  .need ((0 : Nat) < 1) <|
  .need (((0 : Nat) + 1 : Nat) ≤ 1) <|
  .need ((41 : Nat) = 41) <|
  .need (((42 : Nat) * 56 : Nat) ≤ 2 ^ 40) <|
  .need ((42 : Nat) ≤ 2 ^ 40) <|
  .need ((0 : Nat) < 1) <|
  .need (((0 : Nat) + 1 : Nat) ≤ 1) <|
  .need ((42 : Nat) = 42) <|
  .need (((43 : Nat) * 56 : Nat) ≤ 2 ^ 40) <|
  .need ((43 : Nat) ≤ 2 ^ 40) <|
  .need ((0 : Nat) < 1) <|
  .need (((0 : Nat) + 1 : Nat) ≤ 1) <|
  .need ((43 : Nat) = 43) <|
  .need (((44 : Nat) * 56 : Nat) ≤ 2 ^ 40) <|
  .need ((44 : Nat) ≤ 2 ^ 40) <|
  .need ((0 : Nat) < 1) <|
  .need (((0 : Nat) + 1 : Nat) ≤ 1) <|
  .need ((44 : Nat) = 44) <|
  .need (((45 : Nat) * 56 : Nat) ≤ 2 ^ 40) <|
  .need ((45 : Nat) ≤ 2 ^ 40) <|
  .need ((0 : Nat) < 1) <|
  .need (((0 : Nat) + 1 : Nat) ≤ 1) <|
  .need ((45 : Nat) = 45) <|
  .need (((46 : Nat) * 56 : Nat) ≤ 2 ^ 40) <|
  .need ((46 : Nat) ≤ 2 ^ 40) <|
  .need ((0 : Nat) < 1) <|
  .need (((0 : Nat) + 1 : Nat) ≤ 1) <|
  .need ((46 : Nat) = 46) <|
  .need (((47 : Nat) * 56 : Nat) ≤ 2 ^ 40) <|
  .need ((47 : Nat) ≤ 2 ^ 40) <|
  .need ((0 : Nat) < 1) <|
  .need (((0 : Nat) + 1 : Nat) ≤ 1) <|
  .need ((47 : Nat) = 47) <|
  .need (((48 : Nat) * 56 : Nat) ≤ 2 ^ 40) <|
  .need ((48 : Nat) ≤ 2 ^ 40) <|
  .need ((0 : Nat) < 1) <|
  .need (((0 : Nat) + 1 : Nat) ≤ 1) <|
  .need ((48 : Nat) = 48) <|
  .need (((49 : Nat) * 56 : Nat) ≤ 2 ^ 40) <|
  .need ((49 : Nat) ≤ 2 ^ 40) <|
  .need ((0 : Nat) < 1) <|
  .need (((0 : Nat) + 1 : Nat) ≤ 1) <|
  .need ((49 : Nat) = 49) <|
  .need (((50 : Nat) * 56 : Nat) ≤ 2 ^ 40) <|
  .need ((50 : Nat) ≤ 2 ^ 40) <|
  .need ((0 : Nat) < 1) <|
  .need (((0 : Nat) + 1 : Nat) ≤ 1) <|
  .need ((50 : Nat) = 50) <|
  .need (((51 : Nat) * 56 : Nat) ≤ 2 ^ 40) <|
  .need ((51 : Nat) ≤ 2 ^ 40) <|
  .need ((0 : Nat) < 1) <|
  .need (((0 : Nat) + 1 : Nat) ≤ 1) <|
  .need ((51 : Nat) = 51) <|
  .need (((52 : Nat) * 56 : Nat) ≤ 2 ^ 40) <|
  .need ((52 : Nat) ≤ 2 ^ 40) <|
  .need ((0 : Nat) < 1) <|
  .need (((0 : Nat) + 1 : Nat) ≤ 1) <|
  .need ((52 : Nat) = 52) <|
  .need (((53 : Nat) * 56 : Nat) ≤ 2 ^ 40) <|
  .need ((53 : Nat) ≤ 2 ^ 40) <|
  .need ((0 : Nat) < 1) <|
  .need (((0 : Nat) + 1 : Nat) ≤ 1) <|
  .need ((53 : Nat) = 53) <|
  .need (((54 : Nat) * 56 : Nat) ≤ 2 ^ 40) <|
  .need ((54 : Nat) ≤ 2 ^ 40) <|
  .need ((0 : Nat) < 1) <|
  .need (((0 : Nat) + 1 : Nat) ≤ 1) <|
  .need ((54 : Nat) = 54) <|
  .need (((55 : Nat) * 56 : Nat) ≤ 2 ^ 40) <|
  .need ((55 : Nat) ≤ 2 ^ 40) <|
  .need ((0 : Nat) < 1) <|
  .need (((0 : Nat) + 1 : Nat) ≤ 1) <|
  .need ((55 : Nat) = 55) <|
  .need (((56 : Nat) * 56 : Nat) ≤ 2 ^ 40) <|
  .need ((56 : Nat) ≤ 2 ^ 40) <|
  .need ((0 : Nat) < 1) <|
  .need (((0 : Nat) + 1 : Nat) ≤ 1) <|
  .need ((56 : Nat) = 56) <|
  .need (((57 : Nat) * 56 : Nat) ≤ 2 ^ 40) <|
  .need ((57 : Nat) ≤ 2 ^ 40) <|
  .need ((0 : Nat) < 1) <|
  .need (((0 : Nat) + 1 : Nat) ≤ 1) <|
  .need ((57 : Nat) = 57) <|
  .need (((58 : Nat) * 56 : Nat) ≤ 2 ^ 40) <|
  .need ((58 : Nat) ≤ 2 ^ 40) <|
  .need ((0 : Nat) < 1) <|
  .need (((0 : Nat) + 1 : Nat) ≤ 1) <|
  .need ((58 : Nat) = 58) <|
  .need (((59 : Nat) * 56 : Nat) ≤ 2 ^ 40) <|
  .need ((59 : Nat) ≤ 2 ^ 40) <|
  .need ((0 : Nat) < 1) <|
  .need (((0 : Nat) + 1 : Nat) ≤ 1) <|
  .need ((59 : Nat) = 59) <|
  .need (((60 : Nat) * 56 : Nat) ≤ 2 ^ 40) <|
  .need ((60 : Nat) ≤ 2 ^ 40) <|
  .need ((0 : Nat) < 1) <|
  .need (((0 : Nat) + 1 : Nat) ≤ 1) <|
  .need ((60 : Nat) = 60) <|
  .need (((61 : Nat) * 56 : Nat) ≤ 2 ^ 40) <|
  .need ((61 : Nat) ≤ 2 ^ 40) <|
  .need ((0 : Nat) < 1) <|
  .need (((0 : Nat) + 1 : Nat) ≤ 1) <|
  .need ((61 : Nat) = 61) <|
  .need (((62 : Nat) * 56 : Nat) ≤ 2 ^ 40) <|
  .need ((62 : Nat) ≤ 2 ^ 40) <|
  .need ((0 : Nat) < 1) <|
  .need (((0 : Nat) + 1 : Nat) ≤ 1) <|
  .need ((62 : Nat) = 62) <|
  .need (((63 : Nat) * 56 : Nat) ≤ 2 ^ 40) <|
  .need ((63 : Nat) ≤ 2 ^ 40) <|
  .need ((0 : Nat) < 1) <|
  .need (((0 : Nat) + 1 : Nat) ≤ 1) <|
  .need ((63 : Nat) = 63) <|
  .need (((64 : Nat) * 56 : Nat) ≤ 2 ^ 40) <|
  .need ((64 : Nat) ≤ 2 ^ 40) <|
  .need ((0 : Nat) < 1) <|
  .need (((0 : Nat) + 1 : Nat) ≤ 1) <|
  .need ((64 : Nat) = 64) <|
  .need (((65 : Nat) * 56 : Nat) ≤ 2 ^ 40) <|
  .need ((65 : Nat) ≤ 2 ^ 40) <|
  .need ((0 : Nat) < 1) <|
  .need (((0 : Nat) + 1 : Nat) ≤ 1) <|
  .need ((65 : Nat) = 65) <|
  .need (((66 : Nat) * 56 : Nat) ≤ 2 ^ 40) <|
  .need ((66 : Nat) ≤ 2 ^ 40) <|
  .need ((0 : Nat) < 1) <|
  .need (((0 : Nat) + 1 : Nat) ≤ 1) <|
  .need ((66 : Nat) = 66) <|
  .need (((67 : Nat) * 56 : Nat) ≤ 2 ^ 40) <|
  .need ((67 : Nat) ≤ 2 ^ 40) <|
  .need ((0 : Nat) < 1) <|
  .need (((0 : Nat) + 1 : Nat) ≤ 1) <|
  .need ((67 : Nat) = 67) <|
  .need (((68 : Nat) * 56 : Nat) ≤ 2 ^ 40) <|
  .need ((68 : Nat) ≤ 2 ^ 40) <|
  .need ((0 : Nat) < 1) <|
  .need (((0 : Nat) + 1 : Nat) ≤ 1) <|
  .need ((68 : Nat) = 68) <|
  .need (((69 : Nat) * 56 : Nat) ≤ 2 ^ 40) <|
  .need ((69 : Nat) ≤ 2 ^ 40) <|
  .need ((0 : Nat) < 1) <|
  .need (((0 : Nat) + 1 : Nat) ≤ 1) <|
  .need ((69 : Nat) = 69) <|
  .need (((70 : Nat) * 56 : Nat) ≤ 2 ^ 40) <|
  .need ((70 : Nat) ≤ 2 ^ 40) <|
  .need ((0 : Nat) < 1) <|
  .need (((0 : Nat) + 1 : Nat) ≤ 1) <|
  .need ((70 : Nat) = 70) <|
  .need (((71 : Nat) * 56 : Nat) ≤ 2 ^ 40) <|
  .need ((71 : Nat) ≤ 2 ^ 40) <|
  .need (((0 : Nat) + 71 : Nat) ≤ 71) <|
  let y0 : (Bool × (Bool × (Bool × Bool))) := (false, (false, (false, false)))
  let y1 : (Int × (Bool × (Bool × (Bool × Bool)))) := (0, y0)
  let y2 : (Int × (Int × (Int × (Int × (Bool × (Bool × (Bool × Bool))))))) := (0, (8, (6, y1)))
  let y3 : (Int × (Int × (Int × (Bool × (Bool × (Bool × Bool)))))) := (8, (8, (4, y0)))
  let y4 : (Int × (Int × (Int × (Int × (Bool × (Bool × (Bool × Bool))))))) := (0, y3)
  let y5 : (Int × (Int × (Int × (Bool × (Bool × (Bool × Bool)))))) := (8, (8, (1, y0)))
  let y6 : (Int × (Int × (Int × (Int × (Bool × (Bool × (Bool × Bool))))))) := (0, y5)
  let y7 : (Int × (Int × (Int × (Bool × (Bool × (Bool × Bool)))))) := (0, (2, y1))
  let y8 : (Int × (Int × (Int × (Bool × (Bool × (Bool × Bool)))))) := (1, (3, (0, (false, (false, (true, false))))))
  .ret [(0, (0, (80, (true, ((-1), (24, y2)))))), (0, (0, (88, (true, ((-1), (25, y2)))))), (0, (0, (232, (false, ((-1), (26, y4)))))), (0, (0, (195, (false, ((-1), (27, (0, (8, (0, y1))))))))), (0, (0, (233, (false, ((-1), (28, y4)))))), (0, (0, (235, (false, ((-1), (28, y6)))))), (0, (0, (255, (false, (4, (28, (0, (8, (3, y1))))))))), (0, (1, (128, (false, ((-1), (29, y4)))))), (0, (0, (112, (false, ((-1), (29, y6)))))), (0, (1, (129, (false, ((-1), (29, (1, y3))))))), (0, (0, (113, (false, ((-1), (29, (1, y5))))))), (0, (1, (130, (false, ((-1), (29, (2, y3))))))), (0, (0, (114, (false, ((-1), (29, (2, y5))))))), (0, (1, (131, (false, ((-1), (29, (3, y3))))))), (0, (0, (115, (false, ((-1), (29, (3, y5))))))), (0, (1, (132, (false, ((-1), (29, (4, y3))))))), (0, (0, (116, (false, ((-1), (29, (4, y5))))))), (0, (1, (133, (false, ((-1), (29, (5, y3))))))), (0, (0, (117, (false, ((-1), (29, (5, y5))))))), (0, (1, (134, (false, ((-1), (29, (6, y3))))))), (0, (0, (118, (false, ((-1), (29, (6, y5))))))), (0, (1, (135, (false, ((-1), (29, (7, y3))))))), (0, (0, (119, (false, ((-1), (29, (7, y5))))))), (0, (1, (136, (false, ((-1), (29, (8, y3))))))), (0, (0, (120, (false, ((-1), (29, (8, y5))))))), (0, (1, (137, (false, ((-1), (29, (9, y3))))))), (0, (0, (121, (false, ((-1), (29, (9, y5))))))), (0, (1, (138, (false, ((-1), (29, (10, y3))))))), (0, (0, (122, (false, ((-1), (29, (10, y5))))))), (0, (1, (139, (false, ((-1), (29, (11, y3))))))), (0, (0, (123, (false, ((-1), (29, (11, y5))))))), (0, (1, (140, (false, ((-1), (29, (12, y3))))))), (0, (0, (124, (false, ((-1), (29, (12, y5))))))), (0, (1, (141, (false, ((-1), (29, (13, y3))))))), (0, (0, (125, (false, ((-1), (29, (13, y5))))))), (0, (1, (142, (false, ((-1), (29, (14, y3))))))), (0, (0, (126, (false, ((-1), (29, (14, y5))))))), (0, (1, (143, (false, ((-1), (29, (15, y3))))))), (0, (0, (127, (false, ((-1), (29, (15, y5))))))), (0, (1, (64, (false, ((-1), (30, (0, y7))))))), (0, (1, (65, (false, ((-1), (30, (1, y7))))))), (0, (1, (66, (false, ((-1), (30, (2, y7))))))), (0, (1, (67, (false, ((-1), (30, (3, y7))))))), (0, (1, (68, (false, ((-1), (30, (4, y7))))))), (0, (1, (69, (false, ((-1), (30, (5, y7))))))), (0, (1, (70, (false, ((-1), (30, (6, y7))))))), (0, (1, (71, (false, ((-1), (30, (7, y7))))))), (0, (1, (72, (false, ((-1), (30, (8, y7))))))), (0, (1, (73, (false, ((-1), (30, (9, y7))))))), (0, (1, (74, (false, ((-1), (30, (10, y7))))))), (0, (1, (75, (false, ((-1), (30, (11, y7))))))), (0, (1, (76, (false, ((-1), (30, (12, y7))))))), (0, (1, (77, (false, ((-1), (30, (13, y7))))))), (0, (1, (78, (false, ((-1), (30, (14, y7))))))), (0, (1, (79, (false, ((-1), (30, (15, y7))))))), (0, (1, (144, (false, (0, (31, (0, y8))))))), (0, (1, (145, (false, (0, (31, (1, y8))))))), (0, (1, (146, (false, (0, (31, (2, y8))))))), (0, (1, (147, (false, (0, (31, (3, y8))))))), (0, (1, (148, (false, (0, (31, (4, y8))))))), (0, (1, (149, (false, (0, (31, (5, y8))))))), (0, (1, (150, (false, (0, (31, (6, y8))))))), (0, (1, (151, (false, (0, (31, (7, y8))))))), (0, (1, (152, (false, (0, (31, (8, y8))))))), (0, (1, (153, (false, (0, (31, (9, y8))))))), (0, (1, (154, (false, (0, (31, (10, y8))))))), (0, (1, (155, (false, (0, (31, (11, y8))))))), (0, (1, (156, (false, (0, (31, (12, y8))))))), (0, (1, (157, (false, (0, (31, (13, y8))))))), (0, (1, (158, (false, (0, (31, (14, y8))))))), (0, (1, (159, (false, (0, (31, (15, y8)))))))]
noncomputable def fn64 (x : Unit) : (List DF) := (tree64 x).val
def pre64 (x : Unit) : Prop := (tree64 x).ok
noncomputable def spec64 : Spec := { dom := .unit, cod := (.slice CForm), n := 1, pre := pre64, f := fn64 }
noncomputable def need64 : FuncId → Option Spec
  | _ => none
theorem need64_ok : ∀ f sp, need64 f = some sp → SpecOk env0 f sp := by
  intro f sp h
  unfold need64 at h
  split at h
  · cases h
section
variable (W : Cfg) (Q : (List DF) → Prop) (x : Unit)
theorem run64 : run (env need64 (fun _ _ => none)) (fun _ _ _ => none) (finS spec64 Q) W 100000 (startFr 64 Tryd.f64 (bodyOf Tryd.f64) (argsOf .unit x)) [] [] = (tree64 x).wp Q := by kernel_rfl
end
theorem ok64 : SpecOk env0 64 spec64 := SpecOk.env rfl (fun _ _ h => h) (spec_of_tree (E := (env need64 (fun _ _ => none))) (sp := spec64) (valid _ _) (fun f sp h => SpecOk.env rfl (fun _ _ h => h) (need64_ok f sp h)) (fn := Tryd.f64) (c := (bodyOf Tryd.f64)) (by kernel_rfl) (by kernel_rfl) tree64 run64 (fun _ h => Tr.gives_val h))
noncomputable def tree65 (_x : Unit) : Tr (List DF) :=
  .need ((0 : Nat) < 9) <|
  .need ((1 : Nat) < 9) <|
  .need ((2 : Nat) < 9) <|
  .need ((3 : Nat) < 9) <|
  .need ((4 : Nat) < 9) <|
  .need ((5 : Nat) < 9) <|
  .need ((6 : Nat) < 9) <|
  .need ((7 : Nat) < 9) <|
  .need ((8 : Nat) < 9) <|
  .need (((0 : Nat) + 9 : Nat) ≤ 9) <|
  let y0 : (Int × (Int × (Int × (Int × (Bool × (Bool × (Bool × Bool))))))) := (0, (0, (2, (0, (false, (false, (true, false)))))))
  let y1 : (Bool × Bool) := (false, false)
  let y2 : (Bool × (Bool × (Bool × Bool))) := (false, (true, y1))
  let y3 : (Int × (Bool × (Bool × (Bool × Bool)))) := (0, y2)
  let y4 : (Int × (Int × (Int × (Int × (Bool × (Bool × (Bool × Bool))))))) := (0, (16, (2, y3)))
  .ret [(0, (1, (182, (false, ((-1), (32, y0)))))), (0, (1, (190, (false, ((-1), (33, y0)))))), (0, (0, (144, (false, ((-1), (34, (0, (8, (0, (0, (false, (false, y1)))))))))))), (243, (1, (111, (false, ((-1), (35, y4)))))), (243, (1, (127, (false, ((-1), (35, (0, (16, (1, y3))))))))), (102, (1, (239, (false, ((-1), (36, y4)))))), (102, (2, (220, (false, ((-1), (37, y4)))))), (102, (2, (221, (false, ((-1), (38, y4)))))), (102, (3, (68, (false, ((-1), (39, (0, (16, (2, (1, y2))))))))))]
noncomputable def fn65 (x : Unit) : (List DF) := (tree65 x).val
def pre65 (x : Unit) : Prop := (tree65 x).ok
noncomputable def spec65 : Spec := { dom := .unit, cod := (.slice CForm), n := 1, pre := pre65, f := fn65 }
noncomputable def need65 : FuncId → Option Spec
  | _ => none
theorem need65_ok : ∀ f sp, need65 f = some sp → SpecOk env0 f sp := by
  intro f sp h
  unfold need65 at h
  split at h
  · cases h
section
variable (W : Cfg) (Q : (List DF) → Prop) (x : Unit)
theorem run65 : run (env need65 (fun _ _ => none)) (fun _ _ _ => none) (finS spec65 Q) W 100000 (startFr 65 Tryd.f65 (bodyOf Tryd.f65) (argsOf .unit x)) [] [] = (tree65 x).wp Q := by kernel_rfl
end
theorem ok65 : SpecOk env0 65 spec65 := SpecOk.env rfl (fun _ _ h => h) (spec_of_tree (E := (env need65 (fun _ _ => none))) (sp := spec65) (valid _ _) (fun f sp h => SpecOk.env rfl (fun _ _ h => h) (need65_ok f sp h)) (fn := Tryd.f65) (c := (bodyOf Tryd.f65)) (by kernel_rfl) (by kernel_rfl) tree65 run65 (fun _ h => Tr.gives_val h))
noncomputable def tree33 (_x : Unit) : Tr (List DF) :=
  .need ((0 : Nat) < 8) <|
  .need ((1 : Nat) < 8) <|
  .need ((2 : Nat) < 8) <|
  .need ((3 : Nat) < 8) <|
  .need ((4 : Nat) < 8) <|
  .need ((5 : Nat) < 8) <|
  .need ((6 : Nat) < 8) <|
  .need ((7 : Nat) < 8) <|
  .need (pre63 ()) <|
  let y0 : Nat := (fn63 ()).length
  let y1 : Nat := (8 + y0)
  .ite (ilt ((8 : Nat) : Int) ((y1 : Nat) : Int)) (
 .need ((0 + 8 : Nat) ≤ 8) <|
 .need (((y1 : Nat) * 56 : Nat) ≤ 2 ^ 40) <|
 .need ((y1 : Nat) ≤ 2 ^ 40) <|
 .need (pre64 ()) <|
 .need ((y1 : Nat) = y1) <|
 let y2 : Nat := (fn64 ()).length
 let y3 : Nat := (y1 + y2)
 .need (((y3 : Nat) * 56 : Nat) ≤ 2 ^ 40) <|
 .need ((y3 : Nat) ≤ 2 ^ 40) <|
 .need (pre65 ()) <|
 .need ((y3 : Nat) = y3) <|
 let y4 : Nat := (fn65 ()).length
 let y5 : Nat := (y3 + y4)
 .need (((y5 : Nat) * 56 : Nat) ≤ 2 ^ 40) <|
 .need ((y5 : Nat) ≤ 2 ^ 40) <|
 .need (((0 : Nat) + y5 : Nat) ≤ y5) <|
 let y6 : (Bool × (Bool × Bool)) := (false, (false, false))
 let y7 : (Bool × (Bool × (Bool × Bool))) := (false, y6)
 let y8 : (Int × (Bool × (Bool × (Bool × Bool)))) := (0, y7)
 let y9 : (Bool × (Bool × (Bool × Bool))) := (false, (false, (true, false)))
 let y10 : (Int × (Bool × (Bool × (Bool × Bool)))) := (0, y9)
 let y11 : (List DF) := [(0, (0, (137, (false, ((-1), (1, (0, (0, (1, y8))))))))), (0, (0, (139, (false, ((-1), (1, (0, (0, (2, y8))))))))), (0, (0, (199, (false, (0, (1, (0, (0, (4, (4, y7)))))))))), (0, (0, (184, (true, ((-1), (1, (0, (8, (7, (8, (true, y6))))))))))), (0, (0, (136, (false, ((-1), (1, (0, (1, (1, y10))))))))), (0, (0, (138, (false, ((-1), (1, (0, (1, (2, y10))))))))), (0, (0, (198, (false, (0, (1, (0, (1, (4, (1, y9)))))))))), (0, (0, (141, (false, ((-1), (2, (0, (0, (2, (0, (false, (false, (false, true)))))))))))))]
 .ret ((((y11 ++ (fn63 ())) ++ (fn64 ())) ++ (fn65 ())).take y5)) (
 .need ((0 + 8 + y0 : Nat) ≤ 8) <|
 .need (pre64 ()) <|
 let y12 : Nat := (fn64 ()).length
 let y13 : Nat := (y1 + y12)
 .ite (ilt ((8 : Nat) : Int) ((y13 : Nat) : Int)) (
 .need ((0 + y1 : Nat) ≤ 8) <|
 .need (((y13 : Nat) * 56 : Nat) ≤ 2 ^ 40) <|
 .need ((y13 : Nat) ≤ 2 ^ 40) <|
 .need (pre65 ()) <|
 .need ((y13 : Nat) = y13) <|
 let y14 : Nat := (fn65 ()).length
 let y15 : Nat := (y13 + y14)
 .need (((y15 : Nat) * 56 : Nat) ≤ 2 ^ 40) <|
 .need ((y15 : Nat) ≤ 2 ^ 40) <|
 .need (((0 : Nat) + y15 : Nat) ≤ y15) <|
 let y16 : (Bool × (Bool × Bool)) := (false, (false, false))
 let y17 : (Bool × (Bool × (Bool × Bool))) := (false, y16)
 let y18 : (Int × (Bool × (Bool × (Bool × Bool)))) := (0, y17)
 let y19 : (Bool × (Bool × (Bool × Bool))) := (false, (false, (true, false)))
 let y20 : (Int × (Bool × (Bool × (Bool × Bool)))) := (0, y19)
 let y21 : (List DF) := [(0, (0, (137, (false, ((-1), (1, (0, (0, (1, y18))))))))), (0, (0, (139, (false, ((-1), (1, (0, (0, (2, y18))))))))), (0, (0, (199, (false, (0, (1, (0, (0, (4, (4, y17)))))))))), (0, (0, (184, (true, ((-1), (1, (0, (8, (7, (8, (true, y16))))))))))), (0, (0, (136, (false, ((-1), (1, (0, (1, (1, y20))))))))), (0, (0, (138, (false, ((-1), (1, (0, (1, (2, y20))))))))), (0, (0, (198, (false, (0, (1, (0, (1, (4, (1, y19)))))))))), (0, (0, (141, (false, ((-1), (2, (0, (0, (2, (0, (false, (false, (false, true)))))))))))))]
 let y22 : (List DF) := (spliceL y21 8 (fn63 ()))
 .ret ((((y22.take y1) ++ (fn64 ())) ++ (fn65 ())).take y15)) (
 .need ((0 + y1 + y12 : Nat) ≤ 8) <|
 .need (pre65 ()) <|
 let y23 : Nat := (fn65 ()).length
 let y24 : Nat := (y13 + y23)
 .ite (ilt ((8 : Nat) : Int) ((y24 : Nat) : Int)) (
 .need ((0 + y13 : Nat) ≤ 8) <|
 .need (((y24 : Nat) * 56 : Nat) ≤ 2 ^ 40) <|
 .need ((y24 : Nat) ≤ 2 ^ 40) <|
 .need (((0 : Nat) + y24 : Nat) ≤ y24) <|
 let y25 : (Bool × (Bool × Bool)) := (false, (false, false))
 let y26 : (Bool × (Bool × (Bool × Bool))) := (false, y25)
 let y27 : (Int × (Bool × (Bool × (Bool × Bool)))) := (0, y26)
 let y28 : (Bool × (Bool × (Bool × Bool))) := (false, (false, (true, false)))
 let y29 : (Int × (Bool × (Bool × (Bool × Bool)))) := (0, y28)
 let y30 : (List DF) := [(0, (0, (137, (false, ((-1), (1, (0, (0, (1, y27))))))))), (0, (0, (139, (false, ((-1), (1, (0, (0, (2, y27))))))))), (0, (0, (199, (false, (0, (1, (0, (0, (4, (4, y26)))))))))), (0, (0, (184, (true, ((-1), (1, (0, (8, (7, (8, (true, y25))))))))))), (0, (0, (136, (false, ((-1), (1, (0, (1, (1, y29))))))))), (0, (0, (138, (false, ((-1), (1, (0, (1, (2, y29))))))))), (0, (0, (198, (false, (0, (1, (0, (1, (4, (1, y28)))))))))), (0, (0, (141, (false, ((-1), (2, (0, (0, (2, (0, (false, (false, (false, true)))))))))))))]
 let y31 : (List DF) := (spliceL y30 8 (fn63 ()))
 let y32 : (List DF) := (spliceL y31 (0 + y1) (fn64 ()))
 .ret (((y32.take y13) ++ (fn65 ())).take y24)) (
 .need ((0 + y13 + y23 : Nat) ≤ 8) <|
 .need (((0 : Nat) + y24 : Nat) ≤ 8) <|
 let y33 : (Bool × (Bool × Bool)) := (false, (false, false))
 let y34 : (Bool × (Bool × (Bool × Bool))) := (false, y33)
 let y35 : (Int × (Bool × (Bool × (Bool × Bool)))) := (0, y34)
 let y36 : (Bool × (Bool × (Bool × Bool))) := (false, (false, (true, false)))
 let y37 : (Int × (Bool × (Bool × (Bool × Bool)))) := (0, y36)
 let y38 : (List DF) := [(0, (0, (137, (false, ((-1), (1, (0, (0, (1, y35))))))))), (0, (0, (139, (false, ((-1), (1, (0, (0, (2, y35))))))))), (0, (0, (199, (false, (0, (1, (0, (0, (4, (4, y34)))))))))), (0, (0, (184, (true, ((-1), (1, (0, (8, (7, (8, (true, y33))))))))))), (0, (0, (136, (false, ((-1), (1, (0, (1, (1, y37))))))))), (0, (0, (138, (false, ((-1), (1, (0, (1, (2, y37))))))))), (0, (0, (198, (false, (0, (1, (0, (1, (4, (1, y36)))))))))), (0, (0, (141, (false, ((-1), (2, (0, (0, (2, (0, (false, (false, (false, true)))))))))))))]
 let y39 : (List DF) := (spliceL y38 8 (fn63 ()))
 let y40 : (List DF) := (spliceL y39 (0 + y1) (fn64 ()))
 .ret ((spliceL y40 (0 + y13) (fn65 ())).take y24))))
noncomputable def fn33 (x : Unit) : (List DF) := (tree33 x).val
def pre33 (x : Unit) : Prop := (tree33 x).ok
noncomputable def spec33 : Spec := { dom := .unit, cod := (.slice CForm), n := 1, pre := pre33, f := fn33 }
noncomputable def need33 : FuncId → Option Spec
  | 63 => some spec63
  | 64 => some spec64
  | 65 => some spec65
  | _ => none
theorem need33_ok : ∀ f sp, need33 f = some sp → SpecOk env0 f sp := by
  intro f sp h
  unfold need33 at h
  split at h
  · cases h; exact ok63
  · cases h; exact ok64
  · cases h; exact ok65
  · cases h
section
variable (W : Cfg) (Q : (List DF) → Prop) (x : Unit)
theorem run33 : run (env need33 (fun _ _ => none)) (fun _ _ _ => none) (finS spec33 Q) W 100000 (startFr 33 Tryd.f33 (bodyOf Tryd.f33) (argsOf .unit x)) [] [] = (tree33 x).wp Q := by kernel_rfl
end
theorem ok33 : SpecOk env0 33 spec33 := SpecOk.env rfl (fun _ _ h => h) (spec_of_tree (E := (env need33 (fun _ _ => none))) (sp := spec33) (valid _ _) (fun f sp h => SpecOk.env rfl (fun _ _ h => h) (need33_ok f sp h)) (fn := Tryd.f33) (c := (bodyOf Tryd.f33)) (by kernel_rfl) (by kernel_rfl) tree33 run33 (fun _ h => Tr.gives_val h))
noncomputable def tree104 (x : (DF × Int)) : Tr Bool :=
  let y0 : (Int × (Bool × (Int × (Int × (Int × (Int × (Int × (Int × (Bool × (Bool × (Bool × Bool))))))))))) := x.1.2.2
  .ite y0.2.1 (
 let y1 := y0.1
 .ret (ieq (iand .u8 x.2 248) (iand .u8 y1 248))) (
 let y2 := y0.1
 .ret (ieq x.2 y2))
noncomputable def fn104 (x : (DF × Int)) : Bool := (tree104 x).val
def pre104 (x : (DF × Int)) : Prop := (tree104 x).ok
noncomputable def spec104 : Spec := { dom := (.st CForm (.st1 (.int .u8))), cod := .bool, n := 1, pre := pre104, f := fn104 }
noncomputable def need104 : FuncId → Option Spec
  | _ => none
theorem need104_ok : ∀ f sp, need104 f = some sp → SpecOk env0 f sp := by
  intro f sp h
  unfold need104 at h
  split at h
  · cases h
section
variable (W : Cfg) (Q : Bool → Prop) (x : (DF × Int))
theorem run104 : run (env need104 (fun _ _ => none)) (fun _ _ _ => none) (finS spec104 Q) W 100000 (startFr 104 Tryd.f104 (bodyOf Tryd.f104) (argsOf (.st CForm (.st1 (.int .u8))) x)) [] [] = (tree104 x).wp Q := by kernel_rfl
end
theorem ok104 : SpecOk env0 104 spec104 := SpecOk.env rfl (fun _ _ h => h) (spec_of_tree (E := (env need104 (fun _ _ => none))) (sp := spec104) (valid _ _) (fun f sp h => SpecOk.env rfl (fun _ _ h => h) (need104_ok f sp h)) (fn := Tryd.f104) (c := (bodyOf Tryd.f104)) (by kernel_rfl) (by kernel_rfl) tree104 run104 (fun _ h => Tr.gives_val h))
noncomputable def tree81 (x : (DF × (Int × (Int × (Int × Int))))) : Tr Bool :=
  .ite ((ieq x.1.1 x.2.1) == true) (
 let y0 := x.1.2
 let y1 := x.2.2
 .ite ((ieq y0.1 y1.1) == true) (
 let y2 := y1.2
 let y3 : (DF × Int) := (x.1, y2.1)
 .need (pre104 y3) <|
 .ite ((fn104 y3) == true) (
 let y4 := y0.2.2.2.1
 .ite ((ieq y4 (-1)) == false) (
 .ret (ieq y4 y2.2)) (
 .ret true)) (
 .ret false)) (
 .ret false)) (
 .ret false)
noncomputable def fn81 (x : (DF × (Int × (Int × (Int × Int))))) : Bool := (tree81 x).val
def pre81 (x : (DF × (Int × (Int × (Int × Int))))) : Prop := (tree81 x).ok
noncomputable def spec81 : Spec := { dom := (.st CForm (.st (.int .u8) (.st (.int .u8) (.st (.int .u8) (.st1 (.int .i64)))))), cod := .bool, n := 1, pre := pre81, f := fn81 }
noncomputable def need81 : FuncId → Option Spec
  | 104 => some spec104
  | _ => none
theorem need81_ok : ∀ f sp, need81 f = some sp → SpecOk env0 f sp := by
  intro f sp h
  unfold need81 at h
  split at h
  · cases h; exact ok104
  · cases h
section
variable (W : Cfg) (Q : Bool → Prop) (x : (DF × (Int × (Int × (Int × Int)))))
theorem run81 : run (env need81 (fun _ _ => none)) (fun _ _ _ => none) (finS spec81 Q) W 100000 (startFr 81 Tryd.f81 (bodyOf Tryd.f81) (argsOf (.st CForm (.st (.int .u8) (.st (.int .u8) (.st (.int .u8) (.st1 (.int .i64)))))) x)) [] [] = (tree81 x).wp Q := by kernel_rfl
end
theorem ok81 : SpecOk env0 81 spec81 := SpecOk.env rfl (fun _ _ h => h) (spec_of_tree (E := (env need81 (fun _ _ => none))) (sp := spec81) (valid _ _) (fun f sp h => SpecOk.env rfl (fun _ _ h => h) (need81_ok f sp h)) (fn := Tryd.f81) (c := (bodyOf Tryd.f81)) (by kernel_rfl) (by kernel_rfl) tree81 run81 (fun _ h => Tr.gives_val h))
inductive J48 where
 | h0 (v4 : (List DF)) (v5 : Int)
noncomputable def tree48 (_x : (Int × (Int × (Int × Int)))) : Tr (J48 ⊕ (DF × Bool)) :=
  .need (pre33 ()) <|
  .ret (.inl (.h0 (fn33 ()) 0))
noncomputable def step48 (x : (Int × (Int × (Int × Int)))) : J48 → Tr (J48 ⊕ (DF × Bool))
 | .h0 v4 v5 =>
 .ite (ilt v5 (v4.length : Int)) (
 .need ((0 : Int) ≤ v5) <|
 .need (v5 < (v4.length : Int)) <|
 let y0 : DF := (rdc CForm v4 (v5).toNat)
 let y1 : (DF × (Int × (Int × (Int × Int)))) := (y0, x)
 .need (pre81 y1) <|
 .ite (fn81 y1) (
 .need ((0 : Int) ≤ v5) <|
 .need (v5 < (v4.length : Int)) <|
 .ret (.inr (y0, true))) (
 .ret (.inl (.h0 v4 (iadd .i64 v5 1))))) (
 .ret (.inr ((0, (0, (0, (false, (0, (0, (0, (0, (0, (0, (false, (false, (false, false))))))))))))), false)))
noncomputable def head48 (x : (Int × (Int × (Int × Int)))) : J48 → Head
 | .h0 v4 v5 =>
 { fr := { id := 48, kind := .top, T := [(.int .u8 x.1), (.int .u8 x.2.1), (.int .u8 x.2.2.1), (.int .i64 x.2.2.2)] ++ List.replicate 4 .any ++ [(.ptr 0 []), .any, (.fsl CForm v4), (.int .i64 v5)] ++ List.replicate 21 .any, items := [.lp (subc [1, 1, 0, 1, 0, 0] (bodyOf Tryd.f48)), .blk 0, .code (subc [1, 1, 1] (bodyOf Tryd.f48))], D := [], base := 0 },
   stk := [],
   H := [.cell true 51 (.agg [1, 1, 1, 1, 1, 1, 1, 1, 1, 1, 1, 1, 1, 1] [(.int .u8 0), (.int .u8 0), (.int .u8 0), (.bool false), (.int .i64 0), (.int .u8 0), (.int .u8 0), (.int .i64 0), (.int .u8 0), (.int .i64 0), (.bool false), (.bool false), (.bool false), (.bool false)])] }
noncomputable def stop48 : FuncId → Nat → Nat → Option Cut
  | 48, 0, 0 => some { tmps := [0, 1, 2, 3, 8, 10, 11], loops := [], dead := [], stk := [] }
  | _, _, _ => none
noncomputable def fn48 (x : (Int × (Int × (Int × Int)))) : (DF × Bool) := endVal (TC.dflt (.st CForm (.st1 .bool))) (step48 x) (tree48 x)
def pre48 (x : (Int × (Int × (Int × Int)))) : Prop := ∃ r, Ends (step48 x) r (tree48 x)
noncomputable def spec48 : Spec := { dom := (.st (.int .u8) (.st (.int .u8) (.st (.int .u8) (.st1 (.int .i64))))), cod := (.st CForm (.st1 .bool)), n := 2, pre := pre48, f := fn48 }
noncomputable def need48 : FuncId → Option Spec
  | 33 => some spec33
  | 81 => some spec81
  | _ => none
theorem need48_ok : ∀ f sp, need48 f = some sp → SpecOk env0 f sp := by
  intro f sp h
  unfold need48 at h
  split at h
  · cases h; exact ok33
  · cases h; exact ok81
  · cases h
section
variable (W : Cfg) (Q : (DF × Bool) → Prop) (x : (Int × (Int × (Int × Int))))
theorem run48 : run (env need48 (fun _ _ => none)) stop48 (finS spec48 Q) W 100000 (startFr 48 Tryd.f48 (bodyOf Tryd.f48) (argsOf (.st (.int .u8) (.st (.int .u8) (.st (.int .u8) (.st1 (.int .i64))))) x)) [] [] = (tree48 x).wp (kont W Q (head48 x)) := by kernel_rfl
theorem run48h0 (v4 : (List DF)) (v5 : Int) : run (env need48 (fun _ _ => none)) stop48 (finS spec48 Q) W 100000 (head48 x (.h0 v4 v5)).fr.enter (head48 x (.h0 v4 v5)).stk (head48 x (.h0 v4 v5)).H = (step48 x (.h0 v4 v5)).wp (kont W Q (head48 x)) := by kernel_rfl
end
theorem runs48 (W : Cfg) (Q : (DF × Bool) → Prop) (x : (Int × (Int × (Int × Int)))) : ∀ j : J48, run (env need48 (fun _ _ => none)) stop48 (finS spec48 Q) W 100000 (head48 x j).fr.enter (head48 x j).stk (head48 x j).H = (step48 x j).wp (kont W Q (head48 x))
 | .h0 v4 v5 => run48h0 W Q x v4 v5
theorem ok48 : SpecOk env0 48 spec48 := SpecOk.env rfl (fun _ _ h => h) (spec_of_trees (E := (env need48 (fun _ _ => none))) (sp := spec48) (valid _ _) (fun f sp h => SpecOk.env rfl (fun _ _ h => h) (need48_ok f sp h)) (fn := Tryd.f48) (c := (bodyOf Tryd.f48)) (by kernel_rfl) (by kernel_rfl) tree48 step48 head48 run48 runs48 (fun _ h => endVal_ends h))
noncomputable def tree49 (x : Int) : Tr Bool :=
  .ite ((ieq x 0) == false) (
 .ite ((ieq x 6) == false) (
 .ite ((ieq x 7) == false) (
 .ret (ieq x 8)) (
 .ret true)) (
 .ret true)) (
 .ret true)
noncomputable def fn49 (x : Int) : Bool := (tree49 x).val
def pre49 (x : Int) : Prop := (tree49 x).ok
noncomputable def spec49 : Spec := { dom := (.st1 (.int .u8)), cod := .bool, n := 1, pre := pre49, f := fn49 }
noncomputable def need49 : FuncId → Option Spec
  | _ => none
theorem need49_ok : ∀ f sp, need49 f = some sp → SpecOk env0 f sp := by
  intro f sp h
  unfold need49 at h
  split at h
  · cases h
section
variable (W : Cfg) (Q : Bool → Prop) (x : Int)
theorem run49 : run (env need49 (fun _ _ => none)) (fun _ _ _ => none) (finS spec49 Q) W 100000 (startFr 49 Tryd.f49 (bodyOf Tryd.f49) (argsOf (.st1 (.int .u8)) x)) [] [] = (tree49 x).wp Q := by kernel_rfl
end
theorem ok49 : SpecOk env0 49 spec49 := SpecOk.env rfl (fun _ _ h => h) (spec_of_tree (E := (env need49 (fun _ _ => none))) (sp := spec49) (valid _ _) (fun f sp h => SpecOk.env rfl (fun _ _ h => h) (need49_ok f sp h)) (fn := Tryd.f49) (c := (bodyOf Tryd.f49)) (by kernel_rfl) (by kernel_rfl) tree49 run49 (fun _ h => Tr.gives_val h))
noncomputable def tree105 (x : (Int × Int)) : Tr DO :=
  .ret (2, (0, ((imax x.1 (-1)), ((-1), (1, (x.2, (false, 0)))))))
noncomputable def fn105 (x : (Int × Int)) : DO := (tree105 x).val
def pre105 (x : (Int × Int)) : Prop := (tree105 x).ok
noncomputable def spec105 : Spec := { dom := (.st (.int .i64) (.st1 (.int .i64))), cod := CO, n := 1, pre := pre105, f := fn105 }
noncomputable def need105 : FuncId → Option Spec
  | _ => none
theorem need105_ok : ∀ f sp, need105 f = some sp → SpecOk env0 f sp := by
  intro f sp h
  unfold need105 at h
  split at h
  · cases h
section
variable (W : Cfg) (Q : DO → Prop) (x : (Int × Int))
theorem run105 : run (env need105 (fun _ _ => none)) (fun _ _ _ => none) (finS spec105 Q) W 100000 (startFr 105 Tryd.f105 (bodyOf Tryd.f105) (argsOf (.st (.int .i64) (.st1 (.int .i64))) x)) [] [] = (tree105 x).wp Q := by kernel_rfl
end
theorem ok105 : SpecOk env0 105 spec105 := SpecOk.env rfl (fun _ _ h => h) (spec_of_tree (E := (env need105 (fun _ _ => none))) (sp := spec105) (valid _ _) (fun f sp h => SpecOk.env rfl (fun _ _ h => h) (need105_ok f sp h)) (fn := Tryd.f105) (c := (bodyOf Tryd.f105)) (by kernel_rfl) (by kernel_rfl) tree105 run105 (fun _ h => Tr.gives_val h))
inductive J106 where
 | h0 (v2 : Int) (v3 : Int)
noncomputable def tree106 (x : ((List Int) × Int)) : Tr (J106 ⊕ (Int × Bool)) :=
  .ite (ilt (x.1.length : Int) x.2) (
 .ret (.inr (0, false))) (
 .ite (ieq x.2 1) (
 .need ((0 : Int) ≤ 0) <|
 .need (0 < (x.1.length : Int)) <|
 .ret (.inr ((iconv .i64 (iconv .i8 (rdc (.int .u8) x.1 0))), true))) (
 .ret (.inl (.h0 0 0))))
noncomputable def step106 (x : ((List Int) × Int)) : J106 → Tr (J106 ⊕ (Int × Bool))
 | .h0 v2 v3 =>
 .ite (ilt v3 x.2) (
 .need ((0 : Int) ≤ v3) <|
 .need (v3 < (x.1.length : Int)) <|
 let y0 : Int := (iconv .u64 (imul .i64 8 v3))
 .need ((0 : Int) ≤ y0) <|
 .ret (.inl (.h0 (ior .u32 v2 (ishl .u32 (iconv .u32 (rdc (.int .u8) x.1 (v3).toNat)) y0)) (iadd .i64 v3 1)))) (
 .ret (.inr ((iconv .i64 (iconv .i32 v2)), true)))
noncomputable def head106 (x : ((List Int) × Int)) : J106 → Head
 | .h0 v2 v3 =>
 { fr := { id := 106, kind := .top, T := [(.fsl (.int .u8) x.1), (.int .i64 x.2)] ++ List.replicate 4 .any ++ [(.int .u32 v2), (.int .i64 v3)] ++ List.replicate 30 .any, items := [.lp (subc [1, 1, 1, 1, 0, 1, 0, 0] (bodyOf Tryd.f106)), .blk 0, .code (subc [1, 1, 1, 1, 1] (bodyOf Tryd.f106))], D := [], base := 0 },
   stk := [],
   H := [] }
noncomputable def stop106 : FuncId → Nat → Nat → Option Cut
  | 106, 0, 0 => some { tmps := [0, 1, 6, 7], loops := [], dead := [], stk := [] }
  | _, _, _ => none
noncomputable def fn106 (x : ((List Int) × Int)) : (Int × Bool) := endVal (TC.dflt (.st (.int .i64) (.st1 .bool))) (step106 x) (tree106 x)
def pre106 (x : ((List Int) × Int)) : Prop := ∃ r, Ends (step106 x) r (tree106 x)
noncomputable def spec106 : Spec := { dom := (.st (.slice (.int .u8)) (.st1 (.int .i64))), cod := (.st (.int .i64) (.st1 .bool)), n := 2, pre := pre106, f := fn106 }
noncomputable def need106 : FuncId → Option Spec
  | _ => none
theorem need106_ok : ∀ f sp, need106 f = some sp → SpecOk env0 f sp := by
  intro f sp h
  unfold need106 at h
  split at h
  · cases h
section
variable (W : Cfg) (Q : (Int × Bool) → Prop) (x : ((List Int) × Int))
theorem run106 : run (env need106 (fun _ _ => none)) stop106 (finS spec106 Q) W 100000 (startFr 106 Tryd.f106 (bodyOf Tryd.f106) (argsOf (.st (.slice (.int .u8)) (.st1 (.int .i64))) x)) [] [] = (tree106 x).wp (kont W Q (head106 x)) := by kernel_rfl
theorem run106h0 (v2 v3 : Int) : run (env need106 (fun _ _ => none)) stop106 (finS spec106 Q) W 100000 (head106 x (.h0 v2 v3)).fr.enter (head106 x (.h0 v2 v3)).stk (head106 x (.h0 v2 v3)).H = (step106 x (.h0 v2 v3)).wp (kont W Q (head106 x)) := by kernel_rfl
end
theorem runs106 (W : Cfg) (Q : (Int × Bool) → Prop) (x : ((List Int) × Int)) : ∀ j : J106, run (env need106 (fun _ _ => none)) stop106 (finS spec106 Q) W 100000 (head106 x j).fr.enter (head106 x j).stk (head106 x j).H = (step106 x j).wp (kont W Q (head106 x))
 | .h0 v2 v3 => run106h0 W Q x v2 v3
theorem ok106 : SpecOk env0 106 spec106 := SpecOk.env rfl (fun _ _ h => h) (spec_of_trees (E := (env need106 (fun _ _ => none))) (sp := spec106) (valid _ _) (fun f sp h => SpecOk.env rfl (fun _ _ h => h) (need106_ok f sp h)) (fn := Tryd.f106) (c := (bodyOf Tryd.f106)) (by kernel_rfl) (by kernel_rfl) tree106 step106 head106 run106 runs106 (fun _ h => endVal_ends h))
inductive J82 where
 | h0
 | h1 (v2 : Int) (v3 : Int) (v4 : Int)
 | h2 (v2 : Int) (v3 : Int) (v4 : Int) (v6 : Int) (v15 : DO)
 | h3 (v2 : Int) (v3 : Int) (v4 : Int) (v6 : Int) (v15 : DO)
 | h4 (v2 : Int) (v3 : Int) (v4 : Int) (v13 : DO)
 | h5 (v1 : Int) (v2 : Int) (v3 : Int) (v12 : DO)
 | h6 (v1 : Int) (v2 : Int) (v4 : Int) (v13 : DO)
 | h7 (v0 : Int) (v1 : Int) (v2 : Int) (v3 : Int) (v12 : DO)
 | h8 (v0 : Int) (v1 : Int) (v2 : Int) (v11 : DO)
noncomputable def tree82 (x : ((List Int) × Int)) : Tr (J82 ⊕ (Int × (DO × (Int × Int)))) :=
  .ite (ieq (x.1.length : Int) 0) (
 .ret (.inr (0, ((0, (0, (0, (0, (0, (0, (false, 0))))))), (0, 80))))) (
 .ret (.inl (.h0)))
noncomputable def step82 (x : ((List Int) × Int)) : J82 → Tr (J82 ⊕ (Int × (DO × (Int × Int))))
 | .h0 =>
 .need ((0 : Int) ≤ 0) <|
 .need (0 < (x.1.length : Int)) <|
 .need ((0 : Int) ≤ 6) <|
 .need ((0 : Int) ≤ 0) <|
 .need (0 < (x.1.length : Int)) <|
 .need ((0 : Int) ≤ 0) <|
 .need (0 < (x.1.length : Int)) <|
 .need ((0 : Int) ≤ 3) <|
 .need ((0 : Int) ≤ 2) <|
 let y0 : Int := (rdc (.int .u8) x.1 0)
 let y1 : Int := (ishr .u8 y0 6)
 .ite (ieq y1 3) (
 let y2 : Int := (iconv .i64 (iand .u8 y0 7))
 let y3 : Int := (iadd .i64 y2 (imul .i64 (iconv .i64 (iand .u8 x.2 1)) 8))
 .need (pre35 y3) <|
 let y4 : Int := (iadd .i64 (iconv .i64 (iand .u8 (ishr .u8 y0 3) 7)) (imul .i64 (iconv .i64 (iand .u8 (ishr .u8 x.2 2) 1)) 8))
 .ret (.inr (y4, ((fn35 y3), (1, 0))))) (
 let y5 : Int := (iconv .i64 (iand .u8 y0 7))
 let y6 : Int := (iadd .i64 (iconv .i64 (iand .u8 (ishr .u8 y0 3) 7)) (imul .i64 (iconv .i64 (iand .u8 (ishr .u8 x.2 2) 1)) 8))
 .ret (.inl (.h1 y1 y5 y6)))
 | .h1 v2 v3 v4 =>
 let y0 : (Int × Int) := ((iadd .i64 v3 (imul .i64 (iconv .i64 (iand .u8 x.2 1)) 8)), 0)
 .need (pre105 y0) <|
 .ite (ieq v2 1) (
 let y1 := (fn105 y0)
 .ret (.inl (.h2 v2 v3 v4 1 y1))) (
 let y2 := (fn105 y0)
 .ret (.inl (.h2 v2 v3 v4 0 y2)))
 | .h2 v2 v3 v4 v6 v15 =>
 .ite (ieq v2 2) (
 .ret (.inl (.h3 v2 v3 v4 4 v15))) (
 .ret (.inl (.h3 v2 v3 v4 v6 v15)))
 | .h3 v2 v3 v4 v6 v15 =>
 .ite (ieq v3 4) (
 .ite (ilt (x.1.length : Int) 2) (
 .ret (.inr (0, ((0, (0, (0, (0, (0, (0, (false, 0))))))), (0, 80))))) (
 .ret (.inl (.h4 v2 v4 v6 v15)))) (
 .ite ((ieq v3 5) == true) (
 .ite (ieq v2 0) (
 let y0 : (Int × (Int × (Int × (Bool × Int)))) := v15.2.2.2
 let y1 := y0.2
 let y2 := y1.2
 .ret (.inl (.h5 v4 1 4 (v15.1, (v15.2.1, ((-1), (y0.1, (y1.1, (y2.1, (true, y2.2.2)))))))))) (
 .ret (.inl (.h5 v4 1 v6 v15)))) (
 .ret (.inl (.h5 v4 1 v6 v15))))
 | .h4 v2 v3 v4 v13 =>
 .need ((0 : Int) ≤ 1) <|
 .need (1 < (x.1.length : Int)) <|
 .need ((0 : Int) ≤ 1) <|
 .need (1 < (x.1.length : Int)) <|
 .need ((0 : Int) ≤ 3) <|
 .need ((0 : Int) ≤ 1) <|
 let y0 : Int := (rdc (.int .u8) x.1 1)
 let y1 : Int := (iadd .i64 (iconv .i64 (iand .u8 (ishr .u8 y0 3) 7)) (imul .i64 (iconv .i64 (iand .u8 (ishr .u8 x.2 1) 1)) 8))
 .ite (ine y1 4) (
 .need ((0 : Int) ≤ 1) <|
 .need (1 < (x.1.length : Int)) <|
 .need ((0 : Int) ≤ 6) <|
 let y2 : Int := (iconv .u64 (ishr .u8 y0 6))
 .need ((0 : Int) ≤ y2) <|
 let y3 : Int := v13.2.1
 let y4 : Int := (iadd .i64 (iconv .i64 (iand .u8 y0 7)) (imul .i64 (iconv .i64 (iand .u8 x.2 1)) 8))
 let y5 : (Int × (Int × (Int × (Bool × Int)))) := v13.2.2.2
 .ret (.inl (.h6 v2 v3 v4 (v13.1, (y3, (y4, (y1, ((ishl .i64 1 y2), y5.2.2)))))))) (
 let y6 : Int := v13.2.1
 let y7 : Int := (iadd .i64 (iconv .i64 (iand .u8 y0 7)) (imul .i64 (iconv .i64 (iand .u8 x.2 1)) 8))
 let y8 : (Int × (Int × (Int × (Bool × Int)))) := v13.2.2.2
 .ret (.inl (.h6 v2 v3 v4 (v13.1, (y6, (y7, y8))))))
 | .h5 v1 v2 v3 v12 =>
 .ite (ilt 0 v3) (
 .need ((0 : Int) ≤ v2) <|
 .need (((v2).toNat : Nat) ≤ x.1.length) <|
 let y0 : ((List Int) × Int) := ((x.1.drop (v2).toNat), v3)
 .need (pre106 y0) <|
 let y1 := (fn106 y0)
 .ite (!y1.2) (
 .ret (.inr (0, ((0, (0, (0, (0, (0, (0, (false, 0))))))), (0, 80))))) (
 .ret (.inl (.h7 v1 v2 v3 y1.1 v12)))) (
 .ret (.inl (.h8 v1 v2 v3 v12)))
 | .h6 v1 v2 v4 v13 =>
 .need ((0 : Int) ≤ 1) <|
 .need (1 < (x.1.length : Int)) <|
 .ite ((ieq (iand .u8 (rdc (.int .u8) x.1 1) 7) 5) == true) (
 .ite (ieq v1 0) (
 .ret (.inl (.h5 v2 2 4 (v13.1, (v13.2.1, ((-1), v13.2.2.2)))))) (
 .ret (.inl (.h5 v2 2 v4 v13)))) (
 .ret (.inl (.h5 v2 2 v4 v13)))
 | .h7 v0 v1 v2 v3 v12 =>
 let y0 : (Int × (Int × (Int × (Int × (Bool × Int))))) := v12.2.2
 let y1 := y0.2
 let y2 := y1.2
 .ret (.inl (.h8 v0 v1 v2 (v12.1, (v12.2.1, (y0.1, (y1.1, (y2.1, (v3, y2.2.2))))))))
 | .h8 v0 v1 v2 v11 =>
 .ret (.inr (v0, (v11, ((iadd .i64 v1 v2), 0))))
noncomputable def cREF9_0 : AObj := .cell true 23 (.agg [1, 1, 1, 1, 1, 1, 1, 1] [(.int .u8 0), (.int .i64 0), (.int .i64 0), (.int .i64 0), (.int .i64 0), (.int .i64 0), (.bool false), (.int .i64 0)])
noncomputable def head82 (x : ((List Int) × Int)) : J82 → Head
 | .h0 =>
 { fr := { id := 82, kind := .top, T := [(.fsl (.int .u8) x.1), (.int .u8 x.2), .any, .any, .any, (.ptr 0 [])] ++ List.replicate 137 .any, items := [.code (subc [1, 1, 0] (bodyOf Tryd.f82)), .code (subc [1, 1, 1] (bodyOf Tryd.f82))], D := [], base := 0 },
   stk := [],
   H := [cREF9_0] }
 | .h1 v2 v3 v4 =>
 { fr := { id := 82, kind := .top, T := [(.fsl (.int .u8) x.1), (.int .u8 x.2), .any, .any, .any, (.ptr 0 []), .any, .any, (.int .u8 v2), (.int .i64 v3), (.int .i64 v4)] ++ List.replicate 132 .any, items := [.code (subc [1, 1, 1, 1, 1, 0] (bodyOf Tryd.f82)), .code (subc [1, 1, 1, 1, 1, 1] (bodyOf Tryd.f82))], D := [], base := 0 },
   stk := [],
   H := [cREF9_0] }
 | .h2 v2 v3 v4 v6 v15 =>
 { fr := { id := 82, kind := .top, T := [(.fsl (.int .u8) x.1), (.int .u8 x.2), .any, .any, .any, (.ptr 0 []), .any, .any, (.int .u8 v2), (.int .i64 v3), (.int .i64 v4), (.ptr 1 []), (.int .i64 1), (.int .i64 v6)] ++ List.replicate 129 .any, items := [.code (subc [1, 1, 1, 1, 1, 1, 1, 1, 0, 0] (bodyOf Tryd.f82)), .code (subc [1, 1, 1, 1, 1, 1, 1, 1, 0, 1] (bodyOf Tryd.f82)), .code (subc [1, 1, 1, 1, 1, 1, 1, 1, 1] (bodyOf Tryd.f82))], D := [], base := 0 },
   stk := [],
   H := [cREF9_0, .cell true 23 (.agg [1, 1, 1, 1, 1, 1, 1, 1] [(.int .u8 v15.1), (.int .i64 v15.2.1), (.int .i64 v15.2.2.1), (.int .i64 v15.2.2.2.1), (.int .i64 v15.2.2.2.2.1), (.int .i64 v15.2.2.2.2.2.1), (.bool v15.2.2.2.2.2.2.1), (.int .i64 v15.2.2.2.2.2.2.2)])] }
 | .h3 v2 v3 v4 v6 v15 =>
 { fr := { id := 82, kind := .top, T := [(.fsl (.int .u8) x.1), (.int .u8 x.2), .any, .any, .any, (.ptr 0 []), .any, .any, (.int .u8 v2), (.int .i64 v3), (.int .i64 v4), (.ptr 1 []), (.int .i64 1), (.int .i64 v6)] ++ List.replicate 129 .any, items := [.code (subc [1, 1, 1, 1, 1, 1, 1, 1, 1, 0, 0, 0] (bodyOf Tryd.f82)), .code (subc [1, 1, 1, 1, 1, 1, 1, 1, 1, 0, 0, 1] (bodyOf Tryd.f82)), .blk 0, .code (subc [1, 1, 1, 1, 1, 1, 1, 1, 1, 1] (bodyOf Tryd.f82))], D := [], base := 0 },
   stk := [],
   H := [cREF9_0, .cell true 23 (.agg [1, 1, 1, 1, 1, 1, 1, 1] [(.int .u8 v15.1), (.int .i64 v15.2.1), (.int .i64 v15.2.2.1), (.int .i64 v15.2.2.2.1), (.int .i64 v15.2.2.2.2.1), (.int .i64 v15.2.2.2.2.2.1), (.bool v15.2.2.2.2.2.2.1), (.int .i64 v15.2.2.2.2.2.2.2)])] }
 | .h4 v2 v3 v4 v13 =>
 { fr := { id := 82, kind := .top, T := [(.fsl (.int .u8) x.1), (.int .u8 x.2), .any, .any, .any, (.ptr 0 []), .any, .any, (.int .u8 v2), .any, (.int .i64 v3), (.ptr 1 []), .any, (.int .i64 v4)] ++ List.replicate 129 .any, items := [.code (subc [1, 1, 1, 1, 1, 1, 1, 1, 1, 0, 0, 1, 0, 1, 0] (bodyOf Tryd.f82)), .code (subc [1, 1, 1, 1, 1, 1, 1, 1, 1, 0, 0, 1, 0, 1, 1] (bodyOf Tryd.f82)), .blk 0, .code (subc [1, 1, 1, 1, 1, 1, 1, 1, 1, 1] (bodyOf Tryd.f82))], D := [], base := 0 },
   stk := [],
   H := [cREF9_0, .cell true 23 (.agg [1, 1, 1, 1, 1, 1, 1, 1] [(.int .u8 v13.1), (.int .i64 v13.2.1), (.int .i64 v13.2.2.1), (.int .i64 v13.2.2.2.1), (.int .i64 v13.2.2.2.2.1), (.int .i64 v13.2.2.2.2.2.1), (.bool v13.2.2.2.2.2.2.1), (.int .i64 v13.2.2.2.2.2.2.2)])] }
 | .h5 v1 v2 v3 v12 =>
 { fr := { id := 82, kind := .top, T := [(.fsl (.int .u8) x.1)] ++ List.replicate 4 .any ++ [(.ptr 0 [])] ++ List.replicate 4 .any ++ [(.int .i64 v1), (.ptr 1 []), (.int .i64 v2), (.int .i64 v3)] ++ List.replicate 129 .any, items := [.code (subc [1, 1, 1, 1, 1, 1, 1, 1, 1, 1, 0, 0] (bodyOf Tryd.f82)), .code (subc [1, 1, 1, 1, 1, 1, 1, 1, 1, 1, 0, 1] (bodyOf Tryd.f82)), .code (subc [1, 1, 1, 1, 1, 1, 1, 1, 1, 1, 1] (bodyOf Tryd.f82))], D := [], base := 0 },
   stk := [],
   H := [cREF9_0, .cell true 23 (.agg [1, 1, 1, 1, 1, 1, 1, 1] [(.int .u8 v12.1), (.int .i64 v12.2.1), (.int .i64 v12.2.2.1), (.int .i64 v12.2.2.2.1), (.int .i64 v12.2.2.2.2.1), (.int .i64 v12.2.2.2.2.2.1), (.bool v12.2.2.2.2.2.2.1), (.int .i64 v12.2.2.2.2.2.2.2)])] }
 | .h6 v1 v2 v4 v13 =>
 { fr := { id := 82, kind := .top, T := [(.fsl (.int .u8) x.1)] ++ List.replicate 4 .any ++ [(.ptr 0 []), .any, .any, (.int .u8 v1), .any, (.int .i64 v2), (.ptr 1 []), (.int .i64 2), (.int .i64 v4)] ++ List.replicate 129 .any, items := [.code (subc [1, 1, 1, 1, 1, 1, 1, 1, 1, 0, 0, 1, 0, 1, 1, 1, 1, 1, 0] (bodyOf Tryd.f82)), .code (subc [1, 1, 1, 1, 1, 1, 1, 1, 1, 0, 0, 1, 0, 1, 1, 1, 1, 1, 1] (bodyOf Tryd.f82)), .blk 0, .code (subc [1, 1, 1, 1, 1, 1, 1, 1, 1, 1] (bodyOf Tryd.f82))], D := [], base := 0 },
   stk := [],
   H := [cREF9_0, .cell true 23 (.agg [1, 1, 1, 1, 1, 1, 1, 1] [(.int .u8 v13.1), (.int .i64 v13.2.1), (.int .i64 v13.2.2.1), (.int .i64 v13.2.2.2.1), (.int .i64 v13.2.2.2.2.1), (.int .i64 v13.2.2.2.2.2.1), (.bool v13.2.2.2.2.2.2.1), (.int .i64 v13.2.2.2.2.2.2.2)])] }
 | .h7 v0 v1 v2 v3 v12 =>
 { fr := { id := 82, kind := .top, T := List.replicate 5 .any ++ [(.ptr 0 [])] ++ List.replicate 4 .any ++ [(.int .i64 v0), (.ptr 1 []), (.int .i64 v1), (.int .i64 v2), .any, (.int .i64 v3)] ++ List.replicate 127 .any, items := [.code (subc [1, 1, 1, 1, 1, 1, 1, 1, 1, 1, 0, 1, 0, 1, 1] (bodyOf Tryd.f82)), .code (subc [1, 1, 1, 1, 1, 1, 1, 1, 1, 1, 1] (bodyOf Tryd.f82))], D := [], base := 0 },
   stk := [],
   H := [cREF9_0, .cell true 23 (.agg [1, 1, 1, 1, 1, 1, 1, 1] [(.int .u8 v12.1), (.int .i64 v12.2.1), (.int .i64 v12.2.2.1), (.int .i64 v12.2.2.2.1), (.int .i64 v12.2.2.2.2.1), (.int .i64 v12.2.2.2.2.2.1), (.bool v12.2.2.2.2.2.2.1), (.int .i64 v12.2.2.2.2.2.2.2)])] }
 | .h8 v0 v1 v2 v11 =>
 { fr := { id := 82, kind := .top, T := List.replicate 5 .any ++ [(.ptr 0 [])] ++ List.replicate 4 .any ++ [(.int .i64 v0), (.ptr 1 []), (.int .i64 v1), (.int .i64 v2)] ++ List.replicate 129 .any, items := [.code (subc [1, 1, 1, 1, 1, 1, 1, 1, 1, 1, 1, 0] (bodyOf Tryd.f82)), .code (subc [1, 1, 1, 1, 1, 1, 1, 1, 1, 1, 1, 1] (bodyOf Tryd.f82))], D := [], base := 0 },
   stk := [],
   H := [cREF9_0, .cell true 23 (.agg [1, 1, 1, 1, 1, 1, 1, 1] [(.int .u8 v11.1), (.int .i64 v11.2.1), (.int .i64 v11.2.2.1), (.int .i64 v11.2.2.2.1), (.int .i64 v11.2.2.2.2.1), (.int .i64 v11.2.2.2.2.2.1), (.bool v11.2.2.2.2.2.2.1), (.int .i64 v11.2.2.2.2.2.2.2)])] }
noncomputable def stop82 : FuncId → Nat → Nat → Option Cut
  | 82, 7, 0 => some { tmps := [0, 1, 5], loops := [], dead := [], stk := [] }
  | 82, 15, 0 => some { tmps := [0, 1, 5, 8, 9, 10], loops := [], dead := [], stk := [] }
  | 82, 23, 0 => some { tmps := [0, 1, 5, 8, 9, 10, 11, 12, 13], loops := [], dead := [], stk := [] }
  | 82, 27, 0 => some { tmps := [0, 1, 5, 8, 9, 10, 11, 12, 13], loops := [], dead := [], stk := [] }
  | 82, 33, 0 => some { tmps := [0, 1, 5, 8, 10, 11, 13], loops := [], dead := [], stk := [] }
  | 82, 59, 0 => some { tmps := [0, 5, 10, 11, 12, 13], loops := [], dead := [], stk := [] }
  | 82, 45, 0 => some { tmps := [0, 5, 8, 10, 11, 12, 13], loops := [], dead := [], stk := [] }
  | 82, 67, 0 => some { tmps := [5, 10, 11, 12, 13, 15], loops := [], dead := [], stk := [] }
  | 82, 69, 0 => some { tmps := [5, 10, 11, 12, 13], loops := [], dead := [], stk := [] }
  | _, _, _ => none
noncomputable def fn82 (x : ((List Int) × Int)) : (Int × (DO × (Int × Int))) := endVal (TC.dflt (.st (.int .i64) (.st CO (.st (.int .i64) (.st1 (.int .i64)))))) (step82 x) (tree82 x)
def pre82 (x : ((List Int) × Int)) : Prop := ∃ r, Ends (step82 x) r (tree82 x)
noncomputable def spec82 : Spec := { dom := (.st (.slice (.int .u8)) (.st1 (.int .u8))), cod := (.st (.int .i64) (.st CO (.st (.int .i64) (.st1 (.int .i64))))), n := 4, pre := pre82, f := fn82 }
noncomputable def need82 : FuncId → Option Spec
  | 35 => some spec35
  | 105 => some spec105
  | 106 => some spec106
  | _ => none
theorem need82_ok : ∀ f sp, need82 f = some sp → SpecOk env0 f sp := by
  intro f sp h
  unfold need82 at h
  split at h
  · cases h; exact ok35
  · cases h; exact ok105
  · cases h; exact ok106
  · cases h
section
variable (W : Cfg) (Q : (Int × (DO × (Int × Int))) → Prop) (x : ((List Int) × Int))
theorem run82 : run (env need82 (fun _ _ => none)) stop82 (finS spec82 Q) W 100000 (startFr 82 Tryd.f82 (bodyOf Tryd.f82) (argsOf (.st (.slice (.int .u8)) (.st1 (.int .u8))) x)) [] [] = (tree82 x).wp (kont W Q (head82 x)) := by kernel_rfl
theorem run82h0 : run (env need82 (fun _ _ => none)) stop82 (finS spec82 Q) W 100000 (head82 x (.h0)).fr.enter (head82 x (.h0)).stk (head82 x (.h0)).H = (step82 x (.h0)).wp (kont W Q (head82 x)) := by kernel_rfl
theorem run82h1 (v2 v3 v4 : Int) : run (env need82 (fun _ _ => none)) stop82 (finS spec82 Q) W 100000 (head82 x (.h1 v2 v3 v4)).fr.enter (head82 x (.h1 v2 v3 v4)).stk (head82 x (.h1 v2 v3 v4)).H = (step82 x (.h1 v2 v3 v4)).wp (kont W Q (head82 x)) := by kernel_rfl
theorem run82h2 (v2 v3 : Int) (v4 v6 : Int) (v15 : DO) : run (env need82 (fun _ _ => none)) stop82 (finS spec82 Q) W 100000 (head82 x (.h2 v2 v3 v4 v6 v15)).fr.enter (head82 x (.h2 v2 v3 v4 v6 v15)).stk (head82 x (.h2 v2 v3 v4 v6 v15)).H = (step82 x (.h2 v2 v3 v4 v6 v15)).wp (kont W Q (head82 x)) := by kernel_rfl
theorem run82h3 (v2 v3 : Int) (v4 v6 : Int) (v15 : DO) : run (env need82 (fun _ _ => none)) stop82 (finS spec82 Q) W 100000 (head82 x (.h3 v2 v3 v4 v6 v15)).fr.enter (head82 x (.h3 v2 v3 v4 v6 v15)).stk (head82 x (.h3 v2 v3 v4 v6 v15)).H = (step82 x (.h3 v2 v3 v4 v6 v15)).wp (kont W Q (head82 x)) := by kernel_rfl
theorem run82h4 (v2 v3 v4 : Int) (v13 : DO) : run (env need82 (fun _ _ => none)) stop82 (finS spec82 Q) W 100000 (head82 x (.h4 v2 v3 v4 v13)).fr.enter (head82 x (.h4 v2 v3 v4 v13)).stk (head82 x (.h4 v2 v3 v4 v13)).H = (step82 x (.h4 v2 v3 v4 v13)).wp (kont W Q (head82 x)) := by kernel_rfl
theorem run82h5 (v1 v2 v3 : Int) (v12 : DO) : run (env need82 (fun _ _ => none)) stop82 (finS spec82 Q) W 100000 (head82 x (.h5 v1 v2 v3 v12)).fr.enter (head82 x (.h5 v1 v2 v3 v12)).stk (head82 x (.h5 v1 v2 v3 v12)).H = (step82 x (.h5 v1 v2 v3 v12)).wp (kont W Q (head82 x)) := by kernel_rfl
theorem run82h6 (v1 v2 v4 : Int) (v13 : DO) : run (env need82 (fun _ _ => none)) stop82 (finS spec82 Q) W 100000 (head82 x (.h6 v1 v2 v4 v13)).fr.enter (head82 x (.h6 v1 v2 v4 v13)).stk (head82 x (.h6 v1 v2 v4 v13)).H = (step82 x (.h6 v1 v2 v4 v13)).wp (kont W Q (head82 x)) := by kernel_rfl
theorem run82h7 (v0 v1 : Int) (v2 v3 : Int) (v12 : DO) : run (env need82 (fun _ _ => none)) stop82 (finS spec82 Q) W 100000 (head82 x (.h7 v0 v1 v2 v3 v12)).fr.enter (head82 x (.h7 v0 v1 v2 v3 v12)).stk (head82 x (.h7 v0 v1 v2 v3 v12)).H = (step82 x (.h7 v0 v1 v2 v3 v12)).wp (kont W Q (head82 x)) := by kernel_rfl
theorem run82h8 (v0 v1 v2 : Int) (v11 : DO) : run (env need82 (fun _ _ => none)) stop82 (finS spec82 Q) W 100000 (head82 x (.h8 v0 v1 v2 v11)).fr.enter (head82 x (.h8 v0 v1 v2 v11)).stk (head82 x (.h8 v0 v1 v2 v11)).H = (step82 x (.h8 v0 v1 v2 v11)).wp (kont W Q (head82 x)) := by kernel_rfl
end
theorem runs82 (W : Cfg) (Q : (Int × (DO × (Int × Int))) → Prop) (x : ((List Int) × Int)) : ∀ j : J82, run (env need82 (fun _ _ => none)) stop82 (finS spec82 Q) W 100000 (head82 x j).fr.enter (head82 x j).stk (head82 x j).H = (step82 x j).wp (kont W Q (head82 x))
 | .h0 => run82h0 W Q x
 | .h1 v2 v3 v4 => run82h1 W Q x v2 v3 v4
 | .h2 v2 v3 v4 v6 v15 => run82h2 W Q x v2 v3 v4 v6 v15
 | .h3 v2 v3 v4 v6 v15 => run82h3 W Q x v2 v3 v4 v6 v15
 | .h4 v2 v3 v4 v13 => run82h4 W Q x v2 v3 v4 v13
 | .h5 v1 v2 v3 v12 => run82h5 W Q x v1 v2 v3 v12
 | .h6 v1 v2 v4 v13 => run82h6 W Q x v1 v2 v4 v13
 | .h7 v0 v1 v2 v3 v12 => run82h7 W Q x v0 v1 v2 v3 v12
 | .h8 v0 v1 v2 v11 => run82h8 W Q x v0 v1 v2 v11
theorem ok82 : SpecOk env0 82 spec82 := SpecOk.env rfl (fun _ _ h => h) (spec_of_trees (E := (env need82 (fun _ _ => none))) (sp := spec82) (valid _ _) (fun f sp h => SpecOk.env rfl (fun _ _ h => h) (need82_ok f sp h)) (fn := Tryd.f82) (c := (bodyOf Tryd.f82)) (by kernel_rfl) (by kernel_rfl) tree82 step82 head82 run82 runs82 (fun _ h => endVal_ends h))
end Go.Eng.RE
end
section
/- Functions of this program, written out. -/
namespace Go.Eng.RE
open Go.Proofs Go.Eng
inductive J50 where
 | h0 (v0 : Int) (v1 : Int) (v38 : DO)
 | h1 (v0 : Int) (v1 : Int) (v32 : DO)
 | h2 (v0 : Int) (v17 : DO) (v25 : DO)
noncomputable def tree50 (x : (Dhead × (DF × (List Int)))) : Tr (J50 ⊕ (DO × (DO × (Int × Bool)))) :=
  let y0 : ((List Int) × Int) := (x.2.2, x.1.2.2.1)
  .need (pre82 y0) <|
  let y1 : (Int × (DO × (Int × Int))) := (fn82 y0)
  let y2 : (DO × (Int × Int)) := y1.2
  let y3 : (Int × Int) := y2.2
  .ite ((ine y3.2 0) == false) (
 .ite (x.2.1.2.2.2.2.2.2.2.2.2.2.2.2.2 == true) (
 let y4 := y2.1
 .ite (ieq y4.1 1) (
 let y5 : (Int × (Int × (Int × (Int × (Int × (Int × (Bool × Int))))))) := (0, (0, (0, (0, (0, (0, (false, 0)))))))
 let y6 : ((Int × (Int × (Int × (Int × (Int × (Int × (Bool × Int))))))) × ((Int × (Int × (Int × (Int × (Int × (Int × (Bool × Int))))))) × (Int × Bool))) := (y5, (y5, (0, false)))
 .ret (.inr y6)) (
 let y7 := y1.1
 let y8 := y3.1
 .ret (.inl (.h0 y7 y8 y4)))) (
 let y9 := y1.1
 let y10 := y3.1
 let y11 := y2.1
 .ret (.inl (.h0 y9 y10 y11)))) (
 let y12 : (Int × (Int × (Int × (Int × (Int × (Int × (Bool × Int))))))) := (0, (0, (0, (0, (0, (0, (false, 0)))))))
 let y13 : ((Int × (Int × (Int × (Int × (Int × (Int × (Bool × Int))))))) × ((Int × (Int × (Int × (Int × (Int × (Int × (Bool × Int))))))) × (Int × Bool))) := (y12, (y12, (0, false)))
 .ret (.inr y13))
noncomputable def step50 (x : (Dhead × (DF × (List Int)))) : J50 → Tr (J50 ⊕ (DO × (DO × (Int × Bool))))
 | .h0 v0 v1 v38 =>
 let y0 := x.2.1.2.2.2.2.2.2.2
 let y1 := y0.2
 .ite (y1.2.2.2.2.1 == true) (
 .ite (!x.1.2.1) (
 .ite ((ieq y0.1 1) == true) (
 let y2 := y1.1
 .ite ((ieq y2 1) == false) (
 let y3 := ((ieq v38.1 1) == true)
 .ite y3 (
 let y4 : Int := v38.2.1
 let y5 := ((ile 4 y4) == true)
 .ite y5 (
 let y6 := ((ilt y4 8) == false)
 .ite y6 (
 let y7 := ((ieq y2 2) == true)
 .ite y7 (
 let y8 := ((ile 4 v0) == true)
 .ite y8 (
 let y9 := (ilt v0 8)
 .ite y9 (
 let y10 : (Int × (Int × (Int × (Int × (Int × (Int × (Bool × Int))))))) := (0, (0, (0, (0, (0, (0, (false, 0)))))))
 let y11 : ((Int × (Int × (Int × (Int × (Int × (Int × (Bool × Int))))))) × ((Int × (Int × (Int × (Int × (Int × (Int × (Bool × Int))))))) × (Int × Bool))) := (y10, (y10, (0, false)))
 .ret (.inr y11)) (
 .ret (.inl (.h1 v0 v1 v38)))) (
 .ret (.inl (.h1 v0 v1 v38)))) (
 .ret (.inl (.h1 v0 v1 v38)))) (
 let y12 : (Int × (Int × (Int × (Int × (Int × (Int × (Bool × Int))))))) := (0, (0, (0, (0, (0, (0, (false, 0)))))))
 let y13 : ((Int × (Int × (Int × (Int × (Int × (Int × (Bool × Int))))))) × ((Int × (Int × (Int × (Int × (Int × (Int × (Bool × Int))))))) × (Int × Bool))) := (y12, (y12, (0, false)))
 .ret (.inr y13))) (
 let y14 := ((ieq y2 2) == true)
 .ite y14 (
 let y15 := ((ile 4 v0) == true)
 .ite y15 (
 let y16 := (ilt v0 8)
 .ite y16 (
 let y17 : (Int × (Int × (Int × (Int × (Int × (Int × (Bool × Int))))))) := (0, (0, (0, (0, (0, (0, (false, 0)))))))
 let y18 : ((Int × (Int × (Int × (Int × (Int × (Int × (Bool × Int))))))) × ((Int × (Int × (Int × (Int × (Int × (Int × (Bool × Int))))))) × (Int × Bool))) := (y17, (y17, (0, false)))
 .ret (.inr y18)) (
 .ret (.inl (.h1 v0 v1 v38)))) (
 .ret (.inl (.h1 v0 v1 v38)))) (
 .ret (.inl (.h1 v0 v1 v38))))) (
 let y19 := ((ieq y2 2) == true)
 .ite y19 (
 let y20 := ((ile 4 v0) == true)
 .ite y20 (
 let y21 := (ilt v0 8)
 .ite y21 (
 let y22 : (Int × (Int × (Int × (Int × (Int × (Int × (Bool × Int))))))) := (0, (0, (0, (0, (0, (0, (false, 0)))))))
 let y23 : ((Int × (Int × (Int × (Int × (Int × (Int × (Bool × Int))))))) × ((Int × (Int × (Int × (Int × (Int × (Int × (Bool × Int))))))) × (Int × Bool))) := (y22, (y22, (0, false)))
 .ret (.inr y23)) (
 .ret (.inl (.h1 v0 v1 v38)))) (
 .ret (.inl (.h1 v0 v1 v38)))) (
 .ret (.inl (.h1 v0 v1 v38))))) (
 let y24 := ((ieq v38.1 1) == true)
 .ite y24 (
 let y25 : Int := v38.2.1
 let y26 := ((ile 4 y25) == true)
 .ite y26 (
 let y27 := ((ilt y25 8) == false)
 .ite y27 (
 let y28 := ((ile 4 v0) == true)
 .ite y28 (
 let y29 := (ilt v0 8)
 .ite y29 (
 let y30 : (Int × (Int × (Int × (Int × (Int × (Int × (Bool × Int))))))) := (0, (0, (0, (0, (0, (0, (false, 0)))))))
 let y31 : ((Int × (Int × (Int × (Int × (Int × (Int × (Bool × Int))))))) × ((Int × (Int × (Int × (Int × (Int × (Int × (Bool × Int))))))) × (Int × Bool))) := (y30, (y30, (0, false)))
 .ret (.inr y31)) (
 .ret (.inl (.h1 v0 v1 v38)))) (
 .ret (.inl (.h1 v0 v1 v38)))) (
 let y32 : (Int × (Int × (Int × (Int × (Int × (Int × (Bool × Int))))))) := (0, (0, (0, (0, (0, (0, (false, 0)))))))
 let y33 : ((Int × (Int × (Int × (Int × (Int × (Int × (Bool × Int))))))) × ((Int × (Int × (Int × (Int × (Int × (Int × (Bool × Int))))))) × (Int × Bool))) := (y32, (y32, (0, false)))
 .ret (.inr y33))) (
 let y34 := ((ile 4 v0) == true)
 .ite y34 (
 let y35 := (ilt v0 8)
 .ite y35 (
 let y36 : (Int × (Int × (Int × (Int × (Int × (Int × (Bool × Int))))))) := (0, (0, (0, (0, (0, (0, (false, 0)))))))
 let y37 : ((Int × (Int × (Int × (Int × (Int × (Int × (Bool × Int))))))) × ((Int × (Int × (Int × (Int × (Int × (Int × (Bool × Int))))))) × (Int × Bool))) := (y36, (y36, (0, false)))
 .ret (.inr y37)) (
 .ret (.inl (.h1 v0 v1 v38)))) (
 .ret (.inl (.h1 v0 v1 v38))))) (
 let y38 := ((ile 4 v0) == true)
 .ite y38 (
 let y39 := (ilt v0 8)
 .ite y39 (
 let y40 : (Int × (Int × (Int × (Int × (Int × (Int × (Bool × Int))))))) := (0, (0, (0, (0, (0, (0, (false, 0)))))))
 let y41 : ((Int × (Int × (Int × (Int × (Int × (Int × (Bool × Int))))))) × ((Int × (Int × (Int × (Int × (Int × (Int × (Bool × Int))))))) × (Int × Bool))) := (y40, (y40, (0, false)))
 .ret (.inr y41)) (
 .ret (.inl (.h1 v0 v1 v38)))) (
 .ret (.inl (.h1 v0 v1 v38)))))) (
 let y42 := ((ieq v38.1 1) == true)
 .ite y42 (
 let y43 : Int := v38.2.1
 let y44 := ((ile 4 y43) == true)
 .ite y44 (
 let y45 := ((ilt y43 8) == false)
 .ite y45 (
 .ret (.inl (.h1 v0 v1 v38))) (
 let y46 : (Int × (Int × (Int × (Int × (Int × (Int × (Bool × Int))))))) := (0, (0, (0, (0, (0, (0, (false, 0)))))))
 let y47 : ((Int × (Int × (Int × (Int × (Int × (Int × (Bool × Int))))))) × ((Int × (Int × (Int × (Int × (Int × (Int × (Bool × Int))))))) × (Int × Bool))) := (y46, (y46, (0, false)))
 .ret (.inr y47))) (
 .ret (.inl (.h1 v0 v1 v38)))) (
 .ret (.inl (.h1 v0 v1 v38))))) (
 .ret (.inl (.h1 v0 v1 v38)))) (
 .ret (.inl (.h1 v0 v1 v38)))
 | .h1 v0 v1 v32 =>
 .need (pre35 v0) <|
 .ite x.2.1.2.2.2.2.2.2.2.2.2.2.2.1 (
 .ite (ieq v32.1 1) (
 let y0 := (fn35 v0).2
 let y1 : (Int × (Int × (Int × (Int × (Int × (Int × (Bool × Int))))))) := ((fn35 v0).1, ((iadd .i64 y0.1 16), y0.2))
 .ret (.inl (.h2 v1 (v32.1, ((iadd .i64 v32.2.1 16), v32.2.2)) y1))) (
 let y2 := (fn35 v0).2
 let y3 : (Int × (Int × (Int × (Int × (Int × (Int × (Bool × Int))))))) := ((fn35 v0).1, ((iadd .i64 y2.1 16), y2.2))
 .ret (.inl (.h2 v1 v32 y3)))) (
 .ret (.inl (.h2 v1 v32 (fn35 v0))))
 | .h2 v0 v17 v25 =>
 .ret (.inr (v25, (v17, (v0, true))))
noncomputable def cREF10_0 (x : (Dhead × (DF × (List Int)))) : AObj := .cell true 51 (.agg [1, 1, 1, 1, 1, 1, 1, 1, 1, 1, 1, 1, 1, 1] [(.int .u8 x.2.1.1), (.int .u8 x.2.1.2.1), (.int .u8 x.2.1.2.2.1), (.bool x.2.1.2.2.2.1), (.int .i64 x.2.1.2.2.2.2.1), (.int .u8 x.2.1.2.2.2.2.2.1), (.int .u8 x.2.1.2.2.2.2.2.2.1), (.int .i64 x.2.1.2.2.2.2.2.2.2.1), (.int .u8 x.2.1.2.2.2.2.2.2.2.2.1), (.int .i64 x.2.1.2.2.2.2.2.2.2.2.2.1), (.bool x.2.1.2.2.2.2.2.2.2.2.2.2.1), (.bool x.2.1.2.2.2.2.2.2.2.2.2.2.2.1), (.bool x.2.1.2.2.2.2.2.2.2.2.2.2.2.2.1), (.bool x.2.1.2.2.2.2.2.2.2.2.2.2.2.2.2)])
noncomputable def cREF10_1 : AObj := .cell true 23 (.agg [1, 1, 1, 1, 1, 1, 1, 1] [(.int .u8 0), (.int .i64 0), (.int .i64 0), (.int .i64 0), (.int .i64 0), (.int .i64 0), (.bool false), (.int .i64 0)])
noncomputable def head50 (x : (Dhead × (DF × (List Int)))) : J50 → Head
 | .h0 v0 v1 v38 =>
 { fr := { id := 50, kind := .top, T := [.any, .any, .any, (.ptr 0 []), (.ptr 1 []), .any, (.ptr 2 []), (.ptr 3 []), .any, .any, (.int .i64 v0), (.ptr 4 []), (.int .i64 v1)] ++ List.replicate 89 .any, items := [.code (subc [1, 1, 1, 0, 0] (bodyOf Tryd.f50)), .code (subc [1, 1, 1, 0, 1] (bodyOf Tryd.f50)), .code (subc [1, 1, 1, 1] (bodyOf Tryd.f50))], D := [], base := 0 },
   stk := [],
   H := [.cell true 77 (.agg [1, 1, 1, 1, 1, 1] [(.int .u8 x.1.1), (.bool x.1.2.1), (.int .u8 x.1.2.2.1), (.int .u8 x.1.2.2.2.1), (.int .u8 x.1.2.2.2.2.1), (.int .i64 x.1.2.2.2.2.2)]), (cREF10_0 x), cREF10_1, cREF10_1, .cell true 23 (.agg [1, 1, 1, 1, 1, 1, 1, 1] [(.int .u8 v38.1), (.int .i64 v38.2.1), (.int .i64 v38.2.2.1), (.int .i64 v38.2.2.2.1), (.int .i64 v38.2.2.2.2.1), (.int .i64 v38.2.2.2.2.2.1), (.bool v38.2.2.2.2.2.2.1), (.int .i64 v38.2.2.2.2.2.2.2)])] }
 | .h1 v0 v1 v32 =>
 { fr := { id := 50, kind := .top, T := List.replicate 4 .any ++ [(.ptr 0 []), .any, (.ptr 1 []), (.ptr 2 []), .any, .any, (.int .i64 v0), (.ptr 3 []), (.int .i64 v1)] ++ List.replicate 89 .any, items := [.code (subc [1, 1, 1, 1, 0] (bodyOf Tryd.f50)), .code (subc [1, 1, 1, 1, 1] (bodyOf Tryd.f50))], D := [], base := 0 },
   stk := [],
   H := [(cREF10_0 x), cREF10_1, cREF10_1, .cell true 23 (.agg [1, 1, 1, 1, 1, 1, 1, 1] [(.int .u8 v32.1), (.int .i64 v32.2.1), (.int .i64 v32.2.2.1), (.int .i64 v32.2.2.2.1), (.int .i64 v32.2.2.2.2.1), (.int .i64 v32.2.2.2.2.2.1), (.bool v32.2.2.2.2.2.2.1), (.int .i64 v32.2.2.2.2.2.2.2)])] }
 | .h2 v0 v17 v25 =>
 { fr := { id := 50, kind := .top, T := List.replicate 6 .any ++ [(.ptr 0 []), (.ptr 1 []), .any, .any, .any, (.ptr 2 []), (.int .i64 v0), .any, .any, (.ptr 3 [])] ++ List.replicate 86 .any, items := [.code (subc [1, 1, 1, 1, 1, 1, 0] (bodyOf Tryd.f50)), .code (subc [1, 1, 1, 1, 1, 1, 1] (bodyOf Tryd.f50))], D := [], base := 0 },
   stk := [],
   H := [cREF10_1, cREF10_1, .cell true 23 (.agg [1, 1, 1, 1, 1, 1, 1, 1] [(.int .u8 v17.1), (.int .i64 v17.2.1), (.int .i64 v17.2.2.1), (.int .i64 v17.2.2.2.1), (.int .i64 v17.2.2.2.2.1), (.int .i64 v17.2.2.2.2.2.1), (.bool v17.2.2.2.2.2.2.1), (.int .i64 v17.2.2.2.2.2.2.2)]), .cell true 23 (.agg [1, 1, 1, 1, 1, 1, 1, 1] [(.int .u8 v25.1), (.int .i64 v25.2.1), (.int .i64 v25.2.2.1), (.int .i64 v25.2.2.2.1), (.int .i64 v25.2.2.2.2.1), (.int .i64 v25.2.2.2.2.2.1), (.bool v25.2.2.2.2.2.2.1), (.int .i64 v25.2.2.2.2.2.2.2)])] }
noncomputable def stop50 : FuncId → Nat → Nat → Option Cut
  | 50, 9, 0 => some { tmps := [3, 4, 6, 7, 10, 11, 12], loops := [], dead := [], stk := [] }
  | 50, 17, 0 => some { tmps := [4, 6, 7, 10, 11, 12], loops := [], dead := [], stk := [] }
  | 50, 27, 0 => some { tmps := [6, 7, 11, 12, 15], loops := [], dead := [], stk := [] }
  | _, _, _ => none
noncomputable def fn50 (x : (Dhead × (DF × (List Int)))) : (DO × (DO × (Int × Bool))) := endVal (TC.dflt (.st CO (.st CO (.st (.int .i64) (.st1 .bool))))) (step50 x) (tree50 x)
def pre50 (x : (Dhead × (DF × (List Int)))) : Prop := ∃ r, Ends (step50 x) r (tree50 x)
noncomputable def spec50 : Spec := { dom := (.st Chead (.st CForm (.st1 (.slice (.int .u8))))), cod := (.st CO (.st CO (.st (.int .i64) (.st1 .bool)))), n := 4, pre := pre50, f := fn50 }
noncomputable def need50 : FuncId → Option Spec
  | 35 => some spec35
  | 82 => some spec82
  | _ => none
theorem need50_ok : ∀ f sp, need50 f = some sp → SpecOk env0 f sp := by
  intro f sp h
  unfold need50 at h
  split at h
  · cases h; exact ok35
  · cases h; exact ok82
  · cases h
section
variable (W : Cfg) (Q : (DO × (DO × (Int × Bool))) → Prop) (x : (Dhead × (DF × (List Int))))
theorem run50 : run (env need50 (fun _ _ => none)) stop50 (finS spec50 Q) W 100000 (startFr 50 Tryd.f50 (bodyOf Tryd.f50) (argsOf (.st Chead (.st CForm (.st1 (.slice (.int .u8))))) x)) [] [] = (tree50 x).wp (kont W Q (head50 x)) := by kernel_rfl
theorem run50h0 (v0 v1 : Int) (v38 : DO) : run (env need50 (fun _ _ => none)) stop50 (finS spec50 Q) W 100000 (head50 x (.h0 v0 v1 v38)).fr.enter (head50 x (.h0 v0 v1 v38)).stk (head50 x (.h0 v0 v1 v38)).H = (step50 x (.h0 v0 v1 v38)).wp (kont W Q (head50 x)) := by kernel_rfl
theorem run50h1 (v0 v1 : Int) (v32 : DO) : run (env need50 (fun _ _ => none)) stop50 (finS spec50 Q) W 100000 (head50 x (.h1 v0 v1 v32)).fr.enter (head50 x (.h1 v0 v1 v32)).stk (head50 x (.h1 v0 v1 v32)).H = (step50 x (.h1 v0 v1 v32)).wp (kont W Q (head50 x)) := by kernel_rfl
theorem run50h2 (v0 : Int) (v17 v25 : DO) : run (env need50 (fun _ _ => none)) stop50 (finS spec50 Q) W 100000 (head50 x (.h2 v0 v17 v25)).fr.enter (head50 x (.h2 v0 v17 v25)).stk (head50 x (.h2 v0 v17 v25)).H = (step50 x (.h2 v0 v17 v25)).wp (kont W Q (head50 x)) := by kernel_rfl
end
theorem runs50 (W : Cfg) (Q : (DO × (DO × (Int × Bool))) → Prop) (x : (Dhead × (DF × (List Int)))) : ∀ j : J50, run (env need50 (fun _ _ => none)) stop50 (finS spec50 Q) W 100000 (head50 x j).fr.enter (head50 x j).stk (head50 x j).H = (step50 x j).wp (kont W Q (head50 x))
 | .h0 v0 v1 v38 => run50h0 W Q x v0 v1 v38
 | .h1 v0 v1 v32 => run50h1 W Q x v0 v1 v32
 | .h2 v0 v17 v25 => run50h2 W Q x v0 v17 v25
theorem ok50 : SpecOk env0 50 spec50 := SpecOk.env rfl (fun _ _ h => h) (spec_of_trees (E := (env need50 (fun _ _ => none))) (sp := spec50) (valid _ _) (fun f sp h => SpecOk.env rfl (fun _ _ h => h) (need50_ok f sp h)) (fn := Tryd.f50) (c := (bodyOf Tryd.f50)) (by kernel_rfl) (by kernel_rfl) tree50 step50 head50 run50 runs50 (fun _ h => endVal_ends h))
inductive J83 where
 | h0 (v1 : Int) (v2 : Int)
noncomputable def tree83 (_x : (List Int)) : Tr (J83 ⊕ Int) :=
  .ret (.inl (.h0 0 0))
noncomputable def step83 (x : (List Int)) : J83 → Tr (J83 ⊕ Int)
 | .h0 v1 v2 =>
 .ite ((ilt v2 (x.length : Int)) == true) (
 .ite (ilt v2 8) (
 .need ((0 : Int) ≤ v2) <|
 .need (v2 < (x.length : Int)) <|
 let y0 : Int := (iconv .u64 (imul .i64 8 v2))
 .need ((0 : Int) ≤ y0) <|
 .ret (.inl (.h0 (ior .u64 v1 (ishl .u64 (iconv .u64 (rdc (.int .u8) x (v2).toNat)) y0)) (iadd .i64 v2 1)))) (
 .ret (.inr v1))) (
 .ret (.inr v1))
noncomputable def head83 (x : (List Int)) : J83 → Head
 | .h0 v1 v2 =>
 { fr := { id := 83, kind := .top, T := [(.fsl (.int .u8) x), .any, .any, (.int .u64 v1), (.int .i64 v2)] ++ List.replicate 22 .any, items := [.lp (subc [1, 1, 0, 1, 0, 0] (bodyOf Tryd.f83)), .blk 0, .code (subc [1, 1, 1] (bodyOf Tryd.f83))], D := [], base := 0 },
   stk := [],
   H := [] }
noncomputable def stop83 : FuncId → Nat → Nat → Option Cut
  | 83, 0, 0 => some { tmps := [0, 3, 4], loops := [], dead := [], stk := [] }
  | _, _, _ => none
noncomputable def fn83 (x : (List Int)) : Int := endVal (TC.dflt (.int .u64)) (step83 x) (tree83 x)
def pre83 (x : (List Int)) : Prop := ∃ r, Ends (step83 x) r (tree83 x)
noncomputable def spec83 : Spec := { dom := (.st1 (.slice (.int .u8))), cod := (.int .u64), n := 1, pre := pre83, f := fn83 }
noncomputable def need83 : FuncId → Option Spec
  | _ => none
theorem need83_ok : ∀ f sp, need83 f = some sp → SpecOk env0 f sp := by
  intro f sp h
  unfold need83 at h
  split at h
  · cases h
section
variable (W : Cfg) (Q : Int → Prop) (x : List Int)
theorem run83 : run (env need83 (fun _ _ => none)) stop83 (finS spec83 Q) W 100000 (startFr 83 Tryd.f83 (bodyOf Tryd.f83) (argsOf (.st1 (.slice (.int .u8))) x)) [] [] = (tree83 x).wp (kont W Q (head83 x)) := by kernel_rfl
theorem run83h0 (v1 v2 : Int) : run (env need83 (fun _ _ => none)) stop83 (finS spec83 Q) W 100000 (head83 x (.h0 v1 v2)).fr.enter (head83 x (.h0 v1 v2)).stk (head83 x (.h0 v1 v2)).H = (step83 x (.h0 v1 v2)).wp (kont W Q (head83 x)) := by kernel_rfl
end
theorem runs83 (W : Cfg) (Q : Int → Prop) (x : List Int) : ∀ j : J83, run (env need83 (fun _ _ => none)) stop83 (finS spec83 Q) W 100000 (head83 x j).fr.enter (head83 x j).stk (head83 x j).H = (step83 x j).wp (kont W Q (head83 x))
 | .h0 v1 v2 => run83h0 W Q x v1 v2
theorem ok83 : SpecOk env0 83 spec83 := SpecOk.env rfl (fun _ _ h => h) (spec_of_trees (E := (env need83 (fun _ _ => none))) (sp := spec83) (valid _ _) (fun f sp h => SpecOk.env rfl (fun _ _ h => h) (need83_ok f sp h)) (fn := Tryd.f83) (c := (bodyOf Tryd.f83)) (by kernel_rfl) (by kernel_rfl) tree83 step83 head83 run83 runs83 (fun _ h => endVal_ends h))
noncomputable def tree84 (x : Int) : Tr Bool :=
  .ite ((ieq x 19) == false) (
 .ite ((ieq x 20) == false) (
 .ite ((ieq x 16) == false) (
 .ite ((ieq x 17) == false) (
 .ret (ieq x 18)) (
 .ret true)) (
 .ret true)) (
 .ret true)) (
 .ret true)
noncomputable def fn84 (x : Int) : Bool := (tree84 x).val
def pre84 (x : Int) : Prop := (tree84 x).ok
noncomputable def spec84 : Spec := { dom := (.st1 (.int .u8)), cod := .bool, n := 1, pre := pre84, f := fn84 }
noncomputable def need84 : FuncId → Option Spec
  | _ => none
theorem need84_ok : ∀ f sp, need84 f = some sp → SpecOk env0 f sp := by
  intro f sp h
  unfold need84 at h
  split at h
  · cases h
section
variable (W : Cfg) (Q : Bool → Prop) (x : Int)
theorem run84 : run (env need84 (fun _ _ => none)) (fun _ _ _ => none) (finS spec84 Q) W 100000 (startFr 84 Tryd.f84 (bodyOf Tryd.f84) (argsOf (.st1 (.int .u8)) x)) [] [] = (tree84 x).wp Q := by kernel_rfl
end
theorem ok84 : SpecOk env0 84 spec84 := SpecOk.env rfl (fun _ _ h => h) (spec_of_tree (E := (env need84 (fun _ _ => none))) (sp := spec84) (valid _ _) (fun f sp h => SpecOk.env rfl (fun _ _ h => h) (need84_ok f sp h)) (fn := Tryd.f84) (c := (bodyOf Tryd.f84)) (by kernel_rfl) (by kernel_rfl) tree84 run84 (fun _ h => Tr.gives_val h))
noncomputable def tree157 (x : Int) : Tr Int :=
  .ret (imin (imax x 1) 8)
noncomputable def fn157 (x : Int) : Int := (tree157 x).val
def pre157 (x : Int) : Prop := (tree157 x).ok
noncomputable def spec157 : Spec := { dom := (.st1 (.int .i64)), cod := (.int .i64), n := 1, pre := pre157, f := fn157 }
noncomputable def need157 : FuncId → Option Spec
  | _ => none
theorem need157_ok : ∀ f sp, need157 f = some sp → SpecOk env0 f sp := by
  intro f sp h
  unfold need157 at h
  split at h
  · cases h
section
variable (W : Cfg) (Q : Int → Prop) (x : Int)
theorem run157 : run (env need157 (fun _ _ => none)) (fun _ _ _ => none) (finS spec157 Q) W 100000 (startFr 157 Tryd.f157 (bodyOf Tryd.f157) (argsOf (.st1 (.int .i64)) x)) [] [] = (tree157 x).wp Q := by kernel_rfl
end
theorem ok157 : SpecOk env0 157 spec157 := SpecOk.env rfl (fun _ _ h => h) (spec_of_tree (E := (env need157 (fun _ _ => none))) (sp := spec157) (valid _ _) (fun f sp h => SpecOk.env rfl (fun _ _ h => h) (need157_ok f sp h)) (fn := Tryd.f157) (c := (bodyOf Tryd.f157)) (by kernel_rfl) (by kernel_rfl) tree157 run157 (fun _ h => Tr.gives_val h))
inductive J109 where
 | h0 (v1 : Int) (v2 : Int)
noncomputable def tree109 (_x : Int) : Tr (J109 ⊕ Int) :=
  .ret (.inl (.h0 0 0))
noncomputable def step109 (x : Int) : J109 → Tr (J109 ⊕ Int)
 | .h0 v1 v2 =>
 .need (pre157 x) <|
 .ite (ilt v2 (imul .i64 8 (fn157 x))) (
 .need ((0 : Int) ≤ (iconv .u64 v2)) <|
 .ret (.inl (.h0 (ior .u64 v1 (ishl .u64 1 (iconv .u64 v2))) (iadd .i64 v2 1)))) (
 .ret (.inr v1))
noncomputable def head109 (x : Int) : J109 → Head
 | .h0 v1 v2 =>
 { fr := { id := 109, kind := .top, T := [(.int .i64 x), .any, .any, (.int .u64 v1), (.int .i64 v2)] ++ List.replicate 13 .any, items := [.lp (subc [1, 1, 0, 1, 0, 0] (bodyOf Tryd.f109)), .blk 0, .code (subc [1, 1, 1] (bodyOf Tryd.f109))], D := [], base := 0 },
   stk := [],
   H := [] }
noncomputable def stop109 : FuncId → Nat → Nat → Option Cut
  | 109, 0, 0 => some { tmps := [0, 3, 4], loops := [], dead := [], stk := [] }
  | _, _, _ => none
noncomputable def fn109 (x : Int) : Int := endVal (TC.dflt (.int .u64)) (step109 x) (tree109 x)
def pre109 (x : Int) : Prop := ∃ r, Ends (step109 x) r (tree109 x)
noncomputable def spec109 : Spec := { dom := (.st1 (.int .i64)), cod := (.int .u64), n := 1, pre := pre109, f := fn109 }
noncomputable def need109 : FuncId → Option Spec
  | 157 => some spec157
  | _ => none
theorem need109_ok : ∀ f sp, need109 f = some sp → SpecOk env0 f sp := by
  intro f sp h
  unfold need109 at h
  split at h
  · cases h; exact ok157
  · cases h
section
variable (W : Cfg) (Q : Int → Prop) (x : Int)
theorem run109 : run (env need109 (fun _ _ => none)) stop109 (finS spec109 Q) W 100000 (startFr 109 Tryd.f109 (bodyOf Tryd.f109) (argsOf (.st1 (.int .i64)) x)) [] [] = (tree109 x).wp (kont W Q (head109 x)) := by kernel_rfl
theorem run109h0 (v1 v2 : Int) : run (env need109 (fun _ _ => none)) stop109 (finS spec109 Q) W 100000 (head109 x (.h0 v1 v2)).fr.enter (head109 x (.h0 v1 v2)).stk (head109 x (.h0 v1 v2)).H = (step109 x (.h0 v1 v2)).wp (kont W Q (head109 x)) := by kernel_rfl
end
theorem runs109 (W : Cfg) (Q : Int → Prop) (x : Int) : ∀ j : J109, run (env need109 (fun _ _ => none)) stop109 (finS spec109 Q) W 100000 (head109 x j).fr.enter (head109 x j).stk (head109 x j).H = (step109 x j).wp (kont W Q (head109 x))
 | .h0 v1 v2 => run109h0 W Q x v1 v2
theorem ok109 : SpecOk env0 109 spec109 := SpecOk.env rfl (fun _ _ h => h) (spec_of_trees (E := (env need109 (fun _ _ => none))) (sp := spec109) (valid _ _) (fun f sp h => SpecOk.env rfl (fun _ _ h => h) (need109_ok f sp h)) (fn := Tryd.f109) (c := (bodyOf Tryd.f109)) (by kernel_rfl) (by kernel_rfl) tree109 step109 head109 run109 runs109 (fun _ h => endVal_ends h))
noncomputable def tree107 (x : (Int × Int)) : Tr Int :=
  .need (pre109 x.2) <|
  .ret (iand .u64 x.1 (fn109 x.2))
noncomputable def fn107 (x : (Int × Int)) : Int := (tree107 x).val
def pre107 (x : (Int × Int)) : Prop := (tree107 x).ok
noncomputable def spec107 : Spec := { dom := (.st (.int .u64) (.st1 (.int .i64))), cod := (.int .u64), n := 1, pre := pre107, f := fn107 }
noncomputable def need107 : FuncId → Option Spec
  | 109 => some spec109
  | _ => none
theorem need107_ok : ∀ f sp, need107 f = some sp → SpecOk env0 f sp := by
  intro f sp h
  unfold need107 at h
  split at h
  · cases h; exact ok109
  · cases h
section
variable (W : Cfg) (Q : Int → Prop) (x : (Int × Int))
theorem run107 : run (env need107 (fun _ _ => none)) (fun _ _ _ => none) (finS spec107 Q) W 100000 (startFr 107 Tryd.f107 (bodyOf Tryd.f107) (argsOf (.st (.int .u64) (.st1 (.int .i64))) x)) [] [] = (tree107 x).wp Q := by kernel_rfl
end
theorem ok107 : SpecOk env0 107 spec107 := SpecOk.env rfl (fun _ _ h => h) (spec_of_tree (E := (env need107 (fun _ _ => none))) (sp := spec107) (valid _ _) (fun f sp h => SpecOk.env rfl (fun _ _ h => h) (need107_ok f sp h)) (fn := Tryd.f107) (c := (bodyOf Tryd.f107)) (by kernel_rfl) (by kernel_rfl) tree107 run107 (fun _ h => Tr.gives_val h))
noncomputable def tree108 (x : (Int × Int)) : Tr Bool :=
  .need (pre157 x.2) <|
  let y0 : Int := (iconv .u64 (isub .i64 (imul .i64 8 (fn157 x.2)) 1))
  .need ((0 : Int) ≤ y0) <|
  .ret (ieq (iand .u64 (ishr .u64 x.1 y0) 1) 1)
noncomputable def fn108 (x : (Int × Int)) : Bool := (tree108 x).val
def pre108 (x : (Int × Int)) : Prop := (tree108 x).ok
noncomputable def spec108 : Spec := { dom := (.st (.int .u64) (.st1 (.int .i64))), cod := .bool, n := 1, pre := pre108, f := fn108 }
noncomputable def need108 : FuncId → Option Spec
  | 157 => some spec157
  | _ => none
theorem need108_ok : ∀ f sp, need108 f = some sp → SpecOk env0 f sp := by
  intro f sp h
  unfold need108 at h
  split at h
  · cases h; exact ok157
  · cases h
section
variable (W : Cfg) (Q : Bool → Prop) (x : (Int × Int))
theorem run108 : run (env need108 (fun _ _ => none)) (fun _ _ _ => none) (finS spec108 Q) W 100000 (startFr 108 Tryd.f108 (bodyOf Tryd.f108) (argsOf (.st (.int .u64) (.st1 (.int .i64))) x)) [] [] = (tree108 x).wp Q := by kernel_rfl
end
theorem ok108 : SpecOk env0 108 spec108 := SpecOk.env rfl (fun _ _ h => h) (spec_of_tree (E := (env need108 (fun _ _ => none))) (sp := spec108) (valid _ _) (fun f sp h => SpecOk.env rfl (fun _ _ h => h) (need108_ok f sp h)) (fn := Tryd.f108) (c := (bodyOf Tryd.f108)) (by kernel_rfl) (by kernel_rfl) tree108 run108 (fun _ h => Tr.gives_val h))
noncomputable def tree85 (x : (Int × Int)) : Tr Int :=
  .need (pre107 x) <|
  let y0 : (Int × Int) := ((fn107 x), x.2)
  .need (pre108 y0) <|
  .ite (fn108 y0) (
 .need (pre109 x.2) <|
 .ret (ior .u64 (fn107 x) (inot .u64 (fn109 x.2)))) (
 .ret (fn107 x))
noncomputable def fn85 (x : (Int × Int)) : Int := (tree85 x).val
def pre85 (x : (Int × Int)) : Prop := (tree85 x).ok
noncomputable def spec85 : Spec := { dom := (.st (.int .u64) (.st1 (.int .i64))), cod := (.int .u64), n := 1, pre := pre85, f := fn85 }
noncomputable def need85 : FuncId → Option Spec
  | 107 => some spec107
  | 108 => some spec108
  | 109 => some spec109
  | _ => none
theorem need85_ok : ∀ f sp, need85 f = some sp → SpecOk env0 f sp := by
  intro f sp h
  unfold need85 at h
  split at h
  · cases h; exact ok107
  · cases h; exact ok108
  · cases h; exact ok109
  · cases h
section
variable (W : Cfg) (Q : Int → Prop) (x : (Int × Int))
theorem run85 : run (env need85 (fun _ _ => none)) (fun _ _ _ => none) (finS spec85 Q) W 100000 (startFr 85 Tryd.f85 (bodyOf Tryd.f85) (argsOf (.st (.int .u64) (.st1 (.int .i64))) x)) [] [] = (tree85 x).wp Q := by kernel_rfl
end
theorem ok85 : SpecOk env0 85 spec85 := SpecOk.env rfl (fun _ _ h => h) (spec_of_tree (E := (env need85 (fun _ _ => none))) (sp := spec85) (valid _ _) (fun f sp h => SpecOk.env rfl (fun _ _ h => h) (need85_ok f sp h)) (fn := Tryd.f85) (c := (bodyOf Tryd.f85)) (by kernel_rfl) (by kernel_rfl) tree85 run85 (fun _ h => Tr.gives_val h))
noncomputable def tree51 (x : (DF × (List Int))) : Tr Int :=
  let y0 : (Int × (Int × (Int × (Int × (Int × (Bool × (Bool × (Bool × Bool)))))))) := x.1.2.2.2.2.2
  let y1 : Int := y0.2.2.2.2.1
  .need ((0 : Int) ≤ y1) <|
  let y2 : Nat := (y1).toNat
  .need ((0 : Nat) ≤ y2) <|
  .need ((y2 : Nat) ≤ x.2.length) <|
  let y3 : (List Int) := ((x.2.drop 0).take (y2 - 0))
  .need (pre83 y3) <|
  let y4 : Int := y0.1
  .need (pre84 y4) <|
  .ite (fn84 y4) (
 let y5 := (fn83 y3)
 .ret (iconv .i64 y5)) (
 let y6 := (fn83 y3)
 let y7 : (Int × Int) := (y6, (imax y1 1))
 .need (pre85 y7) <|
 .ret (iconv .i64 (fn85 y7)))
noncomputable def fn51 (x : (DF × (List Int))) : Int := (tree51 x).val
def pre51 (x : (DF × (List Int))) : Prop := (tree51 x).ok
noncomputable def spec51 : Spec := { dom := (.st CForm (.st1 (.slice (.int .u8)))), cod := (.int .i64), n := 1, pre := pre51, f := fn51 }
noncomputable def need51 : FuncId → Option Spec
  | 83 => some spec83
  | 84 => some spec84
  | 85 => some spec85
  | _ => none
theorem need51_ok : ∀ f sp, need51 f = some sp → SpecOk env0 f sp := by
  intro f sp h
  unfold need51 at h
  split at h
  · cases h; exact ok83
  · cases h; exact ok84
  · cases h; exact ok85
  · cases h
section
variable (W : Cfg) (Q : Int → Prop) (x : (DF × (List Int)))
theorem run51 : run (env need51 (fun _ _ => none)) (fun _ _ _ => none) (finS spec51 Q) W 100000 (startFr 51 Tryd.f51 (bodyOf Tryd.f51) (argsOf (.st CForm (.st1 (.slice (.int .u8)))) x)) [] [] = (tree51 x).wp Q := by kernel_rfl
end
theorem ok51 : SpecOk env0 51 spec51 := SpecOk.env rfl (fun _ _ h => h) (spec_of_tree (E := (env need51 (fun _ _ => none))) (sp := spec51) (valid _ _) (fun f sp h => SpecOk.env rfl (fun _ _ h => h) (need51_ok f sp h)) (fn := Tryd.f51) (c := (bodyOf Tryd.f51)) (by kernel_rfl) (by kernel_rfl) tree51 run51 (fun _ h => Tr.gives_val h))
noncomputable def tree86 (x : Int) : Tr DO :=
  .ret (3, (0, ((-1), ((-1), (0, (0, (false, x)))))))
noncomputable def fn86 (x : Int) : DO := (tree86 x).val
def pre86 (x : Int) : Prop := (tree86 x).ok
noncomputable def spec86 : Spec := { dom := (.st1 (.int .i64)), cod := CO, n := 1, pre := pre86, f := fn86 }
noncomputable def need86 : FuncId → Option Spec
  | _ => none
theorem need86_ok : ∀ f sp, need86 f = some sp → SpecOk env0 f sp := by
  intro f sp h
  unfold need86 at h
  split at h
  · cases h
section
variable (W : Cfg) (Q : DO → Prop) (x : Int)
theorem run86 : run (env need86 (fun _ _ => none)) (fun _ _ _ => none) (finS spec86 Q) W 100000 (startFr 86 Tryd.f86 (bodyOf Tryd.f86) (argsOf (.st1 (.int .i64)) x)) [] [] = (tree86 x).wp Q := by kernel_rfl
end
theorem ok86 : SpecOk env0 86 spec86 := SpecOk.env rfl (fun _ _ h => h) (spec_of_tree (E := (env need86 (fun _ _ => none))) (sp := spec86) (valid _ _) (fun f sp h => SpecOk.env rfl (fun _ _ h => h) (need86_ok f sp h)) (fn := Tryd.f86) (c := (bodyOf Tryd.f86)) (by kernel_rfl) (by kernel_rfl) tree86 run86 (fun _ h => Tr.gives_val h))
noncomputable def tree52 (x : (DI × (DF × (DO × (DO × (DO × Int)))))) : Tr DI :=
  let y0 : Int := x.2.1.2.2.2.2.2.2.2.2.1
  .ite (ieq y0 1) (
 let y1 := x.1.1
 let y2 := x.1.2
 let y3 := y2.1
 let y4 := y2.2
 let y5 := y4.1
 let y6 := x.2.2
 let y7 := y6.2
 let y8 := y7.1
 let y9 := y6.1
 let y10 := y4.2
 let y11 := y10.2
 let y12 := y11.2
 .ret (y1, (y3, (y5, (y8, (y9, y12)))))) (
 .ite (ieq y0 2) (
 let y13 := x.1.1
 let y14 := x.1.2
 let y15 := y14.1
 let y16 := y14.2
 let y17 := y16.1
 let y18 := x.2.2
 let y19 := y18.1
 let y20 := y18.2
 let y21 := y20.1
 let y22 := y16.2
 let y23 := y22.2
 let y24 := y23.2
 .ret (y13, (y15, (y17, (y19, (y21, y24)))))) (
 .ite (ieq y0 3) (
 let y25 := x.1.1
 let y26 := x.1.2
 let y27 := y26.1
 let y28 := y26.2
 let y29 := y28.1
 let y30 := x.2.2
 let y31 := y30.2
 let y32 := y31.1
 let y33 := y28.2
 let y34 := y33.2
 .ret (y25, (y27, (y29, (y32, y34))))) (
 .ite (ieq y0 4) (
 let y35 := x.2.2
 let y36 := y35.2
 let y37 := y36.2
 let y38 := y37.2
 .need (pre86 y38) <|
 let y39 := x.1.1
 let y40 := x.1.2
 let y41 := y40.1
 let y42 := y40.2
 let y43 := y42.1
 let y44 := y36.1
 let y45 := y42.2
 let y46 := y45.2
 let y47 := y46.2
 let y48 : (DO × (Int × Int)) := ((fn86 y38), y47)
 .ret (y39, (y41, (y43, (y44, y48))))) (
 .ite (ieq y0 5) (
 .need (pre35 1) <|
 let y49 := x.1.1
 let y50 := x.1.2
 let y51 := y50.1
 let y52 := y50.2
 let y53 := y52.1
 let y54 := x.2.2
 let y55 := y54.2
 let y56 := y55.1
 let y57 := y52.2
 let y58 := y57.2
 let y59 := y58.2
 .ret (y49, (y51, (y53, (y56, ((fn35 1), y59)))))) (
 .ite (ieq y0 6) (
 let y60 := x.1.1
 let y61 := x.1.2
 let y62 := y61.1
 let y63 := y61.2
 let y64 := y63.1
 let y65 := x.2.2
 let y66 := y65.2
 let y67 := y66.2
 let y68 := y67.1
 let y69 := y63.2
 let y70 := y69.2
 .ret (y60, (y62, (y64, (y68, y70))))) (
 .ite (ieq y0 7) (
 let y71 := x.2.2
 let y72 := y71.2
 let y73 := y72.2
 let y74 := y73.2
 .need (pre86 y74) <|
 let y75 := x.1.1
 let y76 := x.1.2
 let y77 := y76.1
 let y78 := y76.2
 let y79 := y78.1
 let y80 := y73.1
 let y81 := y78.2
 let y82 := y81.2
 let y83 := y82.2
 let y84 : (DO × (Int × Int)) := ((fn86 y74), y83)
 .ret (y75, (y77, (y79, (y80, y84))))) (
 .ite (ieq y0 8) (
 let y85 := x.2.2
 let y86 := y85.2
 let y87 := y86.2
 let y88 := y87.2
 .need (pre86 y88) <|
 let y89 := x.1.1
 let y90 := x.1.2
 let y91 := y90.1
 let y92 := y90.2
 let y93 := y92.1
 let y94 := y92.2
 let y95 := y94.2
 let y96 := y95.2
 let y97 : (DO × (Int × Int)) := ((fn86 y88), y96)
 .ret (y89, (y91, (y93, (y94.1, y97))))) (
 .ret x.1))))))))
noncomputable def fn52 (x : (DI × (DF × (DO × (DO × (DO × Int)))))) : DI := (tree52 x).val
def pre52 (x : (DI × (DF × (DO × (DO × (DO × Int)))))) : Prop := (tree52 x).ok
noncomputable def spec52 : Spec := { dom := (.st CInsn (.st CForm (.st CO (.st CO (.st CO (.st1 (.int .i64))))))), cod := CInsn, n := 1, pre := pre52, f := fn52 }
noncomputable def need52 : FuncId → Option Spec
  | 35 => some spec35
  | 86 => some spec86
  | _ => none
theorem need52_ok : ∀ f sp, need52 f = some sp → SpecOk env0 f sp := by
  intro f sp h
  unfold need52 at h
  split at h
  · cases h; exact ok35
  · cases h; exact ok86
  · cases h
section
variable (W : Cfg) (Q : DI → Prop) (x : (DI × (DF × (DO × (DO × (DO × Int))))))
theorem run52 : run (env need52 (fun _ _ => none)) (fun _ _ _ => none) (finS spec52 Q) W 100000 (startFr 52 Tryd.f52 (bodyOf Tryd.f52) (argsOf (.st CInsn (.st CForm (.st CO (.st CO (.st CO (.st1 (.int .i64))))))) x)) [] [] = (tree52 x).wp Q := by kernel_rfl
end
theorem ok52 : SpecOk env0 52 spec52 := SpecOk.env rfl (fun _ _ h => h) (spec_of_tree (E := (env need52 (fun _ _ => none))) (sp := spec52) (valid _ _) (fun f sp h => SpecOk.env rfl (fun _ _ h => h) (need52_ok f sp h)) (fn := Tryd.f52) (c := (bodyOf Tryd.f52)) (by kernel_rfl) (by kernel_rfl) tree52 run52 (fun _ h => Tr.gives_val h))
end Go.Eng.RE
end
section
/- Functions of this program, written out. -/
namespace Go.Eng.RE
open Go.Proofs Go.Eng
inductive J25 where
 | h0 (v22 : Dhead)
 | h1 (v1 : Int) (v23 : Dhead)
 | h2 (v1 : Bool) (v23 : Dhead) (v29 : DF)
 | h3 (v1 : Bool) (v2 : Int) (v3 : Int) (v25 : Dhead) (v31 : DF) (v61 : DO) (v69 : DO)
 | h4 (v1 : Bool) (v2 : Int) (v24 : Dhead) (v30 : DF) (v44 : DO) (v52 : DO)
 | h5 (v1 : Bool) (v2 : Int) (v24 : Dhead) (v30 : DF) (v44 : DO) (v52 : DO)
 | h6 (v1 : Int) (v23 : Dhead) (v29 : DF) (v43 : DO) (v51 : DO) (v59 : Int) (v60 : Int) (v61 : Int)
 | h7 (v0 : Int) (v22 : DF) (v36 : DI)
noncomputable def tree25 (x : (List Int)) : Tr (J25 ⊕ (DI × Int)) :=
  .need (pre47 x) <|
  .ite (!(fn47 x).2) (
 let y0 : (Int × (Int × (Int × (Int × (Int × (Int × (Bool × Int))))))) := (0, (0, (0, (0, (0, (0, (false, 0)))))))
 .ret (.inr ((0, (0, (0, (y0, (y0, (0, 0)))))), 80))) (
 .ret (.inl (.h0 (fn47 x).1)))
noncomputable def step25 (x : (List Int)) : J25 → Tr (J25 ⊕ (DI × Int))
 | .h0 v22 =>
 let y0 : Int := v22.2.2.2.2.2
 .ite (ilt y0 (x.length : Int)) (
 .need ((0 : Int) ≤ y0) <|
 .need (y0 < (x.length : Int)) <|
 .need ((0 : Int) ≤ 3) <|
 .ret (.inl (.h1 (iconv .i64 (iand .u8 (ishr .u8 (rdc (.int .u8) x (y0).toNat) 3) 7)) v22))) (
 .ret (.inl (.h1 0 v22)))
 | .h1 v1 v23 =>
 let y0 : (Int × (Int × (Int × Int))) := v23.2.2
 let y1 := y0.2
 let y2 : (Int × (Int × (Int × Int))) := (v23.1, (y1.1, (y1.2.1, v1)))
 .need (pre48 y2) <|
 .need ((0 : Int) ≤ 3) <|
 let y3 := (fn48 y2)
 .ite ((!y3.2) == false) (
 let y4 := y3.1
 .ite (y4.2.2.2.2.2.2.2.2.2.2.1 == true) (
 let y5 := (ieq (iand .u8 (ishr .u8 y0.1 3) 1) 1)
 .ite (!y5) (
 let y6 : (Int × (Int × (Int × (Int × (Int × (Int × (Bool × Int))))))) := (0, (0, (0, (0, (0, (0, (false, 0)))))))
 let y7 : ((Int × (Int × (Int × ((Int × (Int × (Int × (Int × (Int × (Int × (Bool × Int))))))) × ((Int × (Int × (Int × (Int × (Int × (Int × (Bool × Int))))))) × (Int × Int)))))) × Int) := ((0, (0, (0, (y6, (y6, (0, 0)))))), 80)
 .ret (.inr y7)) (
 .ret (.inl (.h2 y5 v23 y4)))) (
 let y8 := (ieq (iand .u8 (ishr .u8 y0.1 3) 1) 1)
 .ret (.inl (.h2 y8 v23 y4)))) (
 let y9 : (Int × (Int × (Int × (Int × (Int × (Int × (Bool × Int))))))) := (0, (0, (0, (0, (0, (0, (false, 0)))))))
 let y10 : ((Int × (Int × (Int × ((Int × (Int × (Int × (Int × (Int × (Int × (Bool × Int))))))) × ((Int × (Int × (Int × (Int × (Int × (Int × (Bool × Int))))))) × (Int × Int)))))) × Int) := ((0, (0, (0, (y9, (y9, (0, 0)))))), 80)
 .ret (.inr y10))
 | .h2 v1 v23 v29 =>
 let y0 : Int := v29.2.2.2.2.2.2.2.2.1
 .need (pre49 y0) <|
 .ite (!(fn49 y0)) (
 let y1 : Int := v23.2.2.2.2.2
 .need ((0 : Int) ≤ y1) <|
 let y2 : Nat := (y1).toNat
 .need ((y2 : Nat) ≤ x.length) <|
 let y3 : (Dhead × (DF × (List Int))) := (v23, (v29, (x.drop y2)))
 .need (pre50 y3) <|
 .both (
 let y4 := (fn50 y3)
 let y5 := y4.2
 let y6 := y5.2
 let y7 := (!y6.2)
 .ite y7 (
 let y8 : (Int × (Int × (Int × (Int × (Int × (Int × (Bool × Int))))))) := (0, (0, (0, (0, (0, (0, (false, 0)))))))
 let y9 : ((Int × (Int × (Int × ((Int × (Int × (Int × (Int × (Int × (Int × (Bool × Int))))))) × ((Int × (Int × (Int × (Int × (Int × (Int × (Bool × Int))))))) × (Int × Int)))))) × Int) := ((0, (0, (0, (y8, (y8, (0, 0)))))), 80)
 .ret (.inr y9)) (
 let y10 := y6.1
 let y11 := y4.1
 let y12 := y5.1
 .ret (.inl (.h3 v1 y1 y10 v23 v29 y11 y12)))) (
 let y13 := (fn50 y3)
 let y14 := y13.2
 let y15 := y14.2
 let y16 := (!y15.2)
 .ite y16 (
 let y17 : (Int × (Int × (Int × (Int × (Int × (Int × (Bool × Int))))))) := (0, (0, (0, (0, (0, (0, (false, 0)))))))
 let y18 : ((Int × (Int × (Int × ((Int × (Int × (Int × (Int × (Int × (Int × (Bool × Int))))))) × ((Int × (Int × (Int × (Int × (Int × (Int × (Bool × Int))))))) × (Int × Int)))))) × Int) := ((0, (0, (0, (y17, (y17, (0, 0)))))), 80)
 .ret (.inr y18)) (
 let y19 := y15.1
 let y20 := y13.1
 let y21 := y14.1
 .ret (.inl (.h3 v1 y1 y19 v23 v29 y20 y21))))) (
 let y22 : Int := v23.2.2.2.2.2
 let y23 : (Int × (Int × (Int × (Int × (Int × (Int × (Bool × Int))))))) := (0, (0, (0, (0, (0, (0, (false, 0)))))))
 .ret (.inl (.h4 v1 y22 v23 v29 y23 y23)))
 | .h3 v1 v2 v3 v25 v31 v61 v69 =>
 .ret (.inl (.h4 v1 (iadd .i64 v2 v3) v25 v31 v61 v69))
 | .h4 v1 v2 v24 v30 v44 v52 =>
 .ite (ilt (isub .i64 (x.length : Int) v2) v30.2.2.2.2.2.2.2.2.2.1) (
 let y0 : (Int × (Int × (Int × (Int × (Int × (Int × (Bool × Int))))))) := (0, (0, (0, (0, (0, (0, (false, 0)))))))
 .ret (.inr ((0, (0, (0, (y0, (y0, (0, 0)))))), 80))) (
 .ret (.inl (.h5 v1 v2 v24 v30 v44 v52)))
 | .h5 v1 v2 v24 v30 v44 v52 =>
 let y0 : (Int × (Int × (Int × (Int × (Int × (Bool × (Bool × (Bool × Bool)))))))) := v30.2.2.2.2.2
 let y1 := y0.2
 let y2 := y1.2.1
 .ite (ieq y2 0) (
 .ite v1 (
 let y3 := y0.1
 let y4 := y1.1
 .ret (.inl (.h6 v2 v24 v30 v44 v52 y3 y4 8))) (
 let y5 := y0.1
 let y6 := y1.1
 .ret (.inl (.h6 v2 v24 v30 v44 v52 y5 y6 4)))) (
 let y7 := y0.1
 let y8 := y1.1
 .ret (.inl (.h6 v2 v24 v30 v44 v52 y7 y8 y2)))
 | .h6 v1 v23 v29 v43 v51 v59 v60 v61 =>
 .need ((0 : Int) ≤ v1) <|
 .need (((v1).toNat : Nat) ≤ x.length) <|
 let y0 : (DF × (List Int)) := (v29, (x.drop (v1).toNat))
 .need (pre51 y0) <|
 let y1 : (Int × (Int × (Int × Int))) := v23.2.2
 let y2 : Int := (iadd .i64 (iconv .i64 (iand .u8 y1.2.2.1 7)) (imul .i64 (iconv .i64 (iand .u8 y1.1 1)) 8))
 .need (pre35 y2) <|
 let y3 : (Int × (Int × (Int × (Int × (Int × (Int × (Bool × Int))))))) := (0, (0, (0, (0, (0, (0, (false, 0)))))))
 let y4 := (fn51 y0)
 let y5 : ((Int × (Int × (Int × ((Int × (Int × (Int × (Int × (Int × (Int × (Bool × Int))))))) × ((Int × (Int × (Int × (Int × (Int × (Int × (Bool × Int))))))) × (Int × Int)))))) × (DF × (DO × (DO × (DO × Int))))) := ((v59, (v60, (v61, (y3, (y3, (0, 0)))))), (v29, (v43, (v51, ((fn35 y2), y4)))))
 .need (pre52 y5) <|
 .ite (ieq v29.2.2.2.2.2.1 39) (
 let y6 := (fn52 y5)
 let y7 := y6.2
 let y8 := y7.2
 let y9 := y8.2
 let y10 := y9.2
 .ret (.inl (.h7 v1 v29 (y6.1, (y7.1, (y8.1, (y9.1, (y10.1, ((iconv .u8 y4), y10.2.2))))))))) (
 let y11 := (fn52 y5)
 .ret (.inl (.h7 v1 v29 y11)))
 | .h7 v0 v22 v36 =>
 let y0 : (Int × (DO × (DO × (Int × Int)))) := v36.2.2
 let y1 := y0.2
 let y2 := y1.2
 .ret (.inr ((v36.1, (v36.2.1, (y0.1, (y1.1, (y2.1, (y2.2.1, (iadd .i64 v0 v22.2.2.2.2.2.2.2.2.2.1))))))), 0))
noncomputable def cREF11_0 : AObj := .cell true 25 (.agg [1, 1, 1, 8, 8, 1, 1] [(.int .u8 0), (.int .u8 0), (.int .i64 0), (.agg [1, 1, 1, 1, 1, 1, 1, 1] [(.int .u8 0), (.int .i64 0), (.int .i64 0), (.int .i64 0), (.int .i64 0), (.int .i64 0), (.bool false), (.int .i64 0)]), (.agg [1, 1, 1, 1, 1, 1, 1, 1] [(.int .u8 0), (.int .i64 0), (.int .i64 0), (.int .i64 0), (.int .i64 0), (.int .i64 0), (.bool false), (.int .i64 0)]), (.int .u8 0), (.int .i64 0)])
noncomputable def cREF11_1 : AObj := .cell true 23 (.agg [1, 1, 1, 1, 1, 1, 1, 1] [(.int .u8 0), (.int .i64 0), (.int .i64 0), (.int .i64 0), (.int .i64 0), (.int .i64 0), (.bool false), (.int .i64 0)])
noncomputable def head25 (x : (List Int)) : J25 → Head
 | .h0 v22 =>
 { fr := { id := 25, kind := .top, T := [(.fsl (.int .u8) x), .any, (.ptr 0 []), .any, (.ptr 1 [])] ++ List.replicate 144 .any, items := [.code (subc [1, 1, 1, 0] (bodyOf Tryd.f25)), .code (subc [1, 1, 1, 1] (bodyOf Tryd.f25))], D := [], base := 0 },
   stk := [],
   H := [cREF11_0, .cell true 77 (.agg [1, 1, 1, 1, 1, 1] [(.int .u8 v22.1), (.bool v22.2.1), (.int .u8 v22.2.2.1), (.int .u8 v22.2.2.2.1), (.int .u8 v22.2.2.2.2.1), (.int .i64 v22.2.2.2.2.2)])] }
 | .h1 v1 v23 =>
 { fr := { id := 25, kind := .top, T := [(.fsl (.int .u8) x), .any, (.ptr 0 []), .any, (.ptr 1 []), .any, (.int .i64 v1)] ++ List.replicate 142 .any, items := [.code (subc [1, 1, 1, 1, 1, 0] (bodyOf Tryd.f25)), .code (subc [1, 1, 1, 1, 1, 1] (bodyOf Tryd.f25))], D := [], base := 0 },
   stk := [],
   H := [cREF11_0, .cell true 77 (.agg [1, 1, 1, 1, 1, 1] [(.int .u8 v23.1), (.bool v23.2.1), (.int .u8 v23.2.2.1), (.int .u8 v23.2.2.2.1), (.int .u8 v23.2.2.2.2.1), (.int .i64 v23.2.2.2.2.2)])] }
 | .h2 v1 v23 v29 =>
 { fr := { id := 25, kind := .top, T := [(.fsl (.int .u8) x), .any, (.ptr 0 []), .any, (.ptr 1 []), .any, .any, (.ptr 2 []), (.bool v1)] ++ List.replicate 140 .any, items := [.code (subc [1, 1, 1, 1, 1, 1, 1, 1, 0] (bodyOf Tryd.f25)), .code (subc [1, 1, 1, 1, 1, 1, 1, 1, 1] (bodyOf Tryd.f25))], D := [], base := 0 },
   stk := [],
   H := [cREF11_0, .cell true 77 (.agg [1, 1, 1, 1, 1, 1] [(.int .u8 v23.1), (.bool v23.2.1), (.int .u8 v23.2.2.1), (.int .u8 v23.2.2.2.1), (.int .u8 v23.2.2.2.2.1), (.int .i64 v23.2.2.2.2.2)]), .cell true 51 (.agg [1, 1, 1, 1, 1, 1, 1, 1, 1, 1, 1, 1, 1, 1] [(.int .u8 v29.1), (.int .u8 v29.2.1), (.int .u8 v29.2.2.1), (.bool v29.2.2.2.1), (.int .i64 v29.2.2.2.2.1), (.int .u8 v29.2.2.2.2.2.1), (.int .u8 v29.2.2.2.2.2.2.1), (.int .i64 v29.2.2.2.2.2.2.2.1), (.int .u8 v29.2.2.2.2.2.2.2.2.1), (.int .i64 v29.2.2.2.2.2.2.2.2.2.1), (.bool v29.2.2.2.2.2.2.2.2.2.2.1), (.bool v29.2.2.2.2.2.2.2.2.2.2.2.1), (.bool v29.2.2.2.2.2.2.2.2.2.2.2.2.1), (.bool v29.2.2.2.2.2.2.2.2.2.2.2.2.2)])] }
 | .h3 v1 v2 v3 v25 v31 v61 v69 =>
 { fr := { id := 25, kind := .top, T := [(.fsl (.int .u8) x), .any, (.ptr 0 []), .any, (.ptr 1 []), .any, .any, (.ptr 2 []), (.bool v1), (.ptr 3 []), (.ptr 4 []), (.int .i64 v2), (.ptr 5 []), (.ptr 6 []), (.int .i64 v3)] ++ List.replicate 134 .any, items := [.code (subc [1, 1, 1, 1, 1, 1, 1, 1, 1, 1, 0, 1, 0, 1, 1, 0] (bodyOf Tryd.f25)), .code (subc [1, 1, 1, 1, 1, 1, 1, 1, 1, 1, 0, 1, 0, 1, 1, 1] (bodyOf Tryd.f25)), .code (subc [1, 1, 1, 1, 1, 1, 1, 1, 1, 1, 1] (bodyOf Tryd.f25))], D := [], base := 0 },
   stk := [],
   H := [cREF11_0, .cell true 77 (.agg [1, 1, 1, 1, 1, 1] [(.int .u8 v25.1), (.bool v25.2.1), (.int .u8 v25.2.2.1), (.int .u8 v25.2.2.2.1), (.int .u8 v25.2.2.2.2.1), (.int .i64 v25.2.2.2.2.2)]), .cell true 51 (.agg [1, 1, 1, 1, 1, 1, 1, 1, 1, 1, 1, 1, 1, 1] [(.int .u8 v31.1), (.int .u8 v31.2.1), (.int .u8 v31.2.2.1), (.bool v31.2.2.2.1), (.int .i64 v31.2.2.2.2.1), (.int .u8 v31.2.2.2.2.2.1), (.int .u8 v31.2.2.2.2.2.2.1), (.int .i64 v31.2.2.2.2.2.2.2.1), (.int .u8 v31.2.2.2.2.2.2.2.2.1), (.int .i64 v31.2.2.2.2.2.2.2.2.2.1), (.bool v31.2.2.2.2.2.2.2.2.2.2.1), (.bool v31.2.2.2.2.2.2.2.2.2.2.2.1), (.bool v31.2.2.2.2.2.2.2.2.2.2.2.2.1), (.bool v31.2.2.2.2.2.2.2.2.2.2.2.2.2)]), cREF11_1, cREF11_1, .cell true 23 (.agg [1, 1, 1, 1, 1, 1, 1, 1] [(.int .u8 v61.1), (.int .i64 v61.2.1), (.int .i64 v61.2.2.1), (.int .i64 v61.2.2.2.1), (.int .i64 v61.2.2.2.2.1), (.int .i64 v61.2.2.2.2.2.1), (.bool v61.2.2.2.2.2.2.1), (.int .i64 v61.2.2.2.2.2.2.2)]), .cell true 23 (.agg [1, 1, 1, 1, 1, 1, 1, 1] [(.int .u8 v69.1), (.int .i64 v69.2.1), (.int .i64 v69.2.2.1), (.int .i64 v69.2.2.2.1), (.int .i64 v69.2.2.2.2.1), (.int .i64 v69.2.2.2.2.2.1), (.bool v69.2.2.2.2.2.2.1), (.int .i64 v69.2.2.2.2.2.2.2)])] }
 | .h4 v1 v2 v24 v30 v44 v52 =>
 { fr := { id := 25, kind := .top, T := [(.fsl (.int .u8) x), .any, (.ptr 0 []), .any, (.ptr 1 []), .any, .any, (.ptr 2 []), (.bool v1), (.ptr 3 []), (.ptr 4 []), (.int .i64 v2)] ++ List.replicate 137 .any, items := [.code (subc [1, 1, 1, 1, 1, 1, 1, 1, 1, 1, 1, 0, 0] (bodyOf Tryd.f25)), .code (subc [1, 1, 1, 1, 1, 1, 1, 1, 1, 1, 1, 0, 1] (bodyOf Tryd.f25)), .code (subc [1, 1, 1, 1, 1, 1, 1, 1, 1, 1, 1, 1] (bodyOf Tryd.f25))], D := [], base := 0 },
   stk := [],
   H := [cREF11_0, .cell true 77 (.agg [1, 1, 1, 1, 1, 1] [(.int .u8 v24.1), (.bool v24.2.1), (.int .u8 v24.2.2.1), (.int .u8 v24.2.2.2.1), (.int .u8 v24.2.2.2.2.1), (.int .i64 v24.2.2.2.2.2)]), .cell true 51 (.agg [1, 1, 1, 1, 1, 1, 1, 1, 1, 1, 1, 1, 1, 1] [(.int .u8 v30.1), (.int .u8 v30.2.1), (.int .u8 v30.2.2.1), (.bool v30.2.2.2.1), (.int .i64 v30.2.2.2.2.1), (.int .u8 v30.2.2.2.2.2.1), (.int .u8 v30.2.2.2.2.2.2.1), (.int .i64 v30.2.2.2.2.2.2.2.1), (.int .u8 v30.2.2.2.2.2.2.2.2.1), (.int .i64 v30.2.2.2.2.2.2.2.2.2.1), (.bool v30.2.2.2.2.2.2.2.2.2.2.1), (.bool v30.2.2.2.2.2.2.2.2.2.2.2.1), (.bool v30.2.2.2.2.2.2.2.2.2.2.2.2.1), (.bool v30.2.2.2.2.2.2.2.2.2.2.2.2.2)]), .cell true 23 (.agg [1, 1, 1, 1, 1, 1, 1, 1] [(.int .u8 v44.1), (.int .i64 v44.2.1), (.int .i64 v44.2.2.1), (.int .i64 v44.2.2.2.1), (.int .i64 v44.2.2.2.2.1), (.int .i64 v44.2.2.2.2.2.1), (.bool v44.2.2.2.2.2.2.1), (.int .i64 v44.2.2.2.2.2.2.2)]), .cell true 23 (.agg [1, 1, 1, 1, 1, 1, 1, 1] [(.int .u8 v52.1), (.int .i64 v52.2.1), (.int .i64 v52.2.2.1), (.int .i64 v52.2.2.2.1), (.int .i64 v52.2.2.2.2.1), (.int .i64 v52.2.2.2.2.2.1), (.bool v52.2.2.2.2.2.2.1), (.int .i64 v52.2.2.2.2.2.2.2)])] }
 | .h5 v1 v2 v24 v30 v44 v52 =>
 { fr := { id := 25, kind := .top, T := [(.fsl (.int .u8) x), .any, (.ptr 0 []), .any, (.ptr 1 []), .any, .any, (.ptr 2 []), (.bool v1), (.ptr 3 []), (.ptr 4 []), (.int .i64 v2)] ++ List.replicate 137 .any, items := [.code (subc [1, 1, 1, 1, 1, 1, 1, 1, 1, 1, 1, 1, 0] (bodyOf Tryd.f25)), .code (subc [1, 1, 1, 1, 1, 1, 1, 1, 1, 1, 1, 1, 1] (bodyOf Tryd.f25))], D := [], base := 0 },
   stk := [],
   H := [cREF11_0, .cell true 77 (.agg [1, 1, 1, 1, 1, 1] [(.int .u8 v24.1), (.bool v24.2.1), (.int .u8 v24.2.2.1), (.int .u8 v24.2.2.2.1), (.int .u8 v24.2.2.2.2.1), (.int .i64 v24.2.2.2.2.2)]), .cell true 51 (.agg [1, 1, 1, 1, 1, 1, 1, 1, 1, 1, 1, 1, 1, 1] [(.int .u8 v30.1), (.int .u8 v30.2.1), (.int .u8 v30.2.2.1), (.bool v30.2.2.2.1), (.int .i64 v30.2.2.2.2.1), (.int .u8 v30.2.2.2.2.2.1), (.int .u8 v30.2.2.2.2.2.2.1), (.int .i64 v30.2.2.2.2.2.2.2.1), (.int .u8 v30.2.2.2.2.2.2.2.2.1), (.int .i64 v30.2.2.2.2.2.2.2.2.2.1), (.bool v30.2.2.2.2.2.2.2.2.2.2.1), (.bool v30.2.2.2.2.2.2.2.2.2.2.2.1), (.bool v30.2.2.2.2.2.2.2.2.2.2.2.2.1), (.bool v30.2.2.2.2.2.2.2.2.2.2.2.2.2)]), .cell true 23 (.agg [1, 1, 1, 1, 1, 1, 1, 1] [(.int .u8 v44.1), (.int .i64 v44.2.1), (.int .i64 v44.2.2.1), (.int .i64 v44.2.2.2.1), (.int .i64 v44.2.2.2.2.1), (.int .i64 v44.2.2.2.2.2.1), (.bool v44.2.2.2.2.2.2.1), (.int .i64 v44.2.2.2.2.2.2.2)]), .cell true 23 (.agg [1, 1, 1, 1, 1, 1, 1, 1] [(.int .u8 v52.1), (.int .i64 v52.2.1), (.int .i64 v52.2.2.1), (.int .i64 v52.2.2.2.1), (.int .i64 v52.2.2.2.2.1), (.int .i64 v52.2.2.2.2.2.1), (.bool v52.2.2.2.2.2.2.1), (.int .i64 v52.2.2.2.2.2.2.2)])] }
 | .h6 v1 v23 v29 v43 v51 v59 v60 v61 =>
 { fr := { id := 25, kind := .top, T := [(.fsl (.int .u8) x), .any, (.ptr 0 []), .any, (.ptr 1 []), .any, .any, (.ptr 2 []), .any, (.ptr 3 []), (.ptr 4 []), (.int .i64 v1)] ++ List.replicate 4 .any ++ [(.ptr 5 [])] ++ List.replicate 132 .any, items := [.code (subc [1, 1, 1, 1, 1, 1, 1, 1, 1, 1, 1, 1, 1, 1, 0] (bodyOf Tryd.f25)), .code (subc [1, 1, 1, 1, 1, 1, 1, 1, 1, 1, 1, 1, 1, 1, 1] (bodyOf Tryd.f25))], D := [], base := 0 },
   stk := [],
   H := [cREF11_0, .cell true 77 (.agg [1, 1, 1, 1, 1, 1] [(.int .u8 v23.1), (.bool v23.2.1), (.int .u8 v23.2.2.1), (.int .u8 v23.2.2.2.1), (.int .u8 v23.2.2.2.2.1), (.int .i64 v23.2.2.2.2.2)]), .cell true 51 (.agg [1, 1, 1, 1, 1, 1, 1, 1, 1, 1, 1, 1, 1, 1] [(.int .u8 v29.1), (.int .u8 v29.2.1), (.int .u8 v29.2.2.1), (.bool v29.2.2.2.1), (.int .i64 v29.2.2.2.2.1), (.int .u8 v29.2.2.2.2.2.1), (.int .u8 v29.2.2.2.2.2.2.1), (.int .i64 v29.2.2.2.2.2.2.2.1), (.int .u8 v29.2.2.2.2.2.2.2.2.1), (.int .i64 v29.2.2.2.2.2.2.2.2.2.1), (.bool v29.2.2.2.2.2.2.2.2.2.2.1), (.bool v29.2.2.2.2.2.2.2.2.2.2.2.1), (.bool v29.2.2.2.2.2.2.2.2.2.2.2.2.1), (.bool v29.2.2.2.2.2.2.2.2.2.2.2.2.2)]), .cell true 23 (.agg [1, 1, 1, 1, 1, 1, 1, 1] [(.int .u8 v43.1), (.int .i64 v43.2.1), (.int .i64 v43.2.2.1), (.int .i64 v43.2.2.2.1), (.int .i64 v43.2.2.2.2.1), (.int .i64 v43.2.2.2.2.2.1), (.bool v43.2.2.2.2.2.2.1), (.int .i64 v43.2.2.2.2.2.2.2)]), .cell true 23 (.agg [1, 1, 1, 1, 1, 1, 1, 1] [(.int .u8 v51.1), (.int .i64 v51.2.1), (.int .i64 v51.2.2.1), (.int .i64 v51.2.2.2.1), (.int .i64 v51.2.2.2.2.1), (.int .i64 v51.2.2.2.2.2.1), (.bool v51.2.2.2.2.2.2.1), (.int .i64 v51.2.2.2.2.2.2.2)]), .cell true 25 (.agg [1, 1, 1, 8, 8, 1, 1] [(.int .u8 v59), (.int .u8 v60), (.int .i64 v61), (.agg [1, 1, 1, 1, 1, 1, 1, 1] [(.int .u8 0), (.int .i64 0), (.int .i64 0), (.int .i64 0), (.int .i64 0), (.int .i64 0), (.bool false), (.int .i64 0)]), (.agg [1, 1, 1, 1, 1, 1, 1, 1] [(.int .u8 0), (.int .i64 0), (.int .i64 0), (.int .i64 0), (.int .i64 0), (.int .i64 0), (.bool false), (.int .i64 0)]), (.int .u8 0), (.int .i64 0)])] }
 | .h7 v0 v22 v36 =>
 { fr := { id := 25, kind := .top, T := [.any, .any, (.ptr 0 [])] ++ List.replicate 4 .any ++ [(.ptr 1 []), .any, .any, .any, (.int .i64 v0)] ++ List.replicate 4 .any ++ [(.ptr 2 [])] ++ List.replicate 132 .any, items := [.code (subc [1, 1, 1, 1, 1, 1, 1, 1, 1, 1, 1, 1, 1, 1, 1, 1, 1, 1, 0] (bodyOf Tryd.f25)), .code (subc [1, 1, 1, 1, 1, 1, 1, 1, 1, 1, 1, 1, 1, 1, 1, 1, 1, 1, 1] (bodyOf Tryd.f25))], D := [], base := 0 },
   stk := [],
   H := [cREF11_0, .cell true 51 (.agg [1, 1, 1, 1, 1, 1, 1, 1, 1, 1, 1, 1, 1, 1] [(.int .u8 v22.1), (.int .u8 v22.2.1), (.int .u8 v22.2.2.1), (.bool v22.2.2.2.1), (.int .i64 v22.2.2.2.2.1), (.int .u8 v22.2.2.2.2.2.1), (.int .u8 v22.2.2.2.2.2.2.1), (.int .i64 v22.2.2.2.2.2.2.2.1), (.int .u8 v22.2.2.2.2.2.2.2.2.1), (.int .i64 v22.2.2.2.2.2.2.2.2.2.1), (.bool v22.2.2.2.2.2.2.2.2.2.2.1), (.bool v22.2.2.2.2.2.2.2.2.2.2.2.1), (.bool v22.2.2.2.2.2.2.2.2.2.2.2.2.1), (.bool v22.2.2.2.2.2.2.2.2.2.2.2.2.2)]), .cell true 25 (.agg [1, 1, 1, 8, 8, 1, 1] [(.int .u8 v36.1), (.int .u8 v36.2.1), (.int .i64 v36.2.2.1), (.agg [1, 1, 1, 1, 1, 1, 1, 1] [(.int .u8 v36.2.2.2.1.1), (.int .i64 v36.2.2.2.1.2.1), (.int .i64 v36.2.2.2.1.2.2.1), (.int .i64 v36.2.2.2.1.2.2.2.1), (.int .i64 v36.2.2.2.1.2.2.2.2.1), (.int .i64 v36.2.2.2.1.2.2.2.2.2.1), (.bool v36.2.2.2.1.2.2.2.2.2.2.1), (.int .i64 v36.2.2.2.1.2.2.2.2.2.2.2)]), (.agg [1, 1, 1, 1, 1, 1, 1, 1] [(.int .u8 v36.2.2.2.2.1.1), (.int .i64 v36.2.2.2.2.1.2.1), (.int .i64 v36.2.2.2.2.1.2.2.1), (.int .i64 v36.2.2.2.2.1.2.2.2.1), (.int .i64 v36.2.2.2.2.1.2.2.2.2.1), (.int .i64 v36.2.2.2.2.1.2.2.2.2.2.1), (.bool v36.2.2.2.2.1.2.2.2.2.2.2.1), (.int .i64 v36.2.2.2.2.1.2.2.2.2.2.2.2)]), (.int .u8 v36.2.2.2.2.2.1), (.int .i64 v36.2.2.2.2.2.2)])] }
noncomputable def stop25 : FuncId → Nat → Nat → Option Cut
  | 25, 9, 0 => some { tmps := [0, 2, 4], loops := [], dead := [], stk := [] }
  | 25, 15, 0 => some { tmps := [0, 2, 4, 6], loops := [], dead := [], stk := [] }
  | 25, 23, 0 => some { tmps := [0, 2, 4, 7, 8], loops := [], dead := [], stk := [] }
  | 25, 35, 0 => some { tmps := [0, 2, 4, 7, 8, 9, 10, 11, 12, 13, 14], loops := [], dead := [], stk := [] }
  | 25, 39, 0 => some { tmps := [0, 2, 4, 7, 8, 9, 10, 11], loops := [], dead := [], stk := [] }
  | 25, 43, 0 => some { tmps := [0, 2, 4, 7, 8, 9, 10, 11], loops := [], dead := [], stk := [] }
  | 25, 53, 0 => some { tmps := [0, 2, 4, 7, 9, 10, 11, 16], loops := [], dead := [], stk := [] }
  | 25, 63, 0 => some { tmps := [2, 7, 11, 16], loops := [], dead := [], stk := [] }
  | _, _, _ => none
noncomputable def fn25 (x : (List Int)) : (DI × Int) := endVal (TC.dflt (.st CInsn (.st1 (.int .i64)))) (step25 x) (tree25 x)
def pre25 (x : (List Int)) : Prop := ∃ r, Ends (step25 x) r (tree25 x)
noncomputable def spec25 : Spec := { dom := (.st1 (.slice (.int .u8))), cod := (.st CInsn (.st1 (.int .i64))), n := 2, pre := pre25, f := fn25 }
noncomputable def need25 : FuncId → Option Spec
  | 35 => some spec35
  | 47 => some spec47
  | 48 => some spec48
  | 49 => some spec49
  | 50 => some spec50
  | 51 => some spec51
  | 52 => some spec52
  | _ => none
theorem need25_ok : ∀ f sp, need25 f = some sp → SpecOk env0 f sp := by
  intro f sp h
  unfold need25 at h
  split at h
  · cases h; exact ok35
  · cases h; exact ok47
  · cases h; exact ok48
  · cases h; exact ok49
  · cases h; exact ok50
  · cases h; exact ok51
  · cases h; exact ok52
  · cases h
section
variable (W : Cfg) (Q : (DI × Int) → Prop) (x : List Int)
theorem run25 : run (env need25 (fun _ _ => none)) stop25 (finS spec25 Q) W 100000 (startFr 25 Tryd.f25 (bodyOf Tryd.f25) (argsOf (.st1 (.slice (.int .u8))) x)) [] [] = (tree25 x).wp (kont W Q (head25 x)) := by kernel_rfl
theorem run25h0 (v22 : Dhead) : run (env need25 (fun _ _ => none)) stop25 (finS spec25 Q) W 100000 (head25 x (.h0 v22)).fr.enter (head25 x (.h0 v22)).stk (head25 x (.h0 v22)).H = (step25 x (.h0 v22)).wp (kont W Q (head25 x)) := by kernel_rfl
theorem run25h1 (v1 : Int) (v23 : Dhead) : run (env need25 (fun _ _ => none)) stop25 (finS spec25 Q) W 100000 (head25 x (.h1 v1 v23)).fr.enter (head25 x (.h1 v1 v23)).stk (head25 x (.h1 v1 v23)).H = (step25 x (.h1 v1 v23)).wp (kont W Q (head25 x)) := by kernel_rfl
theorem run25h2 (v1 : Bool) (v23 : Dhead) (v29 : DF) : run (env need25 (fun _ _ => none)) stop25 (finS spec25 Q) W 100000 (head25 x (.h2 v1 v23 v29)).fr.enter (head25 x (.h2 v1 v23 v29)).stk (head25 x (.h2 v1 v23 v29)).H = (step25 x (.h2 v1 v23 v29)).wp (kont W Q (head25 x)) := by kernel_rfl
theorem run25h3 (v1 : Bool) (v2 v3 : Int) (v25 : Dhead) (v31 : DF) (v61 v69 : DO) : run (env need25 (fun _ _ => none)) stop25 (finS spec25 Q) W 100000 (head25 x (.h3 v1 v2 v3 v25 v31 v61 v69)).fr.enter (head25 x (.h3 v1 v2 v3 v25 v31 v61 v69)).stk (head25 x (.h3 v1 v2 v3 v25 v31 v61 v69)).H = (step25 x (.h3 v1 v2 v3 v25 v31 v61 v69)).wp (kont W Q (head25 x)) := by kernel_rfl
theorem run25h4 (v1 : Bool) (v2 : Int) (v24 : Dhead) (v30 : DF) (v44 v52 : DO) : run (env need25 (fun _ _ => none)) stop25 (finS spec25 Q) W 100000 (head25 x (.h4 v1 v2 v24 v30 v44 v52)).fr.enter (head25 x (.h4 v1 v2 v24 v30 v44 v52)).stk (head25 x (.h4 v1 v2 v24 v30 v44 v52)).H = (step25 x (.h4 v1 v2 v24 v30 v44 v52)).wp (kont W Q (head25 x)) := by kernel_rfl
theorem run25h5 (v1 : Bool) (v2 : Int) (v24 : Dhead) (v30 : DF) (v44 v52 : DO) : run (env need25 (fun _ _ => none)) stop25 (finS spec25 Q) W 100000 (head25 x (.h5 v1 v2 v24 v30 v44 v52)).fr.enter (head25 x (.h5 v1 v2 v24 v30 v44 v52)).stk (head25 x (.h5 v1 v2 v24 v30 v44 v52)).H = (step25 x (.h5 v1 v2 v24 v30 v44 v52)).wp (kont W Q (head25 x)) := by kernel_rfl
theorem run25h6 (v1 : Int) (v23 : Dhead) (v29 : DF) (v43 v51 : DO) (v59 v60 v61 : Int) : run (env need25 (fun _ _ => none)) stop25 (finS spec25 Q) W 100000 (head25 x (.h6 v1 v23 v29 v43 v51 v59 v60 v61)).fr.enter (head25 x (.h6 v1 v23 v29 v43 v51 v59 v60 v61)).stk (head25 x (.h6 v1 v23 v29 v43 v51 v59 v60 v61)).H = (step25 x (.h6 v1 v23 v29 v43 v51 v59 v60 v61)).wp (kont W Q (head25 x)) := by kernel_rfl
theorem run25h7 (v0 : Int) (v22 : DF) (v36 : DI) : run (env need25 (fun _ _ => none)) stop25 (finS spec25 Q) W 100000 (head25 x (.h7 v0 v22 v36)).fr.enter (head25 x (.h7 v0 v22 v36)).stk (head25 x (.h7 v0 v22 v36)).H = (step25 x (.h7 v0 v22 v36)).wp (kont W Q (head25 x)) := by kernel_rfl
end
theorem runs25 (W : Cfg) (Q : (DI × Int) → Prop) (x : List Int) : ∀ j : J25, run (env need25 (fun _ _ => none)) stop25 (finS spec25 Q) W 100000 (head25 x j).fr.enter (head25 x j).stk (head25 x j).H = (step25 x j).wp (kont W Q (head25 x))
 | .h0 v22 => run25h0 W Q x v22
 | .h1 v1 v23 => run25h1 W Q x v1 v23
 | .h2 v1 v23 v29 => run25h2 W Q x v1 v23 v29
 | .h3 v1 v2 v3 v25 v31 v61 v69 => run25h3 W Q x v1 v2 v3 v25 v31 v61 v69
 | .h4 v1 v2 v24 v30 v44 v52 => run25h4 W Q x v1 v2 v24 v30 v44 v52
 | .h5 v1 v2 v24 v30 v44 v52 => run25h5 W Q x v1 v2 v24 v30 v44 v52
 | .h6 v1 v23 v29 v43 v51 v59 v60 v61 => run25h6 W Q x v1 v23 v29 v43 v51 v59 v60 v61
 | .h7 v0 v22 v36 => run25h7 W Q x v0 v22 v36
theorem ok25 : SpecOk env0 25 spec25 := SpecOk.env rfl (fun _ _ h => h) (spec_of_trees (E := (env need25 (fun _ _ => none))) (sp := spec25) (valid _ _) (fun f sp h => SpecOk.env rfl (fun _ _ h => h) (need25_ok f sp h)) (fn := Tryd.f25) (c := (bodyOf Tryd.f25)) (by kernel_rfl) (by kernel_rfl) tree25 step25 head25 run25 runs25 (fun _ h => endVal_ends h))
noncomputable def tree7 (x : (List Int)) : Tr Bool :=
  .ite (ilt 40 (x.length : Int)) (
 .need (pre13 ()) <|
 .ret (fn13 ())) (
 .need (pre25 x) <|
 .ite (ine (fn25 x).2 0) (
 .need (pre13 ()) <|
 .ret (fn13 ())) (
 let y0 := (fn25 x).1
 .need (pre14 y0) <|
 let y1 := (fn14 y0)
 let y2 := y1.1
 .need (pre25 y2) <|
 let y3 := y0.1
 let y4 := y0.2
 let y5 := y4.2
 let y6 := y5.2
 let y7 := y6.2
 let y8 := y7.2
 let y9 := (fn25 y2)
 let y10 := y9.1
 let y11 := y10.2.2.2.2.2.2
 let y12 : (Int × (Int × (Int × (DO × (DO × (Int × Int)))))) := (y3, (y4.1, (y5.1, (y6.1, (y7.1, (y8.1, y11))))))
 .need (pre19 y12) <|
 .ite ((fn19 y12) == true) (
 .ite ((ieq y1.2 0) == true) (
 .ite ((ieq y9.2 0) == true) (
 .ite ((eqD CInsn y10 y12) == true) (
 let y13 : Int := (y2.length : Int)
 .ite ((ieq y11 y13) == true) (
 .ite ((ile y13 y8.2) == false) (
 .ite ((ieq y3 28) == false) (
 .ite ((ieq y3 29) == true) (
 .need (pre13 ()) <|
 .ret (fn13 ())) (
 .ret false)) (
 .need (pre13 ()) <|
 .ret (fn13 ()))) (
 .need (pre13 ()) <|
 .ret (fn13 ()))) (
 .ret false)) (
 .ret false)) (
 .ret false)) (
 .ret false)) (
 .ret false)))
noncomputable def fn7 (x : (List Int)) : Bool := (tree7 x).val
def pre7 (x : (List Int)) : Prop := (tree7 x).ok
noncomputable def spec7 : Spec := { dom := (.st1 (.slice (.int .u8))), cod := .bool, n := 1, pre := pre7, f := fn7 }
noncomputable def need7 : FuncId → Option Spec
  | 13 => some spec13
  | 14 => some spec14
  | 19 => some spec19
  | 25 => some spec25
  | _ => none
theorem need7_ok : ∀ f sp, need7 f = some sp → SpecOk env0 f sp := by
  intro f sp h
  unfold need7 at h
  split at h
  · cases h; exact ok13
  · cases h; exact ok14
  · cases h; exact ok19
  · cases h; exact ok25
  · cases h
section
variable (W : Cfg) (Q : Bool → Prop) (x : List Int)
theorem run7 : run (env need7 (fun _ _ => none)) (fun _ _ _ => none) (finS spec7 Q) W 100000 (startFr 7 Tryd.f7 (bodyOf Tryd.f7) (argsOf (.st1 (.slice (.int .u8))) x)) [] [] = (tree7 x).wp Q := by kernel_rfl
end
theorem ok7 : SpecOk env0 7 spec7 := SpecOk.env rfl (fun _ _ h => h) (spec_of_tree (E := (env need7 (fun _ _ => none))) (sp := spec7) (valid _ _) (fun f sp h => SpecOk.env rfl (fun _ _ h => h) (need7_ok f sp h)) (fn := Tryd.f7) (c := (bodyOf Tryd.f7)) (by kernel_rfl) (by kernel_rfl) tree7 run7 (fun _ h => Tr.gives_val h))
end Go.Eng.RE
end
section
/- The forms, as data; what the functions that tell them come to. -/
namespace Go.Eng.RE
open Go.Eng
def lMoves : List DF := [(0, 0, 137, false, (-1), 1, 0, 0, 1, 0, false, false, false, false),
  (0, 0, 139, false, (-1), 1, 0, 0, 2, 0, false, false, false, false),
  (0, 0, 199, false, 0, 1, 0, 0, 4, 4, false, false, false, false),
  (0, 0, 184, true, (-1), 1, 0, 8, 7, 8, true, false, false, false),
  (0, 0, 136, false, (-1), 1, 0, 1, 1, 0, false, false, true, false),
  (0, 0, 138, false, (-1), 1, 0, 1, 2, 0, false, false, true, false),
  (0, 0, 198, false, 0, 1, 0, 1, 4, 1, false, false, true, false),
  (0, 0, 141, false, (-1), 2, 0, 0, 2, 0, false, false, false, true)]
def lSums : List DF := [(0, 0, 1, false, (-1), 3, 0, 0, 1, 0, false, false, false, false),
  (0, 0, 3, false, (-1), 3, 0, 0, 2, 0, false, false, false, false),
  (0, 0, 9, false, (-1), 4, 0, 0, 1, 0, false, false, false, false),
  (0, 0, 11, false, (-1), 4, 0, 0, 2, 0, false, false, false, false),
  (0, 0, 17, false, (-1), 5, 0, 0, 1, 0, false, false, false, false),
  (0, 0, 19, false, (-1), 5, 0, 0, 2, 0, false, false, false, false),
  (0, 0, 25, false, (-1), 6, 0, 0, 1, 0, false, false, false, false),
  (0, 0, 27, false, (-1), 6, 0, 0, 2, 0, false, false, false, false),
  (0, 0, 33, false, (-1), 7, 0, 0, 1, 0, false, false, false, false),
  (0, 0, 35, false, (-1), 7, 0, 0, 2, 0, false, false, false, false),
  (0, 0, 41, false, (-1), 8, 0, 0, 1, 0, false, false, false, false),
  (0, 0, 43, false, (-1), 8, 0, 0, 2, 0, false, false, false, false),
  (0, 0, 49, false, (-1), 9, 0, 0, 1, 0, false, false, false, false),
  (0, 0, 51, false, (-1), 9, 0, 0, 2, 0, false, false, false, false),
  (0, 0, 57, false, (-1), 10, 0, 0, 1, 0, false, false, false, false),
  (0, 0, 59, false, (-1), 10, 0, 0, 2, 0, false, false, false, false),
  (0, 0, 131, false, 0, 3, 0, 0, 4, 1, false, false, false, false),
  (0, 0, 129, false, 0, 3, 0, 0, 4, 4, false, false, false, false),
  (0, 0, 131, false, 1, 4, 0, 0, 4, 1, false, false, false, false),
  (0, 0, 129, false, 1, 4, 0, 0, 4, 4, false, false, false, false),
  (0, 0, 131, false, 2, 5, 0, 0, 4, 1, false, false, false, false),
  (0, 0, 129, false, 2, 5, 0, 0, 4, 4, false, false, false, false),
  (0, 0, 131, false, 3, 6, 0, 0, 4, 1, false, false, false, false),
  (0, 0, 129, false, 3, 6, 0, 0, 4, 4, false, false, false, false),
  (0, 0, 131, false, 4, 7, 0, 0, 4, 1, false, false, false, false),
  (0, 0, 129, false, 4, 7, 0, 0, 4, 4, false, false, false, false),
  (0, 0, 131, false, 5, 8, 0, 0, 4, 1, false, false, false, false),
  (0, 0, 129, false, 5, 8, 0, 0, 4, 4, false, false, false, false),
  (0, 0, 131, false, 6, 9, 0, 0, 4, 1, false, false, false, false),
  (0, 0, 129, false, 6, 9, 0, 0, 4, 4, false, false, false, false),
  (0, 0, 131, false, 7, 10, 0, 0, 4, 1, false, false, false, false),
  (0, 0, 129, false, 7, 10, 0, 0, 4, 4, false, false, false, false),
  (0, 0, 133, false, (-1), 11, 0, 0, 1, 0, false, false, false, false),
  (0, 0, 247, false, 0, 11, 0, 0, 4, 4, false, false, false, false),
  (0, 0, 255, false, 0, 12, 0, 0, 3, 0, false, false, false, false),
  (0, 0, 255, false, 1, 13, 0, 0, 3, 0, false, false, false, false),
  (0, 0, 247, false, 2, 15, 0, 0, 3, 0, false, false, false, false),
  (0, 0, 247, false, 3, 14, 0, 0, 3, 0, false, false, false, false),
  (0, 0, 247, false, 4, 22, 0, 0, 3, 0, false, false, false, false),
  (0, 0, 247, false, 6, 23, 0, 0, 3, 0, false, false, false, false),
  (0, 0, 193, false, 0, 19, 0, 0, 4, 1, false, false, false, false),
  (0, 0, 211, false, 0, 19, 0, 0, 5, 0, false, false, false, false),
  (0, 0, 193, false, 1, 20, 0, 0, 4, 1, false, false, false, false),
  (0, 0, 211, false, 1, 20, 0, 0, 5, 0, false, false, false, false),
  (0, 0, 193, false, 4, 16, 0, 0, 4, 1, false, false, false, false),
  (0, 0, 211, false, 4, 16, 0, 0, 5, 0, false, false, false, false),
  (0, 0, 193, false, 5, 17, 0, 0, 4, 1, false, false, false, false),
  (0, 0, 211, false, 5, 17, 0, 0, 5, 0, false, false, false, false),
  (0, 0, 193, false, 7, 18, 0, 0, 4, 1, false, false, false, false),
  (0, 0, 211, false, 7, 18, 0, 0, 5, 0, false, false, false, false),
  (0, 1, 175, false, (-1), 21, 0, 0, 2, 0, false, false, false, false)]
def lFlowsA : List DF := [(0, 0, 80, true, (-1), 24, 0, 8, 6, 0, false, false, false, false),
  (0, 0, 88, true, (-1), 25, 0, 8, 6, 0, false, false, false, false),
  (0, 0, 232, false, (-1), 26, 0, 8, 8, 4, false, false, false, false),
  (0, 0, 195, false, (-1), 27, 0, 8, 0, 0, false, false, false, false),
  (0, 0, 233, false, (-1), 28, 0, 8, 8, 4, false, false, false, false),
  (0, 0, 235, false, (-1), 28, 0, 8, 8, 1, false, false, false, false),
  (0, 0, 255, false, 4, 28, 0, 8, 3, 0, false, false, false, false),
  (0, 1, 128, false, (-1), 29, 0, 8, 8, 4, false, false, false, false),
  (0, 0, 112, false, (-1), 29, 0, 8, 8, 1, false, false, false, false),
  (0, 1, 129, false, (-1), 29, 1, 8, 8, 4, false, false, false, false),
  (0, 0, 113, false, (-1), 29, 1, 8, 8, 1, false, false, false, false),
  (0, 1, 130, false, (-1), 29, 2, 8, 8, 4, false, false, false, false),
  (0, 0, 114, false, (-1), 29, 2, 8, 8, 1, false, false, false, false),
  (0, 1, 131, false, (-1), 29, 3, 8, 8, 4, false, false, false, false),
  (0, 0, 115, false, (-1), 29, 3, 8, 8, 1, false, false, false, false),
  (0, 1, 132, false, (-1), 29, 4, 8, 8, 4, false, false, false, false),
  (0, 0, 116, false, (-1), 29, 4, 8, 8, 1, false, false, false, false),
  (0, 1, 133, false, (-1), 29, 5, 8, 8, 4, false, false, false, false),
  (0, 0, 117, false, (-1), 29, 5, 8, 8, 1, false, false, false, false),
  (0, 1, 134, false, (-1), 29, 6, 8, 8, 4, false, false, false, false),
  (0, 0, 118, false, (-1), 29, 6, 8, 8, 1, false, false, false, false),
  (0, 1, 135, false, (-1), 29, 7, 8, 8, 4, false, false, false, false),
  (0, 0, 119, false, (-1), 29, 7, 8, 8, 1, false, false, false, false),
  (0, 1, 136, false, (-1), 29, 8, 8, 8, 4, false, false, false, false),
  (0, 0, 120, false, (-1), 29, 8, 8, 8, 1, false, false, false, false),
  (0, 1, 137, false, (-1), 29, 9, 8, 8, 4, false, false, false, false),
  (0, 0, 121, false, (-1), 29, 9, 8, 8, 1, false, false, false, false),
  (0, 1, 138, false, (-1), 29, 10, 8, 8, 4, false, false, false, false),
  (0, 0, 122, false, (-1), 29, 10, 8, 8, 1, false, false, false, false),
  (0, 1, 139, false, (-1), 29, 11, 8, 8, 4, false, false, false, false),
  (0, 0, 123, false, (-1), 29, 11, 8, 8, 1, false, false, false, false),
  (0, 1, 140, false, (-1), 29, 12, 8, 8, 4, false, false, false, false),
  (0, 0, 124, false, (-1), 29, 12, 8, 8, 1, false, false, false, false),
  (0, 1, 141, false, (-1), 29, 13, 8, 8, 4, false, false, false, false),
  (0, 0, 125, false, (-1), 29, 13, 8, 8, 1, false, false, false, false),
  (0, 1, 142, false, (-1), 29, 14, 8, 8, 4, false, false, false, false),
  (0, 0, 126, false, (-1), 29, 14, 8, 8, 1, false, false, false, false),
  (0, 1, 143, false, (-1), 29, 15, 8, 8, 4, false, false, false, false),
  (0, 0, 127, false, (-1), 29, 15, 8, 8, 1, false, false, false, false)]
def lFlowsB : List DF := [(0, 1, 64, false, (-1), 30, 0, 0, 2, 0, false, false, false, false),
  (0, 1, 65, false, (-1), 30, 1, 0, 2, 0, false, false, false, false),
  (0, 1, 66, false, (-1), 30, 2, 0, 2, 0, false, false, false, false),
  (0, 1, 67, false, (-1), 30, 3, 0, 2, 0, false, false, false, false),
  (0, 1, 68, false, (-1), 30, 4, 0, 2, 0, false, false, false, false),
  (0, 1, 69, false, (-1), 30, 5, 0, 2, 0, false, false, false, false),
  (0, 1, 70, false, (-1), 30, 6, 0, 2, 0, false, false, false, false),
  (0, 1, 71, false, (-1), 30, 7, 0, 2, 0, false, false, false, false),
  (0, 1, 72, false, (-1), 30, 8, 0, 2, 0, false, false, false, false),
  (0, 1, 73, false, (-1), 30, 9, 0, 2, 0, false, false, false, false),
  (0, 1, 74, false, (-1), 30, 10, 0, 2, 0, false, false, false, false),
  (0, 1, 75, false, (-1), 30, 11, 0, 2, 0, false, false, false, false),
  (0, 1, 76, false, (-1), 30, 12, 0, 2, 0, false, false, false, false),
  (0, 1, 77, false, (-1), 30, 13, 0, 2, 0, false, false, false, false),
  (0, 1, 78, false, (-1), 30, 14, 0, 2, 0, false, false, false, false),
  (0, 1, 79, false, (-1), 30, 15, 0, 2, 0, false, false, false, false)]
def lFlowsC : List DF := [(0, 1, 144, false, 0, 31, 0, 1, 3, 0, false, false, true, false),
  (0, 1, 145, false, 0, 31, 1, 1, 3, 0, false, false, true, false),
  (0, 1, 146, false, 0, 31, 2, 1, 3, 0, false, false, true, false),
  (0, 1, 147, false, 0, 31, 3, 1, 3, 0, false, false, true, false),
  (0, 1, 148, false, 0, 31, 4, 1, 3, 0, false, false, true, false),
  (0, 1, 149, false, 0, 31, 5, 1, 3, 0, false, false, true, false),
  (0, 1, 150, false, 0, 31, 6, 1, 3, 0, false, false, true, false),
  (0, 1, 151, false, 0, 31, 7, 1, 3, 0, false, false, true, false),
  (0, 1, 152, false, 0, 31, 8, 1, 3, 0, false, false, true, false),
  (0, 1, 153, false, 0, 31, 9, 1, 3, 0, false, false, true, false),
  (0, 1, 154, false, 0, 31, 10, 1, 3, 0, false, false, true, false),
  (0, 1, 155, false, 0, 31, 11, 1, 3, 0, false, false, true, false),
  (0, 1, 156, false, 0, 31, 12, 1, 3, 0, false, false, true, false),
  (0, 1, 157, false, 0, 31, 13, 1, 3, 0, false, false, true, false),
  (0, 1, 158, false, 0, 31, 14, 1, 3, 0, false, false, true, false),
  (0, 1, 159, false, 0, 31, 15, 1, 3, 0, false, false, true, false)]
def lOthers : List DF := [(0, 1, 182, false, (-1), 32, 0, 0, 2, 0, false, false, true, false),
  (0, 1, 190, false, (-1), 33, 0, 0, 2, 0, false, false, true, false),
  (0, 0, 144, false, (-1), 34, 0, 8, 0, 0, false, false, false, false),
  (243, 1, 111, false, (-1), 35, 0, 16, 2, 0, false, true, false, false),
  (243, 1, 127, false, (-1), 35, 0, 16, 1, 0, false, true, false, false),
  (102, 1, 239, false, (-1), 36, 0, 16, 2, 0, false, true, false, false),
  (102, 2, 220, false, (-1), 37, 0, 16, 2, 0, false, true, false, false),
  (102, 2, 221, false, (-1), 38, 0, 16, 2, 0, false, true, false, false),
  (102, 3, 68, false, (-1), 39, 0, 16, 2, 1, false, true, false, false)]
def forms : List DF := lMoves ++ lSums ++ (lFlowsA ++ lFlowsB ++ lFlowsC) ++ lOthers
theorem fn63_eq : fn63 () = lSums := by kernel_rfl
theorem fn64_eq : fn64 () = lFlowsA ++ lFlowsB ++ lFlowsC := by kernel_rfl
theorem fn65_eq : fn65 () = lOthers := by kernel_rfl
end Go.Eng.RE
end
section
/- What the functions that tell the forms need holds; rows put one behind the other. -/
namespace Go.Eng.RE
open Go.Eng
def zf : DF := (0, (0, (0, (false, (0, (0, (0, (0, (0, (0, (false, (false, (false, false)))))))))))))
section
variable (xs : List (List DF)) (hx : xs.flatten.length ≤ 1000000) (hl : xs.length ≤ 1000000)
include hx hl
end
end Go.Eng.RE
end
section
/- The forms: what is told of them, found among them. -/
namespace Go.Eng.RE
open Go.Eng
abbrev Key := Int × Int × Int × Int
def codeB (f : DF) (op : Int) : Bool := if f.2.2.2.1 then ieq (iandn .u8 op 7) (iandn .u8 f.2.2.1 7) else ieq op f.2.2.1
def codeR (f : DF) (op : Int) : Bool := if f.2.2.2.1 then ieq (iand .u8 op 248) (iand .u8 f.2.2.1 248) else ieq op f.2.2.1
theorem pre104_ok (x) : pre104 x := by
  unfold pre104 tree104; simp only [ok_ite, ok_ret]; simp
theorem fn104_ok (x : DF × Int) : fn104 x = codeR x.1 x.2 := by
  unfold fn104 tree104 codeR; simp only [val_ite, val_ret]; cases x.1.2.2.2.1 <;> rfl
def fitsB (f : DF) (k : Key) : Bool := ieq f.1 k.1 && (ieq f.2.1 k.2.1 && (codeB f k.2.2.1 && (ieq f.2.2.2.2.1 (-1) || ieq f.2.2.2.2.1 k.2.2.2)))
theorem andn7 (a : Int) (h0 : 0 ≤ a) (h1 : a < 256) : iandn .u8 a 7 = iand .u8 a 248 := by
  have : ∀ n : Fin 256, iandn .u8 (n.val : Int) 7 = iand .u8 (n.val : Int) 248 := by decide
  have h := this ⟨a.toNat, by omega⟩
  simpa [Int.toNat_of_nonneg h0] using h
def isB (a : Int) : Prop := 0 ≤ a ∧ a < 256
theorem code_eq (f : DF) (op : Int) (h1 : isB f.2.2.1) (h2 : isB op) : codeR f op = codeB f op := by
  unfold codeR codeB
  rw [andn7 _ h1.1 h1.2, andn7 _ h2.1 h2.2]
theorem pre81_ok (x) : pre81 x := by
  unfold pre81 tree81; simp only [ok_ite, ok_need, ok_ret, pre104_ok]; simp
theorem fn81_ok (x : DF × Key) (h1 : isB x.1.2.2.1) (h2 : isB x.2.2.2.1) : fn81 x = fitsB x.1 x.2 := by
  unfold fn81 tree81 fitsB; simp only [val_ite, val_need, val_ret, fn104_ok, code_eq _ _ h1 h2]
  cases ieq x.1.1 x.2.1 <;> cases ieq x.1.2.1 x.2.2.1 <;> cases codeB x.1 x.2.2.2.1 <;> cases ieq x.1.2.2.2.2.1 (-1) <;> simp
def isBb (a : Int) : Bool := decide (0 ≤ a) && decide (a < 256)
theorem forms_byte : ∀ f ∈ forms, isB f.2.2.1 := by
  have : forms.all (fun f => isBb f.2.2.1) = true := by decide +kernel
  intro f hf
  have := List.all_eq_true.1 this f hf
  simpa [isBb, isB] using this
def apartF (f g : DF) : Bool := !(ieq f.1 g.1) || (!(ieq f.2.1 g.2.1) || ((if f.2.2.2.1 || g.2.2.2.1 then !(ieq (iandn .u8 f.2.2.1 7) (iandn .u8 g.2.2.1 7)) else !(ieq f.2.2.1 g.2.2.1)) ||
  (!(ieq f.2.2.2.2.1 (-1)) && (!(ieq g.2.2.2.2.1 (-1)) && !(ieq f.2.2.2.2.1 g.2.2.2.2.1)))))
theorem apart_no {f g : DF} {k : Key} (h : apartF f g = true) (h1 : fitsB f k = true) : fitsB g k = false := by
  cases h2 : fitsB g k with
  | false => rfl
  | true =>
    exfalso
    simp only [fitsB, Bool.and_eq_true, Bool.or_eq_true, ieq_iff] at h1 h2
    obtain ⟨a1, a2, a3, a4⟩ := h1
    obtain ⟨b1, b2, b3, b4⟩ := h2
    simp only [apartF, Bool.or_eq_true, Bool.and_eq_true, Bool.not_eq_true', ieq_no] at h
    rcases h with h | h | h | ⟨h1, h2, h3⟩
    · exact h (a1.trans b1.symm)
    · exact h (a2.trans b2.symm)
    · have key : ∀ {f : DF}, codeB f k.2.2.1 = true → iandn .u8 k.2.2.1 7 = iandn .u8 f.2.2.1 7 := by
        intro f hf
        unfold codeB at hf
        split at hf
        · exact ieq_iff.1 hf
        · rw [ieq_iff.1 hf]
      split at h
      · rw [Bool.not_eq_true', ieq_no] at h
        exact h ((key a3).symm.trans (key b3))
      · rename_i hp
        simp only [not_or, Bool.not_eq_true] at hp
        rw [Bool.not_eq_true', ieq_no] at h
        unfold codeB at a3 b3
        rw [hp.1] at a3
        rw [hp.2] at b3
        simp only [Bool.false_eq_true, if_false, ieq_iff] at a3 b3
        exact h (a3.symm.trans b3)
    · rcases a4 with a4 | a4
      · exact h1 a4
      · rcases b4 with b4 | b4
        · exact h2 b4
        · exact h3 (a4.trans b4.symm)
def pairB (p : DF → DF → Bool) : List DF → Bool
  | [] => true
  | f :: l => l.all (p f) && pairB p l
theorem forms_apart : pairB apartF forms = true := by decide +kernel
theorem pair_spec {p : DF → DF → Bool} : ∀ {l : List DF}, pairB p l = true → l.Pairwise fun f g => p f g = true
  | [], _ => .nil
  | f :: l, h => by
    simp only [pairB, Bool.and_eq_true] at h
    exact .cons (fun g hg => List.all_eq_true.1 h.1 g hg) (pair_spec h.2)
theorem one_fits {k : Key} : forms.Pairwise fun f g => fitsB f k = true → fitsB g k = false :=
  (pair_spec forms_apart).imp fun h h1 => apart_no h h1
def foundB (k : Key) : DF × Bool := match forms.find? (fun f => fitsB f k) with | some f => (f, true) | none => (zf, false)
theorem find_of_fits {k : Key} : ∀ {l : List DF}, (l.Pairwise fun f g => fitsB f k = true → fitsB g k = false) → ∀ {f : DF}, f ∈ l → fitsB f k = true → l.find? (fun f => fitsB f k) = some f
  | [], _, _, hf, _ => nomatch hf
  | b :: l, hp, f, hf, hk => by
    cases hp with
    | cons h1 h2 =>
      rcases List.mem_cons.1 hf with rfl | hf
      · simp [hk]
      · have : fitsB b k = false := by
          cases ha : fitsB b k with
          | false => rfl
          | true => have := h1 _ hf ha; rw [hk] at this; cases this
        rw [List.find?_cons, this]
        exact find_of_fits h2 hf hk
theorem found_of {k : Key} {f : DF} (hf : f ∈ forms) (hk : fitsB f k = true) : foundB k = (f, true) := by
  unfold foundB; rw [find_of_fits one_fits hf hk]
theorem found_some {k : Key} (h : (foundB k).2 = true) : (foundB k).1 ∈ forms ∧ fitsB (foundB k).1 k = true := by
  unfold foundB at *
  split
  · rename_i f hf
    exact ⟨List.mem_of_find?_eq_some hf, by have := List.find?_some hf; simpa using this⟩
  · rename_i hf; rw [hf] at h; cases h
end Go.Eng.RE
end
section
/- The forms told, found. -/
namespace Go.Eng.RE
open Go.Eng
theorem rdc_form (l : List DF) (i : Nat) (h : i < l.length) : rdc CForm l i = l[i] := rdc_at (c := CForm) h
theorem one_more (i : Nat) (h : i < 1000000) : iadd .i64 (i : Int) 1 = ((i + 1 : Nat) : Int) := by rw [iadd_i64] <;> omega
theorem lt_yes {a b : Nat} (h : a < b) : ilt (a : Int) (b : Int) = true := by rw [ilt_iff]; omega
theorem lt_no {a b : Nat} (h : b ≤ a) : ilt (a : Int) (b : Int) = false := by rw [ilt_no]; omega
def foundIn (l : List DF) (k : Key) : DF × Bool := match l.find? (fun f => fitsB f k) with | some f => (f, true) | none => (zf, false)
theorem foundIn_cons (f : DF) (l : List DF) (k : Key) : foundIn (f :: l) k = if fitsB f k = true then (f, true) else foundIn l k := by
  unfold foundIn
  rw [List.find?_cons]
  cases h : fitsB f k <;> simp
end Go.Eng.RE
end
section
/- Readers of bytes: what they take hangs on nothing behind it. -/
namespace Go.Eng.RE
open Go.Eng
abbrev Pz (α : Type) := List Int → Option (α × List Int)
def Stable {α : Type} (p : Pz α) : Prop := ∀ b a r, p b = some (a, r) → ∃ u, b = u ++ r ∧ (∀ o, p (u ++ o) = some (a, o)) ∧ ∀ m, m < u.length → p (u.take m) = none
def Takes {α : Type} (p : Pz α) (lo hi : Nat) : Prop := ∀ b a r, p b = some (a, r) → r.length + lo ≤ b.length ∧ b.length ≤ r.length + hi
def retP {α : Type} (a : α) : Pz α := fun b => some (a, b)
def failP {α : Type} : Pz α := fun _ => none
def byteP {α : Type} (q : Int → Pz α) : Pz α := fun b => match b with | [] => none | c :: r => q c r
def bytesP {α : Type} (n : Nat) (q : List Int → Pz α) : Pz α := fun b => if n ≤ b.length then q (b.take n) (b.drop n) else none
def bindP {α β : Type} (p : Pz α) (q : α → Pz β) : Pz β := fun b => match p b with | some (a, r) => q a r | none => none
section
variable {α β : Type}
theorem stable_ret (a : α) : Stable (retP a) := by
  intro b a' r h
  simp only [retP, Option.some.injEq, Prod.mk.injEq] at h
  obtain ⟨rfl, rfl⟩ := h
  exact ⟨[], rfl, fun _ => rfl, fun m hm => by simp at hm⟩
theorem stable_fail : Stable (failP : Pz α) := fun _ _ _ h => by cases h
theorem stable_byte {q : Int → Pz α} (h : ∀ c, Stable (q c)) : Stable (byteP q) := by
  intro b a r hb
  cases b with
  | nil => cases hb
  | cons c b =>
    obtain ⟨u, rfl, h1, h2⟩ := h c b a r hb
    refine ⟨c :: u, rfl, fun o => h1 o, fun m hm => ?_⟩
    cases m with
    | zero => rfl
    | succ m => exact h2 m (by simpa using hm)
theorem stable_bytes {n : Nat} {q : List Int → Pz α} (h : ∀ d, Stable (q d)) : Stable (bytesP n q) := by
  intro b a r hb
  unfold bytesP at hb
  split at hb
  · rename_i hn
    obtain ⟨u, hu, h1, h2⟩ := h _ _ a r hb
    have hl : (b.take n).length = n := by simp; omega
    refine ⟨b.take n ++ u, ?_, fun o => ?_, fun m hm => ?_⟩
    · rw [List.append_assoc, ← hu, List.take_append_drop]
    · unfold bytesP
      rw [if_pos (by simp; omega), List.append_assoc, List.take_append_of_le_length (by omega), List.take_of_length_le (by omega), List.drop_append_of_le_length (by omega), List.drop_of_length_le (by omega)]
      exact h1 o
    · unfold bytesP
      split
      · rename_i hk
        have hm' : n ≤ m := by rw [List.length_take] at hk; omega
        obtain ⟨k, rfl⟩ := Nat.exists_eq_add_of_le hm'
        have e : (b.take n ++ u).take (n + k) = b.take n ++ u.take k := by
          rw [List.take_append, hl, Nat.add_sub_cancel_left, List.take_of_length_le (by omega)]
        rw [e, List.take_append_of_le_length (by omega), List.take_of_length_le (by omega), List.drop_append_of_le_length (by omega), List.drop_of_length_le (by omega)]
        rw [List.length_append, hl] at hm
        exact h2 k (by omega)
      · rfl
  · cases hb
theorem stable_bind {p : Pz α} {q : α → Pz β} (hp : Stable p) (hq : ∀ a, Stable (q a)) : Stable (bindP p q) := by
  intro b c r hb
  unfold bindP at hb
  split at hb
  · rename_i a r1 e
    obtain ⟨u, rfl, h1, h2⟩ := hp _ _ _ e
    obtain ⟨v, rfl, k1, k2⟩ := hq a _ _ _ hb
    refine ⟨u ++ v, by rw [List.append_assoc], fun o => ?_, fun m hm => ?_⟩
    · unfold bindP; rw [List.append_assoc, h1]; exact k1 o
    · unfold bindP
      by_cases hmu : m < u.length
      · rw [List.take_append_of_le_length (by omega), h2 m hmu]
      · obtain ⟨k, rfl⟩ := Nat.exists_eq_add_of_le (Nat.le_of_not_lt hmu)
        rw [List.take_append, Nat.add_sub_cancel_left, List.take_of_length_le (by omega), h1]
        rw [List.length_append] at hm
        exact k2 k (by omega)
  · cases hb
theorem takes_ret (a : α) : Takes (retP a) 0 0 := by
  intro b a' r h
  simp only [retP, Option.some.injEq, Prod.mk.injEq] at h
  obtain ⟨_, rfl⟩ := h
  omega
theorem takes_fail {lo hi : Nat} : Takes (failP : Pz α) lo hi := fun _ _ _ h => by cases h
theorem Takes.mono {p : Pz α} {lo hi lo' hi' : Nat} (h : Takes p lo hi) (h1 : lo' ≤ lo) (h2 : hi ≤ hi') : Takes p lo' hi' := fun b a r e => by
  have := h b a r e; omega
theorem takes_byte {q : Int → Pz α} {lo hi : Nat} (h : ∀ c, Takes (q c) lo hi) : Takes (byteP q) (lo + 1) (hi + 1) := by
  intro b a r hb
  cases b with
  | nil => cases hb
  | cons c b => have := h c b a r hb; simp only [List.length_cons]; omega
theorem takes_bytes {n : Nat} {q : List Int → Pz α} {lo hi : Nat} (h : ∀ d, Takes (q d) lo hi) : Takes (bytesP n q) (n + lo) (n + hi) := by
  intro b a r hb
  unfold bytesP at hb
  split at hb
  · have := h _ _ a r hb; simp only [List.length_drop] at this; omega
  · cases hb
theorem takes_bind {p : Pz α} {q : α → Pz β} {lo hi lo' hi' : Nat} (hp : Takes p lo hi) (hq : ∀ a, Takes (q a) lo' hi') : Takes (bindP p q) (lo + lo') (hi + hi') := by
  intro b c r hb
  unfold bindP at hb
  split at hb
  · rename_i a r1 e
    have := hp _ _ _ e; have := hq a _ _ _ hb; omega
  · cases hb
theorem Stable.nil {p : Pz α} {lo hi : Nat} (h : Takes p lo hi) (hlo : 0 < lo) : p [] = none := by
  cases e : p [] with
  | none => rfl
  | some x => have := h [] x.1 x.2 e; simp at this; omega
end
end Go.Eng.RE
end
