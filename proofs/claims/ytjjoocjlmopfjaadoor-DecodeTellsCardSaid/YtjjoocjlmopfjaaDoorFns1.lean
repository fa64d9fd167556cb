/- A part of the proof that the laws of this seat hold. Conditions: none beyond the row. -/
import Derived.Test.YtjjoocjlmopfjaaDoorFns0
section
/- Functions of this program, written out. -/
namespace Go.Eng.RD
open Go.Proofs Go.Eng
set_option maxRecDepth 100000

/-! ### sundial/codes.moves -/
noncomputable def tree159 (_x : Unit) : Tr (List DForm) :=
  .need ((0 : Nat) < 6) <|
  .need ((1 : Nat) < 6) <|
  .need ((2 : Nat) < 6) <|
  .need ((3 : Nat) < 6) <|
  .need ((4 : Nat) < 6) <|
  .need ((5 : Nat) < 6) <|
  .need ((0 : Int) ≤ 0) <|
  .need (0 < (6 : Int)) <|
  .need ((0 : Nat) < 6) <|
  .need ((0 : Int) ≤ 1) <|
  .need (1 < (6 : Int)) <|
  .need ((1 : Nat) < 6) <|
  .need ((0 : Int) ≤ 2) <|
  .need (2 < (6 : Int)) <|
  .need ((2 : Nat) < 6) <|
  .need ((0 : Int) ≤ 3) <|
  .need (3 < (6 : Int)) <|
  .need ((3 : Nat) < 6) <|
  .need ((0 : Int) ≤ 4) <|
  .need (4 < (6 : Int)) <|
  .need ((4 : Nat) < 6) <|
  .need ((0 : Int) ≤ 5) <|
  .need (5 < (6 : Int)) <|
  .need ((5 : Nat) < 6) <|
  let y0 : (Int × (Int × Int)) := (199, (0, 4))
  .need (pre167 y0) <|
  .need ((0 : Nat) < 1) <|
  .need ((0 : Int) ≤ 2) <|
  .need ((2 : Nat) ≤ 6) <|
  .need ((2 : Nat) = 0 ∨ (2 : Nat) < 6) <|
  .need ((0 : Int) ≤ 2) <|
  .need ((0 : Nat) ≤ 2) <|
  .need ((2 : Nat) ≤ 6) <|
  .need ((0 : Nat) = 0 ∨ (0 : Nat) < 6) <|
  .need ((0 : Int) < 5) <|
  .need ((6 : Nat) < 7) <|
  .need ((0 + 2 : Nat) ≤ 6) <|
  .need (((7 : Nat) * 56 : Nat) ≤ 2 ^ 40) <|
  .need ((7 : Nat) ≤ 2 ^ 40) <|
  .all fun j1 =>
  .need ((0 : Int) ≤ 2) <|
  .need ((2 : Nat) ≤ 7) <|
  let y1 : Nat := (7 + j1)
  .need ((2 : Nat) = 0 ∨ (2 : Nat) < y1) <|
  .need (((0 : Nat) + 1 : Nat) ≤ 1) <|
  .need ((2 + 5 : Nat) ≤ y1) <|
  .need ((0 : Int) ≤ 3) <|
  .need ((3 : Nat) ≤ 7) <|
  .need ((3 : Nat) = 0 ∨ (3 : Nat) < y1) <|
  .need ((0 : Int) ≤ 2) <|
  .need ((2 : Nat) ≤ 6) <|
  .need ((2 : Nat) = 0 ∨ (2 : Nat) < 6) <|
  .need (((2 : Nat) + 4 : Nat) ≤ 6) <|
  .need ((3 + 4 : Nat) ≤ y1) <|
  let y2 : (Int × (Int × Int)) := (198, (1, 1))
  .need (pre167 y2) <|
  .need ((0 : Nat) < 1) <|
  .need ((0 : Int) ≤ 6) <|
  .need ((6 : Nat) ≤ 7) <|
  .need ((6 : Nat) = 0 ∨ (6 : Nat) < y1) <|
  .ite (ilt ((y1 : Nat) : Int) 8) (
    .need ((0 : Int) ≤ 6) <|
    .need ((0 : Nat) ≤ 6) <|
    .need ((6 : Nat) ≤ y1) <|
    .need ((0 : Nat) = 0 ∨ (0 : Nat) < y1) <|
    .need ((0 : Int) < 2) <|
    .need ((y1 : Nat) < 8) <|
    .need ((0 + 6 : Nat) ≤ y1) <|
    .need (((8 : Nat) * 56 : Nat) ≤ 2 ^ 40) <|
    .need ((8 : Nat) ≤ 2 ^ 40) <|
    .all fun j2 =>
    .need ((0 : Int) ≤ 6) <|
    .need ((6 : Nat) ≤ 8) <|
    let y3 : Nat := (8 + j2)
    .need ((6 : Nat) = 0 ∨ (6 : Nat) < y3) <|
    .need (((0 : Nat) + 1 : Nat) ≤ 1) <|
    .need ((6 + 2 : Nat) ≤ y3) <|
    .need ((0 : Int) ≤ 7) <|
    .need ((7 : Nat) ≤ 8) <|
    .need ((7 : Nat) = 0 ∨ (7 : Nat) < y3) <|
    .need ((0 : Int) ≤ 6) <|
    .need ((6 : Nat) ≤ 7) <|
    .need ((6 : Nat) = 0 ∨ (6 : Nat) < y1) <|
    .need (((6 : Nat) + 1 : Nat) ≤ y1) <|
    .need ((7 + 1 : Nat) ≤ y3) <|
    .need (((0 : Nat) + 8 : Nat) ≤ y3) <|
    let y4 : (Bool × (Bool × Bool)) := (false, (false, false))
    let y5 : (Int × (Bool × (Bool × (Bool × Bool)))) := (0, (false, y4))
    let y6 : (Int × (Int × (Int × (Bool × (Int × (Int × (Int × (Int × (Int × (Int × (Bool × (Bool × (Bool × Bool))))))))))))) := (0, (0, (137, (false, ((-1), (1, (0, (0, (1, y5)))))))))
    let y7 : (Int × (Int × (Int × (Bool × (Int × (Int × (Int × (Int × (Int × (Int × (Bool × (Bool × (Bool × Bool))))))))))))) := (0, (0, (139, (false, ((-1), (1, (0, (0, (2, y5)))))))))
    let y8 : DForm := (fn167 y0)
    let y9 : (Int × (Int × (Int × (Bool × (Int × (Int × (Int × (Int × (Int × (Int × (Bool × (Bool × (Bool × Bool))))))))))))) := (0, (0, (184, (true, ((-1), (1, (0, (8, (7, (8, (true, y4)))))))))))
    let y10 : (Int × (Bool × (Bool × (Bool × Bool)))) := (0, (false, (false, (true, false))))
    let y11 : (Int × (Int × (Int × (Bool × (Int × (Int × (Int × (Int × (Int × (Int × (Bool × (Bool × (Bool × Bool))))))))))))) := (0, (0, (136, (false, ((-1), (1, (0, (1, (1, y10)))))))))
    let y12 : (Int × (Int × (Int × (Bool × (Int × (Int × (Int × (Int × (Int × (Int × (Bool × (Bool × (Bool × Bool))))))))))))) := (0, (0, (138, (false, ((-1), (1, (0, (1, (2, y10)))))))))
    let y13 : DForm := (fn167 y2)
    let y14 : (Int × (Int × (Int × (Bool × (Int × (Int × (Int × (Int × (Int × (Int × (Bool × (Bool × (Bool × Bool))))))))))))) := (0, (0, (141, (false, ((-1), (2, (0, (0, (2, (0, (false, (false, (false, true)))))))))))))
    .ret [y6, y7, y8, y9, y11, y12, y13, y14]) (
    .need ((0 : Int) ≤ 8) <|
    .need ((0 : Nat) ≤ 8) <|
    .need ((8 : Nat) ≤ y1) <|
    .need ((0 : Nat) = 0 ∨ (0 : Nat) < y1) <|
    .need ((0 : Int) ≤ 7) <|
    .need ((7 : Nat) ≤ 8) <|
    .need ((7 : Nat) = 0 ∨ (7 : Nat) < y1) <|
    .need ((0 : Nat) < (y1 * 14)) <|
    .need ((0 : Int) ≤ 7) <|
    .need ((7 : Nat) ≤ 8) <|
    .need ((7 : Nat) = 0 ∨ (7 : Nat) < y1) <|
    .need ((0 : Int) ≤ 6) <|
    .need ((6 : Nat) ≤ 8) <|
    .need ((6 : Nat) = 0 ∨ (6 : Nat) < y1) <|
    .need (((6 : Nat) + 2 : Nat) ≤ y1) <|
    .need ((7 + 1 : Nat) ≤ y1) <|
    .need ((0 : Int) ≤ 6) <|
    .need ((6 : Nat) ≤ 8) <|
    .need ((6 : Nat) = 0 ∨ (6 : Nat) < y1) <|
    .need (((0 : Nat) + 1 : Nat) ≤ 1) <|
    .need ((6 + 2 : Nat) ≤ y1) <|
    .need (((0 : Nat) + 8 : Nat) ≤ y1) <|
    let y15 : (Bool × (Bool × Bool)) := (false, (false, false))
    let y16 : (Int × (Bool × (Bool × (Bool × Bool)))) := (0, (false, y15))
    let y17 : (Int × (Int × (Int × (Bool × (Int × (Int × (Int × (Int × (Int × (Int × (Bool × (Bool × (Bool × Bool))))))))))))) := (0, (0, (137, (false, ((-1), (1, (0, (0, (1, y16)))))))))
    let y18 : (Int × (Int × (Int × (Bool × (Int × (Int × (Int × (Int × (Int × (Int × (Bool × (Bool × (Bool × Bool))))))))))))) := (0, (0, (139, (false, ((-1), (1, (0, (0, (2, y16)))))))))
    let y19 : DForm := (fn167 y0)
    let y20 : (Int × (Int × (Int × (Bool × (Int × (Int × (Int × (Int × (Int × (Int × (Bool × (Bool × (Bool × Bool))))))))))))) := (0, (0, (184, (true, ((-1), (1, (0, (8, (7, (8, (true, y15)))))))))))
    let y21 : (Int × (Bool × (Bool × (Bool × Bool)))) := (0, (false, (false, (true, false))))
    let y22 : (Int × (Int × (Int × (Bool × (Int × (Int × (Int × (Int × (Int × (Int × (Bool × (Bool × (Bool × Bool))))))))))))) := (0, (0, (136, (false, ((-1), (1, (0, (1, (1, y21)))))))))
    let y23 : (Int × (Int × (Int × (Bool × (Int × (Int × (Int × (Int × (Int × (Int × (Bool × (Bool × (Bool × Bool))))))))))))) := (0, (0, (138, (false, ((-1), (1, (0, (1, (2, y21)))))))))
    let y24 : (Int × (Int × (Int × (Bool × (Int × (Int × (Int × (Int × (Int × (Int × (Bool × (Bool × (Bool × Bool))))))))))))) := (0, (0, (141, (false, ((-1), (2, (0, (0, (2, (0, (false, (false, (false, true)))))))))))))
    let y25 : (List DForm) := (List.replicate j1 (0, (0, (0, (false, (0, (0, (0, (0, (0, y16))))))))))
    let y26 : DForm := (fn167 y2)
    .ret ((spliceL (spliceL ([y17, y18, y19, y20, y22, y23, y24] ++ y25) 7 ((([y24] ++ y25).take 2).take 1)) 6 [y26]).take 8))
noncomputable def fn159 (x : Unit) : (List DForm) := (tree159 x).val
def pre159 (x : Unit) : Prop := (tree159 x).ok
noncomputable def spec159 : Spec := { dom := .unit, cod := (.slice CForm), n := 1, pre := pre159, f := fn159 }
noncomputable def need159 : FuncId → Option Spec
  | 167 => some spec167
  | _ => none
theorem need159_ok : ∀ f sp, need159 f = some sp → SpecOk env0 f sp := by
  intro f sp h
  unfold need159 at h
  split at h
  · cases h; exact ok167
  · cases h
theorem run159 (W : Cfg) (Q : (List DForm) → Prop) (x : Unit) : run (env need159 (fun _ _ => none)) (fun _ _ _ => none) (finS spec159 Q) W 100000 (startFr 159 Tryd.f159 (bodyOf Tryd.f159) (argsOf .unit x)) [] [] = (tree159 x).wp Q := by kernel_rfl
theorem ok159 : SpecOk env0 159 spec159 := SpecOk.env rfl (fun _ _ h => h) (spec_of_tree (E := (env need159 (fun _ _ => none))) (sp := spec159) (valid _ _) (fun f sp h => SpecOk.env rfl (fun _ _ h => h) (need159_ok f sp h)) (fn := Tryd.f159) (c := (bodyOf Tryd.f159)) (by kernel_rfl) (by kernel_rfl) tree159 run159 (fun _ h => Tr.gives_val h))

/-! ### sundial/codes.sums -/
noncomputable def tree160 (_x : Unit) : Tr (List DForm) :=
  .need ((0 : Int) ≤ 0) <|
  .need ((0 : Int) < 8) <|
  .need ((0 : Nat) < 8) <|
  .need ((0 : Nat) < 2) <|
  .need ((1 : Nat) < 2) <|
  .need ((0 : Int) ≤ 0) <|
  .need (0 < (2 : Int)) <|
  .need ((0 : Nat) < 2) <|
  .need ((0 : Int) ≤ 1) <|
  .need (1 < (2 : Int)) <|
  .need ((1 : Nat) < 2) <|
  .need (((0 : Nat) + 2 : Nat) ≤ 2) <|
  .need (((2 : Nat) * 56 : Nat) ≤ 2 ^ 40) <|
  .need ((2 : Nat) ≤ 2 ^ 40) <|
  .need ((0 : Int) ≤ 1) <|
  .need ((1 : Int) < 8) <|
  .need ((1 : Nat) < 8) <|
  .need ((0 : Nat) < 2) <|
  .need ((1 : Nat) < 2) <|
  .need ((0 : Int) ≤ 0) <|
  .need (0 < (2 : Int)) <|
  .need ((0 : Nat) < 2) <|
  .need ((0 : Int) ≤ 1) <|
  .need (1 < (2 : Int)) <|
  .need ((1 : Nat) < 2) <|
  .need (((0 : Nat) + 2 : Nat) ≤ 2) <|
  .need ((2 : Nat) = 2) <|
  .need (((4 : Nat) * 56 : Nat) ≤ 2 ^ 40) <|
  .need ((4 : Nat) ≤ 2 ^ 40) <|
  .need ((0 : Int) ≤ 2) <|
  .need ((2 : Int) < 8) <|
  .need ((2 : Nat) < 8) <|
  .need ((0 : Nat) < 2) <|
  .need ((1 : Nat) < 2) <|
  .need ((0 : Int) ≤ 0) <|
  .need (0 < (2 : Int)) <|
  .need ((0 : Nat) < 2) <|
  .need ((0 : Int) ≤ 1) <|
  .need (1 < (2 : Int)) <|
  .need ((1 : Nat) < 2) <|
  .need (((0 : Nat) + 2 : Nat) ≤ 2) <|
  .need ((4 : Nat) = 4) <|
  .need (((6 : Nat) * 56 : Nat) ≤ 2 ^ 40) <|
  .need ((6 : Nat) ≤ 2 ^ 40) <|
  .need ((0 : Int) ≤ 3) <|
  .need ((3 : Int) < 8) <|
  .need ((3 : Nat) < 8) <|
  .need ((0 : Nat) < 2) <|
  .need ((1 : Nat) < 2) <|
  .need ((0 : Int) ≤ 0) <|
  .need (0 < (2 : Int)) <|
  .need ((0 : Nat) < 2) <|
  .need ((0 : Int) ≤ 1) <|
  .need (1 < (2 : Int)) <|
  .need ((1 : Nat) < 2) <|
  .need (((0 : Nat) + 2 : Nat) ≤ 2) <|
  .need ((6 : Nat) = 6) <|
  .need (((8 : Nat) * 56 : Nat) ≤ 2 ^ 40) <|
  .need ((8 : Nat) ≤ 2 ^ 40) <|
  .need ((0 : Int) ≤ 4) <|
  .need ((4 : Int) < 8) <|
  .need ((4 : Nat) < 8) <|
  .need ((0 : Nat) < 2) <|
  .need ((1 : Nat) < 2) <|
  .need ((0 : Int) ≤ 0) <|
  .need (0 < (2 : Int)) <|
  .need ((0 : Nat) < 2) <|
  .need ((0 : Int) ≤ 1) <|
  .need (1 < (2 : Int)) <|
  .need ((1 : Nat) < 2) <|
  .need (((0 : Nat) + 2 : Nat) ≤ 2) <|
  .need ((8 : Nat) = 8) <|
  .need (((10 : Nat) * 56 : Nat) ≤ 2 ^ 40) <|
  .need ((10 : Nat) ≤ 2 ^ 40) <|
  .need ((0 : Int) ≤ 5) <|
  .need ((5 : Int) < 8) <|
  .need ((5 : Nat) < 8) <|
  .need ((0 : Nat) < 2) <|
  .need ((1 : Nat) < 2) <|
  .need ((0 : Int) ≤ 0) <|
  .need (0 < (2 : Int)) <|
  .need ((0 : Nat) < 2) <|
  .need ((0 : Int) ≤ 1) <|
  .need (1 < (2 : Int)) <|
  .need ((1 : Nat) < 2) <|
  .need (((0 : Nat) + 2 : Nat) ≤ 2) <|
  .need ((10 : Nat) = 10) <|
  .need (((12 : Nat) * 56 : Nat) ≤ 2 ^ 40) <|
  .need ((12 : Nat) ≤ 2 ^ 40) <|
  .need ((0 : Int) ≤ 6) <|
  .need ((6 : Int) < 8) <|
  .need ((6 : Nat) < 8) <|
  .need ((0 : Nat) < 2) <|
  .need ((1 : Nat) < 2) <|
  .need ((0 : Int) ≤ 0) <|
  .need (0 < (2 : Int)) <|
  .need ((0 : Nat) < 2) <|
  .need ((0 : Int) ≤ 1) <|
  .need (1 < (2 : Int)) <|
  .need ((1 : Nat) < 2) <|
  .need (((0 : Nat) + 2 : Nat) ≤ 2) <|
  .need ((12 : Nat) = 12) <|
  .need (((14 : Nat) * 56 : Nat) ≤ 2 ^ 40) <|
  .need ((14 : Nat) ≤ 2 ^ 40) <|
  .need ((0 : Int) ≤ 7) <|
  .need ((7 : Int) < 8) <|
  .need ((7 : Nat) < 8) <|
  .need ((0 : Nat) < 2) <|
  .need ((1 : Nat) < 2) <|
  .need ((0 : Int) ≤ 0) <|
  .need (0 < (2 : Int)) <|
  .need ((0 : Nat) < 2) <|
  .need ((0 : Int) ≤ 1) <|
  .need (1 < (2 : Int)) <|
  .need ((1 : Nat) < 2) <|
  .need (((0 : Nat) + 2 : Nat) ≤ 2) <|
  .need ((14 : Nat) = 14) <|
  .need (((16 : Nat) * 56 : Nat) ≤ 2 ^ 40) <|
  .need ((16 : Nat) ≤ 2 ^ 40) <|
  .need ((0 : Int) ≤ 0) <|
  .need ((0 : Int) < 8) <|
  .need ((0 : Nat) < 8) <|
  .need ((0 : Nat) < 2) <|
  .need ((1 : Nat) < 2) <|
  .need (((0 : Nat) + 2 : Nat) ≤ 2) <|
  .need ((16 : Nat) = 16) <|
  .need (((18 : Nat) * 56 : Nat) ≤ 2 ^ 40) <|
  .need ((18 : Nat) ≤ 2 ^ 40) <|
  .need ((0 : Int) ≤ 1) <|
  .need ((1 : Int) < 8) <|
  .need ((1 : Nat) < 8) <|
  .need ((0 : Nat) < 2) <|
  .need ((1 : Nat) < 2) <|
  .need (((0 : Nat) + 2 : Nat) ≤ 2) <|
  .need ((18 : Nat) = 18) <|
  .need (((20 : Nat) * 56 : Nat) ≤ 2 ^ 40) <|
  .need ((20 : Nat) ≤ 2 ^ 40) <|
  .need ((0 : Int) ≤ 2) <|
  .need ((2 : Int) < 8) <|
  .need ((2 : Nat) < 8) <|
  .need ((0 : Nat) < 2) <|
  .need ((1 : Nat) < 2) <|
  .need (((0 : Nat) + 2 : Nat) ≤ 2) <|
  .need ((20 : Nat) = 20) <|
  .need (((22 : Nat) * 56 : Nat) ≤ 2 ^ 40) <|
  .need ((22 : Nat) ≤ 2 ^ 40) <|
  .need ((0 : Int) ≤ 3) <|
  .need ((3 : Int) < 8) <|
  .need ((3 : Nat) < 8) <|
  .need ((0 : Nat) < 2) <|
  .need ((1 : Nat) < 2) <|
  .need (((0 : Nat) + 2 : Nat) ≤ 2) <|
  .need ((22 : Nat) = 22) <|
  .need (((24 : Nat) * 56 : Nat) ≤ 2 ^ 40) <|
  .need ((24 : Nat) ≤ 2 ^ 40) <|
  .need ((0 : Int) ≤ 4) <|
  .need ((4 : Int) < 8) <|
  .need ((4 : Nat) < 8) <|
  .need ((0 : Nat) < 2) <|
  .need ((1 : Nat) < 2) <|
  .need (((0 : Nat) + 2 : Nat) ≤ 2) <|
  .need ((24 : Nat) = 24) <|
  .need (((26 : Nat) * 56 : Nat) ≤ 2 ^ 40) <|
  .need ((26 : Nat) ≤ 2 ^ 40) <|
  .need ((0 : Int) ≤ 5) <|
  .need ((5 : Int) < 8) <|
  .need ((5 : Nat) < 8) <|
  .need ((0 : Nat) < 2) <|
  .need ((1 : Nat) < 2) <|
  .need (((0 : Nat) + 2 : Nat) ≤ 2) <|
  .need ((26 : Nat) = 26) <|
  .need (((28 : Nat) * 56 : Nat) ≤ 2 ^ 40) <|
  .need ((28 : Nat) ≤ 2 ^ 40) <|
  .need ((0 : Int) ≤ 6) <|
  .need ((6 : Int) < 8) <|
  .need ((6 : Nat) < 8) <|
  .need ((0 : Nat) < 2) <|
  .need ((1 : Nat) < 2) <|
  .need (((0 : Nat) + 2 : Nat) ≤ 2) <|
  .need ((28 : Nat) = 28) <|
  .need (((30 : Nat) * 56 : Nat) ≤ 2 ^ 40) <|
  .need ((30 : Nat) ≤ 2 ^ 40) <|
  .need ((0 : Int) ≤ 7) <|
  .need ((7 : Int) < 8) <|
  .need ((7 : Nat) < 8) <|
  .need ((0 : Nat) < 2) <|
  .need ((1 : Nat) < 2) <|
  .need (((0 : Nat) + 2 : Nat) ≤ 2) <|
  .need ((30 : Nat) = 30) <|
  .need (((32 : Nat) * 56 : Nat) ≤ 2 ^ 40) <|
  .need ((32 : Nat) ≤ 2 ^ 40) <|
  .need ((0 : Nat) < 1) <|
  .need ((0 : Int) ≤ 0) <|
  .need (0 < (1 : Int)) <|
  .need ((0 : Nat) < 1) <|
  .need (((0 : Nat) + 1 : Nat) ≤ 1) <|
  .need ((32 : Nat) = 32) <|
  .need (((33 : Nat) * 56 : Nat) ≤ 2 ^ 40) <|
  .need ((33 : Nat) ≤ 2 ^ 40) <|
  .need ((0 : Nat) < 1) <|
  .need (((0 : Nat) + 1 : Nat) ≤ 1) <|
  .need ((33 : Nat) = 33) <|
  .need (((34 : Nat) * 56 : Nat) ≤ 2 ^ 40) <|
  .need ((34 : Nat) ≤ 2 ^ 40) <|
  .need ((0 : Nat) < 6) <|
  .need ((1 : Nat) < 6) <|
  .need ((2 : Nat) < 6) <|
  .need ((3 : Nat) < 6) <|
  .need ((4 : Nat) < 6) <|
  .need ((5 : Nat) < 6) <|
  .need ((0 : Int) ≤ 0) <|
  .need ((0 : Int) < 6) <|
  .need ((0 : Nat) < 6) <|
  .need ((0 : Nat) < 1) <|
  .need (((0 : Nat) + 1 : Nat) ≤ 1) <|
  .need ((34 : Nat) = 34) <|
  .need (((35 : Nat) * 56 : Nat) ≤ 2 ^ 40) <|
  .need ((35 : Nat) ≤ 2 ^ 40) <|
  .need ((0 : Int) ≤ 1) <|
  .need ((1 : Int) < 6) <|
  .need ((1 : Nat) < 6) <|
  .need ((0 : Nat) < 1) <|
  .need (((0 : Nat) + 1 : Nat) ≤ 1) <|
  .need ((35 : Nat) = 35) <|
  .need (((36 : Nat) * 56 : Nat) ≤ 2 ^ 40) <|
  .need ((36 : Nat) ≤ 2 ^ 40) <|
  .need ((0 : Int) ≤ 2) <|
  .need ((2 : Int) < 6) <|
  .need ((2 : Nat) < 6) <|
  .need ((0 : Nat) < 1) <|
  .need (((0 : Nat) + 1 : Nat) ≤ 1) <|
  .need ((36 : Nat) = 36) <|
  .need (((37 : Nat) * 56 : Nat) ≤ 2 ^ 40) <|
  .need ((37 : Nat) ≤ 2 ^ 40) <|
  .need ((0 : Int) ≤ 3) <|
  .need ((3 : Int) < 6) <|
  .need ((3 : Nat) < 6) <|
  .need ((0 : Nat) < 1) <|
  .need (((0 : Nat) + 1 : Nat) ≤ 1) <|
  .need ((37 : Nat) = 37) <|
  .need (((38 : Nat) * 56 : Nat) ≤ 2 ^ 40) <|
  .need ((38 : Nat) ≤ 2 ^ 40) <|
  .need ((0 : Int) ≤ 4) <|
  .need ((4 : Int) < 6) <|
  .need ((4 : Nat) < 6) <|
  .need ((0 : Nat) < 1) <|
  .need (((0 : Nat) + 1 : Nat) ≤ 1) <|
  .need ((38 : Nat) = 38) <|
  .need (((39 : Nat) * 56 : Nat) ≤ 2 ^ 40) <|
  .need ((39 : Nat) ≤ 2 ^ 40) <|
  .need ((0 : Int) ≤ 5) <|
  .need ((5 : Int) < 6) <|
  .need ((5 : Nat) < 6) <|
  .need ((0 : Nat) < 1) <|
  .need (((0 : Nat) + 1 : Nat) ≤ 1) <|
  .need ((39 : Nat) = 39) <|
  .need (((40 : Nat) * 56 : Nat) ≤ 2 ^ 40) <|
  .need ((40 : Nat) ≤ 2 ^ 40) <|
  .need ((0 : Nat) < 8) <|
  .need ((1 : Nat) < 8) <|
  .need ((4 : Nat) < 8) <|
  .need ((5 : Nat) < 8) <|
  .need ((7 : Nat) < 8) <|
  .need ((0 : Int) ≤ 0) <|
  .need ((0 : Int) < 8) <|
  .need ((0 : Nat) < 8) <|
  .need ((0 : Nat) < 2) <|
  .need ((1 : Nat) < 2) <|
  .need (((0 : Nat) + 2 : Nat) ≤ 2) <|
  .need ((40 : Nat) = 40) <|
  .need (((42 : Nat) * 56 : Nat) ≤ 2 ^ 40) <|
  .need ((42 : Nat) ≤ 2 ^ 40) <|
  .need ((0 : Int) ≤ 1) <|
  .need ((1 : Int) < 8) <|
  .need ((1 : Nat) < 8) <|
  .need ((0 : Nat) < 2) <|
  .need ((1 : Nat) < 2) <|
  .need (((0 : Nat) + 2 : Nat) ≤ 2) <|
  .need ((42 : Nat) = 42) <|
  .need (((44 : Nat) * 56 : Nat) ≤ 2 ^ 40) <|
  .need ((44 : Nat) ≤ 2 ^ 40) <|
  .need ((0 : Int) ≤ 2) <|
  .need ((2 : Int) < 8) <|
  .need ((2 : Nat) < 8) <|
  .need ((0 : Int) ≤ 3) <|
  .need ((3 : Int) < 8) <|
  .need ((3 : Nat) < 8) <|
  .need ((0 : Int) ≤ 4) <|
  .need ((4 : Int) < 8) <|
  .need ((4 : Nat) < 8) <|
  .need ((0 : Nat) < 2) <|
  .need ((1 : Nat) < 2) <|
  .need (((0 : Nat) + 2 : Nat) ≤ 2) <|
  .need ((44 : Nat) = 44) <|
  .need (((46 : Nat) * 56 : Nat) ≤ 2 ^ 40) <|
  .need ((46 : Nat) ≤ 2 ^ 40) <|
  .need ((0 : Int) ≤ 5) <|
  .need ((5 : Int) < 8) <|
  .need ((5 : Nat) < 8) <|
  .need ((0 : Nat) < 2) <|
  .need ((1 : Nat) < 2) <|
  .need (((0 : Nat) + 2 : Nat) ≤ 2) <|
  .need ((46 : Nat) = 46) <|
  .need (((48 : Nat) * 56 : Nat) ≤ 2 ^ 40) <|
  .need ((48 : Nat) ≤ 2 ^ 40) <|
  .need ((0 : Int) ≤ 6) <|
  .need ((6 : Int) < 8) <|
  .need ((6 : Nat) < 8) <|
  .need ((0 : Int) ≤ 7) <|
  .need ((7 : Int) < 8) <|
  .need ((7 : Nat) < 8) <|
  .need ((0 : Nat) < 2) <|
  .need ((1 : Nat) < 2) <|
  .need (((0 : Nat) + 2 : Nat) ≤ 2) <|
  .need ((48 : Nat) = 48) <|
  .need (((50 : Nat) * 56 : Nat) ≤ 2 ^ 40) <|
  .need ((50 : Nat) ≤ 2 ^ 40) <|
  .need ((0 : Nat) < 1) <|
  .need ((0 : Int) ≤ 0) <|
  .need (0 < (1 : Int)) <|
  .need ((0 : Nat) < 1) <|
  .need (((0 : Nat) + 1 : Nat) ≤ 1) <|
  .need ((50 : Nat) = 50) <|
  .need (((51 : Nat) * 56 : Nat) ≤ 2 ^ 40) <|
  .need ((51 : Nat) ≤ 2 ^ 40) <|
  .need (((0 : Nat) + 51 : Nat) ≤ 51) <|
  let y0 : (Bool × (Bool × (Bool × Bool))) := (false, (false, (false, false)))
  let y1 : (Int × (Bool × (Bool × (Bool × Bool)))) := (0, y0)
  let y2 : (Int × (Int × (Int × (Int × (Bool × (Bool × (Bool × Bool))))))) := (0, (0, (1, y1)))
  let y3 : (Int × (Int × (Int × (Int × (Bool × (Bool × (Bool × Bool))))))) := (0, (0, (2, y1)))
  let y4 : (Int × (Int × (Int × (Int × (Bool × (Bool × (Bool × Bool))))))) := (0, (0, (4, (1, y0))))
  let y5 : (Int × (Int × (Int × (Int × (Bool × (Bool × (Bool × Bool))))))) := (0, (0, (4, (4, y0))))
  let y6 : (Int × (Int × (Int × (Int × (Bool × (Bool × (Bool × Bool))))))) := (0, (0, (3, y1)))
  let y7 : (Int × (Int × (Int × (Int × (Bool × (Bool × (Bool × Bool))))))) := (0, (0, (5, y1)))
  .ret [(0, (0, (1, (false, ((-1), (3, y2)))))), (0, (0, (3, (false, ((-1), (3, y3)))))), (0, (0, (9, (false, ((-1), (4, y2)))))), (0, (0, (11, (false, ((-1), (4, y3)))))), (0, (0, (17, (false, ((-1), (5, y2)))))), (0, (0, (19, (false, ((-1), (5, y3)))))), (0, (0, (25, (false, ((-1), (6, y2)))))), (0, (0, (27, (false, ((-1), (6, y3)))))), (0, (0, (33, (false, ((-1), (7, y2)))))), (0, (0, (35, (false, ((-1), (7, y3)))))), (0, (0, (41, (false, ((-1), (8, y2)))))), (0, (0, (43, (false, ((-1), (8, y3)))))), (0, (0, (49, (false, ((-1), (9, y2)))))), (0, (0, (51, (false, ((-1), (9, y3)))))), (0, (0, (57, (false, ((-1), (10, y2)))))), (0, (0, (59, (false, ((-1), (10, y3)))))), (0, (0, (131, (false, (0, (3, y4)))))), (0, (0, (129, (false, (0, (3, y5)))))), (0, (0, (131, (false, (1, (4, y4)))))), (0, (0, (129, (false, (1, (4, y5)))))), (0, (0, (131, (false, (2, (5, y4)))))), (0, (0, (129, (false, (2, (5, y5)))))), (0, (0, (131, (false, (3, (6, y4)))))), (0, (0, (129, (false, (3, (6, y5)))))), (0, (0, (131, (false, (4, (7, y4)))))), (0, (0, (129, (false, (4, (7, y5)))))), (0, (0, (131, (false, (5, (8, y4)))))), (0, (0, (129, (false, (5, (8, y5)))))), (0, (0, (131, (false, (6, (9, y4)))))), (0, (0, (129, (false, (6, (9, y5)))))), (0, (0, (131, (false, (7, (10, y4)))))), (0, (0, (129, (false, (7, (10, y5)))))), (0, (0, (133, (false, ((-1), (11, y2)))))), (0, (0, (247, (false, (0, (11, y5)))))), (0, (0, (255, (false, (0, (12, y6)))))), (0, (0, (255, (false, (1, (13, y6)))))), (0, (0, (247, (false, (2, (15, y6)))))), (0, (0, (247, (false, (3, (14, y6)))))), (0, (0, (247, (false, (4, (22, y6)))))), (0, (0, (247, (false, (6, (23, y6)))))), (0, (0, (193, (false, (0, (19, y4)))))), (0, (0, (211, (false, (0, (19, y7)))))), (0, (0, (193, (false, (1, (20, y4)))))), (0, (0, (211, (false, (1, (20, y7)))))), (0, (0, (193, (false, (4, (16, y4)))))), (0, (0, (211, (false, (4, (16, y7)))))), (0, (0, (193, (false, (5, (17, y4)))))), (0, (0, (211, (false, (5, (17, y7)))))), (0, (0, (193, (false, (7, (18, y4)))))), (0, (0, (211, (false, (7, (18, y7)))))), (0, (1, (175, (false, ((-1), (21, y3))))))]
noncomputable def fn160 (x : Unit) : (List DForm) := (tree160 x).val
def pre160 (x : Unit) : Prop := (tree160 x).ok
noncomputable def spec160 : Spec := { dom := .unit, cod := (.slice CForm), n := 1, pre := pre160, f := fn160 }
noncomputable def need160 : FuncId → Option Spec
  | _ => none
theorem need160_ok : ∀ f sp, need160 f = some sp → SpecOk env0 f sp := by
  intro f sp h
  unfold need160 at h
  split at h
  · cases h
theorem run160 (W : Cfg) (Q : (List DForm) → Prop) (x : Unit) : run (env need160 (fun _ _ => none)) (fun _ _ _ => none) (finS spec160 Q) W 100000 (startFr 160 Tryd.f160 (bodyOf Tryd.f160) (argsOf .unit x)) [] [] = (tree160 x).wp Q := by kernel_rfl
theorem ok160 : SpecOk env0 160 spec160 := SpecOk.env rfl (fun _ _ h => h) (spec_of_tree (E := (env need160 (fun _ _ => none))) (sp := spec160) (valid _ _) (fun f sp h => SpecOk.env rfl (fun _ _ h => h) (need160_ok f sp h)) (fn := Tryd.f160) (c := (bodyOf Tryd.f160)) (by kernel_rfl) (by kernel_rfl) tree160 run160 (fun _ h => Tr.gives_val h))

/-! ### sundial/codes.flows$1 -/
noncomputable def tree170 (x : (Int × (Int × (Int × (Int × Int))))) : Tr DForm :=
  let y0 : (Int × (Int × Int)) := x.2.2
  let y1 : (Int × Int) := y0.2
  .ret (0, (x.1, (x.2.1, (false, ((-1), (y0.1, (y1.1, (8, (8, (y1.2, (false, (false, (false, false)))))))))))))
noncomputable def fn170 (x : (Int × (Int × (Int × (Int × Int))))) : DForm := (tree170 x).val
def pre170 (x : (Int × (Int × (Int × (Int × Int))))) : Prop := (tree170 x).ok
noncomputable def spec170 : Spec := { dom := (.st (.int .u8) (.st (.int .u8) (.st (.int .u8) (.st (.int .u8) (.st1 (.int .i64)))))), cod := CForm, n := 1, pre := pre170, f := fn170 }
noncomputable def need170 : FuncId → Option Spec
  | _ => none
theorem need170_ok : ∀ f sp, need170 f = some sp → SpecOk env0 f sp := by
  intro f sp h
  unfold need170 at h
  split at h
  · cases h
theorem run170 (W : Cfg) (Q : DForm → Prop) (x : (Int × (Int × (Int × (Int × Int))))) : run (env need170 (fun _ _ => none)) (fun _ _ _ => none) (finS spec170 Q) W 100000 (startFr 170 Tryd.f170 (bodyOf Tryd.f170) (argsOf (.st (.int .u8) (.st (.int .u8) (.st (.int .u8) (.st (.int .u8) (.st1 (.int .i64)))))) x)) [] [] = (tree170 x).wp Q := by kernel_rfl
theorem ok170 : SpecOk env0 170 spec170 := SpecOk.env rfl (fun _ _ h => h) (spec_of_tree (E := (env need170 (fun _ _ => none))) (sp := spec170) (valid _ _) (fun f sp h => SpecOk.env rfl (fun _ _ h => h) (need170_ok f sp h)) (fn := Tryd.f170) (c := (bodyOf Tryd.f170)) (by kernel_rfl) (by kernel_rfl) tree170 run170 (fun _ h => Tr.gives_val h))

/-! ### slices.Concat[[]sundial/api.Form,sundial/api.Form] -/
inductive J171 where
  | h0 (v1 : Int) (v3 : Int) (v4 : Int)
  | h1 (v1 : Nat) (v2 : Nat) (v4 : Int) (v5 : Int) (v6 : Nat) (v7 : (List DForm))
  | h2 (v1 : Int) (v2 : Int)
noncomputable def tree171 (x : (List (List DForm))) : Tr (J171 ⊕ (List DForm)) :=
  .ret (.inl (.h0 0 (x.length : Int) 0))
noncomputable def step171 (x : (List (List DForm))) : J171 → Tr (J171 ⊕ (List DForm))
  | .h0 v1 v3 v4 =>
    .ite (ilt v4 v3) (
      .need ((0 : Int) ≤ v4) <|
      .need (v4 < (x.length : Int)) <|
      let y0 : Int := (iadd .i64 v1 ((rdc (.slice CForm) x (v4).toNat).length : Int))
      .ite (ilt y0 0) (
        .fail (.inr (TC.dflt (.slice CForm)))) (
        .ret (.inl (.h0 y0 v3 (iadd .i64 v4 1))))) (
      .ite (ilt v1 0) (
        .fail (.inr (TC.dflt (.slice CForm)))) (
        let y1 : Int := (isub .i64 v1 0)
        .ite (ilt 0 y1) (
          .need ((0 : Int) = 0) <|
          .need ((0 : Nat) = 0) <|
          .need ((0 : Int) < y1) <|
          let y2 : Nat := (y1).toNat
          .need (((y2 : Nat) * 56 : Nat) ≤ 2 ^ 40) <|
          .need ((y2 : Nat) ≤ 2 ^ 40) <|
          .all fun j3 =>
          .need ((0 : Int) ≤ 0) <|
          .need ((0 : Nat) ≤ 0) <|
          let y3 : Nat := (y2 + j3)
          .need ((0 : Nat) ≤ y3) <|
          .need ((0 : Nat) = 0 ∨ (0 : Nat) < y3) <|
          let y4 : (Int × (Int × (Int × (Bool × (Int × (Int × (Int × (Int × (Int × (Int × (Bool × (Bool × (Bool × Bool))))))))))))) := (0, (0, (0, (false, (0, (0, (0, (0, (0, (0, (false, (false, (false, false)))))))))))))
          .ret (.inl (.h1 0 y3 (x.length : Int) 0 y3 ((List.replicate y2 y4) ++ (List.replicate j3 y4))))) (
          .ret (.inl (.h2 (x.length : Int) 0)))))
  | .h1 v1 v2 v4 v5 v6 v7 =>
    .ite (ilt v5 v4) (
      .need ((0 : Int) ≤ v5) <|
      .need (v5 < (x.length : Int)) <|
      let y0 : (List DForm) := (rdc (.slice CForm) x (v5).toNat)
      let y1 : Nat := y0.length
      let y2 : Nat := (v1 + y1)
      .ite (ilt ((v2 : Nat) : Int) ((y2 : Nat) : Int)) (
        .need ((0 + v1 : Nat) ≤ v6) <|
        .need (((y2 : Nat) * 56 : Nat) ≤ 2 ^ 40) <|
        .need ((y2 : Nat) ≤ 2 ^ 40) <|
        .all fun j3 =>
        let y3 : Nat := (y2 + j3)
        let y4 : Int := (iadd .i64 v5 1)
        let y5 : (List DForm) := (v7.take v1)
        .ret (.inl (.h1 y2 y3 v4 y4 y3 ((y5 ++ y0) ++ (List.replicate j3 (0, (0, (0, (false, (0, (0, (0, (0, (0, (0, (false, (false, (false, false)))))))))))))))))) (
        .need ((0 + v1 + y1 : Nat) ≤ v6) <|
        let y6 : Int := (iadd .i64 v5 1)
        .ret (.inl (.h1 y2 v2 v4 y6 v6 (spliceL v7 (0 + v1) y0))))) (
      .need (((0 : Nat) + v1 : Nat) ≤ v6) <|
      let y7 : (List DForm) := (v7.take v1)
      .ret (.inr y7))
  | .h2 v1 v2 =>
    .ite (ilt v2 v1) (
      .need ((0 : Int) ≤ v2) <|
      .need (v2 < (x.length : Int)) <|
      let y0 : (List DForm) := (rdc (.slice CForm) x (v2).toNat)
      let y1 : Nat := y0.length
      .ite (ieq (y1 : Int) 0) (
        let y2 : Int := (iadd .i64 v2 1)
        .ret (.inl (.h2 v1 y2))) (
        .need (((y1 : Nat) * 56 : Nat) ≤ 2 ^ 40) <|
        .need ((y1 : Nat) ≤ 2 ^ 40) <|
        .all fun j3 =>
        let y3 : Nat := (y1 + j3)
        let y4 : Int := (iadd .i64 v2 1)
        .ret (.inl (.h1 y1 y3 v1 y4 y3 (y0 ++ (List.replicate j3 (0, (0, (0, (false, (0, (0, (0, (0, (0, (0, (false, (false, (false, false))))))))))))))))))) (
      .ret (.inr ([] : List DForm)))
noncomputable def head171 (x : (List (List DForm))) : J171 → Head
  | .h0 v1 v3 v4 =>
    { fr := { id := 171, kind := .top, T := [(.fsl (.slice CForm) x), .any, .any, (.int .i64 v1)] ++ List.replicate 5 .any ++ [(.fsl (.slice CForm) x), (.int .i64 v3), (.int .i64 v4)] ++ List.replicate 24 .any, items := [.lp (subc [1, 1, 0, 1, 0, 0] (bodyOf Tryd.f171)), .blk 0, .code (subc [1, 1, 1] (bodyOf Tryd.f171))], D := [], base := 0 },
      stk := [],
      H := [] }
  | .h1 v1 v2 v4 v5 v6 v7 =>
    { fr := { id := 171, kind := .top, T := List.replicate 6 .any ++ [(.osl 0 [] 14 0 v1 (some v2))] ++ List.replicate 18 .any ++ [(.fsl (.slice CForm) x), (.int .i64 v4), (.int .i64 v5)] ++ List.replicate 8 .any, items := [.lp (subc [1, 1, 1, 1, 0, 1, 0, 0] (bodyOf Tryd.f171)), .blk 2, .code (subc [1, 1, 1, 1, 1] (bodyOf Tryd.f171))], D := [], base := 0 },
      stk := [],
      H := [.cell true 51 (.arr v6 CForm v7)] }
  | .h2 v1 v2 =>
    { fr := { id := 171, kind := .top, T := List.replicate 6 .any ++ [(.raw (.slice none 0 0))] ++ List.replicate 18 .any ++ [(.fsl (.slice CForm) x), (.int .i64 v1), (.int .i64 v2)] ++ List.replicate 8 .any, items := [.lp (subc [1, 1, 1, 1, 0, 1, 0, 0] (bodyOf Tryd.f171)), .blk 2, .code (subc [1, 1, 1, 1, 1] (bodyOf Tryd.f171))], D := [], base := 0 },
      stk := [],
      H := [] }
noncomputable def stop171 : FuncId → Nat → Nat → Option Cut
  | 171, 0, 0 => some { tmps := [0, 3, 9, 10, 11], loops := [], dead := [], stk := [] }
  | 171, 4, 0 => some { tmps := [6, 25, 26, 27], loops := [], dead := [], stk := [] }
  | _, _, _ => none
noncomputable def fn171 (x : (List (List DForm))) : (List DForm) := endVal (TC.dflt (.slice CForm)) (step171 x) (tree171 x)
def pre171 (x : (List (List DForm))) : Prop := ∃ r, Ends (step171 x) r (tree171 x)
noncomputable def spec171 : Spec := { dom := (.st1 (.slice (.slice CForm))), cod := (.slice CForm), n := 1, pre := pre171, f := fn171 }
noncomputable def need171 : FuncId → Option Spec
  | _ => none
theorem need171_ok : ∀ f sp, need171 f = some sp → SpecOk env0 f sp := by
  intro f sp h
  unfold need171 at h
  split at h
  · cases h
theorem run171 (W : Cfg) (Q : (List DForm) → Prop) (x : (List (List DForm))) : run (env need171 (fun _ _ => none)) stop171 (finS spec171 Q) W 100000 (startFr 171 Tryd.f171 (bodyOf Tryd.f171) (argsOf (.st1 (.slice (.slice CForm))) x)) [] [] = (tree171 x).wp (kont W Q (head171 x)) := by kernel_rfl
theorem run171h0 (W : Cfg) (Q : (List DForm) → Prop) (x : (List (List DForm))) (v1 : Int) (v3 : Int) (v4 : Int) : run (env need171 (fun _ _ => none)) stop171 (finS spec171 Q) W 100000 (head171 x (.h0 v1 v3 v4)).fr.enter (head171 x (.h0 v1 v3 v4)).stk (head171 x (.h0 v1 v3 v4)).H = (step171 x (.h0 v1 v3 v4)).wp (kont W Q (head171 x)) := by kernel_rfl
theorem run171h1 (W : Cfg) (Q : (List DForm) → Prop) (x : (List (List DForm))) (v1 : Nat) (v2 : Nat) (v4 : Int) (v5 : Int) (v6 : Nat) (v7 : (List DForm)) : run (env need171 (fun _ _ => none)) stop171 (finS spec171 Q) W 100000 (head171 x (.h1 v1 v2 v4 v5 v6 v7)).fr.enter (head171 x (.h1 v1 v2 v4 v5 v6 v7)).stk (head171 x (.h1 v1 v2 v4 v5 v6 v7)).H = (step171 x (.h1 v1 v2 v4 v5 v6 v7)).wp (kont W Q (head171 x)) := by kernel_rfl
theorem run171h2 (W : Cfg) (Q : (List DForm) → Prop) (x : (List (List DForm))) (v1 : Int) (v2 : Int) : run (env need171 (fun _ _ => none)) stop171 (finS spec171 Q) W 100000 (head171 x (.h2 v1 v2)).fr.enter (head171 x (.h2 v1 v2)).stk (head171 x (.h2 v1 v2)).H = (step171 x (.h2 v1 v2)).wp (kont W Q (head171 x)) := by kernel_rfl
theorem runs171 (W : Cfg) (Q : (List DForm) → Prop) (x : (List (List DForm))) : ∀ j : J171, run (env need171 (fun _ _ => none)) stop171 (finS spec171 Q) W 100000 (head171 x j).fr.enter (head171 x j).stk (head171 x j).H = (step171 x j).wp (kont W Q (head171 x))
  | .h0 v1 v3 v4 => run171h0 W Q x v1 v3 v4
  | .h1 v1 v2 v4 v5 v6 v7 => run171h1 W Q x v1 v2 v4 v5 v6 v7
  | .h2 v1 v2 => run171h2 W Q x v1 v2
theorem ok171 : SpecOk env0 171 spec171 := SpecOk.env rfl (fun _ _ h => h) (spec_of_trees (E := (env need171 (fun _ _ => none))) (sp := spec171) (valid _ _) (fun f sp h => SpecOk.env rfl (fun _ _ h => h) (need171_ok f sp h)) (fn := Tryd.f171) (c := (bodyOf Tryd.f171)) (by kernel_rfl) (by kernel_rfl) tree171 step171 head171 run171 runs171 (fun _ h => endVal_ends h))

/-! ### sundial/codes.flows -/
noncomputable def tree161 (_x : Unit) : Tr (List DForm) :=
  let y0 : (Int × Int) := (0, 4)
  let y1 : (Int × (Int × (Int × (Int × Int)))) := (0, (232, (26, y0)))
  .need (pre170 y1) <|
  let y2 : (Int × (Int × (Int × (Int × Int)))) := (0, (233, (28, y0)))
  .need (pre170 y2) <|
  let y3 : (Int × Int) := (0, 1)
  let y4 : (Int × (Int × (Int × (Int × Int)))) := (0, (235, (28, y3)))
  .need (pre170 y4) <|
  .need ((0 : Nat) < 7) <|
  .need ((1 : Nat) < 7) <|
  .need ((2 : Nat) < 7) <|
  .need ((3 : Nat) < 7) <|
  .need ((4 : Nat) < 7) <|
  .need ((5 : Nat) < 7) <|
  .need ((6 : Nat) < 7) <|
  let y5 : (Int × (Int × (Int × (Int × Int)))) := (1, (128, (29, y0)))
  .need (pre170 y5) <|
  let y6 : (Int × (Int × (Int × (Int × Int)))) := (0, (112, (29, y3)))
  .need (pre170 y6) <|
  .need ((0 : Nat) < 2) <|
  .need ((1 : Nat) < 2) <|
  .need (((0 : Nat) + 2 : Nat) ≤ 2) <|
  .need ((0 + 7 : Nat) ≤ 7) <|
  .need (((9 : Nat) * 56 : Nat) ≤ 2 ^ 40) <|
  .need ((9 : Nat) ≤ 2 ^ 40) <|
  .need ((0 : Nat) < 1) <|
  .need (((0 : Nat) + 1 : Nat) ≤ 1) <|
  .need (((1 : Nat) * 56 : Nat) ≤ 2 ^ 40) <|
  .need ((1 : Nat) ≤ 2 ^ 40) <|
  .need ((0 : Nat) < 1) <|
  .need (((0 : Nat) + 1 : Nat) ≤ 1) <|
  .need (((1 : Nat) * 56 : Nat) ≤ 2 ^ 40) <|
  .need ((1 : Nat) ≤ 2 ^ 40) <|
  let y7 : (Int × (Int × (Int × (Int × Int)))) := (1, (129, (29, (1, 4))))
  .need (pre170 y7) <|
  let y8 : (Int × (Int × (Int × (Int × Int)))) := (0, (113, (29, (1, 1))))
  .need (pre170 y8) <|
  .need ((0 : Nat) < 2) <|
  .need ((1 : Nat) < 2) <|
  .need (((0 : Nat) + 2 : Nat) ≤ 2) <|
  .need ((9 : Nat) = 9) <|
  .need (((11 : Nat) * 56 : Nat) ≤ 2 ^ 40) <|
  .need ((11 : Nat) ≤ 2 ^ 40) <|
  .need ((0 : Nat) < 1) <|
  .need (((0 : Nat) + 1 : Nat) ≤ 1) <|
  .need ((1 : Nat) = 1) <|
  .need (((2 : Nat) * 56 : Nat) ≤ 2 ^ 40) <|
  .need ((2 : Nat) ≤ 2 ^ 40) <|
  .need ((0 : Nat) < 1) <|
  .need (((0 : Nat) + 1 : Nat) ≤ 1) <|
  .need ((1 : Nat) = 1) <|
  .need (((2 : Nat) * 56 : Nat) ≤ 2 ^ 40) <|
  .need ((2 : Nat) ≤ 2 ^ 40) <|
  let y9 : (Int × (Int × (Int × (Int × Int)))) := (1, (130, (29, (2, 4))))
  .need (pre170 y9) <|
  let y10 : (Int × (Int × (Int × (Int × Int)))) := (0, (114, (29, (2, 1))))
  .need (pre170 y10) <|
  .need ((0 : Nat) < 2) <|
  .need ((1 : Nat) < 2) <|
  .need (((0 : Nat) + 2 : Nat) ≤ 2) <|
  .need ((11 : Nat) = 11) <|
  .need (((13 : Nat) * 56 : Nat) ≤ 2 ^ 40) <|
  .need ((13 : Nat) ≤ 2 ^ 40) <|
  .need ((0 : Nat) < 1) <|
  .need (((0 : Nat) + 1 : Nat) ≤ 1) <|
  .need ((2 : Nat) = 2) <|
  .need (((3 : Nat) * 56 : Nat) ≤ 2 ^ 40) <|
  .need ((3 : Nat) ≤ 2 ^ 40) <|
  .need ((0 : Nat) < 1) <|
  .need (((0 : Nat) + 1 : Nat) ≤ 1) <|
  .need ((2 : Nat) = 2) <|
  .need (((3 : Nat) * 56 : Nat) ≤ 2 ^ 40) <|
  .need ((3 : Nat) ≤ 2 ^ 40) <|
  let y11 : (Int × (Int × (Int × (Int × Int)))) := (1, (131, (29, (3, 4))))
  .need (pre170 y11) <|
  let y12 : (Int × (Int × (Int × (Int × Int)))) := (0, (115, (29, (3, 1))))
  .need (pre170 y12) <|
  .need ((0 : Nat) < 2) <|
  .need ((1 : Nat) < 2) <|
  .need (((0 : Nat) + 2 : Nat) ≤ 2) <|
  .need ((13 : Nat) = 13) <|
  .need (((15 : Nat) * 56 : Nat) ≤ 2 ^ 40) <|
  .need ((15 : Nat) ≤ 2 ^ 40) <|
  .need ((0 : Nat) < 1) <|
  .need (((0 : Nat) + 1 : Nat) ≤ 1) <|
  .need ((3 : Nat) = 3) <|
  .need (((4 : Nat) * 56 : Nat) ≤ 2 ^ 40) <|
  .need ((4 : Nat) ≤ 2 ^ 40) <|
  .need ((0 : Nat) < 1) <|
  .need (((0 : Nat) + 1 : Nat) ≤ 1) <|
  .need ((3 : Nat) = 3) <|
  .need (((4 : Nat) * 56 : Nat) ≤ 2 ^ 40) <|
  .need ((4 : Nat) ≤ 2 ^ 40) <|
  let y13 : (Int × (Int × (Int × (Int × Int)))) := (1, (132, (29, (4, 4))))
  .need (pre170 y13) <|
  let y14 : (Int × (Int × (Int × (Int × Int)))) := (0, (116, (29, (4, 1))))
  .need (pre170 y14) <|
  .need ((0 : Nat) < 2) <|
  .need ((1 : Nat) < 2) <|
  .need (((0 : Nat) + 2 : Nat) ≤ 2) <|
  .need ((15 : Nat) = 15) <|
  .need (((17 : Nat) * 56 : Nat) ≤ 2 ^ 40) <|
  .need ((17 : Nat) ≤ 2 ^ 40) <|
  .need ((0 : Nat) < 1) <|
  .need (((0 : Nat) + 1 : Nat) ≤ 1) <|
  .need ((4 : Nat) = 4) <|
  .need (((5 : Nat) * 56 : Nat) ≤ 2 ^ 40) <|
  .need ((5 : Nat) ≤ 2 ^ 40) <|
  .need ((0 : Nat) < 1) <|
  .need (((0 : Nat) + 1 : Nat) ≤ 1) <|
  .need ((4 : Nat) = 4) <|
  .need (((5 : Nat) * 56 : Nat) ≤ 2 ^ 40) <|
  .need ((5 : Nat) ≤ 2 ^ 40) <|
  let y15 : (Int × (Int × (Int × (Int × Int)))) := (1, (133, (29, (5, 4))))
  .need (pre170 y15) <|
  let y16 : (Int × (Int × (Int × (Int × Int)))) := (0, (117, (29, (5, 1))))
  .need (pre170 y16) <|
  .need ((0 : Nat) < 2) <|
  .need ((1 : Nat) < 2) <|
  .need (((0 : Nat) + 2 : Nat) ≤ 2) <|
  .need ((17 : Nat) = 17) <|
  .need (((19 : Nat) * 56 : Nat) ≤ 2 ^ 40) <|
  .need ((19 : Nat) ≤ 2 ^ 40) <|
  .need ((0 : Nat) < 1) <|
  .need (((0 : Nat) + 1 : Nat) ≤ 1) <|
  .need ((5 : Nat) = 5) <|
  .need (((6 : Nat) * 56 : Nat) ≤ 2 ^ 40) <|
  .need ((6 : Nat) ≤ 2 ^ 40) <|
  .need ((0 : Nat) < 1) <|
  .need (((0 : Nat) + 1 : Nat) ≤ 1) <|
  .need ((5 : Nat) = 5) <|
  .need (((6 : Nat) * 56 : Nat) ≤ 2 ^ 40) <|
  .need ((6 : Nat) ≤ 2 ^ 40) <|
  let y17 : (Int × (Int × (Int × (Int × Int)))) := (1, (134, (29, (6, 4))))
  .need (pre170 y17) <|
  let y18 : (Int × (Int × (Int × (Int × Int)))) := (0, (118, (29, (6, 1))))
  .need (pre170 y18) <|
  .need ((0 : Nat) < 2) <|
  .need ((1 : Nat) < 2) <|
  .need (((0 : Nat) + 2 : Nat) ≤ 2) <|
  .need ((19 : Nat) = 19) <|
  .need (((21 : Nat) * 56 : Nat) ≤ 2 ^ 40) <|
  .need ((21 : Nat) ≤ 2 ^ 40) <|
  .need ((0 : Nat) < 1) <|
  .need (((0 : Nat) + 1 : Nat) ≤ 1) <|
  .need ((6 : Nat) = 6) <|
  .need (((7 : Nat) * 56 : Nat) ≤ 2 ^ 40) <|
  .need ((7 : Nat) ≤ 2 ^ 40) <|
  .need ((0 : Nat) < 1) <|
  .need (((0 : Nat) + 1 : Nat) ≤ 1) <|
  .need ((6 : Nat) = 6) <|
  .need (((7 : Nat) * 56 : Nat) ≤ 2 ^ 40) <|
  .need ((7 : Nat) ≤ 2 ^ 40) <|
  let y19 : (Int × (Int × (Int × (Int × Int)))) := (1, (135, (29, (7, 4))))
  .need (pre170 y19) <|
  let y20 : (Int × (Int × (Int × (Int × Int)))) := (0, (119, (29, (7, 1))))
  .need (pre170 y20) <|
  .need ((0 : Nat) < 2) <|
  .need ((1 : Nat) < 2) <|
  .need (((0 : Nat) + 2 : Nat) ≤ 2) <|
  .need ((21 : Nat) = 21) <|
  .need (((23 : Nat) * 56 : Nat) ≤ 2 ^ 40) <|
  .need ((23 : Nat) ≤ 2 ^ 40) <|
  .need ((0 : Nat) < 1) <|
  .need (((0 : Nat) + 1 : Nat) ≤ 1) <|
  .need ((7 : Nat) = 7) <|
  .need (((8 : Nat) * 56 : Nat) ≤ 2 ^ 40) <|
  .need ((8 : Nat) ≤ 2 ^ 40) <|
  .need ((0 : Nat) < 1) <|
  .need (((0 : Nat) + 1 : Nat) ≤ 1) <|
  .need ((7 : Nat) = 7) <|
  .need (((8 : Nat) * 56 : Nat) ≤ 2 ^ 40) <|
  .need ((8 : Nat) ≤ 2 ^ 40) <|
  let y21 : (Int × (Int × (Int × (Int × Int)))) := (1, (136, (29, (8, 4))))
  .need (pre170 y21) <|
  let y22 : (Int × (Int × (Int × (Int × Int)))) := (0, (120, (29, (8, 1))))
  .need (pre170 y22) <|
  .need ((0 : Nat) < 2) <|
  .need ((1 : Nat) < 2) <|
  .need (((0 : Nat) + 2 : Nat) ≤ 2) <|
  .need ((23 : Nat) = 23) <|
  .need (((25 : Nat) * 56 : Nat) ≤ 2 ^ 40) <|
  .need ((25 : Nat) ≤ 2 ^ 40) <|
  .need ((0 : Nat) < 1) <|
  .need (((0 : Nat) + 1 : Nat) ≤ 1) <|
  .need ((8 : Nat) = 8) <|
  .need (((9 : Nat) * 56 : Nat) ≤ 2 ^ 40) <|
  .need ((9 : Nat) ≤ 2 ^ 40) <|
  .need ((0 : Nat) < 1) <|
  .need (((0 : Nat) + 1 : Nat) ≤ 1) <|
  .need ((8 : Nat) = 8) <|
  .need (((9 : Nat) * 56 : Nat) ≤ 2 ^ 40) <|
  .need ((9 : Nat) ≤ 2 ^ 40) <|
  let y23 : (Int × (Int × (Int × (Int × Int)))) := (1, (137, (29, (9, 4))))
  .need (pre170 y23) <|
  let y24 : (Int × (Int × (Int × (Int × Int)))) := (0, (121, (29, (9, 1))))
  .need (pre170 y24) <|
  .need ((0 : Nat) < 2) <|
  .need ((1 : Nat) < 2) <|
  .need (((0 : Nat) + 2 : Nat) ≤ 2) <|
  .need ((25 : Nat) = 25) <|
  .need (((27 : Nat) * 56 : Nat) ≤ 2 ^ 40) <|
  .need ((27 : Nat) ≤ 2 ^ 40) <|
  .need ((0 : Nat) < 1) <|
  .need (((0 : Nat) + 1 : Nat) ≤ 1) <|
  .need ((9 : Nat) = 9) <|
  .need (((10 : Nat) * 56 : Nat) ≤ 2 ^ 40) <|
  .need ((10 : Nat) ≤ 2 ^ 40) <|
  .need ((0 : Nat) < 1) <|
  .need (((0 : Nat) + 1 : Nat) ≤ 1) <|
  .need ((9 : Nat) = 9) <|
  .need (((10 : Nat) * 56 : Nat) ≤ 2 ^ 40) <|
  .need ((10 : Nat) ≤ 2 ^ 40) <|
  let y25 : (Int × (Int × (Int × (Int × Int)))) := (1, (138, (29, (10, 4))))
  .need (pre170 y25) <|
  let y26 : (Int × (Int × (Int × (Int × Int)))) := (0, (122, (29, (10, 1))))
  .need (pre170 y26) <|
  .need ((0 : Nat) < 2) <|
  .need ((1 : Nat) < 2) <|
  .need (((0 : Nat) + 2 : Nat) ≤ 2) <|
  .need ((27 : Nat) = 27) <|
  .need (((29 : Nat) * 56 : Nat) ≤ 2 ^ 40) <|
  .need ((29 : Nat) ≤ 2 ^ 40) <|
  .need ((0 : Nat) < 1) <|
  .need (((0 : Nat) + 1 : Nat) ≤ 1) <|
  .need ((10 : Nat) = 10) <|
  .need (((11 : Nat) * 56 : Nat) ≤ 2 ^ 40) <|
  .need ((11 : Nat) ≤ 2 ^ 40) <|
  .need ((0 : Nat) < 1) <|
  .need (((0 : Nat) + 1 : Nat) ≤ 1) <|
  .need ((10 : Nat) = 10) <|
  .need (((11 : Nat) * 56 : Nat) ≤ 2 ^ 40) <|
  .need ((11 : Nat) ≤ 2 ^ 40) <|
  let y27 : (Int × (Int × (Int × (Int × Int)))) := (1, (139, (29, (11, 4))))
  .need (pre170 y27) <|
  let y28 : (Int × (Int × (Int × (Int × Int)))) := (0, (123, (29, (11, 1))))
  .need (pre170 y28) <|
  .need ((0 : Nat) < 2) <|
  .need ((1 : Nat) < 2) <|
  .need (((0 : Nat) + 2 : Nat) ≤ 2) <|
  .need ((29 : Nat) = 29) <|
  .need (((31 : Nat) * 56 : Nat) ≤ 2 ^ 40) <|
  .need ((31 : Nat) ≤ 2 ^ 40) <|
  .need ((0 : Nat) < 1) <|
  .need (((0 : Nat) + 1 : Nat) ≤ 1) <|
  .need ((11 : Nat) = 11) <|
  .need (((12 : Nat) * 56 : Nat) ≤ 2 ^ 40) <|
  .need ((12 : Nat) ≤ 2 ^ 40) <|
  .need ((0 : Nat) < 1) <|
  .need (((0 : Nat) + 1 : Nat) ≤ 1) <|
  .need ((11 : Nat) = 11) <|
  .need (((12 : Nat) * 56 : Nat) ≤ 2 ^ 40) <|
  .need ((12 : Nat) ≤ 2 ^ 40) <|
  let y29 : (Int × (Int × (Int × (Int × Int)))) := (1, (140, (29, (12, 4))))
  .need (pre170 y29) <|
  let y30 : (Int × (Int × (Int × (Int × Int)))) := (0, (124, (29, (12, 1))))
  .need (pre170 y30) <|
  .need ((0 : Nat) < 2) <|
  .need ((1 : Nat) < 2) <|
  .need (((0 : Nat) + 2 : Nat) ≤ 2) <|
  .need ((31 : Nat) = 31) <|
  .need (((33 : Nat) * 56 : Nat) ≤ 2 ^ 40) <|
  .need ((33 : Nat) ≤ 2 ^ 40) <|
  .need ((0 : Nat) < 1) <|
  .need (((0 : Nat) + 1 : Nat) ≤ 1) <|
  .need ((12 : Nat) = 12) <|
  .need (((13 : Nat) * 56 : Nat) ≤ 2 ^ 40) <|
  .need ((13 : Nat) ≤ 2 ^ 40) <|
  .need ((0 : Nat) < 1) <|
  .need (((0 : Nat) + 1 : Nat) ≤ 1) <|
  .need ((12 : Nat) = 12) <|
  .need (((13 : Nat) * 56 : Nat) ≤ 2 ^ 40) <|
  .need ((13 : Nat) ≤ 2 ^ 40) <|
  let y31 : (Int × (Int × (Int × (Int × Int)))) := (1, (141, (29, (13, 4))))
  .need (pre170 y31) <|
  let y32 : (Int × (Int × (Int × (Int × Int)))) := (0, (125, (29, (13, 1))))
  .need (pre170 y32) <|
  .need ((0 : Nat) < 2) <|
  .need ((1 : Nat) < 2) <|
  .need (((0 : Nat) + 2 : Nat) ≤ 2) <|
  .need ((33 : Nat) = 33) <|
  .need (((35 : Nat) * 56 : Nat) ≤ 2 ^ 40) <|
  .need ((35 : Nat) ≤ 2 ^ 40) <|
  .need ((0 : Nat) < 1) <|
  .need (((0 : Nat) + 1 : Nat) ≤ 1) <|
  .need ((13 : Nat) = 13) <|
  .need (((14 : Nat) * 56 : Nat) ≤ 2 ^ 40) <|
  .need ((14 : Nat) ≤ 2 ^ 40) <|
  .need ((0 : Nat) < 1) <|
  .need (((0 : Nat) + 1 : Nat) ≤ 1) <|
  .need ((13 : Nat) = 13) <|
  .need (((14 : Nat) * 56 : Nat) ≤ 2 ^ 40) <|
  .need ((14 : Nat) ≤ 2 ^ 40) <|
  let y33 : (Int × (Int × (Int × (Int × Int)))) := (1, (142, (29, (14, 4))))
  .need (pre170 y33) <|
  let y34 : (Int × (Int × (Int × (Int × Int)))) := (0, (126, (29, (14, 1))))
  .need (pre170 y34) <|
  .need ((0 : Nat) < 2) <|
  .need ((1 : Nat) < 2) <|
  .need (((0 : Nat) + 2 : Nat) ≤ 2) <|
  .need ((35 : Nat) = 35) <|
  .need (((37 : Nat) * 56 : Nat) ≤ 2 ^ 40) <|
  .need ((37 : Nat) ≤ 2 ^ 40) <|
  .need ((0 : Nat) < 1) <|
  .need (((0 : Nat) + 1 : Nat) ≤ 1) <|
  .need ((14 : Nat) = 14) <|
  .need (((15 : Nat) * 56 : Nat) ≤ 2 ^ 40) <|
  .need ((15 : Nat) ≤ 2 ^ 40) <|
  .need ((0 : Nat) < 1) <|
  .need (((0 : Nat) + 1 : Nat) ≤ 1) <|
  .need ((14 : Nat) = 14) <|
  .need (((15 : Nat) * 56 : Nat) ≤ 2 ^ 40) <|
  .need ((15 : Nat) ≤ 2 ^ 40) <|
  let y35 : (Int × (Int × (Int × (Int × Int)))) := (1, (143, (29, (15, 4))))
  .need (pre170 y35) <|
  let y36 : (Int × (Int × (Int × (Int × Int)))) := (0, (127, (29, (15, 1))))
  .need (pre170 y36) <|
  .need ((0 : Nat) < 2) <|
  .need ((1 : Nat) < 2) <|
  .need (((0 : Nat) + 2 : Nat) ≤ 2) <|
  .need ((37 : Nat) = 37) <|
  .need (((39 : Nat) * 56 : Nat) ≤ 2 ^ 40) <|
  .need ((39 : Nat) ≤ 2 ^ 40) <|
  .need ((0 : Nat) < 1) <|
  .need (((0 : Nat) + 1 : Nat) ≤ 1) <|
  .need ((15 : Nat) = 15) <|
  .need (((16 : Nat) * 56 : Nat) ≤ 2 ^ 40) <|
  .need ((16 : Nat) ≤ 2 ^ 40) <|
  .need ((0 : Nat) < 1) <|
  .need (((0 : Nat) + 1 : Nat) ≤ 1) <|
  .need ((15 : Nat) = 15) <|
  .need (((16 : Nat) * 56 : Nat) ≤ 2 ^ 40) <|
  .need ((16 : Nat) ≤ 2 ^ 40) <|
  .need (((0 : Nat) + 39 : Nat) ≤ 39) <|
  .need (((0 : Nat) + 16 : Nat) ≤ 16) <|
  .need (((0 : Nat) + 16 : Nat) ≤ 16) <|
  .need ((0 : Nat) < 3) <|
  .need ((1 : Nat) < 3) <|
  .need ((2 : Nat) < 3) <|
  .need (((0 : Nat) + 3 : Nat) ≤ 3) <|
  let y37 : (Int × (Bool × (Bool × (Bool × Bool)))) := (0, (false, (false, (false, false))))
  let y38 : (Int × (Int × (Int × (Int × (Bool × (Bool × (Bool × Bool))))))) := (0, (8, (6, y37)))
  let y39 : (Int × (Int × (Int × (Bool × (Bool × (Bool × Bool)))))) := (0, (2, y37))
  let y40 : (Int × (Int × (Int × (Bool × (Bool × (Bool × Bool)))))) := (1, (3, (0, (false, (false, (true, false))))))
  let y41 : (List (List DForm)) := [[(0, (0, (80, (true, ((-1), (24, y38)))))), (0, (0, (88, (true, ((-1), (25, y38)))))), (fn170 y1), (0, (0, (195, (false, ((-1), (27, (0, (8, (0, y37))))))))), (fn170 y2), (fn170 y4), (0, (0, (255, (false, (4, (28, (0, (8, (3, y37))))))))), (fn170 y5), (fn170 y6), (fn170 y7), (fn170 y8), (fn170 y9), (fn170 y10), (fn170 y11), (fn170 y12), (fn170 y13), (fn170 y14), (fn170 y15), (fn170 y16), (fn170 y17), (fn170 y18), (fn170 y19), (fn170 y20), (fn170 y21), (fn170 y22), (fn170 y23), (fn170 y24), (fn170 y25), (fn170 y26), (fn170 y27), (fn170 y28), (fn170 y29), (fn170 y30), (fn170 y31), (fn170 y32), (fn170 y33), (fn170 y34), (fn170 y35), (fn170 y36)], [(0, (1, (64, (false, ((-1), (30, (0, y39))))))), (0, (1, (65, (false, ((-1), (30, (1, y39))))))), (0, (1, (66, (false, ((-1), (30, (2, y39))))))), (0, (1, (67, (false, ((-1), (30, (3, y39))))))), (0, (1, (68, (false, ((-1), (30, (4, y39))))))), (0, (1, (69, (false, ((-1), (30, (5, y39))))))), (0, (1, (70, (false, ((-1), (30, (6, y39))))))), (0, (1, (71, (false, ((-1), (30, (7, y39))))))), (0, (1, (72, (false, ((-1), (30, (8, y39))))))), (0, (1, (73, (false, ((-1), (30, (9, y39))))))), (0, (1, (74, (false, ((-1), (30, (10, y39))))))), (0, (1, (75, (false, ((-1), (30, (11, y39))))))), (0, (1, (76, (false, ((-1), (30, (12, y39))))))), (0, (1, (77, (false, ((-1), (30, (13, y39))))))), (0, (1, (78, (false, ((-1), (30, (14, y39))))))), (0, (1, (79, (false, ((-1), (30, (15, y39)))))))], [(0, (1, (144, (false, (0, (31, (0, y40))))))), (0, (1, (145, (false, (0, (31, (1, y40))))))), (0, (1, (146, (false, (0, (31, (2, y40))))))), (0, (1, (147, (false, (0, (31, (3, y40))))))), (0, (1, (148, (false, (0, (31, (4, y40))))))), (0, (1, (149, (false, (0, (31, (5, y40))))))), (0, (1, (150, (false, (0, (31, (6, y40))))))), (0, (1, (151, (false, (0, (31, (7, y40))))))), (0, (1, (152, (false, (0, (31, (8, y40))))))), (0, (1, (153, (false, (0, (31, (9, y40))))))), (0, (1, (154, (false, (0, (31, (10, y40))))))), (0, (1, (155, (false, (0, (31, (11, y40))))))), (0, (1, (156, (false, (0, (31, (12, y40))))))), (0, (1, (157, (false, (0, (31, (13, y40))))))), (0, (1, (158, (false, (0, (31, (14, y40))))))), (0, (1, (159, (false, (0, (31, (15, y40)))))))]]
  .need (pre171 y41) <|
  .ret (fn171 y41)
noncomputable def fn161 (x : Unit) : (List DForm) := (tree161 x).val
def pre161 (x : Unit) : Prop := (tree161 x).ok
noncomputable def spec161 : Spec := { dom := .unit, cod := (.slice CForm), n := 1, pre := pre161, f := fn161 }
noncomputable def need161 : FuncId → Option Spec
  | 170 => some spec170
  | 171 => some spec171
  | _ => none
theorem need161_ok : ∀ f sp, need161 f = some sp → SpecOk env0 f sp := by
  intro f sp h
  unfold need161 at h
  split at h
  · cases h; exact ok170
  · cases h; exact ok171
  · cases h
theorem run161 (W : Cfg) (Q : (List DForm) → Prop) (x : Unit) : run (env need161 (fun _ _ => none)) (fun _ _ _ => none) (finS spec161 Q) W 100000 (startFr 161 Tryd.f161 (bodyOf Tryd.f161) (argsOf .unit x)) [] [] = (tree161 x).wp Q := by kernel_rfl
theorem ok161 : SpecOk env0 161 spec161 := SpecOk.env rfl (fun _ _ h => h) (spec_of_tree (E := (env need161 (fun _ _ => none))) (sp := spec161) (valid _ _) (fun f sp h => SpecOk.env rfl (fun _ _ h => h) (need161_ok f sp h)) (fn := Tryd.f161) (c := (bodyOf Tryd.f161)) (by kernel_rfl) (by kernel_rfl) tree161 run161 (fun _ h => Tr.gives_val h))

/-! ### sundial/codes.others$1 -/
noncomputable def tree172 (x : (Int × (Int × (Int × (Int × (Int × Int)))))) : Tr DForm :=
  let y0 : (Int × (Int × (Int × Int))) := x.2.2
  let y1 : (Int × (Int × Int)) := y0.2
  let y2 : (Int × Int) := y1.2
  .ret (x.1, (x.2.1, (y0.1, (false, (0, (y1.1, (0, (16, (y2.1, (y2.2, (false, (true, (false, false)))))))))))))
noncomputable def fn172 (x : (Int × (Int × (Int × (Int × (Int × Int)))))) : DForm := (tree172 x).val
def pre172 (x : (Int × (Int × (Int × (Int × (Int × Int)))))) : Prop := (tree172 x).ok
noncomputable def spec172 : Spec := { dom := (.st (.int .u8) (.st (.int .u8) (.st (.int .u8) (.st (.int .u8) (.st (.int .u8) (.st1 (.int .i64))))))), cod := CForm, n := 1, pre := pre172, f := fn172 }
noncomputable def need172 : FuncId → Option Spec
  | _ => none
theorem need172_ok : ∀ f sp, need172 f = some sp → SpecOk env0 f sp := by
  intro f sp h
  unfold need172 at h
  split at h
  · cases h
theorem run172 (W : Cfg) (Q : DForm → Prop) (x : (Int × (Int × (Int × (Int × (Int × Int)))))) : run (env need172 (fun _ _ => none)) (fun _ _ _ => none) (finS spec172 Q) W 100000 (startFr 172 Tryd.f172 (bodyOf Tryd.f172) (argsOf (.st (.int .u8) (.st (.int .u8) (.st (.int .u8) (.st (.int .u8) (.st (.int .u8) (.st1 (.int .i64))))))) x)) [] [] = (tree172 x).wp Q := by kernel_rfl
theorem ok172 : SpecOk env0 172 spec172 := SpecOk.env rfl (fun _ _ h => h) (spec_of_tree (E := (env need172 (fun _ _ => none))) (sp := spec172) (valid _ _) (fun f sp h => SpecOk.env rfl (fun _ _ h => h) (need172_ok f sp h)) (fn := Tryd.f172) (c := (bodyOf Tryd.f172)) (by kernel_rfl) (by kernel_rfl) tree172 run172 (fun _ h => Tr.gives_val h))

/-! ### sundial/codes.others -/
noncomputable def tree162 (_x : Unit) : Tr (List DForm) :=
  let y0 : (Int × Int) := (2, 0)
  let y1 : (Int × (Int × (Int × (Int × (Int × Int))))) := (243, (1, (111, (35, y0))))
  .need (pre172 y1) <|
  let y2 : (Int × (Int × (Int × (Int × (Int × Int))))) := (243, (1, (127, (35, (1, 0)))))
  .need (pre172 y2) <|
  let y3 : (Int × (Int × (Int × (Int × (Int × Int))))) := (102, (1, (239, (36, y0))))
  .need (pre172 y3) <|
  let y4 : (Int × (Int × (Int × (Int × (Int × Int))))) := (102, (2, (220, (37, y0))))
  .need (pre172 y4) <|
  let y5 : (Int × (Int × (Int × (Int × (Int × Int))))) := (102, (2, (221, (38, y0))))
  .need (pre172 y5) <|
  let y6 : (Int × (Int × (Int × (Int × (Int × Int))))) := (102, (3, (68, (39, (2, 1)))))
  .need (pre172 y6) <|
  .need ((0 : Nat) < 9) <|
  .need ((1 : Nat) < 9) <|
  .need ((2 : Nat) < 9) <|
  .need ((3 : Nat) < 9) <|
  .need ((4 : Nat) < 9) <|
  .need ((5 : Nat) < 9) <|
  .need ((6 : Nat) < 9) <|
  .need ((7 : Nat) < 9) <|
  .need ((8 : Nat) < 9) <|
  .need ((0 : Int) ≤ 0) <|
  .need (0 < (9 : Int)) <|
  .need ((0 : Nat) < 9) <|
  .need ((0 : Int) ≤ 1) <|
  .need (1 < (9 : Int)) <|
  .need ((1 : Nat) < 9) <|
  .need ((0 : Int) ≤ 2) <|
  .need (2 < (9 : Int)) <|
  .need ((2 : Nat) < 9) <|
  .need ((0 : Int) ≤ 3) <|
  .need (3 < (9 : Int)) <|
  .need ((3 : Nat) < 9) <|
  .need ((0 : Int) ≤ 4) <|
  .need (4 < (9 : Int)) <|
  .need ((4 : Nat) < 9) <|
  .need ((0 : Int) ≤ 5) <|
  .need (5 < (9 : Int)) <|
  .need ((5 : Nat) < 9) <|
  .need ((0 : Int) ≤ 6) <|
  .need (6 < (9 : Int)) <|
  .need ((6 : Nat) < 9) <|
  .need ((0 : Int) ≤ 7) <|
  .need (7 < (9 : Int)) <|
  .need ((7 : Nat) < 9) <|
  .need ((0 : Int) ≤ 8) <|
  .need (8 < (9 : Int)) <|
  .need ((8 : Nat) < 9) <|
  .need (((0 : Nat) + 9 : Nat) ≤ 9) <|
  let y7 : (Int × (Int × (Int × (Int × (Bool × (Bool × (Bool × Bool))))))) := (0, (0, (2, (0, (false, (false, (true, false)))))))
  let y8 : DForm := (fn172 y1)
  let y9 : (Int × (Int × (Bool × (Int × (Int × (Int × (Int × (Int × (Int × (Bool × (Bool × (Bool × Bool)))))))))))) := y8.2
  let y10 : (Int × (Bool × (Int × (Int × (Int × (Int × (Int × (Int × (Bool × (Bool × (Bool × Bool))))))))))) := y9.2
  let y11 : (Bool × (Int × (Int × (Int × (Int × (Int × (Int × (Bool × (Bool × (Bool × Bool)))))))))) := y10.2
  let y12 : DForm := (fn172 y2)
  let y13 : (Int × (Int × (Bool × (Int × (Int × (Int × (Int × (Int × (Int × (Bool × (Bool × (Bool × Bool)))))))))))) := y12.2
  let y14 : (Int × (Bool × (Int × (Int × (Int × (Int × (Int × (Int × (Bool × (Bool × (Bool × Bool))))))))))) := y13.2
  let y15 : (Bool × (Int × (Int × (Int × (Int × (Int × (Int × (Bool × (Bool × (Bool × Bool)))))))))) := y14.2
  let y16 : DForm := (fn172 y3)
  let y17 : (Int × (Int × (Bool × (Int × (Int × (Int × (Int × (Int × (Int × (Bool × (Bool × (Bool × Bool)))))))))))) := y16.2
  let y18 : (Int × (Bool × (Int × (Int × (Int × (Int × (Int × (Int × (Bool × (Bool × (Bool × Bool))))))))))) := y17.2
  let y19 : (Bool × (Int × (Int × (Int × (Int × (Int × (Int × (Bool × (Bool × (Bool × Bool)))))))))) := y18.2
  let y20 : DForm := (fn172 y4)
  let y21 : (Int × (Int × (Bool × (Int × (Int × (Int × (Int × (Int × (Int × (Bool × (Bool × (Bool × Bool)))))))))))) := y20.2
  let y22 : (Int × (Bool × (Int × (Int × (Int × (Int × (Int × (Int × (Bool × (Bool × (Bool × Bool))))))))))) := y21.2
  let y23 : (Bool × (Int × (Int × (Int × (Int × (Int × (Int × (Bool × (Bool × (Bool × Bool)))))))))) := y22.2
  let y24 : DForm := (fn172 y5)
  let y25 : (Int × (Int × (Bool × (Int × (Int × (Int × (Int × (Int × (Int × (Bool × (Bool × (Bool × Bool)))))))))))) := y24.2
  let y26 : (Int × (Bool × (Int × (Int × (Int × (Int × (Int × (Int × (Bool × (Bool × (Bool × Bool))))))))))) := y25.2
  let y27 : (Bool × (Int × (Int × (Int × (Int × (Int × (Int × (Bool × (Bool × (Bool × Bool)))))))))) := y26.2
  let y28 : DForm := (fn172 y6)
  let y29 : (Int × (Int × (Bool × (Int × (Int × (Int × (Int × (Int × (Int × (Bool × (Bool × (Bool × Bool)))))))))))) := y28.2
  let y30 : (Int × (Bool × (Int × (Int × (Int × (Int × (Int × (Int × (Bool × (Bool × (Bool × Bool))))))))))) := y29.2
  let y31 : (Bool × (Int × (Int × (Int × (Int × (Int × (Int × (Bool × (Bool × (Bool × Bool)))))))))) := y30.2
  .ret [(0, (1, (182, (false, ((-1), (32, y7)))))), (0, (1, (190, (false, ((-1), (33, y7)))))), (0, (0, (144, (false, ((-1), (34, (0, (8, (0, (0, (false, (false, (false, false))))))))))))), (y8.1, (y9.1, (y10.1, (y11.1, ((-1), y11.2.2))))), (y12.1, (y13.1, (y14.1, (y15.1, ((-1), y15.2.2))))), (y16.1, (y17.1, (y18.1, (y19.1, ((-1), y19.2.2))))), (y20.1, (y21.1, (y22.1, (y23.1, ((-1), y23.2.2))))), (y24.1, (y25.1, (y26.1, (y27.1, ((-1), y27.2.2))))), (y28.1, (y29.1, (y30.1, (y31.1, ((-1), y31.2.2)))))]
noncomputable def fn162 (x : Unit) : (List DForm) := (tree162 x).val
def pre162 (x : Unit) : Prop := (tree162 x).ok
noncomputable def spec162 : Spec := { dom := .unit, cod := (.slice CForm), n := 1, pre := pre162, f := fn162 }
noncomputable def need162 : FuncId → Option Spec
  | 172 => some spec172
  | _ => none
theorem need162_ok : ∀ f sp, need162 f = some sp → SpecOk env0 f sp := by
  intro f sp h
  unfold need162 at h
  split at h
  · cases h; exact ok172
  · cases h
theorem run162 (W : Cfg) (Q : (List DForm) → Prop) (x : Unit) : run (env need162 (fun _ _ => none)) (fun _ _ _ => none) (finS spec162 Q) W 100000 (startFr 162 Tryd.f162 (bodyOf Tryd.f162) (argsOf .unit x)) [] [] = (tree162 x).wp Q := by kernel_rfl
theorem ok162 : SpecOk env0 162 spec162 := SpecOk.env rfl (fun _ _ h => h) (spec_of_tree (E := (env need162 (fun _ _ => none))) (sp := spec162) (valid _ _) (fun f sp h => SpecOk.env rfl (fun _ _ h => h) (need162_ok f sp h)) (fn := Tryd.f162) (c := (bodyOf Tryd.f162)) (by kernel_rfl) (by kernel_rfl) tree162 run162 (fun _ h => Tr.gives_val h))

/-! ### sundial/codes.code -/
noncomputable def tree163 (x : (DForm × Int)) : Tr Bool :=
  let y0 : (Int × (Bool × (Int × (Int × (Int × (Int × (Int × (Int × (Bool × (Bool × (Bool × Bool))))))))))) := x.1.2.2
  .ite y0.2.1 (
    let y1 : Int := y0.1
    .ret (ieq (iandn .u8 x.2 7) (iandn .u8 y1 7))) (
    let y2 : Int := y0.1
    .ret (ieq x.2 y2))
noncomputable def fn163 (x : (DForm × Int)) : Bool := (tree163 x).val
def pre163 (x : (DForm × Int)) : Prop := (tree163 x).ok
noncomputable def spec163 : Spec := { dom := (.st CForm (.st1 (.int .u8))), cod := .bool, n := 1, pre := pre163, f := fn163 }
noncomputable def need163 : FuncId → Option Spec
  | _ => none
theorem need163_ok : ∀ f sp, need163 f = some sp → SpecOk env0 f sp := by
  intro f sp h
  unfold need163 at h
  split at h
  · cases h
theorem run163 (W : Cfg) (Q : Bool → Prop) (x : (DForm × Int)) : run (env need163 (fun _ _ => none)) (fun _ _ _ => none) (finS spec163 Q) W 100000 (startFr 163 Tryd.f163 (bodyOf Tryd.f163) (argsOf (.st CForm (.st1 (.int .u8))) x)) [] [] = (tree163 x).wp Q := by kernel_rfl
theorem ok163 : SpecOk env0 163 spec163 := SpecOk.env rfl (fun _ _ h => h) (spec_of_tree (E := (env need163 (fun _ _ => none))) (sp := spec163) (valid _ _) (fun f sp h => SpecOk.env rfl (fun _ _ h => h) (need163_ok f sp h)) (fn := Tryd.f163) (c := (bodyOf Tryd.f163)) (by kernel_rfl) (by kernel_rfl) tree163 run163 (fun _ h => Tr.gives_val h))

/-! ### sundial/codes.Fits -/
noncomputable def tree112 (x : (DForm × (Int × (Int × (Int × Int))))) : Tr Bool :=
  .ite ((ieq x.1.1 x.2.1) == true) (
    let y0 : (Int × (Int × (Bool × (Int × (Int × (Int × (Int × (Int × (Int × (Bool × (Bool × (Bool × Bool)))))))))))) := x.1.2
    let y1 : (Int × (Int × Int)) := x.2.2
    .ite ((ieq y0.1 y1.1) == true) (
      let y2 : (Int × Int) := y1.2
      let y3 : (DForm × Int) := (x.1, y2.1)
      .need (pre163 y3) <|
      .ite ((fn163 y3) == true) (
        let y4 : Int := y0.2.2.2.1
        .ite ((ieq y4 (-1)) == false) (
          .ret (ieq y4 y2.2)) (
          .ret true)) (
        .ret false)) (
      .ret false)) (
    .ret false)
noncomputable def fn112 (x : (DForm × (Int × (Int × (Int × Int))))) : Bool := (tree112 x).val
def pre112 (x : (DForm × (Int × (Int × (Int × Int))))) : Prop := (tree112 x).ok
noncomputable def spec112 : Spec := { dom := (.st CForm (.st (.int .u8) (.st (.int .u8) (.st (.int .u8) (.st1 (.int .i64)))))), cod := .bool, n := 1, pre := pre112, f := fn112 }
noncomputable def need112 : FuncId → Option Spec
  | 163 => some spec163
  | _ => none
theorem need112_ok : ∀ f sp, need112 f = some sp → SpecOk env0 f sp := by
  intro f sp h
  unfold need112 at h
  split at h
  · cases h; exact ok163
  · cases h
theorem run112 (W : Cfg) (Q : Bool → Prop) (x : (DForm × (Int × (Int × (Int × Int))))) : run (env need112 (fun _ _ => none)) (fun _ _ _ => none) (finS spec112 Q) W 100000 (startFr 112 Tryd.f112 (bodyOf Tryd.f112) (argsOf (.st CForm (.st (.int .u8) (.st (.int .u8) (.st (.int .u8) (.st1 (.int .i64)))))) x)) [] [] = (tree112 x).wp Q := by kernel_rfl
theorem ok112 : SpecOk env0 112 spec112 := SpecOk.env rfl (fun _ _ h => h) (spec_of_tree (E := (env need112 (fun _ _ => none))) (sp := spec112) (valid _ _) (fun f sp h => SpecOk.env rfl (fun _ _ h => h) (need112_ok f sp h)) (fn := Tryd.f112) (c := (bodyOf Tryd.f112)) (by kernel_rfl) (by kernel_rfl) tree112 run112 (fun _ h => Tr.gives_val h))

end Go.Eng.RD
end
section
/- Functions of this program, written out. -/
namespace Go.Eng.RD
open Go.Proofs Go.Eng
set_option maxRecDepth 100000

/-! ### sundial/codes.Find -/
inductive J91 where
  | h0 (v0 : (List (List DForm))) (v1 : Int) (v20 : Bool)
  | h1 (v0 : (List (List DForm))) (v1 : Int) (v2 : (List DForm)) (v3 : Int) (v4 : Int) (v23 : Bool)
noncomputable def tree91 (_x : (Int × (Int × (Int × Int)))) : Tr (J91 ⊕ (DForm × Bool)) :=
  .need (pre159 ()) <|
  .need (pre160 ()) <|
  .need (pre161 ()) <|
  .need (pre162 ()) <|
  .need ((0 : Nat) < 4) <|
  .need ((1 : Nat) < 4) <|
  .need ((2 : Nat) < 4) <|
  .need ((3 : Nat) < 4) <|
  .ret (.inl (.h0 [(fn159 ()), (fn160 ()), (fn161 ()), (fn162 ())] 0 false))
noncomputable def step91 (x : (Int × (Int × (Int × Int)))) : J91 → Tr (J91 ⊕ (DForm × Bool))
  | .h0 v0 v1 v20 =>
    .ite (ilt v1 4) (
      .need ((0 : Int) ≤ v1) <|
      .need ((v1 : Int) < 4) <|
      .need (((v1).toNat : Nat) < 4) <|
      let y0 : (List DForm) := (rdc (.slice CForm) v0 (v1).toNat)
      .ret (.inl (.h1 v0 v1 y0 (y0.length : Int) 0 v20))) (
      .ret (.inr ((0, (0, (0, (false, (0, (0, (0, (0, (0, (0, (false, (false, (false, false))))))))))))), v20)))
  | .h1 v0 v1 v2 v3 v4 v23 =>
    .ite (ilt v4 v3) (
      .need ((0 : Int) ≤ v4) <|
      .need (v4 < (v2.length : Int)) <|
      let y0 : DForm := (rdc CForm v2 (v4).toNat)
      let y1 : (DForm × (Int × (Int × (Int × Int)))) := (y0, x)
      .need (pre112 y1) <|
      let y2 : Bool := (fn112 y1)
      .ite y2 (
        .ret (.inr (y0, y2))) (
        .ret (.inl (.h1 v0 v1 v2 v3 (iadd .i64 v4 1) y2)))) (
      .ret (.inl (.h0 v0 (iadd .i64 v1 1) v23)))
noncomputable def head91 (x : (Int × (Int × (Int × Int)))) : J91 → Head
  | .h0 v0 v1 v20 =>
    { fr := { id := 158, kind := (.iter 7), T := [(.yld 7)] ++ List.replicate 9 .any ++ [(.arr 4 (.slice CForm) v0), (.int .i64 v1)] ++ List.replicate 14 .any, items := [.lp (subc [1, 0, 0] (bodyOf Tryd.f158)), .blk 0], D := [], base := 8 },
      stk := [{ id := 91, kind := .top, T := List.replicate 8 .any ++ [(.ptr 4 []), (.ptr 5 [])] ++ List.replicate 13 .any, items := [.fin 7, .blk 0, .code (subc [1, 0, 1, 1] (bodyOf Tryd.f91)), .scp], D := [6], base := 0 }],
      H := [.cell true 5 (.int .u8 x.1), .cell true 5 (.int .u8 x.2.1), .cell true 5 (.int .u8 x.2.2.1), .cell true 3 (.int .i64 x.2.2.2), .cell true 51 (.agg [1, 1, 1, 1, 1, 1, 1, 1, 1, 1, 1, 1, 1, 1] [(.int .u8 0), (.int .u8 0), (.int .u8 0), (.bool false), (.int .i64 0), (.int .u8 0), (.int .u8 0), (.int .i64 0), (.int .u8 0), (.int .i64 0), (.bool false), (.bool false), (.bool false), (.bool false)]), .cell true 4 (.bool v20), .dfd, .loop .ready none 91 (List.replicate 4 .any ++ [(.ptr 0 []), (.ptr 1 []), (.ptr 2 []), (.ptr 3 []), (.ptr 4 []), (.ptr 5 [])] ++ List.replicate 13 .any) [12] (subc [1, 0, 1, 0, 1, 0, 0] (bodyOf Tryd.f91)) (subc [1, 0, 1, 0, 1, 0, 1] (bodyOf Tryd.f91)) 6] }
  | .h1 v0 v1 v2 v3 v4 v23 =>
    { fr := { id := 158, kind := (.iter 7), T := [(.yld 7)] ++ List.replicate 9 .any ++ [(.arr 4 (.slice CForm) v0), (.int .i64 v1), .any, .any, (.fsl CForm v2), (.int .i64 v3), (.int .i64 v4)] ++ List.replicate 9 .any, items := [.lp (subc [1, 0, 0, 1, 1, 0, 0, 1, 1, 0, 0] (bodyOf Tryd.f158)), .blk 2, .blk 1, .code (subc [1, 0, 0, 1, 1, 1] (bodyOf Tryd.f158)), .lp (subc [1, 0, 0] (bodyOf Tryd.f158)), .blk 0], D := [], base := 8 },
      stk := [{ id := 91, kind := .top, T := List.replicate 8 .any ++ [(.ptr 4 []), (.ptr 5 [])] ++ List.replicate 13 .any, items := [.fin 7, .blk 0, .code (subc [1, 0, 1, 1] (bodyOf Tryd.f91)), .scp], D := [6], base := 0 }],
      H := [.cell true 5 (.int .u8 x.1), .cell true 5 (.int .u8 x.2.1), .cell true 5 (.int .u8 x.2.2.1), .cell true 3 (.int .i64 x.2.2.2), .cell true 51 (.agg [1, 1, 1, 1, 1, 1, 1, 1, 1, 1, 1, 1, 1, 1] [(.int .u8 0), (.int .u8 0), (.int .u8 0), (.bool false), (.int .i64 0), (.int .u8 0), (.int .u8 0), (.int .i64 0), (.int .u8 0), (.int .i64 0), (.bool false), (.bool false), (.bool false), (.bool false)]), .cell true 4 (.bool v23), .dfd, .loop .ready none 91 (List.replicate 4 .any ++ [(.ptr 0 []), (.ptr 1 []), (.ptr 2 []), (.ptr 3 []), (.ptr 4 []), (.ptr 5 [])] ++ List.replicate 13 .any) [12] (subc [1, 0, 1, 0, 1, 0, 0] (bodyOf Tryd.f91)) (subc [1, 0, 1, 0, 1, 0, 1] (bodyOf Tryd.f91)) 6] }
noncomputable def stop91 : FuncId → Nat → Nat → Option Cut
  | 158, 0, 8 => some { tmps := [0, 10, 11], loops := [(7, [4, 5, 6, 7, 8, 9])], dead := [], stk := [[8, 9]] }
  | 158, 4, 8 => some { tmps := [0, 10, 11, 14, 15, 16], loops := [(7, [4, 5, 6, 7, 8, 9])], dead := [], stk := [[8, 9]] }
  | _, _, _ => none
noncomputable def fn91 (x : (Int × (Int × (Int × Int)))) : (DForm × Bool) := endVal (TC.dflt (.st CForm (.st1 .bool))) (step91 x) (tree91 x)
def pre91 (x : (Int × (Int × (Int × Int)))) : Prop := ∃ r, Ends (step91 x) r (tree91 x)
noncomputable def spec91 : Spec := { dom := (.st (.int .u8) (.st (.int .u8) (.st (.int .u8) (.st1 (.int .i64))))), cod := (.st CForm (.st1 .bool)), n := 2, pre := pre91, f := fn91 }
noncomputable def need91 : FuncId → Option Spec
  | 112 => some spec112
  | 159 => some spec159
  | 160 => some spec160
  | 161 => some spec161
  | 162 => some spec162
  | _ => none
theorem need91_ok : ∀ f sp, need91 f = some sp → SpecOk env0 f sp := by
  intro f sp h
  unfold need91 at h
  split at h
  · cases h; exact ok112
  · cases h; exact ok159
  · cases h; exact ok160
  · cases h; exact ok161
  · cases h; exact ok162
  · cases h
theorem run91 (W : Cfg) (Q : (DForm × Bool) → Prop) (x : (Int × (Int × (Int × Int)))) : run (env need91 (fun _ _ => none)) stop91 (finS spec91 Q) W 100000 (startFr 91 Tryd.f91 (bodyOf Tryd.f91) (argsOf (.st (.int .u8) (.st (.int .u8) (.st (.int .u8) (.st1 (.int .i64))))) x)) [] [] = (tree91 x).wp (kont W Q (head91 x)) := by kernel_rfl
theorem run91h0 (W : Cfg) (Q : (DForm × Bool) → Prop) (x : (Int × (Int × (Int × Int)))) (v0 : (List (List DForm))) (v1 : Int) (v20 : Bool) : run (env need91 (fun _ _ => none)) stop91 (finS spec91 Q) W 100000 (head91 x (.h0 v0 v1 v20)).fr.enter (head91 x (.h0 v0 v1 v20)).stk (head91 x (.h0 v0 v1 v20)).H = (step91 x (.h0 v0 v1 v20)).wp (kont W Q (head91 x)) := by kernel_rfl
theorem run91h1 (W : Cfg) (Q : (DForm × Bool) → Prop) (x : (Int × (Int × (Int × Int)))) (v0 : (List (List DForm))) (v1 : Int) (v2 : (List DForm)) (v3 : Int) (v4 : Int) (v23 : Bool) : run (env need91 (fun _ _ => none)) stop91 (finS spec91 Q) W 100000 (head91 x (.h1 v0 v1 v2 v3 v4 v23)).fr.enter (head91 x (.h1 v0 v1 v2 v3 v4 v23)).stk (head91 x (.h1 v0 v1 v2 v3 v4 v23)).H = (step91 x (.h1 v0 v1 v2 v3 v4 v23)).wp (kont W Q (head91 x)) := by kernel_rfl
theorem runs91 (W : Cfg) (Q : (DForm × Bool) → Prop) (x : (Int × (Int × (Int × Int)))) : ∀ j : J91, run (env need91 (fun _ _ => none)) stop91 (finS spec91 Q) W 100000 (head91 x j).fr.enter (head91 x j).stk (head91 x j).H = (step91 x j).wp (kont W Q (head91 x))
  | .h0 v0 v1 v20 => run91h0 W Q x v0 v1 v20
  | .h1 v0 v1 v2 v3 v4 v23 => run91h1 W Q x v0 v1 v2 v3 v4 v23
theorem ok91 : SpecOk env0 91 spec91 := SpecOk.env rfl (fun _ _ h => h) (spec_of_trees (E := (env need91 (fun _ _ => none))) (sp := spec91) (valid _ _) (fun f sp h => SpecOk.env rfl (fun _ _ h => h) (need91_ok f sp h)) (fn := Tryd.f91) (c := (bodyOf Tryd.f91)) (by kernel_rfl) (by kernel_rfl) tree91 step91 head91 run91 runs91 (fun _ h => endVal_ends h))

/-! ### sundial/operand.Take$1 -/
noncomputable def tree113 (x : (Int × Int)) : Tr Int :=
  .need ((0 : Int) ≤ x.1) <|
  .ret (imul .i64 (iconv .i64 (iand .u8 (ishr .u8 x.2 x.1) 1)) 8)
noncomputable def fn113 (x : (Int × Int)) : Int := (tree113 x).val
def pre113 (x : (Int × Int)) : Prop := (tree113 x).ok
noncomputable def spec113 : Spec := { dom := (.st (.int .i64) (.st1 (.ref (.int .u8)))), cod := (.int .i64), n := 1, pre := pre113, f := fn113 }
noncomputable def need113 : FuncId → Option Spec
  | _ => none
theorem need113_ok : ∀ f sp, need113 f = some sp → SpecOk env0 f sp := by
  intro f sp h
  unfold need113 at h
  split at h
  · cases h
theorem run113 (W : Cfg) (Q : Int → Prop) (x : (Int × Int)) : run (env need113 (fun _ _ => none)) (fun _ _ _ => none) (finS spec113 Q) W 100000 (startFr 113 Tryd.f113 (bodyOf Tryd.f113) (argsOf (.st (.int .i64) (.st1 (.ref (.int .u8)))) x)) [] [] = (tree113 x).wp Q := by kernel_rfl
theorem ok113 : SpecOk env0 113 spec113 := SpecOk.env rfl (fun _ _ h => h) (spec_of_tree (E := (env need113 (fun _ _ => none))) (sp := spec113) (valid _ _) (fun f sp h => SpecOk.env rfl (fun _ _ h => h) (need113_ok f sp h)) (fn := Tryd.f113) (c := (bodyOf Tryd.f113)) (by kernel_rfl) (by kernel_rfl) tree113 run113 (fun _ h => Tr.gives_val h))

/-! ### sundial/operand.Mem -/
noncomputable def tree114 (x : (Int × Int)) : Tr DOperand :=
  .ret (2, (0, ((imax x.1 (-1)), ((-1), (1, (x.2, (false, 0)))))))
noncomputable def fn114 (x : (Int × Int)) : DOperand := (tree114 x).val
def pre114 (x : (Int × Int)) : Prop := (tree114 x).ok
noncomputable def spec114 : Spec := { dom := (.st (.int .i64) (.st1 (.int .i64))), cod := COperand, n := 1, pre := pre114, f := fn114 }
noncomputable def need114 : FuncId → Option Spec
  | _ => none
theorem need114_ok : ∀ f sp, need114 f = some sp → SpecOk env0 f sp := by
  intro f sp h
  unfold need114 at h
  split at h
  · cases h
theorem run114 (W : Cfg) (Q : DOperand → Prop) (x : (Int × Int)) : run (env need114 (fun _ _ => none)) (fun _ _ _ => none) (finS spec114 Q) W 100000 (startFr 114 Tryd.f114 (bodyOf Tryd.f114) (argsOf (.st (.int .i64) (.st1 (.int .i64))) x)) [] [] = (tree114 x).wp Q := by kernel_rfl
theorem ok114 : SpecOk env0 114 spec114 := SpecOk.env rfl (fun _ _ h => h) (spec_of_tree (E := (env need114 (fun _ _ => none))) (sp := spec114) (valid _ _) (fun f sp h => SpecOk.env rfl (fun _ _ h => h) (need114_ok f sp h)) (fn := Tryd.f114) (c := (bodyOf Tryd.f114)) (by kernel_rfl) (by kernel_rfl) tree114 run114 (fun _ h => Tr.gives_val h))

/-! ### sundial/operand.Take -/
inductive J92 where
  | h0
  | h1
  | h2
  | h3 (v4 : Int) (v14 : Int) (v15 : DOperand)
  | h4 (v4 : Int) (v15 : Int) (v16 : DOperand)
  | h5 (v4 : Int) (v14 : Int) (v15 : DOperand)
  | h6 (v0 : Int) (v5 : Int) (v15 : Int) (v16 : DOperand) (v24 : (List Int))
  | h7 (v1 : Int) (v11 : Int) (v12 : DOperand)
noncomputable def tree92 (_x : ((List Int) × Int)) : Tr (J92 ⊕ (Int × (DOperand × (Int × Int)))) :=
  .ret (.inl (.h0))
noncomputable def step92 (x : ((List Int) × Int)) : J92 → Tr (J92 ⊕ (Int × (DOperand × (Int × Int))))
  | .h0 =>
    .ite (ilt 0 (x.1.length : Int)) (
      .ret (.inl (.h1))) (
      .ret (.inl (.h2)))
  | .h1 =>
    .need ((0 : Int) ≤ 0) <|
    .need (0 < (x.1.length : Int)) <|
    .need ((0 : Int) ≤ 6) <|
    .need ((0 : Int) ≤ 0) <|
    .need (0 < (x.1.length : Int)) <|
    .need ((0 : Nat) < 4) <|
    .need ((1 : Nat) < 4) <|
    .need ((2 : Nat) < 4) <|
    .need ((3 : Nat) < 4) <|
    let y0 : Int := (rdc (.int .u8) x.1 0)
    let y1 : Int := (ishr .u8 y0 6)
    .need ((0 : Int) ≤ y1) <|
    .need ((y1 : Int) < 4) <|
    let y2 : Nat := (y1).toNat
    .need ((y2 : Nat) < 4) <|
    let y3 : (Int × Int) := (0, x.2)
    .need (pre113 y3) <|
    let y4 : Int := (iconv .i64 (iand .u8 y0 7))
    let y5 : Int := (fn113 y3)
    let y6 : Int := (iadd .i64 y4 y5)
    let y7 : (Int × Int) := (y6, 0)
    .need (pre114 y7) <|
    .ite (ieq y1 3) (
      .need (pre113 y3) <|
      .need (pre60 y6) <|
      let y8 : Int := (rdc (.int .i64) [0, 1, 4, 0] y2)
      .ret (.inl (.h3 1 y8 (fn60 y6)))) (
      let y9 : Bool := (ieq y4 4)
      .ite (y9 == true) (
        .ite (ilt (x.1.length : Int) 2) (
          .ret (.inl (.h2))) (
          .ite y9 (
            .need ((0 : Int) ≤ 1) <|
            .need (1 < (x.1.length : Int)) <|
            .need (pre113 y3) <|
            .need ((0 : Int) ≤ 1) <|
            .need (1 < (x.1.length : Int)) <|
            .need ((0 : Int) ≤ 3) <|
            let y10 : (Int × Int) := (1, x.2)
            .need (pre113 y10) <|
            let y11 : Int := (rdc (.int .u8) x.1 1)
            let y12 : Int := (iadd .i64 (iconv .i64 (iand .u8 (ishr .u8 y11 3) 7)) (fn113 y10))
            let y13 : Bool := (ine y12 4)
            .ite y13 (
              .need ((0 : Int) ≤ 1) <|
              .need (1 < (x.1.length : Int)) <|
              .both (
                .need ((0 : Int) ≤ 6) <|
                let y14 : Int := (ishr .u8 y11 6)
                .need ((0 : Int) ≤ y14) <|
                let y15 : Int := (rdc (.int .i64) [0, 1, 4, 0] y2)
                let y16 : DOperand := (fn114 y7)
                let y17 : Int := y16.1
                let y18 : (Int × (Int × (Int × (Int × (Int × (Bool × Int)))))) := y16.2
                let y19 : Int := y18.1
                let y20 : Int := (iadd .i64 (iconv .i64 (iand .u8 y11 7)) y5)
                let y21 : (Int × (Int × (Int × (Bool × Int)))) := y18.2.2
                let y22 : (Int × (Int × (Bool × Int))) := y21.2
                let y23 : (Int × (Bool × Int)) := y22.2
                let y24 : (Int × (Int × (Int × (Int × (Int × (Int × (Bool × Int))))))) := (y17, (y19, (y20, (y12, ((ishl .i64 1 y14), y23)))))
                .ret (.inl (.h4 y1 y15 y24))) (
                .need ((0 : Int) ≤ 6) <|
                let y25 : Int := (ishr .u8 y11 6)
                .need ((0 : Int) ≤ y25) <|
                let y26 : Int := (rdc (.int .i64) [0, 1, 4, 0] y2)
                let y27 : DOperand := (fn114 y7)
                let y28 : Int := y27.1
                let y29 : (Int × (Int × (Int × (Int × (Int × (Bool × Int)))))) := y27.2
                let y30 : Int := y29.1
                let y31 : Int := (iadd .i64 (iconv .i64 (iand .u8 y11 7)) y5)
                let y32 : (Int × (Int × (Int × (Bool × Int)))) := y29.2.2
                let y33 : (Int × (Int × (Bool × Int))) := y32.2
                let y34 : (Int × (Bool × Int)) := y33.2
                let y35 : (Int × (Int × (Int × (Int × (Int × (Int × (Bool × Int))))))) := (y28, (y30, (y31, (y12, ((ishl .i64 1 y25), y34)))))
                .ret (.inl (.h4 y1 y26 y35)))) (
              let y36 : Int := (rdc (.int .i64) [0, 1, 4, 0] y2)
              let y37 : DOperand := (fn114 y7)
              let y38 : Int := y37.1
              let y39 : (Int × (Int × (Int × (Int × (Int × (Bool × Int)))))) := y37.2
              let y40 : Int := y39.1
              let y41 : Int := (iadd .i64 (iconv .i64 (iand .u8 y11 7)) y5)
              let y42 : (Int × (Int × (Int × (Bool × Int)))) := y39.2.2
              let y43 : (Int × (Int × (Int × (Int × (Int × (Int × (Bool × Int))))))) := (y38, (y40, (y41, y42)))
              .ret (.inl (.h4 y1 y36 y43)))) (
            let y44 : Bool := ((ieq y4 5) == true)
            .ite y44 (
              let y45 : Bool := (ieq y1 0)
              .ite y45 (
                let y46 : DOperand := (fn114 y7)
                let y47 : Int := y46.1
                let y48 : (Int × (Int × (Int × (Int × (Int × (Bool × Int)))))) := y46.2
                let y49 : Int := y48.1
                let y50 : (Int × (Int × (Int × (Bool × Int)))) := y48.2.2
                let y51 : (Int × (Int × (Bool × Int))) := y50.2
                let y52 : (Int × (Bool × Int)) := y51.2
                let y53 : (Int × (Int × (Int × (Int × (Int × (Int × (Bool × Int))))))) := (y47, (y49, ((-1), (y50.1, (y51.1, (y52.1, (true, y52.2.2)))))))
                .ret (.inl (.h3 1 4 y53))) (
                let y54 : Int := (rdc (.int .i64) [0, 1, 4, 0] y2)
                let y55 : DOperand := (fn114 y7)
                .ret (.inl (.h3 1 y54 y55)))) (
              let y56 : Int := (rdc (.int .i64) [0, 1, 4, 0] y2)
              let y57 : DOperand := (fn114 y7)
              .ret (.inl (.h3 1 y56 y57)))))) (
        .ite y9 (
          .need ((0 : Int) ≤ 1) <|
          .need (1 < (x.1.length : Int)) <|
          .need (pre113 y3) <|
          .need ((0 : Int) ≤ 1) <|
          .need (1 < (x.1.length : Int)) <|
          .need ((0 : Int) ≤ 3) <|
          let y58 : (Int × Int) := (1, x.2)
          .need (pre113 y58) <|
          let y59 : Int := (rdc (.int .u8) x.1 1)
          let y60 : Int := (iadd .i64 (iconv .i64 (iand .u8 (ishr .u8 y59 3) 7)) (fn113 y58))
          let y61 : Bool := (ine y60 4)
          .ite y61 (
            .need ((0 : Int) ≤ 1) <|
            .need (1 < (x.1.length : Int)) <|
            .both (
              .need ((0 : Int) ≤ 6) <|
              let y62 : Int := (ishr .u8 y59 6)
              .need ((0 : Int) ≤ y62) <|
              let y63 : Int := (rdc (.int .i64) [0, 1, 4, 0] y2)
              let y64 : DOperand := (fn114 y7)
              let y65 : Int := y64.1
              let y66 : (Int × (Int × (Int × (Int × (Int × (Bool × Int)))))) := y64.2
              let y67 : Int := y66.1
              let y68 : Int := (iadd .i64 (iconv .i64 (iand .u8 y59 7)) y5)
              let y69 : (Int × (Int × (Int × (Bool × Int)))) := y66.2.2
              let y70 : (Int × (Int × (Bool × Int))) := y69.2
              let y71 : (Int × (Bool × Int)) := y70.2
              let y72 : (Int × (Int × (Int × (Int × (Int × (Int × (Bool × Int))))))) := (y65, (y67, (y68, (y60, ((ishl .i64 1 y62), y71)))))
              .ret (.inl (.h4 y1 y63 y72))) (
              .need ((0 : Int) ≤ 6) <|
              let y73 : Int := (ishr .u8 y59 6)
              .need ((0 : Int) ≤ y73) <|
              let y74 : Int := (rdc (.int .i64) [0, 1, 4, 0] y2)
              let y75 : DOperand := (fn114 y7)
              let y76 : Int := y75.1
              let y77 : (Int × (Int × (Int × (Int × (Int × (Bool × Int)))))) := y75.2
              let y78 : Int := y77.1
              let y79 : Int := (iadd .i64 (iconv .i64 (iand .u8 y59 7)) y5)
              let y80 : (Int × (Int × (Int × (Bool × Int)))) := y77.2.2
              let y81 : (Int × (Int × (Bool × Int))) := y80.2
              let y82 : (Int × (Bool × Int)) := y81.2
              let y83 : (Int × (Int × (Int × (Int × (Int × (Int × (Bool × Int))))))) := (y76, (y78, (y79, (y60, ((ishl .i64 1 y73), y82)))))
              .ret (.inl (.h4 y1 y74 y83)))) (
            let y84 : Int := (rdc (.int .i64) [0, 1, 4, 0] y2)
            let y85 : DOperand := (fn114 y7)
            let y86 : Int := y85.1
            let y87 : (Int × (Int × (Int × (Int × (Int × (Bool × Int)))))) := y85.2
            let y88 : Int := y87.1
            let y89 : Int := (iadd .i64 (iconv .i64 (iand .u8 y59 7)) y5)
            let y90 : (Int × (Int × (Int × (Bool × Int)))) := y87.2.2
            let y91 : (Int × (Int × (Int × (Int × (Int × (Int × (Bool × Int))))))) := (y86, (y88, (y89, y90)))
            .ret (.inl (.h4 y1 y84 y91)))) (
          let y92 : Bool := ((ieq y4 5) == true)
          .ite y92 (
            let y93 : Bool := (ieq y1 0)
            .ite y93 (
              let y94 : DOperand := (fn114 y7)
              let y95 : Int := y94.1
              let y96 : (Int × (Int × (Int × (Int × (Int × (Bool × Int)))))) := y94.2
              let y97 : Int := y96.1
              let y98 : (Int × (Int × (Int × (Bool × Int)))) := y96.2.2
              let y99 : (Int × (Int × (Bool × Int))) := y98.2
              let y100 : (Int × (Bool × Int)) := y99.2
              let y101 : (Int × (Int × (Int × (Int × (Int × (Int × (Bool × Int))))))) := (y95, (y97, ((-1), (y98.1, (y99.1, (y100.1, (true, y100.2.2)))))))
              .ret (.inl (.h3 1 4 y101))) (
              let y102 : Int := (rdc (.int .i64) [0, 1, 4, 0] y2)
              let y103 : DOperand := (fn114 y7)
              .ret (.inl (.h3 1 y102 y103)))) (
            let y104 : Int := (rdc (.int .i64) [0, 1, 4, 0] y2)
            let y105 : DOperand := (fn114 y7)
            .ret (.inl (.h3 1 y104 y105))))))
  | .h2 =>
    .ret (.inr (0, ((0, (0, (0, (0, (0, (0, (false, 0))))))), (0, 80))))
  | .h3 v4 v14 v15 =>
    .ite (ilt (x.1.length : Int) (iadd .i64 v4 v14)) (
      .ret (.inl (.h2))) (
      .ret (.inl (.h5 v4 v14 v15)))
  | .h4 v4 v15 v16 =>
    .need ((0 : Int) ≤ 1) <|
    .need (1 < (x.1.length : Int)) <|
    .ite ((ieq (iand .u8 (rdc (.int .u8) x.1 1) 7) 5) == true) (
      .ite (ieq v4 0) (
        .ret (.inl (.h3 2 4 (v16.1, (v16.2.1, ((-1), v16.2.2.2)))))) (
        .ret (.inl (.h3 2 v15 v16)))) (
      .ret (.inl (.h3 2 v15 v16)))
  | .h5 v4 v14 v15 =>
    .need ((0 : Int) ≤ v4) <|
    let y0 : Int := (iadd .i64 v4 v14)
    .need ((0 : Int) ≤ y0) <|
    let y1 : Nat := (y0).toNat
    .need (((v4).toNat : Nat) ≤ y1) <|
    .need ((y1 : Nat) ≤ x.1.length) <|
    let y2 : (List Int) := ((x.1.drop (v4).toNat).take (y1 - (v4).toNat))
    .ret (.inl (.h6 (isub .i64 (y2.length : Int) 1) v4 v14 v15 y2))
  | .h6 v0 v5 v15 v16 v24 =>
    .ite (ile 0 v0) (
      .need ((0 : Int) ≤ v0) <|
      .need (v0 < (v24.length : Int)) <|
      .need ((0 : Int) ≤ 8) <|
      .ite (ieq v0 (isub .i64 v15 1)) (
        let y0 : Int := (isub .i64 v0 1)
        let y1 : Int := v16.2.1
        let y2 : (Int × (Int × (Int × (Int × (Bool × Int))))) := v16.2.2
        let y3 : Int := y2.1
        let y4 : (Int × (Int × (Int × (Bool × Int)))) := y2.2
        let y5 : Int := y4.1
        let y6 : (Int × (Int × (Bool × Int))) := y4.2
        let y7 : Int := y6.1
        let y8 : Int := (rdc (.int .u8) v24 (v0).toNat)
        let y9 : (Int × (Bool × Int)) := y6.2
        let y10 : (Bool × Int) := y9.2
        .ret (.inl (.h6 y0 v5 v15 (v16.1, (y1, (y3, (y5, (y7, ((iconv .i64 (iconv .i8 y8)), y10)))))) v24))) (
        let y11 : Int := (isub .i64 v0 1)
        let y12 : Int := v16.2.1
        let y13 : (Int × (Int × (Int × (Int × (Bool × Int))))) := v16.2.2
        let y14 : Int := y13.1
        let y15 : (Int × (Int × (Int × (Bool × Int)))) := y13.2
        let y16 : Int := y15.1
        let y17 : (Int × (Int × (Bool × Int))) := y15.2
        let y18 : Int := y17.1
        let y19 : (Int × (Bool × Int)) := y17.2
        let y20 : Int := (rdc (.int .u8) v24 (v0).toNat)
        let y21 : (Bool × Int) := y19.2
        .ret (.inl (.h6 y11 v5 v15 (v16.1, (y12, (y14, (y16, (y18, ((ior .i64 (ishl .i64 y19.1 8) (iconv .i64 y20)), y21)))))) v24)))) (
      .ret (.inl (.h7 v5 v15 v16)))
  | .h7 v1 v11 v12 =>
    .need ((0 : Int) ≤ 0) <|
    .need (0 < (x.1.length : Int)) <|
    .need ((0 : Int) ≤ 3) <|
    let y0 : (Int × Int) := (2, x.2)
    .need (pre113 y0) <|
    .ret (.inr ((iadd .i64 (iconv .i64 (iand .u8 (ishr .u8 (rdc (.int .u8) x.1 0) 3) 7)) (fn113 y0)), (v12, ((iadd .i64 v1 v11), 0))))
noncomputable def head92 (x : ((List Int) × Int)) : J92 → Head
  | .h0 =>
    { fr := { id := 92, kind := .top, T := [(.fsl (.int .u8) x.1), .any, .any, .any, (.int .i64 0), (.ptr 0 []), (.int .i64 0), (.int .i64 80), (.fn 113 [(.ptr 1 [])])] ++ List.replicate 140 .any, items := [.lp (subc [1, 0, 1, 1, 1, 0, 0, 0] (bodyOf Tryd.f92)), .blk 0, .code (subc [1, 0, 1, 1, 1, 1] (bodyOf Tryd.f92)), .scp], D := [], base := 0 },
      stk := [],
      H := [.cell true 23 (.agg [1, 1, 1, 1, 1, 1, 1, 1] [(.int .u8 0), (.int .i64 0), (.int .i64 0), (.int .i64 0), (.int .i64 0), (.int .i64 0), (.bool false), (.int .i64 0)]), .cell true 5 (.int .u8 x.2)] }
  | .h1 =>
    { fr := { id := 92, kind := .top, T := [(.fsl (.int .u8) x.1), .any, .any, .any, (.int .i64 0), (.ptr 0 []), (.int .i64 0), (.int .i64 80), (.fn 113 [(.ptr 1 [])])] ++ List.replicate 140 .any, items := [.code (subc [1, 0, 1, 1, 1, 0, 0, 0, 1, 0, 0] (bodyOf Tryd.f92)), .code (subc [1, 0, 1, 1, 1, 0, 0, 0, 1, 0, 1] (bodyOf Tryd.f92)), .blk 1, .lp (subc [1, 0, 1, 1, 1, 0, 0, 0] (bodyOf Tryd.f92)), .blk 0, .code (subc [1, 0, 1, 1, 1, 1] (bodyOf Tryd.f92)), .scp], D := [], base := 0 },
      stk := [],
      H := [.cell true 23 (.agg [1, 1, 1, 1, 1, 1, 1, 1] [(.int .u8 0), (.int .i64 0), (.int .i64 0), (.int .i64 0), (.int .i64 0), (.int .i64 0), (.bool false), (.int .i64 0)]), .cell true 5 (.int .u8 x.2)] }
  | .h2 =>
    { fr := { id := 92, kind := .top, T := List.replicate 5 .any ++ [(.ptr 0 []), .any, (.int .i64 80)] ++ List.replicate 141 .any, items := [.code (subc [1, 0, 1, 1, 1, 1, 0] (bodyOf Tryd.f92)), .code (subc [1, 0, 1, 1, 1, 1, 1] (bodyOf Tryd.f92)), .scp], D := [], base := 0 },
      stk := [],
      H := [.cell true 23 (.agg [1, 1, 1, 1, 1, 1, 1, 1] [(.int .u8 0), (.int .i64 0), (.int .i64 0), (.int .i64 0), (.int .i64 0), (.int .i64 0), (.bool false), (.int .i64 0)])] }
  | .h3 v4 v14 v15 =>
    { fr := { id := 92, kind := .top, T := [(.fsl (.int .u8) x.1), .any, .any, .any, (.int .i64 0), (.ptr 0 []), (.int .i64 0), (.int .i64 80), (.fn 113 [(.ptr 1 [])]), .any, .any, (.ptr 2 []), (.ptr 3 []), (.int .i64 v4)] ++ List.replicate 135 .any, items := [.code (subc [1, 0, 1, 1, 1, 0, 0, 0, 1, 0, 1, 1, 1, 1, 0, 0] (bodyOf Tryd.f92)), .code (subc [1, 0, 1, 1, 1, 0, 0, 0, 1, 0, 1, 1, 1, 1, 0, 1] (bodyOf Tryd.f92)), .code (subc [1, 0, 1, 1, 1, 0, 0, 0, 1, 0, 1, 1, 1, 1, 1] (bodyOf Tryd.f92)), .blk 1, .lp (subc [1, 0, 1, 1, 1, 0, 0, 0] (bodyOf Tryd.f92)), .blk 0, .code (subc [1, 0, 1, 1, 1, 1] (bodyOf Tryd.f92)), .scp], D := [], base := 0 },
      stk := [],
      H := [.cell true 23 (.agg [1, 1, 1, 1, 1, 1, 1, 1] [(.int .u8 0), (.int .i64 0), (.int .i64 0), (.int .i64 0), (.int .i64 0), (.int .i64 0), (.bool false), (.int .i64 0)]), .cell true 5 (.int .u8 x.2), .cell true 3 (.int .i64 v14), .cell true 23 (.agg [1, 1, 1, 1, 1, 1, 1, 1] [(.int .u8 v15.1), (.int .i64 v15.2.1), (.int .i64 v15.2.2.1), (.int .i64 v15.2.2.2.1), (.int .i64 v15.2.2.2.2.1), (.int .i64 v15.2.2.2.2.2.1), (.bool v15.2.2.2.2.2.2.1), (.int .i64 v15.2.2.2.2.2.2.2)])] }
  | .h4 v4 v15 v16 =>
    { fr := { id := 92, kind := .top, T := [(.fsl (.int .u8) x.1), .any, .any, .any, (.int .i64 0), (.ptr 0 []), (.int .i64 0), (.int .i64 80), (.fn 113 [(.ptr 1 [])]), (.int .u8 v4), .any, (.ptr 2 []), (.ptr 3 []), (.int .i64 2)] ++ List.replicate 135 .any, items := [.code (subc [1, 0, 1, 1, 1, 0, 0, 0, 1, 0, 1, 1, 1, 0, 0, 1, 1, 1, 1, 1, 0, 1, 1, 1, 0] (bodyOf Tryd.f92)), .code (subc [1, 0, 1, 1, 1, 0, 0, 0, 1, 0, 1, 1, 1, 0, 0, 1, 1, 1, 1, 1, 0, 1, 1, 1, 1] (bodyOf Tryd.f92)), .blk 2, .code (subc [1, 0, 1, 1, 1, 0, 0, 0, 1, 0, 1, 1, 1, 1] (bodyOf Tryd.f92)), .blk 1, .lp (subc [1, 0, 1, 1, 1, 0, 0, 0] (bodyOf Tryd.f92)), .blk 0, .code (subc [1, 0, 1, 1, 1, 1] (bodyOf Tryd.f92)), .scp], D := [], base := 0 },
      stk := [],
      H := [.cell true 23 (.agg [1, 1, 1, 1, 1, 1, 1, 1] [(.int .u8 0), (.int .i64 0), (.int .i64 0), (.int .i64 0), (.int .i64 0), (.int .i64 0), (.bool false), (.int .i64 0)]), .cell true 5 (.int .u8 x.2), .cell true 3 (.int .i64 v15), .cell true 23 (.agg [1, 1, 1, 1, 1, 1, 1, 1] [(.int .u8 v16.1), (.int .i64 v16.2.1), (.int .i64 v16.2.2.1), (.int .i64 v16.2.2.2.1), (.int .i64 v16.2.2.2.2.1), (.int .i64 v16.2.2.2.2.2.1), (.bool v16.2.2.2.2.2.2.1), (.int .i64 v16.2.2.2.2.2.2.2)])] }
  | .h5 v4 v14 v15 =>
    { fr := { id := 92, kind := .top, T := [(.fsl (.int .u8) x.1), .any, .any, .any, (.int .i64 0), (.ptr 0 []), (.int .i64 0), (.int .i64 80), (.fn 113 [(.ptr 1 [])]), .any, .any, (.ptr 2 []), (.ptr 3 []), (.int .i64 v4)] ++ List.replicate 135 .any, items := [.code (subc [1, 0, 1, 1, 1, 0, 0, 0, 1, 0, 1, 1, 1, 1, 1, 0, 0] (bodyOf Tryd.f92)), .code (subc [1, 0, 1, 1, 1, 0, 0, 0, 1, 0, 1, 1, 1, 1, 1, 0, 1] (bodyOf Tryd.f92)), .code (subc [1, 0, 1, 1, 1, 0, 0, 0, 1, 0, 1, 1, 1, 1, 1, 1] (bodyOf Tryd.f92)), .blk 1, .lp (subc [1, 0, 1, 1, 1, 0, 0, 0] (bodyOf Tryd.f92)), .blk 0, .code (subc [1, 0, 1, 1, 1, 1] (bodyOf Tryd.f92)), .scp], D := [], base := 0 },
      stk := [],
      H := [.cell true 23 (.agg [1, 1, 1, 1, 1, 1, 1, 1] [(.int .u8 0), (.int .i64 0), (.int .i64 0), (.int .i64 0), (.int .i64 0), (.int .i64 0), (.bool false), (.int .i64 0)]), .cell true 5 (.int .u8 x.2), .cell true 3 (.int .i64 v14), .cell true 23 (.agg [1, 1, 1, 1, 1, 1, 1, 1] [(.int .u8 v15.1), (.int .i64 v15.2.1), (.int .i64 v15.2.2.1), (.int .i64 v15.2.2.2.1), (.int .i64 v15.2.2.2.2.1), (.int .i64 v15.2.2.2.2.2.1), (.bool v15.2.2.2.2.2.2.1), (.int .i64 v15.2.2.2.2.2.2.2)])] }
  | .h6 v0 v5 v15 v16 v24 =>
    { fr := { id := 164, kind := (.iter 6), T := [(.yld 6), (.ptr 4 []), .any, (.int .i64 v0)] ++ List.replicate 15 .any, items := [.lp (subc [1, 0, 0] (bodyOf Tryd.f164)), .blk 0], D := [], base := 7 },
      stk := [{ id := 92, kind := .top, T := [(.fsl (.int .u8) x.1), .any, .any, .any, (.int .i64 0), (.ptr 0 []), (.int .i64 0), (.int .i64 80), (.fn 113 [(.ptr 1 [])]), .any, .any, (.ptr 2 []), (.ptr 3 []), (.int .i64 v5)] ++ List.replicate 135 .any, items := [.fin 6, .blk 3, .code (subc [1, 0, 1, 1, 1, 0, 0, 0, 1, 0, 1, 1, 1, 1, 1, 1] (bodyOf Tryd.f92)), .blk 1, .lp (subc [1, 0, 1, 1, 1, 0, 0, 0] (bodyOf Tryd.f92)), .blk 0, .code (subc [1, 0, 1, 1, 1, 1] (bodyOf Tryd.f92)), .scp], D := [5], base := 0 }],
      H := [.cell true 23 (.agg [1, 1, 1, 1, 1, 1, 1, 1] [(.int .u8 0), (.int .i64 0), (.int .i64 0), (.int .i64 0), (.int .i64 0), (.int .i64 0), (.bool false), (.int .i64 0)]), .cell true 5 (.int .u8 x.2), .cell true 3 (.int .i64 v15), .cell true 23 (.agg [1, 1, 1, 1, 1, 1, 1, 1] [(.int .u8 v16.1), (.int .i64 v16.2.1), (.int .i64 v16.2.2.1), (.int .i64 v16.2.2.2.1), (.int .i64 v16.2.2.2.2.1), (.int .i64 v16.2.2.2.2.2.1), (.bool v16.2.2.2.2.2.2.1), (.int .i64 v16.2.2.2.2.2.2.2)]), .cell true 28 (.fsl (.int .u8) v24), .dfd, .loop .ready none 92 (List.replicate 11 .any ++ [(.ptr 2 []), (.ptr 3 [])] ++ List.replicate 136 .any) [117, 118] (subc [1, 0, 1, 1, 1, 0, 0, 0, 1, 0, 1, 1, 1, 1, 1, 0, 1, 0, 0] (bodyOf Tryd.f92)) (subc [1, 0, 1, 1, 1, 0, 0, 0, 1, 0, 1, 1, 1, 1, 1, 0, 1, 0, 1] (bodyOf Tryd.f92)) 5] }
  | .h7 v1 v11 v12 =>
    { fr := { id := 92, kind := .top, T := [(.fsl (.int .u8) x.1)] ++ List.replicate 4 .any ++ [(.ptr 1 []), .any, .any, (.fn 113 [(.ptr 2 [])]), .any, .any, (.ptr 3 []), (.ptr 4 []), (.int .i64 v1)] ++ List.replicate 135 .any, items := [.code (subc [1, 0, 1, 1, 1, 0, 0, 0, 1, 0, 1, 1, 1, 1, 1, 1, 0] (bodyOf Tryd.f92)), .code (subc [1, 0, 1, 1, 1, 0, 0, 0, 1, 0, 1, 1, 1, 1, 1, 1, 1] (bodyOf Tryd.f92)), .blk 1, .lp (subc [1, 0, 1, 1, 1, 0, 0, 0] (bodyOf Tryd.f92)), .blk 0, .code (subc [1, 0, 1, 1, 1, 1] (bodyOf Tryd.f92)), .scp], D := [0], base := 0 },
      stk := [],
      H := [.dfd, .cell true 23 (.agg [1, 1, 1, 1, 1, 1, 1, 1] [(.int .u8 0), (.int .i64 0), (.int .i64 0), (.int .i64 0), (.int .i64 0), (.int .i64 0), (.bool false), (.int .i64 0)]), .cell true 5 (.int .u8 x.2), .cell true 3 (.int .i64 v11), .cell true 23 (.agg [1, 1, 1, 1, 1, 1, 1, 1] [(.int .u8 v12.1), (.int .i64 v12.2.1), (.int .i64 v12.2.2.1), (.int .i64 v12.2.2.2.1), (.int .i64 v12.2.2.2.2.1), (.int .i64 v12.2.2.2.2.2.1), (.bool v12.2.2.2.2.2.2.1), (.int .i64 v12.2.2.2.2.2.2.2)])] }
noncomputable def stop92 : FuncId → Nat → Nat → Option Cut
  | 92, 0, 0 => some { tmps := [0, 4, 5, 6, 7, 8], loops := [], dead := [], stk := [] }
  | 92, 9, 0 => some { tmps := [0, 4, 5, 6, 7, 8], loops := [], dead := [], stk := [] }
  | 92, 57, 0 => some { tmps := [5, 7], loops := [], dead := [], stk := [] }
  | 92, 41, 0 => some { tmps := [0, 4, 5, 6, 7, 8, 11, 12, 13], loops := [], dead := [], stk := [] }
  | 92, 33, 0 => some { tmps := [0, 4, 5, 6, 7, 8, 9, 11, 12, 13], loops := [], dead := [], stk := [] }
  | 92, 43, 0 => some { tmps := [0, 4, 5, 6, 7, 8, 11, 12, 13], loops := [], dead := [], stk := [] }
  | 164, 0, 7 => some { tmps := [0, 1, 3], loops := [(6, [11, 12])], dead := [], stk := [[0, 4, 5, 6, 7, 8, 11, 12, 13]] }
  | 92, 55, 0 => some { tmps := [0, 5, 8, 11, 12, 13], loops := [], dead := [], stk := [] }
  | _, _, _ => none
noncomputable def fn92 (x : ((List Int) × Int)) : (Int × (DOperand × (Int × Int))) := endVal (TC.dflt (.st (.int .i64) (.st COperand (.st (.int .i64) (.st1 (.int .i64)))))) (step92 x) (tree92 x)
def pre92 (x : ((List Int) × Int)) : Prop := ∃ r, Ends (step92 x) r (tree92 x)
noncomputable def spec92 : Spec := { dom := (.st (.slice (.int .u8)) (.st1 (.int .u8))), cod := (.st (.int .i64) (.st COperand (.st (.int .i64) (.st1 (.int .i64))))), n := 4, pre := pre92, f := fn92 }
noncomputable def need92 : FuncId → Option Spec
  | 60 => some spec60
  | 113 => some spec113
  | 114 => some spec114
  | _ => none
theorem need92_ok : ∀ f sp, need92 f = some sp → SpecOk env0 f sp := by
  intro f sp h
  unfold need92 at h
  split at h
  · cases h; exact ok60
  · cases h; exact ok113
  · cases h; exact ok114
  · cases h
theorem run92 (W : Cfg) (Q : (Int × (DOperand × (Int × Int))) → Prop) (x : ((List Int) × Int)) : run (env need92 (fun _ _ => none)) stop92 (finS spec92 Q) W 100000 (startFr 92 Tryd.f92 (bodyOf Tryd.f92) (argsOf (.st (.slice (.int .u8)) (.st1 (.int .u8))) x)) [] [] = (tree92 x).wp (kont W Q (head92 x)) := by kernel_rfl
theorem run92h0 (W : Cfg) (Q : (Int × (DOperand × (Int × Int))) → Prop) (x : ((List Int) × Int)) : run (env need92 (fun _ _ => none)) stop92 (finS spec92 Q) W 100000 (head92 x (.h0)).fr.enter (head92 x (.h0)).stk (head92 x (.h0)).H = (step92 x (.h0)).wp (kont W Q (head92 x)) := by kernel_rfl
theorem run92h1 (W : Cfg) (Q : (Int × (DOperand × (Int × Int))) → Prop) (x : ((List Int) × Int)) : run (env need92 (fun _ _ => none)) stop92 (finS spec92 Q) W 100000 (head92 x (.h1)).fr.enter (head92 x (.h1)).stk (head92 x (.h1)).H = (step92 x (.h1)).wp (kont W Q (head92 x)) := by kernel_rfl
theorem run92h2 (W : Cfg) (Q : (Int × (DOperand × (Int × Int))) → Prop) (x : ((List Int) × Int)) : run (env need92 (fun _ _ => none)) stop92 (finS spec92 Q) W 100000 (head92 x (.h2)).fr.enter (head92 x (.h2)).stk (head92 x (.h2)).H = (step92 x (.h2)).wp (kont W Q (head92 x)) := by kernel_rfl
theorem run92h3 (W : Cfg) (Q : (Int × (DOperand × (Int × Int))) → Prop) (x : ((List Int) × Int)) (v4 : Int) (v14 : Int) (v15 : DOperand) : run (env need92 (fun _ _ => none)) stop92 (finS spec92 Q) W 100000 (head92 x (.h3 v4 v14 v15)).fr.enter (head92 x (.h3 v4 v14 v15)).stk (head92 x (.h3 v4 v14 v15)).H = (step92 x (.h3 v4 v14 v15)).wp (kont W Q (head92 x)) := by kernel_rfl
theorem run92h4 (W : Cfg) (Q : (Int × (DOperand × (Int × Int))) → Prop) (x : ((List Int) × Int)) (v4 : Int) (v15 : Int) (v16 : DOperand) : run (env need92 (fun _ _ => none)) stop92 (finS spec92 Q) W 100000 (head92 x (.h4 v4 v15 v16)).fr.enter (head92 x (.h4 v4 v15 v16)).stk (head92 x (.h4 v4 v15 v16)).H = (step92 x (.h4 v4 v15 v16)).wp (kont W Q (head92 x)) := by kernel_rfl
theorem run92h5 (W : Cfg) (Q : (Int × (DOperand × (Int × Int))) → Prop) (x : ((List Int) × Int)) (v4 : Int) (v14 : Int) (v15 : DOperand) : run (env need92 (fun _ _ => none)) stop92 (finS spec92 Q) W 100000 (head92 x (.h5 v4 v14 v15)).fr.enter (head92 x (.h5 v4 v14 v15)).stk (head92 x (.h5 v4 v14 v15)).H = (step92 x (.h5 v4 v14 v15)).wp (kont W Q (head92 x)) := by kernel_rfl
theorem run92h6 (W : Cfg) (Q : (Int × (DOperand × (Int × Int))) → Prop) (x : ((List Int) × Int)) (v0 : Int) (v5 : Int) (v15 : Int) (v16 : DOperand) (v24 : (List Int)) : run (env need92 (fun _ _ => none)) stop92 (finS spec92 Q) W 100000 (head92 x (.h6 v0 v5 v15 v16 v24)).fr.enter (head92 x (.h6 v0 v5 v15 v16 v24)).stk (head92 x (.h6 v0 v5 v15 v16 v24)).H = (step92 x (.h6 v0 v5 v15 v16 v24)).wp (kont W Q (head92 x)) := by kernel_rfl
theorem run92h7 (W : Cfg) (Q : (Int × (DOperand × (Int × Int))) → Prop) (x : ((List Int) × Int)) (v1 : Int) (v11 : Int) (v12 : DOperand) : run (env need92 (fun _ _ => none)) stop92 (finS spec92 Q) W 100000 (head92 x (.h7 v1 v11 v12)).fr.enter (head92 x (.h7 v1 v11 v12)).stk (head92 x (.h7 v1 v11 v12)).H = (step92 x (.h7 v1 v11 v12)).wp (kont W Q (head92 x)) := by kernel_rfl
theorem runs92 (W : Cfg) (Q : (Int × (DOperand × (Int × Int))) → Prop) (x : ((List Int) × Int)) : ∀ j : J92, run (env need92 (fun _ _ => none)) stop92 (finS spec92 Q) W 100000 (head92 x j).fr.enter (head92 x j).stk (head92 x j).H = (step92 x j).wp (kont W Q (head92 x))
  | .h0 => run92h0 W Q x
  | .h1 => run92h1 W Q x
  | .h2 => run92h2 W Q x
  | .h3 v4 v14 v15 => run92h3 W Q x v4 v14 v15
  | .h4 v4 v15 v16 => run92h4 W Q x v4 v15 v16
  | .h5 v4 v14 v15 => run92h5 W Q x v4 v14 v15
  | .h6 v0 v5 v15 v16 v24 => run92h6 W Q x v0 v5 v15 v16 v24
  | .h7 v1 v11 v12 => run92h7 W Q x v1 v11 v12
theorem ok92 : SpecOk env0 92 spec92 := SpecOk.env rfl (fun _ _ h => h) (spec_of_trees (E := (env need92 (fun _ _ => none))) (sp := spec92) (valid _ _) (fun f sp h => SpecOk.env rfl (fun _ _ h => h) (need92_ok f sp h)) (fn := Tryd.f92) (c := (bodyOf Tryd.f92)) (by kernel_rfl) (by kernel_rfl) tree92 step92 head92 run92 runs92 (fun _ h => endVal_ends h))

/-! ### (*sundial/decode.reader).operands$1 -/
noncomputable def tree93 (x : DOperand) : Tr Bool :=
  .ite ((ieq x.1 1) == true) (
    let y0 : Int := x.2.1
    .ite ((ile 4 y0) == true) (
      .ret (ilt y0 8)) (
      .ret false)) (
    .ret false)
noncomputable def fn93 (x : DOperand) : Bool := (tree93 x).val
def pre93 (x : DOperand) : Prop := (tree93 x).ok
noncomputable def spec93 : Spec := { dom := (.st1 COperand), cod := .bool, n := 1, pre := pre93, f := fn93 }
noncomputable def need93 : FuncId → Option Spec
  | _ => none
theorem need93_ok : ∀ f sp, need93 f = some sp → SpecOk env0 f sp := by
  intro f sp h
  unfold need93 at h
  split at h
  · cases h
theorem run93 (W : Cfg) (Q : Bool → Prop) (x : DOperand) : run (env need93 (fun _ _ => none)) (fun _ _ _ => none) (finS spec93 Q) W 100000 (startFr 93 Tryd.f93 (bodyOf Tryd.f93) (argsOf (.st1 COperand) x)) [] [] = (tree93 x).wp Q := by kernel_rfl
theorem ok93 : SpecOk env0 93 spec93 := SpecOk.env rfl (fun _ _ h => h) (spec_of_tree (E := (env need93 (fun _ _ => none))) (sp := spec93) (valid _ _) (fun f sp h => SpecOk.env rfl (fun _ _ h => h) (need93_ok f sp h)) (fn := Tryd.f93) (c := (bodyOf Tryd.f93)) (by kernel_rfl) (by kernel_rfl) tree93 run93 (fun _ h => Tr.gives_val h))

/-! ### sundial/bits.Number -/
inductive J94 where
  | h0 (v0 : Int) (v1 : (List Int)) (v2 : Int) (v3 : Int)
noncomputable def tree94 (x : (List Int)) : Tr (J94 ⊕ Int) :=
  let y0 : Int := (imin (x.length : Int) 8)
  .need ((0 : Int) ≤ y0) <|
  let y1 : Nat := (y0).toNat
  .need ((0 : Nat) ≤ y1) <|
  .need ((y1 : Nat) ≤ x.length) <|
  let y2 : (List Int) := ((x.drop 0).take (y1 - 0))
  .ret (.inl (.h0 0 y2 (y2.length : Int) 0))
noncomputable def step94 (_x : (List Int)) : J94 → Tr (J94 ⊕ Int)
  | .h0 v0 v1 v2 v3 =>
    .ite (ilt v3 v2) (
      .need ((0 : Int) ≤ v3) <|
      .need (v3 < (v1.length : Int)) <|
      let y0 : Int := (imul .i64 8 v3)
      .need ((0 : Int) ≤ y0) <|
      .ret (.inl (.h0 (ior .u64 v0 (ishl .u64 (iconv .u64 (rdc (.int .u8) v1 (v3).toNat)) y0)) v1 v2 (iadd .i64 v3 1)))) (
      .ret (.inr v0))
noncomputable def head94 (_x : (List Int)) : J94 → Head
  | .h0 v0 v1 v2 v3 =>
    { fr := { id := 94, kind := .top, T := [.any, .any, (.int .u64 v0)] ++ List.replicate 6 .any ++ [(.fsl (.int .u8) v1), (.int .i64 v2), (.int .i64 v3)] ++ List.replicate 13 .any, items := [.lp (subc [1, 0, 1, 0, 0] (bodyOf Tryd.f94)), .blk 0, .code (subc [1, 1] (bodyOf Tryd.f94))], D := [], base := 0 },
      stk := [],
      H := [] }
noncomputable def stop94 : FuncId → Nat → Nat → Option Cut
  | 94, 0, 0 => some { tmps := [2, 9, 10, 11], loops := [], dead := [], stk := [] }
  | _, _, _ => none
noncomputable def fn94 (x : (List Int)) : Int := endVal (TC.dflt (.int .u64)) (step94 x) (tree94 x)
def pre94 (x : (List Int)) : Prop := ∃ r, Ends (step94 x) r (tree94 x)
noncomputable def spec94 : Spec := { dom := (.st1 (.slice (.int .u8))), cod := (.int .u64), n := 1, pre := pre94, f := fn94 }
noncomputable def need94 : FuncId → Option Spec
  | _ => none
theorem need94_ok : ∀ f sp, need94 f = some sp → SpecOk env0 f sp := by
  intro f sp h
  unfold need94 at h
  split at h
  · cases h
theorem run94 (W : Cfg) (Q : Int → Prop) (x : (List Int)) : run (env need94 (fun _ _ => none)) stop94 (finS spec94 Q) W 100000 (startFr 94 Tryd.f94 (bodyOf Tryd.f94) (argsOf (.st1 (.slice (.int .u8))) x)) [] [] = (tree94 x).wp (kont W Q (head94 x)) := by kernel_rfl
theorem run94h0 (W : Cfg) (Q : Int → Prop) (x : (List Int)) (v0 : Int) (v1 : (List Int)) (v2 : Int) (v3 : Int) : run (env need94 (fun _ _ => none)) stop94 (finS spec94 Q) W 100000 (head94 x (.h0 v0 v1 v2 v3)).fr.enter (head94 x (.h0 v0 v1 v2 v3)).stk (head94 x (.h0 v0 v1 v2 v3)).H = (step94 x (.h0 v0 v1 v2 v3)).wp (kont W Q (head94 x)) := by kernel_rfl
theorem runs94 (W : Cfg) (Q : Int → Prop) (x : (List Int)) : ∀ j : J94, run (env need94 (fun _ _ => none)) stop94 (finS spec94 Q) W 100000 (head94 x j).fr.enter (head94 x j).stk (head94 x j).H = (step94 x j).wp (kont W Q (head94 x))
  | .h0 v0 v1 v2 v3 => run94h0 W Q x v0 v1 v2 v3
theorem ok94 : SpecOk env0 94 spec94 := SpecOk.env rfl (fun _ _ h => h) (spec_of_trees (E := (env need94 (fun _ _ => none))) (sp := spec94) (valid _ _) (fun f sp h => SpecOk.env rfl (fun _ _ h => h) (need94_ok f sp h)) (fn := Tryd.f94) (c := (bodyOf Tryd.f94)) (by kernel_rfl) (by kernel_rfl) tree94 step94 head94 run94 runs94 (fun _ h => endVal_ends h))

/-! ### sundial/bits.wide -/
noncomputable def tree116 (x : Int) : Tr Int :=
  .ret (imin (imax x 1) 8)
noncomputable def fn116 (x : Int) : Int := (tree116 x).val
def pre116 (x : Int) : Prop := (tree116 x).ok
noncomputable def spec116 : Spec := { dom := (.st1 (.int .i64)), cod := (.int .i64), n := 1, pre := pre116, f := fn116 }
noncomputable def need116 : FuncId → Option Spec
  | _ => none
theorem need116_ok : ∀ f sp, need116 f = some sp → SpecOk env0 f sp := by
  intro f sp h
  unfold need116 at h
  split at h
  · cases h
theorem run116 (W : Cfg) (Q : Int → Prop) (x : Int) : run (env need116 (fun _ _ => none)) (fun _ _ _ => none) (finS spec116 Q) W 100000 (startFr 116 Tryd.f116 (bodyOf Tryd.f116) (argsOf (.st1 (.int .i64)) x)) [] [] = (tree116 x).wp Q := by kernel_rfl
theorem ok116 : SpecOk env0 116 spec116 := SpecOk.env rfl (fun _ _ h => h) (spec_of_tree (E := (env need116 (fun _ _ => none))) (sp := spec116) (valid _ _) (fun f sp h => SpecOk.env rfl (fun _ _ h => h) (need116_ok f sp h)) (fn := Tryd.f116) (c := (bodyOf Tryd.f116)) (by kernel_rfl) (by kernel_rfl) tree116 run116 (fun _ h => Tr.gives_val h))

/-! ### sundial/bits.Ext -/
noncomputable def tree95 (x : (Int × Int)) : Tr Int :=
  .need (pre116 x.2) <|
  let y0 : Int := (isub .i64 64 (imul .i64 8 (fn116 x.2)))
  .need ((0 : Int) ≤ y0) <|
  .need ((0 : Int) ≤ y0) <|
  .ret (iconv .u64 (ishr .i64 (iconv .i64 (ishl .u64 x.1 y0)) y0))
noncomputable def fn95 (x : (Int × Int)) : Int := (tree95 x).val
def pre95 (x : (Int × Int)) : Prop := (tree95 x).ok
noncomputable def spec95 : Spec := { dom := (.st (.int .u64) (.st1 (.int .i64))), cod := (.int .u64), n := 1, pre := pre95, f := fn95 }
noncomputable def need95 : FuncId → Option Spec
  | 116 => some spec116
  | _ => none
theorem need95_ok : ∀ f sp, need95 f = some sp → SpecOk env0 f sp := by
  intro f sp h
  unfold need95 at h
  split at h
  · cases h; exact ok116
  · cases h
theorem run95 (W : Cfg) (Q : Int → Prop) (x : (Int × Int)) : run (env need95 (fun _ _ => none)) (fun _ _ _ => none) (finS spec95 Q) W 100000 (startFr 95 Tryd.f95 (bodyOf Tryd.f95) (argsOf (.st (.int .u64) (.st1 (.int .i64))) x)) [] [] = (tree95 x).wp Q := by kernel_rfl
theorem ok95 : SpecOk env0 95 spec95 := SpecOk.env rfl (fun _ _ h => h) (spec_of_tree (E := (env need95 (fun _ _ => none))) (sp := spec95) (valid _ _) (fun f sp h => SpecOk.env rfl (fun _ _ h => h) (need95_ok f sp h)) (fn := Tryd.f95) (c := (bodyOf Tryd.f95)) (by kernel_rfl) (by kernel_rfl) tree95 run95 (fun _ h => Tr.gives_val h))

end Go.Eng.RD
end
section
/- The forms, as data; what the functions that tell them come to. -/
namespace Go.Eng.RD
open Go.Eng

def lMoves : List DForm := [(0, 0, 137, false, (-1), 1, 0, 0, 1, 0, false, false, false, false),
  (0, 0, 139, false, (-1), 1, 0, 0, 2, 0, false, false, false, false),
  (0, 0, 199, false, 0, 1, 0, 0, 4, 4, false, false, false, false),
  (0, 0, 184, true, (-1), 1, 0, 8, 7, 8, true, false, false, false),
  (0, 0, 136, false, (-1), 1, 0, 1, 1, 0, false, false, true, false),
  (0, 0, 138, false, (-1), 1, 0, 1, 2, 0, false, false, true, false),
  (0, 0, 198, false, 0, 1, 0, 1, 4, 1, false, false, true, false),
  (0, 0, 141, false, (-1), 2, 0, 0, 2, 0, false, false, false, true)]

def lSums : List DForm := [(0, 0, 1, false, (-1), 3, 0, 0, 1, 0, false, false, false, false),
  (0, 0, 3, false, (-1), 3, 0, 0, 2, 0, false, false, false, false),
  (0, 0, 9, false, (-1), 4, 0, 0, 1, 0, false, false, false, false),
  (0, 0, 11, false, (-1), 4, 0, 0, 2, 0, false, false, false, false),
  (0, 0, 17, false, (-1), 5, 0, 0, 1, 0, false, false, false, false),
  (0, 0, 19, false, (-1), 5, 0, 0, 2, 0, false, false, false, false),
  (0, 0, 25, false, (-1), 6, 0, 0, 1, 0, false, false, false, false),
  (0, 0, 27, false, (-1), 6, 0, 0, 2, 0, false, false, false, false),
  (0, 0, 33, false, (-1), 7, 0, 0, 1, 0, false, false, false, false),
  (0, 0, 35, false, (-1), 7, 0, 0, 2, 0, false, false, false, false),
  (0, 0, 41, false, (-1), 8, 0, 0, 1, 0, false, false, false, false),
  (0, 0, 43, false, (-1), 8, 0, 0, 2, 0, false, false, false, false),
  (0, 0, 49, false, (-1), 9, 0, 0, 1, 0, false, false, false, false),
  (0, 0, 51, false, (-1), 9, 0, 0, 2, 0, false, false, false, false),
  (0, 0, 57, false, (-1), 10, 0, 0, 1, 0, false, false, false, false),
  (0, 0, 59, false, (-1), 10, 0, 0, 2, 0, false, false, false, false),
  (0, 0, 131, false, 0, 3, 0, 0, 4, 1, false, false, false, false),
  (0, 0, 129, false, 0, 3, 0, 0, 4, 4, false, false, false, false),
  (0, 0, 131, false, 1, 4, 0, 0, 4, 1, false, false, false, false),
  (0, 0, 129, false, 1, 4, 0, 0, 4, 4, false, false, false, false),
  (0, 0, 131, false, 2, 5, 0, 0, 4, 1, false, false, false, false),
  (0, 0, 129, false, 2, 5, 0, 0, 4, 4, false, false, false, false),
  (0, 0, 131, false, 3, 6, 0, 0, 4, 1, false, false, false, false),
  (0, 0, 129, false, 3, 6, 0, 0, 4, 4, false, false, false, false),
  (0, 0, 131, false, 4, 7, 0, 0, 4, 1, false, false, false, false),
  (0, 0, 129, false, 4, 7, 0, 0, 4, 4, false, false, false, false),
  (0, 0, 131, false, 5, 8, 0, 0, 4, 1, false, false, false, false),
  (0, 0, 129, false, 5, 8, 0, 0, 4, 4, false, false, false, false),
  (0, 0, 131, false, 6, 9, 0, 0, 4, 1, false, false, false, false),
  (0, 0, 129, false, 6, 9, 0, 0, 4, 4, false, false, false, false),
  (0, 0, 131, false, 7, 10, 0, 0, 4, 1, false, false, false, false),
  (0, 0, 129, false, 7, 10, 0, 0, 4, 4, false, false, false, false),
  (0, 0, 133, false, (-1), 11, 0, 0, 1, 0, false, false, false, false),
  (0, 0, 247, false, 0, 11, 0, 0, 4, 4, false, false, false, false),
  (0, 0, 255, false, 0, 12, 0, 0, 3, 0, false, false, false, false),
  (0, 0, 255, false, 1, 13, 0, 0, 3, 0, false, false, false, false),
  (0, 0, 247, false, 2, 15, 0, 0, 3, 0, false, false, false, false),
  (0, 0, 247, false, 3, 14, 0, 0, 3, 0, false, false, false, false),
  (0, 0, 247, false, 4, 22, 0, 0, 3, 0, false, false, false, false),
  (0, 0, 247, false, 6, 23, 0, 0, 3, 0, false, false, false, false),
  (0, 0, 193, false, 0, 19, 0, 0, 4, 1, false, false, false, false),
  (0, 0, 211, false, 0, 19, 0, 0, 5, 0, false, false, false, false),
  (0, 0, 193, false, 1, 20, 0, 0, 4, 1, false, false, false, false),
  (0, 0, 211, false, 1, 20, 0, 0, 5, 0, false, false, false, false),
  (0, 0, 193, false, 4, 16, 0, 0, 4, 1, false, false, false, false),
  (0, 0, 211, false, 4, 16, 0, 0, 5, 0, false, false, false, false),
  (0, 0, 193, false, 5, 17, 0, 0, 4, 1, false, false, false, false),
  (0, 0, 211, false, 5, 17, 0, 0, 5, 0, false, false, false, false),
  (0, 0, 193, false, 7, 18, 0, 0, 4, 1, false, false, false, false),
  (0, 0, 211, false, 7, 18, 0, 0, 5, 0, false, false, false, false),
  (0, 1, 175, false, (-1), 21, 0, 0, 2, 0, false, false, false, false)]

def lFlowsA : List DForm := [(0, 0, 80, true, (-1), 24, 0, 8, 6, 0, false, false, false, false),
  (0, 0, 88, true, (-1), 25, 0, 8, 6, 0, false, false, false, false),
  (0, 0, 232, false, (-1), 26, 0, 8, 8, 4, false, false, false, false),
  (0, 0, 195, false, (-1), 27, 0, 8, 0, 0, false, false, false, false),
  (0, 0, 233, false, (-1), 28, 0, 8, 8, 4, false, false, false, false),
  (0, 0, 235, false, (-1), 28, 0, 8, 8, 1, false, false, false, false),
  (0, 0, 255, false, 4, 28, 0, 8, 3, 0, false, false, false, false),
  (0, 1, 128, false, (-1), 29, 0, 8, 8, 4, false, false, false, false),
  (0, 0, 112, false, (-1), 29, 0, 8, 8, 1, false, false, false, false),
  (0, 1, 129, false, (-1), 29, 1, 8, 8, 4, false, false, false, false),
  (0, 0, 113, false, (-1), 29, 1, 8, 8, 1, false, false, false, false),
  (0, 1, 130, false, (-1), 29, 2, 8, 8, 4, false, false, false, false),
  (0, 0, 114, false, (-1), 29, 2, 8, 8, 1, false, false, false, false),
  (0, 1, 131, false, (-1), 29, 3, 8, 8, 4, false, false, false, false),
  (0, 0, 115, false, (-1), 29, 3, 8, 8, 1, false, false, false, false),
  (0, 1, 132, false, (-1), 29, 4, 8, 8, 4, false, false, false, false),
  (0, 0, 116, false, (-1), 29, 4, 8, 8, 1, false, false, false, false),
  (0, 1, 133, false, (-1), 29, 5, 8, 8, 4, false, false, false, false),
  (0, 0, 117, false, (-1), 29, 5, 8, 8, 1, false, false, false, false),
  (0, 1, 134, false, (-1), 29, 6, 8, 8, 4, false, false, false, false),
  (0, 0, 118, false, (-1), 29, 6, 8, 8, 1, false, false, false, false),
  (0, 1, 135, false, (-1), 29, 7, 8, 8, 4, false, false, false, false),
  (0, 0, 119, false, (-1), 29, 7, 8, 8, 1, false, false, false, false),
  (0, 1, 136, false, (-1), 29, 8, 8, 8, 4, false, false, false, false),
  (0, 0, 120, false, (-1), 29, 8, 8, 8, 1, false, false, false, false),
  (0, 1, 137, false, (-1), 29, 9, 8, 8, 4, false, false, false, false),
  (0, 0, 121, false, (-1), 29, 9, 8, 8, 1, false, false, false, false),
  (0, 1, 138, false, (-1), 29, 10, 8, 8, 4, false, false, false, false),
  (0, 0, 122, false, (-1), 29, 10, 8, 8, 1, false, false, false, false),
  (0, 1, 139, false, (-1), 29, 11, 8, 8, 4, false, false, false, false),
  (0, 0, 123, false, (-1), 29, 11, 8, 8, 1, false, false, false, false),
  (0, 1, 140, false, (-1), 29, 12, 8, 8, 4, false, false, false, false),
  (0, 0, 124, false, (-1), 29, 12, 8, 8, 1, false, false, false, false),
  (0, 1, 141, false, (-1), 29, 13, 8, 8, 4, false, false, false, false),
  (0, 0, 125, false, (-1), 29, 13, 8, 8, 1, false, false, false, false),
  (0, 1, 142, false, (-1), 29, 14, 8, 8, 4, false, false, false, false),
  (0, 0, 126, false, (-1), 29, 14, 8, 8, 1, false, false, false, false),
  (0, 1, 143, false, (-1), 29, 15, 8, 8, 4, false, false, false, false),
  (0, 0, 127, false, (-1), 29, 15, 8, 8, 1, false, false, false, false)]

def lFlowsB : List DForm := [(0, 1, 64, false, (-1), 30, 0, 0, 2, 0, false, false, false, false),
  (0, 1, 65, false, (-1), 30, 1, 0, 2, 0, false, false, false, false),
  (0, 1, 66, false, (-1), 30, 2, 0, 2, 0, false, false, false, false),
  (0, 1, 67, false, (-1), 30, 3, 0, 2, 0, false, false, false, false),
  (0, 1, 68, false, (-1), 30, 4, 0, 2, 0, false, false, false, false),
  (0, 1, 69, false, (-1), 30, 5, 0, 2, 0, false, false, false, false),
  (0, 1, 70, false, (-1), 30, 6, 0, 2, 0, false, false, false, false),
  (0, 1, 71, false, (-1), 30, 7, 0, 2, 0, false, false, false, false),
  (0, 1, 72, false, (-1), 30, 8, 0, 2, 0, false, false, false, false),
  (0, 1, 73, false, (-1), 30, 9, 0, 2, 0, false, false, false, false),
  (0, 1, 74, false, (-1), 30, 10, 0, 2, 0, false, false, false, false),
  (0, 1, 75, false, (-1), 30, 11, 0, 2, 0, false, false, false, false),
  (0, 1, 76, false, (-1), 30, 12, 0, 2, 0, false, false, false, false),
  (0, 1, 77, false, (-1), 30, 13, 0, 2, 0, false, false, false, false),
  (0, 1, 78, false, (-1), 30, 14, 0, 2, 0, false, false, false, false),
  (0, 1, 79, false, (-1), 30, 15, 0, 2, 0, false, false, false, false)]

def lFlowsC : List DForm := [(0, 1, 144, false, 0, 31, 0, 1, 3, 0, false, false, true, false),
  (0, 1, 145, false, 0, 31, 1, 1, 3, 0, false, false, true, false),
  (0, 1, 146, false, 0, 31, 2, 1, 3, 0, false, false, true, false),
  (0, 1, 147, false, 0, 31, 3, 1, 3, 0, false, false, true, false),
  (0, 1, 148, false, 0, 31, 4, 1, 3, 0, false, false, true, false),
  (0, 1, 149, false, 0, 31, 5, 1, 3, 0, false, false, true, false),
  (0, 1, 150, false, 0, 31, 6, 1, 3, 0, false, false, true, false),
  (0, 1, 151, false, 0, 31, 7, 1, 3, 0, false, false, true, false),
  (0, 1, 152, false, 0, 31, 8, 1, 3, 0, false, false, true, false),
  (0, 1, 153, false, 0, 31, 9, 1, 3, 0, false, false, true, false),
  (0, 1, 154, false, 0, 31, 10, 1, 3, 0, false, false, true, false),
  (0, 1, 155, false, 0, 31, 11, 1, 3, 0, false, false, true, false),
  (0, 1, 156, false, 0, 31, 12, 1, 3, 0, false, false, true, false),
  (0, 1, 157, false, 0, 31, 13, 1, 3, 0, false, false, true, false),
  (0, 1, 158, false, 0, 31, 14, 1, 3, 0, false, false, true, false),
  (0, 1, 159, false, 0, 31, 15, 1, 3, 0, false, false, true, false)]

def lOthers : List DForm := [(0, 1, 182, false, (-1), 32, 0, 0, 2, 0, false, false, true, false),
  (0, 1, 190, false, (-1), 33, 0, 0, 2, 0, false, false, true, false),
  (0, 0, 144, false, (-1), 34, 0, 8, 0, 0, false, false, false, false),
  (243, 1, 111, false, (-1), 35, 0, 16, 2, 0, false, true, false, false),
  (243, 1, 127, false, (-1), 35, 0, 16, 1, 0, false, true, false, false),
  (102, 1, 239, false, (-1), 36, 0, 16, 2, 0, false, true, false, false),
  (102, 2, 220, false, (-1), 37, 0, 16, 2, 0, false, true, false, false),
  (102, 2, 221, false, (-1), 38, 0, 16, 2, 0, false, true, false, false),
  (102, 3, 68, false, (-1), 39, 0, 16, 2, 1, false, true, false, false)]


def forms : List DForm := lMoves ++ lSums ++ (lFlowsA ++ lFlowsB ++ lFlowsC) ++ lOthers

theorem fn167_ok (x : Int × Int × Int) : pre167 x := trivial
theorem fn159_eq : fn159 () = lMoves := by kernel_rfl
theorem fn160_eq : fn160 () = lSums := by kernel_rfl
theorem fn162_eq : fn162 () = lOthers := by kernel_rfl
theorem fn161_eq : fn161 () = fn171 [lFlowsA, lFlowsB, lFlowsC] := by kernel_rfl
theorem fn63_eq : fn63 () = lSums := by kernel_rfl
theorem fn64_eq : fn64 () = lFlowsA ++ lFlowsB ++ lFlowsC := by kernel_rfl
theorem fn65_eq : fn65 () = lOthers := by kernel_rfl
end Go.Eng.RD
end
section
/- What the functions that tell the forms need holds; rows put one behind the other. -/
namespace Go.Eng.RD
open Go.Eng
set_option maxRecDepth 100000

theorem pre172_ok (x) : pre172 x := trivial
theorem pre170_ok (x) : pre170 x := trivial

theorem pre162_ok : pre162 () := by
  unfold pre162 tree162
  simp only [ok_need, ok_ret, pre172_ok]
  simp

theorem pre160_ok : pre160 () := by
  unfold pre160 tree160
  simp only [ok_need, ok_ret]
  simp

theorem pre159_ok : pre159 () := by
  unfold pre159 tree159
  simp only [ok_need, ok_ret, ok_all, ok_ite, fn167_ok, val_need, val_ite, val_ret]
  simp
  intro j
  have e0 : ilt 7 8 = true := rfl
  rw [e0]
  rcases Nat.eq_zero_or_pos j with rfl | hj
  · have e1 : ilt (7 + ((0 : Nat) : Int)) 8 = true := rfl
    rw [e1]
    refine ⟨⟨by omega, by omega, by omega, fun _ => ⟨by omega, by omega, by omega, fun j => ⟨by omega, by omega, by omega⟩⟩, fun h => by cases h⟩, rfl⟩
  · have e1 : ilt (7 + (j : Int)) 8 = false := by rw [ilt_no]; omega
    rw [e1]
    refine ⟨⟨by omega, by omega, by omega, (fun h => by cases h), fun _ => ⟨by omega, by omega, by omega, by omega, by omega, by omega, by omega, by omega⟩⟩, ?_⟩
    obtain ⟨k, rfl⟩ : ∃ k, j = k + 1 := ⟨j - 1, by omega⟩
    rfl

/-! ### Rows one behind the other -/
theorem rdc_row (xs : List (List DForm)) (i : Nat) (h : i < xs.length) : rdc (.slice CForm) xs i = xs[i] := rdc_at (c := .slice CForm) h

theorem take_flat (xs : List (List DForm)) (i : Nat) (h : i < xs.length) : (xs.take (i + 1)).flatten = (xs.take i).flatten ++ xs[i] := by
  rw [List.take_add_one, List.getElem?_eq_getElem h, List.flatten_append]
  simp

theorem flat_le (xs : List (List DForm)) (i : Nat) : ((xs.take i).flatten).length ≤ xs.flatten.length := by
  conv => rhs; rw [← List.take_append_drop i xs, List.flatten_append, List.length_append]
  omega

def zf : DForm := (0, (0, (0, (false, (0, (0, (0, (0, (0, (0, (false, (false, (false, false)))))))))))))

theorem splice_take {α : Type} (v : List α) (n : Nat) (y : List α) (h : n + y.length ≤ v.length) : (spliceL v (0 + n) y).take (n + y.length) = v.take n ++ y := by
  unfold spliceL
  rw [Nat.zero_add, ← List.append_assoc, List.take_append_of_le_length (by simp; omega)]
  rw [List.take_of_length_le (by simp; omega)]

theorem splice_len {α : Type} (v : List α) (n : Nat) (y : List α) (h : n + y.length ≤ v.length) : (spliceL v (0 + n) y).length = v.length := by
  unfold spliceL
  simp
  omega

section
variable (xs : List (List DForm)) (hx : xs.flatten.length ≤ 1000000) (hl : xs.length ≤ 1000000)
include hx hl

theorem concat_h1 : ∀ (m i : Nat), i + m = xs.length → ∀ (n cap z : Nat) (v : List DForm), v.length = z → cap ≤ z → n ≤ cap → n = ((xs.take i).flatten).length → v.take n = (xs.take i).flatten →
    Ends (step171 xs) xs.flatten (step171 xs (.h1 n cap xs.length i z v)) := by
  intro m
  induction m with
  | zero =>
    intro i hi n cap z v h1 h2 h3 h4 h5
    have e : ilt (i : Int) (xs.length : Int) = false := by rw [ilt_no]; omega
    simp only [step171]
    simp only [e, ends_ite, ends_need, ends_ret]
    refine ⟨(fun h => by cases h), fun _ => ⟨by omega, ?_⟩⟩
    rw [h5, List.take_of_length_le (by omega)]
  | succ m ih =>
    intro i hi n cap z v h1 h2 h3 h4 h5
    have e : ilt (i : Int) (xs.length : Int) = true := by rw [ilt_iff]; omega
    have hi' : i < xs.length := by omega
    have hf := take_flat xs i hi'
    have hle := flat_le xs (i + 1)
    have hn : n + xs[i].length = ((xs.take (i + 1)).flatten).length := by rw [hf, List.length_append, h4]
    have e2 : iadd .i64 (i : Int) 1 = ((i + 1 : Nat) : Int) := by rw [iadd_i64] <;> omega
    simp only [step171]
    simp only [e, ends_ite, ends_need, ends_all, ends_jump, Int.toNat_natCast, rdc_row xs i hi', e2]
    refine ⟨fun _ => ⟨by omega, by omega, fun _ => ⟨by omega, by omega, by omega, fun j => ?_⟩, fun h => ⟨?_, ?_⟩⟩, (fun h => by cases h)⟩
    · refine ih (i + 1) (by omega) _ _ _ _ ?_ (Nat.le_refl _) (Nat.le_add_right _ _) hn ?_
      · simp; omega
      · rw [List.append_assoc, ← List.append_assoc, List.take_append_of_le_length (by simp; omega), List.take_of_length_le (by simp; omega), hf, h5]
    · rw [ilt_no] at h; omega
    · rw [ilt_no] at h
      refine ih (i + 1) (by omega) _ _ _ _ ?_ h2 (by omega) hn ?_
      · rw [splice_len _ _ _ (by omega), h1]
      · rw [splice_take _ _ _ (by omega), h5, hf]

theorem concat_h2 : ∀ (m i : Nat), i + m = xs.length → (xs.take i).flatten = [] → Ends (step171 xs) xs.flatten (step171 xs (.h2 xs.length i)) := by
  intro m
  induction m with
  | zero =>
    intro i hi h5
    have e : ilt (i : Int) (xs.length : Int) = false := by rw [ilt_no]; omega
    simp only [step171]
    simp only [e, ends_ite, ends_ret]
    refine ⟨(fun h => by cases h), fun _ => ?_⟩
    rw [← h5, List.take_of_length_le (by omega)]
  | succ m ih =>
    intro i hi h5
    have e : ilt (i : Int) (xs.length : Int) = true := by rw [ilt_iff]; omega
    have hi' : i < xs.length := by omega
    have hf := take_flat xs i hi'
    have hle := flat_le xs (i + 1)
    rw [h5, List.nil_append] at hf
    have e2 : iadd .i64 (i : Int) 1 = ((i + 1 : Nat) : Int) := by rw [iadd_i64] <;> omega
    simp only [step171]
    simp only [e, ends_ite, ends_need, ends_all, ends_jump, Int.toNat_natCast, rdc_row xs i hi', e2]
    refine ⟨fun _ => ⟨by omega, by omega, fun h => ?_, fun h => ⟨?_, ?_, fun j => ?_⟩⟩, (fun h => by cases h)⟩
    · rw [ieq_iff] at h
      have : xs[i] = [] := List.length_eq_zero_iff.1 (by omega)
      exact ih (i + 1) (by omega) (by rw [hf, this])
    · rw [hf] at hle; omega
    · rw [hf] at hle; omega
    · refine concat_h1 xs hx hl m (i + 1) (by omega) _ _ _ _ ?_ (Nat.le_refl _) (Nat.le_add_right _ _) ?_ ?_
      · simp
      · rw [hf]
      · rw [hf, List.take_append_of_le_length (Nat.le_refl _), List.take_length]

theorem concat_h0 : ∀ (m i : Nat), i + m = xs.length → Ends (step171 xs) xs.flatten (step171 xs (.h0 (((xs.take i).flatten).length : Nat) xs.length i)) := by
  intro m
  induction m with
  | zero =>
    intro i hi
    have e : ilt (i : Int) (xs.length : Int) = false := by rw [ilt_no]; omega
    have hle := flat_le xs i
    have e3 : ∀ n : Nat, ilt (n : Int) 0 = false := fun n => by rw [ilt_no]; omega
    have e4 : isub .i64 ((((xs.take i).flatten).length : Nat) : Int) 0 = ((((xs.take i).flatten).length : Nat) : Int) := by rw [isub_i64] <;> omega
    simp only [step171]
    simp only [e, e3, e4, ends_ite, ends_need, ends_all, ends_jump, ends_fail, Int.toNat_natCast]
    refine ⟨(fun h => by cases h), fun _ => ⟨(fun h => by cases h), fun _ => ⟨fun h => ?_, fun h => ?_⟩⟩⟩
    · rw [ilt_iff] at h
      refine ⟨trivial, trivial, by omega, by omega, by omega, fun j => ⟨by omega, by simp, by simp, by simp, ?_⟩⟩
      refine concat_h1 xs hx hl xs.length 0 (by omega) _ _ _ _ ?_ (Nat.le_refl _) (Nat.zero_le _) ?_ ?_
      · simp
      · simp
      · simp
    · exact concat_h2 xs hx hl xs.length 0 (by omega) (by simp)
  | succ m ih =>
    intro i hi
    have e : ilt (i : Int) (xs.length : Int) = true := by rw [ilt_iff]; omega
    have hi' : i < xs.length := by omega
    have hf := take_flat xs i hi'
    have hle := flat_le xs (i + 1)
    have hlen : ((xs.take (i + 1)).flatten).length = ((xs.take i).flatten).length + xs[i].length := by rw [hf, List.length_append]
    have e2 : iadd .i64 (i : Int) 1 = ((i + 1 : Nat) : Int) := by rw [iadd_i64] <;> omega
    have e3 : iadd .i64 ((((xs.take i).flatten).length : Nat) : Int) (xs[i].length : Int) = ((((xs.take (i + 1)).flatten).length : Nat) : Int) := by rw [iadd_i64] <;> omega
    have e4 : ilt ((((xs.take (i + 1)).flatten).length : Nat) : Int) 0 = false := by rw [ilt_no]; omega
    simp only [step171]
    simp only [e, ends_ite, ends_need, ends_all, ends_jump, ends_fail, Int.toNat_natCast, rdc_row xs i hi', e2, e3, e4]
    exact ⟨fun _ => ⟨by omega, by omega, (fun h => by cases h), fun _ => ih (i + 1) (by omega)⟩, (fun h => by cases h)⟩

theorem concat_ends : Ends (step171 xs) xs.flatten (tree171 xs) := by
  unfold tree171
  rw [ends_jump]
  exact concat_h0 xs hx hl xs.length 0 (by omega)
end

theorem pre171_ok (xs : List (List DForm)) (hx : xs.flatten.length ≤ 1000000) (hl : xs.length ≤ 1000000) : pre171 xs := ⟨_, concat_ends xs hx hl⟩
theorem fn171_ok (xs : List (List DForm)) (hx : xs.flatten.length ≤ 1000000) (hl : xs.length ≤ 1000000) : fn171 xs = xs.flatten := endVal_eq (concat_ends xs hx hl)
theorem fn161_ok : fn161 () = lFlowsA ++ lFlowsB ++ lFlowsC := by
  rw [fn161_eq, fn171_ok _ (by decide) (by decide)]
  simp

theorem pre161_ok : pre161 () := by
  unfold pre161 tree161
  simp only [ok_need, ok_ret, pre170_ok]
  simp
  exact pre171_ok _ (by decide) (by decide)
end Go.Eng.RD
end
section
/- The forms: what is told of them, found among them. -/
namespace Go.Eng.RD
open Go.Eng
set_option maxRecDepth 100000

abbrev Key := Int × Int × Int × Int

/-! ### Does a form go with these? -/
def codeB (f : DForm) (op : Int) : Bool := if f.2.2.2.1 then ieq (iandn .u8 op 7) (iandn .u8 f.2.2.1 7) else ieq op f.2.2.1
def codeR (f : DForm) (op : Int) : Bool := if f.2.2.2.1 then ieq (iand .u8 op 248) (iand .u8 f.2.2.1 248) else ieq op f.2.2.1

theorem pre163_ok (x) : pre163 x := by
  unfold pre163 tree163; simp only [ok_ite, ok_ret]; simp
theorem fn163_ok (x : DForm × Int) : fn163 x = codeB x.1 x.2 := by
  unfold fn163 tree163 codeB; simp only [val_ite, val_ret]; cases x.1.2.2.2.1 <;> rfl
theorem pre104_ok (x) : pre104 x := by
  unfold pre104 tree104; simp only [ok_ite, ok_ret]; simp
theorem fn104_ok (x : DForm × Int) : fn104 x = codeR x.1 x.2 := by
  unfold fn104 tree104 codeR; simp only [val_ite, val_ret]; cases x.1.2.2.2.1 <;> rfl

def fitsB (f : DForm) (k : Key) : Bool := ieq f.1 k.1 && (ieq f.2.1 k.2.1 && (codeB f k.2.2.1 && (ieq f.2.2.2.2.1 (-1) || ieq f.2.2.2.2.1 k.2.2.2)))

theorem pre112_ok (x) : pre112 x := by
  unfold pre112 tree112; simp only [ok_ite, ok_need, ok_ret, pre163_ok]; simp
theorem fn112_ok (x : DForm × Key) : fn112 x = fitsB x.1 x.2 := by
  unfold fn112 tree112 fitsB; simp only [val_ite, val_need, val_ret, fn163_ok]
  cases ieq x.1.1 x.2.1 <;> cases ieq x.1.2.1 x.2.2.1 <;> cases codeB x.1 x.2.2.2.1 <;> cases ieq x.1.2.2.2.2.1 (-1) <;> simp

theorem andn7 (a : Int) (h0 : 0 ≤ a) (h1 : a < 256) : iandn .u8 a 7 = iand .u8 a 248 := by
  have : ∀ n : Fin 256, iandn .u8 (n.val : Int) 7 = iand .u8 (n.val : Int) 248 := by decide
  have h := this ⟨a.toNat, by omega⟩
  simpa [Int.toNat_of_nonneg h0] using h

/-- A byte. -/
def isB (a : Int) : Prop := 0 ≤ a ∧ a < 256

theorem code_eq (f : DForm) (op : Int) (h1 : isB f.2.2.1) (h2 : isB op) : codeR f op = codeB f op := by
  unfold codeR codeB
  rw [andn7 _ h1.1 h1.2, andn7 _ h2.1 h2.2]

theorem pre81_ok (x) : pre81 x := by
  unfold pre81 tree81; simp only [ok_ite, ok_need, ok_ret, pre104_ok]; simp
theorem fn81_ok (x : DForm × Key) (h1 : isB x.1.2.2.1) (h2 : isB x.2.2.2.1) : fn81 x = fitsB x.1 x.2 := by
  unfold fn81 tree81 fitsB; simp only [val_ite, val_need, val_ret, fn104_ok, code_eq _ _ h1 h2]
  cases ieq x.1.1 x.2.1 <;> cases ieq x.1.2.1 x.2.2.1 <;> cases codeB x.1 x.2.2.2.1 <;> cases ieq x.1.2.2.2.2.1 (-1) <;> simp

/-! ### All of them -/
def isBb (a : Int) : Bool := decide (0 ≤ a) && decide (a < 256)
theorem forms_byte : ∀ f ∈ forms, isB f.2.2.1 := by
  have : forms.all (fun f => isBb f.2.2.1) = true := by decide +kernel
  intro f hf
  have := List.all_eq_true.1 this f hf
  simpa [isBb, isB] using this

/-- No key goes with both. -/
def apartF (f g : DForm) : Bool := !(ieq f.1 g.1) || (!(ieq f.2.1 g.2.1) || ((if f.2.2.2.1 || g.2.2.2.1 then !(ieq (iandn .u8 f.2.2.1 7) (iandn .u8 g.2.2.1 7)) else !(ieq f.2.2.1 g.2.2.1)) ||
  (!(ieq f.2.2.2.2.1 (-1)) && (!(ieq g.2.2.2.2.1 (-1)) && !(ieq f.2.2.2.2.1 g.2.2.2.2.1)))))

theorem apart_no {f g : DForm} {k : Key} (h : apartF f g = true) (h1 : fitsB f k = true) : fitsB g k = false := by
  cases h2 : fitsB g k with
  | false => rfl
  | true =>
    exfalso
    simp only [fitsB, Bool.and_eq_true, Bool.or_eq_true, ieq_iff] at h1 h2
    obtain ⟨a1, a2, a3, a4⟩ := h1
    obtain ⟨b1, b2, b3, b4⟩ := h2
    simp only [apartF, Bool.or_eq_true, Bool.and_eq_true, Bool.not_eq_true', ieq_no] at h
    rcases h with h | h | h | ⟨h1, h2, h3⟩
    · exact h (a1.trans b1.symm)
    · exact h (a2.trans b2.symm)
    · have key : ∀ {f : DForm}, codeB f k.2.2.1 = true → iandn .u8 k.2.2.1 7 = iandn .u8 f.2.2.1 7 := by
        intro f hf
        unfold codeB at hf
        split at hf
        · exact ieq_iff.1 hf
        · rw [ieq_iff.1 hf]
      split at h
      · rw [Bool.not_eq_true', ieq_no] at h
        exact h ((key a3).symm.trans (key b3))
      · rename_i hp
        simp only [not_or, Bool.not_eq_true] at hp
        rw [Bool.not_eq_true', ieq_no] at h
        unfold codeB at a3 b3
        rw [hp.1] at a3
        rw [hp.2] at b3
        simp only [Bool.false_eq_true, if_false, ieq_iff] at a3 b3
        exact h (a3.symm.trans b3)
    · rcases a4 with a4 | a4
      · exact h1 a4
      · rcases b4 with b4 | b4
        · exact h2 b4
        · exact h3 (a4.trans b4.symm)

def pairB (p : DForm → DForm → Bool) : List DForm → Bool
  | [] => true
  | f :: l => l.all (p f) && pairB p l

theorem forms_apart : pairB apartF forms = true := by decide +kernel

theorem pair_spec {p : DForm → DForm → Bool} : ∀ {l : List DForm}, pairB p l = true → l.Pairwise fun f g => p f g = true
  | [], _ => .nil
  | f :: l, h => by
    simp only [pairB, Bool.and_eq_true] at h
    exact .cons (fun g hg => List.all_eq_true.1 h.1 g hg) (pair_spec h.2)

theorem one_fits {k : Key} : forms.Pairwise fun f g => fitsB f k = true → fitsB g k = false :=
  (pair_spec forms_apart).imp fun h h1 => apart_no h h1

/-- What is found. -/
def foundB (k : Key) : DForm × Bool := match forms.find? (fun f => fitsB f k) with | some f => (f, true) | none => (zf, false)

theorem find_of_fits {k : Key} : ∀ {l : List DForm}, (l.Pairwise fun f g => fitsB f k = true → fitsB g k = false) → ∀ {f : DForm}, f ∈ l → fitsB f k = true → l.find? (fun f => fitsB f k) = some f
  | [], _, _, hf, _ => nomatch hf
  | b :: l, hp, f, hf, hk => by
    cases hp with
    | cons h1 h2 =>
      rcases List.mem_cons.1 hf with rfl | hf
      · simp [hk]
      · have : fitsB b k = false := by
          cases ha : fitsB b k with
          | false => rfl
          | true => have := h1 _ hf ha; rw [hk] at this; cases this
        rw [List.find?_cons, this]
        exact find_of_fits h2 hf hk

theorem found_of {k : Key} {f : DForm} (hf : f ∈ forms) (hk : fitsB f k = true) : foundB k = (f, true) := by
  unfold foundB; rw [find_of_fits one_fits hf hk]

theorem found_some {k : Key} (h : (foundB k).2 = true) : (foundB k).1 ∈ forms ∧ fitsB (foundB k).1 k = true := by
  unfold foundB at *
  split
  · rename_i f hf
    exact ⟨List.mem_of_find?_eq_some hf, by have := List.find?_some hf; simpa using this⟩
  · rename_i hf; rw [hf] at h; cases h

theorem found_none {k : Key} (h : (foundB k).2 = false) : (foundB k).1 = zf ∧ ∀ f ∈ forms, fitsB f k = false := by
  unfold foundB at *
  split
  · rename_i f hf; rw [hf] at h; cases h
  · rename_i hf
    refine ⟨rfl, fun f hm => ?_⟩
    have := List.find?_eq_none.1 hf f hm
    simpa using this
end Go.Eng.RD
end
section
/- The forms told, found. -/
namespace Go.Eng.RD
open Go.Eng
set_option maxRecDepth 100000

def four : List (List DForm) := [lMoves, lSums, lFlowsA ++ lFlowsB ++ lFlowsC, lOthers]
theorem four_flat : four.flatten = forms := by simp [four, forms]
theorem four_eq : [fn159 (), fn160 (), fn161 (), fn162 ()] = four := by rw [fn159_eq, fn160_eq, fn161_ok, fn162_eq]; rfl
theorem four_len : four.length = 4 := rfl
theorem four_small : ∀ l ∈ four, l.length ≤ 1000 := by decide
theorem small_at (i : Nat) (h : i < 4) : (four[i]'(by rw [four_len]; exact h)).length ≤ 1000 := four_small _ (List.getElem_mem _)
theorem drop_four (i : Nat) (h : i < 4) : (four.drop i).flatten = four[i]'(by rw [four_len]; exact h) ++ (four.drop (i + 1)).flatten := by
  rw [List.drop_eq_getElem_cons (by rw [four_len]; exact h), List.flatten_cons]
theorem rdc_four (i : Nat) (h : i < 4) : rdc (.slice CForm) four i = four[i]'(by rw [four_len]; exact h) := rdc_at (c := .slice CForm) (by rw [four_len]; exact h)
theorem rdc_form (l : List DForm) (i : Nat) (h : i < l.length) : rdc CForm l i = l[i] := rdc_at (c := CForm) h
theorem one_more (i : Nat) (h : i < 1000000) : iadd .i64 (i : Int) 1 = ((i + 1 : Nat) : Int) := by rw [iadd_i64] <;> omega
theorem lt_yes {a b : Nat} (h : a < b) : ilt (a : Int) (b : Int) = true := by rw [ilt_iff]; omega
theorem lt_no {a b : Nat} (h : b ≤ a) : ilt (a : Int) (b : Int) = false := by rw [ilt_no]; omega

/-! ### Find -/
def foundIn (l : List DForm) (k : Key) : DForm × Bool := match l.find? (fun f => fitsB f k) with | some f => (f, true) | none => (zf, false)
theorem foundIn_cons (f : DForm) (l : List DForm) (k : Key) : foundIn (f :: l) k = if fitsB f k = true then (f, true) else foundIn l k := by
  unfold foundIn
  rw [List.find?_cons]
  cases h : fitsB f k <;> simp

theorem find_h1 (k : Key) (i : Nat) (hi : i < 4) (l : List DForm) (hl : l.length ≤ 1000) (ih : Ends (step91 k) (foundIn (four.drop (i + 1)).flatten k) (step91 k (.h0 four ((i + 1 : Nat) : Int) false))) :
    ∀ (m j : Nat), j + m = l.length → Ends (step91 k) (foundIn (l.drop j ++ (four.drop (i + 1)).flatten) k) (step91 k (.h1 four i l l.length j false)) := by
  intro m
  induction m with
  | zero =>
    intro j hj
    rw [List.drop_of_length_le (by omega), List.nil_append]
    simp only [step91]
    simp only [lt_no (show l.length ≤ j by omega), ends_ite, ends_jump, one_more i (by omega)]
    exact ⟨(fun h => by cases h), fun _ => ih⟩
  | succ m ihm =>
    intro j hj
    have hj' : j < l.length := by omega
    rw [List.drop_eq_getElem_cons hj', List.cons_append, foundIn_cons]
    simp only [step91]
    simp only [lt_yes hj', ends_ite, ends_need, ends_jump, ends_ret, Int.toNat_natCast, rdc_form l j hj', pre112_ok, fn112_ok, one_more j (by omega)]
    refine ⟨fun _ => ⟨by omega, by omega, trivial, fun h => ?_, fun h => ?_⟩, (fun h => by cases h)⟩
    · rw [if_pos h, h]
    · rw [if_neg (by simp [h]), h]
      exact ihm (j + 1) (by omega)

theorem find_h0 (k : Key) : ∀ (m i : Nat), i + m = 4 → Ends (step91 k) (foundIn (four.drop i).flatten k) (step91 k (.h0 four i false)) := by
  intro m
  induction m with
  | zero =>
    intro i hi
    have : i = 4 := by omega
    subst this
    simp only [step91]
    simp only [show ilt ((4 : Nat) : Int) 4 = false from rfl, ends_ite, ends_ret]
    exact ⟨(fun h => by cases h), fun _ => rfl⟩
  | succ m ih =>
    intro i hi
    have hi' : i < 4 := by omega
    have h1 := find_h1 k i hi' (four[i]'(by rw [four_len]; exact hi')) (small_at i hi') (ih (i + 1) (by omega)) _ 0 (Nat.zero_add _)
    have e : ilt (i : Int) 4 = true := by rw [ilt_iff]; omega
    rw [drop_four i hi']
    rw [List.drop_zero] at h1
    simp only [step91]
    simp only [e, ends_ite, ends_need, ends_jump, Int.toNat_natCast, rdc_four i hi']
    exact ⟨fun _ => ⟨by omega, by omega, by omega, h1⟩, (fun h => by cases h)⟩

theorem find_ends (k : Key) : Ends (step91 k) (foundB k) (tree91 k) := by
  unfold tree91
  rw [four_eq]
  simp only [ends_need, ends_jump, pre159_ok, pre160_ok, pre161_ok, pre162_ok]
  refine ⟨trivial, trivial, trivial, trivial, by omega, by omega, by omega, by omega, ?_⟩
  have := find_h0 k 4 0 rfl
  rw [List.drop_zero, four_flat] at this
  exact this

theorem pre91_ok (k : Key) : pre91 k := ⟨_, find_ends k⟩
theorem fn91_ok (k : Key) : fn91 k = foundB k := endVal_eq (find_ends k)

end Go.Eng.RD
end
section
/- What operand.Take comes to. -/
namespace Go.Eng.RD
open Go.Eng
set_option maxRecDepth 100000
set_option linter.unusedSectionVars false
noncomputable section

theorem pre60_ok (x) : pre60 x := trivial
theorem pre114_ok (x) : pre114 x := trivial
theorem pre113_ok {a b : Int} (h : 0 ≤ a) : pre113 (a, b) := ⟨h, trivial⟩

def AllB (b : List Int) : Prop := ∀ c ∈ b, isB c
theorem AllB.tail {c : Int} {b : List Int} (h : AllB (c :: b)) : AllB b := fun x hx => h x (List.mem_cons_of_mem _ hx)
theorem AllB.drop {b : List Int} (h : AllB b) (n : Nat) : AllB (b.drop n) := fun x hx => h x (List.mem_of_mem_drop hx)
theorem AllB.take {b : List Int} (h : AllB b) (n : Nat) : AllB (b.take n) := fun x hx => h x (List.mem_of_mem_take hx)
theorem AllB.app {a b : List Int} (h : AllB a) (k : AllB b) : AllB (a ++ b) := fun x hx => (List.mem_append.1 hx).elim (h x) (k x)
theorem rdc_zero (c : Int) (b : List Int) : rdc (.int .u8) (c :: b : List Int) 0 = c := rfl
theorem rdc_one (c c1 : Int) (b : List Int) : rdc (.int .u8) (c :: c1 :: b : List Int) 1 = c1 := rfl

theorem mode_b {c : Int} (h : isB c) : 0 ≤ ishr .u8 c 6 ∧ ishr .u8 c 6 < 4 := by
  have e : ishr .u8 c 6 = c.fdiv 64 := rfl
  rw [e]
  obtain ⟨h1, h2⟩ := h
  rw [Int.fdiv_eq_ediv_of_nonneg _ (by omega)]
  omega

/-! ### The parts -/
abbrev takeReg (rex c : Int) : Int := iadd .i64 (iconv .i64 (iand .u8 (ishr .u8 c 3) 7)) (fn113 (2, rex))
abbrev takeLow (rex c : Int) : Int := iadd .i64 (iconv .i64 (iand .u8 c 7)) (fn113 (0, rex))
abbrev takeIdx (rex c : Int) : Int := iadd .i64 (iconv .i64 (iand .u8 (ishr .u8 c 3) 7)) (fn113 (1, rex))
def widthS (m : Int) : Int := rdc (.int .i64) [0, 1, 4, 0] m.toNat
theorem width_cases {m : Int} (h1 : 0 ≤ m) (h2 : m < 4) : widthS m = 0 ∨ widthS m = 1 ∨ widthS m = 4 := by
  have : m = 0 ∨ m = 1 ∨ m = 2 ∨ m = 3 := by omega
  rcases this with rfl | rfl | rfl | rfl
  · exact .inl rfl
  · exact .inr (.inl rfl)
  · exact .inr (.inr rfl)
  · exact .inl rfl
def setDisp (o : DOperand) (d : Int) : DOperand := (o.1, (o.2.1, (o.2.2.1, (o.2.2.2.1, (o.2.2.2.2.1, (d, o.2.2.2.2.2.2))))))
def setBase (o : DOperand) (d : Int) : DOperand := (o.1, (o.2.1, (d, o.2.2.2)))
def dispL (w : Int) (d : List Int) : Nat → DOperand → DOperand
  | 0, o => o
  | n + 1, o => dispL w d n (cond (ieq n (isub .i64 w 1)) (setDisp o (iconv .i64 (iconv .i8 (rdc (.int .u8) d n)))) (setDisp o (ior .i64 (ishl .i64 o.2.2.2.2.2.1 8) (iconv .i64 (rdc (.int .u8) d n)))))
def dispP (reg w : Int) (o : DOperand) : Pz (Int × DOperand) := bytesP w.toNat fun d => retP (reg, dispL w d d.length o)
def sibO (rex c1 : Int) (o : DOperand) : DOperand := (o.1, (o.2.1, (iadd .i64 (iconv .i64 (iand .u8 c1 7)) (fn113 (0, rex)), cond (ine (takeIdx rex c1) 4) (takeIdx rex c1, (ishl .i64 1 (ishr .u8 c1 6), o.2.2.2.2.2)) o.2.2.2)))
def sibP (rex mode reg : Int) (o : DOperand) : Pz (Int × DOperand) := byteP fun c1 =>
  cond (ieq (iand .u8 c1 7) 5 && ieq mode 0) (dispP reg 4 (setBase (sibO rex c1 o) (-1))) (dispP reg (widthS mode) (sibO rex c1 o))
def ripO (o : DOperand) : DOperand := (o.1, (o.2.1, ((-1), (o.2.2.2.1, (o.2.2.2.2.1, (o.2.2.2.2.2.1, (true, o.2.2.2.2.2.2.2)))))))
def takeS (rex : Int) : Pz (Int × DOperand) := byteP fun c =>
  cond (ieq (ishr .u8 c 6) 3) (dispP (takeReg rex c) (widthS (ishr .u8 c 6)) (fn60 (takeLow rex c)))
    (cond (ieq (iconv .i64 (iand .u8 c 7)) 4) (sibP rex (ishr .u8 c 6) (takeReg rex c) (fn114 (takeLow rex c, 0)))
      (cond (ieq (iconv .i64 (iand .u8 c 7)) 5 && ieq (ishr .u8 c 6) 0) (dispP (takeReg rex c) 4 (ripO (fn114 (takeLow rex c, 0))))
        (dispP (takeReg rex c) (widthS (ishr .u8 c 6)) (fn114 (takeLow rex c, 0)))))

def zO : DOperand := (0, (0, (0, (0, (0, (0, (false, 0)))))))
/-- What Take gives for what is read. -/
def takeR (b : List Int) : Option ((Int × DOperand) × List Int) → Int × (DOperand × (Int × Int))
  | none => (0, (zO, (0, 80)))
  | some (a, r) => (a.1, (a.2, ((b.length : Int) - r.length, 0)))

section
variable {rex : Int} {b : List Int} (hl : b.length ≤ 1000)
include hl

theorem take_h6 {w used : Int} {d : List Int} (hd : d.length ≤ 1000) : ∀ (n : Nat) (o : DOperand), n ≤ d.length → ∀ r, Ends (step92 (b, rex)) r (step92 (b, rex) (.h7 used w (dispL w d n o))) →
    Ends (step92 (b, rex)) r (step92 (b, rex) (.h6 ((n : Int) - 1) used w o d)) := by
  intro n
  induction n with
  | zero =>
    intro o hn r h
    have e : ile 0 ((0 : Nat) - 1 : Int) = false := by rw [ile_no]; omega
    simp only [step92]
    simp only [e, ends_ite, ends_jump]
    exact ⟨(fun h => by cases h), fun _ => h⟩
  | succ n ih =>
    intro o hn r h
    have e0 : ((n + 1 : Nat) : Int) - 1 = (n : Int) := by omega
    have e : ile 0 (n : Int) = true := by rw [ile_iff]; omega
    have e2 : isub .i64 (n : Int) 1 = (n : Int) - 1 := by rw [isub_i64] <;> omega
    rw [e0]
    simp only [step92]
    simp only [e, e2, ends_ite, ends_need, ends_jump, Int.toNat_natCast]
    refine ⟨fun _ => ⟨by omega, by omega, by omega, fun hc => ?_, fun hc => ?_⟩, (fun h => by cases h)⟩
    · exact ih _ (by omega) r (by simp only [dispL, hc, cond_true, setDisp] at h; exact h)
    · exact ih _ (by omega) r (by simp only [dispL, hc, cond_false, setDisp] at h; exact h)

theorem take_h3 {used w : Nat} {o : DOperand} {c : Int} {b' : List Int} (hb : b = c :: b') (hw : w ≤ 4) (hu : used ≤ 2) (hub : used ≤ b.length) :
    Ends (step92 (b, rex)) (takeR b (dispP (takeReg rex c) w o (b.drop used))) (step92 (b, rex) (.h3 used w o)) := by
  have e : iadd .i64 (used : Int) (w : Int) = ((used + w : Nat) : Int) := by rw [iadd_i64] <;> omega
  have hlen : 0 < b.length := by rw [hb]; simp
  simp only [step92]
  simp only [e, ends_ite, ends_jump]
  unfold dispP bytesP
  simp only [Int.toNat_natCast, List.length_drop]
  refine ⟨fun h => ?_, fun h => ?_⟩
  · rw [ilt_iff] at h
    rw [if_neg (by omega)]
    simp only [step92, ends_ret]
    rfl
  · rw [ilt_no] at h
    rw [if_pos (by omega)]
    simp only [step92]
    simp only [e, ends_need, ends_jump, Int.toNat_natCast, Nat.add_sub_cancel_left]
    have hdl : ((b.drop used).take w).length = w := by simp; omega
    have e2 : isub .i64 (((b.drop used).take w).length : Int) 1 = (((b.drop used).take w).length : Int) - 1 := by rw [isub_i64] <;> omega
    rw [e2]
    refine ⟨by omega, by omega, by omega, by omega, take_h6 hl (by omega) _ _ (Nat.le_refl _) _ ?_⟩
    simp only [step92]
    simp only [ends_need, ends_ret, e]
    refine ⟨by omega, by omega, by omega, pre113_ok (by omega), ?_⟩
    simp only [takeR, retP]
    have e3 : (b.length : Int) - ((b.drop used).drop w).length = ((used + w : Nat) : Int) := by simp; omega
    rw [e3, hb, rdc_zero]

theorem take_ends (hB : AllB b) : Ends (step92 (b, rex)) (takeR b (takeS rex b)) (tree92 (b, rex)) := by
  unfold tree92
  simp only [ends_jump]
  simp only [step92]
  cases b with
  | nil =>
    have e : ilt 0 ((([] : List Int).length : Nat) : Int) = false := rfl
    simp only [e, ends_ite, ends_jump]
    refine ⟨(fun h => by cases h), fun _ => ?_⟩
    simp only [step92, ends_ret]
    rfl
  | cons c b' =>
    have hm := mode_b (hB c (List.mem_cons_self ..))
    have e : ilt 0 (((c :: b').length : Nat) : Int) = true := by rw [ilt_iff, List.length_cons]; omega
    simp only [e, ends_ite, ends_jump]
    refine ⟨fun _ => ?_, (fun h => by cases h)⟩
    have key : ∀ {w : Int} {used : Nat} {o : DOperand}, (w = 0 ∨ w = 1 ∨ w = 4) → used ≤ 2 → used ≤ (c :: b').length →
        Ends (step92 (c :: b', rex)) (takeR (c :: b') (dispP (takeReg rex c) w o ((c :: b').drop used))) (step92 (c :: b', rex) (.h3 used w o)) := by
      intro w used o hw h1 h2
      rcases hw with rfl | rfl | rfl
      · exact take_h3 hl (w := 0) rfl (by omega) h1 h2
      · exact take_h3 hl (w := 1) rfl (by omega) h1 h2
      · exact take_h3 hl (w := 4) rfl (by omega) h1 h2
    have hlen : 0 < (c :: b').length := by simp
    simp only [step92]
    simp only [ends_need, rdc_zero, pre114_ok, pre60_ok]
    refine ⟨by omega, by omega, by omega, by omega, by omega, by omega, by omega, by omega, by omega, hm.1, hm.2, by omega, pre113_ok (by omega), trivial, ?_⟩
    rw [ends_ite]
    refine ⟨fun h3 => ?_, fun h3 => ?_⟩
    · simp only [ends_need, ends_jump]
      refine ⟨pre113_ok (by omega), trivial, ?_⟩
      have := key (w := widthS (ishr .u8 c 6)) (used := 1) (o := fn60 (takeLow rex c)) (width_cases hm.1 hm.2) (by omega) (by omega)
      simp only [takeS, byteP, h3, cond_true]
      exact this
    · have hS : takeS rex (c :: b') = (cond (ieq (iconv .i64 (iand .u8 c 7)) 4) (sibP rex (ishr .u8 c 6) (takeReg rex c) (fn114 (takeLow rex c, 0)))
          (cond (ieq (iconv .i64 (iand .u8 c 7)) 5 && ieq (ishr .u8 c 6) 0) (dispP (takeReg rex c) 4 (ripO (fn114 (takeLow rex c, 0)))) (dispP (takeReg rex c) (widthS (ishr .u8 c 6)) (fn114 (takeLow rex c, 0))))) b' := by
        simp only [takeS, byteP, h3, cond_false]
      rw [hS, ends_ite]
      refine ⟨fun h4 => ?_, fun h4 => ?_⟩
      · have h4 : ieq (iconv .i64 (iand .u8 c 7)) 4 = true := by simpa using h4
        rw [h4, cond_true, ends_ite]
        cases b' with
        | nil =>
          refine ⟨fun _ => ?_, fun h => by cases h⟩
          simp only [ends_jump]
          simp only [step92, ends_ret]
          rfl
        | cons c1 b2 =>
          have hlen2 : 1 < (c :: c1 :: b2).length := by simp
          have hm1 := mode_b (hB c1 (List.mem_cons_of_mem _ (List.mem_cons_self ..)))
          refine ⟨fun h => by rw [ilt_iff] at h; simp at h; omega, fun _ => ?_⟩
          rw [ends_ite]
          refine ⟨fun _ => ?_, (fun h => by cases h)⟩
          have h4E : ∀ o, Ends (step92 (c :: c1 :: b2, rex)) (takeR (c :: c1 :: b2) ((cond (ieq (iand .u8 c1 7) 5 && ieq (ishr .u8 c 6) 0) (dispP (takeReg rex c) 4 (setBase o (-1))) (dispP (takeReg rex c) (widthS (ishr .u8 c 6)) o)) b2))
              (step92 (c :: c1 :: b2, rex) (.h4 (ishr .u8 c 6) (widthS (ishr .u8 c 6)) o)) := by
            intro o
            simp only [step92]
            simp only [rdc_one, ends_need, ends_ite, ends_jump]
            refine ⟨by omega, by omega, fun h5 => ⟨fun h0 => ?_, fun h0 => ?_⟩, fun h5 => ?_⟩
            · have h5 : ieq (iand .u8 c1 7) 5 = true := by simpa using h5
              rw [h5, h0]
              exact key (w := 4) (used := 2) (.inr (.inr rfl)) (by omega) (by omega)
            · rw [h0, Bool.and_false]
              exact key (used := 2) (width_cases hm.1 hm.2) (by omega) (by omega)
            · have h5 : ieq (iand .u8 c1 7) 5 = false := by simpa using h5
              rw [h5]
              exact key (used := 2) (width_cases hm.1 hm.2) (by omega) (by omega)
          have hgo : Ends (step92 (c :: c1 :: b2, rex)) (takeR (c :: c1 :: b2) (sibP rex (ishr .u8 c 6) (takeReg rex c) (fn114 (takeLow rex c, 0)) (c1 :: b2)))
              (step92 (c :: c1 :: b2, rex) (.h4 (ishr .u8 c 6) (widthS (ishr .u8 c 6)) (sibO rex c1 (fn114 (takeLow rex c, 0))))) := h4E (sibO rex c1 (fn114 (takeLow rex c, 0)))
          simp only [rdc_one, ends_need]
          refine ⟨by omega, by omega, pre113_ok (by omega), by omega, by omega, by omega, pre113_ok (by omega), ?_⟩
          rw [ends_ite]
          refine ⟨fun hi => ?_, fun hi => ?_⟩
          · simp only [ends_need, ends_both, ends_jump]
            simp only [sibO] at hgo; rw [hi] at hgo
            exact ⟨by omega, by omega, ⟨by omega, hm1.1, hgo⟩, by omega, hm1.1, hgo⟩
          · simp only [ends_jump]
            simp only [sibO] at hgo; rw [hi] at hgo
            exact hgo
      · have h4 : ieq (iconv .i64 (iand .u8 c 7)) 4 = false := by simpa using h4
        rw [h4, cond_false, ends_ite]
        refine ⟨(fun h => by cases h), fun _ => ?_⟩
        simp only [ends_ite, ends_jump]
        refine ⟨fun h5 => ⟨fun h0 => ?_, fun h0 => ?_⟩, fun h5 => ?_⟩
        · have h5 : ieq (iconv .i64 (iand .u8 c 7)) 5 = true := by simpa using h5
          rw [h5, h0]
          exact key (w := 4) (used := 1) (o := ripO (fn114 (takeLow rex c, 0))) (.inr (.inr rfl)) (by omega) (by omega)
        · rw [h0, Bool.and_false]
          exact key (used := 1) (width_cases hm.1 hm.2) (by omega) (by omega)
        · have h5 : ieq (iconv .i64 (iand .u8 c 7)) 5 = false := by simpa using h5
          rw [h5]
          exact key (used := 1) (width_cases hm.1 hm.2) (by omega) (by omega)
end

theorem pre92_ok {rex : Int} {b : List Int} (hl : b.length ≤ 1000) (hB : AllB b) : pre92 (b, rex) := ⟨_, take_ends hl hB⟩
theorem fn92_ok {rex : Int} {b : List Int} (hl : b.length ≤ 1000) (hB : AllB b) : fn92 (b, rex) = takeR b (takeS rex b) := endVal_eq (take_ends hl hB)

/-! ### What it takes -/
theorem dispP_st (reg w : Int) (o : DOperand) : Stable (dispP reg w o) := stable_bytes fun _ => stable_ret _
theorem dispP_tk (reg w : Int) (o : DOperand) (h : w ≤ 4) : Takes (dispP reg w o) 0 4 := (takes_bytes fun _ => takes_ret _).mono (by omega) (by omega)
theorem width_le {m : Int} : widthS m ≤ 4 := by
  unfold widthS
  rcases Nat.lt_or_ge m.toNat 4 with h | h
  · generalize m.toNat = n at h
    have : n = 0 ∨ n = 1 ∨ n = 2 ∨ n = 3 := by omega
    rcases this with rfl | rfl | rfl | rfl <;> decide
  · unfold rdc; rw [List.getD_eq_getElem?_getD, List.getElem?_eq_none h]; decide
theorem cond_pz {α : Type} {c : Bool} {p q : Pz α} : (cond c p q) = fun b => cond c (p b) (q b) := by cases c <;> rfl
theorem stable_cond {α : Type} {c : Bool} {p q : Pz α} (hp : Stable p) (hq : Stable q) : Stable (cond c p q) := by cases c <;> assumption
theorem takes_cond {α : Type} {c : Bool} {p q : Pz α} {lo hi : Nat} (hp : Takes p lo hi) (hq : Takes q lo hi) : Takes (cond c p q) lo hi := by cases c <;> assumption
theorem takeS_st (rex : Int) : Stable (takeS rex) :=
  stable_byte fun _ => stable_cond (dispP_st _ _ _) (stable_cond (stable_byte fun _ => stable_cond (dispP_st _ _ _) (dispP_st _ _ _)) (stable_cond (dispP_st _ _ _) (dispP_st _ _ _)))
theorem takeS_tk (rex : Int) : Takes (takeS rex) 1 6 :=
  takes_byte (lo := 0) (hi := 5) fun _ => takes_cond ((dispP_tk _ _ _ width_le).mono (by omega) (by omega))
    (takes_cond ((takes_byte (lo := 0) (hi := 4) fun _ => takes_cond (dispP_tk _ _ _ (by omega)) (dispP_tk _ _ _ width_le)).mono (by omega) (by omega))
      (takes_cond ((dispP_tk _ _ _ (by omega)).mono (by omega) (by omega)) ((dispP_tk _ _ _ width_le).mono (by omega) (by omega))))
end
end Go.Eng.RD
end
section
/- Numbers of bytes: what needs holds. -/
namespace Go.Eng.RD
open Go.Eng
set_option maxRecDepth 100000
noncomputable section

theorem pre116_ok (x) : pre116 x := trivial
theorem num_h0 (x v1 : List Int) (hl : v1.length ≤ 1000) : ∀ (m i : Nat), i + m = v1.length → ∀ v0, ∃ r, Ends (step94 x) r (step94 x (.h0 v0 v1 v1.length i)) := by
  intro m
  induction m with
  | zero =>
    intro i hi v0
    refine ⟨v0, ?_⟩
    simp only [step94]
    simp only [lt_no (show v1.length ≤ i by omega), ends_ite, ends_ret]
    exact ⟨(fun h => by cases h), fun _ => trivial⟩
  | succ m ih =>
    intro i hi v0
    obtain ⟨r, hr⟩ := ih (i + 1) (by omega) (ior .u64 v0 (ishl .u64 (iconv .u64 (rdc (.int .u8) v1 i)) (imul .i64 8 i)))
    refine ⟨r, ?_⟩
    have e : imul .i64 8 (i : Int) = ((8 * i : Nat) : Int) := by
      simp only [imul, IntKind.wrap, IntKind.signed, IntKind.bits]
      simp
      omega
    rw [e] at hr
    simp only [step94]
    simp only [lt_yes (show i < v1.length by omega), ends_ite, ends_need, ends_jump, Int.toNat_natCast, one_more i (by omega), e]
    exact ⟨fun _ => ⟨by omega, by omega, by omega, hr⟩, (fun h => by cases h)⟩

theorem pre94_ok (d : List Int) (h : d.length ≤ 1000) : pre94 d := by
  have e : ∃ n : Nat, imin (d.length : Int) 8 = n ∧ n ≤ d.length := by
    unfold imin
    split
    · exact ⟨8, rfl, by omega⟩
    · exact ⟨d.length, rfl, Nat.le_refl _⟩
  obtain ⟨n, e, hn⟩ := e
  have hl : ((d.drop 0).take (n - 0)).length = n := by simp; omega
  obtain ⟨r, hr⟩ := num_h0 d ((d.drop 0).take (n - 0)) (by omega) _ 0 (Nat.zero_add _) 0
  refine ⟨r, ?_⟩
  unfold tree94
  simp only [e, ends_need, ends_jump, Int.toNat_natCast]
  exact ⟨by omega, by omega, by omega, hr⟩

theorem pre95_ok (x n : Int) : pre95 (x, n) := by
  have h : 0 ≤ isub .i64 64 (imul .i64 8 (fn116 n)) := by
    have e : fn116 n = imin (imax n 1) 8 := rfl
    rw [e]
    have e2 : 1 ≤ imin (imax n 1) 8 ∧ imin (imax n 1) 8 ≤ 8 := by
      unfold imin imax
      constructor <;> (repeat' split) <;> omega
    generalize imin (imax n 1) 8 = k at e2
    simp only [isub, imul, IntKind.wrap, IntKind.signed, IntKind.bits]
    simp
    omega
  exact ⟨trivial, h, h, trivial⟩
end
end Go.Eng.RD
end
