/- A part of the proof that the laws of this seat hold. Conditions: none beyond the row. -/
import Derived.Test.YtjjoocjlmopfjaaDoorFns1
set_option linter.unusedVariables false
set_option linter.unusedSimpArgs false
set_option linter.unusedSectionVars false
section
/- Functions of this program, written out. -/
namespace Go.Eng.RE
open Go.Proofs Go.Eng
set_option maxRecDepth 100000

/-! ### sundial/encode.Encode -/
inductive J14 where
  | h0 (v21 : (List Int)) (v22 : Int) (v23 : (List Int)) (v24 : Int) (v25 : Int) (v26 : Int)
  | h1 (v21 : (List Int)) (v22 : Int) (v23 : (List Int)) (v24 : Int) (v25 : Int) (v26 : Int) (v27 : DOperand) (v35 : DOperand)
  | h2 (v1 : Nat) (v3 : Int) (v25 : (List Int)) (v26 : Int) (v27 : (List Int)) (v28 : Int) (v29 : Int) (v30 : Int) (v31 : DOperand) (v39 : Nat) (v40 : (List Int))
  | h3 (v0 : (List Int)) (v2 : Nat) (v3 : Int) (v25 : (List Int)) (v26 : Int) (v27 : (List Int)) (v28 : Int) (v29 : Int) (v30 : Int) (v31 : Nat) (v32 : (List Int))
  | h4 (v1 : Nat) (v2 : Int) (v24 : (List Int)) (v25 : Int) (v26 : (List Int)) (v27 : Int) (v28 : Int) (v29 : Int) (v30 : Nat) (v31 : (List Int))
  | h5 (v0 : (List Int)) (v2 : Nat) (v3 : Int) (v25 : (List Int)) (v26 : Int) (v27 : (List Int)) (v28 : Int) (v29 : Int) (v30 : Int) (v31 : Nat) (v32 : (List Int))
  | h6 (v1 : Nat) (v2 : Int) (v24 : (List Int)) (v25 : Int) (v26 : (List Int)) (v27 : Int) (v28 : Int) (v29 : Int) (v30 : Nat) (v31 : (List Int))
  | h7 (v2 : (List Int)) (v4 : Nat) (v5 : Int) (v28 : (List Int)) (v29 : (List Int)) (v30 : Int) (v31 : Int) (v32 : Int) (v33 : Nat) (v34 : (List Int))
  | h8 (v0 : (List Int)) (v2 : Nat) (v3 : Int) (v25 : (List Int)) (v26 : Int) (v27 : Int) (v28 : Int) (v29 : Nat) (v30 : (List Int))
  | h9 (v3 : Nat) (v4 : Int) (v27 : (List Int)) (v28 : (List Int)) (v29 : Int) (v30 : Int) (v31 : Int) (v32 : Nat) (v33 : (List Int))
  | h10 (v1 : Nat) (v2 : Int) (v24 : (List Int)) (v25 : Int) (v26 : Int) (v27 : Int) (v28 : Nat) (v29 : (List Int))
  | h11 (v1 : Nat) (v2 : (List Int)) (v4 : Nat) (v26 : Nat) (v27 : (List Int)) (v28 : (List Int)) (v29 : Int) (v30 : Int) (v31 : Int) (v32 : Nat) (v33 : (List Int))
  | h12 (v0 : (List Int)) (v2 : Nat) (v24 : (List Int)) (v25 : Int) (v26 : Int) (v27 : Int) (v28 : Nat) (v29 : (List Int))
  | h13 (v1 : Nat) (v3 : Nat) (v25 : Nat) (v26 : (List Int)) (v27 : (List Int)) (v28 : Int) (v29 : Int) (v30 : Int) (v31 : Nat) (v32 : (List Int))
  | h14 (v1 : Nat) (v23 : (List Int)) (v24 : Int) (v25 : Int) (v26 : Int) (v27 : Nat) (v28 : (List Int))
  | h15 (v1 : Nat) (v2 : Int) (v3 : Nat) (v4 : (List Int)) (v5 : (List Int)) (v6 : Int) (v7 : Int) (v8 : Int)
  | h16 (v1 : Nat) (v2 : Int) (v3 : Int) (v4 : Int) (v5 : Nat) (v6 : (List Int))
  | h17 (v1 : Nat) (v2 : Int) (v3 : Int) (v4 : Int) (v5 : Nat) (v6 : (List Int))
  | h18 (v1 : Nat) (v2 : Nat) (v3 : (List Int))
noncomputable def tree14 (x : DInsn) : Tr (J14 ⊕ ((List Int) × Int)) :=
  .need (pre36 x) <|
  let y0 : ((Unit × (Unit × ((List Int) × (Int × (Int × Int))))) × Bool) := (fn36 x).2
  .ite (!y0.2) (
  .ret (.inr (([] : List Int), 2))) (
  let y1 : ((List Int) × (Int × Unit)) := (fn36 x).1
  let y2 : ((List Int) × (Int × (Int × Int))) := y0.1.2.2
  let y3 : (Int × (Int × Int)) := y2.2
  let y4 : (Int × Int) := y3.2
  .ret (.inl (.h0 y1.1 y1.2.1 y2.1 y3.1 y4.1 y4.2)))
noncomputable def step14 (x : DInsn) : J14 → Tr (J14 ⊕ ((List Int) × Int))
  | .h0 v21 v22 v23 v24 v25 v26 =>
  let y0 : (DOperand × (DOperand × (Int × Int))) := x.2.2.2
  let y1 : DOperand := y0.1
  .need (pre37 y1) <|
  let y2 : DOperand := y0.2.1
  .need (pre37 y2) <|
  .both (
  let y3 : Bool := (ieq v25 2)
  .ite y3 (
  let y4 : DOperand := (fn37 y2)
  let y5 : DOperand := (fn37 y1)
  .ret (.inl (.h1 v21 v22 v23 v24 v25 v26 y4 y5))) (
  let y6 : DOperand := (fn37 y1)
  let y7 : DOperand := (fn37 y2)
  .ret (.inl (.h1 v21 v22 v23 v24 v25 v26 y6 y7)))) (
  let y8 : Bool := (ieq v25 2)
  .ite y8 (
  let y9 : DOperand := (fn37 y2)
  let y10 : DOperand := (fn37 y1)
  .ret (.inl (.h1 v21 v22 v23 v24 v25 v26 y9 y10))) (
  let y11 : DOperand := (fn37 y1)
  let y12 : DOperand := (fn37 y2)
  .ret (.inl (.h1 v21 v22 v23 v24 v25 v26 y11 y12))))
  | .h1 v21 v22 v23 v24 v25 v26 v27 v35 =>
  .both (
  .need (pre38 v23) <|
  let y0 : Bool := (ilt v24 0)
  .ite y0 (
  let y1 : Nat := (fn38 v23).length
  let y2 : Int := v35.2.1
  .ret (.inl (.h2 y1 y2 v21 v22 v23 v24 v25 v26 v27 y1 (fn38 v23)))) (
  let y3 : Nat := (fn38 v23).length
  .ret (.inl (.h2 y3 v24 v21 v22 v23 v24 v25 v26 v27 y3 (fn38 v23))))) (
  .need (pre38 v23) <|
  let y4 : Bool := (ilt v24 0)
  .ite y4 (
  let y5 : Nat := (fn38 v23).length
  let y6 : Int := v35.2.1
  .ret (.inl (.h2 y5 y6 v21 v22 v23 v24 v25 v26 v27 y5 (fn38 v23)))) (
  let y7 : Nat := (fn38 v23).length
  .ret (.inl (.h2 y7 v24 v21 v22 v23 v24 v25 v26 v27 y7 (fn38 v23)))))
  | .h2 v1 v3 v25 v26 v27 v28 v29 v30 v31 v39 v40 =>
  .ite (ieq v29 1) (
  let y0 : (Int × DOperand) := (v3, v31)
  .need (pre39 y0) <|
  let y1 : ((List Int) × (Int × Int)) := (fn39 y0)
  let y2 : (List Int) := y1.1
  let y3 : Int := y1.2.1
  .ret (.inl (.h3 y2 v1 y3 v25 v26 v27 v28 v29 v30 v39 v40))) (
  .ite (ieq v29 2) (
  let y4 : (Int × DOperand) := (v3, v31)
  .need (pre39 y4) <|
  let y5 : ((List Int) × (Int × Int)) := (fn39 y4)
  let y6 : (List Int) := y5.1
  let y7 : Int := y5.2.1
  .ret (.inl (.h3 y6 v1 y7 v25 v26 v27 v28 v29 v30 v39 v40))) (
  .ite (ieq v29 3) (
  let y8 : Int := (isub .i64 (v1 : Int) 1)
  .need ((0 : Int) ≤ y8) <|
  .need (y8 < (v1 : Int)) <|
  let y9 : Nat := (0 + (y8).toNat)
  .need ((y9 : Nat) < v39) <|
  .need ((0 : Int) ≤ y8) <|
  .need (y8 < (v1 : Int)) <|
  .need ((y9 : Nat) < v39) <|
  .need ((0 : Int) ≤ 3) <|
  let y10 : Int := v31.2.1
  .ret (.inl (.h4 v1 (iconv .u8 (ishr .i64 y10 3)) v25 v26 v27 v28 v29 v30 v39 (v40.set y9 (iadd .u8 (rdc (.int .u8) v40 y9) (iconv .u8 (iand .i64 y10 7))))))) (
  .ret (.inl (.h4 v1 0 v25 v26 v27 v28 v29 v30 v39 v40)))))
  | .h3 v0 v2 v3 v25 v26 v27 v28 v29 v30 v31 v32 =>
  .ite ((ieq x.2.2.1 8) == true) (
  .ite ((ieq (v25.length : Int) 1) == false) (
  .need ((0 : Int) ≤ 0) <|
  .need (0 < (v25.length : Int)) <|
  .ite (ieq (rdc (.int .i64) v25 0) 4) (
  let y0 : Int := (ior .u8 v3 8)
  .ret (.inl (.h5 v0 v2 y0 v25 v26 v27 v28 v29 v30 v31 v32))) (
  .ret (.inl (.h5 v0 v2 v3 v25 v26 v27 v28 v29 v30 v31 v32)))) (
  let y1 : Int := (ior .u8 v3 8)
  .ret (.inl (.h5 v0 v2 y1 v25 v26 v27 v28 v29 v30 v31 v32)))) (
  .ret (.inl (.h5 v0 v2 v3 v25 v26 v27 v28 v29 v30 v31 v32)))
  | .h4 v1 v2 v24 v25 v26 v27 v28 v29 v30 v31 =>
  .ite ((ieq x.2.2.1 8) == true) (
  .ite ((ieq (v24.length : Int) 1) == false) (
  .need ((0 : Int) ≤ 0) <|
  .need (0 < (v24.length : Int)) <|
  .ite (ieq (rdc (.int .i64) v24 0) 4) (
  let y0 : Int := (ior .u8 v2 8)
  .ret (.inl (.h6 v1 y0 v24 v25 v26 v27 v28 v29 v30 v31))) (
  .ret (.inl (.h6 v1 v2 v24 v25 v26 v27 v28 v29 v30 v31)))) (
  let y1 : Int := (ior .u8 v2 8)
  .ret (.inl (.h6 v1 y1 v24 v25 v26 v27 v28 v29 v30 v31)))) (
  .ret (.inl (.h6 v1 v2 v24 v25 v26 v27 v28 v29 v30 v31)))
  | .h5 v0 v2 v3 v25 v26 v27 v28 v29 v30 v31 v32 =>
  .ite (ine v26 0) (
  .need ((0 : Nat) < 1) <|
  .need (((0 : Nat) + 1 : Nat) ≤ 1) <|
  .need (((1 : Nat) * 1 : Nat) ≤ 2 ^ 40) <|
  .need ((1 : Nat) ≤ 2 ^ 40) <|
  .ret (.inl (.h7 v0 v2 v3 [v26] v27 v28 v29 v30 v31 v32))) (
  .ret (.inl (.h8 v0 v2 v3 v27 v28 v29 v30 v31 v32)))
  | .h6 v1 v2 v24 v25 v26 v27 v28 v29 v30 v31 =>
  .ite (ine v25 0) (
  .need ((0 : Nat) < 1) <|
  .need (((0 : Nat) + 1 : Nat) ≤ 1) <|
  .need (((1 : Nat) * 1 : Nat) ≤ 2 ^ 40) <|
  .need ((1 : Nat) ≤ 2 ^ 40) <|
  .ret (.inl (.h9 v1 v2 [v25] v26 v27 v28 v29 v30 v31))) (
  .ret (.inl (.h10 v1 v2 v26 v27 v28 v29 v30 v31)))
  | .h7 v2 v4 v5 v28 v29 v30 v31 v32 v33 v34 =>
  .ite ((ine v5 0) == false) (
  .need (pre40 x) <|
  .ite (fn40 x) (
  .need ((0 : Nat) < 1) <|
  .need (((0 : Nat) + 1 : Nat) ≤ 1) <|
  .need ((1 : Nat) = 1) <|
  .need (((2 : Nat) * 1 : Nat) ≤ 2 ^ 40) <|
  .need ((2 : Nat) ≤ 2 ^ 40) <|
  let y0 : (List Int) := (v28 ++ [(ior .u8 64 v5)])
  .ret (.inl (.h11 2 v2 v4 2 y0 v29 v30 v31 v32 v33 v34))) (
  .ret (.inl (.h11 1 v2 v4 1 v28 v29 v30 v31 v32 v33 v34)))) (
  .need ((0 : Nat) < 1) <|
  .need (((0 : Nat) + 1 : Nat) ≤ 1) <|
  .need ((1 : Nat) = 1) <|
  .need (((2 : Nat) * 1 : Nat) ≤ 2 ^ 40) <|
  .need ((2 : Nat) ≤ 2 ^ 40) <|
  let y1 : (List Int) := (v28 ++ [(ior .u8 64 v5)])
  .ret (.inl (.h11 2 v2 v4 2 y1 v29 v30 v31 v32 v33 v34)))
  | .h8 v0 v2 v3 v25 v26 v27 v28 v29 v30 =>
  .ite ((ine v3 0) == false) (
  .need (pre40 x) <|
  .ite (fn40 x) (
  .need ((0 : Nat) < 1) <|
  .need (((0 : Nat) + 1 : Nat) ≤ 1) <|
  .need (((1 : Nat) * 1 : Nat) ≤ 2 ^ 40) <|
  .need ((1 : Nat) ≤ 2 ^ 40) <|
  let y0 : (List Int) := [(ior .u8 64 v3)]
  .ret (.inl (.h11 1 v0 v2 1 y0 v25 v26 v27 v28 v29 v30))) (
  .ret (.inl (.h12 v0 v2 v25 v26 v27 v28 v29 v30)))) (
  .need ((0 : Nat) < 1) <|
  .need (((0 : Nat) + 1 : Nat) ≤ 1) <|
  .need (((1 : Nat) * 1 : Nat) ≤ 2 ^ 40) <|
  .need ((1 : Nat) ≤ 2 ^ 40) <|
  let y1 : (List Int) := [(ior .u8 64 v3)]
  .ret (.inl (.h11 1 v0 v2 1 y1 v25 v26 v27 v28 v29 v30)))
  | .h9 v3 v4 v27 v28 v29 v30 v31 v32 v33 =>
  .ite ((ine v4 0) == false) (
  .need (pre40 x) <|
  .ite (fn40 x) (
  .need ((0 : Nat) < 1) <|
  .need (((0 : Nat) + 1 : Nat) ≤ 1) <|
  .need ((1 : Nat) = 1) <|
  .need (((2 : Nat) * 1 : Nat) ≤ 2 ^ 40) <|
  .need ((2 : Nat) ≤ 2 ^ 40) <|
  let y0 : (List Int) := (v27 ++ [(ior .u8 64 v4)])
  .ret (.inl (.h13 2 v3 2 y0 v28 v29 v30 v31 v32 v33))) (
  .ret (.inl (.h13 1 v3 1 v27 v28 v29 v30 v31 v32 v33)))) (
  .need ((0 : Nat) < 1) <|
  .need (((0 : Nat) + 1 : Nat) ≤ 1) <|
  .need ((1 : Nat) = 1) <|
  .need (((2 : Nat) * 1 : Nat) ≤ 2 ^ 40) <|
  .need ((2 : Nat) ≤ 2 ^ 40) <|
  let y1 : (List Int) := (v27 ++ [(ior .u8 64 v4)])
  .ret (.inl (.h13 2 v3 2 y1 v28 v29 v30 v31 v32 v33)))
  | .h10 v1 v2 v24 v25 v26 v27 v28 v29 =>
  .ite ((ine v2 0) == false) (
  .need (pre40 x) <|
  .ite (fn40 x) (
  .need ((0 : Nat) < 1) <|
  .need (((0 : Nat) + 1 : Nat) ≤ 1) <|
  .need (((1 : Nat) * 1 : Nat) ≤ 2 ^ 40) <|
  .need ((1 : Nat) ≤ 2 ^ 40) <|
  let y0 : (List Int) := [(ior .u8 64 v2)]
  .ret (.inl (.h13 1 v1 1 y0 v24 v25 v26 v27 v28 v29))) (
  .ret (.inl (.h14 v1 v24 v25 v26 v27 v28 v29)))) (
  .need ((0 : Nat) < 1) <|
  .need (((0 : Nat) + 1 : Nat) ≤ 1) <|
  .need (((1 : Nat) * 1 : Nat) ≤ 2 ^ 40) <|
  .need ((1 : Nat) ≤ 2 ^ 40) <|
  let y1 : (List Int) := [(ior .u8 64 v2)]
  .ret (.inl (.h13 1 v1 1 y1 v24 v25 v26 v27 v28 v29)))
  | .h11 v1 v2 v4 v26 v27 v28 v29 v30 v31 v32 v33 =>
  .need (((0 : Nat) + v1 : Nat) ≤ v26) <|
  .need (((0 : Nat) + v4 : Nat) ≤ v32) <|
  .need ((0 : Nat) < 3) <|
  .need ((1 : Nat) < 3) <|
  .need ((2 : Nat) < 3) <|
  .need (((0 : Nat) + 3 : Nat) ≤ 3) <|
  let y0 : (List (List Int)) := [(v27.take v1), (v33.take v4), v2]
  .need (pre41 y0) <|
  .ite (ieq x.1 39) (
  let y1 : (List Int) := (fn41 y0)
  let y2 : Nat := y1.length
  let y3 : (DOperand × (Int × Int)) := x.2.2.2.2
  .ret (.inl (.h15 y2 (iconv .i64 y3.2.1) y2 y1 v28 v29 v30 v31))) (
  let y4 : (List Int) := (fn41 y0)
  let y5 : Nat := y4.length
  let y6 : (DOperand × (Int × Int)) := x.2.2.2.2
  .ret (.inl (.h15 y5 y6.1.2.2.2.2.2.2.2 y5 y4 v28 v29 v30 v31)))
  | .h12 v0 v2 v24 v25 v26 v27 v28 v29 =>
  .need (((0 : Nat) + v2 : Nat) ≤ v28) <|
  .need ((0 : Nat) < 3) <|
  .need ((1 : Nat) < 3) <|
  .need ((2 : Nat) < 3) <|
  .need (((0 : Nat) + 3 : Nat) ≤ 3) <|
  let y0 : (List (List Int)) := [([] : List Int), (v29.take v2), v0]
  .need (pre41 y0) <|
  .ite (ieq x.1 39) (
  let y1 : (List Int) := (fn41 y0)
  let y2 : Nat := y1.length
  let y3 : (DOperand × (Int × Int)) := x.2.2.2.2
  .ret (.inl (.h15 y2 (iconv .i64 y3.2.1) y2 y1 v24 v25 v26 v27))) (
  let y4 : (List Int) := (fn41 y0)
  let y5 : Nat := y4.length
  let y6 : (DOperand × (Int × Int)) := x.2.2.2.2
  .ret (.inl (.h15 y5 y6.1.2.2.2.2.2.2.2 y5 y4 v24 v25 v26 v27)))
  | .h13 v1 v3 v25 v26 v27 v28 v29 v30 v31 v32 =>
  .need (((0 : Nat) + v1 : Nat) ≤ v25) <|
  .need (((0 : Nat) + v3 : Nat) ≤ v31) <|
  .need ((0 : Nat) < 3) <|
  .need ((1 : Nat) < 3) <|
  .need ((2 : Nat) < 3) <|
  .need (((0 : Nat) + 3 : Nat) ≤ 3) <|
  let y0 : (List (List Int)) := [(v26.take v1), (v32.take v3), ([] : List Int)]
  .need (pre41 y0) <|
  .ite (ieq x.1 39) (
  let y1 : (List Int) := (fn41 y0)
  let y2 : Nat := y1.length
  let y3 : (DOperand × (Int × Int)) := x.2.2.2.2
  .ret (.inl (.h15 y2 (iconv .i64 y3.2.1) y2 y1 v27 v28 v29 v30))) (
  let y4 : (List Int) := (fn41 y0)
  let y5 : Nat := y4.length
  let y6 : (DOperand × (Int × Int)) := x.2.2.2.2
  .ret (.inl (.h15 y5 y6.1.2.2.2.2.2.2.2 y5 y4 v27 v28 v29 v30)))
  | .h14 v1 v23 v24 v25 v26 v27 v28 =>
  .need (((0 : Nat) + v1 : Nat) ≤ v27) <|
  .need ((0 : Nat) < 3) <|
  .need ((1 : Nat) < 3) <|
  .need ((2 : Nat) < 3) <|
  .need (((0 : Nat) + 3 : Nat) ≤ 3) <|
  let y0 : (List (List Int)) := [([] : List Int), (v28.take v1), ([] : List Int)]
  .need (pre41 y0) <|
  .ite (ieq x.1 39) (
  let y1 : (List Int) := (fn41 y0)
  let y2 : Nat := y1.length
  let y3 : (DOperand × (Int × Int)) := x.2.2.2.2
  .ret (.inl (.h15 y2 (iconv .i64 y3.2.1) y2 y1 v23 v24 v25 v26))) (
  let y4 : (List Int) := (fn41 y0)
  let y5 : Nat := y4.length
  let y6 : (DOperand × (Int × Int)) := x.2.2.2.2
  .ret (.inl (.h15 y5 y6.1.2.2.2.2.2.2.2 y5 y4 v23 v24 v25 v26)))
  | .h15 v1 v2 v3 v4 v5 v6 v7 v8 =>
  .ret (.inl (.h16 v1 v2 v8 0 v3 v4))
  | .h16 v1 v2 v3 v4 v5 v6 =>
  .ite (ilt v4 v3) (
  .ret (.inl (.h17 v1 v2 v3 v4 v5 v6))) (
  .ret (.inl (.h18 v1 v5 v6)))
  | .h17 v1 v2 v3 v4 v5 v6 =>
  let y0 : Int := (imul .i64 8 v4)
  .need ((0 : Int) ≤ y0) <|
  .need ((0 : Nat) < 1) <|
  .need (((0 : Nat) + 1 : Nat) ≤ 1) <|
  .need ((v1 : Nat) = v5) <|
  let y1 : Nat := (v1 + 1)
  .need (((y1 : Nat) * 1 : Nat) ≤ 2 ^ 40) <|
  .need ((y1 : Nat) ≤ 2 ^ 40) <|
  .ret (.inl (.h16 y1 v2 v3 (iadd .i64 v4 1) y1 (v6 ++ [(iconv .u8 (ishr .i64 v2 y0))])))
  | .h18 v1 v2 v3 =>
  .need (((0 : Nat) + v1 : Nat) ≤ v2) <|
  .ret (.inr ((v3.take v1), 0))
noncomputable def cREF3_0 (x : DInsn) : AObj := .cell true 25 (.agg [1, 1, 1, 8, 8, 1, 1] [(.int .u8 x.1), (.int .u8 x.2.1), (.int .i64 x.2.2.1), (.agg [1, 1, 1, 1, 1, 1, 1, 1] [(.int .u8 x.2.2.2.1.1), (.int .i64 x.2.2.2.1.2.1), (.int .i64 x.2.2.2.1.2.2.1), (.int .i64 x.2.2.2.1.2.2.2.1), (.int .i64 x.2.2.2.1.2.2.2.2.1), (.int .i64 x.2.2.2.1.2.2.2.2.2.1), (.bool x.2.2.2.1.2.2.2.2.2.2.1), (.int .i64 x.2.2.2.1.2.2.2.2.2.2.2)]), (.agg [1, 1, 1, 1, 1, 1, 1, 1] [(.int .u8 x.2.2.2.2.1.1), (.int .i64 x.2.2.2.2.1.2.1), (.int .i64 x.2.2.2.2.1.2.2.1), (.int .i64 x.2.2.2.2.1.2.2.2.1), (.int .i64 x.2.2.2.2.1.2.2.2.2.1), (.int .i64 x.2.2.2.2.1.2.2.2.2.2.1), (.bool x.2.2.2.2.1.2.2.2.2.2.2.1), (.int .i64 x.2.2.2.2.1.2.2.2.2.2.2.2)]), (.int .u8 x.2.2.2.2.2.1), (.int .i64 x.2.2.2.2.2.2)])
noncomputable def head14 (x : DInsn) : J14 → Head
  | .h0 v21 v22 v23 v24 v25 v26 =>
  { fr := { id := 14, kind := .top, T := [.any, (.ptr 0 []), (.raw (.slice none 0 0)), .any, (.ptr 1 []), (.ptr 2 [])] ++ List.replicate 133 .any, items := [.code (subc [1, 1, 1, 0] (bodyOf Tryd.f14)), .code (subc [1, 1, 1, 1] (bodyOf Tryd.f14))], D := [], base := 0 },
    stk := [],
    H := [(cREF3_0 x), .cell true 59 (.agg [1, 1, 1] [(.fsl (.int .i64) v21), (.int .u8 v22), .junk]), .cell true 63 (.agg [1, 1, 1, 1, 1, 1] [.junk, .junk, (.fsl (.int .u8) v23), (.int .i64 v24), (.int .i64 v25), (.int .i64 v26)])] }
  | .h1 v21 v22 v23 v24 v25 v26 v27 v35 =>
  { fr := { id := 14, kind := .top, T := [.any, (.ptr 0 []), (.raw (.slice none 0 0)), .any, (.ptr 1 []), (.ptr 2 []), .any, (.ptr 3 []), (.ptr 4 [])] ++ List.replicate 130 .any, items := [.code (subc [1, 1, 1, 1, 1, 0] (bodyOf Tryd.f14)), .code (subc [1, 1, 1, 1, 1, 1] (bodyOf Tryd.f14))], D := [], base := 0 },
    stk := [],
    H := [(cREF3_0 x), .cell true 59 (.agg [1, 1, 1] [(.fsl (.int .i64) v21), (.int .u8 v22), .junk]), .cell true 63 (.agg [1, 1, 1, 1, 1, 1] [.junk, .junk, (.fsl (.int .u8) v23), (.int .i64 v24), (.int .i64 v25), (.int .i64 v26)]), .cell true 23 (.agg [1, 1, 1, 1, 1, 1, 1, 1] [(.int .u8 v27.1), (.int .i64 v27.2.1), (.int .i64 v27.2.2.1), (.int .i64 v27.2.2.2.1), (.int .i64 v27.2.2.2.2.1), (.int .i64 v27.2.2.2.2.2.1), (.bool v27.2.2.2.2.2.2.1), (.int .i64 v27.2.2.2.2.2.2.2)]), .cell true 23 (.agg [1, 1, 1, 1, 1, 1, 1, 1] [(.int .u8 v35.1), (.int .i64 v35.2.1), (.int .i64 v35.2.2.1), (.int .i64 v35.2.2.2.1), (.int .i64 v35.2.2.2.2.1), (.int .i64 v35.2.2.2.2.2.1), (.bool v35.2.2.2.2.2.2.1), (.int .i64 v35.2.2.2.2.2.2.2)])] }
  | .h2 v1 v3 v25 v26 v27 v28 v29 v30 v31 v39 v40 =>
  { fr := { id := 14, kind := .top, T := [.any, (.ptr 0 []), (.raw (.slice none 0 0)), .any, (.ptr 1 []), (.ptr 2 []), .any, (.ptr 3 []), .any, (.raw (.slice none 0 0)), (.osl 4 [] 1 0 v1 none), (.int .u8 0), (.int .i64 v3)] ++ List.replicate 126 .any, items := [.code (subc [1, 1, 1, 1, 1, 1, 1, 1, 0, 0] (bodyOf Tryd.f14)), .code (subc [1, 1, 1, 1, 1, 1, 1, 1, 0, 1] (bodyOf Tryd.f14)), .code (subc [1, 1, 1, 1, 1, 1, 1, 1, 1] (bodyOf Tryd.f14))], D := [], base := 0 },
    stk := [],
    H := [(cREF3_0 x), .cell true 59 (.agg [1, 1, 1] [(.fsl (.int .i64) v25), (.int .u8 v26), .junk]), .cell true 63 (.agg [1, 1, 1, 1, 1, 1] [.junk, .junk, (.fsl (.int .u8) v27), (.int .i64 v28), (.int .i64 v29), (.int .i64 v30)]), .cell true 23 (.agg [1, 1, 1, 1, 1, 1, 1, 1] [(.int .u8 v31.1), (.int .i64 v31.2.1), (.int .i64 v31.2.2.1), (.int .i64 v31.2.2.2.1), (.int .i64 v31.2.2.2.2.1), (.int .i64 v31.2.2.2.2.2.1), (.bool v31.2.2.2.2.2.2.1), (.int .i64 v31.2.2.2.2.2.2.2)]), .cell true 5 (.arr v39 (.int .u8) v40)] }
  | .h3 v0 v2 v3 v25 v26 v27 v28 v29 v30 v31 v32 =>
  { fr := { id := 14, kind := .top, T := [.any, (.ptr 0 []), (.raw (.slice none 0 0)), .any, (.ptr 1 []), (.ptr 2 []), .any, .any, .any, (.fsl (.int .u8) v0), (.osl 3 [] 1 0 v2 none), (.int .u8 v3)] ++ List.replicate 127 .any, items := [.code (subc [1, 1, 1, 1, 1, 1, 1, 1, 1, 0, 0] (bodyOf Tryd.f14)), .code (subc [1, 1, 1, 1, 1, 1, 1, 1, 1, 0, 1] (bodyOf Tryd.f14)), .code (subc [1, 1, 1, 1, 1, 1, 1, 1, 1, 1] (bodyOf Tryd.f14))], D := [], base := 0 },
    stk := [],
    H := [(cREF3_0 x), .cell true 59 (.agg [1, 1, 1] [(.fsl (.int .i64) v25), (.int .u8 v26), .junk]), .cell true 63 (.agg [1, 1, 1, 1, 1, 1] [.junk, .junk, (.fsl (.int .u8) v27), (.int .i64 v28), (.int .i64 v29), (.int .i64 v30)]), .cell true 5 (.arr v31 (.int .u8) v32)] }
  | .h4 v1 v2 v24 v25 v26 v27 v28 v29 v30 v31 =>
  { fr := { id := 14, kind := .top, T := [.any, (.ptr 0 []), (.raw (.slice none 0 0)), .any, (.ptr 1 []), (.ptr 2 []), .any, .any, .any, (.raw (.slice none 0 0)), (.osl 3 [] 1 0 v1 none), (.int .u8 v2)] ++ List.replicate 127 .any, items := [.code (subc [1, 1, 1, 1, 1, 1, 1, 1, 1, 0, 0] (bodyOf Tryd.f14)), .code (subc [1, 1, 1, 1, 1, 1, 1, 1, 1, 0, 1] (bodyOf Tryd.f14)), .code (subc [1, 1, 1, 1, 1, 1, 1, 1, 1, 1] (bodyOf Tryd.f14))], D := [], base := 0 },
    stk := [],
    H := [(cREF3_0 x), .cell true 59 (.agg [1, 1, 1] [(.fsl (.int .i64) v24), (.int .u8 v25), .junk]), .cell true 63 (.agg [1, 1, 1, 1, 1, 1] [.junk, .junk, (.fsl (.int .u8) v26), (.int .i64 v27), (.int .i64 v28), (.int .i64 v29)]), .cell true 5 (.arr v30 (.int .u8) v31)] }
  | .h5 v0 v2 v3 v25 v26 v27 v28 v29 v30 v31 v32 =>
  { fr := { id := 14, kind := .top, T := [.any, (.ptr 0 []), (.raw (.slice none 0 0)), .any, (.ptr 1 []), (.ptr 2 []), .any, .any, .any, (.fsl (.int .u8) v0), (.osl 3 [] 1 0 v2 none), (.int .u8 v3)] ++ List.replicate 127 .any, items := [.code (subc [1, 1, 1, 1, 1, 1, 1, 1, 1, 1, 0, 0] (bodyOf Tryd.f14)), .code (subc [1, 1, 1, 1, 1, 1, 1, 1, 1, 1, 0, 1] (bodyOf Tryd.f14)), .code (subc [1, 1, 1, 1, 1, 1, 1, 1, 1, 1, 1] (bodyOf Tryd.f14))], D := [], base := 0 },
    stk := [],
    H := [(cREF3_0 x), .cell true 59 (.agg [1, 1, 1] [(.fsl (.int .i64) v25), (.int .u8 v26), .junk]), .cell true 63 (.agg [1, 1, 1, 1, 1, 1] [.junk, .junk, (.fsl (.int .u8) v27), (.int .i64 v28), (.int .i64 v29), (.int .i64 v30)]), .cell true 5 (.arr v31 (.int .u8) v32)] }
  | .h6 v1 v2 v24 v25 v26 v27 v28 v29 v30 v31 =>
  { fr := { id := 14, kind := .top, T := [.any, (.ptr 0 []), (.raw (.slice none 0 0)), .any, (.ptr 1 []), (.ptr 2 []), .any, .any, .any, (.raw (.slice none 0 0)), (.osl 3 [] 1 0 v1 none), (.int .u8 v2)] ++ List.replicate 127 .any, items := [.code (subc [1, 1, 1, 1, 1, 1, 1, 1, 1, 1, 0, 0] (bodyOf Tryd.f14)), .code (subc [1, 1, 1, 1, 1, 1, 1, 1, 1, 1, 0, 1] (bodyOf Tryd.f14)), .code (subc [1, 1, 1, 1, 1, 1, 1, 1, 1, 1, 1] (bodyOf Tryd.f14))], D := [], base := 0 },
    stk := [],
    H := [(cREF3_0 x), .cell true 59 (.agg [1, 1, 1] [(.fsl (.int .i64) v24), (.int .u8 v25), .junk]), .cell true 63 (.agg [1, 1, 1, 1, 1, 1] [.junk, .junk, (.fsl (.int .u8) v26), (.int .i64 v27), (.int .i64 v28), (.int .i64 v29)]), .cell true 5 (.arr v30 (.int .u8) v31)] }
  | .h7 v2 v4 v5 v28 v29 v30 v31 v32 v33 v34 =>
  { fr := { id := 14, kind := .top, T := [.any, (.ptr 0 []), (.osl 1 [] 1 0 1 none), .any, .any, (.ptr 2 []), .any, .any, .any, (.fsl (.int .u8) v2), (.osl 3 [] 1 0 v4 none), (.int .u8 v5)] ++ List.replicate 127 .any, items := [.code (subc [1, 1, 1, 1, 1, 1, 1, 1, 1, 1, 1, 0, 0] (bodyOf Tryd.f14)), .code (subc [1, 1, 1, 1, 1, 1, 1, 1, 1, 1, 1, 0, 1] (bodyOf Tryd.f14)), .code (subc [1, 1, 1, 1, 1, 1, 1, 1, 1, 1, 1, 1] (bodyOf Tryd.f14))], D := [], base := 0 },
    stk := [],
    H := [(cREF3_0 x), .cell true 5 (.arr 1 (.int .u8) v28), .cell true 63 (.agg [1, 1, 1, 1, 1, 1] [.junk, .junk, (.fsl (.int .u8) v29), (.int .i64 v30), (.int .i64 v31), (.int .i64 v32)]), .cell true 5 (.arr v33 (.int .u8) v34)] }
  | .h8 v0 v2 v3 v25 v26 v27 v28 v29 v30 =>
  { fr := { id := 14, kind := .top, T := [.any, (.ptr 0 []), (.raw (.slice none 0 0)), .any, .any, (.ptr 1 []), .any, .any, .any, (.fsl (.int .u8) v0), (.osl 2 [] 1 0 v2 none), (.int .u8 v3)] ++ List.replicate 127 .any, items := [.code (subc [1, 1, 1, 1, 1, 1, 1, 1, 1, 1, 1, 0, 0] (bodyOf Tryd.f14)), .code (subc [1, 1, 1, 1, 1, 1, 1, 1, 1, 1, 1, 0, 1] (bodyOf Tryd.f14)), .code (subc [1, 1, 1, 1, 1, 1, 1, 1, 1, 1, 1, 1] (bodyOf Tryd.f14))], D := [], base := 0 },
    stk := [],
    H := [(cREF3_0 x), .cell true 63 (.agg [1, 1, 1, 1, 1, 1] [.junk, .junk, (.fsl (.int .u8) v25), (.int .i64 v26), (.int .i64 v27), (.int .i64 v28)]), .cell true 5 (.arr v29 (.int .u8) v30)] }
  | .h9 v3 v4 v27 v28 v29 v30 v31 v32 v33 =>
  { fr := { id := 14, kind := .top, T := [.any, (.ptr 0 []), (.osl 1 [] 1 0 1 none), .any, .any, (.ptr 2 []), .any, .any, .any, (.raw (.slice none 0 0)), (.osl 3 [] 1 0 v3 none), (.int .u8 v4)] ++ List.replicate 127 .any, items := [.code (subc [1, 1, 1, 1, 1, 1, 1, 1, 1, 1, 1, 0, 0] (bodyOf Tryd.f14)), .code (subc [1, 1, 1, 1, 1, 1, 1, 1, 1, 1, 1, 0, 1] (bodyOf Tryd.f14)), .code (subc [1, 1, 1, 1, 1, 1, 1, 1, 1, 1, 1, 1] (bodyOf Tryd.f14))], D := [], base := 0 },
    stk := [],
    H := [(cREF3_0 x), .cell true 5 (.arr 1 (.int .u8) v27), .cell true 63 (.agg [1, 1, 1, 1, 1, 1] [.junk, .junk, (.fsl (.int .u8) v28), (.int .i64 v29), (.int .i64 v30), (.int .i64 v31)]), .cell true 5 (.arr v32 (.int .u8) v33)] }
  | .h10 v1 v2 v24 v25 v26 v27 v28 v29 =>
  { fr := { id := 14, kind := .top, T := [.any, (.ptr 0 []), (.raw (.slice none 0 0)), .any, .any, (.ptr 1 []), .any, .any, .any, (.raw (.slice none 0 0)), (.osl 2 [] 1 0 v1 none), (.int .u8 v2)] ++ List.replicate 127 .any, items := [.code (subc [1, 1, 1, 1, 1, 1, 1, 1, 1, 1, 1, 0, 0] (bodyOf Tryd.f14)), .code (subc [1, 1, 1, 1, 1, 1, 1, 1, 1, 1, 1, 0, 1] (bodyOf Tryd.f14)), .code (subc [1, 1, 1, 1, 1, 1, 1, 1, 1, 1, 1, 1] (bodyOf Tryd.f14))], D := [], base := 0 },
    stk := [],
    H := [(cREF3_0 x), .cell true 63 (.agg [1, 1, 1, 1, 1, 1] [.junk, .junk, (.fsl (.int .u8) v24), (.int .i64 v25), (.int .i64 v26), (.int .i64 v27)]), .cell true 5 (.arr v28 (.int .u8) v29)] }
  | .h11 v1 v2 v4 v26 v27 v28 v29 v30 v31 v32 v33 =>
  { fr := { id := 14, kind := .top, T := [.any, (.ptr 0 []), (.osl 1 [] 1 0 v1 none), .any, .any, (.ptr 2 []), .any, .any, .any, (.fsl (.int .u8) v2), (.osl 3 [] 1 0 v4 none)] ++ List.replicate 128 .any, items := [.code (subc [1, 1, 1, 1, 1, 1, 1, 1, 1, 1, 1, 1, 0] (bodyOf Tryd.f14)), .code (subc [1, 1, 1, 1, 1, 1, 1, 1, 1, 1, 1, 1, 1] (bodyOf Tryd.f14))], D := [], base := 0 },
    stk := [],
    H := [(cREF3_0 x), .cell true 5 (.arr v26 (.int .u8) v27), .cell true 63 (.agg [1, 1, 1, 1, 1, 1] [.junk, .junk, (.fsl (.int .u8) v28), (.int .i64 v29), (.int .i64 v30), (.int .i64 v31)]), .cell true 5 (.arr v32 (.int .u8) v33)] }
  | .h12 v0 v2 v24 v25 v26 v27 v28 v29 =>
  { fr := { id := 14, kind := .top, T := [.any, (.ptr 0 []), (.raw (.slice none 0 0)), .any, .any, (.ptr 1 []), .any, .any, .any, (.fsl (.int .u8) v0), (.osl 2 [] 1 0 v2 none)] ++ List.replicate 128 .any, items := [.code (subc [1, 1, 1, 1, 1, 1, 1, 1, 1, 1, 1, 1, 0] (bodyOf Tryd.f14)), .code (subc [1, 1, 1, 1, 1, 1, 1, 1, 1, 1, 1, 1, 1] (bodyOf Tryd.f14))], D := [], base := 0 },
    stk := [],
    H := [(cREF3_0 x), .cell true 63 (.agg [1, 1, 1, 1, 1, 1] [.junk, .junk, (.fsl (.int .u8) v24), (.int .i64 v25), (.int .i64 v26), (.int .i64 v27)]), .cell true 5 (.arr v28 (.int .u8) v29)] }
  | .h13 v1 v3 v25 v26 v27 v28 v29 v30 v31 v32 =>
  { fr := { id := 14, kind := .top, T := [.any, (.ptr 0 []), (.osl 1 [] 1 0 v1 none), .any, .any, (.ptr 2 []), .any, .any, .any, (.raw (.slice none 0 0)), (.osl 3 [] 1 0 v3 none)] ++ List.replicate 128 .any, items := [.code (subc [1, 1, 1, 1, 1, 1, 1, 1, 1, 1, 1, 1, 0] (bodyOf Tryd.f14)), .code (subc [1, 1, 1, 1, 1, 1, 1, 1, 1, 1, 1, 1, 1] (bodyOf Tryd.f14))], D := [], base := 0 },
    stk := [],
    H := [(cREF3_0 x), .cell true 5 (.arr v25 (.int .u8) v26), .cell true 63 (.agg [1, 1, 1, 1, 1, 1] [.junk, .junk, (.fsl (.int .u8) v27), (.int .i64 v28), (.int .i64 v29), (.int .i64 v30)]), .cell true 5 (.arr v31 (.int .u8) v32)] }
  | .h14 v1 v23 v24 v25 v26 v27 v28 =>
  { fr := { id := 14, kind := .top, T := [.any, (.ptr 0 []), (.raw (.slice none 0 0)), .any, .any, (.ptr 1 []), .any, .any, .any, (.raw (.slice none 0 0)), (.osl 2 [] 1 0 v1 none)] ++ List.replicate 128 .any, items := [.code (subc [1, 1, 1, 1, 1, 1, 1, 1, 1, 1, 1, 1, 0] (bodyOf Tryd.f14)), .code (subc [1, 1, 1, 1, 1, 1, 1, 1, 1, 1, 1, 1, 1] (bodyOf Tryd.f14))], D := [], base := 0 },
    stk := [],
    H := [(cREF3_0 x), .cell true 63 (.agg [1, 1, 1, 1, 1, 1] [.junk, .junk, (.fsl (.int .u8) v23), (.int .i64 v24), (.int .i64 v25), (.int .i64 v26)]), .cell true 5 (.arr v27 (.int .u8) v28)] }
  | .h15 v1 v2 v3 v4 v5 v6 v7 v8 =>
  { fr := { id := 14, kind := .top, T := [.any, .any, (.osl 0 [] 1 0 v1 none), .any, .any, (.ptr 1 [])] ++ List.replicate 7 .any ++ [(.int .i64 v2)] ++ List.replicate 125 .any, items := [.code (subc [1, 1, 1, 1, 1, 1, 1, 1, 1, 1, 1, 1, 1, 1, 1, 0, 0] (bodyOf Tryd.f14)), .code (subc [1, 1, 1, 1, 1, 1, 1, 1, 1, 1, 1, 1, 1, 1, 1, 0, 1] (bodyOf Tryd.f14)), .code (subc [1, 1, 1, 1, 1, 1, 1, 1, 1, 1, 1, 1, 1, 1, 1, 1] (bodyOf Tryd.f14))], D := [], base := 0 },
    stk := [],
    H := [.cell true 5 (.arr v3 (.int .u8) v4), .cell true 63 (.agg [1, 1, 1, 1, 1, 1] [.junk, .junk, (.fsl (.int .u8) v5), (.int .i64 v6), (.int .i64 v7), (.int .i64 v8)])] }
  | .h16 v1 v2 v3 v4 v5 v6 =>
  { fr := { id := 14, kind := .top, T := [.any, .any, (.osl 0 [] 1 0 v1 none)] ++ List.replicate 10 .any ++ [(.int .i64 v2)] ++ List.replicate 111 .any ++ [(.int .i64 v3), (.int .i64 v4)] ++ List.replicate 12 .any, items := [.lp (subc [1, 1, 1, 1, 1, 1, 1, 1, 1, 1, 1, 1, 1, 1, 1, 0, 1, 0, 0] (bodyOf Tryd.f14)), .blk 1, .code (subc [1, 1, 1, 1, 1, 1, 1, 1, 1, 1, 1, 1, 1, 1, 1, 1] (bodyOf Tryd.f14))], D := [], base := 0 },
    stk := [],
    H := [.cell true 5 (.arr v5 (.int .u8) v6)] }
  | .h17 v1 v2 v3 v4 v5 v6 =>
  { fr := { id := 14, kind := .top, T := [.any, .any, (.osl 0 [] 1 0 v1 none)] ++ List.replicate 10 .any ++ [(.int .i64 v2)] ++ List.replicate 111 .any ++ [(.int .i64 v3), (.int .i64 v4)] ++ List.replicate 12 .any, items := [.code (subc [1, 1, 1, 1, 1, 1, 1, 1, 1, 1, 1, 1, 1, 1, 1, 0, 1, 0, 0, 1, 1, 0, 0, 0] (bodyOf Tryd.f14)), .code (subc [1, 1, 1, 1, 1, 1, 1, 1, 1, 1, 1, 1, 1, 1, 1, 0, 1, 0, 0, 1, 1, 0, 0, 1] (bodyOf Tryd.f14)), .blk 2, .code (subc [1, 1, 1, 1, 1, 1, 1, 1, 1, 1, 1, 1, 1, 1, 1, 0, 1, 0, 0, 1, 1, 1] (bodyOf Tryd.f14)), .lp (subc [1, 1, 1, 1, 1, 1, 1, 1, 1, 1, 1, 1, 1, 1, 1, 0, 1, 0, 0] (bodyOf Tryd.f14)), .blk 1, .code (subc [1, 1, 1, 1, 1, 1, 1, 1, 1, 1, 1, 1, 1, 1, 1, 1] (bodyOf Tryd.f14))], D := [], base := 0 },
    stk := [],
    H := [.cell true 5 (.arr v5 (.int .u8) v6)] }
  | .h18 v1 v2 v3 =>
  { fr := { id := 14, kind := .top, T := [.any, .any, (.osl 0 [] 1 0 v1 none)] ++ List.replicate 136 .any, items := [.code (subc [1, 1, 1, 1, 1, 1, 1, 1, 1, 1, 1, 1, 1, 1, 1, 1, 0] (bodyOf Tryd.f14)), .code (subc [1, 1, 1, 1, 1, 1, 1, 1, 1, 1, 1, 1, 1, 1, 1, 1, 1] (bodyOf Tryd.f14))], D := [], base := 0 },
    stk := [],
    H := [.cell true 5 (.arr v2 (.int .u8) v3)] }
noncomputable def stop14 : FuncId → Nat → Nat → Option Cut
  | 14, 9, 0 => some { tmps := [1, 2, 4, 5], loops := [], dead := [], stk := [] }
  | 14, 15, 0 => some { tmps := [1, 2, 4, 5, 7, 8], loops := [], dead := [], stk := [] }
  | 14, 23, 0 => some { tmps := [1, 2, 4, 5, 7, 9, 10, 11, 12], loops := [], dead := [], stk := [] }
  | 14, 37, 0 => some { tmps := [1, 2, 4, 5, 9, 10, 11], loops := [], dead := [], stk := [] }
  | 14, 41, 0 => some { tmps := [1, 2, 4, 5, 9, 10, 11], loops := [], dead := [], stk := [] }
  | 14, 45, 0 => some { tmps := [1, 2, 5, 9, 10, 11], loops := [], dead := [], stk := [] }
  | 14, 49, 0 => some { tmps := [1, 2, 5, 9, 10], loops := [], dead := [], stk := [] }
  | 14, 57, 0 => some { tmps := [2, 5, 13], loops := [], dead := [], stk := [] }
  | 14, 2, 0 => some { tmps := [2, 13, 125, 126], loops := [], dead := [], stk := [] }
  | 14, 61, 0 => some { tmps := [2, 13, 125, 126], loops := [], dead := [], stk := [] }
  | 14, 67, 0 => some { tmps := [2], loops := [], dead := [], stk := [] }
  | _, _, _ => none
noncomputable def fn14 (x : DInsn) : ((List Int) × Int) := endVal (TC.dflt (.st (.slice (.int .u8)) (.st1 (.int .i64)))) (step14 x) (tree14 x)
def pre14 (x : DInsn) : Prop := ∃ r, Ends (step14 x) r (tree14 x)
noncomputable def spec14 : Spec := { dom := (.st1 CInsn), cod := (.st (.slice (.int .u8)) (.st1 (.int .i64))), n := 2, pre := pre14, f := fn14 }
noncomputable def need14 : FuncId → Option Spec
  | 36 => some spec36
  | 37 => some spec37
  | 38 => some spec38
  | 39 => some spec39
  | 40 => some spec40
  | 41 => some spec41
  | _ => none
theorem need14_ok : ∀ f sp, need14 f = some sp → SpecOk env0 f sp := by
  intro f sp h
  unfold need14 at h
  split at h
  · cases h; exact ok36
  · cases h; exact ok37
  · cases h; exact ok38
  · cases h; exact ok39
  · cases h; exact ok40
  · cases h; exact ok41
  · cases h
theorem run14 (W : Cfg) (Q : ((List Int) × Int) → Prop) (x : DInsn) : run (env need14 (fun _ _ => none)) stop14 (finS spec14 Q) W 100000 (startFr 14 Tryd.f14 (bodyOf Tryd.f14) (argsOf (.st1 CInsn) x)) [] [] = (tree14 x).wp (kont W Q (head14 x)) := by kernel_rfl
theorem run14h0 (W : Cfg) (Q : ((List Int) × Int) → Prop) (x : DInsn) (v21 : (List Int)) (v22 : Int) (v23 : (List Int)) (v24 : Int) (v25 : Int) (v26 : Int) : run (env need14 (fun _ _ => none)) stop14 (finS spec14 Q) W 100000 (head14 x (.h0 v21 v22 v23 v24 v25 v26)).fr.enter (head14 x (.h0 v21 v22 v23 v24 v25 v26)).stk (head14 x (.h0 v21 v22 v23 v24 v25 v26)).H = (step14 x (.h0 v21 v22 v23 v24 v25 v26)).wp (kont W Q (head14 x)) := by kernel_rfl
theorem run14h1 (W : Cfg) (Q : ((List Int) × Int) → Prop) (x : DInsn) (v21 : (List Int)) (v22 : Int) (v23 : (List Int)) (v24 : Int) (v25 : Int) (v26 : Int) (v27 : DOperand) (v35 : DOperand) : run (env need14 (fun _ _ => none)) stop14 (finS spec14 Q) W 100000 (head14 x (.h1 v21 v22 v23 v24 v25 v26 v27 v35)).fr.enter (head14 x (.h1 v21 v22 v23 v24 v25 v26 v27 v35)).stk (head14 x (.h1 v21 v22 v23 v24 v25 v26 v27 v35)).H = (step14 x (.h1 v21 v22 v23 v24 v25 v26 v27 v35)).wp (kont W Q (head14 x)) := by kernel_rfl
theorem run14h2 (W : Cfg) (Q : ((List Int) × Int) → Prop) (x : DInsn) (v1 : Nat) (v3 : Int) (v25 : (List Int)) (v26 : Int) (v27 : (List Int)) (v28 : Int) (v29 : Int) (v30 : Int) (v31 : DOperand) (v39 : Nat) (v40 : (List Int)) : run (env need14 (fun _ _ => none)) stop14 (finS spec14 Q) W 100000 (head14 x (.h2 v1 v3 v25 v26 v27 v28 v29 v30 v31 v39 v40)).fr.enter (head14 x (.h2 v1 v3 v25 v26 v27 v28 v29 v30 v31 v39 v40)).stk (head14 x (.h2 v1 v3 v25 v26 v27 v28 v29 v30 v31 v39 v40)).H = (step14 x (.h2 v1 v3 v25 v26 v27 v28 v29 v30 v31 v39 v40)).wp (kont W Q (head14 x)) := by kernel_rfl
theorem run14h3 (W : Cfg) (Q : ((List Int) × Int) → Prop) (x : DInsn) (v0 : (List Int)) (v2 : Nat) (v3 : Int) (v25 : (List Int)) (v26 : Int) (v27 : (List Int)) (v28 : Int) (v29 : Int) (v30 : Int) (v31 : Nat) (v32 : (List Int)) : run (env need14 (fun _ _ => none)) stop14 (finS spec14 Q) W 100000 (head14 x (.h3 v0 v2 v3 v25 v26 v27 v28 v29 v30 v31 v32)).fr.enter (head14 x (.h3 v0 v2 v3 v25 v26 v27 v28 v29 v30 v31 v32)).stk (head14 x (.h3 v0 v2 v3 v25 v26 v27 v28 v29 v30 v31 v32)).H = (step14 x (.h3 v0 v2 v3 v25 v26 v27 v28 v29 v30 v31 v32)).wp (kont W Q (head14 x)) := by kernel_rfl
theorem run14h4 (W : Cfg) (Q : ((List Int) × Int) → Prop) (x : DInsn) (v1 : Nat) (v2 : Int) (v24 : (List Int)) (v25 : Int) (v26 : (List Int)) (v27 : Int) (v28 : Int) (v29 : Int) (v30 : Nat) (v31 : (List Int)) : run (env need14 (fun _ _ => none)) stop14 (finS spec14 Q) W 100000 (head14 x (.h4 v1 v2 v24 v25 v26 v27 v28 v29 v30 v31)).fr.enter (head14 x (.h4 v1 v2 v24 v25 v26 v27 v28 v29 v30 v31)).stk (head14 x (.h4 v1 v2 v24 v25 v26 v27 v28 v29 v30 v31)).H = (step14 x (.h4 v1 v2 v24 v25 v26 v27 v28 v29 v30 v31)).wp (kont W Q (head14 x)) := by kernel_rfl
theorem run14h5 (W : Cfg) (Q : ((List Int) × Int) → Prop) (x : DInsn) (v0 : (List Int)) (v2 : Nat) (v3 : Int) (v25 : (List Int)) (v26 : Int) (v27 : (List Int)) (v28 : Int) (v29 : Int) (v30 : Int) (v31 : Nat) (v32 : (List Int)) : run (env need14 (fun _ _ => none)) stop14 (finS spec14 Q) W 100000 (head14 x (.h5 v0 v2 v3 v25 v26 v27 v28 v29 v30 v31 v32)).fr.enter (head14 x (.h5 v0 v2 v3 v25 v26 v27 v28 v29 v30 v31 v32)).stk (head14 x (.h5 v0 v2 v3 v25 v26 v27 v28 v29 v30 v31 v32)).H = (step14 x (.h5 v0 v2 v3 v25 v26 v27 v28 v29 v30 v31 v32)).wp (kont W Q (head14 x)) := by kernel_rfl
theorem run14h6 (W : Cfg) (Q : ((List Int) × Int) → Prop) (x : DInsn) (v1 : Nat) (v2 : Int) (v24 : (List Int)) (v25 : Int) (v26 : (List Int)) (v27 : Int) (v28 : Int) (v29 : Int) (v30 : Nat) (v31 : (List Int)) : run (env need14 (fun _ _ => none)) stop14 (finS spec14 Q) W 100000 (head14 x (.h6 v1 v2 v24 v25 v26 v27 v28 v29 v30 v31)).fr.enter (head14 x (.h6 v1 v2 v24 v25 v26 v27 v28 v29 v30 v31)).stk (head14 x (.h6 v1 v2 v24 v25 v26 v27 v28 v29 v30 v31)).H = (step14 x (.h6 v1 v2 v24 v25 v26 v27 v28 v29 v30 v31)).wp (kont W Q (head14 x)) := by kernel_rfl
theorem run14h7 (W : Cfg) (Q : ((List Int) × Int) → Prop) (x : DInsn) (v2 : (List Int)) (v4 : Nat) (v5 : Int) (v28 : (List Int)) (v29 : (List Int)) (v30 : Int) (v31 : Int) (v32 : Int) (v33 : Nat) (v34 : (List Int)) : run (env need14 (fun _ _ => none)) stop14 (finS spec14 Q) W 100000 (head14 x (.h7 v2 v4 v5 v28 v29 v30 v31 v32 v33 v34)).fr.enter (head14 x (.h7 v2 v4 v5 v28 v29 v30 v31 v32 v33 v34)).stk (head14 x (.h7 v2 v4 v5 v28 v29 v30 v31 v32 v33 v34)).H = (step14 x (.h7 v2 v4 v5 v28 v29 v30 v31 v32 v33 v34)).wp (kont W Q (head14 x)) := by kernel_rfl
theorem run14h8 (W : Cfg) (Q : ((List Int) × Int) → Prop) (x : DInsn) (v0 : (List Int)) (v2 : Nat) (v3 : Int) (v25 : (List Int)) (v26 : Int) (v27 : Int) (v28 : Int) (v29 : Nat) (v30 : (List Int)) : run (env need14 (fun _ _ => none)) stop14 (finS spec14 Q) W 100000 (head14 x (.h8 v0 v2 v3 v25 v26 v27 v28 v29 v30)).fr.enter (head14 x (.h8 v0 v2 v3 v25 v26 v27 v28 v29 v30)).stk (head14 x (.h8 v0 v2 v3 v25 v26 v27 v28 v29 v30)).H = (step14 x (.h8 v0 v2 v3 v25 v26 v27 v28 v29 v30)).wp (kont W Q (head14 x)) := by kernel_rfl
theorem run14h9 (W : Cfg) (Q : ((List Int) × Int) → Prop) (x : DInsn) (v3 : Nat) (v4 : Int) (v27 : (List Int)) (v28 : (List Int)) (v29 : Int) (v30 : Int) (v31 : Int) (v32 : Nat) (v33 : (List Int)) : run (env need14 (fun _ _ => none)) stop14 (finS spec14 Q) W 100000 (head14 x (.h9 v3 v4 v27 v28 v29 v30 v31 v32 v33)).fr.enter (head14 x (.h9 v3 v4 v27 v28 v29 v30 v31 v32 v33)).stk (head14 x (.h9 v3 v4 v27 v28 v29 v30 v31 v32 v33)).H = (step14 x (.h9 v3 v4 v27 v28 v29 v30 v31 v32 v33)).wp (kont W Q (head14 x)) := by kernel_rfl
theorem run14h10 (W : Cfg) (Q : ((List Int) × Int) → Prop) (x : DInsn) (v1 : Nat) (v2 : Int) (v24 : (List Int)) (v25 : Int) (v26 : Int) (v27 : Int) (v28 : Nat) (v29 : (List Int)) : run (env need14 (fun _ _ => none)) stop14 (finS spec14 Q) W 100000 (head14 x (.h10 v1 v2 v24 v25 v26 v27 v28 v29)).fr.enter (head14 x (.h10 v1 v2 v24 v25 v26 v27 v28 v29)).stk (head14 x (.h10 v1 v2 v24 v25 v26 v27 v28 v29)).H = (step14 x (.h10 v1 v2 v24 v25 v26 v27 v28 v29)).wp (kont W Q (head14 x)) := by kernel_rfl
theorem run14h11 (W : Cfg) (Q : ((List Int) × Int) → Prop) (x : DInsn) (v1 : Nat) (v2 : (List Int)) (v4 : Nat) (v26 : Nat) (v27 : (List Int)) (v28 : (List Int)) (v29 : Int) (v30 : Int) (v31 : Int) (v32 : Nat) (v33 : (List Int)) : run (env need14 (fun _ _ => none)) stop14 (finS spec14 Q) W 100000 (head14 x (.h11 v1 v2 v4 v26 v27 v28 v29 v30 v31 v32 v33)).fr.enter (head14 x (.h11 v1 v2 v4 v26 v27 v28 v29 v30 v31 v32 v33)).stk (head14 x (.h11 v1 v2 v4 v26 v27 v28 v29 v30 v31 v32 v33)).H = (step14 x (.h11 v1 v2 v4 v26 v27 v28 v29 v30 v31 v32 v33)).wp (kont W Q (head14 x)) := by kernel_rfl
theorem run14h12 (W : Cfg) (Q : ((List Int) × Int) → Prop) (x : DInsn) (v0 : (List Int)) (v2 : Nat) (v24 : (List Int)) (v25 : Int) (v26 : Int) (v27 : Int) (v28 : Nat) (v29 : (List Int)) : run (env need14 (fun _ _ => none)) stop14 (finS spec14 Q) W 100000 (head14 x (.h12 v0 v2 v24 v25 v26 v27 v28 v29)).fr.enter (head14 x (.h12 v0 v2 v24 v25 v26 v27 v28 v29)).stk (head14 x (.h12 v0 v2 v24 v25 v26 v27 v28 v29)).H = (step14 x (.h12 v0 v2 v24 v25 v26 v27 v28 v29)).wp (kont W Q (head14 x)) := by kernel_rfl
theorem run14h13 (W : Cfg) (Q : ((List Int) × Int) → Prop) (x : DInsn) (v1 : Nat) (v3 : Nat) (v25 : Nat) (v26 : (List Int)) (v27 : (List Int)) (v28 : Int) (v29 : Int) (v30 : Int) (v31 : Nat) (v32 : (List Int)) : run (env need14 (fun _ _ => none)) stop14 (finS spec14 Q) W 100000 (head14 x (.h13 v1 v3 v25 v26 v27 v28 v29 v30 v31 v32)).fr.enter (head14 x (.h13 v1 v3 v25 v26 v27 v28 v29 v30 v31 v32)).stk (head14 x (.h13 v1 v3 v25 v26 v27 v28 v29 v30 v31 v32)).H = (step14 x (.h13 v1 v3 v25 v26 v27 v28 v29 v30 v31 v32)).wp (kont W Q (head14 x)) := by kernel_rfl
theorem run14h14 (W : Cfg) (Q : ((List Int) × Int) → Prop) (x : DInsn) (v1 : Nat) (v23 : (List Int)) (v24 : Int) (v25 : Int) (v26 : Int) (v27 : Nat) (v28 : (List Int)) : run (env need14 (fun _ _ => none)) stop14 (finS spec14 Q) W 100000 (head14 x (.h14 v1 v23 v24 v25 v26 v27 v28)).fr.enter (head14 x (.h14 v1 v23 v24 v25 v26 v27 v28)).stk (head14 x (.h14 v1 v23 v24 v25 v26 v27 v28)).H = (step14 x (.h14 v1 v23 v24 v25 v26 v27 v28)).wp (kont W Q (head14 x)) := by kernel_rfl
theorem run14h15 (W : Cfg) (Q : ((List Int) × Int) → Prop) (x : DInsn) (v1 : Nat) (v2 : Int) (v3 : Nat) (v4 : (List Int)) (v5 : (List Int)) (v6 : Int) (v7 : Int) (v8 : Int) : run (env need14 (fun _ _ => none)) stop14 (finS spec14 Q) W 100000 (head14 x (.h15 v1 v2 v3 v4 v5 v6 v7 v8)).fr.enter (head14 x (.h15 v1 v2 v3 v4 v5 v6 v7 v8)).stk (head14 x (.h15 v1 v2 v3 v4 v5 v6 v7 v8)).H = (step14 x (.h15 v1 v2 v3 v4 v5 v6 v7 v8)).wp (kont W Q (head14 x)) := by kernel_rfl
theorem run14h16 (W : Cfg) (Q : ((List Int) × Int) → Prop) (x : DInsn) (v1 : Nat) (v2 : Int) (v3 : Int) (v4 : Int) (v5 : Nat) (v6 : (List Int)) : run (env need14 (fun _ _ => none)) stop14 (finS spec14 Q) W 100000 (head14 x (.h16 v1 v2 v3 v4 v5 v6)).fr.enter (head14 x (.h16 v1 v2 v3 v4 v5 v6)).stk (head14 x (.h16 v1 v2 v3 v4 v5 v6)).H = (step14 x (.h16 v1 v2 v3 v4 v5 v6)).wp (kont W Q (head14 x)) := by kernel_rfl
theorem run14h17 (W : Cfg) (Q : ((List Int) × Int) → Prop) (x : DInsn) (v1 : Nat) (v2 : Int) (v3 : Int) (v4 : Int) (v5 : Nat) (v6 : (List Int)) : run (env need14 (fun _ _ => none)) stop14 (finS spec14 Q) W 100000 (head14 x (.h17 v1 v2 v3 v4 v5 v6)).fr.enter (head14 x (.h17 v1 v2 v3 v4 v5 v6)).stk (head14 x (.h17 v1 v2 v3 v4 v5 v6)).H = (step14 x (.h17 v1 v2 v3 v4 v5 v6)).wp (kont W Q (head14 x)) := by kernel_rfl
theorem run14h18 (W : Cfg) (Q : ((List Int) × Int) → Prop) (x : DInsn) (v1 : Nat) (v2 : Nat) (v3 : (List Int)) : run (env need14 (fun _ _ => none)) stop14 (finS spec14 Q) W 100000 (head14 x (.h18 v1 v2 v3)).fr.enter (head14 x (.h18 v1 v2 v3)).stk (head14 x (.h18 v1 v2 v3)).H = (step14 x (.h18 v1 v2 v3)).wp (kont W Q (head14 x)) := by kernel_rfl
theorem runs14 (W : Cfg) (Q : ((List Int) × Int) → Prop) (x : DInsn) : ∀ j : J14, run (env need14 (fun _ _ => none)) stop14 (finS spec14 Q) W 100000 (head14 x j).fr.enter (head14 x j).stk (head14 x j).H = (step14 x j).wp (kont W Q (head14 x))
  | .h0 v21 v22 v23 v24 v25 v26 => run14h0 W Q x v21 v22 v23 v24 v25 v26
  | .h1 v21 v22 v23 v24 v25 v26 v27 v35 => run14h1 W Q x v21 v22 v23 v24 v25 v26 v27 v35
  | .h2 v1 v3 v25 v26 v27 v28 v29 v30 v31 v39 v40 => run14h2 W Q x v1 v3 v25 v26 v27 v28 v29 v30 v31 v39 v40
  | .h3 v0 v2 v3 v25 v26 v27 v28 v29 v30 v31 v32 => run14h3 W Q x v0 v2 v3 v25 v26 v27 v28 v29 v30 v31 v32
  | .h4 v1 v2 v24 v25 v26 v27 v28 v29 v30 v31 => run14h4 W Q x v1 v2 v24 v25 v26 v27 v28 v29 v30 v31
  | .h5 v0 v2 v3 v25 v26 v27 v28 v29 v30 v31 v32 => run14h5 W Q x v0 v2 v3 v25 v26 v27 v28 v29 v30 v31 v32
  | .h6 v1 v2 v24 v25 v26 v27 v28 v29 v30 v31 => run14h6 W Q x v1 v2 v24 v25 v26 v27 v28 v29 v30 v31
  | .h7 v2 v4 v5 v28 v29 v30 v31 v32 v33 v34 => run14h7 W Q x v2 v4 v5 v28 v29 v30 v31 v32 v33 v34
  | .h8 v0 v2 v3 v25 v26 v27 v28 v29 v30 => run14h8 W Q x v0 v2 v3 v25 v26 v27 v28 v29 v30
  | .h9 v3 v4 v27 v28 v29 v30 v31 v32 v33 => run14h9 W Q x v3 v4 v27 v28 v29 v30 v31 v32 v33
  | .h10 v1 v2 v24 v25 v26 v27 v28 v29 => run14h10 W Q x v1 v2 v24 v25 v26 v27 v28 v29
  | .h11 v1 v2 v4 v26 v27 v28 v29 v30 v31 v32 v33 => run14h11 W Q x v1 v2 v4 v26 v27 v28 v29 v30 v31 v32 v33
  | .h12 v0 v2 v24 v25 v26 v27 v28 v29 => run14h12 W Q x v0 v2 v24 v25 v26 v27 v28 v29
  | .h13 v1 v3 v25 v26 v27 v28 v29 v30 v31 v32 => run14h13 W Q x v1 v3 v25 v26 v27 v28 v29 v30 v31 v32
  | .h14 v1 v23 v24 v25 v26 v27 v28 => run14h14 W Q x v1 v23 v24 v25 v26 v27 v28
  | .h15 v1 v2 v3 v4 v5 v6 v7 v8 => run14h15 W Q x v1 v2 v3 v4 v5 v6 v7 v8
  | .h16 v1 v2 v3 v4 v5 v6 => run14h16 W Q x v1 v2 v3 v4 v5 v6
  | .h17 v1 v2 v3 v4 v5 v6 => run14h17 W Q x v1 v2 v3 v4 v5 v6
  | .h18 v1 v2 v3 => run14h18 W Q x v1 v2 v3
theorem ok14 : SpecOk env0 14 spec14 := SpecOk.env rfl (fun _ _ h => h) (spec_of_trees (E := (env need14 (fun _ _ => none))) (sp := spec14) (valid _ _) (fun f sp h => SpecOk.env rfl (fun _ _ h => h) (need14_ok f sp h)) (fn := Tryd.f14) (c := (bodyOf Tryd.f14)) (by kernel_rfl) (by kernel_rfl) tree14 step14 head14 run14 runs14 (fun _ h => endVal_ends h))

/-! ### sundial/encode.Code -/
inductive J16 where
  | h0 (v1 : Int) (v2 : Int)
  | h1 (v1 : Nat) (v3 : Int) (v4 : Int) (v5 : Nat) (v6 : (List Int))
noncomputable def tree16 (x : (List DInsn)) : Tr (J16 ⊕ ((List Int) × Int)) :=
  .ret (.inl (.h0 (x.length : Int) 0))
noncomputable def step16 (x : (List DInsn)) : J16 → Tr (J16 ⊕ ((List Int) × Int))
  | .h0 v1 v2 =>
  .ite (ilt v2 v1) (
  .need ((0 : Int) ≤ v2) <|
  .need (v2 < (x.length : Int)) <|
  let y0 : DInsn := (rdc CInsn x (v2).toNat)
  .need (pre14 y0) <|
  let y1 : ((List Int) × Int) := (fn14 y0)
  let y2 : Int := y1.2
  .ite (ine y2 0) (
  .ret (.inr (([] : List Int), y2))) (
  let y3 : (List Int) := y1.1
  let y4 : Nat := y3.length
  .ite (ieq (y4 : Int) 0) (
  let y5 : Int := (iadd .i64 v2 1)
  .ret (.inl (.h0 v1 y5))) (
  .need (((y4 : Nat) * 1 : Nat) ≤ 2 ^ 40) <|
  .need ((y4 : Nat) ≤ 2 ^ 40) <|
  let y6 : Int := (iadd .i64 v2 1)
  .ret (.inl (.h1 y4 v1 y6 y4 y3))))) (
  .ret (.inr (([] : List Int), 0)))
  | .h1 v1 v3 v4 v5 v6 =>
  .ite (ilt v4 v3) (
  .need ((0 : Int) ≤ v4) <|
  .need (v4 < (x.length : Int)) <|
  let y0 : DInsn := (rdc CInsn x (v4).toNat)
  .need (pre14 y0) <|
  let y1 : ((List Int) × Int) := (fn14 y0)
  let y2 : Int := y1.2
  .ite (ine y2 0) (
  .ret (.inr (([] : List Int), y2))) (
  .need ((v1 : Nat) = v5) <|
  let y3 : (List Int) := y1.1
  let y4 : Nat := (v1 + y3.length)
  .need (((y4 : Nat) * 1 : Nat) ≤ 2 ^ 40) <|
  .need ((y4 : Nat) ≤ 2 ^ 40) <|
  .ret (.inl (.h1 y4 v3 (iadd .i64 v4 1) y4 (v6 ++ y3))))) (
  .need (((0 : Nat) + v1 : Nat) ≤ v5) <|
  .ret (.inr ((v6.take v1), 0)))
noncomputable def head16 (x : (List DInsn)) : J16 → Head
  | .h0 v1 v2 =>
  { fr := { id := 16, kind := .top, T := [.any, .any, (.raw (.slice none 0 0))] ++ List.replicate 5 .any ++ [(.fsl CInsn x), (.int .i64 v1), (.int .i64 v2)] ++ List.replicate 16 .any, items := [.lp (subc [1, 0, 1, 0, 0] (bodyOf Tryd.f16)), .blk 0, .code (subc [1, 1] (bodyOf Tryd.f16))], D := [], base := 0 },
    stk := [],
    H := [] }
  | .h1 v1 v3 v4 v5 v6 =>
  { fr := { id := 16, kind := .top, T := [.any, .any, (.osl 0 [] 1 0 v1 none)] ++ List.replicate 5 .any ++ [(.fsl CInsn x), (.int .i64 v3), (.int .i64 v4)] ++ List.replicate 16 .any, items := [.lp (subc [1, 0, 1, 0, 0] (bodyOf Tryd.f16)), .blk 0, .code (subc [1, 1] (bodyOf Tryd.f16))], D := [], base := 0 },
    stk := [],
    H := [.cell true 5 (.arr v5 (.int .u8) v6)] }
noncomputable def stop16 : FuncId → Nat → Nat → Option Cut
  | 16, 0, 0 => some { tmps := [2, 8, 9, 10], loops := [], dead := [], stk := [] }
  | _, _, _ => none
noncomputable def fn16 (x : (List DInsn)) : ((List Int) × Int) := endVal (TC.dflt (.st (.slice (.int .u8)) (.st1 (.int .i64)))) (step16 x) (tree16 x)
def pre16 (x : (List DInsn)) : Prop := ∃ r, Ends (step16 x) r (tree16 x)
noncomputable def spec16 : Spec := { dom := (.st1 (.slice CInsn)), cod := (.st (.slice (.int .u8)) (.st1 (.int .i64))), n := 2, pre := pre16, f := fn16 }
noncomputable def need16 : FuncId → Option Spec
  | 14 => some spec14
  | _ => none
theorem need16_ok : ∀ f sp, need16 f = some sp → SpecOk env0 f sp := by
  intro f sp h
  unfold need16 at h
  split at h
  · cases h; exact ok14
  · cases h
theorem run16 (W : Cfg) (Q : ((List Int) × Int) → Prop) (x : (List DInsn)) : run (env need16 (fun _ _ => none)) stop16 (finS spec16 Q) W 100000 (startFr 16 Tryd.f16 (bodyOf Tryd.f16) (argsOf (.st1 (.slice CInsn)) x)) [] [] = (tree16 x).wp (kont W Q (head16 x)) := by kernel_rfl
theorem run16h0 (W : Cfg) (Q : ((List Int) × Int) → Prop) (x : (List DInsn)) (v1 : Int) (v2 : Int) : run (env need16 (fun _ _ => none)) stop16 (finS spec16 Q) W 100000 (head16 x (.h0 v1 v2)).fr.enter (head16 x (.h0 v1 v2)).stk (head16 x (.h0 v1 v2)).H = (step16 x (.h0 v1 v2)).wp (kont W Q (head16 x)) := by kernel_rfl
theorem run16h1 (W : Cfg) (Q : ((List Int) × Int) → Prop) (x : (List DInsn)) (v1 : Nat) (v3 : Int) (v4 : Int) (v5 : Nat) (v6 : (List Int)) : run (env need16 (fun _ _ => none)) stop16 (finS spec16 Q) W 100000 (head16 x (.h1 v1 v3 v4 v5 v6)).fr.enter (head16 x (.h1 v1 v3 v4 v5 v6)).stk (head16 x (.h1 v1 v3 v4 v5 v6)).H = (step16 x (.h1 v1 v3 v4 v5 v6)).wp (kont W Q (head16 x)) := by kernel_rfl
theorem runs16 (W : Cfg) (Q : ((List Int) × Int) → Prop) (x : (List DInsn)) : ∀ j : J16, run (env need16 (fun _ _ => none)) stop16 (finS spec16 Q) W 100000 (head16 x j).fr.enter (head16 x j).stk (head16 x j).H = (step16 x j).wp (kont W Q (head16 x))
  | .h0 v1 v2 => run16h0 W Q x v1 v2
  | .h1 v1 v3 v4 v5 v6 => run16h1 W Q x v1 v3 v4 v5 v6
theorem ok16 : SpecOk env0 16 spec16 := SpecOk.env rfl (fun _ _ h => h) (spec_of_trees (E := (env need16 (fun _ _ => none))) (sp := spec16) (valid _ _) (fun f sp h => SpecOk.env rfl (fun _ _ h => h) (need16_ok f sp h)) (fn := Tryd.f16) (c := (bodyOf Tryd.f16)) (by kernel_rfl) (by kernel_rfl) tree16 step16 head16 run16 runs16 (fun _ h => endVal_ends h))

end Go.Eng.RE
end
section
/- Functions of this program, written out. -/
namespace Go.Eng.RE
open Go.Proofs Go.Eng
set_option maxRecDepth 100000

/-! ### sundial/encode.Right -/
noncomputable def tree19 (x : DInsn) : Tr Bool :=
  .need (pre36 x) <|
  .ret (fn36 x).2.2
noncomputable def fn19 (x : DInsn) : Bool := (tree19 x).val
def pre19 (x : DInsn) : Prop := (tree19 x).ok
noncomputable def spec19 : Spec := { dom := (.st1 CInsn), cod := .bool, n := 1, pre := pre19, f := fn19 }
noncomputable def need19 : FuncId → Option Spec
  | 36 => some spec36
  | _ => none
theorem need19_ok : ∀ f sp, need19 f = some sp → SpecOk env0 f sp := by
  intro f sp h
  unfold need19 at h
  split at h
  · cases h; exact ok36
  · cases h
theorem run19 (W : Cfg) (Q : Bool → Prop) (x : DInsn) : run (env need19 (fun _ _ => none)) (fun _ _ _ => none) (finS spec19 Q) W 100000 (startFr 19 Tryd.f19 (bodyOf Tryd.f19) (argsOf (.st1 CInsn) x)) [] [] = (tree19 x).wp Q := by kernel_rfl
theorem ok19 : SpecOk env0 19 spec19 := SpecOk.env rfl (fun _ _ h => h) (spec_of_tree (E := (env need19 (fun _ _ => none))) (sp := spec19) (valid _ _) (fun f sp h => SpecOk.env rfl (fun _ _ h => h) (need19_ok f sp h)) (fn := Tryd.f19) (c := (bodyOf Tryd.f19)) (by kernel_rfl) (by kernel_rfl) tree19 run19 (fun _ h => Tr.gives_val h))

/-! ### sundial/sundialref08.Reg -/
noncomputable def tree35 (x : Int) : Tr DOperand :=
  .ret (1, (x, ((-1), ((-1), (0, (0, (false, 0)))))))
noncomputable def fn35 (x : Int) : DOperand := (tree35 x).val
def pre35 (x : Int) : Prop := (tree35 x).ok
noncomputable def spec35 : Spec := { dom := (.st1 (.int .i64)), cod := COperand, n := 1, pre := pre35, f := fn35 }
noncomputable def need35 : FuncId → Option Spec
  | _ => none
theorem need35_ok : ∀ f sp, need35 f = some sp → SpecOk env0 f sp := by
  intro f sp h
  unfold need35 at h
  split at h
  · cases h
theorem run35 (W : Cfg) (Q : DOperand → Prop) (x : Int) : run (env need35 (fun _ _ => none)) (fun _ _ _ => none) (finS spec35 Q) W 100000 (startFr 35 Tryd.f35 (bodyOf Tryd.f35) (argsOf (.st1 (.int .i64)) x)) [] [] = (tree35 x).wp Q := by kernel_rfl
theorem ok35 : SpecOk env0 35 spec35 := SpecOk.env rfl (fun _ _ h => h) (spec_of_tree (E := (env need35 (fun _ _ => none))) (sp := spec35) (valid _ _) (fun f sp h => SpecOk.env rfl (fun _ _ h => h) (need35_ok f sp h)) (fn := Tryd.f35) (c := (bodyOf Tryd.f35)) (by kernel_rfl) (by kernel_rfl) tree35 run35 (fun _ h => Tr.gives_val h))

/-! ### sundial/sundiallaw10.wakes -/
noncomputable def tree13 (_x : Unit) : Tr Bool :=
  .need (pre35 0) <|
  .need (pre35 1) <|
  let y0 : (Int × Int) := (0, 0)
  let y1 : (Int × (Int × (Int × (DOperand × (DOperand × (Int × Int)))))) := (1, (0, (8, ((fn35 0), ((fn35 1), y0)))))
  .need (pre14 y1) <|
  .need ((0 : Nat) < 2) <|
  .need ((1 : Nat) < 2) <|
  .need (((0 : Nat) + 2 : Nat) ≤ 2) <|
  let y2 : (Int × (Int × (Int × (Int × (Int × (Int × (Bool × Int))))))) := (0, (0, (0, (0, (0, (0, (false, 0)))))))
  let y3 : ((Int × (Int × (Int × (Int × (Int × (Int × (Bool × Int))))))) × ((Int × (Int × (Int × (Int × (Int × (Int × (Bool × Int))))))) × (Int × Int))) := (y2, (y2, y0))
  let y4 : (List DInsn) := [y1, (27, (0, (8, y3)))]
  .need (pre16 y4) <|
  let y5 : (Int × (Int × (Int × ((Int × (Int × (Int × (Int × (Int × (Int × (Bool × Int))))))) × ((Int × (Int × (Int × (Int × (Int × (Int × (Bool × Int))))))) × (Int × Int)))))) := (0, (0, (0, y3)))
  .need (pre14 y5) <|
  let y6 : ((List Int) × Int) := (fn14 y1)
  .ite ((ieq y6.2 0) == true) (
  .ite (((strOfNums y6.1) == (ByteArray.mk #[72, 137, 200])) == true) (
  let y7 : ((List Int) × Int) := (fn16 y4)
  .ite ((ieq y7.2 0) == true) (
  .ite (((strOfNums y7.1) == (ByteArray.mk #[72, 137, 200, 195])) == true) (
  .ite ((ieq (fn14 y5).2 2) == true) (
  .need (pre19 y1) <|
  .ite ((fn19 y1) == true) (
  .need (pre21 (-5)) <|
  .ite ((ieq (fn21 (-5)).2.2.2.2.2.2.2 (-5)) == true) (
  .need (pre23 3) <|
  .ret (ieq (fn23 3).2.1 19)) (
  .ret false)) (
  .ret false)) (
  .ret false)) (
  .ret false)) (
  .ret false)) (
  .ret false)) (
  .ret false)
noncomputable def fn13 (x : Unit) : Bool := (tree13 x).val
def pre13 (x : Unit) : Prop := (tree13 x).ok
noncomputable def spec13 : Spec := { dom := .unit, cod := .bool, n := 1, pre := pre13, f := fn13 }
noncomputable def need13 : FuncId → Option Spec
  | 14 => some spec14
  | 16 => some spec16
  | 19 => some spec19
  | 21 => some spec21
  | 23 => some spec23
  | 35 => some spec35
  | _ => none
theorem need13_ok : ∀ f sp, need13 f = some sp → SpecOk env0 f sp := by
  intro f sp h
  unfold need13 at h
  split at h
  · cases h; exact ok14
  · cases h; exact ok16
  · cases h; exact ok19
  · cases h; exact ok21
  · cases h; exact ok23
  · cases h; exact ok35
  · cases h
theorem run13 (W : Cfg) (Q : Bool → Prop) (x : Unit) : run (env need13 (fun _ _ => none)) (fun _ _ _ => none) (finS spec13 Q) W 100000 (startFr 13 Tryd.f13 (bodyOf Tryd.f13) (argsOf .unit x)) [] [] = (tree13 x).wp Q := by kernel_rfl
theorem ok13 : SpecOk env0 13 spec13 := SpecOk.env rfl (fun _ _ h => h) (spec_of_tree (E := (env need13 (fun _ _ => none))) (sp := spec13) (valid _ _) (fun f sp h => SpecOk.env rfl (fun _ _ h => h) (need13_ok f sp h)) (fn := Tryd.f13) (c := (bodyOf Tryd.f13)) (by kernel_rfl) (by kernel_rfl) tree13 run13 (fun _ h => Tr.gives_val h))

/-! ### sundial/sundialref10.alu -/
inductive J155 where
  | h0 (v1 : Int) (v2 : (List Int))
noncomputable def tree155 (_x : Int) : Tr (J155 ⊕ Int) :=
  .need ((0 : Nat) < 8) <|
  .need ((1 : Nat) < 8) <|
  .need ((2 : Nat) < 8) <|
  .need ((3 : Nat) < 8) <|
  .need ((4 : Nat) < 8) <|
  .need ((5 : Nat) < 8) <|
  .need ((6 : Nat) < 8) <|
  .need ((7 : Nat) < 8) <|
  .ret (.inl (.h0 0 [3, 4, 5, 6, 7, 8, 9, 10]))
noncomputable def step155 (x : Int) : J155 → Tr (J155 ⊕ Int)
  | .h0 v1 v2 =>
  .ite (ilt v1 8) (
  .need ((0 : Int) ≤ v1) <|
  .need ((v1 : Int) < 8) <|
  .need (((v1).toNat : Nat) < 8) <|
  .ite (ieq (rdc (.int .u8) v2 (v1).toNat) x) (
  .ret (.inr v1)) (
  .ret (.inl (.h0 (iadd .i64 v1 1) v2)))) (
  .ret (.inr (-1)))
noncomputable def head155 (x : Int) : J155 → Head
  | .h0 v1 v2 =>
  { fr := { id := 155, kind := .top, T := [(.int .u8 x), .any, .any, (.ptr 0 []), (.int .i64 v1)] ++ List.replicate 11 .any, items := [.lp (subc [1, 1, 0, 1, 0, 0] (bodyOf Tryd.f155)), .blk 0, .code (subc [1, 1, 1] (bodyOf Tryd.f155))], D := [], base := 0 },
    stk := [],
    H := [.cell true 47 (.arr 8 (.int .u8) v2)] }
noncomputable def stop155 : FuncId → Nat → Nat → Option Cut
  | 155, 0, 0 => some { tmps := [0, 3, 4], loops := [], dead := [], stk := [] }
  | _, _, _ => none
noncomputable def fn155 (x : Int) : Int := endVal (TC.dflt (.int .i64)) (step155 x) (tree155 x)
def pre155 (x : Int) : Prop := ∃ r, Ends (step155 x) r (tree155 x)
noncomputable def spec155 : Spec := { dom := (.st1 (.int .u8)), cod := (.int .i64), n := 1, pre := pre155, f := fn155 }
noncomputable def need155 : FuncId → Option Spec
  | _ => none
theorem need155_ok : ∀ f sp, need155 f = some sp → SpecOk env0 f sp := by
  intro f sp h
  unfold need155 at h
  split at h
  · cases h
theorem run155 (W : Cfg) (Q : Int → Prop) (x : Int) : run (env need155 (fun _ _ => none)) stop155 (finS spec155 Q) W 100000 (startFr 155 Tryd.f155 (bodyOf Tryd.f155) (argsOf (.st1 (.int .u8)) x)) [] [] = (tree155 x).wp (kont W Q (head155 x)) := by kernel_rfl
theorem run155h0 (W : Cfg) (Q : Int → Prop) (x : Int) (v1 : Int) (v2 : (List Int)) : run (env need155 (fun _ _ => none)) stop155 (finS spec155 Q) W 100000 (head155 x (.h0 v1 v2)).fr.enter (head155 x (.h0 v1 v2)).stk (head155 x (.h0 v1 v2)).H = (step155 x (.h0 v1 v2)).wp (kont W Q (head155 x)) := by kernel_rfl
theorem runs155 (W : Cfg) (Q : Int → Prop) (x : Int) : ∀ j : J155, run (env need155 (fun _ _ => none)) stop155 (finS spec155 Q) W 100000 (head155 x j).fr.enter (head155 x j).stk (head155 x j).H = (step155 x j).wp (kont W Q (head155 x))
  | .h0 v1 v2 => run155h0 W Q x v1 v2
theorem ok155 : SpecOk env0 155 spec155 := SpecOk.env rfl (fun _ _ h => h) (spec_of_trees (E := (env need155 (fun _ _ => none))) (sp := spec155) (valid _ _) (fun f sp h => SpecOk.env rfl (fun _ _ h => h) (need155_ok f sp h)) (fn := Tryd.f155) (c := (bodyOf Tryd.f155)) (by kernel_rfl) (by kernel_rfl) tree155 step155 head155 run155 runs155 (fun _ h => endVal_ends h))

/-! ### sundial/sundialref10.digit -/
noncomputable def tree156 (x : Int) : Tr Int :=
  .ite (ieq x 12) (
  .ret 0) (
  .ite (ieq x 19) (
  .ret 0) (
  .ite (ieq x 13) (
  .ret 1) (
  .ite (ieq x 20) (
  .ret 1) (
  .ite (ieq x 15) (
  .ret 2) (
  .ite (ieq x 14) (
  .ret 3) (
  .ite (ieq x 22) (
  .ret 4) (
  .ite (ieq x 16) (
  .ret 4) (
  .ite (ieq x 17) (
  .ret 5) (
  .ite (ieq x 23) (
  .ret 6) (
  .ite (ieq x 18) (
  .ret 7) (
  .ret (-1))))))))))))
noncomputable def fn156 (x : Int) : Int := (tree156 x).val
def pre156 (x : Int) : Prop := (tree156 x).ok
noncomputable def spec156 : Spec := { dom := (.st1 (.int .u8)), cod := (.int .i64), n := 1, pre := pre156, f := fn156 }
noncomputable def need156 : FuncId → Option Spec
  | _ => none
theorem need156_ok : ∀ f sp, need156 f = some sp → SpecOk env0 f sp := by
  intro f sp h
  unfold need156 at h
  split at h
  · cases h
theorem run156 (W : Cfg) (Q : Int → Prop) (x : Int) : run (env need156 (fun _ _ => none)) (fun _ _ _ => none) (finS spec156 Q) W 100000 (startFr 156 Tryd.f156 (bodyOf Tryd.f156) (argsOf (.st1 (.int .u8)) x)) [] [] = (tree156 x).wp Q := by kernel_rfl
theorem ok156 : SpecOk env0 156 spec156 := SpecOk.env rfl (fun _ _ h => h) (spec_of_tree (E := (env need156 (fun _ _ => none))) (sp := spec156) (valid _ _) (fun f sp h => SpecOk.env rfl (fun _ _ h => h) (need156_ok f sp h)) (fn := Tryd.f156) (c := (bodyOf Tryd.f156)) (by kernel_rfl) (by kernel_rfl) tree156 run156 (fun _ h => Tr.gives_val h))

/-! ### sundial/sundialref10.plain -/
noncomputable def tree103 (x : Int) : Tr (List Drow) :=
  .need (pre155 x) <|
  .need (pre156 x) <|
  .ite (ieq x 1) (
  .need ((0 : Nat) < 1) <|
  .need ((0 : Nat) < 1) <|
  .need ((0 : Nat) < 1) <|
  .need ((0 : Nat) < 1) <|
  .need ((0 : Nat) < 1) <|
  .need ((0 : Nat) < 1) <|
  .need ((0 : Nat) < 1) <|
  .need (((0 : Nat) + 1 : Nat) ≤ 1) <|
  .need (((0 : Nat) + 1 : Nat) ≤ 1) <|
  .need (((0 : Nat) + 1 : Nat) ≤ 1) <|
  .need (((0 : Nat) + 1 : Nat) ≤ 1) <|
  .need (((0 : Nat) + 1 : Nat) ≤ 1) <|
  .need (((0 : Nat) + 1 : Nat) ≤ 1) <|
  .need (((0 : Nat) + 1 : Nat) ≤ 1) <|
  .need ((0 : Nat) < 7) <|
  .need ((1 : Nat) < 7) <|
  .need ((2 : Nat) < 7) <|
  .need ((3 : Nat) < 7) <|
  .need ((4 : Nat) < 7) <|
  .need ((5 : Nat) < 7) <|
  .need ((6 : Nat) < 7) <|
  .need (((0 : Nat) + 7 : Nat) ≤ 7) <|
  let y0 : (Int × Int) := (1, 0)
  let y1 : (Int × (Int × Int)) := ((-1), y0)
  let y2 : (Int × (Int × Int)) := ((-1), (2, 0))
  let y3 : (Int × Int) := (1, 1)
  let y4 : (Int × Int) := (1, 4)
  let y5 : (Int × (Int × Int)) := (0, y4)
  .ret [(1, ((ByteArray.mk #[114, 109]), ((ByteArray.mk #[114]), (0, ([136], y1))))), (1, ((ByteArray.mk #[114]), ((ByteArray.mk #[109]), (0, ([138], y2))))), (1, ((ByteArray.mk #[114, 109]), ((ByteArray.mk #[105, 56]), (0, ([198], (0, y3)))))), (4, ((ByteArray.mk #[114, 109]), ((ByteArray.mk #[114]), (0, ([137], y1))))), (4, ((ByteArray.mk #[114]), ((ByteArray.mk #[109]), (0, ([139], y2))))), (4, ((ByteArray.mk #[114, 109]), ((ByteArray.mk #[105, 51, 50]), (0, ([199], y5))))), (8, ((ByteArray.mk #[114]), ((ByteArray.mk #[105, 54, 52]), (0, ([184], (0, (3, 8)))))))]) (
  .ite (ieq x 2) (
  .need ((0 : Nat) < 1) <|
  .need (((0 : Nat) + 1 : Nat) ≤ 1) <|
  .need ((0 : Nat) < 1) <|
  .need (((0 : Nat) + 1 : Nat) ≤ 1) <|
  let y6 : (Int × (Int × Int)) := ((-1), (2, 0))
  .ret [(4, ((ByteArray.mk #[114]), ((ByteArray.mk #[109]), (0, ([141], y6)))))]) (
  .ite (ieq x 3) (
  .need ((0 : Nat) < 1) <|
  .need ((0 : Nat) < 1) <|
  .need ((0 : Nat) < 1) <|
  .need ((0 : Nat) < 1) <|
  .need (((0 : Nat) + 1 : Nat) ≤ 1) <|
  .need (((0 : Nat) + 1 : Nat) ≤ 1) <|
  .need (((0 : Nat) + 1 : Nat) ≤ 1) <|
  .need (((0 : Nat) + 1 : Nat) ≤ 1) <|
  .need ((0 : Nat) < 4) <|
  .need ((1 : Nat) < 4) <|
  .need ((2 : Nat) < 4) <|
  .need ((3 : Nat) < 4) <|
  .need (((0 : Nat) + 4 : Nat) ≤ 4) <|
  let y7 : Int := (iconv .u8 (imax (fn155 x) 0))
  let y8 : Int := (imul .u8 8 y7)
  let y9 : (Int × Int) := (1, 0)
  let y10 : (Int × (Int × Int)) := ((-1), y9)
  let y11 : (Int × (Int × Int)) := ((-1), (2, 0))
  let y12 : Int := (iconv .i64 y7)
  let y13 : (Int × Int) := (1, 1)
  let y14 : (Int × Int) := (1, 4)
  let y15 : (List Drow) := [(4, ((ByteArray.mk #[114, 109]), ((ByteArray.mk #[114]), (0, ([(iadd .u8 y8 1)], y10))))), (4, ((ByteArray.mk #[114]), ((ByteArray.mk #[109]), (0, ([(iadd .u8 y8 3)], y11))))), (4, ((ByteArray.mk #[114, 109]), ((ByteArray.mk #[105, 56]), (0, ([131], (y12, y13)))))), (4, ((ByteArray.mk #[114, 109]), ((ByteArray.mk #[105, 51, 50]), (0, ([129], (y12, y14))))))]
  .ret y15) (
  .ite (ieq x 4) (
  .need ((0 : Nat) < 1) <|
  .need ((0 : Nat) < 1) <|
  .need ((0 : Nat) < 1) <|
  .need ((0 : Nat) < 1) <|
  .need (((0 : Nat) + 1 : Nat) ≤ 1) <|
  .need (((0 : Nat) + 1 : Nat) ≤ 1) <|
  .need (((0 : Nat) + 1 : Nat) ≤ 1) <|
  .need (((0 : Nat) + 1 : Nat) ≤ 1) <|
  .need ((0 : Nat) < 4) <|
  .need ((1 : Nat) < 4) <|
  .need ((2 : Nat) < 4) <|
  .need ((3 : Nat) < 4) <|
  .need (((0 : Nat) + 4 : Nat) ≤ 4) <|
  let y16 : Int := (iconv .u8 (imax (fn155 x) 0))
  let y17 : Int := (imul .u8 8 y16)
  let y18 : (Int × Int) := (1, 0)
  let y19 : (Int × (Int × Int)) := ((-1), y18)
  let y20 : (Int × (Int × Int)) := ((-1), (2, 0))
  let y21 : Int := (iconv .i64 y16)
  let y22 : (Int × Int) := (1, 1)
  let y23 : (Int × Int) := (1, 4)
  let y24 : (List Drow) := [(4, ((ByteArray.mk #[114, 109]), ((ByteArray.mk #[114]), (0, ([(iadd .u8 y17 1)], y19))))), (4, ((ByteArray.mk #[114]), ((ByteArray.mk #[109]), (0, ([(iadd .u8 y17 3)], y20))))), (4, ((ByteArray.mk #[114, 109]), ((ByteArray.mk #[105, 56]), (0, ([131], (y21, y22)))))), (4, ((ByteArray.mk #[114, 109]), ((ByteArray.mk #[105, 51, 50]), (0, ([129], (y21, y23))))))]
  .ret y24) (
  .ite (ieq x 5) (
  .need ((0 : Nat) < 1) <|
  .need ((0 : Nat) < 1) <|
  .need ((0 : Nat) < 1) <|
  .need ((0 : Nat) < 1) <|
  .need (((0 : Nat) + 1 : Nat) ≤ 1) <|
  .need (((0 : Nat) + 1 : Nat) ≤ 1) <|
  .need (((0 : Nat) + 1 : Nat) ≤ 1) <|
  .need (((0 : Nat) + 1 : Nat) ≤ 1) <|
  .need ((0 : Nat) < 4) <|
  .need ((1 : Nat) < 4) <|
  .need ((2 : Nat) < 4) <|
  .need ((3 : Nat) < 4) <|
  .need (((0 : Nat) + 4 : Nat) ≤ 4) <|
  let y25 : Int := (iconv .u8 (imax (fn155 x) 0))
  let y26 : Int := (imul .u8 8 y25)
  let y27 : (Int × Int) := (1, 0)
  let y28 : (Int × (Int × Int)) := ((-1), y27)
  let y29 : (Int × (Int × Int)) := ((-1), (2, 0))
  let y30 : Int := (iconv .i64 y25)
  let y31 : (Int × Int) := (1, 1)
  let y32 : (Int × Int) := (1, 4)
  let y33 : (List Drow) := [(4, ((ByteArray.mk #[114, 109]), ((ByteArray.mk #[114]), (0, ([(iadd .u8 y26 1)], y28))))), (4, ((ByteArray.mk #[114]), ((ByteArray.mk #[109]), (0, ([(iadd .u8 y26 3)], y29))))), (4, ((ByteArray.mk #[114, 109]), ((ByteArray.mk #[105, 56]), (0, ([131], (y30, y31)))))), (4, ((ByteArray.mk #[114, 109]), ((ByteArray.mk #[105, 51, 50]), (0, ([129], (y30, y32))))))]
  .ret y33) (
  .ite (ieq x 6) (
  .need ((0 : Nat) < 1) <|
  .need ((0 : Nat) < 1) <|
  .need ((0 : Nat) < 1) <|
  .need ((0 : Nat) < 1) <|
  .need (((0 : Nat) + 1 : Nat) ≤ 1) <|
  .need (((0 : Nat) + 1 : Nat) ≤ 1) <|
  .need (((0 : Nat) + 1 : Nat) ≤ 1) <|
  .need (((0 : Nat) + 1 : Nat) ≤ 1) <|
  .need ((0 : Nat) < 4) <|
  .need ((1 : Nat) < 4) <|
  .need ((2 : Nat) < 4) <|
  .need ((3 : Nat) < 4) <|
  .need (((0 : Nat) + 4 : Nat) ≤ 4) <|
  let y34 : Int := (iconv .u8 (imax (fn155 x) 0))
  let y35 : Int := (imul .u8 8 y34)
  let y36 : (Int × Int) := (1, 0)
  let y37 : (Int × (Int × Int)) := ((-1), y36)
  let y38 : (Int × (Int × Int)) := ((-1), (2, 0))
  let y39 : Int := (iconv .i64 y34)
  let y40 : (Int × Int) := (1, 1)
  let y41 : (Int × Int) := (1, 4)
  let y42 : (List Drow) := [(4, ((ByteArray.mk #[114, 109]), ((ByteArray.mk #[114]), (0, ([(iadd .u8 y35 1)], y37))))), (4, ((ByteArray.mk #[114]), ((ByteArray.mk #[109]), (0, ([(iadd .u8 y35 3)], y38))))), (4, ((ByteArray.mk #[114, 109]), ((ByteArray.mk #[105, 56]), (0, ([131], (y39, y40)))))), (4, ((ByteArray.mk #[114, 109]), ((ByteArray.mk #[105, 51, 50]), (0, ([129], (y39, y41))))))]
  .ret y42) (
  .ite (ieq x 7) (
  .need ((0 : Nat) < 1) <|
  .need ((0 : Nat) < 1) <|
  .need ((0 : Nat) < 1) <|
  .need ((0 : Nat) < 1) <|
  .need (((0 : Nat) + 1 : Nat) ≤ 1) <|
  .need (((0 : Nat) + 1 : Nat) ≤ 1) <|
  .need (((0 : Nat) + 1 : Nat) ≤ 1) <|
  .need (((0 : Nat) + 1 : Nat) ≤ 1) <|
  .need ((0 : Nat) < 4) <|
  .need ((1 : Nat) < 4) <|
  .need ((2 : Nat) < 4) <|
  .need ((3 : Nat) < 4) <|
  .need (((0 : Nat) + 4 : Nat) ≤ 4) <|
  let y43 : Int := (iconv .u8 (imax (fn155 x) 0))
  let y44 : Int := (imul .u8 8 y43)
  let y45 : (Int × Int) := (1, 0)
  let y46 : (Int × (Int × Int)) := ((-1), y45)
  let y47 : (Int × (Int × Int)) := ((-1), (2, 0))
  let y48 : Int := (iconv .i64 y43)
  let y49 : (Int × Int) := (1, 1)
  let y50 : (Int × Int) := (1, 4)
  let y51 : (List Drow) := [(4, ((ByteArray.mk #[114, 109]), ((ByteArray.mk #[114]), (0, ([(iadd .u8 y44 1)], y46))))), (4, ((ByteArray.mk #[114]), ((ByteArray.mk #[109]), (0, ([(iadd .u8 y44 3)], y47))))), (4, ((ByteArray.mk #[114, 109]), ((ByteArray.mk #[105, 56]), (0, ([131], (y48, y49)))))), (4, ((ByteArray.mk #[114, 109]), ((ByteArray.mk #[105, 51, 50]), (0, ([129], (y48, y50))))))]
  .ret y51) (
  .ite (ieq x 8) (
  .need ((0 : Nat) < 1) <|
  .need ((0 : Nat) < 1) <|
  .need ((0 : Nat) < 1) <|
  .need ((0 : Nat) < 1) <|
  .need (((0 : Nat) + 1 : Nat) ≤ 1) <|
  .need (((0 : Nat) + 1 : Nat) ≤ 1) <|
  .need (((0 : Nat) + 1 : Nat) ≤ 1) <|
  .need (((0 : Nat) + 1 : Nat) ≤ 1) <|
  .need ((0 : Nat) < 4) <|
  .need ((1 : Nat) < 4) <|
  .need ((2 : Nat) < 4) <|
  .need ((3 : Nat) < 4) <|
  .need (((0 : Nat) + 4 : Nat) ≤ 4) <|
  let y52 : Int := (iconv .u8 (imax (fn155 x) 0))
  let y53 : Int := (imul .u8 8 y52)
  let y54 : (Int × Int) := (1, 0)
  let y55 : (Int × (Int × Int)) := ((-1), y54)
  let y56 : (Int × (Int × Int)) := ((-1), (2, 0))
  let y57 : Int := (iconv .i64 y52)
  let y58 : (Int × Int) := (1, 1)
  let y59 : (Int × Int) := (1, 4)
  let y60 : (List Drow) := [(4, ((ByteArray.mk #[114, 109]), ((ByteArray.mk #[114]), (0, ([(iadd .u8 y53 1)], y55))))), (4, ((ByteArray.mk #[114]), ((ByteArray.mk #[109]), (0, ([(iadd .u8 y53 3)], y56))))), (4, ((ByteArray.mk #[114, 109]), ((ByteArray.mk #[105, 56]), (0, ([131], (y57, y58)))))), (4, ((ByteArray.mk #[114, 109]), ((ByteArray.mk #[105, 51, 50]), (0, ([129], (y57, y59))))))]
  .ret y60) (
  .ite (ieq x 9) (
  .need ((0 : Nat) < 1) <|
  .need ((0 : Nat) < 1) <|
  .need ((0 : Nat) < 1) <|
  .need ((0 : Nat) < 1) <|
  .need (((0 : Nat) + 1 : Nat) ≤ 1) <|
  .need (((0 : Nat) + 1 : Nat) ≤ 1) <|
  .need (((0 : Nat) + 1 : Nat) ≤ 1) <|
  .need (((0 : Nat) + 1 : Nat) ≤ 1) <|
  .need ((0 : Nat) < 4) <|
  .need ((1 : Nat) < 4) <|
  .need ((2 : Nat) < 4) <|
  .need ((3 : Nat) < 4) <|
  .need (((0 : Nat) + 4 : Nat) ≤ 4) <|
  let y61 : Int := (iconv .u8 (imax (fn155 x) 0))
  let y62 : Int := (imul .u8 8 y61)
  let y63 : (Int × Int) := (1, 0)
  let y64 : (Int × (Int × Int)) := ((-1), y63)
  let y65 : (Int × (Int × Int)) := ((-1), (2, 0))
  let y66 : Int := (iconv .i64 y61)
  let y67 : (Int × Int) := (1, 1)
  let y68 : (Int × Int) := (1, 4)
  let y69 : (List Drow) := [(4, ((ByteArray.mk #[114, 109]), ((ByteArray.mk #[114]), (0, ([(iadd .u8 y62 1)], y64))))), (4, ((ByteArray.mk #[114]), ((ByteArray.mk #[109]), (0, ([(iadd .u8 y62 3)], y65))))), (4, ((ByteArray.mk #[114, 109]), ((ByteArray.mk #[105, 56]), (0, ([131], (y66, y67)))))), (4, ((ByteArray.mk #[114, 109]), ((ByteArray.mk #[105, 51, 50]), (0, ([129], (y66, y68))))))]
  .ret y69) (
  .ite (ieq x 10) (
  .need ((0 : Nat) < 1) <|
  .need ((0 : Nat) < 1) <|
  .need ((0 : Nat) < 1) <|
  .need ((0 : Nat) < 1) <|
  .need (((0 : Nat) + 1 : Nat) ≤ 1) <|
  .need (((0 : Nat) + 1 : Nat) ≤ 1) <|
  .need (((0 : Nat) + 1 : Nat) ≤ 1) <|
  .need (((0 : Nat) + 1 : Nat) ≤ 1) <|
  .need ((0 : Nat) < 4) <|
  .need ((1 : Nat) < 4) <|
  .need ((2 : Nat) < 4) <|
  .need ((3 : Nat) < 4) <|
  .need (((0 : Nat) + 4 : Nat) ≤ 4) <|
  let y70 : Int := (iconv .u8 (imax (fn155 x) 0))
  let y71 : Int := (imul .u8 8 y70)
  let y72 : (Int × Int) := (1, 0)
  let y73 : (Int × (Int × Int)) := ((-1), y72)
  let y74 : (Int × (Int × Int)) := ((-1), (2, 0))
  let y75 : Int := (iconv .i64 y70)
  let y76 : (Int × Int) := (1, 1)
  let y77 : (Int × Int) := (1, 4)
  let y78 : (List Drow) := [(4, ((ByteArray.mk #[114, 109]), ((ByteArray.mk #[114]), (0, ([(iadd .u8 y71 1)], y73))))), (4, ((ByteArray.mk #[114]), ((ByteArray.mk #[109]), (0, ([(iadd .u8 y71 3)], y74))))), (4, ((ByteArray.mk #[114, 109]), ((ByteArray.mk #[105, 56]), (0, ([131], (y75, y76)))))), (4, ((ByteArray.mk #[114, 109]), ((ByteArray.mk #[105, 51, 50]), (0, ([129], (y75, y77))))))]
  .ret y78) (
  .ite (ieq x 11) (
  .need ((0 : Nat) < 1) <|
  .need ((0 : Nat) < 1) <|
  .need (((0 : Nat) + 1 : Nat) ≤ 1) <|
  .need (((0 : Nat) + 1 : Nat) ≤ 1) <|
  .need ((0 : Nat) < 2) <|
  .need ((1 : Nat) < 2) <|
  .need (((0 : Nat) + 2 : Nat) ≤ 2) <|
  let y79 : (Int × Int) := (1, 0)
  let y80 : (Int × (Int × Int)) := ((-1), y79)
  let y81 : (Int × Int) := (1, 4)
  let y82 : (Int × (Int × Int)) := (0, y81)
  .ret [(4, ((ByteArray.mk #[114, 109]), ((ByteArray.mk #[114]), (0, ([133], y80))))), (4, ((ByteArray.mk #[114, 109]), ((ByteArray.mk #[105, 51, 50]), (0, ([247], y82)))))]) (
  .ite (ieq x 12) (
  .need ((0 : Nat) < 1) <|
  .need (((0 : Nat) + 1 : Nat) ≤ 1) <|
  .need ((0 : Nat) < 1) <|
  .need (((0 : Nat) + 1 : Nat) ≤ 1) <|
  let y83 : (Int × Int) := (1, 0)
  let y84 : (Int × (Int × Int)) := ((fn156 x), y83)
  let y85 : (List Drow) := [(4, ((ByteArray.mk #[114, 109]), ((ByteArray.mk #[45]), (0, ([255], y84)))))]
  .ret y85) (
  .ite (ieq x 13) (
  .need ((0 : Nat) < 1) <|
  .need (((0 : Nat) + 1 : Nat) ≤ 1) <|
  .need ((0 : Nat) < 1) <|
  .need (((0 : Nat) + 1 : Nat) ≤ 1) <|
  let y86 : (Int × Int) := (1, 0)
  let y87 : (Int × (Int × Int)) := ((fn156 x), y86)
  let y88 : (List Drow) := [(4, ((ByteArray.mk #[114, 109]), ((ByteArray.mk #[45]), (0, ([255], y87)))))]
  .ret y88) (
  .ite (ieq x 15) (
  .need ((0 : Nat) < 1) <|
  .need (((0 : Nat) + 1 : Nat) ≤ 1) <|
  .need ((0 : Nat) < 1) <|
  .need (((0 : Nat) + 1 : Nat) ≤ 1) <|
  let y89 : (Int × Int) := (1, 0)
  let y90 : (Int × (Int × Int)) := ((fn156 x), y89)
  let y91 : (List Drow) := [(4, ((ByteArray.mk #[114, 109]), ((ByteArray.mk #[45]), (0, ([247], y90)))))]
  .ret y91) (
  .ite (ieq x 14) (
  .need ((0 : Nat) < 1) <|
  .need (((0 : Nat) + 1 : Nat) ≤ 1) <|
  .need ((0 : Nat) < 1) <|
  .need (((0 : Nat) + 1 : Nat) ≤ 1) <|
  let y92 : (Int × Int) := (1, 0)
  let y93 : (Int × (Int × Int)) := ((fn156 x), y92)
  let y94 : (List Drow) := [(4, ((ByteArray.mk #[114, 109]), ((ByteArray.mk #[45]), (0, ([247], y93)))))]
  .ret y94) (
  .ite (ieq x 22) (
  .need ((0 : Nat) < 1) <|
  .need (((0 : Nat) + 1 : Nat) ≤ 1) <|
  .need ((0 : Nat) < 1) <|
  .need (((0 : Nat) + 1 : Nat) ≤ 1) <|
  let y95 : (Int × Int) := (1, 0)
  let y96 : (Int × (Int × Int)) := ((fn156 x), y95)
  let y97 : (List Drow) := [(4, ((ByteArray.mk #[114, 109]), ((ByteArray.mk #[45]), (0, ([247], y96)))))]
  .ret y97) (
  .ite (ieq x 23) (
  .need ((0 : Nat) < 1) <|
  .need (((0 : Nat) + 1 : Nat) ≤ 1) <|
  .need ((0 : Nat) < 1) <|
  .need (((0 : Nat) + 1 : Nat) ≤ 1) <|
  let y98 : (Int × Int) := (1, 0)
  let y99 : (Int × (Int × Int)) := ((fn156 x), y98)
  let y100 : (List Drow) := [(4, ((ByteArray.mk #[114, 109]), ((ByteArray.mk #[45]), (0, ([247], y99)))))]
  .ret y100) (
  .ite (ieq x 19) (
  .need ((0 : Nat) < 1) <|
  .need ((0 : Nat) < 1) <|
  .need (((0 : Nat) + 1 : Nat) ≤ 1) <|
  .need (((0 : Nat) + 1 : Nat) ≤ 1) <|
  .need ((0 : Nat) < 2) <|
  .need ((1 : Nat) < 2) <|
  .need (((0 : Nat) + 2 : Nat) ≤ 2) <|
  let y101 : (Int × Int) := (1, 1)
  let y102 : (Int × Int) := (1, 0)
  let y103 : (Int × (Int × Int)) := ((fn156 x), y102)
  let y104 : (List Drow) := [(4, ((ByteArray.mk #[114, 109]), ((ByteArray.mk #[117, 56]), (0, ([193], ((fn156 x), y101)))))), (4, ((ByteArray.mk #[114, 109]), ((ByteArray.mk #[99, 108]), (0, ([211], y103)))))]
  .ret y104) (
  .ite (ieq x 20) (
  .need ((0 : Nat) < 1) <|
  .need ((0 : Nat) < 1) <|
  .need (((0 : Nat) + 1 : Nat) ≤ 1) <|
  .need (((0 : Nat) + 1 : Nat) ≤ 1) <|
  .need ((0 : Nat) < 2) <|
  .need ((1 : Nat) < 2) <|
  .need (((0 : Nat) + 2 : Nat) ≤ 2) <|
  let y105 : (Int × Int) := (1, 1)
  let y106 : (Int × Int) := (1, 0)
  let y107 : (Int × (Int × Int)) := ((fn156 x), y106)
  let y108 : (List Drow) := [(4, ((ByteArray.mk #[114, 109]), ((ByteArray.mk #[117, 56]), (0, ([193], ((fn156 x), y105)))))), (4, ((ByteArray.mk #[114, 109]), ((ByteArray.mk #[99, 108]), (0, ([211], y107)))))]
  .ret y108) (
  .ite (ieq x 16) (
  .need ((0 : Nat) < 1) <|
  .need ((0 : Nat) < 1) <|
  .need (((0 : Nat) + 1 : Nat) ≤ 1) <|
  .need (((0 : Nat) + 1 : Nat) ≤ 1) <|
  .need ((0 : Nat) < 2) <|
  .need ((1 : Nat) < 2) <|
  .need (((0 : Nat) + 2 : Nat) ≤ 2) <|
  let y109 : (Int × Int) := (1, 1)
  let y110 : (Int × Int) := (1, 0)
  let y111 : (Int × (Int × Int)) := ((fn156 x), y110)
  let y112 : (List Drow) := [(4, ((ByteArray.mk #[114, 109]), ((ByteArray.mk #[117, 56]), (0, ([193], ((fn156 x), y109)))))), (4, ((ByteArray.mk #[114, 109]), ((ByteArray.mk #[99, 108]), (0, ([211], y111)))))]
  .ret y112) (
  .ite (ieq x 17) (
  .need ((0 : Nat) < 1) <|
  .need ((0 : Nat) < 1) <|
  .need (((0 : Nat) + 1 : Nat) ≤ 1) <|
  .need (((0 : Nat) + 1 : Nat) ≤ 1) <|
  .need ((0 : Nat) < 2) <|
  .need ((1 : Nat) < 2) <|
  .need (((0 : Nat) + 2 : Nat) ≤ 2) <|
  let y113 : (Int × Int) := (1, 1)
  let y114 : (Int × Int) := (1, 0)
  let y115 : (Int × (Int × Int)) := ((fn156 x), y114)
  let y116 : (List Drow) := [(4, ((ByteArray.mk #[114, 109]), ((ByteArray.mk #[117, 56]), (0, ([193], ((fn156 x), y113)))))), (4, ((ByteArray.mk #[114, 109]), ((ByteArray.mk #[99, 108]), (0, ([211], y115)))))]
  .ret y116) (
  .ite (ieq x 18) (
  .need ((0 : Nat) < 1) <|
  .need ((0 : Nat) < 1) <|
  .need (((0 : Nat) + 1 : Nat) ≤ 1) <|
  .need (((0 : Nat) + 1 : Nat) ≤ 1) <|
  .need ((0 : Nat) < 2) <|
  .need ((1 : Nat) < 2) <|
  .need (((0 : Nat) + 2 : Nat) ≤ 2) <|
  let y117 : (Int × Int) := (1, 1)
  let y118 : (Int × Int) := (1, 0)
  let y119 : (Int × (Int × Int)) := ((fn156 x), y118)
  let y120 : (List Drow) := [(4, ((ByteArray.mk #[114, 109]), ((ByteArray.mk #[117, 56]), (0, ([193], ((fn156 x), y117)))))), (4, ((ByteArray.mk #[114, 109]), ((ByteArray.mk #[99, 108]), (0, ([211], y119)))))]
  .ret y120) (
  .ite (ieq x 21) (
  .need ((0 : Nat) < 2) <|
  .need ((1 : Nat) < 2) <|
  .need (((0 : Nat) + 2 : Nat) ≤ 2) <|
  .need ((0 : Nat) < 1) <|
  .need (((0 : Nat) + 1 : Nat) ≤ 1) <|
  let y121 : (Int × (Int × Int)) := ((-1), (2, 0))
  .ret [(4, ((ByteArray.mk #[114]), ((ByteArray.mk #[114, 109]), (0, ([15, 175], y121)))))]) (
  .ret ([] : List Drow))))))))))))))))))))))))
noncomputable def fn103 (x : Int) : (List Drow) := (tree103 x).val
def pre103 (x : Int) : Prop := (tree103 x).ok
noncomputable def spec103 : Spec := { dom := (.st1 (.int .u8)), cod := (.slice Crow), n := 1, pre := pre103, f := fn103 }
noncomputable def need103 : FuncId → Option Spec
  | 155 => some spec155
  | 156 => some spec156
  | _ => none
theorem need103_ok : ∀ f sp, need103 f = some sp → SpecOk env0 f sp := by
  intro f sp h
  unfold need103 at h
  split at h
  · cases h; exact ok155
  · cases h; exact ok156
  · cases h
theorem run103 (W : Cfg) (Q : (List Drow) → Prop) (x : Int) : run (env need103 (fun _ _ => none)) (fun _ _ _ => none) (finS spec103 Q) W 100000 (startFr 103 Tryd.f103 (bodyOf Tryd.f103) (argsOf (.st1 (.int .u8)) x)) [] [] = (tree103 x).wp Q := by kernel_rfl
theorem ok103 : SpecOk env0 103 spec103 := SpecOk.env rfl (fun _ _ h => h) (spec_of_tree (E := (env need103 (fun _ _ => none))) (sp := spec103) (valid _ _) (fun f sp h => SpecOk.env rfl (fun _ _ h => h) (need103_ok f sp h)) (fn := Tryd.f103) (c := (bodyOf Tryd.f103)) (by kernel_rfl) (by kernel_rfl) tree103 run103 (fun _ h => Tr.gives_val h))

/-! ### sundial/sundialref10.rows -/
noncomputable def tree75 (x : (Int × Int)) : Tr (List Drow) :=
  .need ((16 : Int) ≠ 0) <|
  .ite (ieq x.1 24) (
  .need ((0 : Nat) < 1) <|
  .need (((0 : Nat) + 1 : Nat) ≤ 1) <|
  .need ((0 : Nat) < 1) <|
  .need (((0 : Nat) + 1 : Nat) ≤ 1) <|
  let y0 : (Int × (Int × Int)) := (0, (3, 0))
  .ret [(16, ((ByteArray.mk #[114]), ((ByteArray.mk #[45]), (0, ([80], y0)))))]) (
  .ite (ieq x.1 25) (
  .need ((0 : Nat) < 1) <|
  .need (((0 : Nat) + 1 : Nat) ≤ 1) <|
  .need ((0 : Nat) < 1) <|
  .need (((0 : Nat) + 1 : Nat) ≤ 1) <|
  let y1 : (Int × (Int × Int)) := (0, (3, 0))
  .ret [(16, ((ByteArray.mk #[114]), ((ByteArray.mk #[45]), (0, ([88], y1)))))]) (
  .ite (ieq x.1 26) (
  .need ((0 : Nat) < 1) <|
  .need (((0 : Nat) + 1 : Nat) ≤ 1) <|
  .need ((0 : Nat) < 1) <|
  .need (((0 : Nat) + 1 : Nat) ≤ 1) <|
  let y2 : (Int × (Int × Int)) := (0, (0, 4))
  .ret [(16, ((ByteArray.mk #[45]), ((ByteArray.mk #[105, 51, 50]), (0, ([232], y2)))))]) (
  .ite (ieq x.1 28) (
  .need ((0 : Nat) < 1) <|
  .need ((0 : Nat) < 1) <|
  .need (((0 : Nat) + 1 : Nat) ≤ 1) <|
  .need (((0 : Nat) + 1 : Nat) ≤ 1) <|
  .need ((0 : Nat) < 2) <|
  .need ((1 : Nat) < 2) <|
  .need (((0 : Nat) + 2 : Nat) ≤ 2) <|
  let y3 : (Int × (Int × Int)) := (0, (0, 4))
  let y4 : (Int × Int) := (1, 0)
  .ret [(16, ((ByteArray.mk #[45]), ((ByteArray.mk #[105, 51, 50]), (0, ([233], y3))))), (16, ((ByteArray.mk #[114, 109]), ((ByteArray.mk #[45]), (0, ([255], (4, y4))))))]) (
  .ite (ieq x.1 29) (
  .need ((0 : Nat) < 2) <|
  .need ((1 : Nat) < 2) <|
  .need (((0 : Nat) + 2 : Nat) ≤ 2) <|
  .need ((0 : Nat) < 1) <|
  .need (((0 : Nat) + 1 : Nat) ≤ 1) <|
  let y5 : Int := (irem .u8 x.2 16)
  let y6 : (Int × (Int × Int)) := (0, (0, 4))
  .ret [(16, ((ByteArray.mk #[45]), ((ByteArray.mk #[105, 51, 50]), (0, ([15, (iadd .u8 128 y5)], y6)))))]) (
  .ite (ieq x.1 27) (
  .need ((0 : Nat) < 1) <|
  .need (((0 : Nat) + 1 : Nat) ≤ 1) <|
  .need ((0 : Nat) < 1) <|
  .need (((0 : Nat) + 1 : Nat) ≤ 1) <|
  let y7 : (Int × (Int × Int)) := (0, (0, 0))
  .ret [(16, ((ByteArray.mk #[45]), ((ByteArray.mk #[45]), (0, ([195], y7)))))]) (
  .ite (ieq x.1 34) (
  .need ((0 : Nat) < 1) <|
  .need (((0 : Nat) + 1 : Nat) ≤ 1) <|
  .need ((0 : Nat) < 1) <|
  .need (((0 : Nat) + 1 : Nat) ≤ 1) <|
  let y8 : (Int × (Int × Int)) := (0, (0, 0))
  .ret [(16, ((ByteArray.mk #[45]), ((ByteArray.mk #[45]), (0, ([144], y8)))))]) (
  .ite (ieq x.1 30) (
  .need ((0 : Nat) < 2) <|
  .need ((1 : Nat) < 2) <|
  .need (((0 : Nat) + 2 : Nat) ≤ 2) <|
  .need ((0 : Nat) < 1) <|
  .need (((0 : Nat) + 1 : Nat) ≤ 1) <|
  let y9 : Int := (irem .u8 x.2 16)
  let y10 : (Int × (Int × Int)) := ((-1), (2, 0))
  .ret [(4, ((ByteArray.mk #[114]), ((ByteArray.mk #[114, 109]), (0, ([15, (iadd .u8 64 y9)], y10)))))]) (
  .ite (ieq x.1 31) (
  .need ((0 : Nat) < 2) <|
  .need ((1 : Nat) < 2) <|
  .need (((0 : Nat) + 2 : Nat) ≤ 2) <|
  .need ((0 : Nat) < 1) <|
  .need (((0 : Nat) + 1 : Nat) ≤ 1) <|
  let y11 : Int := (irem .u8 x.2 16)
  let y12 : (Int × Int) := (1, 0)
  .ret [(1, ((ByteArray.mk #[114, 109]), ((ByteArray.mk #[45]), (0, ([15, (iadd .u8 144 y11)], (0, y12))))))]) (
  .ite (ieq x.1 32) (
  .need ((0 : Nat) < 2) <|
  .need ((1 : Nat) < 2) <|
  .need (((0 : Nat) + 2 : Nat) ≤ 2) <|
  .need ((0 : Nat) < 1) <|
  .need (((0 : Nat) + 1 : Nat) ≤ 1) <|
  let y13 : (Int × (Int × Int)) := ((-1), (2, 0))
  .ret [(4, ((ByteArray.mk #[114]), ((ByteArray.mk #[114, 109]), (0, ([15, 182], y13)))))]) (
  .ite (ieq x.1 33) (
  .need ((0 : Nat) < 2) <|
  .need ((1 : Nat) < 2) <|
  .need (((0 : Nat) + 2 : Nat) ≤ 2) <|
  .need ((0 : Nat) < 1) <|
  .need (((0 : Nat) + 1 : Nat) ≤ 1) <|
  let y14 : (Int × (Int × Int)) := ((-1), (2, 0))
  .ret [(4, ((ByteArray.mk #[114]), ((ByteArray.mk #[114, 109]), (0, ([15, 190], y14)))))]) (
  .ite (ieq x.1 35) (
  .need ((0 : Nat) < 2) <|
  .need ((1 : Nat) < 2) <|
  .need ((0 : Nat) < 2) <|
  .need ((1 : Nat) < 2) <|
  .need (((0 : Nat) + 2 : Nat) ≤ 2) <|
  .need (((0 : Nat) + 2 : Nat) ≤ 2) <|
  .need ((0 : Nat) < 2) <|
  .need ((1 : Nat) < 2) <|
  .need (((0 : Nat) + 2 : Nat) ≤ 2) <|
  let y15 : (Int × (Int × Int)) := ((-1), (2, 0))
  let y16 : (Int × Int) := (1, 0)
  .ret [(32, ((ByteArray.mk #[120]), ((ByteArray.mk #[120, 109]), (243, ([15, 111], y15))))), (32, ((ByteArray.mk #[109]), ((ByteArray.mk #[120]), (243, ([15, 127], ((-1), y16))))))]) (
  .ite (ieq x.1 36) (
  .need ((0 : Nat) < 2) <|
  .need ((1 : Nat) < 2) <|
  .need (((0 : Nat) + 2 : Nat) ≤ 2) <|
  .need ((0 : Nat) < 1) <|
  .need (((0 : Nat) + 1 : Nat) ≤ 1) <|
  let y17 : (Int × (Int × Int)) := ((-1), (2, 0))
  .ret [(32, ((ByteArray.mk #[120]), ((ByteArray.mk #[120, 109]), (102, ([15, 239], y17)))))]) (
  .ite (ieq x.1 37) (
  .need ((0 : Nat) < 3) <|
  .need ((1 : Nat) < 3) <|
  .need ((2 : Nat) < 3) <|
  .need (((0 : Nat) + 3 : Nat) ≤ 3) <|
  .need ((0 : Nat) < 1) <|
  .need (((0 : Nat) + 1 : Nat) ≤ 1) <|
  let y18 : (Int × (Int × Int)) := ((-1), (2, 0))
  .ret [(32, ((ByteArray.mk #[120]), ((ByteArray.mk #[120, 109]), (102, ([15, 56, 220], y18)))))]) (
  .ite (ieq x.1 38) (
  .need ((0 : Nat) < 3) <|
  .need ((1 : Nat) < 3) <|
  .need ((2 : Nat) < 3) <|
  .need (((0 : Nat) + 3 : Nat) ≤ 3) <|
  .need ((0 : Nat) < 1) <|
  .need (((0 : Nat) + 1 : Nat) ≤ 1) <|
  let y19 : (Int × (Int × Int)) := ((-1), (2, 0))
  .ret [(32, ((ByteArray.mk #[120]), ((ByteArray.mk #[120, 109]), (102, ([15, 56, 221], y19)))))]) (
  .ite (ieq x.1 39) (
  .need ((0 : Nat) < 3) <|
  .need ((1 : Nat) < 3) <|
  .need ((2 : Nat) < 3) <|
  .need (((0 : Nat) + 3 : Nat) ≤ 3) <|
  .need ((0 : Nat) < 1) <|
  .need (((0 : Nat) + 1 : Nat) ≤ 1) <|
  .ret [(32, ((ByteArray.mk #[120]), ((ByteArray.mk #[120, 109]), (102, ([15, 58, 68], ((-1), (2, 1)))))))]) (
  .need (pre103 x.1) <|
  .ret (fn103 x.1)))))))))))))))))
noncomputable def fn75 (x : (Int × Int)) : (List Drow) := (tree75 x).val
def pre75 (x : (Int × Int)) : Prop := (tree75 x).ok
noncomputable def spec75 : Spec := { dom := (.st (.int .u8) (.st1 (.int .u8))), cod := (.slice Crow), n := 1, pre := pre75, f := fn75 }
noncomputable def need75 : FuncId → Option Spec
  | 103 => some spec103
  | _ => none
theorem need75_ok : ∀ f sp, need75 f = some sp → SpecOk env0 f sp := by
  intro f sp h
  unfold need75 at h
  split at h
  · cases h; exact ok103
  · cases h
theorem run75 (W : Cfg) (Q : (List Drow) → Prop) (x : (Int × Int)) : run (env need75 (fun _ _ => none)) (fun _ _ _ => none) (finS spec75 Q) W 100000 (startFr 75 Tryd.f75 (bodyOf Tryd.f75) (argsOf (.st (.int .u8) (.st1 (.int .u8))) x)) [] [] = (tree75 x).wp Q := by kernel_rfl
theorem ok75 : SpecOk env0 75 spec75 := SpecOk.env rfl (fun _ _ h => h) (spec_of_tree (E := (env need75 (fun _ _ => none))) (sp := spec75) (valid _ _) (fun f sp h => SpecOk.env rfl (fun _ _ h => h) (need75_ok f sp h)) (fn := Tryd.f75) (c := (bodyOf Tryd.f75)) (by kernel_rfl) (by kernel_rfl) tree75 run75 (fun _ h => Tr.gives_val h))

/-! ### sundial/sundialref10.fits -/
noncomputable def tree76 (x : (Int × Int)) : Tr Bool :=
  .ite (ieq x.2 4) (
  .ite ((ieq x.1 4) == false) (
  let y0 : Bool := (ieq x.1 8)
  .ret y0) (
  .ret true)) (
  .ite (ieq x.2 16) (
  let y1 : Bool := (ieq x.1 8)
  .ret y1) (
  .ite (ieq x.2 32) (
  .ret (ieq x.1 16)) (
  .ret (ieq x.1 x.2))))
noncomputable def fn76 (x : (Int × Int)) : Bool := (tree76 x).val
def pre76 (x : (Int × Int)) : Prop := (tree76 x).ok
noncomputable def spec76 : Spec := { dom := (.st (.int .i64) (.st1 (.int .i64))), cod := .bool, n := 1, pre := pre76, f := fn76 }
noncomputable def need76 : FuncId → Option Spec
  | _ => none
theorem need76_ok : ∀ f sp, need76 f = some sp → SpecOk env0 f sp := by
  intro f sp h
  unfold need76 at h
  split at h
  · cases h
theorem run76 (W : Cfg) (Q : Bool → Prop) (x : (Int × Int)) : run (env need76 (fun _ _ => none)) (fun _ _ _ => none) (finS spec76 Q) W 100000 (startFr 76 Tryd.f76 (bodyOf Tryd.f76) (argsOf (.st (.int .i64) (.st1 (.int .i64))) x)) [] [] = (tree76 x).wp Q := by kernel_rfl
theorem ok76 : SpecOk env0 76 spec76 := SpecOk.env rfl (fun _ _ h => h) (spec_of_tree (E := (env need76 (fun _ _ => none))) (sp := spec76) (valid _ _) (fun f sp h => SpecOk.env rfl (fun _ _ h => h) (need76_ok f sp h)) (fn := Tryd.f76) (c := (bodyOf Tryd.f76)) (by kernel_rfl) (by kernel_rfl) tree76 run76 (fun _ h => Tr.gives_val h))

/-! ### sundial/sundialref10.Imm -/
noncomputable def tree22 (x : Int) : Tr DOperand :=
  .ret (3, (0, ((-1), ((-1), (0, (0, (false, x)))))))
noncomputable def fn22 (x : Int) : DOperand := (tree22 x).val
def pre22 (x : Int) : Prop := (tree22 x).ok
noncomputable def spec22 : Spec := { dom := (.st1 (.int .i64)), cod := COperand, n := 1, pre := pre22, f := fn22 }
noncomputable def need22 : FuncId → Option Spec
  | _ => none
theorem need22_ok : ∀ f sp, need22 f = some sp → SpecOk env0 f sp := by
  intro f sp h
  unfold need22 at h
  split at h
  · cases h
theorem run22 (W : Cfg) (Q : DOperand → Prop) (x : Int) : run (env need22 (fun _ _ => none)) (fun _ _ _ => none) (finS spec22 Q) W 100000 (startFr 22 Tryd.f22 (bodyOf Tryd.f22) (argsOf (.st1 (.int .i64)) x)) [] [] = (tree22 x).wp Q := by kernel_rfl
theorem ok22 : SpecOk env0 22 spec22 := SpecOk.env rfl (fun _ _ h => h) (spec_of_tree (E := (env need22 (fun _ _ => none))) (sp := spec22) (valid _ _) (fun f sp h => SpecOk.env rfl (fun _ _ h => h) (need22_ok f sp h)) (fn := Tryd.f22) (c := (bodyOf Tryd.f22)) (by kernel_rfl) (by kernel_rfl) tree22 run22 (fun _ h => Tr.gives_val h))

/-! ### sundial/sundialref10.Vec -/
noncomputable def tree24 (x : Int) : Tr DOperand :=
  .need ((16 : Int) ≠ 0) <|
  .need ((16 : Int) ≠ 0) <|
  .ret (1, ((iadd .i64 (irem .i64 (iadd .i64 (irem .i64 x 16) 16) 16) 16), ((-1), ((-1), (0, (0, (false, 0)))))))
noncomputable def fn24 (x : Int) : DOperand := (tree24 x).val
def pre24 (x : Int) : Prop := (tree24 x).ok
noncomputable def spec24 : Spec := { dom := (.st1 (.int .i64)), cod := COperand, n := 1, pre := pre24, f := fn24 }
noncomputable def need24 : FuncId → Option Spec
  | _ => none
theorem need24_ok : ∀ f sp, need24 f = some sp → SpecOk env0 f sp := by
  intro f sp h
  unfold need24 at h
  split at h
  · cases h
theorem run24 (W : Cfg) (Q : DOperand → Prop) (x : Int) : run (env need24 (fun _ _ => none)) (fun _ _ _ => none) (finS spec24 Q) W 100000 (startFr 24 Tryd.f24 (bodyOf Tryd.f24) (argsOf (.st1 (.int .i64)) x)) [] [] = (tree24 x).wp Q := by kernel_rfl
theorem ok24 : SpecOk env0 24 spec24 := SpecOk.env rfl (fun _ _ h => h) (spec_of_tree (E := (env need24 (fun _ _ => none))) (sp := spec24) (valid _ _) (fun f sp h => SpecOk.env rfl (fun _ _ h => h) (need24_ok f sp h)) (fn := Tryd.f24) (c := (bodyOf Tryd.f24)) (by kernel_rfl) (by kernel_rfl) tree24 run24 (fun _ h => Tr.gives_val h))

/-! ### sundial/sundialref08.Right -/
noncomputable def tree78 (x : DOperand) : Tr Bool :=
  .ite (ieq x.1 1) (
  let y0 : Int := x.2.1
  .need (pre35 y0) <|
  .ite ((eqD COperand x (fn35 y0)) == true) (
  .ite ((ile 0 y0) == true) (
  .ret (ilt y0 16)) (
  .ret false)) (
  .ret false)) (
  .ite ((ine x.1 2) == false) (
  let y1 : Int := x.2.1
  .ite ((ine y1 0) == false) (
  let y2 : (Int × (Int × (Int × (Int × (Bool × Int))))) := x.2.2
  let y3 : (Int × (Int × (Int × (Bool × Int)))) := y2.2
  let y4 : (Int × (Int × (Bool × Int))) := y3.2
  let y5 : (Int × (Bool × Int)) := y4.2
  let y6 : (Bool × Int) := y5.2
  .ite ((ine y6.2 0) == false) (
  let y7 : Int := y5.1
  .ite ((ilt y7 (-2147483648)) == false) (
  .ite (ile 2147483648 y7) (
  .ret false) (
  .ite y6.1 (
  let y8 : Int := y2.1
  .ite ((ieq y8 (-1)) == true) (
  let y9 : Int := y3.1
  .ite ((ieq y9 (-1)) == true) (
  let y10 : Int := y4.1
  let y11 : Bool := (ieq y10 1)
  .ret y11) (
  .ret false)) (
  .ret false)) (
  let y12 : Int := y2.1
  .ite ((ilt y12 (-1)) == false) (
  .ite ((ilt 15 y12) == false) (
  let y13 : Int := y3.1
  .ite ((ilt y13 (-1)) == false) (
  .ite ((ilt 15 y13) == false) (
  .ite (ieq y13 4) (
  .ret false) (
  .ite (ilt y13 0) (
  let y14 : Int := y4.1
  let y15 : Bool := (ieq y14 1)
  .ret y15) (
  let y16 : Int := y4.1
  let y17 : Bool := (ieq y16 1)
  .ite (y17 == false) (
  .ite ((ieq y16 2) == false) (
  .ite ((ieq y16 4) == false) (
  .ret (ieq y16 8)) (
  .ret true)) (
  .ret true)) (
  .ret true)))) (
  .ret false)) (
  .ret false)) (
  .ret false)) (
  .ret false)))) (
  .ret false)) (
  .ret false)) (
  .ret false)) (
  .ret false))
noncomputable def fn78 (x : DOperand) : Bool := (tree78 x).val
def pre78 (x : DOperand) : Prop := (tree78 x).ok
noncomputable def spec78 : Spec := { dom := (.st1 COperand), cod := .bool, n := 1, pre := pre78, f := fn78 }
noncomputable def need78 : FuncId → Option Spec
  | 35 => some spec35
  | _ => none
theorem need78_ok : ∀ f sp, need78 f = some sp → SpecOk env0 f sp := by
  intro f sp h
  unfold need78 at h
  split at h
  · cases h; exact ok35
  · cases h
theorem run78 (W : Cfg) (Q : Bool → Prop) (x : DOperand) : run (env need78 (fun _ _ => none)) (fun _ _ _ => none) (finS spec78 Q) W 100000 (startFr 78 Tryd.f78 (bodyOf Tryd.f78) (argsOf (.st1 COperand) x)) [] [] = (tree78 x).wp Q := by kernel_rfl
theorem ok78 : SpecOk env0 78 spec78 := SpecOk.env rfl (fun _ _ h => h) (spec_of_tree (E := (env need78 (fun _ _ => none))) (sp := spec78) (valid _ _) (fun f sp h => SpecOk.env rfl (fun _ _ h => h) (need78_ok f sp h)) (fn := Tryd.f78) (c := (bodyOf Tryd.f78)) (by kernel_rfl) (by kernel_rfl) tree78 run78 (fun _ h => Tr.gives_val h))

end Go.Eng.RE
end
section
/- Functions of this program, written out. -/
namespace Go.Eng.RE
open Go.Proofs Go.Eng
set_option maxRecDepth 100000

/-! ### sundial/sundialref10.is -/
inductive J77 where
  | h0
noncomputable def tree77 (x : (DOperand × ByteArray)) : Tr (J77 ⊕ Bool) :=
  let y0 : Int := x.1.1
  let y1 : Bool := ((ieq y0 1) == true)
  .ite y1 (
  .need (pre78 x.1) <|
  let y2 : Bool := ((ieq y0 2) == true)
  .ite y2 (
  .need (pre78 x.1) <|
  let y3 : Bool := ((ieq y0 3) == true)
  .ite y3 (
  let y4 : (Int × (Int × (Int × (Int × (Int × (Bool × Int)))))) := x.1.2
  let y5 : Int := y4.2.2.2.2.2.2
  .need (pre22 y5) <|
  .ite y1 (
  let y6 : Int := y4.1
  let y7 : Bool := ((ile 16 y6) == true)
  .ite y7 (
  let y8 : Bool := ((ilt y6 32) == true)
  .ite y8 (
  .need (pre24 y6) <|
  let y9 : Bool := (x.2 == (ByteArray.mk #[114]))
  .ite y9 (
  let y10 : Bool := (fn78 x.1)
  .ret (.inr y10)) (
  let y11 : Bool := (x.2 == (ByteArray.mk #[109]))
  .ite y11 (
  let y12 : Bool := (fn78 x.1)
  .ret (.inr y12)) (
  let y13 : Bool := (x.2 == (ByteArray.mk #[114, 109]))
  .ite y13 (
  let y14 : Bool := (fn78 x.1)
  let y15 : Bool := (y14 == false)
  .ite y15 (
  .ret (.inr y14)) (
  .ret (.inr true))) (
  let y16 : Bool := (x.2 == (ByteArray.mk #[105, 56]))
  .ite y16 (
  let y17 : Bool := (eqD COperand x.1 (fn22 y5))
  let y18 : Bool := (y17 == true)
  .ite y18 (
  let y19 : Bool := ((ile (-128) y5) == true)
  .ite y19 (
  let y20 : Bool := (ilt y5 128)
  .ret (.inr y20)) (
  .ret (.inr false))) (
  .ret (.inr false))) (
  let y21 : Bool := (x.2 == (ByteArray.mk #[117, 56]))
  .ite y21 (
  let y22 : Bool := (eqD COperand x.1 (fn22 y5))
  let y23 : Bool := (y22 == true)
  .ite y23 (
  let y24 : Bool := ((ile 0 y5) == true)
  .ite y24 (
  let y25 : Bool := (ilt y5 256)
  .ret (.inr y25)) (
  .ret (.inr false))) (
  .ret (.inr false))) (
  let y26 : Bool := (x.2 == (ByteArray.mk #[105, 51, 50]))
  .ite y26 (
  let y27 : Bool := (eqD COperand x.1 (fn22 y5))
  let y28 : Bool := (y27 == true)
  .ite y28 (
  let y29 : Bool := ((ile (-2147483648) y5) == true)
  .ite y29 (
  let y30 : Bool := (ilt y5 2147483648)
  .ret (.inr y30)) (
  .ret (.inr false))) (
  .ret (.inr false))) (
  let y31 : Bool := (x.2 == (ByteArray.mk #[105, 54, 52]))
  .ite y31 (
  let y32 : Bool := (eqD COperand x.1 (fn22 y5))
  .ret (.inr y32)) (
  let y33 : Bool := (x.2 == (ByteArray.mk #[120]))
  .ite y33 (
  let y34 : Bool := (eqD COperand x.1 (fn24 y6))
  .ret (.inr y34)) (
  let y35 : Bool := (x.2 == (ByteArray.mk #[120, 109]))
  .ite y35 (
  let y36 : Bool := (eqD COperand x.1 (fn24 y6))
  let y37 : Bool := (y36 == false)
  .ite y37 (
  let y38 : Bool := (fn78 x.1)
  .ret (.inr y38)) (
  .ret (.inr true))) (
  let y39 : Bool := (x.2 == (ByteArray.mk #[99, 108]))
  .ite y39 (
  let y40 : Bool := (fn78 x.1)
  let y41 : Bool := (y40 == true)
  .ite y41 (
  let y42 : Bool := (ieq y6 1)
  .ret (.inr y42)) (
  .ret (.inr false))) (
  .ret (.inl (.h0))))))))))))) (
  let y43 : Bool := (x.2 == (ByteArray.mk #[114]))
  .ite y43 (
  let y44 : Bool := (fn78 x.1)
  .ret (.inr y44)) (
  let y45 : Bool := (x.2 == (ByteArray.mk #[109]))
  .ite y45 (
  let y46 : Bool := (fn78 x.1)
  .ret (.inr y46)) (
  let y47 : Bool := (x.2 == (ByteArray.mk #[114, 109]))
  .ite y47 (
  let y48 : Bool := (fn78 x.1)
  let y49 : Bool := (y48 == false)
  .ite y49 (
  .ret (.inr y48)) (
  .ret (.inr true))) (
  let y50 : Bool := (x.2 == (ByteArray.mk #[105, 56]))
  .ite y50 (
  let y51 : Bool := (eqD COperand x.1 (fn22 y5))
  let y52 : Bool := (y51 == true)
  .ite y52 (
  let y53 : Bool := ((ile (-128) y5) == true)
  .ite y53 (
  let y54 : Bool := (ilt y5 128)
  .ret (.inr y54)) (
  .ret (.inr false))) (
  .ret (.inr false))) (
  let y55 : Bool := (x.2 == (ByteArray.mk #[117, 56]))
  .ite y55 (
  let y56 : Bool := (eqD COperand x.1 (fn22 y5))
  let y57 : Bool := (y56 == true)
  .ite y57 (
  let y58 : Bool := ((ile 0 y5) == true)
  .ite y58 (
  let y59 : Bool := (ilt y5 256)
  .ret (.inr y59)) (
  .ret (.inr false))) (
  .ret (.inr false))) (
  let y60 : Bool := (x.2 == (ByteArray.mk #[105, 51, 50]))
  .ite y60 (
  let y61 : Bool := (eqD COperand x.1 (fn22 y5))
  let y62 : Bool := (y61 == true)
  .ite y62 (
  let y63 : Bool := ((ile (-2147483648) y5) == true)
  .ite y63 (
  let y64 : Bool := (ilt y5 2147483648)
  .ret (.inr y64)) (
  .ret (.inr false))) (
  .ret (.inr false))) (
  let y65 : Bool := (x.2 == (ByteArray.mk #[105, 54, 52]))
  .ite y65 (
  let y66 : Bool := (eqD COperand x.1 (fn22 y5))
  .ret (.inr y66)) (
  let y67 : Bool := (x.2 == (ByteArray.mk #[120]))
  .ite y67 (
  .ret (.inr false)) (
  let y68 : Bool := (x.2 == (ByteArray.mk #[120, 109]))
  .ite y68 (
  let y69 : Bool := (fn78 x.1)
  .ret (.inr y69)) (
  let y70 : Bool := (x.2 == (ByteArray.mk #[99, 108]))
  .ite y70 (
  let y71 : Bool := (fn78 x.1)
  let y72 : Bool := (y71 == true)
  .ite y72 (
  let y73 : Bool := (ieq y6 1)
  .ret (.inr y73)) (
  .ret (.inr false))) (
  .ret (.inl (.h0)))))))))))))) (
  let y74 : Bool := (x.2 == (ByteArray.mk #[114]))
  .ite y74 (
  let y75 : Bool := (fn78 x.1)
  .ret (.inr y75)) (
  let y76 : Bool := (x.2 == (ByteArray.mk #[109]))
  .ite y76 (
  let y77 : Bool := (fn78 x.1)
  .ret (.inr y77)) (
  let y78 : Bool := (x.2 == (ByteArray.mk #[114, 109]))
  .ite y78 (
  let y79 : Bool := (fn78 x.1)
  let y80 : Bool := (y79 == false)
  .ite y80 (
  .ret (.inr y79)) (
  .ret (.inr true))) (
  let y81 : Bool := (x.2 == (ByteArray.mk #[105, 56]))
  .ite y81 (
  let y82 : Bool := (eqD COperand x.1 (fn22 y5))
  let y83 : Bool := (y82 == true)
  .ite y83 (
  let y84 : Bool := ((ile (-128) y5) == true)
  .ite y84 (
  let y85 : Bool := (ilt y5 128)
  .ret (.inr y85)) (
  .ret (.inr false))) (
  .ret (.inr false))) (
  let y86 : Bool := (x.2 == (ByteArray.mk #[117, 56]))
  .ite y86 (
  let y87 : Bool := (eqD COperand x.1 (fn22 y5))
  let y88 : Bool := (y87 == true)
  .ite y88 (
  let y89 : Bool := ((ile 0 y5) == true)
  .ite y89 (
  let y90 : Bool := (ilt y5 256)
  .ret (.inr y90)) (
  .ret (.inr false))) (
  .ret (.inr false))) (
  let y91 : Bool := (x.2 == (ByteArray.mk #[105, 51, 50]))
  .ite y91 (
  let y92 : Bool := (eqD COperand x.1 (fn22 y5))
  let y93 : Bool := (y92 == true)
  .ite y93 (
  let y94 : Bool := ((ile (-2147483648) y5) == true)
  .ite y94 (
  let y95 : Bool := (ilt y5 2147483648)
  .ret (.inr y95)) (
  .ret (.inr false))) (
  .ret (.inr false))) (
  let y96 : Bool := (x.2 == (ByteArray.mk #[105, 54, 52]))
  .ite y96 (
  let y97 : Bool := (eqD COperand x.1 (fn22 y5))
  .ret (.inr y97)) (
  let y98 : Bool := (x.2 == (ByteArray.mk #[120]))
  .ite y98 (
  .ret (.inr false)) (
  let y99 : Bool := (x.2 == (ByteArray.mk #[120, 109]))
  .ite y99 (
  let y100 : Bool := (fn78 x.1)
  .ret (.inr y100)) (
  let y101 : Bool := (x.2 == (ByteArray.mk #[99, 108]))
  .ite y101 (
  let y102 : Bool := (fn78 x.1)
  let y103 : Bool := (y102 == true)
  .ite y103 (
  let y104 : Bool := (ieq y6 1)
  .ret (.inr y104)) (
  .ret (.inr false))) (
  .ret (.inl (.h0)))))))))))))) (
  let y105 : Bool := (x.2 == (ByteArray.mk #[114]))
  .ite y105 (
  let y106 : Bool := (fn78 x.1)
  .ret (.inr y106)) (
  let y107 : Bool := (x.2 == (ByteArray.mk #[109]))
  .ite y107 (
  let y108 : Bool := (fn78 x.1)
  .ret (.inr y108)) (
  let y109 : Bool := (x.2 == (ByteArray.mk #[114, 109]))
  .ite y109 (
  let y110 : Bool := (fn78 x.1)
  let y111 : Bool := (y110 == false)
  .ite y111 (
  .ret (.inr y110)) (
  .ret (.inr true))) (
  let y112 : Bool := (x.2 == (ByteArray.mk #[105, 56]))
  .ite y112 (
  let y113 : Bool := (eqD COperand x.1 (fn22 y5))
  let y114 : Bool := (y113 == true)
  .ite y114 (
  let y115 : Bool := ((ile (-128) y5) == true)
  .ite y115 (
  let y116 : Bool := (ilt y5 128)
  .ret (.inr y116)) (
  .ret (.inr false))) (
  .ret (.inr false))) (
  let y117 : Bool := (x.2 == (ByteArray.mk #[117, 56]))
  .ite y117 (
  let y118 : Bool := (eqD COperand x.1 (fn22 y5))
  let y119 : Bool := (y118 == true)
  .ite y119 (
  let y120 : Bool := ((ile 0 y5) == true)
  .ite y120 (
  let y121 : Bool := (ilt y5 256)
  .ret (.inr y121)) (
  .ret (.inr false))) (
  .ret (.inr false))) (
  let y122 : Bool := (x.2 == (ByteArray.mk #[105, 51, 50]))
  .ite y122 (
  let y123 : Bool := (eqD COperand x.1 (fn22 y5))
  let y124 : Bool := (y123 == true)
  .ite y124 (
  let y125 : Bool := ((ile (-2147483648) y5) == true)
  .ite y125 (
  let y126 : Bool := (ilt y5 2147483648)
  .ret (.inr y126)) (
  .ret (.inr false))) (
  .ret (.inr false))) (
  let y127 : Bool := (x.2 == (ByteArray.mk #[105, 54, 52]))
  .ite y127 (
  let y128 : Bool := (eqD COperand x.1 (fn22 y5))
  .ret (.inr y128)) (
  let y129 : Bool := (x.2 == (ByteArray.mk #[120]))
  .ite y129 (
  .ret (.inr false)) (
  let y130 : Bool := (x.2 == (ByteArray.mk #[120, 109]))
  .ite y130 (
  let y131 : Bool := (fn78 x.1)
  .ret (.inr y131)) (
  let y132 : Bool := (x.2 == (ByteArray.mk #[99, 108]))
  .ite y132 (
  let y133 : Bool := (fn78 x.1)
  let y134 : Bool := (y133 == true)
  .ite y134 (
  let y135 : Int := y4.1
  let y136 : Bool := (ieq y135 1)
  .ret (.inr y136)) (
  .ret (.inr false))) (
  .ret (.inl (.h0)))))))))))))) (
  .ite y1 (
  let y137 : (Int × (Int × (Int × (Int × (Int × (Bool × Int)))))) := x.1.2
  let y138 : Int := y137.1
  let y139 : Bool := ((ile 16 y138) == true)
  .ite y139 (
  let y140 : Bool := ((ilt y138 32) == true)
  .ite y140 (
  .need (pre24 y138) <|
  let y141 : Bool := (x.2 == (ByteArray.mk #[114]))
  .ite y141 (
  let y142 : Bool := (fn78 x.1)
  .ret (.inr y142)) (
  let y143 : Bool := (x.2 == (ByteArray.mk #[109]))
  .ite y143 (
  let y144 : Bool := (fn78 x.1)
  .ret (.inr y144)) (
  let y145 : Bool := (x.2 == (ByteArray.mk #[114, 109]))
  .ite y145 (
  let y146 : Bool := (fn78 x.1)
  let y147 : Bool := (y146 == false)
  .ite y147 (
  .ret (.inr y146)) (
  .ret (.inr true))) (
  let y148 : Bool := (x.2 == (ByteArray.mk #[105, 56]))
  .ite y148 (
  .ret (.inr false)) (
  let y149 : Bool := (x.2 == (ByteArray.mk #[117, 56]))
  .ite y149 (
  .ret (.inr false)) (
  let y150 : Bool := (x.2 == (ByteArray.mk #[105, 51, 50]))
  .ite y150 (
  .ret (.inr false)) (
  let y151 : Bool := (x.2 == (ByteArray.mk #[105, 54, 52]))
  .ite y151 (
  .ret (.inr false)) (
  let y152 : Bool := (x.2 == (ByteArray.mk #[120]))
  .ite y152 (
  let y153 : Bool := (eqD COperand x.1 (fn24 y138))
  .ret (.inr y153)) (
  let y154 : Bool := (x.2 == (ByteArray.mk #[120, 109]))
  .ite y154 (
  let y155 : Bool := (eqD COperand x.1 (fn24 y138))
  let y156 : Bool := (y155 == false)
  .ite y156 (
  let y157 : Bool := (fn78 x.1)
  .ret (.inr y157)) (
  .ret (.inr true))) (
  let y158 : Bool := (x.2 == (ByteArray.mk #[99, 108]))
  .ite y158 (
  let y159 : Bool := (fn78 x.1)
  let y160 : Bool := (y159 == true)
  .ite y160 (
  let y161 : Bool := (ieq y138 1)
  .ret (.inr y161)) (
  .ret (.inr false))) (
  .ret (.inl (.h0))))))))))))) (
  let y162 : Bool := (x.2 == (ByteArray.mk #[114]))
  .ite y162 (
  let y163 : Bool := (fn78 x.1)
  .ret (.inr y163)) (
  let y164 : Bool := (x.2 == (ByteArray.mk #[109]))
  .ite y164 (
  let y165 : Bool := (fn78 x.1)
  .ret (.inr y165)) (
  let y166 : Bool := (x.2 == (ByteArray.mk #[114, 109]))
  .ite y166 (
  let y167 : Bool := (fn78 x.1)
  let y168 : Bool := (y167 == false)
  .ite y168 (
  .ret (.inr y167)) (
  .ret (.inr true))) (
  let y169 : Bool := (x.2 == (ByteArray.mk #[105, 56]))
  .ite y169 (
  .ret (.inr false)) (
  let y170 : Bool := (x.2 == (ByteArray.mk #[117, 56]))
  .ite y170 (
  .ret (.inr false)) (
  let y171 : Bool := (x.2 == (ByteArray.mk #[105, 51, 50]))
  .ite y171 (
  .ret (.inr false)) (
  let y172 : Bool := (x.2 == (ByteArray.mk #[105, 54, 52]))
  .ite y172 (
  .ret (.inr false)) (
  let y173 : Bool := (x.2 == (ByteArray.mk #[120]))
  .ite y173 (
  .ret (.inr false)) (
  let y174 : Bool := (x.2 == (ByteArray.mk #[120, 109]))
  .ite y174 (
  let y175 : Bool := (fn78 x.1)
  .ret (.inr y175)) (
  let y176 : Bool := (x.2 == (ByteArray.mk #[99, 108]))
  .ite y176 (
  let y177 : Bool := (fn78 x.1)
  let y178 : Bool := (y177 == true)
  .ite y178 (
  let y179 : Bool := (ieq y138 1)
  .ret (.inr y179)) (
  .ret (.inr false))) (
  .ret (.inl (.h0)))))))))))))) (
  let y180 : Bool := (x.2 == (ByteArray.mk #[114]))
  .ite y180 (
  let y181 : Bool := (fn78 x.1)
  .ret (.inr y181)) (
  let y182 : Bool := (x.2 == (ByteArray.mk #[109]))
  .ite y182 (
  let y183 : Bool := (fn78 x.1)
  .ret (.inr y183)) (
  let y184 : Bool := (x.2 == (ByteArray.mk #[114, 109]))
  .ite y184 (
  let y185 : Bool := (fn78 x.1)
  let y186 : Bool := (y185 == false)
  .ite y186 (
  .ret (.inr y185)) (
  .ret (.inr true))) (
  let y187 : Bool := (x.2 == (ByteArray.mk #[105, 56]))
  .ite y187 (
  .ret (.inr false)) (
  let y188 : Bool := (x.2 == (ByteArray.mk #[117, 56]))
  .ite y188 (
  .ret (.inr false)) (
  let y189 : Bool := (x.2 == (ByteArray.mk #[105, 51, 50]))
  .ite y189 (
  .ret (.inr false)) (
  let y190 : Bool := (x.2 == (ByteArray.mk #[105, 54, 52]))
  .ite y190 (
  .ret (.inr false)) (
  let y191 : Bool := (x.2 == (ByteArray.mk #[120]))
  .ite y191 (
  .ret (.inr false)) (
  let y192 : Bool := (x.2 == (ByteArray.mk #[120, 109]))
  .ite y192 (
  let y193 : Bool := (fn78 x.1)
  .ret (.inr y193)) (
  let y194 : Bool := (x.2 == (ByteArray.mk #[99, 108]))
  .ite y194 (
  let y195 : Bool := (fn78 x.1)
  let y196 : Bool := (y195 == true)
  .ite y196 (
  let y197 : Bool := (ieq y138 1)
  .ret (.inr y197)) (
  .ret (.inr false))) (
  .ret (.inl (.h0)))))))))))))) (
  let y198 : Bool := (x.2 == (ByteArray.mk #[114]))
  .ite y198 (
  let y199 : Bool := (fn78 x.1)
  .ret (.inr y199)) (
  let y200 : Bool := (x.2 == (ByteArray.mk #[109]))
  .ite y200 (
  let y201 : Bool := (fn78 x.1)
  .ret (.inr y201)) (
  let y202 : Bool := (x.2 == (ByteArray.mk #[114, 109]))
  .ite y202 (
  let y203 : Bool := (fn78 x.1)
  let y204 : Bool := (y203 == false)
  .ite y204 (
  .ret (.inr y203)) (
  .ret (.inr true))) (
  let y205 : Bool := (x.2 == (ByteArray.mk #[105, 56]))
  .ite y205 (
  .ret (.inr false)) (
  let y206 : Bool := (x.2 == (ByteArray.mk #[117, 56]))
  .ite y206 (
  .ret (.inr false)) (
  let y207 : Bool := (x.2 == (ByteArray.mk #[105, 51, 50]))
  .ite y207 (
  .ret (.inr false)) (
  let y208 : Bool := (x.2 == (ByteArray.mk #[105, 54, 52]))
  .ite y208 (
  .ret (.inr false)) (
  let y209 : Bool := (x.2 == (ByteArray.mk #[120]))
  .ite y209 (
  .ret (.inr false)) (
  let y210 : Bool := (x.2 == (ByteArray.mk #[120, 109]))
  .ite y210 (
  let y211 : Bool := (fn78 x.1)
  .ret (.inr y211)) (
  let y212 : Bool := (x.2 == (ByteArray.mk #[99, 108]))
  .ite y212 (
  let y213 : Bool := (fn78 x.1)
  let y214 : Bool := (y213 == true)
  .ite y214 (
  let y215 : (Int × (Int × (Int × (Int × (Int × (Bool × Int)))))) := x.1.2
  let y216 : Int := y215.1
  let y217 : Bool := (ieq y216 1)
  .ret (.inr y217)) (
  .ret (.inr false))) (
  .ret (.inl (.h0))))))))))))))) (
  let y218 : Bool := ((ieq y0 3) == true)
  .ite y218 (
  let y219 : (Int × (Int × (Int × (Int × (Int × (Bool × Int)))))) := x.1.2
  let y220 : Int := y219.2.2.2.2.2.2
  .need (pre22 y220) <|
  .ite y1 (
  let y221 : Int := y219.1
  let y222 : Bool := ((ile 16 y221) == true)
  .ite y222 (
  let y223 : Bool := ((ilt y221 32) == true)
  .ite y223 (
  .need (pre24 y221) <|
  let y224 : Bool := (x.2 == (ByteArray.mk #[114]))
  .ite y224 (
  let y225 : Bool := (fn78 x.1)
  .ret (.inr y225)) (
  let y226 : Bool := (x.2 == (ByteArray.mk #[109]))
  .ite y226 (
  .ret (.inr false)) (
  let y227 : Bool := (x.2 == (ByteArray.mk #[114, 109]))
  .ite y227 (
  let y228 : Bool := (fn78 x.1)
  let y229 : Bool := (y228 == false)
  .ite y229 (
  .ret (.inr false)) (
  .ret (.inr true))) (
  let y230 : Bool := (x.2 == (ByteArray.mk #[105, 56]))
  .ite y230 (
  let y231 : Bool := (eqD COperand x.1 (fn22 y220))
  let y232 : Bool := (y231 == true)
  .ite y232 (
  let y233 : Bool := ((ile (-128) y220) == true)
  .ite y233 (
  let y234 : Bool := (ilt y220 128)
  .ret (.inr y234)) (
  .ret (.inr false))) (
  .ret (.inr false))) (
  let y235 : Bool := (x.2 == (ByteArray.mk #[117, 56]))
  .ite y235 (
  let y236 : Bool := (eqD COperand x.1 (fn22 y220))
  let y237 : Bool := (y236 == true)
  .ite y237 (
  let y238 : Bool := ((ile 0 y220) == true)
  .ite y238 (
  let y239 : Bool := (ilt y220 256)
  .ret (.inr y239)) (
  .ret (.inr false))) (
  .ret (.inr false))) (
  let y240 : Bool := (x.2 == (ByteArray.mk #[105, 51, 50]))
  .ite y240 (
  let y241 : Bool := (eqD COperand x.1 (fn22 y220))
  let y242 : Bool := (y241 == true)
  .ite y242 (
  let y243 : Bool := ((ile (-2147483648) y220) == true)
  .ite y243 (
  let y244 : Bool := (ilt y220 2147483648)
  .ret (.inr y244)) (
  .ret (.inr false))) (
  .ret (.inr false))) (
  let y245 : Bool := (x.2 == (ByteArray.mk #[105, 54, 52]))
  .ite y245 (
  let y246 : Bool := (eqD COperand x.1 (fn22 y220))
  .ret (.inr y246)) (
  let y247 : Bool := (x.2 == (ByteArray.mk #[120]))
  .ite y247 (
  let y248 : Bool := (eqD COperand x.1 (fn24 y221))
  .ret (.inr y248)) (
  let y249 : Bool := (x.2 == (ByteArray.mk #[120, 109]))
  .ite y249 (
  let y250 : Bool := (eqD COperand x.1 (fn24 y221))
  let y251 : Bool := (y250 == false)
  .ite y251 (
  .ret (.inr false)) (
  .ret (.inr true))) (
  let y252 : Bool := (x.2 == (ByteArray.mk #[99, 108]))
  .ite y252 (
  let y253 : Bool := (fn78 x.1)
  let y254 : Bool := (y253 == true)
  .ite y254 (
  let y255 : Bool := (ieq y221 1)
  .ret (.inr y255)) (
  .ret (.inr false))) (
  .ret (.inl (.h0))))))))))))) (
  let y256 : Bool := (x.2 == (ByteArray.mk #[114]))
  .ite y256 (
  let y257 : Bool := (fn78 x.1)
  .ret (.inr y257)) (
  let y258 : Bool := (x.2 == (ByteArray.mk #[109]))
  .ite y258 (
  .ret (.inr false)) (
  let y259 : Bool := (x.2 == (ByteArray.mk #[114, 109]))
  .ite y259 (
  let y260 : Bool := (fn78 x.1)
  let y261 : Bool := (y260 == false)
  .ite y261 (
  .ret (.inr false)) (
  .ret (.inr true))) (
  let y262 : Bool := (x.2 == (ByteArray.mk #[105, 56]))
  .ite y262 (
  let y263 : Bool := (eqD COperand x.1 (fn22 y220))
  let y264 : Bool := (y263 == true)
  .ite y264 (
  let y265 : Bool := ((ile (-128) y220) == true)
  .ite y265 (
  let y266 : Bool := (ilt y220 128)
  .ret (.inr y266)) (
  .ret (.inr false))) (
  .ret (.inr false))) (
  let y267 : Bool := (x.2 == (ByteArray.mk #[117, 56]))
  .ite y267 (
  let y268 : Bool := (eqD COperand x.1 (fn22 y220))
  let y269 : Bool := (y268 == true)
  .ite y269 (
  let y270 : Bool := ((ile 0 y220) == true)
  .ite y270 (
  let y271 : Bool := (ilt y220 256)
  .ret (.inr y271)) (
  .ret (.inr false))) (
  .ret (.inr false))) (
  let y272 : Bool := (x.2 == (ByteArray.mk #[105, 51, 50]))
  .ite y272 (
  let y273 : Bool := (eqD COperand x.1 (fn22 y220))
  let y274 : Bool := (y273 == true)
  .ite y274 (
  let y275 : Bool := ((ile (-2147483648) y220) == true)
  .ite y275 (
  let y276 : Bool := (ilt y220 2147483648)
  .ret (.inr y276)) (
  .ret (.inr false))) (
  .ret (.inr false))) (
  let y277 : Bool := (x.2 == (ByteArray.mk #[105, 54, 52]))
  .ite y277 (
  let y278 : Bool := (eqD COperand x.1 (fn22 y220))
  .ret (.inr y278)) (
  let y279 : Bool := (x.2 == (ByteArray.mk #[120]))
  .ite y279 (
  .ret (.inr false)) (
  let y280 : Bool := (x.2 == (ByteArray.mk #[120, 109]))
  .ite y280 (
  .ret (.inr false)) (
  let y281 : Bool := (x.2 == (ByteArray.mk #[99, 108]))
  .ite y281 (
  let y282 : Bool := (fn78 x.1)
  let y283 : Bool := (y282 == true)
  .ite y283 (
  let y284 : Bool := (ieq y221 1)
  .ret (.inr y284)) (
  .ret (.inr false))) (
  .ret (.inl (.h0)))))))))))))) (
  let y285 : Bool := (x.2 == (ByteArray.mk #[114]))
  .ite y285 (
  let y286 : Bool := (fn78 x.1)
  .ret (.inr y286)) (
  let y287 : Bool := (x.2 == (ByteArray.mk #[109]))
  .ite y287 (
  .ret (.inr false)) (
  let y288 : Bool := (x.2 == (ByteArray.mk #[114, 109]))
  .ite y288 (
  let y289 : Bool := (fn78 x.1)
  let y290 : Bool := (y289 == false)
  .ite y290 (
  .ret (.inr false)) (
  .ret (.inr true))) (
  let y291 : Bool := (x.2 == (ByteArray.mk #[105, 56]))
  .ite y291 (
  let y292 : Bool := (eqD COperand x.1 (fn22 y220))
  let y293 : Bool := (y292 == true)
  .ite y293 (
  let y294 : Bool := ((ile (-128) y220) == true)
  .ite y294 (
  let y295 : Bool := (ilt y220 128)
  .ret (.inr y295)) (
  .ret (.inr false))) (
  .ret (.inr false))) (
  let y296 : Bool := (x.2 == (ByteArray.mk #[117, 56]))
  .ite y296 (
  let y297 : Bool := (eqD COperand x.1 (fn22 y220))
  let y298 : Bool := (y297 == true)
  .ite y298 (
  let y299 : Bool := ((ile 0 y220) == true)
  .ite y299 (
  let y300 : Bool := (ilt y220 256)
  .ret (.inr y300)) (
  .ret (.inr false))) (
  .ret (.inr false))) (
  let y301 : Bool := (x.2 == (ByteArray.mk #[105, 51, 50]))
  .ite y301 (
  let y302 : Bool := (eqD COperand x.1 (fn22 y220))
  let y303 : Bool := (y302 == true)
  .ite y303 (
  let y304 : Bool := ((ile (-2147483648) y220) == true)
  .ite y304 (
  let y305 : Bool := (ilt y220 2147483648)
  .ret (.inr y305)) (
  .ret (.inr false))) (
  .ret (.inr false))) (
  let y306 : Bool := (x.2 == (ByteArray.mk #[105, 54, 52]))
  .ite y306 (
  let y307 : Bool := (eqD COperand x.1 (fn22 y220))
  .ret (.inr y307)) (
  let y308 : Bool := (x.2 == (ByteArray.mk #[120]))
  .ite y308 (
  .ret (.inr false)) (
  let y309 : Bool := (x.2 == (ByteArray.mk #[120, 109]))
  .ite y309 (
  .ret (.inr false)) (
  let y310 : Bool := (x.2 == (ByteArray.mk #[99, 108]))
  .ite y310 (
  let y311 : Bool := (fn78 x.1)
  let y312 : Bool := (y311 == true)
  .ite y312 (
  let y313 : Bool := (ieq y221 1)
  .ret (.inr y313)) (
  .ret (.inr false))) (
  .ret (.inl (.h0)))))))))))))) (
  let y314 : Bool := (x.2 == (ByteArray.mk #[114]))
  .ite y314 (
  let y315 : Bool := (fn78 x.1)
  .ret (.inr y315)) (
  let y316 : Bool := (x.2 == (ByteArray.mk #[109]))
  .ite y316 (
  .ret (.inr false)) (
  let y317 : Bool := (x.2 == (ByteArray.mk #[114, 109]))
  .ite y317 (
  let y318 : Bool := (fn78 x.1)
  let y319 : Bool := (y318 == false)
  .ite y319 (
  .ret (.inr false)) (
  .ret (.inr true))) (
  let y320 : Bool := (x.2 == (ByteArray.mk #[105, 56]))
  .ite y320 (
  let y321 : Bool := (eqD COperand x.1 (fn22 y220))
  let y322 : Bool := (y321 == true)
  .ite y322 (
  let y323 : Bool := ((ile (-128) y220) == true)
  .ite y323 (
  let y324 : Bool := (ilt y220 128)
  .ret (.inr y324)) (
  .ret (.inr false))) (
  .ret (.inr false))) (
  let y325 : Bool := (x.2 == (ByteArray.mk #[117, 56]))
  .ite y325 (
  let y326 : Bool := (eqD COperand x.1 (fn22 y220))
  let y327 : Bool := (y326 == true)
  .ite y327 (
  let y328 : Bool := ((ile 0 y220) == true)
  .ite y328 (
  let y329 : Bool := (ilt y220 256)
  .ret (.inr y329)) (
  .ret (.inr false))) (
  .ret (.inr false))) (
  let y330 : Bool := (x.2 == (ByteArray.mk #[105, 51, 50]))
  .ite y330 (
  let y331 : Bool := (eqD COperand x.1 (fn22 y220))
  let y332 : Bool := (y331 == true)
  .ite y332 (
  let y333 : Bool := ((ile (-2147483648) y220) == true)
  .ite y333 (
  let y334 : Bool := (ilt y220 2147483648)
  .ret (.inr y334)) (
  .ret (.inr false))) (
  .ret (.inr false))) (
  let y335 : Bool := (x.2 == (ByteArray.mk #[105, 54, 52]))
  .ite y335 (
  let y336 : Bool := (eqD COperand x.1 (fn22 y220))
  .ret (.inr y336)) (
  let y337 : Bool := (x.2 == (ByteArray.mk #[120]))
  .ite y337 (
  .ret (.inr false)) (
  let y338 : Bool := (x.2 == (ByteArray.mk #[120, 109]))
  .ite y338 (
  .ret (.inr false)) (
  let y339 : Bool := (x.2 == (ByteArray.mk #[99, 108]))
  .ite y339 (
  let y340 : Bool := (fn78 x.1)
  let y341 : Bool := (y340 == true)
  .ite y341 (
  let y342 : Int := y219.1
  let y343 : Bool := (ieq y342 1)
  .ret (.inr y343)) (
  .ret (.inr false))) (
  .ret (.inl (.h0)))))))))))))) (
  .ite y1 (
  let y344 : (Int × (Int × (Int × (Int × (Int × (Bool × Int)))))) := x.1.2
  let y345 : Int := y344.1
  let y346 : Bool := ((ile 16 y345) == true)
  .ite y346 (
  let y347 : Bool := ((ilt y345 32) == true)
  .ite y347 (
  .need (pre24 y345) <|
  let y348 : Bool := (x.2 == (ByteArray.mk #[114]))
  .ite y348 (
  let y349 : Bool := (fn78 x.1)
  .ret (.inr y349)) (
  let y350 : Bool := (x.2 == (ByteArray.mk #[109]))
  .ite y350 (
  .ret (.inr false)) (
  let y351 : Bool := (x.2 == (ByteArray.mk #[114, 109]))
  .ite y351 (
  let y352 : Bool := (fn78 x.1)
  let y353 : Bool := (y352 == false)
  .ite y353 (
  .ret (.inr false)) (
  .ret (.inr true))) (
  let y354 : Bool := (x.2 == (ByteArray.mk #[105, 56]))
  .ite y354 (
  .ret (.inr false)) (
  let y355 : Bool := (x.2 == (ByteArray.mk #[117, 56]))
  .ite y355 (
  .ret (.inr false)) (
  let y356 : Bool := (x.2 == (ByteArray.mk #[105, 51, 50]))
  .ite y356 (
  .ret (.inr false)) (
  let y357 : Bool := (x.2 == (ByteArray.mk #[105, 54, 52]))
  .ite y357 (
  .ret (.inr false)) (
  let y358 : Bool := (x.2 == (ByteArray.mk #[120]))
  .ite y358 (
  let y359 : Bool := (eqD COperand x.1 (fn24 y345))
  .ret (.inr y359)) (
  let y360 : Bool := (x.2 == (ByteArray.mk #[120, 109]))
  .ite y360 (
  let y361 : Bool := (eqD COperand x.1 (fn24 y345))
  let y362 : Bool := (y361 == false)
  .ite y362 (
  .ret (.inr false)) (
  .ret (.inr true))) (
  let y363 : Bool := (x.2 == (ByteArray.mk #[99, 108]))
  .ite y363 (
  let y364 : Bool := (fn78 x.1)
  let y365 : Bool := (y364 == true)
  .ite y365 (
  let y366 : Bool := (ieq y345 1)
  .ret (.inr y366)) (
  .ret (.inr false))) (
  .ret (.inl (.h0))))))))))))) (
  let y367 : Bool := (x.2 == (ByteArray.mk #[114]))
  .ite y367 (
  let y368 : Bool := (fn78 x.1)
  .ret (.inr y368)) (
  let y369 : Bool := (x.2 == (ByteArray.mk #[109]))
  .ite y369 (
  .ret (.inr false)) (
  let y370 : Bool := (x.2 == (ByteArray.mk #[114, 109]))
  .ite y370 (
  let y371 : Bool := (fn78 x.1)
  let y372 : Bool := (y371 == false)
  .ite y372 (
  .ret (.inr false)) (
  .ret (.inr true))) (
  let y373 : Bool := (x.2 == (ByteArray.mk #[105, 56]))
  .ite y373 (
  .ret (.inr false)) (
  let y374 : Bool := (x.2 == (ByteArray.mk #[117, 56]))
  .ite y374 (
  .ret (.inr false)) (
  let y375 : Bool := (x.2 == (ByteArray.mk #[105, 51, 50]))
  .ite y375 (
  .ret (.inr false)) (
  let y376 : Bool := (x.2 == (ByteArray.mk #[105, 54, 52]))
  .ite y376 (
  .ret (.inr false)) (
  let y377 : Bool := (x.2 == (ByteArray.mk #[120]))
  .ite y377 (
  .ret (.inr false)) (
  let y378 : Bool := (x.2 == (ByteArray.mk #[120, 109]))
  .ite y378 (
  .ret (.inr false)) (
  let y379 : Bool := (x.2 == (ByteArray.mk #[99, 108]))
  .ite y379 (
  let y380 : Bool := (fn78 x.1)
  let y381 : Bool := (y380 == true)
  .ite y381 (
  let y382 : Bool := (ieq y345 1)
  .ret (.inr y382)) (
  .ret (.inr false))) (
  .ret (.inl (.h0)))))))))))))) (
  let y383 : Bool := (x.2 == (ByteArray.mk #[114]))
  .ite y383 (
  let y384 : Bool := (fn78 x.1)
  .ret (.inr y384)) (
  let y385 : Bool := (x.2 == (ByteArray.mk #[109]))
  .ite y385 (
  .ret (.inr false)) (
  let y386 : Bool := (x.2 == (ByteArray.mk #[114, 109]))
  .ite y386 (
  let y387 : Bool := (fn78 x.1)
  let y388 : Bool := (y387 == false)
  .ite y388 (
  .ret (.inr false)) (
  .ret (.inr true))) (
  let y389 : Bool := (x.2 == (ByteArray.mk #[105, 56]))
  .ite y389 (
  .ret (.inr false)) (
  let y390 : Bool := (x.2 == (ByteArray.mk #[117, 56]))
  .ite y390 (
  .ret (.inr false)) (
  let y391 : Bool := (x.2 == (ByteArray.mk #[105, 51, 50]))
  .ite y391 (
  .ret (.inr false)) (
  let y392 : Bool := (x.2 == (ByteArray.mk #[105, 54, 52]))
  .ite y392 (
  .ret (.inr false)) (
  let y393 : Bool := (x.2 == (ByteArray.mk #[120]))
  .ite y393 (
  .ret (.inr false)) (
  let y394 : Bool := (x.2 == (ByteArray.mk #[120, 109]))
  .ite y394 (
  .ret (.inr false)) (
  let y395 : Bool := (x.2 == (ByteArray.mk #[99, 108]))
  .ite y395 (
  let y396 : Bool := (fn78 x.1)
  let y397 : Bool := (y396 == true)
  .ite y397 (
  let y398 : Bool := (ieq y345 1)
  .ret (.inr y398)) (
  .ret (.inr false))) (
  .ret (.inl (.h0)))))))))))))) (
  let y399 : Bool := (x.2 == (ByteArray.mk #[114]))
  .ite y399 (
  let y400 : Bool := (fn78 x.1)
  .ret (.inr y400)) (
  let y401 : Bool := (x.2 == (ByteArray.mk #[109]))
  .ite y401 (
  .ret (.inr false)) (
  let y402 : Bool := (x.2 == (ByteArray.mk #[114, 109]))
  .ite y402 (
  let y403 : Bool := (fn78 x.1)
  let y404 : Bool := (y403 == false)
  .ite y404 (
  .ret (.inr false)) (
  .ret (.inr true))) (
  let y405 : Bool := (x.2 == (ByteArray.mk #[105, 56]))
  .ite y405 (
  .ret (.inr false)) (
  let y406 : Bool := (x.2 == (ByteArray.mk #[117, 56]))
  .ite y406 (
  .ret (.inr false)) (
  let y407 : Bool := (x.2 == (ByteArray.mk #[105, 51, 50]))
  .ite y407 (
  .ret (.inr false)) (
  let y408 : Bool := (x.2 == (ByteArray.mk #[105, 54, 52]))
  .ite y408 (
  .ret (.inr false)) (
  let y409 : Bool := (x.2 == (ByteArray.mk #[120]))
  .ite y409 (
  .ret (.inr false)) (
  let y410 : Bool := (x.2 == (ByteArray.mk #[120, 109]))
  .ite y410 (
  .ret (.inr false)) (
  let y411 : Bool := (x.2 == (ByteArray.mk #[99, 108]))
  .ite y411 (
  let y412 : Bool := (fn78 x.1)
  let y413 : Bool := (y412 == true)
  .ite y413 (
  let y414 : (Int × (Int × (Int × (Int × (Int × (Bool × Int)))))) := x.1.2
  let y415 : Int := y414.1
  let y416 : Bool := (ieq y415 1)
  .ret (.inr y416)) (
  .ret (.inr false))) (
  .ret (.inl (.h0)))))))))))))))) (
  let y417 : Bool := ((ieq y0 2) == true)
  .ite y417 (
  .need (pre78 x.1) <|
  let y418 : Bool := ((ieq y0 3) == true)
  .ite y418 (
  let y419 : (Int × (Int × (Int × (Int × (Int × (Bool × Int)))))) := x.1.2
  let y420 : Int := y419.2.2.2.2.2.2
  .need (pre22 y420) <|
  .ite y1 (
  let y421 : Int := y419.1
  let y422 : Bool := ((ile 16 y421) == true)
  .ite y422 (
  let y423 : Bool := ((ilt y421 32) == true)
  .ite y423 (
  .need (pre24 y421) <|
  let y424 : Bool := (x.2 == (ByteArray.mk #[114]))
  .ite y424 (
  .ret (.inr false)) (
  let y425 : Bool := (x.2 == (ByteArray.mk #[109]))
  .ite y425 (
  let y426 : Bool := (fn78 x.1)
  .ret (.inr y426)) (
  let y427 : Bool := (x.2 == (ByteArray.mk #[114, 109]))
  .ite y427 (
  let y428 : Bool := (fn78 x.1)
  .ret (.inr y428)) (
  let y429 : Bool := (x.2 == (ByteArray.mk #[105, 56]))
  .ite y429 (
  let y430 : Bool := (eqD COperand x.1 (fn22 y420))
  let y431 : Bool := (y430 == true)
  .ite y431 (
  let y432 : Bool := ((ile (-128) y420) == true)
  .ite y432 (
  let y433 : Bool := (ilt y420 128)
  .ret (.inr y433)) (
  .ret (.inr false))) (
  .ret (.inr false))) (
  let y434 : Bool := (x.2 == (ByteArray.mk #[117, 56]))
  .ite y434 (
  let y435 : Bool := (eqD COperand x.1 (fn22 y420))
  let y436 : Bool := (y435 == true)
  .ite y436 (
  let y437 : Bool := ((ile 0 y420) == true)
  .ite y437 (
  let y438 : Bool := (ilt y420 256)
  .ret (.inr y438)) (
  .ret (.inr false))) (
  .ret (.inr false))) (
  let y439 : Bool := (x.2 == (ByteArray.mk #[105, 51, 50]))
  .ite y439 (
  let y440 : Bool := (eqD COperand x.1 (fn22 y420))
  let y441 : Bool := (y440 == true)
  .ite y441 (
  let y442 : Bool := ((ile (-2147483648) y420) == true)
  .ite y442 (
  let y443 : Bool := (ilt y420 2147483648)
  .ret (.inr y443)) (
  .ret (.inr false))) (
  .ret (.inr false))) (
  let y444 : Bool := (x.2 == (ByteArray.mk #[105, 54, 52]))
  .ite y444 (
  let y445 : Bool := (eqD COperand x.1 (fn22 y420))
  .ret (.inr y445)) (
  let y446 : Bool := (x.2 == (ByteArray.mk #[120]))
  .ite y446 (
  let y447 : Bool := (eqD COperand x.1 (fn24 y421))
  .ret (.inr y447)) (
  let y448 : Bool := (x.2 == (ByteArray.mk #[120, 109]))
  .ite y448 (
  let y449 : Bool := (eqD COperand x.1 (fn24 y421))
  let y450 : Bool := (y449 == false)
  .ite y450 (
  let y451 : Bool := (fn78 x.1)
  .ret (.inr y451)) (
  .ret (.inr true))) (
  let y452 : Bool := (x.2 == (ByteArray.mk #[99, 108]))
  .ite y452 (
  .ret (.inr false)) (
  .ret (.inl (.h0))))))))))))) (
  let y453 : Bool := (x.2 == (ByteArray.mk #[114]))
  .ite y453 (
  .ret (.inr false)) (
  let y454 : Bool := (x.2 == (ByteArray.mk #[109]))
  .ite y454 (
  let y455 : Bool := (fn78 x.1)
  .ret (.inr y455)) (
  let y456 : Bool := (x.2 == (ByteArray.mk #[114, 109]))
  .ite y456 (
  let y457 : Bool := (fn78 x.1)
  .ret (.inr y457)) (
  let y458 : Bool := (x.2 == (ByteArray.mk #[105, 56]))
  .ite y458 (
  let y459 : Bool := (eqD COperand x.1 (fn22 y420))
  let y460 : Bool := (y459 == true)
  .ite y460 (
  let y461 : Bool := ((ile (-128) y420) == true)
  .ite y461 (
  let y462 : Bool := (ilt y420 128)
  .ret (.inr y462)) (
  .ret (.inr false))) (
  .ret (.inr false))) (
  let y463 : Bool := (x.2 == (ByteArray.mk #[117, 56]))
  .ite y463 (
  let y464 : Bool := (eqD COperand x.1 (fn22 y420))
  let y465 : Bool := (y464 == true)
  .ite y465 (
  let y466 : Bool := ((ile 0 y420) == true)
  .ite y466 (
  let y467 : Bool := (ilt y420 256)
  .ret (.inr y467)) (
  .ret (.inr false))) (
  .ret (.inr false))) (
  let y468 : Bool := (x.2 == (ByteArray.mk #[105, 51, 50]))
  .ite y468 (
  let y469 : Bool := (eqD COperand x.1 (fn22 y420))
  let y470 : Bool := (y469 == true)
  .ite y470 (
  let y471 : Bool := ((ile (-2147483648) y420) == true)
  .ite y471 (
  let y472 : Bool := (ilt y420 2147483648)
  .ret (.inr y472)) (
  .ret (.inr false))) (
  .ret (.inr false))) (
  let y473 : Bool := (x.2 == (ByteArray.mk #[105, 54, 52]))
  .ite y473 (
  let y474 : Bool := (eqD COperand x.1 (fn22 y420))
  .ret (.inr y474)) (
  let y475 : Bool := (x.2 == (ByteArray.mk #[120]))
  .ite y475 (
  .ret (.inr false)) (
  let y476 : Bool := (x.2 == (ByteArray.mk #[120, 109]))
  .ite y476 (
  let y477 : Bool := (fn78 x.1)
  .ret (.inr y477)) (
  let y478 : Bool := (x.2 == (ByteArray.mk #[99, 108]))
  .ite y478 (
  .ret (.inr false)) (
  .ret (.inl (.h0)))))))))))))) (
  let y479 : Bool := (x.2 == (ByteArray.mk #[114]))
  .ite y479 (
  .ret (.inr false)) (
  let y480 : Bool := (x.2 == (ByteArray.mk #[109]))
  .ite y480 (
  let y481 : Bool := (fn78 x.1)
  .ret (.inr y481)) (
  let y482 : Bool := (x.2 == (ByteArray.mk #[114, 109]))
  .ite y482 (
  let y483 : Bool := (fn78 x.1)
  .ret (.inr y483)) (
  let y484 : Bool := (x.2 == (ByteArray.mk #[105, 56]))
  .ite y484 (
  let y485 : Bool := (eqD COperand x.1 (fn22 y420))
  let y486 : Bool := (y485 == true)
  .ite y486 (
  let y487 : Bool := ((ile (-128) y420) == true)
  .ite y487 (
  let y488 : Bool := (ilt y420 128)
  .ret (.inr y488)) (
  .ret (.inr false))) (
  .ret (.inr false))) (
  let y489 : Bool := (x.2 == (ByteArray.mk #[117, 56]))
  .ite y489 (
  let y490 : Bool := (eqD COperand x.1 (fn22 y420))
  let y491 : Bool := (y490 == true)
  .ite y491 (
  let y492 : Bool := ((ile 0 y420) == true)
  .ite y492 (
  let y493 : Bool := (ilt y420 256)
  .ret (.inr y493)) (
  .ret (.inr false))) (
  .ret (.inr false))) (
  let y494 : Bool := (x.2 == (ByteArray.mk #[105, 51, 50]))
  .ite y494 (
  let y495 : Bool := (eqD COperand x.1 (fn22 y420))
  let y496 : Bool := (y495 == true)
  .ite y496 (
  let y497 : Bool := ((ile (-2147483648) y420) == true)
  .ite y497 (
  let y498 : Bool := (ilt y420 2147483648)
  .ret (.inr y498)) (
  .ret (.inr false))) (
  .ret (.inr false))) (
  let y499 : Bool := (x.2 == (ByteArray.mk #[105, 54, 52]))
  .ite y499 (
  let y500 : Bool := (eqD COperand x.1 (fn22 y420))
  .ret (.inr y500)) (
  let y501 : Bool := (x.2 == (ByteArray.mk #[120]))
  .ite y501 (
  .ret (.inr false)) (
  let y502 : Bool := (x.2 == (ByteArray.mk #[120, 109]))
  .ite y502 (
  let y503 : Bool := (fn78 x.1)
  .ret (.inr y503)) (
  let y504 : Bool := (x.2 == (ByteArray.mk #[99, 108]))
  .ite y504 (
  .ret (.inr false)) (
  .ret (.inl (.h0)))))))))))))) (
  let y505 : Bool := (x.2 == (ByteArray.mk #[114]))
  .ite y505 (
  .ret (.inr false)) (
  let y506 : Bool := (x.2 == (ByteArray.mk #[109]))
  .ite y506 (
  let y507 : Bool := (fn78 x.1)
  .ret (.inr y507)) (
  let y508 : Bool := (x.2 == (ByteArray.mk #[114, 109]))
  .ite y508 (
  let y509 : Bool := (fn78 x.1)
  .ret (.inr y509)) (
  let y510 : Bool := (x.2 == (ByteArray.mk #[105, 56]))
  .ite y510 (
  let y511 : Bool := (eqD COperand x.1 (fn22 y420))
  let y512 : Bool := (y511 == true)
  .ite y512 (
  let y513 : Bool := ((ile (-128) y420) == true)
  .ite y513 (
  let y514 : Bool := (ilt y420 128)
  .ret (.inr y514)) (
  .ret (.inr false))) (
  .ret (.inr false))) (
  let y515 : Bool := (x.2 == (ByteArray.mk #[117, 56]))
  .ite y515 (
  let y516 : Bool := (eqD COperand x.1 (fn22 y420))
  let y517 : Bool := (y516 == true)
  .ite y517 (
  let y518 : Bool := ((ile 0 y420) == true)
  .ite y518 (
  let y519 : Bool := (ilt y420 256)
  .ret (.inr y519)) (
  .ret (.inr false))) (
  .ret (.inr false))) (
  let y520 : Bool := (x.2 == (ByteArray.mk #[105, 51, 50]))
  .ite y520 (
  let y521 : Bool := (eqD COperand x.1 (fn22 y420))
  let y522 : Bool := (y521 == true)
  .ite y522 (
  let y523 : Bool := ((ile (-2147483648) y420) == true)
  .ite y523 (
  let y524 : Bool := (ilt y420 2147483648)
  .ret (.inr y524)) (
  .ret (.inr false))) (
  .ret (.inr false))) (
  let y525 : Bool := (x.2 == (ByteArray.mk #[105, 54, 52]))
  .ite y525 (
  let y526 : Bool := (eqD COperand x.1 (fn22 y420))
  .ret (.inr y526)) (
  let y527 : Bool := (x.2 == (ByteArray.mk #[120]))
  .ite y527 (
  .ret (.inr false)) (
  let y528 : Bool := (x.2 == (ByteArray.mk #[120, 109]))
  .ite y528 (
  let y529 : Bool := (fn78 x.1)
  .ret (.inr y529)) (
  let y530 : Bool := (x.2 == (ByteArray.mk #[99, 108]))
  .ite y530 (
  .ret (.inr false)) (
  .ret (.inl (.h0)))))))))))))) (
  .ite y1 (
  let y531 : (Int × (Int × (Int × (Int × (Int × (Bool × Int)))))) := x.1.2
  let y532 : Int := y531.1
  let y533 : Bool := ((ile 16 y532) == true)
  .ite y533 (
  let y534 : Bool := ((ilt y532 32) == true)
  .ite y534 (
  .need (pre24 y532) <|
  let y535 : Bool := (x.2 == (ByteArray.mk #[114]))
  .ite y535 (
  .ret (.inr false)) (
  let y536 : Bool := (x.2 == (ByteArray.mk #[109]))
  .ite y536 (
  let y537 : Bool := (fn78 x.1)
  .ret (.inr y537)) (
  let y538 : Bool := (x.2 == (ByteArray.mk #[114, 109]))
  .ite y538 (
  let y539 : Bool := (fn78 x.1)
  .ret (.inr y539)) (
  let y540 : Bool := (x.2 == (ByteArray.mk #[105, 56]))
  .ite y540 (
  .ret (.inr false)) (
  let y541 : Bool := (x.2 == (ByteArray.mk #[117, 56]))
  .ite y541 (
  .ret (.inr false)) (
  let y542 : Bool := (x.2 == (ByteArray.mk #[105, 51, 50]))
  .ite y542 (
  .ret (.inr false)) (
  let y543 : Bool := (x.2 == (ByteArray.mk #[105, 54, 52]))
  .ite y543 (
  .ret (.inr false)) (
  let y544 : Bool := (x.2 == (ByteArray.mk #[120]))
  .ite y544 (
  let y545 : Bool := (eqD COperand x.1 (fn24 y532))
  .ret (.inr y545)) (
  let y546 : Bool := (x.2 == (ByteArray.mk #[120, 109]))
  .ite y546 (
  let y547 : Bool := (eqD COperand x.1 (fn24 y532))
  let y548 : Bool := (y547 == false)
  .ite y548 (
  let y549 : Bool := (fn78 x.1)
  .ret (.inr y549)) (
  .ret (.inr true))) (
  let y550 : Bool := (x.2 == (ByteArray.mk #[99, 108]))
  .ite y550 (
  .ret (.inr false)) (
  .ret (.inl (.h0))))))))))))) (
  let y551 : Bool := (x.2 == (ByteArray.mk #[114]))
  .ite y551 (
  .ret (.inr false)) (
  let y552 : Bool := (x.2 == (ByteArray.mk #[109]))
  .ite y552 (
  let y553 : Bool := (fn78 x.1)
  .ret (.inr y553)) (
  let y554 : Bool := (x.2 == (ByteArray.mk #[114, 109]))
  .ite y554 (
  let y555 : Bool := (fn78 x.1)
  .ret (.inr y555)) (
  let y556 : Bool := (x.2 == (ByteArray.mk #[105, 56]))
  .ite y556 (
  .ret (.inr false)) (
  let y557 : Bool := (x.2 == (ByteArray.mk #[117, 56]))
  .ite y557 (
  .ret (.inr false)) (
  let y558 : Bool := (x.2 == (ByteArray.mk #[105, 51, 50]))
  .ite y558 (
  .ret (.inr false)) (
  let y559 : Bool := (x.2 == (ByteArray.mk #[105, 54, 52]))
  .ite y559 (
  .ret (.inr false)) (
  let y560 : Bool := (x.2 == (ByteArray.mk #[120]))
  .ite y560 (
  .ret (.inr false)) (
  let y561 : Bool := (x.2 == (ByteArray.mk #[120, 109]))
  .ite y561 (
  let y562 : Bool := (fn78 x.1)
  .ret (.inr y562)) (
  let y563 : Bool := (x.2 == (ByteArray.mk #[99, 108]))
  .ite y563 (
  .ret (.inr false)) (
  .ret (.inl (.h0)))))))))))))) (
  let y564 : Bool := (x.2 == (ByteArray.mk #[114]))
  .ite y564 (
  .ret (.inr false)) (
  let y565 : Bool := (x.2 == (ByteArray.mk #[109]))
  .ite y565 (
  let y566 : Bool := (fn78 x.1)
  .ret (.inr y566)) (
  let y567 : Bool := (x.2 == (ByteArray.mk #[114, 109]))
  .ite y567 (
  let y568 : Bool := (fn78 x.1)
  .ret (.inr y568)) (
  let y569 : Bool := (x.2 == (ByteArray.mk #[105, 56]))
  .ite y569 (
  .ret (.inr false)) (
  let y570 : Bool := (x.2 == (ByteArray.mk #[117, 56]))
  .ite y570 (
  .ret (.inr false)) (
  let y571 : Bool := (x.2 == (ByteArray.mk #[105, 51, 50]))
  .ite y571 (
  .ret (.inr false)) (
  let y572 : Bool := (x.2 == (ByteArray.mk #[105, 54, 52]))
  .ite y572 (
  .ret (.inr false)) (
  let y573 : Bool := (x.2 == (ByteArray.mk #[120]))
  .ite y573 (
  .ret (.inr false)) (
  let y574 : Bool := (x.2 == (ByteArray.mk #[120, 109]))
  .ite y574 (
  let y575 : Bool := (fn78 x.1)
  .ret (.inr y575)) (
  let y576 : Bool := (x.2 == (ByteArray.mk #[99, 108]))
  .ite y576 (
  .ret (.inr false)) (
  .ret (.inl (.h0)))))))))))))) (
  let y577 : Bool := (x.2 == (ByteArray.mk #[114]))
  .ite y577 (
  .ret (.inr false)) (
  let y578 : Bool := (x.2 == (ByteArray.mk #[109]))
  .ite y578 (
  let y579 : Bool := (fn78 x.1)
  .ret (.inr y579)) (
  let y580 : Bool := (x.2 == (ByteArray.mk #[114, 109]))
  .ite y580 (
  let y581 : Bool := (fn78 x.1)
  .ret (.inr y581)) (
  let y582 : Bool := (x.2 == (ByteArray.mk #[105, 56]))
  .ite y582 (
  .ret (.inr false)) (
  let y583 : Bool := (x.2 == (ByteArray.mk #[117, 56]))
  .ite y583 (
  .ret (.inr false)) (
  let y584 : Bool := (x.2 == (ByteArray.mk #[105, 51, 50]))
  .ite y584 (
  .ret (.inr false)) (
  let y585 : Bool := (x.2 == (ByteArray.mk #[105, 54, 52]))
  .ite y585 (
  .ret (.inr false)) (
  let y586 : Bool := (x.2 == (ByteArray.mk #[120]))
  .ite y586 (
  .ret (.inr false)) (
  let y587 : Bool := (x.2 == (ByteArray.mk #[120, 109]))
  .ite y587 (
  let y588 : Bool := (fn78 x.1)
  .ret (.inr y588)) (
  let y589 : Bool := (x.2 == (ByteArray.mk #[99, 108]))
  .ite y589 (
  .ret (.inr false)) (
  .ret (.inl (.h0))))))))))))))) (
  let y590 : Bool := ((ieq y0 3) == true)
  .ite y590 (
  let y591 : (Int × (Int × (Int × (Int × (Int × (Bool × Int)))))) := x.1.2
  let y592 : Int := y591.2.2.2.2.2.2
  .need (pre22 y592) <|
  .ite y1 (
  let y593 : Int := y591.1
  let y594 : Bool := ((ile 16 y593) == true)
  .ite y594 (
  let y595 : Bool := ((ilt y593 32) == true)
  .ite y595 (
  .need (pre24 y593) <|
  let y596 : Bool := (x.2 == (ByteArray.mk #[114]))
  .ite y596 (
  .ret (.inr false)) (
  let y597 : Bool := (x.2 == (ByteArray.mk #[109]))
  .ite y597 (
  .ret (.inr false)) (
  let y598 : Bool := (x.2 == (ByteArray.mk #[114, 109]))
  .ite y598 (
  .ret (.inr false)) (
  let y599 : Bool := (x.2 == (ByteArray.mk #[105, 56]))
  .ite y599 (
  let y600 : Bool := (eqD COperand x.1 (fn22 y592))
  let y601 : Bool := (y600 == true)
  .ite y601 (
  let y602 : Bool := ((ile (-128) y592) == true)
  .ite y602 (
  let y603 : Bool := (ilt y592 128)
  .ret (.inr y603)) (
  .ret (.inr false))) (
  .ret (.inr false))) (
  let y604 : Bool := (x.2 == (ByteArray.mk #[117, 56]))
  .ite y604 (
  let y605 : Bool := (eqD COperand x.1 (fn22 y592))
  let y606 : Bool := (y605 == true)
  .ite y606 (
  let y607 : Bool := ((ile 0 y592) == true)
  .ite y607 (
  let y608 : Bool := (ilt y592 256)
  .ret (.inr y608)) (
  .ret (.inr false))) (
  .ret (.inr false))) (
  let y609 : Bool := (x.2 == (ByteArray.mk #[105, 51, 50]))
  .ite y609 (
  let y610 : Bool := (eqD COperand x.1 (fn22 y592))
  let y611 : Bool := (y610 == true)
  .ite y611 (
  let y612 : Bool := ((ile (-2147483648) y592) == true)
  .ite y612 (
  let y613 : Bool := (ilt y592 2147483648)
  .ret (.inr y613)) (
  .ret (.inr false))) (
  .ret (.inr false))) (
  let y614 : Bool := (x.2 == (ByteArray.mk #[105, 54, 52]))
  .ite y614 (
  let y615 : Bool := (eqD COperand x.1 (fn22 y592))
  .ret (.inr y615)) (
  let y616 : Bool := (x.2 == (ByteArray.mk #[120]))
  .ite y616 (
  let y617 : Bool := (eqD COperand x.1 (fn24 y593))
  .ret (.inr y617)) (
  let y618 : Bool := (x.2 == (ByteArray.mk #[120, 109]))
  .ite y618 (
  let y619 : Bool := (eqD COperand x.1 (fn24 y593))
  let y620 : Bool := (y619 == false)
  .ite y620 (
  .ret (.inr false)) (
  .ret (.inr true))) (
  let y621 : Bool := (x.2 == (ByteArray.mk #[99, 108]))
  .ite y621 (
  .ret (.inr false)) (
  .ret (.inl (.h0))))))))))))) (
  let y622 : Bool := (x.2 == (ByteArray.mk #[114]))
  .ite y622 (
  .ret (.inr false)) (
  let y623 : Bool := (x.2 == (ByteArray.mk #[109]))
  .ite y623 (
  .ret (.inr false)) (
  let y624 : Bool := (x.2 == (ByteArray.mk #[114, 109]))
  .ite y624 (
  .ret (.inr false)) (
  let y625 : Bool := (x.2 == (ByteArray.mk #[105, 56]))
  .ite y625 (
  let y626 : Bool := (eqD COperand x.1 (fn22 y592))
  let y627 : Bool := (y626 == true)
  .ite y627 (
  let y628 : Bool := ((ile (-128) y592) == true)
  .ite y628 (
  let y629 : Bool := (ilt y592 128)
  .ret (.inr y629)) (
  .ret (.inr false))) (
  .ret (.inr false))) (
  let y630 : Bool := (x.2 == (ByteArray.mk #[117, 56]))
  .ite y630 (
  let y631 : Bool := (eqD COperand x.1 (fn22 y592))
  let y632 : Bool := (y631 == true)
  .ite y632 (
  let y633 : Bool := ((ile 0 y592) == true)
  .ite y633 (
  let y634 : Bool := (ilt y592 256)
  .ret (.inr y634)) (
  .ret (.inr false))) (
  .ret (.inr false))) (
  let y635 : Bool := (x.2 == (ByteArray.mk #[105, 51, 50]))
  .ite y635 (
  let y636 : Bool := (eqD COperand x.1 (fn22 y592))
  let y637 : Bool := (y636 == true)
  .ite y637 (
  let y638 : Bool := ((ile (-2147483648) y592) == true)
  .ite y638 (
  let y639 : Bool := (ilt y592 2147483648)
  .ret (.inr y639)) (
  .ret (.inr false))) (
  .ret (.inr false))) (
  let y640 : Bool := (x.2 == (ByteArray.mk #[105, 54, 52]))
  .ite y640 (
  let y641 : Bool := (eqD COperand x.1 (fn22 y592))
  .ret (.inr y641)) (
  let y642 : Bool := (x.2 == (ByteArray.mk #[120]))
  .ite y642 (
  .ret (.inr false)) (
  let y643 : Bool := (x.2 == (ByteArray.mk #[120, 109]))
  .ite y643 (
  .ret (.inr false)) (
  let y644 : Bool := (x.2 == (ByteArray.mk #[99, 108]))
  .ite y644 (
  .ret (.inr false)) (
  .ret (.inl (.h0)))))))))))))) (
  let y645 : Bool := (x.2 == (ByteArray.mk #[114]))
  .ite y645 (
  .ret (.inr false)) (
  let y646 : Bool := (x.2 == (ByteArray.mk #[109]))
  .ite y646 (
  .ret (.inr false)) (
  let y647 : Bool := (x.2 == (ByteArray.mk #[114, 109]))
  .ite y647 (
  .ret (.inr false)) (
  let y648 : Bool := (x.2 == (ByteArray.mk #[105, 56]))
  .ite y648 (
  let y649 : Bool := (eqD COperand x.1 (fn22 y592))
  let y650 : Bool := (y649 == true)
  .ite y650 (
  let y651 : Bool := ((ile (-128) y592) == true)
  .ite y651 (
  let y652 : Bool := (ilt y592 128)
  .ret (.inr y652)) (
  .ret (.inr false))) (
  .ret (.inr false))) (
  let y653 : Bool := (x.2 == (ByteArray.mk #[117, 56]))
  .ite y653 (
  let y654 : Bool := (eqD COperand x.1 (fn22 y592))
  let y655 : Bool := (y654 == true)
  .ite y655 (
  let y656 : Bool := ((ile 0 y592) == true)
  .ite y656 (
  let y657 : Bool := (ilt y592 256)
  .ret (.inr y657)) (
  .ret (.inr false))) (
  .ret (.inr false))) (
  let y658 : Bool := (x.2 == (ByteArray.mk #[105, 51, 50]))
  .ite y658 (
  let y659 : Bool := (eqD COperand x.1 (fn22 y592))
  let y660 : Bool := (y659 == true)
  .ite y660 (
  let y661 : Bool := ((ile (-2147483648) y592) == true)
  .ite y661 (
  let y662 : Bool := (ilt y592 2147483648)
  .ret (.inr y662)) (
  .ret (.inr false))) (
  .ret (.inr false))) (
  let y663 : Bool := (x.2 == (ByteArray.mk #[105, 54, 52]))
  .ite y663 (
  let y664 : Bool := (eqD COperand x.1 (fn22 y592))
  .ret (.inr y664)) (
  let y665 : Bool := (x.2 == (ByteArray.mk #[120]))
  .ite y665 (
  .ret (.inr false)) (
  let y666 : Bool := (x.2 == (ByteArray.mk #[120, 109]))
  .ite y666 (
  .ret (.inr false)) (
  let y667 : Bool := (x.2 == (ByteArray.mk #[99, 108]))
  .ite y667 (
  .ret (.inr false)) (
  .ret (.inl (.h0)))))))))))))) (
  let y668 : Bool := (x.2 == (ByteArray.mk #[114]))
  .ite y668 (
  .ret (.inr false)) (
  let y669 : Bool := (x.2 == (ByteArray.mk #[109]))
  .ite y669 (
  .ret (.inr false)) (
  let y670 : Bool := (x.2 == (ByteArray.mk #[114, 109]))
  .ite y670 (
  .ret (.inr false)) (
  let y671 : Bool := (x.2 == (ByteArray.mk #[105, 56]))
  .ite y671 (
  let y672 : Bool := (eqD COperand x.1 (fn22 y592))
  let y673 : Bool := (y672 == true)
  .ite y673 (
  let y674 : Bool := ((ile (-128) y592) == true)
  .ite y674 (
  let y675 : Bool := (ilt y592 128)
  .ret (.inr y675)) (
  .ret (.inr false))) (
  .ret (.inr false))) (
  let y676 : Bool := (x.2 == (ByteArray.mk #[117, 56]))
  .ite y676 (
  let y677 : Bool := (eqD COperand x.1 (fn22 y592))
  let y678 : Bool := (y677 == true)
  .ite y678 (
  let y679 : Bool := ((ile 0 y592) == true)
  .ite y679 (
  let y680 : Bool := (ilt y592 256)
  .ret (.inr y680)) (
  .ret (.inr false))) (
  .ret (.inr false))) (
  let y681 : Bool := (x.2 == (ByteArray.mk #[105, 51, 50]))
  .ite y681 (
  let y682 : Bool := (eqD COperand x.1 (fn22 y592))
  let y683 : Bool := (y682 == true)
  .ite y683 (
  let y684 : Bool := ((ile (-2147483648) y592) == true)
  .ite y684 (
  let y685 : Bool := (ilt y592 2147483648)
  .ret (.inr y685)) (
  .ret (.inr false))) (
  .ret (.inr false))) (
  let y686 : Bool := (x.2 == (ByteArray.mk #[105, 54, 52]))
  .ite y686 (
  let y687 : Bool := (eqD COperand x.1 (fn22 y592))
  .ret (.inr y687)) (
  let y688 : Bool := (x.2 == (ByteArray.mk #[120]))
  .ite y688 (
  .ret (.inr false)) (
  let y689 : Bool := (x.2 == (ByteArray.mk #[120, 109]))
  .ite y689 (
  .ret (.inr false)) (
  let y690 : Bool := (x.2 == (ByteArray.mk #[99, 108]))
  .ite y690 (
  .ret (.inr false)) (
  .ret (.inl (.h0)))))))))))))) (
  .ite y1 (
  let y691 : (Int × (Int × (Int × (Int × (Int × (Bool × Int)))))) := x.1.2
  let y692 : Int := y691.1
  let y693 : Bool := ((ile 16 y692) == true)
  .ite y693 (
  let y694 : Bool := ((ilt y692 32) == true)
  .ite y694 (
  .need (pre24 y692) <|
  let y695 : Bool := (x.2 == (ByteArray.mk #[114]))
  .ite y695 (
  .ret (.inr false)) (
  let y696 : Bool := (x.2 == (ByteArray.mk #[109]))
  .ite y696 (
  .ret (.inr false)) (
  let y697 : Bool := (x.2 == (ByteArray.mk #[114, 109]))
  .ite y697 (
  .ret (.inr false)) (
  let y698 : Bool := (x.2 == (ByteArray.mk #[105, 56]))
  .ite y698 (
  .ret (.inr false)) (
  let y699 : Bool := (x.2 == (ByteArray.mk #[117, 56]))
  .ite y699 (
  .ret (.inr false)) (
  let y700 : Bool := (x.2 == (ByteArray.mk #[105, 51, 50]))
  .ite y700 (
  .ret (.inr false)) (
  let y701 : Bool := (x.2 == (ByteArray.mk #[105, 54, 52]))
  .ite y701 (
  .ret (.inr false)) (
  let y702 : Bool := (x.2 == (ByteArray.mk #[120]))
  .ite y702 (
  let y703 : Bool := (eqD COperand x.1 (fn24 y692))
  .ret (.inr y703)) (
  let y704 : Bool := (x.2 == (ByteArray.mk #[120, 109]))
  .ite y704 (
  let y705 : Bool := (eqD COperand x.1 (fn24 y692))
  let y706 : Bool := (y705 == false)
  .ite y706 (
  .ret (.inr false)) (
  .ret (.inr true))) (
  let y707 : Bool := (x.2 == (ByteArray.mk #[99, 108]))
  .ite y707 (
  .ret (.inr false)) (
  .ret (.inl (.h0))))))))))))) (
  let y708 : Bool := (x.2 == (ByteArray.mk #[114]))
  .ite y708 (
  .ret (.inr false)) (
  let y709 : Bool := (x.2 == (ByteArray.mk #[109]))
  .ite y709 (
  .ret (.inr false)) (
  let y710 : Bool := (x.2 == (ByteArray.mk #[114, 109]))
  .ite y710 (
  .ret (.inr false)) (
  let y711 : Bool := (x.2 == (ByteArray.mk #[105, 56]))
  .ite y711 (
  .ret (.inr false)) (
  let y712 : Bool := (x.2 == (ByteArray.mk #[117, 56]))
  .ite y712 (
  .ret (.inr false)) (
  let y713 : Bool := (x.2 == (ByteArray.mk #[105, 51, 50]))
  .ite y713 (
  .ret (.inr false)) (
  let y714 : Bool := (x.2 == (ByteArray.mk #[105, 54, 52]))
  .ite y714 (
  .ret (.inr false)) (
  let y715 : Bool := (x.2 == (ByteArray.mk #[120]))
  .ite y715 (
  .ret (.inr false)) (
  let y716 : Bool := (x.2 == (ByteArray.mk #[120, 109]))
  .ite y716 (
  .ret (.inr false)) (
  let y717 : Bool := (x.2 == (ByteArray.mk #[99, 108]))
  .ite y717 (
  .ret (.inr false)) (
  .ret (.inl (.h0)))))))))))))) (
  let y718 : Bool := (x.2 == (ByteArray.mk #[114]))
  .ite y718 (
  .ret (.inr false)) (
  let y719 : Bool := (x.2 == (ByteArray.mk #[109]))
  .ite y719 (
  .ret (.inr false)) (
  let y720 : Bool := (x.2 == (ByteArray.mk #[114, 109]))
  .ite y720 (
  .ret (.inr false)) (
  let y721 : Bool := (x.2 == (ByteArray.mk #[105, 56]))
  .ite y721 (
  .ret (.inr false)) (
  let y722 : Bool := (x.2 == (ByteArray.mk #[117, 56]))
  .ite y722 (
  .ret (.inr false)) (
  let y723 : Bool := (x.2 == (ByteArray.mk #[105, 51, 50]))
  .ite y723 (
  .ret (.inr false)) (
  let y724 : Bool := (x.2 == (ByteArray.mk #[105, 54, 52]))
  .ite y724 (
  .ret (.inr false)) (
  let y725 : Bool := (x.2 == (ByteArray.mk #[120]))
  .ite y725 (
  .ret (.inr false)) (
  let y726 : Bool := (x.2 == (ByteArray.mk #[120, 109]))
  .ite y726 (
  .ret (.inr false)) (
  let y727 : Bool := (x.2 == (ByteArray.mk #[99, 108]))
  .ite y727 (
  .ret (.inr false)) (
  .ret (.inl (.h0)))))))))))))) (
  let y728 : Bool := (x.2 == (ByteArray.mk #[114]))
  .ite y728 (
  .ret (.inr false)) (
  let y729 : Bool := (x.2 == (ByteArray.mk #[109]))
  .ite y729 (
  .ret (.inr false)) (
  let y730 : Bool := (x.2 == (ByteArray.mk #[114, 109]))
  .ite y730 (
  .ret (.inr false)) (
  let y731 : Bool := (x.2 == (ByteArray.mk #[105, 56]))
  .ite y731 (
  .ret (.inr false)) (
  let y732 : Bool := (x.2 == (ByteArray.mk #[117, 56]))
  .ite y732 (
  .ret (.inr false)) (
  let y733 : Bool := (x.2 == (ByteArray.mk #[105, 51, 50]))
  .ite y733 (
  .ret (.inr false)) (
  let y734 : Bool := (x.2 == (ByteArray.mk #[105, 54, 52]))
  .ite y734 (
  .ret (.inr false)) (
  let y735 : Bool := (x.2 == (ByteArray.mk #[120]))
  .ite y735 (
  .ret (.inr false)) (
  let y736 : Bool := (x.2 == (ByteArray.mk #[120, 109]))
  .ite y736 (
  .ret (.inr false)) (
  let y737 : Bool := (x.2 == (ByteArray.mk #[99, 108]))
  .ite y737 (
  .ret (.inr false)) (
  .ret (.inl (.h0))))))))))))))))
noncomputable def step77 (x : (DOperand × ByteArray)) : J77 → Tr (J77 ⊕ Bool)
  | .h0 =>
  .ret (.inr (eqD COperand x.1 (0, (0, (0, (0, (0, (0, (false, 0)))))))))
noncomputable def head77 (x : (DOperand × ByteArray)) : J77 → Head
  | .h0 =>
  { fr := { id := 77, kind := .top, T := [.any, .any, (.ptr 0 [])] ++ List.replicate 125 .any, items := [.code (subc [1, 1, 1, 1, 1, 1, 0] (bodyOf Tryd.f77)), .code (subc [1, 1, 1, 1, 1, 1, 1] (bodyOf Tryd.f77))], D := [], base := 0 },
    stk := [],
    H := [.cell true 23 (.agg [1, 1, 1, 1, 1, 1, 1, 1] [(.int .u8 x.1.1), (.int .i64 x.1.2.1), (.int .i64 x.1.2.2.1), (.int .i64 x.1.2.2.2.1), (.int .i64 x.1.2.2.2.2.1), (.int .i64 x.1.2.2.2.2.2.1), (.bool x.1.2.2.2.2.2.2.1), (.int .i64 x.1.2.2.2.2.2.2.2)])] }
noncomputable def stop77 : FuncId → Nat → Nat → Option Cut
  | 77, 53, 0 => some { tmps := [2], loops := [], dead := [], stk := [] }
  | _, _, _ => none
noncomputable def fn77 (x : (DOperand × ByteArray)) : Bool := endVal (TC.dflt .bool) (step77 x) (tree77 x)
def pre77 (x : (DOperand × ByteArray)) : Prop := ∃ r, Ends (step77 x) r (tree77 x)
noncomputable def spec77 : Spec := { dom := (.st COperand (.st1 .str)), cod := .bool, n := 1, pre := pre77, f := fn77 }
noncomputable def need77 : FuncId → Option Spec
  | 22 => some spec22
  | 24 => some spec24
  | 78 => some spec78
  | _ => none
theorem need77_ok : ∀ f sp, need77 f = some sp → SpecOk env0 f sp := by
  intro f sp h
  unfold need77 at h
  split at h
  · cases h; exact ok22
  · cases h; exact ok24
  · cases h; exact ok78
  · cases h
theorem run77 (W : Cfg) (Q : Bool → Prop) (x : (DOperand × ByteArray)) : run (env need77 (fun _ _ => none)) stop77 (finS spec77 Q) W 100000 (startFr 77 Tryd.f77 (bodyOf Tryd.f77) (argsOf (.st COperand (.st1 .str)) x)) [] [] = (tree77 x).wp (kont W Q (head77 x)) := by kernel_rfl
theorem run77h0 (W : Cfg) (Q : Bool → Prop) (x : (DOperand × ByteArray)) : run (env need77 (fun _ _ => none)) stop77 (finS spec77 Q) W 100000 (head77 x (.h0)).fr.enter (head77 x (.h0)).stk (head77 x (.h0)).H = (step77 x (.h0)).wp (kont W Q (head77 x)) := by kernel_rfl
theorem runs77 (W : Cfg) (Q : Bool → Prop) (x : (DOperand × ByteArray)) : ∀ j : J77, run (env need77 (fun _ _ => none)) stop77 (finS spec77 Q) W 100000 (head77 x j).fr.enter (head77 x j).stk (head77 x j).H = (step77 x j).wp (kont W Q (head77 x))
  | .h0 => run77h0 W Q x
theorem ok77 : SpecOk env0 77 spec77 := SpecOk.env rfl (fun _ _ h => h) (spec_of_trees (E := (env need77 (fun _ _ => none))) (sp := spec77) (valid _ _) (fun f sp h => SpecOk.env rfl (fun _ _ h => h) (need77_ok f sp h)) (fn := Tryd.f77) (c := (bodyOf Tryd.f77)) (by kernel_rfl) (by kernel_rfl) tree77 step77 head77 run77 runs77 (fun _ h => endVal_ends h))

end Go.Eng.RE
end
section
/- Functions of this program, written out. -/
namespace Go.Eng.RE
open Go.Proofs Go.Eng
set_option maxRecDepth 100000

/-! ### sundial/sundialref10.find -/
inductive J42 where
  | h0 (v0 : (List Drow)) (v1 : Int)
noncomputable def tree42 (x : DInsn) : Tr (J42 ⊕ (Drow × Bool)) :=
  .ite ((ieq x.1 29) == false) (
  .ite ((ieq x.1 30) == false) (
  let y0 : Int := x.2.1
  let y1 : Bool := ((ilt 15 y0) == false)
  .ite y1 (
  .ite ((!(ieq x.1 31)) == true) (
  .ite ((ine y0 0) == false) (
  let y2 : Bool := ((ine x.1 39) == true)
  .ite y2 (
  let y3 : Bool := (ine x.2.2.2.2.2.1 0)
  .ite y3 (
  let y4 : ((Int × (ByteArray × (ByteArray × (Int × ((List Int) × (Int × (Int × Int))))))) × Bool) := ((0, (ByteArray.empty, (ByteArray.empty, (0, (([] : List Int), (0, (0, 0))))))), false)
  .ret (.inr y4)) (
  let y5 : (Int × Int) := (x.1, y0)
  .need (pre75 y5) <|
  let y6 : (List Drow) := (fn75 y5)
  .ret (.inl (.h0 y6 0)))) (
  let y7 : (Int × Int) := (x.1, y0)
  .need (pre75 y7) <|
  let y8 : (List Drow) := (fn75 y7)
  .ret (.inl (.h0 y8 0)))) (
  let y9 : ((Int × (ByteArray × (ByteArray × (Int × ((List Int) × (Int × (Int × Int))))))) × Bool) := ((0, (ByteArray.empty, (ByteArray.empty, (0, (([] : List Int), (0, (0, 0))))))), false)
  .ret (.inr y9))) (
  let y10 : Bool := ((ine x.1 39) == true)
  .ite y10 (
  let y11 : Bool := (ine x.2.2.2.2.2.1 0)
  .ite y11 (
  let y12 : ((Int × (ByteArray × (ByteArray × (Int × ((List Int) × (Int × (Int × Int))))))) × Bool) := ((0, (ByteArray.empty, (ByteArray.empty, (0, (([] : List Int), (0, (0, 0))))))), false)
  .ret (.inr y12)) (
  let y13 : (Int × Int) := (x.1, y0)
  .need (pre75 y13) <|
  let y14 : (List Drow) := (fn75 y13)
  .ret (.inl (.h0 y14 0)))) (
  let y15 : (Int × Int) := (x.1, y0)
  .need (pre75 y15) <|
  let y16 : (List Drow) := (fn75 y15)
  .ret (.inl (.h0 y16 0))))) (
  let y17 : ((Int × (ByteArray × (ByteArray × (Int × ((List Int) × (Int × (Int × Int))))))) × Bool) := ((0, (ByteArray.empty, (ByteArray.empty, (0, (([] : List Int), (0, (0, 0))))))), false)
  .ret (.inr y17))) (
  let y18 : Int := x.2.1
  let y19 : Bool := ((ilt 15 y18) == false)
  .ite y19 (
  let y20 : Bool := ((ine x.1 39) == true)
  .ite y20 (
  let y21 : Bool := (ine x.2.2.2.2.2.1 0)
  .ite y21 (
  let y22 : ((Int × (ByteArray × (ByteArray × (Int × ((List Int) × (Int × (Int × Int))))))) × Bool) := ((0, (ByteArray.empty, (ByteArray.empty, (0, (([] : List Int), (0, (0, 0))))))), false)
  .ret (.inr y22)) (
  let y23 : (Int × Int) := (x.1, y18)
  .need (pre75 y23) <|
  let y24 : (List Drow) := (fn75 y23)
  .ret (.inl (.h0 y24 0)))) (
  let y25 : (Int × Int) := (x.1, y18)
  .need (pre75 y25) <|
  let y26 : (List Drow) := (fn75 y25)
  .ret (.inl (.h0 y26 0)))) (
  let y27 : ((Int × (ByteArray × (ByteArray × (Int × ((List Int) × (Int × (Int × Int))))))) × Bool) := ((0, (ByteArray.empty, (ByteArray.empty, (0, (([] : List Int), (0, (0, 0))))))), false)
  .ret (.inr y27)))) (
  let y28 : Int := x.2.1
  let y29 : Bool := ((ilt 15 y28) == false)
  .ite y29 (
  let y30 : Bool := ((ine x.1 39) == true)
  .ite y30 (
  let y31 : Bool := (ine x.2.2.2.2.2.1 0)
  .ite y31 (
  let y32 : ((Int × (ByteArray × (ByteArray × (Int × ((List Int) × (Int × (Int × Int))))))) × Bool) := ((0, (ByteArray.empty, (ByteArray.empty, (0, (([] : List Int), (0, (0, 0))))))), false)
  .ret (.inr y32)) (
  let y33 : (Int × Int) := (x.1, y28)
  .need (pre75 y33) <|
  let y34 : (List Drow) := (fn75 y33)
  .ret (.inl (.h0 y34 0)))) (
  let y35 : (Int × Int) := (x.1, y28)
  .need (pre75 y35) <|
  let y36 : (List Drow) := (fn75 y35)
  .ret (.inl (.h0 y36 0)))) (
  let y37 : ((Int × (ByteArray × (ByteArray × (Int × ((List Int) × (Int × (Int × Int))))))) × Bool) := ((0, (ByteArray.empty, (ByteArray.empty, (0, (([] : List Int), (0, (0, 0))))))), false)
  .ret (.inr y37)))
noncomputable def step42 (x : DInsn) : J42 → Tr (J42 ⊕ (Drow × Bool))
  | .h0 v0 v1 =>
  .ite (ilt v1 (v0.length : Int)) (
  .need ((0 : Int) ≤ v1) <|
  .need (v1 < (v0.length : Int)) <|
  let y0 : (Int × (DOperand × (DOperand × (Int × Int)))) := x.2.2
  let y1 : Drow := (rdc Crow v0 (v1).toNat)
  let y2 : (Int × Int) := (y0.1, y1.1)
  .need (pre76 y2) <|
  .ite ((fn76 y2) == true) (
  .need ((0 : Int) ≤ v1) <|
  .need (v1 < (v0.length : Int)) <|
  let y3 : (DOperand × (DOperand × (Int × Int))) := y0.2
  let y4 : (ByteArray × (ByteArray × (Int × ((List Int) × (Int × (Int × Int)))))) := y1.2
  let y5 : (DOperand × ByteArray) := (y3.1, y4.1)
  .need (pre77 y5) <|
  .ite ((fn77 y5) == true) (
  .need ((0 : Int) ≤ v1) <|
  .need (v1 < (v0.length : Int)) <|
  let y6 : (DOperand × ByteArray) := (y3.2.1, y4.2.1)
  .need (pre77 y6) <|
  .ite (fn77 y6) (
  .need ((0 : Int) ≤ v1) <|
  .need (v1 < (v0.length : Int)) <|
  .ret (.inr (y1, true))) (
  let y7 : Int := (iadd .i64 v1 1)
  .ret (.inl (.h0 v0 y7)))) (
  let y8 : Int := (iadd .i64 v1 1)
  .ret (.inl (.h0 v0 y8)))) (
  let y9 : Int := (iadd .i64 v1 1)
  .ret (.inl (.h0 v0 y9)))) (
  .ret (.inr ((0, (ByteArray.empty, (ByteArray.empty, (0, (([] : List Int), (0, (0, 0))))))), false)))
noncomputable def head42 (x : DInsn) : J42 → Head
  | .h0 v0 v1 =>
  { fr := { id := 42, kind := .top, T := [.any, (.ptr 0 []), (.ptr 1 []), .any, .any, (.fsl Crow v0), (.int .i64 v1)] ++ List.replicate 80 .any, items := [.lp (subc [1, 1, 1, 1, 0, 1, 0, 0] (bodyOf Tryd.f42)), .blk 0, .code (subc [1, 1, 1, 1, 1] (bodyOf Tryd.f42))], D := [], base := 0 },
    stk := [],
    H := [.cell true 25 (.agg [1, 1, 1, 8, 8, 1, 1] [(.int .u8 x.1), (.int .u8 x.2.1), (.int .i64 x.2.2.1), (.agg [1, 1, 1, 1, 1, 1, 1, 1] [(.int .u8 x.2.2.2.1.1), (.int .i64 x.2.2.2.1.2.1), (.int .i64 x.2.2.2.1.2.2.1), (.int .i64 x.2.2.2.1.2.2.2.1), (.int .i64 x.2.2.2.1.2.2.2.2.1), (.int .i64 x.2.2.2.1.2.2.2.2.2.1), (.bool x.2.2.2.1.2.2.2.2.2.2.1), (.int .i64 x.2.2.2.1.2.2.2.2.2.2.2)]), (.agg [1, 1, 1, 1, 1, 1, 1, 1] [(.int .u8 x.2.2.2.2.1.1), (.int .i64 x.2.2.2.2.1.2.1), (.int .i64 x.2.2.2.2.1.2.2.1), (.int .i64 x.2.2.2.2.1.2.2.2.1), (.int .i64 x.2.2.2.2.1.2.2.2.2.1), (.int .i64 x.2.2.2.2.1.2.2.2.2.2.1), (.bool x.2.2.2.2.1.2.2.2.2.2.2.1), (.int .i64 x.2.2.2.2.1.2.2.2.2.2.2.2)]), (.int .u8 x.2.2.2.2.2.1), (.int .i64 x.2.2.2.2.2.2)]), .cell true 72 (.agg [1, 1, 1, 1, 1, 1, 1, 1] [(.int .i64 0), (.str ByteArray.empty), (.str ByteArray.empty), (.int .u8 0), (.raw (.slice none 0 0)), (.int .i64 0), (.int .i64 0), (.int .i64 0)])] }
noncomputable def stop42 : FuncId → Nat → Nat → Option Cut
  | 42, 0, 0 => some { tmps := [1, 2, 5, 6], loops := [], dead := [], stk := [] }
  | _, _, _ => none
noncomputable def fn42 (x : DInsn) : (Drow × Bool) := endVal (TC.dflt (.st Crow (.st1 .bool))) (step42 x) (tree42 x)
def pre42 (x : DInsn) : Prop := ∃ r, Ends (step42 x) r (tree42 x)
noncomputable def spec42 : Spec := { dom := (.st1 CInsn), cod := (.st Crow (.st1 .bool)), n := 2, pre := pre42, f := fn42 }
noncomputable def need42 : FuncId → Option Spec
  | 75 => some spec75
  | 76 => some spec76
  | 77 => some spec77
  | _ => none
theorem need42_ok : ∀ f sp, need42 f = some sp → SpecOk env0 f sp := by
  intro f sp h
  unfold need42 at h
  split at h
  · cases h; exact ok75
  · cases h; exact ok76
  · cases h; exact ok77
  · cases h
theorem run42 (W : Cfg) (Q : (Drow × Bool) → Prop) (x : DInsn) : run (env need42 (fun _ _ => none)) stop42 (finS spec42 Q) W 100000 (startFr 42 Tryd.f42 (bodyOf Tryd.f42) (argsOf (.st1 CInsn) x)) [] [] = (tree42 x).wp (kont W Q (head42 x)) := by kernel_rfl
theorem run42h0 (W : Cfg) (Q : (Drow × Bool) → Prop) (x : DInsn) (v0 : (List Drow)) (v1 : Int) : run (env need42 (fun _ _ => none)) stop42 (finS spec42 Q) W 100000 (head42 x (.h0 v0 v1)).fr.enter (head42 x (.h0 v0 v1)).stk (head42 x (.h0 v0 v1)).H = (step42 x (.h0 v0 v1)).wp (kont W Q (head42 x)) := by kernel_rfl
theorem runs42 (W : Cfg) (Q : (Drow × Bool) → Prop) (x : DInsn) : ∀ j : J42, run (env need42 (fun _ _ => none)) stop42 (finS spec42 Q) W 100000 (head42 x j).fr.enter (head42 x j).stk (head42 x j).H = (step42 x j).wp (kont W Q (head42 x))
  | .h0 v0 v1 => run42h0 W Q x v0 v1
theorem ok42 : SpecOk env0 42 spec42 := SpecOk.env rfl (fun _ _ h => h) (spec_of_trees (E := (env need42 (fun _ _ => none))) (sp := spec42) (valid _ _) (fun f sp h => SpecOk.env rfl (fun _ _ h => h) (need42_ok f sp h)) (fn := Tryd.f42) (c := (bodyOf Tryd.f42)) (by kernel_rfl) (by kernel_rfl) tree42 step42 head42 run42 runs42 (fun _ h => endVal_ends h))

/-! ### sundial/sundialref10.low -/
noncomputable def tree43 (x : DOperand) : Tr DOperand :=
  .ite ((ieq x.1 1) == true) (
  let y0 : Int := x.2.1
  .ite (ile 16 y0) (
  .ret (x.1, ((isub .i64 y0 16), x.2.2))) (
  .ret x)) (
  .ret x)
noncomputable def fn43 (x : DOperand) : DOperand := (tree43 x).val
def pre43 (x : DOperand) : Prop := (tree43 x).ok
noncomputable def spec43 : Spec := { dom := (.st1 COperand), cod := COperand, n := 1, pre := pre43, f := fn43 }
noncomputable def need43 : FuncId → Option Spec
  | _ => none
theorem need43_ok : ∀ f sp, need43 f = some sp → SpecOk env0 f sp := by
  intro f sp h
  unfold need43 at h
  split at h
  · cases h
theorem run43 (W : Cfg) (Q : DOperand → Prop) (x : DOperand) : run (env need43 (fun _ _ => none)) (fun _ _ _ => none) (finS spec43 Q) W 100000 (startFr 43 Tryd.f43 (bodyOf Tryd.f43) (argsOf (.st1 COperand) x)) [] [] = (tree43 x).wp Q := by kernel_rfl
theorem ok43 : SpecOk env0 43 spec43 := SpecOk.env rfl (fun _ _ h => h) (spec_of_tree (E := (env need43 (fun _ _ => none))) (sp := spec43) (valid _ _) (fun f sp h => SpecOk.env rfl (fun _ _ h => h) (need43_ok f sp h)) (fn := Tryd.f43) (c := (bodyOf Tryd.f43)) (by kernel_rfl) (by kernel_rfl) tree43 run43 (fun _ h => Tr.gives_val h))

/-! ### sundial/sundialref08.shown -/
inductive J79 where
  | h0
  | h1 (v3 : Nat) (v4 : Int) (v5 : Nat) (v6 : (List Int))
noncomputable def tree79 (_x : (Int × Int)) : Tr (J79 ⊕ (List Int)) :=
  .ret (.inl (.h0))
noncomputable def step79 (x : (Int × Int)) : J79 → Tr (J79 ⊕ (List Int))
  | .h0 =>
  .ite (ilt 0 x.2) (
  .need ((0 : Int) ≤ 0) <|
  .need ((0 : Nat) < 1) <|
  .need (((0 : Nat) + 1 : Nat) ≤ 1) <|
  .need (((1 : Nat) * 1 : Nat) ≤ 2 ^ 40) <|
  .need ((1 : Nat) ≤ 2 ^ 40) <|
  .ret (.inl (.h1 1 1 1 [(iconv .u8 (ishr .u64 (iconv .u64 x.1) 0))]))) (
  .ret (.inr ([] : List Int)))
  | .h1 v3 v4 v5 v6 =>
  .ite (ilt v4 x.2) (
  let y0 : Int := (iconv .u64 (imul .i64 8 v4))
  .need ((0 : Int) ≤ y0) <|
  .need ((0 : Nat) < 1) <|
  .need (((0 : Nat) + 1 : Nat) ≤ 1) <|
  .need ((v3 : Nat) = v5) <|
  let y1 : Nat := (v3 + 1)
  .need (((y1 : Nat) * 1 : Nat) ≤ 2 ^ 40) <|
  .need ((y1 : Nat) ≤ 2 ^ 40) <|
  .ret (.inl (.h1 y1 (iadd .i64 v4 1) y1 (v6 ++ [(iconv .u8 (ishr .u64 (iconv .u64 x.1) y0))])))) (
  .need (((0 : Nat) + v3 : Nat) ≤ v5) <|
  .ret (.inr (v6.take v3)))
noncomputable def head79 (x : (Int × Int)) : J79 → Head
  | .h0 =>
  { fr := { id := 79, kind := .top, T := [(.int .i64 x.1), (.int .i64 x.2), .any, .any, .any, (.raw (.slice none 0 0)), (.int .i64 0)] ++ List.replicate 16 .any, items := [.lp (subc [1, 1, 0, 1, 0, 0] (bodyOf Tryd.f79)), .blk 0, .code (subc [1, 1, 1] (bodyOf Tryd.f79))], D := [], base := 0 },
    stk := [],
    H := [] }
  | .h1 v3 v4 v5 v6 =>
  { fr := { id := 79, kind := .top, T := [(.int .i64 x.1), (.int .i64 x.2), .any, .any, .any, (.osl 0 [] 1 0 v3 none), (.int .i64 v4)] ++ List.replicate 16 .any, items := [.lp (subc [1, 1, 0, 1, 0, 0] (bodyOf Tryd.f79)), .blk 0, .code (subc [1, 1, 1] (bodyOf Tryd.f79))], D := [], base := 0 },
    stk := [],
    H := [.cell true 5 (.arr v5 (.int .u8) v6)] }
noncomputable def stop79 : FuncId → Nat → Nat → Option Cut
  | 79, 0, 0 => some { tmps := [0, 1, 5, 6], loops := [], dead := [], stk := [] }
  | _, _, _ => none
noncomputable def fn79 (x : (Int × Int)) : (List Int) := endVal (TC.dflt (.slice (.int .u8))) (step79 x) (tree79 x)
def pre79 (x : (Int × Int)) : Prop := ∃ r, Ends (step79 x) r (tree79 x)
noncomputable def spec79 : Spec := { dom := (.st (.int .i64) (.st1 (.int .i64))), cod := (.slice (.int .u8)), n := 1, pre := pre79, f := fn79 }
noncomputable def need79 : FuncId → Option Spec
  | _ => none
theorem need79_ok : ∀ f sp, need79 f = some sp → SpecOk env0 f sp := by
  intro f sp h
  unfold need79 at h
  split at h
  · cases h
theorem run79 (W : Cfg) (Q : (List Int) → Prop) (x : (Int × Int)) : run (env need79 (fun _ _ => none)) stop79 (finS spec79 Q) W 100000 (startFr 79 Tryd.f79 (bodyOf Tryd.f79) (argsOf (.st (.int .i64) (.st1 (.int .i64))) x)) [] [] = (tree79 x).wp (kont W Q (head79 x)) := by kernel_rfl
theorem run79h0 (W : Cfg) (Q : (List Int) → Prop) (x : (Int × Int)) : run (env need79 (fun _ _ => none)) stop79 (finS spec79 Q) W 100000 (head79 x (.h0)).fr.enter (head79 x (.h0)).stk (head79 x (.h0)).H = (step79 x (.h0)).wp (kont W Q (head79 x)) := by kernel_rfl
theorem run79h1 (W : Cfg) (Q : (List Int) → Prop) (x : (Int × Int)) (v3 : Nat) (v4 : Int) (v5 : Nat) (v6 : (List Int)) : run (env need79 (fun _ _ => none)) stop79 (finS spec79 Q) W 100000 (head79 x (.h1 v3 v4 v5 v6)).fr.enter (head79 x (.h1 v3 v4 v5 v6)).stk (head79 x (.h1 v3 v4 v5 v6)).H = (step79 x (.h1 v3 v4 v5 v6)).wp (kont W Q (head79 x)) := by kernel_rfl
theorem runs79 (W : Cfg) (Q : (List Int) → Prop) (x : (Int × Int)) : ∀ j : J79, run (env need79 (fun _ _ => none)) stop79 (finS spec79 Q) W 100000 (head79 x j).fr.enter (head79 x j).stk (head79 x j).H = (step79 x j).wp (kont W Q (head79 x))
  | .h0 => run79h0 W Q x
  | .h1 v3 v4 v5 v6 => run79h1 W Q x v3 v4 v5 v6
theorem ok79 : SpecOk env0 79 spec79 := SpecOk.env rfl (fun _ _ h => h) (spec_of_trees (E := (env need79 (fun _ _ => none))) (sp := spec79) (valid _ _) (fun f sp h => SpecOk.env rfl (fun _ _ h => h) (need79_ok f sp h)) (fn := Tryd.f79) (c := (bodyOf Tryd.f79)) (by kernel_rfl) (by kernel_rfl) tree79 step79 head79 run79 runs79 (fun _ h => endVal_ends h))

/-! ### sundial/sundialref08.Put -/
inductive J44 where
  | h0
  | h1 (v0 : Int) (v1 : Int)
  | h2 (v0 : Int) (v1 : Int)
  | h3 (v0 : Int) (v1 : Int) (v2 : Int) (v3 : Int)
  | h4 (v0 : Int) (v1 : Int) (v2 : Int) (v3 : Int) (v4 : Int)
  | h5 (v0 : Int) (v1 : Int) (v2 : Int) (v3 : Int) (v4 : Int) (v5 : Int) (v6 : Int)
  | h6 (v0 : Int) (v1 : Int) (v2 : Int) (v3 : Int) (v4 : Int) (v5 : Int) (v6 : Int)
  | h7 (v0 : Int) (v1 : Int) (v2 : Int) (v3 : Int) (v4 : Int) (v5 : Int) (v6 : Int)
  | h8 (v0 : Int) (v1 : Int) (v2 : Int) (v3 : Int) (v4 : Int) (v5 : Int) (v6 : Int)
noncomputable def tree44 (x : (Int × DOperand)) : Tr (J44 ⊕ ((List Int) × (Int × Int))) :=
  .ite ((ilt x.1 0) == false) (
  .ite ((ilt 15 x.1) == false) (
  .need (pre78 x.2) <|
  .ite (!(fn78 x.2)) (
  let y0 : ((List Int) × (Int × Int)) := (([] : List Int), (0, 2))
  .ret (.inr y0)) (
  .ret (.inl (.h0)))) (
  let y1 : ((List Int) × (Int × Int)) := (([] : List Int), (0, 2))
  .ret (.inr y1))) (
  let y2 : ((List Int) × (Int × Int)) := (([] : List Int), (0, 2))
  .ret (.inr y2))
noncomputable def step44 (x : (Int × DOperand)) : J44 → Tr (J44 ⊕ ((List Int) × (Int × Int)))
  | .h0 =>
  .need ((0 : Int) ≤ 3) <|
  .need ((0 : Int) ≤ 3) <|
  .need ((0 : Int) ≤ 2) <|
  .ite (ieq x.2.1 1) (
  .need ((0 : Int) ≤ 3) <|
  .need ((0 : Nat) < 1) <|
  .need (((0 : Nat) + 1 : Nat) ≤ 1) <|
  let y0 : Int := (ishl .u8 (iconv .u8 (iand .i64 x.1 7)) 3)
  let y1 : Int := x.2.2.1
  let y2 : Int := (ishl .u8 (iconv .u8 (ishr .i64 x.1 3)) 2)
  .ret (.inr ([(ior .u8 (ior .u8 192 y0) (iconv .u8 (iand .i64 y1 7)))], ((ior .u8 y2 (iconv .u8 (ishr .i64 y1 3))), 0)))) (
  let y3 : Int := (ishl .u8 (iconv .u8 (iand .i64 x.1 7)) 3)
  let y4 : Int := (ishl .u8 (iconv .u8 (ishr .i64 x.1 3)) 2)
  .ret (.inl (.h1 y3 y4)))
  | .h1 v0 v1 =>
  let y0 : (Int × (Bool × Int)) := x.2.2.2.2.2.2
  .ite y0.2.1 (
  .need ((0 : Nat) < 1) <|
  let y1 : (Int × Int) := (y0.1, 4)
  .need (pre79 y1) <|
  let y2 : (List Int) := (fn79 y1)
  let y3 : Nat := y2.length
  let y4 : Nat := (1 + y3)
  .ite (ilt ((1 : Nat) : Int) ((y4 : Nat) : Int)) (
  .need ((0 + 1 : Nat) ≤ 1) <|
  .need (((y4 : Nat) * 1 : Nat) ≤ 2 ^ 40) <|
  .need ((y4 : Nat) ≤ 2 ^ 40) <|
  .need (((0 : Nat) + y4 : Nat) ≤ y4) <|
  let y5 : (List Int) := [(ior .u8 v0 5)]
  let y6 : (Int × Int) := (v1, 0)
  .ret (.inr (((y5 ++ y2).take y4), y6))) (
  .need ((0 + 1 + y3 : Nat) ≤ 1) <|
  .need (((0 : Nat) + y4 : Nat) ≤ 1) <|
  let y7 : (List Int) := [(ior .u8 v0 5)]
  let y8 : (Int × Int) := (v1, 0)
  .ret (.inr (((spliceL y7 1 y2).take y4), y8)))) (
  .ret (.inl (.h2 v0 v1)))
  | .h2 v0 v1 =>
  let y0 : (Int × (Int × (Int × (Int × (Bool × Int))))) := x.2.2.2
  let y1 : Int := y0.1
  .ite (ilt y1 0) (
  .ret (.inl (.h3 v0 v1 0 4))) (
  let y2 : Int := y0.2.2.2.1
  .ite ((ieq y2 0) == true) (
  .ite (ine (iand .i64 y1 7) 5) (
  .ret (.inl (.h3 v0 v1 0 0))) (
  let y3 : Bool := ((ile (-128) y2) == true)
  .ite y3 (
  let y4 : Bool := (ilt y2 128)
  .ite y4 (
  .ret (.inl (.h3 v0 v1 1 1))) (
  .ret (.inl (.h3 v0 v1 2 4)))) (
  .ret (.inl (.h3 v0 v1 2 4))))) (
  let y5 : Bool := ((ile (-128) y2) == true)
  .ite y5 (
  let y6 : Bool := (ilt y2 128)
  .ite y6 (
  .ret (.inl (.h3 v0 v1 1 1))) (
  .ret (.inl (.h3 v0 v1 2 4)))) (
  .ret (.inl (.h3 v0 v1 2 4)))))
  | .h3 v0 v1 v2 v3 =>
  let y0 : Int := x.2.2.2.1
  .ite (ile 0 y0) (
  .need ((0 : Int) ≤ 3) <|
  .ret (.inl (.h4 v0 (ior .u8 v1 (iconv .u8 (ishr .i64 y0 3))) v2 v3 (iconv .u8 (iand .i64 y0 7))))) (
  .ret (.inl (.h4 v0 v1 v2 v3 5)))
  | .h4 v0 v1 v2 v3 v4 =>
  let y0 : Int := x.2.2.2.2.1
  .ite (ile 0 y0) (
  .need ((0 : Int) ≤ 3) <|
  .need ((0 : Int) ≤ 1) <|
  .ret (.inl (.h5 v0 (ior .u8 v1 (ishl .u8 (iconv .u8 (ishr .i64 y0 3)) 1)) v2 v3 v4 (iconv .u8 (iand .i64 y0 7)) 0))) (
  .ret (.inl (.h6 v0 v1 v2 v3 v4 4 0)))
  | .h5 v0 v1 v2 v3 v4 v5 v6 =>
  .need ((0 : Int) ≤ (iconv .u64 v6)) <|
  .ite (ilt (ishl .i64 1 (iconv .u64 v6)) x.2.2.2.2.2.1) (
  .ret (.inl (.h7 v0 v1 v2 v3 v4 v5 v6))) (
  .ret (.inl (.h6 v0 v1 v2 v3 v4 v5 v6)))
  | .h6 v0 v1 v2 v3 v4 v5 v6 =>
  let y0 : (Int × (Int × (Int × (Int × (Bool × Int))))) := x.2.2.2
  let y1 : (Int × (Int × (Int × (Bool × Int)))) := y0.2
  .ite ((ilt y1.1 0) == true) (
  .ite ((ile 0 y0.1) == true) (
  .ite (ine v4 4) (
  .need ((0 : Int) ≤ 6) <|
  .need ((0 : Nat) < 1) <|
  let y2 : (Int × Int) := (y1.2.2.1, v3)
  .need (pre79 y2) <|
  let y3 : (List Int) := (fn79 y2)
  let y4 : Nat := y3.length
  let y5 : Nat := (1 + y4)
  .ite (ilt ((1 : Nat) : Int) ((y5 : Nat) : Int)) (
  .need ((0 + 1 : Nat) ≤ 1) <|
  .need (((y5 : Nat) * 1 : Nat) ≤ 2 ^ 40) <|
  .need ((y5 : Nat) ≤ 2 ^ 40) <|
  .need (((0 : Nat) + y5 : Nat) ≤ y5) <|
  let y6 : (List Int) := [(ior .u8 (ior .u8 (ishl .u8 v2 6) v0) v4)]
  let y7 : (Int × Int) := (v1, 0)
  .ret (.inr (((y6 ++ y3).take y5), y7))) (
  .need ((0 + 1 + y4 : Nat) ≤ 1) <|
  .need (((0 : Nat) + y5 : Nat) ≤ 1) <|
  let y8 : (List Int) := [(ior .u8 (ior .u8 (ishl .u8 v2 6) v0) v4)]
  let y9 : (Int × Int) := (v1, 0)
  .ret (.inr (((spliceL y8 1 y3).take y5), y9)))) (
  .ret (.inl (.h8 v0 v1 v2 v3 v4 v5 v6)))) (
  .ret (.inl (.h8 v0 v1 v2 v3 v4 v5 v6)))) (
  .ret (.inl (.h8 v0 v1 v2 v3 v4 v5 v6)))
  | .h7 v0 v1 v2 v3 v4 v5 v6 =>
  .ret (.inl (.h5 v0 v1 v2 v3 v4 v5 (iadd .u8 v6 1)))
  | .h8 v0 v1 v2 v3 v4 v5 v6 =>
  .need ((0 : Int) ≤ 6) <|
  .need ((0 : Int) ≤ 6) <|
  .need ((0 : Int) ≤ 3) <|
  .need ((0 : Nat) < 2) <|
  .need ((1 : Nat) < 2) <|
  let y0 : (Int × Int) := (x.2.2.2.2.2.2.1, v3)
  .need (pre79 y0) <|
  let y1 : (List Int) := (fn79 y0)
  let y2 : Nat := y1.length
  let y3 : Nat := (2 + y2)
  .ite (ilt ((2 : Nat) : Int) ((y3 : Nat) : Int)) (
  .need ((0 + 2 : Nat) ≤ 2) <|
  .need (((y3 : Nat) * 1 : Nat) ≤ 2 ^ 40) <|
  .need ((y3 : Nat) ≤ 2 ^ 40) <|
  .need (((0 : Nat) + y3 : Nat) ≤ y3) <|
  let y4 : (List Int) := [(ior .u8 (ior .u8 (ishl .u8 v2 6) v0) 4), (ior .u8 (ior .u8 (ishl .u8 v6 6) (ishl .u8 v5 3)) v4)]
  let y5 : (Int × Int) := (v1, 0)
  .ret (.inr (((y4 ++ y1).take y3), y5))) (
  .need ((0 + 2 + y2 : Nat) ≤ 2) <|
  .need (((0 : Nat) + y3 : Nat) ≤ 2) <|
  let y6 : (List Int) := [(ior .u8 (ior .u8 (ishl .u8 v2 6) v0) 4), (ior .u8 (ior .u8 (ishl .u8 v6 6) (ishl .u8 v5 3)) v4)]
  let y7 : (Int × Int) := (v1, 0)
  .ret (.inr (((spliceL y6 2 y1).take y3), y7)))
noncomputable def cREF6_0 (x : (Int × DOperand)) : AObj := .cell true 23 (.agg [1, 1, 1, 1, 1, 1, 1, 1] [(.int .u8 x.2.1), (.int .i64 x.2.2.1), (.int .i64 x.2.2.2.1), (.int .i64 x.2.2.2.2.1), (.int .i64 x.2.2.2.2.2.1), (.int .i64 x.2.2.2.2.2.2.1), (.bool x.2.2.2.2.2.2.2.1), (.int .i64 x.2.2.2.2.2.2.2.2)])
noncomputable def head44 (x : (Int × DOperand)) : J44 → Head
  | .h0 =>
  { fr := { id := 44, kind := .top, T := [(.int .i64 x.1), .any, .any, (.ptr 0 [])] ++ List.replicate 158 .any, items := [.code (subc [1, 1, 0] (bodyOf Tryd.f44)), .code (subc [1, 1, 1] (bodyOf Tryd.f44))], D := [], base := 0 },
    stk := [],
    H := [(cREF6_0 x)] }
  | .h1 v0 v1 =>
  { fr := { id := 44, kind := .top, T := [.any, .any, .any, (.ptr 0 []), .any, .any, .any, (.int .u8 v0), (.int .u8 v1)] ++ List.replicate 153 .any, items := [.code (subc [1, 1, 1, 1, 1, 0, 0] (bodyOf Tryd.f44)), .code (subc [1, 1, 1, 1, 1, 0, 1] (bodyOf Tryd.f44)), .code (subc [1, 1, 1, 1, 1, 1] (bodyOf Tryd.f44))], D := [], base := 0 },
    stk := [],
    H := [(cREF6_0 x)] }
  | .h2 v0 v1 =>
  { fr := { id := 44, kind := .top, T := [.any, .any, .any, (.ptr 0 []), .any, .any, .any, (.int .u8 v0), (.int .u8 v1)] ++ List.replicate 153 .any, items := [.code (subc [1, 1, 1, 1, 1, 1, 0] (bodyOf Tryd.f44)), .code (subc [1, 1, 1, 1, 1, 1, 1] (bodyOf Tryd.f44))], D := [], base := 0 },
    stk := [],
    H := [(cREF6_0 x)] }
  | .h3 v0 v1 v2 v3 =>
  { fr := { id := 44, kind := .top, T := [.any, .any, .any, (.ptr 0 []), .any, .any, .any, (.int .u8 v0), (.int .u8 v1), (.int .u8 v2), (.int .i64 v3)] ++ List.replicate 151 .any, items := [.code (subc [1, 1, 1, 1, 1, 1, 1, 1, 0] (bodyOf Tryd.f44)), .code (subc [1, 1, 1, 1, 1, 1, 1, 1, 1] (bodyOf Tryd.f44))], D := [], base := 0 },
    stk := [],
    H := [(cREF6_0 x)] }
  | .h4 v0 v1 v2 v3 v4 =>
  { fr := { id := 44, kind := .top, T := [.any, .any, .any, (.ptr 0 []), .any, .any, .any, (.int .u8 v0), (.int .u8 v1), (.int .u8 v2), (.int .i64 v3), (.int .u8 v4), (.int .u8 4), (.int .u8 0)] ++ List.replicate 148 .any, items := [.code (subc [1, 1, 1, 1, 1, 1, 1, 1, 1, 1, 0, 0] (bodyOf Tryd.f44)), .code (subc [1, 1, 1, 1, 1, 1, 1, 1, 1, 1, 0, 1] (bodyOf Tryd.f44)), .code (subc [1, 1, 1, 1, 1, 1, 1, 1, 1, 1, 1] (bodyOf Tryd.f44))], D := [], base := 0 },
    stk := [],
    H := [(cREF6_0 x)] }
  | .h5 v0 v1 v2 v3 v4 v5 v6 =>
  { fr := { id := 44, kind := .top, T := [.any, .any, .any, (.ptr 0 []), .any, .any, .any, (.int .u8 v0), (.int .u8 v1), (.int .u8 v2), (.int .i64 v3), (.int .u8 v4), (.int .u8 v5), (.int .u8 v6)] ++ List.replicate 148 .any, items := [.lp (subc [1, 1, 1, 1, 1, 1, 1, 1, 1, 1, 0, 1, 0, 1, 1, 0, 0] (bodyOf Tryd.f44)), .blk 1, .code (subc [1, 1, 1, 1, 1, 1, 1, 1, 1, 1, 1] (bodyOf Tryd.f44))], D := [], base := 0 },
    stk := [],
    H := [(cREF6_0 x)] }
  | .h6 v0 v1 v2 v3 v4 v5 v6 =>
  { fr := { id := 44, kind := .top, T := [.any, .any, .any, (.ptr 0 []), .any, .any, .any, (.int .u8 v0), (.int .u8 v1), (.int .u8 v2), (.int .i64 v3), (.int .u8 v4), (.int .u8 v5), (.int .u8 v6)] ++ List.replicate 148 .any, items := [.code (subc [1, 1, 1, 1, 1, 1, 1, 1, 1, 1, 1, 0, 0] (bodyOf Tryd.f44)), .code (subc [1, 1, 1, 1, 1, 1, 1, 1, 1, 1, 1, 0, 1] (bodyOf Tryd.f44)), .code (subc [1, 1, 1, 1, 1, 1, 1, 1, 1, 1, 1, 1] (bodyOf Tryd.f44))], D := [], base := 0 },
    stk := [],
    H := [(cREF6_0 x)] }
  | .h7 v0 v1 v2 v3 v4 v5 v6 =>
  { fr := { id := 44, kind := .top, T := [.any, .any, .any, (.ptr 0 []), .any, .any, .any, (.int .u8 v0), (.int .u8 v1), (.int .u8 v2), (.int .i64 v3), (.int .u8 v4), (.int .u8 v5), (.int .u8 v6)] ++ List.replicate 148 .any, items := [.code (subc [1, 1, 1, 1, 1, 1, 1, 1, 1, 1, 0, 1, 0, 1, 1, 0, 0, 1, 0] (bodyOf Tryd.f44)), .blk 2, .lp (subc [1, 1, 1, 1, 1, 1, 1, 1, 1, 1, 0, 1, 0, 1, 1, 0, 0] (bodyOf Tryd.f44)), .blk 1, .code (subc [1, 1, 1, 1, 1, 1, 1, 1, 1, 1, 1] (bodyOf Tryd.f44))], D := [], base := 0 },
    stk := [],
    H := [(cREF6_0 x)] }
  | .h8 v0 v1 v2 v3 v4 v5 v6 =>
  { fr := { id := 44, kind := .top, T := [.any, .any, .any, (.ptr 0 []), .any, .any, .any, (.int .u8 v0), (.int .u8 v1), (.int .u8 v2), (.int .i64 v3), (.int .u8 v4), (.int .u8 v5), (.int .u8 v6)] ++ List.replicate 148 .any, items := [.code (subc [1, 1, 1, 1, 1, 1, 1, 1, 1, 1, 1, 1, 0] (bodyOf Tryd.f44)), .code (subc [1, 1, 1, 1, 1, 1, 1, 1, 1, 1, 1, 1, 1] (bodyOf Tryd.f44))], D := [], base := 0 },
    stk := [],
    H := [(cREF6_0 x)] }
noncomputable def stop44 : FuncId → Nat → Nat → Option Cut
  | 44, 7, 0 => some { tmps := [0, 3], loops := [], dead := [], stk := [] }
  | 44, 15, 0 => some { tmps := [3, 7, 8], loops := [], dead := [], stk := [] }
  | 44, 19, 0 => some { tmps := [3, 7, 8], loops := [], dead := [], stk := [] }
  | 44, 33, 0 => some { tmps := [3, 7, 8, 9, 10], loops := [], dead := [], stk := [] }
  | 44, 41, 0 => some { tmps := [3, 7, 8, 9, 10, 11, 12, 13], loops := [], dead := [], stk := [] }
  | 44, 2, 0 => some { tmps := [3, 7, 8, 9, 10, 11, 12, 13], loops := [], dead := [], stk := [] }
  | 44, 51, 0 => some { tmps := [3, 7, 8, 9, 10, 11, 12, 13], loops := [], dead := [], stk := [] }
  | 44, 49, 0 => some { tmps := [3, 7, 8, 9, 10, 11, 12, 13], loops := [], dead := [], stk := [] }
  | 44, 55, 0 => some { tmps := [3, 7, 8, 9, 10, 11, 12, 13], loops := [], dead := [], stk := [] }
  | _, _, _ => none
noncomputable def fn44 (x : (Int × DOperand)) : ((List Int) × (Int × Int)) := endVal (TC.dflt (.st (.slice (.int .u8)) (.st (.int .u8) (.st1 (.int .i64))))) (step44 x) (tree44 x)
def pre44 (x : (Int × DOperand)) : Prop := ∃ r, Ends (step44 x) r (tree44 x)
noncomputable def spec44 : Spec := { dom := (.st (.int .i64) (.st1 COperand)), cod := (.st (.slice (.int .u8)) (.st (.int .u8) (.st1 (.int .i64)))), n := 3, pre := pre44, f := fn44 }
noncomputable def need44 : FuncId → Option Spec
  | 78 => some spec78
  | 79 => some spec79
  | _ => none
theorem need44_ok : ∀ f sp, need44 f = some sp → SpecOk env0 f sp := by
  intro f sp h
  unfold need44 at h
  split at h
  · cases h; exact ok78
  · cases h; exact ok79
  · cases h
theorem run44 (W : Cfg) (Q : ((List Int) × (Int × Int)) → Prop) (x : (Int × DOperand)) : run (env need44 (fun _ _ => none)) stop44 (finS spec44 Q) W 100000 (startFr 44 Tryd.f44 (bodyOf Tryd.f44) (argsOf (.st (.int .i64) (.st1 COperand)) x)) [] [] = (tree44 x).wp (kont W Q (head44 x)) := by kernel_rfl
theorem run44h0 (W : Cfg) (Q : ((List Int) × (Int × Int)) → Prop) (x : (Int × DOperand)) : run (env need44 (fun _ _ => none)) stop44 (finS spec44 Q) W 100000 (head44 x (.h0)).fr.enter (head44 x (.h0)).stk (head44 x (.h0)).H = (step44 x (.h0)).wp (kont W Q (head44 x)) := by kernel_rfl
theorem run44h1 (W : Cfg) (Q : ((List Int) × (Int × Int)) → Prop) (x : (Int × DOperand)) (v0 : Int) (v1 : Int) : run (env need44 (fun _ _ => none)) stop44 (finS spec44 Q) W 100000 (head44 x (.h1 v0 v1)).fr.enter (head44 x (.h1 v0 v1)).stk (head44 x (.h1 v0 v1)).H = (step44 x (.h1 v0 v1)).wp (kont W Q (head44 x)) := by kernel_rfl
theorem run44h2 (W : Cfg) (Q : ((List Int) × (Int × Int)) → Prop) (x : (Int × DOperand)) (v0 : Int) (v1 : Int) : run (env need44 (fun _ _ => none)) stop44 (finS spec44 Q) W 100000 (head44 x (.h2 v0 v1)).fr.enter (head44 x (.h2 v0 v1)).stk (head44 x (.h2 v0 v1)).H = (step44 x (.h2 v0 v1)).wp (kont W Q (head44 x)) := by kernel_rfl
theorem run44h3 (W : Cfg) (Q : ((List Int) × (Int × Int)) → Prop) (x : (Int × DOperand)) (v0 : Int) (v1 : Int) (v2 : Int) (v3 : Int) : run (env need44 (fun _ _ => none)) stop44 (finS spec44 Q) W 100000 (head44 x (.h3 v0 v1 v2 v3)).fr.enter (head44 x (.h3 v0 v1 v2 v3)).stk (head44 x (.h3 v0 v1 v2 v3)).H = (step44 x (.h3 v0 v1 v2 v3)).wp (kont W Q (head44 x)) := by kernel_rfl
theorem run44h4 (W : Cfg) (Q : ((List Int) × (Int × Int)) → Prop) (x : (Int × DOperand)) (v0 : Int) (v1 : Int) (v2 : Int) (v3 : Int) (v4 : Int) : run (env need44 (fun _ _ => none)) stop44 (finS spec44 Q) W 100000 (head44 x (.h4 v0 v1 v2 v3 v4)).fr.enter (head44 x (.h4 v0 v1 v2 v3 v4)).stk (head44 x (.h4 v0 v1 v2 v3 v4)).H = (step44 x (.h4 v0 v1 v2 v3 v4)).wp (kont W Q (head44 x)) := by kernel_rfl
theorem run44h5 (W : Cfg) (Q : ((List Int) × (Int × Int)) → Prop) (x : (Int × DOperand)) (v0 : Int) (v1 : Int) (v2 : Int) (v3 : Int) (v4 : Int) (v5 : Int) (v6 : Int) : run (env need44 (fun _ _ => none)) stop44 (finS spec44 Q) W 100000 (head44 x (.h5 v0 v1 v2 v3 v4 v5 v6)).fr.enter (head44 x (.h5 v0 v1 v2 v3 v4 v5 v6)).stk (head44 x (.h5 v0 v1 v2 v3 v4 v5 v6)).H = (step44 x (.h5 v0 v1 v2 v3 v4 v5 v6)).wp (kont W Q (head44 x)) := by kernel_rfl
theorem run44h6 (W : Cfg) (Q : ((List Int) × (Int × Int)) → Prop) (x : (Int × DOperand)) (v0 : Int) (v1 : Int) (v2 : Int) (v3 : Int) (v4 : Int) (v5 : Int) (v6 : Int) : run (env need44 (fun _ _ => none)) stop44 (finS spec44 Q) W 100000 (head44 x (.h6 v0 v1 v2 v3 v4 v5 v6)).fr.enter (head44 x (.h6 v0 v1 v2 v3 v4 v5 v6)).stk (head44 x (.h6 v0 v1 v2 v3 v4 v5 v6)).H = (step44 x (.h6 v0 v1 v2 v3 v4 v5 v6)).wp (kont W Q (head44 x)) := by kernel_rfl
theorem run44h7 (W : Cfg) (Q : ((List Int) × (Int × Int)) → Prop) (x : (Int × DOperand)) (v0 : Int) (v1 : Int) (v2 : Int) (v3 : Int) (v4 : Int) (v5 : Int) (v6 : Int) : run (env need44 (fun _ _ => none)) stop44 (finS spec44 Q) W 100000 (head44 x (.h7 v0 v1 v2 v3 v4 v5 v6)).fr.enter (head44 x (.h7 v0 v1 v2 v3 v4 v5 v6)).stk (head44 x (.h7 v0 v1 v2 v3 v4 v5 v6)).H = (step44 x (.h7 v0 v1 v2 v3 v4 v5 v6)).wp (kont W Q (head44 x)) := by kernel_rfl
theorem run44h8 (W : Cfg) (Q : ((List Int) × (Int × Int)) → Prop) (x : (Int × DOperand)) (v0 : Int) (v1 : Int) (v2 : Int) (v3 : Int) (v4 : Int) (v5 : Int) (v6 : Int) : run (env need44 (fun _ _ => none)) stop44 (finS spec44 Q) W 100000 (head44 x (.h8 v0 v1 v2 v3 v4 v5 v6)).fr.enter (head44 x (.h8 v0 v1 v2 v3 v4 v5 v6)).stk (head44 x (.h8 v0 v1 v2 v3 v4 v5 v6)).H = (step44 x (.h8 v0 v1 v2 v3 v4 v5 v6)).wp (kont W Q (head44 x)) := by kernel_rfl
theorem runs44 (W : Cfg) (Q : ((List Int) × (Int × Int)) → Prop) (x : (Int × DOperand)) : ∀ j : J44, run (env need44 (fun _ _ => none)) stop44 (finS spec44 Q) W 100000 (head44 x j).fr.enter (head44 x j).stk (head44 x j).H = (step44 x j).wp (kont W Q (head44 x))
  | .h0 => run44h0 W Q x
  | .h1 v0 v1 => run44h1 W Q x v0 v1
  | .h2 v0 v1 => run44h2 W Q x v0 v1
  | .h3 v0 v1 v2 v3 => run44h3 W Q x v0 v1 v2 v3
  | .h4 v0 v1 v2 v3 v4 => run44h4 W Q x v0 v1 v2 v3 v4
  | .h5 v0 v1 v2 v3 v4 v5 v6 => run44h5 W Q x v0 v1 v2 v3 v4 v5 v6
  | .h6 v0 v1 v2 v3 v4 v5 v6 => run44h6 W Q x v0 v1 v2 v3 v4 v5 v6
  | .h7 v0 v1 v2 v3 v4 v5 v6 => run44h7 W Q x v0 v1 v2 v3 v4 v5 v6
  | .h8 v0 v1 v2 v3 v4 v5 v6 => run44h8 W Q x v0 v1 v2 v3 v4 v5 v6
theorem ok44 : SpecOk env0 44 spec44 := SpecOk.env rfl (fun _ _ h => h) (spec_of_trees (E := (env need44 (fun _ _ => none))) (sp := spec44) (valid _ _) (fun f sp h => SpecOk.env rfl (fun _ _ h => h) (need44_ok f sp h)) (fn := Tryd.f44) (c := (bodyOf Tryd.f44)) (by kernel_rfl) (by kernel_rfl) tree44 step44 head44 run44 runs44 (fun _ h => endVal_ends h))

/-! ### sundial/sundialref10.middle -/
noncomputable def tree80 (x : DOperand) : Tr Bool :=
  .ite ((ieq x.1 1) == true) (
  let y0 : Int := x.2.1
  .ite ((ile 4 y0) == true) (
  .ret (ile y0 7)) (
  .ret false)) (
  .ret false)
noncomputable def fn80 (x : DOperand) : Bool := (tree80 x).val
def pre80 (x : DOperand) : Prop := (tree80 x).ok
noncomputable def spec80 : Spec := { dom := (.st1 COperand), cod := .bool, n := 1, pre := pre80, f := fn80 }
noncomputable def need80 : FuncId → Option Spec
  | _ => none
theorem need80_ok : ∀ f sp, need80 f = some sp → SpecOk env0 f sp := by
  intro f sp h
  unfold need80 at h
  split at h
  · cases h
theorem run80 (W : Cfg) (Q : Bool → Prop) (x : DOperand) : run (env need80 (fun _ _ => none)) (fun _ _ _ => none) (finS spec80 Q) W 100000 (startFr 80 Tryd.f80 (bodyOf Tryd.f80) (argsOf (.st1 COperand) x)) [] [] = (tree80 x).wp Q := by kernel_rfl
theorem ok80 : SpecOk env0 80 spec80 := SpecOk.env rfl (fun _ _ h => h) (spec_of_tree (E := (env need80 (fun _ _ => none))) (sp := spec80) (valid _ _) (fun f sp h => SpecOk.env rfl (fun _ _ h => h) (need80_ok f sp h)) (fn := Tryd.f80) (c := (bodyOf Tryd.f80)) (by kernel_rfl) (by kernel_rfl) tree80 run80 (fun _ h => Tr.gives_val h))

/-! ### sundial/sundialref10.bytes -/
noncomputable def tree45 (x : DInsn) : Tr Bool :=
  .ite ((ieq x.1 32) == false) (
  .ite (ieq x.1 33) (
  let y0 : (Int × (DOperand × (DOperand × (Int × Int)))) := x.2.2
  let y1 : (DOperand × (DOperand × (Int × Int))) := y0.2
  let y2 : DOperand := y1.2.1
  .need (pre80 y2) <|
  let y3 : Bool := (fn80 y2)
  .ret y3) (
  let y4 : (Int × (DOperand × (DOperand × (Int × Int)))) := x.2.2
  .ite ((ieq y4.1 1) == true) (
  let y5 : (DOperand × (DOperand × (Int × Int))) := y4.2
  let y6 : DOperand := y5.1
  .need (pre80 y6) <|
  .ite ((fn80 y6) == false) (
  let y7 : DOperand := y5.2.1
  .need (pre80 y7) <|
  let y8 : Bool := (fn80 y7)
  .ret y8) (
  .ret true)) (
  .ret false))) (
  let y9 : (Int × (DOperand × (DOperand × (Int × Int)))) := x.2.2
  let y10 : (DOperand × (DOperand × (Int × Int))) := y9.2
  let y11 : DOperand := y10.2.1
  .need (pre80 y11) <|
  let y12 : Bool := (fn80 y11)
  .ret y12)
noncomputable def fn45 (x : DInsn) : Bool := (tree45 x).val
def pre45 (x : DInsn) : Prop := (tree45 x).ok
noncomputable def spec45 : Spec := { dom := (.st1 CInsn), cod := .bool, n := 1, pre := pre45, f := fn45 }
noncomputable def need45 : FuncId → Option Spec
  | 80 => some spec80
  | _ => none
theorem need45_ok : ∀ f sp, need45 f = some sp → SpecOk env0 f sp := by
  intro f sp h
  unfold need45 at h
  split at h
  · cases h; exact ok80
  · cases h
theorem run45 (W : Cfg) (Q : Bool → Prop) (x : DInsn) : run (env need45 (fun _ _ => none)) (fun _ _ _ => none) (finS spec45 Q) W 100000 (startFr 45 Tryd.f45 (bodyOf Tryd.f45) (argsOf (.st1 CInsn) x)) [] [] = (tree45 x).wp Q := by kernel_rfl
theorem ok45 : SpecOk env0 45 spec45 := SpecOk.env rfl (fun _ _ h => h) (spec_of_tree (E := (env need45 (fun _ _ => none))) (sp := spec45) (valid _ _) (fun f sp h => SpecOk.env rfl (fun _ _ h => h) (need45_ok f sp h)) (fn := Tryd.f45) (c := (bodyOf Tryd.f45)) (by kernel_rfl) (by kernel_rfl) tree45 run45 (fun _ h => Tr.gives_val h))

/-! ### sundial/sundialref10.number -/
inductive J46 where
  | h0
  | h1 (v3 : Nat) (v4 : Int) (v5 : Nat) (v6 : (List Int))
noncomputable def tree46 (_x : (Int × Int)) : Tr (J46 ⊕ (List Int)) :=
  .ret (.inl (.h0))
noncomputable def step46 (x : (Int × Int)) : J46 → Tr (J46 ⊕ (List Int))
  | .h0 =>
  .ite (ilt 0 x.2) (
  .need ((0 : Int) ≤ 0) <|
  .need ((0 : Nat) < 1) <|
  .need (((0 : Nat) + 1 : Nat) ≤ 1) <|
  .need (((1 : Nat) * 1 : Nat) ≤ 2 ^ 40) <|
  .need ((1 : Nat) ≤ 2 ^ 40) <|
  .ret (.inl (.h1 1 1 1 [(iconv .u8 (ishr .u64 (iconv .u64 x.1) 0))]))) (
  .ret (.inr ([] : List Int)))
  | .h1 v3 v4 v5 v6 =>
  .ite (ilt v4 x.2) (
  let y0 : Int := (iconv .u64 (imul .i64 8 v4))
  .need ((0 : Int) ≤ y0) <|
  .need ((0 : Nat) < 1) <|
  .need (((0 : Nat) + 1 : Nat) ≤ 1) <|
  .need ((v3 : Nat) = v5) <|
  let y1 : Nat := (v3 + 1)
  .need (((y1 : Nat) * 1 : Nat) ≤ 2 ^ 40) <|
  .need ((y1 : Nat) ≤ 2 ^ 40) <|
  .ret (.inl (.h1 y1 (iadd .i64 v4 1) y1 (v6 ++ [(iconv .u8 (ishr .u64 (iconv .u64 x.1) y0))])))) (
  .need (((0 : Nat) + v3 : Nat) ≤ v5) <|
  .ret (.inr (v6.take v3)))
noncomputable def head46 (x : (Int × Int)) : J46 → Head
  | .h0 =>
  { fr := { id := 46, kind := .top, T := [(.int .i64 x.1), (.int .i64 x.2), .any, .any, .any, (.raw (.slice none 0 0)), (.int .i64 0)] ++ List.replicate 16 .any, items := [.lp (subc [1, 1, 0, 1, 0, 0] (bodyOf Tryd.f46)), .blk 0, .code (subc [1, 1, 1] (bodyOf Tryd.f46))], D := [], base := 0 },
    stk := [],
    H := [] }
  | .h1 v3 v4 v5 v6 =>
  { fr := { id := 46, kind := .top, T := [(.int .i64 x.1), (.int .i64 x.2), .any, .any, .any, (.osl 0 [] 1 0 v3 none), (.int .i64 v4)] ++ List.replicate 16 .any, items := [.lp (subc [1, 1, 0, 1, 0, 0] (bodyOf Tryd.f46)), .blk 0, .code (subc [1, 1, 1] (bodyOf Tryd.f46))], D := [], base := 0 },
    stk := [],
    H := [.cell true 5 (.arr v5 (.int .u8) v6)] }
noncomputable def stop46 : FuncId → Nat → Nat → Option Cut
  | 46, 0, 0 => some { tmps := [0, 1, 5, 6], loops := [], dead := [], stk := [] }
  | _, _, _ => none
noncomputable def fn46 (x : (Int × Int)) : (List Int) := endVal (TC.dflt (.slice (.int .u8))) (step46 x) (tree46 x)
def pre46 (x : (Int × Int)) : Prop := ∃ r, Ends (step46 x) r (tree46 x)
noncomputable def spec46 : Spec := { dom := (.st (.int .i64) (.st1 (.int .i64))), cod := (.slice (.int .u8)), n := 1, pre := pre46, f := fn46 }
noncomputable def need46 : FuncId → Option Spec
  | _ => none
theorem need46_ok : ∀ f sp, need46 f = some sp → SpecOk env0 f sp := by
  intro f sp h
  unfold need46 at h
  split at h
  · cases h
theorem run46 (W : Cfg) (Q : (List Int) → Prop) (x : (Int × Int)) : run (env need46 (fun _ _ => none)) stop46 (finS spec46 Q) W 100000 (startFr 46 Tryd.f46 (bodyOf Tryd.f46) (argsOf (.st (.int .i64) (.st1 (.int .i64))) x)) [] [] = (tree46 x).wp (kont W Q (head46 x)) := by kernel_rfl
theorem run46h0 (W : Cfg) (Q : (List Int) → Prop) (x : (Int × Int)) : run (env need46 (fun _ _ => none)) stop46 (finS spec46 Q) W 100000 (head46 x (.h0)).fr.enter (head46 x (.h0)).stk (head46 x (.h0)).H = (step46 x (.h0)).wp (kont W Q (head46 x)) := by kernel_rfl
theorem run46h1 (W : Cfg) (Q : (List Int) → Prop) (x : (Int × Int)) (v3 : Nat) (v4 : Int) (v5 : Nat) (v6 : (List Int)) : run (env need46 (fun _ _ => none)) stop46 (finS spec46 Q) W 100000 (head46 x (.h1 v3 v4 v5 v6)).fr.enter (head46 x (.h1 v3 v4 v5 v6)).stk (head46 x (.h1 v3 v4 v5 v6)).H = (step46 x (.h1 v3 v4 v5 v6)).wp (kont W Q (head46 x)) := by kernel_rfl
theorem runs46 (W : Cfg) (Q : (List Int) → Prop) (x : (Int × Int)) : ∀ j : J46, run (env need46 (fun _ _ => none)) stop46 (finS spec46 Q) W 100000 (head46 x j).fr.enter (head46 x j).stk (head46 x j).H = (step46 x j).wp (kont W Q (head46 x))
  | .h0 => run46h0 W Q x
  | .h1 v3 v4 v5 v6 => run46h1 W Q x v3 v4 v5 v6
theorem ok46 : SpecOk env0 46 spec46 := SpecOk.env rfl (fun _ _ h => h) (spec_of_trees (E := (env need46 (fun _ _ => none))) (sp := spec46) (valid _ _) (fun f sp h => SpecOk.env rfl (fun _ _ h => h) (need46_ok f sp h)) (fn := Tryd.f46) (c := (bodyOf Tryd.f46)) (by kernel_rfl) (by kernel_rfl) tree46 step46 head46 run46 runs46 (fun _ h => endVal_ends h))

end Go.Eng.RE
end
section
/- Functions of this program, written out. -/
namespace Go.Eng.RE
open Go.Proofs Go.Eng
set_option maxRecDepth 100000

/-! ### sundial/sundialref10.Encode -/
inductive J15 where
  | h0 (v21 : Drow)
  | h1 (v1 : Nat) (v2 : Int) (v24 : Drow) (v32 : Nat) (v33 : (List Int)) (v34 : DOperand)
  | h2 (v1 : Nat) (v2 : Int) (v24 : Drow) (v32 : Nat) (v33 : (List Int)) (v34 : DOperand)
  | h3 (v1 : Nat) (v2 : Int) (v24 : Drow) (v32 : Nat) (v33 : (List Int))
  | h4 (v1 : Nat) (v3 : Int) (v25 : Drow) (v33 : (List Int)) (v34 : DOperand)
  | h5 (v1 : Nat) (v3 : Int) (v25 : Drow) (v33 : (List Int)) (v34 : DOperand)
  | h6 (v1 : Nat) (v3 : Int) (v25 : Drow) (v33 : (List Int))
  | h7 (v1 : Nat) (v2 : (List Int)) (v3 : Int) (v25 : Drow) (v33 : Nat) (v34 : (List Int))
  | h8 (v1 : Nat) (v2 : Int) (v24 : Drow) (v32 : Nat) (v33 : (List Int))
  | h9 (v1 : Nat) (v3 : (List Int)) (v4 : Int) (v26 : Drow) (v34 : (List Int))
  | h10 (v1 : Nat) (v3 : Int) (v25 : Drow) (v33 : (List Int))
  | h11 (v1 : Nat) (v2 : (List Int)) (v3 : Int) (v25 : Drow) (v33 : Nat) (v34 : (List Int))
  | h12 (v1 : Nat) (v2 : Int) (v26 : Drow) (v34 : Nat) (v35 : (List Int)) (v37 : (List Int))
  | h13 (v1 : Nat) (v2 : Int) (v24 : Drow) (v32 : Nat) (v33 : (List Int))
  | h14 (v1 : Nat) (v3 : (List Int)) (v4 : Int) (v26 : Drow) (v34 : (List Int))
  | h15 (v1 : Nat) (v3 : Int) (v27 : Drow) (v35 : (List Int)) (v37 : (List Int))
  | h16 (v1 : Nat) (v3 : Int) (v25 : Drow) (v33 : (List Int))
  | h17 (v1 : Nat) (v2 : (List Int)) (v3 : Int) (v27 : Drow) (v35 : Nat) (v36 : (List Int)) (v38 : (List Int))
  | h18 (v1 : Nat) (v2 : (List Int)) (v3 : Int) (v25 : Drow) (v33 : Nat) (v34 : (List Int))
  | h19 (v1 : Nat) (v3 : Nat) (v25 : Drow) (v33 : Nat) (v34 : (List Int)) (v35 : Nat) (v36 : (List Int))
  | h20 (v1 : Nat) (v23 : Drow) (v31 : Nat) (v32 : (List Int))
  | h21 (v1 : Nat) (v3 : (List Int)) (v4 : Int) (v28 : Drow) (v36 : (List Int)) (v38 : (List Int))
  | h22 (v1 : Nat) (v3 : (List Int)) (v4 : Int) (v26 : Drow) (v34 : (List Int))
  | h23 (v1 : Nat) (v4 : Nat) (v26 : Drow) (v34 : (List Int)) (v35 : Nat) (v36 : (List Int))
  | h24 (v1 : Nat) (v24 : Drow) (v32 : (List Int))
  | h25 (v1 : Nat) (v2 : (List Int)) (v4 : Nat) (v26 : Drow) (v34 : Nat) (v35 : (List Int)) (v36 : Nat) (v37 : (List Int))
  | h26 (v1 : Nat) (v2 : (List Int)) (v24 : Drow) (v32 : Nat) (v33 : (List Int))
  | h27 (v1 : Nat) (v2 : Int) (v3 : Drow) (v11 : Nat) (v12 : (List Int))
  | h28 (v0 : Int) (v1 : Drow)
  | h29 (v1 : Nat) (v3 : (List Int)) (v5 : Nat) (v27 : Drow) (v35 : (List Int)) (v36 : Nat) (v37 : (List Int))
  | h30 (v1 : Nat) (v3 : (List Int)) (v25 : Drow) (v33 : (List Int))
noncomputable def tree15 (x : DInsn) : Tr (J15 ⊕ ((List Int) × Int)) :=
  .need (pre42 x) <|
  .ite (!(fn42 x).2) (
  .ret (.inr (([] : List Int), 2))) (
  .ret (.inl (.h0 (fn42 x).1)))
noncomputable def step15 (x : DInsn) : J15 → Tr (J15 ⊕ ((List Int) × Int))
  | .h0 v21 =>
  let y0 : ((List Int) × (Int × (Int × Int))) := v21.2.2.2.2
  let y1 : (List Int) := y0.1
  let y2 : Nat := y1.length
  let y3 : Nat := (0 + y2)
  .ite (ilt ((0 : Nat) : Int) ((y3 : Nat) : Int)) (
  .need ((0 + 0 : Nat) ≤ 0) <|
  .need (((y3 : Nat) * 1 : Nat) ≤ 2 ^ 40) <|
  .need ((y3 : Nat) ≤ 2 ^ 40) <|
  let y4 : (DOperand × (DOperand × (Int × Int))) := x.2.2.2
  let y5 : DOperand := y4.1
  .need (pre43 y5) <|
  let y6 : DOperand := y4.2.1
  .need (pre43 y6) <|
  .both (
  let y7 : (Int × (Int × Int)) := y0.2
  let y8 : Int := y7.2.1
  let y9 : Bool := (ieq y8 1)
  .ite y9 (
  let y10 : Int := y7.1
  let y11 : Bool := (ilt y10 0)
  .ite y11 (
  let y12 : DOperand := (fn43 y6)
  let y13 : Int := y12.2.1
  let y14 : (List Int) := (([] : List Int) ++ y1)
  let y15 : DOperand := (fn43 y5)
  .ret (.inl (.h1 y3 y13 v21 y3 y14 y15))) (
  let y16 : (List Int) := (([] : List Int) ++ y1)
  let y17 : DOperand := (fn43 y5)
  .ret (.inl (.h1 y3 y10 v21 y3 y16 y17)))) (
  let y18 : Bool := (ieq y8 2)
  .ite y18 (
  let y19 : Int := y7.1
  let y20 : Bool := (ilt y19 0)
  .ite y20 (
  let y21 : DOperand := (fn43 y5)
  let y22 : Int := y21.2.1
  let y23 : (List Int) := (([] : List Int) ++ y1)
  let y24 : DOperand := (fn43 y6)
  .ret (.inl (.h2 y3 y22 v21 y3 y23 y24))) (
  let y25 : (List Int) := (([] : List Int) ++ y1)
  let y26 : DOperand := (fn43 y6)
  .ret (.inl (.h2 y3 y19 v21 y3 y25 y26)))) (
  let y27 : Bool := (ieq y8 3)
  .ite y27 (
  let y28 : Int := (isub .i64 (y3 : Int) 1)
  .need ((0 : Int) ≤ y28) <|
  .need (y28 < (y3 : Int)) <|
  let y29 : Nat := (0 + (y28).toNat)
  .need ((y29 : Nat) < y3) <|
  .need ((0 : Int) ≤ y28) <|
  .need (y28 < (y3 : Int)) <|
  .need ((y29 : Nat) < y3) <|
  .need ((0 : Int) ≤ 3) <|
  let y30 : DOperand := (fn43 y5)
  let y31 : Int := y30.2.1
  let y32 : Int := (iconv .u8 (ishr .i64 y31 3))
  let y33 : (List Int) := (([] : List Int) ++ y1)
  let y34 : Int := (iconv .u8 (iand .i64 y31 7))
  let y35 : (List Int) := (y33.set y29 (iadd .u8 (rdc (.int .u8) y33 y29) y34))
  .ret (.inl (.h3 y3 y32 v21 y3 y35))) (
  let y36 : (List Int) := (([] : List Int) ++ y1)
  .ret (.inl (.h3 y3 0 v21 y3 y36)))))) (
  let y37 : (Int × (Int × Int)) := y0.2
  let y38 : Int := y37.2.1
  let y39 : Bool := (ieq y38 1)
  .ite y39 (
  let y40 : Int := y37.1
  let y41 : Bool := (ilt y40 0)
  .ite y41 (
  let y42 : DOperand := (fn43 y6)
  let y43 : Int := y42.2.1
  let y44 : (List Int) := (([] : List Int) ++ y1)
  let y45 : DOperand := (fn43 y5)
  .ret (.inl (.h1 y3 y43 v21 y3 y44 y45))) (
  let y46 : (List Int) := (([] : List Int) ++ y1)
  let y47 : DOperand := (fn43 y5)
  .ret (.inl (.h1 y3 y40 v21 y3 y46 y47)))) (
  let y48 : Bool := (ieq y38 2)
  .ite y48 (
  let y49 : Int := y37.1
  let y50 : Bool := (ilt y49 0)
  .ite y50 (
  let y51 : DOperand := (fn43 y5)
  let y52 : Int := y51.2.1
  let y53 : (List Int) := (([] : List Int) ++ y1)
  let y54 : DOperand := (fn43 y6)
  .ret (.inl (.h2 y3 y52 v21 y3 y53 y54))) (
  let y55 : (List Int) := (([] : List Int) ++ y1)
  let y56 : DOperand := (fn43 y6)
  .ret (.inl (.h2 y3 y49 v21 y3 y55 y56)))) (
  let y57 : Bool := (ieq y38 3)
  .ite y57 (
  let y58 : Int := (isub .i64 (y3 : Int) 1)
  .need ((0 : Int) ≤ y58) <|
  .need (y58 < (y3 : Int)) <|
  let y59 : Nat := (0 + (y58).toNat)
  .need ((y59 : Nat) < y3) <|
  .need ((0 : Int) ≤ y58) <|
  .need (y58 < (y3 : Int)) <|
  .need ((y59 : Nat) < y3) <|
  .need ((0 : Int) ≤ 3) <|
  let y60 : DOperand := (fn43 y5)
  let y61 : Int := y60.2.1
  let y62 : Int := (iconv .u8 (ishr .i64 y61 3))
  let y63 : (List Int) := (([] : List Int) ++ y1)
  let y64 : Int := (iconv .u8 (iand .i64 y61 7))
  let y65 : (List Int) := (y63.set y59 (iadd .u8 (rdc (.int .u8) y63 y59) y64))
  .ret (.inl (.h3 y3 y62 v21 y3 y65))) (
  let y66 : (List Int) := (([] : List Int) ++ y1)
  .ret (.inl (.h3 y3 0 v21 y3 y66))))))) (
  .need ((0 + 0 + y2 : Nat) ≤ 0) <|
  let y67 : (DOperand × (DOperand × (Int × Int))) := x.2.2.2
  let y68 : DOperand := y67.1
  .need (pre43 y68) <|
  let y69 : DOperand := y67.2.1
  .need (pre43 y69) <|
  .both (
  let y70 : (Int × (Int × Int)) := y0.2
  let y71 : Int := y70.2.1
  let y72 : Bool := (ieq y71 1)
  .ite y72 (
  let y73 : Int := y70.1
  let y74 : Bool := (ilt y73 0)
  .ite y74 (
  let y75 : DOperand := (fn43 y69)
  let y76 : Int := y75.2.1
  let y77 : (List Int) := (spliceL (List.replicate 0 (0 : Int)) 0 y1)
  let y78 : DOperand := (fn43 y68)
  .ret (.inl (.h4 y3 y76 v21 y77 y78))) (
  let y79 : (List Int) := (spliceL (List.replicate 0 (0 : Int)) 0 y1)
  let y80 : DOperand := (fn43 y68)
  .ret (.inl (.h4 y3 y73 v21 y79 y80)))) (
  let y81 : Bool := (ieq y71 2)
  .ite y81 (
  let y82 : Int := y70.1
  let y83 : Bool := (ilt y82 0)
  .ite y83 (
  let y84 : DOperand := (fn43 y68)
  let y85 : Int := y84.2.1
  let y86 : (List Int) := (spliceL (List.replicate 0 (0 : Int)) 0 y1)
  let y87 : DOperand := (fn43 y69)
  .ret (.inl (.h5 y3 y85 v21 y86 y87))) (
  let y88 : (List Int) := (spliceL (List.replicate 0 (0 : Int)) 0 y1)
  let y89 : DOperand := (fn43 y69)
  .ret (.inl (.h5 y3 y82 v21 y88 y89)))) (
  let y90 : Bool := (ieq y71 3)
  .ite y90 (
  let y91 : Int := (isub .i64 (y3 : Int) 1)
  .need ((0 : Int) ≤ y91) <|
  .need (y91 < (y3 : Int)) <|
  let y92 : Nat := (0 + (y91).toNat)
  .need ((y92 : Nat) < 0) <|
  .need ((0 : Int) ≤ y91) <|
  .need (y91 < (y3 : Int)) <|
  .need ((y92 : Nat) < 0) <|
  .need ((0 : Int) ≤ 3) <|
  let y93 : DOperand := (fn43 y68)
  let y94 : Int := y93.2.1
  let y95 : Int := (iconv .u8 (ishr .i64 y94 3))
  let y96 : (List Int) := (spliceL (List.replicate 0 (0 : Int)) 0 y1)
  let y97 : Int := (iconv .u8 (iand .i64 y94 7))
  let y98 : (List Int) := (y96.set y92 (iadd .u8 (rdc (.int .u8) y96 y92) y97))
  .ret (.inl (.h6 y3 y95 v21 y98))) (
  let y99 : (List Int) := (spliceL (List.replicate 0 (0 : Int)) 0 y1)
  .ret (.inl (.h6 y3 0 v21 y99)))))) (
  let y100 : (Int × (Int × Int)) := y0.2
  let y101 : Int := y100.2.1
  let y102 : Bool := (ieq y101 1)
  .ite y102 (
  let y103 : Int := y100.1
  let y104 : Bool := (ilt y103 0)
  .ite y104 (
  let y105 : DOperand := (fn43 y69)
  let y106 : Int := y105.2.1
  let y107 : (List Int) := (spliceL (List.replicate 0 (0 : Int)) 0 y1)
  let y108 : DOperand := (fn43 y68)
  .ret (.inl (.h4 y3 y106 v21 y107 y108))) (
  let y109 : (List Int) := (spliceL (List.replicate 0 (0 : Int)) 0 y1)
  let y110 : DOperand := (fn43 y68)
  .ret (.inl (.h4 y3 y103 v21 y109 y110)))) (
  let y111 : Bool := (ieq y101 2)
  .ite y111 (
  let y112 : Int := y100.1
  let y113 : Bool := (ilt y112 0)
  .ite y113 (
  let y114 : DOperand := (fn43 y68)
  let y115 : Int := y114.2.1
  let y116 : (List Int) := (spliceL (List.replicate 0 (0 : Int)) 0 y1)
  let y117 : DOperand := (fn43 y69)
  .ret (.inl (.h5 y3 y115 v21 y116 y117))) (
  let y118 : (List Int) := (spliceL (List.replicate 0 (0 : Int)) 0 y1)
  let y119 : DOperand := (fn43 y69)
  .ret (.inl (.h5 y3 y112 v21 y118 y119)))) (
  let y120 : Bool := (ieq y101 3)
  .ite y120 (
  let y121 : Int := (isub .i64 (y3 : Int) 1)
  .need ((0 : Int) ≤ y121) <|
  .need (y121 < (y3 : Int)) <|
  let y122 : Nat := (0 + (y121).toNat)
  .need ((y122 : Nat) < 0) <|
  .need ((0 : Int) ≤ y121) <|
  .need (y121 < (y3 : Int)) <|
  .need ((y122 : Nat) < 0) <|
  .need ((0 : Int) ≤ 3) <|
  let y123 : DOperand := (fn43 y68)
  let y124 : Int := y123.2.1
  let y125 : Int := (iconv .u8 (ishr .i64 y124 3))
  let y126 : (List Int) := (spliceL (List.replicate 0 (0 : Int)) 0 y1)
  let y127 : Int := (iconv .u8 (iand .i64 y124 7))
  let y128 : (List Int) := (y126.set y122 (iadd .u8 (rdc (.int .u8) y126 y122) y127))
  .ret (.inl (.h6 y3 y125 v21 y128))) (
  let y129 : (List Int) := (spliceL (List.replicate 0 (0 : Int)) 0 y1)
  .ret (.inl (.h6 y3 0 v21 y129)))))))
  | .h1 v1 v2 v24 v32 v33 v34 =>
  let y0 : (Int × DOperand) := (v2, v34)
  .need (pre44 y0) <|
  let y1 : ((List Int) × (Int × Int)) := (fn44 y0)
  .ret (.inl (.h7 v1 y1.1 y1.2.1 v24 v32 v33))
  | .h2 v1 v2 v24 v32 v33 v34 =>
  let y0 : (Int × DOperand) := (v2, v34)
  .need (pre44 y0) <|
  let y1 : ((List Int) × (Int × Int)) := (fn44 y0)
  .ret (.inl (.h7 v1 y1.1 y1.2.1 v24 v32 v33))
  | .h3 v1 v2 v24 v32 v33 =>
  .ite ((ieq v24.1 4) == false) (
  .ite ((ieq v24.1 8) == true) (
  let y0 : Bool := (ieq x.2.2.1 8)
  .ite y0 (
  let y1 : Int := (ior .u8 v2 8)
  .ret (.inl (.h8 v1 y1 v24 v32 v33))) (
  .ret (.inl (.h8 v1 v2 v24 v32 v33)))) (
  .ret (.inl (.h8 v1 v2 v24 v32 v33)))) (
  let y2 : Bool := (ieq x.2.2.1 8)
  .ite y2 (
  let y3 : Int := (ior .u8 v2 8)
  .ret (.inl (.h8 v1 y3 v24 v32 v33))) (
  .ret (.inl (.h8 v1 v2 v24 v32 v33))))
  | .h4 v1 v3 v25 v33 v34 =>
  let y0 : (Int × DOperand) := (v3, v34)
  .need (pre44 y0) <|
  let y1 : ((List Int) × (Int × Int)) := (fn44 y0)
  .ret (.inl (.h9 v1 y1.1 y1.2.1 v25 v33))
  | .h5 v1 v3 v25 v33 v34 =>
  let y0 : (Int × DOperand) := (v3, v34)
  .need (pre44 y0) <|
  let y1 : ((List Int) × (Int × Int)) := (fn44 y0)
  .ret (.inl (.h9 v1 y1.1 y1.2.1 v25 v33))
  | .h6 v1 v3 v25 v33 =>
  .ite ((ieq v25.1 4) == false) (
  .ite ((ieq v25.1 8) == true) (
  let y0 : Bool := (ieq x.2.2.1 8)
  .ite y0 (
  let y1 : Int := (ior .u8 v3 8)
  .ret (.inl (.h10 v1 y1 v25 v33))) (
  .ret (.inl (.h10 v1 v3 v25 v33)))) (
  .ret (.inl (.h10 v1 v3 v25 v33)))) (
  let y2 : Bool := (ieq x.2.2.1 8)
  .ite y2 (
  let y3 : Int := (ior .u8 v3 8)
  .ret (.inl (.h10 v1 y3 v25 v33))) (
  .ret (.inl (.h10 v1 v3 v25 v33))))
  | .h7 v1 v2 v3 v25 v33 v34 =>
  .ite ((ieq v25.1 4) == false) (
  .ite ((ieq v25.1 8) == true) (
  let y0 : Bool := (ieq x.2.2.1 8)
  .ite y0 (
  let y1 : Int := (ior .u8 v3 8)
  .ret (.inl (.h11 v1 v2 y1 v25 v33 v34))) (
  .ret (.inl (.h11 v1 v2 v3 v25 v33 v34)))) (
  .ret (.inl (.h11 v1 v2 v3 v25 v33 v34)))) (
  let y2 : Bool := (ieq x.2.2.1 8)
  .ite y2 (
  let y3 : Int := (ior .u8 v3 8)
  .ret (.inl (.h11 v1 v2 y3 v25 v33 v34))) (
  .ret (.inl (.h11 v1 v2 v3 v25 v33 v34))))
  | .h8 v1 v2 v24 v32 v33 =>
  let y0 : Int := v24.2.2.2.1
  .ite (ine y0 0) (
  .need ((0 : Nat) < 1) <|
  .need (((0 : Nat) + 1 : Nat) ≤ 1) <|
  .need (((1 : Nat) * 1 : Nat) ≤ 2 ^ 40) <|
  .need ((1 : Nat) ≤ 2 ^ 40) <|
  .ret (.inl (.h12 v1 v2 v24 v32 v33 [y0]))) (
  .ret (.inl (.h13 v1 v2 v24 v32 v33)))
  | .h9 v1 v3 v4 v26 v34 =>
  .ite ((ieq v26.1 4) == false) (
  .ite ((ieq v26.1 8) == true) (
  let y0 : Bool := (ieq x.2.2.1 8)
  .ite y0 (
  let y1 : Int := (ior .u8 v4 8)
  .ret (.inl (.h14 v1 v3 y1 v26 v34))) (
  .ret (.inl (.h14 v1 v3 v4 v26 v34)))) (
  .ret (.inl (.h14 v1 v3 v4 v26 v34)))) (
  let y2 : Bool := (ieq x.2.2.1 8)
  .ite y2 (
  let y3 : Int := (ior .u8 v4 8)
  .ret (.inl (.h14 v1 v3 y3 v26 v34))) (
  .ret (.inl (.h14 v1 v3 v4 v26 v34))))
  | .h10 v1 v3 v25 v33 =>
  let y0 : Int := v25.2.2.2.1
  .ite (ine y0 0) (
  .need ((0 : Nat) < 1) <|
  .need (((0 : Nat) + 1 : Nat) ≤ 1) <|
  .need (((1 : Nat) * 1 : Nat) ≤ 2 ^ 40) <|
  .need ((1 : Nat) ≤ 2 ^ 40) <|
  .ret (.inl (.h15 v1 v3 v25 v33 [y0]))) (
  .ret (.inl (.h16 v1 v3 v25 v33)))
  | .h11 v1 v2 v3 v25 v33 v34 =>
  let y0 : Int := v25.2.2.2.1
  .ite (ine y0 0) (
  .need ((0 : Nat) < 1) <|
  .need (((0 : Nat) + 1 : Nat) ≤ 1) <|
  .need (((1 : Nat) * 1 : Nat) ≤ 2 ^ 40) <|
  .need ((1 : Nat) ≤ 2 ^ 40) <|
  .ret (.inl (.h17 v1 v2 v3 v25 v33 v34 [y0]))) (
  .ret (.inl (.h18 v1 v2 v3 v25 v33 v34)))
  | .h12 v1 v2 v26 v34 v35 v37 =>
  .ite ((ine v2 0) == false) (
  .need (pre45 x) <|
  .ite (fn45 x) (
  .need ((0 : Nat) < 1) <|
  .need (((0 : Nat) + 1 : Nat) ≤ 1) <|
  .need ((1 : Nat) = 1) <|
  .need (((2 : Nat) * 1 : Nat) ≤ 2 ^ 40) <|
  .need ((2 : Nat) ≤ 2 ^ 40) <|
  let y0 : (List Int) := (v37 ++ [(ior .u8 64 v2)])
  .ret (.inl (.h19 v1 2 v26 v34 v35 2 y0))) (
  .ret (.inl (.h19 v1 1 v26 v34 v35 1 v37)))) (
  .need ((0 : Nat) < 1) <|
  .need (((0 : Nat) + 1 : Nat) ≤ 1) <|
  .need ((1 : Nat) = 1) <|
  .need (((2 : Nat) * 1 : Nat) ≤ 2 ^ 40) <|
  .need ((2 : Nat) ≤ 2 ^ 40) <|
  let y1 : (List Int) := (v37 ++ [(ior .u8 64 v2)])
  .ret (.inl (.h19 v1 2 v26 v34 v35 2 y1)))
  | .h13 v1 v2 v24 v32 v33 =>
  .ite ((ine v2 0) == false) (
  .need (pre45 x) <|
  .ite (fn45 x) (
  .need ((0 : Nat) < 1) <|
  .need (((0 : Nat) + 1 : Nat) ≤ 1) <|
  .need (((1 : Nat) * 1 : Nat) ≤ 2 ^ 40) <|
  .need ((1 : Nat) ≤ 2 ^ 40) <|
  let y0 : (List Int) := [(ior .u8 64 v2)]
  .ret (.inl (.h19 v1 1 v24 v32 v33 1 y0))) (
  .ret (.inl (.h20 v1 v24 v32 v33)))) (
  .need ((0 : Nat) < 1) <|
  .need (((0 : Nat) + 1 : Nat) ≤ 1) <|
  .need (((1 : Nat) * 1 : Nat) ≤ 2 ^ 40) <|
  .need ((1 : Nat) ≤ 2 ^ 40) <|
  let y1 : (List Int) := [(ior .u8 64 v2)]
  .ret (.inl (.h19 v1 1 v24 v32 v33 1 y1)))
  | .h14 v1 v3 v4 v26 v34 =>
  let y0 : Int := v26.2.2.2.1
  .ite (ine y0 0) (
  .need ((0 : Nat) < 1) <|
  .need (((0 : Nat) + 1 : Nat) ≤ 1) <|
  .need (((1 : Nat) * 1 : Nat) ≤ 2 ^ 40) <|
  .need ((1 : Nat) ≤ 2 ^ 40) <|
  .ret (.inl (.h21 v1 v3 v4 v26 v34 [y0]))) (
  .ret (.inl (.h22 v1 v3 v4 v26 v34)))
  | .h15 v1 v3 v27 v35 v37 =>
  .ite ((ine v3 0) == false) (
  .need (pre45 x) <|
  .ite (fn45 x) (
  .need ((0 : Nat) < 1) <|
  .need (((0 : Nat) + 1 : Nat) ≤ 1) <|
  .need ((1 : Nat) = 1) <|
  .need (((2 : Nat) * 1 : Nat) ≤ 2 ^ 40) <|
  .need ((2 : Nat) ≤ 2 ^ 40) <|
  let y0 : (List Int) := (v37 ++ [(ior .u8 64 v3)])
  .ret (.inl (.h23 v1 2 v27 v35 2 y0))) (
  .ret (.inl (.h23 v1 1 v27 v35 1 v37)))) (
  .need ((0 : Nat) < 1) <|
  .need (((0 : Nat) + 1 : Nat) ≤ 1) <|
  .need ((1 : Nat) = 1) <|
  .need (((2 : Nat) * 1 : Nat) ≤ 2 ^ 40) <|
  .need ((2 : Nat) ≤ 2 ^ 40) <|
  let y1 : (List Int) := (v37 ++ [(ior .u8 64 v3)])
  .ret (.inl (.h23 v1 2 v27 v35 2 y1)))
  | .h16 v1 v3 v25 v33 =>
  .ite ((ine v3 0) == false) (
  .need (pre45 x) <|
  .ite (fn45 x) (
  .need ((0 : Nat) < 1) <|
  .need (((0 : Nat) + 1 : Nat) ≤ 1) <|
  .need (((1 : Nat) * 1 : Nat) ≤ 2 ^ 40) <|
  .need ((1 : Nat) ≤ 2 ^ 40) <|
  let y0 : (List Int) := [(ior .u8 64 v3)]
  .ret (.inl (.h23 v1 1 v25 v33 1 y0))) (
  .ret (.inl (.h24 v1 v25 v33)))) (
  .need ((0 : Nat) < 1) <|
  .need (((0 : Nat) + 1 : Nat) ≤ 1) <|
  .need (((1 : Nat) * 1 : Nat) ≤ 2 ^ 40) <|
  .need ((1 : Nat) ≤ 2 ^ 40) <|
  let y1 : (List Int) := [(ior .u8 64 v3)]
  .ret (.inl (.h23 v1 1 v25 v33 1 y1)))
  | .h17 v1 v2 v3 v27 v35 v36 v38 =>
  .ite ((ine v3 0) == false) (
  .need (pre45 x) <|
  .ite (fn45 x) (
  .need ((0 : Nat) < 1) <|
  .need (((0 : Nat) + 1 : Nat) ≤ 1) <|
  .need ((1 : Nat) = 1) <|
  .need (((2 : Nat) * 1 : Nat) ≤ 2 ^ 40) <|
  .need ((2 : Nat) ≤ 2 ^ 40) <|
  let y0 : (List Int) := (v38 ++ [(ior .u8 64 v3)])
  .ret (.inl (.h25 v1 v2 2 v27 v35 v36 2 y0))) (
  .ret (.inl (.h25 v1 v2 1 v27 v35 v36 1 v38)))) (
  .need ((0 : Nat) < 1) <|
  .need (((0 : Nat) + 1 : Nat) ≤ 1) <|
  .need ((1 : Nat) = 1) <|
  .need (((2 : Nat) * 1 : Nat) ≤ 2 ^ 40) <|
  .need ((2 : Nat) ≤ 2 ^ 40) <|
  let y1 : (List Int) := (v38 ++ [(ior .u8 64 v3)])
  .ret (.inl (.h25 v1 v2 2 v27 v35 v36 2 y1)))
  | .h18 v1 v2 v3 v25 v33 v34 =>
  .ite ((ine v3 0) == false) (
  .need (pre45 x) <|
  .ite (fn45 x) (
  .need ((0 : Nat) < 1) <|
  .need (((0 : Nat) + 1 : Nat) ≤ 1) <|
  .need (((1 : Nat) * 1 : Nat) ≤ 2 ^ 40) <|
  .need ((1 : Nat) ≤ 2 ^ 40) <|
  let y0 : (List Int) := [(ior .u8 64 v3)]
  .ret (.inl (.h25 v1 v2 1 v25 v33 v34 1 y0))) (
  .ret (.inl (.h26 v1 v2 v25 v33 v34)))) (
  .need ((0 : Nat) < 1) <|
  .need (((0 : Nat) + 1 : Nat) ≤ 1) <|
  .need (((1 : Nat) * 1 : Nat) ≤ 2 ^ 40) <|
  .need ((1 : Nat) ≤ 2 ^ 40) <|
  let y1 : (List Int) := [(ior .u8 64 v3)]
  .ret (.inl (.h25 v1 v2 1 v25 v33 v34 1 y1)))
  | .h19 v1 v3 v25 v33 v34 v35 v36 =>
  .need (((0 : Nat) + v1 : Nat) ≤ v33) <|
  .need ((v3 : Nat) = v35) <|
  let y0 : (List Int) := (v34.take v1)
  let y1 : Nat := (v3 + y0.length)
  .need (((y1 : Nat) * 1 : Nat) ≤ 2 ^ 40) <|
  .need ((y1 : Nat) ≤ 2 ^ 40) <|
  .need ((y1 : Nat) = y1) <|
  .need (((y1 : Nat) * 1 : Nat) ≤ 2 ^ 40) <|
  .need ((y1 : Nat) ≤ 2 ^ 40) <|
  .ite (ieq x.1 39) (
  let y2 : (DOperand × (Int × Int)) := x.2.2.2.2
  let y3 : (List Int) := ((v36 ++ y0) ++ ([] : List Int))
  .ret (.inl (.h27 y1 (iconv .i64 y2.2.1) v25 y1 y3))) (
  let y4 : (DOperand × (Int × Int)) := x.2.2.2.2
  let y5 : (List Int) := ((v36 ++ y0) ++ ([] : List Int))
  .ret (.inl (.h27 y1 y4.1.2.2.2.2.2.2.2 v25 y1 y5)))
  | .h20 v1 v23 v31 v32 =>
  .need (((0 : Nat) + v1 : Nat) ≤ v31) <|
  let y0 : (List Int) := (v32.take v1)
  let y1 : Nat := y0.length
  .ite (ieq (y1 : Int) 0) (
  let y2 : Bool := (ieq x.1 39)
  .ite y2 (
  let y3 : (DOperand × (Int × Int)) := x.2.2.2.2
  let y4 : Int := (iconv .i64 y3.2.1)
  .ret (.inl (.h28 y4 v23))) (
  let y5 : (DOperand × (Int × Int)) := x.2.2.2.2
  let y6 : Int := y5.1.2.2.2.2.2.2.2
  .ret (.inl (.h28 y6 v23)))) (
  .need (((y1 : Nat) * 1 : Nat) ≤ 2 ^ 40) <|
  .need ((y1 : Nat) ≤ 2 ^ 40) <|
  .need ((y1 : Nat) = y1) <|
  .need (((y1 : Nat) * 1 : Nat) ≤ 2 ^ 40) <|
  .need ((y1 : Nat) ≤ 2 ^ 40) <|
  let y7 : Bool := (ieq x.1 39)
  .ite y7 (
  let y8 : (DOperand × (Int × Int)) := x.2.2.2.2
  let y9 : Int := (iconv .i64 y8.2.1)
  let y10 : (List Int) := (y0 ++ ([] : List Int))
  .ret (.inl (.h27 y1 y9 v23 y1 y10))) (
  let y11 : (DOperand × (Int × Int)) := x.2.2.2.2
  let y12 : Int := y11.1.2.2.2.2.2.2.2
  let y13 : (List Int) := (y0 ++ ([] : List Int))
  .ret (.inl (.h27 y1 y12 v23 y1 y13))))
  | .h21 v1 v3 v4 v28 v36 v38 =>
  .ite ((ine v4 0) == false) (
  .need (pre45 x) <|
  .ite (fn45 x) (
  .need ((0 : Nat) < 1) <|
  .need (((0 : Nat) + 1 : Nat) ≤ 1) <|
  .need ((1 : Nat) = 1) <|
  .need (((2 : Nat) * 1 : Nat) ≤ 2 ^ 40) <|
  .need ((2 : Nat) ≤ 2 ^ 40) <|
  let y0 : (List Int) := (v38 ++ [(ior .u8 64 v4)])
  .ret (.inl (.h29 v1 v3 2 v28 v36 2 y0))) (
  .ret (.inl (.h29 v1 v3 1 v28 v36 1 v38)))) (
  .need ((0 : Nat) < 1) <|
  .need (((0 : Nat) + 1 : Nat) ≤ 1) <|
  .need ((1 : Nat) = 1) <|
  .need (((2 : Nat) * 1 : Nat) ≤ 2 ^ 40) <|
  .need ((2 : Nat) ≤ 2 ^ 40) <|
  let y1 : (List Int) := (v38 ++ [(ior .u8 64 v4)])
  .ret (.inl (.h29 v1 v3 2 v28 v36 2 y1)))
  | .h22 v1 v3 v4 v26 v34 =>
  .ite ((ine v4 0) == false) (
  .need (pre45 x) <|
  .ite (fn45 x) (
  .need ((0 : Nat) < 1) <|
  .need (((0 : Nat) + 1 : Nat) ≤ 1) <|
  .need (((1 : Nat) * 1 : Nat) ≤ 2 ^ 40) <|
  .need ((1 : Nat) ≤ 2 ^ 40) <|
  let y0 : (List Int) := [(ior .u8 64 v4)]
  .ret (.inl (.h29 v1 v3 1 v26 v34 1 y0))) (
  .ret (.inl (.h30 v1 v3 v26 v34)))) (
  .need ((0 : Nat) < 1) <|
  .need (((0 : Nat) + 1 : Nat) ≤ 1) <|
  .need (((1 : Nat) * 1 : Nat) ≤ 2 ^ 40) <|
  .need ((1 : Nat) ≤ 2 ^ 40) <|
  let y1 : (List Int) := [(ior .u8 64 v4)]
  .ret (.inl (.h29 v1 v3 1 v26 v34 1 y1)))
  | .h23 v1 v4 v26 v34 v35 v36 =>
  .need (((0 : Nat) + v1 : Nat) ≤ 0) <|
  .need ((v4 : Nat) = v35) <|
  let y0 : (List Int) := (v34.take v1)
  let y1 : Nat := (v4 + y0.length)
  .need (((y1 : Nat) * 1 : Nat) ≤ 2 ^ 40) <|
  .need ((y1 : Nat) ≤ 2 ^ 40) <|
  .need ((y1 : Nat) = y1) <|
  .need (((y1 : Nat) * 1 : Nat) ≤ 2 ^ 40) <|
  .need ((y1 : Nat) ≤ 2 ^ 40) <|
  .ite (ieq x.1 39) (
  let y2 : (DOperand × (Int × Int)) := x.2.2.2.2
  let y3 : (List Int) := ((v36 ++ y0) ++ ([] : List Int))
  .ret (.inl (.h27 y1 (iconv .i64 y2.2.1) v26 y1 y3))) (
  let y4 : (DOperand × (Int × Int)) := x.2.2.2.2
  let y5 : (List Int) := ((v36 ++ y0) ++ ([] : List Int))
  .ret (.inl (.h27 y1 y4.1.2.2.2.2.2.2.2 v26 y1 y5)))
  | .h24 v1 v24 v32 =>
  .need (((0 : Nat) + v1 : Nat) ≤ 0) <|
  let y0 : (List Int) := (v32.take v1)
  let y1 : Nat := y0.length
  .ite (ieq (y1 : Int) 0) (
  let y2 : Bool := (ieq x.1 39)
  .ite y2 (
  let y3 : (DOperand × (Int × Int)) := x.2.2.2.2
  let y4 : Int := (iconv .i64 y3.2.1)
  .ret (.inl (.h28 y4 v24))) (
  let y5 : (DOperand × (Int × Int)) := x.2.2.2.2
  let y6 : Int := y5.1.2.2.2.2.2.2.2
  .ret (.inl (.h28 y6 v24)))) (
  .need (((y1 : Nat) * 1 : Nat) ≤ 2 ^ 40) <|
  .need ((y1 : Nat) ≤ 2 ^ 40) <|
  .need ((y1 : Nat) = y1) <|
  .need (((y1 : Nat) * 1 : Nat) ≤ 2 ^ 40) <|
  .need ((y1 : Nat) ≤ 2 ^ 40) <|
  let y7 : Bool := (ieq x.1 39)
  .ite y7 (
  let y8 : (DOperand × (Int × Int)) := x.2.2.2.2
  let y9 : Int := (iconv .i64 y8.2.1)
  let y10 : (List Int) := (y0 ++ ([] : List Int))
  .ret (.inl (.h27 y1 y9 v24 y1 y10))) (
  let y11 : (DOperand × (Int × Int)) := x.2.2.2.2
  let y12 : Int := y11.1.2.2.2.2.2.2.2
  let y13 : (List Int) := (y0 ++ ([] : List Int))
  .ret (.inl (.h27 y1 y12 v24 y1 y13))))
  | .h25 v1 v2 v4 v26 v34 v35 v36 v37 =>
  .need (((0 : Nat) + v1 : Nat) ≤ v34) <|
  .need ((v4 : Nat) = v36) <|
  let y0 : (List Int) := (v35.take v1)
  let y1 : Nat := (v4 + y0.length)
  .need (((y1 : Nat) * 1 : Nat) ≤ 2 ^ 40) <|
  .need ((y1 : Nat) ≤ 2 ^ 40) <|
  .need ((y1 : Nat) = y1) <|
  let y2 : Nat := (y1 + v2.length)
  .need (((y2 : Nat) * 1 : Nat) ≤ 2 ^ 40) <|
  .need ((y2 : Nat) ≤ 2 ^ 40) <|
  .ite (ieq x.1 39) (
  let y3 : (DOperand × (Int × Int)) := x.2.2.2.2
  let y4 : (List Int) := ((v37 ++ y0) ++ v2)
  .ret (.inl (.h27 y2 (iconv .i64 y3.2.1) v26 y2 y4))) (
  let y5 : (DOperand × (Int × Int)) := x.2.2.2.2
  let y6 : (List Int) := ((v37 ++ y0) ++ v2)
  .ret (.inl (.h27 y2 y5.1.2.2.2.2.2.2.2 v26 y2 y6)))
  | .h26 v1 v2 v24 v32 v33 =>
  .need (((0 : Nat) + v1 : Nat) ≤ v32) <|
  let y0 : (List Int) := (v33.take v1)
  let y1 : Nat := y0.length
  .ite (ieq (y1 : Int) 0) (
  .ite (ieq (v2.length : Int) 0) (
  let y2 : Bool := (ieq x.1 39)
  .ite y2 (
  let y3 : (DOperand × (Int × Int)) := x.2.2.2.2
  let y4 : Int := (iconv .i64 y3.2.1)
  .ret (.inl (.h28 y4 v24))) (
  let y5 : (DOperand × (Int × Int)) := x.2.2.2.2
  let y6 : Int := y5.1.2.2.2.2.2.2.2
  .ret (.inl (.h28 y6 v24)))) (
  .need (((v2.length : Nat) * 1 : Nat) ≤ 2 ^ 40) <|
  .need ((v2.length : Nat) ≤ 2 ^ 40) <|
  let y7 : Bool := (ieq x.1 39)
  .ite y7 (
  let y8 : (DOperand × (Int × Int)) := x.2.2.2.2
  let y9 : Int := (iconv .i64 y8.2.1)
  .ret (.inl (.h27 v2.length y9 v24 v2.length v2))) (
  let y10 : (DOperand × (Int × Int)) := x.2.2.2.2
  let y11 : Int := y10.1.2.2.2.2.2.2.2
  .ret (.inl (.h27 v2.length y11 v24 v2.length v2))))) (
  .need (((y1 : Nat) * 1 : Nat) ≤ 2 ^ 40) <|
  .need ((y1 : Nat) ≤ 2 ^ 40) <|
  .need ((y1 : Nat) = y1) <|
  let y12 : Nat := (y1 + v2.length)
  .need (((y12 : Nat) * 1 : Nat) ≤ 2 ^ 40) <|
  .need ((y12 : Nat) ≤ 2 ^ 40) <|
  let y13 : Bool := (ieq x.1 39)
  .ite y13 (
  let y14 : (DOperand × (Int × Int)) := x.2.2.2.2
  let y15 : Int := (iconv .i64 y14.2.1)
  let y16 : (List Int) := (y0 ++ v2)
  .ret (.inl (.h27 y12 y15 v24 y12 y16))) (
  let y17 : (DOperand × (Int × Int)) := x.2.2.2.2
  let y18 : Int := y17.1.2.2.2.2.2.2.2
  let y19 : (List Int) := (y0 ++ v2)
  .ret (.inl (.h27 y12 y18 v24 y12 y19))))
  | .h27 v1 v2 v3 v11 v12 =>
  let y0 : (Int × Int) := (v2, v3.2.2.2.2.2.2.2)
  .need (pre46 y0) <|
  .need ((v1 : Nat) = v11) <|
  let y1 : (List Int) := (fn46 y0)
  let y2 : Nat := (v1 + y1.length)
  .need (((y2 : Nat) * 1 : Nat) ≤ 2 ^ 40) <|
  .need ((y2 : Nat) ≤ 2 ^ 40) <|
  .need (((0 : Nat) + y2 : Nat) ≤ y2) <|
  .ret (.inr (((v12 ++ y1).take y2), 0))
  | .h28 v0 v1 =>
  let y0 : (Int × Int) := (v0, v1.2.2.2.2.2.2.2)
  .need (pre46 y0) <|
  let y1 : (List Int) := (fn46 y0)
  let y2 : Nat := y1.length
  .ite (ieq (y2 : Int) 0) (
  .ret (.inr (([] : List Int), 0))) (
  .need (((y2 : Nat) * 1 : Nat) ≤ 2 ^ 40) <|
  .need ((y2 : Nat) ≤ 2 ^ 40) <|
  .need (((0 : Nat) + y2 : Nat) ≤ y2) <|
  .ret (.inr ((y1.take y2), 0)))
  | .h29 v1 v3 v5 v27 v35 v36 v37 =>
  .need (((0 : Nat) + v1 : Nat) ≤ 0) <|
  .need ((v5 : Nat) = v36) <|
  let y0 : (List Int) := (v35.take v1)
  let y1 : Nat := (v5 + y0.length)
  .need (((y1 : Nat) * 1 : Nat) ≤ 2 ^ 40) <|
  .need ((y1 : Nat) ≤ 2 ^ 40) <|
  .need ((y1 : Nat) = y1) <|
  let y2 : Nat := (y1 + v3.length)
  .need (((y2 : Nat) * 1 : Nat) ≤ 2 ^ 40) <|
  .need ((y2 : Nat) ≤ 2 ^ 40) <|
  .ite (ieq x.1 39) (
  let y3 : (DOperand × (Int × Int)) := x.2.2.2.2
  let y4 : (List Int) := ((v37 ++ y0) ++ v3)
  .ret (.inl (.h27 y2 (iconv .i64 y3.2.1) v27 y2 y4))) (
  let y5 : (DOperand × (Int × Int)) := x.2.2.2.2
  let y6 : (List Int) := ((v37 ++ y0) ++ v3)
  .ret (.inl (.h27 y2 y5.1.2.2.2.2.2.2.2 v27 y2 y6)))
  | .h30 v1 v3 v25 v33 =>
  .need (((0 : Nat) + v1 : Nat) ≤ 0) <|
  let y0 : (List Int) := (v33.take v1)
  let y1 : Nat := y0.length
  .ite (ieq (y1 : Int) 0) (
  .ite (ieq (v3.length : Int) 0) (
  let y2 : Bool := (ieq x.1 39)
  .ite y2 (
  let y3 : (DOperand × (Int × Int)) := x.2.2.2.2
  let y4 : Int := (iconv .i64 y3.2.1)
  .ret (.inl (.h28 y4 v25))) (
  let y5 : (DOperand × (Int × Int)) := x.2.2.2.2
  let y6 : Int := y5.1.2.2.2.2.2.2.2
  .ret (.inl (.h28 y6 v25)))) (
  .need (((v3.length : Nat) * 1 : Nat) ≤ 2 ^ 40) <|
  .need ((v3.length : Nat) ≤ 2 ^ 40) <|
  let y7 : Bool := (ieq x.1 39)
  .ite y7 (
  let y8 : (DOperand × (Int × Int)) := x.2.2.2.2
  let y9 : Int := (iconv .i64 y8.2.1)
  .ret (.inl (.h27 v3.length y9 v25 v3.length v3))) (
  let y10 : (DOperand × (Int × Int)) := x.2.2.2.2
  let y11 : Int := y10.1.2.2.2.2.2.2.2
  .ret (.inl (.h27 v3.length y11 v25 v3.length v3))))) (
  .need (((y1 : Nat) * 1 : Nat) ≤ 2 ^ 40) <|
  .need ((y1 : Nat) ≤ 2 ^ 40) <|
  .need ((y1 : Nat) = y1) <|
  let y12 : Nat := (y1 + v3.length)
  .need (((y12 : Nat) * 1 : Nat) ≤ 2 ^ 40) <|
  .need ((y12 : Nat) ≤ 2 ^ 40) <|
  let y13 : Bool := (ieq x.1 39)
  .ite y13 (
  let y14 : (DOperand × (Int × Int)) := x.2.2.2.2
  let y15 : Int := (iconv .i64 y14.2.1)
  let y16 : (List Int) := (y0 ++ v3)
  .ret (.inl (.h27 y12 y15 v25 y12 y16))) (
  let y17 : (DOperand × (Int × Int)) := x.2.2.2.2
  let y18 : Int := y17.1.2.2.2.2.2.2.2
  let y19 : (List Int) := (y0 ++ v3)
  .ret (.inl (.h27 y12 y18 v25 y12 y19))))
noncomputable def cREF7_0 (x : DInsn) : AObj := .cell true 25 (.agg [1, 1, 1, 8, 8, 1, 1] [(.int .u8 x.1), (.int .u8 x.2.1), (.int .i64 x.2.2.1), (.agg [1, 1, 1, 1, 1, 1, 1, 1] [(.int .u8 x.2.2.2.1.1), (.int .i64 x.2.2.2.1.2.1), (.int .i64 x.2.2.2.1.2.2.1), (.int .i64 x.2.2.2.1.2.2.2.1), (.int .i64 x.2.2.2.1.2.2.2.2.1), (.int .i64 x.2.2.2.1.2.2.2.2.2.1), (.bool x.2.2.2.1.2.2.2.2.2.2.1), (.int .i64 x.2.2.2.1.2.2.2.2.2.2.2)]), (.agg [1, 1, 1, 1, 1, 1, 1, 1] [(.int .u8 x.2.2.2.2.1.1), (.int .i64 x.2.2.2.2.1.2.1), (.int .i64 x.2.2.2.2.1.2.2.1), (.int .i64 x.2.2.2.2.1.2.2.2.1), (.int .i64 x.2.2.2.2.1.2.2.2.2.1), (.int .i64 x.2.2.2.2.1.2.2.2.2.2.1), (.bool x.2.2.2.2.1.2.2.2.2.2.2.1), (.int .i64 x.2.2.2.2.1.2.2.2.2.2.2.2)]), (.int .u8 x.2.2.2.2.2.1), (.int .i64 x.2.2.2.2.2.2)])
noncomputable def head15 (x : DInsn) : J15 → Head
  | .h0 v21 =>
  { fr := { id := 15, kind := .top, T := [.any, (.ptr 0 []), .any, .any, (.ptr 1 [])] ++ List.replicate 134 .any, items := [.code (subc [1, 1, 1, 0] (bodyOf Tryd.f15)), .code (subc [1, 1, 1, 1] (bodyOf Tryd.f15))], D := [], base := 0 },
    stk := [],
    H := [(cREF7_0 x), .cell true 72 (.agg [1, 1, 1, 1, 1, 1, 1, 1] [(.int .i64 v21.1), (.str v21.2.1), (.str v21.2.2.1), (.int .u8 v21.2.2.2.1), (.fsl (.int .u8) v21.2.2.2.2.1), (.int .i64 v21.2.2.2.2.2.1), (.int .i64 v21.2.2.2.2.2.2.1), (.int .i64 v21.2.2.2.2.2.2.2)])] }
  | .h1 v1 v2 v24 v32 v33 v34 =>
  { fr := { id := 15, kind := .top, T := [.any, (.ptr 0 []), .any, .any, (.ptr 1 []), .any, (.osl 2 [] 1 0 v1 none), .any, .any, (.ptr 3 []), .any, (.int .i64 v2)] ++ List.replicate 127 .any, items := [.code (subc [1, 1, 1, 1, 1, 1, 1, 1, 0, 1, 0, 1, 0, 1] (bodyOf Tryd.f15)), .blk 0, .code (subc [1, 1, 1, 1, 1, 1, 1, 1, 1] (bodyOf Tryd.f15))], D := [], base := 0 },
    stk := [],
    H := [(cREF7_0 x), .cell true 72 (.agg [1, 1, 1, 1, 1, 1, 1, 1] [(.int .i64 v24.1), (.str v24.2.1), (.str v24.2.2.1), (.int .u8 v24.2.2.2.1), (.fsl (.int .u8) v24.2.2.2.2.1), (.int .i64 v24.2.2.2.2.2.1), (.int .i64 v24.2.2.2.2.2.2.1), (.int .i64 v24.2.2.2.2.2.2.2)]), .cell true 5 (.arr v32 (.int .u8) v33), .cell true 23 (.agg [1, 1, 1, 1, 1, 1, 1, 1] [(.int .u8 v34.1), (.int .i64 v34.2.1), (.int .i64 v34.2.2.1), (.int .i64 v34.2.2.2.1), (.int .i64 v34.2.2.2.2.1), (.int .i64 v34.2.2.2.2.2.1), (.bool v34.2.2.2.2.2.2.1), (.int .i64 v34.2.2.2.2.2.2.2)])] }
  | .h2 v1 v2 v24 v32 v33 v34 =>
  { fr := { id := 15, kind := .top, T := [.any, (.ptr 0 []), .any, .any, (.ptr 1 []), .any, (.osl 2 [] 1 0 v1 none), .any, .any, .any, (.ptr 3 []), (.int .i64 v2)] ++ List.replicate 127 .any, items := [.code (subc [1, 1, 1, 1, 1, 1, 1, 1, 0, 1, 0, 1, 1, 1, 0, 1] (bodyOf Tryd.f15)), .blk 0, .code (subc [1, 1, 1, 1, 1, 1, 1, 1, 1] (bodyOf Tryd.f15))], D := [], base := 0 },
    stk := [],
    H := [(cREF7_0 x), .cell true 72 (.agg [1, 1, 1, 1, 1, 1, 1, 1] [(.int .i64 v24.1), (.str v24.2.1), (.str v24.2.2.1), (.int .u8 v24.2.2.2.1), (.fsl (.int .u8) v24.2.2.2.2.1), (.int .i64 v24.2.2.2.2.2.1), (.int .i64 v24.2.2.2.2.2.2.1), (.int .i64 v24.2.2.2.2.2.2.2)]), .cell true 5 (.arr v32 (.int .u8) v33), .cell true 23 (.agg [1, 1, 1, 1, 1, 1, 1, 1] [(.int .u8 v34.1), (.int .i64 v34.2.1), (.int .i64 v34.2.2.1), (.int .i64 v34.2.2.2.1), (.int .i64 v34.2.2.2.2.1), (.int .i64 v34.2.2.2.2.2.1), (.bool v34.2.2.2.2.2.2.1), (.int .i64 v34.2.2.2.2.2.2.2)])] }
  | .h3 v1 v2 v24 v32 v33 =>
  { fr := { id := 15, kind := .top, T := [.any, (.ptr 0 []), .any, .any, (.ptr 1 []), .any, (.osl 2 [] 1 0 v1 none), (.raw (.slice none 0 0)), (.int .u8 v2)] ++ List.replicate 130 .any, items := [.code (subc [1, 1, 1, 1, 1, 1, 1, 1, 1, 0, 0] (bodyOf Tryd.f15)), .code (subc [1, 1, 1, 1, 1, 1, 1, 1, 1, 0, 1] (bodyOf Tryd.f15)), .code (subc [1, 1, 1, 1, 1, 1, 1, 1, 1, 1] (bodyOf Tryd.f15))], D := [], base := 0 },
    stk := [],
    H := [(cREF7_0 x), .cell true 72 (.agg [1, 1, 1, 1, 1, 1, 1, 1] [(.int .i64 v24.1), (.str v24.2.1), (.str v24.2.2.1), (.int .u8 v24.2.2.2.1), (.fsl (.int .u8) v24.2.2.2.2.1), (.int .i64 v24.2.2.2.2.2.1), (.int .i64 v24.2.2.2.2.2.2.1), (.int .i64 v24.2.2.2.2.2.2.2)]), .cell true 5 (.arr v32 (.int .u8) v33)] }
  | .h4 v1 v3 v25 v33 v34 =>
  { fr := { id := 15, kind := .top, T := [.any, (.ptr 0 []), .any, .any, (.ptr 1 []), .any, (.osl 2 [] 1 0 v1 (some 0)), .any, .any, (.ptr 3 []), .any, (.int .i64 v3)] ++ List.replicate 127 .any, items := [.code (subc [1, 1, 1, 1, 1, 1, 1, 1, 0, 1, 0, 1, 0, 1] (bodyOf Tryd.f15)), .blk 0, .code (subc [1, 1, 1, 1, 1, 1, 1, 1, 1] (bodyOf Tryd.f15))], D := [], base := 0 },
    stk := [],
    H := [(cREF7_0 x), .cell true 72 (.agg [1, 1, 1, 1, 1, 1, 1, 1] [(.int .i64 v25.1), (.str v25.2.1), (.str v25.2.2.1), (.int .u8 v25.2.2.2.1), (.fsl (.int .u8) v25.2.2.2.2.1), (.int .i64 v25.2.2.2.2.2.1), (.int .i64 v25.2.2.2.2.2.2.1), (.int .i64 v25.2.2.2.2.2.2.2)]), .cell true 5 (.arr 0 (.int .u8) v33), .cell true 23 (.agg [1, 1, 1, 1, 1, 1, 1, 1] [(.int .u8 v34.1), (.int .i64 v34.2.1), (.int .i64 v34.2.2.1), (.int .i64 v34.2.2.2.1), (.int .i64 v34.2.2.2.2.1), (.int .i64 v34.2.2.2.2.2.1), (.bool v34.2.2.2.2.2.2.1), (.int .i64 v34.2.2.2.2.2.2.2)])] }
  | .h5 v1 v3 v25 v33 v34 =>
  { fr := { id := 15, kind := .top, T := [.any, (.ptr 0 []), .any, .any, (.ptr 1 []), .any, (.osl 2 [] 1 0 v1 (some 0)), .any, .any, .any, (.ptr 3 []), (.int .i64 v3)] ++ List.replicate 127 .any, items := [.code (subc [1, 1, 1, 1, 1, 1, 1, 1, 0, 1, 0, 1, 1, 1, 0, 1] (bodyOf Tryd.f15)), .blk 0, .code (subc [1, 1, 1, 1, 1, 1, 1, 1, 1] (bodyOf Tryd.f15))], D := [], base := 0 },
    stk := [],
    H := [(cREF7_0 x), .cell true 72 (.agg [1, 1, 1, 1, 1, 1, 1, 1] [(.int .i64 v25.1), (.str v25.2.1), (.str v25.2.2.1), (.int .u8 v25.2.2.2.1), (.fsl (.int .u8) v25.2.2.2.2.1), (.int .i64 v25.2.2.2.2.2.1), (.int .i64 v25.2.2.2.2.2.2.1), (.int .i64 v25.2.2.2.2.2.2.2)]), .cell true 5 (.arr 0 (.int .u8) v33), .cell true 23 (.agg [1, 1, 1, 1, 1, 1, 1, 1] [(.int .u8 v34.1), (.int .i64 v34.2.1), (.int .i64 v34.2.2.1), (.int .i64 v34.2.2.2.1), (.int .i64 v34.2.2.2.2.1), (.int .i64 v34.2.2.2.2.2.1), (.bool v34.2.2.2.2.2.2.1), (.int .i64 v34.2.2.2.2.2.2.2)])] }
  | .h6 v1 v3 v25 v33 =>
  { fr := { id := 15, kind := .top, T := [.any, (.ptr 0 []), .any, .any, (.ptr 1 []), .any, (.osl 2 [] 1 0 v1 (some 0)), (.raw (.slice none 0 0)), (.int .u8 v3)] ++ List.replicate 130 .any, items := [.code (subc [1, 1, 1, 1, 1, 1, 1, 1, 1, 0, 0] (bodyOf Tryd.f15)), .code (subc [1, 1, 1, 1, 1, 1, 1, 1, 1, 0, 1] (bodyOf Tryd.f15)), .code (subc [1, 1, 1, 1, 1, 1, 1, 1, 1, 1] (bodyOf Tryd.f15))], D := [], base := 0 },
    stk := [],
    H := [(cREF7_0 x), .cell true 72 (.agg [1, 1, 1, 1, 1, 1, 1, 1] [(.int .i64 v25.1), (.str v25.2.1), (.str v25.2.2.1), (.int .u8 v25.2.2.2.1), (.fsl (.int .u8) v25.2.2.2.2.1), (.int .i64 v25.2.2.2.2.2.1), (.int .i64 v25.2.2.2.2.2.2.1), (.int .i64 v25.2.2.2.2.2.2.2)]), .cell true 5 (.arr 0 (.int .u8) v33)] }
  | .h7 v1 v2 v3 v25 v33 v34 =>
  { fr := { id := 15, kind := .top, T := [.any, (.ptr 0 []), .any, .any, (.ptr 1 []), .any, (.osl 2 [] 1 0 v1 none), (.fsl (.int .u8) v2), (.int .u8 v3)] ++ List.replicate 130 .any, items := [.code (subc [1, 1, 1, 1, 1, 1, 1, 1, 1, 0, 0] (bodyOf Tryd.f15)), .code (subc [1, 1, 1, 1, 1, 1, 1, 1, 1, 0, 1] (bodyOf Tryd.f15)), .code (subc [1, 1, 1, 1, 1, 1, 1, 1, 1, 1] (bodyOf Tryd.f15))], D := [], base := 0 },
    stk := [],
    H := [(cREF7_0 x), .cell true 72 (.agg [1, 1, 1, 1, 1, 1, 1, 1] [(.int .i64 v25.1), (.str v25.2.1), (.str v25.2.2.1), (.int .u8 v25.2.2.2.1), (.fsl (.int .u8) v25.2.2.2.2.1), (.int .i64 v25.2.2.2.2.2.1), (.int .i64 v25.2.2.2.2.2.2.1), (.int .i64 v25.2.2.2.2.2.2.2)]), .cell true 5 (.arr v33 (.int .u8) v34)] }
  | .h8 v1 v2 v24 v32 v33 =>
  { fr := { id := 15, kind := .top, T := [.any, (.ptr 0 []), .any, .any, (.ptr 1 []), .any, (.osl 2 [] 1 0 v1 none), (.raw (.slice none 0 0)), (.int .u8 v2)] ++ List.replicate 130 .any, items := [.code (subc [1, 1, 1, 1, 1, 1, 1, 1, 1, 1, 0] (bodyOf Tryd.f15)), .code (subc [1, 1, 1, 1, 1, 1, 1, 1, 1, 1, 1] (bodyOf Tryd.f15))], D := [], base := 0 },
    stk := [],
    H := [(cREF7_0 x), .cell true 72 (.agg [1, 1, 1, 1, 1, 1, 1, 1] [(.int .i64 v24.1), (.str v24.2.1), (.str v24.2.2.1), (.int .u8 v24.2.2.2.1), (.fsl (.int .u8) v24.2.2.2.2.1), (.int .i64 v24.2.2.2.2.2.1), (.int .i64 v24.2.2.2.2.2.2.1), (.int .i64 v24.2.2.2.2.2.2.2)]), .cell true 5 (.arr v32 (.int .u8) v33)] }
  | .h9 v1 v3 v4 v26 v34 =>
  { fr := { id := 15, kind := .top, T := [.any, (.ptr 0 []), .any, .any, (.ptr 1 []), .any, (.osl 2 [] 1 0 v1 (some 0)), (.fsl (.int .u8) v3), (.int .u8 v4)] ++ List.replicate 130 .any, items := [.code (subc [1, 1, 1, 1, 1, 1, 1, 1, 1, 0, 0] (bodyOf Tryd.f15)), .code (subc [1, 1, 1, 1, 1, 1, 1, 1, 1, 0, 1] (bodyOf Tryd.f15)), .code (subc [1, 1, 1, 1, 1, 1, 1, 1, 1, 1] (bodyOf Tryd.f15))], D := [], base := 0 },
    stk := [],
    H := [(cREF7_0 x), .cell true 72 (.agg [1, 1, 1, 1, 1, 1, 1, 1] [(.int .i64 v26.1), (.str v26.2.1), (.str v26.2.2.1), (.int .u8 v26.2.2.2.1), (.fsl (.int .u8) v26.2.2.2.2.1), (.int .i64 v26.2.2.2.2.2.1), (.int .i64 v26.2.2.2.2.2.2.1), (.int .i64 v26.2.2.2.2.2.2.2)]), .cell true 5 (.arr 0 (.int .u8) v34)] }
  | .h10 v1 v3 v25 v33 =>
  { fr := { id := 15, kind := .top, T := [.any, (.ptr 0 []), .any, .any, (.ptr 1 []), .any, (.osl 2 [] 1 0 v1 (some 0)), (.raw (.slice none 0 0)), (.int .u8 v3)] ++ List.replicate 130 .any, items := [.code (subc [1, 1, 1, 1, 1, 1, 1, 1, 1, 1, 0] (bodyOf Tryd.f15)), .code (subc [1, 1, 1, 1, 1, 1, 1, 1, 1, 1, 1] (bodyOf Tryd.f15))], D := [], base := 0 },
    stk := [],
    H := [(cREF7_0 x), .cell true 72 (.agg [1, 1, 1, 1, 1, 1, 1, 1] [(.int .i64 v25.1), (.str v25.2.1), (.str v25.2.2.1), (.int .u8 v25.2.2.2.1), (.fsl (.int .u8) v25.2.2.2.2.1), (.int .i64 v25.2.2.2.2.2.1), (.int .i64 v25.2.2.2.2.2.2.1), (.int .i64 v25.2.2.2.2.2.2.2)]), .cell true 5 (.arr 0 (.int .u8) v33)] }
  | .h11 v1 v2 v3 v25 v33 v34 =>
  { fr := { id := 15, kind := .top, T := [.any, (.ptr 0 []), .any, .any, (.ptr 1 []), .any, (.osl 2 [] 1 0 v1 none), (.fsl (.int .u8) v2), (.int .u8 v3)] ++ List.replicate 130 .any, items := [.code (subc [1, 1, 1, 1, 1, 1, 1, 1, 1, 1, 0] (bodyOf Tryd.f15)), .code (subc [1, 1, 1, 1, 1, 1, 1, 1, 1, 1, 1] (bodyOf Tryd.f15))], D := [], base := 0 },
    stk := [],
    H := [(cREF7_0 x), .cell true 72 (.agg [1, 1, 1, 1, 1, 1, 1, 1] [(.int .i64 v25.1), (.str v25.2.1), (.str v25.2.2.1), (.int .u8 v25.2.2.2.1), (.fsl (.int .u8) v25.2.2.2.2.1), (.int .i64 v25.2.2.2.2.2.1), (.int .i64 v25.2.2.2.2.2.2.1), (.int .i64 v25.2.2.2.2.2.2.2)]), .cell true 5 (.arr v33 (.int .u8) v34)] }
  | .h12 v1 v2 v26 v34 v35 v37 =>
  { fr := { id := 15, kind := .top, T := [.any, (.ptr 0 []), .any, .any, (.ptr 1 []), .any, (.osl 2 [] 1 0 v1 none), (.raw (.slice none 0 0)), (.int .u8 v2), .any, .any, .any, (.osl 3 [] 1 0 1 none)] ++ List.replicate 126 .any, items := [.code (subc [1, 1, 1, 1, 1, 1, 1, 1, 1, 1, 1, 1, 0, 0] (bodyOf Tryd.f15)), .code (subc [1, 1, 1, 1, 1, 1, 1, 1, 1, 1, 1, 1, 0, 1] (bodyOf Tryd.f15)), .code (subc [1, 1, 1, 1, 1, 1, 1, 1, 1, 1, 1, 1, 1] (bodyOf Tryd.f15))], D := [], base := 0 },
    stk := [],
    H := [(cREF7_0 x), .cell true 72 (.agg [1, 1, 1, 1, 1, 1, 1, 1] [(.int .i64 v26.1), (.str v26.2.1), (.str v26.2.2.1), (.int .u8 v26.2.2.2.1), (.fsl (.int .u8) v26.2.2.2.2.1), (.int .i64 v26.2.2.2.2.2.1), (.int .i64 v26.2.2.2.2.2.2.1), (.int .i64 v26.2.2.2.2.2.2.2)]), .cell true 5 (.arr v34 (.int .u8) v35), .cell true 5 (.arr 1 (.int .u8) v37)] }
  | .h13 v1 v2 v24 v32 v33 =>
  { fr := { id := 15, kind := .top, T := [.any, (.ptr 0 []), .any, .any, (.ptr 1 []), .any, (.osl 2 [] 1 0 v1 none), (.raw (.slice none 0 0)), (.int .u8 v2), .any, .any, .any, (.raw (.slice none 0 0))] ++ List.replicate 126 .any, items := [.code (subc [1, 1, 1, 1, 1, 1, 1, 1, 1, 1, 1, 1, 0, 0] (bodyOf Tryd.f15)), .code (subc [1, 1, 1, 1, 1, 1, 1, 1, 1, 1, 1, 1, 0, 1] (bodyOf Tryd.f15)), .code (subc [1, 1, 1, 1, 1, 1, 1, 1, 1, 1, 1, 1, 1] (bodyOf Tryd.f15))], D := [], base := 0 },
    stk := [],
    H := [(cREF7_0 x), .cell true 72 (.agg [1, 1, 1, 1, 1, 1, 1, 1] [(.int .i64 v24.1), (.str v24.2.1), (.str v24.2.2.1), (.int .u8 v24.2.2.2.1), (.fsl (.int .u8) v24.2.2.2.2.1), (.int .i64 v24.2.2.2.2.2.1), (.int .i64 v24.2.2.2.2.2.2.1), (.int .i64 v24.2.2.2.2.2.2.2)]), .cell true 5 (.arr v32 (.int .u8) v33)] }
  | .h14 v1 v3 v4 v26 v34 =>
  { fr := { id := 15, kind := .top, T := [.any, (.ptr 0 []), .any, .any, (.ptr 1 []), .any, (.osl 2 [] 1 0 v1 (some 0)), (.fsl (.int .u8) v3), (.int .u8 v4)] ++ List.replicate 130 .any, items := [.code (subc [1, 1, 1, 1, 1, 1, 1, 1, 1, 1, 0] (bodyOf Tryd.f15)), .code (subc [1, 1, 1, 1, 1, 1, 1, 1, 1, 1, 1] (bodyOf Tryd.f15))], D := [], base := 0 },
    stk := [],
    H := [(cREF7_0 x), .cell true 72 (.agg [1, 1, 1, 1, 1, 1, 1, 1] [(.int .i64 v26.1), (.str v26.2.1), (.str v26.2.2.1), (.int .u8 v26.2.2.2.1), (.fsl (.int .u8) v26.2.2.2.2.1), (.int .i64 v26.2.2.2.2.2.1), (.int .i64 v26.2.2.2.2.2.2.1), (.int .i64 v26.2.2.2.2.2.2.2)]), .cell true 5 (.arr 0 (.int .u8) v34)] }
  | .h15 v1 v3 v27 v35 v37 =>
  { fr := { id := 15, kind := .top, T := [.any, (.ptr 0 []), .any, .any, (.ptr 1 []), .any, (.osl 2 [] 1 0 v1 (some 0)), (.raw (.slice none 0 0)), (.int .u8 v3), .any, .any, .any, (.osl 3 [] 1 0 1 none)] ++ List.replicate 126 .any, items := [.code (subc [1, 1, 1, 1, 1, 1, 1, 1, 1, 1, 1, 1, 0, 0] (bodyOf Tryd.f15)), .code (subc [1, 1, 1, 1, 1, 1, 1, 1, 1, 1, 1, 1, 0, 1] (bodyOf Tryd.f15)), .code (subc [1, 1, 1, 1, 1, 1, 1, 1, 1, 1, 1, 1, 1] (bodyOf Tryd.f15))], D := [], base := 0 },
    stk := [],
    H := [(cREF7_0 x), .cell true 72 (.agg [1, 1, 1, 1, 1, 1, 1, 1] [(.int .i64 v27.1), (.str v27.2.1), (.str v27.2.2.1), (.int .u8 v27.2.2.2.1), (.fsl (.int .u8) v27.2.2.2.2.1), (.int .i64 v27.2.2.2.2.2.1), (.int .i64 v27.2.2.2.2.2.2.1), (.int .i64 v27.2.2.2.2.2.2.2)]), .cell true 5 (.arr 0 (.int .u8) v35), .cell true 5 (.arr 1 (.int .u8) v37)] }
  | .h16 v1 v3 v25 v33 =>
  { fr := { id := 15, kind := .top, T := [.any, (.ptr 0 []), .any, .any, (.ptr 1 []), .any, (.osl 2 [] 1 0 v1 (some 0)), (.raw (.slice none 0 0)), (.int .u8 v3), .any, .any, .any, (.raw (.slice none 0 0))] ++ List.replicate 126 .any, items := [.code (subc [1, 1, 1, 1, 1, 1, 1, 1, 1, 1, 1, 1, 0, 0] (bodyOf Tryd.f15)), .code (subc [1, 1, 1, 1, 1, 1, 1, 1, 1, 1, 1, 1, 0, 1] (bodyOf Tryd.f15)), .code (subc [1, 1, 1, 1, 1, 1, 1, 1, 1, 1, 1, 1, 1] (bodyOf Tryd.f15))], D := [], base := 0 },
    stk := [],
    H := [(cREF7_0 x), .cell true 72 (.agg [1, 1, 1, 1, 1, 1, 1, 1] [(.int .i64 v25.1), (.str v25.2.1), (.str v25.2.2.1), (.int .u8 v25.2.2.2.1), (.fsl (.int .u8) v25.2.2.2.2.1), (.int .i64 v25.2.2.2.2.2.1), (.int .i64 v25.2.2.2.2.2.2.1), (.int .i64 v25.2.2.2.2.2.2.2)]), .cell true 5 (.arr 0 (.int .u8) v33)] }
  | .h17 v1 v2 v3 v27 v35 v36 v38 =>
  { fr := { id := 15, kind := .top, T := [.any, (.ptr 0 []), .any, .any, (.ptr 1 []), .any, (.osl 2 [] 1 0 v1 none), (.fsl (.int .u8) v2), (.int .u8 v3), .any, .any, .any, (.osl 3 [] 1 0 1 none)] ++ List.replicate 126 .any, items := [.code (subc [1, 1, 1, 1, 1, 1, 1, 1, 1, 1, 1, 1, 0, 0] (bodyOf Tryd.f15)), .code (subc [1, 1, 1, 1, 1, 1, 1, 1, 1, 1, 1, 1, 0, 1] (bodyOf Tryd.f15)), .code (subc [1, 1, 1, 1, 1, 1, 1, 1, 1, 1, 1, 1, 1] (bodyOf Tryd.f15))], D := [], base := 0 },
    stk := [],
    H := [(cREF7_0 x), .cell true 72 (.agg [1, 1, 1, 1, 1, 1, 1, 1] [(.int .i64 v27.1), (.str v27.2.1), (.str v27.2.2.1), (.int .u8 v27.2.2.2.1), (.fsl (.int .u8) v27.2.2.2.2.1), (.int .i64 v27.2.2.2.2.2.1), (.int .i64 v27.2.2.2.2.2.2.1), (.int .i64 v27.2.2.2.2.2.2.2)]), .cell true 5 (.arr v35 (.int .u8) v36), .cell true 5 (.arr 1 (.int .u8) v38)] }
  | .h18 v1 v2 v3 v25 v33 v34 =>
  { fr := { id := 15, kind := .top, T := [.any, (.ptr 0 []), .any, .any, (.ptr 1 []), .any, (.osl 2 [] 1 0 v1 none), (.fsl (.int .u8) v2), (.int .u8 v3), .any, .any, .any, (.raw (.slice none 0 0))] ++ List.replicate 126 .any, items := [.code (subc [1, 1, 1, 1, 1, 1, 1, 1, 1, 1, 1, 1, 0, 0] (bodyOf Tryd.f15)), .code (subc [1, 1, 1, 1, 1, 1, 1, 1, 1, 1, 1, 1, 0, 1] (bodyOf Tryd.f15)), .code (subc [1, 1, 1, 1, 1, 1, 1, 1, 1, 1, 1, 1, 1] (bodyOf Tryd.f15))], D := [], base := 0 },
    stk := [],
    H := [(cREF7_0 x), .cell true 72 (.agg [1, 1, 1, 1, 1, 1, 1, 1] [(.int .i64 v25.1), (.str v25.2.1), (.str v25.2.2.1), (.int .u8 v25.2.2.2.1), (.fsl (.int .u8) v25.2.2.2.2.1), (.int .i64 v25.2.2.2.2.2.1), (.int .i64 v25.2.2.2.2.2.2.1), (.int .i64 v25.2.2.2.2.2.2.2)]), .cell true 5 (.arr v33 (.int .u8) v34)] }
  | .h19 v1 v3 v25 v33 v34 v35 v36 =>
  { fr := { id := 15, kind := .top, T := [.any, (.ptr 0 []), .any, .any, (.ptr 1 []), .any, (.osl 2 [] 1 0 v1 none), (.raw (.slice none 0 0))] ++ List.replicate 4 .any ++ [(.osl 3 [] 1 0 v3 none)] ++ List.replicate 126 .any, items := [.code (subc [1, 1, 1, 1, 1, 1, 1, 1, 1, 1, 1, 1, 1, 0] (bodyOf Tryd.f15)), .code (subc [1, 1, 1, 1, 1, 1, 1, 1, 1, 1, 1, 1, 1, 1] (bodyOf Tryd.f15))], D := [], base := 0 },
    stk := [],
    H := [(cREF7_0 x), .cell true 72 (.agg [1, 1, 1, 1, 1, 1, 1, 1] [(.int .i64 v25.1), (.str v25.2.1), (.str v25.2.2.1), (.int .u8 v25.2.2.2.1), (.fsl (.int .u8) v25.2.2.2.2.1), (.int .i64 v25.2.2.2.2.2.1), (.int .i64 v25.2.2.2.2.2.2.1), (.int .i64 v25.2.2.2.2.2.2.2)]), .cell true 5 (.arr v33 (.int .u8) v34), .cell true 5 (.arr v35 (.int .u8) v36)] }
  | .h20 v1 v23 v31 v32 =>
  { fr := { id := 15, kind := .top, T := [.any, (.ptr 0 []), .any, .any, (.ptr 1 []), .any, (.osl 2 [] 1 0 v1 none), (.raw (.slice none 0 0))] ++ List.replicate 4 .any ++ [(.raw (.slice none 0 0))] ++ List.replicate 126 .any, items := [.code (subc [1, 1, 1, 1, 1, 1, 1, 1, 1, 1, 1, 1, 1, 0] (bodyOf Tryd.f15)), .code (subc [1, 1, 1, 1, 1, 1, 1, 1, 1, 1, 1, 1, 1, 1] (bodyOf Tryd.f15))], D := [], base := 0 },
    stk := [],
    H := [(cREF7_0 x), .cell true 72 (.agg [1, 1, 1, 1, 1, 1, 1, 1] [(.int .i64 v23.1), (.str v23.2.1), (.str v23.2.2.1), (.int .u8 v23.2.2.2.1), (.fsl (.int .u8) v23.2.2.2.2.1), (.int .i64 v23.2.2.2.2.2.1), (.int .i64 v23.2.2.2.2.2.2.1), (.int .i64 v23.2.2.2.2.2.2.2)]), .cell true 5 (.arr v31 (.int .u8) v32)] }
  | .h21 v1 v3 v4 v28 v36 v38 =>
  { fr := { id := 15, kind := .top, T := [.any, (.ptr 0 []), .any, .any, (.ptr 1 []), .any, (.osl 2 [] 1 0 v1 (some 0)), (.fsl (.int .u8) v3), (.int .u8 v4), .any, .any, .any, (.osl 3 [] 1 0 1 none)] ++ List.replicate 126 .any, items := [.code (subc [1, 1, 1, 1, 1, 1, 1, 1, 1, 1, 1, 1, 0, 0] (bodyOf Tryd.f15)), .code (subc [1, 1, 1, 1, 1, 1, 1, 1, 1, 1, 1, 1, 0, 1] (bodyOf Tryd.f15)), .code (subc [1, 1, 1, 1, 1, 1, 1, 1, 1, 1, 1, 1, 1] (bodyOf Tryd.f15))], D := [], base := 0 },
    stk := [],
    H := [(cREF7_0 x), .cell true 72 (.agg [1, 1, 1, 1, 1, 1, 1, 1] [(.int .i64 v28.1), (.str v28.2.1), (.str v28.2.2.1), (.int .u8 v28.2.2.2.1), (.fsl (.int .u8) v28.2.2.2.2.1), (.int .i64 v28.2.2.2.2.2.1), (.int .i64 v28.2.2.2.2.2.2.1), (.int .i64 v28.2.2.2.2.2.2.2)]), .cell true 5 (.arr 0 (.int .u8) v36), .cell true 5 (.arr 1 (.int .u8) v38)] }
  | .h22 v1 v3 v4 v26 v34 =>
  { fr := { id := 15, kind := .top, T := [.any, (.ptr 0 []), .any, .any, (.ptr 1 []), .any, (.osl 2 [] 1 0 v1 (some 0)), (.fsl (.int .u8) v3), (.int .u8 v4), .any, .any, .any, (.raw (.slice none 0 0))] ++ List.replicate 126 .any, items := [.code (subc [1, 1, 1, 1, 1, 1, 1, 1, 1, 1, 1, 1, 0, 0] (bodyOf Tryd.f15)), .code (subc [1, 1, 1, 1, 1, 1, 1, 1, 1, 1, 1, 1, 0, 1] (bodyOf Tryd.f15)), .code (subc [1, 1, 1, 1, 1, 1, 1, 1, 1, 1, 1, 1, 1] (bodyOf Tryd.f15))], D := [], base := 0 },
    stk := [],
    H := [(cREF7_0 x), .cell true 72 (.agg [1, 1, 1, 1, 1, 1, 1, 1] [(.int .i64 v26.1), (.str v26.2.1), (.str v26.2.2.1), (.int .u8 v26.2.2.2.1), (.fsl (.int .u8) v26.2.2.2.2.1), (.int .i64 v26.2.2.2.2.2.1), (.int .i64 v26.2.2.2.2.2.2.1), (.int .i64 v26.2.2.2.2.2.2.2)]), .cell true 5 (.arr 0 (.int .u8) v34)] }
  | .h23 v1 v4 v26 v34 v35 v36 =>
  { fr := { id := 15, kind := .top, T := [.any, (.ptr 0 []), .any, .any, (.ptr 1 []), .any, (.osl 2 [] 1 0 v1 (some 0)), (.raw (.slice none 0 0))] ++ List.replicate 4 .any ++ [(.osl 3 [] 1 0 v4 none)] ++ List.replicate 126 .any, items := [.code (subc [1, 1, 1, 1, 1, 1, 1, 1, 1, 1, 1, 1, 1, 0] (bodyOf Tryd.f15)), .code (subc [1, 1, 1, 1, 1, 1, 1, 1, 1, 1, 1, 1, 1, 1] (bodyOf Tryd.f15))], D := [], base := 0 },
    stk := [],
    H := [(cREF7_0 x), .cell true 72 (.agg [1, 1, 1, 1, 1, 1, 1, 1] [(.int .i64 v26.1), (.str v26.2.1), (.str v26.2.2.1), (.int .u8 v26.2.2.2.1), (.fsl (.int .u8) v26.2.2.2.2.1), (.int .i64 v26.2.2.2.2.2.1), (.int .i64 v26.2.2.2.2.2.2.1), (.int .i64 v26.2.2.2.2.2.2.2)]), .cell true 5 (.arr 0 (.int .u8) v34), .cell true 5 (.arr v35 (.int .u8) v36)] }
  | .h24 v1 v24 v32 =>
  { fr := { id := 15, kind := .top, T := [.any, (.ptr 0 []), .any, .any, (.ptr 1 []), .any, (.osl 2 [] 1 0 v1 (some 0)), (.raw (.slice none 0 0))] ++ List.replicate 4 .any ++ [(.raw (.slice none 0 0))] ++ List.replicate 126 .any, items := [.code (subc [1, 1, 1, 1, 1, 1, 1, 1, 1, 1, 1, 1, 1, 0] (bodyOf Tryd.f15)), .code (subc [1, 1, 1, 1, 1, 1, 1, 1, 1, 1, 1, 1, 1, 1] (bodyOf Tryd.f15))], D := [], base := 0 },
    stk := [],
    H := [(cREF7_0 x), .cell true 72 (.agg [1, 1, 1, 1, 1, 1, 1, 1] [(.int .i64 v24.1), (.str v24.2.1), (.str v24.2.2.1), (.int .u8 v24.2.2.2.1), (.fsl (.int .u8) v24.2.2.2.2.1), (.int .i64 v24.2.2.2.2.2.1), (.int .i64 v24.2.2.2.2.2.2.1), (.int .i64 v24.2.2.2.2.2.2.2)]), .cell true 5 (.arr 0 (.int .u8) v32)] }
  | .h25 v1 v2 v4 v26 v34 v35 v36 v37 =>
  { fr := { id := 15, kind := .top, T := [.any, (.ptr 0 []), .any, .any, (.ptr 1 []), .any, (.osl 2 [] 1 0 v1 none), (.fsl (.int .u8) v2)] ++ List.replicate 4 .any ++ [(.osl 3 [] 1 0 v4 none)] ++ List.replicate 126 .any, items := [.code (subc [1, 1, 1, 1, 1, 1, 1, 1, 1, 1, 1, 1, 1, 0] (bodyOf Tryd.f15)), .code (subc [1, 1, 1, 1, 1, 1, 1, 1, 1, 1, 1, 1, 1, 1] (bodyOf Tryd.f15))], D := [], base := 0 },
    stk := [],
    H := [(cREF7_0 x), .cell true 72 (.agg [1, 1, 1, 1, 1, 1, 1, 1] [(.int .i64 v26.1), (.str v26.2.1), (.str v26.2.2.1), (.int .u8 v26.2.2.2.1), (.fsl (.int .u8) v26.2.2.2.2.1), (.int .i64 v26.2.2.2.2.2.1), (.int .i64 v26.2.2.2.2.2.2.1), (.int .i64 v26.2.2.2.2.2.2.2)]), .cell true 5 (.arr v34 (.int .u8) v35), .cell true 5 (.arr v36 (.int .u8) v37)] }
  | .h26 v1 v2 v24 v32 v33 =>
  { fr := { id := 15, kind := .top, T := [.any, (.ptr 0 []), .any, .any, (.ptr 1 []), .any, (.osl 2 [] 1 0 v1 none), (.fsl (.int .u8) v2)] ++ List.replicate 4 .any ++ [(.raw (.slice none 0 0))] ++ List.replicate 126 .any, items := [.code (subc [1, 1, 1, 1, 1, 1, 1, 1, 1, 1, 1, 1, 1, 0] (bodyOf Tryd.f15)), .code (subc [1, 1, 1, 1, 1, 1, 1, 1, 1, 1, 1, 1, 1, 1] (bodyOf Tryd.f15))], D := [], base := 0 },
    stk := [],
    H := [(cREF7_0 x), .cell true 72 (.agg [1, 1, 1, 1, 1, 1, 1, 1] [(.int .i64 v24.1), (.str v24.2.1), (.str v24.2.2.1), (.int .u8 v24.2.2.2.1), (.fsl (.int .u8) v24.2.2.2.2.1), (.int .i64 v24.2.2.2.2.2.1), (.int .i64 v24.2.2.2.2.2.2.1), (.int .i64 v24.2.2.2.2.2.2.2)]), .cell true 5 (.arr v32 (.int .u8) v33)] }
  | .h27 v1 v2 v3 v11 v12 =>
  { fr := { id := 15, kind := .top, T := List.replicate 4 .any ++ [(.ptr 0 [])] ++ List.replicate 7 .any ++ [(.osl 1 [] 1 0 v1 none), (.int .i64 v2)] ++ List.replicate 125 .any, items := [.code (subc [1, 1, 1, 1, 1, 1, 1, 1, 1, 1, 1, 1, 1, 1, 1, 1, 0] (bodyOf Tryd.f15)), .code (subc [1, 1, 1, 1, 1, 1, 1, 1, 1, 1, 1, 1, 1, 1, 1, 1, 1] (bodyOf Tryd.f15))], D := [], base := 0 },
    stk := [],
    H := [.cell true 72 (.agg [1, 1, 1, 1, 1, 1, 1, 1] [(.int .i64 v3.1), (.str v3.2.1), (.str v3.2.2.1), (.int .u8 v3.2.2.2.1), (.fsl (.int .u8) v3.2.2.2.2.1), (.int .i64 v3.2.2.2.2.2.1), (.int .i64 v3.2.2.2.2.2.2.1), (.int .i64 v3.2.2.2.2.2.2.2)]), .cell true 5 (.arr v11 (.int .u8) v12)] }
  | .h28 v0 v1 =>
  { fr := { id := 15, kind := .top, T := List.replicate 4 .any ++ [(.ptr 0 [])] ++ List.replicate 7 .any ++ [(.raw (.slice none 0 0)), (.int .i64 v0)] ++ List.replicate 125 .any, items := [.code (subc [1, 1, 1, 1, 1, 1, 1, 1, 1, 1, 1, 1, 1, 1, 1, 1, 0] (bodyOf Tryd.f15)), .code (subc [1, 1, 1, 1, 1, 1, 1, 1, 1, 1, 1, 1, 1, 1, 1, 1, 1] (bodyOf Tryd.f15))], D := [], base := 0 },
    stk := [],
    H := [.cell true 72 (.agg [1, 1, 1, 1, 1, 1, 1, 1] [(.int .i64 v1.1), (.str v1.2.1), (.str v1.2.2.1), (.int .u8 v1.2.2.2.1), (.fsl (.int .u8) v1.2.2.2.2.1), (.int .i64 v1.2.2.2.2.2.1), (.int .i64 v1.2.2.2.2.2.2.1), (.int .i64 v1.2.2.2.2.2.2.2)])] }
  | .h29 v1 v3 v5 v27 v35 v36 v37 =>
  { fr := { id := 15, kind := .top, T := [.any, (.ptr 0 []), .any, .any, (.ptr 1 []), .any, (.osl 2 [] 1 0 v1 (some 0)), (.fsl (.int .u8) v3)] ++ List.replicate 4 .any ++ [(.osl 3 [] 1 0 v5 none)] ++ List.replicate 126 .any, items := [.code (subc [1, 1, 1, 1, 1, 1, 1, 1, 1, 1, 1, 1, 1, 0] (bodyOf Tryd.f15)), .code (subc [1, 1, 1, 1, 1, 1, 1, 1, 1, 1, 1, 1, 1, 1] (bodyOf Tryd.f15))], D := [], base := 0 },
    stk := [],
    H := [(cREF7_0 x), .cell true 72 (.agg [1, 1, 1, 1, 1, 1, 1, 1] [(.int .i64 v27.1), (.str v27.2.1), (.str v27.2.2.1), (.int .u8 v27.2.2.2.1), (.fsl (.int .u8) v27.2.2.2.2.1), (.int .i64 v27.2.2.2.2.2.1), (.int .i64 v27.2.2.2.2.2.2.1), (.int .i64 v27.2.2.2.2.2.2.2)]), .cell true 5 (.arr 0 (.int .u8) v35), .cell true 5 (.arr v36 (.int .u8) v37)] }
  | .h30 v1 v3 v25 v33 =>
  { fr := { id := 15, kind := .top, T := [.any, (.ptr 0 []), .any, .any, (.ptr 1 []), .any, (.osl 2 [] 1 0 v1 (some 0)), (.fsl (.int .u8) v3)] ++ List.replicate 4 .any ++ [(.raw (.slice none 0 0))] ++ List.replicate 126 .any, items := [.code (subc [1, 1, 1, 1, 1, 1, 1, 1, 1, 1, 1, 1, 1, 0] (bodyOf Tryd.f15)), .code (subc [1, 1, 1, 1, 1, 1, 1, 1, 1, 1, 1, 1, 1, 1] (bodyOf Tryd.f15))], D := [], base := 0 },
    stk := [],
    H := [(cREF7_0 x), .cell true 72 (.agg [1, 1, 1, 1, 1, 1, 1, 1] [(.int .i64 v25.1), (.str v25.2.1), (.str v25.2.2.1), (.int .u8 v25.2.2.2.1), (.fsl (.int .u8) v25.2.2.2.2.1), (.int .i64 v25.2.2.2.2.2.1), (.int .i64 v25.2.2.2.2.2.2.1), (.int .i64 v25.2.2.2.2.2.2.2)]), .cell true 5 (.arr 0 (.int .u8) v33)] }
noncomputable def stop15 : FuncId → Nat → Nat → Option Cut
  | 15, 9, 0 => some { tmps := [1, 4], loops := [], dead := [], stk := [] }
  | 15, 27, 0 => some { tmps := [1, 4, 6, 9, 11], loops := [], dead := [], stk := [] }
  | 15, 35, 0 => some { tmps := [1, 4, 6, 10, 11], loops := [], dead := [], stk := [] }
  | 15, 43, 0 => some { tmps := [1, 4, 6, 7, 8], loops := [], dead := [], stk := [] }
  | 15, 47, 0 => some { tmps := [1, 4, 6, 7, 8], loops := [], dead := [], stk := [] }
  | 15, 53, 0 => some { tmps := [1, 4, 6, 7, 8, 12], loops := [], dead := [], stk := [] }
  | 15, 57, 0 => some { tmps := [1, 4, 6, 7, 12], loops := [], dead := [], stk := [] }
  | 15, 65, 0 => some { tmps := [4, 12, 13], loops := [], dead := [], stk := [] }
  | _, _, _ => none
noncomputable def fn15 (x : DInsn) : ((List Int) × Int) := endVal (TC.dflt (.st (.slice (.int .u8)) (.st1 (.int .i64)))) (step15 x) (tree15 x)
def pre15 (x : DInsn) : Prop := ∃ r, Ends (step15 x) r (tree15 x)
noncomputable def spec15 : Spec := { dom := (.st1 CInsn), cod := (.st (.slice (.int .u8)) (.st1 (.int .i64))), n := 2, pre := pre15, f := fn15 }
noncomputable def need15 : FuncId → Option Spec
  | 42 => some spec42
  | 43 => some spec43
  | 44 => some spec44
  | 45 => some spec45
  | 46 => some spec46
  | _ => none
theorem need15_ok : ∀ f sp, need15 f = some sp → SpecOk env0 f sp := by
  intro f sp h
  unfold need15 at h
  split at h
  · cases h; exact ok42
  · cases h; exact ok43
  · cases h; exact ok44
  · cases h; exact ok45
  · cases h; exact ok46
  · cases h
theorem run15 (W : Cfg) (Q : ((List Int) × Int) → Prop) (x : DInsn) : run (env need15 (fun _ _ => none)) stop15 (finS spec15 Q) W 100000 (startFr 15 Tryd.f15 (bodyOf Tryd.f15) (argsOf (.st1 CInsn) x)) [] [] = (tree15 x).wp (kont W Q (head15 x)) := by kernel_rfl
theorem run15h0 (W : Cfg) (Q : ((List Int) × Int) → Prop) (x : DInsn) (v21 : Drow) : run (env need15 (fun _ _ => none)) stop15 (finS spec15 Q) W 100000 (head15 x (.h0 v21)).fr.enter (head15 x (.h0 v21)).stk (head15 x (.h0 v21)).H = (step15 x (.h0 v21)).wp (kont W Q (head15 x)) := by kernel_rfl
theorem run15h1 (W : Cfg) (Q : ((List Int) × Int) → Prop) (x : DInsn) (v1 : Nat) (v2 : Int) (v24 : Drow) (v32 : Nat) (v33 : (List Int)) (v34 : DOperand) : run (env need15 (fun _ _ => none)) stop15 (finS spec15 Q) W 100000 (head15 x (.h1 v1 v2 v24 v32 v33 v34)).fr.enter (head15 x (.h1 v1 v2 v24 v32 v33 v34)).stk (head15 x (.h1 v1 v2 v24 v32 v33 v34)).H = (step15 x (.h1 v1 v2 v24 v32 v33 v34)).wp (kont W Q (head15 x)) := by kernel_rfl
theorem run15h2 (W : Cfg) (Q : ((List Int) × Int) → Prop) (x : DInsn) (v1 : Nat) (v2 : Int) (v24 : Drow) (v32 : Nat) (v33 : (List Int)) (v34 : DOperand) : run (env need15 (fun _ _ => none)) stop15 (finS spec15 Q) W 100000 (head15 x (.h2 v1 v2 v24 v32 v33 v34)).fr.enter (head15 x (.h2 v1 v2 v24 v32 v33 v34)).stk (head15 x (.h2 v1 v2 v24 v32 v33 v34)).H = (step15 x (.h2 v1 v2 v24 v32 v33 v34)).wp (kont W Q (head15 x)) := by kernel_rfl
theorem run15h3 (W : Cfg) (Q : ((List Int) × Int) → Prop) (x : DInsn) (v1 : Nat) (v2 : Int) (v24 : Drow) (v32 : Nat) (v33 : (List Int)) : run (env need15 (fun _ _ => none)) stop15 (finS spec15 Q) W 100000 (head15 x (.h3 v1 v2 v24 v32 v33)).fr.enter (head15 x (.h3 v1 v2 v24 v32 v33)).stk (head15 x (.h3 v1 v2 v24 v32 v33)).H = (step15 x (.h3 v1 v2 v24 v32 v33)).wp (kont W Q (head15 x)) := by kernel_rfl
theorem run15h4 (W : Cfg) (Q : ((List Int) × Int) → Prop) (x : DInsn) (v1 : Nat) (v3 : Int) (v25 : Drow) (v33 : (List Int)) (v34 : DOperand) : run (env need15 (fun _ _ => none)) stop15 (finS spec15 Q) W 100000 (head15 x (.h4 v1 v3 v25 v33 v34)).fr.enter (head15 x (.h4 v1 v3 v25 v33 v34)).stk (head15 x (.h4 v1 v3 v25 v33 v34)).H = (step15 x (.h4 v1 v3 v25 v33 v34)).wp (kont W Q (head15 x)) := by kernel_rfl
theorem run15h5 (W : Cfg) (Q : ((List Int) × Int) → Prop) (x : DInsn) (v1 : Nat) (v3 : Int) (v25 : Drow) (v33 : (List Int)) (v34 : DOperand) : run (env need15 (fun _ _ => none)) stop15 (finS spec15 Q) W 100000 (head15 x (.h5 v1 v3 v25 v33 v34)).fr.enter (head15 x (.h5 v1 v3 v25 v33 v34)).stk (head15 x (.h5 v1 v3 v25 v33 v34)).H = (step15 x (.h5 v1 v3 v25 v33 v34)).wp (kont W Q (head15 x)) := by kernel_rfl
theorem run15h6 (W : Cfg) (Q : ((List Int) × Int) → Prop) (x : DInsn) (v1 : Nat) (v3 : Int) (v25 : Drow) (v33 : (List Int)) : run (env need15 (fun _ _ => none)) stop15 (finS spec15 Q) W 100000 (head15 x (.h6 v1 v3 v25 v33)).fr.enter (head15 x (.h6 v1 v3 v25 v33)).stk (head15 x (.h6 v1 v3 v25 v33)).H = (step15 x (.h6 v1 v3 v25 v33)).wp (kont W Q (head15 x)) := by kernel_rfl
theorem run15h7 (W : Cfg) (Q : ((List Int) × Int) → Prop) (x : DInsn) (v1 : Nat) (v2 : (List Int)) (v3 : Int) (v25 : Drow) (v33 : Nat) (v34 : (List Int)) : run (env need15 (fun _ _ => none)) stop15 (finS spec15 Q) W 100000 (head15 x (.h7 v1 v2 v3 v25 v33 v34)).fr.enter (head15 x (.h7 v1 v2 v3 v25 v33 v34)).stk (head15 x (.h7 v1 v2 v3 v25 v33 v34)).H = (step15 x (.h7 v1 v2 v3 v25 v33 v34)).wp (kont W Q (head15 x)) := by kernel_rfl
theorem run15h8 (W : Cfg) (Q : ((List Int) × Int) → Prop) (x : DInsn) (v1 : Nat) (v2 : Int) (v24 : Drow) (v32 : Nat) (v33 : (List Int)) : run (env need15 (fun _ _ => none)) stop15 (finS spec15 Q) W 100000 (head15 x (.h8 v1 v2 v24 v32 v33)).fr.enter (head15 x (.h8 v1 v2 v24 v32 v33)).stk (head15 x (.h8 v1 v2 v24 v32 v33)).H = (step15 x (.h8 v1 v2 v24 v32 v33)).wp (kont W Q (head15 x)) := by kernel_rfl
theorem run15h9 (W : Cfg) (Q : ((List Int) × Int) → Prop) (x : DInsn) (v1 : Nat) (v3 : (List Int)) (v4 : Int) (v26 : Drow) (v34 : (List Int)) : run (env need15 (fun _ _ => none)) stop15 (finS spec15 Q) W 100000 (head15 x (.h9 v1 v3 v4 v26 v34)).fr.enter (head15 x (.h9 v1 v3 v4 v26 v34)).stk (head15 x (.h9 v1 v3 v4 v26 v34)).H = (step15 x (.h9 v1 v3 v4 v26 v34)).wp (kont W Q (head15 x)) := by kernel_rfl
theorem run15h10 (W : Cfg) (Q : ((List Int) × Int) → Prop) (x : DInsn) (v1 : Nat) (v3 : Int) (v25 : Drow) (v33 : (List Int)) : run (env need15 (fun _ _ => none)) stop15 (finS spec15 Q) W 100000 (head15 x (.h10 v1 v3 v25 v33)).fr.enter (head15 x (.h10 v1 v3 v25 v33)).stk (head15 x (.h10 v1 v3 v25 v33)).H = (step15 x (.h10 v1 v3 v25 v33)).wp (kont W Q (head15 x)) := by kernel_rfl
theorem run15h11 (W : Cfg) (Q : ((List Int) × Int) → Prop) (x : DInsn) (v1 : Nat) (v2 : (List Int)) (v3 : Int) (v25 : Drow) (v33 : Nat) (v34 : (List Int)) : run (env need15 (fun _ _ => none)) stop15 (finS spec15 Q) W 100000 (head15 x (.h11 v1 v2 v3 v25 v33 v34)).fr.enter (head15 x (.h11 v1 v2 v3 v25 v33 v34)).stk (head15 x (.h11 v1 v2 v3 v25 v33 v34)).H = (step15 x (.h11 v1 v2 v3 v25 v33 v34)).wp (kont W Q (head15 x)) := by kernel_rfl
theorem run15h12 (W : Cfg) (Q : ((List Int) × Int) → Prop) (x : DInsn) (v1 : Nat) (v2 : Int) (v26 : Drow) (v34 : Nat) (v35 : (List Int)) (v37 : (List Int)) : run (env need15 (fun _ _ => none)) stop15 (finS spec15 Q) W 100000 (head15 x (.h12 v1 v2 v26 v34 v35 v37)).fr.enter (head15 x (.h12 v1 v2 v26 v34 v35 v37)).stk (head15 x (.h12 v1 v2 v26 v34 v35 v37)).H = (step15 x (.h12 v1 v2 v26 v34 v35 v37)).wp (kont W Q (head15 x)) := by kernel_rfl
theorem run15h13 (W : Cfg) (Q : ((List Int) × Int) → Prop) (x : DInsn) (v1 : Nat) (v2 : Int) (v24 : Drow) (v32 : Nat) (v33 : (List Int)) : run (env need15 (fun _ _ => none)) stop15 (finS spec15 Q) W 100000 (head15 x (.h13 v1 v2 v24 v32 v33)).fr.enter (head15 x (.h13 v1 v2 v24 v32 v33)).stk (head15 x (.h13 v1 v2 v24 v32 v33)).H = (step15 x (.h13 v1 v2 v24 v32 v33)).wp (kont W Q (head15 x)) := by kernel_rfl
theorem run15h14 (W : Cfg) (Q : ((List Int) × Int) → Prop) (x : DInsn) (v1 : Nat) (v3 : (List Int)) (v4 : Int) (v26 : Drow) (v34 : (List Int)) : run (env need15 (fun _ _ => none)) stop15 (finS spec15 Q) W 100000 (head15 x (.h14 v1 v3 v4 v26 v34)).fr.enter (head15 x (.h14 v1 v3 v4 v26 v34)).stk (head15 x (.h14 v1 v3 v4 v26 v34)).H = (step15 x (.h14 v1 v3 v4 v26 v34)).wp (kont W Q (head15 x)) := by kernel_rfl
theorem run15h15 (W : Cfg) (Q : ((List Int) × Int) → Prop) (x : DInsn) (v1 : Nat) (v3 : Int) (v27 : Drow) (v35 : (List Int)) (v37 : (List Int)) : run (env need15 (fun _ _ => none)) stop15 (finS spec15 Q) W 100000 (head15 x (.h15 v1 v3 v27 v35 v37)).fr.enter (head15 x (.h15 v1 v3 v27 v35 v37)).stk (head15 x (.h15 v1 v3 v27 v35 v37)).H = (step15 x (.h15 v1 v3 v27 v35 v37)).wp (kont W Q (head15 x)) := by kernel_rfl
theorem run15h16 (W : Cfg) (Q : ((List Int) × Int) → Prop) (x : DInsn) (v1 : Nat) (v3 : Int) (v25 : Drow) (v33 : (List Int)) : run (env need15 (fun _ _ => none)) stop15 (finS spec15 Q) W 100000 (head15 x (.h16 v1 v3 v25 v33)).fr.enter (head15 x (.h16 v1 v3 v25 v33)).stk (head15 x (.h16 v1 v3 v25 v33)).H = (step15 x (.h16 v1 v3 v25 v33)).wp (kont W Q (head15 x)) := by kernel_rfl
theorem run15h17 (W : Cfg) (Q : ((List Int) × Int) → Prop) (x : DInsn) (v1 : Nat) (v2 : (List Int)) (v3 : Int) (v27 : Drow) (v35 : Nat) (v36 : (List Int)) (v38 : (List Int)) : run (env need15 (fun _ _ => none)) stop15 (finS spec15 Q) W 100000 (head15 x (.h17 v1 v2 v3 v27 v35 v36 v38)).fr.enter (head15 x (.h17 v1 v2 v3 v27 v35 v36 v38)).stk (head15 x (.h17 v1 v2 v3 v27 v35 v36 v38)).H = (step15 x (.h17 v1 v2 v3 v27 v35 v36 v38)).wp (kont W Q (head15 x)) := by kernel_rfl
theorem run15h18 (W : Cfg) (Q : ((List Int) × Int) → Prop) (x : DInsn) (v1 : Nat) (v2 : (List Int)) (v3 : Int) (v25 : Drow) (v33 : Nat) (v34 : (List Int)) : run (env need15 (fun _ _ => none)) stop15 (finS spec15 Q) W 100000 (head15 x (.h18 v1 v2 v3 v25 v33 v34)).fr.enter (head15 x (.h18 v1 v2 v3 v25 v33 v34)).stk (head15 x (.h18 v1 v2 v3 v25 v33 v34)).H = (step15 x (.h18 v1 v2 v3 v25 v33 v34)).wp (kont W Q (head15 x)) := by kernel_rfl
theorem run15h19 (W : Cfg) (Q : ((List Int) × Int) → Prop) (x : DInsn) (v1 : Nat) (v3 : Nat) (v25 : Drow) (v33 : Nat) (v34 : (List Int)) (v35 : Nat) (v36 : (List Int)) : run (env need15 (fun _ _ => none)) stop15 (finS spec15 Q) W 100000 (head15 x (.h19 v1 v3 v25 v33 v34 v35 v36)).fr.enter (head15 x (.h19 v1 v3 v25 v33 v34 v35 v36)).stk (head15 x (.h19 v1 v3 v25 v33 v34 v35 v36)).H = (step15 x (.h19 v1 v3 v25 v33 v34 v35 v36)).wp (kont W Q (head15 x)) := by kernel_rfl
theorem run15h20 (W : Cfg) (Q : ((List Int) × Int) → Prop) (x : DInsn) (v1 : Nat) (v23 : Drow) (v31 : Nat) (v32 : (List Int)) : run (env need15 (fun _ _ => none)) stop15 (finS spec15 Q) W 100000 (head15 x (.h20 v1 v23 v31 v32)).fr.enter (head15 x (.h20 v1 v23 v31 v32)).stk (head15 x (.h20 v1 v23 v31 v32)).H = (step15 x (.h20 v1 v23 v31 v32)).wp (kont W Q (head15 x)) := by kernel_rfl
theorem run15h21 (W : Cfg) (Q : ((List Int) × Int) → Prop) (x : DInsn) (v1 : Nat) (v3 : (List Int)) (v4 : Int) (v28 : Drow) (v36 : (List Int)) (v38 : (List Int)) : run (env need15 (fun _ _ => none)) stop15 (finS spec15 Q) W 100000 (head15 x (.h21 v1 v3 v4 v28 v36 v38)).fr.enter (head15 x (.h21 v1 v3 v4 v28 v36 v38)).stk (head15 x (.h21 v1 v3 v4 v28 v36 v38)).H = (step15 x (.h21 v1 v3 v4 v28 v36 v38)).wp (kont W Q (head15 x)) := by kernel_rfl
theorem run15h22 (W : Cfg) (Q : ((List Int) × Int) → Prop) (x : DInsn) (v1 : Nat) (v3 : (List Int)) (v4 : Int) (v26 : Drow) (v34 : (List Int)) : run (env need15 (fun _ _ => none)) stop15 (finS spec15 Q) W 100000 (head15 x (.h22 v1 v3 v4 v26 v34)).fr.enter (head15 x (.h22 v1 v3 v4 v26 v34)).stk (head15 x (.h22 v1 v3 v4 v26 v34)).H = (step15 x (.h22 v1 v3 v4 v26 v34)).wp (kont W Q (head15 x)) := by kernel_rfl
theorem run15h23 (W : Cfg) (Q : ((List Int) × Int) → Prop) (x : DInsn) (v1 : Nat) (v4 : Nat) (v26 : Drow) (v34 : (List Int)) (v35 : Nat) (v36 : (List Int)) : run (env need15 (fun _ _ => none)) stop15 (finS spec15 Q) W 100000 (head15 x (.h23 v1 v4 v26 v34 v35 v36)).fr.enter (head15 x (.h23 v1 v4 v26 v34 v35 v36)).stk (head15 x (.h23 v1 v4 v26 v34 v35 v36)).H = (step15 x (.h23 v1 v4 v26 v34 v35 v36)).wp (kont W Q (head15 x)) := by kernel_rfl
theorem run15h24 (W : Cfg) (Q : ((List Int) × Int) → Prop) (x : DInsn) (v1 : Nat) (v24 : Drow) (v32 : (List Int)) : run (env need15 (fun _ _ => none)) stop15 (finS spec15 Q) W 100000 (head15 x (.h24 v1 v24 v32)).fr.enter (head15 x (.h24 v1 v24 v32)).stk (head15 x (.h24 v1 v24 v32)).H = (step15 x (.h24 v1 v24 v32)).wp (kont W Q (head15 x)) := by kernel_rfl
theorem run15h25 (W : Cfg) (Q : ((List Int) × Int) → Prop) (x : DInsn) (v1 : Nat) (v2 : (List Int)) (v4 : Nat) (v26 : Drow) (v34 : Nat) (v35 : (List Int)) (v36 : Nat) (v37 : (List Int)) : run (env need15 (fun _ _ => none)) stop15 (finS spec15 Q) W 100000 (head15 x (.h25 v1 v2 v4 v26 v34 v35 v36 v37)).fr.enter (head15 x (.h25 v1 v2 v4 v26 v34 v35 v36 v37)).stk (head15 x (.h25 v1 v2 v4 v26 v34 v35 v36 v37)).H = (step15 x (.h25 v1 v2 v4 v26 v34 v35 v36 v37)).wp (kont W Q (head15 x)) := by kernel_rfl
theorem run15h26 (W : Cfg) (Q : ((List Int) × Int) → Prop) (x : DInsn) (v1 : Nat) (v2 : (List Int)) (v24 : Drow) (v32 : Nat) (v33 : (List Int)) : run (env need15 (fun _ _ => none)) stop15 (finS spec15 Q) W 100000 (head15 x (.h26 v1 v2 v24 v32 v33)).fr.enter (head15 x (.h26 v1 v2 v24 v32 v33)).stk (head15 x (.h26 v1 v2 v24 v32 v33)).H = (step15 x (.h26 v1 v2 v24 v32 v33)).wp (kont W Q (head15 x)) := by kernel_rfl
theorem run15h27 (W : Cfg) (Q : ((List Int) × Int) → Prop) (x : DInsn) (v1 : Nat) (v2 : Int) (v3 : Drow) (v11 : Nat) (v12 : (List Int)) : run (env need15 (fun _ _ => none)) stop15 (finS spec15 Q) W 100000 (head15 x (.h27 v1 v2 v3 v11 v12)).fr.enter (head15 x (.h27 v1 v2 v3 v11 v12)).stk (head15 x (.h27 v1 v2 v3 v11 v12)).H = (step15 x (.h27 v1 v2 v3 v11 v12)).wp (kont W Q (head15 x)) := by kernel_rfl
theorem run15h28 (W : Cfg) (Q : ((List Int) × Int) → Prop) (x : DInsn) (v0 : Int) (v1 : Drow) : run (env need15 (fun _ _ => none)) stop15 (finS spec15 Q) W 100000 (head15 x (.h28 v0 v1)).fr.enter (head15 x (.h28 v0 v1)).stk (head15 x (.h28 v0 v1)).H = (step15 x (.h28 v0 v1)).wp (kont W Q (head15 x)) := by kernel_rfl
theorem run15h29 (W : Cfg) (Q : ((List Int) × Int) → Prop) (x : DInsn) (v1 : Nat) (v3 : (List Int)) (v5 : Nat) (v27 : Drow) (v35 : (List Int)) (v36 : Nat) (v37 : (List Int)) : run (env need15 (fun _ _ => none)) stop15 (finS spec15 Q) W 100000 (head15 x (.h29 v1 v3 v5 v27 v35 v36 v37)).fr.enter (head15 x (.h29 v1 v3 v5 v27 v35 v36 v37)).stk (head15 x (.h29 v1 v3 v5 v27 v35 v36 v37)).H = (step15 x (.h29 v1 v3 v5 v27 v35 v36 v37)).wp (kont W Q (head15 x)) := by kernel_rfl
theorem run15h30 (W : Cfg) (Q : ((List Int) × Int) → Prop) (x : DInsn) (v1 : Nat) (v3 : (List Int)) (v25 : Drow) (v33 : (List Int)) : run (env need15 (fun _ _ => none)) stop15 (finS spec15 Q) W 100000 (head15 x (.h30 v1 v3 v25 v33)).fr.enter (head15 x (.h30 v1 v3 v25 v33)).stk (head15 x (.h30 v1 v3 v25 v33)).H = (step15 x (.h30 v1 v3 v25 v33)).wp (kont W Q (head15 x)) := by kernel_rfl
theorem runs15 (W : Cfg) (Q : ((List Int) × Int) → Prop) (x : DInsn) : ∀ j : J15, run (env need15 (fun _ _ => none)) stop15 (finS spec15 Q) W 100000 (head15 x j).fr.enter (head15 x j).stk (head15 x j).H = (step15 x j).wp (kont W Q (head15 x))
  | .h0 v21 => run15h0 W Q x v21
  | .h1 v1 v2 v24 v32 v33 v34 => run15h1 W Q x v1 v2 v24 v32 v33 v34
  | .h2 v1 v2 v24 v32 v33 v34 => run15h2 W Q x v1 v2 v24 v32 v33 v34
  | .h3 v1 v2 v24 v32 v33 => run15h3 W Q x v1 v2 v24 v32 v33
  | .h4 v1 v3 v25 v33 v34 => run15h4 W Q x v1 v3 v25 v33 v34
  | .h5 v1 v3 v25 v33 v34 => run15h5 W Q x v1 v3 v25 v33 v34
  | .h6 v1 v3 v25 v33 => run15h6 W Q x v1 v3 v25 v33
  | .h7 v1 v2 v3 v25 v33 v34 => run15h7 W Q x v1 v2 v3 v25 v33 v34
  | .h8 v1 v2 v24 v32 v33 => run15h8 W Q x v1 v2 v24 v32 v33
  | .h9 v1 v3 v4 v26 v34 => run15h9 W Q x v1 v3 v4 v26 v34
  | .h10 v1 v3 v25 v33 => run15h10 W Q x v1 v3 v25 v33
  | .h11 v1 v2 v3 v25 v33 v34 => run15h11 W Q x v1 v2 v3 v25 v33 v34
  | .h12 v1 v2 v26 v34 v35 v37 => run15h12 W Q x v1 v2 v26 v34 v35 v37
  | .h13 v1 v2 v24 v32 v33 => run15h13 W Q x v1 v2 v24 v32 v33
  | .h14 v1 v3 v4 v26 v34 => run15h14 W Q x v1 v3 v4 v26 v34
  | .h15 v1 v3 v27 v35 v37 => run15h15 W Q x v1 v3 v27 v35 v37
  | .h16 v1 v3 v25 v33 => run15h16 W Q x v1 v3 v25 v33
  | .h17 v1 v2 v3 v27 v35 v36 v38 => run15h17 W Q x v1 v2 v3 v27 v35 v36 v38
  | .h18 v1 v2 v3 v25 v33 v34 => run15h18 W Q x v1 v2 v3 v25 v33 v34
  | .h19 v1 v3 v25 v33 v34 v35 v36 => run15h19 W Q x v1 v3 v25 v33 v34 v35 v36
  | .h20 v1 v23 v31 v32 => run15h20 W Q x v1 v23 v31 v32
  | .h21 v1 v3 v4 v28 v36 v38 => run15h21 W Q x v1 v3 v4 v28 v36 v38
  | .h22 v1 v3 v4 v26 v34 => run15h22 W Q x v1 v3 v4 v26 v34
  | .h23 v1 v4 v26 v34 v35 v36 => run15h23 W Q x v1 v4 v26 v34 v35 v36
  | .h24 v1 v24 v32 => run15h24 W Q x v1 v24 v32
  | .h25 v1 v2 v4 v26 v34 v35 v36 v37 => run15h25 W Q x v1 v2 v4 v26 v34 v35 v36 v37
  | .h26 v1 v2 v24 v32 v33 => run15h26 W Q x v1 v2 v24 v32 v33
  | .h27 v1 v2 v3 v11 v12 => run15h27 W Q x v1 v2 v3 v11 v12
  | .h28 v0 v1 => run15h28 W Q x v0 v1
  | .h29 v1 v3 v5 v27 v35 v36 v37 => run15h29 W Q x v1 v3 v5 v27 v35 v36 v37
  | .h30 v1 v3 v25 v33 => run15h30 W Q x v1 v3 v25 v33
theorem ok15 : SpecOk env0 15 spec15 := SpecOk.env rfl (fun _ _ h => h) (spec_of_trees (E := (env need15 (fun _ _ => none))) (sp := spec15) (valid _ _) (fun f sp h => SpecOk.env rfl (fun _ _ h => h) (need15_ok f sp h)) (fn := Tryd.f15) (c := (bodyOf Tryd.f15)) (by kernel_rfl) (by kernel_rfl) tree15 step15 head15 run15 runs15 (fun _ h => endVal_ends h))

end Go.Eng.RE
end
section
/- Functions of this program, written out. -/
namespace Go.Eng.RE
open Go.Proofs Go.Eng
set_option maxRecDepth 100000

/-! ### sundial/sundialref10.Code -/
inductive J17 where
  | h0 (v1 : Int)
  | h1 (v2 : Nat) (v3 : Int) (v4 : Nat) (v5 : (List Int))
noncomputable def tree17 (_x : (List DInsn)) : Tr (J17 ⊕ ((List Int) × Int)) :=
  .ret (.inl (.h0 0))
noncomputable def step17 (x : (List DInsn)) : J17 → Tr (J17 ⊕ ((List Int) × Int))
  | .h0 v1 =>
  .ite (ilt v1 (x.length : Int)) (
  .need ((0 : Int) ≤ v1) <|
  .need (v1 < (x.length : Int)) <|
  let y0 : DInsn := (rdc CInsn x (v1).toNat)
  .need (pre15 y0) <|
  let y1 : ((List Int) × Int) := (fn15 y0)
  let y2 : Int := y1.2
  .ite (ine y2 0) (
  .ret (.inr (([] : List Int), y2))) (
  let y3 : (List Int) := y1.1
  let y4 : Nat := y3.length
  .ite (ieq (y4 : Int) 0) (
  let y5 : Int := (iadd .i64 v1 1)
  .ret (.inl (.h0 y5))) (
  .need (((y4 : Nat) * 1 : Nat) ≤ 2 ^ 40) <|
  .need ((y4 : Nat) ≤ 2 ^ 40) <|
  let y6 : Int := (iadd .i64 v1 1)
  .ret (.inl (.h1 y4 y6 y4 y3))))) (
  .ret (.inr (([] : List Int), 0)))
  | .h1 v2 v3 v4 v5 =>
  .ite (ilt v3 (x.length : Int)) (
  .need ((0 : Int) ≤ v3) <|
  .need (v3 < (x.length : Int)) <|
  let y0 : DInsn := (rdc CInsn x (v3).toNat)
  .need (pre15 y0) <|
  let y1 : ((List Int) × Int) := (fn15 y0)
  let y2 : Int := y1.2
  .ite (ine y2 0) (
  .ret (.inr (([] : List Int), y2))) (
  .need ((v2 : Nat) = v4) <|
  let y3 : (List Int) := y1.1
  let y4 : Nat := (v2 + y3.length)
  .need (((y4 : Nat) * 1 : Nat) ≤ 2 ^ 40) <|
  .need ((y4 : Nat) ≤ 2 ^ 40) <|
  .ret (.inl (.h1 y4 (iadd .i64 v3 1) y4 (v5 ++ y3))))) (
  .need (((0 : Nat) + v2 : Nat) ≤ v4) <|
  .ret (.inr ((v5.take v2), 0)))
noncomputable def head17 (x : (List DInsn)) : J17 → Head
  | .h0 v1 =>
  { fr := { id := 17, kind := .top, T := [(.fsl CInsn x), .any, .any, .any, (.raw (.slice none 0 0)), (.int .i64 v1)] ++ List.replicate 23 .any, items := [.lp (subc [1, 1, 0, 1, 0, 0] (bodyOf Tryd.f17)), .blk 0, .code (subc [1, 1, 1] (bodyOf Tryd.f17))], D := [], base := 0 },
    stk := [],
    H := [] }
  | .h1 v2 v3 v4 v5 =>
  { fr := { id := 17, kind := .top, T := [(.fsl CInsn x), .any, .any, .any, (.osl 0 [] 1 0 v2 none), (.int .i64 v3)] ++ List.replicate 23 .any, items := [.lp (subc [1, 1, 0, 1, 0, 0] (bodyOf Tryd.f17)), .blk 0, .code (subc [1, 1, 1] (bodyOf Tryd.f17))], D := [], base := 0 },
    stk := [],
    H := [.cell true 5 (.arr v4 (.int .u8) v5)] }
noncomputable def stop17 : FuncId → Nat → Nat → Option Cut
  | 17, 0, 0 => some { tmps := [0, 4, 5], loops := [], dead := [], stk := [] }
  | _, _, _ => none
noncomputable def fn17 (x : (List DInsn)) : ((List Int) × Int) := endVal (TC.dflt (.st (.slice (.int .u8)) (.st1 (.int .i64)))) (step17 x) (tree17 x)
def pre17 (x : (List DInsn)) : Prop := ∃ r, Ends (step17 x) r (tree17 x)
noncomputable def spec17 : Spec := { dom := (.st1 (.slice CInsn)), cod := (.st (.slice (.int .u8)) (.st1 (.int .i64))), n := 2, pre := pre17, f := fn17 }
noncomputable def need17 : FuncId → Option Spec
  | 15 => some spec15
  | _ => none
theorem need17_ok : ∀ f sp, need17 f = some sp → SpecOk env0 f sp := by
  intro f sp h
  unfold need17 at h
  split at h
  · cases h; exact ok15
  · cases h
theorem run17 (W : Cfg) (Q : ((List Int) × Int) → Prop) (x : (List DInsn)) : run (env need17 (fun _ _ => none)) stop17 (finS spec17 Q) W 100000 (startFr 17 Tryd.f17 (bodyOf Tryd.f17) (argsOf (.st1 (.slice CInsn)) x)) [] [] = (tree17 x).wp (kont W Q (head17 x)) := by kernel_rfl
theorem run17h0 (W : Cfg) (Q : ((List Int) × Int) → Prop) (x : (List DInsn)) (v1 : Int) : run (env need17 (fun _ _ => none)) stop17 (finS spec17 Q) W 100000 (head17 x (.h0 v1)).fr.enter (head17 x (.h0 v1)).stk (head17 x (.h0 v1)).H = (step17 x (.h0 v1)).wp (kont W Q (head17 x)) := by kernel_rfl
theorem run17h1 (W : Cfg) (Q : ((List Int) × Int) → Prop) (x : (List DInsn)) (v2 : Nat) (v3 : Int) (v4 : Nat) (v5 : (List Int)) : run (env need17 (fun _ _ => none)) stop17 (finS spec17 Q) W 100000 (head17 x (.h1 v2 v3 v4 v5)).fr.enter (head17 x (.h1 v2 v3 v4 v5)).stk (head17 x (.h1 v2 v3 v4 v5)).H = (step17 x (.h1 v2 v3 v4 v5)).wp (kont W Q (head17 x)) := by kernel_rfl
theorem runs17 (W : Cfg) (Q : ((List Int) × Int) → Prop) (x : (List DInsn)) : ∀ j : J17, run (env need17 (fun _ _ => none)) stop17 (finS spec17 Q) W 100000 (head17 x j).fr.enter (head17 x j).stk (head17 x j).H = (step17 x j).wp (kont W Q (head17 x))
  | .h0 v1 => run17h0 W Q x v1
  | .h1 v2 v3 v4 v5 => run17h1 W Q x v2 v3 v4 v5
theorem ok17 : SpecOk env0 17 spec17 := SpecOk.env rfl (fun _ _ h => h) (spec_of_trees (E := (env need17 (fun _ _ => none))) (sp := spec17) (valid _ _) (fun f sp h => SpecOk.env rfl (fun _ _ h => h) (need17_ok f sp h)) (fn := Tryd.f17) (c := (bodyOf Tryd.f17)) (by kernel_rfl) (by kernel_rfl) tree17 step17 head17 run17 runs17 (fun _ h => endVal_ends h))

/-! ### sundial/sundiallaw10.same -/
noncomputable def tree18 (x : ((List Int) × (List Int))) : Tr Bool :=
  .ret ((strOfNums x.1) == (strOfNums x.2))
noncomputable def fn18 (x : ((List Int) × (List Int))) : Bool := (tree18 x).val
def pre18 (x : ((List Int) × (List Int))) : Prop := (tree18 x).ok
noncomputable def spec18 : Spec := { dom := (.st (.slice (.int .u8)) (.st1 (.slice (.int .u8)))), cod := .bool, n := 1, pre := pre18, f := fn18 }
noncomputable def need18 : FuncId → Option Spec
  | _ => none
theorem need18_ok : ∀ f sp, need18 f = some sp → SpecOk env0 f sp := by
  intro f sp h
  unfold need18 at h
  split at h
  · cases h
theorem run18 (W : Cfg) (Q : Bool → Prop) (x : ((List Int) × (List Int))) : run (env need18 (fun _ _ => none)) (fun _ _ _ => none) (finS spec18 Q) W 100000 (startFr 18 Tryd.f18 (bodyOf Tryd.f18) (argsOf (.st (.slice (.int .u8)) (.st1 (.slice (.int .u8)))) x)) [] [] = (tree18 x).wp Q := by kernel_rfl
theorem ok18 : SpecOk env0 18 spec18 := SpecOk.env rfl (fun _ _ h => h) (spec_of_tree (E := (env need18 (fun _ _ => none))) (sp := spec18) (valid _ _) (fun f sp h => SpecOk.env rfl (fun _ _ h => h) (need18_ok f sp h)) (fn := Tryd.f18) (c := (bodyOf Tryd.f18)) (by kernel_rfl) (by kernel_rfl) tree18 run18 (fun _ h => Tr.gives_val h))

/-! ### sundial/sundialref10.Right -/
noncomputable def tree20 (x : DInsn) : Tr Bool :=
  .need (pre42 x) <|
  .ret (fn42 x).2
noncomputable def fn20 (x : DInsn) : Bool := (tree20 x).val
def pre20 (x : DInsn) : Prop := (tree20 x).ok
noncomputable def spec20 : Spec := { dom := (.st1 CInsn), cod := .bool, n := 1, pre := pre20, f := fn20 }
noncomputable def need20 : FuncId → Option Spec
  | 42 => some spec42
  | _ => none
theorem need20_ok : ∀ f sp, need20 f = some sp → SpecOk env0 f sp := by
  intro f sp h
  unfold need20 at h
  split at h
  · cases h; exact ok42
  · cases h
theorem run20 (W : Cfg) (Q : Bool → Prop) (x : DInsn) : run (env need20 (fun _ _ => none)) (fun _ _ _ => none) (finS spec20 Q) W 100000 (startFr 20 Tryd.f20 (bodyOf Tryd.f20) (argsOf (.st1 CInsn) x)) [] [] = (tree20 x).wp Q := by kernel_rfl
theorem ok20 : SpecOk env0 20 spec20 := SpecOk.env rfl (fun _ _ h => h) (spec_of_tree (E := (env need20 (fun _ _ => none))) (sp := spec20) (valid _ _) (fun f sp h => SpecOk.env rfl (fun _ _ h => h) (need20_ok f sp h)) (fn := Tryd.f20) (c := (bodyOf Tryd.f20)) (by kernel_rfl) (by kernel_rfl) tree20 run20 (fun _ h => Tr.gives_val h))

/-! ### sundial/sundiallaw10.EncodeTells -/
noncomputable def tree3 (x : (DInsn × ((List DInsn) × (Int × Int)))) : Tr Bool :=
  let y0 : (List DInsn) := x.2.1
  .ite (ilt 40 (y0.length : Int)) (
  .need (pre13 ()) <|
  .ret (fn13 ())) (
  .need (pre14 x.1) <|
  .need (pre15 x.1) <|
  .need (pre16 y0) <|
  .need (pre17 y0) <|
  let y1 : ((List Int) × Int) := (fn14 x.1)
  let y2 : ((List Int) × Int) := (fn15 x.1)
  let y3 : ((List Int) × (List Int)) := (y1.1, y2.1)
  .need (pre18 y3) <|
  .ite ((fn18 y3) == true) (
  .ite ((ieq y1.2 y2.2) == true) (
  let y4 : ((List Int) × Int) := (fn16 y0)
  let y5 : ((List Int) × Int) := (fn17 y0)
  let y6 : ((List Int) × (List Int)) := (y4.1, y5.1)
  .need (pre18 y6) <|
  .ite ((fn18 y6) == true) (
  .ite ((ieq y4.2 y5.2) == true) (
  .need (pre19 x.1) <|
  .need (pre20 x.1) <|
  .ite (((fn19 x.1) == (fn20 x.1)) == true) (
  let y7 : (Int × Int) := x.2.2
  let y8 : Int := y7.1
  .need (pre21 y8) <|
  .need (pre22 y8) <|
  .ite ((eqD COperand (fn21 y8) (fn22 y8)) == true) (
  let y9 : Int := y7.2
  .need (pre23 y9) <|
  .need (pre24 y9) <|
  .ite ((eqD COperand (fn23 y9) (fn24 y9)) == true) (
  .need (pre13 ()) <|
  .ret (fn13 ())) (
  .ret false)) (
  .ret false)) (
  .ret false)) (
  .ret false)) (
  .ret false)) (
  .ret false)) (
  .ret false))
noncomputable def fn3 (x : (DInsn × ((List DInsn) × (Int × Int)))) : Bool := (tree3 x).val
def pre3 (x : (DInsn × ((List DInsn) × (Int × Int)))) : Prop := (tree3 x).ok
noncomputable def spec3 : Spec := { dom := (.st CInsn (.st (.slice CInsn) (.st (.int .i64) (.st1 (.int .i64))))), cod := .bool, n := 1, pre := pre3, f := fn3 }
noncomputable def need3 : FuncId → Option Spec
  | 13 => some spec13
  | 14 => some spec14
  | 15 => some spec15
  | 16 => some spec16
  | 17 => some spec17
  | 18 => some spec18
  | 19 => some spec19
  | 20 => some spec20
  | 21 => some spec21
  | 22 => some spec22
  | 23 => some spec23
  | 24 => some spec24
  | _ => none
theorem need3_ok : ∀ f sp, need3 f = some sp → SpecOk env0 f sp := by
  intro f sp h
  unfold need3 at h
  split at h
  · cases h; exact ok13
  · cases h; exact ok14
  · cases h; exact ok15
  · cases h; exact ok16
  · cases h; exact ok17
  · cases h; exact ok18
  · cases h; exact ok19
  · cases h; exact ok20
  · cases h; exact ok21
  · cases h; exact ok22
  · cases h; exact ok23
  · cases h; exact ok24
  · cases h
theorem run3 (W : Cfg) (Q : Bool → Prop) (x : (DInsn × ((List DInsn) × (Int × Int)))) : run (env need3 (fun _ _ => none)) (fun _ _ _ => none) (finS spec3 Q) W 100000 (startFr 3 Tryd.f3 (bodyOf Tryd.f3) (argsOf (.st CInsn (.st (.slice CInsn) (.st (.int .i64) (.st1 (.int .i64))))) x)) [] [] = (tree3 x).wp Q := by kernel_rfl
theorem ok3 : SpecOk env0 3 spec3 := SpecOk.env rfl (fun _ _ h => h) (spec_of_tree (E := (env need3 (fun _ _ => none))) (sp := spec3) (valid _ _) (fun f sp h => SpecOk.env rfl (fun _ _ h => h) (need3_ok f sp h)) (fn := Tryd.f3) (c := (bodyOf Tryd.f3)) (by kernel_rfl) (by kernel_rfl) tree3 run3 (fun _ h => Tr.gives_val h))

/-! ### sundial/sundiallaw10.EncodeLens -/
noncomputable def tree4 (x : (DInsn × Int)) : Tr Bool :=
  .need (pre14 x.1) <|
  let y0 : (Int × (Int × (DOperand × (DOperand × (Int × Int))))) := x.1.2
  let y1 : (Int × (DOperand × (DOperand × (Int × Int)))) := y0.2
  let y2 : (DOperand × (DOperand × (Int × Int))) := y1.2
  let y3 : (DOperand × (Int × Int)) := y2.2
  let y4 : (Int × (Int × (Int × (DOperand × (DOperand × (Int × Int)))))) := (x.1.1, (y0.1, (y1.1, (y2.1, (y3.1, (y3.2.1, x.2))))))
  .need (pre14 y4) <|
  let y5 : ((List Int) × Int) := (fn14 x.1)
  let y6 : (List Int) := y5.1
  let y7 : ((List Int) × Int) := (fn14 y4)
  let y8 : ((List Int) × (List Int)) := (y6, y7.1)
  .need (pre18 y8) <|
  .ite ((!(fn18 y8)) == false) (
  let y9 : Int := y5.2
  .ite ((ine y9 y7.2) == false) (
  .need (pre19 x.1) <|
  .need (pre19 y4) <|
  .ite (!((fn19 x.1) == (fn19 y4))) (
  .ret false) (
  .need (pre20 x.1) <|
  .ite (!(fn20 x.1)) (
  .ite ((ieq y9 2) == true) (
  let y10 : Int := (y6.length : Int)
  .ite ((ieq y10 0) == true) (
  .need (pre13 ()) <|
  .ret (fn13 ())) (
  .ret false)) (
  .ret false)) (
  .ite ((ieq y9 0) == true) (
  let y11 : Int := (y6.length : Int)
  .ite ((ile 1 y11) == true) (
  .ite ((ile y11 15) == true) (
  .need (pre13 ()) <|
  .ret (fn13 ())) (
  .ret false)) (
  .ret false)) (
  .ret false)))) (
  .ret false)) (
  .ret false)
noncomputable def fn4 (x : (DInsn × Int)) : Bool := (tree4 x).val
def pre4 (x : (DInsn × Int)) : Prop := (tree4 x).ok
noncomputable def spec4 : Spec := { dom := (.st CInsn (.st1 (.int .i64))), cod := .bool, n := 1, pre := pre4, f := fn4 }
noncomputable def need4 : FuncId → Option Spec
  | 13 => some spec13
  | 14 => some spec14
  | 18 => some spec18
  | 19 => some spec19
  | 20 => some spec20
  | _ => none
theorem need4_ok : ∀ f sp, need4 f = some sp → SpecOk env0 f sp := by
  intro f sp h
  unfold need4 at h
  split at h
  · cases h; exact ok13
  · cases h; exact ok14
  · cases h; exact ok18
  · cases h; exact ok19
  · cases h; exact ok20
  · cases h
theorem run4 (W : Cfg) (Q : Bool → Prop) (x : (DInsn × Int)) : run (env need4 (fun _ _ => none)) (fun _ _ _ => none) (finS spec4 Q) W 100000 (startFr 4 Tryd.f4 (bodyOf Tryd.f4) (argsOf (.st CInsn (.st1 (.int .i64))) x)) [] [] = (tree4 x).wp Q := by kernel_rfl
theorem ok4 : SpecOk env0 4 spec4 := SpecOk.env rfl (fun _ _ h => h) (spec_of_tree (E := (env need4 (fun _ _ => none))) (sp := spec4) (valid _ _) (fun f sp h => SpecOk.env rfl (fun _ _ h => h) (need4_ok f sp h)) (fn := Tryd.f4) (c := (bodyOf Tryd.f4)) (by kernel_rfl) (by kernel_rfl) tree4 run4 (fun _ h => Tr.gives_val h))

/-! ### sundial/sundiallaw10.EncodeCode -/
inductive J5 where
  | h0 (v1 : ByteArray) (v2 : Bool) (v3 : Int)
noncomputable def tree5 (x : (List DInsn)) : Tr (J5 ⊕ Bool) :=
  .ite (ilt 40 (x.length : Int)) (
  .need (pre13 ()) <|
  .ret (.inr (fn13 ()))) (
  .ret (.inl (.h0 (ByteArray.mk #[]) true 0)))
noncomputable def step5 (x : (List DInsn)) : J5 → Tr (J5 ⊕ Bool)
  | .h0 v1 v2 v3 =>
  .ite (ilt v3 (x.length : Int)) (
  .need ((0 : Int) ≤ v3) <|
  .need (v3 < (x.length : Int)) <|
  let y0 : DInsn := (rdc CInsn x (v3).toNat)
  .need (pre14 y0) <|
  .ite (v2 == true) (
  let y1 : ((List Int) × Int) := (fn14 y0)
  let y2 : ByteArray := (strOfNums y1.1)
  .need ((v1.size + y2.size : Nat) ≤ 2 ^ 40) <|
  let y3 : ByteArray := (v1 ++ y2)
  let y4 : Int := (iadd .i64 v3 1)
  .ret (.inl (.h0 y3 (ieq y1.2 0) y4))) (
  let y5 : ((List Int) × Int) := (fn14 y0)
  let y6 : ByteArray := (strOfNums y5.1)
  .need ((v1.size + y6.size : Nat) ≤ 2 ^ 40) <|
  let y7 : ByteArray := (v1 ++ y6)
  let y8 : Int := (iadd .i64 v3 1)
  .ret (.inl (.h0 y7 false y8)))) (
  .need (pre16 x) <|
  .ite (!v2) (
  let y9 : Int := (fn16 x).2
  .ite ((ieq y9 2) == true) (
  let y10 : (List Int) := (fn16 x).1
  .ite ((ieq (y10.length : Int) 0) == true) (
  .need (pre13 ()) <|
  .ret (.inr (fn13 ()))) (
  .ret (.inr false))) (
  .ret (.inr false))) (
  let y11 : Int := (fn16 x).2
  .ite ((ieq y11 0) == true) (
  let y12 : (List Int) := (fn16 x).1
  .ite (((strOfNums y12) == v1) == true) (
  .need (pre13 ()) <|
  .ret (.inr (fn13 ()))) (
  .ret (.inr false))) (
  .ret (.inr false))))
noncomputable def head5 (x : (List DInsn)) : J5 → Head
  | .h0 v1 v2 v3 =>
  { fr := { id := 5, kind := .top, T := [(.fsl CInsn x), .any, .any, (.str v1), (.bool v2), (.int .i64 v3)] ++ List.replicate 59 .any, items := [.lp (subc [1, 1, 1, 1, 0, 1, 0, 0] (bodyOf Tryd.f5)), .blk 0, .code (subc [1, 1, 1, 1, 1] (bodyOf Tryd.f5))], D := [], base := 0 },
    stk := [],
    H := [] }
noncomputable def stop5 : FuncId → Nat → Nat → Option Cut
  | 5, 0, 0 => some { tmps := [0, 3, 4, 5], loops := [], dead := [], stk := [] }
  | _, _, _ => none
noncomputable def fn5 (x : (List DInsn)) : Bool := endVal (TC.dflt .bool) (step5 x) (tree5 x)
def pre5 (x : (List DInsn)) : Prop := ∃ r, Ends (step5 x) r (tree5 x)
noncomputable def spec5 : Spec := { dom := (.st1 (.slice CInsn)), cod := .bool, n := 1, pre := pre5, f := fn5 }
noncomputable def need5 : FuncId → Option Spec
  | 13 => some spec13
  | 14 => some spec14
  | 16 => some spec16
  | _ => none
theorem need5_ok : ∀ f sp, need5 f = some sp → SpecOk env0 f sp := by
  intro f sp h
  unfold need5 at h
  split at h
  · cases h; exact ok13
  · cases h; exact ok14
  · cases h; exact ok16
  · cases h
theorem run5 (W : Cfg) (Q : Bool → Prop) (x : (List DInsn)) : run (env need5 (fun _ _ => none)) stop5 (finS spec5 Q) W 100000 (startFr 5 Tryd.f5 (bodyOf Tryd.f5) (argsOf (.st1 (.slice CInsn)) x)) [] [] = (tree5 x).wp (kont W Q (head5 x)) := by kernel_rfl
theorem run5h0 (W : Cfg) (Q : Bool → Prop) (x : (List DInsn)) (v1 : ByteArray) (v2 : Bool) (v3 : Int) : run (env need5 (fun _ _ => none)) stop5 (finS spec5 Q) W 100000 (head5 x (.h0 v1 v2 v3)).fr.enter (head5 x (.h0 v1 v2 v3)).stk (head5 x (.h0 v1 v2 v3)).H = (step5 x (.h0 v1 v2 v3)).wp (kont W Q (head5 x)) := by kernel_rfl
theorem runs5 (W : Cfg) (Q : Bool → Prop) (x : (List DInsn)) : ∀ j : J5, run (env need5 (fun _ _ => none)) stop5 (finS spec5 Q) W 100000 (head5 x j).fr.enter (head5 x j).stk (head5 x j).H = (step5 x j).wp (kont W Q (head5 x))
  | .h0 v1 v2 v3 => run5h0 W Q x v1 v2 v3
theorem ok5 : SpecOk env0 5 spec5 := SpecOk.env rfl (fun _ _ h => h) (spec_of_trees (E := (env need5 (fun _ _ => none))) (sp := spec5) (valid _ _) (fun f sp h => SpecOk.env rfl (fun _ _ h => h) (need5_ok f sp h)) (fn := Tryd.f5) (c := (bodyOf Tryd.f5)) (by kernel_rfl) (by kernel_rfl) tree5 step5 head5 run5 runs5 (fun _ h => endVal_ends h))

/-! ### sundial/sundiallaw10.EncodeWide -/
noncomputable def tree6 (x : DInsn) : Tr Bool :=
  let y0 : Int := x.2.1
  let y1 : (DOperand × (DOperand × (Int × Int))) := x.2.2.2
  let y2 : (Int × (Int × (Int × (DOperand × (DOperand × (Int × Int)))))) := (x.1, (y0, (4, y1)))
  .need (pre20 y2) <|
  .ite ((!(fn20 y2)) == false) (
  let y3 : (Int × (Int × (Int × (DOperand × (DOperand × (Int × Int)))))) := (x.1, (y0, (8, y1)))
  .need (pre20 y3) <|
  .ite (!(fn20 y3)) (
  .need (pre13 ()) <|
  .ret (fn13 ())) (
  .need (pre14 y2) <|
  .need (pre14 y3) <|
  let y4 : ((List Int) × Int) := (fn14 y2)
  .ite ((ine y4.2 0) == false) (
  let y5 : ((List Int) × Int) := (fn14 y3)
  .ite (ine y5.2 0) (
  .ret false) (
  let y6 : (List Int) := y5.1
  let y7 : Int := (y6.length : Int)
  let y8 : (List Int) := y4.1
  let y9 : Int := (y8.length : Int)
  let y10 : Int := (isub .i64 y7 y9)
  .ite ((ieq y10 1) == true) (
  .ite (ilt 0 y7) (
  .need ((0 : Int) ≤ 0) <|
  .need (0 < (y6.length : Int)) <|
  let y11 : Int := (rdc (.int .u8) y6 0)
  .ite ((ieq y11 72) == true) (
  .need ((0 : Int) ≤ 1) <|
  .need ((1 : Nat) ≤ y6.length) <|
  let y12 : (List Int) := (y6.drop 1)
  let y13 : ((List Int) × (List Int)) := (y8, y12)
  .need (pre18 y13) <|
  .ite ((fn18 y13) == true) (
  .need (pre13 ()) <|
  .ret (fn13 ())) (
  .ret false)) (
  .ret false)) (
  let y14 : Bool := ((ine y10 0) == false)
  .ite y14 (
  let y15 : Bool := ((ieq y9 0) == false)
  .ite y15 (
  .need ((0 : Int) ≤ 0) <|
  .need (0 < (y8.length : Int)) <|
  let y16 : Int := (rdc (.int .u8) y8 0)
  let y17 : Bool := ((ine (iand .u8 y16 240) 64) == false)
  .ite y17 (
  .need ((0 : Int) ≤ 0) <|
  .need (0 < (y6.length : Int)) <|
  .need ((0 : Int) ≤ 0) <|
  .need (0 < (y8.length : Int)) <|
  let y18 : Int := (rdc (.int .u8) y6 0)
  let y19 : Bool := ((ine y18 (ior .u8 y16 8)) == false)
  .ite y19 (
  .need ((0 : Int) ≤ 0) <|
  .need (0 < (y8.length : Int)) <|
  let y20 : Bool := (ine (iand .u8 y16 8) 0)
  .ite y20 (
  .ret false) (
  .need ((0 : Int) ≤ 1) <|
  .need ((1 : Nat) ≤ y8.length) <|
  .need ((0 : Int) ≤ 1) <|
  .need ((1 : Nat) ≤ y6.length) <|
  let y21 : (List Int) := (y6.drop 1)
  let y22 : ((List Int) × (List Int)) := ((y8.drop 1), y21)
  .need (pre18 y22) <|
  let y23 : Bool := ((fn18 y22) == true)
  .ite y23 (
  .need (pre13 ()) <|
  .ret (fn13 ())) (
  .ret false))) (
  .ret false)) (
  .ret false)) (
  .ret false)) (
  .ret false))) (
  let y24 : Bool := ((ine y10 0) == false)
  .ite y24 (
  let y25 : Bool := ((ieq y9 0) == false)
  .ite y25 (
  .need ((0 : Int) ≤ 0) <|
  .need (0 < (y8.length : Int)) <|
  let y26 : Int := (rdc (.int .u8) y8 0)
  let y27 : Bool := ((ine (iand .u8 y26 240) 64) == false)
  .ite y27 (
  .need ((0 : Int) ≤ 0) <|
  .need (0 < (y6.length : Int)) <|
  .need ((0 : Int) ≤ 0) <|
  .need (0 < (y8.length : Int)) <|
  let y28 : Int := (rdc (.int .u8) y6 0)
  let y29 : Bool := ((ine y28 (ior .u8 y26 8)) == false)
  .ite y29 (
  .need ((0 : Int) ≤ 0) <|
  .need (0 < (y8.length : Int)) <|
  let y30 : Bool := (ine (iand .u8 y26 8) 0)
  .ite y30 (
  .ret false) (
  .need ((0 : Int) ≤ 1) <|
  .need ((1 : Nat) ≤ y8.length) <|
  .need ((0 : Int) ≤ 1) <|
  .need ((1 : Nat) ≤ y6.length) <|
  let y31 : (List Int) := (y6.drop 1)
  let y32 : ((List Int) × (List Int)) := ((y8.drop 1), y31)
  .need (pre18 y32) <|
  let y33 : Bool := ((fn18 y32) == true)
  .ite y33 (
  .need (pre13 ()) <|
  .ret (fn13 ())) (
  .ret false))) (
  .ret false)) (
  .ret false)) (
  .ret false)) (
  .ret false)))) (
  .ret false))) (
  .need (pre13 ()) <|
  .ret (fn13 ()))
noncomputable def fn6 (x : DInsn) : Bool := (tree6 x).val
def pre6 (x : DInsn) : Prop := (tree6 x).ok
noncomputable def spec6 : Spec := { dom := (.st1 CInsn), cod := .bool, n := 1, pre := pre6, f := fn6 }
noncomputable def need6 : FuncId → Option Spec
  | 13 => some spec13
  | 14 => some spec14
  | 18 => some spec18
  | 20 => some spec20
  | _ => none
theorem need6_ok : ∀ f sp, need6 f = some sp → SpecOk env0 f sp := by
  intro f sp h
  unfold need6 at h
  split at h
  · cases h; exact ok13
  · cases h; exact ok14
  · cases h; exact ok18
  · cases h; exact ok20
  · cases h
theorem run6 (W : Cfg) (Q : Bool → Prop) (x : DInsn) : run (env need6 (fun _ _ => none)) (fun _ _ _ => none) (finS spec6 Q) W 100000 (startFr 6 Tryd.f6 (bodyOf Tryd.f6) (argsOf (.st1 CInsn) x)) [] [] = (tree6 x).wp Q := by kernel_rfl
theorem ok6 : SpecOk env0 6 spec6 := SpecOk.env rfl (fun _ _ h => h) (spec_of_tree (E := (env need6 (fun _ _ => none))) (sp := spec6) (valid _ _) (fun f sp h => SpecOk.env rfl (fun _ _ h => h) (need6_ok f sp h)) (fn := Tryd.f6) (c := (bodyOf Tryd.f6)) (by kernel_rfl) (by kernel_rfl) tree6 run6 (fun _ h => Tr.gives_val h))

/-! ### sundial/sundialref09.ahead -/
inductive J47 where
  | h0 (v7 : Int) (v12 : Int)
  | h1 (v7 : Int) (v8 : Bool) (v9 : Int) (v12 : Int)
  | h2 (v7 : Int) (v8 : Bool) (v9 : Int) (v10 : Int) (v12 : Int)
  | h3 (v7 : Int) (v8 : Bool) (v9 : Int) (v10 : Int) (v12 : Int)
/-! ### sundial/sundialref07.sums -/
end Go.Eng.RE
end
section
/- Functions of this program, written out. -/
namespace Go.Eng.RE
open Go.Proofs Go.Eng
set_option maxRecDepth 100000

/-! ### sundial/sundialref07.flows -/
/-! ### sundial/sundialref07.others -/
/-! ### sundial/sundialref07.Forms -/
/-! ### sundial/sundialref07.code -/
/-! ### sundial/sundialref07.Fits -/
/-! ### sundial/sundialref07.Find -/
inductive J48 where
  | h0 (v4 : (List DForm)) (v5 : Int)
/-! ### sundial/sundialref09.bare -/
/-! ### sundial/sundialref08.Mem -/
/-! ### sundial/sundialref08.number -/
inductive J106 where
  | h0 (v2 : Int) (v3 : Int)
/-! ### sundial/sundialref08.Take -/
inductive J82 where
  | h0
  | h1 (v2 : Int) (v3 : Int) (v4 : Int)
  | h2 (v2 : Int) (v3 : Int) (v4 : Int) (v6 : Int) (v15 : DOperand)
  | h3 (v2 : Int) (v3 : Int) (v4 : Int) (v6 : Int) (v15 : DOperand)
  | h4 (v2 : Int) (v3 : Int) (v4 : Int) (v13 : DOperand)
  | h5 (v1 : Int) (v2 : Int) (v3 : Int) (v12 : DOperand)
  | h6 (v1 : Int) (v2 : Int) (v4 : Int) (v13 : DOperand)
  | h7 (v0 : Int) (v1 : Int) (v2 : Int) (v3 : Int) (v12 : DOperand)
  | h8 (v0 : Int) (v1 : Int) (v2 : Int) (v11 : DOperand)
end Go.Eng.RE
end
section
/- Functions of this program, written out. -/
namespace Go.Eng.RE
open Go.Proofs Go.Eng
set_option maxRecDepth 100000

/-! ### sundial/sundialref09.taken -/
inductive J50 where
  | h0 (v0 : Int) (v1 : Int) (v38 : DOperand)
  | h1 (v0 : Int) (v1 : Int) (v32 : DOperand)
  | h2 (v0 : Int) (v17 : DOperand) (v25 : DOperand)
/-! ### sundial/sundialref01.Number -/
inductive J83 where
  | h0 (v1 : Int) (v2 : Int)
/-! ### sundial/sundialref09.shift -/
/-! ### sundial/sundialref01.wide -/
/-! ### sundial/sundialref01.Mask -/
inductive J109 where
  | h0 (v1 : Int) (v2 : Int)
/-! ### sundial/sundialref01.Cut -/
/-! ### sundial/sundialref01.Sign -/
/-! ### sundial/sundialref01.Ext -/
/-! ### sundial/sundialref09.behind -/
/-! ### sundial/sundialref09.imm -/
/-! ### sundial/sundialref09.put -/
end Go.Eng.RE
end
section
/- Functions of this program, written out. -/
namespace Go.Eng.RE
open Go.Proofs Go.Eng
set_option maxRecDepth 100000

/-! ### sundial/sundialref09.One -/
inductive J25 where
  | h0 (v22 : Dhead)
  | h1 (v1 : Int) (v23 : Dhead)
  | h2 (v1 : Bool) (v23 : Dhead) (v29 : DForm)
  | h3 (v1 : Bool) (v2 : Int) (v3 : Int) (v25 : Dhead) (v31 : DForm) (v61 : DOperand) (v69 : DOperand)
  | h4 (v1 : Bool) (v2 : Int) (v24 : Dhead) (v30 : DForm) (v44 : DOperand) (v52 : DOperand)
  | h5 (v1 : Bool) (v2 : Int) (v24 : Dhead) (v30 : DForm) (v44 : DOperand) (v52 : DOperand)
  | h6 (v1 : Int) (v23 : Dhead) (v29 : DForm) (v43 : DOperand) (v51 : DOperand) (v59 : Int) (v60 : Int) (v61 : Int)
  | h7 (v0 : Int) (v22 : DForm) (v36 : DInsn)
/-! ### sundial/sundiallaw10.EncodeDecoded -/
end Go.Eng.RE
end
section
/- The forms: what is told of them, found among them. -/
namespace Go.Eng.RE
open Go.Eng
set_option maxRecDepth 100000

/-! ### Does a form go with these? -/
/-- A byte. -/
def isB (a : Int) : Prop := 0 ≤ a ∧ a < 256

/-! ### All of them -/
end Go.Eng.RE
end
section
/- The forms told, found. -/
namespace Go.Eng.RE
open Go.Eng
set_option maxRecDepth 100000

theorem one_more (i : Nat) (h : i < 1000000) : iadd .i64 (i : Int) 1 = ((i + 1 : Nat) : Int) := by rw [iadd_i64] <;> omega
theorem lt_yes {a b : Nat} (h : a < b) : ilt (a : Int) (b : Int) = true := by rw [ilt_iff]; omega
theorem lt_no {a b : Nat} (h : b ≤ a) : ilt (a : Int) (b : Int) = false := by rw [ilt_no]; omega

/-! ### Find -/
end Go.Eng.RE
end
