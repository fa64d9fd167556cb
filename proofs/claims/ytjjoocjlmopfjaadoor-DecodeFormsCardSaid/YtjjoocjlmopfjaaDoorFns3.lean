/- A part of the proof that the laws of this seat hold. Conditions: none beyond the row. -/
import Derived.Test.YtjjoocjlmopfjaaDoorFns2
section
/- Functions of this program, written out. -/
namespace Go.Eng.RD
open Go.Proofs Go.Eng
set_option maxRecDepth 100000

/-! ### sundial/sundiallaw09.DecodeForms -/
inductive J11 where
  | h0 (v0 : Int) (v1 : Int) (v6 : DForm) (v21 : (List Int))
  | h1 (v0 : Int) (v1 : Int) (v4 : DForm)
  | h2 (v0 : Int) (v1 : Int) (v5 : Int) (v7 : DForm) (v22 : (List Int))
  | h3 (v0 : Int) (v1 : Int) (v3 : Int) (v5 : DForm)
  | h4 (v0 : Int) (v1 : Int) (v4 : Nat) (v6 : DForm) (v20 : Nat) (v21 : (List Int))
  | h5 (v0 : Int) (v1 : Int) (v4 : Nat) (v5 : Int) (v7 : DForm) (v21 : Nat) (v22 : (List Int))
  | h6 (v0 : Int) (v1 : Int) (v4 : Nat) (v6 : DForm) (v20 : Nat) (v21 : (List Int))
  | h7 (v0 : Int) (v1 : Int) (v3 : Int) (v4 : Int) (v5 : DForm) (v19 : DInsn)
  | h8 (v0 : Int) (v1 : Int) (v2 : DForm) (v16 : DInsn)
  | h9 (v0 : Int) (v1 : Int) (v2 : Int) (v3 : DForm) (v17 : DInsn)
  | h10 (v0 : DInsn)
noncomputable def tree11 (x : (Int × (Int × (Int × (Bool × (List Int)))))) : Tr (J11 ⊕ Bool) :=
  .need (pre33 ()) <|
  let y0 : Int := ((fn33 ()).length : Int)
  .need ((y0 : Int) ≠ 0) <|
  .need ((y0 : Int) ≠ 0) <|
  let y1 : Int := (irem .i64 (iadd .i64 (irem .i64 x.1 y0) y0) y0)
  .need ((0 : Int) ≤ y1) <|
  .need (y1 < ((fn33 ()).length : Int)) <|
  .need ((16 : Int) ≠ 0) <|
  .need ((16 : Int) ≠ 0) <|
  .need ((16 : Int) ≠ 0) <|
  .need ((16 : Int) ≠ 0) <|
  let y2 : DForm := (rdc CForm (fn33 ()) (y1).toNat)
  let y3 : Int := y2.1
  .ite (ine y3 0) (
    .need ((0 : Nat) < 1) <|
    .need (((0 : Nat) + 1 : Nat) ≤ 1) <|
    .need (((1 : Nat) * 1 : Nat) ≤ 2 ^ 40) <|
    .need ((1 : Nat) ≤ 2 ^ 40) <|
    let y4 : Int := (irem .i64 (iadd .i64 (irem .i64 x.2.1 16) 16) 16)
    let y5 : Int := (irem .i64 (iadd .i64 (irem .i64 x.2.2.1 16) 16) 16)
    .ret (.inl (.h0 y4 y5 y2 [y3]))) (
    let y6 : Int := (irem .i64 (iadd .i64 (irem .i64 x.2.1 16) 16) 16)
    let y7 : Int := (irem .i64 (iadd .i64 (irem .i64 x.2.2.1 16) 16) 16)
    .ret (.inl (.h1 y6 y7 y2)))
noncomputable def step11 (x : (Int × (Int × (Int × (Bool × (List Int)))))) : J11 → Tr (J11 ⊕ Bool)
  | .h0 v0 v1 v6 v21 =>
    .need ((0 : Int) ≤ 3) <|
    .need ((0 : Int) ≤ 2) <|
    .need ((0 : Int) ≤ 3) <|
    .ite x.2.2.2.1 (
      let y0 : Int := (ior .u8 (ior .u8 64 (ishl .u8 (iconv .u8 (ishr .i64 v0 3)) 2)) (iconv .u8 (ishr .i64 v1 3)))
      .ret (.inl (.h2 v0 v1 (ior .u8 y0 8) v6 v21))) (
      let y1 : Int := (ior .u8 (ior .u8 64 (ishl .u8 (iconv .u8 (ishr .i64 v0 3)) 2)) (iconv .u8 (ishr .i64 v1 3)))
      .ret (.inl (.h2 v0 v1 y1 v6 v21)))
  | .h1 v0 v1 v4 =>
    .need ((0 : Int) ≤ 3) <|
    .need ((0 : Int) ≤ 2) <|
    .need ((0 : Int) ≤ 3) <|
    .ite x.2.2.2.1 (
      let y0 : Int := (ior .u8 (ior .u8 64 (ishl .u8 (iconv .u8 (ishr .i64 v0 3)) 2)) (iconv .u8 (ishr .i64 v1 3)))
      .ret (.inl (.h3 v0 v1 (ior .u8 y0 8) v4))) (
      let y1 : Int := (ior .u8 (ior .u8 64 (ishl .u8 (iconv .u8 (ishr .i64 v0 3)) 2)) (iconv .u8 (ishr .i64 v1 3)))
      .ret (.inl (.h3 v0 v1 y1 v4)))
  | .h2 v0 v1 v5 v7 v22 =>
    .both (
      .need ((0 : Nat) < 1) <|
      .both (
        .need (((0 : Nat) + 1 : Nat) ≤ 1) <|
        .need ((1 : Nat) = 1) <|
        .need (((2 : Nat) * 1 : Nat) ≤ 2 ^ 40) <|
        .need ((2 : Nat) ≤ 2 ^ 40) <|
        .need (pre34 v7) <|
        .need ((2 : Nat) = 2) <|
        let y0 : Nat := (2 + (fn34 v7).length)
        .need (((y0 : Nat) * 1 : Nat) ≤ 2 ^ 40) <|
        .need ((y0 : Nat) ≤ 2 ^ 40) <|
        let y1 : Bool := v7.2.2.2.1
        .ite y1 (
          let y2 : Int := (isub .i64 (y0 : Int) 1)
          .need ((0 : Int) ≤ y2) <|
          .need (y2 < (y0 : Int)) <|
          let y3 : Nat := (0 + (y2).toNat)
          .need ((y3 : Nat) < y0) <|
          .need ((0 : Int) ≤ y2) <|
          .need (y2 < (y0 : Int)) <|
          .need ((y3 : Nat) < y0) <|
          let y4 : (List Int) := ((v22 ++ [v5]) ++ (fn34 v7))
          let y5 : (List Int) := (y4.set y3 (iadd .u8 (rdc (.int .u8) y4 y3) (iconv .u8 (iand .i64 v1 7))))
          .ret (.inl (.h4 v0 v1 y0 v7 y0 y5))) (
          let y6 : (List Int) := ((v22 ++ [v5]) ++ (fn34 v7))
          .ret (.inl (.h4 v0 v1 y0 v7 y0 y6)))) (
        .need (((0 : Nat) + 1 : Nat) ≤ 1) <|
        .need ((1 : Nat) = 1) <|
        .need (((2 : Nat) * 1 : Nat) ≤ 2 ^ 40) <|
        .need ((2 : Nat) ≤ 2 ^ 40) <|
        .need (pre34 v7) <|
        .need ((2 : Nat) = 2) <|
        let y7 : Nat := (2 + (fn34 v7).length)
        .need (((y7 : Nat) * 1 : Nat) ≤ 2 ^ 40) <|
        .need ((y7 : Nat) ≤ 2 ^ 40) <|
        let y8 : Bool := v7.2.2.2.1
        .ite y8 (
          let y9 : Int := (isub .i64 (y7 : Int) 1)
          .need ((0 : Int) ≤ y9) <|
          .need (y9 < (y7 : Int)) <|
          let y10 : Nat := (0 + (y9).toNat)
          .need ((y10 : Nat) < y7) <|
          .need ((0 : Int) ≤ y9) <|
          .need (y9 < (y7 : Int)) <|
          .need ((y10 : Nat) < y7) <|
          let y11 : (List Int) := ((v22 ++ [v5]) ++ (fn34 v7))
          let y12 : (List Int) := (y11.set y10 (iadd .u8 (rdc (.int .u8) y11 y10) (iconv .u8 (iand .i64 v1 7))))
          .ret (.inl (.h4 v0 v1 y7 v7 y7 y12))) (
          let y13 : (List Int) := ((v22 ++ [v5]) ++ (fn34 v7))
          .ret (.inl (.h4 v0 v1 y7 v7 y7 y13))))) (
      .need ((0 : Nat) < 1) <|
      .need (((0 : Nat) + 1 : Nat) ≤ 1) <|
      .need ((1 : Nat) = 1) <|
      .need (((2 : Nat) * 1 : Nat) ≤ 2 ^ 40) <|
      .need ((2 : Nat) ≤ 2 ^ 40) <|
      .need (pre34 v7) <|
      .need ((2 : Nat) = 2) <|
      let y14 : Nat := (2 + (fn34 v7).length)
      .need (((y14 : Nat) * 1 : Nat) ≤ 2 ^ 40) <|
      .need ((y14 : Nat) ≤ 2 ^ 40) <|
      let y15 : Bool := v7.2.2.2.1
      .ite y15 (
        let y16 : Int := (isub .i64 (y14 : Int) 1)
        .need ((0 : Int) ≤ y16) <|
        .need (y16 < (y14 : Int)) <|
        let y17 : Nat := (0 + (y16).toNat)
        .need ((y17 : Nat) < y14) <|
        .need ((0 : Int) ≤ y16) <|
        .need (y16 < (y14 : Int)) <|
        .need ((y17 : Nat) < y14) <|
        let y18 : (List Int) := ((v22 ++ [v5]) ++ (fn34 v7))
        let y19 : (List Int) := (y18.set y17 (iadd .u8 (rdc (.int .u8) y18 y17) (iconv .u8 (iand .i64 v1 7))))
        .ret (.inl (.h4 v0 v1 y14 v7 y14 y19))) (
        let y20 : (List Int) := ((v22 ++ [v5]) ++ (fn34 v7))
        .ret (.inl (.h4 v0 v1 y14 v7 y14 y20))))
  | .h3 v0 v1 v3 v5 =>
    .both (
      .need ((0 : Nat) < 1) <|
      .both (
        .need (((0 : Nat) + 1 : Nat) ≤ 1) <|
        .need (((1 : Nat) * 1 : Nat) ≤ 2 ^ 40) <|
        .need ((1 : Nat) ≤ 2 ^ 40) <|
        .need (pre34 v5) <|
        .need ((1 : Nat) = 1) <|
        let y0 : Nat := (1 + (fn34 v5).length)
        .need (((y0 : Nat) * 1 : Nat) ≤ 2 ^ 40) <|
        .need ((y0 : Nat) ≤ 2 ^ 40) <|
        let y1 : Bool := v5.2.2.2.1
        .ite y1 (
          let y2 : Int := (isub .i64 (y0 : Int) 1)
          .need ((0 : Int) ≤ y2) <|
          .need (y2 < (y0 : Int)) <|
          let y3 : Nat := (0 + (y2).toNat)
          .need ((y3 : Nat) < y0) <|
          .need ((0 : Int) ≤ y2) <|
          .need (y2 < (y0 : Int)) <|
          .need ((y3 : Nat) < y0) <|
          let y4 : (List Int) := ([v3] ++ (fn34 v5))
          let y5 : (List Int) := (y4.set y3 (iadd .u8 (rdc (.int .u8) y4 y3) (iconv .u8 (iand .i64 v1 7))))
          .ret (.inl (.h4 v0 v1 y0 v5 y0 y5))) (
          let y6 : (List Int) := ([v3] ++ (fn34 v5))
          .ret (.inl (.h4 v0 v1 y0 v5 y0 y6)))) (
        .need (((0 : Nat) + 1 : Nat) ≤ 1) <|
        .need (((1 : Nat) * 1 : Nat) ≤ 2 ^ 40) <|
        .need ((1 : Nat) ≤ 2 ^ 40) <|
        .need (pre34 v5) <|
        .need ((1 : Nat) = 1) <|
        let y7 : Nat := (1 + (fn34 v5).length)
        .need (((y7 : Nat) * 1 : Nat) ≤ 2 ^ 40) <|
        .need ((y7 : Nat) ≤ 2 ^ 40) <|
        let y8 : Bool := v5.2.2.2.1
        .ite y8 (
          let y9 : Int := (isub .i64 (y7 : Int) 1)
          .need ((0 : Int) ≤ y9) <|
          .need (y9 < (y7 : Int)) <|
          let y10 : Nat := (0 + (y9).toNat)
          .need ((y10 : Nat) < y7) <|
          .need ((0 : Int) ≤ y9) <|
          .need (y9 < (y7 : Int)) <|
          .need ((y10 : Nat) < y7) <|
          let y11 : (List Int) := ([v3] ++ (fn34 v5))
          let y12 : (List Int) := (y11.set y10 (iadd .u8 (rdc (.int .u8) y11 y10) (iconv .u8 (iand .i64 v1 7))))
          .ret (.inl (.h4 v0 v1 y7 v5 y7 y12))) (
          let y13 : (List Int) := ([v3] ++ (fn34 v5))
          .ret (.inl (.h4 v0 v1 y7 v5 y7 y13))))) (
      .need ((0 : Nat) < 1) <|
      .need (((0 : Nat) + 1 : Nat) ≤ 1) <|
      .need (((1 : Nat) * 1 : Nat) ≤ 2 ^ 40) <|
      .need ((1 : Nat) ≤ 2 ^ 40) <|
      .need (pre34 v5) <|
      .need ((1 : Nat) = 1) <|
      let y14 : Nat := (1 + (fn34 v5).length)
      .need (((y14 : Nat) * 1 : Nat) ≤ 2 ^ 40) <|
      .need ((y14 : Nat) ≤ 2 ^ 40) <|
      let y15 : Bool := v5.2.2.2.1
      .ite y15 (
        let y16 : Int := (isub .i64 (y14 : Int) 1)
        .need ((0 : Int) ≤ y16) <|
        .need (y16 < (y14 : Int)) <|
        let y17 : Nat := (0 + (y16).toNat)
        .need ((y17 : Nat) < y14) <|
        .need ((0 : Int) ≤ y16) <|
        .need (y16 < (y14 : Int)) <|
        .need ((y17 : Nat) < y14) <|
        let y18 : (List Int) := ([v3] ++ (fn34 v5))
        let y19 : (List Int) := (y18.set y17 (iadd .u8 (rdc (.int .u8) y18 y17) (iconv .u8 (iand .i64 v1 7))))
        .ret (.inl (.h4 v0 v1 y14 v5 y14 y19))) (
        let y20 : (List Int) := ([v3] ++ (fn34 v5))
        .ret (.inl (.h4 v0 v1 y14 v5 y14 y20))))
  | .h4 v0 v1 v4 v6 v20 v21 =>
    let y0 : Int := v6.2.2.2.2.1
    .ite (ile 0 y0) (
      .ret (.inl (.h5 v0 v1 v4 (iconv .u8 y0) v6 v20 v21))) (
      .ret (.inl (.h5 v0 v1 v4 (iconv .u8 (iand .i64 v0 7)) v6 v20 v21)))
  | .h5 v0 v1 v4 v5 v7 v21 v22 =>
    let y0 : Int := v7.2.2.2.2.2.2.2.2.1
    .ite ((ile 1 y0) == true) (
      .ite (ile y0 5) (
        .need ((0 : Int) ≤ 3) <|
        .need ((0 : Nat) < 1) <|
        .need (((0 : Nat) + 1 : Nat) ≤ 1) <|
        .need ((v4 : Nat) = v21) <|
        let y1 : Nat := (v4 + 1)
        .need (((y1 : Nat) * 1 : Nat) ≤ 2 ^ 40) <|
        .need ((y1 : Nat) ≤ 2 ^ 40) <|
        .ret (.inl (.h6 v0 v1 y1 v7 y1 (v22 ++ [(ior .u8 (ior .u8 192 (ishl .u8 v5 3)) (iconv .u8 (iand .i64 v1 7)))])))) (
        .ret (.inl (.h6 v0 v1 v4 v7 v21 v22)))) (
      .ret (.inl (.h6 v0 v1 v4 v7 v21 v22)))
  | .h6 v0 v1 v4 v6 v20 v21 =>
    .need (((0 : Nat) + 8 : Nat) ≤ 8) <|
    .need ((v4 : Nat) = v20) <|
    let y0 : (Bool × (List Int)) := x.2.2.2
    let y1 : (List Int) := (y0.2.take 8)
    let y2 : Nat := (v4 + y1.length)
    .need (((y2 : Nat) * 1 : Nat) ≤ 2 ^ 40) <|
    .need ((y2 : Nat) ≤ 2 ^ 40) <|
    .need (((0 : Nat) + y2 : Nat) ≤ y2) <|
    let y3 : (List Int) := ((v21 ++ y1).take y2)
    .need (pre27 y3) <|
    let y4 : (Int × (Bool × (Bool × (Bool × Bool)))) := v6.2.2.2.2.2.2.2.2.2
    let y5 : (Bool × (Bool × (Bool × Bool))) := y4.2
    .ite (y5.2.2.2 == false) (
      .ite (y5.1 == true) (
        .ite (!y0.1) (
          let y6 : (DInsn × Int) := (fn27 y3)
          let y7 : Int := y6.2
          let y8 : Bool := ((ieq y7 80) == true)
          .ite y8 (
            .need (pre26 ()) <|
            .ret (.inr (fn26 ()))) (
            .ret (.inr false))) (
          let y9 : Int := (iadd .i64 (v4 : Int) y4.1)
          let y10 : (DInsn × Int) := (fn27 y3)
          let y11 : Int := y10.2
          let y12 : DInsn := y10.1
          .ret (.inl (.h7 v0 v1 y9 y11 v6 y12)))) (
        let y13 : Int := (iadd .i64 (v4 : Int) y4.1)
        let y14 : (DInsn × Int) := (fn27 y3)
        let y15 : Int := y14.2
        let y16 : DInsn := y14.1
        .ret (.inl (.h7 v0 v1 y13 y15 v6 y16)))) (
      let y17 : (DInsn × Int) := (fn27 y3)
      let y18 : Int := y17.2
      let y19 : Bool := ((ieq y18 80) == true)
      .ite y19 (
        .need (pre26 ()) <|
        .ret (.inr (fn26 ()))) (
        .ret (.inr false)))
  | .h7 v0 v1 v3 v4 v5 v19 =>
    .ite ((ine v4 0) == false) (
      let y0 : (Int × (Int × (Int × (Int × (Int × (Bool × (Bool × (Bool × Bool)))))))) := v5.2.2.2.2.2
      .ite ((ine v19.1 y0.1) == false) (
        let y1 : (Int × (Int × (Int × (Int × (Bool × (Bool × (Bool × Bool))))))) := y0.2
        .ite ((ine v19.2.1 y1.1) == false) (
          let y2 : (Int × (DOperand × (DOperand × (Int × Int)))) := v19.2.2
          .ite ((ine y2.2.2.2.2 v3) == false) (
            let y3 : Int := y1.2.1
            .ite ((ilt 0 y3) == true) (
              let y4 : Int := y2.1
              .ite ((ine y4 y3) == false) (
                let y5 : Bool := ((ieq y3 0) == true)
                .ite y5 (
                  let y6 : Bool := (!((ieq y4 8) == x.2.2.2.1))
                  .ite y6 (
                    .ret (.inr false)) (
                    .ret (.inl (.h8 v0 v1 v5 v19)))) (
                  .ret (.inl (.h8 v0 v1 v5 v19)))) (
                .ret (.inr false))) (
              let y7 : Bool := ((ieq y3 0) == true)
              .ite y7 (
                let y8 : Int := y2.1
                let y9 : Bool := (!((ieq y8 8) == x.2.2.2.1))
                .ite y9 (
                  .ret (.inr false)) (
                  .ret (.inl (.h8 v0 v1 v5 v19)))) (
                .ret (.inl (.h8 v0 v1 v5 v19))))) (
            .ret (.inr false))) (
          .ret (.inr false))) (
        .ret (.inr false))) (
      .ret (.inr false))
  | .h8 v0 v1 v2 v16 =>
    .ite v2.2.2.2.2.2.2.2.2.2.2.2.1 (
      .ret (.inl (.h9 v0 v1 16 v2 v16))) (
      .ret (.inl (.h9 v0 v1 0 v2 v16)))
  | .h9 v0 v1 v2 v3 v17 =>
    let y0 : Int := v3.2.2.2.2.2.2.2.2.1
    .ite (ieq y0 1) (
      let y1 : (DOperand × (DOperand × (Int × Int))) := v17.2.2.2
      let y2 : DOperand := y1.1
      let y3 : Int := y2.2.1
      let y4 : Int := (iadd .i64 v1 v2)
      .ite ((ieq y3 y4) == true) (
        let y5 : DOperand := y1.2.1
        let y6 : Int := y5.2.1
        let y7 : Int := (iadd .i64 v0 v2)
        .ite ((ieq y6 y7) == true) (
          .need (pre26 ()) <|
          .ret (.inr (fn26 ()))) (
          .ret (.inr false))) (
        .ret (.inr false))) (
      .ite (ieq y0 2) (
        let y8 : (DOperand × (DOperand × (Int × Int))) := v17.2.2.2
        let y9 : DOperand := y8.1
        let y10 : Int := y9.2.1
        let y11 : Int := (iadd .i64 v0 v2)
        .ite ((ieq y10 y11) == true) (
          let y12 : DOperand := y8.2.1
          let y13 : Int := y12.2.1
          let y14 : Int := (iadd .i64 v1 v2)
          .ite ((ieq y13 y14) == true) (
            .need (pre26 ()) <|
            .ret (.inr (fn26 ()))) (
            .ret (.inr false))) (
          .ret (.inr false))) (
        .ite (ieq y0 3) (
          let y15 : (DOperand × (DOperand × (Int × Int))) := v17.2.2.2
          let y16 : DOperand := y15.1
          let y17 : Int := y16.2.1
          let y18 : Bool := ((ieq y17 v1) == true)
          .ite y18 (
            let y19 : Bool := ((ieq y16.1 1) == true)
            .ite y19 (
              .need (pre26 ()) <|
              .ret (.inr (fn26 ()))) (
              .ret (.inr false))) (
            .ret (.inr false))) (
          .ite (ieq y0 4) (
            let y20 : (DOperand × (DOperand × (Int × Int))) := v17.2.2.2
            let y21 : DOperand := y20.1
            let y22 : Int := y21.2.1
            let y23 : Bool := ((ieq y22 v1) == true)
            .ite y23 (
              let y24 : Bool := ((ieq y21.1 1) == true)
              .ite y24 (
                .need (pre26 ()) <|
                .ret (.inr (fn26 ()))) (
                .ret (.inr false))) (
              .ret (.inr false))) (
            .ite (ieq y0 5) (
              let y25 : (DOperand × (DOperand × (Int × Int))) := v17.2.2.2
              let y26 : DOperand := y25.1
              let y27 : Int := y26.2.1
              let y28 : Bool := ((ieq y27 v1) == true)
              .ite y28 (
                let y29 : Bool := ((ieq y26.1 1) == true)
                .ite y29 (
                  .need (pre26 ()) <|
                  .ret (.inr (fn26 ()))) (
                  .ret (.inr false))) (
                .ret (.inr false))) (
              .ite (ieq y0 6) (
                let y30 : (DOperand × (DOperand × (Int × Int))) := v17.2.2.2
                let y31 : DOperand := y30.1
                let y32 : Int := y31.2.1
                let y33 : Bool := ((ieq y32 v1) == true)
                .ite y33 (
                  let y34 : Bool := ((ieq y31.1 1) == true)
                  .ite y34 (
                    .need (pre26 ()) <|
                    .ret (.inr (fn26 ()))) (
                    .ret (.inr false))) (
                  .ret (.inr false))) (
                .ite (ieq y0 7) (
                  let y35 : (DOperand × (DOperand × (Int × Int))) := v17.2.2.2
                  let y36 : DOperand := y35.1
                  let y37 : Int := y36.2.1
                  let y38 : Bool := ((ieq y37 v1) == true)
                  .ite y38 (
                    let y39 : Bool := ((ieq y36.1 1) == true)
                    .ite y39 (
                      .need (pre26 ()) <|
                      .ret (.inr (fn26 ()))) (
                      .ret (.inr false))) (
                    .ret (.inr false))) (
                  .ite (ieq y0 8) (
                    let y40 : (DOperand × (DOperand × (Int × Int))) := v17.2.2.2
                    let y41 : DOperand := y40.1
                    .ite ((eqD COperand y41 (0, (0, (0, (0, (0, (0, (false, 0)))))))) == true) (
                      let y42 : DOperand := y40.2.1
                      .ite ((ieq y42.1 3) == true) (
                        .need (pre26 ()) <|
                        .ret (.inr (fn26 ()))) (
                        .ret (.inr false))) (
                      .ret (.inr false))) (
                    .ret (.inl (.h10 v17))))))))))
  | .h10 v0 =>
    let y0 : (DOperand × (DOperand × (Int × Int))) := v0.2.2.2
    let y1 : (Int × (Int × (Int × (Int × (Int × (Int × (Bool × Int))))))) := (0, (0, (0, (0, (0, (0, (false, 0)))))))
    .ite ((eqD COperand y0.1 y1) == true) (
      .ite ((eqD COperand y0.2.1 y1) == true) (
        .need (pre26 ()) <|
        .ret (.inr (fn26 ()))) (
        .ret (.inr false))) (
      .ret (.inr false))
noncomputable def head11 (x : (Int × (Int × (Int × (Bool × (List Int)))))) : J11 → Head
  | .h0 v0 v1 v6 v21 =>
    { fr := { id := 11, kind := .top, T := [.any, (.int .i64 v0), (.int .i64 v1), (.bool x.2.2.2.1)] ++ List.replicate 5 .any ++ [(.ptr 0 []), .any, .any, (.ptr 1 []), (.osl 2 [] 1 0 1 none)] ++ List.replicate 266 .any, items := [.code (subc [1, 1, 1, 1, 1, 1, 0] (bodyOf Tryd.f11)), .code (subc [1, 1, 1, 1, 1, 1, 1] (bodyOf Tryd.f11))], D := [], base := 0 },
      stk := [],
      H := [.cell true 47 (.arr 8 (.int .u8) x.2.2.2.2), .cell true 51 (.agg [1, 1, 1, 1, 1, 1, 1, 1, 1, 1, 1, 1, 1, 1] [(.int .u8 v6.1), (.int .u8 v6.2.1), (.int .u8 v6.2.2.1), (.bool v6.2.2.2.1), (.int .i64 v6.2.2.2.2.1), (.int .u8 v6.2.2.2.2.2.1), (.int .u8 v6.2.2.2.2.2.2.1), (.int .i64 v6.2.2.2.2.2.2.2.1), (.int .u8 v6.2.2.2.2.2.2.2.2.1), (.int .i64 v6.2.2.2.2.2.2.2.2.2.1), (.bool v6.2.2.2.2.2.2.2.2.2.2.1), (.bool v6.2.2.2.2.2.2.2.2.2.2.2.1), (.bool v6.2.2.2.2.2.2.2.2.2.2.2.2.1), (.bool v6.2.2.2.2.2.2.2.2.2.2.2.2.2)]), .cell true 5 (.arr 1 (.int .u8) v21)] }
  | .h1 v0 v1 v4 =>
    { fr := { id := 11, kind := .top, T := [.any, (.int .i64 v0), (.int .i64 v1), (.bool x.2.2.2.1)] ++ List.replicate 5 .any ++ [(.ptr 0 []), .any, .any, (.ptr 1 []), (.raw (.slice none 0 0))] ++ List.replicate 266 .any, items := [.code (subc [1, 1, 1, 1, 1, 1, 0] (bodyOf Tryd.f11)), .code (subc [1, 1, 1, 1, 1, 1, 1] (bodyOf Tryd.f11))], D := [], base := 0 },
      stk := [],
      H := [.cell true 47 (.arr 8 (.int .u8) x.2.2.2.2), .cell true 51 (.agg [1, 1, 1, 1, 1, 1, 1, 1, 1, 1, 1, 1, 1, 1] [(.int .u8 v4.1), (.int .u8 v4.2.1), (.int .u8 v4.2.2.1), (.bool v4.2.2.2.1), (.int .i64 v4.2.2.2.2.1), (.int .u8 v4.2.2.2.2.2.1), (.int .u8 v4.2.2.2.2.2.2.1), (.int .i64 v4.2.2.2.2.2.2.2.1), (.int .u8 v4.2.2.2.2.2.2.2.2.1), (.int .i64 v4.2.2.2.2.2.2.2.2.2.1), (.bool v4.2.2.2.2.2.2.2.2.2.2.1), (.bool v4.2.2.2.2.2.2.2.2.2.2.2.1), (.bool v4.2.2.2.2.2.2.2.2.2.2.2.2.1), (.bool v4.2.2.2.2.2.2.2.2.2.2.2.2.2)])] }
  | .h2 v0 v1 v5 v7 v22 =>
    { fr := { id := 11, kind := .top, T := [.any, (.int .i64 v0), (.int .i64 v1), (.bool x.2.2.2.1)] ++ List.replicate 5 .any ++ [(.ptr 0 []), .any, .any, (.ptr 1 []), (.osl 2 [] 1 0 1 none), (.int .u8 v5)] ++ List.replicate 265 .any, items := [.code (subc [1, 1, 1, 1, 1, 1, 1, 1, 0] (bodyOf Tryd.f11)), .code (subc [1, 1, 1, 1, 1, 1, 1, 1, 1] (bodyOf Tryd.f11))], D := [], base := 0 },
      stk := [],
      H := [.cell true 47 (.arr 8 (.int .u8) x.2.2.2.2), .cell true 51 (.agg [1, 1, 1, 1, 1, 1, 1, 1, 1, 1, 1, 1, 1, 1] [(.int .u8 v7.1), (.int .u8 v7.2.1), (.int .u8 v7.2.2.1), (.bool v7.2.2.2.1), (.int .i64 v7.2.2.2.2.1), (.int .u8 v7.2.2.2.2.2.1), (.int .u8 v7.2.2.2.2.2.2.1), (.int .i64 v7.2.2.2.2.2.2.2.1), (.int .u8 v7.2.2.2.2.2.2.2.2.1), (.int .i64 v7.2.2.2.2.2.2.2.2.2.1), (.bool v7.2.2.2.2.2.2.2.2.2.2.1), (.bool v7.2.2.2.2.2.2.2.2.2.2.2.1), (.bool v7.2.2.2.2.2.2.2.2.2.2.2.2.1), (.bool v7.2.2.2.2.2.2.2.2.2.2.2.2.2)]), .cell true 5 (.arr 1 (.int .u8) v22)] }
  | .h3 v0 v1 v3 v5 =>
    { fr := { id := 11, kind := .top, T := [.any, (.int .i64 v0), (.int .i64 v1), (.bool x.2.2.2.1)] ++ List.replicate 5 .any ++ [(.ptr 0 []), .any, .any, (.ptr 1 []), (.raw (.slice none 0 0)), (.int .u8 v3)] ++ List.replicate 265 .any, items := [.code (subc [1, 1, 1, 1, 1, 1, 1, 1, 0] (bodyOf Tryd.f11)), .code (subc [1, 1, 1, 1, 1, 1, 1, 1, 1] (bodyOf Tryd.f11))], D := [], base := 0 },
      stk := [],
      H := [.cell true 47 (.arr 8 (.int .u8) x.2.2.2.2), .cell true 51 (.agg [1, 1, 1, 1, 1, 1, 1, 1, 1, 1, 1, 1, 1, 1] [(.int .u8 v5.1), (.int .u8 v5.2.1), (.int .u8 v5.2.2.1), (.bool v5.2.2.2.1), (.int .i64 v5.2.2.2.2.1), (.int .u8 v5.2.2.2.2.2.1), (.int .u8 v5.2.2.2.2.2.2.1), (.int .i64 v5.2.2.2.2.2.2.2.1), (.int .u8 v5.2.2.2.2.2.2.2.2.1), (.int .i64 v5.2.2.2.2.2.2.2.2.2.1), (.bool v5.2.2.2.2.2.2.2.2.2.2.1), (.bool v5.2.2.2.2.2.2.2.2.2.2.2.1), (.bool v5.2.2.2.2.2.2.2.2.2.2.2.2.1), (.bool v5.2.2.2.2.2.2.2.2.2.2.2.2.2)])] }
  | .h4 v0 v1 v4 v6 v20 v21 =>
    { fr := { id := 11, kind := .top, T := [.any, (.int .i64 v0), (.int .i64 v1), (.bool x.2.2.2.1)] ++ List.replicate 5 .any ++ [(.ptr 0 []), .any, .any, (.ptr 1 []), (.osl 2 [] 1 0 v4 none)] ++ List.replicate 266 .any, items := [.code (subc [1, 1, 1, 1, 1, 1, 1, 1, 1, 1, 0] (bodyOf Tryd.f11)), .code (subc [1, 1, 1, 1, 1, 1, 1, 1, 1, 1, 1] (bodyOf Tryd.f11))], D := [], base := 0 },
      stk := [],
      H := [.cell true 47 (.arr 8 (.int .u8) x.2.2.2.2), .cell true 51 (.agg [1, 1, 1, 1, 1, 1, 1, 1, 1, 1, 1, 1, 1, 1] [(.int .u8 v6.1), (.int .u8 v6.2.1), (.int .u8 v6.2.2.1), (.bool v6.2.2.2.1), (.int .i64 v6.2.2.2.2.1), (.int .u8 v6.2.2.2.2.2.1), (.int .u8 v6.2.2.2.2.2.2.1), (.int .i64 v6.2.2.2.2.2.2.2.1), (.int .u8 v6.2.2.2.2.2.2.2.2.1), (.int .i64 v6.2.2.2.2.2.2.2.2.2.1), (.bool v6.2.2.2.2.2.2.2.2.2.2.1), (.bool v6.2.2.2.2.2.2.2.2.2.2.2.1), (.bool v6.2.2.2.2.2.2.2.2.2.2.2.2.1), (.bool v6.2.2.2.2.2.2.2.2.2.2.2.2.2)]), .cell true 5 (.arr v20 (.int .u8) v21)] }
  | .h5 v0 v1 v4 v5 v7 v21 v22 =>
    { fr := { id := 11, kind := .top, T := [.any, (.int .i64 v0), (.int .i64 v1), (.bool x.2.2.2.1)] ++ List.replicate 5 .any ++ [(.ptr 0 []), .any, .any, (.ptr 1 []), (.osl 2 [] 1 0 v4 none), .any, (.int .u8 v5)] ++ List.replicate 264 .any, items := [.code (subc [1, 1, 1, 1, 1, 1, 1, 1, 1, 1, 1, 1, 0, 0] (bodyOf Tryd.f11)), .code (subc [1, 1, 1, 1, 1, 1, 1, 1, 1, 1, 1, 1, 0, 1] (bodyOf Tryd.f11)), .code (subc [1, 1, 1, 1, 1, 1, 1, 1, 1, 1, 1, 1, 1] (bodyOf Tryd.f11))], D := [], base := 0 },
      stk := [],
      H := [.cell true 47 (.arr 8 (.int .u8) x.2.2.2.2), .cell true 51 (.agg [1, 1, 1, 1, 1, 1, 1, 1, 1, 1, 1, 1, 1, 1] [(.int .u8 v7.1), (.int .u8 v7.2.1), (.int .u8 v7.2.2.1), (.bool v7.2.2.2.1), (.int .i64 v7.2.2.2.2.1), (.int .u8 v7.2.2.2.2.2.1), (.int .u8 v7.2.2.2.2.2.2.1), (.int .i64 v7.2.2.2.2.2.2.2.1), (.int .u8 v7.2.2.2.2.2.2.2.2.1), (.int .i64 v7.2.2.2.2.2.2.2.2.2.1), (.bool v7.2.2.2.2.2.2.2.2.2.2.1), (.bool v7.2.2.2.2.2.2.2.2.2.2.2.1), (.bool v7.2.2.2.2.2.2.2.2.2.2.2.2.1), (.bool v7.2.2.2.2.2.2.2.2.2.2.2.2.2)]), .cell true 5 (.arr v21 (.int .u8) v22)] }
  | .h6 v0 v1 v4 v6 v20 v21 =>
    { fr := { id := 11, kind := .top, T := [.any, (.int .i64 v0), (.int .i64 v1), (.bool x.2.2.2.1)] ++ List.replicate 5 .any ++ [(.ptr 0 []), .any, .any, (.ptr 1 []), (.osl 2 [] 1 0 v4 none)] ++ List.replicate 266 .any, items := [.code (subc [1, 1, 1, 1, 1, 1, 1, 1, 1, 1, 1, 1, 1, 0] (bodyOf Tryd.f11)), .code (subc [1, 1, 1, 1, 1, 1, 1, 1, 1, 1, 1, 1, 1, 1] (bodyOf Tryd.f11))], D := [], base := 0 },
      stk := [],
      H := [.cell true 47 (.arr 8 (.int .u8) x.2.2.2.2), .cell true 51 (.agg [1, 1, 1, 1, 1, 1, 1, 1, 1, 1, 1, 1, 1, 1] [(.int .u8 v6.1), (.int .u8 v6.2.1), (.int .u8 v6.2.2.1), (.bool v6.2.2.2.1), (.int .i64 v6.2.2.2.2.1), (.int .u8 v6.2.2.2.2.2.1), (.int .u8 v6.2.2.2.2.2.2.1), (.int .i64 v6.2.2.2.2.2.2.2.1), (.int .u8 v6.2.2.2.2.2.2.2.2.1), (.int .i64 v6.2.2.2.2.2.2.2.2.2.1), (.bool v6.2.2.2.2.2.2.2.2.2.2.1), (.bool v6.2.2.2.2.2.2.2.2.2.2.2.1), (.bool v6.2.2.2.2.2.2.2.2.2.2.2.2.1), (.bool v6.2.2.2.2.2.2.2.2.2.2.2.2.2)]), .cell true 5 (.arr v20 (.int .u8) v21)] }
  | .h7 v0 v1 v3 v4 v5 v19 =>
    { fr := { id := 11, kind := .top, T := [.any, (.int .i64 v0), (.int .i64 v1), (.bool x.2.2.2.1)] ++ List.replicate 8 .any ++ [(.ptr 0 []), .any, .any, .any, (.int .i64 v3), (.ptr 1 []), (.int .i64 v4)] ++ List.replicate 261 .any, items := [.code (subc [1, 1, 1, 1, 1, 1, 1, 1, 1, 1, 1, 1, 1, 1, 1, 1, 0, 0] (bodyOf Tryd.f11)), .code (subc [1, 1, 1, 1, 1, 1, 1, 1, 1, 1, 1, 1, 1, 1, 1, 1, 0, 1] (bodyOf Tryd.f11)), .code (subc [1, 1, 1, 1, 1, 1, 1, 1, 1, 1, 1, 1, 1, 1, 1, 1, 1] (bodyOf Tryd.f11))], D := [], base := 0 },
      stk := [],
      H := [.cell true 51 (.agg [1, 1, 1, 1, 1, 1, 1, 1, 1, 1, 1, 1, 1, 1] [(.int .u8 v5.1), (.int .u8 v5.2.1), (.int .u8 v5.2.2.1), (.bool v5.2.2.2.1), (.int .i64 v5.2.2.2.2.1), (.int .u8 v5.2.2.2.2.2.1), (.int .u8 v5.2.2.2.2.2.2.1), (.int .i64 v5.2.2.2.2.2.2.2.1), (.int .u8 v5.2.2.2.2.2.2.2.2.1), (.int .i64 v5.2.2.2.2.2.2.2.2.2.1), (.bool v5.2.2.2.2.2.2.2.2.2.2.1), (.bool v5.2.2.2.2.2.2.2.2.2.2.2.1), (.bool v5.2.2.2.2.2.2.2.2.2.2.2.2.1), (.bool v5.2.2.2.2.2.2.2.2.2.2.2.2.2)]), .cell true 25 (.agg [1, 1, 1, 8, 8, 1, 1] [(.int .u8 v19.1), (.int .u8 v19.2.1), (.int .i64 v19.2.2.1), (.agg [1, 1, 1, 1, 1, 1, 1, 1] [(.int .u8 v19.2.2.2.1.1), (.int .i64 v19.2.2.2.1.2.1), (.int .i64 v19.2.2.2.1.2.2.1), (.int .i64 v19.2.2.2.1.2.2.2.1), (.int .i64 v19.2.2.2.1.2.2.2.2.1), (.int .i64 v19.2.2.2.1.2.2.2.2.2.1), (.bool v19.2.2.2.1.2.2.2.2.2.2.1), (.int .i64 v19.2.2.2.1.2.2.2.2.2.2.2)]), (.agg [1, 1, 1, 1, 1, 1, 1, 1] [(.int .u8 v19.2.2.2.2.1.1), (.int .i64 v19.2.2.2.2.1.2.1), (.int .i64 v19.2.2.2.2.1.2.2.1), (.int .i64 v19.2.2.2.2.1.2.2.2.1), (.int .i64 v19.2.2.2.2.1.2.2.2.2.1), (.int .i64 v19.2.2.2.2.1.2.2.2.2.2.1), (.bool v19.2.2.2.2.1.2.2.2.2.2.2.1), (.int .i64 v19.2.2.2.2.1.2.2.2.2.2.2.2)]), (.int .u8 v19.2.2.2.2.2.1), (.int .i64 v19.2.2.2.2.2.2)])] }
  | .h8 v0 v1 v2 v16 =>
    { fr := { id := 11, kind := .top, T := [.any, (.int .i64 v0), (.int .i64 v1)] ++ List.replicate 9 .any ++ [(.ptr 0 [])] ++ List.replicate 4 .any ++ [(.ptr 1 [])] ++ List.replicate 262 .any, items := [.code (subc [1, 1, 1, 1, 1, 1, 1, 1, 1, 1, 1, 1, 1, 1, 1, 1, 1, 0] (bodyOf Tryd.f11)), .code (subc [1, 1, 1, 1, 1, 1, 1, 1, 1, 1, 1, 1, 1, 1, 1, 1, 1, 1] (bodyOf Tryd.f11))], D := [], base := 0 },
      stk := [],
      H := [.cell true 51 (.agg [1, 1, 1, 1, 1, 1, 1, 1, 1, 1, 1, 1, 1, 1] [(.int .u8 v2.1), (.int .u8 v2.2.1), (.int .u8 v2.2.2.1), (.bool v2.2.2.2.1), (.int .i64 v2.2.2.2.2.1), (.int .u8 v2.2.2.2.2.2.1), (.int .u8 v2.2.2.2.2.2.2.1), (.int .i64 v2.2.2.2.2.2.2.2.1), (.int .u8 v2.2.2.2.2.2.2.2.2.1), (.int .i64 v2.2.2.2.2.2.2.2.2.2.1), (.bool v2.2.2.2.2.2.2.2.2.2.2.1), (.bool v2.2.2.2.2.2.2.2.2.2.2.2.1), (.bool v2.2.2.2.2.2.2.2.2.2.2.2.2.1), (.bool v2.2.2.2.2.2.2.2.2.2.2.2.2.2)]), .cell true 25 (.agg [1, 1, 1, 8, 8, 1, 1] [(.int .u8 v16.1), (.int .u8 v16.2.1), (.int .i64 v16.2.2.1), (.agg [1, 1, 1, 1, 1, 1, 1, 1] [(.int .u8 v16.2.2.2.1.1), (.int .i64 v16.2.2.2.1.2.1), (.int .i64 v16.2.2.2.1.2.2.1), (.int .i64 v16.2.2.2.1.2.2.2.1), (.int .i64 v16.2.2.2.1.2.2.2.2.1), (.int .i64 v16.2.2.2.1.2.2.2.2.2.1), (.bool v16.2.2.2.1.2.2.2.2.2.2.1), (.int .i64 v16.2.2.2.1.2.2.2.2.2.2.2)]), (.agg [1, 1, 1, 1, 1, 1, 1, 1] [(.int .u8 v16.2.2.2.2.1.1), (.int .i64 v16.2.2.2.2.1.2.1), (.int .i64 v16.2.2.2.2.1.2.2.1), (.int .i64 v16.2.2.2.2.1.2.2.2.1), (.int .i64 v16.2.2.2.2.1.2.2.2.2.1), (.int .i64 v16.2.2.2.2.1.2.2.2.2.2.1), (.bool v16.2.2.2.2.1.2.2.2.2.2.2.1), (.int .i64 v16.2.2.2.2.1.2.2.2.2.2.2.2)]), (.int .u8 v16.2.2.2.2.2.1), (.int .i64 v16.2.2.2.2.2.2)])] }
  | .h9 v0 v1 v2 v3 v17 =>
    { fr := { id := 11, kind := .top, T := [.any, (.int .i64 v0), (.int .i64 v1)] ++ List.replicate 9 .any ++ [(.ptr 0 [])] ++ List.replicate 4 .any ++ [(.ptr 1 []), .any, (.int .i64 v2)] ++ List.replicate 260 .any, items := [.code (subc [1, 1, 1, 1, 1, 1, 1, 1, 1, 1, 1, 1, 1, 1, 1, 1, 1, 1, 1, 0, 0] (bodyOf Tryd.f11)), .code (subc [1, 1, 1, 1, 1, 1, 1, 1, 1, 1, 1, 1, 1, 1, 1, 1, 1, 1, 1, 0, 1] (bodyOf Tryd.f11)), .code (subc [1, 1, 1, 1, 1, 1, 1, 1, 1, 1, 1, 1, 1, 1, 1, 1, 1, 1, 1, 1] (bodyOf Tryd.f11))], D := [], base := 0 },
      stk := [],
      H := [.cell true 51 (.agg [1, 1, 1, 1, 1, 1, 1, 1, 1, 1, 1, 1, 1, 1] [(.int .u8 v3.1), (.int .u8 v3.2.1), (.int .u8 v3.2.2.1), (.bool v3.2.2.2.1), (.int .i64 v3.2.2.2.2.1), (.int .u8 v3.2.2.2.2.2.1), (.int .u8 v3.2.2.2.2.2.2.1), (.int .i64 v3.2.2.2.2.2.2.2.1), (.int .u8 v3.2.2.2.2.2.2.2.2.1), (.int .i64 v3.2.2.2.2.2.2.2.2.2.1), (.bool v3.2.2.2.2.2.2.2.2.2.2.1), (.bool v3.2.2.2.2.2.2.2.2.2.2.2.1), (.bool v3.2.2.2.2.2.2.2.2.2.2.2.2.1), (.bool v3.2.2.2.2.2.2.2.2.2.2.2.2.2)]), .cell true 25 (.agg [1, 1, 1, 8, 8, 1, 1] [(.int .u8 v17.1), (.int .u8 v17.2.1), (.int .i64 v17.2.2.1), (.agg [1, 1, 1, 1, 1, 1, 1, 1] [(.int .u8 v17.2.2.2.1.1), (.int .i64 v17.2.2.2.1.2.1), (.int .i64 v17.2.2.2.1.2.2.1), (.int .i64 v17.2.2.2.1.2.2.2.1), (.int .i64 v17.2.2.2.1.2.2.2.2.1), (.int .i64 v17.2.2.2.1.2.2.2.2.2.1), (.bool v17.2.2.2.1.2.2.2.2.2.2.1), (.int .i64 v17.2.2.2.1.2.2.2.2.2.2.2)]), (.agg [1, 1, 1, 1, 1, 1, 1, 1] [(.int .u8 v17.2.2.2.2.1.1), (.int .i64 v17.2.2.2.2.1.2.1), (.int .i64 v17.2.2.2.2.1.2.2.1), (.int .i64 v17.2.2.2.2.1.2.2.2.1), (.int .i64 v17.2.2.2.2.1.2.2.2.2.1), (.int .i64 v17.2.2.2.2.1.2.2.2.2.2.1), (.bool v17.2.2.2.2.1.2.2.2.2.2.2.1), (.int .i64 v17.2.2.2.2.1.2.2.2.2.2.2.2)]), (.int .u8 v17.2.2.2.2.2.1), (.int .i64 v17.2.2.2.2.2.2)])] }
  | .h10 v0 =>
    { fr := { id := 11, kind := .top, T := List.replicate 17 .any ++ [(.ptr 0 [])] ++ List.replicate 262 .any, items := [.code (subc [1, 1, 1, 1, 1, 1, 1, 1, 1, 1, 1, 1, 1, 1, 1, 1, 1, 1, 1, 1, 0] (bodyOf Tryd.f11)), .code (subc [1, 1, 1, 1, 1, 1, 1, 1, 1, 1, 1, 1, 1, 1, 1, 1, 1, 1, 1, 1, 1] (bodyOf Tryd.f11))], D := [], base := 0 },
      stk := [],
      H := [.cell true 25 (.agg [1, 1, 1, 8, 8, 1, 1] [(.int .u8 v0.1), (.int .u8 v0.2.1), (.int .i64 v0.2.2.1), (.agg [1, 1, 1, 1, 1, 1, 1, 1] [(.int .u8 v0.2.2.2.1.1), (.int .i64 v0.2.2.2.1.2.1), (.int .i64 v0.2.2.2.1.2.2.1), (.int .i64 v0.2.2.2.1.2.2.2.1), (.int .i64 v0.2.2.2.1.2.2.2.2.1), (.int .i64 v0.2.2.2.1.2.2.2.2.2.1), (.bool v0.2.2.2.1.2.2.2.2.2.2.1), (.int .i64 v0.2.2.2.1.2.2.2.2.2.2.2)]), (.agg [1, 1, 1, 1, 1, 1, 1, 1] [(.int .u8 v0.2.2.2.2.1.1), (.int .i64 v0.2.2.2.2.1.2.1), (.int .i64 v0.2.2.2.2.1.2.2.1), (.int .i64 v0.2.2.2.2.1.2.2.2.1), (.int .i64 v0.2.2.2.2.1.2.2.2.2.1), (.int .i64 v0.2.2.2.2.1.2.2.2.2.2.1), (.bool v0.2.2.2.2.1.2.2.2.2.2.2.1), (.int .i64 v0.2.2.2.2.1.2.2.2.2.2.2.2)]), (.int .u8 v0.2.2.2.2.2.1), (.int .i64 v0.2.2.2.2.2.2)])] }
noncomputable def stop11 : FuncId → Nat → Nat → Option Cut
  | 11, 15, 0 => some { tmps := [1, 2, 3, 9, 12, 13], loops := [], dead := [], stk := [] }
  | 11, 21, 0 => some { tmps := [1, 2, 3, 9, 12, 13, 14], loops := [], dead := [], stk := [] }
  | 11, 27, 0 => some { tmps := [1, 2, 3, 9, 12, 13], loops := [], dead := [], stk := [] }
  | 11, 33, 0 => some { tmps := [1, 2, 3, 9, 12, 13, 15], loops := [], dead := [], stk := [] }
  | 11, 37, 0 => some { tmps := [1, 2, 3, 9, 12, 13], loops := [], dead := [], stk := [] }
  | 11, 45, 0 => some { tmps := [1, 2, 3, 12, 16, 17, 18], loops := [], dead := [], stk := [] }
  | 11, 49, 0 => some { tmps := [1, 2, 12, 17], loops := [], dead := [], stk := [] }
  | 11, 55, 0 => some { tmps := [1, 2, 12, 17, 19], loops := [], dead := [], stk := [] }
  | 11, 81, 0 => some { tmps := [17], loops := [], dead := [], stk := [] }
  | _, _, _ => none
noncomputable def fn11 (x : (Int × (Int × (Int × (Bool × (List Int)))))) : Bool := endVal (TC.dflt .bool) (step11 x) (tree11 x)
def pre11 (x : (Int × (Int × (Int × (Bool × (List Int)))))) : Prop := ∃ r, Ends (step11 x) r (tree11 x)
noncomputable def spec11 : Spec := { dom := (.st (.int .i64) (.st (.int .i64) (.st (.int .i64) (.st .bool (.st1 (.arr 8 (.int .u8))))))), cod := .bool, n := 1, pre := pre11, f := fn11 }
noncomputable def need11 : FuncId → Option Spec
  | 26 => some spec26
  | 27 => some spec27
  | 33 => some spec33
  | 34 => some spec34
  | _ => none
theorem need11_ok : ∀ f sp, need11 f = some sp → SpecOk env0 f sp := by
  intro f sp h
  unfold need11 at h
  split at h
  · cases h; exact ok26
  · cases h; exact ok27
  · cases h; exact ok33
  · cases h; exact ok34
  · cases h
theorem run11 (W : Cfg) (Q : Bool → Prop) (x : (Int × (Int × (Int × (Bool × (List Int)))))) : run (env need11 (fun _ _ => none)) stop11 (finS spec11 Q) W 100000 (startFr 11 Tryd.f11 (bodyOf Tryd.f11) (argsOf (.st (.int .i64) (.st (.int .i64) (.st (.int .i64) (.st .bool (.st1 (.arr 8 (.int .u8))))))) x)) [] [] = (tree11 x).wp (kont W Q (head11 x)) := by kernel_rfl
theorem run11h0 (W : Cfg) (Q : Bool → Prop) (x : (Int × (Int × (Int × (Bool × (List Int)))))) (v0 : Int) (v1 : Int) (v6 : DForm) (v21 : (List Int)) : run (env need11 (fun _ _ => none)) stop11 (finS spec11 Q) W 100000 (head11 x (.h0 v0 v1 v6 v21)).fr.enter (head11 x (.h0 v0 v1 v6 v21)).stk (head11 x (.h0 v0 v1 v6 v21)).H = (step11 x (.h0 v0 v1 v6 v21)).wp (kont W Q (head11 x)) := by kernel_rfl
theorem run11h1 (W : Cfg) (Q : Bool → Prop) (x : (Int × (Int × (Int × (Bool × (List Int)))))) (v0 : Int) (v1 : Int) (v4 : DForm) : run (env need11 (fun _ _ => none)) stop11 (finS spec11 Q) W 100000 (head11 x (.h1 v0 v1 v4)).fr.enter (head11 x (.h1 v0 v1 v4)).stk (head11 x (.h1 v0 v1 v4)).H = (step11 x (.h1 v0 v1 v4)).wp (kont W Q (head11 x)) := by kernel_rfl
theorem run11h2 (W : Cfg) (Q : Bool → Prop) (x : (Int × (Int × (Int × (Bool × (List Int)))))) (v0 : Int) (v1 : Int) (v5 : Int) (v7 : DForm) (v22 : (List Int)) : run (env need11 (fun _ _ => none)) stop11 (finS spec11 Q) W 100000 (head11 x (.h2 v0 v1 v5 v7 v22)).fr.enter (head11 x (.h2 v0 v1 v5 v7 v22)).stk (head11 x (.h2 v0 v1 v5 v7 v22)).H = (step11 x (.h2 v0 v1 v5 v7 v22)).wp (kont W Q (head11 x)) := by kernel_rfl
theorem run11h3 (W : Cfg) (Q : Bool → Prop) (x : (Int × (Int × (Int × (Bool × (List Int)))))) (v0 : Int) (v1 : Int) (v3 : Int) (v5 : DForm) : run (env need11 (fun _ _ => none)) stop11 (finS spec11 Q) W 100000 (head11 x (.h3 v0 v1 v3 v5)).fr.enter (head11 x (.h3 v0 v1 v3 v5)).stk (head11 x (.h3 v0 v1 v3 v5)).H = (step11 x (.h3 v0 v1 v3 v5)).wp (kont W Q (head11 x)) := by kernel_rfl
theorem run11h4 (W : Cfg) (Q : Bool → Prop) (x : (Int × (Int × (Int × (Bool × (List Int)))))) (v0 : Int) (v1 : Int) (v4 : Nat) (v6 : DForm) (v20 : Nat) (v21 : (List Int)) : run (env need11 (fun _ _ => none)) stop11 (finS spec11 Q) W 100000 (head11 x (.h4 v0 v1 v4 v6 v20 v21)).fr.enter (head11 x (.h4 v0 v1 v4 v6 v20 v21)).stk (head11 x (.h4 v0 v1 v4 v6 v20 v21)).H = (step11 x (.h4 v0 v1 v4 v6 v20 v21)).wp (kont W Q (head11 x)) := by kernel_rfl
theorem run11h5 (W : Cfg) (Q : Bool → Prop) (x : (Int × (Int × (Int × (Bool × (List Int)))))) (v0 : Int) (v1 : Int) (v4 : Nat) (v5 : Int) (v7 : DForm) (v21 : Nat) (v22 : (List Int)) : run (env need11 (fun _ _ => none)) stop11 (finS spec11 Q) W 100000 (head11 x (.h5 v0 v1 v4 v5 v7 v21 v22)).fr.enter (head11 x (.h5 v0 v1 v4 v5 v7 v21 v22)).stk (head11 x (.h5 v0 v1 v4 v5 v7 v21 v22)).H = (step11 x (.h5 v0 v1 v4 v5 v7 v21 v22)).wp (kont W Q (head11 x)) := by kernel_rfl
theorem run11h6 (W : Cfg) (Q : Bool → Prop) (x : (Int × (Int × (Int × (Bool × (List Int)))))) (v0 : Int) (v1 : Int) (v4 : Nat) (v6 : DForm) (v20 : Nat) (v21 : (List Int)) : run (env need11 (fun _ _ => none)) stop11 (finS spec11 Q) W 100000 (head11 x (.h6 v0 v1 v4 v6 v20 v21)).fr.enter (head11 x (.h6 v0 v1 v4 v6 v20 v21)).stk (head11 x (.h6 v0 v1 v4 v6 v20 v21)).H = (step11 x (.h6 v0 v1 v4 v6 v20 v21)).wp (kont W Q (head11 x)) := by kernel_rfl
theorem run11h7 (W : Cfg) (Q : Bool → Prop) (x : (Int × (Int × (Int × (Bool × (List Int)))))) (v0 : Int) (v1 : Int) (v3 : Int) (v4 : Int) (v5 : DForm) (v19 : DInsn) : run (env need11 (fun _ _ => none)) stop11 (finS spec11 Q) W 100000 (head11 x (.h7 v0 v1 v3 v4 v5 v19)).fr.enter (head11 x (.h7 v0 v1 v3 v4 v5 v19)).stk (head11 x (.h7 v0 v1 v3 v4 v5 v19)).H = (step11 x (.h7 v0 v1 v3 v4 v5 v19)).wp (kont W Q (head11 x)) := by kernel_rfl
theorem run11h8 (W : Cfg) (Q : Bool → Prop) (x : (Int × (Int × (Int × (Bool × (List Int)))))) (v0 : Int) (v1 : Int) (v2 : DForm) (v16 : DInsn) : run (env need11 (fun _ _ => none)) stop11 (finS spec11 Q) W 100000 (head11 x (.h8 v0 v1 v2 v16)).fr.enter (head11 x (.h8 v0 v1 v2 v16)).stk (head11 x (.h8 v0 v1 v2 v16)).H = (step11 x (.h8 v0 v1 v2 v16)).wp (kont W Q (head11 x)) := by kernel_rfl
theorem run11h9 (W : Cfg) (Q : Bool → Prop) (x : (Int × (Int × (Int × (Bool × (List Int)))))) (v0 : Int) (v1 : Int) (v2 : Int) (v3 : DForm) (v17 : DInsn) : run (env need11 (fun _ _ => none)) stop11 (finS spec11 Q) W 100000 (head11 x (.h9 v0 v1 v2 v3 v17)).fr.enter (head11 x (.h9 v0 v1 v2 v3 v17)).stk (head11 x (.h9 v0 v1 v2 v3 v17)).H = (step11 x (.h9 v0 v1 v2 v3 v17)).wp (kont W Q (head11 x)) := by kernel_rfl
theorem run11h10 (W : Cfg) (Q : Bool → Prop) (x : (Int × (Int × (Int × (Bool × (List Int)))))) (v0 : DInsn) : run (env need11 (fun _ _ => none)) stop11 (finS spec11 Q) W 100000 (head11 x (.h10 v0)).fr.enter (head11 x (.h10 v0)).stk (head11 x (.h10 v0)).H = (step11 x (.h10 v0)).wp (kont W Q (head11 x)) := by kernel_rfl
theorem runs11 (W : Cfg) (Q : Bool → Prop) (x : (Int × (Int × (Int × (Bool × (List Int)))))) : ∀ j : J11, run (env need11 (fun _ _ => none)) stop11 (finS spec11 Q) W 100000 (head11 x j).fr.enter (head11 x j).stk (head11 x j).H = (step11 x j).wp (kont W Q (head11 x))
  | .h0 v0 v1 v6 v21 => run11h0 W Q x v0 v1 v6 v21
  | .h1 v0 v1 v4 => run11h1 W Q x v0 v1 v4
  | .h2 v0 v1 v5 v7 v22 => run11h2 W Q x v0 v1 v5 v7 v22
  | .h3 v0 v1 v3 v5 => run11h3 W Q x v0 v1 v3 v5
  | .h4 v0 v1 v4 v6 v20 v21 => run11h4 W Q x v0 v1 v4 v6 v20 v21
  | .h5 v0 v1 v4 v5 v7 v21 v22 => run11h5 W Q x v0 v1 v4 v5 v7 v21 v22
  | .h6 v0 v1 v4 v6 v20 v21 => run11h6 W Q x v0 v1 v4 v6 v20 v21
  | .h7 v0 v1 v3 v4 v5 v19 => run11h7 W Q x v0 v1 v3 v4 v5 v19
  | .h8 v0 v1 v2 v16 => run11h8 W Q x v0 v1 v2 v16
  | .h9 v0 v1 v2 v3 v17 => run11h9 W Q x v0 v1 v2 v3 v17
  | .h10 v0 => run11h10 W Q x v0
theorem ok11 : SpecOk env0 11 spec11 := SpecOk.env rfl (fun _ _ h => h) (spec_of_trees (E := (env need11 (fun _ _ => none))) (sp := spec11) (valid _ _) (fun f sp h => SpecOk.env rfl (fun _ _ h => h) (need11_ok f sp h)) (fn := Tryd.f11) (c := (bodyOf Tryd.f11)) (by kernel_rfl) (by kernel_rfl) tree11 step11 head11 run11 runs11 (fun _ h => endVal_ends h))

end Go.Eng.RD
end
section
/- A form's own bytes, with registers: what is read of them. -/
namespace Go.Eng.RD
open Go.Eng
set_option maxRecDepth 100000
set_option linter.unusedSectionVars false
noncomputable section

def rexN (reg rm : Int) : Int := ior .u8 (ior .u8 64 (ishl .u8 (iconv .u8 (ishr .i64 reg 3)) 2)) (iconv .u8 (ishr .i64 rm 3))
def rexS (reg rm : Int) (w : Bool) : Int := cond w (ior .u8 (rexN reg rm) 8) (rexN reg rm)
def opS (f : DForm) (rm : Int) : Int := cond f.2.2.2.1 (iadd .u8 f.2.2.1 (iconv .u8 (iand .i64 rm 7))) f.2.2.1
def thirdS (f : DForm) (reg : Int) : Int := cond (ile 0 (fDigit f)) (iconv .u8 (fDigit f)) (iconv .u8 (iand .i64 reg 7))
def modS (third rm : Int) : Int := ior .u8 (ior .u8 192 (ishl .u8 third 3)) (iconv .u8 (iand .i64 rm 7))
def preL (f : DForm) : List Int := cond (ine f.1 0) [f.1] []
def mapL (f : DForm) (o : Int) : List Int := cond (ieq f.2.1 1) [15, o] (cond (ieq f.2.1 2) [15, 56, o] (cond (ieq f.2.1 3) [15, 58, o] [o]))
def modL (f : DForm) (reg rm : Int) : List Int := cond (ile 1 (fKind f) && ile (fKind f) 5) [modS (thirdS f reg) rm] []
def codeL (f : DForm) (reg rm : Int) (w : Bool) : List Int := preL f ++ [rexS reg rm w] ++ mapL f (opS f rm) ++ modL f reg rm

/-! ### Facts by reckoning -/
def rexOk (reg rm : Nat) (w : Bool) : Bool :=
  let R := rexS reg rm w
  isBb R && fn89 R && !(ieq R 102) && !(ieq R 243) && (ieq (iand .u8 (iand .u8 R 15) 8) 0 == !w) && ieq (iadd .i64 4 (ishr .i64 (iconv .i64 (iand .u8 (iand .u8 R 15) 8)) 1)) (cond w 8 4) &&
  (List.range 32).all fun o => ieq (iconv .i64 (ior .u8 (iand .u8 (iadd .u8 (8 * (o : Nat) : Int) (iconv .u8 (iand .i64 rm 7))) 7) (ishl .u8 (iand .u8 (iand .u8 R 15) 1) 3))) rm
def modOk (reg rm : Nat) (w : Bool) (third : Nat) : Bool :=
  let b := iand .u8 (rexS reg rm w) 15
  let M := modS third rm
  isBb M && ieq (ishr .u8 M 6) 3 && ieq (iconv .i64 (iand .u8 (ishr .u8 M 3) 7)) third && ieq (takeLow b M) rm && (!(third == reg % 8) || ieq (takeReg b M) reg)
theorem rex_all : (List.range 16).all (fun reg => (List.range 16).all fun rm => [true, false].all fun w => rexOk reg rm w) = true := by decide +kernel
theorem mod_all : (List.range 16).all (fun reg => (List.range 16).all fun rm => [true, false].all fun w => (List.range 8).all fun t => modOk reg rm w t) = true := by decide +kernel
theorem mem_bool (w : Bool) : w ∈ [true, false] := by cases w <;> simp
theorem rex_ok {reg rm : Nat} (w : Bool) (h1 : reg < 16) (h2 : rm < 16) : rexOk reg rm w = true :=
  List.all_eq_true.1 (List.all_eq_true.1 (List.all_eq_true.1 rex_all reg (List.mem_range.2 h1)) rm (List.mem_range.2 h2)) w (mem_bool w)
theorem mod_ok {reg rm t : Nat} (w : Bool) (h1 : reg < 16) (h2 : rm < 16) (h3 : t < 8) : modOk reg rm w t = true :=
  List.all_eq_true.1 (List.all_eq_true.1 (List.all_eq_true.1 (List.all_eq_true.1 mod_all reg (List.mem_range.2 h1)) rm (List.mem_range.2 h2)) w (mem_bool w)) t (List.mem_range.2 h3)

/-- Of a form, with a register in its opcode. -/
def formOk (f : DForm) (rm : Nat) : Bool :=
  let o := opS f rm
  isBb o && (ieq f.1 0 || ((ieq f.1 102 || ieq f.1 243) && isBb f.1)) && codeB f o &&
  (ieq f.2.1 1 || (ieq f.2.1 2 || (ieq f.2.1 3 || ieq f.2.1 0))) && (!(ieq f.2.1 0) || !(ieq o 15)) && (!(ieq f.2.1 1) || (!(ieq o 56) && !(ieq o 58))) &&
  (ieq (fDigit f) (-1) || (ile 0 (fDigit f) && ilt (fDigit f) 8)) && (hasOp f == (ile 1 (fKind f) && ile (fKind f) 5)) &&
  (!f.2.2.2.1 || (ieq f.2.1 0 && (List.range 32).any fun o => ieq f.2.2.1 (8 * (o : Nat) : Int))) && (!(hasOp f) || (ieq (fKind f) 3 || (ieq (fKind f) 4 || (ieq (fKind f) 5 || ieq (fDigit f) (-1))))) && (hasOp f || !(fMem f)) && (ile 0 (fWide f)) && (!(fVec f) || (ieq (fKind f) 1 || ieq (fKind f) 2)) &&
  (!(ieq (fKind f) 6 || ieq (fKind f) 7) || f.2.2.2.1)
theorem form_all : forms.all (fun f => (List.range 16).all fun rm => formOk f rm) = true := by decide +kernel
theorem form_ok {f : DForm} {rm : Nat} (hf : f ∈ forms) (h : rm < 16) : formOk f rm = true := List.all_eq_true.1 (List.all_eq_true.1 form_all f hf) rm (List.mem_range.2 h)

/-- The third bits: the digit, or the register's. -/
theorem third_eq {f : DForm} {reg rm : Nat} (hf : f ∈ forms) (hr : reg < 16) (h : rm < 16) : ∃ t : Nat, t < 8 ∧ thirdS f reg = t ∧ (fDigit f = -1 → t = reg % 8) ∧ (fDigit f ≠ -1 → (t : Int) = fDigit f) := by
  have h7 : (List.range 16).all (fun r => ieq (iconv .u8 (iand .i64 (r : Nat) 7)) ((r % 8 : Nat) : Int)) = true := by decide +kernel
  have hd8 : (List.range 8).all (fun r => ieq (iconv .u8 (r : Nat)) (r : Nat)) = true := by decide +kernel
  have hF := form_ok hf h
  simp only [formOk, Bool.and_eq_true, Bool.or_eq_true, ieq_iff, ile_iff, ilt_iff] at hF
  rcases hF.1.1.1.1.1.1.1.2 with hd | ⟨hd1, hd2⟩
  · refine ⟨reg % 8, Nat.mod_lt _ (by omega), ?_, fun _ => rfl, fun hn => (hn hd).elim⟩
    have : ile 0 (fDigit f) = false := by rw [hd]; rfl
    unfold thirdS
    rw [this, cond_false]
    exact ieq_iff.1 (List.all_eq_true.1 h7 reg (List.mem_range.2 hr))
  · obtain ⟨t, ht⟩ : ∃ t : Nat, fDigit f = t := ⟨(fDigit f).toNat, by omega⟩
    refine ⟨t, by omega, ?_, fun e => by omega, fun _ => ht.symm⟩
    unfold thirdS
    have : ile 0 (fDigit f) = true := by rw [ile_iff]; omega
    rw [this, cond_true, ht]
    exact ieq_iff.1 (List.all_eq_true.1 hd8 t (List.mem_range.2 (by omega)))

/-! ### What stands ahead -/
def headS (f : DForm) (reg rm : Int) (w : Bool) : DH := (f.1, (true, (iand .u8 (rexS reg rm w) 15, (f.2.1, opS f rm))))

theorem ahead_code {f : DForm} {reg rm : Nat} (w : Bool) (hf : f ∈ forms) (h1 : reg < 16) (h2 : rm < 16) (r : List Int) :
    aheadS (preL f ++ [rexS reg rm w] ++ mapL f (opS f rm) ++ r) = some (headS f reg rm w, r) := by
  have hR := rex_ok w h1 h2
  have hF := form_ok hf h2
  simp only [rexOk, Bool.and_eq_true, Bool.not_eq_true'] at hR
  obtain ⟨⟨⟨⟨⟨⟨_, r89⟩, r102⟩, r243⟩, _⟩, _⟩, _⟩ := hR
  simp only [formOk, Bool.and_eq_true, Bool.or_eq_true, Bool.not_eq_true'] at hF
  obtain ⟨⟨⟨⟨⟨⟨⟨⟨⟨⟨⟨⟨⟨_, fp⟩, _⟩, fm⟩, fm0⟩, fm1⟩, _⟩, _⟩, _⟩, _⟩, _⟩, _⟩, _⟩, _⟩ := hF
  have s1 : ∀ p, (aS1 p (rexS reg rm w) (mapL f (opS f rm) ++ r)) = some ((p, (true, (iand .u8 (rexS reg rm w) 15, (f.2.1, opS f rm)))), r) := by
    intro p
    unfold aS1 mapL
    rw [r89, cond_true]
    rcases fm with e | e | e | e
    · have e56 := (fm1.resolve_left (by rw [e]; decide)).1
      have e58 := (fm1.resolve_left (by rw [e]; decide)).2
      rw [e]
      simp only [cond_true, List.cons_append, List.nil_append, byteP, aS2, show ieq 15 15 = true from rfl, aS3, e56, e58, cond_false, retP, ieq_iff.1 e]
    · have e1 : ieq f.2.1 1 = false := by rw [ieq_no, ieq_iff.1 e]; decide
      rw [e1, e]
      simp only [cond_true, cond_false, List.cons_append, List.nil_append, byteP, aS2, show ieq 15 15 = true from rfl, aS3, show ieq 56 56 = true from rfl, retP, ieq_iff.1 e]
    · have e1 : ieq f.2.1 1 = false := by rw [ieq_no, ieq_iff.1 e]; decide
      have e2 : ieq f.2.1 2 = false := by rw [ieq_no, ieq_iff.1 e]; decide
      rw [e1, e2, e]
      simp only [cond_true, cond_false, List.cons_append, List.nil_append, byteP, aS2, show ieq 15 15 = true from rfl, aS3, show ieq 58 56 = false from rfl, show ieq 58 58 = true from rfl, retP, ieq_iff.1 e]
    · have e1 : ieq f.2.1 1 = false := by rw [ieq_no, ieq_iff.1 e]; decide
      have e2 : ieq f.2.1 2 = false := by rw [ieq_no, ieq_iff.1 e]; decide
      have e3 : ieq f.2.1 3 = false := by rw [ieq_no, ieq_iff.1 e]; decide
      have e15 := fm0.resolve_left (by rw [e]; decide)
      rw [e1, e2, e3]
      simp only [cond_false, List.cons_append, List.nil_append, byteP, aS2, e15, retP, ieq_iff.1 e]
  unfold aheadS preL headS
  rcases fp with e | ⟨e, _⟩
  · have e0 : ine f.1 0 = false := by rw [ine_no, ieq_iff.1 e]
    rw [e0]
    simp only [cond_false, List.nil_append, List.cons_append, List.append_assoc, byteP, aS0, r102, r243, Bool.or_self]
    rw [s1 0, ieq_iff.1 e]
  · have e0 : ine f.1 0 = true := by rcases e with e | e <;> rw [ine_iff, ieq_iff.1 e] <;> decide
    have eo : (ieq f.1 102 || ieq f.1 243) = true := by rcases e with e | e <;> rw [e] <;> simp
    rw [e0]
    simp only [cond_true, List.nil_append, List.cons_append, List.append_assoc, byteP, aS0, eo]
    exact s1 f.1

/-! ### The form, operands, the number -/
theorem found_code {f : DForm} {reg rm : Nat} (w : Bool) (hf : f ∈ forms) (h2 : rm < 16) {d : Int} (hd : fDigit f = -1 ∨ fDigit f = d) : foundB (keyS (headS f reg rm w) d) = (f, true) := by
  have hF := form_ok hf h2
  simp only [formOk, Bool.and_eq_true] at hF
  obtain ⟨⟨⟨⟨⟨⟨⟨⟨⟨⟨⟨⟨⟨_, _⟩, fc⟩, _⟩, _⟩, _⟩, _⟩, _⟩, _⟩, _⟩, _⟩, _⟩, _⟩, _⟩ := hF
  refine found_of hf ?_
  simp only [fitsB, keyS, headS, Bool.and_eq_true, Bool.or_eq_true, ieq_iff]
  exact ⟨trivial, trivial, fc, hd⟩

/-- What is read of the operand's byte: the register's number. -/
def regNo (f : DForm) (reg rm : Int) (w : Bool) : Int := takeReg (iand .u8 (rexS reg rm w) 15) (modS (thirdS f reg) rm)

theorem take_code {f : DForm} {reg rm : Nat} (w : Bool) (hf : f ∈ forms) (h1 : reg < 16) (h2 : rm < 16) (r : List Int) :
    takeS (iand .u8 (rexS reg rm w) 15) (modS (thirdS f reg) rm :: r) = some ((regNo f reg rm w, fn60 rm), r) := by
  obtain ⟨t, ht, et, _⟩ := third_eq hf h1 h2
  have hM := mod_ok w h1 h2 ht
  simp only [modOk, Bool.and_eq_true] at hM
  rw [← et] at hM
  obtain ⟨⟨⟨⟨_, m6⟩, _⟩, ml⟩, _⟩ := hM
  have m6' := ieq_iff.1 m6
  simp only [takeS, byteP, m6, cond_true]
  rw [m6']
  have hw : widthS 3 = 0 := rfl
  rw [hw]
  unfold dispP bytesP
  simp only [Int.toNat_zero, Nat.zero_le, if_true, List.take_zero, List.drop_zero, List.length_nil, dispL, retP]
  rw [ieq_iff.1 ml]
  rfl

/-- The operands that are read. -/
def opndC (f : DForm) (reg rm : Int) (w : Bool) : DOperand × DOperand := cond (hasOp f) (regV f (regNo f reg rm w), rmV f (fn60 rm)) (zO, zO)

theorem one_code {f : DForm} {reg rm : Nat} (w : Bool) (hf : f ∈ forms) (h1 : reg < 16) (h2 : rm < 16) {tail : List Int} (hl : tail.length = 8) :
    oneP (codeL f reg rm w ++ tail) = cond (fMem f || (fMust f && !w)) none
      (some ((headS f reg rm w, (f, ((opndC f reg rm w).1, ((opndC f reg rm w).2, numS f (tail.take (fImm f).toNat))))), tail.drop (fImm f).toNat)) := by
  have hR := rex_ok w h1 h2
  have hF := form_ok hf h2
  obtain ⟨hk, hi⟩ := forms_fact f hf
  obtain ⟨t, ht, et, td1, td2⟩ := third_eq hf h1 h2
  simp only [rexOk, Bool.and_eq_true, Bool.not_eq_true', beq_iff_eq] at hR
  obtain ⟨⟨⟨⟨⟨⟨_, _⟩, _⟩, _⟩, rw8⟩, _⟩, _⟩ := hR
  simp only [formOk, Bool.and_eq_true, Bool.or_eq_true, Bool.not_eq_true', beq_iff_eq] at hF
  obtain ⟨⟨⟨⟨⟨⟨⟨⟨⟨⟨⟨⟨⟨_, _⟩, _⟩, _⟩, _⟩, _⟩, _⟩, fk⟩, _⟩, _⟩, fmem⟩, _⟩, _⟩, _⟩ := hF
  have hnum : ∀ {β : Type} (q : Int → Pz β), bindP (numP f) q tail = q (numS f (tail.take (fImm f).toNat)) (tail.drop (fImm f).toNat) := by
    intro β q
    unfold bindP numP bytesP
    rw [if_pos (by omega)]
    rfl
  have hmust : ieq (iand .u8 (headS f reg rm w).2.2.1 8) 0 = !w := rw8
  unfold oneP codeL
  rw [List.append_assoc, bindP, ahead_code w hf h1 h2]
  simp only
  unfold formP modL
  rw [← fk]
  cases hop : hasOp f with
  | true =>
    simp only [cond_true, List.cons_append, List.nil_append]
    have hM := mod_ok w h1 h2 ht
    simp only [modOk, Bool.and_eq_true] at hM
    rw [← et] at hM
    obtain ⟨⟨⟨⟨_, _⟩, m3⟩, _⟩, _⟩ := hM
    have hdig : digitB (modS (thirdS f reg) rm :: tail) = t := by rw [← et]; exact ieq_iff.1 m3
    rw [found_code w hf h2 (by
      by_cases e : fDigit f = -1
      · exact .inl e
      · exact .inr (by rw [hdig, td2 e]))]
    simp only [Bool.true_and, hmust]
    cases hm : (fMust f && !w) with
    | true => simp only [Bool.not_true, cond_false, Bool.or_true, cond_true]
    | false =>
      simp only [Bool.not_false, cond_true, Bool.or_false]
      unfold restP opndP opndC
      rw [hop, cond_true, cond_true]
      have htk := take_code w hf h1 h2 tail
      have hb : badOp (headS f reg rm w) f (regNo f reg rm w) (fn60 rm) = fMem f := by
        unfold badOp headS
        simp only [show ieq (fn60 (rm : Int)).1 1 = true from rfl, Bool.and_true, Bool.not_true, Bool.false_and, Bool.and_false, Bool.or_false]
      unfold bindP
      rw [show (headS f reg rm w).2.2.1 = iand .u8 (rexS reg rm w) 15 from rfl, htk]
      simp only [hb]
      cases hmem : fMem f with
      | true => rfl
      | false =>
        simp only [cond_false, retP]
        have := hnum fun n => retP (headS f reg rm w, (f, (regV f (regNo f reg rm w), (rmV f (fn60 rm), n))))
        unfold bindP retP at this
        exact this
  | false =>
    have hmem : fMem f = false := fmem.resolve_left (by rw [hop]; decide)
    have hdg := (forms_more f hf).1 hop
    simp only [cond_false, List.nil_append]
    rw [found_code w hf h2 (.inl hdg)]
    simp only [Bool.true_and, hmust, hmem, Bool.false_or]
    cases hm : (fMust f && !w) with
    | true => rfl
    | false =>
      simp only [Bool.not_false, cond_true, cond_false]
      unfold restP opndC
      rw [hop, cond_false]
      exact hnum fun n => retP (headS f reg rm w, (f, (zO, (zO, n))))
end
end Go.Eng.RD
end
section
/- DecodeForms: plain. -/
namespace Go.Eng.RD
open Go.Eng
set_option maxRecDepth 100000
set_option linter.unusedSectionVars false
noncomputable section

theorem pre63_ok : pre63 () := by
  unfold pre63 tree63; simp only [ok_need, ok_ret]; simp
theorem pre64_ok : pre64 () := by
  unfold pre64 tree64; simp only [ok_need, ok_ret]; simp
theorem pre65_ok : pre65 () := by
  unfold pre65 tree65; simp only [ok_need, ok_ret]; simp
theorem len63 : (fn63 ()).length = 51 := by rw [fn63_eq]; rfl
theorem len64 : (fn64 ()).length = 71 := by rw [fn64_eq]; rfl
theorem len65 : (fn65 ()).length = 9 := by rw [fn65_eq]; rfl
theorem pre33_ok (x) : pre33 x := by
  unfold pre33 tree33
  simp only [ok_need, ok_ret, ok_ite, pre63_ok, pre64_ok, pre65_ok, len63, len64, len65]
  simp [ilt]
theorem fn33_ok' (x) : fn33 x = forms := by
  cases x
  kernel_rfl
theorem forms_len : forms.length = 139 := rfl

theorem pre34_ok (x) : pre34 x := by
  unfold pre34 tree34; simp only [ok_ite, ok_need, ok_ret]; simp
theorem fn34_ok (f : DForm) : fn34 f = mapL f f.2.2.1 := by
  unfold fn34 tree34 mapL
  simp only [val_ite, val_need, val_ret]

/-- A rest, made to lie from 0 on. -/
theorem rest_mod (x : Int) {n : Nat} (h1 : 0 < n) (h2 : n ≤ 1000) : ∃ m : Nat, irem .i64 (iadd .i64 (irem .i64 x n) n) n = m ∧ m < n := by
  have hn : (0 : Int) < n := by omega
  have b1 : x.tmod n < n := Int.tmod_lt_of_pos x hn
  have b2 : -(n : Int) < x.tmod n := Int.lt_tmod_of_pos x hn
  have e : iadd .i64 (x.tmod n) n = x.tmod n + n := by rw [iadd_i64] <;> omega
  have e2 : irem .i64 (iadd .i64 (irem .i64 x n) n) n = (x.tmod n + n).tmod n := by
    unfold irem; rw [e]
  rw [e2]
  have p1 := Int.tmod_nonneg (n : Int) (show 0 ≤ x.tmod n + n by omega)
  have p2 := Int.tmod_lt_of_pos (x.tmod n + n) hn
  exact ⟨((x.tmod n + n).tmod n).toNat, by omega, by omega⟩

abbrev X11 : Type := Int × (Int × (Int × (Bool × List Int)))

/-- The opcode's bytes, as they are put together. -/
theorem plus_set {f : DForm} {rm : Nat} (hf : f ∈ forms) (h2 : rm < 16) (l : List Int) (hp : f.2.2.2.1 = true) :
    ((l ++ mapL f f.2.2.1).set (0 + ((((l.length + (mapL f f.2.2.1).length : Nat) : Int) - 1)).toNat) (iadd .u8 (rdc (.int .u8) (l ++ mapL f f.2.2.1) (0 + ((((l.length + (mapL f f.2.2.1).length : Nat) : Int) - 1)).toNat)) (iconv .u8 (iand .i64 rm 7)))) = l ++ mapL f (opS f rm) := by
  have hF := form_ok hf h2
  simp only [formOk, Bool.and_eq_true, Bool.or_eq_true, Bool.not_eq_true'] at hF
  obtain ⟨⟨⟨⟨⟨⟨_, fpl⟩, _⟩, _⟩, _⟩, _⟩, _⟩ := hF
  have hm := (fpl.resolve_left (by rw [hp]; decide)).1
  have hm0 := ieq_iff.1 hm
  have hml : ∀ o, mapL f o = [o] := fun o => by unfold mapL; rw [hm0]; rfl
  rw [hml, hml]
  have e : (0 + (((l.length + ([f.2.2.1] : List Int).length : Nat) : Int) - 1).toNat) = l.length := by simp
  rw [e]
  have e2 : rdc (.int .u8) (l ++ [f.2.2.1]) l.length = f.2.2.1 := by simp [rdc]
  rw [e2]
  unfold opS
  rw [hp, cond_true]
  simp

theorem mapL_len (f : DForm) (o : Int) : 1 ≤ (mapL f o).length ∧ (mapL f o).length ≤ 3 ∧ (mapL f o).length = (mapL f f.2.2.1).length := by
  unfold mapL
  cases ieq f.2.1 1 <;> cases ieq f.2.1 2 <;> cases ieq f.2.1 3 <;> simp

theorem code_byte {f : DForm} {reg rm : Nat} (w : Bool) (hf : f ∈ forms) (h1 : reg < 16) (h2 : rm < 16) : AllB (codeL f reg rm w) := by
  have hR := rex_ok w h1 h2
  have hF := form_ok hf h2
  obtain ⟨t, ht, et, _⟩ := third_eq hf h1 h2
  have hM := mod_ok w h1 h2 ht
  simp only [rexOk, Bool.and_eq_true] at hR
  obtain ⟨⟨⟨⟨⟨⟨rb, _⟩, _⟩, _⟩, _⟩, _⟩, _⟩ := hR
  simp only [formOk, Bool.and_eq_true, Bool.or_eq_true] at hF
  obtain ⟨⟨⟨⟨⟨⟨⟨⟨⟨⟨⟨⟨⟨ob, fp⟩, _⟩, _⟩, _⟩, _⟩, _⟩, _⟩, _⟩, _⟩, _⟩, _⟩, _⟩, _⟩ := hF
  simp only [modOk, Bool.and_eq_true] at hM
  obtain ⟨⟨⟨⟨mb, _⟩, _⟩, _⟩, _⟩ := hM
  rw [← et] at mb
  have b : ∀ {a : Int}, isBb a = true → isB a := fun h => by simpa [isBb, isB] using h
  refine AllB.app (AllB.app (AllB.app ?_ ?_) ?_) ?_
  · unfold preL
    rcases fp with e | ⟨_, pb⟩
    · have e0 : ine f.1 0 = false := by rw [ine_no, ieq_iff.1 e]
      rw [e0]; intro c hc; cases hc
    · intro c hc
      cases hi : ine f.1 0 with
      | true => rw [hi] at hc; simp only [cond_true, List.mem_singleton] at hc; rw [hc]; exact b pb
      | false => rw [hi] at hc; cases hc
  · intro c hc; rw [List.mem_singleton.1 hc]; exact b rb
  · have k : ∀ c ∈ mapL f (opS f rm), c = 15 ∨ c = 56 ∨ c = 58 ∨ c = opS f rm := by
      unfold mapL
      cases ieq f.2.1 1 <;> cases ieq f.2.1 2 <;> cases ieq f.2.1 3 <;> (intro c hc; simp at hc; omega)
    intro c hc
    rcases k c hc with rfl | rfl | rfl | rfl
    · exact ⟨by decide, by decide⟩
    · exact ⟨by decide, by decide⟩
    · exact ⟨by decide, by decide⟩
    · exact b ob
  · unfold modL
    cases (ile 1 (fKind f) && ile (fKind f) 5) with
    | true => intro c hc; rw [List.mem_singleton.1 hc]; exact b mb
    | false => intro c hc; cases hc

/-- The operands' numbers. -/
theorem opnd_facts {f : DForm} {reg rm : Nat} (w : Bool) (hf : f ∈ forms) (h1 : reg < 16) (h2 : rm < 16) (n : Int) :
    let up : Int := cond (fVec f) 16 0
    let P := placesS (fKind f) ((opndC f reg rm w).1, ((opndC f reg rm w).2, (plusO (headS f reg rm w), immO n)))
    (fKind f = 1 → P.1.2.1 = iadd .i64 rm up ∧ P.2.2.1 = iadd .i64 reg up) ∧ (fKind f = 2 → P.1.2.1 = iadd .i64 reg up ∧ P.2.2.1 = iadd .i64 rm up) ∧
    (fKind f = 3 ∨ fKind f = 4 ∨ fKind f = 5 ∨ fKind f = 6 ∨ fKind f = 7 → P.1.2.1 = rm ∧ P.1.1 = 1) ∧ (fKind f = 8 → P.1 = zO ∧ P.2.1 = 3) ∧ (fKind f = 0 → P = (zO, zO)) := by
  have hR := rex_ok w h1 h2
  have hF := form_ok hf h2
  obtain ⟨t, ht, et, td, _⟩ := third_eq hf h1 h2
  have hM := mod_ok w h1 h2 ht
  simp only [rexOk, Bool.and_eq_true] at hR
  obtain ⟨_, rplus⟩ := hR
  simp only [formOk, Bool.and_eq_true, Bool.or_eq_true, Bool.not_eq_true'] at hF
  obtain ⟨⟨⟨⟨⟨⟨_, fpl⟩, fdig⟩, _⟩, _⟩, fvec⟩, fk67⟩ := hF
  simp only [modOk, Bool.and_eq_true, Bool.or_eq_true, Bool.not_eq_true', beq_eq_false_iff_ne] at hM
  obtain ⟨_, mreg⟩ := hM
  have z : ∀ a : Nat, a < 16 → iadd .i64 (a : Int) 0 = (a : Int) := fun a ha => by rw [iadd_i64] <;> omega
  have hop : ∀ k : Int, fKind f = k → hasOp f = (ieq k 1 || (ieq k 2 || (ieq k 3 || (ieq k 4 || ieq k 5)))) := fun k e => by unfold hasOp; rw [e]
  have hreg : (fKind f = 1 ∨ fKind f = 2) → regNo f reg rm w = reg := by
    intro hk
    have hd : fDigit f = -1 := by
      have hh : hasOp f = true := by rcases hk with e | e <;> (rw [hop _ e]; rfl)
      rcases fdig with h | h
      · rw [hh] at h; cases h
      · simp only [ieq_iff] at h
        omega
    unfold regNo
    rw [et]
    have e := td hd
    subst e
    exact ieq_iff.1 (mreg.resolve_left (fun h => h rfl))
  have hv : (fKind f = 1 ∨ fKind f = 2) ∨ fVec f = false := by
    rcases fvec with h | h
    · exact .inr h
    · simp only [ieq_iff] at h; exact .inl h
  refine ⟨fun hk => ?_, fun hk => ?_, fun hk => ?_, fun hk => ?_, fun hk => ?_⟩
  · have e1 : placesS (fKind f) = fn195 := by rw [hk]; rfl
    rw [e1]
    unfold opndC
    rw [hop _ hk, hreg (.inl hk)]
    cases hvv : fVec f with
    | true => unfold regV rmV; rw [hvv]; exact ⟨rfl, rfl⟩
    | false =>
      unfold regV rmV; rw [hvv]
      exact ⟨(z rm h2).symm, (z reg h1).symm⟩
  · have e1 : placesS (fKind f) = fn196 := by rw [hk]; rfl
    rw [e1]
    unfold opndC
    rw [hop _ hk, hreg (.inr hk)]
    cases hvv : fVec f with
    | true => unfold regV rmV; rw [hvv]; exact ⟨rfl, rfl⟩
    | false =>
      unfold regV rmV; rw [hvv]
      exact ⟨(z reg h1).symm, (z rm h2).symm⟩
  · have hvf : fVec f = false := hv.resolve_left (by omega)
    have h67 : (fKind f = 6 ∨ fKind f = 7) → plusO (headS f reg rm w) = fn60 rm := by
      intro hk
      have hp : f.2.2.2.1 = true := by
        rcases fk67 with h | h
        · simp only [Bool.or_eq_false_iff, ieq_no] at h; omega
        · exact h
      have ho := (fpl.resolve_left (by rw [hp]; decide)).2
      obtain ⟨o, ho1, ho2⟩ := List.any_eq_true.1 ho
      have hr := ieq_iff.1 (List.all_eq_true.1 rplus o ho1)
      rw [← ieq_iff.1 ho2] at hr
      unfold plusO headS opS
      rw [hp, cond_true]
      simp only
      rw [hr]
    rcases hk with hk | hk | hk | hk | hk
    · have e1 : placesS (fKind f) = fn197 := by rw [hk]; rfl
      rw [e1]; unfold opndC rmV; rw [hop _ hk, hvf]; exact ⟨rfl, rfl⟩
    · have e1 : placesS (fKind f) = fn198 := by rw [hk]; rfl
      rw [e1]; unfold opndC rmV; rw [hop _ hk, hvf]; exact ⟨rfl, rfl⟩
    · have e1 : placesS (fKind f) = fn199 := by rw [hk]; rfl
      rw [e1]; unfold opndC rmV; rw [hop _ hk, hvf]; exact ⟨rfl, rfl⟩
    · have e1 : placesS (fKind f) = fn200 := by rw [hk]; rfl
      rw [e1, h67 (.inl hk)]; exact ⟨rfl, rfl⟩
    · have e1 : placesS (fKind f) = fn201 := by rw [hk]; rfl
      rw [e1, h67 (.inr hk)]; exact ⟨rfl, rfl⟩
  · have e1 : placesS (fKind f) = fn202 := by rw [hk]; rfl
    rw [e1]; exact ⟨rfl, rfl⟩
  · have e1 : placesS (fKind f) = fn194 := by rw [hk]; rfl
    rw [e1]; rfl
end
end Go.Eng.RD
end
section
/- DecodeForms: plain, its walk's ends. -/
namespace Go.Eng.RD
open Go.Eng
set_option maxRecDepth 100000
set_option linter.unusedSectionVars false
noncomputable section

theorem wakesE : pre26 () ∧ (fn26 () = true) := wakes_ok ()
theorem eqO {a b : DOperand} (h : a = b) : eqD COperand a b = true := h ▸ eqD_self (c := COperand) rfl a
theorem eqOz : eqD COperand zO (0, (0, (0, (0, (0, (0, (false, 0))))))) = true := eqO rfl

section
variable {x : X11} {f : DForm} {reg rm : Nat} (hf : f ∈ forms) (h1 : reg < 16) (h2 : rm < 16)
include hf h1 h2

/-- The instruction that is told. -/
def insnC (len : Int) (f : DForm) (reg rm : Int) (w : Bool) (tail : List Int) : DInsn :=
  mkI len (headS f reg rm w, (f, ((opndC f reg rm w).1, ((opndC f reg rm w).2, numS f (tail.take (fImm f).toNat)))))

theorem f11_h9 (len : Int) (w : Bool) (tail : List Int) : Ends (step11 x) true (step11 x (.h9 reg rm (cond (fVec f) 16 0) f (insnC len f reg rm w tail))) := by
  obtain ⟨hk, _⟩ := forms_fact f hf
  obtain ⟨k1, k2, k3, k8, k0⟩ := opnd_facts w hf h1 h2 (numS f (tail.take (fImm f).toNat))
  have hw := wakesE
  have eA : (insnC len f reg rm w tail).2.2.2.1 = (placesS (fKind f) ((opndC f reg rm w).1, ((opndC f reg rm w).2, (plusO (headS f reg rm w), immO (numS f (tail.take (fImm f).toNat)))))).1 := rfl
  have eB : (insnC len f reg rm w tail).2.2.2.2.1 = (placesS (fKind f) ((opndC f reg rm w).1, ((opndC f reg rm w).2, (plusO (headS f reg rm w), immO (numS f (tail.take (fImm f).toNat)))))).2 := rfl
  generalize placesS (fKind f) ((opndC f reg rm w).1, ((opndC f reg rm w).2, (plusO (headS f reg rm w), immO (numS f (tail.take (fImm f).toNat))))) = P at k1 k2 k3 k8 k0 eA eB
  generalize insnC len f reg rm w tail = I at eA eB
  simp only [step11]
  simp only [eA, eB]
  have mid : fKind f = 3 ∨ fKind f = 4 ∨ fKind f = 5 ∨ fKind f = 6 ∨ fKind f = 7 → ((ieq P.1.2.1 rm == true) = true ∧ (ieq P.1.1 1 == true) = true) := fun h => by
    obtain ⟨a, b⟩ := k3 h
    rw [a, b, ieq_iff.2 rfl]; exact ⟨rfl, rfl⟩
  have mid' : ∀ h : fKind f = 3 ∨ fKind f = 4 ∨ fKind f = 5 ∨ fKind f = 6 ∨ fKind f = 7, Ends (step11 x) true (.ite (ieq P.1.2.1 rm == true) (.ite (ieq P.1.1 1 == true) (.need (pre26 ()) (.ret (.inr (fn26 ())))) (.ret (.inr false))) (.ret (.inr false))) := fun h => by
    obtain ⟨a, b⟩ := mid h
    rw [a, b]
    simp only [ends_ite, ends_need, ends_ret]
    exact ⟨fun _ => ⟨fun _ => hw, (fun e => by cases e)⟩, (fun e => by cases e)⟩
  have hcases : fKind f = 0 ∨ fKind f = 1 ∨ fKind f = 2 ∨ fKind f = 3 ∨ fKind f = 4 ∨ fKind f = 5 ∨ fKind f = 6 ∨ fKind f = 7 ∨ fKind f = 8 := by omega
  unfold fKind at hcases k1 k2 k3 k8 k0 mid'
  rw [ends_ite]
  refine ⟨fun e => ?_, fun e1 => ?_⟩
  · obtain ⟨a, b⟩ := k1 (ieq_iff.1 e)
    rw [a, b, ieq_iff.2 rfl, ieq_iff.2 rfl]
    simp only [ends_ite, ends_need, ends_ret]
    exact ⟨fun _ => ⟨fun _ => hw, (fun e => by cases e)⟩, (fun e => by cases e)⟩
  rw [ends_ite]
  refine ⟨fun e => ?_, fun e2 => ?_⟩
  · obtain ⟨a, b⟩ := k2 (ieq_iff.1 e)
    rw [a, b, ieq_iff.2 rfl, ieq_iff.2 rfl]
    simp only [ends_ite, ends_need, ends_ret]
    exact ⟨fun _ => ⟨fun _ => hw, (fun e => by cases e)⟩, (fun e => by cases e)⟩
  rw [ends_ite]
  refine ⟨fun e => mid' (.inl (ieq_iff.1 e)), fun e3 => ?_⟩
  rw [ends_ite]
  refine ⟨fun e => mid' (.inr (.inl (ieq_iff.1 e))), fun e4 => ?_⟩
  rw [ends_ite]
  refine ⟨fun e => mid' (.inr (.inr (.inl (ieq_iff.1 e)))), fun e5 => ?_⟩
  rw [ends_ite]
  refine ⟨fun e => mid' (.inr (.inr (.inr (.inl (ieq_iff.1 e))))), fun e6 => ?_⟩
  rw [ends_ite]
  refine ⟨fun e => mid' (.inr (.inr (.inr (.inr (ieq_iff.1 e))))), fun e7 => ?_⟩
  rw [ends_ite]
  refine ⟨fun e => ?_, fun e8 => ?_⟩
  · obtain ⟨a, b⟩ := k8 (ieq_iff.1 e)
    rw [a, b, eqOz]
    simp only [ends_ite, ends_need, ends_ret]
    exact ⟨fun _ => ⟨fun _ => hw, (fun e => by cases e)⟩, (fun e => by cases e)⟩
  · have hP := k0 (by
      rw [ieq_no] at e1 e2 e3 e4 e5 e6 e7 e8
      omega)
    rw [ends_jump]
    simp only [step11]
    simp only [eA, eB, hP, ends_ite, ends_need, ends_ret]
    exact ⟨fun _ => ⟨fun _ => hw, (fun e => by cases e)⟩, (fun e => by cases e)⟩

theorem wide_code (w : Bool) : wideS (headS f reg rm w) f = cond (ieq (fWide f) 0) (cond w 8 4) (fWide f) := by
  have hR := rex_ok w h1 h2
  simp only [rexOk, Bool.and_eq_true] at hR
  obtain ⟨⟨_, r8⟩, _⟩ := hR
  unfold wideS headS
  simp only
  rw [ieq_iff.1 r8]

theorem f11_h7 (len : Int) (tail : List Int) : Ends (step11 x) true (step11 x (.h7 reg rm len 0 f (insnC len f reg rm x.2.2.2.1 tail))) := by
  have h9 := f11_h9 (x := x) hf h1 h2 len x.2.2.2.1 tail
  have h8 : Ends (step11 x) true (step11 x (.h8 reg rm f (insnC len f reg rm x.2.2.2.1 tail))) := by
    simp only [step11]
    simp only [ends_ite, ends_jump]
    unfold fVec at h9
    refine ⟨fun e => ?_, fun e => ?_⟩ <;> (rw [e] at h9; exact h9)
  have hF := form_ok hf h2
  simp only [formOk, Bool.and_eq_true] at hF
  obtain ⟨⟨⟨_, hwd⟩, _⟩, _⟩ := hF
  have eD : (insnC len f reg rm x.2.2.2.1 tail).1 = fDo f := rfl
  have eC : (insnC len f reg rm x.2.2.2.1 tail).2.1 = fCond f := rfl
  have eW : (insnC len f reg rm x.2.2.2.1 tail).2.2.1 = wideS (headS f reg rm x.2.2.2.1) f := rfl
  have eL : (insnC len f reg rm x.2.2.2.1 tail).2.2.2.2.2.2 = len := rfl
  rw [wide_code hf h1 h2] at eW
  simp only [step11]
  simp only [eD, eC, eW, eL]
  simp only [ends_ite, ends_ret, ends_jump]
  have n1 : (ine (fDo f) f.2.2.2.2.2.1 == false) = true := by rw [show ine (fDo f) f.2.2.2.2.2.1 = false from ine_no.2 rfl]; rfl
  have n2 : (ine (fCond f) f.2.2.2.2.2.2.1 == false) = true := by rw [show ine (fCond f) f.2.2.2.2.2.2.1 = false from ine_no.2 rfl]; rfl
  have n3 : (ine len len == false) = true := by rw [show ine len len = false from ine_no.2 rfl]; rfl
  rw [n1, n2, n3]
  refine ⟨fun _ => ⟨fun _ => ⟨fun _ => ⟨fun _ => ⟨fun hpos => ?_, fun hpos => ?_⟩, (fun e => by cases e)⟩, (fun e => by cases e)⟩, (fun e => by cases e)⟩, (fun e => by cases e)⟩
  · have hpos : ilt 0 (fWide f) = true := by simpa using hpos
    have h0 : ieq (fWide f) 0 = false := by rw [ilt_iff] at hpos; rw [ieq_no]; omega
    rw [h0, cond_false]
    have n4 : (ine (fWide f) f.2.2.2.2.2.2.2.1 == false) = true := by rw [show ine (fWide f) f.2.2.2.2.2.2.2.1 = false from ine_no.2 rfl]; rfl
    rw [n4]
    exact ⟨fun _ => ⟨(fun e => by cases e), fun _ => h8⟩, (fun e => by cases e)⟩
  · have hpos : ilt 0 (fWide f) = false := by simpa using hpos
    have h0 : ieq (fWide f) 0 = true := by rw [ilt_no] at hpos; rw [ile_iff] at hwd; rw [ieq_iff]; omega
    rw [h0, cond_true]
    refine ⟨fun _ => ?_, (fun e => by cases e)⟩
    have hw0 : ∀ w : Bool, (!(ieq (cond w 8 4) 8 == w)) = false := by intro w; cases w <;> rfl
    rw [hw0]
    exact ⟨(fun e => by cases e), fun _ => h8⟩

variable (ht : x.2.2.2.2.length = 8) (hB : AllB x.2.2.2.2)
include ht hB

theorem code_len (w : Bool) : (codeL f reg rm w).length ≤ 8 := by
  have := mapL_len f (opS f rm)
  unfold codeL preL modL
  cases ine f.1 0 <;> cases (ile 1 (fKind f) && ile (fKind f) 5) <;> (simp; omega)

theorem f11_h6 : Ends (step11 x) true (step11 x (.h6 reg rm (codeL f reg rm x.2.2.2.1).length f (codeL f reg rm x.2.2.2.1).length (codeL f reg rm x.2.2.2.1))) := by
  have hcl := code_len hf h1 h2 ht hB x.2.2.2.1
  have hCB := code_byte x.2.2.2.1 hf h1 h2
  have h7 := fun len => f11_h7 (x := x) hf h1 h2 len x.2.2.2.2
  obtain ⟨_, hi⟩ := forms_fact f hf
  have hone := one_code x.2.2.2.1 hf h1 h2 ht
  have hw := wakesE
  have t8 : x.2.2.2.2.take 8 = x.2.2.2.2 := List.take_of_length_le (by omega)
  have tl : (codeL f reg rm x.2.2.2.1 ++ x.2.2.2.2).take ((codeL f reg rm x.2.2.2.1).length + x.2.2.2.2.length) = codeL f reg rm x.2.2.2.1 ++ x.2.2.2.2 := List.take_of_length_le (by rw [List.length_append]; omega)
  have hL : (codeL f reg rm x.2.2.2.1 ++ x.2.2.2.2).length ≤ 1000 := by rw [List.length_append]; omega
  have hAB := hCB.app hB
  simp only [step11]
  simp only [t8, tl, fn27_ok hL hAB, ends_need]
  refine ⟨by omega, trivial, by omega, by omega, by omega, pre27_ok hL hAB, ?_⟩
  unfold oneS
  rw [hone]
  unfold fMem fMust
  simp only [ends_ite, ends_need, ends_ret, ends_jump]
  have good : fMem f = false → (fMust f && !x.2.2.2.1) = false → oneR (codeL f reg rm x.2.2.2.1 ++ x.2.2.2.2) (cond (fMem f || (fMust f && !x.2.2.2.1)) none (some ((headS f reg rm x.2.2.2.1, (f, ((opndC f reg rm x.2.2.2.1).1, ((opndC f reg rm x.2.2.2.1).2, numS f (x.2.2.2.2.take (fImm f).toNat))))), x.2.2.2.2.drop (fImm f).toNat))) =
      (insnC (iadd .i64 (codeL f reg rm x.2.2.2.1).length (fImm f)) f reg rm x.2.2.2.1 x.2.2.2.2, 0) := by
    intro e1 e2
    rw [e1, e2]
    simp only [Bool.or_self, cond_false, oneR, insnC]
    congr 2
    rw [len_i64 hL (by rw [List.length_drop]; omega), iadd_i64 (by omega) (by omega), List.length_append, List.length_drop]
    omega
  unfold fMem fMust at good
  refine ⟨fun em => ?_, fun em => ?_⟩
  · have em : f.2.2.2.2.2.2.2.2.2.2.2.2.2 = false := by simpa using em
    refine ⟨fun eu => ⟨fun ew => ?_, fun ew => ?_⟩, fun eu => ?_⟩
    · have eu : f.2.2.2.2.2.2.2.2.2.2.1 = true := by simpa using eu
      rw [em, eu, ew]
      exact ⟨fun _ => hw, fun e => by cases e⟩
    · have eu' : f.2.2.2.2.2.2.2.2.2.2.1 = true := by simpa using eu
      rw [good em (by rw [eu', ew]; rfl)]
      exact h7 _
    · have eu' : f.2.2.2.2.2.2.2.2.2.2.1 = false := by simpa using eu
      rw [good em (by rw [eu']; rfl)]
      exact h7 _
  · have em : f.2.2.2.2.2.2.2.2.2.2.2.2.2 = true := by simpa using em
    rw [em]
    exact ⟨fun _ => hw, fun e => by cases e⟩

theorem f11_h4 {L : List Int} (hL : L = preL f ++ [rexS reg rm x.2.2.2.1] ++ mapL f (opS f rm)) : Ends (step11 x) true (step11 x (.h4 reg rm L.length f L.length L)) := by
  have h6 := f11_h6 (x := x) hf h1 h2 ht hB
  have hcl := code_len hf h1 h2 ht hB x.2.2.2.1
  have h5 : Ends (step11 x) true (step11 x (.h5 reg rm L.length (thirdS f reg) f L.length L)) := by
    have hc : codeL f reg rm x.2.2.2.1 = L ++ modL f reg rm := by rw [hL]; rfl
    rw [hc] at h6 hcl
    rw [List.length_append] at hcl
    simp only [step11]
    simp only [ends_ite, ends_need, ends_jump]
    unfold modL at h6
    refine ⟨fun e1 => ⟨fun e5 => ?_, fun e5 => ?_⟩, fun e1 => ?_⟩
    · have e1 : ile 1 (fKind f) = true := by simpa using e1
      rw [e1, e5] at h6
      simp only [Bool.and_self, cond_true, List.length_append, List.length_singleton] at h6
      exact ⟨by omega, by omega, by omega, trivial, by omega, by omega, h6⟩
    · rw [e5] at h6
      simp only [Bool.and_false, cond_false, List.append_nil] at h6
      exact h6
    · have e1 : ile 1 (fKind f) = false := by simpa using e1
      rw [e1] at h6
      simp only [Bool.false_and, cond_false, List.append_nil] at h6
      exact h6
  simp only [step11]
  simp only [ends_ite, ends_jump]
  unfold thirdS fDigit at h5
  refine ⟨fun e => ?_, fun e => ?_⟩ <;> (rw [e] at h5; exact h5)

/-- The opcode's bytes behind those ahead. -/
theorem f11_h23 {l : List Int} (hl : l = preL f ++ [rexS reg rm x.2.2.2.1]) :
    (Ends (step11 x) true (.ite f.2.2.2.1
      (.need ((0 : Int) ≤ isub .i64 ((l.length + (fn34 f).length : Nat) : Int) 1) <| .need (isub .i64 ((l.length + (fn34 f).length : Nat) : Int) 1 < ((l.length + (fn34 f).length : Nat) : Int)) <|
        .need (0 + (isub .i64 ((l.length + (fn34 f).length : Nat) : Int) 1).toNat < l.length + (fn34 f).length) <| .need ((0 : Int) ≤ isub .i64 ((l.length + (fn34 f).length : Nat) : Int) 1) <|
        .need (isub .i64 ((l.length + (fn34 f).length : Nat) : Int) 1 < ((l.length + (fn34 f).length : Nat) : Int)) <| .need (0 + (isub .i64 ((l.length + (fn34 f).length : Nat) : Int) 1).toNat < l.length + (fn34 f).length) <|
        .ret (.inl (.h4 reg rm (l.length + (fn34 f).length) f (l.length + (fn34 f).length) ((l ++ fn34 f).set (0 + (isub .i64 ((l.length + (fn34 f).length : Nat) : Int) 1).toNat)
          (iadd .u8 (rdc (.int .u8) (l ++ fn34 f) (0 + (isub .i64 ((l.length + (fn34 f).length : Nat) : Int) 1).toNat)) (iconv .u8 (iand .i64 rm 7)))))))
      (.ret (.inl (.h4 reg rm (l.length + (fn34 f).length) f (l.length + (fn34 f).length) (l ++ fn34 f)))))) := by
  have h4 := f11_h4 (x := x) hf h1 h2 ht hB (L := l ++ mapL f (opS f rm)) (by rw [hl])
  have hml := mapL_len f (opS f rm)
  have hll : l.length ≤ 2 := by
    rw [hl]; unfold preL
    cases ine f.1 0 <;> simp
  rw [fn34_ok]
  have e : isub .i64 ((l.length + (mapL f f.2.2.1).length : Nat) : Int) 1 = ((l.length + (mapL f f.2.2.1).length : Nat) : Int) - 1 := by rw [isub_i64] <;> omega
  rw [e]
  rw [List.length_append, hml.2.2] at h4
  simp only [ends_ite, ends_need, ends_jump]
  refine ⟨fun hp => ⟨by omega, by omega, by omega, by omega, by omega, by omega, ?_⟩, fun hp => ?_⟩
  · rw [plus_set hf h2 l hp]; exact h4
  · have : opS f rm = f.2.2.1 := by unfold opS; rw [hp]; rfl
    rw [this] at h4
    exact h4
end
end
end Go.Eng.RD
end
section
/- DecodeForms: plain, the whole. -/
namespace Go.Eng.RD
open Go.Eng
set_option maxRecDepth 100000
set_option linter.unusedSectionVars false
noncomputable section

theorem decodeForms (x : X11) (wf : TC.wf (.st (.int .i64) (.st (.int .i64) (.st (.int .i64) (.st .bool (.st1 (.arr 8 (.int .u8))))))) x) : pre11 x ∧ fn11 x = true := by
  have ht : x.2.2.2.2.length = 8 := wf.2.2.2.2.1
  have hB : AllB x.2.2.2.2 := allB_wf wf.2.2.2.2.2
  have h : Ends (step11 x) true (tree11 x) := by
    obtain ⟨at_, e0, hat⟩ := rest_mod x.1 (n := forms.length) (by rw [forms_len]; omega) (by rw [forms_len]; omega)
    obtain ⟨reg, e1, h1⟩ := rest_mod x.2.1 (n := 16) (by omega) (by omega)
    obtain ⟨rm, e2, h2⟩ := rest_mod x.2.2.1 (n := 16) (by omega) (by omega)
    have e1 : irem .i64 (iadd .i64 (irem .i64 x.2.1 16) 16) 16 = (reg : Int) := e1
    have e2 : irem .i64 (iadd .i64 (irem .i64 x.2.2.1 16) 16) 16 = (rm : Int) := e2
    have hf : forms[at_] ∈ forms := List.getElem_mem hat
    have e3 : rdc CForm forms at_ = forms[at_] := rdc_form forms at_ hat
    unfold tree11
    simp only [fn33_ok', e0, e1, e2, e3, Int.toNat_natCast, ends_need, ends_ite, ends_jump]
    generalize forms[at_] = f at hf
    have g0 : ((forms.length : Nat) : Int) ≠ 0 := by rw [forms_len]; decide
    have h23 := fun l hl => f11_h23 (x := x) hf h1 h2 ht hB (l := l) hl
    have h3 : ∀ hp : ine f.1 0 = false, Ends (step11 x) true (step11 x (.h3 reg rm (rexS reg rm x.2.2.2.1) f)) := fun hp => by
      have h23 := h23 [rexS reg rm x.2.2.2.1] (by unfold preL; rw [hp]; rfl)
      have hml := mapL_len f f.2.2.1
      have hfl : (fn34 f).length = (mapL f f.2.2.1).length := by rw [fn34_ok]
      simp only [List.length_singleton, ends_ite, ends_need, ends_jump] at h23
      simp only [step11]
      simp only [ends_both, ends_need, ends_ite, ends_jump]
      have g1 : (1 + (fn34 f).length) * 1 ≤ 2 ^ 40 := by rw [hfl]; omega
      have g2 : 1 + (fn34 f).length ≤ 2 ^ 40 := by rw [hfl]; omega
      refine ⟨⟨by omega, ⟨by omega, by omega, by omega, pre34_ok _, trivial, g1, g2, h23⟩, by omega, by omega, by omega, pre34_ok _, trivial, g1, g2, h23⟩, by omega, by omega, by omega, by omega, pre34_ok _, trivial, g1, g2, h23⟩
    have h2' : ∀ hp : ine f.1 0 = true, Ends (step11 x) true (step11 x (.h2 reg rm (rexS reg rm x.2.2.2.1) f [f.1])) := fun hp => by
      have h23 := h23 ([f.1] ++ [rexS reg rm x.2.2.2.1]) (by unfold preL; rw [hp]; rfl)
      have hml := mapL_len f f.2.2.1
      have hfl : (fn34 f).length = (mapL f f.2.2.1).length := by rw [fn34_ok]
      simp only [List.length_append, List.length_singleton, ends_ite, ends_need, ends_jump] at h23
      simp only [step11]
      simp only [ends_both, ends_need, ends_ite, ends_jump]
      have g1 : (2 + (fn34 f).length) * 1 ≤ 2 ^ 40 := by rw [hfl]; omega
      have g2 : 2 + (fn34 f).length ≤ 2 ^ 40 := by rw [hfl]; omega
      refine ⟨⟨by omega, ⟨by omega, trivial, by omega, by omega, pre34_ok _, trivial, g1, g2, h23⟩, by omega, trivial, by omega, by omega, pre34_ok _, trivial, g1, g2, h23⟩, by omega, by omega, trivial, by omega, by omega, pre34_ok _, trivial, g1, g2, h23⟩
    refine ⟨pre33_ok _, g0, g0, by omega, by omega, by omega, by omega, by omega, by omega, fun hp => ⟨by omega, by omega, by omega, by omega, ?_⟩, fun hp => ?_⟩
    · have h2' := h2' hp
      simp only [step11]
      simp only [ends_need, ends_ite, ends_jump]
      unfold rexS rexN at h2'
      refine ⟨by omega, by omega, by omega, fun e => ?_, fun e => ?_⟩ <;> (rw [e] at h2'; exact h2')
    · have h3 := h3 hp
      simp only [step11]
      simp only [ends_need, ends_ite, ends_jump]
      unfold rexS rexN at h3
      refine ⟨by omega, by omega, by omega, fun e => ?_, fun e => ?_⟩ <;> (rw [e] at h3; exact h3)
  exact ⟨⟨_, h⟩, endVal_eq h⟩
end
end Go.Eng.RD
end
