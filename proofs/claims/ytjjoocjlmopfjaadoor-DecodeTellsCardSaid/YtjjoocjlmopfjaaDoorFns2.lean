/- A part of the proof that the laws of this seat hold. Conditions: none beyond the row. -/
import Derived.Test.YtjjoocjlmopfjaaDoorFns1
section
/- Functions of this program, written out. -/
namespace Go.Eng.RD
open Go.Proofs Go.Eng
set_option maxRecDepth 100000

/-! ### sundial/decode.One -/
inductive J27 where
  | h0 (v23 : (List Int)) (v25 : Int)
  | h1 (v23 : (List Int)) (v25 : Int) (v26 : Bool) (v27 : Int)
  | h2 (v23 : (List Int)) (v25 : Int) (v26 : Bool) (v27 : Int) (v28 : Int)
  | h3 (v22 : Dreader) (v29 : DForm) (v43 : DOperand) (v51 : DOperand) (v59 : Int)
  | h4 (v0 : Int) (v24 : (List Int)) (v26 : Int) (v27 : Bool) (v28 : Int) (v29 : Int) (v30 : Int)
  | h5 (v22 : Dreader) (v29 : DForm) (v43 : DOperand) (v51 : DOperand) (v59 : Int)
  | h6 (v23 : Dreader) (v30 : DForm)
  | h7 (v23 : Dreader) (v30 : DForm) (v61 : DForm)
  | h8 (v0 : Int) (v1 : Int) (v2 : Int) (v20 : Int) (v21 : Dreader) (v28 : DForm) (v42 : DOperand) (v50 : DOperand) (v58 : Int)
  | h9 (v0 : Int) (v1 : Int) (v25 : Dreader) (v32 : DForm) (v63 : DForm) (v85 : DOperand)
  | h10 (v23 : Dreader) (v30 : DForm) (v61 : DForm)
  | h11 (v0 : Int) (v1 : Int) (v2 : Int) (v19 : Int) (v20 : Int) (v21 : Dreader) (v28 : DForm) (v42 : DOperand) (v50 : DOperand) (v58 : Int)
  | h12 (v23 : Dreader) (v30 : DForm) (v61 : DOperand) (v69 : DOperand)
  | h13 (v0 : Int) (v24 : Dreader) (v31 : DForm) (v62 : DForm)
  | h14 (v0 : Int) (v1 : Int) (v2 : Int) (v19 : Int) (v20 : Int) (v21 : DForm) (v35 : DOperand) (v43 : DOperand) (v51 : Int) (v52 : DOperand)
  | h15 (v23 : Dreader) (v30 : DForm) (v44 : DOperand) (v52 : DOperand) (v61 : DForm)
  | h16 (v0 : DInsn)
  | h17 (v23 : Dreader) (v30 : DForm) (v44 : DOperand) (v52 : DOperand) (v61 : DForm)
  | h18 (v0 : Int) (v24 : Dreader) (v31 : DForm) (v45 : DOperand) (v53 : DOperand) (v62 : DForm)
noncomputable def tree27 (x : (List Int)) : Tr (J27 ⊕ (DInsn × Int)) :=
  .need ((0 : Int) ≤ 0) <|
  .need ((0 : Int) < 4) <|
  .need ((0 : Int) ≤ 0) <|
  .need ((0 : Int) < 4) <|
  .need ((0 : Nat) < 2) <|
  .need ((1 : Nat) < 2) <|
  .ite ((ieq (x.length : Int) 0) == false) (
    .need ((0 : Int) ≤ 0) <|
    .need (0 < (x.length : Int)) <|
    .need ((0 : Int) ≤ 0) <|
    .need (0 < (2 : Int)) <|
    .need ((0 : Nat) < 2) <|
    let y0 : Int := (rdc (.int .u8) x 0)
    .ite (ieq y0 102) (
      .need ((0 : Int) ≤ 0) <|
      .need (0 < (x.length : Int)) <|
      .need ((0 : Int) ≤ 1) <|
      .need ((1 : Nat) ≤ x.length) <|
      let y1 : (List Int) := (x.drop 1)
      .ret (.inl (.h0 y1 y0))) (
      .need ((0 : Int) ≤ 1) <|
      .need (1 < (2 : Int)) <|
      .need ((1 : Nat) < 2) <|
      .ite (ieq y0 243) (
        .need ((0 : Int) ≤ 0) <|
        .need (0 < (x.length : Int)) <|
        .need ((0 : Int) ≤ 1) <|
        .need ((1 : Nat) ≤ x.length) <|
        let y2 : (List Int) := (x.drop 1)
        .ret (.inl (.h0 y2 y0))) (
        .ret (.inl (.h0 x 0))))) (
    .ret (.inl (.h0 x 0)))
noncomputable def step27 (x : (List Int)) : J27 → Tr (J27 ⊕ (DInsn × Int))
  | .h0 v23 v25 =>
    .ite ((ieq (v23.length : Int) 0) == false) (
      .need ((0 : Int) ≤ 0) <|
      .need (0 < (v23.length : Int)) <|
      let y0 : Int := (rdc (.int .u8) v23 0)
      .need (pre89 y0) <|
      .ite (!(fn89 y0)) (
        .ret (.inl (.h1 v23 v25 false 0))) (
        .need ((0 : Int) ≤ 0) <|
        .need (0 < (v23.length : Int)) <|
        .need ((0 : Int) ≤ 1) <|
        .need ((1 : Nat) ≤ v23.length) <|
        .ret (.inl (.h1 (v23.drop 1) v25 true (iand .u8 y0 15))))) (
      .ret (.inl (.h1 v23 v25 false 0)))
  | .h1 v23 v25 v26 v27 =>
    .need ((0 : Nat) < 1) <|
    .ite ((ieq (v23.length : Int) 0) == false) (
      .need ((0 : Int) ≤ 0) <|
      .need (0 < (v23.length : Int)) <|
      .need ((0 : Int) ≤ 0) <|
      .need (0 < (1 : Int)) <|
      .need ((0 : Nat) < 1) <|
      .ite (ieq (rdc (.int .u8) v23 0) 15) (
        .need ((0 : Int) ≤ 0) <|
        .need (0 < (v23.length : Int)) <|
        .need ((0 : Int) ≤ 1) <|
        .need ((1 : Nat) ≤ v23.length) <|
        .need ((0 : Nat) < 2) <|
        .need ((1 : Nat) < 2) <|
        let y0 : (List Int) := (v23.drop 1)
        .ite ((ieq (y0.length : Int) 0) == false) (
          .need ((0 : Int) ≤ 0) <|
          .need (0 < (y0.length : Int)) <|
          .need ((0 : Int) ≤ 0) <|
          .need (0 < (2 : Int)) <|
          .need ((0 : Nat) < 2) <|
          let y1 : Int := (rdc (.int .u8) y0 0)
          let y2 : Bool := (ieq y1 56)
          .ite y2 (
            .need ((0 : Int) ≤ 0) <|
            .need (0 < (y0.length : Int)) <|
            .need ((0 : Int) ≤ 1) <|
            .need ((1 : Nat) ≤ y0.length) <|
            .ite y2 (
              let y3 : (List Int) := (y0.drop 1)
              .ret (.inl (.h2 y3 v25 v26 v27 2))) (
              let y4 : Bool := (ieq y1 58)
              .ite y4 (
                let y5 : (List Int) := (y0.drop 1)
                .ret (.inl (.h2 y5 v25 v26 v27 3))) (
                let y6 : (List Int) := (y0.drop 1)
                .ret (.inl (.h2 y6 v25 v26 v27 1))))) (
            .need ((0 : Int) ≤ 1) <|
            .need (1 < (2 : Int)) <|
            .need ((1 : Nat) < 2) <|
            let y7 : Bool := (ieq y1 58)
            .ite y7 (
              .need ((0 : Int) ≤ 0) <|
              .need (0 < (y0.length : Int)) <|
              .need ((0 : Int) ≤ 1) <|
              .need ((1 : Nat) ≤ y0.length) <|
              .ite y2 (
                let y8 : (List Int) := (y0.drop 1)
                .ret (.inl (.h2 y8 v25 v26 v27 2))) (
                .ite y7 (
                  let y9 : (List Int) := (y0.drop 1)
                  .ret (.inl (.h2 y9 v25 v26 v27 3))) (
                  let y10 : (List Int) := (y0.drop 1)
                  .ret (.inl (.h2 y10 v25 v26 v27 1))))) (
              .ret (.inl (.h2 y0 v25 v26 v27 1))))) (
          .ret (.inl (.h2 y0 v25 v26 v27 1)))) (
        .ret (.inl (.h2 v23 v25 v26 v27 0)))) (
      .ret (.inl (.h2 v23 v25 v26 v27 0)))
  | .h2 v23 v25 v26 v27 v28 =>
    .ite ((ieq (v23.length : Int) 0) == false) (
      .need ((0 : Int) ≤ 0) <|
      .need (0 < (v23.length : Int)) <|
      let y0 : Int := (rdc (.int .u8) v23 0)
      .need (pre90 y0) <|
      .ite (!(fn90 y0)) (
        let y1 : ((List Int) × (Bool × (Int × (Bool × (Int × (Int × Int)))))) := (v23, (true, (v25, (v26, (v27, (v28, 0))))))
        let y2 : (Int × (Int × (Int × (Bool × (Int × (Int × (Int × (Int × (Int × (Int × (Bool × (Bool × (Bool × Bool))))))))))))) := (0, (0, (0, (false, (0, (0, (0, (0, (0, (0, (false, (false, (false, false)))))))))))))
        let y3 : (Int × (Int × (Int × (Int × (Int × (Int × (Bool × Int))))))) := (0, (0, (0, (0, (0, (0, (false, 0)))))))
        .ret (.inl (.h3 y1 y2 y3 y3 0))) (
        .need ((0 : Int) ≤ 0) <|
        .need (0 < (v23.length : Int)) <|
        .need ((0 : Int) ≤ 1) <|
        .need ((1 : Nat) ≤ v23.length) <|
        .need ((0 : Int) ≤ 1) <|
        .need ((1 : Int) < 4) <|
        .need ((0 : Int) ≤ 1) <|
        .need ((1 : Int) < 4) <|
        let y4 : (List Int) := (v23.drop 1)
        .ite (ilt 0 (y4.length : Int)) (
          .need ((0 : Int) ≤ 0) <|
          .need (0 < (y4.length : Int)) <|
          .need ((0 : Int) ≤ 3) <|
          .ret (.inl (.h4 (iconv .i64 (iand .u8 (ishr .u8 (rdc (.int .u8) y4 0) 3) 7)) y4 v25 v26 v27 v28 y0))) (
          .ret (.inl (.h4 0 y4 v25 v26 v27 v28 y0))))) (
      let y5 : ((List Int) × (Bool × (Int × (Bool × (Int × (Int × Int)))))) := (v23, (true, (v25, (v26, (v27, (v28, 0))))))
      let y6 : (Int × (Int × (Int × (Bool × (Int × (Int × (Int × (Int × (Int × (Int × (Bool × (Bool × (Bool × Bool))))))))))))) := (0, (0, (0, (false, (0, (0, (0, (0, (0, (0, (false, (false, (false, false)))))))))))))
      let y7 : (Int × (Int × (Int × (Int × (Int × (Int × (Bool × Int))))))) := (0, (0, (0, (0, (0, (0, (false, 0)))))))
      .ret (.inl (.h3 y5 y6 y7 y7 0)))
  | .h3 v22 v29 v43 v51 v59 =>
    .ite v22.2.1 (
      let y0 : (Int × (Int × (Int × (Int × (Int × (Int × (Bool × Int))))))) := (0, (0, (0, (0, (0, (0, (false, 0)))))))
      .ret (.inr ((0, (0, (0, (y0, (y0, (0, 0)))))), 80))) (
      .ret (.inl (.h5 v22 v29 v43 v51 v59)))
  | .h4 v0 v24 v26 v27 v28 v29 v30 =>
    let y0 : (Int × (Int × (Int × Int))) := (v26, (v29, (v30, v0)))
    .need (pre91 y0) <|
    let y1 : (DForm × Bool) := (fn91 y0)
    .ite ((!y1.2) == false) (
      let y2 : DForm := y1.1
      let y3 : (Int × (Int × (Bool × (Bool × (Bool × Bool))))) := y2.2.2.2.2.2.2.2.2
      let y4 : (Int × (Bool × (Bool × (Bool × Bool)))) := y3.2
      .ite (y4.2.1 == true) (
        let y5 : Bool := (ieq (iand .u8 v28 8) 0)
        .ite y5 (
          let y6 : (Int × (Bool × (Int × (Int × Int)))) := (v26, (v27, (v28, (v29, v30))))
          let y7 : ((List Int) × (Bool × (Int × (Bool × (Int × (Int × Int)))))) := (v24, (y5, y6))
          let y8 : (Int × (Int × (Int × (Int × (Int × (Int × (Bool × Int))))))) := (0, (0, (0, (0, (0, (0, (false, 0)))))))
          .ret (.inl (.h3 y7 y2 y8 y8 0))) (
          .need ((0 : Int) ≤ 2) <|
          .need ((2 : Int) < 4) <|
          .need ((0 : Int) ≤ 2) <|
          .need ((2 : Int) < 4) <|
          let y9 : Int := y3.1
          let y10 : Bool := (ieq y9 1)
          .ite y10 (
            let y11 : (Int × (Bool × (Int × (Int × Int)))) := (v26, (v27, (v28, (v29, v30))))
            let y12 : ((List Int) × (Bool × (Int × (Bool × (Int × (Int × Int)))))) := (v24, (y5, y11))
            .ret (.inl (.h6 y12 y2))) (
            let y13 : Bool := (ieq y9 2)
            .ite y13 (
              let y14 : (Int × (Bool × (Int × (Int × Int)))) := (v26, (v27, (v28, (v29, v30))))
              let y15 : ((List Int) × (Bool × (Int × (Bool × (Int × (Int × Int)))))) := (v24, (y5, y14))
              .ret (.inl (.h6 y15 y2))) (
              let y16 : Bool := (ieq y9 3)
              .ite y16 (
                let y17 : (Int × (Bool × (Int × (Int × Int)))) := (v26, (v27, (v28, (v29, v30))))
                let y18 : ((List Int) × (Bool × (Int × (Bool × (Int × (Int × Int)))))) := (v24, (y5, y17))
                .ret (.inl (.h6 y18 y2))) (
                let y19 : Bool := (ieq y9 4)
                .ite y19 (
                  let y20 : (Int × (Bool × (Int × (Int × Int)))) := (v26, (v27, (v28, (v29, v30))))
                  let y21 : ((List Int) × (Bool × (Int × (Bool × (Int × (Int × Int)))))) := (v24, (y5, y20))
                  .ret (.inl (.h6 y21 y2))) (
                  let y22 : Bool := (ieq y9 5)
                  .ite y22 (
                    let y23 : (Int × (Bool × (Int × (Int × Int)))) := (v26, (v27, (v28, (v29, v30))))
                    let y24 : ((List Int) × (Bool × (Int × (Bool × (Int × (Int × Int)))))) := (v24, (y5, y23))
                    .ret (.inl (.h6 y24 y2))) (
                    .ite y5 (
                      let y25 : (Int × (Bool × (Int × (Int × Int)))) := (v26, (v27, (v28, (v29, v30))))
                      let y26 : ((List Int) × (Bool × (Int × (Bool × (Int × (Int × Int)))))) := (v24, (y5, y25))
                      let y27 : (Int × (Int × (Int × (Int × (Int × (Int × (Bool × Int))))))) := (0, (0, (0, (0, (0, (0, (false, 0)))))))
                      .ret (.inl (.h3 y26 y2 y27 y27 0))) (
                      .need ((0 : Int) ≤ 3) <|
                      .need ((3 : Int) < 4) <|
                      .need ((0 : Int) ≤ 3) <|
                      .need ((3 : Int) < 4) <|
                      .ite (y5 == false) (
                        let y28 : Bool := (ilt (v24.length : Int) y4.1)
                        .ite y28 (
                          let y29 : (Int × (Bool × (Int × (Int × Int)))) := (v26, (v27, (v28, (v29, v30))))
                          let y30 : ((List Int) × (Bool × (Int × (Bool × (Int × (Int × Int)))))) := (v24, (true, y29))
                          let y31 : (Int × (Int × (Int × (Int × (Int × (Int × (Bool × Int))))))) := (0, (0, (0, (0, (0, (0, (false, 0)))))))
                          .ret (.inl (.h3 y30 y2 y31 y31 0))) (
                          let y32 : (Int × (Bool × (Int × (Int × Int)))) := (v26, (v27, (v28, (v29, v30))))
                          let y33 : ((List Int) × (Bool × (Int × (Bool × (Int × (Int × Int)))))) := (v24, (y5, y32))
                          .ret (.inl (.h7 y33 y2 y2)))) (
                        let y34 : (Int × (Bool × (Int × (Int × Int)))) := (v26, (v27, (v28, (v29, v30))))
                        let y35 : ((List Int) × (Bool × (Int × (Bool × (Int × (Int × Int)))))) := (v24, (true, y34))
                        let y36 : (Int × (Int × (Int × (Int × (Int × (Int × (Bool × Int))))))) := (0, (0, (0, (0, (0, (0, (false, 0)))))))
                        .ret (.inl (.h3 y35 y2 y36 y36 0))))))))))) (
        .need ((0 : Int) ≤ 2) <|
        .need ((2 : Int) < 4) <|
        .need ((0 : Int) ≤ 2) <|
        .need ((2 : Int) < 4) <|
        let y37 : Int := y3.1
        let y38 : Bool := (ieq y37 1)
        .ite y38 (
          let y39 : (Int × (Bool × (Int × (Int × Int)))) := (v26, (v27, (v28, (v29, v30))))
          let y40 : ((List Int) × (Bool × (Int × (Bool × (Int × (Int × Int)))))) := (v24, (false, y39))
          .ret (.inl (.h6 y40 y2))) (
          let y41 : Bool := (ieq y37 2)
          .ite y41 (
            let y42 : (Int × (Bool × (Int × (Int × Int)))) := (v26, (v27, (v28, (v29, v30))))
            let y43 : ((List Int) × (Bool × (Int × (Bool × (Int × (Int × Int)))))) := (v24, (false, y42))
            .ret (.inl (.h6 y43 y2))) (
            let y44 : Bool := (ieq y37 3)
            .ite y44 (
              let y45 : (Int × (Bool × (Int × (Int × Int)))) := (v26, (v27, (v28, (v29, v30))))
              let y46 : ((List Int) × (Bool × (Int × (Bool × (Int × (Int × Int)))))) := (v24, (false, y45))
              .ret (.inl (.h6 y46 y2))) (
              let y47 : Bool := (ieq y37 4)
              .ite y47 (
                let y48 : (Int × (Bool × (Int × (Int × Int)))) := (v26, (v27, (v28, (v29, v30))))
                let y49 : ((List Int) × (Bool × (Int × (Bool × (Int × (Int × Int)))))) := (v24, (false, y48))
                .ret (.inl (.h6 y49 y2))) (
                let y50 : Bool := (ieq y37 5)
                .ite y50 (
                  let y51 : (Int × (Bool × (Int × (Int × Int)))) := (v26, (v27, (v28, (v29, v30))))
                  let y52 : ((List Int) × (Bool × (Int × (Bool × (Int × (Int × Int)))))) := (v24, (false, y51))
                  .ret (.inl (.h6 y52 y2))) (
                  .need ((0 : Int) ≤ 3) <|
                  .need ((3 : Int) < 4) <|
                  .need ((0 : Int) ≤ 3) <|
                  .need ((3 : Int) < 4) <|
                  let y53 : Bool := (ilt (v24.length : Int) y4.1)
                  .ite y53 (
                    let y54 : (Int × (Bool × (Int × (Int × Int)))) := (v26, (v27, (v28, (v29, v30))))
                    let y55 : ((List Int) × (Bool × (Int × (Bool × (Int × (Int × Int)))))) := (v24, (true, y54))
                    let y56 : (Int × (Int × (Int × (Int × (Int × (Int × (Bool × Int))))))) := (0, (0, (0, (0, (0, (0, (false, 0)))))))
                    .ret (.inl (.h3 y55 y2 y56 y56 0))) (
                    let y57 : (Int × (Bool × (Int × (Int × Int)))) := (v26, (v27, (v28, (v29, v30))))
                    let y58 : ((List Int) × (Bool × (Int × (Bool × (Int × (Int × Int)))))) := (v24, (false, y57))
                    .ret (.inl (.h7 y58 y2 y2)))))))))) (
      let y59 : (Int × (Bool × (Int × (Int × Int)))) := (v26, (v27, (v28, (v29, v30))))
      let y60 : ((List Int) × (Bool × (Int × (Bool × (Int × (Int × Int)))))) := (v24, (true, y59))
      let y61 : DForm := y1.1
      let y62 : (Int × (Int × (Int × (Int × (Int × (Int × (Bool × Int))))))) := (0, (0, (0, (0, (0, (0, (false, 0)))))))
      .ret (.inl (.h3 y60 y61 y62 y62 0)))
  | .h5 v22 v29 v43 v51 v59 =>
    let y0 : (Int × (Int × (Int × (Int × (Int × (Bool × (Bool × (Bool × Bool)))))))) := v29.2.2.2.2.2
    let y1 : (Int × (Int × (Int × (Int × (Bool × (Bool × (Bool × Bool))))))) := y0.2
    let y2 : Int := y1.2.1
    .ite (ieq y2 0) (
      .need ((0 : Int) ≤ 1) <|
      let y3 : Int := y0.1
      let y4 : Int := y1.1
      let y5 : Int := (isub .i64 (x.length : Int) (v22.1.length : Int))
      .ret (.inl (.h8 y3 y4 (iadd .i64 4 (ishr .i64 (iconv .i64 (iand .u8 v22.2.2.2.2.1 8)) 1)) y5 v22 v29 v43 v51 v59))) (
      let y6 : Int := y0.1
      let y7 : Int := y1.1
      let y8 : Int := (isub .i64 (x.length : Int) (v22.1.length : Int))
      .ret (.inl (.h8 y6 y7 y2 y8 v22 v29 v43 v51 v59)))
  | .h6 v23 v30 =>
    let y0 : (Int × (Bool × (Int × (Int × Int)))) := v23.2.2
    let y1 : ((List Int) × Int) := (v23.1, y0.2.2.1)
    .need (pre92 y1) <|
    let y2 : (Int × (DOperand × (Int × Int))) := (fn92 y1)
    let y3 : (DOperand × (Int × Int)) := y2.2
    let y4 : (Int × Int) := y3.2
    .ite (ine y4.2 0) (
      let y5 : DOperand := y3.1
      .ret (.inl (.h3 (v23.1, (true, y0)) v30 (0, (0, (0, (0, (0, (0, (false, 0))))))) y5 0))) (
      let y6 : DOperand := y3.1
      .ret (.inl (.h9 y2.1 y4.1 v23 v30 v30 y6)))
  | .h7 v23 v30 v61 =>
    .ite (ieq v61.2.2.2.2.2.2.2.2.2.1 0) (
      .ite v23.2.1 (
        let y0 : (Int × (Int × (Int × (Int × (Int × (Int × (Bool × Int))))))) := (0, (0, (0, (0, (0, (0, (false, 0)))))))
        .ret (.inl (.h3 v23 v30 y0 y0 0))) (
        let y1 : (Int × (Int × (Int × (Int × (Int × (Int × (Bool × Int))))))) := (0, (0, (0, (0, (0, (0, (false, 0)))))))
        .ret (.inl (.h3 v23 v30 y1 y1 0)))) (
      .ret (.inl (.h10 v23 v30 v61)))
  | .h8 v0 v1 v2 v20 v21 v28 v42 v50 v58 =>
    .ite (ieq v28.2.2.2.2.2.1 39) (
      .ret (.inl (.h11 v0 v1 v2 (iconv .u8 v58) v20 v21 v28 v42 v50 v58))) (
      .ret (.inl (.h11 v0 v1 v2 0 v20 v21 v28 v42 v50 v58)))
  | .h9 v0 v1 v25 v32 v63 v85 =>
    .need ((0 : Int) ≤ v1) <|
    .need (((v1).toNat : Nat) ≤ v25.1.length) <|
    .need (pre60 v0) <|
    let y0 : (Int × (Int × (Int × (Bool × (Bool × (Bool × Bool)))))) := v63.2.2.2.2.2.2.2
    .ite ((ieq y0.1 1) == true) (
      let y1 : (Int × (Int × (Bool × (Bool × (Bool × Bool))))) := y0.2
      let y2 : Int := y1.1
      .ite ((ieq y2 1) == false) (
        let y3 : (Bool × (Bool × Bool)) := y1.2.2.2
        let y4 : (Bool × Bool) := y3.2
        let y5 : Bool := (y4.2 == true)
        .ite y5 (
          let y6 : Bool := (ieq v85.1 1)
          let y7 : Bool := (y6 == false)
          .ite y7 (
            let y8 : Bool := (y4.1 == true)
            .ite y8 (
              let y9 : (Int × (Bool × (Int × (Int × Int)))) := v25.2.2
              let y10 : Bool := ((!y9.2.1) == true)
              .ite y10 (
                .need (pre93 v85) <|
                let y11 : Bool := ((fn93 v85) == false)
                .ite y11 (
                  let y12 : Bool := ((ieq y2 2) == true)
                  .ite y12 (
                    .need (pre93 (fn60 v0)) <|
                    let y13 : Bool := y3.1
                    .ite y13 (
                      .ite y6 (
                        let y14 : (List Int) := (v25.1.drop (v1).toNat)
                        let y15 : ((List Int) × (Bool × (Int × (Bool × (Int × (Int × Int)))))) := (y14, ((fn93 (fn60 v0)), y9))
                        let y16 : (Int × (Int × (Int × (Int × (Int × (Bool × Int)))))) := (fn60 v0).2
                        let y17 : (Int × (Int × (Int × (Int × (Int × (Int × (Bool × Int))))))) := ((fn60 v0).1, ((iadd .i64 y16.1 16), y16.2))
                        let y18 : (Int × (Int × (Int × (Int × (Int × (Int × (Bool × Int))))))) := (v85.1, ((iadd .i64 v85.2.1 16), v85.2.2))
                        .ret (.inl (.h12 y15 v32 y17 y18))) (
                        let y19 : (List Int) := (v25.1.drop (v1).toNat)
                        let y20 : ((List Int) × (Bool × (Int × (Bool × (Int × (Int × Int)))))) := (y19, ((fn93 (fn60 v0)), y9))
                        let y21 : (Int × (Int × (Int × (Int × (Int × (Bool × Int)))))) := (fn60 v0).2
                        let y22 : (Int × (Int × (Int × (Int × (Int × (Int × (Bool × Int))))))) := ((fn60 v0).1, ((iadd .i64 y21.1 16), y21.2))
                        .ret (.inl (.h12 y20 v32 y22 v85)))) (
                      let y23 : (List Int) := (v25.1.drop (v1).toNat)
                      let y24 : ((List Int) × (Bool × (Int × (Bool × (Int × (Int × Int)))))) := (y23, ((fn93 (fn60 v0)), y9))
                      .ret (.inl (.h12 y24 v32 (fn60 v0) v85)))) (
                    let y25 : Bool := y3.1
                    .ite y25 (
                      .ite y6 (
                        let y26 : (List Int) := (v25.1.drop (v1).toNat)
                        let y27 : ((List Int) × (Bool × (Int × (Bool × (Int × (Int × Int)))))) := (y26, (false, y9))
                        let y28 : (Int × (Int × (Int × (Int × (Int × (Bool × Int)))))) := (fn60 v0).2
                        let y29 : (Int × (Int × (Int × (Int × (Int × (Int × (Bool × Int))))))) := ((fn60 v0).1, ((iadd .i64 y28.1 16), y28.2))
                        let y30 : (Int × (Int × (Int × (Int × (Int × (Int × (Bool × Int))))))) := (v85.1, ((iadd .i64 v85.2.1 16), v85.2.2))
                        .ret (.inl (.h12 y27 v32 y29 y30))) (
                        let y31 : (List Int) := (v25.1.drop (v1).toNat)
                        let y32 : ((List Int) × (Bool × (Int × (Bool × (Int × (Int × Int)))))) := (y31, (false, y9))
                        let y33 : (Int × (Int × (Int × (Int × (Int × (Bool × Int)))))) := (fn60 v0).2
                        let y34 : (Int × (Int × (Int × (Int × (Int × (Int × (Bool × Int))))))) := ((fn60 v0).1, ((iadd .i64 y33.1 16), y33.2))
                        .ret (.inl (.h12 y32 v32 y34 v85)))) (
                      let y35 : (List Int) := (v25.1.drop (v1).toNat)
                      let y36 : ((List Int) × (Bool × (Int × (Bool × (Int × (Int × Int)))))) := (y35, (false, y9))
                      .ret (.inl (.h12 y36 v32 (fn60 v0) v85))))) (
                  let y37 : Bool := y3.1
                  .ite y37 (
                    .ite y6 (
                      let y38 : (List Int) := (v25.1.drop (v1).toNat)
                      let y39 : ((List Int) × (Bool × (Int × (Bool × (Int × (Int × Int)))))) := (y38, (true, y9))
                      let y40 : (Int × (Int × (Int × (Int × (Int × (Bool × Int)))))) := (fn60 v0).2
                      let y41 : (Int × (Int × (Int × (Int × (Int × (Int × (Bool × Int))))))) := ((fn60 v0).1, ((iadd .i64 y40.1 16), y40.2))
                      let y42 : (Int × (Int × (Int × (Int × (Int × (Int × (Bool × Int))))))) := (v85.1, ((iadd .i64 v85.2.1 16), v85.2.2))
                      .ret (.inl (.h12 y39 v32 y41 y42))) (
                      let y43 : (List Int) := (v25.1.drop (v1).toNat)
                      let y44 : ((List Int) × (Bool × (Int × (Bool × (Int × (Int × Int)))))) := (y43, (true, y9))
                      let y45 : (Int × (Int × (Int × (Int × (Int × (Bool × Int)))))) := (fn60 v0).2
                      let y46 : (Int × (Int × (Int × (Int × (Int × (Int × (Bool × Int))))))) := ((fn60 v0).1, ((iadd .i64 y45.1 16), y45.2))
                      .ret (.inl (.h12 y44 v32 y46 v85)))) (
                    let y47 : (List Int) := (v25.1.drop (v1).toNat)
                    let y48 : ((List Int) × (Bool × (Int × (Bool × (Int × (Int × Int)))))) := (y47, (true, y9))
                    .ret (.inl (.h12 y48 v32 (fn60 v0) v85))))) (
                let y49 : Bool := y3.1
                .ite y49 (
                  .ite y6 (
                    let y50 : (List Int) := (v25.1.drop (v1).toNat)
                    let y51 : ((List Int) × (Bool × (Int × (Bool × (Int × (Int × Int)))))) := (y50, (false, y9))
                    let y52 : (Int × (Int × (Int × (Int × (Int × (Bool × Int)))))) := (fn60 v0).2
                    let y53 : (Int × (Int × (Int × (Int × (Int × (Int × (Bool × Int))))))) := ((fn60 v0).1, ((iadd .i64 y52.1 16), y52.2))
                    let y54 : (Int × (Int × (Int × (Int × (Int × (Int × (Bool × Int))))))) := (v85.1, ((iadd .i64 v85.2.1 16), v85.2.2))
                    .ret (.inl (.h12 y51 v32 y53 y54))) (
                    let y55 : (List Int) := (v25.1.drop (v1).toNat)
                    let y56 : ((List Int) × (Bool × (Int × (Bool × (Int × (Int × Int)))))) := (y55, (false, y9))
                    let y57 : (Int × (Int × (Int × (Int × (Int × (Bool × Int)))))) := (fn60 v0).2
                    let y58 : (Int × (Int × (Int × (Int × (Int × (Int × (Bool × Int))))))) := ((fn60 v0).1, ((iadd .i64 y57.1 16), y57.2))
                    .ret (.inl (.h12 y56 v32 y58 v85)))) (
                  let y59 : (List Int) := (v25.1.drop (v1).toNat)
                  let y60 : ((List Int) × (Bool × (Int × (Bool × (Int × (Int × Int)))))) := (y59, (false, y9))
                  .ret (.inl (.h12 y60 v32 (fn60 v0) v85))))) (
              let y61 : Bool := y3.1
              .ite y61 (
                .ite y6 (
                  let y62 : (List Int) := (v25.1.drop (v1).toNat)
                  let y63 : (Int × (Bool × (Int × (Int × Int)))) := v25.2.2
                  let y64 : ((List Int) × (Bool × (Int × (Bool × (Int × (Int × Int)))))) := (y62, (false, y63))
                  let y65 : (Int × (Int × (Int × (Int × (Int × (Bool × Int)))))) := (fn60 v0).2
                  let y66 : (Int × (Int × (Int × (Int × (Int × (Int × (Bool × Int))))))) := ((fn60 v0).1, ((iadd .i64 y65.1 16), y65.2))
                  let y67 : (Int × (Int × (Int × (Int × (Int × (Int × (Bool × Int))))))) := (v85.1, ((iadd .i64 v85.2.1 16), v85.2.2))
                  .ret (.inl (.h12 y64 v32 y66 y67))) (
                  let y68 : (List Int) := (v25.1.drop (v1).toNat)
                  let y69 : (Int × (Bool × (Int × (Int × Int)))) := v25.2.2
                  let y70 : ((List Int) × (Bool × (Int × (Bool × (Int × (Int × Int)))))) := (y68, (false, y69))
                  let y71 : (Int × (Int × (Int × (Int × (Int × (Bool × Int)))))) := (fn60 v0).2
                  let y72 : (Int × (Int × (Int × (Int × (Int × (Int × (Bool × Int))))))) := ((fn60 v0).1, ((iadd .i64 y71.1 16), y71.2))
                  .ret (.inl (.h12 y70 v32 y72 v85)))) (
                let y73 : (List Int) := (v25.1.drop (v1).toNat)
                let y74 : (Int × (Bool × (Int × (Int × Int)))) := v25.2.2
                let y75 : ((List Int) × (Bool × (Int × (Bool × (Int × (Int × Int)))))) := (y73, (false, y74))
                .ret (.inl (.h12 y75 v32 (fn60 v0) v85))))) (
            let y76 : Bool := y3.1
            .ite y76 (
              .ite y6 (
                let y77 : (List Int) := (v25.1.drop (v1).toNat)
                let y78 : (Int × (Bool × (Int × (Int × Int)))) := v25.2.2
                let y79 : ((List Int) × (Bool × (Int × (Bool × (Int × (Int × Int)))))) := (y77, (true, y78))
                let y80 : (Int × (Int × (Int × (Int × (Int × (Bool × Int)))))) := (fn60 v0).2
                let y81 : (Int × (Int × (Int × (Int × (Int × (Int × (Bool × Int))))))) := ((fn60 v0).1, ((iadd .i64 y80.1 16), y80.2))
                let y82 : (Int × (Int × (Int × (Int × (Int × (Int × (Bool × Int))))))) := (v85.1, ((iadd .i64 v85.2.1 16), v85.2.2))
                .ret (.inl (.h12 y79 v32 y81 y82))) (
                let y83 : (List Int) := (v25.1.drop (v1).toNat)
                let y84 : (Int × (Bool × (Int × (Int × Int)))) := v25.2.2
                let y85 : ((List Int) × (Bool × (Int × (Bool × (Int × (Int × Int)))))) := (y83, (true, y84))
                let y86 : (Int × (Int × (Int × (Int × (Int × (Bool × Int)))))) := (fn60 v0).2
                let y87 : (Int × (Int × (Int × (Int × (Int × (Int × (Bool × Int))))))) := ((fn60 v0).1, ((iadd .i64 y86.1 16), y86.2))
                .ret (.inl (.h12 y85 v32 y87 v85)))) (
              let y88 : (List Int) := (v25.1.drop (v1).toNat)
              let y89 : (Int × (Bool × (Int × (Int × Int)))) := v25.2.2
              let y90 : ((List Int) × (Bool × (Int × (Bool × (Int × (Int × Int)))))) := (y88, (true, y89))
              .ret (.inl (.h12 y90 v32 (fn60 v0) v85))))) (
          let y91 : Bool := (y4.1 == true)
          .ite y91 (
            let y92 : (Int × (Bool × (Int × (Int × Int)))) := v25.2.2
            let y93 : Bool := ((!y92.2.1) == true)
            .ite y93 (
              .need (pre93 v85) <|
              let y94 : Bool := ((fn93 v85) == false)
              .ite y94 (
                let y95 : Bool := ((ieq y2 2) == true)
                .ite y95 (
                  .need (pre93 (fn60 v0)) <|
                  let y96 : Bool := y3.1
                  .ite y96 (
                    let y97 : Bool := (ieq v85.1 1)
                    .ite y97 (
                      let y98 : (List Int) := (v25.1.drop (v1).toNat)
                      let y99 : ((List Int) × (Bool × (Int × (Bool × (Int × (Int × Int)))))) := (y98, ((fn93 (fn60 v0)), y92))
                      let y100 : (Int × (Int × (Int × (Int × (Int × (Bool × Int)))))) := (fn60 v0).2
                      let y101 : (Int × (Int × (Int × (Int × (Int × (Int × (Bool × Int))))))) := ((fn60 v0).1, ((iadd .i64 y100.1 16), y100.2))
                      let y102 : (Int × (Int × (Int × (Int × (Int × (Int × (Bool × Int))))))) := (v85.1, ((iadd .i64 v85.2.1 16), v85.2.2))
                      .ret (.inl (.h12 y99 v32 y101 y102))) (
                      let y103 : (List Int) := (v25.1.drop (v1).toNat)
                      let y104 : ((List Int) × (Bool × (Int × (Bool × (Int × (Int × Int)))))) := (y103, ((fn93 (fn60 v0)), y92))
                      let y105 : (Int × (Int × (Int × (Int × (Int × (Bool × Int)))))) := (fn60 v0).2
                      let y106 : (Int × (Int × (Int × (Int × (Int × (Int × (Bool × Int))))))) := ((fn60 v0).1, ((iadd .i64 y105.1 16), y105.2))
                      .ret (.inl (.h12 y104 v32 y106 v85)))) (
                    let y107 : (List Int) := (v25.1.drop (v1).toNat)
                    let y108 : ((List Int) × (Bool × (Int × (Bool × (Int × (Int × Int)))))) := (y107, ((fn93 (fn60 v0)), y92))
                    .ret (.inl (.h12 y108 v32 (fn60 v0) v85)))) (
                  let y109 : Bool := y3.1
                  .ite y109 (
                    let y110 : Bool := (ieq v85.1 1)
                    .ite y110 (
                      let y111 : (List Int) := (v25.1.drop (v1).toNat)
                      let y112 : ((List Int) × (Bool × (Int × (Bool × (Int × (Int × Int)))))) := (y111, (false, y92))
                      let y113 : (Int × (Int × (Int × (Int × (Int × (Bool × Int)))))) := (fn60 v0).2
                      let y114 : (Int × (Int × (Int × (Int × (Int × (Int × (Bool × Int))))))) := ((fn60 v0).1, ((iadd .i64 y113.1 16), y113.2))
                      let y115 : (Int × (Int × (Int × (Int × (Int × (Int × (Bool × Int))))))) := (v85.1, ((iadd .i64 v85.2.1 16), v85.2.2))
                      .ret (.inl (.h12 y112 v32 y114 y115))) (
                      let y116 : (List Int) := (v25.1.drop (v1).toNat)
                      let y117 : ((List Int) × (Bool × (Int × (Bool × (Int × (Int × Int)))))) := (y116, (false, y92))
                      let y118 : (Int × (Int × (Int × (Int × (Int × (Bool × Int)))))) := (fn60 v0).2
                      let y119 : (Int × (Int × (Int × (Int × (Int × (Int × (Bool × Int))))))) := ((fn60 v0).1, ((iadd .i64 y118.1 16), y118.2))
                      .ret (.inl (.h12 y117 v32 y119 v85)))) (
                    let y120 : (List Int) := (v25.1.drop (v1).toNat)
                    let y121 : ((List Int) × (Bool × (Int × (Bool × (Int × (Int × Int)))))) := (y120, (false, y92))
                    .ret (.inl (.h12 y121 v32 (fn60 v0) v85))))) (
                let y122 : Bool := y3.1
                .ite y122 (
                  let y123 : Bool := (ieq v85.1 1)
                  .ite y123 (
                    let y124 : (List Int) := (v25.1.drop (v1).toNat)
                    let y125 : ((List Int) × (Bool × (Int × (Bool × (Int × (Int × Int)))))) := (y124, (true, y92))
                    let y126 : (Int × (Int × (Int × (Int × (Int × (Bool × Int)))))) := (fn60 v0).2
                    let y127 : (Int × (Int × (Int × (Int × (Int × (Int × (Bool × Int))))))) := ((fn60 v0).1, ((iadd .i64 y126.1 16), y126.2))
                    let y128 : (Int × (Int × (Int × (Int × (Int × (Int × (Bool × Int))))))) := (v85.1, ((iadd .i64 v85.2.1 16), v85.2.2))
                    .ret (.inl (.h12 y125 v32 y127 y128))) (
                    let y129 : (List Int) := (v25.1.drop (v1).toNat)
                    let y130 : ((List Int) × (Bool × (Int × (Bool × (Int × (Int × Int)))))) := (y129, (true, y92))
                    let y131 : (Int × (Int × (Int × (Int × (Int × (Bool × Int)))))) := (fn60 v0).2
                    let y132 : (Int × (Int × (Int × (Int × (Int × (Int × (Bool × Int))))))) := ((fn60 v0).1, ((iadd .i64 y131.1 16), y131.2))
                    .ret (.inl (.h12 y130 v32 y132 v85)))) (
                  let y133 : (List Int) := (v25.1.drop (v1).toNat)
                  let y134 : ((List Int) × (Bool × (Int × (Bool × (Int × (Int × Int)))))) := (y133, (true, y92))
                  .ret (.inl (.h12 y134 v32 (fn60 v0) v85))))) (
              let y135 : Bool := y3.1
              .ite y135 (
                let y136 : Bool := (ieq v85.1 1)
                .ite y136 (
                  let y137 : (List Int) := (v25.1.drop (v1).toNat)
                  let y138 : ((List Int) × (Bool × (Int × (Bool × (Int × (Int × Int)))))) := (y137, (false, y92))
                  let y139 : (Int × (Int × (Int × (Int × (Int × (Bool × Int)))))) := (fn60 v0).2
                  let y140 : (Int × (Int × (Int × (Int × (Int × (Int × (Bool × Int))))))) := ((fn60 v0).1, ((iadd .i64 y139.1 16), y139.2))
                  let y141 : (Int × (Int × (Int × (Int × (Int × (Int × (Bool × Int))))))) := (v85.1, ((iadd .i64 v85.2.1 16), v85.2.2))
                  .ret (.inl (.h12 y138 v32 y140 y141))) (
                  let y142 : (List Int) := (v25.1.drop (v1).toNat)
                  let y143 : ((List Int) × (Bool × (Int × (Bool × (Int × (Int × Int)))))) := (y142, (false, y92))
                  let y144 : (Int × (Int × (Int × (Int × (Int × (Bool × Int)))))) := (fn60 v0).2
                  let y145 : (Int × (Int × (Int × (Int × (Int × (Int × (Bool × Int))))))) := ((fn60 v0).1, ((iadd .i64 y144.1 16), y144.2))
                  .ret (.inl (.h12 y143 v32 y145 v85)))) (
                let y146 : (List Int) := (v25.1.drop (v1).toNat)
                let y147 : ((List Int) × (Bool × (Int × (Bool × (Int × (Int × Int)))))) := (y146, (false, y92))
                .ret (.inl (.h12 y147 v32 (fn60 v0) v85))))) (
            let y148 : Bool := y3.1
            .ite y148 (
              let y149 : Bool := (ieq v85.1 1)
              .ite y149 (
                let y150 : (List Int) := (v25.1.drop (v1).toNat)
                let y151 : (Int × (Bool × (Int × (Int × Int)))) := v25.2.2
                let y152 : ((List Int) × (Bool × (Int × (Bool × (Int × (Int × Int)))))) := (y150, (false, y151))
                let y153 : (Int × (Int × (Int × (Int × (Int × (Bool × Int)))))) := (fn60 v0).2
                let y154 : (Int × (Int × (Int × (Int × (Int × (Int × (Bool × Int))))))) := ((fn60 v0).1, ((iadd .i64 y153.1 16), y153.2))
                let y155 : (Int × (Int × (Int × (Int × (Int × (Int × (Bool × Int))))))) := (v85.1, ((iadd .i64 v85.2.1 16), v85.2.2))
                .ret (.inl (.h12 y152 v32 y154 y155))) (
                let y156 : (List Int) := (v25.1.drop (v1).toNat)
                let y157 : (Int × (Bool × (Int × (Int × Int)))) := v25.2.2
                let y158 : ((List Int) × (Bool × (Int × (Bool × (Int × (Int × Int)))))) := (y156, (false, y157))
                let y159 : (Int × (Int × (Int × (Int × (Int × (Bool × Int)))))) := (fn60 v0).2
                let y160 : (Int × (Int × (Int × (Int × (Int × (Int × (Bool × Int))))))) := ((fn60 v0).1, ((iadd .i64 y159.1 16), y159.2))
                .ret (.inl (.h12 y158 v32 y160 v85)))) (
              let y161 : (List Int) := (v25.1.drop (v1).toNat)
              let y162 : (Int × (Bool × (Int × (Int × Int)))) := v25.2.2
              let y163 : ((List Int) × (Bool × (Int × (Bool × (Int × (Int × Int)))))) := (y161, (false, y162))
              .ret (.inl (.h12 y163 v32 (fn60 v0) v85)))))) (
        let y164 : (Bool × (Bool × Bool)) := y1.2.2.2
        let y165 : (Bool × Bool) := y164.2
        let y166 : Bool := (y165.2 == true)
        .ite y166 (
          let y167 : Bool := (ieq v85.1 1)
          let y168 : Bool := (y167 == false)
          .ite y168 (
            let y169 : Bool := (y165.1 == true)
            .ite y169 (
              let y170 : (Int × (Bool × (Int × (Int × Int)))) := v25.2.2
              let y171 : Bool := ((!y170.2.1) == true)
              .ite y171 (
                .need (pre93 v85) <|
                let y172 : Bool := ((fn93 v85) == false)
                .ite y172 (
                  .need (pre93 (fn60 v0)) <|
                  let y173 : Bool := y164.1
                  .ite y173 (
                    .ite y167 (
                      let y174 : (List Int) := (v25.1.drop (v1).toNat)
                      let y175 : ((List Int) × (Bool × (Int × (Bool × (Int × (Int × Int)))))) := (y174, ((fn93 (fn60 v0)), y170))
                      let y176 : (Int × (Int × (Int × (Int × (Int × (Bool × Int)))))) := (fn60 v0).2
                      let y177 : (Int × (Int × (Int × (Int × (Int × (Int × (Bool × Int))))))) := ((fn60 v0).1, ((iadd .i64 y176.1 16), y176.2))
                      let y178 : (Int × (Int × (Int × (Int × (Int × (Int × (Bool × Int))))))) := (v85.1, ((iadd .i64 v85.2.1 16), v85.2.2))
                      .ret (.inl (.h12 y175 v32 y177 y178))) (
                      let y179 : (List Int) := (v25.1.drop (v1).toNat)
                      let y180 : ((List Int) × (Bool × (Int × (Bool × (Int × (Int × Int)))))) := (y179, ((fn93 (fn60 v0)), y170))
                      let y181 : (Int × (Int × (Int × (Int × (Int × (Bool × Int)))))) := (fn60 v0).2
                      let y182 : (Int × (Int × (Int × (Int × (Int × (Int × (Bool × Int))))))) := ((fn60 v0).1, ((iadd .i64 y181.1 16), y181.2))
                      .ret (.inl (.h12 y180 v32 y182 v85)))) (
                    let y183 : (List Int) := (v25.1.drop (v1).toNat)
                    let y184 : ((List Int) × (Bool × (Int × (Bool × (Int × (Int × Int)))))) := (y183, ((fn93 (fn60 v0)), y170))
                    .ret (.inl (.h12 y184 v32 (fn60 v0) v85)))) (
                  let y185 : Bool := y164.1
                  .ite y185 (
                    .ite y167 (
                      let y186 : (List Int) := (v25.1.drop (v1).toNat)
                      let y187 : ((List Int) × (Bool × (Int × (Bool × (Int × (Int × Int)))))) := (y186, (true, y170))
                      let y188 : (Int × (Int × (Int × (Int × (Int × (Bool × Int)))))) := (fn60 v0).2
                      let y189 : (Int × (Int × (Int × (Int × (Int × (Int × (Bool × Int))))))) := ((fn60 v0).1, ((iadd .i64 y188.1 16), y188.2))
                      let y190 : (Int × (Int × (Int × (Int × (Int × (Int × (Bool × Int))))))) := (v85.1, ((iadd .i64 v85.2.1 16), v85.2.2))
                      .ret (.inl (.h12 y187 v32 y189 y190))) (
                      let y191 : (List Int) := (v25.1.drop (v1).toNat)
                      let y192 : ((List Int) × (Bool × (Int × (Bool × (Int × (Int × Int)))))) := (y191, (true, y170))
                      let y193 : (Int × (Int × (Int × (Int × (Int × (Bool × Int)))))) := (fn60 v0).2
                      let y194 : (Int × (Int × (Int × (Int × (Int × (Int × (Bool × Int))))))) := ((fn60 v0).1, ((iadd .i64 y193.1 16), y193.2))
                      .ret (.inl (.h12 y192 v32 y194 v85)))) (
                    let y195 : (List Int) := (v25.1.drop (v1).toNat)
                    let y196 : ((List Int) × (Bool × (Int × (Bool × (Int × (Int × Int)))))) := (y195, (true, y170))
                    .ret (.inl (.h12 y196 v32 (fn60 v0) v85))))) (
                let y197 : Bool := y164.1
                .ite y197 (
                  .ite y167 (
                    let y198 : (List Int) := (v25.1.drop (v1).toNat)
                    let y199 : ((List Int) × (Bool × (Int × (Bool × (Int × (Int × Int)))))) := (y198, (false, y170))
                    let y200 : (Int × (Int × (Int × (Int × (Int × (Bool × Int)))))) := (fn60 v0).2
                    let y201 : (Int × (Int × (Int × (Int × (Int × (Int × (Bool × Int))))))) := ((fn60 v0).1, ((iadd .i64 y200.1 16), y200.2))
                    let y202 : (Int × (Int × (Int × (Int × (Int × (Int × (Bool × Int))))))) := (v85.1, ((iadd .i64 v85.2.1 16), v85.2.2))
                    .ret (.inl (.h12 y199 v32 y201 y202))) (
                    let y203 : (List Int) := (v25.1.drop (v1).toNat)
                    let y204 : ((List Int) × (Bool × (Int × (Bool × (Int × (Int × Int)))))) := (y203, (false, y170))
                    let y205 : (Int × (Int × (Int × (Int × (Int × (Bool × Int)))))) := (fn60 v0).2
                    let y206 : (Int × (Int × (Int × (Int × (Int × (Int × (Bool × Int))))))) := ((fn60 v0).1, ((iadd .i64 y205.1 16), y205.2))
                    .ret (.inl (.h12 y204 v32 y206 v85)))) (
                  let y207 : (List Int) := (v25.1.drop (v1).toNat)
                  let y208 : ((List Int) × (Bool × (Int × (Bool × (Int × (Int × Int)))))) := (y207, (false, y170))
                  .ret (.inl (.h12 y208 v32 (fn60 v0) v85))))) (
              let y209 : Bool := y164.1
              .ite y209 (
                .ite y167 (
                  let y210 : (List Int) := (v25.1.drop (v1).toNat)
                  let y211 : (Int × (Bool × (Int × (Int × Int)))) := v25.2.2
                  let y212 : ((List Int) × (Bool × (Int × (Bool × (Int × (Int × Int)))))) := (y210, (false, y211))
                  let y213 : (Int × (Int × (Int × (Int × (Int × (Bool × Int)))))) := (fn60 v0).2
                  let y214 : (Int × (Int × (Int × (Int × (Int × (Int × (Bool × Int))))))) := ((fn60 v0).1, ((iadd .i64 y213.1 16), y213.2))
                  let y215 : (Int × (Int × (Int × (Int × (Int × (Int × (Bool × Int))))))) := (v85.1, ((iadd .i64 v85.2.1 16), v85.2.2))
                  .ret (.inl (.h12 y212 v32 y214 y215))) (
                  let y216 : (List Int) := (v25.1.drop (v1).toNat)
                  let y217 : (Int × (Bool × (Int × (Int × Int)))) := v25.2.2
                  let y218 : ((List Int) × (Bool × (Int × (Bool × (Int × (Int × Int)))))) := (y216, (false, y217))
                  let y219 : (Int × (Int × (Int × (Int × (Int × (Bool × Int)))))) := (fn60 v0).2
                  let y220 : (Int × (Int × (Int × (Int × (Int × (Int × (Bool × Int))))))) := ((fn60 v0).1, ((iadd .i64 y219.1 16), y219.2))
                  .ret (.inl (.h12 y218 v32 y220 v85)))) (
                let y221 : (List Int) := (v25.1.drop (v1).toNat)
                let y222 : (Int × (Bool × (Int × (Int × Int)))) := v25.2.2
                let y223 : ((List Int) × (Bool × (Int × (Bool × (Int × (Int × Int)))))) := (y221, (false, y222))
                .ret (.inl (.h12 y223 v32 (fn60 v0) v85))))) (
            let y224 : Bool := y164.1
            .ite y224 (
              .ite y167 (
                let y225 : (List Int) := (v25.1.drop (v1).toNat)
                let y226 : (Int × (Bool × (Int × (Int × Int)))) := v25.2.2
                let y227 : ((List Int) × (Bool × (Int × (Bool × (Int × (Int × Int)))))) := (y225, (true, y226))
                let y228 : (Int × (Int × (Int × (Int × (Int × (Bool × Int)))))) := (fn60 v0).2
                let y229 : (Int × (Int × (Int × (Int × (Int × (Int × (Bool × Int))))))) := ((fn60 v0).1, ((iadd .i64 y228.1 16), y228.2))
                let y230 : (Int × (Int × (Int × (Int × (Int × (Int × (Bool × Int))))))) := (v85.1, ((iadd .i64 v85.2.1 16), v85.2.2))
                .ret (.inl (.h12 y227 v32 y229 y230))) (
                let y231 : (List Int) := (v25.1.drop (v1).toNat)
                let y232 : (Int × (Bool × (Int × (Int × Int)))) := v25.2.2
                let y233 : ((List Int) × (Bool × (Int × (Bool × (Int × (Int × Int)))))) := (y231, (true, y232))
                let y234 : (Int × (Int × (Int × (Int × (Int × (Bool × Int)))))) := (fn60 v0).2
                let y235 : (Int × (Int × (Int × (Int × (Int × (Int × (Bool × Int))))))) := ((fn60 v0).1, ((iadd .i64 y234.1 16), y234.2))
                .ret (.inl (.h12 y233 v32 y235 v85)))) (
              let y236 : (List Int) := (v25.1.drop (v1).toNat)
              let y237 : (Int × (Bool × (Int × (Int × Int)))) := v25.2.2
              let y238 : ((List Int) × (Bool × (Int × (Bool × (Int × (Int × Int)))))) := (y236, (true, y237))
              .ret (.inl (.h12 y238 v32 (fn60 v0) v85))))) (
          let y239 : Bool := (y165.1 == true)
          .ite y239 (
            let y240 : (Int × (Bool × (Int × (Int × Int)))) := v25.2.2
            let y241 : Bool := ((!y240.2.1) == true)
            .ite y241 (
              .need (pre93 v85) <|
              let y242 : Bool := ((fn93 v85) == false)
              .ite y242 (
                .need (pre93 (fn60 v0)) <|
                let y243 : Bool := y164.1
                .ite y243 (
                  let y244 : Bool := (ieq v85.1 1)
                  .ite y244 (
                    let y245 : (List Int) := (v25.1.drop (v1).toNat)
                    let y246 : ((List Int) × (Bool × (Int × (Bool × (Int × (Int × Int)))))) := (y245, ((fn93 (fn60 v0)), y240))
                    let y247 : (Int × (Int × (Int × (Int × (Int × (Bool × Int)))))) := (fn60 v0).2
                    let y248 : (Int × (Int × (Int × (Int × (Int × (Int × (Bool × Int))))))) := ((fn60 v0).1, ((iadd .i64 y247.1 16), y247.2))
                    let y249 : (Int × (Int × (Int × (Int × (Int × (Int × (Bool × Int))))))) := (v85.1, ((iadd .i64 v85.2.1 16), v85.2.2))
                    .ret (.inl (.h12 y246 v32 y248 y249))) (
                    let y250 : (List Int) := (v25.1.drop (v1).toNat)
                    let y251 : ((List Int) × (Bool × (Int × (Bool × (Int × (Int × Int)))))) := (y250, ((fn93 (fn60 v0)), y240))
                    let y252 : (Int × (Int × (Int × (Int × (Int × (Bool × Int)))))) := (fn60 v0).2
                    let y253 : (Int × (Int × (Int × (Int × (Int × (Int × (Bool × Int))))))) := ((fn60 v0).1, ((iadd .i64 y252.1 16), y252.2))
                    .ret (.inl (.h12 y251 v32 y253 v85)))) (
                  let y254 : (List Int) := (v25.1.drop (v1).toNat)
                  let y255 : ((List Int) × (Bool × (Int × (Bool × (Int × (Int × Int)))))) := (y254, ((fn93 (fn60 v0)), y240))
                  .ret (.inl (.h12 y255 v32 (fn60 v0) v85)))) (
                let y256 : Bool := y164.1
                .ite y256 (
                  let y257 : Bool := (ieq v85.1 1)
                  .ite y257 (
                    let y258 : (List Int) := (v25.1.drop (v1).toNat)
                    let y259 : ((List Int) × (Bool × (Int × (Bool × (Int × (Int × Int)))))) := (y258, (true, y240))
                    let y260 : (Int × (Int × (Int × (Int × (Int × (Bool × Int)))))) := (fn60 v0).2
                    let y261 : (Int × (Int × (Int × (Int × (Int × (Int × (Bool × Int))))))) := ((fn60 v0).1, ((iadd .i64 y260.1 16), y260.2))
                    let y262 : (Int × (Int × (Int × (Int × (Int × (Int × (Bool × Int))))))) := (v85.1, ((iadd .i64 v85.2.1 16), v85.2.2))
                    .ret (.inl (.h12 y259 v32 y261 y262))) (
                    let y263 : (List Int) := (v25.1.drop (v1).toNat)
                    let y264 : ((List Int) × (Bool × (Int × (Bool × (Int × (Int × Int)))))) := (y263, (true, y240))
                    let y265 : (Int × (Int × (Int × (Int × (Int × (Bool × Int)))))) := (fn60 v0).2
                    let y266 : (Int × (Int × (Int × (Int × (Int × (Int × (Bool × Int))))))) := ((fn60 v0).1, ((iadd .i64 y265.1 16), y265.2))
                    .ret (.inl (.h12 y264 v32 y266 v85)))) (
                  let y267 : (List Int) := (v25.1.drop (v1).toNat)
                  let y268 : ((List Int) × (Bool × (Int × (Bool × (Int × (Int × Int)))))) := (y267, (true, y240))
                  .ret (.inl (.h12 y268 v32 (fn60 v0) v85))))) (
              let y269 : Bool := y164.1
              .ite y269 (
                let y270 : Bool := (ieq v85.1 1)
                .ite y270 (
                  let y271 : (List Int) := (v25.1.drop (v1).toNat)
                  let y272 : ((List Int) × (Bool × (Int × (Bool × (Int × (Int × Int)))))) := (y271, (false, y240))
                  let y273 : (Int × (Int × (Int × (Int × (Int × (Bool × Int)))))) := (fn60 v0).2
                  let y274 : (Int × (Int × (Int × (Int × (Int × (Int × (Bool × Int))))))) := ((fn60 v0).1, ((iadd .i64 y273.1 16), y273.2))
                  let y275 : (Int × (Int × (Int × (Int × (Int × (Int × (Bool × Int))))))) := (v85.1, ((iadd .i64 v85.2.1 16), v85.2.2))
                  .ret (.inl (.h12 y272 v32 y274 y275))) (
                  let y276 : (List Int) := (v25.1.drop (v1).toNat)
                  let y277 : ((List Int) × (Bool × (Int × (Bool × (Int × (Int × Int)))))) := (y276, (false, y240))
                  let y278 : (Int × (Int × (Int × (Int × (Int × (Bool × Int)))))) := (fn60 v0).2
                  let y279 : (Int × (Int × (Int × (Int × (Int × (Int × (Bool × Int))))))) := ((fn60 v0).1, ((iadd .i64 y278.1 16), y278.2))
                  .ret (.inl (.h12 y277 v32 y279 v85)))) (
                let y280 : (List Int) := (v25.1.drop (v1).toNat)
                let y281 : ((List Int) × (Bool × (Int × (Bool × (Int × (Int × Int)))))) := (y280, (false, y240))
                .ret (.inl (.h12 y281 v32 (fn60 v0) v85))))) (
            let y282 : Bool := y164.1
            .ite y282 (
              let y283 : Bool := (ieq v85.1 1)
              .ite y283 (
                let y284 : (List Int) := (v25.1.drop (v1).toNat)
                let y285 : (Int × (Bool × (Int × (Int × Int)))) := v25.2.2
                let y286 : ((List Int) × (Bool × (Int × (Bool × (Int × (Int × Int)))))) := (y284, (false, y285))
                let y287 : (Int × (Int × (Int × (Int × (Int × (Bool × Int)))))) := (fn60 v0).2
                let y288 : (Int × (Int × (Int × (Int × (Int × (Int × (Bool × Int))))))) := ((fn60 v0).1, ((iadd .i64 y287.1 16), y287.2))
                let y289 : (Int × (Int × (Int × (Int × (Int × (Int × (Bool × Int))))))) := (v85.1, ((iadd .i64 v85.2.1 16), v85.2.2))
                .ret (.inl (.h12 y286 v32 y288 y289))) (
                let y290 : (List Int) := (v25.1.drop (v1).toNat)
                let y291 : (Int × (Bool × (Int × (Int × Int)))) := v25.2.2
                let y292 : ((List Int) × (Bool × (Int × (Bool × (Int × (Int × Int)))))) := (y290, (false, y291))
                let y293 : (Int × (Int × (Int × (Int × (Int × (Bool × Int)))))) := (fn60 v0).2
                let y294 : (Int × (Int × (Int × (Int × (Int × (Int × (Bool × Int))))))) := ((fn60 v0).1, ((iadd .i64 y293.1 16), y293.2))
                .ret (.inl (.h12 y292 v32 y294 v85)))) (
              let y295 : (List Int) := (v25.1.drop (v1).toNat)
              let y296 : (Int × (Bool × (Int × (Int × Int)))) := v25.2.2
              let y297 : ((List Int) × (Bool × (Int × (Bool × (Int × (Int × Int)))))) := (y295, (false, y296))
              .ret (.inl (.h12 y297 v32 (fn60 v0) v85))))))) (
      let y298 : (Int × (Int × (Bool × (Bool × (Bool × Bool))))) := y0.2
      let y299 : (Bool × (Bool × Bool)) := y298.2.2.2
      let y300 : (Bool × Bool) := y299.2
      let y301 : Bool := (y300.2 == true)
      .ite y301 (
        let y302 : Bool := (ieq v85.1 1)
        let y303 : Bool := (y302 == false)
        .ite y303 (
          let y304 : Bool := (y300.1 == true)
          .ite y304 (
            let y305 : (Int × (Bool × (Int × (Int × Int)))) := v25.2.2
            let y306 : Bool := ((!y305.2.1) == true)
            .ite y306 (
              .need (pre93 v85) <|
              let y307 : Bool := ((fn93 v85) == false)
              .ite y307 (
                let y308 : Bool := y299.1
                .ite y308 (
                  .ite y302 (
                    let y309 : (List Int) := (v25.1.drop (v1).toNat)
                    let y310 : ((List Int) × (Bool × (Int × (Bool × (Int × (Int × Int)))))) := (y309, (false, y305))
                    let y311 : (Int × (Int × (Int × (Int × (Int × (Bool × Int)))))) := (fn60 v0).2
                    let y312 : (Int × (Int × (Int × (Int × (Int × (Int × (Bool × Int))))))) := ((fn60 v0).1, ((iadd .i64 y311.1 16), y311.2))
                    let y313 : (Int × (Int × (Int × (Int × (Int × (Int × (Bool × Int))))))) := (v85.1, ((iadd .i64 v85.2.1 16), v85.2.2))
                    .ret (.inl (.h12 y310 v32 y312 y313))) (
                    let y314 : (List Int) := (v25.1.drop (v1).toNat)
                    let y315 : ((List Int) × (Bool × (Int × (Bool × (Int × (Int × Int)))))) := (y314, (false, y305))
                    let y316 : (Int × (Int × (Int × (Int × (Int × (Bool × Int)))))) := (fn60 v0).2
                    let y317 : (Int × (Int × (Int × (Int × (Int × (Int × (Bool × Int))))))) := ((fn60 v0).1, ((iadd .i64 y316.1 16), y316.2))
                    .ret (.inl (.h12 y315 v32 y317 v85)))) (
                  let y318 : (List Int) := (v25.1.drop (v1).toNat)
                  let y319 : ((List Int) × (Bool × (Int × (Bool × (Int × (Int × Int)))))) := (y318, (false, y305))
                  .ret (.inl (.h12 y319 v32 (fn60 v0) v85)))) (
                let y320 : Bool := y299.1
                .ite y320 (
                  .ite y302 (
                    let y321 : (List Int) := (v25.1.drop (v1).toNat)
                    let y322 : ((List Int) × (Bool × (Int × (Bool × (Int × (Int × Int)))))) := (y321, (true, y305))
                    let y323 : (Int × (Int × (Int × (Int × (Int × (Bool × Int)))))) := (fn60 v0).2
                    let y324 : (Int × (Int × (Int × (Int × (Int × (Int × (Bool × Int))))))) := ((fn60 v0).1, ((iadd .i64 y323.1 16), y323.2))
                    let y325 : (Int × (Int × (Int × (Int × (Int × (Int × (Bool × Int))))))) := (v85.1, ((iadd .i64 v85.2.1 16), v85.2.2))
                    .ret (.inl (.h12 y322 v32 y324 y325))) (
                    let y326 : (List Int) := (v25.1.drop (v1).toNat)
                    let y327 : ((List Int) × (Bool × (Int × (Bool × (Int × (Int × Int)))))) := (y326, (true, y305))
                    let y328 : (Int × (Int × (Int × (Int × (Int × (Bool × Int)))))) := (fn60 v0).2
                    let y329 : (Int × (Int × (Int × (Int × (Int × (Int × (Bool × Int))))))) := ((fn60 v0).1, ((iadd .i64 y328.1 16), y328.2))
                    .ret (.inl (.h12 y327 v32 y329 v85)))) (
                  let y330 : (List Int) := (v25.1.drop (v1).toNat)
                  let y331 : ((List Int) × (Bool × (Int × (Bool × (Int × (Int × Int)))))) := (y330, (true, y305))
                  .ret (.inl (.h12 y331 v32 (fn60 v0) v85))))) (
              let y332 : Bool := y299.1
              .ite y332 (
                .ite y302 (
                  let y333 : (List Int) := (v25.1.drop (v1).toNat)
                  let y334 : ((List Int) × (Bool × (Int × (Bool × (Int × (Int × Int)))))) := (y333, (false, y305))
                  let y335 : (Int × (Int × (Int × (Int × (Int × (Bool × Int)))))) := (fn60 v0).2
                  let y336 : (Int × (Int × (Int × (Int × (Int × (Int × (Bool × Int))))))) := ((fn60 v0).1, ((iadd .i64 y335.1 16), y335.2))
                  let y337 : (Int × (Int × (Int × (Int × (Int × (Int × (Bool × Int))))))) := (v85.1, ((iadd .i64 v85.2.1 16), v85.2.2))
                  .ret (.inl (.h12 y334 v32 y336 y337))) (
                  let y338 : (List Int) := (v25.1.drop (v1).toNat)
                  let y339 : ((List Int) × (Bool × (Int × (Bool × (Int × (Int × Int)))))) := (y338, (false, y305))
                  let y340 : (Int × (Int × (Int × (Int × (Int × (Bool × Int)))))) := (fn60 v0).2
                  let y341 : (Int × (Int × (Int × (Int × (Int × (Int × (Bool × Int))))))) := ((fn60 v0).1, ((iadd .i64 y340.1 16), y340.2))
                  .ret (.inl (.h12 y339 v32 y341 v85)))) (
                let y342 : (List Int) := (v25.1.drop (v1).toNat)
                let y343 : ((List Int) × (Bool × (Int × (Bool × (Int × (Int × Int)))))) := (y342, (false, y305))
                .ret (.inl (.h12 y343 v32 (fn60 v0) v85))))) (
            let y344 : Bool := y299.1
            .ite y344 (
              .ite y302 (
                let y345 : (List Int) := (v25.1.drop (v1).toNat)
                let y346 : (Int × (Bool × (Int × (Int × Int)))) := v25.2.2
                let y347 : ((List Int) × (Bool × (Int × (Bool × (Int × (Int × Int)))))) := (y345, (false, y346))
                let y348 : (Int × (Int × (Int × (Int × (Int × (Bool × Int)))))) := (fn60 v0).2
                let y349 : (Int × (Int × (Int × (Int × (Int × (Int × (Bool × Int))))))) := ((fn60 v0).1, ((iadd .i64 y348.1 16), y348.2))
                let y350 : (Int × (Int × (Int × (Int × (Int × (Int × (Bool × Int))))))) := (v85.1, ((iadd .i64 v85.2.1 16), v85.2.2))
                .ret (.inl (.h12 y347 v32 y349 y350))) (
                let y351 : (List Int) := (v25.1.drop (v1).toNat)
                let y352 : (Int × (Bool × (Int × (Int × Int)))) := v25.2.2
                let y353 : ((List Int) × (Bool × (Int × (Bool × (Int × (Int × Int)))))) := (y351, (false, y352))
                let y354 : (Int × (Int × (Int × (Int × (Int × (Bool × Int)))))) := (fn60 v0).2
                let y355 : (Int × (Int × (Int × (Int × (Int × (Int × (Bool × Int))))))) := ((fn60 v0).1, ((iadd .i64 y354.1 16), y354.2))
                .ret (.inl (.h12 y353 v32 y355 v85)))) (
              let y356 : (List Int) := (v25.1.drop (v1).toNat)
              let y357 : (Int × (Bool × (Int × (Int × Int)))) := v25.2.2
              let y358 : ((List Int) × (Bool × (Int × (Bool × (Int × (Int × Int)))))) := (y356, (false, y357))
              .ret (.inl (.h12 y358 v32 (fn60 v0) v85))))) (
          let y359 : Bool := y299.1
          .ite y359 (
            .ite y302 (
              let y360 : (List Int) := (v25.1.drop (v1).toNat)
              let y361 : (Int × (Bool × (Int × (Int × Int)))) := v25.2.2
              let y362 : ((List Int) × (Bool × (Int × (Bool × (Int × (Int × Int)))))) := (y360, (true, y361))
              let y363 : (Int × (Int × (Int × (Int × (Int × (Bool × Int)))))) := (fn60 v0).2
              let y364 : (Int × (Int × (Int × (Int × (Int × (Int × (Bool × Int))))))) := ((fn60 v0).1, ((iadd .i64 y363.1 16), y363.2))
              let y365 : (Int × (Int × (Int × (Int × (Int × (Int × (Bool × Int))))))) := (v85.1, ((iadd .i64 v85.2.1 16), v85.2.2))
              .ret (.inl (.h12 y362 v32 y364 y365))) (
              let y366 : (List Int) := (v25.1.drop (v1).toNat)
              let y367 : (Int × (Bool × (Int × (Int × Int)))) := v25.2.2
              let y368 : ((List Int) × (Bool × (Int × (Bool × (Int × (Int × Int)))))) := (y366, (true, y367))
              let y369 : (Int × (Int × (Int × (Int × (Int × (Bool × Int)))))) := (fn60 v0).2
              let y370 : (Int × (Int × (Int × (Int × (Int × (Int × (Bool × Int))))))) := ((fn60 v0).1, ((iadd .i64 y369.1 16), y369.2))
              .ret (.inl (.h12 y368 v32 y370 v85)))) (
            let y371 : (List Int) := (v25.1.drop (v1).toNat)
            let y372 : (Int × (Bool × (Int × (Int × Int)))) := v25.2.2
            let y373 : ((List Int) × (Bool × (Int × (Bool × (Int × (Int × Int)))))) := (y371, (true, y372))
            .ret (.inl (.h12 y373 v32 (fn60 v0) v85))))) (
        let y374 : Bool := (y300.1 == true)
        .ite y374 (
          let y375 : (Int × (Bool × (Int × (Int × Int)))) := v25.2.2
          let y376 : Bool := ((!y375.2.1) == true)
          .ite y376 (
            .need (pre93 v85) <|
            let y377 : Bool := ((fn93 v85) == false)
            .ite y377 (
              let y378 : Bool := y299.1
              .ite y378 (
                let y379 : Bool := (ieq v85.1 1)
                .ite y379 (
                  let y380 : (List Int) := (v25.1.drop (v1).toNat)
                  let y381 : ((List Int) × (Bool × (Int × (Bool × (Int × (Int × Int)))))) := (y380, (false, y375))
                  let y382 : (Int × (Int × (Int × (Int × (Int × (Bool × Int)))))) := (fn60 v0).2
                  let y383 : (Int × (Int × (Int × (Int × (Int × (Int × (Bool × Int))))))) := ((fn60 v0).1, ((iadd .i64 y382.1 16), y382.2))
                  let y384 : (Int × (Int × (Int × (Int × (Int × (Int × (Bool × Int))))))) := (v85.1, ((iadd .i64 v85.2.1 16), v85.2.2))
                  .ret (.inl (.h12 y381 v32 y383 y384))) (
                  let y385 : (List Int) := (v25.1.drop (v1).toNat)
                  let y386 : ((List Int) × (Bool × (Int × (Bool × (Int × (Int × Int)))))) := (y385, (false, y375))
                  let y387 : (Int × (Int × (Int × (Int × (Int × (Bool × Int)))))) := (fn60 v0).2
                  let y388 : (Int × (Int × (Int × (Int × (Int × (Int × (Bool × Int))))))) := ((fn60 v0).1, ((iadd .i64 y387.1 16), y387.2))
                  .ret (.inl (.h12 y386 v32 y388 v85)))) (
                let y389 : (List Int) := (v25.1.drop (v1).toNat)
                let y390 : ((List Int) × (Bool × (Int × (Bool × (Int × (Int × Int)))))) := (y389, (false, y375))
                .ret (.inl (.h12 y390 v32 (fn60 v0) v85)))) (
              let y391 : Bool := y299.1
              .ite y391 (
                let y392 : Bool := (ieq v85.1 1)
                .ite y392 (
                  let y393 : (List Int) := (v25.1.drop (v1).toNat)
                  let y394 : ((List Int) × (Bool × (Int × (Bool × (Int × (Int × Int)))))) := (y393, (true, y375))
                  let y395 : (Int × (Int × (Int × (Int × (Int × (Bool × Int)))))) := (fn60 v0).2
                  let y396 : (Int × (Int × (Int × (Int × (Int × (Int × (Bool × Int))))))) := ((fn60 v0).1, ((iadd .i64 y395.1 16), y395.2))
                  let y397 : (Int × (Int × (Int × (Int × (Int × (Int × (Bool × Int))))))) := (v85.1, ((iadd .i64 v85.2.1 16), v85.2.2))
                  .ret (.inl (.h12 y394 v32 y396 y397))) (
                  let y398 : (List Int) := (v25.1.drop (v1).toNat)
                  let y399 : ((List Int) × (Bool × (Int × (Bool × (Int × (Int × Int)))))) := (y398, (true, y375))
                  let y400 : (Int × (Int × (Int × (Int × (Int × (Bool × Int)))))) := (fn60 v0).2
                  let y401 : (Int × (Int × (Int × (Int × (Int × (Int × (Bool × Int))))))) := ((fn60 v0).1, ((iadd .i64 y400.1 16), y400.2))
                  .ret (.inl (.h12 y399 v32 y401 v85)))) (
                let y402 : (List Int) := (v25.1.drop (v1).toNat)
                let y403 : ((List Int) × (Bool × (Int × (Bool × (Int × (Int × Int)))))) := (y402, (true, y375))
                .ret (.inl (.h12 y403 v32 (fn60 v0) v85))))) (
            let y404 : Bool := y299.1
            .ite y404 (
              let y405 : Bool := (ieq v85.1 1)
              .ite y405 (
                let y406 : (List Int) := (v25.1.drop (v1).toNat)
                let y407 : ((List Int) × (Bool × (Int × (Bool × (Int × (Int × Int)))))) := (y406, (false, y375))
                let y408 : (Int × (Int × (Int × (Int × (Int × (Bool × Int)))))) := (fn60 v0).2
                let y409 : (Int × (Int × (Int × (Int × (Int × (Int × (Bool × Int))))))) := ((fn60 v0).1, ((iadd .i64 y408.1 16), y408.2))
                let y410 : (Int × (Int × (Int × (Int × (Int × (Int × (Bool × Int))))))) := (v85.1, ((iadd .i64 v85.2.1 16), v85.2.2))
                .ret (.inl (.h12 y407 v32 y409 y410))) (
                let y411 : (List Int) := (v25.1.drop (v1).toNat)
                let y412 : ((List Int) × (Bool × (Int × (Bool × (Int × (Int × Int)))))) := (y411, (false, y375))
                let y413 : (Int × (Int × (Int × (Int × (Int × (Bool × Int)))))) := (fn60 v0).2
                let y414 : (Int × (Int × (Int × (Int × (Int × (Int × (Bool × Int))))))) := ((fn60 v0).1, ((iadd .i64 y413.1 16), y413.2))
                .ret (.inl (.h12 y412 v32 y414 v85)))) (
              let y415 : (List Int) := (v25.1.drop (v1).toNat)
              let y416 : ((List Int) × (Bool × (Int × (Bool × (Int × (Int × Int)))))) := (y415, (false, y375))
              .ret (.inl (.h12 y416 v32 (fn60 v0) v85))))) (
          let y417 : Bool := y299.1
          .ite y417 (
            let y418 : Bool := (ieq v85.1 1)
            .ite y418 (
              let y419 : (List Int) := (v25.1.drop (v1).toNat)
              let y420 : (Int × (Bool × (Int × (Int × Int)))) := v25.2.2
              let y421 : ((List Int) × (Bool × (Int × (Bool × (Int × (Int × Int)))))) := (y419, (false, y420))
              let y422 : (Int × (Int × (Int × (Int × (Int × (Bool × Int)))))) := (fn60 v0).2
              let y423 : (Int × (Int × (Int × (Int × (Int × (Int × (Bool × Int))))))) := ((fn60 v0).1, ((iadd .i64 y422.1 16), y422.2))
              let y424 : (Int × (Int × (Int × (Int × (Int × (Int × (Bool × Int))))))) := (v85.1, ((iadd .i64 v85.2.1 16), v85.2.2))
              .ret (.inl (.h12 y421 v32 y423 y424))) (
              let y425 : (List Int) := (v25.1.drop (v1).toNat)
              let y426 : (Int × (Bool × (Int × (Int × Int)))) := v25.2.2
              let y427 : ((List Int) × (Bool × (Int × (Bool × (Int × (Int × Int)))))) := (y425, (false, y426))
              let y428 : (Int × (Int × (Int × (Int × (Int × (Bool × Int)))))) := (fn60 v0).2
              let y429 : (Int × (Int × (Int × (Int × (Int × (Int × (Bool × Int))))))) := ((fn60 v0).1, ((iadd .i64 y428.1 16), y428.2))
              .ret (.inl (.h12 y427 v32 y429 v85)))) (
            let y430 : (List Int) := (v25.1.drop (v1).toNat)
            let y431 : (Int × (Bool × (Int × (Int × Int)))) := v25.2.2
            let y432 : ((List Int) × (Bool × (Int × (Bool × (Int × (Int × Int)))))) := (y430, (false, y431))
            .ret (.inl (.h12 y432 v32 (fn60 v0) v85))))))
  | .h10 v23 v30 v61 =>
    let y0 : (Int × (Int × (Int × (Int × (Int × (Bool × (Bool × (Bool × Bool)))))))) := v61.2.2.2.2.2
    let y1 : Int := y0.2.2.2.2.1
    .need ((0 : Int) ≤ y1) <|
    let y2 : Nat := (y1).toNat
    .need ((0 : Nat) ≤ y2) <|
    .need ((y2 : Nat) ≤ v23.1.length) <|
    let y3 : (List Int) := ((v23.1.drop 0).take (y2 - 0))
    .need (pre94 y3) <|
    .need ((0 : Int) ≤ y1) <|
    .need ((y2 : Nat) ≤ v23.1.length) <|
    let y4 : Int := y0.1
    .ite ((ile 16 y4) == true) (
      .ite (ile y4 20) (
        .ite v23.2.1 (
          let y5 : ((List Int) × (Bool × (Int × (Bool × (Int × (Int × Int)))))) := ((v23.1.drop y2), v23.2)
          let y6 : (Int × (Int × (Int × (Int × (Int × (Int × (Bool × Int))))))) := (0, (0, (0, (0, (0, (0, (false, 0)))))))
          let y7 : Int := (fn94 y3)
          let y8 : Int := (iconv .i64 y7)
          .ret (.inl (.h3 y5 v30 y6 y6 y8))) (
          let y9 : ((List Int) × (Bool × (Int × (Bool × (Int × (Int × Int)))))) := ((v23.1.drop y2), v23.2)
          let y10 : (Int × (Int × (Int × (Int × (Int × (Int × (Bool × Int))))))) := (0, (0, (0, (0, (0, (0, (false, 0)))))))
          let y11 : Int := (fn94 y3)
          let y12 : Int := (iconv .i64 y11)
          .ret (.inl (.h3 y9 v30 y10 y10 y12)))) (
        let y13 : Int := (fn94 y3)
        let y14 : ((List Int) × (Bool × (Int × (Bool × (Int × (Int × Int)))))) := ((v23.1.drop y2), v23.2)
        .ret (.inl (.h13 y13 y14 v30 v61)))) (
      let y15 : Int := (fn94 y3)
      let y16 : ((List Int) × (Bool × (Int × (Bool × (Int × (Int × Int)))))) := ((v23.1.drop y2), v23.2)
      .ret (.inl (.h13 y15 y16 v30 v61)))
  | .h11 v0 v1 v2 v19 v20 v21 v28 v42 v50 v58 =>
    .need ((0 : Int) ≤ 3) <|
    let y0 : (Int × (Int × Int)) := v21.2.2.2.2
    let y1 : Int := (iconv .i64 (ior .u8 (iand .u8 y0.2.2 7) (ishl .u8 (iand .u8 y0.1 1) 3)))
    .need (pre60 y1) <|
    .ret (.inl (.h14 v0 v1 v2 v19 v20 v28 v42 v50 v58 (fn60 y1)))
  | .h12 v23 v30 v61 v69 =>
    let y0 : Bool := v23.2.1
    .ite y0 (
      .ret (.inl (.h3 v23 v30 v61 v69 0))) (
      .need ((0 : Int) ≤ 3) <|
      .need ((3 : Int) < 4) <|
      .need ((0 : Int) ≤ 3) <|
      .need ((3 : Int) < 4) <|
      .ite (y0 == false) (
        .ite (ilt (v23.1.length : Int) v30.2.2.2.2.2.2.2.2.2.1) (
          let y1 : ((List Int) × (Bool × (Int × (Bool × (Int × (Int × Int)))))) := (v23.1, (true, v23.2.2))
          .ret (.inl (.h3 y1 v30 v61 v69 0))) (
          .ret (.inl (.h15 v23 v30 v61 v69 v30)))) (
        let y2 : ((List Int) × (Bool × (Int × (Bool × (Int × (Int × Int)))))) := (v23.1, (true, v23.2.2))
        .ret (.inl (.h3 y2 v30 v61 v69 0))))
  | .h13 v0 v24 v31 v62 =>
    let y0 : (Int × Int) := (v0, v62.2.2.2.2.2.2.2.2.2.1)
    .need (pre95 y0) <|
    .ite v24.2.1 (
      let y1 : (Int × (Int × (Int × (Int × (Int × (Int × (Bool × Int))))))) := (0, (0, (0, (0, (0, (0, (false, 0)))))))
      let y2 : Int := (iconv .i64 (fn95 y0))
      .ret (.inl (.h3 v24 v31 y1 y1 y2))) (
      let y3 : (Int × (Int × (Int × (Int × (Int × (Int × (Bool × Int))))))) := (0, (0, (0, (0, (0, (0, (false, 0)))))))
      let y4 : Int := (iconv .i64 (fn95 y0))
      .ret (.inl (.h3 v24 v31 y3 y3 y4)))
  | .h14 v0 v1 v2 v19 v20 v21 v35 v43 v51 v52 =>
    let y0 : Int := v21.2.2.2.2.2.2.2.2.1
    .need ((0 : Int) ≤ y0) <|
    .need ((y0 : Int) < 9) <|
    .ite (ieq y0 0) (
      .need ((0 : Int) ≤ 0) <|
      .need ((0 : Int) < 9) <|
      let y1 : (DOperand × (DOperand × (DOperand × (Int × (Int × (Int × (Int × (Int × (Int × (Bool × Int)))))))))) := (v35, (v43, (v52, (3, (0, ((-1), ((-1), (0, (0, (false, v51))))))))))
      .need (pre194 y1) <|
      let y2 : (DOperand × DOperand) := (fn194 y1)
      let y3 : (Int × Int) := (v19, v20)
      .ret (.inl (.h16 (v0, (v1, (v2, (y2.1, (y2.2, y3)))))))) (
      .ite (ieq y0 1) (
        .need ((0 : Int) ≤ 1) <|
        .need ((1 : Int) < 9) <|
        let y4 : (DOperand × (DOperand × (DOperand × (Int × (Int × (Int × (Int × (Int × (Int × (Bool × Int)))))))))) := (v35, (v43, (v52, (3, (0, ((-1), ((-1), (0, (0, (false, v51))))))))))
        .need (pre195 y4) <|
        let y5 : (DOperand × DOperand) := (fn195 y4)
        let y6 : (Int × Int) := (v19, v20)
        .ret (.inl (.h16 (v0, (v1, (v2, (y5.1, (y5.2, y6)))))))) (
        .ite (ieq y0 2) (
          .need ((0 : Int) ≤ 2) <|
          .need ((2 : Int) < 9) <|
          let y7 : (DOperand × (DOperand × (DOperand × (Int × (Int × (Int × (Int × (Int × (Int × (Bool × Int)))))))))) := (v35, (v43, (v52, (3, (0, ((-1), ((-1), (0, (0, (false, v51))))))))))
          .need (pre196 y7) <|
          let y8 : (DOperand × DOperand) := (fn196 y7)
          let y9 : (Int × Int) := (v19, v20)
          .ret (.inl (.h16 (v0, (v1, (v2, (y8.1, (y8.2, y9)))))))) (
          .ite (ieq y0 3) (
            .need ((0 : Int) ≤ 3) <|
            .need ((3 : Int) < 9) <|
            let y10 : (DOperand × (DOperand × (DOperand × (Int × (Int × (Int × (Int × (Int × (Int × (Bool × Int)))))))))) := (v35, (v43, (v52, (3, (0, ((-1), ((-1), (0, (0, (false, v51))))))))))
            .need (pre197 y10) <|
            let y11 : (DOperand × DOperand) := (fn197 y10)
            let y12 : (Int × Int) := (v19, v20)
            .ret (.inl (.h16 (v0, (v1, (v2, (y11.1, (y11.2, y12)))))))) (
            .ite (ieq y0 4) (
              .need ((0 : Int) ≤ 4) <|
              .need ((4 : Int) < 9) <|
              let y13 : (DOperand × (DOperand × (DOperand × (Int × (Int × (Int × (Int × (Int × (Int × (Bool × Int)))))))))) := (v35, (v43, (v52, (3, (0, ((-1), ((-1), (0, (0, (false, v51))))))))))
              .need (pre198 y13) <|
              let y14 : (DOperand × DOperand) := (fn198 y13)
              let y15 : (Int × Int) := (v19, v20)
              .ret (.inl (.h16 (v0, (v1, (v2, (y14.1, (y14.2, y15)))))))) (
              .ite (ieq y0 5) (
                .need ((0 : Int) ≤ 5) <|
                .need ((5 : Int) < 9) <|
                let y16 : (DOperand × (DOperand × (DOperand × (Int × (Int × (Int × (Int × (Int × (Int × (Bool × Int)))))))))) := (v35, (v43, (v52, (3, (0, ((-1), ((-1), (0, (0, (false, v51))))))))))
                .need (pre199 y16) <|
                let y17 : (DOperand × DOperand) := (fn199 y16)
                let y18 : (Int × Int) := (v19, v20)
                .ret (.inl (.h16 (v0, (v1, (v2, (y17.1, (y17.2, y18)))))))) (
                .ite (ieq y0 6) (
                  .need ((0 : Int) ≤ 6) <|
                  .need ((6 : Int) < 9) <|
                  let y19 : (DOperand × (DOperand × (DOperand × (Int × (Int × (Int × (Int × (Int × (Int × (Bool × Int)))))))))) := (v35, (v43, (v52, (3, (0, ((-1), ((-1), (0, (0, (false, v51))))))))))
                  .need (pre200 y19) <|
                  let y20 : (DOperand × DOperand) := (fn200 y19)
                  let y21 : (Int × Int) := (v19, v20)
                  .ret (.inl (.h16 (v0, (v1, (v2, (y20.1, (y20.2, y21)))))))) (
                  .ite (ieq y0 7) (
                    .need ((0 : Int) ≤ 7) <|
                    .need ((7 : Int) < 9) <|
                    let y22 : (DOperand × (DOperand × (DOperand × (Int × (Int × (Int × (Int × (Int × (Int × (Bool × Int)))))))))) := (v35, (v43, (v52, (3, (0, ((-1), ((-1), (0, (0, (false, v51))))))))))
                    .need (pre201 y22) <|
                    let y23 : (DOperand × DOperand) := (fn201 y22)
                    let y24 : (Int × Int) := (v19, v20)
                    .ret (.inl (.h16 (v0, (v1, (v2, (y23.1, (y23.2, y24)))))))) (
                    .need ((0 : Int) ≤ 8) <|
                    .need ((8 : Int) < 9) <|
                    let y25 : (DOperand × (DOperand × (DOperand × (Int × (Int × (Int × (Int × (Int × (Int × (Bool × Int)))))))))) := (v35, (v43, (v52, (3, (0, ((-1), ((-1), (0, (0, (false, v51))))))))))
                    .need (pre202 y25) <|
                    let y26 : (DOperand × DOperand) := (fn202 y25)
                    let y27 : (Int × Int) := (v19, v20)
                    .ret (.inl (.h16 (v0, (v1, (v2, (y26.1, (y26.2, y27)))))))))))))))
  | .h15 v23 v30 v44 v52 v61 =>
    .ite (ieq v61.2.2.2.2.2.2.2.2.2.1 0) (
      .ite v23.2.1 (
        .ret (.inl (.h3 v23 v30 v44 v52 0))) (
        .ret (.inl (.h3 v23 v30 v44 v52 0)))) (
      .ret (.inl (.h17 v23 v30 v44 v52 v61)))
  | .h16 v0 =>
    .ret (.inr (v0, 0))
  | .h17 v23 v30 v44 v52 v61 =>
    let y0 : (Int × (Int × (Int × (Int × (Int × (Bool × (Bool × (Bool × Bool)))))))) := v61.2.2.2.2.2
    let y1 : Int := y0.2.2.2.2.1
    .need ((0 : Int) ≤ y1) <|
    let y2 : Nat := (y1).toNat
    .need ((0 : Nat) ≤ y2) <|
    .need ((y2 : Nat) ≤ v23.1.length) <|
    let y3 : (List Int) := ((v23.1.drop 0).take (y2 - 0))
    .need (pre94 y3) <|
    .need ((0 : Int) ≤ y1) <|
    .need ((y2 : Nat) ≤ v23.1.length) <|
    let y4 : Int := y0.1
    .ite ((ile 16 y4) == true) (
      .ite (ile y4 20) (
        .ite v23.2.1 (
          let y5 : ((List Int) × (Bool × (Int × (Bool × (Int × (Int × Int)))))) := ((v23.1.drop y2), v23.2)
          let y6 : Int := (fn94 y3)
          let y7 : Int := (iconv .i64 y6)
          .ret (.inl (.h3 y5 v30 v44 v52 y7))) (
          let y8 : ((List Int) × (Bool × (Int × (Bool × (Int × (Int × Int)))))) := ((v23.1.drop y2), v23.2)
          let y9 : Int := (fn94 y3)
          let y10 : Int := (iconv .i64 y9)
          .ret (.inl (.h3 y8 v30 v44 v52 y10)))) (
        let y11 : Int := (fn94 y3)
        let y12 : ((List Int) × (Bool × (Int × (Bool × (Int × (Int × Int)))))) := ((v23.1.drop y2), v23.2)
        .ret (.inl (.h18 y11 y12 v30 v44 v52 v61)))) (
      let y13 : Int := (fn94 y3)
      let y14 : ((List Int) × (Bool × (Int × (Bool × (Int × (Int × Int)))))) := ((v23.1.drop y2), v23.2)
      .ret (.inl (.h18 y13 y14 v30 v44 v52 v61)))
  | .h18 v0 v24 v31 v45 v53 v62 =>
    let y0 : (Int × Int) := (v0, v62.2.2.2.2.2.2.2.2.2.1)
    .need (pre95 y0) <|
    .ite v24.2.1 (
      let y1 : Int := (iconv .i64 (fn95 y0))
      .ret (.inl (.h3 v24 v31 v45 v53 y1))) (
      let y2 : Int := (iconv .i64 (fn95 y0))
      .ret (.inl (.h3 v24 v31 v45 v53 y2)))
noncomputable def head27 (x : (List Int)) : J27 → Head
  | .h0 v23 v25 =>
    { fr := { id := 53, kind := (.call (some 25)), T := [(.ptr 1 [])] ++ List.replicate 80 .any, items := [.code (subc [1, 0, 0] (bodyOf Tryd.f53)), .code (subc [1, 0, 1] (bodyOf Tryd.f53)), .code (subc [1, 1] (bodyOf Tryd.f53))], D := [], base := 7 },
      stk := [{ id := 27, kind := .top, T := [(.fsl (.int .u8) x), .any, (.ptr 0 []), .any, (.ptr 2 []), (.ptr 3 []), (.ptr 4 []), (.ptr 5 []), (.ptr 6 [])] ++ List.replicate 11 .any ++ [(.agg [1, 1, 1, 1] [(.bnd 53 [(.ptr 1 [])]), (.fn 54 [(.ptr 2 []), (.ptr 3 [])]), (.fn 56 [(.ptr 3 []), (.ptr 2 []), (.ptr 4 []), (.ptr 5 [])]), (.fn 58 [(.ptr 2 []), (.ptr 3 []), (.ptr 6 [])])]), (.int .i64 0)] ++ List.replicate 77 .any, items := [.ops (opsOf (subc [1, 0, 1, 1, 1, 1, 1, 0, 1, 0, 0, 1, 1, 0, 0, 1, 0] (bodyOf Tryd.f27))) ((opsOf (subc [1, 0, 1, 1, 1, 1, 1, 0, 1, 0, 0, 1, 1, 0, 0, 1, 0] (bodyOf Tryd.f27))).drop 2), .code (subc [1, 0, 1, 1, 1, 1, 1, 0, 1, 0, 0, 1, 1, 0, 0, 1, 1] (bodyOf Tryd.f27)), .blk 1, .code (subc [1, 0, 1, 1, 1, 1, 1, 0, 1, 0, 0, 1, 1, 1] (bodyOf Tryd.f27)), .lp (subc [1, 0, 1, 1, 1, 1, 1, 0, 1, 0, 0] (bodyOf Tryd.f27)), .blk 0, .code (subc [1, 0, 1, 1, 1, 1, 1, 1] (bodyOf Tryd.f27)), .scp], D := [], base := 0 }],
      H := [.cell true 25 (.agg [1, 1, 1, 8, 8, 1, 1] [(.int .u8 0), (.int .u8 0), (.int .i64 0), (.agg [1, 1, 1, 1, 1, 1, 1, 1] [(.int .u8 0), (.int .i64 0), (.int .i64 0), (.int .i64 0), (.int .i64 0), (.int .i64 0), (.bool false), (.int .i64 0)]), (.agg [1, 1, 1, 1, 1, 1, 1, 1] [(.int .u8 0), (.int .i64 0), (.int .i64 0), (.int .i64 0), (.int .i64 0), (.int .i64 0), (.bool false), (.int .i64 0)]), (.int .u8 0), (.int .i64 0)]), .cell true 89 (.agg [1, 1, 1, 1, 1, 1, 1] [(.fsl (.int .u8) v23), (.bool false), (.int .u8 v25), (.bool false), (.int .u8 0), (.int .u8 0), (.int .u8 0)]), .cell true 87 (.ptr 1 []), .cell true 51 (.agg [1, 1, 1, 1, 1, 1, 1, 1, 1, 1, 1, 1, 1, 1] [(.int .u8 0), (.int .u8 0), (.int .u8 0), (.bool false), (.int .i64 0), (.int .u8 0), (.int .u8 0), (.int .i64 0), (.int .u8 0), (.int .i64 0), (.bool false), (.bool false), (.bool false), (.bool false)]), .cell true 23 (.agg [1, 1, 1, 1, 1, 1, 1, 1] [(.int .u8 0), (.int .i64 0), (.int .i64 0), (.int .i64 0), (.int .i64 0), (.int .i64 0), (.bool false), (.int .i64 0)]), .cell true 23 (.agg [1, 1, 1, 1, 1, 1, 1, 1] [(.int .u8 0), (.int .i64 0), (.int .i64 0), (.int .i64 0), (.int .i64 0), (.int .i64 0), (.bool false), (.int .i64 0)]), .cell true 2 (.int .i64 0)] }
  | .h1 v23 v25 v26 v27 =>
    { fr := { id := 53, kind := (.call (some 25)), T := [(.ptr 1 [])] ++ List.replicate 80 .any, items := [.code (subc [1, 1, 0, 0] (bodyOf Tryd.f53)), .code (subc [1, 1, 0, 1] (bodyOf Tryd.f53)), .code (subc [1, 1, 1] (bodyOf Tryd.f53))], D := [], base := 7 },
      stk := [{ id := 27, kind := .top, T := [(.fsl (.int .u8) x), .any, (.ptr 0 []), .any, (.ptr 2 []), (.ptr 3 []), (.ptr 4 []), (.ptr 5 []), (.ptr 6 [])] ++ List.replicate 11 .any ++ [(.agg [1, 1, 1, 1] [(.bnd 53 [(.ptr 1 [])]), (.fn 54 [(.ptr 2 []), (.ptr 3 [])]), (.fn 56 [(.ptr 3 []), (.ptr 2 []), (.ptr 4 []), (.ptr 5 [])]), (.fn 58 [(.ptr 2 []), (.ptr 3 []), (.ptr 6 [])])]), (.int .i64 0)] ++ List.replicate 77 .any, items := [.ops (opsOf (subc [1, 0, 1, 1, 1, 1, 1, 0, 1, 0, 0, 1, 1, 0, 0, 1, 0] (bodyOf Tryd.f27))) ((opsOf (subc [1, 0, 1, 1, 1, 1, 1, 0, 1, 0, 0, 1, 1, 0, 0, 1, 0] (bodyOf Tryd.f27))).drop 2), .code (subc [1, 0, 1, 1, 1, 1, 1, 0, 1, 0, 0, 1, 1, 0, 0, 1, 1] (bodyOf Tryd.f27)), .blk 1, .code (subc [1, 0, 1, 1, 1, 1, 1, 0, 1, 0, 0, 1, 1, 1] (bodyOf Tryd.f27)), .lp (subc [1, 0, 1, 1, 1, 1, 1, 0, 1, 0, 0] (bodyOf Tryd.f27)), .blk 0, .code (subc [1, 0, 1, 1, 1, 1, 1, 1] (bodyOf Tryd.f27)), .scp], D := [], base := 0 }],
      H := [.cell true 25 (.agg [1, 1, 1, 8, 8, 1, 1] [(.int .u8 0), (.int .u8 0), (.int .i64 0), (.agg [1, 1, 1, 1, 1, 1, 1, 1] [(.int .u8 0), (.int .i64 0), (.int .i64 0), (.int .i64 0), (.int .i64 0), (.int .i64 0), (.bool false), (.int .i64 0)]), (.agg [1, 1, 1, 1, 1, 1, 1, 1] [(.int .u8 0), (.int .i64 0), (.int .i64 0), (.int .i64 0), (.int .i64 0), (.int .i64 0), (.bool false), (.int .i64 0)]), (.int .u8 0), (.int .i64 0)]), .cell true 89 (.agg [1, 1, 1, 1, 1, 1, 1] [(.fsl (.int .u8) v23), (.bool false), (.int .u8 v25), (.bool v26), (.int .u8 v27), (.int .u8 0), (.int .u8 0)]), .cell true 87 (.ptr 1 []), .cell true 51 (.agg [1, 1, 1, 1, 1, 1, 1, 1, 1, 1, 1, 1, 1, 1] [(.int .u8 0), (.int .u8 0), (.int .u8 0), (.bool false), (.int .i64 0), (.int .u8 0), (.int .u8 0), (.int .i64 0), (.int .u8 0), (.int .i64 0), (.bool false), (.bool false), (.bool false), (.bool false)]), .cell true 23 (.agg [1, 1, 1, 1, 1, 1, 1, 1] [(.int .u8 0), (.int .i64 0), (.int .i64 0), (.int .i64 0), (.int .i64 0), (.int .i64 0), (.bool false), (.int .i64 0)]), .cell true 23 (.agg [1, 1, 1, 1, 1, 1, 1, 1] [(.int .u8 0), (.int .i64 0), (.int .i64 0), (.int .i64 0), (.int .i64 0), (.int .i64 0), (.bool false), (.int .i64 0)]), .cell true 2 (.int .i64 0)] }
  | .h2 v23 v25 v26 v27 v28 =>
    { fr := { id := 53, kind := (.call (some 25)), T := [(.ptr 1 [])] ++ List.replicate 80 .any, items := [.code (subc [1, 1, 1, 0] (bodyOf Tryd.f53)), .code (subc [1, 1, 1, 1] (bodyOf Tryd.f53))], D := [], base := 7 },
      stk := [{ id := 27, kind := .top, T := [(.fsl (.int .u8) x), .any, (.ptr 0 []), .any, (.ptr 2 []), (.ptr 3 []), (.ptr 4 []), (.ptr 5 []), (.ptr 6 [])] ++ List.replicate 11 .any ++ [(.agg [1, 1, 1, 1] [(.bnd 53 [(.ptr 1 [])]), (.fn 54 [(.ptr 2 []), (.ptr 3 [])]), (.fn 56 [(.ptr 3 []), (.ptr 2 []), (.ptr 4 []), (.ptr 5 [])]), (.fn 58 [(.ptr 2 []), (.ptr 3 []), (.ptr 6 [])])]), (.int .i64 0)] ++ List.replicate 77 .any, items := [.ops (opsOf (subc [1, 0, 1, 1, 1, 1, 1, 0, 1, 0, 0, 1, 1, 0, 0, 1, 0] (bodyOf Tryd.f27))) ((opsOf (subc [1, 0, 1, 1, 1, 1, 1, 0, 1, 0, 0, 1, 1, 0, 0, 1, 0] (bodyOf Tryd.f27))).drop 2), .code (subc [1, 0, 1, 1, 1, 1, 1, 0, 1, 0, 0, 1, 1, 0, 0, 1, 1] (bodyOf Tryd.f27)), .blk 1, .code (subc [1, 0, 1, 1, 1, 1, 1, 0, 1, 0, 0, 1, 1, 1] (bodyOf Tryd.f27)), .lp (subc [1, 0, 1, 1, 1, 1, 1, 0, 1, 0, 0] (bodyOf Tryd.f27)), .blk 0, .code (subc [1, 0, 1, 1, 1, 1, 1, 1] (bodyOf Tryd.f27)), .scp], D := [], base := 0 }],
      H := [.cell true 25 (.agg [1, 1, 1, 8, 8, 1, 1] [(.int .u8 0), (.int .u8 0), (.int .i64 0), (.agg [1, 1, 1, 1, 1, 1, 1, 1] [(.int .u8 0), (.int .i64 0), (.int .i64 0), (.int .i64 0), (.int .i64 0), (.int .i64 0), (.bool false), (.int .i64 0)]), (.agg [1, 1, 1, 1, 1, 1, 1, 1] [(.int .u8 0), (.int .i64 0), (.int .i64 0), (.int .i64 0), (.int .i64 0), (.int .i64 0), (.bool false), (.int .i64 0)]), (.int .u8 0), (.int .i64 0)]), .cell true 89 (.agg [1, 1, 1, 1, 1, 1, 1] [(.fsl (.int .u8) v23), (.bool false), (.int .u8 v25), (.bool v26), (.int .u8 v27), (.int .u8 v28), (.int .u8 0)]), .cell true 87 (.ptr 1 []), .cell true 51 (.agg [1, 1, 1, 1, 1, 1, 1, 1, 1, 1, 1, 1, 1, 1] [(.int .u8 0), (.int .u8 0), (.int .u8 0), (.bool false), (.int .i64 0), (.int .u8 0), (.int .u8 0), (.int .i64 0), (.int .u8 0), (.int .i64 0), (.bool false), (.bool false), (.bool false), (.bool false)]), .cell true 23 (.agg [1, 1, 1, 1, 1, 1, 1, 1] [(.int .u8 0), (.int .i64 0), (.int .i64 0), (.int .i64 0), (.int .i64 0), (.int .i64 0), (.bool false), (.int .i64 0)]), .cell true 23 (.agg [1, 1, 1, 1, 1, 1, 1, 1] [(.int .u8 0), (.int .i64 0), (.int .i64 0), (.int .i64 0), (.int .i64 0), (.int .i64 0), (.bool false), (.int .i64 0)]), .cell true 2 (.int .i64 0)] }
  | .h3 v22 v29 v43 v51 v59 =>
    { fr := { id := 27, kind := .top, T := [(.fsl (.int .u8) x), .any, (.ptr 0 []), .any, (.ptr 1 []), (.ptr 3 []), (.ptr 4 []), (.ptr 5 []), (.ptr 6 [])] ++ List.replicate 90 .any, items := [.code (subc [1, 0, 1, 1, 1, 1, 1, 1, 0, 0] (bodyOf Tryd.f27)), .code (subc [1, 0, 1, 1, 1, 1, 1, 1, 0, 1] (bodyOf Tryd.f27)), .code (subc [1, 0, 1, 1, 1, 1, 1, 1, 1] (bodyOf Tryd.f27)), .scp], D := [], base := 0 },
      stk := [],
      H := [.cell true 25 (.agg [1, 1, 1, 8, 8, 1, 1] [(.int .u8 0), (.int .u8 0), (.int .i64 0), (.agg [1, 1, 1, 1, 1, 1, 1, 1] [(.int .u8 0), (.int .i64 0), (.int .i64 0), (.int .i64 0), (.int .i64 0), (.int .i64 0), (.bool false), (.int .i64 0)]), (.agg [1, 1, 1, 1, 1, 1, 1, 1] [(.int .u8 0), (.int .i64 0), (.int .i64 0), (.int .i64 0), (.int .i64 0), (.int .i64 0), (.bool false), (.int .i64 0)]), (.int .u8 0), (.int .i64 0)]), .cell true 87 (.ptr 2 []), .cell true 89 (.agg [1, 1, 1, 1, 1, 1, 1] [(.fsl (.int .u8) v22.1), (.bool v22.2.1), (.int .u8 v22.2.2.1), (.bool v22.2.2.2.1), (.int .u8 v22.2.2.2.2.1), (.int .u8 v22.2.2.2.2.2.1), (.int .u8 v22.2.2.2.2.2.2)]), .cell true 51 (.agg [1, 1, 1, 1, 1, 1, 1, 1, 1, 1, 1, 1, 1, 1] [(.int .u8 v29.1), (.int .u8 v29.2.1), (.int .u8 v29.2.2.1), (.bool v29.2.2.2.1), (.int .i64 v29.2.2.2.2.1), (.int .u8 v29.2.2.2.2.2.1), (.int .u8 v29.2.2.2.2.2.2.1), (.int .i64 v29.2.2.2.2.2.2.2.1), (.int .u8 v29.2.2.2.2.2.2.2.2.1), (.int .i64 v29.2.2.2.2.2.2.2.2.2.1), (.bool v29.2.2.2.2.2.2.2.2.2.2.1), (.bool v29.2.2.2.2.2.2.2.2.2.2.2.1), (.bool v29.2.2.2.2.2.2.2.2.2.2.2.2.1), (.bool v29.2.2.2.2.2.2.2.2.2.2.2.2.2)]), .cell true 23 (.agg [1, 1, 1, 1, 1, 1, 1, 1] [(.int .u8 v43.1), (.int .i64 v43.2.1), (.int .i64 v43.2.2.1), (.int .i64 v43.2.2.2.1), (.int .i64 v43.2.2.2.2.1), (.int .i64 v43.2.2.2.2.2.1), (.bool v43.2.2.2.2.2.2.1), (.int .i64 v43.2.2.2.2.2.2.2)]), .cell true 23 (.agg [1, 1, 1, 1, 1, 1, 1, 1] [(.int .u8 v51.1), (.int .i64 v51.2.1), (.int .i64 v51.2.2.1), (.int .i64 v51.2.2.2.1), (.int .i64 v51.2.2.2.2.1), (.int .i64 v51.2.2.2.2.2.1), (.bool v51.2.2.2.2.2.2.1), (.int .i64 v51.2.2.2.2.2.2.2)]), .cell true 2 (.int .i64 v59)] }
  | .h4 v0 v24 v26 v27 v28 v29 v30 =>
    { fr := { id := 55, kind := (.call (some 3)), T := [(.ptr 1 []), .any, (.ptr 7 []), (.int .i64 v0)] ++ List.replicate 57 .any, items := [.code (subc [1, 1, 1, 0] (bodyOf Tryd.f55)), .code (subc [1, 1, 1, 1] (bodyOf Tryd.f55))], D := [], base := 7 },
      stk := [{ id := 54, kind := (.call (some 25)), T := [.any, (.ptr 3 []), .any, .undef], items := [.ops (opsOf (subc [] (bodyOf Tryd.f54))) ((opsOf (subc [] (bodyOf Tryd.f54))).drop 2)], D := [], base := 7 }, { id := 27, kind := .top, T := [(.fsl (.int .u8) x), .any, (.ptr 0 []), .any, (.ptr 2 []), (.ptr 3 []), (.ptr 4 []), (.ptr 5 []), (.ptr 6 [])] ++ List.replicate 11 .any ++ [(.agg [1, 1, 1, 1] [(.bnd 53 [(.ptr 1 [])]), (.fn 54 [(.ptr 2 []), (.ptr 3 [])]), (.fn 56 [(.ptr 3 []), (.ptr 2 []), (.ptr 4 []), (.ptr 5 [])]), (.fn 58 [(.ptr 2 []), (.ptr 3 []), (.ptr 6 [])])]), (.int .i64 1)] ++ List.replicate 77 .any, items := [.ops (opsOf (subc [1, 0, 1, 1, 1, 1, 1, 0, 1, 0, 0, 1, 1, 0, 0, 1, 0] (bodyOf Tryd.f27))) ((opsOf (subc [1, 0, 1, 1, 1, 1, 1, 0, 1, 0, 0, 1, 1, 0, 0, 1, 0] (bodyOf Tryd.f27))).drop 2), .code (subc [1, 0, 1, 1, 1, 1, 1, 0, 1, 0, 0, 1, 1, 0, 0, 1, 1] (bodyOf Tryd.f27)), .blk 1, .code (subc [1, 0, 1, 1, 1, 1, 1, 0, 1, 0, 0, 1, 1, 1] (bodyOf Tryd.f27)), .lp (subc [1, 0, 1, 1, 1, 1, 1, 0, 1, 0, 0] (bodyOf Tryd.f27)), .blk 0, .code (subc [1, 0, 1, 1, 1, 1, 1, 1] (bodyOf Tryd.f27)), .scp], D := [], base := 0 }],
      H := [.cell true 25 (.agg [1, 1, 1, 8, 8, 1, 1] [(.int .u8 0), (.int .u8 0), (.int .i64 0), (.agg [1, 1, 1, 1, 1, 1, 1, 1] [(.int .u8 0), (.int .i64 0), (.int .i64 0), (.int .i64 0), (.int .i64 0), (.int .i64 0), (.bool false), (.int .i64 0)]), (.agg [1, 1, 1, 1, 1, 1, 1, 1] [(.int .u8 0), (.int .i64 0), (.int .i64 0), (.int .i64 0), (.int .i64 0), (.int .i64 0), (.bool false), (.int .i64 0)]), (.int .u8 0), (.int .i64 0)]), .cell true 89 (.agg [1, 1, 1, 1, 1, 1, 1] [(.fsl (.int .u8) v24), (.bool false), (.int .u8 v26), (.bool v27), (.int .u8 v28), (.int .u8 v29), (.int .u8 v30)]), .cell true 87 (.ptr 1 []), .cell true 51 (.agg [1, 1, 1, 1, 1, 1, 1, 1, 1, 1, 1, 1, 1, 1] [(.int .u8 0), (.int .u8 0), (.int .u8 0), (.bool false), (.int .i64 0), (.int .u8 0), (.int .u8 0), (.int .i64 0), (.int .u8 0), (.int .i64 0), (.bool false), (.bool false), (.bool false), (.bool false)]), .cell true 23 (.agg [1, 1, 1, 1, 1, 1, 1, 1] [(.int .u8 0), (.int .i64 0), (.int .i64 0), (.int .i64 0), (.int .i64 0), (.int .i64 0), (.bool false), (.int .i64 0)]), .cell true 23 (.agg [1, 1, 1, 1, 1, 1, 1, 1] [(.int .u8 0), (.int .i64 0), (.int .i64 0), (.int .i64 0), (.int .i64 0), (.int .i64 0), (.bool false), (.int .i64 0)]), .cell true 2 (.int .i64 0), .cell true 51 (.agg [1, 1, 1, 1, 1, 1, 1, 1, 1, 1, 1, 1, 1, 1] [(.int .u8 0), (.int .u8 0), (.int .u8 0), (.bool false), (.int .i64 0), (.int .u8 0), (.int .u8 0), (.int .i64 0), (.int .u8 0), (.int .i64 0), (.bool false), (.bool false), (.bool false), (.bool false)])] }
  | .h5 v22 v29 v43 v51 v59 =>
    { fr := { id := 27, kind := .top, T := [(.fsl (.int .u8) x), .any, (.ptr 0 []), .any, (.ptr 1 []), (.ptr 3 []), (.ptr 4 []), (.ptr 5 []), (.ptr 6 [])] ++ List.replicate 90 .any, items := [.code (subc [1, 0, 1, 1, 1, 1, 1, 1, 1, 0] (bodyOf Tryd.f27)), .code (subc [1, 0, 1, 1, 1, 1, 1, 1, 1, 1] (bodyOf Tryd.f27)), .scp], D := [], base := 0 },
      stk := [],
      H := [.cell true 25 (.agg [1, 1, 1, 8, 8, 1, 1] [(.int .u8 0), (.int .u8 0), (.int .i64 0), (.agg [1, 1, 1, 1, 1, 1, 1, 1] [(.int .u8 0), (.int .i64 0), (.int .i64 0), (.int .i64 0), (.int .i64 0), (.int .i64 0), (.bool false), (.int .i64 0)]), (.agg [1, 1, 1, 1, 1, 1, 1, 1] [(.int .u8 0), (.int .i64 0), (.int .i64 0), (.int .i64 0), (.int .i64 0), (.int .i64 0), (.bool false), (.int .i64 0)]), (.int .u8 0), (.int .i64 0)]), .cell true 87 (.ptr 2 []), .cell true 89 (.agg [1, 1, 1, 1, 1, 1, 1] [(.fsl (.int .u8) v22.1), (.bool v22.2.1), (.int .u8 v22.2.2.1), (.bool v22.2.2.2.1), (.int .u8 v22.2.2.2.2.1), (.int .u8 v22.2.2.2.2.2.1), (.int .u8 v22.2.2.2.2.2.2)]), .cell true 51 (.agg [1, 1, 1, 1, 1, 1, 1, 1, 1, 1, 1, 1, 1, 1] [(.int .u8 v29.1), (.int .u8 v29.2.1), (.int .u8 v29.2.2.1), (.bool v29.2.2.2.1), (.int .i64 v29.2.2.2.2.1), (.int .u8 v29.2.2.2.2.2.1), (.int .u8 v29.2.2.2.2.2.2.1), (.int .i64 v29.2.2.2.2.2.2.2.1), (.int .u8 v29.2.2.2.2.2.2.2.2.1), (.int .i64 v29.2.2.2.2.2.2.2.2.2.1), (.bool v29.2.2.2.2.2.2.2.2.2.2.1), (.bool v29.2.2.2.2.2.2.2.2.2.2.2.1), (.bool v29.2.2.2.2.2.2.2.2.2.2.2.2.1), (.bool v29.2.2.2.2.2.2.2.2.2.2.2.2.2)]), .cell true 23 (.agg [1, 1, 1, 1, 1, 1, 1, 1] [(.int .u8 v43.1), (.int .i64 v43.2.1), (.int .i64 v43.2.2.1), (.int .i64 v43.2.2.2.1), (.int .i64 v43.2.2.2.2.1), (.int .i64 v43.2.2.2.2.2.1), (.bool v43.2.2.2.2.2.2.1), (.int .i64 v43.2.2.2.2.2.2.2)]), .cell true 23 (.agg [1, 1, 1, 1, 1, 1, 1, 1] [(.int .u8 v51.1), (.int .i64 v51.2.1), (.int .i64 v51.2.2.1), (.int .i64 v51.2.2.2.1), (.int .i64 v51.2.2.2.2.1), (.int .i64 v51.2.2.2.2.2.1), (.bool v51.2.2.2.2.2.2.1), (.int .i64 v51.2.2.2.2.2.2.2)]), .cell true 2 (.int .i64 v59)] }
  | .h6 v23 v30 =>
    { fr := { id := 56, kind := (.call (some 25)), T := [(.ptr 3 []), (.ptr 2 []), (.ptr 4 []), (.ptr 5 [])] ++ List.replicate 14 .any, items := [.code (subc [1, 0, 1, 0] (bodyOf Tryd.f56)), .blk 0], D := [], base := 8 },
      stk := [{ id := 27, kind := .top, T := [(.fsl (.int .u8) x), .any, (.ptr 0 []), .any, (.ptr 2 []), (.ptr 3 []), (.ptr 4 []), (.ptr 5 []), (.ptr 6 [])] ++ List.replicate 11 .any ++ [(.agg [1, 1, 1, 1] [(.bnd 53 [(.ptr 1 [])]), (.fn 54 [(.ptr 2 []), (.ptr 3 [])]), (.fn 56 [(.ptr 3 []), (.ptr 2 []), (.ptr 4 []), (.ptr 5 [])]), (.fn 58 [(.ptr 2 []), (.ptr 3 []), (.ptr 6 [])])]), (.int .i64 2)] ++ List.replicate 77 .any, items := [.ops (opsOf (subc [1, 0, 1, 1, 1, 1, 1, 0, 1, 0, 0, 1, 1, 0, 0, 1, 0] (bodyOf Tryd.f27))) ((opsOf (subc [1, 0, 1, 1, 1, 1, 1, 0, 1, 0, 0, 1, 1, 0, 0, 1, 0] (bodyOf Tryd.f27))).drop 2), .code (subc [1, 0, 1, 1, 1, 1, 1, 0, 1, 0, 0, 1, 1, 0, 0, 1, 1] (bodyOf Tryd.f27)), .blk 1, .code (subc [1, 0, 1, 1, 1, 1, 1, 0, 1, 0, 0, 1, 1, 1] (bodyOf Tryd.f27)), .lp (subc [1, 0, 1, 1, 1, 1, 1, 0, 1, 0, 0] (bodyOf Tryd.f27)), .blk 0, .code (subc [1, 0, 1, 1, 1, 1, 1, 1] (bodyOf Tryd.f27)), .scp], D := [], base := 0 }],
      H := [.cell true 25 (.agg [1, 1, 1, 8, 8, 1, 1] [(.int .u8 0), (.int .u8 0), (.int .i64 0), (.agg [1, 1, 1, 1, 1, 1, 1, 1] [(.int .u8 0), (.int .i64 0), (.int .i64 0), (.int .i64 0), (.int .i64 0), (.int .i64 0), (.bool false), (.int .i64 0)]), (.agg [1, 1, 1, 1, 1, 1, 1, 1] [(.int .u8 0), (.int .i64 0), (.int .i64 0), (.int .i64 0), (.int .i64 0), (.int .i64 0), (.bool false), (.int .i64 0)]), (.int .u8 0), (.int .i64 0)]), .cell true 89 (.agg [1, 1, 1, 1, 1, 1, 1] [(.fsl (.int .u8) v23.1), (.bool v23.2.1), (.int .u8 v23.2.2.1), (.bool v23.2.2.2.1), (.int .u8 v23.2.2.2.2.1), (.int .u8 v23.2.2.2.2.2.1), (.int .u8 v23.2.2.2.2.2.2)]), .cell true 87 (.ptr 1 []), .cell true 51 (.agg [1, 1, 1, 1, 1, 1, 1, 1, 1, 1, 1, 1, 1, 1] [(.int .u8 v30.1), (.int .u8 v30.2.1), (.int .u8 v30.2.2.1), (.bool v30.2.2.2.1), (.int .i64 v30.2.2.2.2.1), (.int .u8 v30.2.2.2.2.2.1), (.int .u8 v30.2.2.2.2.2.2.1), (.int .i64 v30.2.2.2.2.2.2.2.1), (.int .u8 v30.2.2.2.2.2.2.2.2.1), (.int .i64 v30.2.2.2.2.2.2.2.2.2.1), (.bool v30.2.2.2.2.2.2.2.2.2.2.1), (.bool v30.2.2.2.2.2.2.2.2.2.2.2.1), (.bool v30.2.2.2.2.2.2.2.2.2.2.2.2.1), (.bool v30.2.2.2.2.2.2.2.2.2.2.2.2.2)]), .cell true 23 (.agg [1, 1, 1, 1, 1, 1, 1, 1] [(.int .u8 0), (.int .i64 0), (.int .i64 0), (.int .i64 0), (.int .i64 0), (.int .i64 0), (.bool false), (.int .i64 0)]), .cell true 23 (.agg [1, 1, 1, 1, 1, 1, 1, 1] [(.int .u8 0), (.int .i64 0), (.int .i64 0), (.int .i64 0), (.int .i64 0), (.int .i64 0), (.bool false), (.int .i64 0)]), .cell true 2 (.int .i64 0), .dead] }
  | .h7 v23 v30 v61 =>
    { fr := { id := 59, kind := (.call (some 5)), T := [(.ptr 1 []), .any, .any, (.ptr 8 [])] ++ List.replicate 55 .any, items := [.code (subc [1, 1, 0, 0] (bodyOf Tryd.f59)), .code (subc [1, 1, 0, 1] (bodyOf Tryd.f59)), .code (subc [1, 1, 1] (bodyOf Tryd.f59))], D := [], base := 8 },
      stk := [{ id := 58, kind := (.call (some 25)), T := [.any, .any, (.ptr 6 []), .any, .any, .undef], items := [.ops (opsOf (subc [] (bodyOf Tryd.f58))) ((opsOf (subc [] (bodyOf Tryd.f58))).drop 3)], D := [], base := 8 }, { id := 27, kind := .top, T := [(.fsl (.int .u8) x), .any, (.ptr 0 []), .any, (.ptr 2 []), (.ptr 3 []), (.ptr 4 []), (.ptr 5 []), (.ptr 6 [])] ++ List.replicate 11 .any ++ [(.agg [1, 1, 1, 1] [(.bnd 53 [(.ptr 1 [])]), (.fn 54 [(.ptr 2 []), (.ptr 3 [])]), (.fn 56 [(.ptr 3 []), (.ptr 2 []), (.ptr 4 []), (.ptr 5 [])]), (.fn 58 [(.ptr 2 []), (.ptr 3 []), (.ptr 6 [])])]), (.int .i64 3)] ++ List.replicate 77 .any, items := [.ops (opsOf (subc [1, 0, 1, 1, 1, 1, 1, 0, 1, 0, 0, 1, 1, 0, 0, 1, 0] (bodyOf Tryd.f27))) ((opsOf (subc [1, 0, 1, 1, 1, 1, 1, 0, 1, 0, 0, 1, 1, 0, 0, 1, 0] (bodyOf Tryd.f27))).drop 2), .code (subc [1, 0, 1, 1, 1, 1, 1, 0, 1, 0, 0, 1, 1, 0, 0, 1, 1] (bodyOf Tryd.f27)), .blk 1, .code (subc [1, 0, 1, 1, 1, 1, 1, 0, 1, 0, 0, 1, 1, 1] (bodyOf Tryd.f27)), .lp (subc [1, 0, 1, 1, 1, 1, 1, 0, 1, 0, 0] (bodyOf Tryd.f27)), .blk 0, .code (subc [1, 0, 1, 1, 1, 1, 1, 1] (bodyOf Tryd.f27)), .scp], D := [], base := 0 }],
      H := [.cell true 25 (.agg [1, 1, 1, 8, 8, 1, 1] [(.int .u8 0), (.int .u8 0), (.int .i64 0), (.agg [1, 1, 1, 1, 1, 1, 1, 1] [(.int .u8 0), (.int .i64 0), (.int .i64 0), (.int .i64 0), (.int .i64 0), (.int .i64 0), (.bool false), (.int .i64 0)]), (.agg [1, 1, 1, 1, 1, 1, 1, 1] [(.int .u8 0), (.int .i64 0), (.int .i64 0), (.int .i64 0), (.int .i64 0), (.int .i64 0), (.bool false), (.int .i64 0)]), (.int .u8 0), (.int .i64 0)]), .cell true 89 (.agg [1, 1, 1, 1, 1, 1, 1] [(.fsl (.int .u8) v23.1), (.bool v23.2.1), (.int .u8 v23.2.2.1), (.bool v23.2.2.2.1), (.int .u8 v23.2.2.2.2.1), (.int .u8 v23.2.2.2.2.2.1), (.int .u8 v23.2.2.2.2.2.2)]), .cell true 87 (.ptr 1 []), .cell true 51 (.agg [1, 1, 1, 1, 1, 1, 1, 1, 1, 1, 1, 1, 1, 1] [(.int .u8 v30.1), (.int .u8 v30.2.1), (.int .u8 v30.2.2.1), (.bool v30.2.2.2.1), (.int .i64 v30.2.2.2.2.1), (.int .u8 v30.2.2.2.2.2.1), (.int .u8 v30.2.2.2.2.2.2.1), (.int .i64 v30.2.2.2.2.2.2.2.1), (.int .u8 v30.2.2.2.2.2.2.2.2.1), (.int .i64 v30.2.2.2.2.2.2.2.2.2.1), (.bool v30.2.2.2.2.2.2.2.2.2.2.1), (.bool v30.2.2.2.2.2.2.2.2.2.2.2.1), (.bool v30.2.2.2.2.2.2.2.2.2.2.2.2.1), (.bool v30.2.2.2.2.2.2.2.2.2.2.2.2.2)]), .cell true 23 (.agg [1, 1, 1, 1, 1, 1, 1, 1] [(.int .u8 0), (.int .i64 0), (.int .i64 0), (.int .i64 0), (.int .i64 0), (.int .i64 0), (.bool false), (.int .i64 0)]), .cell true 23 (.agg [1, 1, 1, 1, 1, 1, 1, 1] [(.int .u8 0), (.int .i64 0), (.int .i64 0), (.int .i64 0), (.int .i64 0), (.int .i64 0), (.bool false), (.int .i64 0)]), .cell true 2 (.int .i64 0), .dead, .cell true 51 (.agg [1, 1, 1, 1, 1, 1, 1, 1, 1, 1, 1, 1, 1, 1] [(.int .u8 v61.1), (.int .u8 v61.2.1), (.int .u8 v61.2.2.1), (.bool v61.2.2.2.1), (.int .i64 v61.2.2.2.2.1), (.int .u8 v61.2.2.2.2.2.1), (.int .u8 v61.2.2.2.2.2.2.1), (.int .i64 v61.2.2.2.2.2.2.2.1), (.int .u8 v61.2.2.2.2.2.2.2.2.1), (.int .i64 v61.2.2.2.2.2.2.2.2.2.1), (.bool v61.2.2.2.2.2.2.2.2.2.2.1), (.bool v61.2.2.2.2.2.2.2.2.2.2.2.1), (.bool v61.2.2.2.2.2.2.2.2.2.2.2.2.1), (.bool v61.2.2.2.2.2.2.2.2.2.2.2.2.2)])] }
  | .h8 v0 v1 v2 v20 v21 v28 v42 v50 v58 =>
    { fr := { id := 27, kind := .top, T := [.any, .any, (.ptr 0 []), .any, (.ptr 1 []), (.ptr 3 []), (.ptr 4 []), (.ptr 5 []), (.ptr 6 [])] ++ List.replicate 90 .any, items := [.code (subc [1, 0, 1, 1, 1, 1, 1, 1, 1, 1, 1, 0, 0] (bodyOf Tryd.f27)), .code (subc [1, 0, 1, 1, 1, 1, 1, 1, 1, 1, 1, 0, 1] (bodyOf Tryd.f27)), .code (subc [1, 0, 1, 1, 1, 1, 1, 1, 1, 1, 1, 1] (bodyOf Tryd.f27)), .scp], D := [], base := 0 },
      stk := [],
      H := [.cell true 25 (.agg [1, 1, 1, 8, 8, 1, 1] [(.int .u8 v0), (.int .u8 v1), (.int .i64 v2), (.agg [1, 1, 1, 1, 1, 1, 1, 1] [(.int .u8 0), (.int .i64 0), (.int .i64 0), (.int .i64 0), (.int .i64 0), (.int .i64 0), (.bool false), (.int .i64 0)]), (.agg [1, 1, 1, 1, 1, 1, 1, 1] [(.int .u8 0), (.int .i64 0), (.int .i64 0), (.int .i64 0), (.int .i64 0), (.int .i64 0), (.bool false), (.int .i64 0)]), (.int .u8 0), (.int .i64 v20)]), .cell true 87 (.ptr 2 []), .cell true 89 (.agg [1, 1, 1, 1, 1, 1, 1] [(.fsl (.int .u8) v21.1), (.bool v21.2.1), (.int .u8 v21.2.2.1), (.bool v21.2.2.2.1), (.int .u8 v21.2.2.2.2.1), (.int .u8 v21.2.2.2.2.2.1), (.int .u8 v21.2.2.2.2.2.2)]), .cell true 51 (.agg [1, 1, 1, 1, 1, 1, 1, 1, 1, 1, 1, 1, 1, 1] [(.int .u8 v28.1), (.int .u8 v28.2.1), (.int .u8 v28.2.2.1), (.bool v28.2.2.2.1), (.int .i64 v28.2.2.2.2.1), (.int .u8 v28.2.2.2.2.2.1), (.int .u8 v28.2.2.2.2.2.2.1), (.int .i64 v28.2.2.2.2.2.2.2.1), (.int .u8 v28.2.2.2.2.2.2.2.2.1), (.int .i64 v28.2.2.2.2.2.2.2.2.2.1), (.bool v28.2.2.2.2.2.2.2.2.2.2.1), (.bool v28.2.2.2.2.2.2.2.2.2.2.2.1), (.bool v28.2.2.2.2.2.2.2.2.2.2.2.2.1), (.bool v28.2.2.2.2.2.2.2.2.2.2.2.2.2)]), .cell true 23 (.agg [1, 1, 1, 1, 1, 1, 1, 1] [(.int .u8 v42.1), (.int .i64 v42.2.1), (.int .i64 v42.2.2.1), (.int .i64 v42.2.2.2.1), (.int .i64 v42.2.2.2.2.1), (.int .i64 v42.2.2.2.2.2.1), (.bool v42.2.2.2.2.2.2.1), (.int .i64 v42.2.2.2.2.2.2.2)]), .cell true 23 (.agg [1, 1, 1, 1, 1, 1, 1, 1] [(.int .u8 v50.1), (.int .i64 v50.2.1), (.int .i64 v50.2.2.1), (.int .i64 v50.2.2.2.1), (.int .i64 v50.2.2.2.2.1), (.int .i64 v50.2.2.2.2.2.1), (.bool v50.2.2.2.2.2.2.1), (.int .i64 v50.2.2.2.2.2.2.2)]), .cell true 2 (.int .i64 v58)] }
  | .h9 v0 v1 v25 v32 v63 v85 =>
    { fr := { id := 57, kind := (.call (some 15)), T := [(.ptr 1 []), .any, .any, (.ptr 8 []), (.ptr 9 []), (.ptr 10 []), (.int .i64 v0), (.int .i64 v1)] ++ List.replicate 97 .any, items := [.code (subc [1, 1, 1, 0] (bodyOf Tryd.f57)), .code (subc [1, 1, 1, 1] (bodyOf Tryd.f57))], D := [], base := 8 },
      stk := [{ id := 56, kind := (.call (some 25)), T := [.any, .any, (.ptr 4 []), (.ptr 5 [])] ++ List.replicate 14 .any, items := [.ops (opsOf (subc [1, 0, 1, 0] (bodyOf Tryd.f56))) ((opsOf (subc [1, 0, 1, 0] (bodyOf Tryd.f56))).drop 3), .blk 0], D := [], base := 8 }, { id := 27, kind := .top, T := [(.fsl (.int .u8) x), .any, (.ptr 0 []), .any, (.ptr 2 []), (.ptr 3 []), (.ptr 4 []), (.ptr 5 []), (.ptr 6 [])] ++ List.replicate 11 .any ++ [(.agg [1, 1, 1, 1] [(.bnd 53 [(.ptr 1 [])]), (.fn 54 [(.ptr 2 []), (.ptr 3 [])]), (.fn 56 [(.ptr 3 []), (.ptr 2 []), (.ptr 4 []), (.ptr 5 [])]), (.fn 58 [(.ptr 2 []), (.ptr 3 []), (.ptr 6 [])])]), (.int .i64 2)] ++ List.replicate 77 .any, items := [.ops (opsOf (subc [1, 0, 1, 1, 1, 1, 1, 0, 1, 0, 0, 1, 1, 0, 0, 1, 0] (bodyOf Tryd.f27))) ((opsOf (subc [1, 0, 1, 1, 1, 1, 1, 0, 1, 0, 0, 1, 1, 0, 0, 1, 0] (bodyOf Tryd.f27))).drop 2), .code (subc [1, 0, 1, 1, 1, 1, 1, 0, 1, 0, 0, 1, 1, 0, 0, 1, 1] (bodyOf Tryd.f27)), .blk 1, .code (subc [1, 0, 1, 1, 1, 1, 1, 0, 1, 0, 0, 1, 1, 1] (bodyOf Tryd.f27)), .lp (subc [1, 0, 1, 1, 1, 1, 1, 0, 1, 0, 0] (bodyOf Tryd.f27)), .blk 0, .code (subc [1, 0, 1, 1, 1, 1, 1, 1] (bodyOf Tryd.f27)), .scp], D := [], base := 0 }],
      H := [.cell true 25 (.agg [1, 1, 1, 8, 8, 1, 1] [(.int .u8 0), (.int .u8 0), (.int .i64 0), (.agg [1, 1, 1, 1, 1, 1, 1, 1] [(.int .u8 0), (.int .i64 0), (.int .i64 0), (.int .i64 0), (.int .i64 0), (.int .i64 0), (.bool false), (.int .i64 0)]), (.agg [1, 1, 1, 1, 1, 1, 1, 1] [(.int .u8 0), (.int .i64 0), (.int .i64 0), (.int .i64 0), (.int .i64 0), (.int .i64 0), (.bool false), (.int .i64 0)]), (.int .u8 0), (.int .i64 0)]), .cell true 89 (.agg [1, 1, 1, 1, 1, 1, 1] [(.fsl (.int .u8) v25.1), (.bool v25.2.1), (.int .u8 v25.2.2.1), (.bool v25.2.2.2.1), (.int .u8 v25.2.2.2.2.1), (.int .u8 v25.2.2.2.2.2.1), (.int .u8 v25.2.2.2.2.2.2)]), .cell true 87 (.ptr 1 []), .cell true 51 (.agg [1, 1, 1, 1, 1, 1, 1, 1, 1, 1, 1, 1, 1, 1] [(.int .u8 v32.1), (.int .u8 v32.2.1), (.int .u8 v32.2.2.1), (.bool v32.2.2.2.1), (.int .i64 v32.2.2.2.2.1), (.int .u8 v32.2.2.2.2.2.1), (.int .u8 v32.2.2.2.2.2.2.1), (.int .i64 v32.2.2.2.2.2.2.2.1), (.int .u8 v32.2.2.2.2.2.2.2.2.1), (.int .i64 v32.2.2.2.2.2.2.2.2.2.1), (.bool v32.2.2.2.2.2.2.2.2.2.2.1), (.bool v32.2.2.2.2.2.2.2.2.2.2.2.1), (.bool v32.2.2.2.2.2.2.2.2.2.2.2.2.1), (.bool v32.2.2.2.2.2.2.2.2.2.2.2.2.2)]), .cell true 23 (.agg [1, 1, 1, 1, 1, 1, 1, 1] [(.int .u8 0), (.int .i64 0), (.int .i64 0), (.int .i64 0), (.int .i64 0), (.int .i64 0), (.bool false), (.int .i64 0)]), .cell true 23 (.agg [1, 1, 1, 1, 1, 1, 1, 1] [(.int .u8 0), (.int .i64 0), (.int .i64 0), (.int .i64 0), (.int .i64 0), (.int .i64 0), (.bool false), (.int .i64 0)]), .cell true 2 (.int .i64 0), .dead, .cell true 51 (.agg [1, 1, 1, 1, 1, 1, 1, 1, 1, 1, 1, 1, 1, 1] [(.int .u8 v63.1), (.int .u8 v63.2.1), (.int .u8 v63.2.2.1), (.bool v63.2.2.2.1), (.int .i64 v63.2.2.2.2.1), (.int .u8 v63.2.2.2.2.2.1), (.int .u8 v63.2.2.2.2.2.2.1), (.int .i64 v63.2.2.2.2.2.2.2.1), (.int .u8 v63.2.2.2.2.2.2.2.2.1), (.int .i64 v63.2.2.2.2.2.2.2.2.2.1), (.bool v63.2.2.2.2.2.2.2.2.2.2.1), (.bool v63.2.2.2.2.2.2.2.2.2.2.2.1), (.bool v63.2.2.2.2.2.2.2.2.2.2.2.2.1), (.bool v63.2.2.2.2.2.2.2.2.2.2.2.2.2)]), .cell true 23 (.agg [1, 1, 1, 1, 1, 1, 1, 1] [(.int .u8 0), (.int .i64 0), (.int .i64 0), (.int .i64 0), (.int .i64 0), (.int .i64 0), (.bool false), (.int .i64 0)]), .cell true 23 (.agg [1, 1, 1, 1, 1, 1, 1, 1] [(.int .u8 v85.1), (.int .i64 v85.2.1), (.int .i64 v85.2.2.1), (.int .i64 v85.2.2.2.1), (.int .i64 v85.2.2.2.2.1), (.int .i64 v85.2.2.2.2.2.1), (.bool v85.2.2.2.2.2.2.1), (.int .i64 v85.2.2.2.2.2.2.2)])] }
  | .h10 v23 v30 v61 =>
    { fr := { id := 59, kind := (.call (some 5)), T := [(.ptr 1 []), .any, .any, (.ptr 8 [])] ++ List.replicate 55 .any, items := [.code (subc [1, 1, 1, 0] (bodyOf Tryd.f59)), .code (subc [1, 1, 1, 1] (bodyOf Tryd.f59))], D := [], base := 8 },
      stk := [{ id := 58, kind := (.call (some 25)), T := [.any, .any, (.ptr 6 []), .any, .any, .undef], items := [.ops (opsOf (subc [] (bodyOf Tryd.f58))) ((opsOf (subc [] (bodyOf Tryd.f58))).drop 3)], D := [], base := 8 }, { id := 27, kind := .top, T := [(.fsl (.int .u8) x), .any, (.ptr 0 []), .any, (.ptr 2 []), (.ptr 3 []), (.ptr 4 []), (.ptr 5 []), (.ptr 6 [])] ++ List.replicate 11 .any ++ [(.agg [1, 1, 1, 1] [(.bnd 53 [(.ptr 1 [])]), (.fn 54 [(.ptr 2 []), (.ptr 3 [])]), (.fn 56 [(.ptr 3 []), (.ptr 2 []), (.ptr 4 []), (.ptr 5 [])]), (.fn 58 [(.ptr 2 []), (.ptr 3 []), (.ptr 6 [])])]), (.int .i64 3)] ++ List.replicate 77 .any, items := [.ops (opsOf (subc [1, 0, 1, 1, 1, 1, 1, 0, 1, 0, 0, 1, 1, 0, 0, 1, 0] (bodyOf Tryd.f27))) ((opsOf (subc [1, 0, 1, 1, 1, 1, 1, 0, 1, 0, 0, 1, 1, 0, 0, 1, 0] (bodyOf Tryd.f27))).drop 2), .code (subc [1, 0, 1, 1, 1, 1, 1, 0, 1, 0, 0, 1, 1, 0, 0, 1, 1] (bodyOf Tryd.f27)), .blk 1, .code (subc [1, 0, 1, 1, 1, 1, 1, 0, 1, 0, 0, 1, 1, 1] (bodyOf Tryd.f27)), .lp (subc [1, 0, 1, 1, 1, 1, 1, 0, 1, 0, 0] (bodyOf Tryd.f27)), .blk 0, .code (subc [1, 0, 1, 1, 1, 1, 1, 1] (bodyOf Tryd.f27)), .scp], D := [], base := 0 }],
      H := [.cell true 25 (.agg [1, 1, 1, 8, 8, 1, 1] [(.int .u8 0), (.int .u8 0), (.int .i64 0), (.agg [1, 1, 1, 1, 1, 1, 1, 1] [(.int .u8 0), (.int .i64 0), (.int .i64 0), (.int .i64 0), (.int .i64 0), (.int .i64 0), (.bool false), (.int .i64 0)]), (.agg [1, 1, 1, 1, 1, 1, 1, 1] [(.int .u8 0), (.int .i64 0), (.int .i64 0), (.int .i64 0), (.int .i64 0), (.int .i64 0), (.bool false), (.int .i64 0)]), (.int .u8 0), (.int .i64 0)]), .cell true 89 (.agg [1, 1, 1, 1, 1, 1, 1] [(.fsl (.int .u8) v23.1), (.bool v23.2.1), (.int .u8 v23.2.2.1), (.bool v23.2.2.2.1), (.int .u8 v23.2.2.2.2.1), (.int .u8 v23.2.2.2.2.2.1), (.int .u8 v23.2.2.2.2.2.2)]), .cell true 87 (.ptr 1 []), .cell true 51 (.agg [1, 1, 1, 1, 1, 1, 1, 1, 1, 1, 1, 1, 1, 1] [(.int .u8 v30.1), (.int .u8 v30.2.1), (.int .u8 v30.2.2.1), (.bool v30.2.2.2.1), (.int .i64 v30.2.2.2.2.1), (.int .u8 v30.2.2.2.2.2.1), (.int .u8 v30.2.2.2.2.2.2.1), (.int .i64 v30.2.2.2.2.2.2.2.1), (.int .u8 v30.2.2.2.2.2.2.2.2.1), (.int .i64 v30.2.2.2.2.2.2.2.2.2.1), (.bool v30.2.2.2.2.2.2.2.2.2.2.1), (.bool v30.2.2.2.2.2.2.2.2.2.2.2.1), (.bool v30.2.2.2.2.2.2.2.2.2.2.2.2.1), (.bool v30.2.2.2.2.2.2.2.2.2.2.2.2.2)]), .cell true 23 (.agg [1, 1, 1, 1, 1, 1, 1, 1] [(.int .u8 0), (.int .i64 0), (.int .i64 0), (.int .i64 0), (.int .i64 0), (.int .i64 0), (.bool false), (.int .i64 0)]), .cell true 23 (.agg [1, 1, 1, 1, 1, 1, 1, 1] [(.int .u8 0), (.int .i64 0), (.int .i64 0), (.int .i64 0), (.int .i64 0), (.int .i64 0), (.bool false), (.int .i64 0)]), .cell true 2 (.int .i64 0), .dead, .cell true 51 (.agg [1, 1, 1, 1, 1, 1, 1, 1, 1, 1, 1, 1, 1, 1] [(.int .u8 v61.1), (.int .u8 v61.2.1), (.int .u8 v61.2.2.1), (.bool v61.2.2.2.1), (.int .i64 v61.2.2.2.2.1), (.int .u8 v61.2.2.2.2.2.1), (.int .u8 v61.2.2.2.2.2.2.1), (.int .i64 v61.2.2.2.2.2.2.2.1), (.int .u8 v61.2.2.2.2.2.2.2.2.1), (.int .i64 v61.2.2.2.2.2.2.2.2.2.1), (.bool v61.2.2.2.2.2.2.2.2.2.2.1), (.bool v61.2.2.2.2.2.2.2.2.2.2.2.1), (.bool v61.2.2.2.2.2.2.2.2.2.2.2.2.1), (.bool v61.2.2.2.2.2.2.2.2.2.2.2.2.2)])] }
  | .h11 v0 v1 v2 v19 v20 v21 v28 v42 v50 v58 =>
    { fr := { id := 27, kind := .top, T := [.any, .any, (.ptr 0 []), .any, (.ptr 1 []), (.ptr 3 []), (.ptr 4 []), (.ptr 5 []), (.ptr 6 [])] ++ List.replicate 90 .any, items := [.code (subc [1, 0, 1, 1, 1, 1, 1, 1, 1, 1, 1, 1, 0] (bodyOf Tryd.f27)), .code (subc [1, 0, 1, 1, 1, 1, 1, 1, 1, 1, 1, 1, 1] (bodyOf Tryd.f27)), .scp], D := [], base := 0 },
      stk := [],
      H := [.cell true 25 (.agg [1, 1, 1, 8, 8, 1, 1] [(.int .u8 v0), (.int .u8 v1), (.int .i64 v2), (.agg [1, 1, 1, 1, 1, 1, 1, 1] [(.int .u8 0), (.int .i64 0), (.int .i64 0), (.int .i64 0), (.int .i64 0), (.int .i64 0), (.bool false), (.int .i64 0)]), (.agg [1, 1, 1, 1, 1, 1, 1, 1] [(.int .u8 0), (.int .i64 0), (.int .i64 0), (.int .i64 0), (.int .i64 0), (.int .i64 0), (.bool false), (.int .i64 0)]), (.int .u8 v19), (.int .i64 v20)]), .cell true 87 (.ptr 2 []), .cell true 89 (.agg [1, 1, 1, 1, 1, 1, 1] [(.fsl (.int .u8) v21.1), (.bool v21.2.1), (.int .u8 v21.2.2.1), (.bool v21.2.2.2.1), (.int .u8 v21.2.2.2.2.1), (.int .u8 v21.2.2.2.2.2.1), (.int .u8 v21.2.2.2.2.2.2)]), .cell true 51 (.agg [1, 1, 1, 1, 1, 1, 1, 1, 1, 1, 1, 1, 1, 1] [(.int .u8 v28.1), (.int .u8 v28.2.1), (.int .u8 v28.2.2.1), (.bool v28.2.2.2.1), (.int .i64 v28.2.2.2.2.1), (.int .u8 v28.2.2.2.2.2.1), (.int .u8 v28.2.2.2.2.2.2.1), (.int .i64 v28.2.2.2.2.2.2.2.1), (.int .u8 v28.2.2.2.2.2.2.2.2.1), (.int .i64 v28.2.2.2.2.2.2.2.2.2.1), (.bool v28.2.2.2.2.2.2.2.2.2.2.1), (.bool v28.2.2.2.2.2.2.2.2.2.2.2.1), (.bool v28.2.2.2.2.2.2.2.2.2.2.2.2.1), (.bool v28.2.2.2.2.2.2.2.2.2.2.2.2.2)]), .cell true 23 (.agg [1, 1, 1, 1, 1, 1, 1, 1] [(.int .u8 v42.1), (.int .i64 v42.2.1), (.int .i64 v42.2.2.1), (.int .i64 v42.2.2.2.1), (.int .i64 v42.2.2.2.2.1), (.int .i64 v42.2.2.2.2.2.1), (.bool v42.2.2.2.2.2.2.1), (.int .i64 v42.2.2.2.2.2.2.2)]), .cell true 23 (.agg [1, 1, 1, 1, 1, 1, 1, 1] [(.int .u8 v50.1), (.int .i64 v50.2.1), (.int .i64 v50.2.2.1), (.int .i64 v50.2.2.2.1), (.int .i64 v50.2.2.2.2.1), (.int .i64 v50.2.2.2.2.2.1), (.bool v50.2.2.2.2.2.2.1), (.int .i64 v50.2.2.2.2.2.2.2)]), .cell true 2 (.int .i64 v58)] }
  | .h12 v23 v30 v61 v69 =>
    { fr := { id := 57, kind := (.call (some 15)), T := List.replicate 4 .any ++ [(.ptr 8 []), (.ptr 9 [])] ++ List.replicate 99 .any, items := [.code (subc [1, 1, 1, 1, 1, 1, 1, 1, 1, 1, 0] (bodyOf Tryd.f57)), .code (subc [1, 1, 1, 1, 1, 1, 1, 1, 1, 1, 1] (bodyOf Tryd.f57))], D := [], base := 8 },
      stk := [{ id := 56, kind := (.call (some 25)), T := [.any, .any, (.ptr 4 []), (.ptr 5 [])] ++ List.replicate 14 .any, items := [.ops (opsOf (subc [1, 0, 1, 0] (bodyOf Tryd.f56))) ((opsOf (subc [1, 0, 1, 0] (bodyOf Tryd.f56))).drop 3), .blk 0], D := [], base := 8 }, { id := 27, kind := .top, T := [(.fsl (.int .u8) x), .any, (.ptr 0 []), .any, (.ptr 2 []), (.ptr 3 []), (.ptr 4 []), (.ptr 5 []), (.ptr 6 [])] ++ List.replicate 11 .any ++ [(.agg [1, 1, 1, 1] [(.bnd 53 [(.ptr 1 [])]), (.fn 54 [(.ptr 2 []), (.ptr 3 [])]), (.fn 56 [(.ptr 3 []), (.ptr 2 []), (.ptr 4 []), (.ptr 5 [])]), (.fn 58 [(.ptr 2 []), (.ptr 3 []), (.ptr 6 [])])]), (.int .i64 2)] ++ List.replicate 77 .any, items := [.ops (opsOf (subc [1, 0, 1, 1, 1, 1, 1, 0, 1, 0, 0, 1, 1, 0, 0, 1, 0] (bodyOf Tryd.f27))) ((opsOf (subc [1, 0, 1, 1, 1, 1, 1, 0, 1, 0, 0, 1, 1, 0, 0, 1, 0] (bodyOf Tryd.f27))).drop 2), .code (subc [1, 0, 1, 1, 1, 1, 1, 0, 1, 0, 0, 1, 1, 0, 0, 1, 1] (bodyOf Tryd.f27)), .blk 1, .code (subc [1, 0, 1, 1, 1, 1, 1, 0, 1, 0, 0, 1, 1, 1] (bodyOf Tryd.f27)), .lp (subc [1, 0, 1, 1, 1, 1, 1, 0, 1, 0, 0] (bodyOf Tryd.f27)), .blk 0, .code (subc [1, 0, 1, 1, 1, 1, 1, 1] (bodyOf Tryd.f27)), .scp], D := [], base := 0 }],
      H := [.cell true 25 (.agg [1, 1, 1, 8, 8, 1, 1] [(.int .u8 0), (.int .u8 0), (.int .i64 0), (.agg [1, 1, 1, 1, 1, 1, 1, 1] [(.int .u8 0), (.int .i64 0), (.int .i64 0), (.int .i64 0), (.int .i64 0), (.int .i64 0), (.bool false), (.int .i64 0)]), (.agg [1, 1, 1, 1, 1, 1, 1, 1] [(.int .u8 0), (.int .i64 0), (.int .i64 0), (.int .i64 0), (.int .i64 0), (.int .i64 0), (.bool false), (.int .i64 0)]), (.int .u8 0), (.int .i64 0)]), .cell true 89 (.agg [1, 1, 1, 1, 1, 1, 1] [(.fsl (.int .u8) v23.1), (.bool v23.2.1), (.int .u8 v23.2.2.1), (.bool v23.2.2.2.1), (.int .u8 v23.2.2.2.2.1), (.int .u8 v23.2.2.2.2.2.1), (.int .u8 v23.2.2.2.2.2.2)]), .cell true 87 (.ptr 1 []), .cell true 51 (.agg [1, 1, 1, 1, 1, 1, 1, 1, 1, 1, 1, 1, 1, 1] [(.int .u8 v30.1), (.int .u8 v30.2.1), (.int .u8 v30.2.2.1), (.bool v30.2.2.2.1), (.int .i64 v30.2.2.2.2.1), (.int .u8 v30.2.2.2.2.2.1), (.int .u8 v30.2.2.2.2.2.2.1), (.int .i64 v30.2.2.2.2.2.2.2.1), (.int .u8 v30.2.2.2.2.2.2.2.2.1), (.int .i64 v30.2.2.2.2.2.2.2.2.2.1), (.bool v30.2.2.2.2.2.2.2.2.2.2.1), (.bool v30.2.2.2.2.2.2.2.2.2.2.2.1), (.bool v30.2.2.2.2.2.2.2.2.2.2.2.2.1), (.bool v30.2.2.2.2.2.2.2.2.2.2.2.2.2)]), .cell true 23 (.agg [1, 1, 1, 1, 1, 1, 1, 1] [(.int .u8 0), (.int .i64 0), (.int .i64 0), (.int .i64 0), (.int .i64 0), (.int .i64 0), (.bool false), (.int .i64 0)]), .cell true 23 (.agg [1, 1, 1, 1, 1, 1, 1, 1] [(.int .u8 0), (.int .i64 0), (.int .i64 0), (.int .i64 0), (.int .i64 0), (.int .i64 0), (.bool false), (.int .i64 0)]), .cell true 2 (.int .i64 0), .dead, .cell true 23 (.agg [1, 1, 1, 1, 1, 1, 1, 1] [(.int .u8 v61.1), (.int .i64 v61.2.1), (.int .i64 v61.2.2.1), (.int .i64 v61.2.2.2.1), (.int .i64 v61.2.2.2.2.1), (.int .i64 v61.2.2.2.2.2.1), (.bool v61.2.2.2.2.2.2.1), (.int .i64 v61.2.2.2.2.2.2.2)]), .cell true 23 (.agg [1, 1, 1, 1, 1, 1, 1, 1] [(.int .u8 v69.1), (.int .i64 v69.2.1), (.int .i64 v69.2.2.1), (.int .i64 v69.2.2.2.1), (.int .i64 v69.2.2.2.2.1), (.int .i64 v69.2.2.2.2.2.1), (.bool v69.2.2.2.2.2.2.1), (.int .i64 v69.2.2.2.2.2.2.2)])] }
  | .h13 v0 v24 v31 v62 =>
    { fr := { id := 59, kind := (.call (some 5)), T := [.any, .any, .any, (.ptr 8 []), .any, (.int .u64 v0)] ++ List.replicate 53 .any, items := [.code (subc [1, 1, 1, 1, 1, 1, 0] (bodyOf Tryd.f59)), .code (subc [1, 1, 1, 1, 1, 1, 1] (bodyOf Tryd.f59))], D := [], base := 8 },
      stk := [{ id := 58, kind := (.call (some 25)), T := [.any, .any, (.ptr 6 []), .any, .any, .undef], items := [.ops (opsOf (subc [] (bodyOf Tryd.f58))) ((opsOf (subc [] (bodyOf Tryd.f58))).drop 3)], D := [], base := 8 }, { id := 27, kind := .top, T := [(.fsl (.int .u8) x), .any, (.ptr 0 []), .any, (.ptr 2 []), (.ptr 3 []), (.ptr 4 []), (.ptr 5 []), (.ptr 6 [])] ++ List.replicate 11 .any ++ [(.agg [1, 1, 1, 1] [(.bnd 53 [(.ptr 1 [])]), (.fn 54 [(.ptr 2 []), (.ptr 3 [])]), (.fn 56 [(.ptr 3 []), (.ptr 2 []), (.ptr 4 []), (.ptr 5 [])]), (.fn 58 [(.ptr 2 []), (.ptr 3 []), (.ptr 6 [])])]), (.int .i64 3)] ++ List.replicate 77 .any, items := [.ops (opsOf (subc [1, 0, 1, 1, 1, 1, 1, 0, 1, 0, 0, 1, 1, 0, 0, 1, 0] (bodyOf Tryd.f27))) ((opsOf (subc [1, 0, 1, 1, 1, 1, 1, 0, 1, 0, 0, 1, 1, 0, 0, 1, 0] (bodyOf Tryd.f27))).drop 2), .code (subc [1, 0, 1, 1, 1, 1, 1, 0, 1, 0, 0, 1, 1, 0, 0, 1, 1] (bodyOf Tryd.f27)), .blk 1, .code (subc [1, 0, 1, 1, 1, 1, 1, 0, 1, 0, 0, 1, 1, 1] (bodyOf Tryd.f27)), .lp (subc [1, 0, 1, 1, 1, 1, 1, 0, 1, 0, 0] (bodyOf Tryd.f27)), .blk 0, .code (subc [1, 0, 1, 1, 1, 1, 1, 1] (bodyOf Tryd.f27)), .scp], D := [], base := 0 }],
      H := [.cell true 25 (.agg [1, 1, 1, 8, 8, 1, 1] [(.int .u8 0), (.int .u8 0), (.int .i64 0), (.agg [1, 1, 1, 1, 1, 1, 1, 1] [(.int .u8 0), (.int .i64 0), (.int .i64 0), (.int .i64 0), (.int .i64 0), (.int .i64 0), (.bool false), (.int .i64 0)]), (.agg [1, 1, 1, 1, 1, 1, 1, 1] [(.int .u8 0), (.int .i64 0), (.int .i64 0), (.int .i64 0), (.int .i64 0), (.int .i64 0), (.bool false), (.int .i64 0)]), (.int .u8 0), (.int .i64 0)]), .cell true 89 (.agg [1, 1, 1, 1, 1, 1, 1] [(.fsl (.int .u8) v24.1), (.bool v24.2.1), (.int .u8 v24.2.2.1), (.bool v24.2.2.2.1), (.int .u8 v24.2.2.2.2.1), (.int .u8 v24.2.2.2.2.2.1), (.int .u8 v24.2.2.2.2.2.2)]), .cell true 87 (.ptr 1 []), .cell true 51 (.agg [1, 1, 1, 1, 1, 1, 1, 1, 1, 1, 1, 1, 1, 1] [(.int .u8 v31.1), (.int .u8 v31.2.1), (.int .u8 v31.2.2.1), (.bool v31.2.2.2.1), (.int .i64 v31.2.2.2.2.1), (.int .u8 v31.2.2.2.2.2.1), (.int .u8 v31.2.2.2.2.2.2.1), (.int .i64 v31.2.2.2.2.2.2.2.1), (.int .u8 v31.2.2.2.2.2.2.2.2.1), (.int .i64 v31.2.2.2.2.2.2.2.2.2.1), (.bool v31.2.2.2.2.2.2.2.2.2.2.1), (.bool v31.2.2.2.2.2.2.2.2.2.2.2.1), (.bool v31.2.2.2.2.2.2.2.2.2.2.2.2.1), (.bool v31.2.2.2.2.2.2.2.2.2.2.2.2.2)]), .cell true 23 (.agg [1, 1, 1, 1, 1, 1, 1, 1] [(.int .u8 0), (.int .i64 0), (.int .i64 0), (.int .i64 0), (.int .i64 0), (.int .i64 0), (.bool false), (.int .i64 0)]), .cell true 23 (.agg [1, 1, 1, 1, 1, 1, 1, 1] [(.int .u8 0), (.int .i64 0), (.int .i64 0), (.int .i64 0), (.int .i64 0), (.int .i64 0), (.bool false), (.int .i64 0)]), .cell true 2 (.int .i64 0), .dead, .cell true 51 (.agg [1, 1, 1, 1, 1, 1, 1, 1, 1, 1, 1, 1, 1, 1] [(.int .u8 v62.1), (.int .u8 v62.2.1), (.int .u8 v62.2.2.1), (.bool v62.2.2.2.1), (.int .i64 v62.2.2.2.2.1), (.int .u8 v62.2.2.2.2.2.1), (.int .u8 v62.2.2.2.2.2.2.1), (.int .i64 v62.2.2.2.2.2.2.2.1), (.int .u8 v62.2.2.2.2.2.2.2.2.1), (.int .i64 v62.2.2.2.2.2.2.2.2.2.1), (.bool v62.2.2.2.2.2.2.2.2.2.2.1), (.bool v62.2.2.2.2.2.2.2.2.2.2.2.1), (.bool v62.2.2.2.2.2.2.2.2.2.2.2.2.1), (.bool v62.2.2.2.2.2.2.2.2.2.2.2.2.2)])] }
  | .h14 v0 v1 v2 v19 v20 v21 v35 v43 v51 v52 =>
    { fr := { id := 27, kind := .top, T := [.any, .any, (.ptr 0 []), .any, .any, (.ptr 1 []), (.ptr 2 []), (.ptr 3 []), (.ptr 4 []), .any, .any, (.ptr 5 [])] ++ List.replicate 87 .any, items := [.code (subc [1, 0, 1, 1, 1, 1, 1, 1, 1, 1, 1, 1, 1, 0] (bodyOf Tryd.f27)), .code (subc [1, 0, 1, 1, 1, 1, 1, 1, 1, 1, 1, 1, 1, 1] (bodyOf Tryd.f27)), .scp], D := [], base := 0 },
      stk := [],
      H := [.cell true 25 (.agg [1, 1, 1, 8, 8, 1, 1] [(.int .u8 v0), (.int .u8 v1), (.int .i64 v2), (.agg [1, 1, 1, 1, 1, 1, 1, 1] [(.int .u8 0), (.int .i64 0), (.int .i64 0), (.int .i64 0), (.int .i64 0), (.int .i64 0), (.bool false), (.int .i64 0)]), (.agg [1, 1, 1, 1, 1, 1, 1, 1] [(.int .u8 0), (.int .i64 0), (.int .i64 0), (.int .i64 0), (.int .i64 0), (.int .i64 0), (.bool false), (.int .i64 0)]), (.int .u8 v19), (.int .i64 v20)]), .cell true 51 (.agg [1, 1, 1, 1, 1, 1, 1, 1, 1, 1, 1, 1, 1, 1] [(.int .u8 v21.1), (.int .u8 v21.2.1), (.int .u8 v21.2.2.1), (.bool v21.2.2.2.1), (.int .i64 v21.2.2.2.2.1), (.int .u8 v21.2.2.2.2.2.1), (.int .u8 v21.2.2.2.2.2.2.1), (.int .i64 v21.2.2.2.2.2.2.2.1), (.int .u8 v21.2.2.2.2.2.2.2.2.1), (.int .i64 v21.2.2.2.2.2.2.2.2.2.1), (.bool v21.2.2.2.2.2.2.2.2.2.2.1), (.bool v21.2.2.2.2.2.2.2.2.2.2.2.1), (.bool v21.2.2.2.2.2.2.2.2.2.2.2.2.1), (.bool v21.2.2.2.2.2.2.2.2.2.2.2.2.2)]), .cell true 23 (.agg [1, 1, 1, 1, 1, 1, 1, 1] [(.int .u8 v35.1), (.int .i64 v35.2.1), (.int .i64 v35.2.2.1), (.int .i64 v35.2.2.2.1), (.int .i64 v35.2.2.2.2.1), (.int .i64 v35.2.2.2.2.2.1), (.bool v35.2.2.2.2.2.2.1), (.int .i64 v35.2.2.2.2.2.2.2)]), .cell true 23 (.agg [1, 1, 1, 1, 1, 1, 1, 1] [(.int .u8 v43.1), (.int .i64 v43.2.1), (.int .i64 v43.2.2.1), (.int .i64 v43.2.2.2.1), (.int .i64 v43.2.2.2.2.1), (.int .i64 v43.2.2.2.2.2.1), (.bool v43.2.2.2.2.2.2.1), (.int .i64 v43.2.2.2.2.2.2.2)]), .cell true 2 (.int .i64 v51), .cell true 23 (.agg [1, 1, 1, 1, 1, 1, 1, 1] [(.int .u8 v52.1), (.int .i64 v52.2.1), (.int .i64 v52.2.2.1), (.int .i64 v52.2.2.2.1), (.int .i64 v52.2.2.2.2.1), (.int .i64 v52.2.2.2.2.2.1), (.bool v52.2.2.2.2.2.2.1), (.int .i64 v52.2.2.2.2.2.2.2)])] }
  | .h15 v23 v30 v44 v52 v61 =>
    { fr := { id := 59, kind := (.call (some 5)), T := [(.ptr 1 []), .any, .any, (.ptr 10 [])] ++ List.replicate 55 .any, items := [.code (subc [1, 1, 0, 0] (bodyOf Tryd.f59)), .code (subc [1, 1, 0, 1] (bodyOf Tryd.f59)), .code (subc [1, 1, 1] (bodyOf Tryd.f59))], D := [], base := 10 },
      stk := [{ id := 58, kind := (.call (some 25)), T := [.any, .any, (.ptr 6 []), .any, .any, .undef], items := [.ops (opsOf (subc [] (bodyOf Tryd.f58))) ((opsOf (subc [] (bodyOf Tryd.f58))).drop 3)], D := [], base := 10 }, { id := 27, kind := .top, T := [(.fsl (.int .u8) x), .any, (.ptr 0 []), .any, (.ptr 2 []), (.ptr 3 []), (.ptr 4 []), (.ptr 5 []), (.ptr 6 [])] ++ List.replicate 11 .any ++ [(.agg [1, 1, 1, 1] [(.bnd 53 [(.ptr 1 [])]), (.fn 54 [(.ptr 2 []), (.ptr 3 [])]), (.fn 56 [(.ptr 3 []), (.ptr 2 []), (.ptr 4 []), (.ptr 5 [])]), (.fn 58 [(.ptr 2 []), (.ptr 3 []), (.ptr 6 [])])]), (.int .i64 3)] ++ List.replicate 77 .any, items := [.ops (opsOf (subc [1, 0, 1, 1, 1, 1, 1, 0, 1, 0, 0, 1, 1, 0, 0, 1, 0] (bodyOf Tryd.f27))) ((opsOf (subc [1, 0, 1, 1, 1, 1, 1, 0, 1, 0, 0, 1, 1, 0, 0, 1, 0] (bodyOf Tryd.f27))).drop 2), .code (subc [1, 0, 1, 1, 1, 1, 1, 0, 1, 0, 0, 1, 1, 0, 0, 1, 1] (bodyOf Tryd.f27)), .blk 1, .code (subc [1, 0, 1, 1, 1, 1, 1, 0, 1, 0, 0, 1, 1, 1] (bodyOf Tryd.f27)), .lp (subc [1, 0, 1, 1, 1, 1, 1, 0, 1, 0, 0] (bodyOf Tryd.f27)), .blk 0, .code (subc [1, 0, 1, 1, 1, 1, 1, 1] (bodyOf Tryd.f27)), .scp], D := [], base := 0 }],
      H := [.cell true 25 (.agg [1, 1, 1, 8, 8, 1, 1] [(.int .u8 0), (.int .u8 0), (.int .i64 0), (.agg [1, 1, 1, 1, 1, 1, 1, 1] [(.int .u8 0), (.int .i64 0), (.int .i64 0), (.int .i64 0), (.int .i64 0), (.int .i64 0), (.bool false), (.int .i64 0)]), (.agg [1, 1, 1, 1, 1, 1, 1, 1] [(.int .u8 0), (.int .i64 0), (.int .i64 0), (.int .i64 0), (.int .i64 0), (.int .i64 0), (.bool false), (.int .i64 0)]), (.int .u8 0), (.int .i64 0)]), .cell true 89 (.agg [1, 1, 1, 1, 1, 1, 1] [(.fsl (.int .u8) v23.1), (.bool v23.2.1), (.int .u8 v23.2.2.1), (.bool v23.2.2.2.1), (.int .u8 v23.2.2.2.2.1), (.int .u8 v23.2.2.2.2.2.1), (.int .u8 v23.2.2.2.2.2.2)]), .cell true 87 (.ptr 1 []), .cell true 51 (.agg [1, 1, 1, 1, 1, 1, 1, 1, 1, 1, 1, 1, 1, 1] [(.int .u8 v30.1), (.int .u8 v30.2.1), (.int .u8 v30.2.2.1), (.bool v30.2.2.2.1), (.int .i64 v30.2.2.2.2.1), (.int .u8 v30.2.2.2.2.2.1), (.int .u8 v30.2.2.2.2.2.2.1), (.int .i64 v30.2.2.2.2.2.2.2.1), (.int .u8 v30.2.2.2.2.2.2.2.2.1), (.int .i64 v30.2.2.2.2.2.2.2.2.2.1), (.bool v30.2.2.2.2.2.2.2.2.2.2.1), (.bool v30.2.2.2.2.2.2.2.2.2.2.2.1), (.bool v30.2.2.2.2.2.2.2.2.2.2.2.2.1), (.bool v30.2.2.2.2.2.2.2.2.2.2.2.2.2)]), .cell true 23 (.agg [1, 1, 1, 1, 1, 1, 1, 1] [(.int .u8 v44.1), (.int .i64 v44.2.1), (.int .i64 v44.2.2.1), (.int .i64 v44.2.2.2.1), (.int .i64 v44.2.2.2.2.1), (.int .i64 v44.2.2.2.2.2.1), (.bool v44.2.2.2.2.2.2.1), (.int .i64 v44.2.2.2.2.2.2.2)]), .cell true 23 (.agg [1, 1, 1, 1, 1, 1, 1, 1] [(.int .u8 v52.1), (.int .i64 v52.2.1), (.int .i64 v52.2.2.1), (.int .i64 v52.2.2.2.1), (.int .i64 v52.2.2.2.2.1), (.int .i64 v52.2.2.2.2.2.1), (.bool v52.2.2.2.2.2.2.1), (.int .i64 v52.2.2.2.2.2.2.2)]), .cell true 2 (.int .i64 0), .dead, .dead, .dead, .cell true 51 (.agg [1, 1, 1, 1, 1, 1, 1, 1, 1, 1, 1, 1, 1, 1] [(.int .u8 v61.1), (.int .u8 v61.2.1), (.int .u8 v61.2.2.1), (.bool v61.2.2.2.1), (.int .i64 v61.2.2.2.2.1), (.int .u8 v61.2.2.2.2.2.1), (.int .u8 v61.2.2.2.2.2.2.1), (.int .i64 v61.2.2.2.2.2.2.2.1), (.int .u8 v61.2.2.2.2.2.2.2.2.1), (.int .i64 v61.2.2.2.2.2.2.2.2.2.1), (.bool v61.2.2.2.2.2.2.2.2.2.2.1), (.bool v61.2.2.2.2.2.2.2.2.2.2.2.1), (.bool v61.2.2.2.2.2.2.2.2.2.2.2.2.1), (.bool v61.2.2.2.2.2.2.2.2.2.2.2.2.2)])] }
  | .h16 v0 =>
    { fr := { id := 27, kind := .top, T := [.any, .any, (.ptr 0 [])] ++ List.replicate 96 .any, items := [.code (subc [1, 0, 1, 1, 1, 1, 1, 1, 1, 1, 1, 1, 1, 1, 0] (bodyOf Tryd.f27)), .code (subc [1, 0, 1, 1, 1, 1, 1, 1, 1, 1, 1, 1, 1, 1, 1] (bodyOf Tryd.f27)), .scp], D := [], base := 0 },
      stk := [],
      H := [.cell true 25 (.agg [1, 1, 1, 8, 8, 1, 1] [(.int .u8 v0.1), (.int .u8 v0.2.1), (.int .i64 v0.2.2.1), (.agg [1, 1, 1, 1, 1, 1, 1, 1] [(.int .u8 v0.2.2.2.1.1), (.int .i64 v0.2.2.2.1.2.1), (.int .i64 v0.2.2.2.1.2.2.1), (.int .i64 v0.2.2.2.1.2.2.2.1), (.int .i64 v0.2.2.2.1.2.2.2.2.1), (.int .i64 v0.2.2.2.1.2.2.2.2.2.1), (.bool v0.2.2.2.1.2.2.2.2.2.2.1), (.int .i64 v0.2.2.2.1.2.2.2.2.2.2.2)]), (.agg [1, 1, 1, 1, 1, 1, 1, 1] [(.int .u8 v0.2.2.2.2.1.1), (.int .i64 v0.2.2.2.2.1.2.1), (.int .i64 v0.2.2.2.2.1.2.2.1), (.int .i64 v0.2.2.2.2.1.2.2.2.1), (.int .i64 v0.2.2.2.2.1.2.2.2.2.1), (.int .i64 v0.2.2.2.2.1.2.2.2.2.2.1), (.bool v0.2.2.2.2.1.2.2.2.2.2.2.1), (.int .i64 v0.2.2.2.2.1.2.2.2.2.2.2.2)]), (.int .u8 v0.2.2.2.2.2.1), (.int .i64 v0.2.2.2.2.2.2)])] }
  | .h17 v23 v30 v44 v52 v61 =>
    { fr := { id := 59, kind := (.call (some 5)), T := [(.ptr 1 []), .any, .any, (.ptr 10 [])] ++ List.replicate 55 .any, items := [.code (subc [1, 1, 1, 0] (bodyOf Tryd.f59)), .code (subc [1, 1, 1, 1] (bodyOf Tryd.f59))], D := [], base := 10 },
      stk := [{ id := 58, kind := (.call (some 25)), T := [.any, .any, (.ptr 6 []), .any, .any, .undef], items := [.ops (opsOf (subc [] (bodyOf Tryd.f58))) ((opsOf (subc [] (bodyOf Tryd.f58))).drop 3)], D := [], base := 10 }, { id := 27, kind := .top, T := [(.fsl (.int .u8) x), .any, (.ptr 0 []), .any, (.ptr 2 []), (.ptr 3 []), (.ptr 4 []), (.ptr 5 []), (.ptr 6 [])] ++ List.replicate 11 .any ++ [(.agg [1, 1, 1, 1] [(.bnd 53 [(.ptr 1 [])]), (.fn 54 [(.ptr 2 []), (.ptr 3 [])]), (.fn 56 [(.ptr 3 []), (.ptr 2 []), (.ptr 4 []), (.ptr 5 [])]), (.fn 58 [(.ptr 2 []), (.ptr 3 []), (.ptr 6 [])])]), (.int .i64 3)] ++ List.replicate 77 .any, items := [.ops (opsOf (subc [1, 0, 1, 1, 1, 1, 1, 0, 1, 0, 0, 1, 1, 0, 0, 1, 0] (bodyOf Tryd.f27))) ((opsOf (subc [1, 0, 1, 1, 1, 1, 1, 0, 1, 0, 0, 1, 1, 0, 0, 1, 0] (bodyOf Tryd.f27))).drop 2), .code (subc [1, 0, 1, 1, 1, 1, 1, 0, 1, 0, 0, 1, 1, 0, 0, 1, 1] (bodyOf Tryd.f27)), .blk 1, .code (subc [1, 0, 1, 1, 1, 1, 1, 0, 1, 0, 0, 1, 1, 1] (bodyOf Tryd.f27)), .lp (subc [1, 0, 1, 1, 1, 1, 1, 0, 1, 0, 0] (bodyOf Tryd.f27)), .blk 0, .code (subc [1, 0, 1, 1, 1, 1, 1, 1] (bodyOf Tryd.f27)), .scp], D := [], base := 0 }],
      H := [.cell true 25 (.agg [1, 1, 1, 8, 8, 1, 1] [(.int .u8 0), (.int .u8 0), (.int .i64 0), (.agg [1, 1, 1, 1, 1, 1, 1, 1] [(.int .u8 0), (.int .i64 0), (.int .i64 0), (.int .i64 0), (.int .i64 0), (.int .i64 0), (.bool false), (.int .i64 0)]), (.agg [1, 1, 1, 1, 1, 1, 1, 1] [(.int .u8 0), (.int .i64 0), (.int .i64 0), (.int .i64 0), (.int .i64 0), (.int .i64 0), (.bool false), (.int .i64 0)]), (.int .u8 0), (.int .i64 0)]), .cell true 89 (.agg [1, 1, 1, 1, 1, 1, 1] [(.fsl (.int .u8) v23.1), (.bool v23.2.1), (.int .u8 v23.2.2.1), (.bool v23.2.2.2.1), (.int .u8 v23.2.2.2.2.1), (.int .u8 v23.2.2.2.2.2.1), (.int .u8 v23.2.2.2.2.2.2)]), .cell true 87 (.ptr 1 []), .cell true 51 (.agg [1, 1, 1, 1, 1, 1, 1, 1, 1, 1, 1, 1, 1, 1] [(.int .u8 v30.1), (.int .u8 v30.2.1), (.int .u8 v30.2.2.1), (.bool v30.2.2.2.1), (.int .i64 v30.2.2.2.2.1), (.int .u8 v30.2.2.2.2.2.1), (.int .u8 v30.2.2.2.2.2.2.1), (.int .i64 v30.2.2.2.2.2.2.2.1), (.int .u8 v30.2.2.2.2.2.2.2.2.1), (.int .i64 v30.2.2.2.2.2.2.2.2.2.1), (.bool v30.2.2.2.2.2.2.2.2.2.2.1), (.bool v30.2.2.2.2.2.2.2.2.2.2.2.1), (.bool v30.2.2.2.2.2.2.2.2.2.2.2.2.1), (.bool v30.2.2.2.2.2.2.2.2.2.2.2.2.2)]), .cell true 23 (.agg [1, 1, 1, 1, 1, 1, 1, 1] [(.int .u8 v44.1), (.int .i64 v44.2.1), (.int .i64 v44.2.2.1), (.int .i64 v44.2.2.2.1), (.int .i64 v44.2.2.2.2.1), (.int .i64 v44.2.2.2.2.2.1), (.bool v44.2.2.2.2.2.2.1), (.int .i64 v44.2.2.2.2.2.2.2)]), .cell true 23 (.agg [1, 1, 1, 1, 1, 1, 1, 1] [(.int .u8 v52.1), (.int .i64 v52.2.1), (.int .i64 v52.2.2.1), (.int .i64 v52.2.2.2.1), (.int .i64 v52.2.2.2.2.1), (.int .i64 v52.2.2.2.2.2.1), (.bool v52.2.2.2.2.2.2.1), (.int .i64 v52.2.2.2.2.2.2.2)]), .cell true 2 (.int .i64 0), .dead, .dead, .dead, .cell true 51 (.agg [1, 1, 1, 1, 1, 1, 1, 1, 1, 1, 1, 1, 1, 1] [(.int .u8 v61.1), (.int .u8 v61.2.1), (.int .u8 v61.2.2.1), (.bool v61.2.2.2.1), (.int .i64 v61.2.2.2.2.1), (.int .u8 v61.2.2.2.2.2.1), (.int .u8 v61.2.2.2.2.2.2.1), (.int .i64 v61.2.2.2.2.2.2.2.1), (.int .u8 v61.2.2.2.2.2.2.2.2.1), (.int .i64 v61.2.2.2.2.2.2.2.2.2.1), (.bool v61.2.2.2.2.2.2.2.2.2.2.1), (.bool v61.2.2.2.2.2.2.2.2.2.2.2.1), (.bool v61.2.2.2.2.2.2.2.2.2.2.2.2.1), (.bool v61.2.2.2.2.2.2.2.2.2.2.2.2.2)])] }
  | .h18 v0 v24 v31 v45 v53 v62 =>
    { fr := { id := 59, kind := (.call (some 5)), T := [.any, .any, .any, (.ptr 10 []), .any, (.int .u64 v0)] ++ List.replicate 53 .any, items := [.code (subc [1, 1, 1, 1, 1, 1, 0] (bodyOf Tryd.f59)), .code (subc [1, 1, 1, 1, 1, 1, 1] (bodyOf Tryd.f59))], D := [], base := 10 },
      stk := [{ id := 58, kind := (.call (some 25)), T := [.any, .any, (.ptr 6 []), .any, .any, .undef], items := [.ops (opsOf (subc [] (bodyOf Tryd.f58))) ((opsOf (subc [] (bodyOf Tryd.f58))).drop 3)], D := [], base := 10 }, { id := 27, kind := .top, T := [(.fsl (.int .u8) x), .any, (.ptr 0 []), .any, (.ptr 2 []), (.ptr 3 []), (.ptr 4 []), (.ptr 5 []), (.ptr 6 [])] ++ List.replicate 11 .any ++ [(.agg [1, 1, 1, 1] [(.bnd 53 [(.ptr 1 [])]), (.fn 54 [(.ptr 2 []), (.ptr 3 [])]), (.fn 56 [(.ptr 3 []), (.ptr 2 []), (.ptr 4 []), (.ptr 5 [])]), (.fn 58 [(.ptr 2 []), (.ptr 3 []), (.ptr 6 [])])]), (.int .i64 3)] ++ List.replicate 77 .any, items := [.ops (opsOf (subc [1, 0, 1, 1, 1, 1, 1, 0, 1, 0, 0, 1, 1, 0, 0, 1, 0] (bodyOf Tryd.f27))) ((opsOf (subc [1, 0, 1, 1, 1, 1, 1, 0, 1, 0, 0, 1, 1, 0, 0, 1, 0] (bodyOf Tryd.f27))).drop 2), .code (subc [1, 0, 1, 1, 1, 1, 1, 0, 1, 0, 0, 1, 1, 0, 0, 1, 1] (bodyOf Tryd.f27)), .blk 1, .code (subc [1, 0, 1, 1, 1, 1, 1, 0, 1, 0, 0, 1, 1, 1] (bodyOf Tryd.f27)), .lp (subc [1, 0, 1, 1, 1, 1, 1, 0, 1, 0, 0] (bodyOf Tryd.f27)), .blk 0, .code (subc [1, 0, 1, 1, 1, 1, 1, 1] (bodyOf Tryd.f27)), .scp], D := [], base := 0 }],
      H := [.cell true 25 (.agg [1, 1, 1, 8, 8, 1, 1] [(.int .u8 0), (.int .u8 0), (.int .i64 0), (.agg [1, 1, 1, 1, 1, 1, 1, 1] [(.int .u8 0), (.int .i64 0), (.int .i64 0), (.int .i64 0), (.int .i64 0), (.int .i64 0), (.bool false), (.int .i64 0)]), (.agg [1, 1, 1, 1, 1, 1, 1, 1] [(.int .u8 0), (.int .i64 0), (.int .i64 0), (.int .i64 0), (.int .i64 0), (.int .i64 0), (.bool false), (.int .i64 0)]), (.int .u8 0), (.int .i64 0)]), .cell true 89 (.agg [1, 1, 1, 1, 1, 1, 1] [(.fsl (.int .u8) v24.1), (.bool v24.2.1), (.int .u8 v24.2.2.1), (.bool v24.2.2.2.1), (.int .u8 v24.2.2.2.2.1), (.int .u8 v24.2.2.2.2.2.1), (.int .u8 v24.2.2.2.2.2.2)]), .cell true 87 (.ptr 1 []), .cell true 51 (.agg [1, 1, 1, 1, 1, 1, 1, 1, 1, 1, 1, 1, 1, 1] [(.int .u8 v31.1), (.int .u8 v31.2.1), (.int .u8 v31.2.2.1), (.bool v31.2.2.2.1), (.int .i64 v31.2.2.2.2.1), (.int .u8 v31.2.2.2.2.2.1), (.int .u8 v31.2.2.2.2.2.2.1), (.int .i64 v31.2.2.2.2.2.2.2.1), (.int .u8 v31.2.2.2.2.2.2.2.2.1), (.int .i64 v31.2.2.2.2.2.2.2.2.2.1), (.bool v31.2.2.2.2.2.2.2.2.2.2.1), (.bool v31.2.2.2.2.2.2.2.2.2.2.2.1), (.bool v31.2.2.2.2.2.2.2.2.2.2.2.2.1), (.bool v31.2.2.2.2.2.2.2.2.2.2.2.2.2)]), .cell true 23 (.agg [1, 1, 1, 1, 1, 1, 1, 1] [(.int .u8 v45.1), (.int .i64 v45.2.1), (.int .i64 v45.2.2.1), (.int .i64 v45.2.2.2.1), (.int .i64 v45.2.2.2.2.1), (.int .i64 v45.2.2.2.2.2.1), (.bool v45.2.2.2.2.2.2.1), (.int .i64 v45.2.2.2.2.2.2.2)]), .cell true 23 (.agg [1, 1, 1, 1, 1, 1, 1, 1] [(.int .u8 v53.1), (.int .i64 v53.2.1), (.int .i64 v53.2.2.1), (.int .i64 v53.2.2.2.1), (.int .i64 v53.2.2.2.2.1), (.int .i64 v53.2.2.2.2.2.1), (.bool v53.2.2.2.2.2.2.1), (.int .i64 v53.2.2.2.2.2.2.2)]), .cell true 2 (.int .i64 0), .dead, .dead, .dead, .cell true 51 (.agg [1, 1, 1, 1, 1, 1, 1, 1, 1, 1, 1, 1, 1, 1] [(.int .u8 v62.1), (.int .u8 v62.2.1), (.int .u8 v62.2.2.1), (.bool v62.2.2.2.1), (.int .i64 v62.2.2.2.2.1), (.int .u8 v62.2.2.2.2.2.1), (.int .u8 v62.2.2.2.2.2.2.1), (.int .i64 v62.2.2.2.2.2.2.2.1), (.int .u8 v62.2.2.2.2.2.2.2.2.1), (.int .i64 v62.2.2.2.2.2.2.2.2.2.1), (.bool v62.2.2.2.2.2.2.2.2.2.2.1), (.bool v62.2.2.2.2.2.2.2.2.2.2.2.1), (.bool v62.2.2.2.2.2.2.2.2.2.2.2.2.1), (.bool v62.2.2.2.2.2.2.2.2.2.2.2.2.2)])] }
noncomputable def stop27 : FuncId → Nat → Nat → Option Cut
  | 53, 7, 7 => some { tmps := [0], loops := [], dead := [], stk := [[0, 2, 4, 5, 6, 7, 8, 20, 21]] }
  | 53, 13, 7 => some { tmps := [0], loops := [], dead := [], stk := [[0, 2, 4, 5, 6, 7, 8, 20, 21]] }
  | 53, 31, 7 => some { tmps := [0], loops := [], dead := [], stk := [[0, 2, 4, 5, 6, 7, 8, 20, 21]] }
  | 27, 23, 0 => some { tmps := [0, 2, 4, 5, 6, 7, 8], loops := [], dead := [], stk := [] }
  | 55, 9, 7 => some { tmps := [0, 2, 3], loops := [], dead := [], stk := [[1, 3], [0, 2, 4, 5, 6, 7, 8, 20, 21]] }
  | 27, 27, 0 => some { tmps := [0, 2, 4, 5, 6, 7, 8], loops := [], dead := [], stk := [] }
  | 56, 13, 8 => some { tmps := [0, 1, 2, 3], loops := [], dead := [7], stk := [[0, 2, 4, 5, 6, 7, 8, 20, 21]] }
  | 59, 9, 8 => some { tmps := [0, 3], loops := [], dead := [7], stk := [[2, 5], [0, 2, 4, 5, 6, 7, 8, 20, 21]] }
  | 27, 33, 0 => some { tmps := [2, 4, 5, 6, 7, 8], loops := [], dead := [], stk := [] }
  | 57, 11, 8 => some { tmps := [0, 3, 4, 5, 6, 7], loops := [], dead := [], stk := [[2, 3, 15], [0, 2, 4, 5, 6, 7, 8, 20, 21]] }
  | 59, 13, 8 => some { tmps := [0, 3], loops := [], dead := [], stk := [[2, 5], [0, 2, 4, 5, 6, 7, 8, 20, 21]] }
  | 27, 37, 0 => some { tmps := [2, 4, 5, 6, 7, 8], loops := [], dead := [], stk := [] }
  | 57, 31, 8 => some { tmps := [4, 5], loops := [], dead := [], stk := [[2, 3, 15], [0, 2, 4, 5, 6, 7, 8, 20, 21]] }
  | 59, 21, 8 => some { tmps := [3, 5], loops := [], dead := [], stk := [[2, 5], [0, 2, 4, 5, 6, 7, 8, 20, 21]] }
  | 27, 39, 0 => some { tmps := [2, 5, 6, 7, 8, 11], loops := [], dead := [], stk := [] }
  | 59, 9, 10 => some { tmps := [0, 3], loops := [], dead := [8, 9], stk := [[2, 5], [0, 2, 4, 5, 6, 7, 8, 20, 21]] }
  | 27, 41, 0 => some { tmps := [2], loops := [], dead := [], stk := [] }
  | 59, 13, 10 => some { tmps := [0, 3], loops := [], dead := [], stk := [[2, 5], [0, 2, 4, 5, 6, 7, 8, 20, 21]] }
  | 59, 21, 10 => some { tmps := [3, 5], loops := [], dead := [], stk := [[2, 5], [0, 2, 4, 5, 6, 7, 8, 20, 21]] }
  | _, _, _ => none
noncomputable def fn27 (x : (List Int)) : (DInsn × Int) := endVal (TC.dflt (.st CInsn (.st1 (.int .i64)))) (step27 x) (tree27 x)
def pre27 (x : (List Int)) : Prop := ∃ r, Ends (step27 x) r (tree27 x)
noncomputable def spec27 : Spec := { dom := (.st1 (.slice (.int .u8))), cod := (.st CInsn (.st1 (.int .i64))), n := 2, pre := pre27, f := fn27 }
noncomputable def need27 : FuncId → Option Spec
  | 60 => some spec60
  | 89 => some spec89
  | 90 => some spec90
  | 91 => some spec91
  | 92 => some spec92
  | 93 => some spec93
  | 94 => some spec94
  | 95 => some spec95
  | 194 => some spec194
  | 195 => some spec195
  | 196 => some spec196
  | 197 => some spec197
  | 198 => some spec198
  | 199 => some spec199
  | 200 => some spec200
  | 201 => some spec201
  | 202 => some spec202
  | _ => none
theorem need27_ok : ∀ f sp, need27 f = some sp → SpecOk env0 f sp := by
  intro f sp h
  unfold need27 at h
  split at h
  · cases h; exact ok60
  · cases h; exact ok89
  · cases h; exact ok90
  · cases h; exact ok91
  · cases h; exact ok92
  · cases h; exact ok93
  · cases h; exact ok94
  · cases h; exact ok95
  · cases h; exact ok194
  · cases h; exact ok195
  · cases h; exact ok196
  · cases h; exact ok197
  · cases h; exact ok198
  · cases h; exact ok199
  · cases h; exact ok200
  · cases h; exact ok201
  · cases h; exact ok202
  · cases h
theorem run27 (W : Cfg) (Q : (DInsn × Int) → Prop) (x : (List Int)) : run (env need27 (fun _ _ => none)) stop27 (finS spec27 Q) W 100000 (startFr 27 Tryd.f27 (bodyOf Tryd.f27) (argsOf (.st1 (.slice (.int .u8))) x)) [] [] = (tree27 x).wp (kont W Q (head27 x)) := by kernel_rfl
theorem run27h0 (W : Cfg) (Q : (DInsn × Int) → Prop) (x : (List Int)) (v23 : (List Int)) (v25 : Int) : run (env need27 (fun _ _ => none)) stop27 (finS spec27 Q) W 100000 (head27 x (.h0 v23 v25)).fr.enter (head27 x (.h0 v23 v25)).stk (head27 x (.h0 v23 v25)).H = (step27 x (.h0 v23 v25)).wp (kont W Q (head27 x)) := by kernel_rfl
theorem run27h1 (W : Cfg) (Q : (DInsn × Int) → Prop) (x : (List Int)) (v23 : (List Int)) (v25 : Int) (v26 : Bool) (v27 : Int) : run (env need27 (fun _ _ => none)) stop27 (finS spec27 Q) W 100000 (head27 x (.h1 v23 v25 v26 v27)).fr.enter (head27 x (.h1 v23 v25 v26 v27)).stk (head27 x (.h1 v23 v25 v26 v27)).H = (step27 x (.h1 v23 v25 v26 v27)).wp (kont W Q (head27 x)) := by kernel_rfl
theorem run27h2 (W : Cfg) (Q : (DInsn × Int) → Prop) (x : (List Int)) (v23 : (List Int)) (v25 : Int) (v26 : Bool) (v27 : Int) (v28 : Int) : run (env need27 (fun _ _ => none)) stop27 (finS spec27 Q) W 100000 (head27 x (.h2 v23 v25 v26 v27 v28)).fr.enter (head27 x (.h2 v23 v25 v26 v27 v28)).stk (head27 x (.h2 v23 v25 v26 v27 v28)).H = (step27 x (.h2 v23 v25 v26 v27 v28)).wp (kont W Q (head27 x)) := by kernel_rfl
theorem run27h3 (W : Cfg) (Q : (DInsn × Int) → Prop) (x : (List Int)) (v22 : Dreader) (v29 : DForm) (v43 : DOperand) (v51 : DOperand) (v59 : Int) : run (env need27 (fun _ _ => none)) stop27 (finS spec27 Q) W 100000 (head27 x (.h3 v22 v29 v43 v51 v59)).fr.enter (head27 x (.h3 v22 v29 v43 v51 v59)).stk (head27 x (.h3 v22 v29 v43 v51 v59)).H = (step27 x (.h3 v22 v29 v43 v51 v59)).wp (kont W Q (head27 x)) := by kernel_rfl
theorem run27h4 (W : Cfg) (Q : (DInsn × Int) → Prop) (x : (List Int)) (v0 : Int) (v24 : (List Int)) (v26 : Int) (v27 : Bool) (v28 : Int) (v29 : Int) (v30 : Int) : run (env need27 (fun _ _ => none)) stop27 (finS spec27 Q) W 100000 (head27 x (.h4 v0 v24 v26 v27 v28 v29 v30)).fr.enter (head27 x (.h4 v0 v24 v26 v27 v28 v29 v30)).stk (head27 x (.h4 v0 v24 v26 v27 v28 v29 v30)).H = (step27 x (.h4 v0 v24 v26 v27 v28 v29 v30)).wp (kont W Q (head27 x)) := by kernel_rfl
theorem run27h5 (W : Cfg) (Q : (DInsn × Int) → Prop) (x : (List Int)) (v22 : Dreader) (v29 : DForm) (v43 : DOperand) (v51 : DOperand) (v59 : Int) : run (env need27 (fun _ _ => none)) stop27 (finS spec27 Q) W 100000 (head27 x (.h5 v22 v29 v43 v51 v59)).fr.enter (head27 x (.h5 v22 v29 v43 v51 v59)).stk (head27 x (.h5 v22 v29 v43 v51 v59)).H = (step27 x (.h5 v22 v29 v43 v51 v59)).wp (kont W Q (head27 x)) := by kernel_rfl
theorem run27h6 (W : Cfg) (Q : (DInsn × Int) → Prop) (x : (List Int)) (v23 : Dreader) (v30 : DForm) : run (env need27 (fun _ _ => none)) stop27 (finS spec27 Q) W 100000 (head27 x (.h6 v23 v30)).fr.enter (head27 x (.h6 v23 v30)).stk (head27 x (.h6 v23 v30)).H = (step27 x (.h6 v23 v30)).wp (kont W Q (head27 x)) := by kernel_rfl
theorem run27h7 (W : Cfg) (Q : (DInsn × Int) → Prop) (x : (List Int)) (v23 : Dreader) (v30 : DForm) (v61 : DForm) : run (env need27 (fun _ _ => none)) stop27 (finS spec27 Q) W 100000 (head27 x (.h7 v23 v30 v61)).fr.enter (head27 x (.h7 v23 v30 v61)).stk (head27 x (.h7 v23 v30 v61)).H = (step27 x (.h7 v23 v30 v61)).wp (kont W Q (head27 x)) := by kernel_rfl
theorem run27h8 (W : Cfg) (Q : (DInsn × Int) → Prop) (x : (List Int)) (v0 : Int) (v1 : Int) (v2 : Int) (v20 : Int) (v21 : Dreader) (v28 : DForm) (v42 : DOperand) (v50 : DOperand) (v58 : Int) : run (env need27 (fun _ _ => none)) stop27 (finS spec27 Q) W 100000 (head27 x (.h8 v0 v1 v2 v20 v21 v28 v42 v50 v58)).fr.enter (head27 x (.h8 v0 v1 v2 v20 v21 v28 v42 v50 v58)).stk (head27 x (.h8 v0 v1 v2 v20 v21 v28 v42 v50 v58)).H = (step27 x (.h8 v0 v1 v2 v20 v21 v28 v42 v50 v58)).wp (kont W Q (head27 x)) := by kernel_rfl
theorem run27h9 (W : Cfg) (Q : (DInsn × Int) → Prop) (x : (List Int)) (v0 : Int) (v1 : Int) (v25 : Dreader) (v32 : DForm) (v63 : DForm) (v85 : DOperand) : run (env need27 (fun _ _ => none)) stop27 (finS spec27 Q) W 100000 (head27 x (.h9 v0 v1 v25 v32 v63 v85)).fr.enter (head27 x (.h9 v0 v1 v25 v32 v63 v85)).stk (head27 x (.h9 v0 v1 v25 v32 v63 v85)).H = (step27 x (.h9 v0 v1 v25 v32 v63 v85)).wp (kont W Q (head27 x)) := by kernel_rfl
theorem run27h10 (W : Cfg) (Q : (DInsn × Int) → Prop) (x : (List Int)) (v23 : Dreader) (v30 : DForm) (v61 : DForm) : run (env need27 (fun _ _ => none)) stop27 (finS spec27 Q) W 100000 (head27 x (.h10 v23 v30 v61)).fr.enter (head27 x (.h10 v23 v30 v61)).stk (head27 x (.h10 v23 v30 v61)).H = (step27 x (.h10 v23 v30 v61)).wp (kont W Q (head27 x)) := by kernel_rfl
theorem run27h11 (W : Cfg) (Q : (DInsn × Int) → Prop) (x : (List Int)) (v0 : Int) (v1 : Int) (v2 : Int) (v19 : Int) (v20 : Int) (v21 : Dreader) (v28 : DForm) (v42 : DOperand) (v50 : DOperand) (v58 : Int) : run (env need27 (fun _ _ => none)) stop27 (finS spec27 Q) W 100000 (head27 x (.h11 v0 v1 v2 v19 v20 v21 v28 v42 v50 v58)).fr.enter (head27 x (.h11 v0 v1 v2 v19 v20 v21 v28 v42 v50 v58)).stk (head27 x (.h11 v0 v1 v2 v19 v20 v21 v28 v42 v50 v58)).H = (step27 x (.h11 v0 v1 v2 v19 v20 v21 v28 v42 v50 v58)).wp (kont W Q (head27 x)) := by kernel_rfl
theorem run27h12 (W : Cfg) (Q : (DInsn × Int) → Prop) (x : (List Int)) (v23 : Dreader) (v30 : DForm) (v61 : DOperand) (v69 : DOperand) : run (env need27 (fun _ _ => none)) stop27 (finS spec27 Q) W 100000 (head27 x (.h12 v23 v30 v61 v69)).fr.enter (head27 x (.h12 v23 v30 v61 v69)).stk (head27 x (.h12 v23 v30 v61 v69)).H = (step27 x (.h12 v23 v30 v61 v69)).wp (kont W Q (head27 x)) := by kernel_rfl
theorem run27h13 (W : Cfg) (Q : (DInsn × Int) → Prop) (x : (List Int)) (v0 : Int) (v24 : Dreader) (v31 : DForm) (v62 : DForm) : run (env need27 (fun _ _ => none)) stop27 (finS spec27 Q) W 100000 (head27 x (.h13 v0 v24 v31 v62)).fr.enter (head27 x (.h13 v0 v24 v31 v62)).stk (head27 x (.h13 v0 v24 v31 v62)).H = (step27 x (.h13 v0 v24 v31 v62)).wp (kont W Q (head27 x)) := by kernel_rfl
theorem run27h14 (W : Cfg) (Q : (DInsn × Int) → Prop) (x : (List Int)) (v0 : Int) (v1 : Int) (v2 : Int) (v19 : Int) (v20 : Int) (v21 : DForm) (v35 : DOperand) (v43 : DOperand) (v51 : Int) (v52 : DOperand) : run (env need27 (fun _ _ => none)) stop27 (finS spec27 Q) W 100000 (head27 x (.h14 v0 v1 v2 v19 v20 v21 v35 v43 v51 v52)).fr.enter (head27 x (.h14 v0 v1 v2 v19 v20 v21 v35 v43 v51 v52)).stk (head27 x (.h14 v0 v1 v2 v19 v20 v21 v35 v43 v51 v52)).H = (step27 x (.h14 v0 v1 v2 v19 v20 v21 v35 v43 v51 v52)).wp (kont W Q (head27 x)) := by kernel_rfl
theorem run27h15 (W : Cfg) (Q : (DInsn × Int) → Prop) (x : (List Int)) (v23 : Dreader) (v30 : DForm) (v44 : DOperand) (v52 : DOperand) (v61 : DForm) : run (env need27 (fun _ _ => none)) stop27 (finS spec27 Q) W 100000 (head27 x (.h15 v23 v30 v44 v52 v61)).fr.enter (head27 x (.h15 v23 v30 v44 v52 v61)).stk (head27 x (.h15 v23 v30 v44 v52 v61)).H = (step27 x (.h15 v23 v30 v44 v52 v61)).wp (kont W Q (head27 x)) := by kernel_rfl
theorem run27h16 (W : Cfg) (Q : (DInsn × Int) → Prop) (x : (List Int)) (v0 : DInsn) : run (env need27 (fun _ _ => none)) stop27 (finS spec27 Q) W 100000 (head27 x (.h16 v0)).fr.enter (head27 x (.h16 v0)).stk (head27 x (.h16 v0)).H = (step27 x (.h16 v0)).wp (kont W Q (head27 x)) := by kernel_rfl
theorem run27h17 (W : Cfg) (Q : (DInsn × Int) → Prop) (x : (List Int)) (v23 : Dreader) (v30 : DForm) (v44 : DOperand) (v52 : DOperand) (v61 : DForm) : run (env need27 (fun _ _ => none)) stop27 (finS spec27 Q) W 100000 (head27 x (.h17 v23 v30 v44 v52 v61)).fr.enter (head27 x (.h17 v23 v30 v44 v52 v61)).stk (head27 x (.h17 v23 v30 v44 v52 v61)).H = (step27 x (.h17 v23 v30 v44 v52 v61)).wp (kont W Q (head27 x)) := by kernel_rfl
theorem run27h18 (W : Cfg) (Q : (DInsn × Int) → Prop) (x : (List Int)) (v0 : Int) (v24 : Dreader) (v31 : DForm) (v45 : DOperand) (v53 : DOperand) (v62 : DForm) : run (env need27 (fun _ _ => none)) stop27 (finS spec27 Q) W 100000 (head27 x (.h18 v0 v24 v31 v45 v53 v62)).fr.enter (head27 x (.h18 v0 v24 v31 v45 v53 v62)).stk (head27 x (.h18 v0 v24 v31 v45 v53 v62)).H = (step27 x (.h18 v0 v24 v31 v45 v53 v62)).wp (kont W Q (head27 x)) := by kernel_rfl
theorem runs27 (W : Cfg) (Q : (DInsn × Int) → Prop) (x : (List Int)) : ∀ j : J27, run (env need27 (fun _ _ => none)) stop27 (finS spec27 Q) W 100000 (head27 x j).fr.enter (head27 x j).stk (head27 x j).H = (step27 x j).wp (kont W Q (head27 x))
  | .h0 v23 v25 => run27h0 W Q x v23 v25
  | .h1 v23 v25 v26 v27 => run27h1 W Q x v23 v25 v26 v27
  | .h2 v23 v25 v26 v27 v28 => run27h2 W Q x v23 v25 v26 v27 v28
  | .h3 v22 v29 v43 v51 v59 => run27h3 W Q x v22 v29 v43 v51 v59
  | .h4 v0 v24 v26 v27 v28 v29 v30 => run27h4 W Q x v0 v24 v26 v27 v28 v29 v30
  | .h5 v22 v29 v43 v51 v59 => run27h5 W Q x v22 v29 v43 v51 v59
  | .h6 v23 v30 => run27h6 W Q x v23 v30
  | .h7 v23 v30 v61 => run27h7 W Q x v23 v30 v61
  | .h8 v0 v1 v2 v20 v21 v28 v42 v50 v58 => run27h8 W Q x v0 v1 v2 v20 v21 v28 v42 v50 v58
  | .h9 v0 v1 v25 v32 v63 v85 => run27h9 W Q x v0 v1 v25 v32 v63 v85
  | .h10 v23 v30 v61 => run27h10 W Q x v23 v30 v61
  | .h11 v0 v1 v2 v19 v20 v21 v28 v42 v50 v58 => run27h11 W Q x v0 v1 v2 v19 v20 v21 v28 v42 v50 v58
  | .h12 v23 v30 v61 v69 => run27h12 W Q x v23 v30 v61 v69
  | .h13 v0 v24 v31 v62 => run27h13 W Q x v0 v24 v31 v62
  | .h14 v0 v1 v2 v19 v20 v21 v35 v43 v51 v52 => run27h14 W Q x v0 v1 v2 v19 v20 v21 v35 v43 v51 v52
  | .h15 v23 v30 v44 v52 v61 => run27h15 W Q x v23 v30 v44 v52 v61
  | .h16 v0 => run27h16 W Q x v0
  | .h17 v23 v30 v44 v52 v61 => run27h17 W Q x v23 v30 v44 v52 v61
  | .h18 v0 v24 v31 v45 v53 v62 => run27h18 W Q x v0 v24 v31 v45 v53 v62
theorem ok27 : SpecOk env0 27 spec27 := SpecOk.env rfl (fun _ _ h => h) (spec_of_trees (E := (env need27 (fun _ _ => none))) (sp := spec27) (valid _ _) (fun f sp h => SpecOk.env rfl (fun _ _ h => h) (need27_ok f sp h)) (fn := Tryd.f27) (c := (bodyOf Tryd.f27)) (by kernel_rfl) (by kernel_rfl) tree27 step27 head27 run27 runs27 (fun _ h => endVal_ends h))

end Go.Eng.RD
end
section
/- What decode.One comes to: a reader, and what is made of what it reads. -/
namespace Go.Eng.RD
open Go.Eng
set_option maxRecDepth 100000
noncomputable section

abbrev DH : Type := (Int × (Bool × (Int × (Int × Int))))
abbrev fDigit (f : DForm) : Int := f.2.2.2.2.1
abbrev fDo (f : DForm) : Int := f.2.2.2.2.2.1
abbrev fCond (f : DForm) : Int := f.2.2.2.2.2.2.1
abbrev fWide (f : DForm) : Int := f.2.2.2.2.2.2.2.1
abbrev fKind (f : DForm) : Int := f.2.2.2.2.2.2.2.2.1
abbrev fImm (f : DForm) : Int := f.2.2.2.2.2.2.2.2.2.1
abbrev fMust (f : DForm) : Bool := f.2.2.2.2.2.2.2.2.2.2.1
abbrev fVec (f : DForm) : Bool := f.2.2.2.2.2.2.2.2.2.2.2.1
abbrev fByte (f : DForm) : Bool := f.2.2.2.2.2.2.2.2.2.2.2.2.1
abbrev fMem (f : DForm) : Bool := f.2.2.2.2.2.2.2.2.2.2.2.2.2

/-! ### What stands ahead -/
def aS3 (p : Int) (rex : Bool) (bits : Int) (c : Int) : Pz DH :=
  cond (ieq c 56) (byteP fun o => retP (p, (rex, (bits, (2, o))))) (cond (ieq c 58) (byteP fun o => retP (p, (rex, (bits, (3, o))))) (retP (p, (rex, (bits, (1, c))))))
def aS2 (p : Int) (rex : Bool) (bits : Int) (c : Int) : Pz DH := cond (ieq c 15) (byteP (aS3 p rex bits)) (retP (p, (rex, (bits, (0, c)))))
def aS1 (p : Int) (c : Int) : Pz DH := cond (fn89 c) (byteP (aS2 p true (iand .u8 c 15))) (aS2 p false 0 c)
def aS0 (c : Int) : Pz DH := cond (ieq c 102 || ieq c 243) (byteP (aS1 c)) (aS1 0 c)
def aheadS : Pz DH := byteP aS0

/-! ### Operands, numbers -/
def badOp (h : DH) (f : DForm) (n : Int) (rm : DOperand) : Bool :=
  (fMem f && ieq rm.1 1) || (fByte f && (!h.2.1 && (fn93 rm || (ieq (fWide f) 1 && (ieq (fKind f) 1 || ieq (fKind f) 2) && fn93 (fn60 n)))))
def up16 (o : DOperand) : DOperand := (o.1, (iadd .i64 o.2.1 16, o.2.2))
def regV (f : DForm) (n : Int) : DOperand := cond (fVec f) (up16 (fn60 n)) (fn60 n)
def rmV (f : DForm) (rm : DOperand) : DOperand := cond (fVec f && ieq rm.1 1) (up16 rm) rm
def opndP (h : DH) (f : DForm) : Pz (DOperand × DOperand) := bindP (takeS h.2.2.1) fun a => cond (badOp h f a.1 a.2) failP (retP (regV f a.1, rmV f a.2))
def numS (f : DForm) (d : List Int) : Int := cond (ieq (fImm f) 0) 0 (cond (ile 16 (fDo f) && ile (fDo f) 20) (iconv .i64 (fn94 d)) (iconv .i64 (fn95 (fn94 d, fImm f))))
def numP (f : DForm) : Pz Int := bytesP (fImm f).toNat fun d => retP (numS f d)
def hasOp (f : DForm) : Bool := ieq (fKind f) 1 || (ieq (fKind f) 2 || (ieq (fKind f) 3 || (ieq (fKind f) 4 || ieq (fKind f) 5)))
abbrev Parts : Type := DH × (DForm × (DOperand × (DOperand × Int)))
def restP (h : DH) (f : DForm) : Pz Parts :=
  cond (hasOp f) (bindP (opndP h f) fun a => bindP (numP f) fun n => retP (h, (f, (a.1, (a.2, n))))) (bindP (numP f) fun n => retP (h, (f, (zO, (zO, n)))))
def digitB (b : List Int) : Int := match b with | [] => 0 | c :: _ => iconv .i64 (iand .u8 (ishr .u8 c 3) 7)
def keyS (h : DH) (d : Int) : Key := (h.1, (h.2.2.2.1, (h.2.2.2.2, d)))
def formP (h : DH) : Pz Parts := fun b =>
  cond ((foundB (keyS h (digitB b))).2 && !(fMust (foundB (keyS h (digitB b))).1 && ieq (iand .u8 h.2.2.1 8) 0)) (restP h (foundB (keyS h (digitB b))).1 b) none
def oneP : Pz Parts := bindP aheadS formP

/-! ### The instruction -/
def placesS (k : Int) (x : DOperand × (DOperand × (DOperand × DOperand))) : DOperand × DOperand :=
  cond (ieq k 0) (fn194 x) (cond (ieq k 1) (fn195 x) (cond (ieq k 2) (fn196 x) (cond (ieq k 3) (fn197 x) (cond (ieq k 4) (fn198 x) (cond (ieq k 5) (fn199 x) (cond (ieq k 6) (fn200 x) (cond (ieq k 7) (fn201 x) (fn202 x))))))))
def immO (n : Int) : DOperand := (3, (0, ((-1), ((-1), (0, (0, (false, n)))))))
def plusO (h : DH) : DOperand := fn60 (iconv .i64 (ior .u8 (iand .u8 h.2.2.2.2 7) (ishl .u8 (iand .u8 h.2.2.1 1) 3)))
def wideS (h : DH) (f : DForm) : Int := cond (ieq (fWide f) 0) (iadd .i64 4 (ishr .i64 (iconv .i64 (iand .u8 h.2.2.1 8)) 1)) (fWide f)
def abS (a : Parts) : DOperand × DOperand := placesS (fKind a.2.1) (a.2.2.1, (a.2.2.2.1, (plusO a.1, immO a.2.2.2.2)))
def mkI (len : Int) (a : Parts) : DInsn :=
  (fDo a.2.1, (fCond a.2.1, (wideS a.1 a.2.1, ((abS a).1, ((abS a).2, (cond (ieq (fDo a.2.1) 39) (iconv .u8 a.2.2.2.2) 0, len))))))
def zI : DInsn := (0, (0, (0, (zO, (zO, (0, 0))))))
/-- What is given for what is read. -/
def oneR (x : List Int) : Option (Parts × List Int) → DInsn × Int
  | none => (zI, 80)
  | some (a, r) => (mkI (isub .i64 x.length r.length) a, 0)
def oneS (x : List Int) : DInsn × Int := oneR x (oneP x)

/-! ### The walk's ends -/
section
variable {x : List Int}

theorem pre199_ok (x) : pre199 x := ⟨trivial, trivial⟩
theorem h16E (v : DInsn) : Ends (step27 x) (v, 0) (step27 x (.h16 v)) := by simp only [step27, ends_ret]

theorem h14E {f : DForm} (v0 v1 v2 v19 v20 : Int) (reg rm o : DOperand) (n : Int) (h1 : 0 ≤ fKind f) (h2 : fKind f < 9) :
    Ends (step27 x) ((v0, (v1, (v2, ((placesS (fKind f) (reg, (rm, (o, immO n)))).1, ((placesS (fKind f) (reg, (rm, (o, immO n)))).2, (v19, v20)))))), 0) (step27 x (.h14 v0 v1 v2 v19 v20 f reg rm n o)) := by
  simp only [step27]
  simp only [ends_need, ends_jump, ends_ite, placesS, immO]
  have t : ∀ y, pre194 y ∧ pre195 y ∧ pre196 y ∧ pre197 y ∧ pre198 y ∧ pre199 y ∧ pre200 y ∧ pre201 y ∧ pre202 y := fun y => ⟨trivial, trivial, trivial, trivial, trivial, pre199_ok y, trivial, trivial, trivial⟩
  refine ⟨h1, h2, fun e => ⟨by omega, by omega, (t _).1, ?_⟩, fun e => ⟨fun e1 => ⟨by omega, by omega, (t _).2.1, ?_⟩, fun e1 => ⟨fun e2 => ⟨by omega, by omega, (t _).2.2.1, ?_⟩, fun e2 => ⟨fun e3 => ⟨by omega, by omega, (t _).2.2.2.1, ?_⟩,
    fun e3 => ⟨fun e4 => ⟨by omega, by omega, (t _).2.2.2.2.1, ?_⟩, fun e4 => ⟨fun e5 => ⟨by omega, by omega, (t _).2.2.2.2.2.1, ?_⟩, fun e5 => ⟨fun e6 => ⟨by omega, by omega, (t _).2.2.2.2.2.2.1, ?_⟩, fun e6 => ⟨fun e7 => ⟨by omega, by omega, (t _).2.2.2.2.2.2.2.1, ?_⟩, fun e7 => ⟨by omega, by omega, (t _).2.2.2.2.2.2.2.2, ?_⟩⟩⟩⟩⟩⟩⟩⟩⟩ <;>
    (simp only [*, cond_true, cond_false]; exact h16E _)

/-- The end, with or without. -/
def finR (x : List Int) (v : Dreader) (f : DForm) (reg rm : DOperand) (n : Int) : DInsn × Int :=
  cond v.2.1 (zI, 80) (mkI (isub .i64 x.length v.1.length) (v.2.2, (f, (reg, (rm, n)))), 0)

theorem h3E {v : Dreader} {f : DForm} (reg rm : DOperand) (n : Int) (h : v.2.1 = false → 0 ≤ fKind f ∧ fKind f < 9) : Ends (step27 x) (finR x v f reg rm n) (step27 x (.h3 v f reg rm n)) := by
  simp only [step27]
  rw [ends_ite]
  refine ⟨fun e => ?_, fun e => ?_⟩
  · rw [ends_ret]; unfold finR; rw [e]; rfl
  · have h11 : ∀ v0 v1 v2 v19 v20, Ends (step27 x) ((v0, (v1, (v2, ((abS (v.2.2, (f, (reg, (rm, n))))).1, ((abS (v.2.2, (f, (reg, (rm, n))))).2, (v19, v20)))))), 0) (step27 x (.h11 v0 v1 v2 v19 v20 v f reg rm n)) := by
      intro v0 v1 v2 v19 v20
      simp only [step27]
      simp only [ends_need, ends_jump]
      exact ⟨by omega, trivial, h14E _ _ _ _ _ _ _ _ _ (h e).1 (h e).2⟩
    have h8 : ∀ v0 v1 v2 v20, Ends (step27 x) ((v0, (v1, (v2, ((abS (v.2.2, (f, (reg, (rm, n))))).1, ((abS (v.2.2, (f, (reg, (rm, n))))).2, (cond (ieq (fDo f) 39) (iconv .u8 n) 0, v20)))))), 0) (step27 x (.h8 v0 v1 v2 v20 v f reg rm n)) := by
      intro v0 v1 v2 v20
      simp only [step27]
      simp only [ends_ite, ends_jump]
      refine ⟨fun e => ?_, fun e => ?_⟩ <;> (rw [e]; exact h11 _ _ _ _ _)
    rw [ends_jump]
    simp only [step27]
    unfold finR
    rw [e]
    simp only [ends_ite, ends_need, ends_jump, cond_false, mkI, wideS]
    refine ⟨fun e => ⟨by omega, ?_⟩, fun e => ?_⟩ <;> (rw [e]; exact h8 _ _ _ _)

/-- The number is read. -/
def numR (x : List Int) (v : Dreader) (f : DForm) (reg rm : DOperand) : DInsn × Int :=
  cond (ilt v.1.length (fImm f)) (zI, 80) (finR x (v.1.drop (fImm f).toNat, v.2) f reg rm (numS f (v.1.take (fImm f).toNat)))

variable {v : Dreader} {f : DForm} (hb : v.2.1 = false) (hk : 0 ≤ fKind f ∧ fKind f < 9) (hi : 0 ≤ fImm f ∧ fImm f ≤ 8) (hl : v.1.length ≤ 1000)
include hb hk hi hl

theorem h15E (hn : ilt v.1.length (fImm f) = false) (reg rm : DOperand) : Ends (step27 x) (numR x v f reg rm) (step27 x (.h15 v f reg rm f)) := by
  have hn' := ilt_no.1 hn
  have hle : (fImm f).toNat ≤ v.1.length := by omega
  unfold numR
  rw [hn, cond_false]
  simp only [step27]
  simp only [ends_ite, ends_jump]
  refine ⟨fun e => ⟨fun e' => (by rw [hb] at e'; cases e'), fun _ => ?_⟩, fun e => ?_⟩
  · have e0 : fImm f = 0 := ieq_iff.1 e
    have : (v.1.drop (fImm f).toNat, v.2) = v := by rw [e0]; rfl
    rw [this]
    have : numS f (v.1.take (fImm f).toNat) = 0 := by unfold numS; rw [e]; rfl
    rw [this]
    exact h3E _ _ _ fun _ => hk
  · simp only [step27]
    simp only [ends_need, ends_ite, ends_jump, List.drop_zero, Nat.sub_zero]
    have hp := pre94_ok (v.1.take (fImm f).toNat) (by simp; omega)
    refine ⟨hi.1, by omega, hle, hp, hi.1, hle, fun e1 => ⟨fun e2 => ⟨fun e' => (by rw [hb] at e'; cases e'), fun _ => ?_⟩, fun e2 => ?_⟩, fun e1 => ?_⟩
    · have e1 : ile 16 (fDo f) = true := by simpa using e1
      have : numS f (v.1.take (fImm f).toNat) = iconv .i64 (fn94 (v.1.take (fImm f).toNat)) := by unfold numS; rw [e, e1, e2]; rfl
      rw [this]
      exact h3E _ _ _ fun _ => hk
    · have : numS f (v.1.take (fImm f).toNat) = iconv .i64 (fn95 (fn94 (v.1.take (fImm f).toNat), fImm f)) := by unfold numS; rw [e, e2, Bool.and_false]; rfl
      rw [this]
      simp only [step27]
      simp only [ends_need, ends_ite, ends_jump]
      exact ⟨pre95_ok _ _, fun e' => (by rw [hb] at e'; cases e'), fun _ => h3E _ _ _ fun _ => hk⟩
    · have e1 : ile 16 (fDo f) = false := by simpa using e1
      have : numS f (v.1.take (fImm f).toNat) = iconv .i64 (fn95 (fn94 (v.1.take (fImm f).toNat), fImm f)) := by unfold numS; rw [e, e1, Bool.false_and]; rfl
      rw [this]
      simp only [step27]
      simp only [ends_need, ends_ite, ends_jump]
      exact ⟨pre95_ok _ _, fun e' => (by rw [hb] at e'; cases e'), fun _ => h3E _ _ _ fun _ => hk⟩

theorem h7E (hn : ilt v.1.length (fImm f) = false) : Ends (step27 x) (numR x v f zO zO) (step27 x (.h7 v f f)) := by
  have hn' := ilt_no.1 hn
  have hle : (fImm f).toNat ≤ v.1.length := by omega
  unfold numR
  rw [hn, cond_false]
  simp only [step27]
  simp only [ends_ite, ends_jump]
  refine ⟨fun e => ⟨fun e' => (by rw [hb] at e'; cases e'), fun _ => ?_⟩, fun e => ?_⟩
  · have e0 : fImm f = 0 := ieq_iff.1 e
    have : (v.1.drop (fImm f).toNat, v.2) = v := by rw [e0]; rfl
    rw [this]
    have : numS f (v.1.take (fImm f).toNat) = 0 := by unfold numS; rw [e]; rfl
    rw [this]
    exact h3E _ _ _ fun _ => hk
  · simp only [step27]
    simp only [ends_need, ends_ite, ends_jump, List.drop_zero, Nat.sub_zero]
    have hp := pre94_ok (v.1.take (fImm f).toNat) (by simp; omega)
    refine ⟨hi.1, by omega, hle, hp, hi.1, hle, fun e1 => ⟨fun e2 => ⟨fun e' => (by rw [hb] at e'; cases e'), fun _ => ?_⟩, fun e2 => ?_⟩, fun e1 => ?_⟩
    · have e1 : ile 16 (fDo f) = true := by simpa using e1
      have : numS f (v.1.take (fImm f).toNat) = iconv .i64 (fn94 (v.1.take (fImm f).toNat)) := by unfold numS; rw [e, e1, e2]; rfl
      rw [this]
      exact h3E _ _ _ fun _ => hk
    · have : numS f (v.1.take (fImm f).toNat) = iconv .i64 (fn95 (fn94 (v.1.take (fImm f).toNat), fImm f)) := by unfold numS; rw [e, e2, Bool.and_false]; rfl
      rw [this]
      simp only [step27]
      simp only [ends_need, ends_ite, ends_jump]
      exact ⟨pre95_ok _ _, fun e' => (by rw [hb] at e'; cases e'), fun _ => h3E _ _ _ fun _ => hk⟩
    · have e1 : ile 16 (fDo f) = false := by simpa using e1
      have : numS f (v.1.take (fImm f).toNat) = iconv .i64 (fn95 (fn94 (v.1.take (fImm f).toNat), fImm f)) := by unfold numS; rw [e, e1, Bool.false_and]; rfl
      rw [this]
      simp only [step27]
      simp only [ends_need, ends_ite, ends_jump]
      exact ⟨pre95_ok _ _, fun e' => (by rw [hb] at e'; cases e'), fun _ => h3E _ _ _ fun _ => hk⟩
end
end
end Go.Eng.RD
end
section
/- What decode.One comes to: operands, the form. -/
namespace Go.Eng.RD
open Go.Eng
set_option maxRecDepth 100000
set_option linter.unusedSectionVars false
noncomputable section

def afterR (x : List Int) (v : Dreader) (f : DForm) (reg rm : DOperand) : DInsn × Int := cond v.2.1 (zI, 80) (numR x v f reg rm)

section
variable {x : List Int} {f : DForm} (hk : 0 ≤ fKind f ∧ fKind f < 9) (hi : 0 ≤ fImm f ∧ fImm f ≤ 8)
include hk hi

theorem h12E {v : Dreader} (hl : v.1.length ≤ 1000) (reg rm : DOperand) : Ends (step27 x) (afterR x v f reg rm) (step27 x (.h12 v f reg rm)) := by
  unfold afterR
  simp only [step27]
  simp only [ends_ite, ends_need, ends_jump]
  refine ⟨fun hb => ?_, fun hb => ⟨by omega, by omega, by omega, by omega, fun _ => ⟨fun hn => ?_, fun hn => ?_⟩, fun e => ?_⟩⟩
  · rw [hb]
    have := h3E (x := x) (v := v) (f := f) reg rm 0 (fun _ => hk)
    unfold finR at this
    rw [hb] at this
    exact this
  · rw [hb]
    unfold numR
    rw [hn]
    exact h3E (x := x) (v := (v.1, (true, v.2.2))) (f := f) reg rm 0 (fun _ => hk)
  · rw [hb]
    exact h15E hb hk hi hl hn reg rm
  · rw [hb] at e; cases e

set_option maxHeartbeats 4000000 in
theorem h9E {v : Dreader} (hl : v.1.length ≤ 1000) (n used : Int) (rm : DOperand) (h1 : 0 ≤ used) (h2 : used.toNat ≤ v.1.length) :
    Ends (step27 x) (afterR x (v.1.drop used.toNat, (badOp v.2.2 f n rm, v.2.2)) f (regV f n) (rmV f rm)) (step27 x (.h9 n used v f f rm)) := by
  have key := fun b => h12E (x := x) hk hi (v := (v.1.drop used.toNat, (b, v.2.2))) (by simp; omega) (regV f n) (rmV f rm)
  have k := key (badOp v.2.2 f n rm)
  have p93 : ∀ o, pre93 o := fun o => by unfold pre93 tree93; simp only [ok_ite, ok_ret]; simp
  clear key
  generalize (afterR x (v.1.drop used.toNat, (badOp v.2.2 f n rm, v.2.2)) f (regV f n) (rmV f rm)) = R at k ⊢
  unfold badOp regV rmV up16 at k
  simp only [step27]
  simp only [fKind, fWide, fMem, fByte, fVec] at k
  generalize (ieq f.2.2.2.2.2.2.2.2.1 1) = k1 at k ⊢
  generalize (ieq f.2.2.2.2.2.2.2.2.1 2) = k2 at k ⊢
  generalize (ieq f.2.2.2.2.2.2.2.1 1) = w1 at k ⊢
  generalize f.2.2.2.2.2.2.2.2.2.2.2.2.2 = m at k ⊢
  generalize f.2.2.2.2.2.2.2.2.2.2.2.2.1 = y at k ⊢
  generalize f.2.2.2.2.2.2.2.2.2.2.2.1 = vc at k ⊢
  generalize v.2.2.2.1 = rx at k ⊢
  generalize ieq rm.1 1 = is at k ⊢
  generalize fn93 rm = l1 at k ⊢
  generalize fn93 (fn60 n) = l2 at k ⊢
  simp only [ends_need, p93, pre60_ok, true_and]
  refine ⟨h1, h2, ?_⟩
  cases k1 <;> cases k2 <;> cases w1 <;> cases m <;> cases y <;> cases vc <;> cases rx <;> cases is <;> cases l1 <;> first
    | (simpa only [ends_need, ends_ite, ends_jump, beq_self_eq_true, Bool.not_true, Bool.not_false, Bool.and_true, Bool.and_false, Bool.true_and, Bool.false_and, Bool.or_true, Bool.or_false, Bool.true_or, Bool.false_or, cond_true, cond_false, true_and, and_true,
        implies_true, forall_const, Bool.false_eq_true, Bool.true_eq_false, false_implies, true_implies, beq_false, beq_true, reduceCtorEq] using k)

theorem numR_eq {h : DH} (r : List Int) (reg rm : DOperand) : numR x (r, (false, h)) f reg rm = oneR x (bindP (numP f) (fun n => retP (h, (f, (reg, (rm, n))))) r) := by
  unfold numR bindP numP bytesP
  by_cases hn : ilt r.length (fImm f) = true
  · have := ilt_iff.1 hn
    rw [hn, cond_true, if_neg (by omega)]
    rfl
  · have hn : ilt r.length (fImm f) = false := by simpa using hn
    have := ilt_no.1 hn
    rw [hn, cond_false, if_pos (by omega)]
    rfl

theorem h6E {h : DH} {b : List Int} (hl : b.length ≤ 1000) (hB : AllB b) :
    Ends (step27 x) (oneR x (bindP (opndP h f) (fun a => bindP (numP f) fun n => retP (h, (f, (a.1, (a.2, n))))) b)) (step27 x (.h6 (b, (false, h)) f)) := by
  simp only [step27]
  simp only [ends_need, ends_ite, ends_jump]
  rw [fn92_ok hl hB]
  refine ⟨pre92_ok hl hB, ?_⟩
  unfold opndP bindP
  cases ht : takeS h.2.2.1 b with
  | none =>
    simp only [takeR]
    refine ⟨fun _ => ?_, fun e => by cases e⟩
    exact h3E (x := x) (v := (b, (true, h))) (f := f) _ _ 0 (fun _ => hk)
  | some a =>
    obtain ⟨⟨n, rm⟩, r⟩ := a
    obtain ⟨u, rfl, _, _⟩ := takeS_st _ _ _ _ ht
    simp only [takeR]
    have e1 : (((u ++ r).length : Int) - r.length) = (u.length : Nat) := by rw [List.length_append]; omega
    rw [e1]
    refine ⟨(fun e => by cases e), fun _ => ?_⟩
    have h9 := h9E (x := x) hk hi (v := (u ++ r, (false, h))) hl n (u.length : Nat) rm (by omega) (by rw [Int.toNat_natCast]; simp)
    simp only [Int.toNat_natCast, List.drop_left] at h9
    unfold afterR at h9
    simp only at h9
    cases hbad : badOp h f n rm with
    | true => rw [hbad] at h9; exact h9
    | false =>
      rw [hbad, cond_false, numR_eq hk hi] at h9
      exact h9
end

theorem forms_fact : ∀ f ∈ forms, (0 ≤ fKind f ∧ fKind f < 9) ∧ (0 ≤ fImm f ∧ fImm f ≤ 8) := by
  have : forms.all (fun f => (decide (0 ≤ fKind f) && decide (fKind f < 9)) && (decide (0 ≤ fImm f) && decide (fImm f ≤ 8))) = true := by decide +kernel
  intro f hf
  have := List.all_eq_true.1 this f hf
  simp only [Bool.and_eq_true, decide_eq_true_eq] at this
  exact this

section
variable {x : List Int}

theorem h4E {h : DH} {b : List Int} (hl : b.length ≤ 1000) (hB : AllB b) : Ends (step27 x) (oneR x (formP h b)) (step27 x (.h4 (digitB b) b h.1 h.2.1 h.2.2.1 h.2.2.2.1 h.2.2.2.2)) := by
  have bad : ∀ f, Ends (step27 x) (zI, 80) (step27 x (.h3 (b, (true, h)) f zO zO 0)) := fun f => h3E (x := x) (v := (b, (true, h))) (f := f) zO zO 0 (fun e => by cases e)
  simp only [step27]
  simp only [ends_need]
  rw [fn91_ok]
  refine ⟨pre91_ok _, ?_⟩
  unfold formP keyS
  generalize hF : foundB (h.1, (h.2.2.2.1, (h.2.2.2.2, digitB b))) = F
  obtain ⟨f, ok⟩ := F
  cases ok with
  | false =>
    simp only [ends_ite, ends_jump, Bool.false_and, cond_false]
    exact ⟨(fun e => by cases e), fun _ => bad f⟩
  | true =>
    have hf : f ∈ forms := by
      have := found_some (k := (h.1, (h.2.2.2.1, (h.2.2.2.2, digitB b)))) (by rw [hF])
      rw [hF] at this; exact this.1
    obtain ⟨hk, hi⟩ := forms_fact f hf
    have h6 := h6E (x := x) hk hi (h := h) hl hB
    have h7 : ∀ hn : ilt b.length (fImm f) = false, Ends (step27 x) (oneR x (bindP (numP f) (fun n => retP (h, (f, (zO, (zO, n))))) b)) (step27 x (.h7 (b, (false, h)) f f)) := fun hn => by
      rw [← numR_eq hk hi]; exact h7E (v := (b, (false, h))) rfl hk hi hl hn
    have h7b : ilt b.length (fImm f) = true → oneR x (bindP (numP f) (fun n => retP (h, (f, (zO, (zO, n))))) b) = (zI, 80) := fun hn => by
      rw [← numR_eq hk hi]; unfold numR; rw [hn]; rfl
    have tail : ∀ m : Bool, m = false → (((hasOp f = true → Ends (step27 x) (oneR x (restP h f b)) (step27 x (.h6 (b, (m, h)) f)))) ∧
        (hasOp f = false → ilt b.length (fImm f) = true → Ends (step27 x) (oneR x (restP h f b)) (step27 x (.h3 (b, (true, h)) f zO zO 0))) ∧
        (hasOp f = false → ilt b.length (fImm f) = false → Ends (step27 x) (oneR x (restP h f b)) (step27 x (.h7 (b, (m, h)) f f)))) := by
      rintro _ rfl
      refine ⟨fun e => ?_, fun e hn => ?_, fun e hn => ?_⟩
      · unfold restP; rw [e]; exact h6
      · unfold restP; rw [e, cond_false, h7b hn]; exact bad f
      · unfold restP; rw [e]; exact h7 hn
    simp only [Bool.true_and, Bool.not_true]
    cases hm : fMust f with
    | false =>
      simp only [fMust] at hm
      rw [ends_ite]
      refine ⟨fun _ => ?_, fun e => by cases e⟩
      simp only [hm, Bool.false_and, Bool.not_false, cond_true]
      obtain ⟨t6, t3, t7⟩ := tail false rfl
      unfold hasOp fKind at t6 t3 t7
      unfold fImm at t3 t7
      simp only [ends_ite, ends_need, ends_jump]
      refine ⟨(fun e => by cases e), fun _ => ⟨by omega, by omega, by omega, by omega, fun e1 => t6 (by rw [e1]; rfl), fun e1 => ⟨fun e2 => t6 (by rw [e1, e2]; rfl), fun e2 => ⟨fun e3 => t6 (by rw [e1, e2, e3]; rfl), fun e3 => ⟨fun e4 => t6 (by rw [e1, e2, e3, e4]; rfl),
        fun e4 => ⟨fun e5 => t6 (by rw [e1, e2, e3, e4, e5]; rfl), fun e5 => ⟨by omega, by omega, by omega, by omega, fun hn => t3 (by rw [e1, e2, e3, e4, e5]; rfl) hn, fun hn => t7 (by rw [e1, e2, e3, e4, e5]; rfl) hn⟩⟩⟩⟩⟩⟩⟩
    | true =>
      simp only [fMust] at hm
      rw [ends_ite]
      refine ⟨fun _ => ?_, fun e => by cases e⟩
      simp only [hm, Bool.true_and]
      rw [ends_ite]
      refine ⟨fun _ => ?_, fun e => by cases e⟩
      rw [ends_ite]
      refine ⟨fun e0 => ?_, fun e0 => ?_⟩
      · rw [e0, ends_jump]; exact bad f
      · obtain ⟨t6, t3, t7⟩ := tail (ieq (iand .u8 h.2.2.1 8) 0) e0
        unfold hasOp fKind at t6 t3 t7
        unfold fImm at t3 t7
        rw [show (!ieq (iand .u8 h.2.2.1 8) 0) = true by rw [e0]; rfl, cond_true]
        simp only [ends_ite, ends_need, ends_jump]
        refine ⟨by omega, by omega, by omega, by omega, fun e1 => t6 (by rw [e1]; rfl), fun e1 => ⟨fun e2 => t6 (by rw [e1, e2]; rfl), fun e2 => ⟨fun e3 => t6 (by rw [e1, e2, e3]; rfl), fun e3 => ⟨fun e4 => t6 (by rw [e1, e2, e3, e4]; rfl),
          fun e4 => ⟨fun e5 => t6 (by rw [e1, e2, e3, e4, e5]; rfl), fun e5 => ⟨fun e => (by rw [e0] at e; cases e), fun _ => ⟨by omega, by omega, by omega, by omega, fun _ => ⟨fun hn => t3 (by rw [e1, e2, e3, e4, e5]; rfl) hn, fun hn => t7 (by rw [e1, e2, e3, e4, e5]; rfl) hn⟩, fun e => (by rw [e0] at e; cases e)⟩⟩⟩⟩⟩⟩⟩
end
end
end Go.Eng.RD
end
section
/- What decode.One comes to: what stands ahead; that it hangs on its own bytes. -/
namespace Go.Eng.RD
open Go.Eng
set_option maxRecDepth 100000
set_option linter.unusedSectionVars false
noncomputable section

section
variable {x : List Int}

theorem h2E {b : List Int} (hl : b.length ≤ 1000) (hB : AllB b) (p : Int) (rex : Bool) (bits tab : Int) :
    Ends (step27 x) (oneR x (bindP (byteP fun o => retP (p, (rex, (bits, (tab, o))))) formP b)) (step27 x (.h2 b p rex bits tab)) := by
  simp only [step27]
  cases b with
  | nil =>
    simp only [ends_ite, ends_jump]
    refine ⟨(fun e => by cases e), fun _ => ?_⟩
    exact h3E (x := x) (v := ([], (true, (p, (rex, (bits, (tab, 0))))))) zO zO 0 (fun e => by cases e)
  | cons c r =>
    have h4 := h4E (x := x) (h := (p, (rex, (bits, (tab, c))))) (b := r) (by simp at hl; omega) hB.tail
    have e0 : (ieq (((c :: r).length : Nat) : Int) 0 == false) = true := by
      have : ieq (((c :: r).length : Nat) : Int) 0 = false := by rw [ieq_no, List.length_cons]; omega
      rw [this]; rfl
    have hlen : (0 : Int) < ((c :: r).length : Nat) := by rw [List.length_cons]; omega
    have hlen1 : 1 ≤ (c :: r).length := by rw [List.length_cons]; omega
    simp only [ends_ite, ends_need, ends_jump, rdc_zero, List.drop_succ_cons, List.drop_zero]
    refine ⟨fun _ => ⟨by omega, hlen, trivial, (fun e => by cases e), fun _ => ⟨by omega, hlen, by omega, hlen1, by omega, by omega, by omega, by omega, fun e => ⟨by omega, ilt_iff.1 e, by omega, ?_⟩, fun e => ?_⟩⟩, fun e => (by rw [e0] at e; cases e)⟩
    · cases r with
      | nil => cases e
      | cons c1 r1 => exact h4
    · cases r with
      | nil => exact h4
      | cons c1 r1 => rw [ilt_no, List.length_cons] at e; omega

theorem h1E {b : List Int} (hl : b.length ≤ 1000) (hB : AllB b) (p : Int) (rex : Bool) (bits : Int) :
    Ends (step27 x) (oneR x (bindP (byteP (aS2 p rex bits)) formP b)) (step27 x (.h1 b p rex bits)) := by
  have h2 := fun {b : List Int} (hl : b.length ≤ 1000) (hB : AllB b) tab => h2E (x := x) hl hB p rex bits tab
  simp only [step27]
  cases b with
  | nil =>
    simp only [ends_ite, ends_need, ends_jump]
    exact ⟨by omega, (fun e => by cases e), fun _ => h2 hl hB 0⟩
  | cons c r =>
    have hl' : r.length ≤ 1000 := by simp at hl; omega
    have e0 : (ieq (((c :: r).length : Nat) : Int) 0 == false) = true := by
      have : ieq (((c :: r).length : Nat) : Int) 0 = false := by rw [ieq_no, List.length_cons]; omega
      rw [this]; rfl
    have hlen : (0 : Int) < ((c :: r).length : Nat) := by rw [List.length_cons]; omega
    have hlen1 : 1 ≤ (c :: r).length := by rw [List.length_cons]; omega
    simp only [ends_ite, ends_need, ends_jump, rdc_zero, List.drop_succ_cons, List.drop_zero]
    refine ⟨by omega, fun _ => ⟨by omega, hlen, by omega, by omega, by omega, fun e15 => ⟨by omega, hlen, by omega, hlen1, by omega, by omega, ?_⟩, fun e15 => ?_⟩, fun e => (by rw [e0] at e; cases e)⟩
    · have hS : bindP (byteP (aS2 p rex bits)) formP (c :: r) = bindP (byteP (aS3 p rex bits)) formP r := by
        simp only [bindP, byteP, aS2, e15, cond_true]
      rw [hS]
      cases r with
      | nil => exact ⟨(fun e => by cases e), fun _ => h2 hl' hB.tail 1⟩
      | cons c1 r1 =>
        have hl2 : r1.length ≤ 1000 := by simp at hl; omega
        have e1 : (ieq (((c1 :: r1).length : Nat) : Int) 0 == false) = true := by
          have : ieq (((c1 :: r1).length : Nat) : Int) 0 = false := by rw [ieq_no, List.length_cons]; omega
          rw [this]; rfl
        have hlen : (0 : Int) < ((c1 :: r1).length : Nat) := by rw [List.length_cons]; omega
        have hlen1 : 1 ≤ (c1 :: r1).length := by rw [List.length_cons]; omega
        have hS : bindP (byteP (aS3 p rex bits)) formP (c1 :: r1) = bindP (aS3 p rex bits c1) formP r1 := rfl
        rw [hS]
        simp only [rdc_zero]
        refine ⟨fun _ => ⟨by omega, hlen, by omega, by omega, by omega, fun e56 => ⟨by omega, hlen, by omega, hlen1, fun _ => ?_, fun e => (by rw [e56] at e; cases e)⟩, fun e56 => ⟨by omega, by omega, by omega, fun e58 => ⟨by omega, hlen, by omega, hlen1, fun e => (by rw [e56] at e; cases e), fun _ => ⟨fun _ => ?_, fun e => (by rw [e58] at e; cases e)⟩⟩, fun e58 => ?_⟩⟩, fun e => (by rw [e1] at e; cases e)⟩
        · unfold aS3; rw [e56]; exact h2 hl2 hB.tail.tail 2
        · unfold aS3; rw [e56, e58]; exact h2 hl2 hB.tail.tail 3
        · unfold aS3; rw [e56, e58]; exact h2 hl' hB.tail 1
    · have hS : bindP (byteP (aS2 p rex bits)) formP (c :: r) = bindP (byteP fun o => retP (p, (rex, (bits, (0, o))))) formP (c :: r) := by
        simp only [bindP, byteP, aS2, e15, cond_false]
      rw [hS]
      exact h2 hl hB 0

theorem h0E {b : List Int} (hl : b.length ≤ 1000) (hB : AllB b) (p : Int) :
    Ends (step27 x) (oneR x (bindP (byteP (aS1 p)) formP b)) (step27 x (.h0 b p)) := by
  have h1 := fun {b : List Int} (hl : b.length ≤ 1000) (hB : AllB b) rex bits => h1E (x := x) hl hB p rex bits
  simp only [step27]
  cases b with
  | nil =>
    simp only [ends_ite, ends_need, ends_jump]
    exact ⟨(fun e => by cases e), fun _ => h1 hl hB false 0⟩
  | cons c r =>
    have hl' : r.length ≤ 1000 := by simp at hl; omega
    have e0 : (ieq (((c :: r).length : Nat) : Int) 0 == false) = true := by
      have : ieq (((c :: r).length : Nat) : Int) 0 = false := by rw [ieq_no, List.length_cons]; omega
      rw [this]; rfl
    have hlen : (0 : Int) < ((c :: r).length : Nat) := by rw [List.length_cons]; omega
    have hlen1 : 1 ≤ (c :: r).length := by rw [List.length_cons]; omega
    have p89 : pre89 c := ⟨by omega, trivial⟩
    simp only [ends_ite, ends_need, ends_jump, rdc_zero, List.drop_succ_cons, List.drop_zero]
    refine ⟨fun _ => ⟨by omega, hlen, p89, fun e => ?_, fun e => ⟨by omega, hlen, by omega, hlen1, ?_⟩⟩, fun e => (by rw [e0] at e; cases e)⟩
    · have hS : bindP (byteP (aS1 p)) formP (c :: r) = bindP (byteP (aS2 p false 0)) formP (c :: r) := by
        have e : fn89 c = false := by simpa using e
        simp only [bindP, byteP, aS1, e, cond_false]
      rw [hS]; exact h1 hl hB false 0
    · have hS : bindP (byteP (aS1 p)) formP (c :: r) = bindP (byteP (aS2 p true (iand .u8 c 15))) formP r := by
        have e : fn89 c = true := by simpa using e
        simp only [bindP, byteP, aS1, e, cond_true]
      rw [hS]; exact h1 hl' hB.tail true _

theorem one_ends (hl : x.length ≤ 1000) (hB : AllB x) : Ends (step27 x) (oneS x) (tree27 x) := by
  have h0 := fun {b : List Int} (hl : b.length ≤ 1000) (hB : AllB b) p => h0E (x := x) hl hB p
  unfold tree27 oneS oneP aheadS
  cases x with
  | nil =>
    simp only [ends_ite, ends_need, ends_jump]
    exact ⟨by omega, by omega, by omega, by omega, by omega, by omega, (fun e => by cases e), fun _ => h0 hl hB 0⟩
  | cons c r =>
    have hl' : r.length ≤ 1000 := by simp at hl; omega
    have e0 : (ieq (((c :: r).length : Nat) : Int) 0 == false) = true := by
      have : ieq (((c :: r).length : Nat) : Int) 0 = false := by rw [ieq_no, List.length_cons]; omega
      rw [this]; rfl
    have hlen : (0 : Int) < ((c :: r).length : Nat) := by rw [List.length_cons]; omega
    have hlen1 : 1 ≤ (c :: r).length := by rw [List.length_cons]; omega
    simp only [ends_ite, ends_need, ends_jump, rdc_zero, List.drop_succ_cons, List.drop_zero]
    have hS : bindP (byteP aS0) formP (c :: r) = bindP (aS0 c) formP r := rfl
    rw [hS]
    refine ⟨by omega, by omega, by omega, by omega, by omega, by omega, fun _ => ⟨by omega, hlen, by omega, by omega, by omega, fun e66 => ⟨by omega, hlen, by omega, hlen1, ?_⟩, fun e66 => ⟨by omega, by omega, by omega, fun ef3 => ⟨by omega, hlen, by omega, hlen1, ?_⟩, fun ef3 => ?_⟩⟩, fun e => (by rw [e0] at e; cases e)⟩
    · unfold aS0; rw [e66]; exact h0 hl' hB.tail c
    · unfold aS0; rw [e66, ef3]; exact h0 hl' hB.tail c
    · unfold aS0; rw [e66, ef3]; exact h0 hl hB 0
end

theorem pre27_ok {x : List Int} (hl : x.length ≤ 1000) (hB : AllB x) : pre27 x := ⟨_, one_ends hl hB⟩
theorem fn27_ok {x : List Int} (hl : x.length ≤ 1000) (hB : AllB x) : fn27 x = oneS x := endVal_eq (one_ends hl hB)

/-! ### It hangs on its own bytes -/
theorem ahead_st : Stable aheadS := by
  have s3 : ∀ p rex bits c, Stable (aS3 p rex bits c) := fun _ _ _ _ => stable_cond (stable_byte fun _ => stable_ret _) (stable_cond (stable_byte fun _ => stable_ret _) (stable_ret _))
  have s2 : ∀ p rex bits c, Stable (aS2 p rex bits c) := fun _ _ _ _ => stable_cond (stable_byte (s3 _ _ _)) (stable_ret _)
  have s1 : ∀ p c, Stable (aS1 p c) := fun _ _ => stable_cond (stable_byte (s2 _ _ _)) (s2 _ _ _ _)
  exact stable_byte fun _ => stable_cond (stable_byte (s1 _)) (s1 _ _)
theorem ahead_tk : Takes aheadS 1 5 := by
  have s3 : ∀ p rex bits c, Takes (aS3 p rex bits c) 0 1 := fun _ _ _ _ => takes_cond ((takes_byte fun _ => takes_ret _).mono (by omega) (by omega)) (takes_cond ((takes_byte fun _ => takes_ret _).mono (by omega) (by omega)) ((takes_ret _).mono (by omega) (by omega)))
  have s2 : ∀ p rex bits c, Takes (aS2 p rex bits c) 0 2 := fun _ _ _ _ => takes_cond ((takes_byte (s3 _ _ _)).mono (by omega) (by omega)) ((takes_ret _).mono (by omega) (by omega))
  have s1 : ∀ p c, Takes (aS1 p c) 0 3 := fun _ _ => takes_cond ((takes_byte (s2 _ _ _)).mono (by omega) (by omega)) ((s2 _ _ _ _).mono (by omega) (by omega))
  exact takes_byte fun _ => takes_cond ((takes_byte (s1 _)).mono (by omega) (by omega)) ((s1 _ _).mono (by omega) (by omega))

theorem opnd_st (h : DH) (f : DForm) : Stable (opndP h f) := stable_bind (takeS_st _) fun _ => stable_cond stable_fail (stable_ret _)
theorem opnd_tk (h : DH) (f : DForm) : Takes (opndP h f) 1 6 := takes_bind (lo' := 0) (hi' := 0) (takeS_tk _) fun _ => takes_cond takes_fail (takes_ret _)
theorem num_st (f : DForm) : Stable (numP f) := stable_bytes fun _ => stable_ret _
theorem num_tk (f : DForm) : Takes (numP f) (fImm f).toNat (fImm f).toNat := takes_bytes (lo := 0) (hi := 0) fun _ => takes_ret _
theorem rest_st (h : DH) (f : DForm) : Stable (restP h f) :=
  stable_cond (stable_bind (opnd_st h f) fun _ => stable_bind (num_st f) fun _ => stable_ret _) (stable_bind (num_st f) fun _ => stable_ret _)

theorem forms_more : ∀ f ∈ forms, (hasOp f = false → fDigit f = -1) ∧ (hasOp f = true → fImm f ≤ 4) := by
  have : forms.all (fun f => (hasOp f || ieq (fDigit f) (-1)) && (!(hasOp f) || decide (fImm f ≤ 4))) = true := by decide +kernel
  intro f hf
  have := List.all_eq_true.1 this f hf
  simp only [Bool.and_eq_true, Bool.or_eq_true, decide_eq_true_eq, ieq_iff, Bool.not_eq_true'] at this
  exact ⟨fun e => this.1.resolve_left (by rw [e]; decide), fun e => this.2.resolve_left (by rw [e]; decide)⟩

theorem rest_tk (h : DH) {f : DForm} (hf : f ∈ forms) : Takes (restP h f) 0 10 := by
  obtain ⟨_, hi⟩ := forms_fact f hf
  obtain ⟨_, hm⟩ := forms_more f hf
  unfold restP
  cases e : hasOp f with
  | true => have := hm e; exact ((takes_bind (opnd_tk h f) fun _ => takes_bind (num_tk f) fun _ => takes_ret _).mono (by omega) (by omega))
  | false => exact ((takes_bind (num_tk f) fun _ => takes_ret _).mono (by omega) (by omega))

/-- A form without digit is found whatever the digit. -/
theorem found_any {h : DH} {d d' : Int} (hok : (foundB (keyS h d)).2 = true) (hd : fDigit (foundB (keyS h d)).1 = -1) : foundB (keyS h d') = foundB (keyS h d) := by
  obtain ⟨hm, hf⟩ := found_some hok
  have : fitsB (foundB (keyS h d)).1 (keyS h d') = true := by
    simp only [fitsB, keyS, Bool.and_eq_true, Bool.or_eq_true] at hf ⊢
    exact ⟨hf.1, hf.2.1, hf.2.2.1, .inl (ieq_iff.2 hd)⟩
  rw [found_of hm this]
  exact Prod.ext rfl hok.symm

theorem digit_app {u : List Int} (h : 0 < u.length) (a b : List Int) : digitB (u ++ a) = digitB (u ++ b) := by
  cases u with
  | nil => cases h
  | cons c u => rfl

theorem form_st (h : DH) : Stable (formP h) := by
  intro b a r hb
  unfold formP at hb
  cases hc : ((foundB (keyS h (digitB b))).2 && !(fMust (foundB (keyS h (digitB b))).1 && ieq (iand .u8 h.2.2.1 8) 0)) with
  | false => rw [hc] at hb; cases hb
  | true =>
    rw [hc, cond_true] at hb
    have hok : (foundB (keyS h (digitB b))).2 = true := by
      simp only [Bool.and_eq_true] at hc; exact hc.1
    obtain ⟨hm, _⟩ := found_some hok
    obtain ⟨u, rfl, h1, h2⟩ := rest_st h _ _ _ _ hb
    refine ⟨u, rfl, ?_⟩
    cases e : hasOp (foundB (keyS h (digitB (u ++ r)))).1 with
    | false =>
      have hd := (forms_more _ hm).1 e
      have key : ∀ d, foundB (keyS h d) = foundB (keyS h (digitB (u ++ r))) := fun d => found_any hok hd
      refine ⟨fun o => ?_, fun m hlt => ?_⟩
      · unfold formP; rw [key (digitB (u ++ o)), hc]; exact h1 o
      · unfold formP; rw [key (digitB (u.take m)), hc]; exact h2 m hlt
    | true =>
      have hu : 0 < u.length := by
        have ht : Takes (restP h (foundB (keyS h (digitB (u ++ r)))).1) 1 100 := by
          obtain ⟨_, hi⟩ := forms_fact _ hm
          unfold restP; rw [e]
          exact (takes_bind (opnd_tk h _) fun _ => takes_bind (num_tk _) fun _ => takes_ret _).mono (by omega) (by omega)
        have := (ht _ _ _ hb).1
        simp at this; omega
      refine ⟨fun o => ?_, fun m hlt => ?_⟩
      · unfold formP; rw [digit_app hu o r, hc]; exact h1 o
      · cases m with
        | zero =>
          rw [List.take_zero]
          unfold formP
          cases hc0 : ((foundB (keyS h (digitB []))).2 && !(fMust (foundB (keyS h (digitB []))).1 && ieq (iand .u8 h.2.2.1 8) 0)) with
          | false => rfl
          | true =>
            rw [cond_true]
            have hok0 : (foundB (keyS h (digitB []))).2 = true := by
              simp only [Bool.and_eq_true] at hc0; exact hc0.1
            obtain ⟨hm0, _⟩ := found_some hok0
            cases e0 : hasOp (foundB (keyS h (digitB []))).1 with
            | false =>
              have := found_any (d' := digitB (u ++ r)) hok0 ((forms_more _ hm0).1 e0)
              rw [this, e0] at e; cases e
            | true =>
              unfold restP; rw [e0]
              rfl
        | succ m =>
          have hd : digitB (u.take (m + 1)) = digitB (u ++ r) := by
            cases u with
            | nil => cases hu
            | cons c u => rfl
          unfold formP; rw [hd, hc]; exact h2 (m + 1) hlt

theorem form_tk (h : DH) : Takes (formP h) 0 10 := by
  intro b a r hb
  unfold formP at hb
  cases hc : ((foundB (keyS h (digitB b))).2 && !(fMust (foundB (keyS h (digitB b))).1 && ieq (iand .u8 h.2.2.1 8) 0)) with
  | false => rw [hc] at hb; cases hb
  | true =>
    rw [hc, cond_true] at hb
    have hok : (foundB (keyS h (digitB b))).2 = true := by
      simp only [Bool.and_eq_true] at hc; exact hc.1
    exact rest_tk h (found_some hok).1 _ _ _ hb

theorem one_st : Stable oneP := stable_bind ahead_st form_st
theorem one_tk : Takes oneP 1 15 := takes_bind ahead_tk form_tk
end
end Go.Eng.RD
end
section
/- Functions of this program, written out. -/
namespace Go.Eng.RD
open Go.Proofs Go.Eng
set_option maxRecDepth 100000

/-! ### sundial/decode.All -/
inductive J28 where
  | h0 (v0 : Int) (v1 : (List Int))
  | h1 (v1 : Nat) (v2 : Int) (v3 : (List Int)) (v4 : Nat) (v5 : (List DInsn))
noncomputable def tree28 (x : (List Int)) : Tr (J28 ⊕ ((List DInsn) × Int)) :=
  .ret (.inl (.h0 0 x))
noncomputable def step28 (_x : (List Int)) : J28 → Tr (J28 ⊕ ((List DInsn) × Int))
  | .h0 v0 v1 =>
    .ite (ilt 0 (v1.length : Int)) (
      .need (pre27 v1) <|
      let y0 : Int := (fn27 v1).2
      .ite (ieq y0 0) (
        .need ((0 : Nat) < 1) <|
        .need (((0 : Nat) + 1 : Nat) ≤ 1) <|
        .need (((1 : Nat) * 160 : Nat) ≤ 2 ^ 40) <|
        .need ((1 : Nat) ≤ 2 ^ 40) <|
        let y1 : Bool := (ine y0 0)
        .ite y1 (
          .need (((0 : Nat) + 1 : Nat) ≤ 1) <|
          let y2 : DInsn := (fn27 v1).1
          let y3 : (List DInsn) := [y2]
          .ret (.inr (y3, y0))) (
          let y4 : DInsn := (fn27 v1).1
          let y5 : Int := y4.2.2.2.2.2.2
          .need ((0 : Int) ≤ y5) <|
          let y6 : Nat := (y5).toNat
          .need ((y6 : Nat) ≤ v1.length) <|
          let y7 : (List Int) := (v1.drop y6)
          let y8 : (List DInsn) := [y4]
          .ret (.inl (.h1 1 y0 y7 1 y8)))) (
        let y9 : Bool := (ine y0 0)
        .ite y9 (
          .ret (.inr (([] : List DInsn), y0))) (
          let y10 : DInsn := (fn27 v1).1
          let y11 : Int := y10.2.2.2.2.2.2
          .need ((0 : Int) ≤ y11) <|
          let y12 : Nat := (y11).toNat
          .need ((y12 : Nat) ≤ v1.length) <|
          let y13 : (List Int) := (v1.drop y12)
          .ret (.inl (.h0 y0 y13))))) (
      .ret (.inr (([] : List DInsn), v0)))
  | .h1 v1 v2 v3 v4 v5 =>
    .ite (ilt 0 (v3.length : Int)) (
      .need (pre27 v3) <|
      let y0 : Int := (fn27 v3).2
      .ite (ieq y0 0) (
        .need ((0 : Nat) < 1) <|
        .need (((0 : Nat) + 1 : Nat) ≤ 1) <|
        .need ((v1 : Nat) = v4) <|
        let y1 : Nat := (v1 + 1)
        .need (((y1 : Nat) * 160 : Nat) ≤ 2 ^ 40) <|
        .need ((y1 : Nat) ≤ 2 ^ 40) <|
        let y2 : Bool := (ine y0 0)
        .ite y2 (
          .need (((0 : Nat) + y1 : Nat) ≤ y1) <|
          let y3 : DInsn := (fn27 v3).1
          let y4 : (List DInsn) := (v5 ++ [y3])
          .ret (.inr ((y4.take y1), y0))) (
          let y5 : DInsn := (fn27 v3).1
          let y6 : Int := y5.2.2.2.2.2.2
          .need ((0 : Int) ≤ y6) <|
          let y7 : Nat := (y6).toNat
          .need ((y7 : Nat) ≤ v3.length) <|
          let y8 : (List Int) := (v3.drop y7)
          let y9 : (List DInsn) := (v5 ++ [y5])
          .ret (.inl (.h1 y1 y0 y8 y1 y9)))) (
        let y10 : Bool := (ine y0 0)
        .ite y10 (
          .need (((0 : Nat) + v1 : Nat) ≤ v4) <|
          let y11 : (List DInsn) := (v5.take v1)
          .ret (.inr (y11, y0))) (
          let y12 : DInsn := (fn27 v3).1
          let y13 : Int := y12.2.2.2.2.2.2
          .need ((0 : Int) ≤ y13) <|
          let y14 : Nat := (y13).toNat
          .need ((y14 : Nat) ≤ v3.length) <|
          let y15 : (List Int) := (v3.drop y14)
          .ret (.inl (.h1 v1 y0 y15 v4 v5))))) (
      .need (((0 : Nat) + v1 : Nat) ≤ v4) <|
      let y16 : (List DInsn) := (v5.take v1)
      .ret (.inr (y16, v2)))
noncomputable def head28 (_x : (List Int)) : J28 → Head
  | .h0 v0 v1 =>
    { fr := { id := 96, kind := (.iter 4), T := [(.yld 4), (.ptr 2 [])] ++ List.replicate 24 .any, items := [.lp (subc [0, 0] (bodyOf Tryd.f96)), .blk 0], D := [], base := 5 },
      stk := [{ id := 28, kind := .top, T := [.any, .any, (.ptr 0 []), (.ptr 1 [])] ++ List.replicate 15 .any, items := [.fin 4, .blk 0, .code (subc [1, 1] (bodyOf Tryd.f28))], D := [3], base := 0 }],
      H := [.cell true 26 (.raw (.slice none 0 0)), .cell true 29 (.int .i64 v0), .cell true 28 (.fsl (.int .u8) v1), .dfd, .loop .ready none 28 ([.any, .any, (.ptr 0 []), (.ptr 1 [])] ++ List.replicate 15 .any) [8, 9] (subc [1, 0, 1, 0, 0] (bodyOf Tryd.f28)) (subc [1, 0, 1, 0, 1] (bodyOf Tryd.f28)) 3] }
  | .h1 v1 v2 v3 v4 v5 =>
    { fr := { id := 96, kind := (.iter 4), T := [(.yld 4), (.ptr 2 [])] ++ List.replicate 24 .any, items := [.lp (subc [0, 0] (bodyOf Tryd.f96)), .blk 0], D := [], base := 5 },
      stk := [{ id := 28, kind := .top, T := [.any, .any, (.ptr 0 []), (.ptr 1 [])] ++ List.replicate 15 .any, items := [.fin 4, .blk 0, .code (subc [1, 1] (bodyOf Tryd.f28))], D := [3], base := 0 }],
      H := [.cell true 26 (.osl 5 [] 21 0 v1 none), .cell true 29 (.int .i64 v2), .cell true 28 (.fsl (.int .u8) v3), .dfd, .loop .ready none 28 ([.any, .any, (.ptr 0 []), (.ptr 1 [])] ++ List.replicate 15 .any) [8, 9] (subc [1, 0, 1, 0, 0] (bodyOf Tryd.f28)) (subc [1, 0, 1, 0, 1] (bodyOf Tryd.f28)) 3, .cell true 25 (.arr v4 CInsn v5)] }
noncomputable def stop28 : FuncId → Nat → Nat → Option Cut
  | 96, 0, 5 => some { tmps := [0, 1], loops := [(4, [2, 3])], dead := [], stk := [[2, 3]] }
  | _, _, _ => none
noncomputable def fn28 (x : (List Int)) : ((List DInsn) × Int) := endVal (TC.dflt (.st (.slice CInsn) (.st1 (.int .i64)))) (step28 x) (tree28 x)
def pre28 (x : (List Int)) : Prop := ∃ r, Ends (step28 x) r (tree28 x)
noncomputable def spec28 : Spec := { dom := (.st1 (.slice (.int .u8))), cod := (.st (.slice CInsn) (.st1 (.int .i64))), n := 2, pre := pre28, f := fn28 }
noncomputable def need28 : FuncId → Option Spec
  | 27 => some spec27
  | _ => none
theorem need28_ok : ∀ f sp, need28 f = some sp → SpecOk env0 f sp := by
  intro f sp h
  unfold need28 at h
  split at h
  · cases h; exact ok27
  · cases h
theorem run28 (W : Cfg) (Q : ((List DInsn) × Int) → Prop) (x : (List Int)) : run (env need28 (fun _ _ => none)) stop28 (finS spec28 Q) W 100000 (startFr 28 Tryd.f28 (bodyOf Tryd.f28) (argsOf (.st1 (.slice (.int .u8))) x)) [] [] = (tree28 x).wp (kont W Q (head28 x)) := by kernel_rfl
theorem run28h0 (W : Cfg) (Q : ((List DInsn) × Int) → Prop) (x : (List Int)) (v0 : Int) (v1 : (List Int)) : run (env need28 (fun _ _ => none)) stop28 (finS spec28 Q) W 100000 (head28 x (.h0 v0 v1)).fr.enter (head28 x (.h0 v0 v1)).stk (head28 x (.h0 v0 v1)).H = (step28 x (.h0 v0 v1)).wp (kont W Q (head28 x)) := by kernel_rfl
theorem run28h1 (W : Cfg) (Q : ((List DInsn) × Int) → Prop) (x : (List Int)) (v1 : Nat) (v2 : Int) (v3 : (List Int)) (v4 : Nat) (v5 : (List DInsn)) : run (env need28 (fun _ _ => none)) stop28 (finS spec28 Q) W 100000 (head28 x (.h1 v1 v2 v3 v4 v5)).fr.enter (head28 x (.h1 v1 v2 v3 v4 v5)).stk (head28 x (.h1 v1 v2 v3 v4 v5)).H = (step28 x (.h1 v1 v2 v3 v4 v5)).wp (kont W Q (head28 x)) := by kernel_rfl
theorem runs28 (W : Cfg) (Q : ((List DInsn) × Int) → Prop) (x : (List Int)) : ∀ j : J28, run (env need28 (fun _ _ => none)) stop28 (finS spec28 Q) W 100000 (head28 x j).fr.enter (head28 x j).stk (head28 x j).H = (step28 x j).wp (kont W Q (head28 x))
  | .h0 v0 v1 => run28h0 W Q x v0 v1
  | .h1 v1 v2 v3 v4 v5 => run28h1 W Q x v1 v2 v3 v4 v5
theorem ok28 : SpecOk env0 28 spec28 := SpecOk.env rfl (fun _ _ h => h) (spec_of_trees (E := (env need28 (fun _ _ => none))) (sp := spec28) (valid _ _) (fun f sp h => SpecOk.env rfl (fun _ _ h => h) (need28_ok f sp h)) (fn := Tryd.f28) (c := (bodyOf Tryd.f28)) (by kernel_rfl) (by kernel_rfl) tree28 step28 head28 run28 runs28 (fun _ h => endVal_ends h))

/-! ### sundial/decode.Len -/
noncomputable def tree31 (x : (List Int)) : Tr Int :=
  .need (pre27 x) <|
  .ret (fn27 x).1.2.2.2.2.2.2
noncomputable def fn31 (x : (List Int)) : Int := (tree31 x).val
def pre31 (x : (List Int)) : Prop := (tree31 x).ok
noncomputable def spec31 : Spec := { dom := (.st1 (.slice (.int .u8))), cod := (.int .i64), n := 1, pre := pre31, f := fn31 }
noncomputable def need31 : FuncId → Option Spec
  | 27 => some spec27
  | _ => none
theorem need31_ok : ∀ f sp, need31 f = some sp → SpecOk env0 f sp := by
  intro f sp h
  unfold need31 at h
  split at h
  · cases h; exact ok27
  · cases h
theorem run31 (W : Cfg) (Q : Int → Prop) (x : (List Int)) : run (env need31 (fun _ _ => none)) (fun _ _ _ => none) (finS spec31 Q) W 100000 (startFr 31 Tryd.f31 (bodyOf Tryd.f31) (argsOf (.st1 (.slice (.int .u8))) x)) [] [] = (tree31 x).wp Q := by kernel_rfl
theorem ok31 : SpecOk env0 31 spec31 := SpecOk.env rfl (fun _ _ h => h) (spec_of_tree (E := (env need31 (fun _ _ => none))) (sp := spec31) (valid _ _) (fun f sp h => SpecOk.env rfl (fun _ _ h => h) (need31_ok f sp h)) (fn := Tryd.f31) (c := (bodyOf Tryd.f31)) (by kernel_rfl) (by kernel_rfl) tree31 run31 (fun _ h => Tr.gives_val h))

/-! ### sundial/sundiallaw09.wakes -/
noncomputable def tree26 (_x : Unit) : Tr Bool :=
  .need ((0 : Nat) < 3) <|
  .need ((1 : Nat) < 3) <|
  .need ((2 : Nat) < 3) <|
  .need (((0 : Nat) + 3 : Nat) ≤ 3) <|
  let y0 : (List Int) := [72, 137, 200]
  .need (pre27 y0) <|
  .need ((0 : Nat) < 1) <|
  .need (((0 : Nat) + 1 : Nat) ≤ 1) <|
  .need (pre27 [144]) <|
  .need ((0 : Nat) < 2) <|
  .need ((1 : Nat) < 2) <|
  .need (((0 : Nat) + 2 : Nat) ≤ 2) <|
  let y1 : (List Int) := [72, 137]
  .need (pre27 y1) <|
  .need ((0 : Nat) < 3) <|
  .need ((1 : Nat) < 3) <|
  .need ((2 : Nat) < 3) <|
  .need (((0 : Nat) + 3 : Nat) ≤ 3) <|
  let y2 : (List Int) := [144, 195, 6]
  .need (pre28 y2) <|
  let y3 : (DInsn × Int) := (fn27 y0)
  .ite ((ieq y3.2 0) == true) (
    .need (pre35 0) <|
    .need (pre35 1) <|
    .ite ((eqD CInsn y3.1 (1, (0, (8, ((fn35 0), ((fn35 1), (0, 3))))))) == true) (
      let y4 : (DInsn × Int) := (fn27 [144])
      .ite ((ieq y4.2 0) == true) (
        .ite ((ieq y4.1.1 34) == true) (
          .ite ((ieq (fn27 y1).2 80) == true) (
            let y5 : ((List DInsn) × Int) := (fn28 y2)
            .ite ((ieq (y5.1.length : Int) 2) == true) (
              .ite ((ieq y5.2 80) == true) (
                .need ((0 : Nat) < 1) <|
                .need (((0 : Nat) + 1 : Nat) ≤ 1) <|
                .need (pre31 [195]) <|
                .ret (ieq (fn31 [195]) 1)) (
                .ret false)) (
              .ret false)) (
            .ret false)) (
          .ret false)) (
        .ret false)) (
      .ret false)) (
    .ret false)
noncomputable def fn26 (x : Unit) : Bool := (tree26 x).val
def pre26 (x : Unit) : Prop := (tree26 x).ok
noncomputable def spec26 : Spec := { dom := .unit, cod := .bool, n := 1, pre := pre26, f := fn26 }
noncomputable def need26 : FuncId → Option Spec
  | 27 => some spec27
  | 28 => some spec28
  | 31 => some spec31
  | 35 => some spec35
  | _ => none
theorem need26_ok : ∀ f sp, need26 f = some sp → SpecOk env0 f sp := by
  intro f sp h
  unfold need26 at h
  split at h
  · cases h; exact ok27
  · cases h; exact ok28
  · cases h; exact ok31
  · cases h; exact ok35
  · cases h
theorem run26 (W : Cfg) (Q : Bool → Prop) (x : Unit) : run (env need26 (fun _ _ => none)) (fun _ _ _ => none) (finS spec26 Q) W 100000 (startFr 26 Tryd.f26 (bodyOf Tryd.f26) (argsOf .unit x)) [] [] = (tree26 x).wp Q := by kernel_rfl
theorem ok26 : SpecOk env0 26 spec26 := SpecOk.env rfl (fun _ _ h => h) (spec_of_tree (E := (env need26 (fun _ _ => none))) (sp := spec26) (valid _ _) (fun f sp h => SpecOk.env rfl (fun _ _ h => h) (need26_ok f sp h)) (fn := Tryd.f26) (c := (bodyOf Tryd.f26)) (by kernel_rfl) (by kernel_rfl) tree26 run26 (fun _ h => Tr.gives_val h))

/-! ### sundial/sundialref09.All -/
inductive J29 where
  | h0
  | h1 (v0 : (List Int)) (v2 : Nat) (v3 : Nat) (v4 : (List DInsn))
noncomputable def tree29 (_x : (List Int)) : Tr (J29 ⊕ ((List DInsn) × Int)) :=
  .ret (.inl (.h0))
noncomputable def step29 (x : (List Int)) : J29 → Tr (J29 ⊕ ((List DInsn) × Int))
  | .h0 =>
    .ite (ilt 0 (x.length : Int)) (
      .need (pre25 x) <|
      let y0 : Int := (fn25 x).2
      .ite (ine y0 0) (
        .ret (.inr (([] : List DInsn), y0))) (
        .need ((0 : Nat) < 1) <|
        .need (((0 : Nat) + 1 : Nat) ≤ 1) <|
        .need (((1 : Nat) * 160 : Nat) ≤ 2 ^ 40) <|
        .need ((1 : Nat) ≤ 2 ^ 40) <|
        let y1 : DInsn := (fn25 x).1
        let y2 : Int := y1.2.2.2.2.2.2
        .need ((0 : Int) ≤ y2) <|
        let y3 : Nat := (y2).toNat
        .need ((y3 : Nat) ≤ x.length) <|
        .ret (.inl (.h1 (x.drop y3) 1 1 [y1])))) (
      .ret (.inr (([] : List DInsn), 0)))
  | .h1 v0 v2 v3 v4 =>
    .ite (ilt 0 (v0.length : Int)) (
      .need (pre25 v0) <|
      let y0 : Int := (fn25 v0).2
      .ite (ine y0 0) (
        .need (((0 : Nat) + v2 : Nat) ≤ v3) <|
        let y1 : (List DInsn) := (v4.take v2)
        .ret (.inr (y1, y0))) (
        .need ((0 : Nat) < 1) <|
        .need (((0 : Nat) + 1 : Nat) ≤ 1) <|
        .need ((v2 : Nat) = v3) <|
        let y2 : Nat := (v2 + 1)
        .need (((y2 : Nat) * 160 : Nat) ≤ 2 ^ 40) <|
        .need ((y2 : Nat) ≤ 2 ^ 40) <|
        let y3 : DInsn := (fn25 v0).1
        let y4 : Int := y3.2.2.2.2.2.2
        .need ((0 : Int) ≤ y4) <|
        let y5 : Nat := (y4).toNat
        .need ((y5 : Nat) ≤ v0.length) <|
        .ret (.inl (.h1 (v0.drop y5) y2 y2 (v4 ++ [y3]))))) (
      .need (((0 : Nat) + v2 : Nat) ≤ v3) <|
      let y6 : (List DInsn) := (v4.take v2)
      .ret (.inr (y6, 0)))
noncomputable def head29 (x : (List Int)) : J29 → Head
  | .h0 =>
    { fr := { id := 29, kind := .top, T := [(.fsl (.int .u8) x), .any, .any, .any, (.raw (.slice none 0 0))] ++ List.replicate 23 .any, items := [.lp (subc [1, 1, 0, 0, 0] (bodyOf Tryd.f29)), .blk 0, .code (subc [1, 1, 1] (bodyOf Tryd.f29))], D := [], base := 0 },
      stk := [],
      H := [] }
  | .h1 v0 v2 v3 v4 =>
    { fr := { id := 29, kind := .top, T := [(.fsl (.int .u8) v0), .any, .any, .any, (.osl 0 [] 21 0 v2 none)] ++ List.replicate 23 .any, items := [.lp (subc [1, 1, 0, 0, 0] (bodyOf Tryd.f29)), .blk 0, .code (subc [1, 1, 1] (bodyOf Tryd.f29))], D := [], base := 0 },
      stk := [],
      H := [.cell true 25 (.arr v3 CInsn v4)] }
noncomputable def stop29 : FuncId → Nat → Nat → Option Cut
  | 29, 0, 0 => some { tmps := [0, 4], loops := [], dead := [], stk := [] }
  | _, _, _ => none
noncomputable def fn29 (x : (List Int)) : ((List DInsn) × Int) := endVal (TC.dflt (.st (.slice CInsn) (.st1 (.int .i64)))) (step29 x) (tree29 x)
def pre29 (x : (List Int)) : Prop := ∃ r, Ends (step29 x) r (tree29 x)
noncomputable def spec29 : Spec := { dom := (.st1 (.slice (.int .u8))), cod := (.st (.slice CInsn) (.st1 (.int .i64))), n := 2, pre := pre29, f := fn29 }
noncomputable def need29 : FuncId → Option Spec
  | 25 => some spec25
  | _ => none
theorem need29_ok : ∀ f sp, need29 f = some sp → SpecOk env0 f sp := by
  intro f sp h
  unfold need29 at h
  split at h
  · cases h; exact ok25
  · cases h
theorem run29 (W : Cfg) (Q : ((List DInsn) × Int) → Prop) (x : (List Int)) : run (env need29 (fun _ _ => none)) stop29 (finS spec29 Q) W 100000 (startFr 29 Tryd.f29 (bodyOf Tryd.f29) (argsOf (.st1 (.slice (.int .u8))) x)) [] [] = (tree29 x).wp (kont W Q (head29 x)) := by kernel_rfl
theorem run29h0 (W : Cfg) (Q : ((List DInsn) × Int) → Prop) (x : (List Int)) : run (env need29 (fun _ _ => none)) stop29 (finS spec29 Q) W 100000 (head29 x (.h0)).fr.enter (head29 x (.h0)).stk (head29 x (.h0)).H = (step29 x (.h0)).wp (kont W Q (head29 x)) := by kernel_rfl
theorem run29h1 (W : Cfg) (Q : ((List DInsn) × Int) → Prop) (x : (List Int)) (v0 : (List Int)) (v2 : Nat) (v3 : Nat) (v4 : (List DInsn)) : run (env need29 (fun _ _ => none)) stop29 (finS spec29 Q) W 100000 (head29 x (.h1 v0 v2 v3 v4)).fr.enter (head29 x (.h1 v0 v2 v3 v4)).stk (head29 x (.h1 v0 v2 v3 v4)).H = (step29 x (.h1 v0 v2 v3 v4)).wp (kont W Q (head29 x)) := by kernel_rfl
theorem runs29 (W : Cfg) (Q : ((List DInsn) × Int) → Prop) (x : (List Int)) : ∀ j : J29, run (env need29 (fun _ _ => none)) stop29 (finS spec29 Q) W 100000 (head29 x j).fr.enter (head29 x j).stk (head29 x j).H = (step29 x j).wp (kont W Q (head29 x))
  | .h0 => run29h0 W Q x
  | .h1 v0 v2 v3 v4 => run29h1 W Q x v0 v2 v3 v4
theorem ok29 : SpecOk env0 29 spec29 := SpecOk.env rfl (fun _ _ h => h) (spec_of_trees (E := (env need29 (fun _ _ => none))) (sp := spec29) (valid _ _) (fun f sp h => SpecOk.env rfl (fun _ _ h => h) (need29_ok f sp h)) (fn := Tryd.f29) (c := (bodyOf Tryd.f29)) (by kernel_rfl) (by kernel_rfl) tree29 step29 head29 run29 runs29 (fun _ h => endVal_ends h))

/-! ### sundial/sundialref09.Insns -/
inductive J30 where
  | h0 (v2 : Int)
noncomputable def tree30 (x : ((List DInsn) × (List DInsn))) : Tr (J30 ⊕ Bool) :=
  .ite (ine (x.1.length : Int) (x.2.length : Int)) (
    .ret (.inr false)) (
    .ret (.inl (.h0 0)))
noncomputable def step30 (x : ((List DInsn) × (List DInsn))) : J30 → Tr (J30 ⊕ Bool)
  | .h0 v2 =>
    .ite (ilt v2 (x.1.length : Int)) (
      .need ((0 : Int) ≤ v2) <|
      .need (v2 < (x.1.length : Int)) <|
      .need ((0 : Int) ≤ v2) <|
      .need (v2 < (x.2.length : Int)) <|
      .ite (!(eqD CInsn (rdc CInsn x.1 (v2).toNat) (rdc CInsn x.2 (v2).toNat))) (
        .ret (.inr false)) (
        .ret (.inl (.h0 (iadd .i64 v2 1))))) (
      .ret (.inr true))
noncomputable def head30 (x : ((List DInsn) × (List DInsn))) : J30 → Head
  | .h0 v2 =>
    { fr := { id := 30, kind := .top, T := [(.fsl CInsn x.1), (.fsl CInsn x.2), .any, .any, .any, (.int .i64 v2)] ++ List.replicate 20 .any, items := [.lp (subc [1, 1, 0, 1, 0, 0] (bodyOf Tryd.f30)), .blk 0, .code (subc [1, 1, 1] (bodyOf Tryd.f30))], D := [], base := 0 },
      stk := [],
      H := [] }
noncomputable def stop30 : FuncId → Nat → Nat → Option Cut
  | 30, 0, 0 => some { tmps := [0, 1, 5], loops := [], dead := [], stk := [] }
  | _, _, _ => none
noncomputable def fn30 (x : ((List DInsn) × (List DInsn))) : Bool := endVal (TC.dflt .bool) (step30 x) (tree30 x)
def pre30 (x : ((List DInsn) × (List DInsn))) : Prop := ∃ r, Ends (step30 x) r (tree30 x)
noncomputable def spec30 : Spec := { dom := (.st (.slice CInsn) (.st1 (.slice CInsn))), cod := .bool, n := 1, pre := pre30, f := fn30 }
noncomputable def need30 : FuncId → Option Spec
  | _ => none
theorem need30_ok : ∀ f sp, need30 f = some sp → SpecOk env0 f sp := by
  intro f sp h
  unfold need30 at h
  split at h
  · cases h
theorem run30 (W : Cfg) (Q : Bool → Prop) (x : ((List DInsn) × (List DInsn))) : run (env need30 (fun _ _ => none)) stop30 (finS spec30 Q) W 100000 (startFr 30 Tryd.f30 (bodyOf Tryd.f30) (argsOf (.st (.slice CInsn) (.st1 (.slice CInsn))) x)) [] [] = (tree30 x).wp (kont W Q (head30 x)) := by kernel_rfl
theorem run30h0 (W : Cfg) (Q : Bool → Prop) (x : ((List DInsn) × (List DInsn))) (v2 : Int) : run (env need30 (fun _ _ => none)) stop30 (finS spec30 Q) W 100000 (head30 x (.h0 v2)).fr.enter (head30 x (.h0 v2)).stk (head30 x (.h0 v2)).H = (step30 x (.h0 v2)).wp (kont W Q (head30 x)) := by kernel_rfl
theorem runs30 (W : Cfg) (Q : Bool → Prop) (x : ((List DInsn) × (List DInsn))) : ∀ j : J30, run (env need30 (fun _ _ => none)) stop30 (finS spec30 Q) W 100000 (head30 x j).fr.enter (head30 x j).stk (head30 x j).H = (step30 x j).wp (kont W Q (head30 x))
  | .h0 v2 => run30h0 W Q x v2
theorem ok30 : SpecOk env0 30 spec30 := SpecOk.env rfl (fun _ _ h => h) (spec_of_trees (E := (env need30 (fun _ _ => none))) (sp := spec30) (valid _ _) (fun f sp h => SpecOk.env rfl (fun _ _ h => h) (need30_ok f sp h)) (fn := Tryd.f30) (c := (bodyOf Tryd.f30)) (by kernel_rfl) (by kernel_rfl) tree30 step30 head30 run30 runs30 (fun _ h => endVal_ends h))

/-! ### sundial/sundialref09.Len -/
noncomputable def tree32 (x : (List Int)) : Tr Int :=
  .need (pre25 x) <|
  .ret (fn25 x).1.2.2.2.2.2.2
noncomputable def fn32 (x : (List Int)) : Int := (tree32 x).val
def pre32 (x : (List Int)) : Prop := (tree32 x).ok
noncomputable def spec32 : Spec := { dom := (.st1 (.slice (.int .u8))), cod := (.int .i64), n := 1, pre := pre32, f := fn32 }
noncomputable def need32 : FuncId → Option Spec
  | 25 => some spec25
  | _ => none
theorem need32_ok : ∀ f sp, need32 f = some sp → SpecOk env0 f sp := by
  intro f sp h
  unfold need32 at h
  split at h
  · cases h; exact ok25
  · cases h
theorem run32 (W : Cfg) (Q : Int → Prop) (x : (List Int)) : run (env need32 (fun _ _ => none)) (fun _ _ _ => none) (finS spec32 Q) W 100000 (startFr 32 Tryd.f32 (bodyOf Tryd.f32) (argsOf (.st1 (.slice (.int .u8))) x)) [] [] = (tree32 x).wp Q := by kernel_rfl
theorem ok32 : SpecOk env0 32 spec32 := SpecOk.env rfl (fun _ _ h => h) (spec_of_tree (E := (env need32 (fun _ _ => none))) (sp := spec32) (valid _ _) (fun f sp h => SpecOk.env rfl (fun _ _ h => h) (need32_ok f sp h)) (fn := Tryd.f32) (c := (bodyOf Tryd.f32)) (by kernel_rfl) (by kernel_rfl) tree32 run32 (fun _ h => Tr.gives_val h))

/-! ### sundial/sundiallaw09.DecodeTells -/
noncomputable def tree8 (x : (List Int)) : Tr Bool :=
  .ite (ilt 200 (x.length : Int)) (
    .need (pre26 ()) <|
    .ret (fn26 ())) (
    .need (pre27 x) <|
    .need (pre25 x) <|
    .need (pre28 x) <|
    .need (pre29 x) <|
    .ite ((eqD CInsn (fn27 x).1 (fn25 x).1) == true) (
      .ite ((ieq (fn27 x).2 (fn25 x).2) == true) (
        let y0 : ((List DInsn) × (List DInsn)) := ((fn28 x).1, (fn29 x).1)
        .need (pre30 y0) <|
        .ite ((fn30 y0) == true) (
          .ite ((ieq (fn28 x).2 (fn29 x).2) == true) (
            .need (pre31 x) <|
            .need (pre32 x) <|
            .ite ((ieq (fn31 x) (fn32 x)) == true) (
              .need (pre26 ()) <|
              .ret (fn26 ())) (
              .ret false)) (
            .ret false)) (
          .ret false)) (
        .ret false)) (
      .ret false))
noncomputable def fn8 (x : (List Int)) : Bool := (tree8 x).val
def pre8 (x : (List Int)) : Prop := (tree8 x).ok
noncomputable def spec8 : Spec := { dom := (.st1 (.slice (.int .u8))), cod := .bool, n := 1, pre := pre8, f := fn8 }
noncomputable def need8 : FuncId → Option Spec
  | 25 => some spec25
  | 26 => some spec26
  | 27 => some spec27
  | 28 => some spec28
  | 29 => some spec29
  | 30 => some spec30
  | 31 => some spec31
  | 32 => some spec32
  | _ => none
theorem need8_ok : ∀ f sp, need8 f = some sp → SpecOk env0 f sp := by
  intro f sp h
  unfold need8 at h
  split at h
  · cases h; exact ok25
  · cases h; exact ok26
  · cases h; exact ok27
  · cases h; exact ok28
  · cases h; exact ok29
  · cases h; exact ok30
  · cases h; exact ok31
  · cases h; exact ok32
  · cases h
theorem run8 (W : Cfg) (Q : Bool → Prop) (x : (List Int)) : run (env need8 (fun _ _ => none)) (fun _ _ _ => none) (finS spec8 Q) W 100000 (startFr 8 Tryd.f8 (bodyOf Tryd.f8) (argsOf (.st1 (.slice (.int .u8))) x)) [] [] = (tree8 x).wp Q := by kernel_rfl
theorem ok8 : SpecOk env0 8 spec8 := SpecOk.env rfl (fun _ _ h => h) (spec_of_tree (E := (env need8 (fun _ _ => none))) (sp := spec8) (valid _ _) (fun f sp h => SpecOk.env rfl (fun _ _ h => h) (need8_ok f sp h)) (fn := Tryd.f8) (c := (bodyOf Tryd.f8)) (by kernel_rfl) (by kernel_rfl) tree8 run8 (fun _ h => Tr.gives_val h))

/-! ### sundial/sundiallaw09.DecodeOwn -/
inductive J9 where
  | h0 (v1 : Int) (v2 : Int) (v3 : DInsn) (v24 : DInsn)
noncomputable def tree9 (x : ((List Int) × (List Int))) : Tr (J9 ⊕ Bool) :=
  let y0 : Int := (x.1.length : Int)
  .ite ((ilt 40 y0) == false) (
    .ite (ilt 40 (x.2.length : Int)) (
      .need (pre26 ()) <|
      .ret (.inr (fn26 ()))) (
      .need (pre27 x.1) <|
      let y1 : (DInsn × Int) := (fn27 x.1)
      let y2 : Int := y1.2
      .ite (ine y2 0) (
        .ite ((ieq y2 80) == true) (
          let y3 : DInsn := y1.1
          let y4 : (Int × (Int × (Int × (Int × (Int × (Int × (Bool × Int))))))) := (0, (0, (0, (0, (0, (0, (false, 0)))))))
          .ite ((eqD CInsn y3 (0, (0, (0, (y4, (y4, (0, 0))))))) == true) (
            .need (pre31 x.1) <|
            .ite ((ieq (fn31 x.1) 0) == true) (
              .need (pre26 ()) <|
              .ret (.inr (fn26 ()))) (
              .ret (.inr false))) (
            .ret (.inr false))) (
          .ret (.inr false))) (
        let y5 : DInsn := y1.1
        let y6 : Int := y5.2.2.2.2.2.2
        .ite ((ilt y6 1) == false) (
          .ite ((ilt 15 y6) == false) (
            .ite (ilt y0 y6) (
              .ret (.inr false)) (
              .need ((0 : Int) ≤ y6) <|
              let y7 : Nat := (y6).toNat
              .need ((0 : Nat) ≤ y7) <|
              .need ((y7 : Nat) ≤ x.1.length) <|
              let y8 : (List Int) := ((x.1.drop 0).take (y7 - 0))
              let y9 : Nat := y8.length
              let y10 : Nat := (0 + y9)
              .ite (ilt ((0 : Nat) : Int) ((y10 : Nat) : Int)) (
                .need ((0 + 0 : Nat) ≤ 0) <|
                .need (((y10 : Nat) * 1 : Nat) ≤ 2 ^ 40) <|
                .need ((y10 : Nat) ≤ 2 ^ 40) <|
                .need ((y10 : Nat) = y10) <|
                let y11 : Nat := x.2.length
                let y12 : Nat := (y10 + y11)
                .need (((y12 : Nat) * 1 : Nat) ≤ 2 ^ 40) <|
                .need ((y12 : Nat) ≤ 2 ^ 40) <|
                .need (((0 : Nat) + y12 : Nat) ≤ y12) <|
                let y13 : (List Int) := (((([] : List Int) ++ y8) ++ x.2).take y12)
                .need (pre27 y13) <|
                let y14 : (DInsn × Int) := (fn27 y13)
                .ret (.inl (.h0 y14.2 0 y5 y14.1))) (
                .need ((0 + 0 + y9 : Nat) ≤ 0) <|
                let y15 : Nat := x.2.length
                let y16 : Nat := (y10 + y15)
                .ite (ilt ((0 : Nat) : Int) ((y16 : Nat) : Int)) (
                  .need ((0 + y10 : Nat) ≤ 0) <|
                  .need (((y16 : Nat) * 1 : Nat) ≤ 2 ^ 40) <|
                  .need ((y16 : Nat) ≤ 2 ^ 40) <|
                  .need (((0 : Nat) + y16 : Nat) ≤ y16) <|
                  let y17 : (List Int) := (spliceL (List.replicate 0 (0 : Int)) 0 y8)
                  let y18 : (List Int) := (((y17.take y10) ++ x.2).take y16)
                  .need (pre27 y18) <|
                  let y19 : (DInsn × Int) := (fn27 y18)
                  .ret (.inl (.h0 y19.2 0 y5 y19.1))) (
                  .need ((0 + y10 + y15 : Nat) ≤ 0) <|
                  .need (((0 : Nat) + y16 : Nat) ≤ 0) <|
                  let y20 : (List Int) := (spliceL (List.replicate 0 (0 : Int)) 0 y8)
                  let y21 : (List Int) := ((spliceL y20 (0 + y10) x.2).take y16)
                  .need (pre27 y21) <|
                  let y22 : (DInsn × Int) := (fn27 y21)
                  .ret (.inl (.h0 y22.2 0 y5 y22.1)))))) (
            .ret (.inr false))) (
          .ret (.inr false))))) (
    .need (pre26 ()) <|
    .ret (.inr (fn26 ())))
noncomputable def step9 (x : ((List Int) × (List Int))) : J9 → Tr (J9 ⊕ Bool)
  | .h0 v1 v2 v3 v24 =>
    let y0 : Int := v3.2.2.2.2.2.2
    .ite (ilt v2 y0) (
      .need ((0 : Int) ≤ v2) <|
      .need ((0 : Nat) ≤ (v2).toNat) <|
      .need (((v2).toNat : Nat) ≤ x.1.length) <|
      let y1 : (List Int) := ((x.1.drop 0).take ((v2).toNat - 0))
      .need (pre27 y1) <|
      .ite (ine (fn27 y1).2 80) (
        .ret (.inr false)) (
        .ret (.inl (.h0 v1 (iadd .i64 v2 1) v3 v24)))) (
      .ite ((ieq v1 0) == true) (
        .ite ((eqD CInsn v24 v3) == true) (
          .need (pre31 x.1) <|
          .ite ((ieq (fn31 x.1) y0) == true) (
            .need (pre26 ()) <|
            .ret (.inr (fn26 ()))) (
            .ret (.inr false))) (
          .ret (.inr false))) (
        .ret (.inr false)))
noncomputable def head9 (x : ((List Int) × (List Int))) : J9 → Head
  | .h0 v1 v2 v3 v24 =>
    { fr := { id := 9, kind := .top, T := [(.fsl (.int .u8) x.1)] ++ List.replicate 4 .any ++ [(.ptr 0 []), .any, (.ptr 1 []), (.int .i64 v1), (.int .i64 v2)] ++ List.replicate 92 .any, items := [.lp (subc [1, 1, 1, 1, 1, 1, 0, 1, 0, 0] (bodyOf Tryd.f9)), .blk 0, .code (subc [1, 1, 1, 1, 1, 1, 1] (bodyOf Tryd.f9))], D := [], base := 0 },
      stk := [],
      H := [.cell true 25 (.agg [1, 1, 1, 8, 8, 1, 1] [(.int .u8 v3.1), (.int .u8 v3.2.1), (.int .i64 v3.2.2.1), (.agg [1, 1, 1, 1, 1, 1, 1, 1] [(.int .u8 v3.2.2.2.1.1), (.int .i64 v3.2.2.2.1.2.1), (.int .i64 v3.2.2.2.1.2.2.1), (.int .i64 v3.2.2.2.1.2.2.2.1), (.int .i64 v3.2.2.2.1.2.2.2.2.1), (.int .i64 v3.2.2.2.1.2.2.2.2.2.1), (.bool v3.2.2.2.1.2.2.2.2.2.2.1), (.int .i64 v3.2.2.2.1.2.2.2.2.2.2.2)]), (.agg [1, 1, 1, 1, 1, 1, 1, 1] [(.int .u8 v3.2.2.2.2.1.1), (.int .i64 v3.2.2.2.2.1.2.1), (.int .i64 v3.2.2.2.2.1.2.2.1), (.int .i64 v3.2.2.2.2.1.2.2.2.1), (.int .i64 v3.2.2.2.2.1.2.2.2.2.1), (.int .i64 v3.2.2.2.2.1.2.2.2.2.2.1), (.bool v3.2.2.2.2.1.2.2.2.2.2.2.1), (.int .i64 v3.2.2.2.2.1.2.2.2.2.2.2.2)]), (.int .u8 v3.2.2.2.2.2.1), (.int .i64 v3.2.2.2.2.2.2)]), .cell true 25 (.agg [1, 1, 1, 8, 8, 1, 1] [(.int .u8 v24.1), (.int .u8 v24.2.1), (.int .i64 v24.2.2.1), (.agg [1, 1, 1, 1, 1, 1, 1, 1] [(.int .u8 v24.2.2.2.1.1), (.int .i64 v24.2.2.2.1.2.1), (.int .i64 v24.2.2.2.1.2.2.1), (.int .i64 v24.2.2.2.1.2.2.2.1), (.int .i64 v24.2.2.2.1.2.2.2.2.1), (.int .i64 v24.2.2.2.1.2.2.2.2.2.1), (.bool v24.2.2.2.1.2.2.2.2.2.2.1), (.int .i64 v24.2.2.2.1.2.2.2.2.2.2.2)]), (.agg [1, 1, 1, 1, 1, 1, 1, 1] [(.int .u8 v24.2.2.2.2.1.1), (.int .i64 v24.2.2.2.2.1.2.1), (.int .i64 v24.2.2.2.2.1.2.2.1), (.int .i64 v24.2.2.2.2.1.2.2.2.1), (.int .i64 v24.2.2.2.2.1.2.2.2.2.1), (.int .i64 v24.2.2.2.2.1.2.2.2.2.2.1), (.bool v24.2.2.2.2.1.2.2.2.2.2.2.1), (.int .i64 v24.2.2.2.2.1.2.2.2.2.2.2.2)]), (.int .u8 v24.2.2.2.2.2.1), (.int .i64 v24.2.2.2.2.2.2)])] }
noncomputable def stop9 : FuncId → Nat → Nat → Option Cut
  | 9, 0, 0 => some { tmps := [0, 5, 7, 8, 9], loops := [], dead := [], stk := [] }
  | _, _, _ => none
noncomputable def fn9 (x : ((List Int) × (List Int))) : Bool := endVal (TC.dflt .bool) (step9 x) (tree9 x)
def pre9 (x : ((List Int) × (List Int))) : Prop := ∃ r, Ends (step9 x) r (tree9 x)
noncomputable def spec9 : Spec := { dom := (.st (.slice (.int .u8)) (.st1 (.slice (.int .u8)))), cod := .bool, n := 1, pre := pre9, f := fn9 }
noncomputable def need9 : FuncId → Option Spec
  | 26 => some spec26
  | 27 => some spec27
  | 31 => some spec31
  | _ => none
theorem need9_ok : ∀ f sp, need9 f = some sp → SpecOk env0 f sp := by
  intro f sp h
  unfold need9 at h
  split at h
  · cases h; exact ok26
  · cases h; exact ok27
  · cases h; exact ok31
  · cases h
theorem run9 (W : Cfg) (Q : Bool → Prop) (x : ((List Int) × (List Int))) : run (env need9 (fun _ _ => none)) stop9 (finS spec9 Q) W 100000 (startFr 9 Tryd.f9 (bodyOf Tryd.f9) (argsOf (.st (.slice (.int .u8)) (.st1 (.slice (.int .u8)))) x)) [] [] = (tree9 x).wp (kont W Q (head9 x)) := by kernel_rfl
theorem run9h0 (W : Cfg) (Q : Bool → Prop) (x : ((List Int) × (List Int))) (v1 : Int) (v2 : Int) (v3 : DInsn) (v24 : DInsn) : run (env need9 (fun _ _ => none)) stop9 (finS spec9 Q) W 100000 (head9 x (.h0 v1 v2 v3 v24)).fr.enter (head9 x (.h0 v1 v2 v3 v24)).stk (head9 x (.h0 v1 v2 v3 v24)).H = (step9 x (.h0 v1 v2 v3 v24)).wp (kont W Q (head9 x)) := by kernel_rfl
theorem runs9 (W : Cfg) (Q : Bool → Prop) (x : ((List Int) × (List Int))) : ∀ j : J9, run (env need9 (fun _ _ => none)) stop9 (finS spec9 Q) W 100000 (head9 x j).fr.enter (head9 x j).stk (head9 x j).H = (step9 x j).wp (kont W Q (head9 x))
  | .h0 v1 v2 v3 v24 => run9h0 W Q x v1 v2 v3 v24
theorem ok9 : SpecOk env0 9 spec9 := SpecOk.env rfl (fun _ _ h => h) (spec_of_trees (E := (env need9 (fun _ _ => none))) (sp := spec9) (valid _ _) (fun f sp h => SpecOk.env rfl (fun _ _ h => h) (need9_ok f sp h)) (fn := Tryd.f9) (c := (bodyOf Tryd.f9)) (by kernel_rfl) (by kernel_rfl) tree9 step9 head9 run9 runs9 (fun _ h => endVal_ends h))

/-! ### sundial/sundiallaw09.DecodeRow -/
inductive J10 where
  | h0 (v1 : (List DInsn)) (v2 : Int) (v3 : Int) (v4 : Int)
noncomputable def tree10 (x : (List Int)) : Tr (J10 ⊕ Bool) :=
  .ite (ilt 200 (x.length : Int)) (
    .need (pre26 ()) <|
    .ret (.inr (fn26 ()))) (
    .need (pre28 x) <|
    .ret (.inl (.h0 (fn28 x).1 (fn28 x).2 0 0)))
noncomputable def step10 (x : (List Int)) : J10 → Tr (J10 ⊕ Bool)
  | .h0 v1 v2 v3 v4 =>
    .ite (ilt v4 (v1.length : Int)) (
      let y0 : Bool := (ilt (x.length : Int) v3)
      .ite y0 (
        .ret (.inr false)) (
        .need ((0 : Int) ≤ v3) <|
        .need (((v3).toNat : Nat) ≤ x.length) <|
        let y1 : (List Int) := (x.drop (v3).toNat)
        .need (pre27 y1) <|
        let y2 : (DInsn × Int) := (fn27 y1)
        let y3 : Int := y2.2
        .ite ((ine y3 0) == false) (
          .need ((0 : Int) ≤ v4) <|
          .need (v4 < (v1.length : Int)) <|
          let y4 : DInsn := y2.1
          .ite ((!(eqD CInsn y4 (rdc CInsn v1 (v4).toNat))) == false) (
            let y5 : Int := y4.2.2.2.2.2.2
            .ite (ilt y5 1) (
              .ret (.inr false)) (
              .ret (.inl (.h0 v1 v2 (iadd .i64 v3 y5) (iadd .i64 v4 1))))) (
            .ret (.inr false))) (
          .ret (.inr false)))) (
      let y6 : Bool := (ilt (x.length : Int) v3)
      .ite y6 (
        .ret (.inr false)) (
        .need ((0 : Int) ≤ v3) <|
        .need (((v3).toNat : Nat) ≤ x.length) <|
        let y7 : (List Int) := (x.drop (v3).toNat)
        .need (pre27 y7) <|
        let y8 : Bool := (ieq v2 0)
        .ite ((y8 == (ieq v3 (x.length : Int))) == true) (
          .ite (y8 == false) (
            let y9 : (DInsn × Int) := (fn27 y7)
            let y10 : Int := y9.2
            .ite ((ieq y10 80) == true) (
              .ite ((ieq v2 80) == true) (
                .need (pre26 ()) <|
                .ret (.inr (fn26 ()))) (
                .ret (.inr false))) (
              .ret (.inr false))) (
            .need (pre26 ()) <|
            .ret (.inr (fn26 ())))) (
          .ret (.inr false))))
noncomputable def head10 (x : (List Int)) : J10 → Head
  | .h0 v1 v2 v3 v4 =>
    { fr := { id := 10, kind := .top, T := [(.fsl (.int .u8) x), .any, .any, (.fsl CInsn v1), (.int .i64 v2), (.int .i64 v3), (.int .i64 v4)] ++ List.replicate 82 .any, items := [.lp (subc [1, 1, 1, 1, 0, 1, 0, 0] (bodyOf Tryd.f10)), .blk 0, .code (subc [1, 1, 1, 1, 1] (bodyOf Tryd.f10))], D := [], base := 0 },
      stk := [],
      H := [] }
noncomputable def stop10 : FuncId → Nat → Nat → Option Cut
  | 10, 0, 0 => some { tmps := [0, 3, 4, 5, 6], loops := [], dead := [], stk := [] }
  | _, _, _ => none
noncomputable def fn10 (x : (List Int)) : Bool := endVal (TC.dflt .bool) (step10 x) (tree10 x)
def pre10 (x : (List Int)) : Prop := ∃ r, Ends (step10 x) r (tree10 x)
noncomputable def spec10 : Spec := { dom := (.st1 (.slice (.int .u8))), cod := .bool, n := 1, pre := pre10, f := fn10 }
noncomputable def need10 : FuncId → Option Spec
  | 26 => some spec26
  | 27 => some spec27
  | 28 => some spec28
  | _ => none
theorem need10_ok : ∀ f sp, need10 f = some sp → SpecOk env0 f sp := by
  intro f sp h
  unfold need10 at h
  split at h
  · cases h; exact ok26
  · cases h; exact ok27
  · cases h; exact ok28
  · cases h
theorem run10 (W : Cfg) (Q : Bool → Prop) (x : (List Int)) : run (env need10 (fun _ _ => none)) stop10 (finS spec10 Q) W 100000 (startFr 10 Tryd.f10 (bodyOf Tryd.f10) (argsOf (.st1 (.slice (.int .u8))) x)) [] [] = (tree10 x).wp (kont W Q (head10 x)) := by kernel_rfl
theorem run10h0 (W : Cfg) (Q : Bool → Prop) (x : (List Int)) (v1 : (List DInsn)) (v2 : Int) (v3 : Int) (v4 : Int) : run (env need10 (fun _ _ => none)) stop10 (finS spec10 Q) W 100000 (head10 x (.h0 v1 v2 v3 v4)).fr.enter (head10 x (.h0 v1 v2 v3 v4)).stk (head10 x (.h0 v1 v2 v3 v4)).H = (step10 x (.h0 v1 v2 v3 v4)).wp (kont W Q (head10 x)) := by kernel_rfl
theorem runs10 (W : Cfg) (Q : Bool → Prop) (x : (List Int)) : ∀ j : J10, run (env need10 (fun _ _ => none)) stop10 (finS spec10 Q) W 100000 (head10 x j).fr.enter (head10 x j).stk (head10 x j).H = (step10 x j).wp (kont W Q (head10 x))
  | .h0 v1 v2 v3 v4 => run10h0 W Q x v1 v2 v3 v4
theorem ok10 : SpecOk env0 10 spec10 := SpecOk.env rfl (fun _ _ h => h) (spec_of_trees (E := (env need10 (fun _ _ => none))) (sp := spec10) (valid _ _) (fun f sp h => SpecOk.env rfl (fun _ _ h => h) (need10_ok f sp h)) (fn := Tryd.f10) (c := (bodyOf Tryd.f10)) (by kernel_rfl) (by kernel_rfl) tree10 step10 head10 run10 runs10 (fun _ h => endVal_ends h))

/-! ### sundial/sundialref07.Bytes -/
noncomputable def tree34 (x : DForm) : Tr (List Int) :=
  let y0 : Int := x.2.1
  .ite (ieq y0 1) (
    .need ((0 : Nat) < 2) <|
    .need ((1 : Nat) < 2) <|
    .need (((0 : Nat) + 2 : Nat) ≤ 2) <|
    let y1 : Int := x.2.2.1
    .ret [15, y1]) (
    .ite (ieq y0 2) (
      .need ((0 : Nat) < 3) <|
      .need ((1 : Nat) < 3) <|
      .need ((2 : Nat) < 3) <|
      .need (((0 : Nat) + 3 : Nat) ≤ 3) <|
      let y2 : Int := x.2.2.1
      .ret [15, 56, y2]) (
      .ite (ieq y0 3) (
        .need ((0 : Nat) < 3) <|
        .need ((1 : Nat) < 3) <|
        .need ((2 : Nat) < 3) <|
        .need (((0 : Nat) + 3 : Nat) ≤ 3) <|
        let y3 : Int := x.2.2.1
        .ret [15, 58, y3]) (
        .need ((0 : Nat) < 1) <|
        .need (((0 : Nat) + 1 : Nat) ≤ 1) <|
        let y4 : Int := x.2.2.1
        .ret [y4])))
noncomputable def fn34 (x : DForm) : (List Int) := (tree34 x).val
def pre34 (x : DForm) : Prop := (tree34 x).ok
noncomputable def spec34 : Spec := { dom := (.st1 CForm), cod := (.slice (.int .u8)), n := 1, pre := pre34, f := fn34 }
noncomputable def need34 : FuncId → Option Spec
  | _ => none
theorem need34_ok : ∀ f sp, need34 f = some sp → SpecOk env0 f sp := by
  intro f sp h
  unfold need34 at h
  split at h
  · cases h
theorem run34 (W : Cfg) (Q : (List Int) → Prop) (x : DForm) : run (env need34 (fun _ _ => none)) (fun _ _ _ => none) (finS spec34 Q) W 100000 (startFr 34 Tryd.f34 (bodyOf Tryd.f34) (argsOf (.st1 CForm) x)) [] [] = (tree34 x).wp Q := by kernel_rfl
theorem ok34 : SpecOk env0 34 spec34 := SpecOk.env rfl (fun _ _ h => h) (spec_of_tree (E := (env need34 (fun _ _ => none))) (sp := spec34) (valid _ _) (fun f sp h => SpecOk.env rfl (fun _ _ h => h) (need34_ok f sp h)) (fn := Tryd.f34) (c := (bodyOf Tryd.f34)) (by kernel_rfl) (by kernel_rfl) tree34 run34 (fun _ h => Tr.gives_val h))

end Go.Eng.RD
end
section
/- Plain laws of decode: an instruction's own bytes; rows. -/
namespace Go.Eng.RD
open Go.Eng
set_option maxRecDepth 100000
set_option linter.unusedSectionVars false
noncomputable section

theorem len_i64 {a b : List Int} (ha : a.length ≤ 1000) (hb : b.length ≤ 1000) : isub .i64 (a.length : Int) (b.length : Int) = (a.length : Int) - b.length := by rw [isub_i64] <;> omega

/-- What is read, told of what it is read from. -/
theorem oneS_some {b : List Int} {a : Parts} {r : List Int} (hl : b.length ≤ 1000) (h : oneP b = some (a, r)) :
    ∃ u, b = u ++ r ∧ 1 ≤ u.length ∧ u.length ≤ 15 ∧ oneS b = (mkI (u.length : Int) a, 0) ∧ (∀ o, oneP (u ++ o) = some (a, o)) ∧ ∀ m, m < u.length → oneP (u.take m) = none := by
  obtain ⟨u, rfl, h1, h2⟩ := one_st _ _ _ h
  have ht := one_tk _ _ _ h
  rw [List.length_append] at ht hl
  refine ⟨u, rfl, by omega, by omega, ?_, h1, h2⟩
  unfold oneS oneR
  rw [h]
  simp only
  rw [len_i64 (by rw [List.length_append]; omega) (by omega), List.length_append]
  congr 2
  omega

theorem oneS_none {b : List Int} (h : oneP b = none) : oneS b = (zI, 80) := by unfold oneS oneR; rw [h]
theorem oneS_app {u o : List Int} {a : Parts} (hl : (u ++ o).length ≤ 1000) (h : oneP (u ++ o) = some (a, o)) : oneS (u ++ o) = (mkI (u.length : Int) a, 0) := by
  unfold oneS oneR
  rw [h]
  simp only
  rw [len_i64 hl (by rw [List.length_append] at hl; omega), List.length_append]
  congr 2
  omega

/-! ### All -/
def allS : Nat → List Int → List DInsn × Int
  | 0, _ => ([], 0)
  | n + 1, b => match b with
    | [] => ([], 0)
    | c :: b => match oneP (c :: b) with
      | none => ([], 80)
      | some (a, r) => (mkI (((c :: b).length : Int) - r.length) a :: (allS n r).1, (allS n r).2)

theorem allS_nil (n : Nat) : allS n [] = ([], 0) := by cases n <;> rfl
theorem allS_none {n : Nat} {b : List Int} (hb : b ≠ []) (h : oneP b = none) : allS (n + 1) b = ([], 80) := by
  cases b with
  | nil => exact (hb rfl).elim
  | cons c b => simp only [allS, h]
theorem allS_some {n : Nat} {b r : List Int} {a : Parts} (h : oneP b = some (a, r)) : allS (n + 1) b = (mkI ((b.length : Int) - r.length) a :: (allS n r).1, (allS n r).2) := by
  cases b with
  | nil => have := (one_tk _ _ _ h).1; simp at this
  | cons c b => simp only [allS, h]

theorem all_h1 {x : List Int} : ∀ (n : Nat) (b : List Int) (acc : List DInsn), b.length ≤ n → acc.length + b.length ≤ 1000 → AllB b →
    Ends (step28 x) (acc ++ (allS n b).1, (allS n b).2) (step28 x (.h1 acc.length 0 b acc.length acc)) := by
  intro n
  induction n with
  | zero =>
    intro b acc hn hl hB
    have : b = [] := List.length_eq_zero_iff.1 (by omega)
    subst this
    simp only [step28]
    simp only [ends_ite, ends_need, ends_ret, List.take_length]
    refine ⟨(fun e => by cases e), fun _ => ⟨by omega, ?_⟩⟩
    rw [allS_nil, List.append_nil]
  | succ n ih =>
    intro b acc hn hl hB
    simp only [step28]
    by_cases hb : b = []
    · subst hb
      simp only [ends_ite, ends_need, ends_ret, List.take_length]
      refine ⟨(fun e => by cases e), fun _ => ⟨by omega, ?_⟩⟩
      rw [allS_nil, List.append_nil]
    · have h0 : ilt 0 (b.length : Int) = true := by
        rw [ilt_iff]; have := List.length_pos_iff.2 hb; omega
      have hb1 : b.length ≤ 1000 := by omega
      rw [fn27_ok hb1 hB]
      simp only [h0, ends_ite, ends_need, ends_jump, ends_ret]
      refine ⟨fun _ => ⟨pre27_ok hb1 hB, ?_⟩, (fun e => by cases e)⟩
      cases ho : oneP b with
      | none =>
        rw [oneS_none ho, allS_none hb ho]
        refine ⟨(fun e => by cases e), fun _ => ⟨fun _ => ⟨by omega, ?_⟩, (fun e => by cases e)⟩⟩
        rw [List.append_nil, List.take_length]
      | some ar =>
        obtain ⟨a, r⟩ := ar
        rw [allS_some ho]
        obtain ⟨u, hu, h1, h2, hS, _, _⟩ := oneS_some hb1 ho
        rw [hS]
        have hlen : b.length = u.length + r.length := by rw [hu, List.length_append]
        have e1 : (mkI (u.length : Int) a).2.2.2.2.2.2 = (u.length : Int) := rfl
        have e2 : b.drop u.length = r := by rw [hu]; simp
        have e3 : ((b.length : Int) - r.length) = (u.length : Int) := by omega
        have hr := ih r (acc ++ [mkI (u.length : Int) a]) (by omega) (by rw [List.length_append]; simp; omega) (by rw [← e2]; exact hB.drop _)
        rw [List.length_append, List.append_assoc] at hr
        simp only [e1, Int.toNat_natCast, e2, e3]
        refine ⟨fun _ => ⟨by omega, by omega, trivial, by omega, by omega, (fun e => by cases e), fun _ => ⟨by omega, by omega, hr⟩⟩, (fun e => by cases e)⟩

theorem all_ends {x : List Int} (hl : x.length ≤ 900) (hB : AllB x) : Ends (step28 x) (allS x.length x) (tree28 x) := by
  unfold tree28
  simp only [ends_jump]
  simp only [step28]
  by_cases hb : x = []
  · subst hb
    simp only [ends_ite, ends_ret]
    exact ⟨(fun e => by cases e), fun _ => rfl⟩
  · have hpos := List.length_pos_iff.2 hb
    have h0 : ilt 0 (x.length : Int) = true := by rw [ilt_iff]; omega
    have hb1 : x.length ≤ 1000 := by omega
    rw [fn27_ok hb1 hB]
    simp only [h0, ends_ite, ends_need, ends_jump, ends_ret]
    obtain ⟨n, hn⟩ : ∃ n, x.length = n + 1 := ⟨x.length - 1, by omega⟩
    refine ⟨fun _ => ⟨pre27_ok hb1 hB, ?_⟩, (fun e => by cases e)⟩
    cases ho : oneP x with
    | none =>
      rw [oneS_none ho, hn, allS_none hb ho]
      exact ⟨(fun e => by cases e), fun _ => ⟨fun _ => rfl, (fun e => by cases e)⟩⟩
    | some ar =>
      obtain ⟨a, r⟩ := ar
      obtain ⟨u, hu, h1, h2, hS, _, _⟩ := oneS_some hb1 ho
      have hlen : x.length = u.length + r.length := by rw [hu, List.length_append]
      have e1 : (mkI (u.length : Int) a).2.2.2.2.2.2 = (u.length : Int) := rfl
      have e2 : x.drop u.length = r := by rw [hu]; simp
      have e3 : ((x.length : Int) - r.length) = (u.length : Int) := by omega
      have hr := all_h1 (x := x) n r [mkI (u.length : Int) a] (by omega) (by simp; omega) (by rw [← e2]; exact hB.drop _)
      rw [hS]
      have e4 : allS x.length x = ([mkI (u.length : Int) a] ++ (allS n r).1, (allS n r).2) := by
        rw [hn, allS_some ho, e3]; rfl
      rw [e4]
      simp only [e1, Int.toNat_natCast, e2]
      refine ⟨fun _ => ⟨by omega, by omega, by omega, by omega, (fun e => by cases e), fun _ => ⟨by omega, by omega, hr⟩⟩, (fun e => by cases e)⟩

theorem pre28_ok {x : List Int} (hl : x.length ≤ 900) (hB : AllB x) : pre28 x := ⟨_, all_ends hl hB⟩
theorem fn28_ok {x : List Int} (hl : x.length ≤ 900) (hB : AllB x) : fn28 x = allS x.length x := endVal_eq (all_ends hl hB)
theorem pre31_ok {x : List Int} (hl : x.length ≤ 1000) (hB : AllB x) : pre31 x := ⟨pre27_ok hl hB, trivial⟩
theorem fn31_ok {x : List Int} (hl : x.length ≤ 1000) (hB : AllB x) : fn31 x = (oneS x).1.2.2.2.2.2.2 := by
  have : fn31 x = (fn27 x).1.2.2.2.2.2.2 := rfl
  rw [this, fn27_ok hl hB]

/-! ### What the document says -/
def allBb (b : List Int) : Bool := b.all isBb
theorem allB_of {b : List Int} (h : allBb b = true) : AllB b := fun c hc => by
  have := List.all_eq_true.1 h c hc
  simpa [isBb, isB] using this
theorem wk1 : oneS [72, 137, 200] = ((1, (0, (8, (fn60 0, (fn60 1, (0, 3)))))), 0) := by kernel_rfl
theorem wk2 : (oneS [144]).2 = 0 ∧ (oneS [144]).1.1 = 34 := ⟨by kernel_rfl, by kernel_rfl⟩
theorem wk3 : (oneS [72, 137]).2 = 80 := by kernel_rfl
theorem wk4 : (allS 3 [144, 195, 6]).1.length = 2 ∧ (allS 3 [144, 195, 6]).2 = 80 := ⟨by kernel_rfl, by kernel_rfl⟩
theorem wk5 : (oneS [195]).1.2.2.2.2.2.2 = 1 := by kernel_rfl
theorem eqI {a b : DInsn} (h : a = b) : eqD CInsn a b = true := h ▸ eqD_self (c := CInsn) rfl a

theorem wakes_ok (x) : pre26 x ∧ fn26 x = true := by
  have l (b : List Int) (h : allBb b = true) : AllB b := allB_of h
  have e1 := fn27_ok (x := [72, 137, 200]) (by decide) (l _ rfl)
  have e2 := fn27_ok (x := [144]) (by decide) (l _ rfl)
  have e3 := fn27_ok (x := [72, 137]) (by decide) (l _ rfl)
  have e4 := fn28_ok (x := [144, 195, 6]) (by decide) (l _ rfl)
  have e5 := fn31_ok (x := [195]) (by decide) (l _ rfl)
  have p1 := pre27_ok (x := [72, 137, 200]) (by decide) (l _ rfl)
  have p2 := pre27_ok (x := [144]) (by decide) (l _ rfl)
  have p3 := pre27_ok (x := [72, 137]) (by decide) (l _ rfl)
  have p4 := pre28_ok (x := [144, 195, 6]) (by decide) (l _ rfl)
  have p5 := pre31_ok (x := [195]) (by decide) (l _ rfl)
  have e4' : fn28 [144, 195, 6] = allS 3 [144, 195, 6] := e4
  have t1 : eqD CInsn (oneS [72, 137, 200]).1 (1, (0, (8, ((fn35 0), ((fn35 1), (0, 3)))))) = true := by rw [wk1]; exact eqI rfl
  have t2 : ieq (oneS [72, 137, 200]).2 0 = true := by rw [wk1]; rfl
  have t3 : ieq (oneS [144]).2 0 = true := by rw [wk2.1]; rfl
  have t4 : ieq (oneS [144]).1.1 34 = true := by rw [wk2.2]; rfl
  have t5 : ieq (oneS [72, 137]).2 80 = true := by rw [wk3]; rfl
  have t6 : ieq ((allS 3 [144, 195, 6]).1.length : Int) 2 = true := by rw [wk4.1]; rfl
  have t7 : ieq (allS 3 [144, 195, 6]).2 80 = true := by rw [wk4.2]; rfl
  have t8 : ieq (oneS [195]).1.2.2.2.2.2.2 1 = true := by rw [wk5]; rfl
  have p35 : ∀ a, pre35 a := fun _ => trivial
  constructor
  · unfold pre26 tree26
    simp only [ok_need, ok_ite, ok_ret, e1, e2, e3, e4', e5, t1, t2, t3, t4, t5, t6, t7, t8, p1, p2, p3, p4, p5, p35]
    simp
  · unfold fn26 tree26
    simp only [val_need, val_ite, val_ret, e1, e2, e3, e4', e5, t1, t2, t3, t4, t5, t6, t7, t8]
    rfl
end
end Go.Eng.RD
end
section
/- DecodeOwn, DecodeRow: plain. -/
namespace Go.Eng.RD
open Go.Eng
set_option maxRecDepth 100000
set_option linter.unusedSectionVars false
noncomputable section

theorem allB_wf {b : List Int} (h : ∀ x ∈ b, TC.wf (.int .u8) x) : AllB b := fun c hc => by
  have := h c hc
  simp only [TC.wf, Lit.wf] at this
  have e1 : IntKind.u8.min = 0 := rfl
  have e2 : IntKind.u8.max = 255 := rfl
  have : IntKind.u8.min ≤ c ∧ c ≤ IntKind.u8.max := by simpa using this
  rw [e1, e2] at this
  exact ⟨this.1, by omega⟩

section
variable {x : List Int × List Int}

theorem own_h0 (hl : x.1.length ≤ 40) (hB : AllB x.1) {u r : List Int} (hu : x.1 = u ++ r) (h2 : ∀ m, m < u.length → oneP (u.take m) = none) (v : DInsn) (hv : v.2.2.2.2.2.2 = (u.length : Int)) (hone : oneS x.1 = (v, 0)) :
    ∀ (k m : Nat), m + k = u.length → Ends (step9 x) true (step9 x (.h0 0 m v v)) := by
  have hlen : x.1.length = u.length + r.length := by rw [hu, List.length_append]
  intro k
  induction k with
  | zero =>
    intro m hm
    have e : ilt (m : Int) (u.length : Int) = false := by rw [ilt_no]; omega
    simp only [step9]
    simp only [hv, e, ends_ite, ends_need, ends_ret, fn31_ok (show x.1.length ≤ 1000 by omega) hB, hone]
    have hw := wakes_ok ()
    refine ⟨(fun e => by cases e), fun _ => ⟨fun _ => ⟨fun _ => ⟨pre31_ok (by omega) hB, fun _ => ⟨hw.1, hw.2⟩, fun e => ?_⟩, fun e => ?_⟩, fun e => by cases e⟩⟩
    · rw [show ieq (u.length : Int) (u.length : Int) = true from ieq_iff.2 rfl] at e; cases e
    · rw [eqI rfl] at e; cases e
  | succ k ih =>
    intro m hm
    have e : ilt (m : Int) (u.length : Int) = true := by rw [ilt_iff]; omega
    have hm1 := ih (m + 1) (by omega)
    have ht : x.1.take m = u.take m := by rw [hu, List.take_append_of_le_length (by omega)]
    have hone' := oneS_none (h2 m (by omega))
    simp only [step9]
    simp only [hv, e, ends_ite, ends_need, ends_jump, ends_ret, Int.toNat_natCast, List.drop_zero, Nat.sub_zero, ht, one_more m (by omega)]
    have hBt : AllB (u.take m) := by rw [← ht]; exact hB.take m
    have hlt : (u.take m).length ≤ 1000 := by simp; omega
    rw [fn27_ok hlt hBt, hone']
    refine ⟨fun _ => ⟨by omega, by omega, by omega, pre27_ok hlt hBt, (fun e => by cases e), fun _ => hm1⟩, (fun e => by cases e)⟩

theorem own_ends (hB1 : AllB x.1) (hB2 : AllB x.2) : Ends (step9 x) true (tree9 x) := by
  have hw := wakes_ok ()
  unfold tree9
  rw [ends_ite]
  refine ⟨fun e => ?_, fun _ => ?_⟩
  · have hl : x.1.length ≤ 40 := by
      have : ilt 40 (x.1.length : Int) = false := by simpa using e
      rw [ilt_no] at this; omega
    rw [ends_ite]
    refine ⟨fun _ => ?_, fun e2 => ?_⟩
    · simp only [ends_need, ends_ret]; exact hw
    · have hl2 : x.2.length ≤ 40 := by rw [ilt_no] at e2; omega
      have hl1 : x.1.length ≤ 1000 := by omega
      rw [ends_need]
      refine ⟨pre27_ok hl1 hB1, ?_⟩
      rw [fn27_ok hl1 hB1]
      cases ho : oneP x.1 with
      | none =>
        rw [oneS_none ho, ends_ite]
        refine ⟨fun _ => ?_, (fun e => by cases e)⟩
        simp only [ends_ite, ends_need, ends_ret, fn31_ok hl1 hB1, oneS_none ho]
        refine ⟨fun _ => ⟨fun _ => ⟨pre31_ok hl1 hB1, fun _ => hw, fun e => by cases e⟩, fun e => ?_⟩, fun e => by cases e⟩
        exact absurd e (by show ¬ ((eqD CInsn zI zI) == true) = false; rw [eqI rfl]; decide)
      | some ar =>
        obtain ⟨a, r⟩ := ar
        obtain ⟨u, hu, h1, h15, hS, happ, hno⟩ := oneS_some hl1 ho
        have hlen : x.1.length = u.length + r.length := by rw [hu, List.length_append]
        have e1 : (mkI (u.length : Int) a).2.2.2.2.2.2 = (u.length : Int) := rfl
        have ht : x.1.take u.length = u := by rw [hu]; simp
        have hBu : AllB u := by rw [← ht]; exact hB1.take _
        have hul : (u ++ x.2).length ≤ 1000 := by rw [List.length_append]; omega
        have hS2 := oneS_app hul (happ x.2)
        rw [hS, ends_ite]
        refine ⟨(fun e => by cases e), fun _ => ?_⟩
        have a1 : ilt (u.length : Int) 1 = false := by rw [ilt_no]; omega
        have a2 : ilt 15 (u.length : Int) = false := by rw [ilt_no]; omega
        have a3 : ilt (x.1.length : Int) (u.length : Int) = false := by rw [ilt_no]; omega
        have a4 : ilt ((0 : Nat) : Int) ((0 + u.length : Nat) : Int) = true := by rw [ilt_iff]; omega
        have a5 : ((([] : List Int) ++ u) ++ x.2).take (0 + u.length + x.2.length) = u ++ x.2 := by
          rw [List.nil_append, List.take_of_length_le (by rw [List.length_append]; omega)]
        simp only [e1, a1, a2, a3, Int.toNat_natCast, List.drop_zero, Nat.sub_zero, ht, a4, a5, ends_ite, ends_need, ends_jump]
        rw [fn27_ok hul (hBu.app hB2), hS2]
        have hgo := own_h0 hl hB1 hu hno (mkI (u.length : Int) a) e1 hS u.length 0 (Nat.zero_add _)
        refine ⟨fun _ => ⟨fun _ => ⟨(fun e => by cases e), fun _ => ⟨by omega, by omega, by omega, fun _ => ⟨by omega, by omega, by omega, trivial, by omega, by omega, by omega, pre27_ok hul (hBu.app hB2), hgo⟩, (fun e => by cases e)⟩⟩, (fun e => by cases e)⟩, (fun e => by cases e)⟩
  · simp only [ends_need, ends_ret]; exact hw

theorem decodeOwn (x : List Int × List Int) (w : TC.wf (.st (.slice (.int .u8)) (.st1 (.slice (.int .u8)))) x) : pre9 x ∧ fn9 x = true := by
  have h := own_ends (x := x) (allB_wf w.1.2) (allB_wf w.2.2)
  exact ⟨⟨_, h⟩, endVal_eq h⟩
end

/-! ### Rows -/
section
variable {x : List Int}

theorem row_h0 (hl : x.length ≤ 200) (hB : AllB x) (v1 : List DInsn) (v2 : Int) : ∀ (n at_ i : Nat), at_ ≤ x.length → (x.drop at_).length ≤ n → i ≤ v1.length → v1.length ≤ 1000 → allS n (x.drop at_) = (v1.drop i, v2) →
    Ends (step10 x) true (step10 x (.h0 v1 v2 at_ i)) := by
  have hw := wakes_ok ()
  intro n
  induction n with
  | zero =>
    intro at_ i hat hn hi hv hS
    have hnil : x.drop at_ = [] := List.length_eq_zero_iff.1 (by omega)
    have hlx : at_ = x.length := by
      have := congrArg List.length hnil
      simp at this; omega
    rw [hnil, allS_nil] at hS
    obtain ⟨hd, rfl⟩ := Prod.mk.inj hS
    have hiv : i = v1.length := by
      have := congrArg List.length hd
      simp at this; omega
    have e1 : ilt (i : Int) (v1.length : Int) = false := by rw [ilt_no]; omega
    have e2 : ilt (x.length : Int) (at_ : Int) = false := by rw [ilt_no]; omega
    have e3 : ieq (at_ : Int) (x.length : Int) = true := by rw [ieq_iff]; omega
    simp only [step10]
    simp only [e1, e2, e3, ends_ite, ends_need, ends_ret, Int.toNat_natCast]
    refine ⟨(fun e => by cases e), fun _ => ⟨(fun e => by cases e), fun _ => ⟨by omega, by omega, pre27_ok (by simp; omega) (hB.drop _), fun _ => ⟨(fun e => by cases e), fun _ => hw⟩, fun e => by cases e⟩⟩⟩
  | succ n ih =>
    intro at_ i hat hn hi hv hS
    have hl' : (x.drop at_).length ≤ 1000 := by simp; omega
    have e2 : ilt (x.length : Int) (at_ : Int) = false := by rw [ilt_no]; omega
    have p27 := pre27_ok hl' (hB.drop at_)
    simp only [step10]
    simp only [e2, ends_ite, ends_need, ends_ret, ends_jump, Int.toNat_natCast, fn27_ok hl' (hB.drop at_)]
    by_cases hnil : x.drop at_ = []
    · have hlx : at_ = x.length := by
        have := congrArg List.length hnil
        simp at this; omega
      rw [hnil, allS_nil] at hS
      obtain ⟨hd, rfl⟩ := Prod.mk.inj hS
      have hiv : i = v1.length := by
        have := congrArg List.length hd
        simp at this; omega
      have e1 : ilt (i : Int) (v1.length : Int) = false := by rw [ilt_no]; omega
      have e3 : ieq (at_ : Int) (x.length : Int) = true := by rw [ieq_iff]; omega
      rw [e1, e3]
      refine ⟨(fun e => by cases e), fun _ => ⟨(fun e => by cases e), fun _ => ⟨by omega, by omega, p27, fun _ => ⟨(fun e => by cases e), fun _ => hw⟩, fun e => by cases e⟩⟩⟩
    · have hlt : at_ < x.length := by
        rcases Nat.lt_or_ge at_ x.length with h | h
        · exact h
        · exact (hnil (List.drop_of_length_le h)).elim
      have e3 : ieq (at_ : Int) (x.length : Int) = false := by rw [ieq_no]; omega
      cases ho : oneP (x.drop at_) with
      | none =>
        rw [allS_none hnil ho] at hS
        obtain ⟨hd, rfl⟩ := Prod.mk.inj hS
        have hiv : i = v1.length := by
          have := congrArg List.length hd
          simp at this; omega
        have e1 : ilt (i : Int) (v1.length : Int) = false := by rw [ilt_no]; omega
        rw [e1, e3, oneS_none ho]
        refine ⟨(fun e => by cases e), fun _ => ⟨(fun e => by cases e), fun _ => ⟨by omega, by omega, p27, fun _ => ⟨fun _ => ⟨fun _ => ⟨fun _ => hw, (fun e => by cases e)⟩, (fun e => by cases e)⟩, (fun e => by cases e)⟩, fun e => by cases e⟩⟩⟩
      | some ar =>
        obtain ⟨a, r⟩ := ar
        obtain ⟨u, hu, h1, h15, hone, _, _⟩ := oneS_some hl' ho
        rw [allS_some ho] at hS
        obtain ⟨hd, rfl⟩ := Prod.mk.inj hS
        have hlen : (x.drop at_).length = u.length + r.length := by rw [hu, List.length_append]
        have hlen2 : (x.drop at_).length = x.length - at_ := by simp
        have hil : i < v1.length := by
          have := congrArg List.length hd
          simp at this; omega
        have hat' : x.drop (at_ + u.length) = r := by rw [← List.drop_drop, hu]; simp
        have hget : rdc CInsn v1 i = mkI (u.length : Int) a := by
          rw [rdc_at (c := CInsn) hil]
          have : (v1.drop i)[0]? = some (mkI (((x.drop at_).length : Int) - r.length) a) := by rw [← hd]; rfl
          rw [List.getElem?_drop, Nat.add_zero, List.getElem?_eq_getElem hil] at this
          have e := Option.some.inj this
          rw [e]; congr 1; omega
        have htl : (allS n r).1 = v1.drop (i + 1) := by
          have := congrArg List.tail hd
          simpa using this
        have e1 : ilt (i : Int) (v1.length : Int) = true := by rw [ilt_iff]; omega
        have hI : (mkI (u.length : Int) a).2.2.2.2.2.2 = (u.length : Int) := rfl
        have e5 : ilt (u.length : Int) 1 = false := by rw [ilt_no]; omega
        have e6 : iadd .i64 (at_ : Int) (u.length : Int) = ((at_ + u.length : Nat) : Int) := by rw [iadd_i64] <;> omega
        have hgo := ih (at_ + u.length) (i + 1) (by omega) (by rw [hat']; omega) (by omega) hv (by rw [hat', ← htl])
        rw [e1, hone]
        simp only [hget, hI, e5, e6, one_more i (by omega)]
        refine ⟨fun _ => ⟨(fun e => by cases e), fun _ => ⟨by omega, by omega, p27, fun _ => ⟨by omega, by omega, fun _ => ⟨(fun e => by cases e), fun _ => hgo⟩, fun e => ?_⟩, fun e => by cases e⟩⟩, (fun e => by cases e)⟩
        rw [eqI rfl] at e; cases e

theorem allS_len : ∀ (n : Nat) (b : List Int), (allS n b).1.length ≤ n
  | 0, _ => Nat.le_refl _
  | n + 1, [] => Nat.zero_le _
  | n + 1, c :: b => by
    cases h : oneP (c :: b) with
    | none => rw [allS_none (by simp) h]; exact Nat.zero_le _
    | some ar =>
      obtain ⟨a, r⟩ := ar
      rw [allS_some h]
      have := allS_len n r
      simp only [List.length_cons]; omega

theorem decodeRow (x : List Int) (w : TC.wf (.st1 (.slice (.int .u8))) x) : pre10 x ∧ fn10 x = true := by
  have hB := allB_wf w.2
  have h : Ends (step10 x) true (tree10 x) := by
    have hw := wakes_ok ()
    unfold tree10
    simp only [ends_ite, ends_need, ends_ret, ends_jump]
    refine ⟨fun _ => hw, fun e => ?_⟩
    have hl : x.length ≤ 200 := by rw [ilt_no] at e; omega
    rw [fn28_ok (by omega) hB]
    have := allS_len x.length x
    exact ⟨pre28_ok (by omega) hB, row_h0 hl hB _ _ x.length 0 0 (Nat.zero_le _) (by simp) (Nat.zero_le _) (by omega) rfl⟩
  exact ⟨⟨_, h⟩, endVal_eq h⟩
end
end
end Go.Eng.RD
end
section
/- Numbers extended: Go's, the document's. -/
namespace Go.Eng.RD
open Go.Eng
set_option maxRecDepth 100000

def wd (n : Int) : Nat := if n < 1 then 1 else if n > 8 then 8 else n.toNat

theorem wd_pos (n : Int) : 1 ≤ wd n ∧ wd n ≤ 8 := by unfold wd; split <;> (try split) <;> omega

theorem wide_eq (n : Int) : fn116 n = (wd n : Int) := by
  change imin (imax n 1) 8 = _
  unfold imin imax wd
  split <;> split <;> (try split) <;> (try split) <;> omega

theorem wide_ok (n : Int) : pre116 n := trivial

theorem wd_cases (n : Int) : wd n = 1 ∨ wd n = 2 ∨ wd n = 3 ∨ wd n = 4 ∨ wd n = 5 ∨ wd n = 6 ∨ wd n = 7 ∨ wd n = 8 := by
  have := wd_pos n; omega

def cut (a : Nat) (n : Int) : Nat := a % 2 ^ (8 * wd n)

theorem i64_small {x : Int} (h1 : -9223372036854775808 ≤ x) (h2 : x < 9223372036854775808) : IntKind.wrap .i64 x = x := by
  rw [wrap_i64]; omega

def sg (a : Nat) (n : Int) : Bool := decide (a / 2 ^ (8 * wd n - 1) % 2 = 1)

theorem pw_le (n : Int) : 2 ^ (8 * wd n) ≤ 18446744073709551616 := by
  rcases wd_cases n with h | h | h | h | h | h | h | h <;> rw [h] <;> decide

theorem cut_lt (a : Nat) (n : Int) : cut a n < 2 ^ (8 * wd n) := Nat.mod_lt _ (Nat.pow_pos (by decide))

theorem cut_64 (a : Nat) (n : Int) : cut a n < 18446744073709551616 := Nat.lt_of_lt_of_le (cut_lt a n) (pw_le n)

theorem low_bit (b : Nat) : iand .u64 (b : Int) 1 = ((b % 2 : Nat) : Int) := by
  have e1 : iand .u64 (b : Int) 1 = IntKind.wrap .u64 ((BitVec.ofInt 64 (b : Int) &&& BitVec.ofInt 64 ((1 : Nat) : Int)).toNat : Nat) := rfl
  rw [e1, BitVec.toNat_and, ofInt_nat (b := 64) (a := 1) (by decide), BitVec.ofInt_natCast, BitVec.toNat_ofNat, Nat.and_one_is_mod, wrap_u64]
  have : b % 2 ^ 64 % 2 = b % 2 := Nat.mod_mod_of_dvd _ (by decide)
  rw [this]; omega

theorem sg_bit (a : Nat) (w : Int) : sg a w = a.testBit (8 * wd w - 1) := by
  rw [Nat.testBit_eq_decide_div_mod_eq]; rfl

def ext (a : Nat) (n : Int) : Nat := if sg a n = true then cut a n + (18446744073709551616 - 2 ^ (8 * wd n)) else cut a n

theorem bits_free (n : Int) : isub .i64 64 (imul .i64 8 (fn116 n)) = ((64 - 8 * wd n : Nat) : Int) := by
  have h := wd_pos n
  rw [wide_eq]
  have e : imul .i64 8 ((wd n : Nat) : Int) = ((8 * wd n : Nat) : Int) := by unfold imul; rw [i64_small (by omega) (by omega)]; omega
  rw [e]; unfold isub; rw [i64_small (by omega) (by omega)]; omega

theorem ext_ok (x n : Int) : pre95 (x, n) := by
  have h : (0 : Int) ≤ isub .i64 64 (imul .i64 8 (fn116 n)) := by rw [bits_free]; omega
  exact ⟨wide_ok n, h, h, trivial⟩

theorem ishr_i64 {x : Int} {k : Nat} (hk : k < 64) : ishr .i64 x k = x / 2 ^ k := by
  have e : min k 64 = k := by omega
  simp only [ishr, IntKind.bits, Int.toNat_natCast, e]
  exact Int.fdiv_eq_ediv_of_nonneg _ (Int.le_of_lt (Int.pow_pos (by decide)))

theorem ext_eq (a : Nat) (n : Int) : fn95 ((a : Int), n) = (ext a n : Int) := by
  have hw := wd_pos n
  change iconv .u64 (ishr .i64 (iconv .i64 (ishl .u64 (a : Int) (isub .i64 64 (imul .i64 8 (fn116 n))))) (isub .i64 64 (imul .i64 8 (fn116 n)))) = _
  rw [bits_free, ishl_u64 (by omega), ishr_i64 (by omega)]
  unfold iconv ext sg cut
  rw [wrap_i64, wrap_u64]
  rcases wd_cases n with h | h | h | h | h | h | h | h <;> rw [h] <;> simp only [Nat.reduceMul, Nat.reduceSub, Nat.reducePow, Int.reducePow, Nat.mul_one, Nat.sub_self, Nat.pow_zero, Int.pow_zero, decide_eq_true_eq] <;> split <;> omega

theorem rwide_ok (n : Int) : pre157 n := trivial

theorem rwide_eq (n : Int) : fn157 n = (wd n : Int) := wide_eq n

theorem rbits (n : Int) : imul .i64 8 (fn157 n) = ((8 * wd n : Nat) : Int) := by
  have h := wd_pos n
  rw [rwide_eq]
  unfold imul; rw [i64_small (by omega) (by omega)]; omega

theorem u64_idx {i : Nat} (h : i < 64) : iconv .u64 (i : Int) = (i : Int) := by unfold iconv; rw [wrap_u64]; omega

theorem next_i64 {i : Nat} (h : i < 9223372036854775807) : iadd .i64 (i : Int) 1 = ((i + 1 : Nat) : Int) := by unfold iadd; rw [i64_small (by omega) (by omega)]; omega

theorem pow_lt64 {i : Nat} (h : i < 64) : 2 ^ i < 18446744073709551616 := Nat.lt_of_lt_of_eq (Nat.pow_lt_pow_right (by decide) h) rfl

theorem one_shl {i : Nat} (h : i < 64) : ishl .u64 1 (i : Int) = ((2 ^ i : Nat) : Int) := by
  have := ishl_u64 (a := 1) h
  rw [Nat.one_mul, Nat.mod_eq_of_lt (pow_lt64 h)] at this
  exact this

theorem or_top {b i : Nat} (hb : b < 2 ^ i) : b ||| 2 ^ i = b + 2 ^ i := by
  have := Nat.two_pow_add_eq_or_of_lt hb 1
  rw [Nat.mul_one] at this
  rw [Nat.or_comm, ← this]; omega

theorem rmask_ends (n : Int) : Ends (step109 n) ((2 ^ (8 * wd n) - 1 : Nat) : Int) (tree109 n) := by
  have hw := wd_pos n
  have go : ∀ (d i : Nat), 8 * wd n = i + d → Ends (step109 n) ((2 ^ (8 * wd n) - 1 : Nat) : Int) (step109 n (.h0 ((2 ^ i - 1 : Nat) : Int) (i : Int))) := by
    intro d
    induction d with
    | zero =>
      intro i hi
      have hc : ilt (i : Int) ((8 * wd n : Nat) : Int) = false := by simp [ilt]; omega
      simp only [step109, rbits, hc]
      refine .need _ _ (rwide_ok n) (.no _ _ ?_)
      rw [show 8 * wd n = i by omega]
      exact .ret
    | succ d ih =>
      intro i hi
      have hc : ilt (i : Int) ((8 * wd n : Nat) : Int) = true := by simp [ilt]; omega
      have hp : 0 < 2 ^ i := Nat.pow_pos (by decide)
      have e : ior .u64 ((2 ^ i - 1 : Nat) : Int) (ishl .u64 1 (i : Int)) = ((2 ^ (i + 1) - 1 : Nat) : Int) := by
        have h64 := pow_lt64 (i := i) (by omega)
        rw [one_shl (by omega), ior_u64 (by omega) h64, or_top (by omega), Nat.pow_succ]
        congr 1; omega
      simp only [step109, rbits, hc, u64_idx (i := i) (by omega), e, next_i64 (i := i) (by omega)]
      exact .need _ _ (rwide_ok n) (.yes _ _ (.need _ _ (by omega) (.jump _ (ih (i + 1) (by omega)))))
  have := go (8 * wd n) 0 (by omega)
  exact .jump _ (by simpa using this)

theorem rmask_ok (n : Int) : pre109 n := ⟨_, rmask_ends n⟩

theorem rmask_eq (n : Int) : fn109 n = ((2 ^ (8 * wd n) - 1 : Nat) : Int) := endVal_eq (rmask_ends n)

theorem rcut_ok (x n : Int) : pre107 (x, n) := ⟨rmask_ok n, trivial⟩

theorem rcut_eq {a : Nat} (ha : a < 18446744073709551616) (n : Int) : fn107 ((a : Int), n) = (cut a n : Int) := by
  change iand .u64 a (fn109 n) = _
  have hm : 2 ^ (8 * wd n) - 1 < 18446744073709551616 := by
    have := pw_le n
    have : 0 < 2 ^ (8 * wd n) := Nat.pow_pos (by decide)
    omega
  rw [rmask_eq, iand_u64 ha hm, Nat.and_two_pow_sub_one_eq_mod]
  rfl

theorem rsign_bits (n : Int) : iconv .u64 (isub .i64 (imul .i64 8 (fn157 n)) 1) = ((8 * wd n - 1 : Nat) : Int) := by
  have h := wd_pos n
  rw [rbits]
  unfold isub iconv
  rw [i64_small (by omega) (by omega), wrap_u64]; omega

theorem rsign_ok (x n : Int) : pre108 (x, n) := by
  refine ⟨rwide_ok n, ?_, trivial⟩
  change (0 : Int) ≤ iconv .u64 (isub .i64 (imul .i64 8 (fn157 n)) 1)
  rw [rsign_bits]; omega

theorem rsign_eq (a : Nat) (n : Int) : fn108 ((a : Int), n) = sg a n := by
  have h := wd_pos n
  change ieq (iand .u64 (ishr .u64 (a : Int) (iconv .u64 (isub .i64 (imul .i64 8 (fn157 n)) 1))) 1) 1 = _
  rw [rsign_bits, ishr_u64 (by omega), low_bit]
  unfold sg ieq
  generalize a / 2 ^ (8 * wd n - 1) = b
  by_cases hb : b % 2 = 1
  · simp [hb]
  · have : b % 2 = 0 := by omega
    simp [this]

theorem sg_cut (a : Nat) (n : Int) : sg (cut a n) n = sg a n := by
  have := wd_pos n
  unfold cut
  rw [sg_bit, sg_bit, Nat.testBit_mod_two_pow, decide_eq_true (show 8 * wd n - 1 < 8 * wd n by omega)]; rfl

theorem inot_mask (w : Int) : inot .u64 ((2 ^ (8 * wd w) - 1 : Nat) : Int) = ((18446744073709551616 - 2 ^ (8 * wd w) : Nat) : Int) := by
  rcases wd_cases w with h | h | h | h | h | h | h | h <;> rw [h] <;> decide +kernel

theorem rext_eq {a : Nat} (ha : a < 18446744073709551616) (w : Int) : pre85 ((a : Int), w) ∧ fn85 ((a : Int), w) = (ext a w : Int) := by
  have hw := wd_pos w
  have hc := cut_lt a w
  have hp := pw_le w
  unfold pre85 fn85 tree85 Tr.ok
  simp only [rcut_eq ha, rsign_eq, sg_cut, rmask_eq, inot_mask, Tr.wp, Tr.val]
  unfold ext
  cases hs : sg a w with
  | false => exact ⟨⟨rcut_ok _ _, rsign_ok _ _, trivial⟩, rfl⟩
  | true =>
    refine ⟨⟨rcut_ok _ _, rsign_ok _ _, rmask_ok _, trivial⟩, ?_⟩
    simp only [cond_true, if_true]
    have e : 18446744073709551616 - 2 ^ (8 * wd w) = 2 ^ (8 * wd w) * (2 ^ (64 - 8 * wd w) - 1) := by
      rw [Nat.mul_sub, ← Nat.pow_add, show 8 * wd w + (64 - 8 * wd w) = 64 by omega, Nat.mul_one]
    have hpos : 0 < 2 ^ (8 * wd w) := Nat.pow_pos (by decide)
    rw [ior_u64 (by omega) (by omega), e, Nat.or_comm, ← Nat.two_pow_add_eq_or_of_lt hc]
    congr 1; omega
end Go.Eng.RD
end
section
/- The document's decode: numbers, operands. -/
namespace Go.Eng.RD
open Go.Eng
set_option maxRecDepth 100000
set_option linter.unusedSectionVars false
noncomputable section

/-! ### Numbers -/
def accL (d : List Int) : Nat → Nat → Int → Int
  | 0, _, v => v
  | n + 1, i, v => accL d n (i + 1) (ior .u64 v (ishl .u64 (iconv .u64 (rdc (.int .u8) d i)) ((8 * i : Nat) : Int)))
def numL (d : List Int) : Int := accL d d.length 0 0

theorem mul8 {i : Nat} (h : i < 1000) : imul .i64 8 (i : Int) = ((8 * i : Nat) : Int) := by
  unfold imul; rw [i64_small (by omega) (by omega)]; omega

theorem num94_h0 (x v1 : List Int) (hl : v1.length ≤ 8) : ∀ (m i : Nat), i + m = v1.length → ∀ v0, Ends (step94 x) (accL v1 m i v0) (step94 x (.h0 v0 v1 v1.length i)) := by
  intro m
  induction m with
  | zero =>
    intro i hi v0
    simp only [step94]
    simp only [lt_no (show v1.length ≤ i by omega), ends_ite, ends_ret]
    exact ⟨(fun h => by cases h), fun _ => rfl⟩
  | succ m ih =>
    intro i hi v0
    have hr := ih (i + 1) (by omega) (ior .u64 v0 (ishl .u64 (iconv .u64 (rdc (.int .u8) v1 i)) ((8 * i : Nat) : Int)))
    simp only [step94]
    simp only [lt_yes (show i < v1.length by omega), ends_ite, ends_need, ends_jump, Int.toNat_natCast, one_more i (by omega), mul8 (show i < 1000 by omega)]
    exact ⟨fun _ => ⟨by omega, by omega, by omega, hr⟩, (fun h => by cases h)⟩

theorem fn94_ok {d : List Int} (hl : d.length ≤ 8) : fn94 d = numL d := by
  have e : imin (d.length : Int) 8 = (d.length : Nat) := by
    unfold imin
    split <;> omega
  have hd : (d.drop 0).take (d.length - 0) = d := by simp
  have h : Ends (step94 d) (numL d) (tree94 d) := by
    unfold tree94
    simp only [e, ends_need, ends_jump, Int.toNat_natCast, hd]
    exact ⟨by omega, by omega, by omega, num94_h0 d d hl _ 0 (Nat.zero_add _) 0⟩
  exact endVal_eq h

theorem num83_h0 (x : List Int) (hl : x.length ≤ 8) : ∀ (m i : Nat), i + m = x.length → ∀ v0, Ends (step83 x) (accL x m i v0) (step83 x (.h0 v0 i)) := by
  intro m
  induction m with
  | zero =>
    intro i hi v0
    simp only [step83]
    simp only [lt_no (show x.length ≤ i by omega), ends_ite, ends_ret]
    exact ⟨(fun h => by cases h), fun _ => rfl⟩
  | succ m ih =>
    intro i hi v0
    have hr := ih (i + 1) (by omega) (ior .u64 v0 (ishl .u64 (iconv .u64 (rdc (.int .u8) x i)) ((8 * i : Nat) : Int)))
    have e8 : ilt (i : Int) 8 = true := by rw [ilt_iff]; omega
    have e2 : iconv .u64 ((8 * i : Nat) : Int) = ((8 * i : Nat) : Int) := u64_idx (by omega)
    simp only [step83]
    simp only [lt_yes (show i < x.length by omega), e8, ends_ite, ends_need, ends_jump, Int.toNat_natCast, one_more i (by omega), mul8 (show i < 1000 by omega), e2]
    exact ⟨fun _ => ⟨fun _ => ⟨by omega, by omega, by omega, hr⟩, (fun h => by cases h)⟩, (fun h => by cases h)⟩

theorem num83_ends {d : List Int} (hl : d.length ≤ 8) : Ends (step83 d) (numL d) (tree83 d) := by
  unfold tree83
  simp only [ends_jump]
  exact num83_h0 d hl _ 0 (Nat.zero_add _) 0
theorem pre83_ok {d : List Int} (hl : d.length ≤ 8) : pre83 d := ⟨_, num83_ends hl⟩
theorem fn83_ok {d : List Int} (hl : d.length ≤ 8) : fn83 d = numL d := endVal_eq (num83_ends hl)

theorem ior_nat (x y : Int) : ∃ a : Nat, a < 18446744073709551616 ∧ ior .u64 x y = (a : Int) := by
  have e : ior .u64 x y = IntKind.wrap .u64 ((BitVec.ofInt 64 x ||| BitVec.ofInt 64 y).toNat : Nat) := rfl
  rw [e, wrap_u64]
  refine ⟨(BitVec.ofInt 64 x ||| BitVec.ofInt 64 y).toNat % 18446744073709551616, Nat.mod_lt _ (by decide), by omega⟩
theorem accL_nat (d : List Int) : ∀ (m i : Nat) (v : Int), (∃ a : Nat, a < 18446744073709551616 ∧ v = (a : Int)) → ∃ a : Nat, a < 18446744073709551616 ∧ accL d m i v = (a : Int)
  | 0, _, _, h => h
  | m + 1, i, _, _ => accL_nat d m (i + 1) _ (ior_nat _ _)
theorem numL_nat (d : List Int) : ∃ a : Nat, a < 18446744073709551616 ∧ numL d = (a : Int) := accL_nat d _ _ _ ⟨0, by decide, rfl⟩

theorem fn84_ok (x : Int) : fn84 x = (ile 16 x && ile x 20) := by
  have hr : fn84 x = true ↔ x = 16 ∨ x = 17 ∨ x = 18 ∨ x = 19 ∨ x = 20 := by
    unfold fn84 tree84
    simp only [val_ite, val_ret]
    by_cases h1 : x = 19 <;> by_cases h2 : x = 20 <;> by_cases h3 : x = 16 <;> by_cases h4 : x = 17 <;> simp [ieq, h1, h2, h3, h4] <;> omega
  cases h : fn84 x with
  | true =>
    have := hr.1 h
    symm
    simp only [Bool.and_eq_true, ile_iff]
    omega
  | false =>
    symm
    rw [Bool.and_eq_false_iff, ile_no, ile_no]
    by_cases h5 : x < 16
    · exact .inl h5
    · right
      by_cases h6 : 20 < x
      · exact h6
      · exact absurd (hr.2 (by omega)) (by rw [h]; decide)
theorem pre84_ok (x) : pre84 x := by
  unfold pre84 tree84; simp only [ok_ite, ok_ret]; simp

theorem behind_ok {f : DForm} (hi : 0 ≤ fImm f ∧ fImm f ≤ 8) {b : List Int} (hb : (fImm f).toNat ≤ b.length) : pre51 (f, b) ∧ fn51 (f, b) = numS f (b.take (fImm f).toNat) := by
  have hl : (b.take (fImm f).toNat).length ≤ 8 := by simp; omega
  have e1 := fn83_ok hl
  have e2 := fn94_ok hl
  obtain ⟨a, ha, hn⟩ := numL_nat (b.take (fImm f).toNat)
  have hr : ∀ w, pre85 (numL (b.take (fImm f).toNat), w) ∧ fn85 (numL (b.take (fImm f).toNat), w) = (ext a w : Int) := fun w => by rw [hn]; exact rext_eq ha w
  have hx : fn95 (numL (b.take (fImm f).toNat), fImm f) = (ext a (fImm f) : Int) := by rw [hn]; exact ext_eq a _
  have hz : fImm f = 0 → a = 0 := by
    intro h0
    rw [h0] at hn
    have : (0 : Int) = (a : Int) := hn
    omega
  have hm : fImm f ≠ 0 → imax (fImm f) 1 = fImm f := by
    intro h0; unfold imax; split <;> omega
  constructor
  · unfold pre51 tree51
    simp only [ok_need, ok_ite, ok_ret, List.drop_zero, Nat.sub_zero, e1]
    exact ⟨hi.1, by omega, hb, pre83_ok hl, pre84_ok _, fun _ => trivial, fun _ => ⟨(hr _).1, trivial⟩⟩
  · unfold fn51 tree51
    simp only [val_need, val_ite, val_ret, List.drop_zero, Nat.sub_zero, e1, fn84_ok]
    unfold numS
    rw [e2, hx]
    rw [(hr (imax (fImm f) 1)).2]
    cases h0 : ieq (fImm f) 0 with
    | true =>
      have h0 := ieq_iff.1 h0
      have ha0 := hz h0
      rw [h0, cond_true]
      have e3 : numL (b.take (0 : Int).toNat) = 0 := by
        rw [h0] at hn; rw [hn, ha0]; rfl
      rw [e3, ha0]
      cases (ile 16 (fDo f) && ile (fDo f) 20) <;> rfl
    | false =>
      rw [cond_false, hm (ieq_no.1 h0)]
end
end Go.Eng.RD
end
section
/- The document's Take. -/
namespace Go.Eng.RD
open Go.Eng
set_option maxRecDepth 100000
set_option linter.unusedSectionVars false
noncomputable section

/-! ### Displacements -/
theorem ior64_add {x : Int} {c : Nat} (h1 : -1099511627776 ≤ x) (h2 : x < 1099511627776) (hc : c < 256) : ior .i64 (ishl .i64 x 8) (c : Int) = x * 256 + c := by
  have e0 : ishl .i64 x 8 = x * 256 := by
    have : ishl .i64 x 8 = IntKind.wrap .i64 (x * 256) := rfl
    rw [this, wrap_i64]; omega
  rw [e0]
  have e : ior .i64 (x * 256) (c : Int) = IntKind.wrap .i64 ((BitVec.ofInt 64 (x * 256) ||| BitVec.ofInt 64 (c : Int)).toNat : Nat) := rfl
  obtain ⟨k, hk, hkl⟩ : ∃ k : Nat, (x * 256) % 18446744073709551616 = ((256 * k : Nat) : Int) ∧ k < 72057594037927936 := by
    refine ⟨((x * 256) % 18446744073709551616 / 256).toNat, ?_, ?_⟩ <;> omega
  have e1 : (BitVec.ofInt 64 (x * 256)).toNat = 256 * k := by
    rw [BitVec.toNat_ofInt]
    have : (x * 256) % ((2 : Nat) ^ 64 : Nat) = ((256 * k : Nat) : Int) := hk
    rw [this, Int.toNat_natCast]
  have e2 : (BitVec.ofInt 64 (c : Int)).toNat = c := ofInt_nat (by omega)
  have e3 : 256 * k ||| c = 256 * k + c := (Nat.two_pow_add_eq_or_of_lt (i := 8) hc k).symm
  rw [e, BitVec.toNat_or, e1, e2, e3, wrap_i64]
  omega

theorem byte64 {c : Nat} (hc : c < 256) : iconv .i64 (c : Int) = (c : Int) := by unfold iconv; rw [wrap_i64]; omega
theorem sbyte {c : Nat} (hc : c < 256) : iconv .i64 (iconv .i8 (c : Int)) = (c : Int) - (if 128 ≤ c then 256 else 0) := by
  have e : iconv .i8 (c : Int) = ((c : Int) + 128) % 256 - 128 := by
    simp only [iconv, IntKind.wrap, IntKind.signed, IntKind.bits]; simp; omega
  rw [e]
  unfold iconv
  rw [wrap_i64]
  split <;> omega

theorem ior32_add {a c i : Nat} (hi : i ≤ 24) (ha : a < 2 ^ i) (hc : c < 256) : ior .u32 (a : Int) (ishl .u32 (iconv .u32 (c : Int)) (i : Int)) = ((a + c * 2 ^ i : Nat) : Int) := by
  have hp : 2 ^ i ≤ 16777216 := Nat.pow_le_pow_right (by decide) hi
  have hm : c * 2 ^ i ≤ 255 * 16777216 := Nat.mul_le_mul (by omega) hp
  have hpos : 0 < 2 ^ i := Nat.pow_pos (by decide)
  have w32 : ∀ n : Int, IntKind.wrap .u32 n = n % 4294967296 := fun n => by simp [IntKind.wrap, IntKind.signed, IntKind.bits]
  have e0 : iconv .u32 (c : Int) = (c : Int) := by unfold iconv; rw [w32]; omega
  have e1 : ishl .u32 (c : Int) (i : Int) = ((c * 2 ^ i : Nat) : Int) := by
    have hmin : min i 32 = i := by omega
    simp only [ishl, IntKind.bits, Int.toNat_natCast, hmin, w32]
    have : (c : Int) * 2 ^ i = ((c * 2 ^ i : Nat) : Int) := by push_cast; rfl
    rw [this]; omega
  rw [e0, e1]
  have e : ior .u32 (a : Int) ((c * 2 ^ i : Nat) : Int) = IntKind.wrap .u32 ((BitVec.ofInt 32 (a : Int) ||| BitVec.ofInt 32 ((c * 2 ^ i : Nat) : Int)).toNat : Nat) := rfl
  have h1 := ofInt_nat (b := 32) (a := a) (by omega)
  have h2 := ofInt_nat (b := 32) (a := c * 2 ^ i) (by omega)
  have h3 : a ||| c * 2 ^ i = a + c * 2 ^ i := by
    rw [Nat.or_comm, Nat.mul_comm, ← Nat.two_pow_add_eq_or_of_lt ha]; omega
  rw [e, BitVec.toNat_or, h1, h2, h3, w32]
  omega

theorem key32 {n : Nat} (h : n < 4294967296) : iconv .i64 (iconv .i32 (n : Int)) = (n : Int) - (if 2147483648 ≤ n then 4294967296 else 0) := by
  have e32 : iconv .i32 (n : Int) = ((n : Int) + 2147483648) % 4294967296 - 2147483648 := by
    simp only [iconv, IntKind.wrap, IntKind.signed, IntKind.bits]; simp; omega
  rw [e32]
  unfold iconv
  rw [wrap_i64]
  split <;> omega

/-- A displacement of so many bytes, put in. -/
def dispV (w : Int) (d : List Int) : Int := cond (ieq w 1) (iconv .i64 (iconv .i8 (rdc (.int .u8) d 0)))
  (iconv .i64 (iconv .i32 (ior .u32 (ior .u32 (ior .u32 (ior .u32 0 (ishl .u32 (iconv .u32 (rdc (.int .u8) d 0)) 0)) (ishl .u32 (iconv .u32 (rdc (.int .u8) d 1)) 8)) (ishl .u32 (iconv .u32 (rdc (.int .u8) d 2)) 16)) (ishl .u32 (iconv .u32 (rdc (.int .u8) d 3)) 24))))

theorem disp_same {w : Int} (hw : w = 1 ∨ w = 4) {d : List Int} (hd : d.length = w.toNat) (hB : AllB d) (o : DOperand) : dispL w d d.length o = setDisp o (dispV w d) := by
  have nat : ∀ {c : Int}, isB c → ∃ n : Nat, n < 256 ∧ c = (n : Int) := fun {c} h => ⟨c.toNat, by obtain ⟨a, b⟩ := h; omega, by obtain ⟨a, b⟩ := h; omega⟩
  rcases hw with rfl | rfl
  · match d, hd with
    | [c], _ => rfl
  · match d, hd with
    | [c0, c1, c2, c3], _ =>
      obtain ⟨n0, l0, rfl⟩ := nat (hB c0 (by simp))
      obtain ⟨n1, l1, rfl⟩ := nat (hB c1 (by simp))
      obtain ⟨n2, l2, rfl⟩ := nat (hB c2 (by simp))
      obtain ⟨n3, l3, rfl⟩ := nat (hB c3 (by simp))
      have e1 : dispL 4 [(n0 : Int), n1, n2, n3] ([(n0 : Int), n1, n2, n3] : List Int).length o =
          setDisp o (ior .i64 (ishl .i64 (ior .i64 (ishl .i64 (ior .i64 (ishl .i64 (iconv .i64 (iconv .i8 (n3 : Int))) 8) (iconv .i64 (n2 : Int))) 8) (iconv .i64 (n1 : Int))) 8) (iconv .i64 (n0 : Int))) := rfl
      have e2 : dispV 4 [(n0 : Int), n1, n2, n3] = iconv .i64 (iconv .i32 (ior .u32 (ior .u32 (ior .u32 (ior .u32 ((0 : Nat) : Int) (ishl .u32 (iconv .u32 (n0 : Int)) ((0 : Nat) : Int))) (ishl .u32 (iconv .u32 (n1 : Int)) ((8 : Nat) : Int))) (ishl .u32 (iconv .u32 (n2 : Int)) ((16 : Nat) : Int))) (ishl .u32 (iconv .u32 (n3 : Int)) ((24 : Nat) : Int)))) := rfl
      rw [e1, e2]
      congr 1
      rw [ior32_add (i := 0) (by omega) (by omega) l0, ior32_add (i := 8) (by omega) (by omega) l1, ior32_add (i := 16) (by omega) (by omega) l2, ior32_add (i := 24) (by omega) (by omega) l3]
      rw [sbyte l3, byte64 l2, byte64 l1, byte64 l0]
      have hs : -128 ≤ (n3 : Int) - (if 128 ≤ n3 then 256 else 0) ∧ (n3 : Int) - (if 128 ≤ n3 then 256 else 0) < 128 := by split <;> omega
      rw [ior64_add (by omega) (by omega) l2, ior64_add (by omega) (by omega) l1, ior64_add (by omega) (by omega) l0]
      rw [key32 (by omega)]
      have hc : (2147483648 ≤ n0 + n1 * 256 + n2 * 65536 + n3 * 16777216) ↔ 128 ≤ n3 := by omega
      simp only [Nat.reducePow, Nat.zero_add, Nat.mul_one, hc]
      by_cases h128 : 128 ≤ n3
      · rw [if_pos h128, if_pos h128]; omega
      · rw [if_neg h128, if_neg h128]; omega

theorem num106_ends {b : List Int} {w : Int} (hw : w = 1 ∨ w = 4) (hl : b.length ≤ 1000) :
    Ends (step106 (b, w)) (cond (ilt b.length w) (0, false) (dispV w (b.take w.toNat), true)) (tree106 (b, w)) := by
  unfold tree106
  simp only [ends_ite, ends_need, ends_ret, ends_jump]
  rcases hw with rfl | rfl
  · refine ⟨fun e => (by rw [e]; rfl), fun e => ⟨fun _ => ?_, fun h => by cases h⟩⟩
    rw [e]
    rw [ilt_no] at e
    match b, e with
    | c :: b, _ => exact ⟨by omega, by simp only [List.length_cons]; omega, rfl⟩
    | [], e => simp at e
  · refine ⟨fun e => (by rw [e]; rfl), fun e => ⟨fun h => (by cases h), fun _ => ?_⟩⟩
    rw [e]
    rw [ilt_no] at e
    match b, e with
    | c0 :: c1 :: c2 :: c3 :: b, _ =>
      simp only [step106]
      simp only [show ilt 0 4 = true from rfl, ends_ite, ends_need, ends_jump]
      refine ⟨fun _ => ⟨by omega, by simp only [List.length_cons]; omega, by decide, ?_⟩, fun h => by cases h⟩
      simp only [step106]
      simp only [show iadd .i64 0 1 = 1 from rfl, show ilt 1 4 = true from rfl, ends_ite, ends_need, ends_jump]
      refine ⟨fun _ => ⟨by omega, by simp only [List.length_cons]; omega, by decide, ?_⟩, fun h => by cases h⟩
      simp only [step106]
      simp only [show iadd .i64 1 1 = 2 from rfl, show ilt 2 4 = true from rfl, ends_ite, ends_need, ends_jump]
      refine ⟨fun _ => ⟨by omega, by simp only [List.length_cons]; omega, by decide, ?_⟩, fun h => by cases h⟩
      simp only [step106]
      simp only [show iadd .i64 2 1 = 3 from rfl, show ilt 3 4 = true from rfl, ends_ite, ends_need, ends_jump]
      refine ⟨fun _ => ⟨by omega, by simp only [List.length_cons]; omega, by decide, ?_⟩, fun h => by cases h⟩
      simp only [step106]
      simp only [show iadd .i64 3 1 = 4 from rfl, show ilt 4 4 = false from rfl, ends_ite, ends_ret]
      exact ⟨fun h => (by cases h), fun _ => rfl⟩
    | [], e => simp at e
    | [_], e => simp at e
    | [_, _], e => simp at e
    | [_, _, _], e => simp at e
theorem pre106_ok {b : List Int} {w : Int} (hw : w = 1 ∨ w = 4) (hl : b.length ≤ 1000) : pre106 (b, w) := ⟨_, num106_ends hw hl⟩
theorem fn106_ok {b : List Int} {w : Int} (hw : w = 1 ∨ w = 4) (hl : b.length ≤ 1000) : fn106 (b, w) = cond (ilt b.length w) (0, false) (dispV w (b.take w.toNat), true) := endVal_eq (num106_ends hw hl)
end
end Go.Eng.RD
end
