/- A part of the proof that the laws of this seat hold. Conditions: none beyond the row. -/
import Derived.Test.YtohejjhnnghieaaDoorFns0
set_option linter.unusedVariables false
set_option linter.unusedSimpArgs false
set_option linter.unusedSectionVars false
section
/- Functions of this program, written out. -/
namespace Go.Eng.RU
open Go.Proofs Go.Eng
set_option maxRecDepth 100000

/-! ### sundial/facts.Of -/
inductive J7 where
  | h0
  | h1
  | h2
  | h3
  | h4
  | h5
  | h6
  | h7
  | h8
  | h9
  | h10
  | h11
  | h12
  | h13
  | h14
  | h15
  | h16
  | h17
  | h18
  | h19
  | h20
  | h21
  | h22
  | h23 (v48 : Int) (v49 : Int)
  | h24 (v48 : Nat) (v49 : Nat) (v50 : Int) (v51 : Int) (v55 : (List Int)) (v56 : (List Int))
  | h25 (v48 : Nat) (v49 : Nat) (v50 : Int) (v51 : Int) (v52 : Int) (v53 : Int) (v55 : (List Int)) (v56 : (List Int))
  | h26 (v48 : Nat) (v49 : Int) (v50 : Int) (v54 : (List Int))
  | h27 (v47 : Int) (v48 : Nat) (v49 : Nat) (v50 : Nat) (v51 : Int) (v52 : Int) (v53 : Int) (v54 : Int) (v56 : (List Int)) (v57 : (List Int)) (v58 : (List Int))
  | h28 (v49 : Int) (v50 : Int) (v54 : (List Int))
  | h29 (v48 : (List Int)) (v55 : (List Int))
  | h30 (v48 : (List Int))
noncomputable def tree7 (x : DInsn) : Tr (J7 ⊕ DFacts) :=
  .need (pre15 ()) <|
  .ite (ieq x.1 35) (
  .ret (.inl (.h0))) (
  .ite (ieq x.1 1) (
  .ret (.inl (.h1))) (
  .ite (ieq x.1 2) (
  .ret (.inl (.h2))) (
  .ite (ieq x.1 3) (
  .ret (.inl (.h3))) (
  .ite (ieq x.1 4) (
  .ret (.inl (.h3))) (
  .ite (ieq x.1 7) (
  .ret (.inl (.h3))) (
  .ite (ieq x.1 8) (
  .ret (.inl (.h3))) (
  .ite (ieq x.1 9) (
  .ret (.inl (.h3))) (
  .ite (ieq x.1 21) (
  .ret (.inl (.h3))) (
  .ite (ieq x.1 5) (
  .ret (.inl (.h4))) (
  .ite (ieq x.1 6) (
  .ret (.inl (.h4))) (
  .ite (ieq x.1 10) (
  .ret (.inl (.h5))) (
  .ite (ieq x.1 11) (
  .ret (.inl (.h5))) (
  .ite (ieq x.1 12) (
  .ret (.inl (.h6))) (
  .ite (ieq x.1 13) (
  .ret (.inl (.h6))) (
  .ite (ieq x.1 14) (
  .ret (.inl (.h7))) (
  .ite (ieq x.1 15) (
  .ret (.inl (.h8))) (
  .ite (ieq x.1 16) (
  .ret (.inl (.h9))) (
  .ite (ieq x.1 17) (
  .ret (.inl (.h9))) (
  .ite (ieq x.1 18) (
  .ret (.inl (.h9))) (
  .ite (ieq x.1 19) (
  .ret (.inl (.h10))) (
  .ite (ieq x.1 20) (
  .ret (.inl (.h10))) (
  .ite (ieq x.1 22) (
  .ret (.inl (.h11))) (
  .ite (ieq x.1 23) (
  .ret (.inl (.h12))) (
  .ite (ieq x.1 24) (
  .ret (.inl (.h13))) (
  .ite (ieq x.1 25) (
  .ret (.inl (.h14))) (
  .ite (ieq x.1 26) (
  .ret (.inl (.h15))) (
  .ite (ieq x.1 27) (
  .ret (.inl (.h16))) (
  .ite (ieq x.1 28) (
  .ret (.inl (.h17))) (
  .ite (ieq x.1 29) (
  .ret (.inl (.h18))) (
  .ite (ieq x.1 30) (
  .ret (.inl (.h19))) (
  .ite (ieq x.1 31) (
  .ret (.inl (.h20))) (
  .ite (ieq x.1 32) (
  .ret (.inl (.h21))) (
  .ite (ieq x.1 33) (
  .ret (.inl (.h21))) (
  .ite (ieq x.1 36) (
  .ret (.inl (.h22))) (
  .ite (ieq x.1 37) (
  .ret (.inl (.h22))) (
  .ite (ieq x.1 38) (
  .ret (.inl (.h22))) (
  .ite (ieq x.1 39) (
  .ret (.inl (.h22))) (
  .ret (.inl (.h23 0 0))))))))))))))))))))))))))))))))))))))))
noncomputable def step7h0 (x : DInsn) : Tr (J7 ⊕ DFacts) :=
  .need ((0 : Nat) < 1) <|
  .need ((0 : Int) ≤ 0) <|
  .need (0 < (1 : Int)) <|
  .need ((0 : Nat) < 1) <|
  let y0 : (Int × (DOperand × (DOperand × (Int × Int)))) := x.2.2
  let y1 : (DOperand × (DOperand × (Int × Int))) := y0.2
  let y2 : DOperand := y1.2.1
  let y3 : Int := y2.1
  .ite (ieq y3 1) (
  .need ((0 : Nat) < 1) <|
  .need (((0 : Nat) + 1 : Nat) ≤ 1) <|
  .need (((1 : Nat) * 8 : Nat) ≤ 2 ^ 40) <|
  .need ((1 : Nat) ≤ 2 ^ 40) <|
  .need ((0 : Nat) < 1) <|
  .need ((0 : Int) ≤ 0) <|
  .need (0 < (1 : Int)) <|
  .need ((0 : Nat) < 1) <|
  let y4 : DOperand := y1.1
  let y5 : Int := y4.1
  let y6 : Bool := (ieq y5 1)
  .ite y6 (
  .need ((0 : Nat) < 1) <|
  .need (((0 : Nat) + 1 : Nat) ≤ 1) <|
  .need (((1 : Nat) * 8 : Nat) ≤ 2 ^ 40) <|
  .need ((1 : Nat) ≤ 2 ^ 40) <|
  let y7 : (List Int) := [y2.2.1]
  let y8 : (List Int) := [y4.2.1]
  .ret (.inl (.h24 1 1 0 0 y7 y8))) (
  let y9 : Bool := (ieq y5 2)
  .ite y9 (
  .need (pre28 y4) <|
  .need ((1 : Nat) = 1) <|
  let y10 : (List Int) := (fn28 y4)
  let y11 : Nat := y10.length
  let y12 : Nat := (1 + y11)
  .need (((y12 : Nat) * 8 : Nat) ≤ 2 ^ 40) <|
  .need ((y12 : Nat) ≤ 2 ^ 40) <|
  .need (pre28 y4) <|
  .need (((y11 : Nat) * 8 : Nat) ≤ 2 ^ 40) <|
  .need ((y11 : Nat) ≤ 2 ^ 40) <|
  let y13 : Int := y0.1
  let y14 : (List Int) := [y2.2.1]
  .ret (.inl (.h25 y12 y11 0 0 0 y13 (y14 ++ y10) y10))) (
  let y15 : (List Int) := [y2.2.1]
  .ret (.inl (.h26 1 0 0 y15))))) (
  .ite (ieq y3 2) (
  .need (pre28 y2) <|
  let y16 : (List Int) := (fn28 y2)
  let y17 : Nat := y16.length
  .need (((y17 : Nat) * 8 : Nat) ≤ 2 ^ 40) <|
  .need ((y17 : Nat) ≤ 2 ^ 40) <|
  .need (pre28 y2) <|
  .need (((y17 : Nat) * 8 : Nat) ≤ 2 ^ 40) <|
  .need ((y17 : Nat) ≤ 2 ^ 40) <|
  .need ((0 : Nat) < 1) <|
  .need ((0 : Int) ≤ 0) <|
  .need (0 < (1 : Int)) <|
  .need ((0 : Nat) < 1) <|
  let y18 : DOperand := y1.1
  let y19 : Int := y18.1
  let y20 : Bool := (ieq y19 1)
  .ite y20 (
  .need ((0 : Nat) < 1) <|
  .need (((0 : Nat) + 1 : Nat) ≤ 1) <|
  .need (((1 : Nat) * 8 : Nat) ≤ 2 ^ 40) <|
  .need ((1 : Nat) ≤ 2 ^ 40) <|
  let y21 : Int := y0.1
  let y22 : (List Int) := [y18.2.1]
  .ret (.inl (.h27 y21 y17 1 y17 0 0 y21 0 y16 y22 y16))) (
  let y23 : Bool := (ieq y19 2)
  .ite y23 (
  .need (pre28 y18) <|
  .need ((y17 : Nat) = y17) <|
  let y24 : (List Int) := (fn28 y18)
  let y25 : Nat := y24.length
  let y26 : Nat := (y17 + y25)
  .need (((y26 : Nat) * 8 : Nat) ≤ 2 ^ 40) <|
  .need ((y26 : Nat) ≤ 2 ^ 40) <|
  .need (pre28 y18) <|
  .need ((y17 : Nat) = y17) <|
  .need (((y26 : Nat) * 8 : Nat) ≤ 2 ^ 40) <|
  .need ((y26 : Nat) ≤ 2 ^ 40) <|
  let y27 : Int := y0.1
  let y28 : (List Int) := (y16 ++ y24)
  .ret (.inl (.h25 y26 y26 0 0 y27 y27 y28 y28))) (
  let y29 : Int := y0.1
  .ret (.inl (.h25 y17 y17 0 0 y29 0 y16 y16))))) (
  .need ((0 : Nat) < 1) <|
  .need ((0 : Int) ≤ 0) <|
  .need (0 < (1 : Int)) <|
  .need ((0 : Nat) < 1) <|
  let y30 : DOperand := y1.1
  let y31 : Int := y30.1
  let y32 : Bool := (ieq y31 1)
  .ite y32 (
  .need ((0 : Nat) < 1) <|
  .need (((0 : Nat) + 1 : Nat) ≤ 1) <|
  .need (((1 : Nat) * 8 : Nat) ≤ 2 ^ 40) <|
  .need ((1 : Nat) ≤ 2 ^ 40) <|
  let y33 : (List Int) := [y30.2.1]
  .ret (.inl (.h28 0 0 y33))) (
  let y34 : Bool := (ieq y31 2)
  .ite y34 (
  .need (pre28 y30) <|
  let y35 : (List Int) := (fn28 y30)
  let y36 : Nat := y35.length
  .need (((y36 : Nat) * 8 : Nat) ≤ 2 ^ 40) <|
  .need ((y36 : Nat) ≤ 2 ^ 40) <|
  .need (pre28 y30) <|
  .need (((y36 : Nat) * 8 : Nat) ≤ 2 ^ 40) <|
  .need ((y36 : Nat) ≤ 2 ^ 40) <|
  let y37 : Int := y0.1
  .ret (.inl (.h25 y36 y36 0 0 0 y37 y35 y35))) (
  .ret (.inl (.h23 0 0))))))
noncomputable def step7h1 (x : DInsn) : Tr (J7 ⊕ DFacts) :=
  .need ((0 : Nat) < 1) <|
  .need ((0 : Int) ≤ 0) <|
  .need (0 < (1 : Int)) <|
  .need ((0 : Nat) < 1) <|
  let y0 : (Int × (DOperand × (DOperand × (Int × Int)))) := x.2.2
  let y1 : (DOperand × (DOperand × (Int × Int))) := y0.2
  let y2 : DOperand := y1.2.1
  let y3 : Int := y2.1
  .ite (ieq y3 1) (
  .need ((0 : Nat) < 1) <|
  .need (((0 : Nat) + 1 : Nat) ≤ 1) <|
  .need (((1 : Nat) * 8 : Nat) ≤ 2 ^ 40) <|
  .need ((1 : Nat) ≤ 2 ^ 40) <|
  .need ((0 : Nat) < 1) <|
  .need ((0 : Int) ≤ 0) <|
  .need (0 < (1 : Int)) <|
  .need ((0 : Nat) < 1) <|
  let y4 : DOperand := y1.1
  let y5 : Int := y4.1
  let y6 : Bool := (ieq y5 1)
  .ite y6 (
  .need ((0 : Nat) < 1) <|
  .need (((0 : Nat) + 1 : Nat) ≤ 1) <|
  .need (((1 : Nat) * 8 : Nat) ≤ 2 ^ 40) <|
  .need ((1 : Nat) ≤ 2 ^ 40) <|
  let y7 : Int := y0.1
  let y8 : Bool := ((ieq y7 1) == true)
  .ite y8 (
  .ite y6 (
  .need ((0 : Nat) < 1) <|
  .need ((0 : Int) ≤ 0) <|
  .need (0 < (1 : Int)) <|
  .need ((0 : Nat) < 1) <|
  .ite y6 (
  .need ((0 : Nat) < 1) <|
  .need (((0 : Nat) + 1 : Nat) ≤ 1) <|
  .need ((1 : Nat) = 1) <|
  .need (((2 : Nat) * 8 : Nat) ≤ 2 ^ 40) <|
  .need ((2 : Nat) ≤ 2 ^ 40) <|
  let y9 : Int := y2.2.1
  let y10 : Int := y4.2.1
  let y11 : (List Int) := [y9, y10]
  let y12 : (List Int) := [y10]
  .ret (.inl (.h24 2 1 0 0 y11 y12))) (
  let y13 : Bool := (ieq y5 2)
  .ite y13 (
  .need (pre28 y4) <|
  .need ((1 : Nat) = 1) <|
  let y14 : (List Int) := (fn28 y4)
  let y15 : Nat := y14.length
  let y16 : Nat := (1 + y15)
  .need (((y16 : Nat) * 8 : Nat) ≤ 2 ^ 40) <|
  .need ((y16 : Nat) ≤ 2 ^ 40) <|
  .need (pre28 y4) <|
  .need (((y15 : Nat) * 8 : Nat) ≤ 2 ^ 40) <|
  .need ((y15 : Nat) ≤ 2 ^ 40) <|
  let y17 : Int := y2.2.1
  let y18 : (List Int) := [y17]
  let y19 : (List Int) := (y18 ++ y14)
  let y20 : Int := y4.2.1
  let y21 : (List Int) := [y20]
  .ret (.inl (.h27 y7 y16 1 y15 0 0 y7 0 y19 y21 y14))) (
  let y22 : Int := y2.2.1
  let y23 : (List Int) := [y22]
  let y24 : Int := y4.2.1
  let y25 : (List Int) := [y24]
  .ret (.inl (.h24 1 1 0 0 y23 y25))))) (
  let y26 : Int := y2.2.1
  let y27 : (List Int) := [y26]
  let y28 : Int := y4.2.1
  let y29 : (List Int) := [y28]
  .ret (.inl (.h24 1 1 0 0 y27 y29)))) (
  let y30 : Int := y2.2.1
  let y31 : (List Int) := [y30]
  let y32 : Int := y4.2.1
  let y33 : (List Int) := [y32]
  .ret (.inl (.h24 1 1 0 0 y31 y33)))) (
  let y34 : Bool := (ieq y5 2)
  .ite y34 (
  .need (pre28 y4) <|
  .need ((1 : Nat) = 1) <|
  let y35 : (List Int) := (fn28 y4)
  let y36 : Nat := y35.length
  let y37 : Nat := (1 + y36)
  .need (((y37 : Nat) * 8 : Nat) ≤ 2 ^ 40) <|
  .need ((y37 : Nat) ≤ 2 ^ 40) <|
  .need (pre28 y4) <|
  .need (((y36 : Nat) * 8 : Nat) ≤ 2 ^ 40) <|
  .need ((y36 : Nat) ≤ 2 ^ 40) <|
  let y38 : Int := y0.1
  let y39 : Bool := ((ieq y38 1) == true)
  .ite y39 (
  .ite y6 (
  .need ((0 : Nat) < 1) <|
  .need ((0 : Int) ≤ 0) <|
  .need (0 < (1 : Int)) <|
  .need ((0 : Nat) < 1) <|
  .ite y6 (
  .need ((0 : Nat) < 1) <|
  .need (((0 : Nat) + 1 : Nat) ≤ 1) <|
  let y40 : Int := y2.2.1
  let y41 : (List Int) := [y40]
  let y42 : (List Int) := (y41 ++ y35)
  .need ((y37 : Nat) = y42.length) <|
  let y43 : Nat := (y37 + 1)
  .need (((y43 : Nat) * 8 : Nat) ≤ 2 ^ 40) <|
  .need ((y43 : Nat) ≤ 2 ^ 40) <|
  let y44 : Int := y4.2.1
  let y45 : (List Int) := [y44]
  .ret (.inl (.h25 y43 y36 0 0 0 y38 (y42 ++ y45) y35))) (
  .ite y34 (
  .need (pre28 y4) <|
  let y46 : Int := y2.2.1
  let y47 : (List Int) := [y46]
  let y48 : (List Int) := (y47 ++ y35)
  .need ((y37 : Nat) = y48.length) <|
  let y49 : Nat := (y37 + y36)
  .need (((y49 : Nat) * 8 : Nat) ≤ 2 ^ 40) <|
  .need ((y49 : Nat) ≤ 2 ^ 40) <|
  .need (pre28 y4) <|
  .need ((y36 : Nat) = y36) <|
  let y50 : Nat := (y36 + y36)
  .need (((y50 : Nat) * 8 : Nat) ≤ 2 ^ 40) <|
  .need ((y50 : Nat) ≤ 2 ^ 40) <|
  let y51 : (List Int) := (y35 ++ y35)
  .ret (.inl (.h25 y49 y50 0 0 y38 y38 (y48 ++ y35) y51))) (
  let y52 : Int := y2.2.1
  let y53 : (List Int) := [y52]
  let y54 : (List Int) := (y53 ++ y35)
  .ret (.inl (.h25 y37 y36 0 0 0 y38 y54 y35))))) (
  let y55 : Int := y2.2.1
  let y56 : (List Int) := [y55]
  let y57 : (List Int) := (y56 ++ y35)
  .ret (.inl (.h25 y37 y36 0 0 0 y38 y57 y35)))) (
  let y58 : Int := y2.2.1
  let y59 : (List Int) := [y58]
  let y60 : (List Int) := (y59 ++ y35)
  .ret (.inl (.h25 y37 y36 0 0 0 y38 y60 y35)))) (
  let y61 : Int := y0.1
  let y62 : Bool := ((ieq y61 1) == true)
  .ite y62 (
  .ite y6 (
  .need ((0 : Nat) < 1) <|
  .need ((0 : Int) ≤ 0) <|
  .need (0 < (1 : Int)) <|
  .need ((0 : Nat) < 1) <|
  .ite y6 (
  .need ((0 : Nat) < 1) <|
  .need (((0 : Nat) + 1 : Nat) ≤ 1) <|
  .need ((1 : Nat) = 1) <|
  .need (((2 : Nat) * 8 : Nat) ≤ 2 ^ 40) <|
  .need ((2 : Nat) ≤ 2 ^ 40) <|
  let y63 : Int := y2.2.1
  let y64 : Int := y4.2.1
  let y65 : (List Int) := [y63, y64]
  .ret (.inl (.h26 2 0 0 y65))) (
  .ite y34 (
  .need (pre28 y4) <|
  .need ((1 : Nat) = 1) <|
  let y66 : (List Int) := (fn28 y4)
  let y67 : Nat := y66.length
  let y68 : Nat := (1 + y67)
  .need (((y68 : Nat) * 8 : Nat) ≤ 2 ^ 40) <|
  .need ((y68 : Nat) ≤ 2 ^ 40) <|
  .need (pre28 y4) <|
  .need (((y67 : Nat) * 8 : Nat) ≤ 2 ^ 40) <|
  .need ((y67 : Nat) ≤ 2 ^ 40) <|
  let y69 : Int := y2.2.1
  let y70 : (List Int) := [y69]
  let y71 : (List Int) := (y70 ++ y66)
  .ret (.inl (.h25 y68 y67 0 0 y61 0 y71 y66))) (
  let y72 : Int := y2.2.1
  let y73 : (List Int) := [y72]
  .ret (.inl (.h26 1 0 0 y73))))) (
  let y74 : Int := y2.2.1
  let y75 : (List Int) := [y74]
  .ret (.inl (.h26 1 0 0 y75)))) (
  let y76 : Int := y2.2.1
  let y77 : (List Int) := [y76]
  .ret (.inl (.h26 1 0 0 y77)))))) (
  .ite (ieq y3 2) (
  .need (pre28 y2) <|
  let y78 : (List Int) := (fn28 y2)
  let y79 : Nat := y78.length
  .need (((y79 : Nat) * 8 : Nat) ≤ 2 ^ 40) <|
  .need ((y79 : Nat) ≤ 2 ^ 40) <|
  .need (pre28 y2) <|
  .need (((y79 : Nat) * 8 : Nat) ≤ 2 ^ 40) <|
  .need ((y79 : Nat) ≤ 2 ^ 40) <|
  .need ((0 : Nat) < 1) <|
  .need ((0 : Int) ≤ 0) <|
  .need (0 < (1 : Int)) <|
  .need ((0 : Nat) < 1) <|
  let y80 : DOperand := y1.1
  let y81 : Int := y80.1
  let y82 : Bool := (ieq y81 1)
  .ite y82 (
  .need ((0 : Nat) < 1) <|
  .need (((0 : Nat) + 1 : Nat) ≤ 1) <|
  .need (((1 : Nat) * 8 : Nat) ≤ 2 ^ 40) <|
  .need ((1 : Nat) ≤ 2 ^ 40) <|
  let y83 : Int := y0.1
  let y84 : Bool := ((ieq y83 1) == true)
  .ite y84 (
  .ite y82 (
  .need ((0 : Nat) < 1) <|
  .need ((0 : Int) ≤ 0) <|
  .need (0 < (1 : Int)) <|
  .need ((0 : Nat) < 1) <|
  .ite y82 (
  .need ((0 : Nat) < 1) <|
  .need (((0 : Nat) + 1 : Nat) ≤ 1) <|
  .need ((y79 : Nat) = y79) <|
  let y85 : Nat := (y79 + 1)
  .need (((y85 : Nat) * 8 : Nat) ≤ 2 ^ 40) <|
  .need ((y85 : Nat) ≤ 2 ^ 40) <|
  let y86 : Int := y80.2.1
  let y87 : (List Int) := [y86]
  let y88 : (List Int) := (y78 ++ y87)
  .ret (.inl (.h27 y83 y85 1 y79 0 0 y83 0 y88 y87 y78))) (
  let y89 : Bool := (ieq y81 2)
  .ite y89 (
  .need (pre28 y80) <|
  .need ((y79 : Nat) = y79) <|
  let y90 : (List Int) := (fn28 y80)
  let y91 : Nat := y90.length
  let y92 : Nat := (y79 + y91)
  .need (((y92 : Nat) * 8 : Nat) ≤ 2 ^ 40) <|
  .need ((y92 : Nat) ≤ 2 ^ 40) <|
  .need (pre28 y80) <|
  .need ((y79 : Nat) = y79) <|
  .need (((y92 : Nat) * 8 : Nat) ≤ 2 ^ 40) <|
  .need ((y92 : Nat) ≤ 2 ^ 40) <|
  let y93 : (List Int) := (y78 ++ y90)
  let y94 : Int := y80.2.1
  let y95 : (List Int) := [y94]
  .ret (.inl (.h27 y83 y92 1 y92 0 0 y83 0 y93 y95 y93))) (
  let y96 : Int := y80.2.1
  let y97 : (List Int) := [y96]
  .ret (.inl (.h27 y83 y79 1 y79 0 0 y83 0 y78 y97 y78))))) (
  let y98 : Int := y80.2.1
  let y99 : (List Int) := [y98]
  .ret (.inl (.h27 y83 y79 1 y79 0 0 y83 0 y78 y99 y78)))) (
  let y100 : Int := y80.2.1
  let y101 : (List Int) := [y100]
  .ret (.inl (.h27 y83 y79 1 y79 0 0 y83 0 y78 y101 y78)))) (
  let y102 : Bool := (ieq y81 2)
  .ite y102 (
  .need (pre28 y80) <|
  .need ((y79 : Nat) = y79) <|
  let y103 : (List Int) := (fn28 y80)
  let y104 : Nat := y103.length
  let y105 : Nat := (y79 + y104)
  .need (((y105 : Nat) * 8 : Nat) ≤ 2 ^ 40) <|
  .need ((y105 : Nat) ≤ 2 ^ 40) <|
  .need (pre28 y80) <|
  .need ((y79 : Nat) = y79) <|
  .need (((y105 : Nat) * 8 : Nat) ≤ 2 ^ 40) <|
  .need ((y105 : Nat) ≤ 2 ^ 40) <|
  let y106 : Int := y0.1
  let y107 : Bool := ((ieq y106 1) == true)
  .ite y107 (
  .ite y82 (
  .need ((0 : Nat) < 1) <|
  .need ((0 : Int) ≤ 0) <|
  .need (0 < (1 : Int)) <|
  .need ((0 : Nat) < 1) <|
  .ite y82 (
  .need ((0 : Nat) < 1) <|
  .need (((0 : Nat) + 1 : Nat) ≤ 1) <|
  let y108 : (List Int) := (y78 ++ y103)
  .need ((y105 : Nat) = y108.length) <|
  let y109 : Nat := (y105 + 1)
  .need (((y109 : Nat) * 8 : Nat) ≤ 2 ^ 40) <|
  .need ((y109 : Nat) ≤ 2 ^ 40) <|
  let y110 : Int := y80.2.1
  let y111 : (List Int) := [y110]
  .ret (.inl (.h25 y109 y105 0 0 y106 y106 (y108 ++ y111) y108))) (
  .ite y102 (
  .need (pre28 y80) <|
  let y112 : (List Int) := (y78 ++ y103)
  .need ((y105 : Nat) = y112.length) <|
  let y113 : Nat := (y105 + y104)
  .need (((y113 : Nat) * 8 : Nat) ≤ 2 ^ 40) <|
  .need ((y113 : Nat) ≤ 2 ^ 40) <|
  .need (pre28 y80) <|
  .need ((y105 : Nat) = y112.length) <|
  .need (((y113 : Nat) * 8 : Nat) ≤ 2 ^ 40) <|
  .need ((y113 : Nat) ≤ 2 ^ 40) <|
  let y114 : (List Int) := (y112 ++ y103)
  .ret (.inl (.h25 y113 y113 0 0 y106 y106 y114 y114))) (
  let y115 : (List Int) := (y78 ++ y103)
  .ret (.inl (.h25 y105 y105 0 0 y106 y106 y115 y115))))) (
  let y116 : (List Int) := (y78 ++ y103)
  .ret (.inl (.h25 y105 y105 0 0 y106 y106 y116 y116)))) (
  let y117 : (List Int) := (y78 ++ y103)
  .ret (.inl (.h25 y105 y105 0 0 y106 y106 y117 y117)))) (
  let y118 : Int := y0.1
  let y119 : Bool := ((ieq y118 1) == true)
  .ite y119 (
  .ite y82 (
  .need ((0 : Nat) < 1) <|
  .need ((0 : Int) ≤ 0) <|
  .need (0 < (1 : Int)) <|
  .need ((0 : Nat) < 1) <|
  .ite y82 (
  .need ((0 : Nat) < 1) <|
  .need (((0 : Nat) + 1 : Nat) ≤ 1) <|
  .need ((y79 : Nat) = y79) <|
  let y120 : Nat := (y79 + 1)
  .need (((y120 : Nat) * 8 : Nat) ≤ 2 ^ 40) <|
  .need ((y120 : Nat) ≤ 2 ^ 40) <|
  let y121 : Int := y80.2.1
  let y122 : (List Int) := [y121]
  let y123 : (List Int) := (y78 ++ y122)
  .ret (.inl (.h25 y120 y79 0 0 y118 0 y123 y78))) (
  .ite y102 (
  .need (pre28 y80) <|
  .need ((y79 : Nat) = y79) <|
  let y124 : (List Int) := (fn28 y80)
  let y125 : Nat := y124.length
  let y126 : Nat := (y79 + y125)
  .need (((y126 : Nat) * 8 : Nat) ≤ 2 ^ 40) <|
  .need ((y126 : Nat) ≤ 2 ^ 40) <|
  .need (pre28 y80) <|
  .need ((y79 : Nat) = y79) <|
  .need (((y126 : Nat) * 8 : Nat) ≤ 2 ^ 40) <|
  .need ((y126 : Nat) ≤ 2 ^ 40) <|
  let y127 : (List Int) := (y78 ++ y124)
  .ret (.inl (.h25 y126 y126 0 0 y118 0 y127 y127))) (
  .ret (.inl (.h25 y79 y79 0 0 y118 0 y78 y78))))) (
  .ret (.inl (.h25 y79 y79 0 0 y118 0 y78 y78)))) (
  .ret (.inl (.h25 y79 y79 0 0 y118 0 y78 y78)))))) (
  .need ((0 : Nat) < 1) <|
  .need ((0 : Int) ≤ 0) <|
  .need (0 < (1 : Int)) <|
  .need ((0 : Nat) < 1) <|
  let y128 : DOperand := y1.1
  let y129 : Int := y128.1
  let y130 : Bool := (ieq y129 1)
  .ite y130 (
  .need ((0 : Nat) < 1) <|
  .need (((0 : Nat) + 1 : Nat) ≤ 1) <|
  .need (((1 : Nat) * 8 : Nat) ≤ 2 ^ 40) <|
  .need ((1 : Nat) ≤ 2 ^ 40) <|
  let y131 : Int := y0.1
  let y132 : Bool := ((ieq y131 1) == true)
  .ite y132 (
  .ite y130 (
  .need ((0 : Nat) < 1) <|
  .need ((0 : Int) ≤ 0) <|
  .need (0 < (1 : Int)) <|
  .need ((0 : Nat) < 1) <|
  .ite y130 (
  .need ((0 : Nat) < 1) <|
  .need (((0 : Nat) + 1 : Nat) ≤ 1) <|
  .need (((1 : Nat) * 8 : Nat) ≤ 2 ^ 40) <|
  .need ((1 : Nat) ≤ 2 ^ 40) <|
  let y133 : Int := y128.2.1
  let y134 : (List Int) := [y133]
  .ret (.inl (.h24 1 1 0 0 y134 y134))) (
  let y135 : Bool := (ieq y129 2)
  .ite y135 (
  .need (pre28 y128) <|
  let y136 : (List Int) := (fn28 y128)
  let y137 : Nat := y136.length
  .need (((y137 : Nat) * 8 : Nat) ≤ 2 ^ 40) <|
  .need ((y137 : Nat) ≤ 2 ^ 40) <|
  .need (pre28 y128) <|
  .need (((y137 : Nat) * 8 : Nat) ≤ 2 ^ 40) <|
  .need ((y137 : Nat) ≤ 2 ^ 40) <|
  let y138 : Int := y128.2.1
  let y139 : (List Int) := [y138]
  .ret (.inl (.h27 y131 y137 1 y137 0 0 y131 0 y136 y139 y136))) (
  let y140 : Int := y128.2.1
  let y141 : (List Int) := [y140]
  .ret (.inl (.h28 0 0 y141))))) (
  let y142 : Int := y128.2.1
  let y143 : (List Int) := [y142]
  .ret (.inl (.h28 0 0 y143)))) (
  let y144 : Int := y128.2.1
  let y145 : (List Int) := [y144]
  .ret (.inl (.h28 0 0 y145)))) (
  let y146 : Bool := (ieq y129 2)
  .ite y146 (
  .need (pre28 y128) <|
  let y147 : (List Int) := (fn28 y128)
  let y148 : Nat := y147.length
  .need (((y148 : Nat) * 8 : Nat) ≤ 2 ^ 40) <|
  .need ((y148 : Nat) ≤ 2 ^ 40) <|
  .need (pre28 y128) <|
  .need (((y148 : Nat) * 8 : Nat) ≤ 2 ^ 40) <|
  .need ((y148 : Nat) ≤ 2 ^ 40) <|
  let y149 : Int := y0.1
  let y150 : Bool := ((ieq y149 1) == true)
  .ite y150 (
  .ite y130 (
  .need ((0 : Nat) < 1) <|
  .need ((0 : Int) ≤ 0) <|
  .need (0 < (1 : Int)) <|
  .need ((0 : Nat) < 1) <|
  .ite y130 (
  .need ((0 : Nat) < 1) <|
  .need (((0 : Nat) + 1 : Nat) ≤ 1) <|
  .need ((y148 : Nat) = y148) <|
  let y151 : Nat := (y148 + 1)
  .need (((y151 : Nat) * 8 : Nat) ≤ 2 ^ 40) <|
  .need ((y151 : Nat) ≤ 2 ^ 40) <|
  let y152 : Int := y128.2.1
  let y153 : (List Int) := [y152]
  .ret (.inl (.h25 y151 y148 0 0 0 y149 (y147 ++ y153) y147))) (
  .ite y146 (
  .need (pre28 y128) <|
  .need ((y148 : Nat) = y148) <|
  let y154 : Nat := (y148 + y148)
  .need (((y154 : Nat) * 8 : Nat) ≤ 2 ^ 40) <|
  .need ((y154 : Nat) ≤ 2 ^ 40) <|
  .need (pre28 y128) <|
  .need ((y148 : Nat) = y148) <|
  .need (((y154 : Nat) * 8 : Nat) ≤ 2 ^ 40) <|
  .need ((y154 : Nat) ≤ 2 ^ 40) <|
  let y155 : (List Int) := (y147 ++ y147)
  .ret (.inl (.h25 y154 y154 0 0 y149 y149 y155 y155))) (
  .ret (.inl (.h25 y148 y148 0 0 0 y149 y147 y147))))) (
  .ret (.inl (.h25 y148 y148 0 0 0 y149 y147 y147)))) (
  .ret (.inl (.h25 y148 y148 0 0 0 y149 y147 y147)))) (
  let y156 : Int := y0.1
  let y157 : Bool := ((ieq y156 1) == true)
  .ite y157 (
  .ite y130 (
  .need ((0 : Nat) < 1) <|
  .need ((0 : Int) ≤ 0) <|
  .need (0 < (1 : Int)) <|
  .need ((0 : Nat) < 1) <|
  .ite y130 (
  .need ((0 : Nat) < 1) <|
  .need (((0 : Nat) + 1 : Nat) ≤ 1) <|
  .need (((1 : Nat) * 8 : Nat) ≤ 2 ^ 40) <|
  .need ((1 : Nat) ≤ 2 ^ 40) <|
  let y158 : Int := y128.2.1
  let y159 : (List Int) := [y158]
  .ret (.inl (.h26 1 0 0 y159))) (
  .ite y146 (
  .need (pre28 y128) <|
  let y160 : (List Int) := (fn28 y128)
  let y161 : Nat := y160.length
  .need (((y161 : Nat) * 8 : Nat) ≤ 2 ^ 40) <|
  .need ((y161 : Nat) ≤ 2 ^ 40) <|
  .need (pre28 y128) <|
  .need (((y161 : Nat) * 8 : Nat) ≤ 2 ^ 40) <|
  .need ((y161 : Nat) ≤ 2 ^ 40) <|
  .ret (.inl (.h25 y161 y161 0 0 y156 0 y160 y160))) (
  .ret (.inl (.h23 0 0))))) (
  .ret (.inl (.h23 0 0)))) (
  .ret (.inl (.h23 0 0)))))))
noncomputable def step7h2 (x : DInsn) : Tr (J7 ⊕ DFacts) :=
  let y0 : (DOperand × (DOperand × (Int × Int))) := x.2.2.2
  let y1 : DOperand := y0.2.1
  .need (pre28 y1) <|
  let y2 : DOperand := y0.1
  let y3 : Int := y2.1
  let y4 : Bool := (ieq y3 1)
  .ite y4 (
  .need ((0 : Nat) < 1) <|
  .need ((0 : Int) ≤ 0) <|
  .need (0 < (1 : Int)) <|
  .need ((0 : Nat) < 1) <|
  .ite y4 (
  .need ((0 : Nat) < 1) <|
  .need (((0 : Nat) + 1 : Nat) ≤ 1) <|
  .need (((1 : Nat) * 8 : Nat) ≤ 2 ^ 40) <|
  .need ((1 : Nat) ≤ 2 ^ 40) <|
  let y5 : (List Int) := (fn28 y1)
  .ret (.inl (.h29 y5 [y2.2.1]))) (
  .ite (ieq y3 2) (
  .need (pre28 y2) <|
  .fail (.inr (TC.dflt CFacts))) (
  let y6 : (List Int) := (fn28 y1)
  .ret (.inl (.h30 y6))))) (
  let y7 : (List Int) := (fn28 y1)
  .ret (.inl (.h30 y7)))
noncomputable def step7h3 (x : DInsn) : Tr (J7 ⊕ DFacts) :=
  .need (pre9 x) <|
  .ite (!(fn9 x)) (
  .need ((0 : Nat) < 2) <|
  .need ((1 : Nat) < 2) <|
  .need ((0 : Int) ≤ 0) <|
  .need (0 < (2 : Int)) <|
  .need ((0 : Nat) < 2) <|
  let y0 : (Int × (DOperand × (DOperand × (Int × Int)))) := x.2.2
  let y1 : (DOperand × (DOperand × (Int × Int))) := y0.2
  let y2 : DOperand := y1.1
  let y3 : Int := y2.1
  let y4 : Bool := (ieq y3 1)
  .ite y4 (
  .need ((0 : Nat) < 1) <|
  .need (((0 : Nat) + 1 : Nat) ≤ 1) <|
  .need (((1 : Nat) * 8 : Nat) ≤ 2 ^ 40) <|
  .need ((1 : Nat) ≤ 2 ^ 40) <|
  .need ((0 : Int) ≤ 1) <|
  .need (1 < (2 : Int)) <|
  .need ((1 : Nat) < 2) <|
  let y5 : DOperand := y1.2.1
  let y6 : Int := y5.1
  let y7 : Bool := (ieq y6 1)
  .ite y7 (
  .need ((0 : Nat) < 1) <|
  .need (((0 : Nat) + 1 : Nat) ≤ 1) <|
  .need ((1 : Nat) = 1) <|
  .need (((2 : Nat) * 8 : Nat) ≤ 2 ^ 40) <|
  .need ((2 : Nat) ≤ 2 ^ 40) <|
  .need ((0 : Nat) < 1) <|
  .need ((0 : Int) ≤ 0) <|
  .need (0 < (1 : Int)) <|
  .need ((0 : Nat) < 1) <|
  .ite y4 (
  .need ((0 : Nat) < 1) <|
  .need (((0 : Nat) + 1 : Nat) ≤ 1) <|
  .need (((1 : Nat) * 8 : Nat) ≤ 2 ^ 40) <|
  .need ((1 : Nat) ≤ 2 ^ 40) <|
  let y8 : Int := y2.2.1
  let y9 : Int := y5.2.1
  let y10 : (List Int) := [y8, y9]
  let y11 : (List Int) := [y8]
  .ret (.inl (.h24 2 1 0 31 y10 y11))) (
  let y12 : Bool := (ieq y3 2)
  .ite y12 (
  .need (pre28 y2) <|
  .need ((2 : Nat) = 2) <|
  let y13 : (List Int) := (fn28 y2)
  let y14 : Nat := y13.length
  let y15 : Nat := (2 + y14)
  .need (((y15 : Nat) * 8 : Nat) ≤ 2 ^ 40) <|
  .need ((y15 : Nat) ≤ 2 ^ 40) <|
  .need (pre28 y2) <|
  .need (((y14 : Nat) * 8 : Nat) ≤ 2 ^ 40) <|
  .need ((y14 : Nat) ≤ 2 ^ 40) <|
  let y16 : Int := y0.1
  let y17 : Int := y2.2.1
  let y18 : Int := y5.2.1
  let y19 : (List Int) := [y17, y18]
  .ret (.inl (.h25 y15 y14 0 31 0 y16 (y19 ++ y13) y13))) (
  let y20 : Int := y2.2.1
  let y21 : Int := y5.2.1
  let y22 : (List Int) := [y20, y21]
  .ret (.inl (.h26 2 0 31 y22))))) (
  let y23 : Bool := (ieq y6 2)
  .ite y23 (
  .need (pre28 y5) <|
  .need ((1 : Nat) = 1) <|
  let y24 : (List Int) := (fn28 y5)
  let y25 : Nat := y24.length
  let y26 : Nat := (1 + y25)
  .need (((y26 : Nat) * 8 : Nat) ≤ 2 ^ 40) <|
  .need ((y26 : Nat) ≤ 2 ^ 40) <|
  .need (pre28 y5) <|
  .need (((y25 : Nat) * 8 : Nat) ≤ 2 ^ 40) <|
  .need ((y25 : Nat) ≤ 2 ^ 40) <|
  .need ((0 : Nat) < 1) <|
  .need ((0 : Int) ≤ 0) <|
  .need (0 < (1 : Int)) <|
  .need ((0 : Nat) < 1) <|
  .ite y4 (
  .need ((0 : Nat) < 1) <|
  .need (((0 : Nat) + 1 : Nat) ≤ 1) <|
  .need (((1 : Nat) * 8 : Nat) ≤ 2 ^ 40) <|
  .need ((1 : Nat) ≤ 2 ^ 40) <|
  let y27 : Int := y0.1
  let y28 : Int := y2.2.1
  let y29 : (List Int) := [y28]
  let y30 : (List Int) := (y29 ++ y24)
  .ret (.inl (.h27 y27 y26 1 y25 0 31 y27 0 y30 y29 y24))) (
  let y31 : Bool := (ieq y3 2)
  .ite y31 (
  .need (pre28 y2) <|
  let y32 : Int := y2.2.1
  let y33 : (List Int) := [y32]
  let y34 : (List Int) := (y33 ++ y24)
  .need ((y26 : Nat) = y34.length) <|
  let y35 : (List Int) := (fn28 y2)
  let y36 : Nat := y35.length
  let y37 : Nat := (y26 + y36)
  .need (((y37 : Nat) * 8 : Nat) ≤ 2 ^ 40) <|
  .need ((y37 : Nat) ≤ 2 ^ 40) <|
  .need (pre28 y2) <|
  .need ((y25 : Nat) = y25) <|
  let y38 : Nat := (y25 + y36)
  .need (((y38 : Nat) * 8 : Nat) ≤ 2 ^ 40) <|
  .need ((y38 : Nat) ≤ 2 ^ 40) <|
  let y39 : Int := y0.1
  let y40 : (List Int) := (y24 ++ y35)
  .ret (.inl (.h25 y37 y38 0 31 y39 y39 (y34 ++ y35) y40))) (
  let y41 : Int := y0.1
  let y42 : Int := y2.2.1
  let y43 : (List Int) := [y42]
  let y44 : (List Int) := (y43 ++ y24)
  .ret (.inl (.h25 y26 y25 0 31 y41 0 y44 y24))))) (
  .need ((0 : Nat) < 1) <|
  .need ((0 : Int) ≤ 0) <|
  .need (0 < (1 : Int)) <|
  .need ((0 : Nat) < 1) <|
  .ite y4 (
  .need ((0 : Nat) < 1) <|
  .need (((0 : Nat) + 1 : Nat) ≤ 1) <|
  .need (((1 : Nat) * 8 : Nat) ≤ 2 ^ 40) <|
  .need ((1 : Nat) ≤ 2 ^ 40) <|
  let y45 : Int := y2.2.1
  let y46 : (List Int) := [y45]
  .ret (.inl (.h24 1 1 0 31 y46 y46))) (
  let y47 : Bool := (ieq y3 2)
  .ite y47 (
  .need (pre28 y2) <|
  .need ((1 : Nat) = 1) <|
  let y48 : (List Int) := (fn28 y2)
  let y49 : Nat := y48.length
  let y50 : Nat := (1 + y49)
  .need (((y50 : Nat) * 8 : Nat) ≤ 2 ^ 40) <|
  .need ((y50 : Nat) ≤ 2 ^ 40) <|
  .need (pre28 y2) <|
  .need (((y49 : Nat) * 8 : Nat) ≤ 2 ^ 40) <|
  .need ((y49 : Nat) ≤ 2 ^ 40) <|
  let y51 : Int := y0.1
  let y52 : Int := y2.2.1
  let y53 : (List Int) := [y52]
  .ret (.inl (.h25 y50 y49 0 31 0 y51 (y53 ++ y48) y48))) (
  let y54 : Int := y2.2.1
  let y55 : (List Int) := [y54]
  .ret (.inl (.h26 1 0 31 y55))))))) (
  let y56 : Bool := (ieq y3 2)
  .ite y56 (
  .need (pre28 y2) <|
  let y57 : (List Int) := (fn28 y2)
  let y58 : Nat := y57.length
  .need (((y58 : Nat) * 8 : Nat) ≤ 2 ^ 40) <|
  .need ((y58 : Nat) ≤ 2 ^ 40) <|
  .need (pre28 y2) <|
  .need (((y58 : Nat) * 8 : Nat) ≤ 2 ^ 40) <|
  .need ((y58 : Nat) ≤ 2 ^ 40) <|
  .need ((0 : Int) ≤ 1) <|
  .need (1 < (2 : Int)) <|
  .need ((1 : Nat) < 2) <|
  let y59 : DOperand := y1.2.1
  let y60 : Int := y59.1
  let y61 : Bool := (ieq y60 1)
  .ite y61 (
  .need ((0 : Nat) < 1) <|
  .need (((0 : Nat) + 1 : Nat) ≤ 1) <|
  .need ((y58 : Nat) = y58) <|
  let y62 : Nat := (y58 + 1)
  .need (((y62 : Nat) * 8 : Nat) ≤ 2 ^ 40) <|
  .need ((y62 : Nat) ≤ 2 ^ 40) <|
  .need ((0 : Nat) < 1) <|
  .need ((0 : Int) ≤ 0) <|
  .need (0 < (1 : Int)) <|
  .need ((0 : Nat) < 1) <|
  .ite y4 (
  .need ((0 : Nat) < 1) <|
  .need (((0 : Nat) + 1 : Nat) ≤ 1) <|
  .need (((1 : Nat) * 8 : Nat) ≤ 2 ^ 40) <|
  .need ((1 : Nat) ≤ 2 ^ 40) <|
  let y63 : Int := y0.1
  let y64 : Int := y59.2.1
  let y65 : (List Int) := [y64]
  let y66 : (List Int) := (y57 ++ y65)
  let y67 : Int := y2.2.1
  let y68 : (List Int) := [y67]
  .ret (.inl (.h27 y63 y62 1 y58 0 31 y63 0 y66 y68 y57))) (
  .ite y56 (
  .need (pre28 y2) <|
  let y69 : Int := y59.2.1
  let y70 : (List Int) := [y69]
  let y71 : (List Int) := (y57 ++ y70)
  .need ((y62 : Nat) = y71.length) <|
  let y72 : Nat := (y62 + y58)
  .need (((y72 : Nat) * 8 : Nat) ≤ 2 ^ 40) <|
  .need ((y72 : Nat) ≤ 2 ^ 40) <|
  .need (pre28 y2) <|
  .need ((y58 : Nat) = y58) <|
  let y73 : Nat := (y58 + y58)
  .need (((y73 : Nat) * 8 : Nat) ≤ 2 ^ 40) <|
  .need ((y73 : Nat) ≤ 2 ^ 40) <|
  let y74 : Int := y0.1
  let y75 : (List Int) := (y57 ++ y57)
  .ret (.inl (.h25 y72 y73 0 31 y74 y74 (y71 ++ y57) y75))) (
  let y76 : Int := y0.1
  let y77 : Int := y59.2.1
  let y78 : (List Int) := [y77]
  let y79 : (List Int) := (y57 ++ y78)
  .ret (.inl (.h25 y62 y58 0 31 y76 0 y79 y57))))) (
  let y80 : Bool := (ieq y60 2)
  .ite y80 (
  .need (pre28 y59) <|
  .need ((y58 : Nat) = y58) <|
  let y81 : (List Int) := (fn28 y59)
  let y82 : Nat := y81.length
  let y83 : Nat := (y58 + y82)
  .need (((y83 : Nat) * 8 : Nat) ≤ 2 ^ 40) <|
  .need ((y83 : Nat) ≤ 2 ^ 40) <|
  .need (pre28 y59) <|
  .need ((y58 : Nat) = y58) <|
  .need (((y83 : Nat) * 8 : Nat) ≤ 2 ^ 40) <|
  .need ((y83 : Nat) ≤ 2 ^ 40) <|
  .need ((0 : Nat) < 1) <|
  .need ((0 : Int) ≤ 0) <|
  .need (0 < (1 : Int)) <|
  .need ((0 : Nat) < 1) <|
  .ite y4 (
  .need ((0 : Nat) < 1) <|
  .need (((0 : Nat) + 1 : Nat) ≤ 1) <|
  .need (((1 : Nat) * 8 : Nat) ≤ 2 ^ 40) <|
  .need ((1 : Nat) ≤ 2 ^ 40) <|
  let y84 : Int := y0.1
  let y85 : (List Int) := (y57 ++ y81)
  let y86 : Int := y2.2.1
  let y87 : (List Int) := [y86]
  .ret (.inl (.h27 y84 y83 1 y83 0 31 y84 0 y85 y87 y85))) (
  .ite y56 (
  .need (pre28 y2) <|
  let y88 : (List Int) := (y57 ++ y81)
  .need ((y83 : Nat) = y88.length) <|
  let y89 : Nat := (y83 + y58)
  .need (((y89 : Nat) * 8 : Nat) ≤ 2 ^ 40) <|
  .need ((y89 : Nat) ≤ 2 ^ 40) <|
  .need (pre28 y2) <|
  .need ((y83 : Nat) = y88.length) <|
  .need (((y89 : Nat) * 8 : Nat) ≤ 2 ^ 40) <|
  .need ((y89 : Nat) ≤ 2 ^ 40) <|
  let y90 : Int := y0.1
  let y91 : (List Int) := (y88 ++ y57)
  .ret (.inl (.h25 y89 y89 0 31 y90 y90 y91 y91))) (
  let y92 : Int := y0.1
  let y93 : (List Int) := (y57 ++ y81)
  .ret (.inl (.h25 y83 y83 0 31 y92 0 y93 y93))))) (
  .need ((0 : Nat) < 1) <|
  .need ((0 : Int) ≤ 0) <|
  .need (0 < (1 : Int)) <|
  .need ((0 : Nat) < 1) <|
  .ite y4 (
  .need ((0 : Nat) < 1) <|
  .need (((0 : Nat) + 1 : Nat) ≤ 1) <|
  .need (((1 : Nat) * 8 : Nat) ≤ 2 ^ 40) <|
  .need ((1 : Nat) ≤ 2 ^ 40) <|
  let y94 : Int := y0.1
  let y95 : Int := y2.2.1
  let y96 : (List Int) := [y95]
  .ret (.inl (.h27 y94 y58 1 y58 0 31 y94 0 y57 y96 y57))) (
  .ite y56 (
  .need (pre28 y2) <|
  .need ((y58 : Nat) = y58) <|
  let y97 : Nat := (y58 + y58)
  .need (((y97 : Nat) * 8 : Nat) ≤ 2 ^ 40) <|
  .need ((y97 : Nat) ≤ 2 ^ 40) <|
  .need (pre28 y2) <|
  .need ((y58 : Nat) = y58) <|
  .need (((y97 : Nat) * 8 : Nat) ≤ 2 ^ 40) <|
  .need ((y97 : Nat) ≤ 2 ^ 40) <|
  let y98 : Int := y0.1
  let y99 : (List Int) := (y57 ++ y57)
  .ret (.inl (.h25 y97 y97 0 31 y98 y98 y99 y99))) (
  let y100 : Int := y0.1
  .ret (.inl (.h25 y58 y58 0 31 y100 0 y57 y57))))))) (
  .need ((0 : Int) ≤ 1) <|
  .need (1 < (2 : Int)) <|
  .need ((1 : Nat) < 2) <|
  let y101 : DOperand := y1.2.1
  let y102 : Int := y101.1
  let y103 : Bool := (ieq y102 1)
  .ite y103 (
  .need ((0 : Nat) < 1) <|
  .need (((0 : Nat) + 1 : Nat) ≤ 1) <|
  .need (((1 : Nat) * 8 : Nat) ≤ 2 ^ 40) <|
  .need ((1 : Nat) ≤ 2 ^ 40) <|
  .need ((0 : Nat) < 1) <|
  .need ((0 : Int) ≤ 0) <|
  .need (0 < (1 : Int)) <|
  .need ((0 : Nat) < 1) <|
  .ite y4 (
  .need ((0 : Nat) < 1) <|
  .need (((0 : Nat) + 1 : Nat) ≤ 1) <|
  .need (((1 : Nat) * 8 : Nat) ≤ 2 ^ 40) <|
  .need ((1 : Nat) ≤ 2 ^ 40) <|
  let y104 : Int := y101.2.1
  let y105 : (List Int) := [y104]
  let y106 : Int := y2.2.1
  let y107 : (List Int) := [y106]
  .ret (.inl (.h24 1 1 0 31 y105 y107))) (
  .ite y56 (
  .need (pre28 y2) <|
  .need ((1 : Nat) = 1) <|
  let y108 : (List Int) := (fn28 y2)
  let y109 : Nat := y108.length
  let y110 : Nat := (1 + y109)
  .need (((y110 : Nat) * 8 : Nat) ≤ 2 ^ 40) <|
  .need ((y110 : Nat) ≤ 2 ^ 40) <|
  .need (pre28 y2) <|
  .need (((y109 : Nat) * 8 : Nat) ≤ 2 ^ 40) <|
  .need ((y109 : Nat) ≤ 2 ^ 40) <|
  let y111 : Int := y0.1
  let y112 : Int := y101.2.1
  let y113 : (List Int) := [y112]
  .ret (.inl (.h25 y110 y109 0 31 0 y111 (y113 ++ y108) y108))) (
  let y114 : Int := y101.2.1
  let y115 : (List Int) := [y114]
  .ret (.inl (.h26 1 0 31 y115))))) (
  let y116 : Bool := (ieq y102 2)
  .ite y116 (
  .need (pre28 y101) <|
  let y117 : (List Int) := (fn28 y101)
  let y118 : Nat := y117.length
  .need (((y118 : Nat) * 8 : Nat) ≤ 2 ^ 40) <|
  .need ((y118 : Nat) ≤ 2 ^ 40) <|
  .need (pre28 y101) <|
  .need (((y118 : Nat) * 8 : Nat) ≤ 2 ^ 40) <|
  .need ((y118 : Nat) ≤ 2 ^ 40) <|
  .need ((0 : Nat) < 1) <|
  .need ((0 : Int) ≤ 0) <|
  .need (0 < (1 : Int)) <|
  .need ((0 : Nat) < 1) <|
  .ite y4 (
  .need ((0 : Nat) < 1) <|
  .need (((0 : Nat) + 1 : Nat) ≤ 1) <|
  .need (((1 : Nat) * 8 : Nat) ≤ 2 ^ 40) <|
  .need ((1 : Nat) ≤ 2 ^ 40) <|
  let y119 : Int := y0.1
  let y120 : Int := y2.2.1
  let y121 : (List Int) := [y120]
  .ret (.inl (.h27 y119 y118 1 y118 0 31 y119 0 y117 y121 y117))) (
  .ite y56 (
  .need (pre28 y2) <|
  .need ((y118 : Nat) = y118) <|
  let y122 : (List Int) := (fn28 y2)
  let y123 : Nat := y122.length
  let y124 : Nat := (y118 + y123)
  .need (((y124 : Nat) * 8 : Nat) ≤ 2 ^ 40) <|
  .need ((y124 : Nat) ≤ 2 ^ 40) <|
  .need (pre28 y2) <|
  .need ((y118 : Nat) = y118) <|
  .need (((y124 : Nat) * 8 : Nat) ≤ 2 ^ 40) <|
  .need ((y124 : Nat) ≤ 2 ^ 40) <|
  let y125 : Int := y0.1
  let y126 : (List Int) := (y117 ++ y122)
  .ret (.inl (.h25 y124 y124 0 31 y125 y125 y126 y126))) (
  let y127 : Int := y0.1
  .ret (.inl (.h25 y118 y118 0 31 y127 0 y117 y117))))) (
  .need ((0 : Nat) < 1) <|
  .need ((0 : Int) ≤ 0) <|
  .need (0 < (1 : Int)) <|
  .need ((0 : Nat) < 1) <|
  .ite y4 (
  .need ((0 : Nat) < 1) <|
  .need (((0 : Nat) + 1 : Nat) ≤ 1) <|
  .need (((1 : Nat) * 8 : Nat) ≤ 2 ^ 40) <|
  .need ((1 : Nat) ≤ 2 ^ 40) <|
  let y128 : Int := y2.2.1
  let y129 : (List Int) := [y128]
  .ret (.inl (.h28 0 31 y129))) (
  .ite y56 (
  .need (pre28 y2) <|
  let y130 : (List Int) := (fn28 y2)
  let y131 : Nat := y130.length
  .need (((y131 : Nat) * 8 : Nat) ≤ 2 ^ 40) <|
  .need ((y131 : Nat) ≤ 2 ^ 40) <|
  .need (pre28 y2) <|
  .need (((y131 : Nat) * 8 : Nat) ≤ 2 ^ 40) <|
  .need ((y131 : Nat) ≤ 2 ^ 40) <|
  let y132 : Int := y0.1
  .ret (.inl (.h25 y131 y131 0 31 0 y132 y130 y130))) (
  .ret (.inl (.h23 0 31))))))))) (
  .need ((0 : Nat) < 1) <|
  .need ((0 : Int) ≤ 0) <|
  .need (0 < (1 : Int)) <|
  .need ((0 : Nat) < 1) <|
  let y133 : (Int × (DOperand × (DOperand × (Int × Int)))) := x.2.2
  let y134 : (DOperand × (DOperand × (Int × Int))) := y133.2
  let y135 : DOperand := y134.1
  let y136 : Int := y135.1
  let y137 : Bool := (ieq y136 1)
  .ite y137 (
  .need ((0 : Nat) < 1) <|
  .need (((0 : Nat) + 1 : Nat) ≤ 1) <|
  .need (((1 : Nat) * 8 : Nat) ≤ 2 ^ 40) <|
  .need ((1 : Nat) ≤ 2 ^ 40) <|
  let y138 : Int := y135.2.1
  let y139 : (List Int) := [y138]
  .ret (.inl (.h28 0 31 y139))) (
  let y140 : Bool := (ieq y136 2)
  .ite y140 (
  .need (pre28 y135) <|
  let y141 : (List Int) := (fn28 y135)
  let y142 : Nat := y141.length
  .need (((y142 : Nat) * 8 : Nat) ≤ 2 ^ 40) <|
  .need ((y142 : Nat) ≤ 2 ^ 40) <|
  .need (pre28 y135) <|
  .need (((y142 : Nat) * 8 : Nat) ≤ 2 ^ 40) <|
  .need ((y142 : Nat) ≤ 2 ^ 40) <|
  let y143 : Int := y133.1
  .ret (.inl (.h25 y142 y142 0 31 0 y143 y141 y141))) (
  .ret (.inl (.h23 0 31)))))
noncomputable def step7h4 (x : DInsn) : Tr (J7 ⊕ DFacts) :=
  .need (pre9 x) <|
  .ite (!(fn9 x)) (
  .need ((0 : Nat) < 2) <|
  .need ((1 : Nat) < 2) <|
  .need ((0 : Int) ≤ 0) <|
  .need (0 < (2 : Int)) <|
  .need ((0 : Nat) < 2) <|
  let y0 : (Int × (DOperand × (DOperand × (Int × Int)))) := x.2.2
  let y1 : (DOperand × (DOperand × (Int × Int))) := y0.2
  let y2 : DOperand := y1.1
  let y3 : Int := y2.1
  let y4 : Bool := (ieq y3 1)
  .ite y4 (
  .need ((0 : Nat) < 1) <|
  .need (((0 : Nat) + 1 : Nat) ≤ 1) <|
  .need (((1 : Nat) * 8 : Nat) ≤ 2 ^ 40) <|
  .need ((1 : Nat) ≤ 2 ^ 40) <|
  .need ((0 : Int) ≤ 1) <|
  .need (1 < (2 : Int)) <|
  .need ((1 : Nat) < 2) <|
  let y5 : DOperand := y1.2.1
  let y6 : Int := y5.1
  let y7 : Bool := (ieq y6 1)
  .ite y7 (
  .need ((0 : Nat) < 1) <|
  .need (((0 : Nat) + 1 : Nat) ≤ 1) <|
  .need ((1 : Nat) = 1) <|
  .need (((2 : Nat) * 8 : Nat) ≤ 2 ^ 40) <|
  .need ((2 : Nat) ≤ 2 ^ 40) <|
  .need ((0 : Nat) < 1) <|
  .need ((0 : Int) ≤ 0) <|
  .need (0 < (1 : Int)) <|
  .need ((0 : Nat) < 1) <|
  .ite y4 (
  .need ((0 : Nat) < 1) <|
  .need (((0 : Nat) + 1 : Nat) ≤ 1) <|
  .need (((1 : Nat) * 8 : Nat) ≤ 2 ^ 40) <|
  .need ((1 : Nat) ≤ 2 ^ 40) <|
  let y8 : Int := y2.2.1
  let y9 : Int := y5.2.1
  let y10 : (List Int) := [y8, y9]
  let y11 : (List Int) := [y8]
  .ret (.inl (.h24 2 1 1 31 y10 y11))) (
  let y12 : Bool := (ieq y3 2)
  .ite y12 (
  .need (pre28 y2) <|
  .need ((2 : Nat) = 2) <|
  let y13 : (List Int) := (fn28 y2)
  let y14 : Nat := y13.length
  let y15 : Nat := (2 + y14)
  .need (((y15 : Nat) * 8 : Nat) ≤ 2 ^ 40) <|
  .need ((y15 : Nat) ≤ 2 ^ 40) <|
  .need (pre28 y2) <|
  .need (((y14 : Nat) * 8 : Nat) ≤ 2 ^ 40) <|
  .need ((y14 : Nat) ≤ 2 ^ 40) <|
  let y16 : Int := y0.1
  let y17 : Int := y2.2.1
  let y18 : Int := y5.2.1
  let y19 : (List Int) := [y17, y18]
  .ret (.inl (.h25 y15 y14 1 31 0 y16 (y19 ++ y13) y13))) (
  let y20 : Int := y2.2.1
  let y21 : Int := y5.2.1
  let y22 : (List Int) := [y20, y21]
  .ret (.inl (.h26 2 1 31 y22))))) (
  let y23 : Bool := (ieq y6 2)
  .ite y23 (
  .need (pre28 y5) <|
  .need ((1 : Nat) = 1) <|
  let y24 : (List Int) := (fn28 y5)
  let y25 : Nat := y24.length
  let y26 : Nat := (1 + y25)
  .need (((y26 : Nat) * 8 : Nat) ≤ 2 ^ 40) <|
  .need ((y26 : Nat) ≤ 2 ^ 40) <|
  .need (pre28 y5) <|
  .need (((y25 : Nat) * 8 : Nat) ≤ 2 ^ 40) <|
  .need ((y25 : Nat) ≤ 2 ^ 40) <|
  .need ((0 : Nat) < 1) <|
  .need ((0 : Int) ≤ 0) <|
  .need (0 < (1 : Int)) <|
  .need ((0 : Nat) < 1) <|
  .ite y4 (
  .need ((0 : Nat) < 1) <|
  .need (((0 : Nat) + 1 : Nat) ≤ 1) <|
  .need (((1 : Nat) * 8 : Nat) ≤ 2 ^ 40) <|
  .need ((1 : Nat) ≤ 2 ^ 40) <|
  let y27 : Int := y0.1
  let y28 : Int := y2.2.1
  let y29 : (List Int) := [y28]
  let y30 : (List Int) := (y29 ++ y24)
  .ret (.inl (.h27 y27 y26 1 y25 1 31 y27 0 y30 y29 y24))) (
  let y31 : Bool := (ieq y3 2)
  .ite y31 (
  .need (pre28 y2) <|
  let y32 : Int := y2.2.1
  let y33 : (List Int) := [y32]
  let y34 : (List Int) := (y33 ++ y24)
  .need ((y26 : Nat) = y34.length) <|
  let y35 : (List Int) := (fn28 y2)
  let y36 : Nat := y35.length
  let y37 : Nat := (y26 + y36)
  .need (((y37 : Nat) * 8 : Nat) ≤ 2 ^ 40) <|
  .need ((y37 : Nat) ≤ 2 ^ 40) <|
  .need (pre28 y2) <|
  .need ((y25 : Nat) = y25) <|
  let y38 : Nat := (y25 + y36)
  .need (((y38 : Nat) * 8 : Nat) ≤ 2 ^ 40) <|
  .need ((y38 : Nat) ≤ 2 ^ 40) <|
  let y39 : Int := y0.1
  let y40 : (List Int) := (y24 ++ y35)
  .ret (.inl (.h25 y37 y38 1 31 y39 y39 (y34 ++ y35) y40))) (
  let y41 : Int := y0.1
  let y42 : Int := y2.2.1
  let y43 : (List Int) := [y42]
  let y44 : (List Int) := (y43 ++ y24)
  .ret (.inl (.h25 y26 y25 1 31 y41 0 y44 y24))))) (
  .need ((0 : Nat) < 1) <|
  .need ((0 : Int) ≤ 0) <|
  .need (0 < (1 : Int)) <|
  .need ((0 : Nat) < 1) <|
  .ite y4 (
  .need ((0 : Nat) < 1) <|
  .need (((0 : Nat) + 1 : Nat) ≤ 1) <|
  .need (((1 : Nat) * 8 : Nat) ≤ 2 ^ 40) <|
  .need ((1 : Nat) ≤ 2 ^ 40) <|
  let y45 : Int := y2.2.1
  let y46 : (List Int) := [y45]
  .ret (.inl (.h24 1 1 1 31 y46 y46))) (
  let y47 : Bool := (ieq y3 2)
  .ite y47 (
  .need (pre28 y2) <|
  .need ((1 : Nat) = 1) <|
  let y48 : (List Int) := (fn28 y2)
  let y49 : Nat := y48.length
  let y50 : Nat := (1 + y49)
  .need (((y50 : Nat) * 8 : Nat) ≤ 2 ^ 40) <|
  .need ((y50 : Nat) ≤ 2 ^ 40) <|
  .need (pre28 y2) <|
  .need (((y49 : Nat) * 8 : Nat) ≤ 2 ^ 40) <|
  .need ((y49 : Nat) ≤ 2 ^ 40) <|
  let y51 : Int := y0.1
  let y52 : Int := y2.2.1
  let y53 : (List Int) := [y52]
  .ret (.inl (.h25 y50 y49 1 31 0 y51 (y53 ++ y48) y48))) (
  let y54 : Int := y2.2.1
  let y55 : (List Int) := [y54]
  .ret (.inl (.h26 1 1 31 y55))))))) (
  let y56 : Bool := (ieq y3 2)
  .ite y56 (
  .need (pre28 y2) <|
  let y57 : (List Int) := (fn28 y2)
  let y58 : Nat := y57.length
  .need (((y58 : Nat) * 8 : Nat) ≤ 2 ^ 40) <|
  .need ((y58 : Nat) ≤ 2 ^ 40) <|
  .need (pre28 y2) <|
  .need (((y58 : Nat) * 8 : Nat) ≤ 2 ^ 40) <|
  .need ((y58 : Nat) ≤ 2 ^ 40) <|
  .need ((0 : Int) ≤ 1) <|
  .need (1 < (2 : Int)) <|
  .need ((1 : Nat) < 2) <|
  let y59 : DOperand := y1.2.1
  let y60 : Int := y59.1
  let y61 : Bool := (ieq y60 1)
  .ite y61 (
  .need ((0 : Nat) < 1) <|
  .need (((0 : Nat) + 1 : Nat) ≤ 1) <|
  .need ((y58 : Nat) = y58) <|
  let y62 : Nat := (y58 + 1)
  .need (((y62 : Nat) * 8 : Nat) ≤ 2 ^ 40) <|
  .need ((y62 : Nat) ≤ 2 ^ 40) <|
  .need ((0 : Nat) < 1) <|
  .need ((0 : Int) ≤ 0) <|
  .need (0 < (1 : Int)) <|
  .need ((0 : Nat) < 1) <|
  .ite y4 (
  .need ((0 : Nat) < 1) <|
  .need (((0 : Nat) + 1 : Nat) ≤ 1) <|
  .need (((1 : Nat) * 8 : Nat) ≤ 2 ^ 40) <|
  .need ((1 : Nat) ≤ 2 ^ 40) <|
  let y63 : Int := y0.1
  let y64 : Int := y59.2.1
  let y65 : (List Int) := [y64]
  let y66 : (List Int) := (y57 ++ y65)
  let y67 : Int := y2.2.1
  let y68 : (List Int) := [y67]
  .ret (.inl (.h27 y63 y62 1 y58 1 31 y63 0 y66 y68 y57))) (
  .ite y56 (
  .need (pre28 y2) <|
  let y69 : Int := y59.2.1
  let y70 : (List Int) := [y69]
  let y71 : (List Int) := (y57 ++ y70)
  .need ((y62 : Nat) = y71.length) <|
  let y72 : Nat := (y62 + y58)
  .need (((y72 : Nat) * 8 : Nat) ≤ 2 ^ 40) <|
  .need ((y72 : Nat) ≤ 2 ^ 40) <|
  .need (pre28 y2) <|
  .need ((y58 : Nat) = y58) <|
  let y73 : Nat := (y58 + y58)
  .need (((y73 : Nat) * 8 : Nat) ≤ 2 ^ 40) <|
  .need ((y73 : Nat) ≤ 2 ^ 40) <|
  let y74 : Int := y0.1
  let y75 : (List Int) := (y57 ++ y57)
  .ret (.inl (.h25 y72 y73 1 31 y74 y74 (y71 ++ y57) y75))) (
  let y76 : Int := y0.1
  let y77 : Int := y59.2.1
  let y78 : (List Int) := [y77]
  let y79 : (List Int) := (y57 ++ y78)
  .ret (.inl (.h25 y62 y58 1 31 y76 0 y79 y57))))) (
  let y80 : Bool := (ieq y60 2)
  .ite y80 (
  .need (pre28 y59) <|
  .need ((y58 : Nat) = y58) <|
  let y81 : (List Int) := (fn28 y59)
  let y82 : Nat := y81.length
  let y83 : Nat := (y58 + y82)
  .need (((y83 : Nat) * 8 : Nat) ≤ 2 ^ 40) <|
  .need ((y83 : Nat) ≤ 2 ^ 40) <|
  .need (pre28 y59) <|
  .need ((y58 : Nat) = y58) <|
  .need (((y83 : Nat) * 8 : Nat) ≤ 2 ^ 40) <|
  .need ((y83 : Nat) ≤ 2 ^ 40) <|
  .need ((0 : Nat) < 1) <|
  .need ((0 : Int) ≤ 0) <|
  .need (0 < (1 : Int)) <|
  .need ((0 : Nat) < 1) <|
  .ite y4 (
  .need ((0 : Nat) < 1) <|
  .need (((0 : Nat) + 1 : Nat) ≤ 1) <|
  .need (((1 : Nat) * 8 : Nat) ≤ 2 ^ 40) <|
  .need ((1 : Nat) ≤ 2 ^ 40) <|
  let y84 : Int := y0.1
  let y85 : (List Int) := (y57 ++ y81)
  let y86 : Int := y2.2.1
  let y87 : (List Int) := [y86]
  .ret (.inl (.h27 y84 y83 1 y83 1 31 y84 0 y85 y87 y85))) (
  .ite y56 (
  .need (pre28 y2) <|
  let y88 : (List Int) := (y57 ++ y81)
  .need ((y83 : Nat) = y88.length) <|
  let y89 : Nat := (y83 + y58)
  .need (((y89 : Nat) * 8 : Nat) ≤ 2 ^ 40) <|
  .need ((y89 : Nat) ≤ 2 ^ 40) <|
  .need (pre28 y2) <|
  .need ((y83 : Nat) = y88.length) <|
  .need (((y89 : Nat) * 8 : Nat) ≤ 2 ^ 40) <|
  .need ((y89 : Nat) ≤ 2 ^ 40) <|
  let y90 : Int := y0.1
  let y91 : (List Int) := (y88 ++ y57)
  .ret (.inl (.h25 y89 y89 1 31 y90 y90 y91 y91))) (
  let y92 : Int := y0.1
  let y93 : (List Int) := (y57 ++ y81)
  .ret (.inl (.h25 y83 y83 1 31 y92 0 y93 y93))))) (
  .need ((0 : Nat) < 1) <|
  .need ((0 : Int) ≤ 0) <|
  .need (0 < (1 : Int)) <|
  .need ((0 : Nat) < 1) <|
  .ite y4 (
  .need ((0 : Nat) < 1) <|
  .need (((0 : Nat) + 1 : Nat) ≤ 1) <|
  .need (((1 : Nat) * 8 : Nat) ≤ 2 ^ 40) <|
  .need ((1 : Nat) ≤ 2 ^ 40) <|
  let y94 : Int := y0.1
  let y95 : Int := y2.2.1
  let y96 : (List Int) := [y95]
  .ret (.inl (.h27 y94 y58 1 y58 1 31 y94 0 y57 y96 y57))) (
  .ite y56 (
  .need (pre28 y2) <|
  .need ((y58 : Nat) = y58) <|
  let y97 : Nat := (y58 + y58)
  .need (((y97 : Nat) * 8 : Nat) ≤ 2 ^ 40) <|
  .need ((y97 : Nat) ≤ 2 ^ 40) <|
  .need (pre28 y2) <|
  .need ((y58 : Nat) = y58) <|
  .need (((y97 : Nat) * 8 : Nat) ≤ 2 ^ 40) <|
  .need ((y97 : Nat) ≤ 2 ^ 40) <|
  let y98 : Int := y0.1
  let y99 : (List Int) := (y57 ++ y57)
  .ret (.inl (.h25 y97 y97 1 31 y98 y98 y99 y99))) (
  let y100 : Int := y0.1
  .ret (.inl (.h25 y58 y58 1 31 y100 0 y57 y57))))))) (
  .need ((0 : Int) ≤ 1) <|
  .need (1 < (2 : Int)) <|
  .need ((1 : Nat) < 2) <|
  let y101 : DOperand := y1.2.1
  let y102 : Int := y101.1
  let y103 : Bool := (ieq y102 1)
  .ite y103 (
  .need ((0 : Nat) < 1) <|
  .need (((0 : Nat) + 1 : Nat) ≤ 1) <|
  .need (((1 : Nat) * 8 : Nat) ≤ 2 ^ 40) <|
  .need ((1 : Nat) ≤ 2 ^ 40) <|
  .need ((0 : Nat) < 1) <|
  .need ((0 : Int) ≤ 0) <|
  .need (0 < (1 : Int)) <|
  .need ((0 : Nat) < 1) <|
  .ite y4 (
  .need ((0 : Nat) < 1) <|
  .need (((0 : Nat) + 1 : Nat) ≤ 1) <|
  .need (((1 : Nat) * 8 : Nat) ≤ 2 ^ 40) <|
  .need ((1 : Nat) ≤ 2 ^ 40) <|
  let y104 : Int := y101.2.1
  let y105 : (List Int) := [y104]
  let y106 : Int := y2.2.1
  let y107 : (List Int) := [y106]
  .ret (.inl (.h24 1 1 1 31 y105 y107))) (
  .ite y56 (
  .need (pre28 y2) <|
  .need ((1 : Nat) = 1) <|
  let y108 : (List Int) := (fn28 y2)
  let y109 : Nat := y108.length
  let y110 : Nat := (1 + y109)
  .need (((y110 : Nat) * 8 : Nat) ≤ 2 ^ 40) <|
  .need ((y110 : Nat) ≤ 2 ^ 40) <|
  .need (pre28 y2) <|
  .need (((y109 : Nat) * 8 : Nat) ≤ 2 ^ 40) <|
  .need ((y109 : Nat) ≤ 2 ^ 40) <|
  let y111 : Int := y0.1
  let y112 : Int := y101.2.1
  let y113 : (List Int) := [y112]
  .ret (.inl (.h25 y110 y109 1 31 0 y111 (y113 ++ y108) y108))) (
  let y114 : Int := y101.2.1
  let y115 : (List Int) := [y114]
  .ret (.inl (.h26 1 1 31 y115))))) (
  let y116 : Bool := (ieq y102 2)
  .ite y116 (
  .need (pre28 y101) <|
  let y117 : (List Int) := (fn28 y101)
  let y118 : Nat := y117.length
  .need (((y118 : Nat) * 8 : Nat) ≤ 2 ^ 40) <|
  .need ((y118 : Nat) ≤ 2 ^ 40) <|
  .need (pre28 y101) <|
  .need (((y118 : Nat) * 8 : Nat) ≤ 2 ^ 40) <|
  .need ((y118 : Nat) ≤ 2 ^ 40) <|
  .need ((0 : Nat) < 1) <|
  .need ((0 : Int) ≤ 0) <|
  .need (0 < (1 : Int)) <|
  .need ((0 : Nat) < 1) <|
  .ite y4 (
  .need ((0 : Nat) < 1) <|
  .need (((0 : Nat) + 1 : Nat) ≤ 1) <|
  .need (((1 : Nat) * 8 : Nat) ≤ 2 ^ 40) <|
  .need ((1 : Nat) ≤ 2 ^ 40) <|
  let y119 : Int := y0.1
  let y120 : Int := y2.2.1
  let y121 : (List Int) := [y120]
  .ret (.inl (.h27 y119 y118 1 y118 1 31 y119 0 y117 y121 y117))) (
  .ite y56 (
  .need (pre28 y2) <|
  .need ((y118 : Nat) = y118) <|
  let y122 : (List Int) := (fn28 y2)
  let y123 : Nat := y122.length
  let y124 : Nat := (y118 + y123)
  .need (((y124 : Nat) * 8 : Nat) ≤ 2 ^ 40) <|
  .need ((y124 : Nat) ≤ 2 ^ 40) <|
  .need (pre28 y2) <|
  .need ((y118 : Nat) = y118) <|
  .need (((y124 : Nat) * 8 : Nat) ≤ 2 ^ 40) <|
  .need ((y124 : Nat) ≤ 2 ^ 40) <|
  let y125 : Int := y0.1
  let y126 : (List Int) := (y117 ++ y122)
  .ret (.inl (.h25 y124 y124 1 31 y125 y125 y126 y126))) (
  let y127 : Int := y0.1
  .ret (.inl (.h25 y118 y118 1 31 y127 0 y117 y117))))) (
  .need ((0 : Nat) < 1) <|
  .need ((0 : Int) ≤ 0) <|
  .need (0 < (1 : Int)) <|
  .need ((0 : Nat) < 1) <|
  .ite y4 (
  .need ((0 : Nat) < 1) <|
  .need (((0 : Nat) + 1 : Nat) ≤ 1) <|
  .need (((1 : Nat) * 8 : Nat) ≤ 2 ^ 40) <|
  .need ((1 : Nat) ≤ 2 ^ 40) <|
  let y128 : Int := y2.2.1
  let y129 : (List Int) := [y128]
  .ret (.inl (.h28 1 31 y129))) (
  .ite y56 (
  .need (pre28 y2) <|
  let y130 : (List Int) := (fn28 y2)
  let y131 : Nat := y130.length
  .need (((y131 : Nat) * 8 : Nat) ≤ 2 ^ 40) <|
  .need ((y131 : Nat) ≤ 2 ^ 40) <|
  .need (pre28 y2) <|
  .need (((y131 : Nat) * 8 : Nat) ≤ 2 ^ 40) <|
  .need ((y131 : Nat) ≤ 2 ^ 40) <|
  let y132 : Int := y0.1
  .ret (.inl (.h25 y131 y131 1 31 0 y132 y130 y130))) (
  .ret (.inl (.h23 1 31))))))))) (
  .need ((0 : Nat) < 1) <|
  .need ((0 : Int) ≤ 0) <|
  .need (0 < (1 : Int)) <|
  .need ((0 : Nat) < 1) <|
  let y133 : (Int × (DOperand × (DOperand × (Int × Int)))) := x.2.2
  let y134 : (DOperand × (DOperand × (Int × Int))) := y133.2
  let y135 : DOperand := y134.1
  let y136 : Int := y135.1
  let y137 : Bool := (ieq y136 1)
  .ite y137 (
  .need ((0 : Nat) < 1) <|
  .need (((0 : Nat) + 1 : Nat) ≤ 1) <|
  .need (((1 : Nat) * 8 : Nat) ≤ 2 ^ 40) <|
  .need ((1 : Nat) ≤ 2 ^ 40) <|
  let y138 : Int := y135.2.1
  let y139 : (List Int) := [y138]
  .ret (.inl (.h28 1 31 y139))) (
  let y140 : Bool := (ieq y136 2)
  .ite y140 (
  .need (pre28 y135) <|
  let y141 : (List Int) := (fn28 y135)
  let y142 : Nat := y141.length
  .need (((y142 : Nat) * 8 : Nat) ≤ 2 ^ 40) <|
  .need ((y142 : Nat) ≤ 2 ^ 40) <|
  .need (pre28 y135) <|
  .need (((y142 : Nat) * 8 : Nat) ≤ 2 ^ 40) <|
  .need ((y142 : Nat) ≤ 2 ^ 40) <|
  let y143 : Int := y133.1
  .ret (.inl (.h25 y142 y142 1 31 0 y143 y141 y141))) (
  .ret (.inl (.h23 1 31)))))
noncomputable def step7h5 (x : DInsn) : Tr (J7 ⊕ DFacts) :=
  .need ((0 : Nat) < 2) <|
  .need ((1 : Nat) < 2) <|
  .need ((0 : Int) ≤ 0) <|
  .need (0 < (2 : Int)) <|
  .need ((0 : Nat) < 2) <|
  let y0 : (Int × (DOperand × (DOperand × (Int × Int)))) := x.2.2
  let y1 : (DOperand × (DOperand × (Int × Int))) := y0.2
  let y2 : DOperand := y1.1
  let y3 : Int := y2.1
  .ite (ieq y3 1) (
  .need ((0 : Nat) < 1) <|
  .need (((0 : Nat) + 1 : Nat) ≤ 1) <|
  .need (((1 : Nat) * 8 : Nat) ≤ 2 ^ 40) <|
  .need ((1 : Nat) ≤ 2 ^ 40) <|
  .need ((0 : Int) ≤ 1) <|
  .need (1 < (2 : Int)) <|
  .need ((1 : Nat) < 2) <|
  let y4 : DOperand := y1.2.1
  let y5 : Int := y4.1
  let y6 : Bool := (ieq y5 1)
  .ite y6 (
  .need ((0 : Nat) < 1) <|
  .need (((0 : Nat) + 1 : Nat) ≤ 1) <|
  .need ((1 : Nat) = 1) <|
  .need (((2 : Nat) * 8 : Nat) ≤ 2 ^ 40) <|
  .need ((2 : Nat) ≤ 2 ^ 40) <|
  let y7 : Int := y2.2.1
  let y8 : Int := y4.2.1
  .ret (.inl (.h26 2 0 31 [y7, y8]))) (
  let y9 : Bool := (ieq y5 2)
  .ite y9 (
  .need (pre28 y4) <|
  .need ((1 : Nat) = 1) <|
  let y10 : (List Int) := (fn28 y4)
  let y11 : Nat := y10.length
  let y12 : Nat := (1 + y11)
  .need (((y12 : Nat) * 8 : Nat) ≤ 2 ^ 40) <|
  .need ((y12 : Nat) ≤ 2 ^ 40) <|
  .need (pre28 y4) <|
  .need (((y11 : Nat) * 8 : Nat) ≤ 2 ^ 40) <|
  .need ((y11 : Nat) ≤ 2 ^ 40) <|
  let y13 : Int := y0.1
  let y14 : Int := y2.2.1
  let y15 : (List Int) := [y14]
  .ret (.inl (.h25 y12 y11 0 31 y13 0 (y15 ++ y10) y10))) (
  let y16 : Int := y2.2.1
  let y17 : (List Int) := [y16]
  .ret (.inl (.h26 1 0 31 y17))))) (
  .ite (ieq y3 2) (
  .need (pre28 y2) <|
  let y18 : (List Int) := (fn28 y2)
  let y19 : Nat := y18.length
  .need (((y19 : Nat) * 8 : Nat) ≤ 2 ^ 40) <|
  .need ((y19 : Nat) ≤ 2 ^ 40) <|
  .need (pre28 y2) <|
  .need (((y19 : Nat) * 8 : Nat) ≤ 2 ^ 40) <|
  .need ((y19 : Nat) ≤ 2 ^ 40) <|
  .need ((0 : Int) ≤ 1) <|
  .need (1 < (2 : Int)) <|
  .need ((1 : Nat) < 2) <|
  let y20 : DOperand := y1.2.1
  let y21 : Int := y20.1
  let y22 : Bool := (ieq y21 1)
  .ite y22 (
  .need ((0 : Nat) < 1) <|
  .need (((0 : Nat) + 1 : Nat) ≤ 1) <|
  .need ((y19 : Nat) = y19) <|
  let y23 : Nat := (y19 + 1)
  .need (((y23 : Nat) * 8 : Nat) ≤ 2 ^ 40) <|
  .need ((y23 : Nat) ≤ 2 ^ 40) <|
  let y24 : Int := y0.1
  let y25 : Int := y20.2.1
  let y26 : (List Int) := [y25]
  .ret (.inl (.h25 y23 y19 0 31 y24 0 (y18 ++ y26) y18))) (
  let y27 : Bool := (ieq y21 2)
  .ite y27 (
  .need (pre28 y20) <|
  .need ((y19 : Nat) = y19) <|
  let y28 : (List Int) := (fn28 y20)
  let y29 : Nat := y28.length
  let y30 : Nat := (y19 + y29)
  .need (((y30 : Nat) * 8 : Nat) ≤ 2 ^ 40) <|
  .need ((y30 : Nat) ≤ 2 ^ 40) <|
  .need (pre28 y20) <|
  .need ((y19 : Nat) = y19) <|
  .need (((y30 : Nat) * 8 : Nat) ≤ 2 ^ 40) <|
  .need ((y30 : Nat) ≤ 2 ^ 40) <|
  let y31 : Int := y0.1
  let y32 : (List Int) := (y18 ++ y28)
  .ret (.inl (.h25 y30 y30 0 31 y31 0 y32 y32))) (
  let y33 : Int := y0.1
  .ret (.inl (.h25 y19 y19 0 31 y33 0 y18 y18))))) (
  .need ((0 : Int) ≤ 1) <|
  .need (1 < (2 : Int)) <|
  .need ((1 : Nat) < 2) <|
  let y34 : DOperand := y1.2.1
  let y35 : Int := y34.1
  let y36 : Bool := (ieq y35 1)
  .ite y36 (
  .need ((0 : Nat) < 1) <|
  .need (((0 : Nat) + 1 : Nat) ≤ 1) <|
  .need (((1 : Nat) * 8 : Nat) ≤ 2 ^ 40) <|
  .need ((1 : Nat) ≤ 2 ^ 40) <|
  let y37 : Int := y34.2.1
  let y38 : (List Int) := [y37]
  .ret (.inl (.h26 1 0 31 y38))) (
  let y39 : Bool := (ieq y35 2)
  .ite y39 (
  .need (pre28 y34) <|
  let y40 : (List Int) := (fn28 y34)
  let y41 : Nat := y40.length
  .need (((y41 : Nat) * 8 : Nat) ≤ 2 ^ 40) <|
  .need ((y41 : Nat) ≤ 2 ^ 40) <|
  .need (pre28 y34) <|
  .need (((y41 : Nat) * 8 : Nat) ≤ 2 ^ 40) <|
  .need ((y41 : Nat) ≤ 2 ^ 40) <|
  let y42 : Int := y0.1
  .ret (.inl (.h25 y41 y41 0 31 y42 0 y40 y40))) (
  .ret (.inl (.h23 0 31))))))
noncomputable def step7h6 (x : DInsn) : Tr (J7 ⊕ DFacts) :=
  .need ((0 : Nat) < 1) <|
  .need ((0 : Int) ≤ 0) <|
  .need (0 < (1 : Int)) <|
  .need ((0 : Nat) < 1) <|
  let y0 : (Int × (DOperand × (DOperand × (Int × Int)))) := x.2.2
  let y1 : DOperand := y0.2.1
  let y2 : Int := y1.1
  let y3 : Bool := (ieq y2 1)
  .ite y3 (
  .need ((0 : Nat) < 1) <|
  .need (((0 : Nat) + 1 : Nat) ≤ 1) <|
  .need (((1 : Nat) * 8 : Nat) ≤ 2 ^ 40) <|
  .need ((1 : Nat) ≤ 2 ^ 40) <|
  .need ((0 : Nat) < 1) <|
  .need ((0 : Int) ≤ 0) <|
  .need (0 < (1 : Int)) <|
  .need ((0 : Nat) < 1) <|
  .ite y3 (
  .need ((0 : Nat) < 1) <|
  .need (((0 : Nat) + 1 : Nat) ≤ 1) <|
  .need (((1 : Nat) * 8 : Nat) ≤ 2 ^ 40) <|
  .need ((1 : Nat) ≤ 2 ^ 40) <|
  let y4 : (List Int) := [y1.2.1]
  .ret (.inl (.h24 1 1 0 30 y4 y4))) (
  let y5 : Bool := (ieq y2 2)
  .ite y5 (
  .need (pre28 y1) <|
  .need ((1 : Nat) = 1) <|
  let y6 : (List Int) := (fn28 y1)
  let y7 : Nat := y6.length
  let y8 : Nat := (1 + y7)
  .need (((y8 : Nat) * 8 : Nat) ≤ 2 ^ 40) <|
  .need ((y8 : Nat) ≤ 2 ^ 40) <|
  .need (pre28 y1) <|
  .need (((y7 : Nat) * 8 : Nat) ≤ 2 ^ 40) <|
  .need ((y7 : Nat) ≤ 2 ^ 40) <|
  let y9 : Int := y0.1
  let y10 : (List Int) := [y1.2.1]
  .ret (.inl (.h25 y8 y7 0 30 0 y9 (y10 ++ y6) y6))) (
  let y11 : (List Int) := [y1.2.1]
  .ret (.inl (.h26 1 0 30 y11))))) (
  let y12 : Bool := (ieq y2 2)
  .ite y12 (
  .need (pre28 y1) <|
  let y13 : (List Int) := (fn28 y1)
  let y14 : Nat := y13.length
  .need (((y14 : Nat) * 8 : Nat) ≤ 2 ^ 40) <|
  .need ((y14 : Nat) ≤ 2 ^ 40) <|
  .need (pre28 y1) <|
  .need (((y14 : Nat) * 8 : Nat) ≤ 2 ^ 40) <|
  .need ((y14 : Nat) ≤ 2 ^ 40) <|
  .need ((0 : Nat) < 1) <|
  .need ((0 : Int) ≤ 0) <|
  .need (0 < (1 : Int)) <|
  .need ((0 : Nat) < 1) <|
  .ite y3 (
  .need ((0 : Nat) < 1) <|
  .need (((0 : Nat) + 1 : Nat) ≤ 1) <|
  .need (((1 : Nat) * 8 : Nat) ≤ 2 ^ 40) <|
  .need ((1 : Nat) ≤ 2 ^ 40) <|
  let y15 : Int := y0.1
  let y16 : (List Int) := [y1.2.1]
  .ret (.inl (.h27 y15 y14 1 y14 0 30 y15 0 y13 y16 y13))) (
  .ite y12 (
  .need (pre28 y1) <|
  .need ((y14 : Nat) = y14) <|
  let y17 : Nat := (y14 + y14)
  .need (((y17 : Nat) * 8 : Nat) ≤ 2 ^ 40) <|
  .need ((y17 : Nat) ≤ 2 ^ 40) <|
  .need (pre28 y1) <|
  .need ((y14 : Nat) = y14) <|
  .need (((y17 : Nat) * 8 : Nat) ≤ 2 ^ 40) <|
  .need ((y17 : Nat) ≤ 2 ^ 40) <|
  let y18 : Int := y0.1
  let y19 : (List Int) := (y13 ++ y13)
  .ret (.inl (.h25 y17 y17 0 30 y18 y18 y19 y19))) (
  let y20 : Int := y0.1
  .ret (.inl (.h25 y14 y14 0 30 y20 0 y13 y13))))) (
  .need ((0 : Nat) < 1) <|
  .need ((0 : Int) ≤ 0) <|
  .need (0 < (1 : Int)) <|
  .need ((0 : Nat) < 1) <|
  .ite y3 (
  .need ((0 : Nat) < 1) <|
  .need (((0 : Nat) + 1 : Nat) ≤ 1) <|
  .need (((1 : Nat) * 8 : Nat) ≤ 2 ^ 40) <|
  .need ((1 : Nat) ≤ 2 ^ 40) <|
  let y21 : (List Int) := [y1.2.1]
  .ret (.inl (.h28 0 30 y21))) (
  .ite y12 (
  .need (pre28 y1) <|
  let y22 : (List Int) := (fn28 y1)
  let y23 : Nat := y22.length
  .need (((y23 : Nat) * 8 : Nat) ≤ 2 ^ 40) <|
  .need ((y23 : Nat) ≤ 2 ^ 40) <|
  .need (pre28 y1) <|
  .need (((y23 : Nat) * 8 : Nat) ≤ 2 ^ 40) <|
  .need ((y23 : Nat) ≤ 2 ^ 40) <|
  let y24 : Int := y0.1
  .ret (.inl (.h25 y23 y23 0 30 0 y24 y22 y22))) (
  .ret (.inl (.h23 0 30))))))
noncomputable def step7h7 (x : DInsn) : Tr (J7 ⊕ DFacts) :=
  .need ((0 : Nat) < 1) <|
  .need ((0 : Int) ≤ 0) <|
  .need (0 < (1 : Int)) <|
  .need ((0 : Nat) < 1) <|
  let y0 : (Int × (DOperand × (DOperand × (Int × Int)))) := x.2.2
  let y1 : DOperand := y0.2.1
  let y2 : Int := y1.1
  let y3 : Bool := (ieq y2 1)
  .ite y3 (
  .need ((0 : Nat) < 1) <|
  .need (((0 : Nat) + 1 : Nat) ≤ 1) <|
  .need (((1 : Nat) * 8 : Nat) ≤ 2 ^ 40) <|
  .need ((1 : Nat) ≤ 2 ^ 40) <|
  .need ((0 : Nat) < 1) <|
  .need ((0 : Int) ≤ 0) <|
  .need (0 < (1 : Int)) <|
  .need ((0 : Nat) < 1) <|
  .ite y3 (
  .need ((0 : Nat) < 1) <|
  .need (((0 : Nat) + 1 : Nat) ≤ 1) <|
  .need (((1 : Nat) * 8 : Nat) ≤ 2 ^ 40) <|
  .need ((1 : Nat) ≤ 2 ^ 40) <|
  let y4 : (List Int) := [y1.2.1]
  .ret (.inl (.h24 1 1 0 31 y4 y4))) (
  let y5 : Bool := (ieq y2 2)
  .ite y5 (
  .need (pre28 y1) <|
  .need ((1 : Nat) = 1) <|
  let y6 : (List Int) := (fn28 y1)
  let y7 : Nat := y6.length
  let y8 : Nat := (1 + y7)
  .need (((y8 : Nat) * 8 : Nat) ≤ 2 ^ 40) <|
  .need ((y8 : Nat) ≤ 2 ^ 40) <|
  .need (pre28 y1) <|
  .need (((y7 : Nat) * 8 : Nat) ≤ 2 ^ 40) <|
  .need ((y7 : Nat) ≤ 2 ^ 40) <|
  let y9 : Int := y0.1
  let y10 : (List Int) := [y1.2.1]
  .ret (.inl (.h25 y8 y7 0 31 0 y9 (y10 ++ y6) y6))) (
  let y11 : (List Int) := [y1.2.1]
  .ret (.inl (.h26 1 0 31 y11))))) (
  let y12 : Bool := (ieq y2 2)
  .ite y12 (
  .need (pre28 y1) <|
  let y13 : (List Int) := (fn28 y1)
  let y14 : Nat := y13.length
  .need (((y14 : Nat) * 8 : Nat) ≤ 2 ^ 40) <|
  .need ((y14 : Nat) ≤ 2 ^ 40) <|
  .need (pre28 y1) <|
  .need (((y14 : Nat) * 8 : Nat) ≤ 2 ^ 40) <|
  .need ((y14 : Nat) ≤ 2 ^ 40) <|
  .need ((0 : Nat) < 1) <|
  .need ((0 : Int) ≤ 0) <|
  .need (0 < (1 : Int)) <|
  .need ((0 : Nat) < 1) <|
  .ite y3 (
  .need ((0 : Nat) < 1) <|
  .need (((0 : Nat) + 1 : Nat) ≤ 1) <|
  .need (((1 : Nat) * 8 : Nat) ≤ 2 ^ 40) <|
  .need ((1 : Nat) ≤ 2 ^ 40) <|
  let y15 : Int := y0.1
  let y16 : (List Int) := [y1.2.1]
  .ret (.inl (.h27 y15 y14 1 y14 0 31 y15 0 y13 y16 y13))) (
  .ite y12 (
  .need (pre28 y1) <|
  .need ((y14 : Nat) = y14) <|
  let y17 : Nat := (y14 + y14)
  .need (((y17 : Nat) * 8 : Nat) ≤ 2 ^ 40) <|
  .need ((y17 : Nat) ≤ 2 ^ 40) <|
  .need (pre28 y1) <|
  .need ((y14 : Nat) = y14) <|
  .need (((y17 : Nat) * 8 : Nat) ≤ 2 ^ 40) <|
  .need ((y17 : Nat) ≤ 2 ^ 40) <|
  let y18 : Int := y0.1
  let y19 : (List Int) := (y13 ++ y13)
  .ret (.inl (.h25 y17 y17 0 31 y18 y18 y19 y19))) (
  let y20 : Int := y0.1
  .ret (.inl (.h25 y14 y14 0 31 y20 0 y13 y13))))) (
  .need ((0 : Nat) < 1) <|
  .need ((0 : Int) ≤ 0) <|
  .need (0 < (1 : Int)) <|
  .need ((0 : Nat) < 1) <|
  .ite y3 (
  .need ((0 : Nat) < 1) <|
  .need (((0 : Nat) + 1 : Nat) ≤ 1) <|
  .need (((1 : Nat) * 8 : Nat) ≤ 2 ^ 40) <|
  .need ((1 : Nat) ≤ 2 ^ 40) <|
  let y21 : (List Int) := [y1.2.1]
  .ret (.inl (.h28 0 31 y21))) (
  .ite y12 (
  .need (pre28 y1) <|
  let y22 : (List Int) := (fn28 y1)
  let y23 : Nat := y22.length
  .need (((y23 : Nat) * 8 : Nat) ≤ 2 ^ 40) <|
  .need ((y23 : Nat) ≤ 2 ^ 40) <|
  .need (pre28 y1) <|
  .need (((y23 : Nat) * 8 : Nat) ≤ 2 ^ 40) <|
  .need ((y23 : Nat) ≤ 2 ^ 40) <|
  let y24 : Int := y0.1
  .ret (.inl (.h25 y23 y23 0 31 0 y24 y22 y22))) (
  .ret (.inl (.h23 0 31))))))
noncomputable def step7h8 (x : DInsn) : Tr (J7 ⊕ DFacts) :=
  .need ((0 : Nat) < 1) <|
  .need ((0 : Int) ≤ 0) <|
  .need (0 < (1 : Int)) <|
  .need ((0 : Nat) < 1) <|
  let y0 : (Int × (DOperand × (DOperand × (Int × Int)))) := x.2.2
  let y1 : DOperand := y0.2.1
  let y2 : Int := y1.1
  let y3 : Bool := (ieq y2 1)
  .ite y3 (
  .need ((0 : Nat) < 1) <|
  .need (((0 : Nat) + 1 : Nat) ≤ 1) <|
  .need (((1 : Nat) * 8 : Nat) ≤ 2 ^ 40) <|
  .need ((1 : Nat) ≤ 2 ^ 40) <|
  .need ((0 : Nat) < 1) <|
  .need ((0 : Int) ≤ 0) <|
  .need (0 < (1 : Int)) <|
  .need ((0 : Nat) < 1) <|
  .ite y3 (
  .need ((0 : Nat) < 1) <|
  .need (((0 : Nat) + 1 : Nat) ≤ 1) <|
  .need (((1 : Nat) * 8 : Nat) ≤ 2 ^ 40) <|
  .need ((1 : Nat) ≤ 2 ^ 40) <|
  let y4 : (List Int) := [y1.2.1]
  .ret (.inl (.h24 1 1 0 0 y4 y4))) (
  let y5 : Bool := (ieq y2 2)
  .ite y5 (
  .need (pre28 y1) <|
  .need ((1 : Nat) = 1) <|
  let y6 : (List Int) := (fn28 y1)
  let y7 : Nat := y6.length
  let y8 : Nat := (1 + y7)
  .need (((y8 : Nat) * 8 : Nat) ≤ 2 ^ 40) <|
  .need ((y8 : Nat) ≤ 2 ^ 40) <|
  .need (pre28 y1) <|
  .need (((y7 : Nat) * 8 : Nat) ≤ 2 ^ 40) <|
  .need ((y7 : Nat) ≤ 2 ^ 40) <|
  let y9 : Int := y0.1
  let y10 : (List Int) := [y1.2.1]
  .ret (.inl (.h25 y8 y7 0 0 0 y9 (y10 ++ y6) y6))) (
  let y11 : (List Int) := [y1.2.1]
  .ret (.inl (.h26 1 0 0 y11))))) (
  let y12 : Bool := (ieq y2 2)
  .ite y12 (
  .need (pre28 y1) <|
  let y13 : (List Int) := (fn28 y1)
  let y14 : Nat := y13.length
  .need (((y14 : Nat) * 8 : Nat) ≤ 2 ^ 40) <|
  .need ((y14 : Nat) ≤ 2 ^ 40) <|
  .need (pre28 y1) <|
  .need (((y14 : Nat) * 8 : Nat) ≤ 2 ^ 40) <|
  .need ((y14 : Nat) ≤ 2 ^ 40) <|
  .need ((0 : Nat) < 1) <|
  .need ((0 : Int) ≤ 0) <|
  .need (0 < (1 : Int)) <|
  .need ((0 : Nat) < 1) <|
  .ite y3 (
  .need ((0 : Nat) < 1) <|
  .need (((0 : Nat) + 1 : Nat) ≤ 1) <|
  .need (((1 : Nat) * 8 : Nat) ≤ 2 ^ 40) <|
  .need ((1 : Nat) ≤ 2 ^ 40) <|
  let y15 : Int := y0.1
  let y16 : (List Int) := [y1.2.1]
  .ret (.inl (.h27 y15 y14 1 y14 0 0 y15 0 y13 y16 y13))) (
  .ite y12 (
  .need (pre28 y1) <|
  .need ((y14 : Nat) = y14) <|
  let y17 : Nat := (y14 + y14)
  .need (((y17 : Nat) * 8 : Nat) ≤ 2 ^ 40) <|
  .need ((y17 : Nat) ≤ 2 ^ 40) <|
  .need (pre28 y1) <|
  .need ((y14 : Nat) = y14) <|
  .need (((y17 : Nat) * 8 : Nat) ≤ 2 ^ 40) <|
  .need ((y17 : Nat) ≤ 2 ^ 40) <|
  let y18 : Int := y0.1
  let y19 : (List Int) := (y13 ++ y13)
  .ret (.inl (.h25 y17 y17 0 0 y18 y18 y19 y19))) (
  let y20 : Int := y0.1
  .ret (.inl (.h25 y14 y14 0 0 y20 0 y13 y13))))) (
  .need ((0 : Nat) < 1) <|
  .need ((0 : Int) ≤ 0) <|
  .need (0 < (1 : Int)) <|
  .need ((0 : Nat) < 1) <|
  .ite y3 (
  .need ((0 : Nat) < 1) <|
  .need (((0 : Nat) + 1 : Nat) ≤ 1) <|
  .need (((1 : Nat) * 8 : Nat) ≤ 2 ^ 40) <|
  .need ((1 : Nat) ≤ 2 ^ 40) <|
  let y21 : (List Int) := [y1.2.1]
  .ret (.inl (.h28 0 0 y21))) (
  .ite y12 (
  .need (pre28 y1) <|
  let y22 : (List Int) := (fn28 y1)
  let y23 : Nat := y22.length
  .need (((y23 : Nat) * 8 : Nat) ≤ 2 ^ 40) <|
  .need ((y23 : Nat) ≤ 2 ^ 40) <|
  .need (pre28 y1) <|
  .need (((y23 : Nat) * 8 : Nat) ≤ 2 ^ 40) <|
  .need ((y23 : Nat) ≤ 2 ^ 40) <|
  let y24 : Int := y0.1
  .ret (.inl (.h25 y23 y23 0 0 0 y24 y22 y22))) (
  .ret (.inl (.h23 0 0))))))
noncomputable def step7h9 (x : DInsn) : Tr (J7 ⊕ DFacts) :=
  .need ((0 : Nat) < 1) <|
  .need ((0 : Int) ≤ 0) <|
  .need (0 < (1 : Int)) <|
  .need ((0 : Nat) < 1) <|
  let y0 : (Int × (DOperand × (DOperand × (Int × Int)))) := x.2.2
  let y1 : (DOperand × (DOperand × (Int × Int))) := y0.2
  let y2 : DOperand := y1.1
  let y3 : Int := y2.1
  let y4 : Bool := (ieq y3 1)
  .ite y4 (
  .need ((0 : Nat) < 1) <|
  .need (((0 : Nat) + 1 : Nat) ≤ 1) <|
  .need (((1 : Nat) * 8 : Nat) ≤ 2 ^ 40) <|
  .need ((1 : Nat) ≤ 2 ^ 40) <|
  .need ((0 : Nat) < 1) <|
  .need ((0 : Int) ≤ 0) <|
  .need (0 < (1 : Int)) <|
  .need ((0 : Nat) < 1) <|
  .ite y4 (
  .need ((0 : Nat) < 1) <|
  .need (((0 : Nat) + 1 : Nat) ≤ 1) <|
  .need (((1 : Nat) * 8 : Nat) ≤ 2 ^ 40) <|
  .need ((1 : Nat) ≤ 2 ^ 40) <|
  let y5 : Int := y0.1
  let y6 : Bool := (ieq y5 8)
  .ite y6 (
  let y7 : DOperand := y1.2.1
  let y8 : Int := y7.1
  let y9 : Bool := (ine y8 3)
  .ite y9 (
  .need ((0 : Nat) < 1) <|
  .need ((0 : Int) ≤ 0) <|
  .need (0 < (1 : Int)) <|
  .need ((0 : Nat) < 1) <|
  let y10 : Bool := (ieq y8 1)
  .ite y10 (
  .need ((0 : Nat) < 1) <|
  .need (((0 : Nat) + 1 : Nat) ≤ 1) <|
  .need ((1 : Nat) = 1) <|
  .need (((2 : Nat) * 8 : Nat) ≤ 2 ^ 40) <|
  .need ((2 : Nat) ≤ 2 ^ 40) <|
  let y11 : Int := y2.2.1
  let y12 : (Int × (Int × (Int × (Int × (Int × (Bool × Int)))))) := y7.2
  let y13 : Int := y12.1
  let y14 : (List Int) := [y11, y13]
  let y15 : (List Int) := [y11]
  .ret (.inl (.h24 2 1 31 31 y14 y15))) (
  let y16 : Bool := (ieq y8 2)
  .ite y16 (
  .need (pre28 y7) <|
  .need ((1 : Nat) = 1) <|
  let y17 : (List Int) := (fn28 y7)
  let y18 : Nat := y17.length
  let y19 : Nat := (1 + y18)
  .need (((y19 : Nat) * 8 : Nat) ≤ 2 ^ 40) <|
  .need ((y19 : Nat) ≤ 2 ^ 40) <|
  .need (pre28 y7) <|
  .need (((y18 : Nat) * 8 : Nat) ≤ 2 ^ 40) <|
  .need ((y18 : Nat) ≤ 2 ^ 40) <|
  let y20 : Int := y2.2.1
  let y21 : (List Int) := [y20]
  let y22 : (List Int) := (y21 ++ y17)
  .ret (.inl (.h27 y5 y19 1 y18 31 31 y5 0 y22 y21 y17))) (
  let y23 : Int := y2.2.1
  let y24 : (List Int) := [y23]
  .ret (.inl (.h24 1 1 31 31 y24 y24))))) (
  .need ((64 : Int) ≠ 0) <|
  let y25 : (Int × (Int × (Int × (Int × (Int × (Bool × Int)))))) := y7.2
  let y26 : Int := y25.2.2.2.2.2.2
  let y27 : Bool := (ieq (irem .i64 y26 64) 0)
  .ite y27 (
  let y28 : Int := y2.2.1
  let y29 : (List Int) := [y28]
  .ret (.inl (.h24 1 1 0 0 y29 y29))) (
  let y30 : Int := y2.2.1
  let y31 : (List Int) := [y30]
  .ret (.inl (.h24 1 1 0 31 y31 y31))))) (
  let y32 : DOperand := y1.2.1
  let y33 : Int := y32.1
  let y34 : Bool := (ine y33 3)
  .ite y34 (
  .need ((0 : Nat) < 1) <|
  .need ((0 : Int) ≤ 0) <|
  .need (0 < (1 : Int)) <|
  .need ((0 : Nat) < 1) <|
  let y35 : Bool := (ieq y33 1)
  .ite y35 (
  .need ((0 : Nat) < 1) <|
  .need (((0 : Nat) + 1 : Nat) ≤ 1) <|
  .need ((1 : Nat) = 1) <|
  .need (((2 : Nat) * 8 : Nat) ≤ 2 ^ 40) <|
  .need ((2 : Nat) ≤ 2 ^ 40) <|
  let y36 : Int := y2.2.1
  let y37 : (Int × (Int × (Int × (Int × (Int × (Bool × Int)))))) := y32.2
  let y38 : Int := y37.1
  let y39 : (List Int) := [y36, y38]
  let y40 : (List Int) := [y36]
  .ret (.inl (.h24 2 1 31 31 y39 y40))) (
  let y41 : Bool := (ieq y33 2)
  .ite y41 (
  .need (pre28 y32) <|
  .need ((1 : Nat) = 1) <|
  let y42 : (List Int) := (fn28 y32)
  let y43 : Nat := y42.length
  let y44 : Nat := (1 + y43)
  .need (((y44 : Nat) * 8 : Nat) ≤ 2 ^ 40) <|
  .need ((y44 : Nat) ≤ 2 ^ 40) <|
  .need (pre28 y32) <|
  .need (((y43 : Nat) * 8 : Nat) ≤ 2 ^ 40) <|
  .need ((y43 : Nat) ≤ 2 ^ 40) <|
  let y45 : Int := y2.2.1
  let y46 : (List Int) := [y45]
  let y47 : (List Int) := (y46 ++ y42)
  .ret (.inl (.h27 y5 y44 1 y43 31 31 y5 0 y47 y46 y42))) (
  let y48 : Int := y2.2.1
  let y49 : (List Int) := [y48]
  .ret (.inl (.h24 1 1 31 31 y49 y49))))) (
  .need ((32 : Int) ≠ 0) <|
  let y50 : (Int × (Int × (Int × (Int × (Int × (Bool × Int)))))) := y32.2
  let y51 : Int := y50.2.2.2.2.2.2
  let y52 : Bool := (ieq (irem .i64 y51 32) 0)
  .ite y52 (
  let y53 : Int := y2.2.1
  let y54 : (List Int) := [y53]
  .ret (.inl (.h24 1 1 0 0 y54 y54))) (
  let y55 : Int := y2.2.1
  let y56 : (List Int) := [y55]
  .ret (.inl (.h24 1 1 0 31 y56 y56)))))) (
  let y57 : Bool := (ieq y3 2)
  .ite y57 (
  .need (pre28 y2) <|
  .need ((1 : Nat) = 1) <|
  let y58 : (List Int) := (fn28 y2)
  let y59 : Nat := y58.length
  let y60 : Nat := (1 + y59)
  .need (((y60 : Nat) * 8 : Nat) ≤ 2 ^ 40) <|
  .need ((y60 : Nat) ≤ 2 ^ 40) <|
  .need (pre28 y2) <|
  .need (((y59 : Nat) * 8 : Nat) ≤ 2 ^ 40) <|
  .need ((y59 : Nat) ≤ 2 ^ 40) <|
  let y61 : Int := y0.1
  let y62 : Bool := (ieq y61 8)
  .ite y62 (
  let y63 : DOperand := y1.2.1
  let y64 : Int := y63.1
  let y65 : Bool := (ine y64 3)
  .ite y65 (
  .need ((0 : Nat) < 1) <|
  .need ((0 : Int) ≤ 0) <|
  .need (0 < (1 : Int)) <|
  .need ((0 : Nat) < 1) <|
  let y66 : Bool := (ieq y64 1)
  .ite y66 (
  .need ((0 : Nat) < 1) <|
  .need (((0 : Nat) + 1 : Nat) ≤ 1) <|
  let y67 : Int := y2.2.1
  let y68 : (List Int) := [y67]
  let y69 : (List Int) := (y68 ++ y58)
  .need ((y60 : Nat) = y69.length) <|
  let y70 : Nat := (y60 + 1)
  .need (((y70 : Nat) * 8 : Nat) ≤ 2 ^ 40) <|
  .need ((y70 : Nat) ≤ 2 ^ 40) <|
  let y71 : (Int × (Int × (Int × (Int × (Int × (Bool × Int)))))) := y63.2
  let y72 : Int := y71.1
  let y73 : (List Int) := [y72]
  let y74 : (List Int) := (y69 ++ y73)
  .ret (.inl (.h25 y70 y59 31 31 0 y61 y74 y58))) (
  let y75 : Bool := (ieq y64 2)
  .ite y75 (
  .need (pre28 y63) <|
  let y76 : Int := y2.2.1
  let y77 : (List Int) := [y76]
  let y78 : (List Int) := (y77 ++ y58)
  .need ((y60 : Nat) = y78.length) <|
  let y79 : (List Int) := (fn28 y63)
  let y80 : Nat := y79.length
  let y81 : Nat := (y60 + y80)
  .need (((y81 : Nat) * 8 : Nat) ≤ 2 ^ 40) <|
  .need ((y81 : Nat) ≤ 2 ^ 40) <|
  .need (pre28 y63) <|
  .need ((y59 : Nat) = y59) <|
  let y82 : Nat := (y59 + y80)
  .need (((y82 : Nat) * 8 : Nat) ≤ 2 ^ 40) <|
  .need ((y82 : Nat) ≤ 2 ^ 40) <|
  let y83 : (List Int) := (y78 ++ y79)
  let y84 : (List Int) := (y58 ++ y79)
  .ret (.inl (.h25 y81 y82 31 31 y61 y61 y83 y84))) (
  let y85 : Int := y2.2.1
  let y86 : (List Int) := [y85]
  let y87 : (List Int) := (y86 ++ y58)
  .ret (.inl (.h25 y60 y59 31 31 0 y61 y87 y58))))) (
  .need ((64 : Int) ≠ 0) <|
  let y88 : (Int × (Int × (Int × (Int × (Int × (Bool × Int)))))) := y63.2
  let y89 : Int := y88.2.2.2.2.2.2
  let y90 : Bool := (ieq (irem .i64 y89 64) 0)
  .ite y90 (
  let y91 : Int := y2.2.1
  let y92 : (List Int) := [y91]
  let y93 : (List Int) := (y92 ++ y58)
  .ret (.inl (.h25 y60 y59 0 0 0 y61 y93 y58))) (
  let y94 : Int := y2.2.1
  let y95 : (List Int) := [y94]
  let y96 : (List Int) := (y95 ++ y58)
  .ret (.inl (.h25 y60 y59 0 31 0 y61 y96 y58))))) (
  let y97 : DOperand := y1.2.1
  let y98 : Int := y97.1
  let y99 : Bool := (ine y98 3)
  .ite y99 (
  .need ((0 : Nat) < 1) <|
  .need ((0 : Int) ≤ 0) <|
  .need (0 < (1 : Int)) <|
  .need ((0 : Nat) < 1) <|
  let y100 : Bool := (ieq y98 1)
  .ite y100 (
  .need ((0 : Nat) < 1) <|
  .need (((0 : Nat) + 1 : Nat) ≤ 1) <|
  let y101 : Int := y2.2.1
  let y102 : (List Int) := [y101]
  let y103 : (List Int) := (y102 ++ y58)
  .need ((y60 : Nat) = y103.length) <|
  let y104 : Nat := (y60 + 1)
  .need (((y104 : Nat) * 8 : Nat) ≤ 2 ^ 40) <|
  .need ((y104 : Nat) ≤ 2 ^ 40) <|
  let y105 : (Int × (Int × (Int × (Int × (Int × (Bool × Int)))))) := y97.2
  let y106 : Int := y105.1
  let y107 : (List Int) := [y106]
  let y108 : (List Int) := (y103 ++ y107)
  .ret (.inl (.h25 y104 y59 31 31 0 y61 y108 y58))) (
  let y109 : Bool := (ieq y98 2)
  .ite y109 (
  .need (pre28 y97) <|
  let y110 : Int := y2.2.1
  let y111 : (List Int) := [y110]
  let y112 : (List Int) := (y111 ++ y58)
  .need ((y60 : Nat) = y112.length) <|
  let y113 : (List Int) := (fn28 y97)
  let y114 : Nat := y113.length
  let y115 : Nat := (y60 + y114)
  .need (((y115 : Nat) * 8 : Nat) ≤ 2 ^ 40) <|
  .need ((y115 : Nat) ≤ 2 ^ 40) <|
  .need (pre28 y97) <|
  .need ((y59 : Nat) = y59) <|
  let y116 : Nat := (y59 + y114)
  .need (((y116 : Nat) * 8 : Nat) ≤ 2 ^ 40) <|
  .need ((y116 : Nat) ≤ 2 ^ 40) <|
  let y117 : (List Int) := (y112 ++ y113)
  let y118 : (List Int) := (y58 ++ y113)
  .ret (.inl (.h25 y115 y116 31 31 y61 y61 y117 y118))) (
  let y119 : Int := y2.2.1
  let y120 : (List Int) := [y119]
  let y121 : (List Int) := (y120 ++ y58)
  .ret (.inl (.h25 y60 y59 31 31 0 y61 y121 y58))))) (
  .need ((32 : Int) ≠ 0) <|
  let y122 : (Int × (Int × (Int × (Int × (Int × (Bool × Int)))))) := y97.2
  let y123 : Int := y122.2.2.2.2.2.2
  let y124 : Bool := (ieq (irem .i64 y123 32) 0)
  .ite y124 (
  let y125 : Int := y2.2.1
  let y126 : (List Int) := [y125]
  let y127 : (List Int) := (y126 ++ y58)
  .ret (.inl (.h25 y60 y59 0 0 0 y61 y127 y58))) (
  let y128 : Int := y2.2.1
  let y129 : (List Int) := [y128]
  let y130 : (List Int) := (y129 ++ y58)
  .ret (.inl (.h25 y60 y59 0 31 0 y61 y130 y58)))))) (
  let y131 : Int := y0.1
  let y132 : Bool := (ieq y131 8)
  .ite y132 (
  let y133 : DOperand := y1.2.1
  let y134 : Int := y133.1
  let y135 : Bool := (ine y134 3)
  .ite y135 (
  .need ((0 : Nat) < 1) <|
  .need ((0 : Int) ≤ 0) <|
  .need (0 < (1 : Int)) <|
  .need ((0 : Nat) < 1) <|
  let y136 : Bool := (ieq y134 1)
  .ite y136 (
  .need ((0 : Nat) < 1) <|
  .need (((0 : Nat) + 1 : Nat) ≤ 1) <|
  .need ((1 : Nat) = 1) <|
  .need (((2 : Nat) * 8 : Nat) ≤ 2 ^ 40) <|
  .need ((2 : Nat) ≤ 2 ^ 40) <|
  let y137 : Int := y2.2.1
  let y138 : (Int × (Int × (Int × (Int × (Int × (Bool × Int)))))) := y133.2
  let y139 : Int := y138.1
  let y140 : (List Int) := [y137, y139]
  .ret (.inl (.h26 2 31 31 y140))) (
  let y141 : Bool := (ieq y134 2)
  .ite y141 (
  .need (pre28 y133) <|
  .need ((1 : Nat) = 1) <|
  let y142 : (List Int) := (fn28 y133)
  let y143 : Nat := y142.length
  let y144 : Nat := (1 + y143)
  .need (((y144 : Nat) * 8 : Nat) ≤ 2 ^ 40) <|
  .need ((y144 : Nat) ≤ 2 ^ 40) <|
  .need (pre28 y133) <|
  .need (((y143 : Nat) * 8 : Nat) ≤ 2 ^ 40) <|
  .need ((y143 : Nat) ≤ 2 ^ 40) <|
  let y145 : Int := y2.2.1
  let y146 : (List Int) := [y145]
  let y147 : (List Int) := (y146 ++ y142)
  .ret (.inl (.h25 y144 y143 31 31 y131 0 y147 y142))) (
  let y148 : Int := y2.2.1
  let y149 : (List Int) := [y148]
  .ret (.inl (.h26 1 31 31 y149))))) (
  .need ((64 : Int) ≠ 0) <|
  let y150 : (Int × (Int × (Int × (Int × (Int × (Bool × Int)))))) := y133.2
  let y151 : Int := y150.2.2.2.2.2.2
  let y152 : Bool := (ieq (irem .i64 y151 64) 0)
  .ite y152 (
  let y153 : Int := y2.2.1
  let y154 : (List Int) := [y153]
  .ret (.inl (.h26 1 0 0 y154))) (
  let y155 : Int := y2.2.1
  let y156 : (List Int) := [y155]
  .ret (.inl (.h26 1 0 31 y156))))) (
  let y157 : DOperand := y1.2.1
  let y158 : Int := y157.1
  let y159 : Bool := (ine y158 3)
  .ite y159 (
  .need ((0 : Nat) < 1) <|
  .need ((0 : Int) ≤ 0) <|
  .need (0 < (1 : Int)) <|
  .need ((0 : Nat) < 1) <|
  let y160 : Bool := (ieq y158 1)
  .ite y160 (
  .need ((0 : Nat) < 1) <|
  .need (((0 : Nat) + 1 : Nat) ≤ 1) <|
  .need ((1 : Nat) = 1) <|
  .need (((2 : Nat) * 8 : Nat) ≤ 2 ^ 40) <|
  .need ((2 : Nat) ≤ 2 ^ 40) <|
  let y161 : Int := y2.2.1
  let y162 : (Int × (Int × (Int × (Int × (Int × (Bool × Int)))))) := y157.2
  let y163 : Int := y162.1
  let y164 : (List Int) := [y161, y163]
  .ret (.inl (.h26 2 31 31 y164))) (
  let y165 : Bool := (ieq y158 2)
  .ite y165 (
  .need (pre28 y157) <|
  .need ((1 : Nat) = 1) <|
  let y166 : (List Int) := (fn28 y157)
  let y167 : Nat := y166.length
  let y168 : Nat := (1 + y167)
  .need (((y168 : Nat) * 8 : Nat) ≤ 2 ^ 40) <|
  .need ((y168 : Nat) ≤ 2 ^ 40) <|
  .need (pre28 y157) <|
  .need (((y167 : Nat) * 8 : Nat) ≤ 2 ^ 40) <|
  .need ((y167 : Nat) ≤ 2 ^ 40) <|
  let y169 : Int := y2.2.1
  let y170 : (List Int) := [y169]
  let y171 : (List Int) := (y170 ++ y166)
  .ret (.inl (.h25 y168 y167 31 31 y131 0 y171 y166))) (
  let y172 : Int := y2.2.1
  let y173 : (List Int) := [y172]
  .ret (.inl (.h26 1 31 31 y173))))) (
  .need ((32 : Int) ≠ 0) <|
  let y174 : (Int × (Int × (Int × (Int × (Int × (Bool × Int)))))) := y157.2
  let y175 : Int := y174.2.2.2.2.2.2
  let y176 : Bool := (ieq (irem .i64 y175 32) 0)
  .ite y176 (
  let y177 : Int := y2.2.1
  let y178 : (List Int) := [y177]
  .ret (.inl (.h26 1 0 0 y178))) (
  let y179 : Int := y2.2.1
  let y180 : (List Int) := [y179]
  .ret (.inl (.h26 1 0 31 y180)))))))) (
  let y181 : Bool := (ieq y3 2)
  .ite y181 (
  .need (pre28 y2) <|
  let y182 : (List Int) := (fn28 y2)
  let y183 : Nat := y182.length
  .need (((y183 : Nat) * 8 : Nat) ≤ 2 ^ 40) <|
  .need ((y183 : Nat) ≤ 2 ^ 40) <|
  .need (pre28 y2) <|
  .need (((y183 : Nat) * 8 : Nat) ≤ 2 ^ 40) <|
  .need ((y183 : Nat) ≤ 2 ^ 40) <|
  .need ((0 : Nat) < 1) <|
  .need ((0 : Int) ≤ 0) <|
  .need (0 < (1 : Int)) <|
  .need ((0 : Nat) < 1) <|
  .ite y4 (
  .need ((0 : Nat) < 1) <|
  .need (((0 : Nat) + 1 : Nat) ≤ 1) <|
  .need (((1 : Nat) * 8 : Nat) ≤ 2 ^ 40) <|
  .need ((1 : Nat) ≤ 2 ^ 40) <|
  let y184 : Int := y0.1
  let y185 : Bool := (ieq y184 8)
  .ite y185 (
  let y186 : DOperand := y1.2.1
  let y187 : Int := y186.1
  let y188 : Bool := (ine y187 3)
  .ite y188 (
  .need ((0 : Nat) < 1) <|
  .need ((0 : Int) ≤ 0) <|
  .need (0 < (1 : Int)) <|
  .need ((0 : Nat) < 1) <|
  let y189 : Bool := (ieq y187 1)
  .ite y189 (
  .need ((0 : Nat) < 1) <|
  .need (((0 : Nat) + 1 : Nat) ≤ 1) <|
  .need ((y183 : Nat) = y183) <|
  let y190 : Nat := (y183 + 1)
  .need (((y190 : Nat) * 8 : Nat) ≤ 2 ^ 40) <|
  .need ((y190 : Nat) ≤ 2 ^ 40) <|
  let y191 : (Int × (Int × (Int × (Int × (Int × (Bool × Int)))))) := y186.2
  let y192 : Int := y191.1
  let y193 : (List Int) := [y192]
  let y194 : (List Int) := (y182 ++ y193)
  let y195 : Int := y2.2.1
  let y196 : (List Int) := [y195]
  .ret (.inl (.h27 y184 y190 1 y183 31 31 y184 0 y194 y196 y182))) (
  let y197 : Bool := (ieq y187 2)
  .ite y197 (
  .need (pre28 y186) <|
  .need ((y183 : Nat) = y183) <|
  let y198 : (List Int) := (fn28 y186)
  let y199 : Nat := y198.length
  let y200 : Nat := (y183 + y199)
  .need (((y200 : Nat) * 8 : Nat) ≤ 2 ^ 40) <|
  .need ((y200 : Nat) ≤ 2 ^ 40) <|
  .need (pre28 y186) <|
  .need ((y183 : Nat) = y183) <|
  .need (((y200 : Nat) * 8 : Nat) ≤ 2 ^ 40) <|
  .need ((y200 : Nat) ≤ 2 ^ 40) <|
  let y201 : (List Int) := (y182 ++ y198)
  let y202 : Int := y2.2.1
  let y203 : (List Int) := [y202]
  .ret (.inl (.h27 y184 y200 1 y200 31 31 y184 0 y201 y203 y201))) (
  let y204 : Int := y2.2.1
  let y205 : (List Int) := [y204]
  .ret (.inl (.h27 y184 y183 1 y183 31 31 y184 0 y182 y205 y182))))) (
  .need ((64 : Int) ≠ 0) <|
  let y206 : (Int × (Int × (Int × (Int × (Int × (Bool × Int)))))) := y186.2
  let y207 : Int := y206.2.2.2.2.2.2
  let y208 : Bool := (ieq (irem .i64 y207 64) 0)
  .ite y208 (
  let y209 : Int := y2.2.1
  let y210 : (List Int) := [y209]
  .ret (.inl (.h27 y184 y183 1 y183 0 0 y184 0 y182 y210 y182))) (
  let y211 : Int := y2.2.1
  let y212 : (List Int) := [y211]
  .ret (.inl (.h27 y184 y183 1 y183 0 31 y184 0 y182 y212 y182))))) (
  let y213 : DOperand := y1.2.1
  let y214 : Int := y213.1
  let y215 : Bool := (ine y214 3)
  .ite y215 (
  .need ((0 : Nat) < 1) <|
  .need ((0 : Int) ≤ 0) <|
  .need (0 < (1 : Int)) <|
  .need ((0 : Nat) < 1) <|
  let y216 : Bool := (ieq y214 1)
  .ite y216 (
  .need ((0 : Nat) < 1) <|
  .need (((0 : Nat) + 1 : Nat) ≤ 1) <|
  .need ((y183 : Nat) = y183) <|
  let y217 : Nat := (y183 + 1)
  .need (((y217 : Nat) * 8 : Nat) ≤ 2 ^ 40) <|
  .need ((y217 : Nat) ≤ 2 ^ 40) <|
  let y218 : (Int × (Int × (Int × (Int × (Int × (Bool × Int)))))) := y213.2
  let y219 : Int := y218.1
  let y220 : (List Int) := [y219]
  let y221 : (List Int) := (y182 ++ y220)
  let y222 : Int := y2.2.1
  let y223 : (List Int) := [y222]
  .ret (.inl (.h27 y184 y217 1 y183 31 31 y184 0 y221 y223 y182))) (
  let y224 : Bool := (ieq y214 2)
  .ite y224 (
  .need (pre28 y213) <|
  .need ((y183 : Nat) = y183) <|
  let y225 : (List Int) := (fn28 y213)
  let y226 : Nat := y225.length
  let y227 : Nat := (y183 + y226)
  .need (((y227 : Nat) * 8 : Nat) ≤ 2 ^ 40) <|
  .need ((y227 : Nat) ≤ 2 ^ 40) <|
  .need (pre28 y213) <|
  .need ((y183 : Nat) = y183) <|
  .need (((y227 : Nat) * 8 : Nat) ≤ 2 ^ 40) <|
  .need ((y227 : Nat) ≤ 2 ^ 40) <|
  let y228 : (List Int) := (y182 ++ y225)
  let y229 : Int := y2.2.1
  let y230 : (List Int) := [y229]
  .ret (.inl (.h27 y184 y227 1 y227 31 31 y184 0 y228 y230 y228))) (
  let y231 : Int := y2.2.1
  let y232 : (List Int) := [y231]
  .ret (.inl (.h27 y184 y183 1 y183 31 31 y184 0 y182 y232 y182))))) (
  .need ((32 : Int) ≠ 0) <|
  let y233 : (Int × (Int × (Int × (Int × (Int × (Bool × Int)))))) := y213.2
  let y234 : Int := y233.2.2.2.2.2.2
  let y235 : Bool := (ieq (irem .i64 y234 32) 0)
  .ite y235 (
  let y236 : Int := y2.2.1
  let y237 : (List Int) := [y236]
  .ret (.inl (.h27 y184 y183 1 y183 0 0 y184 0 y182 y237 y182))) (
  let y238 : Int := y2.2.1
  let y239 : (List Int) := [y238]
  .ret (.inl (.h27 y184 y183 1 y183 0 31 y184 0 y182 y239 y182)))))) (
  .ite y181 (
  .need (pre28 y2) <|
  .need ((y183 : Nat) = y183) <|
  let y240 : Nat := (y183 + y183)
  .need (((y240 : Nat) * 8 : Nat) ≤ 2 ^ 40) <|
  .need ((y240 : Nat) ≤ 2 ^ 40) <|
  .need (pre28 y2) <|
  .need ((y183 : Nat) = y183) <|
  .need (((y240 : Nat) * 8 : Nat) ≤ 2 ^ 40) <|
  .need ((y240 : Nat) ≤ 2 ^ 40) <|
  let y241 : Int := y0.1
  let y242 : Bool := (ieq y241 8)
  .ite y242 (
  let y243 : DOperand := y1.2.1
  let y244 : Int := y243.1
  let y245 : Bool := (ine y244 3)
  .ite y245 (
  .need ((0 : Nat) < 1) <|
  .need ((0 : Int) ≤ 0) <|
  .need (0 < (1 : Int)) <|
  .need ((0 : Nat) < 1) <|
  let y246 : Bool := (ieq y244 1)
  .ite y246 (
  .need ((0 : Nat) < 1) <|
  .need (((0 : Nat) + 1 : Nat) ≤ 1) <|
  let y247 : (List Int) := (y182 ++ y182)
  .need ((y240 : Nat) = y247.length) <|
  let y248 : Nat := (y240 + 1)
  .need (((y248 : Nat) * 8 : Nat) ≤ 2 ^ 40) <|
  .need ((y248 : Nat) ≤ 2 ^ 40) <|
  let y249 : (Int × (Int × (Int × (Int × (Int × (Bool × Int)))))) := y243.2
  let y250 : Int := y249.1
  let y251 : (List Int) := [y250]
  let y252 : (List Int) := (y247 ++ y251)
  .ret (.inl (.h25 y248 y240 31 31 y241 y241 y252 y247))) (
  let y253 : Bool := (ieq y244 2)
  .ite y253 (
  .need (pre28 y243) <|
  let y254 : (List Int) := (y182 ++ y182)
  .need ((y240 : Nat) = y254.length) <|
  let y255 : (List Int) := (fn28 y243)
  let y256 : Nat := y255.length
  let y257 : Nat := (y240 + y256)
  .need (((y257 : Nat) * 8 : Nat) ≤ 2 ^ 40) <|
  .need ((y257 : Nat) ≤ 2 ^ 40) <|
  .need (pre28 y243) <|
  .need ((y240 : Nat) = y254.length) <|
  .need (((y257 : Nat) * 8 : Nat) ≤ 2 ^ 40) <|
  .need ((y257 : Nat) ≤ 2 ^ 40) <|
  let y258 : (List Int) := (y254 ++ y255)
  .ret (.inl (.h25 y257 y257 31 31 y241 y241 y258 y258))) (
  let y259 : (List Int) := (y182 ++ y182)
  .ret (.inl (.h25 y240 y240 31 31 y241 y241 y259 y259))))) (
  .need ((64 : Int) ≠ 0) <|
  let y260 : (Int × (Int × (Int × (Int × (Int × (Bool × Int)))))) := y243.2
  let y261 : Int := y260.2.2.2.2.2.2
  let y262 : Bool := (ieq (irem .i64 y261 64) 0)
  .ite y262 (
  let y263 : (List Int) := (y182 ++ y182)
  .ret (.inl (.h25 y240 y240 0 0 y241 y241 y263 y263))) (
  let y264 : (List Int) := (y182 ++ y182)
  .ret (.inl (.h25 y240 y240 0 31 y241 y241 y264 y264))))) (
  let y265 : DOperand := y1.2.1
  let y266 : Int := y265.1
  let y267 : Bool := (ine y266 3)
  .ite y267 (
  .need ((0 : Nat) < 1) <|
  .need ((0 : Int) ≤ 0) <|
  .need (0 < (1 : Int)) <|
  .need ((0 : Nat) < 1) <|
  let y268 : Bool := (ieq y266 1)
  .ite y268 (
  .need ((0 : Nat) < 1) <|
  .need (((0 : Nat) + 1 : Nat) ≤ 1) <|
  let y269 : (List Int) := (y182 ++ y182)
  .need ((y240 : Nat) = y269.length) <|
  let y270 : Nat := (y240 + 1)
  .need (((y270 : Nat) * 8 : Nat) ≤ 2 ^ 40) <|
  .need ((y270 : Nat) ≤ 2 ^ 40) <|
  let y271 : (Int × (Int × (Int × (Int × (Int × (Bool × Int)))))) := y265.2
  let y272 : Int := y271.1
  let y273 : (List Int) := [y272]
  let y274 : (List Int) := (y269 ++ y273)
  .ret (.inl (.h25 y270 y240 31 31 y241 y241 y274 y269))) (
  let y275 : Bool := (ieq y266 2)
  .ite y275 (
  .need (pre28 y265) <|
  let y276 : (List Int) := (y182 ++ y182)
  .need ((y240 : Nat) = y276.length) <|
  let y277 : (List Int) := (fn28 y265)
  let y278 : Nat := y277.length
  let y279 : Nat := (y240 + y278)
  .need (((y279 : Nat) * 8 : Nat) ≤ 2 ^ 40) <|
  .need ((y279 : Nat) ≤ 2 ^ 40) <|
  .need (pre28 y265) <|
  .need ((y240 : Nat) = y276.length) <|
  .need (((y279 : Nat) * 8 : Nat) ≤ 2 ^ 40) <|
  .need ((y279 : Nat) ≤ 2 ^ 40) <|
  let y280 : (List Int) := (y276 ++ y277)
  .ret (.inl (.h25 y279 y279 31 31 y241 y241 y280 y280))) (
  let y281 : (List Int) := (y182 ++ y182)
  .ret (.inl (.h25 y240 y240 31 31 y241 y241 y281 y281))))) (
  .need ((32 : Int) ≠ 0) <|
  let y282 : (Int × (Int × (Int × (Int × (Int × (Bool × Int)))))) := y265.2
  let y283 : Int := y282.2.2.2.2.2.2
  let y284 : Bool := (ieq (irem .i64 y283 32) 0)
  .ite y284 (
  let y285 : (List Int) := (y182 ++ y182)
  .ret (.inl (.h25 y240 y240 0 0 y241 y241 y285 y285))) (
  let y286 : (List Int) := (y182 ++ y182)
  .ret (.inl (.h25 y240 y240 0 31 y241 y241 y286 y286)))))) (
  let y287 : Int := y0.1
  let y288 : Bool := (ieq y287 8)
  .ite y288 (
  let y289 : DOperand := y1.2.1
  let y290 : Int := y289.1
  let y291 : Bool := (ine y290 3)
  .ite y291 (
  .need ((0 : Nat) < 1) <|
  .need ((0 : Int) ≤ 0) <|
  .need (0 < (1 : Int)) <|
  .need ((0 : Nat) < 1) <|
  let y292 : Bool := (ieq y290 1)
  .ite y292 (
  .need ((0 : Nat) < 1) <|
  .need (((0 : Nat) + 1 : Nat) ≤ 1) <|
  .need ((y183 : Nat) = y183) <|
  let y293 : Nat := (y183 + 1)
  .need (((y293 : Nat) * 8 : Nat) ≤ 2 ^ 40) <|
  .need ((y293 : Nat) ≤ 2 ^ 40) <|
  let y294 : (Int × (Int × (Int × (Int × (Int × (Bool × Int)))))) := y289.2
  let y295 : Int := y294.1
  let y296 : (List Int) := [y295]
  let y297 : (List Int) := (y182 ++ y296)
  .ret (.inl (.h25 y293 y183 31 31 y287 0 y297 y182))) (
  let y298 : Bool := (ieq y290 2)
  .ite y298 (
  .need (pre28 y289) <|
  .need ((y183 : Nat) = y183) <|
  let y299 : (List Int) := (fn28 y289)
  let y300 : Nat := y299.length
  let y301 : Nat := (y183 + y300)
  .need (((y301 : Nat) * 8 : Nat) ≤ 2 ^ 40) <|
  .need ((y301 : Nat) ≤ 2 ^ 40) <|
  .need (pre28 y289) <|
  .need ((y183 : Nat) = y183) <|
  .need (((y301 : Nat) * 8 : Nat) ≤ 2 ^ 40) <|
  .need ((y301 : Nat) ≤ 2 ^ 40) <|
  let y302 : (List Int) := (y182 ++ y299)
  .ret (.inl (.h25 y301 y301 31 31 y287 0 y302 y302))) (
  .ret (.inl (.h25 y183 y183 31 31 y287 0 y182 y182))))) (
  .need ((64 : Int) ≠ 0) <|
  let y303 : (Int × (Int × (Int × (Int × (Int × (Bool × Int)))))) := y289.2
  let y304 : Int := y303.2.2.2.2.2.2
  let y305 : Bool := (ieq (irem .i64 y304 64) 0)
  .ite y305 (
  .ret (.inl (.h25 y183 y183 0 0 y287 0 y182 y182))) (
  .ret (.inl (.h25 y183 y183 0 31 y287 0 y182 y182))))) (
  let y306 : DOperand := y1.2.1
  let y307 : Int := y306.1
  let y308 : Bool := (ine y307 3)
  .ite y308 (
  .need ((0 : Nat) < 1) <|
  .need ((0 : Int) ≤ 0) <|
  .need (0 < (1 : Int)) <|
  .need ((0 : Nat) < 1) <|
  let y309 : Bool := (ieq y307 1)
  .ite y309 (
  .need ((0 : Nat) < 1) <|
  .need (((0 : Nat) + 1 : Nat) ≤ 1) <|
  .need ((y183 : Nat) = y183) <|
  let y310 : Nat := (y183 + 1)
  .need (((y310 : Nat) * 8 : Nat) ≤ 2 ^ 40) <|
  .need ((y310 : Nat) ≤ 2 ^ 40) <|
  let y311 : (Int × (Int × (Int × (Int × (Int × (Bool × Int)))))) := y306.2
  let y312 : Int := y311.1
  let y313 : (List Int) := [y312]
  let y314 : (List Int) := (y182 ++ y313)
  .ret (.inl (.h25 y310 y183 31 31 y287 0 y314 y182))) (
  let y315 : Bool := (ieq y307 2)
  .ite y315 (
  .need (pre28 y306) <|
  .need ((y183 : Nat) = y183) <|
  let y316 : (List Int) := (fn28 y306)
  let y317 : Nat := y316.length
  let y318 : Nat := (y183 + y317)
  .need (((y318 : Nat) * 8 : Nat) ≤ 2 ^ 40) <|
  .need ((y318 : Nat) ≤ 2 ^ 40) <|
  .need (pre28 y306) <|
  .need ((y183 : Nat) = y183) <|
  .need (((y318 : Nat) * 8 : Nat) ≤ 2 ^ 40) <|
  .need ((y318 : Nat) ≤ 2 ^ 40) <|
  let y319 : (List Int) := (y182 ++ y316)
  .ret (.inl (.h25 y318 y318 31 31 y287 0 y319 y319))) (
  .ret (.inl (.h25 y183 y183 31 31 y287 0 y182 y182))))) (
  .need ((32 : Int) ≠ 0) <|
  let y320 : (Int × (Int × (Int × (Int × (Int × (Bool × Int)))))) := y306.2
  let y321 : Int := y320.2.2.2.2.2.2
  let y322 : Bool := (ieq (irem .i64 y321 32) 0)
  .ite y322 (
  .ret (.inl (.h25 y183 y183 0 0 y287 0 y182 y182))) (
  .ret (.inl (.h25 y183 y183 0 31 y287 0 y182 y182)))))))) (
  .need ((0 : Nat) < 1) <|
  .need ((0 : Int) ≤ 0) <|
  .need (0 < (1 : Int)) <|
  .need ((0 : Nat) < 1) <|
  .ite y4 (
  .need ((0 : Nat) < 1) <|
  .need (((0 : Nat) + 1 : Nat) ≤ 1) <|
  .need (((1 : Nat) * 8 : Nat) ≤ 2 ^ 40) <|
  .need ((1 : Nat) ≤ 2 ^ 40) <|
  let y323 : Int := y0.1
  let y324 : Bool := (ieq y323 8)
  .ite y324 (
  let y325 : DOperand := y1.2.1
  let y326 : Int := y325.1
  let y327 : Bool := (ine y326 3)
  .ite y327 (
  .need ((0 : Nat) < 1) <|
  .need ((0 : Int) ≤ 0) <|
  .need (0 < (1 : Int)) <|
  .need ((0 : Nat) < 1) <|
  let y328 : Bool := (ieq y326 1)
  .ite y328 (
  .need ((0 : Nat) < 1) <|
  .need (((0 : Nat) + 1 : Nat) ≤ 1) <|
  .need (((1 : Nat) * 8 : Nat) ≤ 2 ^ 40) <|
  .need ((1 : Nat) ≤ 2 ^ 40) <|
  let y329 : (Int × (Int × (Int × (Int × (Int × (Bool × Int)))))) := y325.2
  let y330 : Int := y329.1
  let y331 : (List Int) := [y330]
  let y332 : Int := y2.2.1
  let y333 : (List Int) := [y332]
  .ret (.inl (.h24 1 1 31 31 y331 y333))) (
  let y334 : Bool := (ieq y326 2)
  .ite y334 (
  .need (pre28 y325) <|
  let y335 : (List Int) := (fn28 y325)
  let y336 : Nat := y335.length
  .need (((y336 : Nat) * 8 : Nat) ≤ 2 ^ 40) <|
  .need ((y336 : Nat) ≤ 2 ^ 40) <|
  .need (pre28 y325) <|
  .need (((y336 : Nat) * 8 : Nat) ≤ 2 ^ 40) <|
  .need ((y336 : Nat) ≤ 2 ^ 40) <|
  let y337 : Int := y2.2.1
  let y338 : (List Int) := [y337]
  .ret (.inl (.h27 y323 y336 1 y336 31 31 y323 0 y335 y338 y335))) (
  let y339 : Int := y2.2.1
  let y340 : (List Int) := [y339]
  .ret (.inl (.h28 31 31 y340))))) (
  .need ((64 : Int) ≠ 0) <|
  let y341 : (Int × (Int × (Int × (Int × (Int × (Bool × Int)))))) := y325.2
  let y342 : Int := y341.2.2.2.2.2.2
  let y343 : Bool := (ieq (irem .i64 y342 64) 0)
  .ite y343 (
  let y344 : Int := y2.2.1
  let y345 : (List Int) := [y344]
  .ret (.inl (.h28 0 0 y345))) (
  let y346 : Int := y2.2.1
  let y347 : (List Int) := [y346]
  .ret (.inl (.h28 0 31 y347))))) (
  let y348 : DOperand := y1.2.1
  let y349 : Int := y348.1
  let y350 : Bool := (ine y349 3)
  .ite y350 (
  .need ((0 : Nat) < 1) <|
  .need ((0 : Int) ≤ 0) <|
  .need (0 < (1 : Int)) <|
  .need ((0 : Nat) < 1) <|
  let y351 : Bool := (ieq y349 1)
  .ite y351 (
  .need ((0 : Nat) < 1) <|
  .need (((0 : Nat) + 1 : Nat) ≤ 1) <|
  .need (((1 : Nat) * 8 : Nat) ≤ 2 ^ 40) <|
  .need ((1 : Nat) ≤ 2 ^ 40) <|
  let y352 : (Int × (Int × (Int × (Int × (Int × (Bool × Int)))))) := y348.2
  let y353 : Int := y352.1
  let y354 : (List Int) := [y353]
  let y355 : Int := y2.2.1
  let y356 : (List Int) := [y355]
  .ret (.inl (.h24 1 1 31 31 y354 y356))) (
  let y357 : Bool := (ieq y349 2)
  .ite y357 (
  .need (pre28 y348) <|
  let y358 : (List Int) := (fn28 y348)
  let y359 : Nat := y358.length
  .need (((y359 : Nat) * 8 : Nat) ≤ 2 ^ 40) <|
  .need ((y359 : Nat) ≤ 2 ^ 40) <|
  .need (pre28 y348) <|
  .need (((y359 : Nat) * 8 : Nat) ≤ 2 ^ 40) <|
  .need ((y359 : Nat) ≤ 2 ^ 40) <|
  let y360 : Int := y2.2.1
  let y361 : (List Int) := [y360]
  .ret (.inl (.h27 y323 y359 1 y359 31 31 y323 0 y358 y361 y358))) (
  let y362 : Int := y2.2.1
  let y363 : (List Int) := [y362]
  .ret (.inl (.h28 31 31 y363))))) (
  .need ((32 : Int) ≠ 0) <|
  let y364 : (Int × (Int × (Int × (Int × (Int × (Bool × Int)))))) := y348.2
  let y365 : Int := y364.2.2.2.2.2.2
  let y366 : Bool := (ieq (irem .i64 y365 32) 0)
  .ite y366 (
  let y367 : Int := y2.2.1
  let y368 : (List Int) := [y367]
  .ret (.inl (.h28 0 0 y368))) (
  let y369 : Int := y2.2.1
  let y370 : (List Int) := [y369]
  .ret (.inl (.h28 0 31 y370)))))) (
  .ite y181 (
  .need (pre28 y2) <|
  let y371 : (List Int) := (fn28 y2)
  let y372 : Nat := y371.length
  .need (((y372 : Nat) * 8 : Nat) ≤ 2 ^ 40) <|
  .need ((y372 : Nat) ≤ 2 ^ 40) <|
  .need (pre28 y2) <|
  .need (((y372 : Nat) * 8 : Nat) ≤ 2 ^ 40) <|
  .need ((y372 : Nat) ≤ 2 ^ 40) <|
  let y373 : Int := y0.1
  let y374 : Bool := (ieq y373 8)
  .ite y374 (
  let y375 : DOperand := y1.2.1
  let y376 : Int := y375.1
  let y377 : Bool := (ine y376 3)
  .ite y377 (
  .need ((0 : Nat) < 1) <|
  .need ((0 : Int) ≤ 0) <|
  .need (0 < (1 : Int)) <|
  .need ((0 : Nat) < 1) <|
  let y378 : Bool := (ieq y376 1)
  .ite y378 (
  .need ((0 : Nat) < 1) <|
  .need (((0 : Nat) + 1 : Nat) ≤ 1) <|
  .need ((y372 : Nat) = y372) <|
  let y379 : Nat := (y372 + 1)
  .need (((y379 : Nat) * 8 : Nat) ≤ 2 ^ 40) <|
  .need ((y379 : Nat) ≤ 2 ^ 40) <|
  let y380 : (Int × (Int × (Int × (Int × (Int × (Bool × Int)))))) := y375.2
  let y381 : Int := y380.1
  let y382 : (List Int) := [y381]
  let y383 : (List Int) := (y371 ++ y382)
  .ret (.inl (.h25 y379 y372 31 31 0 y373 y383 y371))) (
  let y384 : Bool := (ieq y376 2)
  .ite y384 (
  .need (pre28 y375) <|
  .need ((y372 : Nat) = y372) <|
  let y385 : (List Int) := (fn28 y375)
  let y386 : Nat := y385.length
  let y387 : Nat := (y372 + y386)
  .need (((y387 : Nat) * 8 : Nat) ≤ 2 ^ 40) <|
  .need ((y387 : Nat) ≤ 2 ^ 40) <|
  .need (pre28 y375) <|
  .need ((y372 : Nat) = y372) <|
  .need (((y387 : Nat) * 8 : Nat) ≤ 2 ^ 40) <|
  .need ((y387 : Nat) ≤ 2 ^ 40) <|
  let y388 : (List Int) := (y371 ++ y385)
  .ret (.inl (.h25 y387 y387 31 31 y373 y373 y388 y388))) (
  .ret (.inl (.h25 y372 y372 31 31 0 y373 y371 y371))))) (
  .need ((64 : Int) ≠ 0) <|
  let y389 : (Int × (Int × (Int × (Int × (Int × (Bool × Int)))))) := y375.2
  let y390 : Int := y389.2.2.2.2.2.2
  let y391 : Bool := (ieq (irem .i64 y390 64) 0)
  .ite y391 (
  .ret (.inl (.h25 y372 y372 0 0 0 y373 y371 y371))) (
  .ret (.inl (.h25 y372 y372 0 31 0 y373 y371 y371))))) (
  let y392 : DOperand := y1.2.1
  let y393 : Int := y392.1
  let y394 : Bool := (ine y393 3)
  .ite y394 (
  .need ((0 : Nat) < 1) <|
  .need ((0 : Int) ≤ 0) <|
  .need (0 < (1 : Int)) <|
  .need ((0 : Nat) < 1) <|
  let y395 : Bool := (ieq y393 1)
  .ite y395 (
  .need ((0 : Nat) < 1) <|
  .need (((0 : Nat) + 1 : Nat) ≤ 1) <|
  .need ((y372 : Nat) = y372) <|
  let y396 : Nat := (y372 + 1)
  .need (((y396 : Nat) * 8 : Nat) ≤ 2 ^ 40) <|
  .need ((y396 : Nat) ≤ 2 ^ 40) <|
  let y397 : (Int × (Int × (Int × (Int × (Int × (Bool × Int)))))) := y392.2
  let y398 : Int := y397.1
  let y399 : (List Int) := [y398]
  let y400 : (List Int) := (y371 ++ y399)
  .ret (.inl (.h25 y396 y372 31 31 0 y373 y400 y371))) (
  let y401 : Bool := (ieq y393 2)
  .ite y401 (
  .need (pre28 y392) <|
  .need ((y372 : Nat) = y372) <|
  let y402 : (List Int) := (fn28 y392)
  let y403 : Nat := y402.length
  let y404 : Nat := (y372 + y403)
  .need (((y404 : Nat) * 8 : Nat) ≤ 2 ^ 40) <|
  .need ((y404 : Nat) ≤ 2 ^ 40) <|
  .need (pre28 y392) <|
  .need ((y372 : Nat) = y372) <|
  .need (((y404 : Nat) * 8 : Nat) ≤ 2 ^ 40) <|
  .need ((y404 : Nat) ≤ 2 ^ 40) <|
  let y405 : (List Int) := (y371 ++ y402)
  .ret (.inl (.h25 y404 y404 31 31 y373 y373 y405 y405))) (
  .ret (.inl (.h25 y372 y372 31 31 0 y373 y371 y371))))) (
  .need ((32 : Int) ≠ 0) <|
  let y406 : (Int × (Int × (Int × (Int × (Int × (Bool × Int)))))) := y392.2
  let y407 : Int := y406.2.2.2.2.2.2
  let y408 : Bool := (ieq (irem .i64 y407 32) 0)
  .ite y408 (
  .ret (.inl (.h25 y372 y372 0 0 0 y373 y371 y371))) (
  .ret (.inl (.h25 y372 y372 0 31 0 y373 y371 y371)))))) (
  let y409 : Int := y0.1
  let y410 : Bool := (ieq y409 8)
  .ite y410 (
  let y411 : DOperand := y1.2.1
  let y412 : Int := y411.1
  let y413 : Bool := (ine y412 3)
  .ite y413 (
  .need ((0 : Nat) < 1) <|
  .need ((0 : Int) ≤ 0) <|
  .need (0 < (1 : Int)) <|
  .need ((0 : Nat) < 1) <|
  let y414 : Bool := (ieq y412 1)
  .ite y414 (
  .need ((0 : Nat) < 1) <|
  .need (((0 : Nat) + 1 : Nat) ≤ 1) <|
  .need (((1 : Nat) * 8 : Nat) ≤ 2 ^ 40) <|
  .need ((1 : Nat) ≤ 2 ^ 40) <|
  let y415 : (Int × (Int × (Int × (Int × (Int × (Bool × Int)))))) := y411.2
  let y416 : Int := y415.1
  let y417 : (List Int) := [y416]
  .ret (.inl (.h26 1 31 31 y417))) (
  let y418 : Bool := (ieq y412 2)
  .ite y418 (
  .need (pre28 y411) <|
  let y419 : (List Int) := (fn28 y411)
  let y420 : Nat := y419.length
  .need (((y420 : Nat) * 8 : Nat) ≤ 2 ^ 40) <|
  .need ((y420 : Nat) ≤ 2 ^ 40) <|
  .need (pre28 y411) <|
  .need (((y420 : Nat) * 8 : Nat) ≤ 2 ^ 40) <|
  .need ((y420 : Nat) ≤ 2 ^ 40) <|
  .ret (.inl (.h25 y420 y420 31 31 y409 0 y419 y419))) (
  .ret (.inl (.h23 31 31))))) (
  .need ((64 : Int) ≠ 0) <|
  let y421 : (Int × (Int × (Int × (Int × (Int × (Bool × Int)))))) := y411.2
  let y422 : Int := y421.2.2.2.2.2.2
  let y423 : Bool := (ieq (irem .i64 y422 64) 0)
  .ite y423 (
  .ret (.inl (.h23 0 0))) (
  .ret (.inl (.h23 0 31))))) (
  let y424 : DOperand := y1.2.1
  let y425 : Int := y424.1
  let y426 : Bool := (ine y425 3)
  .ite y426 (
  .need ((0 : Nat) < 1) <|
  .need ((0 : Int) ≤ 0) <|
  .need (0 < (1 : Int)) <|
  .need ((0 : Nat) < 1) <|
  let y427 : Bool := (ieq y425 1)
  .ite y427 (
  .need ((0 : Nat) < 1) <|
  .need (((0 : Nat) + 1 : Nat) ≤ 1) <|
  .need (((1 : Nat) * 8 : Nat) ≤ 2 ^ 40) <|
  .need ((1 : Nat) ≤ 2 ^ 40) <|
  let y428 : (Int × (Int × (Int × (Int × (Int × (Bool × Int)))))) := y424.2
  let y429 : Int := y428.1
  let y430 : (List Int) := [y429]
  .ret (.inl (.h26 1 31 31 y430))) (
  let y431 : Bool := (ieq y425 2)
  .ite y431 (
  .need (pre28 y424) <|
  let y432 : (List Int) := (fn28 y424)
  let y433 : Nat := y432.length
  .need (((y433 : Nat) * 8 : Nat) ≤ 2 ^ 40) <|
  .need ((y433 : Nat) ≤ 2 ^ 40) <|
  .need (pre28 y424) <|
  .need (((y433 : Nat) * 8 : Nat) ≤ 2 ^ 40) <|
  .need ((y433 : Nat) ≤ 2 ^ 40) <|
  .ret (.inl (.h25 y433 y433 31 31 y409 0 y432 y432))) (
  .ret (.inl (.h23 31 31))))) (
  .need ((32 : Int) ≠ 0) <|
  let y434 : (Int × (Int × (Int × (Int × (Int × (Bool × Int)))))) := y424.2
  let y435 : Int := y434.2.2.2.2.2.2
  let y436 : Bool := (ieq (irem .i64 y435 32) 0)
  .ite y436 (
  .ret (.inl (.h23 0 0))) (
  .ret (.inl (.h23 0 31)))))))))
noncomputable def step7h10 (x : DInsn) : Tr (J7 ⊕ DFacts) :=
  .need ((0 : Nat) < 1) <|
  .need ((0 : Int) ≤ 0) <|
  .need (0 < (1 : Int)) <|
  .need ((0 : Nat) < 1) <|
  let y0 : (Int × (DOperand × (DOperand × (Int × Int)))) := x.2.2
  let y1 : (DOperand × (DOperand × (Int × Int))) := y0.2
  let y2 : DOperand := y1.1
  let y3 : Int := y2.1
  let y4 : Bool := (ieq y3 1)
  .ite y4 (
  .need ((0 : Nat) < 1) <|
  .need (((0 : Nat) + 1 : Nat) ≤ 1) <|
  .need (((1 : Nat) * 8 : Nat) ≤ 2 ^ 40) <|
  .need ((1 : Nat) ≤ 2 ^ 40) <|
  .need ((0 : Nat) < 1) <|
  .need ((0 : Int) ≤ 0) <|
  .need (0 < (1 : Int)) <|
  .need ((0 : Nat) < 1) <|
  .ite y4 (
  .need ((0 : Nat) < 1) <|
  .need (((0 : Nat) + 1 : Nat) ≤ 1) <|
  .need (((1 : Nat) * 8 : Nat) ≤ 2 ^ 40) <|
  .need ((1 : Nat) ≤ 2 ^ 40) <|
  let y5 : Int := y0.1
  let y6 : Bool := (ieq y5 8)
  .ite y6 (
  let y7 : DOperand := y1.2.1
  let y8 : Int := y7.1
  let y9 : Bool := (ine y8 3)
  .ite y9 (
  .need ((0 : Nat) < 1) <|
  .need ((0 : Int) ≤ 0) <|
  .need (0 < (1 : Int)) <|
  .need ((0 : Nat) < 1) <|
  let y10 : Bool := (ieq y8 1)
  .ite y10 (
  .need ((0 : Nat) < 1) <|
  .need (((0 : Nat) + 1 : Nat) ≤ 1) <|
  .need ((1 : Nat) = 1) <|
  .need (((2 : Nat) * 8 : Nat) ≤ 2 ^ 40) <|
  .need ((2 : Nat) ≤ 2 ^ 40) <|
  let y11 : Int := y2.2.1
  let y12 : (Int × (Int × (Int × (Int × (Int × (Bool × Int)))))) := y7.2
  let y13 : Int := y12.1
  let y14 : (List Int) := [y11, y13]
  let y15 : (List Int) := [y11]
  .ret (.inl (.h24 2 1 9 9 y14 y15))) (
  let y16 : Bool := (ieq y8 2)
  .ite y16 (
  .need (pre28 y7) <|
  .need ((1 : Nat) = 1) <|
  let y17 : (List Int) := (fn28 y7)
  let y18 : Nat := y17.length
  let y19 : Nat := (1 + y18)
  .need (((y19 : Nat) * 8 : Nat) ≤ 2 ^ 40) <|
  .need ((y19 : Nat) ≤ 2 ^ 40) <|
  .need (pre28 y7) <|
  .need (((y18 : Nat) * 8 : Nat) ≤ 2 ^ 40) <|
  .need ((y18 : Nat) ≤ 2 ^ 40) <|
  let y20 : Int := y2.2.1
  let y21 : (List Int) := [y20]
  let y22 : (List Int) := (y21 ++ y17)
  .ret (.inl (.h27 y5 y19 1 y18 9 9 y5 0 y22 y21 y17))) (
  let y23 : Int := y2.2.1
  let y24 : (List Int) := [y23]
  .ret (.inl (.h24 1 1 9 9 y24 y24))))) (
  .need ((64 : Int) ≠ 0) <|
  let y25 : (Int × (Int × (Int × (Int × (Int × (Bool × Int)))))) := y7.2
  let y26 : Int := y25.2.2.2.2.2.2
  let y27 : Bool := (ieq (irem .i64 y26 64) 0)
  .ite y27 (
  let y28 : Int := y2.2.1
  let y29 : (List Int) := [y28]
  .ret (.inl (.h24 1 1 0 0 y29 y29))) (
  let y30 : Int := y2.2.1
  let y31 : (List Int) := [y30]
  .ret (.inl (.h24 1 1 0 9 y31 y31))))) (
  let y32 : DOperand := y1.2.1
  let y33 : Int := y32.1
  let y34 : Bool := (ine y33 3)
  .ite y34 (
  .need ((0 : Nat) < 1) <|
  .need ((0 : Int) ≤ 0) <|
  .need (0 < (1 : Int)) <|
  .need ((0 : Nat) < 1) <|
  let y35 : Bool := (ieq y33 1)
  .ite y35 (
  .need ((0 : Nat) < 1) <|
  .need (((0 : Nat) + 1 : Nat) ≤ 1) <|
  .need ((1 : Nat) = 1) <|
  .need (((2 : Nat) * 8 : Nat) ≤ 2 ^ 40) <|
  .need ((2 : Nat) ≤ 2 ^ 40) <|
  let y36 : Int := y2.2.1
  let y37 : (Int × (Int × (Int × (Int × (Int × (Bool × Int)))))) := y32.2
  let y38 : Int := y37.1
  let y39 : (List Int) := [y36, y38]
  let y40 : (List Int) := [y36]
  .ret (.inl (.h24 2 1 9 9 y39 y40))) (
  let y41 : Bool := (ieq y33 2)
  .ite y41 (
  .need (pre28 y32) <|
  .need ((1 : Nat) = 1) <|
  let y42 : (List Int) := (fn28 y32)
  let y43 : Nat := y42.length
  let y44 : Nat := (1 + y43)
  .need (((y44 : Nat) * 8 : Nat) ≤ 2 ^ 40) <|
  .need ((y44 : Nat) ≤ 2 ^ 40) <|
  .need (pre28 y32) <|
  .need (((y43 : Nat) * 8 : Nat) ≤ 2 ^ 40) <|
  .need ((y43 : Nat) ≤ 2 ^ 40) <|
  let y45 : Int := y2.2.1
  let y46 : (List Int) := [y45]
  let y47 : (List Int) := (y46 ++ y42)
  .ret (.inl (.h27 y5 y44 1 y43 9 9 y5 0 y47 y46 y42))) (
  let y48 : Int := y2.2.1
  let y49 : (List Int) := [y48]
  .ret (.inl (.h24 1 1 9 9 y49 y49))))) (
  .need ((32 : Int) ≠ 0) <|
  let y50 : (Int × (Int × (Int × (Int × (Int × (Bool × Int)))))) := y32.2
  let y51 : Int := y50.2.2.2.2.2.2
  let y52 : Bool := (ieq (irem .i64 y51 32) 0)
  .ite y52 (
  let y53 : Int := y2.2.1
  let y54 : (List Int) := [y53]
  .ret (.inl (.h24 1 1 0 0 y54 y54))) (
  let y55 : Int := y2.2.1
  let y56 : (List Int) := [y55]
  .ret (.inl (.h24 1 1 0 9 y56 y56)))))) (
  let y57 : Bool := (ieq y3 2)
  .ite y57 (
  .need (pre28 y2) <|
  .need ((1 : Nat) = 1) <|
  let y58 : (List Int) := (fn28 y2)
  let y59 : Nat := y58.length
  let y60 : Nat := (1 + y59)
  .need (((y60 : Nat) * 8 : Nat) ≤ 2 ^ 40) <|
  .need ((y60 : Nat) ≤ 2 ^ 40) <|
  .need (pre28 y2) <|
  .need (((y59 : Nat) * 8 : Nat) ≤ 2 ^ 40) <|
  .need ((y59 : Nat) ≤ 2 ^ 40) <|
  let y61 : Int := y0.1
  let y62 : Bool := (ieq y61 8)
  .ite y62 (
  let y63 : DOperand := y1.2.1
  let y64 : Int := y63.1
  let y65 : Bool := (ine y64 3)
  .ite y65 (
  .need ((0 : Nat) < 1) <|
  .need ((0 : Int) ≤ 0) <|
  .need (0 < (1 : Int)) <|
  .need ((0 : Nat) < 1) <|
  let y66 : Bool := (ieq y64 1)
  .ite y66 (
  .need ((0 : Nat) < 1) <|
  .need (((0 : Nat) + 1 : Nat) ≤ 1) <|
  let y67 : Int := y2.2.1
  let y68 : (List Int) := [y67]
  let y69 : (List Int) := (y68 ++ y58)
  .need ((y60 : Nat) = y69.length) <|
  let y70 : Nat := (y60 + 1)
  .need (((y70 : Nat) * 8 : Nat) ≤ 2 ^ 40) <|
  .need ((y70 : Nat) ≤ 2 ^ 40) <|
  let y71 : (Int × (Int × (Int × (Int × (Int × (Bool × Int)))))) := y63.2
  let y72 : Int := y71.1
  let y73 : (List Int) := [y72]
  let y74 : (List Int) := (y69 ++ y73)
  .ret (.inl (.h25 y70 y59 9 9 0 y61 y74 y58))) (
  let y75 : Bool := (ieq y64 2)
  .ite y75 (
  .need (pre28 y63) <|
  let y76 : Int := y2.2.1
  let y77 : (List Int) := [y76]
  let y78 : (List Int) := (y77 ++ y58)
  .need ((y60 : Nat) = y78.length) <|
  let y79 : (List Int) := (fn28 y63)
  let y80 : Nat := y79.length
  let y81 : Nat := (y60 + y80)
  .need (((y81 : Nat) * 8 : Nat) ≤ 2 ^ 40) <|
  .need ((y81 : Nat) ≤ 2 ^ 40) <|
  .need (pre28 y63) <|
  .need ((y59 : Nat) = y59) <|
  let y82 : Nat := (y59 + y80)
  .need (((y82 : Nat) * 8 : Nat) ≤ 2 ^ 40) <|
  .need ((y82 : Nat) ≤ 2 ^ 40) <|
  let y83 : (List Int) := (y78 ++ y79)
  let y84 : (List Int) := (y58 ++ y79)
  .ret (.inl (.h25 y81 y82 9 9 y61 y61 y83 y84))) (
  let y85 : Int := y2.2.1
  let y86 : (List Int) := [y85]
  let y87 : (List Int) := (y86 ++ y58)
  .ret (.inl (.h25 y60 y59 9 9 0 y61 y87 y58))))) (
  .need ((64 : Int) ≠ 0) <|
  let y88 : (Int × (Int × (Int × (Int × (Int × (Bool × Int)))))) := y63.2
  let y89 : Int := y88.2.2.2.2.2.2
  let y90 : Bool := (ieq (irem .i64 y89 64) 0)
  .ite y90 (
  let y91 : Int := y2.2.1
  let y92 : (List Int) := [y91]
  let y93 : (List Int) := (y92 ++ y58)
  .ret (.inl (.h25 y60 y59 0 0 0 y61 y93 y58))) (
  let y94 : Int := y2.2.1
  let y95 : (List Int) := [y94]
  let y96 : (List Int) := (y95 ++ y58)
  .ret (.inl (.h25 y60 y59 0 9 0 y61 y96 y58))))) (
  let y97 : DOperand := y1.2.1
  let y98 : Int := y97.1
  let y99 : Bool := (ine y98 3)
  .ite y99 (
  .need ((0 : Nat) < 1) <|
  .need ((0 : Int) ≤ 0) <|
  .need (0 < (1 : Int)) <|
  .need ((0 : Nat) < 1) <|
  let y100 : Bool := (ieq y98 1)
  .ite y100 (
  .need ((0 : Nat) < 1) <|
  .need (((0 : Nat) + 1 : Nat) ≤ 1) <|
  let y101 : Int := y2.2.1
  let y102 : (List Int) := [y101]
  let y103 : (List Int) := (y102 ++ y58)
  .need ((y60 : Nat) = y103.length) <|
  let y104 : Nat := (y60 + 1)
  .need (((y104 : Nat) * 8 : Nat) ≤ 2 ^ 40) <|
  .need ((y104 : Nat) ≤ 2 ^ 40) <|
  let y105 : (Int × (Int × (Int × (Int × (Int × (Bool × Int)))))) := y97.2
  let y106 : Int := y105.1
  let y107 : (List Int) := [y106]
  let y108 : (List Int) := (y103 ++ y107)
  .ret (.inl (.h25 y104 y59 9 9 0 y61 y108 y58))) (
  let y109 : Bool := (ieq y98 2)
  .ite y109 (
  .need (pre28 y97) <|
  let y110 : Int := y2.2.1
  let y111 : (List Int) := [y110]
  let y112 : (List Int) := (y111 ++ y58)
  .need ((y60 : Nat) = y112.length) <|
  let y113 : (List Int) := (fn28 y97)
  let y114 : Nat := y113.length
  let y115 : Nat := (y60 + y114)
  .need (((y115 : Nat) * 8 : Nat) ≤ 2 ^ 40) <|
  .need ((y115 : Nat) ≤ 2 ^ 40) <|
  .need (pre28 y97) <|
  .need ((y59 : Nat) = y59) <|
  let y116 : Nat := (y59 + y114)
  .need (((y116 : Nat) * 8 : Nat) ≤ 2 ^ 40) <|
  .need ((y116 : Nat) ≤ 2 ^ 40) <|
  let y117 : (List Int) := (y112 ++ y113)
  let y118 : (List Int) := (y58 ++ y113)
  .ret (.inl (.h25 y115 y116 9 9 y61 y61 y117 y118))) (
  let y119 : Int := y2.2.1
  let y120 : (List Int) := [y119]
  let y121 : (List Int) := (y120 ++ y58)
  .ret (.inl (.h25 y60 y59 9 9 0 y61 y121 y58))))) (
  .need ((32 : Int) ≠ 0) <|
  let y122 : (Int × (Int × (Int × (Int × (Int × (Bool × Int)))))) := y97.2
  let y123 : Int := y122.2.2.2.2.2.2
  let y124 : Bool := (ieq (irem .i64 y123 32) 0)
  .ite y124 (
  let y125 : Int := y2.2.1
  let y126 : (List Int) := [y125]
  let y127 : (List Int) := (y126 ++ y58)
  .ret (.inl (.h25 y60 y59 0 0 0 y61 y127 y58))) (
  let y128 : Int := y2.2.1
  let y129 : (List Int) := [y128]
  let y130 : (List Int) := (y129 ++ y58)
  .ret (.inl (.h25 y60 y59 0 9 0 y61 y130 y58)))))) (
  let y131 : Int := y0.1
  let y132 : Bool := (ieq y131 8)
  .ite y132 (
  let y133 : DOperand := y1.2.1
  let y134 : Int := y133.1
  let y135 : Bool := (ine y134 3)
  .ite y135 (
  .need ((0 : Nat) < 1) <|
  .need ((0 : Int) ≤ 0) <|
  .need (0 < (1 : Int)) <|
  .need ((0 : Nat) < 1) <|
  let y136 : Bool := (ieq y134 1)
  .ite y136 (
  .need ((0 : Nat) < 1) <|
  .need (((0 : Nat) + 1 : Nat) ≤ 1) <|
  .need ((1 : Nat) = 1) <|
  .need (((2 : Nat) * 8 : Nat) ≤ 2 ^ 40) <|
  .need ((2 : Nat) ≤ 2 ^ 40) <|
  let y137 : Int := y2.2.1
  let y138 : (Int × (Int × (Int × (Int × (Int × (Bool × Int)))))) := y133.2
  let y139 : Int := y138.1
  let y140 : (List Int) := [y137, y139]
  .ret (.inl (.h26 2 9 9 y140))) (
  let y141 : Bool := (ieq y134 2)
  .ite y141 (
  .need (pre28 y133) <|
  .need ((1 : Nat) = 1) <|
  let y142 : (List Int) := (fn28 y133)
  let y143 : Nat := y142.length
  let y144 : Nat := (1 + y143)
  .need (((y144 : Nat) * 8 : Nat) ≤ 2 ^ 40) <|
  .need ((y144 : Nat) ≤ 2 ^ 40) <|
  .need (pre28 y133) <|
  .need (((y143 : Nat) * 8 : Nat) ≤ 2 ^ 40) <|
  .need ((y143 : Nat) ≤ 2 ^ 40) <|
  let y145 : Int := y2.2.1
  let y146 : (List Int) := [y145]
  let y147 : (List Int) := (y146 ++ y142)
  .ret (.inl (.h25 y144 y143 9 9 y131 0 y147 y142))) (
  let y148 : Int := y2.2.1
  let y149 : (List Int) := [y148]
  .ret (.inl (.h26 1 9 9 y149))))) (
  .need ((64 : Int) ≠ 0) <|
  let y150 : (Int × (Int × (Int × (Int × (Int × (Bool × Int)))))) := y133.2
  let y151 : Int := y150.2.2.2.2.2.2
  let y152 : Bool := (ieq (irem .i64 y151 64) 0)
  .ite y152 (
  let y153 : Int := y2.2.1
  let y154 : (List Int) := [y153]
  .ret (.inl (.h26 1 0 0 y154))) (
  let y155 : Int := y2.2.1
  let y156 : (List Int) := [y155]
  .ret (.inl (.h26 1 0 9 y156))))) (
  let y157 : DOperand := y1.2.1
  let y158 : Int := y157.1
  let y159 : Bool := (ine y158 3)
  .ite y159 (
  .need ((0 : Nat) < 1) <|
  .need ((0 : Int) ≤ 0) <|
  .need (0 < (1 : Int)) <|
  .need ((0 : Nat) < 1) <|
  let y160 : Bool := (ieq y158 1)
  .ite y160 (
  .need ((0 : Nat) < 1) <|
  .need (((0 : Nat) + 1 : Nat) ≤ 1) <|
  .need ((1 : Nat) = 1) <|
  .need (((2 : Nat) * 8 : Nat) ≤ 2 ^ 40) <|
  .need ((2 : Nat) ≤ 2 ^ 40) <|
  let y161 : Int := y2.2.1
  let y162 : (Int × (Int × (Int × (Int × (Int × (Bool × Int)))))) := y157.2
  let y163 : Int := y162.1
  let y164 : (List Int) := [y161, y163]
  .ret (.inl (.h26 2 9 9 y164))) (
  let y165 : Bool := (ieq y158 2)
  .ite y165 (
  .need (pre28 y157) <|
  .need ((1 : Nat) = 1) <|
  let y166 : (List Int) := (fn28 y157)
  let y167 : Nat := y166.length
  let y168 : Nat := (1 + y167)
  .need (((y168 : Nat) * 8 : Nat) ≤ 2 ^ 40) <|
  .need ((y168 : Nat) ≤ 2 ^ 40) <|
  .need (pre28 y157) <|
  .need (((y167 : Nat) * 8 : Nat) ≤ 2 ^ 40) <|
  .need ((y167 : Nat) ≤ 2 ^ 40) <|
  let y169 : Int := y2.2.1
  let y170 : (List Int) := [y169]
  let y171 : (List Int) := (y170 ++ y166)
  .ret (.inl (.h25 y168 y167 9 9 y131 0 y171 y166))) (
  let y172 : Int := y2.2.1
  let y173 : (List Int) := [y172]
  .ret (.inl (.h26 1 9 9 y173))))) (
  .need ((32 : Int) ≠ 0) <|
  let y174 : (Int × (Int × (Int × (Int × (Int × (Bool × Int)))))) := y157.2
  let y175 : Int := y174.2.2.2.2.2.2
  let y176 : Bool := (ieq (irem .i64 y175 32) 0)
  .ite y176 (
  let y177 : Int := y2.2.1
  let y178 : (List Int) := [y177]
  .ret (.inl (.h26 1 0 0 y178))) (
  let y179 : Int := y2.2.1
  let y180 : (List Int) := [y179]
  .ret (.inl (.h26 1 0 9 y180)))))))) (
  let y181 : Bool := (ieq y3 2)
  .ite y181 (
  .need (pre28 y2) <|
  let y182 : (List Int) := (fn28 y2)
  let y183 : Nat := y182.length
  .need (((y183 : Nat) * 8 : Nat) ≤ 2 ^ 40) <|
  .need ((y183 : Nat) ≤ 2 ^ 40) <|
  .need (pre28 y2) <|
  .need (((y183 : Nat) * 8 : Nat) ≤ 2 ^ 40) <|
  .need ((y183 : Nat) ≤ 2 ^ 40) <|
  .need ((0 : Nat) < 1) <|
  .need ((0 : Int) ≤ 0) <|
  .need (0 < (1 : Int)) <|
  .need ((0 : Nat) < 1) <|
  .ite y4 (
  .need ((0 : Nat) < 1) <|
  .need (((0 : Nat) + 1 : Nat) ≤ 1) <|
  .need (((1 : Nat) * 8 : Nat) ≤ 2 ^ 40) <|
  .need ((1 : Nat) ≤ 2 ^ 40) <|
  let y184 : Int := y0.1
  let y185 : Bool := (ieq y184 8)
  .ite y185 (
  let y186 : DOperand := y1.2.1
  let y187 : Int := y186.1
  let y188 : Bool := (ine y187 3)
  .ite y188 (
  .need ((0 : Nat) < 1) <|
  .need ((0 : Int) ≤ 0) <|
  .need (0 < (1 : Int)) <|
  .need ((0 : Nat) < 1) <|
  let y189 : Bool := (ieq y187 1)
  .ite y189 (
  .need ((0 : Nat) < 1) <|
  .need (((0 : Nat) + 1 : Nat) ≤ 1) <|
  .need ((y183 : Nat) = y183) <|
  let y190 : Nat := (y183 + 1)
  .need (((y190 : Nat) * 8 : Nat) ≤ 2 ^ 40) <|
  .need ((y190 : Nat) ≤ 2 ^ 40) <|
  let y191 : (Int × (Int × (Int × (Int × (Int × (Bool × Int)))))) := y186.2
  let y192 : Int := y191.1
  let y193 : (List Int) := [y192]
  let y194 : (List Int) := (y182 ++ y193)
  let y195 : Int := y2.2.1
  let y196 : (List Int) := [y195]
  .ret (.inl (.h27 y184 y190 1 y183 9 9 y184 0 y194 y196 y182))) (
  let y197 : Bool := (ieq y187 2)
  .ite y197 (
  .need (pre28 y186) <|
  .need ((y183 : Nat) = y183) <|
  let y198 : (List Int) := (fn28 y186)
  let y199 : Nat := y198.length
  let y200 : Nat := (y183 + y199)
  .need (((y200 : Nat) * 8 : Nat) ≤ 2 ^ 40) <|
  .need ((y200 : Nat) ≤ 2 ^ 40) <|
  .need (pre28 y186) <|
  .need ((y183 : Nat) = y183) <|
  .need (((y200 : Nat) * 8 : Nat) ≤ 2 ^ 40) <|
  .need ((y200 : Nat) ≤ 2 ^ 40) <|
  let y201 : (List Int) := (y182 ++ y198)
  let y202 : Int := y2.2.1
  let y203 : (List Int) := [y202]
  .ret (.inl (.h27 y184 y200 1 y200 9 9 y184 0 y201 y203 y201))) (
  let y204 : Int := y2.2.1
  let y205 : (List Int) := [y204]
  .ret (.inl (.h27 y184 y183 1 y183 9 9 y184 0 y182 y205 y182))))) (
  .need ((64 : Int) ≠ 0) <|
  let y206 : (Int × (Int × (Int × (Int × (Int × (Bool × Int)))))) := y186.2
  let y207 : Int := y206.2.2.2.2.2.2
  let y208 : Bool := (ieq (irem .i64 y207 64) 0)
  .ite y208 (
  let y209 : Int := y2.2.1
  let y210 : (List Int) := [y209]
  .ret (.inl (.h27 y184 y183 1 y183 0 0 y184 0 y182 y210 y182))) (
  let y211 : Int := y2.2.1
  let y212 : (List Int) := [y211]
  .ret (.inl (.h27 y184 y183 1 y183 0 9 y184 0 y182 y212 y182))))) (
  let y213 : DOperand := y1.2.1
  let y214 : Int := y213.1
  let y215 : Bool := (ine y214 3)
  .ite y215 (
  .need ((0 : Nat) < 1) <|
  .need ((0 : Int) ≤ 0) <|
  .need (0 < (1 : Int)) <|
  .need ((0 : Nat) < 1) <|
  let y216 : Bool := (ieq y214 1)
  .ite y216 (
  .need ((0 : Nat) < 1) <|
  .need (((0 : Nat) + 1 : Nat) ≤ 1) <|
  .need ((y183 : Nat) = y183) <|
  let y217 : Nat := (y183 + 1)
  .need (((y217 : Nat) * 8 : Nat) ≤ 2 ^ 40) <|
  .need ((y217 : Nat) ≤ 2 ^ 40) <|
  let y218 : (Int × (Int × (Int × (Int × (Int × (Bool × Int)))))) := y213.2
  let y219 : Int := y218.1
  let y220 : (List Int) := [y219]
  let y221 : (List Int) := (y182 ++ y220)
  let y222 : Int := y2.2.1
  let y223 : (List Int) := [y222]
  .ret (.inl (.h27 y184 y217 1 y183 9 9 y184 0 y221 y223 y182))) (
  let y224 : Bool := (ieq y214 2)
  .ite y224 (
  .need (pre28 y213) <|
  .need ((y183 : Nat) = y183) <|
  let y225 : (List Int) := (fn28 y213)
  let y226 : Nat := y225.length
  let y227 : Nat := (y183 + y226)
  .need (((y227 : Nat) * 8 : Nat) ≤ 2 ^ 40) <|
  .need ((y227 : Nat) ≤ 2 ^ 40) <|
  .need (pre28 y213) <|
  .need ((y183 : Nat) = y183) <|
  .need (((y227 : Nat) * 8 : Nat) ≤ 2 ^ 40) <|
  .need ((y227 : Nat) ≤ 2 ^ 40) <|
  let y228 : (List Int) := (y182 ++ y225)
  let y229 : Int := y2.2.1
  let y230 : (List Int) := [y229]
  .ret (.inl (.h27 y184 y227 1 y227 9 9 y184 0 y228 y230 y228))) (
  let y231 : Int := y2.2.1
  let y232 : (List Int) := [y231]
  .ret (.inl (.h27 y184 y183 1 y183 9 9 y184 0 y182 y232 y182))))) (
  .need ((32 : Int) ≠ 0) <|
  let y233 : (Int × (Int × (Int × (Int × (Int × (Bool × Int)))))) := y213.2
  let y234 : Int := y233.2.2.2.2.2.2
  let y235 : Bool := (ieq (irem .i64 y234 32) 0)
  .ite y235 (
  let y236 : Int := y2.2.1
  let y237 : (List Int) := [y236]
  .ret (.inl (.h27 y184 y183 1 y183 0 0 y184 0 y182 y237 y182))) (
  let y238 : Int := y2.2.1
  let y239 : (List Int) := [y238]
  .ret (.inl (.h27 y184 y183 1 y183 0 9 y184 0 y182 y239 y182)))))) (
  .ite y181 (
  .need (pre28 y2) <|
  .need ((y183 : Nat) = y183) <|
  let y240 : Nat := (y183 + y183)
  .need (((y240 : Nat) * 8 : Nat) ≤ 2 ^ 40) <|
  .need ((y240 : Nat) ≤ 2 ^ 40) <|
  .need (pre28 y2) <|
  .need ((y183 : Nat) = y183) <|
  .need (((y240 : Nat) * 8 : Nat) ≤ 2 ^ 40) <|
  .need ((y240 : Nat) ≤ 2 ^ 40) <|
  let y241 : Int := y0.1
  let y242 : Bool := (ieq y241 8)
  .ite y242 (
  let y243 : DOperand := y1.2.1
  let y244 : Int := y243.1
  let y245 : Bool := (ine y244 3)
  .ite y245 (
  .need ((0 : Nat) < 1) <|
  .need ((0 : Int) ≤ 0) <|
  .need (0 < (1 : Int)) <|
  .need ((0 : Nat) < 1) <|
  let y246 : Bool := (ieq y244 1)
  .ite y246 (
  .need ((0 : Nat) < 1) <|
  .need (((0 : Nat) + 1 : Nat) ≤ 1) <|
  let y247 : (List Int) := (y182 ++ y182)
  .need ((y240 : Nat) = y247.length) <|
  let y248 : Nat := (y240 + 1)
  .need (((y248 : Nat) * 8 : Nat) ≤ 2 ^ 40) <|
  .need ((y248 : Nat) ≤ 2 ^ 40) <|
  let y249 : (Int × (Int × (Int × (Int × (Int × (Bool × Int)))))) := y243.2
  let y250 : Int := y249.1
  let y251 : (List Int) := [y250]
  let y252 : (List Int) := (y247 ++ y251)
  .ret (.inl (.h25 y248 y240 9 9 y241 y241 y252 y247))) (
  let y253 : Bool := (ieq y244 2)
  .ite y253 (
  .need (pre28 y243) <|
  let y254 : (List Int) := (y182 ++ y182)
  .need ((y240 : Nat) = y254.length) <|
  let y255 : (List Int) := (fn28 y243)
  let y256 : Nat := y255.length
  let y257 : Nat := (y240 + y256)
  .need (((y257 : Nat) * 8 : Nat) ≤ 2 ^ 40) <|
  .need ((y257 : Nat) ≤ 2 ^ 40) <|
  .need (pre28 y243) <|
  .need ((y240 : Nat) = y254.length) <|
  .need (((y257 : Nat) * 8 : Nat) ≤ 2 ^ 40) <|
  .need ((y257 : Nat) ≤ 2 ^ 40) <|
  let y258 : (List Int) := (y254 ++ y255)
  .ret (.inl (.h25 y257 y257 9 9 y241 y241 y258 y258))) (
  let y259 : (List Int) := (y182 ++ y182)
  .ret (.inl (.h25 y240 y240 9 9 y241 y241 y259 y259))))) (
  .need ((64 : Int) ≠ 0) <|
  let y260 : (Int × (Int × (Int × (Int × (Int × (Bool × Int)))))) := y243.2
  let y261 : Int := y260.2.2.2.2.2.2
  let y262 : Bool := (ieq (irem .i64 y261 64) 0)
  .ite y262 (
  let y263 : (List Int) := (y182 ++ y182)
  .ret (.inl (.h25 y240 y240 0 0 y241 y241 y263 y263))) (
  let y264 : (List Int) := (y182 ++ y182)
  .ret (.inl (.h25 y240 y240 0 9 y241 y241 y264 y264))))) (
  let y265 : DOperand := y1.2.1
  let y266 : Int := y265.1
  let y267 : Bool := (ine y266 3)
  .ite y267 (
  .need ((0 : Nat) < 1) <|
  .need ((0 : Int) ≤ 0) <|
  .need (0 < (1 : Int)) <|
  .need ((0 : Nat) < 1) <|
  let y268 : Bool := (ieq y266 1)
  .ite y268 (
  .need ((0 : Nat) < 1) <|
  .need (((0 : Nat) + 1 : Nat) ≤ 1) <|
  let y269 : (List Int) := (y182 ++ y182)
  .need ((y240 : Nat) = y269.length) <|
  let y270 : Nat := (y240 + 1)
  .need (((y270 : Nat) * 8 : Nat) ≤ 2 ^ 40) <|
  .need ((y270 : Nat) ≤ 2 ^ 40) <|
  let y271 : (Int × (Int × (Int × (Int × (Int × (Bool × Int)))))) := y265.2
  let y272 : Int := y271.1
  let y273 : (List Int) := [y272]
  let y274 : (List Int) := (y269 ++ y273)
  .ret (.inl (.h25 y270 y240 9 9 y241 y241 y274 y269))) (
  let y275 : Bool := (ieq y266 2)
  .ite y275 (
  .need (pre28 y265) <|
  let y276 : (List Int) := (y182 ++ y182)
  .need ((y240 : Nat) = y276.length) <|
  let y277 : (List Int) := (fn28 y265)
  let y278 : Nat := y277.length
  let y279 : Nat := (y240 + y278)
  .need (((y279 : Nat) * 8 : Nat) ≤ 2 ^ 40) <|
  .need ((y279 : Nat) ≤ 2 ^ 40) <|
  .need (pre28 y265) <|
  .need ((y240 : Nat) = y276.length) <|
  .need (((y279 : Nat) * 8 : Nat) ≤ 2 ^ 40) <|
  .need ((y279 : Nat) ≤ 2 ^ 40) <|
  let y280 : (List Int) := (y276 ++ y277)
  .ret (.inl (.h25 y279 y279 9 9 y241 y241 y280 y280))) (
  let y281 : (List Int) := (y182 ++ y182)
  .ret (.inl (.h25 y240 y240 9 9 y241 y241 y281 y281))))) (
  .need ((32 : Int) ≠ 0) <|
  let y282 : (Int × (Int × (Int × (Int × (Int × (Bool × Int)))))) := y265.2
  let y283 : Int := y282.2.2.2.2.2.2
  let y284 : Bool := (ieq (irem .i64 y283 32) 0)
  .ite y284 (
  let y285 : (List Int) := (y182 ++ y182)
  .ret (.inl (.h25 y240 y240 0 0 y241 y241 y285 y285))) (
  let y286 : (List Int) := (y182 ++ y182)
  .ret (.inl (.h25 y240 y240 0 9 y241 y241 y286 y286)))))) (
  let y287 : Int := y0.1
  let y288 : Bool := (ieq y287 8)
  .ite y288 (
  let y289 : DOperand := y1.2.1
  let y290 : Int := y289.1
  let y291 : Bool := (ine y290 3)
  .ite y291 (
  .need ((0 : Nat) < 1) <|
  .need ((0 : Int) ≤ 0) <|
  .need (0 < (1 : Int)) <|
  .need ((0 : Nat) < 1) <|
  let y292 : Bool := (ieq y290 1)
  .ite y292 (
  .need ((0 : Nat) < 1) <|
  .need (((0 : Nat) + 1 : Nat) ≤ 1) <|
  .need ((y183 : Nat) = y183) <|
  let y293 : Nat := (y183 + 1)
  .need (((y293 : Nat) * 8 : Nat) ≤ 2 ^ 40) <|
  .need ((y293 : Nat) ≤ 2 ^ 40) <|
  let y294 : (Int × (Int × (Int × (Int × (Int × (Bool × Int)))))) := y289.2
  let y295 : Int := y294.1
  let y296 : (List Int) := [y295]
  let y297 : (List Int) := (y182 ++ y296)
  .ret (.inl (.h25 y293 y183 9 9 y287 0 y297 y182))) (
  let y298 : Bool := (ieq y290 2)
  .ite y298 (
  .need (pre28 y289) <|
  .need ((y183 : Nat) = y183) <|
  let y299 : (List Int) := (fn28 y289)
  let y300 : Nat := y299.length
  let y301 : Nat := (y183 + y300)
  .need (((y301 : Nat) * 8 : Nat) ≤ 2 ^ 40) <|
  .need ((y301 : Nat) ≤ 2 ^ 40) <|
  .need (pre28 y289) <|
  .need ((y183 : Nat) = y183) <|
  .need (((y301 : Nat) * 8 : Nat) ≤ 2 ^ 40) <|
  .need ((y301 : Nat) ≤ 2 ^ 40) <|
  let y302 : (List Int) := (y182 ++ y299)
  .ret (.inl (.h25 y301 y301 9 9 y287 0 y302 y302))) (
  .ret (.inl (.h25 y183 y183 9 9 y287 0 y182 y182))))) (
  .need ((64 : Int) ≠ 0) <|
  let y303 : (Int × (Int × (Int × (Int × (Int × (Bool × Int)))))) := y289.2
  let y304 : Int := y303.2.2.2.2.2.2
  let y305 : Bool := (ieq (irem .i64 y304 64) 0)
  .ite y305 (
  .ret (.inl (.h25 y183 y183 0 0 y287 0 y182 y182))) (
  .ret (.inl (.h25 y183 y183 0 9 y287 0 y182 y182))))) (
  let y306 : DOperand := y1.2.1
  let y307 : Int := y306.1
  let y308 : Bool := (ine y307 3)
  .ite y308 (
  .need ((0 : Nat) < 1) <|
  .need ((0 : Int) ≤ 0) <|
  .need (0 < (1 : Int)) <|
  .need ((0 : Nat) < 1) <|
  let y309 : Bool := (ieq y307 1)
  .ite y309 (
  .need ((0 : Nat) < 1) <|
  .need (((0 : Nat) + 1 : Nat) ≤ 1) <|
  .need ((y183 : Nat) = y183) <|
  let y310 : Nat := (y183 + 1)
  .need (((y310 : Nat) * 8 : Nat) ≤ 2 ^ 40) <|
  .need ((y310 : Nat) ≤ 2 ^ 40) <|
  let y311 : (Int × (Int × (Int × (Int × (Int × (Bool × Int)))))) := y306.2
  let y312 : Int := y311.1
  let y313 : (List Int) := [y312]
  let y314 : (List Int) := (y182 ++ y313)
  .ret (.inl (.h25 y310 y183 9 9 y287 0 y314 y182))) (
  let y315 : Bool := (ieq y307 2)
  .ite y315 (
  .need (pre28 y306) <|
  .need ((y183 : Nat) = y183) <|
  let y316 : (List Int) := (fn28 y306)
  let y317 : Nat := y316.length
  let y318 : Nat := (y183 + y317)
  .need (((y318 : Nat) * 8 : Nat) ≤ 2 ^ 40) <|
  .need ((y318 : Nat) ≤ 2 ^ 40) <|
  .need (pre28 y306) <|
  .need ((y183 : Nat) = y183) <|
  .need (((y318 : Nat) * 8 : Nat) ≤ 2 ^ 40) <|
  .need ((y318 : Nat) ≤ 2 ^ 40) <|
  let y319 : (List Int) := (y182 ++ y316)
  .ret (.inl (.h25 y318 y318 9 9 y287 0 y319 y319))) (
  .ret (.inl (.h25 y183 y183 9 9 y287 0 y182 y182))))) (
  .need ((32 : Int) ≠ 0) <|
  let y320 : (Int × (Int × (Int × (Int × (Int × (Bool × Int)))))) := y306.2
  let y321 : Int := y320.2.2.2.2.2.2
  let y322 : Bool := (ieq (irem .i64 y321 32) 0)
  .ite y322 (
  .ret (.inl (.h25 y183 y183 0 0 y287 0 y182 y182))) (
  .ret (.inl (.h25 y183 y183 0 9 y287 0 y182 y182)))))))) (
  .need ((0 : Nat) < 1) <|
  .need ((0 : Int) ≤ 0) <|
  .need (0 < (1 : Int)) <|
  .need ((0 : Nat) < 1) <|
  .ite y4 (
  .need ((0 : Nat) < 1) <|
  .need (((0 : Nat) + 1 : Nat) ≤ 1) <|
  .need (((1 : Nat) * 8 : Nat) ≤ 2 ^ 40) <|
  .need ((1 : Nat) ≤ 2 ^ 40) <|
  let y323 : Int := y0.1
  let y324 : Bool := (ieq y323 8)
  .ite y324 (
  let y325 : DOperand := y1.2.1
  let y326 : Int := y325.1
  let y327 : Bool := (ine y326 3)
  .ite y327 (
  .need ((0 : Nat) < 1) <|
  .need ((0 : Int) ≤ 0) <|
  .need (0 < (1 : Int)) <|
  .need ((0 : Nat) < 1) <|
  let y328 : Bool := (ieq y326 1)
  .ite y328 (
  .need ((0 : Nat) < 1) <|
  .need (((0 : Nat) + 1 : Nat) ≤ 1) <|
  .need (((1 : Nat) * 8 : Nat) ≤ 2 ^ 40) <|
  .need ((1 : Nat) ≤ 2 ^ 40) <|
  let y329 : (Int × (Int × (Int × (Int × (Int × (Bool × Int)))))) := y325.2
  let y330 : Int := y329.1
  let y331 : (List Int) := [y330]
  let y332 : Int := y2.2.1
  let y333 : (List Int) := [y332]
  .ret (.inl (.h24 1 1 9 9 y331 y333))) (
  let y334 : Bool := (ieq y326 2)
  .ite y334 (
  .need (pre28 y325) <|
  let y335 : (List Int) := (fn28 y325)
  let y336 : Nat := y335.length
  .need (((y336 : Nat) * 8 : Nat) ≤ 2 ^ 40) <|
  .need ((y336 : Nat) ≤ 2 ^ 40) <|
  .need (pre28 y325) <|
  .need (((y336 : Nat) * 8 : Nat) ≤ 2 ^ 40) <|
  .need ((y336 : Nat) ≤ 2 ^ 40) <|
  let y337 : Int := y2.2.1
  let y338 : (List Int) := [y337]
  .ret (.inl (.h27 y323 y336 1 y336 9 9 y323 0 y335 y338 y335))) (
  let y339 : Int := y2.2.1
  let y340 : (List Int) := [y339]
  .ret (.inl (.h28 9 9 y340))))) (
  .need ((64 : Int) ≠ 0) <|
  let y341 : (Int × (Int × (Int × (Int × (Int × (Bool × Int)))))) := y325.2
  let y342 : Int := y341.2.2.2.2.2.2
  let y343 : Bool := (ieq (irem .i64 y342 64) 0)
  .ite y343 (
  let y344 : Int := y2.2.1
  let y345 : (List Int) := [y344]
  .ret (.inl (.h28 0 0 y345))) (
  let y346 : Int := y2.2.1
  let y347 : (List Int) := [y346]
  .ret (.inl (.h28 0 9 y347))))) (
  let y348 : DOperand := y1.2.1
  let y349 : Int := y348.1
  let y350 : Bool := (ine y349 3)
  .ite y350 (
  .need ((0 : Nat) < 1) <|
  .need ((0 : Int) ≤ 0) <|
  .need (0 < (1 : Int)) <|
  .need ((0 : Nat) < 1) <|
  let y351 : Bool := (ieq y349 1)
  .ite y351 (
  .need ((0 : Nat) < 1) <|
  .need (((0 : Nat) + 1 : Nat) ≤ 1) <|
  .need (((1 : Nat) * 8 : Nat) ≤ 2 ^ 40) <|
  .need ((1 : Nat) ≤ 2 ^ 40) <|
  let y352 : (Int × (Int × (Int × (Int × (Int × (Bool × Int)))))) := y348.2
  let y353 : Int := y352.1
  let y354 : (List Int) := [y353]
  let y355 : Int := y2.2.1
  let y356 : (List Int) := [y355]
  .ret (.inl (.h24 1 1 9 9 y354 y356))) (
  let y357 : Bool := (ieq y349 2)
  .ite y357 (
  .need (pre28 y348) <|
  let y358 : (List Int) := (fn28 y348)
  let y359 : Nat := y358.length
  .need (((y359 : Nat) * 8 : Nat) ≤ 2 ^ 40) <|
  .need ((y359 : Nat) ≤ 2 ^ 40) <|
  .need (pre28 y348) <|
  .need (((y359 : Nat) * 8 : Nat) ≤ 2 ^ 40) <|
  .need ((y359 : Nat) ≤ 2 ^ 40) <|
  let y360 : Int := y2.2.1
  let y361 : (List Int) := [y360]
  .ret (.inl (.h27 y323 y359 1 y359 9 9 y323 0 y358 y361 y358))) (
  let y362 : Int := y2.2.1
  let y363 : (List Int) := [y362]
  .ret (.inl (.h28 9 9 y363))))) (
  .need ((32 : Int) ≠ 0) <|
  let y364 : (Int × (Int × (Int × (Int × (Int × (Bool × Int)))))) := y348.2
  let y365 : Int := y364.2.2.2.2.2.2
  let y366 : Bool := (ieq (irem .i64 y365 32) 0)
  .ite y366 (
  let y367 : Int := y2.2.1
  let y368 : (List Int) := [y367]
  .ret (.inl (.h28 0 0 y368))) (
  let y369 : Int := y2.2.1
  let y370 : (List Int) := [y369]
  .ret (.inl (.h28 0 9 y370)))))) (
  .ite y181 (
  .need (pre28 y2) <|
  let y371 : (List Int) := (fn28 y2)
  let y372 : Nat := y371.length
  .need (((y372 : Nat) * 8 : Nat) ≤ 2 ^ 40) <|
  .need ((y372 : Nat) ≤ 2 ^ 40) <|
  .need (pre28 y2) <|
  .need (((y372 : Nat) * 8 : Nat) ≤ 2 ^ 40) <|
  .need ((y372 : Nat) ≤ 2 ^ 40) <|
  let y373 : Int := y0.1
  let y374 : Bool := (ieq y373 8)
  .ite y374 (
  let y375 : DOperand := y1.2.1
  let y376 : Int := y375.1
  let y377 : Bool := (ine y376 3)
  .ite y377 (
  .need ((0 : Nat) < 1) <|
  .need ((0 : Int) ≤ 0) <|
  .need (0 < (1 : Int)) <|
  .need ((0 : Nat) < 1) <|
  let y378 : Bool := (ieq y376 1)
  .ite y378 (
  .need ((0 : Nat) < 1) <|
  .need (((0 : Nat) + 1 : Nat) ≤ 1) <|
  .need ((y372 : Nat) = y372) <|
  let y379 : Nat := (y372 + 1)
  .need (((y379 : Nat) * 8 : Nat) ≤ 2 ^ 40) <|
  .need ((y379 : Nat) ≤ 2 ^ 40) <|
  let y380 : (Int × (Int × (Int × (Int × (Int × (Bool × Int)))))) := y375.2
  let y381 : Int := y380.1
  let y382 : (List Int) := [y381]
  let y383 : (List Int) := (y371 ++ y382)
  .ret (.inl (.h25 y379 y372 9 9 0 y373 y383 y371))) (
  let y384 : Bool := (ieq y376 2)
  .ite y384 (
  .need (pre28 y375) <|
  .need ((y372 : Nat) = y372) <|
  let y385 : (List Int) := (fn28 y375)
  let y386 : Nat := y385.length
  let y387 : Nat := (y372 + y386)
  .need (((y387 : Nat) * 8 : Nat) ≤ 2 ^ 40) <|
  .need ((y387 : Nat) ≤ 2 ^ 40) <|
  .need (pre28 y375) <|
  .need ((y372 : Nat) = y372) <|
  .need (((y387 : Nat) * 8 : Nat) ≤ 2 ^ 40) <|
  .need ((y387 : Nat) ≤ 2 ^ 40) <|
  let y388 : (List Int) := (y371 ++ y385)
  .ret (.inl (.h25 y387 y387 9 9 y373 y373 y388 y388))) (
  .ret (.inl (.h25 y372 y372 9 9 0 y373 y371 y371))))) (
  .need ((64 : Int) ≠ 0) <|
  let y389 : (Int × (Int × (Int × (Int × (Int × (Bool × Int)))))) := y375.2
  let y390 : Int := y389.2.2.2.2.2.2
  let y391 : Bool := (ieq (irem .i64 y390 64) 0)
  .ite y391 (
  .ret (.inl (.h25 y372 y372 0 0 0 y373 y371 y371))) (
  .ret (.inl (.h25 y372 y372 0 9 0 y373 y371 y371))))) (
  let y392 : DOperand := y1.2.1
  let y393 : Int := y392.1
  let y394 : Bool := (ine y393 3)
  .ite y394 (
  .need ((0 : Nat) < 1) <|
  .need ((0 : Int) ≤ 0) <|
  .need (0 < (1 : Int)) <|
  .need ((0 : Nat) < 1) <|
  let y395 : Bool := (ieq y393 1)
  .ite y395 (
  .need ((0 : Nat) < 1) <|
  .need (((0 : Nat) + 1 : Nat) ≤ 1) <|
  .need ((y372 : Nat) = y372) <|
  let y396 : Nat := (y372 + 1)
  .need (((y396 : Nat) * 8 : Nat) ≤ 2 ^ 40) <|
  .need ((y396 : Nat) ≤ 2 ^ 40) <|
  let y397 : (Int × (Int × (Int × (Int × (Int × (Bool × Int)))))) := y392.2
  let y398 : Int := y397.1
  let y399 : (List Int) := [y398]
  let y400 : (List Int) := (y371 ++ y399)
  .ret (.inl (.h25 y396 y372 9 9 0 y373 y400 y371))) (
  let y401 : Bool := (ieq y393 2)
  .ite y401 (
  .need (pre28 y392) <|
  .need ((y372 : Nat) = y372) <|
  let y402 : (List Int) := (fn28 y392)
  let y403 : Nat := y402.length
  let y404 : Nat := (y372 + y403)
  .need (((y404 : Nat) * 8 : Nat) ≤ 2 ^ 40) <|
  .need ((y404 : Nat) ≤ 2 ^ 40) <|
  .need (pre28 y392) <|
  .need ((y372 : Nat) = y372) <|
  .need (((y404 : Nat) * 8 : Nat) ≤ 2 ^ 40) <|
  .need ((y404 : Nat) ≤ 2 ^ 40) <|
  let y405 : (List Int) := (y371 ++ y402)
  .ret (.inl (.h25 y404 y404 9 9 y373 y373 y405 y405))) (
  .ret (.inl (.h25 y372 y372 9 9 0 y373 y371 y371))))) (
  .need ((32 : Int) ≠ 0) <|
  let y406 : (Int × (Int × (Int × (Int × (Int × (Bool × Int)))))) := y392.2
  let y407 : Int := y406.2.2.2.2.2.2
  let y408 : Bool := (ieq (irem .i64 y407 32) 0)
  .ite y408 (
  .ret (.inl (.h25 y372 y372 0 0 0 y373 y371 y371))) (
  .ret (.inl (.h25 y372 y372 0 9 0 y373 y371 y371)))))) (
  let y409 : Int := y0.1
  let y410 : Bool := (ieq y409 8)
  .ite y410 (
  let y411 : DOperand := y1.2.1
  let y412 : Int := y411.1
  let y413 : Bool := (ine y412 3)
  .ite y413 (
  .need ((0 : Nat) < 1) <|
  .need ((0 : Int) ≤ 0) <|
  .need (0 < (1 : Int)) <|
  .need ((0 : Nat) < 1) <|
  let y414 : Bool := (ieq y412 1)
  .ite y414 (
  .need ((0 : Nat) < 1) <|
  .need (((0 : Nat) + 1 : Nat) ≤ 1) <|
  .need (((1 : Nat) * 8 : Nat) ≤ 2 ^ 40) <|
  .need ((1 : Nat) ≤ 2 ^ 40) <|
  let y415 : (Int × (Int × (Int × (Int × (Int × (Bool × Int)))))) := y411.2
  let y416 : Int := y415.1
  let y417 : (List Int) := [y416]
  .ret (.inl (.h26 1 9 9 y417))) (
  let y418 : Bool := (ieq y412 2)
  .ite y418 (
  .need (pre28 y411) <|
  let y419 : (List Int) := (fn28 y411)
  let y420 : Nat := y419.length
  .need (((y420 : Nat) * 8 : Nat) ≤ 2 ^ 40) <|
  .need ((y420 : Nat) ≤ 2 ^ 40) <|
  .need (pre28 y411) <|
  .need (((y420 : Nat) * 8 : Nat) ≤ 2 ^ 40) <|
  .need ((y420 : Nat) ≤ 2 ^ 40) <|
  .ret (.inl (.h25 y420 y420 9 9 y409 0 y419 y419))) (
  .ret (.inl (.h23 9 9))))) (
  .need ((64 : Int) ≠ 0) <|
  let y421 : (Int × (Int × (Int × (Int × (Int × (Bool × Int)))))) := y411.2
  let y422 : Int := y421.2.2.2.2.2.2
  let y423 : Bool := (ieq (irem .i64 y422 64) 0)
  .ite y423 (
  .ret (.inl (.h23 0 0))) (
  .ret (.inl (.h23 0 9))))) (
  let y424 : DOperand := y1.2.1
  let y425 : Int := y424.1
  let y426 : Bool := (ine y425 3)
  .ite y426 (
  .need ((0 : Nat) < 1) <|
  .need ((0 : Int) ≤ 0) <|
  .need (0 < (1 : Int)) <|
  .need ((0 : Nat) < 1) <|
  let y427 : Bool := (ieq y425 1)
  .ite y427 (
  .need ((0 : Nat) < 1) <|
  .need (((0 : Nat) + 1 : Nat) ≤ 1) <|
  .need (((1 : Nat) * 8 : Nat) ≤ 2 ^ 40) <|
  .need ((1 : Nat) ≤ 2 ^ 40) <|
  let y428 : (Int × (Int × (Int × (Int × (Int × (Bool × Int)))))) := y424.2
  let y429 : Int := y428.1
  let y430 : (List Int) := [y429]
  .ret (.inl (.h26 1 9 9 y430))) (
  let y431 : Bool := (ieq y425 2)
  .ite y431 (
  .need (pre28 y424) <|
  let y432 : (List Int) := (fn28 y424)
  let y433 : Nat := y432.length
  .need (((y433 : Nat) * 8 : Nat) ≤ 2 ^ 40) <|
  .need ((y433 : Nat) ≤ 2 ^ 40) <|
  .need (pre28 y424) <|
  .need (((y433 : Nat) * 8 : Nat) ≤ 2 ^ 40) <|
  .need ((y433 : Nat) ≤ 2 ^ 40) <|
  .ret (.inl (.h25 y433 y433 9 9 y409 0 y432 y432))) (
  .ret (.inl (.h23 9 9))))) (
  .need ((32 : Int) ≠ 0) <|
  let y434 : (Int × (Int × (Int × (Int × (Int × (Bool × Int)))))) := y424.2
  let y435 : Int := y434.2.2.2.2.2.2
  let y436 : Bool := (ieq (irem .i64 y435 32) 0)
  .ite y436 (
  .ret (.inl (.h23 0 0))) (
  .ret (.inl (.h23 0 9)))))))))
noncomputable def step7h11 (x : DInsn) : Tr (J7 ⊕ DFacts) :=
  .need (pre40 0) <|
  .need ((0 : Nat) < 2) <|
  .need ((1 : Nat) < 2) <|
  .need ((0 : Int) ≤ 0) <|
  .need (0 < (2 : Int)) <|
  .need ((0 : Nat) < 2) <|
  let y0 : (Int × (DOperand × (DOperand × (Int × Int)))) := x.2.2
  let y1 : DOperand := y0.2.1
  let y2 : Int := y1.1
  .ite (ieq y2 1) (
  .need ((0 : Nat) < 1) <|
  .need (((0 : Nat) + 1 : Nat) ≤ 1) <|
  .need (((1 : Nat) * 8 : Nat) ≤ 2 ^ 40) <|
  .need ((1 : Nat) ≤ 2 ^ 40) <|
  .need ((0 : Int) ≤ 1) <|
  .need (1 < (2 : Int)) <|
  .need ((1 : Nat) < 2) <|
  .need ((0 : Nat) < 1) <|
  .need (((0 : Nat) + 1 : Nat) ≤ 1) <|
  .need ((1 : Nat) = 1) <|
  .need (((2 : Nat) * 8 : Nat) ≤ 2 ^ 40) <|
  .need ((2 : Nat) ≤ 2 ^ 40) <|
  .need (pre40 0) <|
  .need (pre40 2) <|
  .need ((0 : Nat) < 2) <|
  .need ((1 : Nat) < 2) <|
  .need ((0 : Int) ≤ 0) <|
  .need (0 < (2 : Int)) <|
  .need ((0 : Nat) < 2) <|
  .need ((0 : Nat) < 1) <|
  .need (((0 : Nat) + 1 : Nat) ≤ 1) <|
  .need (((1 : Nat) * 8 : Nat) ≤ 2 ^ 40) <|
  .need ((1 : Nat) ≤ 2 ^ 40) <|
  .need ((0 : Int) ≤ 1) <|
  .need (1 < (2 : Int)) <|
  .need ((1 : Nat) < 2) <|
  .need ((0 : Nat) < 1) <|
  .need (((0 : Nat) + 1 : Nat) ≤ 1) <|
  .need ((1 : Nat) = 1) <|
  .need (((2 : Nat) * 8 : Nat) ≤ 2 ^ 40) <|
  .need ((2 : Nat) ≤ 2 ^ 40) <|
  let y3 : (List Int) := [0, 2]
  .ret (.inl (.h24 2 2 0 31 [y1.2.1, 0] y3))) (
  .ite (ieq y2 2) (
  .need (pre28 y1) <|
  let y4 : (List Int) := (fn28 y1)
  let y5 : Nat := y4.length
  .need (((y5 : Nat) * 8 : Nat) ≤ 2 ^ 40) <|
  .need ((y5 : Nat) ≤ 2 ^ 40) <|
  .need (pre28 y1) <|
  .need (((y5 : Nat) * 8 : Nat) ≤ 2 ^ 40) <|
  .need ((y5 : Nat) ≤ 2 ^ 40) <|
  .need ((0 : Int) ≤ 1) <|
  .need (1 < (2 : Int)) <|
  .need ((1 : Nat) < 2) <|
  .need ((0 : Nat) < 1) <|
  .need (((0 : Nat) + 1 : Nat) ≤ 1) <|
  .need ((y5 : Nat) = y5) <|
  let y6 : Nat := (y5 + 1)
  .need (((y6 : Nat) * 8 : Nat) ≤ 2 ^ 40) <|
  .need ((y6 : Nat) ≤ 2 ^ 40) <|
  .need (pre40 0) <|
  .need (pre40 2) <|
  .need ((0 : Nat) < 2) <|
  .need ((1 : Nat) < 2) <|
  .need ((0 : Int) ≤ 0) <|
  .need (0 < (2 : Int)) <|
  .need ((0 : Nat) < 2) <|
  .need ((0 : Nat) < 1) <|
  .need (((0 : Nat) + 1 : Nat) ≤ 1) <|
  .need (((1 : Nat) * 8 : Nat) ≤ 2 ^ 40) <|
  .need ((1 : Nat) ≤ 2 ^ 40) <|
  .need ((0 : Int) ≤ 1) <|
  .need (1 < (2 : Int)) <|
  .need ((1 : Nat) < 2) <|
  .need ((0 : Nat) < 1) <|
  .need (((0 : Nat) + 1 : Nat) ≤ 1) <|
  .need ((1 : Nat) = 1) <|
  .need (((2 : Nat) * 8 : Nat) ≤ 2 ^ 40) <|
  .need ((2 : Nat) ≤ 2 ^ 40) <|
  let y7 : Int := y0.1
  let y8 : (List Int) := [0, 2]
  .ret (.inl (.h27 y7 y6 2 y5 0 31 y7 0 (y4 ++ [0]) y8 y4))) (
  .need ((0 : Int) ≤ 1) <|
  .need (1 < (2 : Int)) <|
  .need ((1 : Nat) < 2) <|
  .need ((0 : Nat) < 1) <|
  .need (((0 : Nat) + 1 : Nat) ≤ 1) <|
  .need (((1 : Nat) * 8 : Nat) ≤ 2 ^ 40) <|
  .need ((1 : Nat) ≤ 2 ^ 40) <|
  .need (pre40 0) <|
  .need (pre40 2) <|
  .need ((0 : Nat) < 2) <|
  .need ((1 : Nat) < 2) <|
  .need ((0 : Int) ≤ 0) <|
  .need (0 < (2 : Int)) <|
  .need ((0 : Nat) < 2) <|
  .need ((0 : Nat) < 1) <|
  .need (((0 : Nat) + 1 : Nat) ≤ 1) <|
  .need (((1 : Nat) * 8 : Nat) ≤ 2 ^ 40) <|
  .need ((1 : Nat) ≤ 2 ^ 40) <|
  .need ((0 : Int) ≤ 1) <|
  .need (1 < (2 : Int)) <|
  .need ((1 : Nat) < 2) <|
  .need ((0 : Nat) < 1) <|
  .need (((0 : Nat) + 1 : Nat) ≤ 1) <|
  .need ((1 : Nat) = 1) <|
  .need (((2 : Nat) * 8 : Nat) ≤ 2 ^ 40) <|
  .need ((2 : Nat) ≤ 2 ^ 40) <|
  let y9 : (List Int) := [0, 2]
  .ret (.inl (.h24 1 2 0 31 [0] y9))))
noncomputable def step7h12 (x : DInsn) : Tr (J7 ⊕ DFacts) :=
  .need (pre40 0) <|
  .need (pre40 2) <|
  .need ((0 : Nat) < 3) <|
  .need ((1 : Nat) < 3) <|
  .need ((2 : Nat) < 3) <|
  .need ((0 : Int) ≤ 0) <|
  .need (0 < (3 : Int)) <|
  .need ((0 : Nat) < 3) <|
  let y0 : (Int × (DOperand × (DOperand × (Int × Int)))) := x.2.2
  let y1 : DOperand := y0.2.1
  let y2 : Int := y1.1
  .ite (ieq y2 1) (
  .need ((0 : Nat) < 1) <|
  .need (((0 : Nat) + 1 : Nat) ≤ 1) <|
  .need (((1 : Nat) * 8 : Nat) ≤ 2 ^ 40) <|
  .need ((1 : Nat) ≤ 2 ^ 40) <|
  .need ((0 : Int) ≤ 1) <|
  .need (1 < (3 : Int)) <|
  .need ((1 : Nat) < 3) <|
  .need ((0 : Nat) < 1) <|
  .need (((0 : Nat) + 1 : Nat) ≤ 1) <|
  .need ((1 : Nat) = 1) <|
  .need (((2 : Nat) * 8 : Nat) ≤ 2 ^ 40) <|
  .need ((2 : Nat) ≤ 2 ^ 40) <|
  .need ((0 : Int) ≤ 2) <|
  .need (2 < (3 : Int)) <|
  .need ((2 : Nat) < 3) <|
  .need ((0 : Nat) < 1) <|
  .need (((0 : Nat) + 1 : Nat) ≤ 1) <|
  .need ((2 : Nat) = 2) <|
  .need (((3 : Nat) * 8 : Nat) ≤ 2 ^ 40) <|
  .need ((3 : Nat) ≤ 2 ^ 40) <|
  .need (pre40 0) <|
  .need (pre40 2) <|
  .need ((0 : Nat) < 2) <|
  .need ((1 : Nat) < 2) <|
  .need ((0 : Int) ≤ 0) <|
  .need (0 < (2 : Int)) <|
  .need ((0 : Nat) < 2) <|
  .need ((0 : Nat) < 1) <|
  .need (((0 : Nat) + 1 : Nat) ≤ 1) <|
  .need (((1 : Nat) * 8 : Nat) ≤ 2 ^ 40) <|
  .need ((1 : Nat) ≤ 2 ^ 40) <|
  .need ((0 : Int) ≤ 1) <|
  .need (1 < (2 : Int)) <|
  .need ((1 : Nat) < 2) <|
  .need ((0 : Nat) < 1) <|
  .need (((0 : Nat) + 1 : Nat) ≤ 1) <|
  .need ((1 : Nat) = 1) <|
  .need (((2 : Nat) * 8 : Nat) ≤ 2 ^ 40) <|
  .need ((2 : Nat) ≤ 2 ^ 40) <|
  let y3 : (List Int) := [0, 2]
  .ret (.inl (.h24 3 2 0 0 [y1.2.1, 0, 2] y3))) (
  .ite (ieq y2 2) (
  .need (pre28 y1) <|
  let y4 : (List Int) := (fn28 y1)
  let y5 : Nat := y4.length
  .need (((y5 : Nat) * 8 : Nat) ≤ 2 ^ 40) <|
  .need ((y5 : Nat) ≤ 2 ^ 40) <|
  .need (pre28 y1) <|
  .need (((y5 : Nat) * 8 : Nat) ≤ 2 ^ 40) <|
  .need ((y5 : Nat) ≤ 2 ^ 40) <|
  .need ((0 : Int) ≤ 1) <|
  .need (1 < (3 : Int)) <|
  .need ((1 : Nat) < 3) <|
  .need ((0 : Nat) < 1) <|
  .need (((0 : Nat) + 1 : Nat) ≤ 1) <|
  .need ((y5 : Nat) = y5) <|
  let y6 : Nat := (y5 + 1)
  .need (((y6 : Nat) * 8 : Nat) ≤ 2 ^ 40) <|
  .need ((y6 : Nat) ≤ 2 ^ 40) <|
  .need ((0 : Int) ≤ 2) <|
  .need (2 < (3 : Int)) <|
  .need ((2 : Nat) < 3) <|
  .need ((0 : Nat) < 1) <|
  .need (((0 : Nat) + 1 : Nat) ≤ 1) <|
  let y7 : (List Int) := (y4 ++ [0])
  .need ((y6 : Nat) = y7.length) <|
  let y8 : Nat := (y6 + 1)
  .need (((y8 : Nat) * 8 : Nat) ≤ 2 ^ 40) <|
  .need ((y8 : Nat) ≤ 2 ^ 40) <|
  .need (pre40 0) <|
  .need (pre40 2) <|
  .need ((0 : Nat) < 2) <|
  .need ((1 : Nat) < 2) <|
  .need ((0 : Int) ≤ 0) <|
  .need (0 < (2 : Int)) <|
  .need ((0 : Nat) < 2) <|
  .need ((0 : Nat) < 1) <|
  .need (((0 : Nat) + 1 : Nat) ≤ 1) <|
  .need (((1 : Nat) * 8 : Nat) ≤ 2 ^ 40) <|
  .need ((1 : Nat) ≤ 2 ^ 40) <|
  .need ((0 : Int) ≤ 1) <|
  .need (1 < (2 : Int)) <|
  .need ((1 : Nat) < 2) <|
  .need ((0 : Nat) < 1) <|
  .need (((0 : Nat) + 1 : Nat) ≤ 1) <|
  .need ((1 : Nat) = 1) <|
  .need (((2 : Nat) * 8 : Nat) ≤ 2 ^ 40) <|
  .need ((2 : Nat) ≤ 2 ^ 40) <|
  let y9 : Int := y0.1
  let y10 : (List Int) := [0, 2]
  .ret (.inl (.h27 y9 y8 2 y5 0 0 y9 0 (y7 ++ [2]) y10 y4))) (
  .need ((0 : Int) ≤ 1) <|
  .need (1 < (3 : Int)) <|
  .need ((1 : Nat) < 3) <|
  .need ((0 : Nat) < 1) <|
  .need (((0 : Nat) + 1 : Nat) ≤ 1) <|
  .need (((1 : Nat) * 8 : Nat) ≤ 2 ^ 40) <|
  .need ((1 : Nat) ≤ 2 ^ 40) <|
  .need ((0 : Int) ≤ 2) <|
  .need (2 < (3 : Int)) <|
  .need ((2 : Nat) < 3) <|
  .need ((0 : Nat) < 1) <|
  .need (((0 : Nat) + 1 : Nat) ≤ 1) <|
  .need ((1 : Nat) = 1) <|
  .need (((2 : Nat) * 8 : Nat) ≤ 2 ^ 40) <|
  .need ((2 : Nat) ≤ 2 ^ 40) <|
  .need (pre40 0) <|
  .need (pre40 2) <|
  .need ((0 : Nat) < 2) <|
  .need ((1 : Nat) < 2) <|
  .need ((0 : Int) ≤ 0) <|
  .need (0 < (2 : Int)) <|
  .need ((0 : Nat) < 2) <|
  .need ((0 : Nat) < 1) <|
  .need (((0 : Nat) + 1 : Nat) ≤ 1) <|
  .need (((1 : Nat) * 8 : Nat) ≤ 2 ^ 40) <|
  .need ((1 : Nat) ≤ 2 ^ 40) <|
  .need ((0 : Int) ≤ 1) <|
  .need (1 < (2 : Int)) <|
  .need ((1 : Nat) < 2) <|
  .need ((0 : Nat) < 1) <|
  .need (((0 : Nat) + 1 : Nat) ≤ 1) <|
  .need ((1 : Nat) = 1) <|
  .need (((2 : Nat) * 8 : Nat) ≤ 2 ^ 40) <|
  .need ((2 : Nat) ≤ 2 ^ 40) <|
  let y11 : (List Int) := [0, 2]
  .ret (.inl (.h24 2 2 0 0 y11 y11))))
noncomputable def step7h13 (x : DInsn) : Tr (J7 ⊕ DFacts) :=
  .need ((0 : Nat) < 1) <|
  .need (((0 : Nat) + 1 : Nat) ≤ 1) <|
  .need (((1 : Nat) * 8 : Nat) ≤ 2 ^ 40) <|
  .need ((1 : Nat) ≤ 2 ^ 40) <|
  .need (pre64 (4, 0)) <|
  .need ((0 : Nat) < 1) <|
  .need ((0 : Int) ≤ 0) <|
  .need (0 < (1 : Int)) <|
  .need ((0 : Nat) < 1) <|
  let y0 : DOperand := x.2.2.2.1
  let y1 : Int := y0.1
  .ite (ieq y1 1) (
  .need ((0 : Nat) < 1) <|
  .need (((0 : Nat) + 1 : Nat) ≤ 1) <|
  .need (((1 : Nat) * 8 : Nat) ≤ 2 ^ 40) <|
  .need ((1 : Nat) ≤ 2 ^ 40) <|
  .need ((0 : Nat) < 1) <|
  .need ((0 : Int) ≤ 0) <|
  .need (0 < (1 : Int)) <|
  .need ((0 : Nat) < 1) <|
  let y2 : (Int × (Int × (Int × (Int × (Int × (Int × (Bool × Int))))))) := (2, (0, (4, ((-1), (1, (0, (false, 0)))))))
  .need (pre28 y2) <|
  .need ((1 : Nat) = 1) <|
  let y3 : (List Int) := (fn28 y2)
  let y4 : Nat := y3.length
  let y5 : Nat := (1 + y4)
  .need (((y5 : Nat) * 8 : Nat) ≤ 2 ^ 40) <|
  .need ((y5 : Nat) ≤ 2 ^ 40) <|
  .need (pre28 y2) <|
  .need (((y4 : Nat) * 8 : Nat) ≤ 2 ^ 40) <|
  .need ((y4 : Nat) ≤ 2 ^ 40) <|
  .ret (.inl (.h27 8 y5 1 y4 0 0 0 8 ([y0.2.1] ++ y3) [4] y3))) (
  .ite (ieq y1 2) (
  .need (pre28 y0) <|
  let y6 : (List Int) := (fn28 y0)
  let y7 : Nat := y6.length
  .need (((y7 : Nat) * 8 : Nat) ≤ 2 ^ 40) <|
  .need ((y7 : Nat) ≤ 2 ^ 40) <|
  .need (pre28 y0) <|
  .need (((y7 : Nat) * 8 : Nat) ≤ 2 ^ 40) <|
  .need ((y7 : Nat) ≤ 2 ^ 40) <|
  .need ((0 : Nat) < 1) <|
  .need ((0 : Int) ≤ 0) <|
  .need (0 < (1 : Int)) <|
  .need ((0 : Nat) < 1) <|
  let y8 : (Int × (Int × (Int × (Int × (Int × (Int × (Bool × Int))))))) := (2, (0, (4, ((-1), (1, (0, (false, 0)))))))
  .need (pre28 y8) <|
  .need ((y7 : Nat) = y7) <|
  let y9 : (List Int) := (fn28 y8)
  let y10 : Nat := y9.length
  let y11 : Nat := (y7 + y10)
  .need (((y11 : Nat) * 8 : Nat) ≤ 2 ^ 40) <|
  .need ((y11 : Nat) ≤ 2 ^ 40) <|
  .need (pre28 y8) <|
  .need ((y7 : Nat) = y7) <|
  .need (((y11 : Nat) * 8 : Nat) ≤ 2 ^ 40) <|
  .need ((y11 : Nat) ≤ 2 ^ 40) <|
  let y12 : (List Int) := (y6 ++ y9)
  .ret (.inl (.h27 8 y11 1 y11 0 0 8 8 y12 [4] y12))) (
  .need ((0 : Nat) < 1) <|
  .need ((0 : Int) ≤ 0) <|
  .need (0 < (1 : Int)) <|
  .need ((0 : Nat) < 1) <|
  let y13 : (Int × (Int × (Int × (Int × (Int × (Int × (Bool × Int))))))) := (2, (0, (4, ((-1), (1, (0, (false, 0)))))))
  .need (pre28 y13) <|
  let y14 : (List Int) := (fn28 y13)
  let y15 : Nat := y14.length
  .need (((y15 : Nat) * 8 : Nat) ≤ 2 ^ 40) <|
  .need ((y15 : Nat) ≤ 2 ^ 40) <|
  .need (pre28 y13) <|
  .need (((y15 : Nat) * 8 : Nat) ≤ 2 ^ 40) <|
  .need ((y15 : Nat) ≤ 2 ^ 40) <|
  .ret (.inl (.h27 8 y15 1 y15 0 0 0 8 y14 [4] y14))))
noncomputable def step7h14 (x : DInsn) : Tr (J7 ⊕ DFacts) :=
  .need ((0 : Nat) < 1) <|
  .need (((0 : Nat) + 1 : Nat) ≤ 1) <|
  .need (((1 : Nat) * 8 : Nat) ≤ 2 ^ 40) <|
  .need ((1 : Nat) ≤ 2 ^ 40) <|
  .need (pre64 (4, 0)) <|
  .need ((0 : Nat) < 1) <|
  .need ((0 : Int) ≤ 0) <|
  .need (0 < (1 : Int)) <|
  .need ((0 : Nat) < 1) <|
  let y0 : (Int × (Int × (Int × (Int × (Int × (Int × (Bool × Int))))))) := (2, (0, (4, ((-1), (1, (0, (false, 0)))))))
  .need (pre28 y0) <|
  let y1 : (List Int) := (fn28 y0)
  let y2 : Nat := y1.length
  .need (((y2 : Nat) * 8 : Nat) ≤ 2 ^ 40) <|
  .need ((y2 : Nat) ≤ 2 ^ 40) <|
  .need (pre28 y0) <|
  .need (((y2 : Nat) * 8 : Nat) ≤ 2 ^ 40) <|
  .need ((y2 : Nat) ≤ 2 ^ 40) <|
  .need ((0 : Nat) < 1) <|
  .need ((0 : Int) ≤ 0) <|
  .need (0 < (1 : Int)) <|
  .need ((0 : Nat) < 1) <|
  let y3 : DOperand := x.2.2.2.1
  let y4 : Int := y3.1
  .ite (ieq y4 1) (
  .need ((0 : Nat) < 1) <|
  .need (((0 : Nat) + 1 : Nat) ≤ 1) <|
  .need ((1 : Nat) = 1) <|
  .need (((2 : Nat) * 8 : Nat) ≤ 2 ^ 40) <|
  .need ((2 : Nat) ≤ 2 ^ 40) <|
  .ret (.inl (.h27 8 y2 2 y2 0 0 8 0 y1 [4, y3.2.1] y1))) (
  .ite (ieq y4 2) (
  .need (pre28 y3) <|
  .need ((y2 : Nat) = y2) <|
  let y5 : (List Int) := (fn28 y3)
  let y6 : Nat := (y2 + y5.length)
  .need (((y6 : Nat) * 8 : Nat) ≤ 2 ^ 40) <|
  .need ((y6 : Nat) ≤ 2 ^ 40) <|
  .need (pre28 y3) <|
  .need ((y2 : Nat) = y2) <|
  .need (((y6 : Nat) * 8 : Nat) ≤ 2 ^ 40) <|
  .need ((y6 : Nat) ≤ 2 ^ 40) <|
  let y7 : (List Int) := (y1 ++ y5)
  .ret (.inl (.h27 8 y6 1 y6 0 0 8 8 y7 [4] y7))) (
  .ret (.inl (.h27 8 y2 1 y2 0 0 8 0 y1 [4] y1))))
noncomputable def step7h15 (_x : DInsn) : Tr (J7 ⊕ DFacts) :=
  .need ((0 : Nat) < 1) <|
  .need (((0 : Nat) + 1 : Nat) ≤ 1) <|
  .need (((1 : Nat) * 8 : Nat) ≤ 2 ^ 40) <|
  .need ((1 : Nat) ≤ 2 ^ 40) <|
  .need (pre64 (4, 0)) <|
  .need ((0 : Nat) < 1) <|
  .need ((0 : Int) ≤ 0) <|
  .need (0 < (1 : Int)) <|
  .need ((0 : Nat) < 1) <|
  let y0 : (Int × (Int × (Int × (Int × (Int × (Int × (Bool × Int))))))) := (2, (0, (4, ((-1), (1, (0, (false, 0)))))))
  .need (pre28 y0) <|
  let y1 : (List Int) := (fn28 y0)
  let y2 : Nat := y1.length
  .need (((y2 : Nat) * 8 : Nat) ≤ 2 ^ 40) <|
  .need ((y2 : Nat) ≤ 2 ^ 40) <|
  .need (pre28 y0) <|
  .need (((y2 : Nat) * 8 : Nat) ≤ 2 ^ 40) <|
  .need ((y2 : Nat) ≤ 2 ^ 40) <|
  .ret (.inl (.h27 8 y2 1 y2 0 0 0 8 y1 [4] y1))
noncomputable def step7h16 (_x : DInsn) : Tr (J7 ⊕ DFacts) :=
  .need ((0 : Nat) < 1) <|
  .need (((0 : Nat) + 1 : Nat) ≤ 1) <|
  .need (((1 : Nat) * 8 : Nat) ≤ 2 ^ 40) <|
  .need ((1 : Nat) ≤ 2 ^ 40) <|
  .need (pre64 (4, 0)) <|
  .need ((0 : Nat) < 1) <|
  .need ((0 : Int) ≤ 0) <|
  .need (0 < (1 : Int)) <|
  .need ((0 : Nat) < 1) <|
  let y0 : (Int × (Int × (Int × (Int × (Int × (Int × (Bool × Int))))))) := (2, (0, (4, ((-1), (1, (0, (false, 0)))))))
  .need (pre28 y0) <|
  let y1 : (List Int) := (fn28 y0)
  let y2 : Nat := y1.length
  .need (((y2 : Nat) * 8 : Nat) ≤ 2 ^ 40) <|
  .need ((y2 : Nat) ≤ 2 ^ 40) <|
  .need (pre28 y0) <|
  .need (((y2 : Nat) * 8 : Nat) ≤ 2 ^ 40) <|
  .need ((y2 : Nat) ≤ 2 ^ 40) <|
  .ret (.inl (.h27 8 y2 1 y2 0 0 8 0 y1 [4] y1))
noncomputable def step7h17 (x : DInsn) : Tr (J7 ⊕ DFacts) :=
  .need ((0 : Nat) < 1) <|
  .need ((0 : Int) ≤ 0) <|
  .need (0 < (1 : Int)) <|
  .need ((0 : Nat) < 1) <|
  let y0 : (Int × (DOperand × (DOperand × (Int × Int)))) := x.2.2
  let y1 : DOperand := y0.2.1
  let y2 : Int := y1.1
  .ite (ieq y2 1) (
  .need ((0 : Nat) < 1) <|
  .need (((0 : Nat) + 1 : Nat) ≤ 1) <|
  .need (((1 : Nat) * 8 : Nat) ≤ 2 ^ 40) <|
  .need ((1 : Nat) ≤ 2 ^ 40) <|
  .ret (.inl (.h26 1 0 0 [y1.2.1]))) (
  .ite (ieq y2 2) (
  .need (pre28 y1) <|
  let y3 : (List Int) := (fn28 y1)
  let y4 : Nat := y3.length
  .need (((y4 : Nat) * 8 : Nat) ≤ 2 ^ 40) <|
  .need ((y4 : Nat) ≤ 2 ^ 40) <|
  .need (pre28 y1) <|
  .need (((y4 : Nat) * 8 : Nat) ≤ 2 ^ 40) <|
  .need ((y4 : Nat) ≤ 2 ^ 40) <|
  .ret (.inl (.h25 y4 y4 0 0 y0.1 0 y3 y3))) (
  .ret (.inl (.h23 0 0))))
noncomputable def step7h18 (x : DInsn) : Tr (J7 ⊕ DFacts) :=
  let y0 : Int := x.2.1
  .need (pre10 y0) <|
  .ret (.inl (.h23 (fn10 y0) 0))
noncomputable def step7h19 (x : DInsn) : Tr (J7 ⊕ DFacts) :=
  .need ((0 : Nat) < 2) <|
  .need ((1 : Nat) < 2) <|
  .need ((0 : Int) ≤ 0) <|
  .need (0 < (2 : Int)) <|
  .need ((0 : Nat) < 2) <|
  let y0 : (Int × (DOperand × (DOperand × (Int × Int)))) := x.2.2
  let y1 : (DOperand × (DOperand × (Int × Int))) := y0.2
  let y2 : DOperand := y1.1
  let y3 : Int := y2.1
  let y4 : Bool := (ieq y3 1)
  .ite y4 (
  .need ((0 : Nat) < 1) <|
  .need (((0 : Nat) + 1 : Nat) ≤ 1) <|
  .need (((1 : Nat) * 8 : Nat) ≤ 2 ^ 40) <|
  .need ((1 : Nat) ≤ 2 ^ 40) <|
  .need ((0 : Int) ≤ 1) <|
  .need (1 < (2 : Int)) <|
  .need ((1 : Nat) < 2) <|
  let y5 : DOperand := y1.2.1
  let y6 : Int := y5.1
  let y7 : Bool := (ieq y6 1)
  .ite y7 (
  .need ((0 : Nat) < 1) <|
  .need (((0 : Nat) + 1 : Nat) ≤ 1) <|
  .need ((1 : Nat) = 1) <|
  .need (((2 : Nat) * 8 : Nat) ≤ 2 ^ 40) <|
  .need ((2 : Nat) ≤ 2 ^ 40) <|
  .need ((0 : Nat) < 1) <|
  .need ((0 : Int) ≤ 0) <|
  .need (0 < (1 : Int)) <|
  .need ((0 : Nat) < 1) <|
  .ite y4 (
  .need ((0 : Nat) < 1) <|
  .need (((0 : Nat) + 1 : Nat) ≤ 1) <|
  .need (((1 : Nat) * 8 : Nat) ≤ 2 ^ 40) <|
  .need ((1 : Nat) ≤ 2 ^ 40) <|
  let y8 : Int := x.2.1
  .need (pre10 y8) <|
  let y9 : Int := (fn10 y8)
  let y10 : Int := y2.2.1
  let y11 : Int := y5.2.1
  let y12 : (List Int) := [y10, y11]
  let y13 : (List Int) := [y10]
  .ret (.inl (.h24 2 1 y9 0 y12 y13))) (
  let y14 : Bool := (ieq y3 2)
  .ite y14 (
  .need (pre28 y2) <|
  .need ((2 : Nat) = 2) <|
  let y15 : (List Int) := (fn28 y2)
  let y16 : Nat := y15.length
  let y17 : Nat := (2 + y16)
  .need (((y17 : Nat) * 8 : Nat) ≤ 2 ^ 40) <|
  .need ((y17 : Nat) ≤ 2 ^ 40) <|
  .need (pre28 y2) <|
  .need (((y16 : Nat) * 8 : Nat) ≤ 2 ^ 40) <|
  .need ((y16 : Nat) ≤ 2 ^ 40) <|
  let y18 : Int := x.2.1
  .need (pre10 y18) <|
  let y19 : Int := (fn10 y18)
  let y20 : Int := y0.1
  let y21 : Int := y2.2.1
  let y22 : Int := y5.2.1
  let y23 : (List Int) := [y21, y22]
  .ret (.inl (.h25 y17 y16 y19 0 0 y20 (y23 ++ y15) y15))) (
  let y24 : Int := x.2.1
  .need (pre10 y24) <|
  let y25 : Int := (fn10 y24)
  let y26 : Int := y2.2.1
  let y27 : Int := y5.2.1
  let y28 : (List Int) := [y26, y27]
  .ret (.inl (.h26 2 y25 0 y28))))) (
  let y29 : Bool := (ieq y6 2)
  .ite y29 (
  .need (pre28 y5) <|
  .need ((1 : Nat) = 1) <|
  let y30 : (List Int) := (fn28 y5)
  let y31 : Nat := y30.length
  let y32 : Nat := (1 + y31)
  .need (((y32 : Nat) * 8 : Nat) ≤ 2 ^ 40) <|
  .need ((y32 : Nat) ≤ 2 ^ 40) <|
  .need (pre28 y5) <|
  .need (((y31 : Nat) * 8 : Nat) ≤ 2 ^ 40) <|
  .need ((y31 : Nat) ≤ 2 ^ 40) <|
  .need ((0 : Nat) < 1) <|
  .need ((0 : Int) ≤ 0) <|
  .need (0 < (1 : Int)) <|
  .need ((0 : Nat) < 1) <|
  .ite y4 (
  .need ((0 : Nat) < 1) <|
  .need (((0 : Nat) + 1 : Nat) ≤ 1) <|
  .need (((1 : Nat) * 8 : Nat) ≤ 2 ^ 40) <|
  .need ((1 : Nat) ≤ 2 ^ 40) <|
  let y33 : Int := x.2.1
  .need (pre10 y33) <|
  let y34 : Int := y0.1
  let y35 : Int := (fn10 y33)
  let y36 : Int := y2.2.1
  let y37 : (List Int) := [y36]
  let y38 : (List Int) := (y37 ++ y30)
  .ret (.inl (.h27 y34 y32 1 y31 y35 0 y34 0 y38 y37 y30))) (
  let y39 : Bool := (ieq y3 2)
  .ite y39 (
  .need (pre28 y2) <|
  let y40 : Int := y2.2.1
  let y41 : (List Int) := [y40]
  let y42 : (List Int) := (y41 ++ y30)
  .need ((y32 : Nat) = y42.length) <|
  let y43 : (List Int) := (fn28 y2)
  let y44 : Nat := y43.length
  let y45 : Nat := (y32 + y44)
  .need (((y45 : Nat) * 8 : Nat) ≤ 2 ^ 40) <|
  .need ((y45 : Nat) ≤ 2 ^ 40) <|
  .need (pre28 y2) <|
  .need ((y31 : Nat) = y31) <|
  let y46 : Nat := (y31 + y44)
  .need (((y46 : Nat) * 8 : Nat) ≤ 2 ^ 40) <|
  .need ((y46 : Nat) ≤ 2 ^ 40) <|
  let y47 : Int := x.2.1
  .need (pre10 y47) <|
  let y48 : Int := (fn10 y47)
  let y49 : Int := y0.1
  let y50 : (List Int) := (y30 ++ y43)
  .ret (.inl (.h25 y45 y46 y48 0 y49 y49 (y42 ++ y43) y50))) (
  let y51 : Int := x.2.1
  .need (pre10 y51) <|
  let y52 : Int := (fn10 y51)
  let y53 : Int := y0.1
  let y54 : Int := y2.2.1
  let y55 : (List Int) := [y54]
  let y56 : (List Int) := (y55 ++ y30)
  .ret (.inl (.h25 y32 y31 y52 0 y53 0 y56 y30))))) (
  .need ((0 : Nat) < 1) <|
  .need ((0 : Int) ≤ 0) <|
  .need (0 < (1 : Int)) <|
  .need ((0 : Nat) < 1) <|
  .ite y4 (
  .need ((0 : Nat) < 1) <|
  .need (((0 : Nat) + 1 : Nat) ≤ 1) <|
  .need (((1 : Nat) * 8 : Nat) ≤ 2 ^ 40) <|
  .need ((1 : Nat) ≤ 2 ^ 40) <|
  let y57 : Int := x.2.1
  .need (pre10 y57) <|
  let y58 : Int := (fn10 y57)
  let y59 : Int := y2.2.1
  let y60 : (List Int) := [y59]
  .ret (.inl (.h24 1 1 y58 0 y60 y60))) (
  let y61 : Bool := (ieq y3 2)
  .ite y61 (
  .need (pre28 y2) <|
  .need ((1 : Nat) = 1) <|
  let y62 : (List Int) := (fn28 y2)
  let y63 : Nat := y62.length
  let y64 : Nat := (1 + y63)
  .need (((y64 : Nat) * 8 : Nat) ≤ 2 ^ 40) <|
  .need ((y64 : Nat) ≤ 2 ^ 40) <|
  .need (pre28 y2) <|
  .need (((y63 : Nat) * 8 : Nat) ≤ 2 ^ 40) <|
  .need ((y63 : Nat) ≤ 2 ^ 40) <|
  let y65 : Int := x.2.1
  .need (pre10 y65) <|
  let y66 : Int := (fn10 y65)
  let y67 : Int := y0.1
  let y68 : Int := y2.2.1
  let y69 : (List Int) := [y68]
  .ret (.inl (.h25 y64 y63 y66 0 0 y67 (y69 ++ y62) y62))) (
  let y70 : Int := x.2.1
  .need (pre10 y70) <|
  let y71 : Int := (fn10 y70)
  let y72 : Int := y2.2.1
  let y73 : (List Int) := [y72]
  .ret (.inl (.h26 1 y71 0 y73))))))) (
  let y74 : Bool := (ieq y3 2)
  .ite y74 (
  .need (pre28 y2) <|
  let y75 : (List Int) := (fn28 y2)
  let y76 : Nat := y75.length
  .need (((y76 : Nat) * 8 : Nat) ≤ 2 ^ 40) <|
  .need ((y76 : Nat) ≤ 2 ^ 40) <|
  .need (pre28 y2) <|
  .need (((y76 : Nat) * 8 : Nat) ≤ 2 ^ 40) <|
  .need ((y76 : Nat) ≤ 2 ^ 40) <|
  .need ((0 : Int) ≤ 1) <|
  .need (1 < (2 : Int)) <|
  .need ((1 : Nat) < 2) <|
  let y77 : DOperand := y1.2.1
  let y78 : Int := y77.1
  let y79 : Bool := (ieq y78 1)
  .ite y79 (
  .need ((0 : Nat) < 1) <|
  .need (((0 : Nat) + 1 : Nat) ≤ 1) <|
  .need ((y76 : Nat) = y76) <|
  let y80 : Nat := (y76 + 1)
  .need (((y80 : Nat) * 8 : Nat) ≤ 2 ^ 40) <|
  .need ((y80 : Nat) ≤ 2 ^ 40) <|
  .need ((0 : Nat) < 1) <|
  .need ((0 : Int) ≤ 0) <|
  .need (0 < (1 : Int)) <|
  .need ((0 : Nat) < 1) <|
  .ite y4 (
  .need ((0 : Nat) < 1) <|
  .need (((0 : Nat) + 1 : Nat) ≤ 1) <|
  .need (((1 : Nat) * 8 : Nat) ≤ 2 ^ 40) <|
  .need ((1 : Nat) ≤ 2 ^ 40) <|
  let y81 : Int := x.2.1
  .need (pre10 y81) <|
  let y82 : Int := y0.1
  let y83 : Int := (fn10 y81)
  let y84 : Int := y77.2.1
  let y85 : (List Int) := [y84]
  let y86 : (List Int) := (y75 ++ y85)
  let y87 : Int := y2.2.1
  let y88 : (List Int) := [y87]
  .ret (.inl (.h27 y82 y80 1 y76 y83 0 y82 0 y86 y88 y75))) (
  .ite y74 (
  .need (pre28 y2) <|
  let y89 : Int := y77.2.1
  let y90 : (List Int) := [y89]
  let y91 : (List Int) := (y75 ++ y90)
  .need ((y80 : Nat) = y91.length) <|
  let y92 : Nat := (y80 + y76)
  .need (((y92 : Nat) * 8 : Nat) ≤ 2 ^ 40) <|
  .need ((y92 : Nat) ≤ 2 ^ 40) <|
  .need (pre28 y2) <|
  .need ((y76 : Nat) = y76) <|
  let y93 : Nat := (y76 + y76)
  .need (((y93 : Nat) * 8 : Nat) ≤ 2 ^ 40) <|
  .need ((y93 : Nat) ≤ 2 ^ 40) <|
  let y94 : Int := x.2.1
  .need (pre10 y94) <|
  let y95 : Int := (fn10 y94)
  let y96 : Int := y0.1
  let y97 : (List Int) := (y75 ++ y75)
  .ret (.inl (.h25 y92 y93 y95 0 y96 y96 (y91 ++ y75) y97))) (
  let y98 : Int := x.2.1
  .need (pre10 y98) <|
  let y99 : Int := (fn10 y98)
  let y100 : Int := y0.1
  let y101 : Int := y77.2.1
  let y102 : (List Int) := [y101]
  let y103 : (List Int) := (y75 ++ y102)
  .ret (.inl (.h25 y80 y76 y99 0 y100 0 y103 y75))))) (
  let y104 : Bool := (ieq y78 2)
  .ite y104 (
  .need (pre28 y77) <|
  .need ((y76 : Nat) = y76) <|
  let y105 : (List Int) := (fn28 y77)
  let y106 : Nat := y105.length
  let y107 : Nat := (y76 + y106)
  .need (((y107 : Nat) * 8 : Nat) ≤ 2 ^ 40) <|
  .need ((y107 : Nat) ≤ 2 ^ 40) <|
  .need (pre28 y77) <|
  .need ((y76 : Nat) = y76) <|
  .need (((y107 : Nat) * 8 : Nat) ≤ 2 ^ 40) <|
  .need ((y107 : Nat) ≤ 2 ^ 40) <|
  .need ((0 : Nat) < 1) <|
  .need ((0 : Int) ≤ 0) <|
  .need (0 < (1 : Int)) <|
  .need ((0 : Nat) < 1) <|
  .ite y4 (
  .need ((0 : Nat) < 1) <|
  .need (((0 : Nat) + 1 : Nat) ≤ 1) <|
  .need (((1 : Nat) * 8 : Nat) ≤ 2 ^ 40) <|
  .need ((1 : Nat) ≤ 2 ^ 40) <|
  let y108 : Int := x.2.1
  .need (pre10 y108) <|
  let y109 : Int := y0.1
  let y110 : Int := (fn10 y108)
  let y111 : (List Int) := (y75 ++ y105)
  let y112 : Int := y2.2.1
  let y113 : (List Int) := [y112]
  .ret (.inl (.h27 y109 y107 1 y107 y110 0 y109 0 y111 y113 y111))) (
  .ite y74 (
  .need (pre28 y2) <|
  let y114 : (List Int) := (y75 ++ y105)
  .need ((y107 : Nat) = y114.length) <|
  let y115 : Nat := (y107 + y76)
  .need (((y115 : Nat) * 8 : Nat) ≤ 2 ^ 40) <|
  .need ((y115 : Nat) ≤ 2 ^ 40) <|
  .need (pre28 y2) <|
  .need ((y107 : Nat) = y114.length) <|
  .need (((y115 : Nat) * 8 : Nat) ≤ 2 ^ 40) <|
  .need ((y115 : Nat) ≤ 2 ^ 40) <|
  let y116 : Int := x.2.1
  .need (pre10 y116) <|
  let y117 : Int := (fn10 y116)
  let y118 : Int := y0.1
  let y119 : (List Int) := (y114 ++ y75)
  .ret (.inl (.h25 y115 y115 y117 0 y118 y118 y119 y119))) (
  let y120 : Int := x.2.1
  .need (pre10 y120) <|
  let y121 : Int := (fn10 y120)
  let y122 : Int := y0.1
  let y123 : (List Int) := (y75 ++ y105)
  .ret (.inl (.h25 y107 y107 y121 0 y122 0 y123 y123))))) (
  .need ((0 : Nat) < 1) <|
  .need ((0 : Int) ≤ 0) <|
  .need (0 < (1 : Int)) <|
  .need ((0 : Nat) < 1) <|
  .ite y4 (
  .need ((0 : Nat) < 1) <|
  .need (((0 : Nat) + 1 : Nat) ≤ 1) <|
  .need (((1 : Nat) * 8 : Nat) ≤ 2 ^ 40) <|
  .need ((1 : Nat) ≤ 2 ^ 40) <|
  let y124 : Int := x.2.1
  .need (pre10 y124) <|
  let y125 : Int := y0.1
  let y126 : Int := (fn10 y124)
  let y127 : Int := y2.2.1
  let y128 : (List Int) := [y127]
  .ret (.inl (.h27 y125 y76 1 y76 y126 0 y125 0 y75 y128 y75))) (
  .ite y74 (
  .need (pre28 y2) <|
  .need ((y76 : Nat) = y76) <|
  let y129 : Nat := (y76 + y76)
  .need (((y129 : Nat) * 8 : Nat) ≤ 2 ^ 40) <|
  .need ((y129 : Nat) ≤ 2 ^ 40) <|
  .need (pre28 y2) <|
  .need ((y76 : Nat) = y76) <|
  .need (((y129 : Nat) * 8 : Nat) ≤ 2 ^ 40) <|
  .need ((y129 : Nat) ≤ 2 ^ 40) <|
  let y130 : Int := x.2.1
  .need (pre10 y130) <|
  let y131 : Int := (fn10 y130)
  let y132 : Int := y0.1
  let y133 : (List Int) := (y75 ++ y75)
  .ret (.inl (.h25 y129 y129 y131 0 y132 y132 y133 y133))) (
  let y134 : Int := x.2.1
  .need (pre10 y134) <|
  let y135 : Int := (fn10 y134)
  let y136 : Int := y0.1
  .ret (.inl (.h25 y76 y76 y135 0 y136 0 y75 y75))))))) (
  .need ((0 : Int) ≤ 1) <|
  .need (1 < (2 : Int)) <|
  .need ((1 : Nat) < 2) <|
  let y137 : DOperand := y1.2.1
  let y138 : Int := y137.1
  let y139 : Bool := (ieq y138 1)
  .ite y139 (
  .need ((0 : Nat) < 1) <|
  .need (((0 : Nat) + 1 : Nat) ≤ 1) <|
  .need (((1 : Nat) * 8 : Nat) ≤ 2 ^ 40) <|
  .need ((1 : Nat) ≤ 2 ^ 40) <|
  .need ((0 : Nat) < 1) <|
  .need ((0 : Int) ≤ 0) <|
  .need (0 < (1 : Int)) <|
  .need ((0 : Nat) < 1) <|
  .ite y4 (
  .need ((0 : Nat) < 1) <|
  .need (((0 : Nat) + 1 : Nat) ≤ 1) <|
  .need (((1 : Nat) * 8 : Nat) ≤ 2 ^ 40) <|
  .need ((1 : Nat) ≤ 2 ^ 40) <|
  let y140 : Int := x.2.1
  .need (pre10 y140) <|
  let y141 : Int := (fn10 y140)
  let y142 : Int := y137.2.1
  let y143 : (List Int) := [y142]
  let y144 : Int := y2.2.1
  let y145 : (List Int) := [y144]
  .ret (.inl (.h24 1 1 y141 0 y143 y145))) (
  .ite y74 (
  .need (pre28 y2) <|
  .need ((1 : Nat) = 1) <|
  let y146 : (List Int) := (fn28 y2)
  let y147 : Nat := y146.length
  let y148 : Nat := (1 + y147)
  .need (((y148 : Nat) * 8 : Nat) ≤ 2 ^ 40) <|
  .need ((y148 : Nat) ≤ 2 ^ 40) <|
  .need (pre28 y2) <|
  .need (((y147 : Nat) * 8 : Nat) ≤ 2 ^ 40) <|
  .need ((y147 : Nat) ≤ 2 ^ 40) <|
  let y149 : Int := x.2.1
  .need (pre10 y149) <|
  let y150 : Int := (fn10 y149)
  let y151 : Int := y0.1
  let y152 : Int := y137.2.1
  let y153 : (List Int) := [y152]
  .ret (.inl (.h25 y148 y147 y150 0 0 y151 (y153 ++ y146) y146))) (
  let y154 : Int := x.2.1
  .need (pre10 y154) <|
  let y155 : Int := (fn10 y154)
  let y156 : Int := y137.2.1
  let y157 : (List Int) := [y156]
  .ret (.inl (.h26 1 y155 0 y157))))) (
  let y158 : Bool := (ieq y138 2)
  .ite y158 (
  .need (pre28 y137) <|
  let y159 : (List Int) := (fn28 y137)
  let y160 : Nat := y159.length
  .need (((y160 : Nat) * 8 : Nat) ≤ 2 ^ 40) <|
  .need ((y160 : Nat) ≤ 2 ^ 40) <|
  .need (pre28 y137) <|
  .need (((y160 : Nat) * 8 : Nat) ≤ 2 ^ 40) <|
  .need ((y160 : Nat) ≤ 2 ^ 40) <|
  .need ((0 : Nat) < 1) <|
  .need ((0 : Int) ≤ 0) <|
  .need (0 < (1 : Int)) <|
  .need ((0 : Nat) < 1) <|
  .ite y4 (
  .need ((0 : Nat) < 1) <|
  .need (((0 : Nat) + 1 : Nat) ≤ 1) <|
  .need (((1 : Nat) * 8 : Nat) ≤ 2 ^ 40) <|
  .need ((1 : Nat) ≤ 2 ^ 40) <|
  let y161 : Int := x.2.1
  .need (pre10 y161) <|
  let y162 : Int := y0.1
  let y163 : Int := (fn10 y161)
  let y164 : Int := y2.2.1
  let y165 : (List Int) := [y164]
  .ret (.inl (.h27 y162 y160 1 y160 y163 0 y162 0 y159 y165 y159))) (
  .ite y74 (
  .need (pre28 y2) <|
  .need ((y160 : Nat) = y160) <|
  let y166 : (List Int) := (fn28 y2)
  let y167 : Nat := y166.length
  let y168 : Nat := (y160 + y167)
  .need (((y168 : Nat) * 8 : Nat) ≤ 2 ^ 40) <|
  .need ((y168 : Nat) ≤ 2 ^ 40) <|
  .need (pre28 y2) <|
  .need ((y160 : Nat) = y160) <|
  .need (((y168 : Nat) * 8 : Nat) ≤ 2 ^ 40) <|
  .need ((y168 : Nat) ≤ 2 ^ 40) <|
  let y169 : Int := x.2.1
  .need (pre10 y169) <|
  let y170 : Int := (fn10 y169)
  let y171 : Int := y0.1
  let y172 : (List Int) := (y159 ++ y166)
  .ret (.inl (.h25 y168 y168 y170 0 y171 y171 y172 y172))) (
  let y173 : Int := x.2.1
  .need (pre10 y173) <|
  let y174 : Int := (fn10 y173)
  let y175 : Int := y0.1
  .ret (.inl (.h25 y160 y160 y174 0 y175 0 y159 y159))))) (
  .need ((0 : Nat) < 1) <|
  .need ((0 : Int) ≤ 0) <|
  .need (0 < (1 : Int)) <|
  .need ((0 : Nat) < 1) <|
  .ite y4 (
  .need ((0 : Nat) < 1) <|
  .need (((0 : Nat) + 1 : Nat) ≤ 1) <|
  .need (((1 : Nat) * 8 : Nat) ≤ 2 ^ 40) <|
  .need ((1 : Nat) ≤ 2 ^ 40) <|
  let y176 : Int := x.2.1
  .need (pre10 y176) <|
  let y177 : Int := (fn10 y176)
  let y178 : Int := y2.2.1
  let y179 : (List Int) := [y178]
  .ret (.inl (.h28 y177 0 y179))) (
  .ite y74 (
  .need (pre28 y2) <|
  let y180 : (List Int) := (fn28 y2)
  let y181 : Nat := y180.length
  .need (((y181 : Nat) * 8 : Nat) ≤ 2 ^ 40) <|
  .need ((y181 : Nat) ≤ 2 ^ 40) <|
  .need (pre28 y2) <|
  .need (((y181 : Nat) * 8 : Nat) ≤ 2 ^ 40) <|
  .need ((y181 : Nat) ≤ 2 ^ 40) <|
  let y182 : Int := x.2.1
  .need (pre10 y182) <|
  let y183 : Int := (fn10 y182)
  let y184 : Int := y0.1
  .ret (.inl (.h25 y181 y181 y183 0 0 y184 y180 y180))) (
  let y185 : Int := x.2.1
  .need (pre10 y185) <|
  let y186 : Int := (fn10 y185)
  .ret (.inl (.h23 y186 0))))))))
noncomputable def step7h20 (x : DInsn) : Tr (J7 ⊕ DFacts) :=
  .need ((0 : Nat) < 1) <|
  .need ((0 : Int) ≤ 0) <|
  .need (0 < (1 : Int)) <|
  .need ((0 : Nat) < 1) <|
  let y0 : (Int × (DOperand × (DOperand × (Int × Int)))) := x.2.2
  let y1 : DOperand := y0.2.1
  let y2 : Int := y1.1
  let y3 : Bool := (ieq y2 1)
  .ite y3 (
  .need ((0 : Nat) < 1) <|
  .need (((0 : Nat) + 1 : Nat) ≤ 1) <|
  .need (((1 : Nat) * 8 : Nat) ≤ 2 ^ 40) <|
  .need ((1 : Nat) ≤ 2 ^ 40) <|
  let y4 : Int := y0.1
  let y5 : Bool := ((ieq y4 1) == true)
  .ite y5 (
  .ite y3 (
  .need ((0 : Nat) < 1) <|
  .need ((0 : Int) ≤ 0) <|
  .need (0 < (1 : Int)) <|
  .need ((0 : Nat) < 1) <|
  .ite y3 (
  .need ((0 : Nat) < 1) <|
  .need (((0 : Nat) + 1 : Nat) ≤ 1) <|
  .need (((1 : Nat) * 8 : Nat) ≤ 2 ^ 40) <|
  .need ((1 : Nat) ≤ 2 ^ 40) <|
  let y6 : Int := x.2.1
  .need (pre10 y6) <|
  let y7 : Int := (fn10 y6)
  let y8 : (List Int) := [y1.2.1]
  .ret (.inl (.h24 1 1 y7 0 y8 y8))) (
  let y9 : Bool := (ieq y2 2)
  .ite y9 (
  .need (pre28 y1) <|
  let y10 : (List Int) := (fn28 y1)
  let y11 : Nat := y10.length
  .need (((y11 : Nat) * 8 : Nat) ≤ 2 ^ 40) <|
  .need ((y11 : Nat) ≤ 2 ^ 40) <|
  .need (pre28 y1) <|
  .need (((y11 : Nat) * 8 : Nat) ≤ 2 ^ 40) <|
  .need ((y11 : Nat) ≤ 2 ^ 40) <|
  let y12 : Int := x.2.1
  .need (pre10 y12) <|
  let y13 : Int := (fn10 y12)
  let y14 : (List Int) := [y1.2.1]
  .ret (.inl (.h27 y4 y11 1 y11 y13 0 y4 0 y10 y14 y10))) (
  let y15 : Int := x.2.1
  .need (pre10 y15) <|
  let y16 : Int := (fn10 y15)
  let y17 : (List Int) := [y1.2.1]
  .ret (.inl (.h28 y16 0 y17))))) (
  let y18 : Int := x.2.1
  .need (pre10 y18) <|
  let y19 : Int := (fn10 y18)
  let y20 : (List Int) := [y1.2.1]
  .ret (.inl (.h28 y19 0 y20)))) (
  let y21 : Int := x.2.1
  .need (pre10 y21) <|
  let y22 : Int := (fn10 y21)
  let y23 : (List Int) := [y1.2.1]
  .ret (.inl (.h28 y22 0 y23)))) (
  let y24 : Bool := (ieq y2 2)
  .ite y24 (
  .need (pre28 y1) <|
  let y25 : (List Int) := (fn28 y1)
  let y26 : Nat := y25.length
  .need (((y26 : Nat) * 8 : Nat) ≤ 2 ^ 40) <|
  .need ((y26 : Nat) ≤ 2 ^ 40) <|
  .need (pre28 y1) <|
  .need (((y26 : Nat) * 8 : Nat) ≤ 2 ^ 40) <|
  .need ((y26 : Nat) ≤ 2 ^ 40) <|
  let y27 : Int := y0.1
  let y28 : Bool := ((ieq y27 1) == true)
  .ite y28 (
  .ite y3 (
  .need ((0 : Nat) < 1) <|
  .need ((0 : Int) ≤ 0) <|
  .need (0 < (1 : Int)) <|
  .need ((0 : Nat) < 1) <|
  .ite y3 (
  .need ((0 : Nat) < 1) <|
  .need (((0 : Nat) + 1 : Nat) ≤ 1) <|
  .need ((y26 : Nat) = y26) <|
  let y29 : Nat := (y26 + 1)
  .need (((y29 : Nat) * 8 : Nat) ≤ 2 ^ 40) <|
  .need ((y29 : Nat) ≤ 2 ^ 40) <|
  let y30 : Int := x.2.1
  .need (pre10 y30) <|
  let y31 : Int := (fn10 y30)
  let y32 : (List Int) := [y1.2.1]
  .ret (.inl (.h25 y29 y26 y31 0 0 y27 (y25 ++ y32) y25))) (
  .ite y24 (
  .need (pre28 y1) <|
  .need ((y26 : Nat) = y26) <|
  let y33 : Nat := (y26 + y26)
  .need (((y33 : Nat) * 8 : Nat) ≤ 2 ^ 40) <|
  .need ((y33 : Nat) ≤ 2 ^ 40) <|
  .need (pre28 y1) <|
  .need ((y26 : Nat) = y26) <|
  .need (((y33 : Nat) * 8 : Nat) ≤ 2 ^ 40) <|
  .need ((y33 : Nat) ≤ 2 ^ 40) <|
  let y34 : Int := x.2.1
  .need (pre10 y34) <|
  let y35 : Int := (fn10 y34)
  let y36 : (List Int) := (y25 ++ y25)
  .ret (.inl (.h25 y33 y33 y35 0 y27 y27 y36 y36))) (
  let y37 : Int := x.2.1
  .need (pre10 y37) <|
  let y38 : Int := (fn10 y37)
  .ret (.inl (.h25 y26 y26 y38 0 0 y27 y25 y25))))) (
  let y39 : Int := x.2.1
  .need (pre10 y39) <|
  let y40 : Int := (fn10 y39)
  .ret (.inl (.h25 y26 y26 y40 0 0 y27 y25 y25)))) (
  let y41 : Int := x.2.1
  .need (pre10 y41) <|
  let y42 : Int := (fn10 y41)
  .ret (.inl (.h25 y26 y26 y42 0 0 y27 y25 y25)))) (
  let y43 : Int := y0.1
  let y44 : Bool := ((ieq y43 1) == true)
  .ite y44 (
  .ite y3 (
  .need ((0 : Nat) < 1) <|
  .need ((0 : Int) ≤ 0) <|
  .need (0 < (1 : Int)) <|
  .need ((0 : Nat) < 1) <|
  .ite y3 (
  .need ((0 : Nat) < 1) <|
  .need (((0 : Nat) + 1 : Nat) ≤ 1) <|
  .need (((1 : Nat) * 8 : Nat) ≤ 2 ^ 40) <|
  .need ((1 : Nat) ≤ 2 ^ 40) <|
  let y45 : Int := x.2.1
  .need (pre10 y45) <|
  let y46 : Int := (fn10 y45)
  let y47 : (List Int) := [y1.2.1]
  .ret (.inl (.h26 1 y46 0 y47))) (
  .ite y24 (
  .need (pre28 y1) <|
  let y48 : (List Int) := (fn28 y1)
  let y49 : Nat := y48.length
  .need (((y49 : Nat) * 8 : Nat) ≤ 2 ^ 40) <|
  .need ((y49 : Nat) ≤ 2 ^ 40) <|
  .need (pre28 y1) <|
  .need (((y49 : Nat) * 8 : Nat) ≤ 2 ^ 40) <|
  .need ((y49 : Nat) ≤ 2 ^ 40) <|
  let y50 : Int := x.2.1
  .need (pre10 y50) <|
  let y51 : Int := (fn10 y50)
  .ret (.inl (.h25 y49 y49 y51 0 y43 0 y48 y48))) (
  let y52 : Int := x.2.1
  .need (pre10 y52) <|
  let y53 : Int := (fn10 y52)
  .ret (.inl (.h23 y53 0))))) (
  let y54 : Int := x.2.1
  .need (pre10 y54) <|
  let y55 : Int := (fn10 y54)
  .ret (.inl (.h23 y55 0)))) (
  let y56 : Int := x.2.1
  .need (pre10 y56) <|
  let y57 : Int := (fn10 y56)
  .ret (.inl (.h23 y57 0)))))
noncomputable def step7h21 (x : DInsn) : Tr (J7 ⊕ DFacts) :=
  .need ((0 : Nat) < 1) <|
  .need ((0 : Int) ≤ 0) <|
  .need (0 < (1 : Int)) <|
  .need ((0 : Nat) < 1) <|
  let y0 : (Int × (DOperand × (DOperand × (Int × Int)))) := x.2.2
  let y1 : (DOperand × (DOperand × (Int × Int))) := y0.2
  let y2 : DOperand := y1.2.1
  let y3 : Int := y2.1
  .ite (ieq y3 1) (
  .need ((0 : Nat) < 1) <|
  .need (((0 : Nat) + 1 : Nat) ≤ 1) <|
  .need (((1 : Nat) * 8 : Nat) ≤ 2 ^ 40) <|
  .need ((1 : Nat) ≤ 2 ^ 40) <|
  .need ((0 : Nat) < 1) <|
  .need ((0 : Int) ≤ 0) <|
  .need (0 < (1 : Int)) <|
  .need ((0 : Nat) < 1) <|
  let y4 : DOperand := y1.1
  let y5 : Int := y4.1
  let y6 : Bool := (ieq y5 1)
  .ite y6 (
  .need ((0 : Nat) < 1) <|
  .need (((0 : Nat) + 1 : Nat) ≤ 1) <|
  .need (((1 : Nat) * 8 : Nat) ≤ 2 ^ 40) <|
  .need ((1 : Nat) ≤ 2 ^ 40) <|
  let y7 : (List Int) := [y2.2.1]
  let y8 : (List Int) := [y4.2.1]
  .ret (.inl (.h24 1 1 0 0 y7 y8))) (
  let y9 : Bool := (ieq y5 2)
  .ite y9 (
  .need (pre28 y4) <|
  .need ((1 : Nat) = 1) <|
  let y10 : (List Int) := (fn28 y4)
  let y11 : Nat := y10.length
  let y12 : Nat := (1 + y11)
  .need (((y12 : Nat) * 8 : Nat) ≤ 2 ^ 40) <|
  .need ((y12 : Nat) ≤ 2 ^ 40) <|
  .need (pre28 y4) <|
  .need (((y11 : Nat) * 8 : Nat) ≤ 2 ^ 40) <|
  .need ((y11 : Nat) ≤ 2 ^ 40) <|
  let y13 : Int := y0.1
  let y14 : (List Int) := [y2.2.1]
  .ret (.inl (.h25 y12 y11 0 0 0 y13 (y14 ++ y10) y10))) (
  let y15 : (List Int) := [y2.2.1]
  .ret (.inl (.h26 1 0 0 y15))))) (
  .ite (ieq y3 2) (
  .need (pre28 y2) <|
  let y16 : (List Int) := (fn28 y2)
  let y17 : Nat := y16.length
  .need (((y17 : Nat) * 8 : Nat) ≤ 2 ^ 40) <|
  .need ((y17 : Nat) ≤ 2 ^ 40) <|
  .need (pre28 y2) <|
  .need (((y17 : Nat) * 8 : Nat) ≤ 2 ^ 40) <|
  .need ((y17 : Nat) ≤ 2 ^ 40) <|
  .need ((0 : Nat) < 1) <|
  .need ((0 : Int) ≤ 0) <|
  .need (0 < (1 : Int)) <|
  .need ((0 : Nat) < 1) <|
  let y18 : DOperand := y1.1
  let y19 : Int := y18.1
  let y20 : Bool := (ieq y19 1)
  .ite y20 (
  .need ((0 : Nat) < 1) <|
  .need (((0 : Nat) + 1 : Nat) ≤ 1) <|
  .need (((1 : Nat) * 8 : Nat) ≤ 2 ^ 40) <|
  .need ((1 : Nat) ≤ 2 ^ 40) <|
  let y21 : Int := y0.1
  let y22 : (List Int) := [y18.2.1]
  .ret (.inl (.h27 y21 y17 1 y17 0 0 1 0 y16 y22 y16))) (
  let y23 : Bool := (ieq y19 2)
  .ite y23 (
  .need (pre28 y18) <|
  .need ((y17 : Nat) = y17) <|
  let y24 : (List Int) := (fn28 y18)
  let y25 : Nat := y24.length
  let y26 : Nat := (y17 + y25)
  .need (((y26 : Nat) * 8 : Nat) ≤ 2 ^ 40) <|
  .need ((y26 : Nat) ≤ 2 ^ 40) <|
  .need (pre28 y18) <|
  .need ((y17 : Nat) = y17) <|
  .need (((y26 : Nat) * 8 : Nat) ≤ 2 ^ 40) <|
  .need ((y26 : Nat) ≤ 2 ^ 40) <|
  let y27 : Int := y0.1
  let y28 : (List Int) := (y16 ++ y24)
  .ret (.inl (.h25 y26 y26 0 0 1 y27 y28 y28))) (
  .ret (.inl (.h25 y17 y17 0 0 1 0 y16 y16))))) (
  .need ((0 : Nat) < 1) <|
  .need ((0 : Int) ≤ 0) <|
  .need (0 < (1 : Int)) <|
  .need ((0 : Nat) < 1) <|
  let y29 : DOperand := y1.1
  let y30 : Int := y29.1
  let y31 : Bool := (ieq y30 1)
  .ite y31 (
  .need ((0 : Nat) < 1) <|
  .need (((0 : Nat) + 1 : Nat) ≤ 1) <|
  .need (((1 : Nat) * 8 : Nat) ≤ 2 ^ 40) <|
  .need ((1 : Nat) ≤ 2 ^ 40) <|
  let y32 : (List Int) := [y29.2.1]
  .ret (.inl (.h28 0 0 y32))) (
  let y33 : Bool := (ieq y30 2)
  .ite y33 (
  .need (pre28 y29) <|
  let y34 : (List Int) := (fn28 y29)
  let y35 : Nat := y34.length
  .need (((y35 : Nat) * 8 : Nat) ≤ 2 ^ 40) <|
  .need ((y35 : Nat) ≤ 2 ^ 40) <|
  .need (pre28 y29) <|
  .need (((y35 : Nat) * 8 : Nat) ≤ 2 ^ 40) <|
  .need ((y35 : Nat) ≤ 2 ^ 40) <|
  let y36 : Int := y0.1
  .ret (.inl (.h25 y35 y35 0 0 0 y36 y34 y34))) (
  .ret (.inl (.h23 0 0))))))
noncomputable def step7h22 (x : DInsn) : Tr (J7 ⊕ DFacts) :=
  .need (pre9 x) <|
  .ite (!(fn9 x)) (
  .need ((0 : Nat) < 2) <|
  .need ((1 : Nat) < 2) <|
  .need ((0 : Int) ≤ 0) <|
  .need (0 < (2 : Int)) <|
  .need ((0 : Nat) < 2) <|
  let y0 : (Int × (DOperand × (DOperand × (Int × Int)))) := x.2.2
  let y1 : (DOperand × (DOperand × (Int × Int))) := y0.2
  let y2 : DOperand := y1.1
  let y3 : Int := y2.1
  let y4 : Bool := (ieq y3 1)
  .ite y4 (
  .need ((0 : Nat) < 1) <|
  .need (((0 : Nat) + 1 : Nat) ≤ 1) <|
  .need (((1 : Nat) * 8 : Nat) ≤ 2 ^ 40) <|
  .need ((1 : Nat) ≤ 2 ^ 40) <|
  .need ((0 : Int) ≤ 1) <|
  .need (1 < (2 : Int)) <|
  .need ((1 : Nat) < 2) <|
  let y5 : DOperand := y1.2.1
  let y6 : Int := y5.1
  let y7 : Bool := (ieq y6 1)
  .ite y7 (
  .need ((0 : Nat) < 1) <|
  .need (((0 : Nat) + 1 : Nat) ≤ 1) <|
  .need ((1 : Nat) = 1) <|
  .need (((2 : Nat) * 8 : Nat) ≤ 2 ^ 40) <|
  .need ((2 : Nat) ≤ 2 ^ 40) <|
  .need ((0 : Nat) < 1) <|
  .need ((0 : Int) ≤ 0) <|
  .need (0 < (1 : Int)) <|
  .need ((0 : Nat) < 1) <|
  .ite y4 (
  .need ((0 : Nat) < 1) <|
  .need (((0 : Nat) + 1 : Nat) ≤ 1) <|
  .need (((1 : Nat) * 8 : Nat) ≤ 2 ^ 40) <|
  .need ((1 : Nat) ≤ 2 ^ 40) <|
  let y8 : Int := y2.2.1
  let y9 : Int := y5.2.1
  let y10 : (List Int) := [y8, y9]
  let y11 : (List Int) := [y8]
  .ret (.inl (.h24 2 1 0 0 y10 y11))) (
  let y12 : Bool := (ieq y3 2)
  .ite y12 (
  .need (pre28 y2) <|
  .need ((2 : Nat) = 2) <|
  let y13 : (List Int) := (fn28 y2)
  let y14 : Nat := y13.length
  let y15 : Nat := (2 + y14)
  .need (((y15 : Nat) * 8 : Nat) ≤ 2 ^ 40) <|
  .need ((y15 : Nat) ≤ 2 ^ 40) <|
  .need (pre28 y2) <|
  .need (((y14 : Nat) * 8 : Nat) ≤ 2 ^ 40) <|
  .need ((y14 : Nat) ≤ 2 ^ 40) <|
  let y16 : Int := y0.1
  let y17 : Int := y2.2.1
  let y18 : Int := y5.2.1
  let y19 : (List Int) := [y17, y18]
  .ret (.inl (.h25 y15 y14 0 0 0 y16 (y19 ++ y13) y13))) (
  let y20 : Int := y2.2.1
  let y21 : Int := y5.2.1
  let y22 : (List Int) := [y20, y21]
  .ret (.inl (.h26 2 0 0 y22))))) (
  let y23 : Bool := (ieq y6 2)
  .ite y23 (
  .need (pre28 y5) <|
  .need ((1 : Nat) = 1) <|
  let y24 : (List Int) := (fn28 y5)
  let y25 : Nat := y24.length
  let y26 : Nat := (1 + y25)
  .need (((y26 : Nat) * 8 : Nat) ≤ 2 ^ 40) <|
  .need ((y26 : Nat) ≤ 2 ^ 40) <|
  .need (pre28 y5) <|
  .need (((y25 : Nat) * 8 : Nat) ≤ 2 ^ 40) <|
  .need ((y25 : Nat) ≤ 2 ^ 40) <|
  .need ((0 : Nat) < 1) <|
  .need ((0 : Int) ≤ 0) <|
  .need (0 < (1 : Int)) <|
  .need ((0 : Nat) < 1) <|
  .ite y4 (
  .need ((0 : Nat) < 1) <|
  .need (((0 : Nat) + 1 : Nat) ≤ 1) <|
  .need (((1 : Nat) * 8 : Nat) ≤ 2 ^ 40) <|
  .need ((1 : Nat) ≤ 2 ^ 40) <|
  let y27 : Int := y0.1
  let y28 : Int := y2.2.1
  let y29 : (List Int) := [y28]
  let y30 : (List Int) := (y29 ++ y24)
  .ret (.inl (.h27 y27 y26 1 y25 0 0 y27 0 y30 y29 y24))) (
  let y31 : Bool := (ieq y3 2)
  .ite y31 (
  .need (pre28 y2) <|
  let y32 : Int := y2.2.1
  let y33 : (List Int) := [y32]
  let y34 : (List Int) := (y33 ++ y24)
  .need ((y26 : Nat) = y34.length) <|
  let y35 : (List Int) := (fn28 y2)
  let y36 : Nat := y35.length
  let y37 : Nat := (y26 + y36)
  .need (((y37 : Nat) * 8 : Nat) ≤ 2 ^ 40) <|
  .need ((y37 : Nat) ≤ 2 ^ 40) <|
  .need (pre28 y2) <|
  .need ((y25 : Nat) = y25) <|
  let y38 : Nat := (y25 + y36)
  .need (((y38 : Nat) * 8 : Nat) ≤ 2 ^ 40) <|
  .need ((y38 : Nat) ≤ 2 ^ 40) <|
  let y39 : Int := y0.1
  let y40 : (List Int) := (y24 ++ y35)
  .ret (.inl (.h25 y37 y38 0 0 y39 y39 (y34 ++ y35) y40))) (
  let y41 : Int := y0.1
  let y42 : Int := y2.2.1
  let y43 : (List Int) := [y42]
  let y44 : (List Int) := (y43 ++ y24)
  .ret (.inl (.h25 y26 y25 0 0 y41 0 y44 y24))))) (
  .need ((0 : Nat) < 1) <|
  .need ((0 : Int) ≤ 0) <|
  .need (0 < (1 : Int)) <|
  .need ((0 : Nat) < 1) <|
  .ite y4 (
  .need ((0 : Nat) < 1) <|
  .need (((0 : Nat) + 1 : Nat) ≤ 1) <|
  .need (((1 : Nat) * 8 : Nat) ≤ 2 ^ 40) <|
  .need ((1 : Nat) ≤ 2 ^ 40) <|
  let y45 : Int := y2.2.1
  let y46 : (List Int) := [y45]
  .ret (.inl (.h24 1 1 0 0 y46 y46))) (
  let y47 : Bool := (ieq y3 2)
  .ite y47 (
  .need (pre28 y2) <|
  .need ((1 : Nat) = 1) <|
  let y48 : (List Int) := (fn28 y2)
  let y49 : Nat := y48.length
  let y50 : Nat := (1 + y49)
  .need (((y50 : Nat) * 8 : Nat) ≤ 2 ^ 40) <|
  .need ((y50 : Nat) ≤ 2 ^ 40) <|
  .need (pre28 y2) <|
  .need (((y49 : Nat) * 8 : Nat) ≤ 2 ^ 40) <|
  .need ((y49 : Nat) ≤ 2 ^ 40) <|
  let y51 : Int := y0.1
  let y52 : Int := y2.2.1
  let y53 : (List Int) := [y52]
  .ret (.inl (.h25 y50 y49 0 0 0 y51 (y53 ++ y48) y48))) (
  let y54 : Int := y2.2.1
  let y55 : (List Int) := [y54]
  .ret (.inl (.h26 1 0 0 y55))))))) (
  let y56 : Bool := (ieq y3 2)
  .ite y56 (
  .need (pre28 y2) <|
  let y57 : (List Int) := (fn28 y2)
  let y58 : Nat := y57.length
  .need (((y58 : Nat) * 8 : Nat) ≤ 2 ^ 40) <|
  .need ((y58 : Nat) ≤ 2 ^ 40) <|
  .need (pre28 y2) <|
  .need (((y58 : Nat) * 8 : Nat) ≤ 2 ^ 40) <|
  .need ((y58 : Nat) ≤ 2 ^ 40) <|
  .need ((0 : Int) ≤ 1) <|
  .need (1 < (2 : Int)) <|
  .need ((1 : Nat) < 2) <|
  let y59 : DOperand := y1.2.1
  let y60 : Int := y59.1
  let y61 : Bool := (ieq y60 1)
  .ite y61 (
  .need ((0 : Nat) < 1) <|
  .need (((0 : Nat) + 1 : Nat) ≤ 1) <|
  .need ((y58 : Nat) = y58) <|
  let y62 : Nat := (y58 + 1)
  .need (((y62 : Nat) * 8 : Nat) ≤ 2 ^ 40) <|
  .need ((y62 : Nat) ≤ 2 ^ 40) <|
  .need ((0 : Nat) < 1) <|
  .need ((0 : Int) ≤ 0) <|
  .need (0 < (1 : Int)) <|
  .need ((0 : Nat) < 1) <|
  .ite y4 (
  .need ((0 : Nat) < 1) <|
  .need (((0 : Nat) + 1 : Nat) ≤ 1) <|
  .need (((1 : Nat) * 8 : Nat) ≤ 2 ^ 40) <|
  .need ((1 : Nat) ≤ 2 ^ 40) <|
  let y63 : Int := y0.1
  let y64 : Int := y59.2.1
  let y65 : (List Int) := [y64]
  let y66 : (List Int) := (y57 ++ y65)
  let y67 : Int := y2.2.1
  let y68 : (List Int) := [y67]
  .ret (.inl (.h27 y63 y62 1 y58 0 0 y63 0 y66 y68 y57))) (
  .ite y56 (
  .need (pre28 y2) <|
  let y69 : Int := y59.2.1
  let y70 : (List Int) := [y69]
  let y71 : (List Int) := (y57 ++ y70)
  .need ((y62 : Nat) = y71.length) <|
  let y72 : Nat := (y62 + y58)
  .need (((y72 : Nat) * 8 : Nat) ≤ 2 ^ 40) <|
  .need ((y72 : Nat) ≤ 2 ^ 40) <|
  .need (pre28 y2) <|
  .need ((y58 : Nat) = y58) <|
  let y73 : Nat := (y58 + y58)
  .need (((y73 : Nat) * 8 : Nat) ≤ 2 ^ 40) <|
  .need ((y73 : Nat) ≤ 2 ^ 40) <|
  let y74 : Int := y0.1
  let y75 : (List Int) := (y57 ++ y57)
  .ret (.inl (.h25 y72 y73 0 0 y74 y74 (y71 ++ y57) y75))) (
  let y76 : Int := y0.1
  let y77 : Int := y59.2.1
  let y78 : (List Int) := [y77]
  let y79 : (List Int) := (y57 ++ y78)
  .ret (.inl (.h25 y62 y58 0 0 y76 0 y79 y57))))) (
  let y80 : Bool := (ieq y60 2)
  .ite y80 (
  .need (pre28 y59) <|
  .need ((y58 : Nat) = y58) <|
  let y81 : (List Int) := (fn28 y59)
  let y82 : Nat := y81.length
  let y83 : Nat := (y58 + y82)
  .need (((y83 : Nat) * 8 : Nat) ≤ 2 ^ 40) <|
  .need ((y83 : Nat) ≤ 2 ^ 40) <|
  .need (pre28 y59) <|
  .need ((y58 : Nat) = y58) <|
  .need (((y83 : Nat) * 8 : Nat) ≤ 2 ^ 40) <|
  .need ((y83 : Nat) ≤ 2 ^ 40) <|
  .need ((0 : Nat) < 1) <|
  .need ((0 : Int) ≤ 0) <|
  .need (0 < (1 : Int)) <|
  .need ((0 : Nat) < 1) <|
  .ite y4 (
  .need ((0 : Nat) < 1) <|
  .need (((0 : Nat) + 1 : Nat) ≤ 1) <|
  .need (((1 : Nat) * 8 : Nat) ≤ 2 ^ 40) <|
  .need ((1 : Nat) ≤ 2 ^ 40) <|
  let y84 : Int := y0.1
  let y85 : (List Int) := (y57 ++ y81)
  let y86 : Int := y2.2.1
  let y87 : (List Int) := [y86]
  .ret (.inl (.h27 y84 y83 1 y83 0 0 y84 0 y85 y87 y85))) (
  .ite y56 (
  .need (pre28 y2) <|
  let y88 : (List Int) := (y57 ++ y81)
  .need ((y83 : Nat) = y88.length) <|
  let y89 : Nat := (y83 + y58)
  .need (((y89 : Nat) * 8 : Nat) ≤ 2 ^ 40) <|
  .need ((y89 : Nat) ≤ 2 ^ 40) <|
  .need (pre28 y2) <|
  .need ((y83 : Nat) = y88.length) <|
  .need (((y89 : Nat) * 8 : Nat) ≤ 2 ^ 40) <|
  .need ((y89 : Nat) ≤ 2 ^ 40) <|
  let y90 : Int := y0.1
  let y91 : (List Int) := (y88 ++ y57)
  .ret (.inl (.h25 y89 y89 0 0 y90 y90 y91 y91))) (
  let y92 : Int := y0.1
  let y93 : (List Int) := (y57 ++ y81)
  .ret (.inl (.h25 y83 y83 0 0 y92 0 y93 y93))))) (
  .need ((0 : Nat) < 1) <|
  .need ((0 : Int) ≤ 0) <|
  .need (0 < (1 : Int)) <|
  .need ((0 : Nat) < 1) <|
  .ite y4 (
  .need ((0 : Nat) < 1) <|
  .need (((0 : Nat) + 1 : Nat) ≤ 1) <|
  .need (((1 : Nat) * 8 : Nat) ≤ 2 ^ 40) <|
  .need ((1 : Nat) ≤ 2 ^ 40) <|
  let y94 : Int := y0.1
  let y95 : Int := y2.2.1
  let y96 : (List Int) := [y95]
  .ret (.inl (.h27 y94 y58 1 y58 0 0 y94 0 y57 y96 y57))) (
  .ite y56 (
  .need (pre28 y2) <|
  .need ((y58 : Nat) = y58) <|
  let y97 : Nat := (y58 + y58)
  .need (((y97 : Nat) * 8 : Nat) ≤ 2 ^ 40) <|
  .need ((y97 : Nat) ≤ 2 ^ 40) <|
  .need (pre28 y2) <|
  .need ((y58 : Nat) = y58) <|
  .need (((y97 : Nat) * 8 : Nat) ≤ 2 ^ 40) <|
  .need ((y97 : Nat) ≤ 2 ^ 40) <|
  let y98 : Int := y0.1
  let y99 : (List Int) := (y57 ++ y57)
  .ret (.inl (.h25 y97 y97 0 0 y98 y98 y99 y99))) (
  let y100 : Int := y0.1
  .ret (.inl (.h25 y58 y58 0 0 y100 0 y57 y57))))))) (
  .need ((0 : Int) ≤ 1) <|
  .need (1 < (2 : Int)) <|
  .need ((1 : Nat) < 2) <|
  let y101 : DOperand := y1.2.1
  let y102 : Int := y101.1
  let y103 : Bool := (ieq y102 1)
  .ite y103 (
  .need ((0 : Nat) < 1) <|
  .need (((0 : Nat) + 1 : Nat) ≤ 1) <|
  .need (((1 : Nat) * 8 : Nat) ≤ 2 ^ 40) <|
  .need ((1 : Nat) ≤ 2 ^ 40) <|
  .need ((0 : Nat) < 1) <|
  .need ((0 : Int) ≤ 0) <|
  .need (0 < (1 : Int)) <|
  .need ((0 : Nat) < 1) <|
  .ite y4 (
  .need ((0 : Nat) < 1) <|
  .need (((0 : Nat) + 1 : Nat) ≤ 1) <|
  .need (((1 : Nat) * 8 : Nat) ≤ 2 ^ 40) <|
  .need ((1 : Nat) ≤ 2 ^ 40) <|
  let y104 : Int := y101.2.1
  let y105 : (List Int) := [y104]
  let y106 : Int := y2.2.1
  let y107 : (List Int) := [y106]
  .ret (.inl (.h24 1 1 0 0 y105 y107))) (
  .ite y56 (
  .need (pre28 y2) <|
  .need ((1 : Nat) = 1) <|
  let y108 : (List Int) := (fn28 y2)
  let y109 : Nat := y108.length
  let y110 : Nat := (1 + y109)
  .need (((y110 : Nat) * 8 : Nat) ≤ 2 ^ 40) <|
  .need ((y110 : Nat) ≤ 2 ^ 40) <|
  .need (pre28 y2) <|
  .need (((y109 : Nat) * 8 : Nat) ≤ 2 ^ 40) <|
  .need ((y109 : Nat) ≤ 2 ^ 40) <|
  let y111 : Int := y0.1
  let y112 : Int := y101.2.1
  let y113 : (List Int) := [y112]
  .ret (.inl (.h25 y110 y109 0 0 0 y111 (y113 ++ y108) y108))) (
  let y114 : Int := y101.2.1
  let y115 : (List Int) := [y114]
  .ret (.inl (.h26 1 0 0 y115))))) (
  let y116 : Bool := (ieq y102 2)
  .ite y116 (
  .need (pre28 y101) <|
  let y117 : (List Int) := (fn28 y101)
  let y118 : Nat := y117.length
  .need (((y118 : Nat) * 8 : Nat) ≤ 2 ^ 40) <|
  .need ((y118 : Nat) ≤ 2 ^ 40) <|
  .need (pre28 y101) <|
  .need (((y118 : Nat) * 8 : Nat) ≤ 2 ^ 40) <|
  .need ((y118 : Nat) ≤ 2 ^ 40) <|
  .need ((0 : Nat) < 1) <|
  .need ((0 : Int) ≤ 0) <|
  .need (0 < (1 : Int)) <|
  .need ((0 : Nat) < 1) <|
  .ite y4 (
  .need ((0 : Nat) < 1) <|
  .need (((0 : Nat) + 1 : Nat) ≤ 1) <|
  .need (((1 : Nat) * 8 : Nat) ≤ 2 ^ 40) <|
  .need ((1 : Nat) ≤ 2 ^ 40) <|
  let y119 : Int := y0.1
  let y120 : Int := y2.2.1
  let y121 : (List Int) := [y120]
  .ret (.inl (.h27 y119 y118 1 y118 0 0 y119 0 y117 y121 y117))) (
  .ite y56 (
  .need (pre28 y2) <|
  .need ((y118 : Nat) = y118) <|
  let y122 : (List Int) := (fn28 y2)
  let y123 : Nat := y122.length
  let y124 : Nat := (y118 + y123)
  .need (((y124 : Nat) * 8 : Nat) ≤ 2 ^ 40) <|
  .need ((y124 : Nat) ≤ 2 ^ 40) <|
  .need (pre28 y2) <|
  .need ((y118 : Nat) = y118) <|
  .need (((y124 : Nat) * 8 : Nat) ≤ 2 ^ 40) <|
  .need ((y124 : Nat) ≤ 2 ^ 40) <|
  let y125 : Int := y0.1
  let y126 : (List Int) := (y117 ++ y122)
  .ret (.inl (.h25 y124 y124 0 0 y125 y125 y126 y126))) (
  let y127 : Int := y0.1
  .ret (.inl (.h25 y118 y118 0 0 y127 0 y117 y117))))) (
  .need ((0 : Nat) < 1) <|
  .need ((0 : Int) ≤ 0) <|
  .need (0 < (1 : Int)) <|
  .need ((0 : Nat) < 1) <|
  .ite y4 (
  .need ((0 : Nat) < 1) <|
  .need (((0 : Nat) + 1 : Nat) ≤ 1) <|
  .need (((1 : Nat) * 8 : Nat) ≤ 2 ^ 40) <|
  .need ((1 : Nat) ≤ 2 ^ 40) <|
  let y128 : Int := y2.2.1
  let y129 : (List Int) := [y128]
  .ret (.inl (.h28 0 0 y129))) (
  .ite y56 (
  .need (pre28 y2) <|
  let y130 : (List Int) := (fn28 y2)
  let y131 : Nat := y130.length
  .need (((y131 : Nat) * 8 : Nat) ≤ 2 ^ 40) <|
  .need ((y131 : Nat) ≤ 2 ^ 40) <|
  .need (pre28 y2) <|
  .need (((y131 : Nat) * 8 : Nat) ≤ 2 ^ 40) <|
  .need ((y131 : Nat) ≤ 2 ^ 40) <|
  let y132 : Int := y0.1
  .ret (.inl (.h25 y131 y131 0 0 0 y132 y130 y130))) (
  .ret (.inl (.h23 0 0))))))))) (
  .need ((0 : Nat) < 1) <|
  .need ((0 : Int) ≤ 0) <|
  .need (0 < (1 : Int)) <|
  .need ((0 : Nat) < 1) <|
  let y133 : (Int × (DOperand × (DOperand × (Int × Int)))) := x.2.2
  let y134 : (DOperand × (DOperand × (Int × Int))) := y133.2
  let y135 : DOperand := y134.1
  let y136 : Int := y135.1
  let y137 : Bool := (ieq y136 1)
  .ite y137 (
  .need ((0 : Nat) < 1) <|
  .need (((0 : Nat) + 1 : Nat) ≤ 1) <|
  .need (((1 : Nat) * 8 : Nat) ≤ 2 ^ 40) <|
  .need ((1 : Nat) ≤ 2 ^ 40) <|
  let y138 : Int := y135.2.1
  let y139 : (List Int) := [y138]
  .ret (.inl (.h28 0 0 y139))) (
  let y140 : Bool := (ieq y136 2)
  .ite y140 (
  .need (pre28 y135) <|
  let y141 : (List Int) := (fn28 y135)
  let y142 : Nat := y141.length
  .need (((y142 : Nat) * 8 : Nat) ≤ 2 ^ 40) <|
  .need ((y142 : Nat) ≤ 2 ^ 40) <|
  .need (pre28 y135) <|
  .need (((y142 : Nat) * 8 : Nat) ≤ 2 ^ 40) <|
  .need ((y142 : Nat) ≤ 2 ^ 40) <|
  let y143 : Int := y133.1
  .ret (.inl (.h25 y142 y142 0 0 0 y143 y141 y141))) (
  .ret (.inl (.h23 0 0)))))
noncomputable def step7h23 (x : DInsn) (v48 : Int) (v49 : Int) : Tr (J7 ⊕ DFacts) :=
  .need (pre16 ([] : List Int)) <|
  .need (pre16 ([] : List Int)) <|
  .need (pre16 ([] : List Int)) <|
  let y0 : ((List Int) × Int) := ([26, 27, 28, 29], x.1)
  .need (pre17 y0) <|
  .ret (.inr ((fn16 ([] : List Int)), ((fn16 ([] : List Int)), ((fn16 ([] : List Int)), (v48, (v49, (0, (0, (fn17 y0)))))))))
noncomputable def step7h24 (x : DInsn) (v48 : Nat) (v49 : Nat) (v50 : Int) (v51 : Int) (v55 : (List Int)) (v56 : (List Int)) : Tr (J7 ⊕ DFacts) :=
  .need ((v48 : Nat) = v55.length) <|
  .need ((v49 : Nat) = v56.length) <|
  .need (pre16 v55) <|
  .need (pre16 v56) <|
  .need (pre16 ([] : List Int)) <|
  let y0 : ((List Int) × Int) := ([26, 27, 28, 29], x.1)
  .need (pre17 y0) <|
  .ret (.inr ((fn16 v55), ((fn16 v56), ((fn16 ([] : List Int)), (v50, (v51, (0, (0, (fn17 y0)))))))))
noncomputable def step7h25 (x : DInsn) (v48 : Nat) (v49 : Nat) (v50 : Int) (v51 : Int) (v52 : Int) (v53 : Int) (v55 : (List Int)) (v56 : (List Int)) : Tr (J7 ⊕ DFacts) :=
  .need ((v48 : Nat) = v55.length) <|
  .need ((v49 : Nat) = v56.length) <|
  .need (pre16 v55) <|
  .need (pre16 ([] : List Int)) <|
  .need (pre16 v56) <|
  let y0 : ((List Int) × Int) := ([26, 27, 28, 29], x.1)
  .need (pre17 y0) <|
  .ret (.inr ((fn16 v55), ((fn16 ([] : List Int)), ((fn16 v56), (v50, (v51, (v52, (v53, (fn17 y0)))))))))
noncomputable def step7h26 (x : DInsn) (v48 : Nat) (v49 : Int) (v50 : Int) (v54 : (List Int)) : Tr (J7 ⊕ DFacts) :=
  .need ((v48 : Nat) = v54.length) <|
  .need (pre16 v54) <|
  .need (pre16 ([] : List Int)) <|
  .need (pre16 ([] : List Int)) <|
  let y0 : ((List Int) × Int) := ([26, 27, 28, 29], x.1)
  .need (pre17 y0) <|
  .ret (.inr ((fn16 v54), ((fn16 ([] : List Int)), ((fn16 ([] : List Int)), (v49, (v50, (0, (0, (fn17 y0)))))))))
noncomputable def step7h27 (x : DInsn) (v47 : Int) (v48 : Nat) (v49 : Nat) (v50 : Nat) (v51 : Int) (v52 : Int) (v53 : Int) (v54 : Int) (v56 : (List Int)) (v57 : (List Int)) (v58 : (List Int)) : Tr (J7 ⊕ DFacts) :=
  .need ((v48 : Nat) = v56.length) <|
  .need ((v49 : Nat) = v57.length) <|
  .need ((v50 : Nat) = v58.length) <|
  .need (pre16 v56) <|
  .need (pre16 v57) <|
  .need (pre16 v58) <|
  let y0 : ((List Int) × Int) := ([26, 27, 28, 29], x.1)
  .need (pre17 y0) <|
  .ret (.inr ((fn16 v56), ((fn16 v57), ((fn16 v58), (v51, (v52, (v53, (v54, (fn17 y0)))))))))
noncomputable def step7h28 (x : DInsn) (v49 : Int) (v50 : Int) (v54 : (List Int)) : Tr (J7 ⊕ DFacts) :=
  .need ((1 : Nat) = v54.length) <|
  .need (pre16 ([] : List Int)) <|
  .need (pre16 v54) <|
  .need (pre16 ([] : List Int)) <|
  let y0 : ((List Int) × Int) := ([26, 27, 28, 29], x.1)
  .need (pre17 y0) <|
  .ret (.inr ((fn16 ([] : List Int)), ((fn16 v54), ((fn16 ([] : List Int)), (v49, (v50, (0, (0, (fn17 y0)))))))))
noncomputable def step7h29 (x : DInsn) (v48 : (List Int)) (v55 : (List Int)) : Tr (J7 ⊕ DFacts) :=
  .need ((1 : Nat) = v55.length) <|
  .need (pre16 v48) <|
  .need (pre16 v55) <|
  .need (pre16 ([] : List Int)) <|
  let y0 : ((List Int) × Int) := ([26, 27, 28, 29], x.1)
  .need (pre17 y0) <|
  .ret (.inr ((fn16 v48), ((fn16 v55), ((fn16 ([] : List Int)), (0, (0, (0, (0, (fn17 y0)))))))))
noncomputable def step7h30 (x : DInsn) (v48 : (List Int)) : Tr (J7 ⊕ DFacts) :=
  .need (pre16 v48) <|
  .need (pre16 ([] : List Int)) <|
  .need (pre16 ([] : List Int)) <|
  let y0 : ((List Int) × Int) := ([26, 27, 28, 29], x.1)
  .need (pre17 y0) <|
  .ret (.inr ((fn16 v48), ((fn16 ([] : List Int)), ((fn16 ([] : List Int)), (0, (0, (0, (0, (fn17 y0)))))))))
noncomputable def step7 (x : DInsn) : J7 → Tr (J7 ⊕ DFacts)
  | .h0 => step7h0 x
  | .h1 => step7h1 x
  | .h2 => step7h2 x
  | .h3 => step7h3 x
  | .h4 => step7h4 x
  | .h5 => step7h5 x
  | .h6 => step7h6 x
  | .h7 => step7h7 x
  | .h8 => step7h8 x
  | .h9 => step7h9 x
  | .h10 => step7h10 x
  | .h11 => step7h11 x
  | .h12 => step7h12 x
  | .h13 => step7h13 x
  | .h14 => step7h14 x
  | .h15 => step7h15 x
  | .h16 => step7h16 x
  | .h17 => step7h17 x
  | .h18 => step7h18 x
  | .h19 => step7h19 x
  | .h20 => step7h20 x
  | .h21 => step7h21 x
  | .h22 => step7h22 x
  | .h23 v48 v49 => step7h23 x v48 v49
  | .h24 v48 v49 v50 v51 v55 v56 => step7h24 x v48 v49 v50 v51 v55 v56
  | .h25 v48 v49 v50 v51 v52 v53 v55 v56 => step7h25 x v48 v49 v50 v51 v52 v53 v55 v56
  | .h26 v48 v49 v50 v54 => step7h26 x v48 v49 v50 v54
  | .h27 v47 v48 v49 v50 v51 v52 v53 v54 v56 v57 v58 => step7h27 x v47 v48 v49 v50 v51 v52 v53 v54 v56 v57 v58
  | .h28 v49 v50 v54 => step7h28 x v49 v50 v54
  | .h29 v48 v55 => step7h29 x v48 v55
  | .h30 v48 => step7h30 x v48
noncomputable def cRUF3_0 (x : DInsn) : AObj := .cell true 25 (.agg [1, 1, 1, 8, 8, 1, 1] [(.int .u8 x.1), (.int .u8 x.2.1), (.int .i64 x.2.2.1), (.agg [1, 1, 1, 1, 1, 1, 1, 1] [(.int .u8 x.2.2.2.1.1), (.int .i64 x.2.2.2.1.2.1), (.int .i64 x.2.2.2.1.2.2.1), (.int .i64 x.2.2.2.1.2.2.2.1), (.int .i64 x.2.2.2.1.2.2.2.2.1), (.int .i64 x.2.2.2.1.2.2.2.2.2.1), (.bool x.2.2.2.1.2.2.2.2.2.2.1), (.int .i64 x.2.2.2.1.2.2.2.2.2.2.2)]), (.agg [1, 1, 1, 1, 1, 1, 1, 1] [(.int .u8 x.2.2.2.2.1.1), (.int .i64 x.2.2.2.2.1.2.1), (.int .i64 x.2.2.2.2.1.2.2.1), (.int .i64 x.2.2.2.2.1.2.2.2.1), (.int .i64 x.2.2.2.2.1.2.2.2.2.1), (.int .i64 x.2.2.2.2.1.2.2.2.2.2.1), (.bool x.2.2.2.2.1.2.2.2.2.2.2.1), (.int .i64 x.2.2.2.2.1.2.2.2.2.2.2.2)]), (.int .u8 x.2.2.2.2.2.1), (.int .i64 x.2.2.2.2.2.2)])
noncomputable def head7 (x : DInsn) : J7 → Head
  | .h0 =>
  { fr := { id := 7, kind := .top, T := [.any, (.ptr 0 []), (.ptr 1 []), (.ptr 2 []), (.fn 22 [])] ++ List.replicate 40 .any, items := [.code (subc [1, 1, 0, 1, 1, 0] (bodyOf Tryd.f7)), .code (subc [1, 1, 1] (bodyOf Tryd.f7))], D := [], base := 0 },
    stk := [],
    H := [(cRUF3_0 x), .cell true 30 (.agg [1, 1, 1, 1, 1, 1, 1, 1] [(.raw (.slice none 0 0)), (.raw (.slice none 0 0)), (.raw (.slice none 0 0)), (.int .u8 0), (.int .u8 0), (.int .i64 0), (.int .i64 0), (.bool false)]), .cell true 53 (.agg [21, 1, 8] [(.agg [1, 1, 1, 8, 8, 1, 1] [(.int .u8 x.1), (.int .u8 x.2.1), (.int .i64 x.2.2.1), (.agg [1, 1, 1, 1, 1, 1, 1, 1] [(.int .u8 x.2.2.2.1.1), (.int .i64 x.2.2.2.1.2.1), (.int .i64 x.2.2.2.1.2.2.1), (.int .i64 x.2.2.2.1.2.2.2.1), (.int .i64 x.2.2.2.1.2.2.2.2.1), (.int .i64 x.2.2.2.1.2.2.2.2.2.1), (.bool x.2.2.2.1.2.2.2.2.2.2.1), (.int .i64 x.2.2.2.1.2.2.2.2.2.2.2)]), (.agg [1, 1, 1, 1, 1, 1, 1, 1] [(.int .u8 x.2.2.2.2.1.1), (.int .i64 x.2.2.2.2.1.2.1), (.int .i64 x.2.2.2.2.1.2.2.1), (.int .i64 x.2.2.2.2.1.2.2.2.1), (.int .i64 x.2.2.2.2.1.2.2.2.2.1), (.int .i64 x.2.2.2.2.1.2.2.2.2.2.1), (.bool x.2.2.2.2.1.2.2.2.2.2.2.1), (.int .i64 x.2.2.2.2.1.2.2.2.2.2.2.2)]), (.int .u8 x.2.2.2.2.2.1), (.int .i64 x.2.2.2.2.2.2)]), (.int .i64 x.2.2.1), (.agg [1, 1, 1, 1, 1, 1, 1, 1] [(.raw (.slice none 0 0)), (.raw (.slice none 0 0)), (.raw (.slice none 0 0)), (.int .u8 0), (.int .u8 0), (.int .i64 0), (.int .i64 0), (.bool false)])])] }
  | .h1 =>
  { fr := { id := 7, kind := .top, T := [.any, (.ptr 0 []), (.ptr 1 []), (.ptr 2 []), (.fn 25 [])] ++ List.replicate 40 .any, items := [.code (subc [1, 1, 0, 1, 1, 0] (bodyOf Tryd.f7)), .code (subc [1, 1, 1] (bodyOf Tryd.f7))], D := [], base := 0 },
    stk := [],
    H := [(cRUF3_0 x), .cell true 30 (.agg [1, 1, 1, 1, 1, 1, 1, 1] [(.raw (.slice none 0 0)), (.raw (.slice none 0 0)), (.raw (.slice none 0 0)), (.int .u8 0), (.int .u8 0), (.int .i64 0), (.int .i64 0), (.bool false)]), .cell true 53 (.agg [21, 1, 8] [(.agg [1, 1, 1, 8, 8, 1, 1] [(.int .u8 x.1), (.int .u8 x.2.1), (.int .i64 x.2.2.1), (.agg [1, 1, 1, 1, 1, 1, 1, 1] [(.int .u8 x.2.2.2.1.1), (.int .i64 x.2.2.2.1.2.1), (.int .i64 x.2.2.2.1.2.2.1), (.int .i64 x.2.2.2.1.2.2.2.1), (.int .i64 x.2.2.2.1.2.2.2.2.1), (.int .i64 x.2.2.2.1.2.2.2.2.2.1), (.bool x.2.2.2.1.2.2.2.2.2.2.1), (.int .i64 x.2.2.2.1.2.2.2.2.2.2.2)]), (.agg [1, 1, 1, 1, 1, 1, 1, 1] [(.int .u8 x.2.2.2.2.1.1), (.int .i64 x.2.2.2.2.1.2.1), (.int .i64 x.2.2.2.2.1.2.2.1), (.int .i64 x.2.2.2.2.1.2.2.2.1), (.int .i64 x.2.2.2.2.1.2.2.2.2.1), (.int .i64 x.2.2.2.2.1.2.2.2.2.2.1), (.bool x.2.2.2.2.1.2.2.2.2.2.2.1), (.int .i64 x.2.2.2.2.1.2.2.2.2.2.2.2)]), (.int .u8 x.2.2.2.2.2.1), (.int .i64 x.2.2.2.2.2.2)]), (.int .i64 x.2.2.1), (.agg [1, 1, 1, 1, 1, 1, 1, 1] [(.raw (.slice none 0 0)), (.raw (.slice none 0 0)), (.raw (.slice none 0 0)), (.int .u8 0), (.int .u8 0), (.int .i64 0), (.int .i64 0), (.bool false)])])] }
  | .h2 =>
  { fr := { id := 7, kind := .top, T := [.any, (.ptr 0 []), (.ptr 1 []), (.ptr 2 []), (.fn 27 [])] ++ List.replicate 40 .any, items := [.code (subc [1, 1, 0, 1, 1, 0] (bodyOf Tryd.f7)), .code (subc [1, 1, 1] (bodyOf Tryd.f7))], D := [], base := 0 },
    stk := [],
    H := [(cRUF3_0 x), .cell true 30 (.agg [1, 1, 1, 1, 1, 1, 1, 1] [(.raw (.slice none 0 0)), (.raw (.slice none 0 0)), (.raw (.slice none 0 0)), (.int .u8 0), (.int .u8 0), (.int .i64 0), (.int .i64 0), (.bool false)]), .cell true 53 (.agg [21, 1, 8] [(.agg [1, 1, 1, 8, 8, 1, 1] [(.int .u8 x.1), (.int .u8 x.2.1), (.int .i64 x.2.2.1), (.agg [1, 1, 1, 1, 1, 1, 1, 1] [(.int .u8 x.2.2.2.1.1), (.int .i64 x.2.2.2.1.2.1), (.int .i64 x.2.2.2.1.2.2.1), (.int .i64 x.2.2.2.1.2.2.2.1), (.int .i64 x.2.2.2.1.2.2.2.2.1), (.int .i64 x.2.2.2.1.2.2.2.2.2.1), (.bool x.2.2.2.1.2.2.2.2.2.2.1), (.int .i64 x.2.2.2.1.2.2.2.2.2.2.2)]), (.agg [1, 1, 1, 1, 1, 1, 1, 1] [(.int .u8 x.2.2.2.2.1.1), (.int .i64 x.2.2.2.2.1.2.1), (.int .i64 x.2.2.2.2.1.2.2.1), (.int .i64 x.2.2.2.2.1.2.2.2.1), (.int .i64 x.2.2.2.2.1.2.2.2.2.1), (.int .i64 x.2.2.2.2.1.2.2.2.2.2.1), (.bool x.2.2.2.2.1.2.2.2.2.2.2.1), (.int .i64 x.2.2.2.2.1.2.2.2.2.2.2.2)]), (.int .u8 x.2.2.2.2.2.1), (.int .i64 x.2.2.2.2.2.2)]), (.int .i64 x.2.2.1), (.agg [1, 1, 1, 1, 1, 1, 1, 1] [(.raw (.slice none 0 0)), (.raw (.slice none 0 0)), (.raw (.slice none 0 0)), (.int .u8 0), (.int .u8 0), (.int .i64 0), (.int .i64 0), (.bool false)])])] }
  | .h3 =>
  { fr := { id := 7, kind := .top, T := [.any, (.ptr 0 []), (.ptr 1 []), (.ptr 2 []), (.fn 29 [])] ++ List.replicate 40 .any, items := [.code (subc [1, 1, 0, 1, 1, 0] (bodyOf Tryd.f7)), .code (subc [1, 1, 1] (bodyOf Tryd.f7))], D := [], base := 0 },
    stk := [],
    H := [(cRUF3_0 x), .cell true 30 (.agg [1, 1, 1, 1, 1, 1, 1, 1] [(.raw (.slice none 0 0)), (.raw (.slice none 0 0)), (.raw (.slice none 0 0)), (.int .u8 0), (.int .u8 0), (.int .i64 0), (.int .i64 0), (.bool false)]), .cell true 53 (.agg [21, 1, 8] [(.agg [1, 1, 1, 8, 8, 1, 1] [(.int .u8 x.1), (.int .u8 x.2.1), (.int .i64 x.2.2.1), (.agg [1, 1, 1, 1, 1, 1, 1, 1] [(.int .u8 x.2.2.2.1.1), (.int .i64 x.2.2.2.1.2.1), (.int .i64 x.2.2.2.1.2.2.1), (.int .i64 x.2.2.2.1.2.2.2.1), (.int .i64 x.2.2.2.1.2.2.2.2.1), (.int .i64 x.2.2.2.1.2.2.2.2.2.1), (.bool x.2.2.2.1.2.2.2.2.2.2.1), (.int .i64 x.2.2.2.1.2.2.2.2.2.2.2)]), (.agg [1, 1, 1, 1, 1, 1, 1, 1] [(.int .u8 x.2.2.2.2.1.1), (.int .i64 x.2.2.2.2.1.2.1), (.int .i64 x.2.2.2.2.1.2.2.1), (.int .i64 x.2.2.2.2.1.2.2.2.1), (.int .i64 x.2.2.2.2.1.2.2.2.2.1), (.int .i64 x.2.2.2.2.1.2.2.2.2.2.1), (.bool x.2.2.2.2.1.2.2.2.2.2.2.1), (.int .i64 x.2.2.2.2.1.2.2.2.2.2.2.2)]), (.int .u8 x.2.2.2.2.2.1), (.int .i64 x.2.2.2.2.2.2)]), (.int .i64 x.2.2.1), (.agg [1, 1, 1, 1, 1, 1, 1, 1] [(.raw (.slice none 0 0)), (.raw (.slice none 0 0)), (.raw (.slice none 0 0)), (.int .u8 0), (.int .u8 0), (.int .i64 0), (.int .i64 0), (.bool false)])])] }
  | .h4 =>
  { fr := { id := 7, kind := .top, T := [.any, (.ptr 0 []), (.ptr 1 []), (.ptr 2 []), (.fn 31 [])] ++ List.replicate 40 .any, items := [.code (subc [1, 1, 0, 1, 1, 0] (bodyOf Tryd.f7)), .code (subc [1, 1, 1] (bodyOf Tryd.f7))], D := [], base := 0 },
    stk := [],
    H := [(cRUF3_0 x), .cell true 30 (.agg [1, 1, 1, 1, 1, 1, 1, 1] [(.raw (.slice none 0 0)), (.raw (.slice none 0 0)), (.raw (.slice none 0 0)), (.int .u8 0), (.int .u8 0), (.int .i64 0), (.int .i64 0), (.bool false)]), .cell true 53 (.agg [21, 1, 8] [(.agg [1, 1, 1, 8, 8, 1, 1] [(.int .u8 x.1), (.int .u8 x.2.1), (.int .i64 x.2.2.1), (.agg [1, 1, 1, 1, 1, 1, 1, 1] [(.int .u8 x.2.2.2.1.1), (.int .i64 x.2.2.2.1.2.1), (.int .i64 x.2.2.2.1.2.2.1), (.int .i64 x.2.2.2.1.2.2.2.1), (.int .i64 x.2.2.2.1.2.2.2.2.1), (.int .i64 x.2.2.2.1.2.2.2.2.2.1), (.bool x.2.2.2.1.2.2.2.2.2.2.1), (.int .i64 x.2.2.2.1.2.2.2.2.2.2.2)]), (.agg [1, 1, 1, 1, 1, 1, 1, 1] [(.int .u8 x.2.2.2.2.1.1), (.int .i64 x.2.2.2.2.1.2.1), (.int .i64 x.2.2.2.2.1.2.2.1), (.int .i64 x.2.2.2.2.1.2.2.2.1), (.int .i64 x.2.2.2.2.1.2.2.2.2.1), (.int .i64 x.2.2.2.2.1.2.2.2.2.2.1), (.bool x.2.2.2.2.1.2.2.2.2.2.2.1), (.int .i64 x.2.2.2.2.1.2.2.2.2.2.2.2)]), (.int .u8 x.2.2.2.2.2.1), (.int .i64 x.2.2.2.2.2.2)]), (.int .i64 x.2.2.1), (.agg [1, 1, 1, 1, 1, 1, 1, 1] [(.raw (.slice none 0 0)), (.raw (.slice none 0 0)), (.raw (.slice none 0 0)), (.int .u8 0), (.int .u8 0), (.int .i64 0), (.int .i64 0), (.bool false)])])] }
  | .h5 =>
  { fr := { id := 7, kind := .top, T := [.any, (.ptr 0 []), (.ptr 1 []), (.ptr 2 []), (.fn 32 [])] ++ List.replicate 40 .any, items := [.code (subc [1, 1, 0, 1, 1, 0] (bodyOf Tryd.f7)), .code (subc [1, 1, 1] (bodyOf Tryd.f7))], D := [], base := 0 },
    stk := [],
    H := [(cRUF3_0 x), .cell true 30 (.agg [1, 1, 1, 1, 1, 1, 1, 1] [(.raw (.slice none 0 0)), (.raw (.slice none 0 0)), (.raw (.slice none 0 0)), (.int .u8 0), (.int .u8 0), (.int .i64 0), (.int .i64 0), (.bool false)]), .cell true 53 (.agg [21, 1, 8] [(.agg [1, 1, 1, 8, 8, 1, 1] [(.int .u8 x.1), (.int .u8 x.2.1), (.int .i64 x.2.2.1), (.agg [1, 1, 1, 1, 1, 1, 1, 1] [(.int .u8 x.2.2.2.1.1), (.int .i64 x.2.2.2.1.2.1), (.int .i64 x.2.2.2.1.2.2.1), (.int .i64 x.2.2.2.1.2.2.2.1), (.int .i64 x.2.2.2.1.2.2.2.2.1), (.int .i64 x.2.2.2.1.2.2.2.2.2.1), (.bool x.2.2.2.1.2.2.2.2.2.2.1), (.int .i64 x.2.2.2.1.2.2.2.2.2.2.2)]), (.agg [1, 1, 1, 1, 1, 1, 1, 1] [(.int .u8 x.2.2.2.2.1.1), (.int .i64 x.2.2.2.2.1.2.1), (.int .i64 x.2.2.2.2.1.2.2.1), (.int .i64 x.2.2.2.2.1.2.2.2.1), (.int .i64 x.2.2.2.2.1.2.2.2.2.1), (.int .i64 x.2.2.2.2.1.2.2.2.2.2.1), (.bool x.2.2.2.2.1.2.2.2.2.2.2.1), (.int .i64 x.2.2.2.2.1.2.2.2.2.2.2.2)]), (.int .u8 x.2.2.2.2.2.1), (.int .i64 x.2.2.2.2.2.2)]), (.int .i64 x.2.2.1), (.agg [1, 1, 1, 1, 1, 1, 1, 1] [(.raw (.slice none 0 0)), (.raw (.slice none 0 0)), (.raw (.slice none 0 0)), (.int .u8 0), (.int .u8 0), (.int .i64 0), (.int .i64 0), (.bool false)])])] }
  | .h6 =>
  { fr := { id := 7, kind := .top, T := [.any, (.ptr 0 []), (.ptr 1 []), (.ptr 2 []), (.fn 33 [])] ++ List.replicate 40 .any, items := [.code (subc [1, 1, 0, 1, 1, 0] (bodyOf Tryd.f7)), .code (subc [1, 1, 1] (bodyOf Tryd.f7))], D := [], base := 0 },
    stk := [],
    H := [(cRUF3_0 x), .cell true 30 (.agg [1, 1, 1, 1, 1, 1, 1, 1] [(.raw (.slice none 0 0)), (.raw (.slice none 0 0)), (.raw (.slice none 0 0)), (.int .u8 0), (.int .u8 0), (.int .i64 0), (.int .i64 0), (.bool false)]), .cell true 53 (.agg [21, 1, 8] [(.agg [1, 1, 1, 8, 8, 1, 1] [(.int .u8 x.1), (.int .u8 x.2.1), (.int .i64 x.2.2.1), (.agg [1, 1, 1, 1, 1, 1, 1, 1] [(.int .u8 x.2.2.2.1.1), (.int .i64 x.2.2.2.1.2.1), (.int .i64 x.2.2.2.1.2.2.1), (.int .i64 x.2.2.2.1.2.2.2.1), (.int .i64 x.2.2.2.1.2.2.2.2.1), (.int .i64 x.2.2.2.1.2.2.2.2.2.1), (.bool x.2.2.2.1.2.2.2.2.2.2.1), (.int .i64 x.2.2.2.1.2.2.2.2.2.2.2)]), (.agg [1, 1, 1, 1, 1, 1, 1, 1] [(.int .u8 x.2.2.2.2.1.1), (.int .i64 x.2.2.2.2.1.2.1), (.int .i64 x.2.2.2.2.1.2.2.1), (.int .i64 x.2.2.2.2.1.2.2.2.1), (.int .i64 x.2.2.2.2.1.2.2.2.2.1), (.int .i64 x.2.2.2.2.1.2.2.2.2.2.1), (.bool x.2.2.2.2.1.2.2.2.2.2.2.1), (.int .i64 x.2.2.2.2.1.2.2.2.2.2.2.2)]), (.int .u8 x.2.2.2.2.2.1), (.int .i64 x.2.2.2.2.2.2)]), (.int .i64 x.2.2.1), (.agg [1, 1, 1, 1, 1, 1, 1, 1] [(.raw (.slice none 0 0)), (.raw (.slice none 0 0)), (.raw (.slice none 0 0)), (.int .u8 0), (.int .u8 0), (.int .i64 0), (.int .i64 0), (.bool false)])])] }
  | .h7 =>
  { fr := { id := 7, kind := .top, T := [.any, (.ptr 0 []), (.ptr 1 []), (.ptr 2 []), (.fn 34 [])] ++ List.replicate 40 .any, items := [.code (subc [1, 1, 0, 1, 1, 0] (bodyOf Tryd.f7)), .code (subc [1, 1, 1] (bodyOf Tryd.f7))], D := [], base := 0 },
    stk := [],
    H := [(cRUF3_0 x), .cell true 30 (.agg [1, 1, 1, 1, 1, 1, 1, 1] [(.raw (.slice none 0 0)), (.raw (.slice none 0 0)), (.raw (.slice none 0 0)), (.int .u8 0), (.int .u8 0), (.int .i64 0), (.int .i64 0), (.bool false)]), .cell true 53 (.agg [21, 1, 8] [(.agg [1, 1, 1, 8, 8, 1, 1] [(.int .u8 x.1), (.int .u8 x.2.1), (.int .i64 x.2.2.1), (.agg [1, 1, 1, 1, 1, 1, 1, 1] [(.int .u8 x.2.2.2.1.1), (.int .i64 x.2.2.2.1.2.1), (.int .i64 x.2.2.2.1.2.2.1), (.int .i64 x.2.2.2.1.2.2.2.1), (.int .i64 x.2.2.2.1.2.2.2.2.1), (.int .i64 x.2.2.2.1.2.2.2.2.2.1), (.bool x.2.2.2.1.2.2.2.2.2.2.1), (.int .i64 x.2.2.2.1.2.2.2.2.2.2.2)]), (.agg [1, 1, 1, 1, 1, 1, 1, 1] [(.int .u8 x.2.2.2.2.1.1), (.int .i64 x.2.2.2.2.1.2.1), (.int .i64 x.2.2.2.2.1.2.2.1), (.int .i64 x.2.2.2.2.1.2.2.2.1), (.int .i64 x.2.2.2.2.1.2.2.2.2.1), (.int .i64 x.2.2.2.2.1.2.2.2.2.2.1), (.bool x.2.2.2.2.1.2.2.2.2.2.2.1), (.int .i64 x.2.2.2.2.1.2.2.2.2.2.2.2)]), (.int .u8 x.2.2.2.2.2.1), (.int .i64 x.2.2.2.2.2.2)]), (.int .i64 x.2.2.1), (.agg [1, 1, 1, 1, 1, 1, 1, 1] [(.raw (.slice none 0 0)), (.raw (.slice none 0 0)), (.raw (.slice none 0 0)), (.int .u8 0), (.int .u8 0), (.int .i64 0), (.int .i64 0), (.bool false)])])] }
  | .h8 =>
  { fr := { id := 7, kind := .top, T := [.any, (.ptr 0 []), (.ptr 1 []), (.ptr 2 []), (.fn 35 [])] ++ List.replicate 40 .any, items := [.code (subc [1, 1, 0, 1, 1, 0] (bodyOf Tryd.f7)), .code (subc [1, 1, 1] (bodyOf Tryd.f7))], D := [], base := 0 },
    stk := [],
    H := [(cRUF3_0 x), .cell true 30 (.agg [1, 1, 1, 1, 1, 1, 1, 1] [(.raw (.slice none 0 0)), (.raw (.slice none 0 0)), (.raw (.slice none 0 0)), (.int .u8 0), (.int .u8 0), (.int .i64 0), (.int .i64 0), (.bool false)]), .cell true 53 (.agg [21, 1, 8] [(.agg [1, 1, 1, 8, 8, 1, 1] [(.int .u8 x.1), (.int .u8 x.2.1), (.int .i64 x.2.2.1), (.agg [1, 1, 1, 1, 1, 1, 1, 1] [(.int .u8 x.2.2.2.1.1), (.int .i64 x.2.2.2.1.2.1), (.int .i64 x.2.2.2.1.2.2.1), (.int .i64 x.2.2.2.1.2.2.2.1), (.int .i64 x.2.2.2.1.2.2.2.2.1), (.int .i64 x.2.2.2.1.2.2.2.2.2.1), (.bool x.2.2.2.1.2.2.2.2.2.2.1), (.int .i64 x.2.2.2.1.2.2.2.2.2.2.2)]), (.agg [1, 1, 1, 1, 1, 1, 1, 1] [(.int .u8 x.2.2.2.2.1.1), (.int .i64 x.2.2.2.2.1.2.1), (.int .i64 x.2.2.2.2.1.2.2.1), (.int .i64 x.2.2.2.2.1.2.2.2.1), (.int .i64 x.2.2.2.2.1.2.2.2.2.1), (.int .i64 x.2.2.2.2.1.2.2.2.2.2.1), (.bool x.2.2.2.2.1.2.2.2.2.2.2.1), (.int .i64 x.2.2.2.2.1.2.2.2.2.2.2.2)]), (.int .u8 x.2.2.2.2.2.1), (.int .i64 x.2.2.2.2.2.2)]), (.int .i64 x.2.2.1), (.agg [1, 1, 1, 1, 1, 1, 1, 1] [(.raw (.slice none 0 0)), (.raw (.slice none 0 0)), (.raw (.slice none 0 0)), (.int .u8 0), (.int .u8 0), (.int .i64 0), (.int .i64 0), (.bool false)])])] }
  | .h9 =>
  { fr := { id := 7, kind := .top, T := [.any, (.ptr 0 []), (.ptr 1 []), (.ptr 2 []), (.fn 36 [])] ++ List.replicate 40 .any, items := [.code (subc [1, 1, 0, 1, 1, 0] (bodyOf Tryd.f7)), .code (subc [1, 1, 1] (bodyOf Tryd.f7))], D := [], base := 0 },
    stk := [],
    H := [(cRUF3_0 x), .cell true 30 (.agg [1, 1, 1, 1, 1, 1, 1, 1] [(.raw (.slice none 0 0)), (.raw (.slice none 0 0)), (.raw (.slice none 0 0)), (.int .u8 0), (.int .u8 0), (.int .i64 0), (.int .i64 0), (.bool false)]), .cell true 53 (.agg [21, 1, 8] [(.agg [1, 1, 1, 8, 8, 1, 1] [(.int .u8 x.1), (.int .u8 x.2.1), (.int .i64 x.2.2.1), (.agg [1, 1, 1, 1, 1, 1, 1, 1] [(.int .u8 x.2.2.2.1.1), (.int .i64 x.2.2.2.1.2.1), (.int .i64 x.2.2.2.1.2.2.1), (.int .i64 x.2.2.2.1.2.2.2.1), (.int .i64 x.2.2.2.1.2.2.2.2.1), (.int .i64 x.2.2.2.1.2.2.2.2.2.1), (.bool x.2.2.2.1.2.2.2.2.2.2.1), (.int .i64 x.2.2.2.1.2.2.2.2.2.2.2)]), (.agg [1, 1, 1, 1, 1, 1, 1, 1] [(.int .u8 x.2.2.2.2.1.1), (.int .i64 x.2.2.2.2.1.2.1), (.int .i64 x.2.2.2.2.1.2.2.1), (.int .i64 x.2.2.2.2.1.2.2.2.1), (.int .i64 x.2.2.2.2.1.2.2.2.2.1), (.int .i64 x.2.2.2.2.1.2.2.2.2.2.1), (.bool x.2.2.2.2.1.2.2.2.2.2.2.1), (.int .i64 x.2.2.2.2.1.2.2.2.2.2.2.2)]), (.int .u8 x.2.2.2.2.2.1), (.int .i64 x.2.2.2.2.2.2)]), (.int .i64 x.2.2.1), (.agg [1, 1, 1, 1, 1, 1, 1, 1] [(.raw (.slice none 0 0)), (.raw (.slice none 0 0)), (.raw (.slice none 0 0)), (.int .u8 0), (.int .u8 0), (.int .i64 0), (.int .i64 0), (.bool false)])])] }
  | .h10 =>
  { fr := { id := 7, kind := .top, T := [.any, (.ptr 0 []), (.ptr 1 []), (.ptr 2 []), (.fn 38 [])] ++ List.replicate 40 .any, items := [.code (subc [1, 1, 0, 1, 1, 0] (bodyOf Tryd.f7)), .code (subc [1, 1, 1] (bodyOf Tryd.f7))], D := [], base := 0 },
    stk := [],
    H := [(cRUF3_0 x), .cell true 30 (.agg [1, 1, 1, 1, 1, 1, 1, 1] [(.raw (.slice none 0 0)), (.raw (.slice none 0 0)), (.raw (.slice none 0 0)), (.int .u8 0), (.int .u8 0), (.int .i64 0), (.int .i64 0), (.bool false)]), .cell true 53 (.agg [21, 1, 8] [(.agg [1, 1, 1, 8, 8, 1, 1] [(.int .u8 x.1), (.int .u8 x.2.1), (.int .i64 x.2.2.1), (.agg [1, 1, 1, 1, 1, 1, 1, 1] [(.int .u8 x.2.2.2.1.1), (.int .i64 x.2.2.2.1.2.1), (.int .i64 x.2.2.2.1.2.2.1), (.int .i64 x.2.2.2.1.2.2.2.1), (.int .i64 x.2.2.2.1.2.2.2.2.1), (.int .i64 x.2.2.2.1.2.2.2.2.2.1), (.bool x.2.2.2.1.2.2.2.2.2.2.1), (.int .i64 x.2.2.2.1.2.2.2.2.2.2.2)]), (.agg [1, 1, 1, 1, 1, 1, 1, 1] [(.int .u8 x.2.2.2.2.1.1), (.int .i64 x.2.2.2.2.1.2.1), (.int .i64 x.2.2.2.2.1.2.2.1), (.int .i64 x.2.2.2.2.1.2.2.2.1), (.int .i64 x.2.2.2.2.1.2.2.2.2.1), (.int .i64 x.2.2.2.2.1.2.2.2.2.2.1), (.bool x.2.2.2.2.1.2.2.2.2.2.2.1), (.int .i64 x.2.2.2.2.1.2.2.2.2.2.2.2)]), (.int .u8 x.2.2.2.2.2.1), (.int .i64 x.2.2.2.2.2.2)]), (.int .i64 x.2.2.1), (.agg [1, 1, 1, 1, 1, 1, 1, 1] [(.raw (.slice none 0 0)), (.raw (.slice none 0 0)), (.raw (.slice none 0 0)), (.int .u8 0), (.int .u8 0), (.int .i64 0), (.int .i64 0), (.bool false)])])] }
  | .h11 =>
  { fr := { id := 7, kind := .top, T := [.any, (.ptr 0 []), (.ptr 1 []), (.ptr 2 []), (.fn 39 [])] ++ List.replicate 40 .any, items := [.code (subc [1, 1, 0, 1, 1, 0] (bodyOf Tryd.f7)), .code (subc [1, 1, 1] (bodyOf Tryd.f7))], D := [], base := 0 },
    stk := [],
    H := [(cRUF3_0 x), .cell true 30 (.agg [1, 1, 1, 1, 1, 1, 1, 1] [(.raw (.slice none 0 0)), (.raw (.slice none 0 0)), (.raw (.slice none 0 0)), (.int .u8 0), (.int .u8 0), (.int .i64 0), (.int .i64 0), (.bool false)]), .cell true 53 (.agg [21, 1, 8] [(.agg [1, 1, 1, 8, 8, 1, 1] [(.int .u8 x.1), (.int .u8 x.2.1), (.int .i64 x.2.2.1), (.agg [1, 1, 1, 1, 1, 1, 1, 1] [(.int .u8 x.2.2.2.1.1), (.int .i64 x.2.2.2.1.2.1), (.int .i64 x.2.2.2.1.2.2.1), (.int .i64 x.2.2.2.1.2.2.2.1), (.int .i64 x.2.2.2.1.2.2.2.2.1), (.int .i64 x.2.2.2.1.2.2.2.2.2.1), (.bool x.2.2.2.1.2.2.2.2.2.2.1), (.int .i64 x.2.2.2.1.2.2.2.2.2.2.2)]), (.agg [1, 1, 1, 1, 1, 1, 1, 1] [(.int .u8 x.2.2.2.2.1.1), (.int .i64 x.2.2.2.2.1.2.1), (.int .i64 x.2.2.2.2.1.2.2.1), (.int .i64 x.2.2.2.2.1.2.2.2.1), (.int .i64 x.2.2.2.2.1.2.2.2.2.1), (.int .i64 x.2.2.2.2.1.2.2.2.2.2.1), (.bool x.2.2.2.2.1.2.2.2.2.2.2.1), (.int .i64 x.2.2.2.2.1.2.2.2.2.2.2.2)]), (.int .u8 x.2.2.2.2.2.1), (.int .i64 x.2.2.2.2.2.2)]), (.int .i64 x.2.2.1), (.agg [1, 1, 1, 1, 1, 1, 1, 1] [(.raw (.slice none 0 0)), (.raw (.slice none 0 0)), (.raw (.slice none 0 0)), (.int .u8 0), (.int .u8 0), (.int .i64 0), (.int .i64 0), (.bool false)])])] }
  | .h12 =>
  { fr := { id := 7, kind := .top, T := [.any, (.ptr 0 []), (.ptr 1 []), (.ptr 2 []), (.fn 41 [])] ++ List.replicate 40 .any, items := [.code (subc [1, 1, 0, 1, 1, 0] (bodyOf Tryd.f7)), .code (subc [1, 1, 1] (bodyOf Tryd.f7))], D := [], base := 0 },
    stk := [],
    H := [(cRUF3_0 x), .cell true 30 (.agg [1, 1, 1, 1, 1, 1, 1, 1] [(.raw (.slice none 0 0)), (.raw (.slice none 0 0)), (.raw (.slice none 0 0)), (.int .u8 0), (.int .u8 0), (.int .i64 0), (.int .i64 0), (.bool false)]), .cell true 53 (.agg [21, 1, 8] [(.agg [1, 1, 1, 8, 8, 1, 1] [(.int .u8 x.1), (.int .u8 x.2.1), (.int .i64 x.2.2.1), (.agg [1, 1, 1, 1, 1, 1, 1, 1] [(.int .u8 x.2.2.2.1.1), (.int .i64 x.2.2.2.1.2.1), (.int .i64 x.2.2.2.1.2.2.1), (.int .i64 x.2.2.2.1.2.2.2.1), (.int .i64 x.2.2.2.1.2.2.2.2.1), (.int .i64 x.2.2.2.1.2.2.2.2.2.1), (.bool x.2.2.2.1.2.2.2.2.2.2.1), (.int .i64 x.2.2.2.1.2.2.2.2.2.2.2)]), (.agg [1, 1, 1, 1, 1, 1, 1, 1] [(.int .u8 x.2.2.2.2.1.1), (.int .i64 x.2.2.2.2.1.2.1), (.int .i64 x.2.2.2.2.1.2.2.1), (.int .i64 x.2.2.2.2.1.2.2.2.1), (.int .i64 x.2.2.2.2.1.2.2.2.2.1), (.int .i64 x.2.2.2.2.1.2.2.2.2.2.1), (.bool x.2.2.2.2.1.2.2.2.2.2.2.1), (.int .i64 x.2.2.2.2.1.2.2.2.2.2.2.2)]), (.int .u8 x.2.2.2.2.2.1), (.int .i64 x.2.2.2.2.2.2)]), (.int .i64 x.2.2.1), (.agg [1, 1, 1, 1, 1, 1, 1, 1] [(.raw (.slice none 0 0)), (.raw (.slice none 0 0)), (.raw (.slice none 0 0)), (.int .u8 0), (.int .u8 0), (.int .i64 0), (.int .i64 0), (.bool false)])])] }
  | .h13 =>
  { fr := { id := 7, kind := .top, T := [.any, (.ptr 0 []), (.ptr 1 []), (.ptr 2 []), (.fn 42 [])] ++ List.replicate 40 .any, items := [.code (subc [1, 1, 0, 1, 1, 0] (bodyOf Tryd.f7)), .code (subc [1, 1, 1] (bodyOf Tryd.f7))], D := [], base := 0 },
    stk := [],
    H := [(cRUF3_0 x), .cell true 30 (.agg [1, 1, 1, 1, 1, 1, 1, 1] [(.raw (.slice none 0 0)), (.raw (.slice none 0 0)), (.raw (.slice none 0 0)), (.int .u8 0), (.int .u8 0), (.int .i64 0), (.int .i64 0), (.bool false)]), .cell true 53 (.agg [21, 1, 8] [(.agg [1, 1, 1, 8, 8, 1, 1] [(.int .u8 x.1), (.int .u8 x.2.1), (.int .i64 x.2.2.1), (.agg [1, 1, 1, 1, 1, 1, 1, 1] [(.int .u8 x.2.2.2.1.1), (.int .i64 x.2.2.2.1.2.1), (.int .i64 x.2.2.2.1.2.2.1), (.int .i64 x.2.2.2.1.2.2.2.1), (.int .i64 x.2.2.2.1.2.2.2.2.1), (.int .i64 x.2.2.2.1.2.2.2.2.2.1), (.bool x.2.2.2.1.2.2.2.2.2.2.1), (.int .i64 x.2.2.2.1.2.2.2.2.2.2.2)]), (.agg [1, 1, 1, 1, 1, 1, 1, 1] [(.int .u8 x.2.2.2.2.1.1), (.int .i64 x.2.2.2.2.1.2.1), (.int .i64 x.2.2.2.2.1.2.2.1), (.int .i64 x.2.2.2.2.1.2.2.2.1), (.int .i64 x.2.2.2.2.1.2.2.2.2.1), (.int .i64 x.2.2.2.2.1.2.2.2.2.2.1), (.bool x.2.2.2.2.1.2.2.2.2.2.2.1), (.int .i64 x.2.2.2.2.1.2.2.2.2.2.2.2)]), (.int .u8 x.2.2.2.2.2.1), (.int .i64 x.2.2.2.2.2.2)]), (.int .i64 x.2.2.1), (.agg [1, 1, 1, 1, 1, 1, 1, 1] [(.raw (.slice none 0 0)), (.raw (.slice none 0 0)), (.raw (.slice none 0 0)), (.int .u8 0), (.int .u8 0), (.int .i64 0), (.int .i64 0), (.bool false)])])] }
  | .h14 =>
  { fr := { id := 7, kind := .top, T := [.any, (.ptr 0 []), (.ptr 1 []), (.ptr 2 []), (.fn 44 [])] ++ List.replicate 40 .any, items := [.code (subc [1, 1, 0, 1, 1, 0] (bodyOf Tryd.f7)), .code (subc [1, 1, 1] (bodyOf Tryd.f7))], D := [], base := 0 },
    stk := [],
    H := [(cRUF3_0 x), .cell true 30 (.agg [1, 1, 1, 1, 1, 1, 1, 1] [(.raw (.slice none 0 0)), (.raw (.slice none 0 0)), (.raw (.slice none 0 0)), (.int .u8 0), (.int .u8 0), (.int .i64 0), (.int .i64 0), (.bool false)]), .cell true 53 (.agg [21, 1, 8] [(.agg [1, 1, 1, 8, 8, 1, 1] [(.int .u8 x.1), (.int .u8 x.2.1), (.int .i64 x.2.2.1), (.agg [1, 1, 1, 1, 1, 1, 1, 1] [(.int .u8 x.2.2.2.1.1), (.int .i64 x.2.2.2.1.2.1), (.int .i64 x.2.2.2.1.2.2.1), (.int .i64 x.2.2.2.1.2.2.2.1), (.int .i64 x.2.2.2.1.2.2.2.2.1), (.int .i64 x.2.2.2.1.2.2.2.2.2.1), (.bool x.2.2.2.1.2.2.2.2.2.2.1), (.int .i64 x.2.2.2.1.2.2.2.2.2.2.2)]), (.agg [1, 1, 1, 1, 1, 1, 1, 1] [(.int .u8 x.2.2.2.2.1.1), (.int .i64 x.2.2.2.2.1.2.1), (.int .i64 x.2.2.2.2.1.2.2.1), (.int .i64 x.2.2.2.2.1.2.2.2.1), (.int .i64 x.2.2.2.2.1.2.2.2.2.1), (.int .i64 x.2.2.2.2.1.2.2.2.2.2.1), (.bool x.2.2.2.2.1.2.2.2.2.2.2.1), (.int .i64 x.2.2.2.2.1.2.2.2.2.2.2.2)]), (.int .u8 x.2.2.2.2.2.1), (.int .i64 x.2.2.2.2.2.2)]), (.int .i64 x.2.2.1), (.agg [1, 1, 1, 1, 1, 1, 1, 1] [(.raw (.slice none 0 0)), (.raw (.slice none 0 0)), (.raw (.slice none 0 0)), (.int .u8 0), (.int .u8 0), (.int .i64 0), (.int .i64 0), (.bool false)])])] }
  | .h15 =>
  { fr := { id := 7, kind := .top, T := [.any, (.ptr 0 []), (.ptr 1 []), (.ptr 2 []), (.fn 45 [])] ++ List.replicate 40 .any, items := [.code (subc [1, 1, 0, 1, 1, 0] (bodyOf Tryd.f7)), .code (subc [1, 1, 1] (bodyOf Tryd.f7))], D := [], base := 0 },
    stk := [],
    H := [(cRUF3_0 x), .cell true 30 (.agg [1, 1, 1, 1, 1, 1, 1, 1] [(.raw (.slice none 0 0)), (.raw (.slice none 0 0)), (.raw (.slice none 0 0)), (.int .u8 0), (.int .u8 0), (.int .i64 0), (.int .i64 0), (.bool false)]), .cell true 53 (.agg [21, 1, 8] [(.agg [1, 1, 1, 8, 8, 1, 1] [(.int .u8 x.1), (.int .u8 x.2.1), (.int .i64 x.2.2.1), (.agg [1, 1, 1, 1, 1, 1, 1, 1] [(.int .u8 x.2.2.2.1.1), (.int .i64 x.2.2.2.1.2.1), (.int .i64 x.2.2.2.1.2.2.1), (.int .i64 x.2.2.2.1.2.2.2.1), (.int .i64 x.2.2.2.1.2.2.2.2.1), (.int .i64 x.2.2.2.1.2.2.2.2.2.1), (.bool x.2.2.2.1.2.2.2.2.2.2.1), (.int .i64 x.2.2.2.1.2.2.2.2.2.2.2)]), (.agg [1, 1, 1, 1, 1, 1, 1, 1] [(.int .u8 x.2.2.2.2.1.1), (.int .i64 x.2.2.2.2.1.2.1), (.int .i64 x.2.2.2.2.1.2.2.1), (.int .i64 x.2.2.2.2.1.2.2.2.1), (.int .i64 x.2.2.2.2.1.2.2.2.2.1), (.int .i64 x.2.2.2.2.1.2.2.2.2.2.1), (.bool x.2.2.2.2.1.2.2.2.2.2.2.1), (.int .i64 x.2.2.2.2.1.2.2.2.2.2.2.2)]), (.int .u8 x.2.2.2.2.2.1), (.int .i64 x.2.2.2.2.2.2)]), (.int .i64 x.2.2.1), (.agg [1, 1, 1, 1, 1, 1, 1, 1] [(.raw (.slice none 0 0)), (.raw (.slice none 0 0)), (.raw (.slice none 0 0)), (.int .u8 0), (.int .u8 0), (.int .i64 0), (.int .i64 0), (.bool false)])])] }
  | .h16 =>
  { fr := { id := 7, kind := .top, T := [.any, (.ptr 0 []), (.ptr 1 []), (.ptr 2 []), (.fn 46 [])] ++ List.replicate 40 .any, items := [.code (subc [1, 1, 0, 1, 1, 0] (bodyOf Tryd.f7)), .code (subc [1, 1, 1] (bodyOf Tryd.f7))], D := [], base := 0 },
    stk := [],
    H := [(cRUF3_0 x), .cell true 30 (.agg [1, 1, 1, 1, 1, 1, 1, 1] [(.raw (.slice none 0 0)), (.raw (.slice none 0 0)), (.raw (.slice none 0 0)), (.int .u8 0), (.int .u8 0), (.int .i64 0), (.int .i64 0), (.bool false)]), .cell true 53 (.agg [21, 1, 8] [(.agg [1, 1, 1, 8, 8, 1, 1] [(.int .u8 x.1), (.int .u8 x.2.1), (.int .i64 x.2.2.1), (.agg [1, 1, 1, 1, 1, 1, 1, 1] [(.int .u8 x.2.2.2.1.1), (.int .i64 x.2.2.2.1.2.1), (.int .i64 x.2.2.2.1.2.2.1), (.int .i64 x.2.2.2.1.2.2.2.1), (.int .i64 x.2.2.2.1.2.2.2.2.1), (.int .i64 x.2.2.2.1.2.2.2.2.2.1), (.bool x.2.2.2.1.2.2.2.2.2.2.1), (.int .i64 x.2.2.2.1.2.2.2.2.2.2.2)]), (.agg [1, 1, 1, 1, 1, 1, 1, 1] [(.int .u8 x.2.2.2.2.1.1), (.int .i64 x.2.2.2.2.1.2.1), (.int .i64 x.2.2.2.2.1.2.2.1), (.int .i64 x.2.2.2.2.1.2.2.2.1), (.int .i64 x.2.2.2.2.1.2.2.2.2.1), (.int .i64 x.2.2.2.2.1.2.2.2.2.2.1), (.bool x.2.2.2.2.1.2.2.2.2.2.2.1), (.int .i64 x.2.2.2.2.1.2.2.2.2.2.2.2)]), (.int .u8 x.2.2.2.2.2.1), (.int .i64 x.2.2.2.2.2.2)]), (.int .i64 x.2.2.1), (.agg [1, 1, 1, 1, 1, 1, 1, 1] [(.raw (.slice none 0 0)), (.raw (.slice none 0 0)), (.raw (.slice none 0 0)), (.int .u8 0), (.int .u8 0), (.int .i64 0), (.int .i64 0), (.bool false)])])] }
  | .h17 =>
  { fr := { id := 7, kind := .top, T := [.any, (.ptr 0 []), (.ptr 1 []), (.ptr 2 []), (.fn 47 [])] ++ List.replicate 40 .any, items := [.code (subc [1, 1, 0, 1, 1, 0] (bodyOf Tryd.f7)), .code (subc [1, 1, 1] (bodyOf Tryd.f7))], D := [], base := 0 },
    stk := [],
    H := [(cRUF3_0 x), .cell true 30 (.agg [1, 1, 1, 1, 1, 1, 1, 1] [(.raw (.slice none 0 0)), (.raw (.slice none 0 0)), (.raw (.slice none 0 0)), (.int .u8 0), (.int .u8 0), (.int .i64 0), (.int .i64 0), (.bool false)]), .cell true 53 (.agg [21, 1, 8] [(.agg [1, 1, 1, 8, 8, 1, 1] [(.int .u8 x.1), (.int .u8 x.2.1), (.int .i64 x.2.2.1), (.agg [1, 1, 1, 1, 1, 1, 1, 1] [(.int .u8 x.2.2.2.1.1), (.int .i64 x.2.2.2.1.2.1), (.int .i64 x.2.2.2.1.2.2.1), (.int .i64 x.2.2.2.1.2.2.2.1), (.int .i64 x.2.2.2.1.2.2.2.2.1), (.int .i64 x.2.2.2.1.2.2.2.2.2.1), (.bool x.2.2.2.1.2.2.2.2.2.2.1), (.int .i64 x.2.2.2.1.2.2.2.2.2.2.2)]), (.agg [1, 1, 1, 1, 1, 1, 1, 1] [(.int .u8 x.2.2.2.2.1.1), (.int .i64 x.2.2.2.2.1.2.1), (.int .i64 x.2.2.2.2.1.2.2.1), (.int .i64 x.2.2.2.2.1.2.2.2.1), (.int .i64 x.2.2.2.2.1.2.2.2.2.1), (.int .i64 x.2.2.2.2.1.2.2.2.2.2.1), (.bool x.2.2.2.2.1.2.2.2.2.2.2.1), (.int .i64 x.2.2.2.2.1.2.2.2.2.2.2.2)]), (.int .u8 x.2.2.2.2.2.1), (.int .i64 x.2.2.2.2.2.2)]), (.int .i64 x.2.2.1), (.agg [1, 1, 1, 1, 1, 1, 1, 1] [(.raw (.slice none 0 0)), (.raw (.slice none 0 0)), (.raw (.slice none 0 0)), (.int .u8 0), (.int .u8 0), (.int .i64 0), (.int .i64 0), (.bool false)])])] }
  | .h18 =>
  { fr := { id := 7, kind := .top, T := [.any, (.ptr 0 []), (.ptr 1 []), (.ptr 2 []), (.fn 48 [])] ++ List.replicate 40 .any, items := [.code (subc [1, 1, 0, 1, 1, 0] (bodyOf Tryd.f7)), .code (subc [1, 1, 1] (bodyOf Tryd.f7))], D := [], base := 0 },
    stk := [],
    H := [(cRUF3_0 x), .cell true 30 (.agg [1, 1, 1, 1, 1, 1, 1, 1] [(.raw (.slice none 0 0)), (.raw (.slice none 0 0)), (.raw (.slice none 0 0)), (.int .u8 0), (.int .u8 0), (.int .i64 0), (.int .i64 0), (.bool false)]), .cell true 53 (.agg [21, 1, 8] [(.agg [1, 1, 1, 8, 8, 1, 1] [(.int .u8 x.1), (.int .u8 x.2.1), (.int .i64 x.2.2.1), (.agg [1, 1, 1, 1, 1, 1, 1, 1] [(.int .u8 x.2.2.2.1.1), (.int .i64 x.2.2.2.1.2.1), (.int .i64 x.2.2.2.1.2.2.1), (.int .i64 x.2.2.2.1.2.2.2.1), (.int .i64 x.2.2.2.1.2.2.2.2.1), (.int .i64 x.2.2.2.1.2.2.2.2.2.1), (.bool x.2.2.2.1.2.2.2.2.2.2.1), (.int .i64 x.2.2.2.1.2.2.2.2.2.2.2)]), (.agg [1, 1, 1, 1, 1, 1, 1, 1] [(.int .u8 x.2.2.2.2.1.1), (.int .i64 x.2.2.2.2.1.2.1), (.int .i64 x.2.2.2.2.1.2.2.1), (.int .i64 x.2.2.2.2.1.2.2.2.1), (.int .i64 x.2.2.2.2.1.2.2.2.2.1), (.int .i64 x.2.2.2.2.1.2.2.2.2.2.1), (.bool x.2.2.2.2.1.2.2.2.2.2.2.1), (.int .i64 x.2.2.2.2.1.2.2.2.2.2.2.2)]), (.int .u8 x.2.2.2.2.2.1), (.int .i64 x.2.2.2.2.2.2)]), (.int .i64 x.2.2.1), (.agg [1, 1, 1, 1, 1, 1, 1, 1] [(.raw (.slice none 0 0)), (.raw (.slice none 0 0)), (.raw (.slice none 0 0)), (.int .u8 0), (.int .u8 0), (.int .i64 0), (.int .i64 0), (.bool false)])])] }
  | .h19 =>
  { fr := { id := 7, kind := .top, T := [.any, (.ptr 0 []), (.ptr 1 []), (.ptr 2 []), (.fn 49 [])] ++ List.replicate 40 .any, items := [.code (subc [1, 1, 0, 1, 1, 0] (bodyOf Tryd.f7)), .code (subc [1, 1, 1] (bodyOf Tryd.f7))], D := [], base := 0 },
    stk := [],
    H := [(cRUF3_0 x), .cell true 30 (.agg [1, 1, 1, 1, 1, 1, 1, 1] [(.raw (.slice none 0 0)), (.raw (.slice none 0 0)), (.raw (.slice none 0 0)), (.int .u8 0), (.int .u8 0), (.int .i64 0), (.int .i64 0), (.bool false)]), .cell true 53 (.agg [21, 1, 8] [(.agg [1, 1, 1, 8, 8, 1, 1] [(.int .u8 x.1), (.int .u8 x.2.1), (.int .i64 x.2.2.1), (.agg [1, 1, 1, 1, 1, 1, 1, 1] [(.int .u8 x.2.2.2.1.1), (.int .i64 x.2.2.2.1.2.1), (.int .i64 x.2.2.2.1.2.2.1), (.int .i64 x.2.2.2.1.2.2.2.1), (.int .i64 x.2.2.2.1.2.2.2.2.1), (.int .i64 x.2.2.2.1.2.2.2.2.2.1), (.bool x.2.2.2.1.2.2.2.2.2.2.1), (.int .i64 x.2.2.2.1.2.2.2.2.2.2.2)]), (.agg [1, 1, 1, 1, 1, 1, 1, 1] [(.int .u8 x.2.2.2.2.1.1), (.int .i64 x.2.2.2.2.1.2.1), (.int .i64 x.2.2.2.2.1.2.2.1), (.int .i64 x.2.2.2.2.1.2.2.2.1), (.int .i64 x.2.2.2.2.1.2.2.2.2.1), (.int .i64 x.2.2.2.2.1.2.2.2.2.2.1), (.bool x.2.2.2.2.1.2.2.2.2.2.2.1), (.int .i64 x.2.2.2.2.1.2.2.2.2.2.2.2)]), (.int .u8 x.2.2.2.2.2.1), (.int .i64 x.2.2.2.2.2.2)]), (.int .i64 x.2.2.1), (.agg [1, 1, 1, 1, 1, 1, 1, 1] [(.raw (.slice none 0 0)), (.raw (.slice none 0 0)), (.raw (.slice none 0 0)), (.int .u8 0), (.int .u8 0), (.int .i64 0), (.int .i64 0), (.bool false)])])] }
  | .h20 =>
  { fr := { id := 7, kind := .top, T := [.any, (.ptr 0 []), (.ptr 1 []), (.ptr 2 []), (.fn 50 [])] ++ List.replicate 40 .any, items := [.code (subc [1, 1, 0, 1, 1, 0] (bodyOf Tryd.f7)), .code (subc [1, 1, 1] (bodyOf Tryd.f7))], D := [], base := 0 },
    stk := [],
    H := [(cRUF3_0 x), .cell true 30 (.agg [1, 1, 1, 1, 1, 1, 1, 1] [(.raw (.slice none 0 0)), (.raw (.slice none 0 0)), (.raw (.slice none 0 0)), (.int .u8 0), (.int .u8 0), (.int .i64 0), (.int .i64 0), (.bool false)]), .cell true 53 (.agg [21, 1, 8] [(.agg [1, 1, 1, 8, 8, 1, 1] [(.int .u8 x.1), (.int .u8 x.2.1), (.int .i64 x.2.2.1), (.agg [1, 1, 1, 1, 1, 1, 1, 1] [(.int .u8 x.2.2.2.1.1), (.int .i64 x.2.2.2.1.2.1), (.int .i64 x.2.2.2.1.2.2.1), (.int .i64 x.2.2.2.1.2.2.2.1), (.int .i64 x.2.2.2.1.2.2.2.2.1), (.int .i64 x.2.2.2.1.2.2.2.2.2.1), (.bool x.2.2.2.1.2.2.2.2.2.2.1), (.int .i64 x.2.2.2.1.2.2.2.2.2.2.2)]), (.agg [1, 1, 1, 1, 1, 1, 1, 1] [(.int .u8 x.2.2.2.2.1.1), (.int .i64 x.2.2.2.2.1.2.1), (.int .i64 x.2.2.2.2.1.2.2.1), (.int .i64 x.2.2.2.2.1.2.2.2.1), (.int .i64 x.2.2.2.2.1.2.2.2.2.1), (.int .i64 x.2.2.2.2.1.2.2.2.2.2.1), (.bool x.2.2.2.2.1.2.2.2.2.2.2.1), (.int .i64 x.2.2.2.2.1.2.2.2.2.2.2.2)]), (.int .u8 x.2.2.2.2.2.1), (.int .i64 x.2.2.2.2.2.2)]), (.int .i64 x.2.2.1), (.agg [1, 1, 1, 1, 1, 1, 1, 1] [(.raw (.slice none 0 0)), (.raw (.slice none 0 0)), (.raw (.slice none 0 0)), (.int .u8 0), (.int .u8 0), (.int .i64 0), (.int .i64 0), (.bool false)])])] }
  | .h21 =>
  { fr := { id := 7, kind := .top, T := [.any, (.ptr 0 []), (.ptr 1 []), (.ptr 2 []), (.fn 51 [])] ++ List.replicate 40 .any, items := [.code (subc [1, 1, 0, 1, 1, 0] (bodyOf Tryd.f7)), .code (subc [1, 1, 1] (bodyOf Tryd.f7))], D := [], base := 0 },
    stk := [],
    H := [(cRUF3_0 x), .cell true 30 (.agg [1, 1, 1, 1, 1, 1, 1, 1] [(.raw (.slice none 0 0)), (.raw (.slice none 0 0)), (.raw (.slice none 0 0)), (.int .u8 0), (.int .u8 0), (.int .i64 0), (.int .i64 0), (.bool false)]), .cell true 53 (.agg [21, 1, 8] [(.agg [1, 1, 1, 8, 8, 1, 1] [(.int .u8 x.1), (.int .u8 x.2.1), (.int .i64 x.2.2.1), (.agg [1, 1, 1, 1, 1, 1, 1, 1] [(.int .u8 x.2.2.2.1.1), (.int .i64 x.2.2.2.1.2.1), (.int .i64 x.2.2.2.1.2.2.1), (.int .i64 x.2.2.2.1.2.2.2.1), (.int .i64 x.2.2.2.1.2.2.2.2.1), (.int .i64 x.2.2.2.1.2.2.2.2.2.1), (.bool x.2.2.2.1.2.2.2.2.2.2.1), (.int .i64 x.2.2.2.1.2.2.2.2.2.2.2)]), (.agg [1, 1, 1, 1, 1, 1, 1, 1] [(.int .u8 x.2.2.2.2.1.1), (.int .i64 x.2.2.2.2.1.2.1), (.int .i64 x.2.2.2.2.1.2.2.1), (.int .i64 x.2.2.2.2.1.2.2.2.1), (.int .i64 x.2.2.2.2.1.2.2.2.2.1), (.int .i64 x.2.2.2.2.1.2.2.2.2.2.1), (.bool x.2.2.2.2.1.2.2.2.2.2.2.1), (.int .i64 x.2.2.2.2.1.2.2.2.2.2.2.2)]), (.int .u8 x.2.2.2.2.2.1), (.int .i64 x.2.2.2.2.2.2)]), (.int .i64 x.2.2.1), (.agg [1, 1, 1, 1, 1, 1, 1, 1] [(.raw (.slice none 0 0)), (.raw (.slice none 0 0)), (.raw (.slice none 0 0)), (.int .u8 0), (.int .u8 0), (.int .i64 0), (.int .i64 0), (.bool false)])])] }
  | .h22 =>
  { fr := { id := 7, kind := .top, T := [.any, (.ptr 0 []), (.ptr 1 []), (.ptr 2 []), (.fn 52 [])] ++ List.replicate 40 .any, items := [.code (subc [1, 1, 0, 1, 1, 0] (bodyOf Tryd.f7)), .code (subc [1, 1, 1] (bodyOf Tryd.f7))], D := [], base := 0 },
    stk := [],
    H := [(cRUF3_0 x), .cell true 30 (.agg [1, 1, 1, 1, 1, 1, 1, 1] [(.raw (.slice none 0 0)), (.raw (.slice none 0 0)), (.raw (.slice none 0 0)), (.int .u8 0), (.int .u8 0), (.int .i64 0), (.int .i64 0), (.bool false)]), .cell true 53 (.agg [21, 1, 8] [(.agg [1, 1, 1, 8, 8, 1, 1] [(.int .u8 x.1), (.int .u8 x.2.1), (.int .i64 x.2.2.1), (.agg [1, 1, 1, 1, 1, 1, 1, 1] [(.int .u8 x.2.2.2.1.1), (.int .i64 x.2.2.2.1.2.1), (.int .i64 x.2.2.2.1.2.2.1), (.int .i64 x.2.2.2.1.2.2.2.1), (.int .i64 x.2.2.2.1.2.2.2.2.1), (.int .i64 x.2.2.2.1.2.2.2.2.2.1), (.bool x.2.2.2.1.2.2.2.2.2.2.1), (.int .i64 x.2.2.2.1.2.2.2.2.2.2.2)]), (.agg [1, 1, 1, 1, 1, 1, 1, 1] [(.int .u8 x.2.2.2.2.1.1), (.int .i64 x.2.2.2.2.1.2.1), (.int .i64 x.2.2.2.2.1.2.2.1), (.int .i64 x.2.2.2.2.1.2.2.2.1), (.int .i64 x.2.2.2.2.1.2.2.2.2.1), (.int .i64 x.2.2.2.2.1.2.2.2.2.2.1), (.bool x.2.2.2.2.1.2.2.2.2.2.2.1), (.int .i64 x.2.2.2.2.1.2.2.2.2.2.2.2)]), (.int .u8 x.2.2.2.2.2.1), (.int .i64 x.2.2.2.2.2.2)]), (.int .i64 x.2.2.1), (.agg [1, 1, 1, 1, 1, 1, 1, 1] [(.raw (.slice none 0 0)), (.raw (.slice none 0 0)), (.raw (.slice none 0 0)), (.int .u8 0), (.int .u8 0), (.int .i64 0), (.int .i64 0), (.bool false)])])] }
  | .h23 v48 v49 =>
  { fr := { id := 7, kind := .top, T := [.any, (.ptr 0 []), (.ptr 1 []), (.ptr 2 [])] ++ List.replicate 41 .any, items := [.code (subc [1, 1, 1, 0] (bodyOf Tryd.f7)), .code (subc [1, 1, 1, 1] (bodyOf Tryd.f7))], D := [], base := 0 },
    stk := [],
    H := [(cRUF3_0 x), .cell true 30 (.agg [1, 1, 1, 1, 1, 1, 1, 1] [(.raw (.slice none 0 0)), (.raw (.slice none 0 0)), (.raw (.slice none 0 0)), (.int .u8 0), (.int .u8 0), (.int .i64 0), (.int .i64 0), (.bool false)]), .cell true 53 (.agg [21, 1, 8] [(.agg [1, 1, 1, 8, 8, 1, 1] [(.int .u8 x.1), (.int .u8 x.2.1), (.int .i64 x.2.2.1), (.agg [1, 1, 1, 1, 1, 1, 1, 1] [(.int .u8 x.2.2.2.1.1), (.int .i64 x.2.2.2.1.2.1), (.int .i64 x.2.2.2.1.2.2.1), (.int .i64 x.2.2.2.1.2.2.2.1), (.int .i64 x.2.2.2.1.2.2.2.2.1), (.int .i64 x.2.2.2.1.2.2.2.2.2.1), (.bool x.2.2.2.1.2.2.2.2.2.2.1), (.int .i64 x.2.2.2.1.2.2.2.2.2.2.2)]), (.agg [1, 1, 1, 1, 1, 1, 1, 1] [(.int .u8 x.2.2.2.2.1.1), (.int .i64 x.2.2.2.2.1.2.1), (.int .i64 x.2.2.2.2.1.2.2.1), (.int .i64 x.2.2.2.2.1.2.2.2.1), (.int .i64 x.2.2.2.2.1.2.2.2.2.1), (.int .i64 x.2.2.2.2.1.2.2.2.2.2.1), (.bool x.2.2.2.2.1.2.2.2.2.2.2.1), (.int .i64 x.2.2.2.2.1.2.2.2.2.2.2.2)]), (.int .u8 x.2.2.2.2.2.1), (.int .i64 x.2.2.2.2.2.2)]), (.int .i64 x.2.2.1), (.agg [1, 1, 1, 1, 1, 1, 1, 1] [(.raw (.slice none 0 0)), (.raw (.slice none 0 0)), (.raw (.slice none 0 0)), (.int .u8 v48), (.int .u8 v49), (.int .i64 0), (.int .i64 0), (.bool false)])])] }
  | .h24 v48 v49 v50 v51 v55 v56 =>
  { fr := { id := 7, kind := .top, T := [.any, (.ptr 0 []), (.ptr 1 []), (.ptr 2 [])] ++ List.replicate 41 .any, items := [.code (subc [1, 1, 1, 0] (bodyOf Tryd.f7)), .code (subc [1, 1, 1, 1] (bodyOf Tryd.f7))], D := [], base := 0 },
    stk := [],
    H := [(cRUF3_0 x), .cell true 30 (.agg [1, 1, 1, 1, 1, 1, 1, 1] [(.raw (.slice none 0 0)), (.raw (.slice none 0 0)), (.raw (.slice none 0 0)), (.int .u8 0), (.int .u8 0), (.int .i64 0), (.int .i64 0), (.bool false)]), .cell true 53 (.agg [21, 1, 8] [(.agg [1, 1, 1, 8, 8, 1, 1] [(.int .u8 x.1), (.int .u8 x.2.1), (.int .i64 x.2.2.1), (.agg [1, 1, 1, 1, 1, 1, 1, 1] [(.int .u8 x.2.2.2.1.1), (.int .i64 x.2.2.2.1.2.1), (.int .i64 x.2.2.2.1.2.2.1), (.int .i64 x.2.2.2.1.2.2.2.1), (.int .i64 x.2.2.2.1.2.2.2.2.1), (.int .i64 x.2.2.2.1.2.2.2.2.2.1), (.bool x.2.2.2.1.2.2.2.2.2.2.1), (.int .i64 x.2.2.2.1.2.2.2.2.2.2.2)]), (.agg [1, 1, 1, 1, 1, 1, 1, 1] [(.int .u8 x.2.2.2.2.1.1), (.int .i64 x.2.2.2.2.1.2.1), (.int .i64 x.2.2.2.2.1.2.2.1), (.int .i64 x.2.2.2.2.1.2.2.2.1), (.int .i64 x.2.2.2.2.1.2.2.2.2.1), (.int .i64 x.2.2.2.2.1.2.2.2.2.2.1), (.bool x.2.2.2.2.1.2.2.2.2.2.2.1), (.int .i64 x.2.2.2.2.1.2.2.2.2.2.2.2)]), (.int .u8 x.2.2.2.2.2.1), (.int .i64 x.2.2.2.2.2.2)]), (.int .i64 x.2.2.1), (.agg [1, 1, 1, 1, 1, 1, 1, 1] [(.row 3 1 v48), (.row 4 1 v49), (.raw (.slice none 0 0)), (.int .u8 v50), (.int .u8 v51), (.int .i64 0), (.int .i64 0), (.bool false)])]), .row 3 (.int .i64) v55, .row 3 (.int .i64) v56] }
  | .h25 v48 v49 v50 v51 v52 v53 v55 v56 =>
  { fr := { id := 7, kind := .top, T := [.any, (.ptr 0 []), (.ptr 1 []), (.ptr 2 [])] ++ List.replicate 41 .any, items := [.code (subc [1, 1, 1, 0] (bodyOf Tryd.f7)), .code (subc [1, 1, 1, 1] (bodyOf Tryd.f7))], D := [], base := 0 },
    stk := [],
    H := [(cRUF3_0 x), .cell true 30 (.agg [1, 1, 1, 1, 1, 1, 1, 1] [(.raw (.slice none 0 0)), (.raw (.slice none 0 0)), (.raw (.slice none 0 0)), (.int .u8 0), (.int .u8 0), (.int .i64 0), (.int .i64 0), (.bool false)]), .cell true 53 (.agg [21, 1, 8] [(.agg [1, 1, 1, 8, 8, 1, 1] [(.int .u8 x.1), (.int .u8 x.2.1), (.int .i64 x.2.2.1), (.agg [1, 1, 1, 1, 1, 1, 1, 1] [(.int .u8 x.2.2.2.1.1), (.int .i64 x.2.2.2.1.2.1), (.int .i64 x.2.2.2.1.2.2.1), (.int .i64 x.2.2.2.1.2.2.2.1), (.int .i64 x.2.2.2.1.2.2.2.2.1), (.int .i64 x.2.2.2.1.2.2.2.2.2.1), (.bool x.2.2.2.1.2.2.2.2.2.2.1), (.int .i64 x.2.2.2.1.2.2.2.2.2.2.2)]), (.agg [1, 1, 1, 1, 1, 1, 1, 1] [(.int .u8 x.2.2.2.2.1.1), (.int .i64 x.2.2.2.2.1.2.1), (.int .i64 x.2.2.2.2.1.2.2.1), (.int .i64 x.2.2.2.2.1.2.2.2.1), (.int .i64 x.2.2.2.2.1.2.2.2.2.1), (.int .i64 x.2.2.2.2.1.2.2.2.2.2.1), (.bool x.2.2.2.2.1.2.2.2.2.2.2.1), (.int .i64 x.2.2.2.2.1.2.2.2.2.2.2.2)]), (.int .u8 x.2.2.2.2.2.1), (.int .i64 x.2.2.2.2.2.2)]), (.int .i64 x.2.2.1), (.agg [1, 1, 1, 1, 1, 1, 1, 1] [(.row 3 1 v48), (.raw (.slice none 0 0)), (.row 4 1 v49), (.int .u8 v50), (.int .u8 v51), (.int .i64 v52), (.int .i64 v53), (.bool false)])]), .row 3 (.int .i64) v55, .row 3 (.int .i64) v56] }
  | .h26 v48 v49 v50 v54 =>
  { fr := { id := 7, kind := .top, T := [.any, (.ptr 0 []), (.ptr 1 []), (.ptr 2 [])] ++ List.replicate 41 .any, items := [.code (subc [1, 1, 1, 0] (bodyOf Tryd.f7)), .code (subc [1, 1, 1, 1] (bodyOf Tryd.f7))], D := [], base := 0 },
    stk := [],
    H := [(cRUF3_0 x), .cell true 30 (.agg [1, 1, 1, 1, 1, 1, 1, 1] [(.raw (.slice none 0 0)), (.raw (.slice none 0 0)), (.raw (.slice none 0 0)), (.int .u8 0), (.int .u8 0), (.int .i64 0), (.int .i64 0), (.bool false)]), .cell true 53 (.agg [21, 1, 8] [(.agg [1, 1, 1, 8, 8, 1, 1] [(.int .u8 x.1), (.int .u8 x.2.1), (.int .i64 x.2.2.1), (.agg [1, 1, 1, 1, 1, 1, 1, 1] [(.int .u8 x.2.2.2.1.1), (.int .i64 x.2.2.2.1.2.1), (.int .i64 x.2.2.2.1.2.2.1), (.int .i64 x.2.2.2.1.2.2.2.1), (.int .i64 x.2.2.2.1.2.2.2.2.1), (.int .i64 x.2.2.2.1.2.2.2.2.2.1), (.bool x.2.2.2.1.2.2.2.2.2.2.1), (.int .i64 x.2.2.2.1.2.2.2.2.2.2.2)]), (.agg [1, 1, 1, 1, 1, 1, 1, 1] [(.int .u8 x.2.2.2.2.1.1), (.int .i64 x.2.2.2.2.1.2.1), (.int .i64 x.2.2.2.2.1.2.2.1), (.int .i64 x.2.2.2.2.1.2.2.2.1), (.int .i64 x.2.2.2.2.1.2.2.2.2.1), (.int .i64 x.2.2.2.2.1.2.2.2.2.2.1), (.bool x.2.2.2.2.1.2.2.2.2.2.2.1), (.int .i64 x.2.2.2.2.1.2.2.2.2.2.2.2)]), (.int .u8 x.2.2.2.2.2.1), (.int .i64 x.2.2.2.2.2.2)]), (.int .i64 x.2.2.1), (.agg [1, 1, 1, 1, 1, 1, 1, 1] [(.row 3 1 v48), (.raw (.slice none 0 0)), (.raw (.slice none 0 0)), (.int .u8 v49), (.int .u8 v50), (.int .i64 0), (.int .i64 0), (.bool false)])]), .row 3 (.int .i64) v54] }
  | .h27 v47 v48 v49 v50 v51 v52 v53 v54 v56 v57 v58 =>
  { fr := { id := 7, kind := .top, T := [.any, (.ptr 0 []), (.ptr 1 []), (.ptr 2 [])] ++ List.replicate 41 .any, items := [.code (subc [1, 1, 1, 0] (bodyOf Tryd.f7)), .code (subc [1, 1, 1, 1] (bodyOf Tryd.f7))], D := [], base := 0 },
    stk := [],
    H := [(cRUF3_0 x), .cell true 30 (.agg [1, 1, 1, 1, 1, 1, 1, 1] [(.raw (.slice none 0 0)), (.raw (.slice none 0 0)), (.raw (.slice none 0 0)), (.int .u8 0), (.int .u8 0), (.int .i64 0), (.int .i64 0), (.bool false)]), .cell true 53 (.agg [21, 1, 8] [(.agg [1, 1, 1, 8, 8, 1, 1] [(.int .u8 x.1), (.int .u8 x.2.1), (.int .i64 x.2.2.1), (.agg [1, 1, 1, 1, 1, 1, 1, 1] [(.int .u8 x.2.2.2.1.1), (.int .i64 x.2.2.2.1.2.1), (.int .i64 x.2.2.2.1.2.2.1), (.int .i64 x.2.2.2.1.2.2.2.1), (.int .i64 x.2.2.2.1.2.2.2.2.1), (.int .i64 x.2.2.2.1.2.2.2.2.2.1), (.bool x.2.2.2.1.2.2.2.2.2.2.1), (.int .i64 x.2.2.2.1.2.2.2.2.2.2.2)]), (.agg [1, 1, 1, 1, 1, 1, 1, 1] [(.int .u8 x.2.2.2.2.1.1), (.int .i64 x.2.2.2.2.1.2.1), (.int .i64 x.2.2.2.2.1.2.2.1), (.int .i64 x.2.2.2.2.1.2.2.2.1), (.int .i64 x.2.2.2.2.1.2.2.2.2.1), (.int .i64 x.2.2.2.2.1.2.2.2.2.2.1), (.bool x.2.2.2.2.1.2.2.2.2.2.2.1), (.int .i64 x.2.2.2.2.1.2.2.2.2.2.2.2)]), (.int .u8 x.2.2.2.2.2.1), (.int .i64 x.2.2.2.2.2.2)]), (.int .i64 v47), (.agg [1, 1, 1, 1, 1, 1, 1, 1] [(.row 3 1 v48), (.row 4 1 v49), (.row 5 1 v50), (.int .u8 v51), (.int .u8 v52), (.int .i64 v53), (.int .i64 v54), (.bool false)])]), .row 3 (.int .i64) v56, .row 3 (.int .i64) v57, .row 3 (.int .i64) v58] }
  | .h28 v49 v50 v54 =>
  { fr := { id := 7, kind := .top, T := [.any, (.ptr 0 []), (.ptr 1 []), (.ptr 2 [])] ++ List.replicate 41 .any, items := [.code (subc [1, 1, 1, 0] (bodyOf Tryd.f7)), .code (subc [1, 1, 1, 1] (bodyOf Tryd.f7))], D := [], base := 0 },
    stk := [],
    H := [(cRUF3_0 x), .cell true 30 (.agg [1, 1, 1, 1, 1, 1, 1, 1] [(.raw (.slice none 0 0)), (.raw (.slice none 0 0)), (.raw (.slice none 0 0)), (.int .u8 0), (.int .u8 0), (.int .i64 0), (.int .i64 0), (.bool false)]), .cell true 53 (.agg [21, 1, 8] [(.agg [1, 1, 1, 8, 8, 1, 1] [(.int .u8 x.1), (.int .u8 x.2.1), (.int .i64 x.2.2.1), (.agg [1, 1, 1, 1, 1, 1, 1, 1] [(.int .u8 x.2.2.2.1.1), (.int .i64 x.2.2.2.1.2.1), (.int .i64 x.2.2.2.1.2.2.1), (.int .i64 x.2.2.2.1.2.2.2.1), (.int .i64 x.2.2.2.1.2.2.2.2.1), (.int .i64 x.2.2.2.1.2.2.2.2.2.1), (.bool x.2.2.2.1.2.2.2.2.2.2.1), (.int .i64 x.2.2.2.1.2.2.2.2.2.2.2)]), (.agg [1, 1, 1, 1, 1, 1, 1, 1] [(.int .u8 x.2.2.2.2.1.1), (.int .i64 x.2.2.2.2.1.2.1), (.int .i64 x.2.2.2.2.1.2.2.1), (.int .i64 x.2.2.2.2.1.2.2.2.1), (.int .i64 x.2.2.2.2.1.2.2.2.2.1), (.int .i64 x.2.2.2.2.1.2.2.2.2.2.1), (.bool x.2.2.2.2.1.2.2.2.2.2.2.1), (.int .i64 x.2.2.2.2.1.2.2.2.2.2.2.2)]), (.int .u8 x.2.2.2.2.2.1), (.int .i64 x.2.2.2.2.2.2)]), (.int .i64 x.2.2.1), (.agg [1, 1, 1, 1, 1, 1, 1, 1] [(.raw (.slice none 0 0)), (.row 3 1 1), (.raw (.slice none 0 0)), (.int .u8 v49), (.int .u8 v50), (.int .i64 0), (.int .i64 0), (.bool false)])]), .row 3 (.int .i64) v54] }
  | .h29 v48 v55 =>
  { fr := { id := 7, kind := .top, T := [.any, (.ptr 0 []), (.ptr 1 []), (.ptr 2 [])] ++ List.replicate 41 .any, items := [.code (subc [1, 1, 1, 0] (bodyOf Tryd.f7)), .code (subc [1, 1, 1, 1] (bodyOf Tryd.f7))], D := [], base := 0 },
    stk := [],
    H := [(cRUF3_0 x), .cell true 30 (.agg [1, 1, 1, 1, 1, 1, 1, 1] [(.raw (.slice none 0 0)), (.raw (.slice none 0 0)), (.raw (.slice none 0 0)), (.int .u8 0), (.int .u8 0), (.int .i64 0), (.int .i64 0), (.bool false)]), .cell true 53 (.agg [21, 1, 8] [(.agg [1, 1, 1, 8, 8, 1, 1] [(.int .u8 x.1), (.int .u8 x.2.1), (.int .i64 x.2.2.1), (.agg [1, 1, 1, 1, 1, 1, 1, 1] [(.int .u8 x.2.2.2.1.1), (.int .i64 x.2.2.2.1.2.1), (.int .i64 x.2.2.2.1.2.2.1), (.int .i64 x.2.2.2.1.2.2.2.1), (.int .i64 x.2.2.2.1.2.2.2.2.1), (.int .i64 x.2.2.2.1.2.2.2.2.2.1), (.bool x.2.2.2.1.2.2.2.2.2.2.1), (.int .i64 x.2.2.2.1.2.2.2.2.2.2.2)]), (.agg [1, 1, 1, 1, 1, 1, 1, 1] [(.int .u8 x.2.2.2.2.1.1), (.int .i64 x.2.2.2.2.1.2.1), (.int .i64 x.2.2.2.2.1.2.2.1), (.int .i64 x.2.2.2.2.1.2.2.2.1), (.int .i64 x.2.2.2.2.1.2.2.2.2.1), (.int .i64 x.2.2.2.2.1.2.2.2.2.2.1), (.bool x.2.2.2.2.1.2.2.2.2.2.2.1), (.int .i64 x.2.2.2.2.1.2.2.2.2.2.2.2)]), (.int .u8 x.2.2.2.2.2.1), (.int .i64 x.2.2.2.2.2.2)]), (.int .i64 x.2.2.1), (.agg [1, 1, 1, 1, 1, 1, 1, 1] [(.fsl (.int .i64) v48), (.row 3 1 1), (.raw (.slice none 0 0)), (.int .u8 0), (.int .u8 0), (.int .i64 0), (.int .i64 0), (.bool false)])]), .row 3 (.int .i64) v55] }
  | .h30 v48 =>
  { fr := { id := 7, kind := .top, T := [.any, (.ptr 0 []), (.ptr 1 []), (.ptr 2 [])] ++ List.replicate 41 .any, items := [.code (subc [1, 1, 1, 0] (bodyOf Tryd.f7)), .code (subc [1, 1, 1, 1] (bodyOf Tryd.f7))], D := [], base := 0 },
    stk := [],
    H := [(cRUF3_0 x), .cell true 30 (.agg [1, 1, 1, 1, 1, 1, 1, 1] [(.raw (.slice none 0 0)), (.raw (.slice none 0 0)), (.raw (.slice none 0 0)), (.int .u8 0), (.int .u8 0), (.int .i64 0), (.int .i64 0), (.bool false)]), .cell true 53 (.agg [21, 1, 8] [(.agg [1, 1, 1, 8, 8, 1, 1] [(.int .u8 x.1), (.int .u8 x.2.1), (.int .i64 x.2.2.1), (.agg [1, 1, 1, 1, 1, 1, 1, 1] [(.int .u8 x.2.2.2.1.1), (.int .i64 x.2.2.2.1.2.1), (.int .i64 x.2.2.2.1.2.2.1), (.int .i64 x.2.2.2.1.2.2.2.1), (.int .i64 x.2.2.2.1.2.2.2.2.1), (.int .i64 x.2.2.2.1.2.2.2.2.2.1), (.bool x.2.2.2.1.2.2.2.2.2.2.1), (.int .i64 x.2.2.2.1.2.2.2.2.2.2.2)]), (.agg [1, 1, 1, 1, 1, 1, 1, 1] [(.int .u8 x.2.2.2.2.1.1), (.int .i64 x.2.2.2.2.1.2.1), (.int .i64 x.2.2.2.2.1.2.2.1), (.int .i64 x.2.2.2.2.1.2.2.2.1), (.int .i64 x.2.2.2.2.1.2.2.2.2.1), (.int .i64 x.2.2.2.2.1.2.2.2.2.2.1), (.bool x.2.2.2.2.1.2.2.2.2.2.2.1), (.int .i64 x.2.2.2.2.1.2.2.2.2.2.2.2)]), (.int .u8 x.2.2.2.2.2.1), (.int .i64 x.2.2.2.2.2.2)]), (.int .i64 x.2.2.1), (.agg [1, 1, 1, 1, 1, 1, 1, 1] [(.fsl (.int .i64) v48), (.raw (.slice none 0 0)), (.raw (.slice none 0 0)), (.int .u8 0), (.int .u8 0), (.int .i64 0), (.int .i64 0), (.bool false)])])] }
noncomputable def stop7 : FuncId → Nat → Nat → Option Cut
  | 7, 9, 0 => some { tmps := [1, 2, 3, 4], loops := [], dead := [], stk := [] }
  | 7, 11, 0 => some { tmps := [1, 2, 3], loops := [], dead := [], stk := [] }
  | _, _, _ => none
noncomputable def fn7 (x : DInsn) : DFacts := endVal (TC.dflt CFacts) (step7 x) (tree7 x)
def pre7 (x : DInsn) : Prop := ∃ r, Ends (step7 x) r (tree7 x)
noncomputable def spec7 : Spec := { dom := (.st1 CInsn), cod := CFacts, n := 1, pre := pre7, f := fn7 }
noncomputable def need7 : FuncId → Option Spec
  | 9 => some spec9
  | 10 => some spec10
  | 15 => some spec15
  | 16 => some spec16
  | 17 => some spec17
  | 28 => some spec28
  | 40 => some spec40
  | 64 => some spec64
  | _ => none
theorem need7_ok : ∀ f sp, need7 f = some sp → SpecOk env0 f sp := by
  intro f sp h
  unfold need7 at h
  split at h
  · cases h; exact ok9
  · cases h; exact ok10
  · cases h; exact ok15
  · cases h; exact ok16
  · cases h; exact ok17
  · cases h; exact ok28
  · cases h; exact ok40
  · cases h; exact ok64
  · cases h
theorem run7 (W : Cfg) (Q : DFacts → Prop) (x : DInsn) : run (env need7 (fun _ _ => none)) stop7 (finS spec7 Q) W 100000 (startFr 7 Tryd.f7 (bodyOf Tryd.f7) (argsOf (.st1 CInsn) x)) [] [] = (tree7 x).wp (kont W Q (head7 x)) := by kernel_rfl
theorem run7h0 (W : Cfg) (Q : DFacts → Prop) (x : DInsn) : run (env need7 (fun _ _ => none)) stop7 (finS spec7 Q) W 100000 (head7 x (.h0)).fr.enter (head7 x (.h0)).stk (head7 x (.h0)).H = (step7 x (.h0)).wp (kont W Q (head7 x)) := by kernel_rfl
theorem run7h1 (W : Cfg) (Q : DFacts → Prop) (x : DInsn) : run (env need7 (fun _ _ => none)) stop7 (finS spec7 Q) W 100000 (head7 x (.h1)).fr.enter (head7 x (.h1)).stk (head7 x (.h1)).H = (step7 x (.h1)).wp (kont W Q (head7 x)) := by kernel_rfl
theorem run7h2 (W : Cfg) (Q : DFacts → Prop) (x : DInsn) : run (env need7 (fun _ _ => none)) stop7 (finS spec7 Q) W 100000 (head7 x (.h2)).fr.enter (head7 x (.h2)).stk (head7 x (.h2)).H = (step7 x (.h2)).wp (kont W Q (head7 x)) := by kernel_rfl
theorem run7h3 (W : Cfg) (Q : DFacts → Prop) (x : DInsn) : run (env need7 (fun _ _ => none)) stop7 (finS spec7 Q) W 100000 (head7 x (.h3)).fr.enter (head7 x (.h3)).stk (head7 x (.h3)).H = (step7 x (.h3)).wp (kont W Q (head7 x)) := by kernel_rfl
theorem run7h4 (W : Cfg) (Q : DFacts → Prop) (x : DInsn) : run (env need7 (fun _ _ => none)) stop7 (finS spec7 Q) W 100000 (head7 x (.h4)).fr.enter (head7 x (.h4)).stk (head7 x (.h4)).H = (step7 x (.h4)).wp (kont W Q (head7 x)) := by kernel_rfl
theorem run7h5 (W : Cfg) (Q : DFacts → Prop) (x : DInsn) : run (env need7 (fun _ _ => none)) stop7 (finS spec7 Q) W 100000 (head7 x (.h5)).fr.enter (head7 x (.h5)).stk (head7 x (.h5)).H = (step7 x (.h5)).wp (kont W Q (head7 x)) := by kernel_rfl
theorem run7h6 (W : Cfg) (Q : DFacts → Prop) (x : DInsn) : run (env need7 (fun _ _ => none)) stop7 (finS spec7 Q) W 100000 (head7 x (.h6)).fr.enter (head7 x (.h6)).stk (head7 x (.h6)).H = (step7 x (.h6)).wp (kont W Q (head7 x)) := by kernel_rfl
theorem run7h7 (W : Cfg) (Q : DFacts → Prop) (x : DInsn) : run (env need7 (fun _ _ => none)) stop7 (finS spec7 Q) W 100000 (head7 x (.h7)).fr.enter (head7 x (.h7)).stk (head7 x (.h7)).H = (step7 x (.h7)).wp (kont W Q (head7 x)) := by kernel_rfl
theorem run7h8 (W : Cfg) (Q : DFacts → Prop) (x : DInsn) : run (env need7 (fun _ _ => none)) stop7 (finS spec7 Q) W 100000 (head7 x (.h8)).fr.enter (head7 x (.h8)).stk (head7 x (.h8)).H = (step7 x (.h8)).wp (kont W Q (head7 x)) := by kernel_rfl
theorem run7h9 (W : Cfg) (Q : DFacts → Prop) (x : DInsn) : run (env need7 (fun _ _ => none)) stop7 (finS spec7 Q) W 100000 (head7 x (.h9)).fr.enter (head7 x (.h9)).stk (head7 x (.h9)).H = (step7 x (.h9)).wp (kont W Q (head7 x)) := by kernel_rfl
theorem run7h10 (W : Cfg) (Q : DFacts → Prop) (x : DInsn) : run (env need7 (fun _ _ => none)) stop7 (finS spec7 Q) W 100000 (head7 x (.h10)).fr.enter (head7 x (.h10)).stk (head7 x (.h10)).H = (step7 x (.h10)).wp (kont W Q (head7 x)) := by kernel_rfl
theorem run7h11 (W : Cfg) (Q : DFacts → Prop) (x : DInsn) : run (env need7 (fun _ _ => none)) stop7 (finS spec7 Q) W 100000 (head7 x (.h11)).fr.enter (head7 x (.h11)).stk (head7 x (.h11)).H = (step7 x (.h11)).wp (kont W Q (head7 x)) := by kernel_rfl
theorem run7h12 (W : Cfg) (Q : DFacts → Prop) (x : DInsn) : run (env need7 (fun _ _ => none)) stop7 (finS spec7 Q) W 100000 (head7 x (.h12)).fr.enter (head7 x (.h12)).stk (head7 x (.h12)).H = (step7 x (.h12)).wp (kont W Q (head7 x)) := by kernel_rfl
theorem run7h13 (W : Cfg) (Q : DFacts → Prop) (x : DInsn) : run (env need7 (fun _ _ => none)) stop7 (finS spec7 Q) W 100000 (head7 x (.h13)).fr.enter (head7 x (.h13)).stk (head7 x (.h13)).H = (step7 x (.h13)).wp (kont W Q (head7 x)) := by kernel_rfl
theorem run7h14 (W : Cfg) (Q : DFacts → Prop) (x : DInsn) : run (env need7 (fun _ _ => none)) stop7 (finS spec7 Q) W 100000 (head7 x (.h14)).fr.enter (head7 x (.h14)).stk (head7 x (.h14)).H = (step7 x (.h14)).wp (kont W Q (head7 x)) := by kernel_rfl
theorem run7h15 (W : Cfg) (Q : DFacts → Prop) (x : DInsn) : run (env need7 (fun _ _ => none)) stop7 (finS spec7 Q) W 100000 (head7 x (.h15)).fr.enter (head7 x (.h15)).stk (head7 x (.h15)).H = (step7 x (.h15)).wp (kont W Q (head7 x)) := by kernel_rfl
theorem run7h16 (W : Cfg) (Q : DFacts → Prop) (x : DInsn) : run (env need7 (fun _ _ => none)) stop7 (finS spec7 Q) W 100000 (head7 x (.h16)).fr.enter (head7 x (.h16)).stk (head7 x (.h16)).H = (step7 x (.h16)).wp (kont W Q (head7 x)) := by kernel_rfl
theorem run7h17 (W : Cfg) (Q : DFacts → Prop) (x : DInsn) : run (env need7 (fun _ _ => none)) stop7 (finS spec7 Q) W 100000 (head7 x (.h17)).fr.enter (head7 x (.h17)).stk (head7 x (.h17)).H = (step7 x (.h17)).wp (kont W Q (head7 x)) := by kernel_rfl
theorem run7h18 (W : Cfg) (Q : DFacts → Prop) (x : DInsn) : run (env need7 (fun _ _ => none)) stop7 (finS spec7 Q) W 100000 (head7 x (.h18)).fr.enter (head7 x (.h18)).stk (head7 x (.h18)).H = (step7 x (.h18)).wp (kont W Q (head7 x)) := by kernel_rfl
theorem run7h19 (W : Cfg) (Q : DFacts → Prop) (x : DInsn) : run (env need7 (fun _ _ => none)) stop7 (finS spec7 Q) W 100000 (head7 x (.h19)).fr.enter (head7 x (.h19)).stk (head7 x (.h19)).H = (step7 x (.h19)).wp (kont W Q (head7 x)) := by kernel_rfl
theorem run7h20 (W : Cfg) (Q : DFacts → Prop) (x : DInsn) : run (env need7 (fun _ _ => none)) stop7 (finS spec7 Q) W 100000 (head7 x (.h20)).fr.enter (head7 x (.h20)).stk (head7 x (.h20)).H = (step7 x (.h20)).wp (kont W Q (head7 x)) := by kernel_rfl
theorem run7h21 (W : Cfg) (Q : DFacts → Prop) (x : DInsn) : run (env need7 (fun _ _ => none)) stop7 (finS spec7 Q) W 100000 (head7 x (.h21)).fr.enter (head7 x (.h21)).stk (head7 x (.h21)).H = (step7 x (.h21)).wp (kont W Q (head7 x)) := by kernel_rfl
theorem run7h22 (W : Cfg) (Q : DFacts → Prop) (x : DInsn) : run (env need7 (fun _ _ => none)) stop7 (finS spec7 Q) W 100000 (head7 x (.h22)).fr.enter (head7 x (.h22)).stk (head7 x (.h22)).H = (step7 x (.h22)).wp (kont W Q (head7 x)) := by kernel_rfl
theorem run7h23 (W : Cfg) (Q : DFacts → Prop) (x : DInsn) (v48 : Int) (v49 : Int) : run (env need7 (fun _ _ => none)) stop7 (finS spec7 Q) W 100000 (head7 x (.h23 v48 v49)).fr.enter (head7 x (.h23 v48 v49)).stk (head7 x (.h23 v48 v49)).H = (step7 x (.h23 v48 v49)).wp (kont W Q (head7 x)) := by kernel_rfl
theorem run7h24 (W : Cfg) (Q : DFacts → Prop) (x : DInsn) (v48 : Nat) (v49 : Nat) (v50 : Int) (v51 : Int) (v55 : (List Int)) (v56 : (List Int)) : run (env need7 (fun _ _ => none)) stop7 (finS spec7 Q) W 100000 (head7 x (.h24 v48 v49 v50 v51 v55 v56)).fr.enter (head7 x (.h24 v48 v49 v50 v51 v55 v56)).stk (head7 x (.h24 v48 v49 v50 v51 v55 v56)).H = (step7 x (.h24 v48 v49 v50 v51 v55 v56)).wp (kont W Q (head7 x)) := by kernel_rfl
theorem run7h25 (W : Cfg) (Q : DFacts → Prop) (x : DInsn) (v48 : Nat) (v49 : Nat) (v50 : Int) (v51 : Int) (v52 : Int) (v53 : Int) (v55 : (List Int)) (v56 : (List Int)) : run (env need7 (fun _ _ => none)) stop7 (finS spec7 Q) W 100000 (head7 x (.h25 v48 v49 v50 v51 v52 v53 v55 v56)).fr.enter (head7 x (.h25 v48 v49 v50 v51 v52 v53 v55 v56)).stk (head7 x (.h25 v48 v49 v50 v51 v52 v53 v55 v56)).H = (step7 x (.h25 v48 v49 v50 v51 v52 v53 v55 v56)).wp (kont W Q (head7 x)) := by kernel_rfl
theorem run7h26 (W : Cfg) (Q : DFacts → Prop) (x : DInsn) (v48 : Nat) (v49 : Int) (v50 : Int) (v54 : (List Int)) : run (env need7 (fun _ _ => none)) stop7 (finS spec7 Q) W 100000 (head7 x (.h26 v48 v49 v50 v54)).fr.enter (head7 x (.h26 v48 v49 v50 v54)).stk (head7 x (.h26 v48 v49 v50 v54)).H = (step7 x (.h26 v48 v49 v50 v54)).wp (kont W Q (head7 x)) := by kernel_rfl
theorem run7h27 (W : Cfg) (Q : DFacts → Prop) (x : DInsn) (v47 : Int) (v48 : Nat) (v49 : Nat) (v50 : Nat) (v51 : Int) (v52 : Int) (v53 : Int) (v54 : Int) (v56 : (List Int)) (v57 : (List Int)) (v58 : (List Int)) : run (env need7 (fun _ _ => none)) stop7 (finS spec7 Q) W 100000 (head7 x (.h27 v47 v48 v49 v50 v51 v52 v53 v54 v56 v57 v58)).fr.enter (head7 x (.h27 v47 v48 v49 v50 v51 v52 v53 v54 v56 v57 v58)).stk (head7 x (.h27 v47 v48 v49 v50 v51 v52 v53 v54 v56 v57 v58)).H = (step7 x (.h27 v47 v48 v49 v50 v51 v52 v53 v54 v56 v57 v58)).wp (kont W Q (head7 x)) := by kernel_rfl
theorem run7h28 (W : Cfg) (Q : DFacts → Prop) (x : DInsn) (v49 : Int) (v50 : Int) (v54 : (List Int)) : run (env need7 (fun _ _ => none)) stop7 (finS spec7 Q) W 100000 (head7 x (.h28 v49 v50 v54)).fr.enter (head7 x (.h28 v49 v50 v54)).stk (head7 x (.h28 v49 v50 v54)).H = (step7 x (.h28 v49 v50 v54)).wp (kont W Q (head7 x)) := by kernel_rfl
theorem run7h29 (W : Cfg) (Q : DFacts → Prop) (x : DInsn) (v48 : (List Int)) (v55 : (List Int)) : run (env need7 (fun _ _ => none)) stop7 (finS spec7 Q) W 100000 (head7 x (.h29 v48 v55)).fr.enter (head7 x (.h29 v48 v55)).stk (head7 x (.h29 v48 v55)).H = (step7 x (.h29 v48 v55)).wp (kont W Q (head7 x)) := by kernel_rfl
theorem run7h30 (W : Cfg) (Q : DFacts → Prop) (x : DInsn) (v48 : (List Int)) : run (env need7 (fun _ _ => none)) stop7 (finS spec7 Q) W 100000 (head7 x (.h30 v48)).fr.enter (head7 x (.h30 v48)).stk (head7 x (.h30 v48)).H = (step7 x (.h30 v48)).wp (kont W Q (head7 x)) := by kernel_rfl
theorem runs7 (W : Cfg) (Q : DFacts → Prop) (x : DInsn) : ∀ j : J7, run (env need7 (fun _ _ => none)) stop7 (finS spec7 Q) W 100000 (head7 x j).fr.enter (head7 x j).stk (head7 x j).H = (step7 x j).wp (kont W Q (head7 x))
  | .h0 => run7h0 W Q x
  | .h1 => run7h1 W Q x
  | .h2 => run7h2 W Q x
  | .h3 => run7h3 W Q x
  | .h4 => run7h4 W Q x
  | .h5 => run7h5 W Q x
  | .h6 => run7h6 W Q x
  | .h7 => run7h7 W Q x
  | .h8 => run7h8 W Q x
  | .h9 => run7h9 W Q x
  | .h10 => run7h10 W Q x
  | .h11 => run7h11 W Q x
  | .h12 => run7h12 W Q x
  | .h13 => run7h13 W Q x
  | .h14 => run7h14 W Q x
  | .h15 => run7h15 W Q x
  | .h16 => run7h16 W Q x
  | .h17 => run7h17 W Q x
  | .h18 => run7h18 W Q x
  | .h19 => run7h19 W Q x
  | .h20 => run7h20 W Q x
  | .h21 => run7h21 W Q x
  | .h22 => run7h22 W Q x
  | .h23 v48 v49 => run7h23 W Q x v48 v49
  | .h24 v48 v49 v50 v51 v55 v56 => run7h24 W Q x v48 v49 v50 v51 v55 v56
  | .h25 v48 v49 v50 v51 v52 v53 v55 v56 => run7h25 W Q x v48 v49 v50 v51 v52 v53 v55 v56
  | .h26 v48 v49 v50 v54 => run7h26 W Q x v48 v49 v50 v54
  | .h27 v47 v48 v49 v50 v51 v52 v53 v54 v56 v57 v58 => run7h27 W Q x v47 v48 v49 v50 v51 v52 v53 v54 v56 v57 v58
  | .h28 v49 v50 v54 => run7h28 W Q x v49 v50 v54
  | .h29 v48 v55 => run7h29 W Q x v48 v55
  | .h30 v48 => run7h30 W Q x v48
theorem ok7 : SpecOk env0 7 spec7 := SpecOk.env rfl (fun _ _ h => h) (spec_of_trees (E := (env need7 (fun _ _ => none))) (sp := spec7) (valid _ _) (fun f sp h => SpecOk.env rfl (fun _ _ h => h) (need7_ok f sp h)) (fn := Tryd.f7) (c := (bodyOf Tryd.f7)) (by kernel_rfl) (by kernel_rfl) tree7 step7 head7 run7 runs7 (fun _ h => endVal_ends h))

end Go.Eng.RU
end
section
/- What the document's Right wants: nothing. -/
namespace Go.Eng.RU
open Go.Eng
set_option maxRecDepth 100000
set_option linter.unusedSectionVars false
set_option linter.unusedSimpArgs false
theorem pre13_ok (x) : pre13 x := by unfold pre13 tree13; trivial
theorem one_more (i : Nat) (h : i < 1000) : iadd .i64 (i : Int) 1 = ((i + 1 : Nat) : Int) := by
  rw [iadd_i64 (by omega) (by omega)]; omega
theorem lt_no {a b : Nat} (h : a ≤ b) : ilt (b : Int) (a : Int) = false := by rw [ilt_no]; omega
theorem lt_yes {a b : Nat} (h : b < a) : ilt (b : Int) (a : Int) = true := by rw [ilt_iff]; omega
theorem ex_ite {J α : Type} {s : J → Tr (J ⊕ α)} {b : Bool} {t e : Tr (J ⊕ α)} (h1 : ∃ r, Ends s r t) (h2 : ∃ r, Ends s r e) : ∃ r, Ends s r (.ite b t e) := by
  cases b
  · obtain ⟨r, h⟩ := h2; exact ⟨r, .no _ _ h⟩
  · obtain ⟨r, h⟩ := h1; exact ⟨r, .yes _ _ h⟩
theorem ex_need {J α : Type} {s : J → Tr (J ⊕ α)} {p : Prop} {t : Tr (J ⊕ α)} (h1 : p) (h2 : ∃ r, Ends s r t) : ∃ r, Ends s r (.need p t) := by
  obtain ⟨r, h⟩ := h2; exact ⟨r, .need _ _ h1 h⟩
theorem ex_ret {J α : Type} {s : J → Tr (J ⊕ α)} {a : α} : ∃ r, Ends s r (.ret (.inr a)) := ⟨a, .ret⟩
theorem ex_jump {J α : Type} {s : J → Tr (J ⊕ α)} {j : J} (h : ∃ r, Ends s r (s j)) : ∃ r, Ends s r (.ret (.inl j)) := by
  obtain ⟨r, h⟩ := h; exact ⟨r, .jump _ h⟩
end Go.Eng.RU
end
section
/- rising, Uses, Contains: plain. -/
namespace Go.Eng.RU
open Go.Eng
set_option maxRecDepth 100000
set_option linter.unusedSectionVars false
set_option linter.unusedSimpArgs false
/-! ### rising -/
def rise (l : List Int) : List Int := Lib.compact (sortInts l)
theorem keeps_first {d : Array Int} {j : Nat} (h : j = 0 ∨ d[j]! ≠ d[j - 1]!) : Lib.keeps d j = true := by
  unfold Lib.keeps
  rcases h with rfl | h
  · simp
  · simp [h]
theorem mem_compact {zs : List Int} {x : Int} : x ∈ Lib.compact zs ↔ x ∈ zs := by
  unfold Lib.compact Lib.compactUpTo
  simp only [List.mem_map, List.mem_filter, List.mem_range]
  constructor
  · rintro ⟨j, ⟨hj, _⟩, rfl⟩
    simp [hj]
  · intro h
    have key : ∀ n, n < zs.length → zs.toArray[n]! = x → ∃ j, (j < zs.length ∧ Lib.keeps zs.toArray j = true) ∧ zs.toArray[j]! = x := by
      intro n
      induction n with
      | zero => intro hn hx; exact ⟨0, ⟨hn, keeps_first (.inl rfl)⟩, hx⟩
      | succ n ih =>
        intro hn hx
        by_cases e : zs.toArray[n]! = x
        · exact ih (by omega) e
        · refine ⟨n + 1, ⟨hn, keeps_first (.inr ?_)⟩, hx⟩
          rw [hx]
          exact fun h => e h.symm
    obtain ⟨n, hn, hx⟩ := List.getElem_of_mem h
    exact key n hn (by simp [hn, hx])
theorem mem_rise {l : List Int} {x : Int} : x ∈ rise l ↔ x ∈ l := by
  unfold rise
  rw [mem_compact]
  unfold sortInts
  exact List.mem_mergeSort
theorem rise_nil : rise [] = [] := by
  have : ∀ x, x ∉ rise [] := fun x h => by rw [mem_rise] at h; cases h
  exact List.eq_nil_iff_forall_not_mem.2 this
theorem rise_len (l : List Int) : (rise l).length ≤ l.length := by
  have h := compact_le (sortInts l)
  have : (sortInts l).length = l.length := List.length_mergeSort ..
  unfold rise; omega
theorem rise_one (a : Int) : rise [a] = [a] := by
  have h1 := rise_len [a]
  have h2 : a ∈ rise [a] := mem_rise.2 (by simp)
  match h : rise [a] with
  | [] => rw [h] at h2; cases h2
  | [b] => rw [h] at h2; simp at h2; rw [h2]
  | b :: c :: r => rw [h] at h1; simp at h1
theorem sort_len (l : List Int) : (srt l).length = l.length := List.length_mergeSort ..
theorem splice0 {α : Type} (xs ys : List α) : spliceL xs 0 ys = ys ++ xs.drop ys.length := by unfold spliceL; simp
theorem comp_take (l m : List Int) : (cmp l ++ m).take (cmpLen l) = Lib.compact l := by
  show (compInts l ++ m).take (compLen l) = _
  unfold compInts compLen
  rw [List.append_assoc]
  exact List.take_left' rfl
theorem rise_ok {x : List Int} (h : x.length ≤ 1000) : pre16 x ∧ fn16 x = rise x := by
  cases x with
  | nil =>
    have c0 : cmpLen [] = 0 := rfl
    have s0 : srt [] = [] := List.mergeSort_nil
    have k0 : cmp [] = [] := rfl
    constructor
    · unfold pre16 tree16
      simp [ok_ite, ok_need, ok_ret, ok_all, ok_both, val_ite, val_need, val_ret, val_both, ieq, ilt, spliceL, c0, s0, k0]
    · rw [rise_nil]
      unfold fn16 tree16
      simp [val_ite, val_need, val_ret, val_both, ieq]
  | cons a l =>
    have e1 : ieq (((a :: l).length : Nat) : Int) 0 = false := by rw [ieq_no, List.length_cons]; omega
    have e2 : ilt ((0 : Nat) : Int) ((0 + (a :: l).length : Nat) : Int) = true := by rw [ilt_iff, List.length_cons]; omega
    generalize hx : a :: l = x at *
    have v : ∀ j : Nat, ((spliceL (spliceL ((([] : List Int) ++ x) ++ List.replicate j 0) 0 (srt (((([] : List Int) ++ x) ++ List.replicate j 0).take (0 + x.length)))) 0 (cmp ((spliceL ((([] : List Int) ++ x) ++ List.replicate j 0) 0 (srt (((([] : List Int) ++ x) ++ List.replicate j 0).take (0 + x.length)))).take (0 + x.length)))).take (cmpLen ((spliceL ((([] : List Int) ++ x) ++ List.replicate j 0) 0 (srt (((([] : List Int) ++ x) ++ List.replicate j 0).take (0 + x.length)))).take (0 + x.length)))) = rise x
        ∧ cmpLen ((spliceL ((([] : List Int) ++ x) ++ List.replicate j 0) 0 (srt (((([] : List Int) ++ x) ++ List.replicate j 0).take (0 + x.length)))).take (0 + x.length)) ≤ x.length := by
      intro j
      have t1 : ((([] : List Int) ++ x) ++ List.replicate j 0).take (0 + x.length) = x := by
        rw [List.nil_append, Nat.zero_add]; exact List.take_left' rfl
      rw [t1]
      have t2 : (spliceL ((([] : List Int) ++ x) ++ List.replicate j 0) 0 (srt x)).take (0 + x.length) = srt x := by
        rw [splice0, Nat.zero_add]; exact List.take_left' (sort_len x)
      rw [t2, splice0 _ (cmp _), comp_take]
      refine ⟨rfl, ?_⟩
      have := compact_le (srt x)
      rw [sort_len] at this
      exact this
    constructor
    · unfold pre16 tree16
      simp only [ok_ite, ok_need, ok_ret, ok_all, ok_both, val_ite, val_need, val_ret, val_both, e1, e2]
      refine ⟨fun h => (by cases h), fun _ => ⟨fun _ => ⟨by omega, by omega, by omega, fun j => ?_⟩, fun h => (by cases h)⟩⟩
      have := (v j).2
      have vj := (v j).1
      have v0 := (v 0).1
      refine ⟨⟨by omega, by omega, by omega, by omega, by omega, trivial⟩, ?_⟩
      rw [vj, v0]
    · unfold fn16 tree16
      have v0 := (v 0).1
      simp only [val_ite, val_need, val_ret, val_both, e1, e2, cond_true, cond_false]
      exact v0
/-! ### Uses -/
def uses (o : DOperand) : List Int := if o.1 = 2 then [o.2.2.1, o.2.2.2.1].filter (fun r => decide (0 ≤ r)) else []
theorem uses_len (o) : (uses o).length ≤ 2 := by
  unfold uses
  split
  · exact Nat.le_trans (List.length_filter_le _ _) (by simp)
  · simp
theorem uses_ends (o : DOperand) : Ends (step28 o) (uses o) (tree28 o) := by
  have n1 : iadd .i64 0 1 = 1 := rfl
  have n2 : iadd .i64 1 1 = 2 := rfl
  have l0 : ilt 0 2 = true := rfl
  have l1 : ilt 1 2 = true := rfl
  have l2 : ilt 2 2 = false := rfl
  have r0 : rdc (.int .i64) [o.2.2.1, o.2.2.2.1] 0 = o.2.2.1 := rfl
  have r1 : rdc (.int .i64) [o.2.2.1, o.2.2.2.1] 1 = o.2.2.2.1 := rfl
  unfold tree28
  cases h : ieq o.1 2 with
  | false =>
    have hu : uses o = [] := by unfold uses; rw [if_neg (ieq_no.1 h)]
    rw [hu]
    simp only [ends_need, ends_jump]
    refine ⟨by omega, by omega, ?_⟩
    simp only [step28]
    simp [ends_ite, ends_need, ends_ret, ends_jump, h, l0, n1]
    simp only [step28]
    simp [ends_ite, ends_need, ends_ret, ends_jump, h, l1, n2]
    simp only [step28]
    simp [ends_ite, ends_need, ends_ret, ends_jump, h, l2]
  | true =>
    cases hb : ile 0 o.2.2.1 <;> cases hi : ile 0 o.2.2.2.1
    all_goals
      have hu : uses o = [o.2.2.1, o.2.2.2.1].filter (fun r => ile 0 r) := by unfold uses; rw [if_pos (ieq_iff.1 h)]; rfl
      rw [hu]
      simp only [List.filter, hb, hi]
      simp only [ends_need, ends_jump]
      refine ⟨by omega, by omega, ?_⟩
      simp only [step28]
      simp [ends_ite, ends_need, ends_ret, ends_jump, h, l0, n1, hb, hi, r0, r1]
      simp only [step28]
      simp [ends_ite, ends_need, ends_ret, ends_jump, h, l1, n2, hb, hi, r0, r1]
      simp only [step28]
      simp [ends_ite, ends_need, ends_ret, ends_jump, h, l2, hb, hi, r0, r1]
theorem pre28_ok (o) : pre28 o := ⟨_, uses_ends o⟩
theorem fn28_ok (o) : fn28 o = uses o := endVal_eq (uses_ends o)
/-! ### Contains -/
theorem idx_h0 (x : List Int × Int) (hl : x.1.length ≤ 20) : ∀ (m i : Nat), i + m = x.1.length → ∃ r, Ends (step56 x) r (step56 x (.h0 (x.1.length : Int) i)) := by
  intro m
  induction m with
  | zero =>
    intro i hi
    simp only [step56]
    rw [lt_no (show x.1.length ≤ i by omega)]
    exact ⟨_, .no _ _ .ret⟩
  | succ m ih =>
    intro i hi
    obtain ⟨r, hr⟩ := ih (i + 1) (by omega)
    simp only [step56]
    rw [lt_yes (show i < x.1.length by omega)]
    refine ex_ite (ex_need (by omega) (ex_need (by omega) (ex_ite ex_ret (ex_jump ?_)))) ex_ret
    rw [one_more i (by omega)]
    exact ⟨r, hr⟩
theorem pre56_ok (x : List Int × Int) (hl : x.1.length ≤ 20) : pre56 x := by
  unfold pre56 tree56
  exact ex_jump (idx_h0 x hl x.1.length 0 (by omega))
theorem pre17_ok (n : Int) : pre17 ([26, 27, 28, 29], n) := by
  unfold pre17 tree17
  exact ⟨pre56_ok _ (by simp), trivial⟩
end Go.Eng.RU
end
