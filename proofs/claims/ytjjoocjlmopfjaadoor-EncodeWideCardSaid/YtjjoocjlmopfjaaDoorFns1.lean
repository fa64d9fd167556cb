/- A part of the proof that the laws of this seat hold. Conditions: none beyond the row. -/
import Derived.Test.YtjjoocjlmopfjaaDoorFns0
set_option linter.unusedVariables false
set_option linter.unusedSimpArgs false
set_option linter.unusedSectionVars false
section
/- Functions of this program, written out. -/
namespace Go.Eng.RE
open Go.Proofs Go.Eng
set_option maxRecDepth 100000

/-! ### sundial/encode.find -/
inductive J36 where
  | h0
  | h1 (v43 : (List Int)) (v59 : Int) (v65 : Int) (v68 : (List Int)) (v69 : (List Int)) (v70 : (List Int)) (v71 : (List Int))
  | h2 (v43 : (List Int)) (v62 : (List Int)) (v63 : (List Int)) (v64 : (List Int)) (v86 : (List Int)) (v105 : (List Int)) (v106 : (List Int)) (v107 : (List Int)) (v108 : (List Int)) (v115 : (List Int))
  | h3 (v43 : (List Int)) (v50 : (List Int))
  | h4 (v43 : (List Int)) (v56 : (List Int)) (v57 : (List Int))
  | h5 (v43 : (List Int)) (v47 : Int) (v50 : (List Int))
  | h6 (v43 : (List Int)) (v47 : Int) (v53 : Int) (v56 : (List Int)) (v57 : (List Int))
  | h7 (v43 : (List Int)) (v50 : (List Int))
  | h8 (v43 : (List Int)) (v50 : (List Int))
  | h9 (v43 : (List Int)) (v56 : (List Int)) (v57 : (List Int))
  | h10 (v43 : (List Int)) (v50 : (List Int))
  | h11 (v43 : (List Int)) (v49 : Int) (v50 : (List Int))
  | h12 (v43 : (List Int)) (v50 : (List Int))
  | h13 (v43 : (List Int)) (v56 : (List Int)) (v57 : (List Int))
  | h14 (v43 : (List Int)) (v50 : (List Int))
  | h15 (v43 : (List Int)) (v50 : (List Int))
  | h16 (v43 : (List Int)) (v50 : (List Int))
  | h17
  | h18 (v43 : (List Int)) (v59 : Int) (v65 : Int) (v68 : (List Int)) (v69 : (List Int)) (v70 : (List Int)) (v71 : (List Int))
  | h19 (v43 : (List Int)) (v62 : (List Int)) (v63 : (List Int)) (v64 : (List Int)) (v86 : (List Int)) (v105 : (List Int)) (v106 : (List Int)) (v107 : (List Int)) (v108 : (List Int)) (v115 : (List Int))
  | h20 (v43 : (List Int)) (v56 : (List Int)) (v57 : (List Int))
  | h21 (v43 : (List Int)) (v47 : Int) (v53 : Int) (v56 : (List Int)) (v57 : (List Int))
  | h22 (v43 : (List Int)) (v56 : (List Int)) (v57 : (List Int))
  | h23 (v43 : (List Int)) (v56 : (List Int)) (v57 : (List Int))
  | h24 (v43 : (List Int)) (v59 : Int) (v65 : Int) (v68 : (List Int)) (v69 : (List Int)) (v70 : (List Int)) (v71 : (List Int))
  | h25 (v43 : (List Int)) (v62 : (List Int)) (v63 : (List Int)) (v64 : (List Int)) (v86 : (List Int)) (v105 : (List Int)) (v106 : (List Int)) (v107 : (List Int)) (v108 : (List Int)) (v115 : (List Int))
  | h26 (v43 : (List Int)) (v59 : Int) (v65 : Int) (v68 : (List Int)) (v69 : (List Int)) (v70 : (List Int)) (v71 : (List Int))
  | h27 (v43 : (List Int)) (v62 : (List Int)) (v63 : (List Int)) (v64 : (List Int)) (v86 : (List Int)) (v105 : (List Int)) (v106 : (List Int)) (v107 : (List Int)) (v108 : (List Int)) (v115 : (List Int))
  | h28 (v43 : (List Int)) (v62 : (List Int)) (v63 : (List Int)) (v64 : (List Int)) (v86 : (List Int)) (v105 : (List Int)) (v106 : (List Int)) (v107 : (List Int)) (v108 : (List Int)) (v115 : (List Int))
  | h29 (v43 : (List Int)) (v62 : (List Int)) (v63 : (List Int)) (v64 : (List Int)) (v86 : (List Int)) (v105 : (List Int)) (v106 : (List Int)) (v107 : (List Int)) (v108 : (List Int)) (v115 : (List Int))
  | h30 (v43 : (List Int)) (v50 : (List Int)) (v72 : (List Int)) (v91 : (List Int)) (v92 : (List Int)) (v93 : (List Int)) (v94 : (List Int)) (v113 : (List Int)) (v114 : (List Int)) (v115 : (List Int))
noncomputable def tree36 (x : DInsn) : Tr (J36 ⊕ (((List Int) × (Int × Unit)) × ((Unit × (Unit × ((List Int) × (Int × (Int × Int))))) × Bool))) :=
  .ite ((ieq x.1 29) == false) (
  .ite ((ieq x.1 30) == false) (
  let y0 : Int := x.2.1
  let y1 : Bool := ((ilt 15 y0) == false)
  .ite y1 (
  .ite ((!(ieq x.1 31)) == true) (
  .ite ((ine y0 0) == false) (
  let y2 : Bool := ((ine x.1 39) == true)
  .ite y2 (
  let y3 : Bool := (ine x.2.2.2.2.2.1 0)
  .ite y3 (
  let y4 : (((List Int) × (Int × Unit)) × ((Unit × (Unit × ((List Int) × (Int × (Int × Int))))) × Bool)) := ((([] : List Int), (0, ())), (((), ((), (([] : List Int), (0, (0, 0))))), false))
  .ret (.inr y4)) (
  .ret (.inl (.h0)))) (
  .ret (.inl (.h0)))) (
  let y5 : (((List Int) × (Int × Unit)) × ((Unit × (Unit × ((List Int) × (Int × (Int × Int))))) × Bool)) := ((([] : List Int), (0, ())), (((), ((), (([] : List Int), (0, (0, 0))))), false))
  .ret (.inr y5))) (
  let y6 : Bool := ((ine x.1 39) == true)
  .ite y6 (
  let y7 : Bool := (ine x.2.2.2.2.2.1 0)
  .ite y7 (
  let y8 : (((List Int) × (Int × Unit)) × ((Unit × (Unit × ((List Int) × (Int × (Int × Int))))) × Bool)) := ((([] : List Int), (0, ())), (((), ((), (([] : List Int), (0, (0, 0))))), false))
  .ret (.inr y8)) (
  .ret (.inl (.h0)))) (
  .ret (.inl (.h0))))) (
  let y9 : (((List Int) × (Int × Unit)) × ((Unit × (Unit × ((List Int) × (Int × (Int × Int))))) × Bool)) := ((([] : List Int), (0, ())), (((), ((), (([] : List Int), (0, (0, 0))))), false))
  .ret (.inr y9))) (
  let y10 : Int := x.2.1
  let y11 : Bool := ((ilt 15 y10) == false)
  .ite y11 (
  let y12 : Bool := ((ine x.1 39) == true)
  .ite y12 (
  let y13 : Bool := (ine x.2.2.2.2.2.1 0)
  .ite y13 (
  let y14 : (((List Int) × (Int × Unit)) × ((Unit × (Unit × ((List Int) × (Int × (Int × Int))))) × Bool)) := ((([] : List Int), (0, ())), (((), ((), (([] : List Int), (0, (0, 0))))), false))
  .ret (.inr y14)) (
  .ret (.inl (.h0)))) (
  .ret (.inl (.h0)))) (
  let y15 : (((List Int) × (Int × Unit)) × ((Unit × (Unit × ((List Int) × (Int × (Int × Int))))) × Bool)) := ((([] : List Int), (0, ())), (((), ((), (([] : List Int), (0, (0, 0))))), false))
  .ret (.inr y15)))) (
  let y16 : Int := x.2.1
  let y17 : Bool := ((ilt 15 y16) == false)
  .ite y17 (
  let y18 : Bool := ((ine x.1 39) == true)
  .ite y18 (
  let y19 : Bool := (ine x.2.2.2.2.2.1 0)
  .ite y19 (
  let y20 : (((List Int) × (Int × Unit)) × ((Unit × (Unit × ((List Int) × (Int × (Int × Int))))) × Bool)) := ((([] : List Int), (0, ())), (((), ((), (([] : List Int), (0, (0, 0))))), false))
  .ret (.inr y20)) (
  .ret (.inl (.h0)))) (
  .ret (.inl (.h0)))) (
  let y21 : (((List Int) × (Int × Unit)) × ((Unit × (Unit × ((List Int) × (Int × (Int × Int))))) × Bool)) := ((([] : List Int), (0, ())), (((), ((), (([] : List Int), (0, (0, 0))))), false))
  .ret (.inr y21)))
noncomputable def step36 (x : DInsn) : J36 → Tr (J36 ⊕ (((List Int) × (Int × Unit)) × ((Unit × (Unit × ((List Int) × (Int × (Int × Int))))) × Bool)))
  | .h0 =>
  .need ((0 : Nat) < 8) <|
  .need ((1 : Nat) < 8) <|
  .need ((2 : Nat) < 8) <|
  .need ((3 : Nat) < 8) <|
  .need ((4 : Nat) < 8) <|
  .need ((5 : Nat) < 8) <|
  .need ((6 : Nat) < 8) <|
  .need ((7 : Nat) < 8) <|
  .need (((0 : Nat) + 8 : Nat) ≤ 8) <|
  let y0 : ((List Int) × Int) := ([3, 4, 5, 6, 7, 8, 9, 10], x.1)
  .need (pre117 y0) <|
  let y1 : Int := (fn117 y0)
  .ite (ile 0 y1) (
  .need ((0 : Nat) < 1) <|
  .need ((0 : Nat) < 1) <|
  .need ((0 : Nat) < 1) <|
  .need ((0 : Nat) < 1) <|
  .need ((0 : Nat) < 2) <|
  .need ((1 : Nat) < 2) <|
  .need ((0 : Int) ≤ 0) <|
  .need (0 < (1 : Int)) <|
  .need ((0 : Int) ≤ 0) <|
  .need (0 < (4 : Int)) <|
  .need (((0 : Nat) + 2 : Nat) ≤ 2) <|
  let y2 : (List Int) := [4, 8]
  let y3 : (Int × (DOperand × (DOperand × (Int × Int)))) := x.2.2
  let y4 : Int := y3.1
  let y5 : ((List Int) × Int) := (y2, y4)
  .need (pre99 y5) <|
  let y6 : Bool := ((fn99 y5) == true)
  .ite y6 (
  let y7 : (DOperand × (DOperand × (Int × Int))) := y3.2
  let y8 : DOperand := y7.1
  .need (pre119 y8) <|
  let y9 : Bool := ((fn119 y8) == true)
  .ite y9 (
  let y10 : DOperand := y7.2.1
  .need (pre120 y10) <|
  let y11 : Bool := ((fn120 y10) == true)
  .ite y11 (
  .need (((0 : Nat) + 2 : Nat) ≤ 2) <|
  .need (((0 : Nat) + 1 : Nat) ≤ 1) <|
  let y12 : (Int × Unit) := (0, ())
  let y13 : ((List Int) × (Int × Unit)) := (y2, y12)
  let y14 : Int := (imul .i64 8 y1)
  let y15 : (List Int) := [(iconv .u8 (iadd .i64 y14 1))]
  let y16 : (Int × Int) := (1, 0)
  let y17 : (Int × (Int × Int)) := ((-1), y16)
  .ret (.inr (y13, (((), ((), (y15, y17))), true)))) (
  let y18 : Int := (imul .i64 8 y1)
  let y19 : (List Int) := [(iconv .u8 (iadd .i64 y18 1))]
  let y20 : (List Int) := [(iconv .u8 (iadd .i64 y18 3))]
  .ret (.inl (.h1 y2 y1 y1 y19 y20 [131] [129])))) (
  let y21 : Int := (imul .i64 8 y1)
  let y22 : (List Int) := [(iconv .u8 (iadd .i64 y21 1))]
  let y23 : (List Int) := [(iconv .u8 (iadd .i64 y21 3))]
  .ret (.inl (.h1 y2 y1 y1 y22 y23 [131] [129])))) (
  let y24 : Int := (imul .i64 8 y1)
  let y25 : (List Int) := [(iconv .u8 (iadd .i64 y24 1))]
  let y26 : (List Int) := [(iconv .u8 (iadd .i64 y24 3))]
  .ret (.inl (.h1 y2 y1 y1 y25 y26 [131] [129])))) (
  .ite (ieq x.1 1) (
  .need ((0 : Nat) < 1) <|
  .need ((0 : Nat) < 1) <|
  .need ((0 : Nat) < 1) <|
  .need ((0 : Nat) < 1) <|
  .need ((0 : Nat) < 2) <|
  .need ((1 : Nat) < 2) <|
  .need ((0 : Nat) < 1) <|
  .need ((0 : Nat) < 1) <|
  .need ((0 : Nat) < 1) <|
  .need ((0 : Nat) < 1) <|
  .need ((0 : Nat) < 1) <|
  .need ((0 : Int) ≤ 0) <|
  .need (0 < (3 : Int)) <|
  .need ((0 : Int) ≤ 0) <|
  .need (0 < (3 : Int)) <|
  .need (((0 : Nat) + 1 : Nat) ≤ 1) <|
  let y27 : (Int × (DOperand × (DOperand × (Int × Int)))) := x.2.2
  let y28 : Int := y27.1
  let y29 : ((List Int) × Int) := ([1], y28)
  .need (pre99 y29) <|
  let y30 : Bool := ((fn99 y29) == true)
  .ite y30 (
  let y31 : (DOperand × (DOperand × (Int × Int))) := y27.2
  let y32 : DOperand := y31.1
  .need (pre119 y32) <|
  let y33 : Bool := ((fn119 y32) == true)
  .ite y33 (
  let y34 : DOperand := y31.2.1
  .need (pre120 y34) <|
  let y35 : Bool := ((fn120 y34) == true)
  .ite y35 (
  .need (((0 : Nat) + 1 : Nat) ≤ 1) <|
  .need (((0 : Nat) + 1 : Nat) ≤ 1) <|
  let y36 : (Int × Unit) := (0, ())
  let y37 : ((List Int) × (Int × Unit)) := ([1], y36)
  let y38 : (Int × Int) := (1, 0)
  let y39 : (Int × (Int × Int)) := ((-1), y38)
  .ret (.inr (y37, (((), ((), ([136], y39))), true)))) (
  let y40 : (List Int) := [4, 8]
  .ret (.inl (.h2 [1] [136] [138] [198] y40 [137] [139] [199] [8] [184])))) (
  let y41 : (List Int) := [4, 8]
  .ret (.inl (.h2 [1] [136] [138] [198] y41 [137] [139] [199] [8] [184])))) (
  let y42 : (List Int) := [4, 8]
  .ret (.inl (.h2 [1] [136] [138] [198] y42 [137] [139] [199] [8] [184])))) (
  .ite (ieq x.1 2) (
  .need ((0 : Nat) < 1) <|
  .need ((0 : Nat) < 2) <|
  .need ((1 : Nat) < 2) <|
  .need ((0 : Int) ≤ 0) <|
  .need (0 < (1 : Int)) <|
  .need ((0 : Int) ≤ 0) <|
  .need (0 < (1 : Int)) <|
  .need (((0 : Nat) + 2 : Nat) ≤ 2) <|
  let y43 : (List Int) := [4, 8]
  let y44 : (Int × (DOperand × (DOperand × (Int × Int)))) := x.2.2
  let y45 : Int := y44.1
  let y46 : ((List Int) × Int) := (y43, y45)
  .need (pre99 y46) <|
  let y47 : Bool := ((fn99 y46) == true)
  .ite y47 (
  let y48 : (DOperand × (DOperand × (Int × Int))) := y44.2
  let y49 : DOperand := y48.1
  .need (pre120 y49) <|
  let y50 : Bool := ((fn120 y49) == true)
  .ite y50 (
  let y51 : DOperand := y48.2.1
  .need (pre121 y51) <|
  .ite ((fn121 y51) == true) (
  .need (((0 : Nat) + 2 : Nat) ≤ 2) <|
  .need (((0 : Nat) + 1 : Nat) ≤ 1) <|
  let y52 : (Int × Unit) := (0, ())
  let y53 : ((List Int) × (Int × Unit)) := (y43, y52)
  let y54 : (Int × (Int × Int)) := ((-1), (2, 0))
  .ret (.inr (y53, (((), ((), ([141], y54))), true)))) (
  .ret (.inl (.h3 y43 [141])))) (
  .ret (.inl (.h3 y43 [141])))) (
  .ret (.inl (.h3 y43 [141])))) (
  .ite (ieq x.1 11) (
  .need ((0 : Nat) < 1) <|
  .need ((0 : Nat) < 1) <|
  .need ((0 : Nat) < 2) <|
  .need ((1 : Nat) < 2) <|
  .need ((0 : Int) ≤ 0) <|
  .need (0 < (1 : Int)) <|
  .need ((0 : Int) ≤ 0) <|
  .need (0 < (2 : Int)) <|
  .need (((0 : Nat) + 2 : Nat) ≤ 2) <|
  let y55 : (List Int) := [4, 8]
  let y56 : (Int × (DOperand × (DOperand × (Int × Int)))) := x.2.2
  let y57 : Int := y56.1
  let y58 : ((List Int) × Int) := (y55, y57)
  .need (pre99 y58) <|
  let y59 : Bool := ((fn99 y58) == true)
  .ite y59 (
  let y60 : (DOperand × (DOperand × (Int × Int))) := y56.2
  let y61 : DOperand := y60.1
  .need (pre119 y61) <|
  let y62 : Bool := ((fn119 y61) == true)
  .ite y62 (
  let y63 : DOperand := y60.2.1
  .need (pre120 y63) <|
  let y64 : Bool := ((fn120 y63) == true)
  .ite y64 (
  .need (((0 : Nat) + 2 : Nat) ≤ 2) <|
  .need (((0 : Nat) + 1 : Nat) ≤ 1) <|
  let y65 : (Int × Unit) := (0, ())
  let y66 : ((List Int) × (Int × Unit)) := (y55, y65)
  let y67 : (Int × Int) := (1, 0)
  let y68 : (Int × (Int × Int)) := ((-1), y67)
  .ret (.inr (y66, (((), ((), ([133], y68))), true)))) (
  .ret (.inl (.h4 y55 [133] [247])))) (
  .ret (.inl (.h4 y55 [133] [247])))) (
  .ret (.inl (.h4 y55 [133] [247])))) (
  let y69 : Bool := (ieq x.1 12)
  .ite y69 (
  .need ((0 : Nat) < 1) <|
  .need ((0 : Nat) < 2) <|
  .need ((1 : Nat) < 2) <|
  .need ((0 : Int) ≤ 0) <|
  .need (0 < (1 : Int)) <|
  .need ((0 : Int) ≤ 0) <|
  .need (0 < (1 : Int)) <|
  .need (((0 : Nat) + 2 : Nat) ≤ 2) <|
  let y70 : (List Int) := [4, 8]
  let y71 : (Int × (DOperand × (DOperand × (Int × Int)))) := x.2.2
  let y72 : Int := y71.1
  let y73 : ((List Int) × Int) := (y70, y72)
  .need (pre99 y73) <|
  let y74 : Bool := ((fn99 y73) == true)
  .ite y74 (
  let y75 : (DOperand × (DOperand × (Int × Int))) := y71.2
  let y76 : DOperand := y75.1
  .need (pre119 y76) <|
  let y77 : Bool := ((fn119 y76) == true)
  .ite y77 (
  let y78 : DOperand := y75.2.1
  .need (pre144 y78) <|
  let y79 : Bool := ((fn144 y78) == true)
  .ite y79 (
  .need (((0 : Nat) + 2 : Nat) ≤ 2) <|
  .need (((0 : Nat) + 1 : Nat) ≤ 1) <|
  let y80 : (Int × Unit) := (0, ())
  let y81 : ((List Int) × (Int × Unit)) := (y70, y80)
  let y82 : Bool := (ieq x.1 13)
  let y83 : Bool := (ieq x.1 15)
  let y84 : Bool := (ieq x.1 14)
  let y85 : Bool := (ieq x.1 22)
  let y86 : Bool := (ieq x.1 23)
  let y87 : Bool := (ieq x.1 19)
  let y88 : Bool := (ieq x.1 20)
  let y89 : Bool := (ieq x.1 16)
  let y90 : Bool := (ieq x.1 17)
  let y91 : Bool := (ieq x.1 18)
  let y92 : Int := (cond y69 0 (cond y82 1 (cond y83 2 (cond y84 3 (cond y85 4 (cond y86 6 (cond y87 0 (cond y88 1 (cond y89 4 (cond y90 5 (cond y91 7 0)))))))))))
  let y93 : (Int × Int) := (1, 0)
  let y94 : (Int × (Int × Int)) := (y92, y93)
  let y95 : (((List Int) × (Int × Unit)) × ((Unit × (Unit × ((List Int) × (Int × (Int × Int))))) × Bool)) := (y81, (((), ((), ([255], y94))), true))
  .ret (.inr y95)) (
  let y96 : Bool := (ieq x.1 13)
  let y97 : Bool := (ieq x.1 15)
  let y98 : Bool := (ieq x.1 14)
  let y99 : Bool := (ieq x.1 22)
  let y100 : Bool := (ieq x.1 23)
  let y101 : Bool := (ieq x.1 19)
  let y102 : Bool := (ieq x.1 20)
  let y103 : Bool := (ieq x.1 16)
  let y104 : Bool := (ieq x.1 17)
  let y105 : Bool := (ieq x.1 18)
  let y106 : Int := (cond y69 0 (cond y96 1 (cond y97 2 (cond y98 3 (cond y99 4 (cond y100 6 (cond y101 0 (cond y102 1 (cond y103 4 (cond y104 5 (cond y105 7 0)))))))))))
  .ret (.inl (.h5 y70 y106 [255])))) (
  let y107 : Bool := (ieq x.1 13)
  let y108 : Bool := (ieq x.1 15)
  let y109 : Bool := (ieq x.1 14)
  let y110 : Bool := (ieq x.1 22)
  let y111 : Bool := (ieq x.1 23)
  let y112 : Bool := (ieq x.1 19)
  let y113 : Bool := (ieq x.1 20)
  let y114 : Bool := (ieq x.1 16)
  let y115 : Bool := (ieq x.1 17)
  let y116 : Bool := (ieq x.1 18)
  let y117 : Int := (cond y69 0 (cond y107 1 (cond y108 2 (cond y109 3 (cond y110 4 (cond y111 6 (cond y112 0 (cond y113 1 (cond y114 4 (cond y115 5 (cond y116 7 0)))))))))))
  .ret (.inl (.h5 y70 y117 [255])))) (
  let y118 : Bool := (ieq x.1 13)
  let y119 : Bool := (ieq x.1 15)
  let y120 : Bool := (ieq x.1 14)
  let y121 : Bool := (ieq x.1 22)
  let y122 : Bool := (ieq x.1 23)
  let y123 : Bool := (ieq x.1 19)
  let y124 : Bool := (ieq x.1 20)
  let y125 : Bool := (ieq x.1 16)
  let y126 : Bool := (ieq x.1 17)
  let y127 : Bool := (ieq x.1 18)
  let y128 : Int := (cond y69 0 (cond y118 1 (cond y119 2 (cond y120 3 (cond y121 4 (cond y122 6 (cond y123 0 (cond y124 1 (cond y125 4 (cond y126 5 (cond y127 7 0)))))))))))
  .ret (.inl (.h5 y70 y128 [255])))) (
  let y129 : Bool := (ieq x.1 13)
  .ite y129 (
  .need ((0 : Nat) < 1) <|
  .need ((0 : Nat) < 2) <|
  .need ((1 : Nat) < 2) <|
  .need ((0 : Int) ≤ 0) <|
  .need (0 < (1 : Int)) <|
  .need ((0 : Int) ≤ 0) <|
  .need (0 < (1 : Int)) <|
  .need (((0 : Nat) + 2 : Nat) ≤ 2) <|
  let y130 : (List Int) := [4, 8]
  let y131 : (Int × (DOperand × (DOperand × (Int × Int)))) := x.2.2
  let y132 : Int := y131.1
  let y133 : ((List Int) × Int) := (y130, y132)
  .need (pre99 y133) <|
  let y134 : Bool := ((fn99 y133) == true)
  .ite y134 (
  let y135 : (DOperand × (DOperand × (Int × Int))) := y131.2
  let y136 : DOperand := y135.1
  .need (pre119 y136) <|
  let y137 : Bool := ((fn119 y136) == true)
  .ite y137 (
  let y138 : DOperand := y135.2.1
  .need (pre144 y138) <|
  let y139 : Bool := ((fn144 y138) == true)
  .ite y139 (
  .need (((0 : Nat) + 2 : Nat) ≤ 2) <|
  .need (((0 : Nat) + 1 : Nat) ≤ 1) <|
  let y140 : (Int × Unit) := (0, ())
  let y141 : ((List Int) × (Int × Unit)) := (y130, y140)
  let y142 : Bool := (ieq x.1 15)
  let y143 : Bool := (ieq x.1 14)
  let y144 : Bool := (ieq x.1 22)
  let y145 : Bool := (ieq x.1 23)
  let y146 : Bool := (ieq x.1 19)
  let y147 : Bool := (ieq x.1 20)
  let y148 : Bool := (ieq x.1 16)
  let y149 : Bool := (ieq x.1 17)
  let y150 : Bool := (ieq x.1 18)
  let y151 : Int := (cond y69 0 (cond y129 1 (cond y142 2 (cond y143 3 (cond y144 4 (cond y145 6 (cond y146 0 (cond y147 1 (cond y148 4 (cond y149 5 (cond y150 7 0)))))))))))
  let y152 : (Int × Int) := (1, 0)
  let y153 : (Int × (Int × Int)) := (y151, y152)
  let y154 : (((List Int) × (Int × Unit)) × ((Unit × (Unit × ((List Int) × (Int × (Int × Int))))) × Bool)) := (y141, (((), ((), ([255], y153))), true))
  .ret (.inr y154)) (
  let y155 : Bool := (ieq x.1 15)
  let y156 : Bool := (ieq x.1 14)
  let y157 : Bool := (ieq x.1 22)
  let y158 : Bool := (ieq x.1 23)
  let y159 : Bool := (ieq x.1 19)
  let y160 : Bool := (ieq x.1 20)
  let y161 : Bool := (ieq x.1 16)
  let y162 : Bool := (ieq x.1 17)
  let y163 : Bool := (ieq x.1 18)
  let y164 : Int := (cond y69 0 (cond y129 1 (cond y155 2 (cond y156 3 (cond y157 4 (cond y158 6 (cond y159 0 (cond y160 1 (cond y161 4 (cond y162 5 (cond y163 7 0)))))))))))
  .ret (.inl (.h5 y130 y164 [255])))) (
  let y165 : Bool := (ieq x.1 15)
  let y166 : Bool := (ieq x.1 14)
  let y167 : Bool := (ieq x.1 22)
  let y168 : Bool := (ieq x.1 23)
  let y169 : Bool := (ieq x.1 19)
  let y170 : Bool := (ieq x.1 20)
  let y171 : Bool := (ieq x.1 16)
  let y172 : Bool := (ieq x.1 17)
  let y173 : Bool := (ieq x.1 18)
  let y174 : Int := (cond y69 0 (cond y129 1 (cond y165 2 (cond y166 3 (cond y167 4 (cond y168 6 (cond y169 0 (cond y170 1 (cond y171 4 (cond y172 5 (cond y173 7 0)))))))))))
  .ret (.inl (.h5 y130 y174 [255])))) (
  let y175 : Bool := (ieq x.1 15)
  let y176 : Bool := (ieq x.1 14)
  let y177 : Bool := (ieq x.1 22)
  let y178 : Bool := (ieq x.1 23)
  let y179 : Bool := (ieq x.1 19)
  let y180 : Bool := (ieq x.1 20)
  let y181 : Bool := (ieq x.1 16)
  let y182 : Bool := (ieq x.1 17)
  let y183 : Bool := (ieq x.1 18)
  let y184 : Int := (cond y69 0 (cond y129 1 (cond y175 2 (cond y176 3 (cond y177 4 (cond y178 6 (cond y179 0 (cond y180 1 (cond y181 4 (cond y182 5 (cond y183 7 0)))))))))))
  .ret (.inl (.h5 y130 y184 [255])))) (
  let y185 : Bool := (ieq x.1 15)
  .ite y185 (
  .need ((0 : Nat) < 1) <|
  .need ((0 : Nat) < 2) <|
  .need ((1 : Nat) < 2) <|
  .need ((0 : Int) ≤ 0) <|
  .need (0 < (1 : Int)) <|
  .need ((0 : Int) ≤ 0) <|
  .need (0 < (1 : Int)) <|
  .need (((0 : Nat) + 2 : Nat) ≤ 2) <|
  let y186 : (List Int) := [4, 8]
  let y187 : (Int × (DOperand × (DOperand × (Int × Int)))) := x.2.2
  let y188 : Int := y187.1
  let y189 : ((List Int) × Int) := (y186, y188)
  .need (pre99 y189) <|
  let y190 : Bool := ((fn99 y189) == true)
  .ite y190 (
  let y191 : (DOperand × (DOperand × (Int × Int))) := y187.2
  let y192 : DOperand := y191.1
  .need (pre119 y192) <|
  let y193 : Bool := ((fn119 y192) == true)
  .ite y193 (
  let y194 : DOperand := y191.2.1
  .need (pre144 y194) <|
  let y195 : Bool := ((fn144 y194) == true)
  .ite y195 (
  .need (((0 : Nat) + 2 : Nat) ≤ 2) <|
  .need (((0 : Nat) + 1 : Nat) ≤ 1) <|
  let y196 : (Int × Unit) := (0, ())
  let y197 : ((List Int) × (Int × Unit)) := (y186, y196)
  let y198 : Bool := (ieq x.1 14)
  let y199 : Bool := (ieq x.1 22)
  let y200 : Bool := (ieq x.1 23)
  let y201 : Bool := (ieq x.1 19)
  let y202 : Bool := (ieq x.1 20)
  let y203 : Bool := (ieq x.1 16)
  let y204 : Bool := (ieq x.1 17)
  let y205 : Bool := (ieq x.1 18)
  let y206 : Int := (cond y69 0 (cond y129 1 (cond y185 2 (cond y198 3 (cond y199 4 (cond y200 6 (cond y201 0 (cond y202 1 (cond y203 4 (cond y204 5 (cond y205 7 0)))))))))))
  let y207 : (Int × Int) := (1, 0)
  let y208 : (Int × (Int × Int)) := (y206, y207)
  let y209 : (((List Int) × (Int × Unit)) × ((Unit × (Unit × ((List Int) × (Int × (Int × Int))))) × Bool)) := (y197, (((), ((), ([247], y208))), true))
  .ret (.inr y209)) (
  let y210 : Bool := (ieq x.1 14)
  let y211 : Bool := (ieq x.1 22)
  let y212 : Bool := (ieq x.1 23)
  let y213 : Bool := (ieq x.1 19)
  let y214 : Bool := (ieq x.1 20)
  let y215 : Bool := (ieq x.1 16)
  let y216 : Bool := (ieq x.1 17)
  let y217 : Bool := (ieq x.1 18)
  let y218 : Int := (cond y69 0 (cond y129 1 (cond y185 2 (cond y210 3 (cond y211 4 (cond y212 6 (cond y213 0 (cond y214 1 (cond y215 4 (cond y216 5 (cond y217 7 0)))))))))))
  .ret (.inl (.h5 y186 y218 [247])))) (
  let y219 : Bool := (ieq x.1 14)
  let y220 : Bool := (ieq x.1 22)
  let y221 : Bool := (ieq x.1 23)
  let y222 : Bool := (ieq x.1 19)
  let y223 : Bool := (ieq x.1 20)
  let y224 : Bool := (ieq x.1 16)
  let y225 : Bool := (ieq x.1 17)
  let y226 : Bool := (ieq x.1 18)
  let y227 : Int := (cond y69 0 (cond y129 1 (cond y185 2 (cond y219 3 (cond y220 4 (cond y221 6 (cond y222 0 (cond y223 1 (cond y224 4 (cond y225 5 (cond y226 7 0)))))))))))
  .ret (.inl (.h5 y186 y227 [247])))) (
  let y228 : Bool := (ieq x.1 14)
  let y229 : Bool := (ieq x.1 22)
  let y230 : Bool := (ieq x.1 23)
  let y231 : Bool := (ieq x.1 19)
  let y232 : Bool := (ieq x.1 20)
  let y233 : Bool := (ieq x.1 16)
  let y234 : Bool := (ieq x.1 17)
  let y235 : Bool := (ieq x.1 18)
  let y236 : Int := (cond y69 0 (cond y129 1 (cond y185 2 (cond y228 3 (cond y229 4 (cond y230 6 (cond y231 0 (cond y232 1 (cond y233 4 (cond y234 5 (cond y235 7 0)))))))))))
  .ret (.inl (.h5 y186 y236 [247])))) (
  let y237 : Bool := (ieq x.1 14)
  .ite y237 (
  .need ((0 : Nat) < 1) <|
  .need ((0 : Nat) < 2) <|
  .need ((1 : Nat) < 2) <|
  .need ((0 : Int) ≤ 0) <|
  .need (0 < (1 : Int)) <|
  .need ((0 : Int) ≤ 0) <|
  .need (0 < (1 : Int)) <|
  .need (((0 : Nat) + 2 : Nat) ≤ 2) <|
  let y238 : (List Int) := [4, 8]
  let y239 : (Int × (DOperand × (DOperand × (Int × Int)))) := x.2.2
  let y240 : Int := y239.1
  let y241 : ((List Int) × Int) := (y238, y240)
  .need (pre99 y241) <|
  let y242 : Bool := ((fn99 y241) == true)
  .ite y242 (
  let y243 : (DOperand × (DOperand × (Int × Int))) := y239.2
  let y244 : DOperand := y243.1
  .need (pre119 y244) <|
  let y245 : Bool := ((fn119 y244) == true)
  .ite y245 (
  let y246 : DOperand := y243.2.1
  .need (pre144 y246) <|
  let y247 : Bool := ((fn144 y246) == true)
  .ite y247 (
  .need (((0 : Nat) + 2 : Nat) ≤ 2) <|
  .need (((0 : Nat) + 1 : Nat) ≤ 1) <|
  let y248 : (Int × Unit) := (0, ())
  let y249 : ((List Int) × (Int × Unit)) := (y238, y248)
  let y250 : Bool := (ieq x.1 22)
  let y251 : Bool := (ieq x.1 23)
  let y252 : Bool := (ieq x.1 19)
  let y253 : Bool := (ieq x.1 20)
  let y254 : Bool := (ieq x.1 16)
  let y255 : Bool := (ieq x.1 17)
  let y256 : Bool := (ieq x.1 18)
  let y257 : Int := (cond y69 0 (cond y129 1 (cond y185 2 (cond y237 3 (cond y250 4 (cond y251 6 (cond y252 0 (cond y253 1 (cond y254 4 (cond y255 5 (cond y256 7 0)))))))))))
  let y258 : (Int × Int) := (1, 0)
  let y259 : (Int × (Int × Int)) := (y257, y258)
  let y260 : (((List Int) × (Int × Unit)) × ((Unit × (Unit × ((List Int) × (Int × (Int × Int))))) × Bool)) := (y249, (((), ((), ([247], y259))), true))
  .ret (.inr y260)) (
  let y261 : Bool := (ieq x.1 22)
  let y262 : Bool := (ieq x.1 23)
  let y263 : Bool := (ieq x.1 19)
  let y264 : Bool := (ieq x.1 20)
  let y265 : Bool := (ieq x.1 16)
  let y266 : Bool := (ieq x.1 17)
  let y267 : Bool := (ieq x.1 18)
  let y268 : Int := (cond y69 0 (cond y129 1 (cond y185 2 (cond y237 3 (cond y261 4 (cond y262 6 (cond y263 0 (cond y264 1 (cond y265 4 (cond y266 5 (cond y267 7 0)))))))))))
  .ret (.inl (.h5 y238 y268 [247])))) (
  let y269 : Bool := (ieq x.1 22)
  let y270 : Bool := (ieq x.1 23)
  let y271 : Bool := (ieq x.1 19)
  let y272 : Bool := (ieq x.1 20)
  let y273 : Bool := (ieq x.1 16)
  let y274 : Bool := (ieq x.1 17)
  let y275 : Bool := (ieq x.1 18)
  let y276 : Int := (cond y69 0 (cond y129 1 (cond y185 2 (cond y237 3 (cond y269 4 (cond y270 6 (cond y271 0 (cond y272 1 (cond y273 4 (cond y274 5 (cond y275 7 0)))))))))))
  .ret (.inl (.h5 y238 y276 [247])))) (
  let y277 : Bool := (ieq x.1 22)
  let y278 : Bool := (ieq x.1 23)
  let y279 : Bool := (ieq x.1 19)
  let y280 : Bool := (ieq x.1 20)
  let y281 : Bool := (ieq x.1 16)
  let y282 : Bool := (ieq x.1 17)
  let y283 : Bool := (ieq x.1 18)
  let y284 : Int := (cond y69 0 (cond y129 1 (cond y185 2 (cond y237 3 (cond y277 4 (cond y278 6 (cond y279 0 (cond y280 1 (cond y281 4 (cond y282 5 (cond y283 7 0)))))))))))
  .ret (.inl (.h5 y238 y284 [247])))) (
  let y285 : Bool := (ieq x.1 22)
  .ite y285 (
  .need ((0 : Nat) < 1) <|
  .need ((0 : Nat) < 2) <|
  .need ((1 : Nat) < 2) <|
  .need ((0 : Int) ≤ 0) <|
  .need (0 < (1 : Int)) <|
  .need ((0 : Int) ≤ 0) <|
  .need (0 < (1 : Int)) <|
  .need (((0 : Nat) + 2 : Nat) ≤ 2) <|
  let y286 : (List Int) := [4, 8]
  let y287 : (Int × (DOperand × (DOperand × (Int × Int)))) := x.2.2
  let y288 : Int := y287.1
  let y289 : ((List Int) × Int) := (y286, y288)
  .need (pre99 y289) <|
  let y290 : Bool := ((fn99 y289) == true)
  .ite y290 (
  let y291 : (DOperand × (DOperand × (Int × Int))) := y287.2
  let y292 : DOperand := y291.1
  .need (pre119 y292) <|
  let y293 : Bool := ((fn119 y292) == true)
  .ite y293 (
  let y294 : DOperand := y291.2.1
  .need (pre144 y294) <|
  let y295 : Bool := ((fn144 y294) == true)
  .ite y295 (
  .need (((0 : Nat) + 2 : Nat) ≤ 2) <|
  .need (((0 : Nat) + 1 : Nat) ≤ 1) <|
  let y296 : (Int × Unit) := (0, ())
  let y297 : ((List Int) × (Int × Unit)) := (y286, y296)
  let y298 : Bool := (ieq x.1 23)
  let y299 : Bool := (ieq x.1 19)
  let y300 : Bool := (ieq x.1 20)
  let y301 : Bool := (ieq x.1 16)
  let y302 : Bool := (ieq x.1 17)
  let y303 : Bool := (ieq x.1 18)
  let y304 : Int := (cond y69 0 (cond y129 1 (cond y185 2 (cond y237 3 (cond y285 4 (cond y298 6 (cond y299 0 (cond y300 1 (cond y301 4 (cond y302 5 (cond y303 7 0)))))))))))
  let y305 : (Int × Int) := (1, 0)
  let y306 : (Int × (Int × Int)) := (y304, y305)
  let y307 : (((List Int) × (Int × Unit)) × ((Unit × (Unit × ((List Int) × (Int × (Int × Int))))) × Bool)) := (y297, (((), ((), ([247], y306))), true))
  .ret (.inr y307)) (
  let y308 : Bool := (ieq x.1 23)
  let y309 : Bool := (ieq x.1 19)
  let y310 : Bool := (ieq x.1 20)
  let y311 : Bool := (ieq x.1 16)
  let y312 : Bool := (ieq x.1 17)
  let y313 : Bool := (ieq x.1 18)
  let y314 : Int := (cond y69 0 (cond y129 1 (cond y185 2 (cond y237 3 (cond y285 4 (cond y308 6 (cond y309 0 (cond y310 1 (cond y311 4 (cond y312 5 (cond y313 7 0)))))))))))
  .ret (.inl (.h5 y286 y314 [247])))) (
  let y315 : Bool := (ieq x.1 23)
  let y316 : Bool := (ieq x.1 19)
  let y317 : Bool := (ieq x.1 20)
  let y318 : Bool := (ieq x.1 16)
  let y319 : Bool := (ieq x.1 17)
  let y320 : Bool := (ieq x.1 18)
  let y321 : Int := (cond y69 0 (cond y129 1 (cond y185 2 (cond y237 3 (cond y285 4 (cond y315 6 (cond y316 0 (cond y317 1 (cond y318 4 (cond y319 5 (cond y320 7 0)))))))))))
  .ret (.inl (.h5 y286 y321 [247])))) (
  let y322 : Bool := (ieq x.1 23)
  let y323 : Bool := (ieq x.1 19)
  let y324 : Bool := (ieq x.1 20)
  let y325 : Bool := (ieq x.1 16)
  let y326 : Bool := (ieq x.1 17)
  let y327 : Bool := (ieq x.1 18)
  let y328 : Int := (cond y69 0 (cond y129 1 (cond y185 2 (cond y237 3 (cond y285 4 (cond y322 6 (cond y323 0 (cond y324 1 (cond y325 4 (cond y326 5 (cond y327 7 0)))))))))))
  .ret (.inl (.h5 y286 y328 [247])))) (
  let y329 : Bool := (ieq x.1 23)
  .ite y329 (
  .need ((0 : Nat) < 1) <|
  .need ((0 : Nat) < 2) <|
  .need ((1 : Nat) < 2) <|
  .need ((0 : Int) ≤ 0) <|
  .need (0 < (1 : Int)) <|
  .need ((0 : Int) ≤ 0) <|
  .need (0 < (1 : Int)) <|
  .need (((0 : Nat) + 2 : Nat) ≤ 2) <|
  let y330 : (List Int) := [4, 8]
  let y331 : (Int × (DOperand × (DOperand × (Int × Int)))) := x.2.2
  let y332 : Int := y331.1
  let y333 : ((List Int) × Int) := (y330, y332)
  .need (pre99 y333) <|
  let y334 : Bool := ((fn99 y333) == true)
  .ite y334 (
  let y335 : (DOperand × (DOperand × (Int × Int))) := y331.2
  let y336 : DOperand := y335.1
  .need (pre119 y336) <|
  let y337 : Bool := ((fn119 y336) == true)
  .ite y337 (
  let y338 : DOperand := y335.2.1
  .need (pre144 y338) <|
  let y339 : Bool := ((fn144 y338) == true)
  .ite y339 (
  .need (((0 : Nat) + 2 : Nat) ≤ 2) <|
  .need (((0 : Nat) + 1 : Nat) ≤ 1) <|
  let y340 : (Int × Unit) := (0, ())
  let y341 : ((List Int) × (Int × Unit)) := (y330, y340)
  let y342 : Bool := (ieq x.1 19)
  let y343 : Bool := (ieq x.1 20)
  let y344 : Bool := (ieq x.1 16)
  let y345 : Bool := (ieq x.1 17)
  let y346 : Bool := (ieq x.1 18)
  let y347 : Int := (cond y69 0 (cond y129 1 (cond y185 2 (cond y237 3 (cond y285 4 (cond y329 6 (cond y342 0 (cond y343 1 (cond y344 4 (cond y345 5 (cond y346 7 0)))))))))))
  let y348 : (Int × Int) := (1, 0)
  let y349 : (Int × (Int × Int)) := (y347, y348)
  let y350 : (((List Int) × (Int × Unit)) × ((Unit × (Unit × ((List Int) × (Int × (Int × Int))))) × Bool)) := (y341, (((), ((), ([247], y349))), true))
  .ret (.inr y350)) (
  let y351 : Bool := (ieq x.1 19)
  let y352 : Bool := (ieq x.1 20)
  let y353 : Bool := (ieq x.1 16)
  let y354 : Bool := (ieq x.1 17)
  let y355 : Bool := (ieq x.1 18)
  let y356 : Int := (cond y69 0 (cond y129 1 (cond y185 2 (cond y237 3 (cond y285 4 (cond y329 6 (cond y351 0 (cond y352 1 (cond y353 4 (cond y354 5 (cond y355 7 0)))))))))))
  .ret (.inl (.h5 y330 y356 [247])))) (
  let y357 : Bool := (ieq x.1 19)
  let y358 : Bool := (ieq x.1 20)
  let y359 : Bool := (ieq x.1 16)
  let y360 : Bool := (ieq x.1 17)
  let y361 : Bool := (ieq x.1 18)
  let y362 : Int := (cond y69 0 (cond y129 1 (cond y185 2 (cond y237 3 (cond y285 4 (cond y329 6 (cond y357 0 (cond y358 1 (cond y359 4 (cond y360 5 (cond y361 7 0)))))))))))
  .ret (.inl (.h5 y330 y362 [247])))) (
  let y363 : Bool := (ieq x.1 19)
  let y364 : Bool := (ieq x.1 20)
  let y365 : Bool := (ieq x.1 16)
  let y366 : Bool := (ieq x.1 17)
  let y367 : Bool := (ieq x.1 18)
  let y368 : Int := (cond y69 0 (cond y129 1 (cond y185 2 (cond y237 3 (cond y285 4 (cond y329 6 (cond y363 0 (cond y364 1 (cond y365 4 (cond y366 5 (cond y367 7 0)))))))))))
  .ret (.inl (.h5 y330 y368 [247])))) (
  let y369 : Bool := (ieq x.1 19)
  .ite y369 (
  .need ((0 : Nat) < 1) <|
  .need ((0 : Nat) < 1) <|
  .need ((0 : Nat) < 2) <|
  .need ((1 : Nat) < 2) <|
  .need ((0 : Int) ≤ 0) <|
  .need (0 < (1 : Int)) <|
  .need ((0 : Int) ≤ 0) <|
  .need (0 < (2 : Int)) <|
  .need (((0 : Nat) + 2 : Nat) ≤ 2) <|
  let y370 : (List Int) := [4, 8]
  let y371 : (Int × (DOperand × (DOperand × (Int × Int)))) := x.2.2
  let y372 : Int := y371.1
  let y373 : ((List Int) × Int) := (y370, y372)
  .need (pre99 y373) <|
  let y374 : Bool := ((fn99 y373) == true)
  .ite y374 (
  let y375 : (DOperand × (DOperand × (Int × Int))) := y371.2
  let y376 : DOperand := y375.1
  .need (pre119 y376) <|
  let y377 : Bool := ((fn119 y376) == true)
  .ite y377 (
  let y378 : DOperand := y375.2.1
  .need (pre129 y378) <|
  let y379 : Bool := ((fn129 y378) == true)
  .ite y379 (
  .need (((0 : Nat) + 2 : Nat) ≤ 2) <|
  .need (((0 : Nat) + 1 : Nat) ≤ 1) <|
  let y380 : (Int × Unit) := (0, ())
  let y381 : ((List Int) × (Int × Unit)) := (y370, y380)
  let y382 : Bool := (ieq x.1 20)
  let y383 : Bool := (ieq x.1 16)
  let y384 : Bool := (ieq x.1 17)
  let y385 : Bool := (ieq x.1 18)
  let y386 : Int := (cond y69 0 (cond y129 1 (cond y185 2 (cond y237 3 (cond y285 4 (cond y329 6 (cond y369 0 (cond y382 1 (cond y383 4 (cond y384 5 (cond y385 7 0)))))))))))
  let y387 : (((List Int) × (Int × Unit)) × ((Unit × (Unit × ((List Int) × (Int × (Int × Int))))) × Bool)) := (y381, (((), ((), ([193], (y386, (1, 1))))), true))
  .ret (.inr y387)) (
  let y388 : Bool := (ieq x.1 20)
  let y389 : Bool := (ieq x.1 16)
  let y390 : Bool := (ieq x.1 17)
  let y391 : Bool := (ieq x.1 18)
  let y392 : Int := (cond y69 0 (cond y129 1 (cond y185 2 (cond y237 3 (cond y285 4 (cond y329 6 (cond y369 0 (cond y388 1 (cond y389 4 (cond y390 5 (cond y391 7 0)))))))))))
  .ret (.inl (.h6 y370 y392 y392 [193] [211])))) (
  let y393 : Bool := (ieq x.1 20)
  let y394 : Bool := (ieq x.1 16)
  let y395 : Bool := (ieq x.1 17)
  let y396 : Bool := (ieq x.1 18)
  let y397 : Int := (cond y69 0 (cond y129 1 (cond y185 2 (cond y237 3 (cond y285 4 (cond y329 6 (cond y369 0 (cond y393 1 (cond y394 4 (cond y395 5 (cond y396 7 0)))))))))))
  .ret (.inl (.h6 y370 y397 y397 [193] [211])))) (
  let y398 : Bool := (ieq x.1 20)
  let y399 : Bool := (ieq x.1 16)
  let y400 : Bool := (ieq x.1 17)
  let y401 : Bool := (ieq x.1 18)
  let y402 : Int := (cond y69 0 (cond y129 1 (cond y185 2 (cond y237 3 (cond y285 4 (cond y329 6 (cond y369 0 (cond y398 1 (cond y399 4 (cond y400 5 (cond y401 7 0)))))))))))
  .ret (.inl (.h6 y370 y402 y402 [193] [211])))) (
  let y403 : Bool := (ieq x.1 20)
  .ite y403 (
  .need ((0 : Nat) < 1) <|
  .need ((0 : Nat) < 1) <|
  .need ((0 : Nat) < 2) <|
  .need ((1 : Nat) < 2) <|
  .need ((0 : Int) ≤ 0) <|
  .need (0 < (1 : Int)) <|
  .need ((0 : Int) ≤ 0) <|
  .need (0 < (2 : Int)) <|
  .need (((0 : Nat) + 2 : Nat) ≤ 2) <|
  let y404 : (List Int) := [4, 8]
  let y405 : (Int × (DOperand × (DOperand × (Int × Int)))) := x.2.2
  let y406 : Int := y405.1
  let y407 : ((List Int) × Int) := (y404, y406)
  .need (pre99 y407) <|
  let y408 : Bool := ((fn99 y407) == true)
  .ite y408 (
  let y409 : (DOperand × (DOperand × (Int × Int))) := y405.2
  let y410 : DOperand := y409.1
  .need (pre119 y410) <|
  let y411 : Bool := ((fn119 y410) == true)
  .ite y411 (
  let y412 : DOperand := y409.2.1
  .need (pre129 y412) <|
  let y413 : Bool := ((fn129 y412) == true)
  .ite y413 (
  .need (((0 : Nat) + 2 : Nat) ≤ 2) <|
  .need (((0 : Nat) + 1 : Nat) ≤ 1) <|
  let y414 : (Int × Unit) := (0, ())
  let y415 : ((List Int) × (Int × Unit)) := (y404, y414)
  let y416 : Bool := (ieq x.1 16)
  let y417 : Bool := (ieq x.1 17)
  let y418 : Bool := (ieq x.1 18)
  let y419 : Int := (cond y69 0 (cond y129 1 (cond y185 2 (cond y237 3 (cond y285 4 (cond y329 6 (cond y369 0 (cond y403 1 (cond y416 4 (cond y417 5 (cond y418 7 0)))))))))))
  let y420 : (((List Int) × (Int × Unit)) × ((Unit × (Unit × ((List Int) × (Int × (Int × Int))))) × Bool)) := (y415, (((), ((), ([193], (y419, (1, 1))))), true))
  .ret (.inr y420)) (
  let y421 : Bool := (ieq x.1 16)
  let y422 : Bool := (ieq x.1 17)
  let y423 : Bool := (ieq x.1 18)
  let y424 : Int := (cond y69 0 (cond y129 1 (cond y185 2 (cond y237 3 (cond y285 4 (cond y329 6 (cond y369 0 (cond y403 1 (cond y421 4 (cond y422 5 (cond y423 7 0)))))))))))
  .ret (.inl (.h6 y404 y424 y424 [193] [211])))) (
  let y425 : Bool := (ieq x.1 16)
  let y426 : Bool := (ieq x.1 17)
  let y427 : Bool := (ieq x.1 18)
  let y428 : Int := (cond y69 0 (cond y129 1 (cond y185 2 (cond y237 3 (cond y285 4 (cond y329 6 (cond y369 0 (cond y403 1 (cond y425 4 (cond y426 5 (cond y427 7 0)))))))))))
  .ret (.inl (.h6 y404 y428 y428 [193] [211])))) (
  let y429 : Bool := (ieq x.1 16)
  let y430 : Bool := (ieq x.1 17)
  let y431 : Bool := (ieq x.1 18)
  let y432 : Int := (cond y69 0 (cond y129 1 (cond y185 2 (cond y237 3 (cond y285 4 (cond y329 6 (cond y369 0 (cond y403 1 (cond y429 4 (cond y430 5 (cond y431 7 0)))))))))))
  .ret (.inl (.h6 y404 y432 y432 [193] [211])))) (
  let y433 : Bool := (ieq x.1 16)
  .ite y433 (
  .need ((0 : Nat) < 1) <|
  .need ((0 : Nat) < 1) <|
  .need ((0 : Nat) < 2) <|
  .need ((1 : Nat) < 2) <|
  .need ((0 : Int) ≤ 0) <|
  .need (0 < (1 : Int)) <|
  .need ((0 : Int) ≤ 0) <|
  .need (0 < (2 : Int)) <|
  .need (((0 : Nat) + 2 : Nat) ≤ 2) <|
  let y434 : (List Int) := [4, 8]
  let y435 : (Int × (DOperand × (DOperand × (Int × Int)))) := x.2.2
  let y436 : Int := y435.1
  let y437 : ((List Int) × Int) := (y434, y436)
  .need (pre99 y437) <|
  let y438 : Bool := ((fn99 y437) == true)
  .ite y438 (
  let y439 : (DOperand × (DOperand × (Int × Int))) := y435.2
  let y440 : DOperand := y439.1
  .need (pre119 y440) <|
  let y441 : Bool := ((fn119 y440) == true)
  .ite y441 (
  let y442 : DOperand := y439.2.1
  .need (pre129 y442) <|
  let y443 : Bool := ((fn129 y442) == true)
  .ite y443 (
  .need (((0 : Nat) + 2 : Nat) ≤ 2) <|
  .need (((0 : Nat) + 1 : Nat) ≤ 1) <|
  let y444 : (Int × Unit) := (0, ())
  let y445 : ((List Int) × (Int × Unit)) := (y434, y444)
  let y446 : Bool := (ieq x.1 17)
  let y447 : Bool := (ieq x.1 18)
  let y448 : Int := (cond y69 0 (cond y129 1 (cond y185 2 (cond y237 3 (cond y285 4 (cond y329 6 (cond y369 0 (cond y403 1 (cond y433 4 (cond y446 5 (cond y447 7 0)))))))))))
  let y449 : (((List Int) × (Int × Unit)) × ((Unit × (Unit × ((List Int) × (Int × (Int × Int))))) × Bool)) := (y445, (((), ((), ([193], (y448, (1, 1))))), true))
  .ret (.inr y449)) (
  let y450 : Bool := (ieq x.1 17)
  let y451 : Bool := (ieq x.1 18)
  let y452 : Int := (cond y69 0 (cond y129 1 (cond y185 2 (cond y237 3 (cond y285 4 (cond y329 6 (cond y369 0 (cond y403 1 (cond y433 4 (cond y450 5 (cond y451 7 0)))))))))))
  .ret (.inl (.h6 y434 y452 y452 [193] [211])))) (
  let y453 : Bool := (ieq x.1 17)
  let y454 : Bool := (ieq x.1 18)
  let y455 : Int := (cond y69 0 (cond y129 1 (cond y185 2 (cond y237 3 (cond y285 4 (cond y329 6 (cond y369 0 (cond y403 1 (cond y433 4 (cond y453 5 (cond y454 7 0)))))))))))
  .ret (.inl (.h6 y434 y455 y455 [193] [211])))) (
  let y456 : Bool := (ieq x.1 17)
  let y457 : Bool := (ieq x.1 18)
  let y458 : Int := (cond y69 0 (cond y129 1 (cond y185 2 (cond y237 3 (cond y285 4 (cond y329 6 (cond y369 0 (cond y403 1 (cond y433 4 (cond y456 5 (cond y457 7 0)))))))))))
  .ret (.inl (.h6 y434 y458 y458 [193] [211])))) (
  let y459 : Bool := (ieq x.1 17)
  .ite y459 (
  .need ((0 : Nat) < 1) <|
  .need ((0 : Nat) < 1) <|
  .need ((0 : Nat) < 2) <|
  .need ((1 : Nat) < 2) <|
  .need ((0 : Int) ≤ 0) <|
  .need (0 < (1 : Int)) <|
  .need ((0 : Int) ≤ 0) <|
  .need (0 < (2 : Int)) <|
  .need (((0 : Nat) + 2 : Nat) ≤ 2) <|
  let y460 : (List Int) := [4, 8]
  let y461 : (Int × (DOperand × (DOperand × (Int × Int)))) := x.2.2
  let y462 : Int := y461.1
  let y463 : ((List Int) × Int) := (y460, y462)
  .need (pre99 y463) <|
  let y464 : Bool := ((fn99 y463) == true)
  .ite y464 (
  let y465 : (DOperand × (DOperand × (Int × Int))) := y461.2
  let y466 : DOperand := y465.1
  .need (pre119 y466) <|
  let y467 : Bool := ((fn119 y466) == true)
  .ite y467 (
  let y468 : DOperand := y465.2.1
  .need (pre129 y468) <|
  let y469 : Bool := ((fn129 y468) == true)
  .ite y469 (
  .need (((0 : Nat) + 2 : Nat) ≤ 2) <|
  .need (((0 : Nat) + 1 : Nat) ≤ 1) <|
  let y470 : (Int × Unit) := (0, ())
  let y471 : ((List Int) × (Int × Unit)) := (y460, y470)
  let y472 : Bool := (ieq x.1 18)
  let y473 : Int := (cond y69 0 (cond y129 1 (cond y185 2 (cond y237 3 (cond y285 4 (cond y329 6 (cond y369 0 (cond y403 1 (cond y433 4 (cond y459 5 (cond y472 7 0)))))))))))
  let y474 : (((List Int) × (Int × Unit)) × ((Unit × (Unit × ((List Int) × (Int × (Int × Int))))) × Bool)) := (y471, (((), ((), ([193], (y473, (1, 1))))), true))
  .ret (.inr y474)) (
  let y475 : Bool := (ieq x.1 18)
  let y476 : Int := (cond y69 0 (cond y129 1 (cond y185 2 (cond y237 3 (cond y285 4 (cond y329 6 (cond y369 0 (cond y403 1 (cond y433 4 (cond y459 5 (cond y475 7 0)))))))))))
  .ret (.inl (.h6 y460 y476 y476 [193] [211])))) (
  let y477 : Bool := (ieq x.1 18)
  let y478 : Int := (cond y69 0 (cond y129 1 (cond y185 2 (cond y237 3 (cond y285 4 (cond y329 6 (cond y369 0 (cond y403 1 (cond y433 4 (cond y459 5 (cond y477 7 0)))))))))))
  .ret (.inl (.h6 y460 y478 y478 [193] [211])))) (
  let y479 : Bool := (ieq x.1 18)
  let y480 : Int := (cond y69 0 (cond y129 1 (cond y185 2 (cond y237 3 (cond y285 4 (cond y329 6 (cond y369 0 (cond y403 1 (cond y433 4 (cond y459 5 (cond y479 7 0)))))))))))
  .ret (.inl (.h6 y460 y480 y480 [193] [211])))) (
  let y481 : Bool := (ieq x.1 18)
  .ite y481 (
  .need ((0 : Nat) < 1) <|
  .need ((0 : Nat) < 1) <|
  .need ((0 : Nat) < 2) <|
  .need ((1 : Nat) < 2) <|
  .need ((0 : Int) ≤ 0) <|
  .need (0 < (1 : Int)) <|
  .need ((0 : Int) ≤ 0) <|
  .need (0 < (2 : Int)) <|
  .need (((0 : Nat) + 2 : Nat) ≤ 2) <|
  let y482 : (List Int) := [4, 8]
  let y483 : (Int × (DOperand × (DOperand × (Int × Int)))) := x.2.2
  let y484 : Int := y483.1
  let y485 : ((List Int) × Int) := (y482, y484)
  .need (pre99 y485) <|
  let y486 : Bool := ((fn99 y485) == true)
  .ite y486 (
  let y487 : (DOperand × (DOperand × (Int × Int))) := y483.2
  let y488 : DOperand := y487.1
  .need (pre119 y488) <|
  let y489 : Bool := ((fn119 y488) == true)
  .ite y489 (
  let y490 : DOperand := y487.2.1
  .need (pre129 y490) <|
  let y491 : Bool := ((fn129 y490) == true)
  .ite y491 (
  .need (((0 : Nat) + 2 : Nat) ≤ 2) <|
  .need (((0 : Nat) + 1 : Nat) ≤ 1) <|
  let y492 : (Int × Unit) := (0, ())
  let y493 : ((List Int) × (Int × Unit)) := (y482, y492)
  let y494 : Int := (cond y69 0 (cond y129 1 (cond y185 2 (cond y237 3 (cond y285 4 (cond y329 6 (cond y369 0 (cond y403 1 (cond y433 4 (cond y459 5 (cond y481 7 0)))))))))))
  let y495 : (((List Int) × (Int × Unit)) × ((Unit × (Unit × ((List Int) × (Int × (Int × Int))))) × Bool)) := (y493, (((), ((), ([193], (y494, (1, 1))))), true))
  .ret (.inr y495)) (
  let y496 : Int := (cond y69 0 (cond y129 1 (cond y185 2 (cond y237 3 (cond y285 4 (cond y329 6 (cond y369 0 (cond y403 1 (cond y433 4 (cond y459 5 (cond y481 7 0)))))))))))
  .ret (.inl (.h6 y482 y496 y496 [193] [211])))) (
  let y497 : Int := (cond y69 0 (cond y129 1 (cond y185 2 (cond y237 3 (cond y285 4 (cond y329 6 (cond y369 0 (cond y403 1 (cond y433 4 (cond y459 5 (cond y481 7 0)))))))))))
  .ret (.inl (.h6 y482 y497 y497 [193] [211])))) (
  let y498 : Int := (cond y69 0 (cond y129 1 (cond y185 2 (cond y237 3 (cond y285 4 (cond y329 6 (cond y369 0 (cond y403 1 (cond y433 4 (cond y459 5 (cond y481 7 0)))))))))))
  .ret (.inl (.h6 y482 y498 y498 [193] [211])))) (
  .ite (ieq x.1 21) (
  .need ((0 : Nat) < 2) <|
  .need ((1 : Nat) < 2) <|
  .need ((0 : Nat) < 2) <|
  .need ((1 : Nat) < 2) <|
  .need ((0 : Int) ≤ 0) <|
  .need (0 < (1 : Int)) <|
  .need ((0 : Int) ≤ 0) <|
  .need (0 < (1 : Int)) <|
  .need (((0 : Nat) + 2 : Nat) ≤ 2) <|
  let y499 : (List Int) := [4, 8]
  let y500 : (Int × (DOperand × (DOperand × (Int × Int)))) := x.2.2
  let y501 : Int := y500.1
  let y502 : ((List Int) × Int) := (y499, y501)
  .need (pre99 y502) <|
  let y503 : Bool := ((fn99 y502) == true)
  .ite y503 (
  let y504 : (DOperand × (DOperand × (Int × Int))) := y500.2
  let y505 : DOperand := y504.1
  .need (pre120 y505) <|
  let y506 : Bool := ((fn120 y505) == true)
  .ite y506 (
  let y507 : DOperand := y504.2.1
  .need (pre119 y507) <|
  let y508 : Bool := ((fn119 y507) == true)
  .ite y508 (
  .need (((0 : Nat) + 2 : Nat) ≤ 2) <|
  .need (((0 : Nat) + 2 : Nat) ≤ 2) <|
  let y509 : (Int × Unit) := (0, ())
  let y510 : ((List Int) × (Int × Unit)) := (y499, y509)
  let y511 : (List Int) := [15, 175]
  let y512 : (Int × (Int × Int)) := ((-1), (2, 0))
  .ret (.inr (y510, (((), ((), (y511, y512))), true)))) (
  let y513 : (List Int) := [15, 175]
  .ret (.inl (.h7 y499 y513)))) (
  let y514 : (List Int) := [15, 175]
  .ret (.inl (.h7 y499 y514)))) (
  let y515 : (List Int) := [15, 175]
  .ret (.inl (.h7 y499 y515)))) (
  .ite (ieq x.1 30) (
  .need ((0 : Nat) < 2) <|
  .need ((1 : Nat) < 2) <|
  .need ((0 : Nat) < 2) <|
  .need ((1 : Nat) < 2) <|
  .need ((0 : Int) ≤ 0) <|
  .need (0 < (1 : Int)) <|
  .need ((0 : Int) ≤ 0) <|
  .need (0 < (1 : Int)) <|
  .need (((0 : Nat) + 2 : Nat) ≤ 2) <|
  let y516 : (List Int) := [4, 8]
  let y517 : (Int × (DOperand × (DOperand × (Int × Int)))) := x.2.2
  let y518 : Int := y517.1
  let y519 : ((List Int) × Int) := (y516, y518)
  .need (pre99 y519) <|
  let y520 : Bool := ((fn99 y519) == true)
  .ite y520 (
  let y521 : (DOperand × (DOperand × (Int × Int))) := y517.2
  let y522 : DOperand := y521.1
  .need (pre120 y522) <|
  let y523 : Bool := ((fn120 y522) == true)
  .ite y523 (
  let y524 : DOperand := y521.2.1
  .need (pre119 y524) <|
  let y525 : Bool := ((fn119 y524) == true)
  .ite y525 (
  .need (((0 : Nat) + 2 : Nat) ≤ 2) <|
  .need (((0 : Nat) + 2 : Nat) ≤ 2) <|
  let y526 : (Int × Unit) := (0, ())
  let y527 : ((List Int) × (Int × Unit)) := (y516, y526)
  let y528 : Int := (iand .u8 x.2.1 15)
  let y529 : (List Int) := [15, (iadd .u8 64 y528)]
  let y530 : (Int × (Int × Int)) := ((-1), (2, 0))
  .ret (.inr (y527, (((), ((), (y529, y530))), true)))) (
  let y531 : Int := (iand .u8 x.2.1 15)
  let y532 : (List Int) := [15, (iadd .u8 64 y531)]
  .ret (.inl (.h7 y516 y532)))) (
  let y533 : Int := (iand .u8 x.2.1 15)
  let y534 : (List Int) := [15, (iadd .u8 64 y533)]
  .ret (.inl (.h7 y516 y534)))) (
  let y535 : Int := (iand .u8 x.2.1 15)
  let y536 : (List Int) := [15, (iadd .u8 64 y535)]
  .ret (.inl (.h7 y516 y536)))) (
  .ite (ieq x.1 31) (
  .need ((0 : Nat) < 1) <|
  .need ((0 : Nat) < 2) <|
  .need ((1 : Nat) < 2) <|
  .need ((0 : Int) ≤ 0) <|
  .need (0 < (1 : Int)) <|
  .need ((0 : Int) ≤ 0) <|
  .need (0 < (1 : Int)) <|
  .need (((0 : Nat) + 1 : Nat) ≤ 1) <|
  let y537 : (Int × (DOperand × (DOperand × (Int × Int)))) := x.2.2
  let y538 : Int := y537.1
  let y539 : ((List Int) × Int) := ([1], y538)
  .need (pre99 y539) <|
  let y540 : Bool := ((fn99 y539) == true)
  .ite y540 (
  let y541 : (DOperand × (DOperand × (Int × Int))) := y537.2
  let y542 : DOperand := y541.1
  .need (pre119 y542) <|
  let y543 : Bool := ((fn119 y542) == true)
  .ite y543 (
  let y544 : DOperand := y541.2.1
  .need (pre144 y544) <|
  let y545 : Bool := ((fn144 y544) == true)
  .ite y545 (
  .need (((0 : Nat) + 1 : Nat) ≤ 1) <|
  .need (((0 : Nat) + 2 : Nat) ≤ 2) <|
  let y546 : (Int × Unit) := (0, ())
  let y547 : ((List Int) × (Int × Unit)) := ([1], y546)
  let y548 : Int := (iand .u8 x.2.1 15)
  let y549 : (List Int) := [15, (iadd .u8 144 y548)]
  let y550 : (Int × Int) := (1, 0)
  .ret (.inr (y547, (((), ((), (y549, (0, y550)))), true)))) (
  let y551 : Int := (iand .u8 x.2.1 15)
  let y552 : (List Int) := [15, (iadd .u8 144 y551)]
  .ret (.inl (.h8 [1] y552)))) (
  let y553 : Int := (iand .u8 x.2.1 15)
  let y554 : (List Int) := [15, (iadd .u8 144 y553)]
  .ret (.inl (.h8 [1] y554)))) (
  let y555 : Int := (iand .u8 x.2.1 15)
  let y556 : (List Int) := [15, (iadd .u8 144 y555)]
  .ret (.inl (.h8 [1] y556)))) (
  .ite (ieq x.1 32) (
  .need ((0 : Nat) < 2) <|
  .need ((1 : Nat) < 2) <|
  .need ((0 : Nat) < 2) <|
  .need ((1 : Nat) < 2) <|
  .need ((0 : Int) ≤ 0) <|
  .need (0 < (1 : Int)) <|
  .need ((0 : Int) ≤ 0) <|
  .need (0 < (1 : Int)) <|
  .need (((0 : Nat) + 2 : Nat) ≤ 2) <|
  let y557 : (List Int) := [4, 8]
  let y558 : (Int × (DOperand × (DOperand × (Int × Int)))) := x.2.2
  let y559 : Int := y558.1
  let y560 : ((List Int) × Int) := (y557, y559)
  .need (pre99 y560) <|
  let y561 : Bool := ((fn99 y560) == true)
  .ite y561 (
  let y562 : (DOperand × (DOperand × (Int × Int))) := y558.2
  let y563 : DOperand := y562.1
  .need (pre120 y563) <|
  let y564 : Bool := ((fn120 y563) == true)
  .ite y564 (
  let y565 : DOperand := y562.2.1
  .need (pre119 y565) <|
  let y566 : Bool := ((fn119 y565) == true)
  .ite y566 (
  .need (((0 : Nat) + 2 : Nat) ≤ 2) <|
  .need (((0 : Nat) + 2 : Nat) ≤ 2) <|
  let y567 : (Int × Unit) := (0, ())
  let y568 : ((List Int) × (Int × Unit)) := (y557, y567)
  let y569 : (List Int) := [15, 182]
  let y570 : (Int × (Int × Int)) := ((-1), (2, 0))
  .ret (.inr (y568, (((), ((), (y569, y570))), true)))) (
  let y571 : (List Int) := [15, 182]
  .ret (.inl (.h7 y557 y571)))) (
  let y572 : (List Int) := [15, 182]
  .ret (.inl (.h7 y557 y572)))) (
  let y573 : (List Int) := [15, 182]
  .ret (.inl (.h7 y557 y573)))) (
  .ite (ieq x.1 33) (
  .need ((0 : Nat) < 2) <|
  .need ((1 : Nat) < 2) <|
  .need ((0 : Nat) < 2) <|
  .need ((1 : Nat) < 2) <|
  .need ((0 : Int) ≤ 0) <|
  .need (0 < (1 : Int)) <|
  .need ((0 : Int) ≤ 0) <|
  .need (0 < (1 : Int)) <|
  .need (((0 : Nat) + 2 : Nat) ≤ 2) <|
  let y574 : (List Int) := [4, 8]
  let y575 : (Int × (DOperand × (DOperand × (Int × Int)))) := x.2.2
  let y576 : Int := y575.1
  let y577 : ((List Int) × Int) := (y574, y576)
  .need (pre99 y577) <|
  let y578 : Bool := ((fn99 y577) == true)
  .ite y578 (
  let y579 : (DOperand × (DOperand × (Int × Int))) := y575.2
  let y580 : DOperand := y579.1
  .need (pre120 y580) <|
  let y581 : Bool := ((fn120 y580) == true)
  .ite y581 (
  let y582 : DOperand := y579.2.1
  .need (pre119 y582) <|
  let y583 : Bool := ((fn119 y582) == true)
  .ite y583 (
  .need (((0 : Nat) + 2 : Nat) ≤ 2) <|
  .need (((0 : Nat) + 2 : Nat) ≤ 2) <|
  let y584 : (Int × Unit) := (0, ())
  let y585 : ((List Int) × (Int × Unit)) := (y574, y584)
  let y586 : (List Int) := [15, 190]
  let y587 : (Int × (Int × Int)) := ((-1), (2, 0))
  .ret (.inr (y585, (((), ((), (y586, y587))), true)))) (
  let y588 : (List Int) := [15, 190]
  .ret (.inl (.h7 y574 y588)))) (
  let y589 : (List Int) := [15, 190]
  .ret (.inl (.h7 y574 y589)))) (
  let y590 : (List Int) := [15, 190]
  .ret (.inl (.h7 y574 y590)))) (
  .ite (ieq x.1 35) (
  .need ((0 : Nat) < 2) <|
  .need ((1 : Nat) < 2) <|
  .need ((0 : Nat) < 2) <|
  .need ((1 : Nat) < 2) <|
  .need ((0 : Nat) < 1) <|
  .need ((0 : Int) ≤ 0) <|
  .need (0 < (1 : Int)) <|
  .need ((0 : Int) ≤ 0) <|
  .need (0 < (2 : Int)) <|
  .need (((0 : Nat) + 1 : Nat) ≤ 1) <|
  let y591 : (Int × (DOperand × (DOperand × (Int × Int)))) := x.2.2
  let y592 : Int := y591.1
  let y593 : ((List Int) × Int) := ([16], y592)
  .need (pre99 y593) <|
  let y594 : Bool := ((fn99 y593) == true)
  .ite y594 (
  let y595 : (DOperand × (DOperand × (Int × Int))) := y591.2
  let y596 : DOperand := y595.1
  .need (pre126 y596) <|
  let y597 : Bool := ((fn126 y596) == true)
  .ite y597 (
  let y598 : DOperand := y595.2.1
  .need (pre127 y598) <|
  let y599 : Bool := ((fn127 y598) == true)
  .ite y599 (
  .need (((0 : Nat) + 1 : Nat) ≤ 1) <|
  .need (((0 : Nat) + 2 : Nat) ≤ 2) <|
  let y600 : (List Int) := [15, 111]
  let y601 : (Int × (Int × Int)) := ((-1), (2, 0))
  .ret (.inr (([16], (243, ())), (((), ((), (y600, y601))), true)))) (
  let y602 : (List Int) := [15, 111]
  let y603 : (List Int) := [15, 127]
  .ret (.inl (.h9 [16] y602 y603)))) (
  let y604 : (List Int) := [15, 111]
  let y605 : (List Int) := [15, 127]
  .ret (.inl (.h9 [16] y604 y605)))) (
  let y606 : (List Int) := [15, 111]
  let y607 : (List Int) := [15, 127]
  .ret (.inl (.h9 [16] y606 y607)))) (
  .ite (ieq x.1 36) (
  .need ((0 : Nat) < 2) <|
  .need ((1 : Nat) < 2) <|
  .need ((0 : Nat) < 1) <|
  .need ((0 : Int) ≤ 0) <|
  .need (0 < (1 : Int)) <|
  .need ((0 : Int) ≤ 0) <|
  .need (0 < (1 : Int)) <|
  .need (((0 : Nat) + 1 : Nat) ≤ 1) <|
  let y608 : (Int × (DOperand × (DOperand × (Int × Int)))) := x.2.2
  let y609 : Int := y608.1
  let y610 : ((List Int) × Int) := ([16], y609)
  .need (pre99 y610) <|
  let y611 : Bool := ((fn99 y610) == true)
  .ite y611 (
  let y612 : (DOperand × (DOperand × (Int × Int))) := y608.2
  let y613 : DOperand := y612.1
  .need (pre126 y613) <|
  let y614 : Bool := ((fn126 y613) == true)
  .ite y614 (
  let y615 : DOperand := y612.2.1
  .need (pre127 y615) <|
  let y616 : Bool := ((fn127 y615) == true)
  .ite y616 (
  .need (((0 : Nat) + 1 : Nat) ≤ 1) <|
  .need (((0 : Nat) + 2 : Nat) ≤ 2) <|
  let y617 : ((List Int) × (Int × Unit)) := ([16], (102, ()))
  let y618 : (List Int) := [15, 239]
  let y619 : (Int × (Int × Int)) := ((-1), (2, 0))
  .ret (.inr (y617, (((), ((), (y618, y619))), true)))) (
  let y620 : (List Int) := [15, 239]
  .ret (.inl (.h10 [16] y620)))) (
  let y621 : (List Int) := [15, 239]
  .ret (.inl (.h10 [16] y621)))) (
  let y622 : (List Int) := [15, 239]
  .ret (.inl (.h10 [16] y622)))) (
  .ite (ieq x.1 37) (
  .need ((0 : Nat) < 3) <|
  .need ((1 : Nat) < 3) <|
  .need ((2 : Nat) < 3) <|
  .need ((0 : Nat) < 1) <|
  .need ((0 : Int) ≤ 0) <|
  .need (0 < (1 : Int)) <|
  .need ((0 : Int) ≤ 0) <|
  .need (0 < (1 : Int)) <|
  .need (((0 : Nat) + 1 : Nat) ≤ 1) <|
  let y623 : (Int × (DOperand × (DOperand × (Int × Int)))) := x.2.2
  let y624 : Int := y623.1
  let y625 : ((List Int) × Int) := ([16], y624)
  .need (pre99 y625) <|
  let y626 : Bool := ((fn99 y625) == true)
  .ite y626 (
  let y627 : (DOperand × (DOperand × (Int × Int))) := y623.2
  let y628 : DOperand := y627.1
  .need (pre126 y628) <|
  let y629 : Bool := ((fn126 y628) == true)
  .ite y629 (
  let y630 : DOperand := y627.2.1
  .need (pre127 y630) <|
  let y631 : Bool := ((fn127 y630) == true)
  .ite y631 (
  .need (((0 : Nat) + 1 : Nat) ≤ 1) <|
  .need (((0 : Nat) + 3 : Nat) ≤ 3) <|
  let y632 : ((List Int) × (Int × Unit)) := ([16], (102, ()))
  let y633 : (List Int) := [15, 56, 220]
  let y634 : (Int × (Int × Int)) := ((-1), (2, 0))
  .ret (.inr (y632, (((), ((), (y633, y634))), true)))) (
  let y635 : (List Int) := [15, 56, 220]
  .ret (.inl (.h11 [16] 0 y635)))) (
  let y636 : (List Int) := [15, 56, 220]
  .ret (.inl (.h11 [16] 0 y636)))) (
  let y637 : (List Int) := [15, 56, 220]
  .ret (.inl (.h11 [16] 0 y637)))) (
  .ite (ieq x.1 38) (
  .need ((0 : Nat) < 3) <|
  .need ((1 : Nat) < 3) <|
  .need ((2 : Nat) < 3) <|
  .need ((0 : Nat) < 1) <|
  .need ((0 : Int) ≤ 0) <|
  .need (0 < (1 : Int)) <|
  .need ((0 : Int) ≤ 0) <|
  .need (0 < (1 : Int)) <|
  .need (((0 : Nat) + 1 : Nat) ≤ 1) <|
  let y638 : (Int × (DOperand × (DOperand × (Int × Int)))) := x.2.2
  let y639 : Int := y638.1
  let y640 : ((List Int) × Int) := ([16], y639)
  .need (pre99 y640) <|
  let y641 : Bool := ((fn99 y640) == true)
  .ite y641 (
  let y642 : (DOperand × (DOperand × (Int × Int))) := y638.2
  let y643 : DOperand := y642.1
  .need (pre126 y643) <|
  let y644 : Bool := ((fn126 y643) == true)
  .ite y644 (
  let y645 : DOperand := y642.2.1
  .need (pre127 y645) <|
  let y646 : Bool := ((fn127 y645) == true)
  .ite y646 (
  .need (((0 : Nat) + 1 : Nat) ≤ 1) <|
  .need (((0 : Nat) + 3 : Nat) ≤ 3) <|
  let y647 : ((List Int) × (Int × Unit)) := ([16], (102, ()))
  let y648 : (List Int) := [15, 56, 221]
  let y649 : (Int × (Int × Int)) := ((-1), (2, 0))
  .ret (.inr (y647, (((), ((), (y648, y649))), true)))) (
  let y650 : (List Int) := [15, 56, 221]
  .ret (.inl (.h11 [16] 0 y650)))) (
  let y651 : (List Int) := [15, 56, 221]
  .ret (.inl (.h11 [16] 0 y651)))) (
  let y652 : (List Int) := [15, 56, 221]
  .ret (.inl (.h11 [16] 0 y652)))) (
  .ite (ieq x.1 39) (
  .need ((0 : Nat) < 3) <|
  .need ((1 : Nat) < 3) <|
  .need ((2 : Nat) < 3) <|
  .need ((0 : Nat) < 1) <|
  .need ((0 : Int) ≤ 0) <|
  .need (0 < (1 : Int)) <|
  .need ((0 : Int) ≤ 0) <|
  .need (0 < (1 : Int)) <|
  .need (((0 : Nat) + 1 : Nat) ≤ 1) <|
  let y653 : (Int × (DOperand × (DOperand × (Int × Int)))) := x.2.2
  let y654 : Int := y653.1
  let y655 : ((List Int) × Int) := ([16], y654)
  .need (pre99 y655) <|
  let y656 : Bool := ((fn99 y655) == true)
  .ite y656 (
  let y657 : (DOperand × (DOperand × (Int × Int))) := y653.2
  let y658 : DOperand := y657.1
  .need (pre126 y658) <|
  let y659 : Bool := ((fn126 y658) == true)
  .ite y659 (
  let y660 : DOperand := y657.2.1
  .need (pre127 y660) <|
  let y661 : Bool := ((fn127 y660) == true)
  .ite y661 (
  .need (((0 : Nat) + 1 : Nat) ≤ 1) <|
  .need (((0 : Nat) + 3 : Nat) ≤ 3) <|
  let y662 : ((List Int) × (Int × Unit)) := ([16], (102, ()))
  let y663 : (List Int) := [15, 58, 68]
  .ret (.inr (y662, (((), ((), (y663, ((-1), (2, 1))))), true)))) (
  let y664 : (List Int) := [15, 58, 68]
  .ret (.inl (.h11 [16] 1 y664)))) (
  let y665 : (List Int) := [15, 58, 68]
  .ret (.inl (.h11 [16] 1 y665)))) (
  let y666 : (List Int) := [15, 58, 68]
  .ret (.inl (.h11 [16] 1 y666)))) (
  let y667 : Bool := (ieq x.1 26)
  .ite (y667 == false) (
  let y668 : Bool := (ieq x.1 28)
  .ite (y668 == false) (
  let y669 : Bool := (ieq x.1 29)
  .ite (y669 == false) (
  let y670 : Bool := (ieq x.1 27)
  .ite (y670 == false) (
  let y671 : Bool := (ieq x.1 34)
  .ite (y671 == false) (
  let y672 : Bool := (ieq x.1 24)
  .ite (y672 == false) (
  .ite (ieq x.1 25) (
  .ite y667 (
  .need ((0 : Nat) < 1) <|
  .need ((0 : Nat) < 2) <|
  .need ((1 : Nat) < 2) <|
  .need ((0 : Int) ≤ 0) <|
  .need (0 < (1 : Int)) <|
  .need ((0 : Int) ≤ 0) <|
  .need (0 < (1 : Int)) <|
  .need (((0 : Nat) + 2 : Nat) ≤ 2) <|
  let y673 : (List Int) := [8, 8]
  let y674 : (Int × (DOperand × (DOperand × (Int × Int)))) := x.2.2
  let y675 : Int := y674.1
  let y676 : ((List Int) × Int) := (y673, y675)
  .need (pre99 y676) <|
  let y677 : Bool := ((fn99 y676) == true)
  .ite y677 (
  let y678 : (DOperand × (DOperand × (Int × Int))) := y674.2
  let y679 : DOperand := y678.1
  .need (pre144 y679) <|
  let y680 : Bool := ((fn144 y679) == true)
  .ite y680 (
  let y681 : DOperand := y678.2.1
  .need (pre123 y681) <|
  let y682 : Bool := ((fn123 y681) == true)
  .ite y682 (
  .need (((0 : Nat) + 2 : Nat) ≤ 2) <|
  .need (((0 : Nat) + 1 : Nat) ≤ 1) <|
  let y683 : (Int × Unit) := (0, ())
  let y684 : ((List Int) × (Int × Unit)) := (y673, y683)
  let y685 : (Int × (Int × Int)) := (0, (0, 4))
  let y686 : (((List Int) × (Int × Unit)) × ((Unit × (Unit × ((List Int) × (Int × (Int × Int))))) × Bool)) := (y684, (((), ((), ([232], y685))), true))
  .ret (.inr y686)) (
  .ret (.inl (.h12 y673 [232])))) (
  .ret (.inl (.h12 y673 [232])))) (
  .ret (.inl (.h12 y673 [232])))) (
  .ite y668 (
  .need ((0 : Nat) < 1) <|
  .need ((0 : Nat) < 1) <|
  .need ((0 : Nat) < 2) <|
  .need ((1 : Nat) < 2) <|
  .need ((0 : Int) ≤ 0) <|
  .need (0 < (1 : Int)) <|
  .need ((0 : Int) ≤ 0) <|
  .need (0 < (2 : Int)) <|
  .need (((0 : Nat) + 2 : Nat) ≤ 2) <|
  let y687 : (List Int) := [8, 8]
  let y688 : (Int × (DOperand × (DOperand × (Int × Int)))) := x.2.2
  let y689 : Int := y688.1
  let y690 : ((List Int) × Int) := (y687, y689)
  .need (pre99 y690) <|
  let y691 : Bool := ((fn99 y690) == true)
  .ite y691 (
  let y692 : (DOperand × (DOperand × (Int × Int))) := y688.2
  let y693 : DOperand := y692.1
  .need (pre144 y693) <|
  let y694 : Bool := ((fn144 y693) == true)
  .ite y694 (
  let y695 : DOperand := y692.2.1
  .need (pre123 y695) <|
  let y696 : Bool := ((fn123 y695) == true)
  .ite y696 (
  .need (((0 : Nat) + 2 : Nat) ≤ 2) <|
  .need (((0 : Nat) + 1 : Nat) ≤ 1) <|
  let y697 : (Int × Unit) := (0, ())
  let y698 : ((List Int) × (Int × Unit)) := (y687, y697)
  let y699 : (Int × (Int × Int)) := (0, (0, 4))
  let y700 : (((List Int) × (Int × Unit)) × ((Unit × (Unit × ((List Int) × (Int × (Int × Int))))) × Bool)) := (y698, (((), ((), ([233], y699))), true))
  .ret (.inr y700)) (
  .ret (.inl (.h13 y687 [233] [255])))) (
  .ret (.inl (.h13 y687 [233] [255])))) (
  .ret (.inl (.h13 y687 [233] [255])))) (
  .ite y669 (
  .need ((0 : Nat) < 2) <|
  .need ((1 : Nat) < 2) <|
  .need ((0 : Nat) < 2) <|
  .need ((1 : Nat) < 2) <|
  .need ((0 : Int) ≤ 0) <|
  .need (0 < (1 : Int)) <|
  .need ((0 : Int) ≤ 0) <|
  .need (0 < (1 : Int)) <|
  .need (((0 : Nat) + 2 : Nat) ≤ 2) <|
  let y701 : (List Int) := [8, 8]
  let y702 : (Int × (DOperand × (DOperand × (Int × Int)))) := x.2.2
  let y703 : Int := y702.1
  let y704 : ((List Int) × Int) := (y701, y703)
  .need (pre99 y704) <|
  let y705 : Bool := ((fn99 y704) == true)
  .ite y705 (
  let y706 : (DOperand × (DOperand × (Int × Int))) := y702.2
  let y707 : DOperand := y706.1
  .need (pre144 y707) <|
  let y708 : Bool := ((fn144 y707) == true)
  .ite y708 (
  let y709 : DOperand := y706.2.1
  .need (pre123 y709) <|
  let y710 : Bool := ((fn123 y709) == true)
  .ite y710 (
  .need (((0 : Nat) + 2 : Nat) ≤ 2) <|
  .need (((0 : Nat) + 2 : Nat) ≤ 2) <|
  let y711 : (Int × Unit) := (0, ())
  let y712 : ((List Int) × (Int × Unit)) := (y701, y711)
  let y713 : Int := (iand .u8 x.2.1 15)
  let y714 : (List Int) := [15, (iadd .u8 128 y713)]
  let y715 : (Int × (Int × Int)) := (0, (0, 4))
  let y716 : (((List Int) × (Int × Unit)) × ((Unit × (Unit × ((List Int) × (Int × (Int × Int))))) × Bool)) := (y712, (((), ((), (y714, y715))), true))
  .ret (.inr y716)) (
  let y717 : Int := (iand .u8 x.2.1 15)
  let y718 : (List Int) := [15, (iadd .u8 128 y717)]
  .ret (.inl (.h14 y701 y718)))) (
  let y719 : Int := (iand .u8 x.2.1 15)
  let y720 : (List Int) := [15, (iadd .u8 128 y719)]
  .ret (.inl (.h14 y701 y720)))) (
  let y721 : Int := (iand .u8 x.2.1 15)
  let y722 : (List Int) := [15, (iadd .u8 128 y721)]
  .ret (.inl (.h14 y701 y722)))) (
  .ite y670 (
  .need ((0 : Nat) < 1) <|
  .need ((0 : Nat) < 2) <|
  .need ((1 : Nat) < 2) <|
  .need ((0 : Int) ≤ 0) <|
  .need (0 < (1 : Int)) <|
  .need ((0 : Int) ≤ 0) <|
  .need (0 < (1 : Int)) <|
  .need (((0 : Nat) + 2 : Nat) ≤ 2) <|
  let y723 : (List Int) := [8, 8]
  let y724 : (Int × (DOperand × (DOperand × (Int × Int)))) := x.2.2
  let y725 : Int := y724.1
  let y726 : ((List Int) × Int) := (y723, y725)
  .need (pre99 y726) <|
  let y727 : Bool := ((fn99 y726) == true)
  .ite y727 (
  let y728 : (DOperand × (DOperand × (Int × Int))) := y724.2
  let y729 : DOperand := y728.1
  .need (pre144 y729) <|
  let y730 : Bool := ((fn144 y729) == true)
  .ite y730 (
  let y731 : DOperand := y728.2.1
  .need (pre144 y731) <|
  let y732 : Bool := ((fn144 y731) == true)
  .ite y732 (
  .need (((0 : Nat) + 2 : Nat) ≤ 2) <|
  .need (((0 : Nat) + 1 : Nat) ≤ 1) <|
  let y733 : (Int × Unit) := (0, ())
  let y734 : ((List Int) × (Int × Unit)) := (y723, y733)
  let y735 : (Int × (Int × Int)) := (0, (0, 0))
  let y736 : (((List Int) × (Int × Unit)) × ((Unit × (Unit × ((List Int) × (Int × (Int × Int))))) × Bool)) := (y734, (((), ((), ([195], y735))), true))
  .ret (.inr y736)) (
  .ret (.inl (.h15 y723 [195])))) (
  .ret (.inl (.h15 y723 [195])))) (
  .ret (.inl (.h15 y723 [195])))) (
  .ite y671 (
  .need ((0 : Nat) < 1) <|
  .need ((0 : Nat) < 2) <|
  .need ((1 : Nat) < 2) <|
  .need ((0 : Int) ≤ 0) <|
  .need (0 < (1 : Int)) <|
  .need ((0 : Int) ≤ 0) <|
  .need (0 < (1 : Int)) <|
  .need (((0 : Nat) + 2 : Nat) ≤ 2) <|
  let y737 : (List Int) := [8, 8]
  let y738 : (Int × (DOperand × (DOperand × (Int × Int)))) := x.2.2
  let y739 : Int := y738.1
  let y740 : ((List Int) × Int) := (y737, y739)
  .need (pre99 y740) <|
  let y741 : Bool := ((fn99 y740) == true)
  .ite y741 (
  let y742 : (DOperand × (DOperand × (Int × Int))) := y738.2
  let y743 : DOperand := y742.1
  .need (pre144 y743) <|
  let y744 : Bool := ((fn144 y743) == true)
  .ite y744 (
  let y745 : DOperand := y742.2.1
  .need (pre144 y745) <|
  let y746 : Bool := ((fn144 y745) == true)
  .ite y746 (
  .need (((0 : Nat) + 2 : Nat) ≤ 2) <|
  .need (((0 : Nat) + 1 : Nat) ≤ 1) <|
  let y747 : (Int × Unit) := (0, ())
  let y748 : ((List Int) × (Int × Unit)) := (y737, y747)
  let y749 : (Int × (Int × Int)) := (0, (0, 0))
  let y750 : (((List Int) × (Int × Unit)) × ((Unit × (Unit × ((List Int) × (Int × (Int × Int))))) × Bool)) := (y748, (((), ((), ([144], y749))), true))
  .ret (.inr y750)) (
  .ret (.inl (.h15 y737 [144])))) (
  .ret (.inl (.h15 y737 [144])))) (
  .ret (.inl (.h15 y737 [144])))) (
  .ite y672 (
  .need ((0 : Nat) < 1) <|
  .need ((0 : Nat) < 2) <|
  .need ((1 : Nat) < 2) <|
  .need ((0 : Int) ≤ 0) <|
  .need (0 < (1 : Int)) <|
  .need ((0 : Int) ≤ 0) <|
  .need (0 < (1 : Int)) <|
  .need (((0 : Nat) + 2 : Nat) ≤ 2) <|
  let y751 : (List Int) := [8, 8]
  let y752 : (Int × (DOperand × (DOperand × (Int × Int)))) := x.2.2
  let y753 : Int := y752.1
  let y754 : ((List Int) × Int) := (y751, y753)
  .need (pre99 y754) <|
  let y755 : Bool := ((fn99 y754) == true)
  .ite y755 (
  let y756 : (DOperand × (DOperand × (Int × Int))) := y752.2
  let y757 : DOperand := y756.1
  .need (pre120 y757) <|
  let y758 : Bool := ((fn120 y757) == true)
  .ite y758 (
  let y759 : DOperand := y756.2.1
  .need (pre144 y759) <|
  let y760 : Bool := ((fn144 y759) == true)
  .ite y760 (
  .need (((0 : Nat) + 2 : Nat) ≤ 2) <|
  .need (((0 : Nat) + 1 : Nat) ≤ 1) <|
  let y761 : (Int × Unit) := (0, ())
  let y762 : ((List Int) × (Int × Unit)) := (y751, y761)
  let y763 : (Int × (Int × Int)) := (0, (3, 0))
  let y764 : (((List Int) × (Int × Unit)) × ((Unit × (Unit × ((List Int) × (Int × (Int × Int))))) × Bool)) := (y762, (((), ((), ([80], y763))), true))
  .ret (.inr y764)) (
  .ret (.inl (.h16 y751 [80])))) (
  .ret (.inl (.h16 y751 [80])))) (
  .ret (.inl (.h16 y751 [80])))) (
  .need ((0 : Nat) < 1) <|
  .need ((0 : Nat) < 2) <|
  .need ((1 : Nat) < 2) <|
  .need ((0 : Int) ≤ 0) <|
  .need (0 < (1 : Int)) <|
  .need ((0 : Int) ≤ 0) <|
  .need (0 < (1 : Int)) <|
  .need (((0 : Nat) + 2 : Nat) ≤ 2) <|
  let y765 : (List Int) := [8, 8]
  let y766 : (Int × (DOperand × (DOperand × (Int × Int)))) := x.2.2
  let y767 : Int := y766.1
  let y768 : ((List Int) × Int) := (y765, y767)
  .need (pre99 y768) <|
  let y769 : Bool := ((fn99 y768) == true)
  .ite y769 (
  let y770 : (DOperand × (DOperand × (Int × Int))) := y766.2
  let y771 : DOperand := y770.1
  .need (pre120 y771) <|
  let y772 : Bool := ((fn120 y771) == true)
  .ite y772 (
  let y773 : DOperand := y770.2.1
  .need (pre144 y773) <|
  let y774 : Bool := ((fn144 y773) == true)
  .ite y774 (
  .need (((0 : Nat) + 2 : Nat) ≤ 2) <|
  .need (((0 : Nat) + 1 : Nat) ≤ 1) <|
  let y775 : (Int × Unit) := (0, ())
  let y776 : ((List Int) × (Int × Unit)) := (y765, y775)
  let y777 : (Int × (Int × Int)) := (0, (3, 0))
  let y778 : (((List Int) × (Int × Unit)) × ((Unit × (Unit × ((List Int) × (Int × (Int × Int))))) × Bool)) := (y776, (((), ((), ([88], y777))), true))
  .ret (.inr y778)) (
  .ret (.inl (.h16 y765 [88])))) (
  .ret (.inl (.h16 y765 [88])))) (
  .ret (.inl (.h16 y765 [88])))))))))) (
  .ret (.inl (.h17)))) (
  .ite y667 (
  .need ((0 : Nat) < 1) <|
  .need ((0 : Nat) < 2) <|
  .need ((1 : Nat) < 2) <|
  .need ((0 : Int) ≤ 0) <|
  .need (0 < (1 : Int)) <|
  .need ((0 : Int) ≤ 0) <|
  .need (0 < (1 : Int)) <|
  .need (((0 : Nat) + 2 : Nat) ≤ 2) <|
  let y779 : (List Int) := [8, 8]
  let y780 : (Int × (DOperand × (DOperand × (Int × Int)))) := x.2.2
  let y781 : Int := y780.1
  let y782 : ((List Int) × Int) := (y779, y781)
  .need (pre99 y782) <|
  let y783 : Bool := ((fn99 y782) == true)
  .ite y783 (
  let y784 : (DOperand × (DOperand × (Int × Int))) := y780.2
  let y785 : DOperand := y784.1
  .need (pre144 y785) <|
  let y786 : Bool := ((fn144 y785) == true)
  .ite y786 (
  let y787 : DOperand := y784.2.1
  .need (pre123 y787) <|
  let y788 : Bool := ((fn123 y787) == true)
  .ite y788 (
  .need (((0 : Nat) + 2 : Nat) ≤ 2) <|
  .need (((0 : Nat) + 1 : Nat) ≤ 1) <|
  let y789 : (Int × Unit) := (0, ())
  let y790 : ((List Int) × (Int × Unit)) := (y779, y789)
  let y791 : (Int × (Int × Int)) := (0, (0, 4))
  let y792 : (((List Int) × (Int × Unit)) × ((Unit × (Unit × ((List Int) × (Int × (Int × Int))))) × Bool)) := (y790, (((), ((), ([232], y791))), true))
  .ret (.inr y792)) (
  .ret (.inl (.h12 y779 [232])))) (
  .ret (.inl (.h12 y779 [232])))) (
  .ret (.inl (.h12 y779 [232])))) (
  .ite y668 (
  .need ((0 : Nat) < 1) <|
  .need ((0 : Nat) < 1) <|
  .need ((0 : Nat) < 2) <|
  .need ((1 : Nat) < 2) <|
  .need ((0 : Int) ≤ 0) <|
  .need (0 < (1 : Int)) <|
  .need ((0 : Int) ≤ 0) <|
  .need (0 < (2 : Int)) <|
  .need (((0 : Nat) + 2 : Nat) ≤ 2) <|
  let y793 : (List Int) := [8, 8]
  let y794 : (Int × (DOperand × (DOperand × (Int × Int)))) := x.2.2
  let y795 : Int := y794.1
  let y796 : ((List Int) × Int) := (y793, y795)
  .need (pre99 y796) <|
  let y797 : Bool := ((fn99 y796) == true)
  .ite y797 (
  let y798 : (DOperand × (DOperand × (Int × Int))) := y794.2
  let y799 : DOperand := y798.1
  .need (pre144 y799) <|
  let y800 : Bool := ((fn144 y799) == true)
  .ite y800 (
  let y801 : DOperand := y798.2.1
  .need (pre123 y801) <|
  let y802 : Bool := ((fn123 y801) == true)
  .ite y802 (
  .need (((0 : Nat) + 2 : Nat) ≤ 2) <|
  .need (((0 : Nat) + 1 : Nat) ≤ 1) <|
  let y803 : (Int × Unit) := (0, ())
  let y804 : ((List Int) × (Int × Unit)) := (y793, y803)
  let y805 : (Int × (Int × Int)) := (0, (0, 4))
  let y806 : (((List Int) × (Int × Unit)) × ((Unit × (Unit × ((List Int) × (Int × (Int × Int))))) × Bool)) := (y804, (((), ((), ([233], y805))), true))
  .ret (.inr y806)) (
  .ret (.inl (.h13 y793 [233] [255])))) (
  .ret (.inl (.h13 y793 [233] [255])))) (
  .ret (.inl (.h13 y793 [233] [255])))) (
  .ite y669 (
  .need ((0 : Nat) < 2) <|
  .need ((1 : Nat) < 2) <|
  .need ((0 : Nat) < 2) <|
  .need ((1 : Nat) < 2) <|
  .need ((0 : Int) ≤ 0) <|
  .need (0 < (1 : Int)) <|
  .need ((0 : Int) ≤ 0) <|
  .need (0 < (1 : Int)) <|
  .need (((0 : Nat) + 2 : Nat) ≤ 2) <|
  let y807 : (List Int) := [8, 8]
  let y808 : (Int × (DOperand × (DOperand × (Int × Int)))) := x.2.2
  let y809 : Int := y808.1
  let y810 : ((List Int) × Int) := (y807, y809)
  .need (pre99 y810) <|
  let y811 : Bool := ((fn99 y810) == true)
  .ite y811 (
  let y812 : (DOperand × (DOperand × (Int × Int))) := y808.2
  let y813 : DOperand := y812.1
  .need (pre144 y813) <|
  let y814 : Bool := ((fn144 y813) == true)
  .ite y814 (
  let y815 : DOperand := y812.2.1
  .need (pre123 y815) <|
  let y816 : Bool := ((fn123 y815) == true)
  .ite y816 (
  .need (((0 : Nat) + 2 : Nat) ≤ 2) <|
  .need (((0 : Nat) + 2 : Nat) ≤ 2) <|
  let y817 : (Int × Unit) := (0, ())
  let y818 : ((List Int) × (Int × Unit)) := (y807, y817)
  let y819 : Int := (iand .u8 x.2.1 15)
  let y820 : (List Int) := [15, (iadd .u8 128 y819)]
  let y821 : (Int × (Int × Int)) := (0, (0, 4))
  let y822 : (((List Int) × (Int × Unit)) × ((Unit × (Unit × ((List Int) × (Int × (Int × Int))))) × Bool)) := (y818, (((), ((), (y820, y821))), true))
  .ret (.inr y822)) (
  let y823 : Int := (iand .u8 x.2.1 15)
  let y824 : (List Int) := [15, (iadd .u8 128 y823)]
  .ret (.inl (.h14 y807 y824)))) (
  let y825 : Int := (iand .u8 x.2.1 15)
  let y826 : (List Int) := [15, (iadd .u8 128 y825)]
  .ret (.inl (.h14 y807 y826)))) (
  let y827 : Int := (iand .u8 x.2.1 15)
  let y828 : (List Int) := [15, (iadd .u8 128 y827)]
  .ret (.inl (.h14 y807 y828)))) (
  .ite y670 (
  .need ((0 : Nat) < 1) <|
  .need ((0 : Nat) < 2) <|
  .need ((1 : Nat) < 2) <|
  .need ((0 : Int) ≤ 0) <|
  .need (0 < (1 : Int)) <|
  .need ((0 : Int) ≤ 0) <|
  .need (0 < (1 : Int)) <|
  .need (((0 : Nat) + 2 : Nat) ≤ 2) <|
  let y829 : (List Int) := [8, 8]
  let y830 : (Int × (DOperand × (DOperand × (Int × Int)))) := x.2.2
  let y831 : Int := y830.1
  let y832 : ((List Int) × Int) := (y829, y831)
  .need (pre99 y832) <|
  let y833 : Bool := ((fn99 y832) == true)
  .ite y833 (
  let y834 : (DOperand × (DOperand × (Int × Int))) := y830.2
  let y835 : DOperand := y834.1
  .need (pre144 y835) <|
  let y836 : Bool := ((fn144 y835) == true)
  .ite y836 (
  let y837 : DOperand := y834.2.1
  .need (pre144 y837) <|
  let y838 : Bool := ((fn144 y837) == true)
  .ite y838 (
  .need (((0 : Nat) + 2 : Nat) ≤ 2) <|
  .need (((0 : Nat) + 1 : Nat) ≤ 1) <|
  let y839 : (Int × Unit) := (0, ())
  let y840 : ((List Int) × (Int × Unit)) := (y829, y839)
  let y841 : (Int × (Int × Int)) := (0, (0, 0))
  let y842 : (((List Int) × (Int × Unit)) × ((Unit × (Unit × ((List Int) × (Int × (Int × Int))))) × Bool)) := (y840, (((), ((), ([195], y841))), true))
  .ret (.inr y842)) (
  .ret (.inl (.h15 y829 [195])))) (
  .ret (.inl (.h15 y829 [195])))) (
  .ret (.inl (.h15 y829 [195])))) (
  .ite y671 (
  .need ((0 : Nat) < 1) <|
  .need ((0 : Nat) < 2) <|
  .need ((1 : Nat) < 2) <|
  .need ((0 : Int) ≤ 0) <|
  .need (0 < (1 : Int)) <|
  .need ((0 : Int) ≤ 0) <|
  .need (0 < (1 : Int)) <|
  .need (((0 : Nat) + 2 : Nat) ≤ 2) <|
  let y843 : (List Int) := [8, 8]
  let y844 : (Int × (DOperand × (DOperand × (Int × Int)))) := x.2.2
  let y845 : Int := y844.1
  let y846 : ((List Int) × Int) := (y843, y845)
  .need (pre99 y846) <|
  let y847 : Bool := ((fn99 y846) == true)
  .ite y847 (
  let y848 : (DOperand × (DOperand × (Int × Int))) := y844.2
  let y849 : DOperand := y848.1
  .need (pre144 y849) <|
  let y850 : Bool := ((fn144 y849) == true)
  .ite y850 (
  let y851 : DOperand := y848.2.1
  .need (pre144 y851) <|
  let y852 : Bool := ((fn144 y851) == true)
  .ite y852 (
  .need (((0 : Nat) + 2 : Nat) ≤ 2) <|
  .need (((0 : Nat) + 1 : Nat) ≤ 1) <|
  let y853 : (Int × Unit) := (0, ())
  let y854 : ((List Int) × (Int × Unit)) := (y843, y853)
  let y855 : (Int × (Int × Int)) := (0, (0, 0))
  let y856 : (((List Int) × (Int × Unit)) × ((Unit × (Unit × ((List Int) × (Int × (Int × Int))))) × Bool)) := (y854, (((), ((), ([144], y855))), true))
  .ret (.inr y856)) (
  .ret (.inl (.h15 y843 [144])))) (
  .ret (.inl (.h15 y843 [144])))) (
  .ret (.inl (.h15 y843 [144])))) (
  .ite y672 (
  .need ((0 : Nat) < 1) <|
  .need ((0 : Nat) < 2) <|
  .need ((1 : Nat) < 2) <|
  .need ((0 : Int) ≤ 0) <|
  .need (0 < (1 : Int)) <|
  .need ((0 : Int) ≤ 0) <|
  .need (0 < (1 : Int)) <|
  .need (((0 : Nat) + 2 : Nat) ≤ 2) <|
  let y857 : (List Int) := [8, 8]
  let y858 : (Int × (DOperand × (DOperand × (Int × Int)))) := x.2.2
  let y859 : Int := y858.1
  let y860 : ((List Int) × Int) := (y857, y859)
  .need (pre99 y860) <|
  let y861 : Bool := ((fn99 y860) == true)
  .ite y861 (
  let y862 : (DOperand × (DOperand × (Int × Int))) := y858.2
  let y863 : DOperand := y862.1
  .need (pre120 y863) <|
  let y864 : Bool := ((fn120 y863) == true)
  .ite y864 (
  let y865 : DOperand := y862.2.1
  .need (pre144 y865) <|
  let y866 : Bool := ((fn144 y865) == true)
  .ite y866 (
  .need (((0 : Nat) + 2 : Nat) ≤ 2) <|
  .need (((0 : Nat) + 1 : Nat) ≤ 1) <|
  let y867 : (Int × Unit) := (0, ())
  let y868 : ((List Int) × (Int × Unit)) := (y857, y867)
  let y869 : (Int × (Int × Int)) := (0, (3, 0))
  let y870 : (((List Int) × (Int × Unit)) × ((Unit × (Unit × ((List Int) × (Int × (Int × Int))))) × Bool)) := (y868, (((), ((), ([80], y869))), true))
  .ret (.inr y870)) (
  .ret (.inl (.h16 y857 [80])))) (
  .ret (.inl (.h16 y857 [80])))) (
  .ret (.inl (.h16 y857 [80])))) (
  .need ((0 : Nat) < 1) <|
  .need ((0 : Nat) < 2) <|
  .need ((1 : Nat) < 2) <|
  .need ((0 : Int) ≤ 0) <|
  .need (0 < (1 : Int)) <|
  .need ((0 : Int) ≤ 0) <|
  .need (0 < (1 : Int)) <|
  .need (((0 : Nat) + 2 : Nat) ≤ 2) <|
  let y871 : (List Int) := [8, 8]
  let y872 : (Int × (DOperand × (DOperand × (Int × Int)))) := x.2.2
  let y873 : Int := y872.1
  let y874 : ((List Int) × Int) := (y871, y873)
  .need (pre99 y874) <|
  let y875 : Bool := ((fn99 y874) == true)
  .ite y875 (
  let y876 : (DOperand × (DOperand × (Int × Int))) := y872.2
  let y877 : DOperand := y876.1
  .need (pre120 y877) <|
  let y878 : Bool := ((fn120 y877) == true)
  .ite y878 (
  let y879 : DOperand := y876.2.1
  .need (pre144 y879) <|
  let y880 : Bool := ((fn144 y879) == true)
  .ite y880 (
  .need (((0 : Nat) + 2 : Nat) ≤ 2) <|
  .need (((0 : Nat) + 1 : Nat) ≤ 1) <|
  let y881 : (Int × Unit) := (0, ())
  let y882 : ((List Int) × (Int × Unit)) := (y871, y881)
  let y883 : (Int × (Int × Int)) := (0, (3, 0))
  let y884 : (((List Int) × (Int × Unit)) × ((Unit × (Unit × ((List Int) × (Int × (Int × Int))))) × Bool)) := (y882, (((), ((), ([88], y883))), true))
  .ret (.inr y884)) (
  .ret (.inl (.h16 y871 [88])))) (
  .ret (.inl (.h16 y871 [88])))) (
  .ret (.inl (.h16 y871 [88]))))))))))) (
  .ite y667 (
  .need ((0 : Nat) < 1) <|
  .need ((0 : Nat) < 2) <|
  .need ((1 : Nat) < 2) <|
  .need ((0 : Int) ≤ 0) <|
  .need (0 < (1 : Int)) <|
  .need ((0 : Int) ≤ 0) <|
  .need (0 < (1 : Int)) <|
  .need (((0 : Nat) + 2 : Nat) ≤ 2) <|
  let y885 : (List Int) := [8, 8]
  let y886 : (Int × (DOperand × (DOperand × (Int × Int)))) := x.2.2
  let y887 : Int := y886.1
  let y888 : ((List Int) × Int) := (y885, y887)
  .need (pre99 y888) <|
  let y889 : Bool := ((fn99 y888) == true)
  .ite y889 (
  let y890 : (DOperand × (DOperand × (Int × Int))) := y886.2
  let y891 : DOperand := y890.1
  .need (pre144 y891) <|
  let y892 : Bool := ((fn144 y891) == true)
  .ite y892 (
  let y893 : DOperand := y890.2.1
  .need (pre123 y893) <|
  let y894 : Bool := ((fn123 y893) == true)
  .ite y894 (
  .need (((0 : Nat) + 2 : Nat) ≤ 2) <|
  .need (((0 : Nat) + 1 : Nat) ≤ 1) <|
  let y895 : (Int × Unit) := (0, ())
  let y896 : ((List Int) × (Int × Unit)) := (y885, y895)
  let y897 : (Int × (Int × Int)) := (0, (0, 4))
  let y898 : (((List Int) × (Int × Unit)) × ((Unit × (Unit × ((List Int) × (Int × (Int × Int))))) × Bool)) := (y896, (((), ((), ([232], y897))), true))
  .ret (.inr y898)) (
  .ret (.inl (.h12 y885 [232])))) (
  .ret (.inl (.h12 y885 [232])))) (
  .ret (.inl (.h12 y885 [232])))) (
  .ite y668 (
  .need ((0 : Nat) < 1) <|
  .need ((0 : Nat) < 1) <|
  .need ((0 : Nat) < 2) <|
  .need ((1 : Nat) < 2) <|
  .need ((0 : Int) ≤ 0) <|
  .need (0 < (1 : Int)) <|
  .need ((0 : Int) ≤ 0) <|
  .need (0 < (2 : Int)) <|
  .need (((0 : Nat) + 2 : Nat) ≤ 2) <|
  let y899 : (List Int) := [8, 8]
  let y900 : (Int × (DOperand × (DOperand × (Int × Int)))) := x.2.2
  let y901 : Int := y900.1
  let y902 : ((List Int) × Int) := (y899, y901)
  .need (pre99 y902) <|
  let y903 : Bool := ((fn99 y902) == true)
  .ite y903 (
  let y904 : (DOperand × (DOperand × (Int × Int))) := y900.2
  let y905 : DOperand := y904.1
  .need (pre144 y905) <|
  let y906 : Bool := ((fn144 y905) == true)
  .ite y906 (
  let y907 : DOperand := y904.2.1
  .need (pre123 y907) <|
  let y908 : Bool := ((fn123 y907) == true)
  .ite y908 (
  .need (((0 : Nat) + 2 : Nat) ≤ 2) <|
  .need (((0 : Nat) + 1 : Nat) ≤ 1) <|
  let y909 : (Int × Unit) := (0, ())
  let y910 : ((List Int) × (Int × Unit)) := (y899, y909)
  let y911 : (Int × (Int × Int)) := (0, (0, 4))
  let y912 : (((List Int) × (Int × Unit)) × ((Unit × (Unit × ((List Int) × (Int × (Int × Int))))) × Bool)) := (y910, (((), ((), ([233], y911))), true))
  .ret (.inr y912)) (
  .ret (.inl (.h13 y899 [233] [255])))) (
  .ret (.inl (.h13 y899 [233] [255])))) (
  .ret (.inl (.h13 y899 [233] [255])))) (
  .ite y669 (
  .need ((0 : Nat) < 2) <|
  .need ((1 : Nat) < 2) <|
  .need ((0 : Nat) < 2) <|
  .need ((1 : Nat) < 2) <|
  .need ((0 : Int) ≤ 0) <|
  .need (0 < (1 : Int)) <|
  .need ((0 : Int) ≤ 0) <|
  .need (0 < (1 : Int)) <|
  .need (((0 : Nat) + 2 : Nat) ≤ 2) <|
  let y913 : (List Int) := [8, 8]
  let y914 : (Int × (DOperand × (DOperand × (Int × Int)))) := x.2.2
  let y915 : Int := y914.1
  let y916 : ((List Int) × Int) := (y913, y915)
  .need (pre99 y916) <|
  let y917 : Bool := ((fn99 y916) == true)
  .ite y917 (
  let y918 : (DOperand × (DOperand × (Int × Int))) := y914.2
  let y919 : DOperand := y918.1
  .need (pre144 y919) <|
  let y920 : Bool := ((fn144 y919) == true)
  .ite y920 (
  let y921 : DOperand := y918.2.1
  .need (pre123 y921) <|
  let y922 : Bool := ((fn123 y921) == true)
  .ite y922 (
  .need (((0 : Nat) + 2 : Nat) ≤ 2) <|
  .need (((0 : Nat) + 2 : Nat) ≤ 2) <|
  let y923 : (Int × Unit) := (0, ())
  let y924 : ((List Int) × (Int × Unit)) := (y913, y923)
  let y925 : Int := (iand .u8 x.2.1 15)
  let y926 : (List Int) := [15, (iadd .u8 128 y925)]
  let y927 : (Int × (Int × Int)) := (0, (0, 4))
  let y928 : (((List Int) × (Int × Unit)) × ((Unit × (Unit × ((List Int) × (Int × (Int × Int))))) × Bool)) := (y924, (((), ((), (y926, y927))), true))
  .ret (.inr y928)) (
  let y929 : Int := (iand .u8 x.2.1 15)
  let y930 : (List Int) := [15, (iadd .u8 128 y929)]
  .ret (.inl (.h14 y913 y930)))) (
  let y931 : Int := (iand .u8 x.2.1 15)
  let y932 : (List Int) := [15, (iadd .u8 128 y931)]
  .ret (.inl (.h14 y913 y932)))) (
  let y933 : Int := (iand .u8 x.2.1 15)
  let y934 : (List Int) := [15, (iadd .u8 128 y933)]
  .ret (.inl (.h14 y913 y934)))) (
  .ite y670 (
  .need ((0 : Nat) < 1) <|
  .need ((0 : Nat) < 2) <|
  .need ((1 : Nat) < 2) <|
  .need ((0 : Int) ≤ 0) <|
  .need (0 < (1 : Int)) <|
  .need ((0 : Int) ≤ 0) <|
  .need (0 < (1 : Int)) <|
  .need (((0 : Nat) + 2 : Nat) ≤ 2) <|
  let y935 : (List Int) := [8, 8]
  let y936 : (Int × (DOperand × (DOperand × (Int × Int)))) := x.2.2
  let y937 : Int := y936.1
  let y938 : ((List Int) × Int) := (y935, y937)
  .need (pre99 y938) <|
  let y939 : Bool := ((fn99 y938) == true)
  .ite y939 (
  let y940 : (DOperand × (DOperand × (Int × Int))) := y936.2
  let y941 : DOperand := y940.1
  .need (pre144 y941) <|
  let y942 : Bool := ((fn144 y941) == true)
  .ite y942 (
  let y943 : DOperand := y940.2.1
  .need (pre144 y943) <|
  let y944 : Bool := ((fn144 y943) == true)
  .ite y944 (
  .need (((0 : Nat) + 2 : Nat) ≤ 2) <|
  .need (((0 : Nat) + 1 : Nat) ≤ 1) <|
  let y945 : (Int × Unit) := (0, ())
  let y946 : ((List Int) × (Int × Unit)) := (y935, y945)
  let y947 : (Int × (Int × Int)) := (0, (0, 0))
  let y948 : (((List Int) × (Int × Unit)) × ((Unit × (Unit × ((List Int) × (Int × (Int × Int))))) × Bool)) := (y946, (((), ((), ([195], y947))), true))
  .ret (.inr y948)) (
  .ret (.inl (.h15 y935 [195])))) (
  .ret (.inl (.h15 y935 [195])))) (
  .ret (.inl (.h15 y935 [195])))) (
  .ite y671 (
  .need ((0 : Nat) < 1) <|
  .need ((0 : Nat) < 2) <|
  .need ((1 : Nat) < 2) <|
  .need ((0 : Int) ≤ 0) <|
  .need (0 < (1 : Int)) <|
  .need ((0 : Int) ≤ 0) <|
  .need (0 < (1 : Int)) <|
  .need (((0 : Nat) + 2 : Nat) ≤ 2) <|
  let y949 : (List Int) := [8, 8]
  let y950 : (Int × (DOperand × (DOperand × (Int × Int)))) := x.2.2
  let y951 : Int := y950.1
  let y952 : ((List Int) × Int) := (y949, y951)
  .need (pre99 y952) <|
  let y953 : Bool := ((fn99 y952) == true)
  .ite y953 (
  let y954 : (DOperand × (DOperand × (Int × Int))) := y950.2
  let y955 : DOperand := y954.1
  .need (pre144 y955) <|
  let y956 : Bool := ((fn144 y955) == true)
  .ite y956 (
  let y957 : DOperand := y954.2.1
  .need (pre144 y957) <|
  let y958 : Bool := ((fn144 y957) == true)
  .ite y958 (
  .need (((0 : Nat) + 2 : Nat) ≤ 2) <|
  .need (((0 : Nat) + 1 : Nat) ≤ 1) <|
  let y959 : (Int × Unit) := (0, ())
  let y960 : ((List Int) × (Int × Unit)) := (y949, y959)
  let y961 : (Int × (Int × Int)) := (0, (0, 0))
  let y962 : (((List Int) × (Int × Unit)) × ((Unit × (Unit × ((List Int) × (Int × (Int × Int))))) × Bool)) := (y960, (((), ((), ([144], y961))), true))
  .ret (.inr y962)) (
  .ret (.inl (.h15 y949 [144])))) (
  .ret (.inl (.h15 y949 [144])))) (
  .ret (.inl (.h15 y949 [144])))) (
  let y963 : Bool := (ieq x.1 24)
  .ite y963 (
  .need ((0 : Nat) < 1) <|
  .need ((0 : Nat) < 2) <|
  .need ((1 : Nat) < 2) <|
  .need ((0 : Int) ≤ 0) <|
  .need (0 < (1 : Int)) <|
  .need ((0 : Int) ≤ 0) <|
  .need (0 < (1 : Int)) <|
  .need (((0 : Nat) + 2 : Nat) ≤ 2) <|
  let y964 : (List Int) := [8, 8]
  let y965 : (Int × (DOperand × (DOperand × (Int × Int)))) := x.2.2
  let y966 : Int := y965.1
  let y967 : ((List Int) × Int) := (y964, y966)
  .need (pre99 y967) <|
  let y968 : Bool := ((fn99 y967) == true)
  .ite y968 (
  let y969 : (DOperand × (DOperand × (Int × Int))) := y965.2
  let y970 : DOperand := y969.1
  .need (pre120 y970) <|
  let y971 : Bool := ((fn120 y970) == true)
  .ite y971 (
  let y972 : DOperand := y969.2.1
  .need (pre144 y972) <|
  let y973 : Bool := ((fn144 y972) == true)
  .ite y973 (
  .need (((0 : Nat) + 2 : Nat) ≤ 2) <|
  .need (((0 : Nat) + 1 : Nat) ≤ 1) <|
  let y974 : (Int × Unit) := (0, ())
  let y975 : ((List Int) × (Int × Unit)) := (y964, y974)
  let y976 : (Int × (Int × Int)) := (0, (3, 0))
  let y977 : (((List Int) × (Int × Unit)) × ((Unit × (Unit × ((List Int) × (Int × (Int × Int))))) × Bool)) := (y975, (((), ((), ([80], y976))), true))
  .ret (.inr y977)) (
  .ret (.inl (.h16 y964 [80])))) (
  .ret (.inl (.h16 y964 [80])))) (
  .ret (.inl (.h16 y964 [80])))) (
  .need ((0 : Nat) < 1) <|
  .need ((0 : Nat) < 2) <|
  .need ((1 : Nat) < 2) <|
  .need ((0 : Int) ≤ 0) <|
  .need (0 < (1 : Int)) <|
  .need ((0 : Int) ≤ 0) <|
  .need (0 < (1 : Int)) <|
  .need (((0 : Nat) + 2 : Nat) ≤ 2) <|
  let y978 : (List Int) := [8, 8]
  let y979 : (Int × (DOperand × (DOperand × (Int × Int)))) := x.2.2
  let y980 : Int := y979.1
  let y981 : ((List Int) × Int) := (y978, y980)
  .need (pre99 y981) <|
  let y982 : Bool := ((fn99 y981) == true)
  .ite y982 (
  let y983 : (DOperand × (DOperand × (Int × Int))) := y979.2
  let y984 : DOperand := y983.1
  .need (pre120 y984) <|
  let y985 : Bool := ((fn120 y984) == true)
  .ite y985 (
  let y986 : DOperand := y983.2.1
  .need (pre144 y986) <|
  let y987 : Bool := ((fn144 y986) == true)
  .ite y987 (
  .need (((0 : Nat) + 2 : Nat) ≤ 2) <|
  .need (((0 : Nat) + 1 : Nat) ≤ 1) <|
  let y988 : (Int × Unit) := (0, ())
  let y989 : ((List Int) × (Int × Unit)) := (y978, y988)
  let y990 : (Int × (Int × Int)) := (0, (3, 0))
  let y991 : (((List Int) × (Int × Unit)) × ((Unit × (Unit × ((List Int) × (Int × (Int × Int))))) × Bool)) := (y989, (((), ((), ([88], y990))), true))
  .ret (.inr y991)) (
  .ret (.inl (.h16 y978 [88])))) (
  .ret (.inl (.h16 y978 [88])))) (
  .ret (.inl (.h16 y978 [88]))))))))))) (
  .ite y667 (
  .need ((0 : Nat) < 1) <|
  .need ((0 : Nat) < 2) <|
  .need ((1 : Nat) < 2) <|
  .need ((0 : Int) ≤ 0) <|
  .need (0 < (1 : Int)) <|
  .need ((0 : Int) ≤ 0) <|
  .need (0 < (1 : Int)) <|
  .need (((0 : Nat) + 2 : Nat) ≤ 2) <|
  let y992 : (List Int) := [8, 8]
  let y993 : (Int × (DOperand × (DOperand × (Int × Int)))) := x.2.2
  let y994 : Int := y993.1
  let y995 : ((List Int) × Int) := (y992, y994)
  .need (pre99 y995) <|
  let y996 : Bool := ((fn99 y995) == true)
  .ite y996 (
  let y997 : (DOperand × (DOperand × (Int × Int))) := y993.2
  let y998 : DOperand := y997.1
  .need (pre144 y998) <|
  let y999 : Bool := ((fn144 y998) == true)
  .ite y999 (
  let y1000 : DOperand := y997.2.1
  .need (pre123 y1000) <|
  let y1001 : Bool := ((fn123 y1000) == true)
  .ite y1001 (
  .need (((0 : Nat) + 2 : Nat) ≤ 2) <|
  .need (((0 : Nat) + 1 : Nat) ≤ 1) <|
  let y1002 : (Int × Unit) := (0, ())
  let y1003 : ((List Int) × (Int × Unit)) := (y992, y1002)
  let y1004 : (Int × (Int × Int)) := (0, (0, 4))
  let y1005 : (((List Int) × (Int × Unit)) × ((Unit × (Unit × ((List Int) × (Int × (Int × Int))))) × Bool)) := (y1003, (((), ((), ([232], y1004))), true))
  .ret (.inr y1005)) (
  .ret (.inl (.h12 y992 [232])))) (
  .ret (.inl (.h12 y992 [232])))) (
  .ret (.inl (.h12 y992 [232])))) (
  .ite y668 (
  .need ((0 : Nat) < 1) <|
  .need ((0 : Nat) < 1) <|
  .need ((0 : Nat) < 2) <|
  .need ((1 : Nat) < 2) <|
  .need ((0 : Int) ≤ 0) <|
  .need (0 < (1 : Int)) <|
  .need ((0 : Int) ≤ 0) <|
  .need (0 < (2 : Int)) <|
  .need (((0 : Nat) + 2 : Nat) ≤ 2) <|
  let y1006 : (List Int) := [8, 8]
  let y1007 : (Int × (DOperand × (DOperand × (Int × Int)))) := x.2.2
  let y1008 : Int := y1007.1
  let y1009 : ((List Int) × Int) := (y1006, y1008)
  .need (pre99 y1009) <|
  let y1010 : Bool := ((fn99 y1009) == true)
  .ite y1010 (
  let y1011 : (DOperand × (DOperand × (Int × Int))) := y1007.2
  let y1012 : DOperand := y1011.1
  .need (pre144 y1012) <|
  let y1013 : Bool := ((fn144 y1012) == true)
  .ite y1013 (
  let y1014 : DOperand := y1011.2.1
  .need (pre123 y1014) <|
  let y1015 : Bool := ((fn123 y1014) == true)
  .ite y1015 (
  .need (((0 : Nat) + 2 : Nat) ≤ 2) <|
  .need (((0 : Nat) + 1 : Nat) ≤ 1) <|
  let y1016 : (Int × Unit) := (0, ())
  let y1017 : ((List Int) × (Int × Unit)) := (y1006, y1016)
  let y1018 : (Int × (Int × Int)) := (0, (0, 4))
  let y1019 : (((List Int) × (Int × Unit)) × ((Unit × (Unit × ((List Int) × (Int × (Int × Int))))) × Bool)) := (y1017, (((), ((), ([233], y1018))), true))
  .ret (.inr y1019)) (
  .ret (.inl (.h13 y1006 [233] [255])))) (
  .ret (.inl (.h13 y1006 [233] [255])))) (
  .ret (.inl (.h13 y1006 [233] [255])))) (
  .ite y669 (
  .need ((0 : Nat) < 2) <|
  .need ((1 : Nat) < 2) <|
  .need ((0 : Nat) < 2) <|
  .need ((1 : Nat) < 2) <|
  .need ((0 : Int) ≤ 0) <|
  .need (0 < (1 : Int)) <|
  .need ((0 : Int) ≤ 0) <|
  .need (0 < (1 : Int)) <|
  .need (((0 : Nat) + 2 : Nat) ≤ 2) <|
  let y1020 : (List Int) := [8, 8]
  let y1021 : (Int × (DOperand × (DOperand × (Int × Int)))) := x.2.2
  let y1022 : Int := y1021.1
  let y1023 : ((List Int) × Int) := (y1020, y1022)
  .need (pre99 y1023) <|
  let y1024 : Bool := ((fn99 y1023) == true)
  .ite y1024 (
  let y1025 : (DOperand × (DOperand × (Int × Int))) := y1021.2
  let y1026 : DOperand := y1025.1
  .need (pre144 y1026) <|
  let y1027 : Bool := ((fn144 y1026) == true)
  .ite y1027 (
  let y1028 : DOperand := y1025.2.1
  .need (pre123 y1028) <|
  let y1029 : Bool := ((fn123 y1028) == true)
  .ite y1029 (
  .need (((0 : Nat) + 2 : Nat) ≤ 2) <|
  .need (((0 : Nat) + 2 : Nat) ≤ 2) <|
  let y1030 : (Int × Unit) := (0, ())
  let y1031 : ((List Int) × (Int × Unit)) := (y1020, y1030)
  let y1032 : Int := (iand .u8 x.2.1 15)
  let y1033 : (List Int) := [15, (iadd .u8 128 y1032)]
  let y1034 : (Int × (Int × Int)) := (0, (0, 4))
  let y1035 : (((List Int) × (Int × Unit)) × ((Unit × (Unit × ((List Int) × (Int × (Int × Int))))) × Bool)) := (y1031, (((), ((), (y1033, y1034))), true))
  .ret (.inr y1035)) (
  let y1036 : Int := (iand .u8 x.2.1 15)
  let y1037 : (List Int) := [15, (iadd .u8 128 y1036)]
  .ret (.inl (.h14 y1020 y1037)))) (
  let y1038 : Int := (iand .u8 x.2.1 15)
  let y1039 : (List Int) := [15, (iadd .u8 128 y1038)]
  .ret (.inl (.h14 y1020 y1039)))) (
  let y1040 : Int := (iand .u8 x.2.1 15)
  let y1041 : (List Int) := [15, (iadd .u8 128 y1040)]
  .ret (.inl (.h14 y1020 y1041)))) (
  .ite y670 (
  .need ((0 : Nat) < 1) <|
  .need ((0 : Nat) < 2) <|
  .need ((1 : Nat) < 2) <|
  .need ((0 : Int) ≤ 0) <|
  .need (0 < (1 : Int)) <|
  .need ((0 : Int) ≤ 0) <|
  .need (0 < (1 : Int)) <|
  .need (((0 : Nat) + 2 : Nat) ≤ 2) <|
  let y1042 : (List Int) := [8, 8]
  let y1043 : (Int × (DOperand × (DOperand × (Int × Int)))) := x.2.2
  let y1044 : Int := y1043.1
  let y1045 : ((List Int) × Int) := (y1042, y1044)
  .need (pre99 y1045) <|
  let y1046 : Bool := ((fn99 y1045) == true)
  .ite y1046 (
  let y1047 : (DOperand × (DOperand × (Int × Int))) := y1043.2
  let y1048 : DOperand := y1047.1
  .need (pre144 y1048) <|
  let y1049 : Bool := ((fn144 y1048) == true)
  .ite y1049 (
  let y1050 : DOperand := y1047.2.1
  .need (pre144 y1050) <|
  let y1051 : Bool := ((fn144 y1050) == true)
  .ite y1051 (
  .need (((0 : Nat) + 2 : Nat) ≤ 2) <|
  .need (((0 : Nat) + 1 : Nat) ≤ 1) <|
  let y1052 : (Int × Unit) := (0, ())
  let y1053 : ((List Int) × (Int × Unit)) := (y1042, y1052)
  let y1054 : (Int × (Int × Int)) := (0, (0, 0))
  let y1055 : (((List Int) × (Int × Unit)) × ((Unit × (Unit × ((List Int) × (Int × (Int × Int))))) × Bool)) := (y1053, (((), ((), ([195], y1054))), true))
  .ret (.inr y1055)) (
  .ret (.inl (.h15 y1042 [195])))) (
  .ret (.inl (.h15 y1042 [195])))) (
  .ret (.inl (.h15 y1042 [195])))) (
  let y1056 : Bool := (ieq x.1 34)
  .ite y1056 (
  .need ((0 : Nat) < 1) <|
  .need ((0 : Nat) < 2) <|
  .need ((1 : Nat) < 2) <|
  .need ((0 : Int) ≤ 0) <|
  .need (0 < (1 : Int)) <|
  .need ((0 : Int) ≤ 0) <|
  .need (0 < (1 : Int)) <|
  .need (((0 : Nat) + 2 : Nat) ≤ 2) <|
  let y1057 : (List Int) := [8, 8]
  let y1058 : (Int × (DOperand × (DOperand × (Int × Int)))) := x.2.2
  let y1059 : Int := y1058.1
  let y1060 : ((List Int) × Int) := (y1057, y1059)
  .need (pre99 y1060) <|
  let y1061 : Bool := ((fn99 y1060) == true)
  .ite y1061 (
  let y1062 : (DOperand × (DOperand × (Int × Int))) := y1058.2
  let y1063 : DOperand := y1062.1
  .need (pre144 y1063) <|
  let y1064 : Bool := ((fn144 y1063) == true)
  .ite y1064 (
  let y1065 : DOperand := y1062.2.1
  .need (pre144 y1065) <|
  let y1066 : Bool := ((fn144 y1065) == true)
  .ite y1066 (
  .need (((0 : Nat) + 2 : Nat) ≤ 2) <|
  .need (((0 : Nat) + 1 : Nat) ≤ 1) <|
  let y1067 : (Int × Unit) := (0, ())
  let y1068 : ((List Int) × (Int × Unit)) := (y1057, y1067)
  let y1069 : (Int × (Int × Int)) := (0, (0, 0))
  let y1070 : (((List Int) × (Int × Unit)) × ((Unit × (Unit × ((List Int) × (Int × (Int × Int))))) × Bool)) := (y1068, (((), ((), ([144], y1069))), true))
  .ret (.inr y1070)) (
  .ret (.inl (.h15 y1057 [144])))) (
  .ret (.inl (.h15 y1057 [144])))) (
  .ret (.inl (.h15 y1057 [144])))) (
  let y1071 : Bool := (ieq x.1 24)
  .ite y1071 (
  .need ((0 : Nat) < 1) <|
  .need ((0 : Nat) < 2) <|
  .need ((1 : Nat) < 2) <|
  .need ((0 : Int) ≤ 0) <|
  .need (0 < (1 : Int)) <|
  .need ((0 : Int) ≤ 0) <|
  .need (0 < (1 : Int)) <|
  .need (((0 : Nat) + 2 : Nat) ≤ 2) <|
  let y1072 : (List Int) := [8, 8]
  let y1073 : (Int × (DOperand × (DOperand × (Int × Int)))) := x.2.2
  let y1074 : Int := y1073.1
  let y1075 : ((List Int) × Int) := (y1072, y1074)
  .need (pre99 y1075) <|
  let y1076 : Bool := ((fn99 y1075) == true)
  .ite y1076 (
  let y1077 : (DOperand × (DOperand × (Int × Int))) := y1073.2
  let y1078 : DOperand := y1077.1
  .need (pre120 y1078) <|
  let y1079 : Bool := ((fn120 y1078) == true)
  .ite y1079 (
  let y1080 : DOperand := y1077.2.1
  .need (pre144 y1080) <|
  let y1081 : Bool := ((fn144 y1080) == true)
  .ite y1081 (
  .need (((0 : Nat) + 2 : Nat) ≤ 2) <|
  .need (((0 : Nat) + 1 : Nat) ≤ 1) <|
  let y1082 : (Int × Unit) := (0, ())
  let y1083 : ((List Int) × (Int × Unit)) := (y1072, y1082)
  let y1084 : (Int × (Int × Int)) := (0, (3, 0))
  let y1085 : (((List Int) × (Int × Unit)) × ((Unit × (Unit × ((List Int) × (Int × (Int × Int))))) × Bool)) := (y1083, (((), ((), ([80], y1084))), true))
  .ret (.inr y1085)) (
  .ret (.inl (.h16 y1072 [80])))) (
  .ret (.inl (.h16 y1072 [80])))) (
  .ret (.inl (.h16 y1072 [80])))) (
  .need ((0 : Nat) < 1) <|
  .need ((0 : Nat) < 2) <|
  .need ((1 : Nat) < 2) <|
  .need ((0 : Int) ≤ 0) <|
  .need (0 < (1 : Int)) <|
  .need ((0 : Int) ≤ 0) <|
  .need (0 < (1 : Int)) <|
  .need (((0 : Nat) + 2 : Nat) ≤ 2) <|
  let y1086 : (List Int) := [8, 8]
  let y1087 : (Int × (DOperand × (DOperand × (Int × Int)))) := x.2.2
  let y1088 : Int := y1087.1
  let y1089 : ((List Int) × Int) := (y1086, y1088)
  .need (pre99 y1089) <|
  let y1090 : Bool := ((fn99 y1089) == true)
  .ite y1090 (
  let y1091 : (DOperand × (DOperand × (Int × Int))) := y1087.2
  let y1092 : DOperand := y1091.1
  .need (pre120 y1092) <|
  let y1093 : Bool := ((fn120 y1092) == true)
  .ite y1093 (
  let y1094 : DOperand := y1091.2.1
  .need (pre144 y1094) <|
  let y1095 : Bool := ((fn144 y1094) == true)
  .ite y1095 (
  .need (((0 : Nat) + 2 : Nat) ≤ 2) <|
  .need (((0 : Nat) + 1 : Nat) ≤ 1) <|
  let y1096 : (Int × Unit) := (0, ())
  let y1097 : ((List Int) × (Int × Unit)) := (y1086, y1096)
  let y1098 : (Int × (Int × Int)) := (0, (3, 0))
  let y1099 : (((List Int) × (Int × Unit)) × ((Unit × (Unit × ((List Int) × (Int × (Int × Int))))) × Bool)) := (y1097, (((), ((), ([88], y1098))), true))
  .ret (.inr y1099)) (
  .ret (.inl (.h16 y1086 [88])))) (
  .ret (.inl (.h16 y1086 [88])))) (
  .ret (.inl (.h16 y1086 [88]))))))))))) (
  .ite y667 (
  .need ((0 : Nat) < 1) <|
  .need ((0 : Nat) < 2) <|
  .need ((1 : Nat) < 2) <|
  .need ((0 : Int) ≤ 0) <|
  .need (0 < (1 : Int)) <|
  .need ((0 : Int) ≤ 0) <|
  .need (0 < (1 : Int)) <|
  .need (((0 : Nat) + 2 : Nat) ≤ 2) <|
  let y1100 : (List Int) := [8, 8]
  let y1101 : (Int × (DOperand × (DOperand × (Int × Int)))) := x.2.2
  let y1102 : Int := y1101.1
  let y1103 : ((List Int) × Int) := (y1100, y1102)
  .need (pre99 y1103) <|
  let y1104 : Bool := ((fn99 y1103) == true)
  .ite y1104 (
  let y1105 : (DOperand × (DOperand × (Int × Int))) := y1101.2
  let y1106 : DOperand := y1105.1
  .need (pre144 y1106) <|
  let y1107 : Bool := ((fn144 y1106) == true)
  .ite y1107 (
  let y1108 : DOperand := y1105.2.1
  .need (pre123 y1108) <|
  let y1109 : Bool := ((fn123 y1108) == true)
  .ite y1109 (
  .need (((0 : Nat) + 2 : Nat) ≤ 2) <|
  .need (((0 : Nat) + 1 : Nat) ≤ 1) <|
  let y1110 : (Int × Unit) := (0, ())
  let y1111 : ((List Int) × (Int × Unit)) := (y1100, y1110)
  let y1112 : (Int × (Int × Int)) := (0, (0, 4))
  let y1113 : (((List Int) × (Int × Unit)) × ((Unit × (Unit × ((List Int) × (Int × (Int × Int))))) × Bool)) := (y1111, (((), ((), ([232], y1112))), true))
  .ret (.inr y1113)) (
  .ret (.inl (.h12 y1100 [232])))) (
  .ret (.inl (.h12 y1100 [232])))) (
  .ret (.inl (.h12 y1100 [232])))) (
  .ite y668 (
  .need ((0 : Nat) < 1) <|
  .need ((0 : Nat) < 1) <|
  .need ((0 : Nat) < 2) <|
  .need ((1 : Nat) < 2) <|
  .need ((0 : Int) ≤ 0) <|
  .need (0 < (1 : Int)) <|
  .need ((0 : Int) ≤ 0) <|
  .need (0 < (2 : Int)) <|
  .need (((0 : Nat) + 2 : Nat) ≤ 2) <|
  let y1114 : (List Int) := [8, 8]
  let y1115 : (Int × (DOperand × (DOperand × (Int × Int)))) := x.2.2
  let y1116 : Int := y1115.1
  let y1117 : ((List Int) × Int) := (y1114, y1116)
  .need (pre99 y1117) <|
  let y1118 : Bool := ((fn99 y1117) == true)
  .ite y1118 (
  let y1119 : (DOperand × (DOperand × (Int × Int))) := y1115.2
  let y1120 : DOperand := y1119.1
  .need (pre144 y1120) <|
  let y1121 : Bool := ((fn144 y1120) == true)
  .ite y1121 (
  let y1122 : DOperand := y1119.2.1
  .need (pre123 y1122) <|
  let y1123 : Bool := ((fn123 y1122) == true)
  .ite y1123 (
  .need (((0 : Nat) + 2 : Nat) ≤ 2) <|
  .need (((0 : Nat) + 1 : Nat) ≤ 1) <|
  let y1124 : (Int × Unit) := (0, ())
  let y1125 : ((List Int) × (Int × Unit)) := (y1114, y1124)
  let y1126 : (Int × (Int × Int)) := (0, (0, 4))
  let y1127 : (((List Int) × (Int × Unit)) × ((Unit × (Unit × ((List Int) × (Int × (Int × Int))))) × Bool)) := (y1125, (((), ((), ([233], y1126))), true))
  .ret (.inr y1127)) (
  .ret (.inl (.h13 y1114 [233] [255])))) (
  .ret (.inl (.h13 y1114 [233] [255])))) (
  .ret (.inl (.h13 y1114 [233] [255])))) (
  .ite y669 (
  .need ((0 : Nat) < 2) <|
  .need ((1 : Nat) < 2) <|
  .need ((0 : Nat) < 2) <|
  .need ((1 : Nat) < 2) <|
  .need ((0 : Int) ≤ 0) <|
  .need (0 < (1 : Int)) <|
  .need ((0 : Int) ≤ 0) <|
  .need (0 < (1 : Int)) <|
  .need (((0 : Nat) + 2 : Nat) ≤ 2) <|
  let y1128 : (List Int) := [8, 8]
  let y1129 : (Int × (DOperand × (DOperand × (Int × Int)))) := x.2.2
  let y1130 : Int := y1129.1
  let y1131 : ((List Int) × Int) := (y1128, y1130)
  .need (pre99 y1131) <|
  let y1132 : Bool := ((fn99 y1131) == true)
  .ite y1132 (
  let y1133 : (DOperand × (DOperand × (Int × Int))) := y1129.2
  let y1134 : DOperand := y1133.1
  .need (pre144 y1134) <|
  let y1135 : Bool := ((fn144 y1134) == true)
  .ite y1135 (
  let y1136 : DOperand := y1133.2.1
  .need (pre123 y1136) <|
  let y1137 : Bool := ((fn123 y1136) == true)
  .ite y1137 (
  .need (((0 : Nat) + 2 : Nat) ≤ 2) <|
  .need (((0 : Nat) + 2 : Nat) ≤ 2) <|
  let y1138 : (Int × Unit) := (0, ())
  let y1139 : ((List Int) × (Int × Unit)) := (y1128, y1138)
  let y1140 : Int := (iand .u8 x.2.1 15)
  let y1141 : (List Int) := [15, (iadd .u8 128 y1140)]
  let y1142 : (Int × (Int × Int)) := (0, (0, 4))
  let y1143 : (((List Int) × (Int × Unit)) × ((Unit × (Unit × ((List Int) × (Int × (Int × Int))))) × Bool)) := (y1139, (((), ((), (y1141, y1142))), true))
  .ret (.inr y1143)) (
  let y1144 : Int := (iand .u8 x.2.1 15)
  let y1145 : (List Int) := [15, (iadd .u8 128 y1144)]
  .ret (.inl (.h14 y1128 y1145)))) (
  let y1146 : Int := (iand .u8 x.2.1 15)
  let y1147 : (List Int) := [15, (iadd .u8 128 y1146)]
  .ret (.inl (.h14 y1128 y1147)))) (
  let y1148 : Int := (iand .u8 x.2.1 15)
  let y1149 : (List Int) := [15, (iadd .u8 128 y1148)]
  .ret (.inl (.h14 y1128 y1149)))) (
  let y1150 : Bool := (ieq x.1 27)
  .ite y1150 (
  .need ((0 : Nat) < 1) <|
  .need ((0 : Nat) < 2) <|
  .need ((1 : Nat) < 2) <|
  .need ((0 : Int) ≤ 0) <|
  .need (0 < (1 : Int)) <|
  .need ((0 : Int) ≤ 0) <|
  .need (0 < (1 : Int)) <|
  .need (((0 : Nat) + 2 : Nat) ≤ 2) <|
  let y1151 : (List Int) := [8, 8]
  let y1152 : (Int × (DOperand × (DOperand × (Int × Int)))) := x.2.2
  let y1153 : Int := y1152.1
  let y1154 : ((List Int) × Int) := (y1151, y1153)
  .need (pre99 y1154) <|
  let y1155 : Bool := ((fn99 y1154) == true)
  .ite y1155 (
  let y1156 : (DOperand × (DOperand × (Int × Int))) := y1152.2
  let y1157 : DOperand := y1156.1
  .need (pre144 y1157) <|
  let y1158 : Bool := ((fn144 y1157) == true)
  .ite y1158 (
  let y1159 : DOperand := y1156.2.1
  .need (pre144 y1159) <|
  let y1160 : Bool := ((fn144 y1159) == true)
  .ite y1160 (
  .need (((0 : Nat) + 2 : Nat) ≤ 2) <|
  .need (((0 : Nat) + 1 : Nat) ≤ 1) <|
  let y1161 : (Int × Unit) := (0, ())
  let y1162 : ((List Int) × (Int × Unit)) := (y1151, y1161)
  let y1163 : (Int × (Int × Int)) := (0, (0, 0))
  let y1164 : (((List Int) × (Int × Unit)) × ((Unit × (Unit × ((List Int) × (Int × (Int × Int))))) × Bool)) := (y1162, (((), ((), ([195], y1163))), true))
  .ret (.inr y1164)) (
  .ret (.inl (.h15 y1151 [195])))) (
  .ret (.inl (.h15 y1151 [195])))) (
  .ret (.inl (.h15 y1151 [195])))) (
  let y1165 : Bool := (ieq x.1 34)
  .ite y1165 (
  .need ((0 : Nat) < 1) <|
  .need ((0 : Nat) < 2) <|
  .need ((1 : Nat) < 2) <|
  .need ((0 : Int) ≤ 0) <|
  .need (0 < (1 : Int)) <|
  .need ((0 : Int) ≤ 0) <|
  .need (0 < (1 : Int)) <|
  .need (((0 : Nat) + 2 : Nat) ≤ 2) <|
  let y1166 : (List Int) := [8, 8]
  let y1167 : (Int × (DOperand × (DOperand × (Int × Int)))) := x.2.2
  let y1168 : Int := y1167.1
  let y1169 : ((List Int) × Int) := (y1166, y1168)
  .need (pre99 y1169) <|
  let y1170 : Bool := ((fn99 y1169) == true)
  .ite y1170 (
  let y1171 : (DOperand × (DOperand × (Int × Int))) := y1167.2
  let y1172 : DOperand := y1171.1
  .need (pre144 y1172) <|
  let y1173 : Bool := ((fn144 y1172) == true)
  .ite y1173 (
  let y1174 : DOperand := y1171.2.1
  .need (pre144 y1174) <|
  let y1175 : Bool := ((fn144 y1174) == true)
  .ite y1175 (
  .need (((0 : Nat) + 2 : Nat) ≤ 2) <|
  .need (((0 : Nat) + 1 : Nat) ≤ 1) <|
  let y1176 : (Int × Unit) := (0, ())
  let y1177 : ((List Int) × (Int × Unit)) := (y1166, y1176)
  let y1178 : (Int × (Int × Int)) := (0, (0, 0))
  let y1179 : (((List Int) × (Int × Unit)) × ((Unit × (Unit × ((List Int) × (Int × (Int × Int))))) × Bool)) := (y1177, (((), ((), ([144], y1178))), true))
  .ret (.inr y1179)) (
  .ret (.inl (.h15 y1166 [144])))) (
  .ret (.inl (.h15 y1166 [144])))) (
  .ret (.inl (.h15 y1166 [144])))) (
  let y1180 : Bool := (ieq x.1 24)
  .ite y1180 (
  .need ((0 : Nat) < 1) <|
  .need ((0 : Nat) < 2) <|
  .need ((1 : Nat) < 2) <|
  .need ((0 : Int) ≤ 0) <|
  .need (0 < (1 : Int)) <|
  .need ((0 : Int) ≤ 0) <|
  .need (0 < (1 : Int)) <|
  .need (((0 : Nat) + 2 : Nat) ≤ 2) <|
  let y1181 : (List Int) := [8, 8]
  let y1182 : (Int × (DOperand × (DOperand × (Int × Int)))) := x.2.2
  let y1183 : Int := y1182.1
  let y1184 : ((List Int) × Int) := (y1181, y1183)
  .need (pre99 y1184) <|
  let y1185 : Bool := ((fn99 y1184) == true)
  .ite y1185 (
  let y1186 : (DOperand × (DOperand × (Int × Int))) := y1182.2
  let y1187 : DOperand := y1186.1
  .need (pre120 y1187) <|
  let y1188 : Bool := ((fn120 y1187) == true)
  .ite y1188 (
  let y1189 : DOperand := y1186.2.1
  .need (pre144 y1189) <|
  let y1190 : Bool := ((fn144 y1189) == true)
  .ite y1190 (
  .need (((0 : Nat) + 2 : Nat) ≤ 2) <|
  .need (((0 : Nat) + 1 : Nat) ≤ 1) <|
  let y1191 : (Int × Unit) := (0, ())
  let y1192 : ((List Int) × (Int × Unit)) := (y1181, y1191)
  let y1193 : (Int × (Int × Int)) := (0, (3, 0))
  let y1194 : (((List Int) × (Int × Unit)) × ((Unit × (Unit × ((List Int) × (Int × (Int × Int))))) × Bool)) := (y1192, (((), ((), ([80], y1193))), true))
  .ret (.inr y1194)) (
  .ret (.inl (.h16 y1181 [80])))) (
  .ret (.inl (.h16 y1181 [80])))) (
  .ret (.inl (.h16 y1181 [80])))) (
  .need ((0 : Nat) < 1) <|
  .need ((0 : Nat) < 2) <|
  .need ((1 : Nat) < 2) <|
  .need ((0 : Int) ≤ 0) <|
  .need (0 < (1 : Int)) <|
  .need ((0 : Int) ≤ 0) <|
  .need (0 < (1 : Int)) <|
  .need (((0 : Nat) + 2 : Nat) ≤ 2) <|
  let y1195 : (List Int) := [8, 8]
  let y1196 : (Int × (DOperand × (DOperand × (Int × Int)))) := x.2.2
  let y1197 : Int := y1196.1
  let y1198 : ((List Int) × Int) := (y1195, y1197)
  .need (pre99 y1198) <|
  let y1199 : Bool := ((fn99 y1198) == true)
  .ite y1199 (
  let y1200 : (DOperand × (DOperand × (Int × Int))) := y1196.2
  let y1201 : DOperand := y1200.1
  .need (pre120 y1201) <|
  let y1202 : Bool := ((fn120 y1201) == true)
  .ite y1202 (
  let y1203 : DOperand := y1200.2.1
  .need (pre144 y1203) <|
  let y1204 : Bool := ((fn144 y1203) == true)
  .ite y1204 (
  .need (((0 : Nat) + 2 : Nat) ≤ 2) <|
  .need (((0 : Nat) + 1 : Nat) ≤ 1) <|
  let y1205 : (Int × Unit) := (0, ())
  let y1206 : ((List Int) × (Int × Unit)) := (y1195, y1205)
  let y1207 : (Int × (Int × Int)) := (0, (3, 0))
  let y1208 : (((List Int) × (Int × Unit)) × ((Unit × (Unit × ((List Int) × (Int × (Int × Int))))) × Bool)) := (y1206, (((), ((), ([88], y1207))), true))
  .ret (.inr y1208)) (
  .ret (.inl (.h16 y1195 [88])))) (
  .ret (.inl (.h16 y1195 [88])))) (
  .ret (.inl (.h16 y1195 [88]))))))))))) (
  .ite y667 (
  .need ((0 : Nat) < 1) <|
  .need ((0 : Nat) < 2) <|
  .need ((1 : Nat) < 2) <|
  .need ((0 : Int) ≤ 0) <|
  .need (0 < (1 : Int)) <|
  .need ((0 : Int) ≤ 0) <|
  .need (0 < (1 : Int)) <|
  .need (((0 : Nat) + 2 : Nat) ≤ 2) <|
  let y1209 : (List Int) := [8, 8]
  let y1210 : (Int × (DOperand × (DOperand × (Int × Int)))) := x.2.2
  let y1211 : Int := y1210.1
  let y1212 : ((List Int) × Int) := (y1209, y1211)
  .need (pre99 y1212) <|
  let y1213 : Bool := ((fn99 y1212) == true)
  .ite y1213 (
  let y1214 : (DOperand × (DOperand × (Int × Int))) := y1210.2
  let y1215 : DOperand := y1214.1
  .need (pre144 y1215) <|
  let y1216 : Bool := ((fn144 y1215) == true)
  .ite y1216 (
  let y1217 : DOperand := y1214.2.1
  .need (pre123 y1217) <|
  let y1218 : Bool := ((fn123 y1217) == true)
  .ite y1218 (
  .need (((0 : Nat) + 2 : Nat) ≤ 2) <|
  .need (((0 : Nat) + 1 : Nat) ≤ 1) <|
  let y1219 : (Int × Unit) := (0, ())
  let y1220 : ((List Int) × (Int × Unit)) := (y1209, y1219)
  let y1221 : (Int × (Int × Int)) := (0, (0, 4))
  let y1222 : (((List Int) × (Int × Unit)) × ((Unit × (Unit × ((List Int) × (Int × (Int × Int))))) × Bool)) := (y1220, (((), ((), ([232], y1221))), true))
  .ret (.inr y1222)) (
  .ret (.inl (.h12 y1209 [232])))) (
  .ret (.inl (.h12 y1209 [232])))) (
  .ret (.inl (.h12 y1209 [232])))) (
  .ite y668 (
  .need ((0 : Nat) < 1) <|
  .need ((0 : Nat) < 1) <|
  .need ((0 : Nat) < 2) <|
  .need ((1 : Nat) < 2) <|
  .need ((0 : Int) ≤ 0) <|
  .need (0 < (1 : Int)) <|
  .need ((0 : Int) ≤ 0) <|
  .need (0 < (2 : Int)) <|
  .need (((0 : Nat) + 2 : Nat) ≤ 2) <|
  let y1223 : (List Int) := [8, 8]
  let y1224 : (Int × (DOperand × (DOperand × (Int × Int)))) := x.2.2
  let y1225 : Int := y1224.1
  let y1226 : ((List Int) × Int) := (y1223, y1225)
  .need (pre99 y1226) <|
  let y1227 : Bool := ((fn99 y1226) == true)
  .ite y1227 (
  let y1228 : (DOperand × (DOperand × (Int × Int))) := y1224.2
  let y1229 : DOperand := y1228.1
  .need (pre144 y1229) <|
  let y1230 : Bool := ((fn144 y1229) == true)
  .ite y1230 (
  let y1231 : DOperand := y1228.2.1
  .need (pre123 y1231) <|
  let y1232 : Bool := ((fn123 y1231) == true)
  .ite y1232 (
  .need (((0 : Nat) + 2 : Nat) ≤ 2) <|
  .need (((0 : Nat) + 1 : Nat) ≤ 1) <|
  let y1233 : (Int × Unit) := (0, ())
  let y1234 : ((List Int) × (Int × Unit)) := (y1223, y1233)
  let y1235 : (Int × (Int × Int)) := (0, (0, 4))
  let y1236 : (((List Int) × (Int × Unit)) × ((Unit × (Unit × ((List Int) × (Int × (Int × Int))))) × Bool)) := (y1234, (((), ((), ([233], y1235))), true))
  .ret (.inr y1236)) (
  .ret (.inl (.h13 y1223 [233] [255])))) (
  .ret (.inl (.h13 y1223 [233] [255])))) (
  .ret (.inl (.h13 y1223 [233] [255])))) (
  let y1237 : Bool := (ieq x.1 29)
  .ite y1237 (
  .need ((0 : Nat) < 2) <|
  .need ((1 : Nat) < 2) <|
  .need ((0 : Nat) < 2) <|
  .need ((1 : Nat) < 2) <|
  .need ((0 : Int) ≤ 0) <|
  .need (0 < (1 : Int)) <|
  .need ((0 : Int) ≤ 0) <|
  .need (0 < (1 : Int)) <|
  .need (((0 : Nat) + 2 : Nat) ≤ 2) <|
  let y1238 : (List Int) := [8, 8]
  let y1239 : (Int × (DOperand × (DOperand × (Int × Int)))) := x.2.2
  let y1240 : Int := y1239.1
  let y1241 : ((List Int) × Int) := (y1238, y1240)
  .need (pre99 y1241) <|
  let y1242 : Bool := ((fn99 y1241) == true)
  .ite y1242 (
  let y1243 : (DOperand × (DOperand × (Int × Int))) := y1239.2
  let y1244 : DOperand := y1243.1
  .need (pre144 y1244) <|
  let y1245 : Bool := ((fn144 y1244) == true)
  .ite y1245 (
  let y1246 : DOperand := y1243.2.1
  .need (pre123 y1246) <|
  let y1247 : Bool := ((fn123 y1246) == true)
  .ite y1247 (
  .need (((0 : Nat) + 2 : Nat) ≤ 2) <|
  .need (((0 : Nat) + 2 : Nat) ≤ 2) <|
  let y1248 : (Int × Unit) := (0, ())
  let y1249 : ((List Int) × (Int × Unit)) := (y1238, y1248)
  let y1250 : Int := (iand .u8 x.2.1 15)
  let y1251 : (List Int) := [15, (iadd .u8 128 y1250)]
  let y1252 : (Int × (Int × Int)) := (0, (0, 4))
  let y1253 : (((List Int) × (Int × Unit)) × ((Unit × (Unit × ((List Int) × (Int × (Int × Int))))) × Bool)) := (y1249, (((), ((), (y1251, y1252))), true))
  .ret (.inr y1253)) (
  let y1254 : Int := (iand .u8 x.2.1 15)
  let y1255 : (List Int) := [15, (iadd .u8 128 y1254)]
  .ret (.inl (.h14 y1238 y1255)))) (
  let y1256 : Int := (iand .u8 x.2.1 15)
  let y1257 : (List Int) := [15, (iadd .u8 128 y1256)]
  .ret (.inl (.h14 y1238 y1257)))) (
  let y1258 : Int := (iand .u8 x.2.1 15)
  let y1259 : (List Int) := [15, (iadd .u8 128 y1258)]
  .ret (.inl (.h14 y1238 y1259)))) (
  let y1260 : Bool := (ieq x.1 27)
  .ite y1260 (
  .need ((0 : Nat) < 1) <|
  .need ((0 : Nat) < 2) <|
  .need ((1 : Nat) < 2) <|
  .need ((0 : Int) ≤ 0) <|
  .need (0 < (1 : Int)) <|
  .need ((0 : Int) ≤ 0) <|
  .need (0 < (1 : Int)) <|
  .need (((0 : Nat) + 2 : Nat) ≤ 2) <|
  let y1261 : (List Int) := [8, 8]
  let y1262 : (Int × (DOperand × (DOperand × (Int × Int)))) := x.2.2
  let y1263 : Int := y1262.1
  let y1264 : ((List Int) × Int) := (y1261, y1263)
  .need (pre99 y1264) <|
  let y1265 : Bool := ((fn99 y1264) == true)
  .ite y1265 (
  let y1266 : (DOperand × (DOperand × (Int × Int))) := y1262.2
  let y1267 : DOperand := y1266.1
  .need (pre144 y1267) <|
  let y1268 : Bool := ((fn144 y1267) == true)
  .ite y1268 (
  let y1269 : DOperand := y1266.2.1
  .need (pre144 y1269) <|
  let y1270 : Bool := ((fn144 y1269) == true)
  .ite y1270 (
  .need (((0 : Nat) + 2 : Nat) ≤ 2) <|
  .need (((0 : Nat) + 1 : Nat) ≤ 1) <|
  let y1271 : (Int × Unit) := (0, ())
  let y1272 : ((List Int) × (Int × Unit)) := (y1261, y1271)
  let y1273 : (Int × (Int × Int)) := (0, (0, 0))
  let y1274 : (((List Int) × (Int × Unit)) × ((Unit × (Unit × ((List Int) × (Int × (Int × Int))))) × Bool)) := (y1272, (((), ((), ([195], y1273))), true))
  .ret (.inr y1274)) (
  .ret (.inl (.h15 y1261 [195])))) (
  .ret (.inl (.h15 y1261 [195])))) (
  .ret (.inl (.h15 y1261 [195])))) (
  let y1275 : Bool := (ieq x.1 34)
  .ite y1275 (
  .need ((0 : Nat) < 1) <|
  .need ((0 : Nat) < 2) <|
  .need ((1 : Nat) < 2) <|
  .need ((0 : Int) ≤ 0) <|
  .need (0 < (1 : Int)) <|
  .need ((0 : Int) ≤ 0) <|
  .need (0 < (1 : Int)) <|
  .need (((0 : Nat) + 2 : Nat) ≤ 2) <|
  let y1276 : (List Int) := [8, 8]
  let y1277 : (Int × (DOperand × (DOperand × (Int × Int)))) := x.2.2
  let y1278 : Int := y1277.1
  let y1279 : ((List Int) × Int) := (y1276, y1278)
  .need (pre99 y1279) <|
  let y1280 : Bool := ((fn99 y1279) == true)
  .ite y1280 (
  let y1281 : (DOperand × (DOperand × (Int × Int))) := y1277.2
  let y1282 : DOperand := y1281.1
  .need (pre144 y1282) <|
  let y1283 : Bool := ((fn144 y1282) == true)
  .ite y1283 (
  let y1284 : DOperand := y1281.2.1
  .need (pre144 y1284) <|
  let y1285 : Bool := ((fn144 y1284) == true)
  .ite y1285 (
  .need (((0 : Nat) + 2 : Nat) ≤ 2) <|
  .need (((0 : Nat) + 1 : Nat) ≤ 1) <|
  let y1286 : (Int × Unit) := (0, ())
  let y1287 : ((List Int) × (Int × Unit)) := (y1276, y1286)
  let y1288 : (Int × (Int × Int)) := (0, (0, 0))
  let y1289 : (((List Int) × (Int × Unit)) × ((Unit × (Unit × ((List Int) × (Int × (Int × Int))))) × Bool)) := (y1287, (((), ((), ([144], y1288))), true))
  .ret (.inr y1289)) (
  .ret (.inl (.h15 y1276 [144])))) (
  .ret (.inl (.h15 y1276 [144])))) (
  .ret (.inl (.h15 y1276 [144])))) (
  let y1290 : Bool := (ieq x.1 24)
  .ite y1290 (
  .need ((0 : Nat) < 1) <|
  .need ((0 : Nat) < 2) <|
  .need ((1 : Nat) < 2) <|
  .need ((0 : Int) ≤ 0) <|
  .need (0 < (1 : Int)) <|
  .need ((0 : Int) ≤ 0) <|
  .need (0 < (1 : Int)) <|
  .need (((0 : Nat) + 2 : Nat) ≤ 2) <|
  let y1291 : (List Int) := [8, 8]
  let y1292 : (Int × (DOperand × (DOperand × (Int × Int)))) := x.2.2
  let y1293 : Int := y1292.1
  let y1294 : ((List Int) × Int) := (y1291, y1293)
  .need (pre99 y1294) <|
  let y1295 : Bool := ((fn99 y1294) == true)
  .ite y1295 (
  let y1296 : (DOperand × (DOperand × (Int × Int))) := y1292.2
  let y1297 : DOperand := y1296.1
  .need (pre120 y1297) <|
  let y1298 : Bool := ((fn120 y1297) == true)
  .ite y1298 (
  let y1299 : DOperand := y1296.2.1
  .need (pre144 y1299) <|
  let y1300 : Bool := ((fn144 y1299) == true)
  .ite y1300 (
  .need (((0 : Nat) + 2 : Nat) ≤ 2) <|
  .need (((0 : Nat) + 1 : Nat) ≤ 1) <|
  let y1301 : (Int × Unit) := (0, ())
  let y1302 : ((List Int) × (Int × Unit)) := (y1291, y1301)
  let y1303 : (Int × (Int × Int)) := (0, (3, 0))
  let y1304 : (((List Int) × (Int × Unit)) × ((Unit × (Unit × ((List Int) × (Int × (Int × Int))))) × Bool)) := (y1302, (((), ((), ([80], y1303))), true))
  .ret (.inr y1304)) (
  .ret (.inl (.h16 y1291 [80])))) (
  .ret (.inl (.h16 y1291 [80])))) (
  .ret (.inl (.h16 y1291 [80])))) (
  .need ((0 : Nat) < 1) <|
  .need ((0 : Nat) < 2) <|
  .need ((1 : Nat) < 2) <|
  .need ((0 : Int) ≤ 0) <|
  .need (0 < (1 : Int)) <|
  .need ((0 : Int) ≤ 0) <|
  .need (0 < (1 : Int)) <|
  .need (((0 : Nat) + 2 : Nat) ≤ 2) <|
  let y1305 : (List Int) := [8, 8]
  let y1306 : (Int × (DOperand × (DOperand × (Int × Int)))) := x.2.2
  let y1307 : Int := y1306.1
  let y1308 : ((List Int) × Int) := (y1305, y1307)
  .need (pre99 y1308) <|
  let y1309 : Bool := ((fn99 y1308) == true)
  .ite y1309 (
  let y1310 : (DOperand × (DOperand × (Int × Int))) := y1306.2
  let y1311 : DOperand := y1310.1
  .need (pre120 y1311) <|
  let y1312 : Bool := ((fn120 y1311) == true)
  .ite y1312 (
  let y1313 : DOperand := y1310.2.1
  .need (pre144 y1313) <|
  let y1314 : Bool := ((fn144 y1313) == true)
  .ite y1314 (
  .need (((0 : Nat) + 2 : Nat) ≤ 2) <|
  .need (((0 : Nat) + 1 : Nat) ≤ 1) <|
  let y1315 : (Int × Unit) := (0, ())
  let y1316 : ((List Int) × (Int × Unit)) := (y1305, y1315)
  let y1317 : (Int × (Int × Int)) := (0, (3, 0))
  let y1318 : (((List Int) × (Int × Unit)) × ((Unit × (Unit × ((List Int) × (Int × (Int × Int))))) × Bool)) := (y1316, (((), ((), ([88], y1317))), true))
  .ret (.inr y1318)) (
  .ret (.inl (.h16 y1305 [88])))) (
  .ret (.inl (.h16 y1305 [88])))) (
  .ret (.inl (.h16 y1305 [88]))))))))))) (
  .ite y667 (
  .need ((0 : Nat) < 1) <|
  .need ((0 : Nat) < 2) <|
  .need ((1 : Nat) < 2) <|
  .need ((0 : Int) ≤ 0) <|
  .need (0 < (1 : Int)) <|
  .need ((0 : Int) ≤ 0) <|
  .need (0 < (1 : Int)) <|
  .need (((0 : Nat) + 2 : Nat) ≤ 2) <|
  let y1319 : (List Int) := [8, 8]
  let y1320 : (Int × (DOperand × (DOperand × (Int × Int)))) := x.2.2
  let y1321 : Int := y1320.1
  let y1322 : ((List Int) × Int) := (y1319, y1321)
  .need (pre99 y1322) <|
  let y1323 : Bool := ((fn99 y1322) == true)
  .ite y1323 (
  let y1324 : (DOperand × (DOperand × (Int × Int))) := y1320.2
  let y1325 : DOperand := y1324.1
  .need (pre144 y1325) <|
  let y1326 : Bool := ((fn144 y1325) == true)
  .ite y1326 (
  let y1327 : DOperand := y1324.2.1
  .need (pre123 y1327) <|
  let y1328 : Bool := ((fn123 y1327) == true)
  .ite y1328 (
  .need (((0 : Nat) + 2 : Nat) ≤ 2) <|
  .need (((0 : Nat) + 1 : Nat) ≤ 1) <|
  let y1329 : (Int × Unit) := (0, ())
  let y1330 : ((List Int) × (Int × Unit)) := (y1319, y1329)
  let y1331 : (Int × (Int × Int)) := (0, (0, 4))
  let y1332 : (((List Int) × (Int × Unit)) × ((Unit × (Unit × ((List Int) × (Int × (Int × Int))))) × Bool)) := (y1330, (((), ((), ([232], y1331))), true))
  .ret (.inr y1332)) (
  .ret (.inl (.h12 y1319 [232])))) (
  .ret (.inl (.h12 y1319 [232])))) (
  .ret (.inl (.h12 y1319 [232])))) (
  let y1333 : Bool := (ieq x.1 28)
  .ite y1333 (
  .need ((0 : Nat) < 1) <|
  .need ((0 : Nat) < 1) <|
  .need ((0 : Nat) < 2) <|
  .need ((1 : Nat) < 2) <|
  .need ((0 : Int) ≤ 0) <|
  .need (0 < (1 : Int)) <|
  .need ((0 : Int) ≤ 0) <|
  .need (0 < (2 : Int)) <|
  .need (((0 : Nat) + 2 : Nat) ≤ 2) <|
  let y1334 : (List Int) := [8, 8]
  let y1335 : (Int × (DOperand × (DOperand × (Int × Int)))) := x.2.2
  let y1336 : Int := y1335.1
  let y1337 : ((List Int) × Int) := (y1334, y1336)
  .need (pre99 y1337) <|
  let y1338 : Bool := ((fn99 y1337) == true)
  .ite y1338 (
  let y1339 : (DOperand × (DOperand × (Int × Int))) := y1335.2
  let y1340 : DOperand := y1339.1
  .need (pre144 y1340) <|
  let y1341 : Bool := ((fn144 y1340) == true)
  .ite y1341 (
  let y1342 : DOperand := y1339.2.1
  .need (pre123 y1342) <|
  let y1343 : Bool := ((fn123 y1342) == true)
  .ite y1343 (
  .need (((0 : Nat) + 2 : Nat) ≤ 2) <|
  .need (((0 : Nat) + 1 : Nat) ≤ 1) <|
  let y1344 : (Int × Unit) := (0, ())
  let y1345 : ((List Int) × (Int × Unit)) := (y1334, y1344)
  let y1346 : (Int × (Int × Int)) := (0, (0, 4))
  let y1347 : (((List Int) × (Int × Unit)) × ((Unit × (Unit × ((List Int) × (Int × (Int × Int))))) × Bool)) := (y1345, (((), ((), ([233], y1346))), true))
  .ret (.inr y1347)) (
  .ret (.inl (.h13 y1334 [233] [255])))) (
  .ret (.inl (.h13 y1334 [233] [255])))) (
  .ret (.inl (.h13 y1334 [233] [255])))) (
  let y1348 : Bool := (ieq x.1 29)
  .ite y1348 (
  .need ((0 : Nat) < 2) <|
  .need ((1 : Nat) < 2) <|
  .need ((0 : Nat) < 2) <|
  .need ((1 : Nat) < 2) <|
  .need ((0 : Int) ≤ 0) <|
  .need (0 < (1 : Int)) <|
  .need ((0 : Int) ≤ 0) <|
  .need (0 < (1 : Int)) <|
  .need (((0 : Nat) + 2 : Nat) ≤ 2) <|
  let y1349 : (List Int) := [8, 8]
  let y1350 : (Int × (DOperand × (DOperand × (Int × Int)))) := x.2.2
  let y1351 : Int := y1350.1
  let y1352 : ((List Int) × Int) := (y1349, y1351)
  .need (pre99 y1352) <|
  let y1353 : Bool := ((fn99 y1352) == true)
  .ite y1353 (
  let y1354 : (DOperand × (DOperand × (Int × Int))) := y1350.2
  let y1355 : DOperand := y1354.1
  .need (pre144 y1355) <|
  let y1356 : Bool := ((fn144 y1355) == true)
  .ite y1356 (
  let y1357 : DOperand := y1354.2.1
  .need (pre123 y1357) <|
  let y1358 : Bool := ((fn123 y1357) == true)
  .ite y1358 (
  .need (((0 : Nat) + 2 : Nat) ≤ 2) <|
  .need (((0 : Nat) + 2 : Nat) ≤ 2) <|
  let y1359 : (Int × Unit) := (0, ())
  let y1360 : ((List Int) × (Int × Unit)) := (y1349, y1359)
  let y1361 : Int := (iand .u8 x.2.1 15)
  let y1362 : (List Int) := [15, (iadd .u8 128 y1361)]
  let y1363 : (Int × (Int × Int)) := (0, (0, 4))
  let y1364 : (((List Int) × (Int × Unit)) × ((Unit × (Unit × ((List Int) × (Int × (Int × Int))))) × Bool)) := (y1360, (((), ((), (y1362, y1363))), true))
  .ret (.inr y1364)) (
  let y1365 : Int := (iand .u8 x.2.1 15)
  let y1366 : (List Int) := [15, (iadd .u8 128 y1365)]
  .ret (.inl (.h14 y1349 y1366)))) (
  let y1367 : Int := (iand .u8 x.2.1 15)
  let y1368 : (List Int) := [15, (iadd .u8 128 y1367)]
  .ret (.inl (.h14 y1349 y1368)))) (
  let y1369 : Int := (iand .u8 x.2.1 15)
  let y1370 : (List Int) := [15, (iadd .u8 128 y1369)]
  .ret (.inl (.h14 y1349 y1370)))) (
  let y1371 : Bool := (ieq x.1 27)
  .ite y1371 (
  .need ((0 : Nat) < 1) <|
  .need ((0 : Nat) < 2) <|
  .need ((1 : Nat) < 2) <|
  .need ((0 : Int) ≤ 0) <|
  .need (0 < (1 : Int)) <|
  .need ((0 : Int) ≤ 0) <|
  .need (0 < (1 : Int)) <|
  .need (((0 : Nat) + 2 : Nat) ≤ 2) <|
  let y1372 : (List Int) := [8, 8]
  let y1373 : (Int × (DOperand × (DOperand × (Int × Int)))) := x.2.2
  let y1374 : Int := y1373.1
  let y1375 : ((List Int) × Int) := (y1372, y1374)
  .need (pre99 y1375) <|
  let y1376 : Bool := ((fn99 y1375) == true)
  .ite y1376 (
  let y1377 : (DOperand × (DOperand × (Int × Int))) := y1373.2
  let y1378 : DOperand := y1377.1
  .need (pre144 y1378) <|
  let y1379 : Bool := ((fn144 y1378) == true)
  .ite y1379 (
  let y1380 : DOperand := y1377.2.1
  .need (pre144 y1380) <|
  let y1381 : Bool := ((fn144 y1380) == true)
  .ite y1381 (
  .need (((0 : Nat) + 2 : Nat) ≤ 2) <|
  .need (((0 : Nat) + 1 : Nat) ≤ 1) <|
  let y1382 : (Int × Unit) := (0, ())
  let y1383 : ((List Int) × (Int × Unit)) := (y1372, y1382)
  let y1384 : (Int × (Int × Int)) := (0, (0, 0))
  let y1385 : (((List Int) × (Int × Unit)) × ((Unit × (Unit × ((List Int) × (Int × (Int × Int))))) × Bool)) := (y1383, (((), ((), ([195], y1384))), true))
  .ret (.inr y1385)) (
  .ret (.inl (.h15 y1372 [195])))) (
  .ret (.inl (.h15 y1372 [195])))) (
  .ret (.inl (.h15 y1372 [195])))) (
  let y1386 : Bool := (ieq x.1 34)
  .ite y1386 (
  .need ((0 : Nat) < 1) <|
  .need ((0 : Nat) < 2) <|
  .need ((1 : Nat) < 2) <|
  .need ((0 : Int) ≤ 0) <|
  .need (0 < (1 : Int)) <|
  .need ((0 : Int) ≤ 0) <|
  .need (0 < (1 : Int)) <|
  .need (((0 : Nat) + 2 : Nat) ≤ 2) <|
  let y1387 : (List Int) := [8, 8]
  let y1388 : (Int × (DOperand × (DOperand × (Int × Int)))) := x.2.2
  let y1389 : Int := y1388.1
  let y1390 : ((List Int) × Int) := (y1387, y1389)
  .need (pre99 y1390) <|
  let y1391 : Bool := ((fn99 y1390) == true)
  .ite y1391 (
  let y1392 : (DOperand × (DOperand × (Int × Int))) := y1388.2
  let y1393 : DOperand := y1392.1
  .need (pre144 y1393) <|
  let y1394 : Bool := ((fn144 y1393) == true)
  .ite y1394 (
  let y1395 : DOperand := y1392.2.1
  .need (pre144 y1395) <|
  let y1396 : Bool := ((fn144 y1395) == true)
  .ite y1396 (
  .need (((0 : Nat) + 2 : Nat) ≤ 2) <|
  .need (((0 : Nat) + 1 : Nat) ≤ 1) <|
  let y1397 : (Int × Unit) := (0, ())
  let y1398 : ((List Int) × (Int × Unit)) := (y1387, y1397)
  let y1399 : (Int × (Int × Int)) := (0, (0, 0))
  let y1400 : (((List Int) × (Int × Unit)) × ((Unit × (Unit × ((List Int) × (Int × (Int × Int))))) × Bool)) := (y1398, (((), ((), ([144], y1399))), true))
  .ret (.inr y1400)) (
  .ret (.inl (.h15 y1387 [144])))) (
  .ret (.inl (.h15 y1387 [144])))) (
  .ret (.inl (.h15 y1387 [144])))) (
  let y1401 : Bool := (ieq x.1 24)
  .ite y1401 (
  .need ((0 : Nat) < 1) <|
  .need ((0 : Nat) < 2) <|
  .need ((1 : Nat) < 2) <|
  .need ((0 : Int) ≤ 0) <|
  .need (0 < (1 : Int)) <|
  .need ((0 : Int) ≤ 0) <|
  .need (0 < (1 : Int)) <|
  .need (((0 : Nat) + 2 : Nat) ≤ 2) <|
  let y1402 : (List Int) := [8, 8]
  let y1403 : (Int × (DOperand × (DOperand × (Int × Int)))) := x.2.2
  let y1404 : Int := y1403.1
  let y1405 : ((List Int) × Int) := (y1402, y1404)
  .need (pre99 y1405) <|
  let y1406 : Bool := ((fn99 y1405) == true)
  .ite y1406 (
  let y1407 : (DOperand × (DOperand × (Int × Int))) := y1403.2
  let y1408 : DOperand := y1407.1
  .need (pre120 y1408) <|
  let y1409 : Bool := ((fn120 y1408) == true)
  .ite y1409 (
  let y1410 : DOperand := y1407.2.1
  .need (pre144 y1410) <|
  let y1411 : Bool := ((fn144 y1410) == true)
  .ite y1411 (
  .need (((0 : Nat) + 2 : Nat) ≤ 2) <|
  .need (((0 : Nat) + 1 : Nat) ≤ 1) <|
  let y1412 : (Int × Unit) := (0, ())
  let y1413 : ((List Int) × (Int × Unit)) := (y1402, y1412)
  let y1414 : (Int × (Int × Int)) := (0, (3, 0))
  let y1415 : (((List Int) × (Int × Unit)) × ((Unit × (Unit × ((List Int) × (Int × (Int × Int))))) × Bool)) := (y1413, (((), ((), ([80], y1414))), true))
  .ret (.inr y1415)) (
  .ret (.inl (.h16 y1402 [80])))) (
  .ret (.inl (.h16 y1402 [80])))) (
  .ret (.inl (.h16 y1402 [80])))) (
  .need ((0 : Nat) < 1) <|
  .need ((0 : Nat) < 2) <|
  .need ((1 : Nat) < 2) <|
  .need ((0 : Int) ≤ 0) <|
  .need (0 < (1 : Int)) <|
  .need ((0 : Int) ≤ 0) <|
  .need (0 < (1 : Int)) <|
  .need (((0 : Nat) + 2 : Nat) ≤ 2) <|
  let y1416 : (List Int) := [8, 8]
  let y1417 : (Int × (DOperand × (DOperand × (Int × Int)))) := x.2.2
  let y1418 : Int := y1417.1
  let y1419 : ((List Int) × Int) := (y1416, y1418)
  .need (pre99 y1419) <|
  let y1420 : Bool := ((fn99 y1419) == true)
  .ite y1420 (
  let y1421 : (DOperand × (DOperand × (Int × Int))) := y1417.2
  let y1422 : DOperand := y1421.1
  .need (pre120 y1422) <|
  let y1423 : Bool := ((fn120 y1422) == true)
  .ite y1423 (
  let y1424 : DOperand := y1421.2.1
  .need (pre144 y1424) <|
  let y1425 : Bool := ((fn144 y1424) == true)
  .ite y1425 (
  .need (((0 : Nat) + 2 : Nat) ≤ 2) <|
  .need (((0 : Nat) + 1 : Nat) ≤ 1) <|
  let y1426 : (Int × Unit) := (0, ())
  let y1427 : ((List Int) × (Int × Unit)) := (y1416, y1426)
  let y1428 : (Int × (Int × Int)) := (0, (3, 0))
  let y1429 : (((List Int) × (Int × Unit)) × ((Unit × (Unit × ((List Int) × (Int × (Int × Int))))) × Bool)) := (y1427, (((), ((), ([88], y1428))), true))
  .ret (.inr y1429)) (
  .ret (.inl (.h16 y1416 [88])))) (
  .ret (.inl (.h16 y1416 [88])))) (
  .ret (.inl (.h16 y1416 [88])))))))))))))))))))))))))))))))))))
  | .h1 v43 v59 v65 v68 v69 v70 v71 =>
  .need ((0 : Int) ≤ 1) <|
  .need (1 < (4 : Int)) <|
  .need (((0 : Nat) + 2 : Nat) ≤ 2) <|
  let y0 : (List Int) := (v43.take 2)
  let y1 : (Int × (DOperand × (DOperand × (Int × Int)))) := x.2.2
  let y2 : ((List Int) × Int) := (y0, y1.1)
  .need (pre99 y2) <|
  .ite ((fn99 y2) == true) (
  let y3 : (DOperand × (DOperand × (Int × Int))) := y1.2
  let y4 : DOperand := y3.1
  .need (pre120 y4) <|
  .ite ((fn120 y4) == true) (
  let y5 : DOperand := y3.2.1
  .need (pre121 y5) <|
  .ite ((fn121 y5) == true) (
  .need (((0 : Nat) + 2 : Nat) ≤ 2) <|
  .need (((0 : Nat) + 1 : Nat) ≤ 1) <|
  .ret (.inr ((y0, (0, ())), (((), ((), ((v69.take 1), ((-1), (2, 0))))), true)))) (
  .ret (.inl (.h18 v43 v59 v65 v68 v69 v70 v71)))) (
  .ret (.inl (.h18 v43 v59 v65 v68 v69 v70 v71)))) (
  .ret (.inl (.h18 v43 v59 v65 v68 v69 v70 v71)))
  | .h2 v43 v62 v63 v64 v86 v105 v106 v107 v108 v115 =>
  .need ((0 : Int) ≤ 1) <|
  .need (1 < (3 : Int)) <|
  .need (((0 : Nat) + 1 : Nat) ≤ 1) <|
  let y0 : (List Int) := (v43.take 1)
  let y1 : (Int × (DOperand × (DOperand × (Int × Int)))) := x.2.2
  let y2 : ((List Int) × Int) := (y0, y1.1)
  .need (pre99 y2) <|
  .ite ((fn99 y2) == true) (
  let y3 : (DOperand × (DOperand × (Int × Int))) := y1.2
  let y4 : DOperand := y3.1
  .need (pre120 y4) <|
  .ite ((fn120 y4) == true) (
  let y5 : DOperand := y3.2.1
  .need (pre121 y5) <|
  .ite ((fn121 y5) == true) (
  .need (((0 : Nat) + 1 : Nat) ≤ 1) <|
  .need (((0 : Nat) + 1 : Nat) ≤ 1) <|
  .ret (.inr ((y0, (0, ())), (((), ((), ((v63.take 1), ((-1), (2, 0))))), true)))) (
  .ret (.inl (.h19 v43 v62 v63 v64 v86 v105 v106 v107 v108 v115)))) (
  .ret (.inl (.h19 v43 v62 v63 v64 v86 v105 v106 v107 v108 v115)))) (
  .ret (.inl (.h19 v43 v62 v63 v64 v86 v105 v106 v107 v108 v115)))
  | .h3 v43 v50 =>
  .ret (.inl (.h17))
  | .h4 v43 v56 v57 =>
  .need ((0 : Int) ≤ 1) <|
  .need (1 < (2 : Int)) <|
  .need (((0 : Nat) + 2 : Nat) ≤ 2) <|
  let y0 : (List Int) := (v43.take 2)
  let y1 : (Int × (DOperand × (DOperand × (Int × Int)))) := x.2.2
  let y2 : ((List Int) × Int) := (y0, y1.1)
  .need (pre99 y2) <|
  .ite ((fn99 y2) == true) (
  let y3 : (DOperand × (DOperand × (Int × Int))) := y1.2
  let y4 : DOperand := y3.1
  .need (pre119 y4) <|
  .ite ((fn119 y4) == true) (
  let y5 : DOperand := y3.2.1
  .need (pre123 y5) <|
  .ite ((fn123 y5) == true) (
  .need (((0 : Nat) + 2 : Nat) ≤ 2) <|
  .need (((0 : Nat) + 1 : Nat) ≤ 1) <|
  .ret (.inr ((y0, (0, ())), (((), ((), ((v57.take 1), (0, (1, 4))))), true)))) (
  .ret (.inl (.h20 v43 v56 v57)))) (
  .ret (.inl (.h20 v43 v56 v57)))) (
  .ret (.inl (.h20 v43 v56 v57)))
  | .h5 v43 v47 v50 =>
  .ret (.inl (.h17))
  | .h6 v43 v47 v53 v56 v57 =>
  .need ((0 : Int) ≤ 1) <|
  .need (1 < (2 : Int)) <|
  .need (((0 : Nat) + 2 : Nat) ≤ 2) <|
  let y0 : (List Int) := (v43.take 2)
  let y1 : (Int × (DOperand × (DOperand × (Int × Int)))) := x.2.2
  let y2 : ((List Int) × Int) := (y0, y1.1)
  .need (pre99 y2) <|
  .ite ((fn99 y2) == true) (
  let y3 : (DOperand × (DOperand × (Int × Int))) := y1.2
  let y4 : DOperand := y3.1
  .need (pre119 y4) <|
  .ite ((fn119 y4) == true) (
  let y5 : DOperand := y3.2.1
  .need (pre130 y5) <|
  .ite ((fn130 y5) == true) (
  .need (((0 : Nat) + 2 : Nat) ≤ 2) <|
  .need (((0 : Nat) + 1 : Nat) ≤ 1) <|
  .ret (.inr ((y0, (0, ())), (((), ((), ((v57.take 1), (v53, (1, 0))))), true)))) (
  .ret (.inl (.h21 v43 v47 v53 v56 v57)))) (
  .ret (.inl (.h21 v43 v47 v53 v56 v57)))) (
  .ret (.inl (.h21 v43 v47 v53 v56 v57)))
  | .h7 v43 v50 =>
  .ret (.inl (.h17))
  | .h8 v43 v50 =>
  .ret (.inl (.h17))
  | .h9 v43 v56 v57 =>
  .need ((0 : Int) ≤ 1) <|
  .need (1 < (2 : Int)) <|
  .need (((0 : Nat) + 1 : Nat) ≤ 1) <|
  let y0 : (List Int) := (v43.take 1)
  let y1 : (Int × (DOperand × (DOperand × (Int × Int)))) := x.2.2
  let y2 : ((List Int) × Int) := (y0, y1.1)
  .need (pre99 y2) <|
  .ite ((fn99 y2) == true) (
  let y3 : (DOperand × (DOperand × (Int × Int))) := y1.2
  let y4 : DOperand := y3.1
  .need (pre121 y4) <|
  .ite ((fn121 y4) == true) (
  let y5 : DOperand := y3.2.1
  .need (pre126 y5) <|
  .ite ((fn126 y5) == true) (
  .need (((0 : Nat) + 1 : Nat) ≤ 1) <|
  .need (((0 : Nat) + 2 : Nat) ≤ 2) <|
  .ret (.inr ((y0, (243, ())), (((), ((), ((v57.take 2), ((-1), (1, 0))))), true)))) (
  .ret (.inl (.h22 v43 v56 v57)))) (
  .ret (.inl (.h22 v43 v56 v57)))) (
  .ret (.inl (.h22 v43 v56 v57)))
  | .h10 v43 v50 =>
  .ret (.inl (.h17))
  | .h11 v43 v49 v50 =>
  .ret (.inl (.h17))
  | .h12 v43 v50 =>
  .ret (.inl (.h17))
  | .h13 v43 v56 v57 =>
  .need ((0 : Int) ≤ 1) <|
  .need (1 < (2 : Int)) <|
  .need (((0 : Nat) + 2 : Nat) ≤ 2) <|
  let y0 : (List Int) := (v43.take 2)
  let y1 : (Int × (DOperand × (DOperand × (Int × Int)))) := x.2.2
  let y2 : ((List Int) × Int) := (y0, y1.1)
  .need (pre99 y2) <|
  .ite ((fn99 y2) == true) (
  let y3 : (DOperand × (DOperand × (Int × Int))) := y1.2
  let y4 : DOperand := y3.1
  .need (pre119 y4) <|
  .ite ((fn119 y4) == true) (
  let y5 : DOperand := y3.2.1
  .need (pre144 y5) <|
  .ite ((fn144 y5) == true) (
  .need (((0 : Nat) + 2 : Nat) ≤ 2) <|
  .need (((0 : Nat) + 1 : Nat) ≤ 1) <|
  .ret (.inr ((y0, (0, ())), (((), ((), ((v57.take 1), (4, (1, 0))))), true)))) (
  .ret (.inl (.h23 v43 v56 v57)))) (
  .ret (.inl (.h23 v43 v56 v57)))) (
  .ret (.inl (.h23 v43 v56 v57)))
  | .h14 v43 v50 =>
  .ret (.inl (.h17))
  | .h15 v43 v50 =>
  .ret (.inl (.h17))
  | .h16 v43 v50 =>
  .ret (.inl (.h17))
  | .h17 =>
  .ret (.inr ((([] : List Int), (0, ())), (((), ((), (([] : List Int), (0, (0, 0))))), false)))
  | .h18 v43 v59 v65 v68 v69 v70 v71 =>
  .need ((0 : Int) ≤ 2) <|
  .need (2 < (4 : Int)) <|
  .need (((0 : Nat) + 2 : Nat) ≤ 2) <|
  let y0 : (List Int) := (v43.take 2)
  let y1 : (Int × (DOperand × (DOperand × (Int × Int)))) := x.2.2
  let y2 : ((List Int) × Int) := (y0, y1.1)
  .need (pre99 y2) <|
  .ite ((fn99 y2) == true) (
  let y3 : (DOperand × (DOperand × (Int × Int))) := y1.2
  let y4 : DOperand := y3.1
  .need (pre119 y4) <|
  .ite ((fn119 y4) == true) (
  let y5 : DOperand := y3.2.1
  .need (pre122 y5) <|
  .ite ((fn122 y5) == true) (
  .need (((0 : Nat) + 2 : Nat) ≤ 2) <|
  .need (((0 : Nat) + 1 : Nat) ≤ 1) <|
  .ret (.inr ((y0, (0, ())), (((), ((), ((v70.take 1), (v59, (1, 1))))), true)))) (
  .ret (.inl (.h24 v43 v59 v65 v68 v69 v70 v71)))) (
  .ret (.inl (.h24 v43 v59 v65 v68 v69 v70 v71)))) (
  .ret (.inl (.h24 v43 v59 v65 v68 v69 v70 v71)))
  | .h19 v43 v62 v63 v64 v86 v105 v106 v107 v108 v115 =>
  .need ((0 : Int) ≤ 2) <|
  .need (2 < (3 : Int)) <|
  .need (((0 : Nat) + 1 : Nat) ≤ 1) <|
  let y0 : (List Int) := (v43.take 1)
  let y1 : (Int × (DOperand × (DOperand × (Int × Int)))) := x.2.2
  let y2 : ((List Int) × Int) := (y0, y1.1)
  .need (pre99 y2) <|
  .ite ((fn99 y2) == true) (
  let y3 : (DOperand × (DOperand × (Int × Int))) := y1.2
  let y4 : DOperand := y3.1
  .need (pre119 y4) <|
  .ite ((fn119 y4) == true) (
  let y5 : DOperand := y3.2.1
  .need (pre122 y5) <|
  .ite ((fn122 y5) == true) (
  .need (((0 : Nat) + 1 : Nat) ≤ 1) <|
  .need (((0 : Nat) + 1 : Nat) ≤ 1) <|
  .ret (.inr ((y0, (0, ())), (((), ((), ((v64.take 1), (0, (1, 1))))), true)))) (
  .ret (.inl (.h25 v43 v62 v63 v64 v86 v105 v106 v107 v108 v115)))) (
  .ret (.inl (.h25 v43 v62 v63 v64 v86 v105 v106 v107 v108 v115)))) (
  .ret (.inl (.h25 v43 v62 v63 v64 v86 v105 v106 v107 v108 v115)))
  | .h20 v43 v56 v57 =>
  .ret (.inl (.h17))
  | .h21 v43 v47 v53 v56 v57 =>
  .ret (.inl (.h17))
  | .h22 v43 v56 v57 =>
  .ret (.inl (.h17))
  | .h23 v43 v56 v57 =>
  .ret (.inl (.h17))
  | .h24 v43 v59 v65 v68 v69 v70 v71 =>
  .need ((0 : Int) ≤ 3) <|
  .need (3 < (4 : Int)) <|
  .need (((0 : Nat) + 2 : Nat) ≤ 2) <|
  let y0 : (List Int) := (v43.take 2)
  let y1 : (Int × (DOperand × (DOperand × (Int × Int)))) := x.2.2
  let y2 : ((List Int) × Int) := (y0, y1.1)
  .need (pre99 y2) <|
  .ite ((fn99 y2) == true) (
  let y3 : (DOperand × (DOperand × (Int × Int))) := y1.2
  let y4 : DOperand := y3.1
  .need (pre119 y4) <|
  .ite ((fn119 y4) == true) (
  let y5 : DOperand := y3.2.1
  .need (pre123 y5) <|
  .ite ((fn123 y5) == true) (
  .need (((0 : Nat) + 2 : Nat) ≤ 2) <|
  .need (((0 : Nat) + 1 : Nat) ≤ 1) <|
  .ret (.inr ((y0, (0, ())), (((), ((), ((v71.take 1), (v65, (1, 4))))), true)))) (
  .ret (.inl (.h26 v43 v59 v65 v68 v69 v70 v71)))) (
  .ret (.inl (.h26 v43 v59 v65 v68 v69 v70 v71)))) (
  .ret (.inl (.h26 v43 v59 v65 v68 v69 v70 v71)))
  | .h25 v43 v62 v63 v64 v86 v105 v106 v107 v108 v115 =>
  .need ((0 : Int) ≤ 1) <|
  .need (1 < (3 : Int)) <|
  .need ((0 : Int) ≤ 0) <|
  .need (0 < (3 : Int)) <|
  .need (((0 : Nat) + 2 : Nat) ≤ 2) <|
  let y0 : (List Int) := (v86.take 2)
  let y1 : (Int × (DOperand × (DOperand × (Int × Int)))) := x.2.2
  let y2 : ((List Int) × Int) := (y0, y1.1)
  .need (pre99 y2) <|
  .ite ((fn99 y2) == true) (
  let y3 : (DOperand × (DOperand × (Int × Int))) := y1.2
  let y4 : DOperand := y3.1
  .need (pre119 y4) <|
  .ite ((fn119 y4) == true) (
  let y5 : DOperand := y3.2.1
  .need (pre120 y5) <|
  .ite ((fn120 y5) == true) (
  .need (((0 : Nat) + 2 : Nat) ≤ 2) <|
  .need (((0 : Nat) + 1 : Nat) ≤ 1) <|
  .ret (.inr ((y0, (0, ())), (((), ((), ((v105.take 1), ((-1), (1, 0))))), true)))) (
  .ret (.inl (.h27 v86 v105 v106 v107 v43 v62 v63 v64 v108 v115)))) (
  .ret (.inl (.h27 v86 v105 v106 v107 v43 v62 v63 v64 v108 v115)))) (
  .ret (.inl (.h27 v86 v105 v106 v107 v43 v62 v63 v64 v108 v115)))
  | .h26 v43 v59 v65 v68 v69 v70 v71 =>
  .ret (.inl (.h17))
  | .h27 v43 v62 v63 v64 v86 v105 v106 v107 v108 v115 =>
  .need ((0 : Int) ≤ 1) <|
  .need (1 < (3 : Int)) <|
  .need (((0 : Nat) + 2 : Nat) ≤ 2) <|
  let y0 : (List Int) := (v43.take 2)
  let y1 : (Int × (DOperand × (DOperand × (Int × Int)))) := x.2.2
  let y2 : ((List Int) × Int) := (y0, y1.1)
  .need (pre99 y2) <|
  .ite ((fn99 y2) == true) (
  let y3 : (DOperand × (DOperand × (Int × Int))) := y1.2
  let y4 : DOperand := y3.1
  .need (pre120 y4) <|
  .ite ((fn120 y4) == true) (
  let y5 : DOperand := y3.2.1
  .need (pre121 y5) <|
  .ite ((fn121 y5) == true) (
  .need (((0 : Nat) + 2 : Nat) ≤ 2) <|
  .need (((0 : Nat) + 1 : Nat) ≤ 1) <|
  .ret (.inr ((y0, (0, ())), (((), ((), ((v63.take 1), ((-1), (2, 0))))), true)))) (
  .ret (.inl (.h28 v43 v62 v63 v64 v86 v105 v106 v107 v108 v115)))) (
  .ret (.inl (.h28 v43 v62 v63 v64 v86 v105 v106 v107 v108 v115)))) (
  .ret (.inl (.h28 v43 v62 v63 v64 v86 v105 v106 v107 v108 v115)))
  | .h28 v43 v62 v63 v64 v86 v105 v106 v107 v108 v115 =>
  .need ((0 : Int) ≤ 2) <|
  .need (2 < (3 : Int)) <|
  .need (((0 : Nat) + 2 : Nat) ≤ 2) <|
  let y0 : (List Int) := (v43.take 2)
  let y1 : (Int × (DOperand × (DOperand × (Int × Int)))) := x.2.2
  let y2 : ((List Int) × Int) := (y0, y1.1)
  .need (pre99 y2) <|
  .ite ((fn99 y2) == true) (
  let y3 : (DOperand × (DOperand × (Int × Int))) := y1.2
  let y4 : DOperand := y3.1
  .need (pre119 y4) <|
  .ite ((fn119 y4) == true) (
  let y5 : DOperand := y3.2.1
  .need (pre123 y5) <|
  .ite ((fn123 y5) == true) (
  .need (((0 : Nat) + 2 : Nat) ≤ 2) <|
  .need (((0 : Nat) + 1 : Nat) ≤ 1) <|
  .ret (.inr ((y0, (0, ())), (((), ((), ((v64.take 1), (0, (1, 4))))), true)))) (
  .ret (.inl (.h29 v43 v62 v63 v64 v86 v105 v106 v107 v108 v115)))) (
  .ret (.inl (.h29 v43 v62 v63 v64 v86 v105 v106 v107 v108 v115)))) (
  .ret (.inl (.h29 v43 v62 v63 v64 v86 v105 v106 v107 v108 v115)))
  | .h29 v43 v62 v63 v64 v86 v105 v106 v107 v108 v115 =>
  .need ((0 : Int) ≤ 2) <|
  .need (2 < (3 : Int)) <|
  .need ((0 : Int) ≤ 0) <|
  .need (0 < (1 : Int)) <|
  .need (((0 : Nat) + 1 : Nat) ≤ 1) <|
  let y0 : (List Int) := (v108.take 1)
  let y1 : (Int × (DOperand × (DOperand × (Int × Int)))) := x.2.2
  let y2 : ((List Int) × Int) := (y0, y1.1)
  .need (pre99 y2) <|
  .ite ((fn99 y2) == true) (
  let y3 : (DOperand × (DOperand × (Int × Int))) := y1.2
  let y4 : DOperand := y3.1
  .need (pre120 y4) <|
  .ite ((fn120 y4) == true) (
  let y5 : DOperand := y3.2.1
  .need (pre165 y5) <|
  .ite ((fn165 y5) == true) (
  .need (((0 : Nat) + 1 : Nat) ≤ 1) <|
  .need (((0 : Nat) + 1 : Nat) ≤ 1) <|
  .ret (.inr ((y0, (0, ())), (((), ((), ((v115.take 1), (0, (3, 8))))), true)))) (
  .ret (.inl (.h30 v108 v115 v86 v105 v106 v107 v43 v62 v63 v64)))) (
  .ret (.inl (.h30 v108 v115 v86 v105 v106 v107 v43 v62 v63 v64)))) (
  .ret (.inl (.h30 v108 v115 v86 v105 v106 v107 v43 v62 v63 v64)))
  | .h30 v43 v50 v72 v91 v92 v93 v94 v113 v114 v115 =>
  .ret (.inl (.h17))
noncomputable def cREF1_0 (x : DInsn) : AObj := .cell true 25 (.agg [1, 1, 1, 8, 8, 1, 1] [(.int .u8 x.1), (.int .u8 x.2.1), (.int .i64 x.2.2.1), (.agg [1, 1, 1, 1, 1, 1, 1, 1] [(.int .u8 x.2.2.2.1.1), (.int .i64 x.2.2.2.1.2.1), (.int .i64 x.2.2.2.1.2.2.1), (.int .i64 x.2.2.2.1.2.2.2.1), (.int .i64 x.2.2.2.1.2.2.2.2.1), (.int .i64 x.2.2.2.1.2.2.2.2.2.1), (.bool x.2.2.2.1.2.2.2.2.2.2.1), (.int .i64 x.2.2.2.1.2.2.2.2.2.2.2)]), (.agg [1, 1, 1, 1, 1, 1, 1, 1] [(.int .u8 x.2.2.2.2.1.1), (.int .i64 x.2.2.2.2.1.2.1), (.int .i64 x.2.2.2.2.1.2.2.1), (.int .i64 x.2.2.2.2.1.2.2.2.1), (.int .i64 x.2.2.2.2.1.2.2.2.2.1), (.int .i64 x.2.2.2.2.1.2.2.2.2.2.1), (.bool x.2.2.2.2.1.2.2.2.2.2.2.1), (.int .i64 x.2.2.2.2.1.2.2.2.2.2.2.2)]), (.int .u8 x.2.2.2.2.2.1), (.int .i64 x.2.2.2.2.2.2)])
noncomputable def head36 (x : DInsn) : J36 → Head
  | .h0 =>
  { fr := { id := 36, kind := .top, T := [.any, (.ptr 0 []), (.ptr 1 []), (.ptr 2 []), (.ptr 3 [])] ++ List.replicate 48 .any, items := [.code (subc [1, 1, 1, 0, 0] (bodyOf Tryd.f36)), .code (subc [1, 1, 1, 0, 1] (bodyOf Tryd.f36)), .code (subc [1, 1, 1, 1] (bodyOf Tryd.f36))], D := [], base := 0 },
    stk := [],
    H := [(cREF1_0 x), .cell true 59 (.agg [1, 1, 1] [(.raw (.slice none 0 0)), (.int .u8 0), (.raw (.slice none 0 0))]), .cell true 63 (.agg [1, 1, 1, 1, 1, 1] [(.raw .nilFunc), (.raw .nilFunc), (.raw (.slice none 0 0)), (.int .i64 0), (.int .i64 0), (.int .i64 0)]), .cell true 4 (.bool false)] }
  | .h1 v43 v59 v65 v68 v69 v70 v71 =>
  { fr := { id := 97, kind := (.iter 6), T := [(.yld 6), (.ptr 4 []), .any, .any, (.ptr 7 [])] ++ List.replicate 7 .any ++ [(.osl 14 [] 3 0 1 (some 1)), (.int .i64 1), (.int .i64 0)] ++ List.replicate 4 .any ++ [(.osl 9 [] 6 0 4 (some 4)), (.int .i64 4), (.int .i64 0)] ++ List.replicate 31 .any, items := [.code (subc [1, 0, 0, 1, 1, 0, 0, 1, 1, 0, 0, 1, 1, 1] (bodyOf Tryd.f97)), .lp (subc [1, 0, 0, 1, 1, 0, 0, 1, 1, 0, 0] (bodyOf Tryd.f97)), .blk 2, .blk 1, .code (subc [1, 0, 0, 1, 1, 1] (bodyOf Tryd.f97)), .lp (subc [1, 0, 0] (bodyOf Tryd.f97)), .blk 0], D := [], base := 7 },
    stk := [{ id := 36, kind := .top, T := [.any, .any, (.ptr 1 []), (.ptr 2 []), (.ptr 3 [])] ++ List.replicate 48 .any, items := [.fin 6, .blk 0, .code (subc [1, 1, 1, 1] (bodyOf Tryd.f36))], D := [5], base := 0 }],
    H := [.dead, .cell true 59 (.agg [1, 1, 1] [(.raw (.slice none 0 0)), (.int .u8 0), (.raw (.slice none 0 0))]), .cell true 63 (.agg [1, 1, 1, 1, 1, 1] [(.raw .nilFunc), (.raw .nilFunc), (.raw (.slice none 0 0)), (.int .i64 0), (.int .i64 0), (.int .i64 0)]), .cell true 4 (.bool false), (cREF1_0 x), .dfd, .loop .ready none 36 ([.any, .any, (.ptr 1 []), (.ptr 2 []), (.ptr 3 [])] ++ List.replicate 48 .any) [47, 48] (subc [1, 1, 1, 0, 1, 0, 0] (bodyOf Tryd.f36)) (subc [1, 1, 1, 0, 1, 0, 1] (bodyOf Tryd.f36)) 5, .cell true 59 (.agg [1, 1, 1] [(.osl 8 [] 1 0 2 (some 2)), (.int .u8 0), (.osl 9 [] 6 0 4 (some 4))]), .cell true 3 (.arr 2 (.int .i64) v43), .cell true 63 (.agg [6, 6, 6, 6] [(.agg [1, 1, 1, 1, 1, 1] [(.fn 119 []), (.fn 120 []), (.osl 10 [] 1 0 1 (some 1)), (.int .i64 (-1)), (.int .i64 1), (.int .i64 0)]), (.agg [1, 1, 1, 1, 1, 1] [(.fn 120 []), (.fn 121 []), (.osl 11 [] 1 0 1 (some 1)), (.int .i64 (-1)), (.int .i64 2), (.int .i64 0)]), (.agg [1, 1, 1, 1, 1, 1] [(.fn 119 []), (.fn 122 []), (.osl 12 [] 1 0 1 (some 1)), (.int .i64 v59), (.int .i64 1), (.int .i64 1)]), (.agg [1, 1, 1, 1, 1, 1] [(.fn 119 []), (.fn 123 []), (.osl 13 [] 1 0 1 (some 1)), (.int .i64 v65), (.int .i64 1), (.int .i64 4)])]), .cell true 5 (.arr 1 (.int .u8) v68), .cell true 5 (.arr 1 (.int .u8) v69), .cell true 5 (.arr 1 (.int .u8) v70), .cell true 5 (.arr 1 (.int .u8) v71), .cell true 59 (.agg [3] [(.agg [1, 1, 1] [(.osl 8 [] 1 0 2 (some 2)), (.int .u8 0), (.osl 9 [] 6 0 4 (some 4))])])] }
  | .h2 v43 v62 v63 v64 v86 v105 v106 v107 v108 v115 =>
  { fr := { id := 97, kind := (.iter 6), T := [(.yld 6), (.ptr 4 []), .any, .any, (.ptr 7 [])] ++ List.replicate 7 .any ++ [(.osl 13 [] 3 0 3 (some 3)), (.int .i64 3), (.int .i64 0)] ++ List.replicate 4 .any ++ [(.osl 9 [] 6 0 3 (some 3)), (.int .i64 3), (.int .i64 0)] ++ List.replicate 31 .any, items := [.code (subc [1, 0, 0, 1, 1, 0, 0, 1, 1, 0, 0, 1, 1, 1] (bodyOf Tryd.f97)), .lp (subc [1, 0, 0, 1, 1, 0, 0, 1, 1, 0, 0] (bodyOf Tryd.f97)), .blk 2, .blk 1, .code (subc [1, 0, 0, 1, 1, 1] (bodyOf Tryd.f97)), .lp (subc [1, 0, 0] (bodyOf Tryd.f97)), .blk 0], D := [], base := 7 },
    stk := [{ id := 36, kind := .top, T := [.any, .any, (.ptr 1 []), (.ptr 2 []), (.ptr 3 [])] ++ List.replicate 48 .any, items := [.fin 6, .blk 0, .code (subc [1, 1, 1, 1] (bodyOf Tryd.f36))], D := [5], base := 0 }],
    H := [.dead, .cell true 59 (.agg [1, 1, 1] [(.raw (.slice none 0 0)), (.int .u8 0), (.raw (.slice none 0 0))]), .cell true 63 (.agg [1, 1, 1, 1, 1, 1] [(.raw .nilFunc), (.raw .nilFunc), (.raw (.slice none 0 0)), (.int .i64 0), (.int .i64 0), (.int .i64 0)]), .cell true 4 (.bool false), (cREF1_0 x), .dfd, .loop .ready none 36 ([.any, .any, (.ptr 1 []), (.ptr 2 []), (.ptr 3 [])] ++ List.replicate 48 .any) [47, 48] (subc [1, 1, 1, 0, 1, 0, 0] (bodyOf Tryd.f36)) (subc [1, 1, 1, 0, 1, 0, 1] (bodyOf Tryd.f36)) 5, .cell true 59 (.agg [1, 1, 1] [(.osl 8 [] 1 0 1 (some 1)), (.int .u8 0), (.osl 9 [] 6 0 3 (some 3))]), .cell true 3 (.arr 1 (.int .i64) v43), .cell true 63 (.agg [6, 6, 6] [(.agg [1, 1, 1, 1, 1, 1] [(.fn 119 []), (.fn 120 []), (.osl 10 [] 1 0 1 (some 1)), (.int .i64 (-1)), (.int .i64 1), (.int .i64 0)]), (.agg [1, 1, 1, 1, 1, 1] [(.fn 120 []), (.fn 121 []), (.osl 11 [] 1 0 1 (some 1)), (.int .i64 (-1)), (.int .i64 2), (.int .i64 0)]), (.agg [1, 1, 1, 1, 1, 1] [(.fn 119 []), (.fn 122 []), (.osl 12 [] 1 0 1 (some 1)), (.int .i64 0), (.int .i64 1), (.int .i64 1)])]), .cell true 5 (.arr 1 (.int .u8) v62), .cell true 5 (.arr 1 (.int .u8) v63), .cell true 5 (.arr 1 (.int .u8) v64), .cell true 59 (.agg [3, 3, 3] [(.agg [1, 1, 1] [(.osl 8 [] 1 0 1 (some 1)), (.int .u8 0), (.osl 9 [] 6 0 3 (some 3))]), (.agg [1, 1, 1] [(.osl 14 [] 1 0 2 (some 2)), (.int .u8 0), (.osl 15 [] 6 0 3 (some 3))]), (.agg [1, 1, 1] [(.osl 19 [] 1 0 1 (some 1)), (.int .u8 0), (.osl 20 [] 6 0 1 (some 1))])]), .cell true 3 (.arr 2 (.int .i64) v86), .cell true 63 (.agg [6, 6, 6] [(.agg [1, 1, 1, 1, 1, 1] [(.fn 119 []), (.fn 120 []), (.osl 16 [] 1 0 1 (some 1)), (.int .i64 (-1)), (.int .i64 1), (.int .i64 0)]), (.agg [1, 1, 1, 1, 1, 1] [(.fn 120 []), (.fn 121 []), (.osl 17 [] 1 0 1 (some 1)), (.int .i64 (-1)), (.int .i64 2), (.int .i64 0)]), (.agg [1, 1, 1, 1, 1, 1] [(.fn 119 []), (.fn 123 []), (.osl 18 [] 1 0 1 (some 1)), (.int .i64 0), (.int .i64 1), (.int .i64 4)])]), .cell true 5 (.arr 1 (.int .u8) v105), .cell true 5 (.arr 1 (.int .u8) v106), .cell true 5 (.arr 1 (.int .u8) v107), .cell true 3 (.arr 1 (.int .i64) v108), .cell true 63 (.agg [6] [(.agg [1, 1, 1, 1, 1, 1] [(.fn 120 []), (.fn 165 []), (.osl 21 [] 1 0 1 (some 1)), (.int .i64 0), (.int .i64 3), (.int .i64 8)])]), .cell true 5 (.arr 1 (.int .u8) v115)] }
  | .h3 v43 v50 =>
  { fr := { id := 97, kind := (.iter 6), T := [(.yld 6), (.ptr 4 []), .any, .any, (.ptr 7 [])] ++ List.replicate 7 .any ++ [(.osl 11 [] 3 0 1 (some 1)), (.int .i64 1), (.int .i64 0)] ++ List.replicate 4 .any ++ [(.osl 9 [] 6 0 1 (some 1)), (.int .i64 1), (.int .i64 0)] ++ List.replicate 31 .any, items := [.code (subc [1, 0, 0, 1, 1, 0, 0, 1, 1, 0, 0, 1, 1, 1] (bodyOf Tryd.f97)), .lp (subc [1, 0, 0, 1, 1, 0, 0, 1, 1, 0, 0] (bodyOf Tryd.f97)), .blk 2, .blk 1, .code (subc [1, 0, 0, 1, 1, 1] (bodyOf Tryd.f97)), .lp (subc [1, 0, 0] (bodyOf Tryd.f97)), .blk 0], D := [], base := 7 },
    stk := [{ id := 36, kind := .top, T := [.any, .any, (.ptr 1 []), (.ptr 2 []), (.ptr 3 [])] ++ List.replicate 48 .any, items := [.fin 6, .blk 0, .code (subc [1, 1, 1, 1] (bodyOf Tryd.f36))], D := [5], base := 0 }],
    H := [.dead, .cell true 59 (.agg [1, 1, 1] [(.raw (.slice none 0 0)), (.int .u8 0), (.raw (.slice none 0 0))]), .cell true 63 (.agg [1, 1, 1, 1, 1, 1] [(.raw .nilFunc), (.raw .nilFunc), (.raw (.slice none 0 0)), (.int .i64 0), (.int .i64 0), (.int .i64 0)]), .cell true 4 (.bool false), (cREF1_0 x), .dfd, .loop .ready none 36 ([.any, .any, (.ptr 1 []), (.ptr 2 []), (.ptr 3 [])] ++ List.replicate 48 .any) [47, 48] (subc [1, 1, 1, 0, 1, 0, 0] (bodyOf Tryd.f36)) (subc [1, 1, 1, 0, 1, 0, 1] (bodyOf Tryd.f36)) 5, .cell true 59 (.agg [1, 1, 1] [(.osl 8 [] 1 0 2 (some 2)), (.int .u8 0), (.osl 9 [] 6 0 1 (some 1))]), .cell true 3 (.arr 2 (.int .i64) v43), .cell true 63 (.agg [6] [(.agg [1, 1, 1, 1, 1, 1] [(.fn 120 []), (.fn 121 []), (.osl 10 [] 1 0 1 (some 1)), (.int .i64 (-1)), (.int .i64 2), (.int .i64 0)])]), .cell true 5 (.arr 1 (.int .u8) v50), .cell true 59 (.agg [3] [(.agg [1, 1, 1] [(.osl 8 [] 1 0 2 (some 2)), (.int .u8 0), (.osl 9 [] 6 0 1 (some 1))])])] }
  | .h4 v43 v56 v57 =>
  { fr := { id := 97, kind := (.iter 6), T := [(.yld 6), (.ptr 4 []), .any, .any, (.ptr 7 [])] ++ List.replicate 7 .any ++ [(.osl 12 [] 3 0 1 (some 1)), (.int .i64 1), (.int .i64 0)] ++ List.replicate 4 .any ++ [(.osl 9 [] 6 0 2 (some 2)), (.int .i64 2), (.int .i64 0)] ++ List.replicate 31 .any, items := [.code (subc [1, 0, 0, 1, 1, 0, 0, 1, 1, 0, 0, 1, 1, 1] (bodyOf Tryd.f97)), .lp (subc [1, 0, 0, 1, 1, 0, 0, 1, 1, 0, 0] (bodyOf Tryd.f97)), .blk 2, .blk 1, .code (subc [1, 0, 0, 1, 1, 1] (bodyOf Tryd.f97)), .lp (subc [1, 0, 0] (bodyOf Tryd.f97)), .blk 0], D := [], base := 7 },
    stk := [{ id := 36, kind := .top, T := [.any, .any, (.ptr 1 []), (.ptr 2 []), (.ptr 3 [])] ++ List.replicate 48 .any, items := [.fin 6, .blk 0, .code (subc [1, 1, 1, 1] (bodyOf Tryd.f36))], D := [5], base := 0 }],
    H := [.dead, .cell true 59 (.agg [1, 1, 1] [(.raw (.slice none 0 0)), (.int .u8 0), (.raw (.slice none 0 0))]), .cell true 63 (.agg [1, 1, 1, 1, 1, 1] [(.raw .nilFunc), (.raw .nilFunc), (.raw (.slice none 0 0)), (.int .i64 0), (.int .i64 0), (.int .i64 0)]), .cell true 4 (.bool false), (cREF1_0 x), .dfd, .loop .ready none 36 ([.any, .any, (.ptr 1 []), (.ptr 2 []), (.ptr 3 [])] ++ List.replicate 48 .any) [47, 48] (subc [1, 1, 1, 0, 1, 0, 0] (bodyOf Tryd.f36)) (subc [1, 1, 1, 0, 1, 0, 1] (bodyOf Tryd.f36)) 5, .cell true 59 (.agg [1, 1, 1] [(.osl 8 [] 1 0 2 (some 2)), (.int .u8 0), (.osl 9 [] 6 0 2 (some 2))]), .cell true 3 (.arr 2 (.int .i64) v43), .cell true 63 (.agg [6, 6] [(.agg [1, 1, 1, 1, 1, 1] [(.fn 119 []), (.fn 120 []), (.osl 10 [] 1 0 1 (some 1)), (.int .i64 (-1)), (.int .i64 1), (.int .i64 0)]), (.agg [1, 1, 1, 1, 1, 1] [(.fn 119 []), (.fn 123 []), (.osl 11 [] 1 0 1 (some 1)), (.int .i64 0), (.int .i64 1), (.int .i64 4)])]), .cell true 5 (.arr 1 (.int .u8) v56), .cell true 5 (.arr 1 (.int .u8) v57), .cell true 59 (.agg [3] [(.agg [1, 1, 1] [(.osl 8 [] 1 0 2 (some 2)), (.int .u8 0), (.osl 9 [] 6 0 2 (some 2))])])] }
  | .h5 v43 v47 v50 =>
  { fr := { id := 97, kind := (.iter 6), T := [(.yld 6), (.ptr 4 []), .any, .any, (.ptr 7 [])] ++ List.replicate 7 .any ++ [(.osl 11 [] 3 0 1 (some 1)), (.int .i64 1), (.int .i64 0)] ++ List.replicate 4 .any ++ [(.osl 9 [] 6 0 1 (some 1)), (.int .i64 1), (.int .i64 0)] ++ List.replicate 31 .any, items := [.code (subc [1, 0, 0, 1, 1, 0, 0, 1, 1, 0, 0, 1, 1, 1] (bodyOf Tryd.f97)), .lp (subc [1, 0, 0, 1, 1, 0, 0, 1, 1, 0, 0] (bodyOf Tryd.f97)), .blk 2, .blk 1, .code (subc [1, 0, 0, 1, 1, 1] (bodyOf Tryd.f97)), .lp (subc [1, 0, 0] (bodyOf Tryd.f97)), .blk 0], D := [], base := 7 },
    stk := [{ id := 36, kind := .top, T := [.any, .any, (.ptr 1 []), (.ptr 2 []), (.ptr 3 [])] ++ List.replicate 48 .any, items := [.fin 6, .blk 0, .code (subc [1, 1, 1, 1] (bodyOf Tryd.f36))], D := [5], base := 0 }],
    H := [.dead, .cell true 59 (.agg [1, 1, 1] [(.raw (.slice none 0 0)), (.int .u8 0), (.raw (.slice none 0 0))]), .cell true 63 (.agg [1, 1, 1, 1, 1, 1] [(.raw .nilFunc), (.raw .nilFunc), (.raw (.slice none 0 0)), (.int .i64 0), (.int .i64 0), (.int .i64 0)]), .cell true 4 (.bool false), (cREF1_0 x), .dfd, .loop .ready none 36 ([.any, .any, (.ptr 1 []), (.ptr 2 []), (.ptr 3 [])] ++ List.replicate 48 .any) [47, 48] (subc [1, 1, 1, 0, 1, 0, 0] (bodyOf Tryd.f36)) (subc [1, 1, 1, 0, 1, 0, 1] (bodyOf Tryd.f36)) 5, .cell true 59 (.agg [1, 1, 1] [(.osl 8 [] 1 0 2 (some 2)), (.int .u8 0), (.osl 9 [] 6 0 1 (some 1))]), .cell true 3 (.arr 2 (.int .i64) v43), .cell true 63 (.agg [6] [(.agg [1, 1, 1, 1, 1, 1] [(.fn 119 []), (.fn 144 []), (.osl 10 [] 1 0 1 (some 1)), (.int .i64 v47), (.int .i64 1), (.int .i64 0)])]), .cell true 5 (.arr 1 (.int .u8) v50), .cell true 59 (.agg [3] [(.agg [1, 1, 1] [(.osl 8 [] 1 0 2 (some 2)), (.int .u8 0), (.osl 9 [] 6 0 1 (some 1))])])] }
  | .h6 v43 v47 v53 v56 v57 =>
  { fr := { id := 97, kind := (.iter 6), T := [(.yld 6), (.ptr 4 []), .any, .any, (.ptr 7 [])] ++ List.replicate 7 .any ++ [(.osl 12 [] 3 0 1 (some 1)), (.int .i64 1), (.int .i64 0)] ++ List.replicate 4 .any ++ [(.osl 9 [] 6 0 2 (some 2)), (.int .i64 2), (.int .i64 0)] ++ List.replicate 31 .any, items := [.code (subc [1, 0, 0, 1, 1, 0, 0, 1, 1, 0, 0, 1, 1, 1] (bodyOf Tryd.f97)), .lp (subc [1, 0, 0, 1, 1, 0, 0, 1, 1, 0, 0] (bodyOf Tryd.f97)), .blk 2, .blk 1, .code (subc [1, 0, 0, 1, 1, 1] (bodyOf Tryd.f97)), .lp (subc [1, 0, 0] (bodyOf Tryd.f97)), .blk 0], D := [], base := 7 },
    stk := [{ id := 36, kind := .top, T := [.any, .any, (.ptr 1 []), (.ptr 2 []), (.ptr 3 [])] ++ List.replicate 48 .any, items := [.fin 6, .blk 0, .code (subc [1, 1, 1, 1] (bodyOf Tryd.f36))], D := [5], base := 0 }],
    H := [.dead, .cell true 59 (.agg [1, 1, 1] [(.raw (.slice none 0 0)), (.int .u8 0), (.raw (.slice none 0 0))]), .cell true 63 (.agg [1, 1, 1, 1, 1, 1] [(.raw .nilFunc), (.raw .nilFunc), (.raw (.slice none 0 0)), (.int .i64 0), (.int .i64 0), (.int .i64 0)]), .cell true 4 (.bool false), (cREF1_0 x), .dfd, .loop .ready none 36 ([.any, .any, (.ptr 1 []), (.ptr 2 []), (.ptr 3 [])] ++ List.replicate 48 .any) [47, 48] (subc [1, 1, 1, 0, 1, 0, 0] (bodyOf Tryd.f36)) (subc [1, 1, 1, 0, 1, 0, 1] (bodyOf Tryd.f36)) 5, .cell true 59 (.agg [1, 1, 1] [(.osl 8 [] 1 0 2 (some 2)), (.int .u8 0), (.osl 9 [] 6 0 2 (some 2))]), .cell true 3 (.arr 2 (.int .i64) v43), .cell true 63 (.agg [6, 6] [(.agg [1, 1, 1, 1, 1, 1] [(.fn 119 []), (.fn 129 []), (.osl 10 [] 1 0 1 (some 1)), (.int .i64 v47), (.int .i64 1), (.int .i64 1)]), (.agg [1, 1, 1, 1, 1, 1] [(.fn 119 []), (.fn 130 []), (.osl 11 [] 1 0 1 (some 1)), (.int .i64 v53), (.int .i64 1), (.int .i64 0)])]), .cell true 5 (.arr 1 (.int .u8) v56), .cell true 5 (.arr 1 (.int .u8) v57), .cell true 59 (.agg [3] [(.agg [1, 1, 1] [(.osl 8 [] 1 0 2 (some 2)), (.int .u8 0), (.osl 9 [] 6 0 2 (some 2))])])] }
  | .h7 v43 v50 =>
  { fr := { id := 97, kind := (.iter 6), T := [(.yld 6), (.ptr 4 []), .any, .any, (.ptr 7 [])] ++ List.replicate 7 .any ++ [(.osl 11 [] 3 0 1 (some 1)), (.int .i64 1), (.int .i64 0)] ++ List.replicate 4 .any ++ [(.osl 9 [] 6 0 1 (some 1)), (.int .i64 1), (.int .i64 0)] ++ List.replicate 31 .any, items := [.code (subc [1, 0, 0, 1, 1, 0, 0, 1, 1, 0, 0, 1, 1, 1] (bodyOf Tryd.f97)), .lp (subc [1, 0, 0, 1, 1, 0, 0, 1, 1, 0, 0] (bodyOf Tryd.f97)), .blk 2, .blk 1, .code (subc [1, 0, 0, 1, 1, 1] (bodyOf Tryd.f97)), .lp (subc [1, 0, 0] (bodyOf Tryd.f97)), .blk 0], D := [], base := 7 },
    stk := [{ id := 36, kind := .top, T := [.any, .any, (.ptr 1 []), (.ptr 2 []), (.ptr 3 [])] ++ List.replicate 48 .any, items := [.fin 6, .blk 0, .code (subc [1, 1, 1, 1] (bodyOf Tryd.f36))], D := [5], base := 0 }],
    H := [.dead, .cell true 59 (.agg [1, 1, 1] [(.raw (.slice none 0 0)), (.int .u8 0), (.raw (.slice none 0 0))]), .cell true 63 (.agg [1, 1, 1, 1, 1, 1] [(.raw .nilFunc), (.raw .nilFunc), (.raw (.slice none 0 0)), (.int .i64 0), (.int .i64 0), (.int .i64 0)]), .cell true 4 (.bool false), (cREF1_0 x), .dfd, .loop .ready none 36 ([.any, .any, (.ptr 1 []), (.ptr 2 []), (.ptr 3 [])] ++ List.replicate 48 .any) [47, 48] (subc [1, 1, 1, 0, 1, 0, 0] (bodyOf Tryd.f36)) (subc [1, 1, 1, 0, 1, 0, 1] (bodyOf Tryd.f36)) 5, .cell true 59 (.agg [1, 1, 1] [(.osl 8 [] 1 0 2 (some 2)), (.int .u8 0), (.osl 9 [] 6 0 1 (some 1))]), .cell true 3 (.arr 2 (.int .i64) v43), .cell true 63 (.agg [6] [(.agg [1, 1, 1, 1, 1, 1] [(.fn 120 []), (.fn 119 []), (.osl 10 [] 1 0 2 (some 2)), (.int .i64 (-1)), (.int .i64 2), (.int .i64 0)])]), .cell true 5 (.arr 2 (.int .u8) v50), .cell true 59 (.agg [3] [(.agg [1, 1, 1] [(.osl 8 [] 1 0 2 (some 2)), (.int .u8 0), (.osl 9 [] 6 0 1 (some 1))])])] }
  | .h8 v43 v50 =>
  { fr := { id := 97, kind := (.iter 6), T := [(.yld 6), (.ptr 4 []), .any, .any, (.ptr 7 [])] ++ List.replicate 7 .any ++ [(.osl 11 [] 3 0 1 (some 1)), (.int .i64 1), (.int .i64 0)] ++ List.replicate 4 .any ++ [(.osl 9 [] 6 0 1 (some 1)), (.int .i64 1), (.int .i64 0)] ++ List.replicate 31 .any, items := [.code (subc [1, 0, 0, 1, 1, 0, 0, 1, 1, 0, 0, 1, 1, 1] (bodyOf Tryd.f97)), .lp (subc [1, 0, 0, 1, 1, 0, 0, 1, 1, 0, 0] (bodyOf Tryd.f97)), .blk 2, .blk 1, .code (subc [1, 0, 0, 1, 1, 1] (bodyOf Tryd.f97)), .lp (subc [1, 0, 0] (bodyOf Tryd.f97)), .blk 0], D := [], base := 7 },
    stk := [{ id := 36, kind := .top, T := [.any, .any, (.ptr 1 []), (.ptr 2 []), (.ptr 3 [])] ++ List.replicate 48 .any, items := [.fin 6, .blk 0, .code (subc [1, 1, 1, 1] (bodyOf Tryd.f36))], D := [5], base := 0 }],
    H := [.dead, .cell true 59 (.agg [1, 1, 1] [(.raw (.slice none 0 0)), (.int .u8 0), (.raw (.slice none 0 0))]), .cell true 63 (.agg [1, 1, 1, 1, 1, 1] [(.raw .nilFunc), (.raw .nilFunc), (.raw (.slice none 0 0)), (.int .i64 0), (.int .i64 0), (.int .i64 0)]), .cell true 4 (.bool false), (cREF1_0 x), .dfd, .loop .ready none 36 ([.any, .any, (.ptr 1 []), (.ptr 2 []), (.ptr 3 [])] ++ List.replicate 48 .any) [47, 48] (subc [1, 1, 1, 0, 1, 0, 0] (bodyOf Tryd.f36)) (subc [1, 1, 1, 0, 1, 0, 1] (bodyOf Tryd.f36)) 5, .cell true 59 (.agg [1, 1, 1] [(.osl 8 [] 1 0 1 (some 1)), (.int .u8 0), (.osl 9 [] 6 0 1 (some 1))]), .cell true 3 (.arr 1 (.int .i64) v43), .cell true 63 (.agg [6] [(.agg [1, 1, 1, 1, 1, 1] [(.fn 119 []), (.fn 144 []), (.osl 10 [] 1 0 2 (some 2)), (.int .i64 0), (.int .i64 1), (.int .i64 0)])]), .cell true 5 (.arr 2 (.int .u8) v50), .cell true 59 (.agg [3] [(.agg [1, 1, 1] [(.osl 8 [] 1 0 1 (some 1)), (.int .u8 0), (.osl 9 [] 6 0 1 (some 1))])])] }
  | .h9 v43 v56 v57 =>
  { fr := { id := 97, kind := (.iter 6), T := [(.yld 6), (.ptr 4 []), .any, .any, (.ptr 7 [])] ++ List.replicate 7 .any ++ [(.osl 12 [] 3 0 1 (some 1)), (.int .i64 1), (.int .i64 0)] ++ List.replicate 4 .any ++ [(.osl 9 [] 6 0 2 (some 2)), (.int .i64 2), (.int .i64 0)] ++ List.replicate 31 .any, items := [.code (subc [1, 0, 0, 1, 1, 0, 0, 1, 1, 0, 0, 1, 1, 1] (bodyOf Tryd.f97)), .lp (subc [1, 0, 0, 1, 1, 0, 0, 1, 1, 0, 0] (bodyOf Tryd.f97)), .blk 2, .blk 1, .code (subc [1, 0, 0, 1, 1, 1] (bodyOf Tryd.f97)), .lp (subc [1, 0, 0] (bodyOf Tryd.f97)), .blk 0], D := [], base := 7 },
    stk := [{ id := 36, kind := .top, T := [.any, .any, (.ptr 1 []), (.ptr 2 []), (.ptr 3 [])] ++ List.replicate 48 .any, items := [.fin 6, .blk 0, .code (subc [1, 1, 1, 1] (bodyOf Tryd.f36))], D := [5], base := 0 }],
    H := [.dead, .cell true 59 (.agg [1, 1, 1] [(.raw (.slice none 0 0)), (.int .u8 0), (.raw (.slice none 0 0))]), .cell true 63 (.agg [1, 1, 1, 1, 1, 1] [(.raw .nilFunc), (.raw .nilFunc), (.raw (.slice none 0 0)), (.int .i64 0), (.int .i64 0), (.int .i64 0)]), .cell true 4 (.bool false), (cREF1_0 x), .dfd, .loop .ready none 36 ([.any, .any, (.ptr 1 []), (.ptr 2 []), (.ptr 3 [])] ++ List.replicate 48 .any) [47, 48] (subc [1, 1, 1, 0, 1, 0, 0] (bodyOf Tryd.f36)) (subc [1, 1, 1, 0, 1, 0, 1] (bodyOf Tryd.f36)) 5, .cell true 59 (.agg [1, 1, 1] [(.osl 8 [] 1 0 1 (some 1)), (.int .u8 243), (.osl 9 [] 6 0 2 (some 2))]), .cell true 3 (.arr 1 (.int .i64) v43), .cell true 63 (.agg [6, 6] [(.agg [1, 1, 1, 1, 1, 1] [(.fn 126 []), (.fn 127 []), (.osl 10 [] 1 0 2 (some 2)), (.int .i64 (-1)), (.int .i64 2), (.int .i64 0)]), (.agg [1, 1, 1, 1, 1, 1] [(.fn 121 []), (.fn 126 []), (.osl 11 [] 1 0 2 (some 2)), (.int .i64 (-1)), (.int .i64 1), (.int .i64 0)])]), .cell true 5 (.arr 2 (.int .u8) v56), .cell true 5 (.arr 2 (.int .u8) v57), .cell true 59 (.agg [3] [(.agg [1, 1, 1] [(.osl 8 [] 1 0 1 (some 1)), (.int .u8 243), (.osl 9 [] 6 0 2 (some 2))])])] }
  | .h10 v43 v50 =>
  { fr := { id := 97, kind := (.iter 6), T := [(.yld 6), (.ptr 4 []), .any, .any, (.ptr 7 [])] ++ List.replicate 7 .any ++ [(.osl 11 [] 3 0 1 (some 1)), (.int .i64 1), (.int .i64 0)] ++ List.replicate 4 .any ++ [(.osl 9 [] 6 0 1 (some 1)), (.int .i64 1), (.int .i64 0)] ++ List.replicate 31 .any, items := [.code (subc [1, 0, 0, 1, 1, 0, 0, 1, 1, 0, 0, 1, 1, 1] (bodyOf Tryd.f97)), .lp (subc [1, 0, 0, 1, 1, 0, 0, 1, 1, 0, 0] (bodyOf Tryd.f97)), .blk 2, .blk 1, .code (subc [1, 0, 0, 1, 1, 1] (bodyOf Tryd.f97)), .lp (subc [1, 0, 0] (bodyOf Tryd.f97)), .blk 0], D := [], base := 7 },
    stk := [{ id := 36, kind := .top, T := [.any, .any, (.ptr 1 []), (.ptr 2 []), (.ptr 3 [])] ++ List.replicate 48 .any, items := [.fin 6, .blk 0, .code (subc [1, 1, 1, 1] (bodyOf Tryd.f36))], D := [5], base := 0 }],
    H := [.dead, .cell true 59 (.agg [1, 1, 1] [(.raw (.slice none 0 0)), (.int .u8 0), (.raw (.slice none 0 0))]), .cell true 63 (.agg [1, 1, 1, 1, 1, 1] [(.raw .nilFunc), (.raw .nilFunc), (.raw (.slice none 0 0)), (.int .i64 0), (.int .i64 0), (.int .i64 0)]), .cell true 4 (.bool false), (cREF1_0 x), .dfd, .loop .ready none 36 ([.any, .any, (.ptr 1 []), (.ptr 2 []), (.ptr 3 [])] ++ List.replicate 48 .any) [47, 48] (subc [1, 1, 1, 0, 1, 0, 0] (bodyOf Tryd.f36)) (subc [1, 1, 1, 0, 1, 0, 1] (bodyOf Tryd.f36)) 5, .cell true 59 (.agg [1, 1, 1] [(.osl 8 [] 1 0 1 (some 1)), (.int .u8 102), (.osl 9 [] 6 0 1 (some 1))]), .cell true 3 (.arr 1 (.int .i64) v43), .cell true 63 (.agg [6] [(.agg [1, 1, 1, 1, 1, 1] [(.fn 126 []), (.fn 127 []), (.osl 10 [] 1 0 2 (some 2)), (.int .i64 (-1)), (.int .i64 2), (.int .i64 0)])]), .cell true 5 (.arr 2 (.int .u8) v50), .cell true 59 (.agg [3] [(.agg [1, 1, 1] [(.osl 8 [] 1 0 1 (some 1)), (.int .u8 102), (.osl 9 [] 6 0 1 (some 1))])])] }
  | .h11 v43 v49 v50 =>
  { fr := { id := 97, kind := (.iter 6), T := [(.yld 6), (.ptr 4 []), .any, .any, (.ptr 7 [])] ++ List.replicate 7 .any ++ [(.osl 11 [] 3 0 1 (some 1)), (.int .i64 1), (.int .i64 0)] ++ List.replicate 4 .any ++ [(.osl 9 [] 6 0 1 (some 1)), (.int .i64 1), (.int .i64 0)] ++ List.replicate 31 .any, items := [.code (subc [1, 0, 0, 1, 1, 0, 0, 1, 1, 0, 0, 1, 1, 1] (bodyOf Tryd.f97)), .lp (subc [1, 0, 0, 1, 1, 0, 0, 1, 1, 0, 0] (bodyOf Tryd.f97)), .blk 2, .blk 1, .code (subc [1, 0, 0, 1, 1, 1] (bodyOf Tryd.f97)), .lp (subc [1, 0, 0] (bodyOf Tryd.f97)), .blk 0], D := [], base := 7 },
    stk := [{ id := 36, kind := .top, T := [.any, .any, (.ptr 1 []), (.ptr 2 []), (.ptr 3 [])] ++ List.replicate 48 .any, items := [.fin 6, .blk 0, .code (subc [1, 1, 1, 1] (bodyOf Tryd.f36))], D := [5], base := 0 }],
    H := [.dead, .cell true 59 (.agg [1, 1, 1] [(.raw (.slice none 0 0)), (.int .u8 0), (.raw (.slice none 0 0))]), .cell true 63 (.agg [1, 1, 1, 1, 1, 1] [(.raw .nilFunc), (.raw .nilFunc), (.raw (.slice none 0 0)), (.int .i64 0), (.int .i64 0), (.int .i64 0)]), .cell true 4 (.bool false), (cREF1_0 x), .dfd, .loop .ready none 36 ([.any, .any, (.ptr 1 []), (.ptr 2 []), (.ptr 3 [])] ++ List.replicate 48 .any) [47, 48] (subc [1, 1, 1, 0, 1, 0, 0] (bodyOf Tryd.f36)) (subc [1, 1, 1, 0, 1, 0, 1] (bodyOf Tryd.f36)) 5, .cell true 59 (.agg [1, 1, 1] [(.osl 8 [] 1 0 1 (some 1)), (.int .u8 102), (.osl 9 [] 6 0 1 (some 1))]), .cell true 3 (.arr 1 (.int .i64) v43), .cell true 63 (.agg [6] [(.agg [1, 1, 1, 1, 1, 1] [(.fn 126 []), (.fn 127 []), (.osl 10 [] 1 0 3 (some 3)), (.int .i64 (-1)), (.int .i64 2), (.int .i64 v49)])]), .cell true 5 (.arr 3 (.int .u8) v50), .cell true 59 (.agg [3] [(.agg [1, 1, 1] [(.osl 8 [] 1 0 1 (some 1)), (.int .u8 102), (.osl 9 [] 6 0 1 (some 1))])])] }
  | .h12 v43 v50 =>
  { fr := { id := 97, kind := (.iter 6), T := [(.yld 6), (.ptr 4 []), .any, .any, (.ptr 7 [])] ++ List.replicate 7 .any ++ [(.osl 11 [] 3 0 1 (some 1)), (.int .i64 1), (.int .i64 0)] ++ List.replicate 4 .any ++ [(.osl 9 [] 6 0 1 (some 1)), (.int .i64 1), (.int .i64 0)] ++ List.replicate 31 .any, items := [.code (subc [1, 0, 0, 1, 1, 0, 0, 1, 1, 0, 0, 1, 1, 1] (bodyOf Tryd.f97)), .lp (subc [1, 0, 0, 1, 1, 0, 0, 1, 1, 0, 0] (bodyOf Tryd.f97)), .blk 2, .blk 1, .code (subc [1, 0, 0, 1, 1, 1] (bodyOf Tryd.f97)), .lp (subc [1, 0, 0] (bodyOf Tryd.f97)), .blk 0], D := [], base := 7 },
    stk := [{ id := 36, kind := .top, T := [.any, .any, (.ptr 1 []), (.ptr 2 []), (.ptr 3 [])] ++ List.replicate 48 .any, items := [.fin 6, .blk 0, .code (subc [1, 1, 1, 1] (bodyOf Tryd.f36))], D := [5], base := 0 }],
    H := [.dead, .cell true 59 (.agg [1, 1, 1] [(.raw (.slice none 0 0)), (.int .u8 0), (.raw (.slice none 0 0))]), .cell true 63 (.agg [1, 1, 1, 1, 1, 1] [(.raw .nilFunc), (.raw .nilFunc), (.raw (.slice none 0 0)), (.int .i64 0), (.int .i64 0), (.int .i64 0)]), .cell true 4 (.bool false), (cREF1_0 x), .dfd, .loop .ready none 36 ([.any, .any, (.ptr 1 []), (.ptr 2 []), (.ptr 3 [])] ++ List.replicate 48 .any) [47, 48] (subc [1, 1, 1, 0, 1, 0, 0] (bodyOf Tryd.f36)) (subc [1, 1, 1, 0, 1, 0, 1] (bodyOf Tryd.f36)) 5, .cell true 59 (.agg [1, 1, 1] [(.osl 8 [] 1 0 2 (some 2)), (.int .u8 0), (.osl 9 [] 6 0 1 (some 1))]), .cell true 3 (.arr 2 (.int .i64) v43), .cell true 63 (.agg [6] [(.agg [1, 1, 1, 1, 1, 1] [(.fn 144 []), (.fn 123 []), (.osl 10 [] 1 0 1 (some 1)), (.int .i64 0), (.int .i64 0), (.int .i64 4)])]), .cell true 5 (.arr 1 (.int .u8) v50), .cell true 59 (.agg [3] [(.agg [1, 1, 1] [(.osl 8 [] 1 0 2 (some 2)), (.int .u8 0), (.osl 9 [] 6 0 1 (some 1))])])] }
  | .h13 v43 v56 v57 =>
  { fr := { id := 97, kind := (.iter 6), T := [(.yld 6), (.ptr 4 []), .any, .any, (.ptr 7 [])] ++ List.replicate 7 .any ++ [(.osl 12 [] 3 0 1 (some 1)), (.int .i64 1), (.int .i64 0)] ++ List.replicate 4 .any ++ [(.osl 9 [] 6 0 2 (some 2)), (.int .i64 2), (.int .i64 0)] ++ List.replicate 31 .any, items := [.code (subc [1, 0, 0, 1, 1, 0, 0, 1, 1, 0, 0, 1, 1, 1] (bodyOf Tryd.f97)), .lp (subc [1, 0, 0, 1, 1, 0, 0, 1, 1, 0, 0] (bodyOf Tryd.f97)), .blk 2, .blk 1, .code (subc [1, 0, 0, 1, 1, 1] (bodyOf Tryd.f97)), .lp (subc [1, 0, 0] (bodyOf Tryd.f97)), .blk 0], D := [], base := 7 },
    stk := [{ id := 36, kind := .top, T := [.any, .any, (.ptr 1 []), (.ptr 2 []), (.ptr 3 [])] ++ List.replicate 48 .any, items := [.fin 6, .blk 0, .code (subc [1, 1, 1, 1] (bodyOf Tryd.f36))], D := [5], base := 0 }],
    H := [.dead, .cell true 59 (.agg [1, 1, 1] [(.raw (.slice none 0 0)), (.int .u8 0), (.raw (.slice none 0 0))]), .cell true 63 (.agg [1, 1, 1, 1, 1, 1] [(.raw .nilFunc), (.raw .nilFunc), (.raw (.slice none 0 0)), (.int .i64 0), (.int .i64 0), (.int .i64 0)]), .cell true 4 (.bool false), (cREF1_0 x), .dfd, .loop .ready none 36 ([.any, .any, (.ptr 1 []), (.ptr 2 []), (.ptr 3 [])] ++ List.replicate 48 .any) [47, 48] (subc [1, 1, 1, 0, 1, 0, 0] (bodyOf Tryd.f36)) (subc [1, 1, 1, 0, 1, 0, 1] (bodyOf Tryd.f36)) 5, .cell true 59 (.agg [1, 1, 1] [(.osl 8 [] 1 0 2 (some 2)), (.int .u8 0), (.osl 9 [] 6 0 2 (some 2))]), .cell true 3 (.arr 2 (.int .i64) v43), .cell true 63 (.agg [6, 6] [(.agg [1, 1, 1, 1, 1, 1] [(.fn 144 []), (.fn 123 []), (.osl 10 [] 1 0 1 (some 1)), (.int .i64 0), (.int .i64 0), (.int .i64 4)]), (.agg [1, 1, 1, 1, 1, 1] [(.fn 119 []), (.fn 144 []), (.osl 11 [] 1 0 1 (some 1)), (.int .i64 4), (.int .i64 1), (.int .i64 0)])]), .cell true 5 (.arr 1 (.int .u8) v56), .cell true 5 (.arr 1 (.int .u8) v57), .cell true 59 (.agg [3] [(.agg [1, 1, 1] [(.osl 8 [] 1 0 2 (some 2)), (.int .u8 0), (.osl 9 [] 6 0 2 (some 2))])])] }
  | .h14 v43 v50 =>
  { fr := { id := 97, kind := (.iter 6), T := [(.yld 6), (.ptr 4 []), .any, .any, (.ptr 7 [])] ++ List.replicate 7 .any ++ [(.osl 11 [] 3 0 1 (some 1)), (.int .i64 1), (.int .i64 0)] ++ List.replicate 4 .any ++ [(.osl 9 [] 6 0 1 (some 1)), (.int .i64 1), (.int .i64 0)] ++ List.replicate 31 .any, items := [.code (subc [1, 0, 0, 1, 1, 0, 0, 1, 1, 0, 0, 1, 1, 1] (bodyOf Tryd.f97)), .lp (subc [1, 0, 0, 1, 1, 0, 0, 1, 1, 0, 0] (bodyOf Tryd.f97)), .blk 2, .blk 1, .code (subc [1, 0, 0, 1, 1, 1] (bodyOf Tryd.f97)), .lp (subc [1, 0, 0] (bodyOf Tryd.f97)), .blk 0], D := [], base := 7 },
    stk := [{ id := 36, kind := .top, T := [.any, .any, (.ptr 1 []), (.ptr 2 []), (.ptr 3 [])] ++ List.replicate 48 .any, items := [.fin 6, .blk 0, .code (subc [1, 1, 1, 1] (bodyOf Tryd.f36))], D := [5], base := 0 }],
    H := [.dead, .cell true 59 (.agg [1, 1, 1] [(.raw (.slice none 0 0)), (.int .u8 0), (.raw (.slice none 0 0))]), .cell true 63 (.agg [1, 1, 1, 1, 1, 1] [(.raw .nilFunc), (.raw .nilFunc), (.raw (.slice none 0 0)), (.int .i64 0), (.int .i64 0), (.int .i64 0)]), .cell true 4 (.bool false), (cREF1_0 x), .dfd, .loop .ready none 36 ([.any, .any, (.ptr 1 []), (.ptr 2 []), (.ptr 3 [])] ++ List.replicate 48 .any) [47, 48] (subc [1, 1, 1, 0, 1, 0, 0] (bodyOf Tryd.f36)) (subc [1, 1, 1, 0, 1, 0, 1] (bodyOf Tryd.f36)) 5, .cell true 59 (.agg [1, 1, 1] [(.osl 8 [] 1 0 2 (some 2)), (.int .u8 0), (.osl 9 [] 6 0 1 (some 1))]), .cell true 3 (.arr 2 (.int .i64) v43), .cell true 63 (.agg [6] [(.agg [1, 1, 1, 1, 1, 1] [(.fn 144 []), (.fn 123 []), (.osl 10 [] 1 0 2 (some 2)), (.int .i64 0), (.int .i64 0), (.int .i64 4)])]), .cell true 5 (.arr 2 (.int .u8) v50), .cell true 59 (.agg [3] [(.agg [1, 1, 1] [(.osl 8 [] 1 0 2 (some 2)), (.int .u8 0), (.osl 9 [] 6 0 1 (some 1))])])] }
  | .h15 v43 v50 =>
  { fr := { id := 97, kind := (.iter 6), T := [(.yld 6), (.ptr 4 []), .any, .any, (.ptr 7 [])] ++ List.replicate 7 .any ++ [(.osl 11 [] 3 0 1 (some 1)), (.int .i64 1), (.int .i64 0)] ++ List.replicate 4 .any ++ [(.osl 9 [] 6 0 1 (some 1)), (.int .i64 1), (.int .i64 0)] ++ List.replicate 31 .any, items := [.code (subc [1, 0, 0, 1, 1, 0, 0, 1, 1, 0, 0, 1, 1, 1] (bodyOf Tryd.f97)), .lp (subc [1, 0, 0, 1, 1, 0, 0, 1, 1, 0, 0] (bodyOf Tryd.f97)), .blk 2, .blk 1, .code (subc [1, 0, 0, 1, 1, 1] (bodyOf Tryd.f97)), .lp (subc [1, 0, 0] (bodyOf Tryd.f97)), .blk 0], D := [], base := 7 },
    stk := [{ id := 36, kind := .top, T := [.any, .any, (.ptr 1 []), (.ptr 2 []), (.ptr 3 [])] ++ List.replicate 48 .any, items := [.fin 6, .blk 0, .code (subc [1, 1, 1, 1] (bodyOf Tryd.f36))], D := [5], base := 0 }],
    H := [.dead, .cell true 59 (.agg [1, 1, 1] [(.raw (.slice none 0 0)), (.int .u8 0), (.raw (.slice none 0 0))]), .cell true 63 (.agg [1, 1, 1, 1, 1, 1] [(.raw .nilFunc), (.raw .nilFunc), (.raw (.slice none 0 0)), (.int .i64 0), (.int .i64 0), (.int .i64 0)]), .cell true 4 (.bool false), (cREF1_0 x), .dfd, .loop .ready none 36 ([.any, .any, (.ptr 1 []), (.ptr 2 []), (.ptr 3 [])] ++ List.replicate 48 .any) [47, 48] (subc [1, 1, 1, 0, 1, 0, 0] (bodyOf Tryd.f36)) (subc [1, 1, 1, 0, 1, 0, 1] (bodyOf Tryd.f36)) 5, .cell true 59 (.agg [1, 1, 1] [(.osl 8 [] 1 0 2 (some 2)), (.int .u8 0), (.osl 9 [] 6 0 1 (some 1))]), .cell true 3 (.arr 2 (.int .i64) v43), .cell true 63 (.agg [6] [(.agg [1, 1, 1, 1, 1, 1] [(.fn 144 []), (.fn 144 []), (.osl 10 [] 1 0 1 (some 1)), (.int .i64 0), (.int .i64 0), (.int .i64 0)])]), .cell true 5 (.arr 1 (.int .u8) v50), .cell true 59 (.agg [3] [(.agg [1, 1, 1] [(.osl 8 [] 1 0 2 (some 2)), (.int .u8 0), (.osl 9 [] 6 0 1 (some 1))])])] }
  | .h16 v43 v50 =>
  { fr := { id := 97, kind := (.iter 6), T := [(.yld 6), (.ptr 4 []), .any, .any, (.ptr 7 [])] ++ List.replicate 7 .any ++ [(.osl 11 [] 3 0 1 (some 1)), (.int .i64 1), (.int .i64 0)] ++ List.replicate 4 .any ++ [(.osl 9 [] 6 0 1 (some 1)), (.int .i64 1), (.int .i64 0)] ++ List.replicate 31 .any, items := [.code (subc [1, 0, 0, 1, 1, 0, 0, 1, 1, 0, 0, 1, 1, 1] (bodyOf Tryd.f97)), .lp (subc [1, 0, 0, 1, 1, 0, 0, 1, 1, 0, 0] (bodyOf Tryd.f97)), .blk 2, .blk 1, .code (subc [1, 0, 0, 1, 1, 1] (bodyOf Tryd.f97)), .lp (subc [1, 0, 0] (bodyOf Tryd.f97)), .blk 0], D := [], base := 7 },
    stk := [{ id := 36, kind := .top, T := [.any, .any, (.ptr 1 []), (.ptr 2 []), (.ptr 3 [])] ++ List.replicate 48 .any, items := [.fin 6, .blk 0, .code (subc [1, 1, 1, 1] (bodyOf Tryd.f36))], D := [5], base := 0 }],
    H := [.dead, .cell true 59 (.agg [1, 1, 1] [(.raw (.slice none 0 0)), (.int .u8 0), (.raw (.slice none 0 0))]), .cell true 63 (.agg [1, 1, 1, 1, 1, 1] [(.raw .nilFunc), (.raw .nilFunc), (.raw (.slice none 0 0)), (.int .i64 0), (.int .i64 0), (.int .i64 0)]), .cell true 4 (.bool false), (cREF1_0 x), .dfd, .loop .ready none 36 ([.any, .any, (.ptr 1 []), (.ptr 2 []), (.ptr 3 [])] ++ List.replicate 48 .any) [47, 48] (subc [1, 1, 1, 0, 1, 0, 0] (bodyOf Tryd.f36)) (subc [1, 1, 1, 0, 1, 0, 1] (bodyOf Tryd.f36)) 5, .cell true 59 (.agg [1, 1, 1] [(.osl 8 [] 1 0 2 (some 2)), (.int .u8 0), (.osl 9 [] 6 0 1 (some 1))]), .cell true 3 (.arr 2 (.int .i64) v43), .cell true 63 (.agg [6] [(.agg [1, 1, 1, 1, 1, 1] [(.fn 120 []), (.fn 144 []), (.osl 10 [] 1 0 1 (some 1)), (.int .i64 0), (.int .i64 3), (.int .i64 0)])]), .cell true 5 (.arr 1 (.int .u8) v50), .cell true 59 (.agg [3] [(.agg [1, 1, 1] [(.osl 8 [] 1 0 2 (some 2)), (.int .u8 0), (.osl 9 [] 6 0 1 (some 1))])])] }
  | .h17 =>
  { fr := { id := 36, kind := .top, T := [.any, .any, (.ptr 1 []), (.ptr 2 []), (.ptr 3 [])] ++ List.replicate 48 .any, items := [.code (subc [1, 1, 1, 1, 0] (bodyOf Tryd.f36)), .code (subc [1, 1, 1, 1, 1] (bodyOf Tryd.f36))], D := [0], base := 0 },
    stk := [],
    H := [.dfd, .cell true 59 (.agg [1, 1, 1] [(.raw (.slice none 0 0)), (.int .u8 0), (.raw (.slice none 0 0))]), .cell true 63 (.agg [1, 1, 1, 1, 1, 1] [(.raw .nilFunc), (.raw .nilFunc), (.raw (.slice none 0 0)), (.int .i64 0), (.int .i64 0), (.int .i64 0)]), .cell true 4 (.bool false)] }
  | .h18 v43 v59 v65 v68 v69 v70 v71 =>
  { fr := { id := 97, kind := (.iter 6), T := [(.yld 6), (.ptr 4 []), .any, .any, (.ptr 7 [])] ++ List.replicate 7 .any ++ [(.osl 14 [] 3 0 1 (some 1)), (.int .i64 1), (.int .i64 0)] ++ List.replicate 4 .any ++ [(.osl 9 [] 6 0 4 (some 4)), (.int .i64 4), (.int .i64 1)] ++ List.replicate 31 .any, items := [.code (subc [1, 0, 0, 1, 1, 0, 0, 1, 1, 0, 0, 1, 1, 1] (bodyOf Tryd.f97)), .lp (subc [1, 0, 0, 1, 1, 0, 0, 1, 1, 0, 0] (bodyOf Tryd.f97)), .blk 2, .blk 1, .code (subc [1, 0, 0, 1, 1, 1] (bodyOf Tryd.f97)), .lp (subc [1, 0, 0] (bodyOf Tryd.f97)), .blk 0], D := [], base := 7 },
    stk := [{ id := 36, kind := .top, T := [.any, .any, (.ptr 1 []), (.ptr 2 []), (.ptr 3 [])] ++ List.replicate 48 .any, items := [.fin 6, .blk 0, .code (subc [1, 1, 1, 1] (bodyOf Tryd.f36))], D := [5], base := 0 }],
    H := [.dead, .cell true 59 (.agg [1, 1, 1] [(.raw (.slice none 0 0)), (.int .u8 0), (.raw (.slice none 0 0))]), .cell true 63 (.agg [1, 1, 1, 1, 1, 1] [(.raw .nilFunc), (.raw .nilFunc), (.raw (.slice none 0 0)), (.int .i64 0), (.int .i64 0), (.int .i64 0)]), .cell true 4 (.bool false), (cREF1_0 x), .dfd, .loop .ready none 36 ([.any, .any, (.ptr 1 []), (.ptr 2 []), (.ptr 3 [])] ++ List.replicate 48 .any) [47, 48] (subc [1, 1, 1, 0, 1, 0, 0] (bodyOf Tryd.f36)) (subc [1, 1, 1, 0, 1, 0, 1] (bodyOf Tryd.f36)) 5, .cell true 59 (.agg [1, 1, 1] [(.osl 8 [] 1 0 2 (some 2)), (.int .u8 0), (.osl 9 [] 6 0 4 (some 4))]), .cell true 3 (.arr 2 (.int .i64) v43), .cell true 63 (.agg [6, 6, 6, 6] [(.agg [1, 1, 1, 1, 1, 1] [(.fn 119 []), (.fn 120 []), (.osl 10 [] 1 0 1 (some 1)), (.int .i64 (-1)), (.int .i64 1), (.int .i64 0)]), (.agg [1, 1, 1, 1, 1, 1] [(.fn 120 []), (.fn 121 []), (.osl 11 [] 1 0 1 (some 1)), (.int .i64 (-1)), (.int .i64 2), (.int .i64 0)]), (.agg [1, 1, 1, 1, 1, 1] [(.fn 119 []), (.fn 122 []), (.osl 12 [] 1 0 1 (some 1)), (.int .i64 v59), (.int .i64 1), (.int .i64 1)]), (.agg [1, 1, 1, 1, 1, 1] [(.fn 119 []), (.fn 123 []), (.osl 13 [] 1 0 1 (some 1)), (.int .i64 v65), (.int .i64 1), (.int .i64 4)])]), .cell true 5 (.arr 1 (.int .u8) v68), .cell true 5 (.arr 1 (.int .u8) v69), .cell true 5 (.arr 1 (.int .u8) v70), .cell true 5 (.arr 1 (.int .u8) v71), .cell true 59 (.agg [3] [(.agg [1, 1, 1] [(.osl 8 [] 1 0 2 (some 2)), (.int .u8 0), (.osl 9 [] 6 0 4 (some 4))])])] }
  | .h19 v43 v62 v63 v64 v86 v105 v106 v107 v108 v115 =>
  { fr := { id := 97, kind := (.iter 6), T := [(.yld 6), (.ptr 4 []), .any, .any, (.ptr 7 [])] ++ List.replicate 7 .any ++ [(.osl 13 [] 3 0 3 (some 3)), (.int .i64 3), (.int .i64 0)] ++ List.replicate 4 .any ++ [(.osl 9 [] 6 0 3 (some 3)), (.int .i64 3), (.int .i64 1)] ++ List.replicate 31 .any, items := [.code (subc [1, 0, 0, 1, 1, 0, 0, 1, 1, 0, 0, 1, 1, 1] (bodyOf Tryd.f97)), .lp (subc [1, 0, 0, 1, 1, 0, 0, 1, 1, 0, 0] (bodyOf Tryd.f97)), .blk 2, .blk 1, .code (subc [1, 0, 0, 1, 1, 1] (bodyOf Tryd.f97)), .lp (subc [1, 0, 0] (bodyOf Tryd.f97)), .blk 0], D := [], base := 7 },
    stk := [{ id := 36, kind := .top, T := [.any, .any, (.ptr 1 []), (.ptr 2 []), (.ptr 3 [])] ++ List.replicate 48 .any, items := [.fin 6, .blk 0, .code (subc [1, 1, 1, 1] (bodyOf Tryd.f36))], D := [5], base := 0 }],
    H := [.dead, .cell true 59 (.agg [1, 1, 1] [(.raw (.slice none 0 0)), (.int .u8 0), (.raw (.slice none 0 0))]), .cell true 63 (.agg [1, 1, 1, 1, 1, 1] [(.raw .nilFunc), (.raw .nilFunc), (.raw (.slice none 0 0)), (.int .i64 0), (.int .i64 0), (.int .i64 0)]), .cell true 4 (.bool false), (cREF1_0 x), .dfd, .loop .ready none 36 ([.any, .any, (.ptr 1 []), (.ptr 2 []), (.ptr 3 [])] ++ List.replicate 48 .any) [47, 48] (subc [1, 1, 1, 0, 1, 0, 0] (bodyOf Tryd.f36)) (subc [1, 1, 1, 0, 1, 0, 1] (bodyOf Tryd.f36)) 5, .cell true 59 (.agg [1, 1, 1] [(.osl 8 [] 1 0 1 (some 1)), (.int .u8 0), (.osl 9 [] 6 0 3 (some 3))]), .cell true 3 (.arr 1 (.int .i64) v43), .cell true 63 (.agg [6, 6, 6] [(.agg [1, 1, 1, 1, 1, 1] [(.fn 119 []), (.fn 120 []), (.osl 10 [] 1 0 1 (some 1)), (.int .i64 (-1)), (.int .i64 1), (.int .i64 0)]), (.agg [1, 1, 1, 1, 1, 1] [(.fn 120 []), (.fn 121 []), (.osl 11 [] 1 0 1 (some 1)), (.int .i64 (-1)), (.int .i64 2), (.int .i64 0)]), (.agg [1, 1, 1, 1, 1, 1] [(.fn 119 []), (.fn 122 []), (.osl 12 [] 1 0 1 (some 1)), (.int .i64 0), (.int .i64 1), (.int .i64 1)])]), .cell true 5 (.arr 1 (.int .u8) v62), .cell true 5 (.arr 1 (.int .u8) v63), .cell true 5 (.arr 1 (.int .u8) v64), .cell true 59 (.agg [3, 3, 3] [(.agg [1, 1, 1] [(.osl 8 [] 1 0 1 (some 1)), (.int .u8 0), (.osl 9 [] 6 0 3 (some 3))]), (.agg [1, 1, 1] [(.osl 14 [] 1 0 2 (some 2)), (.int .u8 0), (.osl 15 [] 6 0 3 (some 3))]), (.agg [1, 1, 1] [(.osl 19 [] 1 0 1 (some 1)), (.int .u8 0), (.osl 20 [] 6 0 1 (some 1))])]), .cell true 3 (.arr 2 (.int .i64) v86), .cell true 63 (.agg [6, 6, 6] [(.agg [1, 1, 1, 1, 1, 1] [(.fn 119 []), (.fn 120 []), (.osl 16 [] 1 0 1 (some 1)), (.int .i64 (-1)), (.int .i64 1), (.int .i64 0)]), (.agg [1, 1, 1, 1, 1, 1] [(.fn 120 []), (.fn 121 []), (.osl 17 [] 1 0 1 (some 1)), (.int .i64 (-1)), (.int .i64 2), (.int .i64 0)]), (.agg [1, 1, 1, 1, 1, 1] [(.fn 119 []), (.fn 123 []), (.osl 18 [] 1 0 1 (some 1)), (.int .i64 0), (.int .i64 1), (.int .i64 4)])]), .cell true 5 (.arr 1 (.int .u8) v105), .cell true 5 (.arr 1 (.int .u8) v106), .cell true 5 (.arr 1 (.int .u8) v107), .cell true 3 (.arr 1 (.int .i64) v108), .cell true 63 (.agg [6] [(.agg [1, 1, 1, 1, 1, 1] [(.fn 120 []), (.fn 165 []), (.osl 21 [] 1 0 1 (some 1)), (.int .i64 0), (.int .i64 3), (.int .i64 8)])]), .cell true 5 (.arr 1 (.int .u8) v115)] }
  | .h20 v43 v56 v57 =>
  { fr := { id := 97, kind := (.iter 6), T := [(.yld 6), (.ptr 4 []), .any, .any, (.ptr 7 [])] ++ List.replicate 7 .any ++ [(.osl 12 [] 3 0 1 (some 1)), (.int .i64 1), (.int .i64 0)] ++ List.replicate 4 .any ++ [(.osl 9 [] 6 0 2 (some 2)), (.int .i64 2), (.int .i64 1)] ++ List.replicate 31 .any, items := [.code (subc [1, 0, 0, 1, 1, 0, 0, 1, 1, 0, 0, 1, 1, 1] (bodyOf Tryd.f97)), .lp (subc [1, 0, 0, 1, 1, 0, 0, 1, 1, 0, 0] (bodyOf Tryd.f97)), .blk 2, .blk 1, .code (subc [1, 0, 0, 1, 1, 1] (bodyOf Tryd.f97)), .lp (subc [1, 0, 0] (bodyOf Tryd.f97)), .blk 0], D := [], base := 7 },
    stk := [{ id := 36, kind := .top, T := [.any, .any, (.ptr 1 []), (.ptr 2 []), (.ptr 3 [])] ++ List.replicate 48 .any, items := [.fin 6, .blk 0, .code (subc [1, 1, 1, 1] (bodyOf Tryd.f36))], D := [5], base := 0 }],
    H := [.dead, .cell true 59 (.agg [1, 1, 1] [(.raw (.slice none 0 0)), (.int .u8 0), (.raw (.slice none 0 0))]), .cell true 63 (.agg [1, 1, 1, 1, 1, 1] [(.raw .nilFunc), (.raw .nilFunc), (.raw (.slice none 0 0)), (.int .i64 0), (.int .i64 0), (.int .i64 0)]), .cell true 4 (.bool false), (cREF1_0 x), .dfd, .loop .ready none 36 ([.any, .any, (.ptr 1 []), (.ptr 2 []), (.ptr 3 [])] ++ List.replicate 48 .any) [47, 48] (subc [1, 1, 1, 0, 1, 0, 0] (bodyOf Tryd.f36)) (subc [1, 1, 1, 0, 1, 0, 1] (bodyOf Tryd.f36)) 5, .cell true 59 (.agg [1, 1, 1] [(.osl 8 [] 1 0 2 (some 2)), (.int .u8 0), (.osl 9 [] 6 0 2 (some 2))]), .cell true 3 (.arr 2 (.int .i64) v43), .cell true 63 (.agg [6, 6] [(.agg [1, 1, 1, 1, 1, 1] [(.fn 119 []), (.fn 120 []), (.osl 10 [] 1 0 1 (some 1)), (.int .i64 (-1)), (.int .i64 1), (.int .i64 0)]), (.agg [1, 1, 1, 1, 1, 1] [(.fn 119 []), (.fn 123 []), (.osl 11 [] 1 0 1 (some 1)), (.int .i64 0), (.int .i64 1), (.int .i64 4)])]), .cell true 5 (.arr 1 (.int .u8) v56), .cell true 5 (.arr 1 (.int .u8) v57), .cell true 59 (.agg [3] [(.agg [1, 1, 1] [(.osl 8 [] 1 0 2 (some 2)), (.int .u8 0), (.osl 9 [] 6 0 2 (some 2))])])] }
  | .h21 v43 v47 v53 v56 v57 =>
  { fr := { id := 97, kind := (.iter 6), T := [(.yld 6), (.ptr 4 []), .any, .any, (.ptr 7 [])] ++ List.replicate 7 .any ++ [(.osl 12 [] 3 0 1 (some 1)), (.int .i64 1), (.int .i64 0)] ++ List.replicate 4 .any ++ [(.osl 9 [] 6 0 2 (some 2)), (.int .i64 2), (.int .i64 1)] ++ List.replicate 31 .any, items := [.code (subc [1, 0, 0, 1, 1, 0, 0, 1, 1, 0, 0, 1, 1, 1] (bodyOf Tryd.f97)), .lp (subc [1, 0, 0, 1, 1, 0, 0, 1, 1, 0, 0] (bodyOf Tryd.f97)), .blk 2, .blk 1, .code (subc [1, 0, 0, 1, 1, 1] (bodyOf Tryd.f97)), .lp (subc [1, 0, 0] (bodyOf Tryd.f97)), .blk 0], D := [], base := 7 },
    stk := [{ id := 36, kind := .top, T := [.any, .any, (.ptr 1 []), (.ptr 2 []), (.ptr 3 [])] ++ List.replicate 48 .any, items := [.fin 6, .blk 0, .code (subc [1, 1, 1, 1] (bodyOf Tryd.f36))], D := [5], base := 0 }],
    H := [.dead, .cell true 59 (.agg [1, 1, 1] [(.raw (.slice none 0 0)), (.int .u8 0), (.raw (.slice none 0 0))]), .cell true 63 (.agg [1, 1, 1, 1, 1, 1] [(.raw .nilFunc), (.raw .nilFunc), (.raw (.slice none 0 0)), (.int .i64 0), (.int .i64 0), (.int .i64 0)]), .cell true 4 (.bool false), (cREF1_0 x), .dfd, .loop .ready none 36 ([.any, .any, (.ptr 1 []), (.ptr 2 []), (.ptr 3 [])] ++ List.replicate 48 .any) [47, 48] (subc [1, 1, 1, 0, 1, 0, 0] (bodyOf Tryd.f36)) (subc [1, 1, 1, 0, 1, 0, 1] (bodyOf Tryd.f36)) 5, .cell true 59 (.agg [1, 1, 1] [(.osl 8 [] 1 0 2 (some 2)), (.int .u8 0), (.osl 9 [] 6 0 2 (some 2))]), .cell true 3 (.arr 2 (.int .i64) v43), .cell true 63 (.agg [6, 6] [(.agg [1, 1, 1, 1, 1, 1] [(.fn 119 []), (.fn 129 []), (.osl 10 [] 1 0 1 (some 1)), (.int .i64 v47), (.int .i64 1), (.int .i64 1)]), (.agg [1, 1, 1, 1, 1, 1] [(.fn 119 []), (.fn 130 []), (.osl 11 [] 1 0 1 (some 1)), (.int .i64 v53), (.int .i64 1), (.int .i64 0)])]), .cell true 5 (.arr 1 (.int .u8) v56), .cell true 5 (.arr 1 (.int .u8) v57), .cell true 59 (.agg [3] [(.agg [1, 1, 1] [(.osl 8 [] 1 0 2 (some 2)), (.int .u8 0), (.osl 9 [] 6 0 2 (some 2))])])] }
  | .h22 v43 v56 v57 =>
  { fr := { id := 97, kind := (.iter 6), T := [(.yld 6), (.ptr 4 []), .any, .any, (.ptr 7 [])] ++ List.replicate 7 .any ++ [(.osl 12 [] 3 0 1 (some 1)), (.int .i64 1), (.int .i64 0)] ++ List.replicate 4 .any ++ [(.osl 9 [] 6 0 2 (some 2)), (.int .i64 2), (.int .i64 1)] ++ List.replicate 31 .any, items := [.code (subc [1, 0, 0, 1, 1, 0, 0, 1, 1, 0, 0, 1, 1, 1] (bodyOf Tryd.f97)), .lp (subc [1, 0, 0, 1, 1, 0, 0, 1, 1, 0, 0] (bodyOf Tryd.f97)), .blk 2, .blk 1, .code (subc [1, 0, 0, 1, 1, 1] (bodyOf Tryd.f97)), .lp (subc [1, 0, 0] (bodyOf Tryd.f97)), .blk 0], D := [], base := 7 },
    stk := [{ id := 36, kind := .top, T := [.any, .any, (.ptr 1 []), (.ptr 2 []), (.ptr 3 [])] ++ List.replicate 48 .any, items := [.fin 6, .blk 0, .code (subc [1, 1, 1, 1] (bodyOf Tryd.f36))], D := [5], base := 0 }],
    H := [.dead, .cell true 59 (.agg [1, 1, 1] [(.raw (.slice none 0 0)), (.int .u8 0), (.raw (.slice none 0 0))]), .cell true 63 (.agg [1, 1, 1, 1, 1, 1] [(.raw .nilFunc), (.raw .nilFunc), (.raw (.slice none 0 0)), (.int .i64 0), (.int .i64 0), (.int .i64 0)]), .cell true 4 (.bool false), (cREF1_0 x), .dfd, .loop .ready none 36 ([.any, .any, (.ptr 1 []), (.ptr 2 []), (.ptr 3 [])] ++ List.replicate 48 .any) [47, 48] (subc [1, 1, 1, 0, 1, 0, 0] (bodyOf Tryd.f36)) (subc [1, 1, 1, 0, 1, 0, 1] (bodyOf Tryd.f36)) 5, .cell true 59 (.agg [1, 1, 1] [(.osl 8 [] 1 0 1 (some 1)), (.int .u8 243), (.osl 9 [] 6 0 2 (some 2))]), .cell true 3 (.arr 1 (.int .i64) v43), .cell true 63 (.agg [6, 6] [(.agg [1, 1, 1, 1, 1, 1] [(.fn 126 []), (.fn 127 []), (.osl 10 [] 1 0 2 (some 2)), (.int .i64 (-1)), (.int .i64 2), (.int .i64 0)]), (.agg [1, 1, 1, 1, 1, 1] [(.fn 121 []), (.fn 126 []), (.osl 11 [] 1 0 2 (some 2)), (.int .i64 (-1)), (.int .i64 1), (.int .i64 0)])]), .cell true 5 (.arr 2 (.int .u8) v56), .cell true 5 (.arr 2 (.int .u8) v57), .cell true 59 (.agg [3] [(.agg [1, 1, 1] [(.osl 8 [] 1 0 1 (some 1)), (.int .u8 243), (.osl 9 [] 6 0 2 (some 2))])])] }
  | .h23 v43 v56 v57 =>
  { fr := { id := 97, kind := (.iter 6), T := [(.yld 6), (.ptr 4 []), .any, .any, (.ptr 7 [])] ++ List.replicate 7 .any ++ [(.osl 12 [] 3 0 1 (some 1)), (.int .i64 1), (.int .i64 0)] ++ List.replicate 4 .any ++ [(.osl 9 [] 6 0 2 (some 2)), (.int .i64 2), (.int .i64 1)] ++ List.replicate 31 .any, items := [.code (subc [1, 0, 0, 1, 1, 0, 0, 1, 1, 0, 0, 1, 1, 1] (bodyOf Tryd.f97)), .lp (subc [1, 0, 0, 1, 1, 0, 0, 1, 1, 0, 0] (bodyOf Tryd.f97)), .blk 2, .blk 1, .code (subc [1, 0, 0, 1, 1, 1] (bodyOf Tryd.f97)), .lp (subc [1, 0, 0] (bodyOf Tryd.f97)), .blk 0], D := [], base := 7 },
    stk := [{ id := 36, kind := .top, T := [.any, .any, (.ptr 1 []), (.ptr 2 []), (.ptr 3 [])] ++ List.replicate 48 .any, items := [.fin 6, .blk 0, .code (subc [1, 1, 1, 1] (bodyOf Tryd.f36))], D := [5], base := 0 }],
    H := [.dead, .cell true 59 (.agg [1, 1, 1] [(.raw (.slice none 0 0)), (.int .u8 0), (.raw (.slice none 0 0))]), .cell true 63 (.agg [1, 1, 1, 1, 1, 1] [(.raw .nilFunc), (.raw .nilFunc), (.raw (.slice none 0 0)), (.int .i64 0), (.int .i64 0), (.int .i64 0)]), .cell true 4 (.bool false), (cREF1_0 x), .dfd, .loop .ready none 36 ([.any, .any, (.ptr 1 []), (.ptr 2 []), (.ptr 3 [])] ++ List.replicate 48 .any) [47, 48] (subc [1, 1, 1, 0, 1, 0, 0] (bodyOf Tryd.f36)) (subc [1, 1, 1, 0, 1, 0, 1] (bodyOf Tryd.f36)) 5, .cell true 59 (.agg [1, 1, 1] [(.osl 8 [] 1 0 2 (some 2)), (.int .u8 0), (.osl 9 [] 6 0 2 (some 2))]), .cell true 3 (.arr 2 (.int .i64) v43), .cell true 63 (.agg [6, 6] [(.agg [1, 1, 1, 1, 1, 1] [(.fn 144 []), (.fn 123 []), (.osl 10 [] 1 0 1 (some 1)), (.int .i64 0), (.int .i64 0), (.int .i64 4)]), (.agg [1, 1, 1, 1, 1, 1] [(.fn 119 []), (.fn 144 []), (.osl 11 [] 1 0 1 (some 1)), (.int .i64 4), (.int .i64 1), (.int .i64 0)])]), .cell true 5 (.arr 1 (.int .u8) v56), .cell true 5 (.arr 1 (.int .u8) v57), .cell true 59 (.agg [3] [(.agg [1, 1, 1] [(.osl 8 [] 1 0 2 (some 2)), (.int .u8 0), (.osl 9 [] 6 0 2 (some 2))])])] }
  | .h24 v43 v59 v65 v68 v69 v70 v71 =>
  { fr := { id := 97, kind := (.iter 6), T := [(.yld 6), (.ptr 4 []), .any, .any, (.ptr 7 [])] ++ List.replicate 7 .any ++ [(.osl 14 [] 3 0 1 (some 1)), (.int .i64 1), (.int .i64 0)] ++ List.replicate 4 .any ++ [(.osl 9 [] 6 0 4 (some 4)), (.int .i64 4), (.int .i64 2)] ++ List.replicate 31 .any, items := [.code (subc [1, 0, 0, 1, 1, 0, 0, 1, 1, 0, 0, 1, 1, 1] (bodyOf Tryd.f97)), .lp (subc [1, 0, 0, 1, 1, 0, 0, 1, 1, 0, 0] (bodyOf Tryd.f97)), .blk 2, .blk 1, .code (subc [1, 0, 0, 1, 1, 1] (bodyOf Tryd.f97)), .lp (subc [1, 0, 0] (bodyOf Tryd.f97)), .blk 0], D := [], base := 7 },
    stk := [{ id := 36, kind := .top, T := [.any, .any, (.ptr 1 []), (.ptr 2 []), (.ptr 3 [])] ++ List.replicate 48 .any, items := [.fin 6, .blk 0, .code (subc [1, 1, 1, 1] (bodyOf Tryd.f36))], D := [5], base := 0 }],
    H := [.dead, .cell true 59 (.agg [1, 1, 1] [(.raw (.slice none 0 0)), (.int .u8 0), (.raw (.slice none 0 0))]), .cell true 63 (.agg [1, 1, 1, 1, 1, 1] [(.raw .nilFunc), (.raw .nilFunc), (.raw (.slice none 0 0)), (.int .i64 0), (.int .i64 0), (.int .i64 0)]), .cell true 4 (.bool false), (cREF1_0 x), .dfd, .loop .ready none 36 ([.any, .any, (.ptr 1 []), (.ptr 2 []), (.ptr 3 [])] ++ List.replicate 48 .any) [47, 48] (subc [1, 1, 1, 0, 1, 0, 0] (bodyOf Tryd.f36)) (subc [1, 1, 1, 0, 1, 0, 1] (bodyOf Tryd.f36)) 5, .cell true 59 (.agg [1, 1, 1] [(.osl 8 [] 1 0 2 (some 2)), (.int .u8 0), (.osl 9 [] 6 0 4 (some 4))]), .cell true 3 (.arr 2 (.int .i64) v43), .cell true 63 (.agg [6, 6, 6, 6] [(.agg [1, 1, 1, 1, 1, 1] [(.fn 119 []), (.fn 120 []), (.osl 10 [] 1 0 1 (some 1)), (.int .i64 (-1)), (.int .i64 1), (.int .i64 0)]), (.agg [1, 1, 1, 1, 1, 1] [(.fn 120 []), (.fn 121 []), (.osl 11 [] 1 0 1 (some 1)), (.int .i64 (-1)), (.int .i64 2), (.int .i64 0)]), (.agg [1, 1, 1, 1, 1, 1] [(.fn 119 []), (.fn 122 []), (.osl 12 [] 1 0 1 (some 1)), (.int .i64 v59), (.int .i64 1), (.int .i64 1)]), (.agg [1, 1, 1, 1, 1, 1] [(.fn 119 []), (.fn 123 []), (.osl 13 [] 1 0 1 (some 1)), (.int .i64 v65), (.int .i64 1), (.int .i64 4)])]), .cell true 5 (.arr 1 (.int .u8) v68), .cell true 5 (.arr 1 (.int .u8) v69), .cell true 5 (.arr 1 (.int .u8) v70), .cell true 5 (.arr 1 (.int .u8) v71), .cell true 59 (.agg [3] [(.agg [1, 1, 1] [(.osl 8 [] 1 0 2 (some 2)), (.int .u8 0), (.osl 9 [] 6 0 4 (some 4))])])] }
  | .h25 v43 v62 v63 v64 v86 v105 v106 v107 v108 v115 =>
  { fr := { id := 97, kind := (.iter 6), T := [(.yld 6), (.ptr 4 []), .any, .any, (.ptr 7 [])] ++ List.replicate 7 .any ++ [(.osl 13 [] 3 0 3 (some 3)), (.int .i64 3), (.int .i64 0)] ++ List.replicate 4 .any ++ [(.osl 9 [] 6 0 3 (some 3)), (.int .i64 3), (.int .i64 2)] ++ List.replicate 31 .any, items := [.code (subc [1, 0, 0, 1, 1, 0, 0, 1, 1, 0, 0, 1, 1, 1] (bodyOf Tryd.f97)), .lp (subc [1, 0, 0, 1, 1, 0, 0, 1, 1, 0, 0] (bodyOf Tryd.f97)), .blk 2, .blk 1, .code (subc [1, 0, 0, 1, 1, 1] (bodyOf Tryd.f97)), .lp (subc [1, 0, 0] (bodyOf Tryd.f97)), .blk 0], D := [], base := 7 },
    stk := [{ id := 36, kind := .top, T := [.any, .any, (.ptr 1 []), (.ptr 2 []), (.ptr 3 [])] ++ List.replicate 48 .any, items := [.fin 6, .blk 0, .code (subc [1, 1, 1, 1] (bodyOf Tryd.f36))], D := [5], base := 0 }],
    H := [.dead, .cell true 59 (.agg [1, 1, 1] [(.raw (.slice none 0 0)), (.int .u8 0), (.raw (.slice none 0 0))]), .cell true 63 (.agg [1, 1, 1, 1, 1, 1] [(.raw .nilFunc), (.raw .nilFunc), (.raw (.slice none 0 0)), (.int .i64 0), (.int .i64 0), (.int .i64 0)]), .cell true 4 (.bool false), (cREF1_0 x), .dfd, .loop .ready none 36 ([.any, .any, (.ptr 1 []), (.ptr 2 []), (.ptr 3 [])] ++ List.replicate 48 .any) [47, 48] (subc [1, 1, 1, 0, 1, 0, 0] (bodyOf Tryd.f36)) (subc [1, 1, 1, 0, 1, 0, 1] (bodyOf Tryd.f36)) 5, .cell true 59 (.agg [1, 1, 1] [(.osl 8 [] 1 0 1 (some 1)), (.int .u8 0), (.osl 9 [] 6 0 3 (some 3))]), .cell true 3 (.arr 1 (.int .i64) v43), .cell true 63 (.agg [6, 6, 6] [(.agg [1, 1, 1, 1, 1, 1] [(.fn 119 []), (.fn 120 []), (.osl 10 [] 1 0 1 (some 1)), (.int .i64 (-1)), (.int .i64 1), (.int .i64 0)]), (.agg [1, 1, 1, 1, 1, 1] [(.fn 120 []), (.fn 121 []), (.osl 11 [] 1 0 1 (some 1)), (.int .i64 (-1)), (.int .i64 2), (.int .i64 0)]), (.agg [1, 1, 1, 1, 1, 1] [(.fn 119 []), (.fn 122 []), (.osl 12 [] 1 0 1 (some 1)), (.int .i64 0), (.int .i64 1), (.int .i64 1)])]), .cell true 5 (.arr 1 (.int .u8) v62), .cell true 5 (.arr 1 (.int .u8) v63), .cell true 5 (.arr 1 (.int .u8) v64), .cell true 59 (.agg [3, 3, 3] [(.agg [1, 1, 1] [(.osl 8 [] 1 0 1 (some 1)), (.int .u8 0), (.osl 9 [] 6 0 3 (some 3))]), (.agg [1, 1, 1] [(.osl 14 [] 1 0 2 (some 2)), (.int .u8 0), (.osl 15 [] 6 0 3 (some 3))]), (.agg [1, 1, 1] [(.osl 19 [] 1 0 1 (some 1)), (.int .u8 0), (.osl 20 [] 6 0 1 (some 1))])]), .cell true 3 (.arr 2 (.int .i64) v86), .cell true 63 (.agg [6, 6, 6] [(.agg [1, 1, 1, 1, 1, 1] [(.fn 119 []), (.fn 120 []), (.osl 16 [] 1 0 1 (some 1)), (.int .i64 (-1)), (.int .i64 1), (.int .i64 0)]), (.agg [1, 1, 1, 1, 1, 1] [(.fn 120 []), (.fn 121 []), (.osl 17 [] 1 0 1 (some 1)), (.int .i64 (-1)), (.int .i64 2), (.int .i64 0)]), (.agg [1, 1, 1, 1, 1, 1] [(.fn 119 []), (.fn 123 []), (.osl 18 [] 1 0 1 (some 1)), (.int .i64 0), (.int .i64 1), (.int .i64 4)])]), .cell true 5 (.arr 1 (.int .u8) v105), .cell true 5 (.arr 1 (.int .u8) v106), .cell true 5 (.arr 1 (.int .u8) v107), .cell true 3 (.arr 1 (.int .i64) v108), .cell true 63 (.agg [6] [(.agg [1, 1, 1, 1, 1, 1] [(.fn 120 []), (.fn 165 []), (.osl 21 [] 1 0 1 (some 1)), (.int .i64 0), (.int .i64 3), (.int .i64 8)])]), .cell true 5 (.arr 1 (.int .u8) v115)] }
  | .h26 v43 v59 v65 v68 v69 v70 v71 =>
  { fr := { id := 97, kind := (.iter 6), T := [(.yld 6), (.ptr 4 []), .any, .any, (.ptr 7 [])] ++ List.replicate 7 .any ++ [(.osl 14 [] 3 0 1 (some 1)), (.int .i64 1), (.int .i64 0)] ++ List.replicate 4 .any ++ [(.osl 9 [] 6 0 4 (some 4)), (.int .i64 4), (.int .i64 3)] ++ List.replicate 31 .any, items := [.code (subc [1, 0, 0, 1, 1, 0, 0, 1, 1, 0, 0, 1, 1, 1] (bodyOf Tryd.f97)), .lp (subc [1, 0, 0, 1, 1, 0, 0, 1, 1, 0, 0] (bodyOf Tryd.f97)), .blk 2, .blk 1, .code (subc [1, 0, 0, 1, 1, 1] (bodyOf Tryd.f97)), .lp (subc [1, 0, 0] (bodyOf Tryd.f97)), .blk 0], D := [], base := 7 },
    stk := [{ id := 36, kind := .top, T := [.any, .any, (.ptr 1 []), (.ptr 2 []), (.ptr 3 [])] ++ List.replicate 48 .any, items := [.fin 6, .blk 0, .code (subc [1, 1, 1, 1] (bodyOf Tryd.f36))], D := [5], base := 0 }],
    H := [.dead, .cell true 59 (.agg [1, 1, 1] [(.raw (.slice none 0 0)), (.int .u8 0), (.raw (.slice none 0 0))]), .cell true 63 (.agg [1, 1, 1, 1, 1, 1] [(.raw .nilFunc), (.raw .nilFunc), (.raw (.slice none 0 0)), (.int .i64 0), (.int .i64 0), (.int .i64 0)]), .cell true 4 (.bool false), (cREF1_0 x), .dfd, .loop .ready none 36 ([.any, .any, (.ptr 1 []), (.ptr 2 []), (.ptr 3 [])] ++ List.replicate 48 .any) [47, 48] (subc [1, 1, 1, 0, 1, 0, 0] (bodyOf Tryd.f36)) (subc [1, 1, 1, 0, 1, 0, 1] (bodyOf Tryd.f36)) 5, .cell true 59 (.agg [1, 1, 1] [(.osl 8 [] 1 0 2 (some 2)), (.int .u8 0), (.osl 9 [] 6 0 4 (some 4))]), .cell true 3 (.arr 2 (.int .i64) v43), .cell true 63 (.agg [6, 6, 6, 6] [(.agg [1, 1, 1, 1, 1, 1] [(.fn 119 []), (.fn 120 []), (.osl 10 [] 1 0 1 (some 1)), (.int .i64 (-1)), (.int .i64 1), (.int .i64 0)]), (.agg [1, 1, 1, 1, 1, 1] [(.fn 120 []), (.fn 121 []), (.osl 11 [] 1 0 1 (some 1)), (.int .i64 (-1)), (.int .i64 2), (.int .i64 0)]), (.agg [1, 1, 1, 1, 1, 1] [(.fn 119 []), (.fn 122 []), (.osl 12 [] 1 0 1 (some 1)), (.int .i64 v59), (.int .i64 1), (.int .i64 1)]), (.agg [1, 1, 1, 1, 1, 1] [(.fn 119 []), (.fn 123 []), (.osl 13 [] 1 0 1 (some 1)), (.int .i64 v65), (.int .i64 1), (.int .i64 4)])]), .cell true 5 (.arr 1 (.int .u8) v68), .cell true 5 (.arr 1 (.int .u8) v69), .cell true 5 (.arr 1 (.int .u8) v70), .cell true 5 (.arr 1 (.int .u8) v71), .cell true 59 (.agg [3] [(.agg [1, 1, 1] [(.osl 8 [] 1 0 2 (some 2)), (.int .u8 0), (.osl 9 [] 6 0 4 (some 4))])])] }
  | .h27 v43 v62 v63 v64 v86 v105 v106 v107 v108 v115 =>
  { fr := { id := 97, kind := (.iter 6), T := [(.yld 6), (.ptr 4 []), .any, .any, (.ptr 7 [])] ++ List.replicate 7 .any ++ [(.osl 13 [] 3 0 3 (some 3)), (.int .i64 3), (.int .i64 1)] ++ List.replicate 4 .any ++ [(.osl 9 [] 6 0 3 (some 3)), (.int .i64 3), (.int .i64 0)] ++ List.replicate 31 .any, items := [.code (subc [1, 0, 0, 1, 1, 0, 0, 1, 1, 0, 0, 1, 1, 1] (bodyOf Tryd.f97)), .lp (subc [1, 0, 0, 1, 1, 0, 0, 1, 1, 0, 0] (bodyOf Tryd.f97)), .blk 2, .blk 1, .code (subc [1, 0, 0, 1, 1, 1] (bodyOf Tryd.f97)), .lp (subc [1, 0, 0] (bodyOf Tryd.f97)), .blk 0], D := [], base := 7 },
    stk := [{ id := 36, kind := .top, T := [.any, .any, (.ptr 1 []), (.ptr 2 []), (.ptr 3 [])] ++ List.replicate 48 .any, items := [.fin 6, .blk 0, .code (subc [1, 1, 1, 1] (bodyOf Tryd.f36))], D := [5], base := 0 }],
    H := [.dead, .cell true 59 (.agg [1, 1, 1] [(.raw (.slice none 0 0)), (.int .u8 0), (.raw (.slice none 0 0))]), .cell true 63 (.agg [1, 1, 1, 1, 1, 1] [(.raw .nilFunc), (.raw .nilFunc), (.raw (.slice none 0 0)), (.int .i64 0), (.int .i64 0), (.int .i64 0)]), .cell true 4 (.bool false), (cREF1_0 x), .dfd, .loop .ready none 36 ([.any, .any, (.ptr 1 []), (.ptr 2 []), (.ptr 3 [])] ++ List.replicate 48 .any) [47, 48] (subc [1, 1, 1, 0, 1, 0, 0] (bodyOf Tryd.f36)) (subc [1, 1, 1, 0, 1, 0, 1] (bodyOf Tryd.f36)) 5, .cell true 59 (.agg [1, 1, 1] [(.osl 8 [] 1 0 2 (some 2)), (.int .u8 0), (.osl 9 [] 6 0 3 (some 3))]), .cell true 3 (.arr 2 (.int .i64) v43), .cell true 63 (.agg [6, 6, 6] [(.agg [1, 1, 1, 1, 1, 1] [(.fn 119 []), (.fn 120 []), (.osl 10 [] 1 0 1 (some 1)), (.int .i64 (-1)), (.int .i64 1), (.int .i64 0)]), (.agg [1, 1, 1, 1, 1, 1] [(.fn 120 []), (.fn 121 []), (.osl 11 [] 1 0 1 (some 1)), (.int .i64 (-1)), (.int .i64 2), (.int .i64 0)]), (.agg [1, 1, 1, 1, 1, 1] [(.fn 119 []), (.fn 123 []), (.osl 12 [] 1 0 1 (some 1)), (.int .i64 0), (.int .i64 1), (.int .i64 4)])]), .cell true 5 (.arr 1 (.int .u8) v62), .cell true 5 (.arr 1 (.int .u8) v63), .cell true 5 (.arr 1 (.int .u8) v64), .cell true 59 (.agg [3, 3, 3] [(.agg [1, 1, 1] [(.osl 14 [] 1 0 1 (some 1)), (.int .u8 0), (.osl 15 [] 6 0 3 (some 3))]), (.agg [1, 1, 1] [(.osl 8 [] 1 0 2 (some 2)), (.int .u8 0), (.osl 9 [] 6 0 3 (some 3))]), (.agg [1, 1, 1] [(.osl 19 [] 1 0 1 (some 1)), (.int .u8 0), (.osl 20 [] 6 0 1 (some 1))])]), .cell true 3 (.arr 1 (.int .i64) v86), .cell true 63 (.agg [6, 6, 6] [(.agg [1, 1, 1, 1, 1, 1] [(.fn 119 []), (.fn 120 []), (.osl 16 [] 1 0 1 (some 1)), (.int .i64 (-1)), (.int .i64 1), (.int .i64 0)]), (.agg [1, 1, 1, 1, 1, 1] [(.fn 120 []), (.fn 121 []), (.osl 17 [] 1 0 1 (some 1)), (.int .i64 (-1)), (.int .i64 2), (.int .i64 0)]), (.agg [1, 1, 1, 1, 1, 1] [(.fn 119 []), (.fn 122 []), (.osl 18 [] 1 0 1 (some 1)), (.int .i64 0), (.int .i64 1), (.int .i64 1)])]), .cell true 5 (.arr 1 (.int .u8) v105), .cell true 5 (.arr 1 (.int .u8) v106), .cell true 5 (.arr 1 (.int .u8) v107), .cell true 3 (.arr 1 (.int .i64) v108), .cell true 63 (.agg [6] [(.agg [1, 1, 1, 1, 1, 1] [(.fn 120 []), (.fn 165 []), (.osl 21 [] 1 0 1 (some 1)), (.int .i64 0), (.int .i64 3), (.int .i64 8)])]), .cell true 5 (.arr 1 (.int .u8) v115)] }
  | .h28 v43 v62 v63 v64 v86 v105 v106 v107 v108 v115 =>
  { fr := { id := 97, kind := (.iter 6), T := [(.yld 6), (.ptr 4 []), .any, .any, (.ptr 7 [])] ++ List.replicate 7 .any ++ [(.osl 13 [] 3 0 3 (some 3)), (.int .i64 3), (.int .i64 1)] ++ List.replicate 4 .any ++ [(.osl 9 [] 6 0 3 (some 3)), (.int .i64 3), (.int .i64 1)] ++ List.replicate 31 .any, items := [.code (subc [1, 0, 0, 1, 1, 0, 0, 1, 1, 0, 0, 1, 1, 1] (bodyOf Tryd.f97)), .lp (subc [1, 0, 0, 1, 1, 0, 0, 1, 1, 0, 0] (bodyOf Tryd.f97)), .blk 2, .blk 1, .code (subc [1, 0, 0, 1, 1, 1] (bodyOf Tryd.f97)), .lp (subc [1, 0, 0] (bodyOf Tryd.f97)), .blk 0], D := [], base := 7 },
    stk := [{ id := 36, kind := .top, T := [.any, .any, (.ptr 1 []), (.ptr 2 []), (.ptr 3 [])] ++ List.replicate 48 .any, items := [.fin 6, .blk 0, .code (subc [1, 1, 1, 1] (bodyOf Tryd.f36))], D := [5], base := 0 }],
    H := [.dead, .cell true 59 (.agg [1, 1, 1] [(.raw (.slice none 0 0)), (.int .u8 0), (.raw (.slice none 0 0))]), .cell true 63 (.agg [1, 1, 1, 1, 1, 1] [(.raw .nilFunc), (.raw .nilFunc), (.raw (.slice none 0 0)), (.int .i64 0), (.int .i64 0), (.int .i64 0)]), .cell true 4 (.bool false), (cREF1_0 x), .dfd, .loop .ready none 36 ([.any, .any, (.ptr 1 []), (.ptr 2 []), (.ptr 3 [])] ++ List.replicate 48 .any) [47, 48] (subc [1, 1, 1, 0, 1, 0, 0] (bodyOf Tryd.f36)) (subc [1, 1, 1, 0, 1, 0, 1] (bodyOf Tryd.f36)) 5, .cell true 59 (.agg [1, 1, 1] [(.osl 8 [] 1 0 2 (some 2)), (.int .u8 0), (.osl 9 [] 6 0 3 (some 3))]), .cell true 3 (.arr 2 (.int .i64) v43), .cell true 63 (.agg [6, 6, 6] [(.agg [1, 1, 1, 1, 1, 1] [(.fn 119 []), (.fn 120 []), (.osl 10 [] 1 0 1 (some 1)), (.int .i64 (-1)), (.int .i64 1), (.int .i64 0)]), (.agg [1, 1, 1, 1, 1, 1] [(.fn 120 []), (.fn 121 []), (.osl 11 [] 1 0 1 (some 1)), (.int .i64 (-1)), (.int .i64 2), (.int .i64 0)]), (.agg [1, 1, 1, 1, 1, 1] [(.fn 119 []), (.fn 123 []), (.osl 12 [] 1 0 1 (some 1)), (.int .i64 0), (.int .i64 1), (.int .i64 4)])]), .cell true 5 (.arr 1 (.int .u8) v62), .cell true 5 (.arr 1 (.int .u8) v63), .cell true 5 (.arr 1 (.int .u8) v64), .cell true 59 (.agg [3, 3, 3] [(.agg [1, 1, 1] [(.osl 14 [] 1 0 1 (some 1)), (.int .u8 0), (.osl 15 [] 6 0 3 (some 3))]), (.agg [1, 1, 1] [(.osl 8 [] 1 0 2 (some 2)), (.int .u8 0), (.osl 9 [] 6 0 3 (some 3))]), (.agg [1, 1, 1] [(.osl 19 [] 1 0 1 (some 1)), (.int .u8 0), (.osl 20 [] 6 0 1 (some 1))])]), .cell true 3 (.arr 1 (.int .i64) v86), .cell true 63 (.agg [6, 6, 6] [(.agg [1, 1, 1, 1, 1, 1] [(.fn 119 []), (.fn 120 []), (.osl 16 [] 1 0 1 (some 1)), (.int .i64 (-1)), (.int .i64 1), (.int .i64 0)]), (.agg [1, 1, 1, 1, 1, 1] [(.fn 120 []), (.fn 121 []), (.osl 17 [] 1 0 1 (some 1)), (.int .i64 (-1)), (.int .i64 2), (.int .i64 0)]), (.agg [1, 1, 1, 1, 1, 1] [(.fn 119 []), (.fn 122 []), (.osl 18 [] 1 0 1 (some 1)), (.int .i64 0), (.int .i64 1), (.int .i64 1)])]), .cell true 5 (.arr 1 (.int .u8) v105), .cell true 5 (.arr 1 (.int .u8) v106), .cell true 5 (.arr 1 (.int .u8) v107), .cell true 3 (.arr 1 (.int .i64) v108), .cell true 63 (.agg [6] [(.agg [1, 1, 1, 1, 1, 1] [(.fn 120 []), (.fn 165 []), (.osl 21 [] 1 0 1 (some 1)), (.int .i64 0), (.int .i64 3), (.int .i64 8)])]), .cell true 5 (.arr 1 (.int .u8) v115)] }
  | .h29 v43 v62 v63 v64 v86 v105 v106 v107 v108 v115 =>
  { fr := { id := 97, kind := (.iter 6), T := [(.yld 6), (.ptr 4 []), .any, .any, (.ptr 7 [])] ++ List.replicate 7 .any ++ [(.osl 13 [] 3 0 3 (some 3)), (.int .i64 3), (.int .i64 1)] ++ List.replicate 4 .any ++ [(.osl 9 [] 6 0 3 (some 3)), (.int .i64 3), (.int .i64 2)] ++ List.replicate 31 .any, items := [.code (subc [1, 0, 0, 1, 1, 0, 0, 1, 1, 0, 0, 1, 1, 1] (bodyOf Tryd.f97)), .lp (subc [1, 0, 0, 1, 1, 0, 0, 1, 1, 0, 0] (bodyOf Tryd.f97)), .blk 2, .blk 1, .code (subc [1, 0, 0, 1, 1, 1] (bodyOf Tryd.f97)), .lp (subc [1, 0, 0] (bodyOf Tryd.f97)), .blk 0], D := [], base := 7 },
    stk := [{ id := 36, kind := .top, T := [.any, .any, (.ptr 1 []), (.ptr 2 []), (.ptr 3 [])] ++ List.replicate 48 .any, items := [.fin 6, .blk 0, .code (subc [1, 1, 1, 1] (bodyOf Tryd.f36))], D := [5], base := 0 }],
    H := [.dead, .cell true 59 (.agg [1, 1, 1] [(.raw (.slice none 0 0)), (.int .u8 0), (.raw (.slice none 0 0))]), .cell true 63 (.agg [1, 1, 1, 1, 1, 1] [(.raw .nilFunc), (.raw .nilFunc), (.raw (.slice none 0 0)), (.int .i64 0), (.int .i64 0), (.int .i64 0)]), .cell true 4 (.bool false), (cREF1_0 x), .dfd, .loop .ready none 36 ([.any, .any, (.ptr 1 []), (.ptr 2 []), (.ptr 3 [])] ++ List.replicate 48 .any) [47, 48] (subc [1, 1, 1, 0, 1, 0, 0] (bodyOf Tryd.f36)) (subc [1, 1, 1, 0, 1, 0, 1] (bodyOf Tryd.f36)) 5, .cell true 59 (.agg [1, 1, 1] [(.osl 8 [] 1 0 2 (some 2)), (.int .u8 0), (.osl 9 [] 6 0 3 (some 3))]), .cell true 3 (.arr 2 (.int .i64) v43), .cell true 63 (.agg [6, 6, 6] [(.agg [1, 1, 1, 1, 1, 1] [(.fn 119 []), (.fn 120 []), (.osl 10 [] 1 0 1 (some 1)), (.int .i64 (-1)), (.int .i64 1), (.int .i64 0)]), (.agg [1, 1, 1, 1, 1, 1] [(.fn 120 []), (.fn 121 []), (.osl 11 [] 1 0 1 (some 1)), (.int .i64 (-1)), (.int .i64 2), (.int .i64 0)]), (.agg [1, 1, 1, 1, 1, 1] [(.fn 119 []), (.fn 123 []), (.osl 12 [] 1 0 1 (some 1)), (.int .i64 0), (.int .i64 1), (.int .i64 4)])]), .cell true 5 (.arr 1 (.int .u8) v62), .cell true 5 (.arr 1 (.int .u8) v63), .cell true 5 (.arr 1 (.int .u8) v64), .cell true 59 (.agg [3, 3, 3] [(.agg [1, 1, 1] [(.osl 14 [] 1 0 1 (some 1)), (.int .u8 0), (.osl 15 [] 6 0 3 (some 3))]), (.agg [1, 1, 1] [(.osl 8 [] 1 0 2 (some 2)), (.int .u8 0), (.osl 9 [] 6 0 3 (some 3))]), (.agg [1, 1, 1] [(.osl 19 [] 1 0 1 (some 1)), (.int .u8 0), (.osl 20 [] 6 0 1 (some 1))])]), .cell true 3 (.arr 1 (.int .i64) v86), .cell true 63 (.agg [6, 6, 6] [(.agg [1, 1, 1, 1, 1, 1] [(.fn 119 []), (.fn 120 []), (.osl 16 [] 1 0 1 (some 1)), (.int .i64 (-1)), (.int .i64 1), (.int .i64 0)]), (.agg [1, 1, 1, 1, 1, 1] [(.fn 120 []), (.fn 121 []), (.osl 17 [] 1 0 1 (some 1)), (.int .i64 (-1)), (.int .i64 2), (.int .i64 0)]), (.agg [1, 1, 1, 1, 1, 1] [(.fn 119 []), (.fn 122 []), (.osl 18 [] 1 0 1 (some 1)), (.int .i64 0), (.int .i64 1), (.int .i64 1)])]), .cell true 5 (.arr 1 (.int .u8) v105), .cell true 5 (.arr 1 (.int .u8) v106), .cell true 5 (.arr 1 (.int .u8) v107), .cell true 3 (.arr 1 (.int .i64) v108), .cell true 63 (.agg [6] [(.agg [1, 1, 1, 1, 1, 1] [(.fn 120 []), (.fn 165 []), (.osl 21 [] 1 0 1 (some 1)), (.int .i64 0), (.int .i64 3), (.int .i64 8)])]), .cell true 5 (.arr 1 (.int .u8) v115)] }
  | .h30 v43 v50 v72 v91 v92 v93 v94 v113 v114 v115 =>
  { fr := { id := 97, kind := (.iter 6), T := [(.yld 6), (.ptr 4 []), .any, .any, (.ptr 7 [])] ++ List.replicate 7 .any ++ [(.osl 11 [] 3 0 3 (some 3)), (.int .i64 3), (.int .i64 2)] ++ List.replicate 4 .any ++ [(.osl 9 [] 6 0 1 (some 1)), (.int .i64 1), (.int .i64 0)] ++ List.replicate 31 .any, items := [.code (subc [1, 0, 0, 1, 1, 0, 0, 1, 1, 0, 0, 1, 1, 1] (bodyOf Tryd.f97)), .lp (subc [1, 0, 0, 1, 1, 0, 0, 1, 1, 0, 0] (bodyOf Tryd.f97)), .blk 2, .blk 1, .code (subc [1, 0, 0, 1, 1, 1] (bodyOf Tryd.f97)), .lp (subc [1, 0, 0] (bodyOf Tryd.f97)), .blk 0], D := [], base := 7 },
    stk := [{ id := 36, kind := .top, T := [.any, .any, (.ptr 1 []), (.ptr 2 []), (.ptr 3 [])] ++ List.replicate 48 .any, items := [.fin 6, .blk 0, .code (subc [1, 1, 1, 1] (bodyOf Tryd.f36))], D := [5], base := 0 }],
    H := [.dead, .cell true 59 (.agg [1, 1, 1] [(.raw (.slice none 0 0)), (.int .u8 0), (.raw (.slice none 0 0))]), .cell true 63 (.agg [1, 1, 1, 1, 1, 1] [(.raw .nilFunc), (.raw .nilFunc), (.raw (.slice none 0 0)), (.int .i64 0), (.int .i64 0), (.int .i64 0)]), .cell true 4 (.bool false), (cREF1_0 x), .dfd, .loop .ready none 36 ([.any, .any, (.ptr 1 []), (.ptr 2 []), (.ptr 3 [])] ++ List.replicate 48 .any) [47, 48] (subc [1, 1, 1, 0, 1, 0, 0] (bodyOf Tryd.f36)) (subc [1, 1, 1, 0, 1, 0, 1] (bodyOf Tryd.f36)) 5, .cell true 59 (.agg [1, 1, 1] [(.osl 8 [] 1 0 1 (some 1)), (.int .u8 0), (.osl 9 [] 6 0 1 (some 1))]), .cell true 3 (.arr 1 (.int .i64) v43), .cell true 63 (.agg [6] [(.agg [1, 1, 1, 1, 1, 1] [(.fn 120 []), (.fn 165 []), (.osl 10 [] 1 0 1 (some 1)), (.int .i64 0), (.int .i64 3), (.int .i64 8)])]), .cell true 5 (.arr 1 (.int .u8) v50), .cell true 59 (.agg [3, 3, 3] [(.agg [1, 1, 1] [(.osl 12 [] 1 0 1 (some 1)), (.int .u8 0), (.osl 13 [] 6 0 3 (some 3))]), (.agg [1, 1, 1] [(.osl 17 [] 1 0 2 (some 2)), (.int .u8 0), (.osl 18 [] 6 0 3 (some 3))]), (.agg [1, 1, 1] [(.osl 8 [] 1 0 1 (some 1)), (.int .u8 0), (.osl 9 [] 6 0 1 (some 1))])]), .cell true 3 (.arr 1 (.int .i64) v72), .cell true 63 (.agg [6, 6, 6] [(.agg [1, 1, 1, 1, 1, 1] [(.fn 119 []), (.fn 120 []), (.osl 14 [] 1 0 1 (some 1)), (.int .i64 (-1)), (.int .i64 1), (.int .i64 0)]), (.agg [1, 1, 1, 1, 1, 1] [(.fn 120 []), (.fn 121 []), (.osl 15 [] 1 0 1 (some 1)), (.int .i64 (-1)), (.int .i64 2), (.int .i64 0)]), (.agg [1, 1, 1, 1, 1, 1] [(.fn 119 []), (.fn 122 []), (.osl 16 [] 1 0 1 (some 1)), (.int .i64 0), (.int .i64 1), (.int .i64 1)])]), .cell true 5 (.arr 1 (.int .u8) v91), .cell true 5 (.arr 1 (.int .u8) v92), .cell true 5 (.arr 1 (.int .u8) v93), .cell true 3 (.arr 2 (.int .i64) v94), .cell true 63 (.agg [6, 6, 6] [(.agg [1, 1, 1, 1, 1, 1] [(.fn 119 []), (.fn 120 []), (.osl 19 [] 1 0 1 (some 1)), (.int .i64 (-1)), (.int .i64 1), (.int .i64 0)]), (.agg [1, 1, 1, 1, 1, 1] [(.fn 120 []), (.fn 121 []), (.osl 20 [] 1 0 1 (some 1)), (.int .i64 (-1)), (.int .i64 2), (.int .i64 0)]), (.agg [1, 1, 1, 1, 1, 1] [(.fn 119 []), (.fn 123 []), (.osl 21 [] 1 0 1 (some 1)), (.int .i64 0), (.int .i64 1), (.int .i64 4)])]), .cell true 5 (.arr 1 (.int .u8) v113), .cell true 5 (.arr 1 (.int .u8) v114), .cell true 5 (.arr 1 (.int .u8) v115)] }
noncomputable def stop36 : FuncId → Nat → Nat → Option Cut
  | 36, 9, 0 => some { tmps := [1, 2, 3, 4], loops := [], dead := [], stk := [] }
  | 97, 15, 7 => some { tmps := [0, 1, 4, 12, 13, 14, 19, 20, 21], loops := [(6, [2, 3, 4])], dead := [0], stk := [[2, 3, 4]] }
  | 36, 17, 0 => some { tmps := [2, 3, 4], loops := [], dead := [], stk := [] }
  | _, _, _ => none
noncomputable def fn36 (x : DInsn) : (((List Int) × (Int × Unit)) × ((Unit × (Unit × ((List Int) × (Int × (Int × Int))))) × Bool)) := endVal (TC.dflt (.st (.st (.slice (.int .i64)) (.st (.int .u8) (.st1 .junk))) (.st (.st .junk (.st .junk (.st (.slice (.int .u8)) (.st (.int .i64) (.st (.int .i64) (.st1 (.int .i64))))))) (.st1 .bool)))) (step36 x) (tree36 x)
def pre36 (x : DInsn) : Prop := ∃ r, Ends (step36 x) r (tree36 x)
noncomputable def spec36 : Spec := { dom := (.st1 CInsn), cod := (.st (.st (.slice (.int .i64)) (.st (.int .u8) (.st1 .junk))) (.st (.st .junk (.st .junk (.st (.slice (.int .u8)) (.st (.int .i64) (.st (.int .i64) (.st1 (.int .i64))))))) (.st1 .bool))), n := 3, pre := pre36, f := fn36 }
noncomputable def need36 : FuncId → Option Spec
  | 99 => some spec99
  | 117 => some spec117
  | 119 => some spec119
  | 120 => some spec120
  | 121 => some spec121
  | 122 => some spec122
  | 123 => some spec123
  | 126 => some spec126
  | 127 => some spec127
  | 129 => some spec129
  | 130 => some spec130
  | 144 => some spec144
  | 165 => some spec165
  | _ => none
theorem need36_ok : ∀ f sp, need36 f = some sp → SpecOk env0 f sp := by
  intro f sp h
  unfold need36 at h
  split at h
  · cases h; exact ok99
  · cases h; exact ok117
  · cases h; exact ok119
  · cases h; exact ok120
  · cases h; exact ok121
  · cases h; exact ok122
  · cases h; exact ok123
  · cases h; exact ok126
  · cases h; exact ok127
  · cases h; exact ok129
  · cases h; exact ok130
  · cases h; exact ok144
  · cases h; exact ok165
  · cases h
theorem run36 (W : Cfg) (Q : (((List Int) × (Int × Unit)) × ((Unit × (Unit × ((List Int) × (Int × (Int × Int))))) × Bool)) → Prop) (x : DInsn) : run (env need36 (fun _ _ => none)) stop36 (finS spec36 Q) W 100000 (startFr 36 Tryd.f36 (bodyOf Tryd.f36) (argsOf (.st1 CInsn) x)) [] [] = (tree36 x).wp (kont W Q (head36 x)) := by kernel_rfl
theorem run36h0 (W : Cfg) (Q : (((List Int) × (Int × Unit)) × ((Unit × (Unit × ((List Int) × (Int × (Int × Int))))) × Bool)) → Prop) (x : DInsn) : run (env need36 (fun _ _ => none)) stop36 (finS spec36 Q) W 100000 (head36 x (.h0)).fr.enter (head36 x (.h0)).stk (head36 x (.h0)).H = (step36 x (.h0)).wp (kont W Q (head36 x)) := by kernel_rfl
theorem run36h1 (W : Cfg) (Q : (((List Int) × (Int × Unit)) × ((Unit × (Unit × ((List Int) × (Int × (Int × Int))))) × Bool)) → Prop) (x : DInsn) (v43 : (List Int)) (v59 : Int) (v65 : Int) (v68 : (List Int)) (v69 : (List Int)) (v70 : (List Int)) (v71 : (List Int)) : run (env need36 (fun _ _ => none)) stop36 (finS spec36 Q) W 100000 (head36 x (.h1 v43 v59 v65 v68 v69 v70 v71)).fr.enter (head36 x (.h1 v43 v59 v65 v68 v69 v70 v71)).stk (head36 x (.h1 v43 v59 v65 v68 v69 v70 v71)).H = (step36 x (.h1 v43 v59 v65 v68 v69 v70 v71)).wp (kont W Q (head36 x)) := by kernel_rfl
theorem run36h2 (W : Cfg) (Q : (((List Int) × (Int × Unit)) × ((Unit × (Unit × ((List Int) × (Int × (Int × Int))))) × Bool)) → Prop) (x : DInsn) (v43 : (List Int)) (v62 : (List Int)) (v63 : (List Int)) (v64 : (List Int)) (v86 : (List Int)) (v105 : (List Int)) (v106 : (List Int)) (v107 : (List Int)) (v108 : (List Int)) (v115 : (List Int)) : run (env need36 (fun _ _ => none)) stop36 (finS spec36 Q) W 100000 (head36 x (.h2 v43 v62 v63 v64 v86 v105 v106 v107 v108 v115)).fr.enter (head36 x (.h2 v43 v62 v63 v64 v86 v105 v106 v107 v108 v115)).stk (head36 x (.h2 v43 v62 v63 v64 v86 v105 v106 v107 v108 v115)).H = (step36 x (.h2 v43 v62 v63 v64 v86 v105 v106 v107 v108 v115)).wp (kont W Q (head36 x)) := by kernel_rfl
theorem run36h3 (W : Cfg) (Q : (((List Int) × (Int × Unit)) × ((Unit × (Unit × ((List Int) × (Int × (Int × Int))))) × Bool)) → Prop) (x : DInsn) (v43 : (List Int)) (v50 : (List Int)) : run (env need36 (fun _ _ => none)) stop36 (finS spec36 Q) W 100000 (head36 x (.h3 v43 v50)).fr.enter (head36 x (.h3 v43 v50)).stk (head36 x (.h3 v43 v50)).H = (step36 x (.h3 v43 v50)).wp (kont W Q (head36 x)) := by kernel_rfl
theorem run36h4 (W : Cfg) (Q : (((List Int) × (Int × Unit)) × ((Unit × (Unit × ((List Int) × (Int × (Int × Int))))) × Bool)) → Prop) (x : DInsn) (v43 : (List Int)) (v56 : (List Int)) (v57 : (List Int)) : run (env need36 (fun _ _ => none)) stop36 (finS spec36 Q) W 100000 (head36 x (.h4 v43 v56 v57)).fr.enter (head36 x (.h4 v43 v56 v57)).stk (head36 x (.h4 v43 v56 v57)).H = (step36 x (.h4 v43 v56 v57)).wp (kont W Q (head36 x)) := by kernel_rfl
theorem run36h5 (W : Cfg) (Q : (((List Int) × (Int × Unit)) × ((Unit × (Unit × ((List Int) × (Int × (Int × Int))))) × Bool)) → Prop) (x : DInsn) (v43 : (List Int)) (v47 : Int) (v50 : (List Int)) : run (env need36 (fun _ _ => none)) stop36 (finS spec36 Q) W 100000 (head36 x (.h5 v43 v47 v50)).fr.enter (head36 x (.h5 v43 v47 v50)).stk (head36 x (.h5 v43 v47 v50)).H = (step36 x (.h5 v43 v47 v50)).wp (kont W Q (head36 x)) := by kernel_rfl
theorem run36h6 (W : Cfg) (Q : (((List Int) × (Int × Unit)) × ((Unit × (Unit × ((List Int) × (Int × (Int × Int))))) × Bool)) → Prop) (x : DInsn) (v43 : (List Int)) (v47 : Int) (v53 : Int) (v56 : (List Int)) (v57 : (List Int)) : run (env need36 (fun _ _ => none)) stop36 (finS spec36 Q) W 100000 (head36 x (.h6 v43 v47 v53 v56 v57)).fr.enter (head36 x (.h6 v43 v47 v53 v56 v57)).stk (head36 x (.h6 v43 v47 v53 v56 v57)).H = (step36 x (.h6 v43 v47 v53 v56 v57)).wp (kont W Q (head36 x)) := by kernel_rfl
theorem run36h7 (W : Cfg) (Q : (((List Int) × (Int × Unit)) × ((Unit × (Unit × ((List Int) × (Int × (Int × Int))))) × Bool)) → Prop) (x : DInsn) (v43 : (List Int)) (v50 : (List Int)) : run (env need36 (fun _ _ => none)) stop36 (finS spec36 Q) W 100000 (head36 x (.h7 v43 v50)).fr.enter (head36 x (.h7 v43 v50)).stk (head36 x (.h7 v43 v50)).H = (step36 x (.h7 v43 v50)).wp (kont W Q (head36 x)) := by kernel_rfl
theorem run36h8 (W : Cfg) (Q : (((List Int) × (Int × Unit)) × ((Unit × (Unit × ((List Int) × (Int × (Int × Int))))) × Bool)) → Prop) (x : DInsn) (v43 : (List Int)) (v50 : (List Int)) : run (env need36 (fun _ _ => none)) stop36 (finS spec36 Q) W 100000 (head36 x (.h8 v43 v50)).fr.enter (head36 x (.h8 v43 v50)).stk (head36 x (.h8 v43 v50)).H = (step36 x (.h8 v43 v50)).wp (kont W Q (head36 x)) := by kernel_rfl
theorem run36h9 (W : Cfg) (Q : (((List Int) × (Int × Unit)) × ((Unit × (Unit × ((List Int) × (Int × (Int × Int))))) × Bool)) → Prop) (x : DInsn) (v43 : (List Int)) (v56 : (List Int)) (v57 : (List Int)) : run (env need36 (fun _ _ => none)) stop36 (finS spec36 Q) W 100000 (head36 x (.h9 v43 v56 v57)).fr.enter (head36 x (.h9 v43 v56 v57)).stk (head36 x (.h9 v43 v56 v57)).H = (step36 x (.h9 v43 v56 v57)).wp (kont W Q (head36 x)) := by kernel_rfl
theorem run36h10 (W : Cfg) (Q : (((List Int) × (Int × Unit)) × ((Unit × (Unit × ((List Int) × (Int × (Int × Int))))) × Bool)) → Prop) (x : DInsn) (v43 : (List Int)) (v50 : (List Int)) : run (env need36 (fun _ _ => none)) stop36 (finS spec36 Q) W 100000 (head36 x (.h10 v43 v50)).fr.enter (head36 x (.h10 v43 v50)).stk (head36 x (.h10 v43 v50)).H = (step36 x (.h10 v43 v50)).wp (kont W Q (head36 x)) := by kernel_rfl
theorem run36h11 (W : Cfg) (Q : (((List Int) × (Int × Unit)) × ((Unit × (Unit × ((List Int) × (Int × (Int × Int))))) × Bool)) → Prop) (x : DInsn) (v43 : (List Int)) (v49 : Int) (v50 : (List Int)) : run (env need36 (fun _ _ => none)) stop36 (finS spec36 Q) W 100000 (head36 x (.h11 v43 v49 v50)).fr.enter (head36 x (.h11 v43 v49 v50)).stk (head36 x (.h11 v43 v49 v50)).H = (step36 x (.h11 v43 v49 v50)).wp (kont W Q (head36 x)) := by kernel_rfl
theorem run36h12 (W : Cfg) (Q : (((List Int) × (Int × Unit)) × ((Unit × (Unit × ((List Int) × (Int × (Int × Int))))) × Bool)) → Prop) (x : DInsn) (v43 : (List Int)) (v50 : (List Int)) : run (env need36 (fun _ _ => none)) stop36 (finS spec36 Q) W 100000 (head36 x (.h12 v43 v50)).fr.enter (head36 x (.h12 v43 v50)).stk (head36 x (.h12 v43 v50)).H = (step36 x (.h12 v43 v50)).wp (kont W Q (head36 x)) := by kernel_rfl
theorem run36h13 (W : Cfg) (Q : (((List Int) × (Int × Unit)) × ((Unit × (Unit × ((List Int) × (Int × (Int × Int))))) × Bool)) → Prop) (x : DInsn) (v43 : (List Int)) (v56 : (List Int)) (v57 : (List Int)) : run (env need36 (fun _ _ => none)) stop36 (finS spec36 Q) W 100000 (head36 x (.h13 v43 v56 v57)).fr.enter (head36 x (.h13 v43 v56 v57)).stk (head36 x (.h13 v43 v56 v57)).H = (step36 x (.h13 v43 v56 v57)).wp (kont W Q (head36 x)) := by kernel_rfl
theorem run36h14 (W : Cfg) (Q : (((List Int) × (Int × Unit)) × ((Unit × (Unit × ((List Int) × (Int × (Int × Int))))) × Bool)) → Prop) (x : DInsn) (v43 : (List Int)) (v50 : (List Int)) : run (env need36 (fun _ _ => none)) stop36 (finS spec36 Q) W 100000 (head36 x (.h14 v43 v50)).fr.enter (head36 x (.h14 v43 v50)).stk (head36 x (.h14 v43 v50)).H = (step36 x (.h14 v43 v50)).wp (kont W Q (head36 x)) := by kernel_rfl
theorem run36h15 (W : Cfg) (Q : (((List Int) × (Int × Unit)) × ((Unit × (Unit × ((List Int) × (Int × (Int × Int))))) × Bool)) → Prop) (x : DInsn) (v43 : (List Int)) (v50 : (List Int)) : run (env need36 (fun _ _ => none)) stop36 (finS spec36 Q) W 100000 (head36 x (.h15 v43 v50)).fr.enter (head36 x (.h15 v43 v50)).stk (head36 x (.h15 v43 v50)).H = (step36 x (.h15 v43 v50)).wp (kont W Q (head36 x)) := by kernel_rfl
theorem run36h16 (W : Cfg) (Q : (((List Int) × (Int × Unit)) × ((Unit × (Unit × ((List Int) × (Int × (Int × Int))))) × Bool)) → Prop) (x : DInsn) (v43 : (List Int)) (v50 : (List Int)) : run (env need36 (fun _ _ => none)) stop36 (finS spec36 Q) W 100000 (head36 x (.h16 v43 v50)).fr.enter (head36 x (.h16 v43 v50)).stk (head36 x (.h16 v43 v50)).H = (step36 x (.h16 v43 v50)).wp (kont W Q (head36 x)) := by kernel_rfl
theorem run36h17 (W : Cfg) (Q : (((List Int) × (Int × Unit)) × ((Unit × (Unit × ((List Int) × (Int × (Int × Int))))) × Bool)) → Prop) (x : DInsn) : run (env need36 (fun _ _ => none)) stop36 (finS spec36 Q) W 100000 (head36 x (.h17)).fr.enter (head36 x (.h17)).stk (head36 x (.h17)).H = (step36 x (.h17)).wp (kont W Q (head36 x)) := by kernel_rfl
theorem run36h18 (W : Cfg) (Q : (((List Int) × (Int × Unit)) × ((Unit × (Unit × ((List Int) × (Int × (Int × Int))))) × Bool)) → Prop) (x : DInsn) (v43 : (List Int)) (v59 : Int) (v65 : Int) (v68 : (List Int)) (v69 : (List Int)) (v70 : (List Int)) (v71 : (List Int)) : run (env need36 (fun _ _ => none)) stop36 (finS spec36 Q) W 100000 (head36 x (.h18 v43 v59 v65 v68 v69 v70 v71)).fr.enter (head36 x (.h18 v43 v59 v65 v68 v69 v70 v71)).stk (head36 x (.h18 v43 v59 v65 v68 v69 v70 v71)).H = (step36 x (.h18 v43 v59 v65 v68 v69 v70 v71)).wp (kont W Q (head36 x)) := by kernel_rfl
theorem run36h19 (W : Cfg) (Q : (((List Int) × (Int × Unit)) × ((Unit × (Unit × ((List Int) × (Int × (Int × Int))))) × Bool)) → Prop) (x : DInsn) (v43 : (List Int)) (v62 : (List Int)) (v63 : (List Int)) (v64 : (List Int)) (v86 : (List Int)) (v105 : (List Int)) (v106 : (List Int)) (v107 : (List Int)) (v108 : (List Int)) (v115 : (List Int)) : run (env need36 (fun _ _ => none)) stop36 (finS spec36 Q) W 100000 (head36 x (.h19 v43 v62 v63 v64 v86 v105 v106 v107 v108 v115)).fr.enter (head36 x (.h19 v43 v62 v63 v64 v86 v105 v106 v107 v108 v115)).stk (head36 x (.h19 v43 v62 v63 v64 v86 v105 v106 v107 v108 v115)).H = (step36 x (.h19 v43 v62 v63 v64 v86 v105 v106 v107 v108 v115)).wp (kont W Q (head36 x)) := by kernel_rfl
theorem run36h20 (W : Cfg) (Q : (((List Int) × (Int × Unit)) × ((Unit × (Unit × ((List Int) × (Int × (Int × Int))))) × Bool)) → Prop) (x : DInsn) (v43 : (List Int)) (v56 : (List Int)) (v57 : (List Int)) : run (env need36 (fun _ _ => none)) stop36 (finS spec36 Q) W 100000 (head36 x (.h20 v43 v56 v57)).fr.enter (head36 x (.h20 v43 v56 v57)).stk (head36 x (.h20 v43 v56 v57)).H = (step36 x (.h20 v43 v56 v57)).wp (kont W Q (head36 x)) := by kernel_rfl
theorem run36h21 (W : Cfg) (Q : (((List Int) × (Int × Unit)) × ((Unit × (Unit × ((List Int) × (Int × (Int × Int))))) × Bool)) → Prop) (x : DInsn) (v43 : (List Int)) (v47 : Int) (v53 : Int) (v56 : (List Int)) (v57 : (List Int)) : run (env need36 (fun _ _ => none)) stop36 (finS spec36 Q) W 100000 (head36 x (.h21 v43 v47 v53 v56 v57)).fr.enter (head36 x (.h21 v43 v47 v53 v56 v57)).stk (head36 x (.h21 v43 v47 v53 v56 v57)).H = (step36 x (.h21 v43 v47 v53 v56 v57)).wp (kont W Q (head36 x)) := by kernel_rfl
theorem run36h22 (W : Cfg) (Q : (((List Int) × (Int × Unit)) × ((Unit × (Unit × ((List Int) × (Int × (Int × Int))))) × Bool)) → Prop) (x : DInsn) (v43 : (List Int)) (v56 : (List Int)) (v57 : (List Int)) : run (env need36 (fun _ _ => none)) stop36 (finS spec36 Q) W 100000 (head36 x (.h22 v43 v56 v57)).fr.enter (head36 x (.h22 v43 v56 v57)).stk (head36 x (.h22 v43 v56 v57)).H = (step36 x (.h22 v43 v56 v57)).wp (kont W Q (head36 x)) := by kernel_rfl
theorem run36h23 (W : Cfg) (Q : (((List Int) × (Int × Unit)) × ((Unit × (Unit × ((List Int) × (Int × (Int × Int))))) × Bool)) → Prop) (x : DInsn) (v43 : (List Int)) (v56 : (List Int)) (v57 : (List Int)) : run (env need36 (fun _ _ => none)) stop36 (finS spec36 Q) W 100000 (head36 x (.h23 v43 v56 v57)).fr.enter (head36 x (.h23 v43 v56 v57)).stk (head36 x (.h23 v43 v56 v57)).H = (step36 x (.h23 v43 v56 v57)).wp (kont W Q (head36 x)) := by kernel_rfl
theorem run36h24 (W : Cfg) (Q : (((List Int) × (Int × Unit)) × ((Unit × (Unit × ((List Int) × (Int × (Int × Int))))) × Bool)) → Prop) (x : DInsn) (v43 : (List Int)) (v59 : Int) (v65 : Int) (v68 : (List Int)) (v69 : (List Int)) (v70 : (List Int)) (v71 : (List Int)) : run (env need36 (fun _ _ => none)) stop36 (finS spec36 Q) W 100000 (head36 x (.h24 v43 v59 v65 v68 v69 v70 v71)).fr.enter (head36 x (.h24 v43 v59 v65 v68 v69 v70 v71)).stk (head36 x (.h24 v43 v59 v65 v68 v69 v70 v71)).H = (step36 x (.h24 v43 v59 v65 v68 v69 v70 v71)).wp (kont W Q (head36 x)) := by kernel_rfl
theorem run36h25 (W : Cfg) (Q : (((List Int) × (Int × Unit)) × ((Unit × (Unit × ((List Int) × (Int × (Int × Int))))) × Bool)) → Prop) (x : DInsn) (v43 : (List Int)) (v62 : (List Int)) (v63 : (List Int)) (v64 : (List Int)) (v86 : (List Int)) (v105 : (List Int)) (v106 : (List Int)) (v107 : (List Int)) (v108 : (List Int)) (v115 : (List Int)) : run (env need36 (fun _ _ => none)) stop36 (finS spec36 Q) W 100000 (head36 x (.h25 v43 v62 v63 v64 v86 v105 v106 v107 v108 v115)).fr.enter (head36 x (.h25 v43 v62 v63 v64 v86 v105 v106 v107 v108 v115)).stk (head36 x (.h25 v43 v62 v63 v64 v86 v105 v106 v107 v108 v115)).H = (step36 x (.h25 v43 v62 v63 v64 v86 v105 v106 v107 v108 v115)).wp (kont W Q (head36 x)) := by kernel_rfl
theorem run36h26 (W : Cfg) (Q : (((List Int) × (Int × Unit)) × ((Unit × (Unit × ((List Int) × (Int × (Int × Int))))) × Bool)) → Prop) (x : DInsn) (v43 : (List Int)) (v59 : Int) (v65 : Int) (v68 : (List Int)) (v69 : (List Int)) (v70 : (List Int)) (v71 : (List Int)) : run (env need36 (fun _ _ => none)) stop36 (finS spec36 Q) W 100000 (head36 x (.h26 v43 v59 v65 v68 v69 v70 v71)).fr.enter (head36 x (.h26 v43 v59 v65 v68 v69 v70 v71)).stk (head36 x (.h26 v43 v59 v65 v68 v69 v70 v71)).H = (step36 x (.h26 v43 v59 v65 v68 v69 v70 v71)).wp (kont W Q (head36 x)) := by kernel_rfl
theorem run36h27 (W : Cfg) (Q : (((List Int) × (Int × Unit)) × ((Unit × (Unit × ((List Int) × (Int × (Int × Int))))) × Bool)) → Prop) (x : DInsn) (v43 : (List Int)) (v62 : (List Int)) (v63 : (List Int)) (v64 : (List Int)) (v86 : (List Int)) (v105 : (List Int)) (v106 : (List Int)) (v107 : (List Int)) (v108 : (List Int)) (v115 : (List Int)) : run (env need36 (fun _ _ => none)) stop36 (finS spec36 Q) W 100000 (head36 x (.h27 v43 v62 v63 v64 v86 v105 v106 v107 v108 v115)).fr.enter (head36 x (.h27 v43 v62 v63 v64 v86 v105 v106 v107 v108 v115)).stk (head36 x (.h27 v43 v62 v63 v64 v86 v105 v106 v107 v108 v115)).H = (step36 x (.h27 v43 v62 v63 v64 v86 v105 v106 v107 v108 v115)).wp (kont W Q (head36 x)) := by kernel_rfl
theorem run36h28 (W : Cfg) (Q : (((List Int) × (Int × Unit)) × ((Unit × (Unit × ((List Int) × (Int × (Int × Int))))) × Bool)) → Prop) (x : DInsn) (v43 : (List Int)) (v62 : (List Int)) (v63 : (List Int)) (v64 : (List Int)) (v86 : (List Int)) (v105 : (List Int)) (v106 : (List Int)) (v107 : (List Int)) (v108 : (List Int)) (v115 : (List Int)) : run (env need36 (fun _ _ => none)) stop36 (finS spec36 Q) W 100000 (head36 x (.h28 v43 v62 v63 v64 v86 v105 v106 v107 v108 v115)).fr.enter (head36 x (.h28 v43 v62 v63 v64 v86 v105 v106 v107 v108 v115)).stk (head36 x (.h28 v43 v62 v63 v64 v86 v105 v106 v107 v108 v115)).H = (step36 x (.h28 v43 v62 v63 v64 v86 v105 v106 v107 v108 v115)).wp (kont W Q (head36 x)) := by kernel_rfl
theorem run36h29 (W : Cfg) (Q : (((List Int) × (Int × Unit)) × ((Unit × (Unit × ((List Int) × (Int × (Int × Int))))) × Bool)) → Prop) (x : DInsn) (v43 : (List Int)) (v62 : (List Int)) (v63 : (List Int)) (v64 : (List Int)) (v86 : (List Int)) (v105 : (List Int)) (v106 : (List Int)) (v107 : (List Int)) (v108 : (List Int)) (v115 : (List Int)) : run (env need36 (fun _ _ => none)) stop36 (finS spec36 Q) W 100000 (head36 x (.h29 v43 v62 v63 v64 v86 v105 v106 v107 v108 v115)).fr.enter (head36 x (.h29 v43 v62 v63 v64 v86 v105 v106 v107 v108 v115)).stk (head36 x (.h29 v43 v62 v63 v64 v86 v105 v106 v107 v108 v115)).H = (step36 x (.h29 v43 v62 v63 v64 v86 v105 v106 v107 v108 v115)).wp (kont W Q (head36 x)) := by kernel_rfl
theorem run36h30 (W : Cfg) (Q : (((List Int) × (Int × Unit)) × ((Unit × (Unit × ((List Int) × (Int × (Int × Int))))) × Bool)) → Prop) (x : DInsn) (v43 : (List Int)) (v50 : (List Int)) (v72 : (List Int)) (v91 : (List Int)) (v92 : (List Int)) (v93 : (List Int)) (v94 : (List Int)) (v113 : (List Int)) (v114 : (List Int)) (v115 : (List Int)) : run (env need36 (fun _ _ => none)) stop36 (finS spec36 Q) W 100000 (head36 x (.h30 v43 v50 v72 v91 v92 v93 v94 v113 v114 v115)).fr.enter (head36 x (.h30 v43 v50 v72 v91 v92 v93 v94 v113 v114 v115)).stk (head36 x (.h30 v43 v50 v72 v91 v92 v93 v94 v113 v114 v115)).H = (step36 x (.h30 v43 v50 v72 v91 v92 v93 v94 v113 v114 v115)).wp (kont W Q (head36 x)) := by kernel_rfl
theorem runs36 (W : Cfg) (Q : (((List Int) × (Int × Unit)) × ((Unit × (Unit × ((List Int) × (Int × (Int × Int))))) × Bool)) → Prop) (x : DInsn) : ∀ j : J36, run (env need36 (fun _ _ => none)) stop36 (finS spec36 Q) W 100000 (head36 x j).fr.enter (head36 x j).stk (head36 x j).H = (step36 x j).wp (kont W Q (head36 x))
  | .h0 => run36h0 W Q x
  | .h1 v43 v59 v65 v68 v69 v70 v71 => run36h1 W Q x v43 v59 v65 v68 v69 v70 v71
  | .h2 v43 v62 v63 v64 v86 v105 v106 v107 v108 v115 => run36h2 W Q x v43 v62 v63 v64 v86 v105 v106 v107 v108 v115
  | .h3 v43 v50 => run36h3 W Q x v43 v50
  | .h4 v43 v56 v57 => run36h4 W Q x v43 v56 v57
  | .h5 v43 v47 v50 => run36h5 W Q x v43 v47 v50
  | .h6 v43 v47 v53 v56 v57 => run36h6 W Q x v43 v47 v53 v56 v57
  | .h7 v43 v50 => run36h7 W Q x v43 v50
  | .h8 v43 v50 => run36h8 W Q x v43 v50
  | .h9 v43 v56 v57 => run36h9 W Q x v43 v56 v57
  | .h10 v43 v50 => run36h10 W Q x v43 v50
  | .h11 v43 v49 v50 => run36h11 W Q x v43 v49 v50
  | .h12 v43 v50 => run36h12 W Q x v43 v50
  | .h13 v43 v56 v57 => run36h13 W Q x v43 v56 v57
  | .h14 v43 v50 => run36h14 W Q x v43 v50
  | .h15 v43 v50 => run36h15 W Q x v43 v50
  | .h16 v43 v50 => run36h16 W Q x v43 v50
  | .h17 => run36h17 W Q x
  | .h18 v43 v59 v65 v68 v69 v70 v71 => run36h18 W Q x v43 v59 v65 v68 v69 v70 v71
  | .h19 v43 v62 v63 v64 v86 v105 v106 v107 v108 v115 => run36h19 W Q x v43 v62 v63 v64 v86 v105 v106 v107 v108 v115
  | .h20 v43 v56 v57 => run36h20 W Q x v43 v56 v57
  | .h21 v43 v47 v53 v56 v57 => run36h21 W Q x v43 v47 v53 v56 v57
  | .h22 v43 v56 v57 => run36h22 W Q x v43 v56 v57
  | .h23 v43 v56 v57 => run36h23 W Q x v43 v56 v57
  | .h24 v43 v59 v65 v68 v69 v70 v71 => run36h24 W Q x v43 v59 v65 v68 v69 v70 v71
  | .h25 v43 v62 v63 v64 v86 v105 v106 v107 v108 v115 => run36h25 W Q x v43 v62 v63 v64 v86 v105 v106 v107 v108 v115
  | .h26 v43 v59 v65 v68 v69 v70 v71 => run36h26 W Q x v43 v59 v65 v68 v69 v70 v71
  | .h27 v43 v62 v63 v64 v86 v105 v106 v107 v108 v115 => run36h27 W Q x v43 v62 v63 v64 v86 v105 v106 v107 v108 v115
  | .h28 v43 v62 v63 v64 v86 v105 v106 v107 v108 v115 => run36h28 W Q x v43 v62 v63 v64 v86 v105 v106 v107 v108 v115
  | .h29 v43 v62 v63 v64 v86 v105 v106 v107 v108 v115 => run36h29 W Q x v43 v62 v63 v64 v86 v105 v106 v107 v108 v115
  | .h30 v43 v50 v72 v91 v92 v93 v94 v113 v114 v115 => run36h30 W Q x v43 v50 v72 v91 v92 v93 v94 v113 v114 v115
theorem ok36 : SpecOk env0 36 spec36 := SpecOk.env rfl (fun _ _ h => h) (spec_of_trees (E := (env need36 (fun _ _ => none))) (sp := spec36) (valid _ _) (fun f sp h => SpecOk.env rfl (fun _ _ h => h) (need36_ok f sp h)) (fn := Tryd.f36) (c := (bodyOf Tryd.f36)) (by kernel_rfl) (by kernel_rfl) tree36 step36 head36 run36 runs36 (fun _ h => endVal_ends h))

end Go.Eng.RE
end
section
/- Functions of this program, written out. -/
namespace Go.Eng.RE
open Go.Proofs Go.Eng
set_option maxRecDepth 100000

/-! ### sundial/encode.low -/
noncomputable def tree37 (x : DOperand) : Tr DOperand :=
  .ite (ieq x.1 1) (
  .ret (x.1, ((iand .i64 x.2.1 15), x.2.2))) (
  .ret x)
noncomputable def fn37 (x : DOperand) : DOperand := (tree37 x).val
def pre37 (x : DOperand) : Prop := (tree37 x).ok
noncomputable def spec37 : Spec := { dom := (.st1 COperand), cod := COperand, n := 1, pre := pre37, f := fn37 }
noncomputable def need37 : FuncId → Option Spec
  | _ => none
theorem need37_ok : ∀ f sp, need37 f = some sp → SpecOk env0 f sp := by
  intro f sp h
  unfold need37 at h
  split at h
  · cases h
theorem run37 (W : Cfg) (Q : DOperand → Prop) (x : DOperand) : run (env need37 (fun _ _ => none)) (fun _ _ _ => none) (finS spec37 Q) W 100000 (startFr 37 Tryd.f37 (bodyOf Tryd.f37) (argsOf (.st1 COperand) x)) [] [] = (tree37 x).wp Q := by kernel_rfl
theorem ok37 : SpecOk env0 37 spec37 := SpecOk.env rfl (fun _ _ h => h) (spec_of_tree (E := (env need37 (fun _ _ => none))) (sp := spec37) (valid _ _) (fun f sp h => SpecOk.env rfl (fun _ _ h => h) (need37_ok f sp h)) (fn := Tryd.f37) (c := (bodyOf Tryd.f37)) (by kernel_rfl) (by kernel_rfl) tree37 run37 (fun _ h => Tr.gives_val h))

/-! ### slices.Clone[[]byte,byte] -/
noncomputable def tree38 (x : (List Int)) : Tr (List Int) :=
  .need ((0 : Nat) < x.length) <|
  let y0 : Nat := (0 + x.length)
  .ite (ilt ((0 : Nat) : Int) ((y0 : Nat) : Int)) (
  .need ((0 + 0 : Nat) ≤ 0) <|
  .need (((y0 : Nat) * 1 : Nat) ≤ 2 ^ 40) <|
  .need ((y0 : Nat) ≤ 2 ^ 40) <|
  .need ((y0 : Nat) ≤ y0) <|
  .ret ((([] : List Int) ++ x).take y0)) (
  .need ((0 + 0 + x.length : Nat) ≤ 0) <|
  .need ((y0 : Nat) ≤ 0) <|
  .ret ((spliceL (List.replicate 0 (0 : Int)) 0 x).take y0))
noncomputable def fn38 (x : (List Int)) : (List Int) := (tree38 x).val
def pre38 (x : (List Int)) : Prop := (tree38 x).ok
noncomputable def spec38 : Spec := { dom := (.st1 (.slice (.int .u8))), cod := (.slice (.int .u8)), n := 1, pre := pre38, f := fn38, own := some 5 }
noncomputable def need38 : FuncId → Option Spec
  | _ => none
theorem need38_ok : ∀ f sp, need38 f = some sp → SpecOk env0 f sp := by
  intro f sp h
  unfold need38 at h
  split at h
  · cases h
theorem run38 (W : Cfg) (Q : (List Int) → Prop) (x : (List Int)) : run (env need38 (fun _ _ => none)) (fun _ _ _ => none) (finS spec38 Q) W 100000 (startFr 38 Tryd.f38 (bodyOf Tryd.f38) (argsOf (.st1 (.slice (.int .u8))) x)) [] [] = (tree38 x).wp Q := by kernel_rfl
theorem ok38 : SpecOk env0 38 spec38 := SpecOk.env rfl (fun _ _ h => h) (spec_of_tree (E := (env need38 (fun _ _ => none))) (sp := spec38) (valid _ _) (fun f sp h => SpecOk.env rfl (fun _ _ h => h) (need38_ok f sp h)) (fn := Tryd.f38) (c := (bodyOf Tryd.f38)) (by kernel_rfl) (by kernel_rfl) tree38 run38 (fun _ h => Tr.gives_val h))

/-! ### sundial/operand.low -/
noncomputable def tree68 (x : Int) : Tr Int :=
  .ret (iconv .u8 (iand .i64 x 7))
noncomputable def fn68 (x : Int) : Int := (tree68 x).val
def pre68 (x : Int) : Prop := (tree68 x).ok
noncomputable def spec68 : Spec := { dom := (.st1 (.int .i64)), cod := (.int .u8), n := 1, pre := pre68, f := fn68 }
noncomputable def need68 : FuncId → Option Spec
  | _ => none
theorem need68_ok : ∀ f sp, need68 f = some sp → SpecOk env0 f sp := by
  intro f sp h
  unfold need68 at h
  split at h
  · cases h
theorem run68 (W : Cfg) (Q : Int → Prop) (x : Int) : run (env need68 (fun _ _ => none)) (fun _ _ _ => none) (finS spec68 Q) W 100000 (startFr 68 Tryd.f68 (bodyOf Tryd.f68) (argsOf (.st1 (.int .i64)) x)) [] [] = (tree68 x).wp Q := by kernel_rfl
theorem ok68 : SpecOk env0 68 spec68 := SpecOk.env rfl (fun _ _ h => h) (spec_of_tree (E := (env need68 (fun _ _ => none))) (sp := spec68) (valid _ _) (fun f sp h => SpecOk.env rfl (fun _ _ h => h) (need68_ok f sp h)) (fn := Tryd.f68) (c := (bodyOf Tryd.f68)) (by kernel_rfl) (by kernel_rfl) tree68 run68 (fun _ h => Tr.gives_val h))

/-! ### sundial/operand.high -/
noncomputable def tree69 (x : Int) : Tr Int :=
  .need ((0 : Int) ≤ 3) <|
  .ret (iconv .u8 (iand .i64 (ishr .i64 x 3) 1))
noncomputable def fn69 (x : Int) : Int := (tree69 x).val
def pre69 (x : Int) : Prop := (tree69 x).ok
noncomputable def spec69 : Spec := { dom := (.st1 (.int .i64)), cod := (.int .u8), n := 1, pre := pre69, f := fn69 }
noncomputable def need69 : FuncId → Option Spec
  | _ => none
theorem need69_ok : ∀ f sp, need69 f = some sp → SpecOk env0 f sp := by
  intro f sp h
  unfold need69 at h
  split at h
  · cases h
theorem run69 (W : Cfg) (Q : Int → Prop) (x : Int) : run (env need69 (fun _ _ => none)) (fun _ _ _ => none) (finS spec69 Q) W 100000 (startFr 69 Tryd.f69 (bodyOf Tryd.f69) (argsOf (.st1 (.int .i64)) x)) [] [] = (tree69 x).wp Q := by kernel_rfl
theorem ok69 : SpecOk env0 69 spec69 := SpecOk.env rfl (fun _ _ h => h) (spec_of_tree (E := (env need69 (fun _ _ => none))) (sp := spec69) (valid _ _) (fun f sp h => SpecOk.env rfl (fun _ _ h => h) (need69_ok f sp h)) (fn := Tryd.f69) (c := (bodyOf Tryd.f69)) (by kernel_rfl) (by kernel_rfl) tree69 run69 (fun _ h => Tr.gives_val h))

/-! ### sundial/operand.form -/
noncomputable def tree71 (x : DOperand) : Tr (Int × Int) :=
  let y0 : (Int × (Int × (Int × (Int × (Bool × Int))))) := x.2.2
  let y1 : Int := y0.1
  .ite (ilt y1 0) (
  .ret (0, 4)) (
  let y2 : Int := y0.2.2.2.1
  .ite ((ieq y2 0) == true) (
  .need (pre68 y1) <|
  .ite (ine (fn68 y1) 5) (
  .ret (0, 0)) (
  let y3 : Bool := (ieq (iconv .i64 (iconv .i8 y2)) y2)
  .ite y3 (
  let y4 : (Int × Int) := (1, 1)
  .ret y4) (
  let y5 : (Int × Int) := (2, 4)
  .ret y5))) (
  let y6 : Bool := (ieq (iconv .i64 (iconv .i8 y2)) y2)
  .ite y6 (
  let y7 : (Int × Int) := (1, 1)
  .ret y7) (
  let y8 : (Int × Int) := (2, 4)
  .ret y8)))
noncomputable def fn71 (x : DOperand) : (Int × Int) := (tree71 x).val
def pre71 (x : DOperand) : Prop := (tree71 x).ok
noncomputable def spec71 : Spec := { dom := (.st1 COperand), cod := (.st (.int .u8) (.st1 (.int .i64))), n := 2, pre := pre71, f := fn71 }
noncomputable def need71 : FuncId → Option Spec
  | 68 => some spec68
  | _ => none
theorem need71_ok : ∀ f sp, need71 f = some sp → SpecOk env0 f sp := by
  intro f sp h
  unfold need71 at h
  split at h
  · cases h; exact ok68
  · cases h
theorem run71 (W : Cfg) (Q : (Int × Int) → Prop) (x : DOperand) : run (env need71 (fun _ _ => none)) (fun _ _ _ => none) (finS spec71 Q) W 100000 (startFr 71 Tryd.f71 (bodyOf Tryd.f71) (argsOf (.st1 COperand) x)) [] [] = (tree71 x).wp Q := by kernel_rfl
theorem ok71 : SpecOk env0 71 spec71 := SpecOk.env rfl (fun _ _ h => h) (spec_of_tree (E := (env need71 (fun _ _ => none))) (sp := spec71) (valid _ _) (fun f sp h => SpecOk.env rfl (fun _ _ h => h) (need71_ok f sp h)) (fn := Tryd.f71) (c := (bodyOf Tryd.f71)) (by kernel_rfl) (by kernel_rfl) tree71 run71 (fun _ h => Tr.gives_val h))

/-! ### math/bits.TrailingZeros32 -/
/-! ### math/bits.TrailingZeros64 -/
noncomputable def tree102 (x : Int) : Tr Int :=
  .ite (ieq x 0) (
  .ret 64) (
  .need ((0 : Int) ≤ 58) <|
  let y0 : Int := (ishr .u64 (imul .u64 (iand .u64 x (ineg .u64 x)) 285870213051353865) 58)
  .need ((0 : Int) ≤ y0) <|
  .need ((y0 : Int) < 64) <|
  let y1 : Nat := (y0).toNat
  .need ((y1 : Nat) < 64) <|
  .ret (iconv .i64 (rdc (.int .u8) [0, 1, 56, 2, 57, 49, 28, 3, 61, 58, 42, 50, 38, 29, 17, 4, 62, 47, 59, 36, 45, 43, 51, 22, 53, 39, 33, 30, 24, 18, 12, 5, 63, 55, 48, 27, 60, 41, 37, 16, 46, 35, 44, 21, 52, 32, 23, 11, 54, 26, 40, 15, 34, 20, 31, 10, 25, 14, 19, 9, 13, 8, 7, 6] y1)))
noncomputable def fn102 (x : Int) : Int := (tree102 x).val
def pre102 (x : Int) : Prop := (tree102 x).ok
noncomputable def spec102 : Spec := { dom := (.st1 (.int .u64)), cod := (.int .i64), n := 1, pre := pre102, f := fn102 }
noncomputable def need102 : FuncId → Option Spec
  | _ => none
theorem need102_ok : ∀ f sp, need102 f = some sp → SpecOk env0 f sp := by
  intro f sp h
  unfold need102 at h
  split at h
  · cases h
theorem run102 (W : Cfg) (Q : Int → Prop) (x : Int) : run (env need102 (fun _ _ => none)) (fun _ _ _ => none) (finS spec102 Q) W 100000 (startFr 102 Tryd.f102 (bodyOf Tryd.f102) (argsOf (.st1 (.int .u64)) x)) [] [] = (tree102 x).wp Q := by kernel_rfl
theorem ok102 : SpecOk env0 102 spec102 := SpecOk.env rfl (fun _ _ h => h) (spec_of_tree (E := (env need102 (fun _ _ => none))) (sp := spec102) (valid _ _) (fun f sp h => SpecOk.env rfl (fun _ _ h => h) (need102_ok f sp h)) (fn := Tryd.f102) (c := (bodyOf Tryd.f102)) (by kernel_rfl) (by kernel_rfl) tree102 run102 (fun _ h => Tr.gives_val h))

/-! ### math/bits.TrailingZeros -/
noncomputable def tree72 (x : Int) : Tr Int :=
  .need (pre102 x) <|
  .ret (fn102 x)
noncomputable def fn72 (x : Int) : Int := (tree72 x).val
def pre72 (x : Int) : Prop := (tree72 x).ok
noncomputable def spec72 : Spec := { dom := (.st1 (.int .u64)), cod := (.int .i64), n := 1, pre := pre72, f := fn72 }
noncomputable def need72 : FuncId → Option Spec
  | 102 => some spec102
  | _ => none
theorem need72_ok : ∀ f sp, need72 f = some sp → SpecOk env0 f sp := by
  intro f sp h
  unfold need72 at h
  split at h
  · cases h; exact ok102
  · cases h
theorem run72 (W : Cfg) (Q : Int → Prop) (x : Int) : run (env need72 (fun _ _ => none)) (fun _ _ _ => none) (finS spec72 Q) W 100000 (startFr 72 Tryd.f72 (bodyOf Tryd.f72) (argsOf (.st1 (.int .u64)) x)) [] [] = (tree72 x).wp Q := by kernel_rfl
theorem ok72 : SpecOk env0 72 spec72 := SpecOk.env rfl (fun _ _ h => h) (spec_of_tree (E := (env need72 (fun _ _ => none))) (sp := spec72) (valid _ _) (fun f sp h => SpecOk.env rfl (fun _ _ h => h) (need72_ok f sp h)) (fn := Tryd.f72) (c := (bodyOf Tryd.f72)) (by kernel_rfl) (by kernel_rfl) tree72 run72 (fun _ h => Tr.gives_val h))

/-! ### sundial/operand.Put -/
inductive J39 where
  | h0
  | h1 (v0 : Int) (v1 : Int)
  | h2 (v0 : Int) (v1 : Int) (v2 : Int) (v3 : Int) (v4 : Int)
  | h3 (v0 : Int) (v1 : Int) (v2 : Int) (v3 : Int) (v4 : Int) (v5 : Int) (v6 : Int)
  | h4 (v0 : Int) (v1 : Int) (v5 : (List Int))
  | h5 (v0 : Int) (v1 : Int) (v5 : (List Int))
noncomputable def tree39 (x : (Int × DOperand)) : Tr (J39 ⊕ ((List Int) × (Int × Int))) :=
  .ite ((ilt x.1 0) == false) (
  .ite ((ilt 15 x.1) == false) (
  .need (pre67 x.2) <|
  .ite (!(fn67 x.2)) (
  let y0 : ((List Int) × (Int × Int)) := (([] : List Int), (0, 2))
  .ret (.inr y0)) (
  .ret (.inl (.h0)))) (
  let y1 : ((List Int) × (Int × Int)) := (([] : List Int), (0, 2))
  .ret (.inr y1))) (
  let y2 : ((List Int) × (Int × Int)) := (([] : List Int), (0, 2))
  .ret (.inr y2))
noncomputable def step39 (x : (Int × DOperand)) : J39 → Tr (J39 ⊕ ((List Int) × (Int × Int)))
  | .h0 =>
  .need (pre68 x.1) <|
  .need ((0 : Int) ≤ 3) <|
  .need (pre69 x.1) <|
  .need ((0 : Int) ≤ 2) <|
  .ite (ieq x.2.1 1) (
  let y0 : (Int × (Int × (Int × (Int × (Int × (Bool × Int)))))) := x.2.2
  let y1 : Int := y0.1
  .need (pre68 y1) <|
  .need (pre69 y1) <|
  .need ((0 : Nat) < 1) <|
  .need (((0 : Nat) + 1 : Nat) ≤ 1) <|
  let y2 : Int := (ishl .u8 (fn68 x.1) 3)
  let y3 : Int := (ishl .u8 (fn69 x.1) 2)
  .ret (.inr ([(ior .u8 (ior .u8 192 y2) (fn68 y1))], ((ior .u8 y3 (fn69 y1)), 0)))) (
  let y4 : (Int × (Int × (Int × (Int × (Int × (Bool × Int)))))) := x.2.2
  let y5 : (Int × (Bool × Int)) := y4.2.2.2.2
  .ite y5.2.1 (
  .need ((0 : Nat) < 1) <|
  .need ((0 : Int) ≤ 0) <|
  .need ((0 : Nat) < 1) <|
  .need (((0 : Nat) + 1 : Nat) ≤ 1) <|
  .need ((0 + 1 : Nat) ≤ 1) <|
  .need (((2 : Nat) * 1 : Nat) ≤ 2 ^ 40) <|
  .need ((2 : Nat) ≤ 2 ^ 40) <|
  .need ((0 : Int) ≤ 8) <|
  .need ((0 : Nat) < 1) <|
  .need (((0 : Nat) + 1 : Nat) ≤ 1) <|
  .need ((2 : Nat) = 2) <|
  .need (((3 : Nat) * 1 : Nat) ≤ 2 ^ 40) <|
  .need ((3 : Nat) ≤ 2 ^ 40) <|
  .need ((0 : Int) ≤ 16) <|
  .need ((0 : Nat) < 1) <|
  .need (((0 : Nat) + 1 : Nat) ≤ 1) <|
  .need ((3 : Nat) = 3) <|
  .need (((4 : Nat) * 1 : Nat) ≤ 2 ^ 40) <|
  .need ((4 : Nat) ≤ 2 ^ 40) <|
  .need ((0 : Int) ≤ 24) <|
  .need ((0 : Nat) < 1) <|
  .need (((0 : Nat) + 1 : Nat) ≤ 1) <|
  .need ((4 : Nat) = 4) <|
  .need (((5 : Nat) * 1 : Nat) ≤ 2 ^ 40) <|
  .need ((5 : Nat) ≤ 2 ^ 40) <|
  .need (((0 : Nat) + 5 : Nat) ≤ 5) <|
  let y6 : Int := (ishl .u8 (fn68 x.1) 3)
  let y7 : Int := y5.1
  let y8 : Int := (ishl .u8 (fn69 x.1) 2)
  .ret (.inr ([(ior .u8 y6 5), (iconv .u8 (ishr .i64 y7 0)), (iconv .u8 (ishr .i64 y7 8)), (iconv .u8 (ishr .i64 y7 16)), (iconv .u8 (ishr .i64 y7 24))], (y8, 0)))) (
  let y9 : Int := (ishl .u8 (fn69 x.1) 2)
  let y10 : Int := (ishl .u8 (fn68 x.1) 3)
  .ret (.inl (.h1 y9 y10))))
  | .h1 v0 v1 =>
  .need (pre71 x.2) <|
  let y0 : Int := x.2.2.2.1
  .ite (ile 0 y0) (
  .need (pre68 y0) <|
  .need (pre69 y0) <|
  let y1 : (Int × Int) := (fn71 x.2)
  let y2 : Int := y1.1
  let y3 : Int := y1.2
  .ret (.inl (.h2 (ior .u8 v0 (fn69 y0)) v1 y2 y3 (fn68 y0)))) (
  let y4 : (Int × Int) := (fn71 x.2)
  let y5 : Int := y4.1
  let y6 : Int := y4.2
  .ret (.inl (.h2 v0 v1 y5 y6 5)))
  | .h2 v0 v1 v2 v3 v4 =>
  let y0 : (Int × (Int × (Int × (Bool × Int)))) := x.2.2.2.2
  let y1 : Int := y0.1
  .ite (ile 0 y1) (
  .need (pre68 y1) <|
  .need (pre69 y1) <|
  .need ((0 : Int) ≤ 1) <|
  let y2 : Int := (iconv .u64 y0.2.1)
  .need (pre72 y2) <|
  .ret (.inl (.h3 (ior .u8 v0 (ishl .u8 (fn69 y1) 1)) v1 v2 v3 v4 (fn68 y1) (fn72 y2)))) (
  .ret (.inl (.h3 v0 v1 v2 v3 v4 4 0)))
  | .h3 v0 v1 v2 v3 v4 v5 v6 =>
  .need ((0 : Int) ≤ 6) <|
  .need ((0 : Nat) < 1) <|
  let y0 : (Int × (Int × (Int × (Int × (Bool × Int))))) := x.2.2.2
  .ite ((ile 0 y0.2.1) == false) (
  .ite ((ilt y0.1 0) == false) (
  .ite (ieq v4 4) (
  .need ((0 : Int) ≤ 6) <|
  .need ((0 : Int) ≤ 6) <|
  .need ((0 : Int) ≤ 3) <|
  .need ((0 : Nat) < 2) <|
  .need ((1 : Nat) < 2) <|
  let y1 : Int := (ior .u8 (ishl .u8 v2 6) v1)
  let y2 : (List Int) := [(ior .u8 y1 4), (ior .u8 (ior .u8 (ishl .u8 (iconv .u8 v6) 6) (ishl .u8 v5 3)) v4)]
  .ret (.inl (.h4 v0 v3 y2))) (
  let y3 : Int := (ior .u8 (ishl .u8 v2 6) v1)
  .ret (.inl (.h5 v0 v3 [(ior .u8 y3 v4)])))) (
  .need ((0 : Int) ≤ 6) <|
  .need ((0 : Int) ≤ 6) <|
  .need ((0 : Int) ≤ 3) <|
  .need ((0 : Nat) < 2) <|
  .need ((1 : Nat) < 2) <|
  let y4 : Int := (ior .u8 (ishl .u8 v2 6) v1)
  let y5 : (List Int) := [(ior .u8 y4 4), (ior .u8 (ior .u8 (ishl .u8 (iconv .u8 v6) 6) (ishl .u8 v5 3)) v4)]
  .ret (.inl (.h4 v0 v3 y5)))) (
  .need ((0 : Int) ≤ 6) <|
  .need ((0 : Int) ≤ 6) <|
  .need ((0 : Int) ≤ 3) <|
  .need ((0 : Nat) < 2) <|
  .need ((1 : Nat) < 2) <|
  let y6 : Int := (ior .u8 (ishl .u8 v2 6) v1)
  let y7 : (List Int) := [(ior .u8 y6 4), (ior .u8 (ior .u8 (ishl .u8 (iconv .u8 v6) 6) (ishl .u8 v5 3)) v4)]
  .ret (.inl (.h4 v0 v3 y7)))
  | .h4 v0 v1 v5 =>
  .need ((0 : Int) ≤ v1) <|
  .need ((v1 : Int) < 5) <|
  .ite (ieq v1 0) (
  .need (((0 : Nat) + 2 : Nat) ≤ 2) <|
  let y0 : (List Int) := (v5.take 2)
  let y1 : (Int × Int) := (v0, 0)
  .ret (.inr (y0, y1))) (
  .ite (ieq v1 1) (
  .need ((0 : Int) ≤ 0) <|
  .need ((0 : Nat) < 1) <|
  .need (((0 : Nat) + 1 : Nat) ≤ 1) <|
  .need ((0 + 2 : Nat) ≤ 2) <|
  .need (((3 : Nat) * 1 : Nat) ≤ 2 ^ 40) <|
  .need ((3 : Nat) ≤ 2 ^ 40) <|
  .need (((0 : Nat) + 3 : Nat) ≤ 3) <|
  let y2 : (List Int) := (v5.take 2)
  let y3 : Int := x.2.2.2.2.2.2.1
  let y4 : (List Int) := (y2 ++ [(iconv .u8 (ishr .i64 y3 0))])
  let y5 : (Int × Int) := (v0, 0)
  .ret (.inr ((y4.take 3), y5))) (
  .ite (ieq v1 2) (
  .need ((0 : Int) ≤ 0) <|
  .need ((0 : Nat) < 1) <|
  .need (((0 : Nat) + 1 : Nat) ≤ 1) <|
  .need ((0 + 2 : Nat) ≤ 2) <|
  .need (((3 : Nat) * 1 : Nat) ≤ 2 ^ 40) <|
  .need ((3 : Nat) ≤ 2 ^ 40) <|
  .need ((0 : Int) ≤ 8) <|
  .need ((0 : Nat) < 1) <|
  .need (((0 : Nat) + 1 : Nat) ≤ 1) <|
  .need ((3 : Nat) = 3) <|
  .need (((4 : Nat) * 1 : Nat) ≤ 2 ^ 40) <|
  .need ((4 : Nat) ≤ 2 ^ 40) <|
  .need (((0 : Nat) + 4 : Nat) ≤ 4) <|
  let y6 : (List Int) := (v5.take 2)
  let y7 : Int := x.2.2.2.2.2.2.1
  let y8 : (List Int) := (y6 ++ [(iconv .u8 (ishr .i64 y7 0))])
  let y9 : (List Int) := (y8 ++ [(iconv .u8 (ishr .i64 y7 8))])
  let y10 : (Int × Int) := (v0, 0)
  .ret (.inr ((y9.take 4), y10))) (
  .ite (ieq v1 3) (
  .need ((0 : Int) ≤ 0) <|
  .need ((0 : Nat) < 1) <|
  .need (((0 : Nat) + 1 : Nat) ≤ 1) <|
  .need ((0 + 2 : Nat) ≤ 2) <|
  .need (((3 : Nat) * 1 : Nat) ≤ 2 ^ 40) <|
  .need ((3 : Nat) ≤ 2 ^ 40) <|
  .need ((0 : Int) ≤ 8) <|
  .need ((0 : Nat) < 1) <|
  .need (((0 : Nat) + 1 : Nat) ≤ 1) <|
  .need ((3 : Nat) = 3) <|
  .need (((4 : Nat) * 1 : Nat) ≤ 2 ^ 40) <|
  .need ((4 : Nat) ≤ 2 ^ 40) <|
  .need ((0 : Int) ≤ 16) <|
  .need ((0 : Nat) < 1) <|
  .need (((0 : Nat) + 1 : Nat) ≤ 1) <|
  .need ((4 : Nat) = 4) <|
  .need (((5 : Nat) * 1 : Nat) ≤ 2 ^ 40) <|
  .need ((5 : Nat) ≤ 2 ^ 40) <|
  .need (((0 : Nat) + 5 : Nat) ≤ 5) <|
  let y11 : (List Int) := (v5.take 2)
  let y12 : Int := x.2.2.2.2.2.2.1
  let y13 : (List Int) := (y11 ++ [(iconv .u8 (ishr .i64 y12 0))])
  let y14 : (List Int) := (y13 ++ [(iconv .u8 (ishr .i64 y12 8))])
  let y15 : (List Int) := (y14 ++ [(iconv .u8 (ishr .i64 y12 16))])
  let y16 : (Int × Int) := (v0, 0)
  .ret (.inr ((y15.take 5), y16))) (
  .need ((0 : Int) ≤ 0) <|
  .need ((0 : Nat) < 1) <|
  .need (((0 : Nat) + 1 : Nat) ≤ 1) <|
  .need ((0 + 2 : Nat) ≤ 2) <|
  .need (((3 : Nat) * 1 : Nat) ≤ 2 ^ 40) <|
  .need ((3 : Nat) ≤ 2 ^ 40) <|
  .need ((0 : Int) ≤ 8) <|
  .need ((0 : Nat) < 1) <|
  .need (((0 : Nat) + 1 : Nat) ≤ 1) <|
  .need ((3 : Nat) = 3) <|
  .need (((4 : Nat) * 1 : Nat) ≤ 2 ^ 40) <|
  .need ((4 : Nat) ≤ 2 ^ 40) <|
  .need ((0 : Int) ≤ 16) <|
  .need ((0 : Nat) < 1) <|
  .need (((0 : Nat) + 1 : Nat) ≤ 1) <|
  .need ((4 : Nat) = 4) <|
  .need (((5 : Nat) * 1 : Nat) ≤ 2 ^ 40) <|
  .need ((5 : Nat) ≤ 2 ^ 40) <|
  .need ((0 : Int) ≤ 24) <|
  .need ((0 : Nat) < 1) <|
  .need (((0 : Nat) + 1 : Nat) ≤ 1) <|
  .need ((5 : Nat) = 5) <|
  .need (((6 : Nat) * 1 : Nat) ≤ 2 ^ 40) <|
  .need ((6 : Nat) ≤ 2 ^ 40) <|
  .need (((0 : Nat) + 6 : Nat) ≤ 6) <|
  let y17 : (List Int) := (v5.take 2)
  let y18 : Int := x.2.2.2.2.2.2.1
  let y19 : (List Int) := (y17 ++ [(iconv .u8 (ishr .i64 y18 0))])
  let y20 : (List Int) := (y19 ++ [(iconv .u8 (ishr .i64 y18 8))])
  let y21 : (List Int) := (y20 ++ [(iconv .u8 (ishr .i64 y18 16))])
  let y22 : (Int × Int) := (v0, 0)
  .ret (.inr (((y21 ++ [(iconv .u8 (ishr .i64 y18 24))]).take 6), y22))))))
  | .h5 v0 v1 v5 =>
  .need ((0 : Int) ≤ v1) <|
  .need ((v1 : Int) < 5) <|
  .ite (ieq v1 0) (
  .need (((0 : Nat) + 1 : Nat) ≤ 1) <|
  let y0 : (List Int) := (v5.take 1)
  let y1 : (Int × Int) := (v0, 0)
  .ret (.inr (y0, y1))) (
  .ite (ieq v1 1) (
  .need ((0 : Int) ≤ 0) <|
  .need ((0 : Nat) < 1) <|
  .need (((0 : Nat) + 1 : Nat) ≤ 1) <|
  .need ((0 + 1 : Nat) ≤ 1) <|
  .need (((2 : Nat) * 1 : Nat) ≤ 2 ^ 40) <|
  .need ((2 : Nat) ≤ 2 ^ 40) <|
  .need (((0 : Nat) + 2 : Nat) ≤ 2) <|
  let y2 : (List Int) := (v5.take 1)
  let y3 : Int := x.2.2.2.2.2.2.1
  let y4 : (List Int) := (y2 ++ [(iconv .u8 (ishr .i64 y3 0))])
  let y5 : (Int × Int) := (v0, 0)
  .ret (.inr ((y4.take 2), y5))) (
  .ite (ieq v1 2) (
  .need ((0 : Int) ≤ 0) <|
  .need ((0 : Nat) < 1) <|
  .need (((0 : Nat) + 1 : Nat) ≤ 1) <|
  .need ((0 + 1 : Nat) ≤ 1) <|
  .need (((2 : Nat) * 1 : Nat) ≤ 2 ^ 40) <|
  .need ((2 : Nat) ≤ 2 ^ 40) <|
  .need ((0 : Int) ≤ 8) <|
  .need ((0 : Nat) < 1) <|
  .need (((0 : Nat) + 1 : Nat) ≤ 1) <|
  .need ((2 : Nat) = 2) <|
  .need (((3 : Nat) * 1 : Nat) ≤ 2 ^ 40) <|
  .need ((3 : Nat) ≤ 2 ^ 40) <|
  .need (((0 : Nat) + 3 : Nat) ≤ 3) <|
  let y6 : (List Int) := (v5.take 1)
  let y7 : Int := x.2.2.2.2.2.2.1
  let y8 : (List Int) := (y6 ++ [(iconv .u8 (ishr .i64 y7 0))])
  let y9 : (List Int) := (y8 ++ [(iconv .u8 (ishr .i64 y7 8))])
  let y10 : (Int × Int) := (v0, 0)
  .ret (.inr ((y9.take 3), y10))) (
  .ite (ieq v1 3) (
  .need ((0 : Int) ≤ 0) <|
  .need ((0 : Nat) < 1) <|
  .need (((0 : Nat) + 1 : Nat) ≤ 1) <|
  .need ((0 + 1 : Nat) ≤ 1) <|
  .need (((2 : Nat) * 1 : Nat) ≤ 2 ^ 40) <|
  .need ((2 : Nat) ≤ 2 ^ 40) <|
  .need ((0 : Int) ≤ 8) <|
  .need ((0 : Nat) < 1) <|
  .need (((0 : Nat) + 1 : Nat) ≤ 1) <|
  .need ((2 : Nat) = 2) <|
  .need (((3 : Nat) * 1 : Nat) ≤ 2 ^ 40) <|
  .need ((3 : Nat) ≤ 2 ^ 40) <|
  .need ((0 : Int) ≤ 16) <|
  .need ((0 : Nat) < 1) <|
  .need (((0 : Nat) + 1 : Nat) ≤ 1) <|
  .need ((3 : Nat) = 3) <|
  .need (((4 : Nat) * 1 : Nat) ≤ 2 ^ 40) <|
  .need ((4 : Nat) ≤ 2 ^ 40) <|
  .need (((0 : Nat) + 4 : Nat) ≤ 4) <|
  let y11 : (List Int) := (v5.take 1)
  let y12 : Int := x.2.2.2.2.2.2.1
  let y13 : (List Int) := (y11 ++ [(iconv .u8 (ishr .i64 y12 0))])
  let y14 : (List Int) := (y13 ++ [(iconv .u8 (ishr .i64 y12 8))])
  let y15 : (List Int) := (y14 ++ [(iconv .u8 (ishr .i64 y12 16))])
  let y16 : (Int × Int) := (v0, 0)
  .ret (.inr ((y15.take 4), y16))) (
  .need ((0 : Int) ≤ 0) <|
  .need ((0 : Nat) < 1) <|
  .need (((0 : Nat) + 1 : Nat) ≤ 1) <|
  .need ((0 + 1 : Nat) ≤ 1) <|
  .need (((2 : Nat) * 1 : Nat) ≤ 2 ^ 40) <|
  .need ((2 : Nat) ≤ 2 ^ 40) <|
  .need ((0 : Int) ≤ 8) <|
  .need ((0 : Nat) < 1) <|
  .need (((0 : Nat) + 1 : Nat) ≤ 1) <|
  .need ((2 : Nat) = 2) <|
  .need (((3 : Nat) * 1 : Nat) ≤ 2 ^ 40) <|
  .need ((3 : Nat) ≤ 2 ^ 40) <|
  .need ((0 : Int) ≤ 16) <|
  .need ((0 : Nat) < 1) <|
  .need (((0 : Nat) + 1 : Nat) ≤ 1) <|
  .need ((3 : Nat) = 3) <|
  .need (((4 : Nat) * 1 : Nat) ≤ 2 ^ 40) <|
  .need ((4 : Nat) ≤ 2 ^ 40) <|
  .need ((0 : Int) ≤ 24) <|
  .need ((0 : Nat) < 1) <|
  .need (((0 : Nat) + 1 : Nat) ≤ 1) <|
  .need ((4 : Nat) = 4) <|
  .need (((5 : Nat) * 1 : Nat) ≤ 2 ^ 40) <|
  .need ((5 : Nat) ≤ 2 ^ 40) <|
  .need (((0 : Nat) + 5 : Nat) ≤ 5) <|
  let y17 : (List Int) := (v5.take 1)
  let y18 : Int := x.2.2.2.2.2.2.1
  let y19 : (List Int) := (y17 ++ [(iconv .u8 (ishr .i64 y18 0))])
  let y20 : (List Int) := (y19 ++ [(iconv .u8 (ishr .i64 y18 8))])
  let y21 : (List Int) := (y20 ++ [(iconv .u8 (ishr .i64 y18 16))])
  let y22 : (Int × Int) := (v0, 0)
  .ret (.inr (((y21 ++ [(iconv .u8 (ishr .i64 y18 24))]).take 5), y22))))))
noncomputable def cREF2_0 (x : (Int × DOperand)) : AObj := .cell true 23 (.agg [1, 1, 1, 1, 1, 1, 1, 1] [(.int .u8 x.2.1), (.int .i64 x.2.2.1), (.int .i64 x.2.2.2.1), (.int .i64 x.2.2.2.2.1), (.int .i64 x.2.2.2.2.2.1), (.int .i64 x.2.2.2.2.2.2.1), (.bool x.2.2.2.2.2.2.2.1), (.int .i64 x.2.2.2.2.2.2.2.2)])
noncomputable def head39 (x : (Int × DOperand)) : J39 → Head
  | .h0 =>
  { fr := { id := 39, kind := .top, T := [(.int .i64 x.1), .any, .any, (.ptr 0 []), (.ptr 1 [])] ++ List.replicate 123 .any, items := [.code (subc [1, 1, 0] (bodyOf Tryd.f39)), .code (subc [1, 1, 1] (bodyOf Tryd.f39))], D := [], base := 0 },
    stk := [],
    H := [(cREF2_0 x), .cell true 28 (.raw (.slice none 0 0))] }
  | .h1 v0 v1 =>
  { fr := { id := 39, kind := .top, T := [.any, .any, .any, (.ptr 0 []), (.ptr 1 []), (.int .u8 v0), .any, (.int .u8 v1), (.fn 70 [(.ptr 1 []), (.ptr 0 [])])] ++ List.replicate 119 .any, items := [.code (subc [1, 1, 1, 1, 1, 1, 0] (bodyOf Tryd.f39)), .code (subc [1, 1, 1, 1, 1, 1, 1] (bodyOf Tryd.f39))], D := [], base := 0 },
    stk := [],
    H := [(cREF2_0 x), .cell true 28 (.raw (.slice none 0 0))] }
  | .h2 v0 v1 v2 v3 v4 =>
  { fr := { id := 39, kind := .top, T := [.any, .any, .any, (.ptr 0 []), (.ptr 1 []), (.int .u8 v0), .any, (.int .u8 v1), (.fn 70 [(.ptr 1 []), (.ptr 0 [])]), (.int .u8 v2), (.int .i64 v3), (.int .u8 v4), (.int .u8 4), (.int .i64 0)] ++ List.replicate 114 .any, items := [.code (subc [1, 1, 1, 1, 1, 1, 1, 1, 1, 0, 0] (bodyOf Tryd.f39)), .code (subc [1, 1, 1, 1, 1, 1, 1, 1, 1, 0, 1] (bodyOf Tryd.f39)), .code (subc [1, 1, 1, 1, 1, 1, 1, 1, 1, 1] (bodyOf Tryd.f39))], D := [], base := 0 },
    stk := [],
    H := [(cREF2_0 x), .cell true 28 (.raw (.slice none 0 0))] }
  | .h3 v0 v1 v2 v3 v4 v5 v6 =>
  { fr := { id := 39, kind := .top, T := [.any, .any, .any, (.ptr 0 []), (.ptr 1 []), (.int .u8 v0), .any, (.int .u8 v1), (.fn 70 [(.ptr 1 []), (.ptr 0 [])]), (.int .u8 v2), (.int .i64 v3), (.int .u8 v4), (.int .u8 v5), (.int .i64 v6)] ++ List.replicate 114 .any, items := [.code (subc [1, 1, 1, 1, 1, 1, 1, 1, 1, 1, 0, 0] (bodyOf Tryd.f39)), .code (subc [1, 1, 1, 1, 1, 1, 1, 1, 1, 1, 0, 1] (bodyOf Tryd.f39)), .code (subc [1, 1, 1, 1, 1, 1, 1, 1, 1, 1, 1] (bodyOf Tryd.f39))], D := [], base := 0 },
    stk := [],
    H := [(cREF2_0 x), .cell true 28 (.raw (.slice none 0 0))] }
  | .h4 v0 v1 v5 =>
  { fr := { id := 39, kind := .top, T := List.replicate 4 .any ++ [(.ptr 0 []), (.int .u8 v0), .any, .any, (.fn 70 [(.ptr 0 []), (.ptr 2 [])]), .any, (.int .i64 v1)] ++ List.replicate 117 .any, items := [.code (subc [1, 1, 1, 1, 1, 1, 1, 1, 1, 1, 1, 0] (bodyOf Tryd.f39)), .code (subc [1, 1, 1, 1, 1, 1, 1, 1, 1, 1, 1, 1] (bodyOf Tryd.f39))], D := [], base := 0 },
    stk := [],
    H := [.cell true 28 (.osl 1 [] 1 0 2 (some 2)), .cell true 5 (.arr 2 (.int .u8) v5), (cREF2_0 x)] }
  | .h5 v0 v1 v5 =>
  { fr := { id := 39, kind := .top, T := List.replicate 4 .any ++ [(.ptr 0 []), (.int .u8 v0), .any, .any, (.fn 70 [(.ptr 0 []), (.ptr 2 [])]), .any, (.int .i64 v1)] ++ List.replicate 117 .any, items := [.code (subc [1, 1, 1, 1, 1, 1, 1, 1, 1, 1, 1, 0] (bodyOf Tryd.f39)), .code (subc [1, 1, 1, 1, 1, 1, 1, 1, 1, 1, 1, 1] (bodyOf Tryd.f39))], D := [], base := 0 },
    stk := [],
    H := [.cell true 28 (.osl 1 [] 1 0 1 (some 1)), .cell true 5 (.arr 1 (.int .u8) v5), (cREF2_0 x)] }
noncomputable def stop39 : FuncId → Nat → Nat → Option Cut
  | 39, 7, 0 => some { tmps := [0, 3, 4], loops := [], dead := [], stk := [] }
  | 39, 25, 0 => some { tmps := [3, 4, 5, 7, 8], loops := [], dead := [], stk := [] }
  | 39, 33, 0 => some { tmps := [3, 4, 5, 7, 8, 9, 10, 11, 12, 13], loops := [], dead := [], stk := [] }
  | 39, 37, 0 => some { tmps := [3, 4, 5, 7, 8, 9, 10, 11, 12, 13], loops := [], dead := [], stk := [] }
  | 39, 43, 0 => some { tmps := [4, 5, 8, 10], loops := [], dead := [], stk := [] }
  | _, _, _ => none
noncomputable def fn39 (x : (Int × DOperand)) : ((List Int) × (Int × Int)) := endVal (TC.dflt (.st (.slice (.int .u8)) (.st (.int .u8) (.st1 (.int .i64))))) (step39 x) (tree39 x)
def pre39 (x : (Int × DOperand)) : Prop := ∃ r, Ends (step39 x) r (tree39 x)
noncomputable def spec39 : Spec := { dom := (.st (.int .i64) (.st1 COperand)), cod := (.st (.slice (.int .u8)) (.st (.int .u8) (.st1 (.int .i64)))), n := 3, pre := pre39, f := fn39 }
noncomputable def need39 : FuncId → Option Spec
  | 67 => some spec67
  | 68 => some spec68
  | 69 => some spec69
  | 71 => some spec71
  | 72 => some spec72
  | _ => none
theorem need39_ok : ∀ f sp, need39 f = some sp → SpecOk env0 f sp := by
  intro f sp h
  unfold need39 at h
  split at h
  · cases h; exact ok67
  · cases h; exact ok68
  · cases h; exact ok69
  · cases h; exact ok71
  · cases h; exact ok72
  · cases h
theorem run39 (W : Cfg) (Q : ((List Int) × (Int × Int)) → Prop) (x : (Int × DOperand)) : run (env need39 (fun _ _ => none)) stop39 (finS spec39 Q) W 100000 (startFr 39 Tryd.f39 (bodyOf Tryd.f39) (argsOf (.st (.int .i64) (.st1 COperand)) x)) [] [] = (tree39 x).wp (kont W Q (head39 x)) := by kernel_rfl
theorem run39h0 (W : Cfg) (Q : ((List Int) × (Int × Int)) → Prop) (x : (Int × DOperand)) : run (env need39 (fun _ _ => none)) stop39 (finS spec39 Q) W 100000 (head39 x (.h0)).fr.enter (head39 x (.h0)).stk (head39 x (.h0)).H = (step39 x (.h0)).wp (kont W Q (head39 x)) := by kernel_rfl
theorem run39h1 (W : Cfg) (Q : ((List Int) × (Int × Int)) → Prop) (x : (Int × DOperand)) (v0 : Int) (v1 : Int) : run (env need39 (fun _ _ => none)) stop39 (finS spec39 Q) W 100000 (head39 x (.h1 v0 v1)).fr.enter (head39 x (.h1 v0 v1)).stk (head39 x (.h1 v0 v1)).H = (step39 x (.h1 v0 v1)).wp (kont W Q (head39 x)) := by kernel_rfl
theorem run39h2 (W : Cfg) (Q : ((List Int) × (Int × Int)) → Prop) (x : (Int × DOperand)) (v0 : Int) (v1 : Int) (v2 : Int) (v3 : Int) (v4 : Int) : run (env need39 (fun _ _ => none)) stop39 (finS spec39 Q) W 100000 (head39 x (.h2 v0 v1 v2 v3 v4)).fr.enter (head39 x (.h2 v0 v1 v2 v3 v4)).stk (head39 x (.h2 v0 v1 v2 v3 v4)).H = (step39 x (.h2 v0 v1 v2 v3 v4)).wp (kont W Q (head39 x)) := by kernel_rfl
theorem run39h3 (W : Cfg) (Q : ((List Int) × (Int × Int)) → Prop) (x : (Int × DOperand)) (v0 : Int) (v1 : Int) (v2 : Int) (v3 : Int) (v4 : Int) (v5 : Int) (v6 : Int) : run (env need39 (fun _ _ => none)) stop39 (finS spec39 Q) W 100000 (head39 x (.h3 v0 v1 v2 v3 v4 v5 v6)).fr.enter (head39 x (.h3 v0 v1 v2 v3 v4 v5 v6)).stk (head39 x (.h3 v0 v1 v2 v3 v4 v5 v6)).H = (step39 x (.h3 v0 v1 v2 v3 v4 v5 v6)).wp (kont W Q (head39 x)) := by kernel_rfl
theorem run39h4 (W : Cfg) (Q : ((List Int) × (Int × Int)) → Prop) (x : (Int × DOperand)) (v0 : Int) (v1 : Int) (v5 : (List Int)) : run (env need39 (fun _ _ => none)) stop39 (finS spec39 Q) W 100000 (head39 x (.h4 v0 v1 v5)).fr.enter (head39 x (.h4 v0 v1 v5)).stk (head39 x (.h4 v0 v1 v5)).H = (step39 x (.h4 v0 v1 v5)).wp (kont W Q (head39 x)) := by kernel_rfl
theorem run39h5 (W : Cfg) (Q : ((List Int) × (Int × Int)) → Prop) (x : (Int × DOperand)) (v0 : Int) (v1 : Int) (v5 : (List Int)) : run (env need39 (fun _ _ => none)) stop39 (finS spec39 Q) W 100000 (head39 x (.h5 v0 v1 v5)).fr.enter (head39 x (.h5 v0 v1 v5)).stk (head39 x (.h5 v0 v1 v5)).H = (step39 x (.h5 v0 v1 v5)).wp (kont W Q (head39 x)) := by kernel_rfl
theorem runs39 (W : Cfg) (Q : ((List Int) × (Int × Int)) → Prop) (x : (Int × DOperand)) : ∀ j : J39, run (env need39 (fun _ _ => none)) stop39 (finS spec39 Q) W 100000 (head39 x j).fr.enter (head39 x j).stk (head39 x j).H = (step39 x j).wp (kont W Q (head39 x))
  | .h0 => run39h0 W Q x
  | .h1 v0 v1 => run39h1 W Q x v0 v1
  | .h2 v0 v1 v2 v3 v4 => run39h2 W Q x v0 v1 v2 v3 v4
  | .h3 v0 v1 v2 v3 v4 v5 v6 => run39h3 W Q x v0 v1 v2 v3 v4 v5 v6
  | .h4 v0 v1 v5 => run39h4 W Q x v0 v1 v5
  | .h5 v0 v1 v5 => run39h5 W Q x v0 v1 v5
theorem ok39 : SpecOk env0 39 spec39 := SpecOk.env rfl (fun _ _ h => h) (spec_of_trees (E := (env need39 (fun _ _ => none))) (sp := spec39) (valid _ _) (fun f sp h => SpecOk.env rfl (fun _ _ h => h) (need39_ok f sp h)) (fn := Tryd.f39) (c := (bodyOf Tryd.f39)) (by kernel_rfl) (by kernel_rfl) tree39 step39 head39 run39 runs39 (fun _ h => endVal_ends h))

/-! ### sundial/encode.small$1 -/
noncomputable def tree73 (x : DOperand) : Tr Bool :=
  .ite ((ieq x.1 1) == true) (
  let y0 : Int := x.2.1
  .ite ((ile 4 y0) == true) (
  .ret (ile y0 7)) (
  .ret false)) (
  .ret false)
noncomputable def fn73 (x : DOperand) : Bool := (tree73 x).val
def pre73 (x : DOperand) : Prop := (tree73 x).ok
noncomputable def spec73 : Spec := { dom := (.st1 COperand), cod := .bool, n := 1, pre := pre73, f := fn73 }
noncomputable def need73 : FuncId → Option Spec
  | _ => none
theorem need73_ok : ∀ f sp, need73 f = some sp → SpecOk env0 f sp := by
  intro f sp h
  unfold need73 at h
  split at h
  · cases h
theorem run73 (W : Cfg) (Q : Bool → Prop) (x : DOperand) : run (env need73 (fun _ _ => none)) (fun _ _ _ => none) (finS spec73 Q) W 100000 (startFr 73 Tryd.f73 (bodyOf Tryd.f73) (argsOf (.st1 COperand) x)) [] [] = (tree73 x).wp Q := by kernel_rfl
theorem ok73 : SpecOk env0 73 spec73 := SpecOk.env rfl (fun _ _ h => h) (spec_of_tree (E := (env need73 (fun _ _ => none))) (sp := spec73) (valid _ _) (fun f sp h => SpecOk.env rfl (fun _ _ h => h) (need73_ok f sp h)) (fn := Tryd.f73) (c := (bodyOf Tryd.f73)) (by kernel_rfl) (by kernel_rfl) tree73 run73 (fun _ h => Tr.gives_val h))

/-! ### sundial/encode.small -/
noncomputable def tree40 (x : DInsn) : Tr Bool :=
  .ite ((ieq x.1 32) == false) (
  .ite (ieq x.1 33) (
  let y0 : (Int × (DOperand × (DOperand × (Int × Int)))) := x.2.2
  let y1 : (DOperand × (DOperand × (Int × Int))) := y0.2
  let y2 : DOperand := y1.2.1
  .need (pre73 y2) <|
  let y3 : Bool := (fn73 y2)
  .ret y3) (
  let y4 : (Int × (DOperand × (DOperand × (Int × Int)))) := x.2.2
  .ite ((ieq y4.1 1) == true) (
  let y5 : (DOperand × (DOperand × (Int × Int))) := y4.2
  let y6 : DOperand := y5.1
  .need (pre73 y6) <|
  .ite ((fn73 y6) == false) (
  let y7 : DOperand := y5.2.1
  .need (pre73 y7) <|
  let y8 : Bool := (fn73 y7)
  .ret y8) (
  .ret true)) (
  .ret false))) (
  let y9 : (Int × (DOperand × (DOperand × (Int × Int)))) := x.2.2
  let y10 : (DOperand × (DOperand × (Int × Int))) := y9.2
  let y11 : DOperand := y10.2.1
  .need (pre73 y11) <|
  let y12 : Bool := (fn73 y11)
  .ret y12)
noncomputable def fn40 (x : DInsn) : Bool := (tree40 x).val
def pre40 (x : DInsn) : Prop := (tree40 x).ok
noncomputable def spec40 : Spec := { dom := (.st1 CInsn), cod := .bool, n := 1, pre := pre40, f := fn40 }
noncomputable def need40 : FuncId → Option Spec
  | 73 => some spec73
  | _ => none
theorem need40_ok : ∀ f sp, need40 f = some sp → SpecOk env0 f sp := by
  intro f sp h
  unfold need40 at h
  split at h
  · cases h; exact ok73
  · cases h
theorem run40 (W : Cfg) (Q : Bool → Prop) (x : DInsn) : run (env need40 (fun _ _ => none)) (fun _ _ _ => none) (finS spec40 Q) W 100000 (startFr 40 Tryd.f40 (bodyOf Tryd.f40) (argsOf (.st1 CInsn) x)) [] [] = (tree40 x).wp Q := by kernel_rfl
theorem ok40 : SpecOk env0 40 spec40 := SpecOk.env rfl (fun _ _ h => h) (spec_of_tree (E := (env need40 (fun _ _ => none))) (sp := spec40) (valid _ _) (fun f sp h => SpecOk.env rfl (fun _ _ h => h) (need40_ok f sp h)) (fn := Tryd.f40) (c := (bodyOf Tryd.f40)) (by kernel_rfl) (by kernel_rfl) tree40 run40 (fun _ h => Tr.gives_val h))

/-! ### slices.Concat[[]byte,byte] -/
inductive J41 where
  | h0 (v1 : Int) (v3 : Int) (v4 : Int)
  | h1 (v1 : Int) (v3 : Int) (v4 : Int)
  | h2 (v1 : Int)
  | h3 (v1 : Int) (v3 : Int) (v4 : Int)
  | h4 (v1 : Int) (v2 : Int)
  | h5 (v1 : Nat) (v2 : Nat) (v4 : Int) (v5 : Int) (v6 : Nat) (v7 : (List Int))
  | h6 (v1 : Int) (v2 : Int)
  | h7
  | h8 (v1 : Nat) (v2 : Nat) (v4 : Int) (v5 : Int) (v6 : Nat) (v7 : (List Int))
  | h9 (v1 : Nat) (v2 : Nat) (v3 : Nat) (v4 : (List Int))
noncomputable def tree41 (x : (List (List Int))) : Tr (J41 ⊕ (List Int)) :=
  .ret (.inl (.h0 0 (x.length : Int) 0))
noncomputable def step41 (x : (List (List Int))) : J41 → Tr (J41 ⊕ (List Int))
  | .h0 v1 v3 v4 =>
  .ite (ilt v4 v3) (
  .ret (.inl (.h1 v1 v3 v4))) (
  .ret (.inl (.h2 v1)))
  | .h1 v1 v3 v4 =>
  .need ((0 : Int) ≤ v4) <|
  .need (v4 < (x.length : Int)) <|
  let y0 : Int := (iadd .i64 v1 ((rdc (.slice (.int .u8)) x (v4).toNat).length : Int))
  .ite (ilt y0 0) (
  .fail (.inr (TC.dflt (.slice (.int .u8))))) (
  .ret (.inl (.h3 y0 v3 v4)))
  | .h2 v1 =>
  .ite (ilt v1 0) (
  .fail (.inr (TC.dflt (.slice (.int .u8))))) (
  let y0 : Int := (isub .i64 v1 0)
  .ite (ilt 0 y0) (
  .need ((0 : Int) = 0) <|
  .need ((0 : Nat) = 0) <|
  .need ((0 : Int) < y0) <|
  let y1 : Nat := (y0).toNat
  .need (((y1 : Nat) * 1 : Nat) ≤ 2 ^ 40) <|
  .need ((y1 : Nat) ≤ 2 ^ 40) <|
  .all fun j3 =>
  .need ((0 : Int) ≤ 0) <|
  .need ((0 : Nat) ≤ 0) <|
  let y2 : Nat := (y1 + j3)
  .need ((0 : Nat) ≤ y2) <|
  .need ((0 : Nat) = 0 ∨ (0 : Nat) < y2) <|
  .ret (.inl (.h5 0 y2 (x.length : Int) 0 y2 ((List.replicate y1 0) ++ (List.replicate j3 0))))) (
  .ret (.inl (.h4 (x.length : Int) 0))))
  | .h3 v1 v3 v4 =>
  .ret (.inl (.h0 v1 v3 (iadd .i64 v4 1)))
  | .h4 v1 v2 =>
  .ite (ilt v2 v1) (
  .ret (.inl (.h6 v1 v2))) (
  .ret (.inl (.h7)))
  | .h5 v1 v2 v4 v5 v6 v7 =>
  .ite (ilt v5 v4) (
  .ret (.inl (.h8 v1 v2 v4 v5 v6 v7))) (
  .ret (.inl (.h9 v1 v2 v6 v7)))
  | .h6 v1 v2 =>
  .need ((0 : Int) ≤ v2) <|
  .need (v2 < (x.length : Int)) <|
  let y0 : (List Int) := (rdc (.slice (.int .u8)) x (v2).toNat)
  let y1 : Nat := y0.length
  .ite (ieq (y1 : Int) 0) (
  let y2 : Int := (iadd .i64 v2 1)
  .ret (.inl (.h4 v1 y2))) (
  .need (((y1 : Nat) * 1 : Nat) ≤ 2 ^ 40) <|
  .need ((y1 : Nat) ≤ 2 ^ 40) <|
  .all fun j3 =>
  let y3 : Nat := (y1 + j3)
  let y4 : Int := (iadd .i64 v2 1)
  .ret (.inl (.h5 y1 y3 v1 y4 y3 (y0 ++ (List.replicate j3 0)))))
  | .h7 =>
  .fail (.inr (TC.dflt (.slice (.int .u8))))
  | .h8 v1 v2 v4 v5 v6 v7 =>
  .need ((0 : Int) ≤ v5) <|
  .need (v5 < (x.length : Int)) <|
  let y0 : (List Int) := (rdc (.slice (.int .u8)) x (v5).toNat)
  let y1 : Nat := y0.length
  let y2 : Nat := (v1 + y1)
  .ite (ilt ((v2 : Nat) : Int) ((y2 : Nat) : Int)) (
  .need ((0 + v1 : Nat) ≤ v6) <|
  .need (((y2 : Nat) * 1 : Nat) ≤ 2 ^ 40) <|
  .need ((y2 : Nat) ≤ 2 ^ 40) <|
  .all fun j3 =>
  let y3 : Nat := (y2 + j3)
  let y4 : Int := (iadd .i64 v5 1)
  .ret (.inl (.h5 y2 y3 v4 y4 y3 (((v7.take v1) ++ y0) ++ (List.replicate j3 0))))) (
  .need ((0 + v1 + y1 : Nat) ≤ v6) <|
  let y5 : Int := (iadd .i64 v5 1)
  .ret (.inl (.h5 y2 v2 v4 y5 v6 (spliceL v7 (0 + v1) y0))))
  | .h9 v1 v2 v3 v4 =>
  .need ((v1 : Nat) ≤ v3) <|
  .ret (.inr (v4.take v1))
noncomputable def head41 (x : (List (List Int))) : J41 → Head
  | .h0 v1 v3 v4 =>
  { fr := { id := 41, kind := .top, T := [(.fsl (.slice (.int .u8)) x), .any, .any, (.int .i64 v1)] ++ List.replicate 5 .any ++ [(.fsl (.slice (.int .u8)) x), (.int .i64 v3), (.int .i64 v4)] ++ List.replicate 24 .any, items := [.lp (subc [1, 1, 0, 1, 0, 0] (bodyOf Tryd.f41)), .blk 0, .code (subc [1, 1, 1] (bodyOf Tryd.f41))], D := [], base := 0 },
    stk := [],
    H := [] }
  | .h1 v1 v3 v4 =>
  { fr := { id := 41, kind := .top, T := [(.fsl (.slice (.int .u8)) x), .any, .any, (.int .i64 v1)] ++ List.replicate 5 .any ++ [(.fsl (.slice (.int .u8)) x), (.int .i64 v3), (.int .i64 v4)] ++ List.replicate 24 .any, items := [.code (subc [1, 1, 0, 1, 0, 0, 1, 1, 0, 0, 0] (bodyOf Tryd.f41)), .code (subc [1, 1, 0, 1, 0, 0, 1, 1, 0, 0, 1] (bodyOf Tryd.f41)), .blk 1, .code (subc [1, 1, 0, 1, 0, 0, 1, 1, 1] (bodyOf Tryd.f41)), .lp (subc [1, 1, 0, 1, 0, 0] (bodyOf Tryd.f41)), .blk 0, .code (subc [1, 1, 1] (bodyOf Tryd.f41))], D := [], base := 0 },
    stk := [],
    H := [] }
  | .h2 v1 =>
  { fr := { id := 41, kind := .top, T := [(.fsl (.slice (.int .u8)) x), .any, .any, (.int .i64 v1)] ++ List.replicate 32 .any, items := [.code (subc [1, 1, 1, 0] (bodyOf Tryd.f41)), .code (subc [1, 1, 1, 1] (bodyOf Tryd.f41))], D := [], base := 0 },
    stk := [],
    H := [] }
  | .h3 v1 v3 v4 =>
  { fr := { id := 41, kind := .top, T := [(.fsl (.slice (.int .u8)) x), .any, .any, (.int .i64 v1)] ++ List.replicate 5 .any ++ [(.fsl (.slice (.int .u8)) x), (.int .i64 v3), (.int .i64 v4)] ++ List.replicate 24 .any, items := [.code (subc [1, 1, 0, 1, 0, 0, 1, 1, 1] (bodyOf Tryd.f41)), .lp (subc [1, 1, 0, 1, 0, 0] (bodyOf Tryd.f41)), .blk 0, .code (subc [1, 1, 1] (bodyOf Tryd.f41))], D := [], base := 0 },
    stk := [],
    H := [] }
  | .h4 v1 v2 =>
  { fr := { id := 41, kind := .top, T := List.replicate 6 .any ++ [(.raw (.slice none 0 0))] ++ List.replicate 18 .any ++ [(.fsl (.slice (.int .u8)) x), (.int .i64 v1), (.int .i64 v2)] ++ List.replicate 8 .any, items := [.lp (subc [1, 1, 1, 1, 0, 1, 0, 0] (bodyOf Tryd.f41)), .blk 2, .code (subc [1, 1, 1, 1, 1] (bodyOf Tryd.f41))], D := [], base := 0 },
    stk := [],
    H := [] }
  | .h5 v1 v2 v4 v5 v6 v7 =>
  { fr := { id := 41, kind := .top, T := List.replicate 6 .any ++ [(.osl 0 [] 1 0 v1 (some v2))] ++ List.replicate 18 .any ++ [(.fsl (.slice (.int .u8)) x), (.int .i64 v4), (.int .i64 v5)] ++ List.replicate 8 .any, items := [.lp (subc [1, 1, 1, 1, 0, 1, 0, 0] (bodyOf Tryd.f41)), .blk 2, .code (subc [1, 1, 1, 1, 1] (bodyOf Tryd.f41))], D := [], base := 0 },
    stk := [],
    H := [.cell true 5 (.arr v6 (.int .u8) v7)] }
  | .h6 v1 v2 =>
  { fr := { id := 41, kind := .top, T := List.replicate 6 .any ++ [(.raw (.slice none 0 0))] ++ List.replicate 18 .any ++ [(.fsl (.slice (.int .u8)) x), (.int .i64 v1), (.int .i64 v2)] ++ List.replicate 8 .any, items := [.code (subc [1, 1, 1, 1, 0, 1, 0, 0, 1, 1, 0, 0, 0] (bodyOf Tryd.f41)), .code (subc [1, 1, 1, 1, 0, 1, 0, 0, 1, 1, 0, 0, 1] (bodyOf Tryd.f41)), .blk 3, .code (subc [1, 1, 1, 1, 0, 1, 0, 0, 1, 1, 1] (bodyOf Tryd.f41)), .lp (subc [1, 1, 1, 1, 0, 1, 0, 0] (bodyOf Tryd.f41)), .blk 2, .code (subc [1, 1, 1, 1, 1] (bodyOf Tryd.f41))], D := [], base := 0 },
    stk := [],
    H := [] }
  | .h7 =>
  { fr := { id := 41, kind := .top, T := List.replicate 6 .any ++ [(.raw (.slice none 0 0))] ++ List.replicate 29 .any, items := [.code (subc [1, 1, 1, 1, 1, 0] (bodyOf Tryd.f41)), .code (subc [1, 1, 1, 1, 1, 1] (bodyOf Tryd.f41))], D := [], base := 0 },
    stk := [],
    H := [] }
  | .h8 v1 v2 v4 v5 v6 v7 =>
  { fr := { id := 41, kind := .top, T := List.replicate 6 .any ++ [(.osl 0 [] 1 0 v1 (some v2))] ++ List.replicate 18 .any ++ [(.fsl (.slice (.int .u8)) x), (.int .i64 v4), (.int .i64 v5)] ++ List.replicate 8 .any, items := [.code (subc [1, 1, 1, 1, 0, 1, 0, 0, 1, 1, 0, 0, 0] (bodyOf Tryd.f41)), .code (subc [1, 1, 1, 1, 0, 1, 0, 0, 1, 1, 0, 0, 1] (bodyOf Tryd.f41)), .blk 3, .code (subc [1, 1, 1, 1, 0, 1, 0, 0, 1, 1, 1] (bodyOf Tryd.f41)), .lp (subc [1, 1, 1, 1, 0, 1, 0, 0] (bodyOf Tryd.f41)), .blk 2, .code (subc [1, 1, 1, 1, 1] (bodyOf Tryd.f41))], D := [], base := 0 },
    stk := [],
    H := [.cell true 5 (.arr v6 (.int .u8) v7)] }
  | .h9 v1 v2 v3 v4 =>
  { fr := { id := 41, kind := .top, T := List.replicate 6 .any ++ [(.osl 0 [] 1 0 v1 (some v2))] ++ List.replicate 29 .any, items := [.code (subc [1, 1, 1, 1, 1, 0] (bodyOf Tryd.f41)), .code (subc [1, 1, 1, 1, 1, 1] (bodyOf Tryd.f41))], D := [], base := 0 },
    stk := [],
    H := [.cell true 5 (.arr v3 (.int .u8) v4)] }
noncomputable def stop41 : FuncId → Nat → Nat → Option Cut
  | 41, 0, 0 => some { tmps := [0, 3, 9, 10, 11], loops := [], dead := [], stk := [] }
  | 41, 9, 0 => some { tmps := [0, 3, 9, 10, 11], loops := [], dead := [], stk := [] }
  | 41, 19, 0 => some { tmps := [0, 3], loops := [], dead := [], stk := [] }
  | 41, 17, 0 => some { tmps := [0, 3, 9, 10, 11], loops := [], dead := [], stk := [] }
  | 41, 4, 0 => some { tmps := [6, 25, 26, 27], loops := [], dead := [], stk := [] }
  | 41, 25, 0 => some { tmps := [6, 25, 26, 27], loops := [], dead := [], stk := [] }
  | 41, 31, 0 => some { tmps := [6], loops := [], dead := [], stk := [] }
  | _, _, _ => none
noncomputable def fn41 (x : (List (List Int))) : (List Int) := endVal (TC.dflt (.slice (.int .u8))) (step41 x) (tree41 x)
def pre41 (x : (List (List Int))) : Prop := ∃ r, Ends (step41 x) r (tree41 x)
noncomputable def spec41 : Spec := { dom := (.st1 (.slice (.slice (.int .u8)))), cod := (.slice (.int .u8)), n := 1, pre := pre41, f := fn41, own := some 5 }
noncomputable def need41 : FuncId → Option Spec
  | _ => none
theorem need41_ok : ∀ f sp, need41 f = some sp → SpecOk env0 f sp := by
  intro f sp h
  unfold need41 at h
  split at h
  · cases h
theorem run41 (W : Cfg) (Q : (List Int) → Prop) (x : (List (List Int))) : run (env need41 (fun _ _ => none)) stop41 (finS spec41 Q) W 100000 (startFr 41 Tryd.f41 (bodyOf Tryd.f41) (argsOf (.st1 (.slice (.slice (.int .u8)))) x)) [] [] = (tree41 x).wp (kont W Q (head41 x)) := by kernel_rfl
theorem run41h0 (W : Cfg) (Q : (List Int) → Prop) (x : (List (List Int))) (v1 : Int) (v3 : Int) (v4 : Int) : run (env need41 (fun _ _ => none)) stop41 (finS spec41 Q) W 100000 (head41 x (.h0 v1 v3 v4)).fr.enter (head41 x (.h0 v1 v3 v4)).stk (head41 x (.h0 v1 v3 v4)).H = (step41 x (.h0 v1 v3 v4)).wp (kont W Q (head41 x)) := by kernel_rfl
theorem run41h1 (W : Cfg) (Q : (List Int) → Prop) (x : (List (List Int))) (v1 : Int) (v3 : Int) (v4 : Int) : run (env need41 (fun _ _ => none)) stop41 (finS spec41 Q) W 100000 (head41 x (.h1 v1 v3 v4)).fr.enter (head41 x (.h1 v1 v3 v4)).stk (head41 x (.h1 v1 v3 v4)).H = (step41 x (.h1 v1 v3 v4)).wp (kont W Q (head41 x)) := by kernel_rfl
theorem run41h2 (W : Cfg) (Q : (List Int) → Prop) (x : (List (List Int))) (v1 : Int) : run (env need41 (fun _ _ => none)) stop41 (finS spec41 Q) W 100000 (head41 x (.h2 v1)).fr.enter (head41 x (.h2 v1)).stk (head41 x (.h2 v1)).H = (step41 x (.h2 v1)).wp (kont W Q (head41 x)) := by kernel_rfl
theorem run41h3 (W : Cfg) (Q : (List Int) → Prop) (x : (List (List Int))) (v1 : Int) (v3 : Int) (v4 : Int) : run (env need41 (fun _ _ => none)) stop41 (finS spec41 Q) W 100000 (head41 x (.h3 v1 v3 v4)).fr.enter (head41 x (.h3 v1 v3 v4)).stk (head41 x (.h3 v1 v3 v4)).H = (step41 x (.h3 v1 v3 v4)).wp (kont W Q (head41 x)) := by kernel_rfl
theorem run41h4 (W : Cfg) (Q : (List Int) → Prop) (x : (List (List Int))) (v1 : Int) (v2 : Int) : run (env need41 (fun _ _ => none)) stop41 (finS spec41 Q) W 100000 (head41 x (.h4 v1 v2)).fr.enter (head41 x (.h4 v1 v2)).stk (head41 x (.h4 v1 v2)).H = (step41 x (.h4 v1 v2)).wp (kont W Q (head41 x)) := by kernel_rfl
theorem run41h5 (W : Cfg) (Q : (List Int) → Prop) (x : (List (List Int))) (v1 : Nat) (v2 : Nat) (v4 : Int) (v5 : Int) (v6 : Nat) (v7 : (List Int)) : run (env need41 (fun _ _ => none)) stop41 (finS spec41 Q) W 100000 (head41 x (.h5 v1 v2 v4 v5 v6 v7)).fr.enter (head41 x (.h5 v1 v2 v4 v5 v6 v7)).stk (head41 x (.h5 v1 v2 v4 v5 v6 v7)).H = (step41 x (.h5 v1 v2 v4 v5 v6 v7)).wp (kont W Q (head41 x)) := by kernel_rfl
theorem run41h6 (W : Cfg) (Q : (List Int) → Prop) (x : (List (List Int))) (v1 : Int) (v2 : Int) : run (env need41 (fun _ _ => none)) stop41 (finS spec41 Q) W 100000 (head41 x (.h6 v1 v2)).fr.enter (head41 x (.h6 v1 v2)).stk (head41 x (.h6 v1 v2)).H = (step41 x (.h6 v1 v2)).wp (kont W Q (head41 x)) := by kernel_rfl
theorem run41h7 (W : Cfg) (Q : (List Int) → Prop) (x : (List (List Int))) : run (env need41 (fun _ _ => none)) stop41 (finS spec41 Q) W 100000 (head41 x (.h7)).fr.enter (head41 x (.h7)).stk (head41 x (.h7)).H = (step41 x (.h7)).wp (kont W Q (head41 x)) := by kernel_rfl
theorem run41h8 (W : Cfg) (Q : (List Int) → Prop) (x : (List (List Int))) (v1 : Nat) (v2 : Nat) (v4 : Int) (v5 : Int) (v6 : Nat) (v7 : (List Int)) : run (env need41 (fun _ _ => none)) stop41 (finS spec41 Q) W 100000 (head41 x (.h8 v1 v2 v4 v5 v6 v7)).fr.enter (head41 x (.h8 v1 v2 v4 v5 v6 v7)).stk (head41 x (.h8 v1 v2 v4 v5 v6 v7)).H = (step41 x (.h8 v1 v2 v4 v5 v6 v7)).wp (kont W Q (head41 x)) := by kernel_rfl
theorem run41h9 (W : Cfg) (Q : (List Int) → Prop) (x : (List (List Int))) (v1 : Nat) (v2 : Nat) (v3 : Nat) (v4 : (List Int)) : run (env need41 (fun _ _ => none)) stop41 (finS spec41 Q) W 100000 (head41 x (.h9 v1 v2 v3 v4)).fr.enter (head41 x (.h9 v1 v2 v3 v4)).stk (head41 x (.h9 v1 v2 v3 v4)).H = (step41 x (.h9 v1 v2 v3 v4)).wp (kont W Q (head41 x)) := by kernel_rfl
theorem runs41 (W : Cfg) (Q : (List Int) → Prop) (x : (List (List Int))) : ∀ j : J41, run (env need41 (fun _ _ => none)) stop41 (finS spec41 Q) W 100000 (head41 x j).fr.enter (head41 x j).stk (head41 x j).H = (step41 x j).wp (kont W Q (head41 x))
  | .h0 v1 v3 v4 => run41h0 W Q x v1 v3 v4
  | .h1 v1 v3 v4 => run41h1 W Q x v1 v3 v4
  | .h2 v1 => run41h2 W Q x v1
  | .h3 v1 v3 v4 => run41h3 W Q x v1 v3 v4
  | .h4 v1 v2 => run41h4 W Q x v1 v2
  | .h5 v1 v2 v4 v5 v6 v7 => run41h5 W Q x v1 v2 v4 v5 v6 v7
  | .h6 v1 v2 => run41h6 W Q x v1 v2
  | .h7 => run41h7 W Q x
  | .h8 v1 v2 v4 v5 v6 v7 => run41h8 W Q x v1 v2 v4 v5 v6 v7
  | .h9 v1 v2 v3 v4 => run41h9 W Q x v1 v2 v3 v4
theorem ok41 : SpecOk env0 41 spec41 := SpecOk.env rfl (fun _ _ h => h) (spec_of_trees (E := (env need41 (fun _ _ => none))) (sp := spec41) (valid _ _) (fun f sp h => SpecOk.env rfl (fun _ _ h => h) (need41_ok f sp h)) (fn := Tryd.f41) (c := (bodyOf Tryd.f41)) (by kernel_rfl) (by kernel_rfl) tree41 step41 head41 run41 runs41 (fun _ h => endVal_ends h))

end Go.Eng.RE
end
