/- A part of the proof that the laws of this seat hold. Conditions: none beyond the row. -/
import Derived.Test.YtjjoocjlmopfjaaGreatDoorFns0
set_option maxRecDepth 100000
set_option linter.unusedVariables false
set_option linter.unusedSimpArgs false
set_option linter.unusedSectionVars false
section
/- Functions of this program, written out. -/
namespace Go.Eng.RZ
open Go.Proofs Go.Eng
inductive J14 where
 | h0
 | h1 (v43 : (List Int)) (v59 : Int) (v65 : Int) (v68 : (List Int)) (v69 : (List Int)) (v70 : (List Int)) (v71 : (List Int))
 | h2 (v43 : (List Int)) (v62 : (List Int)) (v63 : (List Int)) (v64 : (List Int)) (v86 : (List Int)) (v105 : (List Int)) (v106 : (List Int)) (v107 : (List Int)) (v108 : (List Int)) (v115 : (List Int))
 | h3 (v43 : (List Int)) (v50 : (List Int))
 | h4 (v43 : (List Int)) (v56 : (List Int)) (v57 : (List Int))
 | h5 (v43 : (List Int)) (v47 : Int) (v50 : (List Int))
 | h6 (v43 : (List Int)) (v47 : Int) (v53 : Int) (v56 : (List Int)) (v57 : (List Int))
 | h7 (v43 : (List Int)) (v50 : (List Int))
 | h8 (v43 : (List Int)) (v50 : (List Int))
 | h9 (v43 : (List Int)) (v56 : (List Int)) (v57 : (List Int))
 | h10 (v43 : (List Int)) (v50 : (List Int))
 | h11 (v43 : (List Int)) (v49 : Int) (v50 : (List Int))
 | h12 (v43 : (List Int)) (v50 : (List Int))
 | h13 (v43 : (List Int)) (v56 : (List Int)) (v57 : (List Int))
 | h14 (v43 : (List Int)) (v50 : (List Int))
 | h15 (v43 : (List Int)) (v50 : (List Int))
 | h16 (v43 : (List Int)) (v50 : (List Int))
 | h17
 | h18 (v43 : (List Int)) (v59 : Int) (v65 : Int) (v68 : (List Int)) (v69 : (List Int)) (v70 : (List Int)) (v71 : (List Int))
 | h19 (v43 : (List Int)) (v62 : (List Int)) (v63 : (List Int)) (v64 : (List Int)) (v86 : (List Int)) (v105 : (List Int)) (v106 : (List Int)) (v107 : (List Int)) (v108 : (List Int)) (v115 : (List Int))
 | h20 (v43 : (List Int)) (v56 : (List Int)) (v57 : (List Int))
 | h21 (v43 : (List Int)) (v47 : Int) (v53 : Int) (v56 : (List Int)) (v57 : (List Int))
 | h22 (v43 : (List Int)) (v56 : (List Int)) (v57 : (List Int))
 | h23 (v43 : (List Int)) (v56 : (List Int)) (v57 : (List Int))
 | h24 (v43 : (List Int)) (v59 : Int) (v65 : Int) (v68 : (List Int)) (v69 : (List Int)) (v70 : (List Int)) (v71 : (List Int))
 | h25 (v43 : (List Int)) (v62 : (List Int)) (v63 : (List Int)) (v64 : (List Int)) (v86 : (List Int)) (v105 : (List Int)) (v106 : (List Int)) (v107 : (List Int)) (v108 : (List Int)) (v115 : (List Int))
 | h26 (v43 : (List Int)) (v59 : Int) (v65 : Int) (v68 : (List Int)) (v69 : (List Int)) (v70 : (List Int)) (v71 : (List Int))
 | h27 (v43 : (List Int)) (v62 : (List Int)) (v63 : (List Int)) (v64 : (List Int)) (v86 : (List Int)) (v105 : (List Int)) (v106 : (List Int)) (v107 : (List Int)) (v108 : (List Int)) (v115 : (List Int))
 | h28 (v43 : (List Int)) (v62 : (List Int)) (v63 : (List Int)) (v64 : (List Int)) (v86 : (List Int)) (v105 : (List Int)) (v106 : (List Int)) (v107 : (List Int)) (v108 : (List Int)) (v115 : (List Int))
 | h29 (v43 : (List Int)) (v62 : (List Int)) (v63 : (List Int)) (v64 : (List Int)) (v86 : (List Int)) (v105 : (List Int)) (v106 : (List Int)) (v107 : (List Int)) (v108 : (List Int)) (v115 : (List Int))
 | h30 (v43 : (List Int)) (v50 : (List Int)) (v72 : (List Int)) (v91 : (List Int)) (v92 : (List Int)) (v93 : (List Int)) (v94 : (List Int)) (v113 : (List Int)) (v114 : (List Int)) (v115 : (List Int))
noncomputable def tree14 (x : DI) : Tr (J14 ⊕ (((List Int) × (Int × Unit)) × ((Unit × (Unit × ((List Int) × (Int × (Int × Int))))) × Bool))) :=
  .ite ((ieq x.1 29) == false) (
 .ite ((ieq x.1 30) == false) (
 let y0 := x.2.1
 let y1 := ((ilt 15 y0) == false)
 .ite y1 (
 .ite ((!(ieq x.1 31)) == true) (
 .ite ((ine y0 0) == false) (
 let y2 := ((ine x.1 39) == true)
 .ite y2 (
 let y3 := (ine x.2.2.2.2.2.1 0)
 .ite y3 (
 let y4 : (((List Int) × (Int × Unit)) × ((Unit × (Unit × ((List Int) × (Int × (Int × Int))))) × Bool)) := ((([] : List Int), (0, ())), (((), ((), (([] : List Int), (0, (0, 0))))), false))
 .ret (.inr y4)) (
 .ret (.inl (.h0)))) (
 .ret (.inl (.h0)))) (
 let y5 : (((List Int) × (Int × Unit)) × ((Unit × (Unit × ((List Int) × (Int × (Int × Int))))) × Bool)) := ((([] : List Int), (0, ())), (((), ((), (([] : List Int), (0, (0, 0))))), false))
 .ret (.inr y5))) (
 let y6 := ((ine x.1 39) == true)
 .ite y6 (
 let y7 := (ine x.2.2.2.2.2.1 0)
 .ite y7 (
 let y8 : (((List Int) × (Int × Unit)) × ((Unit × (Unit × ((List Int) × (Int × (Int × Int))))) × Bool)) := ((([] : List Int), (0, ())), (((), ((), (([] : List Int), (0, (0, 0))))), false))
 .ret (.inr y8)) (
 .ret (.inl (.h0)))) (
 .ret (.inl (.h0))))) (
 let y9 : (((List Int) × (Int × Unit)) × ((Unit × (Unit × ((List Int) × (Int × (Int × Int))))) × Bool)) := ((([] : List Int), (0, ())), (((), ((), (([] : List Int), (0, (0, 0))))), false))
 .ret (.inr y9))) (
 let y10 := x.2.1
 let y11 := ((ilt 15 y10) == false)
 .ite y11 (
 let y12 := ((ine x.1 39) == true)
 .ite y12 (
 let y13 := (ine x.2.2.2.2.2.1 0)
 .ite y13 (
 let y14 : (((List Int) × (Int × Unit)) × ((Unit × (Unit × ((List Int) × (Int × (Int × Int))))) × Bool)) := ((([] : List Int), (0, ())), (((), ((), (([] : List Int), (0, (0, 0))))), false))
 .ret (.inr y14)) (
 .ret (.inl (.h0)))) (
 .ret (.inl (.h0)))) (
 let y15 : (((List Int) × (Int × Unit)) × ((Unit × (Unit × ((List Int) × (Int × (Int × Int))))) × Bool)) := ((([] : List Int), (0, ())), (((), ((), (([] : List Int), (0, (0, 0))))), false))
 .ret (.inr y15)))) (
 let y16 := x.2.1
 let y17 := ((ilt 15 y16) == false)
 .ite y17 (
 let y18 := ((ine x.1 39) == true)
 .ite y18 (
 let y19 := (ine x.2.2.2.2.2.1 0)
 .ite y19 (
 let y20 : (((List Int) × (Int × Unit)) × ((Unit × (Unit × ((List Int) × (Int × (Int × Int))))) × Bool)) := ((([] : List Int), (0, ())), (((), ((), (([] : List Int), (0, (0, 0))))), false))
 .ret (.inr y20)) (
 .ret (.inl (.h0)))) (
 .ret (.inl (.h0)))) (
 let y21 : (((List Int) × (Int × Unit)) × ((Unit × (Unit × ((List Int) × (Int × (Int × Int))))) × Bool)) := ((([] : List Int), (0, ())), (((), ((), (([] : List Int), (0, (0, 0))))), false))
 .ret (.inr y21)))
noncomputable def step14 (x : DI) : J14 → Tr (J14 ⊕ (((List Int) × (Int × Unit)) × ((Unit × (Unit × ((List Int) × (Int × (Int × Int))))) × Bool)))
 | .h0 =>
 .need ((0 : Nat) < 8) <|
 .need ((1 : Nat) < 8) <|
 .need ((2 : Nat) < 8) <|
 .need ((3 : Nat) < 8) <|
 .need ((4 : Nat) < 8) <|
 .need ((5 : Nat) < 8) <|
 .need ((6 : Nat) < 8) <|
 .need ((7 : Nat) < 8) <|
 .need (((0 : Nat) + 8 : Nat) ≤ 8) <|
 let y0 : ((List Int) × Int) := ([3, 4, 5, 6, 7, 8, 9, 10], x.1)
 .need (pre68 y0) <|
 let y1 := (fn68 y0)
 .ite (ile 0 y1) (
 .need ((0 : Nat) < 1) <|
 .need ((0 : Nat) < 1) <|
 .need ((0 : Nat) < 1) <|
 .need ((0 : Nat) < 1) <|
 .need ((0 : Nat) < 2) <|
 .need ((1 : Nat) < 2) <|
 .need ((0 : Int) ≤ 0) <|
 .need (0 < (1 : Int)) <|
 .need ((0 : Int) ≤ 0) <|
 .need (0 < (4 : Int)) <|
 .need (((0 : Nat) + 2 : Nat) ≤ 2) <|
 let y2 : (List Int) := [4, 8]
 let y3 := x.2.2
 let y4 := y3.1
 let y5 : ((List Int) × Int) := (y2, y4)
 .need (pre51 y5) <|
 let y6 := ((fn51 y5) == true)
 .ite y6 (
 let y7 := y3.2
 let y8 := y7.1
 .need (pre70 y8) <|
 let y9 := ((fn70 y8) == true)
 .ite y9 (
 let y10 := y7.2.1
 .need (pre71 y10) <|
 let y11 := ((fn71 y10) == true)
 .ite y11 (
 .need (((0 : Nat) + 2 : Nat) ≤ 2) <|
 .need (((0 : Nat) + 1 : Nat) ≤ 1) <|
 let y12 : (Int × Unit) := (0, ())
 let y13 : ((List Int) × (Int × Unit)) := (y2, y12)
 let y14 : Int := (imul .i64 8 y1)
 let y15 : (List Int) := [(iconv .u8 (iadd .i64 y14 1))]
 let y16 : (Int × Int) := (1, 0)
 let y17 : (Int × (Int × Int)) := ((-1), y16)
 .ret (.inr (y13, (((), ((), (y15, y17))), true)))) (
 let y18 : Int := (imul .i64 8 y1)
 let y19 : (List Int) := [(iconv .u8 (iadd .i64 y18 1))]
 let y20 : (List Int) := [(iconv .u8 (iadd .i64 y18 3))]
 .ret (.inl (.h1 y2 y1 y1 y19 y20 [131] [129])))) (
 let y21 : Int := (imul .i64 8 y1)
 let y22 : (List Int) := [(iconv .u8 (iadd .i64 y21 1))]
 let y23 : (List Int) := [(iconv .u8 (iadd .i64 y21 3))]
 .ret (.inl (.h1 y2 y1 y1 y22 y23 [131] [129])))) (
 let y24 : Int := (imul .i64 8 y1)
 let y25 : (List Int) := [(iconv .u8 (iadd .i64 y24 1))]
 let y26 : (List Int) := [(iconv .u8 (iadd .i64 y24 3))]
 .ret (.inl (.h1 y2 y1 y1 y25 y26 [131] [129])))) (
 .ite (ieq x.1 1) (
 .need ((0 : Nat) < 1) <|
 .need ((0 : Nat) < 1) <|
 .need ((0 : Nat) < 1) <|
 .need ((0 : Nat) < 1) <|
 .need ((0 : Nat) < 2) <|
 .need ((1 : Nat) < 2) <|
 .need ((0 : Nat) < 1) <|
 .need ((0 : Nat) < 1) <|
 .need ((0 : Nat) < 1) <|
 .need ((0 : Nat) < 1) <|
 .need ((0 : Nat) < 1) <|
 .need ((0 : Int) ≤ 0) <|
 .need (0 < (3 : Int)) <|
 .need ((0 : Int) ≤ 0) <|
 .need (0 < (3 : Int)) <|
 .need (((0 : Nat) + 1 : Nat) ≤ 1) <|
 let y27 := x.2.2
 let y28 := y27.1
 let y29 : ((List Int) × Int) := ([1], y28)
 .need (pre51 y29) <|
 let y30 := ((fn51 y29) == true)
 .ite y30 (
 let y31 := y27.2
 let y32 := y31.1
 .need (pre70 y32) <|
 let y33 := ((fn70 y32) == true)
 .ite y33 (
 let y34 := y31.2.1
 .need (pre71 y34) <|
 let y35 := ((fn71 y34) == true)
 .ite y35 (
 .need (((0 : Nat) + 1 : Nat) ≤ 1) <|
 .need (((0 : Nat) + 1 : Nat) ≤ 1) <|
 let y36 : (Int × Unit) := (0, ())
 let y37 : ((List Int) × (Int × Unit)) := ([1], y36)
 let y38 : (Int × Int) := (1, 0)
 let y39 : (Int × (Int × Int)) := ((-1), y38)
 .ret (.inr (y37, (((), ((), ([136], y39))), true)))) (
 let y40 : (List Int) := [4, 8]
 .ret (.inl (.h2 [1] [136] [138] [198] y40 [137] [139] [199] [8] [184])))) (
 let y41 : (List Int) := [4, 8]
 .ret (.inl (.h2 [1] [136] [138] [198] y41 [137] [139] [199] [8] [184])))) (
 let y42 : (List Int) := [4, 8]
 .ret (.inl (.h2 [1] [136] [138] [198] y42 [137] [139] [199] [8] [184])))) (
 .ite (ieq x.1 2) (
 .need ((0 : Nat) < 1) <|
 .need ((0 : Nat) < 2) <|
 .need ((1 : Nat) < 2) <|
 .need ((0 : Int) ≤ 0) <|
 .need (0 < (1 : Int)) <|
 .need ((0 : Int) ≤ 0) <|
 .need (0 < (1 : Int)) <|
 .need (((0 : Nat) + 2 : Nat) ≤ 2) <|
 let y43 : (List Int) := [4, 8]
 let y44 := x.2.2
 let y45 := y44.1
 let y46 : ((List Int) × Int) := (y43, y45)
 .need (pre51 y46) <|
 let y47 := ((fn51 y46) == true)
 .ite y47 (
 let y48 := y44.2
 let y49 := y48.1
 .need (pre71 y49) <|
 let y50 := ((fn71 y49) == true)
 .ite y50 (
 let y51 := y48.2.1
 .need (pre72 y51) <|
 .ite ((fn72 y51) == true) (
 .need (((0 : Nat) + 2 : Nat) ≤ 2) <|
 .need (((0 : Nat) + 1 : Nat) ≤ 1) <|
 let y52 : (Int × Unit) := (0, ())
 let y53 : ((List Int) × (Int × Unit)) := (y43, y52)
 let y54 : (Int × (Int × Int)) := ((-1), (2, 0))
 .ret (.inr (y53, (((), ((), ([141], y54))), true)))) (
 .ret (.inl (.h3 y43 [141])))) (
 .ret (.inl (.h3 y43 [141])))) (
 .ret (.inl (.h3 y43 [141])))) (
 .ite (ieq x.1 11) (
 .need ((0 : Nat) < 1) <|
 .need ((0 : Nat) < 1) <|
 .need ((0 : Nat) < 2) <|
 .need ((1 : Nat) < 2) <|
 .need ((0 : Int) ≤ 0) <|
 .need (0 < (1 : Int)) <|
 .need ((0 : Int) ≤ 0) <|
 .need (0 < (2 : Int)) <|
 .need (((0 : Nat) + 2 : Nat) ≤ 2) <|
 let y55 : (List Int) := [4, 8]
 let y56 := x.2.2
 let y57 := y56.1
 let y58 : ((List Int) × Int) := (y55, y57)
 .need (pre51 y58) <|
 let y59 := ((fn51 y58) == true)
 .ite y59 (
 let y60 := y56.2
 let y61 := y60.1
 .need (pre70 y61) <|
 let y62 := ((fn70 y61) == true)
 .ite y62 (
 let y63 := y60.2.1
 .need (pre71 y63) <|
 let y64 := ((fn71 y63) == true)
 .ite y64 (
 .need (((0 : Nat) + 2 : Nat) ≤ 2) <|
 .need (((0 : Nat) + 1 : Nat) ≤ 1) <|
 let y65 : (Int × Unit) := (0, ())
 let y66 : ((List Int) × (Int × Unit)) := (y55, y65)
 let y67 : (Int × Int) := (1, 0)
 let y68 : (Int × (Int × Int)) := ((-1), y67)
 .ret (.inr (y66, (((), ((), ([133], y68))), true)))) (
 .ret (.inl (.h4 y55 [133] [247])))) (
 .ret (.inl (.h4 y55 [133] [247])))) (
 .ret (.inl (.h4 y55 [133] [247])))) (
 let y69 := (ieq x.1 12)
 .ite y69 (
 .need ((0 : Nat) < 1) <|
 .need ((0 : Nat) < 2) <|
 .need ((1 : Nat) < 2) <|
 .need ((0 : Int) ≤ 0) <|
 .need (0 < (1 : Int)) <|
 .need ((0 : Int) ≤ 0) <|
 .need (0 < (1 : Int)) <|
 .need (((0 : Nat) + 2 : Nat) ≤ 2) <|
 let y70 : (List Int) := [4, 8]
 let y71 := x.2.2
 let y72 := y71.1
 let y73 : ((List Int) × Int) := (y70, y72)
 .need (pre51 y73) <|
 let y74 := ((fn51 y73) == true)
 .ite y74 (
 let y75 := y71.2
 let y76 := y75.1
 .need (pre70 y76) <|
 let y77 := ((fn70 y76) == true)
 .ite y77 (
 let y78 := y75.2.1
 .need (pre95 y78) <|
 let y79 := ((fn95 y78) == true)
 .ite y79 (
 .need (((0 : Nat) + 2 : Nat) ≤ 2) <|
 .need (((0 : Nat) + 1 : Nat) ≤ 1) <|
 let y80 : (Int × Unit) := (0, ())
 let y81 : ((List Int) × (Int × Unit)) := (y70, y80)
 let y82 := (ieq x.1 13)
 let y83 := (ieq x.1 15)
 let y84 := (ieq x.1 14)
 let y85 := (ieq x.1 22)
 let y86 := (ieq x.1 23)
 let y87 := (ieq x.1 19)
 let y88 := (ieq x.1 20)
 let y89 := (ieq x.1 16)
 let y90 := (ieq x.1 17)
 let y91 := (ieq x.1 18)
 let y92 : Int := (cond y69 0 (cond y82 1 (cond y83 2 (cond y84 3 (cond y85 4 (cond y86 6 (cond y87 0 (cond y88 1 (cond y89 4 (cond y90 5 (cond y91 7 0)))))))))))
 let y93 : (Int × Int) := (1, 0)
 let y94 : (Int × (Int × Int)) := (y92, y93)
 let y95 : (((List Int) × (Int × Unit)) × ((Unit × (Unit × ((List Int) × (Int × (Int × Int))))) × Bool)) := (y81, (((), ((), ([255], y94))), true))
 .ret (.inr y95)) (
 let y96 := (ieq x.1 13)
 let y97 := (ieq x.1 15)
 let y98 := (ieq x.1 14)
 let y99 := (ieq x.1 22)
 let y100 := (ieq x.1 23)
 let y101 := (ieq x.1 19)
 let y102 := (ieq x.1 20)
 let y103 := (ieq x.1 16)
 let y104 := (ieq x.1 17)
 let y105 := (ieq x.1 18)
 let y106 : Int := (cond y69 0 (cond y96 1 (cond y97 2 (cond y98 3 (cond y99 4 (cond y100 6 (cond y101 0 (cond y102 1 (cond y103 4 (cond y104 5 (cond y105 7 0)))))))))))
 .ret (.inl (.h5 y70 y106 [255])))) (
 let y107 := (ieq x.1 13)
 let y108 := (ieq x.1 15)
 let y109 := (ieq x.1 14)
 let y110 := (ieq x.1 22)
 let y111 := (ieq x.1 23)
 let y112 := (ieq x.1 19)
 let y113 := (ieq x.1 20)
 let y114 := (ieq x.1 16)
 let y115 := (ieq x.1 17)
 let y116 := (ieq x.1 18)
 let y117 : Int := (cond y69 0 (cond y107 1 (cond y108 2 (cond y109 3 (cond y110 4 (cond y111 6 (cond y112 0 (cond y113 1 (cond y114 4 (cond y115 5 (cond y116 7 0)))))))))))
 .ret (.inl (.h5 y70 y117 [255])))) (
 let y118 := (ieq x.1 13)
 let y119 := (ieq x.1 15)
 let y120 := (ieq x.1 14)
 let y121 := (ieq x.1 22)
 let y122 := (ieq x.1 23)
 let y123 := (ieq x.1 19)
 let y124 := (ieq x.1 20)
 let y125 := (ieq x.1 16)
 let y126 := (ieq x.1 17)
 let y127 := (ieq x.1 18)
 let y128 : Int := (cond y69 0 (cond y118 1 (cond y119 2 (cond y120 3 (cond y121 4 (cond y122 6 (cond y123 0 (cond y124 1 (cond y125 4 (cond y126 5 (cond y127 7 0)))))))))))
 .ret (.inl (.h5 y70 y128 [255])))) (
 let y129 := (ieq x.1 13)
 .ite y129 (
 .need ((0 : Nat) < 1) <|
 .need ((0 : Nat) < 2) <|
 .need ((1 : Nat) < 2) <|
 .need ((0 : Int) ≤ 0) <|
 .need (0 < (1 : Int)) <|
 .need ((0 : Int) ≤ 0) <|
 .need (0 < (1 : Int)) <|
 .need (((0 : Nat) + 2 : Nat) ≤ 2) <|
 let y130 : (List Int) := [4, 8]
 let y131 := x.2.2
 let y132 := y131.1
 let y133 : ((List Int) × Int) := (y130, y132)
 .need (pre51 y133) <|
 let y134 := ((fn51 y133) == true)
 .ite y134 (
 let y135 := y131.2
 let y136 := y135.1
 .need (pre70 y136) <|
 let y137 := ((fn70 y136) == true)
 .ite y137 (
 let y138 := y135.2.1
 .need (pre95 y138) <|
 let y139 := ((fn95 y138) == true)
 .ite y139 (
 .need (((0 : Nat) + 2 : Nat) ≤ 2) <|
 .need (((0 : Nat) + 1 : Nat) ≤ 1) <|
 let y140 : (Int × Unit) := (0, ())
 let y141 : ((List Int) × (Int × Unit)) := (y130, y140)
 let y142 := (ieq x.1 15)
 let y143 := (ieq x.1 14)
 let y144 := (ieq x.1 22)
 let y145 := (ieq x.1 23)
 let y146 := (ieq x.1 19)
 let y147 := (ieq x.1 20)
 let y148 := (ieq x.1 16)
 let y149 := (ieq x.1 17)
 let y150 := (ieq x.1 18)
 let y151 : Int := (cond y69 0 (cond y129 1 (cond y142 2 (cond y143 3 (cond y144 4 (cond y145 6 (cond y146 0 (cond y147 1 (cond y148 4 (cond y149 5 (cond y150 7 0)))))))))))
 let y152 : (Int × Int) := (1, 0)
 let y153 : (Int × (Int × Int)) := (y151, y152)
 let y154 : (((List Int) × (Int × Unit)) × ((Unit × (Unit × ((List Int) × (Int × (Int × Int))))) × Bool)) := (y141, (((), ((), ([255], y153))), true))
 .ret (.inr y154)) (
 let y155 := (ieq x.1 15)
 let y156 := (ieq x.1 14)
 let y157 := (ieq x.1 22)
 let y158 := (ieq x.1 23)
 let y159 := (ieq x.1 19)
 let y160 := (ieq x.1 20)
 let y161 := (ieq x.1 16)
 let y162 := (ieq x.1 17)
 let y163 := (ieq x.1 18)
 let y164 : Int := (cond y69 0 (cond y129 1 (cond y155 2 (cond y156 3 (cond y157 4 (cond y158 6 (cond y159 0 (cond y160 1 (cond y161 4 (cond y162 5 (cond y163 7 0)))))))))))
 .ret (.inl (.h5 y130 y164 [255])))) (
 let y165 := (ieq x.1 15)
 let y166 := (ieq x.1 14)
 let y167 := (ieq x.1 22)
 let y168 := (ieq x.1 23)
 let y169 := (ieq x.1 19)
 let y170 := (ieq x.1 20)
 let y171 := (ieq x.1 16)
 let y172 := (ieq x.1 17)
 let y173 := (ieq x.1 18)
 let y174 : Int := (cond y69 0 (cond y129 1 (cond y165 2 (cond y166 3 (cond y167 4 (cond y168 6 (cond y169 0 (cond y170 1 (cond y171 4 (cond y172 5 (cond y173 7 0)))))))))))
 .ret (.inl (.h5 y130 y174 [255])))) (
 let y175 := (ieq x.1 15)
 let y176 := (ieq x.1 14)
 let y177 := (ieq x.1 22)
 let y178 := (ieq x.1 23)
 let y179 := (ieq x.1 19)
 let y180 := (ieq x.1 20)
 let y181 := (ieq x.1 16)
 let y182 := (ieq x.1 17)
 let y183 := (ieq x.1 18)
 let y184 : Int := (cond y69 0 (cond y129 1 (cond y175 2 (cond y176 3 (cond y177 4 (cond y178 6 (cond y179 0 (cond y180 1 (cond y181 4 (cond y182 5 (cond y183 7 0)))))))))))
 .ret (.inl (.h5 y130 y184 [255])))) (
 let y185 := (ieq x.1 15)
 .ite y185 (
 .need ((0 : Nat) < 1) <|
 .need ((0 : Nat) < 2) <|
 .need ((1 : Nat) < 2) <|
 .need ((0 : Int) ≤ 0) <|
 .need (0 < (1 : Int)) <|
 .need ((0 : Int) ≤ 0) <|
 .need (0 < (1 : Int)) <|
 .need (((0 : Nat) + 2 : Nat) ≤ 2) <|
 let y186 : (List Int) := [4, 8]
 let y187 := x.2.2
 let y188 := y187.1
 let y189 : ((List Int) × Int) := (y186, y188)
 .need (pre51 y189) <|
 let y190 := ((fn51 y189) == true)
 .ite y190 (
 let y191 := y187.2
 let y192 := y191.1
 .need (pre70 y192) <|
 let y193 := ((fn70 y192) == true)
 .ite y193 (
 let y194 := y191.2.1
 .need (pre95 y194) <|
 let y195 := ((fn95 y194) == true)
 .ite y195 (
 .need (((0 : Nat) + 2 : Nat) ≤ 2) <|
 .need (((0 : Nat) + 1 : Nat) ≤ 1) <|
 let y196 : (Int × Unit) := (0, ())
 let y197 : ((List Int) × (Int × Unit)) := (y186, y196)
 let y198 := (ieq x.1 14)
 let y199 := (ieq x.1 22)
 let y200 := (ieq x.1 23)
 let y201 := (ieq x.1 19)
 let y202 := (ieq x.1 20)
 let y203 := (ieq x.1 16)
 let y204 := (ieq x.1 17)
 let y205 := (ieq x.1 18)
 let y206 : Int := (cond y69 0 (cond y129 1 (cond y185 2 (cond y198 3 (cond y199 4 (cond y200 6 (cond y201 0 (cond y202 1 (cond y203 4 (cond y204 5 (cond y205 7 0)))))))))))
 let y207 : (Int × Int) := (1, 0)
 let y208 : (Int × (Int × Int)) := (y206, y207)
 let y209 : (((List Int) × (Int × Unit)) × ((Unit × (Unit × ((List Int) × (Int × (Int × Int))))) × Bool)) := (y197, (((), ((), ([247], y208))), true))
 .ret (.inr y209)) (
 let y210 := (ieq x.1 14)
 let y211 := (ieq x.1 22)
 let y212 := (ieq x.1 23)
 let y213 := (ieq x.1 19)
 let y214 := (ieq x.1 20)
 let y215 := (ieq x.1 16)
 let y216 := (ieq x.1 17)
 let y217 := (ieq x.1 18)
 let y218 : Int := (cond y69 0 (cond y129 1 (cond y185 2 (cond y210 3 (cond y211 4 (cond y212 6 (cond y213 0 (cond y214 1 (cond y215 4 (cond y216 5 (cond y217 7 0)))))))))))
 .ret (.inl (.h5 y186 y218 [247])))) (
 let y219 := (ieq x.1 14)
 let y220 := (ieq x.1 22)
 let y221 := (ieq x.1 23)
 let y222 := (ieq x.1 19)
 let y223 := (ieq x.1 20)
 let y224 := (ieq x.1 16)
 let y225 := (ieq x.1 17)
 let y226 := (ieq x.1 18)
 let y227 : Int := (cond y69 0 (cond y129 1 (cond y185 2 (cond y219 3 (cond y220 4 (cond y221 6 (cond y222 0 (cond y223 1 (cond y224 4 (cond y225 5 (cond y226 7 0)))))))))))
 .ret (.inl (.h5 y186 y227 [247])))) (
 let y228 := (ieq x.1 14)
 let y229 := (ieq x.1 22)
 let y230 := (ieq x.1 23)
 let y231 := (ieq x.1 19)
 let y232 := (ieq x.1 20)
 let y233 := (ieq x.1 16)
 let y234 := (ieq x.1 17)
 let y235 := (ieq x.1 18)
 let y236 : Int := (cond y69 0 (cond y129 1 (cond y185 2 (cond y228 3 (cond y229 4 (cond y230 6 (cond y231 0 (cond y232 1 (cond y233 4 (cond y234 5 (cond y235 7 0)))))))))))
 .ret (.inl (.h5 y186 y236 [247])))) (
 let y237 := (ieq x.1 14)
 .ite y237 (
 .need ((0 : Nat) < 1) <|
 .need ((0 : Nat) < 2) <|
 .need ((1 : Nat) < 2) <|
 .need ((0 : Int) ≤ 0) <|
 .need (0 < (1 : Int)) <|
 .need ((0 : Int) ≤ 0) <|
 .need (0 < (1 : Int)) <|
 .need (((0 : Nat) + 2 : Nat) ≤ 2) <|
 let y238 : (List Int) := [4, 8]
 let y239 := x.2.2
 let y240 := y239.1
 let y241 : ((List Int) × Int) := (y238, y240)
 .need (pre51 y241) <|
 let y242 := ((fn51 y241) == true)
 .ite y242 (
 let y243 := y239.2
 let y244 := y243.1
 .need (pre70 y244) <|
 let y245 := ((fn70 y244) == true)
 .ite y245 (
 let y246 := y243.2.1
 .need (pre95 y246) <|
 let y247 := ((fn95 y246) == true)
 .ite y247 (
 .need (((0 : Nat) + 2 : Nat) ≤ 2) <|
 .need (((0 : Nat) + 1 : Nat) ≤ 1) <|
 let y248 : (Int × Unit) := (0, ())
 let y249 : ((List Int) × (Int × Unit)) := (y238, y248)
 let y250 := (ieq x.1 22)
 let y251 := (ieq x.1 23)
 let y252 := (ieq x.1 19)
 let y253 := (ieq x.1 20)
 let y254 := (ieq x.1 16)
 let y255 := (ieq x.1 17)
 let y256 := (ieq x.1 18)
 let y257 : Int := (cond y69 0 (cond y129 1 (cond y185 2 (cond y237 3 (cond y250 4 (cond y251 6 (cond y252 0 (cond y253 1 (cond y254 4 (cond y255 5 (cond y256 7 0)))))))))))
 let y258 : (Int × Int) := (1, 0)
 let y259 : (Int × (Int × Int)) := (y257, y258)
 let y260 : (((List Int) × (Int × Unit)) × ((Unit × (Unit × ((List Int) × (Int × (Int × Int))))) × Bool)) := (y249, (((), ((), ([247], y259))), true))
 .ret (.inr y260)) (
 let y261 := (ieq x.1 22)
 let y262 := (ieq x.1 23)
 let y263 := (ieq x.1 19)
 let y264 := (ieq x.1 20)
 let y265 := (ieq x.1 16)
 let y266 := (ieq x.1 17)
 let y267 := (ieq x.1 18)
 let y268 : Int := (cond y69 0 (cond y129 1 (cond y185 2 (cond y237 3 (cond y261 4 (cond y262 6 (cond y263 0 (cond y264 1 (cond y265 4 (cond y266 5 (cond y267 7 0)))))))))))
 .ret (.inl (.h5 y238 y268 [247])))) (
 let y269 := (ieq x.1 22)
 let y270 := (ieq x.1 23)
 let y271 := (ieq x.1 19)
 let y272 := (ieq x.1 20)
 let y273 := (ieq x.1 16)
 let y274 := (ieq x.1 17)
 let y275 := (ieq x.1 18)
 let y276 : Int := (cond y69 0 (cond y129 1 (cond y185 2 (cond y237 3 (cond y269 4 (cond y270 6 (cond y271 0 (cond y272 1 (cond y273 4 (cond y274 5 (cond y275 7 0)))))))))))
 .ret (.inl (.h5 y238 y276 [247])))) (
 let y277 := (ieq x.1 22)
 let y278 := (ieq x.1 23)
 let y279 := (ieq x.1 19)
 let y280 := (ieq x.1 20)
 let y281 := (ieq x.1 16)
 let y282 := (ieq x.1 17)
 let y283 := (ieq x.1 18)
 let y284 : Int := (cond y69 0 (cond y129 1 (cond y185 2 (cond y237 3 (cond y277 4 (cond y278 6 (cond y279 0 (cond y280 1 (cond y281 4 (cond y282 5 (cond y283 7 0)))))))))))
 .ret (.inl (.h5 y238 y284 [247])))) (
 let y285 := (ieq x.1 22)
 .ite y285 (
 .need ((0 : Nat) < 1) <|
 .need ((0 : Nat) < 2) <|
 .need ((1 : Nat) < 2) <|
 .need ((0 : Int) ≤ 0) <|
 .need (0 < (1 : Int)) <|
 .need ((0 : Int) ≤ 0) <|
 .need (0 < (1 : Int)) <|
 .need (((0 : Nat) + 2 : Nat) ≤ 2) <|
 let y286 : (List Int) := [4, 8]
 let y287 := x.2.2
 let y288 := y287.1
 let y289 : ((List Int) × Int) := (y286, y288)
 .need (pre51 y289) <|
 let y290 := ((fn51 y289) == true)
 .ite y290 (
 let y291 := y287.2
 let y292 := y291.1
 .need (pre70 y292) <|
 let y293 := ((fn70 y292) == true)
 .ite y293 (
 let y294 := y291.2.1
 .need (pre95 y294) <|
 let y295 := ((fn95 y294) == true)
 .ite y295 (
 .need (((0 : Nat) + 2 : Nat) ≤ 2) <|
 .need (((0 : Nat) + 1 : Nat) ≤ 1) <|
 let y296 : (Int × Unit) := (0, ())
 let y297 : ((List Int) × (Int × Unit)) := (y286, y296)
 let y298 := (ieq x.1 23)
 let y299 := (ieq x.1 19)
 let y300 := (ieq x.1 20)
 let y301 := (ieq x.1 16)
 let y302 := (ieq x.1 17)
 let y303 := (ieq x.1 18)
 let y304 : Int := (cond y69 0 (cond y129 1 (cond y185 2 (cond y237 3 (cond y285 4 (cond y298 6 (cond y299 0 (cond y300 1 (cond y301 4 (cond y302 5 (cond y303 7 0)))))))))))
 let y305 : (Int × Int) := (1, 0)
 let y306 : (Int × (Int × Int)) := (y304, y305)
 let y307 : (((List Int) × (Int × Unit)) × ((Unit × (Unit × ((List Int) × (Int × (Int × Int))))) × Bool)) := (y297, (((), ((), ([247], y306))), true))
 .ret (.inr y307)) (
 let y308 := (ieq x.1 23)
 let y309 := (ieq x.1 19)
 let y310 := (ieq x.1 20)
 let y311 := (ieq x.1 16)
 let y312 := (ieq x.1 17)
 let y313 := (ieq x.1 18)
 let y314 : Int := (cond y69 0 (cond y129 1 (cond y185 2 (cond y237 3 (cond y285 4 (cond y308 6 (cond y309 0 (cond y310 1 (cond y311 4 (cond y312 5 (cond y313 7 0)))))))))))
 .ret (.inl (.h5 y286 y314 [247])))) (
 let y315 := (ieq x.1 23)
 let y316 := (ieq x.1 19)
 let y317 := (ieq x.1 20)
 let y318 := (ieq x.1 16)
 let y319 := (ieq x.1 17)
 let y320 := (ieq x.1 18)
 let y321 : Int := (cond y69 0 (cond y129 1 (cond y185 2 (cond y237 3 (cond y285 4 (cond y315 6 (cond y316 0 (cond y317 1 (cond y318 4 (cond y319 5 (cond y320 7 0)))))))))))
 .ret (.inl (.h5 y286 y321 [247])))) (
 let y322 := (ieq x.1 23)
 let y323 := (ieq x.1 19)
 let y324 := (ieq x.1 20)
 let y325 := (ieq x.1 16)
 let y326 := (ieq x.1 17)
 let y327 := (ieq x.1 18)
 let y328 : Int := (cond y69 0 (cond y129 1 (cond y185 2 (cond y237 3 (cond y285 4 (cond y322 6 (cond y323 0 (cond y324 1 (cond y325 4 (cond y326 5 (cond y327 7 0)))))))))))
 .ret (.inl (.h5 y286 y328 [247])))) (
 let y329 := (ieq x.1 23)
 .ite y329 (
 .need ((0 : Nat) < 1) <|
 .need ((0 : Nat) < 2) <|
 .need ((1 : Nat) < 2) <|
 .need ((0 : Int) ≤ 0) <|
 .need (0 < (1 : Int)) <|
 .need ((0 : Int) ≤ 0) <|
 .need (0 < (1 : Int)) <|
 .need (((0 : Nat) + 2 : Nat) ≤ 2) <|
 let y330 : (List Int) := [4, 8]
 let y331 := x.2.2
 let y332 := y331.1
 let y333 : ((List Int) × Int) := (y330, y332)
 .need (pre51 y333) <|
 let y334 := ((fn51 y333) == true)
 .ite y334 (
 let y335 := y331.2
 let y336 := y335.1
 .need (pre70 y336) <|
 let y337 := ((fn70 y336) == true)
 .ite y337 (
 let y338 := y335.2.1
 .need (pre95 y338) <|
 let y339 := ((fn95 y338) == true)
 .ite y339 (
 .need (((0 : Nat) + 2 : Nat) ≤ 2) <|
 .need (((0 : Nat) + 1 : Nat) ≤ 1) <|
 let y340 : (Int × Unit) := (0, ())
 let y341 : ((List Int) × (Int × Unit)) := (y330, y340)
 let y342 := (ieq x.1 19)
 let y343 := (ieq x.1 20)
 let y344 := (ieq x.1 16)
 let y345 := (ieq x.1 17)
 let y346 := (ieq x.1 18)
 let y347 : Int := (cond y69 0 (cond y129 1 (cond y185 2 (cond y237 3 (cond y285 4 (cond y329 6 (cond y342 0 (cond y343 1 (cond y344 4 (cond y345 5 (cond y346 7 0)))))))))))
 let y348 : (Int × Int) := (1, 0)
 let y349 : (Int × (Int × Int)) := (y347, y348)
 let y350 : (((List Int) × (Int × Unit)) × ((Unit × (Unit × ((List Int) × (Int × (Int × Int))))) × Bool)) := (y341, (((), ((), ([247], y349))), true))
 .ret (.inr y350)) (
 let y351 := (ieq x.1 19)
 let y352 := (ieq x.1 20)
 let y353 := (ieq x.1 16)
 let y354 := (ieq x.1 17)
 let y355 := (ieq x.1 18)
 let y356 : Int := (cond y69 0 (cond y129 1 (cond y185 2 (cond y237 3 (cond y285 4 (cond y329 6 (cond y351 0 (cond y352 1 (cond y353 4 (cond y354 5 (cond y355 7 0)))))))))))
 .ret (.inl (.h5 y330 y356 [247])))) (
 let y357 := (ieq x.1 19)
 let y358 := (ieq x.1 20)
 let y359 := (ieq x.1 16)
 let y360 := (ieq x.1 17)
 let y361 := (ieq x.1 18)
 let y362 : Int := (cond y69 0 (cond y129 1 (cond y185 2 (cond y237 3 (cond y285 4 (cond y329 6 (cond y357 0 (cond y358 1 (cond y359 4 (cond y360 5 (cond y361 7 0)))))))))))
 .ret (.inl (.h5 y330 y362 [247])))) (
 let y363 := (ieq x.1 19)
 let y364 := (ieq x.1 20)
 let y365 := (ieq x.1 16)
 let y366 := (ieq x.1 17)
 let y367 := (ieq x.1 18)
 let y368 : Int := (cond y69 0 (cond y129 1 (cond y185 2 (cond y237 3 (cond y285 4 (cond y329 6 (cond y363 0 (cond y364 1 (cond y365 4 (cond y366 5 (cond y367 7 0)))))))))))
 .ret (.inl (.h5 y330 y368 [247])))) (
 let y369 := (ieq x.1 19)
 .ite y369 (
 .need ((0 : Nat) < 1) <|
 .need ((0 : Nat) < 1) <|
 .need ((0 : Nat) < 2) <|
 .need ((1 : Nat) < 2) <|
 .need ((0 : Int) ≤ 0) <|
 .need (0 < (1 : Int)) <|
 .need ((0 : Int) ≤ 0) <|
 .need (0 < (2 : Int)) <|
 .need (((0 : Nat) + 2 : Nat) ≤ 2) <|
 let y370 : (List Int) := [4, 8]
 let y371 := x.2.2
 let y372 := y371.1
 let y373 : ((List Int) × Int) := (y370, y372)
 .need (pre51 y373) <|
 let y374 := ((fn51 y373) == true)
 .ite y374 (
 let y375 := y371.2
 let y376 := y375.1
 .need (pre70 y376) <|
 let y377 := ((fn70 y376) == true)
 .ite y377 (
 let y378 := y375.2.1
 .need (pre80 y378) <|
 let y379 := ((fn80 y378) == true)
 .ite y379 (
 .need (((0 : Nat) + 2 : Nat) ≤ 2) <|
 .need (((0 : Nat) + 1 : Nat) ≤ 1) <|
 let y380 : (Int × Unit) := (0, ())
 let y381 : ((List Int) × (Int × Unit)) := (y370, y380)
 let y382 := (ieq x.1 20)
 let y383 := (ieq x.1 16)
 let y384 := (ieq x.1 17)
 let y385 := (ieq x.1 18)
 let y386 : Int := (cond y69 0 (cond y129 1 (cond y185 2 (cond y237 3 (cond y285 4 (cond y329 6 (cond y369 0 (cond y382 1 (cond y383 4 (cond y384 5 (cond y385 7 0)))))))))))
 let y387 : (((List Int) × (Int × Unit)) × ((Unit × (Unit × ((List Int) × (Int × (Int × Int))))) × Bool)) := (y381, (((), ((), ([193], (y386, (1, 1))))), true))
 .ret (.inr y387)) (
 let y388 := (ieq x.1 20)
 let y389 := (ieq x.1 16)
 let y390 := (ieq x.1 17)
 let y391 := (ieq x.1 18)
 let y392 : Int := (cond y69 0 (cond y129 1 (cond y185 2 (cond y237 3 (cond y285 4 (cond y329 6 (cond y369 0 (cond y388 1 (cond y389 4 (cond y390 5 (cond y391 7 0)))))))))))
 .ret (.inl (.h6 y370 y392 y392 [193] [211])))) (
 let y393 := (ieq x.1 20)
 let y394 := (ieq x.1 16)
 let y395 := (ieq x.1 17)
 let y396 := (ieq x.1 18)
 let y397 : Int := (cond y69 0 (cond y129 1 (cond y185 2 (cond y237 3 (cond y285 4 (cond y329 6 (cond y369 0 (cond y393 1 (cond y394 4 (cond y395 5 (cond y396 7 0)))))))))))
 .ret (.inl (.h6 y370 y397 y397 [193] [211])))) (
 let y398 := (ieq x.1 20)
 let y399 := (ieq x.1 16)
 let y400 := (ieq x.1 17)
 let y401 := (ieq x.1 18)
 let y402 : Int := (cond y69 0 (cond y129 1 (cond y185 2 (cond y237 3 (cond y285 4 (cond y329 6 (cond y369 0 (cond y398 1 (cond y399 4 (cond y400 5 (cond y401 7 0)))))))))))
 .ret (.inl (.h6 y370 y402 y402 [193] [211])))) (
 let y403 := (ieq x.1 20)
 .ite y403 (
 .need ((0 : Nat) < 1) <|
 .need ((0 : Nat) < 1) <|
 .need ((0 : Nat) < 2) <|
 .need ((1 : Nat) < 2) <|
 .need ((0 : Int) ≤ 0) <|
 .need (0 < (1 : Int)) <|
 .need ((0 : Int) ≤ 0) <|
 .need (0 < (2 : Int)) <|
 .need (((0 : Nat) + 2 : Nat) ≤ 2) <|
 let y404 : (List Int) := [4, 8]
 let y405 := x.2.2
 let y406 := y405.1
 let y407 : ((List Int) × Int) := (y404, y406)
 .need (pre51 y407) <|
 let y408 := ((fn51 y407) == true)
 .ite y408 (
 let y409 := y405.2
 let y410 := y409.1
 .need (pre70 y410) <|
 let y411 := ((fn70 y410) == true)
 .ite y411 (
 let y412 := y409.2.1
 .need (pre80 y412) <|
 let y413 := ((fn80 y412) == true)
 .ite y413 (
 .need (((0 : Nat) + 2 : Nat) ≤ 2) <|
 .need (((0 : Nat) + 1 : Nat) ≤ 1) <|
 let y414 : (Int × Unit) := (0, ())
 let y415 : ((List Int) × (Int × Unit)) := (y404, y414)
 let y416 := (ieq x.1 16)
 let y417 := (ieq x.1 17)
 let y418 := (ieq x.1 18)
 let y419 : Int := (cond y69 0 (cond y129 1 (cond y185 2 (cond y237 3 (cond y285 4 (cond y329 6 (cond y369 0 (cond y403 1 (cond y416 4 (cond y417 5 (cond y418 7 0)))))))))))
 let y420 : (((List Int) × (Int × Unit)) × ((Unit × (Unit × ((List Int) × (Int × (Int × Int))))) × Bool)) := (y415, (((), ((), ([193], (y419, (1, 1))))), true))
 .ret (.inr y420)) (
 let y421 := (ieq x.1 16)
 let y422 := (ieq x.1 17)
 let y423 := (ieq x.1 18)
 let y424 : Int := (cond y69 0 (cond y129 1 (cond y185 2 (cond y237 3 (cond y285 4 (cond y329 6 (cond y369 0 (cond y403 1 (cond y421 4 (cond y422 5 (cond y423 7 0)))))))))))
 .ret (.inl (.h6 y404 y424 y424 [193] [211])))) (
 let y425 := (ieq x.1 16)
 let y426 := (ieq x.1 17)
 let y427 := (ieq x.1 18)
 let y428 : Int := (cond y69 0 (cond y129 1 (cond y185 2 (cond y237 3 (cond y285 4 (cond y329 6 (cond y369 0 (cond y403 1 (cond y425 4 (cond y426 5 (cond y427 7 0)))))))))))
 .ret (.inl (.h6 y404 y428 y428 [193] [211])))) (
 let y429 := (ieq x.1 16)
 let y430 := (ieq x.1 17)
 let y431 := (ieq x.1 18)
 let y432 : Int := (cond y69 0 (cond y129 1 (cond y185 2 (cond y237 3 (cond y285 4 (cond y329 6 (cond y369 0 (cond y403 1 (cond y429 4 (cond y430 5 (cond y431 7 0)))))))))))
 .ret (.inl (.h6 y404 y432 y432 [193] [211])))) (
 let y433 := (ieq x.1 16)
 .ite y433 (
 .need ((0 : Nat) < 1) <|
 .need ((0 : Nat) < 1) <|
 .need ((0 : Nat) < 2) <|
 .need ((1 : Nat) < 2) <|
 .need ((0 : Int) ≤ 0) <|
 .need (0 < (1 : Int)) <|
 .need ((0 : Int) ≤ 0) <|
 .need (0 < (2 : Int)) <|
 .need (((0 : Nat) + 2 : Nat) ≤ 2) <|
 let y434 : (List Int) := [4, 8]
 let y435 := x.2.2
 let y436 := y435.1
 let y437 : ((List Int) × Int) := (y434, y436)
 .need (pre51 y437) <|
 let y438 := ((fn51 y437) == true)
 .ite y438 (
 let y439 := y435.2
 let y440 := y439.1
 .need (pre70 y440) <|
 let y441 := ((fn70 y440) == true)
 .ite y441 (
 let y442 := y439.2.1
 .need (pre80 y442) <|
 let y443 := ((fn80 y442) == true)
 .ite y443 (
 .need (((0 : Nat) + 2 : Nat) ≤ 2) <|
 .need (((0 : Nat) + 1 : Nat) ≤ 1) <|
 let y444 : (Int × Unit) := (0, ())
 let y445 : ((List Int) × (Int × Unit)) := (y434, y444)
 let y446 := (ieq x.1 17)
 let y447 := (ieq x.1 18)
 let y448 : Int := (cond y69 0 (cond y129 1 (cond y185 2 (cond y237 3 (cond y285 4 (cond y329 6 (cond y369 0 (cond y403 1 (cond y433 4 (cond y446 5 (cond y447 7 0)))))))))))
 let y449 : (((List Int) × (Int × Unit)) × ((Unit × (Unit × ((List Int) × (Int × (Int × Int))))) × Bool)) := (y445, (((), ((), ([193], (y448, (1, 1))))), true))
 .ret (.inr y449)) (
 let y450 := (ieq x.1 17)
 let y451 := (ieq x.1 18)
 let y452 : Int := (cond y69 0 (cond y129 1 (cond y185 2 (cond y237 3 (cond y285 4 (cond y329 6 (cond y369 0 (cond y403 1 (cond y433 4 (cond y450 5 (cond y451 7 0)))))))))))
 .ret (.inl (.h6 y434 y452 y452 [193] [211])))) (
 let y453 := (ieq x.1 17)
 let y454 := (ieq x.1 18)
 let y455 : Int := (cond y69 0 (cond y129 1 (cond y185 2 (cond y237 3 (cond y285 4 (cond y329 6 (cond y369 0 (cond y403 1 (cond y433 4 (cond y453 5 (cond y454 7 0)))))))))))
 .ret (.inl (.h6 y434 y455 y455 [193] [211])))) (
 let y456 := (ieq x.1 17)
 let y457 := (ieq x.1 18)
 let y458 : Int := (cond y69 0 (cond y129 1 (cond y185 2 (cond y237 3 (cond y285 4 (cond y329 6 (cond y369 0 (cond y403 1 (cond y433 4 (cond y456 5 (cond y457 7 0)))))))))))
 .ret (.inl (.h6 y434 y458 y458 [193] [211])))) (
 let y459 := (ieq x.1 17)
 .ite y459 (
 .need ((0 : Nat) < 1) <|
 .need ((0 : Nat) < 1) <|
 .need ((0 : Nat) < 2) <|
 .need ((1 : Nat) < 2) <|
 .need ((0 : Int) ≤ 0) <|
 .need (0 < (1 : Int)) <|
 .need ((0 : Int) ≤ 0) <|
 .need (0 < (2 : Int)) <|
 .need (((0 : Nat) + 2 : Nat) ≤ 2) <|
 let y460 : (List Int) := [4, 8]
 let y461 := x.2.2
 let y462 := y461.1
 let y463 : ((List Int) × Int) := (y460, y462)
 .need (pre51 y463) <|
 let y464 := ((fn51 y463) == true)
 .ite y464 (
 let y465 := y461.2
 let y466 := y465.1
 .need (pre70 y466) <|
 let y467 := ((fn70 y466) == true)
 .ite y467 (
 let y468 := y465.2.1
 .need (pre80 y468) <|
 let y469 := ((fn80 y468) == true)
 .ite y469 (
 .need (((0 : Nat) + 2 : Nat) ≤ 2) <|
 .need (((0 : Nat) + 1 : Nat) ≤ 1) <|
 let y470 : (Int × Unit) := (0, ())
 let y471 : ((List Int) × (Int × Unit)) := (y460, y470)
 let y472 := (ieq x.1 18)
 let y473 : Int := (cond y69 0 (cond y129 1 (cond y185 2 (cond y237 3 (cond y285 4 (cond y329 6 (cond y369 0 (cond y403 1 (cond y433 4 (cond y459 5 (cond y472 7 0)))))))))))
 let y474 : (((List Int) × (Int × Unit)) × ((Unit × (Unit × ((List Int) × (Int × (Int × Int))))) × Bool)) := (y471, (((), ((), ([193], (y473, (1, 1))))), true))
 .ret (.inr y474)) (
 let y475 := (ieq x.1 18)
 let y476 : Int := (cond y69 0 (cond y129 1 (cond y185 2 (cond y237 3 (cond y285 4 (cond y329 6 (cond y369 0 (cond y403 1 (cond y433 4 (cond y459 5 (cond y475 7 0)))))))))))
 .ret (.inl (.h6 y460 y476 y476 [193] [211])))) (
 let y477 := (ieq x.1 18)
 let y478 : Int := (cond y69 0 (cond y129 1 (cond y185 2 (cond y237 3 (cond y285 4 (cond y329 6 (cond y369 0 (cond y403 1 (cond y433 4 (cond y459 5 (cond y477 7 0)))))))))))
 .ret (.inl (.h6 y460 y478 y478 [193] [211])))) (
 let y479 := (ieq x.1 18)
 let y480 : Int := (cond y69 0 (cond y129 1 (cond y185 2 (cond y237 3 (cond y285 4 (cond y329 6 (cond y369 0 (cond y403 1 (cond y433 4 (cond y459 5 (cond y479 7 0)))))))))))
 .ret (.inl (.h6 y460 y480 y480 [193] [211])))) (
 let y481 := (ieq x.1 18)
 .ite y481 (
 .need ((0 : Nat) < 1) <|
 .need ((0 : Nat) < 1) <|
 .need ((0 : Nat) < 2) <|
 .need ((1 : Nat) < 2) <|
 .need ((0 : Int) ≤ 0) <|
 .need (0 < (1 : Int)) <|
 .need ((0 : Int) ≤ 0) <|
 .need (0 < (2 : Int)) <|
 .need (((0 : Nat) + 2 : Nat) ≤ 2) <|
 let y482 : (List Int) := [4, 8]
 let y483 := x.2.2
 let y484 := y483.1
 let y485 : ((List Int) × Int) := (y482, y484)
 .need (pre51 y485) <|
 let y486 := ((fn51 y485) == true)
 .ite y486 (
 let y487 := y483.2
 let y488 := y487.1
 .need (pre70 y488) <|
 let y489 := ((fn70 y488) == true)
 .ite y489 (
 let y490 := y487.2.1
 .need (pre80 y490) <|
 let y491 := ((fn80 y490) == true)
 .ite y491 (
 .need (((0 : Nat) + 2 : Nat) ≤ 2) <|
 .need (((0 : Nat) + 1 : Nat) ≤ 1) <|
 let y492 : (Int × Unit) := (0, ())
 let y493 : ((List Int) × (Int × Unit)) := (y482, y492)
 let y494 : Int := (cond y69 0 (cond y129 1 (cond y185 2 (cond y237 3 (cond y285 4 (cond y329 6 (cond y369 0 (cond y403 1 (cond y433 4 (cond y459 5 (cond y481 7 0)))))))))))
 let y495 : (((List Int) × (Int × Unit)) × ((Unit × (Unit × ((List Int) × (Int × (Int × Int))))) × Bool)) := (y493, (((), ((), ([193], (y494, (1, 1))))), true))
 .ret (.inr y495)) (
 let y496 : Int := (cond y69 0 (cond y129 1 (cond y185 2 (cond y237 3 (cond y285 4 (cond y329 6 (cond y369 0 (cond y403 1 (cond y433 4 (cond y459 5 (cond y481 7 0)))))))))))
 .ret (.inl (.h6 y482 y496 y496 [193] [211])))) (
 let y497 : Int := (cond y69 0 (cond y129 1 (cond y185 2 (cond y237 3 (cond y285 4 (cond y329 6 (cond y369 0 (cond y403 1 (cond y433 4 (cond y459 5 (cond y481 7 0)))))))))))
 .ret (.inl (.h6 y482 y497 y497 [193] [211])))) (
 let y498 : Int := (cond y69 0 (cond y129 1 (cond y185 2 (cond y237 3 (cond y285 4 (cond y329 6 (cond y369 0 (cond y403 1 (cond y433 4 (cond y459 5 (cond y481 7 0)))))))))))
 .ret (.inl (.h6 y482 y498 y498 [193] [211])))) (
 .ite (ieq x.1 21) (
 .need ((0 : Nat) < 2) <|
 .need ((1 : Nat) < 2) <|
 .need ((0 : Nat) < 2) <|
 .need ((1 : Nat) < 2) <|
 .need ((0 : Int) ≤ 0) <|
 .need (0 < (1 : Int)) <|
 .need ((0 : Int) ≤ 0) <|
 .need (0 < (1 : Int)) <|
 .need (((0 : Nat) + 2 : Nat) ≤ 2) <|
 let y499 : (List Int) := [4, 8]
 let y500 := x.2.2
 let y501 := y500.1
 let y502 : ((List Int) × Int) := (y499, y501)
 .need (pre51 y502) <|
 let y503 := ((fn51 y502) == true)
 .ite y503 (
 let y504 := y500.2
 let y505 := y504.1
 .need (pre71 y505) <|
 let y506 := ((fn71 y505) == true)
 .ite y506 (
 let y507 := y504.2.1
 .need (pre70 y507) <|
 let y508 := ((fn70 y507) == true)
 .ite y508 (
 .need (((0 : Nat) + 2 : Nat) ≤ 2) <|
 .need (((0 : Nat) + 2 : Nat) ≤ 2) <|
 let y509 : (Int × Unit) := (0, ())
 let y510 : ((List Int) × (Int × Unit)) := (y499, y509)
 let y511 : (List Int) := [15, 175]
 let y512 : (Int × (Int × Int)) := ((-1), (2, 0))
 .ret (.inr (y510, (((), ((), (y511, y512))), true)))) (
 let y513 : (List Int) := [15, 175]
 .ret (.inl (.h7 y499 y513)))) (
 let y514 : (List Int) := [15, 175]
 .ret (.inl (.h7 y499 y514)))) (
 let y515 : (List Int) := [15, 175]
 .ret (.inl (.h7 y499 y515)))) (
 .ite (ieq x.1 30) (
 .need ((0 : Nat) < 2) <|
 .need ((1 : Nat) < 2) <|
 .need ((0 : Nat) < 2) <|
 .need ((1 : Nat) < 2) <|
 .need ((0 : Int) ≤ 0) <|
 .need (0 < (1 : Int)) <|
 .need ((0 : Int) ≤ 0) <|
 .need (0 < (1 : Int)) <|
 .need (((0 : Nat) + 2 : Nat) ≤ 2) <|
 let y516 : (List Int) := [4, 8]
 let y517 := x.2.2
 let y518 := y517.1
 let y519 : ((List Int) × Int) := (y516, y518)
 .need (pre51 y519) <|
 let y520 := ((fn51 y519) == true)
 .ite y520 (
 let y521 := y517.2
 let y522 := y521.1
 .need (pre71 y522) <|
 let y523 := ((fn71 y522) == true)
 .ite y523 (
 let y524 := y521.2.1
 .need (pre70 y524) <|
 let y525 := ((fn70 y524) == true)
 .ite y525 (
 .need (((0 : Nat) + 2 : Nat) ≤ 2) <|
 .need (((0 : Nat) + 2 : Nat) ≤ 2) <|
 let y526 : (Int × Unit) := (0, ())
 let y527 : ((List Int) × (Int × Unit)) := (y516, y526)
 let y528 : Int := (iand .u8 x.2.1 15)
 let y529 : (List Int) := [15, (iadd .u8 64 y528)]
 let y530 : (Int × (Int × Int)) := ((-1), (2, 0))
 .ret (.inr (y527, (((), ((), (y529, y530))), true)))) (
 let y531 : Int := (iand .u8 x.2.1 15)
 let y532 : (List Int) := [15, (iadd .u8 64 y531)]
 .ret (.inl (.h7 y516 y532)))) (
 let y533 : Int := (iand .u8 x.2.1 15)
 let y534 : (List Int) := [15, (iadd .u8 64 y533)]
 .ret (.inl (.h7 y516 y534)))) (
 let y535 : Int := (iand .u8 x.2.1 15)
 let y536 : (List Int) := [15, (iadd .u8 64 y535)]
 .ret (.inl (.h7 y516 y536)))) (
 .ite (ieq x.1 31) (
 .need ((0 : Nat) < 1) <|
 .need ((0 : Nat) < 2) <|
 .need ((1 : Nat) < 2) <|
 .need ((0 : Int) ≤ 0) <|
 .need (0 < (1 : Int)) <|
 .need ((0 : Int) ≤ 0) <|
 .need (0 < (1 : Int)) <|
 .need (((0 : Nat) + 1 : Nat) ≤ 1) <|
 let y537 := x.2.2
 let y538 := y537.1
 let y539 : ((List Int) × Int) := ([1], y538)
 .need (pre51 y539) <|
 let y540 := ((fn51 y539) == true)
 .ite y540 (
 let y541 := y537.2
 let y542 := y541.1
 .need (pre70 y542) <|
 let y543 := ((fn70 y542) == true)
 .ite y543 (
 let y544 := y541.2.1
 .need (pre95 y544) <|
 let y545 := ((fn95 y544) == true)
 .ite y545 (
 .need (((0 : Nat) + 1 : Nat) ≤ 1) <|
 .need (((0 : Nat) + 2 : Nat) ≤ 2) <|
 let y546 : (Int × Unit) := (0, ())
 let y547 : ((List Int) × (Int × Unit)) := ([1], y546)
 let y548 : Int := (iand .u8 x.2.1 15)
 let y549 : (List Int) := [15, (iadd .u8 144 y548)]
 let y550 : (Int × Int) := (1, 0)
 .ret (.inr (y547, (((), ((), (y549, (0, y550)))), true)))) (
 let y551 : Int := (iand .u8 x.2.1 15)
 let y552 : (List Int) := [15, (iadd .u8 144 y551)]
 .ret (.inl (.h8 [1] y552)))) (
 let y553 : Int := (iand .u8 x.2.1 15)
 let y554 : (List Int) := [15, (iadd .u8 144 y553)]
 .ret (.inl (.h8 [1] y554)))) (
 let y555 : Int := (iand .u8 x.2.1 15)
 let y556 : (List Int) := [15, (iadd .u8 144 y555)]
 .ret (.inl (.h8 [1] y556)))) (
 .ite (ieq x.1 32) (
 .need ((0 : Nat) < 2) <|
 .need ((1 : Nat) < 2) <|
 .need ((0 : Nat) < 2) <|
 .need ((1 : Nat) < 2) <|
 .need ((0 : Int) ≤ 0) <|
 .need (0 < (1 : Int)) <|
 .need ((0 : Int) ≤ 0) <|
 .need (0 < (1 : Int)) <|
 .need (((0 : Nat) + 2 : Nat) ≤ 2) <|
 let y557 : (List Int) := [4, 8]
 let y558 := x.2.2
 let y559 := y558.1
 let y560 : ((List Int) × Int) := (y557, y559)
 .need (pre51 y560) <|
 let y561 := ((fn51 y560) == true)
 .ite y561 (
 let y562 := y558.2
 let y563 := y562.1
 .need (pre71 y563) <|
 let y564 := ((fn71 y563) == true)
 .ite y564 (
 let y565 := y562.2.1
 .need (pre70 y565) <|
 let y566 := ((fn70 y565) == true)
 .ite y566 (
 .need (((0 : Nat) + 2 : Nat) ≤ 2) <|
 .need (((0 : Nat) + 2 : Nat) ≤ 2) <|
 let y567 : (Int × Unit) := (0, ())
 let y568 : ((List Int) × (Int × Unit)) := (y557, y567)
 let y569 : (List Int) := [15, 182]
 let y570 : (Int × (Int × Int)) := ((-1), (2, 0))
 .ret (.inr (y568, (((), ((), (y569, y570))), true)))) (
 let y571 : (List Int) := [15, 182]
 .ret (.inl (.h7 y557 y571)))) (
 let y572 : (List Int) := [15, 182]
 .ret (.inl (.h7 y557 y572)))) (
 let y573 : (List Int) := [15, 182]
 .ret (.inl (.h7 y557 y573)))) (
 .ite (ieq x.1 33) (
 .need ((0 : Nat) < 2) <|
 .need ((1 : Nat) < 2) <|
 .need ((0 : Nat) < 2) <|
 .need ((1 : Nat) < 2) <|
 .need ((0 : Int) ≤ 0) <|
 .need (0 < (1 : Int)) <|
 .need ((0 : Int) ≤ 0) <|
 .need (0 < (1 : Int)) <|
 .need (((0 : Nat) + 2 : Nat) ≤ 2) <|
 let y574 : (List Int) := [4, 8]
 let y575 := x.2.2
 let y576 := y575.1
 let y577 : ((List Int) × Int) := (y574, y576)
 .need (pre51 y577) <|
 let y578 := ((fn51 y577) == true)
 .ite y578 (
 let y579 := y575.2
 let y580 := y579.1
 .need (pre71 y580) <|
 let y581 := ((fn71 y580) == true)
 .ite y581 (
 let y582 := y579.2.1
 .need (pre70 y582) <|
 let y583 := ((fn70 y582) == true)
 .ite y583 (
 .need (((0 : Nat) + 2 : Nat) ≤ 2) <|
 .need (((0 : Nat) + 2 : Nat) ≤ 2) <|
 let y584 : (Int × Unit) := (0, ())
 let y585 : ((List Int) × (Int × Unit)) := (y574, y584)
 let y586 : (List Int) := [15, 190]
 let y587 : (Int × (Int × Int)) := ((-1), (2, 0))
 .ret (.inr (y585, (((), ((), (y586, y587))), true)))) (
 let y588 : (List Int) := [15, 190]
 .ret (.inl (.h7 y574 y588)))) (
 let y589 : (List Int) := [15, 190]
 .ret (.inl (.h7 y574 y589)))) (
 let y590 : (List Int) := [15, 190]
 .ret (.inl (.h7 y574 y590)))) (
 .ite (ieq x.1 35) (
 .need ((0 : Nat) < 2) <|
 .need ((1 : Nat) < 2) <|
 .need ((0 : Nat) < 2) <|
 .need ((1 : Nat) < 2) <|
 .need ((0 : Nat) < 1) <|
 .need ((0 : Int) ≤ 0) <|
 .need (0 < (1 : Int)) <|
 .need ((0 : Int) ≤ 0) <|
 .need (0 < (2 : Int)) <|
 .need (((0 : Nat) + 1 : Nat) ≤ 1) <|
 let y591 := x.2.2
 let y592 := y591.1
 let y593 : ((List Int) × Int) := ([16], y592)
 .need (pre51 y593) <|
 let y594 := ((fn51 y593) == true)
 .ite y594 (
 let y595 := y591.2
 let y596 := y595.1
 .need (pre77 y596) <|
 let y597 := ((fn77 y596) == true)
 .ite y597 (
 let y598 := y595.2.1
 .need (pre78 y598) <|
 let y599 := ((fn78 y598) == true)
 .ite y599 (
 .need (((0 : Nat) + 1 : Nat) ≤ 1) <|
 .need (((0 : Nat) + 2 : Nat) ≤ 2) <|
 let y600 : (List Int) := [15, 111]
 let y601 : (Int × (Int × Int)) := ((-1), (2, 0))
 .ret (.inr (([16], (243, ())), (((), ((), (y600, y601))), true)))) (
 let y602 : (List Int) := [15, 111]
 let y603 : (List Int) := [15, 127]
 .ret (.inl (.h9 [16] y602 y603)))) (
 let y604 : (List Int) := [15, 111]
 let y605 : (List Int) := [15, 127]
 .ret (.inl (.h9 [16] y604 y605)))) (
 let y606 : (List Int) := [15, 111]
 let y607 : (List Int) := [15, 127]
 .ret (.inl (.h9 [16] y606 y607)))) (
 .ite (ieq x.1 36) (
 .need ((0 : Nat) < 2) <|
 .need ((1 : Nat) < 2) <|
 .need ((0 : Nat) < 1) <|
 .need ((0 : Int) ≤ 0) <|
 .need (0 < (1 : Int)) <|
 .need ((0 : Int) ≤ 0) <|
 .need (0 < (1 : Int)) <|
 .need (((0 : Nat) + 1 : Nat) ≤ 1) <|
 let y608 := x.2.2
 let y609 := y608.1
 let y610 : ((List Int) × Int) := ([16], y609)
 .need (pre51 y610) <|
 let y611 := ((fn51 y610) == true)
 .ite y611 (
 let y612 := y608.2
 let y613 := y612.1
 .need (pre77 y613) <|
 let y614 := ((fn77 y613) == true)
 .ite y614 (
 let y615 := y612.2.1
 .need (pre78 y615) <|
 let y616 := ((fn78 y615) == true)
 .ite y616 (
 .need (((0 : Nat) + 1 : Nat) ≤ 1) <|
 .need (((0 : Nat) + 2 : Nat) ≤ 2) <|
 let y617 : ((List Int) × (Int × Unit)) := ([16], (102, ()))
 let y618 : (List Int) := [15, 239]
 let y619 : (Int × (Int × Int)) := ((-1), (2, 0))
 .ret (.inr (y617, (((), ((), (y618, y619))), true)))) (
 let y620 : (List Int) := [15, 239]
 .ret (.inl (.h10 [16] y620)))) (
 let y621 : (List Int) := [15, 239]
 .ret (.inl (.h10 [16] y621)))) (
 let y622 : (List Int) := [15, 239]
 .ret (.inl (.h10 [16] y622)))) (
 .ite (ieq x.1 37) (
 .need ((0 : Nat) < 3) <|
 .need ((1 : Nat) < 3) <|
 .need ((2 : Nat) < 3) <|
 .need ((0 : Nat) < 1) <|
 .need ((0 : Int) ≤ 0) <|
 .need (0 < (1 : Int)) <|
 .need ((0 : Int) ≤ 0) <|
 .need (0 < (1 : Int)) <|
 .need (((0 : Nat) + 1 : Nat) ≤ 1) <|
 let y623 := x.2.2
 let y624 := y623.1
 let y625 : ((List Int) × Int) := ([16], y624)
 .need (pre51 y625) <|
 let y626 := ((fn51 y625) == true)
 .ite y626 (
 let y627 := y623.2
 let y628 := y627.1
 .need (pre77 y628) <|
 let y629 := ((fn77 y628) == true)
 .ite y629 (
 let y630 := y627.2.1
 .need (pre78 y630) <|
 let y631 := ((fn78 y630) == true)
 .ite y631 (
 .need (((0 : Nat) + 1 : Nat) ≤ 1) <|
 .need (((0 : Nat) + 3 : Nat) ≤ 3) <|
 let y632 : ((List Int) × (Int × Unit)) := ([16], (102, ()))
 let y633 : (List Int) := [15, 56, 220]
 let y634 : (Int × (Int × Int)) := ((-1), (2, 0))
 .ret (.inr (y632, (((), ((), (y633, y634))), true)))) (
 let y635 : (List Int) := [15, 56, 220]
 .ret (.inl (.h11 [16] 0 y635)))) (
 let y636 : (List Int) := [15, 56, 220]
 .ret (.inl (.h11 [16] 0 y636)))) (
 let y637 : (List Int) := [15, 56, 220]
 .ret (.inl (.h11 [16] 0 y637)))) (
 .ite (ieq x.1 38) (
 .need ((0 : Nat) < 3) <|
 .need ((1 : Nat) < 3) <|
 .need ((2 : Nat) < 3) <|
 .need ((0 : Nat) < 1) <|
 .need ((0 : Int) ≤ 0) <|
 .need (0 < (1 : Int)) <|
 .need ((0 : Int) ≤ 0) <|
 .need (0 < (1 : Int)) <|
 .need (((0 : Nat) + 1 : Nat) ≤ 1) <|
 let y638 := x.2.2
 let y639 := y638.1
 let y640 : ((List Int) × Int) := ([16], y639)
 .need (pre51 y640) <|
 let y641 := ((fn51 y640) == true)
 .ite y641 (
 let y642 := y638.2
 let y643 := y642.1
 .need (pre77 y643) <|
 let y644 := ((fn77 y643) == true)
 .ite y644 (
 let y645 := y642.2.1
 .need (pre78 y645) <|
 let y646 := ((fn78 y645) == true)
 .ite y646 (
 .need (((0 : Nat) + 1 : Nat) ≤ 1) <|
 .need (((0 : Nat) + 3 : Nat) ≤ 3) <|
 let y647 : ((List Int) × (Int × Unit)) := ([16], (102, ()))
 let y648 : (List Int) := [15, 56, 221]
 let y649 : (Int × (Int × Int)) := ((-1), (2, 0))
 .ret (.inr (y647, (((), ((), (y648, y649))), true)))) (
 let y650 : (List Int) := [15, 56, 221]
 .ret (.inl (.h11 [16] 0 y650)))) (
 let y651 : (List Int) := [15, 56, 221]
 .ret (.inl (.h11 [16] 0 y651)))) (
 let y652 : (List Int) := [15, 56, 221]
 .ret (.inl (.h11 [16] 0 y652)))) (
 .ite (ieq x.1 39) (
 .need ((0 : Nat) < 3) <|
 .need ((1 : Nat) < 3) <|
 .need ((2 : Nat) < 3) <|
 .need ((0 : Nat) < 1) <|
 .need ((0 : Int) ≤ 0) <|
 .need (0 < (1 : Int)) <|
 .need ((0 : Int) ≤ 0) <|
 .need (0 < (1 : Int)) <|
 .need (((0 : Nat) + 1 : Nat) ≤ 1) <|
 let y653 := x.2.2
 let y654 := y653.1
 let y655 : ((List Int) × Int) := ([16], y654)
 .need (pre51 y655) <|
 let y656 := ((fn51 y655) == true)
 .ite y656 (
 let y657 := y653.2
 let y658 := y657.1
 .need (pre77 y658) <|
 let y659 := ((fn77 y658) == true)
 .ite y659 (
 let y660 := y657.2.1
 .need (pre78 y660) <|
 let y661 := ((fn78 y660) == true)
 .ite y661 (
 .need (((0 : Nat) + 1 : Nat) ≤ 1) <|
 .need (((0 : Nat) + 3 : Nat) ≤ 3) <|
 let y662 : ((List Int) × (Int × Unit)) := ([16], (102, ()))
 let y663 : (List Int) := [15, 58, 68]
 .ret (.inr (y662, (((), ((), (y663, ((-1), (2, 1))))), true)))) (
 let y664 : (List Int) := [15, 58, 68]
 .ret (.inl (.h11 [16] 1 y664)))) (
 let y665 : (List Int) := [15, 58, 68]
 .ret (.inl (.h11 [16] 1 y665)))) (
 let y666 : (List Int) := [15, 58, 68]
 .ret (.inl (.h11 [16] 1 y666)))) (
 let y667 := (ieq x.1 26)
 .ite (y667 == false) (
 let y668 := (ieq x.1 28)
 .ite (y668 == false) (
 let y669 := (ieq x.1 29)
 .ite (y669 == false) (
 let y670 := (ieq x.1 27)
 .ite (y670 == false) (
 let y671 := (ieq x.1 34)
 .ite (y671 == false) (
 let y672 := (ieq x.1 24)
 .ite (y672 == false) (
 .ite (ieq x.1 25) (
 .ite y667 (
 .need ((0 : Nat) < 1) <|
 .need ((0 : Nat) < 2) <|
 .need ((1 : Nat) < 2) <|
 .need ((0 : Int) ≤ 0) <|
 .need (0 < (1 : Int)) <|
 .need ((0 : Int) ≤ 0) <|
 .need (0 < (1 : Int)) <|
 .need (((0 : Nat) + 2 : Nat) ≤ 2) <|
 let y673 : (List Int) := [8, 8]
 let y674 := x.2.2
 let y675 := y674.1
 let y676 : ((List Int) × Int) := (y673, y675)
 .need (pre51 y676) <|
 let y677 := ((fn51 y676) == true)
 .ite y677 (
 let y678 := y674.2
 let y679 := y678.1
 .need (pre95 y679) <|
 let y680 := ((fn95 y679) == true)
 .ite y680 (
 let y681 := y678.2.1
 .need (pre74 y681) <|
 let y682 := ((fn74 y681) == true)
 .ite y682 (
 .need (((0 : Nat) + 2 : Nat) ≤ 2) <|
 .need (((0 : Nat) + 1 : Nat) ≤ 1) <|
 let y683 : (Int × Unit) := (0, ())
 let y684 : ((List Int) × (Int × Unit)) := (y673, y683)
 let y685 : (Int × (Int × Int)) := (0, (0, 4))
 let y686 : (((List Int) × (Int × Unit)) × ((Unit × (Unit × ((List Int) × (Int × (Int × Int))))) × Bool)) := (y684, (((), ((), ([232], y685))), true))
 .ret (.inr y686)) (
 .ret (.inl (.h12 y673 [232])))) (
 .ret (.inl (.h12 y673 [232])))) (
 .ret (.inl (.h12 y673 [232])))) (
 .ite y668 (
 .need ((0 : Nat) < 1) <|
 .need ((0 : Nat) < 1) <|
 .need ((0 : Nat) < 2) <|
 .need ((1 : Nat) < 2) <|
 .need ((0 : Int) ≤ 0) <|
 .need (0 < (1 : Int)) <|
 .need ((0 : Int) ≤ 0) <|
 .need (0 < (2 : Int)) <|
 .need (((0 : Nat) + 2 : Nat) ≤ 2) <|
 let y687 : (List Int) := [8, 8]
 let y688 := x.2.2
 let y689 := y688.1
 let y690 : ((List Int) × Int) := (y687, y689)
 .need (pre51 y690) <|
 let y691 := ((fn51 y690) == true)
 .ite y691 (
 let y692 := y688.2
 let y693 := y692.1
 .need (pre95 y693) <|
 let y694 := ((fn95 y693) == true)
 .ite y694 (
 let y695 := y692.2.1
 .need (pre74 y695) <|
 let y696 := ((fn74 y695) == true)
 .ite y696 (
 .need (((0 : Nat) + 2 : Nat) ≤ 2) <|
 .need (((0 : Nat) + 1 : Nat) ≤ 1) <|
 let y697 : (Int × Unit) := (0, ())
 let y698 : ((List Int) × (Int × Unit)) := (y687, y697)
 let y699 : (Int × (Int × Int)) := (0, (0, 4))
 let y700 : (((List Int) × (Int × Unit)) × ((Unit × (Unit × ((List Int) × (Int × (Int × Int))))) × Bool)) := (y698, (((), ((), ([233], y699))), true))
 .ret (.inr y700)) (
 .ret (.inl (.h13 y687 [233] [255])))) (
 .ret (.inl (.h13 y687 [233] [255])))) (
 .ret (.inl (.h13 y687 [233] [255])))) (
 .ite y669 (
 .need ((0 : Nat) < 2) <|
 .need ((1 : Nat) < 2) <|
 .need ((0 : Nat) < 2) <|
 .need ((1 : Nat) < 2) <|
 .need ((0 : Int) ≤ 0) <|
 .need (0 < (1 : Int)) <|
 .need ((0 : Int) ≤ 0) <|
 .need (0 < (1 : Int)) <|
 .need (((0 : Nat) + 2 : Nat) ≤ 2) <|
 let y701 : (List Int) := [8, 8]
 let y702 := x.2.2
 let y703 := y702.1
 let y704 : ((List Int) × Int) := (y701, y703)
 .need (pre51 y704) <|
 let y705 := ((fn51 y704) == true)
 .ite y705 (
 let y706 := y702.2
 let y707 := y706.1
 .need (pre95 y707) <|
 let y708 := ((fn95 y707) == true)
 .ite y708 (
 let y709 := y706.2.1
 .need (pre74 y709) <|
 let y710 := ((fn74 y709) == true)
 .ite y710 (
 .need (((0 : Nat) + 2 : Nat) ≤ 2) <|
 .need (((0 : Nat) + 2 : Nat) ≤ 2) <|
 let y711 : (Int × Unit) := (0, ())
 let y712 : ((List Int) × (Int × Unit)) := (y701, y711)
 let y713 : Int := (iand .u8 x.2.1 15)
 let y714 : (List Int) := [15, (iadd .u8 128 y713)]
 let y715 : (Int × (Int × Int)) := (0, (0, 4))
 let y716 : (((List Int) × (Int × Unit)) × ((Unit × (Unit × ((List Int) × (Int × (Int × Int))))) × Bool)) := (y712, (((), ((), (y714, y715))), true))
 .ret (.inr y716)) (
 let y717 : Int := (iand .u8 x.2.1 15)
 let y718 : (List Int) := [15, (iadd .u8 128 y717)]
 .ret (.inl (.h14 y701 y718)))) (
 let y719 : Int := (iand .u8 x.2.1 15)
 let y720 : (List Int) := [15, (iadd .u8 128 y719)]
 .ret (.inl (.h14 y701 y720)))) (
 let y721 : Int := (iand .u8 x.2.1 15)
 let y722 : (List Int) := [15, (iadd .u8 128 y721)]
 .ret (.inl (.h14 y701 y722)))) (
 .ite y670 (
 .need ((0 : Nat) < 1) <|
 .need ((0 : Nat) < 2) <|
 .need ((1 : Nat) < 2) <|
 .need ((0 : Int) ≤ 0) <|
 .need (0 < (1 : Int)) <|
 .need ((0 : Int) ≤ 0) <|
 .need (0 < (1 : Int)) <|
 .need (((0 : Nat) + 2 : Nat) ≤ 2) <|
 let y723 : (List Int) := [8, 8]
 let y724 := x.2.2
 let y725 := y724.1
 let y726 : ((List Int) × Int) := (y723, y725)
 .need (pre51 y726) <|
 let y727 := ((fn51 y726) == true)
 .ite y727 (
 let y728 := y724.2
 let y729 := y728.1
 .need (pre95 y729) <|
 let y730 := ((fn95 y729) == true)
 .ite y730 (
 let y731 := y728.2.1
 .need (pre95 y731) <|
 let y732 := ((fn95 y731) == true)
 .ite y732 (
 .need (((0 : Nat) + 2 : Nat) ≤ 2) <|
 .need (((0 : Nat) + 1 : Nat) ≤ 1) <|
 let y733 : (Int × Unit) := (0, ())
 let y734 : ((List Int) × (Int × Unit)) := (y723, y733)
 let y735 : (Int × (Int × Int)) := (0, (0, 0))
 let y736 : (((List Int) × (Int × Unit)) × ((Unit × (Unit × ((List Int) × (Int × (Int × Int))))) × Bool)) := (y734, (((), ((), ([195], y735))), true))
 .ret (.inr y736)) (
 .ret (.inl (.h15 y723 [195])))) (
 .ret (.inl (.h15 y723 [195])))) (
 .ret (.inl (.h15 y723 [195])))) (
 .ite y671 (
 .need ((0 : Nat) < 1) <|
 .need ((0 : Nat) < 2) <|
 .need ((1 : Nat) < 2) <|
 .need ((0 : Int) ≤ 0) <|
 .need (0 < (1 : Int)) <|
 .need ((0 : Int) ≤ 0) <|
 .need (0 < (1 : Int)) <|
 .need (((0 : Nat) + 2 : Nat) ≤ 2) <|
 let y737 : (List Int) := [8, 8]
 let y738 := x.2.2
 let y739 := y738.1
 let y740 : ((List Int) × Int) := (y737, y739)
 .need (pre51 y740) <|
 let y741 := ((fn51 y740) == true)
 .ite y741 (
 let y742 := y738.2
 let y743 := y742.1
 .need (pre95 y743) <|
 let y744 := ((fn95 y743) == true)
 .ite y744 (
 let y745 := y742.2.1
 .need (pre95 y745) <|
 let y746 := ((fn95 y745) == true)
 .ite y746 (
 .need (((0 : Nat) + 2 : Nat) ≤ 2) <|
 .need (((0 : Nat) + 1 : Nat) ≤ 1) <|
 let y747 : (Int × Unit) := (0, ())
 let y748 : ((List Int) × (Int × Unit)) := (y737, y747)
 let y749 : (Int × (Int × Int)) := (0, (0, 0))
 let y750 : (((List Int) × (Int × Unit)) × ((Unit × (Unit × ((List Int) × (Int × (Int × Int))))) × Bool)) := (y748, (((), ((), ([144], y749))), true))
 .ret (.inr y750)) (
 .ret (.inl (.h15 y737 [144])))) (
 .ret (.inl (.h15 y737 [144])))) (
 .ret (.inl (.h15 y737 [144])))) (
 .ite y672 (
 .need ((0 : Nat) < 1) <|
 .need ((0 : Nat) < 2) <|
 .need ((1 : Nat) < 2) <|
 .need ((0 : Int) ≤ 0) <|
 .need (0 < (1 : Int)) <|
 .need ((0 : Int) ≤ 0) <|
 .need (0 < (1 : Int)) <|
 .need (((0 : Nat) + 2 : Nat) ≤ 2) <|
 let y751 : (List Int) := [8, 8]
 let y752 := x.2.2
 let y753 := y752.1
 let y754 : ((List Int) × Int) := (y751, y753)
 .need (pre51 y754) <|
 let y755 := ((fn51 y754) == true)
 .ite y755 (
 let y756 := y752.2
 let y757 := y756.1
 .need (pre71 y757) <|
 let y758 := ((fn71 y757) == true)
 .ite y758 (
 let y759 := y756.2.1
 .need (pre95 y759) <|
 let y760 := ((fn95 y759) == true)
 .ite y760 (
 .need (((0 : Nat) + 2 : Nat) ≤ 2) <|
 .need (((0 : Nat) + 1 : Nat) ≤ 1) <|
 let y761 : (Int × Unit) := (0, ())
 let y762 : ((List Int) × (Int × Unit)) := (y751, y761)
 let y763 : (Int × (Int × Int)) := (0, (3, 0))
 let y764 : (((List Int) × (Int × Unit)) × ((Unit × (Unit × ((List Int) × (Int × (Int × Int))))) × Bool)) := (y762, (((), ((), ([80], y763))), true))
 .ret (.inr y764)) (
 .ret (.inl (.h16 y751 [80])))) (
 .ret (.inl (.h16 y751 [80])))) (
 .ret (.inl (.h16 y751 [80])))) (
 .need ((0 : Nat) < 1) <|
 .need ((0 : Nat) < 2) <|
 .need ((1 : Nat) < 2) <|
 .need ((0 : Int) ≤ 0) <|
 .need (0 < (1 : Int)) <|
 .need ((0 : Int) ≤ 0) <|
 .need (0 < (1 : Int)) <|
 .need (((0 : Nat) + 2 : Nat) ≤ 2) <|
 let y765 : (List Int) := [8, 8]
 let y766 := x.2.2
 let y767 := y766.1
 let y768 : ((List Int) × Int) := (y765, y767)
 .need (pre51 y768) <|
 let y769 := ((fn51 y768) == true)
 .ite y769 (
 let y770 := y766.2
 let y771 := y770.1
 .need (pre71 y771) <|
 let y772 := ((fn71 y771) == true)
 .ite y772 (
 let y773 := y770.2.1
 .need (pre95 y773) <|
 let y774 := ((fn95 y773) == true)
 .ite y774 (
 .need (((0 : Nat) + 2 : Nat) ≤ 2) <|
 .need (((0 : Nat) + 1 : Nat) ≤ 1) <|
 let y775 : (Int × Unit) := (0, ())
 let y776 : ((List Int) × (Int × Unit)) := (y765, y775)
 let y777 : (Int × (Int × Int)) := (0, (3, 0))
 let y778 : (((List Int) × (Int × Unit)) × ((Unit × (Unit × ((List Int) × (Int × (Int × Int))))) × Bool)) := (y776, (((), ((), ([88], y777))), true))
 .ret (.inr y778)) (
 .ret (.inl (.h16 y765 [88])))) (
 .ret (.inl (.h16 y765 [88])))) (
 .ret (.inl (.h16 y765 [88])))))))))) (
 .ret (.inl (.h17)))) (
 .ite y667 (
 .need ((0 : Nat) < 1) <|
 .need ((0 : Nat) < 2) <|
 .need ((1 : Nat) < 2) <|
 .need ((0 : Int) ≤ 0) <|
 .need (0 < (1 : Int)) <|
 .need ((0 : Int) ≤ 0) <|
 .need (0 < (1 : Int)) <|
 .need (((0 : Nat) + 2 : Nat) ≤ 2) <|
 let y779 : (List Int) := [8, 8]
 let y780 := x.2.2
 let y781 := y780.1
 let y782 : ((List Int) × Int) := (y779, y781)
 .need (pre51 y782) <|
 let y783 := ((fn51 y782) == true)
 .ite y783 (
 let y784 := y780.2
 let y785 := y784.1
 .need (pre95 y785) <|
 let y786 := ((fn95 y785) == true)
 .ite y786 (
 let y787 := y784.2.1
 .need (pre74 y787) <|
 let y788 := ((fn74 y787) == true)
 .ite y788 (
 .need (((0 : Nat) + 2 : Nat) ≤ 2) <|
 .need (((0 : Nat) + 1 : Nat) ≤ 1) <|
 let y789 : (Int × Unit) := (0, ())
 let y790 : ((List Int) × (Int × Unit)) := (y779, y789)
 let y791 : (Int × (Int × Int)) := (0, (0, 4))
 let y792 : (((List Int) × (Int × Unit)) × ((Unit × (Unit × ((List Int) × (Int × (Int × Int))))) × Bool)) := (y790, (((), ((), ([232], y791))), true))
 .ret (.inr y792)) (
 .ret (.inl (.h12 y779 [232])))) (
 .ret (.inl (.h12 y779 [232])))) (
 .ret (.inl (.h12 y779 [232])))) (
 .ite y668 (
 .need ((0 : Nat) < 1) <|
 .need ((0 : Nat) < 1) <|
 .need ((0 : Nat) < 2) <|
 .need ((1 : Nat) < 2) <|
 .need ((0 : Int) ≤ 0) <|
 .need (0 < (1 : Int)) <|
 .need ((0 : Int) ≤ 0) <|
 .need (0 < (2 : Int)) <|
 .need (((0 : Nat) + 2 : Nat) ≤ 2) <|
 let y793 : (List Int) := [8, 8]
 let y794 := x.2.2
 let y795 := y794.1
 let y796 : ((List Int) × Int) := (y793, y795)
 .need (pre51 y796) <|
 let y797 := ((fn51 y796) == true)
 .ite y797 (
 let y798 := y794.2
 let y799 := y798.1
 .need (pre95 y799) <|
 let y800 := ((fn95 y799) == true)
 .ite y800 (
 let y801 := y798.2.1
 .need (pre74 y801) <|
 let y802 := ((fn74 y801) == true)
 .ite y802 (
 .need (((0 : Nat) + 2 : Nat) ≤ 2) <|
 .need (((0 : Nat) + 1 : Nat) ≤ 1) <|
 let y803 : (Int × Unit) := (0, ())
 let y804 : ((List Int) × (Int × Unit)) := (y793, y803)
 let y805 : (Int × (Int × Int)) := (0, (0, 4))
 let y806 : (((List Int) × (Int × Unit)) × ((Unit × (Unit × ((List Int) × (Int × (Int × Int))))) × Bool)) := (y804, (((), ((), ([233], y805))), true))
 .ret (.inr y806)) (
 .ret (.inl (.h13 y793 [233] [255])))) (
 .ret (.inl (.h13 y793 [233] [255])))) (
 .ret (.inl (.h13 y793 [233] [255])))) (
 .ite y669 (
 .need ((0 : Nat) < 2) <|
 .need ((1 : Nat) < 2) <|
 .need ((0 : Nat) < 2) <|
 .need ((1 : Nat) < 2) <|
 .need ((0 : Int) ≤ 0) <|
 .need (0 < (1 : Int)) <|
 .need ((0 : Int) ≤ 0) <|
 .need (0 < (1 : Int)) <|
 .need (((0 : Nat) + 2 : Nat) ≤ 2) <|
 let y807 : (List Int) := [8, 8]
 let y808 := x.2.2
 let y809 := y808.1
 let y810 : ((List Int) × Int) := (y807, y809)
 .need (pre51 y810) <|
 let y811 := ((fn51 y810) == true)
 .ite y811 (
 let y812 := y808.2
 let y813 := y812.1
 .need (pre95 y813) <|
 let y814 := ((fn95 y813) == true)
 .ite y814 (
 let y815 := y812.2.1
 .need (pre74 y815) <|
 let y816 := ((fn74 y815) == true)
 .ite y816 (
 .need (((0 : Nat) + 2 : Nat) ≤ 2) <|
 .need (((0 : Nat) + 2 : Nat) ≤ 2) <|
 let y817 : (Int × Unit) := (0, ())
 let y818 : ((List Int) × (Int × Unit)) := (y807, y817)
 let y819 : Int := (iand .u8 x.2.1 15)
 let y820 : (List Int) := [15, (iadd .u8 128 y819)]
 let y821 : (Int × (Int × Int)) := (0, (0, 4))
 let y822 : (((List Int) × (Int × Unit)) × ((Unit × (Unit × ((List Int) × (Int × (Int × Int))))) × Bool)) := (y818, (((), ((), (y820, y821))), true))
 .ret (.inr y822)) (
 let y823 : Int := (iand .u8 x.2.1 15)
 let y824 : (List Int) := [15, (iadd .u8 128 y823)]
 .ret (.inl (.h14 y807 y824)))) (
 let y825 : Int := (iand .u8 x.2.1 15)
 let y826 : (List Int) := [15, (iadd .u8 128 y825)]
 .ret (.inl (.h14 y807 y826)))) (
 let y827 : Int := (iand .u8 x.2.1 15)
 let y828 : (List Int) := [15, (iadd .u8 128 y827)]
 .ret (.inl (.h14 y807 y828)))) (
 .ite y670 (
 .need ((0 : Nat) < 1) <|
 .need ((0 : Nat) < 2) <|
 .need ((1 : Nat) < 2) <|
 .need ((0 : Int) ≤ 0) <|
 .need (0 < (1 : Int)) <|
 .need ((0 : Int) ≤ 0) <|
 .need (0 < (1 : Int)) <|
 .need (((0 : Nat) + 2 : Nat) ≤ 2) <|
 let y829 : (List Int) := [8, 8]
 let y830 := x.2.2
 let y831 := y830.1
 let y832 : ((List Int) × Int) := (y829, y831)
 .need (pre51 y832) <|
 let y833 := ((fn51 y832) == true)
 .ite y833 (
 let y834 := y830.2
 let y835 := y834.1
 .need (pre95 y835) <|
 let y836 := ((fn95 y835) == true)
 .ite y836 (
 let y837 := y834.2.1
 .need (pre95 y837) <|
 let y838 := ((fn95 y837) == true)
 .ite y838 (
 .need (((0 : Nat) + 2 : Nat) ≤ 2) <|
 .need (((0 : Nat) + 1 : Nat) ≤ 1) <|
 let y839 : (Int × Unit) := (0, ())
 let y840 : ((List Int) × (Int × Unit)) := (y829, y839)
 let y841 : (Int × (Int × Int)) := (0, (0, 0))
 let y842 : (((List Int) × (Int × Unit)) × ((Unit × (Unit × ((List Int) × (Int × (Int × Int))))) × Bool)) := (y840, (((), ((), ([195], y841))), true))
 .ret (.inr y842)) (
 .ret (.inl (.h15 y829 [195])))) (
 .ret (.inl (.h15 y829 [195])))) (
 .ret (.inl (.h15 y829 [195])))) (
 .ite y671 (
 .need ((0 : Nat) < 1) <|
 .need ((0 : Nat) < 2) <|
 .need ((1 : Nat) < 2) <|
 .need ((0 : Int) ≤ 0) <|
 .need (0 < (1 : Int)) <|
 .need ((0 : Int) ≤ 0) <|
 .need (0 < (1 : Int)) <|
 .need (((0 : Nat) + 2 : Nat) ≤ 2) <|
 let y843 : (List Int) := [8, 8]
 let y844 := x.2.2
 let y845 := y844.1
 let y846 : ((List Int) × Int) := (y843, y845)
 .need (pre51 y846) <|
 let y847 := ((fn51 y846) == true)
 .ite y847 (
 let y848 := y844.2
 let y849 := y848.1
 .need (pre95 y849) <|
 let y850 := ((fn95 y849) == true)
 .ite y850 (
 let y851 := y848.2.1
 .need (pre95 y851) <|
 let y852 := ((fn95 y851) == true)
 .ite y852 (
 .need (((0 : Nat) + 2 : Nat) ≤ 2) <|
 .need (((0 : Nat) + 1 : Nat) ≤ 1) <|
 let y853 : (Int × Unit) := (0, ())
 let y854 : ((List Int) × (Int × Unit)) := (y843, y853)
 let y855 : (Int × (Int × Int)) := (0, (0, 0))
 let y856 : (((List Int) × (Int × Unit)) × ((Unit × (Unit × ((List Int) × (Int × (Int × Int))))) × Bool)) := (y854, (((), ((), ([144], y855))), true))
 .ret (.inr y856)) (
 .ret (.inl (.h15 y843 [144])))) (
 .ret (.inl (.h15 y843 [144])))) (
 .ret (.inl (.h15 y843 [144])))) (
 .ite y672 (
 .need ((0 : Nat) < 1) <|
 .need ((0 : Nat) < 2) <|
 .need ((1 : Nat) < 2) <|
 .need ((0 : Int) ≤ 0) <|
 .need (0 < (1 : Int)) <|
 .need ((0 : Int) ≤ 0) <|
 .need (0 < (1 : Int)) <|
 .need (((0 : Nat) + 2 : Nat) ≤ 2) <|
 let y857 : (List Int) := [8, 8]
 let y858 := x.2.2
 let y859 := y858.1
 let y860 : ((List Int) × Int) := (y857, y859)
 .need (pre51 y860) <|
 let y861 := ((fn51 y860) == true)
 .ite y861 (
 let y862 := y858.2
 let y863 := y862.1
 .need (pre71 y863) <|
 let y864 := ((fn71 y863) == true)
 .ite y864 (
 let y865 := y862.2.1
 .need (pre95 y865) <|
 let y866 := ((fn95 y865) == true)
 .ite y866 (
 .need (((0 : Nat) + 2 : Nat) ≤ 2) <|
 .need (((0 : Nat) + 1 : Nat) ≤ 1) <|
 let y867 : (Int × Unit) := (0, ())
 let y868 : ((List Int) × (Int × Unit)) := (y857, y867)
 let y869 : (Int × (Int × Int)) := (0, (3, 0))
 let y870 : (((List Int) × (Int × Unit)) × ((Unit × (Unit × ((List Int) × (Int × (Int × Int))))) × Bool)) := (y868, (((), ((), ([80], y869))), true))
 .ret (.inr y870)) (
 .ret (.inl (.h16 y857 [80])))) (
 .ret (.inl (.h16 y857 [80])))) (
 .ret (.inl (.h16 y857 [80])))) (
 .need ((0 : Nat) < 1) <|
 .need ((0 : Nat) < 2) <|
 .need ((1 : Nat) < 2) <|
 .need ((0 : Int) ≤ 0) <|
 .need (0 < (1 : Int)) <|
 .need ((0 : Int) ≤ 0) <|
 .need (0 < (1 : Int)) <|
 .need (((0 : Nat) + 2 : Nat) ≤ 2) <|
 let y871 : (List Int) := [8, 8]
 let y872 := x.2.2
 let y873 := y872.1
 let y874 : ((List Int) × Int) := (y871, y873)
 .need (pre51 y874) <|
 let y875 := ((fn51 y874) == true)
 .ite y875 (
 let y876 := y872.2
 let y877 := y876.1
 .need (pre71 y877) <|
 let y878 := ((fn71 y877) == true)
 .ite y878 (
 let y879 := y876.2.1
 .need (pre95 y879) <|
 let y880 := ((fn95 y879) == true)
 .ite y880 (
 .need (((0 : Nat) + 2 : Nat) ≤ 2) <|
 .need (((0 : Nat) + 1 : Nat) ≤ 1) <|
 let y881 : (Int × Unit) := (0, ())
 let y882 : ((List Int) × (Int × Unit)) := (y871, y881)
 let y883 : (Int × (Int × Int)) := (0, (3, 0))
 let y884 : (((List Int) × (Int × Unit)) × ((Unit × (Unit × ((List Int) × (Int × (Int × Int))))) × Bool)) := (y882, (((), ((), ([88], y883))), true))
 .ret (.inr y884)) (
 .ret (.inl (.h16 y871 [88])))) (
 .ret (.inl (.h16 y871 [88])))) (
 .ret (.inl (.h16 y871 [88]))))))))))) (
 .ite y667 (
 .need ((0 : Nat) < 1) <|
 .need ((0 : Nat) < 2) <|
 .need ((1 : Nat) < 2) <|
 .need ((0 : Int) ≤ 0) <|
 .need (0 < (1 : Int)) <|
 .need ((0 : Int) ≤ 0) <|
 .need (0 < (1 : Int)) <|
 .need (((0 : Nat) + 2 : Nat) ≤ 2) <|
 let y885 : (List Int) := [8, 8]
 let y886 := x.2.2
 let y887 := y886.1
 let y888 : ((List Int) × Int) := (y885, y887)
 .need (pre51 y888) <|
 let y889 := ((fn51 y888) == true)
 .ite y889 (
 let y890 := y886.2
 let y891 := y890.1
 .need (pre95 y891) <|
 let y892 := ((fn95 y891) == true)
 .ite y892 (
 let y893 := y890.2.1
 .need (pre74 y893) <|
 let y894 := ((fn74 y893) == true)
 .ite y894 (
 .need (((0 : Nat) + 2 : Nat) ≤ 2) <|
 .need (((0 : Nat) + 1 : Nat) ≤ 1) <|
 let y895 : (Int × Unit) := (0, ())
 let y896 : ((List Int) × (Int × Unit)) := (y885, y895)
 let y897 : (Int × (Int × Int)) := (0, (0, 4))
 let y898 : (((List Int) × (Int × Unit)) × ((Unit × (Unit × ((List Int) × (Int × (Int × Int))))) × Bool)) := (y896, (((), ((), ([232], y897))), true))
 .ret (.inr y898)) (
 .ret (.inl (.h12 y885 [232])))) (
 .ret (.inl (.h12 y885 [232])))) (
 .ret (.inl (.h12 y885 [232])))) (
 .ite y668 (
 .need ((0 : Nat) < 1) <|
 .need ((0 : Nat) < 1) <|
 .need ((0 : Nat) < 2) <|
 .need ((1 : Nat) < 2) <|
 .need ((0 : Int) ≤ 0) <|
 .need (0 < (1 : Int)) <|
 .need ((0 : Int) ≤ 0) <|
 .need (0 < (2 : Int)) <|
 .need (((0 : Nat) + 2 : Nat) ≤ 2) <|
 let y899 : (List Int) := [8, 8]
 let y900 := x.2.2
 let y901 := y900.1
 let y902 : ((List Int) × Int) := (y899, y901)
 .need (pre51 y902) <|
 let y903 := ((fn51 y902) == true)
 .ite y903 (
 let y904 := y900.2
 let y905 := y904.1
 .need (pre95 y905) <|
 let y906 := ((fn95 y905) == true)
 .ite y906 (
 let y907 := y904.2.1
 .need (pre74 y907) <|
 let y908 := ((fn74 y907) == true)
 .ite y908 (
 .need (((0 : Nat) + 2 : Nat) ≤ 2) <|
 .need (((0 : Nat) + 1 : Nat) ≤ 1) <|
 let y909 : (Int × Unit) := (0, ())
 let y910 : ((List Int) × (Int × Unit)) := (y899, y909)
 let y911 : (Int × (Int × Int)) := (0, (0, 4))
 let y912 : (((List Int) × (Int × Unit)) × ((Unit × (Unit × ((List Int) × (Int × (Int × Int))))) × Bool)) := (y910, (((), ((), ([233], y911))), true))
 .ret (.inr y912)) (
 .ret (.inl (.h13 y899 [233] [255])))) (
 .ret (.inl (.h13 y899 [233] [255])))) (
 .ret (.inl (.h13 y899 [233] [255])))) (
 .ite y669 (
 .need ((0 : Nat) < 2) <|
 .need ((1 : Nat) < 2) <|
 .need ((0 : Nat) < 2) <|
 .need ((1 : Nat) < 2) <|
 .need ((0 : Int) ≤ 0) <|
 .need (0 < (1 : Int)) <|
 .need ((0 : Int) ≤ 0) <|
 .need (0 < (1 : Int)) <|
 .need (((0 : Nat) + 2 : Nat) ≤ 2) <|
 let y913 : (List Int) := [8, 8]
 let y914 := x.2.2
 let y915 := y914.1
 let y916 : ((List Int) × Int) := (y913, y915)
 .need (pre51 y916) <|
 let y917 := ((fn51 y916) == true)
 .ite y917 (
 let y918 := y914.2
 let y919 := y918.1
 .need (pre95 y919) <|
 let y920 := ((fn95 y919) == true)
 .ite y920 (
 let y921 := y918.2.1
 .need (pre74 y921) <|
 let y922 := ((fn74 y921) == true)
 .ite y922 (
 .need (((0 : Nat) + 2 : Nat) ≤ 2) <|
 .need (((0 : Nat) + 2 : Nat) ≤ 2) <|
 let y923 : (Int × Unit) := (0, ())
 let y924 : ((List Int) × (Int × Unit)) := (y913, y923)
 let y925 : Int := (iand .u8 x.2.1 15)
 let y926 : (List Int) := [15, (iadd .u8 128 y925)]
 let y927 : (Int × (Int × Int)) := (0, (0, 4))
 let y928 : (((List Int) × (Int × Unit)) × ((Unit × (Unit × ((List Int) × (Int × (Int × Int))))) × Bool)) := (y924, (((), ((), (y926, y927))), true))
 .ret (.inr y928)) (
 let y929 : Int := (iand .u8 x.2.1 15)
 let y930 : (List Int) := [15, (iadd .u8 128 y929)]
 .ret (.inl (.h14 y913 y930)))) (
 let y931 : Int := (iand .u8 x.2.1 15)
 let y932 : (List Int) := [15, (iadd .u8 128 y931)]
 .ret (.inl (.h14 y913 y932)))) (
 let y933 : Int := (iand .u8 x.2.1 15)
 let y934 : (List Int) := [15, (iadd .u8 128 y933)]
 .ret (.inl (.h14 y913 y934)))) (
 .ite y670 (
 .need ((0 : Nat) < 1) <|
 .need ((0 : Nat) < 2) <|
 .need ((1 : Nat) < 2) <|
 .need ((0 : Int) ≤ 0) <|
 .need (0 < (1 : Int)) <|
 .need ((0 : Int) ≤ 0) <|
 .need (0 < (1 : Int)) <|
 .need (((0 : Nat) + 2 : Nat) ≤ 2) <|
 let y935 : (List Int) := [8, 8]
 let y936 := x.2.2
 let y937 := y936.1
 let y938 : ((List Int) × Int) := (y935, y937)
 .need (pre51 y938) <|
 let y939 := ((fn51 y938) == true)
 .ite y939 (
 let y940 := y936.2
 let y941 := y940.1
 .need (pre95 y941) <|
 let y942 := ((fn95 y941) == true)
 .ite y942 (
 let y943 := y940.2.1
 .need (pre95 y943) <|
 let y944 := ((fn95 y943) == true)
 .ite y944 (
 .need (((0 : Nat) + 2 : Nat) ≤ 2) <|
 .need (((0 : Nat) + 1 : Nat) ≤ 1) <|
 let y945 : (Int × Unit) := (0, ())
 let y946 : ((List Int) × (Int × Unit)) := (y935, y945)
 let y947 : (Int × (Int × Int)) := (0, (0, 0))
 let y948 : (((List Int) × (Int × Unit)) × ((Unit × (Unit × ((List Int) × (Int × (Int × Int))))) × Bool)) := (y946, (((), ((), ([195], y947))), true))
 .ret (.inr y948)) (
 .ret (.inl (.h15 y935 [195])))) (
 .ret (.inl (.h15 y935 [195])))) (
 .ret (.inl (.h15 y935 [195])))) (
 .ite y671 (
 .need ((0 : Nat) < 1) <|
 .need ((0 : Nat) < 2) <|
 .need ((1 : Nat) < 2) <|
 .need ((0 : Int) ≤ 0) <|
 .need (0 < (1 : Int)) <|
 .need ((0 : Int) ≤ 0) <|
 .need (0 < (1 : Int)) <|
 .need (((0 : Nat) + 2 : Nat) ≤ 2) <|
 let y949 : (List Int) := [8, 8]
 let y950 := x.2.2
 let y951 := y950.1
 let y952 : ((List Int) × Int) := (y949, y951)
 .need (pre51 y952) <|
 let y953 := ((fn51 y952) == true)
 .ite y953 (
 let y954 := y950.2
 let y955 := y954.1
 .need (pre95 y955) <|
 let y956 := ((fn95 y955) == true)
 .ite y956 (
 let y957 := y954.2.1
 .need (pre95 y957) <|
 let y958 := ((fn95 y957) == true)
 .ite y958 (
 .need (((0 : Nat) + 2 : Nat) ≤ 2) <|
 .need (((0 : Nat) + 1 : Nat) ≤ 1) <|
 let y959 : (Int × Unit) := (0, ())
 let y960 : ((List Int) × (Int × Unit)) := (y949, y959)
 let y961 : (Int × (Int × Int)) := (0, (0, 0))
 let y962 : (((List Int) × (Int × Unit)) × ((Unit × (Unit × ((List Int) × (Int × (Int × Int))))) × Bool)) := (y960, (((), ((), ([144], y961))), true))
 .ret (.inr y962)) (
 .ret (.inl (.h15 y949 [144])))) (
 .ret (.inl (.h15 y949 [144])))) (
 .ret (.inl (.h15 y949 [144])))) (
 let y963 := (ieq x.1 24)
 .ite y963 (
 .need ((0 : Nat) < 1) <|
 .need ((0 : Nat) < 2) <|
 .need ((1 : Nat) < 2) <|
 .need ((0 : Int) ≤ 0) <|
 .need (0 < (1 : Int)) <|
 .need ((0 : Int) ≤ 0) <|
 .need (0 < (1 : Int)) <|
 .need (((0 : Nat) + 2 : Nat) ≤ 2) <|
 let y964 : (List Int) := [8, 8]
 let y965 := x.2.2
 let y966 := y965.1
 let y967 : ((List Int) × Int) := (y964, y966)
 .need (pre51 y967) <|
 let y968 := ((fn51 y967) == true)
 .ite y968 (
 let y969 := y965.2
 let y970 := y969.1
 .need (pre71 y970) <|
 let y971 := ((fn71 y970) == true)
 .ite y971 (
 let y972 := y969.2.1
 .need (pre95 y972) <|
 let y973 := ((fn95 y972) == true)
 .ite y973 (
 .need (((0 : Nat) + 2 : Nat) ≤ 2) <|
 .need (((0 : Nat) + 1 : Nat) ≤ 1) <|
 let y974 : (Int × Unit) := (0, ())
 let y975 : ((List Int) × (Int × Unit)) := (y964, y974)
 let y976 : (Int × (Int × Int)) := (0, (3, 0))
 let y977 : (((List Int) × (Int × Unit)) × ((Unit × (Unit × ((List Int) × (Int × (Int × Int))))) × Bool)) := (y975, (((), ((), ([80], y976))), true))
 .ret (.inr y977)) (
 .ret (.inl (.h16 y964 [80])))) (
 .ret (.inl (.h16 y964 [80])))) (
 .ret (.inl (.h16 y964 [80])))) (
 .need ((0 : Nat) < 1) <|
 .need ((0 : Nat) < 2) <|
 .need ((1 : Nat) < 2) <|
 .need ((0 : Int) ≤ 0) <|
 .need (0 < (1 : Int)) <|
 .need ((0 : Int) ≤ 0) <|
 .need (0 < (1 : Int)) <|
 .need (((0 : Nat) + 2 : Nat) ≤ 2) <|
 let y978 : (List Int) := [8, 8]
 let y979 := x.2.2
 let y980 := y979.1
 let y981 : ((List Int) × Int) := (y978, y980)
 .need (pre51 y981) <|
 let y982 := ((fn51 y981) == true)
 .ite y982 (
 let y983 := y979.2
 let y984 := y983.1
 .need (pre71 y984) <|
 let y985 := ((fn71 y984) == true)
 .ite y985 (
 let y986 := y983.2.1
 .need (pre95 y986) <|
 let y987 := ((fn95 y986) == true)
 .ite y987 (
 .need (((0 : Nat) + 2 : Nat) ≤ 2) <|
 .need (((0 : Nat) + 1 : Nat) ≤ 1) <|
 let y988 : (Int × Unit) := (0, ())
 let y989 : ((List Int) × (Int × Unit)) := (y978, y988)
 let y990 : (Int × (Int × Int)) := (0, (3, 0))
 let y991 : (((List Int) × (Int × Unit)) × ((Unit × (Unit × ((List Int) × (Int × (Int × Int))))) × Bool)) := (y989, (((), ((), ([88], y990))), true))
 .ret (.inr y991)) (
 .ret (.inl (.h16 y978 [88])))) (
 .ret (.inl (.h16 y978 [88])))) (
 .ret (.inl (.h16 y978 [88]))))))))))) (
 .ite y667 (
 .need ((0 : Nat) < 1) <|
 .need ((0 : Nat) < 2) <|
 .need ((1 : Nat) < 2) <|
 .need ((0 : Int) ≤ 0) <|
 .need (0 < (1 : Int)) <|
 .need ((0 : Int) ≤ 0) <|
 .need (0 < (1 : Int)) <|
 .need (((0 : Nat) + 2 : Nat) ≤ 2) <|
 let y992 : (List Int) := [8, 8]
 let y993 := x.2.2
 let y994 := y993.1
 let y995 : ((List Int) × Int) := (y992, y994)
 .need (pre51 y995) <|
 let y996 := ((fn51 y995) == true)
 .ite y996 (
 let y997 := y993.2
 let y998 := y997.1
 .need (pre95 y998) <|
 let y999 := ((fn95 y998) == true)
 .ite y999 (
 let y1000 := y997.2.1
 .need (pre74 y1000) <|
 let y1001 := ((fn74 y1000) == true)
 .ite y1001 (
 .need (((0 : Nat) + 2 : Nat) ≤ 2) <|
 .need (((0 : Nat) + 1 : Nat) ≤ 1) <|
 let y1002 : (Int × Unit) := (0, ())
 let y1003 : ((List Int) × (Int × Unit)) := (y992, y1002)
 let y1004 : (Int × (Int × Int)) := (0, (0, 4))
 let y1005 : (((List Int) × (Int × Unit)) × ((Unit × (Unit × ((List Int) × (Int × (Int × Int))))) × Bool)) := (y1003, (((), ((), ([232], y1004))), true))
 .ret (.inr y1005)) (
 .ret (.inl (.h12 y992 [232])))) (
 .ret (.inl (.h12 y992 [232])))) (
 .ret (.inl (.h12 y992 [232])))) (
 .ite y668 (
 .need ((0 : Nat) < 1) <|
 .need ((0 : Nat) < 1) <|
 .need ((0 : Nat) < 2) <|
 .need ((1 : Nat) < 2) <|
 .need ((0 : Int) ≤ 0) <|
 .need (0 < (1 : Int)) <|
 .need ((0 : Int) ≤ 0) <|
 .need (0 < (2 : Int)) <|
 .need (((0 : Nat) + 2 : Nat) ≤ 2) <|
 let y1006 : (List Int) := [8, 8]
 let y1007 := x.2.2
 let y1008 := y1007.1
 let y1009 : ((List Int) × Int) := (y1006, y1008)
 .need (pre51 y1009) <|
 let y1010 := ((fn51 y1009) == true)
 .ite y1010 (
 let y1011 := y1007.2
 let y1012 := y1011.1
 .need (pre95 y1012) <|
 let y1013 := ((fn95 y1012) == true)
 .ite y1013 (
 let y1014 := y1011.2.1
 .need (pre74 y1014) <|
 let y1015 := ((fn74 y1014) == true)
 .ite y1015 (
 .need (((0 : Nat) + 2 : Nat) ≤ 2) <|
 .need (((0 : Nat) + 1 : Nat) ≤ 1) <|
 let y1016 : (Int × Unit) := (0, ())
 let y1017 : ((List Int) × (Int × Unit)) := (y1006, y1016)
 let y1018 : (Int × (Int × Int)) := (0, (0, 4))
 let y1019 : (((List Int) × (Int × Unit)) × ((Unit × (Unit × ((List Int) × (Int × (Int × Int))))) × Bool)) := (y1017, (((), ((), ([233], y1018))), true))
 .ret (.inr y1019)) (
 .ret (.inl (.h13 y1006 [233] [255])))) (
 .ret (.inl (.h13 y1006 [233] [255])))) (
 .ret (.inl (.h13 y1006 [233] [255])))) (
 .ite y669 (
 .need ((0 : Nat) < 2) <|
 .need ((1 : Nat) < 2) <|
 .need ((0 : Nat) < 2) <|
 .need ((1 : Nat) < 2) <|
 .need ((0 : Int) ≤ 0) <|
 .need (0 < (1 : Int)) <|
 .need ((0 : Int) ≤ 0) <|
 .need (0 < (1 : Int)) <|
 .need (((0 : Nat) + 2 : Nat) ≤ 2) <|
 let y1020 : (List Int) := [8, 8]
 let y1021 := x.2.2
 let y1022 := y1021.1
 let y1023 : ((List Int) × Int) := (y1020, y1022)
 .need (pre51 y1023) <|
 let y1024 := ((fn51 y1023) == true)
 .ite y1024 (
 let y1025 := y1021.2
 let y1026 := y1025.1
 .need (pre95 y1026) <|
 let y1027 := ((fn95 y1026) == true)
 .ite y1027 (
 let y1028 := y1025.2.1
 .need (pre74 y1028) <|
 let y1029 := ((fn74 y1028) == true)
 .ite y1029 (
 .need (((0 : Nat) + 2 : Nat) ≤ 2) <|
 .need (((0 : Nat) + 2 : Nat) ≤ 2) <|
 let y1030 : (Int × Unit) := (0, ())
 let y1031 : ((List Int) × (Int × Unit)) := (y1020, y1030)
 let y1032 : Int := (iand .u8 x.2.1 15)
 let y1033 : (List Int) := [15, (iadd .u8 128 y1032)]
 let y1034 : (Int × (Int × Int)) := (0, (0, 4))
 let y1035 : (((List Int) × (Int × Unit)) × ((Unit × (Unit × ((List Int) × (Int × (Int × Int))))) × Bool)) := (y1031, (((), ((), (y1033, y1034))), true))
 .ret (.inr y1035)) (
 let y1036 : Int := (iand .u8 x.2.1 15)
 let y1037 : (List Int) := [15, (iadd .u8 128 y1036)]
 .ret (.inl (.h14 y1020 y1037)))) (
 let y1038 : Int := (iand .u8 x.2.1 15)
 let y1039 : (List Int) := [15, (iadd .u8 128 y1038)]
 .ret (.inl (.h14 y1020 y1039)))) (
 let y1040 : Int := (iand .u8 x.2.1 15)
 let y1041 : (List Int) := [15, (iadd .u8 128 y1040)]
 .ret (.inl (.h14 y1020 y1041)))) (
 .ite y670 (
 .need ((0 : Nat) < 1) <|
 .need ((0 : Nat) < 2) <|
 .need ((1 : Nat) < 2) <|
 .need ((0 : Int) ≤ 0) <|
 .need (0 < (1 : Int)) <|
 .need ((0 : Int) ≤ 0) <|
 .need (0 < (1 : Int)) <|
 .need (((0 : Nat) + 2 : Nat) ≤ 2) <|
 let y1042 : (List Int) := [8, 8]
 let y1043 := x.2.2
 let y1044 := y1043.1
 let y1045 : ((List Int) × Int) := (y1042, y1044)
 .need (pre51 y1045) <|
 let y1046 := ((fn51 y1045) == true)
 .ite y1046 (
 let y1047 := y1043.2
 let y1048 := y1047.1
 .need (pre95 y1048) <|
 let y1049 := ((fn95 y1048) == true)
 .ite y1049 (
 let y1050 := y1047.2.1
 .need (pre95 y1050) <|
 let y1051 := ((fn95 y1050) == true)
 .ite y1051 (
 .need (((0 : Nat) + 2 : Nat) ≤ 2) <|
 .need (((0 : Nat) + 1 : Nat) ≤ 1) <|
 let y1052 : (Int × Unit) := (0, ())
 let y1053 : ((List Int) × (Int × Unit)) := (y1042, y1052)
 let y1054 : (Int × (Int × Int)) := (0, (0, 0))
 let y1055 : (((List Int) × (Int × Unit)) × ((Unit × (Unit × ((List Int) × (Int × (Int × Int))))) × Bool)) := (y1053, (((), ((), ([195], y1054))), true))
 .ret (.inr y1055)) (
 .ret (.inl (.h15 y1042 [195])))) (
 .ret (.inl (.h15 y1042 [195])))) (
 .ret (.inl (.h15 y1042 [195])))) (
 let y1056 := (ieq x.1 34)
 .ite y1056 (
 .need ((0 : Nat) < 1) <|
 .need ((0 : Nat) < 2) <|
 .need ((1 : Nat) < 2) <|
 .need ((0 : Int) ≤ 0) <|
 .need (0 < (1 : Int)) <|
 .need ((0 : Int) ≤ 0) <|
 .need (0 < (1 : Int)) <|
 .need (((0 : Nat) + 2 : Nat) ≤ 2) <|
 let y1057 : (List Int) := [8, 8]
 let y1058 := x.2.2
 let y1059 := y1058.1
 let y1060 : ((List Int) × Int) := (y1057, y1059)
 .need (pre51 y1060) <|
 let y1061 := ((fn51 y1060) == true)
 .ite y1061 (
 let y1062 := y1058.2
 let y1063 := y1062.1
 .need (pre95 y1063) <|
 let y1064 := ((fn95 y1063) == true)
 .ite y1064 (
 let y1065 := y1062.2.1
 .need (pre95 y1065) <|
 let y1066 := ((fn95 y1065) == true)
 .ite y1066 (
 .need (((0 : Nat) + 2 : Nat) ≤ 2) <|
 .need (((0 : Nat) + 1 : Nat) ≤ 1) <|
 let y1067 : (Int × Unit) := (0, ())
 let y1068 : ((List Int) × (Int × Unit)) := (y1057, y1067)
 let y1069 : (Int × (Int × Int)) := (0, (0, 0))
 let y1070 : (((List Int) × (Int × Unit)) × ((Unit × (Unit × ((List Int) × (Int × (Int × Int))))) × Bool)) := (y1068, (((), ((), ([144], y1069))), true))
 .ret (.inr y1070)) (
 .ret (.inl (.h15 y1057 [144])))) (
 .ret (.inl (.h15 y1057 [144])))) (
 .ret (.inl (.h15 y1057 [144])))) (
 let y1071 := (ieq x.1 24)
 .ite y1071 (
 .need ((0 : Nat) < 1) <|
 .need ((0 : Nat) < 2) <|
 .need ((1 : Nat) < 2) <|
 .need ((0 : Int) ≤ 0) <|
 .need (0 < (1 : Int)) <|
 .need ((0 : Int) ≤ 0) <|
 .need (0 < (1 : Int)) <|
 .need (((0 : Nat) + 2 : Nat) ≤ 2) <|
 let y1072 : (List Int) := [8, 8]
 let y1073 := x.2.2
 let y1074 := y1073.1
 let y1075 : ((List Int) × Int) := (y1072, y1074)
 .need (pre51 y1075) <|
 let y1076 := ((fn51 y1075) == true)
 .ite y1076 (
 let y1077 := y1073.2
 let y1078 := y1077.1
 .need (pre71 y1078) <|
 let y1079 := ((fn71 y1078) == true)
 .ite y1079 (
 let y1080 := y1077.2.1
 .need (pre95 y1080) <|
 let y1081 := ((fn95 y1080) == true)
 .ite y1081 (
 .need (((0 : Nat) + 2 : Nat) ≤ 2) <|
 .need (((0 : Nat) + 1 : Nat) ≤ 1) <|
 let y1082 : (Int × Unit) := (0, ())
 let y1083 : ((List Int) × (Int × Unit)) := (y1072, y1082)
 let y1084 : (Int × (Int × Int)) := (0, (3, 0))
 let y1085 : (((List Int) × (Int × Unit)) × ((Unit × (Unit × ((List Int) × (Int × (Int × Int))))) × Bool)) := (y1083, (((), ((), ([80], y1084))), true))
 .ret (.inr y1085)) (
 .ret (.inl (.h16 y1072 [80])))) (
 .ret (.inl (.h16 y1072 [80])))) (
 .ret (.inl (.h16 y1072 [80])))) (
 .need ((0 : Nat) < 1) <|
 .need ((0 : Nat) < 2) <|
 .need ((1 : Nat) < 2) <|
 .need ((0 : Int) ≤ 0) <|
 .need (0 < (1 : Int)) <|
 .need ((0 : Int) ≤ 0) <|
 .need (0 < (1 : Int)) <|
 .need (((0 : Nat) + 2 : Nat) ≤ 2) <|
 let y1086 : (List Int) := [8, 8]
 let y1087 := x.2.2
 let y1088 := y1087.1
 let y1089 : ((List Int) × Int) := (y1086, y1088)
 .need (pre51 y1089) <|
 let y1090 := ((fn51 y1089) == true)
 .ite y1090 (
 let y1091 := y1087.2
 let y1092 := y1091.1
 .need (pre71 y1092) <|
 let y1093 := ((fn71 y1092) == true)
 .ite y1093 (
 let y1094 := y1091.2.1
 .need (pre95 y1094) <|
 let y1095 := ((fn95 y1094) == true)
 .ite y1095 (
 .need (((0 : Nat) + 2 : Nat) ≤ 2) <|
 .need (((0 : Nat) + 1 : Nat) ≤ 1) <|
 let y1096 : (Int × Unit) := (0, ())
 let y1097 : ((List Int) × (Int × Unit)) := (y1086, y1096)
 let y1098 : (Int × (Int × Int)) := (0, (3, 0))
 let y1099 : (((List Int) × (Int × Unit)) × ((Unit × (Unit × ((List Int) × (Int × (Int × Int))))) × Bool)) := (y1097, (((), ((), ([88], y1098))), true))
 .ret (.inr y1099)) (
 .ret (.inl (.h16 y1086 [88])))) (
 .ret (.inl (.h16 y1086 [88])))) (
 .ret (.inl (.h16 y1086 [88]))))))))))) (
 .ite y667 (
 .need ((0 : Nat) < 1) <|
 .need ((0 : Nat) < 2) <|
 .need ((1 : Nat) < 2) <|
 .need ((0 : Int) ≤ 0) <|
 .need (0 < (1 : Int)) <|
 .need ((0 : Int) ≤ 0) <|
 .need (0 < (1 : Int)) <|
 .need (((0 : Nat) + 2 : Nat) ≤ 2) <|
 let y1100 : (List Int) := [8, 8]
 let y1101 := x.2.2
 let y1102 := y1101.1
 let y1103 : ((List Int) × Int) := (y1100, y1102)
 .need (pre51 y1103) <|
 let y1104 := ((fn51 y1103) == true)
 .ite y1104 (
 let y1105 := y1101.2
 let y1106 := y1105.1
 .need (pre95 y1106) <|
 let y1107 := ((fn95 y1106) == true)
 .ite y1107 (
 let y1108 := y1105.2.1
 .need (pre74 y1108) <|
 let y1109 := ((fn74 y1108) == true)
 .ite y1109 (
 .need (((0 : Nat) + 2 : Nat) ≤ 2) <|
 .need (((0 : Nat) + 1 : Nat) ≤ 1) <|
 let y1110 : (Int × Unit) := (0, ())
 let y1111 : ((List Int) × (Int × Unit)) := (y1100, y1110)
 let y1112 : (Int × (Int × Int)) := (0, (0, 4))
 let y1113 : (((List Int) × (Int × Unit)) × ((Unit × (Unit × ((List Int) × (Int × (Int × Int))))) × Bool)) := (y1111, (((), ((), ([232], y1112))), true))
 .ret (.inr y1113)) (
 .ret (.inl (.h12 y1100 [232])))) (
 .ret (.inl (.h12 y1100 [232])))) (
 .ret (.inl (.h12 y1100 [232])))) (
 .ite y668 (
 .need ((0 : Nat) < 1) <|
 .need ((0 : Nat) < 1) <|
 .need ((0 : Nat) < 2) <|
 .need ((1 : Nat) < 2) <|
 .need ((0 : Int) ≤ 0) <|
 .need (0 < (1 : Int)) <|
 .need ((0 : Int) ≤ 0) <|
 .need (0 < (2 : Int)) <|
 .need (((0 : Nat) + 2 : Nat) ≤ 2) <|
 let y1114 : (List Int) := [8, 8]
 let y1115 := x.2.2
 let y1116 := y1115.1
 let y1117 : ((List Int) × Int) := (y1114, y1116)
 .need (pre51 y1117) <|
 let y1118 := ((fn51 y1117) == true)
 .ite y1118 (
 let y1119 := y1115.2
 let y1120 := y1119.1
 .need (pre95 y1120) <|
 let y1121 := ((fn95 y1120) == true)
 .ite y1121 (
 let y1122 := y1119.2.1
 .need (pre74 y1122) <|
 let y1123 := ((fn74 y1122) == true)
 .ite y1123 (
 .need (((0 : Nat) + 2 : Nat) ≤ 2) <|
 .need (((0 : Nat) + 1 : Nat) ≤ 1) <|
 let y1124 : (Int × Unit) := (0, ())
 let y1125 : ((List Int) × (Int × Unit)) := (y1114, y1124)
 let y1126 : (Int × (Int × Int)) := (0, (0, 4))
 let y1127 : (((List Int) × (Int × Unit)) × ((Unit × (Unit × ((List Int) × (Int × (Int × Int))))) × Bool)) := (y1125, (((), ((), ([233], y1126))), true))
 .ret (.inr y1127)) (
 .ret (.inl (.h13 y1114 [233] [255])))) (
 .ret (.inl (.h13 y1114 [233] [255])))) (
 .ret (.inl (.h13 y1114 [233] [255])))) (
 .ite y669 (
 .need ((0 : Nat) < 2) <|
 .need ((1 : Nat) < 2) <|
 .need ((0 : Nat) < 2) <|
 .need ((1 : Nat) < 2) <|
 .need ((0 : Int) ≤ 0) <|
 .need (0 < (1 : Int)) <|
 .need ((0 : Int) ≤ 0) <|
 .need (0 < (1 : Int)) <|
 .need (((0 : Nat) + 2 : Nat) ≤ 2) <|
 let y1128 : (List Int) := [8, 8]
 let y1129 := x.2.2
 let y1130 := y1129.1
 let y1131 : ((List Int) × Int) := (y1128, y1130)
 .need (pre51 y1131) <|
 let y1132 := ((fn51 y1131) == true)
 .ite y1132 (
 let y1133 := y1129.2
 let y1134 := y1133.1
 .need (pre95 y1134) <|
 let y1135 := ((fn95 y1134) == true)
 .ite y1135 (
 let y1136 := y1133.2.1
 .need (pre74 y1136) <|
 let y1137 := ((fn74 y1136) == true)
 .ite y1137 (
 .need (((0 : Nat) + 2 : Nat) ≤ 2) <|
 .need (((0 : Nat) + 2 : Nat) ≤ 2) <|
 let y1138 : (Int × Unit) := (0, ())
 let y1139 : ((List Int) × (Int × Unit)) := (y1128, y1138)
 let y1140 : Int := (iand .u8 x.2.1 15)
 let y1141 : (List Int) := [15, (iadd .u8 128 y1140)]
 let y1142 : (Int × (Int × Int)) := (0, (0, 4))
 let y1143 : (((List Int) × (Int × Unit)) × ((Unit × (Unit × ((List Int) × (Int × (Int × Int))))) × Bool)) := (y1139, (((), ((), (y1141, y1142))), true))
 .ret (.inr y1143)) (
 let y1144 : Int := (iand .u8 x.2.1 15)
 let y1145 : (List Int) := [15, (iadd .u8 128 y1144)]
 .ret (.inl (.h14 y1128 y1145)))) (
 let y1146 : Int := (iand .u8 x.2.1 15)
 let y1147 : (List Int) := [15, (iadd .u8 128 y1146)]
 .ret (.inl (.h14 y1128 y1147)))) (
 let y1148 : Int := (iand .u8 x.2.1 15)
 let y1149 : (List Int) := [15, (iadd .u8 128 y1148)]
 .ret (.inl (.h14 y1128 y1149)))) (
 let y1150 := (ieq x.1 27)
 .ite y1150 (
 .need ((0 : Nat) < 1) <|
 .need ((0 : Nat) < 2) <|
 .need ((1 : Nat) < 2) <|
 .need ((0 : Int) ≤ 0) <|
 .need (0 < (1 : Int)) <|
 .need ((0 : Int) ≤ 0) <|
 .need (0 < (1 : Int)) <|
 .need (((0 : Nat) + 2 : Nat) ≤ 2) <|
 let y1151 : (List Int) := [8, 8]
 let y1152 := x.2.2
 let y1153 := y1152.1
 let y1154 : ((List Int) × Int) := (y1151, y1153)
 .need (pre51 y1154) <|
 let y1155 := ((fn51 y1154) == true)
 .ite y1155 (
 let y1156 := y1152.2
 let y1157 := y1156.1
 .need (pre95 y1157) <|
 let y1158 := ((fn95 y1157) == true)
 .ite y1158 (
 let y1159 := y1156.2.1
 .need (pre95 y1159) <|
 let y1160 := ((fn95 y1159) == true)
 .ite y1160 (
 .need (((0 : Nat) + 2 : Nat) ≤ 2) <|
 .need (((0 : Nat) + 1 : Nat) ≤ 1) <|
 let y1161 : (Int × Unit) := (0, ())
 let y1162 : ((List Int) × (Int × Unit)) := (y1151, y1161)
 let y1163 : (Int × (Int × Int)) := (0, (0, 0))
 let y1164 : (((List Int) × (Int × Unit)) × ((Unit × (Unit × ((List Int) × (Int × (Int × Int))))) × Bool)) := (y1162, (((), ((), ([195], y1163))), true))
 .ret (.inr y1164)) (
 .ret (.inl (.h15 y1151 [195])))) (
 .ret (.inl (.h15 y1151 [195])))) (
 .ret (.inl (.h15 y1151 [195])))) (
 let y1165 := (ieq x.1 34)
 .ite y1165 (
 .need ((0 : Nat) < 1) <|
 .need ((0 : Nat) < 2) <|
 .need ((1 : Nat) < 2) <|
 .need ((0 : Int) ≤ 0) <|
 .need (0 < (1 : Int)) <|
 .need ((0 : Int) ≤ 0) <|
 .need (0 < (1 : Int)) <|
 .need (((0 : Nat) + 2 : Nat) ≤ 2) <|
 let y1166 : (List Int) := [8, 8]
 let y1167 := x.2.2
 let y1168 := y1167.1
 let y1169 : ((List Int) × Int) := (y1166, y1168)
 .need (pre51 y1169) <|
 let y1170 := ((fn51 y1169) == true)
 .ite y1170 (
 let y1171 := y1167.2
 let y1172 := y1171.1
 .need (pre95 y1172) <|
 let y1173 := ((fn95 y1172) == true)
 .ite y1173 (
 let y1174 := y1171.2.1
 .need (pre95 y1174) <|
 let y1175 := ((fn95 y1174) == true)
 .ite y1175 (
 .need (((0 : Nat) + 2 : Nat) ≤ 2) <|
 .need (((0 : Nat) + 1 : Nat) ≤ 1) <|
 let y1176 : (Int × Unit) := (0, ())
 let y1177 : ((List Int) × (Int × Unit)) := (y1166, y1176)
 let y1178 : (Int × (Int × Int)) := (0, (0, 0))
 let y1179 : (((List Int) × (Int × Unit)) × ((Unit × (Unit × ((List Int) × (Int × (Int × Int))))) × Bool)) := (y1177, (((), ((), ([144], y1178))), true))
 .ret (.inr y1179)) (
 .ret (.inl (.h15 y1166 [144])))) (
 .ret (.inl (.h15 y1166 [144])))) (
 .ret (.inl (.h15 y1166 [144])))) (
 let y1180 := (ieq x.1 24)
 .ite y1180 (
 .need ((0 : Nat) < 1) <|
 .need ((0 : Nat) < 2) <|
 .need ((1 : Nat) < 2) <|
 .need ((0 : Int) ≤ 0) <|
 .need (0 < (1 : Int)) <|
 .need ((0 : Int) ≤ 0) <|
 .need (0 < (1 : Int)) <|
 .need (((0 : Nat) + 2 : Nat) ≤ 2) <|
 let y1181 : (List Int) := [8, 8]
 let y1182 := x.2.2
 let y1183 := y1182.1
 let y1184 : ((List Int) × Int) := (y1181, y1183)
 .need (pre51 y1184) <|
 let y1185 := ((fn51 y1184) == true)
 .ite y1185 (
 let y1186 := y1182.2
 let y1187 := y1186.1
 .need (pre71 y1187) <|
 let y1188 := ((fn71 y1187) == true)
 .ite y1188 (
 let y1189 := y1186.2.1
 .need (pre95 y1189) <|
 let y1190 := ((fn95 y1189) == true)
 .ite y1190 (
 .need (((0 : Nat) + 2 : Nat) ≤ 2) <|
 .need (((0 : Nat) + 1 : Nat) ≤ 1) <|
 let y1191 : (Int × Unit) := (0, ())
 let y1192 : ((List Int) × (Int × Unit)) := (y1181, y1191)
 let y1193 : (Int × (Int × Int)) := (0, (3, 0))
 let y1194 : (((List Int) × (Int × Unit)) × ((Unit × (Unit × ((List Int) × (Int × (Int × Int))))) × Bool)) := (y1192, (((), ((), ([80], y1193))), true))
 .ret (.inr y1194)) (
 .ret (.inl (.h16 y1181 [80])))) (
 .ret (.inl (.h16 y1181 [80])))) (
 .ret (.inl (.h16 y1181 [80])))) (
 .need ((0 : Nat) < 1) <|
 .need ((0 : Nat) < 2) <|
 .need ((1 : Nat) < 2) <|
 .need ((0 : Int) ≤ 0) <|
 .need (0 < (1 : Int)) <|
 .need ((0 : Int) ≤ 0) <|
 .need (0 < (1 : Int)) <|
 .need (((0 : Nat) + 2 : Nat) ≤ 2) <|
 let y1195 : (List Int) := [8, 8]
 let y1196 := x.2.2
 let y1197 := y1196.1
 let y1198 : ((List Int) × Int) := (y1195, y1197)
 .need (pre51 y1198) <|
 let y1199 := ((fn51 y1198) == true)
 .ite y1199 (
 let y1200 := y1196.2
 let y1201 := y1200.1
 .need (pre71 y1201) <|
 let y1202 := ((fn71 y1201) == true)
 .ite y1202 (
 let y1203 := y1200.2.1
 .need (pre95 y1203) <|
 let y1204 := ((fn95 y1203) == true)
 .ite y1204 (
 .need (((0 : Nat) + 2 : Nat) ≤ 2) <|
 .need (((0 : Nat) + 1 : Nat) ≤ 1) <|
 let y1205 : (Int × Unit) := (0, ())
 let y1206 : ((List Int) × (Int × Unit)) := (y1195, y1205)
 let y1207 : (Int × (Int × Int)) := (0, (3, 0))
 let y1208 : (((List Int) × (Int × Unit)) × ((Unit × (Unit × ((List Int) × (Int × (Int × Int))))) × Bool)) := (y1206, (((), ((), ([88], y1207))), true))
 .ret (.inr y1208)) (
 .ret (.inl (.h16 y1195 [88])))) (
 .ret (.inl (.h16 y1195 [88])))) (
 .ret (.inl (.h16 y1195 [88]))))))))))) (
 .ite y667 (
 .need ((0 : Nat) < 1) <|
 .need ((0 : Nat) < 2) <|
 .need ((1 : Nat) < 2) <|
 .need ((0 : Int) ≤ 0) <|
 .need (0 < (1 : Int)) <|
 .need ((0 : Int) ≤ 0) <|
 .need (0 < (1 : Int)) <|
 .need (((0 : Nat) + 2 : Nat) ≤ 2) <|
 let y1209 : (List Int) := [8, 8]
 let y1210 := x.2.2
 let y1211 := y1210.1
 let y1212 : ((List Int) × Int) := (y1209, y1211)
 .need (pre51 y1212) <|
 let y1213 := ((fn51 y1212) == true)
 .ite y1213 (
 let y1214 := y1210.2
 let y1215 := y1214.1
 .need (pre95 y1215) <|
 let y1216 := ((fn95 y1215) == true)
 .ite y1216 (
 let y1217 := y1214.2.1
 .need (pre74 y1217) <|
 let y1218 := ((fn74 y1217) == true)
 .ite y1218 (
 .need (((0 : Nat) + 2 : Nat) ≤ 2) <|
 .need (((0 : Nat) + 1 : Nat) ≤ 1) <|
 let y1219 : (Int × Unit) := (0, ())
 let y1220 : ((List Int) × (Int × Unit)) := (y1209, y1219)
 let y1221 : (Int × (Int × Int)) := (0, (0, 4))
 let y1222 : (((List Int) × (Int × Unit)) × ((Unit × (Unit × ((List Int) × (Int × (Int × Int))))) × Bool)) := (y1220, (((), ((), ([232], y1221))), true))
 .ret (.inr y1222)) (
 .ret (.inl (.h12 y1209 [232])))) (
 .ret (.inl (.h12 y1209 [232])))) (
 .ret (.inl (.h12 y1209 [232])))) (
 .ite y668 (
 .need ((0 : Nat) < 1) <|
 .need ((0 : Nat) < 1) <|
 .need ((0 : Nat) < 2) <|
 .need ((1 : Nat) < 2) <|
 .need ((0 : Int) ≤ 0) <|
 .need (0 < (1 : Int)) <|
 .need ((0 : Int) ≤ 0) <|
 .need (0 < (2 : Int)) <|
 .need (((0 : Nat) + 2 : Nat) ≤ 2) <|
 let y1223 : (List Int) := [8, 8]
 let y1224 := x.2.2
 let y1225 := y1224.1
 let y1226 : ((List Int) × Int) := (y1223, y1225)
 .need (pre51 y1226) <|
 let y1227 := ((fn51 y1226) == true)
 .ite y1227 (
 let y1228 := y1224.2
 let y1229 := y1228.1
 .need (pre95 y1229) <|
 let y1230 := ((fn95 y1229) == true)
 .ite y1230 (
 let y1231 := y1228.2.1
 .need (pre74 y1231) <|
 let y1232 := ((fn74 y1231) == true)
 .ite y1232 (
 .need (((0 : Nat) + 2 : Nat) ≤ 2) <|
 .need (((0 : Nat) + 1 : Nat) ≤ 1) <|
 let y1233 : (Int × Unit) := (0, ())
 let y1234 : ((List Int) × (Int × Unit)) := (y1223, y1233)
 let y1235 : (Int × (Int × Int)) := (0, (0, 4))
 let y1236 : (((List Int) × (Int × Unit)) × ((Unit × (Unit × ((List Int) × (Int × (Int × Int))))) × Bool)) := (y1234, (((), ((), ([233], y1235))), true))
 .ret (.inr y1236)) (
 .ret (.inl (.h13 y1223 [233] [255])))) (
 .ret (.inl (.h13 y1223 [233] [255])))) (
 .ret (.inl (.h13 y1223 [233] [255])))) (
 let y1237 := (ieq x.1 29)
 .ite y1237 (
 .need ((0 : Nat) < 2) <|
 .need ((1 : Nat) < 2) <|
 .need ((0 : Nat) < 2) <|
 .need ((1 : Nat) < 2) <|
 .need ((0 : Int) ≤ 0) <|
 .need (0 < (1 : Int)) <|
 .need ((0 : Int) ≤ 0) <|
 .need (0 < (1 : Int)) <|
 .need (((0 : Nat) + 2 : Nat) ≤ 2) <|
 let y1238 : (List Int) := [8, 8]
 let y1239 := x.2.2
 let y1240 := y1239.1
 let y1241 : ((List Int) × Int) := (y1238, y1240)
 .need (pre51 y1241) <|
 let y1242 := ((fn51 y1241) == true)
 .ite y1242 (
 let y1243 := y1239.2
 let y1244 := y1243.1
 .need (pre95 y1244) <|
 let y1245 := ((fn95 y1244) == true)
 .ite y1245 (
 let y1246 := y1243.2.1
 .need (pre74 y1246) <|
 let y1247 := ((fn74 y1246) == true)
 .ite y1247 (
 .need (((0 : Nat) + 2 : Nat) ≤ 2) <|
 .need (((0 : Nat) + 2 : Nat) ≤ 2) <|
 let y1248 : (Int × Unit) := (0, ())
 let y1249 : ((List Int) × (Int × Unit)) := (y1238, y1248)
 let y1250 : Int := (iand .u8 x.2.1 15)
 let y1251 : (List Int) := [15, (iadd .u8 128 y1250)]
 let y1252 : (Int × (Int × Int)) := (0, (0, 4))
 let y1253 : (((List Int) × (Int × Unit)) × ((Unit × (Unit × ((List Int) × (Int × (Int × Int))))) × Bool)) := (y1249, (((), ((), (y1251, y1252))), true))
 .ret (.inr y1253)) (
 let y1254 : Int := (iand .u8 x.2.1 15)
 let y1255 : (List Int) := [15, (iadd .u8 128 y1254)]
 .ret (.inl (.h14 y1238 y1255)))) (
 let y1256 : Int := (iand .u8 x.2.1 15)
 let y1257 : (List Int) := [15, (iadd .u8 128 y1256)]
 .ret (.inl (.h14 y1238 y1257)))) (
 let y1258 : Int := (iand .u8 x.2.1 15)
 let y1259 : (List Int) := [15, (iadd .u8 128 y1258)]
 .ret (.inl (.h14 y1238 y1259)))) (
 let y1260 := (ieq x.1 27)
 .ite y1260 (
 .need ((0 : Nat) < 1) <|
 .need ((0 : Nat) < 2) <|
 .need ((1 : Nat) < 2) <|
 .need ((0 : Int) ≤ 0) <|
 .need (0 < (1 : Int)) <|
 .need ((0 : Int) ≤ 0) <|
 .need (0 < (1 : Int)) <|
 .need (((0 : Nat) + 2 : Nat) ≤ 2) <|
 let y1261 : (List Int) := [8, 8]
 let y1262 := x.2.2
 let y1263 := y1262.1
 let y1264 : ((List Int) × Int) := (y1261, y1263)
 .need (pre51 y1264) <|
 let y1265 := ((fn51 y1264) == true)
 .ite y1265 (
 let y1266 := y1262.2
 let y1267 := y1266.1
 .need (pre95 y1267) <|
 let y1268 := ((fn95 y1267) == true)
 .ite y1268 (
 let y1269 := y1266.2.1
 .need (pre95 y1269) <|
 let y1270 := ((fn95 y1269) == true)
 .ite y1270 (
 .need (((0 : Nat) + 2 : Nat) ≤ 2) <|
 .need (((0 : Nat) + 1 : Nat) ≤ 1) <|
 let y1271 : (Int × Unit) := (0, ())
 let y1272 : ((List Int) × (Int × Unit)) := (y1261, y1271)
 let y1273 : (Int × (Int × Int)) := (0, (0, 0))
 let y1274 : (((List Int) × (Int × Unit)) × ((Unit × (Unit × ((List Int) × (Int × (Int × Int))))) × Bool)) := (y1272, (((), ((), ([195], y1273))), true))
 .ret (.inr y1274)) (
 .ret (.inl (.h15 y1261 [195])))) (
 .ret (.inl (.h15 y1261 [195])))) (
 .ret (.inl (.h15 y1261 [195])))) (
 let y1275 := (ieq x.1 34)
 .ite y1275 (
 .need ((0 : Nat) < 1) <|
 .need ((0 : Nat) < 2) <|
 .need ((1 : Nat) < 2) <|
 .need ((0 : Int) ≤ 0) <|
 .need (0 < (1 : Int)) <|
 .need ((0 : Int) ≤ 0) <|
 .need (0 < (1 : Int)) <|
 .need (((0 : Nat) + 2 : Nat) ≤ 2) <|
 let y1276 : (List Int) := [8, 8]
 let y1277 := x.2.2
 let y1278 := y1277.1
 let y1279 : ((List Int) × Int) := (y1276, y1278)
 .need (pre51 y1279) <|
 let y1280 := ((fn51 y1279) == true)
 .ite y1280 (
 let y1281 := y1277.2
 let y1282 := y1281.1
 .need (pre95 y1282) <|
 let y1283 := ((fn95 y1282) == true)
 .ite y1283 (
 let y1284 := y1281.2.1
 .need (pre95 y1284) <|
 let y1285 := ((fn95 y1284) == true)
 .ite y1285 (
 .need (((0 : Nat) + 2 : Nat) ≤ 2) <|
 .need (((0 : Nat) + 1 : Nat) ≤ 1) <|
 let y1286 : (Int × Unit) := (0, ())
 let y1287 : ((List Int) × (Int × Unit)) := (y1276, y1286)
 let y1288 : (Int × (Int × Int)) := (0, (0, 0))
 let y1289 : (((List Int) × (Int × Unit)) × ((Unit × (Unit × ((List Int) × (Int × (Int × Int))))) × Bool)) := (y1287, (((), ((), ([144], y1288))), true))
 .ret (.inr y1289)) (
 .ret (.inl (.h15 y1276 [144])))) (
 .ret (.inl (.h15 y1276 [144])))) (
 .ret (.inl (.h15 y1276 [144])))) (
 let y1290 := (ieq x.1 24)
 .ite y1290 (
 .need ((0 : Nat) < 1) <|
 .need ((0 : Nat) < 2) <|
 .need ((1 : Nat) < 2) <|
 .need ((0 : Int) ≤ 0) <|
 .need (0 < (1 : Int)) <|
 .need ((0 : Int) ≤ 0) <|
 .need (0 < (1 : Int)) <|
 .need (((0 : Nat) + 2 : Nat) ≤ 2) <|
 let y1291 : (List Int) := [8, 8]
 let y1292 := x.2.2
 let y1293 := y1292.1
 let y1294 : ((List Int) × Int) := (y1291, y1293)
 .need (pre51 y1294) <|
 let y1295 := ((fn51 y1294) == true)
 .ite y1295 (
 let y1296 := y1292.2
 let y1297 := y1296.1
 .need (pre71 y1297) <|
 let y1298 := ((fn71 y1297) == true)
 .ite y1298 (
 let y1299 := y1296.2.1
 .need (pre95 y1299) <|
 let y1300 := ((fn95 y1299) == true)
 .ite y1300 (
 .need (((0 : Nat) + 2 : Nat) ≤ 2) <|
 .need (((0 : Nat) + 1 : Nat) ≤ 1) <|
 let y1301 : (Int × Unit) := (0, ())
 let y1302 : ((List Int) × (Int × Unit)) := (y1291, y1301)
 let y1303 : (Int × (Int × Int)) := (0, (3, 0))
 let y1304 : (((List Int) × (Int × Unit)) × ((Unit × (Unit × ((List Int) × (Int × (Int × Int))))) × Bool)) := (y1302, (((), ((), ([80], y1303))), true))
 .ret (.inr y1304)) (
 .ret (.inl (.h16 y1291 [80])))) (
 .ret (.inl (.h16 y1291 [80])))) (
 .ret (.inl (.h16 y1291 [80])))) (
 .need ((0 : Nat) < 1) <|
 .need ((0 : Nat) < 2) <|
 .need ((1 : Nat) < 2) <|
 .need ((0 : Int) ≤ 0) <|
 .need (0 < (1 : Int)) <|
 .need ((0 : Int) ≤ 0) <|
 .need (0 < (1 : Int)) <|
 .need (((0 : Nat) + 2 : Nat) ≤ 2) <|
 let y1305 : (List Int) := [8, 8]
 let y1306 := x.2.2
 let y1307 := y1306.1
 let y1308 : ((List Int) × Int) := (y1305, y1307)
 .need (pre51 y1308) <|
 let y1309 := ((fn51 y1308) == true)
 .ite y1309 (
 let y1310 := y1306.2
 let y1311 := y1310.1
 .need (pre71 y1311) <|
 let y1312 := ((fn71 y1311) == true)
 .ite y1312 (
 let y1313 := y1310.2.1
 .need (pre95 y1313) <|
 let y1314 := ((fn95 y1313) == true)
 .ite y1314 (
 .need (((0 : Nat) + 2 : Nat) ≤ 2) <|
 .need (((0 : Nat) + 1 : Nat) ≤ 1) <|
 let y1315 : (Int × Unit) := (0, ())
 let y1316 : ((List Int) × (Int × Unit)) := (y1305, y1315)
 let y1317 : (Int × (Int × Int)) := (0, (3, 0))
 let y1318 : (((List Int) × (Int × Unit)) × ((Unit × (Unit × ((List Int) × (Int × (Int × Int))))) × Bool)) := (y1316, (((), ((), ([88], y1317))), true))
 .ret (.inr y1318)) (
 .ret (.inl (.h16 y1305 [88])))) (
 .ret (.inl (.h16 y1305 [88])))) (
 .ret (.inl (.h16 y1305 [88]))))))))))) (
 .ite y667 (
 .need ((0 : Nat) < 1) <|
 .need ((0 : Nat) < 2) <|
 .need ((1 : Nat) < 2) <|
 .need ((0 : Int) ≤ 0) <|
 .need (0 < (1 : Int)) <|
 .need ((0 : Int) ≤ 0) <|
 .need (0 < (1 : Int)) <|
 .need (((0 : Nat) + 2 : Nat) ≤ 2) <|
 let y1319 : (List Int) := [8, 8]
 let y1320 := x.2.2
 let y1321 := y1320.1
 let y1322 : ((List Int) × Int) := (y1319, y1321)
 .need (pre51 y1322) <|
 let y1323 := ((fn51 y1322) == true)
 .ite y1323 (
 let y1324 := y1320.2
 let y1325 := y1324.1
 .need (pre95 y1325) <|
 let y1326 := ((fn95 y1325) == true)
 .ite y1326 (
 let y1327 := y1324.2.1
 .need (pre74 y1327) <|
 let y1328 := ((fn74 y1327) == true)
 .ite y1328 (
 .need (((0 : Nat) + 2 : Nat) ≤ 2) <|
 .need (((0 : Nat) + 1 : Nat) ≤ 1) <|
 let y1329 : (Int × Unit) := (0, ())
 let y1330 : ((List Int) × (Int × Unit)) := (y1319, y1329)
 let y1331 : (Int × (Int × Int)) := (0, (0, 4))
 let y1332 : (((List Int) × (Int × Unit)) × ((Unit × (Unit × ((List Int) × (Int × (Int × Int))))) × Bool)) := (y1330, (((), ((), ([232], y1331))), true))
 .ret (.inr y1332)) (
 .ret (.inl (.h12 y1319 [232])))) (
 .ret (.inl (.h12 y1319 [232])))) (
 .ret (.inl (.h12 y1319 [232])))) (
 let y1333 := (ieq x.1 28)
 .ite y1333 (
 .need ((0 : Nat) < 1) <|
 .need ((0 : Nat) < 1) <|
 .need ((0 : Nat) < 2) <|
 .need ((1 : Nat) < 2) <|
 .need ((0 : Int) ≤ 0) <|
 .need (0 < (1 : Int)) <|
 .need ((0 : Int) ≤ 0) <|
 .need (0 < (2 : Int)) <|
 .need (((0 : Nat) + 2 : Nat) ≤ 2) <|
 let y1334 : (List Int) := [8, 8]
 let y1335 := x.2.2
 let y1336 := y1335.1
 let y1337 : ((List Int) × Int) := (y1334, y1336)
 .need (pre51 y1337) <|
 let y1338 := ((fn51 y1337) == true)
 .ite y1338 (
 let y1339 := y1335.2
 let y1340 := y1339.1
 .need (pre95 y1340) <|
 let y1341 := ((fn95 y1340) == true)
 .ite y1341 (
 let y1342 := y1339.2.1
 .need (pre74 y1342) <|
 let y1343 := ((fn74 y1342) == true)
 .ite y1343 (
 .need (((0 : Nat) + 2 : Nat) ≤ 2) <|
 .need (((0 : Nat) + 1 : Nat) ≤ 1) <|
 let y1344 : (Int × Unit) := (0, ())
 let y1345 : ((List Int) × (Int × Unit)) := (y1334, y1344)
 let y1346 : (Int × (Int × Int)) := (0, (0, 4))
 let y1347 : (((List Int) × (Int × Unit)) × ((Unit × (Unit × ((List Int) × (Int × (Int × Int))))) × Bool)) := (y1345, (((), ((), ([233], y1346))), true))
 .ret (.inr y1347)) (
 .ret (.inl (.h13 y1334 [233] [255])))) (
 .ret (.inl (.h13 y1334 [233] [255])))) (
 .ret (.inl (.h13 y1334 [233] [255])))) (
 let y1348 := (ieq x.1 29)
 .ite y1348 (
 .need ((0 : Nat) < 2) <|
 .need ((1 : Nat) < 2) <|
 .need ((0 : Nat) < 2) <|
 .need ((1 : Nat) < 2) <|
 .need ((0 : Int) ≤ 0) <|
 .need (0 < (1 : Int)) <|
 .need ((0 : Int) ≤ 0) <|
 .need (0 < (1 : Int)) <|
 .need (((0 : Nat) + 2 : Nat) ≤ 2) <|
 let y1349 : (List Int) := [8, 8]
 let y1350 := x.2.2
 let y1351 := y1350.1
 let y1352 : ((List Int) × Int) := (y1349, y1351)
 .need (pre51 y1352) <|
 let y1353 := ((fn51 y1352) == true)
 .ite y1353 (
 let y1354 := y1350.2
 let y1355 := y1354.1
 .need (pre95 y1355) <|
 let y1356 := ((fn95 y1355) == true)
 .ite y1356 (
 let y1357 := y1354.2.1
 .need (pre74 y1357) <|
 let y1358 := ((fn74 y1357) == true)
 .ite y1358 (
 .need (((0 : Nat) + 2 : Nat) ≤ 2) <|
 .need (((0 : Nat) + 2 : Nat) ≤ 2) <|
 let y1359 : (Int × Unit) := (0, ())
 let y1360 : ((List Int) × (Int × Unit)) := (y1349, y1359)
 let y1361 : Int := (iand .u8 x.2.1 15)
 let y1362 : (List Int) := [15, (iadd .u8 128 y1361)]
 let y1363 : (Int × (Int × Int)) := (0, (0, 4))
 let y1364 : (((List Int) × (Int × Unit)) × ((Unit × (Unit × ((List Int) × (Int × (Int × Int))))) × Bool)) := (y1360, (((), ((), (y1362, y1363))), true))
 .ret (.inr y1364)) (
 let y1365 : Int := (iand .u8 x.2.1 15)
 let y1366 : (List Int) := [15, (iadd .u8 128 y1365)]
 .ret (.inl (.h14 y1349 y1366)))) (
 let y1367 : Int := (iand .u8 x.2.1 15)
 let y1368 : (List Int) := [15, (iadd .u8 128 y1367)]
 .ret (.inl (.h14 y1349 y1368)))) (
 let y1369 : Int := (iand .u8 x.2.1 15)
 let y1370 : (List Int) := [15, (iadd .u8 128 y1369)]
 .ret (.inl (.h14 y1349 y1370)))) (
 let y1371 := (ieq x.1 27)
 .ite y1371 (
 .need ((0 : Nat) < 1) <|
 .need ((0 : Nat) < 2) <|
 .need ((1 : Nat) < 2) <|
 .need ((0 : Int) ≤ 0) <|
 .need (0 < (1 : Int)) <|
 .need ((0 : Int) ≤ 0) <|
 .need (0 < (1 : Int)) <|
 .need (((0 : Nat) + 2 : Nat) ≤ 2) <|
 let y1372 : (List Int) := [8, 8]
 let y1373 := x.2.2
 let y1374 := y1373.1
 let y1375 : ((List Int) × Int) := (y1372, y1374)
 .need (pre51 y1375) <|
 let y1376 := ((fn51 y1375) == true)
 .ite y1376 (
 let y1377 := y1373.2
 let y1378 := y1377.1
 .need (pre95 y1378) <|
 let y1379 := ((fn95 y1378) == true)
 .ite y1379 (
 let y1380 := y1377.2.1
 .need (pre95 y1380) <|
 let y1381 := ((fn95 y1380) == true)
 .ite y1381 (
 .need (((0 : Nat) + 2 : Nat) ≤ 2) <|
 .need (((0 : Nat) + 1 : Nat) ≤ 1) <|
 let y1382 : (Int × Unit) := (0, ())
 let y1383 : ((List Int) × (Int × Unit)) := (y1372, y1382)
 let y1384 : (Int × (Int × Int)) := (0, (0, 0))
 let y1385 : (((List Int) × (Int × Unit)) × ((Unit × (Unit × ((List Int) × (Int × (Int × Int))))) × Bool)) := (y1383, (((), ((), ([195], y1384))), true))
 .ret (.inr y1385)) (
 .ret (.inl (.h15 y1372 [195])))) (
 .ret (.inl (.h15 y1372 [195])))) (
 .ret (.inl (.h15 y1372 [195])))) (
 let y1386 := (ieq x.1 34)
 .ite y1386 (
 .need ((0 : Nat) < 1) <|
 .need ((0 : Nat) < 2) <|
 .need ((1 : Nat) < 2) <|
 .need ((0 : Int) ≤ 0) <|
 .need (0 < (1 : Int)) <|
 .need ((0 : Int) ≤ 0) <|
 .need (0 < (1 : Int)) <|
 .need (((0 : Nat) + 2 : Nat) ≤ 2) <|
 let y1387 : (List Int) := [8, 8]
 let y1388 := x.2.2
 let y1389 := y1388.1
 let y1390 : ((List Int) × Int) := (y1387, y1389)
 .need (pre51 y1390) <|
 let y1391 := ((fn51 y1390) == true)
 .ite y1391 (
 let y1392 := y1388.2
 let y1393 := y1392.1
 .need (pre95 y1393) <|
 let y1394 := ((fn95 y1393) == true)
 .ite y1394 (
 let y1395 := y1392.2.1
 .need (pre95 y1395) <|
 let y1396 := ((fn95 y1395) == true)
 .ite y1396 (
 .need (((0 : Nat) + 2 : Nat) ≤ 2) <|
 .need (((0 : Nat) + 1 : Nat) ≤ 1) <|
 let y1397 : (Int × Unit) := (0, ())
 let y1398 : ((List Int) × (Int × Unit)) := (y1387, y1397)
 let y1399 : (Int × (Int × Int)) := (0, (0, 0))
 let y1400 : (((List Int) × (Int × Unit)) × ((Unit × (Unit × ((List Int) × (Int × (Int × Int))))) × Bool)) := (y1398, (((), ((), ([144], y1399))), true))
 .ret (.inr y1400)) (
 .ret (.inl (.h15 y1387 [144])))) (
 .ret (.inl (.h15 y1387 [144])))) (
 .ret (.inl (.h15 y1387 [144])))) (
 let y1401 := (ieq x.1 24)
 .ite y1401 (
 .need ((0 : Nat) < 1) <|
 .need ((0 : Nat) < 2) <|
 .need ((1 : Nat) < 2) <|
 .need ((0 : Int) ≤ 0) <|
 .need (0 < (1 : Int)) <|
 .need ((0 : Int) ≤ 0) <|
 .need (0 < (1 : Int)) <|
 .need (((0 : Nat) + 2 : Nat) ≤ 2) <|
 let y1402 : (List Int) := [8, 8]
 let y1403 := x.2.2
 let y1404 := y1403.1
 let y1405 : ((List Int) × Int) := (y1402, y1404)
 .need (pre51 y1405) <|
 let y1406 := ((fn51 y1405) == true)
 .ite y1406 (
 let y1407 := y1403.2
 let y1408 := y1407.1
 .need (pre71 y1408) <|
 let y1409 := ((fn71 y1408) == true)
 .ite y1409 (
 let y1410 := y1407.2.1
 .need (pre95 y1410) <|
 let y1411 := ((fn95 y1410) == true)
 .ite y1411 (
 .need (((0 : Nat) + 2 : Nat) ≤ 2) <|
 .need (((0 : Nat) + 1 : Nat) ≤ 1) <|
 let y1412 : (Int × Unit) := (0, ())
 let y1413 : ((List Int) × (Int × Unit)) := (y1402, y1412)
 let y1414 : (Int × (Int × Int)) := (0, (3, 0))
 let y1415 : (((List Int) × (Int × Unit)) × ((Unit × (Unit × ((List Int) × (Int × (Int × Int))))) × Bool)) := (y1413, (((), ((), ([80], y1414))), true))
 .ret (.inr y1415)) (
 .ret (.inl (.h16 y1402 [80])))) (
 .ret (.inl (.h16 y1402 [80])))) (
 .ret (.inl (.h16 y1402 [80])))) (
 .need ((0 : Nat) < 1) <|
 .need ((0 : Nat) < 2) <|
 .need ((1 : Nat) < 2) <|
 .need ((0 : Int) ≤ 0) <|
 .need (0 < (1 : Int)) <|
 .need ((0 : Int) ≤ 0) <|
 .need (0 < (1 : Int)) <|
 .need (((0 : Nat) + 2 : Nat) ≤ 2) <|
 let y1416 : (List Int) := [8, 8]
 let y1417 := x.2.2
 let y1418 := y1417.1
 let y1419 : ((List Int) × Int) := (y1416, y1418)
 .need (pre51 y1419) <|
 let y1420 := ((fn51 y1419) == true)
 .ite y1420 (
 let y1421 := y1417.2
 let y1422 := y1421.1
 .need (pre71 y1422) <|
 let y1423 := ((fn71 y1422) == true)
 .ite y1423 (
 let y1424 := y1421.2.1
 .need (pre95 y1424) <|
 let y1425 := ((fn95 y1424) == true)
 .ite y1425 (
 .need (((0 : Nat) + 2 : Nat) ≤ 2) <|
 .need (((0 : Nat) + 1 : Nat) ≤ 1) <|
 let y1426 : (Int × Unit) := (0, ())
 let y1427 : ((List Int) × (Int × Unit)) := (y1416, y1426)
 let y1428 : (Int × (Int × Int)) := (0, (3, 0))
 let y1429 : (((List Int) × (Int × Unit)) × ((Unit × (Unit × ((List Int) × (Int × (Int × Int))))) × Bool)) := (y1427, (((), ((), ([88], y1428))), true))
 .ret (.inr y1429)) (
 .ret (.inl (.h16 y1416 [88])))) (
 .ret (.inl (.h16 y1416 [88])))) (
 .ret (.inl (.h16 y1416 [88])))))))))))))))))))))))))))))))))))
 | .h1 v43 v59 v65 v68 v69 v70 v71 =>
 .need ((0 : Int) ≤ 1) <|
 .need (1 < (4 : Int)) <|
 .need (((0 : Nat) + 2 : Nat) ≤ 2) <|
 let y0 : (List Int) := (v43.take 2)
 let y1 := x.2.2
 let y2 : ((List Int) × Int) := (y0, y1.1)
 .need (pre51 y2) <|
 .ite ((fn51 y2) == true) (
 let y3 := y1.2
 let y4 := y3.1
 .need (pre71 y4) <|
 .ite ((fn71 y4) == true) (
 let y5 := y3.2.1
 .need (pre72 y5) <|
 .ite ((fn72 y5) == true) (
 .need (((0 : Nat) + 2 : Nat) ≤ 2) <|
 .need (((0 : Nat) + 1 : Nat) ≤ 1) <|
 .ret (.inr ((y0, (0, ())), (((), ((), ((v69.take 1), ((-1), (2, 0))))), true)))) (
 .ret (.inl (.h18 v43 v59 v65 v68 v69 v70 v71)))) (
 .ret (.inl (.h18 v43 v59 v65 v68 v69 v70 v71)))) (
 .ret (.inl (.h18 v43 v59 v65 v68 v69 v70 v71)))
 | .h2 v43 v62 v63 v64 v86 v105 v106 v107 v108 v115 =>
 .need ((0 : Int) ≤ 1) <|
 .need (1 < (3 : Int)) <|
 .need (((0 : Nat) + 1 : Nat) ≤ 1) <|
 let y0 : (List Int) := (v43.take 1)
 let y1 := x.2.2
 let y2 : ((List Int) × Int) := (y0, y1.1)
 .need (pre51 y2) <|
 .ite ((fn51 y2) == true) (
 let y3 := y1.2
 let y4 := y3.1
 .need (pre71 y4) <|
 .ite ((fn71 y4) == true) (
 let y5 := y3.2.1
 .need (pre72 y5) <|
 .ite ((fn72 y5) == true) (
 .need (((0 : Nat) + 1 : Nat) ≤ 1) <|
 .need (((0 : Nat) + 1 : Nat) ≤ 1) <|
 .ret (.inr ((y0, (0, ())), (((), ((), ((v63.take 1), ((-1), (2, 0))))), true)))) (
 .ret (.inl (.h19 v43 v62 v63 v64 v86 v105 v106 v107 v108 v115)))) (
 .ret (.inl (.h19 v43 v62 v63 v64 v86 v105 v106 v107 v108 v115)))) (
 .ret (.inl (.h19 v43 v62 v63 v64 v86 v105 v106 v107 v108 v115)))
 | .h3 v43 v50 =>
 .ret (.inl (.h17))
 | .h4 v43 v56 v57 =>
 .need ((0 : Int) ≤ 1) <|
 .need (1 < (2 : Int)) <|
 .need (((0 : Nat) + 2 : Nat) ≤ 2) <|
 let y0 : (List Int) := (v43.take 2)
 let y1 := x.2.2
 let y2 : ((List Int) × Int) := (y0, y1.1)
 .need (pre51 y2) <|
 .ite ((fn51 y2) == true) (
 let y3 := y1.2
 let y4 := y3.1
 .need (pre70 y4) <|
 .ite ((fn70 y4) == true) (
 let y5 := y3.2.1
 .need (pre74 y5) <|
 .ite ((fn74 y5) == true) (
 .need (((0 : Nat) + 2 : Nat) ≤ 2) <|
 .need (((0 : Nat) + 1 : Nat) ≤ 1) <|
 .ret (.inr ((y0, (0, ())), (((), ((), ((v57.take 1), (0, (1, 4))))), true)))) (
 .ret (.inl (.h20 v43 v56 v57)))) (
 .ret (.inl (.h20 v43 v56 v57)))) (
 .ret (.inl (.h20 v43 v56 v57)))
 | .h5 v43 v47 v50 =>
 .ret (.inl (.h17))
 | .h6 v43 v47 v53 v56 v57 =>
 .need ((0 : Int) ≤ 1) <|
 .need (1 < (2 : Int)) <|
 .need (((0 : Nat) + 2 : Nat) ≤ 2) <|
 let y0 : (List Int) := (v43.take 2)
 let y1 := x.2.2
 let y2 : ((List Int) × Int) := (y0, y1.1)
 .need (pre51 y2) <|
 .ite ((fn51 y2) == true) (
 let y3 := y1.2
 let y4 := y3.1
 .need (pre70 y4) <|
 .ite ((fn70 y4) == true) (
 let y5 := y3.2.1
 .need (pre81 y5) <|
 .ite ((fn81 y5) == true) (
 .need (((0 : Nat) + 2 : Nat) ≤ 2) <|
 .need (((0 : Nat) + 1 : Nat) ≤ 1) <|
 .ret (.inr ((y0, (0, ())), (((), ((), ((v57.take 1), (v53, (1, 0))))), true)))) (
 .ret (.inl (.h21 v43 v47 v53 v56 v57)))) (
 .ret (.inl (.h21 v43 v47 v53 v56 v57)))) (
 .ret (.inl (.h21 v43 v47 v53 v56 v57)))
 | .h7 v43 v50 =>
 .ret (.inl (.h17))
 | .h8 v43 v50 =>
 .ret (.inl (.h17))
 | .h9 v43 v56 v57 =>
 .need ((0 : Int) ≤ 1) <|
 .need (1 < (2 : Int)) <|
 .need (((0 : Nat) + 1 : Nat) ≤ 1) <|
 let y0 : (List Int) := (v43.take 1)
 let y1 := x.2.2
 let y2 : ((List Int) × Int) := (y0, y1.1)
 .need (pre51 y2) <|
 .ite ((fn51 y2) == true) (
 let y3 := y1.2
 let y4 := y3.1
 .need (pre72 y4) <|
 .ite ((fn72 y4) == true) (
 let y5 := y3.2.1
 .need (pre77 y5) <|
 .ite ((fn77 y5) == true) (
 .need (((0 : Nat) + 1 : Nat) ≤ 1) <|
 .need (((0 : Nat) + 2 : Nat) ≤ 2) <|
 .ret (.inr ((y0, (243, ())), (((), ((), ((v57.take 2), ((-1), (1, 0))))), true)))) (
 .ret (.inl (.h22 v43 v56 v57)))) (
 .ret (.inl (.h22 v43 v56 v57)))) (
 .ret (.inl (.h22 v43 v56 v57)))
 | .h10 v43 v50 =>
 .ret (.inl (.h17))
 | .h11 v43 v49 v50 =>
 .ret (.inl (.h17))
 | .h12 v43 v50 =>
 .ret (.inl (.h17))
 | .h13 v43 v56 v57 =>
 .need ((0 : Int) ≤ 1) <|
 .need (1 < (2 : Int)) <|
 .need (((0 : Nat) + 2 : Nat) ≤ 2) <|
 let y0 : (List Int) := (v43.take 2)
 let y1 := x.2.2
 let y2 : ((List Int) × Int) := (y0, y1.1)
 .need (pre51 y2) <|
 .ite ((fn51 y2) == true) (
 let y3 := y1.2
 let y4 := y3.1
 .need (pre70 y4) <|
 .ite ((fn70 y4) == true) (
 let y5 := y3.2.1
 .need (pre95 y5) <|
 .ite ((fn95 y5) == true) (
 .need (((0 : Nat) + 2 : Nat) ≤ 2) <|
 .need (((0 : Nat) + 1 : Nat) ≤ 1) <|
 .ret (.inr ((y0, (0, ())), (((), ((), ((v57.take 1), (4, (1, 0))))), true)))) (
 .ret (.inl (.h23 v43 v56 v57)))) (
 .ret (.inl (.h23 v43 v56 v57)))) (
 .ret (.inl (.h23 v43 v56 v57)))
 | .h14 v43 v50 =>
 .ret (.inl (.h17))
 | .h15 v43 v50 =>
 .ret (.inl (.h17))
 | .h16 v43 v50 =>
 .ret (.inl (.h17))
 | .h17 =>
 .ret (.inr ((([] : List Int), (0, ())), (((), ((), (([] : List Int), (0, (0, 0))))), false)))
 | .h18 v43 v59 v65 v68 v69 v70 v71 =>
 .need ((0 : Int) ≤ 2) <|
 .need (2 < (4 : Int)) <|
 .need (((0 : Nat) + 2 : Nat) ≤ 2) <|
 let y0 : (List Int) := (v43.take 2)
 let y1 := x.2.2
 let y2 : ((List Int) × Int) := (y0, y1.1)
 .need (pre51 y2) <|
 .ite ((fn51 y2) == true) (
 let y3 := y1.2
 let y4 := y3.1
 .need (pre70 y4) <|
 .ite ((fn70 y4) == true) (
 let y5 := y3.2.1
 .need (pre73 y5) <|
 .ite ((fn73 y5) == true) (
 .need (((0 : Nat) + 2 : Nat) ≤ 2) <|
 .need (((0 : Nat) + 1 : Nat) ≤ 1) <|
 .ret (.inr ((y0, (0, ())), (((), ((), ((v70.take 1), (v59, (1, 1))))), true)))) (
 .ret (.inl (.h24 v43 v59 v65 v68 v69 v70 v71)))) (
 .ret (.inl (.h24 v43 v59 v65 v68 v69 v70 v71)))) (
 .ret (.inl (.h24 v43 v59 v65 v68 v69 v70 v71)))
 | .h19 v43 v62 v63 v64 v86 v105 v106 v107 v108 v115 =>
 .need ((0 : Int) ≤ 2) <|
 .need (2 < (3 : Int)) <|
 .need (((0 : Nat) + 1 : Nat) ≤ 1) <|
 let y0 : (List Int) := (v43.take 1)
 let y1 := x.2.2
 let y2 : ((List Int) × Int) := (y0, y1.1)
 .need (pre51 y2) <|
 .ite ((fn51 y2) == true) (
 let y3 := y1.2
 let y4 := y3.1
 .need (pre70 y4) <|
 .ite ((fn70 y4) == true) (
 let y5 := y3.2.1
 .need (pre73 y5) <|
 .ite ((fn73 y5) == true) (
 .need (((0 : Nat) + 1 : Nat) ≤ 1) <|
 .need (((0 : Nat) + 1 : Nat) ≤ 1) <|
 .ret (.inr ((y0, (0, ())), (((), ((), ((v64.take 1), (0, (1, 1))))), true)))) (
 .ret (.inl (.h25 v43 v62 v63 v64 v86 v105 v106 v107 v108 v115)))) (
 .ret (.inl (.h25 v43 v62 v63 v64 v86 v105 v106 v107 v108 v115)))) (
 .ret (.inl (.h25 v43 v62 v63 v64 v86 v105 v106 v107 v108 v115)))
 | .h20 v43 v56 v57 =>
 .ret (.inl (.h17))
 | .h21 v43 v47 v53 v56 v57 =>
 .ret (.inl (.h17))
 | .h22 v43 v56 v57 =>
 .ret (.inl (.h17))
 | .h23 v43 v56 v57 =>
 .ret (.inl (.h17))
 | .h24 v43 v59 v65 v68 v69 v70 v71 =>
 .need ((0 : Int) ≤ 3) <|
 .need (3 < (4 : Int)) <|
 .need (((0 : Nat) + 2 : Nat) ≤ 2) <|
 let y0 : (List Int) := (v43.take 2)
 let y1 := x.2.2
 let y2 : ((List Int) × Int) := (y0, y1.1)
 .need (pre51 y2) <|
 .ite ((fn51 y2) == true) (
 let y3 := y1.2
 let y4 := y3.1
 .need (pre70 y4) <|
 .ite ((fn70 y4) == true) (
 let y5 := y3.2.1
 .need (pre74 y5) <|
 .ite ((fn74 y5) == true) (
 .need (((0 : Nat) + 2 : Nat) ≤ 2) <|
 .need (((0 : Nat) + 1 : Nat) ≤ 1) <|
 .ret (.inr ((y0, (0, ())), (((), ((), ((v71.take 1), (v65, (1, 4))))), true)))) (
 .ret (.inl (.h26 v43 v59 v65 v68 v69 v70 v71)))) (
 .ret (.inl (.h26 v43 v59 v65 v68 v69 v70 v71)))) (
 .ret (.inl (.h26 v43 v59 v65 v68 v69 v70 v71)))
 | .h25 v43 v62 v63 v64 v86 v105 v106 v107 v108 v115 =>
 .need ((0 : Int) ≤ 1) <|
 .need (1 < (3 : Int)) <|
 .need ((0 : Int) ≤ 0) <|
 .need (0 < (3 : Int)) <|
 .need (((0 : Nat) + 2 : Nat) ≤ 2) <|
 let y0 : (List Int) := (v86.take 2)
 let y1 := x.2.2
 let y2 : ((List Int) × Int) := (y0, y1.1)
 .need (pre51 y2) <|
 .ite ((fn51 y2) == true) (
 let y3 := y1.2
 let y4 := y3.1
 .need (pre70 y4) <|
 .ite ((fn70 y4) == true) (
 let y5 := y3.2.1
 .need (pre71 y5) <|
 .ite ((fn71 y5) == true) (
 .need (((0 : Nat) + 2 : Nat) ≤ 2) <|
 .need (((0 : Nat) + 1 : Nat) ≤ 1) <|
 .ret (.inr ((y0, (0, ())), (((), ((), ((v105.take 1), ((-1), (1, 0))))), true)))) (
 .ret (.inl (.h27 v86 v105 v106 v107 v43 v62 v63 v64 v108 v115)))) (
 .ret (.inl (.h27 v86 v105 v106 v107 v43 v62 v63 v64 v108 v115)))) (
 .ret (.inl (.h27 v86 v105 v106 v107 v43 v62 v63 v64 v108 v115)))
 | .h26 v43 v59 v65 v68 v69 v70 v71 =>
 .ret (.inl (.h17))
 | .h27 v43 v62 v63 v64 v86 v105 v106 v107 v108 v115 =>
 .need ((0 : Int) ≤ 1) <|
 .need (1 < (3 : Int)) <|
 .need (((0 : Nat) + 2 : Nat) ≤ 2) <|
 let y0 : (List Int) := (v43.take 2)
 let y1 := x.2.2
 let y2 : ((List Int) × Int) := (y0, y1.1)
 .need (pre51 y2) <|
 .ite ((fn51 y2) == true) (
 let y3 := y1.2
 let y4 := y3.1
 .need (pre71 y4) <|
 .ite ((fn71 y4) == true) (
 let y5 := y3.2.1
 .need (pre72 y5) <|
 .ite ((fn72 y5) == true) (
 .need (((0 : Nat) + 2 : Nat) ≤ 2) <|
 .need (((0 : Nat) + 1 : Nat) ≤ 1) <|
 .ret (.inr ((y0, (0, ())), (((), ((), ((v63.take 1), ((-1), (2, 0))))), true)))) (
 .ret (.inl (.h28 v43 v62 v63 v64 v86 v105 v106 v107 v108 v115)))) (
 .ret (.inl (.h28 v43 v62 v63 v64 v86 v105 v106 v107 v108 v115)))) (
 .ret (.inl (.h28 v43 v62 v63 v64 v86 v105 v106 v107 v108 v115)))
 | .h28 v43 v62 v63 v64 v86 v105 v106 v107 v108 v115 =>
 .need ((0 : Int) ≤ 2) <|
 .need (2 < (3 : Int)) <|
 .need (((0 : Nat) + 2 : Nat) ≤ 2) <|
 let y0 : (List Int) := (v43.take 2)
 let y1 := x.2.2
 let y2 : ((List Int) × Int) := (y0, y1.1)
 .need (pre51 y2) <|
 .ite ((fn51 y2) == true) (
 let y3 := y1.2
 let y4 := y3.1
 .need (pre70 y4) <|
 .ite ((fn70 y4) == true) (
 let y5 := y3.2.1
 .need (pre74 y5) <|
 .ite ((fn74 y5) == true) (
 .need (((0 : Nat) + 2 : Nat) ≤ 2) <|
 .need (((0 : Nat) + 1 : Nat) ≤ 1) <|
 .ret (.inr ((y0, (0, ())), (((), ((), ((v64.take 1), (0, (1, 4))))), true)))) (
 .ret (.inl (.h29 v43 v62 v63 v64 v86 v105 v106 v107 v108 v115)))) (
 .ret (.inl (.h29 v43 v62 v63 v64 v86 v105 v106 v107 v108 v115)))) (
 .ret (.inl (.h29 v43 v62 v63 v64 v86 v105 v106 v107 v108 v115)))
 | .h29 v43 v62 v63 v64 v86 v105 v106 v107 v108 v115 =>
 .need ((0 : Int) ≤ 2) <|
 .need (2 < (3 : Int)) <|
 .need ((0 : Int) ≤ 0) <|
 .need (0 < (1 : Int)) <|
 .need (((0 : Nat) + 1 : Nat) ≤ 1) <|
 let y0 : (List Int) := (v108.take 1)
 let y1 := x.2.2
 let y2 : ((List Int) × Int) := (y0, y1.1)
 .need (pre51 y2) <|
 .ite ((fn51 y2) == true) (
 let y3 := y1.2
 let y4 := y3.1
 .need (pre71 y4) <|
 .ite ((fn71 y4) == true) (
 let y5 := y3.2.1
 .need (pre107 y5) <|
 .ite ((fn107 y5) == true) (
 .need (((0 : Nat) + 1 : Nat) ≤ 1) <|
 .need (((0 : Nat) + 1 : Nat) ≤ 1) <|
 .ret (.inr ((y0, (0, ())), (((), ((), ((v115.take 1), (0, (3, 8))))), true)))) (
 .ret (.inl (.h30 v108 v115 v86 v105 v106 v107 v43 v62 v63 v64)))) (
 .ret (.inl (.h30 v108 v115 v86 v105 v106 v107 v43 v62 v63 v64)))) (
 .ret (.inl (.h30 v108 v115 v86 v105 v106 v107 v43 v62 v63 v64)))
 | .h30 v43 v50 v72 v91 v92 v93 v94 v113 v114 v115 =>
 .ret (.inl (.h17))
noncomputable def cRZF3_0 (x : DI) : AObj := .cell true 25 (.agg [1, 1, 1, 8, 8, 1, 1] [(.int .u8 x.1), (.int .u8 x.2.1), (.int .i64 x.2.2.1), (.agg [1, 1, 1, 1, 1, 1, 1, 1] [(.int .u8 x.2.2.2.1.1), (.int .i64 x.2.2.2.1.2.1), (.int .i64 x.2.2.2.1.2.2.1), (.int .i64 x.2.2.2.1.2.2.2.1), (.int .i64 x.2.2.2.1.2.2.2.2.1), (.int .i64 x.2.2.2.1.2.2.2.2.2.1), (.bool x.2.2.2.1.2.2.2.2.2.2.1), (.int .i64 x.2.2.2.1.2.2.2.2.2.2.2)]), (.agg [1, 1, 1, 1, 1, 1, 1, 1] [(.int .u8 x.2.2.2.2.1.1), (.int .i64 x.2.2.2.2.1.2.1), (.int .i64 x.2.2.2.2.1.2.2.1), (.int .i64 x.2.2.2.2.1.2.2.2.1), (.int .i64 x.2.2.2.2.1.2.2.2.2.1), (.int .i64 x.2.2.2.2.1.2.2.2.2.2.1), (.bool x.2.2.2.2.1.2.2.2.2.2.2.1), (.int .i64 x.2.2.2.2.1.2.2.2.2.2.2.2)]), (.int .u8 x.2.2.2.2.2.1), (.int .i64 x.2.2.2.2.2.2)])
noncomputable def cRZF3_1 : AObj := .cell true 49 (.agg [6, 6, 6] [(.agg [1, 1, 1, 1, 1, 1] [(.fn 70 []), (.fn 71 []), (.osl 10 [] 1 0 1 (some 1)), (.int .i64 (-1)), (.int .i64 1), (.int .i64 0)]), (.agg [1, 1, 1, 1, 1, 1] [(.fn 71 []), (.fn 72 []), (.osl 11 [] 1 0 1 (some 1)), (.int .i64 (-1)), (.int .i64 2), (.int .i64 0)]), (.agg [1, 1, 1, 1, 1, 1] [(.fn 70 []), (.fn 73 []), (.osl 12 [] 1 0 1 (some 1)), (.int .i64 0), (.int .i64 1), (.int .i64 1)])])
noncomputable def cRZF3_2 : AObj := .cell true 49 (.agg [6, 6, 6] [(.agg [1, 1, 1, 1, 1, 1] [(.fn 70 []), (.fn 71 []), (.osl 16 [] 1 0 1 (some 1)), (.int .i64 (-1)), (.int .i64 1), (.int .i64 0)]), (.agg [1, 1, 1, 1, 1, 1] [(.fn 71 []), (.fn 72 []), (.osl 17 [] 1 0 1 (some 1)), (.int .i64 (-1)), (.int .i64 2), (.int .i64 0)]), (.agg [1, 1, 1, 1, 1, 1] [(.fn 70 []), (.fn 74 []), (.osl 18 [] 1 0 1 (some 1)), (.int .i64 0), (.int .i64 1), (.int .i64 4)])])
noncomputable def cRZF3_3 : AObj := .cell true 49 (.agg [6, 6, 6] [(.agg [1, 1, 1, 1, 1, 1] [(.fn 70 []), (.fn 71 []), (.osl 10 [] 1 0 1 (some 1)), (.int .i64 (-1)), (.int .i64 1), (.int .i64 0)]), (.agg [1, 1, 1, 1, 1, 1] [(.fn 71 []), (.fn 72 []), (.osl 11 [] 1 0 1 (some 1)), (.int .i64 (-1)), (.int .i64 2), (.int .i64 0)]), (.agg [1, 1, 1, 1, 1, 1] [(.fn 70 []), (.fn 74 []), (.osl 12 [] 1 0 1 (some 1)), (.int .i64 0), (.int .i64 1), (.int .i64 4)])])
noncomputable def cRZF3_4 : AObj := .cell true 49 (.agg [6, 6, 6] [(.agg [1, 1, 1, 1, 1, 1] [(.fn 70 []), (.fn 71 []), (.osl 16 [] 1 0 1 (some 1)), (.int .i64 (-1)), (.int .i64 1), (.int .i64 0)]), (.agg [1, 1, 1, 1, 1, 1] [(.fn 71 []), (.fn 72 []), (.osl 17 [] 1 0 1 (some 1)), (.int .i64 (-1)), (.int .i64 2), (.int .i64 0)]), (.agg [1, 1, 1, 1, 1, 1] [(.fn 70 []), (.fn 73 []), (.osl 18 [] 1 0 1 (some 1)), (.int .i64 0), (.int .i64 1), (.int .i64 1)])])
noncomputable def cRZF3_5 : AObj := .cell true 45 (.agg [3, 3, 3] [(.agg [1, 1, 1] [(.osl 8 [] 1 0 1 (some 1)), (.int .u8 0), (.osl 9 [] 6 0 3 (some 3))]), (.agg [1, 1, 1] [(.osl 14 [] 1 0 2 (some 2)), (.int .u8 0), (.osl 15 [] 6 0 3 (some 3))]), (.agg [1, 1, 1] [(.osl 19 [] 1 0 1 (some 1)), (.int .u8 0), (.osl 20 [] 6 0 1 (some 1))])])
noncomputable def cRZF3_6 : AObj := .cell true 45 (.agg [3, 3, 3] [(.agg [1, 1, 1] [(.osl 14 [] 1 0 1 (some 1)), (.int .u8 0), (.osl 15 [] 6 0 3 (some 3))]), (.agg [1, 1, 1] [(.osl 8 [] 1 0 2 (some 2)), (.int .u8 0), (.osl 9 [] 6 0 3 (some 3))]), (.agg [1, 1, 1] [(.osl 19 [] 1 0 1 (some 1)), (.int .u8 0), (.osl 20 [] 6 0 1 (some 1))])])
noncomputable def cRZF3_7 : AObj := .cell true 49 (.agg [6, 6] [(.agg [1, 1, 1, 1, 1, 1] [(.fn 77 []), (.fn 78 []), (.osl 10 [] 1 0 2 (some 2)), (.int .i64 (-1)), (.int .i64 2), (.int .i64 0)]), (.agg [1, 1, 1, 1, 1, 1] [(.fn 72 []), (.fn 77 []), (.osl 11 [] 1 0 2 (some 2)), (.int .i64 (-1)), (.int .i64 1), (.int .i64 0)])])
noncomputable def cRZF3_8 : AObj := .cell true 49 (.agg [6, 6] [(.agg [1, 1, 1, 1, 1, 1] [(.fn 70 []), (.fn 71 []), (.osl 10 [] 1 0 1 (some 1)), (.int .i64 (-1)), (.int .i64 1), (.int .i64 0)]), (.agg [1, 1, 1, 1, 1, 1] [(.fn 70 []), (.fn 74 []), (.osl 11 [] 1 0 1 (some 1)), (.int .i64 0), (.int .i64 1), (.int .i64 4)])])
noncomputable def cRZF3_9 : AObj := .cell true 49 (.agg [6, 6] [(.agg [1, 1, 1, 1, 1, 1] [(.fn 95 []), (.fn 74 []), (.osl 10 [] 1 0 1 (some 1)), (.int .i64 0), (.int .i64 0), (.int .i64 4)]), (.agg [1, 1, 1, 1, 1, 1] [(.fn 70 []), (.fn 95 []), (.osl 11 [] 1 0 1 (some 1)), (.int .i64 4), (.int .i64 1), (.int .i64 0)])])
noncomputable def cRZF3_10 : AObj := .cell true 49 (.agg [6] [(.agg [1, 1, 1, 1, 1, 1] [(.fn 71 []), (.fn 107 []), (.osl 21 [] 1 0 1 (some 1)), (.int .i64 0), (.int .i64 3), (.int .i64 8)])])
noncomputable def cRZF3_11 : AObj := .cell true 49 (.agg [1, 1, 1, 1, 1, 1] [(.raw .nilFunc), (.raw .nilFunc), (.raw (.slice none 0 0)), (.int .i64 0), (.int .i64 0), (.int .i64 0)])
noncomputable def cRZF3_12 : AObj := .cell true 45 (.agg [3] [(.agg [1, 1, 1] [(.osl 8 [] 1 0 2 (some 2)), (.int .u8 0), (.osl 9 [] 6 0 4 (some 4))])])
noncomputable def cRZF3_13 : AObj := .cell true 45 (.agg [3] [(.agg [1, 1, 1] [(.osl 8 [] 1 0 2 (some 2)), (.int .u8 0), (.osl 9 [] 6 0 1 (some 1))])])
noncomputable def cRZF3_14 : AObj := .cell true 45 (.agg [3] [(.agg [1, 1, 1] [(.osl 8 [] 1 0 2 (some 2)), (.int .u8 0), (.osl 9 [] 6 0 2 (some 2))])])
noncomputable def cRZF3_15 : AObj := .cell true 45 (.agg [1, 1, 1] [(.osl 8 [] 1 0 2 (some 2)), (.int .u8 0), (.osl 9 [] 6 0 4 (some 4))])
noncomputable def cRZF3_16 : AObj := .cell true 45 (.agg [1, 1, 1] [(.osl 8 [] 1 0 1 (some 1)), (.int .u8 0), (.osl 9 [] 6 0 3 (some 3))])
noncomputable def cRZF3_17 : AObj := .cell true 45 (.agg [1, 1, 1] [(.osl 8 [] 1 0 2 (some 2)), (.int .u8 0), (.osl 9 [] 6 0 1 (some 1))])
noncomputable def cRZF3_18 : AObj := .cell true 45 (.agg [1, 1, 1] [(.osl 8 [] 1 0 2 (some 2)), (.int .u8 0), (.osl 9 [] 6 0 2 (some 2))])
noncomputable def cRZF3_19 : AObj := .cell true 45 (.agg [1, 1, 1] [(.osl 8 [] 1 0 2 (some 2)), (.int .u8 0), (.osl 9 [] 6 0 3 (some 3))])
noncomputable def cRZF3_20 : AObj := .cell true 45 (.agg [1, 1, 1] [(.raw (.slice none 0 0)), (.int .u8 0), (.raw (.slice none 0 0))])
noncomputable def head14 (x : DI) : J14 → Head
 | .h0 =>
 { fr := { id := 14, kind := .top, T := [.any, (.ptr 0 []), (.ptr 1 []), (.ptr 2 []), (.ptr 3 [])] ++ List.replicate 48 .any, items := [.code (subc [1, 1, 1, 0, 0] (bodyOf Tryz.f14)), .code (subc [1, 1, 1, 0, 1] (bodyOf Tryz.f14)), .code (subc [1, 1, 1, 1] (bodyOf Tryz.f14))], D := [], base := 0 },
   stk := [],
   H := [(cRZF3_0 x), cRZF3_20, cRZF3_11, .cell true 4 (.bool false)] }
 | .h1 v43 v59 v65 v68 v69 v70 v71 =>
 { fr := { id := 49, kind := (.iter 6), T := [(.yld 6), (.ptr 4 []), .any, .any, (.ptr 7 [])] ++ List.replicate 7 .any ++ [(.osl 14 [] 3 0 1 (some 1)), (.int .i64 1), (.int .i64 0)] ++ List.replicate 4 .any ++ [(.osl 9 [] 6 0 4 (some 4)), (.int .i64 4), (.int .i64 0)] ++ List.replicate 31 .any, items := [.code (subc [1, 0, 0, 1, 1, 0, 0, 1, 1, 0, 0, 1, 1, 1] (bodyOf Tryz.f49)), .lp (subc [1, 0, 0, 1, 1, 0, 0, 1, 1, 0, 0] (bodyOf Tryz.f49)), .blk 2, .blk 1, .code (subc [1, 0, 0, 1, 1, 1] (bodyOf Tryz.f49)), .lp (subc [1, 0, 0] (bodyOf Tryz.f49)), .blk 0], D := [], base := 7 },
   stk := [{ id := 14, kind := .top, T := [.any, .any, (.ptr 1 []), (.ptr 2 []), (.ptr 3 [])] ++ List.replicate 48 .any, items := [.fin 6, .blk 0, .code (subc [1, 1, 1, 1] (bodyOf Tryz.f14))], D := [5], base := 0 }],
   H := [.dead, cRZF3_20, cRZF3_11, .cell true 4 (.bool false), (cRZF3_0 x), .dfd, .loop .ready none 14 ([.any, .any, (.ptr 1 []), (.ptr 2 []), (.ptr 3 [])] ++ List.replicate 48 .any) [47, 48] (subc [1, 1, 1, 0, 1, 0, 0] (bodyOf Tryz.f14)) (subc [1, 1, 1, 0, 1, 0, 1] (bodyOf Tryz.f14)) 5, cRZF3_15, .cell true 3 (.arr 2 (.int .i64) v43), .cell true 49 (.agg [6, 6, 6, 6] [(.agg [1, 1, 1, 1, 1, 1] [(.fn 70 []), (.fn 71 []), (.osl 10 [] 1 0 1 (some 1)), (.int .i64 (-1)), (.int .i64 1), (.int .i64 0)]), (.agg [1, 1, 1, 1, 1, 1] [(.fn 71 []), (.fn 72 []), (.osl 11 [] 1 0 1 (some 1)), (.int .i64 (-1)), (.int .i64 2), (.int .i64 0)]), (.agg [1, 1, 1, 1, 1, 1] [(.fn 70 []), (.fn 73 []), (.osl 12 [] 1 0 1 (some 1)), (.int .i64 v59), (.int .i64 1), (.int .i64 1)]), (.agg [1, 1, 1, 1, 1, 1] [(.fn 70 []), (.fn 74 []), (.osl 13 [] 1 0 1 (some 1)), (.int .i64 v65), (.int .i64 1), (.int .i64 4)])]), .cell true 5 (.arr 1 (.int .u8) v68), .cell true 5 (.arr 1 (.int .u8) v69), .cell true 5 (.arr 1 (.int .u8) v70), .cell true 5 (.arr 1 (.int .u8) v71), cRZF3_12] }
 | .h2 v43 v62 v63 v64 v86 v105 v106 v107 v108 v115 =>
 { fr := { id := 49, kind := (.iter 6), T := [(.yld 6), (.ptr 4 []), .any, .any, (.ptr 7 [])] ++ List.replicate 7 .any ++ [(.osl 13 [] 3 0 3 (some 3)), (.int .i64 3), (.int .i64 0)] ++ List.replicate 4 .any ++ [(.osl 9 [] 6 0 3 (some 3)), (.int .i64 3), (.int .i64 0)] ++ List.replicate 31 .any, items := [.code (subc [1, 0, 0, 1, 1, 0, 0, 1, 1, 0, 0, 1, 1, 1] (bodyOf Tryz.f49)), .lp (subc [1, 0, 0, 1, 1, 0, 0, 1, 1, 0, 0] (bodyOf Tryz.f49)), .blk 2, .blk 1, .code (subc [1, 0, 0, 1, 1, 1] (bodyOf Tryz.f49)), .lp (subc [1, 0, 0] (bodyOf Tryz.f49)), .blk 0], D := [], base := 7 },
   stk := [{ id := 14, kind := .top, T := [.any, .any, (.ptr 1 []), (.ptr 2 []), (.ptr 3 [])] ++ List.replicate 48 .any, items := [.fin 6, .blk 0, .code (subc [1, 1, 1, 1] (bodyOf Tryz.f14))], D := [5], base := 0 }],
   H := [.dead, cRZF3_20, cRZF3_11, .cell true 4 (.bool false), (cRZF3_0 x), .dfd, .loop .ready none 14 ([.any, .any, (.ptr 1 []), (.ptr 2 []), (.ptr 3 [])] ++ List.replicate 48 .any) [47, 48] (subc [1, 1, 1, 0, 1, 0, 0] (bodyOf Tryz.f14)) (subc [1, 1, 1, 0, 1, 0, 1] (bodyOf Tryz.f14)) 5, cRZF3_16, .cell true 3 (.arr 1 (.int .i64) v43), cRZF3_1, .cell true 5 (.arr 1 (.int .u8) v62), .cell true 5 (.arr 1 (.int .u8) v63), .cell true 5 (.arr 1 (.int .u8) v64), cRZF3_5, .cell true 3 (.arr 2 (.int .i64) v86), cRZF3_2, .cell true 5 (.arr 1 (.int .u8) v105), .cell true 5 (.arr 1 (.int .u8) v106), .cell true 5 (.arr 1 (.int .u8) v107), .cell true 3 (.arr 1 (.int .i64) v108), cRZF3_10, .cell true 5 (.arr 1 (.int .u8) v115)] }
 | .h3 v43 v50 =>
 { fr := { id := 49, kind := (.iter 6), T := [(.yld 6), (.ptr 4 []), .any, .any, (.ptr 7 [])] ++ List.replicate 7 .any ++ [(.osl 11 [] 3 0 1 (some 1)), (.int .i64 1), (.int .i64 0)] ++ List.replicate 4 .any ++ [(.osl 9 [] 6 0 1 (some 1)), (.int .i64 1), (.int .i64 0)] ++ List.replicate 31 .any, items := [.code (subc [1, 0, 0, 1, 1, 0, 0, 1, 1, 0, 0, 1, 1, 1] (bodyOf Tryz.f49)), .lp (subc [1, 0, 0, 1, 1, 0, 0, 1, 1, 0, 0] (bodyOf Tryz.f49)), .blk 2, .blk 1, .code (subc [1, 0, 0, 1, 1, 1] (bodyOf Tryz.f49)), .lp (subc [1, 0, 0] (bodyOf Tryz.f49)), .blk 0], D := [], base := 7 },
   stk := [{ id := 14, kind := .top, T := [.any, .any, (.ptr 1 []), (.ptr 2 []), (.ptr 3 [])] ++ List.replicate 48 .any, items := [.fin 6, .blk 0, .code (subc [1, 1, 1, 1] (bodyOf Tryz.f14))], D := [5], base := 0 }],
   H := [.dead, cRZF3_20, cRZF3_11, .cell true 4 (.bool false), (cRZF3_0 x), .dfd, .loop .ready none 14 ([.any, .any, (.ptr 1 []), (.ptr 2 []), (.ptr 3 [])] ++ List.replicate 48 .any) [47, 48] (subc [1, 1, 1, 0, 1, 0, 0] (bodyOf Tryz.f14)) (subc [1, 1, 1, 0, 1, 0, 1] (bodyOf Tryz.f14)) 5, cRZF3_17, .cell true 3 (.arr 2 (.int .i64) v43), .cell true 49 (.agg [6] [(.agg [1, 1, 1, 1, 1, 1] [(.fn 71 []), (.fn 72 []), (.osl 10 [] 1 0 1 (some 1)), (.int .i64 (-1)), (.int .i64 2), (.int .i64 0)])]), .cell true 5 (.arr 1 (.int .u8) v50), cRZF3_13] }
 | .h4 v43 v56 v57 =>
 { fr := { id := 49, kind := (.iter 6), T := [(.yld 6), (.ptr 4 []), .any, .any, (.ptr 7 [])] ++ List.replicate 7 .any ++ [(.osl 12 [] 3 0 1 (some 1)), (.int .i64 1), (.int .i64 0)] ++ List.replicate 4 .any ++ [(.osl 9 [] 6 0 2 (some 2)), (.int .i64 2), (.int .i64 0)] ++ List.replicate 31 .any, items := [.code (subc [1, 0, 0, 1, 1, 0, 0, 1, 1, 0, 0, 1, 1, 1] (bodyOf Tryz.f49)), .lp (subc [1, 0, 0, 1, 1, 0, 0, 1, 1, 0, 0] (bodyOf Tryz.f49)), .blk 2, .blk 1, .code (subc [1, 0, 0, 1, 1, 1] (bodyOf Tryz.f49)), .lp (subc [1, 0, 0] (bodyOf Tryz.f49)), .blk 0], D := [], base := 7 },
   stk := [{ id := 14, kind := .top, T := [.any, .any, (.ptr 1 []), (.ptr 2 []), (.ptr 3 [])] ++ List.replicate 48 .any, items := [.fin 6, .blk 0, .code (subc [1, 1, 1, 1] (bodyOf Tryz.f14))], D := [5], base := 0 }],
   H := [.dead, cRZF3_20, cRZF3_11, .cell true 4 (.bool false), (cRZF3_0 x), .dfd, .loop .ready none 14 ([.any, .any, (.ptr 1 []), (.ptr 2 []), (.ptr 3 [])] ++ List.replicate 48 .any) [47, 48] (subc [1, 1, 1, 0, 1, 0, 0] (bodyOf Tryz.f14)) (subc [1, 1, 1, 0, 1, 0, 1] (bodyOf Tryz.f14)) 5, cRZF3_18, .cell true 3 (.arr 2 (.int .i64) v43), cRZF3_8, .cell true 5 (.arr 1 (.int .u8) v56), .cell true 5 (.arr 1 (.int .u8) v57), cRZF3_14] }
 | .h5 v43 v47 v50 =>
 { fr := { id := 49, kind := (.iter 6), T := [(.yld 6), (.ptr 4 []), .any, .any, (.ptr 7 [])] ++ List.replicate 7 .any ++ [(.osl 11 [] 3 0 1 (some 1)), (.int .i64 1), (.int .i64 0)] ++ List.replicate 4 .any ++ [(.osl 9 [] 6 0 1 (some 1)), (.int .i64 1), (.int .i64 0)] ++ List.replicate 31 .any, items := [.code (subc [1, 0, 0, 1, 1, 0, 0, 1, 1, 0, 0, 1, 1, 1] (bodyOf Tryz.f49)), .lp (subc [1, 0, 0, 1, 1, 0, 0, 1, 1, 0, 0] (bodyOf Tryz.f49)), .blk 2, .blk 1, .code (subc [1, 0, 0, 1, 1, 1] (bodyOf Tryz.f49)), .lp (subc [1, 0, 0] (bodyOf Tryz.f49)), .blk 0], D := [], base := 7 },
   stk := [{ id := 14, kind := .top, T := [.any, .any, (.ptr 1 []), (.ptr 2 []), (.ptr 3 [])] ++ List.replicate 48 .any, items := [.fin 6, .blk 0, .code (subc [1, 1, 1, 1] (bodyOf Tryz.f14))], D := [5], base := 0 }],
   H := [.dead, cRZF3_20, cRZF3_11, .cell true 4 (.bool false), (cRZF3_0 x), .dfd, .loop .ready none 14 ([.any, .any, (.ptr 1 []), (.ptr 2 []), (.ptr 3 [])] ++ List.replicate 48 .any) [47, 48] (subc [1, 1, 1, 0, 1, 0, 0] (bodyOf Tryz.f14)) (subc [1, 1, 1, 0, 1, 0, 1] (bodyOf Tryz.f14)) 5, cRZF3_17, .cell true 3 (.arr 2 (.int .i64) v43), .cell true 49 (.agg [6] [(.agg [1, 1, 1, 1, 1, 1] [(.fn 70 []), (.fn 95 []), (.osl 10 [] 1 0 1 (some 1)), (.int .i64 v47), (.int .i64 1), (.int .i64 0)])]), .cell true 5 (.arr 1 (.int .u8) v50), cRZF3_13] }
 | .h6 v43 v47 v53 v56 v57 =>
 { fr := { id := 49, kind := (.iter 6), T := [(.yld 6), (.ptr 4 []), .any, .any, (.ptr 7 [])] ++ List.replicate 7 .any ++ [(.osl 12 [] 3 0 1 (some 1)), (.int .i64 1), (.int .i64 0)] ++ List.replicate 4 .any ++ [(.osl 9 [] 6 0 2 (some 2)), (.int .i64 2), (.int .i64 0)] ++ List.replicate 31 .any, items := [.code (subc [1, 0, 0, 1, 1, 0, 0, 1, 1, 0, 0, 1, 1, 1] (bodyOf Tryz.f49)), .lp (subc [1, 0, 0, 1, 1, 0, 0, 1, 1, 0, 0] (bodyOf Tryz.f49)), .blk 2, .blk 1, .code (subc [1, 0, 0, 1, 1, 1] (bodyOf Tryz.f49)), .lp (subc [1, 0, 0] (bodyOf Tryz.f49)), .blk 0], D := [], base := 7 },
   stk := [{ id := 14, kind := .top, T := [.any, .any, (.ptr 1 []), (.ptr 2 []), (.ptr 3 [])] ++ List.replicate 48 .any, items := [.fin 6, .blk 0, .code (subc [1, 1, 1, 1] (bodyOf Tryz.f14))], D := [5], base := 0 }],
   H := [.dead, cRZF3_20, cRZF3_11, .cell true 4 (.bool false), (cRZF3_0 x), .dfd, .loop .ready none 14 ([.any, .any, (.ptr 1 []), (.ptr 2 []), (.ptr 3 [])] ++ List.replicate 48 .any) [47, 48] (subc [1, 1, 1, 0, 1, 0, 0] (bodyOf Tryz.f14)) (subc [1, 1, 1, 0, 1, 0, 1] (bodyOf Tryz.f14)) 5, cRZF3_18, .cell true 3 (.arr 2 (.int .i64) v43), .cell true 49 (.agg [6, 6] [(.agg [1, 1, 1, 1, 1, 1] [(.fn 70 []), (.fn 80 []), (.osl 10 [] 1 0 1 (some 1)), (.int .i64 v47), (.int .i64 1), (.int .i64 1)]), (.agg [1, 1, 1, 1, 1, 1] [(.fn 70 []), (.fn 81 []), (.osl 11 [] 1 0 1 (some 1)), (.int .i64 v53), (.int .i64 1), (.int .i64 0)])]), .cell true 5 (.arr 1 (.int .u8) v56), .cell true 5 (.arr 1 (.int .u8) v57), cRZF3_14] }
 | .h7 v43 v50 =>
 { fr := { id := 49, kind := (.iter 6), T := [(.yld 6), (.ptr 4 []), .any, .any, (.ptr 7 [])] ++ List.replicate 7 .any ++ [(.osl 11 [] 3 0 1 (some 1)), (.int .i64 1), (.int .i64 0)] ++ List.replicate 4 .any ++ [(.osl 9 [] 6 0 1 (some 1)), (.int .i64 1), (.int .i64 0)] ++ List.replicate 31 .any, items := [.code (subc [1, 0, 0, 1, 1, 0, 0, 1, 1, 0, 0, 1, 1, 1] (bodyOf Tryz.f49)), .lp (subc [1, 0, 0, 1, 1, 0, 0, 1, 1, 0, 0] (bodyOf Tryz.f49)), .blk 2, .blk 1, .code (subc [1, 0, 0, 1, 1, 1] (bodyOf Tryz.f49)), .lp (subc [1, 0, 0] (bodyOf Tryz.f49)), .blk 0], D := [], base := 7 },
   stk := [{ id := 14, kind := .top, T := [.any, .any, (.ptr 1 []), (.ptr 2 []), (.ptr 3 [])] ++ List.replicate 48 .any, items := [.fin 6, .blk 0, .code (subc [1, 1, 1, 1] (bodyOf Tryz.f14))], D := [5], base := 0 }],
   H := [.dead, cRZF3_20, cRZF3_11, .cell true 4 (.bool false), (cRZF3_0 x), .dfd, .loop .ready none 14 ([.any, .any, (.ptr 1 []), (.ptr 2 []), (.ptr 3 [])] ++ List.replicate 48 .any) [47, 48] (subc [1, 1, 1, 0, 1, 0, 0] (bodyOf Tryz.f14)) (subc [1, 1, 1, 0, 1, 0, 1] (bodyOf Tryz.f14)) 5, cRZF3_17, .cell true 3 (.arr 2 (.int .i64) v43), .cell true 49 (.agg [6] [(.agg [1, 1, 1, 1, 1, 1] [(.fn 71 []), (.fn 70 []), (.osl 10 [] 1 0 2 (some 2)), (.int .i64 (-1)), (.int .i64 2), (.int .i64 0)])]), .cell true 5 (.arr 2 (.int .u8) v50), cRZF3_13] }
 | .h8 v43 v50 =>
 { fr := { id := 49, kind := (.iter 6), T := [(.yld 6), (.ptr 4 []), .any, .any, (.ptr 7 [])] ++ List.replicate 7 .any ++ [(.osl 11 [] 3 0 1 (some 1)), (.int .i64 1), (.int .i64 0)] ++ List.replicate 4 .any ++ [(.osl 9 [] 6 0 1 (some 1)), (.int .i64 1), (.int .i64 0)] ++ List.replicate 31 .any, items := [.code (subc [1, 0, 0, 1, 1, 0, 0, 1, 1, 0, 0, 1, 1, 1] (bodyOf Tryz.f49)), .lp (subc [1, 0, 0, 1, 1, 0, 0, 1, 1, 0, 0] (bodyOf Tryz.f49)), .blk 2, .blk 1, .code (subc [1, 0, 0, 1, 1, 1] (bodyOf Tryz.f49)), .lp (subc [1, 0, 0] (bodyOf Tryz.f49)), .blk 0], D := [], base := 7 },
   stk := [{ id := 14, kind := .top, T := [.any, .any, (.ptr 1 []), (.ptr 2 []), (.ptr 3 [])] ++ List.replicate 48 .any, items := [.fin 6, .blk 0, .code (subc [1, 1, 1, 1] (bodyOf Tryz.f14))], D := [5], base := 0 }],
   H := [.dead, cRZF3_20, cRZF3_11, .cell true 4 (.bool false), (cRZF3_0 x), .dfd, .loop .ready none 14 ([.any, .any, (.ptr 1 []), (.ptr 2 []), (.ptr 3 [])] ++ List.replicate 48 .any) [47, 48] (subc [1, 1, 1, 0, 1, 0, 0] (bodyOf Tryz.f14)) (subc [1, 1, 1, 0, 1, 0, 1] (bodyOf Tryz.f14)) 5, .cell true 45 (.agg [1, 1, 1] [(.osl 8 [] 1 0 1 (some 1)), (.int .u8 0), (.osl 9 [] 6 0 1 (some 1))]), .cell true 3 (.arr 1 (.int .i64) v43), .cell true 49 (.agg [6] [(.agg [1, 1, 1, 1, 1, 1] [(.fn 70 []), (.fn 95 []), (.osl 10 [] 1 0 2 (some 2)), (.int .i64 0), (.int .i64 1), (.int .i64 0)])]), .cell true 5 (.arr 2 (.int .u8) v50), .cell true 45 (.agg [3] [(.agg [1, 1, 1] [(.osl 8 [] 1 0 1 (some 1)), (.int .u8 0), (.osl 9 [] 6 0 1 (some 1))])])] }
 | .h9 v43 v56 v57 =>
 { fr := { id := 49, kind := (.iter 6), T := [(.yld 6), (.ptr 4 []), .any, .any, (.ptr 7 [])] ++ List.replicate 7 .any ++ [(.osl 12 [] 3 0 1 (some 1)), (.int .i64 1), (.int .i64 0)] ++ List.replicate 4 .any ++ [(.osl 9 [] 6 0 2 (some 2)), (.int .i64 2), (.int .i64 0)] ++ List.replicate 31 .any, items := [.code (subc [1, 0, 0, 1, 1, 0, 0, 1, 1, 0, 0, 1, 1, 1] (bodyOf Tryz.f49)), .lp (subc [1, 0, 0, 1, 1, 0, 0, 1, 1, 0, 0] (bodyOf Tryz.f49)), .blk 2, .blk 1, .code (subc [1, 0, 0, 1, 1, 1] (bodyOf Tryz.f49)), .lp (subc [1, 0, 0] (bodyOf Tryz.f49)), .blk 0], D := [], base := 7 },
   stk := [{ id := 14, kind := .top, T := [.any, .any, (.ptr 1 []), (.ptr 2 []), (.ptr 3 [])] ++ List.replicate 48 .any, items := [.fin 6, .blk 0, .code (subc [1, 1, 1, 1] (bodyOf Tryz.f14))], D := [5], base := 0 }],
   H := [.dead, cRZF3_20, cRZF3_11, .cell true 4 (.bool false), (cRZF3_0 x), .dfd, .loop .ready none 14 ([.any, .any, (.ptr 1 []), (.ptr 2 []), (.ptr 3 [])] ++ List.replicate 48 .any) [47, 48] (subc [1, 1, 1, 0, 1, 0, 0] (bodyOf Tryz.f14)) (subc [1, 1, 1, 0, 1, 0, 1] (bodyOf Tryz.f14)) 5, .cell true 45 (.agg [1, 1, 1] [(.osl 8 [] 1 0 1 (some 1)), (.int .u8 243), (.osl 9 [] 6 0 2 (some 2))]), .cell true 3 (.arr 1 (.int .i64) v43), cRZF3_7, .cell true 5 (.arr 2 (.int .u8) v56), .cell true 5 (.arr 2 (.int .u8) v57), .cell true 45 (.agg [3] [(.agg [1, 1, 1] [(.osl 8 [] 1 0 1 (some 1)), (.int .u8 243), (.osl 9 [] 6 0 2 (some 2))])])] }
 | .h10 v43 v50 =>
 { fr := { id := 49, kind := (.iter 6), T := [(.yld 6), (.ptr 4 []), .any, .any, (.ptr 7 [])] ++ List.replicate 7 .any ++ [(.osl 11 [] 3 0 1 (some 1)), (.int .i64 1), (.int .i64 0)] ++ List.replicate 4 .any ++ [(.osl 9 [] 6 0 1 (some 1)), (.int .i64 1), (.int .i64 0)] ++ List.replicate 31 .any, items := [.code (subc [1, 0, 0, 1, 1, 0, 0, 1, 1, 0, 0, 1, 1, 1] (bodyOf Tryz.f49)), .lp (subc [1, 0, 0, 1, 1, 0, 0, 1, 1, 0, 0] (bodyOf Tryz.f49)), .blk 2, .blk 1, .code (subc [1, 0, 0, 1, 1, 1] (bodyOf Tryz.f49)), .lp (subc [1, 0, 0] (bodyOf Tryz.f49)), .blk 0], D := [], base := 7 },
   stk := [{ id := 14, kind := .top, T := [.any, .any, (.ptr 1 []), (.ptr 2 []), (.ptr 3 [])] ++ List.replicate 48 .any, items := [.fin 6, .blk 0, .code (subc [1, 1, 1, 1] (bodyOf Tryz.f14))], D := [5], base := 0 }],
   H := [.dead, cRZF3_20, cRZF3_11, .cell true 4 (.bool false), (cRZF3_0 x), .dfd, .loop .ready none 14 ([.any, .any, (.ptr 1 []), (.ptr 2 []), (.ptr 3 [])] ++ List.replicate 48 .any) [47, 48] (subc [1, 1, 1, 0, 1, 0, 0] (bodyOf Tryz.f14)) (subc [1, 1, 1, 0, 1, 0, 1] (bodyOf Tryz.f14)) 5, .cell true 45 (.agg [1, 1, 1] [(.osl 8 [] 1 0 1 (some 1)), (.int .u8 102), (.osl 9 [] 6 0 1 (some 1))]), .cell true 3 (.arr 1 (.int .i64) v43), .cell true 49 (.agg [6] [(.agg [1, 1, 1, 1, 1, 1] [(.fn 77 []), (.fn 78 []), (.osl 10 [] 1 0 2 (some 2)), (.int .i64 (-1)), (.int .i64 2), (.int .i64 0)])]), .cell true 5 (.arr 2 (.int .u8) v50), .cell true 45 (.agg [3] [(.agg [1, 1, 1] [(.osl 8 [] 1 0 1 (some 1)), (.int .u8 102), (.osl 9 [] 6 0 1 (some 1))])])] }
 | .h11 v43 v49 v50 =>
 { fr := { id := 49, kind := (.iter 6), T := [(.yld 6), (.ptr 4 []), .any, .any, (.ptr 7 [])] ++ List.replicate 7 .any ++ [(.osl 11 [] 3 0 1 (some 1)), (.int .i64 1), (.int .i64 0)] ++ List.replicate 4 .any ++ [(.osl 9 [] 6 0 1 (some 1)), (.int .i64 1), (.int .i64 0)] ++ List.replicate 31 .any, items := [.code (subc [1, 0, 0, 1, 1, 0, 0, 1, 1, 0, 0, 1, 1, 1] (bodyOf Tryz.f49)), .lp (subc [1, 0, 0, 1, 1, 0, 0, 1, 1, 0, 0] (bodyOf Tryz.f49)), .blk 2, .blk 1, .code (subc [1, 0, 0, 1, 1, 1] (bodyOf Tryz.f49)), .lp (subc [1, 0, 0] (bodyOf Tryz.f49)), .blk 0], D := [], base := 7 },
   stk := [{ id := 14, kind := .top, T := [.any, .any, (.ptr 1 []), (.ptr 2 []), (.ptr 3 [])] ++ List.replicate 48 .any, items := [.fin 6, .blk 0, .code (subc [1, 1, 1, 1] (bodyOf Tryz.f14))], D := [5], base := 0 }],
   H := [.dead, cRZF3_20, cRZF3_11, .cell true 4 (.bool false), (cRZF3_0 x), .dfd, .loop .ready none 14 ([.any, .any, (.ptr 1 []), (.ptr 2 []), (.ptr 3 [])] ++ List.replicate 48 .any) [47, 48] (subc [1, 1, 1, 0, 1, 0, 0] (bodyOf Tryz.f14)) (subc [1, 1, 1, 0, 1, 0, 1] (bodyOf Tryz.f14)) 5, .cell true 45 (.agg [1, 1, 1] [(.osl 8 [] 1 0 1 (some 1)), (.int .u8 102), (.osl 9 [] 6 0 1 (some 1))]), .cell true 3 (.arr 1 (.int .i64) v43), .cell true 49 (.agg [6] [(.agg [1, 1, 1, 1, 1, 1] [(.fn 77 []), (.fn 78 []), (.osl 10 [] 1 0 3 (some 3)), (.int .i64 (-1)), (.int .i64 2), (.int .i64 v49)])]), .cell true 5 (.arr 3 (.int .u8) v50), .cell true 45 (.agg [3] [(.agg [1, 1, 1] [(.osl 8 [] 1 0 1 (some 1)), (.int .u8 102), (.osl 9 [] 6 0 1 (some 1))])])] }
 | .h12 v43 v50 =>
 { fr := { id := 49, kind := (.iter 6), T := [(.yld 6), (.ptr 4 []), .any, .any, (.ptr 7 [])] ++ List.replicate 7 .any ++ [(.osl 11 [] 3 0 1 (some 1)), (.int .i64 1), (.int .i64 0)] ++ List.replicate 4 .any ++ [(.osl 9 [] 6 0 1 (some 1)), (.int .i64 1), (.int .i64 0)] ++ List.replicate 31 .any, items := [.code (subc [1, 0, 0, 1, 1, 0, 0, 1, 1, 0, 0, 1, 1, 1] (bodyOf Tryz.f49)), .lp (subc [1, 0, 0, 1, 1, 0, 0, 1, 1, 0, 0] (bodyOf Tryz.f49)), .blk 2, .blk 1, .code (subc [1, 0, 0, 1, 1, 1] (bodyOf Tryz.f49)), .lp (subc [1, 0, 0] (bodyOf Tryz.f49)), .blk 0], D := [], base := 7 },
   stk := [{ id := 14, kind := .top, T := [.any, .any, (.ptr 1 []), (.ptr 2 []), (.ptr 3 [])] ++ List.replicate 48 .any, items := [.fin 6, .blk 0, .code (subc [1, 1, 1, 1] (bodyOf Tryz.f14))], D := [5], base := 0 }],
   H := [.dead, cRZF3_20, cRZF3_11, .cell true 4 (.bool false), (cRZF3_0 x), .dfd, .loop .ready none 14 ([.any, .any, (.ptr 1 []), (.ptr 2 []), (.ptr 3 [])] ++ List.replicate 48 .any) [47, 48] (subc [1, 1, 1, 0, 1, 0, 0] (bodyOf Tryz.f14)) (subc [1, 1, 1, 0, 1, 0, 1] (bodyOf Tryz.f14)) 5, cRZF3_17, .cell true 3 (.arr 2 (.int .i64) v43), .cell true 49 (.agg [6] [(.agg [1, 1, 1, 1, 1, 1] [(.fn 95 []), (.fn 74 []), (.osl 10 [] 1 0 1 (some 1)), (.int .i64 0), (.int .i64 0), (.int .i64 4)])]), .cell true 5 (.arr 1 (.int .u8) v50), cRZF3_13] }
 | .h13 v43 v56 v57 =>
 { fr := { id := 49, kind := (.iter 6), T := [(.yld 6), (.ptr 4 []), .any, .any, (.ptr 7 [])] ++ List.replicate 7 .any ++ [(.osl 12 [] 3 0 1 (some 1)), (.int .i64 1), (.int .i64 0)] ++ List.replicate 4 .any ++ [(.osl 9 [] 6 0 2 (some 2)), (.int .i64 2), (.int .i64 0)] ++ List.replicate 31 .any, items := [.code (subc [1, 0, 0, 1, 1, 0, 0, 1, 1, 0, 0, 1, 1, 1] (bodyOf Tryz.f49)), .lp (subc [1, 0, 0, 1, 1, 0, 0, 1, 1, 0, 0] (bodyOf Tryz.f49)), .blk 2, .blk 1, .code (subc [1, 0, 0, 1, 1, 1] (bodyOf Tryz.f49)), .lp (subc [1, 0, 0] (bodyOf Tryz.f49)), .blk 0], D := [], base := 7 },
   stk := [{ id := 14, kind := .top, T := [.any, .any, (.ptr 1 []), (.ptr 2 []), (.ptr 3 [])] ++ List.replicate 48 .any, items := [.fin 6, .blk 0, .code (subc [1, 1, 1, 1] (bodyOf Tryz.f14))], D := [5], base := 0 }],
   H := [.dead, cRZF3_20, cRZF3_11, .cell true 4 (.bool false), (cRZF3_0 x), .dfd, .loop .ready none 14 ([.any, .any, (.ptr 1 []), (.ptr 2 []), (.ptr 3 [])] ++ List.replicate 48 .any) [47, 48] (subc [1, 1, 1, 0, 1, 0, 0] (bodyOf Tryz.f14)) (subc [1, 1, 1, 0, 1, 0, 1] (bodyOf Tryz.f14)) 5, cRZF3_18, .cell true 3 (.arr 2 (.int .i64) v43), cRZF3_9, .cell true 5 (.arr 1 (.int .u8) v56), .cell true 5 (.arr 1 (.int .u8) v57), cRZF3_14] }
 | .h14 v43 v50 =>
 { fr := { id := 49, kind := (.iter 6), T := [(.yld 6), (.ptr 4 []), .any, .any, (.ptr 7 [])] ++ List.replicate 7 .any ++ [(.osl 11 [] 3 0 1 (some 1)), (.int .i64 1), (.int .i64 0)] ++ List.replicate 4 .any ++ [(.osl 9 [] 6 0 1 (some 1)), (.int .i64 1), (.int .i64 0)] ++ List.replicate 31 .any, items := [.code (subc [1, 0, 0, 1, 1, 0, 0, 1, 1, 0, 0, 1, 1, 1] (bodyOf Tryz.f49)), .lp (subc [1, 0, 0, 1, 1, 0, 0, 1, 1, 0, 0] (bodyOf Tryz.f49)), .blk 2, .blk 1, .code (subc [1, 0, 0, 1, 1, 1] (bodyOf Tryz.f49)), .lp (subc [1, 0, 0] (bodyOf Tryz.f49)), .blk 0], D := [], base := 7 },
   stk := [{ id := 14, kind := .top, T := [.any, .any, (.ptr 1 []), (.ptr 2 []), (.ptr 3 [])] ++ List.replicate 48 .any, items := [.fin 6, .blk 0, .code (subc [1, 1, 1, 1] (bodyOf Tryz.f14))], D := [5], base := 0 }],
   H := [.dead, cRZF3_20, cRZF3_11, .cell true 4 (.bool false), (cRZF3_0 x), .dfd, .loop .ready none 14 ([.any, .any, (.ptr 1 []), (.ptr 2 []), (.ptr 3 [])] ++ List.replicate 48 .any) [47, 48] (subc [1, 1, 1, 0, 1, 0, 0] (bodyOf Tryz.f14)) (subc [1, 1, 1, 0, 1, 0, 1] (bodyOf Tryz.f14)) 5, cRZF3_17, .cell true 3 (.arr 2 (.int .i64) v43), .cell true 49 (.agg [6] [(.agg [1, 1, 1, 1, 1, 1] [(.fn 95 []), (.fn 74 []), (.osl 10 [] 1 0 2 (some 2)), (.int .i64 0), (.int .i64 0), (.int .i64 4)])]), .cell true 5 (.arr 2 (.int .u8) v50), cRZF3_13] }
 | .h15 v43 v50 =>
 { fr := { id := 49, kind := (.iter 6), T := [(.yld 6), (.ptr 4 []), .any, .any, (.ptr 7 [])] ++ List.replicate 7 .any ++ [(.osl 11 [] 3 0 1 (some 1)), (.int .i64 1), (.int .i64 0)] ++ List.replicate 4 .any ++ [(.osl 9 [] 6 0 1 (some 1)), (.int .i64 1), (.int .i64 0)] ++ List.replicate 31 .any, items := [.code (subc [1, 0, 0, 1, 1, 0, 0, 1, 1, 0, 0, 1, 1, 1] (bodyOf Tryz.f49)), .lp (subc [1, 0, 0, 1, 1, 0, 0, 1, 1, 0, 0] (bodyOf Tryz.f49)), .blk 2, .blk 1, .code (subc [1, 0, 0, 1, 1, 1] (bodyOf Tryz.f49)), .lp (subc [1, 0, 0] (bodyOf Tryz.f49)), .blk 0], D := [], base := 7 },
   stk := [{ id := 14, kind := .top, T := [.any, .any, (.ptr 1 []), (.ptr 2 []), (.ptr 3 [])] ++ List.replicate 48 .any, items := [.fin 6, .blk 0, .code (subc [1, 1, 1, 1] (bodyOf Tryz.f14))], D := [5], base := 0 }],
   H := [.dead, cRZF3_20, cRZF3_11, .cell true 4 (.bool false), (cRZF3_0 x), .dfd, .loop .ready none 14 ([.any, .any, (.ptr 1 []), (.ptr 2 []), (.ptr 3 [])] ++ List.replicate 48 .any) [47, 48] (subc [1, 1, 1, 0, 1, 0, 0] (bodyOf Tryz.f14)) (subc [1, 1, 1, 0, 1, 0, 1] (bodyOf Tryz.f14)) 5, cRZF3_17, .cell true 3 (.arr 2 (.int .i64) v43), .cell true 49 (.agg [6] [(.agg [1, 1, 1, 1, 1, 1] [(.fn 95 []), (.fn 95 []), (.osl 10 [] 1 0 1 (some 1)), (.int .i64 0), (.int .i64 0), (.int .i64 0)])]), .cell true 5 (.arr 1 (.int .u8) v50), cRZF3_13] }
 | .h16 v43 v50 =>
 { fr := { id := 49, kind := (.iter 6), T := [(.yld 6), (.ptr 4 []), .any, .any, (.ptr 7 [])] ++ List.replicate 7 .any ++ [(.osl 11 [] 3 0 1 (some 1)), (.int .i64 1), (.int .i64 0)] ++ List.replicate 4 .any ++ [(.osl 9 [] 6 0 1 (some 1)), (.int .i64 1), (.int .i64 0)] ++ List.replicate 31 .any, items := [.code (subc [1, 0, 0, 1, 1, 0, 0, 1, 1, 0, 0, 1, 1, 1] (bodyOf Tryz.f49)), .lp (subc [1, 0, 0, 1, 1, 0, 0, 1, 1, 0, 0] (bodyOf Tryz.f49)), .blk 2, .blk 1, .code (subc [1, 0, 0, 1, 1, 1] (bodyOf Tryz.f49)), .lp (subc [1, 0, 0] (bodyOf Tryz.f49)), .blk 0], D := [], base := 7 },
   stk := [{ id := 14, kind := .top, T := [.any, .any, (.ptr 1 []), (.ptr 2 []), (.ptr 3 [])] ++ List.replicate 48 .any, items := [.fin 6, .blk 0, .code (subc [1, 1, 1, 1] (bodyOf Tryz.f14))], D := [5], base := 0 }],
   H := [.dead, cRZF3_20, cRZF3_11, .cell true 4 (.bool false), (cRZF3_0 x), .dfd, .loop .ready none 14 ([.any, .any, (.ptr 1 []), (.ptr 2 []), (.ptr 3 [])] ++ List.replicate 48 .any) [47, 48] (subc [1, 1, 1, 0, 1, 0, 0] (bodyOf Tryz.f14)) (subc [1, 1, 1, 0, 1, 0, 1] (bodyOf Tryz.f14)) 5, cRZF3_17, .cell true 3 (.arr 2 (.int .i64) v43), .cell true 49 (.agg [6] [(.agg [1, 1, 1, 1, 1, 1] [(.fn 71 []), (.fn 95 []), (.osl 10 [] 1 0 1 (some 1)), (.int .i64 0), (.int .i64 3), (.int .i64 0)])]), .cell true 5 (.arr 1 (.int .u8) v50), cRZF3_13] }
 | .h17 =>
 { fr := { id := 14, kind := .top, T := [.any, .any, (.ptr 1 []), (.ptr 2 []), (.ptr 3 [])] ++ List.replicate 48 .any, items := [.code (subc [1, 1, 1, 1, 0] (bodyOf Tryz.f14)), .code (subc [1, 1, 1, 1, 1] (bodyOf Tryz.f14))], D := [0], base := 0 },
   stk := [],
   H := [.dfd, cRZF3_20, cRZF3_11, .cell true 4 (.bool false)] }
 | .h18 v43 v59 v65 v68 v69 v70 v71 =>
 { fr := { id := 49, kind := (.iter 6), T := [(.yld 6), (.ptr 4 []), .any, .any, (.ptr 7 [])] ++ List.replicate 7 .any ++ [(.osl 14 [] 3 0 1 (some 1)), (.int .i64 1), (.int .i64 0)] ++ List.replicate 4 .any ++ [(.osl 9 [] 6 0 4 (some 4)), (.int .i64 4), (.int .i64 1)] ++ List.replicate 31 .any, items := [.code (subc [1, 0, 0, 1, 1, 0, 0, 1, 1, 0, 0, 1, 1, 1] (bodyOf Tryz.f49)), .lp (subc [1, 0, 0, 1, 1, 0, 0, 1, 1, 0, 0] (bodyOf Tryz.f49)), .blk 2, .blk 1, .code (subc [1, 0, 0, 1, 1, 1] (bodyOf Tryz.f49)), .lp (subc [1, 0, 0] (bodyOf Tryz.f49)), .blk 0], D := [], base := 7 },
   stk := [{ id := 14, kind := .top, T := [.any, .any, (.ptr 1 []), (.ptr 2 []), (.ptr 3 [])] ++ List.replicate 48 .any, items := [.fin 6, .blk 0, .code (subc [1, 1, 1, 1] (bodyOf Tryz.f14))], D := [5], base := 0 }],
   H := [.dead, cRZF3_20, cRZF3_11, .cell true 4 (.bool false), (cRZF3_0 x), .dfd, .loop .ready none 14 ([.any, .any, (.ptr 1 []), (.ptr 2 []), (.ptr 3 [])] ++ List.replicate 48 .any) [47, 48] (subc [1, 1, 1, 0, 1, 0, 0] (bodyOf Tryz.f14)) (subc [1, 1, 1, 0, 1, 0, 1] (bodyOf Tryz.f14)) 5, cRZF3_15, .cell true 3 (.arr 2 (.int .i64) v43), .cell true 49 (.agg [6, 6, 6, 6] [(.agg [1, 1, 1, 1, 1, 1] [(.fn 70 []), (.fn 71 []), (.osl 10 [] 1 0 1 (some 1)), (.int .i64 (-1)), (.int .i64 1), (.int .i64 0)]), (.agg [1, 1, 1, 1, 1, 1] [(.fn 71 []), (.fn 72 []), (.osl 11 [] 1 0 1 (some 1)), (.int .i64 (-1)), (.int .i64 2), (.int .i64 0)]), (.agg [1, 1, 1, 1, 1, 1] [(.fn 70 []), (.fn 73 []), (.osl 12 [] 1 0 1 (some 1)), (.int .i64 v59), (.int .i64 1), (.int .i64 1)]), (.agg [1, 1, 1, 1, 1, 1] [(.fn 70 []), (.fn 74 []), (.osl 13 [] 1 0 1 (some 1)), (.int .i64 v65), (.int .i64 1), (.int .i64 4)])]), .cell true 5 (.arr 1 (.int .u8) v68), .cell true 5 (.arr 1 (.int .u8) v69), .cell true 5 (.arr 1 (.int .u8) v70), .cell true 5 (.arr 1 (.int .u8) v71), cRZF3_12] }
 | .h19 v43 v62 v63 v64 v86 v105 v106 v107 v108 v115 =>
 { fr := { id := 49, kind := (.iter 6), T := [(.yld 6), (.ptr 4 []), .any, .any, (.ptr 7 [])] ++ List.replicate 7 .any ++ [(.osl 13 [] 3 0 3 (some 3)), (.int .i64 3), (.int .i64 0)] ++ List.replicate 4 .any ++ [(.osl 9 [] 6 0 3 (some 3)), (.int .i64 3), (.int .i64 1)] ++ List.replicate 31 .any, items := [.code (subc [1, 0, 0, 1, 1, 0, 0, 1, 1, 0, 0, 1, 1, 1] (bodyOf Tryz.f49)), .lp (subc [1, 0, 0, 1, 1, 0, 0, 1, 1, 0, 0] (bodyOf Tryz.f49)), .blk 2, .blk 1, .code (subc [1, 0, 0, 1, 1, 1] (bodyOf Tryz.f49)), .lp (subc [1, 0, 0] (bodyOf Tryz.f49)), .blk 0], D := [], base := 7 },
   stk := [{ id := 14, kind := .top, T := [.any, .any, (.ptr 1 []), (.ptr 2 []), (.ptr 3 [])] ++ List.replicate 48 .any, items := [.fin 6, .blk 0, .code (subc [1, 1, 1, 1] (bodyOf Tryz.f14))], D := [5], base := 0 }],
   H := [.dead, cRZF3_20, cRZF3_11, .cell true 4 (.bool false), (cRZF3_0 x), .dfd, .loop .ready none 14 ([.any, .any, (.ptr 1 []), (.ptr 2 []), (.ptr 3 [])] ++ List.replicate 48 .any) [47, 48] (subc [1, 1, 1, 0, 1, 0, 0] (bodyOf Tryz.f14)) (subc [1, 1, 1, 0, 1, 0, 1] (bodyOf Tryz.f14)) 5, cRZF3_16, .cell true 3 (.arr 1 (.int .i64) v43), cRZF3_1, .cell true 5 (.arr 1 (.int .u8) v62), .cell true 5 (.arr 1 (.int .u8) v63), .cell true 5 (.arr 1 (.int .u8) v64), cRZF3_5, .cell true 3 (.arr 2 (.int .i64) v86), cRZF3_2, .cell true 5 (.arr 1 (.int .u8) v105), .cell true 5 (.arr 1 (.int .u8) v106), .cell true 5 (.arr 1 (.int .u8) v107), .cell true 3 (.arr 1 (.int .i64) v108), cRZF3_10, .cell true 5 (.arr 1 (.int .u8) v115)] }
 | .h20 v43 v56 v57 =>
 { fr := { id := 49, kind := (.iter 6), T := [(.yld 6), (.ptr 4 []), .any, .any, (.ptr 7 [])] ++ List.replicate 7 .any ++ [(.osl 12 [] 3 0 1 (some 1)), (.int .i64 1), (.int .i64 0)] ++ List.replicate 4 .any ++ [(.osl 9 [] 6 0 2 (some 2)), (.int .i64 2), (.int .i64 1)] ++ List.replicate 31 .any, items := [.code (subc [1, 0, 0, 1, 1, 0, 0, 1, 1, 0, 0, 1, 1, 1] (bodyOf Tryz.f49)), .lp (subc [1, 0, 0, 1, 1, 0, 0, 1, 1, 0, 0] (bodyOf Tryz.f49)), .blk 2, .blk 1, .code (subc [1, 0, 0, 1, 1, 1] (bodyOf Tryz.f49)), .lp (subc [1, 0, 0] (bodyOf Tryz.f49)), .blk 0], D := [], base := 7 },
   stk := [{ id := 14, kind := .top, T := [.any, .any, (.ptr 1 []), (.ptr 2 []), (.ptr 3 [])] ++ List.replicate 48 .any, items := [.fin 6, .blk 0, .code (subc [1, 1, 1, 1] (bodyOf Tryz.f14))], D := [5], base := 0 }],
   H := [.dead, cRZF3_20, cRZF3_11, .cell true 4 (.bool false), (cRZF3_0 x), .dfd, .loop .ready none 14 ([.any, .any, (.ptr 1 []), (.ptr 2 []), (.ptr 3 [])] ++ List.replicate 48 .any) [47, 48] (subc [1, 1, 1, 0, 1, 0, 0] (bodyOf Tryz.f14)) (subc [1, 1, 1, 0, 1, 0, 1] (bodyOf Tryz.f14)) 5, cRZF3_18, .cell true 3 (.arr 2 (.int .i64) v43), cRZF3_8, .cell true 5 (.arr 1 (.int .u8) v56), .cell true 5 (.arr 1 (.int .u8) v57), cRZF3_14] }
 | .h21 v43 v47 v53 v56 v57 =>
 { fr := { id := 49, kind := (.iter 6), T := [(.yld 6), (.ptr 4 []), .any, .any, (.ptr 7 [])] ++ List.replicate 7 .any ++ [(.osl 12 [] 3 0 1 (some 1)), (.int .i64 1), (.int .i64 0)] ++ List.replicate 4 .any ++ [(.osl 9 [] 6 0 2 (some 2)), (.int .i64 2), (.int .i64 1)] ++ List.replicate 31 .any, items := [.code (subc [1, 0, 0, 1, 1, 0, 0, 1, 1, 0, 0, 1, 1, 1] (bodyOf Tryz.f49)), .lp (subc [1, 0, 0, 1, 1, 0, 0, 1, 1, 0, 0] (bodyOf Tryz.f49)), .blk 2, .blk 1, .code (subc [1, 0, 0, 1, 1, 1] (bodyOf Tryz.f49)), .lp (subc [1, 0, 0] (bodyOf Tryz.f49)), .blk 0], D := [], base := 7 },
   stk := [{ id := 14, kind := .top, T := [.any, .any, (.ptr 1 []), (.ptr 2 []), (.ptr 3 [])] ++ List.replicate 48 .any, items := [.fin 6, .blk 0, .code (subc [1, 1, 1, 1] (bodyOf Tryz.f14))], D := [5], base := 0 }],
   H := [.dead, cRZF3_20, cRZF3_11, .cell true 4 (.bool false), (cRZF3_0 x), .dfd, .loop .ready none 14 ([.any, .any, (.ptr 1 []), (.ptr 2 []), (.ptr 3 [])] ++ List.replicate 48 .any) [47, 48] (subc [1, 1, 1, 0, 1, 0, 0] (bodyOf Tryz.f14)) (subc [1, 1, 1, 0, 1, 0, 1] (bodyOf Tryz.f14)) 5, cRZF3_18, .cell true 3 (.arr 2 (.int .i64) v43), .cell true 49 (.agg [6, 6] [(.agg [1, 1, 1, 1, 1, 1] [(.fn 70 []), (.fn 80 []), (.osl 10 [] 1 0 1 (some 1)), (.int .i64 v47), (.int .i64 1), (.int .i64 1)]), (.agg [1, 1, 1, 1, 1, 1] [(.fn 70 []), (.fn 81 []), (.osl 11 [] 1 0 1 (some 1)), (.int .i64 v53), (.int .i64 1), (.int .i64 0)])]), .cell true 5 (.arr 1 (.int .u8) v56), .cell true 5 (.arr 1 (.int .u8) v57), cRZF3_14] }
 | .h22 v43 v56 v57 =>
 { fr := { id := 49, kind := (.iter 6), T := [(.yld 6), (.ptr 4 []), .any, .any, (.ptr 7 [])] ++ List.replicate 7 .any ++ [(.osl 12 [] 3 0 1 (some 1)), (.int .i64 1), (.int .i64 0)] ++ List.replicate 4 .any ++ [(.osl 9 [] 6 0 2 (some 2)), (.int .i64 2), (.int .i64 1)] ++ List.replicate 31 .any, items := [.code (subc [1, 0, 0, 1, 1, 0, 0, 1, 1, 0, 0, 1, 1, 1] (bodyOf Tryz.f49)), .lp (subc [1, 0, 0, 1, 1, 0, 0, 1, 1, 0, 0] (bodyOf Tryz.f49)), .blk 2, .blk 1, .code (subc [1, 0, 0, 1, 1, 1] (bodyOf Tryz.f49)), .lp (subc [1, 0, 0] (bodyOf Tryz.f49)), .blk 0], D := [], base := 7 },
   stk := [{ id := 14, kind := .top, T := [.any, .any, (.ptr 1 []), (.ptr 2 []), (.ptr 3 [])] ++ List.replicate 48 .any, items := [.fin 6, .blk 0, .code (subc [1, 1, 1, 1] (bodyOf Tryz.f14))], D := [5], base := 0 }],
   H := [.dead, cRZF3_20, cRZF3_11, .cell true 4 (.bool false), (cRZF3_0 x), .dfd, .loop .ready none 14 ([.any, .any, (.ptr 1 []), (.ptr 2 []), (.ptr 3 [])] ++ List.replicate 48 .any) [47, 48] (subc [1, 1, 1, 0, 1, 0, 0] (bodyOf Tryz.f14)) (subc [1, 1, 1, 0, 1, 0, 1] (bodyOf Tryz.f14)) 5, .cell true 45 (.agg [1, 1, 1] [(.osl 8 [] 1 0 1 (some 1)), (.int .u8 243), (.osl 9 [] 6 0 2 (some 2))]), .cell true 3 (.arr 1 (.int .i64) v43), cRZF3_7, .cell true 5 (.arr 2 (.int .u8) v56), .cell true 5 (.arr 2 (.int .u8) v57), .cell true 45 (.agg [3] [(.agg [1, 1, 1] [(.osl 8 [] 1 0 1 (some 1)), (.int .u8 243), (.osl 9 [] 6 0 2 (some 2))])])] }
 | .h23 v43 v56 v57 =>
 { fr := { id := 49, kind := (.iter 6), T := [(.yld 6), (.ptr 4 []), .any, .any, (.ptr 7 [])] ++ List.replicate 7 .any ++ [(.osl 12 [] 3 0 1 (some 1)), (.int .i64 1), (.int .i64 0)] ++ List.replicate 4 .any ++ [(.osl 9 [] 6 0 2 (some 2)), (.int .i64 2), (.int .i64 1)] ++ List.replicate 31 .any, items := [.code (subc [1, 0, 0, 1, 1, 0, 0, 1, 1, 0, 0, 1, 1, 1] (bodyOf Tryz.f49)), .lp (subc [1, 0, 0, 1, 1, 0, 0, 1, 1, 0, 0] (bodyOf Tryz.f49)), .blk 2, .blk 1, .code (subc [1, 0, 0, 1, 1, 1] (bodyOf Tryz.f49)), .lp (subc [1, 0, 0] (bodyOf Tryz.f49)), .blk 0], D := [], base := 7 },
   stk := [{ id := 14, kind := .top, T := [.any, .any, (.ptr 1 []), (.ptr 2 []), (.ptr 3 [])] ++ List.replicate 48 .any, items := [.fin 6, .blk 0, .code (subc [1, 1, 1, 1] (bodyOf Tryz.f14))], D := [5], base := 0 }],
   H := [.dead, cRZF3_20, cRZF3_11, .cell true 4 (.bool false), (cRZF3_0 x), .dfd, .loop .ready none 14 ([.any, .any, (.ptr 1 []), (.ptr 2 []), (.ptr 3 [])] ++ List.replicate 48 .any) [47, 48] (subc [1, 1, 1, 0, 1, 0, 0] (bodyOf Tryz.f14)) (subc [1, 1, 1, 0, 1, 0, 1] (bodyOf Tryz.f14)) 5, cRZF3_18, .cell true 3 (.arr 2 (.int .i64) v43), cRZF3_9, .cell true 5 (.arr 1 (.int .u8) v56), .cell true 5 (.arr 1 (.int .u8) v57), cRZF3_14] }
 | .h24 v43 v59 v65 v68 v69 v70 v71 =>
 { fr := { id := 49, kind := (.iter 6), T := [(.yld 6), (.ptr 4 []), .any, .any, (.ptr 7 [])] ++ List.replicate 7 .any ++ [(.osl 14 [] 3 0 1 (some 1)), (.int .i64 1), (.int .i64 0)] ++ List.replicate 4 .any ++ [(.osl 9 [] 6 0 4 (some 4)), (.int .i64 4), (.int .i64 2)] ++ List.replicate 31 .any, items := [.code (subc [1, 0, 0, 1, 1, 0, 0, 1, 1, 0, 0, 1, 1, 1] (bodyOf Tryz.f49)), .lp (subc [1, 0, 0, 1, 1, 0, 0, 1, 1, 0, 0] (bodyOf Tryz.f49)), .blk 2, .blk 1, .code (subc [1, 0, 0, 1, 1, 1] (bodyOf Tryz.f49)), .lp (subc [1, 0, 0] (bodyOf Tryz.f49)), .blk 0], D := [], base := 7 },
   stk := [{ id := 14, kind := .top, T := [.any, .any, (.ptr 1 []), (.ptr 2 []), (.ptr 3 [])] ++ List.replicate 48 .any, items := [.fin 6, .blk 0, .code (subc [1, 1, 1, 1] (bodyOf Tryz.f14))], D := [5], base := 0 }],
   H := [.dead, cRZF3_20, cRZF3_11, .cell true 4 (.bool false), (cRZF3_0 x), .dfd, .loop .ready none 14 ([.any, .any, (.ptr 1 []), (.ptr 2 []), (.ptr 3 [])] ++ List.replicate 48 .any) [47, 48] (subc [1, 1, 1, 0, 1, 0, 0] (bodyOf Tryz.f14)) (subc [1, 1, 1, 0, 1, 0, 1] (bodyOf Tryz.f14)) 5, cRZF3_15, .cell true 3 (.arr 2 (.int .i64) v43), .cell true 49 (.agg [6, 6, 6, 6] [(.agg [1, 1, 1, 1, 1, 1] [(.fn 70 []), (.fn 71 []), (.osl 10 [] 1 0 1 (some 1)), (.int .i64 (-1)), (.int .i64 1), (.int .i64 0)]), (.agg [1, 1, 1, 1, 1, 1] [(.fn 71 []), (.fn 72 []), (.osl 11 [] 1 0 1 (some 1)), (.int .i64 (-1)), (.int .i64 2), (.int .i64 0)]), (.agg [1, 1, 1, 1, 1, 1] [(.fn 70 []), (.fn 73 []), (.osl 12 [] 1 0 1 (some 1)), (.int .i64 v59), (.int .i64 1), (.int .i64 1)]), (.agg [1, 1, 1, 1, 1, 1] [(.fn 70 []), (.fn 74 []), (.osl 13 [] 1 0 1 (some 1)), (.int .i64 v65), (.int .i64 1), (.int .i64 4)])]), .cell true 5 (.arr 1 (.int .u8) v68), .cell true 5 (.arr 1 (.int .u8) v69), .cell true 5 (.arr 1 (.int .u8) v70), .cell true 5 (.arr 1 (.int .u8) v71), cRZF3_12] }
 | .h25 v43 v62 v63 v64 v86 v105 v106 v107 v108 v115 =>
 { fr := { id := 49, kind := (.iter 6), T := [(.yld 6), (.ptr 4 []), .any, .any, (.ptr 7 [])] ++ List.replicate 7 .any ++ [(.osl 13 [] 3 0 3 (some 3)), (.int .i64 3), (.int .i64 0)] ++ List.replicate 4 .any ++ [(.osl 9 [] 6 0 3 (some 3)), (.int .i64 3), (.int .i64 2)] ++ List.replicate 31 .any, items := [.code (subc [1, 0, 0, 1, 1, 0, 0, 1, 1, 0, 0, 1, 1, 1] (bodyOf Tryz.f49)), .lp (subc [1, 0, 0, 1, 1, 0, 0, 1, 1, 0, 0] (bodyOf Tryz.f49)), .blk 2, .blk 1, .code (subc [1, 0, 0, 1, 1, 1] (bodyOf Tryz.f49)), .lp (subc [1, 0, 0] (bodyOf Tryz.f49)), .blk 0], D := [], base := 7 },
   stk := [{ id := 14, kind := .top, T := [.any, .any, (.ptr 1 []), (.ptr 2 []), (.ptr 3 [])] ++ List.replicate 48 .any, items := [.fin 6, .blk 0, .code (subc [1, 1, 1, 1] (bodyOf Tryz.f14))], D := [5], base := 0 }],
   H := [.dead, cRZF3_20, cRZF3_11, .cell true 4 (.bool false), (cRZF3_0 x), .dfd, .loop .ready none 14 ([.any, .any, (.ptr 1 []), (.ptr 2 []), (.ptr 3 [])] ++ List.replicate 48 .any) [47, 48] (subc [1, 1, 1, 0, 1, 0, 0] (bodyOf Tryz.f14)) (subc [1, 1, 1, 0, 1, 0, 1] (bodyOf Tryz.f14)) 5, cRZF3_16, .cell true 3 (.arr 1 (.int .i64) v43), cRZF3_1, .cell true 5 (.arr 1 (.int .u8) v62), .cell true 5 (.arr 1 (.int .u8) v63), .cell true 5 (.arr 1 (.int .u8) v64), cRZF3_5, .cell true 3 (.arr 2 (.int .i64) v86), cRZF3_2, .cell true 5 (.arr 1 (.int .u8) v105), .cell true 5 (.arr 1 (.int .u8) v106), .cell true 5 (.arr 1 (.int .u8) v107), .cell true 3 (.arr 1 (.int .i64) v108), cRZF3_10, .cell true 5 (.arr 1 (.int .u8) v115)] }
 | .h26 v43 v59 v65 v68 v69 v70 v71 =>
 { fr := { id := 49, kind := (.iter 6), T := [(.yld 6), (.ptr 4 []), .any, .any, (.ptr 7 [])] ++ List.replicate 7 .any ++ [(.osl 14 [] 3 0 1 (some 1)), (.int .i64 1), (.int .i64 0)] ++ List.replicate 4 .any ++ [(.osl 9 [] 6 0 4 (some 4)), (.int .i64 4), (.int .i64 3)] ++ List.replicate 31 .any, items := [.code (subc [1, 0, 0, 1, 1, 0, 0, 1, 1, 0, 0, 1, 1, 1] (bodyOf Tryz.f49)), .lp (subc [1, 0, 0, 1, 1, 0, 0, 1, 1, 0, 0] (bodyOf Tryz.f49)), .blk 2, .blk 1, .code (subc [1, 0, 0, 1, 1, 1] (bodyOf Tryz.f49)), .lp (subc [1, 0, 0] (bodyOf Tryz.f49)), .blk 0], D := [], base := 7 },
   stk := [{ id := 14, kind := .top, T := [.any, .any, (.ptr 1 []), (.ptr 2 []), (.ptr 3 [])] ++ List.replicate 48 .any, items := [.fin 6, .blk 0, .code (subc [1, 1, 1, 1] (bodyOf Tryz.f14))], D := [5], base := 0 }],
   H := [.dead, cRZF3_20, cRZF3_11, .cell true 4 (.bool false), (cRZF3_0 x), .dfd, .loop .ready none 14 ([.any, .any, (.ptr 1 []), (.ptr 2 []), (.ptr 3 [])] ++ List.replicate 48 .any) [47, 48] (subc [1, 1, 1, 0, 1, 0, 0] (bodyOf Tryz.f14)) (subc [1, 1, 1, 0, 1, 0, 1] (bodyOf Tryz.f14)) 5, cRZF3_15, .cell true 3 (.arr 2 (.int .i64) v43), .cell true 49 (.agg [6, 6, 6, 6] [(.agg [1, 1, 1, 1, 1, 1] [(.fn 70 []), (.fn 71 []), (.osl 10 [] 1 0 1 (some 1)), (.int .i64 (-1)), (.int .i64 1), (.int .i64 0)]), (.agg [1, 1, 1, 1, 1, 1] [(.fn 71 []), (.fn 72 []), (.osl 11 [] 1 0 1 (some 1)), (.int .i64 (-1)), (.int .i64 2), (.int .i64 0)]), (.agg [1, 1, 1, 1, 1, 1] [(.fn 70 []), (.fn 73 []), (.osl 12 [] 1 0 1 (some 1)), (.int .i64 v59), (.int .i64 1), (.int .i64 1)]), (.agg [1, 1, 1, 1, 1, 1] [(.fn 70 []), (.fn 74 []), (.osl 13 [] 1 0 1 (some 1)), (.int .i64 v65), (.int .i64 1), (.int .i64 4)])]), .cell true 5 (.arr 1 (.int .u8) v68), .cell true 5 (.arr 1 (.int .u8) v69), .cell true 5 (.arr 1 (.int .u8) v70), .cell true 5 (.arr 1 (.int .u8) v71), cRZF3_12] }
 | .h27 v43 v62 v63 v64 v86 v105 v106 v107 v108 v115 =>
 { fr := { id := 49, kind := (.iter 6), T := [(.yld 6), (.ptr 4 []), .any, .any, (.ptr 7 [])] ++ List.replicate 7 .any ++ [(.osl 13 [] 3 0 3 (some 3)), (.int .i64 3), (.int .i64 1)] ++ List.replicate 4 .any ++ [(.osl 9 [] 6 0 3 (some 3)), (.int .i64 3), (.int .i64 0)] ++ List.replicate 31 .any, items := [.code (subc [1, 0, 0, 1, 1, 0, 0, 1, 1, 0, 0, 1, 1, 1] (bodyOf Tryz.f49)), .lp (subc [1, 0, 0, 1, 1, 0, 0, 1, 1, 0, 0] (bodyOf Tryz.f49)), .blk 2, .blk 1, .code (subc [1, 0, 0, 1, 1, 1] (bodyOf Tryz.f49)), .lp (subc [1, 0, 0] (bodyOf Tryz.f49)), .blk 0], D := [], base := 7 },
   stk := [{ id := 14, kind := .top, T := [.any, .any, (.ptr 1 []), (.ptr 2 []), (.ptr 3 [])] ++ List.replicate 48 .any, items := [.fin 6, .blk 0, .code (subc [1, 1, 1, 1] (bodyOf Tryz.f14))], D := [5], base := 0 }],
   H := [.dead, cRZF3_20, cRZF3_11, .cell true 4 (.bool false), (cRZF3_0 x), .dfd, .loop .ready none 14 ([.any, .any, (.ptr 1 []), (.ptr 2 []), (.ptr 3 [])] ++ List.replicate 48 .any) [47, 48] (subc [1, 1, 1, 0, 1, 0, 0] (bodyOf Tryz.f14)) (subc [1, 1, 1, 0, 1, 0, 1] (bodyOf Tryz.f14)) 5, cRZF3_19, .cell true 3 (.arr 2 (.int .i64) v43), cRZF3_3, .cell true 5 (.arr 1 (.int .u8) v62), .cell true 5 (.arr 1 (.int .u8) v63), .cell true 5 (.arr 1 (.int .u8) v64), cRZF3_6, .cell true 3 (.arr 1 (.int .i64) v86), cRZF3_4, .cell true 5 (.arr 1 (.int .u8) v105), .cell true 5 (.arr 1 (.int .u8) v106), .cell true 5 (.arr 1 (.int .u8) v107), .cell true 3 (.arr 1 (.int .i64) v108), cRZF3_10, .cell true 5 (.arr 1 (.int .u8) v115)] }
 | .h28 v43 v62 v63 v64 v86 v105 v106 v107 v108 v115 =>
 { fr := { id := 49, kind := (.iter 6), T := [(.yld 6), (.ptr 4 []), .any, .any, (.ptr 7 [])] ++ List.replicate 7 .any ++ [(.osl 13 [] 3 0 3 (some 3)), (.int .i64 3), (.int .i64 1)] ++ List.replicate 4 .any ++ [(.osl 9 [] 6 0 3 (some 3)), (.int .i64 3), (.int .i64 1)] ++ List.replicate 31 .any, items := [.code (subc [1, 0, 0, 1, 1, 0, 0, 1, 1, 0, 0, 1, 1, 1] (bodyOf Tryz.f49)), .lp (subc [1, 0, 0, 1, 1, 0, 0, 1, 1, 0, 0] (bodyOf Tryz.f49)), .blk 2, .blk 1, .code (subc [1, 0, 0, 1, 1, 1] (bodyOf Tryz.f49)), .lp (subc [1, 0, 0] (bodyOf Tryz.f49)), .blk 0], D := [], base := 7 },
   stk := [{ id := 14, kind := .top, T := [.any, .any, (.ptr 1 []), (.ptr 2 []), (.ptr 3 [])] ++ List.replicate 48 .any, items := [.fin 6, .blk 0, .code (subc [1, 1, 1, 1] (bodyOf Tryz.f14))], D := [5], base := 0 }],
   H := [.dead, cRZF3_20, cRZF3_11, .cell true 4 (.bool false), (cRZF3_0 x), .dfd, .loop .ready none 14 ([.any, .any, (.ptr 1 []), (.ptr 2 []), (.ptr 3 [])] ++ List.replicate 48 .any) [47, 48] (subc [1, 1, 1, 0, 1, 0, 0] (bodyOf Tryz.f14)) (subc [1, 1, 1, 0, 1, 0, 1] (bodyOf Tryz.f14)) 5, cRZF3_19, .cell true 3 (.arr 2 (.int .i64) v43), cRZF3_3, .cell true 5 (.arr 1 (.int .u8) v62), .cell true 5 (.arr 1 (.int .u8) v63), .cell true 5 (.arr 1 (.int .u8) v64), cRZF3_6, .cell true 3 (.arr 1 (.int .i64) v86), cRZF3_4, .cell true 5 (.arr 1 (.int .u8) v105), .cell true 5 (.arr 1 (.int .u8) v106), .cell true 5 (.arr 1 (.int .u8) v107), .cell true 3 (.arr 1 (.int .i64) v108), cRZF3_10, .cell true 5 (.arr 1 (.int .u8) v115)] }
 | .h29 v43 v62 v63 v64 v86 v105 v106 v107 v108 v115 =>
 { fr := { id := 49, kind := (.iter 6), T := [(.yld 6), (.ptr 4 []), .any, .any, (.ptr 7 [])] ++ List.replicate 7 .any ++ [(.osl 13 [] 3 0 3 (some 3)), (.int .i64 3), (.int .i64 1)] ++ List.replicate 4 .any ++ [(.osl 9 [] 6 0 3 (some 3)), (.int .i64 3), (.int .i64 2)] ++ List.replicate 31 .any, items := [.code (subc [1, 0, 0, 1, 1, 0, 0, 1, 1, 0, 0, 1, 1, 1] (bodyOf Tryz.f49)), .lp (subc [1, 0, 0, 1, 1, 0, 0, 1, 1, 0, 0] (bodyOf Tryz.f49)), .blk 2, .blk 1, .code (subc [1, 0, 0, 1, 1, 1] (bodyOf Tryz.f49)), .lp (subc [1, 0, 0] (bodyOf Tryz.f49)), .blk 0], D := [], base := 7 },
   stk := [{ id := 14, kind := .top, T := [.any, .any, (.ptr 1 []), (.ptr 2 []), (.ptr 3 [])] ++ List.replicate 48 .any, items := [.fin 6, .blk 0, .code (subc [1, 1, 1, 1] (bodyOf Tryz.f14))], D := [5], base := 0 }],
   H := [.dead, cRZF3_20, cRZF3_11, .cell true 4 (.bool false), (cRZF3_0 x), .dfd, .loop .ready none 14 ([.any, .any, (.ptr 1 []), (.ptr 2 []), (.ptr 3 [])] ++ List.replicate 48 .any) [47, 48] (subc [1, 1, 1, 0, 1, 0, 0] (bodyOf Tryz.f14)) (subc [1, 1, 1, 0, 1, 0, 1] (bodyOf Tryz.f14)) 5, cRZF3_19, .cell true 3 (.arr 2 (.int .i64) v43), cRZF3_3, .cell true 5 (.arr 1 (.int .u8) v62), .cell true 5 (.arr 1 (.int .u8) v63), .cell true 5 (.arr 1 (.int .u8) v64), cRZF3_6, .cell true 3 (.arr 1 (.int .i64) v86), cRZF3_4, .cell true 5 (.arr 1 (.int .u8) v105), .cell true 5 (.arr 1 (.int .u8) v106), .cell true 5 (.arr 1 (.int .u8) v107), .cell true 3 (.arr 1 (.int .i64) v108), cRZF3_10, .cell true 5 (.arr 1 (.int .u8) v115)] }
 | .h30 v43 v50 v72 v91 v92 v93 v94 v113 v114 v115 =>
 { fr := { id := 49, kind := (.iter 6), T := [(.yld 6), (.ptr 4 []), .any, .any, (.ptr 7 [])] ++ List.replicate 7 .any ++ [(.osl 11 [] 3 0 3 (some 3)), (.int .i64 3), (.int .i64 2)] ++ List.replicate 4 .any ++ [(.osl 9 [] 6 0 1 (some 1)), (.int .i64 1), (.int .i64 0)] ++ List.replicate 31 .any, items := [.code (subc [1, 0, 0, 1, 1, 0, 0, 1, 1, 0, 0, 1, 1, 1] (bodyOf Tryz.f49)), .lp (subc [1, 0, 0, 1, 1, 0, 0, 1, 1, 0, 0] (bodyOf Tryz.f49)), .blk 2, .blk 1, .code (subc [1, 0, 0, 1, 1, 1] (bodyOf Tryz.f49)), .lp (subc [1, 0, 0] (bodyOf Tryz.f49)), .blk 0], D := [], base := 7 },
   stk := [{ id := 14, kind := .top, T := [.any, .any, (.ptr 1 []), (.ptr 2 []), (.ptr 3 [])] ++ List.replicate 48 .any, items := [.fin 6, .blk 0, .code (subc [1, 1, 1, 1] (bodyOf Tryz.f14))], D := [5], base := 0 }],
   H := [.dead, cRZF3_20, cRZF3_11, .cell true 4 (.bool false), (cRZF3_0 x), .dfd, .loop .ready none 14 ([.any, .any, (.ptr 1 []), (.ptr 2 []), (.ptr 3 [])] ++ List.replicate 48 .any) [47, 48] (subc [1, 1, 1, 0, 1, 0, 0] (bodyOf Tryz.f14)) (subc [1, 1, 1, 0, 1, 0, 1] (bodyOf Tryz.f14)) 5, .cell true 45 (.agg [1, 1, 1] [(.osl 8 [] 1 0 1 (some 1)), (.int .u8 0), (.osl 9 [] 6 0 1 (some 1))]), .cell true 3 (.arr 1 (.int .i64) v43), .cell true 49 (.agg [6] [(.agg [1, 1, 1, 1, 1, 1] [(.fn 71 []), (.fn 107 []), (.osl 10 [] 1 0 1 (some 1)), (.int .i64 0), (.int .i64 3), (.int .i64 8)])]), .cell true 5 (.arr 1 (.int .u8) v50), .cell true 45 (.agg [3, 3, 3] [(.agg [1, 1, 1] [(.osl 12 [] 1 0 1 (some 1)), (.int .u8 0), (.osl 13 [] 6 0 3 (some 3))]), (.agg [1, 1, 1] [(.osl 17 [] 1 0 2 (some 2)), (.int .u8 0), (.osl 18 [] 6 0 3 (some 3))]), (.agg [1, 1, 1] [(.osl 8 [] 1 0 1 (some 1)), (.int .u8 0), (.osl 9 [] 6 0 1 (some 1))])]), .cell true 3 (.arr 1 (.int .i64) v72), .cell true 49 (.agg [6, 6, 6] [(.agg [1, 1, 1, 1, 1, 1] [(.fn 70 []), (.fn 71 []), (.osl 14 [] 1 0 1 (some 1)), (.int .i64 (-1)), (.int .i64 1), (.int .i64 0)]), (.agg [1, 1, 1, 1, 1, 1] [(.fn 71 []), (.fn 72 []), (.osl 15 [] 1 0 1 (some 1)), (.int .i64 (-1)), (.int .i64 2), (.int .i64 0)]), (.agg [1, 1, 1, 1, 1, 1] [(.fn 70 []), (.fn 73 []), (.osl 16 [] 1 0 1 (some 1)), (.int .i64 0), (.int .i64 1), (.int .i64 1)])]), .cell true 5 (.arr 1 (.int .u8) v91), .cell true 5 (.arr 1 (.int .u8) v92), .cell true 5 (.arr 1 (.int .u8) v93), .cell true 3 (.arr 2 (.int .i64) v94), .cell true 49 (.agg [6, 6, 6] [(.agg [1, 1, 1, 1, 1, 1] [(.fn 70 []), (.fn 71 []), (.osl 19 [] 1 0 1 (some 1)), (.int .i64 (-1)), (.int .i64 1), (.int .i64 0)]), (.agg [1, 1, 1, 1, 1, 1] [(.fn 71 []), (.fn 72 []), (.osl 20 [] 1 0 1 (some 1)), (.int .i64 (-1)), (.int .i64 2), (.int .i64 0)]), (.agg [1, 1, 1, 1, 1, 1] [(.fn 70 []), (.fn 74 []), (.osl 21 [] 1 0 1 (some 1)), (.int .i64 0), (.int .i64 1), (.int .i64 4)])]), .cell true 5 (.arr 1 (.int .u8) v113), .cell true 5 (.arr 1 (.int .u8) v114), .cell true 5 (.arr 1 (.int .u8) v115)] }
noncomputable def stop14 : FuncId → Nat → Nat → Option Cut
  | 14, 9, 0 => some { tmps := [1, 2, 3, 4], loops := [], dead := [], stk := [] }
  | 49, 15, 7 => some { tmps := [0, 1, 4, 12, 13, 14, 19, 20, 21], loops := [(6, [2, 3, 4])], dead := [0], stk := [[2, 3, 4]] }
  | 14, 17, 0 => some { tmps := [2, 3, 4], loops := [], dead := [], stk := [] }
  | _, _, _ => none
noncomputable def fn14 (x : DI) : (((List Int) × (Int × Unit)) × ((Unit × (Unit × ((List Int) × (Int × (Int × Int))))) × Bool)) := endVal (TC.dflt (.st (.st (.slice (.int .i64)) (.st (.int .u8) (.st1 .junk))) (.st (.st .junk (.st .junk (.st (.slice (.int .u8)) (.st (.int .i64) (.st (.int .i64) (.st1 (.int .i64))))))) (.st1 .bool)))) (step14 x) (tree14 x)
def pre14 (x : DI) : Prop := ∃ r, Ends (step14 x) r (tree14 x)
noncomputable def spec14 : Spec := { dom := (.st1 CInsn), cod := (.st (.st (.slice (.int .i64)) (.st (.int .u8) (.st1 .junk))) (.st (.st .junk (.st .junk (.st (.slice (.int .u8)) (.st (.int .i64) (.st (.int .i64) (.st1 (.int .i64))))))) (.st1 .bool))), n := 3, pre := pre14, f := fn14 }
noncomputable def need14 : FuncId → Option Spec
  | 51 => some spec51
  | 68 => some spec68
  | 70 => some spec70
  | 71 => some spec71
  | 72 => some spec72
  | 73 => some spec73
  | 74 => some spec74
  | 77 => some spec77
  | 78 => some spec78
  | 80 => some spec80
  | 81 => some spec81
  | 95 => some spec95
  | 107 => some spec107
  | _ => none
theorem need14_ok : ∀ f sp, need14 f = some sp → SpecOk env0 f sp := by
  intro f sp h
  unfold need14 at h
  split at h
  · cases h; exact ok51
  · cases h; exact ok68
  · cases h; exact ok70
  · cases h; exact ok71
  · cases h; exact ok72
  · cases h; exact ok73
  · cases h; exact ok74
  · cases h; exact ok77
  · cases h; exact ok78
  · cases h; exact ok80
  · cases h; exact ok81
  · cases h; exact ok95
  · cases h; exact ok107
  · cases h
section
variable (W : Cfg) (Q : (((List Int) × (Int × Unit)) × ((Unit × (Unit × ((List Int) × (Int × (Int × Int))))) × Bool)) → Prop) (x : DI)
theorem run14 : run (env need14 (fun _ _ => none)) stop14 (finS spec14 Q) W 100000 (startFr 14 Tryz.f14 (bodyOf Tryz.f14) (argsOf (.st1 CInsn) x)) [] [] = (tree14 x).wp (kont W Q (head14 x)) := by kernel_rfl
theorem run14h0 : run (env need14 (fun _ _ => none)) stop14 (finS spec14 Q) W 100000 (head14 x (.h0)).fr.enter (head14 x (.h0)).stk (head14 x (.h0)).H = (step14 x (.h0)).wp (kont W Q (head14 x)) := by kernel_rfl
theorem run14h1 (v43 : List Int) (v59 v65 : Int) (v68 v69 : List Int) (v70 v71 : List Int) : run (env need14 (fun _ _ => none)) stop14 (finS spec14 Q) W 100000 (head14 x (.h1 v43 v59 v65 v68 v69 v70 v71)).fr.enter (head14 x (.h1 v43 v59 v65 v68 v69 v70 v71)).stk (head14 x (.h1 v43 v59 v65 v68 v69 v70 v71)).H = (step14 x (.h1 v43 v59 v65 v68 v69 v70 v71)).wp (kont W Q (head14 x)) := by kernel_rfl
theorem run14h2 (v43 v62 : List Int) (v63 v64 : List Int) (v86 v105 : List Int) (v106 v107 : List Int) (v108 v115 : List Int) : run (env need14 (fun _ _ => none)) stop14 (finS spec14 Q) W 100000 (head14 x (.h2 v43 v62 v63 v64 v86 v105 v106 v107 v108 v115)).fr.enter (head14 x (.h2 v43 v62 v63 v64 v86 v105 v106 v107 v108 v115)).stk (head14 x (.h2 v43 v62 v63 v64 v86 v105 v106 v107 v108 v115)).H = (step14 x (.h2 v43 v62 v63 v64 v86 v105 v106 v107 v108 v115)).wp (kont W Q (head14 x)) := by kernel_rfl
theorem run14h3 (v43 v50 : List Int) : run (env need14 (fun _ _ => none)) stop14 (finS spec14 Q) W 100000 (head14 x (.h3 v43 v50)).fr.enter (head14 x (.h3 v43 v50)).stk (head14 x (.h3 v43 v50)).H = (step14 x (.h3 v43 v50)).wp (kont W Q (head14 x)) := by kernel_rfl
theorem run14h4 (v43 v56 v57 : List Int) : run (env need14 (fun _ _ => none)) stop14 (finS spec14 Q) W 100000 (head14 x (.h4 v43 v56 v57)).fr.enter (head14 x (.h4 v43 v56 v57)).stk (head14 x (.h4 v43 v56 v57)).H = (step14 x (.h4 v43 v56 v57)).wp (kont W Q (head14 x)) := by kernel_rfl
theorem run14h5 (v43 : List Int) (v47 : Int) (v50 : List Int) : run (env need14 (fun _ _ => none)) stop14 (finS spec14 Q) W 100000 (head14 x (.h5 v43 v47 v50)).fr.enter (head14 x (.h5 v43 v47 v50)).stk (head14 x (.h5 v43 v47 v50)).H = (step14 x (.h5 v43 v47 v50)).wp (kont W Q (head14 x)) := by kernel_rfl
theorem run14h6 (v43 : List Int) (v47 v53 : Int) (v56 v57 : List Int) : run (env need14 (fun _ _ => none)) stop14 (finS spec14 Q) W 100000 (head14 x (.h6 v43 v47 v53 v56 v57)).fr.enter (head14 x (.h6 v43 v47 v53 v56 v57)).stk (head14 x (.h6 v43 v47 v53 v56 v57)).H = (step14 x (.h6 v43 v47 v53 v56 v57)).wp (kont W Q (head14 x)) := by kernel_rfl
theorem run14h7 (v43 v50 : List Int) : run (env need14 (fun _ _ => none)) stop14 (finS spec14 Q) W 100000 (head14 x (.h7 v43 v50)).fr.enter (head14 x (.h7 v43 v50)).stk (head14 x (.h7 v43 v50)).H = (step14 x (.h7 v43 v50)).wp (kont W Q (head14 x)) := by kernel_rfl
theorem run14h8 (v43 v50 : List Int) : run (env need14 (fun _ _ => none)) stop14 (finS spec14 Q) W 100000 (head14 x (.h8 v43 v50)).fr.enter (head14 x (.h8 v43 v50)).stk (head14 x (.h8 v43 v50)).H = (step14 x (.h8 v43 v50)).wp (kont W Q (head14 x)) := by kernel_rfl
theorem run14h9 (v43 v56 v57 : List Int) : run (env need14 (fun _ _ => none)) stop14 (finS spec14 Q) W 100000 (head14 x (.h9 v43 v56 v57)).fr.enter (head14 x (.h9 v43 v56 v57)).stk (head14 x (.h9 v43 v56 v57)).H = (step14 x (.h9 v43 v56 v57)).wp (kont W Q (head14 x)) := by kernel_rfl
theorem run14h10 (v43 v50 : List Int) : run (env need14 (fun _ _ => none)) stop14 (finS spec14 Q) W 100000 (head14 x (.h10 v43 v50)).fr.enter (head14 x (.h10 v43 v50)).stk (head14 x (.h10 v43 v50)).H = (step14 x (.h10 v43 v50)).wp (kont W Q (head14 x)) := by kernel_rfl
theorem run14h11 (v43 : List Int) (v49 : Int) (v50 : List Int) : run (env need14 (fun _ _ => none)) stop14 (finS spec14 Q) W 100000 (head14 x (.h11 v43 v49 v50)).fr.enter (head14 x (.h11 v43 v49 v50)).stk (head14 x (.h11 v43 v49 v50)).H = (step14 x (.h11 v43 v49 v50)).wp (kont W Q (head14 x)) := by kernel_rfl
theorem run14h12 (v43 v50 : List Int) : run (env need14 (fun _ _ => none)) stop14 (finS spec14 Q) W 100000 (head14 x (.h12 v43 v50)).fr.enter (head14 x (.h12 v43 v50)).stk (head14 x (.h12 v43 v50)).H = (step14 x (.h12 v43 v50)).wp (kont W Q (head14 x)) := by kernel_rfl
theorem run14h13 (v43 v56 v57 : List Int) : run (env need14 (fun _ _ => none)) stop14 (finS spec14 Q) W 100000 (head14 x (.h13 v43 v56 v57)).fr.enter (head14 x (.h13 v43 v56 v57)).stk (head14 x (.h13 v43 v56 v57)).H = (step14 x (.h13 v43 v56 v57)).wp (kont W Q (head14 x)) := by kernel_rfl
theorem run14h14 (v43 v50 : List Int) : run (env need14 (fun _ _ => none)) stop14 (finS spec14 Q) W 100000 (head14 x (.h14 v43 v50)).fr.enter (head14 x (.h14 v43 v50)).stk (head14 x (.h14 v43 v50)).H = (step14 x (.h14 v43 v50)).wp (kont W Q (head14 x)) := by kernel_rfl
theorem run14h15 (v43 v50 : List Int) : run (env need14 (fun _ _ => none)) stop14 (finS spec14 Q) W 100000 (head14 x (.h15 v43 v50)).fr.enter (head14 x (.h15 v43 v50)).stk (head14 x (.h15 v43 v50)).H = (step14 x (.h15 v43 v50)).wp (kont W Q (head14 x)) := by kernel_rfl
theorem run14h16 (v43 v50 : List Int) : run (env need14 (fun _ _ => none)) stop14 (finS spec14 Q) W 100000 (head14 x (.h16 v43 v50)).fr.enter (head14 x (.h16 v43 v50)).stk (head14 x (.h16 v43 v50)).H = (step14 x (.h16 v43 v50)).wp (kont W Q (head14 x)) := by kernel_rfl
theorem run14h17 : run (env need14 (fun _ _ => none)) stop14 (finS spec14 Q) W 100000 (head14 x (.h17)).fr.enter (head14 x (.h17)).stk (head14 x (.h17)).H = (step14 x (.h17)).wp (kont W Q (head14 x)) := by kernel_rfl
theorem run14h18 (v43 : List Int) (v59 v65 : Int) (v68 v69 : List Int) (v70 v71 : List Int) : run (env need14 (fun _ _ => none)) stop14 (finS spec14 Q) W 100000 (head14 x (.h18 v43 v59 v65 v68 v69 v70 v71)).fr.enter (head14 x (.h18 v43 v59 v65 v68 v69 v70 v71)).stk (head14 x (.h18 v43 v59 v65 v68 v69 v70 v71)).H = (step14 x (.h18 v43 v59 v65 v68 v69 v70 v71)).wp (kont W Q (head14 x)) := by kernel_rfl
theorem run14h19 (v43 v62 : List Int) (v63 v64 : List Int) (v86 v105 : List Int) (v106 v107 : List Int) (v108 v115 : List Int) : run (env need14 (fun _ _ => none)) stop14 (finS spec14 Q) W 100000 (head14 x (.h19 v43 v62 v63 v64 v86 v105 v106 v107 v108 v115)).fr.enter (head14 x (.h19 v43 v62 v63 v64 v86 v105 v106 v107 v108 v115)).stk (head14 x (.h19 v43 v62 v63 v64 v86 v105 v106 v107 v108 v115)).H = (step14 x (.h19 v43 v62 v63 v64 v86 v105 v106 v107 v108 v115)).wp (kont W Q (head14 x)) := by kernel_rfl
theorem run14h20 (v43 v56 v57 : List Int) : run (env need14 (fun _ _ => none)) stop14 (finS spec14 Q) W 100000 (head14 x (.h20 v43 v56 v57)).fr.enter (head14 x (.h20 v43 v56 v57)).stk (head14 x (.h20 v43 v56 v57)).H = (step14 x (.h20 v43 v56 v57)).wp (kont W Q (head14 x)) := by kernel_rfl
theorem run14h21 (v43 : List Int) (v47 v53 : Int) (v56 v57 : List Int) : run (env need14 (fun _ _ => none)) stop14 (finS spec14 Q) W 100000 (head14 x (.h21 v43 v47 v53 v56 v57)).fr.enter (head14 x (.h21 v43 v47 v53 v56 v57)).stk (head14 x (.h21 v43 v47 v53 v56 v57)).H = (step14 x (.h21 v43 v47 v53 v56 v57)).wp (kont W Q (head14 x)) := by kernel_rfl
theorem run14h22 (v43 v56 v57 : List Int) : run (env need14 (fun _ _ => none)) stop14 (finS spec14 Q) W 100000 (head14 x (.h22 v43 v56 v57)).fr.enter (head14 x (.h22 v43 v56 v57)).stk (head14 x (.h22 v43 v56 v57)).H = (step14 x (.h22 v43 v56 v57)).wp (kont W Q (head14 x)) := by kernel_rfl
theorem run14h23 (v43 v56 v57 : List Int) : run (env need14 (fun _ _ => none)) stop14 (finS spec14 Q) W 100000 (head14 x (.h23 v43 v56 v57)).fr.enter (head14 x (.h23 v43 v56 v57)).stk (head14 x (.h23 v43 v56 v57)).H = (step14 x (.h23 v43 v56 v57)).wp (kont W Q (head14 x)) := by kernel_rfl
theorem run14h24 (v43 : List Int) (v59 v65 : Int) (v68 v69 : List Int) (v70 v71 : List Int) : run (env need14 (fun _ _ => none)) stop14 (finS spec14 Q) W 100000 (head14 x (.h24 v43 v59 v65 v68 v69 v70 v71)).fr.enter (head14 x (.h24 v43 v59 v65 v68 v69 v70 v71)).stk (head14 x (.h24 v43 v59 v65 v68 v69 v70 v71)).H = (step14 x (.h24 v43 v59 v65 v68 v69 v70 v71)).wp (kont W Q (head14 x)) := by kernel_rfl
theorem run14h25 (v43 v62 : List Int) (v63 v64 : List Int) (v86 v105 : List Int) (v106 v107 : List Int) (v108 v115 : List Int) : run (env need14 (fun _ _ => none)) stop14 (finS spec14 Q) W 100000 (head14 x (.h25 v43 v62 v63 v64 v86 v105 v106 v107 v108 v115)).fr.enter (head14 x (.h25 v43 v62 v63 v64 v86 v105 v106 v107 v108 v115)).stk (head14 x (.h25 v43 v62 v63 v64 v86 v105 v106 v107 v108 v115)).H = (step14 x (.h25 v43 v62 v63 v64 v86 v105 v106 v107 v108 v115)).wp (kont W Q (head14 x)) := by kernel_rfl
theorem run14h26 (v43 : List Int) (v59 v65 : Int) (v68 v69 : List Int) (v70 v71 : List Int) : run (env need14 (fun _ _ => none)) stop14 (finS spec14 Q) W 100000 (head14 x (.h26 v43 v59 v65 v68 v69 v70 v71)).fr.enter (head14 x (.h26 v43 v59 v65 v68 v69 v70 v71)).stk (head14 x (.h26 v43 v59 v65 v68 v69 v70 v71)).H = (step14 x (.h26 v43 v59 v65 v68 v69 v70 v71)).wp (kont W Q (head14 x)) := by kernel_rfl
theorem run14h27 (v43 v62 : List Int) (v63 v64 : List Int) (v86 v105 : List Int) (v106 v107 : List Int) (v108 v115 : List Int) : run (env need14 (fun _ _ => none)) stop14 (finS spec14 Q) W 100000 (head14 x (.h27 v43 v62 v63 v64 v86 v105 v106 v107 v108 v115)).fr.enter (head14 x (.h27 v43 v62 v63 v64 v86 v105 v106 v107 v108 v115)).stk (head14 x (.h27 v43 v62 v63 v64 v86 v105 v106 v107 v108 v115)).H = (step14 x (.h27 v43 v62 v63 v64 v86 v105 v106 v107 v108 v115)).wp (kont W Q (head14 x)) := by kernel_rfl
theorem run14h28 (v43 v62 : List Int) (v63 v64 : List Int) (v86 v105 : List Int) (v106 v107 : List Int) (v108 v115 : List Int) : run (env need14 (fun _ _ => none)) stop14 (finS spec14 Q) W 100000 (head14 x (.h28 v43 v62 v63 v64 v86 v105 v106 v107 v108 v115)).fr.enter (head14 x (.h28 v43 v62 v63 v64 v86 v105 v106 v107 v108 v115)).stk (head14 x (.h28 v43 v62 v63 v64 v86 v105 v106 v107 v108 v115)).H = (step14 x (.h28 v43 v62 v63 v64 v86 v105 v106 v107 v108 v115)).wp (kont W Q (head14 x)) := by kernel_rfl
theorem run14h29 (v43 v62 : List Int) (v63 v64 : List Int) (v86 v105 : List Int) (v106 v107 : List Int) (v108 v115 : List Int) : run (env need14 (fun _ _ => none)) stop14 (finS spec14 Q) W 100000 (head14 x (.h29 v43 v62 v63 v64 v86 v105 v106 v107 v108 v115)).fr.enter (head14 x (.h29 v43 v62 v63 v64 v86 v105 v106 v107 v108 v115)).stk (head14 x (.h29 v43 v62 v63 v64 v86 v105 v106 v107 v108 v115)).H = (step14 x (.h29 v43 v62 v63 v64 v86 v105 v106 v107 v108 v115)).wp (kont W Q (head14 x)) := by kernel_rfl
theorem run14h30 (v43 v50 : List Int) (v72 v91 : List Int) (v92 v93 : List Int) (v94 v113 : List Int) (v114 v115 : List Int) : run (env need14 (fun _ _ => none)) stop14 (finS spec14 Q) W 100000 (head14 x (.h30 v43 v50 v72 v91 v92 v93 v94 v113 v114 v115)).fr.enter (head14 x (.h30 v43 v50 v72 v91 v92 v93 v94 v113 v114 v115)).stk (head14 x (.h30 v43 v50 v72 v91 v92 v93 v94 v113 v114 v115)).H = (step14 x (.h30 v43 v50 v72 v91 v92 v93 v94 v113 v114 v115)).wp (kont W Q (head14 x)) := by kernel_rfl
end
theorem runs14 (W : Cfg) (Q : (((List Int) × (Int × Unit)) × ((Unit × (Unit × ((List Int) × (Int × (Int × Int))))) × Bool)) → Prop) (x : DI) : ∀ j : J14, run (env need14 (fun _ _ => none)) stop14 (finS spec14 Q) W 100000 (head14 x j).fr.enter (head14 x j).stk (head14 x j).H = (step14 x j).wp (kont W Q (head14 x))
 | .h0 => run14h0 W Q x
 | .h1 v43 v59 v65 v68 v69 v70 v71 => run14h1 W Q x v43 v59 v65 v68 v69 v70 v71
 | .h2 v43 v62 v63 v64 v86 v105 v106 v107 v108 v115 => run14h2 W Q x v43 v62 v63 v64 v86 v105 v106 v107 v108 v115
 | .h3 v43 v50 => run14h3 W Q x v43 v50
 | .h4 v43 v56 v57 => run14h4 W Q x v43 v56 v57
 | .h5 v43 v47 v50 => run14h5 W Q x v43 v47 v50
 | .h6 v43 v47 v53 v56 v57 => run14h6 W Q x v43 v47 v53 v56 v57
 | .h7 v43 v50 => run14h7 W Q x v43 v50
 | .h8 v43 v50 => run14h8 W Q x v43 v50
 | .h9 v43 v56 v57 => run14h9 W Q x v43 v56 v57
 | .h10 v43 v50 => run14h10 W Q x v43 v50
 | .h11 v43 v49 v50 => run14h11 W Q x v43 v49 v50
 | .h12 v43 v50 => run14h12 W Q x v43 v50
 | .h13 v43 v56 v57 => run14h13 W Q x v43 v56 v57
 | .h14 v43 v50 => run14h14 W Q x v43 v50
 | .h15 v43 v50 => run14h15 W Q x v43 v50
 | .h16 v43 v50 => run14h16 W Q x v43 v50
 | .h17 => run14h17 W Q x
 | .h18 v43 v59 v65 v68 v69 v70 v71 => run14h18 W Q x v43 v59 v65 v68 v69 v70 v71
 | .h19 v43 v62 v63 v64 v86 v105 v106 v107 v108 v115 => run14h19 W Q x v43 v62 v63 v64 v86 v105 v106 v107 v108 v115
 | .h20 v43 v56 v57 => run14h20 W Q x v43 v56 v57
 | .h21 v43 v47 v53 v56 v57 => run14h21 W Q x v43 v47 v53 v56 v57
 | .h22 v43 v56 v57 => run14h22 W Q x v43 v56 v57
 | .h23 v43 v56 v57 => run14h23 W Q x v43 v56 v57
 | .h24 v43 v59 v65 v68 v69 v70 v71 => run14h24 W Q x v43 v59 v65 v68 v69 v70 v71
 | .h25 v43 v62 v63 v64 v86 v105 v106 v107 v108 v115 => run14h25 W Q x v43 v62 v63 v64 v86 v105 v106 v107 v108 v115
 | .h26 v43 v59 v65 v68 v69 v70 v71 => run14h26 W Q x v43 v59 v65 v68 v69 v70 v71
 | .h27 v43 v62 v63 v64 v86 v105 v106 v107 v108 v115 => run14h27 W Q x v43 v62 v63 v64 v86 v105 v106 v107 v108 v115
 | .h28 v43 v62 v63 v64 v86 v105 v106 v107 v108 v115 => run14h28 W Q x v43 v62 v63 v64 v86 v105 v106 v107 v108 v115
 | .h29 v43 v62 v63 v64 v86 v105 v106 v107 v108 v115 => run14h29 W Q x v43 v62 v63 v64 v86 v105 v106 v107 v108 v115
 | .h30 v43 v50 v72 v91 v92 v93 v94 v113 v114 v115 => run14h30 W Q x v43 v50 v72 v91 v92 v93 v94 v113 v114 v115
theorem ok14 : SpecOk env0 14 spec14 := SpecOk.env rfl (fun _ _ h => h) (spec_of_trees (E := (env need14 (fun _ _ => none))) (sp := spec14) (valid _ _) (fun f sp h => SpecOk.env rfl (fun _ _ h => h) (need14_ok f sp h)) (fn := Tryz.f14) (c := (bodyOf Tryz.f14)) (by kernel_rfl) (by kernel_rfl) tree14 step14 head14 run14 runs14 (fun _ h => endVal_ends h))
end Go.Eng.RZ
end
section
/- Functions of this program, written out. -/
namespace Go.Eng.RZ
open Go.Proofs Go.Eng
noncomputable def tree15 (x : DO) : Tr DO :=
  .ite (ieq x.1 1) (
 .ret (x.1, ((iand .i64 x.2.1 15), x.2.2))) (
 .ret x)
noncomputable def fn15 (x : DO) : DO := (tree15 x).val
def pre15 (x : DO) : Prop := (tree15 x).ok
noncomputable def spec15 : Spec := { dom := (.st1 CO), cod := CO, n := 1, pre := pre15, f := fn15 }
noncomputable def need15 : FuncId → Option Spec
  | _ => none
theorem need15_ok : ∀ f sp, need15 f = some sp → SpecOk env0 f sp := by
  intro f sp h
  unfold need15 at h
  split at h
  · cases h
section
variable (W : Cfg) (Q : DO → Prop) (x : DO)
theorem run15 : run (env need15 (fun _ _ => none)) (fun _ _ _ => none) (finS spec15 Q) W 100000 (startFr 15 Tryz.f15 (bodyOf Tryz.f15) (argsOf (.st1 CO) x)) [] [] = (tree15 x).wp Q := by kernel_rfl
end
theorem ok15 : SpecOk env0 15 spec15 := SpecOk.env rfl (fun _ _ h => h) (spec_of_tree (E := (env need15 (fun _ _ => none))) (sp := spec15) (valid _ _) (fun f sp h => SpecOk.env rfl (fun _ _ h => h) (need15_ok f sp h)) (fn := Tryz.f15) (c := (bodyOf Tryz.f15)) (by kernel_rfl) (by kernel_rfl) tree15 run15 (fun _ h => Tr.gives_val h))
noncomputable def tree16 (x : (List Int)) : Tr (List Int) :=
  .need ((0 : Nat) < x.length) <|
  let y0 : Nat := (0 + x.length)
  .ite (ilt ((0 : Nat) : Int) ((y0 : Nat) : Int)) (
 .need ((0 + 0 : Nat) ≤ 0) <|
 .need (((y0 : Nat) * 1 : Nat) ≤ 2 ^ 40) <|
 .need ((y0 : Nat) ≤ 2 ^ 40) <|
 .need ((y0 : Nat) ≤ y0) <|
 .ret ((([] : List Int) ++ x).take y0)) (
 .need ((0 + 0 + x.length : Nat) ≤ 0) <|
 .need ((y0 : Nat) ≤ 0) <|
 .ret ((spliceL (List.replicate 0 (0 : Int)) 0 x).take y0))
noncomputable def fn16 (x : (List Int)) : (List Int) := (tree16 x).val
def pre16 (x : (List Int)) : Prop := (tree16 x).ok
noncomputable def spec16 : Spec := { dom := (.st1 (.slice (.int .u8))), cod := (.slice (.int .u8)), n := 1, pre := pre16, f := fn16, own := some 5 }
noncomputable def need16 : FuncId → Option Spec
  | _ => none
theorem need16_ok : ∀ f sp, need16 f = some sp → SpecOk env0 f sp := by
  intro f sp h
  unfold need16 at h
  split at h
  · cases h
section
variable (W : Cfg) (Q : (List Int) → Prop) (x : List Int)
theorem run16 : run (env need16 (fun _ _ => none)) (fun _ _ _ => none) (finS spec16 Q) W 100000 (startFr 16 Tryz.f16 (bodyOf Tryz.f16) (argsOf (.st1 (.slice (.int .u8))) x)) [] [] = (tree16 x).wp Q := by kernel_rfl
end
theorem ok16 : SpecOk env0 16 spec16 := SpecOk.env rfl (fun _ _ h => h) (spec_of_tree (E := (env need16 (fun _ _ => none))) (sp := spec16) (valid _ _) (fun f sp h => SpecOk.env rfl (fun _ _ h => h) (need16_ok f sp h)) (fn := Tryz.f16) (c := (bodyOf Tryz.f16)) (by kernel_rfl) (by kernel_rfl) tree16 run16 (fun _ h => Tr.gives_val h))
noncomputable def tree31 (x : Int) : Tr Int :=
  .ret (iconv .u8 (iand .i64 x 7))
noncomputable def fn31 (x : Int) : Int := (tree31 x).val
def pre31 (x : Int) : Prop := (tree31 x).ok
noncomputable def spec31 : Spec := { dom := (.st1 (.int .i64)), cod := (.int .u8), n := 1, pre := pre31, f := fn31 }
noncomputable def need31 : FuncId → Option Spec
  | _ => none
theorem need31_ok : ∀ f sp, need31 f = some sp → SpecOk env0 f sp := by
  intro f sp h
  unfold need31 at h
  split at h
  · cases h
section
variable (W : Cfg) (Q : Int → Prop) (x : Int)
theorem run31 : run (env need31 (fun _ _ => none)) (fun _ _ _ => none) (finS spec31 Q) W 100000 (startFr 31 Tryz.f31 (bodyOf Tryz.f31) (argsOf (.st1 (.int .i64)) x)) [] [] = (tree31 x).wp Q := by kernel_rfl
end
theorem ok31 : SpecOk env0 31 spec31 := SpecOk.env rfl (fun _ _ h => h) (spec_of_tree (E := (env need31 (fun _ _ => none))) (sp := spec31) (valid _ _) (fun f sp h => SpecOk.env rfl (fun _ _ h => h) (need31_ok f sp h)) (fn := Tryz.f31) (c := (bodyOf Tryz.f31)) (by kernel_rfl) (by kernel_rfl) tree31 run31 (fun _ h => Tr.gives_val h))
noncomputable def tree32 (x : Int) : Tr Int :=
  .need ((0 : Int) ≤ 3) <|
  .ret (iconv .u8 (iand .i64 (ishr .i64 x 3) 1))
noncomputable def fn32 (x : Int) : Int := (tree32 x).val
def pre32 (x : Int) : Prop := (tree32 x).ok
noncomputable def spec32 : Spec := { dom := (.st1 (.int .i64)), cod := (.int .u8), n := 1, pre := pre32, f := fn32 }
noncomputable def need32 : FuncId → Option Spec
  | _ => none
theorem need32_ok : ∀ f sp, need32 f = some sp → SpecOk env0 f sp := by
  intro f sp h
  unfold need32 at h
  split at h
  · cases h
section
variable (W : Cfg) (Q : Int → Prop) (x : Int)
theorem run32 : run (env need32 (fun _ _ => none)) (fun _ _ _ => none) (finS spec32 Q) W 100000 (startFr 32 Tryz.f32 (bodyOf Tryz.f32) (argsOf (.st1 (.int .i64)) x)) [] [] = (tree32 x).wp Q := by kernel_rfl
end
theorem ok32 : SpecOk env0 32 spec32 := SpecOk.env rfl (fun _ _ h => h) (spec_of_tree (E := (env need32 (fun _ _ => none))) (sp := spec32) (valid _ _) (fun f sp h => SpecOk.env rfl (fun _ _ h => h) (need32_ok f sp h)) (fn := Tryz.f32) (c := (bodyOf Tryz.f32)) (by kernel_rfl) (by kernel_rfl) tree32 run32 (fun _ h => Tr.gives_val h))
noncomputable def tree34 (x : DO) : Tr (Int × Int) :=
  let y0 : (Int × (Int × (Int × (Int × (Bool × Int))))) := x.2.2
  let y1 : Int := y0.1
  .ite (ilt y1 0) (
 .ret (0, 4)) (
 let y2 := y0.2.2.2.1
 .ite ((ieq y2 0) == true) (
 .need (pre31 y1) <|
 .ite (ine (fn31 y1) 5) (
 .ret (0, 0)) (
 let y3 := (ieq (iconv .i64 (iconv .i8 y2)) y2)
 .ite y3 (
 let y4 : (Int × Int) := (1, 1)
 .ret y4) (
 let y5 : (Int × Int) := (2, 4)
 .ret y5))) (
 let y6 := (ieq (iconv .i64 (iconv .i8 y2)) y2)
 .ite y6 (
 let y7 : (Int × Int) := (1, 1)
 .ret y7) (
 let y8 : (Int × Int) := (2, 4)
 .ret y8)))
noncomputable def fn34 (x : DO) : (Int × Int) := (tree34 x).val
def pre34 (x : DO) : Prop := (tree34 x).ok
noncomputable def spec34 : Spec := { dom := (.st1 CO), cod := (.st (.int .u8) (.st1 (.int .i64))), n := 2, pre := pre34, f := fn34 }
noncomputable def need34 : FuncId → Option Spec
  | 31 => some spec31
  | _ => none
theorem need34_ok : ∀ f sp, need34 f = some sp → SpecOk env0 f sp := by
  intro f sp h
  unfold need34 at h
  split at h
  · cases h; exact ok31
  · cases h
section
variable (W : Cfg) (Q : (Int × Int) → Prop) (x : DO)
theorem run34 : run (env need34 (fun _ _ => none)) (fun _ _ _ => none) (finS spec34 Q) W 100000 (startFr 34 Tryz.f34 (bodyOf Tryz.f34) (argsOf (.st1 CO) x)) [] [] = (tree34 x).wp Q := by kernel_rfl
end
theorem ok34 : SpecOk env0 34 spec34 := SpecOk.env rfl (fun _ _ h => h) (spec_of_tree (E := (env need34 (fun _ _ => none))) (sp := spec34) (valid _ _) (fun f sp h => SpecOk.env rfl (fun _ _ h => h) (need34_ok f sp h)) (fn := Tryz.f34) (c := (bodyOf Tryz.f34)) (by kernel_rfl) (by kernel_rfl) tree34 run34 (fun _ h => Tr.gives_val h))
noncomputable def tree55 (x : Int) : Tr Int :=
  .ite (ieq x 0) (
 .ret 64) (
 .need ((0 : Int) ≤ 58) <|
 let y0 : Int := (ishr .u64 (imul .u64 (iand .u64 x (ineg .u64 x)) 285870213051353865) 58)
 .need ((0 : Int) ≤ y0) <|
 .need ((y0 : Int) < 64) <|
 let y1 : Nat := (y0).toNat
 .need ((y1 : Nat) < 64) <|
 .ret (iconv .i64 (rdc (.int .u8) [0, 1, 56, 2, 57, 49, 28, 3, 61, 58, 42, 50, 38, 29, 17, 4, 62, 47, 59, 36, 45, 43, 51, 22, 53, 39, 33, 30, 24, 18, 12, 5, 63, 55, 48, 27, 60, 41, 37, 16, 46, 35, 44, 21, 52, 32, 23, 11, 54, 26, 40, 15, 34, 20, 31, 10, 25, 14, 19, 9, 13, 8, 7, 6] y1)))
noncomputable def fn55 (x : Int) : Int := (tree55 x).val
def pre55 (x : Int) : Prop := (tree55 x).ok
noncomputable def spec55 : Spec := { dom := (.st1 (.int .u64)), cod := (.int .i64), n := 1, pre := pre55, f := fn55 }
noncomputable def need55 : FuncId → Option Spec
  | _ => none
theorem need55_ok : ∀ f sp, need55 f = some sp → SpecOk env0 f sp := by
  intro f sp h
  unfold need55 at h
  split at h
  · cases h
section
variable (W : Cfg) (Q : Int → Prop) (x : Int)
theorem run55 : run (env need55 (fun _ _ => none)) (fun _ _ _ => none) (finS spec55 Q) W 100000 (startFr 55 Tryz.f55 (bodyOf Tryz.f55) (argsOf (.st1 (.int .u64)) x)) [] [] = (tree55 x).wp Q := by kernel_rfl
end
theorem ok55 : SpecOk env0 55 spec55 := SpecOk.env rfl (fun _ _ h => h) (spec_of_tree (E := (env need55 (fun _ _ => none))) (sp := spec55) (valid _ _) (fun f sp h => SpecOk.env rfl (fun _ _ h => h) (need55_ok f sp h)) (fn := Tryz.f55) (c := (bodyOf Tryz.f55)) (by kernel_rfl) (by kernel_rfl) tree55 run55 (fun _ h => Tr.gives_val h))
noncomputable def tree35 (x : Int) : Tr Int :=
  .need (pre55 x) <|
  .ret (fn55 x)
noncomputable def fn35 (x : Int) : Int := (tree35 x).val
def pre35 (x : Int) : Prop := (tree35 x).ok
noncomputable def spec35 : Spec := { dom := (.st1 (.int .u64)), cod := (.int .i64), n := 1, pre := pre35, f := fn35 }
noncomputable def need35 : FuncId → Option Spec
  | 55 => some spec55
  | _ => none
theorem need35_ok : ∀ f sp, need35 f = some sp → SpecOk env0 f sp := by
  intro f sp h
  unfold need35 at h
  split at h
  · cases h; exact ok55
  · cases h
section
variable (W : Cfg) (Q : Int → Prop) (x : Int)
theorem run35 : run (env need35 (fun _ _ => none)) (fun _ _ _ => none) (finS spec35 Q) W 100000 (startFr 35 Tryz.f35 (bodyOf Tryz.f35) (argsOf (.st1 (.int .u64)) x)) [] [] = (tree35 x).wp Q := by kernel_rfl
end
theorem ok35 : SpecOk env0 35 spec35 := SpecOk.env rfl (fun _ _ h => h) (spec_of_tree (E := (env need35 (fun _ _ => none))) (sp := spec35) (valid _ _) (fun f sp h => SpecOk.env rfl (fun _ _ h => h) (need35_ok f sp h)) (fn := Tryz.f35) (c := (bodyOf Tryz.f35)) (by kernel_rfl) (by kernel_rfl) tree35 run35 (fun _ h => Tr.gives_val h))
inductive J17 where
 | h0
 | h1 (v0 : Int) (v1 : Int)
 | h2 (v0 : Int) (v1 : Int) (v2 : Int) (v3 : Int) (v4 : Int)
 | h3 (v0 : Int) (v1 : Int) (v2 : Int) (v3 : Int) (v4 : Int) (v5 : Int) (v6 : Int)
 | h4 (v0 : Int) (v1 : Int) (v5 : (List Int))
 | h5 (v0 : Int) (v1 : Int) (v5 : (List Int))
noncomputable def tree17 (x : (Int × DO)) : Tr (J17 ⊕ ((List Int) × (Int × Int))) :=
  .ite ((ilt x.1 0) == false) (
 .ite ((ilt 15 x.1) == false) (
 .need (pre30 x.2) <|
 .ite (!(fn30 x.2)) (
 let y0 : ((List Int) × (Int × Int)) := (([] : List Int), (0, 2))
 .ret (.inr y0)) (
 .ret (.inl (.h0)))) (
 let y1 : ((List Int) × (Int × Int)) := (([] : List Int), (0, 2))
 .ret (.inr y1))) (
 let y2 : ((List Int) × (Int × Int)) := (([] : List Int), (0, 2))
 .ret (.inr y2))
noncomputable def step17 (x : (Int × DO)) : J17 → Tr (J17 ⊕ ((List Int) × (Int × Int)))
 | .h0 =>
 .need (pre31 x.1) <|
 .need ((0 : Int) ≤ 3) <|
 .need (pre32 x.1) <|
 .need ((0 : Int) ≤ 2) <|
 .ite (ieq x.2.1 1) (
 let y0 := x.2.2
 let y1 := y0.1
 .need (pre31 y1) <|
 .need (pre32 y1) <|
 .need ((0 : Nat) < 1) <|
 .need (((0 : Nat) + 1 : Nat) ≤ 1) <|
 let y2 : Int := (ishl .u8 (fn31 x.1) 3)
 let y3 : Int := (ishl .u8 (fn32 x.1) 2)
 .ret (.inr ([(ior .u8 (ior .u8 192 y2) (fn31 y1))], ((ior .u8 y3 (fn32 y1)), 0)))) (
 let y4 := x.2.2
 let y5 := y4.2.2.2.2
 .ite y5.2.1 (
 .need ((0 : Nat) < 1) <|
 .need ((0 : Int) ≤ 0) <|
 .need ((0 : Nat) < 1) <|
 .need (((0 : Nat) + 1 : Nat) ≤ 1) <|
 .need ((0 + 1 : Nat) ≤ 1) <|
 .need (((2 : Nat) * 1 : Nat) ≤ 2 ^ 40) <|
 .need ((2 : Nat) ≤ 2 ^ 40) <|
 .need ((0 : Int) ≤ 8) <|
 .need ((0 : Nat) < 1) <|
 .need (((0 : Nat) + 1 : Nat) ≤ 1) <|
 .need ((2 : Nat) = 2) <|
 .need (((3 : Nat) * 1 : Nat) ≤ 2 ^ 40) <|
 .need ((3 : Nat) ≤ 2 ^ 40) <|
 .need ((0 : Int) ≤ 16) <|
 .need ((0 : Nat) < 1) <|
 .need (((0 : Nat) + 1 : Nat) ≤ 1) <|
 .need ((3 : Nat) = 3) <|
 .need (((4 : Nat) * 1 : Nat) ≤ 2 ^ 40) <|
 .need ((4 : Nat) ≤ 2 ^ 40) <|
 .need ((0 : Int) ≤ 24) <|
 .need ((0 : Nat) < 1) <|
 .need (((0 : Nat) + 1 : Nat) ≤ 1) <|
 .need ((4 : Nat) = 4) <|
 .need (((5 : Nat) * 1 : Nat) ≤ 2 ^ 40) <|
 .need ((5 : Nat) ≤ 2 ^ 40) <|
 .need (((0 : Nat) + 5 : Nat) ≤ 5) <|
 let y6 : Int := (ishl .u8 (fn31 x.1) 3)
 let y7 := y5.1
 let y8 : Int := (ishl .u8 (fn32 x.1) 2)
 .ret (.inr ([(ior .u8 y6 5), (iconv .u8 (ishr .i64 y7 0)), (iconv .u8 (ishr .i64 y7 8)), (iconv .u8 (ishr .i64 y7 16)), (iconv .u8 (ishr .i64 y7 24))], (y8, 0)))) (
 let y9 : Int := (ishl .u8 (fn32 x.1) 2)
 let y10 : Int := (ishl .u8 (fn31 x.1) 3)
 .ret (.inl (.h1 y9 y10))))
 | .h1 v0 v1 =>
 .need (pre34 x.2) <|
 let y0 := x.2.2.2.1
 .ite (ile 0 y0) (
 .need (pre31 y0) <|
 .need (pre32 y0) <|
 let y1 := (fn34 x.2)
 let y2 := y1.1
 let y3 := y1.2
 .ret (.inl (.h2 (ior .u8 v0 (fn32 y0)) v1 y2 y3 (fn31 y0)))) (
 let y4 := (fn34 x.2)
 let y5 := y4.1
 let y6 := y4.2
 .ret (.inl (.h2 v0 v1 y5 y6 5)))
 | .h2 v0 v1 v2 v3 v4 =>
 let y0 := x.2.2.2.2
 let y1 := y0.1
 .ite (ile 0 y1) (
 .need (pre31 y1) <|
 .need (pre32 y1) <|
 .need ((0 : Int) ≤ 1) <|
 let y2 : Int := (iconv .u64 y0.2.1)
 .need (pre35 y2) <|
 .ret (.inl (.h3 (ior .u8 v0 (ishl .u8 (fn32 y1) 1)) v1 v2 v3 v4 (fn31 y1) (fn35 y2)))) (
 .ret (.inl (.h3 v0 v1 v2 v3 v4 4 0)))
 | .h3 v0 v1 v2 v3 v4 v5 v6 =>
 .need ((0 : Int) ≤ 6) <|
 .need ((0 : Nat) < 1) <|
 let y0 := x.2.2.2
 .ite ((ile 0 y0.2.1) == false) (
 .ite ((ilt y0.1 0) == false) (
 .ite (ieq v4 4) (
 .need ((0 : Int) ≤ 6) <|
 .need ((0 : Int) ≤ 6) <|
 .need ((0 : Int) ≤ 3) <|
 .need ((0 : Nat) < 2) <|
 .need ((1 : Nat) < 2) <|
 let y1 : Int := (ior .u8 (ishl .u8 v2 6) v1)
 let y2 : (List Int) := [(ior .u8 y1 4), (ior .u8 (ior .u8 (ishl .u8 (iconv .u8 v6) 6) (ishl .u8 v5 3)) v4)]
 .ret (.inl (.h4 v0 v3 y2))) (
 let y3 : Int := (ior .u8 (ishl .u8 v2 6) v1)
 .ret (.inl (.h5 v0 v3 [(ior .u8 y3 v4)])))) (
 .need ((0 : Int) ≤ 6) <|
 .need ((0 : Int) ≤ 6) <|
 .need ((0 : Int) ≤ 3) <|
 .need ((0 : Nat) < 2) <|
 .need ((1 : Nat) < 2) <|
 let y4 : Int := (ior .u8 (ishl .u8 v2 6) v1)
 let y5 : (List Int) := [(ior .u8 y4 4), (ior .u8 (ior .u8 (ishl .u8 (iconv .u8 v6) 6) (ishl .u8 v5 3)) v4)]
 .ret (.inl (.h4 v0 v3 y5)))) (
 .need ((0 : Int) ≤ 6) <|
 .need ((0 : Int) ≤ 6) <|
 .need ((0 : Int) ≤ 3) <|
 .need ((0 : Nat) < 2) <|
 .need ((1 : Nat) < 2) <|
 let y6 : Int := (ior .u8 (ishl .u8 v2 6) v1)
 let y7 : (List Int) := [(ior .u8 y6 4), (ior .u8 (ior .u8 (ishl .u8 (iconv .u8 v6) 6) (ishl .u8 v5 3)) v4)]
 .ret (.inl (.h4 v0 v3 y7)))
 | .h4 v0 v1 v5 =>
 .need ((0 : Int) ≤ v1) <|
 .need ((v1 : Int) < 5) <|
 .ite (ieq v1 0) (
 .need (((0 : Nat) + 2 : Nat) ≤ 2) <|
 let y0 : (List Int) := (v5.take 2)
 let y1 : (Int × Int) := (v0, 0)
 .ret (.inr (y0, y1))) (
 .ite (ieq v1 1) (
 .need ((0 : Int) ≤ 0) <|
 .need ((0 : Nat) < 1) <|
 .need (((0 : Nat) + 1 : Nat) ≤ 1) <|
 .need ((0 + 2 : Nat) ≤ 2) <|
 .need (((3 : Nat) * 1 : Nat) ≤ 2 ^ 40) <|
 .need ((3 : Nat) ≤ 2 ^ 40) <|
 .need (((0 : Nat) + 3 : Nat) ≤ 3) <|
 let y2 : (List Int) := (v5.take 2)
 let y3 := x.2.2.2.2.2.2.1
 let y4 : (List Int) := (y2 ++ [(iconv .u8 (ishr .i64 y3 0))])
 let y5 : (Int × Int) := (v0, 0)
 .ret (.inr ((y4.take 3), y5))) (
 .ite (ieq v1 2) (
 .need ((0 : Int) ≤ 0) <|
 .need ((0 : Nat) < 1) <|
 .need (((0 : Nat) + 1 : Nat) ≤ 1) <|
 .need ((0 + 2 : Nat) ≤ 2) <|
 .need (((3 : Nat) * 1 : Nat) ≤ 2 ^ 40) <|
 .need ((3 : Nat) ≤ 2 ^ 40) <|
 .need ((0 : Int) ≤ 8) <|
 .need ((0 : Nat) < 1) <|
 .need (((0 : Nat) + 1 : Nat) ≤ 1) <|
 .need ((3 : Nat) = 3) <|
 .need (((4 : Nat) * 1 : Nat) ≤ 2 ^ 40) <|
 .need ((4 : Nat) ≤ 2 ^ 40) <|
 .need (((0 : Nat) + 4 : Nat) ≤ 4) <|
 let y6 : (List Int) := (v5.take 2)
 let y7 := x.2.2.2.2.2.2.1
 let y8 : (List Int) := (y6 ++ [(iconv .u8 (ishr .i64 y7 0))])
 let y9 : (List Int) := (y8 ++ [(iconv .u8 (ishr .i64 y7 8))])
 let y10 : (Int × Int) := (v0, 0)
 .ret (.inr ((y9.take 4), y10))) (
 .ite (ieq v1 3) (
 .need ((0 : Int) ≤ 0) <|
 .need ((0 : Nat) < 1) <|
 .need (((0 : Nat) + 1 : Nat) ≤ 1) <|
 .need ((0 + 2 : Nat) ≤ 2) <|
 .need (((3 : Nat) * 1 : Nat) ≤ 2 ^ 40) <|
 .need ((3 : Nat) ≤ 2 ^ 40) <|
 .need ((0 : Int) ≤ 8) <|
 .need ((0 : Nat) < 1) <|
 .need (((0 : Nat) + 1 : Nat) ≤ 1) <|
 .need ((3 : Nat) = 3) <|
 .need (((4 : Nat) * 1 : Nat) ≤ 2 ^ 40) <|
 .need ((4 : Nat) ≤ 2 ^ 40) <|
 .need ((0 : Int) ≤ 16) <|
 .need ((0 : Nat) < 1) <|
 .need (((0 : Nat) + 1 : Nat) ≤ 1) <|
 .need ((4 : Nat) = 4) <|
 .need (((5 : Nat) * 1 : Nat) ≤ 2 ^ 40) <|
 .need ((5 : Nat) ≤ 2 ^ 40) <|
 .need (((0 : Nat) + 5 : Nat) ≤ 5) <|
 let y11 : (List Int) := (v5.take 2)
 let y12 := x.2.2.2.2.2.2.1
 let y13 : (List Int) := (y11 ++ [(iconv .u8 (ishr .i64 y12 0))])
 let y14 : (List Int) := (y13 ++ [(iconv .u8 (ishr .i64 y12 8))])
 let y15 : (List Int) := (y14 ++ [(iconv .u8 (ishr .i64 y12 16))])
 let y16 : (Int × Int) := (v0, 0)
 .ret (.inr ((y15.take 5), y16))) (
 .need ((0 : Int) ≤ 0) <|
 .need ((0 : Nat) < 1) <|
 .need (((0 : Nat) + 1 : Nat) ≤ 1) <|
 .need ((0 + 2 : Nat) ≤ 2) <|
 .need (((3 : Nat) * 1 : Nat) ≤ 2 ^ 40) <|
 .need ((3 : Nat) ≤ 2 ^ 40) <|
 .need ((0 : Int) ≤ 8) <|
 .need ((0 : Nat) < 1) <|
 .need (((0 : Nat) + 1 : Nat) ≤ 1) <|
 .need ((3 : Nat) = 3) <|
 .need (((4 : Nat) * 1 : Nat) ≤ 2 ^ 40) <|
 .need ((4 : Nat) ≤ 2 ^ 40) <|
 .need ((0 : Int) ≤ 16) <|
 .need ((0 : Nat) < 1) <|
 .need (((0 : Nat) + 1 : Nat) ≤ 1) <|
 .need ((4 : Nat) = 4) <|
 .need (((5 : Nat) * 1 : Nat) ≤ 2 ^ 40) <|
 .need ((5 : Nat) ≤ 2 ^ 40) <|
 .need ((0 : Int) ≤ 24) <|
 .need ((0 : Nat) < 1) <|
 .need (((0 : Nat) + 1 : Nat) ≤ 1) <|
 .need ((5 : Nat) = 5) <|
 .need (((6 : Nat) * 1 : Nat) ≤ 2 ^ 40) <|
 .need ((6 : Nat) ≤ 2 ^ 40) <|
 .need (((0 : Nat) + 6 : Nat) ≤ 6) <|
 let y17 : (List Int) := (v5.take 2)
 let y18 := x.2.2.2.2.2.2.1
 let y19 : (List Int) := (y17 ++ [(iconv .u8 (ishr .i64 y18 0))])
 let y20 : (List Int) := (y19 ++ [(iconv .u8 (ishr .i64 y18 8))])
 let y21 : (List Int) := (y20 ++ [(iconv .u8 (ishr .i64 y18 16))])
 let y22 : (Int × Int) := (v0, 0)
 .ret (.inr (((y21 ++ [(iconv .u8 (ishr .i64 y18 24))]).take 6), y22))))))
 | .h5 v0 v1 v5 =>
 .need ((0 : Int) ≤ v1) <|
 .need ((v1 : Int) < 5) <|
 .ite (ieq v1 0) (
 .need (((0 : Nat) + 1 : Nat) ≤ 1) <|
 let y0 : (List Int) := (v5.take 1)
 let y1 : (Int × Int) := (v0, 0)
 .ret (.inr (y0, y1))) (
 .ite (ieq v1 1) (
 .need ((0 : Int) ≤ 0) <|
 .need ((0 : Nat) < 1) <|
 .need (((0 : Nat) + 1 : Nat) ≤ 1) <|
 .need ((0 + 1 : Nat) ≤ 1) <|
 .need (((2 : Nat) * 1 : Nat) ≤ 2 ^ 40) <|
 .need ((2 : Nat) ≤ 2 ^ 40) <|
 .need (((0 : Nat) + 2 : Nat) ≤ 2) <|
 let y2 : (List Int) := (v5.take 1)
 let y3 := x.2.2.2.2.2.2.1
 let y4 : (List Int) := (y2 ++ [(iconv .u8 (ishr .i64 y3 0))])
 let y5 : (Int × Int) := (v0, 0)
 .ret (.inr ((y4.take 2), y5))) (
 .ite (ieq v1 2) (
 .need ((0 : Int) ≤ 0) <|
 .need ((0 : Nat) < 1) <|
 .need (((0 : Nat) + 1 : Nat) ≤ 1) <|
 .need ((0 + 1 : Nat) ≤ 1) <|
 .need (((2 : Nat) * 1 : Nat) ≤ 2 ^ 40) <|
 .need ((2 : Nat) ≤ 2 ^ 40) <|
 .need ((0 : Int) ≤ 8) <|
 .need ((0 : Nat) < 1) <|
 .need (((0 : Nat) + 1 : Nat) ≤ 1) <|
 .need ((2 : Nat) = 2) <|
 .need (((3 : Nat) * 1 : Nat) ≤ 2 ^ 40) <|
 .need ((3 : Nat) ≤ 2 ^ 40) <|
 .need (((0 : Nat) + 3 : Nat) ≤ 3) <|
 let y6 : (List Int) := (v5.take 1)
 let y7 := x.2.2.2.2.2.2.1
 let y8 : (List Int) := (y6 ++ [(iconv .u8 (ishr .i64 y7 0))])
 let y9 : (List Int) := (y8 ++ [(iconv .u8 (ishr .i64 y7 8))])
 let y10 : (Int × Int) := (v0, 0)
 .ret (.inr ((y9.take 3), y10))) (
 .ite (ieq v1 3) (
 .need ((0 : Int) ≤ 0) <|
 .need ((0 : Nat) < 1) <|
 .need (((0 : Nat) + 1 : Nat) ≤ 1) <|
 .need ((0 + 1 : Nat) ≤ 1) <|
 .need (((2 : Nat) * 1 : Nat) ≤ 2 ^ 40) <|
 .need ((2 : Nat) ≤ 2 ^ 40) <|
 .need ((0 : Int) ≤ 8) <|
 .need ((0 : Nat) < 1) <|
 .need (((0 : Nat) + 1 : Nat) ≤ 1) <|
 .need ((2 : Nat) = 2) <|
 .need (((3 : Nat) * 1 : Nat) ≤ 2 ^ 40) <|
 .need ((3 : Nat) ≤ 2 ^ 40) <|
 .need ((0 : Int) ≤ 16) <|
 .need ((0 : Nat) < 1) <|
 .need (((0 : Nat) + 1 : Nat) ≤ 1) <|
 .need ((3 : Nat) = 3) <|
 .need (((4 : Nat) * 1 : Nat) ≤ 2 ^ 40) <|
 .need ((4 : Nat) ≤ 2 ^ 40) <|
 .need (((0 : Nat) + 4 : Nat) ≤ 4) <|
 let y11 : (List Int) := (v5.take 1)
 let y12 := x.2.2.2.2.2.2.1
 let y13 : (List Int) := (y11 ++ [(iconv .u8 (ishr .i64 y12 0))])
 let y14 : (List Int) := (y13 ++ [(iconv .u8 (ishr .i64 y12 8))])
 let y15 : (List Int) := (y14 ++ [(iconv .u8 (ishr .i64 y12 16))])
 let y16 : (Int × Int) := (v0, 0)
 .ret (.inr ((y15.take 4), y16))) (
 .need ((0 : Int) ≤ 0) <|
 .need ((0 : Nat) < 1) <|
 .need (((0 : Nat) + 1 : Nat) ≤ 1) <|
 .need ((0 + 1 : Nat) ≤ 1) <|
 .need (((2 : Nat) * 1 : Nat) ≤ 2 ^ 40) <|
 .need ((2 : Nat) ≤ 2 ^ 40) <|
 .need ((0 : Int) ≤ 8) <|
 .need ((0 : Nat) < 1) <|
 .need (((0 : Nat) + 1 : Nat) ≤ 1) <|
 .need ((2 : Nat) = 2) <|
 .need (((3 : Nat) * 1 : Nat) ≤ 2 ^ 40) <|
 .need ((3 : Nat) ≤ 2 ^ 40) <|
 .need ((0 : Int) ≤ 16) <|
 .need ((0 : Nat) < 1) <|
 .need (((0 : Nat) + 1 : Nat) ≤ 1) <|
 .need ((3 : Nat) = 3) <|
 .need (((4 : Nat) * 1 : Nat) ≤ 2 ^ 40) <|
 .need ((4 : Nat) ≤ 2 ^ 40) <|
 .need ((0 : Int) ≤ 24) <|
 .need ((0 : Nat) < 1) <|
 .need (((0 : Nat) + 1 : Nat) ≤ 1) <|
 .need ((4 : Nat) = 4) <|
 .need (((5 : Nat) * 1 : Nat) ≤ 2 ^ 40) <|
 .need ((5 : Nat) ≤ 2 ^ 40) <|
 .need (((0 : Nat) + 5 : Nat) ≤ 5) <|
 let y17 : (List Int) := (v5.take 1)
 let y18 := x.2.2.2.2.2.2.1
 let y19 : (List Int) := (y17 ++ [(iconv .u8 (ishr .i64 y18 0))])
 let y20 : (List Int) := (y19 ++ [(iconv .u8 (ishr .i64 y18 8))])
 let y21 : (List Int) := (y20 ++ [(iconv .u8 (ishr .i64 y18 16))])
 let y22 : (Int × Int) := (v0, 0)
 .ret (.inr (((y21 ++ [(iconv .u8 (ishr .i64 y18 24))]).take 5), y22))))))
noncomputable def cRZF4_0 (x : (Int × DO)) : AObj := .cell true 23 (.agg [1, 1, 1, 1, 1, 1, 1, 1] [(.int .u8 x.2.1), (.int .i64 x.2.2.1), (.int .i64 x.2.2.2.1), (.int .i64 x.2.2.2.2.1), (.int .i64 x.2.2.2.2.2.1), (.int .i64 x.2.2.2.2.2.2.1), (.bool x.2.2.2.2.2.2.2.1), (.int .i64 x.2.2.2.2.2.2.2.2)])
noncomputable def head17 (x : (Int × DO)) : J17 → Head
 | .h0 =>
 { fr := { id := 17, kind := .top, T := [(.int .i64 x.1), .any, .any, (.ptr 0 []), (.ptr 1 [])] ++ List.replicate 123 .any, items := [.code (subc [1, 1, 0] (bodyOf Tryz.f17)), .code (subc [1, 1, 1] (bodyOf Tryz.f17))], D := [], base := 0 },
   stk := [],
   H := [(cRZF4_0 x), .cell true 26 (.raw (.slice none 0 0))] }
 | .h1 v0 v1 =>
 { fr := { id := 17, kind := .top, T := [.any, .any, .any, (.ptr 0 []), (.ptr 1 []), (.int .u8 v0), .any, (.int .u8 v1), (.fn 33 [(.ptr 1 []), (.ptr 0 [])])] ++ List.replicate 119 .any, items := [.code (subc [1, 1, 1, 1, 1, 1, 0] (bodyOf Tryz.f17)), .code (subc [1, 1, 1, 1, 1, 1, 1] (bodyOf Tryz.f17))], D := [], base := 0 },
   stk := [],
   H := [(cRZF4_0 x), .cell true 26 (.raw (.slice none 0 0))] }
 | .h2 v0 v1 v2 v3 v4 =>
 { fr := { id := 17, kind := .top, T := [.any, .any, .any, (.ptr 0 []), (.ptr 1 []), (.int .u8 v0), .any, (.int .u8 v1), (.fn 33 [(.ptr 1 []), (.ptr 0 [])]), (.int .u8 v2), (.int .i64 v3), (.int .u8 v4), (.int .u8 4), (.int .i64 0)] ++ List.replicate 114 .any, items := [.code (subc [1, 1, 1, 1, 1, 1, 1, 1, 1, 0, 0] (bodyOf Tryz.f17)), .code (subc [1, 1, 1, 1, 1, 1, 1, 1, 1, 0, 1] (bodyOf Tryz.f17)), .code (subc [1, 1, 1, 1, 1, 1, 1, 1, 1, 1] (bodyOf Tryz.f17))], D := [], base := 0 },
   stk := [],
   H := [(cRZF4_0 x), .cell true 26 (.raw (.slice none 0 0))] }
 | .h3 v0 v1 v2 v3 v4 v5 v6 =>
 { fr := { id := 17, kind := .top, T := [.any, .any, .any, (.ptr 0 []), (.ptr 1 []), (.int .u8 v0), .any, (.int .u8 v1), (.fn 33 [(.ptr 1 []), (.ptr 0 [])]), (.int .u8 v2), (.int .i64 v3), (.int .u8 v4), (.int .u8 v5), (.int .i64 v6)] ++ List.replicate 114 .any, items := [.code (subc [1, 1, 1, 1, 1, 1, 1, 1, 1, 1, 0, 0] (bodyOf Tryz.f17)), .code (subc [1, 1, 1, 1, 1, 1, 1, 1, 1, 1, 0, 1] (bodyOf Tryz.f17)), .code (subc [1, 1, 1, 1, 1, 1, 1, 1, 1, 1, 1] (bodyOf Tryz.f17))], D := [], base := 0 },
   stk := [],
   H := [(cRZF4_0 x), .cell true 26 (.raw (.slice none 0 0))] }
 | .h4 v0 v1 v5 =>
 { fr := { id := 17, kind := .top, T := List.replicate 4 .any ++ [(.ptr 0 []), (.int .u8 v0), .any, .any, (.fn 33 [(.ptr 0 []), (.ptr 2 [])]), .any, (.int .i64 v1)] ++ List.replicate 117 .any, items := [.code (subc [1, 1, 1, 1, 1, 1, 1, 1, 1, 1, 1, 0] (bodyOf Tryz.f17)), .code (subc [1, 1, 1, 1, 1, 1, 1, 1, 1, 1, 1, 1] (bodyOf Tryz.f17))], D := [], base := 0 },
   stk := [],
   H := [.cell true 26 (.osl 1 [] 1 0 2 (some 2)), .cell true 5 (.arr 2 (.int .u8) v5), (cRZF4_0 x)] }
 | .h5 v0 v1 v5 =>
 { fr := { id := 17, kind := .top, T := List.replicate 4 .any ++ [(.ptr 0 []), (.int .u8 v0), .any, .any, (.fn 33 [(.ptr 0 []), (.ptr 2 [])]), .any, (.int .i64 v1)] ++ List.replicate 117 .any, items := [.code (subc [1, 1, 1, 1, 1, 1, 1, 1, 1, 1, 1, 0] (bodyOf Tryz.f17)), .code (subc [1, 1, 1, 1, 1, 1, 1, 1, 1, 1, 1, 1] (bodyOf Tryz.f17))], D := [], base := 0 },
   stk := [],
   H := [.cell true 26 (.osl 1 [] 1 0 1 (some 1)), .cell true 5 (.arr 1 (.int .u8) v5), (cRZF4_0 x)] }
noncomputable def stop17 : FuncId → Nat → Nat → Option Cut
  | 17, 7, 0 => some { tmps := [0, 3, 4], loops := [], dead := [], stk := [] }
  | 17, 25, 0 => some { tmps := [3, 4, 5, 7, 8], loops := [], dead := [], stk := [] }
  | 17, 33, 0 => some { tmps := [3, 4, 5, 7, 8, 9, 10, 11, 12, 13], loops := [], dead := [], stk := [] }
  | 17, 37, 0 => some { tmps := [3, 4, 5, 7, 8, 9, 10, 11, 12, 13], loops := [], dead := [], stk := [] }
  | 17, 43, 0 => some { tmps := [4, 5, 8, 10], loops := [], dead := [], stk := [] }
  | _, _, _ => none
noncomputable def fn17 (x : (Int × DO)) : ((List Int) × (Int × Int)) := endVal (TC.dflt (.st (.slice (.int .u8)) (.st (.int .u8) (.st1 (.int .i64))))) (step17 x) (tree17 x)
def pre17 (x : (Int × DO)) : Prop := ∃ r, Ends (step17 x) r (tree17 x)
noncomputable def spec17 : Spec := { dom := (.st (.int .i64) (.st1 CO)), cod := (.st (.slice (.int .u8)) (.st (.int .u8) (.st1 (.int .i64)))), n := 3, pre := pre17, f := fn17 }
noncomputable def need17 : FuncId → Option Spec
  | 30 => some spec30
  | 31 => some spec31
  | 32 => some spec32
  | 34 => some spec34
  | 35 => some spec35
  | _ => none
theorem need17_ok : ∀ f sp, need17 f = some sp → SpecOk env0 f sp := by
  intro f sp h
  unfold need17 at h
  split at h
  · cases h; exact ok30
  · cases h; exact ok31
  · cases h; exact ok32
  · cases h; exact ok34
  · cases h; exact ok35
  · cases h
section
variable (W : Cfg) (Q : ((List Int) × (Int × Int)) → Prop) (x : (Int × DO))
theorem run17 : run (env need17 (fun _ _ => none)) stop17 (finS spec17 Q) W 100000 (startFr 17 Tryz.f17 (bodyOf Tryz.f17) (argsOf (.st (.int .i64) (.st1 CO)) x)) [] [] = (tree17 x).wp (kont W Q (head17 x)) := by kernel_rfl
theorem run17h0 : run (env need17 (fun _ _ => none)) stop17 (finS spec17 Q) W 100000 (head17 x (.h0)).fr.enter (head17 x (.h0)).stk (head17 x (.h0)).H = (step17 x (.h0)).wp (kont W Q (head17 x)) := by kernel_rfl
theorem run17h1 (v0 v1 : Int) : run (env need17 (fun _ _ => none)) stop17 (finS spec17 Q) W 100000 (head17 x (.h1 v0 v1)).fr.enter (head17 x (.h1 v0 v1)).stk (head17 x (.h1 v0 v1)).H = (step17 x (.h1 v0 v1)).wp (kont W Q (head17 x)) := by kernel_rfl
theorem run17h2 (v0 v1 : Int) (v2 v3 v4 : Int) : run (env need17 (fun _ _ => none)) stop17 (finS spec17 Q) W 100000 (head17 x (.h2 v0 v1 v2 v3 v4)).fr.enter (head17 x (.h2 v0 v1 v2 v3 v4)).stk (head17 x (.h2 v0 v1 v2 v3 v4)).H = (step17 x (.h2 v0 v1 v2 v3 v4)).wp (kont W Q (head17 x)) := by kernel_rfl
theorem run17h3 (v0 v1 : Int) (v2 v3 : Int) (v4 v5 v6 : Int) : run (env need17 (fun _ _ => none)) stop17 (finS spec17 Q) W 100000 (head17 x (.h3 v0 v1 v2 v3 v4 v5 v6)).fr.enter (head17 x (.h3 v0 v1 v2 v3 v4 v5 v6)).stk (head17 x (.h3 v0 v1 v2 v3 v4 v5 v6)).H = (step17 x (.h3 v0 v1 v2 v3 v4 v5 v6)).wp (kont W Q (head17 x)) := by kernel_rfl
theorem run17h4 (v0 v1 : Int) (v5 : List Int) : run (env need17 (fun _ _ => none)) stop17 (finS spec17 Q) W 100000 (head17 x (.h4 v0 v1 v5)).fr.enter (head17 x (.h4 v0 v1 v5)).stk (head17 x (.h4 v0 v1 v5)).H = (step17 x (.h4 v0 v1 v5)).wp (kont W Q (head17 x)) := by kernel_rfl
theorem run17h5 (v0 v1 : Int) (v5 : List Int) : run (env need17 (fun _ _ => none)) stop17 (finS spec17 Q) W 100000 (head17 x (.h5 v0 v1 v5)).fr.enter (head17 x (.h5 v0 v1 v5)).stk (head17 x (.h5 v0 v1 v5)).H = (step17 x (.h5 v0 v1 v5)).wp (kont W Q (head17 x)) := by kernel_rfl
end
theorem runs17 (W : Cfg) (Q : ((List Int) × (Int × Int)) → Prop) (x : (Int × DO)) : ∀ j : J17, run (env need17 (fun _ _ => none)) stop17 (finS spec17 Q) W 100000 (head17 x j).fr.enter (head17 x j).stk (head17 x j).H = (step17 x j).wp (kont W Q (head17 x))
 | .h0 => run17h0 W Q x
 | .h1 v0 v1 => run17h1 W Q x v0 v1
 | .h2 v0 v1 v2 v3 v4 => run17h2 W Q x v0 v1 v2 v3 v4
 | .h3 v0 v1 v2 v3 v4 v5 v6 => run17h3 W Q x v0 v1 v2 v3 v4 v5 v6
 | .h4 v0 v1 v5 => run17h4 W Q x v0 v1 v5
 | .h5 v0 v1 v5 => run17h5 W Q x v0 v1 v5
theorem ok17 : SpecOk env0 17 spec17 := SpecOk.env rfl (fun _ _ h => h) (spec_of_trees (E := (env need17 (fun _ _ => none))) (sp := spec17) (valid _ _) (fun f sp h => SpecOk.env rfl (fun _ _ h => h) (need17_ok f sp h)) (fn := Tryz.f17) (c := (bodyOf Tryz.f17)) (by kernel_rfl) (by kernel_rfl) tree17 step17 head17 run17 runs17 (fun _ h => endVal_ends h))
noncomputable def tree36 (x : DO) : Tr Bool :=
  .ite ((ieq x.1 1) == true) (
 let y0 := x.2.1
 .ite ((ile 4 y0) == true) (
 .ret (ile y0 7)) (
 .ret false)) (
 .ret false)
noncomputable def fn36 (x : DO) : Bool := (tree36 x).val
def pre36 (x : DO) : Prop := (tree36 x).ok
noncomputable def spec36 : Spec := { dom := (.st1 CO), cod := .bool, n := 1, pre := pre36, f := fn36 }
noncomputable def need36 : FuncId → Option Spec
  | _ => none
theorem need36_ok : ∀ f sp, need36 f = some sp → SpecOk env0 f sp := by
  intro f sp h
  unfold need36 at h
  split at h
  · cases h
section
variable (W : Cfg) (Q : Bool → Prop) (x : DO)
theorem run36 : run (env need36 (fun _ _ => none)) (fun _ _ _ => none) (finS spec36 Q) W 100000 (startFr 36 Tryz.f36 (bodyOf Tryz.f36) (argsOf (.st1 CO) x)) [] [] = (tree36 x).wp Q := by kernel_rfl
end
theorem ok36 : SpecOk env0 36 spec36 := SpecOk.env rfl (fun _ _ h => h) (spec_of_tree (E := (env need36 (fun _ _ => none))) (sp := spec36) (valid _ _) (fun f sp h => SpecOk.env rfl (fun _ _ h => h) (need36_ok f sp h)) (fn := Tryz.f36) (c := (bodyOf Tryz.f36)) (by kernel_rfl) (by kernel_rfl) tree36 run36 (fun _ h => Tr.gives_val h))
noncomputable def tree18 (x : DI) : Tr Bool :=
  .ite ((ieq x.1 32) == false) (
 .ite (ieq x.1 33) (
 let y0 := x.2.2
 let y1 := y0.2
 let y2 := y1.2.1
 .need (pre36 y2) <|
 let y3 := (fn36 y2)
 .ret y3) (
 let y4 := x.2.2
 .ite ((ieq y4.1 1) == true) (
 let y5 := y4.2
 let y6 := y5.1
 .need (pre36 y6) <|
 .ite ((fn36 y6) == false) (
 let y7 := y5.2.1
 .need (pre36 y7) <|
 let y8 := (fn36 y7)
 .ret y8) (
 .ret true)) (
 .ret false))) (
 let y9 := x.2.2
 let y10 := y9.2
 let y11 := y10.2.1
 .need (pre36 y11) <|
 let y12 := (fn36 y11)
 .ret y12)
noncomputable def fn18 (x : DI) : Bool := (tree18 x).val
def pre18 (x : DI) : Prop := (tree18 x).ok
noncomputable def spec18 : Spec := { dom := (.st1 CInsn), cod := .bool, n := 1, pre := pre18, f := fn18 }
noncomputable def need18 : FuncId → Option Spec
  | 36 => some spec36
  | _ => none
theorem need18_ok : ∀ f sp, need18 f = some sp → SpecOk env0 f sp := by
  intro f sp h
  unfold need18 at h
  split at h
  · cases h; exact ok36
  · cases h
section
variable (W : Cfg) (Q : Bool → Prop) (x : DI)
theorem run18 : run (env need18 (fun _ _ => none)) (fun _ _ _ => none) (finS spec18 Q) W 100000 (startFr 18 Tryz.f18 (bodyOf Tryz.f18) (argsOf (.st1 CInsn) x)) [] [] = (tree18 x).wp Q := by kernel_rfl
end
theorem ok18 : SpecOk env0 18 spec18 := SpecOk.env rfl (fun _ _ h => h) (spec_of_tree (E := (env need18 (fun _ _ => none))) (sp := spec18) (valid _ _) (fun f sp h => SpecOk.env rfl (fun _ _ h => h) (need18_ok f sp h)) (fn := Tryz.f18) (c := (bodyOf Tryz.f18)) (by kernel_rfl) (by kernel_rfl) tree18 run18 (fun _ h => Tr.gives_val h))
inductive J19 where
 | h0 (v1 : Int) (v3 : Int) (v4 : Int)
 | h1 (v1 : Int) (v3 : Int) (v4 : Int)
 | h2 (v1 : Int)
 | h3 (v1 : Int) (v3 : Int) (v4 : Int)
 | h4 (v1 : Int) (v2 : Int)
 | h5 (v1 : Nat) (v2 : Nat) (v4 : Int) (v5 : Int) (v6 : Nat) (v7 : (List Int))
 | h6 (v1 : Int) (v2 : Int)
 | h7
 | h8 (v1 : Nat) (v2 : Nat) (v4 : Int) (v5 : Int) (v6 : Nat) (v7 : (List Int))
 | h9 (v1 : Nat) (v2 : Nat) (v3 : Nat) (v4 : (List Int))
noncomputable def tree19 (x : (List (List Int))) : Tr (J19 ⊕ (List Int)) :=
  .ret (.inl (.h0 0 (x.length : Int) 0))
noncomputable def step19 (x : (List (List Int))) : J19 → Tr (J19 ⊕ (List Int))
 | .h0 v1 v3 v4 =>
 .ite (ilt v4 v3) (
 .ret (.inl (.h1 v1 v3 v4))) (
 .ret (.inl (.h2 v1)))
 | .h1 v1 v3 v4 =>
 .need ((0 : Int) ≤ v4) <|
 .need (v4 < (x.length : Int)) <|
 let y0 : Int := (iadd .i64 v1 ((rdc (.slice (.int .u8)) x (v4).toNat).length : Int))
 .ite (ilt y0 0) (
 .fail (.inr (TC.dflt (.slice (.int .u8))))) (
 .ret (.inl (.h3 y0 v3 v4)))
 | .h2 v1 =>
 .ite (ilt v1 0) (
 .fail (.inr (TC.dflt (.slice (.int .u8))))) (
 let y0 : Int := (isub .i64 v1 0)
 .ite (ilt 0 y0) (
 .need ((0 : Int) = 0) <|
 .need ((0 : Nat) = 0) <|
 .need ((0 : Int) < y0) <|
 let y1 : Nat := (y0).toNat
 .need (((y1 : Nat) * 1 : Nat) ≤ 2 ^ 40) <|
 .need ((y1 : Nat) ≤ 2 ^ 40) <|
 .all fun j3 =>
 .need ((0 : Int) ≤ 0) <|
 .need ((0 : Nat) ≤ 0) <|
 let y2 : Nat := (y1 + j3)
 .need ((0 : Nat) ≤ y2) <|
 .need ((0 : Nat) = 0 ∨ (0 : Nat) < y2) <|
 .ret (.inl (.h5 0 y2 (x.length : Int) 0 y2 ((List.replicate y1 0) ++ (List.replicate j3 0))))) (
 .ret (.inl (.h4 (x.length : Int) 0))))
 | .h3 v1 v3 v4 =>
 .ret (.inl (.h0 v1 v3 (iadd .i64 v4 1)))
 | .h4 v1 v2 =>
 .ite (ilt v2 v1) (
 .ret (.inl (.h6 v1 v2))) (
 .ret (.inl (.h7)))
 | .h5 v1 v2 v4 v5 v6 v7 =>
 .ite (ilt v5 v4) (
 .ret (.inl (.h8 v1 v2 v4 v5 v6 v7))) (
 .ret (.inl (.h9 v1 v2 v6 v7)))
 | .h6 v1 v2 =>
 .need ((0 : Int) ≤ v2) <|
 .need (v2 < (x.length : Int)) <|
 let y0 : (List Int) := (rdc (.slice (.int .u8)) x (v2).toNat)
 let y1 : Nat := y0.length
 .ite (ieq (y1 : Int) 0) (
 let y2 : Int := (iadd .i64 v2 1)
 .ret (.inl (.h4 v1 y2))) (
 .need (((y1 : Nat) * 1 : Nat) ≤ 2 ^ 40) <|
 .need ((y1 : Nat) ≤ 2 ^ 40) <|
 .all fun j3 =>
 let y3 : Nat := (y1 + j3)
 let y4 : Int := (iadd .i64 v2 1)
 .ret (.inl (.h5 y1 y3 v1 y4 y3 (y0 ++ (List.replicate j3 0)))))
 | .h7 =>
 .fail (.inr (TC.dflt (.slice (.int .u8))))
 | .h8 v1 v2 v4 v5 v6 v7 =>
 .need ((0 : Int) ≤ v5) <|
 .need (v5 < (x.length : Int)) <|
 let y0 : (List Int) := (rdc (.slice (.int .u8)) x (v5).toNat)
 let y1 : Nat := y0.length
 let y2 : Nat := (v1 + y1)
 .ite (ilt ((v2 : Nat) : Int) ((y2 : Nat) : Int)) (
 .need ((0 + v1 : Nat) ≤ v6) <|
 .need (((y2 : Nat) * 1 : Nat) ≤ 2 ^ 40) <|
 .need ((y2 : Nat) ≤ 2 ^ 40) <|
 .all fun j3 =>
 let y3 : Nat := (y2 + j3)
 let y4 : Int := (iadd .i64 v5 1)
 .ret (.inl (.h5 y2 y3 v4 y4 y3 (((v7.take v1) ++ y0) ++ (List.replicate j3 0))))) (
 .need ((0 + v1 + y1 : Nat) ≤ v6) <|
 let y5 : Int := (iadd .i64 v5 1)
 .ret (.inl (.h5 y2 v2 v4 y5 v6 (spliceL v7 (0 + v1) y0))))
 | .h9 v1 v2 v3 v4 =>
 .need ((v1 : Nat) ≤ v3) <|
 .ret (.inr (v4.take v1))
noncomputable def head19 (x : (List (List Int))) : J19 → Head
 | .h0 v1 v3 v4 =>
 { fr := { id := 19, kind := .top, T := [(.fsl (.slice (.int .u8)) x), .any, .any, (.int .i64 v1)] ++ List.replicate 5 .any ++ [(.fsl (.slice (.int .u8)) x), (.int .i64 v3), (.int .i64 v4)] ++ List.replicate 24 .any, items := [.lp (subc [1, 1, 0, 1, 0, 0] (bodyOf Tryz.f19)), .blk 0, .code (subc [1, 1, 1] (bodyOf Tryz.f19))], D := [], base := 0 },
   stk := [],
   H := [] }
 | .h1 v1 v3 v4 =>
 { fr := { id := 19, kind := .top, T := [(.fsl (.slice (.int .u8)) x), .any, .any, (.int .i64 v1)] ++ List.replicate 5 .any ++ [(.fsl (.slice (.int .u8)) x), (.int .i64 v3), (.int .i64 v4)] ++ List.replicate 24 .any, items := [.code (subc [1, 1, 0, 1, 0, 0, 1, 1, 0, 0, 0] (bodyOf Tryz.f19)), .code (subc [1, 1, 0, 1, 0, 0, 1, 1, 0, 0, 1] (bodyOf Tryz.f19)), .blk 1, .code (subc [1, 1, 0, 1, 0, 0, 1, 1, 1] (bodyOf Tryz.f19)), .lp (subc [1, 1, 0, 1, 0, 0] (bodyOf Tryz.f19)), .blk 0, .code (subc [1, 1, 1] (bodyOf Tryz.f19))], D := [], base := 0 },
   stk := [],
   H := [] }
 | .h2 v1 =>
 { fr := { id := 19, kind := .top, T := [(.fsl (.slice (.int .u8)) x), .any, .any, (.int .i64 v1)] ++ List.replicate 32 .any, items := [.code (subc [1, 1, 1, 0] (bodyOf Tryz.f19)), .code (subc [1, 1, 1, 1] (bodyOf Tryz.f19))], D := [], base := 0 },
   stk := [],
   H := [] }
 | .h3 v1 v3 v4 =>
 { fr := { id := 19, kind := .top, T := [(.fsl (.slice (.int .u8)) x), .any, .any, (.int .i64 v1)] ++ List.replicate 5 .any ++ [(.fsl (.slice (.int .u8)) x), (.int .i64 v3), (.int .i64 v4)] ++ List.replicate 24 .any, items := [.code (subc [1, 1, 0, 1, 0, 0, 1, 1, 1] (bodyOf Tryz.f19)), .lp (subc [1, 1, 0, 1, 0, 0] (bodyOf Tryz.f19)), .blk 0, .code (subc [1, 1, 1] (bodyOf Tryz.f19))], D := [], base := 0 },
   stk := [],
   H := [] }
 | .h4 v1 v2 =>
 { fr := { id := 19, kind := .top, T := List.replicate 6 .any ++ [(.raw (.slice none 0 0))] ++ List.replicate 18 .any ++ [(.fsl (.slice (.int .u8)) x), (.int .i64 v1), (.int .i64 v2)] ++ List.replicate 8 .any, items := [.lp (subc [1, 1, 1, 1, 0, 1, 0, 0] (bodyOf Tryz.f19)), .blk 2, .code (subc [1, 1, 1, 1, 1] (bodyOf Tryz.f19))], D := [], base := 0 },
   stk := [],
   H := [] }
 | .h5 v1 v2 v4 v5 v6 v7 =>
 { fr := { id := 19, kind := .top, T := List.replicate 6 .any ++ [(.osl 0 [] 1 0 v1 (some v2))] ++ List.replicate 18 .any ++ [(.fsl (.slice (.int .u8)) x), (.int .i64 v4), (.int .i64 v5)] ++ List.replicate 8 .any, items := [.lp (subc [1, 1, 1, 1, 0, 1, 0, 0] (bodyOf Tryz.f19)), .blk 2, .code (subc [1, 1, 1, 1, 1] (bodyOf Tryz.f19))], D := [], base := 0 },
   stk := [],
   H := [.cell true 5 (.arr v6 (.int .u8) v7)] }
 | .h6 v1 v2 =>
 { fr := { id := 19, kind := .top, T := List.replicate 6 .any ++ [(.raw (.slice none 0 0))] ++ List.replicate 18 .any ++ [(.fsl (.slice (.int .u8)) x), (.int .i64 v1), (.int .i64 v2)] ++ List.replicate 8 .any, items := [.code (subc [1, 1, 1, 1, 0, 1, 0, 0, 1, 1, 0, 0, 0] (bodyOf Tryz.f19)), .code (subc [1, 1, 1, 1, 0, 1, 0, 0, 1, 1, 0, 0, 1] (bodyOf Tryz.f19)), .blk 3, .code (subc [1, 1, 1, 1, 0, 1, 0, 0, 1, 1, 1] (bodyOf Tryz.f19)), .lp (subc [1, 1, 1, 1, 0, 1, 0, 0] (bodyOf Tryz.f19)), .blk 2, .code (subc [1, 1, 1, 1, 1] (bodyOf Tryz.f19))], D := [], base := 0 },
   stk := [],
   H := [] }
 | .h7 =>
 { fr := { id := 19, kind := .top, T := List.replicate 6 .any ++ [(.raw (.slice none 0 0))] ++ List.replicate 29 .any, items := [.code (subc [1, 1, 1, 1, 1, 0] (bodyOf Tryz.f19)), .code (subc [1, 1, 1, 1, 1, 1] (bodyOf Tryz.f19))], D := [], base := 0 },
   stk := [],
   H := [] }
 | .h8 v1 v2 v4 v5 v6 v7 =>
 { fr := { id := 19, kind := .top, T := List.replicate 6 .any ++ [(.osl 0 [] 1 0 v1 (some v2))] ++ List.replicate 18 .any ++ [(.fsl (.slice (.int .u8)) x), (.int .i64 v4), (.int .i64 v5)] ++ List.replicate 8 .any, items := [.code (subc [1, 1, 1, 1, 0, 1, 0, 0, 1, 1, 0, 0, 0] (bodyOf Tryz.f19)), .code (subc [1, 1, 1, 1, 0, 1, 0, 0, 1, 1, 0, 0, 1] (bodyOf Tryz.f19)), .blk 3, .code (subc [1, 1, 1, 1, 0, 1, 0, 0, 1, 1, 1] (bodyOf Tryz.f19)), .lp (subc [1, 1, 1, 1, 0, 1, 0, 0] (bodyOf Tryz.f19)), .blk 2, .code (subc [1, 1, 1, 1, 1] (bodyOf Tryz.f19))], D := [], base := 0 },
   stk := [],
   H := [.cell true 5 (.arr v6 (.int .u8) v7)] }
 | .h9 v1 v2 v3 v4 =>
 { fr := { id := 19, kind := .top, T := List.replicate 6 .any ++ [(.osl 0 [] 1 0 v1 (some v2))] ++ List.replicate 29 .any, items := [.code (subc [1, 1, 1, 1, 1, 0] (bodyOf Tryz.f19)), .code (subc [1, 1, 1, 1, 1, 1] (bodyOf Tryz.f19))], D := [], base := 0 },
   stk := [],
   H := [.cell true 5 (.arr v3 (.int .u8) v4)] }
noncomputable def stop19 : FuncId → Nat → Nat → Option Cut
  | 19, 0, 0 => some { tmps := [0, 3, 9, 10, 11], loops := [], dead := [], stk := [] }
  | 19, 9, 0 => some { tmps := [0, 3, 9, 10, 11], loops := [], dead := [], stk := [] }
  | 19, 19, 0 => some { tmps := [0, 3], loops := [], dead := [], stk := [] }
  | 19, 17, 0 => some { tmps := [0, 3, 9, 10, 11], loops := [], dead := [], stk := [] }
  | 19, 4, 0 => some { tmps := [6, 25, 26, 27], loops := [], dead := [], stk := [] }
  | 19, 25, 0 => some { tmps := [6, 25, 26, 27], loops := [], dead := [], stk := [] }
  | 19, 31, 0 => some { tmps := [6], loops := [], dead := [], stk := [] }
  | _, _, _ => none
noncomputable def fn19 (x : (List (List Int))) : (List Int) := endVal (TC.dflt (.slice (.int .u8))) (step19 x) (tree19 x)
def pre19 (x : (List (List Int))) : Prop := ∃ r, Ends (step19 x) r (tree19 x)
noncomputable def spec19 : Spec := { dom := (.st1 (.slice (.slice (.int .u8)))), cod := (.slice (.int .u8)), n := 1, pre := pre19, f := fn19, own := some 5 }
noncomputable def need19 : FuncId → Option Spec
  | _ => none
theorem need19_ok : ∀ f sp, need19 f = some sp → SpecOk env0 f sp := by
  intro f sp h
  unfold need19 at h
  split at h
  · cases h
section
variable (W : Cfg) (Q : (List Int) → Prop) (x : (List (List Int)))
theorem run19 : run (env need19 (fun _ _ => none)) stop19 (finS spec19 Q) W 100000 (startFr 19 Tryz.f19 (bodyOf Tryz.f19) (argsOf (.st1 (.slice (.slice (.int .u8)))) x)) [] [] = (tree19 x).wp (kont W Q (head19 x)) := by kernel_rfl
theorem run19h0 (v1 v3 v4 : Int) : run (env need19 (fun _ _ => none)) stop19 (finS spec19 Q) W 100000 (head19 x (.h0 v1 v3 v4)).fr.enter (head19 x (.h0 v1 v3 v4)).stk (head19 x (.h0 v1 v3 v4)).H = (step19 x (.h0 v1 v3 v4)).wp (kont W Q (head19 x)) := by kernel_rfl
theorem run19h1 (v1 v3 v4 : Int) : run (env need19 (fun _ _ => none)) stop19 (finS spec19 Q) W 100000 (head19 x (.h1 v1 v3 v4)).fr.enter (head19 x (.h1 v1 v3 v4)).stk (head19 x (.h1 v1 v3 v4)).H = (step19 x (.h1 v1 v3 v4)).wp (kont W Q (head19 x)) := by kernel_rfl
theorem run19h2 (v1 : Int) : run (env need19 (fun _ _ => none)) stop19 (finS spec19 Q) W 100000 (head19 x (.h2 v1)).fr.enter (head19 x (.h2 v1)).stk (head19 x (.h2 v1)).H = (step19 x (.h2 v1)).wp (kont W Q (head19 x)) := by kernel_rfl
theorem run19h3 (v1 v3 v4 : Int) : run (env need19 (fun _ _ => none)) stop19 (finS spec19 Q) W 100000 (head19 x (.h3 v1 v3 v4)).fr.enter (head19 x (.h3 v1 v3 v4)).stk (head19 x (.h3 v1 v3 v4)).H = (step19 x (.h3 v1 v3 v4)).wp (kont W Q (head19 x)) := by kernel_rfl
theorem run19h4 (v1 v2 : Int) : run (env need19 (fun _ _ => none)) stop19 (finS spec19 Q) W 100000 (head19 x (.h4 v1 v2)).fr.enter (head19 x (.h4 v1 v2)).stk (head19 x (.h4 v1 v2)).H = (step19 x (.h4 v1 v2)).wp (kont W Q (head19 x)) := by kernel_rfl
theorem run19h5 (v1 v2 : Nat) (v4 v5 : Int) (v6 : Nat) (v7 : List Int) : run (env need19 (fun _ _ => none)) stop19 (finS spec19 Q) W 100000 (head19 x (.h5 v1 v2 v4 v5 v6 v7)).fr.enter (head19 x (.h5 v1 v2 v4 v5 v6 v7)).stk (head19 x (.h5 v1 v2 v4 v5 v6 v7)).H = (step19 x (.h5 v1 v2 v4 v5 v6 v7)).wp (kont W Q (head19 x)) := by kernel_rfl
theorem run19h6 (v1 v2 : Int) : run (env need19 (fun _ _ => none)) stop19 (finS spec19 Q) W 100000 (head19 x (.h6 v1 v2)).fr.enter (head19 x (.h6 v1 v2)).stk (head19 x (.h6 v1 v2)).H = (step19 x (.h6 v1 v2)).wp (kont W Q (head19 x)) := by kernel_rfl
theorem run19h7 : run (env need19 (fun _ _ => none)) stop19 (finS spec19 Q) W 100000 (head19 x (.h7)).fr.enter (head19 x (.h7)).stk (head19 x (.h7)).H = (step19 x (.h7)).wp (kont W Q (head19 x)) := by kernel_rfl
theorem run19h8 (v1 v2 : Nat) (v4 v5 : Int) (v6 : Nat) (v7 : List Int) : run (env need19 (fun _ _ => none)) stop19 (finS spec19 Q) W 100000 (head19 x (.h8 v1 v2 v4 v5 v6 v7)).fr.enter (head19 x (.h8 v1 v2 v4 v5 v6 v7)).stk (head19 x (.h8 v1 v2 v4 v5 v6 v7)).H = (step19 x (.h8 v1 v2 v4 v5 v6 v7)).wp (kont W Q (head19 x)) := by kernel_rfl
theorem run19h9 (v1 v2 v3 : Nat) (v4 : List Int) : run (env need19 (fun _ _ => none)) stop19 (finS spec19 Q) W 100000 (head19 x (.h9 v1 v2 v3 v4)).fr.enter (head19 x (.h9 v1 v2 v3 v4)).stk (head19 x (.h9 v1 v2 v3 v4)).H = (step19 x (.h9 v1 v2 v3 v4)).wp (kont W Q (head19 x)) := by kernel_rfl
end
theorem runs19 (W : Cfg) (Q : (List Int) → Prop) (x : (List (List Int))) : ∀ j : J19, run (env need19 (fun _ _ => none)) stop19 (finS spec19 Q) W 100000 (head19 x j).fr.enter (head19 x j).stk (head19 x j).H = (step19 x j).wp (kont W Q (head19 x))
 | .h0 v1 v3 v4 => run19h0 W Q x v1 v3 v4
 | .h1 v1 v3 v4 => run19h1 W Q x v1 v3 v4
 | .h2 v1 => run19h2 W Q x v1
 | .h3 v1 v3 v4 => run19h3 W Q x v1 v3 v4
 | .h4 v1 v2 => run19h4 W Q x v1 v2
 | .h5 v1 v2 v4 v5 v6 v7 => run19h5 W Q x v1 v2 v4 v5 v6 v7
 | .h6 v1 v2 => run19h6 W Q x v1 v2
 | .h7 => run19h7 W Q x
 | .h8 v1 v2 v4 v5 v6 v7 => run19h8 W Q x v1 v2 v4 v5 v6 v7
 | .h9 v1 v2 v3 v4 => run19h9 W Q x v1 v2 v3 v4
theorem ok19 : SpecOk env0 19 spec19 := SpecOk.env rfl (fun _ _ h => h) (spec_of_trees (E := (env need19 (fun _ _ => none))) (sp := spec19) (valid _ _) (fun f sp h => SpecOk.env rfl (fun _ _ h => h) (need19_ok f sp h)) (fn := Tryz.f19) (c := (bodyOf Tryz.f19)) (by kernel_rfl) (by kernel_rfl) tree19 step19 head19 run19 runs19 (fun _ h => endVal_ends h))
end Go.Eng.RZ
end
section
/- Functions of this program, written out. -/
namespace Go.Eng.RZ
open Go.Proofs Go.Eng
inductive J6 where
 | h0 (v21 : (List Int)) (v22 : Int) (v23 : (List Int)) (v24 : Int) (v25 : Int) (v26 : Int)
 | h1 (v21 : (List Int)) (v22 : Int) (v23 : (List Int)) (v24 : Int) (v25 : Int) (v26 : Int) (v27 : DO) (v35 : DO)
 | h2 (v1 : Nat) (v3 : Int) (v25 : (List Int)) (v26 : Int) (v27 : (List Int)) (v28 : Int) (v29 : Int) (v30 : Int) (v31 : DO) (v39 : Nat) (v40 : (List Int))
 | h3 (v0 : (List Int)) (v2 : Nat) (v3 : Int) (v25 : (List Int)) (v26 : Int) (v27 : (List Int)) (v28 : Int) (v29 : Int) (v30 : Int) (v31 : Nat) (v32 : (List Int))
 | h4 (v1 : Nat) (v2 : Int) (v24 : (List Int)) (v25 : Int) (v26 : (List Int)) (v27 : Int) (v28 : Int) (v29 : Int) (v30 : Nat) (v31 : (List Int))
 | h5 (v0 : (List Int)) (v2 : Nat) (v3 : Int) (v25 : (List Int)) (v26 : Int) (v27 : (List Int)) (v28 : Int) (v29 : Int) (v30 : Int) (v31 : Nat) (v32 : (List Int))
 | h6 (v1 : Nat) (v2 : Int) (v24 : (List Int)) (v25 : Int) (v26 : (List Int)) (v27 : Int) (v28 : Int) (v29 : Int) (v30 : Nat) (v31 : (List Int))
 | h7 (v2 : (List Int)) (v4 : Nat) (v5 : Int) (v28 : (List Int)) (v29 : (List Int)) (v30 : Int) (v31 : Int) (v32 : Int) (v33 : Nat) (v34 : (List Int))
 | h8 (v0 : (List Int)) (v2 : Nat) (v3 : Int) (v25 : (List Int)) (v26 : Int) (v27 : Int) (v28 : Int) (v29 : Nat) (v30 : (List Int))
 | h9 (v3 : Nat) (v4 : Int) (v27 : (List Int)) (v28 : (List Int)) (v29 : Int) (v30 : Int) (v31 : Int) (v32 : Nat) (v33 : (List Int))
 | h10 (v1 : Nat) (v2 : Int) (v24 : (List Int)) (v25 : Int) (v26 : Int) (v27 : Int) (v28 : Nat) (v29 : (List Int))
 | h11 (v1 : Nat) (v2 : (List Int)) (v4 : Nat) (v26 : Nat) (v27 : (List Int)) (v28 : (List Int)) (v29 : Int) (v30 : Int) (v31 : Int) (v32 : Nat) (v33 : (List Int))
 | h12 (v0 : (List Int)) (v2 : Nat) (v24 : (List Int)) (v25 : Int) (v26 : Int) (v27 : Int) (v28 : Nat) (v29 : (List Int))
 | h13 (v1 : Nat) (v3 : Nat) (v25 : Nat) (v26 : (List Int)) (v27 : (List Int)) (v28 : Int) (v29 : Int) (v30 : Int) (v31 : Nat) (v32 : (List Int))
 | h14 (v1 : Nat) (v23 : (List Int)) (v24 : Int) (v25 : Int) (v26 : Int) (v27 : Nat) (v28 : (List Int))
 | h15 (v1 : Nat) (v2 : Int) (v3 : Nat) (v4 : (List Int)) (v5 : (List Int)) (v6 : Int) (v7 : Int) (v8 : Int)
 | h16 (v1 : Nat) (v2 : Int) (v3 : Int) (v4 : Int) (v5 : Nat) (v6 : (List Int))
 | h17 (v1 : Nat) (v2 : Int) (v3 : Int) (v4 : Int) (v5 : Nat) (v6 : (List Int))
 | h18 (v1 : Nat) (v2 : Nat) (v3 : (List Int))
noncomputable def tree6 (x : DI) : Tr (J6 ⊕ ((List Int) × Int)) :=
  .need (pre14 x) <|
  let y0 : ((Unit × (Unit × ((List Int) × (Int × (Int × Int))))) × Bool) := (fn14 x).2
  .ite (!y0.2) (
 .ret (.inr (([] : List Int), 2))) (
 let y1 := (fn14 x).1
 let y2 := y0.1.2.2
 let y3 := y2.2
 let y4 := y3.2
 .ret (.inl (.h0 y1.1 y1.2.1 y2.1 y3.1 y4.1 y4.2)))
noncomputable def step6 (x : DI) : J6 → Tr (J6 ⊕ ((List Int) × Int))
 | .h0 v21 v22 v23 v24 v25 v26 =>
 let y0 := x.2.2.2
 let y1 := y0.1
 .need (pre15 y1) <|
 let y2 := y0.2.1
 .need (pre15 y2) <|
 .both (
 let y3 := (ieq v25 2)
 .ite y3 (
 let y4 := (fn15 y2)
 let y5 := (fn15 y1)
 .ret (.inl (.h1 v21 v22 v23 v24 v25 v26 y4 y5))) (
 let y6 := (fn15 y1)
 let y7 := (fn15 y2)
 .ret (.inl (.h1 v21 v22 v23 v24 v25 v26 y6 y7)))) (
 let y8 := (ieq v25 2)
 .ite y8 (
 let y9 := (fn15 y2)
 let y10 := (fn15 y1)
 .ret (.inl (.h1 v21 v22 v23 v24 v25 v26 y9 y10))) (
 let y11 := (fn15 y1)
 let y12 := (fn15 y2)
 .ret (.inl (.h1 v21 v22 v23 v24 v25 v26 y11 y12))))
 | .h1 v21 v22 v23 v24 v25 v26 v27 v35 =>
 .both (
 .need (pre16 v23) <|
 let y0 := (ilt v24 0)
 .ite y0 (
 let y1 : Nat := (fn16 v23).length
 let y2 : Int := v35.2.1
 .ret (.inl (.h2 y1 y2 v21 v22 v23 v24 v25 v26 v27 y1 (fn16 v23)))) (
 let y3 : Nat := (fn16 v23).length
 .ret (.inl (.h2 y3 v24 v21 v22 v23 v24 v25 v26 v27 y3 (fn16 v23))))) (
 .need (pre16 v23) <|
 let y4 := (ilt v24 0)
 .ite y4 (
 let y5 : Nat := (fn16 v23).length
 let y6 : Int := v35.2.1
 .ret (.inl (.h2 y5 y6 v21 v22 v23 v24 v25 v26 v27 y5 (fn16 v23)))) (
 let y7 : Nat := (fn16 v23).length
 .ret (.inl (.h2 y7 v24 v21 v22 v23 v24 v25 v26 v27 y7 (fn16 v23)))))
 | .h2 v1 v3 v25 v26 v27 v28 v29 v30 v31 v39 v40 =>
 .ite (ieq v29 1) (
 let y0 : (Int × DO) := (v3, v31)
 .need (pre17 y0) <|
 let y1 := (fn17 y0)
 let y2 := y1.1
 let y3 := y1.2.1
 .ret (.inl (.h3 y2 v1 y3 v25 v26 v27 v28 v29 v30 v39 v40))) (
 .ite (ieq v29 2) (
 let y4 : (Int × DO) := (v3, v31)
 .need (pre17 y4) <|
 let y5 := (fn17 y4)
 let y6 := y5.1
 let y7 := y5.2.1
 .ret (.inl (.h3 y6 v1 y7 v25 v26 v27 v28 v29 v30 v39 v40))) (
 .ite (ieq v29 3) (
 let y8 : Int := (isub .i64 (v1 : Int) 1)
 .need ((0 : Int) ≤ y8) <|
 .need (y8 < (v1 : Int)) <|
 let y9 : Nat := (0 + (y8).toNat)
 .need ((y9 : Nat) < v39) <|
 .need ((0 : Int) ≤ y8) <|
 .need (y8 < (v1 : Int)) <|
 .need ((y9 : Nat) < v39) <|
 .need ((0 : Int) ≤ 3) <|
 let y10 : Int := v31.2.1
 .ret (.inl (.h4 v1 (iconv .u8 (ishr .i64 y10 3)) v25 v26 v27 v28 v29 v30 v39 (v40.set y9 (iadd .u8 (rdc (.int .u8) v40 y9) (iconv .u8 (iand .i64 y10 7))))))) (
 .ret (.inl (.h4 v1 0 v25 v26 v27 v28 v29 v30 v39 v40)))))
 | .h3 v0 v2 v3 v25 v26 v27 v28 v29 v30 v31 v32 =>
 .ite ((ieq x.2.2.1 8) == true) (
 .ite ((ieq (v25.length : Int) 1) == false) (
 .need ((0 : Int) ≤ 0) <|
 .need (0 < (v25.length : Int)) <|
 .ite (ieq (rdc (.int .i64) v25 0) 4) (
 let y0 : Int := (ior .u8 v3 8)
 .ret (.inl (.h5 v0 v2 y0 v25 v26 v27 v28 v29 v30 v31 v32))) (
 .ret (.inl (.h5 v0 v2 v3 v25 v26 v27 v28 v29 v30 v31 v32)))) (
 let y1 : Int := (ior .u8 v3 8)
 .ret (.inl (.h5 v0 v2 y1 v25 v26 v27 v28 v29 v30 v31 v32)))) (
 .ret (.inl (.h5 v0 v2 v3 v25 v26 v27 v28 v29 v30 v31 v32)))
 | .h4 v1 v2 v24 v25 v26 v27 v28 v29 v30 v31 =>
 .ite ((ieq x.2.2.1 8) == true) (
 .ite ((ieq (v24.length : Int) 1) == false) (
 .need ((0 : Int) ≤ 0) <|
 .need (0 < (v24.length : Int)) <|
 .ite (ieq (rdc (.int .i64) v24 0) 4) (
 let y0 : Int := (ior .u8 v2 8)
 .ret (.inl (.h6 v1 y0 v24 v25 v26 v27 v28 v29 v30 v31))) (
 .ret (.inl (.h6 v1 v2 v24 v25 v26 v27 v28 v29 v30 v31)))) (
 let y1 : Int := (ior .u8 v2 8)
 .ret (.inl (.h6 v1 y1 v24 v25 v26 v27 v28 v29 v30 v31)))) (
 .ret (.inl (.h6 v1 v2 v24 v25 v26 v27 v28 v29 v30 v31)))
 | .h5 v0 v2 v3 v25 v26 v27 v28 v29 v30 v31 v32 =>
 .ite (ine v26 0) (
 .need ((0 : Nat) < 1) <|
 .need (((0 : Nat) + 1 : Nat) ≤ 1) <|
 .need (((1 : Nat) * 1 : Nat) ≤ 2 ^ 40) <|
 .need ((1 : Nat) ≤ 2 ^ 40) <|
 .ret (.inl (.h7 v0 v2 v3 [v26] v27 v28 v29 v30 v31 v32))) (
 .ret (.inl (.h8 v0 v2 v3 v27 v28 v29 v30 v31 v32)))
 | .h6 v1 v2 v24 v25 v26 v27 v28 v29 v30 v31 =>
 .ite (ine v25 0) (
 .need ((0 : Nat) < 1) <|
 .need (((0 : Nat) + 1 : Nat) ≤ 1) <|
 .need (((1 : Nat) * 1 : Nat) ≤ 2 ^ 40) <|
 .need ((1 : Nat) ≤ 2 ^ 40) <|
 .ret (.inl (.h9 v1 v2 [v25] v26 v27 v28 v29 v30 v31))) (
 .ret (.inl (.h10 v1 v2 v26 v27 v28 v29 v30 v31)))
 | .h7 v2 v4 v5 v28 v29 v30 v31 v32 v33 v34 =>
 .ite ((ine v5 0) == false) (
 .need (pre18 x) <|
 .ite (fn18 x) (
 .need ((0 : Nat) < 1) <|
 .need (((0 : Nat) + 1 : Nat) ≤ 1) <|
 .need ((1 : Nat) = 1) <|
 .need (((2 : Nat) * 1 : Nat) ≤ 2 ^ 40) <|
 .need ((2 : Nat) ≤ 2 ^ 40) <|
 let y0 : (List Int) := (v28 ++ [(ior .u8 64 v5)])
 .ret (.inl (.h11 2 v2 v4 2 y0 v29 v30 v31 v32 v33 v34))) (
 .ret (.inl (.h11 1 v2 v4 1 v28 v29 v30 v31 v32 v33 v34)))) (
 .need ((0 : Nat) < 1) <|
 .need (((0 : Nat) + 1 : Nat) ≤ 1) <|
 .need ((1 : Nat) = 1) <|
 .need (((2 : Nat) * 1 : Nat) ≤ 2 ^ 40) <|
 .need ((2 : Nat) ≤ 2 ^ 40) <|
 let y1 : (List Int) := (v28 ++ [(ior .u8 64 v5)])
 .ret (.inl (.h11 2 v2 v4 2 y1 v29 v30 v31 v32 v33 v34)))
 | .h8 v0 v2 v3 v25 v26 v27 v28 v29 v30 =>
 .ite ((ine v3 0) == false) (
 .need (pre18 x) <|
 .ite (fn18 x) (
 .need ((0 : Nat) < 1) <|
 .need (((0 : Nat) + 1 : Nat) ≤ 1) <|
 .need (((1 : Nat) * 1 : Nat) ≤ 2 ^ 40) <|
 .need ((1 : Nat) ≤ 2 ^ 40) <|
 let y0 : (List Int) := [(ior .u8 64 v3)]
 .ret (.inl (.h11 1 v0 v2 1 y0 v25 v26 v27 v28 v29 v30))) (
 .ret (.inl (.h12 v0 v2 v25 v26 v27 v28 v29 v30)))) (
 .need ((0 : Nat) < 1) <|
 .need (((0 : Nat) + 1 : Nat) ≤ 1) <|
 .need (((1 : Nat) * 1 : Nat) ≤ 2 ^ 40) <|
 .need ((1 : Nat) ≤ 2 ^ 40) <|
 let y1 : (List Int) := [(ior .u8 64 v3)]
 .ret (.inl (.h11 1 v0 v2 1 y1 v25 v26 v27 v28 v29 v30)))
 | .h9 v3 v4 v27 v28 v29 v30 v31 v32 v33 =>
 .ite ((ine v4 0) == false) (
 .need (pre18 x) <|
 .ite (fn18 x) (
 .need ((0 : Nat) < 1) <|
 .need (((0 : Nat) + 1 : Nat) ≤ 1) <|
 .need ((1 : Nat) = 1) <|
 .need (((2 : Nat) * 1 : Nat) ≤ 2 ^ 40) <|
 .need ((2 : Nat) ≤ 2 ^ 40) <|
 let y0 : (List Int) := (v27 ++ [(ior .u8 64 v4)])
 .ret (.inl (.h13 2 v3 2 y0 v28 v29 v30 v31 v32 v33))) (
 .ret (.inl (.h13 1 v3 1 v27 v28 v29 v30 v31 v32 v33)))) (
 .need ((0 : Nat) < 1) <|
 .need (((0 : Nat) + 1 : Nat) ≤ 1) <|
 .need ((1 : Nat) = 1) <|
 .need (((2 : Nat) * 1 : Nat) ≤ 2 ^ 40) <|
 .need ((2 : Nat) ≤ 2 ^ 40) <|
 let y1 : (List Int) := (v27 ++ [(ior .u8 64 v4)])
 .ret (.inl (.h13 2 v3 2 y1 v28 v29 v30 v31 v32 v33)))
 | .h10 v1 v2 v24 v25 v26 v27 v28 v29 =>
 .ite ((ine v2 0) == false) (
 .need (pre18 x) <|
 .ite (fn18 x) (
 .need ((0 : Nat) < 1) <|
 .need (((0 : Nat) + 1 : Nat) ≤ 1) <|
 .need (((1 : Nat) * 1 : Nat) ≤ 2 ^ 40) <|
 .need ((1 : Nat) ≤ 2 ^ 40) <|
 let y0 : (List Int) := [(ior .u8 64 v2)]
 .ret (.inl (.h13 1 v1 1 y0 v24 v25 v26 v27 v28 v29))) (
 .ret (.inl (.h14 v1 v24 v25 v26 v27 v28 v29)))) (
 .need ((0 : Nat) < 1) <|
 .need (((0 : Nat) + 1 : Nat) ≤ 1) <|
 .need (((1 : Nat) * 1 : Nat) ≤ 2 ^ 40) <|
 .need ((1 : Nat) ≤ 2 ^ 40) <|
 let y1 : (List Int) := [(ior .u8 64 v2)]
 .ret (.inl (.h13 1 v1 1 y1 v24 v25 v26 v27 v28 v29)))
 | .h11 v1 v2 v4 v26 v27 v28 v29 v30 v31 v32 v33 =>
 .need (((0 : Nat) + v1 : Nat) ≤ v26) <|
 .need (((0 : Nat) + v4 : Nat) ≤ v32) <|
 .need ((0 : Nat) < 3) <|
 .need ((1 : Nat) < 3) <|
 .need ((2 : Nat) < 3) <|
 .need (((0 : Nat) + 3 : Nat) ≤ 3) <|
 let y0 : (List (List Int)) := [(v27.take v1), (v33.take v4), v2]
 .need (pre19 y0) <|
 .ite (ieq x.1 39) (
 let y1 := (fn19 y0)
 let y2 : Nat := y1.length
 let y3 := x.2.2.2.2
 .ret (.inl (.h15 y2 (iconv .i64 y3.2.1) y2 y1 v28 v29 v30 v31))) (
 let y4 := (fn19 y0)
 let y5 : Nat := y4.length
 let y6 := x.2.2.2.2
 .ret (.inl (.h15 y5 y6.1.2.2.2.2.2.2.2 y5 y4 v28 v29 v30 v31)))
 | .h12 v0 v2 v24 v25 v26 v27 v28 v29 =>
 .need (((0 : Nat) + v2 : Nat) ≤ v28) <|
 .need ((0 : Nat) < 3) <|
 .need ((1 : Nat) < 3) <|
 .need ((2 : Nat) < 3) <|
 .need (((0 : Nat) + 3 : Nat) ≤ 3) <|
 let y0 : (List (List Int)) := [([] : List Int), (v29.take v2), v0]
 .need (pre19 y0) <|
 .ite (ieq x.1 39) (
 let y1 := (fn19 y0)
 let y2 : Nat := y1.length
 let y3 := x.2.2.2.2
 .ret (.inl (.h15 y2 (iconv .i64 y3.2.1) y2 y1 v24 v25 v26 v27))) (
 let y4 := (fn19 y0)
 let y5 : Nat := y4.length
 let y6 := x.2.2.2.2
 .ret (.inl (.h15 y5 y6.1.2.2.2.2.2.2.2 y5 y4 v24 v25 v26 v27)))
 | .h13 v1 v3 v25 v26 v27 v28 v29 v30 v31 v32 =>
 .need (((0 : Nat) + v1 : Nat) ≤ v25) <|
 .need (((0 : Nat) + v3 : Nat) ≤ v31) <|
 .need ((0 : Nat) < 3) <|
 .need ((1 : Nat) < 3) <|
 .need ((2 : Nat) < 3) <|
 .need (((0 : Nat) + 3 : Nat) ≤ 3) <|
 let y0 : (List (List Int)) := [(v26.take v1), (v32.take v3), ([] : List Int)]
 .need (pre19 y0) <|
 .ite (ieq x.1 39) (
 let y1 := (fn19 y0)
 let y2 : Nat := y1.length
 let y3 := x.2.2.2.2
 .ret (.inl (.h15 y2 (iconv .i64 y3.2.1) y2 y1 v27 v28 v29 v30))) (
 let y4 := (fn19 y0)
 let y5 : Nat := y4.length
 let y6 := x.2.2.2.2
 .ret (.inl (.h15 y5 y6.1.2.2.2.2.2.2.2 y5 y4 v27 v28 v29 v30)))
 | .h14 v1 v23 v24 v25 v26 v27 v28 =>
 .need (((0 : Nat) + v1 : Nat) ≤ v27) <|
 .need ((0 : Nat) < 3) <|
 .need ((1 : Nat) < 3) <|
 .need ((2 : Nat) < 3) <|
 .need (((0 : Nat) + 3 : Nat) ≤ 3) <|
 let y0 : (List (List Int)) := [([] : List Int), (v28.take v1), ([] : List Int)]
 .need (pre19 y0) <|
 .ite (ieq x.1 39) (
 let y1 := (fn19 y0)
 let y2 : Nat := y1.length
 let y3 := x.2.2.2.2
 .ret (.inl (.h15 y2 (iconv .i64 y3.2.1) y2 y1 v23 v24 v25 v26))) (
 let y4 := (fn19 y0)
 let y5 : Nat := y4.length
 let y6 := x.2.2.2.2
 .ret (.inl (.h15 y5 y6.1.2.2.2.2.2.2.2 y5 y4 v23 v24 v25 v26)))
 | .h15 v1 v2 v3 v4 v5 v6 v7 v8 =>
 .ret (.inl (.h16 v1 v2 v8 0 v3 v4))
 | .h16 v1 v2 v3 v4 v5 v6 =>
 .ite (ilt v4 v3) (
 .ret (.inl (.h17 v1 v2 v3 v4 v5 v6))) (
 .ret (.inl (.h18 v1 v5 v6)))
 | .h17 v1 v2 v3 v4 v5 v6 =>
 let y0 : Int := (imul .i64 8 v4)
 .need ((0 : Int) ≤ y0) <|
 .need ((0 : Nat) < 1) <|
 .need (((0 : Nat) + 1 : Nat) ≤ 1) <|
 .need ((v1 : Nat) = v5) <|
 let y1 : Nat := (v1 + 1)
 .need (((y1 : Nat) * 1 : Nat) ≤ 2 ^ 40) <|
 .need ((y1 : Nat) ≤ 2 ^ 40) <|
 .ret (.inl (.h16 y1 v2 v3 (iadd .i64 v4 1) y1 (v6 ++ [(iconv .u8 (ishr .i64 v2 y0))])))
 | .h18 v1 v2 v3 =>
 .need (((0 : Nat) + v1 : Nat) ≤ v2) <|
 .ret (.inr ((v3.take v1), 0))
noncomputable def cRZF5_0 (x : DI) : AObj := .cell true 25 (.agg [1, 1, 1, 8, 8, 1, 1] [(.int .u8 x.1), (.int .u8 x.2.1), (.int .i64 x.2.2.1), (.agg [1, 1, 1, 1, 1, 1, 1, 1] [(.int .u8 x.2.2.2.1.1), (.int .i64 x.2.2.2.1.2.1), (.int .i64 x.2.2.2.1.2.2.1), (.int .i64 x.2.2.2.1.2.2.2.1), (.int .i64 x.2.2.2.1.2.2.2.2.1), (.int .i64 x.2.2.2.1.2.2.2.2.2.1), (.bool x.2.2.2.1.2.2.2.2.2.2.1), (.int .i64 x.2.2.2.1.2.2.2.2.2.2.2)]), (.agg [1, 1, 1, 1, 1, 1, 1, 1] [(.int .u8 x.2.2.2.2.1.1), (.int .i64 x.2.2.2.2.1.2.1), (.int .i64 x.2.2.2.2.1.2.2.1), (.int .i64 x.2.2.2.2.1.2.2.2.1), (.int .i64 x.2.2.2.2.1.2.2.2.2.1), (.int .i64 x.2.2.2.2.1.2.2.2.2.2.1), (.bool x.2.2.2.2.1.2.2.2.2.2.2.1), (.int .i64 x.2.2.2.2.1.2.2.2.2.2.2.2)]), (.int .u8 x.2.2.2.2.2.1), (.int .i64 x.2.2.2.2.2.2)])
noncomputable def head6 (x : DI) : J6 → Head
 | .h0 v21 v22 v23 v24 v25 v26 =>
 { fr := { id := 6, kind := .top, T := [.any, (.ptr 0 []), (.raw (.slice none 0 0)), .any, (.ptr 1 []), (.ptr 2 [])] ++ List.replicate 133 .any, items := [.code (subc [1, 1, 1, 0] (bodyOf Tryz.f6)), .code (subc [1, 1, 1, 1] (bodyOf Tryz.f6))], D := [], base := 0 },
   stk := [],
   H := [(cRZF5_0 x), .cell true 45 (.agg [1, 1, 1] [(.fsl (.int .i64) v21), (.int .u8 v22), .junk]), .cell true 49 (.agg [1, 1, 1, 1, 1, 1] [.junk, .junk, (.fsl (.int .u8) v23), (.int .i64 v24), (.int .i64 v25), (.int .i64 v26)])] }
 | .h1 v21 v22 v23 v24 v25 v26 v27 v35 =>
 { fr := { id := 6, kind := .top, T := [.any, (.ptr 0 []), (.raw (.slice none 0 0)), .any, (.ptr 1 []), (.ptr 2 []), .any, (.ptr 3 []), (.ptr 4 [])] ++ List.replicate 130 .any, items := [.code (subc [1, 1, 1, 1, 1, 0] (bodyOf Tryz.f6)), .code (subc [1, 1, 1, 1, 1, 1] (bodyOf Tryz.f6))], D := [], base := 0 },
   stk := [],
   H := [(cRZF5_0 x), .cell true 45 (.agg [1, 1, 1] [(.fsl (.int .i64) v21), (.int .u8 v22), .junk]), .cell true 49 (.agg [1, 1, 1, 1, 1, 1] [.junk, .junk, (.fsl (.int .u8) v23), (.int .i64 v24), (.int .i64 v25), (.int .i64 v26)]), .cell true 23 (.agg [1, 1, 1, 1, 1, 1, 1, 1] [(.int .u8 v27.1), (.int .i64 v27.2.1), (.int .i64 v27.2.2.1), (.int .i64 v27.2.2.2.1), (.int .i64 v27.2.2.2.2.1), (.int .i64 v27.2.2.2.2.2.1), (.bool v27.2.2.2.2.2.2.1), (.int .i64 v27.2.2.2.2.2.2.2)]), .cell true 23 (.agg [1, 1, 1, 1, 1, 1, 1, 1] [(.int .u8 v35.1), (.int .i64 v35.2.1), (.int .i64 v35.2.2.1), (.int .i64 v35.2.2.2.1), (.int .i64 v35.2.2.2.2.1), (.int .i64 v35.2.2.2.2.2.1), (.bool v35.2.2.2.2.2.2.1), (.int .i64 v35.2.2.2.2.2.2.2)])] }
 | .h2 v1 v3 v25 v26 v27 v28 v29 v30 v31 v39 v40 =>
 { fr := { id := 6, kind := .top, T := [.any, (.ptr 0 []), (.raw (.slice none 0 0)), .any, (.ptr 1 []), (.ptr 2 []), .any, (.ptr 3 []), .any, (.raw (.slice none 0 0)), (.osl 4 [] 1 0 v1 none), (.int .u8 0), (.int .i64 v3)] ++ List.replicate 126 .any, items := [.code (subc [1, 1, 1, 1, 1, 1, 1, 1, 0, 0] (bodyOf Tryz.f6)), .code (subc [1, 1, 1, 1, 1, 1, 1, 1, 0, 1] (bodyOf Tryz.f6)), .code (subc [1, 1, 1, 1, 1, 1, 1, 1, 1] (bodyOf Tryz.f6))], D := [], base := 0 },
   stk := [],
   H := [(cRZF5_0 x), .cell true 45 (.agg [1, 1, 1] [(.fsl (.int .i64) v25), (.int .u8 v26), .junk]), .cell true 49 (.agg [1, 1, 1, 1, 1, 1] [.junk, .junk, (.fsl (.int .u8) v27), (.int .i64 v28), (.int .i64 v29), (.int .i64 v30)]), .cell true 23 (.agg [1, 1, 1, 1, 1, 1, 1, 1] [(.int .u8 v31.1), (.int .i64 v31.2.1), (.int .i64 v31.2.2.1), (.int .i64 v31.2.2.2.1), (.int .i64 v31.2.2.2.2.1), (.int .i64 v31.2.2.2.2.2.1), (.bool v31.2.2.2.2.2.2.1), (.int .i64 v31.2.2.2.2.2.2.2)]), .cell true 5 (.arr v39 (.int .u8) v40)] }
 | .h3 v0 v2 v3 v25 v26 v27 v28 v29 v30 v31 v32 =>
 { fr := { id := 6, kind := .top, T := [.any, (.ptr 0 []), (.raw (.slice none 0 0)), .any, (.ptr 1 []), (.ptr 2 []), .any, .any, .any, (.fsl (.int .u8) v0), (.osl 3 [] 1 0 v2 none), (.int .u8 v3)] ++ List.replicate 127 .any, items := [.code (subc [1, 1, 1, 1, 1, 1, 1, 1, 1, 0, 0] (bodyOf Tryz.f6)), .code (subc [1, 1, 1, 1, 1, 1, 1, 1, 1, 0, 1] (bodyOf Tryz.f6)), .code (subc [1, 1, 1, 1, 1, 1, 1, 1, 1, 1] (bodyOf Tryz.f6))], D := [], base := 0 },
   stk := [],
   H := [(cRZF5_0 x), .cell true 45 (.agg [1, 1, 1] [(.fsl (.int .i64) v25), (.int .u8 v26), .junk]), .cell true 49 (.agg [1, 1, 1, 1, 1, 1] [.junk, .junk, (.fsl (.int .u8) v27), (.int .i64 v28), (.int .i64 v29), (.int .i64 v30)]), .cell true 5 (.arr v31 (.int .u8) v32)] }
 | .h4 v1 v2 v24 v25 v26 v27 v28 v29 v30 v31 =>
 { fr := { id := 6, kind := .top, T := [.any, (.ptr 0 []), (.raw (.slice none 0 0)), .any, (.ptr 1 []), (.ptr 2 []), .any, .any, .any, (.raw (.slice none 0 0)), (.osl 3 [] 1 0 v1 none), (.int .u8 v2)] ++ List.replicate 127 .any, items := [.code (subc [1, 1, 1, 1, 1, 1, 1, 1, 1, 0, 0] (bodyOf Tryz.f6)), .code (subc [1, 1, 1, 1, 1, 1, 1, 1, 1, 0, 1] (bodyOf Tryz.f6)), .code (subc [1, 1, 1, 1, 1, 1, 1, 1, 1, 1] (bodyOf Tryz.f6))], D := [], base := 0 },
   stk := [],
   H := [(cRZF5_0 x), .cell true 45 (.agg [1, 1, 1] [(.fsl (.int .i64) v24), (.int .u8 v25), .junk]), .cell true 49 (.agg [1, 1, 1, 1, 1, 1] [.junk, .junk, (.fsl (.int .u8) v26), (.int .i64 v27), (.int .i64 v28), (.int .i64 v29)]), .cell true 5 (.arr v30 (.int .u8) v31)] }
 | .h5 v0 v2 v3 v25 v26 v27 v28 v29 v30 v31 v32 =>
 { fr := { id := 6, kind := .top, T := [.any, (.ptr 0 []), (.raw (.slice none 0 0)), .any, (.ptr 1 []), (.ptr 2 []), .any, .any, .any, (.fsl (.int .u8) v0), (.osl 3 [] 1 0 v2 none), (.int .u8 v3)] ++ List.replicate 127 .any, items := [.code (subc [1, 1, 1, 1, 1, 1, 1, 1, 1, 1, 0, 0] (bodyOf Tryz.f6)), .code (subc [1, 1, 1, 1, 1, 1, 1, 1, 1, 1, 0, 1] (bodyOf Tryz.f6)), .code (subc [1, 1, 1, 1, 1, 1, 1, 1, 1, 1, 1] (bodyOf Tryz.f6))], D := [], base := 0 },
   stk := [],
   H := [(cRZF5_0 x), .cell true 45 (.agg [1, 1, 1] [(.fsl (.int .i64) v25), (.int .u8 v26), .junk]), .cell true 49 (.agg [1, 1, 1, 1, 1, 1] [.junk, .junk, (.fsl (.int .u8) v27), (.int .i64 v28), (.int .i64 v29), (.int .i64 v30)]), .cell true 5 (.arr v31 (.int .u8) v32)] }
 | .h6 v1 v2 v24 v25 v26 v27 v28 v29 v30 v31 =>
 { fr := { id := 6, kind := .top, T := [.any, (.ptr 0 []), (.raw (.slice none 0 0)), .any, (.ptr 1 []), (.ptr 2 []), .any, .any, .any, (.raw (.slice none 0 0)), (.osl 3 [] 1 0 v1 none), (.int .u8 v2)] ++ List.replicate 127 .any, items := [.code (subc [1, 1, 1, 1, 1, 1, 1, 1, 1, 1, 0, 0] (bodyOf Tryz.f6)), .code (subc [1, 1, 1, 1, 1, 1, 1, 1, 1, 1, 0, 1] (bodyOf Tryz.f6)), .code (subc [1, 1, 1, 1, 1, 1, 1, 1, 1, 1, 1] (bodyOf Tryz.f6))], D := [], base := 0 },
   stk := [],
   H := [(cRZF5_0 x), .cell true 45 (.agg [1, 1, 1] [(.fsl (.int .i64) v24), (.int .u8 v25), .junk]), .cell true 49 (.agg [1, 1, 1, 1, 1, 1] [.junk, .junk, (.fsl (.int .u8) v26), (.int .i64 v27), (.int .i64 v28), (.int .i64 v29)]), .cell true 5 (.arr v30 (.int .u8) v31)] }
 | .h7 v2 v4 v5 v28 v29 v30 v31 v32 v33 v34 =>
 { fr := { id := 6, kind := .top, T := [.any, (.ptr 0 []), (.osl 1 [] 1 0 1 none), .any, .any, (.ptr 2 []), .any, .any, .any, (.fsl (.int .u8) v2), (.osl 3 [] 1 0 v4 none), (.int .u8 v5)] ++ List.replicate 127 .any, items := [.code (subc [1, 1, 1, 1, 1, 1, 1, 1, 1, 1, 1, 0, 0] (bodyOf Tryz.f6)), .code (subc [1, 1, 1, 1, 1, 1, 1, 1, 1, 1, 1, 0, 1] (bodyOf Tryz.f6)), .code (subc [1, 1, 1, 1, 1, 1, 1, 1, 1, 1, 1, 1] (bodyOf Tryz.f6))], D := [], base := 0 },
   stk := [],
   H := [(cRZF5_0 x), .cell true 5 (.arr 1 (.int .u8) v28), .cell true 49 (.agg [1, 1, 1, 1, 1, 1] [.junk, .junk, (.fsl (.int .u8) v29), (.int .i64 v30), (.int .i64 v31), (.int .i64 v32)]), .cell true 5 (.arr v33 (.int .u8) v34)] }
 | .h8 v0 v2 v3 v25 v26 v27 v28 v29 v30 =>
 { fr := { id := 6, kind := .top, T := [.any, (.ptr 0 []), (.raw (.slice none 0 0)), .any, .any, (.ptr 1 []), .any, .any, .any, (.fsl (.int .u8) v0), (.osl 2 [] 1 0 v2 none), (.int .u8 v3)] ++ List.replicate 127 .any, items := [.code (subc [1, 1, 1, 1, 1, 1, 1, 1, 1, 1, 1, 0, 0] (bodyOf Tryz.f6)), .code (subc [1, 1, 1, 1, 1, 1, 1, 1, 1, 1, 1, 0, 1] (bodyOf Tryz.f6)), .code (subc [1, 1, 1, 1, 1, 1, 1, 1, 1, 1, 1, 1] (bodyOf Tryz.f6))], D := [], base := 0 },
   stk := [],
   H := [(cRZF5_0 x), .cell true 49 (.agg [1, 1, 1, 1, 1, 1] [.junk, .junk, (.fsl (.int .u8) v25), (.int .i64 v26), (.int .i64 v27), (.int .i64 v28)]), .cell true 5 (.arr v29 (.int .u8) v30)] }
 | .h9 v3 v4 v27 v28 v29 v30 v31 v32 v33 =>
 { fr := { id := 6, kind := .top, T := [.any, (.ptr 0 []), (.osl 1 [] 1 0 1 none), .any, .any, (.ptr 2 []), .any, .any, .any, (.raw (.slice none 0 0)), (.osl 3 [] 1 0 v3 none), (.int .u8 v4)] ++ List.replicate 127 .any, items := [.code (subc [1, 1, 1, 1, 1, 1, 1, 1, 1, 1, 1, 0, 0] (bodyOf Tryz.f6)), .code (subc [1, 1, 1, 1, 1, 1, 1, 1, 1, 1, 1, 0, 1] (bodyOf Tryz.f6)), .code (subc [1, 1, 1, 1, 1, 1, 1, 1, 1, 1, 1, 1] (bodyOf Tryz.f6))], D := [], base := 0 },
   stk := [],
   H := [(cRZF5_0 x), .cell true 5 (.arr 1 (.int .u8) v27), .cell true 49 (.agg [1, 1, 1, 1, 1, 1] [.junk, .junk, (.fsl (.int .u8) v28), (.int .i64 v29), (.int .i64 v30), (.int .i64 v31)]), .cell true 5 (.arr v32 (.int .u8) v33)] }
 | .h10 v1 v2 v24 v25 v26 v27 v28 v29 =>
 { fr := { id := 6, kind := .top, T := [.any, (.ptr 0 []), (.raw (.slice none 0 0)), .any, .any, (.ptr 1 []), .any, .any, .any, (.raw (.slice none 0 0)), (.osl 2 [] 1 0 v1 none), (.int .u8 v2)] ++ List.replicate 127 .any, items := [.code (subc [1, 1, 1, 1, 1, 1, 1, 1, 1, 1, 1, 0, 0] (bodyOf Tryz.f6)), .code (subc [1, 1, 1, 1, 1, 1, 1, 1, 1, 1, 1, 0, 1] (bodyOf Tryz.f6)), .code (subc [1, 1, 1, 1, 1, 1, 1, 1, 1, 1, 1, 1] (bodyOf Tryz.f6))], D := [], base := 0 },
   stk := [],
   H := [(cRZF5_0 x), .cell true 49 (.agg [1, 1, 1, 1, 1, 1] [.junk, .junk, (.fsl (.int .u8) v24), (.int .i64 v25), (.int .i64 v26), (.int .i64 v27)]), .cell true 5 (.arr v28 (.int .u8) v29)] }
 | .h11 v1 v2 v4 v26 v27 v28 v29 v30 v31 v32 v33 =>
 { fr := { id := 6, kind := .top, T := [.any, (.ptr 0 []), (.osl 1 [] 1 0 v1 none), .any, .any, (.ptr 2 []), .any, .any, .any, (.fsl (.int .u8) v2), (.osl 3 [] 1 0 v4 none)] ++ List.replicate 128 .any, items := [.code (subc [1, 1, 1, 1, 1, 1, 1, 1, 1, 1, 1, 1, 0] (bodyOf Tryz.f6)), .code (subc [1, 1, 1, 1, 1, 1, 1, 1, 1, 1, 1, 1, 1] (bodyOf Tryz.f6))], D := [], base := 0 },
   stk := [],
   H := [(cRZF5_0 x), .cell true 5 (.arr v26 (.int .u8) v27), .cell true 49 (.agg [1, 1, 1, 1, 1, 1] [.junk, .junk, (.fsl (.int .u8) v28), (.int .i64 v29), (.int .i64 v30), (.int .i64 v31)]), .cell true 5 (.arr v32 (.int .u8) v33)] }
 | .h12 v0 v2 v24 v25 v26 v27 v28 v29 =>
 { fr := { id := 6, kind := .top, T := [.any, (.ptr 0 []), (.raw (.slice none 0 0)), .any, .any, (.ptr 1 []), .any, .any, .any, (.fsl (.int .u8) v0), (.osl 2 [] 1 0 v2 none)] ++ List.replicate 128 .any, items := [.code (subc [1, 1, 1, 1, 1, 1, 1, 1, 1, 1, 1, 1, 0] (bodyOf Tryz.f6)), .code (subc [1, 1, 1, 1, 1, 1, 1, 1, 1, 1, 1, 1, 1] (bodyOf Tryz.f6))], D := [], base := 0 },
   stk := [],
   H := [(cRZF5_0 x), .cell true 49 (.agg [1, 1, 1, 1, 1, 1] [.junk, .junk, (.fsl (.int .u8) v24), (.int .i64 v25), (.int .i64 v26), (.int .i64 v27)]), .cell true 5 (.arr v28 (.int .u8) v29)] }
 | .h13 v1 v3 v25 v26 v27 v28 v29 v30 v31 v32 =>
 { fr := { id := 6, kind := .top, T := [.any, (.ptr 0 []), (.osl 1 [] 1 0 v1 none), .any, .any, (.ptr 2 []), .any, .any, .any, (.raw (.slice none 0 0)), (.osl 3 [] 1 0 v3 none)] ++ List.replicate 128 .any, items := [.code (subc [1, 1, 1, 1, 1, 1, 1, 1, 1, 1, 1, 1, 0] (bodyOf Tryz.f6)), .code (subc [1, 1, 1, 1, 1, 1, 1, 1, 1, 1, 1, 1, 1] (bodyOf Tryz.f6))], D := [], base := 0 },
   stk := [],
   H := [(cRZF5_0 x), .cell true 5 (.arr v25 (.int .u8) v26), .cell true 49 (.agg [1, 1, 1, 1, 1, 1] [.junk, .junk, (.fsl (.int .u8) v27), (.int .i64 v28), (.int .i64 v29), (.int .i64 v30)]), .cell true 5 (.arr v31 (.int .u8) v32)] }
 | .h14 v1 v23 v24 v25 v26 v27 v28 =>
 { fr := { id := 6, kind := .top, T := [.any, (.ptr 0 []), (.raw (.slice none 0 0)), .any, .any, (.ptr 1 []), .any, .any, .any, (.raw (.slice none 0 0)), (.osl 2 [] 1 0 v1 none)] ++ List.replicate 128 .any, items := [.code (subc [1, 1, 1, 1, 1, 1, 1, 1, 1, 1, 1, 1, 0] (bodyOf Tryz.f6)), .code (subc [1, 1, 1, 1, 1, 1, 1, 1, 1, 1, 1, 1, 1] (bodyOf Tryz.f6))], D := [], base := 0 },
   stk := [],
   H := [(cRZF5_0 x), .cell true 49 (.agg [1, 1, 1, 1, 1, 1] [.junk, .junk, (.fsl (.int .u8) v23), (.int .i64 v24), (.int .i64 v25), (.int .i64 v26)]), .cell true 5 (.arr v27 (.int .u8) v28)] }
 | .h15 v1 v2 v3 v4 v5 v6 v7 v8 =>
 { fr := { id := 6, kind := .top, T := [.any, .any, (.osl 0 [] 1 0 v1 none), .any, .any, (.ptr 1 [])] ++ List.replicate 7 .any ++ [(.int .i64 v2)] ++ List.replicate 125 .any, items := [.code (subc [1, 1, 1, 1, 1, 1, 1, 1, 1, 1, 1, 1, 1, 1, 1, 0, 0] (bodyOf Tryz.f6)), .code (subc [1, 1, 1, 1, 1, 1, 1, 1, 1, 1, 1, 1, 1, 1, 1, 0, 1] (bodyOf Tryz.f6)), .code (subc [1, 1, 1, 1, 1, 1, 1, 1, 1, 1, 1, 1, 1, 1, 1, 1] (bodyOf Tryz.f6))], D := [], base := 0 },
   stk := [],
   H := [.cell true 5 (.arr v3 (.int .u8) v4), .cell true 49 (.agg [1, 1, 1, 1, 1, 1] [.junk, .junk, (.fsl (.int .u8) v5), (.int .i64 v6), (.int .i64 v7), (.int .i64 v8)])] }
 | .h16 v1 v2 v3 v4 v5 v6 =>
 { fr := { id := 6, kind := .top, T := [.any, .any, (.osl 0 [] 1 0 v1 none)] ++ List.replicate 10 .any ++ [(.int .i64 v2)] ++ List.replicate 111 .any ++ [(.int .i64 v3), (.int .i64 v4)] ++ List.replicate 12 .any, items := [.lp (subc [1, 1, 1, 1, 1, 1, 1, 1, 1, 1, 1, 1, 1, 1, 1, 0, 1, 0, 0] (bodyOf Tryz.f6)), .blk 1, .code (subc [1, 1, 1, 1, 1, 1, 1, 1, 1, 1, 1, 1, 1, 1, 1, 1] (bodyOf Tryz.f6))], D := [], base := 0 },
   stk := [],
   H := [.cell true 5 (.arr v5 (.int .u8) v6)] }
 | .h17 v1 v2 v3 v4 v5 v6 =>
 { fr := { id := 6, kind := .top, T := [.any, .any, (.osl 0 [] 1 0 v1 none)] ++ List.replicate 10 .any ++ [(.int .i64 v2)] ++ List.replicate 111 .any ++ [(.int .i64 v3), (.int .i64 v4)] ++ List.replicate 12 .any, items := [.code (subc [1, 1, 1, 1, 1, 1, 1, 1, 1, 1, 1, 1, 1, 1, 1, 0, 1, 0, 0, 1, 1, 0, 0, 0] (bodyOf Tryz.f6)), .code (subc [1, 1, 1, 1, 1, 1, 1, 1, 1, 1, 1, 1, 1, 1, 1, 0, 1, 0, 0, 1, 1, 0, 0, 1] (bodyOf Tryz.f6)), .blk 2, .code (subc [1, 1, 1, 1, 1, 1, 1, 1, 1, 1, 1, 1, 1, 1, 1, 0, 1, 0, 0, 1, 1, 1] (bodyOf Tryz.f6)), .lp (subc [1, 1, 1, 1, 1, 1, 1, 1, 1, 1, 1, 1, 1, 1, 1, 0, 1, 0, 0] (bodyOf Tryz.f6)), .blk 1, .code (subc [1, 1, 1, 1, 1, 1, 1, 1, 1, 1, 1, 1, 1, 1, 1, 1] (bodyOf Tryz.f6))], D := [], base := 0 },
   stk := [],
   H := [.cell true 5 (.arr v5 (.int .u8) v6)] }
 | .h18 v1 v2 v3 =>
 { fr := { id := 6, kind := .top, T := [.any, .any, (.osl 0 [] 1 0 v1 none)] ++ List.replicate 136 .any, items := [.code (subc [1, 1, 1, 1, 1, 1, 1, 1, 1, 1, 1, 1, 1, 1, 1, 1, 0] (bodyOf Tryz.f6)), .code (subc [1, 1, 1, 1, 1, 1, 1, 1, 1, 1, 1, 1, 1, 1, 1, 1, 1] (bodyOf Tryz.f6))], D := [], base := 0 },
   stk := [],
   H := [.cell true 5 (.arr v2 (.int .u8) v3)] }
noncomputable def stop6 : FuncId → Nat → Nat → Option Cut
  | 6, 9, 0 => some { tmps := [1, 2, 4, 5], loops := [], dead := [], stk := [] }
  | 6, 15, 0 => some { tmps := [1, 2, 4, 5, 7, 8], loops := [], dead := [], stk := [] }
  | 6, 23, 0 => some { tmps := [1, 2, 4, 5, 7, 9, 10, 11, 12], loops := [], dead := [], stk := [] }
  | 6, 37, 0 => some { tmps := [1, 2, 4, 5, 9, 10, 11], loops := [], dead := [], stk := [] }
  | 6, 41, 0 => some { tmps := [1, 2, 4, 5, 9, 10, 11], loops := [], dead := [], stk := [] }
  | 6, 45, 0 => some { tmps := [1, 2, 5, 9, 10, 11], loops := [], dead := [], stk := [] }
  | 6, 49, 0 => some { tmps := [1, 2, 5, 9, 10], loops := [], dead := [], stk := [] }
  | 6, 57, 0 => some { tmps := [2, 5, 13], loops := [], dead := [], stk := [] }
  | 6, 2, 0 => some { tmps := [2, 13, 125, 126], loops := [], dead := [], stk := [] }
  | 6, 61, 0 => some { tmps := [2, 13, 125, 126], loops := [], dead := [], stk := [] }
  | 6, 67, 0 => some { tmps := [2], loops := [], dead := [], stk := [] }
  | _, _, _ => none
noncomputable def fn6 (x : DI) : ((List Int) × Int) := endVal (TC.dflt (.st (.slice (.int .u8)) (.st1 (.int .i64)))) (step6 x) (tree6 x)
def pre6 (x : DI) : Prop := ∃ r, Ends (step6 x) r (tree6 x)
noncomputable def spec6 : Spec := { dom := (.st1 CInsn), cod := (.st (.slice (.int .u8)) (.st1 (.int .i64))), n := 2, pre := pre6, f := fn6 }
noncomputable def need6 : FuncId → Option Spec
  | 14 => some spec14
  | 15 => some spec15
  | 16 => some spec16
  | 17 => some spec17
  | 18 => some spec18
  | 19 => some spec19
  | _ => none
theorem need6_ok : ∀ f sp, need6 f = some sp → SpecOk env0 f sp := by
  intro f sp h
  unfold need6 at h
  split at h
  · cases h; exact ok14
  · cases h; exact ok15
  · cases h; exact ok16
  · cases h; exact ok17
  · cases h; exact ok18
  · cases h; exact ok19
  · cases h
section
variable (W : Cfg) (Q : ((List Int) × Int) → Prop) (x : DI)
theorem run6 : run (env need6 (fun _ _ => none)) stop6 (finS spec6 Q) W 100000 (startFr 6 Tryz.f6 (bodyOf Tryz.f6) (argsOf (.st1 CInsn) x)) [] [] = (tree6 x).wp (kont W Q (head6 x)) := by kernel_rfl
theorem run6h0 (v21 : List Int) (v22 : Int) (v23 : List Int) (v24 v25 v26 : Int) : run (env need6 (fun _ _ => none)) stop6 (finS spec6 Q) W 100000 (head6 x (.h0 v21 v22 v23 v24 v25 v26)).fr.enter (head6 x (.h0 v21 v22 v23 v24 v25 v26)).stk (head6 x (.h0 v21 v22 v23 v24 v25 v26)).H = (step6 x (.h0 v21 v22 v23 v24 v25 v26)).wp (kont W Q (head6 x)) := by kernel_rfl
theorem run6h1 (v21 : List Int) (v22 : Int) (v23 : List Int) (v24 v25 v26 : Int) (v27 v35 : DO) : run (env need6 (fun _ _ => none)) stop6 (finS spec6 Q) W 100000 (head6 x (.h1 v21 v22 v23 v24 v25 v26 v27 v35)).fr.enter (head6 x (.h1 v21 v22 v23 v24 v25 v26 v27 v35)).stk (head6 x (.h1 v21 v22 v23 v24 v25 v26 v27 v35)).H = (step6 x (.h1 v21 v22 v23 v24 v25 v26 v27 v35)).wp (kont W Q (head6 x)) := by kernel_rfl
theorem run6h2 (v1 : Nat) (v3 : Int) (v25 : List Int) (v26 : Int) (v27 : List Int) (v28 v29 v30 : Int) (v31 : DO) (v39 : Nat) (v40 : List Int) : run (env need6 (fun _ _ => none)) stop6 (finS spec6 Q) W 100000 (head6 x (.h2 v1 v3 v25 v26 v27 v28 v29 v30 v31 v39 v40)).fr.enter (head6 x (.h2 v1 v3 v25 v26 v27 v28 v29 v30 v31 v39 v40)).stk (head6 x (.h2 v1 v3 v25 v26 v27 v28 v29 v30 v31 v39 v40)).H = (step6 x (.h2 v1 v3 v25 v26 v27 v28 v29 v30 v31 v39 v40)).wp (kont W Q (head6 x)) := by kernel_rfl
theorem run6h3 (v0 : List Int) (v2 : Nat) (v3 : Int) (v25 : List Int) (v26 : Int) (v27 : List Int) (v28 v29 v30 : Int) (v31 : Nat) (v32 : List Int) : run (env need6 (fun _ _ => none)) stop6 (finS spec6 Q) W 100000 (head6 x (.h3 v0 v2 v3 v25 v26 v27 v28 v29 v30 v31 v32)).fr.enter (head6 x (.h3 v0 v2 v3 v25 v26 v27 v28 v29 v30 v31 v32)).stk (head6 x (.h3 v0 v2 v3 v25 v26 v27 v28 v29 v30 v31 v32)).H = (step6 x (.h3 v0 v2 v3 v25 v26 v27 v28 v29 v30 v31 v32)).wp (kont W Q (head6 x)) := by kernel_rfl
theorem run6h4 (v1 : Nat) (v2 : Int) (v24 : List Int) (v25 : Int) (v26 : List Int) (v27 v28 v29 : Int) (v30 : Nat) (v31 : List Int) : run (env need6 (fun _ _ => none)) stop6 (finS spec6 Q) W 100000 (head6 x (.h4 v1 v2 v24 v25 v26 v27 v28 v29 v30 v31)).fr.enter (head6 x (.h4 v1 v2 v24 v25 v26 v27 v28 v29 v30 v31)).stk (head6 x (.h4 v1 v2 v24 v25 v26 v27 v28 v29 v30 v31)).H = (step6 x (.h4 v1 v2 v24 v25 v26 v27 v28 v29 v30 v31)).wp (kont W Q (head6 x)) := by kernel_rfl
theorem run6h5 (v0 : List Int) (v2 : Nat) (v3 : Int) (v25 : List Int) (v26 : Int) (v27 : List Int) (v28 v29 v30 : Int) (v31 : Nat) (v32 : List Int) : run (env need6 (fun _ _ => none)) stop6 (finS spec6 Q) W 100000 (head6 x (.h5 v0 v2 v3 v25 v26 v27 v28 v29 v30 v31 v32)).fr.enter (head6 x (.h5 v0 v2 v3 v25 v26 v27 v28 v29 v30 v31 v32)).stk (head6 x (.h5 v0 v2 v3 v25 v26 v27 v28 v29 v30 v31 v32)).H = (step6 x (.h5 v0 v2 v3 v25 v26 v27 v28 v29 v30 v31 v32)).wp (kont W Q (head6 x)) := by kernel_rfl
theorem run6h6 (v1 : Nat) (v2 : Int) (v24 : List Int) (v25 : Int) (v26 : List Int) (v27 v28 v29 : Int) (v30 : Nat) (v31 : List Int) : run (env need6 (fun _ _ => none)) stop6 (finS spec6 Q) W 100000 (head6 x (.h6 v1 v2 v24 v25 v26 v27 v28 v29 v30 v31)).fr.enter (head6 x (.h6 v1 v2 v24 v25 v26 v27 v28 v29 v30 v31)).stk (head6 x (.h6 v1 v2 v24 v25 v26 v27 v28 v29 v30 v31)).H = (step6 x (.h6 v1 v2 v24 v25 v26 v27 v28 v29 v30 v31)).wp (kont W Q (head6 x)) := by kernel_rfl
theorem run6h7 (v2 : List Int) (v4 : Nat) (v5 : Int) (v28 v29 : List Int) (v30 v31 v32 : Int) (v33 : Nat) (v34 : List Int) : run (env need6 (fun _ _ => none)) stop6 (finS spec6 Q) W 100000 (head6 x (.h7 v2 v4 v5 v28 v29 v30 v31 v32 v33 v34)).fr.enter (head6 x (.h7 v2 v4 v5 v28 v29 v30 v31 v32 v33 v34)).stk (head6 x (.h7 v2 v4 v5 v28 v29 v30 v31 v32 v33 v34)).H = (step6 x (.h7 v2 v4 v5 v28 v29 v30 v31 v32 v33 v34)).wp (kont W Q (head6 x)) := by kernel_rfl
theorem run6h8 (v0 : List Int) (v2 : Nat) (v3 : Int) (v25 : List Int) (v26 v27 v28 : Int) (v29 : Nat) (v30 : List Int) : run (env need6 (fun _ _ => none)) stop6 (finS spec6 Q) W 100000 (head6 x (.h8 v0 v2 v3 v25 v26 v27 v28 v29 v30)).fr.enter (head6 x (.h8 v0 v2 v3 v25 v26 v27 v28 v29 v30)).stk (head6 x (.h8 v0 v2 v3 v25 v26 v27 v28 v29 v30)).H = (step6 x (.h8 v0 v2 v3 v25 v26 v27 v28 v29 v30)).wp (kont W Q (head6 x)) := by kernel_rfl
theorem run6h9 (v3 : Nat) (v4 : Int) (v27 v28 : List Int) (v29 v30 v31 : Int) (v32 : Nat) (v33 : List Int) : run (env need6 (fun _ _ => none)) stop6 (finS spec6 Q) W 100000 (head6 x (.h9 v3 v4 v27 v28 v29 v30 v31 v32 v33)).fr.enter (head6 x (.h9 v3 v4 v27 v28 v29 v30 v31 v32 v33)).stk (head6 x (.h9 v3 v4 v27 v28 v29 v30 v31 v32 v33)).H = (step6 x (.h9 v3 v4 v27 v28 v29 v30 v31 v32 v33)).wp (kont W Q (head6 x)) := by kernel_rfl
theorem run6h10 (v1 : Nat) (v2 : Int) (v24 : List Int) (v25 v26 v27 : Int) (v28 : Nat) (v29 : List Int) : run (env need6 (fun _ _ => none)) stop6 (finS spec6 Q) W 100000 (head6 x (.h10 v1 v2 v24 v25 v26 v27 v28 v29)).fr.enter (head6 x (.h10 v1 v2 v24 v25 v26 v27 v28 v29)).stk (head6 x (.h10 v1 v2 v24 v25 v26 v27 v28 v29)).H = (step6 x (.h10 v1 v2 v24 v25 v26 v27 v28 v29)).wp (kont W Q (head6 x)) := by kernel_rfl
theorem run6h11 (v1 : Nat) (v2 : List Int) (v4 v26 : Nat) (v27 v28 : List Int) (v29 v30 v31 : Int) (v32 : Nat) (v33 : List Int) : run (env need6 (fun _ _ => none)) stop6 (finS spec6 Q) W 100000 (head6 x (.h11 v1 v2 v4 v26 v27 v28 v29 v30 v31 v32 v33)).fr.enter (head6 x (.h11 v1 v2 v4 v26 v27 v28 v29 v30 v31 v32 v33)).stk (head6 x (.h11 v1 v2 v4 v26 v27 v28 v29 v30 v31 v32 v33)).H = (step6 x (.h11 v1 v2 v4 v26 v27 v28 v29 v30 v31 v32 v33)).wp (kont W Q (head6 x)) := by kernel_rfl
theorem run6h12 (v0 : List Int) (v2 : Nat) (v24 : List Int) (v25 v26 v27 : Int) (v28 : Nat) (v29 : List Int) : run (env need6 (fun _ _ => none)) stop6 (finS spec6 Q) W 100000 (head6 x (.h12 v0 v2 v24 v25 v26 v27 v28 v29)).fr.enter (head6 x (.h12 v0 v2 v24 v25 v26 v27 v28 v29)).stk (head6 x (.h12 v0 v2 v24 v25 v26 v27 v28 v29)).H = (step6 x (.h12 v0 v2 v24 v25 v26 v27 v28 v29)).wp (kont W Q (head6 x)) := by kernel_rfl
theorem run6h13 (v1 v3 v25 : Nat) (v26 v27 : List Int) (v28 v29 v30 : Int) (v31 : Nat) (v32 : List Int) : run (env need6 (fun _ _ => none)) stop6 (finS spec6 Q) W 100000 (head6 x (.h13 v1 v3 v25 v26 v27 v28 v29 v30 v31 v32)).fr.enter (head6 x (.h13 v1 v3 v25 v26 v27 v28 v29 v30 v31 v32)).stk (head6 x (.h13 v1 v3 v25 v26 v27 v28 v29 v30 v31 v32)).H = (step6 x (.h13 v1 v3 v25 v26 v27 v28 v29 v30 v31 v32)).wp (kont W Q (head6 x)) := by kernel_rfl
theorem run6h14 (v1 : Nat) (v23 : List Int) (v24 v25 v26 : Int) (v27 : Nat) (v28 : List Int) : run (env need6 (fun _ _ => none)) stop6 (finS spec6 Q) W 100000 (head6 x (.h14 v1 v23 v24 v25 v26 v27 v28)).fr.enter (head6 x (.h14 v1 v23 v24 v25 v26 v27 v28)).stk (head6 x (.h14 v1 v23 v24 v25 v26 v27 v28)).H = (step6 x (.h14 v1 v23 v24 v25 v26 v27 v28)).wp (kont W Q (head6 x)) := by kernel_rfl
theorem run6h15 (v1 : Nat) (v2 : Int) (v3 : Nat) (v4 v5 : List Int) (v6 v7 v8 : Int) : run (env need6 (fun _ _ => none)) stop6 (finS spec6 Q) W 100000 (head6 x (.h15 v1 v2 v3 v4 v5 v6 v7 v8)).fr.enter (head6 x (.h15 v1 v2 v3 v4 v5 v6 v7 v8)).stk (head6 x (.h15 v1 v2 v3 v4 v5 v6 v7 v8)).H = (step6 x (.h15 v1 v2 v3 v4 v5 v6 v7 v8)).wp (kont W Q (head6 x)) := by kernel_rfl
theorem run6h16 (v1 : Nat) (v2 v3 v4 : Int) (v5 : Nat) (v6 : List Int) : run (env need6 (fun _ _ => none)) stop6 (finS spec6 Q) W 100000 (head6 x (.h16 v1 v2 v3 v4 v5 v6)).fr.enter (head6 x (.h16 v1 v2 v3 v4 v5 v6)).stk (head6 x (.h16 v1 v2 v3 v4 v5 v6)).H = (step6 x (.h16 v1 v2 v3 v4 v5 v6)).wp (kont W Q (head6 x)) := by kernel_rfl
theorem run6h17 (v1 : Nat) (v2 v3 v4 : Int) (v5 : Nat) (v6 : List Int) : run (env need6 (fun _ _ => none)) stop6 (finS spec6 Q) W 100000 (head6 x (.h17 v1 v2 v3 v4 v5 v6)).fr.enter (head6 x (.h17 v1 v2 v3 v4 v5 v6)).stk (head6 x (.h17 v1 v2 v3 v4 v5 v6)).H = (step6 x (.h17 v1 v2 v3 v4 v5 v6)).wp (kont W Q (head6 x)) := by kernel_rfl
theorem run6h18 (v1 v2 : Nat) (v3 : List Int) : run (env need6 (fun _ _ => none)) stop6 (finS spec6 Q) W 100000 (head6 x (.h18 v1 v2 v3)).fr.enter (head6 x (.h18 v1 v2 v3)).stk (head6 x (.h18 v1 v2 v3)).H = (step6 x (.h18 v1 v2 v3)).wp (kont W Q (head6 x)) := by kernel_rfl
end
theorem runs6 (W : Cfg) (Q : ((List Int) × Int) → Prop) (x : DI) : ∀ j : J6, run (env need6 (fun _ _ => none)) stop6 (finS spec6 Q) W 100000 (head6 x j).fr.enter (head6 x j).stk (head6 x j).H = (step6 x j).wp (kont W Q (head6 x))
 | .h0 v21 v22 v23 v24 v25 v26 => run6h0 W Q x v21 v22 v23 v24 v25 v26
 | .h1 v21 v22 v23 v24 v25 v26 v27 v35 => run6h1 W Q x v21 v22 v23 v24 v25 v26 v27 v35
 | .h2 v1 v3 v25 v26 v27 v28 v29 v30 v31 v39 v40 => run6h2 W Q x v1 v3 v25 v26 v27 v28 v29 v30 v31 v39 v40
 | .h3 v0 v2 v3 v25 v26 v27 v28 v29 v30 v31 v32 => run6h3 W Q x v0 v2 v3 v25 v26 v27 v28 v29 v30 v31 v32
 | .h4 v1 v2 v24 v25 v26 v27 v28 v29 v30 v31 => run6h4 W Q x v1 v2 v24 v25 v26 v27 v28 v29 v30 v31
 | .h5 v0 v2 v3 v25 v26 v27 v28 v29 v30 v31 v32 => run6h5 W Q x v0 v2 v3 v25 v26 v27 v28 v29 v30 v31 v32
 | .h6 v1 v2 v24 v25 v26 v27 v28 v29 v30 v31 => run6h6 W Q x v1 v2 v24 v25 v26 v27 v28 v29 v30 v31
 | .h7 v2 v4 v5 v28 v29 v30 v31 v32 v33 v34 => run6h7 W Q x v2 v4 v5 v28 v29 v30 v31 v32 v33 v34
 | .h8 v0 v2 v3 v25 v26 v27 v28 v29 v30 => run6h8 W Q x v0 v2 v3 v25 v26 v27 v28 v29 v30
 | .h9 v3 v4 v27 v28 v29 v30 v31 v32 v33 => run6h9 W Q x v3 v4 v27 v28 v29 v30 v31 v32 v33
 | .h10 v1 v2 v24 v25 v26 v27 v28 v29 => run6h10 W Q x v1 v2 v24 v25 v26 v27 v28 v29
 | .h11 v1 v2 v4 v26 v27 v28 v29 v30 v31 v32 v33 => run6h11 W Q x v1 v2 v4 v26 v27 v28 v29 v30 v31 v32 v33
 | .h12 v0 v2 v24 v25 v26 v27 v28 v29 => run6h12 W Q x v0 v2 v24 v25 v26 v27 v28 v29
 | .h13 v1 v3 v25 v26 v27 v28 v29 v30 v31 v32 => run6h13 W Q x v1 v3 v25 v26 v27 v28 v29 v30 v31 v32
 | .h14 v1 v23 v24 v25 v26 v27 v28 => run6h14 W Q x v1 v23 v24 v25 v26 v27 v28
 | .h15 v1 v2 v3 v4 v5 v6 v7 v8 => run6h15 W Q x v1 v2 v3 v4 v5 v6 v7 v8
 | .h16 v1 v2 v3 v4 v5 v6 => run6h16 W Q x v1 v2 v3 v4 v5 v6
 | .h17 v1 v2 v3 v4 v5 v6 => run6h17 W Q x v1 v2 v3 v4 v5 v6
 | .h18 v1 v2 v3 => run6h18 W Q x v1 v2 v3
theorem ok6 : SpecOk env0 6 spec6 := SpecOk.env rfl (fun _ _ h => h) (spec_of_trees (E := (env need6 (fun _ _ => none))) (sp := spec6) (valid _ _) (fun f sp h => SpecOk.env rfl (fun _ _ h => h) (need6_ok f sp h)) (fn := Tryz.f6) (c := (bodyOf Tryz.f6)) (by kernel_rfl) (by kernel_rfl) tree6 step6 head6 run6 runs6 (fun _ h => endVal_ends h))
inductive J10 where
 | h0 (v1 : Int) (v2 : Int)
 | h1 (v1 : Nat) (v3 : Int) (v4 : Int) (v5 : Nat) (v6 : (List Int))
noncomputable def tree10 (x : (List DI)) : Tr (J10 ⊕ ((List Int) × Int)) :=
  .ret (.inl (.h0 (x.length : Int) 0))
noncomputable def step10 (x : (List DI)) : J10 → Tr (J10 ⊕ ((List Int) × Int))
 | .h0 v1 v2 =>
 .ite (ilt v2 v1) (
 .need ((0 : Int) ≤ v2) <|
 .need (v2 < (x.length : Int)) <|
 let y0 : DI := (rdc CInsn x (v2).toNat)
 .need (pre6 y0) <|
 let y1 := (fn6 y0)
 let y2 := y1.2
 .ite (ine y2 0) (
 .ret (.inr (([] : List Int), y2))) (
 let y3 := y1.1
 let y4 : Nat := y3.length
 .ite (ieq (y4 : Int) 0) (
 let y5 : Int := (iadd .i64 v2 1)
 .ret (.inl (.h0 v1 y5))) (
 .need (((y4 : Nat) * 1 : Nat) ≤ 2 ^ 40) <|
 .need ((y4 : Nat) ≤ 2 ^ 40) <|
 let y6 : Int := (iadd .i64 v2 1)
 .ret (.inl (.h1 y4 v1 y6 y4 y3))))) (
 .ret (.inr (([] : List Int), 0)))
 | .h1 v1 v3 v4 v5 v6 =>
 .ite (ilt v4 v3) (
 .need ((0 : Int) ≤ v4) <|
 .need (v4 < (x.length : Int)) <|
 let y0 : DI := (rdc CInsn x (v4).toNat)
 .need (pre6 y0) <|
 let y1 := (fn6 y0)
 let y2 := y1.2
 .ite (ine y2 0) (
 .ret (.inr (([] : List Int), y2))) (
 .need ((v1 : Nat) = v5) <|
 let y3 := y1.1
 let y4 : Nat := (v1 + y3.length)
 .need (((y4 : Nat) * 1 : Nat) ≤ 2 ^ 40) <|
 .need ((y4 : Nat) ≤ 2 ^ 40) <|
 .ret (.inl (.h1 y4 v3 (iadd .i64 v4 1) y4 (v6 ++ y3))))) (
 .need (((0 : Nat) + v1 : Nat) ≤ v5) <|
 .ret (.inr ((v6.take v1), 0)))
noncomputable def head10 (x : (List DI)) : J10 → Head
 | .h0 v1 v2 =>
 { fr := { id := 10, kind := .top, T := [.any, .any, (.raw (.slice none 0 0))] ++ List.replicate 5 .any ++ [(.fsl CInsn x), (.int .i64 v1), (.int .i64 v2)] ++ List.replicate 16 .any, items := [.lp (subc [1, 0, 1, 0, 0] (bodyOf Tryz.f10)), .blk 0, .code (subc [1, 1] (bodyOf Tryz.f10))], D := [], base := 0 },
   stk := [],
   H := [] }
 | .h1 v1 v3 v4 v5 v6 =>
 { fr := { id := 10, kind := .top, T := [.any, .any, (.osl 0 [] 1 0 v1 none)] ++ List.replicate 5 .any ++ [(.fsl CInsn x), (.int .i64 v3), (.int .i64 v4)] ++ List.replicate 16 .any, items := [.lp (subc [1, 0, 1, 0, 0] (bodyOf Tryz.f10)), .blk 0, .code (subc [1, 1] (bodyOf Tryz.f10))], D := [], base := 0 },
   stk := [],
   H := [.cell true 5 (.arr v5 (.int .u8) v6)] }
noncomputable def stop10 : FuncId → Nat → Nat → Option Cut
  | 10, 0, 0 => some { tmps := [2, 8, 9, 10], loops := [], dead := [], stk := [] }
  | _, _, _ => none
noncomputable def fn10 (x : (List DI)) : ((List Int) × Int) := endVal (TC.dflt (.st (.slice (.int .u8)) (.st1 (.int .i64)))) (step10 x) (tree10 x)
def pre10 (x : (List DI)) : Prop := ∃ r, Ends (step10 x) r (tree10 x)
noncomputable def spec10 : Spec := { dom := (.st1 (.slice CInsn)), cod := (.st (.slice (.int .u8)) (.st1 (.int .i64))), n := 2, pre := pre10, f := fn10 }
noncomputable def need10 : FuncId → Option Spec
  | 6 => some spec6
  | _ => none
theorem need10_ok : ∀ f sp, need10 f = some sp → SpecOk env0 f sp := by
  intro f sp h
  unfold need10 at h
  split at h
  · cases h; exact ok6
  · cases h
section
variable (W : Cfg) (Q : ((List Int) × Int) → Prop) (x : (List DI))
theorem run10 : run (env need10 (fun _ _ => none)) stop10 (finS spec10 Q) W 100000 (startFr 10 Tryz.f10 (bodyOf Tryz.f10) (argsOf (.st1 (.slice CInsn)) x)) [] [] = (tree10 x).wp (kont W Q (head10 x)) := by kernel_rfl
theorem run10h0 (v1 v2 : Int) : run (env need10 (fun _ _ => none)) stop10 (finS spec10 Q) W 100000 (head10 x (.h0 v1 v2)).fr.enter (head10 x (.h0 v1 v2)).stk (head10 x (.h0 v1 v2)).H = (step10 x (.h0 v1 v2)).wp (kont W Q (head10 x)) := by kernel_rfl
theorem run10h1 (v1 : Nat) (v3 v4 : Int) (v5 : Nat) (v6 : List Int) : run (env need10 (fun _ _ => none)) stop10 (finS spec10 Q) W 100000 (head10 x (.h1 v1 v3 v4 v5 v6)).fr.enter (head10 x (.h1 v1 v3 v4 v5 v6)).stk (head10 x (.h1 v1 v3 v4 v5 v6)).H = (step10 x (.h1 v1 v3 v4 v5 v6)).wp (kont W Q (head10 x)) := by kernel_rfl
end
theorem runs10 (W : Cfg) (Q : ((List Int) × Int) → Prop) (x : (List DI)) : ∀ j : J10, run (env need10 (fun _ _ => none)) stop10 (finS spec10 Q) W 100000 (head10 x j).fr.enter (head10 x j).stk (head10 x j).H = (step10 x j).wp (kont W Q (head10 x))
 | .h0 v1 v2 => run10h0 W Q x v1 v2
 | .h1 v1 v3 v4 v5 v6 => run10h1 W Q x v1 v3 v4 v5 v6
theorem ok10 : SpecOk env0 10 spec10 := SpecOk.env rfl (fun _ _ h => h) (spec_of_trees (E := (env need10 (fun _ _ => none))) (sp := spec10) (valid _ _) (fun f sp h => SpecOk.env rfl (fun _ _ h => h) (need10_ok f sp h)) (fn := Tryz.f10) (c := (bodyOf Tryz.f10)) (by kernel_rfl) (by kernel_rfl) tree10 step10 head10 run10 runs10 (fun _ h => endVal_ends h))
noncomputable def tree11 (x : DI) : Tr Bool :=
  .need (pre14 x) <|
  .ret (fn14 x).2.2
noncomputable def fn11 (x : DI) : Bool := (tree11 x).val
def pre11 (x : DI) : Prop := (tree11 x).ok
noncomputable def spec11 : Spec := { dom := (.st1 CInsn), cod := .bool, n := 1, pre := pre11, f := fn11 }
noncomputable def need11 : FuncId → Option Spec
  | 14 => some spec14
  | _ => none
theorem need11_ok : ∀ f sp, need11 f = some sp → SpecOk env0 f sp := by
  intro f sp h
  unfold need11 at h
  split at h
  · cases h; exact ok14
  · cases h
section
variable (W : Cfg) (Q : Bool → Prop) (x : DI)
theorem run11 : run (env need11 (fun _ _ => none)) (fun _ _ _ => none) (finS spec11 Q) W 100000 (startFr 11 Tryz.f11 (bodyOf Tryz.f11) (argsOf (.st1 CInsn) x)) [] [] = (tree11 x).wp Q := by kernel_rfl
end
theorem ok11 : SpecOk env0 11 spec11 := SpecOk.env rfl (fun _ _ h => h) (spec_of_tree (E := (env need11 (fun _ _ => none))) (sp := spec11) (valid _ _) (fun f sp h => SpecOk.env rfl (fun _ _ h => h) (need11_ok f sp h)) (fn := Tryz.f11) (c := (bodyOf Tryz.f11)) (by kernel_rfl) (by kernel_rfl) tree11 run11 (fun _ h => Tr.gives_val h))
end Go.Eng.RZ
end
