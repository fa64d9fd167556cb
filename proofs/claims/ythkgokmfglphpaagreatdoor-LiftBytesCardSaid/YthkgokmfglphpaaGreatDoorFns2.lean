/- A part of the proof that the laws of this seat hold. Conditions: none beyond the row. -/
import Derived.Test.YthkgokmfglphpaaGreatDoorFns1
set_option maxRecDepth 100000
set_option linter.unusedVariables false
set_option linter.unusedSimpArgs false
set_option linter.unusedSectionVars false
section
namespace Go.aA.RV
open Go.Proofs Go.aA
inductive J6 where
 | h0 (v21:bh)
 | h1 (v1:Nat) (v2:Int) (v24:bh) (v32:Nat) (v33:ai) (v34:DO)
 | h2 (v1:Nat) (v2:Int) (v24:bh) (v32:Nat) (v33:ai) (v34:DO)
 | h3 (v1:Nat) (v2:Int) (v24:bh) (v32:Nat) (v33:ai)
 | h4 (v1:Nat) (v3:Int) (v25:bh) (v33:ai) (v34:DO)
 | h5 (v1:Nat) (v3:Int) (v25:bh) (v33:ai) (v34:DO)
 | h6 (v1:Nat) (v3:Int) (v25:bh) (v33:ai)
 | h7 (v1:Nat) (v2:ai) (v3:Int) (v25:bh) (v33:Nat) (v34:ai)
 | h8 (v1:Nat) (v2:Int) (v24:bh) (v32:Nat) (v33:ai)
 | h9 (v1:Nat) (v3:ai) (v4:Int) (v26:bh) (v34:ai)
 | ED (v1:Nat) (v3:Int) (v25:bh) (v33:ai)
 | BP (v1:Nat) (v2:ai) (v3:Int) (v25:bh) (v33:Nat) (v34:ai)
 | JV (v1:Nat) (v2:Int) (v26:bh) (v34:Nat) (v35:ai) (v37:ai)
 | QH (v1:Nat) (v2:Int) (v24:bh) (v32:Nat) (v33:ai)
 | Jr (v1:Nat) (v3:ai) (v4:Int) (v26:bh) (v34:ai)
 | DL (v1:Nat) (v3:Int) (v27:bh) (v35:ai) (v37:ai)
 | HQ (v1:Nat) (v3:Int) (v25:bh) (v33:ai)
 | qY (v1:Nat) (v2:ai) (v3:Int) (v27:bh) (v35:Nat) (v36:ai) (v38:ai)
 | QG (v1:Nat) (v2:ai) (v3:Int) (v25:bh) (v33:Nat) (v34:ai)
 | A9 (v1:Nat) (v3:Nat) (v25:bh) (v33:Nat) (v34:ai) (v35:Nat) (v36:ai)
 | NJ (v1:Nat) (v23:bh) (v31:Nat) (v32:ai)
 | QF (v1:Nat) (v3:ai) (v4:Int) (v28:bh) (v36:ai) (v38:ai)
 | QE (v1:Nat) (v3:ai) (v4:Int) (v26:bh) (v34:ai)
 | Jq (v1:Nat) (v4:Nat) (v26:bh) (v34:ai) (v35:Nat) (v36:ai)
 | QD (v1:Nat) (v24:bh) (v32:ai)
 | yx (v1:Nat) (v2:ai) (v4:Nat) (v26:bh) (v34:Nat) (v35:ai) (v36:Nat) (v37:ai)
 | Pw (v1:Nat) (v2:ai) (v24:bh) (v32:Nat) (v33:ai)
 | qh (v1:Nat) (v2:Int) (v3:bh) (v11:Nat) (v12:ai)
 | EC (v0:Int) (v1:bh)
 | Jp (v1:Nat) (v3:ai) (v5:Nat) (v27:bh) (v35:ai) (v36:Nat) (v37:ai)
 | QC (v1:Nat) (v3:ai) (v25:bh) (v33:ai)
noncomputable def BT (x:DI):Tr (J6⊕nE):=
 .aa (MK x)<|
 .ite (!(Q9 x).2) (
 .ret (.inr (([]:List Int),2))) (
 .ret (.inl (.h0 (Q9 x).1)))
noncomputable def bg (x:DI):J6→Tr (J6⊕nE)
 | .h0 v21=>
 let y0:(ai×dC):=v21.2.2.2.2
 let y1:=y0.1
 let y2:Nat:=y1.length
 let y3:Nat:=(0+y2)
 .ite (bd ((0:Nat):Int) ((y3:Nat):Int)) (
 .aa ((0+0:Nat)≤0)<|
 .aa (((y3:Nat) * 1:Nat)≤2 ^ 40)<|
 .aa ((y3:Nat)≤2 ^ 40)<|
 let y4:=x.2.2.2
 let y5:=y4.1
 .aa (wc y5)<|
 let y6:=y4.2.1
 .aa (wc y6)<|
 .both (
 let y7:=y0.2
 let y8:=y7.2.1
 let y9:=(ae y8 1)
 .ite y9 (
 let y10:=y7.1
 let y11:=(bd y10 0)
 .ite y11 (
 let y12:=(fv y6)
 let y13:=y12.2.1
 let y14:ai:=(([]:List Int)++y1)
 let y15:=(fv y5)
 .ret (.inl (.h1 y3 y13 v21 y3 y14 y15))) (
 let y16:ai:=(([]:List Int)++y1)
 let y17:=(fv y5)
 .ret (.inl (.h1 y3 y10 v21 y3 y16 y17)))) (
 let y18:=(ae y8 2)
 .ite y18 (
 let y19:=y7.1
 let y20:=(bd y19 0)
 .ite y20 (
 let y21:=(fv y5)
 let y22:=y21.2.1
 let y23:ai:=(([]:List Int)++y1)
 let y24:=(fv y6)
 .ret (.inl (.h2 y3 y22 v21 y3 y23 y24))) (
 let y25:ai:=(([]:List Int)++y1)
 let y26:=(fv y6)
 .ret (.inl (.h2 y3 y19 v21 y3 y25 y26)))) (
 let y27:=(ae y8 3)
 .ite y27 (
 let y28:Int:=(eG .i64 (y3:Int) 1)
 .aa ((0:Int)≤y28)<|
 .aa (y28 < (y3:Int))<|
 let y29:Nat:=(0+(y28).toNat)
 .aa ((y29:Nat) < y3)<|
 .aa ((0:Int)≤y28)<|
 .aa (y28 < (y3:Int))<|
 .aa ((y29:Nat) < y3)<|
 .aa ((0:Int)≤3)<|
 let y30:=(fv y5)
 let y31:=y30.2.1
 let y32:Int:=(af .u8 (a9 .i64 y31 3))
 let y33:ai:=(([]:List Int)++y1)
 let y34:Int:=(af .u8 (av .i64 y31 7))
 let y35:ai:=(y33.set y29 (aJ .u8 (eX (.int .u8) y33 y29) y34))
 .ret (.inl (.h3 y3 y32 v21 y3 y35))) (
 let y36:ai:=(([]:List Int)++y1)
 .ret (.inl (.h3 y3 0 v21 y3 y36)))))) (
 let y37:=y0.2
 let y38:=y37.2.1
 let y39:=(ae y38 1)
 .ite y39 (
 let y40:=y37.1
 let y41:=(bd y40 0)
 .ite y41 (
 let y42:=(fv y6)
 let y43:=y42.2.1
 let y44:ai:=(([]:List Int)++y1)
 let y45:=(fv y5)
 .ret (.inl (.h1 y3 y43 v21 y3 y44 y45))) (
 let y46:ai:=(([]:List Int)++y1)
 let y47:=(fv y5)
 .ret (.inl (.h1 y3 y40 v21 y3 y46 y47)))) (
 let y48:=(ae y38 2)
 .ite y48 (
 let y49:=y37.1
 let y50:=(bd y49 0)
 .ite y50 (
 let y51:=(fv y5)
 let y52:=y51.2.1
 let y53:ai:=(([]:List Int)++y1)
 let y54:=(fv y6)
 .ret (.inl (.h2 y3 y52 v21 y3 y53 y54))) (
 let y55:ai:=(([]:List Int)++y1)
 let y56:=(fv y6)
 .ret (.inl (.h2 y3 y49 v21 y3 y55 y56)))) (
 let y57:=(ae y38 3)
 .ite y57 (
 let y58:Int:=(eG .i64 (y3:Int) 1)
 .aa ((0:Int)≤y58)<|
 .aa (y58 < (y3:Int))<|
 let y59:Nat:=(0+(y58).toNat)
 .aa ((y59:Nat) < y3)<|
 .aa ((0:Int)≤y58)<|
 .aa (y58 < (y3:Int))<|
 .aa ((y59:Nat) < y3)<|
 .aa ((0:Int)≤3)<|
 let y60:=(fv y5)
 let y61:=y60.2.1
 let y62:Int:=(af .u8 (a9 .i64 y61 3))
 let y63:ai:=(([]:List Int)++y1)
 let y64:Int:=(af .u8 (av .i64 y61 7))
 let y65:ai:=(y63.set y59 (aJ .u8 (eX (.int .u8) y63 y59) y64))
 .ret (.inl (.h3 y3 y62 v21 y3 y65))) (
 let y66:ai:=(([]:List Int)++y1)
 .ret (.inl (.h3 y3 0 v21 y3 y66))))))) (
 .aa ((0+0+y2:Nat)≤0)<|
 let y67:=x.2.2.2
 let y68:=y67.1
 .aa (wc y68)<|
 let y69:=y67.2.1
 .aa (wc y69)<|
 .both (
 let y70:=y0.2
 let y71:=y70.2.1
 let y72:=(ae y71 1)
 .ite y72 (
 let y73:=y70.1
 let y74:=(bd y73 0)
 .ite y74 (
 let y75:=(fv y69)
 let y76:=y75.2.1
 let y77:ai:=(bL (List.replicate 0 (0:Int)) 0 y1)
 let y78:=(fv y68)
 .ret (.inl (.h4 y3 y76 v21 y77 y78))) (
 let y79:ai:=(bL (List.replicate 0 (0:Int)) 0 y1)
 let y80:=(fv y68)
 .ret (.inl (.h4 y3 y73 v21 y79 y80)))) (
 let y81:=(ae y71 2)
 .ite y81 (
 let y82:=y70.1
 let y83:=(bd y82 0)
 .ite y83 (
 let y84:=(fv y68)
 let y85:=y84.2.1
 let y86:ai:=(bL (List.replicate 0 (0:Int)) 0 y1)
 let y87:=(fv y69)
 .ret (.inl (.h5 y3 y85 v21 y86 y87))) (
 let y88:ai:=(bL (List.replicate 0 (0:Int)) 0 y1)
 let y89:=(fv y69)
 .ret (.inl (.h5 y3 y82 v21 y88 y89)))) (
 let y90:=(ae y71 3)
 .ite y90 (
 let y91:Int:=(eG .i64 (y3:Int) 1)
 .aa ((0:Int)≤y91)<|
 .aa (y91 < (y3:Int))<|
 let y92:Nat:=(0+(y91).toNat)
 .aa ((y92:Nat) < 0)<|
 .aa ((0:Int)≤y91)<|
 .aa (y91 < (y3:Int))<|
 .aa ((y92:Nat) < 0)<|
 .aa ((0:Int)≤3)<|
 let y93:=(fv y68)
 let y94:=y93.2.1
 let y95:Int:=(af .u8 (a9 .i64 y94 3))
 let y96:ai:=(bL (List.replicate 0 (0:Int)) 0 y1)
 let y97:Int:=(af .u8 (av .i64 y94 7))
 let y98:ai:=(y96.set y92 (aJ .u8 (eX (.int .u8) y96 y92) y97))
 .ret (.inl (.h6 y3 y95 v21 y98))) (
 let y99:ai:=(bL (List.replicate 0 (0:Int)) 0 y1)
 .ret (.inl (.h6 y3 0 v21 y99)))))) (
 let y100:=y0.2
 let y101:=y100.2.1
 let y102:=(ae y101 1)
 .ite y102 (
 let y103:=y100.1
 let y104:=(bd y103 0)
 .ite y104 (
 let y105:=(fv y69)
 let y106:=y105.2.1
 let y107:ai:=(bL (List.replicate 0 (0:Int)) 0 y1)
 let y108:=(fv y68)
 .ret (.inl (.h4 y3 y106 v21 y107 y108))) (
 let y109:ai:=(bL (List.replicate 0 (0:Int)) 0 y1)
 let y110:=(fv y68)
 .ret (.inl (.h4 y3 y103 v21 y109 y110)))) (
 let y111:=(ae y101 2)
 .ite y111 (
 let y112:=y100.1
 let y113:=(bd y112 0)
 .ite y113 (
 let y114:=(fv y68)
 let y115:=y114.2.1
 let y116:ai:=(bL (List.replicate 0 (0:Int)) 0 y1)
 let y117:=(fv y69)
 .ret (.inl (.h5 y3 y115 v21 y116 y117))) (
 let y118:ai:=(bL (List.replicate 0 (0:Int)) 0 y1)
 let y119:=(fv y69)
 .ret (.inl (.h5 y3 y112 v21 y118 y119)))) (
 let y120:=(ae y101 3)
 .ite y120 (
 let y121:Int:=(eG .i64 (y3:Int) 1)
 .aa ((0:Int)≤y121)<|
 .aa (y121 < (y3:Int))<|
 let y122:Nat:=(0+(y121).toNat)
 .aa ((y122:Nat) < 0)<|
 .aa ((0:Int)≤y121)<|
 .aa (y121 < (y3:Int))<|
 .aa ((y122:Nat) < 0)<|
 .aa ((0:Int)≤3)<|
 let y123:=(fv y68)
 let y124:=y123.2.1
 let y125:Int:=(af .u8 (a9 .i64 y124 3))
 let y126:ai:=(bL (List.replicate 0 (0:Int)) 0 y1)
 let y127:Int:=(af .u8 (av .i64 y124 7))
 let y128:ai:=(y126.set y122 (aJ .u8 (eX (.int .u8) y126 y122) y127))
 .ret (.inl (.h6 y3 y125 v21 y128))) (
 let y129:ai:=(bL (List.replicate 0 (0:Int)) 0 y1)
 .ret (.inl (.h6 y3 0 v21 y129)))))))
 | .h1 v1 v2 v24 v32 v33 v34=>
 let y0:tD:=(v2,v34)
 .aa (yd y0)<|
 let y1:=(Jz y0)
 .ret (.inl (.h7 v1 y1.1 y1.2.1 v24 v32 v33))
 | .h2 v1 v2 v24 v32 v33 v34=>
 let y0:tD:=(v2,v34)
 .aa (yd y0)<|
 let y1:=(Jz y0)
 .ret (.inl (.h7 v1 y1.1 y1.2.1 v24 v32 v33))
 | .h3 v1 v2 v24 v32 v33=>
 .ite ((ae v24.1 4)==false) (
 .ite ((ae v24.1 8)==true) (
 let y0:=(ae x.2.2.1 8)
 .ite y0 (
 let y1:Int:=(dp .u8 v2 8)
 .ret (.inl (.h8 v1 y1 v24 v32 v33))) (
 .ret (.inl (.h8 v1 v2 v24 v32 v33)))) (
 .ret (.inl (.h8 v1 v2 v24 v32 v33)))) (
 let y2:=(ae x.2.2.1 8)
 .ite y2 (
 let y3:Int:=(dp .u8 v2 8)
 .ret (.inl (.h8 v1 y3 v24 v32 v33))) (
 .ret (.inl (.h8 v1 v2 v24 v32 v33))))
 | .h4 v1 v3 v25 v33 v34=>
 let y0:tD:=(v3,v34)
 .aa (yd y0)<|
 let y1:=(Jz y0)
 .ret (.inl (.h9 v1 y1.1 y1.2.1 v25 v33))
 | .h5 v1 v3 v25 v33 v34=>
 let y0:tD:=(v3,v34)
 .aa (yd y0)<|
 let y1:=(Jz y0)
 .ret (.inl (.h9 v1 y1.1 y1.2.1 v25 v33))
 | .h6 v1 v3 v25 v33=>
 .ite ((ae v25.1 4)==false) (
 .ite ((ae v25.1 8)==true) (
 let y0:=(ae x.2.2.1 8)
 .ite y0 (
 let y1:Int:=(dp .u8 v3 8)
 .ret (.inl (.ED v1 y1 v25 v33))) (
 .ret (.inl (.ED v1 v3 v25 v33)))) (
 .ret (.inl (.ED v1 v3 v25 v33)))) (
 let y2:=(ae x.2.2.1 8)
 .ite y2 (
 let y3:Int:=(dp .u8 v3 8)
 .ret (.inl (.ED v1 y3 v25 v33))) (
 .ret (.inl (.ED v1 v3 v25 v33))))
 | .h7 v1 v2 v3 v25 v33 v34=>
 .ite ((ae v25.1 4)==false) (
 .ite ((ae v25.1 8)==true) (
 let y0:=(ae x.2.2.1 8)
 .ite y0 (
 let y1:Int:=(dp .u8 v3 8)
 .ret (.inl (.BP v1 v2 y1 v25 v33 v34))) (
 .ret (.inl (.BP v1 v2 v3 v25 v33 v34)))) (
 .ret (.inl (.BP v1 v2 v3 v25 v33 v34)))) (
 let y2:=(ae x.2.2.1 8)
 .ite y2 (
 let y3:Int:=(dp .u8 v3 8)
 .ret (.inl (.BP v1 v2 y3 v25 v33 v34))) (
 .ret (.inl (.BP v1 v2 v3 v25 v33 v34))))
 | .h8 v1 v2 v24 v32 v33=>
 let y0:Int:=v24.2.2.2.1
 .ite (cB y0 0) (
 .aa ((0:Nat) < 1)<|
 .aa (((0:Nat)+1:Nat)≤1)<|
 .aa (((1:Nat) * 1:Nat)≤2 ^ 40)<|
 .aa ((1:Nat)≤2 ^ 40)<|
 .ret (.inl (.JV v1 v2 v24 v32 v33 [y0]))) (
 .ret (.inl (.QH v1 v2 v24 v32 v33)))
 | .h9 v1 v3 v4 v26 v34=>
 .ite ((ae v26.1 4)==false) (
 .ite ((ae v26.1 8)==true) (
 let y0:=(ae x.2.2.1 8)
 .ite y0 (
 let y1:Int:=(dp .u8 v4 8)
 .ret (.inl (.Jr v1 v3 y1 v26 v34))) (
 .ret (.inl (.Jr v1 v3 v4 v26 v34)))) (
 .ret (.inl (.Jr v1 v3 v4 v26 v34)))) (
 let y2:=(ae x.2.2.1 8)
 .ite y2 (
 let y3:Int:=(dp .u8 v4 8)
 .ret (.inl (.Jr v1 v3 y3 v26 v34))) (
 .ret (.inl (.Jr v1 v3 v4 v26 v34))))
 | .ED v1 v3 v25 v33=>
 let y0:Int:=v25.2.2.2.1
 .ite (cB y0 0) (
 .aa ((0:Nat) < 1)<|
 .aa (((0:Nat)+1:Nat)≤1)<|
 .aa (((1:Nat) * 1:Nat)≤2 ^ 40)<|
 .aa ((1:Nat)≤2 ^ 40)<|
 .ret (.inl (.DL v1 v3 v25 v33 [y0]))) (
 .ret (.inl (.HQ v1 v3 v25 v33)))
 | .BP v1 v2 v3 v25 v33 v34=>
 let y0:Int:=v25.2.2.2.1
 .ite (cB y0 0) (
 .aa ((0:Nat) < 1)<|
 .aa (((0:Nat)+1:Nat)≤1)<|
 .aa (((1:Nat) * 1:Nat)≤2 ^ 40)<|
 .aa ((1:Nat)≤2 ^ 40)<|
 .ret (.inl (.qY v1 v2 v3 v25 v33 v34 [y0]))) (
 .ret (.inl (.QG v1 v2 v3 v25 v33 v34)))
 | .JV v1 v2 v26 v34 v35 v37=>
 .ite ((cB v2 0)==false) (
 .aa (nY x)<|
 .ite (wR x) (
 .aa ((0:Nat) < 1)<|
 .aa (((0:Nat)+1:Nat)≤1)<|
 .aa ((1:Nat)=1)<|
 .aa (((2:Nat) * 1:Nat)≤2 ^ 40)<|
 .aa ((2:Nat)≤2 ^ 40)<|
 let y0:ai:=(v37++[(dp .u8 64 v2)])
 .ret (.inl (.A9 v1 2 v26 v34 v35 2 y0))) (
 .ret (.inl (.A9 v1 1 v26 v34 v35 1 v37)))) (
 .aa ((0:Nat) < 1)<|
 .aa (((0:Nat)+1:Nat)≤1)<|
 .aa ((1:Nat)=1)<|
 .aa (((2:Nat) * 1:Nat)≤2 ^ 40)<|
 .aa ((2:Nat)≤2 ^ 40)<|
 let y1:ai:=(v37++[(dp .u8 64 v2)])
 .ret (.inl (.A9 v1 2 v26 v34 v35 2 y1)))
 | .QH v1 v2 v24 v32 v33=>
 .ite ((cB v2 0)==false) (
 .aa (nY x)<|
 .ite (wR x) (
 .aa ((0:Nat) < 1)<|
 .aa (((0:Nat)+1:Nat)≤1)<|
 .aa (((1:Nat) * 1:Nat)≤2 ^ 40)<|
 .aa ((1:Nat)≤2 ^ 40)<|
 let y0:ai:=[(dp .u8 64 v2)]
 .ret (.inl (.A9 v1 1 v24 v32 v33 1 y0))) (
 .ret (.inl (.NJ v1 v24 v32 v33)))) (
 .aa ((0:Nat) < 1)<|
 .aa (((0:Nat)+1:Nat)≤1)<|
 .aa (((1:Nat) * 1:Nat)≤2 ^ 40)<|
 .aa ((1:Nat)≤2 ^ 40)<|
 let y1:ai:=[(dp .u8 64 v2)]
 .ret (.inl (.A9 v1 1 v24 v32 v33 1 y1)))
 | .Jr v1 v3 v4 v26 v34=>
 let y0:Int:=v26.2.2.2.1
 .ite (cB y0 0) (
 .aa ((0:Nat) < 1)<|
 .aa (((0:Nat)+1:Nat)≤1)<|
 .aa (((1:Nat) * 1:Nat)≤2 ^ 40)<|
 .aa ((1:Nat)≤2 ^ 40)<|
 .ret (.inl (.QF v1 v3 v4 v26 v34 [y0]))) (
 .ret (.inl (.QE v1 v3 v4 v26 v34)))
 | .DL v1 v3 v27 v35 v37=>
 .ite ((cB v3 0)==false) (
 .aa (nY x)<|
 .ite (wR x) (
 .aa ((0:Nat) < 1)<|
 .aa (((0:Nat)+1:Nat)≤1)<|
 .aa ((1:Nat)=1)<|
 .aa (((2:Nat) * 1:Nat)≤2 ^ 40)<|
 .aa ((2:Nat)≤2 ^ 40)<|
 let y0:ai:=(v37++[(dp .u8 64 v3)])
 .ret (.inl (.Jq v1 2 v27 v35 2 y0))) (
 .ret (.inl (.Jq v1 1 v27 v35 1 v37)))) (
 .aa ((0:Nat) < 1)<|
 .aa (((0:Nat)+1:Nat)≤1)<|
 .aa ((1:Nat)=1)<|
 .aa (((2:Nat) * 1:Nat)≤2 ^ 40)<|
 .aa ((2:Nat)≤2 ^ 40)<|
 let y1:ai:=(v37++[(dp .u8 64 v3)])
 .ret (.inl (.Jq v1 2 v27 v35 2 y1)))
 | .HQ v1 v3 v25 v33=>
 .ite ((cB v3 0)==false) (
 .aa (nY x)<|
 .ite (wR x) (
 .aa ((0:Nat) < 1)<|
 .aa (((0:Nat)+1:Nat)≤1)<|
 .aa (((1:Nat) * 1:Nat)≤2 ^ 40)<|
 .aa ((1:Nat)≤2 ^ 40)<|
 let y0:ai:=[(dp .u8 64 v3)]
 .ret (.inl (.Jq v1 1 v25 v33 1 y0))) (
 .ret (.inl (.QD v1 v25 v33)))) (
 .aa ((0:Nat) < 1)<|
 .aa (((0:Nat)+1:Nat)≤1)<|
 .aa (((1:Nat) * 1:Nat)≤2 ^ 40)<|
 .aa ((1:Nat)≤2 ^ 40)<|
 let y1:ai:=[(dp .u8 64 v3)]
 .ret (.inl (.Jq v1 1 v25 v33 1 y1)))
 | .qY v1 v2 v3 v27 v35 v36 v38=>
 .ite ((cB v3 0)==false) (
 .aa (nY x)<|
 .ite (wR x) (
 .aa ((0:Nat) < 1)<|
 .aa (((0:Nat)+1:Nat)≤1)<|
 .aa ((1:Nat)=1)<|
 .aa (((2:Nat) * 1:Nat)≤2 ^ 40)<|
 .aa ((2:Nat)≤2 ^ 40)<|
 let y0:ai:=(v38++[(dp .u8 64 v3)])
 .ret (.inl (.yx v1 v2 2 v27 v35 v36 2 y0))) (
 .ret (.inl (.yx v1 v2 1 v27 v35 v36 1 v38)))) (
 .aa ((0:Nat) < 1)<|
 .aa (((0:Nat)+1:Nat)≤1)<|
 .aa ((1:Nat)=1)<|
 .aa (((2:Nat) * 1:Nat)≤2 ^ 40)<|
 .aa ((2:Nat)≤2 ^ 40)<|
 let y1:ai:=(v38++[(dp .u8 64 v3)])
 .ret (.inl (.yx v1 v2 2 v27 v35 v36 2 y1)))
 | .QG v1 v2 v3 v25 v33 v34=>
 .ite ((cB v3 0)==false) (
 .aa (nY x)<|
 .ite (wR x) (
 .aa ((0:Nat) < 1)<|
 .aa (((0:Nat)+1:Nat)≤1)<|
 .aa (((1:Nat) * 1:Nat)≤2 ^ 40)<|
 .aa ((1:Nat)≤2 ^ 40)<|
 let y0:ai:=[(dp .u8 64 v3)]
 .ret (.inl (.yx v1 v2 1 v25 v33 v34 1 y0))) (
 .ret (.inl (.Pw v1 v2 v25 v33 v34)))) (
 .aa ((0:Nat) < 1)<|
 .aa (((0:Nat)+1:Nat)≤1)<|
 .aa (((1:Nat) * 1:Nat)≤2 ^ 40)<|
 .aa ((1:Nat)≤2 ^ 40)<|
 let y1:ai:=[(dp .u8 64 v3)]
 .ret (.inl (.yx v1 v2 1 v25 v33 v34 1 y1)))
 | .A9 v1 v3 v25 v33 v34 v35 v36=>
 .aa (((0:Nat)+v1:Nat)≤v33)<|
 .aa ((v3:Nat)=v35)<|
 let y0:ai:=(v34.take v1)
 let y1:Nat:=(v3+y0.length)
 .aa (((y1:Nat) * 1:Nat)≤2 ^ 40)<|
 .aa ((y1:Nat)≤2 ^ 40)<|
 .aa ((y1:Nat)=y1)<|
 .aa (((y1:Nat) * 1:Nat)≤2 ^ 40)<|
 .aa ((y1:Nat)≤2 ^ 40)<|
 .ite (ae x.1 39) (
 let y2:=x.2.2.2.2
 let y3:ai:=((v36++y0)++([]:List Int))
 .ret (.inl (.qh y1 (af .i64 y2.2.1) v25 y1 y3))) (
 let y4:=x.2.2.2.2
 let y5:ai:=((v36++y0)++([]:List Int))
 .ret (.inl (.qh y1 y4.1.2.2.2.2.2.2.2 v25 y1 y5)))
 | .NJ v1 v23 v31 v32=>
 .aa (((0:Nat)+v1:Nat)≤v31)<|
 let y0:ai:=(v32.take v1)
 let y1:Nat:=y0.length
 .ite (ae (y1:Int) 0) (
 let y2:=(ae x.1 39)
 .ite y2 (
 let y3:=x.2.2.2.2
 let y4:Int:=(af .i64 y3.2.1)
 .ret (.inl (.EC y4 v23))) (
 let y5:=x.2.2.2.2
 let y6:=y5.1.2.2.2.2.2.2.2
 .ret (.inl (.EC y6 v23)))) (
 .aa (((y1:Nat) * 1:Nat)≤2 ^ 40)<|
 .aa ((y1:Nat)≤2 ^ 40)<|
 .aa ((y1:Nat)=y1)<|
 .aa (((y1:Nat) * 1:Nat)≤2 ^ 40)<|
 .aa ((y1:Nat)≤2 ^ 40)<|
 let y7:=(ae x.1 39)
 .ite y7 (
 let y8:=x.2.2.2.2
 let y9:Int:=(af .i64 y8.2.1)
 let y10:ai:=(y0++([]:List Int))
 .ret (.inl (.qh y1 y9 v23 y1 y10))) (
 let y11:=x.2.2.2.2
 let y12:=y11.1.2.2.2.2.2.2.2
 let y13:ai:=(y0++([]:List Int))
 .ret (.inl (.qh y1 y12 v23 y1 y13))))
 | .QF v1 v3 v4 v28 v36 v38=>
 .ite ((cB v4 0)==false) (
 .aa (nY x)<|
 .ite (wR x) (
 .aa ((0:Nat) < 1)<|
 .aa (((0:Nat)+1:Nat)≤1)<|
 .aa ((1:Nat)=1)<|
 .aa (((2:Nat) * 1:Nat)≤2 ^ 40)<|
 .aa ((2:Nat)≤2 ^ 40)<|
 let y0:ai:=(v38++[(dp .u8 64 v4)])
 .ret (.inl (.Jp v1 v3 2 v28 v36 2 y0))) (
 .ret (.inl (.Jp v1 v3 1 v28 v36 1 v38)))) (
 .aa ((0:Nat) < 1)<|
 .aa (((0:Nat)+1:Nat)≤1)<|
 .aa ((1:Nat)=1)<|
 .aa (((2:Nat) * 1:Nat)≤2 ^ 40)<|
 .aa ((2:Nat)≤2 ^ 40)<|
 let y1:ai:=(v38++[(dp .u8 64 v4)])
 .ret (.inl (.Jp v1 v3 2 v28 v36 2 y1)))
 | .QE v1 v3 v4 v26 v34=>
 .ite ((cB v4 0)==false) (
 .aa (nY x)<|
 .ite (wR x) (
 .aa ((0:Nat) < 1)<|
 .aa (((0:Nat)+1:Nat)≤1)<|
 .aa (((1:Nat) * 1:Nat)≤2 ^ 40)<|
 .aa ((1:Nat)≤2 ^ 40)<|
 let y0:ai:=[(dp .u8 64 v4)]
 .ret (.inl (.Jp v1 v3 1 v26 v34 1 y0))) (
 .ret (.inl (.QC v1 v3 v26 v34)))) (
 .aa ((0:Nat) < 1)<|
 .aa (((0:Nat)+1:Nat)≤1)<|
 .aa (((1:Nat) * 1:Nat)≤2 ^ 40)<|
 .aa ((1:Nat)≤2 ^ 40)<|
 let y1:ai:=[(dp .u8 64 v4)]
 .ret (.inl (.Jp v1 v3 1 v26 v34 1 y1)))
 | .Jq v1 v4 v26 v34 v35 v36=>
 .aa (((0:Nat)+v1:Nat)≤0)<|
 .aa ((v4:Nat)=v35)<|
 let y0:ai:=(v34.take v1)
 let y1:Nat:=(v4+y0.length)
 .aa (((y1:Nat) * 1:Nat)≤2 ^ 40)<|
 .aa ((y1:Nat)≤2 ^ 40)<|
 .aa ((y1:Nat)=y1)<|
 .aa (((y1:Nat) * 1:Nat)≤2 ^ 40)<|
 .aa ((y1:Nat)≤2 ^ 40)<|
 .ite (ae x.1 39) (
 let y2:=x.2.2.2.2
 let y3:ai:=((v36++y0)++([]:List Int))
 .ret (.inl (.qh y1 (af .i64 y2.2.1) v26 y1 y3))) (
 let y4:=x.2.2.2.2
 let y5:ai:=((v36++y0)++([]:List Int))
 .ret (.inl (.qh y1 y4.1.2.2.2.2.2.2.2 v26 y1 y5)))
 | .QD v1 v24 v32=>
 .aa (((0:Nat)+v1:Nat)≤0)<|
 let y0:ai:=(v32.take v1)
 let y1:Nat:=y0.length
 .ite (ae (y1:Int) 0) (
 let y2:=(ae x.1 39)
 .ite y2 (
 let y3:=x.2.2.2.2
 let y4:Int:=(af .i64 y3.2.1)
 .ret (.inl (.EC y4 v24))) (
 let y5:=x.2.2.2.2
 let y6:=y5.1.2.2.2.2.2.2.2
 .ret (.inl (.EC y6 v24)))) (
 .aa (((y1:Nat) * 1:Nat)≤2 ^ 40)<|
 .aa ((y1:Nat)≤2 ^ 40)<|
 .aa ((y1:Nat)=y1)<|
 .aa (((y1:Nat) * 1:Nat)≤2 ^ 40)<|
 .aa ((y1:Nat)≤2 ^ 40)<|
 let y7:=(ae x.1 39)
 .ite y7 (
 let y8:=x.2.2.2.2
 let y9:Int:=(af .i64 y8.2.1)
 let y10:ai:=(y0++([]:List Int))
 .ret (.inl (.qh y1 y9 v24 y1 y10))) (
 let y11:=x.2.2.2.2
 let y12:=y11.1.2.2.2.2.2.2.2
 let y13:ai:=(y0++([]:List Int))
 .ret (.inl (.qh y1 y12 v24 y1 y13))))
 | .yx v1 v2 v4 v26 v34 v35 v36 v37=>
 .aa (((0:Nat)+v1:Nat)≤v34)<|
 .aa ((v4:Nat)=v36)<|
 let y0:ai:=(v35.take v1)
 let y1:Nat:=(v4+y0.length)
 .aa (((y1:Nat) * 1:Nat)≤2 ^ 40)<|
 .aa ((y1:Nat)≤2 ^ 40)<|
 .aa ((y1:Nat)=y1)<|
 let y2:Nat:=(y1+v2.length)
 .aa (((y2:Nat) * 1:Nat)≤2 ^ 40)<|
 .aa ((y2:Nat)≤2 ^ 40)<|
 .ite (ae x.1 39) (
 let y3:=x.2.2.2.2
 let y4:ai:=((v37++y0)++v2)
 .ret (.inl (.qh y2 (af .i64 y3.2.1) v26 y2 y4))) (
 let y5:=x.2.2.2.2
 let y6:ai:=((v37++y0)++v2)
 .ret (.inl (.qh y2 y5.1.2.2.2.2.2.2.2 v26 y2 y6)))
 | .Pw v1 v2 v24 v32 v33=>
 .aa (((0:Nat)+v1:Nat)≤v32)<|
 let y0:ai:=(v33.take v1)
 let y1:Nat:=y0.length
 .ite (ae (y1:Int) 0) (
 .ite (ae (v2.length:Int) 0) (
 let y2:=(ae x.1 39)
 .ite y2 (
 let y3:=x.2.2.2.2
 let y4:Int:=(af .i64 y3.2.1)
 .ret (.inl (.EC y4 v24))) (
 let y5:=x.2.2.2.2
 let y6:=y5.1.2.2.2.2.2.2.2
 .ret (.inl (.EC y6 v24)))) (
 .aa (((v2.length:Nat) * 1:Nat)≤2 ^ 40)<|
 .aa ((v2.length:Nat)≤2 ^ 40)<|
 let y7:=(ae x.1 39)
 .ite y7 (
 let y8:=x.2.2.2.2
 let y9:Int:=(af .i64 y8.2.1)
 .ret (.inl (.qh v2.length y9 v24 v2.length v2))) (
 let y10:=x.2.2.2.2
 let y11:=y10.1.2.2.2.2.2.2.2
 .ret (.inl (.qh v2.length y11 v24 v2.length v2))))) (
 .aa (((y1:Nat) * 1:Nat)≤2 ^ 40)<|
 .aa ((y1:Nat)≤2 ^ 40)<|
 .aa ((y1:Nat)=y1)<|
 let y12:Nat:=(y1+v2.length)
 .aa (((y12:Nat) * 1:Nat)≤2 ^ 40)<|
 .aa ((y12:Nat)≤2 ^ 40)<|
 let y13:=(ae x.1 39)
 .ite y13 (
 let y14:=x.2.2.2.2
 let y15:Int:=(af .i64 y14.2.1)
 let y16:ai:=(y0++v2)
 .ret (.inl (.qh y12 y15 v24 y12 y16))) (
 let y17:=x.2.2.2.2
 let y18:=y17.1.2.2.2.2.2.2.2
 let y19:ai:=(y0++v2)
 .ret (.inl (.qh y12 y18 v24 y12 y19))))
 | .qh v1 v2 v3 v11 v12=>
 let y0:bt:=(v2,v3.2.2.2.2.2.2.2)
 .aa (Hg y0)<|
 .aa ((v1:Nat)=v11)<|
 let y1:=(Q7 y0)
 let y2:Nat:=(v1+y1.length)
 .aa (((y2:Nat) * 1:Nat)≤2 ^ 40)<|
 .aa ((y2:Nat)≤2 ^ 40)<|
 .aa (((0:Nat)+y2:Nat)≤y2)<|
 .ret (.inr (((v12++y1).take y2),0))
 | .EC v0 v1=>
 let y0:bt:=(v0,v1.2.2.2.2.2.2.2)
 .aa (Hg y0)<|
 let y1:=(Q7 y0)
 let y2:Nat:=y1.length
 .ite (ae (y2:Int) 0) (
 .ret (.inr (([]:List Int),0))) (
 .aa (((y2:Nat) * 1:Nat)≤2 ^ 40)<|
 .aa ((y2:Nat)≤2 ^ 40)<|
 .aa (((0:Nat)+y2:Nat)≤y2)<|
 .ret (.inr ((y1.take y2),0)))
 | .Jp v1 v3 v5 v27 v35 v36 v37=>
 .aa (((0:Nat)+v1:Nat)≤0)<|
 .aa ((v5:Nat)=v36)<|
 let y0:ai:=(v35.take v1)
 let y1:Nat:=(v5+y0.length)
 .aa (((y1:Nat) * 1:Nat)≤2 ^ 40)<|
 .aa ((y1:Nat)≤2 ^ 40)<|
 .aa ((y1:Nat)=y1)<|
 let y2:Nat:=(y1+v3.length)
 .aa (((y2:Nat) * 1:Nat)≤2 ^ 40)<|
 .aa ((y2:Nat)≤2 ^ 40)<|
 .ite (ae x.1 39) (
 let y3:=x.2.2.2.2
 let y4:ai:=((v37++y0)++v3)
 .ret (.inl (.qh y2 (af .i64 y3.2.1) v27 y2 y4))) (
 let y5:=x.2.2.2.2
 let y6:ai:=((v37++y0)++v3)
 .ret (.inl (.qh y2 y5.1.2.2.2.2.2.2.2 v27 y2 y6)))
 | .QC v1 v3 v25 v33=>
 .aa (((0:Nat)+v1:Nat)≤0)<|
 let y0:ai:=(v33.take v1)
 let y1:Nat:=y0.length
 .ite (ae (y1:Int) 0) (
 .ite (ae (v3.length:Int) 0) (
 let y2:=(ae x.1 39)
 .ite y2 (
 let y3:=x.2.2.2.2
 let y4:Int:=(af .i64 y3.2.1)
 .ret (.inl (.EC y4 v25))) (
 let y5:=x.2.2.2.2
 let y6:=y5.1.2.2.2.2.2.2.2
 .ret (.inl (.EC y6 v25)))) (
 .aa (((v3.length:Nat) * 1:Nat)≤2 ^ 40)<|
 .aa ((v3.length:Nat)≤2 ^ 40)<|
 let y7:=(ae x.1 39)
 .ite y7 (
 let y8:=x.2.2.2.2
 let y9:Int:=(af .i64 y8.2.1)
 .ret (.inl (.qh v3.length y9 v25 v3.length v3))) (
 let y10:=x.2.2.2.2
 let y11:=y10.1.2.2.2.2.2.2.2
 .ret (.inl (.qh v3.length y11 v25 v3.length v3))))) (
 .aa (((y1:Nat) * 1:Nat)≤2 ^ 40)<|
 .aa ((y1:Nat)≤2 ^ 40)<|
 .aa ((y1:Nat)=y1)<|
 let y12:Nat:=(y1+v3.length)
 .aa (((y12:Nat) * 1:Nat)≤2 ^ 40)<|
 .aa ((y12:Nat)≤2 ^ 40)<|
 let y13:=(ae x.1 39)
 .ite y13 (
 let y14:=x.2.2.2.2
 let y15:Int:=(af .i64 y14.2.1)
 let y16:ai:=(y0++v3)
 .ret (.inl (.qh y12 y15 v25 y12 y16))) (
 let y17:=x.2.2.2.2
 let y18:=y17.1.2.2.2.2.2.2.2
 let y19:ai:=(y0++v3)
 .ret (.inl (.qh y12 y18 v25 y12 y19))))
noncomputable def bP (x:DI):aG:=.cell true 28 (.agg [1,1,1,8,8,1,1] [(.int .u8 x.1),(.int .u8 x.2.1),(.int .i64 x.2.2.1),(.agg [1,1,1,1,1,1,1,1] [(.int .u8 x.2.2.2.1.1),(.int .i64 x.2.2.2.1.2.1),(.int .i64 x.2.2.2.1.2.2.1),(.int .i64 x.2.2.2.1.2.2.2.1),(.int .i64 x.2.2.2.1.2.2.2.2.1),(.int .i64 x.2.2.2.1.2.2.2.2.2.1),(.bool x.2.2.2.1.2.2.2.2.2.2.1),(.int .i64 x.2.2.2.1.2.2.2.2.2.2.2)]),(.agg [1,1,1,1,1,1,1,1] [(.int .u8 x.2.2.2.2.1.1),(.int .i64 x.2.2.2.2.1.2.1),(.int .i64 x.2.2.2.2.1.2.2.1),(.int .i64 x.2.2.2.2.1.2.2.2.1),(.int .i64 x.2.2.2.2.1.2.2.2.2.1),(.int .i64 x.2.2.2.2.1.2.2.2.2.2.1),(.bool x.2.2.2.2.1.2.2.2.2.2.2.1),(.int .i64 x.2.2.2.2.1.2.2.2.2.2.2.2)]),(.int .u8 x.2.2.2.2.2.1),(.int .i64 x.2.2.2.2.2.2)])
noncomputable def jT:List It:=[.code (aH [1,1,1,1,1,1,1,1,1,1,1,1,0,0] (ah Tryz.f6)),.code (aH [1,1,1,1,1,1,1,1,1,1,1,1,0,1] (ah Tryz.f6)),.code (aH [1,1,1,1,1,1,1,1,1,1,1,1,1] (ah Tryz.f6))]
noncomputable def rJ:List It:=[.code (aH [1,1,1,1,1,1,1,1,1,0,0] (ah Tryz.f6)),.code (aH [1,1,1,1,1,1,1,1,1,0,1] (ah Tryz.f6)),.code (aH [1,1,1,1,1,1,1,1,1,1] (ah Tryz.f6))]
noncomputable def Ep:List It:=[.code (aH [1,1,1,1,1,1,1,1,1,1,1,1,1,1,1,1,0] (ah Tryz.f6)),.code (aH [1,1,1,1,1,1,1,1,1,1,1,1,1,1,1,1,1] (ah Tryz.f6))]
noncomputable def jS:List It:=[.code (aH [1,1,1,1,1,1,1,1,1,1,1,1,1,0] (ah Tryz.f6)),.code (aH [1,1,1,1,1,1,1,1,1,1,1,1,1,1] (ah Tryz.f6))]
noncomputable def Eo:List It:=[.code (aH [1,1,1,1,1,1,1,1,0,1,0,1,1,1,0,1] (ah Tryz.f6)),.bB 0,.code (aH [1,1,1,1,1,1,1,1,1] (ah Tryz.f6))]
noncomputable def En:List It:=[.code (aH [1,1,1,1,1,1,1,1,0,1,0,1,0,1] (ah Tryz.f6)),.bB 0,.code (aH [1,1,1,1,1,1,1,1,1] (ah Tryz.f6))]
noncomputable def rI:List It:=[.code (aH [1,1,1,1,1,1,1,1,1,1,0] (ah Tryz.f6)),.code (aH [1,1,1,1,1,1,1,1,1,1,1] (ah Tryz.f6))]
noncomputable def X8 (x:DI):J6→Head
 | .h0 v21=>
 {fr:={id:=6,kind:=.top,T:=[.any,(.ptr 0 []),.any,.any,(.ptr 1 [])]++List.replicate 134 .any,items:=[.code (aH [1,1,1,0] (ah Tryz.f6)),.code (aH [1,1,1,1] (ah Tryz.f6))],D:=[],base:=0},
  aF:=[],
  H:=[(bP x),.cell true 62 (.agg [1,1,1,1,1,1,1,1] [(.int .i64 v21.1),(.str v21.2.1),(.str v21.2.2.1),(.int .u8 v21.2.2.2.1),(.dA (.int .u8) v21.2.2.2.2.1),(.int .i64 v21.2.2.2.2.2.1),(.int .i64 v21.2.2.2.2.2.2.1),(.int .i64 v21.2.2.2.2.2.2.2)])]}
 | .h1 v1 v2 v24 v32 v33 v34=>
 {fr:={id:=6,kind:=.top,T:=[.any,(.ptr 0 []),.any,.any,(.ptr 1 []),.any,(.aS 2 [] 1 0 v1 none),.any,.any,(.ptr 3 []),.any,(.int .i64 v2)]++List.replicate 127 .any,items:=En,D:=[],base:=0},
  aF:=[],
  H:=[(bP x),.cell true 62 (.agg [1,1,1,1,1,1,1,1] [(.int .i64 v24.1),(.str v24.2.1),(.str v24.2.2.1),(.int .u8 v24.2.2.2.1),(.dA (.int .u8) v24.2.2.2.2.1),(.int .i64 v24.2.2.2.2.2.1),(.int .i64 v24.2.2.2.2.2.2.1),(.int .i64 v24.2.2.2.2.2.2.2)]),.cell true 5 (.arr v32 (.int .u8) v33),.cell true 26 (.agg [1,1,1,1,1,1,1,1] [(.int .u8 v34.1),(.int .i64 v34.2.1),(.int .i64 v34.2.2.1),(.int .i64 v34.2.2.2.1),(.int .i64 v34.2.2.2.2.1),(.int .i64 v34.2.2.2.2.2.1),(.bool v34.2.2.2.2.2.2.1),(.int .i64 v34.2.2.2.2.2.2.2)])]}
 | .h2 v1 v2 v24 v32 v33 v34=>
 {fr:={id:=6,kind:=.top,T:=[.any,(.ptr 0 []),.any,.any,(.ptr 1 []),.any,(.aS 2 [] 1 0 v1 none),.any,.any,.any,(.ptr 3 []),(.int .i64 v2)]++List.replicate 127 .any,items:=Eo,D:=[],base:=0},
  aF:=[],
  H:=[(bP x),.cell true 62 (.agg [1,1,1,1,1,1,1,1] [(.int .i64 v24.1),(.str v24.2.1),(.str v24.2.2.1),(.int .u8 v24.2.2.2.1),(.dA (.int .u8) v24.2.2.2.2.1),(.int .i64 v24.2.2.2.2.2.1),(.int .i64 v24.2.2.2.2.2.2.1),(.int .i64 v24.2.2.2.2.2.2.2)]),.cell true 5 (.arr v32 (.int .u8) v33),.cell true 26 (.agg [1,1,1,1,1,1,1,1] [(.int .u8 v34.1),(.int .i64 v34.2.1),(.int .i64 v34.2.2.1),(.int .i64 v34.2.2.2.1),(.int .i64 v34.2.2.2.2.1),(.int .i64 v34.2.2.2.2.2.1),(.bool v34.2.2.2.2.2.2.1),(.int .i64 v34.2.2.2.2.2.2.2)])]}
 | .h3 v1 v2 v24 v32 v33=>
 {fr:={id:=6,kind:=.top,T:=[.any,(.ptr 0 []),.any,.any,(.ptr 1 []),.any,(.aS 2 [] 1 0 v1 none),(.raw (.slice none 0 0)),(.int .u8 v2)]++List.replicate 130 .any,items:=rJ,D:=[],base:=0},
  aF:=[],
  H:=[(bP x),.cell true 62 (.agg [1,1,1,1,1,1,1,1] [(.int .i64 v24.1),(.str v24.2.1),(.str v24.2.2.1),(.int .u8 v24.2.2.2.1),(.dA (.int .u8) v24.2.2.2.2.1),(.int .i64 v24.2.2.2.2.2.1),(.int .i64 v24.2.2.2.2.2.2.1),(.int .i64 v24.2.2.2.2.2.2.2)]),.cell true 5 (.arr v32 (.int .u8) v33)]}
 | .h4 v1 v3 v25 v33 v34=>
 {fr:={id:=6,kind:=.top,T:=[.any,(.ptr 0 []),.any,.any,(.ptr 1 []),.any,(.aS 2 [] 1 0 v1 (some 0)),.any,.any,(.ptr 3 []),.any,(.int .i64 v3)]++List.replicate 127 .any,items:=En,D:=[],base:=0},
  aF:=[],
  H:=[(bP x),.cell true 62 (.agg [1,1,1,1,1,1,1,1] [(.int .i64 v25.1),(.str v25.2.1),(.str v25.2.2.1),(.int .u8 v25.2.2.2.1),(.dA (.int .u8) v25.2.2.2.2.1),(.int .i64 v25.2.2.2.2.2.1),(.int .i64 v25.2.2.2.2.2.2.1),(.int .i64 v25.2.2.2.2.2.2.2)]),.cell true 5 (.arr 0 (.int .u8) v33),.cell true 26 (.agg [1,1,1,1,1,1,1,1] [(.int .u8 v34.1),(.int .i64 v34.2.1),(.int .i64 v34.2.2.1),(.int .i64 v34.2.2.2.1),(.int .i64 v34.2.2.2.2.1),(.int .i64 v34.2.2.2.2.2.1),(.bool v34.2.2.2.2.2.2.1),(.int .i64 v34.2.2.2.2.2.2.2)])]}
 | .h5 v1 v3 v25 v33 v34=>
 {fr:={id:=6,kind:=.top,T:=[.any,(.ptr 0 []),.any,.any,(.ptr 1 []),.any,(.aS 2 [] 1 0 v1 (some 0)),.any,.any,.any,(.ptr 3 []),(.int .i64 v3)]++List.replicate 127 .any,items:=Eo,D:=[],base:=0},
  aF:=[],
  H:=[(bP x),.cell true 62 (.agg [1,1,1,1,1,1,1,1] [(.int .i64 v25.1),(.str v25.2.1),(.str v25.2.2.1),(.int .u8 v25.2.2.2.1),(.dA (.int .u8) v25.2.2.2.2.1),(.int .i64 v25.2.2.2.2.2.1),(.int .i64 v25.2.2.2.2.2.2.1),(.int .i64 v25.2.2.2.2.2.2.2)]),.cell true 5 (.arr 0 (.int .u8) v33),.cell true 26 (.agg [1,1,1,1,1,1,1,1] [(.int .u8 v34.1),(.int .i64 v34.2.1),(.int .i64 v34.2.2.1),(.int .i64 v34.2.2.2.1),(.int .i64 v34.2.2.2.2.1),(.int .i64 v34.2.2.2.2.2.1),(.bool v34.2.2.2.2.2.2.1),(.int .i64 v34.2.2.2.2.2.2.2)])]}
 | .h6 v1 v3 v25 v33=>
 {fr:={id:=6,kind:=.top,T:=[.any,(.ptr 0 []),.any,.any,(.ptr 1 []),.any,(.aS 2 [] 1 0 v1 (some 0)),(.raw (.slice none 0 0)),(.int .u8 v3)]++List.replicate 130 .any,items:=rJ,D:=[],base:=0},
  aF:=[],
  H:=[(bP x),.cell true 62 (.agg [1,1,1,1,1,1,1,1] [(.int .i64 v25.1),(.str v25.2.1),(.str v25.2.2.1),(.int .u8 v25.2.2.2.1),(.dA (.int .u8) v25.2.2.2.2.1),(.int .i64 v25.2.2.2.2.2.1),(.int .i64 v25.2.2.2.2.2.2.1),(.int .i64 v25.2.2.2.2.2.2.2)]),.cell true 5 (.arr 0 (.int .u8) v33)]}
 | .h7 v1 v2 v3 v25 v33 v34=>
 {fr:={id:=6,kind:=.top,T:=[.any,(.ptr 0 []),.any,.any,(.ptr 1 []),.any,(.aS 2 [] 1 0 v1 none),(.dA (.int .u8) v2),(.int .u8 v3)]++List.replicate 130 .any,items:=rJ,D:=[],base:=0},
  aF:=[],
  H:=[(bP x),.cell true 62 (.agg [1,1,1,1,1,1,1,1] [(.int .i64 v25.1),(.str v25.2.1),(.str v25.2.2.1),(.int .u8 v25.2.2.2.1),(.dA (.int .u8) v25.2.2.2.2.1),(.int .i64 v25.2.2.2.2.2.1),(.int .i64 v25.2.2.2.2.2.2.1),(.int .i64 v25.2.2.2.2.2.2.2)]),.cell true 5 (.arr v33 (.int .u8) v34)]}
 | .h8 v1 v2 v24 v32 v33=>
 {fr:={id:=6,kind:=.top,T:=[.any,(.ptr 0 []),.any,.any,(.ptr 1 []),.any,(.aS 2 [] 1 0 v1 none),(.raw (.slice none 0 0)),(.int .u8 v2)]++List.replicate 130 .any,items:=rI,D:=[],base:=0},
  aF:=[],
  H:=[(bP x),.cell true 62 (.agg [1,1,1,1,1,1,1,1] [(.int .i64 v24.1),(.str v24.2.1),(.str v24.2.2.1),(.int .u8 v24.2.2.2.1),(.dA (.int .u8) v24.2.2.2.2.1),(.int .i64 v24.2.2.2.2.2.1),(.int .i64 v24.2.2.2.2.2.2.1),(.int .i64 v24.2.2.2.2.2.2.2)]),.cell true 5 (.arr v32 (.int .u8) v33)]}
 | .h9 v1 v3 v4 v26 v34=>
 {fr:={id:=6,kind:=.top,T:=[.any,(.ptr 0 []),.any,.any,(.ptr 1 []),.any,(.aS 2 [] 1 0 v1 (some 0)),(.dA (.int .u8) v3),(.int .u8 v4)]++List.replicate 130 .any,items:=rJ,D:=[],base:=0},
  aF:=[],
  H:=[(bP x),.cell true 62 (.agg [1,1,1,1,1,1,1,1] [(.int .i64 v26.1),(.str v26.2.1),(.str v26.2.2.1),(.int .u8 v26.2.2.2.1),(.dA (.int .u8) v26.2.2.2.2.1),(.int .i64 v26.2.2.2.2.2.1),(.int .i64 v26.2.2.2.2.2.2.1),(.int .i64 v26.2.2.2.2.2.2.2)]),.cell true 5 (.arr 0 (.int .u8) v34)]}
 | .ED v1 v3 v25 v33=>
 {fr:={id:=6,kind:=.top,T:=[.any,(.ptr 0 []),.any,.any,(.ptr 1 []),.any,(.aS 2 [] 1 0 v1 (some 0)),(.raw (.slice none 0 0)),(.int .u8 v3)]++List.replicate 130 .any,items:=rI,D:=[],base:=0},
  aF:=[],
  H:=[(bP x),.cell true 62 (.agg [1,1,1,1,1,1,1,1] [(.int .i64 v25.1),(.str v25.2.1),(.str v25.2.2.1),(.int .u8 v25.2.2.2.1),(.dA (.int .u8) v25.2.2.2.2.1),(.int .i64 v25.2.2.2.2.2.1),(.int .i64 v25.2.2.2.2.2.2.1),(.int .i64 v25.2.2.2.2.2.2.2)]),.cell true 5 (.arr 0 (.int .u8) v33)]}
 | .BP v1 v2 v3 v25 v33 v34=>
 {fr:={id:=6,kind:=.top,T:=[.any,(.ptr 0 []),.any,.any,(.ptr 1 []),.any,(.aS 2 [] 1 0 v1 none),(.dA (.int .u8) v2),(.int .u8 v3)]++List.replicate 130 .any,items:=rI,D:=[],base:=0},
  aF:=[],
  H:=[(bP x),.cell true 62 (.agg [1,1,1,1,1,1,1,1] [(.int .i64 v25.1),(.str v25.2.1),(.str v25.2.2.1),(.int .u8 v25.2.2.2.1),(.dA (.int .u8) v25.2.2.2.2.1),(.int .i64 v25.2.2.2.2.2.1),(.int .i64 v25.2.2.2.2.2.2.1),(.int .i64 v25.2.2.2.2.2.2.2)]),.cell true 5 (.arr v33 (.int .u8) v34)]}
 | .JV v1 v2 v26 v34 v35 v37=>
 {fr:={id:=6,kind:=.top,T:=[.any,(.ptr 0 []),.any,.any,(.ptr 1 []),.any,(.aS 2 [] 1 0 v1 none),(.raw (.slice none 0 0)),(.int .u8 v2),.any,.any,.any,(.aS 3 [] 1 0 1 none)]++List.replicate 126 .any,items:=jT,D:=[],base:=0},
  aF:=[],
  H:=[(bP x),.cell true 62 (.agg [1,1,1,1,1,1,1,1] [(.int .i64 v26.1),(.str v26.2.1),(.str v26.2.2.1),(.int .u8 v26.2.2.2.1),(.dA (.int .u8) v26.2.2.2.2.1),(.int .i64 v26.2.2.2.2.2.1),(.int .i64 v26.2.2.2.2.2.2.1),(.int .i64 v26.2.2.2.2.2.2.2)]),.cell true 5 (.arr v34 (.int .u8) v35),.cell true 5 (.arr 1 (.int .u8) v37)]}
 | .QH v1 v2 v24 v32 v33=>
 {fr:={id:=6,kind:=.top,T:=[.any,(.ptr 0 []),.any,.any,(.ptr 1 []),.any,(.aS 2 [] 1 0 v1 none),(.raw (.slice none 0 0)),(.int .u8 v2),.any,.any,.any,(.raw (.slice none 0 0))]++List.replicate 126 .any,items:=jT,D:=[],base:=0},
  aF:=[],
  H:=[(bP x),.cell true 62 (.agg [1,1,1,1,1,1,1,1] [(.int .i64 v24.1),(.str v24.2.1),(.str v24.2.2.1),(.int .u8 v24.2.2.2.1),(.dA (.int .u8) v24.2.2.2.2.1),(.int .i64 v24.2.2.2.2.2.1),(.int .i64 v24.2.2.2.2.2.2.1),(.int .i64 v24.2.2.2.2.2.2.2)]),.cell true 5 (.arr v32 (.int .u8) v33)]}
 | .Jr v1 v3 v4 v26 v34=>
 {fr:={id:=6,kind:=.top,T:=[.any,(.ptr 0 []),.any,.any,(.ptr 1 []),.any,(.aS 2 [] 1 0 v1 (some 0)),(.dA (.int .u8) v3),(.int .u8 v4)]++List.replicate 130 .any,items:=rI,D:=[],base:=0},
  aF:=[],
  H:=[(bP x),.cell true 62 (.agg [1,1,1,1,1,1,1,1] [(.int .i64 v26.1),(.str v26.2.1),(.str v26.2.2.1),(.int .u8 v26.2.2.2.1),(.dA (.int .u8) v26.2.2.2.2.1),(.int .i64 v26.2.2.2.2.2.1),(.int .i64 v26.2.2.2.2.2.2.1),(.int .i64 v26.2.2.2.2.2.2.2)]),.cell true 5 (.arr 0 (.int .u8) v34)]}
 | .DL v1 v3 v27 v35 v37=>
 {fr:={id:=6,kind:=.top,T:=[.any,(.ptr 0 []),.any,.any,(.ptr 1 []),.any,(.aS 2 [] 1 0 v1 (some 0)),(.raw (.slice none 0 0)),(.int .u8 v3),.any,.any,.any,(.aS 3 [] 1 0 1 none)]++List.replicate 126 .any,items:=jT,D:=[],base:=0},
  aF:=[],
  H:=[(bP x),.cell true 62 (.agg [1,1,1,1,1,1,1,1] [(.int .i64 v27.1),(.str v27.2.1),(.str v27.2.2.1),(.int .u8 v27.2.2.2.1),(.dA (.int .u8) v27.2.2.2.2.1),(.int .i64 v27.2.2.2.2.2.1),(.int .i64 v27.2.2.2.2.2.2.1),(.int .i64 v27.2.2.2.2.2.2.2)]),.cell true 5 (.arr 0 (.int .u8) v35),.cell true 5 (.arr 1 (.int .u8) v37)]}
 | .HQ v1 v3 v25 v33=>
 {fr:={id:=6,kind:=.top,T:=[.any,(.ptr 0 []),.any,.any,(.ptr 1 []),.any,(.aS 2 [] 1 0 v1 (some 0)),(.raw (.slice none 0 0)),(.int .u8 v3),.any,.any,.any,(.raw (.slice none 0 0))]++List.replicate 126 .any,items:=jT,D:=[],base:=0},
  aF:=[],
  H:=[(bP x),.cell true 62 (.agg [1,1,1,1,1,1,1,1] [(.int .i64 v25.1),(.str v25.2.1),(.str v25.2.2.1),(.int .u8 v25.2.2.2.1),(.dA (.int .u8) v25.2.2.2.2.1),(.int .i64 v25.2.2.2.2.2.1),(.int .i64 v25.2.2.2.2.2.2.1),(.int .i64 v25.2.2.2.2.2.2.2)]),.cell true 5 (.arr 0 (.int .u8) v33)]}
 | .qY v1 v2 v3 v27 v35 v36 v38=>
 {fr:={id:=6,kind:=.top,T:=[.any,(.ptr 0 []),.any,.any,(.ptr 1 []),.any,(.aS 2 [] 1 0 v1 none),(.dA (.int .u8) v2),(.int .u8 v3),.any,.any,.any,(.aS 3 [] 1 0 1 none)]++List.replicate 126 .any,items:=jT,D:=[],base:=0},
  aF:=[],
  H:=[(bP x),.cell true 62 (.agg [1,1,1,1,1,1,1,1] [(.int .i64 v27.1),(.str v27.2.1),(.str v27.2.2.1),(.int .u8 v27.2.2.2.1),(.dA (.int .u8) v27.2.2.2.2.1),(.int .i64 v27.2.2.2.2.2.1),(.int .i64 v27.2.2.2.2.2.2.1),(.int .i64 v27.2.2.2.2.2.2.2)]),.cell true 5 (.arr v35 (.int .u8) v36),.cell true 5 (.arr 1 (.int .u8) v38)]}
 | .QG v1 v2 v3 v25 v33 v34=>
 {fr:={id:=6,kind:=.top,T:=[.any,(.ptr 0 []),.any,.any,(.ptr 1 []),.any,(.aS 2 [] 1 0 v1 none),(.dA (.int .u8) v2),(.int .u8 v3),.any,.any,.any,(.raw (.slice none 0 0))]++List.replicate 126 .any,items:=jT,D:=[],base:=0},
  aF:=[],
  H:=[(bP x),.cell true 62 (.agg [1,1,1,1,1,1,1,1] [(.int .i64 v25.1),(.str v25.2.1),(.str v25.2.2.1),(.int .u8 v25.2.2.2.1),(.dA (.int .u8) v25.2.2.2.2.1),(.int .i64 v25.2.2.2.2.2.1),(.int .i64 v25.2.2.2.2.2.2.1),(.int .i64 v25.2.2.2.2.2.2.2)]),.cell true 5 (.arr v33 (.int .u8) v34)]}
 | .A9 v1 v3 v25 v33 v34 v35 v36=>
 {fr:={id:=6,kind:=.top,T:=[.any,(.ptr 0 []),.any,.any,(.ptr 1 []),.any,(.aS 2 [] 1 0 v1 none),(.raw (.slice none 0 0))]++List.replicate 4 .any++[(.aS 3 [] 1 0 v3 none)]++List.replicate 126 .any,items:=jS,D:=[],base:=0},
  aF:=[],
  H:=[(bP x),.cell true 62 (.agg [1,1,1,1,1,1,1,1] [(.int .i64 v25.1),(.str v25.2.1),(.str v25.2.2.1),(.int .u8 v25.2.2.2.1),(.dA (.int .u8) v25.2.2.2.2.1),(.int .i64 v25.2.2.2.2.2.1),(.int .i64 v25.2.2.2.2.2.2.1),(.int .i64 v25.2.2.2.2.2.2.2)]),.cell true 5 (.arr v33 (.int .u8) v34),.cell true 5 (.arr v35 (.int .u8) v36)]}
 | .NJ v1 v23 v31 v32=>
 {fr:={id:=6,kind:=.top,T:=[.any,(.ptr 0 []),.any,.any,(.ptr 1 []),.any,(.aS 2 [] 1 0 v1 none),(.raw (.slice none 0 0))]++List.replicate 4 .any++[(.raw (.slice none 0 0))]++List.replicate 126 .any,items:=jS,D:=[],base:=0},
  aF:=[],
  H:=[(bP x),.cell true 62 (.agg [1,1,1,1,1,1,1,1] [(.int .i64 v23.1),(.str v23.2.1),(.str v23.2.2.1),(.int .u8 v23.2.2.2.1),(.dA (.int .u8) v23.2.2.2.2.1),(.int .i64 v23.2.2.2.2.2.1),(.int .i64 v23.2.2.2.2.2.2.1),(.int .i64 v23.2.2.2.2.2.2.2)]),.cell true 5 (.arr v31 (.int .u8) v32)]}
 | .QF v1 v3 v4 v28 v36 v38=>
 {fr:={id:=6,kind:=.top,T:=[.any,(.ptr 0 []),.any,.any,(.ptr 1 []),.any,(.aS 2 [] 1 0 v1 (some 0)),(.dA (.int .u8) v3),(.int .u8 v4),.any,.any,.any,(.aS 3 [] 1 0 1 none)]++List.replicate 126 .any,items:=jT,D:=[],base:=0},
  aF:=[],
  H:=[(bP x),.cell true 62 (.agg [1,1,1,1,1,1,1,1] [(.int .i64 v28.1),(.str v28.2.1),(.str v28.2.2.1),(.int .u8 v28.2.2.2.1),(.dA (.int .u8) v28.2.2.2.2.1),(.int .i64 v28.2.2.2.2.2.1),(.int .i64 v28.2.2.2.2.2.2.1),(.int .i64 v28.2.2.2.2.2.2.2)]),.cell true 5 (.arr 0 (.int .u8) v36),.cell true 5 (.arr 1 (.int .u8) v38)]}
 | .QE v1 v3 v4 v26 v34=>
 {fr:={id:=6,kind:=.top,T:=[.any,(.ptr 0 []),.any,.any,(.ptr 1 []),.any,(.aS 2 [] 1 0 v1 (some 0)),(.dA (.int .u8) v3),(.int .u8 v4),.any,.any,.any,(.raw (.slice none 0 0))]++List.replicate 126 .any,items:=jT,D:=[],base:=0},
  aF:=[],
  H:=[(bP x),.cell true 62 (.agg [1,1,1,1,1,1,1,1] [(.int .i64 v26.1),(.str v26.2.1),(.str v26.2.2.1),(.int .u8 v26.2.2.2.1),(.dA (.int .u8) v26.2.2.2.2.1),(.int .i64 v26.2.2.2.2.2.1),(.int .i64 v26.2.2.2.2.2.2.1),(.int .i64 v26.2.2.2.2.2.2.2)]),.cell true 5 (.arr 0 (.int .u8) v34)]}
 | .Jq v1 v4 v26 v34 v35 v36=>
 {fr:={id:=6,kind:=.top,T:=[.any,(.ptr 0 []),.any,.any,(.ptr 1 []),.any,(.aS 2 [] 1 0 v1 (some 0)),(.raw (.slice none 0 0))]++List.replicate 4 .any++[(.aS 3 [] 1 0 v4 none)]++List.replicate 126 .any,items:=jS,D:=[],base:=0},
  aF:=[],
  H:=[(bP x),.cell true 62 (.agg [1,1,1,1,1,1,1,1] [(.int .i64 v26.1),(.str v26.2.1),(.str v26.2.2.1),(.int .u8 v26.2.2.2.1),(.dA (.int .u8) v26.2.2.2.2.1),(.int .i64 v26.2.2.2.2.2.1),(.int .i64 v26.2.2.2.2.2.2.1),(.int .i64 v26.2.2.2.2.2.2.2)]),.cell true 5 (.arr 0 (.int .u8) v34),.cell true 5 (.arr v35 (.int .u8) v36)]}
 | .QD v1 v24 v32=>
 {fr:={id:=6,kind:=.top,T:=[.any,(.ptr 0 []),.any,.any,(.ptr 1 []),.any,(.aS 2 [] 1 0 v1 (some 0)),(.raw (.slice none 0 0))]++List.replicate 4 .any++[(.raw (.slice none 0 0))]++List.replicate 126 .any,items:=jS,D:=[],base:=0},
  aF:=[],
  H:=[(bP x),.cell true 62 (.agg [1,1,1,1,1,1,1,1] [(.int .i64 v24.1),(.str v24.2.1),(.str v24.2.2.1),(.int .u8 v24.2.2.2.1),(.dA (.int .u8) v24.2.2.2.2.1),(.int .i64 v24.2.2.2.2.2.1),(.int .i64 v24.2.2.2.2.2.2.1),(.int .i64 v24.2.2.2.2.2.2.2)]),.cell true 5 (.arr 0 (.int .u8) v32)]}
 | .yx v1 v2 v4 v26 v34 v35 v36 v37=>
 {fr:={id:=6,kind:=.top,T:=[.any,(.ptr 0 []),.any,.any,(.ptr 1 []),.any,(.aS 2 [] 1 0 v1 none),(.dA (.int .u8) v2)]++List.replicate 4 .any++[(.aS 3 [] 1 0 v4 none)]++List.replicate 126 .any,items:=jS,D:=[],base:=0},
  aF:=[],
  H:=[(bP x),.cell true 62 (.agg [1,1,1,1,1,1,1,1] [(.int .i64 v26.1),(.str v26.2.1),(.str v26.2.2.1),(.int .u8 v26.2.2.2.1),(.dA (.int .u8) v26.2.2.2.2.1),(.int .i64 v26.2.2.2.2.2.1),(.int .i64 v26.2.2.2.2.2.2.1),(.int .i64 v26.2.2.2.2.2.2.2)]),.cell true 5 (.arr v34 (.int .u8) v35),.cell true 5 (.arr v36 (.int .u8) v37)]}
 | .Pw v1 v2 v24 v32 v33=>
 {fr:={id:=6,kind:=.top,T:=[.any,(.ptr 0 []),.any,.any,(.ptr 1 []),.any,(.aS 2 [] 1 0 v1 none),(.dA (.int .u8) v2)]++List.replicate 4 .any++[(.raw (.slice none 0 0))]++List.replicate 126 .any,items:=jS,D:=[],base:=0},
  aF:=[],
  H:=[(bP x),.cell true 62 (.agg [1,1,1,1,1,1,1,1] [(.int .i64 v24.1),(.str v24.2.1),(.str v24.2.2.1),(.int .u8 v24.2.2.2.1),(.dA (.int .u8) v24.2.2.2.2.1),(.int .i64 v24.2.2.2.2.2.1),(.int .i64 v24.2.2.2.2.2.2.1),(.int .i64 v24.2.2.2.2.2.2.2)]),.cell true 5 (.arr v32 (.int .u8) v33)]}
 | .qh v1 v2 v3 v11 v12=>
 {fr:={id:=6,kind:=.top,T:=List.replicate 4 .any++[(.ptr 0 [])]++List.replicate 7 .any++[(.aS 1 [] 1 0 v1 none),(.int .i64 v2)]++List.replicate 125 .any,items:=Ep,D:=[],base:=0},
  aF:=[],
  H:=[.cell true 62 (.agg [1,1,1,1,1,1,1,1] [(.int .i64 v3.1),(.str v3.2.1),(.str v3.2.2.1),(.int .u8 v3.2.2.2.1),(.dA (.int .u8) v3.2.2.2.2.1),(.int .i64 v3.2.2.2.2.2.1),(.int .i64 v3.2.2.2.2.2.2.1),(.int .i64 v3.2.2.2.2.2.2.2)]),.cell true 5 (.arr v11 (.int .u8) v12)]}
 | .EC v0 v1=>
 {fr:={id:=6,kind:=.top,T:=List.replicate 4 .any++[(.ptr 0 [])]++List.replicate 7 .any++[(.raw (.slice none 0 0)),(.int .i64 v0)]++List.replicate 125 .any,items:=Ep,D:=[],base:=0},
  aF:=[],
  H:=[.cell true 62 (.agg [1,1,1,1,1,1,1,1] [(.int .i64 v1.1),(.str v1.2.1),(.str v1.2.2.1),(.int .u8 v1.2.2.2.1),(.dA (.int .u8) v1.2.2.2.2.1),(.int .i64 v1.2.2.2.2.2.1),(.int .i64 v1.2.2.2.2.2.2.1),(.int .i64 v1.2.2.2.2.2.2.2)])]}
 | .Jp v1 v3 v5 v27 v35 v36 v37=>
 {fr:={id:=6,kind:=.top,T:=[.any,(.ptr 0 []),.any,.any,(.ptr 1 []),.any,(.aS 2 [] 1 0 v1 (some 0)),(.dA (.int .u8) v3)]++List.replicate 4 .any++[(.aS 3 [] 1 0 v5 none)]++List.replicate 126 .any,items:=jS,D:=[],base:=0},
  aF:=[],
  H:=[(bP x),.cell true 62 (.agg [1,1,1,1,1,1,1,1] [(.int .i64 v27.1),(.str v27.2.1),(.str v27.2.2.1),(.int .u8 v27.2.2.2.1),(.dA (.int .u8) v27.2.2.2.2.1),(.int .i64 v27.2.2.2.2.2.1),(.int .i64 v27.2.2.2.2.2.2.1),(.int .i64 v27.2.2.2.2.2.2.2)]),.cell true 5 (.arr 0 (.int .u8) v35),.cell true 5 (.arr v36 (.int .u8) v37)]}
 | .QC v1 v3 v25 v33=>
 {fr:={id:=6,kind:=.top,T:=[.any,(.ptr 0 []),.any,.any,(.ptr 1 []),.any,(.aS 2 [] 1 0 v1 (some 0)),(.dA (.int .u8) v3)]++List.replicate 4 .any++[(.raw (.slice none 0 0))]++List.replicate 126 .any,items:=jS,D:=[],base:=0},
  aF:=[],
  H:=[(bP x),.cell true 62 (.agg [1,1,1,1,1,1,1,1] [(.int .i64 v25.1),(.str v25.2.1),(.str v25.2.2.1),(.int .u8 v25.2.2.2.1),(.dA (.int .u8) v25.2.2.2.2.1),(.int .i64 v25.2.2.2.2.2.1),(.int .i64 v25.2.2.2.2.2.2.1),(.int .i64 v25.2.2.2.2.2.2.2)]),.cell true 5 (.arr 0 (.int .u8) v33)]}
noncomputable def V9:FuncId→Nat→Nat→Option Cut
 | 6,9,0=>some {tmps:=[1,4],loops:=[],dead:=[],aF:=[]}
 | 6,27,0=>some {tmps:=[1,4,6,9,11],loops:=[],dead:=[],aF:=[]}
 | 6,35,0=>some {tmps:=[1,4,6,10,11],loops:=[],dead:=[],aF:=[]}
 | 6,43,0=>some {tmps:=[1,4,6,7,8],loops:=[],dead:=[],aF:=[]}
 | 6,47,0=>some {tmps:=[1,4,6,7,8],loops:=[],dead:=[],aF:=[]}
 | 6,53,0=>some {tmps:=[1,4,6,7,8,12],loops:=[],dead:=[],aF:=[]}
 | 6,57,0=>some {tmps:=[1,4,6,7,12],loops:=[],dead:=[],aF:=[]}
 | 6,65,0=>some {tmps:=[4,12,13],loops:=[],dead:=[],aF:=[]}
 | _,_,_=>none
noncomputable def fn6 (x):=dq (TC.gN (.st (.slice (.int .u8)) (.a7 (.int .i64)))) (bg x) (BT x)
def pre6 (x):=∃ r,Ends (bg x) r (BT x)
noncomputable def R6:Spec:={dg:=(.a7 bw),bG:=(.st (.slice (.int .u8)) (.a7 (.int .i64))),n:=2,pre:=pre6,f:=fn6}
theorem ok6:au aT 6 R6:=o7 Tryz.f6 [(20,K4),(21,K3),(22,K2),(23,K1),(24,K0)] ⟨Z6,Z5,Z4,Z3,Z2,trivial⟩ BT bg X8 V9
end Go.aA.RV
end
section
namespace Go.aA.RV
open Go.Proofs Go.aA
inductive J8 where
 | h0 (v2:Int)
noncomputable def BS (x:Ah):Tr (J8⊕Bool):=
 .ite (cB (x.1.length:Int) (x.2.length:Int)) (
 .ret (.inr false)) (
 .ret (.inl (.h0 0)))
noncomputable def sQ (x:Ah):J8→Tr (J8⊕Bool)
 | .h0 v2=>
 .ite (bd v2 (x.1.length:Int)) (
 .aa ((0:Int)≤v2)<|
 .aa (v2 < (x.1.length:Int))<|
 .aa ((0:Int)≤v2)<|
 .aa (v2 < (x.2.length:Int))<|
 .ite (!(kq aP (eX aP x.1 (v2).toNat) (eX aP x.2 (v2).toNat))) (
 .ret (.inr false)) (
 .ret (.inl (.h0 (aJ .i64 v2 1))))) (
 .ret (.inr true))
noncomputable def X7 (x:Ah):J8→Head
 | .h0 v2=>
 {fr:={id:=8,kind:=.top,T:=[(.dA aP x.1),(.dA aP x.2),.any,.any,.any,(.int .i64 v2)]++List.replicate 20 .any,items:=[.lp (aH [1,1,0,1,0,0] (ah Tryz.f8)),.bB 0,.code (aH [1,1,1] (ah Tryz.f8))],D:=[],base:=0},
  aF:=[],
  H:=[]}
noncomputable def V8:FuncId→Nat→Nat→Option Cut
 | 8,0,0=>some {tmps:=[0,1,5],loops:=[],dead:=[],aF:=[]}
 | _,_,_=>none
noncomputable def fn8 (x):=dq (TC.gN .bool) (sQ x) (BS x)
def TO (x):=∃ r,Ends (sQ x) r (BS x)
noncomputable def R5:Spec:={dg:=(.st (.slice aP) (.a7 (.slice aP))),bG:=.bool,n:=1,pre:=TO,f:=fn8}
theorem ok8:au aT 8 R5:=o7 Tryz.f8 [] trivial BS sQ X7 V8
noncomputable def BV (x:nE):Tr Bool:=
 .ite (bd 40 (x.1.length:Int)) (
 .aa (Fi ())<|
 .ret (Vj ())) (
 .aa (Qb x.1)<|
 let y0:=(YG x.1)
 .ite (cB y0.2 0) (
 .aa (Fi ())<|
 .ret (Vj ())) (
 let y1:=y0.1
 .aa (pre6 y1)<|
 let y2:=(fn6 y1)
 let y3:=y2.1
 .aa (Qb y3)<|
 .ite ((cB y2.2 0)==false) (
 let y4:=(YG y3)
 .ite (cB y4.2 0) (
 .aa (Fi ())<|
 .ret (Vj ())) (
 let y5:xC:=(y1,x.2)
 .aa (CD y5)<|
 let y6:=y4.1
 let y7:=y6.2
 let y8:=y7.2
 let y9:=y8.2
 let y10:=y9.2
 let y11:((Int×(Int×EZ))×Int):=((y6.1,(y7.1,(y8.1,(y9.1,(y10.1,(y10.2.1,y1.2.2.2.2.2.2)))))),x.2)
 .aa (CD y11)<|
 let y12:=(Jw y5)
 .ite ((ae y12.2 0)==true) (
 let y13:=(Jw y11)
 .ite ((ae y13.2 0)==true) (
 let y14:=y12.1
 let y15:Ah:=(y14,y13.1)
 .aa (TO y15)<|
 .ite ((fn8 y15)==true) (
 .ite ((bd 0 (y14.length:Int))==true) (
 .aa (Fi ())<|
 .ret (Vj ())) (
 .ret false)) (
 .ret false)) (
 .ret false)) (
 .ret false))) (
 .aa (Fi ())<|
 .ret (Vj ()))))
noncomputable def fn3 (x):=(BV x).val
def WX (x):=(BV x).ok
noncomputable def Wb:Spec:={dg:=(.st (.slice (.int .u8)) (.a7 (.int .u64))),bG:=.bool,n:=1,pre:=WX,f:=fn3}
theorem ok3:au aT 3 Wb:=iO Tryz.f3 [(4,R8),(5,R7),(6,R6),(7,KH),(8,R5)] ⟨ok4,ok5,ok6,ok7,ok8,trivial⟩ BV
end Go.aA.RV
end
section
namespace Go.aA.dE
open Go.aA.RV
open Go.aA
def Ug:List DF:=[(0,0,137,false,(-1),1,0,0,1,0,false,false,false,false),
 (0,0,139,false,(-1),1,0,0,2,0,false,false,false,false),
 (0,0,199,false,0,1,0,0,4,4,false,false,false,false),
 (0,0,184,true,(-1),1,0,8,7,8,true,false,false,false),
 (0,0,136,false,(-1),1,0,1,1,0,false,false,true,false),
 (0,0,138,false,(-1),1,0,1,2,0,false,false,true,false),
 (0,0,198,false,0,1,0,1,4,1,false,false,true,false),
 (0,0,141,false,(-1),2,0,0,2,0,false,false,false,true)]
def SQ:List DF:=[(0,0,1,false,(-1),3,0,0,1,0,false,false,false,false),
 (0,0,3,false,(-1),3,0,0,2,0,false,false,false,false),
 (0,0,9,false,(-1),4,0,0,1,0,false,false,false,false),
 (0,0,11,false,(-1),4,0,0,2,0,false,false,false,false),
 (0,0,17,false,(-1),5,0,0,1,0,false,false,false,false),
 (0,0,19,false,(-1),5,0,0,2,0,false,false,false,false),
 (0,0,25,false,(-1),6,0,0,1,0,false,false,false,false),
 (0,0,27,false,(-1),6,0,0,2,0,false,false,false,false),
 (0,0,33,false,(-1),7,0,0,1,0,false,false,false,false),
 (0,0,35,false,(-1),7,0,0,2,0,false,false,false,false),
 (0,0,41,false,(-1),8,0,0,1,0,false,false,false,false),
 (0,0,43,false,(-1),8,0,0,2,0,false,false,false,false),
 (0,0,49,false,(-1),9,0,0,1,0,false,false,false,false),
 (0,0,51,false,(-1),9,0,0,2,0,false,false,false,false),
 (0,0,57,false,(-1),10,0,0,1,0,false,false,false,false),
 (0,0,59,false,(-1),10,0,0,2,0,false,false,false,false),
 (0,0,131,false,0,3,0,0,4,1,false,false,false,false),
 (0,0,129,false,0,3,0,0,4,4,false,false,false,false),
 (0,0,131,false,1,4,0,0,4,1,false,false,false,false),
 (0,0,129,false,1,4,0,0,4,4,false,false,false,false),
 (0,0,131,false,2,5,0,0,4,1,false,false,false,false),
 (0,0,129,false,2,5,0,0,4,4,false,false,false,false),
 (0,0,131,false,3,6,0,0,4,1,false,false,false,false),
 (0,0,129,false,3,6,0,0,4,4,false,false,false,false),
 (0,0,131,false,4,7,0,0,4,1,false,false,false,false),
 (0,0,129,false,4,7,0,0,4,4,false,false,false,false),
 (0,0,131,false,5,8,0,0,4,1,false,false,false,false),
 (0,0,129,false,5,8,0,0,4,4,false,false,false,false),
 (0,0,131,false,6,9,0,0,4,1,false,false,false,false),
 (0,0,129,false,6,9,0,0,4,4,false,false,false,false),
 (0,0,131,false,7,10,0,0,4,1,false,false,false,false),
 (0,0,129,false,7,10,0,0,4,4,false,false,false,false),
 (0,0,133,false,(-1),11,0,0,1,0,false,false,false,false),
 (0,0,247,false,0,11,0,0,4,4,false,false,false,false),
 (0,0,255,false,0,12,0,0,3,0,false,false,false,false),
 (0,0,255,false,1,13,0,0,3,0,false,false,false,false),
 (0,0,247,false,2,15,0,0,3,0,false,false,false,false),
 (0,0,247,false,3,14,0,0,3,0,false,false,false,false),
 (0,0,247,false,4,22,0,0,3,0,false,false,false,false),
 (0,0,247,false,6,23,0,0,3,0,false,false,false,false),
 (0,0,193,false,0,19,0,0,4,1,false,false,false,false),
 (0,0,211,false,0,19,0,0,5,0,false,false,false,false),
 (0,0,193,false,1,20,0,0,4,1,false,false,false,false),
 (0,0,211,false,1,20,0,0,5,0,false,false,false,false),
 (0,0,193,false,4,16,0,0,4,1,false,false,false,false),
 (0,0,211,false,4,16,0,0,5,0,false,false,false,false),
 (0,0,193,false,5,17,0,0,4,1,false,false,false,false),
 (0,0,211,false,5,17,0,0,5,0,false,false,false,false),
 (0,0,193,false,7,18,0,0,4,1,false,false,false,false),
 (0,0,211,false,7,18,0,0,5,0,false,false,false,false),
 (0,1,175,false,(-1),21,0,0,2,0,false,false,false,false)]
def HK:List DF:=[(0,0,80,true,(-1),24,0,8,6,0,false,false,false,false),
 (0,0,88,true,(-1),25,0,8,6,0,false,false,false,false),
 (0,0,232,false,(-1),26,0,8,8,4,false,false,false,false),
 (0,0,195,false,(-1),27,0,8,0,0,false,false,false,false),
 (0,0,233,false,(-1),28,0,8,8,4,false,false,false,false),
 (0,0,235,false,(-1),28,0,8,8,1,false,false,false,false),
 (0,0,255,false,4,28,0,8,3,0,false,false,false,false),
 (0,1,128,false,(-1),29,0,8,8,4,false,false,false,false),
 (0,0,112,false,(-1),29,0,8,8,1,false,false,false,false),
 (0,1,129,false,(-1),29,1,8,8,4,false,false,false,false),
 (0,0,113,false,(-1),29,1,8,8,1,false,false,false,false),
 (0,1,130,false,(-1),29,2,8,8,4,false,false,false,false),
 (0,0,114,false,(-1),29,2,8,8,1,false,false,false,false),
 (0,1,131,false,(-1),29,3,8,8,4,false,false,false,false),
 (0,0,115,false,(-1),29,3,8,8,1,false,false,false,false),
 (0,1,132,false,(-1),29,4,8,8,4,false,false,false,false),
 (0,0,116,false,(-1),29,4,8,8,1,false,false,false,false),
 (0,1,133,false,(-1),29,5,8,8,4,false,false,false,false),
 (0,0,117,false,(-1),29,5,8,8,1,false,false,false,false),
 (0,1,134,false,(-1),29,6,8,8,4,false,false,false,false),
 (0,0,118,false,(-1),29,6,8,8,1,false,false,false,false),
 (0,1,135,false,(-1),29,7,8,8,4,false,false,false,false),
 (0,0,119,false,(-1),29,7,8,8,1,false,false,false,false),
 (0,1,136,false,(-1),29,8,8,8,4,false,false,false,false),
 (0,0,120,false,(-1),29,8,8,8,1,false,false,false,false),
 (0,1,137,false,(-1),29,9,8,8,4,false,false,false,false),
 (0,0,121,false,(-1),29,9,8,8,1,false,false,false,false),
 (0,1,138,false,(-1),29,10,8,8,4,false,false,false,false),
 (0,0,122,false,(-1),29,10,8,8,1,false,false,false,false),
 (0,1,139,false,(-1),29,11,8,8,4,false,false,false,false),
 (0,0,123,false,(-1),29,11,8,8,1,false,false,false,false),
 (0,1,140,false,(-1),29,12,8,8,4,false,false,false,false),
 (0,0,124,false,(-1),29,12,8,8,1,false,false,false,false),
 (0,1,141,false,(-1),29,13,8,8,4,false,false,false,false),
 (0,0,125,false,(-1),29,13,8,8,1,false,false,false,false),
 (0,1,142,false,(-1),29,14,8,8,4,false,false,false,false),
 (0,0,126,false,(-1),29,14,8,8,1,false,false,false,false),
 (0,1,143,false,(-1),29,15,8,8,4,false,false,false,false),
 (0,0,127,false,(-1),29,15,8,8,1,false,false,false,false)]
def HJ:List DF:=[(0,1,64,false,(-1),30,0,0,2,0,false,false,false,false),
 (0,1,65,false,(-1),30,1,0,2,0,false,false,false,false),
 (0,1,66,false,(-1),30,2,0,2,0,false,false,false,false),
 (0,1,67,false,(-1),30,3,0,2,0,false,false,false,false),
 (0,1,68,false,(-1),30,4,0,2,0,false,false,false,false),
 (0,1,69,false,(-1),30,5,0,2,0,false,false,false,false),
 (0,1,70,false,(-1),30,6,0,2,0,false,false,false,false),
 (0,1,71,false,(-1),30,7,0,2,0,false,false,false,false),
 (0,1,72,false,(-1),30,8,0,2,0,false,false,false,false),
 (0,1,73,false,(-1),30,9,0,2,0,false,false,false,false),
 (0,1,74,false,(-1),30,10,0,2,0,false,false,false,false),
 (0,1,75,false,(-1),30,11,0,2,0,false,false,false,false),
 (0,1,76,false,(-1),30,12,0,2,0,false,false,false,false),
 (0,1,77,false,(-1),30,13,0,2,0,false,false,false,false),
 (0,1,78,false,(-1),30,14,0,2,0,false,false,false,false),
 (0,1,79,false,(-1),30,15,0,2,0,false,false,false,false)]
def HI:List DF:=[(0,1,144,false,0,31,0,1,3,0,false,false,true,false),
 (0,1,145,false,0,31,1,1,3,0,false,false,true,false),
 (0,1,146,false,0,31,2,1,3,0,false,false,true,false),
 (0,1,147,false,0,31,3,1,3,0,false,false,true,false),
 (0,1,148,false,0,31,4,1,3,0,false,false,true,false),
 (0,1,149,false,0,31,5,1,3,0,false,false,true,false),
 (0,1,150,false,0,31,6,1,3,0,false,false,true,false),
 (0,1,151,false,0,31,7,1,3,0,false,false,true,false),
 (0,1,152,false,0,31,8,1,3,0,false,false,true,false),
 (0,1,153,false,0,31,9,1,3,0,false,false,true,false),
 (0,1,154,false,0,31,10,1,3,0,false,false,true,false),
 (0,1,155,false,0,31,11,1,3,0,false,false,true,false),
 (0,1,156,false,0,31,12,1,3,0,false,false,true,false),
 (0,1,157,false,0,31,13,1,3,0,false,false,true,false),
 (0,1,158,false,0,31,14,1,3,0,false,false,true,false),
 (0,1,159,false,0,31,15,1,3,0,false,false,true,false)]
def HG:List DF:=[(0,1,182,false,(-1),32,0,0,2,0,false,false,true,false),
 (0,1,190,false,(-1),33,0,0,2,0,false,false,true,false),
 (0,0,144,false,(-1),34,0,8,0,0,false,false,false,false),
 (243,1,111,false,(-1),35,0,16,2,0,false,true,false,false),
 (243,1,127,false,(-1),35,0,16,1,0,false,true,false,false),
 (102,1,239,false,(-1),36,0,16,2,0,false,true,false,false),
 (102,2,220,false,(-1),37,0,16,2,0,false,true,false,false),
 (102,2,221,false,(-1),38,0,16,2,0,false,true,false,false),
 (102,3,68,false,(-1),39,0,16,2,1,false,true,false,false)]
def fy:List DF:=Ug++SQ++(HK++HJ++HI)++HG
theorem QS:DS ()=SQ:=by kernel_rfl
theorem QR:Bh ()=HK++HJ++HI:=by kernel_rfl
theorem QQ:xP ()=HG:=by kernel_rfl
end Go.aA.dE
end
section
namespace Go.aA.dE
open Go.aA.RV
open Go.aA
def zf:DF:=(0,(0,(0,(false,(0,(0,(0,(0,(0,(0,(false,(false,(false,false)))))))))))))
section
variable (xs:List pO) (hx:xs.flatten.length≤1000000) (hl:xs.length≤1000000)
include hx hl
end
end Go.aA.dE
end
section
namespace Go.aA.dE
open Go.aA.RV
open Go.aA
abbrev Key:=Int×Int×Int×Int
def w6 (f:DF) (op:Int):Bool:=if f.2.2.2.1 then ae (ic .u8 op 7) (ic .u8 f.2.2.1 7) else ae op f.2.2.1
def Ii (f:DF) (op:Int):Bool:=if f.2.2.2.1 then ae (av .u8 op 248) (av .u8 f.2.2.1 248) else ae op f.2.2.1
theorem Mo (x):G8 x:=by
 unfold G8 u5;simp only [dO,dc];simp
theorem QO (x:DF×Int):QP x=Ii x.1 x.2:=by
 unfold QP u5 Ii;simp only [bA,bx];cases x.1.2.2.2.1<;>rfl
def gr (f:DF) (k:Key):Bool:=ae f.1 k.1&&(ae f.2.1 k.2.1&&(w6 f k.2.2.1&&(ae f.2.2.2.2.1 (-1)||ae f.2.2.2.2.1 k.2.2.2)))
theorem S4 (a:Int) (h0:0≤a) (h1:a < 256):ic .u8 a 7=av .u8 a 248:=by
 have:∀ n:Fin 256,ic .u8 (n.val:Int) 7=av .u8 (n.val:Int) 248:=by decide
 have h:=this ⟨a.toNat,by omega⟩
 simpa [Int.toNat_of_nonneg h0] using h
def fX (a:Int):Prop:=0≤a∧a < 256
theorem RC (f:DF) (op:Int) (h1:fX f.2.2.1) (h2:fX op):Ii f op=w6 f op:=by
 unfold Ii w6
 rw [S4 _ h1.1 h1.2,S4 _ h2.1 h2.2]
theorem ME (x):Hd x:=by
 unfold Hd vk;simp only [dO,dD,dc,Mo];simp
theorem Q4 (x:DF×Key) (h1:fX x.1.2.2.1) (h2:fX x.2.2.2.1):Q5 x=gr x.1 x.2:=by
 unfold Q5 vk gr;simp only [bA,bS,bx,QO,RC _ _ h1 h2]
 cases ae x.1.1 x.2.1<;>cases ae x.1.2.1 x.2.2.1<;>cases w6 x.1 x.2.2.2.1<;>cases ae x.1.2.2.2.2.1 (-1)<;>simp
def NA (a:Int):Bool:=decide (0≤a)&&decide (a < 256)
theorem FQ:∀ f∈fy,fX f.2.2.1:=by
 have:fy.all (fun f=>NA f.2.2.1)=true:=by decide +kernel
 intro f hf
 have:=List.all_eq_true.1 this f hf
 simpa [NA,fX] using this
def F7 (f g:DF):Bool:=!(ae f.1 g.1)||(!(ae f.2.1 g.2.1)||((if f.2.2.2.1||g.2.2.2.1 then !(ae (ic .u8 f.2.2.1 7) (ic .u8 g.2.2.1 7)) else !(ae f.2.2.1 g.2.2.1))||
 (!(ae f.2.2.2.2.1 (-1))&&(!(ae g.2.2.2.2.1 (-1))&&!(ae f.2.2.2.2.1 g.2.2.2.2.1)))))
theorem Pj {f g:DF} {k:Key} (h:F7 f g=true) (h1:gr f k=true):gr g k=false:=by
 cases h2:gr g k with
 | false=>rfl
 | true=>
  exfalso
  simp only [gr,Bool.and_eq_true,Bool.or_eq_true,ag] at h1 h2
  obtain ⟨a1,a2,a3,a4⟩:=h1
  obtain ⟨b1,b2,b3,b4⟩:=h2
  simp only [F7,Bool.or_eq_true,Bool.and_eq_true,Bool.not_eq_true',bf] at h
  rcases h with h | h | h | ⟨h1,h2,h3⟩
  ·exact h (a1.trans b1.symm)
  ·exact h (a2.trans b2.symm)
  ·have key:∀ {f:DF},w6 f k.2.2.1=true→ic .u8 k.2.2.1 7=ic .u8 f.2.2.1 7:=by
    intro f hf
    unfold w6 at hf
    split at hf
    ·exact ag.1 hf
    ·rw [ag.1 hf]
   split at h
   ·rw [Bool.not_eq_true',bf] at h
    exact h ((key a3).symm.trans (key b3))
   ·rename_i hp
    simp only [not_or,Bool.not_eq_true] at hp
    rw [Bool.not_eq_true',bf] at h
    unfold w6 at a3 b3
    rw [hp.1] at a3
    rw [hp.2] at b3
    simp only [Bool.false_eq_true,if_false,ag] at a3 b3
    exact h (a3.symm.trans b3)
  ·rcases a4 with a4 | a4
   ·exact h1 a4
   ·rcases b4 with b4 | b4
    ·exact h2 b4
    ·exact h3 (a4.trans b4.symm)
def Hl (p:DF→DF→Bool):List DF→Bool
 | []=>true
 | f :: l=>l.all (p f)&&Hl p l
theorem DQ:Hl F7 fy=true:=by decide +kernel
theorem yh {p:DF→DF→Bool}:∀ {l:List DF},Hl p l=true→l.Pairwise fun f g=>p f g=true
 | [],_=>.nil
 | f :: l,h=>by
  simp only [Hl,Bool.and_eq_true] at h
  exact .cons (fun g hg=>List.all_eq_true.1 h.1 g hg) (yh h.2)
theorem M6 {k:Key}:fy.Pairwise fun f g=>gr f k=true→gr g k=false:=
 (yh DQ).imp fun h h1=>Pj h h1
def b8 (k:Key):DF×Bool:=match fy.find? (fun f=>gr f k) with | some f=>(f,true) | none=>(zf,false)
theorem rl {k:Key}:∀ {l:List DF},(l.Pairwise fun f g=>gr f k=true→gr g k=false)→∀ {f:DF},f∈l→gr f k=true→l.find? (fun f=>gr f k)=some f
 | [],_,_,hf,_=>nomatch hf
 | b :: l,hp,f,hf,hk=>by
  cases hp with
  | cons h1 h2=>
   rcases List.mem_cons.1 hf with rfl | hf
   ·simp [hk]
   ·have:gr b k=false:=by
     cases ha:gr b k with
     | false=>rfl
     | true=>have:=h1 _ hf ha;rw [hk] at this;cases this
    rw [List.find?_cons,this]
    exact rl h2 hf hk
theorem NK {k:Key} {f:DF} (hf:f∈fy) (hk:gr f k=true):b8 k=(f,true):=by
 unfold b8;rw [rl M6 hf hk]
theorem gZ {k:Key} (h:(b8 k).2=true):(b8 k).1∈fy∧gr (b8 k).1 k=true:=by
 unfold b8 at *
 split
 ·rename_i f hf
  exact ⟨List.mem_of_find?_eq_some hf,by have:=List.find?_some hf;simpa using this⟩
 ·rename_i hf;rw [hf] at h;cases h
end Go.aA.dE
end
section
namespace Go.aA.dE
open Go.aA.RV
open Go.aA
theorem LA (l:List DF) (i:Nat) (h:i < l.length):eX jk l i=l[i]:=iJ (c:=jk) h
theorem gL (i:Nat) (h:i < 1000000):aJ .i64 (i:Int) 1=((i+1:Nat):Int):=by rw [dQ]<;>omega
theorem iP {a b:Nat} (h:a < b):bd (a:Int) (b:Int)=true:=by rw [a6];omega
theorem qT {a b:Nat} (h:b≤a):bd (a:Int) (b:Int)=false:=by rw [b5];omega
def uM (l:List DF) (k:Key):DF×Bool:=match l.find? (fun f=>gr f k) with | some f=>(f,true) | none=>(zf,false)
theorem Bf (f:DF) (l:List DF) (k:Key):uM (f :: l) k=if gr f k=true then (f,true) else uM l k:=by
 unfold uM
 rw [List.find?_cons]
 cases h:gr f k<;>simp
end Go.aA.dE
end
section
namespace Go.aA.dE
open Go.aA.RV
open Go.aA
abbrev Pz (α:Type):=List Int→Option (α×List Int)
def dT {α:Type} (p:Pz α):Prop:=∀ b a r,p b=some (a,r)→∃ u,b=u++r∧(∀ o,p (u++o)=some (a,o))∧∀ m,m < u.length→p (u.take m)=none
def fj {α:Type} (p:Pz α) (lo hi:Nat):Prop:=∀ b a r,p b=some (a,r)→r.length+lo≤b.length∧b.length≤r.length+hi
def ld {α:Type} (a:α):Pz α:=fun b=>some (a,b)
def Od {α:Type}:Pz α:=fun _=>none
def gb {α:Type} (q:Int→Pz α):Pz α:=fun b=>match b with | []=>none | c :: r=>q c r
def hY {α:Type} (n:Nat) (q:List Int→Pz α):Pz α:=fun b=>if n≤b.length then q (b.take n) (b.drop n) else none
def gd {α β:Type} (p:Pz α) (q:α→Pz β):Pz β:=fun b=>match p b with | some (a,r)=>q a r | none=>none
section
variable {α β:Type}
theorem fC (a:α):dT (ld a):=by
 intro b a' r h
 simp only [ld,Option.some.injEq,Prod.mk.injEq] at h
 obtain ⟨rfl,rfl⟩:=h
 exact ⟨[],rfl,fun _=>rfl,fun m hm=>by simp at hm⟩
theorem B6:dT (Od:Pz α):=fun _ _ _ h=>by cases h
theorem fx {q:Int→Pz α} (h:∀ c,dT (q c)):dT (gb q):=by
 intro b a r hb
 cases b with
 | nil=>cases hb
 | cons c b=>
  obtain ⟨u,rfl,h1,h2⟩:=h c b a r hb
  refine ⟨c :: u,rfl,fun o=>h1 o,fun m hm=>?_⟩
  cases m with
  | zero=>rfl
  | succ m=>exact h2 m (by simpa using hm)
theorem qF {n:Nat} {q:List Int→Pz α} (h:∀ d,dT (q d)):dT (hY n q):=by
 intro b a r hb
 unfold hY at hb
 split at hb
 ·rename_i hn
  obtain ⟨u,hu,h1,h2⟩:=h _ _ a r hb
  have hl:(b.take n).length=n:=by simp;omega
  refine ⟨b.take n++u,?_,fun o=>?_,fun m hm=>?_⟩
  ·rw [List.append_assoc,← hu,List.take_append_drop]
  ·unfold hY
   rw [if_pos (by simp;omega),List.append_assoc,List.take_append_of_le_length (by omega),List.take_of_length_le (by omega),List.drop_append_of_le_length (by omega),List.drop_of_length_le (by omega)]
   exact h1 o
  ·unfold hY
   split
   ·rename_i hk
    have hm':n≤m:=by rw [List.length_take] at hk;omega
    obtain ⟨k,rfl⟩:=Nat.exists_eq_add_of_le hm'
    have e:(b.take n++u).take (n+k)=b.take n++u.take k:=by
     rw [List.take_append,hl,Nat.add_sub_cancel_left,List.take_of_length_le (by omega)]
    rw [e,List.take_append_of_le_length (by omega),List.take_of_length_le (by omega),List.drop_append_of_le_length (by omega),List.drop_of_length_le (by omega)]
    rw [List.length_append,hl] at hm
    exact h2 k (by omega)
   ·rfl
 ·cases hb
theorem jN {p:Pz α} {q:α→Pz β} (hp:dT p) (hq:∀ a,dT (q a)):dT (gd p q):=by
 intro b c r hb
 unfold gd at hb
 split at hb
 ·rename_i a r1 e
  obtain ⟨u,rfl,h1,h2⟩:=hp _ _ _ e
  obtain ⟨v,rfl,k1,k2⟩:=hq a _ _ _ hb
  refine ⟨u++v,by rw [List.append_assoc],fun o=>?_,fun m hm=>?_⟩
  ·unfold gd;rw [List.append_assoc,h1];exact k1 o
  ·unfold gd
   by_cases hmu:m < u.length
   ·rw [List.take_append_of_le_length (by omega),h2 m hmu]
   ·obtain ⟨k,rfl⟩:=Nat.exists_eq_add_of_le (Nat.le_of_not_lt hmu)
    rw [List.take_append,Nat.add_sub_cancel_left,List.take_of_length_le (by omega),h1]
    rw [List.length_append] at hm
    exact k2 k (by omega)
 ·cases hb
theorem fP (a:α):fj (ld a) 0 0:=by
 intro b a' r h
 simp only [ld,Option.some.injEq,Prod.mk.injEq] at h
 obtain ⟨_,rfl⟩:=h
 omega
theorem EY {lo hi:Nat}:fj (Od:Pz α) lo hi:=fun _ _ _ h=>by cases h
theorem fj.mono {p:Pz α} {lo hi lo' hi':Nat} (h:fj p lo hi) (h1:lo'≤lo) (h2:hi≤hi'):fj p lo' hi':=fun b a r e=>by
 have:=h b a r e;omega
theorem gk {q:Int→Pz α} {lo hi:Nat} (h:∀ c,fj (q c) lo hi):fj (gb q) (lo+1) (hi+1):=by
 intro b a r hb
 cases b with
 | nil=>cases hb
 | cons c b=>have:=h c b a r hb;simp only [List.length_cons];omega
theorem sP {n:Nat} {q:List Int→Pz α} {lo hi:Nat} (h:∀ d,fj (q d) lo hi):fj (hY n q) (n+lo) (n+hi):=by
 intro b a r hb
 unfold hY at hb
 split at hb
 ·have:=h _ _ a r hb;simp only [List.length_drop] at this;omega
 ·cases hb
theorem gR {p:Pz α} {q:α→Pz β} {lo hi lo' hi':Nat} (hp:fj p lo hi) (hq:∀ a,fj (q a) lo' hi'):fj (gd p q) (lo+lo') (hi+hi'):=by
 intro b c r hb
 unfold gd at hb
 split at hb
 ·rename_i a r1 e
  have:=hp _ _ _ e;have:=hq a _ _ _ hb;omega
 ·cases hb
theorem dT.nil {p:Pz α} {lo hi:Nat} (h:fj p lo hi) (hlo:0 < lo):p []=none:=by
 cases e:p [] with
 | none=>rfl
 | some x=>have:=h [] x.1 x.2 e;simp at this;omega
end
end Go.aA.dE
end
section
namespace Go.aA.dE
open Go.aA.RV
open Go.aA
noncomputable section
def dt (b:List Int):Prop:=∀ c∈b,fX c
theorem dt.tail {c:Int} {b:List Int} (h:dt (c :: b)):dt b:=fun x hx=>h x (List.mem_cons_of_mem _ hx)
theorem dt.drop {b:List Int} (h:dt b) (n:Nat):dt (b.drop n):=fun x hx=>h x (List.mem_of_mem_drop hx)
theorem dt.take {b:List Int} (h:dt b) (n:Nat):dt (b.take n):=fun x hx=>h x (List.mem_of_mem_take hx)
theorem dt.app {a b:List Int} (h:dt a) (k:dt b):dt (a++b):=fun x hx=>(List.mem_append.1 hx).elim (h x) (k x)
theorem qJ (c:Int) (b:List Int):eX (.int .u8) (c :: b:List Int) 0=c:=rfl
theorem GU (c c1:Int) (b:List Int):eX (.int .u8) (c :: c1 :: b:List Int) 1=c1:=rfl
theorem Nk {c:Int} (h:fX c):0≤a9 .u8 c 6∧a9 .u8 c 6 < 4:=by
 have e:a9 .u8 c 6=c.fdiv 64:=rfl
 rw [e]
 obtain ⟨h1,h2⟩:=h
 rw [Int.fdiv_eq_ediv_of_nonneg _ (by omega)]
 omega
abbrev cK (rex c:Int):Int:=aJ .i64 (af .i64 (av .u8 (a9 .u8 c 3) 7)) (hJ (2,rex))
abbrev bJ (rex c:Int):Int:=aJ .i64 (af .i64 (av .u8 c 7)) (hJ (0,rex))
abbrev oM (rex c:Int):Int:=aJ .i64 (af .i64 (av .u8 (a9 .u8 c 3) 7)) (hJ (1,rex))
def cV (m:Int):Int:=eX (.int .i64) [0,1,4,0] m.toNat
def gz (o:DO) (d:Int):DO:=(o.1,(o.2.1,(o.2.2.1,(o.2.2.2.1,(o.2.2.2.2.1,(d,o.2.2.2.2.2.2))))))
def oO (o:DO) (d:Int):DO:=(o.1,(o.2.1,(d,o.2.2.2)))
def tu (w:Int) (d:List Int):Nat→DO→DO
 | 0,o=>o
 | n+1,o=>tu w d n (cond (ae n (eG .i64 w 1)) (gz o (af .i64 (af .i8 (eX (.int .u8) d n)))) (gz o (dp .i64 (b7 .i64 o.2.2.2.2.2.1 8) (af .i64 (eX (.int .u8) d n)))))
def dM (aY w:Int) (o:DO):Pz tD:=hY w.toNat fun d=>ld (aY,tu w d d.length o)
def nU (rex c1:Int) (o:DO):DO:=(o.1,(o.2.1,(aJ .i64 (af .i64 (av .u8 c1 7)) (hJ (0,rex)),cond (cB (oM rex c1) 4) (oM rex c1,(b7 .i64 1 (a9 .u8 c1 6),o.2.2.2.2.2)) o.2.2.2)))
def IL (rex mode aY:Int) (o:DO):Pz tD:=gb fun c1=>
 cond (ae (av .u8 c1 7) 5&&ae mode 0) (dM aY 4 (oO (nU rex c1 o) (-1))) (dM aY (cV mode) (nU rex c1 o))
def IT (o:DO):DO:=(o.1,(o.2.1,((-1),(o.2.2.2.1,(o.2.2.2.2.1,(o.2.2.2.2.2.1,(true,o.2.2.2.2.2.2.2)))))))
def nm (rex:Int):Pz tD:=gb fun c=>
 cond (ae (a9 .u8 c 6) 3) (dM (cK rex c) (cV (a9 .u8 c 6)) (ck (bJ rex c)))
  (cond (ae (af .i64 (av .u8 c 7)) 4) (IL rex (a9 .u8 c 6) (cK rex c) (df (bJ rex c,0)))
   (cond (ae (af .i64 (av .u8 c 7)) 5&&ae (a9 .u8 c 6) 0) (dM (cK rex c) 4 (IT (df (bJ rex c,0))))
    (dM (cK rex c) (cV (a9 .u8 c 6)) (df (bJ rex c,0)))))
def zO:DO:=(0,(0,(0,(0,(0,(0,(false,0)))))))
def nO (b:List Int):Option (tD×List Int)→Int×qC
 | none=>(0,(zO,(0,80)))
 | some (a,r)=>(a.1,(a.2,((b.length:Int) - r.length,0)))
section
variable {rex:Int} {b:List Int} (hl:b.length≤1000)
include hl
end
theorem oE (aY w:Int) (o:DO):dT (dM aY w o):=qF fun _=>fC _
theorem oD (aY w:Int) (o:DO) (h:w≤4):fj (dM aY w o) 0 4:=(sP fun _=>fP _).mono (by omega) (by omega)
theorem uX {m:Int}:cV m≤4:=by
 unfold cV
 rcases Nat.lt_or_ge m.toNat 4 with h | h
 ·generalize m.toNat=n at h
  have:n=0∨n=1∨n=2∨n=3:=by omega
  rcases this with rfl | rfl | rfl | rfl<;>decide
 ·unfold eX;rw [List.getD_eq_getElem?_getD,List.getElem?_eq_none h];decide
theorem dF {α:Type} {c:Bool} {p q:Pz α} (hp:dT p) (hq:dT q):dT (cond c p q):=by cases c<;>assumption
theorem eY {α:Type} {c:Bool} {p q:Pz α} {lo hi:Nat} (hp:fj p lo hi) (hq:fj q lo hi):fj (cond c p q) lo hi:=by cases c<;>assumption
theorem BX (rex:Int):dT (nm rex):=
 fx fun _=>dF (oE _ _ _) (dF (fx fun _=>dF (oE _ _ _) (oE _ _ _)) (dF (oE _ _ _) (oE _ _ _)))
theorem Kg (rex:Int):fj (nm rex) 1 6:=
 gk (lo:=0) (hi:=5) fun _=>eY ((oD _ _ _ uX).mono (by omega) (by omega))
  (eY ((gk (lo:=0) (hi:=4) fun _=>eY (oD _ _ _ (by omega)) (oD _ _ _ uX)).mono (by omega) (by omega))
   (eY ((oD _ _ _ (by omega)).mono (by omega) (by omega)) ((oD _ _ _ uX).mono (by omega) (by omega))))
end
end Go.aA.dE
end
section
namespace Go.aA.dE
open Go.aA.RV
open Go.aA
noncomputable section
abbrev DH:Type:=(Int×(Bool×dC))
abbrev FZ (f:DF):Int:=f.2.2.2.2.1
abbrev il (f:DF):Int:=f.2.2.2.2.2.1
abbrev iX (f:DF):Int:=f.2.2.2.2.2.2.1
abbrev cE (f:DF):Int:=f.2.2.2.2.2.2.2.1
abbrev az (f:DF):Int:=f.2.2.2.2.2.2.2.2.1
abbrev b9 (f:DF):Int:=f.2.2.2.2.2.2.2.2.2.1
abbrev kg (f:DF):Bool:=f.2.2.2.2.2.2.2.2.2.2.1
abbrev iA (f:DF):Bool:=f.2.2.2.2.2.2.2.2.2.2.2.1
abbrev nA (f:DF):Bool:=f.2.2.2.2.2.2.2.2.2.2.2.2.1
abbrev tQ (f:DF):Bool:=f.2.2.2.2.2.2.2.2.2.2.2.2.2
def Iw (p:Int) (rex:Bool) (bits:Int) (c:Int):Pz DH:=
 cond (ae c 56) (gb fun o=>ld (p,(rex,(bits,(2,o))))) (cond (ae c 58) (gb fun o=>ld (p,(rex,(bits,(3,o))))) (ld (p,(rex,(bits,(1,c))))))
def Gc (p:Int) (rex:Bool) (bits:Int) (c:Int):Pz DH:=cond (ae c 15) (gb (Iw p rex bits)) (ld (p,(rex,(bits,(0,c)))))
def Gd (p:Int) (c:Int):Pz DH:=cond (re c) (gb (Gc p true (av .u8 c 15))) (Gc p false 0 c)
def RT (c:Int):Pz DH:=cond (ae c 102||ae c 243) (gb (Gd c)) (Gd 0 c)
def jC:Pz DH:=gb RT
def tw (h:DH) (f:DF) (n:Int) (rm:DO):Bool:=
 (tQ f&&ae rm.1 1)||(nA f&&(!h.2.1&&(lG rm||(ae (cE f) 1&&(ae (az f) 1||ae (az f) 2)&&lG (ck n)))))
def yY (o:DO):DO:=(o.1,(aJ .i64 o.2.1 16,o.2.2))
def iH (f:DF) (n:Int):DO:=cond (iA f) (yY (ck n)) (ck n)
def pA (f:DF) (rm:DO):DO:=cond (iA f&&ae rm.1 1) (yY rm) rm
def qN (h:DH) (f:DF):Pz (DO×DO):=gd (nm h.2.2.1) fun a=>cond (tw h f a.1 a.2) Od (ld (iH f a.1,pA f a.2))
def ff (f:DF) (d:List Int):Int:=cond (ae (b9 f) 0) 0 (cond (bK 16 (il f)&&bK (il f) 20) (af .i64 (mn d)) (af .i64 (ta (mn d,b9 f))))
def xJ (f:DF):Pz Int:=hY (b9 f).toNat fun d=>ld (ff f d)
def ft (f:DF):Bool:=ae (az f) 1||(ae (az f) 2||(ae (az f) 3||(ae (az f) 4||ae (az f) 5)))
abbrev nC:Type:=DH×(DF×(DO×(DO×Int)))
def lr (h:DH) (f:DF):Pz nC:=
 cond (ft f) (gd (qN h f) fun a=>gd (xJ f) fun n=>ld (h,(f,(a.1,(a.2,n))))) (gd (xJ f) fun n=>ld (h,(f,(zO,(zO,n)))))
def cR (b:List Int):Int:=match b with | []=>0 | c :: _=>af .i64 (av .u8 (a9 .u8 c 3) 7)
def fW (h:DH) (d:Int):Key:=(h.1,(h.2.2.2.1,(h.2.2.2.2,d)))
def kf (h:DH):Pz nC:=fun b=>
 cond ((b8 (fW h (cR b))).2&&!(kg (b8 (fW h (cR b))).1&&ae (av .u8 h.2.2.1 8) 0)) (lr h (b8 (fW h (cR b))).1 b) none
def oa:Pz nC:=gd jC kf
def jH (k:Int) (x:DO×(DO×(DO×DO))):DO×DO:=
 cond (ae k 0) (UM x) (cond (ae k 1) (UL x) (cond (ae k 2) (UK x) (cond (ae k 3) (UJ x) (cond (ae k 4) (UI x) (cond (ae k 5) (UH x) (cond (ae k 6) (UG x) (cond (ae k 7) (UF x) (UE x))))))))
def iz (n:Int):DO:=(3,(0,((-1),((-1),(0,(0,(false,n)))))))
def gJ (h:DH):DO:=ck (af .i64 (dp .u8 (av .u8 h.2.2.2.2 7) (b7 .u8 (av .u8 h.2.2.1 1) 3)))
def gj (h:DH) (f:DF):Int:=cond (ae (cE f) 0) (aJ .i64 4 (a9 .i64 (af .i64 (av .u8 h.2.2.1 8)) 1)) (cE f)
def S7 (a:nC):DO×DO:=jH (az a.2.1) (a.2.2.1,(a.2.2.2.1,(gJ a.1,iz a.2.2.2.2)))
def Pv (len:Int) (a:nC):DI:=
 (il a.2.1,(iX a.2.1,(gj a.1 a.2.1,((S7 a).1,((S7 a).2,(cond (ae (il a.2.1) 39) (af .u8 a.2.2.2.2) 0,len))))))
def zI:DI:=(0,(0,(0,(zO,(zO,(0,0))))))
def CU (x:List Int):Option (nC×List Int)→DI×Int
 | none=>(zI,80)
 | some (a,r)=>(Pv (eG .i64 x.length r.length) a,0)
def xI (x:List Int):DI×Int:=CU x (oa x)
section
variable {x:List Int}
variable {v:R1} {f:DF} (hb:v.2.1=false) (hk:0≤az f∧az f < 9) (hi:0≤b9 f∧b9 f≤8) (hl:v.1.length≤1000)
include hb hk hi hl
end
end
end Go.aA.dE
end
section
namespace Go.aA.dE
open Go.aA.RV
open Go.aA
noncomputable section
section
variable {x:List Int} {f:DF} (hk:0≤az f∧az f < 9) (hi:0≤b9 f∧b9 f≤8)
include hk hi
end
theorem nc:∀ f∈fy,(0≤az f∧az f < 9)∧(0≤b9 f∧b9 f≤8):=by
 have:fy.all (fun f=>(decide (0≤az f)&&decide (az f < 9))&&(decide (0≤b9 f)&&decide (b9 f≤8)))=true:=by decide +kernel
 intro f hf
 have:=List.all_eq_true.1 this f hf
 simp only [Bool.and_eq_true,decide_eq_true_eq] at this
 exact this
section
variable {x:List Int}
end
end
end Go.aA.dE
end
section
namespace Go.aA.dE
open Go.aA.RV
open Go.aA
noncomputable section
section
variable {x:List Int}
end
theorem Eu:dT jC:=by
 have s3:∀ p rex bits c,dT (Iw p rex bits c):=fun _ _ _ _=>dF (fx fun _=>fC _) (dF (fx fun _=>fC _) (fC _))
 have s2:∀ p rex bits c,dT (Gc p rex bits c):=fun _ _ _ _=>dF (fx (s3 _ _ _)) (fC _)
 have s1:∀ p c,dT (Gd p c):=fun _ _=>dF (fx (s2 _ _ _)) (s2 _ _ _ _)
 exact fx fun _=>dF (fx (s1 _)) (s1 _ _)
theorem Pm:fj jC 1 5:=by
 have s3:∀ p rex bits c,fj (Iw p rex bits c) 0 1:=fun _ _ _ _=>eY ((gk fun _=>fP _).mono (by omega) (by omega)) (eY ((gk fun _=>fP _).mono (by omega) (by omega)) ((fP _).mono (by omega) (by omega)))
 have s2:∀ p rex bits c,fj (Gc p rex bits c) 0 2:=fun _ _ _ _=>eY ((gk (s3 _ _ _)).mono (by omega) (by omega)) ((fP _).mono (by omega) (by omega))
 have s1:∀ p c,fj (Gd p c) 0 3:=fun _ _=>eY ((gk (s2 _ _ _)).mono (by omega) (by omega)) ((s2 _ _ _ _).mono (by omega) (by omega))
 exact gk fun _=>eY ((gk (s1 _)).mono (by omega) (by omega)) ((s1 _ _).mono (by omega) (by omega))
theorem Ho (h:DH) (f:DF):dT (qN h f):=jN (BX _) fun _=>dF B6 (fC _)
theorem Hn (h:DH) (f:DF):fj (qN h f) 1 6:=gR (lo':=0) (hi':=0) (Kg _) fun _=>eY EY (fP _)
theorem Nb (f:DF):dT (xJ f):=qF fun _=>fC _
theorem FG (f:DF):fj (xJ f) (b9 f).toNat (b9 f).toNat:=sP (lo:=0) (hi:=0) fun _=>fP _
theorem P0 (h:DH) (f:DF):dT (lr h f):=
 dF (jN (Ho h f) fun _=>jN (Nb f) fun _=>fC _) (jN (Nb f) fun _=>fC _)
theorem na:∀ f∈fy,(ft f=false→FZ f = -1)∧(ft f=true→b9 f≤4):=by
 have:fy.all (fun f=>(ft f||ae (FZ f) (-1))&&(!(ft f)||decide (b9 f≤4)))=true:=by decide +kernel
 intro f hf
 have:=List.all_eq_true.1 this f hf
 simp only [Bool.and_eq_true,Bool.or_eq_true,decide_eq_true_eq,ag,Bool.not_eq_true'] at this
 exact ⟨fun e=>this.1.resolve_left (by rw [e];decide),fun e=>this.2.resolve_left (by rw [e];decide)⟩
theorem PZ (h:DH) {f:DF} (hf:f∈fy):fj (lr h f) 0 10:=by
 obtain ⟨_,hi⟩:=nc f hf
 obtain ⟨_,hm⟩:=na f hf
 unfold lr
 cases e:ft f with
 | true=>have:=hm e;exact ((gR (Hn h f) fun _=>gR (FG f) fun _=>fP _).mono (by omega) (by omega))
 | false=>exact ((gR (FG f) fun _=>fP _).mono (by omega) (by omega))
theorem sx {h:DH} {d d':Int} (hok:(b8 (fW h d)).2=true) (hd:FZ (b8 (fW h d)).1 = -1):b8 (fW h d')=b8 (fW h d):=by
 obtain ⟨hm,hf⟩:=gZ hok
 have:gr (b8 (fW h d)).1 (fW h d')=true:=by
  simp only [gr,fW,Bool.and_eq_true,Bool.or_eq_true] at hf ⊢
  exact ⟨hf.1,hf.2.1,hf.2.2.1,.inl (ag.2 hd)⟩
 rw [NK hm this]
 exact Prod.ext rfl hok.symm
theorem JF {u:List Int} (h:0 < u.length) (a b:List Int):cR (u++a)=cR (u++b):=by
 cases u with
 | nil=>cases h
 | cons c u=>rfl
theorem QL (h:DH):dT (kf h):=by
 intro b a r hb
 unfold kf at hb
 cases hc:((b8 (fW h (cR b))).2&&!(kg (b8 (fW h (cR b))).1&&ae (av .u8 h.2.2.1 8) 0)) with
 | false=>rw [hc] at hb;cases hb
 | true=>
  rw [hc,cond_true] at hb
  have hok:(b8 (fW h (cR b))).2=true:=by
   simp only [Bool.and_eq_true] at hc;exact hc.1
  obtain ⟨hm,_⟩:=gZ hok
  obtain ⟨u,rfl,h1,h2⟩:=P0 h _ _ _ _ hb
  refine ⟨u,rfl,?_⟩
  cases e:ft (b8 (fW h (cR (u++r)))).1 with
  | false=>
   have hd:=(na _ hm).1 e
   have key:∀ d,b8 (fW h d)=b8 (fW h (cR (u++r))):=fun d=>sx hok hd
   refine ⟨fun o=>?_,fun m hlt=>?_⟩
   ·unfold kf;rw [key (cR (u++o)),hc];exact h1 o
   ·unfold kf;rw [key (cR (u.take m)),hc];exact h2 m hlt
  | true=>
   have hu:0 < u.length:=by
    have ht:fj (lr h (b8 (fW h (cR (u++r)))).1) 1 100:=by
     obtain ⟨_,hi⟩:=nc _ hm
     unfold lr;rw [e]
     exact (gR (Hn h _) fun _=>gR (FG _) fun _=>fP _).mono (by omega) (by omega)
    have:=(ht _ _ _ hb).1
    simp at this;omega
   refine ⟨fun o=>?_,fun m hlt=>?_⟩
   ·unfold kf;rw [JF hu o r,hc];exact h1 o
   ·cases m with
    | zero=>
     rw [List.take_zero]
     unfold kf
     cases hc0:((b8 (fW h (cR []))).2&&!(kg (b8 (fW h (cR []))).1&&ae (av .u8 h.2.2.1 8) 0)) with
     | false=>rfl
     | true=>
      rw [cond_true]
      have hok0:(b8 (fW h (cR []))).2=true:=by
       simp only [Bool.and_eq_true] at hc0;exact hc0.1
      obtain ⟨hm0,_⟩:=gZ hok0
      cases e0:ft (b8 (fW h (cR []))).1 with
      | false=>
       have:=sx (d':=cR (u++r)) hok0 ((na _ hm0).1 e0)
       rw [this,e0] at e;cases e
      | true=>
       unfold lr;rw [e0]
       rfl
    | succ m=>
     have hd:cR (u.take (m+1))=cR (u++r):=by
      cases u with
      | nil=>cases hu
      | cons c u=>rfl
     unfold kf;rw [hd,hc];exact h2 (m+1) hlt
theorem QK (h:DH):fj (kf h) 0 10:=by
 intro b a r hb
 unfold kf at hb
 cases hc:((b8 (fW h (cR b))).2&&!(kg (b8 (fW h (cR b))).1&&ae (av .u8 h.2.2.1 8) 0)) with
 | false=>rw [hc] at hb;cases hb
 | true=>
  rw [hc,cond_true] at hb
  have hok:(b8 (fW h (cR b))).2=true:=by
   simp only [Bool.and_eq_true] at hc;exact hc.1
  exact PZ h (gZ hok).1 _ _ _ hb
theorem T6:dT oa:=jN Eu QL
theorem T5:fj oa 1 15:=gR Pm QK
end
end Go.aA.dE
end
section
namespace Go.aA.dE
open Go.aA.RV
open Go.aA
noncomputable section
theorem A5 {a b:List Int} (ha:a.length≤1000) (hb:b.length≤1000):eG .i64 (a.length:Int) (b.length:Int)=(a.length:Int) - b.length:=by rw [om]<;>omega
theorem I7 {b:List Int} {a:nC} {r:List Int} (hl:b.length≤1000) (h:oa b=some (a,r)):
  ∃ u,b=u++r∧1≤u.length∧u.length≤15∧xI b=(Pv (u.length:Int) a,0)∧(∀ o,oa (u++o)=some (a,o))∧∀ m,m < u.length→oa (u.take m)=none:=by
 obtain ⟨u,rfl,h1,h2⟩:=T6 _ _ _ h
 have ht:=T5 _ _ _ h
 rw [List.length_append] at ht hl
 refine ⟨u,rfl,by omega,by omega,?_,h1,h2⟩
 unfold xI CU
 rw [h]
 simp only
 rw [A5 (by rw [List.length_append];omega) (by omega),List.length_append]
 congr 2
 omega
theorem I8 {b:List Int} (h:oa b=none):xI b=(zI,80):=by unfold xI CU;rw [h]
theorem M7 {u o:List Int} {a:nC} (hl:(u++o).length≤1000) (h:oa (u++o)=some (a,o)):xI (u++o)=(Pv (u.length:Int) a,0):=by
 unfold xI CU
 rw [h]
 simp only
 rw [A5 hl (by rw [List.length_append] at hl;omega),List.length_append]
 congr 2
 omega
def Ys (b:List Int):Bool:=b.all NA
theorem RS {b:List Int} (h:Ys b=true):dt b:=fun c hc=>by
 have:=List.all_eq_true.1 h c hc
 simpa [NA,fX] using this
end
end Go.aA.dE
end
section
namespace Go.aA.dE
open Go.aA.RV
open Go.aA
noncomputable section
theorem RR {b:List Int} (h:∀ x∈b,TC.wf (.int .u8) x):dt b:=fun c hc=>by
 have:=h c hc
 simp only [TC.wf,Lit.wf] at this
 have e1:IntKind.u8.min=0:=rfl
 have e2:IntKind.u8.max=255:=rfl
 have:IntKind.u8.min≤c∧c≤IntKind.u8.max:=by simpa using this
 rw [e1,e2] at this
 exact ⟨this.1,by omega⟩
section
variable {x:List Int×List Int}
end
section
variable {x:List Int}
end
end
end Go.aA.dE
end
section
namespace Go.aA.dE
open Go.aA.RV
open Go.aA
def wd (n:Int):Nat:=if n < 1 then 1 else if n > 8 then 8 else n.toNat
theorem mM (n:Int):1≤wd n∧wd n≤8:=by unfold wd;split<;>(try split)<;>omega
theorem Gh (n:Int):sA n=(wd n:Int):=by
 change xN (imax n 1) 8=_
 unfold xN imax wd
 split<;>split<;>(try split)<;>(try split)<;>omega
theorem uY (n:Int):wd n=1∨wd n=2∨wd n=3∨wd n=4∨wd n=5∨wd n=6∨wd n=7∨wd n=8:=by
 have:=mM n;omega
def cut (a:Nat) (n:Int):Nat:=a % 2 ^ (8 * wd n)
theorem ky {x:Int} (h1 : -9223372036854775808≤x) (h2:x < 9223372036854775808):IntKind.wrap .i64 x=x:=by
 rw [wrap_i64];omega
def sg (a:Nat) (n:Int):Bool:=decide (a / 2 ^ (8 * wd n - 1) % 2=1)
theorem Se (n:Int):2 ^ (8 * wd n)≤18446744073709551616:=by
 rcases uY n with h | h | h | h | h | h | h | h<;>rw [h]<;>decide
theorem Vv (a:Nat) (n:Int):cut a n < 2 ^ (8 * wd n):=Nat.mod_lt _ (Nat.pow_pos (by decide))
theorem Qq (b:Nat):av .u64 (b:Int) 1=((b % 2:Nat):Int):=by
 have e1:av .u64 (b:Int) 1=IntKind.wrap .u64 ((BitVec.ofInt 64 (b:Int) &&& BitVec.ofInt 64 ((1:Nat):Int)).toNat:Nat):=rfl
 rw [e1,BitVec.toNat_and,fS (b:=64) (a:=1) (by decide),BitVec.ofInt_natCast,BitVec.toNat_ofNat,Nat.and_one_is_mod,wrap_u64]
 have:b % 2 ^ 64 % 2=b % 2:=Nat.mod_mod_of_dvd _ (by decide)
 rw [this];omega
theorem Ld (a:Nat) (w:Int):sg a w=a.testBit (8 * wd w - 1):=by
 rw [Nat.testBit_eq_decide_div_mod_eq];rfl
def ext (a:Nat) (n:Int):Nat:=if sg a n=true then cut a n+(18446744073709551616 - 2 ^ (8 * wd n)) else cut a n
theorem JL (n:Int):eG .i64 64 (cX .i64 8 (sA n))=((64 - 8 * wd n:Nat):Int):=by
 have h:=mM n
 rw [Gh]
 have e:cX .i64 8 ((wd n:Nat):Int)=((8 * wd n:Nat):Int):=by unfold cX;rw [ky (by omega) (by omega)];omega
 rw [e];unfold eG;rw [ky (by omega) (by omega)];omega
theorem Nz {x:Int} {k:Nat} (hk:k < 64):a9 .i64 x k=x / 2 ^ k:=by
 have e:min k 64=k:=by omega
 simp only [a9,IntKind.bits,Int.toNat_natCast,e]
 exact Int.fdiv_eq_ediv_of_nonneg _ (Int.le_of_lt (Int.pow_pos (by decide)))
theorem Oe (a:Nat) (n:Int):ta ((a:Int),n)=(ext a n:Int):=by
 have hw:=mM n
 change af .u64 (a9 .i64 (af .i64 (b7 .u64 (a:Int) (eG .i64 64 (cX .i64 8 (sA n))))) (eG .i64 64 (cX .i64 8 (sA n))))=_
 rw [JL,DD (by omega),Nz (by omega)]
 unfold af ext sg cut
 rw [wrap_i64,wrap_u64]
 rcases uY n with h | h | h | h | h | h | h | h<;>rw [h]<;>simp only [Nat.reduceMul,Nat.reduceSub,Nat.reducePow,Int.reducePow,Nat.mul_one,Nat.sub_self,Nat.pow_zero,Int.pow_zero,decide_eq_true_eq]<;>split<;>omega
theorem vH (n:Int):AN n:=trivial
theorem Ll (n:Int):ti n=(wd n:Int):=Gh n
theorem LB (n:Int):cX .i64 8 (ti n)=((8 * wd n:Nat):Int):=by
 have h:=mM n
 rw [Ll]
 unfold cX;rw [ky (by omega) (by omega)];omega
theorem Gi {i:Nat} (h:i < 64):af .u64 (i:Int)=(i:Int):=by unfold af;rw [wrap_u64];omega
theorem Nj {i:Nat} (h:i < 9223372036854775807):aJ .i64 (i:Int) 1=((i+1:Nat):Int):=by unfold aJ;rw [ky (by omega) (by omega)];omega
theorem CM {i:Nat} (h:i < 64):2 ^ i < 18446744073709551616:=Nat.lt_of_lt_of_eq (Nat.pow_lt_pow_right (by decide) h) rfl
theorem Ql {i:Nat} (h:i < 64):b7 .u64 1 (i:Int)=((2 ^ i:Nat):Int):=by
 have:=DD (a:=1) h
 rw [Nat.one_mul,Nat.mod_eq_of_lt (CM h)] at this
 exact this
theorem T3 {b i:Nat} (hb:b < 2 ^ i):b ||| 2 ^ i=b+2 ^ i:=by
 have:=Nat.two_pow_add_eq_or_of_lt hb 1
 rw [Nat.mul_one] at this
 rw [Nat.or_comm,← this];omega
theorem vN (n:Int):Ends (nQ n) ((2 ^ (8 * wd n) - 1:Nat):Int) (zg n):=by
 have hw:=mM n
 have go:∀ (d i:Nat),8 * wd n=i+d→Ends (nQ n) ((2 ^ (8 * wd n) - 1:Nat):Int) (nQ n (.h0 ((2 ^ i - 1:Nat):Int) (i:Int))):=by
  intro d
  induction d with
  | zero=>
   intro i hi
   have hc:bd (i:Int) ((8 * wd n:Nat):Int)=false:=by simp [bd];omega
   simp only [nQ,LB,hc]
   refine .aa _ _ (vH n) (.no _ _ ?_)
   rw [show 8 * wd n=i by omega]
   exact .ret
  | succ d ih=>
   intro i hi
   have hc:bd (i:Int) ((8 * wd n:Nat):Int)=true:=by simp [bd];omega
   have hp:0 < 2 ^ i:=Nat.pow_pos (by decide)
   have e:dp .u64 ((2 ^ i - 1:Nat):Int) (b7 .u64 1 (i:Int))=((2 ^ (i+1) - 1:Nat):Int):=by
    have h64:=CM (i:=i) (by omega)
    rw [Ql (by omega),uJ (by omega) h64,T3 (by omega),Nat.pow_succ]
    congr 1;omega
   simp only [nQ,LB,hc,Gi (i:=i) (by omega),e,Nj (i:=i) (by omega)]
   exact .aa _ _ (vH n) (.yes _ _ (.aa _ _ (by omega) (.jump _ (ih (i+1) (by omega)))))
 have:=go (8 * wd n) 0 (by omega)
 exact .jump _ (by simpa using this)
theorem Ci (n:Int):G7 n:=⟨_,vN n⟩
theorem Cj (n:Int):NO n=((2 ^ (8 * wd n) - 1:Nat):Int):=bT (vN n)
theorem GV (x n:Int):Mj (x,n):=⟨Ci n,trivial⟩
theorem P6 {a:Nat} (ha:a < 18446744073709551616) (n:Int):NP ((a:Int),n)=(cut a n:Int):=by
 change av .u64 a (NO n)=_
 have hm:2 ^ (8 * wd n) - 1 < 18446744073709551616:=by
  have:=Se n
  have:0 < 2 ^ (8 * wd n):=Nat.pow_pos (by decide)
  omega
 rw [Cj,NG ha hm,Nat.and_two_pow_sub_one_eq_mod]
 rfl
theorem vK (n:Int):af .u64 (eG .i64 (cX .i64 8 (ti n)) 1)=((8 * wd n - 1:Nat):Int):=by
 have h:=mM n
 rw [LB]
 unfold eG af
 rw [ky (by omega) (by omega),wrap_u64];omega
theorem Cg (x n:Int):Mi (x,n):=by
 refine ⟨vH n,?_,trivial⟩
 change (0:Int)≤af .u64 (eG .i64 (cX .i64 8 (ti n)) 1)
 rw [vK];omega
theorem Ln (a:Nat) (n:Int):UP ((a:Int),n)=sg a n:=by
 have h:=mM n
 change ae (av .u64 (a9 .u64 (a:Int) (af .u64 (eG .i64 (cX .i64 8 (ti n)) 1))) 1) 1=_
 rw [vK,Nx (by omega),Qq]
 unfold sg ae
 generalize a / 2 ^ (8 * wd n - 1)=b
 by_cases hb:b % 2=1
 ·simp [hb]
 ·have:b % 2=0:=by omega
  simp [this]
theorem TA (a:Nat) (n:Int):sg (cut a n) n=sg a n:=by
 have:=mM n
 unfold cut
 rw [Ld,Ld,Nat.testBit_mod_two_pow,decide_eq_true (show 8 * wd n - 1 < 8 * wd n by omega)];rfl
theorem Jk (w:Int):Uj .u64 ((2 ^ (8 * wd w) - 1:Nat):Int)=((18446744073709551616 - 2 ^ (8 * wd w):Nat):Int):=by
 rcases uY w with h | h | h | h | h | h | h | h<;>rw [h]<;>decide +kernel
theorem PY {a:Nat} (ha:a < 18446744073709551616) (w:Int):CJ ((a:Int),w)∧NU ((a:Int),w)=(ext a w:Int):=by
 have hw:=mM w
 have hc:=Vv a w
 have hp:=Se w
 unfold CJ NU zV Tr.ok
 simp only [P6 ha,Ln,TA,Cj,Jk,Tr.wp,Tr.val]
 unfold ext
 cases hs:sg a w with
 | false=>exact ⟨⟨GV _ _,Cg _ _,trivial⟩,rfl⟩
 | true=>
  refine ⟨⟨GV _ _,Cg _ _,Ci _,trivial⟩,?_⟩
  simp only [cond_true,if_true]
  have e:18446744073709551616 - 2 ^ (8 * wd w)=2 ^ (8 * wd w) * (2 ^ (64 - 8 * wd w) - 1):=by
   rw [Nat.mul_sub,← Nat.pow_add,show 8 * wd w+(64 - 8 * wd w)=64 by omega,Nat.mul_one]
  have hpos:0 < 2 ^ (8 * wd w):=Nat.pow_pos (by decide)
  rw [uJ (by omega) (by omega),e,Nat.or_comm,← Nat.two_pow_add_eq_or_of_lt hc]
  congr 1;omega
end Go.aA.dE
end
section
namespace Go.aA.dE
open Go.aA.RV
open Go.aA
noncomputable section
theorem Ms:G9 ():=by
 unfold G9 zk;simp only [dD,dc];simp
theorem Mr:CB ():=by
 unfold CB zi;simp only [dD,dc];simp
theorem Mq:x9 ():=by
 unfold x9 zh;simp only [dD,dc];simp
theorem XY:(DS ()).length=51:=by rw [QS];rfl
theorem XX:(Bh ()).length=71:=by rw [QR];rfl
theorem XW:(xP ()).length=9:=by rw [QQ];rfl
theorem MF (x):He x:=by
 unfold He zW
 simp only [dD,dc,dO,Ms,Mr,Mq,XY,XX,XW]
 simp [bd]
theorem NV (x):Vl x=fy:=by
 cases x
 kernel_rfl
theorem Js:fy.length=139:=rfl
end
end Go.aA.dE
end
section
namespace Go.aA.dE
open Go.aA.RV
open Go.aA
noncomputable section
theorem ab1 {i:Nat} (h:i < 1000):cX .i64 8 (i:Int)=((8 * i:Nat):Int):=by
 unfold cX;rw [ky (by omega) (by omega)];omega
theorem Nf (x:List Int) (hl:x.length≤8):∀ (m i:Nat),i+m=x.length→∀ v0,Ends (nR x) (JU x m i v0) (nR x (.h0 v0 i)):=by
 intro m
 induction m with
 | zero=>
  intro i hi v0
  simp only [nR]
  simp only [qT (show x.length≤i by omega),eI,eR]
  exact ⟨(fun h=>by cases h),fun _=>rfl⟩
 | succ m ih=>
  intro i hi v0
  have hr:=ih (i+1) (by omega) (dp .u64 v0 (b7 .u64 (af .u64 (eX (.int .u8) x i)) ((8 * i:Nat):Int)))
  have e8:bd (i:Int) 8=true:=by rw [a6];omega
  have e2:af .u64 ((8 * i:Nat):Int)=((8 * i:Nat):Int):=Gi (by omega)
  simp only [nR]
  simp only [iP (show i < x.length by omega),e8,eI,eN,eJ,Int.toNat_natCast,gL i (by omega),ab1 (show i < 1000 by omega),e2]
  exact ⟨fun _=>⟨fun _=>⟨by omega,by omega,by omega,hr⟩,(fun h=>by cases h)⟩,(fun h=>by cases h)⟩
theorem wz {d:List Int} (hl:d.length≤8):Ends (nR d) (wv d) (vi d):=by
 unfold vi
 simp only [eJ]
 exact Nf d hl _ 0 (Nat.zero_add _) 0
theorem MA {d:List Int} (hl:d.length≤8):MB d:=⟨_,wz hl⟩
theorem Q1 {d:List Int} (hl:d.length≤8):Q2 d=wv d:=bT (wz hl)
theorem Qw (x y:Int):∃ a:Nat,a < 18446744073709551616∧dp .u64 x y=(a:Int):=by
 have e:dp .u64 x y=IntKind.wrap .u64 ((BitVec.ofInt 64 x ||| BitVec.ofInt 64 y).toNat:Nat):=rfl
 rw [e,wrap_u64]
 refine ⟨(BitVec.ofInt 64 x ||| BitVec.ofInt 64 y).toNat % 18446744073709551616,Nat.mod_lt _ (by decide),by omega⟩
theorem Ev (d:List Int):∀ (m i:Nat) (v:Int),(∃ a:Nat,a < 18446744073709551616∧v=(a:Int))→∃ a:Nat,a < 18446744073709551616∧JU d m i v=(a:Int)
 | 0,_,_,h=>h
 | m+1,i,_,_=>Ev d m (i+1) _ (Qw _ _)
theorem Nd (d:List Int):∃ a:Nat,a < 18446744073709551616∧wv d=(a:Int):=Ev d _ _ _ ⟨0,by decide,rfl⟩
theorem Q0 (x:Int):Jy x=(bK 16 x&&bK x 20):=by
 have hr:Jy x=true↔x=16∨x=17∨x=18∨x=19∨x=20:=by
  unfold Jy vh
  simp only [bA,bx]
  by_cases h1:x=19<;>by_cases h2:x=20<;>by_cases h3:x=16<;>by_cases h4:x=17<;>simp [ae,h1,h2,h3,h4]<;>omega
 cases h:Jy x with
 | true=>
  have:=hr.1 h
  symm
  simp only [Bool.and_eq_true,aQ]
  omega
 | false=>
  symm
  rw [Bool.and_eq_false_iff,gX,gX]
  by_cases h5:x < 16
  ·exact .inl h5
  ·right
   by_cases h6:20 < x
   ·exact h6
   ·exact absurd (hr.2 (by omega)) (by rw [h];decide)
theorem Mz (x):Hc x:=by
 unfold Hc vh;simp only [dO,dc];simp
theorem JM {f:DF} (hi:0≤b9 f∧b9 f≤8) {b:List Int} (hb:(b9 f).toNat≤b.length):Hi (f,b)∧Rb (f,b)=ff f (b.take (b9 f).toNat):=by
 have hl:(b.take (b9 f).toNat).length≤8:=by simp;omega
 have e1:=Q1 hl
 have e2:=NL hl
 obtain ⟨a,ha,hn⟩:=Nd (b.take (b9 f).toNat)
 have hr:∀ w,CJ (wv (b.take (b9 f).toNat),w)∧NU (wv (b.take (b9 f).toNat),w)=(ext a w:Int):=fun w=>by rw [hn];exact PY ha w
 have hx:ta (wv (b.take (b9 f).toNat),b9 f)=(ext a (b9 f):Int):=by rw [hn];exact Oe a _
 have hz:b9 f=0→a=0:=by
  intro h0
  rw [h0] at hn
  have:(0:Int)=(a:Int):=hn
  omega
 have hm:b9 f≠0→imax (b9 f) 1=b9 f:=by
  intro h0;unfold imax;split<;>omega
 constructor
 ·unfold Hi vu
  simp only [dD,dO,dc,List.drop_zero,Nat.sub_zero,e1]
  exact ⟨hi.1,by omega,hb,MA hl,Mz _,fun _=>trivial,fun _=>⟨(hr _).1,trivial⟩⟩
 ·unfold Rb vu
  simp only [bS,bA,bx,List.drop_zero,Nat.sub_zero,e1,Q0]
  unfold ff
  rw [e2,hx]
  rw [(hr (imax (b9 f) 1)).2]
  cases h0:ae (b9 f) 0 with
  | true=>
   have h0:=ag.1 h0
   have ha0:=hz h0
   rw [h0,cond_true]
   have e3:wv (b.take (0:Int).toNat)=0:=by
    rw [h0] at hn;rw [hn,ha0];rfl
   rw [e3,ha0]
   cases (bK 16 (il f)&&bK (il f) 20)<;>rfl
  | false=>
   rw [cond_false,hm (bf.1 h0)]
end
end Go.aA.dE
end
section
namespace Go.aA.dE
open Go.aA.RV
open Go.aA
noncomputable section
theorem sv {x:Int} {c:Nat} (h1 : -1099511627776≤x) (h2:x < 1099511627776) (hc:c < 256):dp .i64 (b7 .i64 x 8) (c:Int)=x * 256+c:=by
 have e0:b7 .i64 x 8=x * 256:=by
  have:b7 .i64 x 8=IntKind.wrap .i64 (x * 256):=rfl
  rw [this,wrap_i64];omega
 rw [e0]
 have e:dp .i64 (x * 256) (c:Int)=IntKind.wrap .i64 ((BitVec.ofInt 64 (x * 256) ||| BitVec.ofInt 64 (c:Int)).toNat:Nat):=rfl
 obtain ⟨k,hk,hkl⟩:∃ k:Nat,(x * 256) % 18446744073709551616=((256 * k:Nat):Int)∧k < 72057594037927936:=by
  refine ⟨((x * 256) % 18446744073709551616 / 256).toNat,?_,?_⟩<;>omega
 have e1:(BitVec.ofInt 64 (x * 256)).toNat=256 * k:=by
  rw [BitVec.toNat_ofInt]
  have:(x * 256) % ((2:Nat) ^ 64:Nat)=((256 * k:Nat):Int):=hk
  rw [this,Int.toNat_natCast]
 have e2:(BitVec.ofInt 64 (c:Int)).toNat=c:=fS (by omega)
 have e3:256 * k ||| c=256 * k+c:=(Nat.two_pow_add_eq_or_of_lt (i:=8) hc k).symm
 rw [e,BitVec.toNat_or,e1,e2,e3,wrap_i64]
 omega
theorem F5 {c:Nat} (hc:c < 256):af .i64 (c:Int)=(c:Int):=by unfold af;rw [wrap_i64];omega
theorem Lh {c:Nat} (hc:c < 256):af .i64 (af .i8 (c:Int))=(c:Int) - (if 128≤c then 256 else 0):=by
 have e:af .i8 (c:Int)=((c:Int)+128) % 256 - 128:=by
  simp only [af,IntKind.wrap,IntKind.signed,IntKind.bits];simp;omega
 rw [e]
 unfold af
 rw [wrap_i64]
 split<;>omega
theorem ib {a c i:Nat} (hi:i≤24) (ha:a < 2 ^ i) (hc:c < 256):dp .u32 (a:Int) (b7 .u32 (af .u32 (c:Int)) (i:Int))=((a+c * 2 ^ i:Nat):Int):=by
 have hp:2 ^ i≤16777216:=Nat.pow_le_pow_right (by decide) hi
 have hm:c * 2 ^ i≤255 * 16777216:=Nat.mul_le_mul (by omega) hp
 have hpos:0 < 2 ^ i:=Nat.pow_pos (by decide)
 have w32:∀ n:Int,IntKind.wrap .u32 n=n % 4294967296:=fun n=>by simp [IntKind.wrap,IntKind.signed,IntKind.bits]
 have e0:af .u32 (c:Int)=(c:Int):=by unfold af;rw [w32];omega
 have e1:b7 .u32 (c:Int) (i:Int)=((c * 2 ^ i:Nat):Int):=by
  have hmin:min i 32=i:=by omega
  simp only [b7,IntKind.bits,Int.toNat_natCast,hmin,w32]
  have:(c:Int) * 2 ^ i=((c * 2 ^ i:Nat):Int):=by push_cast;rfl
  rw [this];omega
 rw [e0,e1]
 have e:dp .u32 (a:Int) ((c * 2 ^ i:Nat):Int)=IntKind.wrap .u32 ((BitVec.ofInt 32 (a:Int) ||| BitVec.ofInt 32 ((c * 2 ^ i:Nat):Int)).toNat:Nat):=rfl
 have h1:=fS (b:=32) (a:=a) (by omega)
 have h2:=fS (b:=32) (a:=c * 2 ^ i) (by omega)
 have h3:a ||| c * 2 ^ i=a+c * 2 ^ i:=by
  rw [Nat.or_comm,Nat.mul_comm,← Nat.two_pow_add_eq_or_of_lt ha];omega
 rw [e,BitVec.toNat_or,h1,h2,h3,w32]
 omega
theorem SR {n:Nat} (h:n < 4294967296):af .i64 (af .i32 (n:Int))=(n:Int) - (if 2147483648≤n then 4294967296 else 0):=by
 have e32:af .i32 (n:Int)=((n:Int)+2147483648) % 4294967296 - 2147483648:=by
  simp only [af,IntKind.wrap,IntKind.signed,IntKind.bits];simp;omega
 rw [e32]
 unfold af
 rw [wrap_i64]
 split<;>omega
def oC (w:Int) (d:List Int):Int:=cond (ae w 1) (af .i64 (af .i8 (eX (.int .u8) d 0)))
 (af .i64 (af .i32 (dp .u32 (dp .u32 (dp .u32 (dp .u32 0 (b7 .u32 (af .u32 (eX (.int .u8) d 0)) 0)) (b7 .u32 (af .u32 (eX (.int .u8) d 1)) 8)) (b7 .u32 (af .u32 (eX (.int .u8) d 2)) 16)) (b7 .u32 (af .u32 (eX (.int .u8) d 3)) 24))))
theorem mw {w:Int} (hw:w=1∨w=4) {d:List Int} (hd:d.length=w.toNat) (hB:dt d) (o:DO):tu w d d.length o=gz o (oC w d):=by
 have nat:∀ {c:Int},fX c→∃ n:Nat,n < 256∧c=(n:Int):=fun {c} h=>⟨c.toNat,by obtain ⟨a,b⟩:=h;omega,by obtain ⟨a,b⟩:=h;omega⟩
 rcases hw with rfl | rfl
 ·match d,hd with
  | [c],_=>rfl
 ·match d,hd with
  | [c0,c1,c2,c3],_=>
   obtain ⟨n0,l0,rfl⟩:=nat (hB c0 (by simp))
   obtain ⟨n1,l1,rfl⟩:=nat (hB c1 (by simp))
   obtain ⟨n2,l2,rfl⟩:=nat (hB c2 (by simp))
   obtain ⟨n3,l3,rfl⟩:=nat (hB c3 (by simp))
   have e1:tu 4 [(n0:Int),n1,n2,n3] ([(n0:Int),n1,n2,n3]:List Int).length o=
     gz o (dp .i64 (b7 .i64 (dp .i64 (b7 .i64 (dp .i64 (b7 .i64 (af .i64 (af .i8 (n3:Int))) 8) (af .i64 (n2:Int))) 8) (af .i64 (n1:Int))) 8) (af .i64 (n0:Int))):=rfl
   have e2:oC 4 [(n0:Int),n1,n2,n3]=af .i64 (af .i32 (dp .u32 (dp .u32 (dp .u32 (dp .u32 ((0:Nat):Int) (b7 .u32 (af .u32 (n0:Int)) ((0:Nat):Int))) (b7 .u32 (af .u32 (n1:Int)) ((8:Nat):Int))) (b7 .u32 (af .u32 (n2:Int)) ((16:Nat):Int))) (b7 .u32 (af .u32 (n3:Int)) ((24:Nat):Int)))):=rfl
   rw [e1,e2]
   congr 1
   rw [ib (i:=0) (by omega) (by omega) l0,ib (i:=8) (by omega) (by omega) l1,ib (i:=16) (by omega) (by omega) l2,ib (i:=24) (by omega) (by omega) l3]
   rw [Lh l3,F5 l2,F5 l1,F5 l0]
   have hs : -128≤(n3:Int) - (if 128≤n3 then 256 else 0)∧(n3:Int) - (if 128≤n3 then 256 else 0) < 128:=by split<;>omega
   rw [sv (by omega) (by omega) l2,sv (by omega) (by omega) l1,sv (by omega) (by omega) l0]
   rw [SR (by omega)]
   have hc:(2147483648≤n0+n1 * 256+n2 * 65536+n3 * 16777216)↔128≤n3:=by omega
   simp only [Nat.reducePow,Nat.zero_add,Nat.mul_one,hc]
   by_cases h128:128≤n3
   ·rw [if_pos h128,if_pos h128];omega
   ·rw [if_neg h128,if_neg h128];omega
theorem s4 {b:List Int} {w:Int} (hw:w=1∨w=4) (hl:b.length≤1000):
  Ends (mO (b,w)) (cond (bd b.length w) (0,false) (oC w (b.take w.toNat),true)) (u3 (b,w)):=by
 unfold u3
 simp only [eI,eN,eR,eJ]
 rcases hw with rfl | rfl
 ·refine ⟨fun e=>(by rw [e];rfl),fun e=>⟨fun _=>?_,fun h=>by cases h⟩⟩
  rw [e]
  rw [b5] at e
  match b,e with
  | c :: b,_=>exact ⟨by omega,by simp only [List.length_cons];omega,rfl⟩
  | [],e=>simp at e
 ·refine ⟨fun e=>(by rw [e];rfl),fun e=>⟨fun h=>(by cases h),fun _=>?_⟩⟩
  rw [e]
  rw [b5] at e
  match b,e with
  | c0 :: c1 :: c2 :: c3 :: b,_=>
   simp only [mO]
   simp only [show bd 0 4=true from rfl,eI,eN,eJ]
   refine ⟨fun _=>⟨by omega,by simp only [List.length_cons];omega,by decide,?_⟩,fun h=>by cases h⟩
   simp only [mO]
   simp only [show aJ .i64 0 1=1 from rfl,show bd 1 4=true from rfl,eI,eN,eJ]
   refine ⟨fun _=>⟨by omega,by simp only [List.length_cons];omega,by decide,?_⟩,fun h=>by cases h⟩
   simp only [mO]
   simp only [show aJ .i64 1 1=2 from rfl,show bd 2 4=true from rfl,eI,eN,eJ]
   refine ⟨fun _=>⟨by omega,by simp only [List.length_cons];omega,by decide,?_⟩,fun h=>by cases h⟩
   simp only [mO]
   simp only [show aJ .i64 2 1=3 from rfl,show bd 3 4=true from rfl,eI,eN,eJ]
   refine ⟨fun _=>⟨by omega,by simp only [List.length_cons];omega,by decide,?_⟩,fun h=>by cases h⟩
   simp only [mO]
   simp only [show aJ .i64 3 1=4 from rfl,show bd 4 4=false from rfl,eI,eR]
   exact ⟨fun h=>(by cases h),fun _=>rfl⟩
  | [],e=>simp at e
  | [_],e=>simp at e
  | [_,_],e=>simp at e
  | [_,_,_],e=>simp at e
theorem Mk {b:List Int} {w:Int} (hw:w=1∨w=4) (hl:b.length≤1000):Ml (b,w):=⟨_,s4 hw hl⟩
theorem QM {b:List Int} {w:Int} (hw:w=1∨w=4) (hl:b.length≤1000):UQ (b,w)=cond (bd b.length w) (0,false) (oC w (b.take w.toNat),true):=bT (s4 hw hl)
end
end Go.aA.dE
end
section
namespace Go.aA.dE
open Go.aA.RV
open Go.aA
noncomputable section
theorem Y4 (x:Int):a9 .u8 x 0=x:=by
 have:a9 .u8 x 0=x.fdiv 1:=rfl
 rw [this];simp
theorem Nq (rex c:Int):aJ .i64 (af .i64 (av .u8 c 7)) (cX .i64 (af .i64 (av .u8 rex 1)) 8)=bJ rex c:=by
 have:hJ (0,rex)=cX .i64 (af .i64 (av .u8 (a9 .u8 rex 0) 1)) 8:=rfl
 unfold bJ
 rw [this,Y4]
theorem we (x):sX x:=trivial
theorem Mm (x):Mn x:=trivial
section
variable {rex:Int} {b:List Int} (hl:b.length≤1000) (hB:dt b)
include hl hB
theorem Lm {used w:Nat} (o:DO) (aY:Int) (hw:w=0∨w=1∨w=4) (hu:used≤2) (hub:used≤b.length):
  Ends (eM (b,rex)) (nO b (dM aY w o (b.drop used))) (eM (b,rex) (.h5 aY used w o)):=by
 have e:aJ .i64 (used:Int) (w:Int)=((used+w:Nat):Int):=by rw [dQ]<;>omega
 have h8:∀ o',Ends (eM (b,rex)) (aY,(o',(((used+w:Nat):Int),0))) (eM (b,rex) (.h8 aY used w o')):=fun o'=>by
  simp only [eM]
  simp only [e,eR]
 simp only [eM]
 rw [eI]
 unfold dM hY
 simp only [Int.toNat_natCast,List.length_drop]
 refine ⟨fun h=>?_,fun h=>?_⟩
 ·have hw':(w:Int)=1∨(w:Int)=4:=by rw [a6] at h;omega
  have hl':(b.drop used).length≤1000:=by simp;omega
  simp only [eN,eI,eJ,eR]
  rw [QM hw' hl']
  refine ⟨by omega,by omega,Mk hw' hl',?_⟩
  cases hc:bd ((b.drop used).length:Int) (w:Int) with
  | true=>
   rw [a6,List.length_drop] at hc
   rw [if_neg (by omega)]
   exact ⟨fun _=>rfl,fun h=>by cases h⟩
  | false=>
   rw [b5,List.length_drop] at hc
   rw [if_pos (by omega)]
   refine ⟨(fun h=>by cases h),fun _=>?_⟩
   simp only [eM]
   simp only [eJ]
   have hdl:((b.drop used).take w).length=w:=by simp;omega
   have hd:=mw (w:=(w:Int)) hw' (d:=(b.drop used).take w) (by rw [hdl];simp) ((hB.drop _).take _) o
   have hlen:(b.length:Int) - ((b.drop used).drop w).length=((used+w:Nat):Int):=by simp;omega
   unfold nO ld
   simp only
   rw [hd,hlen]
   exact h8 _
 ·have hw0:w=0:=by rw [b5] at h;omega
  subst hw0
  simp only [eJ]
  rw [if_pos (by omega)]
  have hlen:(b.length:Int) - ((b.drop used).drop 0).length=((used+0:Nat):Int):=by simp;omega
  unfold nO ld
  simp only
  rw [hlen]
  exact h8 _
theorem vJ:Ends (eM (b,rex)) (nO b (nm rex b)) (vj (b,rex)):=by
 unfold vj
 cases hb:b with
 | nil=>
  simp only [eI,eR,eJ]
  exact ⟨fun _=>rfl,fun h=>by cases h⟩
 | cons c b'=>
  subst hb
  have hm:=Nk (hB c (List.mem_cons_self ..))
  have h5:=fun {used w:Nat} (o:DO) (aY:Int) hw hu hub=>Lm (rex:=rex) hl hB (used:=used) (w:=w) o aY hw hu hub
  have e0:ae (((c :: b').length:Nat):Int) 0=false:=by rw [bf,List.length_cons];omega
  have hlen:0 < (c :: b').length:=by simp
  simp only [eI,eR,eJ]
  refine ⟨fun h=>(by rw [e0] at h;cases h),fun _=>?_⟩
  simp only [eM]
  simp only [eN,qJ]
  refine ⟨by omega,by omega,by omega,by omega,by omega,by omega,by omega,by omega,by omega,?_⟩
  have hlow:=Nq rex c
  rw [eI,hlow]
  refine ⟨fun h3=>?_,fun h3=>?_⟩
  ·simp only [eN,eR]
   refine ⟨we _,?_⟩
   unfold nm gb
   simp only [h3,cond_true]
   rw [ag.1 h3]
   unfold dM hY ld nO
   simp only [show cV 3=0 from rfl,Int.toNat_zero,Nat.zero_le,if_true,List.take_zero,List.drop_zero,List.length_nil,tu]
   have e1:(((c :: b').length:Nat):Int) - (b'.length:Nat)=1:=by rw [List.length_cons];omega
   rw [e1]
   rfl
  ·have hS:nm rex (c :: b')=(cond (ae (af .i64 (av .u8 c 7)) 4) (IL rex (a9 .u8 c 6) (cK rex c) (df (bJ rex c,0)))
     (cond (ae (af .i64 (av .u8 c 7)) 5&&ae (a9 .u8 c 6) 0) (dM (cK rex c) 4 (IT (df (bJ rex c,0)))) (dM (cK rex c) (cV (a9 .u8 c 6)) (df (bJ rex c,0))))) b':=by
    simp only [nm,gb,h3,cond_false]
   have hwid:∃ w:Nat,cV (a9 .u8 c 6)=w∧(w=0∨w=1∨w=4)∧(ae (a9 .u8 c 6) 1=true→w=1)∧(ae (a9 .u8 c 6) 2=true→w=4)∧(ae (a9 .u8 c 6) 1=false→ae (a9 .u8 c 6) 2=false→w=0):=by
    have:a9 .u8 c 6=0∨a9 .u8 c 6=1∨a9 .u8 c 6=2:=by rw [bf] at h3;omega
    rcases this with e | e | e<;>rw [e]
    ·exact ⟨0,rfl,.inl rfl,(fun h=>by cases h),(fun h=>by cases h),fun _ _=>rfl⟩
    ·exact ⟨1,rfl,.inr (.inl rfl),fun _=>rfl,(fun h=>by cases h),fun h=>by cases h⟩
    ·exact ⟨4,rfl,.inr (.inr rfl),(fun h=>by cases h),fun _=>rfl,fun _ h=>by cases h⟩
   obtain ⟨w,hw,hwc,hw1,hw2,hw0⟩:=hwid
   have h3E:Ends (eM (c :: b',rex)) (nO (c :: b') (nm rex (c :: b'))) (eM (c :: b',rex) (.h3 (a9 .u8 c 6) (af .i64 (av .u8 c 7)) (cK rex c) w (QN (bJ rex c,0)))):=by
    rw [hS,hw]
    simp only [eM]
    rw [eI]
    refine ⟨fun h4=>?_,fun h4=>?_⟩
    ·rw [h4,cond_true]
     cases b' with
     | nil=>
      simp only [eI,eR,eJ]
      exact ⟨fun _=>rfl,fun h=>by cases h⟩
     | cons c1 b2=>
      have hm1:=Nk (hB c1 (List.mem_cons_of_mem _ (List.mem_cons_self ..)))
      have hlen2:1 < (c :: c1 :: b2).length:=by simp
      simp only [eI,eR,eJ]
      refine ⟨fun h=>by rw [a6,List.length_cons,List.length_cons] at h;omega,fun _=>?_⟩
      have hgo:∀ o,Ends (eM (c :: c1 :: b2,rex)) (nO (c :: c1 :: b2) ((cond (ae (av .u8 c1 7) 5&&ae (a9 .u8 c 6) 0) (dM (cK rex c) 4 (oO o (-1))) (dM (cK rex c) w o)) b2))
        (eM (c :: c1 :: b2,rex) (.h6 (a9 .u8 c 6) (cK rex c) w o)):=by
       intro o
       simp only [eM]
       simp only [GU,eN,eI,eJ]
       refine ⟨by omega,by omega,fun h5'=>⟨fun h0=>?_,fun h0=>?_⟩,fun h5'=>?_⟩
       ·have h5':ae (av .u8 c1 7) 5=true:=by simpa using h5'
        rw [h5',h0]
        exact h5 (used:=2) (w:=4) _ _ (.inr (.inr rfl)) (by omega) (by omega)
       ·rw [h0,Bool.and_false]
        exact h5 (used:=2) (w:=w) _ _ hwc (by omega) (by omega)
       ·have h5':ae (av .u8 c1 7) 5=false:=by simpa using h5'
        rw [h5']
        exact h5 (used:=2) (w:=w) _ _ hwc (by omega) (by omega)
      have hsib:IL rex (a9 .u8 c 6) (cK rex c) (df (bJ rex c,0)) (c1 :: b2)=(cond (ae (av .u8 c1 7) 5&&ae (a9 .u8 c 6) 0) (dM (cK rex c) 4 (oO (nU rex c1 (df (bJ rex c,0))) (-1))) (dM (cK rex c) w (nU rex c1 (df (bJ rex c,0))))) b2:=by
       unfold IL gb
       rw [hw]
      rw [hsib]
      have hgo:=hgo (nU rex c1 (df (bJ rex c,0)))
      generalize nO (c :: c1 :: b2) ((cond (ae (av .u8 c1 7) 5&&ae (a9 .u8 c 6) 0) (dM (cK rex c) 4 (oO (nU rex c1 (df (bJ rex c,0))) (-1))) (dM (cK rex c) w (nU rex c1 (df (bJ rex c,0))))) b2)=R at hgo ⊢
      have hsc:af .u64 (a9 .u8 c1 6)=a9 .u8 c1 6:=by unfold af;rw [wrap_u64];omega
      have hbase:aJ .i64 (af .i64 (av .u8 c1 7)) (cX .i64 (af .i64 (av .u8 rex 1)) 8)=aJ .i64 (af .i64 (av .u8 c1 7)) (hJ (0,rex)):=Nq rex c1
      unfold nU at hgo
      simp only [eM]
      simp only [GU,eN,hsc,hbase]
      refine ⟨by omega,by omega,by omega,by omega,by omega,by omega,?_⟩
      rw [eI]
      refine ⟨fun hi=>?_,fun hi=>?_⟩
      ·simp only [eN,eJ]
       have hi':cB (oM rex c1) 4=true:=hi
       rw [hi'] at hgo
       exact ⟨by omega,by omega,by omega,hm1.1,hgo⟩
      ·simp only [eJ]
       have hi':cB (oM rex c1) 4=false:=hi
       rw [hi'] at hgo
       exact hgo
    ·rw [h4,cond_false]
     simp only [eI,eJ]
     refine ⟨fun h5'=>⟨fun h0=>?_,fun h0=>?_⟩,fun h5'=>?_⟩
     ·have h5':ae (af .i64 (av .u8 c 7)) 5=true:=by simpa using h5'
      rw [h5',h0]
      exact h5 (used:=1) (w:=4) (IT (df (bJ rex c,0))) _ (.inr (.inr rfl)) (by omega) (by omega)
     ·rw [h0,Bool.and_false]
      exact h5 (used:=1) (w:=w) (df (bJ rex c,0)) _ hwc (by omega) (by omega)
     ·have h5':ae (af .i64 (av .u8 c 7)) 5=false:=by simpa using h5'
      rw [h5']
      exact h5 (used:=1) (w:=w) (df (bJ rex c,0)) _ hwc (by omega) (by omega)
   simp only [eJ]
   simp only [eM]
   simp only [eN,eI,eJ,hlow]
   refine ⟨Mm _,fun h1=>?_,fun h1=>?_⟩
   ·have e2:ae (a9 .u8 c 6) 2=false:=by rw [ag.1 h1];rfl
    have:=hw1 h1
    subst this
    simp only [eM]
    simp only [e2,eI,eJ]
    exact ⟨(fun h=>by cases h),fun _=>h3E⟩
   ·simp only [eM]
    simp only [eI,eJ]
    refine ⟨fun h2=>?_,fun h2=>?_⟩
    ·have:=hw2 h2
     subst this
     exact h3E
    ·have:=hw0 h1 h2
     subst this
     exact h3E
end
theorem MC {rex:Int} {b:List Int} (hl:b.length≤1000) (hB:dt b):MD (b,rex):=⟨_,vJ hl hB⟩
theorem Q3 {rex:Int} {b:List Int} (hl:b.length≤1000) (hB:dt b):Vk (b,rex)=nO b (nm rex b):=bT (vJ hl hB)
end
end Go.aA.dE
end
section
namespace Go.aA.dE
open Go.aA.RV
open Go.aA
noncomputable section
theorem Lv (k:Key) (hk:fX k.2.2.1):∀ (m i:Nat),i+m=fy.length→Ends (nS k) (uM (fy.drop i) k) (nS k (.h0 fy i)):=by
 intro m
 induction m with
 | zero=>
  intro i hi
  rw [List.drop_of_length_le (by omega)]
  simp only [nS]
  simp only [qT (show fy.length≤i by omega),eI,eR]
  exact ⟨(fun h=>by cases h),fun _=>rfl⟩
 | succ m ih=>
  intro i hi
  have hf:=Js
  have hi':i < fy.length:=by omega
  have hb:=FQ _ (List.getElem_mem hi')
  rw [List.drop_eq_getElem_cons hi',Bf]
  simp only [nS]
  simp only [iP hi',eI,eN,eJ,eR,Int.toNat_natCast,LA fy i hi',ME,gL i (by omega)]
  rw [Q4 _ hb hk]
  refine ⟨fun _=>⟨by omega,by omega,trivial,fun h=>⟨by omega,by omega,?_⟩,fun h=>?_⟩,(fun h=>by cases h)⟩
  ·rw [if_pos h]
  ·rw [if_neg (by simp [h])]
   exact ih (i+1) (by omega)
theorem vR (k:Key) (hk:fX k.2.2.1):Ends (nS k) (b8 k) (vy k):=by
 unfold vy
 simp only [eN,eJ,MF,NV]
 exact ⟨trivial,Lv k hk _ 0 (Nat.zero_add _)⟩
theorem MP (k:Key) (hk:fX k.2.2.1):MQ k:=⟨_,vR k hk⟩
theorem Re (k:Key) (hk:fX k.2.2.1):Vn k=b8 k:=bT (vR k hk)
def DM (x:List Int):Option (DH×List Int)→lQ×Bool→Prop
 | some (h,t),r=>r=((h.1,(h.2.1,(h.2.2.1,(h.2.2.2.1,(h.2.2.2.2,(x.length:Int) - t.length))))),true)
 | none,r=>r.2=false
theorem Lw {c:Int} (h:fX c):ae (av .u8 c 240) 64=re c:=by
 have key:(List.range 256).all (fun n=>ae (av .u8 (n:Nat) 240) 64==re (n:Nat))=true:=by decide +kernel
 obtain ⟨h1,h2⟩:=h
 have:=List.all_eq_true.1 key c.toNat (List.mem_range.2 (by omega))
 rw [Int.toNat_of_nonneg h1] at this
 simpa using this
section
variable {x:List Int} (hl:x.length≤1000) (hB:dt x)
include hl hB
theorem rN {n:Nat} {c:Int} {t:List Int} (h:x.drop n=c :: t):n < x.length∧eX (.int .u8) x n=c∧x.drop (n+1)=t∧fX c∧(x.length:Int) - t.length=((n+1:Nat):Int)∧aJ .i64 (n:Int) 1=((n+1:Nat):Int):=by
 have hlen:=congrArg List.length h
 simp only [List.length_drop,List.length_cons] at hlen
 have hn:n < x.length:=by omega
 rw [List.drop_eq_getElem_cons hn] at h
 obtain ⟨h1,h2⟩:=List.cons.inj h
 refine ⟨hn,by rw [iJ (c:=.int .u8) hn];exact h1,h2,h1▸hB _ (List.getElem_mem hn),by omega,gL n (by omega)⟩
theorem uI {n:Nat} (h:x.drop n=[]):x.length≤n:=by
 have hlen:=congrArg List.length h
 simp at hlen;omega
theorem Wj (n:Nat) (p:Int) (rex:Bool) (bits tab:Int):∃ r,Ends (eO x) r (eO x (.h2 p rex bits tab n))∧DM x (gb (fun o=>ld (p,(rex,(bits,(tab,o))))) (x.drop n)) r:=by
 cases hd:x.drop n with
 | nil=>
  have hn:=uI hl hB hd
  refine ⟨((p,(rex,(bits,(tab,(0,(n:Int)))))),false),?_,rfl⟩
  simp only [eO]
  simp only [eI,eR,eJ]
  exact ⟨fun _=>trivial,fun h=>by rw [gX] at h;omega⟩
 | cons c t=>
  obtain ⟨hn,hr,_,_,hlen,hadd⟩:=rN hl hB hd
  refine ⟨((p,(rex,(bits,(tab,(c,((n+1:Nat):Int)))))),true),?_,?_⟩
  ·simp only [eO]
   simp only [eI,eR,eJ]
   refine ⟨fun h=>by rw [aQ] at h;omega,fun _=>?_⟩
   simp only [eO]
   simp only [eN,eR,Int.toNat_natCast,hr,hadd]
   exact ⟨by omega,by omega,trivial⟩
  ·show _=_
   rw [hlen]
theorem Wk (n:Nat) (p:Int) (rex:Bool) (bits:Int):∃ r,Ends (eO x) r (eO x (.h1 p rex bits n))∧DM x (gb (Gc p rex bits) (x.drop n)) r:=by
 have h2:=fun n tab=>Wj hl hB n p rex bits tab
 cases hd:x.drop n with
 | nil=>
  have hn:=uI hl hB hd
  obtain ⟨r,hr,hg⟩:=h2 n 0
  refine ⟨r,?_,by rw [hd] at hg;exact hg⟩
  simp only [eO]
  simp only [eI,eJ]
  exact ⟨fun h=>(by rw [qT hn] at h;cases h),fun _=>hr⟩
 | cons c t=>
  obtain ⟨hn,hr,ht,_,_,hadd⟩:=rN hl hB hd
  cases e15:ae c 15 with
  | false=>
   obtain ⟨r,hr2,hg⟩:=h2 n 0
   refine ⟨r,?_,?_⟩
   ·simp only [eO]
    simp only [eI,eN,eJ,Int.toNat_natCast,hr,e15]
    exact ⟨fun _=>⟨by omega,by omega,(fun h=>by cases h),fun _=>hr2⟩,fun h=>(by rw [iP hn] at h;cases h)⟩
   ·rw [hd] at hg
    simp only [gb,Gc,e15,cond_false]
    exact hg
  | true=>
   have hS:gb (Gc p rex bits) (c :: t)=gb (Iw p rex bits) t:=by simp only [gb,Gc,e15,cond_true]
   rw [hS]
   have go:∀ r,Ends (eO x) r (.ite ((bd ((n+1:Nat):Int) (x.length:Int))==true) (.aa ((0:Int)≤((n+1:Nat):Int)) (.aa (((n+1:Nat):Int) < (x.length:Int)) (.ite (ae (eX (.int .u8) x (n+1)) 56) (.ret (.inl (.h2 p rex bits 2 (aJ .i64 ((n+1:Nat):Int) 1))))
     (.ite ((bd ((n+1:Nat):Int) (x.length:Int))==true) (.aa ((0:Int)≤((n+1:Nat):Int)) (.aa (((n+1:Nat):Int) < (x.length:Int)) (.ite (ae (eX (.int .u8) x (n+1)) 58) (.ret (.inl (.h2 p rex bits 3 (aJ .i64 ((n+1:Nat):Int) 1)))) (.ret (.inl (.h2 p rex bits 1 ((n+1:Nat):Int))))))) (.ret (.inl (.h2 p rex bits 1 ((n+1:Nat):Int))))))))
     (.ite ((bd ((n+1:Nat):Int) (x.length:Int))==true) (.aa ((0:Int)≤((n+1:Nat):Int)) (.aa (((n+1:Nat):Int) < (x.length:Int)) (.ite (ae (eX (.int .u8) x (n+1)) 58) (.ret (.inl (.h2 p rex bits 3 (aJ .i64 ((n+1:Nat):Int) 1)))) (.ret (.inl (.h2 p rex bits 1 ((n+1:Nat):Int))))))) (.ret (.inl (.h2 p rex bits 1 ((n+1:Nat):Int))))))→
     Ends (eO x) r (eO x (.h1 p rex bits n)):=fun r h=>by
    simp only [eO]
    simp only [eI,eN,eJ,Int.toNat_natCast,hr,e15,hadd] at h ⊢
    exact ⟨fun _=>⟨by omega,by omega,fun _=>h,(fun h=>by cases h)⟩,fun h=>(by rw [iP hn] at h;cases h)⟩
   cases t with
   | nil=>
    have hn1:=uI hl hB ht
    obtain ⟨r,hr2,hg⟩:=h2 (n+1) 1
    refine ⟨r,go r ?_,by rw [ht] at hg;exact hg⟩
    simp only [eI,eN,eJ]
    refine ⟨fun h=>(by rw [qT hn1] at h;cases h),fun _=>⟨fun h=>(by rw [qT hn1] at h;cases h),fun _=>hr2⟩⟩
   | cons c1 t1=>
    obtain ⟨hn1,hr1,ht1,_,_,hadd1⟩:=rN hl hB ht
    have hS:gb (Iw p rex bits) (c1 :: t1)=Iw p rex bits c1 t1:=rfl
    rw [hS]
    cases e56:ae c1 56 with
    | true=>
     obtain ⟨r,hr2,hg⟩:=h2 (n+2) 2
     rw [ht1] at hg
     refine ⟨r,go r ?_,by unfold Iw;rw [e56];exact hg⟩
     simp only [eI,eN,eJ,hr1,e56,hadd1]
     refine ⟨fun _=>⟨by omega,by omega,fun _=>hr2,(fun h=>by cases h)⟩,fun h=>(by rw [iP hn1] at h;cases h)⟩
    | false=>
     cases e58:ae c1 58 with
     | true=>
      obtain ⟨r,hr2,hg⟩:=h2 (n+2) 3
      rw [ht1] at hg
      refine ⟨r,go r ?_,by unfold Iw;rw [e56,e58];exact hg⟩
      simp only [eI,eN,eJ,hr1,e56,e58,hadd1]
      refine ⟨fun _=>⟨by omega,by omega,(fun h=>by cases h),fun _=>⟨fun _=>⟨by omega,by omega,fun _=>hr2,(fun h=>by cases h)⟩,fun h=>(by rw [iP hn1] at h;cases h)⟩⟩,fun h=>(by rw [iP hn1] at h;cases h)⟩
     | false=>
      obtain ⟨r,hr2,hg⟩:=h2 (n+1) 1
      rw [ht] at hg
      refine ⟨r,go r ?_,by unfold Iw;rw [e56,e58];exact hg⟩
      simp only [eI,eN,eJ,hr1,e56,e58]
      refine ⟨fun _=>⟨by omega,by omega,(fun h=>by cases h),fun _=>⟨fun _=>⟨by omega,by omega,(fun h=>by cases h),fun _=>hr2⟩,fun h=>(by rw [iP hn1] at h;cases h)⟩⟩,fun h=>(by rw [iP hn1] at h;cases h)⟩
theorem Wl (n:Nat) (p:Int):∃ r,Ends (eO x) r (eO x (.h0 p n))∧DM x (gb (Gd p) (x.drop n)) r:=by
 have h1:=fun n rex bits=>Wk hl hB n p rex bits
 cases hd:x.drop n with
 | nil=>
  have hn:=uI hl hB hd
  obtain ⟨r,hr,hg⟩:=h1 n false 0
  refine ⟨r,?_,by rw [hd] at hg;exact hg⟩
  simp only [eO]
  simp only [eI,eJ]
  exact ⟨fun h=>(by rw [qT hn] at h;cases h),fun _=>hr⟩
 | cons c t=>
  obtain ⟨hn,hr,ht,hb,_,hadd⟩:=rN hl hB hd
  have hx:=Lw hb
  cases e:re c with
  | true=>
   obtain ⟨r,hr2,hg⟩:=h1 (n+1) true (av .u8 c 15)
   rw [ht] at hg
   refine ⟨r,?_,by simp only [gb,Gd,e,cond_true];exact hg⟩
   simp only [eO]
   simp only [eI,eN,eJ,Int.toNat_natCast,hr,hx,e,hadd]
   exact ⟨fun _=>⟨by omega,by omega,fun _=>⟨by omega,by omega,hr2⟩,(fun h=>by cases h)⟩,fun h=>(by rw [iP hn] at h;cases h)⟩
  | false=>
   obtain ⟨r,hr2,hg⟩:=h1 n false 0
   rw [hd] at hg
   refine ⟨r,?_,by simp only [gb,Gd,e,cond_false];exact hg⟩
   simp only [eO]
   simp only [eI,eN,eJ,Int.toNat_natCast,hr,hx,e]
   exact ⟨fun _=>⟨by omega,by omega,(fun h=>by cases h),fun _=>hr2⟩,fun h=>(by rw [iP hn] at h;cases h)⟩
theorem GW:∃ r,Ends (eO x) r (vz x)∧DM x (jC x) r:=by
 have h0:=fun n p=>Wl hl hB n p
 unfold vz
 cases hd:x with
 | nil=>
  obtain ⟨r,hr,hg⟩:=h0 0 0
  subst hd
  refine ⟨r,?_,hg⟩
  simp only [eI,eJ]
  exact ⟨fun h=>(by cases h),fun _=>hr⟩
 | cons c t=>
  subst hd
  have hlen:(0:Int) < ((c :: t).length:Nat):=by rw [List.length_cons];omega
  have hS:jC (c :: t)=RT c t:=rfl
  rw [hS]
  have hlt:(bd 0 (((c :: t).length:Nat):Int)==true)=true:=by rw [show bd 0 (((c :: t).length:Nat):Int)=true from a6.2 hlen];rfl
  cases e1:ae c 102 with
  | true=>
   obtain ⟨r,hr,hg⟩:=h0 1 c
   refine ⟨r,?_,by unfold RT;rw [e1];exact hg⟩
   simp only [eI,eN,eJ,qJ,e1]
   exact ⟨fun _=>⟨by omega,hlen,(fun h=>by cases h),fun _=>⟨by omega,hlen,hr⟩⟩,fun h=>(by rw [hlt] at h;cases h)⟩
  | false=>
   cases e2:ae c 243 with
   | true=>
    obtain ⟨r,hr,hg⟩:=h0 1 c
    refine ⟨r,?_,by unfold RT;rw [e1,e2];exact hg⟩
    simp only [eI,eN,eJ,qJ,e1,e2]
    exact ⟨fun _=>⟨by omega,hlen,fun _=>⟨by omega,hlen,fun _=>⟨by omega,hlen,hr⟩,(fun h=>by cases h)⟩,(fun h=>by cases h)⟩,fun h=>(by rw [hlt] at h;cases h)⟩
   | false=>
    obtain ⟨r,hr,hg⟩:=h0 0 0
    refine ⟨r,?_,by unfold RT;rw [e1,e2];exact hg⟩
    simp only [eI,eN,eJ,qJ,e1,e2]
    exact ⟨fun _=>⟨by omega,hlen,fun _=>⟨by omega,hlen,(fun h=>by cases h),fun _=>hr⟩,(fun h=>by cases h)⟩,fun h=>(by rw [hlt] at h;cases h)⟩
theorem MR:MS x:=by obtain ⟨r,h,_⟩:=GW hl hB;exact ⟨r,h⟩
theorem JA:DM x (jC x) (DY x):=by
 obtain ⟨r,h,hg⟩:=GW hl hB
 have:DY x=r:=bT h
 rw [this];exact hg
end
end
end Go.aA.dE
end
section
namespace Go.aA.dE
open Go.aA.RV
open Go.aA
noncomputable section
def Ac (b:List Int):Option ((DO×DO)×List Int)→DO×(DO×(Int×Bool))
 | none=>(zO,(zO,(0,false)))
 | some (a,r)=>(a.1,(a.2,((b.length:Int) - r.length,true)))
abbrev Yu:Type:=lQ×(DF×List Int)
def headD (h:lQ):DH:=(h.1,(h.2.1,(h.2.2.1,(h.2.2.2.1,h.2.2.2.2.1))))
theorem Vo {x:Yu} (n used:Int) (rm:DO):Ends (iE x) (iH x.2.1 n,(pA x.2.1 rm,(used,true))) (iE x (.h1 n used rm)):=by
 have h2:∀ a b,Ends (iE x) (a,(b,(used,true))) (iE x (.h2 used b a)):=fun a b=>by
  simp only [iE,eR]
 simp only [iE]
 simp only [eN,eI,eJ]
 unfold iH pA iA
 refine ⟨trivial,fun hv=>⟨fun h1=>?_,fun h1=>?_⟩,fun hv=>?_⟩
 ·rw [hv,h1];exact h2 _ _
 ·rw [hv,h1];exact h2 _ _
 ·rw [hv];exact h2 _ _
set_option maxHeartbeats 8000000 in
theorem Vp {x:Yu} (n used:Int) (rm:DO):
  Ends (iE x) (cond (nA x.2.1&&(!x.1.2.1&&(lG rm||(ae (cE x.2.1) 1&&(ae (az x.2.1) 1||ae (az x.2.1) 2)&&lG (ck n))))) (zO,(zO,(0,false))) (iH x.2.1 n,(pA x.2.1 rm,(used,true)))) (iE x (.h0 n used rm)):=by
 have k1:=Vo (x:=x) n used rm
 have k0:Ends (iE x) (zO,(zO,(0,false))) (.ret (.inr (zO,(zO,(0,false))))):=eR.2 rfl
 have e1:lG rm=cond (ae rm.1 1) (cond (bK 4 rm.2.1) (bd rm.2.1 8) false) false:=by
  unfold lG tS;simp only [bA,bx]
  cases ae rm.1 1<;>cases bK 4 rm.2.1<;>rfl
 have e2:lG (ck n)=cond (bK 4 n) (bd n 8) false:=by
  unfold lG tS;simp only [bA,bx]
  show cond (ae (1:Int) 1==true) (cond (bK 4 n==true) (bd n 8) false) false=_
  cases bK 4 n<;>rfl
 rw [e1,e2]
 generalize (iH x.2.1 n,(pA x.2.1 rm,(used,true)))=R at k1 ⊢
 unfold zO at k0 ⊢
 simp only [nA,cE,az]
 simp only [iE]
 generalize (ae x.2.1.2.2.2.2.2.2.2.2.1 1)=kk1
 generalize (ae x.2.1.2.2.2.2.2.2.2.2.1 2)=kk2
 generalize (ae x.2.1.2.2.2.2.2.2.2.1 1)=w1
 generalize x.2.1.2.2.2.2.2.2.2.2.2.2.2.2.1=y
 generalize x.1.2.1=rx
 generalize ae rm.1 1=r1
 generalize bK 4 rm.2.1=a
 generalize bd rm.2.1 8=b
 generalize bK 4 n=c
 generalize bd n 8=d
 cases y
 ·simp only [eI,eJ];exact ⟨(fun h=>by cases h),fun _=>k1⟩
 cases rx
 ·cases w1<;>cases r1<;>cases a<;>cases b<;>cases c<;>cases d<;>cases kk1<;>cases kk2<;>
   (simp only [eI,eJ,eR,beq_self_eq_true,Bool.not_true,Bool.not_false,Bool.and_true,Bool.and_false,Bool.true_and,Bool.false_and,Bool.or_true,Bool.or_false,Bool.true_or,Bool.false_or,cond_true,cond_false,true_and,and_true,
    implies_true,forall_const,Bool.false_eq_true,Bool.true_eq_false,false_implies,true_implies,beq_false,beq_true,reduceCtorEq];try exact k1)
 ·simp only [eI,eJ];exact ⟨fun _=>⟨(fun h=>by cases h),fun _=>k1⟩,fun h=>by cases h⟩
theorem D9 {x:Yu} (hl:x.2.2.length≤1000) (hB:dt x.2.2):Ends (iE x) (Ac x.2.2 (qN (headD x.1) x.2.1 x.2.2)) (vw x):=by
 unfold vw
 rw [eN]
 refine ⟨MC hl hB,?_⟩
 rw [Q3 hl hB]
 unfold qN gd
 have hbits:(headD x.1).2.2.1=x.1.2.2.1:=rfl
 rw [hbits]
 cases ht:nm x.1.2.2.1 x.2.2 with
 | none=>
  simp only [nO,eI,eR,eJ]
  exact ⟨(fun h=>by cases h),fun _=>rfl⟩
 | some ar=>
  obtain ⟨⟨n,rm⟩,r⟩:=ar
  have h0:=Vp (x:=x) n ((x.2.2.length:Int) - r.length) rm
  simp only [nO,eI,eR,eJ]
  unfold tw headD
  refine ⟨fun _=>⟨fun hm=>⟨fun h1=>?_,fun h1=>?_⟩,fun hm=>?_⟩,(fun h=>by cases h)⟩
  ·have hm:tQ x.2.1=true:=by simpa using hm
   rw [hm,h1];rfl
  ·have hm:tQ x.2.1=true:=by simpa using hm
   rw [hm,h1]
   simp only [Bool.and_false,Bool.false_or]
   cases hbd:(nA x.2.1&&(!x.1.2.1&&(lG rm||(ae (cE x.2.1) 1&&(ae (az x.2.1) 1||ae (az x.2.1) 2)&&lG (ck n))))) with
   | true=>rw [hbd] at h0;exact h0
   | false=>rw [hbd] at h0;exact h0
  ·have hm:tQ x.2.1=false:=by simpa using hm
   rw [hm]
   simp only [Bool.false_and,Bool.false_or]
   cases hbd:(nA x.2.1&&(!x.1.2.1&&(lG rm||(ae (cE x.2.1) 1&&(ae (az x.2.1) 1||ae (az x.2.1) 2)&&lG (ck n))))) with
   | true=>rw [hbd] at h0;exact h0
   | false=>rw [hbd] at h0;exact h0
theorem MM {x:Yu} (hl:x.2.2.length≤1000) (hB:dt x.2.2):MO x:=⟨_,D9 hl hB⟩
theorem Rc {x:Yu} (hl:x.2.2.length≤1000) (hB:dt x.2.2):Rd x=Ac x.2.2 (qN (headD x.1) x.2.1 x.2.2):=bT (D9 hl hB)
theorem ML (x):Hh x:=by
 unfold Hh vt
 simp only [dO,dD,dc]
 have p86:∀ a,CI a:=fun _=>trivial
 simp [p86,we]
theorem Ra {f:DF} (hk:0≤az f∧az f < 9) (d c w:Int) (aY rm o:DO) (n:Int):
  NW ((d,(c,(w,(zO,(zO,(0,0)))))),(f,(aY,(rm,(o,n)))))=(d,(c,(w,((jH (az f) (aY,(rm,(o,iz n)))).1,((jH (az f) (aY,(rm,(o,iz n)))).2,(0,0)))))):=by
 have hcases:az f=0∨az f=1∨az f=2∨az f=3∨az f=4∨az f=5∨az f=6∨az f=7∨az f=8:=by omega
 unfold NW vt
 simp only [bA,bS,bx]
 unfold az at hcases ⊢
 rcases hcases with e | e | e | e | e | e | e | e | e<;>(rw [e];rfl)
end
end Go.aA.dE
end
section
namespace Go.aA.dE
open Go.aA.RV
open Go.aA
noncomputable section
theorem Pb:(List.range 16).all (fun k=>(ae (av .u8 (a9 .u8 (k:Nat) 3) 1) 1==!(ae (av .u8 (k:Nat) 8) 0))&&ae (aJ .i64 4 (a9 .i64 (af .i64 (av .u8 (k:Nat) 8)) 1)) (cond (ae (av .u8 (k:Nat) 8) 0) 4 8))=true:=by decide +kernel
theorem M0:(List.range 16).all (fun k=>(List.range 256).all fun o=>ae (aJ .i64 (af .i64 (av .u8 (o:Nat) 7)) (cX .i64 (af .i64 (av .u8 (k:Nat) 1)) 8)) (af .i64 (dp .u8 (av .u8 (o:Nat) 7) (b7 .u8 (av .u8 (k:Nat) 1) 3))))=true:=by decide +kernel
theorem S5 {c:Int} (h:fX c):0≤av .u8 c 15∧av .u8 c 15 < 16:=by
 have key:(List.range 256).all (fun n=>decide (0≤av .u8 (n:Nat) 15)&&decide (av .u8 (n:Nat) 15 < 16))=true:=by decide +kernel
 obtain ⟨h1,h2⟩:=h
 have:=List.all_eq_true.1 key c.toNat (List.mem_range.2 (by omega))
 rw [Int.toNat_of_nonneg h1] at this
 simpa using this
def Xw (h:DH):Prop:=(0≤h.2.2.1∧h.2.2.1 < 16)∧fX h.2.2.2.2
def Pu (p:Pz DH):Prop:=∀ b h r,dt b→p b=some (h,r)→Xw h
theorem me {q:Int→Pz DH} (h:∀ c,fX c→Pu (q c)):Pu (gb q):=by
 intro b hh r hB e
 cases b with
 | nil=>cases e
 | cons c b=>exact h c (hB c (List.mem_cons_self ..)) b hh r hB.tail e
theorem od {c:Bool} {p q:Pz DH} (hp:Pu p) (hq:Pu q):Pu (cond c p q):=by cases c<;>assumption
theorem uH {p:Int} {rex:Bool} {bits tab o:Int} (hb:0≤bits∧bits < 16) (ho:fX o):Pu (ld (p,(rex,(bits,(tab,o))))):=by
 intro b h r _ e
 simp only [ld,Option.some.injEq,Prod.mk.injEq] at e
 obtain ⟨rfl,_⟩:=e
 exact ⟨hb,ho⟩
theorem yQ:Pu jC:=by
 have s3:∀ p rex bits c,(0≤bits∧bits < 16)→fX c→Pu (Iw p rex bits c):=fun p rex bits c hb hc=>od (me fun _ ho=>uH hb ho) (od (me fun _ ho=>uH hb ho) (uH hb hc))
 have s2:∀ p rex bits c,(0≤bits∧bits < 16)→fX c→Pu (Gc p rex bits c):=fun p rex bits c hb hc=>od (me fun o ho=>s3 _ _ _ o hb ho) (uH hb hc)
 have s1:∀ p c,fX c→Pu (Gd p c):=fun p c hc=>od (me fun o ho=>s2 _ _ _ o (S5 hc) ho) (s2 _ _ _ _ ⟨by omega,by omega⟩ hc)
 exact me fun c hc=>od (me fun o ho=>s1 _ o ho) (s1 _ _ hc)
theorem VX {h:DH} (ho:Xw h):ae (av .u8 (a9 .u8 h.2.2.1 3) 1) 1=!(ae (av .u8 h.2.2.1 8) 0)∧aJ .i64 4 (a9 .i64 (af .i64 (av .u8 h.2.2.1 8)) 1)=cond (ae (av .u8 h.2.2.1 8) 0) 4 8:=by
 obtain ⟨⟨h1,h2⟩,_⟩:=ho
 have:=List.all_eq_true.1 Pb h.2.2.1.toNat (List.mem_range.2 (by omega))
 rw [Int.toNat_of_nonneg h1] at this
 simp only [Bool.and_eq_true,beq_iff_eq,ag] at this
 exact this
theorem Qc {h:DH} (ho:Xw h):tP (aJ .i64 (af .i64 (av .u8 h.2.2.2.2 7)) (cX .i64 (af .i64 (av .u8 h.2.2.1 1)) 8))=gJ h:=by
 obtain ⟨⟨h1,h2⟩,h3,h4⟩:=ho
 have:=List.all_eq_true.1 (List.all_eq_true.1 M0 h.2.2.1.toNat (List.mem_range.2 (by omega))) h.2.2.2.2.toNat (List.mem_range.2 (by omega))
 rw [Int.toNat_of_nonneg h1,Int.toNat_of_nonneg h3,ag] at this
 rw [this];rfl
def lL (h:DH) (n:Int):lQ:=(h.1,(h.2.1,(h.2.2.1,(h.2.2.2.1,(h.2.2.2.2,n)))))
section
variable {x:List Int} (hl:x.length≤1000) (hB:dt x) {h:DH} (ho:Xw h)
include hl hB ho
theorem aa6 {f:DF} (hk:0≤az f∧az f < 9) (hi:0≤b9 f∧b9 f≤8) (n:Int) {p:Nat} (hp:p≤x.length) (aY rm:DO):
  Ends (gH x) (CU x (gd (xJ f) (fun m=>ld (h,(f,(aY,(rm,m))))) (x.drop p))) (gH x (.h4 (!(ae (av .u8 h.2.2.1 8) 0)) p (lL h n) f aY rm)):=by
 have hs:eG .i64 (x.length:Int) (p:Int)=(x.length:Int) - p:=by rw [om]<;>omega
 simp only [gH]
 simp only [hs,eI,eR,eJ]
 unfold gd xJ hY
 simp only [List.length_drop]
 refine ⟨fun hc=>?_,fun hc=>?_⟩
 ·rw [a6] at hc
  have hc:(x.length:Int) - p < b9 f:=hc
  rw [if_neg (by omega)]
  rfl
 ·rw [b5] at hc
  have hc:b9 f≤(x.length:Int) - p:=hc
  have hle:(b9 f).toNat≤(x.drop p).length:=by simp;omega
  rw [if_pos (by simp at hle;omega)]
  obtain ⟨b1,b2⟩:=JM hi hle
  have hadd:aJ .i64 (p:Int) (b9 f)=(x.length:Int) - ((x.drop p).drop (b9 f).toNat).length:=by
   rw [dQ (by omega) (by omega)];simp;omega
  have hlen:eG .i64 (x.length:Int) (((x.drop p).drop (b9 f).toNat).length:Int)=(x.length:Int) - ((x.drop p).drop (b9 f).toNat).length:=A5 hl (by simp;omega)
  have h6:∀ W,Ends (gH x) ((il f,(iX f,(W,((S7 (h,(f,(aY,(rm,ff f ((x.drop p).take (b9 f).toNat)))))).1,((S7 (h,(f,(aY,(rm,ff f ((x.drop p).take (b9 f).toNat)))))).2,(cond (ae (il f) 39) (af .u8 (ff f ((x.drop p).take (b9 f).toNat))) 0,eG .i64 (x.length:Int) (((x.drop p).drop (b9 f).toNat).length:Int))))))),0)
    (gH x (.h6 p (lL h n) f aY rm (il f) (iX f) W)):=by
   intro W
   have h52:=Ra hk (il f) (iX f) W aY rm (gJ h) (ff f ((x.drop p).take (b9 f).toNat))
   have hpl:=Qc ho
   simp only [gH]
   simp only [eN,Int.toNat_natCast]
   unfold lL
   simp only [hpl,b2]
   unfold zO at h52
   simp only [h52]
   refine ⟨by omega,by omega,b1,we _,ML _,?_⟩
   rw [eI]
   refine ⟨fun e=>?_,fun e=>?_⟩
   ·simp only [eJ]
    simp only [gH]
    simp only [eR]
    rw [e,hadd,hlen]
    rfl
   ·simp only [eJ]
    simp only [gH]
    simp only [eR]
    rw [e,hadd,hlen]
    rfl
  simp only [gH]
  simp only [eI,eJ]
  unfold CU ld
  simp only
  unfold Pv
  simp only
  have hw:gj h f=cond (ae (cE f) 0) (cond (ae (av .u8 h.2.2.1 8) 0) 4 8) (cE f):=by
   unfold gj;rw [(VX ho).2]
  rw [hw]
  refine ⟨fun e=>⟨fun e2=>?_,fun e2=>?_⟩,fun e=>?_⟩
  ·have e2:ae (av .u8 h.2.2.1 8) 0=false:=by simpa using e2
   rw [show ae (cE f) 0=true from e,e2]
   exact h6 _
  ·have e2:ae (av .u8 h.2.2.1 8) 0=true:=by simpa using e2
   rw [show ae (cE f) 0=true from e,e2]
   exact h6 _
  ·rw [show ae (cE f) 0=false from e]
   exact h6 _
theorem RM {f:DF} (hk:0≤az f∧az f < 9):Hj (az f)∧(!(NY (az f)))=ft f:=by
 have hcases:az f=0∨az f=1∨az f=2∨az f=3∨az f=4∨az f=5∨az f=6∨az f=7∨az f=8:=by omega
 constructor
 ·unfold Hj vx;simp only [dO,dc];simp
 ·unfold ft NY vx
  simp only [bA,bx]
  rcases hcases with e | e | e | e | e | e | e | e | e<;>(rw [e];rfl)
theorem aa7 {f:DF} (hk:0≤az f∧az f < 9) (hi:0≤b9 f∧b9 f≤8) {p:Nat} (hp:p≤x.length):
  Ends (gH x) (CU x (lr h f (x.drop p))) (gH x (.h2 (!(ae (av .u8 h.2.2.1 8) 0)) (lL h p) f)):=by
 have h4:=fun {q:Nat} (hq:q≤x.length) aY rm=>aa6 hl hB ho hk hi (p:Int) hq aY rm
 obtain ⟨p49,e49⟩:=RM hl hB ho hk
 have hdl:(x.drop p).length≤1000:=by simp;omega
 simp only [gH]
 rw [eN]
 refine ⟨p49,?_⟩
 rw [eI,show (!(NY f.2.2.2.2.2.2.2.2.1))=ft f from e49]
 unfold lr
 refine ⟨fun e=>?_,fun e=>?_⟩
 ·rw [e,cond_true]
  have hn:(lL h (p:Int)).2.2.2.2.2=(p:Int):=rfl
  simp only [hn,eN,Int.toNat_natCast]
  refine ⟨by omega,hp,MM hdl (hB.drop p),?_⟩
  rw [Rc (x:=(lL h p,(f,x.drop p))) hdl (hB.drop p)]
  have hh:headD (lL h (p:Int))=h:=rfl
  simp only [hh]
  rw [yH]
  refine (fun a=>⟨a,a⟩) ?_
  unfold gd
  cases hop:qN h f (x.drop p) with
  | none=>
   simp only [Ac,eI,eR,eJ]
   exact ⟨fun _=>rfl,fun h=>by cases h⟩
  | some ar=>
   obtain ⟨⟨aY,rm⟩,r⟩:=ar
   obtain ⟨u,hu,_,_⟩:=Ho h f _ _ _ hop
   have hlen:((x.drop p).length:Int) - r.length=(u.length:Nat):=by rw [hu,List.length_append];omega
   have hlen2:(x.drop p).length=u.length+r.length:=by rw [hu,List.length_append]
   have hlen3:(x.drop p).length=x.length - p:=by simp
   have hd:x.drop (p+u.length)=r:=by rw [← List.drop_drop,hu];simp
   have hadd:aJ .i64 (p:Int) (u.length:Nat)=((p+u.length:Nat):Int):=by rw [dQ]<;>omega
   have:=h4 (q:=p+u.length) (by omega) aY rm
   rw [hd] at this
   simp only [Ac,eI,eR,eJ,hlen]
   refine ⟨(fun h=>by cases h),fun _=>?_⟩
   simp only [gH]
   simp only [eJ,hadd]
   exact this
 ·rw [e,cond_false]
  simp only [eJ]
  exact h4 hp zO zO
theorem aa8 {p:Nat} (hp:p≤x.length):Ends (gH x) (CU x (kf h (x.drop p))) (gH x (.h1 (cR (x.drop p)) (lL h p))):=by
 have hkey:fX (fW h (cR (x.drop p))).2.2.1:=ho.2
 have ew:=(VX ho).1
 simp only [gH]
 have hd:((lL h (p:Int)).1,((lL h (p:Int)).2.2.2.1,((lL h (p:Int)).2.2.2.2.1,cR (x.drop p))))=fW h (cR (x.drop p)):=rfl
 have hb:(lL h (p:Int)).2.2.1=h.2.2.1:=rfl
 simp only [hd,hb,ew,eN]
 rw [Re _ hkey]
 refine ⟨MP _ hkey,by omega,?_⟩
 unfold kf
 generalize hF:b8 (fW h (cR (x.drop p)))=F
 obtain ⟨f,ok⟩:=F
 cases ok with
 | false=>
  simp only [eI,eR,eJ,Bool.false_and,cond_false]
  exact ⟨(fun h=>by cases h),fun _=>rfl⟩
 | true=>
  have hf:f∈fy:=by
   have:=gZ (k:=fW h (cR (x.drop p))) (by rw [hF])
   rw [hF] at this;exact this.1
  obtain ⟨hk,hi⟩:=nc f hf
  have h2:=aa7 hl hB ho hk hi hp
  simp only [eI,eR,eJ,Bool.true_and]
  refine ⟨fun _=>⟨fun hm=>⟨fun hw=>?_,fun hw=>?_⟩,fun hm=>?_⟩,(fun h=>by cases h)⟩
  ·have hm:kg f=true:=by simpa using hm
   have hw:ae (av .u8 h.2.2.1 8) 0=true:=by simpa using hw
   rw [hm,hw];rfl
  ·have hm:kg f=true:=by simpa using hm
   have hw:ae (av .u8 h.2.2.1 8) 0=false:=by simpa using hw
   rw [hm,hw]
   rw [hw] at h2
   exact h2
  ·have hm:kg f=false:=by simpa using hm
   rw [hm]
   exact h2
end
theorem x4 {x:List Int} (hl:x.length≤1000) (hB:dt x):Ends (gH x) (xI x) (BU x):=by
 have hg:=JA hl hB
 unfold BU xI oa gd
 rw [eN]
 refine ⟨MR hl hB,?_⟩
 cases ha:jC x with
 | none=>
  rw [ha] at hg
  have hg:(DY x).2=false:=hg
  simp only [hg,eI,eR,eJ]
  exact ⟨fun _=>rfl,fun h=>by cases h⟩
 | some hr=>
  obtain ⟨h,r⟩:=hr
  rw [ha] at hg
  obtain ⟨u,hu,_,_⟩:=Eu _ _ _ ha
  have ho:Xw h:=yQ x h r hB ha
  have hlen:(x.length:Int) - r.length=(u.length:Nat):=by rw [hu,List.length_append];omega
  have hxl:x.length=u.length+r.length:=by rw [hu,List.length_append]
  have hd:x.drop u.length=r:=by rw [hu];simp
  have hg:DY x=(lL h (u.length:Nat),true):=by
   have hg:DY x=((h.1,(h.2.1,(h.2.2.1,(h.2.2.2.1,(h.2.2.2.2,(x.length:Int) - r.length))))),true):=hg
   rw [hg,hlen];rfl
  have h1:=aa8 hl hB ho (p:=u.length) (by omega)
  rw [hd] at h1
  rw [hg]
  simp only [eI,eR,eJ]
  refine ⟨(fun h=>by cases h),fun _=>?_⟩
  simp only [gH]
  have hn:(lL h ((u.length:Nat):Int)).2.2.2.2.2=(u.length:Nat):=rfl
  simp only [hn,eI,eN,eJ,Int.toNat_natCast]
  refine ⟨fun hlt=>?_,fun hlt=>?_⟩
  ·rw [a6] at hlt
   cases r with
   | nil=>simp at hxl;omega
   | cons c t=>
    obtain ⟨_,hrd,_⟩:=rN hl hB hd
    rw [hrd]
    exact ⟨by omega,by omega,by omega,h1⟩
  ·rw [b5] at hlt
   have:r=[]:=List.length_eq_zero_iff.1 (by omega)
   subst this
   exact h1
theorem Ha {x:List Int} (hl:x.length≤1000) (hB:dt x):Qb x:=⟨_,x4 hl hB⟩
theorem NQ {x:List Int} (hl:x.length≤1000) (hB:dt x):YG x=xI x:=bT (x4 hl hB)
end
end Go.aA.dE
end
section
namespace Go.aA.dE
open Go.aA.RV
open Go.aA
noncomputable section
theorem kP {b t e:Bool}:cond b t e=true↔(b=true∧t=true)∨(b=false∧e=true):=by cases b<;>simp
theorem HO {d:Int}:af .i64 (af .i32 d)=d ↔ -2147483648≤d∧d < 2147483648:=by
 have e32:af .i32 d=(d+2147483648) % 4294967296 - 2147483648:=by
  simp only [af,IntKind.wrap,IntKind.signed,IntKind.bits];simp;omega
 rw [e32]
 unfold af
 rw [wrap_i64]
 omega
theorem Um {d:Int}:af .i64 (af .i8 d)=d ↔ -128≤d∧d < 128:=by
 have e8:af .i8 d=(d+128) % 256 - 128:=by
  simp only [af,IntKind.wrap,IntKind.signed,IntKind.bits];simp;omega
 rw [e8]
 unfold af
 rw [wrap_i64]
 omega
theorem Td {d:Int}:af .i64 (af .u8 d)=d↔0≤d∧d < 256:=by
 unfold af
 rw [wrap_i64,wrap_u8]
 omega
theorem dS {a b:DO}:kq CO a b=true↔a=b:=nh (c:=CO) rfl
def pj (x:DO):Prop:=x=ck x.2.1∧0≤x.2.1∧x.2.1 < 16
def sN (x:DO):Prop:=x.1=2∧x.2.1=0∧x.2.2.2.2.2.2.2=0 ∧ -2147483648≤x.2.2.2.2.2.1∧x.2.2.2.2.2.1 < 2147483648∧
 ((x.2.2.2.2.2.2.1=true∧x.2.2.1 = -1∧x.2.2.2.1 = -1∧x.2.2.2.2.1=1)∨
  (x.2.2.2.2.2.2.1=false ∧ -1≤x.2.2.1∧x.2.2.1 < 16 ∧ -1≤x.2.2.2.1∧x.2.2.2.1 < 16∧x.2.2.2.1≠4∧
   ((x.2.2.2.1 < 0∧x.2.2.2.2.1=1)∨(0≤x.2.2.2.1∧(x.2.2.2.2.1=1∨x.2.2.2.2.1=2∨x.2.2.2.2.1=4∨x.2.2.2.2.1=8)))))
theorem iG {x:DO} (h:pj x):x.1=1:=by rw [h.1];rfl
theorem E5 (x:DO):HX x=true↔(x.2.2.2.1 < 0∧x.2.2.2.2.1=1)∨(0≤x.2.2.2.1∧(x.2.2.2.2.1=1∨x.2.2.2.2.1=2∨x.2.2.2.2.1=4∨x.2.2.2.2.1=8)):=by
 unfold HX ql
 simp only [bA,bx,kP,a6,b5,ag,beq_iff_eq,aQ]
 have key:∀ s:Int,1≤s→s≤8→(av .i64 s (eG .i64 s 1)=0↔(s=1∨s=2∨s=4∨s=8)):=by
  intro s h1 h2
  have:s=1∨s=2∨s=3∨s=4∨s=5∨s=6∨s=7∨s=8:=by omega
  rcases this with rfl | rfl | rfl | rfl | rfl | rfl | rfl | rfl<;>decide
 constructor
 ·rintro (⟨a,b⟩ | ⟨a,b⟩)
  ·exact .inl ⟨a,b⟩
  ·rcases b with ⟨b1,⟨b2,b3⟩ | ⟨_,b3⟩⟩ | ⟨_,b3⟩
   ·exact .inr ⟨a,(key _ b1 b2).1 b3⟩
   ·cases b3
   ·cases b3
 ·rintro (⟨a,b⟩ | ⟨a,b⟩)
  ·exact .inl ⟨a,b⟩
  ·have h1:1≤x.2.2.2.2.1:=by omega
   have h2:x.2.2.2.2.1≤8:=by omega
   exact .inr ⟨a,.inl ⟨h1,.inl ⟨h2,(key _ h1 h2).2 b⟩⟩⟩
theorem fR (x:DO):b6 x=true↔pj x∨sN x:=by
 unfold b6 qn
 simp only [bA,bS,bx,kP,ag,bf,ga,m7,a6,aQ,beq_iff_eq,beq_eq_false_iff_ne,ne_eq,Bool.not_eq_true,Bool.false_eq_true,and_false,or_false,dS,E5,HO,reduceCtorEq]
 constructor
 ·rintro (⟨a,b,c,d⟩ | ⟨a,b,c,d,e | ⟨⟨e1,e2⟩,f⟩⟩)
  ·exact .inl ⟨d,b,c⟩
  ·exact e.elim
  ·refine .inr ⟨b,c,d,e1,e2,?_⟩
   rcases f with ⟨g1,g2,g3,g4⟩ | ⟨g1,g2,g3,g4,g5,g6,g7⟩
   ·exact .inl ⟨g1,g2,g3,g4⟩
   ·exact .inr ⟨g1,g2,g3,g4,g5,g6,g7⟩
 ·rintro (h | ⟨b,c,d,e,e',f⟩)
  ·exact .inl ⟨iG h,h.2.1,h.2.2,h.1⟩
  ·refine .inr ⟨by omega,b,c,d,.inr ⟨⟨e,e'⟩,?_⟩⟩
   rcases f with ⟨g1,g2,g3,g4⟩ | ⟨g1,g2,g3,g4,g5,g6,g7⟩
   ·exact .inl ⟨g1,g2,g3,g4⟩
   ·exact .inr ⟨g1,g2,g3,g4,g5,g6,g7⟩
theorem sb (x):se x:=by
 unfold se qn
 have p100:∀ a,AG a:=fun a=>by unfold AG ql;simp only [dO,dc];simp
 have p60:∀ a,AH a:=fun _=>trivial
 simp only [dO,dD,dc,p60,p100]
 simp
theorem E7 (x:DO):DU x=true↔pj x∨sN x:=by
 have e35:∀ a,tP a=ck a:=fun _=>rfl
 unfold DU vd
 simp only [bA,bS,bx,kP,ag,bf,ga,m7,a6,b5,aQ,gX,beq_iff_eq,beq_eq_false_iff_ne,ne_eq,Bool.not_eq_true,Bool.false_eq_true,and_false,or_false,false_or,and_true,dS,e35,reduceCtorEq]
 constructor
 ·rintro (⟨a,b,c,d⟩ | ⟨a,b,c,d,e1,e2,f⟩)
  ·exact .inl ⟨b,c,d⟩
  ·refine .inr ⟨b,c,d,by omega,by omega,?_⟩
   rcases f with ⟨g1,g2,g3,g4⟩ | ⟨g1,g2,g3,g4,g5,g6,g7⟩
   ·exact .inl ⟨g1,g2,g3,g4⟩
   ·refine .inr ⟨g1,by omega,by omega,by omega,by omega,by omega,?_⟩
    omega
 ·rintro (h | ⟨b,c,d,e,e',f⟩)
  ·exact .inl ⟨iG h,h.1,h.2.1,h.2.2⟩
  ·refine .inr ⟨by omega,b,c,d,by omega,by omega,?_⟩
   rcases f with ⟨g1,g2,g3,g4⟩ | ⟨g1,g2,g3,g4,g5,g6,g7⟩
   ·exact .inl ⟨g1,g2,g3,g4⟩
   ·refine .inr ⟨g1,by omega,by omega,by omega,by omega,by omega,?_⟩
    omega
theorem vP (x:DO):DU x=b6 x:=by
 have:=(E7 x).trans (fR x).symm
 cases h1:DU x<;>cases h2:b6 x<;>simp_all
end
end Go.aA.dE
end
section
namespace Go.aA.dE
open Go.aA.RV
open Go.aA
noncomputable section
inductive Kd where | r | m | rm | i64 | i32 | i8 | u8 | x | xm | cl | no
def xF (o:DO):Bool:=ae o.1 1&&b6 o
def lg (o:DO):Bool:=ae o.1 2&&b6 o
def je (o:DO):Bool:=ae o.1 3&&kq CO o (yz o.2.2.2.2.2.2.2)
def kD (o:DO):Bool:=ae o.1 1&&(bK 16 o.2.1&&(bd o.2.1 32&&kq CO o (1,(o.2.1,((-1),((-1),(0,(0,(false,0)))))))))
def Kd.b:Kd→DO→Bool
 | .r,o=>xF o
 | .m,o=>lg o
 | .rm,o=>b6 o
 | .i64,o=>je o
 | .i32,o=>je o&&(bK (-2147483648) o.2.2.2.2.2.2.2&&bd o.2.2.2.2.2.2.2 2147483648)
 | .i8,o=>je o&&(bK (-128) o.2.2.2.2.2.2.2&&bd o.2.2.2.2.2.2.2 128)
 | .u8,o=>je o&&(bK 0 o.2.2.2.2.2.2.2&&bd o.2.2.2.2.2.2.2 256)
 | .x,o=>kD o
 | .xm,o=>kD o||lg o
 | .cl,o=>kq CO o (ck 1)
 | .no,o=>kq CO o zO
def Kd.s:Kd→ByteArray
 | .r=>.mk #[114] | .m=>.mk #[109] | .rm=>.mk #[114,109] | .i8=>.mk #[105,56] | .u8=>.mk #[117,56] | .i32=>.mk #[105,51,50] | .i64=>.mk #[105,54,52]
 | .x=>.mk #[120] | .xm=>.mk #[120,109] | .cl=>.mk #[99,108] | .no=>.mk #[45]
theorem N5 (o):eK o=Kd.b .rm o:=rfl
theorem N4 (o):iV o=Kd.b .r o:=by
 unfold iV qx Kd.b xF;simp only [bA,bS,bx];cases ae o.1 1<;>rfl
theorem DX (o):pF o=Kd.b .m o:=by
 unfold pF qw Kd.b lg;simp only [bA,bS,bx];cases ae o.1 2<;>rfl
theorem rh (o):tg o=Kd.b .i64 o:=by
 unfold tg qm Kd.b je;simp only [bA,bS,bx];cases ae o.1 3<;>rfl
theorem oG {a b:Bool} (h:a=true↔b=true):a=b:=by cases a<;>cases b<;>simp_all
theorem N3 (o):yA o=Kd.b .i8 o:=by
 apply oG
 unfold yA qv Kd.b
 simp only [bA,bS,bx,kP,ag,Um,Bool.and_eq_true,aQ,a6,rh,Kd.b,beq_iff_eq,Bool.false_eq_true,and_false,or_false]
theorem N2 (o):pE o=Kd.b .i32 o:=by
 apply oG
 unfold pE qu Kd.b
 simp only [bA,bS,bx,kP,ag,HO,Bool.and_eq_true,aQ,a6,rh,Kd.b,beq_iff_eq,Bool.false_eq_true,and_false,or_false]
theorem N0 (o):ri o=Kd.b .u8 o:=by
 apply oG
 unfold ri qp Kd.b
 simp only [bA,bS,bx,kP,ag,Td,Bool.and_eq_true,aQ,a6,rh,Kd.b,beq_iff_eq,Bool.false_eq_true,and_false,or_false]
theorem NZ (o):H3 o=Kd.b .cl o:=rfl
theorem NX (o):ij o=Kd.b .no o:=rfl
theorem Yh:∀ j:Fin 64,(15#64)[j.val]'(j.isLt)=decide (j.val < 4):=by decide
theorem VG {r:Int}:ic .i64 r 15=16↔(∃ k:Nat,k < 16∧IntKind.wrap .i64 r=16+k):=by
 have e:ic .i64 r 15=IntKind.wrap .i64 ((BitVec.ofInt 64 r &&& ~~~BitVec.ofInt 64 15).toNat:Nat):=rfl
 have hm:(~~~(BitVec.ofInt 64 15)) = ~~~(15#64):=rfl
 have hv:(BitVec.ofInt 64 r &&& ~~~(15#64)).toNat=(BitVec.ofInt 64 r).toNat / 16 * 16:=by
  have h1:(BitVec.ofInt 64 r &&& ~~~(15#64))=(BitVec.ofInt 64 r >>> 4) <<< 4:=by
   apply BitVec.eq_of_getElem_eq
   intro i hi
   simp only [BitVec.getElem_and,BitVec.getElem_not,BitVec.getElem_shiftLeft,BitVec.getElem_ushiftRight]
   have DL:(15#64)[i]=decide (i < 4):=Yh ⟨i,hi⟩
   rw [DL]
   by_cases h4:i < 4
   ·simp [h4]
   ·simp only [h4,decide_false,Bool.not_false,Bool.and_true,Bool.true_and]
    rw [BitVec.getLsbD_eq_getElem (by omega)]
    congr 1
    omega
  rw [h1]
  simp only [BitVec.toNat_shiftLeft,BitVec.toNat_ushiftRight,Nat.shiftLeft_eq,Nat.shiftRight_eq_div_pow]
  have:=(BitVec.ofInt 64 r).isLt
  omega
 have hr:((BitVec.ofInt 64 r).toNat:Int)=r % 18446744073709551616:=by
  rw [BitVec.toNat_ofInt]
  have:(0:Int)≤r % ((2 ^ 64:Nat):Int):=Int.emod_nonneg _ (by decide)
  rw [Int.toNat_of_nonneg this]
  rfl
 rw [e,hm,hv,wrap_i64,wrap_i64]
 have hlt:=(BitVec.ofInt 64 r).isLt
 generalize (BitVec.ofInt 64 r).toNat=n at hr hlt
 constructor
 ·intro h
  refine ⟨n - 16,?_,?_⟩<;>omega
 ·rintro ⟨k,hk,h⟩
  omega
def l9 (a:Int):Prop := -9223372036854775808≤a∧a < 9223372036854775808
theorem Ga {r:Int} (h:l9 r):ic .i64 r 15=16↔16≤r∧r < 32:=by
 rw [VG,wrap_i64]
 obtain ⟨h1,h2⟩:=h
 constructor
 ·rintro ⟨k,hk,e⟩;omega
 ·intro ⟨a,b⟩;exact ⟨(r - 16).toNat,by omega,by omega⟩
theorem sI {k:Nat} (h:k < 16):av .i64 ((16+k:Nat):Int) 15=(k:Int):=by
 have key:(List.range 16).all (fun k=>ae (av .i64 ((16+k:Nat):Int) 15) (k:Nat))=true:=by decide +kernel
 exact ag.1 (List.all_eq_true.1 key k (List.mem_range.2 h))
theorem yW {r:Int} (h1:16≤r) (h2:r < 32):HY r=(1,(r,((-1),((-1),(0,(0,(false,0)))))))∧NN r=(1,(r,((-1),((-1),(0,(0,(false,0))))))):=by
 obtain ⟨k,hk,e⟩:∃ k:Nat,k < 16∧r=((16+k:Nat):Int):=⟨(r - 16).toNat,by omega,by omega⟩
 have e23:HY r=(1,(aJ .i64 (av .i64 r 15) 16,((-1),((-1),(0,(0,(false,0))))))):=rfl
 have e24:NN r=(1,(aJ .i64 (pf .i64 (aJ .i64 (pf .i64 r 16) 16) 16) 16,((-1),((-1),(0,(0,(false,0))))))):=rfl
 have a1:aJ .i64 (av .i64 r 15) 16=r:=by rw [e,sI hk,dQ]<;>omega
 have a2:aJ .i64 (pf .i64 (aJ .i64 (pf .i64 r 16) 16) 16) 16=r:=by
  have m1:pf .i64 r 16=(k:Int):=by
   show r.tmod 16=_
   rw [Int.tmod_eq_emod_of_nonneg (by omega)];omega
  have m2:aJ .i64 (k:Int) 16=(k:Int)+16:=by rw [dQ]<;>omega
  have m3:pf .i64 ((k:Int)+16) 16=(k:Int):=by
   show ((k:Int)+16).tmod 16=_
   rw [Int.tmod_eq_emod_of_nonneg (by omega)];omega
  rw [m1,m2,m3,dQ]<;>omega
 rw [e23,e24,a1,a2]
 exact ⟨rfl,rfl⟩
theorem DW {o:DO} (h:l9 o.2.1):ot o=Kd.b .x o:=by
 apply oG
 unfold ot qt Kd.b kD
 simp only [bA,bS,bx,kP,ag,Bool.and_eq_true,aQ,a6,beq_iff_eq,Bool.false_eq_true,and_false,or_false,Ga h]
 constructor
 ·rintro ⟨a,⟨b,c⟩,d⟩
  rw [(yW b c).1] at d
  exact ⟨a,b,c,d⟩
 ·rintro ⟨a,b,c,d⟩
  refine ⟨a,⟨b,c⟩,?_⟩
  rw [(yW b c).1];exact d
theorem N1 {o:DO} (h:l9 o.2.1):rj o=Kd.b .xm o:=by
 unfold rj qq
 simp only [bA,bS,bx,DW h,DX]
 show cond (kD o==false) (lg o) true=(kD o||lg o)
 cases kD o<;>cases lg o<;>rfl
end
end Go.aA.dE
end
section
namespace Go.aA.dE
open Go.aA.RV
open Go.aA
noncomputable section
def Kd.i:Kd→Nat | .r=>0 | .m=>1 | .rm=>2 | .i64=>3 | .i32=>4 | .i8=>5 | .u8=>6 | .x=>7 | .xm=>8 | .cl=>9 | .no=>10
theorem Y6 (a b:Kd):(a.s==b.s)=(a.i==b.i):=by cases a<;>cases b<;>rfl
theorem CG (x):yb x:=by
 unfold yb vd
 have p35:∀ a,sX a:=fun _=>trivial
 simp only [dO,dD,dc,p35]
 simp
theorem Me (x):Mf x:=⟨by decide,by decide,trivial⟩
theorem E9 {o:DO} (h:b6 o=true):o.1=1∨o.1=2:=by
 rcases (fR o).1 h with h | h
 ·exact .inl (iG h)
 ·exact .inr h.1
theorem S0 (o:DO):kq CO o (ck 1)=(ae o.1 1&&(b6 o&&ae o.2.1 1)):=by
 apply oG
 simp only [Bool.and_eq_true,ag,dS,fR]
 constructor
 ·intro h;rw [h];exact ⟨rfl,.inl ⟨rfl,by decide,by decide⟩,rfl⟩
 ·rintro ⟨a,h | h,c⟩
  ·rw [h.1,c]
  ·have:=h.1;omega
set_option maxHeartbeats 8000000 in
theorem HL (o:DO) (k:Kd):Ends (pT (o,k.s)) (k.b o) (vf (o,k.s)):=by
 have p22:∀ a,Mg a:=fun _=>trivial
 have c1:ByteArray.mk #[114]=Kd.s .r:=rfl
 have c2:ByteArray.mk #[109]=Kd.s .m:=rfl
 have c3:ByteArray.mk #[114,109]=Kd.s .rm:=rfl
 have c4:ByteArray.mk #[105,56]=Kd.s .i8:=rfl
 have c5:ByteArray.mk #[117,56]=Kd.s .u8:=rfl
 have c6:ByteArray.mk #[105,51,50]=Kd.s .i32:=rfl
 have c7:ByteArray.mk #[105,54,52]=Kd.s .i64:=rfl
 have c8:ByteArray.mk #[120]=Kd.s .x:=rfl
 have c9:ByteArray.mk #[120,109]=Kd.s .xm:=rfl
 have c10:ByteArray.mk #[99,108]=Kd.s .cl:=rfl
 have h0:Ends (pT (o,k.s)) (kq CO o zO) (pT (o,k.s) .h0):=by simp only [pT,eR];rfl
 have e22:∀ a,UO a=yz a:=fun _=>rfl
 have hv:bd o.2.1 32=true→bK 16 o.2.1=true→kq CO o (NN o.2.1)=kq CO o (1,(o.2.1,((-1),((-1),(0,(0,(false,0))))))):=fun a b=>by rw [(yW (aQ.1 b) (a6.1 a)).2]
 have hr1:ae o.1 1=false→ae o.1 2=false→b6 o=false:=fun a b=>by
  cases h:b6 o with
  | false=>rfl
  | true=>rw [bf] at a b;rcases E9 h with h | h<;>omega
 have x12:ae o.1 1=true→ae o.1 2=false:=fun a=>by rw [ag.1 a];rfl
 have x13:ae o.1 1=true→ae o.1 3=false:=fun a=>by rw [ag.1 a];rfl
 have x23:ae o.1 2=true→ae o.1 3=false:=fun a=>by rw [ag.1 a];rfl
 unfold vf Ue Ul Tc Ye
 simp only [YE,Zw,VH,Fa,Option.getD,c1,c2,c3,c4,c5,c6,c7,c8,c9,c10,Y6,vP,e22]
 cases k<;>simp only [S0,Kd.b,xF,lg,je,kD]<;>
  (cases f1:ae o.1 1<;>cases f2:ae o.1 2<;>cases f3:ae o.1 3<;>first
   | (exfalso;simp_all;done)
   | (cases a1:bK 16 o.2.1<;>cases a2:bd o.2.1 32<;>
     simp [eI,eN,eR,eJ,CG,Me,p22,Kd.i,hv,hr1,f1,f2,f3,a1,a2]<;>first | exact h0 | (simp_all;done) | skip))
theorem CH (o:DO) (k:Kd):yc (o,k.s):=⟨_,HL o k⟩
theorem HV (o:DO) (k:Kd):Jx (o,k.s)=k.b o:=bT (HL o k)
end
end Go.aA.dE
end
section
namespace Go.aA.dE
open Go.aA.RV
open Go.aA
noncomputable section
def ju (s:ByteArray):Kd:=
 if s==Kd.s .r then .r else if s==Kd.s .m then .m else if s==Kd.s .rm then .rm else if s==Kd.s .i8 then .i8 else if s==Kd.s .u8 then .u8 else if s==Kd.s .i32 then .i32 else
 if s==Kd.s .i64 then .i64 else if s==Kd.s .x then .x else if s==Kd.s .xm then .xm else if s==Kd.s .cl then .cl else .no
def Kq (s:ByteArray):Bool:=(ju s).s==s
def Ch (r:bh):Bool:=Kq r.2.1&&(Kq r.2.2.1&&(ae r.1 1||(ae r.1 4||(ae r.1 8||(ae r.1 16||ae r.1 32)))))
theorem Lp:(List.range 256).all (fun d=>(List.range 16).all fun c=>(gF ((d:Nat),(c:Nat))).all Ch&&decide ((gF ((d:Nat),(c:Nat))).length≤8))=true:=by decide +kernel
theorem GP {d c:Int} (hd:fX d) (hc:0≤c∧c < 16):(∀ r∈gF (d,c),Ch r=true)∧(gF (d,c)).length≤8:=by
 obtain ⟨h1,h2⟩:=hd
 have:=List.all_eq_true.1 (List.all_eq_true.1 Lp d.toNat (List.mem_range.2 (by omega))) c.toNat (List.mem_range.2 (by omega))
 rw [Int.toNat_of_nonneg h1,Int.toNat_of_nonneg hc.1] at this
 simp only [Bool.and_eq_true,decide_eq_true_eq] at this
 exact ⟨fun r hr=>List.all_eq_true.1 this.1 r hr,this.2⟩
def fo (w of:Int):Bool:=cond (ae of 4) (ae w 4||ae w 8) (cond (ae of 16) (ae w 8) (cond (ae of 32) (ae w 16) (ae w of)))
def jy (x:DI) (r:bh):Bool:=fo x.2.2.1 r.1&&((ju r.2.1).b x.2.2.2.1&&(ju r.2.2.1).b x.2.2.2.2.1)
def qS (x:DI):Bool:=bK x.2.1 15&&((ae x.1 29||(ae x.1 30||ae x.1 31)||ae x.2.1 0)&&(ae x.1 39||ae x.2.2.2.2.2.1 0))
def eC (x:DI):Option bh:=cond (qS x) ((gF (x.1,x.2.1)).find? (jy x)) none
end
end Go.aA.dE
end
section
namespace Go.aA.dE
open Go.aA.RV
open Go.aA
noncomputable section
theorem QX (w of:Int):QY (w,of)=fo w of:=by
 unfold QY vg fo
 simp only [bA,bx]
 cases ae of 4<;>cases ae of 16<;>cases ae of 32<;>cases ae w 4<;>cases ae w 8<;>rfl
theorem Mx (x):Hb x:=by
 unfold Hb vg;simp only [dO,dc];simp
theorem VJ (x:Int):∀ (m i:Nat),i+m=8→∃ r,Ends (gy x) r (gy x (.h0 i [3,4,5,6,7,8,9,10])):=by
 intro m
 induction m with
 | zero=>
  intro i hi
  have:i=8:=by omega
  subst this
  refine ⟨-1,?_⟩
  simp only [gy]
  simp only [show bd ((8:Nat):Int) 8=false from rfl,eI,eR]
  exact ⟨(fun h=>by cases h),fun _=>trivial⟩
 | succ m ih=>
  intro i hi
  have e:bd (i:Int) 8=true:=by rw [a6];omega
  cases hc:ae (eX (.int .u8) [3,4,5,6,7,8,9,10] i) x with
  | true=>
   refine ⟨i,?_⟩
   simp only [gy]
   simp only [e,Int.toNat_natCast,hc,eI,eN,eR]
   exact ⟨fun _=>⟨by omega,by omega,by omega,fun _=>trivial,(fun h=>by cases h)⟩,(fun h=>by cases h)⟩
  | false=>
   obtain ⟨r,hr⟩:=ih (i+1) (by omega)
   refine ⟨r,?_⟩
   simp only [gy]
   simp only [e,Int.toNat_natCast,hc,eI,eN,eR,eJ,gL i (by omega)]
   exact ⟨fun _=>⟨by omega,by omega,by omega,(fun h=>by cases h),fun _=>hr⟩,(fun h=>by cases h)⟩
theorem I5 (x):Fq x:=by
 obtain ⟨r,hr⟩:=VJ x 8 0 rfl
 refine ⟨r,?_⟩
 unfold oK
 simp only [eN,eJ]
 exact ⟨by omega,by omega,by omega,by omega,by omega,by omega,by omega,by omega,hr⟩
theorem I4 (x):AM x:=by
 unfold AM ua;simp only [dO,dc];simp
theorem Mh (x):G6 x:=by
 unfold G6 iD;simp only [dO,dD,dc,I5,I4];simp
theorem My (x):nX x:=by
 unfold nX rY;simp only [dO,dD,dc,Mh];simp
theorem Nw {s:ByteArray} (h:Kq s=true):s=(ju s).s:=((BI _ _).1 h).symm
section
variable {x:DI}
def zR:bh:=(0,(ByteArray.empty,(ByteArray.empty,(0,(([]:List Int),(0,(0,0)))))))
def wP (o:Option bh):bh×Bool:=match o with | some r=>(r,true) | none=>(zR,false)
theorem Wh (l:List bh) (hl:l.length≤8) (hr:∀ r∈l,Ch r=true):∀ (m i:Nat),i+m=l.length→Ends (kE x) (wP ((l.drop i).find? (jy x))) (kE x (.h0 l i)):=by
 intro m
 induction m with
 | zero=>
  intro i hi
  rw [List.drop_of_length_le (by omega)]
  simp only [kE]
  simp only [qT (show l.length≤i by omega),eI,eR]
  exact ⟨(fun h=>by cases h),fun _=>rfl⟩
 | succ m ih=>
  intro i hi
  have hi':i < l.length:=by omega
  have hrd:eX xu l i=l[i]:=iJ (c:=xu) hi'
  have hok:=hr _ (List.getElem_mem hi')
  simp only [Ch,Bool.and_eq_true] at hok
  obtain ⟨o1,o2,_⟩:=hok
  have hn:=ih (i+1) (by omega)
  rw [List.drop_eq_getElem_cons hi',List.find?_cons]
  have k1:∀ o,yc (o,l[i].2.1)∧Jx (o,l[i].2.1)=(ju l[i].2.1).b o:=fun o=>by
   have e:=Nw o1
   constructor
   ·rw [e];exact CH _ _
   ·conv=>lhs;rw [e]
    exact HV _ _
  have k2:∀ o,yc (o,l[i].2.2.1)∧Jx (o,l[i].2.2.1)=(ju l[i].2.2.1).b o:=fun o=>by
   have e:=Nw o2
   constructor
   ·rw [e];exact CH _ _
   ·conv=>lhs;rw [e]
    exact HV _ _
  simp only [kE]
  simp only [iP hi',eI,eN,eJ,eR,Int.toNat_natCast,hrd,gL i (by omega),QX,(k1 _).2,(k2 _).2]
  refine ⟨fun _=>⟨by omega,by omega,Mx _,fun a=>⟨by omega,by omega,(k1 _).1,fun b=>⟨by omega,by omega,(k2 _).1,fun c=>⟨by omega,by omega,?_⟩,fun c=>?_⟩,fun b=>?_⟩,fun a=>?_⟩,(fun h=>by cases h)⟩
  ·have:jy x l[i]=true:=by unfold jy;simp only [beq_iff_eq] at a b;rw [a,b,c];rfl
   rw [this];rfl
  ·have:jy x l[i]=false:=by unfold jy;rw [c];simp
   rw [this];exact hn
  ·have:jy x l[i]=false:=by unfold jy;simp only [beq_eq_false_iff_ne,ne_eq,Bool.not_eq_true] at b;rw [b];simp
   rw [this];exact hn
  ·have:jy x l[i]=false:=by unfold jy;simp only [beq_eq_false_iff_ne,ne_eq,Bool.not_eq_true] at a;rw [a];simp
   rw [this];exact hn
theorem x3 (hd:fX x.1) (hc:fX x.2.1):Ends (kE x) (wP (eC x)) (vr x):=by
 have hno:Ends (kE x) (wP none) (.ret (.inr (zR,false))):=eR.2 rfl
 have hyes:bd 15 x.2.1=false→Ends (kE x) (wP ((gF (x.1,x.2.1)).find? (jy x))) (kE x (.h0 (gF (x.1,x.2.1)) 0)):=fun h=>by
  rw [b5] at h
  obtain ⟨h1,h2⟩:=GP hd (c:=x.2.1) ⟨hc.1,by omega⟩
  have:=Wh (x:=x) (gF (x.1,x.2.1)) h2 h1 (gF (x.1,x.2.1)).length 0 (Nat.zero_add _)
  rw [List.drop_zero] at this
  exact this
 have e1:bK x.2.1 15=!(bd 15 x.2.1):=by
  cases h:bd 15 x.2.1 with
  | true=>rw [a6] at h;rw [Bool.not_true,gX];omega
  | false=>rw [b5] at h;rw [Bool.not_false,aQ];omega
 have e2:ae x.2.1 0=!(cB x.2.1 0):=by
  cases h:cB x.2.1 0 with
  | true=>rw [ga] at h;rw [Bool.not_true,bf];exact h
  | false=>rw [m7] at h;rw [Bool.not_false,ag];exact h
 have e3:ae x.1 39=!(cB x.1 39):=by
  cases h:cB x.1 39 with
  | true=>rw [ga] at h;rw [Bool.not_true,bf];exact h
  | false=>rw [m7] at h;rw [Bool.not_false,ag];exact h
 have e4:ae x.2.2.2.2.2.1 0=!(cB x.2.2.2.2.2.1 0):=by
  cases h:cB x.2.2.2.2.2.1 0 with
  | true=>rw [ga] at h;rw [Bool.not_true,bf];exact h
  | false=>rw [m7] at h;rw [Bool.not_false,ag];exact h
 unfold eC qS
 rw [e1,e2,e3,e4]
 unfold vr
 dsimp only
 unfold zR at hno
 generalize hF:(gF (x.1,x.2.1)).find? (jy x)=F at hyes ⊢
 generalize ae x.1 29=a
 generalize ae x.1 30=b
 generalize ae x.1 31=c
 generalize bd 15 x.2.1=d at hyes ⊢
 generalize cB x.2.1 0=e
 generalize cB x.1 39=f
 generalize cB x.2.2.2.2.2.1 0=g
 cases a<;>cases b<;>cases c<;>cases d<;>cases e<;>cases f<;>cases g<;>
  (simp only [eI,eN,eJ,eR,My,Bool.not_true,Bool.not_false,Bool.and_true,Bool.and_false,Bool.true_and,Bool.false_and,Bool.or_true,Bool.or_false,Bool.true_or,Bool.false_or,cond_true,cond_false,true_and,and_true,
   implies_true,forall_const,Bool.false_eq_true,Bool.true_eq_false,false_implies,true_implies,beq_false,beq_true,reduceCtorEq,beq_self_eq_true];first | exact hyes rfl | rfl | trivial)
theorem MJ (hd:fX x.1) (hc:fX x.2.1):MK x:=⟨_,x3 hd hc⟩
theorem Q8 (hd:fX x.1) (hc:fX x.2.1):Q9 x=wP (eC x):=bT (x3 hd hc)
end
end
end Go.aA.dE
end
section
namespace Go.aA.dE
open Go.aA.RV
open Go.aA
noncomputable section
def dL (x:Int):List Int→Nat→Int
 | [],_ => -1
 | c :: l,i=>cond (ae x c) (i:Int) (dL x l (i+1))
theorem Jm (l:List Int) (x:Int) (hl:l.length≤1000):∀ (m i:Nat),i+m=l.length→Ends (ll (l,x)) (dL x (l.drop i) i) (ll (l,x) (.h0 l.length i)):=by
 intro m
 induction m with
 | zero=>
  intro i hi
  rw [List.drop_of_length_le (by omega)]
  simp only [ll]
  simp only [qT (show l.length≤i by omega),eI,eR]
  exact ⟨(fun h=>by cases h),fun _=>rfl⟩
 | succ m ih=>
  intro i hi
  have hi':i < l.length:=by omega
  have hr:=ih (i+1) (by omega)
  have hrd:eX (.int .i64) l i=l[i]:=iJ (c:=.int .i64) hi'
  rw [List.drop_eq_getElem_cons hi']
  simp only [ll,dL]
  simp only [iP hi',hrd,eI,eN,eR,eJ,Int.toNat_natCast,gL i (by omega)]
  refine ⟨fun _=>⟨by omega,by omega,fun h=>?_,fun h=>?_⟩,(fun h=>by cases h)⟩
  ·rw [h];rfl
  ·rw [h];exact hr
theorem s6 (l:List Int) (x:Int) (hl:l.length≤1000):Ends (ll (l,x)) (dL x l 0) (qo (l,x)):=by
 unfold qo
 simp only [eJ]
 have:=Jm l x hl l.length 0 (Nat.zero_add _)
 rw [List.drop_zero] at this
 exact this
theorem I3 {l:List Int} {x:Int} (hl:l.length≤1000):AL (l,x):=⟨⟨_,s6 l x hl⟩,trivial⟩
theorem ou {l:List Int} {x:Int} (hl:l.length≤1000):pG (l,x)=bK 0 (dL x l 0):=by
 have:pG (l,x)=bK 0 (HZ (l,x)):=rfl
 have e:HZ (l,x)=dL x l 0:=bT (s6 l x hl)
 rw [this,e]
theorem Jn (l:List Int) (x:Int) (hl:l.length≤1000):∀ (m i:Nat),i+m=l.length→Ends (lq (l,x)) (dL x (l.drop i) i) (lq (l,x) (.h0 l.length i)):=by
 intro m
 induction m with
 | zero=>
  intro i hi
  rw [List.drop_of_length_le (by omega)]
  simp only [lq]
  simp only [qT (show l.length≤i by omega),eI,eR]
  exact ⟨(fun h=>by cases h),fun _=>rfl⟩
 | succ m ih=>
  intro i hi
  have hi':i < l.length:=by omega
  have hr:=ih (i+1) (by omega)
  have hrd:eX (.int .u8) l i=l[i]:=iJ (c:=.int .u8) hi'
  rw [List.drop_eq_getElem_cons hi']
  simp only [lq,dL]
  simp only [iP hi',hrd,eI,eN,eR,eJ,Int.toNat_natCast,gL i (by omega)]
  refine ⟨fun _=>⟨by omega,by omega,fun h=>?_,fun h=>?_⟩,(fun h=>by cases h)⟩
  ·rw [h];rfl
  ·rw [h];exact hr
theorem s7 (l:List Int) (x:Int) (hl:l.length≤1000):Ends (lq (l,x)) (dL x l 0) (qy (l,x)):=by
 unfold qy
 simp only [eJ]
 have:=Jn l x hl l.length 0 (Nat.zero_add _)
 rw [List.drop_zero] at this
 exact this
theorem IZ {l:List Int} {x:Int} (hl:l.length≤1000):AK (l,x):=⟨_,s7 l x hl⟩
theorem N6 {l:List Int} {x:Int} (hl:l.length≤1000):rk (l,x)=dL x l 0:=bT (s7 l x hl)
end
end Go.aA.dE
end
section
namespace Go.aA.dE
open Go.aA.RV
open Go.aA
noncomputable section
def qg:List Int:=[3,4,5,6,7,8,9,10]
theorem Yr (x:Int):∀ (m i:Nat),i+m=8→Ends (gy x) (dL x (qg.drop i) i) (gy x (.h0 i qg)):=by
 intro m
 induction m with
 | zero=>
  intro i hi
  have:i=8:=by omega
  subst this
  simp only [gy]
  simp only [show bd ((8:Nat):Int) 8=false from rfl,eI,eR]
  exact ⟨(fun h=>by cases h),fun _=>rfl⟩
 | succ m ih=>
  intro i hi
  have e:bd (i:Int) 8=true:=by rw [a6];omega
  have hi':i < qg.length:=by show i < 8;omega
  have hr:=ih (i+1) (by omega)
  have hrd:eX (.int .u8) qg i=qg[i]:=iJ (c:=.int .u8) hi'
  have hsym:ae qg[i] x=ae x qg[i]:=by
   cases h:ae x qg[i] with
   | true=>rw [ag] at h ⊢;exact h.symm
   | false=>rw [bf] at h ⊢;exact fun e=>h e.symm
  rw [List.drop_eq_getElem_cons hi']
  simp only [gy,dL]
  simp only [e,Int.toNat_natCast,hrd,hsym,eI,eN,eR,eJ,gL i (by omega)]
  refine ⟨fun _=>⟨by omega,by omega,by omega,fun h=>?_,fun h=>?_⟩,(fun h=>by cases h)⟩
  ·rw [h];rfl
  ·rw [h];exact hr
theorem iW (x:Int):pH x=dL x qg 0:=by
 have h:Ends (gy x) (dL x qg 0) (oK x):=by
  unfold oK
  simp only [eN,eJ]
  have:=Yr x 8 0 rfl
  rw [List.drop_zero] at this
  exact ⟨by omega,by omega,by omega,by omega,by omega,by omega,by omega,by omega,this⟩
 exact bT h
abbrev VM:Type:=eL
def zE:VM:=((([]:List Int),(0,())),(((),((),(([]:List Int),(0,(0,0))))),false))
def VW (w:Int):List Int:=cond (ae w 1) [1] (cond (ae w 4) [4,8] (cond (ae w 8) [8] (cond (ae w 16) [8,8] [16])))
def We (r:bh):VM:=((VW r.1,(r.2.2.2.1,())),(((),((),(r.2.2.2.2.1,(r.2.2.2.2.2.1,(r.2.2.2.2.2.2.1,r.2.2.2.2.2.2.2))))),true))
def Av:Option bh→VM
 | none=>zE
 | some r=>We r
theorem Rn {x:DI}:Ends (fc x) zE (fc x .qY):=by simp only [fc,eR];rfl
end
end Go.aA.dE
end
section
namespace Go.aA.dE
open Go.aA.RV
open Go.aA
noncomputable section
abbrev T36:Type:=Tr (nD⊕VM)
theorem look {x:DI} {R:VM} {w a b:Bool} {pw pa pb q1 q2:Prop} {A:VM} {I9:T36}
  (hw:pw) (ha:pa) (hb:pb) (h1:q1) (h2:q2) (hyes:w=true→a=true→b=true→A=R) (hno:(w&&(a&&b))=false→Ends (fc x) R I9):
  Ends (fc x) R (.aa pw (.ite (w==true) (.aa pa (.ite (a==true) (.aa pb (.ite (b==true) (.aa q1 (.aa q2 (.ret (.inr A)))) I9)) I9)) I9)):=by
 simp only [eN,eI,eR]
 cases w<;>cases a<;>cases b<;>simp_all
theorem nK {w of:Int} (h:of=1∨of=4∨of=8∨of=16∨of=32):bK 0 (dL w (VW of) 0)=fo w of:=by
 rcases h with rfl | rfl | rfl | rfl | rfl
 ·show bK 0 (cond (ae w 1) 0 (-1))=ae w 1
  cases ae w 1<;>rfl
 ·show bK 0 (cond (ae w 4) 0 (cond (ae w 8) 1 (-1)))=(ae w 4||ae w 8)
  cases ae w 4<;>cases ae w 8<;>rfl
 ·show bK 0 (cond (ae w 8) 0 (-1))=ae w 8
  cases ae w 8<;>rfl
 ·show bK 0 (cond (ae w 8) 0 (cond (ae w 8) 1 (-1)))=ae w 8
  cases ae w 8<;>rfl
 ·show bK 0 (cond (ae w 16) 0 (-1))=ae w 16
  cases ae w 16<;>rfl
end
end Go.aA.dE
end
section
namespace Go.aA.dE
open Go.aA.RV
open Go.aA
noncomputable section
theorem Yl:(true==false)=false:=rfl
theorem Yk:(false==true)=false:=rfl
theorem Yj:(true==true)=true:=rfl
theorem Yi:(false==false)=true:=rfl
theorem Y3 (k:Kd):ju k.s=k:=by cases k<;>rfl
theorem Ok {α β:Type} {s:α→Tr (α⊕β)} {r:β} {t e:Tr (α⊕β)}:Ends s r (.ite true t e)↔Ends s r t:=by simp [eI]
theorem Ol {α β:Type} {s:α→Tr (α⊕β)} {r:β} {t e:Tr (α⊕β)}:Ends s r (.ite false t e)↔Ends s r e:=by simp [eI]
theorem p21 (x):Fj x:=trivial
theorem p23 (x):Fk x:=trivial
theorem Zu (x):cZ x:=⟨sb _,trivial⟩
theorem Zt (x):fE x:=by unfold fE qx;simp only [dO,dD,dc,sb];simp
theorem Xs (x):lU x:=by unfold lU qw;simp only [dO,dD,dc,sb];simp
theorem Qd (x):nZ x:=by unfold nZ qm;simp only [dO,dD,dc,p21];simp
theorem Zs (x):si x:=by unfold si qv;simp only [dO,dD,dc,Qd];simp
theorem Zr (x):lT x:=by unfold lT qu;simp only [dO,dD,dc,Qd];simp
theorem Zp (x):mW x:=by unfold mW qp;simp only [dO,dD,dc,Qd];simp
theorem Zo (x):AJ x:=⟨trivial,trivial⟩
theorem Zn (x):fp x:=trivial
theorem Xr (x):kG x:=by unfold kG qt;simp only [dO,dD,dc,p23];simp
theorem Zq (x):mX x:=by unfold mX qq;simp only [dO,dD,dc,Xr,Xs];simp
theorem Ri (w:Int):pG ([1],w)=fo w 1:=(ou (by decide)).trans (nK (of:=1) (by decide))
theorem Rh (w:Int):pG ([4,8],w)=fo w 4:=(ou (by decide)).trans (nK (of:=4) (by decide))
theorem Rg (w:Int):pG ([8],w)=fo w 8:=(ou (by decide)).trans (nK (of:=8) (by decide))
theorem Oa (w:Int):pG ([8,8],w)=fo w 16:=(ou (by decide)).trans (nK (of:=16) (by decide))
theorem N9 (w:Int):pG ([16],w)=fo w 32:=(ou (by decide)).trans (nK (of:=32) (by decide))
theorem wh (w:Int):AK ([3,4,5,6,7,8,9,10],w)=True:=eq_true (IZ (show ([3,4,5,6,7,8,9,10]:List Int).length≤1000 from by decide))
theorem sC (w:Int):rk ([3,4,5,6,7,8,9,10],w)=dL w qg 0:=N6 (show ([3,4,5,6,7,8,9,10]:List Int).length≤1000 from by decide)
theorem Yq {c:Int} (h:0≤c∧c < 16):av .u8 c 15=c:=by
 have key:(List.range 16).all (fun k=>ae (av .u8 (k:Nat) 15) (k:Nat))=true:=by decide +kernel
 have:=ag.1 (List.all_eq_true.1 key c.toNat (List.mem_range.2 (by omega)))
 rwa [Int.toNat_of_nonneg h.1] at this
theorem Wi {c:Int} (h:0≤c∧c < 16):pf .u8 c 16=c:=by
 show c.tmod 16=c
 exact Int.tmod_eq_of_lt h.1 h.2
theorem X4 (o):cZ o∧eK o=Kd.b .rm o:=⟨Zu o,N5 o⟩
theorem X3 (o):fE o∧iV o=Kd.b .r o:=⟨Zt o,N4 o⟩
theorem X2 (o):lU o∧pF o=Kd.b .m o:=⟨Xs o,DX o⟩
theorem ab8 (o):si o∧yA o=Kd.b .i8 o:=⟨Zs o,N3 o⟩
theorem ab7 (o):lT o∧pE o=Kd.b .i32 o:=⟨Zr o,N2 o⟩
theorem X1 {o:DO} (h:l9 o.2.1):kG o∧ot o=Kd.b .x o:=⟨Xr o,DW h⟩
theorem ab6 {o:DO} (h:l9 o.2.1):mX o∧rj o=Kd.b .xm o:=⟨Zq o,N1 h⟩
theorem ab5 (o):mW o∧ri o=Kd.b .u8 o:=⟨Zp o,N0 o⟩
theorem ab4 (o):AJ o∧H3 o=Kd.b .cl o:=⟨Zo o,NZ o⟩
theorem X0 (o):fp o∧ij o=Kd.b .no o:=⟨Zn o,NX o⟩
theorem ab3 (o):nZ o∧tg o=Kd.b .i64 o:=⟨Qd o,rh o⟩
theorem Y7 {x:DI} {ka kb:Kd} {ws:List Int} {r:bh} {l:List bh} {pa pb:DO→Prop} {fa fb:DO→Bool} {q1 q2:Prop} {A:VM} {I9:T36}
  (hn:Ends (fc x) (Av (l.find? (jy x))) I9)
  (h1:q1:=by decide) (h2:q2:=by decide) (hp:AL (ws,x.2.2.1):=by exact I3 (by decide))
  (hw:pG (ws,x.2.2.1)=fo x.2.2.1 r.1:=by with_reducible first | exact Ri _ | exact Rh _ | exact Rg _ | exact Oa _ | exact N9 _)
  (kA:pa x.2.2.2.1∧fa x.2.2.2.1=ka.b x.2.2.2.1:=by with_reducible first | exact X4 _ | exact X3 _ | exact X2 _ | exact X0 _ | exact X1 (by assumption))
  (kB:pb x.2.2.2.2.1∧fb x.2.2.2.2.1=kb.b x.2.2.2.2.1:=by with_reducible first | exact X4 _ | exact X3 _ | exact X2 _ | exact ab8 _ | exact ab7 _ | exact ab5 _ | exact ab4 _ | exact X0 _ | exact ab3 _ | exact X1 (by assumption) | exact ab6 (by assumption))
  (ea:ju r.2.1=ka:=by rfl) (eb:ju r.2.2.1=kb:=by rfl) (hA:A=We r:=by rfl):
  Ends (fc x) (Av ((r :: l).find? (jy x))) (dZ x ws pa fa pb fb (.aa q1 (.aa q2 (.ret (.inr A)))) I9):=by
 have hf:jy x r=(fo x.2.2.1 r.1&&(ka.b x.2.2.2.1&&kb.b x.2.2.2.2.1)):=by unfold jy;rw [ea,eb]
 rw [List.find?_cons,hf]
 unfold dZ
 rw [hw,kA.2,kB.2]
 simp only [eN,eI,eR]
 have:=kA.1
 have:=kB.1
 cases fo x.2.2.1 r.1<;>cases ka.b x.2.2.2.1<;>cases kb.b x.2.2.2.2.1<;>simp_all [Av]
end
end Go.aA.dE
end
section
namespace Go.aA.dE
open Go.aA.RV
open Go.aA
noncomputable section
theorem pW (d c:Int) (h:∀ k:Int,1≤k→k≤39→ae d k=false):gF (d,c)=[]:=by
 unfold gF rY
 simp (config:={decide:=true}) only [bA,bS,bx,h,cond_false,Yl,Yk,Yj,Yi,cond_true]
 unfold mo iD
 simp (config:={decide:=true}) only [bA,bS,bx,h,cond_false,Yl,Yk,Yj,Yi,cond_true]
theorem FW (d c w:Int) (a b:DO) (i l:Int) (h:∀ k:Int,1≤k→k≤39→ae d k=false):Ends (fc ((d,(c,(w,(a,(b,(i,l)))))):DI)) (Av ((gF (d,c)).find? (jy ((d,(c,(w,(a,(b,(i,l)))))):DI)))) (fc ((d,(c,(w,(a,(b,(i,l)))))):DI) .h0):=by
 have ei:dL d qg 0 = -1:=by simp (config:={decide:=true}) only [dL,qg,h,cond_false]
 rw [pW d c h]
 simp only [fc,F1]
 simp (config:={decide:=true}) only [eN,Ok,Ol,wh,sC,ei,h,Yl,Yk,Yj,Yi,true_and,and_true,show bK 0 (-1)=false from rfl,Bool.not_true,Bool.not_false,eR]
 exact eJ.2 Rn
set_option maxHeartbeats 4000000 in
theorem Rl {x:DI} (ha:l9 (x.2.2.2.1).2.1) (hb:l9 (x.2.2.2.2.1).2.1) (hc:0≤x.2.1∧x.2.1 < 16):Ends (fc x) (Av ((gF (x.1,x.2.1)).find? (jy x))) (fc x .h0):=by
 obtain ⟨d,c,w,a,b,i,l⟩:=x
 dsimp only at ha hb hc ⊢
 by_cases hd:1≤d∧d≤39
 ·obtain ⟨h1,h2⟩:=hd
  have:d=1∨d=2∨d=3∨d=4∨d=5∨d=6∨d=7∨d=8∨d=9∨d=10∨d=11∨d=12∨d=13∨d=14∨d=15∨d=16∨d=17∨d=18∨d=19∨d=20∨d=21∨d=22∨d=23∨d=24∨d=25∨d=26∨d=27∨d=28∨d=29∨d=30∨d=31∨d=32∨d=33∨d=34∨d=35∨d=36∨d=37∨d=38∨d=39:=by omega
  rcases this with rfl | rfl | rfl | rfl | rfl | rfl | rfl | rfl | rfl | rfl | rfl | rfl | rfl | rfl | rfl | rfl | rfl | rfl | rfl | rfl | rfl | rfl | rfl | rfl | rfl | rfl | rfl | rfl | rfl | rfl | rfl | rfl | rfl | rfl | rfl | rfl | rfl | rfl | rfl
  all_goals
   simp (config:={decide:=true}) only [fc,oF,F1,dL,qg,cond_true,cond_false,eN,Ok,Ol,ae,bK,Int.reduceLE,decide_true,decide_false,Int.reduceBEq,beq_self_eq_true,Yl,Yk,Yj,Yi,wh,sC,true_and]
   simp (config:={decide:=true}) only [dr,SX,SZ,SY,OY,OX,OW,OU,OV,ON,OM,OQ,OP,OT,OS,OR,OO,OG,OF,OE,OD,OB,OA,Oz,Oy,Ox,OK,OI,OH,OJ,OC,OL,gF,rY,mo,iD,bA,bS,bx,iW,oe,gC,cD,eN,dL,qg,cond_true,cond_false,ae,bK,Int.reduceLE,decide_true,decide_false,Int.reduceBEq,beq_self_eq_true,Yl,Yk,Yj,Yi,sC,true_and,Yq hc,Wi hc]
   repeat first | refine Y7 ?_ | (rw [eJ];simp (config:={decide:=true}) only [fc,oe,gC,cD,eN,List.take_succ_cons,List.take_zero,true_and])
   exact eR.2 rfl
 ·exact FW d c w a b i l fun k k1 k2=>by rw [bf];omega
theorem Ea {x:DI} (ha:l9 (x.2.2.2.1).2.1) (hb:l9 (x.2.2.2.2.1).2.1) (hc:fX x.2.1):Ends (fc x) (Av (eC x)) (va x):=by
 have hno:Ends (fc x) (Av none) (.ret (.inr ((([]:List Int),(0,())),(((),((),(([]:List Int),(0,(0,0))))),false)))):=eR.2 rfl
 have hyes:bd 15 x.2.1=false→Ends (fc x) (Av ((gF (x.1,x.2.1)).find? (jy x))) (fc x .h0):=fun h=>by
  rw [b5] at h
  exact Rl ha hb ⟨hc.1,by omega⟩
 have e1:bK x.2.1 15=!(bd 15 x.2.1):=by
  cases h:bd 15 x.2.1 with
  | true=>rw [a6] at h;rw [Bool.not_true,gX];omega
  | false=>rw [b5] at h;rw [Bool.not_false,aQ];omega
 have ne:∀ a b:Int,ae a b=!(cB a b):=fun a b=>by
  cases h:cB a b with
  | true=>rw [ga] at h;rw [Bool.not_true,bf];exact h
  | false=>rw [m7] at h;rw [Bool.not_false,ag];exact h
 unfold eC qS
 rw [e1,ne x.2.1 0,ne x.1 39,ne x.2.2.2.2.2.1 0]
 unfold va
 dsimp only
 generalize hF:(gF (x.1,x.2.1)).find? (jy x)=F at hyes ⊢
 generalize ae x.1 29=a
 generalize ae x.1 30=b
 generalize ae x.1 31=c
 generalize bd 15 x.2.1=d at hyes ⊢
 generalize cB x.2.1 0=e
 generalize cB x.1 39=f
 generalize cB x.2.2.2.2.2.1 0=g
 cases a<;>cases b<;>cases c<;>cases d<;>cases e<;>cases f<;>cases g<;>
  (simp only [eI,eN,eJ,eR,Bool.not_true,Bool.not_false,Bool.and_true,Bool.and_false,Bool.true_and,Bool.false_and,Bool.or_true,Bool.or_false,Bool.true_or,Bool.false_or,cond_true,cond_false,true_and,and_true,
   implies_true,forall_const,Bool.false_eq_true,Bool.true_eq_false,false_implies,true_implies,beq_false,beq_true,reduceCtorEq,beq_self_eq_true];first | exact hyes rfl | rfl | trivial)
theorem CE {x:DI} (ha:l9 (x.2.2.2.1).2.1) (hb:l9 (x.2.2.2.2.1).2.1) (hc:fX x.2.1):Mw x:=⟨_,Ea ha hb hc⟩
theorem HU {x:DI} (ha:l9 (x.2.2.2.1).2.1) (hb:l9 (x.2.2.2.2.1).2.1) (hc:fX x.2.1):NS x=Av (eC x):=bT (Ea ha hb hc)
end
end Go.aA.dE
end
section
namespace Go.aA.RV
open Go.aA Go.RowKit
structure res {α:Type} (t:Tr α) (Q:α→Prop):Prop where
 ok:t.ok
 val:Q t.val
theorem uA {α:Type} {t:Tr α} {Q:α→Prop}:res t Q↔t.ok∧Q t.val:=⟨fun h=>⟨h.1,h.2⟩,fun h=>⟨h.1,h.2⟩⟩
theorem eT {α:Type} {p:Prop} {t:Tr α} {Q:α→Prop}:res (.aa p t) Q↔p∧res t Q:=by
 rw [uA,uA,dD,bS,and_assoc]
theorem bm {α:Type} {b:Bool} {t e:Tr α} {Q:α→Prop}:res (.ite b t e) Q↔(b=true→res t Q)∧(b=false→res e Q):=by
 simp only [uA]
 cases b<;>simp [Tr.ok,Tr.val]
theorem jG {α:Type} {a:α} {Q:α→Prop}:res (.ret a) Q↔Q a:=by
 rw [uA,dc,bx,true_and]
theorem res.and {α:Type} {t:Tr α} {Q:α→Prop} (h:res t Q):t.ok∧Q t.val:=⟨h.1,h.2⟩
abbrev St:Type:=DI×dY
abbrev L:Type:=List bX
def Xv:DO:=(0,(0,(0,(0,(0,(0,(false,0)))))))
def Jj:DI:=(0,(0,(0,(Xv,(Xv,(0,0))))))
def wd (n:Int):bl:=(true,(0,n))
def cl (c:Int):bl:=(false,(c,0))
def dd (op w d:Int) (a b c:bl):bX:=(op,(w,(d,(a,(b,(c,Jj))))))
theorem UN (n:Int):fg n=wd n:=rfl
theorem Rf (n:Int):fZ n=cl n:=rfl
theorem km (n:Int):dj n:=trivial
theorem kH (n:Int):dU n:=trivial
def gv (rd:Int→Prop) (n:Int) (v:bl):Prop:=
 (v.1=true∧v.2.1=0)∨(v.1=false∧v.2.2=0∧((0≤v.2.1∧v.2.1≤20∧rd v.2.1)∨(32≤v.2.1∧v.2.1 < n)))
theorem QI {rd:Int→Prop} {n m:Int} {v:bl} (h:gv rd n v) (hn:n≤m):gv rd m v:=by
 rcases h with h | ⟨h1,h2,h | h⟩
 ·exact .inl h
 ·exact .inr ⟨h1,h2,.inl h⟩
 ·exact .inr ⟨h1,h2,.inr ⟨h.1,by omega⟩⟩
theorem aB {rd:Int→Prop} {n:Int} (k:Int):gv rd n (wd k):=.inl ⟨rfl,rfl⟩
theorem SU {rd:Int→Prop} {n c:Int} (h:(0≤c∧c≤20∧rd c)∨(32≤c∧c < n)):gv rd n (cl c):=.inr ⟨rfl,rfl,h⟩
def jo (op:Int):Prop:=1≤op∧op < 28
inductive EA (rd:Int→Prop):Int→L→Int→List Int→Prop where
 | nil (n:Int):EA rd n [] n []
 | cell {n:Int} {op w d:Int} {a b c:bl} {l:L} {n':Int} {W:List Int} (ho:jo op) (hw:1≤w∧w≤8) (hd:0≤d∧d≤20) (ha:gv rd n a) (hb:gv rd n b) (hc:gv rd n c)
   (t:EA rd n l n' W):EA rd n (dd op w d a b c :: l) n' (d :: W)
 | none {n:Int} {op w:Int} {a b c:bl} {l:L} {n':Int} {W:List Int} (ho:op=28∨op=29) (hw:1≤w∧w≤8) (ha:gv rd n a) (hb:gv rd n b) (hc:gv rd n c)
   (t:EA rd n l n' W):EA rd n (dd op w 0 a b c :: l) n' W
 | Kc {n:Int} {op w:Int} {a b c:bl} {l:L} {n':Int} {W:List Int} (ho:jo op) (hw:1≤w∧w≤8) (hn:32≤n∧n < 64) (ha:gv rd n a) (hb:gv rd n b) (hc:gv rd n c)
   (t:EA rd (n+1) l n' W):EA rd n (dd op w n a b c :: l) n' W
 | vec {n:Int} {a:bl} {v:DI} {l:L} {n':Int} {W:List Int} (ha:gv rd n a) (hv:35≤v.1∧v.1≤39∧True)
   (t:EA rd n l n' W):EA rd n ((31,(16,(0,(a,(wd 0,(wd 0,v)))))) :: l) n' W
theorem EA.app {rd:Int→Prop} {n m k:Int} {l r:L} {W V:List Int} (h:EA rd n l m W) (g:EA rd m r k V):EA rd n (l++r) k (W++V):=by
 induction h with
 | nil=>exact g
 | cell ho hw hd ha hb hc _ ih=>exact .cell ho hw hd ha hb hc (ih g)
 | none ho hw ha hb hc _ ih=>exact .none ho hw ha hb hc (ih g)
 | Kc ho hw hn ha hb hc _ ih=>exact .Kc ho hw hn ha hb hc (ih g)
 | vec ha hv _ ih=>exact .vec ha hv (ih g)
theorem EA.le {rd:Int→Prop} {n m:Int} {l:L} {W:List Int} (h:EA rd n l m W):n≤m∧m≤n+l.length:=by
 induction h with
 | nil=>simp
 | cell _ _ _ _ _ _ _ ih=>simp only [List.length_cons];omega
 | none _ _ _ _ _ _ ih=>simp only [List.length_cons];omega
 | Kc _ _ _ _ _ _ _ ih=>simp only [List.length_cons];omega
 | vec _ _ _ ih=>simp only [List.length_cons];omega
structure G (rd:Int→Prop) (l:L) (n:Int) (W:List Int) (k:Nat):Prop where
 VA:EA rd 32 l n W
 len:l.length≤k
theorem G.ab0 {rd:Int→Prop} {l:L} {n:Int} {W:List Int} {k:Nat} (h:G rd l n W k):32≤n∧n≤32+k:=by
 have:=h.VA.le
 have:=h.len
 omega
theorem Ub {rd:Int→Prop} {n m:Int} {l:L} {W:List Int} (h:EA rd n l m W) (hn:32≤n):l.foldl (fun k (d:bX)=>imax k (aJ .i64 d.2.2.1 1)) n=m:=by
 have one:∀ {n d:Int},32≤n→0≤d→d≤64→imax n (aJ .i64 d 1)=if d+1 > n then d+1 else n:=fun h0 h1 h2=>by
  rw [dQ (by omega) (by omega)];rfl
 induction h with
 | nil=>rfl
 | cell _ _ hd _ _ _ _ ih=>
  simp only [List.foldl_cons,dd]
  rw [one hn hd.1 (by omega),if_neg (by omega)];exact ih hn
 | none _ _ _ _ _ _ ih=>
  simp only [List.foldl_cons,dd]
  rw [one hn (by omega) (by omega),if_neg (by omega)];exact ih hn
 | Kc _ _ hn' _ _ _ _ ih=>
  simp only [List.foldl_cons,dd]
  rw [one hn (by omega) (by omega),if_pos (by omega)];exact ih (by omega)
 | vec _ _ _ ih=>
  simp only [List.foldl_cons]
  rw [one hn (by omega) (by omega),if_neg (by omega)];exact ih hn
def xS (l:List bl) (i:Nat):bl:=l.getD i (wd 0)
theorem Bi (i:Nat) (l:List bl) (hi:i < 3):CC ((i:Int),l)∧DT ((i:Int),l)=xS l i:=by
 have key:res (u6 ((i:Int),l)) (fun r=>r=xS l i):=by
  simp only [u6,bm,eT,jG,a6,b5,xS,UN]
  refine ⟨fun h=>⟨by omega,h,?_⟩,fun h=>⟨km _,?_⟩⟩
  ·have h':i < l.length:=by omega
   rw [Int.toNat_natCast,iJ (c:=aj) h']
   simp [List.getD,h']
  ·have h':l.length≤i:=by omega
   simp [List.getD,List.getElem?_eq_none h']
 exact key.and
theorem P7 (S:St) (l:L) (op w c:Int) (vs:List bl) (hl:l.length≤1000):
  dP (S,(l,(op,(w,(c,vs)))))∧fM (S,(l,(op,(w,(c,vs)))))=(l++[dd op w c (xS vs 0) (xS vs 1) (xS vs 2)],()):=by
 have h0:=Bi 0 vs (by omega)
 have h1:=Bi 1 vs (by omega)
 have h2:=Bi 2 vs (by omega)
 have key:res (vm (S,(l,(op,(w,(c,vs)))))) (fun r=>r=(l++[dd op w c (xS vs 0) (xS vs 1) (xS vs 2)],())):=by
  simp only [vm,eT,jG]
  refine ⟨h0.1,h1.1,h2.1,by omega,by omega,trivial,by omega,by omega,by simp,trivial,?_⟩
  have e0:DT (0,vs)=xS vs 0:=h0.2
  have e1:DT (1,vs)=xS vs 1:=h1.2
  have e2:DT (2,vs)=xS vs 2:=h2.2
  rw [e0,e1,e2]
  rfl
 exact key.and
theorem ym (x:St×(L×(Int×(Int×List bl)))) (hl:x.2.1.length≤1000):∀ (k i:Nat) (m:Int),k+i=x.2.1.length→
  ∀ r,Ends (lR x) r (lR x (.h0 ((x.2.1.drop i).foldl (fun k (d:bX)=>imax k (aJ .i64 d.2.2.1 1)) m) (x.2.1.length:Int) (x.2.1.length:Int)))→Ends (lR x) r (lR x (.h0 m (x.2.1.length:Int) (i:Int)))
 | 0,i,m,hk,r,h=>by
  have hi:i=x.2.1.length:=by omega
  subst hi
  rw [List.drop_length] at h
  exact h
 | k+1,i,m,hk,r,h=>by
  have hi:i < x.2.1.length:=by omega
  simp only [lR]
  rw [eI]
  refine ⟨fun _=>?_,fun hn=>?_⟩
  ·simp only [eN,eJ]
   refine ⟨by omega,by omega,by omega,by simpa using hi,?_⟩
   rw [Int.toNat_natCast,iJ (c:=aP) hi]
   have e:aJ .i64 (i:Int) 1=((i+1:Nat):Int):=by rw [dQ (by omega) (by omega)];omega
   rw [e]
   refine ym x hl k (i+1) _ (by omega) r ?_
   rw [List.drop_eq_getElem_cons hi,List.foldl_cons] at h
   exact h
  ·rw [b5] at hn;omega
theorem q30 {rd:Int→Prop} (S:St) {l:L} (op w:Int) (vs:List bl) {n:Int} {W:List Int} {k:Nat} (h:G rd l n W k) (hk:k≤1000):
  bC (S,(l,(op,(w,vs))))∧aR (S,(l,(op,(w,vs))))=(l++[dd op w n (xS vs 0) (xS vs 1) (xS vs 2)],cl n):=by
 have hl:l.length≤1000:=Nat.le_trans h.len hk
 have qY:=P7 S l op w n vs hl
 have key:Ends (lR (S,(l,(op,(w,vs))))) (l++[dd op w n (xS vs 0) (xS vs 1) (xS vs 2)],cl n) (u9 (S,(l,(op,(w,vs))))):=by
  simp only [u9,eJ]
  refine ym (S,(l,(op,(w,vs)))) hl l.length 0 32 (by simp) _ ?_
  have e:(List.drop 0 l).foldl (fun k (d:bX)=>imax k (aJ .i64 d.2.2.1 1)) 32=n:=by rw [List.drop_zero];exact Ub h.VA (by omega)
  rw [e]
  simp only [lR]
  rw [eI]
  refine ⟨fun hn=>(by rw [a6] at hn;omega),fun _=>?_⟩
  simp only [eN,eR]
  refine ⟨trivial,qY.1,trivial,trivial,trivial,?_⟩
  rw [show fM _=_ from qY.2,Rf]
 exact ⟨⟨_,key⟩,bT key⟩
end Go.aA.RV
end
section
namespace Go.aA.RV
open Go.aA Go.RowKit
variable {rd:Int→Prop} {l:L} {n:Int} {W:List Int} {k:Nat}
theorem xz {a:bl} (ha:gv rd n a):∀ v∈[a],gv rd n v:=by
 intro v hv;simp only [List.mem_cons,List.not_mem_nil,or_false] at hv;subst hv;exact ha
theorem l7 {a b:bl} (ha:gv rd n a) (hb:gv rd n b):∀ v∈[a,b],gv rd n v:=by
 intro v hv;simp only [List.mem_cons,List.not_mem_nil,or_false] at hv;rcases hv with rfl | rfl<;>assumption
theorem SV {a b c:bl} (ha:gv rd n a) (hb:gv rd n b) (hc:gv rd n c):∀ v∈[a,b,c],gv rd n v:=by
 intro v hv;simp only [List.mem_cons,List.not_mem_nil,or_false] at hv;rcases hv with rfl | rfl | rfl<;>assumption
theorem m8 {vs:List bl} (h:∀ v∈vs,gv rd n v) (i:Nat):gv rd n (xS vs i):=by
 unfold xS
 rcases Nat.lt_or_ge i vs.length with hi | hi
 ·simp only [List.getD,List.getElem?_eq_getElem hi,Option.getD_some];exact h _ (List.getElem_mem hi)
 ·simp only [List.getD,List.getElem?_eq_none hi,Option.getD_none];exact aB _
theorem mk (S:St) (h:G rd l n W k) (hl:k≤31) {op w:Int} {vs:List bl} (ho:jo op) (hw:1≤w∧w≤8) (hv:∀ v∈vs,gv rd n v):
  bC (S,(l,(op,(w,vs))))∧G rd (aR (S,(l,(op,(w,vs))))).1 (n+1) W (k+1)∧gv rd (n+1) (aR (S,(l,(op,(w,vs))))).2:=by
 obtain ⟨h1,h2⟩:=q30 S op w vs h (by omega)
 have hn:=h.ab0
 have hk:=h.len
 rw [h2]
 refine ⟨h1,⟨?_,by simp;omega⟩,SU (.inr ⟨hn.1,by omega⟩)⟩
 have:=h.VA.app (.Kc ho hw (by omega) (m8 hv 0) (m8 hv 1) (m8 hv 2) (.nil _))
 rwa [List.append_nil] at this
theorem stc (S:St) (h:G rd l n W k) (hl:k≤1000) {op w c:Int} {vs:List bl} (ho:jo op) (hw:1≤w∧w≤8) (hc:0≤c∧c≤20) (hv:∀ v∈vs,gv rd n v):
  dP (S,(l,(op,(w,(c,vs)))))∧G rd (fM (S,(l,(op,(w,(c,vs)))))).1 n (W++[c]) (k+1):=by
 have hk:=h.len
 obtain ⟨h1,h2⟩:=P7 S l op w c vs (by omega)
 rw [h2]
 exact ⟨h1,⟨h.VA.app (.cell ho hw hc (m8 hv 0) (m8 hv 1) (m8 hv 2) (.nil _)),by simp;omega⟩⟩
theorem stn (S:St) (h:G rd l n W k) (hl:k≤1000) {op w:Int} {vs:List bl} (ho:op=28∨op=29) (hw:1≤w∧w≤8) (hv:∀ v∈vs,gv rd n v):
  dP (S,(l,(op,(w,(0,vs)))))∧G rd (fM (S,(l,(op,(w,(0,vs)))))).1 n W (k+1):=by
 have hk:=h.len
 obtain ⟨h1,h2⟩:=P7 S l op w 0 vs (by omega)
 rw [h2]
 have:=h.VA.app (.none ho hw (m8 hv 0) (m8 hv 1) (m8 hv 2) (.nil _))
 rw [List.append_nil] at this
 exact ⟨h1,⟨this,by simp;omega⟩⟩
theorem I1 (w:Int):Fo w:=trivial
theorem N7 (w:Int):1≤yB w∧yB w≤8:=by
 show 1≤xN (imax w 1) 8∧xN (imax w 1) 8≤8
 unfold xN imax
 split<;>split<;>omega
theorem ye (w:Int):AR w:=by
 have h:=N7 w
 have key:res (qB w) (fun _=>True):=by
  simp only [qB,eT,jG]
  exact ⟨I1 w,by omega,by omega,by omega,trivial⟩
 exact key.1
theorem I2 (v w:Int):Fp (v,w):=by
 have key:res (qA (v,w)) (fun _=>True):=by
  simp only [qA,eT,jG]
  exact ⟨ye w,trivial⟩
 exact key.1
theorem Mv {s:Int} (h:s=2∨s=4∨s=8):vZ (af .u64 s):=by
 have one:∀ s:Int,(s=2∨s=4∨s=8)→res (u0 (af .u64 s)) (fun _=>True):=by
  rintro s (rfl | rfl | rfl)<;>
  ·simp only [u0,bm,eT,jG]
   refine ⟨fun _=>trivial,fun _=>⟨by decide,?_,?_,?_,trivial⟩⟩<;>decide +kernel
 have key:∀ s:Int,(s=2∨s=4∨s=8)→Md (af .u64 s):=fun s hs=>(one s hs).1
 have:res (u7 (af .u64 s)) (fun _=>True):=by
  simp only [u7,eT,jG]
  exact ⟨key s h,trivial⟩
 exact this.1
structure YJ (rd:Int→Prop) (o:DO):Prop where
 base:o.1=2→0≤o.2.2.1→o.2.2.1≤15∧rd o.2.2.1
 idx:o.1=2→0≤o.2.2.2.1→o.2.2.2.1≤15∧rd o.2.2.2.1
 sc:o.1=2→0≤o.2.2.2.1→o.2.2.2.2.1=1∨o.2.2.2.2.1=2∨o.2.2.2.2.1=4∨o.2.2.2.2.1=8
theorem iU {c:Int} (h:0≤c) (h2:c≤20∧rd c):gv rd n (cl c):=SU (.inl ⟨h,h2.1,h2.2⟩)
theorem aU {n':Int} {v:bl} (hn:n≤n') (h:gv rd n v):gv rd n' v:=QI h hn
theorem Ba {n:Int} (k j:Int):gv rd n ((wd k).1,((wd k).2.1,j)):=.inl ⟨rfl,rfl⟩
def D1 (rd:Int→Prop) (n:Int) (W:List Int) (k:Nat) (r:L×bl):Prop:=∃ n',n≤n'∧G rd r.1 n' W k∧gv rd n' r.2
def D0 (rd:Int→Prop) (n:Int) (W:List Int) (k:Nat) (r:L×Unit):Prop:=∃ n',n≤n'∧G rd r.1 n' W k
theorem G.wk {k':Nat} (h:G rd l n W k) (hk:k≤k'):G rd l n W k':=⟨h.VA,Nat.le_trans h.len hk⟩
theorem D1.of {n':Int} {r:L×bl} {k':Nat} (hn:n≤n') (h:G rd r.1 n' W k) (hv:gv rd n' r.2) (hk:k≤k'):D1 rd n W k' r:=⟨n',hn,h.wk hk,hv⟩
theorem D0.of {n':Int} {r:L×Unit} {k':Nat} (hn:n≤n') (h:G rd r.1 n' W k) (hk:k≤k'):D0 rd n W k' r:=⟨n',hn,h.wk hk⟩
section
variable {α:Type} {t:Tr α} {Q:α→Prop}
theorem dw {S:St} (h:G rd l n W k) {op w:Int} {vs:List bl} (hl:k≤31) (ho:jo op) (hw:1≤w∧w≤8) (hv:∀ v∈vs,gv rd n v)
  (g:G rd (aR (S,(l,(op,(w,vs))))).1 (n+1) W (k+1)→gv rd (n+1) (aR (S,(l,(op,(w,vs))))).2→res t Q):res (.aa (bC (S,(l,(op,(w,vs))))) t) Q:=
 have p:=mk S h hl ho hw hv
 eT.2 ⟨p.1,g p.2.1 p.2.2⟩
theorem Jc {S:St} (h:G rd l n W k) {op w c:Int} {vs:List bl} (hl:k≤1000) (ho:jo op) (hw:1≤w∧w≤8) (hc:0≤c∧c≤20) (hv:∀ v∈vs,gv rd n v)
  (g:G rd (fM (S,(l,(op,(w,(c,vs)))))).1 n (W++[c]) (k+1)→res t Q):res (.aa (dP (S,(l,(op,(w,(c,vs)))))) t) Q:=
 have p:=stc S h hl ho hw hc hv
 eT.2 ⟨p.1,g p.2⟩
theorem n_n {S:St} (h:G rd l n W k) {op w:Int} {vs:List bl} (hl:k≤1000) (ho:op=28∨op=29) (hw:1≤w∧w≤8) (hv:∀ v∈vs,gv rd n v)
  (g:G rd (fM (S,(l,(op,(w,(0,vs)))))).1 n W (k+1)→res t Q):res (.aa (dP (S,(l,(op,(w,(0,vs)))))) t) Q:=
 have p:=stn S h hl ho hw hv
 eT.2 ⟨p.1,g p.2⟩
theorem jd {b:Bool} {e:Tr α} (h1:b=true→res t Q) (h2:b=false→res e Q):res (.ite b t e) Q:=bm.2 ⟨h1,h2⟩
theorem kp {p:Prop} (h1:p) (h2:res t Q):res (.aa p t) Q:=eT.2 ⟨h1,h2⟩
theorem cO {a:α} (h:Q a):res (.ret a) Q:=jG.2 h
theorem nP {p:Prop} (h2:res t Q) (h1:p:=by first | exact km _ | exact kH _ | exact I2 _ _ | rfl | (with_reducible decide)):res (.aa p t) Q:=eT.2 ⟨h1,h2⟩
end
theorem w8:1≤(8:Int)∧(8:Int)≤8:=⟨by decide,by decide⟩
theorem w1:1≤(1:Int)∧(1:Int)≤8:=⟨by decide,by decide⟩
theorem q15 (S:St) (h:G rd l n W k) (hl:k≤28) {o:DO} (ho:YJ rd o):res (vn (S,(l,o))) (D1 rd n W (k+3)):=by
 repeat refine nP ?_
 refine jd (fun _=>?_) fun hk=>?_
 ·repeat refine nP ?_
  exact cO (.of (by omega) h (aB _) (by omega))
 replace hk:=m7.1 hk
 repeat refine nP ?_
 have hb:∀ {b:Int},b=o.2.2.1→bK 0 b=true→gv rd n (cl b):=fun e hb=>by
  subst e;have:=aQ.1 hb;exact iU this ⟨by have:=ho.base hk this;omega,(ho.base hk this).2⟩
 have hi:∀ {b:Int} {n':Int},b=o.2.2.2.1→bK 0 b=true→gv rd n' (cl b):=fun e hb=>by
  subst e;have:=aQ.1 hb;exact iU this ⟨by have:=ho.idx hk this;omega,(ho.idx hk this).2⟩
 have hs:∀ {b s:Int},b=o.2.2.2.1→s=o.2.2.2.2.1→bK 0 b=true→bd 1 s=true→vZ (af .u64 s):=fun e e' hb hs=>by
  subst e;subst e';have:=aQ.1 hb;have h1:=a6.1 hs;exact Mv ((ho.sc hk this).resolve_left (by omega))
 repeat refine nP ?_
 refine jd (fun _=>?_) fun _=>?_
 ·repeat refine nP ?_
  refine jd (fun h1=>?_) fun _=>?_
  ·repeat refine nP ?_
   refine dw h (by omega) ⟨by decide,by decide⟩ w8 (l7 (Ba _ _) (hb rfl h1)) fun g1 v1=>?_
   repeat refine nP ?_
   refine jd (fun h2=>?_) fun _=>?_
   ·repeat refine nP ?_
    refine jd (fun h3=>?_) fun _=>?_
    ·repeat refine nP ?_
     refine kp (hs rfl rfl h2 h3) ?_
     repeat refine nP ?_
     refine dw g1 (by omega) ⟨by decide,by decide⟩ w8 (l7 (hi rfl h2) (aB _)) fun g2 v2=>?_
     repeat refine nP ?_
     refine dw g2 (by omega) ⟨by decide,by decide⟩ w8 (l7 (aU (by omega) v1) v2) fun g3 v3=>?_
     repeat refine nP ?_
     exact cO (.of (by omega) g3 v3 (by omega))
    ·repeat refine nP ?_
     refine dw g1 (by omega) ⟨by decide,by decide⟩ w8 (l7 v1 (hi rfl h2)) fun g2 v2=>?_
     repeat refine nP ?_
     exact cO (.of (by omega) g2 v2 (by omega))
   ·repeat refine nP ?_
    exact cO (.of (by omega) g1 v1 (by omega))
  ·repeat refine nP ?_
   refine jd (fun h2=>?_) fun _=>?_
   ·repeat refine nP ?_
    refine jd (fun h3=>?_) fun _=>?_
    ·repeat refine nP ?_
     refine kp (hs rfl rfl h2 h3) ?_
     repeat refine nP ?_
     refine dw h (by omega) ⟨by decide,by decide⟩ w8 (l7 (hi rfl h2) (aB _)) fun g2 v2=>?_
     repeat refine nP ?_
     refine dw g2 (by omega) ⟨by decide,by decide⟩ w8 (l7 (Ba _ _) v2) fun g3 v3=>?_
     repeat refine nP ?_
     exact cO (.of (by omega) g3 v3 (by omega))
    ·repeat refine nP ?_
     refine dw h (by omega) ⟨by decide,by decide⟩ w8 (l7 (Ba _ _) (hi rfl h2)) fun g2 v2=>?_
     repeat refine nP ?_
     exact cO (.of (by omega) g2 v2 (by omega))
   ·repeat refine nP ?_
    exact cO (.of (by omega) h (Ba _ _) (by omega))
 ·repeat refine nP ?_
  refine jd (fun h1=>?_) fun _=>?_
  ·repeat refine nP ?_
   refine dw h (by omega) ⟨by decide,by decide⟩ w8 (l7 (aB _) (hb rfl h1)) fun g1 v1=>?_
   repeat refine nP ?_
   refine jd (fun h2=>?_) fun _=>?_
   ·repeat refine nP ?_
    refine jd (fun h3=>?_) fun _=>?_
    ·repeat refine nP ?_
     refine kp (hs rfl rfl h2 h3) ?_
     repeat refine nP ?_
     refine dw g1 (by omega) ⟨by decide,by decide⟩ w8 (l7 (hi rfl h2) (aB _)) fun g2 v2=>?_
     repeat refine nP ?_
     refine dw g2 (by omega) ⟨by decide,by decide⟩ w8 (l7 (aU (by omega) v1) v2) fun g3 v3=>?_
     repeat refine nP ?_
     exact cO (.of (by omega) g3 v3 (by omega))
    ·repeat refine nP ?_
     refine dw g1 (by omega) ⟨by decide,by decide⟩ w8 (l7 v1 (hi rfl h2)) fun g2 v2=>?_
     repeat refine nP ?_
     exact cO (.of (by omega) g2 v2 (by omega))
   ·repeat refine nP ?_
    exact cO (.of (by omega) g1 v1 (by omega))
  ·repeat refine nP ?_
   refine jd (fun h2=>?_) fun _=>?_
   ·repeat refine nP ?_
    refine jd (fun h3=>?_) fun _=>?_
    ·repeat refine nP ?_
     refine kp (hs rfl rfl h2 h3) ?_
     repeat refine nP ?_
     refine dw h (by omega) ⟨by decide,by decide⟩ w8 (l7 (hi rfl h2) (aB _)) fun g2 v2=>?_
     repeat refine nP ?_
     refine dw g2 (by omega) ⟨by decide,by decide⟩ w8 (l7 (aB _) v2) fun g3 v3=>?_
     repeat refine nP ?_
     exact cO (.of (by omega) g3 v3 (by omega))
    ·repeat refine nP ?_
     refine dw h (by omega) ⟨by decide,by decide⟩ w8 (l7 (aB _) (hi rfl h2)) fun g2 v2=>?_
     repeat refine nP ?_
     exact cO (.of (by omega) g2 v2 (by omega))
   ·repeat refine nP ?_
    exact cO (.of (by omega) h (aB _) (by omega))
end Go.aA.RV
end
section
namespace Go.aA.RV
open Go.aA Go.RowKit
variable {rd:Int→Prop} {l:L} {n:Int} {W:List Int} {k:Nat} {S:St}
theorem ct {α β:Type} {u:Tr β} {P:β→Prop} (q:res u P) {t:Tr α} {Q:α→Prop} (g:P u.val→res t Q):res (.aa u.ok t) Q:=kp q.1 (g q.2)
structure Cx (rd:Int→Prop) (S:St) (n:Int):Prop where
 w:1≤S.2.1∧S.2.1≤8
 a:gv rd n S.2.2.2.2.1
 b:gv rd n S.2.2.2.2.2.1
theorem Cx.up {n':Int} (h:Cx rd S n) (hn:n≤n'):Cx rd S n':=⟨h.w,aU hn h.a,aU hn h.b⟩
theorem Qv {c:Int} (h:c≤15):c≤20:=by omega
def k7 (rd:Int→Prop) (o:DO):Prop:=o.1=1→0≤o.2.1∧o.2.1≤15∧rd o.2.1
def pk (rd:Int→Prop) (w:Int) (o:DO):Prop:=(o.1=1∨o.1=2)∧(o.1=1→0≤o.2.1∧o.2.1≤15∧(w=1→rd o.2.1))
def dW (o:DO):List Int:=if o.1=2 then [] else [o.2.1]
def D2 (rd:Int→Prop) (n:Int) (W:List Int) (k:Nat) (r:L×gT):Prop:=∃ n',n≤n'∧G rd r.1 n' W k∧gv rd n' r.2.1∧gv rd n' r.2.2
theorem D2.of {n':Int} {r:L×gT} {k':Nat} (hn:n≤n') (h:G rd r.1 n' W k) (hv:gv rd n' r.2.1) (hu:gv rd n' r.2.2) (hk:k≤k'):D2 rd n W k' r:=⟨n',hn,h.wk hk,hv,hu⟩
theorem Fg (h:G rd l n W k) (hk:k≤31) {o:DO} {at':bl} {w:Int} (hw:1≤w∧w≤8) (ho:k7 rd o) (ha:gv rd n at'):res (zd (S,(l,(o,(at',w))))) (D1 rd n W (k+1)):=by
 repeat refine nP ?_
 refine jd (fun h1=>?_) fun _=>jd (fun h2=>?_) fun _=>?_
 ·repeat refine nP ?_
  have:=ho (ag.1 h1)
  repeat refine nP ?_
  exact cO (.of (by omega) h (iU this.1 ⟨Qv this.2.1,this.2.2⟩) (by omega))
 ·repeat refine nP ?_
  refine dw h (by omega) ⟨by decide,by decide⟩ hw (xz ha) fun g1 v1=>?_
  repeat refine nP ?_
  exact cO (.of (by omega) g1 v1 (by omega))
 ·repeat refine nP ?_
  exact cO (.of (by omega) h (aB _) (by omega))
theorem q93 (h:G rd l n W k) (hk:k≤29) {o:DO} {at' v:bl} {w:Int} (hw:1≤w∧w≤8) (ho:pk rd w o) (ha:gv rd n at') (hv:gv rd n v):res (ue (S,(l,(o,(at',(w,v)))))) (D0 rd n (W++dW o) (k+3)):=by
 repeat refine nP ?_
 refine jd (fun h1=>?_) fun h1=>?_
 ·have e:dW o=[]:=if_pos (ag.1 h1)
  rw [e,List.append_nil]
  repeat refine nP ?_
  refine n_n h (by omega) (.inl rfl) hw (l7 ha hv) fun g1=>?_
  repeat refine nP ?_
  exact cO (.of (by omega) g1 (by omega))
 ·have h1:o.1≠2:=bf.1 h1
  have e:dW o=[o.2.1]:=if_neg h1
  have hr:=ho.2 (ho.1.resolve_right h1)
  rw [e]
  repeat refine nP ?_
  refine jd (fun h2=>?_) fun _=>?_
  ·have hrd:=hr.2.2 (ag.1 h2)
   repeat refine nP ?_
   refine dw h (by omega) ⟨by decide,by decide⟩ w8 (l7 (iU hr.1 ⟨Qv hr.2.1,hrd⟩) (aB _)) fun g1 v1=>?_
   repeat refine nP ?_
   refine dw g1 (by omega) ⟨by decide,by decide⟩ w1 (xz (aU (by omega) hv)) fun g2 v2=>?_
   repeat refine nP ?_
   refine Jc g2 (by omega) ⟨by decide,by decide⟩ w8 ⟨hr.1,Qv hr.2.1⟩ (l7 (aU (by omega) v1) v2) fun g3=>?_
   repeat refine nP ?_
   exact cO (.of (by omega) g3 (by omega))
  ·repeat refine nP ?_
   refine Jc h (by omega) ⟨by decide,by decide⟩ hw ⟨hr.1,Qv hr.2.1⟩ (xz hv) fun g3=>?_
   repeat refine nP ?_
   exact cO (.of (by omega) g3 (by omega))
theorem GX (h:G rd l n W k) (hk:k≤29) (hC:Cx rd S n) (ho:pk rd S.2.1 S.1.2.2.2.1) {v:bl} (hv:gv rd n v):res (ze (S,(l,v))) (D0 rd n (W++dW S.1.2.2.2.1) (k+3)):=by
 repeat refine nP ?_
 refine ct (q93 h hk hC.w ho hC.a hv) fun ⟨n1,hn1,g1⟩=>?_
 repeat refine nP ?_
 exact cO (.of hn1 g1 (by omega))
theorem I0 (x:DI):Fl x:=by
 have:res (qz x) (fun _=>True):=by
  simp only [qz,bm,jG]
  simp
 exact this.1
theorem Zk (h:G rd l n W k) (hk:k≤30) (hC:Cx rd S n) (hA:fN S.1=false→k7 rd S.1.2.2.2.1) (hB:fN S.1=false→k7 rd S.1.2.2.2.2.1):res (um (S,(l,()))) (D2 rd n W (k+2)):=by
 repeat refine nP ?_
 refine kp (I0 _) ?_
 repeat refine nP ?_
 refine jd (fun _=>?_) fun h1=>?_
 ·repeat refine nP ?_
  exact cO (.of (by omega) h (aB _) (aB _) (by omega))
 ·repeat refine nP ?_
  refine ct (Fg h (by omega) hC.w (hA h1) hC.a) fun ⟨n1,hn1,g1,v1⟩=>?_
  repeat refine nP ?_
  refine ct (Fg g1 (by omega) hC.w (hB h1) (aU hn1 hC.b)) fun ⟨n2,hn2,g2,v2⟩=>?_
  repeat refine nP ?_
  exact cO (.of (by omega) g2 (aU hn2 v1) v2 (by omega))
theorem Sd (h:G rd l n W k) (hk:k≤900) {c o:bl} (hc:gv rd n c) (ho:gv rd n o):res (uk (S,(l,(c,o)))) (D0 rd n (W++[16]++[19]) (k+2)):=by
 repeat refine nP ?_
 refine Jc h (by omega) ⟨by decide,by decide⟩ w1 ⟨by decide,by decide⟩ (xz hc) fun g1=>?_
 repeat refine nP ?_
 refine Jc g1 (by omega) ⟨by decide,by decide⟩ w1 ⟨by decide,by decide⟩ (xz ho) fun g2=>?_
 repeat refine nP ?_
 exact cO (.of (by omega) g2 (by omega))
theorem Sc (h:G rd l n W k) (hk:k≤900) (hw:1≤S.2.1∧S.2.1≤8) {c:bl} (hc:gv rd n c):res (uj (S,(l,c))) (D0 rd n (W++[17]++[18]++[20]) (k+3)):=by
 repeat refine nP ?_
 refine Jc h (by omega) ⟨by decide,by decide⟩ hw ⟨by decide,by decide⟩ (xz hc) fun g1=>?_
 repeat refine nP ?_
 refine Jc g1 (by omega) ⟨by decide,by decide⟩ hw ⟨by decide,by decide⟩ (xz hc) fun g2=>?_
 repeat refine nP ?_
 refine Jc g2 (by omega) ⟨by decide,by decide⟩ hw ⟨by decide,by decide⟩ (xz hc) fun g3=>?_
 repeat refine nP ?_
 exact cO (.of (by omega) g3 (by omega))
def aW (c:Bool) (S:St):List Int:=if c=true then dW S.1.2.2.2.1 else []
theorem q85 (h:G rd l n W k) (hk:k≤26) (hC:Cx rd S n) (ho:S.1.1≠10→pk rd S.2.1 S.1.2.2.2.1) {b0 b1 b2:Int} (hb:jo b0∧jo b1∧jo b2) {x y z:bl} (hx:gv rd n x) (hy:gv rd n y) (hz:gv rd n z):
  res (uq (S,(l,([b0,b1,b2],(x,(y,z)))))) (D0 rd n (W++aW (cB S.1.1 10) S++[16]++[19]++[17]++[18]++[20]) (k+11)):=by
 repeat refine nP ?_
 refine dw h (by omega) hb.1 hC.w (SV hx hy hz) fun g1 v1=>?_
 repeat refine nP ?_
 refine dw g1 (by omega) hb.2.1 hC.w (SV (aU (by omega) hx) (aU (by omega) hy) (aU (by omega) hz)) fun g2 v2=>?_
 repeat refine nP ?_
 refine dw g2 (by omega) hb.2.2 hC.w (SV (aU (by omega) hx) (aU (by omega) hy) (aU (by omega) hz)) fun g3 v3=>?_
 repeat refine nP ?_
 refine jd (fun h1=>?_) fun h1=>?_
 ·have e:aW (cB S.1.1 10) S=dW S.1.2.2.2.1:=if_pos h1
  rw [e]
  repeat refine nP ?_
  refine ct (GX g3 (by omega) (hC.up (by omega)) (ho (ga.1 h1)) (aU (by omega) v1)) fun ⟨n4,hn4,g4⟩=>?_
  repeat refine nP ?_
  refine ct (Sd g4 (by omega) (aU (by omega) v2) (aU (by omega) v3)) fun ⟨n5,hn5,g5⟩=>?_
  repeat refine nP ?_
  refine ct (Sc g5 (by omega) hC.w (aU (by omega) v1)) fun ⟨n6,hn6,g6⟩=>?_
  repeat refine nP ?_
  exact cO (.of (by omega) g6 (by omega))
 ·have e:aW (cB S.1.1 10) S=[]:=if_neg (by rw [show cB S.1.1 10=false from h1];simp)
  rw [e,List.append_nil]
  repeat refine nP ?_
  refine ct (Sd g3 (by omega) (aU (by omega) v2) (aU (by omega) v3)) fun ⟨n5,hn5,g5⟩=>?_
  repeat refine nP ?_
  refine ct (Sc g5 (by omega) hC.w (aU (by omega) v1)) fun ⟨n6,hn6,g6⟩=>?_
  repeat refine nP ?_
  exact cO (.of (by omega) g6 (by omega))
theorem YB (h:G rd l n W k) (hk:k≤24) (hC:Cx rd S n) (hA:fN S.1=false→k7 rd S.1.2.2.2.1) (hB:fN S.1=false→k7 rd S.1.2.2.2.2.1) (ho:S.1.1≠10→pk rd S.2.1 S.1.2.2.2.1)
  {b0 b1 b2:Int} (hb:jo b0∧jo b1∧jo b2) {z:bl} (hz:gv rd n z):
  res (zb (S,(l,([b0,b1,b2],z)))) (D0 rd n (W++aW (cB S.1.1 10) S++[16]++[19]++[17]++[18]++[20]) (k+13)):=by
 repeat refine nP ?_
 refine ct (Zk h (by omega) hC hA hB) fun ⟨n1,hn1,g1,v1,u1⟩=>?_
 repeat refine nP ?_
 refine ct (q85 g1 (by omega) (hC.up hn1) ho hb v1 u1 (aU hn1 hz)) fun ⟨n2,hn2,g2⟩=>?_
 repeat refine nP ?_
 exact cO (.of (by omega) g2 (by omega))
theorem s2:jo 2∧jo 4∧jo 6:=⟨⟨by decide,by decide⟩,⟨by decide,by decide⟩,by decide,by decide⟩
theorem s3:jo 3∧jo 5∧jo 7:=⟨⟨by decide,by decide⟩,⟨by decide,by decide⟩,by decide,by decide⟩
theorem q34 (h:G rd l n W k) (hk:k≤24) (hC:Cx rd S n) (hA:fN S.1=false→k7 rd S.1.2.2.2.1) (hB:fN S.1=false→k7 rd S.1.2.2.2.2.1) (ho:S.1.1≠10→pk rd S.2.1 S.1.2.2.2.1):
  res (zS (S,(l,()))) (D0 rd n (W++aW (cB S.1.1 10) S++[16]++[19]++[17]++[18]++[20]) (k+13)):=by
 repeat refine nP ?_
 refine ct (YB h hk hC hA hB ho s2 (aB _)) fun ⟨n1,hn1,g1⟩=>?_
 repeat refine nP ?_
 exact cO (.of hn1 g1 (by omega))
theorem q35 (h:G rd l n W k) (hk:k≤24) (hC:Cx rd S n) (hA:fN S.1=false→k7 rd S.1.2.2.2.1) (hB:fN S.1=false→k7 rd S.1.2.2.2.2.1) (ho:S.1.1≠10→pk rd S.2.1 S.1.2.2.2.1) (hc:rd 16):
  res (zQ (S,(l,()))) (D0 rd n (W++aW (cB S.1.1 10) S++[16]++[19]++[17]++[18]++[20]) (k+13)):=by
 repeat refine nP ?_
 refine ct (YB h hk hC hA hB ho s2 (iU (by decide) ⟨by decide,hc⟩)) fun ⟨n1,hn1,g1⟩=>?_
 repeat refine nP ?_
 exact cO (.of hn1 g1 (by omega))
theorem q36 (h:G rd l n W k) (hk:k≤24) (hC:Cx rd S n) (hA:fN S.1=false→k7 rd S.1.2.2.2.1) (hB:fN S.1=false→k7 rd S.1.2.2.2.2.1) (ho:S.1.1≠10→pk rd S.2.1 S.1.2.2.2.1):
  res (zP (S,(l,()))) (D0 rd n (W++aW (cB S.1.1 10) S++[16]++[19]++[17]++[18]++[20]) (k+13)):=by
 repeat refine nP ?_
 refine ct (YB h hk hC hA hB ho s3 (aB _)) fun ⟨n1,hn1,g1⟩=>?_
 repeat refine nP ?_
 exact cO (.of hn1 g1 (by omega))
theorem q37 (h:G rd l n W k) (hk:k≤24) (hC:Cx rd S n) (hA:fN S.1=false→k7 rd S.1.2.2.2.1) (hB:fN S.1=false→k7 rd S.1.2.2.2.2.1) (ho:S.1.1≠10→pk rd S.2.1 S.1.2.2.2.1) (hc:rd 16):
  res (zN (S,(l,()))) (D0 rd n (W++aW (cB S.1.1 10) S++[16]++[19]++[17]++[18]++[20]) (k+13)):=by
 repeat refine nP ?_
 refine ct (YB h hk hC hA hB ho s3 (iU (by decide) ⟨by decide,hc⟩)) fun ⟨n1,hn1,g1⟩=>?_
 repeat refine nP ?_
 exact cO (.of hn1 g1 (by omega))
theorem q43 (h:G rd l n W k) (hk:k≤24) (hC:Cx rd S n) (hA:k7 rd S.1.2.2.2.1) (ho:S.1.1≠10→pk rd S.2.1 S.1.2.2.2.1):
  res (zG (S,(l,()))) (D0 rd n (W++aW (cB S.1.1 10) S++[16]++[19]++[17]++[18]++[20]) (k+13)):=by
 repeat refine nP ?_
 refine ct (Fg h (by omega) hC.w hA hC.a) fun ⟨n1,hn1,g1,v1⟩=>?_
 repeat refine nP ?_
 refine ct (q85 g1 (by omega) (hC.up hn1) ho s3 (aB _) v1 (aB _)) fun ⟨n2,hn2,g2⟩=>?_
 repeat refine nP ?_
 exact cO (.of (by omega) g2 (by omega))
end Go.aA.RV
end
section
namespace Go.aA.RV
open Go.aA Go.RowKit
variable {rd:Int→Prop} {l:L} {n:Int} {W:List Int} {k:Nat} {S:St}
theorem Zl (h:G rd l n W k) (hk:k≤24) (hC:Cx rd S n) (hA:fN S.1=false→k7 rd S.1.2.2.2.1) (hB:fN S.1=false→k7 rd S.1.2.2.2.2.1) (ho:S.1.1≠11→pk rd S.2.1 S.1.2.2.2.1) {op:Int} (hop:jo op):
  res (uu (S,(l,op))) (D0 rd n (W++aW (cB S.1.1 11) S++[16]++[19]++[17]++[18]++[20]) (k+11)):=by
 repeat refine nP ?_
 refine ct (Zk h (by omega) hC hA hB) fun ⟨n1,hn1,g1,v1,u1⟩=>?_
 repeat refine nP ?_
 refine dw g1 (by omega) hop hC.w (l7 v1 u1) fun g2 v2=>?_
 repeat refine nP ?_
 refine jd (fun h1=>?_) fun h1=>?_
 ·have e:aW (cB S.1.1 11) S=dW S.1.2.2.2.1:=if_pos h1
  rw [e]
  repeat refine nP ?_
  refine ct (GX g2 (by omega) (hC.up (by omega)) (ho (ga.1 h1)) v2) fun ⟨n4,hn4,g4⟩=>?_
  repeat refine nP ?_
  refine ct (Sd g4 (by omega) (aB _) (aB _)) fun ⟨n5,hn5,g5⟩=>?_
  repeat refine nP ?_
  refine ct (Sc g5 (by omega) hC.w (aU (by omega) v2)) fun ⟨n6,hn6,g6⟩=>?_
  repeat refine nP ?_
  exact cO (.of (by omega) g6 (by omega))
 ·have e:aW (cB S.1.1 11) S=[]:=if_neg (by rw [show cB S.1.1 11=false from h1];simp)
  rw [e,List.append_nil]
  repeat refine nP ?_
  refine ct (Sd g2 (by omega) (aB _) (aB _)) fun ⟨n5,hn5,g5⟩=>?_
  repeat refine nP ?_
  refine ct (Sc g5 (by omega) hC.w (aU (by omega) v2)) fun ⟨n6,hn6,g6⟩=>?_
  repeat refine nP ?_
  exact cO (.of (by omega) g6 (by omega))
theorem q38 (h:G rd l n W k) (hk:k≤24) (hC:Cx rd S n) (hA:fN S.1=false→k7 rd S.1.2.2.2.1) (hB:fN S.1=false→k7 rd S.1.2.2.2.2.1) (ho:S.1.1≠11→pk rd S.2.1 S.1.2.2.2.1):
  res (zM (S,(l,()))) (D0 rd n (W++aW (cB S.1.1 11) S++[16]++[19]++[17]++[18]++[20]) (k+11)):=by
 repeat refine nP ?_
 refine ct (Zl h hk hC hA hB ho ⟨by decide,by decide⟩) fun ⟨n1,hn1,g1⟩=>?_
 repeat refine nP ?_
 exact cO (.of hn1 g1 (by omega))
theorem q39 (h:G rd l n W k) (hk:k≤24) (hC:Cx rd S n) (hA:fN S.1=false→k7 rd S.1.2.2.2.1) (hB:fN S.1=false→k7 rd S.1.2.2.2.2.1) (ho:S.1.1≠11→pk rd S.2.1 S.1.2.2.2.1):
  res (zL (S,(l,()))) (D0 rd n (W++aW (cB S.1.1 11) S++[16]++[19]++[17]++[18]++[20]) (k+11)):=by
 repeat refine nP ?_
 refine ct (Zl h hk hC hA hB ho ⟨by decide,by decide⟩) fun ⟨n1,hn1,g1⟩=>?_
 repeat refine nP ?_
 exact cO (.of hn1 g1 (by omega))
theorem q40 (h:G rd l n W k) (hk:k≤24) (hC:Cx rd S n) (hA:fN S.1=false→k7 rd S.1.2.2.2.1) (hB:fN S.1=false→k7 rd S.1.2.2.2.2.1) (ho:S.1.1≠11→pk rd S.2.1 S.1.2.2.2.1):
  res (zK (S,(l,()))) (D0 rd n (W++aW (cB S.1.1 11) S++[16]++[19]++[17]++[18]++[20]) (k+11)):=by
 repeat refine nP ?_
 refine ct (Zl h hk hC hA hB ho ⟨by decide,by decide⟩) fun ⟨n1,hn1,g1⟩=>?_
 repeat refine nP ?_
 exact cO (.of hn1 g1 (by omega))
theorem q84 (h:G rd l n W k) (hk:k≤24) (hC:Cx rd S n) (hA:k7 rd S.1.2.2.2.1) (ho:pk rd S.2.1 S.1.2.2.2.1) {op ov:Int} (hop:jo op) (hov:jo ov):
  res (ur (S,(l,(op,ov)))) (D0 rd n (W++dW S.1.2.2.2.1++[19]++[17]++[18]++[20]) (k+10)):=by
 repeat refine nP ?_
 refine ct (Fg h (by omega) hC.w hA hC.a) fun ⟨n1,hn1,g1,v1⟩=>?_
 repeat refine nP ?_
 refine dw g1 (by omega) hop hC.w (l7 v1 (aB _)) fun g2 v2=>?_
 repeat refine nP ?_
 refine dw g2 (by omega) hov hC.w (l7 (aU (by omega) v1) (aB _)) fun g3 v3=>?_
 repeat refine nP ?_
 refine ct (GX g3 (by omega) (hC.up (by omega)) ho (aU (by omega) v2)) fun ⟨n4,hn4,g4⟩=>?_
 repeat refine nP ?_
 refine Jc g4 (by omega) ⟨by decide,by decide⟩ w1 ⟨by decide,by decide⟩ (xz (aU (by omega) v3)) fun g5=>?_
 repeat refine nP ?_
 refine ct (Sc g5 (by omega) hC.w (aU (by omega) v2)) fun ⟨n6,hn6,g6⟩=>?_
 repeat refine nP ?_
 exact cO (.of (by omega) g6 (by omega))
theorem q41 (h:G rd l n W k) (hk:k≤24) (hC:Cx rd S n) (hA:k7 rd S.1.2.2.2.1) (ho:pk rd S.2.1 S.1.2.2.2.1):res (zJ (S,(l,()))) (D0 rd n (W++dW S.1.2.2.2.1++[19]++[17]++[18]++[20]) (k+10)):=by
 repeat refine nP ?_
 refine ct (q84 h hk hC hA ho ⟨by decide,by decide⟩ ⟨by decide,by decide⟩) fun ⟨n1,hn1,g1⟩=>?_
 repeat refine nP ?_
 exact cO (.of hn1 g1 (by omega))
theorem q42 (h:G rd l n W k) (hk:k≤24) (hC:Cx rd S n) (hA:k7 rd S.1.2.2.2.1) (ho:pk rd S.2.1 S.1.2.2.2.1):res (zH (S,(l,()))) (D0 rd n (W++dW S.1.2.2.2.1++[19]++[17]++[18]++[20]) (k+10)):=by
 repeat refine nP ?_
 refine ct (q84 h hk hC hA ho ⟨by decide,by decide⟩ ⟨by decide,by decide⟩) fun ⟨n1,hn1,g1⟩=>?_
 repeat refine nP ?_
 exact cO (.of hn1 g1 (by omega))
theorem q44 (h:G rd l n W k) (hk:k≤24) (hC:Cx rd S n) (hA:k7 rd S.1.2.2.2.1) (ho:pk rd S.2.1 S.1.2.2.2.1):res (zF (S,(l,()))) (D0 rd n (W++dW S.1.2.2.2.1) (k+5)):=by
 repeat refine nP ?_
 refine ct (Fg h (by omega) hC.w hA hC.a) fun ⟨n1,hn1,g1,v1⟩=>?_
 repeat refine nP ?_
 refine kp (ye _) ?_
 repeat refine nP ?_
 refine dw g1 (by omega) ⟨by decide,by decide⟩ hC.w (l7 v1 (aB _)) fun g2 v2=>?_
 repeat refine nP ?_
 refine ct (GX g2 (by omega) (hC.up (by omega)) ho v2) fun ⟨n4,hn4,g4⟩=>?_
 repeat refine nP ?_
 exact cO (.of (by omega) g4 (by omega))
theorem q50 (h:G rd l n W k) (hk:k≤22) (hC:Cx rd S n) (hA:fN S.1=false→k7 rd S.1.2.2.2.1) (hB:fN S.1=false→k7 rd S.1.2.2.2.2.1) (ho:pk rd S.2.1 S.1.2.2.2.1):
  res (zx (S,(l,()))) (D0 rd n (W++dW S.1.2.2.2.1++[16]++[19]++[17]++[18]++[20]) (k+12)):=by
 repeat refine nP ?_
 refine ct (Zk h (by omega) hC hA hB) fun ⟨n1,hn1,g1,v1,u1⟩=>?_
 repeat refine nP ?_
 refine dw g1 (by omega) ⟨by decide,by decide⟩ hC.w (l7 v1 u1) fun g2 v2=>?_
 repeat refine nP ?_
 refine dw g2 (by omega) ⟨by decide,by decide⟩ hC.w (l7 (aU (by omega) v1) (aU (by omega) u1)) fun g3 v3=>?_
 repeat refine nP ?_
 refine ct (GX g3 (by omega) (hC.up (by omega)) ho (aU (by omega) v2)) fun ⟨n4,hn4,g4⟩=>?_
 repeat refine nP ?_
 refine ct (Sd g4 (by omega) (aU (by omega) v3) (aU (by omega) v3)) fun ⟨n5,hn5,g5⟩=>?_
 repeat refine nP ?_
 refine ct (Sc g5 (by omega) hC.w (aU (by omega) v2)) fun ⟨n6,hn6,g6⟩=>?_
 repeat refine nP ?_
 exact cO (.of (by omega) g6 (by omega))
theorem q91 (h:G rd l n W k) (hk:k≤900) (hw:1≤S.2.1∧S.2.1≤8) {a b:bl} (ha:gv rd n a) (hb:gv rd n b):res (ug (S,(l,(a,b)))) (D0 rd n (W++[0]++[2]) (k+2)):=by
 repeat refine nP ?_
 refine Jc h (by omega) ⟨by decide,by decide⟩ hw ⟨by decide,by decide⟩ (xz ha) fun g1=>?_
 repeat refine nP ?_
 refine Jc g1 (by omega) ⟨by decide,by decide⟩ hw ⟨by decide,by decide⟩ (xz hb) fun g2=>?_
 repeat refine nP ?_
 exact cO (.of (by omega) g2 (by omega))
theorem q51 (h:G rd l n W k) (hk:k≤22) (hC:Cx rd S n) (hA:k7 rd S.1.2.2.2.1) (h0:rd 0):res (zw (S,(l,()))) (D0 rd n (W++[0]++[2]++[16]++[19]++[17]++[18]++[20]) (k+12)):=by
 have hv0:∀ {n:Int},gv rd n (cl 0):=iU (by decide) ⟨by decide,h0⟩
 repeat refine nP ?_
 refine ct (Fg h (by omega) hC.w hA hC.a) fun ⟨n1,hn1,g1,v1⟩=>?_
 repeat refine nP ?_
 refine dw g1 (by omega) ⟨by decide,by decide⟩ hC.w (l7 hv0 v1) fun g2 v2=>?_
 repeat refine nP ?_
 refine dw g2 (by omega) ⟨by decide,by decide⟩ hC.w (l7 hv0 (aU (by omega) v1)) fun g3 v3=>?_
 repeat refine nP ?_
 refine dw g3 (by omega) ⟨by decide,by decide⟩ hC.w (xz v3) fun g4 v4=>?_
 repeat refine nP ?_
 refine dw g4 (by omega) ⟨by decide,by decide⟩ w1 (l7 v4 (aB _)) fun g5 v5=>?_
 repeat refine nP ?_
 refine ct (q91 g5 (by omega) hC.w (aU (by omega) v2) (aU (by omega) v3)) fun ⟨n6,hn6,g6⟩=>?_
 repeat refine nP ?_
 refine ct (Sd g6 (by omega) (aU (by omega) v5) (aU (by omega) v5)) fun ⟨n7,hn7,g7⟩=>?_
 repeat refine nP ?_
 refine ct (Sc g7 (by omega) hC.w (aU (by omega) v2)) fun ⟨n8,hn8,g8⟩=>?_
 repeat refine nP ?_
 exact cO (.of (by omega) g8 (by omega))
theorem q52 (h:G rd l n W k) (hk:k≤22) (hC:Cx rd S n) (hA:k7 rd S.1.2.2.2.1) (h0:rd 0) (h2:rd 2):res (zu (S,(l,()))) (D0 rd n (W++[0]++[2]) (k+6)):=by
 have hv0:∀ {n:Int},gv rd n (cl 0):=iU (by decide) ⟨by decide,h0⟩
 have hv2:∀ {n:Int},gv rd n (cl 2):=iU (by decide) ⟨by decide,h2⟩
 repeat refine nP ?_
 refine ct (Fg h (by omega) hC.w hA hC.a) fun ⟨n1,hn1,g1,v1⟩=>?_
 repeat refine nP ?_
 refine n_n g1 (by omega) (.inr rfl) hC.w (SV hv0 v1 hv2) fun g2=>?_
 repeat refine nP ?_
 refine dw g2 (by omega) ⟨by decide,by decide⟩ hC.w (SV hv0 (aU (by omega) v1) hv2) fun g3 v3=>?_
 repeat refine nP ?_
 refine dw g3 (by omega) ⟨by decide,by decide⟩ hC.w (SV hv0 (aU (by omega) v1) hv2) fun g4 v4=>?_
 repeat refine nP ?_
 refine ct (q91 g4 (by omega) hC.w (aU (by omega) v3) (aU (by omega) v4)) fun ⟨n6,hn6,g6⟩=>?_
 repeat refine nP ?_
 exact cO (.of (by omega) g6 (by omega))
theorem q92 (h:G rd l n W k) (hk:k≤28) (h4:rd 4) {v:bl} (hv:gv rd n v):res (uf (S,(l,v))) (D0 rd n (W++[4]) (k+3)):=by
 have hv4:∀ {n:Int},gv rd n (cl 4):=iU (by decide) ⟨by decide,h4⟩
 repeat refine nP ?_
 refine dw h (by omega) ⟨by decide,by decide⟩ w8 (l7 hv4 (aB _)) fun g1 v1=>?_
 repeat refine nP ?_
 refine n_n g1 (by omega) (.inl rfl) w8 (l7 v1 (aU (by omega) hv)) fun g2=>?_
 repeat refine nP ?_
 refine Jc g2 (by omega) ⟨by decide,by decide⟩ w8 ⟨by decide,by decide⟩ (xz v1) fun g3=>?_
 repeat refine nP ?_
 exact cO (.of (by omega) g3 (by omega))
theorem q53 (h:G rd l n W k) (hk:k≤27) (hC:Cx rd S n) (hA:k7 rd S.1.2.2.2.1) (h4:rd 4):res (zt (S,(l,()))) (D0 rd n (W++[4]) (k+4)):=by
 repeat refine nP ?_
 refine ct (Fg h (by omega) w8 hA hC.a) fun ⟨n1,hn1,g1,v1⟩=>?_
 repeat refine nP ?_
 refine ct (q92 g1 (by omega) h4 v1) fun ⟨n2,hn2,g2⟩=>?_
 repeat refine nP ?_
 exact cO (.of (by omega) g2 (by omega))
theorem q94 (h:G rd l n W k) (hk:k≤28) (h4:rd 4):res (ud (S,(l,()))) (D1 rd n (W++[4]) (k+3)):=by
 have hv4:∀ {n:Int},gv rd n (cl 4):=iU (by decide) ⟨by decide,h4⟩
 repeat refine nP ?_
 refine dw h (by omega) ⟨by decide,by decide⟩ w8 (xz hv4) fun g1 v1=>?_
 repeat refine nP ?_
 refine dw g1 (by omega) ⟨by decide,by decide⟩ w8 (l7 hv4 (aB _)) fun g2 v2=>?_
 repeat refine nP ?_
 refine Jc g2 (by omega) ⟨by decide,by decide⟩ w8 ⟨by decide,by decide⟩ (xz v2) fun g3=>?_
 repeat refine nP ?_
 exact cO (.of (by omega) g3 (aU (by omega) v1) (by omega))
theorem q54 (h:G rd l n W k) (hk:k≤22) (hC:Cx rd S n) (ho:pk rd 8 S.1.2.2.2.1) (h4:rd 4):res (zr (S,(l,()))) (D0 rd n (W++[4]++dW S.1.2.2.2.1) (k+6)):=by
 repeat refine nP ?_
 refine ct (q94 h (by omega) h4) fun ⟨n1,hn1,g1,v1⟩=>?_
 repeat refine nP ?_
 refine ct (q93 g1 (by omega) w8 ho (aU hn1 hC.a) v1) fun ⟨n2,hn2,g2⟩=>?_
 repeat refine nP ?_
 exact cO (.of (by omega) g2 (by omega))
theorem Zj (h:G rd l n W k):res (uc (S,(l,()))) (D1 rd n W k):=by
 repeat refine nP ?_
 exact cO (.of (by omega) h (aB _) (by omega))
theorem q32 (h:G rd l n W k) (hk:k≤27) (hC:Cx rd S n) (hB:k7 rd S.1.2.2.2.2.1) (ho:pk rd S.2.1 S.1.2.2.2.1):res (zU (S,(l,()))) (D0 rd n (W++dW S.1.2.2.2.1) (k+4)):=by
 repeat refine nP ?_
 refine ct (Fg h (by omega) hC.w hB hC.b) fun ⟨n1,hn1,g1,v1⟩=>?_
 repeat refine nP ?_
 refine ct (GX g1 (by omega) (hC.up hn1) ho v1) fun ⟨n2,hn2,g2⟩=>?_
 repeat refine nP ?_
 exact cO (.of (by omega) g2 (by omega))
theorem q33 (h:G rd l n W k) (hk:k≤27) (hC:Cx rd S n) (ho:pk rd S.2.1 S.1.2.2.2.1):res (zT (S,(l,()))) (D0 rd n (W++dW S.1.2.2.2.1) (k+3)):=by
 repeat refine nP ?_
 refine ct (GX h (by omega) hC ho hC.b) fun ⟨n2,hn2,g2⟩=>?_
 repeat refine nP ?_
 exact cO (.of (by omega) g2 (by omega))
theorem q61 (h:G rd l n W k) (hk:k≤26) (hC:Cx rd S n) (hB:k7 rd S.1.2.2.2.2.1) (ho:pk rd S.2.1 S.1.2.2.2.1):res (zn (S,(l,()))) (D0 rd n (W++dW S.1.2.2.2.1) (k+5)):=by
 repeat refine nP ?_
 refine ct (Fg h (by omega) w1 hB hC.b) fun ⟨n1,hn1,g1,v1⟩=>?_
 repeat refine nP ?_
 refine dw g1 (by omega) ⟨by decide,by decide⟩ w1 (xz v1) fun g2 v2=>?_
 repeat refine nP ?_
 refine ct (GX g2 (by omega) (hC.up (by omega)) ho v2) fun ⟨n3,hn3,g3⟩=>?_
 repeat refine nP ?_
 exact cO (.of (by omega) g3 (by omega))
theorem q62 (h:G rd l n W k) (hk:k≤26) (hC:Cx rd S n) (hB:k7 rd S.1.2.2.2.2.1) (ho:pk rd S.2.1 S.1.2.2.2.1):res (zm (S,(l,()))) (D0 rd n (W++dW S.1.2.2.2.1) (k+5)):=by
 repeat refine nP ?_
 refine ct (Fg h (by omega) w1 hB hC.b) fun ⟨n1,hn1,g1,v1⟩=>?_
 repeat refine nP ?_
 refine dw g1 (by omega) ⟨by decide,by decide⟩ w1 (xz v1) fun g2 v2=>?_
 repeat refine nP ?_
 refine ct (GX g2 (by omega) (hC.up (by omega)) ho v2) fun ⟨n3,hn3,g3⟩=>?_
 repeat refine nP ?_
 exact cO (.of (by omega) g3 (by omega))
end Go.aA.RV
end
section
namespace Go.aA.RV
open Go.aA Go.RowKit
variable {rd:Int→Prop} {l:L} {n:Int} {W:List Int} {k:Nat} {S:St}
theorem xG (h:G rd l n W k) (hk:k≤31) {op:Int} {a b:bl} (hop:jo op) (ha:gv rd n a) (hb:gv rd n b):res (tX (S,(l,(op,(a,b))))) (D1 rd n W (k+1)):=by
 repeat refine nP ?_
 refine dw h (by omega) hop w1 (l7 ha hb) fun g1 v1=>?_
 repeat refine nP ?_
 exact cO (.of (by omega) g1 v1 (by omega))
def cN (cc:Int):Int:=cond (ae cc 0) 19 (cond (ae cc 2) 16 (cond (ae cc 4) 17 (cond (ae cc 8) 18 (cond (ae cc 10) 20 0))))
theorem Yf (cc:Int):0≤cN cc∧cN cc≤20:=by
 unfold cN
 cases ae cc 0<;>cases ae cc 2<;>cases ae cc 4<;>cases ae cc 8<;>cases ae cc 10<;>decide
structure YX (rd:Int→Prop) (cc:Int):Prop where
 a:cc=6→rd 16∧rd 17
 l:cc=12→rd 18∧rd 19
 g:cc=14→rd 17∧rd 18∧rd 19
 s:cc≠6→cc≠12→cc≠14→rd (cN cc)
theorem s9:jo 9:=⟨by decide,by decide⟩
theorem VR:jo 10:=⟨by decide,by decide⟩
theorem s25:jo 25:=⟨by decide,by decide⟩
theorem Zi (h:G rd l n W k) (hk:k≤27) (hc:YX rd (ic .u8 S.1.2.1 1)):res (ub (S,(l,()))) (D1 rd n W (k+4)):=by
 have fl:∀ {c n:Int},0≤c→c≤20→rd c→gv rd n (cl c):=fun h1 h2 h3=>iU h1 ⟨h2,h3⟩
 repeat refine nP ?_
 refine jd (fun h1=>?_) fun h1=>?_
 ·have hr:=hc.a (ag.1 h1)
  repeat refine nP ?_
  refine ct (xG h (by omega) s9 (fl (by decide) (by decide) hr.1) (fl (by decide) (by decide) hr.2)) fun ⟨n1,hn1,g1,v1⟩=>?_
  repeat refine nP ?_
  refine jd (fun _=>?_) fun _=>?_
  ·repeat refine nP ?_
   refine ct (xG g1 (by omega) VR v1 (aB _)) fun ⟨n2,hn2,g2,v2⟩=>?_
   repeat refine nP ?_
   exact cO (.of (by omega) g2 v2 (by omega))
  ·repeat refine nP ?_
   exact cO (.of (by omega) g1 v1 (by omega))
 repeat refine nP ?_
 refine jd (fun h2=>?_) fun h2=>?_
 ·have hr:=hc.l (ag.1 h2)
  repeat refine nP ?_
  refine ct (xG h (by omega) s25 (fl (by decide) (by decide) hr.1) (fl (by decide) (by decide) hr.2)) fun ⟨n1,hn1,g1,v1⟩=>?_
  repeat refine nP ?_
  refine ct (xG g1 (by omega) VR v1 (aB _)) fun ⟨n2,hn2,g2,v2⟩=>?_
  repeat refine nP ?_
  refine jd (fun h3=>?_) fun _=>?_
  ·exact absurd ((ag.1 h2).symm.trans (ag.1 h3)) (by decide)
  repeat refine nP ?_
  refine jd (fun _=>?_) fun _=>?_
  ·repeat refine nP ?_
   refine ct (xG g2 (by omega) VR v2 (aB _)) fun ⟨n3,hn3,g3,v3⟩=>?_
   repeat refine nP ?_
   exact cO (.of (by omega) g3 v3 (by omega))
  ·repeat refine nP ?_
   exact cO (.of (by omega) g2 v2 (by omega))
 repeat refine nP ?_
 refine jd (fun h3=>?_) fun h3=>?_
 ·have hr:=hc.g (ag.1 h3)
  repeat refine nP ?_
  refine ct (xG h (by omega) s25 (fl (by decide) (by decide) hr.2.1) (fl (by decide) (by decide) hr.2.2)) fun ⟨n1,hn1,g1,v1⟩=>?_
  repeat refine nP ?_
  refine ct (xG g1 (by omega) VR v1 (aB _)) fun ⟨n2,hn2,g2,v2⟩=>?_
  repeat refine nP ?_
  refine jd (fun _=>?_) fun h4=>?_
  ·repeat refine nP ?_
   refine ct (xG g2 (by omega) s9 (fl (by decide) (by decide) hr.1) v2) fun ⟨n3,hn3,g3,v3⟩=>?_
   repeat refine nP ?_
   refine jd (fun _=>?_) fun _=>?_
   ·repeat refine nP ?_
    refine ct (xG g3 (by omega) VR v3 (aB _)) fun ⟨n4,hn4,g4,v4⟩=>?_
    repeat refine nP ?_
    exact cO (.of (by omega) g4 v4 (by omega))
   ·repeat refine nP ?_
    exact cO (.of (by omega) g3 v3 (by omega))
  ·exact absurd (h3.symm.trans h4) (by decide)
 ·have hr:=hc.s (bf.1 h1) (bf.1 h2) (bf.1 h3)
  have hle:=Yf (ic .u8 S.1.2.1 1)
  repeat refine nP ?_
  refine jd (fun _=>?_) fun _=>?_
  ·repeat refine nP ?_
   refine ct (xG h (by omega) VR (fl hle.1 hle.2 hr) (aB _)) fun ⟨n1,hn1,g1,v1⟩=>?_
   repeat refine nP ?_
   exact cO (.of (by omega) g1 v1 (by omega))
  ·repeat refine nP ?_
   exact cO (.of (by omega) h (fl hle.1 hle.2 hr) (by omega))
theorem q59 (h:G rd l n W k) (hk:k≤22) (hC:Cx rd S n) (hA:k7 rd S.1.2.2.2.1) (hB:k7 rd S.1.2.2.2.2.1) (hc:YX rd (ic .u8 S.1.2.1 1)) (ho:pk rd S.2.1 S.1.2.2.2.1):res (zq (S,(l,()))) (D0 rd n (W++dW S.1.2.2.2.1) (k+10)):=by
 repeat refine nP ?_
 refine ct (Fg h (by omega) hC.w hA hC.a) fun ⟨n1,hn1,g1,v1⟩=>?_
 repeat refine nP ?_
 refine ct (Fg g1 (by omega) hC.w hB (aU hn1 hC.b)) fun ⟨n2,hn2,g2,v2⟩=>?_
 repeat refine nP ?_
 refine ct (Zi g2 (by omega) hc) fun ⟨n3,hn3,g3,v3⟩=>?_
 repeat refine nP ?_
 refine dw g3 (by omega) ⟨by decide,by decide⟩ w8 (SV (aU (by omega) v2) (aU (by omega) v1) v3) fun g4 v4=>?_
 repeat refine nP ?_
 refine ct (GX g4 (by omega) (hC.up (by omega)) ho v4) fun ⟨n5,hn5,g5⟩=>?_
 repeat refine nP ?_
 exact cO (.of (by omega) g5 (by omega))
theorem q60 (h:G rd l n W k) (hk:k≤22) (hC:Cx rd S n) (hc:YX rd (ic .u8 S.1.2.1 1)) (ho:pk rd S.2.1 S.1.2.2.2.1):res (zp (S,(l,()))) (D0 rd n (W++dW S.1.2.2.2.1) (k+7)):=by
 repeat refine nP ?_
 refine ct (Zi h (by omega) hc) fun ⟨n3,hn3,g3,v3⟩=>?_
 repeat refine nP ?_
 refine ct (GX g3 (by omega) (hC.up (by omega)) ho v3) fun ⟨n5,hn5,g5⟩=>?_
 repeat refine nP ?_
 exact cO (.of (by omega) g5 (by omega))
theorem TN (h:G rd l n W k) (hk:k≤31) {a b c:bl} (ha:gv rd n a) (hb:gv rd n b):res (tW (S,(l,(a,(b,c))))) (D1 rd n W (k+1)):=by
 repeat refine nP ?_
 refine jd (fun _=>?_) fun _=>?_
 ·repeat refine nP ?_
  exact cO (.of (by omega) h (aB _) (by omega))
 ·repeat refine nP ?_
  refine dw h (by omega) ⟨by decide,by decide⟩ w1 (l7 ha hb) fun g1 v1=>?_
  repeat refine nP ?_
  exact cO (.of (by omega) g1 v1 (by omega))
theorem P8 (h:G rd l n W k) (hk:k≤31) {a:bl} (ha:gv rd n a):res (tV (S,(l,a))) (D1 rd n W (k+1)):=by
 repeat refine nP ?_
 refine dw h (by omega) ⟨by decide,by decide⟩ w1 (l7 ha (aB _)) fun g1 v1=>?_
 repeat refine nP ?_
 exact cO (.of (by omega) g1 v1 (by omega))
theorem LC (h:G rd l n W k) (hk:k≤31) (hw:1≤S.2.1∧S.2.1≤8) {a:bl} (ha:gv rd n a):res (tU (S,(l,a))) (D1 rd n W (k+1)):=by
 repeat refine nP ?_
 refine dw h (by omega) ⟨by decide,by decide⟩ hw (xz ha) fun g1 v1=>?_
 repeat refine nP ?_
 exact cO (.of (by omega) g1 v1 (by omega))
theorem WT (h:G rd l n W k) (hk:k≤26) (hw:1≤S.2.1∧S.2.1≤8) {x r c:bl} (hx:gv rd n x) (hr:gv rd n r) (hc:gv rd n c):res (tZ (S,(l,(x,(r,c))))) (D2 rd n W (k+5)):=by
 repeat refine nP ?_
 refine jd (fun _=>?_) fun _=>jd (fun _=>?_) fun _=>jd (fun _=>?_) fun _=>jd (fun _=>?_) fun _=>?_
 ·repeat refine nP ?_
  refine ct (TN h (by omega) (aB _) hc) fun ⟨n1,hn1,g1,v1⟩=>?_
  repeat refine nP ?_
  refine dw g1 (by omega) ⟨by decide,by decide⟩ hw (l7 (aU hn1 hx) v1) fun g2 v2=>?_
  repeat refine nP ?_
  refine ct (P8 g2 (by omega) v2) fun ⟨n3,hn3,g3,v3⟩=>?_
  repeat refine nP ?_
  refine ct (LC g3 (by omega) hw (aU (by omega) hr)) fun ⟨n4,hn4,g4,v4⟩=>?_
  repeat refine nP ?_
  refine dw g4 (by omega) ⟨by decide,by decide⟩ w1 (l7 v4 (aU hn4 v3)) fun g5 v5=>?_
  repeat refine nP ?_
  exact cO (.of (by omega) g5 (aU (by omega) v3) v5 (by omega))
 ·repeat refine nP ?_
  refine ct (TN h (by omega) hc (aB _)) fun ⟨n1,hn1,g1,v1⟩=>?_
  repeat refine nP ?_
  refine dw g1 (by omega) ⟨by decide,by decide⟩ hw (l7 (aU hn1 hx) v1) fun g2 v2=>?_
  repeat refine nP ?_
  refine ct (P8 g2 (by omega) v2) fun ⟨n3,hn3,g3,v3⟩=>?_
  repeat refine nP ?_
  refine ct (LC g3 (by omega) hw (aU (by omega) hx)) fun ⟨n4,hn4,g4,v4⟩=>?_
  repeat refine nP ?_
  exact cO (.of (by omega) g4 (aU (by omega) v3) v4 (by omega))
 ·repeat refine nP ?_
  refine ct (TN h (by omega) hc (aB _)) fun ⟨n1,hn1,g1,v1⟩=>?_
  repeat refine nP ?_
  refine dw g1 (by omega) ⟨by decide,by decide⟩ hw (l7 (aU hn1 hx) v1) fun g2 v2=>?_
  repeat refine nP ?_
  refine ct (P8 g2 (by omega) v2) fun ⟨n3,hn3,g3,v3⟩=>?_
  repeat refine nP ?_
  exact cO (.of (by omega) g3 v3 (aB _) (by omega))
 ·repeat refine nP ?_
  refine ct (P8 h (by omega) hr) fun ⟨n1,hn1,g1,v1⟩=>?_
  repeat refine nP ?_
  refine ct (LC g1 (by omega) hw (aU hn1 hr)) fun ⟨n2,hn2,g2,v2⟩=>?_
  repeat refine nP ?_
  refine dw g2 (by omega) ⟨by decide,by decide⟩ w1 (l7 v2 (aU hn2 v1)) fun g3 v3=>?_
  repeat refine nP ?_
  exact cO (.of (by omega) g3 (aU (by omega) v1) v3 (by omega))
 ·repeat refine nP ?_
  refine ct (LC h (by omega) hw hr) fun ⟨n1,hn1,g1,v1⟩=>?_
  repeat refine nP ?_
  refine dw g1 (by omega) ⟨by decide,by decide⟩ hw (l7 (aU hn1 hr) (aB _)) fun g2 v2=>?_
  repeat refine nP ?_
  refine ct (LC g2 (by omega) hw v2) fun ⟨n3,hn3,g3,v3⟩=>?_
  repeat refine nP ?_
  refine dw g3 (by omega) ⟨by decide,by decide⟩ w1 (l7 (aU (by omega) v1) v3) fun g4 v4=>?_
  repeat refine nP ?_
  exact cO (.of (by omega) g4 (aU (by omega) v1) v4 (by omega))
theorem Fh (h:G rd l n W k) (hk:k≤900) {c:Int} {v u:bl} (hc:0≤c∧c≤20) (hr:rd c) (hv:gv rd n v) (hu:gv rd n u):res (tY (S,(l,(c,(v,u))))) (D0 rd n (W++[c]) (k+1)):=by
 repeat refine nP ?_
 refine Jc h (by omega) ⟨by decide,by decide⟩ w8 hc (SV hv (iU hc.1 ⟨hc.2,hr⟩) hu) fun g1=>?_
 repeat refine nP ?_
 exact cO (.of (by omega) g1 (by omega))
theorem XT {α:Type} {t:Tr α} {Q:α→Prop} {S:St} (h:G rd l n W k) {op w:Int} {vs:List bl} (hl:k≤31) (ho:jo op) (hw:1≤w∧w≤8) (hv:∀ v∈vs,gv rd n v)
  (g:G rd (aR (S,(l,(op,(w,vs))))).1 (n+1) W (k+1)→gv rd (n+1) (aR (S,(l,(op,(w,vs))))).2→(aR (S,(l,(op,(w,vs))))).2=cl n→res t Q):res (.aa (bC (S,(l,(op,(w,vs))))) t) Q:=
 have p:=mk S h hl ho hw hv
 eT.2 ⟨p.1,g p.2.1 p.2.2 (by rw [(q30 S op w vs h (by omega)).2])⟩
def plain (op:Int):Bool:=cB op 14&&cB op 15
def VQ (S:St):Int:=pf .u64 (af .u64 S.1.2.2.2.2.1.2.2.2.2.2.2.2) (af .u64 (cX .i64 8 S.2.1))
def IM (op:Int) (S:St):List Int:=if S.1.2.2.2.2.1.1≠1∧VQ S=0 then dW S.1.2.2.2.1 else dW S.1.2.2.2.1++[16]++[19]++(if plain op=true then [17]++[18]++[20] else [])
structure JX (rd:Int→Prop) (op:Int):Prop where
 cx:rd 1
 c:rd 16
 o:rd 19
 p:plain op=true→rd 17∧rd 18∧rd 20
theorem WR (h:G rd l n W k) (hk:k≤12) (hC:Cx rd S n) (hA:k7 rd S.1.2.2.2.1) (ho:pk rd S.2.1 S.1.2.2.2.1) {op:Int} (hop:jo op) (hB:S.1.2.2.2.2.1.1=1→JX rd op) (h9:af .u64 (cX .i64 8 S.2.1)≠0):
  res (uo (S,(l,op))) (D0 rd n (W++IM op S) (k+19)):=by
 have plT:cB op 14=true→cB op 15=true→plain op=true:=fun a b=>by unfold plain;rw [a,b];rfl
 have plF:(cB op 14=false∨cB op 15=false)→plain op=false:=fun a=>by
  unfold plain;rcases a with a | a<;>rw [a]
  ·rfl
  ·rw [Bool.and_false]
 repeat refine nP ?_
 refine ct (Fg h (by omega) hC.w hA hC.a) fun ⟨n1,hn1,g1,v1⟩=>?_
 repeat refine nP ?_
 refine kp h9 ?_
 repeat refine nP ?_
 refine jd (fun hb=>?_) fun hb=>?_
 ·have hb:S.1.2.2.2.2.1.1=1:=ag.1 hb
  have hR:=hB hb
  have e0:W++IM op S=W++dW S.1.2.2.2.1++[16]++[19]++(if plain op=true then [17]++[18]++[20] else []):=by
   unfold IM;rw [if_neg (by rintro ⟨h,_⟩;exact h hb)];simp only [List.append_assoc]
  rw [e0]
  repeat refine nP ?_
  refine XT g1 (by omega) ⟨by decide,by decide⟩ w1 (l7 (iU (by decide) ⟨by decide,hR.cx⟩) (aB _)) fun g2 v2 e2=>?_
  repeat refine nP ?_
  refine jd (fun h1=>?_) fun _=>?_
  ·have h3:=e2.symm.trans ((nh (c:=aj) rfl).1 h1)
   have h4:false=true:=congrArg Prod.fst h3
   cases h4
  repeat refine nP ?_
  refine dw g2 (by omega) hop hC.w (l7 (aU (by omega) v1) v2) fun g3 v3=>?_
  repeat refine nP ?_
  refine ct (WT g3 (by omega) hC.w (aU (by omega) v1) v3 (aU (by omega) v2)) fun ⟨n4,hn4,g4,v4,u4⟩=>?_
  repeat refine nP ?_
  refine ct (GX g4 (by omega) (hC.up (by omega)) ho (aU (by omega) v3)) fun ⟨n5,hn5,g5⟩=>?_
  have nf:∀ {P:Prop} {b:Bool},b=true→b=(cl n1).1→P:=fun h1 h2=>by rw [h2] at h1;cases h1
  repeat refine nP ?_
  refine jd (fun h1=>?_) fun h1=>?_
  ·have h1:cB op 14=true:=by simpa using h1
   repeat refine nP ?_
   refine jd (fun h2=>nf h2 (congrArg Prod.fst e2)) fun _=>?_
   repeat refine nP ?_
   refine ct (Fh g5 (by omega) ⟨by decide,by decide⟩ hR.c (aU (by omega) v4) (aU (by omega) v2)) fun ⟨n6,hn6,g6⟩=>?_
   repeat refine nP ?_
   refine ct (Fh g6 (by omega) ⟨by decide,by decide⟩ hR.o (aU (by omega) u4) (aU (by omega) v2)) fun ⟨n7,hn7,g7⟩=>?_
   repeat refine nP ?_
   refine jd (fun h3=>?_) fun h3=>?_
   ·have hp:=plT h1 h3
    have hrp:=hR.p hp
    rw [if_pos hp]
    repeat refine nP ?_
    refine dw g7 (by omega) ⟨by decide,by decide⟩ hC.w (xz (aU (by omega) v3)) fun g8 v8=>?_
    repeat refine nP ?_
    refine dw g8 (by omega) ⟨by decide,by decide⟩ hC.w (xz (aU (by omega) v3)) fun g9 v9=>?_
    repeat refine nP ?_
    refine dw g9 (by omega) ⟨by decide,by decide⟩ hC.w (xz (aU (by omega) v3)) fun g10 v10=>?_
    repeat refine nP ?_
    refine ct (Fh g10 (by omega) ⟨by decide,by decide⟩ hrp.1 (aU (by omega) v8) (aU (by omega) v2)) fun ⟨n11,hn11,g11⟩=>?_
    repeat refine nP ?_
    refine ct (Fh g11 (by omega) ⟨by decide,by decide⟩ hrp.2.1 (aU (by omega) v9) (aU (by omega) v2)) fun ⟨n12,hn12,g12⟩=>?_
    repeat refine nP ?_
    refine ct (Fh g12 (by omega) ⟨by decide,by decide⟩ hrp.2.2 (aU (by omega) v10) (aU (by omega) v2)) fun ⟨n13,hn13,g13⟩=>?_
    repeat refine nP ?_
    refine cO (.of (n':=n13) (k:=k+1+1+1+5+3+1+1+1+1+1+1+1+1) (by omega) ?_ (by omega))
    simp only [← List.append_assoc]
    exact g13
   ·have hp:=plF (.inr h3)
    rw [if_neg (by rw [hp];decide),List.append_nil]
    repeat refine nP ?_
    exact cO (.of (by omega) g7 (by omega))
  ·have h1:cB op 14=false:=by simpa using h1
   repeat refine nP ?_
   refine jd (fun h2=>nf h2 (congrArg Prod.fst e2)) fun _=>?_
   have hp:=plF (.inl h1)
   rw [if_neg (by rw [hp];decide),List.append_nil]
   repeat refine nP ?_
   refine ct (Fh g5 (by omega) ⟨by decide,by decide⟩ hR.c (aU (by omega) v4) (aU (by omega) v2)) fun ⟨n6,hn6,g6⟩=>?_
   repeat refine nP ?_
   refine ct (Fh g6 (by omega) ⟨by decide,by decide⟩ hR.o (aU (by omega) u4) (aU (by omega) v2)) fun ⟨n7,hn7,g7⟩=>?_
   repeat refine nP ?_
   exact cO (.of (by omega) g7 (by omega))
 ·have hb:S.1.2.2.2.2.1.1≠1:=bf.1 hb
  repeat refine nP ?_
  refine jd (fun h1=>?_) fun h1=>?_
  ·have h1:VQ S=0:=congrArg (fun v:bl=>v.2.2) ((nh (c:=aj) rfl).1 h1)
   have e0:W++IM op S=W++dW S.1.2.2.2.1:=by unfold IM;rw [if_pos ⟨hb,h1⟩]
   rw [e0]
   repeat refine nP ?_
   refine dw g1 (by omega) ⟨by decide,by decide⟩ hC.w (xz v1) fun g2 v2=>?_
   repeat refine nP ?_
   refine ct (GX g2 (by omega) (hC.up (by omega)) ho v2) fun ⟨n5,hn5,g5⟩=>?_
   repeat refine nP ?_
   exact cO (.of (by omega) g5 (by omega))
  ·have h1:VQ S≠0:=fun e=>by
    have:kq aj (wd (VQ S)) (wd 0)=true:=by rw [e];exact rz (c:=aj) rfl _
    rw [show kq aj (wd (VQ S)) (wd 0)=false from h1] at this;cases this
   have e0:W++IM op S=W++dW S.1.2.2.2.1++[16]++[19]++(if plain op=true then [17]++[18]++[20] else []):=by
    unfold IM;rw [if_neg (by rintro ⟨_,h⟩;exact h1 h)];simp only [List.append_assoc]
   rw [e0]
   repeat refine nP ?_
   refine dw g1 (by omega) hop hC.w (l7 v1 (aB _)) fun g3 v3=>?_
   repeat refine nP ?_
   refine ct (WT g3 (by omega) hC.w (aU (by omega) v1) v3 (aB _)) fun ⟨n4,hn4,g4,v4,u4⟩=>?_
   repeat refine nP ?_
   refine ct (GX g4 (by omega) (hC.up (by omega)) ho (aU (by omega) v3)) fun ⟨n5,hn5,g5⟩=>?_
   have nt:∀ {P:Prop} {b:Bool},b=false→b=(wd (VQ S)).1→P:=fun h1 h2=>by rw [h2] at h1;cases h1
   repeat refine nP ?_
   refine jd (fun h2=>?_) fun h2=>?_
   ·have h2:cB op 14=true:=by simpa using h2
    repeat refine nP ?_
    refine jd (fun _=>?_) fun h3=>nt h3 rfl
    repeat refine nP ?_
    refine ct (Sd g5 (by omega) (aU (by omega) v4) (aU (by omega) u4)) fun ⟨n6,hn6,g6⟩=>?_
    repeat refine nP ?_
    refine jd (fun h3=>?_) fun h3=>?_
    ·have hp:=plT h2 h3
     rw [if_pos hp]
     repeat refine nP ?_
     refine ct (Sc g6 (by omega) hC.w (aU (by omega) v3)) fun ⟨n7,hn7,g7⟩=>?_
     repeat refine nP ?_
     refine cO (.of (n':=n7) (k:=k+1+1+5+3+2+3) (by omega) ?_ (by omega))
     simp only [← List.append_assoc]
     exact g7
    ·have hp:=plF (.inr h3)
     rw [if_neg (by rw [hp];decide),List.append_nil]
     repeat refine nP ?_
     exact cO (.of (by omega) g6 (by omega))
   ·have h2:cB op 14=false:=by simpa using h2
    repeat refine nP ?_
    refine jd (fun _=>?_) fun h3=>nt h3 rfl
    have hp:=plF (.inl h2)
    rw [if_neg (by rw [hp];decide),List.append_nil]
    repeat refine nP ?_
    refine ct (Sd g5 (by omega) (aU (by omega) v4) (aU (by omega) u4)) fun ⟨n6,hn6,g6⟩=>?_
    repeat refine nP ?_
    exact cO (.of (by omega) g6 (by omega))
end Go.aA.RV
end
