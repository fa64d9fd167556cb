/- A part of the proof that the laws of this seat hold. Conditions: none beyond the row. -/
import Derived.Test.YtifnanjnonepaaaGreatDoorFns2
set_option maxRecDepth 100000
set_option linter.unusedVariables false
set_option linter.unusedSimpArgs false
set_option linter.unusedSectionVars false
section
namespace Go.bz.RL
open Go.Proofs Go.bz
inductive SM where
 | h0 (v1:Int) (v2:ao)
noncomputable def oO (_x:Int):Tr (SM⊕Int):=
 .aa ((0:Nat) < 8)<|
 .aa ((1:Nat) < 8)<|
 .aa ((2:Nat) < 8)<|
 .aa ((3:Nat) < 8)<|
 .aa ((4:Nat) < 8)<|
 .aa ((5:Nat) < 8)<|
 .aa ((6:Nat) < 8)<|
 .aa ((7:Nat) < 8)<|
 .ret (.inl (.h0 0 [3,4,5,6,7,8,9,10]))
noncomputable def gn (x:Int):SM→Tr (SM⊕Int)
 | .h0 v1 v2=>
 .ite (cF v1 8) (
 .aa ((0:Int)≤v1)<|
 .aa ((v1:Int) < 8)<|
 .aa (((v1).toNat:Nat) < 8)<|
 .ite (ak (eZ (.int .u8) v2 (v1).toNat) x) (
 .ret (.inr v1)) (
 .ret (.inl (.h0 (aK .i64 v1 1) v2)))) (
 .ret (.inr (-1)))
noncomputable def pO (x:Int):Int:=gh (TC.kP (.int .i64)) (gn x) (oO x)
def LM (x:Int):Prop:=∃ r,Ends (gn x) r (oO x)
noncomputable def yY (x:Int):Tr Int:=
 .ite (ak x 12) (
 .ret 0) (
 .ite (ak x 19) (
 .ret 0) (
 .ite (ak x 13) (
 .ret 1) (
 .ite (ak x 20) (
 .ret 1) (
 .ite (ak x 15) (
 .ret 2) (
 .ite (ak x 14) (
 .ret 3) (
 .ite (ak x 22) (
 .ret 4) (
 .ite (ak x 16) (
 .ret 4) (
 .ite (ak x 17) (
 .ret 5) (
 .ite (ak x 23) (
 .ret 6) (
 .ite (ak x 18) (
 .ret 7) (
 .ret (-1))))))))))))
noncomputable def jj (x:Int):Int:=(yY x).val
def EE (x:Int):Prop:=(yY x).ok
noncomputable def iX (x:Int):Tr jm:=
 .aa (LM x)<|
 .aa (EE x)<|
 .ite (ak x 1) (
 .aa ((0:Nat) < 1)<|
 .aa ((0:Nat) < 1)<|
 .aa ((0:Nat) < 1)<|
 .aa ((0:Nat) < 1)<|
 .aa ((0:Nat) < 1)<|
 .aa ((0:Nat) < 1)<|
 .aa ((0:Nat) < 1)<|
 .aa (((0:Nat)+1:Nat)≤1)<|
 .aa (((0:Nat)+1:Nat)≤1)<|
 .aa (((0:Nat)+1:Nat)≤1)<|
 .aa (((0:Nat)+1:Nat)≤1)<|
 .aa (((0:Nat)+1:Nat)≤1)<|
 .aa (((0:Nat)+1:Nat)≤1)<|
 .aa (((0:Nat)+1:Nat)≤1)<|
 .aa ((0:Nat) < 7)<|
 .aa ((1:Nat) < 7)<|
 .aa ((2:Nat) < 7)<|
 .aa ((3:Nat) < 7)<|
 .aa ((4:Nat) < 7)<|
 .aa ((5:Nat) < 7)<|
 .aa ((6:Nat) < 7)<|
 .aa (((0:Nat)+7:Nat)≤7)<|
 let y0:bM:=(1,0)
 let y1:bD:=((-1),y0)
 let y2:bD:=((-1),(2,0))
 let y3:bM:=(1,1)
 let y4:bM:=(1,4)
 let y5:bD:=(0,y4)
 .ret [(1,((ByteArray.mk #[114,109]),((ByteArray.mk #[114]),(0,([136],y1))))),(1,((ByteArray.mk #[114]),((ByteArray.mk #[109]),(0,([138],y2))))),(1,((ByteArray.mk #[114,109]),((ByteArray.mk #[105,56]),(0,([198],(0,y3)))))),(4,((ByteArray.mk #[114,109]),((ByteArray.mk #[114]),(0,([137],y1))))),(4,((ByteArray.mk #[114]),((ByteArray.mk #[109]),(0,([139],y2))))),(4,((ByteArray.mk #[114,109]),((ByteArray.mk #[105,51,50]),(0,([199],y5))))),(8,((ByteArray.mk #[114]),((ByteArray.mk #[105,54,52]),(0,([184],(0,(3,8)))))))]) (
 .ite (ak x 2) (
 .aa ((0:Nat) < 1)<|
 .aa (((0:Nat)+1:Nat)≤1)<|
 .aa ((0:Nat) < 1)<|
 .aa (((0:Nat)+1:Nat)≤1)<|
 let y6:bD:=((-1),(2,0))
 .ret [(4,((ByteArray.mk #[114]),((ByteArray.mk #[109]),(0,([141],y6)))))]) (
 .ite (ak x 3) (
 .aa ((0:Nat) < 1)<|
 .aa ((0:Nat) < 1)<|
 .aa ((0:Nat) < 1)<|
 .aa ((0:Nat) < 1)<|
 .aa (((0:Nat)+1:Nat)≤1)<|
 .aa (((0:Nat)+1:Nat)≤1)<|
 .aa (((0:Nat)+1:Nat)≤1)<|
 .aa (((0:Nat)+1:Nat)≤1)<|
 .aa ((0:Nat) < 4)<|
 .aa ((1:Nat) < 4)<|
 .aa ((2:Nat) < 4)<|
 .aa ((3:Nat) < 4)<|
 .aa (((0:Nat)+4:Nat)≤4)<|
 let y7:Int:=(aN .u8 (imax (pO x) 0))
 let y8:Int:=(gz .u8 8 y7)
 let y9:bM:=(1,0)
 let y10:bD:=((-1),y9)
 let y11:bD:=((-1),(2,0))
 let y12:Int:=(aN .i64 y7)
 let y13:bM:=(1,1)
 let y14:bM:=(1,4)
 let y15:jm:=[(4,((ByteArray.mk #[114,109]),((ByteArray.mk #[114]),(0,([(aK .u8 y8 1)],y10))))),(4,((ByteArray.mk #[114]),((ByteArray.mk #[109]),(0,([(aK .u8 y8 3)],y11))))),(4,((ByteArray.mk #[114,109]),((ByteArray.mk #[105,56]),(0,([131],(y12,y13)))))),(4,((ByteArray.mk #[114,109]),((ByteArray.mk #[105,51,50]),(0,([129],(y12,y14))))))]
 .ret y15) (
 .ite (ak x 4) (
 .aa ((0:Nat) < 1)<|
 .aa ((0:Nat) < 1)<|
 .aa ((0:Nat) < 1)<|
 .aa ((0:Nat) < 1)<|
 .aa (((0:Nat)+1:Nat)≤1)<|
 .aa (((0:Nat)+1:Nat)≤1)<|
 .aa (((0:Nat)+1:Nat)≤1)<|
 .aa (((0:Nat)+1:Nat)≤1)<|
 .aa ((0:Nat) < 4)<|
 .aa ((1:Nat) < 4)<|
 .aa ((2:Nat) < 4)<|
 .aa ((3:Nat) < 4)<|
 .aa (((0:Nat)+4:Nat)≤4)<|
 let y16:Int:=(aN .u8 (imax (pO x) 0))
 let y17:Int:=(gz .u8 8 y16)
 let y18:bM:=(1,0)
 let y19:bD:=((-1),y18)
 let y20:bD:=((-1),(2,0))
 let y21:Int:=(aN .i64 y16)
 let y22:bM:=(1,1)
 let y23:bM:=(1,4)
 let y24:jm:=[(4,((ByteArray.mk #[114,109]),((ByteArray.mk #[114]),(0,([(aK .u8 y17 1)],y19))))),(4,((ByteArray.mk #[114]),((ByteArray.mk #[109]),(0,([(aK .u8 y17 3)],y20))))),(4,((ByteArray.mk #[114,109]),((ByteArray.mk #[105,56]),(0,([131],(y21,y22)))))),(4,((ByteArray.mk #[114,109]),((ByteArray.mk #[105,51,50]),(0,([129],(y21,y23))))))]
 .ret y24) (
 .ite (ak x 5) (
 .aa ((0:Nat) < 1)<|
 .aa ((0:Nat) < 1)<|
 .aa ((0:Nat) < 1)<|
 .aa ((0:Nat) < 1)<|
 .aa (((0:Nat)+1:Nat)≤1)<|
 .aa (((0:Nat)+1:Nat)≤1)<|
 .aa (((0:Nat)+1:Nat)≤1)<|
 .aa (((0:Nat)+1:Nat)≤1)<|
 .aa ((0:Nat) < 4)<|
 .aa ((1:Nat) < 4)<|
 .aa ((2:Nat) < 4)<|
 .aa ((3:Nat) < 4)<|
 .aa (((0:Nat)+4:Nat)≤4)<|
 let y25:Int:=(aN .u8 (imax (pO x) 0))
 let y26:Int:=(gz .u8 8 y25)
 let y27:bM:=(1,0)
 let y28:bD:=((-1),y27)
 let y29:bD:=((-1),(2,0))
 let y30:Int:=(aN .i64 y25)
 let y31:bM:=(1,1)
 let y32:bM:=(1,4)
 let y33:jm:=[(4,((ByteArray.mk #[114,109]),((ByteArray.mk #[114]),(0,([(aK .u8 y26 1)],y28))))),(4,((ByteArray.mk #[114]),((ByteArray.mk #[109]),(0,([(aK .u8 y26 3)],y29))))),(4,((ByteArray.mk #[114,109]),((ByteArray.mk #[105,56]),(0,([131],(y30,y31)))))),(4,((ByteArray.mk #[114,109]),((ByteArray.mk #[105,51,50]),(0,([129],(y30,y32))))))]
 .ret y33) (
 .ite (ak x 6) (
 .aa ((0:Nat) < 1)<|
 .aa ((0:Nat) < 1)<|
 .aa ((0:Nat) < 1)<|
 .aa ((0:Nat) < 1)<|
 .aa (((0:Nat)+1:Nat)≤1)<|
 .aa (((0:Nat)+1:Nat)≤1)<|
 .aa (((0:Nat)+1:Nat)≤1)<|
 .aa (((0:Nat)+1:Nat)≤1)<|
 .aa ((0:Nat) < 4)<|
 .aa ((1:Nat) < 4)<|
 .aa ((2:Nat) < 4)<|
 .aa ((3:Nat) < 4)<|
 .aa (((0:Nat)+4:Nat)≤4)<|
 let y34:Int:=(aN .u8 (imax (pO x) 0))
 let y35:Int:=(gz .u8 8 y34)
 let y36:bM:=(1,0)
 let y37:bD:=((-1),y36)
 let y38:bD:=((-1),(2,0))
 let y39:Int:=(aN .i64 y34)
 let y40:bM:=(1,1)
 let y41:bM:=(1,4)
 let y42:jm:=[(4,((ByteArray.mk #[114,109]),((ByteArray.mk #[114]),(0,([(aK .u8 y35 1)],y37))))),(4,((ByteArray.mk #[114]),((ByteArray.mk #[109]),(0,([(aK .u8 y35 3)],y38))))),(4,((ByteArray.mk #[114,109]),((ByteArray.mk #[105,56]),(0,([131],(y39,y40)))))),(4,((ByteArray.mk #[114,109]),((ByteArray.mk #[105,51,50]),(0,([129],(y39,y41))))))]
 .ret y42) (
 .ite (ak x 7) (
 .aa ((0:Nat) < 1)<|
 .aa ((0:Nat) < 1)<|
 .aa ((0:Nat) < 1)<|
 .aa ((0:Nat) < 1)<|
 .aa (((0:Nat)+1:Nat)≤1)<|
 .aa (((0:Nat)+1:Nat)≤1)<|
 .aa (((0:Nat)+1:Nat)≤1)<|
 .aa (((0:Nat)+1:Nat)≤1)<|
 .aa ((0:Nat) < 4)<|
 .aa ((1:Nat) < 4)<|
 .aa ((2:Nat) < 4)<|
 .aa ((3:Nat) < 4)<|
 .aa (((0:Nat)+4:Nat)≤4)<|
 let y43:Int:=(aN .u8 (imax (pO x) 0))
 let y44:Int:=(gz .u8 8 y43)
 let y45:bM:=(1,0)
 let y46:bD:=((-1),y45)
 let y47:bD:=((-1),(2,0))
 let y48:Int:=(aN .i64 y43)
 let y49:bM:=(1,1)
 let y50:bM:=(1,4)
 let y51:jm:=[(4,((ByteArray.mk #[114,109]),((ByteArray.mk #[114]),(0,([(aK .u8 y44 1)],y46))))),(4,((ByteArray.mk #[114]),((ByteArray.mk #[109]),(0,([(aK .u8 y44 3)],y47))))),(4,((ByteArray.mk #[114,109]),((ByteArray.mk #[105,56]),(0,([131],(y48,y49)))))),(4,((ByteArray.mk #[114,109]),((ByteArray.mk #[105,51,50]),(0,([129],(y48,y50))))))]
 .ret y51) (
 .ite (ak x 8) (
 .aa ((0:Nat) < 1)<|
 .aa ((0:Nat) < 1)<|
 .aa ((0:Nat) < 1)<|
 .aa ((0:Nat) < 1)<|
 .aa (((0:Nat)+1:Nat)≤1)<|
 .aa (((0:Nat)+1:Nat)≤1)<|
 .aa (((0:Nat)+1:Nat)≤1)<|
 .aa (((0:Nat)+1:Nat)≤1)<|
 .aa ((0:Nat) < 4)<|
 .aa ((1:Nat) < 4)<|
 .aa ((2:Nat) < 4)<|
 .aa ((3:Nat) < 4)<|
 .aa (((0:Nat)+4:Nat)≤4)<|
 let y52:Int:=(aN .u8 (imax (pO x) 0))
 let y53:Int:=(gz .u8 8 y52)
 let y54:bM:=(1,0)
 let y55:bD:=((-1),y54)
 let y56:bD:=((-1),(2,0))
 let y57:Int:=(aN .i64 y52)
 let y58:bM:=(1,1)
 let y59:bM:=(1,4)
 let y60:jm:=[(4,((ByteArray.mk #[114,109]),((ByteArray.mk #[114]),(0,([(aK .u8 y53 1)],y55))))),(4,((ByteArray.mk #[114]),((ByteArray.mk #[109]),(0,([(aK .u8 y53 3)],y56))))),(4,((ByteArray.mk #[114,109]),((ByteArray.mk #[105,56]),(0,([131],(y57,y58)))))),(4,((ByteArray.mk #[114,109]),((ByteArray.mk #[105,51,50]),(0,([129],(y57,y59))))))]
 .ret y60) (
 .ite (ak x 9) (
 .aa ((0:Nat) < 1)<|
 .aa ((0:Nat) < 1)<|
 .aa ((0:Nat) < 1)<|
 .aa ((0:Nat) < 1)<|
 .aa (((0:Nat)+1:Nat)≤1)<|
 .aa (((0:Nat)+1:Nat)≤1)<|
 .aa (((0:Nat)+1:Nat)≤1)<|
 .aa (((0:Nat)+1:Nat)≤1)<|
 .aa ((0:Nat) < 4)<|
 .aa ((1:Nat) < 4)<|
 .aa ((2:Nat) < 4)<|
 .aa ((3:Nat) < 4)<|
 .aa (((0:Nat)+4:Nat)≤4)<|
 let y61:Int:=(aN .u8 (imax (pO x) 0))
 let y62:Int:=(gz .u8 8 y61)
 let y63:bM:=(1,0)
 let y64:bD:=((-1),y63)
 let y65:bD:=((-1),(2,0))
 let y66:Int:=(aN .i64 y61)
 let y67:bM:=(1,1)
 let y68:bM:=(1,4)
 let y69:jm:=[(4,((ByteArray.mk #[114,109]),((ByteArray.mk #[114]),(0,([(aK .u8 y62 1)],y64))))),(4,((ByteArray.mk #[114]),((ByteArray.mk #[109]),(0,([(aK .u8 y62 3)],y65))))),(4,((ByteArray.mk #[114,109]),((ByteArray.mk #[105,56]),(0,([131],(y66,y67)))))),(4,((ByteArray.mk #[114,109]),((ByteArray.mk #[105,51,50]),(0,([129],(y66,y68))))))]
 .ret y69) (
 .ite (ak x 10) (
 .aa ((0:Nat) < 1)<|
 .aa ((0:Nat) < 1)<|
 .aa ((0:Nat) < 1)<|
 .aa ((0:Nat) < 1)<|
 .aa (((0:Nat)+1:Nat)≤1)<|
 .aa (((0:Nat)+1:Nat)≤1)<|
 .aa (((0:Nat)+1:Nat)≤1)<|
 .aa (((0:Nat)+1:Nat)≤1)<|
 .aa ((0:Nat) < 4)<|
 .aa ((1:Nat) < 4)<|
 .aa ((2:Nat) < 4)<|
 .aa ((3:Nat) < 4)<|
 .aa (((0:Nat)+4:Nat)≤4)<|
 let y70:Int:=(aN .u8 (imax (pO x) 0))
 let y71:Int:=(gz .u8 8 y70)
 let y72:bM:=(1,0)
 let y73:bD:=((-1),y72)
 let y74:bD:=((-1),(2,0))
 let y75:Int:=(aN .i64 y70)
 let y76:bM:=(1,1)
 let y77:bM:=(1,4)
 let y78:jm:=[(4,((ByteArray.mk #[114,109]),((ByteArray.mk #[114]),(0,([(aK .u8 y71 1)],y73))))),(4,((ByteArray.mk #[114]),((ByteArray.mk #[109]),(0,([(aK .u8 y71 3)],y74))))),(4,((ByteArray.mk #[114,109]),((ByteArray.mk #[105,56]),(0,([131],(y75,y76)))))),(4,((ByteArray.mk #[114,109]),((ByteArray.mk #[105,51,50]),(0,([129],(y75,y77))))))]
 .ret y78) (
 .ite (ak x 11) (
 .aa ((0:Nat) < 1)<|
 .aa ((0:Nat) < 1)<|
 .aa (((0:Nat)+1:Nat)≤1)<|
 .aa (((0:Nat)+1:Nat)≤1)<|
 .aa ((0:Nat) < 2)<|
 .aa ((1:Nat) < 2)<|
 .aa (((0:Nat)+2:Nat)≤2)<|
 let y79:bM:=(1,0)
 let y80:bD:=((-1),y79)
 let y81:bM:=(1,4)
 let y82:bD:=(0,y81)
 .ret [(4,((ByteArray.mk #[114,109]),((ByteArray.mk #[114]),(0,([133],y80))))),(4,((ByteArray.mk #[114,109]),((ByteArray.mk #[105,51,50]),(0,([247],y82)))))]) (
 .ite (ak x 12) (
 .aa ((0:Nat) < 1)<|
 .aa (((0:Nat)+1:Nat)≤1)<|
 .aa ((0:Nat) < 1)<|
 .aa (((0:Nat)+1:Nat)≤1)<|
 let y83:bM:=(1,0)
 let y84:bD:=((jj x),y83)
 let y85:jm:=[(4,((ByteArray.mk #[114,109]),((ByteArray.mk #[45]),(0,([255],y84)))))]
 .ret y85) (
 .ite (ak x 13) (
 .aa ((0:Nat) < 1)<|
 .aa (((0:Nat)+1:Nat)≤1)<|
 .aa ((0:Nat) < 1)<|
 .aa (((0:Nat)+1:Nat)≤1)<|
 let y86:bM:=(1,0)
 let y87:bD:=((jj x),y86)
 let y88:jm:=[(4,((ByteArray.mk #[114,109]),((ByteArray.mk #[45]),(0,([255],y87)))))]
 .ret y88) (
 .ite (ak x 15) (
 .aa ((0:Nat) < 1)<|
 .aa (((0:Nat)+1:Nat)≤1)<|
 .aa ((0:Nat) < 1)<|
 .aa (((0:Nat)+1:Nat)≤1)<|
 let y89:bM:=(1,0)
 let y90:bD:=((jj x),y89)
 let y91:jm:=[(4,((ByteArray.mk #[114,109]),((ByteArray.mk #[45]),(0,([247],y90)))))]
 .ret y91) (
 .ite (ak x 14) (
 .aa ((0:Nat) < 1)<|
 .aa (((0:Nat)+1:Nat)≤1)<|
 .aa ((0:Nat) < 1)<|
 .aa (((0:Nat)+1:Nat)≤1)<|
 let y92:bM:=(1,0)
 let y93:bD:=((jj x),y92)
 let y94:jm:=[(4,((ByteArray.mk #[114,109]),((ByteArray.mk #[45]),(0,([247],y93)))))]
 .ret y94) (
 .ite (ak x 22) (
 .aa ((0:Nat) < 1)<|
 .aa (((0:Nat)+1:Nat)≤1)<|
 .aa ((0:Nat) < 1)<|
 .aa (((0:Nat)+1:Nat)≤1)<|
 let y95:bM:=(1,0)
 let y96:bD:=((jj x),y95)
 let y97:jm:=[(4,((ByteArray.mk #[114,109]),((ByteArray.mk #[45]),(0,([247],y96)))))]
 .ret y97) (
 .ite (ak x 23) (
 .aa ((0:Nat) < 1)<|
 .aa (((0:Nat)+1:Nat)≤1)<|
 .aa ((0:Nat) < 1)<|
 .aa (((0:Nat)+1:Nat)≤1)<|
 let y98:bM:=(1,0)
 let y99:bD:=((jj x),y98)
 let y100:jm:=[(4,((ByteArray.mk #[114,109]),((ByteArray.mk #[45]),(0,([247],y99)))))]
 .ret y100) (
 .ite (ak x 19) (
 .aa ((0:Nat) < 1)<|
 .aa ((0:Nat) < 1)<|
 .aa (((0:Nat)+1:Nat)≤1)<|
 .aa (((0:Nat)+1:Nat)≤1)<|
 .aa ((0:Nat) < 2)<|
 .aa ((1:Nat) < 2)<|
 .aa (((0:Nat)+2:Nat)≤2)<|
 let y101:bM:=(1,1)
 let y102:bM:=(1,0)
 let y103:bD:=((jj x),y102)
 let y104:jm:=[(4,((ByteArray.mk #[114,109]),((ByteArray.mk #[117,56]),(0,([193],((jj x),y101)))))),(4,((ByteArray.mk #[114,109]),((ByteArray.mk #[99,108]),(0,([211],y103)))))]
 .ret y104) (
 .ite (ak x 20) (
 .aa ((0:Nat) < 1)<|
 .aa ((0:Nat) < 1)<|
 .aa (((0:Nat)+1:Nat)≤1)<|
 .aa (((0:Nat)+1:Nat)≤1)<|
 .aa ((0:Nat) < 2)<|
 .aa ((1:Nat) < 2)<|
 .aa (((0:Nat)+2:Nat)≤2)<|
 let y105:bM:=(1,1)
 let y106:bM:=(1,0)
 let y107:bD:=((jj x),y106)
 let y108:jm:=[(4,((ByteArray.mk #[114,109]),((ByteArray.mk #[117,56]),(0,([193],((jj x),y105)))))),(4,((ByteArray.mk #[114,109]),((ByteArray.mk #[99,108]),(0,([211],y107)))))]
 .ret y108) (
 .ite (ak x 16) (
 .aa ((0:Nat) < 1)<|
 .aa ((0:Nat) < 1)<|
 .aa (((0:Nat)+1:Nat)≤1)<|
 .aa (((0:Nat)+1:Nat)≤1)<|
 .aa ((0:Nat) < 2)<|
 .aa ((1:Nat) < 2)<|
 .aa (((0:Nat)+2:Nat)≤2)<|
 let y109:bM:=(1,1)
 let y110:bM:=(1,0)
 let y111:bD:=((jj x),y110)
 let y112:jm:=[(4,((ByteArray.mk #[114,109]),((ByteArray.mk #[117,56]),(0,([193],((jj x),y109)))))),(4,((ByteArray.mk #[114,109]),((ByteArray.mk #[99,108]),(0,([211],y111)))))]
 .ret y112) (
 .ite (ak x 17) (
 .aa ((0:Nat) < 1)<|
 .aa ((0:Nat) < 1)<|
 .aa (((0:Nat)+1:Nat)≤1)<|
 .aa (((0:Nat)+1:Nat)≤1)<|
 .aa ((0:Nat) < 2)<|
 .aa ((1:Nat) < 2)<|
 .aa (((0:Nat)+2:Nat)≤2)<|
 let y113:bM:=(1,1)
 let y114:bM:=(1,0)
 let y115:bD:=((jj x),y114)
 let y116:jm:=[(4,((ByteArray.mk #[114,109]),((ByteArray.mk #[117,56]),(0,([193],((jj x),y113)))))),(4,((ByteArray.mk #[114,109]),((ByteArray.mk #[99,108]),(0,([211],y115)))))]
 .ret y116) (
 .ite (ak x 18) (
 .aa ((0:Nat) < 1)<|
 .aa ((0:Nat) < 1)<|
 .aa (((0:Nat)+1:Nat)≤1)<|
 .aa (((0:Nat)+1:Nat)≤1)<|
 .aa ((0:Nat) < 2)<|
 .aa ((1:Nat) < 2)<|
 .aa (((0:Nat)+2:Nat)≤2)<|
 let y117:bM:=(1,1)
 let y118:bM:=(1,0)
 let y119:bD:=((jj x),y118)
 let y120:jm:=[(4,((ByteArray.mk #[114,109]),((ByteArray.mk #[117,56]),(0,([193],((jj x),y117)))))),(4,((ByteArray.mk #[114,109]),((ByteArray.mk #[99,108]),(0,([211],y119)))))]
 .ret y120) (
 .ite (ak x 21) (
 .aa ((0:Nat) < 2)<|
 .aa ((1:Nat) < 2)<|
 .aa (((0:Nat)+2:Nat)≤2)<|
 .aa ((0:Nat) < 1)<|
 .aa (((0:Nat)+1:Nat)≤1)<|
 let y121:bD:=((-1),(2,0))
 .ret [(4,((ByteArray.mk #[114]),((ByteArray.mk #[114,109]),(0,([15,175],y121)))))]) (
 .ret ([]:List l3))))))))))))))))))))))))
noncomputable def lY (x:Int):jm:=(iX x).val
def Lj (x:Int):Prop:=(iX x).ok
noncomputable def yT (x:bM):Tr jm:=
 .aa ((16:Int)≠0)<|
 .ite (ak x.1 24) (
 .aa ((0:Nat) < 1)<|
 .aa (((0:Nat)+1:Nat)≤1)<|
 .aa ((0:Nat) < 1)<|
 .aa (((0:Nat)+1:Nat)≤1)<|
 let y0:bD:=(0,(3,0))
 .ret [(16,((ByteArray.mk #[114]),((ByteArray.mk #[45]),(0,([80],y0)))))]) (
 .ite (ak x.1 25) (
 .aa ((0:Nat) < 1)<|
 .aa (((0:Nat)+1:Nat)≤1)<|
 .aa ((0:Nat) < 1)<|
 .aa (((0:Nat)+1:Nat)≤1)<|
 let y1:bD:=(0,(3,0))
 .ret [(16,((ByteArray.mk #[114]),((ByteArray.mk #[45]),(0,([88],y1)))))]) (
 .ite (ak x.1 26) (
 .aa ((0:Nat) < 1)<|
 .aa (((0:Nat)+1:Nat)≤1)<|
 .aa ((0:Nat) < 1)<|
 .aa (((0:Nat)+1:Nat)≤1)<|
 let y2:bD:=(0,(0,4))
 .ret [(16,((ByteArray.mk #[45]),((ByteArray.mk #[105,51,50]),(0,([232],y2)))))]) (
 .ite (ak x.1 28) (
 .aa ((0:Nat) < 1)<|
 .aa ((0:Nat) < 1)<|
 .aa (((0:Nat)+1:Nat)≤1)<|
 .aa (((0:Nat)+1:Nat)≤1)<|
 .aa ((0:Nat) < 2)<|
 .aa ((1:Nat) < 2)<|
 .aa (((0:Nat)+2:Nat)≤2)<|
 let y3:bD:=(0,(0,4))
 let y4:bM:=(1,0)
 .ret [(16,((ByteArray.mk #[45]),((ByteArray.mk #[105,51,50]),(0,([233],y3))))),(16,((ByteArray.mk #[114,109]),((ByteArray.mk #[45]),(0,([255],(4,y4))))))]) (
 .ite (ak x.1 29) (
 .aa ((0:Nat) < 2)<|
 .aa ((1:Nat) < 2)<|
 .aa (((0:Nat)+2:Nat)≤2)<|
 .aa ((0:Nat) < 1)<|
 .aa (((0:Nat)+1:Nat)≤1)<|
 let y5:Int:=(fJ .u8 x.2 16)
 let y6:bD:=(0,(0,4))
 .ret [(16,((ByteArray.mk #[45]),((ByteArray.mk #[105,51,50]),(0,([15,(aK .u8 128 y5)],y6)))))]) (
 .ite (ak x.1 27) (
 .aa ((0:Nat) < 1)<|
 .aa (((0:Nat)+1:Nat)≤1)<|
 .aa ((0:Nat) < 1)<|
 .aa (((0:Nat)+1:Nat)≤1)<|
 let y7:bD:=(0,(0,0))
 .ret [(16,((ByteArray.mk #[45]),((ByteArray.mk #[45]),(0,([195],y7)))))]) (
 .ite (ak x.1 34) (
 .aa ((0:Nat) < 1)<|
 .aa (((0:Nat)+1:Nat)≤1)<|
 .aa ((0:Nat) < 1)<|
 .aa (((0:Nat)+1:Nat)≤1)<|
 let y8:bD:=(0,(0,0))
 .ret [(16,((ByteArray.mk #[45]),((ByteArray.mk #[45]),(0,([144],y8)))))]) (
 .ite (ak x.1 30) (
 .aa ((0:Nat) < 2)<|
 .aa ((1:Nat) < 2)<|
 .aa (((0:Nat)+2:Nat)≤2)<|
 .aa ((0:Nat) < 1)<|
 .aa (((0:Nat)+1:Nat)≤1)<|
 let y9:Int:=(fJ .u8 x.2 16)
 let y10:bD:=((-1),(2,0))
 .ret [(4,((ByteArray.mk #[114]),((ByteArray.mk #[114,109]),(0,([15,(aK .u8 64 y9)],y10)))))]) (
 .ite (ak x.1 31) (
 .aa ((0:Nat) < 2)<|
 .aa ((1:Nat) < 2)<|
 .aa (((0:Nat)+2:Nat)≤2)<|
 .aa ((0:Nat) < 1)<|
 .aa (((0:Nat)+1:Nat)≤1)<|
 let y11:Int:=(fJ .u8 x.2 16)
 let y12:bM:=(1,0)
 .ret [(1,((ByteArray.mk #[114,109]),((ByteArray.mk #[45]),(0,([15,(aK .u8 144 y11)],(0,y12))))))]) (
 .ite (ak x.1 32) (
 .aa ((0:Nat) < 2)<|
 .aa ((1:Nat) < 2)<|
 .aa (((0:Nat)+2:Nat)≤2)<|
 .aa ((0:Nat) < 1)<|
 .aa (((0:Nat)+1:Nat)≤1)<|
 let y13:bD:=((-1),(2,0))
 .ret [(4,((ByteArray.mk #[114]),((ByteArray.mk #[114,109]),(0,([15,182],y13)))))]) (
 .ite (ak x.1 33) (
 .aa ((0:Nat) < 2)<|
 .aa ((1:Nat) < 2)<|
 .aa (((0:Nat)+2:Nat)≤2)<|
 .aa ((0:Nat) < 1)<|
 .aa (((0:Nat)+1:Nat)≤1)<|
 let y14:bD:=((-1),(2,0))
 .ret [(4,((ByteArray.mk #[114]),((ByteArray.mk #[114,109]),(0,([15,190],y14)))))]) (
 .ite (ak x.1 35) (
 .aa ((0:Nat) < 2)<|
 .aa ((1:Nat) < 2)<|
 .aa ((0:Nat) < 2)<|
 .aa ((1:Nat) < 2)<|
 .aa (((0:Nat)+2:Nat)≤2)<|
 .aa (((0:Nat)+2:Nat)≤2)<|
 .aa ((0:Nat) < 2)<|
 .aa ((1:Nat) < 2)<|
 .aa (((0:Nat)+2:Nat)≤2)<|
 let y15:bD:=((-1),(2,0))
 let y16:bM:=(1,0)
 .ret [(32,((ByteArray.mk #[120]),((ByteArray.mk #[120,109]),(243,([15,111],y15))))),(32,((ByteArray.mk #[109]),((ByteArray.mk #[120]),(243,([15,127],((-1),y16))))))]) (
 .ite (ak x.1 36) (
 .aa ((0:Nat) < 2)<|
 .aa ((1:Nat) < 2)<|
 .aa (((0:Nat)+2:Nat)≤2)<|
 .aa ((0:Nat) < 1)<|
 .aa (((0:Nat)+1:Nat)≤1)<|
 let y17:bD:=((-1),(2,0))
 .ret [(32,((ByteArray.mk #[120]),((ByteArray.mk #[120,109]),(102,([15,239],y17)))))]) (
 .ite (ak x.1 37) (
 .aa ((0:Nat) < 3)<|
 .aa ((1:Nat) < 3)<|
 .aa ((2:Nat) < 3)<|
 .aa (((0:Nat)+3:Nat)≤3)<|
 .aa ((0:Nat) < 1)<|
 .aa (((0:Nat)+1:Nat)≤1)<|
 let y18:bD:=((-1),(2,0))
 .ret [(32,((ByteArray.mk #[120]),((ByteArray.mk #[120,109]),(102,([15,56,220],y18)))))]) (
 .ite (ak x.1 38) (
 .aa ((0:Nat) < 3)<|
 .aa ((1:Nat) < 3)<|
 .aa ((2:Nat) < 3)<|
 .aa (((0:Nat)+3:Nat)≤3)<|
 .aa ((0:Nat) < 1)<|
 .aa (((0:Nat)+1:Nat)≤1)<|
 let y19:bD:=((-1),(2,0))
 .ret [(32,((ByteArray.mk #[120]),((ByteArray.mk #[120,109]),(102,([15,56,221],y19)))))]) (
 .ite (ak x.1 39) (
 .aa ((0:Nat) < 3)<|
 .aa ((1:Nat) < 3)<|
 .aa ((2:Nat) < 3)<|
 .aa (((0:Nat)+3:Nat)≤3)<|
 .aa ((0:Nat) < 1)<|
 .aa (((0:Nat)+1:Nat)≤1)<|
 .ret [(32,((ByteArray.mk #[120]),((ByteArray.mk #[120,109]),(102,([15,58,68],((-1),(2,1)))))))]) (
 .aa (Lj x.1)<|
 .ret (lY x.1)))))))))))))))))
noncomputable def bI (x:bM):jm:=(yT x).val
def nO (x:bM):Prop:=(yT x).ok
noncomputable def yS (x:bM):Tr Bool:=
 .ite (ak x.2 4) (
 .ite ((ak x.1 4)==false) (
 let y0:=(ak x.1 8)
 .ret y0) (
 .ret true)) (
 .ite (ak x.2 16) (
 let y1:=(ak x.1 8)
 .ret y1) (
 .ite (ak x.2 32) (
 .ret (ak x.1 16)) (
 .ret (ak x.1 x.2))))
noncomputable def RB (x:bM):Bool:=(yS x).val
def Lv (x:bM):Prop:=(yS x).ok
noncomputable def GC (x:Int):Tr DO:=
 .ret (1,(x,((-1),((-1),(0,(0,(false,0)))))))
noncomputable def PH (x:Int):DO:=(GC x).val
def LL (x:Int):Prop:=(GC x).ok
noncomputable def yP (x:DO):Tr Bool:=
 .ite (ak x.1 1) (
 let y0:=x.2.1
 .aa (LL y0)<|
 .ite ((dB CO x (PH y0))==true) (
 .ite ((cj 0 y0)==true) (
 .ret (cF y0 16)) (
 .ret false)) (
 .ret false)) (
 .ite ((dG x.1 2)==false) (
 let y1:=x.2.1
 .ite ((dG y1 0)==false) (
 let y2:=x.2.2
 let y3:=y2.2
 let y4:=y3.2
 let y5:=y4.2
 let y6:=y5.2
 .ite ((dG y6.2 0)==false) (
 let y7:=y5.1
 .ite ((cF y7 (-2147483648))==false) (
 .ite (cj 2147483648 y7) (
 .ret false) (
 .ite y6.1 (
 let y8:=y2.1
 .ite ((ak y8 (-1))==true) (
 let y9:=y3.1
 .ite ((ak y9 (-1))==true) (
 let y10:=y4.1
 let y11:=(ak y10 1)
 .ret y11) (
 .ret false)) (
 .ret false)) (
 let y12:=y2.1
 .ite ((cF y12 (-1))==false) (
 .ite ((cF 15 y12)==false) (
 let y13:=y3.1
 .ite ((cF y13 (-1))==false) (
 .ite ((cF 15 y13)==false) (
 .ite (ak y13 4) (
 .ret false) (
 .ite (cF y13 0) (
 let y14:=y4.1
 let y15:=(ak y14 1)
 .ret y15) (
 let y16:=y4.1
 let y17:=(ak y16 1)
 .ite (y17==false) (
 .ite ((ak y16 2)==false) (
 .ite ((ak y16 4)==false) (
 .ret (ak y16 8)) (
 .ret true)) (
 .ret true)) (
 .ret true)))) (
 .ret false)) (
 .ret false)) (
 .ret false)) (
 .ret false)))) (
 .ret false)) (
 .ret false)) (
 .ret false)) (
 .ret false))
noncomputable def bT (x:DO):Bool:=(yP x).val
def Ct (x:DO):Prop:=(yP x).ok
noncomputable def Kr (x:Int):Tr DO:=
 .ret (3,(0,((-1),((-1),(0,(0,(false,x)))))))
noncomputable def cX (x:Int):DO:=(Kr x).val
def Cs (x:Int):Prop:=(Kr x).ok
noncomputable def GD (x:Int):Tr DO:=
 .aa ((16:Int)≠0)<|
 .aa ((16:Int)≠0)<|
 .ret (1,((aK .i64 (fJ .i64 (aK .i64 (fJ .i64 x 16) 16) 16) 16),((-1),((-1),(0,(0,(false,0)))))))
noncomputable def hU (x:Int):DO:=(GD x).val
def ly (x:Int):Prop:=(GD x).ok
end Go.bz.RL
end
section
namespace Go.bz.RL
open Go.Proofs Go.bz
inductive XQ where
 | h0
noncomputable def yR (x:HW):Tr (XQ⊕Bool):=
 let y0:Int:=x.1.1
 let y1:Bool:=((ak y0 1)==true)
 .ite y1 (
 .aa (Ct x.1)<|
 let y2:=((ak y0 2)==true)
 .ite y2 (
 .aa (Ct x.1)<|
 let y3:=((ak y0 3)==true)
 .ite y3 (
 let y4:=x.1.2
 let y5:=y4.2.2.2.2.2.2
 .aa (Cs y5)<|
 .ite y1 (
 let y6:=y4.1
 let y7:=((cj 16 y6)==true)
 .ite y7 (
 let y8:=((cF y6 32)==true)
 .ite y8 (
 .aa (ly y6)<|
 let y9:=(x.2==(ByteArray.mk #[114]))
 .ite y9 (
 let y10:=(bT x.1)
 .ret (.inr y10)) (
 let y11:=(x.2==(ByteArray.mk #[109]))
 .ite y11 (
 let y12:=(bT x.1)
 .ret (.inr y12)) (
 let y13:=(x.2==(ByteArray.mk #[114,109]))
 .ite y13 (
 let y14:=(bT x.1)
 let y15:=(y14==false)
 .ite y15 (
 .ret (.inr y14)) (
 .ret (.inr true))) (
 let y16:=(x.2==(ByteArray.mk #[105,56]))
 .ite y16 (
 let y17:=(dB CO x.1 (cX y5))
 let y18:=(y17==true)
 .ite y18 (
 let y19:=((cj (-128) y5)==true)
 .ite y19 (
 let y20:=(cF y5 128)
 .ret (.inr y20)) (
 .ret (.inr false))) (
 .ret (.inr false))) (
 let y21:=(x.2==(ByteArray.mk #[117,56]))
 .ite y21 (
 let y22:=(dB CO x.1 (cX y5))
 let y23:=(y22==true)
 .ite y23 (
 let y24:=((cj 0 y5)==true)
 .ite y24 (
 let y25:=(cF y5 256)
 .ret (.inr y25)) (
 .ret (.inr false))) (
 .ret (.inr false))) (
 let y26:=(x.2==(ByteArray.mk #[105,51,50]))
 .ite y26 (
 let y27:=(dB CO x.1 (cX y5))
 let y28:=(y27==true)
 .ite y28 (
 let y29:=((cj (-2147483648) y5)==true)
 .ite y29 (
 let y30:=(cF y5 2147483648)
 .ret (.inr y30)) (
 .ret (.inr false))) (
 .ret (.inr false))) (
 let y31:=(x.2==(ByteArray.mk #[105,54,52]))
 .ite y31 (
 let y32:=(dB CO x.1 (cX y5))
 .ret (.inr y32)) (
 let y33:=(x.2==(ByteArray.mk #[120]))
 .ite y33 (
 let y34:=(dB CO x.1 (hU y6))
 .ret (.inr y34)) (
 let y35:=(x.2==(ByteArray.mk #[120,109]))
 .ite y35 (
 let y36:=(dB CO x.1 (hU y6))
 let y37:=(y36==false)
 .ite y37 (
 let y38:=(bT x.1)
 .ret (.inr y38)) (
 .ret (.inr true))) (
 let y39:=(x.2==(ByteArray.mk #[99,108]))
 .ite y39 (
 let y40:=(bT x.1)
 let y41:=(y40==true)
 .ite y41 (
 let y42:=(ak y6 1)
 .ret (.inr y42)) (
 .ret (.inr false))) (
 .ret (.inl (.h0))))))))))))) (
 let y43:=(x.2==(ByteArray.mk #[114]))
 .ite y43 (
 let y44:=(bT x.1)
 .ret (.inr y44)) (
 let y45:=(x.2==(ByteArray.mk #[109]))
 .ite y45 (
 let y46:=(bT x.1)
 .ret (.inr y46)) (
 let y47:=(x.2==(ByteArray.mk #[114,109]))
 .ite y47 (
 let y48:=(bT x.1)
 let y49:=(y48==false)
 .ite y49 (
 .ret (.inr y48)) (
 .ret (.inr true))) (
 let y50:=(x.2==(ByteArray.mk #[105,56]))
 .ite y50 (
 let y51:=(dB CO x.1 (cX y5))
 let y52:=(y51==true)
 .ite y52 (
 let y53:=((cj (-128) y5)==true)
 .ite y53 (
 let y54:=(cF y5 128)
 .ret (.inr y54)) (
 .ret (.inr false))) (
 .ret (.inr false))) (
 let y55:=(x.2==(ByteArray.mk #[117,56]))
 .ite y55 (
 let y56:=(dB CO x.1 (cX y5))
 let y57:=(y56==true)
 .ite y57 (
 let y58:=((cj 0 y5)==true)
 .ite y58 (
 let y59:=(cF y5 256)
 .ret (.inr y59)) (
 .ret (.inr false))) (
 .ret (.inr false))) (
 let y60:=(x.2==(ByteArray.mk #[105,51,50]))
 .ite y60 (
 let y61:=(dB CO x.1 (cX y5))
 let y62:=(y61==true)
 .ite y62 (
 let y63:=((cj (-2147483648) y5)==true)
 .ite y63 (
 let y64:=(cF y5 2147483648)
 .ret (.inr y64)) (
 .ret (.inr false))) (
 .ret (.inr false))) (
 let y65:=(x.2==(ByteArray.mk #[105,54,52]))
 .ite y65 (
 let y66:=(dB CO x.1 (cX y5))
 .ret (.inr y66)) (
 let y67:=(x.2==(ByteArray.mk #[120]))
 .ite y67 (
 .ret (.inr false)) (
 let y68:=(x.2==(ByteArray.mk #[120,109]))
 .ite y68 (
 let y69:=(bT x.1)
 .ret (.inr y69)) (
 let y70:=(x.2==(ByteArray.mk #[99,108]))
 .ite y70 (
 let y71:=(bT x.1)
 let y72:=(y71==true)
 .ite y72 (
 let y73:=(ak y6 1)
 .ret (.inr y73)) (
 .ret (.inr false))) (
 .ret (.inl (.h0)))))))))))))) (
 let y74:=(x.2==(ByteArray.mk #[114]))
 .ite y74 (
 let y75:=(bT x.1)
 .ret (.inr y75)) (
 let y76:=(x.2==(ByteArray.mk #[109]))
 .ite y76 (
 let y77:=(bT x.1)
 .ret (.inr y77)) (
 let y78:=(x.2==(ByteArray.mk #[114,109]))
 .ite y78 (
 let y79:=(bT x.1)
 let y80:=(y79==false)
 .ite y80 (
 .ret (.inr y79)) (
 .ret (.inr true))) (
 let y81:=(x.2==(ByteArray.mk #[105,56]))
 .ite y81 (
 let y82:=(dB CO x.1 (cX y5))
 let y83:=(y82==true)
 .ite y83 (
 let y84:=((cj (-128) y5)==true)
 .ite y84 (
 let y85:=(cF y5 128)
 .ret (.inr y85)) (
 .ret (.inr false))) (
 .ret (.inr false))) (
 let y86:=(x.2==(ByteArray.mk #[117,56]))
 .ite y86 (
 let y87:=(dB CO x.1 (cX y5))
 let y88:=(y87==true)
 .ite y88 (
 let y89:=((cj 0 y5)==true)
 .ite y89 (
 let y90:=(cF y5 256)
 .ret (.inr y90)) (
 .ret (.inr false))) (
 .ret (.inr false))) (
 let y91:=(x.2==(ByteArray.mk #[105,51,50]))
 .ite y91 (
 let y92:=(dB CO x.1 (cX y5))
 let y93:=(y92==true)
 .ite y93 (
 let y94:=((cj (-2147483648) y5)==true)
 .ite y94 (
 let y95:=(cF y5 2147483648)
 .ret (.inr y95)) (
 .ret (.inr false))) (
 .ret (.inr false))) (
 let y96:=(x.2==(ByteArray.mk #[105,54,52]))
 .ite y96 (
 let y97:=(dB CO x.1 (cX y5))
 .ret (.inr y97)) (
 let y98:=(x.2==(ByteArray.mk #[120]))
 .ite y98 (
 .ret (.inr false)) (
 let y99:=(x.2==(ByteArray.mk #[120,109]))
 .ite y99 (
 let y100:=(bT x.1)
 .ret (.inr y100)) (
 let y101:=(x.2==(ByteArray.mk #[99,108]))
 .ite y101 (
 let y102:=(bT x.1)
 let y103:=(y102==true)
 .ite y103 (
 let y104:=(ak y6 1)
 .ret (.inr y104)) (
 .ret (.inr false))) (
 .ret (.inl (.h0)))))))))))))) (
 let y105:=(x.2==(ByteArray.mk #[114]))
 .ite y105 (
 let y106:=(bT x.1)
 .ret (.inr y106)) (
 let y107:=(x.2==(ByteArray.mk #[109]))
 .ite y107 (
 let y108:=(bT x.1)
 .ret (.inr y108)) (
 let y109:=(x.2==(ByteArray.mk #[114,109]))
 .ite y109 (
 let y110:=(bT x.1)
 let y111:=(y110==false)
 .ite y111 (
 .ret (.inr y110)) (
 .ret (.inr true))) (
 let y112:=(x.2==(ByteArray.mk #[105,56]))
 .ite y112 (
 let y113:=(dB CO x.1 (cX y5))
 let y114:=(y113==true)
 .ite y114 (
 let y115:=((cj (-128) y5)==true)
 .ite y115 (
 let y116:=(cF y5 128)
 .ret (.inr y116)) (
 .ret (.inr false))) (
 .ret (.inr false))) (
 let y117:=(x.2==(ByteArray.mk #[117,56]))
 .ite y117 (
 let y118:=(dB CO x.1 (cX y5))
 let y119:=(y118==true)
 .ite y119 (
 let y120:=((cj 0 y5)==true)
 .ite y120 (
 let y121:=(cF y5 256)
 .ret (.inr y121)) (
 .ret (.inr false))) (
 .ret (.inr false))) (
 let y122:=(x.2==(ByteArray.mk #[105,51,50]))
 .ite y122 (
 let y123:=(dB CO x.1 (cX y5))
 let y124:=(y123==true)
 .ite y124 (
 let y125:=((cj (-2147483648) y5)==true)
 .ite y125 (
 let y126:=(cF y5 2147483648)
 .ret (.inr y126)) (
 .ret (.inr false))) (
 .ret (.inr false))) (
 let y127:=(x.2==(ByteArray.mk #[105,54,52]))
 .ite y127 (
 let y128:=(dB CO x.1 (cX y5))
 .ret (.inr y128)) (
 let y129:=(x.2==(ByteArray.mk #[120]))
 .ite y129 (
 .ret (.inr false)) (
 let y130:=(x.2==(ByteArray.mk #[120,109]))
 .ite y130 (
 let y131:=(bT x.1)
 .ret (.inr y131)) (
 let y132:=(x.2==(ByteArray.mk #[99,108]))
 .ite y132 (
 let y133:=(bT x.1)
 let y134:=(y133==true)
 .ite y134 (
 let y135:=y4.1
 let y136:=(ak y135 1)
 .ret (.inr y136)) (
 .ret (.inr false))) (
 .ret (.inl (.h0)))))))))))))) (
 .ite y1 (
 let y137:=x.1.2
 let y138:=y137.1
 let y139:=((cj 16 y138)==true)
 .ite y139 (
 let y140:=((cF y138 32)==true)
 .ite y140 (
 .aa (ly y138)<|
 let y141:=(x.2==(ByteArray.mk #[114]))
 .ite y141 (
 let y142:=(bT x.1)
 .ret (.inr y142)) (
 let y143:=(x.2==(ByteArray.mk #[109]))
 .ite y143 (
 let y144:=(bT x.1)
 .ret (.inr y144)) (
 let y145:=(x.2==(ByteArray.mk #[114,109]))
 .ite y145 (
 let y146:=(bT x.1)
 let y147:=(y146==false)
 .ite y147 (
 .ret (.inr y146)) (
 .ret (.inr true))) (
 let y148:=(x.2==(ByteArray.mk #[105,56]))
 .ite y148 (
 .ret (.inr false)) (
 let y149:=(x.2==(ByteArray.mk #[117,56]))
 .ite y149 (
 .ret (.inr false)) (
 let y150:=(x.2==(ByteArray.mk #[105,51,50]))
 .ite y150 (
 .ret (.inr false)) (
 let y151:=(x.2==(ByteArray.mk #[105,54,52]))
 .ite y151 (
 .ret (.inr false)) (
 let y152:=(x.2==(ByteArray.mk #[120]))
 .ite y152 (
 let y153:=(dB CO x.1 (hU y138))
 .ret (.inr y153)) (
 let y154:=(x.2==(ByteArray.mk #[120,109]))
 .ite y154 (
 let y155:=(dB CO x.1 (hU y138))
 let y156:=(y155==false)
 .ite y156 (
 let y157:=(bT x.1)
 .ret (.inr y157)) (
 .ret (.inr true))) (
 let y158:=(x.2==(ByteArray.mk #[99,108]))
 .ite y158 (
 let y159:=(bT x.1)
 let y160:=(y159==true)
 .ite y160 (
 let y161:=(ak y138 1)
 .ret (.inr y161)) (
 .ret (.inr false))) (
 .ret (.inl (.h0))))))))))))) (
 let y162:=(x.2==(ByteArray.mk #[114]))
 .ite y162 (
 let y163:=(bT x.1)
 .ret (.inr y163)) (
 let y164:=(x.2==(ByteArray.mk #[109]))
 .ite y164 (
 let y165:=(bT x.1)
 .ret (.inr y165)) (
 let y166:=(x.2==(ByteArray.mk #[114,109]))
 .ite y166 (
 let y167:=(bT x.1)
 let y168:=(y167==false)
 .ite y168 (
 .ret (.inr y167)) (
 .ret (.inr true))) (
 let y169:=(x.2==(ByteArray.mk #[105,56]))
 .ite y169 (
 .ret (.inr false)) (
 let y170:=(x.2==(ByteArray.mk #[117,56]))
 .ite y170 (
 .ret (.inr false)) (
 let y171:=(x.2==(ByteArray.mk #[105,51,50]))
 .ite y171 (
 .ret (.inr false)) (
 let y172:=(x.2==(ByteArray.mk #[105,54,52]))
 .ite y172 (
 .ret (.inr false)) (
 let y173:=(x.2==(ByteArray.mk #[120]))
 .ite y173 (
 .ret (.inr false)) (
 let y174:=(x.2==(ByteArray.mk #[120,109]))
 .ite y174 (
 let y175:=(bT x.1)
 .ret (.inr y175)) (
 let y176:=(x.2==(ByteArray.mk #[99,108]))
 .ite y176 (
 let y177:=(bT x.1)
 let y178:=(y177==true)
 .ite y178 (
 let y179:=(ak y138 1)
 .ret (.inr y179)) (
 .ret (.inr false))) (
 .ret (.inl (.h0)))))))))))))) (
 let y180:=(x.2==(ByteArray.mk #[114]))
 .ite y180 (
 let y181:=(bT x.1)
 .ret (.inr y181)) (
 let y182:=(x.2==(ByteArray.mk #[109]))
 .ite y182 (
 let y183:=(bT x.1)
 .ret (.inr y183)) (
 let y184:=(x.2==(ByteArray.mk #[114,109]))
 .ite y184 (
 let y185:=(bT x.1)
 let y186:=(y185==false)
 .ite y186 (
 .ret (.inr y185)) (
 .ret (.inr true))) (
 let y187:=(x.2==(ByteArray.mk #[105,56]))
 .ite y187 (
 .ret (.inr false)) (
 let y188:=(x.2==(ByteArray.mk #[117,56]))
 .ite y188 (
 .ret (.inr false)) (
 let y189:=(x.2==(ByteArray.mk #[105,51,50]))
 .ite y189 (
 .ret (.inr false)) (
 let y190:=(x.2==(ByteArray.mk #[105,54,52]))
 .ite y190 (
 .ret (.inr false)) (
 let y191:=(x.2==(ByteArray.mk #[120]))
 .ite y191 (
 .ret (.inr false)) (
 let y192:=(x.2==(ByteArray.mk #[120,109]))
 .ite y192 (
 let y193:=(bT x.1)
 .ret (.inr y193)) (
 let y194:=(x.2==(ByteArray.mk #[99,108]))
 .ite y194 (
 let y195:=(bT x.1)
 let y196:=(y195==true)
 .ite y196 (
 let y197:=(ak y138 1)
 .ret (.inr y197)) (
 .ret (.inr false))) (
 .ret (.inl (.h0)))))))))))))) (
 let y198:=(x.2==(ByteArray.mk #[114]))
 .ite y198 (
 let y199:=(bT x.1)
 .ret (.inr y199)) (
 let y200:=(x.2==(ByteArray.mk #[109]))
 .ite y200 (
 let y201:=(bT x.1)
 .ret (.inr y201)) (
 let y202:=(x.2==(ByteArray.mk #[114,109]))
 .ite y202 (
 let y203:=(bT x.1)
 let y204:=(y203==false)
 .ite y204 (
 .ret (.inr y203)) (
 .ret (.inr true))) (
 let y205:=(x.2==(ByteArray.mk #[105,56]))
 .ite y205 (
 .ret (.inr false)) (
 let y206:=(x.2==(ByteArray.mk #[117,56]))
 .ite y206 (
 .ret (.inr false)) (
 let y207:=(x.2==(ByteArray.mk #[105,51,50]))
 .ite y207 (
 .ret (.inr false)) (
 let y208:=(x.2==(ByteArray.mk #[105,54,52]))
 .ite y208 (
 .ret (.inr false)) (
 let y209:=(x.2==(ByteArray.mk #[120]))
 .ite y209 (
 .ret (.inr false)) (
 let y210:=(x.2==(ByteArray.mk #[120,109]))
 .ite y210 (
 let y211:=(bT x.1)
 .ret (.inr y211)) (
 let y212:=(x.2==(ByteArray.mk #[99,108]))
 .ite y212 (
 let y213:=(bT x.1)
 let y214:=(y213==true)
 .ite y214 (
 let y215:=x.1.2
 let y216:=y215.1
 let y217:=(ak y216 1)
 .ret (.inr y217)) (
 .ret (.inr false))) (
 .ret (.inl (.h0))))))))))))))) (
 let y218:=((ak y0 3)==true)
 .ite y218 (
 let y219:=x.1.2
 let y220:=y219.2.2.2.2.2.2
 .aa (Cs y220)<|
 .ite y1 (
 let y221:=y219.1
 let y222:=((cj 16 y221)==true)
 .ite y222 (
 let y223:=((cF y221 32)==true)
 .ite y223 (
 .aa (ly y221)<|
 let y224:=(x.2==(ByteArray.mk #[114]))
 .ite y224 (
 let y225:=(bT x.1)
 .ret (.inr y225)) (
 let y226:=(x.2==(ByteArray.mk #[109]))
 .ite y226 (
 .ret (.inr false)) (
 let y227:=(x.2==(ByteArray.mk #[114,109]))
 .ite y227 (
 let y228:=(bT x.1)
 let y229:=(y228==false)
 .ite y229 (
 .ret (.inr false)) (
 .ret (.inr true))) (
 let y230:=(x.2==(ByteArray.mk #[105,56]))
 .ite y230 (
 let y231:=(dB CO x.1 (cX y220))
 let y232:=(y231==true)
 .ite y232 (
 let y233:=((cj (-128) y220)==true)
 .ite y233 (
 let y234:=(cF y220 128)
 .ret (.inr y234)) (
 .ret (.inr false))) (
 .ret (.inr false))) (
 let y235:=(x.2==(ByteArray.mk #[117,56]))
 .ite y235 (
 let y236:=(dB CO x.1 (cX y220))
 let y237:=(y236==true)
 .ite y237 (
 let y238:=((cj 0 y220)==true)
 .ite y238 (
 let y239:=(cF y220 256)
 .ret (.inr y239)) (
 .ret (.inr false))) (
 .ret (.inr false))) (
 let y240:=(x.2==(ByteArray.mk #[105,51,50]))
 .ite y240 (
 let y241:=(dB CO x.1 (cX y220))
 let y242:=(y241==true)
 .ite y242 (
 let y243:=((cj (-2147483648) y220)==true)
 .ite y243 (
 let y244:=(cF y220 2147483648)
 .ret (.inr y244)) (
 .ret (.inr false))) (
 .ret (.inr false))) (
 let y245:=(x.2==(ByteArray.mk #[105,54,52]))
 .ite y245 (
 let y246:=(dB CO x.1 (cX y220))
 .ret (.inr y246)) (
 let y247:=(x.2==(ByteArray.mk #[120]))
 .ite y247 (
 let y248:=(dB CO x.1 (hU y221))
 .ret (.inr y248)) (
 let y249:=(x.2==(ByteArray.mk #[120,109]))
 .ite y249 (
 let y250:=(dB CO x.1 (hU y221))
 let y251:=(y250==false)
 .ite y251 (
 .ret (.inr false)) (
 .ret (.inr true))) (
 let y252:=(x.2==(ByteArray.mk #[99,108]))
 .ite y252 (
 let y253:=(bT x.1)
 let y254:=(y253==true)
 .ite y254 (
 let y255:=(ak y221 1)
 .ret (.inr y255)) (
 .ret (.inr false))) (
 .ret (.inl (.h0))))))))))))) (
 let y256:=(x.2==(ByteArray.mk #[114]))
 .ite y256 (
 let y257:=(bT x.1)
 .ret (.inr y257)) (
 let y258:=(x.2==(ByteArray.mk #[109]))
 .ite y258 (
 .ret (.inr false)) (
 let y259:=(x.2==(ByteArray.mk #[114,109]))
 .ite y259 (
 let y260:=(bT x.1)
 let y261:=(y260==false)
 .ite y261 (
 .ret (.inr false)) (
 .ret (.inr true))) (
 let y262:=(x.2==(ByteArray.mk #[105,56]))
 .ite y262 (
 let y263:=(dB CO x.1 (cX y220))
 let y264:=(y263==true)
 .ite y264 (
 let y265:=((cj (-128) y220)==true)
 .ite y265 (
 let y266:=(cF y220 128)
 .ret (.inr y266)) (
 .ret (.inr false))) (
 .ret (.inr false))) (
 let y267:=(x.2==(ByteArray.mk #[117,56]))
 .ite y267 (
 let y268:=(dB CO x.1 (cX y220))
 let y269:=(y268==true)
 .ite y269 (
 let y270:=((cj 0 y220)==true)
 .ite y270 (
 let y271:=(cF y220 256)
 .ret (.inr y271)) (
 .ret (.inr false))) (
 .ret (.inr false))) (
 let y272:=(x.2==(ByteArray.mk #[105,51,50]))
 .ite y272 (
 let y273:=(dB CO x.1 (cX y220))
 let y274:=(y273==true)
 .ite y274 (
 let y275:=((cj (-2147483648) y220)==true)
 .ite y275 (
 let y276:=(cF y220 2147483648)
 .ret (.inr y276)) (
 .ret (.inr false))) (
 .ret (.inr false))) (
 let y277:=(x.2==(ByteArray.mk #[105,54,52]))
 .ite y277 (
 let y278:=(dB CO x.1 (cX y220))
 .ret (.inr y278)) (
 let y279:=(x.2==(ByteArray.mk #[120]))
 .ite y279 (
 .ret (.inr false)) (
 let y280:=(x.2==(ByteArray.mk #[120,109]))
 .ite y280 (
 .ret (.inr false)) (
 let y281:=(x.2==(ByteArray.mk #[99,108]))
 .ite y281 (
 let y282:=(bT x.1)
 let y283:=(y282==true)
 .ite y283 (
 let y284:=(ak y221 1)
 .ret (.inr y284)) (
 .ret (.inr false))) (
 .ret (.inl (.h0)))))))))))))) (
 let y285:=(x.2==(ByteArray.mk #[114]))
 .ite y285 (
 let y286:=(bT x.1)
 .ret (.inr y286)) (
 let y287:=(x.2==(ByteArray.mk #[109]))
 .ite y287 (
 .ret (.inr false)) (
 let y288:=(x.2==(ByteArray.mk #[114,109]))
 .ite y288 (
 let y289:=(bT x.1)
 let y290:=(y289==false)
 .ite y290 (
 .ret (.inr false)) (
 .ret (.inr true))) (
 let y291:=(x.2==(ByteArray.mk #[105,56]))
 .ite y291 (
 let y292:=(dB CO x.1 (cX y220))
 let y293:=(y292==true)
 .ite y293 (
 let y294:=((cj (-128) y220)==true)
 .ite y294 (
 let y295:=(cF y220 128)
 .ret (.inr y295)) (
 .ret (.inr false))) (
 .ret (.inr false))) (
 let y296:=(x.2==(ByteArray.mk #[117,56]))
 .ite y296 (
 let y297:=(dB CO x.1 (cX y220))
 let y298:=(y297==true)
 .ite y298 (
 let y299:=((cj 0 y220)==true)
 .ite y299 (
 let y300:=(cF y220 256)
 .ret (.inr y300)) (
 .ret (.inr false))) (
 .ret (.inr false))) (
 let y301:=(x.2==(ByteArray.mk #[105,51,50]))
 .ite y301 (
 let y302:=(dB CO x.1 (cX y220))
 let y303:=(y302==true)
 .ite y303 (
 let y304:=((cj (-2147483648) y220)==true)
 .ite y304 (
 let y305:=(cF y220 2147483648)
 .ret (.inr y305)) (
 .ret (.inr false))) (
 .ret (.inr false))) (
 let y306:=(x.2==(ByteArray.mk #[105,54,52]))
 .ite y306 (
 let y307:=(dB CO x.1 (cX y220))
 .ret (.inr y307)) (
 let y308:=(x.2==(ByteArray.mk #[120]))
 .ite y308 (
 .ret (.inr false)) (
 let y309:=(x.2==(ByteArray.mk #[120,109]))
 .ite y309 (
 .ret (.inr false)) (
 let y310:=(x.2==(ByteArray.mk #[99,108]))
 .ite y310 (
 let y311:=(bT x.1)
 let y312:=(y311==true)
 .ite y312 (
 let y313:=(ak y221 1)
 .ret (.inr y313)) (
 .ret (.inr false))) (
 .ret (.inl (.h0)))))))))))))) (
 let y314:=(x.2==(ByteArray.mk #[114]))
 .ite y314 (
 let y315:=(bT x.1)
 .ret (.inr y315)) (
 let y316:=(x.2==(ByteArray.mk #[109]))
 .ite y316 (
 .ret (.inr false)) (
 let y317:=(x.2==(ByteArray.mk #[114,109]))
 .ite y317 (
 let y318:=(bT x.1)
 let y319:=(y318==false)
 .ite y319 (
 .ret (.inr false)) (
 .ret (.inr true))) (
 let y320:=(x.2==(ByteArray.mk #[105,56]))
 .ite y320 (
 let y321:=(dB CO x.1 (cX y220))
 let y322:=(y321==true)
 .ite y322 (
 let y323:=((cj (-128) y220)==true)
 .ite y323 (
 let y324:=(cF y220 128)
 .ret (.inr y324)) (
 .ret (.inr false))) (
 .ret (.inr false))) (
 let y325:=(x.2==(ByteArray.mk #[117,56]))
 .ite y325 (
 let y326:=(dB CO x.1 (cX y220))
 let y327:=(y326==true)
 .ite y327 (
 let y328:=((cj 0 y220)==true)
 .ite y328 (
 let y329:=(cF y220 256)
 .ret (.inr y329)) (
 .ret (.inr false))) (
 .ret (.inr false))) (
 let y330:=(x.2==(ByteArray.mk #[105,51,50]))
 .ite y330 (
 let y331:=(dB CO x.1 (cX y220))
 let y332:=(y331==true)
 .ite y332 (
 let y333:=((cj (-2147483648) y220)==true)
 .ite y333 (
 let y334:=(cF y220 2147483648)
 .ret (.inr y334)) (
 .ret (.inr false))) (
 .ret (.inr false))) (
 let y335:=(x.2==(ByteArray.mk #[105,54,52]))
 .ite y335 (
 let y336:=(dB CO x.1 (cX y220))
 .ret (.inr y336)) (
 let y337:=(x.2==(ByteArray.mk #[120]))
 .ite y337 (
 .ret (.inr false)) (
 let y338:=(x.2==(ByteArray.mk #[120,109]))
 .ite y338 (
 .ret (.inr false)) (
 let y339:=(x.2==(ByteArray.mk #[99,108]))
 .ite y339 (
 let y340:=(bT x.1)
 let y341:=(y340==true)
 .ite y341 (
 let y342:=y219.1
 let y343:=(ak y342 1)
 .ret (.inr y343)) (
 .ret (.inr false))) (
 .ret (.inl (.h0)))))))))))))) (
 .ite y1 (
 let y344:=x.1.2
 let y345:=y344.1
 let y346:=((cj 16 y345)==true)
 .ite y346 (
 let y347:=((cF y345 32)==true)
 .ite y347 (
 .aa (ly y345)<|
 let y348:=(x.2==(ByteArray.mk #[114]))
 .ite y348 (
 let y349:=(bT x.1)
 .ret (.inr y349)) (
 let y350:=(x.2==(ByteArray.mk #[109]))
 .ite y350 (
 .ret (.inr false)) (
 let y351:=(x.2==(ByteArray.mk #[114,109]))
 .ite y351 (
 let y352:=(bT x.1)
 let y353:=(y352==false)
 .ite y353 (
 .ret (.inr false)) (
 .ret (.inr true))) (
 let y354:=(x.2==(ByteArray.mk #[105,56]))
 .ite y354 (
 .ret (.inr false)) (
 let y355:=(x.2==(ByteArray.mk #[117,56]))
 .ite y355 (
 .ret (.inr false)) (
 let y356:=(x.2==(ByteArray.mk #[105,51,50]))
 .ite y356 (
 .ret (.inr false)) (
 let y357:=(x.2==(ByteArray.mk #[105,54,52]))
 .ite y357 (
 .ret (.inr false)) (
 let y358:=(x.2==(ByteArray.mk #[120]))
 .ite y358 (
 let y359:=(dB CO x.1 (hU y345))
 .ret (.inr y359)) (
 let y360:=(x.2==(ByteArray.mk #[120,109]))
 .ite y360 (
 let y361:=(dB CO x.1 (hU y345))
 let y362:=(y361==false)
 .ite y362 (
 .ret (.inr false)) (
 .ret (.inr true))) (
 let y363:=(x.2==(ByteArray.mk #[99,108]))
 .ite y363 (
 let y364:=(bT x.1)
 let y365:=(y364==true)
 .ite y365 (
 let y366:=(ak y345 1)
 .ret (.inr y366)) (
 .ret (.inr false))) (
 .ret (.inl (.h0))))))))))))) (
 let y367:=(x.2==(ByteArray.mk #[114]))
 .ite y367 (
 let y368:=(bT x.1)
 .ret (.inr y368)) (
 let y369:=(x.2==(ByteArray.mk #[109]))
 .ite y369 (
 .ret (.inr false)) (
 let y370:=(x.2==(ByteArray.mk #[114,109]))
 .ite y370 (
 let y371:=(bT x.1)
 let y372:=(y371==false)
 .ite y372 (
 .ret (.inr false)) (
 .ret (.inr true))) (
 let y373:=(x.2==(ByteArray.mk #[105,56]))
 .ite y373 (
 .ret (.inr false)) (
 let y374:=(x.2==(ByteArray.mk #[117,56]))
 .ite y374 (
 .ret (.inr false)) (
 let y375:=(x.2==(ByteArray.mk #[105,51,50]))
 .ite y375 (
 .ret (.inr false)) (
 let y376:=(x.2==(ByteArray.mk #[105,54,52]))
 .ite y376 (
 .ret (.inr false)) (
 let y377:=(x.2==(ByteArray.mk #[120]))
 .ite y377 (
 .ret (.inr false)) (
 let y378:=(x.2==(ByteArray.mk #[120,109]))
 .ite y378 (
 .ret (.inr false)) (
 let y379:=(x.2==(ByteArray.mk #[99,108]))
 .ite y379 (
 let y380:=(bT x.1)
 let y381:=(y380==true)
 .ite y381 (
 let y382:=(ak y345 1)
 .ret (.inr y382)) (
 .ret (.inr false))) (
 .ret (.inl (.h0)))))))))))))) (
 let y383:=(x.2==(ByteArray.mk #[114]))
 .ite y383 (
 let y384:=(bT x.1)
 .ret (.inr y384)) (
 let y385:=(x.2==(ByteArray.mk #[109]))
 .ite y385 (
 .ret (.inr false)) (
 let y386:=(x.2==(ByteArray.mk #[114,109]))
 .ite y386 (
 let y387:=(bT x.1)
 let y388:=(y387==false)
 .ite y388 (
 .ret (.inr false)) (
 .ret (.inr true))) (
 let y389:=(x.2==(ByteArray.mk #[105,56]))
 .ite y389 (
 .ret (.inr false)) (
 let y390:=(x.2==(ByteArray.mk #[117,56]))
 .ite y390 (
 .ret (.inr false)) (
 let y391:=(x.2==(ByteArray.mk #[105,51,50]))
 .ite y391 (
 .ret (.inr false)) (
 let y392:=(x.2==(ByteArray.mk #[105,54,52]))
 .ite y392 (
 .ret (.inr false)) (
 let y393:=(x.2==(ByteArray.mk #[120]))
 .ite y393 (
 .ret (.inr false)) (
 let y394:=(x.2==(ByteArray.mk #[120,109]))
 .ite y394 (
 .ret (.inr false)) (
 let y395:=(x.2==(ByteArray.mk #[99,108]))
 .ite y395 (
 let y396:=(bT x.1)
 let y397:=(y396==true)
 .ite y397 (
 let y398:=(ak y345 1)
 .ret (.inr y398)) (
 .ret (.inr false))) (
 .ret (.inl (.h0)))))))))))))) (
 let y399:=(x.2==(ByteArray.mk #[114]))
 .ite y399 (
 let y400:=(bT x.1)
 .ret (.inr y400)) (
 let y401:=(x.2==(ByteArray.mk #[109]))
 .ite y401 (
 .ret (.inr false)) (
 let y402:=(x.2==(ByteArray.mk #[114,109]))
 .ite y402 (
 let y403:=(bT x.1)
 let y404:=(y403==false)
 .ite y404 (
 .ret (.inr false)) (
 .ret (.inr true))) (
 let y405:=(x.2==(ByteArray.mk #[105,56]))
 .ite y405 (
 .ret (.inr false)) (
 let y406:=(x.2==(ByteArray.mk #[117,56]))
 .ite y406 (
 .ret (.inr false)) (
 let y407:=(x.2==(ByteArray.mk #[105,51,50]))
 .ite y407 (
 .ret (.inr false)) (
 let y408:=(x.2==(ByteArray.mk #[105,54,52]))
 .ite y408 (
 .ret (.inr false)) (
 let y409:=(x.2==(ByteArray.mk #[120]))
 .ite y409 (
 .ret (.inr false)) (
 let y410:=(x.2==(ByteArray.mk #[120,109]))
 .ite y410 (
 .ret (.inr false)) (
 let y411:=(x.2==(ByteArray.mk #[99,108]))
 .ite y411 (
 let y412:=(bT x.1)
 let y413:=(y412==true)
 .ite y413 (
 let y414:=x.1.2
 let y415:=y414.1
 let y416:=(ak y415 1)
 .ret (.inr y416)) (
 .ret (.inr false))) (
 .ret (.inl (.h0)))))))))))))))) (
 let y417:=((ak y0 2)==true)
 .ite y417 (
 .aa (Ct x.1)<|
 let y418:=((ak y0 3)==true)
 .ite y418 (
 let y419:=x.1.2
 let y420:=y419.2.2.2.2.2.2
 .aa (Cs y420)<|
 .ite y1 (
 let y421:=y419.1
 let y422:=((cj 16 y421)==true)
 .ite y422 (
 let y423:=((cF y421 32)==true)
 .ite y423 (
 .aa (ly y421)<|
 let y424:=(x.2==(ByteArray.mk #[114]))
 .ite y424 (
 .ret (.inr false)) (
 let y425:=(x.2==(ByteArray.mk #[109]))
 .ite y425 (
 let y426:=(bT x.1)
 .ret (.inr y426)) (
 let y427:=(x.2==(ByteArray.mk #[114,109]))
 .ite y427 (
 let y428:=(bT x.1)
 .ret (.inr y428)) (
 let y429:=(x.2==(ByteArray.mk #[105,56]))
 .ite y429 (
 let y430:=(dB CO x.1 (cX y420))
 let y431:=(y430==true)
 .ite y431 (
 let y432:=((cj (-128) y420)==true)
 .ite y432 (
 let y433:=(cF y420 128)
 .ret (.inr y433)) (
 .ret (.inr false))) (
 .ret (.inr false))) (
 let y434:=(x.2==(ByteArray.mk #[117,56]))
 .ite y434 (
 let y435:=(dB CO x.1 (cX y420))
 let y436:=(y435==true)
 .ite y436 (
 let y437:=((cj 0 y420)==true)
 .ite y437 (
 let y438:=(cF y420 256)
 .ret (.inr y438)) (
 .ret (.inr false))) (
 .ret (.inr false))) (
 let y439:=(x.2==(ByteArray.mk #[105,51,50]))
 .ite y439 (
 let y440:=(dB CO x.1 (cX y420))
 let y441:=(y440==true)
 .ite y441 (
 let y442:=((cj (-2147483648) y420)==true)
 .ite y442 (
 let y443:=(cF y420 2147483648)
 .ret (.inr y443)) (
 .ret (.inr false))) (
 .ret (.inr false))) (
 let y444:=(x.2==(ByteArray.mk #[105,54,52]))
 .ite y444 (
 let y445:=(dB CO x.1 (cX y420))
 .ret (.inr y445)) (
 let y446:=(x.2==(ByteArray.mk #[120]))
 .ite y446 (
 let y447:=(dB CO x.1 (hU y421))
 .ret (.inr y447)) (
 let y448:=(x.2==(ByteArray.mk #[120,109]))
 .ite y448 (
 let y449:=(dB CO x.1 (hU y421))
 let y450:=(y449==false)
 .ite y450 (
 let y451:=(bT x.1)
 .ret (.inr y451)) (
 .ret (.inr true))) (
 let y452:=(x.2==(ByteArray.mk #[99,108]))
 .ite y452 (
 .ret (.inr false)) (
 .ret (.inl (.h0))))))))))))) (
 let y453:=(x.2==(ByteArray.mk #[114]))
 .ite y453 (
 .ret (.inr false)) (
 let y454:=(x.2==(ByteArray.mk #[109]))
 .ite y454 (
 let y455:=(bT x.1)
 .ret (.inr y455)) (
 let y456:=(x.2==(ByteArray.mk #[114,109]))
 .ite y456 (
 let y457:=(bT x.1)
 .ret (.inr y457)) (
 let y458:=(x.2==(ByteArray.mk #[105,56]))
 .ite y458 (
 let y459:=(dB CO x.1 (cX y420))
 let y460:=(y459==true)
 .ite y460 (
 let y461:=((cj (-128) y420)==true)
 .ite y461 (
 let y462:=(cF y420 128)
 .ret (.inr y462)) (
 .ret (.inr false))) (
 .ret (.inr false))) (
 let y463:=(x.2==(ByteArray.mk #[117,56]))
 .ite y463 (
 let y464:=(dB CO x.1 (cX y420))
 let y465:=(y464==true)
 .ite y465 (
 let y466:=((cj 0 y420)==true)
 .ite y466 (
 let y467:=(cF y420 256)
 .ret (.inr y467)) (
 .ret (.inr false))) (
 .ret (.inr false))) (
 let y468:=(x.2==(ByteArray.mk #[105,51,50]))
 .ite y468 (
 let y469:=(dB CO x.1 (cX y420))
 let y470:=(y469==true)
 .ite y470 (
 let y471:=((cj (-2147483648) y420)==true)
 .ite y471 (
 let y472:=(cF y420 2147483648)
 .ret (.inr y472)) (
 .ret (.inr false))) (
 .ret (.inr false))) (
 let y473:=(x.2==(ByteArray.mk #[105,54,52]))
 .ite y473 (
 let y474:=(dB CO x.1 (cX y420))
 .ret (.inr y474)) (
 let y475:=(x.2==(ByteArray.mk #[120]))
 .ite y475 (
 .ret (.inr false)) (
 let y476:=(x.2==(ByteArray.mk #[120,109]))
 .ite y476 (
 let y477:=(bT x.1)
 .ret (.inr y477)) (
 let y478:=(x.2==(ByteArray.mk #[99,108]))
 .ite y478 (
 .ret (.inr false)) (
 .ret (.inl (.h0)))))))))))))) (
 let y479:=(x.2==(ByteArray.mk #[114]))
 .ite y479 (
 .ret (.inr false)) (
 let y480:=(x.2==(ByteArray.mk #[109]))
 .ite y480 (
 let y481:=(bT x.1)
 .ret (.inr y481)) (
 let y482:=(x.2==(ByteArray.mk #[114,109]))
 .ite y482 (
 let y483:=(bT x.1)
 .ret (.inr y483)) (
 let y484:=(x.2==(ByteArray.mk #[105,56]))
 .ite y484 (
 let y485:=(dB CO x.1 (cX y420))
 let y486:=(y485==true)
 .ite y486 (
 let y487:=((cj (-128) y420)==true)
 .ite y487 (
 let y488:=(cF y420 128)
 .ret (.inr y488)) (
 .ret (.inr false))) (
 .ret (.inr false))) (
 let y489:=(x.2==(ByteArray.mk #[117,56]))
 .ite y489 (
 let y490:=(dB CO x.1 (cX y420))
 let y491:=(y490==true)
 .ite y491 (
 let y492:=((cj 0 y420)==true)
 .ite y492 (
 let y493:=(cF y420 256)
 .ret (.inr y493)) (
 .ret (.inr false))) (
 .ret (.inr false))) (
 let y494:=(x.2==(ByteArray.mk #[105,51,50]))
 .ite y494 (
 let y495:=(dB CO x.1 (cX y420))
 let y496:=(y495==true)
 .ite y496 (
 let y497:=((cj (-2147483648) y420)==true)
 .ite y497 (
 let y498:=(cF y420 2147483648)
 .ret (.inr y498)) (
 .ret (.inr false))) (
 .ret (.inr false))) (
 let y499:=(x.2==(ByteArray.mk #[105,54,52]))
 .ite y499 (
 let y500:=(dB CO x.1 (cX y420))
 .ret (.inr y500)) (
 let y501:=(x.2==(ByteArray.mk #[120]))
 .ite y501 (
 .ret (.inr false)) (
 let y502:=(x.2==(ByteArray.mk #[120,109]))
 .ite y502 (
 let y503:=(bT x.1)
 .ret (.inr y503)) (
 let y504:=(x.2==(ByteArray.mk #[99,108]))
 .ite y504 (
 .ret (.inr false)) (
 .ret (.inl (.h0)))))))))))))) (
 let y505:=(x.2==(ByteArray.mk #[114]))
 .ite y505 (
 .ret (.inr false)) (
 let y506:=(x.2==(ByteArray.mk #[109]))
 .ite y506 (
 let y507:=(bT x.1)
 .ret (.inr y507)) (
 let y508:=(x.2==(ByteArray.mk #[114,109]))
 .ite y508 (
 let y509:=(bT x.1)
 .ret (.inr y509)) (
 let y510:=(x.2==(ByteArray.mk #[105,56]))
 .ite y510 (
 let y511:=(dB CO x.1 (cX y420))
 let y512:=(y511==true)
 .ite y512 (
 let y513:=((cj (-128) y420)==true)
 .ite y513 (
 let y514:=(cF y420 128)
 .ret (.inr y514)) (
 .ret (.inr false))) (
 .ret (.inr false))) (
 let y515:=(x.2==(ByteArray.mk #[117,56]))
 .ite y515 (
 let y516:=(dB CO x.1 (cX y420))
 let y517:=(y516==true)
 .ite y517 (
 let y518:=((cj 0 y420)==true)
 .ite y518 (
 let y519:=(cF y420 256)
 .ret (.inr y519)) (
 .ret (.inr false))) (
 .ret (.inr false))) (
 let y520:=(x.2==(ByteArray.mk #[105,51,50]))
 .ite y520 (
 let y521:=(dB CO x.1 (cX y420))
 let y522:=(y521==true)
 .ite y522 (
 let y523:=((cj (-2147483648) y420)==true)
 .ite y523 (
 let y524:=(cF y420 2147483648)
 .ret (.inr y524)) (
 .ret (.inr false))) (
 .ret (.inr false))) (
 let y525:=(x.2==(ByteArray.mk #[105,54,52]))
 .ite y525 (
 let y526:=(dB CO x.1 (cX y420))
 .ret (.inr y526)) (
 let y527:=(x.2==(ByteArray.mk #[120]))
 .ite y527 (
 .ret (.inr false)) (
 let y528:=(x.2==(ByteArray.mk #[120,109]))
 .ite y528 (
 let y529:=(bT x.1)
 .ret (.inr y529)) (
 let y530:=(x.2==(ByteArray.mk #[99,108]))
 .ite y530 (
 .ret (.inr false)) (
 .ret (.inl (.h0)))))))))))))) (
 .ite y1 (
 let y531:=x.1.2
 let y532:=y531.1
 let y533:=((cj 16 y532)==true)
 .ite y533 (
 let y534:=((cF y532 32)==true)
 .ite y534 (
 .aa (ly y532)<|
 let y535:=(x.2==(ByteArray.mk #[114]))
 .ite y535 (
 .ret (.inr false)) (
 let y536:=(x.2==(ByteArray.mk #[109]))
 .ite y536 (
 let y537:=(bT x.1)
 .ret (.inr y537)) (
 let y538:=(x.2==(ByteArray.mk #[114,109]))
 .ite y538 (
 let y539:=(bT x.1)
 .ret (.inr y539)) (
 let y540:=(x.2==(ByteArray.mk #[105,56]))
 .ite y540 (
 .ret (.inr false)) (
 let y541:=(x.2==(ByteArray.mk #[117,56]))
 .ite y541 (
 .ret (.inr false)) (
 let y542:=(x.2==(ByteArray.mk #[105,51,50]))
 .ite y542 (
 .ret (.inr false)) (
 let y543:=(x.2==(ByteArray.mk #[105,54,52]))
 .ite y543 (
 .ret (.inr false)) (
 let y544:=(x.2==(ByteArray.mk #[120]))
 .ite y544 (
 let y545:=(dB CO x.1 (hU y532))
 .ret (.inr y545)) (
 let y546:=(x.2==(ByteArray.mk #[120,109]))
 .ite y546 (
 let y547:=(dB CO x.1 (hU y532))
 let y548:=(y547==false)
 .ite y548 (
 let y549:=(bT x.1)
 .ret (.inr y549)) (
 .ret (.inr true))) (
 let y550:=(x.2==(ByteArray.mk #[99,108]))
 .ite y550 (
 .ret (.inr false)) (
 .ret (.inl (.h0))))))))))))) (
 let y551:=(x.2==(ByteArray.mk #[114]))
 .ite y551 (
 .ret (.inr false)) (
 let y552:=(x.2==(ByteArray.mk #[109]))
 .ite y552 (
 let y553:=(bT x.1)
 .ret (.inr y553)) (
 let y554:=(x.2==(ByteArray.mk #[114,109]))
 .ite y554 (
 let y555:=(bT x.1)
 .ret (.inr y555)) (
 let y556:=(x.2==(ByteArray.mk #[105,56]))
 .ite y556 (
 .ret (.inr false)) (
 let y557:=(x.2==(ByteArray.mk #[117,56]))
 .ite y557 (
 .ret (.inr false)) (
 let y558:=(x.2==(ByteArray.mk #[105,51,50]))
 .ite y558 (
 .ret (.inr false)) (
 let y559:=(x.2==(ByteArray.mk #[105,54,52]))
 .ite y559 (
 .ret (.inr false)) (
 let y560:=(x.2==(ByteArray.mk #[120]))
 .ite y560 (
 .ret (.inr false)) (
 let y561:=(x.2==(ByteArray.mk #[120,109]))
 .ite y561 (
 let y562:=(bT x.1)
 .ret (.inr y562)) (
 let y563:=(x.2==(ByteArray.mk #[99,108]))
 .ite y563 (
 .ret (.inr false)) (
 .ret (.inl (.h0)))))))))))))) (
 let y564:=(x.2==(ByteArray.mk #[114]))
 .ite y564 (
 .ret (.inr false)) (
 let y565:=(x.2==(ByteArray.mk #[109]))
 .ite y565 (
 let y566:=(bT x.1)
 .ret (.inr y566)) (
 let y567:=(x.2==(ByteArray.mk #[114,109]))
 .ite y567 (
 let y568:=(bT x.1)
 .ret (.inr y568)) (
 let y569:=(x.2==(ByteArray.mk #[105,56]))
 .ite y569 (
 .ret (.inr false)) (
 let y570:=(x.2==(ByteArray.mk #[117,56]))
 .ite y570 (
 .ret (.inr false)) (
 let y571:=(x.2==(ByteArray.mk #[105,51,50]))
 .ite y571 (
 .ret (.inr false)) (
 let y572:=(x.2==(ByteArray.mk #[105,54,52]))
 .ite y572 (
 .ret (.inr false)) (
 let y573:=(x.2==(ByteArray.mk #[120]))
 .ite y573 (
 .ret (.inr false)) (
 let y574:=(x.2==(ByteArray.mk #[120,109]))
 .ite y574 (
 let y575:=(bT x.1)
 .ret (.inr y575)) (
 let y576:=(x.2==(ByteArray.mk #[99,108]))
 .ite y576 (
 .ret (.inr false)) (
 .ret (.inl (.h0)))))))))))))) (
 let y577:=(x.2==(ByteArray.mk #[114]))
 .ite y577 (
 .ret (.inr false)) (
 let y578:=(x.2==(ByteArray.mk #[109]))
 .ite y578 (
 let y579:=(bT x.1)
 .ret (.inr y579)) (
 let y580:=(x.2==(ByteArray.mk #[114,109]))
 .ite y580 (
 let y581:=(bT x.1)
 .ret (.inr y581)) (
 let y582:=(x.2==(ByteArray.mk #[105,56]))
 .ite y582 (
 .ret (.inr false)) (
 let y583:=(x.2==(ByteArray.mk #[117,56]))
 .ite y583 (
 .ret (.inr false)) (
 let y584:=(x.2==(ByteArray.mk #[105,51,50]))
 .ite y584 (
 .ret (.inr false)) (
 let y585:=(x.2==(ByteArray.mk #[105,54,52]))
 .ite y585 (
 .ret (.inr false)) (
 let y586:=(x.2==(ByteArray.mk #[120]))
 .ite y586 (
 .ret (.inr false)) (
 let y587:=(x.2==(ByteArray.mk #[120,109]))
 .ite y587 (
 let y588:=(bT x.1)
 .ret (.inr y588)) (
 let y589:=(x.2==(ByteArray.mk #[99,108]))
 .ite y589 (
 .ret (.inr false)) (
 .ret (.inl (.h0))))))))))))))) (
 let y590:=((ak y0 3)==true)
 .ite y590 (
 let y591:=x.1.2
 let y592:=y591.2.2.2.2.2.2
 .aa (Cs y592)<|
 .ite y1 (
 let y593:=y591.1
 let y594:=((cj 16 y593)==true)
 .ite y594 (
 let y595:=((cF y593 32)==true)
 .ite y595 (
 .aa (ly y593)<|
 let y596:=(x.2==(ByteArray.mk #[114]))
 .ite y596 (
 .ret (.inr false)) (
 let y597:=(x.2==(ByteArray.mk #[109]))
 .ite y597 (
 .ret (.inr false)) (
 let y598:=(x.2==(ByteArray.mk #[114,109]))
 .ite y598 (
 .ret (.inr false)) (
 let y599:=(x.2==(ByteArray.mk #[105,56]))
 .ite y599 (
 let y600:=(dB CO x.1 (cX y592))
 let y601:=(y600==true)
 .ite y601 (
 let y602:=((cj (-128) y592)==true)
 .ite y602 (
 let y603:=(cF y592 128)
 .ret (.inr y603)) (
 .ret (.inr false))) (
 .ret (.inr false))) (
 let y604:=(x.2==(ByteArray.mk #[117,56]))
 .ite y604 (
 let y605:=(dB CO x.1 (cX y592))
 let y606:=(y605==true)
 .ite y606 (
 let y607:=((cj 0 y592)==true)
 .ite y607 (
 let y608:=(cF y592 256)
 .ret (.inr y608)) (
 .ret (.inr false))) (
 .ret (.inr false))) (
 let y609:=(x.2==(ByteArray.mk #[105,51,50]))
 .ite y609 (
 let y610:=(dB CO x.1 (cX y592))
 let y611:=(y610==true)
 .ite y611 (
 let y612:=((cj (-2147483648) y592)==true)
 .ite y612 (
 let y613:=(cF y592 2147483648)
 .ret (.inr y613)) (
 .ret (.inr false))) (
 .ret (.inr false))) (
 let y614:=(x.2==(ByteArray.mk #[105,54,52]))
 .ite y614 (
 let y615:=(dB CO x.1 (cX y592))
 .ret (.inr y615)) (
 let y616:=(x.2==(ByteArray.mk #[120]))
 .ite y616 (
 let y617:=(dB CO x.1 (hU y593))
 .ret (.inr y617)) (
 let y618:=(x.2==(ByteArray.mk #[120,109]))
 .ite y618 (
 let y619:=(dB CO x.1 (hU y593))
 let y620:=(y619==false)
 .ite y620 (
 .ret (.inr false)) (
 .ret (.inr true))) (
 let y621:=(x.2==(ByteArray.mk #[99,108]))
 .ite y621 (
 .ret (.inr false)) (
 .ret (.inl (.h0))))))))))))) (
 let y622:=(x.2==(ByteArray.mk #[114]))
 .ite y622 (
 .ret (.inr false)) (
 let y623:=(x.2==(ByteArray.mk #[109]))
 .ite y623 (
 .ret (.inr false)) (
 let y624:=(x.2==(ByteArray.mk #[114,109]))
 .ite y624 (
 .ret (.inr false)) (
 let y625:=(x.2==(ByteArray.mk #[105,56]))
 .ite y625 (
 let y626:=(dB CO x.1 (cX y592))
 let y627:=(y626==true)
 .ite y627 (
 let y628:=((cj (-128) y592)==true)
 .ite y628 (
 let y629:=(cF y592 128)
 .ret (.inr y629)) (
 .ret (.inr false))) (
 .ret (.inr false))) (
 let y630:=(x.2==(ByteArray.mk #[117,56]))
 .ite y630 (
 let y631:=(dB CO x.1 (cX y592))
 let y632:=(y631==true)
 .ite y632 (
 let y633:=((cj 0 y592)==true)
 .ite y633 (
 let y634:=(cF y592 256)
 .ret (.inr y634)) (
 .ret (.inr false))) (
 .ret (.inr false))) (
 let y635:=(x.2==(ByteArray.mk #[105,51,50]))
 .ite y635 (
 let y636:=(dB CO x.1 (cX y592))
 let y637:=(y636==true)
 .ite y637 (
 let y638:=((cj (-2147483648) y592)==true)
 .ite y638 (
 let y639:=(cF y592 2147483648)
 .ret (.inr y639)) (
 .ret (.inr false))) (
 .ret (.inr false))) (
 let y640:=(x.2==(ByteArray.mk #[105,54,52]))
 .ite y640 (
 let y641:=(dB CO x.1 (cX y592))
 .ret (.inr y641)) (
 let y642:=(x.2==(ByteArray.mk #[120]))
 .ite y642 (
 .ret (.inr false)) (
 let y643:=(x.2==(ByteArray.mk #[120,109]))
 .ite y643 (
 .ret (.inr false)) (
 let y644:=(x.2==(ByteArray.mk #[99,108]))
 .ite y644 (
 .ret (.inr false)) (
 .ret (.inl (.h0)))))))))))))) (
 let y645:=(x.2==(ByteArray.mk #[114]))
 .ite y645 (
 .ret (.inr false)) (
 let y646:=(x.2==(ByteArray.mk #[109]))
 .ite y646 (
 .ret (.inr false)) (
 let y647:=(x.2==(ByteArray.mk #[114,109]))
 .ite y647 (
 .ret (.inr false)) (
 let y648:=(x.2==(ByteArray.mk #[105,56]))
 .ite y648 (
 let y649:=(dB CO x.1 (cX y592))
 let y650:=(y649==true)
 .ite y650 (
 let y651:=((cj (-128) y592)==true)
 .ite y651 (
 let y652:=(cF y592 128)
 .ret (.inr y652)) (
 .ret (.inr false))) (
 .ret (.inr false))) (
 let y653:=(x.2==(ByteArray.mk #[117,56]))
 .ite y653 (
 let y654:=(dB CO x.1 (cX y592))
 let y655:=(y654==true)
 .ite y655 (
 let y656:=((cj 0 y592)==true)
 .ite y656 (
 let y657:=(cF y592 256)
 .ret (.inr y657)) (
 .ret (.inr false))) (
 .ret (.inr false))) (
 let y658:=(x.2==(ByteArray.mk #[105,51,50]))
 .ite y658 (
 let y659:=(dB CO x.1 (cX y592))
 let y660:=(y659==true)
 .ite y660 (
 let y661:=((cj (-2147483648) y592)==true)
 .ite y661 (
 let y662:=(cF y592 2147483648)
 .ret (.inr y662)) (
 .ret (.inr false))) (
 .ret (.inr false))) (
 let y663:=(x.2==(ByteArray.mk #[105,54,52]))
 .ite y663 (
 let y664:=(dB CO x.1 (cX y592))
 .ret (.inr y664)) (
 let y665:=(x.2==(ByteArray.mk #[120]))
 .ite y665 (
 .ret (.inr false)) (
 let y666:=(x.2==(ByteArray.mk #[120,109]))
 .ite y666 (
 .ret (.inr false)) (
 let y667:=(x.2==(ByteArray.mk #[99,108]))
 .ite y667 (
 .ret (.inr false)) (
 .ret (.inl (.h0)))))))))))))) (
 let y668:=(x.2==(ByteArray.mk #[114]))
 .ite y668 (
 .ret (.inr false)) (
 let y669:=(x.2==(ByteArray.mk #[109]))
 .ite y669 (
 .ret (.inr false)) (
 let y670:=(x.2==(ByteArray.mk #[114,109]))
 .ite y670 (
 .ret (.inr false)) (
 let y671:=(x.2==(ByteArray.mk #[105,56]))
 .ite y671 (
 let y672:=(dB CO x.1 (cX y592))
 let y673:=(y672==true)
 .ite y673 (
 let y674:=((cj (-128) y592)==true)
 .ite y674 (
 let y675:=(cF y592 128)
 .ret (.inr y675)) (
 .ret (.inr false))) (
 .ret (.inr false))) (
 let y676:=(x.2==(ByteArray.mk #[117,56]))
 .ite y676 (
 let y677:=(dB CO x.1 (cX y592))
 let y678:=(y677==true)
 .ite y678 (
 let y679:=((cj 0 y592)==true)
 .ite y679 (
 let y680:=(cF y592 256)
 .ret (.inr y680)) (
 .ret (.inr false))) (
 .ret (.inr false))) (
 let y681:=(x.2==(ByteArray.mk #[105,51,50]))
 .ite y681 (
 let y682:=(dB CO x.1 (cX y592))
 let y683:=(y682==true)
 .ite y683 (
 let y684:=((cj (-2147483648) y592)==true)
 .ite y684 (
 let y685:=(cF y592 2147483648)
 .ret (.inr y685)) (
 .ret (.inr false))) (
 .ret (.inr false))) (
 let y686:=(x.2==(ByteArray.mk #[105,54,52]))
 .ite y686 (
 let y687:=(dB CO x.1 (cX y592))
 .ret (.inr y687)) (
 let y688:=(x.2==(ByteArray.mk #[120]))
 .ite y688 (
 .ret (.inr false)) (
 let y689:=(x.2==(ByteArray.mk #[120,109]))
 .ite y689 (
 .ret (.inr false)) (
 let y690:=(x.2==(ByteArray.mk #[99,108]))
 .ite y690 (
 .ret (.inr false)) (
 .ret (.inl (.h0)))))))))))))) (
 .ite y1 (
 let y691:=x.1.2
 let y692:=y691.1
 let y693:=((cj 16 y692)==true)
 .ite y693 (
 let y694:=((cF y692 32)==true)
 .ite y694 (
 .aa (ly y692)<|
 let y695:=(x.2==(ByteArray.mk #[114]))
 .ite y695 (
 .ret (.inr false)) (
 let y696:=(x.2==(ByteArray.mk #[109]))
 .ite y696 (
 .ret (.inr false)) (
 let y697:=(x.2==(ByteArray.mk #[114,109]))
 .ite y697 (
 .ret (.inr false)) (
 let y698:=(x.2==(ByteArray.mk #[105,56]))
 .ite y698 (
 .ret (.inr false)) (
 let y699:=(x.2==(ByteArray.mk #[117,56]))
 .ite y699 (
 .ret (.inr false)) (
 let y700:=(x.2==(ByteArray.mk #[105,51,50]))
 .ite y700 (
 .ret (.inr false)) (
 let y701:=(x.2==(ByteArray.mk #[105,54,52]))
 .ite y701 (
 .ret (.inr false)) (
 let y702:=(x.2==(ByteArray.mk #[120]))
 .ite y702 (
 let y703:=(dB CO x.1 (hU y692))
 .ret (.inr y703)) (
 let y704:=(x.2==(ByteArray.mk #[120,109]))
 .ite y704 (
 let y705:=(dB CO x.1 (hU y692))
 let y706:=(y705==false)
 .ite y706 (
 .ret (.inr false)) (
 .ret (.inr true))) (
 let y707:=(x.2==(ByteArray.mk #[99,108]))
 .ite y707 (
 .ret (.inr false)) (
 .ret (.inl (.h0))))))))))))) (
 let y708:=(x.2==(ByteArray.mk #[114]))
 .ite y708 (
 .ret (.inr false)) (
 let y709:=(x.2==(ByteArray.mk #[109]))
 .ite y709 (
 .ret (.inr false)) (
 let y710:=(x.2==(ByteArray.mk #[114,109]))
 .ite y710 (
 .ret (.inr false)) (
 let y711:=(x.2==(ByteArray.mk #[105,56]))
 .ite y711 (
 .ret (.inr false)) (
 let y712:=(x.2==(ByteArray.mk #[117,56]))
 .ite y712 (
 .ret (.inr false)) (
 let y713:=(x.2==(ByteArray.mk #[105,51,50]))
 .ite y713 (
 .ret (.inr false)) (
 let y714:=(x.2==(ByteArray.mk #[105,54,52]))
 .ite y714 (
 .ret (.inr false)) (
 let y715:=(x.2==(ByteArray.mk #[120]))
 .ite y715 (
 .ret (.inr false)) (
 let y716:=(x.2==(ByteArray.mk #[120,109]))
 .ite y716 (
 .ret (.inr false)) (
 let y717:=(x.2==(ByteArray.mk #[99,108]))
 .ite y717 (
 .ret (.inr false)) (
 .ret (.inl (.h0)))))))))))))) (
 let y718:=(x.2==(ByteArray.mk #[114]))
 .ite y718 (
 .ret (.inr false)) (
 let y719:=(x.2==(ByteArray.mk #[109]))
 .ite y719 (
 .ret (.inr false)) (
 let y720:=(x.2==(ByteArray.mk #[114,109]))
 .ite y720 (
 .ret (.inr false)) (
 let y721:=(x.2==(ByteArray.mk #[105,56]))
 .ite y721 (
 .ret (.inr false)) (
 let y722:=(x.2==(ByteArray.mk #[117,56]))
 .ite y722 (
 .ret (.inr false)) (
 let y723:=(x.2==(ByteArray.mk #[105,51,50]))
 .ite y723 (
 .ret (.inr false)) (
 let y724:=(x.2==(ByteArray.mk #[105,54,52]))
 .ite y724 (
 .ret (.inr false)) (
 let y725:=(x.2==(ByteArray.mk #[120]))
 .ite y725 (
 .ret (.inr false)) (
 let y726:=(x.2==(ByteArray.mk #[120,109]))
 .ite y726 (
 .ret (.inr false)) (
 let y727:=(x.2==(ByteArray.mk #[99,108]))
 .ite y727 (
 .ret (.inr false)) (
 .ret (.inl (.h0)))))))))))))) (
 let y728:=(x.2==(ByteArray.mk #[114]))
 .ite y728 (
 .ret (.inr false)) (
 let y729:=(x.2==(ByteArray.mk #[109]))
 .ite y729 (
 .ret (.inr false)) (
 let y730:=(x.2==(ByteArray.mk #[114,109]))
 .ite y730 (
 .ret (.inr false)) (
 let y731:=(x.2==(ByteArray.mk #[105,56]))
 .ite y731 (
 .ret (.inr false)) (
 let y732:=(x.2==(ByteArray.mk #[117,56]))
 .ite y732 (
 .ret (.inr false)) (
 let y733:=(x.2==(ByteArray.mk #[105,51,50]))
 .ite y733 (
 .ret (.inr false)) (
 let y734:=(x.2==(ByteArray.mk #[105,54,52]))
 .ite y734 (
 .ret (.inr false)) (
 let y735:=(x.2==(ByteArray.mk #[120]))
 .ite y735 (
 .ret (.inr false)) (
 let y736:=(x.2==(ByteArray.mk #[120,109]))
 .ite y736 (
 .ret (.inr false)) (
 let y737:=(x.2==(ByteArray.mk #[99,108]))
 .ite y737 (
 .ret (.inr false)) (
 .ret (.inl (.h0))))))))))))))))
noncomputable def qy (x:HW):XQ→Tr (XQ⊕Bool)
 | .h0=>
 .ret (.inr (dB CO x.1 (0,(0,(0,(0,(0,(0,(false,0)))))))))
noncomputable def Mn (x:HW):Bool:=gh (TC.kP .bool) (qy x) (yR x)
def CA (x:HW):Prop:=∃ r,Ends (qy x) r (yR x)
end Go.bz.RL
end
section
namespace Go.bz.RL
open Go.Proofs Go.bz
inductive XS where
 | h0 (v0:jm) (v1:Int)
noncomputable def yV (x:DI):Tr (XS⊕(l3×Bool)):=
 .ite ((ak x.1 29)==false) (
 .ite ((ak x.1 30)==false) (
 let y0:=x.2.1
 let y1:=((cF 15 y0)==false)
 .ite y1 (
 .ite ((!(ak x.1 31))==true) (
 .ite ((dG y0 0)==false) (
 let y2:=((dG x.1 39)==true)
 .ite y2 (
 let y3:=(dG x.2.2.2.2.2.1 0)
 .ite y3 (
 let y4:B5:=((0,(ByteArray.empty,(ByteArray.empty,(0,(([]:List Int),(0,(0,0))))))),false)
 .ret (.inr y4)) (
 let y5:bM:=(x.1,y0)
 .aa (nO y5)<|
 let y6:=(bI y5)
 .ret (.inl (.h0 y6 0)))) (
 let y7:bM:=(x.1,y0)
 .aa (nO y7)<|
 let y8:=(bI y7)
 .ret (.inl (.h0 y8 0)))) (
 let y9:B5:=((0,(ByteArray.empty,(ByteArray.empty,(0,(([]:List Int),(0,(0,0))))))),false)
 .ret (.inr y9))) (
 let y10:=((dG x.1 39)==true)
 .ite y10 (
 let y11:=(dG x.2.2.2.2.2.1 0)
 .ite y11 (
 let y12:B5:=((0,(ByteArray.empty,(ByteArray.empty,(0,(([]:List Int),(0,(0,0))))))),false)
 .ret (.inr y12)) (
 let y13:bM:=(x.1,y0)
 .aa (nO y13)<|
 let y14:=(bI y13)
 .ret (.inl (.h0 y14 0)))) (
 let y15:bM:=(x.1,y0)
 .aa (nO y15)<|
 let y16:=(bI y15)
 .ret (.inl (.h0 y16 0))))) (
 let y17:B5:=((0,(ByteArray.empty,(ByteArray.empty,(0,(([]:List Int),(0,(0,0))))))),false)
 .ret (.inr y17))) (
 let y18:=x.2.1
 let y19:=((cF 15 y18)==false)
 .ite y19 (
 let y20:=((dG x.1 39)==true)
 .ite y20 (
 let y21:=(dG x.2.2.2.2.2.1 0)
 .ite y21 (
 let y22:B5:=((0,(ByteArray.empty,(ByteArray.empty,(0,(([]:List Int),(0,(0,0))))))),false)
 .ret (.inr y22)) (
 let y23:bM:=(x.1,y18)
 .aa (nO y23)<|
 let y24:=(bI y23)
 .ret (.inl (.h0 y24 0)))) (
 let y25:bM:=(x.1,y18)
 .aa (nO y25)<|
 let y26:=(bI y25)
 .ret (.inl (.h0 y26 0)))) (
 let y27:B5:=((0,(ByteArray.empty,(ByteArray.empty,(0,(([]:List Int),(0,(0,0))))))),false)
 .ret (.inr y27)))) (
 let y28:=x.2.1
 let y29:=((cF 15 y28)==false)
 .ite y29 (
 let y30:=((dG x.1 39)==true)
 .ite y30 (
 let y31:=(dG x.2.2.2.2.2.1 0)
 .ite y31 (
 let y32:B5:=((0,(ByteArray.empty,(ByteArray.empty,(0,(([]:List Int),(0,(0,0))))))),false)
 .ret (.inr y32)) (
 let y33:bM:=(x.1,y28)
 .aa (nO y33)<|
 let y34:=(bI y33)
 .ret (.inl (.h0 y34 0)))) (
 let y35:bM:=(x.1,y28)
 .aa (nO y35)<|
 let y36:=(bI y35)
 .ret (.inl (.h0 y36 0)))) (
 let y37:B5:=((0,(ByteArray.empty,(ByteArray.empty,(0,(([]:List Int),(0,(0,0))))))),false)
 .ret (.inr y37)))
noncomputable def kd (x:DI):XS→Tr (XS⊕(l3×Bool))
 | .h0 v0 v1=>
 .ite (cF v1 (v0.length:Int)) (
 .aa ((0:Int)≤v1)<|
 .aa (v1 < (v0.length:Int))<|
 let y0:=x.2.2
 let y1:l3:=(eZ Gz v0 (v1).toNat)
 let y2:bM:=(y0.1,y1.1)
 .aa (Lv y2)<|
 .ite ((RB y2)==true) (
 .aa ((0:Int)≤v1)<|
 .aa (v1 < (v0.length:Int))<|
 let y3:=y0.2
 let y4:=y1.2
 let y5:HW:=(y3.1,y4.1)
 .aa (CA y5)<|
 .ite ((Mn y5)==true) (
 .aa ((0:Int)≤v1)<|
 .aa (v1 < (v0.length:Int))<|
 let y6:HW:=(y3.2.1,y4.2.1)
 .aa (CA y6)<|
 .ite (Mn y6) (
 .aa ((0:Int)≤v1)<|
 .aa (v1 < (v0.length:Int))<|
 .ret (.inr (y1,true))) (
 let y7:Int:=(aK .i64 v1 1)
 .ret (.inl (.h0 v0 y7)))) (
 let y8:Int:=(aK .i64 v1 1)
 .ret (.inl (.h0 v0 y8)))) (
 let y9:Int:=(aK .i64 v1 1)
 .ret (.inl (.h0 v0 y9)))) (
 .ret (.inr ((0,(ByteArray.empty,(ByteArray.empty,(0,(([]:List Int),(0,(0,0))))))),false)))
noncomputable def R4 (x:DI):(l3×Bool):=gh (TC.kP (.st Gz (.bu .bool))) (kd x) (yV x)
def Ps (x:DI):Prop:=∃ r,Ends (kd x) r (yV x)
noncomputable def OR (x:DI):Tr Bool:=
 .aa (Ps x)<|
 .ret (R4 x).2
noncomputable def WS (x:DI):Bool:=(OR x).val
def pre6 (x:DI):Prop:=(OR x).ok
inductive J8 where
 | h0 (v1:Int) (v2:Int) (v4:B3)
 | h1 (v0:HX) (v1:Int) (v3:Int) (v4:Int) (v6:B3) (v7:bt)
 | h2 (v0:HX) (v1:Int) (v3:Int) (v4:Int) (v6:B3) (v7:bt)
 | h3 (v1:Int) (v2:Int) (v4:B3) (v5:bt)
noncomputable def rT (x:aq):Tr (J8⊕Bool):=
 .ret (.inl (.h0 (x.length:Int) 0 ([]:List bM)))
noncomputable def dT (x:aq):J8→Tr (J8⊕Bool)
 | .h0 v1 v2 v4=>
 .ite (cF v2 v1) (
 .aa ((0:Int)≤v2)<|
 .aa (v2 < (x.length:Int))<|
 .aa ((0:Nat) < 3)<|
 .aa ((1:Nat) < 3)<|
 .aa ((2:Nat) < 3)<|
 let y0:bt:=(eZ aZ x (v2).toNat)
 let y1:=y0.2.2.2
 let y2:=y1.2
 .ret (.inl (.h1 [y1.1,y2.1,y2.2.1] 0 v1 v2 v4 y0))) (
 .ret (.inr true))
 | .h1 v0 v1 v3 v4 v6 v7=>
 .ite (cF v1 3) (
 .aa ((0:Int)≤v1)<|
 .aa ((v1:Int) < 3)<|
 .aa (((v1).toNat:Nat) < 3)<|
 let y0:aF:=(eZ ar v0 (v1).toNat)
 .ite ((!y0.1)==true) (
 let y1:=y0.2.1
 .ite ((cj 32 y1)==true) (
 .ite (ak (gk y1 v6) 0) (
 .ret (.inr false)) (
 .ret (.inl (.h2 v0 v1 v3 v4 v6 v7)))) (
 .ret (.inl (.h2 v0 v1 v3 v4 v6 v7)))) (
 .ret (.inl (.h2 v0 v1 v3 v4 v6 v7)))) (
 .ret (.inl (.h3 v3 v4 v6 v7)))
 | .h2 v0 v1 v3 v4 v6 v7=>
 .ret (.inl (.h1 v0 (aK .i64 v1 1) v3 v4 v6 v7))
 | .h3 v1 v2 v4 v5=>
 let y0:Int:=v5.2.2.1
 .ite (cj 32 y0) (
 .ite ((cj 64 y0)==false) (
 let y1:Int:=(gk y0 v4)
 .ite (cF 0 y1) (
 .ret (.inr false)) (
 let y2:Int:=(aK .i64 v2 1)
 .ret (.inl (.h0 v1 y2 (nH y0 (aK .i64 y1 1) v4))))) (
 .ret (.inr false))) (
 let y3:Int:=(aK .i64 v2 1)
 .ret (.inl (.h0 v1 y3 v4)))
noncomputable def fZ (x:aq):J8→Head
 | .h0 v1 v2 v4=>
 {fr:={id:=8,kind:=.top,T:=[.any,.any,(.ptr 0 []),(.ptr 1 [])]++List.replicate 4 .any++[(.gf aZ x),(.int .i64 v1),(.int .i64 v2)]++List.replicate 29 .any,items:=[.lp (ay [1,1,0,1,0,0] (ag Tryz.f8)),.a6 0,.code (ay [1,1,1] (ag Tryz.f8))],D:=[],base:=0},
  bm:=[],
  H:=[.cell true 4 (.bool false),.cell true 65 (.mp 2),.kh v4]}
 | .h1 v0 v1 v3 v4 v6 v7=>
 {fr:={id:=69,kind:=(.iter 6),T:=[(.ik 6)]++List.replicate 10 .any++[(.arr 3 ar v0),(.int .i64 v1)]++List.replicate 18 .any,items:=[.lp (ay [1,0,0] (ag Tryz.f69)),.a6 0],D:=[],base:=7},
  bm:=[{id:=8,kind:=.top,T:=[.any,.any,(.ptr 0 []),(.ptr 1 []),.any,(.ptr 3 []),.any,.any,(.gf aZ x),(.int .i64 v3),(.int .i64 v4)]++List.replicate 29 .any,items:=[.fin 6,.a6 2,.code (ay [1,1,0,1,0,0,1,1,0,0,1,1] (ag Tryz.f8)),.a6 1,.code (ay [1,1,0,1,0,0,1,1,1] (ag Tryz.f8)),.lp (ay [1,1,0,1,0,0] (ag Tryz.f8)),.a6 0,.code (ay [1,1,1] (ag Tryz.f8))],D:=[5],base:=0}],
  H:=[.cell true 4 (.bool false),.cell true 65 (.mp 2),.kh v6,.cell true 38 (.agg [1,1,1,3,3,3,21] [(.int .u8 v7.1),(.int .i64 v7.2.1),(.int .i64 v7.2.2.1),(.agg [1,1,1] [(.bool v7.2.2.2.1.1),(.int .i64 v7.2.2.2.1.2.1),(.int .u64 v7.2.2.2.1.2.2)]),(.agg [1,1,1] [(.bool v7.2.2.2.2.1.1),(.int .i64 v7.2.2.2.2.1.2.1),(.int .u64 v7.2.2.2.2.1.2.2)]),(.agg [1,1,1] [(.bool v7.2.2.2.2.2.1.1),(.int .i64 v7.2.2.2.2.2.1.2.1),(.int .u64 v7.2.2.2.2.2.1.2.2)]),(.agg [1,1,1,8,8,1,1] [(.int .u8 v7.2.2.2.2.2.2.1),(.int .u8 v7.2.2.2.2.2.2.2.1),(.int .i64 v7.2.2.2.2.2.2.2.2.1),(.agg [1,1,1,1,1,1,1,1] [(.int .u8 v7.2.2.2.2.2.2.2.2.2.1.1),(.int .i64 v7.2.2.2.2.2.2.2.2.2.1.2.1),(.int .i64 v7.2.2.2.2.2.2.2.2.2.1.2.2.1),(.int .i64 v7.2.2.2.2.2.2.2.2.2.1.2.2.2.1),(.int .i64 v7.2.2.2.2.2.2.2.2.2.1.2.2.2.2.1),(.int .i64 v7.2.2.2.2.2.2.2.2.2.1.2.2.2.2.2.1),(.bool v7.2.2.2.2.2.2.2.2.2.1.2.2.2.2.2.2.1),(.int .i64 v7.2.2.2.2.2.2.2.2.2.1.2.2.2.2.2.2.2)]),(.agg [1,1,1,1,1,1,1,1] [(.int .u8 v7.2.2.2.2.2.2.2.2.2.2.1.1),(.int .i64 v7.2.2.2.2.2.2.2.2.2.2.1.2.1),(.int .i64 v7.2.2.2.2.2.2.2.2.2.2.1.2.2.1),(.int .i64 v7.2.2.2.2.2.2.2.2.2.2.1.2.2.2.1),(.int .i64 v7.2.2.2.2.2.2.2.2.2.2.1.2.2.2.2.1),(.int .i64 v7.2.2.2.2.2.2.2.2.2.2.1.2.2.2.2.2.1),(.bool v7.2.2.2.2.2.2.2.2.2.2.1.2.2.2.2.2.2.1),(.int .i64 v7.2.2.2.2.2.2.2.2.2.2.1.2.2.2.2.2.2.2)]),(.int .u8 v7.2.2.2.2.2.2.2.2.2.2.2.1),(.int .i64 v7.2.2.2.2.2.2.2.2.2.2.2.2)])]),.dead,.kQ,.loop .ready none 8 ([.any,.any,(.ptr 0 []),(.ptr 1 [])]++List.replicate 36 .any) [16] (ay [1,1,0,1,0,0,1,1,0,0,1,0,1,0,0] (ag Tryz.f8)) (ay [1,1,0,1,0,0,1,1,0,0,1,0,1,0,1] (ag Tryz.f8)) 5]}
 | .h2 v0 v1 v3 v4 v6 v7=>
 {fr:={id:=69,kind:=(.iter 6),T:=[(.ik 6)]++List.replicate 10 .any++[(.arr 3 ar v0),(.int .i64 v1)]++List.replicate 18 .any,items:=[.code (ay [1,0,0,1,1,1] (ag Tryz.f69)),.lp (ay [1,0,0] (ag Tryz.f69)),.a6 0],D:=[],base:=7},
  bm:=[{id:=8,kind:=.top,T:=[.any,.any,(.ptr 0 []),(.ptr 1 []),.any,(.ptr 3 []),.any,.any,(.gf aZ x),(.int .i64 v3),(.int .i64 v4)]++List.replicate 29 .any,items:=[.fin 6,.a6 2,.code (ay [1,1,0,1,0,0,1,1,0,0,1,1] (ag Tryz.f8)),.a6 1,.code (ay [1,1,0,1,0,0,1,1,1] (ag Tryz.f8)),.lp (ay [1,1,0,1,0,0] (ag Tryz.f8)),.a6 0,.code (ay [1,1,1] (ag Tryz.f8))],D:=[5],base:=0}],
  H:=[.cell true 4 (.bool false),.cell true 65 (.mp 2),.kh v6,.cell true 38 (.agg [1,1,1,3,3,3,21] [(.int .u8 v7.1),(.int .i64 v7.2.1),(.int .i64 v7.2.2.1),(.agg [1,1,1] [(.bool v7.2.2.2.1.1),(.int .i64 v7.2.2.2.1.2.1),(.int .u64 v7.2.2.2.1.2.2)]),(.agg [1,1,1] [(.bool v7.2.2.2.2.1.1),(.int .i64 v7.2.2.2.2.1.2.1),(.int .u64 v7.2.2.2.2.1.2.2)]),(.agg [1,1,1] [(.bool v7.2.2.2.2.2.1.1),(.int .i64 v7.2.2.2.2.2.1.2.1),(.int .u64 v7.2.2.2.2.2.1.2.2)]),(.agg [1,1,1,8,8,1,1] [(.int .u8 v7.2.2.2.2.2.2.1),(.int .u8 v7.2.2.2.2.2.2.2.1),(.int .i64 v7.2.2.2.2.2.2.2.2.1),(.agg [1,1,1,1,1,1,1,1] [(.int .u8 v7.2.2.2.2.2.2.2.2.2.1.1),(.int .i64 v7.2.2.2.2.2.2.2.2.2.1.2.1),(.int .i64 v7.2.2.2.2.2.2.2.2.2.1.2.2.1),(.int .i64 v7.2.2.2.2.2.2.2.2.2.1.2.2.2.1),(.int .i64 v7.2.2.2.2.2.2.2.2.2.1.2.2.2.2.1),(.int .i64 v7.2.2.2.2.2.2.2.2.2.1.2.2.2.2.2.1),(.bool v7.2.2.2.2.2.2.2.2.2.1.2.2.2.2.2.2.1),(.int .i64 v7.2.2.2.2.2.2.2.2.2.1.2.2.2.2.2.2.2)]),(.agg [1,1,1,1,1,1,1,1] [(.int .u8 v7.2.2.2.2.2.2.2.2.2.2.1.1),(.int .i64 v7.2.2.2.2.2.2.2.2.2.2.1.2.1),(.int .i64 v7.2.2.2.2.2.2.2.2.2.2.1.2.2.1),(.int .i64 v7.2.2.2.2.2.2.2.2.2.2.1.2.2.2.1),(.int .i64 v7.2.2.2.2.2.2.2.2.2.2.1.2.2.2.2.1),(.int .i64 v7.2.2.2.2.2.2.2.2.2.2.1.2.2.2.2.2.1),(.bool v7.2.2.2.2.2.2.2.2.2.2.1.2.2.2.2.2.2.1),(.int .i64 v7.2.2.2.2.2.2.2.2.2.2.1.2.2.2.2.2.2.2)]),(.int .u8 v7.2.2.2.2.2.2.2.2.2.2.2.1),(.int .i64 v7.2.2.2.2.2.2.2.2.2.2.2.2)])]),.dead,.kQ,.loop .ready none 8 ([.any,.any,(.ptr 0 []),(.ptr 1 [])]++List.replicate 36 .any) [16] (ay [1,1,0,1,0,0,1,1,0,0,1,0,1,0,0] (ag Tryz.f8)) (ay [1,1,0,1,0,0,1,1,0,0,1,0,1,0,1] (ag Tryz.f8)) 5]}
 | .h3 v1 v2 v4 v5=>
 {fr:={id:=8,kind:=.top,T:=[.any,.any,(.ptr 0 []),(.ptr 1 []),.any,(.ptr 3 []),.any,.any,(.gf aZ x),(.int .i64 v1),(.int .i64 v2)]++List.replicate 29 .any,items:=[.code (ay [1,1,0,1,0,0,1,1,0,0,1,1,0] (ag Tryz.f8)),.code (ay [1,1,0,1,0,0,1,1,0,0,1,1,1] (ag Tryz.f8)),.a6 1,.code (ay [1,1,0,1,0,0,1,1,1] (ag Tryz.f8)),.lp (ay [1,1,0,1,0,0] (ag Tryz.f8)),.a6 0,.code (ay [1,1,1] (ag Tryz.f8))],D:=[],base:=0},
  bm:=[],
  H:=[.cell true 4 (.bool false),.cell true 65 (.mp 2),.kh v4,.cell true 38 (.agg [1,1,1,3,3,3,21] [(.int .u8 v5.1),(.int .i64 v5.2.1),(.int .i64 v5.2.2.1),(.agg [1,1,1] [(.bool v5.2.2.2.1.1),(.int .i64 v5.2.2.2.1.2.1),(.int .u64 v5.2.2.2.1.2.2)]),(.agg [1,1,1] [(.bool v5.2.2.2.2.1.1),(.int .i64 v5.2.2.2.2.1.2.1),(.int .u64 v5.2.2.2.2.1.2.2)]),(.agg [1,1,1] [(.bool v5.2.2.2.2.2.1.1),(.int .i64 v5.2.2.2.2.2.1.2.1),(.int .u64 v5.2.2.2.2.2.1.2.2)]),(.agg [1,1,1,8,8,1,1] [(.int .u8 v5.2.2.2.2.2.2.1),(.int .u8 v5.2.2.2.2.2.2.2.1),(.int .i64 v5.2.2.2.2.2.2.2.2.1),(.agg [1,1,1,1,1,1,1,1] [(.int .u8 v5.2.2.2.2.2.2.2.2.2.1.1),(.int .i64 v5.2.2.2.2.2.2.2.2.2.1.2.1),(.int .i64 v5.2.2.2.2.2.2.2.2.2.1.2.2.1),(.int .i64 v5.2.2.2.2.2.2.2.2.2.1.2.2.2.1),(.int .i64 v5.2.2.2.2.2.2.2.2.2.1.2.2.2.2.1),(.int .i64 v5.2.2.2.2.2.2.2.2.2.1.2.2.2.2.2.1),(.bool v5.2.2.2.2.2.2.2.2.2.1.2.2.2.2.2.2.1),(.int .i64 v5.2.2.2.2.2.2.2.2.2.1.2.2.2.2.2.2.2)]),(.agg [1,1,1,1,1,1,1,1] [(.int .u8 v5.2.2.2.2.2.2.2.2.2.2.1.1),(.int .i64 v5.2.2.2.2.2.2.2.2.2.2.1.2.1),(.int .i64 v5.2.2.2.2.2.2.2.2.2.2.1.2.2.1),(.int .i64 v5.2.2.2.2.2.2.2.2.2.2.1.2.2.2.1),(.int .i64 v5.2.2.2.2.2.2.2.2.2.2.1.2.2.2.2.1),(.int .i64 v5.2.2.2.2.2.2.2.2.2.2.1.2.2.2.2.2.1),(.bool v5.2.2.2.2.2.2.2.2.2.2.1.2.2.2.2.2.2.1),(.int .i64 v5.2.2.2.2.2.2.2.2.2.2.1.2.2.2.2.2.2.2)]),(.int .u8 v5.2.2.2.2.2.2.2.2.2.2.2.1),(.int .i64 v5.2.2.2.2.2.2.2.2.2.2.2.2)])])]}
noncomputable def xY:FuncId→Nat→Nat→Option Cut
 | 8,0,0=>some {tmps:=[2,3,8,9,10],loops:=[],dead:=[],bm:=[],Ea:=true}
 | 69,0,7=>some {tmps:=[0,11,12],loops:=[(6,[2,3])],dead:=[4],bm:=[[2,3,5,8,9,10]]}
 | 69,9,7=>some {tmps:=[0,11,12],loops:=[(6,[2,3])],dead:=[],bm:=[[2,3,5,8,9,10]]}
 | 8,19,0=>some {tmps:=[2,3,5,8,9,10],loops:=[],dead:=[],bm:=[],Ea:=true}
 | _,_,_=>none
noncomputable def Oa (x:aq):Bool:=gh (TC.kP .bool) (dT x) (rT x)
def Ig (x:aq):Prop:=∃ r,Ends (dT x) r (rT x)
noncomputable def oV:Spec:={eX:=(.bu (.slice aZ)),cB:=.bool,n:=1,pre:=Ig,f:=Oa}
noncomputable def po:FuncId→Option Spec
 | _=>none
theorem L4:∀ f sp,po f=some sp→ah aA f sp:=by
 intro f sp h
 unfold po at h
 split at h
 ·cases h
section
variable (W:cM) (Q:Bool→Prop) (x:aq)
theorem W0:run (DT po (fun _=>none) false (fun _ _=>none)) xY (bE oV Q) W 100000 (bl 8 Tryz.f8 (ag Tryz.f8) (bp (.bu (.slice aZ)) x)) [] []=(rT x).wp (cw W Q (fZ x)):=by kernel_rfl
theorem P6 (v1 v2:Int) (v4:B3):run (DT po (fun _=>none) false (fun _ _=>none)) xY (bE oV Q) W 100000 (fZ x (.h0 v1 v2 v4)).fr.enter (fZ x (.h0 v1 v2 v4)).bm (fZ x (.h0 v1 v2 v4)).H=(dT x (.h0 v1 v2 v4)).wp (cw W Q (fZ x)):=by kernel_rfl
theorem P5 (v0:HX) (v1 v3 v4:Int) (v6:B3) (v7:bt):run (DT po (fun _=>none) false (fun _ _=>none)) xY (bE oV Q) W 100000 (fZ x (.h1 v0 v1 v3 v4 v6 v7)).fr.enter (fZ x (.h1 v0 v1 v3 v4 v6 v7)).bm (fZ x (.h1 v0 v1 v3 v4 v6 v7)).H=(dT x (.h1 v0 v1 v3 v4 v6 v7)).wp (cw W Q (fZ x)):=by kernel_rfl
theorem P4 (v0:HX) (v1 v3 v4:Int) (v6:B3) (v7:bt):run (DT po (fun _=>none) false (fun _ _=>none)) xY (bE oV Q) W 100000 (fZ x (.h2 v0 v1 v3 v4 v6 v7)).fr.enter (fZ x (.h2 v0 v1 v3 v4 v6 v7)).bm (fZ x (.h2 v0 v1 v3 v4 v6 v7)).H=(dT x (.h2 v0 v1 v3 v4 v6 v7)).wp (cw W Q (fZ x)):=by kernel_rfl
theorem P3 (v1 v2:Int) (v4:B3) (v5:bt):run (DT po (fun _=>none) false (fun _ _=>none)) xY (bE oV Q) W 100000 (fZ x (.h3 v1 v2 v4 v5)).fr.enter (fZ x (.h3 v1 v2 v4 v5)).bm (fZ x (.h3 v1 v2 v4 v5)).H=(dT x (.h3 v1 v2 v4 v5)).wp (cw W Q (fZ x)):=by kernel_rfl
end
theorem S4 (W:cM) (Q:Bool→Prop) (x:aq):∀ j:J8,run (DT po (fun _=>none) false (fun _ _=>none)) xY (bE oV Q) W 100000 (fZ x j).fr.enter (fZ x j).bm (fZ x j).H=(dT x j).wp (cw W Q (fZ x))
 | .h0 v1 v2 v4=>P6 W Q x v1 v2 v4
 | .h1 v0 v1 v3 v4 v6 v7=>P5 W Q x v0 v1 v3 v4 v6 v7
 | .h2 v0 v1 v3 v4 v6 v7=>P4 W Q x v0 v1 v3 v4 v6 v7
 | .h3 v1 v2 v4 v5=>P3 W Q x v1 v2 v4 v5
theorem YK:ah aA 8 oV:=ah.env rfl (fun _ _ h=>h) (dF (E:=(DT po (fun _=>none) false (fun _ _=>none))) (sp:=oV) (PQ _ _ _ _) ⟨fun f sp h=>ah.env rfl (fun _ _ h=>h) (L4 f sp h),fun f ps h=>nomatch h⟩ (fn:=Tryz.f8) (c:=(ag Tryz.f8)) (by kernel_rfl) (by kernel_rfl) rT dT fZ W0 S4 (fun _ h=>dI h))
inductive Wz where
 | h0 (v2:Int) (v3:Int)
noncomputable def qo (x:su):Tr (Wz⊕Bool):=
 let y0:Int:=(x.1.length:Int)
 .ite (dG y0 (x.2.length:Int)) (
 .ret (.inr false)) (
 .ret (.inl (.h0 y0 0)))
noncomputable def iY (x:su):Wz→Tr (Wz⊕Bool)
 | .h0 v2 v3=>
 .ite (cF v3 v2) (
 .aa ((0:Int)≤v3)<|
 .aa (v3 < (x.1.length:Int))<|
 .aa ((0:Int)≤v3)<|
 .aa (v3 < (x.2.length:Int))<|
 .ite (!(dB aZ (eZ aZ x.1 (v3).toNat) (eZ aZ x.2 (v3).toNat))) (
 .ret (.inr false)) (
 .ret (.inl (.h0 v2 (aK .i64 v3 1))))) (
 .ret (.inr true))
noncomputable def ki (x:su):Wz→Head
 | .h0 v2 v3=>
 {fr:={id:=68,kind:=.top,T:=[(.gf aZ x.1),(.gf aZ x.2)]++List.replicate 10 .any++[(.int .i64 v2),(.int .i64 v3)]++List.replicate 12 .any,items:=[.lp (ay [1,1,0,1,0,0] (ag Tryz.f68)),.a6 0,.code (ay [1,1,1] (ag Tryz.f68))],D:=[],base:=0},
  bm:=[],
  H:=[]}
noncomputable def Ei:FuncId→Nat→Nat→Option Cut
 | 68,0,0=>some {tmps:=[0,1,12,13],loops:=[],dead:=[],bm:=[]}
 | _,_,_=>none
noncomputable def RA (x:su):Bool:=gh (TC.kP .bool) (iY x) (qo x)
def Lt (x:su):Prop:=∃ r,Ends (iY x) r (qo x)
noncomputable def qz:Spec:={eX:=(.st (.slice aZ) (.bu (.slice aZ))),cB:=.bool,n:=1,pre:=Lt,f:=RA}
noncomputable def rD:FuncId→Option Spec
 | _=>none
theorem IU:∀ f sp,rD f=some sp→ah aA f sp:=by
 intro f sp h
 unfold rD at h
 split at h
 ·cases h
section
variable (W:cM) (Q:Bool→Prop) (x:su)
theorem Tw:run (env rD (fun _=>none) false (fun _ _=>none)) Ei (bE qz Q) W 100000 (bl 68 Tryz.f68 (ag Tryz.f68) (bp (.st (.slice aZ) (.bu (.slice aZ))) x)) [] []=(qo x).wp (cw W Q (ki x)):=by kernel_rfl
theorem No (v2 v3:Int):run (env rD (fun _=>none) false (fun _ _=>none)) Ei (bE qz Q) W 100000 (ki x (.h0 v2 v3)).fr.enter (ki x (.h0 v2 v3)).bm (ki x (.h0 v2 v3)).H=(iY x (.h0 v2 v3)).wp (cw W Q (ki x)):=by kernel_rfl
end
theorem PX (W:cM) (Q:Bool→Prop) (x:su):∀ j:Wz,run (env rD (fun _=>none) false (fun _ _=>none)) Ei (bE qz Q) W 100000 (ki x j).fr.enter (ki x j).bm (ki x j).H=(iY x j).wp (cw W Q (ki x))
 | .h0 v2 v3=>No W Q x v2 v3
theorem Xo:ah aA 68 qz:=ah.env rfl (fun _ _ h=>h) (dF (E:=(env rD (fun _=>none) false (fun _ _=>none))) (sp:=qz) (valid _ _ _ _) ⟨fun f sp h=>ah.env rfl (fun _ _ h=>h) (IU f sp h),fun f ps h=>nomatch h⟩ (fn:=Tryz.f68) (c:=(ag Tryz.f68)) (by kernel_rfl) (by kernel_rfl) qo iY ki Tw PX (fun _ h=>dI h))
noncomputable def wb (x:su):Tr Bool:=
 .aa (Lt x)<|
 .ret (RA x)
noncomputable def Oj (x:su):Bool:=(wb x).val
def LF (x:su):Prop:=(wb x).ok
noncomputable def zx:Spec:={eX:=(.st (.slice aZ) (.bu (.slice aZ))),cB:=.bool,n:=1,pre:=LF,f:=Oj}
noncomputable def A4:FuncId→Option Spec
 | 68=>some qz
 | _=>none
theorem Jw:∀ f sp,A4 f=some sp→ah aA f sp:=by
 intro f sp h
 unfold A4 at h
 split at h
 ·cases h;exact Xo
 ·cases h
section
variable (W:cM) (Q:Bool→Prop) (x:su)
theorem Uf:run (env A4 (fun _=>none) false (fun _ _=>none)) (fun _ _ _=>none) (bE zx Q) W 100000 (bl 19 Tryz.f19 (ag Tryz.f19) (bp (.st (.slice aZ) (.bu (.slice aZ))) x)) [] []=(wb x).wp Q:=by kernel_rfl
end
theorem Xw:ah aA 19 zx:=ah.env rfl (fun _ _ h=>h) (aG (E:=(env A4 (fun _=>none) false (fun _ _=>none))) (sp:=zx) (valid _ _ _ _) ⟨fun f sp h=>ah.env rfl (fun _ _ h=>h) (Jw f sp h),fun f ps h=>nomatch h⟩ (fn:=Tryz.f19) (c:=(ag Tryz.f19)) (by kernel_rfl) (by kernel_rfl) wb Uf (fun _ h=>Tr.an h))
noncomputable def B0 (_x:Unit):Tr Bool:=
 let y0:HY:=(0,(0,(0,(0,(0,(0,(false,0)))))))
 let y1:XW:=((34,(0,(8,(y0,(y0,(0,1)))))),5)
 .aa (EA y1)<|
 let y2:bM:=(0,0)
 let y3:(Int×(Int×(Int×(HY×(HY×bM))))):=(0,(0,(0,(y0,(y0,y2)))))
 let y4:XW:=(y3,5)
 .aa (EA y4)<|
 let y5:oS:=(Hv y1)
 .ite ((ak y5.2 0)==true) (
 let y6:=y5.1
 .ite ((ak (y6.length:Int) 1)==true) (
 .aa ((0:Int)≤0)<|
 .aa (0 < (y6.length:Int))<|
 let y7:bt:=(eZ aZ y6 0)
 .ite ((ak y7.1 30)==true) (
 .aa ((0:Int)≤0)<|
 .aa (0 < (y6.length:Int))<|
 .aa (bn 6)<|
 .ite ((dB ar y7.2.2.2.1 (aP 6))==true) (
 .ite ((ak (Hv y4).2 2)==true) (
 .aa (Ig y6)<|
 .ite ((Oa y6)==true) (
 let y8:su:=(y6,y6)
 .aa (LF y8)<|
 .ite ((Oj y8)==true) (
 .aa (dZ 32)<|
 .aa ((0:Nat) < 1)<|
 .aa (((0:Nat)+1:Nat)≤1)<|
 let y9:ed:=(false,y2)
 let y10:aq:=[(1,(8,(0,((fC 32),(y9,(y9,y3))))))]
 .aa (Ig y10)<|
 .ret (!(Oa y10))) (
 .ret false)) (
 .ret false)) (
 .ret false)) (
 .ret false)) (
 .ret false)) (
 .ret false)) (
 .ret false)
noncomputable def WR (x:Unit):Bool:=(B0 x).val
def NO (x:Unit):Prop:=(B0 x).ok
noncomputable def GI:Spec:={eX:=.unit,cB:=.bool,n:=1,pre:=NO,f:=WR}
noncomputable def G6:FuncId→Option Spec
 | 5=>some Cb
 | 8=>some oV
 | 11=>some dR
 | 19=>some zx
 | 20=>some fN
 | _=>none
theorem L5:∀ f sp,G6 f=some sp→ah aA f sp:=by
 intro f sp h
 unfold G6 at h
 split at h
 ·cases h;exact X9
 ·cases h;exact YK
 ·cases h;exact jQ
 ·cases h;exact Xw
 ·cases h;exact pj
 ·cases h
section
variable (W:cM) (Q:Bool→Prop) (x:Unit)
theorem W1:run (env G6 (fun _=>none) false (fun _ _=>none)) (fun _ _ _=>none) (bE GI Q) W 100000 (bl 7 Tryz.f7 (ag Tryz.f7) (bp .unit x)) [] []=(B0 x).wp Q:=by kernel_rfl
end
theorem YL:ah aA 7 GI:=ah.env rfl (fun _ _ h=>h) (aG (E:=(env G6 (fun _=>none) false (fun _ _=>none))) (sp:=GI) (valid _ _ _ _) ⟨fun f sp h=>ah.env rfl (fun _ _ h=>h) (L5 f sp h),fun f ps h=>nomatch h⟩ (fn:=Tryz.f7) (c:=(ag Tryz.f7)) (by kernel_rfl) (by kernel_rfl) B0 W1 (fun _ h=>Tr.an h))
noncomputable def qx (x:Int):Tr Bool:=
 .ite ((cj 1 x)==true) (
 .ite ((cF x 32)==true) (
 .ite ((dG x 28)==true) (
 .ite ((dG x 29)==true) (
 .ite ((dG x 30)==true) (
 .ret (dG x 31)) (
 .ret false)) (
 .ret false)) (
 .ret false)) (
 .ret false)) (
 .ret false)
noncomputable def pM (x:Int):Bool:=(qx x).val
def LJ (x:Int):Prop:=(qx x).ok
noncomputable def zC:Spec:={eX:=(.bu (.int .u8)),cB:=.bool,n:=1,pre:=LJ,f:=pM}
noncomputable def A9:FuncId→Option Spec
 | _=>none
theorem JB:∀ f sp,A9 f=some sp→ah aA f sp:=by
 intro f sp h
 unfold A9 at h
 split at h
 ·cases h
section
variable (W:cM) (Q:Bool→Prop) (x:Int)
theorem Uk:run (env A9 (fun _=>none) false (fun _ _=>none)) (fun _ _ _=>none) (bE zC Q) W 100000 (bl 13 Tryz.f13 (ag Tryz.f13) (bp (.bu (.int .u8)) x)) [] []=(qx x).wp Q:=by kernel_rfl
end
theorem Xz:ah aA 13 zC:=ah.env rfl (fun _ _ h=>h) (aG (E:=(env A9 (fun _=>none) false (fun _ _=>none))) (sp:=zC) (valid _ _ _ _) ⟨fun f sp h=>ah.env rfl (fun _ _ h=>h) (JB f sp h),fun f ps h=>nomatch h⟩ (fn:=Tryz.f13) (c:=(ag Tryz.f13)) (by kernel_rfl) (by kernel_rfl) qx Uk (fun _ h=>Tr.an h))
noncomputable def j9 (x:DI):Tr Bool:=
 let y0:eF:=x.2.2.2
 let y1:DO:=y0.1
 .ite ((ak y1.1 1)==true) (
 let y2:=y0.2.1
 .ite ((ak y2.1 1)==true) (
 .ite ((ak y1.2.1 y2.2.1)==true) (
 .ite ((ak x.1 9)==false) (
 .ite ((ak x.1 8)==false) (
 .ret (ak x.1 36)) (
 .ret true)) (
 .ret true)) (
 .ret false)) (
 .ret false)) (
 .ret false)
noncomputable def sC (x:DI):Bool:=(j9 x).val
def GZ (x:DI):Prop:=(j9 x).ok
noncomputable def wj:Spec:={eX:=(.bu bA),cB:=.bool,n:=1,pre:=GZ,f:=sC}
noncomputable def Ao:FuncId→Option Spec
 | _=>none
theorem IT:∀ f sp,Ao f=some sp→ah aA f sp:=by
 intro f sp h
 unfold Ao at h
 split at h
 ·cases h
section
variable (W:cM) (Q:Bool→Prop) (x:DI)
theorem Tv:run (env Ao (fun _=>none) false (fun _ _=>none)) (fun _ _ _=>none) (bE wj Q) W 100000 (bl 70 Tryz.f70 (ag Tryz.f70) (bp (.bu bA) x)) [] []=(j9 x).wp Q:=by kernel_rfl
end
theorem VI:ah aA 70 wj:=ah.env rfl (fun _ _ h=>h) (aG (E:=(env Ao (fun _=>none) false (fun _ _=>none))) (sp:=wj) (valid _ _ _ _) ⟨fun f sp h=>ah.env rfl (fun _ _ h=>h) (IT f sp h),fun f ps h=>nomatch h⟩ (fn:=Tryz.f70) (c:=(ag Tryz.f70)) (by kernel_rfl) (by kernel_rfl) j9 Tv (fun _ h=>Tr.an h))
end Go.bz.RL
end
section
namespace Go.bz.RL
open Go.bz Go.RowKit
structure res {α:Type} (t:Tr α) (Q:α→Prop):Prop where
 ok:t.ok
 val:Q t.val
theorem ta {α:Type} {t:Tr α} {Q:α→Prop}:res t Q↔t.ok∧Q t.val:=⟨fun h=>⟨h.1,h.2⟩,fun h=>⟨h.1,h.2⟩⟩
theorem en {α:Type} {p:Prop} {t:Tr α} {Q:α→Prop}:res (.aa p t) Q↔p∧res t Q:=by
 rw [ta,ta,fX,cV,and_assoc]
theorem bB {α:Type} {b:Bool} {t e:Tr α} {Q:α→Prop}:res (.ite b t e) Q↔(b=true→res t Q)∧(b=false→res e Q):=by
 simp only [ta]
 cases b<;>simp [Tr.ok,Tr.val]
theorem fF {α:Type} {a:α} {Q:α→Prop}:res (.ret a) Q↔Q a:=by
 rw [ta,fS,dm,true_and]
theorem res.and {α:Type} {t:Tr α} {Q:α→Prop} (h:res t Q):t.ok∧Q t.val:=⟨h.1,h.2⟩
abbrev St:Type:=DI×ew
abbrev L:Type:=List bt
def VF:DO:=(0,(0,(0,(0,(0,(0,(false,0)))))))
def JI:DI:=(0,(0,(0,(VF,(VF,(0,0))))))
def wd (n:Int):aF:=(true,(0,n))
def cl (c:Int):aF:=(false,(c,0))
def dd (op w d:Int) (a b c:aF):bt:=(op,(w,(d,(a,(b,(c,JI))))))
theorem Om (n:Int):aP n=wd n:=rfl
theorem Oi (n:Int):fC n=cl n:=rfl
theorem ae (n:Int):bn n:=trivial
theorem af (n:Int):dZ n:=trivial
def gv (rd:Int→Prop) (n:Int) (v:aF):Prop:=
 (v.1=true∧v.2.1=0)∨(v.1=false∧v.2.2=0∧((0≤v.2.1∧v.2.1≤20∧rd v.2.1)∨(32≤v.2.1∧v.2.1 < n)))
theorem N1 {rd:Int→Prop} {n m:Int} {v:aF} (h:gv rd n v) (hn:n≤m):gv rd m v:=by
 rcases h with h | ⟨h1,h2,h | h⟩
 ·exact .inl h
 ·exact .inr ⟨h1,h2,.inl h⟩
 ·exact .inr ⟨h1,h2,.inr ⟨h.1,by omega⟩⟩
theorem aM {rd:Int→Prop} {n:Int} (k:Int):gv rd n (wd k):=.inl ⟨rfl,rfl⟩
theorem PF {rd:Int→Prop} {n c:Int} (h:(0≤c∧c≤20∧rd c)∨(32≤c∧c < n)):gv rd n (cl c):=.inr ⟨rfl,rfl,h⟩
def gK (op:Int):Prop:=1≤op∧op < 28
inductive BX (rd:Int→Prop):Int→L→Int→List Int→Prop where
 | nil (n:Int):BX rd n [] n []
 | cell {n:Int} {op w d:Int} {a b c:aF} {l:L} {n':Int} {W:List Int} (ho:gK op) (hw:1≤w∧w≤8) (hd:0≤d∧d≤20) (ha:gv rd n a) (hb:gv rd n b) (hc:gv rd n c)
   (t:BX rd n l n' W):BX rd n (dd op w d a b c :: l) n' (d :: W)
 | none {n:Int} {op w:Int} {a b c:aF} {l:L} {n':Int} {W:List Int} (ho:op=28∨op=29) (hw:1≤w∧w≤8) (ha:gv rd n a) (hb:gv rd n b) (hc:gv rd n c)
   (t:BX rd n l n' W):BX rd n (dd op w 0 a b c :: l) n' W
 | HV {n:Int} {op w:Int} {a b c:aF} {l:L} {n':Int} {W:List Int} (ho:gK op) (hw:1≤w∧w≤8) (hn:32≤n∧n < 64) (ha:gv rd n a) (hb:gv rd n b) (hc:gv rd n c)
   (t:BX rd (n+1) l n' W):BX rd n (dd op w n a b c :: l) n' W
 | vec {n:Int} {a:aF} {v:DI} {l:L} {n':Int} {W:List Int} (ha:gv rd n a) (hv:35≤v.1∧v.1≤39∧pre6 v∧WS v=true)
   (t:BX rd n l n' W):BX rd n ((31,(16,(0,(a,(wd 0,(wd 0,v)))))) :: l) n' W
theorem BX.app {rd:Int→Prop} {n m k:Int} {l r:L} {W V:List Int} (h:BX rd n l m W) (g:BX rd m r k V):BX rd n (l++r) k (W++V):=by
 induction h with
 | nil=>exact g
 | cell ho hw hd ha hb hc _ ih=>exact .cell ho hw hd ha hb hc (ih g)
 | none ho hw ha hb hc _ ih=>exact .none ho hw ha hb hc (ih g)
 | HV ho hw hn ha hb hc _ ih=>exact .HV ho hw hn ha hb hc (ih g)
 | vec ha hv _ ih=>exact .vec ha hv (ih g)
theorem BX.le {rd:Int→Prop} {n m:Int} {l:L} {W:List Int} (h:BX rd n l m W):n≤m∧m≤n+l.length:=by
 induction h with
 | nil=>simp
 | cell _ _ _ _ _ _ _ ih=>simp only [List.length_cons];omega
 | none _ _ _ _ _ _ ih=>simp only [List.length_cons];omega
 | HV _ _ _ _ _ _ _ ih=>simp only [List.length_cons];omega
 | vec _ _ _ ih=>simp only [List.length_cons];omega
structure G (rd:Int→Prop) (l:L) (n:Int) (W:List Int) (k:Nat):Prop where
 PJ:BX rd 32 l n W
 len:l.length≤k
theorem G.V1 {rd:Int→Prop} {l:L} {n:Int} {W:List Int} {k:Nat} (h:G rd l n W k):32≤n∧n≤32+k:=by
 have:=h.PJ.le
 have:=h.len
 omega
theorem Rm {rd:Int→Prop} {n m:Int} {l:L} {W:List Int} (h:BX rd n l m W) (hn:32≤n):l.foldl (fun k (d:bt)=>imax k (aK .i64 d.2.2.1 1)) n=m:=by
 have one:∀ {n d:Int},32≤n→0≤d→d≤64→imax n (aK .i64 d 1)=if d+1 > n then d+1 else n:=fun h0 h1 h2=>by
  rw [dH (by omega) (by omega)];rfl
 induction h with
 | nil=>rfl
 | cell _ _ hd _ _ _ _ ih=>
  simp only [List.foldl_cons,dd]
  rw [one hn hd.1 (by omega),if_neg (by omega)];exact ih hn
 | none _ _ _ _ _ _ ih=>
  simp only [List.foldl_cons,dd]
  rw [one hn (by omega) (by omega),if_neg (by omega)];exact ih hn
 | HV _ _ hn' _ _ _ _ ih=>
  simp only [List.foldl_cons,dd]
  rw [one hn (by omega) (by omega),if_pos (by omega)];exact ih (by omega)
 | vec _ _ _ ih=>
  simp only [List.foldl_cons]
  rw [one hn (by omega) (by omega),if_neg (by omega)];exact ih hn
def xV (l:List aF) (i:Nat):aF:=l.getD i (wd 0)
theorem Bo (i:Nat) (l:List aF) (hi:i < 3):CB ((i:Int),l)∧DH ((i:Int),l)=xV l i:=by
 have key:res (qp ((i:Int),l)) (fun r=>r=xV l i):=by
  simp only [qp,bB,en,fF,bU,dY,xV,Om]
  refine ⟨fun h=>⟨by omega,h,?_⟩,fun h=>⟨ae _,?_⟩⟩
  ·have h':i < l.length:=by omega
   rw [Int.toNat_natCast,dU (c:=ar) h']
   simp [List.getD,h']
  ·have h':l.length≤i:=by omega
   simp [List.getD,List.getElem?_eq_none h']
 exact key.and
theorem NM (S:St) (l:L) (op w c:Int) (vs:List aF) (hl:l.length≤1000):
  bK (S,(l,(op,(w,(c,vs)))))∧cK (S,(l,(op,(w,(c,vs)))))=(l++[dd op w c (xV vs 0) (xV vs 1) (xV vs 2)],()):=by
 have h0:=Bo 0 vs (by omega)
 have h1:=Bo 1 vs (by omega)
 have h2:=Bo 2 vs (by omega)
 have key:res (qv (S,(l,(op,(w,(c,vs)))))) (fun r=>r=(l++[dd op w c (xV vs 0) (xV vs 1) (xV vs 2)],())):=by
  simp only [qv,en,fF]
  refine ⟨h0.1,h1.1,h2.1,by omega,by omega,trivial,by omega,by omega,by simp,trivial,?_⟩
  have e0:DH (0,vs)=xV vs 0:=h0.2
  have e1:DH (1,vs)=xV vs 1:=h1.2
  have e2:DH (2,vs)=xV vs 2:=h2.2
  rw [e0,e1,e2]
  rfl
 exact key.and
theorem yk (x:St×(L×(Int×(Int×List aF)))) (hl:x.2.1.length≤1000):∀ (k i:Nat) (m:Int),k+i=x.2.1.length→
  ∀ r,Ends (iZ x) r (iZ x (.h0 ((x.2.1.drop i).foldl (fun k (d:bt)=>imax k (aK .i64 d.2.2.1 1)) m) (x.2.1.length:Int) (x.2.1.length:Int)))→Ends (iZ x) r (iZ x (.h0 m (x.2.1.length:Int) (i:Int)))
 | 0,i,m,hk,r,h=>by
  have hi:i=x.2.1.length:=by omega
  subst hi
  rw [List.drop_length] at h
  exact h
 | k+1,i,m,hk,r,h=>by
  have hi:i < x.2.1.length:=by omega
  simp only [iZ]
  rw [eI]
  refine ⟨fun _=>?_,fun hn=>?_⟩
  ·simp only [eN,eJ]
   refine ⟨by omega,by omega,by omega,by simpa using hi,?_⟩
   rw [Int.toNat_natCast,dU (c:=aZ) hi]
   have e:aK .i64 (i:Int) 1=((i+1:Nat):Int):=by rw [dH (by omega) (by omega)];omega
   rw [e]
   refine yk x hl k (i+1) _ (by omega) r ?_
   rw [List.drop_eq_getElem_cons hi,List.foldl_cons] at h
   exact h
  ·rw [dY] at hn;omega
theorem X7 {rd:Int→Prop} (S:St) {l:L} (op w:Int) (vs:List aF) {n:Int} {W:List Int} {k:Nat} (h:G rd l n W k) (hk:k≤1000):
  bN (S,(l,(op,(w,vs))))∧ba (S,(l,(op,(w,vs))))=(l++[dd op w n (xV vs 0) (xV vs 1) (xV vs 2)],cl n):=by
 have hl:l.length≤1000:=Nat.le_trans h.len hk
 have my:=NM S l op w n vs hl
 have key:Ends (iZ (S,(l,(op,(w,vs))))) (l++[dd op w n (xV vs 0) (xV vs 1) (xV vs 2)],cl n) (qt (S,(l,(op,(w,vs))))):=by
  simp only [qt,eJ]
  refine yk (S,(l,(op,(w,vs)))) hl l.length 0 32 (by simp) _ ?_
  have e:(List.drop 0 l).foldl (fun k (d:bt)=>imax k (aK .i64 d.2.2.1 1)) 32=n:=by rw [List.drop_zero];exact Rm h.PJ (by omega)
  rw [e]
  simp only [iZ]
  rw [eI]
  refine ⟨fun hn=>(by rw [bU] at hn;omega),fun _=>?_⟩
  simp only [eN,eR]
  refine ⟨trivial,my.1,trivial,trivial,trivial,?_⟩
  rw [show cK _=_ from my.2,Oi]
 exact ⟨⟨_,key⟩,dO key⟩
end Go.bz.RL
end
section
namespace Go.bz.RM
open Go.bz.RL
open Go.bz
noncomputable section
def dV:Bool→List Int→Int→List Int
 | d,[],n=>if d=true then [] else [n]
 | false,a :: t,n=>if n≤a then (if a=n then [n] else [n,a])++dV true t n else (if a=n then [] else [a])++dV false t n
 | true,a :: t,n=>(if a=n then [] else [a])++dV true t n
theorem o0 (n:Int):∀ (d:Bool) (l:List Int),(dV d l n).length≤l.length+(if d=true then 0 else 1)
 | true,[]=>by simp [dV]
 | false,[]=>by simp [dV]
 | true,a :: t=>by
  have ih:=o0 n true t
  simp only [dV,List.length_append,List.length_cons,if_true] at ih ⊢
  split<;>simp<;>omega
 | false,a :: t=>by
  have i1:=o0 n true t
  have i2:=o0 n false t
  simp only [dV,List.length_cons,if_true] at i1 i2 ⊢
  split<;>split<;>simp at i2 ⊢<;>omega
theorem pC (n c:Int):∀ (d:Bool) (l:List Int),c∈dV d l n↔(c∈l∧c≠n)∨(c=n∧d=false)
 | true,[]=>by simp [dV]
 | false,[]=>by simp [dV]
 | true,a :: t=>by
  have ih:=pC n c true t
  simp only [dV,List.mem_append,ih,List.mem_cons]
  by_cases h:a=n
  ·subst h;simp;intro h1 h2;exact absurd h2 h1
  ·simp only [h,if_false,List.mem_singleton]
   constructor
   ·rintro (rfl | ⟨h1,h2⟩ | h1)
    ·exact .inl ⟨.inl rfl,h⟩
    ·exact .inl ⟨.inr h1,h2⟩
    ·cases h1.2
   ·rintro (⟨rfl | h1,h2⟩ | h1)
    ·exact .inl rfl
    ·exact .inr (.inl ⟨h1,h2⟩)
    ·cases h1.2
 | false,a :: t=>by
  have i1:=pC n c true t
  have i2:=pC n c false t
  simp only [dV]
  by_cases hc:c=n
  ·subst hc
   by_cases h1:c≤a
   ·rw [if_pos h1];by_cases h2:a=c<;>simp [h2]
   ·rw [if_neg h1];simp [i2]
  ·have e1:c∈dV true t n↔c∈t:=by rw [i1];simp [hc]
   have e2:c∈dV false t n↔c∈t:=by rw [i2];simp [hc]
   by_cases h1:n≤a
   ·rw [if_pos h1]
    by_cases h2:a=n
    ·subst h2;simp [e1,hc]
    ·simp [h2,e1,hc]
   ·rw [if_neg h1]
    have h2:a≠n:=by omega
    simp [h2,e2,hc]
theorem zJ {l:List Int} {n:Int} (hl:l.length≤1000):∀ (j i:Nat) (d:Bool) (out:List Int),j+i=l.length→out.length≤i+(if d=true then 1 else 0)→
  Ends (gu (l,n)) (out++dV d (l.drop i) n) (gu (l,n) (.h1 out.length d (i:Int) out.length out))
 | 0,i,d,out,hj,ho=>by
  have hi:i=l.length:=by omega
  subst hi
  simp only [gu]
  rw [eI]
  refine ⟨fun h=>(by rw [bU] at h;omega),fun _=>?_⟩
  rw [List.drop_length]
  cases d with
  | false=>
   have ho:out.length≤l.length:=ho
   simp only [eI,eN,eR]
   refine ⟨fun _=>⟨by decide,by decide,trivial,by omega,by omega,by omega,?_⟩,fun h=>by cases h⟩
   show List.take _ (out++[n])=out++[n]
   rw [List.take_of_length_le (by simp)]
  | true=>
   have ho:out.length≤l.length+1:=ho
   simp only [eI,eN,eR]
   refine ⟨fun h=>(by cases h),fun _=>⟨by omega,?_⟩⟩
   rw [List.take_of_length_le (Nat.le_refl _)]
   simp [dV]
 | j+1,i,d,out,hj,ho=>by
  have hi:i < l.length:=by omega
  have e:aK .i64 (i:Int) 1=((i+1:Nat):Int):=by rw [dH (by omega) (by omega)];omega
  have ih:=fun d out=>zJ (n:=n) hl j (i+1) d out (by omega)
  simp only [gu]
  rw [eI]
  refine ⟨fun _=>?_,fun h=>by rw [dY] at h;omega⟩
  rw [List.drop_eq_getElem_cons hi]
  have ea:eZ (.int .i64) l i=l[i]:=dU (c:=.int .i64) hi
  cases d with
  | false=>
   have ho:out.length≤i:=ho
   simp only [eI,eN,eJ,Int.toNat_natCast,ea,e]
   refine ⟨fun _=>⟨by omega,by omega,fun h1=>?_,fun h1=>?_⟩,fun h=>by cases h⟩
   ·have h1:n≤l[i]:=cJ.1 h1
    refine ⟨by decide,by decide,trivial,by omega,by omega,by omega,by omega,fun h2=>?_,fun h2=>?_⟩
    ·have h2:l[i]≠n:=dr.1 h2
     refine ⟨by omega,by omega,by decide,by decide,trivial,by omega,by omega,?_⟩
     have k:=ih true (out++[n]++[l[i]]) (by simp;omega)
     simp only [List.length_append,List.length_singleton] at k
     simp only [dV,if_pos h1,if_neg h2]
     simpa [List.append_assoc] using k
    ·have h2:l[i]=n:=gy.1 h2
     have k:=ih true (out++[n]) (by simp;omega)
     simp only [List.length_append,List.length_singleton] at k
     simp only [dV,if_pos h1,if_pos h2]
     simpa [List.append_assoc] using k
   ·have h1:l[i] < n:=mv.1 h1
    refine ⟨by omega,by omega,fun h2=>?_,fun h2=>?_⟩
    ·have h2:l[i]≠n:=dr.1 h2
     refine ⟨by omega,by omega,by decide,by decide,trivial,by omega,by omega,?_⟩
     have k:=ih false (out++[l[i]]) (by simp;omega)
     simp only [List.length_append,List.length_singleton] at k
     simp only [dV,if_neg (show ¬ n≤l[i] by omega),if_neg h2]
     simpa [List.append_assoc] using k
    ·have h2:l[i]=n:=gy.1 h2;omega
  | true=>
   have ho:out.length≤i+1:=ho
   simp only [eI,eN,eJ,Int.toNat_natCast,ea,e]
   refine ⟨fun h=>(by cases h),fun _=>⟨by omega,by omega,fun h2=>?_,fun h2=>?_⟩⟩
   ·have h2:l[i]≠n:=dr.1 h2
    refine ⟨by omega,by omega,by decide,by decide,trivial,by omega,by omega,?_⟩
    have k:=ih true (out++[l[i]]) (by simp;omega)
    simp only [List.length_append,List.length_singleton] at k
    simp only [dV,if_neg h2]
    simpa [List.append_assoc] using k
   ·have h2:l[i]=n:=gy.1 h2
    have k:=ih true out (by omega)
    simp only [dV,if_pos h2]
    simpa using k
theorem Rd {l:List Int} {n:Int} (hl:l.length≤1000):∀ (j i:Nat),j+i=l.length→
  Ends (gu (l,n)) (dV false (l.drop i) n) (gu (l,n) (.h0 (i:Int)))
 | 0,i,hj=>by
  have hi:i=l.length:=by omega
  subst hi
  simp only [gu]
  rw [eI]
  refine ⟨fun h=>(by rw [bU] at h;omega),fun _=>?_⟩
  rw [List.drop_length]
  simp only [eN,eR]
  exact ⟨by decide,by decide,by decide,by decide,by decide,rfl⟩
 | j+1,i,hj=>by
  have hi:i < l.length:=by omega
  have e:aK .i64 (i:Int) 1=((i+1:Nat):Int):=by rw [dH (by omega) (by omega)];omega
  have ea:eZ (.int .i64) l i=l[i]:=dU (c:=.int .i64) hi
  simp only [gu]
  rw [eI]
  refine ⟨fun _=>?_,fun h=>by rw [dY] at h;omega⟩
  rw [List.drop_eq_getElem_cons hi]
  simp only [eI,eN,eJ,Int.toNat_natCast,ea,e]
  refine ⟨by omega,by omega,fun h1=>?_,fun h1=>?_⟩
  ·have h1:n≤l[i]:=cJ.1 h1
   refine ⟨by decide,by decide,by decide,by decide,by omega,by omega,fun h2=>?_,fun h2=>?_⟩
   ·have h2:l[i]≠n:=dr.1 h2
    refine ⟨by omega,by omega,by decide,by decide,by decide,by decide,by decide,?_⟩
    simp only [dV,if_pos h1,if_neg h2]
    exact zJ hl j (i+1) true [n,l[i]] (by omega) (by simp)
   ·have h2:l[i]=n:=gy.1 h2
    simp only [dV,if_pos h1,if_pos h2]
    exact zJ hl j (i+1) true [n] (by omega) (by simp)
  ·have h1:l[i] < n:=mv.1 h1
   refine ⟨by omega,by omega,fun h2=>?_,fun h2=>?_⟩
   ·have h2:l[i]≠n:=dr.1 h2
    refine ⟨by omega,by omega,by decide,by decide,by decide,by decide,?_⟩
    simp only [dV,if_neg (show ¬ n≤l[i] by omega),if_neg h2]
    exact zJ hl j (i+1) false [l[i]] (by omega) (by simp)
   ·have h2:l[i]=n:=gy.1 h2;omega
theorem iq {l:List Int} {n:Int} (hl:l.length≤1000):fm (l,n)∧eG (l,n)=dV false l n:=by
 have key:Ends (gu (l,n)) (dV false l n) (ql (l,n)):=by
  simp only [ql,eJ]
  exact Rd hl l.length 0 (by simp)
 exact ⟨⟨_,key⟩,dO key⟩
end
end Go.bz.RM
end
section
namespace Go.bz.RL
open Go.Proofs Go.bz
noncomputable section
abbrev oA (x:DI):DO:=x.2.2.2.1
abbrev oB (x:DI):DO:=x.2.2.2.2.1
def f0:aS:=([],([],([],(0,(0,(0,(0,false)))))))
def BZ (f:aS) (i o:Int):aS:=(f.1,(f.2.1,(f.2.2.1,(i,(o,f.2.2.2.2.2)))))
def iF (f:aS) (i:Int):aS:=(f.1,(f.2.1,(f.2.2.1,(i,f.2.2.2.2))))
abbrev rA (x:DI) (f:aS):aS×(DO×Int):=(f,(oA x,x.2.2.1))
abbrev rB (x:DI) (f:aS):aS×(DO×Int):=(f,(oB x,x.2.2.1))
def tl (x:DI) (f:aS):Tr nF:=.ite (ak x.1 5==false) (.ite (ak x.1 6) (.ret (BZ f 1 31,true)) (.ret (BZ f f.2.2.2.1 31,true))) (.ret (BZ f 1 31,true))
def sT (x:DI):Tr nF:=.aa (GZ x) (.ite (!(sC x))
 (.aa (fp (rA x f0)) (.aa (fp (rB x (cD (rA x f0)))) (.aa (iQ (rA x (cD (rB x (cD (rA x f0)))))) (tl x (iy (rA x (cD (rB x (cD (rA x f0))))))))))
 (.aa (iQ (rA x f0)) (tl x (iy (rA x f0)))))
def cT (x:DI):Tr nF:=.aa (fp (rA x f0)) (.aa (fp (rB x (cD (rA x f0)))) (.ret (BZ (cD (rB x (cD (rA x f0)))) (cD (rB x (cD (rA x f0)))).2.2.2.1 31,true)))
def uT (x:DI):Tr nF:=.aa (fp (rA x f0)) (.aa (iQ (rA x (cD (rA x f0)))) (.ite (ak x.1 14)
 (.ite (ak x.1 15) (.ret (BZ (iy (rA x (cD (rA x f0)))) (iy (rA x (cD (rA x f0)))).2.2.2.1 0,true)) (.ret (BZ (iy (rA x (cD (rA x f0)))) (iy (rA x (cD (rA x f0)))).2.2.2.1 31,true)))
 (.ite (ak x.1 15) (.ret (BZ (iy (rA x (cD (rA x f0)))) (iy (rA x (cD (rA x f0)))).2.2.2.1 0,true)) (.ret (BZ (iy (rA x (cD (rA x f0)))) (iy (rA x (cD (rA x f0)))).2.2.2.1 30,true)))))
def mT (x:DI):Tr nF:=.aa (fp (rA x f0)) (.aa (fp (rB x (cD (rA x f0)))) (.aa (iQ (rA x (cD (rB x (cD (rA x f0))))))
 (.ret (BZ (iy (rA x (cD (rB x (cD (rA x f0)))))) (iy (rA x (cD (rB x (cD (rA x f0)))))).2.2.2.1 31,true))))
abbrev zA (x:DI):aS:=iy (rA x (cD (rA x f0)))
def hB (x:DI) (o m:Int):Tr nF:=
 .ite (ak (oB x).1 3)
  (.aa (m≠0) (.aa (m≠0) (.ite (ak (fJ .i64 (aK .i64 (fJ .i64 (oB x).2.2.2.2.2.2.2 m) m) m) 0) (.ret (BZ (zA x) (zA x).2.2.2.1 0,true)) (.ret (BZ (zA x) (zA x).2.2.2.1 o,true)))))
  (.aa (fp (rB x (BZ (zA x) (zA x).2.2.2.1 o))) (.ret (iF (cD (rB x (BZ (zA x) (zA x).2.2.2.1 o))) o,true)))
def hT (x:DI) (o:Int):Tr nF:=.aa (fp (rA x f0)) (.aa (iQ (rA x (cD (rA x f0)))) (.ite (ak x.2.2.1 8) (hB x o 64) (hB x o 32)))
abbrev Rest:=List Int×(List Int×(Int×(Int×(Int×(Int×Bool)))))
def Eb {J:Type} (x:DI) (l:List Int) (z:Rest):Tr (J⊕aS):=
 .ite (ak x.2.2.1 1==true) (.ite (ak x.1 1==false) (.ite (ak x.1 31==true) (.ite (ak (oA x).1 1) (.aa (fm (l,(oA x).2.1)) (.ret (.inr (eG (l,(oA x).2.1),z)))) (.ret (.inr (l,z)))) (.ret (.inr (l,z))))
  (.ite (ak (oA x).1 1) (.aa (fm (l,(oA x).2.1)) (.ret (.inr (eG (l,(oA x).2.1),z)))) (.ret (.inr (l,z))))) (.ret (.inr (l,z)))
abbrev zM (x:DI) (n:Int):aS:=iy (rA x (cD (f0,(oB x,n))))
def V2 {J:Type} (x:DI) (n:Int):Tr (J⊕aS):=.aa (fp (f0,(oB x,n))) (.aa (iQ (rA x (cD (f0,(oB x,n))))) (Eb x (zM x n).1 (zM x n).2))
def vT {J:Type} (x:DI):Tr (J⊕aS):=.aa (GZ x) (.ite (!(sC x))
 (.aa (fp (rA x f0)) (.aa (fp (rB x (cD (rA x f0)))) (.aa (iQ (rA x (cD (rB x (cD (rA x f0)))))) (Eb x (iy (rA x (cD (rB x (cD (rA x f0)))))).1 (iy (rA x (cD (rB x (cD (rA x f0)))))).2))))
 (.aa (iQ (rA x f0)) (Eb x (iy (rA x f0)).1 (iy (rA x f0)).2)))
abbrev WD (x:DI):aS:=iy (rA x (cD (rB x (cD (rA x f0)))))
abbrev WC (x:DI):aS:=iy (rA x f0)
def WO {J:Type} (x:DI) (l:List Int):Tr (J⊕aS):=.ite (ak (oA x).1 1) (.aa (fm ([],(oA x).2.1)) (Eb x l (eG ([],(oA x).2.1),([],(0,(0,(0,(0,false))))))))
 (Eb x l ([],([],(0,(0,(0,(0,false)))))))
def eT (x:DI) (f:aS):Tr aS:=
 .ite (ak x.1 26==false) (.ite (ak x.1 27==false) (.ite (ak x.1 28==false) (.ret (f.1,(f.2.1,(f.2.2.1,(f.2.2.2.1,(f.2.2.2.2.1,(f.2.2.2.2.2.1,(f.2.2.2.2.2.2.1,ak x.1 29))))))))
  (.ret (f.1,(f.2.1,(f.2.2.1,(f.2.2.2.1,(f.2.2.2.2.1,(f.2.2.2.2.2.1,(f.2.2.2.2.2.2.1,true)))))))))
  (.ret (f.1,(f.2.1,(f.2.2.1,(f.2.2.2.1,(f.2.2.2.2.1,(f.2.2.2.2.2.1,(f.2.2.2.2.2.2.1,true))))))))) (.ret (f.1,(f.2.1,(f.2.2.1,(f.2.2.2.1,(f.2.2.2.2.1,(f.2.2.2.2.2.1,(f.2.2.2.2.2.2.1,true))))))))
end
end Go.bz.RL
end
section
namespace Go.bz.RM
open Go.bz.RL
open Go.bz
noncomputable section
theorem pE (l:List Int) (n c:Int):c∈dV false l n↔c∈l∨c=n:=by
 rw [pC]
 by_cases h:c=n
 ·subst h;simp
 ·simp [h]
theorem jU (l:List Int) (n:Int):(dV false l n).length≤l.length+1:=by
 have:=o0 n false l;simpa using this
def eh (o:DO):List Int:=if o.1=2 then (if 0≤o.2.2.1 then [o.2.2.1] else [])++(if 0≤o.2.2.2.1 then [o.2.2.2.1] else []) else []
theorem l7 (o:DO):(eh o).length≤2:=by
 unfold eh
 split<;>(try split)<;>(try split)<;>simp
theorem GA (o:DO):Cw o∧Mm o=eh o:=by
 have key:res (qk o) (fun r=>r=eh o):=by
  simp only [qk,bB,en,fF,eh]
  refine ⟨fun h=>?_,fun h=>⟨fun h1=>⟨by decide,by decide,by decide,by decide,fun h2=>⟨by decide,by decide,trivial,by decide,by decide,by decide,?_⟩,fun h2=>⟨by decide,?_⟩⟩,fun h1=>⟨fun h2=>⟨by decide,by decide,by decide,by decide,by decide,?_⟩,fun h2=>?_⟩⟩⟩
  ·rw [if_neg (dr.1 h)]
  all_goals
   rw [if_pos (gy.1 h)]
   first | rw [if_pos (cJ.1 h1)] | rw [if_neg (show ¬ _ by rw [mv] at h1;omega)]
   first | rw [if_pos (cJ.1 h2)] | rw [if_neg (show ¬ _ by rw [mv] at h2;omega)]
   rfl
 exact key.and
def ja (l u:List Int):List Int:=u.foldl (fun r c=>dV false r c) l
theorem pD (c:Int):∀ (u l:List Int),c∈ja l u↔c∈l∨c∈u
 | [],l=>by simp [ja]
 | n :: u,l=>by
  show c∈ja (dV false l n) u↔_
  rw [pD c u,pE,List.mem_cons]
  constructor
  ·rintro ((h | h) | h)
   ·exact .inl h
   ·exact .inr (.inl h)
   ·exact .inr (.inr h)
  ·rintro (h | h | h)
   ·exact .inl (.inl h)
   ·exact .inl (.inr h)
   ·exact .inr h
theorem kH:∀ (u l:List Int),(ja l u).length≤l.length+u.length
 | [],l=>by simp [ja]
 | n :: u,l=>by
  have h1:=kH u (dV false l n)
  have h2:=jU l n
  show (ja (dV false l n) u).length≤_
  rw [List.length_cons];omega
theorem G3 {f:aS} {o:DO} {u:List Int} (hu:u.length≤2):∀ (j i:Nat) (a b:List Int),j+i=u.length→a.length≤500+i→b.length≤500+i→
  Ends (iG (f,o)) (ja a (u.drop i),(f.2.1,(ja b (u.drop i),f.2.2.2))) (iG (f,o) (.h0 u (i:Int) a b))
 | 0,i,a,b,hj,ha,hb=>by
  have hi:i=u.length:=by omega
  subst hi
  simp only [iG]
  rw [eI]
  refine ⟨fun h=>(by rw [bU] at h;omega),fun _=>?_⟩
  rw [List.drop_length]
  simp only [eR]
  rfl
 | j+1,i,a,b,hj,ha,hb=>by
  have hi:i < u.length:=by omega
  have e:aK .i64 (i:Int) 1=((i+1:Nat):Int):=by rw [dH (by omega) (by omega)];omega
  have ea:eZ (.int .i64) u i=u[i]:=dU (c:=.int .i64) hi
  have pa:=iq (l:=a) (n:=u[i]) (by omega)
  have pb:=iq (l:=b) (n:=u[i]) (by omega)
  have la:=jU a u[i]
  have lb:=jU b u[i]
  have ih:=G3 (f:=f) (o:=o) hu j (i+1) (dV false a u[i]) (dV false b u[i]) (by omega) (by omega) (by omega)
  simp only [iG]
  rw [eI]
  refine ⟨fun _=>?_,fun h=>by rw [dY] at h;omega⟩
  simp only [eN,eJ,Int.toNat_natCast,ea,e]
  refine ⟨by omega,by omega,pa.1,by omega,by omega,pb.1,?_⟩
  rw [pa.2,pb.2,List.drop_eq_getElem_cons hi]
  exact ih
theorem pg {f:aS} {o:DO} (ha:f.1.length≤500) (hb:f.2.2.1.length≤500):ry (f,o)∧yB (f,o)=(ja f.1 (eh o),(f.2.1,(ja f.2.2.1 (eh o),f.2.2.2))):=by
 have hu:=GA o
 have key:Ends (iG (f,o)) (ja f.1 (eh o),(f.2.1,(ja f.2.2.1 (eh o),f.2.2.2))) (m5 (f,o)):=by
  simp only [m5,eN,eJ]
  refine ⟨hu.1,?_⟩
  rw [hu.2]
  exact G3 (l7 o) (eh o).length 0 f.1 f.2.2.1 (by simp) (by omega) (by omega)
 exact ⟨⟨_,key⟩,dO key⟩
def gR (o:DO) (c:Int):Prop:=o.1=1∧c=o.2.1
def mR (o:DO) (c:Int):Prop:=c∈eh o
structure Fx (f:aS) (R W:Int→Prop) (i o:Int) (k:Nat):Prop where
 rd:∀ c,c∈f.1↔R c
 wr:∀ c,c∈f.2.1↔W c
 fi:f.2.2.2.1=i
 fo:f.2.2.2.2.1=o
 lr:f.1.length≤k
 lw:f.2.1.length≤k
 la:f.2.2.1.length≤k
theorem xN:Fx f0 (fun _=>False) (fun _=>False) 0 0 0:=⟨fun c=>by simp [f0],fun c=>by simp [f0],rfl,rfl,Nat.le_refl _,Nat.le_refl _,Nat.le_refl _⟩
variable {f:aS} {R W:Int→Prop} {i o':Int} {k:Nat} {o:DO}
theorem cZ (h:o.1≠2) (c:Int):¬ mR o c:=by simp [mR,eh,h]
theorem Fx.reads (h:Fx f R W i o' k) (n:Int) (hk:k≤400):fp (f,(o,n))∧Fx (cD (f,(o,n))) (fun c=>R c∨gR o c∨mR o c) W i o' (k+3):=by
 have hlr:=h.lr;have hlw:=h.lw;have hla:=h.la
 have key:res (qn (f,(o,n))) (fun r=>Fx r (fun c=>R c∨gR o c∨mR o c) W i o' (k+3)):=by
  simp only [qn,bB,en,fF]
  refine ⟨fun h1=>⟨(iq (by omega)).1,fun h2=>?_,fun h2=>?_⟩,fun h1=>⟨fun h2=>⟨(pg (by omega) (by omega)).1,?_⟩,fun h2=>?_⟩⟩
  ·have:=al.1 h1;have:=al.1 h2;omega
  ·have h1:o.1=1:=al.1 h1
   rw [(iq (l:=f.1) (n:=o.2.1) (by omega)).2]
   refine ⟨fun c=>?_,h.wr,h.fi,h.fo,?_,by show f.2.1.length≤_;omega,by show f.2.2.1.length≤_;omega⟩
   ·show c∈dV false f.1 o.2.1↔_
    rw [pE,h.rd c]
    simp [gR,h1,cZ (o:=o) (by omega) c]
   ·have:=jU f.1 o.2.1;show (dV false f.1 o.2.1).length≤_;omega
  ·have h1:o.1≠1:=bS.1 h1
   rw [(pg (f:=f) (o:=o) (by omega) (by omega)).2]
   have hu:=l7 o
   refine ⟨fun c=>?_,h.wr,h.fi,h.fo,?_,by show f.2.1.length≤_;omega,?_⟩
   ·show c∈ja f.1 (eh o)↔_
    rw [pD,h.rd c]
    simp [gR,h1,mR]
   ·have:=kH (eh o) f.1;show (ja f.1 (eh o)).length≤_;omega
   ·have:=kH (eh o) f.2.2.1;show (ja f.2.2.1 (eh o)).length≤_;omega
  ·have h1:o.1≠1:=bS.1 h1
   have h2:o.1≠2:=bS.1 h2
   refine ⟨fun c=>?_,h.wr,h.fi,h.fo,by show f.1.length≤_;omega,by show f.2.1.length≤_;omega,by show f.2.2.1.length≤_;omega⟩
   show c∈f.1↔_
   rw [h.rd c]
   simp [gR,h1,cZ (o:=o) h2 c]
 exact key.and
theorem Fx.writes (h:Fx f R W i o' k) (n:Int) (hk:k≤400):iQ (f,(o,n))∧Fx (iy (f,(o,n))) (fun c=>R c∨mR o c) (fun c=>W c∨gR o c) i o' (k+3):=by
 have hlr:=h.lr;have hlw:=h.lw;have hla:=h.la
 have key:res (qm (f,(o,n))) (fun r=>Fx r (fun c=>R c∨mR o c) (fun c=>W c∨gR o c) i o' (k+3)):=by
  simp only [qm,bB,en,fF]
  refine ⟨fun h1=>⟨(iq (by omega)).1,fun h2=>?_,fun h2=>?_⟩,fun h1=>⟨fun h2=>⟨(pg (by omega) (by omega)).1,?_⟩,fun h2=>?_⟩⟩
  ·have:=al.1 h1;have:=al.1 h2;omega
  ·have h1:o.1=1:=al.1 h1
   rw [(iq (l:=f.2.1) (n:=o.2.1) (by omega)).2]
   refine ⟨fun c=>?_,fun c=>?_,h.fi,h.fo,by show f.1.length≤_;omega,?_,by show f.2.2.1.length≤_;omega⟩
   ·show c∈f.1↔_
    rw [h.rd c]
    simp [cZ (o:=o) (by omega) c]
   ·show c∈dV false f.2.1 o.2.1↔_
    rw [pE,h.wr c]
    simp [gR,h1]
   ·have:=jU f.2.1 o.2.1;show (dV false f.2.1 o.2.1).length≤_;omega
  ·have h1:o.1≠1:=bS.1 h1
   rw [(pg (f:=f) (o:=o) (by omega) (by omega)).2]
   have hu:=l7 o
   refine ⟨fun c=>?_,fun c=>?_,h.fi,h.fo,?_,by show f.2.1.length≤_;omega,?_⟩
   ·show c∈ja f.1 (eh o)↔_
    rw [pD,h.rd c]
    simp [mR]
   ·show c∈f.2.1↔_
    rw [h.wr c]
    simp [gR,h1]
   ·have:=kH (eh o) f.1;show (ja f.1 (eh o)).length≤_;omega
   ·have:=kH (eh o) f.2.2.1;show (ja f.2.2.1 (eh o)).length≤_;omega
  ·have h1:o.1≠1:=bS.1 h1
   have h2:o.1≠2:=bS.1 h2
   refine ⟨fun c=>?_,fun c=>?_,h.fi,h.fo,by show f.1.length≤_;omega,by show f.2.1.length≤_;omega,by show f.2.2.1.length≤_;omega⟩
   ·show c∈f.1↔_
    rw [h.rd c]
    simp [cZ (o:=o) h2 c]
   ·show c∈f.2.1↔_
    rw [h.wr c]
    simp [gR,h1]
 exact key.and
theorem Fx.out {g:aS} (h:Fx f R W i o' k) (e1:g.1=f.1) (e2:g.2.1=f.2.1) (e3:g.2.2.1=f.2.2.1):Fx g R W g.2.2.2.1 g.2.2.2.2.1 k:=
 ⟨fun c=>by rw [e1];exact h.rd c,fun c=>by rw [e2];exact h.wr c,rfl,rfl,by rw [e1];exact h.lr,by rw [e2];exact h.lw,by rw [e3];exact h.la⟩
theorem Fx.dV {g:aS} {n:Int} (h:Fx f R W i o' k) (hk:k≤400) (e1:g.1=eG (f.1,n)) (e2:g.2.1=f.2.1) (e3:g.2.2.1=f.2.2.1):Fx g (fun c=>R c∨c=n) W g.2.2.2.1 g.2.2.2.2.1 (k+1):=by
 have hlr:=h.lr;have hlw:=h.lw;have hla:=h.la
 rw [(iq (l:=f.1) (n:=n) (by omega)).2] at e1
 exact ⟨fun c=>by rw [e1,pE,h.rd c],fun c=>by rw [e2];exact h.wr c,rfl,rfl,by rw [e1];have:=jU f.1 n;omega,by rw [e2];omega,by rw [e3];omega⟩
theorem Fx.Cq {g:aS} {n:Int} (h:Fx f R W i o' k) (hk:k≤400) (e1:g.1=f.1) (e2:g.2.1=eG (f.2.1,n)) (e3:g.2.2.1=f.2.2.1):Fx g R (fun c=>W c∨c=n) g.2.2.2.1 g.2.2.2.2.1 (k+1):=by
 have hlr:=h.lr;have hlw:=h.lw;have hla:=h.la
 rw [(iq (l:=f.2.1) (n:=n) (by omega)).2] at e2
 exact ⟨fun c=>by rw [e1];exact h.rd c,fun c=>by rw [e2,pE,h.wr c],rfl,rfl,by rw [e1];omega,by rw [e2];have:=jU f.2.1 n;omega,by rw [e3];omega⟩
theorem Fx.pre (h:Fx f R W i o' k) (hk:k≤400) (n:Int):fm (f.1,n)∧fm (f.2.1,n):=by
 have hlr:=h.lr;have hlw:=h.lw
 exact ⟨(iq (by omega)).1,(iq (by omega)).1⟩
end
end Go.bz.RM
end
section
namespace Go.bz.RL
open Go.Proofs Go.bz
noncomputable def wa (x:DI):Tr nF:=
 .ite (ak x.1 3) (sT x)<|
 .ite (ak x.1 4) (sT x)<|
 .ite (ak x.1 7) (sT x)<|
 .ite (ak x.1 8) (sT x)<|
 .ite (ak x.1 9) (sT x)<|
 .ite (ak x.1 5) (sT x)<|
 .ite (ak x.1 6) (sT x)<|
 .ite (ak x.1 10) (cT x)<|
 .ite (ak x.1 11) (cT x)<|
 .ite (ak x.1 12) (uT x)<|
 .ite (ak x.1 13) (uT x)<|
 .ite (ak x.1 14) (uT x)<|
 .ite (ak x.1 15) (uT x)<|
 .ite (ak x.1 21) (mT x)<|
 .ret (f0,false)
noncomputable def Bq (x:DI):nF:=(wa x).val
def LD (x:DI):Prop:=(wa x).ok
noncomputable def zw:Spec:={eX:=(.bu bA),cB:=(.st fD (.bu .bool)),n:=2,pre:=LD,f:=Bq}
noncomputable def A0:FuncId→Option Spec
 | 70=>some wj
 | 71=>some n0
 | 72=>some nZ
 | _=>none
theorem Ju:∀ f sp,A0 f=some sp→ah aA f sp:=by
 intro f sp h
 unfold A0 at h
 split at h
 ·cases h;exact VI
 ·cases h;exact NT
 ·cases h;exact NS
 ·cases h
section
variable (W:cM) (Q:nF→Prop) (x:DI)
theorem Ud:run (env A0 (fun _=>none) false (fun _ _=>none)) (fun _ _ _=>none) (bE zw Q) W 100000 (bl 25 Tryz.f25 (ag Tryz.f25) (bp (.bu bA) x)) [] []=(wa x).wp Q:=by kernel_rfl
end
theorem Xv:ah aA 25 zw:=ah.env rfl (fun _ _ h=>h) (aG (E:=(env A0 (fun _=>none) false (fun _ _=>none))) (sp:=zw) (valid _ _ _ _) ⟨fun f sp h=>ah.env rfl (fun _ _ h=>h) (Ju f sp h),fun f ps h=>nomatch h⟩ (fn:=Tryz.f25) (c:=(ag Tryz.f25)) (by kernel_rfl) (by kernel_rfl) wa Ud (fun _ h=>Tr.an h))
end Go.bz.RL
end
section
namespace Go.bz.RL
open Go.Proofs Go.bz
noncomputable def vZ (x:DI):Tr nF:=
 .ite (ak x.1 16) (hT x 31)<|
 .ite (ak x.1 17) (hT x 31)<|
 .ite (ak x.1 18) (hT x 31)<|
 .ite (ak x.1 19) (hT x 9)<|
 .ite (ak x.1 20) (hT x 9)<|
 .ret (f0,false)
noncomputable def DJ (x:DI):nF:=(vZ x).val
def LC (x:DI):Prop:=(vZ x).ok
noncomputable def zu:Spec:={eX:=(.bu bA),cB:=(.st fD (.bu .bool)),n:=2,pre:=LC,f:=DJ}
noncomputable def AZ:FuncId→Option Spec
 | 71=>some n0
 | 72=>some nZ
 | _=>none
theorem Jt:∀ f sp,AZ f=some sp→ah aA f sp:=by
 intro f sp h
 unfold AZ at h
 split at h
 ·cases h;exact NT
 ·cases h;exact NS
 ·cases h
section
variable (W:cM) (Q:nF→Prop) (x:DI)
theorem Uc:run (env AZ (fun _=>none) false (fun _ _=>none)) (fun _ _ _=>none) (bE zu Q) W 100000 (bl 26 Tryz.f26 (ag Tryz.f26) (bp (.bu bA) x)) [] []=(vZ x).wp Q:=by kernel_rfl
end
theorem Xu:ah aA 26 zu:=ah.env rfl (fun _ _ h=>h) (aG (E:=(env AZ (fun _=>none) false (fun _ _=>none))) (sp:=zu) (valid _ _ _ _) ⟨fun f sp h=>ah.env rfl (fun _ _ h=>h) (Jt f sp h),fun f ps h=>nomatch h⟩ (fn:=Tryz.f26) (c:=(ag Tryz.f26)) (by kernel_rfl) (by kernel_rfl) vZ Uc (fun _ h=>Tr.an h))
noncomputable def yQ (x:bM):Tr DO:=
 .ret (2,(0,((imax x.1 (-1)),((-1),(1,(x.2,(false,0)))))))
noncomputable def JR (x:bM):DO:=(yQ x).val
def Ls (x:bM):Prop:=(yQ x).ok
noncomputable def zp:Spec:={eX:=(.st (.int .i64) (.bu (.int .i64))),cB:=CO,n:=1,pre:=Ls,f:=JR}
noncomputable def Al:FuncId→Option Spec
 | _=>none
theorem IP:∀ f sp,Al f=some sp→ah aA f sp:=by
 intro f sp h
 unfold Al at h
 split at h
 ·cases h
section
variable (W:cM) (Q:DO→Prop) (x:bM)
theorem Ts:run (env Al (fun _=>none) false (fun _ _=>none)) (fun _ _ _=>none) (bE zp Q) W 100000 (bl 73 Tryz.f73 (ag Tryz.f73) (bp (.st (.int .i64) (.bu (.int .i64))) x)) [] []=(yQ x).wp Q:=by kernel_rfl
end
theorem Xn:ah aA 73 zp:=ah.env rfl (fun _ _ h=>h) (aG (E:=(env Al (fun _=>none) false (fun _ _=>none))) (sp:=zp) (valid _ _ _ _) ⟨fun f sp h=>ah.env rfl (fun _ _ h=>h) (IP f sp h),fun f ps h=>nomatch h⟩ (fn:=Tryz.f73) (c:=(ag Tryz.f73)) (by kernel_rfl) (by kernel_rfl) yQ Ts (fun _ h=>Tr.an h))
noncomputable def vY (x:DI):Tr nF:=
 let y0:bM:=(4,0)
 .aa (Ls y0)<|
 .ite (ak x.1 24) (
 let y1:oT:=(([]:List Int),(([]:List Int),(([]:List Int),(0,(0,(0,(0,false)))))))
 let y2:=x.2.2
 let y3:=y2.2.1
 let y4:(DO×Int):=(y3,8)
 let y5:HZ:=(y1,y4)
 .aa (fp y5)<|
 let y6:(DO×Int):=((JR y0),8)
 let y7:xE:=((cD y5),y6)
 .aa (iQ y7)<|
 let y8:=(iy y7)
 let y9:=y8.2
 let y10:bq:=(y9.1,4)
 .aa (fm y10)<|
 .ret ((y8.1,((eG y10),y9.2)),true)) (
 .ite (ak x.1 25) (
 let y11:oT:=(([]:List Int),(([]:List Int),(([]:List Int),(0,(0,(0,(0,false)))))))
 let y12:(DO×Int):=((JR y0),8)
 let y13:HZ:=(y11,y12)
 .aa (fp y13)<|
 let y14:=(cD y13)
 let y15:=x.2.2
 let y16:=y15.2.1
 let y17:(DO×Int):=(y16,8)
 let y18:xE:=(y14,y17)
 .aa (iQ y18)<|
 let y19:=(iy y18)
 let y20:=y19.2
 let y21:bq:=(y20.1,4)
 .aa (fm y21)<|
 .ret ((y19.1,((eG y21),y20.2)),true)) (
 .ite (ak x.1 26) (
 let y22:oT:=(([]:List Int),(([]:List Int),(([]:List Int),(0,(0,(0,(0,false)))))))
 let y23:(DO×Int):=((JR y0),8)
 let y24:HZ:=(y22,y23)
 .aa (iQ y24)<|
 let y25:=(iy y24)
 let y26:=y25.2
 let y27:bq:=(y26.1,4)
 .aa (fm y27)<|
 .ret ((y25.1,((eG y27),y26.2)),true)) (
 .ite (ak x.1 27) (
 let y28:oT:=(([]:List Int),(([]:List Int),(([]:List Int),(0,(0,(0,(0,false)))))))
 let y29:(DO×Int):=((JR y0),8)
 let y30:HZ:=(y28,y29)
 .aa (fp y30)<|
 let y31:=(cD y30)
 let y32:=y31.2
 let y33:bq:=(y32.1,4)
 .aa (fm y33)<|
 .ret ((y31.1,((eG y33),y32.2)),true)) (
 .ite (ak x.1 22) (
 let y34:oT:=(([]:List Int),(([]:List Int),(([]:List Int),(0,(0,(0,(0,false)))))))
 let y35:=x.2.2
 let y36:=y35.2.1
 let y37:HZ:=(y34,(y36,y35.1))
 .aa (fp y37)<|
 let y38:=(cD y37)
 let y39:bq:=(y38.1,0)
 .aa (fm y39)<|
 let y40:=y38.2
 let y41:bq:=(y40.1,0)
 .aa (fm y41)<|
 let y42:bq:=((eG y41),2)
 .aa (fm y42)<|
 let y43:=(ak x.1 23)
 .ite y43 (
 let y44:=(eG y39)
 let y45:bq:=(y44,2)
 .aa (fm y45)<|
 let y46:=(eG y42)
 let y47:=y40.2
 let y48:=y47.1
 let y49:=y47.2
 let y50:=y49.1
 let y51:=y49.2.2
 let y52:Na:=(((eG y45),(y46,(y48,(y50,(0,y51))))),true)
 .ret y52) (
 let y53:=(eG y39)
 let y54:=(eG y42)
 let y55:=y40.2
 let y56:=y55.1
 let y57:=y55.2
 let y58:=y57.1
 let y59:=y57.2.2
 let y60:Na:=((y53,(y54,(y56,(y58,(31,y59))))),true)
 .ret y60)) (
 let y61:=(ak x.1 23)
 .ite y61 (
 let y62:oT:=(([]:List Int),(([]:List Int),(([]:List Int),(0,(0,(0,(0,false)))))))
 let y63:=x.2.2
 let y64:=y63.2.1
 let y65:HZ:=(y62,(y64,y63.1))
 .aa (fp y65)<|
 let y66:=(cD y65)
 let y67:bq:=(y66.1,0)
 .aa (fm y67)<|
 let y68:=y66.2
 let y69:bq:=(y68.1,0)
 .aa (fm y69)<|
 let y70:bq:=((eG y69),2)
 .aa (fm y70)<|
 .ite y61 (
 let y71:=(eG y67)
 let y72:bq:=(y71,2)
 .aa (fm y72)<|
 let y73:=(eG y70)
 let y74:=y68.2
 let y75:=y74.1
 let y76:=y74.2
 let y77:=y76.1
 let y78:=y76.2.2
 let y79:Na:=(((eG y72),(y73,(y75,(y77,(0,y78))))),true)
 .ret y79) (
 let y80:=(eG y67)
 let y81:=(eG y70)
 let y82:=y68.2
 let y83:=y82.1
 let y84:=y82.2
 let y85:=y84.1
 let y86:=y84.2.2
 let y87:Na:=((y80,(y81,(y83,(y85,(31,y86))))),true)
 .ret y87)) (
 let y88:oT:=(([]:List Int),(([]:List Int),(([]:List Int),(0,(0,(0,(0,false)))))))
 .ret (y88,false)))))))
noncomputable def Bp (x:DI):nF:=(vY x).val
def G0 (x:DI):Prop:=(vY x).ok
noncomputable def zt:Spec:={eX:=(.bu bA),cB:=(.st fD (.bu .bool)),n:=2,pre:=G0,f:=Bp}
noncomputable def AY:FuncId→Option Spec
 | 71=>some n0
 | 72=>some nZ
 | 73=>some zp
 | 74=>some jx
 | _=>none
theorem Js:∀ f sp,AY f=some sp→ah aA f sp:=by
 intro f sp h
 unfold AY at h
 split at h
 ·cases h;exact NT
 ·cases h;exact NS
 ·cases h;exact Xn
 ·cases h;exact LX
 ·cases h
section
variable (W:cM) (Q:nF→Prop) (x:DI)
theorem Ub:run (env AY (fun _=>none) false (fun _ _=>none)) (fun _ _ _=>none) (bE zt Q) W 100000 (bl 27 Tryz.f27 (ag Tryz.f27) (bp (.bu bA) x)) [] []=(vY x).wp Q:=by kernel_rfl
end
theorem Xt:ah aA 27 zt:=ah.env rfl (fun _ _ h=>h) (aG (E:=(env AY (fun _=>none) false (fun _ _=>none))) (sp:=zt) (valid _ _ _ _) ⟨fun f sp h=>ah.env rfl (fun _ _ h=>h) (Js f sp h),fun f ps h=>nomatch h⟩ (fn:=Tryz.f27) (c:=(ag Tryz.f27)) (by kernel_rfl) (by kernel_rfl) vY Ub (fun _ h=>Tr.an h))
noncomputable def qj (x:Int):Tr Int:=
 .aa ((16:Int)≠0)<|
 .aa ((2:Int)≠0)<|
 let y0:Int:=(Rs .u8 (fJ .u8 x 16) 2)
 .ite (ak y0 0) (
 .ret 8) (
 .ite (ak y0 1) (
 .ret 1) (
 .ite (ak y0 2) (
 .ret 2) (
 .ite (ak y0 3) (
 .ret 3) (
 .ite (ak y0 4) (
 .ret 4) (
 .ite (ak y0 5) (
 .ret 16) (
 .ite (ak y0 6) (
 .ret 12) (
 .ret 14)))))))
noncomputable def mC (x:Int):Int:=(qj x).val
def r6 (x:Int):Prop:=(qj x).ok
noncomputable def zn:Spec:={eX:=(.bu (.int .u8)),cB:=(.int .u8),n:=1,pre:=r6,f:=mC}
noncomputable def Aj:FuncId→Option Spec
 | _=>none
theorem IL:∀ f sp,Aj f=some sp→ah aA f sp:=by
 intro f sp h
 unfold Aj at h
 split at h
 ·cases h
section
variable (W:cM) (Q:Int→Prop) (x:Int)
theorem To:run (env Aj (fun _=>none) false (fun _ _=>none)) (fun _ _ _=>none) (bE zn Q) W 100000 (bl 76 Tryz.f76 (ag Tryz.f76) (bp (.bu (.int .u8)) x)) [] []=(qj x).wp Q:=by kernel_rfl
end
theorem Xm:ah aA 76 zn:=ah.env rfl (fun _ _ h=>h) (aG (E:=(env Aj (fun _=>none) false (fun _ _=>none))) (sp:=zn) (valid _ _ _ _) ⟨fun f sp h=>ah.env rfl (fun _ _ h=>h) (IL f sp h),fun f ps h=>nomatch h⟩ (fn:=Tryz.f76) (c:=(ag Tryz.f76)) (by kernel_rfl) (by kernel_rfl) qj To (fun _ h=>Tr.an h))
end Go.bz.RL
end
section
namespace Go.bz.RL
open Go.bz Go.RowKit
variable {rd:Int→Prop} {l:L} {n:Int} {W:List Int} {k:Nat}
theorem xD {a:aF} (ha:gv rd n a):∀ v∈[a],gv rd n v:=by
 intro v hv;simp only [List.mem_cons,List.not_mem_nil,or_false] at hv;subst hv;exact ha
theorem kv {a b:aF} (ha:gv rd n a) (hb:gv rd n b):∀ v∈[a,b],gv rd n v:=by
 intro v hv;simp only [List.mem_cons,List.not_mem_nil,or_false] at hv;rcases hv with rfl | rfl<;>assumption
theorem PG {a b c:aF} (ha:gv rd n a) (hb:gv rd n b) (hc:gv rd n c):∀ v∈[a,b,c],gv rd n v:=by
 intro v hv;simp only [List.mem_cons,List.not_mem_nil,or_false] at hv;rcases hv with rfl | rfl | rfl<;>assumption
theorem lD {vs:List aF} (h:∀ v∈vs,gv rd n v) (i:Nat):gv rd n (xV vs i):=by
 unfold xV
 rcases Nat.lt_or_ge i vs.length with hi | hi
 ·simp only [List.getD,List.getElem?_eq_getElem hi,Option.getD_some];exact h _ (List.getElem_mem hi)
 ·simp only [List.getD,List.getElem?_eq_none hi,Option.getD_none];exact aM _
theorem mk (S:St) (h:G rd l n W k) (hl:k≤31) {op w:Int} {vs:List aF} (ho:gK op) (hw:1≤w∧w≤8) (hv:∀ v∈vs,gv rd n v):
  bN (S,(l,(op,(w,vs))))∧G rd (ba (S,(l,(op,(w,vs))))).1 (n+1) W (k+1)∧gv rd (n+1) (ba (S,(l,(op,(w,vs))))).2:=by
 obtain ⟨h1,h2⟩:=X7 S op w vs h (by omega)
 have hn:=h.V1
 have hk:=h.len
 rw [h2]
 refine ⟨h1,⟨?_,by simp;omega⟩,PF (.inr ⟨hn.1,by omega⟩)⟩
 have:=h.PJ.app (.HV ho hw (by omega) (lD hv 0) (lD hv 1) (lD hv 2) (.nil _))
 rwa [List.append_nil] at this
theorem Ye (S:St) (h:G rd l n W k) (hl:k≤1000) {op w c:Int} {vs:List aF} (ho:gK op) (hw:1≤w∧w≤8) (hc:0≤c∧c≤20) (hv:∀ v∈vs,gv rd n v):
  bK (S,(l,(op,(w,(c,vs)))))∧G rd (cK (S,(l,(op,(w,(c,vs)))))).1 n (W++[c]) (k+1):=by
 have hk:=h.len
 obtain ⟨h1,h2⟩:=NM S l op w c vs (by omega)
 rw [h2]
 exact ⟨h1,⟨h.PJ.app (.cell ho hw hc (lD hv 0) (lD hv 1) (lD hv 2) (.nil _)),by simp;omega⟩⟩
theorem Yd (S:St) (h:G rd l n W k) (hl:k≤1000) {op w:Int} {vs:List aF} (ho:op=28∨op=29) (hw:1≤w∧w≤8) (hv:∀ v∈vs,gv rd n v):
  bK (S,(l,(op,(w,(0,vs)))))∧G rd (cK (S,(l,(op,(w,(0,vs)))))).1 n W (k+1):=by
 have hk:=h.len
 obtain ⟨h1,h2⟩:=NM S l op w 0 vs (by omega)
 rw [h2]
 have:=h.PJ.app (.none ho hw (lD hv 0) (lD hv 1) (lD hv 2) (.nil _))
 rw [List.append_nil] at this
 exact ⟨h1,⟨this,by simp;omega⟩⟩
theorem Il (w:Int):EH w:=trivial
theorem Mu (w:Int):1≤yA w∧yA w≤8:=by
 show 1≤JK (imax w 1) 8∧JK (imax w 1) 8≤8
 unfold JK imax
 split<;>split<;>omega
theorem Cu (w:Int):GX w:=by
 have h:=Mu w
 have key:res (qh w) (fun _=>True):=by
  simp only [qh,en,fF]
  exact ⟨Il w,by omega,by omega,by omega,trivial⟩
 exact key.1
theorem ab (v w:Int):EI (v,w):=by
 have key:res (m4 (v,w)) (fun _=>True):=by
  simp only [m4,en,fF]
  exact ⟨Cu w,trivial⟩
 exact key.1
theorem Lz {s:Int} (h:s=2∨s=4∨s=8):wF (aN .u64 s):=by
 have one:∀ s:Int,(s=2∨s=4∨s=8)→res (qi (aN .u64 s)) (fun _=>True):=by
  rintro s (rfl | rfl | rfl)<;>
  ·simp only [qi,bB,en,fF]
   refine ⟨fun _=>trivial,fun _=>⟨by decide,?_,?_,?_,trivial⟩⟩<;>decide +kernel
 have key:∀ s:Int,(s=2∨s=4∨s=8)→Lq (aN .u64 s):=fun s hs=>(one s hs).1
 have:res (qq (aN .u64 s)) (fun _=>True):=by
  simp only [qq,en,fF]
  exact ⟨key s h,trivial⟩
 exact this.1
structure WU (rd:Int→Prop) (o:DO):Prop where
 base:o.1=2→0≤o.2.2.1→o.2.2.1≤15∧rd o.2.2.1
 idx:o.1=2→0≤o.2.2.2.1→o.2.2.2.1≤15∧rd o.2.2.2.1
 sc:o.1=2→0≤o.2.2.2.1→o.2.2.2.2.1=1∨o.2.2.2.2.1=2∨o.2.2.2.2.1=4∨o.2.2.2.2.1=8
theorem hM {c:Int} (h:0≤c) (h2:c≤20∧rd c):gv rd n (cl c):=PF (.inl ⟨h,h2.1,h2.2⟩)
theorem bh {n':Int} {v:aF} (hn:n≤n') (h:gv rd n v):gv rd n' v:=N1 h hn
theorem Bi {n:Int} (k j:Int):gv rd n ((wd k).1,((wd k).2.1,j)):=.inl ⟨rfl,rfl⟩
def D1 (rd:Int→Prop) (n:Int) (W:List Int) (k:Nat) (r:L×aF):Prop:=∃ n',n≤n'∧G rd r.1 n' W k∧gv rd n' r.2
def D0 (rd:Int→Prop) (n:Int) (W:List Int) (k:Nat) (r:L×Unit):Prop:=∃ n',n≤n'∧G rd r.1 n' W k
theorem G.wk {k':Nat} (h:G rd l n W k) (hk:k≤k'):G rd l n W k':=⟨h.PJ,Nat.le_trans h.len hk⟩
theorem D1.of {n':Int} {r:L×aF} {k':Nat} (hn:n≤n') (h:G rd r.1 n' W k) (hv:gv rd n' r.2) (hk:k≤k'):D1 rd n W k' r:=⟨n',hn,h.wk hk,hv⟩
theorem D0.of {n':Int} {r:L×Unit} {k':Nat} (hn:n≤n') (h:G rd r.1 n' W k) (hk:k≤k'):D0 rd n W k' r:=⟨n',hn,h.wk hk⟩
section
variable {α:Type} {t:Tr α} {Q:α→Prop}
theorem dE {S:St} (h:G rd l n W k) {op w:Int} {vs:List aF} (hl:k≤31) (ho:gK op) (hw:1≤w∧w≤8) (hv:∀ v∈vs,gv rd n v)
  (g:G rd (ba (S,(l,(op,(w,vs))))).1 (n+1) W (k+1)→gv rd (n+1) (ba (S,(l,(op,(w,vs))))).2→res t Q):res (.aa (bN (S,(l,(op,(w,vs))))) t) Q:=
 have p:=mk S h hl ho hw hv
 en.2 ⟨p.1,g p.2.1 p.2.2⟩
theorem JE {S:St} (h:G rd l n W k) {op w c:Int} {vs:List aF} (hl:k≤1000) (ho:gK op) (hw:1≤w∧w≤8) (hc:0≤c∧c≤20) (hv:∀ v∈vs,gv rd n v)
  (g:G rd (cK (S,(l,(op,(w,(c,vs)))))).1 n (W++[c]) (k+1)→res t Q):res (.aa (bK (S,(l,(op,(w,(c,vs)))))) t) Q:=
 have p:=Ye S h hl ho hw hc hv
 en.2 ⟨p.1,g p.2⟩
theorem XC {S:St} (h:G rd l n W k) {op w:Int} {vs:List aF} (hl:k≤1000) (ho:op=28∨op=29) (hw:1≤w∧w≤8) (hv:∀ v∈vs,gv rd n v)
  (g:G rd (cK (S,(l,(op,(w,(0,vs)))))).1 n W (k+1)→res t Q):res (.aa (bK (S,(l,(op,(w,(0,vs)))))) t) Q:=
 have p:=Yd S h hl ho hw hv
 en.2 ⟨p.1,g p.2⟩
theorem dS {b:Bool} {e:Tr α} (h1:b=true→res t Q) (h2:b=false→res e Q):res (.ite b t e) Q:=bB.2 ⟨h1,h2⟩
theorem aw {p:Prop} (h1:p) (h2:res t Q):res (.aa p t) Q:=en.2 ⟨h1,h2⟩
theorem b8 {a:α} (h:Q a):res (.ret a) Q:=fF.2 h
end
theorem w8:1≤(8:Int)∧(8:Int)≤8:=⟨by decide,by decide⟩
theorem w1:1≤(1:Int)∧(1:Int)≤8:=⟨by decide,by decide⟩
theorem X8 (S:St) (h:G rd l n W k) (hl:k≤28) {o:DO} (ho:WU rd o):res (qw (S,(l,o))) (D1 rd n W (k+3)):=by
 repeat refine aw (by first | exact ae _ | exact af _ | exact ab _ _ | rfl | (with_reducible decide)) ?_
 refine dS (fun _=>?_) fun hk=>?_
 ·repeat refine aw (by first | exact ae _ | exact af _ | exact ab _ _ | rfl | (with_reducible decide)) ?_
  exact b8 (.of (by omega) h (aM _) (by omega))
 replace hk:=gy.1 hk
 repeat refine aw (by first | exact ae _ | exact af _ | exact ab _ _ | rfl | (with_reducible decide)) ?_
 have hb:∀ {b:Int},b=o.2.2.1→cj 0 b=true→gv rd n (cl b):=fun e hb=>by
  subst e;have:=cJ.1 hb;exact hM this ⟨by have:=ho.base hk this;omega,(ho.base hk this).2⟩
 have hi:∀ {b:Int} {n':Int},b=o.2.2.2.1→cj 0 b=true→gv rd n' (cl b):=fun e hb=>by
  subst e;have:=cJ.1 hb;exact hM this ⟨by have:=ho.idx hk this;omega,(ho.idx hk this).2⟩
 have hs:∀ {b s:Int},b=o.2.2.2.1→s=o.2.2.2.2.1→cj 0 b=true→cF 1 s=true→wF (aN .u64 s):=fun e e' hb hs=>by
  subst e;subst e';have:=cJ.1 hb;have h1:=bU.1 hs;exact Lz ((ho.sc hk this).resolve_left (by omega))
 repeat refine aw (by first | exact ae _ | exact af _ | exact ab _ _ | rfl | (with_reducible decide)) ?_
 refine dS (fun _=>?_) fun _=>?_
 ·repeat refine aw (by first | exact ae _ | exact af _ | exact ab _ _ | rfl | (with_reducible decide)) ?_
  refine dS (fun h1=>?_) fun _=>?_
  ·repeat refine aw (by first | exact ae _ | exact af _ | exact ab _ _ | rfl | (with_reducible decide)) ?_
   refine dE h (by omega) ⟨by decide,by decide⟩ w8 (kv (Bi _ _) (hb rfl h1)) fun g1 v1=>?_
   repeat refine aw (by first | exact ae _ | exact af _ | exact ab _ _ | rfl | (with_reducible decide)) ?_
   refine dS (fun h2=>?_) fun _=>?_
   ·repeat refine aw (by first | exact ae _ | exact af _ | exact ab _ _ | rfl | (with_reducible decide)) ?_
    refine dS (fun h3=>?_) fun _=>?_
    ·repeat refine aw (by first | exact ae _ | exact af _ | exact ab _ _ | rfl | (with_reducible decide)) ?_
     refine aw (hs rfl rfl h2 h3) ?_
     repeat refine aw (by first | exact ae _ | exact af _ | exact ab _ _ | rfl | (with_reducible decide)) ?_
     refine dE g1 (by omega) ⟨by decide,by decide⟩ w8 (kv (hi rfl h2) (aM _)) fun g2 v2=>?_
     repeat refine aw (by first | exact ae _ | exact af _ | exact ab _ _ | rfl | (with_reducible decide)) ?_
     refine dE g2 (by omega) ⟨by decide,by decide⟩ w8 (kv (bh (by omega) v1) v2) fun g3 v3=>?_
     repeat refine aw (by first | exact ae _ | exact af _ | exact ab _ _ | rfl | (with_reducible decide)) ?_
     exact b8 (.of (by omega) g3 v3 (by omega))
    ·repeat refine aw (by first | exact ae _ | exact af _ | exact ab _ _ | rfl | (with_reducible decide)) ?_
     refine dE g1 (by omega) ⟨by decide,by decide⟩ w8 (kv v1 (hi rfl h2)) fun g2 v2=>?_
     repeat refine aw (by first | exact ae _ | exact af _ | exact ab _ _ | rfl | (with_reducible decide)) ?_
     exact b8 (.of (by omega) g2 v2 (by omega))
   ·repeat refine aw (by first | exact ae _ | exact af _ | exact ab _ _ | rfl | (with_reducible decide)) ?_
    exact b8 (.of (by omega) g1 v1 (by omega))
  ·repeat refine aw (by first | exact ae _ | exact af _ | exact ab _ _ | rfl | (with_reducible decide)) ?_
   refine dS (fun h2=>?_) fun _=>?_
   ·repeat refine aw (by first | exact ae _ | exact af _ | exact ab _ _ | rfl | (with_reducible decide)) ?_
    refine dS (fun h3=>?_) fun _=>?_
    ·repeat refine aw (by first | exact ae _ | exact af _ | exact ab _ _ | rfl | (with_reducible decide)) ?_
     refine aw (hs rfl rfl h2 h3) ?_
     repeat refine aw (by first | exact ae _ | exact af _ | exact ab _ _ | rfl | (with_reducible decide)) ?_
     refine dE h (by omega) ⟨by decide,by decide⟩ w8 (kv (hi rfl h2) (aM _)) fun g2 v2=>?_
     repeat refine aw (by first | exact ae _ | exact af _ | exact ab _ _ | rfl | (with_reducible decide)) ?_
     refine dE g2 (by omega) ⟨by decide,by decide⟩ w8 (kv (Bi _ _) v2) fun g3 v3=>?_
     repeat refine aw (by first | exact ae _ | exact af _ | exact ab _ _ | rfl | (with_reducible decide)) ?_
     exact b8 (.of (by omega) g3 v3 (by omega))
    ·repeat refine aw (by first | exact ae _ | exact af _ | exact ab _ _ | rfl | (with_reducible decide)) ?_
     refine dE h (by omega) ⟨by decide,by decide⟩ w8 (kv (Bi _ _) (hi rfl h2)) fun g2 v2=>?_
     repeat refine aw (by first | exact ae _ | exact af _ | exact ab _ _ | rfl | (with_reducible decide)) ?_
     exact b8 (.of (by omega) g2 v2 (by omega))
   ·repeat refine aw (by first | exact ae _ | exact af _ | exact ab _ _ | rfl | (with_reducible decide)) ?_
    exact b8 (.of (by omega) h (Bi _ _) (by omega))
 ·repeat refine aw (by first | exact ae _ | exact af _ | exact ab _ _ | rfl | (with_reducible decide)) ?_
  refine dS (fun h1=>?_) fun _=>?_
  ·repeat refine aw (by first | exact ae _ | exact af _ | exact ab _ _ | rfl | (with_reducible decide)) ?_
   refine dE h (by omega) ⟨by decide,by decide⟩ w8 (kv (aM _) (hb rfl h1)) fun g1 v1=>?_
   repeat refine aw (by first | exact ae _ | exact af _ | exact ab _ _ | rfl | (with_reducible decide)) ?_
   refine dS (fun h2=>?_) fun _=>?_
   ·repeat refine aw (by first | exact ae _ | exact af _ | exact ab _ _ | rfl | (with_reducible decide)) ?_
    refine dS (fun h3=>?_) fun _=>?_
    ·repeat refine aw (by first | exact ae _ | exact af _ | exact ab _ _ | rfl | (with_reducible decide)) ?_
     refine aw (hs rfl rfl h2 h3) ?_
     repeat refine aw (by first | exact ae _ | exact af _ | exact ab _ _ | rfl | (with_reducible decide)) ?_
     refine dE g1 (by omega) ⟨by decide,by decide⟩ w8 (kv (hi rfl h2) (aM _)) fun g2 v2=>?_
     repeat refine aw (by first | exact ae _ | exact af _ | exact ab _ _ | rfl | (with_reducible decide)) ?_
     refine dE g2 (by omega) ⟨by decide,by decide⟩ w8 (kv (bh (by omega) v1) v2) fun g3 v3=>?_
     repeat refine aw (by first | exact ae _ | exact af _ | exact ab _ _ | rfl | (with_reducible decide)) ?_
     exact b8 (.of (by omega) g3 v3 (by omega))
    ·repeat refine aw (by first | exact ae _ | exact af _ | exact ab _ _ | rfl | (with_reducible decide)) ?_
     refine dE g1 (by omega) ⟨by decide,by decide⟩ w8 (kv v1 (hi rfl h2)) fun g2 v2=>?_
     repeat refine aw (by first | exact ae _ | exact af _ | exact ab _ _ | rfl | (with_reducible decide)) ?_
     exact b8 (.of (by omega) g2 v2 (by omega))
   ·repeat refine aw (by first | exact ae _ | exact af _ | exact ab _ _ | rfl | (with_reducible decide)) ?_
    exact b8 (.of (by omega) g1 v1 (by omega))
  ·repeat refine aw (by first | exact ae _ | exact af _ | exact ab _ _ | rfl | (with_reducible decide)) ?_
   refine dS (fun h2=>?_) fun _=>?_
   ·repeat refine aw (by first | exact ae _ | exact af _ | exact ab _ _ | rfl | (with_reducible decide)) ?_
    refine dS (fun h3=>?_) fun _=>?_
    ·repeat refine aw (by first | exact ae _ | exact af _ | exact ab _ _ | rfl | (with_reducible decide)) ?_
     refine aw (hs rfl rfl h2 h3) ?_
     repeat refine aw (by first | exact ae _ | exact af _ | exact ab _ _ | rfl | (with_reducible decide)) ?_
     refine dE h (by omega) ⟨by decide,by decide⟩ w8 (kv (hi rfl h2) (aM _)) fun g2 v2=>?_
     repeat refine aw (by first | exact ae _ | exact af _ | exact ab _ _ | rfl | (with_reducible decide)) ?_
     refine dE g2 (by omega) ⟨by decide,by decide⟩ w8 (kv (aM _) v2) fun g3 v3=>?_
     repeat refine aw (by first | exact ae _ | exact af _ | exact ab _ _ | rfl | (with_reducible decide)) ?_
     exact b8 (.of (by omega) g3 v3 (by omega))
    ·repeat refine aw (by first | exact ae _ | exact af _ | exact ab _ _ | rfl | (with_reducible decide)) ?_
     refine dE h (by omega) ⟨by decide,by decide⟩ w8 (kv (aM _) (hi rfl h2)) fun g2 v2=>?_
     repeat refine aw (by first | exact ae _ | exact af _ | exact ab _ _ | rfl | (with_reducible decide)) ?_
     exact b8 (.of (by omega) g2 v2 (by omega))
   ·repeat refine aw (by first | exact ae _ | exact af _ | exact ab _ _ | rfl | (with_reducible decide)) ?_
    exact b8 (.of (by omega) h (aM _) (by omega))
end Go.bz.RL
end
section
namespace Go.bz.RM
open Go.bz.RL
open Go.bz
noncomputable section
def rJ (x:DI):Prop:=(3≤x.1∧x.1≤11)∨x.1=21
abbrev Hm (x:DI):Prop:=16≤x.1∧x.1≤20
def TA (x:DI):Prop:=(rJ x∧sC x=false)∨(12≤x.1∧x.1≤20)∨x.1=22∨x.1=23∨x.1=24∨x.1=28∨x.1=30∨((x.1=1∨x.1=31)∧x.2.2.1=1)
def TB (x:DI):Prop:=(rJ x∧sC x=false)∨x.1=1∨x.1=30∨x.1=32∨x.1=33∨(Hm x∧(oB x).1≠3)
def EX (x:DI) (c:Int):Prop:=((x.1=22∨x.1=23)∧c=0)∨(x.1=23∧c=2)∨((24≤x.1∧x.1≤27)∧c=4)
def WW (x:DI) (c:Int):Prop:=(((1≤x.1∧x.1≤21∧x.1≠10∧x.1≠11)∨x.1=25∨(30≤x.1∧x.1≠34))∧gR (oA x) c)∨((24≤x.1∧x.1≤27)∧c=4)∨((x.1=22∨x.1=23)∧(c=0∨c=2))
def BE (x:DI):Int:=if x.2.2.1=8 then fJ .i64 (aK .i64 (fJ .i64 (oB x).2.2.2.2.2.2.2 64) 64) 64 else fJ .i64 (aK .i64 (fJ .i64 (oB x).2.2.2.2.2.2.2 32) 32) 32
def H8 (x:DI):Int:=if x.1≤18 then 31 else 9
def II (x:DI):Int:=if x.1=5∨x.1=6 then 1 else if 29≤x.1∧x.1≤31 then mC x.2.1 else if Hm x∧(oB x).1≠3 then H8 x else 0
def OO (x:DI):Int:=if (3≤x.1∧x.1≤11)∨x.1=14∨x.1=21∨x.1=22 then 31 else if x.1=12∨x.1=13 then 30 else if Hm x then (if (oB x).1=3∧BE x=0 then 0 else H8 x) else 0
structure FF (x:DI) (f:aS):Prop where
 ra:∀ c,mR (oA x) c→c∈f.1
 rb:∀ c,mR (oB x) c→c∈f.1
 ga:TA x→∀ c,gR (oA x) c→c∈f.1
 gb:TB x→∀ c,gR (oB x) c→c∈f.1
 ex:∀ c,EX x c→c∈f.1
 wr:∀ c,c∈f.2.1↔WW x c
 up:∀ c,c∈f.1→gR (oA x) c∨gR (oB x) c∨mR (oA x) c∨mR (oB x) c∨c=0∨c=2∨c=4
 fi:f.2.2.2.1=II x
 fo:f.2.2.2.2.1=OO x
 lr:f.1.length≤60
 lw:f.2.1.length≤60
theorem gF {x:DI} {f:aS} {R W:Int→Prop} {i o:Int} {k:Nat} (h:Fx f R W i o k) (hk:k≤60)
  (ra:∀ c,mR (oA x) c→R c) (rb:∀ c,mR (oB x) c→R c) (ga:TA x→∀ c,gR (oA x) c→R c) (gb:TB x→∀ c,gR (oB x) c→R c) (ex:∀ c,EX x c→R c)
  (wr:∀ c,W c↔WW x c) (up:∀ c,R c→gR (oA x) c∨gR (oB x) c∨mR (oA x) c∨mR (oB x) c∨c=0∨c=2∨c=4) (fi:i=II x) (fo:o=OO x):FF x f:=
 ⟨fun c hc=>(h.rd c).2 (ra c hc),fun c hc=>(h.rd c).2 (rb c hc),fun t c hc=>(h.rd c).2 (ga t c hc),fun t c hc=>(h.rd c).2 (gb t c hc),fun c hc=>(h.rd c).2 (ex c hc),
  fun c=>(h.wr c).trans (wr c),fun c hc=>up c ((h.rd c).1 hc),h.fi.trans fi,h.fo.trans fo,Nat.le_trans h.lr hk,Nat.le_trans h.lw hk⟩
theorem Cy (x:DI):GZ x:=by
 show (j9 x).ok
 simp only [j9,gg,fS,implies_true,and_self]
theorem wM {x:DI} (h:sC x=true):(oA x).1=1∧(oB x).1=1∧(x.1=8∨x.1=9∨x.1=36):=by
 have key:res (j9 x) (fun r=>r=true→(oA x).1=1∧(oB x).1=1∧(x.1=8∨x.1=9∨x.1=36)):=by
  simp only [j9,bB,fF]
  refine ⟨fun h1=>⟨fun h2=>⟨fun h3=>⟨fun h4=>⟨fun h5 h6=>?_,fun h5 _=>?_⟩,fun h4 _=>?_⟩,fun _ h=>by cases h⟩,fun _ h=>by cases h⟩,fun _ h=>by cases h⟩
  all_goals
   have h1:(oA x).1=1:=al.1 (by simpa using h1)
   have h2:(oB x).1=1:=al.1 (by simpa using h2)
   refine ⟨h1,h2,?_⟩
  ·exact .inr (.inr (al.1 h6))
  ·exact .inl (al.1 (by simpa using h5))
  ·exact .inr (.inl (al.1 (by simpa using h4)))
 exact key.2 h
def J7 (x:DI) (r:aS×Bool):Prop:=if (3≤x.1∧x.1≤15)∨x.1=21 then r.2=true∧FF x r.1 else r.2=false
theorem nC {x:DI} {d:Int} {r:aS×Bool} (hd:x.1=d) (h:(3≤d∧d≤15)∨d=21) (h2:r.2=true) (h3:FF x r.1):J7 x r:=by
 unfold J7;rw [if_pos (by omega)];exact ⟨h2,h3⟩
theorem Mw {x:DI} {f:aS} {i o:Int} {k:Nat} (hd:(3≤x.1∧x.1≤9)∨x.1=21)
  (h:Fx f (fun c=>(((False∨gR (oA x) c∨mR (oA x) c)∨gR (oB x) c∨mR (oB x) c))∨mR (oA x) c) (fun c=>False∨gR (oA x) c) i o k) (hk:k≤60) (fi:i=II x) (fo:o=OO x):FF x f:=by
 refine gF h hk ?_ ?_ ?_ ?_ ?_ ?_ ?_ fi fo
 ·intro c hc;simp [hc]
 ·intro c hc;simp [hc]
 ·intro _ c hc;simp [hc]
 ·intro _ c hc;simp [hc]
 ·intro c hc;unfold EX at hc;omega
 ·intro c;unfold WW
  constructor
  ·rintro (h | h)
   ·cases h
   ·exact .inl ⟨by omega,h⟩
  ·rintro (h | h | h)
   ·exact .inr h.2
   ·omega
   ·omega
 ·intro c hc
  rcases hc with ((h | h | h) | h | h) | h
  ·cases h
  all_goals simp [h]
theorem JT {x:DI} {f:aS} {i o:Int} {k:Nat} (hd:3≤x.1∧x.1≤9) (hn:sC x=true)
  (h:Fx f (fun c=>False∨mR (oA x) c) (fun c=>False∨gR (oA x) c) i o k) (hk:k≤60) (fi:i=II x) (fo:o=OO x):FF x f:=by
 obtain ⟨n1,n2,n3⟩:=wM hn
 refine gF h hk ?_ ?_ ?_ ?_ ?_ ?_ ?_ fi fo
 ·intro c hc;exact absurd hc (cZ (by omega) c)
 ·intro c hc;exact absurd hc (cZ (by omega) c)
 ·intro ht c hc;exfalso;unfold TA rJ at ht;rw [hn] at ht;simp at ht;omega
 ·intro ht c hc;exfalso;unfold TB rJ at ht;rw [hn] at ht;simp at ht;omega
 ·intro c hc;unfold EX at hc;omega
 ·intro c;unfold WW
  constructor
  ·rintro (h | h)
   ·cases h
   ·exact .inl ⟨by omega,h⟩
  ·rintro (h | h | h)
   ·exact .inr h.2
   ·omega
   ·omega
 ·intro c hc
  rcases hc with h | h
  ·cases h
  ·simp [h]
theorem se {f:aS} {R W:Int→Prop} {i o:Int} {k:Nat} (h:Fx f R W i o k) (i' o':Int):Fx (BZ f i' o') R W i' o' k:=h.out (g:=BZ f i' o') rfl rfl rfl
theorem xB {x:DI} (h:x.1≠5∧x.1≠6∧(x.1 < 29∨31 < x.1)∧(x.1 < 16∨20 < x.1)):II x=0:=by
 unfold II;rw [if_neg (by omega),if_neg (by omega),if_neg (by omega)]
theorem SN {x:DI} (h:x.1=5∨x.1=6):II x=1:=by unfold II;rw [if_pos h]
theorem kZ {x:DI} (h:(3≤x.1∧x.1≤11)∨x.1=14∨x.1=21∨x.1=22):OO x=31:=by unfold OO;rw [if_pos h]
theorem PN {x:DI} (h:x.1=12∨x.1=13):OO x=30:=by unfold OO;rw [if_neg (by omega),if_pos h]
theorem k7 {x:DI} (h:x.1 < 3∨x.1=15∨23≤x.1):OO x=0:=by unfold OO;rw [if_neg (by omega),if_neg (by omega),if_neg (by omega)]
theorem U2 {x:DI} {f:aS} (hd:3≤x.1∧x.1≤9) (hf:f.2.2.2.1=0) (h:∀ i o,i=II x→o=OO x→FF x (BZ f i o)):res (tl x f) (J7 x):=by
 refine dS (fun a=>dS (fun b=>?_) fun b=>?_) fun a=>?_
 ·exact b8 (nC rfl (by omega) rfl (h _ _ (SN (.inr (al.1 b))).symm (kZ (by omega)).symm))
 ·have a:x.1≠5:=bS.1 (by simpa using a)
  have b:x.1≠6:=bS.1 b
  exact b8 (nC rfl (by omega) rfl (h _ _ (hf.trans (xB (by omega)).symm) (kZ (by omega)).symm))
 ·have a:x.1=5:=al.1 (by simpa using a)
  exact b8 (nC rfl (by omega) rfl (h _ _ (SN (.inl a)).symm (kZ (by omega)).symm))
theorem Ex {x:DI} (hd:3≤x.1∧x.1≤9):res (sT x) (J7 x):=by
 refine aw (Cy x) (dS (fun hn=>?_) fun hn=>?_)
 ·have hn:sC x=false:=by simpa using hn
  have r1:=xN.reads (o:=oA x) x.2.2.1 (by omega)
  have r2:=r1.2.reads (o:=oB x) x.2.2.1 (by omega)
  have r3:=r2.2.writes (o:=oA x) x.2.2.1 (by omega)
  exact aw r1.1 (aw r2.1 (aw r3.1 (U2 hd r3.2.fi fun i o hi ho=>Mw (.inl hd) (se r3.2 i o) (by omega) hi ho)))
 ·have hn:sC x=true:=by simpa using hn
  have r3:=xN.writes (o:=oA x) x.2.2.1 (by omega)
  exact aw r3.1 (U2 hd r3.2.fi fun i o hi ho=>JT hd hn (se r3.2 i o) (by omega) hi ho)
theorem U5 {x:DI} (hd:x.1=10∨x.1=11):res (cT x) (J7 x):=by
 have r1:=xN.reads (o:=oA x) x.2.2.1 (by omega)
 have r2:=r1.2.reads (o:=oB x) x.2.2.1 (by omega)
 refine aw r1.1 (aw r2.1 (b8 (nC rfl (by omega) rfl (gF (se r2.2 _ _) (by omega) ?_ ?_ ?_ ?_ ?_ ?_ ?_ (r2.2.fi.trans (xB (by omega)).symm) (kZ (by omega)).symm))))
 ·intro c hc;simp [hc]
 ·intro c hc;simp [hc]
 ·intro _ c hc;simp [hc]
 ·intro _ c hc;simp [hc]
 ·intro c hc;unfold EX at hc;omega
 ·intro c;unfold WW
  constructor
  ·intro h;cases h
  ·rintro (h | h | h)<;>omega
 ·intro c hc
  rcases hc with (h | h | h) | h | h
  ·cases h
  all_goals simp [h]
theorem SA {x:DI} {f:aS} {i o:Int} {k:Nat} (hd:12≤x.1∧x.1≤15) (hB:(oB x).1≠2)
  (h:Fx f (fun c=>(False∨gR (oA x) c∨mR (oA x) c)∨mR (oA x) c) (fun c=>False∨gR (oA x) c) i o k) (hk:k≤60) (fi:i=II x) (fo:o=OO x):FF x f:=by
 refine gF h hk ?_ ?_ ?_ ?_ ?_ ?_ ?_ fi fo
 ·intro c hc;simp [hc]
 ·intro c hc;exact absurd hc (cZ hB c)
 ·intro _ c hc;simp [hc]
 ·intro ht;exfalso;unfold TB rJ at ht;omega
 ·intro c hc;unfold EX at hc;omega
 ·intro c;unfold WW
  constructor
  ·rintro (h | h)
   ·cases h
   ·exact .inl ⟨by omega,h⟩
  ·rintro (h | h | h)
   ·exact .inr h.2
   ·omega
   ·omega
 ·intro c hc
  rcases hc with (h | h | h) | h
  ·cases h
  all_goals simp [h]
theorem NK {x:DI} (hd:12≤x.1∧x.1≤15) (hB:(oB x).1≠2):res (uT x) (J7 x):=by
 have r1:=xN.reads (o:=oA x) x.2.2.1 (by omega)
 have r3:=r1.2.writes (o:=oA x) x.2.2.1 (by omega)
 have go:∀ o,o=OO x→J7 x (BZ (iy (rA x (cD (rA x f0)))) (iy (rA x (cD (rA x f0)))).2.2.2.1 o,true):=fun o ho=>
  nC rfl (by omega) rfl (SA hd hB (se r3.2 _ o) (by omega) (r3.2.fi.trans (xB (by omega)).symm) ho)
 refine aw r1.1 (aw r3.1 (dS (fun a=>dS (fun b=>b8 (go _ ?_)) fun b=>b8 (go _ ?_)) fun a=>dS (fun b=>b8 (go _ ?_)) fun b=>b8 (go _ ?_)))
 ·have:=al.1 a;have:=al.1 b;omega
 ·exact (kZ (by have:=al.1 a;omega)).symm
 ·exact (k7 (by have:=al.1 b;omega)).symm
 ·exact (PN (by have:=bS.1 a;have:=bS.1 b;omega)).symm
theorem Xe {x:DI} (hd:x.1=21):res (mT x) (J7 x):=by
 have r1:=xN.reads (o:=oA x) x.2.2.1 (by omega)
 have r2:=r1.2.reads (o:=oB x) x.2.2.1 (by omega)
 have r3:=r2.2.writes (o:=oA x) x.2.2.1 (by omega)
 exact aw r1.1 (aw r2.1 (aw r3.1 (b8 (nC rfl (by omega) rfl (Mw (.inr hd) (se r3.2 _ _) (by omega) (r3.2.fi.trans (xB (by omega)).symm) (kZ (by omega)).symm)))))
theorem YH (x:DI) (hB:12≤x.1∧x.1≤15→(oB x).1≠2):res (wa x) (J7 x):=by
 have I:=@al
 refine dS (fun h=>Ex (by have:=al.1 h;omega)) fun h3=>dS (fun h=>Ex (by have:=al.1 h;omega)) fun h4=>dS (fun h=>Ex (by have:=al.1 h;omega)) fun h7=>
  dS (fun h=>Ex (by have:=al.1 h;omega)) fun h8=>dS (fun h=>Ex (by have:=al.1 h;omega)) fun h9=>?_
 refine dS (fun h=>Ex (by have:=al.1 h;omega)) fun h5=>dS (fun h=>Ex (by have:=al.1 h;omega)) fun h6=>?_
 refine dS (fun h=>U5 (by have:=al.1 h;omega)) fun uP=>dS (fun h=>U5 (by have:=al.1 h;omega)) fun oI=>?_
 refine dS (fun h=>NK (by have:=al.1 h;omega) (hB (by have:=al.1 h;omega))) fun lC=>dS (fun h=>NK (by have:=al.1 h;omega) (hB (by have:=al.1 h;omega))) fun jt=>?_
 refine dS (fun h=>NK (by have:=al.1 h;omega) (hB (by have:=al.1 h;omega))) fun ku=>dS (fun h=>NK (by have:=al.1 h;omega) (hB (by have:=al.1 h;omega))) fun gO=>?_
 refine dS (fun h=>Xe (al.1 h)) fun Bh=>b8 ?_
 rw [bS] at h3 h4 h5 h6 h7 h8 h9 uP oI lC jt ku gO Bh
 unfold J7
 rw [if_neg (by omega)]
end
end Go.bz.RM
end
section
namespace Go.bz.RM
open Go.bz.RL
open Go.bz
noncomputable section
def M1 (x:DI) (r:aS×Bool):Prop:=if Hm x then r.2=true∧FF x r.1 else r.2=false
theorem N2 {f:aS} {R W:Int→Prop} {i o:Int} {k:Nat} (h:Fx f R W i o k) (i':Int):Fx (iF f i') R W i' o k:=
 ⟨h.rd,h.wr,rfl,h.fo,h.lr,h.lw,h.la⟩
theorem Mx {x:DI} {f:aS} {R:Int→Prop} {i o:Int} {k:Nat} (hd:Hm x) (hB:(oB x).1≠2)
  (h:Fx f R (fun c=>False∨gR (oA x) c) i o k) (hk:k≤60) (ra:∀ c,mR (oA x) c∨gR (oA x) c→R c) (rb:(oB x).1≠3→∀ c,gR (oB x) c→R c)
  (up:∀ c,R c→gR (oA x) c∨gR (oB x) c∨mR (oA x) c∨mR (oB x) c) (fi:i=II x) (fo:o=OO x):FF x f:=by
 have hd1:=hd.1
 have hd2:=hd.2
 refine gF h hk (fun c hc=>ra c (.inl hc)) (fun c hc=>absurd hc (cZ hB c)) (fun _ c hc=>ra c (.inr hc)) ?_ ?_ ?_ ?_ fi fo
 ·intro ht;refine rb ?_;unfold TB rJ at ht;omega
 ·intro c hc;unfold EX at hc;omega
 ·intro c;unfold WW
  constructor
  ·rintro (h | h)
   ·cases h
   ·exact .inl ⟨by omega,h⟩
  ·rintro (h | h | h)
   ·exact .inr h.2
   ·omega
   ·omega
 ·intro c hc;rcases up c hc with h | h | h | h<;>simp [h]
theorem U4 {x:DI} {o m:Int} (hd:Hm x) (hK:(oB x).1≠2) (ho:o=H8 x) (hm:m≠0)
  (hc:BE x=fJ .i64 (aK .i64 (fJ .i64 (oB x).2.2.2.2.2.2.2 m) m) m):res (hB x o m) (M1 x):=by
 have r1:=xN.reads (o:=oA x) x.2.2.1 (by omega)
 have r2:=r1.2.writes (o:=oA x) x.2.2.1 (by omega)
 have y:∀ {r:aS×Bool},r.2=true→FF x r.1→M1 x r:=fun a b=>by unfold M1;rw [if_pos hd];exact ⟨a,b⟩
 have hd1:=hd.1
 have hd2:=hd.2
 have up:∀ c,(False∨gR (oA x) c∨mR (oA x) c)∨mR (oA x) c→gR (oA x) c∨gR (oB x) c∨mR (oA x) c∨mR (oB x) c:=by
  rintro c ((h | h | h) | h)
  ·cases h
  all_goals simp [h]
 refine dS (fun a=>aw hm (aw hm (dS (fun b=>b8 (y rfl ?_)) fun b=>b8 (y rfl ?_)))) fun a=>?_
 ·have a:(oB x).1=3:=al.1 a
  refine Mx hd hK (se r2.2 _ _) (by omega) (fun c h=>by rcases h with h | h<;>simp [h]) (fun h=>absurd a h) up ?_ ?_
  ·refine r2.2.fi.trans ?_;unfold II;rw [if_neg (by omega),if_neg (by omega),if_neg (by omega)]
  ·unfold OO;rw [if_neg (by omega),if_neg (by omega),if_pos hd,if_pos ⟨a,hc.trans (al.1 b)⟩]
 ·have a:(oB x).1=3:=al.1 a
  refine Mx hd hK (se r2.2 _ _) (by omega) (fun c h=>by rcases h with h | h<;>simp [h]) (fun h=>absurd a h) up ?_ ?_
  ·refine r2.2.fi.trans ?_;unfold II;rw [if_neg (by omega),if_neg (by omega),if_neg (by omega)]
  ·unfold OO;rw [if_neg (by omega),if_neg (by omega),if_pos hd,if_neg (fun h=>bS.1 b (hc.symm.trans h.2))];exact ho
 ·have a:(oB x).1≠3:=bS.1 a
  have r3:=(se r2.2 (zA x).2.2.2.1 o).reads (o:=oB x) x.2.2.1 (by omega)
  refine aw r3.1 (b8 (y rfl ?_))
  refine Mx hd hK (N2 r3.2 _) (by omega) (fun c h=>by rcases h with h | h<;>simp [h]) (fun _ c h=>by simp [h]) ?_ ?_ ?_
  ·rintro c (h | h | h)
   ·exact up c h
   ·simp [h]
   ·simp [h]
  ·unfold II;rw [if_neg (by omega),if_neg (by omega),if_pos ⟨hd,a⟩];exact ho
  ·unfold OO;rw [if_neg (by omega),if_neg (by omega),if_pos hd,if_neg (fun h=>a h.1)];exact ho
theorem U3 {x:DI} {o:Int} (hd:Hm x) (hK:(oB x).1≠2) (ho:o=H8 x):res (hT x o) (M1 x):=by
 have r1:=xN.reads (o:=oA x) x.2.2.1 (by omega)
 have r2:=r1.2.writes (o:=oA x) x.2.2.1 (by omega)
 refine aw r1.1 (aw r2.1 (dS (fun a=>U4 hd hK ho (by decide) ?_) fun a=>U4 hd hK ho (by decide) ?_))
 ·unfold BE;rw [if_pos (al.1 a)]
 ·unfold BE;rw [if_neg (bS.1 a)]
theorem YG (x:DI) (hK:Hm x→(oB x).1≠2):res (vZ x) (M1 x):=by
 have lo:∀ {d:Int},ak x.1 d=true→16≤d∧d≤18→res (hT x 31) (M1 x):=fun h hd=>by
  have e:=al.1 h
  have hh:Hm x:=⟨by omega,by omega⟩
  exact U3 hh (hK hh) (by unfold H8;rw [if_pos (by omega)])
 have hi:∀ {d:Int},ak x.1 d=true→19≤d∧d≤20→res (hT x 9) (M1 x):=fun h hd=>by
  have e:=al.1 h
  have hh:Hm x:=⟨by omega,by omega⟩
  exact U3 hh (hK hh) (by unfold H8;rw [if_neg (by omega)])
 refine dS (fun h=>lo h (by decide)) fun h1=>dS (fun h=>lo h (by decide)) fun h2=>dS (fun h=>lo h (by decide)) fun h3=>dS (fun h=>hi h (by decide)) fun h4=>dS (fun h=>hi h (by decide)) fun h5=>b8 ?_
 rw [bS] at h1 h2 h3 h4 h5
 unfold M1
 rw [if_neg (by omega)]
def SK (x:DI) (r:aS×Bool):Prop:=if 22≤x.1∧x.1≤27 then r.2=true∧FF x r.1 else r.2=false
abbrev top:DO:=JR (4,0)
theorem Ko:eh top=[4]:=rfl
theorem rU (c:Int):mR top c↔c=4:=by simp [mR,Ko]
theorem GF (c:Int):¬ gR top c:=fun h=>absurd (show (2:Int)=1 from h.1) (by decide)
theorem Lr:Ls (4,0):=trivial
theorem rQ {x:DI} {f:aS} (h:22≤x.1∧x.1≤27) (hf:FF x f):SK x (f,true):=by
 unfold SK;rw [if_pos h];exact ⟨rfl,hf⟩
theorem Ka {x:DI} (h:22≤x.1∧x.1≤27):II x=0:=xB (by omega)
theorem YF (x:DI) (hA:x.1=26∨x.1=27→(oA x).1≠2) (hB:22≤x.1∧x.1≤27→(oB x).1≠2):res (vY x) (SK x):=by
 refine aw Lr (dS (fun h=>?_) fun h1=>dS (fun h=>?_) fun h2=>dS (fun h=>?_) fun h3=>dS (fun h=>?_) fun h4=>dS (fun h=>?_) fun h5=>dS (fun h=>?_) fun h6=>?_)
 ·have hd:x.1=24:=al.1 h
  have r1:=xN.reads (o:=oA x) 8 (by omega)
  have r2:=r1.2.writes (o:=top) 8 (by omega)
  refine aw r1.1 (aw r2.1 (aw (r2.2.pre (by omega) 4).2 (b8 (rQ (by omega) ?_))))
  refine gF (r2.2.Cq (n:=4) (by omega) rfl rfl rfl) (by omega) ?_ ?_ ?_ ?_ ?_ ?_ ?_ (r2.2.fi.trans (Ka (by omega)).symm) (r2.2.fo.trans (k7 (by omega)).symm)
  ·intro c hc;simp [hc]
  ·intro c hc;exact absurd hc (cZ (hB (by omega)) c)
  ·intro _ c hc;simp [hc]
  ·intro ht;exfalso;unfold TB rJ at ht;omega
  ·intro c hc;unfold EX at hc;rw [rU];omega
  ·intro c;unfold WW;have:=GF c
   constructor
   ·rintro ((h | h) | h)
    ·cases h
    ·exact absurd h this
    ·exact .inr (.inl ⟨by omega,h⟩)
   ·rintro (h | h | h)
    ·omega
    ·exact .inr h.2
    ·omega
  ·intro c hc;rw [rU] at hc
   rcases hc with (h | h | h) | h
   ·cases h
   all_goals simp [h]
 ·have hd:x.1=25:=al.1 h
  have r1:=xN.reads (o:=top) 8 (by omega)
  have r2:=r1.2.writes (o:=oA x) 8 (by omega)
  refine aw r1.1 (aw r2.1 (aw (r2.2.pre (by omega) 4).2 (b8 (rQ (by omega) ?_))))
  refine gF (r2.2.Cq (n:=4) (by omega) rfl rfl rfl) (by omega) ?_ ?_ ?_ ?_ ?_ ?_ ?_ (r2.2.fi.trans (Ka (by omega)).symm) (r2.2.fo.trans (k7 (by omega)).symm)
  ·intro c hc;simp [hc]
  ·intro c hc;exact absurd hc (cZ (hB (by omega)) c)
  ·intro ht;exfalso;unfold TA rJ at ht;omega
  ·intro ht;exfalso;unfold TB rJ at ht;omega
  ·intro c hc;unfold EX at hc;rw [rU];omega
  ·intro c;unfold WW
   constructor
   ·rintro ((h | h) | h)
    ·cases h
    ·exact .inl ⟨by omega,h⟩
    ·exact .inr (.inl ⟨by omega,h⟩)
   ·rintro (h | h | h)
    ·exact .inl (.inr h.2)
    ·exact .inr h.2
    ·omega
  ·intro c hc;rw [rU] at hc;have:=GF c
   rcases hc with (h | h | h) | h
   ·cases h
   ·exact absurd h this
   all_goals simp [h]
 ·have hd:x.1=26:=al.1 h
  have r2:=xN.writes (o:=top) 8 (by omega)
  refine aw r2.1 (aw (r2.2.pre (by omega) 4).2 (b8 (rQ (by omega) ?_)))
  refine gF (r2.2.Cq (n:=4) (by omega) rfl rfl rfl) (by omega) ?_ ?_ ?_ ?_ ?_ ?_ ?_ (r2.2.fi.trans (Ka (by omega)).symm) (r2.2.fo.trans (k7 (by omega)).symm)
  ·intro c hc;exact absurd hc (cZ (hA (by omega)) c)
  ·intro c hc;exact absurd hc (cZ (hB (by omega)) c)
  ·intro ht;exfalso;unfold TA rJ at ht;omega
  ·intro ht;exfalso;unfold TB rJ at ht;omega
  ·intro c hc;unfold EX at hc;rw [rU];omega
  ·intro c;unfold WW;have:=GF c
   constructor
   ·rintro ((h | h) | h)
    ·cases h
    ·exact absurd h this
    ·exact .inr (.inl ⟨by omega,h⟩)
   ·rintro (h | h | h)
    ·omega
    ·exact .inr h.2
    ·omega
  ·intro c hc;rw [rU] at hc
   rcases hc with h | h
   ·cases h
   all_goals simp [h]
 ·have hd:x.1=27:=al.1 h
  have r2:=xN.reads (o:=top) 8 (by omega)
  refine aw r2.1 (aw (r2.2.pre (by omega) 4).2 (b8 (rQ (by omega) ?_)))
  refine gF (r2.2.Cq (n:=4) (by omega) rfl rfl rfl) (by omega) ?_ ?_ ?_ ?_ ?_ ?_ ?_ (r2.2.fi.trans (Ka (by omega)).symm) (r2.2.fo.trans (k7 (by omega)).symm)
  ·intro c hc;exact absurd hc (cZ (hA (by omega)) c)
  ·intro c hc;exact absurd hc (cZ (hB (by omega)) c)
  ·intro ht;exfalso;unfold TA rJ at ht;omega
  ·intro ht;exfalso;unfold TB rJ at ht;omega
  ·intro c hc;unfold EX at hc;rw [rU];omega
  ·intro c;unfold WW
   constructor
   ·rintro (h | h)
    ·cases h
    ·exact .inr (.inl ⟨by omega,h⟩)
   ·rintro (h | h | h)
    ·omega
    ·exact .inr h.2
    ·omega
  ·intro c hc;rw [rU] at hc;have:=GF c
   rcases hc with h | h | h
   ·cases h
   ·exact absurd h this
   all_goals simp [h]
 ·have hd:x.1=22:=al.1 h
  have r1:=xN.reads (o:=oA x) x.2.2.1 (by omega)
  have r2:=r1.2.dV (g:=(eG ((cD (rA x f0)).1,0),(cD (rA x f0)).2)) (n:=0) (by omega) rfl rfl rfl
  have r3:=r2.Cq (g:=(eG ((cD (rA x f0)).1,0),(eG ((cD (rA x f0)).2.1,0),(cD (rA x f0)).2.2))) (n:=0) (by omega) rfl rfl rfl
  refine aw r1.1 (aw (r1.2.pre (by omega) 0).1 (aw (r2.pre (by omega) 0).2 (aw (r3.pre (by omega) 2).2 (dS (fun b=>absurd (al.1 b) (by omega)) fun b=>b8 (rQ (by omega) ?_)))))
  refine gF (r3.Cq (n:=2) (by omega) rfl rfl rfl) (by omega) ?_ ?_ ?_ ?_ ?_ ?_ ?_ (r1.2.fi.trans (Ka (by omega)).symm) (kZ (by omega)).symm
  ·intro c hc;simp [hc]
  ·intro c hc;exact absurd hc (cZ (hB (by omega)) c)
  ·intro _ c hc;simp [hc]
  ·intro ht;exfalso;unfold TB rJ at ht;omega
  ·intro c hc;unfold EX at hc;right;omega
  ·intro c;unfold WW
   constructor
   ·rintro ((h | h) | h)
    ·cases h
    ·exact .inr (.inr ⟨by omega,.inl h⟩)
    ·exact .inr (.inr ⟨by omega,.inr h⟩)
   ·rintro (h | h | h)
    ·omega
    ·omega
    ·rcases h.2 with h | h
     ·exact .inl (.inr h)
     ·exact .inr h
  ·intro c hc
   rcases hc with (h | h | h) | h
   ·cases h
   all_goals simp [h]
 ·have hd:x.1=23:=al.1 h
  have r1:=xN.reads (o:=oA x) x.2.2.1 (by omega)
  have r2:=r1.2.dV (g:=(eG ((cD (rA x f0)).1,0),(cD (rA x f0)).2)) (n:=0) (by omega) rfl rfl rfl
  have r3:=r2.Cq (g:=(eG ((cD (rA x f0)).1,0),(eG ((cD (rA x f0)).2.1,0),(cD (rA x f0)).2.2))) (n:=0) (by omega) rfl rfl rfl
  have r4:=r3.Cq (g:=(eG ((cD (rA x f0)).1,0),(eG (eG ((cD (rA x f0)).2.1,0),2),(cD (rA x f0)).2.2))) (n:=2) (by omega) rfl rfl rfl
  refine aw r1.1 (aw (r1.2.pre (by omega) 0).1 (aw (r2.pre (by omega) 0).2 (aw (r3.pre (by omega) 2).2 (dS (fun b=>aw (r4.pre (by omega) 2).1 (b8 (rQ (by omega) ?_))) fun b=>absurd (al.1 h) (bS.1 b)))))
  refine gF (r4.dV (n:=2) (by omega) rfl rfl rfl) (by omega) ?_ ?_ ?_ ?_ ?_ ?_ ?_ (r1.2.fi.trans (Ka (by omega)).symm) (k7 (by omega)).symm
  ·intro c hc;simp [hc]
  ·intro c hc;exact absurd hc (cZ (hB (by omega)) c)
  ·intro _ c hc;simp [hc]
  ·intro ht;exfalso;unfold TB rJ at ht;omega
  ·intro c hc;unfold EX at hc
   rcases hc with h | h | h
   ·exact .inl (.inr h.2)
   ·exact .inr h.2
   ·omega
  ·intro c;unfold WW
   constructor
   ·rintro ((h | h) | h)
    ·cases h
    ·exact .inr (.inr ⟨by omega,.inl h⟩)
    ·exact .inr (.inr ⟨by omega,.inr h⟩)
   ·rintro (h | h | h)
    ·omega
    ·omega
    ·rcases h.2 with h | h
     ·exact .inl (.inr h)
     ·exact .inr h
  ·intro c hc
   rcases hc with ((h | h | h) | h) | h
   ·cases h
   all_goals simp [h]
 ·rw [bS] at h1 h2 h3 h4 h5 h6
  refine b8 ?_
  unfold SK
  rw [if_neg (by omega)]
end
end Go.bz.RM
end
section
namespace Go.bz.RL
open Go.Proofs Go.bz
inductive OM where
 | h0 (v1:ao)
 | h1 (v1:ao) (v2:Int) (v29:ao)
noncomputable def vX (x:DI):Tr (OM⊕aS):=
 .ite (ak x.1 32) (V2 x 1)<|
 .ite (ak x.1 33) (V2 x 1)<|
 .ite (ak x.1 1) (V2 x x.2.2.1)<|
 .ite (ak x.1 35) (V2 x x.2.2.1)<|
 .ite (ak x.1 2) (.aa (Cw (oB x)) (.ret (.inl (.h0 (Mm (oB x))))))<|
 .ite (ak x.1 28) (.aa (fp (rA x f0)) (Eb x (cD (rA x f0)).1 (cD (rA x f0)).2))<|
 .ite (ak x.1 29) (.aa (r6 x.2.1) (Eb x (iF f0 (mC x.2.1)).1 (iF f0 (mC x.2.1)).2))<|
 .ite (ak x.1 30) (.aa (fp (rA x f0)) (.aa (fp (rB x (cD (rA x f0)))) (.aa (iQ (rA x (cD (rB x (cD (rA x f0)))))) (.aa (r6 x.2.1) (Eb x (iF (WD x) (mC x.2.1)).1 (iF (WD x) (mC x.2.1)).2)))))<|
 .ite (ak x.1 31) (.aa (iQ (rA x f0)) (.aa (r6 x.2.1) (Eb x (iF (WC x) (mC x.2.1)).1 (iF (WC x) (mC x.2.1)).2)))<|
 .ite (ak x.1 36) (vT x)<|
 .ite (ak x.1 37) (vT x)<|
 .ite (ak x.1 38) (vT x)<|
 .ite (ak x.1 39) (vT x)<|
 Eb x f0.1 f0.2
noncomputable def lh (x:DI):OM→Tr (OM⊕aS)
 | .h0 v1=>
 .ite (cF 0 (v1.length:Int)) (
 .aa ((0:Int)≤0)<|
 .aa (0 < (v1.length:Int))<|
 .aa (fm ([],(eZ (.int .i64) v1 0)))<|
 .ret (.inl (.h1 v1 1 (eG ([],(eZ (.int .i64) v1 0)))))) (WO x [])
 | .h1 v1 v2 v29=>
 .ite (cF v2 (v1.length:Int)) (
 .aa ((0:Int)≤v2)<|
 .aa (v2 < (v1.length:Int))<|
 .aa (fm (v29,(eZ (.int .i64) v1 (v2).toNat)))<|
 .ret (.inl (.h1 v1 (aK .i64 v2 1) (eG (v29,(eZ (.int .i64) v1 (v2).toNat)))))) (WO x v29)
noncomputable def D3 (x:DI):aV:=.cell true 25 (.agg [1,1,1,8,8,1,1] [(.int .u8 x.1),(.int .u8 x.2.1),(.int .i64 x.2.2.1),(.agg [1,1,1,1,1,1,1,1] [(.int .u8 x.2.2.2.1.1),(.int .i64 x.2.2.2.1.2.1),(.int .i64 x.2.2.2.1.2.2.1),(.int .i64 x.2.2.2.1.2.2.2.1),(.int .i64 x.2.2.2.1.2.2.2.2.1),(.int .i64 x.2.2.2.1.2.2.2.2.2.1),(.bool x.2.2.2.1.2.2.2.2.2.2.1),(.int .i64 x.2.2.2.1.2.2.2.2.2.2.2)]),(.agg [1,1,1,1,1,1,1,1] [(.int .u8 x.2.2.2.2.1.1),(.int .i64 x.2.2.2.2.1.2.1),(.int .i64 x.2.2.2.2.1.2.2.1),(.int .i64 x.2.2.2.2.1.2.2.2.1),(.int .i64 x.2.2.2.2.1.2.2.2.2.1),(.int .i64 x.2.2.2.2.1.2.2.2.2.2.1),(.bool x.2.2.2.2.1.2.2.2.2.2.2.1),(.int .i64 x.2.2.2.2.1.2.2.2.2.2.2.2)]),(.int .u8 x.2.2.2.2.2.1),(.int .i64 x.2.2.2.2.2.2)])
noncomputable def xq:aV:=.cell true 43 (.agg [1,1,1,1,1,1,1,1] [(.raw (.slice none 0 0)),(.raw (.slice none 0 0)),(.raw (.slice none 0 0)),(.int .u8 0),(.int .u8 0),(.int .i64 0),(.int .i64 0),(.bool false)])
noncomputable def gZ (x:DI):OM→Head
 | .h0 v1=>
 {fr:={id:=28,kind:=.top,T:=[.any,(.ptr 0 []),(.ptr 1 []),(.ptr 2 []),(.int .i64 x.2.2.1),(.gf (.int .i64) v1),(.int .i64 0)]++List.replicate 148 .any,items:=[.lp (ay [1,1,1,0,1,0,1,1,1,1,1,0,1,0,1,0,0] (ag Tryz.f28)),.a6 1,.code (ay [1,1,1,0,1,0,1,1,1,1,1,0,1,1] (ag Tryz.f28)),.a6 0,.code (ay [1,1,1,1] (ag Tryz.f28))],D:=[],base:=0},
  bm:=[],
  H:=[(D3 x),xq,xq]}
 | .h1 v1 v2 v29=>
 {fr:={id:=28,kind:=.top,T:=[.any,(.ptr 0 []),(.ptr 1 []),(.ptr 2 []),(.int .i64 x.2.2.1),(.gf (.int .i64) v1),(.int .i64 v2)]++List.replicate 148 .any,items:=[.lp (ay [1,1,1,0,1,0,1,1,1,1,1,0,1,0,1,0,0] (ag Tryz.f28)),.a6 1,.code (ay [1,1,1,0,1,0,1,1,1,1,1,0,1,1] (ag Tryz.f28)),.a6 0,.code (ay [1,1,1,1] (ag Tryz.f28))],D:=[],base:=0},
  bm:=[],
  H:=[(D3 x),xq,.cell true 43 (.agg [1,1,1,1,1,1,1,1] [(.gf (.int .i64) v29),(.raw (.slice none 0 0)),(.raw (.slice none 0 0)),(.int .u8 0),(.int .u8 0),(.int .i64 0),(.int .i64 0),(.bool false)])]}
noncomputable def zg:FuncId→Nat→Nat→Option Cut
 | 28,2,0=>some {tmps:=[1,2,3,4,5,6],loops:=[],dead:=[],bm:=[]}
 | _,_,_=>none
noncomputable def Gk (x:DI):aS:=gh (TC.kP fD) (lh x) (vX x)
def yc (x:DI):Prop:=∃ r,Ends (lh x) r (vX x)
noncomputable def n9:Spec:={eX:=(.bu bA),cB:=fD,n:=1,pre:=yc,f:=Gk}
noncomputable def oz:FuncId→Option Spec
 | 70=>some wj
 | 71=>some n0
 | 72=>some nZ
 | 74=>some jx
 | 75=>some wh
 | 76=>some zn
 | _=>none
theorem Jr:∀ f sp,oz f=some sp→ah aA f sp:=by
 intro f sp h
 unfold oz at h
 split at h
 ·cases h;exact VI
 ·cases h;exact NT
 ·cases h;exact NS
 ·cases h;exact LX
 ·cases h;exact VH
 ·cases h;exact Xm
 ·cases h
section
variable (W:cM) (Q:aS→Prop) (x:DI)
theorem Ua:run (env oz (fun _=>none) false (fun _ _=>none)) zg (bE n9 Q) W 100000 (bl 28 Tryz.f28 (ag Tryz.f28) (bp (.bu bA) x)) [] []=(vX x).wp (cw W Q (gZ x)):=by kernel_rfl
theorem NB (v1:List Int):run (env oz (fun _=>none) false (fun _ _=>none)) zg (bE n9 Q) W 100000 (gZ x (.h0 v1)).fr.enter (gZ x (.h0 v1)).bm (gZ x (.h0 v1)).H=(lh x (.h0 v1)).wp (cw W Q (gZ x)):=by kernel_rfl
theorem NA (v1:List Int) (v2:Int) (v29:List Int):run (env oz (fun _=>none) false (fun _ _=>none)) zg (bE n9 Q) W 100000 (gZ x (.h1 v1 v2 v29)).fr.enter (gZ x (.h1 v1 v2 v29)).bm (gZ x (.h1 v1 v2 v29)).H=(lh x (.h1 v1 v2 v29)).wp (cw W Q (gZ x)):=by kernel_rfl
end
theorem P0 (W:cM) (Q:aS→Prop) (x:DI):∀ j:OM,run (env oz (fun _=>none) false (fun _ _=>none)) zg (bE n9 Q) W 100000 (gZ x j).fr.enter (gZ x j).bm (gZ x j).H=(lh x j).wp (cw W Q (gZ x))
 | .h0 v1=>NB W Q x v1
 | .h1 v1 v2 v29=>NA W Q x v1 v2 v29
theorem Xs:ah aA 28 n9:=ah.env rfl (fun _ _ h=>h) (dF (E:=(env oz (fun _=>none) false (fun _ _=>none))) (sp:=n9) (valid _ _ _ _) ⟨fun f sp h=>ah.env rfl (fun _ _ h=>h) (Jr f sp h),fun f ps h=>nomatch h⟩ (fn:=Tryz.f28) (c:=(ag Tryz.f28)) (by kernel_rfl) (by kernel_rfl) vX lh gZ Ua P0 (fun _ h=>dI h))
end Go.bz.RL
end
section
namespace Go.bz.RM
open Go.bz.RL
open Go.bz
noncomputable section
def xS (x:DI) (t:Tr (OM⊕aS)):Prop:=∃ r,Ends (lh x) r t∧FF x r
variable {x:DI}
theorem sD {p:Prop} {t:Tr (OM⊕aS)} (hp:p) (h:xS x t):xS x (.aa p t):=by
 obtain ⟨r,h,f⟩:=h
 exact ⟨r,.aa p t hp h,f⟩
theorem uX {b:Bool} {t u:Tr (OM⊕aS)} (h1:b=true→xS x t) (h2:b=false→xS x u):xS x (.ite b t u):=by
 cases b
 ·obtain ⟨r,h,f⟩:=h2 rfl;exact ⟨r,.no t u h,f⟩
 ·obtain ⟨r,h,f⟩:=h1 rfl;exact ⟨r,.yes t u h,f⟩
theorem SR {r:aS} (h:FF x r):xS x (.ret (.inr r)):=⟨r,.ret,h⟩
theorem XI {j:OM} (h:xS x (lh x j)):xS x (.ret (.inl j)):=by
 obtain ⟨r,h,f⟩:=h
 exact ⟨r,.jump j h,f⟩
def Bw (x:DI):Prop:=x.2.2.1=1∧(x.1=1∨x.1=31)
theorem xO {f:aS} {R W:Int→Prop} {i o:Int} {k:Nat} (h:Fx f R W i o k) (hk:k≤50) (g:∀ f',Fx f' (fun c=>R c∨(Bw x∧gR (oA x) c)) W i o (k+1)→FF x f'):xS x (Eb x f.1 f.2):=by
 have hlr:=h.lr;have hlw:=h.lw;have hla:=h.la
 have no:¬(Bw x∧(oA x).1=1)→FF x (f.1,f.2):=fun hn=>g f ⟨fun c=>(h.rd c).trans ⟨.inl,fun e=>e.elim id fun e=>absurd ⟨e.1,e.2.1⟩ hn⟩,h.wr,h.fi,h.fo,by omega,by omega,by omega⟩
 have yes:Bw x→(oA x).1=1→FF x (eG (f.1,(oA x).2.1),f.2):=fun h1 h2=>by
  have p:=h.dV (g:=(eG (f.1,(oA x).2.1),f.2)) (n:=(oA x).2.1) (by omega) rfl rfl rfl
  refine g _ ⟨fun c=>(p.rd c).trans ?_,p.wr,h.fi,h.fo,p.lr,p.lw,p.la⟩
  constructor
  ·rintro (e | e)
   ·exact .inl e
   ·exact .inr ⟨h1,h2,e⟩
  ·rintro (e | e)
   ·exact .inl e
   ·exact .inr e.2.2
 have hp:=(h.pre (by omega) (oA x).2.1).1
 refine uX (fun a=>uX (fun b=>uX (fun c=>uX (fun d=>sD hp (SR (yes ?_ (al.1 d)))) fun d=>SR (no fun e=>bS.1 d e.2)) fun c=>SR (no ?_)) fun b=>uX (fun d=>sD hp (SR (yes ?_ (al.1 d)))) fun d=>SR (no fun e=>bS.1 d e.2)) fun a=>SR (no ?_)
 ·exact ⟨al.1 (by simpa using a),.inr (al.1 (by simpa using c))⟩
 ·rintro ⟨⟨_,e | e⟩,_⟩
  ·exact bS.1 (by simpa using b) e
  ·exact bS.1 (by simpa using c) e
 ·exact ⟨al.1 (by simpa using a),.inl (al.1 (by simpa using b))⟩
 ·rintro ⟨⟨e,_⟩,_⟩
  exact bS.1 (by simpa using a) e
theorem xT {W:Int→Prop} (hd:(1≤x.1∧x.1≤21∧x.1≠10∧x.1≠11)∨(30≤x.1∧x.1≠34)) (h:∀ c,W c↔gR (oA x) c) (c:Int):W c↔WW x c:=by
 rw [h]
 unfold WW
 constructor
 ·intro h;exact .inl ⟨by omega,h⟩
 ·rintro (h | h | h)
  ·exact h.2
  ·omega
  ·omega
theorem Kk {W:Int→Prop} (hd:x.1=28∨x.1=29∨x.1=34) (h:∀ c,¬ W c) (c:Int):W c↔WW x c:=by
 unfold WW
 constructor
 ·intro e;exact absurd e (h c)
 ·rintro (h | h | h)<;>omega
theorem Mz {p:Prop}:False∨p↔p:=⟨fun h=>h.elim False.elim id,.inr⟩
theorem Oy {n:Int} (hd:x.1=1∨x.1=32∨x.1=33∨x.1=35):xS x (V2 x n):=by
 have r1:=xN.reads (o:=oB x) n (by omega)
 have r2:=r1.2.writes (o:=oA x) x.2.2.1 (by omega)
 refine sD r1.1 (sD r2.1 (xO r2.2 (by omega) fun f' h=>?_))
 refine gF h (by omega) ?_ ?_ ?_ ?_ ?_ (xT (by omega) fun c=>Mz) ?_ (xB (by omega)).symm (k7 (by omega)).symm
 ·intro c hc;simp [hc]
 ·intro c hc;simp [hc]
 ·intro ht c hc
  have:Bw x:=by unfold TA rJ at ht;unfold Bw;omega
  exact .inr ⟨this,hc⟩
 ·intro _ c hc;simp [hc]
 ·intro c hc;unfold EX at hc;omega
 ·intro c hc
  rcases hc with ((h | h | h) | h) | h
  ·cases h
  all_goals simp [h]
theorem WT (hd:36≤x.1∧x.1≤39):xS x (vT x):=by
 refine sD (Cy x) (uX (fun hn=>?_) fun hn=>?_)
 ·have r1:=xN.reads (o:=oA x) x.2.2.1 (by omega)
  have r2:=r1.2.reads (o:=oB x) x.2.2.1 (by omega)
  have r3:=r2.2.writes (o:=oA x) x.2.2.1 (by omega)
  refine sD r1.1 (sD r2.1 (sD r3.1 (xO r3.2 (by omega) fun f' h=>?_)))
  refine gF h (by omega) ?_ ?_ ?_ ?_ ?_ (xT (by omega) fun c=>Mz) ?_ (xB (by omega)).symm (k7 (by omega)).symm
  ·intro c hc;simp [hc]
  ·intro c hc;simp [hc]
  ·intro _ c hc;simp [hc]
  ·intro _ c hc;simp [hc]
  ·intro c hc;unfold EX at hc;omega
  ·intro c hc
   rcases hc with (((h | h | h) | h | h) | h) | h
   ·cases h
   all_goals simp [h]
 ·have hn:sC x=true:=by simpa using hn
  obtain ⟨n1,n2,n3⟩:=wM hn
  have r3:=xN.writes (o:=oA x) x.2.2.1 (by omega)
  refine sD r3.1 (xO r3.2 (by omega) fun f' h=>?_)
  refine gF h (by omega) ?_ ?_ ?_ ?_ ?_ (xT (by omega) fun c=>Mz) ?_ (xB (by omega)).symm (k7 (by omega)).symm
  ·intro c hc;exact absurd hc (cZ (by omega) c)
  ·intro c hc;exact absurd hc (cZ (by omega) c)
  ·intro ht c hc;exfalso;unfold TA rJ at ht;omega
  ·intro ht c hc;exfalso;unfold TB rJ at ht;omega
  ·intro c hc;unfold EX at hc;omega
  ·intro c hc
   rcases hc with (h | h) | h
   ·cases h
   all_goals simp [h]
theorem XN (hd:x.1=28) (hB:(oB x).1≠2):xS x (.aa (fp (rA x f0)) (Eb x (cD (rA x f0)).1 (cD (rA x f0)).2)):=by
 have r1:=xN.reads (o:=oA x) x.2.2.1 (by omega)
 refine sD r1.1 (xO r1.2 (by omega) fun f' h=>?_)
 refine gF h (by omega) ?_ ?_ ?_ ?_ ?_ (Kk (by omega) fun c h=>h) ?_ (xB (by omega)).symm (k7 (by omega)).symm
 ·intro c hc;simp [hc]
 ·intro c hc;exact absurd hc (cZ hB c)
 ·intro _ c hc;simp [hc]
 ·intro ht;exfalso;unfold TB rJ at ht;omega
 ·intro c hc;unfold EX at hc;omega
 ·intro c hc
  rcases hc with (h | h | h) | h
  ·cases h
  all_goals simp [h]
theorem ON (h:29≤x.1∧x.1≤31):II x=mC x.2.1:=by unfold II;rw [if_neg (by omega),if_pos h]
theorem wE (c:Int):r6 c:=by
 show (qj c).ok
 simp [qj,Tr.ok]
theorem XM (hd:x.1=29) (hA:(oA x).1≠2) (hB:(oB x).1≠2):xS x (.aa (r6 x.2.1) (Eb x (iF f0 (mC x.2.1)).1 (iF f0 (mC x.2.1)).2)):=by
 refine sD (wE _) (xO (N2 xN _) (by omega) fun f' h=>?_)
 refine gF h (by omega) ?_ ?_ ?_ ?_ ?_ (Kk (by omega) fun c h=>h) ?_ (ON (by omega)).symm (k7 (by omega)).symm
 ·intro c hc;exact absurd hc (cZ hA c)
 ·intro c hc;exact absurd hc (cZ hB c)
 ·intro ht;exfalso;unfold TA rJ at ht;omega
 ·intro ht;exfalso;unfold TB rJ at ht;omega
 ·intro c hc;unfold EX at hc;omega
 ·intro c hc
  rcases hc with h | h
  ·cases h
  all_goals simp [h]
theorem XL (hd:x.1=30):xS x (.aa (fp (rA x f0)) (.aa (fp (rB x (cD (rA x f0)))) (.aa (iQ (rA x (cD (rB x (cD (rA x f0)))))) (.aa (r6 x.2.1) (Eb x (iF (WD x) (mC x.2.1)).1 (iF (WD x) (mC x.2.1)).2))))):=by
 have r1:=xN.reads (o:=oA x) x.2.2.1 (by omega)
 have r2:=r1.2.reads (o:=oB x) x.2.2.1 (by omega)
 have r3:=r2.2.writes (o:=oA x) x.2.2.1 (by omega)
 refine sD r1.1 (sD r2.1 (sD r3.1 (sD (wE _) (xO (N2 r3.2 _) (by omega) fun f' h=>?_))))
 refine gF h (by omega) ?_ ?_ ?_ ?_ ?_ (xT (by omega) fun c=>Mz) ?_ (ON (by omega)).symm (k7 (by omega)).symm
 ·intro c hc;simp [hc]
 ·intro c hc;simp [hc]
 ·intro _ c hc;simp [hc]
 ·intro _ c hc;simp [hc]
 ·intro c hc;unfold EX at hc;omega
 ·intro c hc
  rcases hc with (((h | h | h) | h | h) | h) | h
  ·cases h
  all_goals simp [h]
theorem XK (hd:x.1=31) (hB:(oB x).1≠2):xS x (.aa (iQ (rA x f0)) (.aa (r6 x.2.1) (Eb x (iF (WC x) (mC x.2.1)).1 (iF (WC x) (mC x.2.1)).2))):=by
 have r3:=xN.writes (o:=oA x) x.2.2.1 (by omega)
 refine sD r3.1 (sD (wE _) (xO (N2 r3.2 _) (by omega) fun f' h=>?_))
 refine gF h (by omega) ?_ ?_ ?_ ?_ ?_ (xT (by omega) fun c=>Mz) ?_ (ON (by omega)).symm (k7 (by omega)).symm
 ·intro c hc;simp [hc]
 ·intro c hc;exact absurd hc (cZ hB c)
 ·intro ht c hc
  have:Bw x:=by unfold TA rJ at ht;unfold Bw;omega
  exact .inr ⟨this,hc⟩
 ·intro ht;exfalso;unfold TB rJ at ht;omega
 ·intro c hc;unfold EX at hc;omega
 ·intro c hc
  rcases hc with (h | h) | h
  ·cases h
  all_goals simp [h]
theorem XJ (hd:x.1=34) (hA:(oA x).1≠2) (hB:(oB x).1≠2):xS x (Eb x f0.1 f0.2):=by
 refine xO xN (by omega) fun f' h=>?_
 refine gF h (by omega) ?_ ?_ ?_ ?_ ?_ (Kk (by omega) fun c h=>h) ?_ (xB (by omega)).symm (k7 (by omega)).symm
 ·intro c hc;exact absurd hc (cZ hA c)
 ·intro c hc;exact absurd hc (cZ hB c)
 ·intro ht;exfalso;unfold TA rJ at ht;omega
 ·intro ht;exfalso;unfold TB rJ at ht;omega
 ·intro c hc;unfold EX at hc;omega
 ·intro c hc
  rcases hc with h | h
  ·cases h
  all_goals simp [h]
theorem XH (hd:x.1=2) (hA:(oA x).1≠2):xS x (WO x (ja [] (eh (oB x)))):=by
 have hu:=l7 (oB x)
 have hl:=kH (eh (oB x)) []
 have hm:∀ c,c∈ja [] (eh (oB x))↔mR (oB x) c:=fun c=>by rw [pD];simp [mR]
 have pk:=iq (l:=[]) (n:=(oA x).2.1) (by simp)
 have fin:∀ {W:Int→Prop} {f:aS},(∀ c,W c↔gR (oA x) c)→Fx f (fun c=>mR (oB x) c∨(Bw x∧gR (oA x) c)) W 0 0 (4+1)→FF x f:=fun hw h=>by
  refine gF h (by omega) ?_ ?_ ?_ ?_ ?_ (xT (by omega) hw) ?_ (xB (by omega)).symm (k7 (by omega)).symm
  ·intro c hc;exact absurd hc (cZ hA c)
  ·intro c hc;simp [hc]
  ·intro ht;exfalso;unfold TA rJ at ht;omega
  ·intro ht;exfalso;unfold TB rJ at ht;omega
  ·intro c hc;unfold EX at hc;omega
  ·intro c hc
   rcases hc with h | h
   all_goals simp [h]
 simp only [List.length_nil] at hl
 refine uX (fun a=>sD pk.1 ?_) fun a=>?_
 ·have a:(oA x).1=1:=al.1 a
  rw [pk.2]
  refine xO (f:=(ja [] (eh (oB x)),(dV false [] (oA x).2.1,([],(0,(0,(0,(0,false)))))))) (R:=mR (oB x)) (W:=gR (oA x)) (i:=0) (o:=0) (k:=4) ⟨hm,fun c=>?_,rfl,rfl,by show (ja _ _).length≤4;omega,by show (1:Nat)≤4;decide,Nat.zero_le _⟩ (by omega) fun f' h=>fin (fun _=>.rfl) h
  show c∈[(oA x).2.1]↔_
  simp [gR,a]
 ·have a:(oA x).1≠1:=bS.1 a
  refine xO (f:=(ja [] (eh (oB x)),([],([],(0,(0,(0,(0,false)))))))) (R:=mR (oB x)) (W:=gR (oA x)) (i:=0) (o:=0) (k:=4) ⟨hm,fun c=>?_,rfl,rfl,by show (ja _ _).length≤4;omega,Nat.zero_le _,Nat.zero_le _⟩ (by omega) fun f' h=>fin (fun _=>.rfl) h
  show c∈([]:List Int)↔_
  simp [gR,a]
theorem PD {u:List Int} (hu:u.length≤2):∀ (j i:Nat) (a:List Int),j+i=u.length→a.length≤100+i→xS x (WO x (ja a (u.drop i)))→xS x (lh x (.h1 u (i:Int) a))
 | 0,i,a,hj,ha,h=>by
  have hi:i=u.length:=by omega
  subst hi
  rw [List.drop_length] at h
  exact uX (fun e=>by rw [bU] at e;omega) fun _=>h
 | j+1,i,a,hj,ha,h=>by
  have hi:i < u.length:=by omega
  have e:aK .i64 (i:Int) 1=((i+1:Nat):Int):=by rw [dH (by omega) (by omega)];omega
  have ea:eZ (.int .i64) u (i:Int).toNat=u[i]:=by rw [Int.toNat_natCast];exact dU (c:=.int .i64) hi
  have pa:=iq (l:=a) (n:=u[i]) (by omega)
  have la:=jU a u[i]
  rw [List.drop_eq_getElem_cons hi] at h
  have ih:=PD hu j (i+1) (dV false a u[i]) (by omega) (by omega) h
  refine uX (fun _=>sD (by omega) (sD (by omega) ?_)) fun e=>by rw [dY] at e;omega
  rw [ea,e]
  refine sD pa.1 (XI ?_)
  rw [pa.2]
  exact ih
theorem YO (hd:x.1=2) (hA:(oA x).1≠2):xS x (.aa (Cw (oB x)) (.ret (.inl (.h0 (Mm (oB x)))))):=by
 have hu:=GA (oB x)
 have hl:=l7 (oB x)
 have h:=XH hd hA
 refine sD hu.1 (XI ?_)
 rw [hu.2]
 generalize eh (oB x)=u at h hl
 cases u with
 | nil=>exact uX (fun e=>by rw [bU] at e;exact absurd e (by decide)) fun _=>h
 | cons b t=>
  have pa:=iq (l:=[]) (n:=b) (by simp)
  refine uX (fun _=>sD (by decide) (sD (by show (0:Int) < ((t.length+1:Nat):Int);omega) (sD pa.1 (XI ?_)))) fun e=>by rw [dY,List.length_cons] at e;omega
  have:=PD (x:=x) hl t.length 1 (dV false [] b) rfl (by show (1:Nat)≤_;omega) h
  rw [show eG ([],eZ (.int .i64) (b :: t) 0)=dV false [] b from pa.2]
  exact this
end
end Go.bz.RM
end
section
namespace Go.bz.RL
open Go.Proofs Go.bz
noncomputable def wc (x:DI):Tr aS:=
 .aa (LD x)<|
 .ite (!(Bq x).2) (
 .aa (LC x)<|
 .ite (!(DJ x).2) (
 .aa (G0 x)<|
 .ite (!(Bp x).2) (.aa (yc x) (eT x (Gk x))) (eT x (Bp x).1)) (
 .ite (!(DJ x).2) (.aa (yc x) (eT x (Gk x))) (eT x (DJ x).1))) (
 .ite (!(Bq x).2) (
 .aa (G0 x)<|
 .ite (!(Bp x).2) (.aa (yc x) (eT x (Gk x))) (eT x (Bp x).1)) (
 .ite (!(Bq x).2) (.aa (yc x) (eT x (Gk x))) (eT x (Bq x).1)))
noncomputable def Gl (x:DI):aS:=(wc x).val
def LK (x:DI):Prop:=(wc x).ok
noncomputable def zD:Spec:={eX:=(.bu bA),cB:=fD,n:=1,pre:=LK,f:=Gl}
noncomputable def Ba:FuncId→Option Spec
 | 25=>some zw
 | 26=>some zu
 | 27=>some zt
 | 28=>some n9
 | _=>none
theorem JC:∀ f sp,Ba f=some sp→ah aA f sp:=by
 intro f sp h
 unfold Ba at h
 split at h
 ·cases h;exact Xv
 ·cases h;exact Xu
 ·cases h;exact Xt
 ·cases h;exact Xs
 ·cases h
section
variable (W:cM) (Q:aS→Prop) (x:DI)
theorem Ul:run (env Ba (fun _=>none) false (fun _ _=>none)) (fun _ _ _=>none) (bE zD Q) W 100000 (bl 12 Tryz.f12 (ag Tryz.f12) (bp (.bu bA) x)) [] []=(wc x).wp Q:=by kernel_rfl
end
theorem XA:ah aA 12 zD:=ah.env rfl (fun _ _ h=>h) (aG (E:=(env Ba (fun _=>none) false (fun _ _=>none))) (sp:=zD) (valid _ _ _ _) ⟨fun f sp h=>ah.env rfl (fun _ _ h=>h) (JC f sp h),fun f ps h=>nomatch h⟩ (fn:=Tryz.f12) (c:=(ag Tryz.f12)) (by kernel_rfl) (by kernel_rfl) wc Ul (fun _ h=>Tr.an h))
inductive J4 where
 | h0 (v0:aq) (v1:Int) (v2:aS) (v10:kE) (v11:kE)
 | h1 (v0:aq) (v1:Int) (v2:aS) (v10:kE) (v11:kE)
 | h2 (v0:aq) (v1:Int) (v2:Int) (v3:aS) (v11:kE) (v12:kE) (v13:kE) (v14:ao)
 | h3 (v0:aq) (v1:Int) (v2:Int) (v3:Int) (v4:aS) (v12:kE) (v13:kE) (v14:kE) (v15:ao) (v16:HX)
noncomputable def vN (x:dQ):Tr (J4⊕Bool):=
 .aa (EA x)<|
 .ite (dG (Hv x).2 0) (
 .aa (NO ())<|
 .ret (.inr (WR ()))) (
 .aa (LK x.1)<|
 .ret (.inl (.h0 (Hv x).1 0 (Gl x.1) (List.replicate 16 false) (List.replicate 16 false))))
noncomputable def ct (_x:dQ):J4→Tr (J4⊕Bool)
 | .h0 v0 v1 v2 v10 v11=>
 .ite (cF v1 (v2.1.length:Int)) (
 .aa ((0:Int)≤v1)<|
 .aa (v1 < (v2.1.length:Int))<|
 .aa ((16:Int)≠0)<|
 .aa ((0:Int)≤v1)<|
 .aa (v1 < (v2.1.length:Int))<|
 .aa ((16:Int)≠0)<|
 let y0:Int:=(eZ (.int .i64) v2.1 (v1).toNat)
 let y1:Int:=(fJ .i64 y0 16)
 .aa ((0:Int)≤y1)<|
 .aa ((y1:Int) < 16)<|
 let y2:Nat:=(y1).toNat
 .aa ((y2:Nat) < 16)<|
 .ite ((eZ .bool v10 y2)==false) (
 .aa ((0:Int)≤v1)<|
 .aa (v1 < (v2.1.length:Int))<|
 .aa ((0:Int)≤y1)<|
 .aa ((y1:Int) < 16)<|
 .aa ((y2:Nat) < 16)<|
 let y3:Int:=(aK .i64 v1 1)
 .ret (.inl (.h0 v0 y3 v2 (v10.set y2 (cF y0 16)) v11))) (
 .aa ((0:Int)≤y1)<|
 .aa ((y1:Int) < 16)<|
 .aa ((y2:Nat) < 16)<|
 let y4:Int:=(aK .i64 v1 1)
 .ret (.inl (.h0 v0 y4 v2 (v10.set y2 true) v11)))) (
 .ret (.inl (.h1 v0 0 v2 v10 v11)))
 | .h1 v0 v1 v2 v10 v11=>
 let y0:ao:=v2.2.1
 .ite (cF v1 (y0.length:Int)) (
 .aa ((0:Int)≤v1)<|
 .aa (v1 < (y0.length:Int))<|
 .aa ((16:Int)≠0)<|
 .aa ((0:Int)≤v1)<|
 .aa (v1 < (y0.length:Int))<|
 .aa ((16:Int)≠0)<|
 let y1:Int:=(eZ (.int .i64) y0 (v1).toNat)
 let y2:Int:=(fJ .i64 y1 16)
 .aa ((0:Int)≤y2)<|
 .aa ((y2:Int) < 16)<|
 let y3:Nat:=(y2).toNat
 .aa ((y3:Nat) < 16)<|
 .ite ((eZ .bool v11 y3)==false) (
 .aa ((0:Int)≤v1)<|
 .aa (v1 < (y0.length:Int))<|
 .aa ((0:Int)≤y2)<|
 .aa ((y2:Int) < 16)<|
 .aa ((y3:Nat) < 16)<|
 let y4:Int:=(aK .i64 v1 1)
 .ret (.inl (.h1 v0 y4 v2 v10 (v11.set y3 (cF y1 16))))) (
 .aa ((0:Int)≤y2)<|
 .aa ((y2:Int) < 16)<|
 .aa ((y3:Nat) < 16)<|
 let y5:Int:=(aK .i64 v1 1)
 .ret (.inl (.h1 v0 y5 v2 v10 (v11.set y3 true))))) (
 .aa ((0:Nat) < 5)<|
 .aa ((1:Nat) < 5)<|
 .aa ((2:Nat) < 5)<|
 .aa ((3:Nat) < 5)<|
 .aa ((4:Nat) < 5)<|
 .ret (.inl (.h2 v0 0 0 v2 v10 v11 (List.replicate 16 false) [1,2,4,8,16])))
 | .h2 v0 v1 v2 v3 v11 v12 v13 v14=>
 .ite (cF v2 (v0.length:Int)) (
 .aa ((0:Int)≤v2)<|
 .aa (v2 < (v0.length:Int))<|
 .aa ((0:Int)≤v2)<|
 .aa (v2 < (v0.length:Int))<|
 .aa ((0:Int)≤v2)<|
 .aa (v2 < (v0.length:Int))<|
 .aa ((0:Nat) < 3)<|
 .aa ((1:Nat) < 3)<|
 .aa ((2:Nat) < 3)<|
 let y0:(aF×(aF×(aF×DI))):=(eZ aZ v0 (v2).toNat).2.2.2
 let y1:=y0.2
 .ret (.inl (.h3 v0 v1 v2 0 v3 v11 v12 v13 v14 [y0.1,y1.1,y1.2.1]))) (
 .ite ((uV v13 v12)==true) (
 .ite ((ak v1 v3.2.2.2.2.1)==true) (
 .aa (NO ())<|
 .ret (.inr (WR ()))) (
 .ret (.inr false))) (
 .ret (.inr false)))
 | .h3 v0 v1 v2 v3 v4 v12 v13 v14 v15 v16=>
 .ite (cF v3 3) (
 .aa ((0:Int)≤v3)<|
 .aa ((v3:Int) < 3)<|
 .aa (((v3).toNat:Nat) < 3)<|
 .aa ((0:Int)≤v3)<|
 .aa ((v3:Int) < 3)<|
 .aa (((v3).toNat:Nat) < 3)<|
 let y0:aF:=(eZ ar v16 (v3).toNat)
 .ite (y0.1==false) (
 let y1:=y0.2.1
 .ite ((cF y1 0)==false) (
 .ite (cF 20 y1) (
 let y2:Int:=(aK .i64 v3 1)
 .ret (.inl (.h3 v0 v1 v2 y2 v4 v12 v13 v14 v15 v16))) (
 .ite ((cF y1 16)==true) (
 .aa ((0:Int)≤y1)<|
 .aa ((y1:Int) < 16)<|
 let y3:Nat:=(y1).toNat
 .aa ((y3:Nat) < 16)<|
 .ite ((!(eZ .bool v12 y3))==false) (
 let y4:=((cj 16 y1)==true)
 .ite y4 (
 let y5:Int:=(iu .i64 y1 16)
 .aa ((0:Int)≤y5)<|
 .aa ((y5:Int) < 5)<|
 let y6:Nat:=(y5).toNat
 .aa ((y6:Nat) < 5)<|
 let y7:=(ak (cP .u8 v4.2.2.2.1 (eZ (.int .u8) v15 y6)) 0)
 .ite y7 (
 .ret (.inr false)) (
 let y8:Int:=(aK .i64 v3 1)
 .ret (.inl (.h3 v0 v1 v2 y8 v4 v12 v13 v14 v15 v16)))) (
 let y9:Int:=(aK .i64 v3 1)
 .ret (.inl (.h3 v0 v1 v2 y9 v4 v12 v13 v14 v15 v16)))) (
 .ret (.inr false))) (
 let y10:=((cj 16 y1)==true)
 .ite y10 (
 let y11:Int:=(iu .i64 y1 16)
 .aa ((0:Int)≤y11)<|
 .aa ((y11:Int) < 5)<|
 let y12:Nat:=(y11).toNat
 .aa ((y12:Nat) < 5)<|
 let y13:=(ak (cP .u8 v4.2.2.2.1 (eZ (.int .u8) v15 y12)) 0)
 .ite y13 (
 .ret (.inr false)) (
 let y14:Int:=(aK .i64 v3 1)
 .ret (.inl (.h3 v0 v1 v2 y14 v4 v12 v13 v14 v15 v16)))) (
 let y15:Int:=(aK .i64 v3 1)
 .ret (.inl (.h3 v0 v1 v2 y15 v4 v12 v13 v14 v15 v16)))))) (
 let y16:Int:=(aK .i64 v3 1)
 .ret (.inl (.h3 v0 v1 v2 y16 v4 v12 v13 v14 v15 v16)))) (
 let y17:Int:=(aK .i64 v3 1)
 .ret (.inl (.h3 v0 v1 v2 y17 v4 v12 v13 v14 v15 v16)))) (
 .aa ((0:Int)≤v2)<|
 .aa (v2 < (v0.length:Int))<|
 let y18:bt:=(eZ aZ v0 (v2).toNat)
 let y19:=y18.1
 .aa (LJ y19)<|
 .ite ((!(pM y19))==false) (
 .aa ((0:Int)≤v2)<|
 .aa (v2 < (v0.length:Int))<|
 let y20:=y18.2.2.1
 .ite ((cF y20 0)==false) (
 .aa ((0:Int)≤v2)<|
 .aa (v2 < (v0.length:Int))<|
 .ite (cF 20 y20) (
 let y21:Int:=(aK .i64 v2 1)
 .ret (.inl (.h2 v0 v1 y21 v4 v12 v13 v14 v15))) (
 .aa ((0:Int)≤v2)<|
 .aa (v2 < (v0.length:Int))<|
 .ite (cF y20 16) (
 .aa ((0:Int)≤v2)<|
 .aa (v2 < (v0.length:Int))<|
 .aa ((0:Int)≤y20)<|
 .aa ((y20:Int) < 16)<|
 let y22:Nat:=(y20).toNat
 .aa ((y22:Nat) < 16)<|
 let y23:Int:=(aK .i64 v2 1)
 .ret (.inl (.h2 v0 v1 y23 v4 v12 v13 (v14.set y22 true) v15))) (
 .aa ((0:Int)≤v2)<|
 .aa (v2 < (v0.length:Int))<|
 let y24:Int:=(iu .i64 y20 16)
 .aa ((0:Int)≤y24)<|
 .aa ((y24:Int) < 5)<|
 let y25:Nat:=(y24).toNat
 .aa ((y25:Nat) < 5)<|
 let y26:Int:=(aK .i64 v2 1)
 .ret (.inl (.h2 v0 (NY .u8 v1 (eZ (.int .u8) v15 y25)) y26 v4 v12 v13 v14 v15))))) (
 let y27:Int:=(aK .i64 v2 1)
 .ret (.inl (.h2 v0 v1 y27 v4 v12 v13 v14 v15)))) (
 let y28:Int:=(aK .i64 v2 1)
 .ret (.inl (.h2 v0 v1 y28 v4 v12 v13 v14 v15))))
noncomputable def gd (_x:dQ):J4→Head
 | .h0 v0 v1 v2 v10 v11=>
 {fr:={id:=4,kind:=.top,T:=List.replicate 5 .any++[(.gf aZ v0),.any,(.ptr 0 []),(.ptr 1 []),(.ptr 2 []),(.int .i64 v1)]++List.replicate 201 .any,items:=[.lp (ay [1,1,1,1,1,0,1,0,0] (ag Tryz.f4)),.a6 0,.code (ay [1,1,1,1,1,1] (ag Tryz.f4))],D:=[],base:=0},
  bm:=[],
  H:=[.cell true 43 (.agg [1,1,1,1,1,1,1,1] [(.gf (.int .i64) v2.1),(.gf (.int .i64) v2.2.1),(.gf (.int .i64) v2.2.2.1),(.int .u8 v2.2.2.2.1),(.int .u8 v2.2.2.2.2.1),(.int .i64 v2.2.2.2.2.2.1),(.int .i64 v2.2.2.2.2.2.2.1),(.bool v2.2.2.2.2.2.2.2)]),.cell true 45 (.arr 16 .bool v10),.cell true 45 (.arr 16 .bool v11)]}
 | .h1 v0 v1 v2 v10 v11=>
 {fr:={id:=4,kind:=.top,T:=List.replicate 5 .any++[(.gf aZ v0),.any,(.ptr 0 []),(.ptr 1 []),(.ptr 2 []),.any,(.int .i64 v1)]++List.replicate 200 .any,items:=[.lp (ay [1,1,1,1,1,1,0,1,0,0] (ag Tryz.f4)),.a6 2,.code (ay [1,1,1,1,1,1,1] (ag Tryz.f4))],D:=[],base:=0},
  bm:=[],
  H:=[.cell true 43 (.agg [1,1,1,1,1,1,1,1] [(.gf (.int .i64) v2.1),(.gf (.int .i64) v2.2.1),(.gf (.int .i64) v2.2.2.1),(.int .u8 v2.2.2.2.1),(.int .u8 v2.2.2.2.2.1),(.int .i64 v2.2.2.2.2.2.1),(.int .i64 v2.2.2.2.2.2.2.1),(.bool v2.2.2.2.2.2.2.2)]),.cell true 45 (.arr 16 .bool v10),.cell true 45 (.arr 16 .bool v11)]}
 | .h2 v0 v1 v2 v3 v11 v12 v13 v14=>
 {fr:={id:=4,kind:=.top,T:=List.replicate 5 .any++[(.gf aZ v0),.any,(.ptr 0 []),(.ptr 1 []),(.ptr 2 []),.any,.any,(.ptr 3 []),(.int .u8 v1),(.ptr 4 []),(.int .i64 v2)]++List.replicate 196 .any,items:=[.lp (ay [1,1,1,1,1,1,1,1,1,1,0,1,0,0] (ag Tryz.f4)),.a6 4,.code (ay [1,1,1,1,1,1,1,1,1,1,1] (ag Tryz.f4))],D:=[],base:=0},
  bm:=[],
  H:=[.cell true 43 (.agg [1,1,1,1,1,1,1,1] [(.gf (.int .i64) v3.1),(.gf (.int .i64) v3.2.1),(.gf (.int .i64) v3.2.2.1),(.int .u8 v3.2.2.2.1),(.int .u8 v3.2.2.2.2.1),(.int .i64 v3.2.2.2.2.2.1),(.int .i64 v3.2.2.2.2.2.2.1),(.bool v3.2.2.2.2.2.2.2)]),.cell true 45 (.arr 16 .bool v11),.cell true 45 (.arr 16 .bool v12),.cell true 45 (.arr 16 .bool v13),.cell true 46 (.arr 5 (.int .u8) v14)]}
 | .h3 v0 v1 v2 v3 v4 v12 v13 v14 v15 v16=>
 {fr:={id:=4,kind:=.top,T:=List.replicate 5 .any++[(.gf aZ v0),.any,(.ptr 0 []),(.ptr 1 []),(.ptr 2 []),.any,.any,(.ptr 3 []),(.int .u8 v1),(.ptr 4 []),(.int .i64 v2),(.ptr 5 []),(.int .i64 v3)]++List.replicate 194 .any,items:=[.lp (ay [1,1,1,1,1,1,1,1,1,1,0,1,0,0,1,0,0,1,0,1,0,0] (ag Tryz.f4)),.a6 6,.code (ay [1,1,1,1,1,1,1,1,1,1,0,1,0,0,1,0,0,1,1] (ag Tryz.f4)),.a6 5,.code (ay [1,1,1,1,1,1,1,1,1,1,0,1,0,0,1,1] (ag Tryz.f4)),.lp (ay [1,1,1,1,1,1,1,1,1,1,0,1,0,0] (ag Tryz.f4)),.a6 4,.code (ay [1,1,1,1,1,1,1,1,1,1,1] (ag Tryz.f4))],D:=[],base:=0},
  bm:=[],
  H:=[.cell true 43 (.agg [1,1,1,1,1,1,1,1] [(.gf (.int .i64) v4.1),(.gf (.int .i64) v4.2.1),(.gf (.int .i64) v4.2.2.1),(.int .u8 v4.2.2.2.1),(.int .u8 v4.2.2.2.2.1),(.int .i64 v4.2.2.2.2.2.1),(.int .i64 v4.2.2.2.2.2.2.1),(.bool v4.2.2.2.2.2.2.2)]),.cell true 45 (.arr 16 .bool v12),.cell true 45 (.arr 16 .bool v13),.cell true 45 (.arr 16 .bool v14),.cell true 46 (.arr 5 (.int .u8) v15),.cell true 47 (.arr 3 ar v16)]}
noncomputable def xZ:FuncId→Nat→Nat→Option Cut
 | 4,0,0=>some {tmps:=[5,7,8,9,10],loops:=[],dead:=[],bm:=[]}
 | 4,4,0=>some {tmps:=[5,7,8,9,11],loops:=[],dead:=[],bm:=[]}
 | 4,8,0=>some {tmps:=[5,7,8,9,12,13,14,15],loops:=[],dead:=[],bm:=[]}
 | 4,12,0=>some {tmps:=[5,7,8,9,12,13,14,15,16,17],loops:=[],dead:=[],bm:=[]}
 | _,_,_=>none
noncomputable def XF (x:dQ):Bool:=gh (TC.kP .bool) (ct x) (vN x)
def Va (x:dQ):Prop:=∃ r,Ends (ct x) r (vN x)
noncomputable def rY:Spec:={eX:=(.st bA (.bu (.int .u64))),cB:=.bool,n:=1,pre:=Va,f:=XF}
noncomputable def pq:FuncId→Option Spec
 | 5=>some Cb
 | 7=>some GI
 | 12=>some zD
 | 13=>some zC
 | _=>none
theorem L7:∀ f sp,pq f=some sp→ah aA f sp:=by
 intro f sp h
 unfold pq at h
 split at h
 ·cases h;exact X9
 ·cases h;exact YL
 ·cases h;exact XA
 ·cases h;exact Xz
 ·cases h
section
variable (W:cM) (Q:Bool→Prop) (x:dQ)
theorem W3:run (env pq (fun _=>none) false (fun _ _=>none)) xZ (bE rY Q) W 100000 (bl 4 Tryz.f4 (ag Tryz.f4) (bp (.st bA (.bu (.int .u64))) x)) [] []=(vN x).wp (cw W Q (gd x)):=by kernel_rfl
theorem Qa (v0:aq) (v1:Int) (v2:aS) (v10:kE) (v11:kE):run (env pq (fun _=>none) false (fun _ _=>none)) xZ (bE rY Q) W 100000 (gd x (.h0 v0 v1 v2 v10 v11)).fr.enter (gd x (.h0 v0 v1 v2 v10 v11)).bm (gd x (.h0 v0 v1 v2 v10 v11)).H=(ct x (.h0 v0 v1 v2 v10 v11)).wp (cw W Q (gd x)):=by kernel_rfl
theorem P9 (v0:aq) (v1:Int) (v2:aS) (v10:kE) (v11:kE):run (env pq (fun _=>none) false (fun _ _=>none)) xZ (bE rY Q) W 100000 (gd x (.h1 v0 v1 v2 v10 v11)).fr.enter (gd x (.h1 v0 v1 v2 v10 v11)).bm (gd x (.h1 v0 v1 v2 v10 v11)).H=(ct x (.h1 v0 v1 v2 v10 v11)).wp (cw W Q (gd x)):=by kernel_rfl
theorem P8 (v0:aq) (v1 v2:Int) (v3:aS) (v11:kE) (v12:kE) (v13:kE) (v14:List Int):run (env pq (fun _=>none) false (fun _ _=>none)) xZ (bE rY Q) W 100000 (gd x (.h2 v0 v1 v2 v3 v11 v12 v13 v14)).fr.enter (gd x (.h2 v0 v1 v2 v3 v11 v12 v13 v14)).bm (gd x (.h2 v0 v1 v2 v3 v11 v12 v13 v14)).H=(ct x (.h2 v0 v1 v2 v3 v11 v12 v13 v14)).wp (cw W Q (gd x)):=by kernel_rfl
theorem P7 (v0:aq) (v1 v2 v3:Int) (v4:aS) (v12:kE) (v13:kE) (v14:kE) (v15:List Int) (v16:HX):run (env pq (fun _=>none) false (fun _ _=>none)) xZ (bE rY Q) W 100000 (gd x (.h3 v0 v1 v2 v3 v4 v12 v13 v14 v15 v16)).fr.enter (gd x (.h3 v0 v1 v2 v3 v4 v12 v13 v14 v15 v16)).bm (gd x (.h3 v0 v1 v2 v3 v4 v12 v13 v14 v15 v16)).H=(ct x (.h3 v0 v1 v2 v3 v4 v12 v13 v14 v15 v16)).wp (cw W Q (gd x)):=by kernel_rfl
end
theorem S5 (W:cM) (Q:Bool→Prop) (x:dQ):∀ j:J4,run (env pq (fun _=>none) false (fun _ _=>none)) xZ (bE rY Q) W 100000 (gd x j).fr.enter (gd x j).bm (gd x j).H=(ct x j).wp (cw W Q (gd x))
 | .h0 v0 v1 v2 v10 v11=>Qa W Q x v0 v1 v2 v10 v11
 | .h1 v0 v1 v2 v10 v11=>P9 W Q x v0 v1 v2 v10 v11
 | .h2 v0 v1 v2 v3 v11 v12 v13 v14=>P8 W Q x v0 v1 v2 v3 v11 v12 v13 v14
 | .h3 v0 v1 v2 v3 v4 v12 v13 v14 v15 v16=>P7 W Q x v0 v1 v2 v3 v4 v12 v13 v14 v15 v16
theorem YM:ah aA 4 rY:=ah.env rfl (fun _ _ h=>h) (dF (E:=(env pq (fun _=>none) false (fun _ _=>none))) (sp:=rY) (valid _ _ _ _) ⟨fun f sp h=>ah.env rfl (fun _ _ h=>h) (L7 f sp h),fun f ps h=>nomatch h⟩ (fn:=Tryz.f4) (c:=(ag Tryz.f4)) (by kernel_rfl) (by kernel_rfl) vN ct gd W3 S5 (fun _ h=>dI h))
end Go.bz.RL
end
section
namespace Go.bz.RM
open Go.bz.RL
open Go.bz
noncomputable section
def wV (a:Int):Prop:=0≤a∧a < 256
def zO:DO:=(0,(0,(0,(0,(0,(0,(false,0)))))))
theorem mq (i:Nat) (h:i < 1000000):aK .i64 (i:Int) 1=((i+1:Nat):Int):=by rw [dH]<;>omega
theorem Ga {a b:Nat} (h:a < b):cF (a:Int) (b:Int)=true:=by rw [bU];omega
theorem L9 {a b:Nat} (h:b≤a):cF (a:Int) (b:Int)=false:=by rw [dY];omega
end
end Go.bz.RM
end
section
namespace Go.bz.RM
open Go.bz.RL
open Go.bz
noncomputable section
theorem jH {b t e:Bool}:cond b t e=true↔(b=true∧t=true)∨(b=false∧e=true):=by cases b<;>simp
theorem Ho {d:Int}:aN .i64 (aN .i32 d)=d ↔ -2147483648≤d∧d < 2147483648:=by
 have e32:aN .i32 d=(d+2147483648) % 4294967296 - 2147483648:=by
  simp only [aN,IntKind.wrap,IntKind.signed,IntKind.bits];simp;omega
 rw [e32]
 unfold aN
 rw [wrap_i64]
 omega
theorem Ru {d:Int}:aN .i64 (aN .i8 d)=d ↔ -128≤d∧d < 128:=by
 have e8:aN .i8 d=(d+128) % 256 - 128:=by
  simp only [aN,IntKind.wrap,IntKind.signed,IntKind.bits];simp;omega
 rw [e8]
 unfold aN
 rw [wrap_i64]
 omega
theorem PR {d:Int}:aN .i64 (aN .u8 d)=d↔0≤d∧d < 256:=by
 unfold aN
 rw [wrap_i64,wrap_u8]
 omega
theorem lI {a b:DO}:dB CO a b=true↔a=b:=lJ (c:=CO) rfl
def BS (x:DO):Prop:=x=w9 x.2.1∧0≤x.2.1∧x.2.1 < 16
def xR (x:DO):Prop:=x.1=2∧x.2.1=0∧x.2.2.2.2.2.2.2=0 ∧ -2147483648≤x.2.2.2.2.2.1∧x.2.2.2.2.2.1 < 2147483648∧
 ((x.2.2.2.2.2.2.1=true∧x.2.2.1 = -1∧x.2.2.2.1 = -1∧x.2.2.2.2.1=1)∨
  (x.2.2.2.2.2.2.1=false ∧ -1≤x.2.2.1∧x.2.2.1 < 16 ∧ -1≤x.2.2.2.1∧x.2.2.2.1 < 16∧x.2.2.2.1≠4∧
   ((x.2.2.2.1 < 0∧x.2.2.2.2.1=1)∨(0≤x.2.2.2.1∧(x.2.2.2.2.1=1∨x.2.2.2.2.1=2∨x.2.2.2.2.1=4∨x.2.2.2.2.1=8)))))
theorem ma {x:DO} (h:BS x):x.1=1:=by rw [h.1];rfl
theorem En (x:DO):Hx x=true↔(x.2.2.2.1 < 0∧x.2.2.2.2.1=1)∨(0≤x.2.2.2.1∧(x.2.2.2.2.1=1∨x.2.2.2.2.1=2∨x.2.2.2.2.1=4∨x.2.2.2.2.1=8)):=by
 unfold Hx mN
 simp only [dp,dm,jH,bU,dY,al,beq_iff_eq,cJ]
 have key:∀ s:Int,1≤s→s≤8→(cP .i64 s (iu .i64 s 1)=0↔(s=1∨s=2∨s=4∨s=8)):=by
  intro s h1 h2
  have:s=1∨s=2∨s=3∨s=4∨s=5∨s=6∨s=7∨s=8:=by omega
  rcases this with rfl | rfl | rfl | rfl | rfl | rfl | rfl | rfl<;>decide
 constructor
 ·rintro (⟨a,b⟩ | ⟨a,b⟩)
  ·exact .inl ⟨a,b⟩
  ·rcases b with ⟨b1,⟨b2,b3⟩ | ⟨_,b3⟩⟩ | ⟨_,b3⟩
   ·exact .inr ⟨a,(key _ b1 b2).1 b3⟩
   ·cases b3
   ·cases b3
 ·rintro (⟨a,b⟩ | ⟨a,b⟩)
  ·exact .inl ⟨a,b⟩
  ·have h1:1≤x.2.2.2.2.1:=by omega
   have h2:x.2.2.2.2.1≤8:=by omega
   exact .inr ⟨a,.inl ⟨h1,.inl ⟨h2,(key _ h1 h2).2 b⟩⟩⟩
theorem kG (x:DO):iS x=true↔BS x∨xR x:=by
 unfold iS mP
 simp only [dp,cV,dm,jH,al,bS,dr,gy,bU,cJ,beq_iff_eq,beq_eq_false_iff_ne,ne_eq,Bool.not_eq_true,Bool.false_eq_true,and_false,or_false,lI,En,Ho,reduceCtorEq]
 constructor
 ·rintro (⟨a,b,c,d⟩ | ⟨a,b,c,d,e | ⟨⟨e1,e2⟩,f⟩⟩)
  ·exact .inl ⟨d,b,c⟩
  ·exact e.elim
  ·refine .inr ⟨b,c,d,e1,e2,?_⟩
   rcases f with ⟨g1,g2,g3,g4⟩ | ⟨g1,g2,g3,g4,g5,g6,g7⟩
   ·exact .inl ⟨g1,g2,g3,g4⟩
   ·exact .inr ⟨g1,g2,g3,g4,g5,g6,g7⟩
 ·rintro (h | ⟨b,c,d,e,e',f⟩)
  ·exact .inl ⟨ma h,h.2.1,h.2.2,h.1⟩
  ·refine .inr ⟨by omega,b,c,d,.inr ⟨⟨e,e'⟩,?_⟩⟩
   rcases f with ⟨g1,g2,g3,g4⟩ | ⟨g1,g2,g3,g4,g5,g6,g7⟩
   ·exact .inl ⟨g1,g2,g3,g4⟩
   ·exact .inr ⟨g1,g2,g3,g4,g5,g6,g7⟩
theorem rn (x):rp x:=by
 unfold rp mP
 have p100:∀ a,zK a:=fun a=>by unfold zK mN;simp only [gg,fS];simp
 have p60:∀ a,zL a:=fun _=>trivial
 simp only [gg,fX,fS,p60,p100]
 simp
theorem Eo (x:DO):bT x=true↔BS x∨xR x:=by
 have e35:∀ a,PH a=w9 a:=fun _=>rfl
 unfold bT yP
 simp only [dp,cV,dm,jH,al,bS,dr,gy,bU,dY,cJ,mv,beq_iff_eq,beq_eq_false_iff_ne,ne_eq,Bool.not_eq_true,Bool.false_eq_true,and_false,or_false,false_or,and_true,lI,e35,reduceCtorEq]
 constructor
 ·rintro (⟨a,b,c,d⟩ | ⟨a,b,c,d,e1,e2,f⟩)
  ·exact .inl ⟨b,c,d⟩
  ·refine .inr ⟨b,c,d,by omega,by omega,?_⟩
   rcases f with ⟨g1,g2,g3,g4⟩ | ⟨g1,g2,g3,g4,g5,g6,g7⟩
   ·exact .inl ⟨g1,g2,g3,g4⟩
   ·refine .inr ⟨g1,by omega,by omega,by omega,by omega,by omega,?_⟩
    omega
 ·rintro (h | ⟨b,c,d,e,e',f⟩)
  ·exact .inl ⟨ma h,h.1,h.2.1,h.2.2⟩
  ·refine .inr ⟨by omega,b,c,d,by omega,by omega,?_⟩
   rcases f with ⟨g1,g2,g3,g4⟩ | ⟨g1,g2,g3,g4,g5,g6,g7⟩
   ·exact .inl ⟨g1,g2,g3,g4⟩
   ·refine .inr ⟨g1,by omega,by omega,by omega,by omega,by omega,?_⟩
    omega
theorem Er (x:DO):bT x=iS x:=by
 have:=(Eo x).trans (kG x).symm
 cases h1:bT x<;>cases h2:iS x<;>simp_all
end
end Go.bz.RM
end
section
namespace Go.bz.RM
open Go.bz.RL
open Go.bz
noncomputable section
inductive Kd where | r | m | rm | i64 | i32 | i8 | u8 | x | xm | cl | no
def Lf (o:DO):Bool:=ak o.1 1&&iS o
def rF (o:DO):Bool:=ak o.1 2&&iS o
def xL (o:DO):Bool:=ak o.1 3&&dB CO o (Hw o.2.2.2.2.2.2.2)
def qf (o:DO):Bool:=ak o.1 1&&(cj 16 o.2.1&&(cF o.2.1 32&&dB CO o (1,(o.2.1,((-1),((-1),(0,(0,(false,0)))))))))
def Kd.b:Kd→DO→Bool
 | .r,o=>Lf o
 | .m,o=>rF o
 | .rm,o=>iS o
 | .i64,o=>xL o
 | .i32,o=>xL o&&(cj (-2147483648) o.2.2.2.2.2.2.2&&cF o.2.2.2.2.2.2.2 2147483648)
 | .i8,o=>xL o&&(cj (-128) o.2.2.2.2.2.2.2&&cF o.2.2.2.2.2.2.2 128)
 | .u8,o=>xL o&&(cj 0 o.2.2.2.2.2.2.2&&cF o.2.2.2.2.2.2.2 256)
 | .x,o=>qf o
 | .xm,o=>qf o||rF o
 | .cl,o=>dB CO o (w9 1)
 | .no,o=>dB CO o zO
def Kd.s:Kd→ByteArray
 | .r=>.mk #[114] | .m=>.mk #[109] | .rm=>.mk #[114,109] | .i8=>.mk #[105,56] | .u8=>.mk #[117,56] | .i32=>.mk #[105,51,50] | .i64=>.mk #[105,54,52]
 | .x=>.mk #[120] | .xm=>.mk #[120,109] | .cl=>.mk #[99,108] | .no=>.mk #[45]
theorem aY (o):eC o=Kd.b .rm o:=rfl
theorem bV (o):ez o=Kd.b .r o:=by
 unfold ez mZ Kd.b Lf;simp only [dp,cV,dm];cases ak o.1 1<;>rfl
theorem eS (o):pN o=Kd.b .m o:=by
 unfold pN mY Kd.b rF;simp only [dp,cV,dm];cases ak o.1 2<;>rfl
theorem pK (o):xa o=Kd.b .i64 o:=by
 unfold xa mO Kd.b xL;simp only [dp,cV,dm];cases ak o.1 3<;>rfl
theorem mJ {a b:Bool} (h:a=true↔b=true):a=b:=by cases a<;>cases b<;>simp_all
theorem hQ (o):DK o=Kd.b .i8 o:=by
 apply mJ
 unfold DK mX Kd.b
 simp only [dp,cV,dm,jH,al,Ru,Bool.and_eq_true,cJ,bU,pK,Kd.b,beq_iff_eq,Bool.false_eq_true,and_false,or_false]
theorem eP (o):eQ o=Kd.b .i32 o:=by
 apply mJ
 unfold eQ mW Kd.b
 simp only [dp,cV,dm,jH,al,Ho,Bool.and_eq_true,cJ,bU,pK,Kd.b,beq_iff_eq,Bool.false_eq_true,and_false,or_false]
theorem mE (o):sg o=Kd.b .u8 o:=by
 apply mJ
 unfold sg mS Kd.b
 simp only [dp,cV,dm,jH,al,PR,Bool.and_eq_true,cJ,bU,pK,Kd.b,beq_iff_eq,Bool.false_eq_true,and_false,or_false]
theorem mD (o):Ms o=Kd.b .cl o:=rfl
theorem ep (o):bH o=Kd.b .no o:=rfl
theorem Ws:∀ j:Fin 64,(15#64)[j.val]'(j.isLt)=decide (j.val < 4):=by decide
theorem SI {r:Int}:jZ .i64 r 15=16↔(∃ k:Nat,k < 16∧IntKind.wrap .i64 r=16+k):=by
 have e:jZ .i64 r 15=IntKind.wrap .i64 ((BitVec.ofInt 64 r &&& ~~~BitVec.ofInt 64 15).toNat:Nat):=rfl
 have hm:(~~~(BitVec.ofInt 64 15)) = ~~~(15#64):=rfl
 have hv:(BitVec.ofInt 64 r &&& ~~~(15#64)).toNat=(BitVec.ofInt 64 r).toNat / 16 * 16:=by
  have h1:(BitVec.ofInt 64 r &&& ~~~(15#64))=(BitVec.ofInt 64 r >>> 4) <<< 4:=by
   apply BitVec.eq_of_getElem_eq
   intro i hi
   simp only [BitVec.getElem_and,BitVec.getElem_not,BitVec.getElem_shiftLeft,BitVec.getElem_ushiftRight]
   have gO:(15#64)[i]=decide (i < 4):=Ws ⟨i,hi⟩
   rw [gO]
   by_cases h4:i < 4
   ·simp [h4]
   ·simp only [h4,decide_false,Bool.not_false,Bool.and_true,Bool.true_and]
    rw [BitVec.getLsbD_eq_getElem (by omega)]
    congr 1
    omega
  rw [h1]
  simp only [BitVec.toNat_shiftLeft,BitVec.toNat_ushiftRight,Nat.shiftLeft_eq,Nat.shiftRight_eq_div_pow]
  have:=(BitVec.ofInt 64 r).isLt
  omega
 have hr:((BitVec.ofInt 64 r).toNat:Int)=r % 18446744073709551616:=by
  rw [BitVec.toNat_ofInt]
  have:(0:Int)≤r % ((2 ^ 64:Nat):Int):=Int.emod_nonneg _ (by decide)
  rw [Int.toNat_of_nonneg this]
  rfl
 rw [e,hm,hv,wrap_i64,wrap_i64]
 have hlt:=(BitVec.ofInt 64 r).isLt
 generalize (BitVec.ofInt 64 r).toNat=n at hr hlt
 constructor
 ·intro h
  refine ⟨n - 16,?_,?_⟩<;>omega
 ·rintro ⟨k,hk,h⟩
  omega
def nD (a:Int):Prop := -9223372036854775808≤a∧a < 9223372036854775808
theorem Gx {r:Int} (h:nD r):jZ .i64 r 15=16↔16≤r∧r < 32:=by
 rw [SI,wrap_i64]
 obtain ⟨h1,h2⟩:=h
 constructor
 ·rintro ⟨k,hk,e⟩;omega
 ·intro ⟨a,b⟩;exact ⟨(r - 16).toNat,by omega,by omega⟩
theorem J6 {k:Nat} (h:k < 16):cP .i64 ((16+k:Nat):Int) 15=(k:Int):=by
 have key:(List.range 16).all (fun k=>ak (cP .i64 ((16+k:Nat):Int) 15) (k:Nat))=true:=by decide +kernel
 exact al.1 (List.all_eq_true.1 key k (List.mem_range.2 h))
theorem yO {r:Int} (h1:16≤r) (h2:r < 32):Hy r=(1,(r,((-1),((-1),(0,(0,(false,0)))))))∧hU r=(1,(r,((-1),((-1),(0,(0,(false,0))))))):=by
 obtain ⟨k,hk,e⟩:∃ k:Nat,k < 16∧r=((16+k:Nat):Int):=⟨(r - 16).toNat,by omega,by omega⟩
 have e23:Hy r=(1,(aK .i64 (cP .i64 r 15) 16,((-1),((-1),(0,(0,(false,0))))))):=rfl
 have e24:hU r=(1,(aK .i64 (fJ .i64 (aK .i64 (fJ .i64 r 16) 16) 16) 16,((-1),((-1),(0,(0,(false,0))))))):=rfl
 have a1:aK .i64 (cP .i64 r 15) 16=r:=by rw [e,J6 hk,dH]<;>omega
 have a2:aK .i64 (fJ .i64 (aK .i64 (fJ .i64 r 16) 16) 16) 16=r:=by
  have m1:fJ .i64 r 16=(k:Int):=by
   show r.tmod 16=_
   rw [Int.tmod_eq_emod_of_nonneg (by omega)];omega
  have m2:aK .i64 (k:Int) 16=(k:Int)+16:=by rw [dH]<;>omega
  have m3:fJ .i64 ((k:Int)+16) 16=(k:Int):=by
   show ((k:Int)+16).tmod 16=_
   rw [Int.tmod_eq_emod_of_nonneg (by omega)];omega
  rw [m1,m2,m3,dH]<;>omega
 rw [e23,e24,a1,a2]
 exact ⟨rfl,rfl⟩
theorem jD {o:DO} (h:nD o.2.1):nS o=Kd.b .x o:=by
 apply mJ
 unfold nS mV Kd.b qf
 simp only [dp,cV,dm,jH,al,Bool.and_eq_true,cJ,bU,beq_iff_eq,Bool.false_eq_true,and_false,or_false,Gx h]
 constructor
 ·rintro ⟨a,⟨b,c⟩,d⟩
  rw [(yO b c).1] at d
  exact ⟨a,b,c,d⟩
 ·rintro ⟨a,b,c,d⟩
  refine ⟨a,⟨b,c⟩,?_⟩
  rw [(yO b c).1];exact d
theorem mF {o:DO} (h:nD o.2.1):si o=Kd.b .xm o:=by
 unfold si mU
 simp only [dp,cV,dm,jD h,eS]
 show cond (qf o==false) (rF o) true=(qf o||rF o)
 cases qf o<;>cases rF o<;>rfl
end
end Go.bz.RM
end
section
namespace Go.bz.RM
open Go.bz.RL
open Go.bz
noncomputable section
def Kd.i:Kd→Nat | .r=>0 | .m=>1 | .rm=>2 | .i64=>3 | .i32=>4 | .i8=>5 | .u8=>6 | .x=>7 | .xm=>8 | .cl=>9 | .no=>10
theorem WZ (a b:Kd):(a.s==b.s)=(a.i==b.i):=by cases a<;>cases b<;>rfl
theorem Lh (x):Ct x:=by
 unfold Ct yP
 have p35:∀ a,LL a:=fun _=>trivial
 simp only [gg,fX,fS,p35]
 simp
theorem Im (x):ly x:=⟨by decide,by decide,trivial⟩
theorem Es {o:DO} (h:iS o=true):o.1=1∨o.1=2:=by
 rcases (kG o).1 h with h | h
 ·exact .inl (ma h)
 ·exact .inr h.1
theorem Wo (o:DO):dB CO o (w9 1)=(ak o.1 1&&(iS o&&ak o.2.1 1)):=by
 apply mJ
 simp only [Bool.and_eq_true,al,lI,kG]
 constructor
 ·intro h;rw [h];exact ⟨rfl,.inl ⟨rfl,by decide,by decide⟩,rfl⟩
 ·rintro ⟨a,h | h,c⟩
  ·rw [h.1,c]
  ·have:=h.1;omega
set_option maxHeartbeats 8000000 in
theorem Hk (o:DO) (k:Kd):Ends (qy (o,k.s)) (k.b o) (yR (o,k.s)):=by
 have p22:∀ a,Cs a:=fun _=>trivial
 have c1:ByteArray.mk #[114]=Kd.s .r:=rfl
 have c2:ByteArray.mk #[109]=Kd.s .m:=rfl
 have c3:ByteArray.mk #[114,109]=Kd.s .rm:=rfl
 have c4:ByteArray.mk #[105,56]=Kd.s .i8:=rfl
 have c5:ByteArray.mk #[117,56]=Kd.s .u8:=rfl
 have c6:ByteArray.mk #[105,51,50]=Kd.s .i32:=rfl
 have c7:ByteArray.mk #[105,54,52]=Kd.s .i64:=rfl
 have c8:ByteArray.mk #[120]=Kd.s .x:=rfl
 have c9:ByteArray.mk #[120,109]=Kd.s .xm:=rfl
 have c10:ByteArray.mk #[99,108]=Kd.s .cl:=rfl
 have h0:Ends (qy (o,k.s)) (dB CO o zO) (qy (o,k.s) .h0):=by simp only [qy,eR];rfl
 have e22:∀ a,cX a=Hw a:=fun _=>rfl
 have hv:cF o.2.1 32=true→cj 16 o.2.1=true→dB CO o (hU o.2.1)=dB CO o (1,(o.2.1,((-1),((-1),(0,(0,(false,0))))))):=fun a b=>by rw [(yO (cJ.1 b) (bU.1 a)).2]
 have hr1:ak o.1 1=false→ak o.1 2=false→iS o=false:=fun a b=>by
  cases h:iS o with
  | false=>rfl
  | true=>rw [bS] at a b;rcases Es h with h | h<;>omega
 have x12:ak o.1 1=true→ak o.1 2=false:=fun a=>by rw [al.1 a];rfl
 have x13:ak o.1 1=true→ak o.1 3=false:=fun a=>by rw [al.1 a];rfl
 have x23:ak o.1 2=true→ak o.1 3=false:=fun a=>by rw [al.1 a];rfl
 unfold yR
 simp only [c1,c2,c3,c4,c5,c6,c7,c8,c9,c10,WZ,Er,e22]
 cases k<;>simp only [Wo,Kd.b,Lf,rF,xL,qf]<;>
  (cases f1:ak o.1 1<;>cases f2:ak o.1 2<;>cases f3:ak o.1 3<;>first
   | (exfalso;simp_all;done)
   | (cases a1:cj 16 o.2.1<;>cases a2:cF o.2.1 32<;>
     simp [eI,eN,eR,eJ,Lh,Im,p22,Kd.i,hv,hr1,f1,f2,f3,a1,a2]<;>first | exact h0 | (simp_all;done) | skip))
theorem Cz (o:DO) (k:Kd):CA (o,k.s):=⟨_,Hk o k⟩
theorem Hu (o:DO) (k:Kd):Mn (o,k.s)=k.b o:=dO (Hk o k)
end
end Go.bz.RM
end
section
namespace Go.bz.RM
open Go.bz.RL
open Go.bz
noncomputable section
def lB (s:ByteArray):Kd:=
 if s==Kd.s .r then .r else if s==Kd.s .m then .m else if s==Kd.s .rm then .rm else if s==Kd.s .i8 then .i8 else if s==Kd.s .u8 then .u8 else if s==Kd.s .i32 then .i32 else
 if s==Kd.s .i64 then .i64 else if s==Kd.s .x then .x else if s==Kd.s .xm then .xm else if s==Kd.s .cl then .cl else .no
def Kw (s:ByteArray):Bool:=(lB s).s==s
def GO (r:l3):Bool:=Kw r.2.1&&(Kw r.2.2.1&&(ak r.1 1||(ak r.1 4||(ak r.1 8||(ak r.1 16||ak r.1 32)))))
theorem K6:(List.range 256).all (fun d=>(List.range 16).all fun c=>(bI ((d:Nat),(c:Nat))).all GO&&decide ((bI ((d:Nat),(c:Nat))).length≤8))=true:=by decide +kernel
theorem NC {d c:Int} (hd:wV d) (hc:0≤c∧c < 16):(∀ r∈bI (d,c),GO r=true)∧(bI (d,c)).length≤8:=by
 obtain ⟨h1,h2⟩:=hd
 have:=List.all_eq_true.1 (List.all_eq_true.1 K6 d.toNat (List.mem_range.2 (by omega))) c.toNat (List.mem_range.2 (by omega))
 rw [Int.toNat_of_nonneg h1,Int.toNat_of_nonneg hc.1] at this
 simp only [Bool.and_eq_true,decide_eq_true_eq] at this
 exact ⟨fun r hr=>List.all_eq_true.1 this.1 r hr,this.2⟩
def gP (w of:Int):Bool:=cond (ak of 4) (ak w 4||ak w 8) (cond (ak of 16) (ak w 8) (cond (ak of 32) (ak w 16) (ak w of)))
def di (x:DI) (r:l3):Bool:=gP x.2.2.1 r.1&&((lB r.2.1).b x.2.2.2.1&&(lB r.2.2.1).b x.2.2.2.2.1)
def F9 (x:DI):Bool:=cj x.2.1 15&&((ak x.1 29||(ak x.1 30||ak x.1 31)||ak x.2.1 0)&&(ak x.1 39||ak x.2.2.2.2.2.1 0))
def lU (x:DI):Option l3:=cond (F9 x) ((bI (x.1,x.2.1)).find? (di x)) none
end
end Go.bz.RM
end
section
namespace Go.bz.RM
open Go.bz.RL
open Go.bz
noncomputable section
theorem Ob (w of:Int):RB (w,of)=gP w of:=by
 unfold RB yS gP
 simp only [dp,dm]
 cases ak of 4<;>cases ak of 16<;>cases ak of 32<;>cases ak w 4<;>cases ak w 8<;>rfl
theorem Lu (x):Lv x:=by
 unfold Lv yS;simp only [gg,fS];simp
theorem SJ (x:Int):∀ (m i:Nat),i+m=8→∃ r,Ends (gn x) r (gn x (.h0 i [3,4,5,6,7,8,9,10])):=by
 intro m
 induction m with
 | zero=>
  intro i hi
  have:i=8:=by omega
  subst this
  refine ⟨-1,?_⟩
  simp only [gn]
  simp only [show cF ((8:Nat):Int) 8=false from rfl,eI,eR]
  exact ⟨(fun h=>by cases h),fun _=>trivial⟩
 | succ m ih=>
  intro i hi
  have e:cF (i:Int) 8=true:=by rw [bU];omega
  cases hc:ak (eZ (.int .u8) [3,4,5,6,7,8,9,10] i) x with
  | true=>
   refine ⟨i,?_⟩
   simp only [gn]
   simp only [e,Int.toNat_natCast,hc,eI,eN,eR]
   exact ⟨fun _=>⟨by omega,by omega,by omega,fun _=>trivial,(fun h=>by cases h)⟩,(fun h=>by cases h)⟩
  | false=>
   obtain ⟨r,hr⟩:=ih (i+1) (by omega)
   refine ⟨r,?_⟩
   simp only [gn]
   simp only [e,Int.toNat_natCast,hc,eI,eN,eR,eJ,mq i (by omega)]
   exact ⟨fun _=>⟨by omega,by omega,by omega,(fun h=>by cases h),fun _=>hr⟩,(fun h=>by cases h)⟩
theorem Ij (x):LM x:=by
 obtain ⟨r,hr⟩:=SJ x 8 0 rfl
 refine ⟨r,?_⟩
 unfold oO
 simp only [eN,eJ]
 exact ⟨by omega,by omega,by omega,by omega,by omega,by omega,by omega,by omega,hr⟩
theorem Ii (x):EE x:=by
 unfold EE yY;simp only [gg,fS];simp
theorem Li (x):Lj x:=by
 unfold Lj iX;simp only [gg,fX,fS,Ij,Ii];simp
theorem Lw (x):nO x:=by
 unfold nO yT;simp only [gg,fX,fS,Li];simp
theorem Md {s:ByteArray} (h:Kw s=true):s=(lB s).s:=((HL _ _).1 h).symm
section
variable {x:DI}
def zR:l3:=(0,(ByteArray.empty,(ByteArray.empty,(0,(([]:List Int),(0,(0,0)))))))
def w5 (o:Option l3):l3×Bool:=match o with | some r=>(r,true) | none=>(zR,false)
theorem Ux (l:List l3) (hl:l.length≤8) (hr:∀ r∈l,GO r=true):∀ (m i:Nat),i+m=l.length→Ends (kd x) (w5 ((l.drop i).find? (di x))) (kd x (.h0 l i)):=by
 intro m
 induction m with
 | zero=>
  intro i hi
  rw [List.drop_of_length_le (by omega)]
  simp only [kd]
  simp only [L9 (show l.length≤i by omega),eI,eR]
  exact ⟨(fun h=>by cases h),fun _=>rfl⟩
 | succ m ih=>
  intro i hi
  have hi':i < l.length:=by omega
  have hrd:eZ Gz l i=l[i]:=dU (c:=Gz) hi'
  have hok:=hr _ (List.getElem_mem hi')
  simp only [GO,Bool.and_eq_true] at hok
  obtain ⟨o1,o2,_⟩:=hok
  have hn:=ih (i+1) (by omega)
  rw [List.drop_eq_getElem_cons hi',List.find?_cons]
  have k1:∀ o,CA (o,l[i].2.1)∧Mn (o,l[i].2.1)=(lB l[i].2.1).b o:=fun o=>by
   have e:=Md o1
   constructor
   ·rw [e];exact Cz _ _
   ·conv=>lhs;rw [e]
    exact Hu _ _
  have k2:∀ o,CA (o,l[i].2.2.1)∧Mn (o,l[i].2.2.1)=(lB l[i].2.2.1).b o:=fun o=>by
   have e:=Md o2
   constructor
   ·rw [e];exact Cz _ _
   ·conv=>lhs;rw [e]
    exact Hu _ _
  simp only [kd]
  simp only [Ga hi',eI,eN,eJ,eR,Int.toNat_natCast,hrd,mq i (by omega),Ob,(k1 _).2,(k2 _).2]
  refine ⟨fun _=>⟨by omega,by omega,Lu _,fun a=>⟨by omega,by omega,(k1 _).1,fun b=>⟨by omega,by omega,(k2 _).1,fun c=>⟨by omega,by omega,?_⟩,fun c=>?_⟩,fun b=>?_⟩,fun a=>?_⟩,(fun h=>by cases h)⟩
  ·have:di x l[i]=true:=by unfold di;simp only [beq_iff_eq] at a b;rw [a,b,c];rfl
   rw [this];rfl
  ·have:di x l[i]=false:=by unfold di;rw [c];simp
   rw [this];exact hn
  ·have:di x l[i]=false:=by unfold di;simp only [beq_eq_false_iff_ne,ne_eq,Bool.not_eq_true] at b;rw [b];simp
   rw [this];exact hn
  ·have:di x l[i]=false:=by unfold di;simp only [beq_eq_false_iff_ne,ne_eq,Bool.not_eq_true] at a;rw [a];simp
   rw [this];exact hn
theorem x7 (hd:wV x.1) (hc:wV x.2.1):Ends (kd x) (w5 (lU x)) (yV x):=by
 have hno:Ends (kd x) (w5 none) (.ret (.inr (zR,false))):=eR.2 rfl
 have hyes:cF 15 x.2.1=false→Ends (kd x) (w5 ((bI (x.1,x.2.1)).find? (di x))) (kd x (.h0 (bI (x.1,x.2.1)) 0)):=fun h=>by
  rw [dY] at h
  obtain ⟨h1,h2⟩:=NC hd (c:=x.2.1) ⟨hc.1,by omega⟩
  have:=Ux (x:=x) (bI (x.1,x.2.1)) h2 h1 (bI (x.1,x.2.1)).length 0 (Nat.zero_add _)
  rw [List.drop_zero] at this
  exact this
 have e1:cj x.2.1 15=!(cF 15 x.2.1):=by
  cases h:cF 15 x.2.1 with
  | true=>rw [bU] at h;rw [Bool.not_true,mv];omega
  | false=>rw [dY] at h;rw [Bool.not_false,cJ];omega
 have e2:ak x.2.1 0=!(dG x.2.1 0):=by
  cases h:dG x.2.1 0 with
  | true=>rw [dr] at h;rw [Bool.not_true,bS];exact h
  | false=>rw [gy] at h;rw [Bool.not_false,al];exact h
 have e3:ak x.1 39=!(dG x.1 39):=by
  cases h:dG x.1 39 with
  | true=>rw [dr] at h;rw [Bool.not_true,bS];exact h
  | false=>rw [gy] at h;rw [Bool.not_false,al];exact h
 have e4:ak x.2.2.2.2.2.1 0=!(dG x.2.2.2.2.2.1 0):=by
  cases h:dG x.2.2.2.2.2.1 0 with
  | true=>rw [dr] at h;rw [Bool.not_true,bS];exact h
  | false=>rw [gy] at h;rw [Bool.not_false,al];exact h
 unfold lU F9
 rw [e1,e2,e3,e4]
 unfold yV
 dsimp only
 unfold zR at hno
 generalize hF:(bI (x.1,x.2.1)).find? (di x)=F at hyes ⊢
 generalize ak x.1 29=a
 generalize ak x.1 30=b
 generalize ak x.1 31=c
 generalize cF 15 x.2.1=d at hyes ⊢
 generalize dG x.2.1 0=e
 generalize dG x.1 39=f
 generalize dG x.2.2.2.2.2.1 0=g
 cases a<;>cases b<;>cases c<;>cases d<;>cases e<;>cases f<;>cases g<;>
  (simp only [eI,eN,eJ,eR,Lw,Bool.not_true,Bool.not_false,Bool.and_true,Bool.and_false,Bool.true_and,Bool.false_and,Bool.or_true,Bool.or_false,Bool.true_or,Bool.false_or,cond_true,cond_false,true_and,and_true,
   implies_true,forall_const,Bool.false_eq_true,Bool.true_eq_false,false_implies,true_implies,beq_false,beq_true,reduceCtorEq,beq_self_eq_true];first | exact hyes rfl | rfl | trivial)
theorem LG (hd:wV x.1) (hc:wV x.2.1):Ps x:=⟨_,x7 hd hc⟩
theorem Ok (hd:wV x.1) (hc:wV x.2.1):R4 x=w5 (lU x):=dO (x7 hd hc)
end
end
end Go.bz.RM
end
section
namespace Go.bz.RM
open Go.bz.RL
open Go.bz
noncomputable section
def bd (x:Int):List Int→Nat→Int
 | [],_ => -1
 | c :: l,i=>cond (ak x c) (i:Int) (bd x l (i+1))
theorem JL (l:List Int) (x:Int) (hl:l.length≤1000):∀ (m i:Nat),i+m=l.length→Ends (iD (l,x)) (bd x (l.drop i) i) (iD (l,x) (.h0 l.length i)):=by
 intro m
 induction m with
 | zero=>
  intro i hi
  rw [List.drop_of_length_le (by omega)]
  simp only [iD]
  simp only [L9 (show l.length≤i by omega),eI,eR]
  exact ⟨(fun h=>by cases h),fun _=>rfl⟩
 | succ m ih=>
  intro i hi
  have hi':i < l.length:=by omega
  have hr:=ih (i+1) (by omega)
  have hrd:eZ (.int .i64) l i=l[i]:=dU (c:=.int .i64) hi'
  rw [List.drop_eq_getElem_cons hi']
  simp only [iD,bd]
  simp only [Ga hi',hrd,eI,eN,eR,eJ,Int.toNat_natCast,mq i (by omega)]
  refine ⟨fun _=>⟨by omega,by omega,fun h=>?_,fun h=>?_⟩,(fun h=>by cases h)⟩
  ·rw [h];rfl
  ·rw [h];exact hr
theorem r9 (l:List Int) (x:Int) (hl:l.length≤1000):Ends (iD (l,x)) (bd x l 0) (mQ (l,x)):=by
 unfold mQ
 simp only [eJ]
 have:=JL l x hl l.length 0 (Nat.zero_add _)
 rw [List.drop_zero] at this
 exact this
theorem yd {l:List Int} {x:Int} (hl:l.length≤1000):aO (l,x):=⟨⟨_,r9 l x hl⟩,trivial⟩
theorem mG {l:List Int} {x:Int} (hl:l.length≤1000):bf (l,x)=cj 0 (bd x l 0):=by
 have:bf (l,x)=cj 0 (Hz (l,x)):=rfl
 have e:Hz (l,x)=bd x l 0:=dO (r9 l x hl)
 rw [this,e]
theorem JM (l:List Int) (x:Int) (hl:l.length≤1000):∀ (m i:Nat),i+m=l.length→Ends (iE (l,x)) (bd x (l.drop i) i) (iE (l,x) (.h0 l.length i)):=by
 intro m
 induction m with
 | zero=>
  intro i hi
  rw [List.drop_of_length_le (by omega)]
  simp only [iE]
  simp only [L9 (show l.length≤i by omega),eI,eR]
  exact ⟨(fun h=>by cases h),fun _=>rfl⟩
 | succ m ih=>
  intro i hi
  have hi':i < l.length:=by omega
  have hr:=ih (i+1) (by omega)
  have hrd:eZ (.int .u8) l i=l[i]:=dU (c:=.int .u8) hi'
  rw [List.drop_eq_getElem_cons hi']
  simp only [iE,bd]
  simp only [Ga hi',hrd,eI,eN,eR,eJ,Int.toNat_natCast,mq i (by omega)]
  refine ⟨fun _=>⟨by omega,by omega,fun h=>?_,fun h=>?_⟩,(fun h=>by cases h)⟩
  ·rw [h];rfl
  ·rw [h];exact hr
theorem sa (l:List Int) (x:Int) (hl:l.length≤1000):Ends (iE (l,x)) (bd x l 0) (m0 (l,x)):=by
 unfold m0
 simp only [eJ]
 have:=JM l x hl l.length 0 (Nat.zero_add _)
 rw [List.drop_zero] at this
 exact this
theorem Ih {l:List Int} {x:Int} (hl:l.length≤1000):zP (l,x):=⟨_,sa l x hl⟩
theorem Mt {l:List Int} {x:Int} (hl:l.length≤1000):HA (l,x)=bd x l 0:=dO (sa l x hl)
end
end Go.bz.RM
end
section
namespace Go.bz.RM
open Go.bz.RL
open Go.bz
noncomputable section
def dL:List Int:=[3,4,5,6,7,8,9,10]
theorem Wx (x:Int):∀ (m i:Nat),i+m=8→Ends (gn x) (bd x (dL.drop i) i) (gn x (.h0 i dL)):=by
 intro m
 induction m with
 | zero=>
  intro i hi
  have:i=8:=by omega
  subst this
  simp only [gn]
  simp only [show cF ((8:Nat):Int) 8=false from rfl,eI,eR]
  exact ⟨(fun h=>by cases h),fun _=>rfl⟩
 | succ m ih=>
  intro i hi
  have e:cF (i:Int) 8=true:=by rw [bU];omega
  have hi':i < dL.length:=by show i < 8;omega
  have hr:=ih (i+1) (by omega)
  have hrd:eZ (.int .u8) dL i=dL[i]:=dU (c:=.int .u8) hi'
  have hsym:ak dL[i] x=ak x dL[i]:=by
   cases h:ak x dL[i] with
   | true=>rw [al] at h ⊢;exact h.symm
   | false=>rw [bS] at h ⊢;exact fun e=>h e.symm
  rw [List.drop_eq_getElem_cons hi']
  simp only [gn,bd]
  simp only [e,Int.toNat_natCast,hrd,hsym,eI,eN,eR,eJ,mq i (by omega)]
  refine ⟨fun _=>⟨by omega,by omega,by omega,fun h=>?_,fun h=>?_⟩,(fun h=>by cases h)⟩
  ·rw [h];rfl
  ·rw [h];exact hr
theorem iT (x:Int):pO x=bd x dL 0:=by
 have h:Ends (gn x) (bd x dL 0) (oO x):=by
  unfold oO
  simp only [eN,eJ]
  have:=Wx x 8 0 rfl
  rw [List.drop_zero] at this
  exact ⟨by omega,by omega,by omega,by omega,by omega,by omega,by omega,by omega,this⟩
 exact dO h
abbrev SO:Type:=cr
def zE:SO:=((([]:List Int),(0,())),(((),((),(([]:List Int),(0,(0,0))))),false))
def SU (w:Int):List Int:=cond (ak w 1) [1] (cond (ak w 4) [4,8] (cond (ak w 8) [8] (cond (ak w 16) [8,8] [16])))
def Uw (r:l3):SO:=((SU r.1,(r.2.2.2.1,())),(((),((),(r.2.2.2.2.1,(r.2.2.2.2.2.1,(r.2.2.2.2.2.2.1,r.2.2.2.2.2.2.2))))),true))
def ef:Option l3→SO
 | none=>zE
 | some r=>Uw r
theorem Ot {x:DI}:Ends (ai x) zE (ai x .my):=by simp only [ai,eR];rfl
end
end Go.bz.RM
end
section
namespace Go.bz.RM
open Go.bz.RL
open Go.bz
noncomputable section
abbrev Yc:Type:=Tr (SS⊕SO)
theorem look {x:DI} {R:SO} {w a b:Bool} {pw pa pb q1 q2:Prop} {A:SO} {BV:Yc}
  (hw:pw) (ha:pa) (hb:pb) (h1:q1) (h2:q2) (hyes:w=true→a=true→b=true→A=R) (hno:(w&&(a&&b))=false→Ends (ai x) R BV):
  Ends (ai x) R (.aa pw (.ite (w==true) (.aa pa (.ite (a==true) (.aa pb (.ite (b==true) (.aa q1 (.aa q2 (.ret (.inr A)))) BV)) BV)) BV)):=by
 simp only [eN,eI,eR]
 cases w<;>cases a<;>cases b<;>simp_all
theorem l6 {w of:Int} (h:of=1∨of=4∨of=8∨of=16∨of=32):cj 0 (bd w (SU of) 0)=gP w of:=by
 rcases h with rfl | rfl | rfl | rfl | rfl
 ·show cj 0 (cond (ak w 1) 0 (-1))=ak w 1
  cases ak w 1<;>rfl
 ·show cj 0 (cond (ak w 4) 0 (cond (ak w 8) 1 (-1)))=(ak w 4||ak w 8)
  cases ak w 4<;>cases ak w 8<;>rfl
 ·show cj 0 (cond (ak w 8) 0 (-1))=ak w 8
  cases ak w 8<;>rfl
 ·show cj 0 (cond (ak w 8) 0 (cond (ak w 8) 1 (-1)))=ak w 8
  cases ak w 8<;>rfl
 ·show cj 0 (cond (ak w 16) 0 (-1))=ak w 16
  cases ak w 16<;>rfl
end
end Go.bz.RM
end
section
namespace Go.bz.RM
open Go.bz.RL
open Go.bz
noncomputable section
theorem kD:(true==false)=false:=rfl
theorem kC:(false==true)=false:=rfl
theorem kB:(true==true)=true:=rfl
theorem kz:(false==false)=true:=rfl
theorem WY (k:Kd):lB k.s=k:=by cases k<;>rfl
theorem bY {α β:Type} {s:α→Tr (α⊕β)} {r:β} {t e:Tr (α⊕β)}:Ends s r (.ite true t e)↔Ends s r t:=by simp [eI]
theorem bZ {α β:Type} {s:α→Tr (α⊕β)} {r:β} {t e:Tr (α⊕β)}:Ends s r (.ite false t e)↔Ends s r e:=by simp [eI]
theorem YJ (x):EB x:=trivial
theorem YI (x):EC x:=trivial
theorem dK (x):dq x:=⟨rn _,trivial⟩
theorem gV (x):dn x:=by unfold dn mZ;simp only [gg,fX,fS,rn];simp
theorem rC (x):lx x:=by unfold lx mY;simp only [gg,fX,fS,rn];simp
theorem NP (x):ox x:=by unfold ox mO;simp only [gg,fX,fS,YJ];simp
theorem zT (x):wI x:=by unfold wI mX;simp only [gg,fX,fS,NP];simp
theorem rz (x):dD x:=by unfold dD mW;simp only [gg,fX,fS,NP];simp
theorem LS (x):mj x:=by unfold mj mS;simp only [gg,fX,fS,NP];simp
theorem LR (x):ED x:=⟨trivial,trivial⟩
theorem mo (x):a8 x:=trivial
theorem Fy (x):kg x:=by unfold kg mV;simp only [gg,fX,fS,YI];simp
theorem LU (x):ml x:=by unfold ml mU;simp only [gg,fX,fS,Fy,rC];simp
theorem uU (w:Int):bf ([1],w)=gP w 1:=(mG (by decide)).trans (l6 (of:=1) (by decide))
theorem a9 (w:Int):bf ([4,8],w)=gP w 4:=(mG (by decide)).trans (l6 (of:=4) (by decide))
theorem On (w:Int):bf ([8],w)=gP w 8:=(mG (by decide)).trans (l6 (of:=8) (by decide))
theorem iU (w:Int):bf ([8,8],w)=gP w 16:=(mG (by decide)).trans (l6 (of:=16) (by decide))
theorem kL (w:Int):bf ([16],w)=gP w 32:=(mG (by decide)).trans (l6 (of:=32) (by decide))
theorem fR (j w:Int):aO ([j],w)=True:=eq_true (yd (show ([j]:List Int).length≤1000 from by show 1≤1000;decide))
theorem aI (j k w:Int):aO ([j,k],w)=True:=eq_true (yd (show ([j,k]:List Int).length≤1000 from by show 2≤1000;decide))
theorem aU (w:Int):zP ([3,4,5,6,7,8,9,10],w)=True:=eq_true (Ih (show ([3,4,5,6,7,8,9,10]:List Int).length≤1000 from by decide))
theorem bg (w:Int):HA ([3,4,5,6,7,8,9,10],w)=bd w dL 0:=Mt (show ([3,4,5,6,7,8,9,10]:List Int).length≤1000 from by decide)
theorem MW {c:Int} (h:0≤c∧c < 16):cP .u8 c 15=c:=by
 have key:(List.range 16).all (fun k=>ak (cP .u8 (k:Nat) 15) (k:Nat))=true:=by decide +kernel
 have:=al.1 (List.all_eq_true.1 key c.toNat (List.mem_range.2 (by omega)))
 rwa [Int.toNat_of_nonneg h.1] at this
theorem Le {c:Int} (h:0≤c∧c < 16):fJ .u8 c 16=c:=by
 show c.tmod 16=c
 exact Int.tmod_eq_of_lt h.1 h.2
theorem row {x:DI} {of:Int} {ka kb:Kd} {t:Int×(List Int×bD)} {l:List l3} {pa pb q1 q2:Prop} {A:SO} {BV:Yc} (ha:pa) (hb:pb) (h1:q1) (h2:q2)
  (hA:A=Uw (of,(ka.s,(kb.s,t)))) (hn:Ends (ai x) (ef (l.find? (di x))) BV):
  Ends (ai x) (ef (((of,(ka.s,(kb.s,t))) :: l).find? (di x)))
   (.ite (gP x.2.2.1 of==true) (.aa pa (.ite (ka.b x.2.2.2.1==true) (.aa pb (.ite (kb.b x.2.2.2.2.1==true) (.aa q1 (.aa q2 (.ret (.inr A)))) BV)) BV)) BV):=by
 have hf:di x (of,(ka.s,(kb.s,t)))=(gP x.2.2.1 of&&(ka.b x.2.2.2.1&&kb.b x.2.2.2.2.1)):=by
  unfold di;simp only [WY]
 rw [List.find?_cons,hf]
 simp only [eN,eI,eR]
 cases gP x.2.2.1 of<;>cases ka.b x.2.2.2.1<;>cases kb.b x.2.2.2.2.1<;>simp_all [ef]
end
end Go.bz.RM
end
