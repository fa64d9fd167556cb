/- A part of the proof that the laws of this seat hold. Conditions: none beyond the row. -/
import Derived.Test.YtifnanjnonepaaaGreatDoorFns0
set_option maxRecDepth 100000
set_option linter.unusedVariables false
set_option linter.unusedSimpArgs false
set_option linter.unusedSectionVars false
section
namespace Go.bz.RL
open Go.Proofs Go.bz
inductive SS where
 | h0
 | h1 (v43:ao) (v59:Int) (v65:Int) (v68:ao) (v69:ao) (v70:ao) (v71:ao)
 | h2 (v43:ao) (v62:ao) (v63:ao) (v64:ao) (v86:ao) (v105:ao) (v106:ao) (v107:ao) (v108:ao) (v115:ao)
 | h3 (v43:ao) (v50:ao)
 | h4 (v43:ao) (v56:ao) (v57:ao)
 | h5 (v43:ao) (v47:Int) (v50:ao)
 | h6 (v43:ao) (v47:Int) (v53:Int) (v56:ao) (v57:ao)
 | h7 (v43:ao) (v50:ao)
 | h8 (v43:ao) (v50:ao)
 | h9 (v43:ao) (v56:ao) (v57:ao)
 | uP (v43:ao) (v50:ao)
 | oI (v43:ao) (v49:Int) (v50:ao)
 | lC (v43:ao) (v50:ao)
 | jt (v43:ao) (v56:ao) (v57:ao)
 | ku (v43:ao) (v50:ao)
 | gO (v43:ao) (v50:ao)
 | hJ (v43:ao) (v50:ao)
 | my
 | wX (v43:ao) (v59:Int) (v65:Int) (v68:ao) (v69:ao) (v70:ao) (v71:ao)
 | yy (v43:ao) (v62:ao) (v63:ao) (v64:ao) (v86:ao) (v105:ao) (v106:ao) (v107:ao) (v108:ao) (v115:ao)
 | BW (v43:ao) (v56:ao) (v57:ao)
 | Bh (v43:ao) (v47:Int) (v53:Int) (v56:ao) (v57:ao)
 | DA (v43:ao) (v56:ao) (v57:ao)
 | Dz (v43:ao) (v56:ao) (v57:ao)
 | Dy (v43:ao) (v59:Int) (v65:Int) (v68:ao) (v69:ao) (v70:ao) (v71:ao)
 | yx (v43:ao) (v62:ao) (v63:ao) (v64:ao) (v86:ao) (v105:ao) (v106:ao) (v107:ao) (v108:ao) (v115:ao)
 | yw (v43:ao) (v59:Int) (v65:Int) (v68:ao) (v69:ao) (v70:ao) (v71:ao)
 | yv (v43:ao) (v62:ao) (v63:ao) (v64:ao) (v86:ao) (v105:ao) (v106:ao) (v107:ao) (v108:ao) (v115:ao)
 | Dx (v43:ao) (v62:ao) (v63:ao) (v64:ao) (v86:ao) (v105:ao) (v106:ao) (v107:ao) (v108:ao) (v115:ao)
 | Dw (v43:ao) (v62:ao) (v63:ao) (v64:ao) (v86:ao) (v105:ao) (v106:ao) (v107:ao) (v108:ao) (v115:ao)
 | Dv (v43:ao) (v50:ao) (v72:ao) (v91:ao) (v92:ao) (v93:ao) (v94:ao) (v113:ao) (v114:ao) (v115:ao)
noncomputable def qu (x:DI):Tr (SS⊕cr):=
 .ite ((ak x.1 29)==false) (
 .ite ((ak x.1 30)==false) (
 let y0:=x.2.1
 let y1:=((cF 15 y0)==false)
 .ite y1 (
 .ite ((!(ak x.1 31))==true) (
 .ite ((dG y0 0)==false) (
 let y2:=((dG x.1 39)==true)
 .ite y2 (
 let y3:=(dG x.2.2.2.2.2.1 0)
 .ite y3 (
 let y4:cr:=((([]:List Int),(0,())),(((),((),(([]:List Int),(0,(0,0))))),false))
 .ret (.inr y4)) (
 .ret (.inl (.h0)))) (
 .ret (.inl (.h0)))) (
 let y5:cr:=((([]:List Int),(0,())),(((),((),(([]:List Int),(0,(0,0))))),false))
 .ret (.inr y5))) (
 let y6:=((dG x.1 39)==true)
 .ite y6 (
 let y7:=(dG x.2.2.2.2.2.1 0)
 .ite y7 (
 let y8:cr:=((([]:List Int),(0,())),(((),((),(([]:List Int),(0,(0,0))))),false))
 .ret (.inr y8)) (
 .ret (.inl (.h0)))) (
 .ret (.inl (.h0))))) (
 let y9:cr:=((([]:List Int),(0,())),(((),((),(([]:List Int),(0,(0,0))))),false))
 .ret (.inr y9))) (
 let y10:=x.2.1
 let y11:=((cF 15 y10)==false)
 .ite y11 (
 let y12:=((dG x.1 39)==true)
 .ite y12 (
 let y13:=(dG x.2.2.2.2.2.1 0)
 .ite y13 (
 let y14:cr:=((([]:List Int),(0,())),(((),((),(([]:List Int),(0,(0,0))))),false))
 .ret (.inr y14)) (
 .ret (.inl (.h0)))) (
 .ret (.inl (.h0)))) (
 let y15:cr:=((([]:List Int),(0,())),(((),((),(([]:List Int),(0,(0,0))))),false))
 .ret (.inr y15)))) (
 let y16:=x.2.1
 let y17:=((cF 15 y16)==false)
 .ite y17 (
 let y18:=((dG x.1 39)==true)
 .ite y18 (
 let y19:=(dG x.2.2.2.2.2.1 0)
 .ite y19 (
 let y20:cr:=((([]:List Int),(0,())),(((),((),(([]:List Int),(0,(0,0))))),false))
 .ret (.inr y20)) (
 .ret (.inl (.h0)))) (
 .ret (.inl (.h0)))) (
 let y21:cr:=((([]:List Int),(0,())),(((),((),(([]:List Int),(0,(0,0))))),false))
 .ret (.inr y21)))
noncomputable def ai (x:DI):SS→Tr (SS⊕cr)
 | .h0=>
 .aa ((0:Nat) < 8)<|
 .aa ((1:Nat) < 8)<|
 .aa ((2:Nat) < 8)<|
 .aa ((3:Nat) < 8)<|
 .aa ((4:Nat) < 8)<|
 .aa ((5:Nat) < 8)<|
 .aa ((6:Nat) < 8)<|
 .aa ((7:Nat) < 8)<|
 .aa (((0:Nat)+8:Nat)≤8)<|
 let y0:bq:=([3,4,5,6,7,8,9,10],x.1)
 .aa (zP y0)<|
 let y1:=(HA y0)
 .ite (cj 0 y1) (
 .aa ((0:Nat) < 1)<|
 .aa ((0:Nat) < 1)<|
 .aa ((0:Nat) < 1)<|
 .aa ((0:Nat) < 1)<|
 .aa ((0:Nat) < 2)<|
 .aa ((1:Nat) < 2)<|
 .aa ((0:Int)≤0)<|
 .aa (0 < (1:Int))<|
 .aa ((0:Int)≤0)<|
 .aa (0 < (4:Int))<|
 .aa (((0:Nat)+2:Nat)≤2)<|
 let y2:ao:=[4,8]
 let y3:=x.2.2
 let y4:=y3.1
 let y5:bq:=(y2,y4)
 .aa (aO y5)<|
 let y6:=((bf y5)==true)
 .ite y6 (
 let y7:=y3.2
 let y8:=y7.1
 .aa (dq y8)<|
 let y9:=((eC y8)==true)
 .ite y9 (
 let y10:=y7.2.1
 .aa (dn y10)<|
 let y11:=((ez y10)==true)
 .ite y11 (
 .aa (((0:Nat)+2:Nat)≤2)<|
 .aa (((0:Nat)+1:Nat)≤1)<|
 let y12:cI:=(0,())
 let y13:cq:=(y2,y12)
 let y14:Int:=(gz .i64 8 y1)
 let y15:ao:=[(aN .u8 (aK .i64 y14 1))]
 let y16:bM:=(1,0)
 let y17:bD:=((-1),y16)
 .ret (.inr (y13,(((),((),(y15,y17))),true)))) (
 let y18:Int:=(gz .i64 8 y1)
 let y19:ao:=[(aN .u8 (aK .i64 y18 1))]
 let y20:ao:=[(aN .u8 (aK .i64 y18 3))]
 .ret (.inl (.h1 y2 y1 y1 y19 y20 [131] [129])))) (
 let y21:Int:=(gz .i64 8 y1)
 let y22:ao:=[(aN .u8 (aK .i64 y21 1))]
 let y23:ao:=[(aN .u8 (aK .i64 y21 3))]
 .ret (.inl (.h1 y2 y1 y1 y22 y23 [131] [129])))) (
 let y24:Int:=(gz .i64 8 y1)
 let y25:ao:=[(aN .u8 (aK .i64 y24 1))]
 let y26:ao:=[(aN .u8 (aK .i64 y24 3))]
 .ret (.inl (.h1 y2 y1 y1 y25 y26 [131] [129])))) (
 .ite (ak x.1 1) (
 .aa ((0:Nat) < 1)<|
 .aa ((0:Nat) < 1)<|
 .aa ((0:Nat) < 1)<|
 .aa ((0:Nat) < 1)<|
 .aa ((0:Nat) < 2)<|
 .aa ((1:Nat) < 2)<|
 .aa ((0:Nat) < 1)<|
 .aa ((0:Nat) < 1)<|
 .aa ((0:Nat) < 1)<|
 .aa ((0:Nat) < 1)<|
 .aa ((0:Nat) < 1)<|
 .aa ((0:Int)≤0)<|
 .aa (0 < (3:Int))<|
 .aa ((0:Int)≤0)<|
 .aa (0 < (3:Int))<|
 .aa (((0:Nat)+1:Nat)≤1)<|
 let y27:=x.2.2
 let y28:=y27.1
 let y29:bq:=([1],y28)
 .aa (aO y29)<|
 let y30:=((bf y29)==true)
 .ite y30 (
 let y31:=y27.2
 let y32:=y31.1
 .aa (dq y32)<|
 let y33:=((eC y32)==true)
 .ite y33 (
 let y34:=y31.2.1
 .aa (dn y34)<|
 let y35:=((ez y34)==true)
 .ite y35 (
 .aa (((0:Nat)+1:Nat)≤1)<|
 .aa (((0:Nat)+1:Nat)≤1)<|
 let y36:cI:=(0,())
 let y37:cq:=([1],y36)
 let y38:bM:=(1,0)
 let y39:bD:=((-1),y38)
 .ret (.inr (y37,(((),((),([136],y39))),true)))) (
 let y40:ao:=[4,8]
 .ret (.inl (.h2 [1] [136] [138] [198] y40 [137] [139] [199] [8] [184])))) (
 let y41:ao:=[4,8]
 .ret (.inl (.h2 [1] [136] [138] [198] y41 [137] [139] [199] [8] [184])))) (
 let y42:ao:=[4,8]
 .ret (.inl (.h2 [1] [136] [138] [198] y42 [137] [139] [199] [8] [184])))) (
 .ite (ak x.1 2) (
 .aa ((0:Nat) < 1)<|
 .aa ((0:Nat) < 2)<|
 .aa ((1:Nat) < 2)<|
 .aa ((0:Int)≤0)<|
 .aa (0 < (1:Int))<|
 .aa ((0:Int)≤0)<|
 .aa (0 < (1:Int))<|
 .aa (((0:Nat)+2:Nat)≤2)<|
 let y43:ao:=[4,8]
 let y44:=x.2.2
 let y45:=y44.1
 let y46:bq:=(y43,y45)
 .aa (aO y46)<|
 let y47:=((bf y46)==true)
 .ite y47 (
 let y48:=y44.2
 let y49:=y48.1
 .aa (dn y49)<|
 let y50:=((ez y49)==true)
 .ite y50 (
 let y51:=y48.2.1
 .aa (lx y51)<|
 .ite ((pN y51)==true) (
 .aa (((0:Nat)+2:Nat)≤2)<|
 .aa (((0:Nat)+1:Nat)≤1)<|
 let y52:cI:=(0,())
 let y53:cq:=(y43,y52)
 let y54:bD:=((-1),(2,0))
 .ret (.inr (y53,(((),((),([141],y54))),true)))) (
 .ret (.inl (.h3 y43 [141])))) (
 .ret (.inl (.h3 y43 [141])))) (
 .ret (.inl (.h3 y43 [141])))) (
 .ite (ak x.1 11) (
 .aa ((0:Nat) < 1)<|
 .aa ((0:Nat) < 1)<|
 .aa ((0:Nat) < 2)<|
 .aa ((1:Nat) < 2)<|
 .aa ((0:Int)≤0)<|
 .aa (0 < (1:Int))<|
 .aa ((0:Int)≤0)<|
 .aa (0 < (2:Int))<|
 .aa (((0:Nat)+2:Nat)≤2)<|
 let y55:ao:=[4,8]
 let y56:=x.2.2
 let y57:=y56.1
 let y58:bq:=(y55,y57)
 .aa (aO y58)<|
 let y59:=((bf y58)==true)
 .ite y59 (
 let y60:=y56.2
 let y61:=y60.1
 .aa (dq y61)<|
 let y62:=((eC y61)==true)
 .ite y62 (
 let y63:=y60.2.1
 .aa (dn y63)<|
 let y64:=((ez y63)==true)
 .ite y64 (
 .aa (((0:Nat)+2:Nat)≤2)<|
 .aa (((0:Nat)+1:Nat)≤1)<|
 let y65:cI:=(0,())
 let y66:cq:=(y55,y65)
 let y67:bM:=(1,0)
 let y68:bD:=((-1),y67)
 .ret (.inr (y66,(((),((),([133],y68))),true)))) (
 .ret (.inl (.h4 y55 [133] [247])))) (
 .ret (.inl (.h4 y55 [133] [247])))) (
 .ret (.inl (.h4 y55 [133] [247])))) (
 let y69:=(ak x.1 12)
 .ite y69 (
 .aa ((0:Nat) < 1)<|
 .aa ((0:Nat) < 2)<|
 .aa ((1:Nat) < 2)<|
 .aa ((0:Int)≤0)<|
 .aa (0 < (1:Int))<|
 .aa ((0:Int)≤0)<|
 .aa (0 < (1:Int))<|
 .aa (((0:Nat)+2:Nat)≤2)<|
 let y70:ao:=[4,8]
 let y71:=x.2.2
 let y72:=y71.1
 let y73:bq:=(y70,y72)
 .aa (aO y73)<|
 let y74:=((bf y73)==true)
 .ite y74 (
 let y75:=y71.2
 let y76:=y75.1
 .aa (dq y76)<|
 let y77:=((eC y76)==true)
 .ite y77 (
 let y78:=y75.2.1
 .aa (a8 y78)<|
 let y79:=((bH y78)==true)
 .ite y79 (
 .aa (((0:Nat)+2:Nat)≤2)<|
 .aa (((0:Nat)+1:Nat)≤1)<|
 let y80:cI:=(0,())
 let y81:cq:=(y70,y80)
 let y82:=(ak x.1 13)
 let y83:=(ak x.1 15)
 let y84:=(ak x.1 14)
 let y85:=(ak x.1 22)
 let y86:=(ak x.1 23)
 let y87:=(ak x.1 19)
 let y88:=(ak x.1 20)
 let y89:=(ak x.1 16)
 let y90:=(ak x.1 17)
 let y91:=(ak x.1 18)
 let y92:Int:=(cond y69 0 (cond y82 1 (cond y83 2 (cond y84 3 (cond y85 4 (cond y86 6 (cond y87 0 (cond y88 1 (cond y89 4 (cond y90 5 (cond y91 7 0)))))))))))
 let y93:bM:=(1,0)
 let y94:bD:=(y92,y93)
 let y95:cr:=(y81,(((),((),([255],y94))),true))
 .ret (.inr y95)) (
 let y96:=(ak x.1 13)
 let y97:=(ak x.1 15)
 let y98:=(ak x.1 14)
 let y99:=(ak x.1 22)
 let y100:=(ak x.1 23)
 let y101:=(ak x.1 19)
 let y102:=(ak x.1 20)
 let y103:=(ak x.1 16)
 let y104:=(ak x.1 17)
 let y105:=(ak x.1 18)
 let y106:Int:=(cond y69 0 (cond y96 1 (cond y97 2 (cond y98 3 (cond y99 4 (cond y100 6 (cond y101 0 (cond y102 1 (cond y103 4 (cond y104 5 (cond y105 7 0)))))))))))
 .ret (.inl (.h5 y70 y106 [255])))) (
 let y107:=(ak x.1 13)
 let y108:=(ak x.1 15)
 let y109:=(ak x.1 14)
 let y110:=(ak x.1 22)
 let y111:=(ak x.1 23)
 let y112:=(ak x.1 19)
 let y113:=(ak x.1 20)
 let y114:=(ak x.1 16)
 let y115:=(ak x.1 17)
 let y116:=(ak x.1 18)
 let y117:Int:=(cond y69 0 (cond y107 1 (cond y108 2 (cond y109 3 (cond y110 4 (cond y111 6 (cond y112 0 (cond y113 1 (cond y114 4 (cond y115 5 (cond y116 7 0)))))))))))
 .ret (.inl (.h5 y70 y117 [255])))) (
 let y118:=(ak x.1 13)
 let y119:=(ak x.1 15)
 let y120:=(ak x.1 14)
 let y121:=(ak x.1 22)
 let y122:=(ak x.1 23)
 let y123:=(ak x.1 19)
 let y124:=(ak x.1 20)
 let y125:=(ak x.1 16)
 let y126:=(ak x.1 17)
 let y127:=(ak x.1 18)
 let y128:Int:=(cond y69 0 (cond y118 1 (cond y119 2 (cond y120 3 (cond y121 4 (cond y122 6 (cond y123 0 (cond y124 1 (cond y125 4 (cond y126 5 (cond y127 7 0)))))))))))
 .ret (.inl (.h5 y70 y128 [255])))) (
 let y129:=(ak x.1 13)
 .ite y129 (
 .aa ((0:Nat) < 1)<|
 .aa ((0:Nat) < 2)<|
 .aa ((1:Nat) < 2)<|
 .aa ((0:Int)≤0)<|
 .aa (0 < (1:Int))<|
 .aa ((0:Int)≤0)<|
 .aa (0 < (1:Int))<|
 .aa (((0:Nat)+2:Nat)≤2)<|
 let y130:ao:=[4,8]
 let y131:=x.2.2
 let y132:=y131.1
 let y133:bq:=(y130,y132)
 .aa (aO y133)<|
 let y134:=((bf y133)==true)
 .ite y134 (
 let y135:=y131.2
 let y136:=y135.1
 .aa (dq y136)<|
 let y137:=((eC y136)==true)
 .ite y137 (
 let y138:=y135.2.1
 .aa (a8 y138)<|
 let y139:=((bH y138)==true)
 .ite y139 (
 .aa (((0:Nat)+2:Nat)≤2)<|
 .aa (((0:Nat)+1:Nat)≤1)<|
 let y140:cI:=(0,())
 let y141:cq:=(y130,y140)
 let y142:=(ak x.1 15)
 let y143:=(ak x.1 14)
 let y144:=(ak x.1 22)
 let y145:=(ak x.1 23)
 let y146:=(ak x.1 19)
 let y147:=(ak x.1 20)
 let y148:=(ak x.1 16)
 let y149:=(ak x.1 17)
 let y150:=(ak x.1 18)
 let y151:Int:=(cond y69 0 (cond y129 1 (cond y142 2 (cond y143 3 (cond y144 4 (cond y145 6 (cond y146 0 (cond y147 1 (cond y148 4 (cond y149 5 (cond y150 7 0)))))))))))
 let y152:bM:=(1,0)
 let y153:bD:=(y151,y152)
 let y154:cr:=(y141,(((),((),([255],y153))),true))
 .ret (.inr y154)) (
 let y155:=(ak x.1 15)
 let y156:=(ak x.1 14)
 let y157:=(ak x.1 22)
 let y158:=(ak x.1 23)
 let y159:=(ak x.1 19)
 let y160:=(ak x.1 20)
 let y161:=(ak x.1 16)
 let y162:=(ak x.1 17)
 let y163:=(ak x.1 18)
 let y164:Int:=(cond y69 0 (cond y129 1 (cond y155 2 (cond y156 3 (cond y157 4 (cond y158 6 (cond y159 0 (cond y160 1 (cond y161 4 (cond y162 5 (cond y163 7 0)))))))))))
 .ret (.inl (.h5 y130 y164 [255])))) (
 let y165:=(ak x.1 15)
 let y166:=(ak x.1 14)
 let y167:=(ak x.1 22)
 let y168:=(ak x.1 23)
 let y169:=(ak x.1 19)
 let y170:=(ak x.1 20)
 let y171:=(ak x.1 16)
 let y172:=(ak x.1 17)
 let y173:=(ak x.1 18)
 let y174:Int:=(cond y69 0 (cond y129 1 (cond y165 2 (cond y166 3 (cond y167 4 (cond y168 6 (cond y169 0 (cond y170 1 (cond y171 4 (cond y172 5 (cond y173 7 0)))))))))))
 .ret (.inl (.h5 y130 y174 [255])))) (
 let y175:=(ak x.1 15)
 let y176:=(ak x.1 14)
 let y177:=(ak x.1 22)
 let y178:=(ak x.1 23)
 let y179:=(ak x.1 19)
 let y180:=(ak x.1 20)
 let y181:=(ak x.1 16)
 let y182:=(ak x.1 17)
 let y183:=(ak x.1 18)
 let y184:Int:=(cond y69 0 (cond y129 1 (cond y175 2 (cond y176 3 (cond y177 4 (cond y178 6 (cond y179 0 (cond y180 1 (cond y181 4 (cond y182 5 (cond y183 7 0)))))))))))
 .ret (.inl (.h5 y130 y184 [255])))) (
 let y185:=(ak x.1 15)
 .ite y185 (
 .aa ((0:Nat) < 1)<|
 .aa ((0:Nat) < 2)<|
 .aa ((1:Nat) < 2)<|
 .aa ((0:Int)≤0)<|
 .aa (0 < (1:Int))<|
 .aa ((0:Int)≤0)<|
 .aa (0 < (1:Int))<|
 .aa (((0:Nat)+2:Nat)≤2)<|
 let y186:ao:=[4,8]
 let y187:=x.2.2
 let y188:=y187.1
 let y189:bq:=(y186,y188)
 .aa (aO y189)<|
 let y190:=((bf y189)==true)
 .ite y190 (
 let y191:=y187.2
 let y192:=y191.1
 .aa (dq y192)<|
 let y193:=((eC y192)==true)
 .ite y193 (
 let y194:=y191.2.1
 .aa (a8 y194)<|
 let y195:=((bH y194)==true)
 .ite y195 (
 .aa (((0:Nat)+2:Nat)≤2)<|
 .aa (((0:Nat)+1:Nat)≤1)<|
 let y196:cI:=(0,())
 let y197:cq:=(y186,y196)
 let y198:=(ak x.1 14)
 let y199:=(ak x.1 22)
 let y200:=(ak x.1 23)
 let y201:=(ak x.1 19)
 let y202:=(ak x.1 20)
 let y203:=(ak x.1 16)
 let y204:=(ak x.1 17)
 let y205:=(ak x.1 18)
 let y206:Int:=(cond y69 0 (cond y129 1 (cond y185 2 (cond y198 3 (cond y199 4 (cond y200 6 (cond y201 0 (cond y202 1 (cond y203 4 (cond y204 5 (cond y205 7 0)))))))))))
 let y207:bM:=(1,0)
 let y208:bD:=(y206,y207)
 let y209:cr:=(y197,(((),((),([247],y208))),true))
 .ret (.inr y209)) (
 let y210:=(ak x.1 14)
 let y211:=(ak x.1 22)
 let y212:=(ak x.1 23)
 let y213:=(ak x.1 19)
 let y214:=(ak x.1 20)
 let y215:=(ak x.1 16)
 let y216:=(ak x.1 17)
 let y217:=(ak x.1 18)
 let y218:Int:=(cond y69 0 (cond y129 1 (cond y185 2 (cond y210 3 (cond y211 4 (cond y212 6 (cond y213 0 (cond y214 1 (cond y215 4 (cond y216 5 (cond y217 7 0)))))))))))
 .ret (.inl (.h5 y186 y218 [247])))) (
 let y219:=(ak x.1 14)
 let y220:=(ak x.1 22)
 let y221:=(ak x.1 23)
 let y222:=(ak x.1 19)
 let y223:=(ak x.1 20)
 let y224:=(ak x.1 16)
 let y225:=(ak x.1 17)
 let y226:=(ak x.1 18)
 let y227:Int:=(cond y69 0 (cond y129 1 (cond y185 2 (cond y219 3 (cond y220 4 (cond y221 6 (cond y222 0 (cond y223 1 (cond y224 4 (cond y225 5 (cond y226 7 0)))))))))))
 .ret (.inl (.h5 y186 y227 [247])))) (
 let y228:=(ak x.1 14)
 let y229:=(ak x.1 22)
 let y230:=(ak x.1 23)
 let y231:=(ak x.1 19)
 let y232:=(ak x.1 20)
 let y233:=(ak x.1 16)
 let y234:=(ak x.1 17)
 let y235:=(ak x.1 18)
 let y236:Int:=(cond y69 0 (cond y129 1 (cond y185 2 (cond y228 3 (cond y229 4 (cond y230 6 (cond y231 0 (cond y232 1 (cond y233 4 (cond y234 5 (cond y235 7 0)))))))))))
 .ret (.inl (.h5 y186 y236 [247])))) (
 let y237:=(ak x.1 14)
 .ite y237 (
 .aa ((0:Nat) < 1)<|
 .aa ((0:Nat) < 2)<|
 .aa ((1:Nat) < 2)<|
 .aa ((0:Int)≤0)<|
 .aa (0 < (1:Int))<|
 .aa ((0:Int)≤0)<|
 .aa (0 < (1:Int))<|
 .aa (((0:Nat)+2:Nat)≤2)<|
 let y238:ao:=[4,8]
 let y239:=x.2.2
 let y240:=y239.1
 let y241:bq:=(y238,y240)
 .aa (aO y241)<|
 let y242:=((bf y241)==true)
 .ite y242 (
 let y243:=y239.2
 let y244:=y243.1
 .aa (dq y244)<|
 let y245:=((eC y244)==true)
 .ite y245 (
 let y246:=y243.2.1
 .aa (a8 y246)<|
 let y247:=((bH y246)==true)
 .ite y247 (
 .aa (((0:Nat)+2:Nat)≤2)<|
 .aa (((0:Nat)+1:Nat)≤1)<|
 let y248:cI:=(0,())
 let y249:cq:=(y238,y248)
 let y250:=(ak x.1 22)
 let y251:=(ak x.1 23)
 let y252:=(ak x.1 19)
 let y253:=(ak x.1 20)
 let y254:=(ak x.1 16)
 let y255:=(ak x.1 17)
 let y256:=(ak x.1 18)
 let y257:Int:=(cond y69 0 (cond y129 1 (cond y185 2 (cond y237 3 (cond y250 4 (cond y251 6 (cond y252 0 (cond y253 1 (cond y254 4 (cond y255 5 (cond y256 7 0)))))))))))
 let y258:bM:=(1,0)
 let y259:bD:=(y257,y258)
 let y260:cr:=(y249,(((),((),([247],y259))),true))
 .ret (.inr y260)) (
 let y261:=(ak x.1 22)
 let y262:=(ak x.1 23)
 let y263:=(ak x.1 19)
 let y264:=(ak x.1 20)
 let y265:=(ak x.1 16)
 let y266:=(ak x.1 17)
 let y267:=(ak x.1 18)
 let y268:Int:=(cond y69 0 (cond y129 1 (cond y185 2 (cond y237 3 (cond y261 4 (cond y262 6 (cond y263 0 (cond y264 1 (cond y265 4 (cond y266 5 (cond y267 7 0)))))))))))
 .ret (.inl (.h5 y238 y268 [247])))) (
 let y269:=(ak x.1 22)
 let y270:=(ak x.1 23)
 let y271:=(ak x.1 19)
 let y272:=(ak x.1 20)
 let y273:=(ak x.1 16)
 let y274:=(ak x.1 17)
 let y275:=(ak x.1 18)
 let y276:Int:=(cond y69 0 (cond y129 1 (cond y185 2 (cond y237 3 (cond y269 4 (cond y270 6 (cond y271 0 (cond y272 1 (cond y273 4 (cond y274 5 (cond y275 7 0)))))))))))
 .ret (.inl (.h5 y238 y276 [247])))) (
 let y277:=(ak x.1 22)
 let y278:=(ak x.1 23)
 let y279:=(ak x.1 19)
 let y280:=(ak x.1 20)
 let y281:=(ak x.1 16)
 let y282:=(ak x.1 17)
 let y283:=(ak x.1 18)
 let y284:Int:=(cond y69 0 (cond y129 1 (cond y185 2 (cond y237 3 (cond y277 4 (cond y278 6 (cond y279 0 (cond y280 1 (cond y281 4 (cond y282 5 (cond y283 7 0)))))))))))
 .ret (.inl (.h5 y238 y284 [247])))) (
 let y285:=(ak x.1 22)
 .ite y285 (
 .aa ((0:Nat) < 1)<|
 .aa ((0:Nat) < 2)<|
 .aa ((1:Nat) < 2)<|
 .aa ((0:Int)≤0)<|
 .aa (0 < (1:Int))<|
 .aa ((0:Int)≤0)<|
 .aa (0 < (1:Int))<|
 .aa (((0:Nat)+2:Nat)≤2)<|
 let y286:ao:=[4,8]
 let y287:=x.2.2
 let y288:=y287.1
 let y289:bq:=(y286,y288)
 .aa (aO y289)<|
 let y290:=((bf y289)==true)
 .ite y290 (
 let y291:=y287.2
 let y292:=y291.1
 .aa (dq y292)<|
 let y293:=((eC y292)==true)
 .ite y293 (
 let y294:=y291.2.1
 .aa (a8 y294)<|
 let y295:=((bH y294)==true)
 .ite y295 (
 .aa (((0:Nat)+2:Nat)≤2)<|
 .aa (((0:Nat)+1:Nat)≤1)<|
 let y296:cI:=(0,())
 let y297:cq:=(y286,y296)
 let y298:=(ak x.1 23)
 let y299:=(ak x.1 19)
 let y300:=(ak x.1 20)
 let y301:=(ak x.1 16)
 let y302:=(ak x.1 17)
 let y303:=(ak x.1 18)
 let y304:Int:=(cond y69 0 (cond y129 1 (cond y185 2 (cond y237 3 (cond y285 4 (cond y298 6 (cond y299 0 (cond y300 1 (cond y301 4 (cond y302 5 (cond y303 7 0)))))))))))
 let y305:bM:=(1,0)
 let y306:bD:=(y304,y305)
 let y307:cr:=(y297,(((),((),([247],y306))),true))
 .ret (.inr y307)) (
 let y308:=(ak x.1 23)
 let y309:=(ak x.1 19)
 let y310:=(ak x.1 20)
 let y311:=(ak x.1 16)
 let y312:=(ak x.1 17)
 let y313:=(ak x.1 18)
 let y314:Int:=(cond y69 0 (cond y129 1 (cond y185 2 (cond y237 3 (cond y285 4 (cond y308 6 (cond y309 0 (cond y310 1 (cond y311 4 (cond y312 5 (cond y313 7 0)))))))))))
 .ret (.inl (.h5 y286 y314 [247])))) (
 let y315:=(ak x.1 23)
 let y316:=(ak x.1 19)
 let y317:=(ak x.1 20)
 let y318:=(ak x.1 16)
 let y319:=(ak x.1 17)
 let y320:=(ak x.1 18)
 let y321:Int:=(cond y69 0 (cond y129 1 (cond y185 2 (cond y237 3 (cond y285 4 (cond y315 6 (cond y316 0 (cond y317 1 (cond y318 4 (cond y319 5 (cond y320 7 0)))))))))))
 .ret (.inl (.h5 y286 y321 [247])))) (
 let y322:=(ak x.1 23)
 let y323:=(ak x.1 19)
 let y324:=(ak x.1 20)
 let y325:=(ak x.1 16)
 let y326:=(ak x.1 17)
 let y327:=(ak x.1 18)
 let y328:Int:=(cond y69 0 (cond y129 1 (cond y185 2 (cond y237 3 (cond y285 4 (cond y322 6 (cond y323 0 (cond y324 1 (cond y325 4 (cond y326 5 (cond y327 7 0)))))))))))
 .ret (.inl (.h5 y286 y328 [247])))) (
 let y329:=(ak x.1 23)
 .ite y329 (
 .aa ((0:Nat) < 1)<|
 .aa ((0:Nat) < 2)<|
 .aa ((1:Nat) < 2)<|
 .aa ((0:Int)≤0)<|
 .aa (0 < (1:Int))<|
 .aa ((0:Int)≤0)<|
 .aa (0 < (1:Int))<|
 .aa (((0:Nat)+2:Nat)≤2)<|
 let y330:ao:=[4,8]
 let y331:=x.2.2
 let y332:=y331.1
 let y333:bq:=(y330,y332)
 .aa (aO y333)<|
 let y334:=((bf y333)==true)
 .ite y334 (
 let y335:=y331.2
 let y336:=y335.1
 .aa (dq y336)<|
 let y337:=((eC y336)==true)
 .ite y337 (
 let y338:=y335.2.1
 .aa (a8 y338)<|
 let y339:=((bH y338)==true)
 .ite y339 (
 .aa (((0:Nat)+2:Nat)≤2)<|
 .aa (((0:Nat)+1:Nat)≤1)<|
 let y340:cI:=(0,())
 let y341:cq:=(y330,y340)
 let y342:=(ak x.1 19)
 let y343:=(ak x.1 20)
 let y344:=(ak x.1 16)
 let y345:=(ak x.1 17)
 let y346:=(ak x.1 18)
 let y347:Int:=(cond y69 0 (cond y129 1 (cond y185 2 (cond y237 3 (cond y285 4 (cond y329 6 (cond y342 0 (cond y343 1 (cond y344 4 (cond y345 5 (cond y346 7 0)))))))))))
 let y348:bM:=(1,0)
 let y349:bD:=(y347,y348)
 let y350:cr:=(y341,(((),((),([247],y349))),true))
 .ret (.inr y350)) (
 let y351:=(ak x.1 19)
 let y352:=(ak x.1 20)
 let y353:=(ak x.1 16)
 let y354:=(ak x.1 17)
 let y355:=(ak x.1 18)
 let y356:Int:=(cond y69 0 (cond y129 1 (cond y185 2 (cond y237 3 (cond y285 4 (cond y329 6 (cond y351 0 (cond y352 1 (cond y353 4 (cond y354 5 (cond y355 7 0)))))))))))
 .ret (.inl (.h5 y330 y356 [247])))) (
 let y357:=(ak x.1 19)
 let y358:=(ak x.1 20)
 let y359:=(ak x.1 16)
 let y360:=(ak x.1 17)
 let y361:=(ak x.1 18)
 let y362:Int:=(cond y69 0 (cond y129 1 (cond y185 2 (cond y237 3 (cond y285 4 (cond y329 6 (cond y357 0 (cond y358 1 (cond y359 4 (cond y360 5 (cond y361 7 0)))))))))))
 .ret (.inl (.h5 y330 y362 [247])))) (
 let y363:=(ak x.1 19)
 let y364:=(ak x.1 20)
 let y365:=(ak x.1 16)
 let y366:=(ak x.1 17)
 let y367:=(ak x.1 18)
 let y368:Int:=(cond y69 0 (cond y129 1 (cond y185 2 (cond y237 3 (cond y285 4 (cond y329 6 (cond y363 0 (cond y364 1 (cond y365 4 (cond y366 5 (cond y367 7 0)))))))))))
 .ret (.inl (.h5 y330 y368 [247])))) (
 let y369:=(ak x.1 19)
 .ite y369 (
 .aa ((0:Nat) < 1)<|
 .aa ((0:Nat) < 1)<|
 .aa ((0:Nat) < 2)<|
 .aa ((1:Nat) < 2)<|
 .aa ((0:Int)≤0)<|
 .aa (0 < (1:Int))<|
 .aa ((0:Int)≤0)<|
 .aa (0 < (2:Int))<|
 .aa (((0:Nat)+2:Nat)≤2)<|
 let y370:ao:=[4,8]
 let y371:=x.2.2
 let y372:=y371.1
 let y373:bq:=(y370,y372)
 .aa (aO y373)<|
 let y374:=((bf y373)==true)
 .ite y374 (
 let y375:=y371.2
 let y376:=y375.1
 .aa (dq y376)<|
 let y377:=((eC y376)==true)
 .ite y377 (
 let y378:=y375.2.1
 .aa (mj y378)<|
 let y379:=((sg y378)==true)
 .ite y379 (
 .aa (((0:Nat)+2:Nat)≤2)<|
 .aa (((0:Nat)+1:Nat)≤1)<|
 let y380:cI:=(0,())
 let y381:cq:=(y370,y380)
 let y382:=(ak x.1 20)
 let y383:=(ak x.1 16)
 let y384:=(ak x.1 17)
 let y385:=(ak x.1 18)
 let y386:Int:=(cond y69 0 (cond y129 1 (cond y185 2 (cond y237 3 (cond y285 4 (cond y329 6 (cond y369 0 (cond y382 1 (cond y383 4 (cond y384 5 (cond y385 7 0)))))))))))
 let y387:cr:=(y381,(((),((),([193],(y386,(1,1))))),true))
 .ret (.inr y387)) (
 let y388:=(ak x.1 20)
 let y389:=(ak x.1 16)
 let y390:=(ak x.1 17)
 let y391:=(ak x.1 18)
 let y392:Int:=(cond y69 0 (cond y129 1 (cond y185 2 (cond y237 3 (cond y285 4 (cond y329 6 (cond y369 0 (cond y388 1 (cond y389 4 (cond y390 5 (cond y391 7 0)))))))))))
 .ret (.inl (.h6 y370 y392 y392 [193] [211])))) (
 let y393:=(ak x.1 20)
 let y394:=(ak x.1 16)
 let y395:=(ak x.1 17)
 let y396:=(ak x.1 18)
 let y397:Int:=(cond y69 0 (cond y129 1 (cond y185 2 (cond y237 3 (cond y285 4 (cond y329 6 (cond y369 0 (cond y393 1 (cond y394 4 (cond y395 5 (cond y396 7 0)))))))))))
 .ret (.inl (.h6 y370 y397 y397 [193] [211])))) (
 let y398:=(ak x.1 20)
 let y399:=(ak x.1 16)
 let y400:=(ak x.1 17)
 let y401:=(ak x.1 18)
 let y402:Int:=(cond y69 0 (cond y129 1 (cond y185 2 (cond y237 3 (cond y285 4 (cond y329 6 (cond y369 0 (cond y398 1 (cond y399 4 (cond y400 5 (cond y401 7 0)))))))))))
 .ret (.inl (.h6 y370 y402 y402 [193] [211])))) (
 let y403:=(ak x.1 20)
 .ite y403 (
 .aa ((0:Nat) < 1)<|
 .aa ((0:Nat) < 1)<|
 .aa ((0:Nat) < 2)<|
 .aa ((1:Nat) < 2)<|
 .aa ((0:Int)≤0)<|
 .aa (0 < (1:Int))<|
 .aa ((0:Int)≤0)<|
 .aa (0 < (2:Int))<|
 .aa (((0:Nat)+2:Nat)≤2)<|
 let y404:ao:=[4,8]
 let y405:=x.2.2
 let y406:=y405.1
 let y407:bq:=(y404,y406)
 .aa (aO y407)<|
 let y408:=((bf y407)==true)
 .ite y408 (
 let y409:=y405.2
 let y410:=y409.1
 .aa (dq y410)<|
 let y411:=((eC y410)==true)
 .ite y411 (
 let y412:=y409.2.1
 .aa (mj y412)<|
 let y413:=((sg y412)==true)
 .ite y413 (
 .aa (((0:Nat)+2:Nat)≤2)<|
 .aa (((0:Nat)+1:Nat)≤1)<|
 let y414:cI:=(0,())
 let y415:cq:=(y404,y414)
 let y416:=(ak x.1 16)
 let y417:=(ak x.1 17)
 let y418:=(ak x.1 18)
 let y419:Int:=(cond y69 0 (cond y129 1 (cond y185 2 (cond y237 3 (cond y285 4 (cond y329 6 (cond y369 0 (cond y403 1 (cond y416 4 (cond y417 5 (cond y418 7 0)))))))))))
 let y420:cr:=(y415,(((),((),([193],(y419,(1,1))))),true))
 .ret (.inr y420)) (
 let y421:=(ak x.1 16)
 let y422:=(ak x.1 17)
 let y423:=(ak x.1 18)
 let y424:Int:=(cond y69 0 (cond y129 1 (cond y185 2 (cond y237 3 (cond y285 4 (cond y329 6 (cond y369 0 (cond y403 1 (cond y421 4 (cond y422 5 (cond y423 7 0)))))))))))
 .ret (.inl (.h6 y404 y424 y424 [193] [211])))) (
 let y425:=(ak x.1 16)
 let y426:=(ak x.1 17)
 let y427:=(ak x.1 18)
 let y428:Int:=(cond y69 0 (cond y129 1 (cond y185 2 (cond y237 3 (cond y285 4 (cond y329 6 (cond y369 0 (cond y403 1 (cond y425 4 (cond y426 5 (cond y427 7 0)))))))))))
 .ret (.inl (.h6 y404 y428 y428 [193] [211])))) (
 let y429:=(ak x.1 16)
 let y430:=(ak x.1 17)
 let y431:=(ak x.1 18)
 let y432:Int:=(cond y69 0 (cond y129 1 (cond y185 2 (cond y237 3 (cond y285 4 (cond y329 6 (cond y369 0 (cond y403 1 (cond y429 4 (cond y430 5 (cond y431 7 0)))))))))))
 .ret (.inl (.h6 y404 y432 y432 [193] [211])))) (
 let y433:=(ak x.1 16)
 .ite y433 (
 .aa ((0:Nat) < 1)<|
 .aa ((0:Nat) < 1)<|
 .aa ((0:Nat) < 2)<|
 .aa ((1:Nat) < 2)<|
 .aa ((0:Int)≤0)<|
 .aa (0 < (1:Int))<|
 .aa ((0:Int)≤0)<|
 .aa (0 < (2:Int))<|
 .aa (((0:Nat)+2:Nat)≤2)<|
 let y434:ao:=[4,8]
 let y435:=x.2.2
 let y436:=y435.1
 let y437:bq:=(y434,y436)
 .aa (aO y437)<|
 let y438:=((bf y437)==true)
 .ite y438 (
 let y439:=y435.2
 let y440:=y439.1
 .aa (dq y440)<|
 let y441:=((eC y440)==true)
 .ite y441 (
 let y442:=y439.2.1
 .aa (mj y442)<|
 let y443:=((sg y442)==true)
 .ite y443 (
 .aa (((0:Nat)+2:Nat)≤2)<|
 .aa (((0:Nat)+1:Nat)≤1)<|
 let y444:cI:=(0,())
 let y445:cq:=(y434,y444)
 let y446:=(ak x.1 17)
 let y447:=(ak x.1 18)
 let y448:Int:=(cond y69 0 (cond y129 1 (cond y185 2 (cond y237 3 (cond y285 4 (cond y329 6 (cond y369 0 (cond y403 1 (cond y433 4 (cond y446 5 (cond y447 7 0)))))))))))
 let y449:cr:=(y445,(((),((),([193],(y448,(1,1))))),true))
 .ret (.inr y449)) (
 let y450:=(ak x.1 17)
 let y451:=(ak x.1 18)
 let y452:Int:=(cond y69 0 (cond y129 1 (cond y185 2 (cond y237 3 (cond y285 4 (cond y329 6 (cond y369 0 (cond y403 1 (cond y433 4 (cond y450 5 (cond y451 7 0)))))))))))
 .ret (.inl (.h6 y434 y452 y452 [193] [211])))) (
 let y453:=(ak x.1 17)
 let y454:=(ak x.1 18)
 let y455:Int:=(cond y69 0 (cond y129 1 (cond y185 2 (cond y237 3 (cond y285 4 (cond y329 6 (cond y369 0 (cond y403 1 (cond y433 4 (cond y453 5 (cond y454 7 0)))))))))))
 .ret (.inl (.h6 y434 y455 y455 [193] [211])))) (
 let y456:=(ak x.1 17)
 let y457:=(ak x.1 18)
 let y458:Int:=(cond y69 0 (cond y129 1 (cond y185 2 (cond y237 3 (cond y285 4 (cond y329 6 (cond y369 0 (cond y403 1 (cond y433 4 (cond y456 5 (cond y457 7 0)))))))))))
 .ret (.inl (.h6 y434 y458 y458 [193] [211])))) (
 let y459:=(ak x.1 17)
 .ite y459 (
 .aa ((0:Nat) < 1)<|
 .aa ((0:Nat) < 1)<|
 .aa ((0:Nat) < 2)<|
 .aa ((1:Nat) < 2)<|
 .aa ((0:Int)≤0)<|
 .aa (0 < (1:Int))<|
 .aa ((0:Int)≤0)<|
 .aa (0 < (2:Int))<|
 .aa (((0:Nat)+2:Nat)≤2)<|
 let y460:ao:=[4,8]
 let y461:=x.2.2
 let y462:=y461.1
 let y463:bq:=(y460,y462)
 .aa (aO y463)<|
 let y464:=((bf y463)==true)
 .ite y464 (
 let y465:=y461.2
 let y466:=y465.1
 .aa (dq y466)<|
 let y467:=((eC y466)==true)
 .ite y467 (
 let y468:=y465.2.1
 .aa (mj y468)<|
 let y469:=((sg y468)==true)
 .ite y469 (
 .aa (((0:Nat)+2:Nat)≤2)<|
 .aa (((0:Nat)+1:Nat)≤1)<|
 let y470:cI:=(0,())
 let y471:cq:=(y460,y470)
 let y472:=(ak x.1 18)
 let y473:Int:=(cond y69 0 (cond y129 1 (cond y185 2 (cond y237 3 (cond y285 4 (cond y329 6 (cond y369 0 (cond y403 1 (cond y433 4 (cond y459 5 (cond y472 7 0)))))))))))
 let y474:cr:=(y471,(((),((),([193],(y473,(1,1))))),true))
 .ret (.inr y474)) (
 let y475:=(ak x.1 18)
 let y476:Int:=(cond y69 0 (cond y129 1 (cond y185 2 (cond y237 3 (cond y285 4 (cond y329 6 (cond y369 0 (cond y403 1 (cond y433 4 (cond y459 5 (cond y475 7 0)))))))))))
 .ret (.inl (.h6 y460 y476 y476 [193] [211])))) (
 let y477:=(ak x.1 18)
 let y478:Int:=(cond y69 0 (cond y129 1 (cond y185 2 (cond y237 3 (cond y285 4 (cond y329 6 (cond y369 0 (cond y403 1 (cond y433 4 (cond y459 5 (cond y477 7 0)))))))))))
 .ret (.inl (.h6 y460 y478 y478 [193] [211])))) (
 let y479:=(ak x.1 18)
 let y480:Int:=(cond y69 0 (cond y129 1 (cond y185 2 (cond y237 3 (cond y285 4 (cond y329 6 (cond y369 0 (cond y403 1 (cond y433 4 (cond y459 5 (cond y479 7 0)))))))))))
 .ret (.inl (.h6 y460 y480 y480 [193] [211])))) (
 let y481:=(ak x.1 18)
 .ite y481 (
 .aa ((0:Nat) < 1)<|
 .aa ((0:Nat) < 1)<|
 .aa ((0:Nat) < 2)<|
 .aa ((1:Nat) < 2)<|
 .aa ((0:Int)≤0)<|
 .aa (0 < (1:Int))<|
 .aa ((0:Int)≤0)<|
 .aa (0 < (2:Int))<|
 .aa (((0:Nat)+2:Nat)≤2)<|
 let y482:ao:=[4,8]
 let y483:=x.2.2
 let y484:=y483.1
 let y485:bq:=(y482,y484)
 .aa (aO y485)<|
 let y486:=((bf y485)==true)
 .ite y486 (
 let y487:=y483.2
 let y488:=y487.1
 .aa (dq y488)<|
 let y489:=((eC y488)==true)
 .ite y489 (
 let y490:=y487.2.1
 .aa (mj y490)<|
 let y491:=((sg y490)==true)
 .ite y491 (
 .aa (((0:Nat)+2:Nat)≤2)<|
 .aa (((0:Nat)+1:Nat)≤1)<|
 let y492:cI:=(0,())
 let y493:cq:=(y482,y492)
 let y494:Int:=(cond y69 0 (cond y129 1 (cond y185 2 (cond y237 3 (cond y285 4 (cond y329 6 (cond y369 0 (cond y403 1 (cond y433 4 (cond y459 5 (cond y481 7 0)))))))))))
 let y495:cr:=(y493,(((),((),([193],(y494,(1,1))))),true))
 .ret (.inr y495)) (
 let y496:Int:=(cond y69 0 (cond y129 1 (cond y185 2 (cond y237 3 (cond y285 4 (cond y329 6 (cond y369 0 (cond y403 1 (cond y433 4 (cond y459 5 (cond y481 7 0)))))))))))
 .ret (.inl (.h6 y482 y496 y496 [193] [211])))) (
 let y497:Int:=(cond y69 0 (cond y129 1 (cond y185 2 (cond y237 3 (cond y285 4 (cond y329 6 (cond y369 0 (cond y403 1 (cond y433 4 (cond y459 5 (cond y481 7 0)))))))))))
 .ret (.inl (.h6 y482 y497 y497 [193] [211])))) (
 let y498:Int:=(cond y69 0 (cond y129 1 (cond y185 2 (cond y237 3 (cond y285 4 (cond y329 6 (cond y369 0 (cond y403 1 (cond y433 4 (cond y459 5 (cond y481 7 0)))))))))))
 .ret (.inl (.h6 y482 y498 y498 [193] [211])))) (
 .ite (ak x.1 21) (
 .aa ((0:Nat) < 2)<|
 .aa ((1:Nat) < 2)<|
 .aa ((0:Nat) < 2)<|
 .aa ((1:Nat) < 2)<|
 .aa ((0:Int)≤0)<|
 .aa (0 < (1:Int))<|
 .aa ((0:Int)≤0)<|
 .aa (0 < (1:Int))<|
 .aa (((0:Nat)+2:Nat)≤2)<|
 let y499:ao:=[4,8]
 let y500:=x.2.2
 let y501:=y500.1
 let y502:bq:=(y499,y501)
 .aa (aO y502)<|
 let y503:=((bf y502)==true)
 .ite y503 (
 let y504:=y500.2
 let y505:=y504.1
 .aa (dn y505)<|
 let y506:=((ez y505)==true)
 .ite y506 (
 let y507:=y504.2.1
 .aa (dq y507)<|
 let y508:=((eC y507)==true)
 .ite y508 (
 .aa (((0:Nat)+2:Nat)≤2)<|
 .aa (((0:Nat)+2:Nat)≤2)<|
 let y509:cI:=(0,())
 let y510:cq:=(y499,y509)
 let y511:ao:=[15,175]
 let y512:bD:=((-1),(2,0))
 .ret (.inr (y510,(((),((),(y511,y512))),true)))) (
 let y513:ao:=[15,175]
 .ret (.inl (.h7 y499 y513)))) (
 let y514:ao:=[15,175]
 .ret (.inl (.h7 y499 y514)))) (
 let y515:ao:=[15,175]
 .ret (.inl (.h7 y499 y515)))) (
 .ite (ak x.1 30) (
 .aa ((0:Nat) < 2)<|
 .aa ((1:Nat) < 2)<|
 .aa ((0:Nat) < 2)<|
 .aa ((1:Nat) < 2)<|
 .aa ((0:Int)≤0)<|
 .aa (0 < (1:Int))<|
 .aa ((0:Int)≤0)<|
 .aa (0 < (1:Int))<|
 .aa (((0:Nat)+2:Nat)≤2)<|
 let y516:ao:=[4,8]
 let y517:=x.2.2
 let y518:=y517.1
 let y519:bq:=(y516,y518)
 .aa (aO y519)<|
 let y520:=((bf y519)==true)
 .ite y520 (
 let y521:=y517.2
 let y522:=y521.1
 .aa (dn y522)<|
 let y523:=((ez y522)==true)
 .ite y523 (
 let y524:=y521.2.1
 .aa (dq y524)<|
 let y525:=((eC y524)==true)
 .ite y525 (
 .aa (((0:Nat)+2:Nat)≤2)<|
 .aa (((0:Nat)+2:Nat)≤2)<|
 let y526:cI:=(0,())
 let y527:cq:=(y516,y526)
 let y528:Int:=(cP .u8 x.2.1 15)
 let y529:ao:=[15,(aK .u8 64 y528)]
 let y530:bD:=((-1),(2,0))
 .ret (.inr (y527,(((),((),(y529,y530))),true)))) (
 let y531:Int:=(cP .u8 x.2.1 15)
 let y532:ao:=[15,(aK .u8 64 y531)]
 .ret (.inl (.h7 y516 y532)))) (
 let y533:Int:=(cP .u8 x.2.1 15)
 let y534:ao:=[15,(aK .u8 64 y533)]
 .ret (.inl (.h7 y516 y534)))) (
 let y535:Int:=(cP .u8 x.2.1 15)
 let y536:ao:=[15,(aK .u8 64 y535)]
 .ret (.inl (.h7 y516 y536)))) (
 .ite (ak x.1 31) (
 .aa ((0:Nat) < 1)<|
 .aa ((0:Nat) < 2)<|
 .aa ((1:Nat) < 2)<|
 .aa ((0:Int)≤0)<|
 .aa (0 < (1:Int))<|
 .aa ((0:Int)≤0)<|
 .aa (0 < (1:Int))<|
 .aa (((0:Nat)+1:Nat)≤1)<|
 let y537:=x.2.2
 let y538:=y537.1
 let y539:bq:=([1],y538)
 .aa (aO y539)<|
 let y540:=((bf y539)==true)
 .ite y540 (
 let y541:=y537.2
 let y542:=y541.1
 .aa (dq y542)<|
 let y543:=((eC y542)==true)
 .ite y543 (
 let y544:=y541.2.1
 .aa (a8 y544)<|
 let y545:=((bH y544)==true)
 .ite y545 (
 .aa (((0:Nat)+1:Nat)≤1)<|
 .aa (((0:Nat)+2:Nat)≤2)<|
 let y546:cI:=(0,())
 let y547:cq:=([1],y546)
 let y548:Int:=(cP .u8 x.2.1 15)
 let y549:ao:=[15,(aK .u8 144 y548)]
 let y550:bM:=(1,0)
 .ret (.inr (y547,(((),((),(y549,(0,y550)))),true)))) (
 let y551:Int:=(cP .u8 x.2.1 15)
 let y552:ao:=[15,(aK .u8 144 y551)]
 .ret (.inl (.h8 [1] y552)))) (
 let y553:Int:=(cP .u8 x.2.1 15)
 let y554:ao:=[15,(aK .u8 144 y553)]
 .ret (.inl (.h8 [1] y554)))) (
 let y555:Int:=(cP .u8 x.2.1 15)
 let y556:ao:=[15,(aK .u8 144 y555)]
 .ret (.inl (.h8 [1] y556)))) (
 .ite (ak x.1 32) (
 .aa ((0:Nat) < 2)<|
 .aa ((1:Nat) < 2)<|
 .aa ((0:Nat) < 2)<|
 .aa ((1:Nat) < 2)<|
 .aa ((0:Int)≤0)<|
 .aa (0 < (1:Int))<|
 .aa ((0:Int)≤0)<|
 .aa (0 < (1:Int))<|
 .aa (((0:Nat)+2:Nat)≤2)<|
 let y557:ao:=[4,8]
 let y558:=x.2.2
 let y559:=y558.1
 let y560:bq:=(y557,y559)
 .aa (aO y560)<|
 let y561:=((bf y560)==true)
 .ite y561 (
 let y562:=y558.2
 let y563:=y562.1
 .aa (dn y563)<|
 let y564:=((ez y563)==true)
 .ite y564 (
 let y565:=y562.2.1
 .aa (dq y565)<|
 let y566:=((eC y565)==true)
 .ite y566 (
 .aa (((0:Nat)+2:Nat)≤2)<|
 .aa (((0:Nat)+2:Nat)≤2)<|
 let y567:cI:=(0,())
 let y568:cq:=(y557,y567)
 let y569:ao:=[15,182]
 let y570:bD:=((-1),(2,0))
 .ret (.inr (y568,(((),((),(y569,y570))),true)))) (
 let y571:ao:=[15,182]
 .ret (.inl (.h7 y557 y571)))) (
 let y572:ao:=[15,182]
 .ret (.inl (.h7 y557 y572)))) (
 let y573:ao:=[15,182]
 .ret (.inl (.h7 y557 y573)))) (
 .ite (ak x.1 33) (
 .aa ((0:Nat) < 2)<|
 .aa ((1:Nat) < 2)<|
 .aa ((0:Nat) < 2)<|
 .aa ((1:Nat) < 2)<|
 .aa ((0:Int)≤0)<|
 .aa (0 < (1:Int))<|
 .aa ((0:Int)≤0)<|
 .aa (0 < (1:Int))<|
 .aa (((0:Nat)+2:Nat)≤2)<|
 let y574:ao:=[4,8]
 let y575:=x.2.2
 let y576:=y575.1
 let y577:bq:=(y574,y576)
 .aa (aO y577)<|
 let y578:=((bf y577)==true)
 .ite y578 (
 let y579:=y575.2
 let y580:=y579.1
 .aa (dn y580)<|
 let y581:=((ez y580)==true)
 .ite y581 (
 let y582:=y579.2.1
 .aa (dq y582)<|
 let y583:=((eC y582)==true)
 .ite y583 (
 .aa (((0:Nat)+2:Nat)≤2)<|
 .aa (((0:Nat)+2:Nat)≤2)<|
 let y584:cI:=(0,())
 let y585:cq:=(y574,y584)
 let y586:ao:=[15,190]
 let y587:bD:=((-1),(2,0))
 .ret (.inr (y585,(((),((),(y586,y587))),true)))) (
 let y588:ao:=[15,190]
 .ret (.inl (.h7 y574 y588)))) (
 let y589:ao:=[15,190]
 .ret (.inl (.h7 y574 y589)))) (
 let y590:ao:=[15,190]
 .ret (.inl (.h7 y574 y590)))) (
 .ite (ak x.1 35) (
 .aa ((0:Nat) < 2)<|
 .aa ((1:Nat) < 2)<|
 .aa ((0:Nat) < 2)<|
 .aa ((1:Nat) < 2)<|
 .aa ((0:Nat) < 1)<|
 .aa ((0:Int)≤0)<|
 .aa (0 < (1:Int))<|
 .aa ((0:Int)≤0)<|
 .aa (0 < (2:Int))<|
 .aa (((0:Nat)+1:Nat)≤1)<|
 let y591:=x.2.2
 let y592:=y591.1
 let y593:bq:=([16],y592)
 .aa (aO y593)<|
 let y594:=((bf y593)==true)
 .ite y594 (
 let y595:=y591.2
 let y596:=y595.1
 .aa (kg y596)<|
 let y597:=((nS y596)==true)
 .ite y597 (
 let y598:=y595.2.1
 .aa (ml y598)<|
 let y599:=((si y598)==true)
 .ite y599 (
 .aa (((0:Nat)+1:Nat)≤1)<|
 .aa (((0:Nat)+2:Nat)≤2)<|
 let y600:ao:=[15,111]
 let y601:bD:=((-1),(2,0))
 .ret (.inr (([16],(243,())),(((),((),(y600,y601))),true)))) (
 let y602:ao:=[15,111]
 let y603:ao:=[15,127]
 .ret (.inl (.h9 [16] y602 y603)))) (
 let y604:ao:=[15,111]
 let y605:ao:=[15,127]
 .ret (.inl (.h9 [16] y604 y605)))) (
 let y606:ao:=[15,111]
 let y607:ao:=[15,127]
 .ret (.inl (.h9 [16] y606 y607)))) (
 .ite (ak x.1 36) (
 .aa ((0:Nat) < 2)<|
 .aa ((1:Nat) < 2)<|
 .aa ((0:Nat) < 1)<|
 .aa ((0:Int)≤0)<|
 .aa (0 < (1:Int))<|
 .aa ((0:Int)≤0)<|
 .aa (0 < (1:Int))<|
 .aa (((0:Nat)+1:Nat)≤1)<|
 let y608:=x.2.2
 let y609:=y608.1
 let y610:bq:=([16],y609)
 .aa (aO y610)<|
 let y611:=((bf y610)==true)
 .ite y611 (
 let y612:=y608.2
 let y613:=y612.1
 .aa (kg y613)<|
 let y614:=((nS y613)==true)
 .ite y614 (
 let y615:=y612.2.1
 .aa (ml y615)<|
 let y616:=((si y615)==true)
 .ite y616 (
 .aa (((0:Nat)+1:Nat)≤1)<|
 .aa (((0:Nat)+2:Nat)≤2)<|
 let y617:cq:=([16],(102,()))
 let y618:ao:=[15,239]
 let y619:bD:=((-1),(2,0))
 .ret (.inr (y617,(((),((),(y618,y619))),true)))) (
 let y620:ao:=[15,239]
 .ret (.inl (.uP [16] y620)))) (
 let y621:ao:=[15,239]
 .ret (.inl (.uP [16] y621)))) (
 let y622:ao:=[15,239]
 .ret (.inl (.uP [16] y622)))) (
 .ite (ak x.1 37) (
 .aa ((0:Nat) < 3)<|
 .aa ((1:Nat) < 3)<|
 .aa ((2:Nat) < 3)<|
 .aa ((0:Nat) < 1)<|
 .aa ((0:Int)≤0)<|
 .aa (0 < (1:Int))<|
 .aa ((0:Int)≤0)<|
 .aa (0 < (1:Int))<|
 .aa (((0:Nat)+1:Nat)≤1)<|
 let y623:=x.2.2
 let y624:=y623.1
 let y625:bq:=([16],y624)
 .aa (aO y625)<|
 let y626:=((bf y625)==true)
 .ite y626 (
 let y627:=y623.2
 let y628:=y627.1
 .aa (kg y628)<|
 let y629:=((nS y628)==true)
 .ite y629 (
 let y630:=y627.2.1
 .aa (ml y630)<|
 let y631:=((si y630)==true)
 .ite y631 (
 .aa (((0:Nat)+1:Nat)≤1)<|
 .aa (((0:Nat)+3:Nat)≤3)<|
 let y632:cq:=([16],(102,()))
 let y633:ao:=[15,56,220]
 let y634:bD:=((-1),(2,0))
 .ret (.inr (y632,(((),((),(y633,y634))),true)))) (
 let y635:ao:=[15,56,220]
 .ret (.inl (.oI [16] 0 y635)))) (
 let y636:ao:=[15,56,220]
 .ret (.inl (.oI [16] 0 y636)))) (
 let y637:ao:=[15,56,220]
 .ret (.inl (.oI [16] 0 y637)))) (
 .ite (ak x.1 38) (
 .aa ((0:Nat) < 3)<|
 .aa ((1:Nat) < 3)<|
 .aa ((2:Nat) < 3)<|
 .aa ((0:Nat) < 1)<|
 .aa ((0:Int)≤0)<|
 .aa (0 < (1:Int))<|
 .aa ((0:Int)≤0)<|
 .aa (0 < (1:Int))<|
 .aa (((0:Nat)+1:Nat)≤1)<|
 let y638:=x.2.2
 let y639:=y638.1
 let y640:bq:=([16],y639)
 .aa (aO y640)<|
 let y641:=((bf y640)==true)
 .ite y641 (
 let y642:=y638.2
 let y643:=y642.1
 .aa (kg y643)<|
 let y644:=((nS y643)==true)
 .ite y644 (
 let y645:=y642.2.1
 .aa (ml y645)<|
 let y646:=((si y645)==true)
 .ite y646 (
 .aa (((0:Nat)+1:Nat)≤1)<|
 .aa (((0:Nat)+3:Nat)≤3)<|
 let y647:cq:=([16],(102,()))
 let y648:ao:=[15,56,221]
 let y649:bD:=((-1),(2,0))
 .ret (.inr (y647,(((),((),(y648,y649))),true)))) (
 let y650:ao:=[15,56,221]
 .ret (.inl (.oI [16] 0 y650)))) (
 let y651:ao:=[15,56,221]
 .ret (.inl (.oI [16] 0 y651)))) (
 let y652:ao:=[15,56,221]
 .ret (.inl (.oI [16] 0 y652)))) (
 .ite (ak x.1 39) (
 .aa ((0:Nat) < 3)<|
 .aa ((1:Nat) < 3)<|
 .aa ((2:Nat) < 3)<|
 .aa ((0:Nat) < 1)<|
 .aa ((0:Int)≤0)<|
 .aa (0 < (1:Int))<|
 .aa ((0:Int)≤0)<|
 .aa (0 < (1:Int))<|
 .aa (((0:Nat)+1:Nat)≤1)<|
 let y653:=x.2.2
 let y654:=y653.1
 let y655:bq:=([16],y654)
 .aa (aO y655)<|
 let y656:=((bf y655)==true)
 .ite y656 (
 let y657:=y653.2
 let y658:=y657.1
 .aa (kg y658)<|
 let y659:=((nS y658)==true)
 .ite y659 (
 let y660:=y657.2.1
 .aa (ml y660)<|
 let y661:=((si y660)==true)
 .ite y661 (
 .aa (((0:Nat)+1:Nat)≤1)<|
 .aa (((0:Nat)+3:Nat)≤3)<|
 let y662:cq:=([16],(102,()))
 let y663:ao:=[15,58,68]
 .ret (.inr (y662,(((),((),(y663,((-1),(2,1))))),true)))) (
 let y664:ao:=[15,58,68]
 .ret (.inl (.oI [16] 1 y664)))) (
 let y665:ao:=[15,58,68]
 .ret (.inl (.oI [16] 1 y665)))) (
 let y666:ao:=[15,58,68]
 .ret (.inl (.oI [16] 1 y666)))) (
 let y667:=(ak x.1 26)
 .ite (y667==false) (
 let y668:=(ak x.1 28)
 .ite (y668==false) (
 let y669:=(ak x.1 29)
 .ite (y669==false) (
 let y670:=(ak x.1 27)
 .ite (y670==false) (
 let y671:=(ak x.1 34)
 .ite (y671==false) (
 let y672:=(ak x.1 24)
 .ite (y672==false) (
 .ite (ak x.1 25) (
 .ite y667 (
 .aa ((0:Nat) < 1)<|
 .aa ((0:Nat) < 2)<|
 .aa ((1:Nat) < 2)<|
 .aa ((0:Int)≤0)<|
 .aa (0 < (1:Int))<|
 .aa ((0:Int)≤0)<|
 .aa (0 < (1:Int))<|
 .aa (((0:Nat)+2:Nat)≤2)<|
 let y673:ao:=[8,8]
 let y674:=x.2.2
 let y675:=y674.1
 let y676:bq:=(y673,y675)
 .aa (aO y676)<|
 let y677:=((bf y676)==true)
 .ite y677 (
 let y678:=y674.2
 let y679:=y678.1
 .aa (a8 y679)<|
 let y680:=((bH y679)==true)
 .ite y680 (
 let y681:=y678.2.1
 .aa (dD y681)<|
 let y682:=((eQ y681)==true)
 .ite y682 (
 .aa (((0:Nat)+2:Nat)≤2)<|
 .aa (((0:Nat)+1:Nat)≤1)<|
 let y683:cI:=(0,())
 let y684:cq:=(y673,y683)
 let y685:bD:=(0,(0,4))
 let y686:cr:=(y684,(((),((),([232],y685))),true))
 .ret (.inr y686)) (
 .ret (.inl (.lC y673 [232])))) (
 .ret (.inl (.lC y673 [232])))) (
 .ret (.inl (.lC y673 [232])))) (
 .ite y668 (
 .aa ((0:Nat) < 1)<|
 .aa ((0:Nat) < 1)<|
 .aa ((0:Nat) < 2)<|
 .aa ((1:Nat) < 2)<|
 .aa ((0:Int)≤0)<|
 .aa (0 < (1:Int))<|
 .aa ((0:Int)≤0)<|
 .aa (0 < (2:Int))<|
 .aa (((0:Nat)+2:Nat)≤2)<|
 let y687:ao:=[8,8]
 let y688:=x.2.2
 let y689:=y688.1
 let y690:bq:=(y687,y689)
 .aa (aO y690)<|
 let y691:=((bf y690)==true)
 .ite y691 (
 let y692:=y688.2
 let y693:=y692.1
 .aa (a8 y693)<|
 let y694:=((bH y693)==true)
 .ite y694 (
 let y695:=y692.2.1
 .aa (dD y695)<|
 let y696:=((eQ y695)==true)
 .ite y696 (
 .aa (((0:Nat)+2:Nat)≤2)<|
 .aa (((0:Nat)+1:Nat)≤1)<|
 let y697:cI:=(0,())
 let y698:cq:=(y687,y697)
 let y699:bD:=(0,(0,4))
 let y700:cr:=(y698,(((),((),([233],y699))),true))
 .ret (.inr y700)) (
 .ret (.inl (.jt y687 [233] [255])))) (
 .ret (.inl (.jt y687 [233] [255])))) (
 .ret (.inl (.jt y687 [233] [255])))) (
 .ite y669 (
 .aa ((0:Nat) < 2)<|
 .aa ((1:Nat) < 2)<|
 .aa ((0:Nat) < 2)<|
 .aa ((1:Nat) < 2)<|
 .aa ((0:Int)≤0)<|
 .aa (0 < (1:Int))<|
 .aa ((0:Int)≤0)<|
 .aa (0 < (1:Int))<|
 .aa (((0:Nat)+2:Nat)≤2)<|
 let y701:ao:=[8,8]
 let y702:=x.2.2
 let y703:=y702.1
 let y704:bq:=(y701,y703)
 .aa (aO y704)<|
 let y705:=((bf y704)==true)
 .ite y705 (
 let y706:=y702.2
 let y707:=y706.1
 .aa (a8 y707)<|
 let y708:=((bH y707)==true)
 .ite y708 (
 let y709:=y706.2.1
 .aa (dD y709)<|
 let y710:=((eQ y709)==true)
 .ite y710 (
 .aa (((0:Nat)+2:Nat)≤2)<|
 .aa (((0:Nat)+2:Nat)≤2)<|
 let y711:cI:=(0,())
 let y712:cq:=(y701,y711)
 let y713:Int:=(cP .u8 x.2.1 15)
 let y714:ao:=[15,(aK .u8 128 y713)]
 let y715:bD:=(0,(0,4))
 let y716:cr:=(y712,(((),((),(y714,y715))),true))
 .ret (.inr y716)) (
 let y717:Int:=(cP .u8 x.2.1 15)
 let y718:ao:=[15,(aK .u8 128 y717)]
 .ret (.inl (.ku y701 y718)))) (
 let y719:Int:=(cP .u8 x.2.1 15)
 let y720:ao:=[15,(aK .u8 128 y719)]
 .ret (.inl (.ku y701 y720)))) (
 let y721:Int:=(cP .u8 x.2.1 15)
 let y722:ao:=[15,(aK .u8 128 y721)]
 .ret (.inl (.ku y701 y722)))) (
 .ite y670 (
 .aa ((0:Nat) < 1)<|
 .aa ((0:Nat) < 2)<|
 .aa ((1:Nat) < 2)<|
 .aa ((0:Int)≤0)<|
 .aa (0 < (1:Int))<|
 .aa ((0:Int)≤0)<|
 .aa (0 < (1:Int))<|
 .aa (((0:Nat)+2:Nat)≤2)<|
 let y723:ao:=[8,8]
 let y724:=x.2.2
 let y725:=y724.1
 let y726:bq:=(y723,y725)
 .aa (aO y726)<|
 let y727:=((bf y726)==true)
 .ite y727 (
 let y728:=y724.2
 let y729:=y728.1
 .aa (a8 y729)<|
 let y730:=((bH y729)==true)
 .ite y730 (
 let y731:=y728.2.1
 .aa (a8 y731)<|
 let y732:=((bH y731)==true)
 .ite y732 (
 .aa (((0:Nat)+2:Nat)≤2)<|
 .aa (((0:Nat)+1:Nat)≤1)<|
 let y733:cI:=(0,())
 let y734:cq:=(y723,y733)
 let y735:bD:=(0,(0,0))
 let y736:cr:=(y734,(((),((),([195],y735))),true))
 .ret (.inr y736)) (
 .ret (.inl (.gO y723 [195])))) (
 .ret (.inl (.gO y723 [195])))) (
 .ret (.inl (.gO y723 [195])))) (
 .ite y671 (
 .aa ((0:Nat) < 1)<|
 .aa ((0:Nat) < 2)<|
 .aa ((1:Nat) < 2)<|
 .aa ((0:Int)≤0)<|
 .aa (0 < (1:Int))<|
 .aa ((0:Int)≤0)<|
 .aa (0 < (1:Int))<|
 .aa (((0:Nat)+2:Nat)≤2)<|
 let y737:ao:=[8,8]
 let y738:=x.2.2
 let y739:=y738.1
 let y740:bq:=(y737,y739)
 .aa (aO y740)<|
 let y741:=((bf y740)==true)
 .ite y741 (
 let y742:=y738.2
 let y743:=y742.1
 .aa (a8 y743)<|
 let y744:=((bH y743)==true)
 .ite y744 (
 let y745:=y742.2.1
 .aa (a8 y745)<|
 let y746:=((bH y745)==true)
 .ite y746 (
 .aa (((0:Nat)+2:Nat)≤2)<|
 .aa (((0:Nat)+1:Nat)≤1)<|
 let y747:cI:=(0,())
 let y748:cq:=(y737,y747)
 let y749:bD:=(0,(0,0))
 let y750:cr:=(y748,(((),((),([144],y749))),true))
 .ret (.inr y750)) (
 .ret (.inl (.gO y737 [144])))) (
 .ret (.inl (.gO y737 [144])))) (
 .ret (.inl (.gO y737 [144])))) (
 .ite y672 (
 .aa ((0:Nat) < 1)<|
 .aa ((0:Nat) < 2)<|
 .aa ((1:Nat) < 2)<|
 .aa ((0:Int)≤0)<|
 .aa (0 < (1:Int))<|
 .aa ((0:Int)≤0)<|
 .aa (0 < (1:Int))<|
 .aa (((0:Nat)+2:Nat)≤2)<|
 let y751:ao:=[8,8]
 let y752:=x.2.2
 let y753:=y752.1
 let y754:bq:=(y751,y753)
 .aa (aO y754)<|
 let y755:=((bf y754)==true)
 .ite y755 (
 let y756:=y752.2
 let y757:=y756.1
 .aa (dn y757)<|
 let y758:=((ez y757)==true)
 .ite y758 (
 let y759:=y756.2.1
 .aa (a8 y759)<|
 let y760:=((bH y759)==true)
 .ite y760 (
 .aa (((0:Nat)+2:Nat)≤2)<|
 .aa (((0:Nat)+1:Nat)≤1)<|
 let y761:cI:=(0,())
 let y762:cq:=(y751,y761)
 let y763:bD:=(0,(3,0))
 let y764:cr:=(y762,(((),((),([80],y763))),true))
 .ret (.inr y764)) (
 .ret (.inl (.hJ y751 [80])))) (
 .ret (.inl (.hJ y751 [80])))) (
 .ret (.inl (.hJ y751 [80])))) (
 .aa ((0:Nat) < 1)<|
 .aa ((0:Nat) < 2)<|
 .aa ((1:Nat) < 2)<|
 .aa ((0:Int)≤0)<|
 .aa (0 < (1:Int))<|
 .aa ((0:Int)≤0)<|
 .aa (0 < (1:Int))<|
 .aa (((0:Nat)+2:Nat)≤2)<|
 let y765:ao:=[8,8]
 let y766:=x.2.2
 let y767:=y766.1
 let y768:bq:=(y765,y767)
 .aa (aO y768)<|
 let y769:=((bf y768)==true)
 .ite y769 (
 let y770:=y766.2
 let y771:=y770.1
 .aa (dn y771)<|
 let y772:=((ez y771)==true)
 .ite y772 (
 let y773:=y770.2.1
 .aa (a8 y773)<|
 let y774:=((bH y773)==true)
 .ite y774 (
 .aa (((0:Nat)+2:Nat)≤2)<|
 .aa (((0:Nat)+1:Nat)≤1)<|
 let y775:cI:=(0,())
 let y776:cq:=(y765,y775)
 let y777:bD:=(0,(3,0))
 let y778:cr:=(y776,(((),((),([88],y777))),true))
 .ret (.inr y778)) (
 .ret (.inl (.hJ y765 [88])))) (
 .ret (.inl (.hJ y765 [88])))) (
 .ret (.inl (.hJ y765 [88])))))))))) (
 .ret (.inl (.my)))) (
 .ite y667 (
 .aa ((0:Nat) < 1)<|
 .aa ((0:Nat) < 2)<|
 .aa ((1:Nat) < 2)<|
 .aa ((0:Int)≤0)<|
 .aa (0 < (1:Int))<|
 .aa ((0:Int)≤0)<|
 .aa (0 < (1:Int))<|
 .aa (((0:Nat)+2:Nat)≤2)<|
 let y779:ao:=[8,8]
 let y780:=x.2.2
 let y781:=y780.1
 let y782:bq:=(y779,y781)
 .aa (aO y782)<|
 let y783:=((bf y782)==true)
 .ite y783 (
 let y784:=y780.2
 let y785:=y784.1
 .aa (a8 y785)<|
 let y786:=((bH y785)==true)
 .ite y786 (
 let y787:=y784.2.1
 .aa (dD y787)<|
 let y788:=((eQ y787)==true)
 .ite y788 (
 .aa (((0:Nat)+2:Nat)≤2)<|
 .aa (((0:Nat)+1:Nat)≤1)<|
 let y789:cI:=(0,())
 let y790:cq:=(y779,y789)
 let y791:bD:=(0,(0,4))
 let y792:cr:=(y790,(((),((),([232],y791))),true))
 .ret (.inr y792)) (
 .ret (.inl (.lC y779 [232])))) (
 .ret (.inl (.lC y779 [232])))) (
 .ret (.inl (.lC y779 [232])))) (
 .ite y668 (
 .aa ((0:Nat) < 1)<|
 .aa ((0:Nat) < 1)<|
 .aa ((0:Nat) < 2)<|
 .aa ((1:Nat) < 2)<|
 .aa ((0:Int)≤0)<|
 .aa (0 < (1:Int))<|
 .aa ((0:Int)≤0)<|
 .aa (0 < (2:Int))<|
 .aa (((0:Nat)+2:Nat)≤2)<|
 let y793:ao:=[8,8]
 let y794:=x.2.2
 let y795:=y794.1
 let y796:bq:=(y793,y795)
 .aa (aO y796)<|
 let y797:=((bf y796)==true)
 .ite y797 (
 let y798:=y794.2
 let y799:=y798.1
 .aa (a8 y799)<|
 let y800:=((bH y799)==true)
 .ite y800 (
 let y801:=y798.2.1
 .aa (dD y801)<|
 let y802:=((eQ y801)==true)
 .ite y802 (
 .aa (((0:Nat)+2:Nat)≤2)<|
 .aa (((0:Nat)+1:Nat)≤1)<|
 let y803:cI:=(0,())
 let y804:cq:=(y793,y803)
 let y805:bD:=(0,(0,4))
 let y806:cr:=(y804,(((),((),([233],y805))),true))
 .ret (.inr y806)) (
 .ret (.inl (.jt y793 [233] [255])))) (
 .ret (.inl (.jt y793 [233] [255])))) (
 .ret (.inl (.jt y793 [233] [255])))) (
 .ite y669 (
 .aa ((0:Nat) < 2)<|
 .aa ((1:Nat) < 2)<|
 .aa ((0:Nat) < 2)<|
 .aa ((1:Nat) < 2)<|
 .aa ((0:Int)≤0)<|
 .aa (0 < (1:Int))<|
 .aa ((0:Int)≤0)<|
 .aa (0 < (1:Int))<|
 .aa (((0:Nat)+2:Nat)≤2)<|
 let y807:ao:=[8,8]
 let y808:=x.2.2
 let y809:=y808.1
 let y810:bq:=(y807,y809)
 .aa (aO y810)<|
 let y811:=((bf y810)==true)
 .ite y811 (
 let y812:=y808.2
 let y813:=y812.1
 .aa (a8 y813)<|
 let y814:=((bH y813)==true)
 .ite y814 (
 let y815:=y812.2.1
 .aa (dD y815)<|
 let y816:=((eQ y815)==true)
 .ite y816 (
 .aa (((0:Nat)+2:Nat)≤2)<|
 .aa (((0:Nat)+2:Nat)≤2)<|
 let y817:cI:=(0,())
 let y818:cq:=(y807,y817)
 let y819:Int:=(cP .u8 x.2.1 15)
 let y820:ao:=[15,(aK .u8 128 y819)]
 let y821:bD:=(0,(0,4))
 let y822:cr:=(y818,(((),((),(y820,y821))),true))
 .ret (.inr y822)) (
 let y823:Int:=(cP .u8 x.2.1 15)
 let y824:ao:=[15,(aK .u8 128 y823)]
 .ret (.inl (.ku y807 y824)))) (
 let y825:Int:=(cP .u8 x.2.1 15)
 let y826:ao:=[15,(aK .u8 128 y825)]
 .ret (.inl (.ku y807 y826)))) (
 let y827:Int:=(cP .u8 x.2.1 15)
 let y828:ao:=[15,(aK .u8 128 y827)]
 .ret (.inl (.ku y807 y828)))) (
 .ite y670 (
 .aa ((0:Nat) < 1)<|
 .aa ((0:Nat) < 2)<|
 .aa ((1:Nat) < 2)<|
 .aa ((0:Int)≤0)<|
 .aa (0 < (1:Int))<|
 .aa ((0:Int)≤0)<|
 .aa (0 < (1:Int))<|
 .aa (((0:Nat)+2:Nat)≤2)<|
 let y829:ao:=[8,8]
 let y830:=x.2.2
 let y831:=y830.1
 let y832:bq:=(y829,y831)
 .aa (aO y832)<|
 let y833:=((bf y832)==true)
 .ite y833 (
 let y834:=y830.2
 let y835:=y834.1
 .aa (a8 y835)<|
 let y836:=((bH y835)==true)
 .ite y836 (
 let y837:=y834.2.1
 .aa (a8 y837)<|
 let y838:=((bH y837)==true)
 .ite y838 (
 .aa (((0:Nat)+2:Nat)≤2)<|
 .aa (((0:Nat)+1:Nat)≤1)<|
 let y839:cI:=(0,())
 let y840:cq:=(y829,y839)
 let y841:bD:=(0,(0,0))
 let y842:cr:=(y840,(((),((),([195],y841))),true))
 .ret (.inr y842)) (
 .ret (.inl (.gO y829 [195])))) (
 .ret (.inl (.gO y829 [195])))) (
 .ret (.inl (.gO y829 [195])))) (
 .ite y671 (
 .aa ((0:Nat) < 1)<|
 .aa ((0:Nat) < 2)<|
 .aa ((1:Nat) < 2)<|
 .aa ((0:Int)≤0)<|
 .aa (0 < (1:Int))<|
 .aa ((0:Int)≤0)<|
 .aa (0 < (1:Int))<|
 .aa (((0:Nat)+2:Nat)≤2)<|
 let y843:ao:=[8,8]
 let y844:=x.2.2
 let y845:=y844.1
 let y846:bq:=(y843,y845)
 .aa (aO y846)<|
 let y847:=((bf y846)==true)
 .ite y847 (
 let y848:=y844.2
 let y849:=y848.1
 .aa (a8 y849)<|
 let y850:=((bH y849)==true)
 .ite y850 (
 let y851:=y848.2.1
 .aa (a8 y851)<|
 let y852:=((bH y851)==true)
 .ite y852 (
 .aa (((0:Nat)+2:Nat)≤2)<|
 .aa (((0:Nat)+1:Nat)≤1)<|
 let y853:cI:=(0,())
 let y854:cq:=(y843,y853)
 let y855:bD:=(0,(0,0))
 let y856:cr:=(y854,(((),((),([144],y855))),true))
 .ret (.inr y856)) (
 .ret (.inl (.gO y843 [144])))) (
 .ret (.inl (.gO y843 [144])))) (
 .ret (.inl (.gO y843 [144])))) (
 .ite y672 (
 .aa ((0:Nat) < 1)<|
 .aa ((0:Nat) < 2)<|
 .aa ((1:Nat) < 2)<|
 .aa ((0:Int)≤0)<|
 .aa (0 < (1:Int))<|
 .aa ((0:Int)≤0)<|
 .aa (0 < (1:Int))<|
 .aa (((0:Nat)+2:Nat)≤2)<|
 let y857:ao:=[8,8]
 let y858:=x.2.2
 let y859:=y858.1
 let y860:bq:=(y857,y859)
 .aa (aO y860)<|
 let y861:=((bf y860)==true)
 .ite y861 (
 let y862:=y858.2
 let y863:=y862.1
 .aa (dn y863)<|
 let y864:=((ez y863)==true)
 .ite y864 (
 let y865:=y862.2.1
 .aa (a8 y865)<|
 let y866:=((bH y865)==true)
 .ite y866 (
 .aa (((0:Nat)+2:Nat)≤2)<|
 .aa (((0:Nat)+1:Nat)≤1)<|
 let y867:cI:=(0,())
 let y868:cq:=(y857,y867)
 let y869:bD:=(0,(3,0))
 let y870:cr:=(y868,(((),((),([80],y869))),true))
 .ret (.inr y870)) (
 .ret (.inl (.hJ y857 [80])))) (
 .ret (.inl (.hJ y857 [80])))) (
 .ret (.inl (.hJ y857 [80])))) (
 .aa ((0:Nat) < 1)<|
 .aa ((0:Nat) < 2)<|
 .aa ((1:Nat) < 2)<|
 .aa ((0:Int)≤0)<|
 .aa (0 < (1:Int))<|
 .aa ((0:Int)≤0)<|
 .aa (0 < (1:Int))<|
 .aa (((0:Nat)+2:Nat)≤2)<|
 let y871:ao:=[8,8]
 let y872:=x.2.2
 let y873:=y872.1
 let y874:bq:=(y871,y873)
 .aa (aO y874)<|
 let y875:=((bf y874)==true)
 .ite y875 (
 let y876:=y872.2
 let y877:=y876.1
 .aa (dn y877)<|
 let y878:=((ez y877)==true)
 .ite y878 (
 let y879:=y876.2.1
 .aa (a8 y879)<|
 let y880:=((bH y879)==true)
 .ite y880 (
 .aa (((0:Nat)+2:Nat)≤2)<|
 .aa (((0:Nat)+1:Nat)≤1)<|
 let y881:cI:=(0,())
 let y882:cq:=(y871,y881)
 let y883:bD:=(0,(3,0))
 let y884:cr:=(y882,(((),((),([88],y883))),true))
 .ret (.inr y884)) (
 .ret (.inl (.hJ y871 [88])))) (
 .ret (.inl (.hJ y871 [88])))) (
 .ret (.inl (.hJ y871 [88]))))))))))) (
 .ite y667 (
 .aa ((0:Nat) < 1)<|
 .aa ((0:Nat) < 2)<|
 .aa ((1:Nat) < 2)<|
 .aa ((0:Int)≤0)<|
 .aa (0 < (1:Int))<|
 .aa ((0:Int)≤0)<|
 .aa (0 < (1:Int))<|
 .aa (((0:Nat)+2:Nat)≤2)<|
 let y885:ao:=[8,8]
 let y886:=x.2.2
 let y887:=y886.1
 let y888:bq:=(y885,y887)
 .aa (aO y888)<|
 let y889:=((bf y888)==true)
 .ite y889 (
 let y890:=y886.2
 let y891:=y890.1
 .aa (a8 y891)<|
 let y892:=((bH y891)==true)
 .ite y892 (
 let y893:=y890.2.1
 .aa (dD y893)<|
 let y894:=((eQ y893)==true)
 .ite y894 (
 .aa (((0:Nat)+2:Nat)≤2)<|
 .aa (((0:Nat)+1:Nat)≤1)<|
 let y895:cI:=(0,())
 let y896:cq:=(y885,y895)
 let y897:bD:=(0,(0,4))
 let y898:cr:=(y896,(((),((),([232],y897))),true))
 .ret (.inr y898)) (
 .ret (.inl (.lC y885 [232])))) (
 .ret (.inl (.lC y885 [232])))) (
 .ret (.inl (.lC y885 [232])))) (
 .ite y668 (
 .aa ((0:Nat) < 1)<|
 .aa ((0:Nat) < 1)<|
 .aa ((0:Nat) < 2)<|
 .aa ((1:Nat) < 2)<|
 .aa ((0:Int)≤0)<|
 .aa (0 < (1:Int))<|
 .aa ((0:Int)≤0)<|
 .aa (0 < (2:Int))<|
 .aa (((0:Nat)+2:Nat)≤2)<|
 let y899:ao:=[8,8]
 let y900:=x.2.2
 let y901:=y900.1
 let y902:bq:=(y899,y901)
 .aa (aO y902)<|
 let y903:=((bf y902)==true)
 .ite y903 (
 let y904:=y900.2
 let y905:=y904.1
 .aa (a8 y905)<|
 let y906:=((bH y905)==true)
 .ite y906 (
 let y907:=y904.2.1
 .aa (dD y907)<|
 let y908:=((eQ y907)==true)
 .ite y908 (
 .aa (((0:Nat)+2:Nat)≤2)<|
 .aa (((0:Nat)+1:Nat)≤1)<|
 let y909:cI:=(0,())
 let y910:cq:=(y899,y909)
 let y911:bD:=(0,(0,4))
 let y912:cr:=(y910,(((),((),([233],y911))),true))
 .ret (.inr y912)) (
 .ret (.inl (.jt y899 [233] [255])))) (
 .ret (.inl (.jt y899 [233] [255])))) (
 .ret (.inl (.jt y899 [233] [255])))) (
 .ite y669 (
 .aa ((0:Nat) < 2)<|
 .aa ((1:Nat) < 2)<|
 .aa ((0:Nat) < 2)<|
 .aa ((1:Nat) < 2)<|
 .aa ((0:Int)≤0)<|
 .aa (0 < (1:Int))<|
 .aa ((0:Int)≤0)<|
 .aa (0 < (1:Int))<|
 .aa (((0:Nat)+2:Nat)≤2)<|
 let y913:ao:=[8,8]
 let y914:=x.2.2
 let y915:=y914.1
 let y916:bq:=(y913,y915)
 .aa (aO y916)<|
 let y917:=((bf y916)==true)
 .ite y917 (
 let y918:=y914.2
 let y919:=y918.1
 .aa (a8 y919)<|
 let y920:=((bH y919)==true)
 .ite y920 (
 let y921:=y918.2.1
 .aa (dD y921)<|
 let y922:=((eQ y921)==true)
 .ite y922 (
 .aa (((0:Nat)+2:Nat)≤2)<|
 .aa (((0:Nat)+2:Nat)≤2)<|
 let y923:cI:=(0,())
 let y924:cq:=(y913,y923)
 let y925:Int:=(cP .u8 x.2.1 15)
 let y926:ao:=[15,(aK .u8 128 y925)]
 let y927:bD:=(0,(0,4))
 let y928:cr:=(y924,(((),((),(y926,y927))),true))
 .ret (.inr y928)) (
 let y929:Int:=(cP .u8 x.2.1 15)
 let y930:ao:=[15,(aK .u8 128 y929)]
 .ret (.inl (.ku y913 y930)))) (
 let y931:Int:=(cP .u8 x.2.1 15)
 let y932:ao:=[15,(aK .u8 128 y931)]
 .ret (.inl (.ku y913 y932)))) (
 let y933:Int:=(cP .u8 x.2.1 15)
 let y934:ao:=[15,(aK .u8 128 y933)]
 .ret (.inl (.ku y913 y934)))) (
 .ite y670 (
 .aa ((0:Nat) < 1)<|
 .aa ((0:Nat) < 2)<|
 .aa ((1:Nat) < 2)<|
 .aa ((0:Int)≤0)<|
 .aa (0 < (1:Int))<|
 .aa ((0:Int)≤0)<|
 .aa (0 < (1:Int))<|
 .aa (((0:Nat)+2:Nat)≤2)<|
 let y935:ao:=[8,8]
 let y936:=x.2.2
 let y937:=y936.1
 let y938:bq:=(y935,y937)
 .aa (aO y938)<|
 let y939:=((bf y938)==true)
 .ite y939 (
 let y940:=y936.2
 let y941:=y940.1
 .aa (a8 y941)<|
 let y942:=((bH y941)==true)
 .ite y942 (
 let y943:=y940.2.1
 .aa (a8 y943)<|
 let y944:=((bH y943)==true)
 .ite y944 (
 .aa (((0:Nat)+2:Nat)≤2)<|
 .aa (((0:Nat)+1:Nat)≤1)<|
 let y945:cI:=(0,())
 let y946:cq:=(y935,y945)
 let y947:bD:=(0,(0,0))
 let y948:cr:=(y946,(((),((),([195],y947))),true))
 .ret (.inr y948)) (
 .ret (.inl (.gO y935 [195])))) (
 .ret (.inl (.gO y935 [195])))) (
 .ret (.inl (.gO y935 [195])))) (
 .ite y671 (
 .aa ((0:Nat) < 1)<|
 .aa ((0:Nat) < 2)<|
 .aa ((1:Nat) < 2)<|
 .aa ((0:Int)≤0)<|
 .aa (0 < (1:Int))<|
 .aa ((0:Int)≤0)<|
 .aa (0 < (1:Int))<|
 .aa (((0:Nat)+2:Nat)≤2)<|
 let y949:ao:=[8,8]
 let y950:=x.2.2
 let y951:=y950.1
 let y952:bq:=(y949,y951)
 .aa (aO y952)<|
 let y953:=((bf y952)==true)
 .ite y953 (
 let y954:=y950.2
 let y955:=y954.1
 .aa (a8 y955)<|
 let y956:=((bH y955)==true)
 .ite y956 (
 let y957:=y954.2.1
 .aa (a8 y957)<|
 let y958:=((bH y957)==true)
 .ite y958 (
 .aa (((0:Nat)+2:Nat)≤2)<|
 .aa (((0:Nat)+1:Nat)≤1)<|
 let y959:cI:=(0,())
 let y960:cq:=(y949,y959)
 let y961:bD:=(0,(0,0))
 let y962:cr:=(y960,(((),((),([144],y961))),true))
 .ret (.inr y962)) (
 .ret (.inl (.gO y949 [144])))) (
 .ret (.inl (.gO y949 [144])))) (
 .ret (.inl (.gO y949 [144])))) (
 let y963:=(ak x.1 24)
 .ite y963 (
 .aa ((0:Nat) < 1)<|
 .aa ((0:Nat) < 2)<|
 .aa ((1:Nat) < 2)<|
 .aa ((0:Int)≤0)<|
 .aa (0 < (1:Int))<|
 .aa ((0:Int)≤0)<|
 .aa (0 < (1:Int))<|
 .aa (((0:Nat)+2:Nat)≤2)<|
 let y964:ao:=[8,8]
 let y965:=x.2.2
 let y966:=y965.1
 let y967:bq:=(y964,y966)
 .aa (aO y967)<|
 let y968:=((bf y967)==true)
 .ite y968 (
 let y969:=y965.2
 let y970:=y969.1
 .aa (dn y970)<|
 let y971:=((ez y970)==true)
 .ite y971 (
 let y972:=y969.2.1
 .aa (a8 y972)<|
 let y973:=((bH y972)==true)
 .ite y973 (
 .aa (((0:Nat)+2:Nat)≤2)<|
 .aa (((0:Nat)+1:Nat)≤1)<|
 let y974:cI:=(0,())
 let y975:cq:=(y964,y974)
 let y976:bD:=(0,(3,0))
 let y977:cr:=(y975,(((),((),([80],y976))),true))
 .ret (.inr y977)) (
 .ret (.inl (.hJ y964 [80])))) (
 .ret (.inl (.hJ y964 [80])))) (
 .ret (.inl (.hJ y964 [80])))) (
 .aa ((0:Nat) < 1)<|
 .aa ((0:Nat) < 2)<|
 .aa ((1:Nat) < 2)<|
 .aa ((0:Int)≤0)<|
 .aa (0 < (1:Int))<|
 .aa ((0:Int)≤0)<|
 .aa (0 < (1:Int))<|
 .aa (((0:Nat)+2:Nat)≤2)<|
 let y978:ao:=[8,8]
 let y979:=x.2.2
 let y980:=y979.1
 let y981:bq:=(y978,y980)
 .aa (aO y981)<|
 let y982:=((bf y981)==true)
 .ite y982 (
 let y983:=y979.2
 let y984:=y983.1
 .aa (dn y984)<|
 let y985:=((ez y984)==true)
 .ite y985 (
 let y986:=y983.2.1
 .aa (a8 y986)<|
 let y987:=((bH y986)==true)
 .ite y987 (
 .aa (((0:Nat)+2:Nat)≤2)<|
 .aa (((0:Nat)+1:Nat)≤1)<|
 let y988:cI:=(0,())
 let y989:cq:=(y978,y988)
 let y990:bD:=(0,(3,0))
 let y991:cr:=(y989,(((),((),([88],y990))),true))
 .ret (.inr y991)) (
 .ret (.inl (.hJ y978 [88])))) (
 .ret (.inl (.hJ y978 [88])))) (
 .ret (.inl (.hJ y978 [88]))))))))))) (
 .ite y667 (
 .aa ((0:Nat) < 1)<|
 .aa ((0:Nat) < 2)<|
 .aa ((1:Nat) < 2)<|
 .aa ((0:Int)≤0)<|
 .aa (0 < (1:Int))<|
 .aa ((0:Int)≤0)<|
 .aa (0 < (1:Int))<|
 .aa (((0:Nat)+2:Nat)≤2)<|
 let y992:ao:=[8,8]
 let y993:=x.2.2
 let y994:=y993.1
 let y995:bq:=(y992,y994)
 .aa (aO y995)<|
 let y996:=((bf y995)==true)
 .ite y996 (
 let y997:=y993.2
 let y998:=y997.1
 .aa (a8 y998)<|
 let y999:=((bH y998)==true)
 .ite y999 (
 let y1000:=y997.2.1
 .aa (dD y1000)<|
 let y1001:=((eQ y1000)==true)
 .ite y1001 (
 .aa (((0:Nat)+2:Nat)≤2)<|
 .aa (((0:Nat)+1:Nat)≤1)<|
 let y1002:cI:=(0,())
 let y1003:cq:=(y992,y1002)
 let y1004:bD:=(0,(0,4))
 let y1005:cr:=(y1003,(((),((),([232],y1004))),true))
 .ret (.inr y1005)) (
 .ret (.inl (.lC y992 [232])))) (
 .ret (.inl (.lC y992 [232])))) (
 .ret (.inl (.lC y992 [232])))) (
 .ite y668 (
 .aa ((0:Nat) < 1)<|
 .aa ((0:Nat) < 1)<|
 .aa ((0:Nat) < 2)<|
 .aa ((1:Nat) < 2)<|
 .aa ((0:Int)≤0)<|
 .aa (0 < (1:Int))<|
 .aa ((0:Int)≤0)<|
 .aa (0 < (2:Int))<|
 .aa (((0:Nat)+2:Nat)≤2)<|
 let y1006:ao:=[8,8]
 let y1007:=x.2.2
 let y1008:=y1007.1
 let y1009:bq:=(y1006,y1008)
 .aa (aO y1009)<|
 let y1010:=((bf y1009)==true)
 .ite y1010 (
 let y1011:=y1007.2
 let y1012:=y1011.1
 .aa (a8 y1012)<|
 let y1013:=((bH y1012)==true)
 .ite y1013 (
 let y1014:=y1011.2.1
 .aa (dD y1014)<|
 let y1015:=((eQ y1014)==true)
 .ite y1015 (
 .aa (((0:Nat)+2:Nat)≤2)<|
 .aa (((0:Nat)+1:Nat)≤1)<|
 let y1016:cI:=(0,())
 let y1017:cq:=(y1006,y1016)
 let y1018:bD:=(0,(0,4))
 let y1019:cr:=(y1017,(((),((),([233],y1018))),true))
 .ret (.inr y1019)) (
 .ret (.inl (.jt y1006 [233] [255])))) (
 .ret (.inl (.jt y1006 [233] [255])))) (
 .ret (.inl (.jt y1006 [233] [255])))) (
 .ite y669 (
 .aa ((0:Nat) < 2)<|
 .aa ((1:Nat) < 2)<|
 .aa ((0:Nat) < 2)<|
 .aa ((1:Nat) < 2)<|
 .aa ((0:Int)≤0)<|
 .aa (0 < (1:Int))<|
 .aa ((0:Int)≤0)<|
 .aa (0 < (1:Int))<|
 .aa (((0:Nat)+2:Nat)≤2)<|
 let y1020:ao:=[8,8]
 let y1021:=x.2.2
 let y1022:=y1021.1
 let y1023:bq:=(y1020,y1022)
 .aa (aO y1023)<|
 let y1024:=((bf y1023)==true)
 .ite y1024 (
 let y1025:=y1021.2
 let y1026:=y1025.1
 .aa (a8 y1026)<|
 let y1027:=((bH y1026)==true)
 .ite y1027 (
 let y1028:=y1025.2.1
 .aa (dD y1028)<|
 let y1029:=((eQ y1028)==true)
 .ite y1029 (
 .aa (((0:Nat)+2:Nat)≤2)<|
 .aa (((0:Nat)+2:Nat)≤2)<|
 let y1030:cI:=(0,())
 let y1031:cq:=(y1020,y1030)
 let y1032:Int:=(cP .u8 x.2.1 15)
 let y1033:ao:=[15,(aK .u8 128 y1032)]
 let y1034:bD:=(0,(0,4))
 let y1035:cr:=(y1031,(((),((),(y1033,y1034))),true))
 .ret (.inr y1035)) (
 let y1036:Int:=(cP .u8 x.2.1 15)
 let y1037:ao:=[15,(aK .u8 128 y1036)]
 .ret (.inl (.ku y1020 y1037)))) (
 let y1038:Int:=(cP .u8 x.2.1 15)
 let y1039:ao:=[15,(aK .u8 128 y1038)]
 .ret (.inl (.ku y1020 y1039)))) (
 let y1040:Int:=(cP .u8 x.2.1 15)
 let y1041:ao:=[15,(aK .u8 128 y1040)]
 .ret (.inl (.ku y1020 y1041)))) (
 .ite y670 (
 .aa ((0:Nat) < 1)<|
 .aa ((0:Nat) < 2)<|
 .aa ((1:Nat) < 2)<|
 .aa ((0:Int)≤0)<|
 .aa (0 < (1:Int))<|
 .aa ((0:Int)≤0)<|
 .aa (0 < (1:Int))<|
 .aa (((0:Nat)+2:Nat)≤2)<|
 let y1042:ao:=[8,8]
 let y1043:=x.2.2
 let y1044:=y1043.1
 let y1045:bq:=(y1042,y1044)
 .aa (aO y1045)<|
 let y1046:=((bf y1045)==true)
 .ite y1046 (
 let y1047:=y1043.2
 let y1048:=y1047.1
 .aa (a8 y1048)<|
 let y1049:=((bH y1048)==true)
 .ite y1049 (
 let y1050:=y1047.2.1
 .aa (a8 y1050)<|
 let y1051:=((bH y1050)==true)
 .ite y1051 (
 .aa (((0:Nat)+2:Nat)≤2)<|
 .aa (((0:Nat)+1:Nat)≤1)<|
 let y1052:cI:=(0,())
 let y1053:cq:=(y1042,y1052)
 let y1054:bD:=(0,(0,0))
 let y1055:cr:=(y1053,(((),((),([195],y1054))),true))
 .ret (.inr y1055)) (
 .ret (.inl (.gO y1042 [195])))) (
 .ret (.inl (.gO y1042 [195])))) (
 .ret (.inl (.gO y1042 [195])))) (
 let y1056:=(ak x.1 34)
 .ite y1056 (
 .aa ((0:Nat) < 1)<|
 .aa ((0:Nat) < 2)<|
 .aa ((1:Nat) < 2)<|
 .aa ((0:Int)≤0)<|
 .aa (0 < (1:Int))<|
 .aa ((0:Int)≤0)<|
 .aa (0 < (1:Int))<|
 .aa (((0:Nat)+2:Nat)≤2)<|
 let y1057:ao:=[8,8]
 let y1058:=x.2.2
 let y1059:=y1058.1
 let y1060:bq:=(y1057,y1059)
 .aa (aO y1060)<|
 let y1061:=((bf y1060)==true)
 .ite y1061 (
 let y1062:=y1058.2
 let y1063:=y1062.1
 .aa (a8 y1063)<|
 let y1064:=((bH y1063)==true)
 .ite y1064 (
 let y1065:=y1062.2.1
 .aa (a8 y1065)<|
 let y1066:=((bH y1065)==true)
 .ite y1066 (
 .aa (((0:Nat)+2:Nat)≤2)<|
 .aa (((0:Nat)+1:Nat)≤1)<|
 let y1067:cI:=(0,())
 let y1068:cq:=(y1057,y1067)
 let y1069:bD:=(0,(0,0))
 let y1070:cr:=(y1068,(((),((),([144],y1069))),true))
 .ret (.inr y1070)) (
 .ret (.inl (.gO y1057 [144])))) (
 .ret (.inl (.gO y1057 [144])))) (
 .ret (.inl (.gO y1057 [144])))) (
 let y1071:=(ak x.1 24)
 .ite y1071 (
 .aa ((0:Nat) < 1)<|
 .aa ((0:Nat) < 2)<|
 .aa ((1:Nat) < 2)<|
 .aa ((0:Int)≤0)<|
 .aa (0 < (1:Int))<|
 .aa ((0:Int)≤0)<|
 .aa (0 < (1:Int))<|
 .aa (((0:Nat)+2:Nat)≤2)<|
 let y1072:ao:=[8,8]
 let y1073:=x.2.2
 let y1074:=y1073.1
 let y1075:bq:=(y1072,y1074)
 .aa (aO y1075)<|
 let y1076:=((bf y1075)==true)
 .ite y1076 (
 let y1077:=y1073.2
 let y1078:=y1077.1
 .aa (dn y1078)<|
 let y1079:=((ez y1078)==true)
 .ite y1079 (
 let y1080:=y1077.2.1
 .aa (a8 y1080)<|
 let y1081:=((bH y1080)==true)
 .ite y1081 (
 .aa (((0:Nat)+2:Nat)≤2)<|
 .aa (((0:Nat)+1:Nat)≤1)<|
 let y1082:cI:=(0,())
 let y1083:cq:=(y1072,y1082)
 let y1084:bD:=(0,(3,0))
 let y1085:cr:=(y1083,(((),((),([80],y1084))),true))
 .ret (.inr y1085)) (
 .ret (.inl (.hJ y1072 [80])))) (
 .ret (.inl (.hJ y1072 [80])))) (
 .ret (.inl (.hJ y1072 [80])))) (
 .aa ((0:Nat) < 1)<|
 .aa ((0:Nat) < 2)<|
 .aa ((1:Nat) < 2)<|
 .aa ((0:Int)≤0)<|
 .aa (0 < (1:Int))<|
 .aa ((0:Int)≤0)<|
 .aa (0 < (1:Int))<|
 .aa (((0:Nat)+2:Nat)≤2)<|
 let y1086:ao:=[8,8]
 let y1087:=x.2.2
 let y1088:=y1087.1
 let y1089:bq:=(y1086,y1088)
 .aa (aO y1089)<|
 let y1090:=((bf y1089)==true)
 .ite y1090 (
 let y1091:=y1087.2
 let y1092:=y1091.1
 .aa (dn y1092)<|
 let y1093:=((ez y1092)==true)
 .ite y1093 (
 let y1094:=y1091.2.1
 .aa (a8 y1094)<|
 let y1095:=((bH y1094)==true)
 .ite y1095 (
 .aa (((0:Nat)+2:Nat)≤2)<|
 .aa (((0:Nat)+1:Nat)≤1)<|
 let y1096:cI:=(0,())
 let y1097:cq:=(y1086,y1096)
 let y1098:bD:=(0,(3,0))
 let y1099:cr:=(y1097,(((),((),([88],y1098))),true))
 .ret (.inr y1099)) (
 .ret (.inl (.hJ y1086 [88])))) (
 .ret (.inl (.hJ y1086 [88])))) (
 .ret (.inl (.hJ y1086 [88]))))))))))) (
 .ite y667 (
 .aa ((0:Nat) < 1)<|
 .aa ((0:Nat) < 2)<|
 .aa ((1:Nat) < 2)<|
 .aa ((0:Int)≤0)<|
 .aa (0 < (1:Int))<|
 .aa ((0:Int)≤0)<|
 .aa (0 < (1:Int))<|
 .aa (((0:Nat)+2:Nat)≤2)<|
 let y1100:ao:=[8,8]
 let y1101:=x.2.2
 let y1102:=y1101.1
 let y1103:bq:=(y1100,y1102)
 .aa (aO y1103)<|
 let y1104:=((bf y1103)==true)
 .ite y1104 (
 let y1105:=y1101.2
 let y1106:=y1105.1
 .aa (a8 y1106)<|
 let y1107:=((bH y1106)==true)
 .ite y1107 (
 let y1108:=y1105.2.1
 .aa (dD y1108)<|
 let y1109:=((eQ y1108)==true)
 .ite y1109 (
 .aa (((0:Nat)+2:Nat)≤2)<|
 .aa (((0:Nat)+1:Nat)≤1)<|
 let y1110:cI:=(0,())
 let y1111:cq:=(y1100,y1110)
 let y1112:bD:=(0,(0,4))
 let y1113:cr:=(y1111,(((),((),([232],y1112))),true))
 .ret (.inr y1113)) (
 .ret (.inl (.lC y1100 [232])))) (
 .ret (.inl (.lC y1100 [232])))) (
 .ret (.inl (.lC y1100 [232])))) (
 .ite y668 (
 .aa ((0:Nat) < 1)<|
 .aa ((0:Nat) < 1)<|
 .aa ((0:Nat) < 2)<|
 .aa ((1:Nat) < 2)<|
 .aa ((0:Int)≤0)<|
 .aa (0 < (1:Int))<|
 .aa ((0:Int)≤0)<|
 .aa (0 < (2:Int))<|
 .aa (((0:Nat)+2:Nat)≤2)<|
 let y1114:ao:=[8,8]
 let y1115:=x.2.2
 let y1116:=y1115.1
 let y1117:bq:=(y1114,y1116)
 .aa (aO y1117)<|
 let y1118:=((bf y1117)==true)
 .ite y1118 (
 let y1119:=y1115.2
 let y1120:=y1119.1
 .aa (a8 y1120)<|
 let y1121:=((bH y1120)==true)
 .ite y1121 (
 let y1122:=y1119.2.1
 .aa (dD y1122)<|
 let y1123:=((eQ y1122)==true)
 .ite y1123 (
 .aa (((0:Nat)+2:Nat)≤2)<|
 .aa (((0:Nat)+1:Nat)≤1)<|
 let y1124:cI:=(0,())
 let y1125:cq:=(y1114,y1124)
 let y1126:bD:=(0,(0,4))
 let y1127:cr:=(y1125,(((),((),([233],y1126))),true))
 .ret (.inr y1127)) (
 .ret (.inl (.jt y1114 [233] [255])))) (
 .ret (.inl (.jt y1114 [233] [255])))) (
 .ret (.inl (.jt y1114 [233] [255])))) (
 .ite y669 (
 .aa ((0:Nat) < 2)<|
 .aa ((1:Nat) < 2)<|
 .aa ((0:Nat) < 2)<|
 .aa ((1:Nat) < 2)<|
 .aa ((0:Int)≤0)<|
 .aa (0 < (1:Int))<|
 .aa ((0:Int)≤0)<|
 .aa (0 < (1:Int))<|
 .aa (((0:Nat)+2:Nat)≤2)<|
 let y1128:ao:=[8,8]
 let y1129:=x.2.2
 let y1130:=y1129.1
 let y1131:bq:=(y1128,y1130)
 .aa (aO y1131)<|
 let y1132:=((bf y1131)==true)
 .ite y1132 (
 let y1133:=y1129.2
 let y1134:=y1133.1
 .aa (a8 y1134)<|
 let y1135:=((bH y1134)==true)
 .ite y1135 (
 let y1136:=y1133.2.1
 .aa (dD y1136)<|
 let y1137:=((eQ y1136)==true)
 .ite y1137 (
 .aa (((0:Nat)+2:Nat)≤2)<|
 .aa (((0:Nat)+2:Nat)≤2)<|
 let y1138:cI:=(0,())
 let y1139:cq:=(y1128,y1138)
 let y1140:Int:=(cP .u8 x.2.1 15)
 let y1141:ao:=[15,(aK .u8 128 y1140)]
 let y1142:bD:=(0,(0,4))
 let y1143:cr:=(y1139,(((),((),(y1141,y1142))),true))
 .ret (.inr y1143)) (
 let y1144:Int:=(cP .u8 x.2.1 15)
 let y1145:ao:=[15,(aK .u8 128 y1144)]
 .ret (.inl (.ku y1128 y1145)))) (
 let y1146:Int:=(cP .u8 x.2.1 15)
 let y1147:ao:=[15,(aK .u8 128 y1146)]
 .ret (.inl (.ku y1128 y1147)))) (
 let y1148:Int:=(cP .u8 x.2.1 15)
 let y1149:ao:=[15,(aK .u8 128 y1148)]
 .ret (.inl (.ku y1128 y1149)))) (
 let y1150:=(ak x.1 27)
 .ite y1150 (
 .aa ((0:Nat) < 1)<|
 .aa ((0:Nat) < 2)<|
 .aa ((1:Nat) < 2)<|
 .aa ((0:Int)≤0)<|
 .aa (0 < (1:Int))<|
 .aa ((0:Int)≤0)<|
 .aa (0 < (1:Int))<|
 .aa (((0:Nat)+2:Nat)≤2)<|
 let y1151:ao:=[8,8]
 let y1152:=x.2.2
 let y1153:=y1152.1
 let y1154:bq:=(y1151,y1153)
 .aa (aO y1154)<|
 let y1155:=((bf y1154)==true)
 .ite y1155 (
 let y1156:=y1152.2
 let y1157:=y1156.1
 .aa (a8 y1157)<|
 let y1158:=((bH y1157)==true)
 .ite y1158 (
 let y1159:=y1156.2.1
 .aa (a8 y1159)<|
 let y1160:=((bH y1159)==true)
 .ite y1160 (
 .aa (((0:Nat)+2:Nat)≤2)<|
 .aa (((0:Nat)+1:Nat)≤1)<|
 let y1161:cI:=(0,())
 let y1162:cq:=(y1151,y1161)
 let y1163:bD:=(0,(0,0))
 let y1164:cr:=(y1162,(((),((),([195],y1163))),true))
 .ret (.inr y1164)) (
 .ret (.inl (.gO y1151 [195])))) (
 .ret (.inl (.gO y1151 [195])))) (
 .ret (.inl (.gO y1151 [195])))) (
 let y1165:=(ak x.1 34)
 .ite y1165 (
 .aa ((0:Nat) < 1)<|
 .aa ((0:Nat) < 2)<|
 .aa ((1:Nat) < 2)<|
 .aa ((0:Int)≤0)<|
 .aa (0 < (1:Int))<|
 .aa ((0:Int)≤0)<|
 .aa (0 < (1:Int))<|
 .aa (((0:Nat)+2:Nat)≤2)<|
 let y1166:ao:=[8,8]
 let y1167:=x.2.2
 let y1168:=y1167.1
 let y1169:bq:=(y1166,y1168)
 .aa (aO y1169)<|
 let y1170:=((bf y1169)==true)
 .ite y1170 (
 let y1171:=y1167.2
 let y1172:=y1171.1
 .aa (a8 y1172)<|
 let y1173:=((bH y1172)==true)
 .ite y1173 (
 let y1174:=y1171.2.1
 .aa (a8 y1174)<|
 let y1175:=((bH y1174)==true)
 .ite y1175 (
 .aa (((0:Nat)+2:Nat)≤2)<|
 .aa (((0:Nat)+1:Nat)≤1)<|
 let y1176:cI:=(0,())
 let y1177:cq:=(y1166,y1176)
 let y1178:bD:=(0,(0,0))
 let y1179:cr:=(y1177,(((),((),([144],y1178))),true))
 .ret (.inr y1179)) (
 .ret (.inl (.gO y1166 [144])))) (
 .ret (.inl (.gO y1166 [144])))) (
 .ret (.inl (.gO y1166 [144])))) (
 let y1180:=(ak x.1 24)
 .ite y1180 (
 .aa ((0:Nat) < 1)<|
 .aa ((0:Nat) < 2)<|
 .aa ((1:Nat) < 2)<|
 .aa ((0:Int)≤0)<|
 .aa (0 < (1:Int))<|
 .aa ((0:Int)≤0)<|
 .aa (0 < (1:Int))<|
 .aa (((0:Nat)+2:Nat)≤2)<|
 let y1181:ao:=[8,8]
 let y1182:=x.2.2
 let y1183:=y1182.1
 let y1184:bq:=(y1181,y1183)
 .aa (aO y1184)<|
 let y1185:=((bf y1184)==true)
 .ite y1185 (
 let y1186:=y1182.2
 let y1187:=y1186.1
 .aa (dn y1187)<|
 let y1188:=((ez y1187)==true)
 .ite y1188 (
 let y1189:=y1186.2.1
 .aa (a8 y1189)<|
 let y1190:=((bH y1189)==true)
 .ite y1190 (
 .aa (((0:Nat)+2:Nat)≤2)<|
 .aa (((0:Nat)+1:Nat)≤1)<|
 let y1191:cI:=(0,())
 let y1192:cq:=(y1181,y1191)
 let y1193:bD:=(0,(3,0))
 let y1194:cr:=(y1192,(((),((),([80],y1193))),true))
 .ret (.inr y1194)) (
 .ret (.inl (.hJ y1181 [80])))) (
 .ret (.inl (.hJ y1181 [80])))) (
 .ret (.inl (.hJ y1181 [80])))) (
 .aa ((0:Nat) < 1)<|
 .aa ((0:Nat) < 2)<|
 .aa ((1:Nat) < 2)<|
 .aa ((0:Int)≤0)<|
 .aa (0 < (1:Int))<|
 .aa ((0:Int)≤0)<|
 .aa (0 < (1:Int))<|
 .aa (((0:Nat)+2:Nat)≤2)<|
 let y1195:ao:=[8,8]
 let y1196:=x.2.2
 let y1197:=y1196.1
 let y1198:bq:=(y1195,y1197)
 .aa (aO y1198)<|
 let y1199:=((bf y1198)==true)
 .ite y1199 (
 let y1200:=y1196.2
 let y1201:=y1200.1
 .aa (dn y1201)<|
 let y1202:=((ez y1201)==true)
 .ite y1202 (
 let y1203:=y1200.2.1
 .aa (a8 y1203)<|
 let y1204:=((bH y1203)==true)
 .ite y1204 (
 .aa (((0:Nat)+2:Nat)≤2)<|
 .aa (((0:Nat)+1:Nat)≤1)<|
 let y1205:cI:=(0,())
 let y1206:cq:=(y1195,y1205)
 let y1207:bD:=(0,(3,0))
 let y1208:cr:=(y1206,(((),((),([88],y1207))),true))
 .ret (.inr y1208)) (
 .ret (.inl (.hJ y1195 [88])))) (
 .ret (.inl (.hJ y1195 [88])))) (
 .ret (.inl (.hJ y1195 [88]))))))))))) (
 .ite y667 (
 .aa ((0:Nat) < 1)<|
 .aa ((0:Nat) < 2)<|
 .aa ((1:Nat) < 2)<|
 .aa ((0:Int)≤0)<|
 .aa (0 < (1:Int))<|
 .aa ((0:Int)≤0)<|
 .aa (0 < (1:Int))<|
 .aa (((0:Nat)+2:Nat)≤2)<|
 let y1209:ao:=[8,8]
 let y1210:=x.2.2
 let y1211:=y1210.1
 let y1212:bq:=(y1209,y1211)
 .aa (aO y1212)<|
 let y1213:=((bf y1212)==true)
 .ite y1213 (
 let y1214:=y1210.2
 let y1215:=y1214.1
 .aa (a8 y1215)<|
 let y1216:=((bH y1215)==true)
 .ite y1216 (
 let y1217:=y1214.2.1
 .aa (dD y1217)<|
 let y1218:=((eQ y1217)==true)
 .ite y1218 (
 .aa (((0:Nat)+2:Nat)≤2)<|
 .aa (((0:Nat)+1:Nat)≤1)<|
 let y1219:cI:=(0,())
 let y1220:cq:=(y1209,y1219)
 let y1221:bD:=(0,(0,4))
 let y1222:cr:=(y1220,(((),((),([232],y1221))),true))
 .ret (.inr y1222)) (
 .ret (.inl (.lC y1209 [232])))) (
 .ret (.inl (.lC y1209 [232])))) (
 .ret (.inl (.lC y1209 [232])))) (
 .ite y668 (
 .aa ((0:Nat) < 1)<|
 .aa ((0:Nat) < 1)<|
 .aa ((0:Nat) < 2)<|
 .aa ((1:Nat) < 2)<|
 .aa ((0:Int)≤0)<|
 .aa (0 < (1:Int))<|
 .aa ((0:Int)≤0)<|
 .aa (0 < (2:Int))<|
 .aa (((0:Nat)+2:Nat)≤2)<|
 let y1223:ao:=[8,8]
 let y1224:=x.2.2
 let y1225:=y1224.1
 let y1226:bq:=(y1223,y1225)
 .aa (aO y1226)<|
 let y1227:=((bf y1226)==true)
 .ite y1227 (
 let y1228:=y1224.2
 let y1229:=y1228.1
 .aa (a8 y1229)<|
 let y1230:=((bH y1229)==true)
 .ite y1230 (
 let y1231:=y1228.2.1
 .aa (dD y1231)<|
 let y1232:=((eQ y1231)==true)
 .ite y1232 (
 .aa (((0:Nat)+2:Nat)≤2)<|
 .aa (((0:Nat)+1:Nat)≤1)<|
 let y1233:cI:=(0,())
 let y1234:cq:=(y1223,y1233)
 let y1235:bD:=(0,(0,4))
 let y1236:cr:=(y1234,(((),((),([233],y1235))),true))
 .ret (.inr y1236)) (
 .ret (.inl (.jt y1223 [233] [255])))) (
 .ret (.inl (.jt y1223 [233] [255])))) (
 .ret (.inl (.jt y1223 [233] [255])))) (
 let y1237:=(ak x.1 29)
 .ite y1237 (
 .aa ((0:Nat) < 2)<|
 .aa ((1:Nat) < 2)<|
 .aa ((0:Nat) < 2)<|
 .aa ((1:Nat) < 2)<|
 .aa ((0:Int)≤0)<|
 .aa (0 < (1:Int))<|
 .aa ((0:Int)≤0)<|
 .aa (0 < (1:Int))<|
 .aa (((0:Nat)+2:Nat)≤2)<|
 let y1238:ao:=[8,8]
 let y1239:=x.2.2
 let y1240:=y1239.1
 let y1241:bq:=(y1238,y1240)
 .aa (aO y1241)<|
 let y1242:=((bf y1241)==true)
 .ite y1242 (
 let y1243:=y1239.2
 let y1244:=y1243.1
 .aa (a8 y1244)<|
 let y1245:=((bH y1244)==true)
 .ite y1245 (
 let y1246:=y1243.2.1
 .aa (dD y1246)<|
 let y1247:=((eQ y1246)==true)
 .ite y1247 (
 .aa (((0:Nat)+2:Nat)≤2)<|
 .aa (((0:Nat)+2:Nat)≤2)<|
 let y1248:cI:=(0,())
 let y1249:cq:=(y1238,y1248)
 let y1250:Int:=(cP .u8 x.2.1 15)
 let y1251:ao:=[15,(aK .u8 128 y1250)]
 let y1252:bD:=(0,(0,4))
 let y1253:cr:=(y1249,(((),((),(y1251,y1252))),true))
 .ret (.inr y1253)) (
 let y1254:Int:=(cP .u8 x.2.1 15)
 let y1255:ao:=[15,(aK .u8 128 y1254)]
 .ret (.inl (.ku y1238 y1255)))) (
 let y1256:Int:=(cP .u8 x.2.1 15)
 let y1257:ao:=[15,(aK .u8 128 y1256)]
 .ret (.inl (.ku y1238 y1257)))) (
 let y1258:Int:=(cP .u8 x.2.1 15)
 let y1259:ao:=[15,(aK .u8 128 y1258)]
 .ret (.inl (.ku y1238 y1259)))) (
 let y1260:=(ak x.1 27)
 .ite y1260 (
 .aa ((0:Nat) < 1)<|
 .aa ((0:Nat) < 2)<|
 .aa ((1:Nat) < 2)<|
 .aa ((0:Int)≤0)<|
 .aa (0 < (1:Int))<|
 .aa ((0:Int)≤0)<|
 .aa (0 < (1:Int))<|
 .aa (((0:Nat)+2:Nat)≤2)<|
 let y1261:ao:=[8,8]
 let y1262:=x.2.2
 let y1263:=y1262.1
 let y1264:bq:=(y1261,y1263)
 .aa (aO y1264)<|
 let y1265:=((bf y1264)==true)
 .ite y1265 (
 let y1266:=y1262.2
 let y1267:=y1266.1
 .aa (a8 y1267)<|
 let y1268:=((bH y1267)==true)
 .ite y1268 (
 let y1269:=y1266.2.1
 .aa (a8 y1269)<|
 let y1270:=((bH y1269)==true)
 .ite y1270 (
 .aa (((0:Nat)+2:Nat)≤2)<|
 .aa (((0:Nat)+1:Nat)≤1)<|
 let y1271:cI:=(0,())
 let y1272:cq:=(y1261,y1271)
 let y1273:bD:=(0,(0,0))
 let y1274:cr:=(y1272,(((),((),([195],y1273))),true))
 .ret (.inr y1274)) (
 .ret (.inl (.gO y1261 [195])))) (
 .ret (.inl (.gO y1261 [195])))) (
 .ret (.inl (.gO y1261 [195])))) (
 let y1275:=(ak x.1 34)
 .ite y1275 (
 .aa ((0:Nat) < 1)<|
 .aa ((0:Nat) < 2)<|
 .aa ((1:Nat) < 2)<|
 .aa ((0:Int)≤0)<|
 .aa (0 < (1:Int))<|
 .aa ((0:Int)≤0)<|
 .aa (0 < (1:Int))<|
 .aa (((0:Nat)+2:Nat)≤2)<|
 let y1276:ao:=[8,8]
 let y1277:=x.2.2
 let y1278:=y1277.1
 let y1279:bq:=(y1276,y1278)
 .aa (aO y1279)<|
 let y1280:=((bf y1279)==true)
 .ite y1280 (
 let y1281:=y1277.2
 let y1282:=y1281.1
 .aa (a8 y1282)<|
 let y1283:=((bH y1282)==true)
 .ite y1283 (
 let y1284:=y1281.2.1
 .aa (a8 y1284)<|
 let y1285:=((bH y1284)==true)
 .ite y1285 (
 .aa (((0:Nat)+2:Nat)≤2)<|
 .aa (((0:Nat)+1:Nat)≤1)<|
 let y1286:cI:=(0,())
 let y1287:cq:=(y1276,y1286)
 let y1288:bD:=(0,(0,0))
 let y1289:cr:=(y1287,(((),((),([144],y1288))),true))
 .ret (.inr y1289)) (
 .ret (.inl (.gO y1276 [144])))) (
 .ret (.inl (.gO y1276 [144])))) (
 .ret (.inl (.gO y1276 [144])))) (
 let y1290:=(ak x.1 24)
 .ite y1290 (
 .aa ((0:Nat) < 1)<|
 .aa ((0:Nat) < 2)<|
 .aa ((1:Nat) < 2)<|
 .aa ((0:Int)≤0)<|
 .aa (0 < (1:Int))<|
 .aa ((0:Int)≤0)<|
 .aa (0 < (1:Int))<|
 .aa (((0:Nat)+2:Nat)≤2)<|
 let y1291:ao:=[8,8]
 let y1292:=x.2.2
 let y1293:=y1292.1
 let y1294:bq:=(y1291,y1293)
 .aa (aO y1294)<|
 let y1295:=((bf y1294)==true)
 .ite y1295 (
 let y1296:=y1292.2
 let y1297:=y1296.1
 .aa (dn y1297)<|
 let y1298:=((ez y1297)==true)
 .ite y1298 (
 let y1299:=y1296.2.1
 .aa (a8 y1299)<|
 let y1300:=((bH y1299)==true)
 .ite y1300 (
 .aa (((0:Nat)+2:Nat)≤2)<|
 .aa (((0:Nat)+1:Nat)≤1)<|
 let y1301:cI:=(0,())
 let y1302:cq:=(y1291,y1301)
 let y1303:bD:=(0,(3,0))
 let y1304:cr:=(y1302,(((),((),([80],y1303))),true))
 .ret (.inr y1304)) (
 .ret (.inl (.hJ y1291 [80])))) (
 .ret (.inl (.hJ y1291 [80])))) (
 .ret (.inl (.hJ y1291 [80])))) (
 .aa ((0:Nat) < 1)<|
 .aa ((0:Nat) < 2)<|
 .aa ((1:Nat) < 2)<|
 .aa ((0:Int)≤0)<|
 .aa (0 < (1:Int))<|
 .aa ((0:Int)≤0)<|
 .aa (0 < (1:Int))<|
 .aa (((0:Nat)+2:Nat)≤2)<|
 let y1305:ao:=[8,8]
 let y1306:=x.2.2
 let y1307:=y1306.1
 let y1308:bq:=(y1305,y1307)
 .aa (aO y1308)<|
 let y1309:=((bf y1308)==true)
 .ite y1309 (
 let y1310:=y1306.2
 let y1311:=y1310.1
 .aa (dn y1311)<|
 let y1312:=((ez y1311)==true)
 .ite y1312 (
 let y1313:=y1310.2.1
 .aa (a8 y1313)<|
 let y1314:=((bH y1313)==true)
 .ite y1314 (
 .aa (((0:Nat)+2:Nat)≤2)<|
 .aa (((0:Nat)+1:Nat)≤1)<|
 let y1315:cI:=(0,())
 let y1316:cq:=(y1305,y1315)
 let y1317:bD:=(0,(3,0))
 let y1318:cr:=(y1316,(((),((),([88],y1317))),true))
 .ret (.inr y1318)) (
 .ret (.inl (.hJ y1305 [88])))) (
 .ret (.inl (.hJ y1305 [88])))) (
 .ret (.inl (.hJ y1305 [88]))))))))))) (
 .ite y667 (
 .aa ((0:Nat) < 1)<|
 .aa ((0:Nat) < 2)<|
 .aa ((1:Nat) < 2)<|
 .aa ((0:Int)≤0)<|
 .aa (0 < (1:Int))<|
 .aa ((0:Int)≤0)<|
 .aa (0 < (1:Int))<|
 .aa (((0:Nat)+2:Nat)≤2)<|
 let y1319:ao:=[8,8]
 let y1320:=x.2.2
 let y1321:=y1320.1
 let y1322:bq:=(y1319,y1321)
 .aa (aO y1322)<|
 let y1323:=((bf y1322)==true)
 .ite y1323 (
 let y1324:=y1320.2
 let y1325:=y1324.1
 .aa (a8 y1325)<|
 let y1326:=((bH y1325)==true)
 .ite y1326 (
 let y1327:=y1324.2.1
 .aa (dD y1327)<|
 let y1328:=((eQ y1327)==true)
 .ite y1328 (
 .aa (((0:Nat)+2:Nat)≤2)<|
 .aa (((0:Nat)+1:Nat)≤1)<|
 let y1329:cI:=(0,())
 let y1330:cq:=(y1319,y1329)
 let y1331:bD:=(0,(0,4))
 let y1332:cr:=(y1330,(((),((),([232],y1331))),true))
 .ret (.inr y1332)) (
 .ret (.inl (.lC y1319 [232])))) (
 .ret (.inl (.lC y1319 [232])))) (
 .ret (.inl (.lC y1319 [232])))) (
 let y1333:=(ak x.1 28)
 .ite y1333 (
 .aa ((0:Nat) < 1)<|
 .aa ((0:Nat) < 1)<|
 .aa ((0:Nat) < 2)<|
 .aa ((1:Nat) < 2)<|
 .aa ((0:Int)≤0)<|
 .aa (0 < (1:Int))<|
 .aa ((0:Int)≤0)<|
 .aa (0 < (2:Int))<|
 .aa (((0:Nat)+2:Nat)≤2)<|
 let y1334:ao:=[8,8]
 let y1335:=x.2.2
 let y1336:=y1335.1
 let y1337:bq:=(y1334,y1336)
 .aa (aO y1337)<|
 let y1338:=((bf y1337)==true)
 .ite y1338 (
 let y1339:=y1335.2
 let y1340:=y1339.1
 .aa (a8 y1340)<|
 let y1341:=((bH y1340)==true)
 .ite y1341 (
 let y1342:=y1339.2.1
 .aa (dD y1342)<|
 let y1343:=((eQ y1342)==true)
 .ite y1343 (
 .aa (((0:Nat)+2:Nat)≤2)<|
 .aa (((0:Nat)+1:Nat)≤1)<|
 let y1344:cI:=(0,())
 let y1345:cq:=(y1334,y1344)
 let y1346:bD:=(0,(0,4))
 let y1347:cr:=(y1345,(((),((),([233],y1346))),true))
 .ret (.inr y1347)) (
 .ret (.inl (.jt y1334 [233] [255])))) (
 .ret (.inl (.jt y1334 [233] [255])))) (
 .ret (.inl (.jt y1334 [233] [255])))) (
 let y1348:=(ak x.1 29)
 .ite y1348 (
 .aa ((0:Nat) < 2)<|
 .aa ((1:Nat) < 2)<|
 .aa ((0:Nat) < 2)<|
 .aa ((1:Nat) < 2)<|
 .aa ((0:Int)≤0)<|
 .aa (0 < (1:Int))<|
 .aa ((0:Int)≤0)<|
 .aa (0 < (1:Int))<|
 .aa (((0:Nat)+2:Nat)≤2)<|
 let y1349:ao:=[8,8]
 let y1350:=x.2.2
 let y1351:=y1350.1
 let y1352:bq:=(y1349,y1351)
 .aa (aO y1352)<|
 let y1353:=((bf y1352)==true)
 .ite y1353 (
 let y1354:=y1350.2
 let y1355:=y1354.1
 .aa (a8 y1355)<|
 let y1356:=((bH y1355)==true)
 .ite y1356 (
 let y1357:=y1354.2.1
 .aa (dD y1357)<|
 let y1358:=((eQ y1357)==true)
 .ite y1358 (
 .aa (((0:Nat)+2:Nat)≤2)<|
 .aa (((0:Nat)+2:Nat)≤2)<|
 let y1359:cI:=(0,())
 let y1360:cq:=(y1349,y1359)
 let y1361:Int:=(cP .u8 x.2.1 15)
 let y1362:ao:=[15,(aK .u8 128 y1361)]
 let y1363:bD:=(0,(0,4))
 let y1364:cr:=(y1360,(((),((),(y1362,y1363))),true))
 .ret (.inr y1364)) (
 let y1365:Int:=(cP .u8 x.2.1 15)
 let y1366:ao:=[15,(aK .u8 128 y1365)]
 .ret (.inl (.ku y1349 y1366)))) (
 let y1367:Int:=(cP .u8 x.2.1 15)
 let y1368:ao:=[15,(aK .u8 128 y1367)]
 .ret (.inl (.ku y1349 y1368)))) (
 let y1369:Int:=(cP .u8 x.2.1 15)
 let y1370:ao:=[15,(aK .u8 128 y1369)]
 .ret (.inl (.ku y1349 y1370)))) (
 let y1371:=(ak x.1 27)
 .ite y1371 (
 .aa ((0:Nat) < 1)<|
 .aa ((0:Nat) < 2)<|
 .aa ((1:Nat) < 2)<|
 .aa ((0:Int)≤0)<|
 .aa (0 < (1:Int))<|
 .aa ((0:Int)≤0)<|
 .aa (0 < (1:Int))<|
 .aa (((0:Nat)+2:Nat)≤2)<|
 let y1372:ao:=[8,8]
 let y1373:=x.2.2
 let y1374:=y1373.1
 let y1375:bq:=(y1372,y1374)
 .aa (aO y1375)<|
 let y1376:=((bf y1375)==true)
 .ite y1376 (
 let y1377:=y1373.2
 let y1378:=y1377.1
 .aa (a8 y1378)<|
 let y1379:=((bH y1378)==true)
 .ite y1379 (
 let y1380:=y1377.2.1
 .aa (a8 y1380)<|
 let y1381:=((bH y1380)==true)
 .ite y1381 (
 .aa (((0:Nat)+2:Nat)≤2)<|
 .aa (((0:Nat)+1:Nat)≤1)<|
 let y1382:cI:=(0,())
 let y1383:cq:=(y1372,y1382)
 let y1384:bD:=(0,(0,0))
 let y1385:cr:=(y1383,(((),((),([195],y1384))),true))
 .ret (.inr y1385)) (
 .ret (.inl (.gO y1372 [195])))) (
 .ret (.inl (.gO y1372 [195])))) (
 .ret (.inl (.gO y1372 [195])))) (
 let y1386:=(ak x.1 34)
 .ite y1386 (
 .aa ((0:Nat) < 1)<|
 .aa ((0:Nat) < 2)<|
 .aa ((1:Nat) < 2)<|
 .aa ((0:Int)≤0)<|
 .aa (0 < (1:Int))<|
 .aa ((0:Int)≤0)<|
 .aa (0 < (1:Int))<|
 .aa (((0:Nat)+2:Nat)≤2)<|
 let y1387:ao:=[8,8]
 let y1388:=x.2.2
 let y1389:=y1388.1
 let y1390:bq:=(y1387,y1389)
 .aa (aO y1390)<|
 let y1391:=((bf y1390)==true)
 .ite y1391 (
 let y1392:=y1388.2
 let y1393:=y1392.1
 .aa (a8 y1393)<|
 let y1394:=((bH y1393)==true)
 .ite y1394 (
 let y1395:=y1392.2.1
 .aa (a8 y1395)<|
 let y1396:=((bH y1395)==true)
 .ite y1396 (
 .aa (((0:Nat)+2:Nat)≤2)<|
 .aa (((0:Nat)+1:Nat)≤1)<|
 let y1397:cI:=(0,())
 let y1398:cq:=(y1387,y1397)
 let y1399:bD:=(0,(0,0))
 let y1400:cr:=(y1398,(((),((),([144],y1399))),true))
 .ret (.inr y1400)) (
 .ret (.inl (.gO y1387 [144])))) (
 .ret (.inl (.gO y1387 [144])))) (
 .ret (.inl (.gO y1387 [144])))) (
 let y1401:=(ak x.1 24)
 .ite y1401 (
 .aa ((0:Nat) < 1)<|
 .aa ((0:Nat) < 2)<|
 .aa ((1:Nat) < 2)<|
 .aa ((0:Int)≤0)<|
 .aa (0 < (1:Int))<|
 .aa ((0:Int)≤0)<|
 .aa (0 < (1:Int))<|
 .aa (((0:Nat)+2:Nat)≤2)<|
 let y1402:ao:=[8,8]
 let y1403:=x.2.2
 let y1404:=y1403.1
 let y1405:bq:=(y1402,y1404)
 .aa (aO y1405)<|
 let y1406:=((bf y1405)==true)
 .ite y1406 (
 let y1407:=y1403.2
 let y1408:=y1407.1
 .aa (dn y1408)<|
 let y1409:=((ez y1408)==true)
 .ite y1409 (
 let y1410:=y1407.2.1
 .aa (a8 y1410)<|
 let y1411:=((bH y1410)==true)
 .ite y1411 (
 .aa (((0:Nat)+2:Nat)≤2)<|
 .aa (((0:Nat)+1:Nat)≤1)<|
 let y1412:cI:=(0,())
 let y1413:cq:=(y1402,y1412)
 let y1414:bD:=(0,(3,0))
 let y1415:cr:=(y1413,(((),((),([80],y1414))),true))
 .ret (.inr y1415)) (
 .ret (.inl (.hJ y1402 [80])))) (
 .ret (.inl (.hJ y1402 [80])))) (
 .ret (.inl (.hJ y1402 [80])))) (
 .aa ((0:Nat) < 1)<|
 .aa ((0:Nat) < 2)<|
 .aa ((1:Nat) < 2)<|
 .aa ((0:Int)≤0)<|
 .aa (0 < (1:Int))<|
 .aa ((0:Int)≤0)<|
 .aa (0 < (1:Int))<|
 .aa (((0:Nat)+2:Nat)≤2)<|
 let y1416:ao:=[8,8]
 let y1417:=x.2.2
 let y1418:=y1417.1
 let y1419:bq:=(y1416,y1418)
 .aa (aO y1419)<|
 let y1420:=((bf y1419)==true)
 .ite y1420 (
 let y1421:=y1417.2
 let y1422:=y1421.1
 .aa (dn y1422)<|
 let y1423:=((ez y1422)==true)
 .ite y1423 (
 let y1424:=y1421.2.1
 .aa (a8 y1424)<|
 let y1425:=((bH y1424)==true)
 .ite y1425 (
 .aa (((0:Nat)+2:Nat)≤2)<|
 .aa (((0:Nat)+1:Nat)≤1)<|
 let y1426:cI:=(0,())
 let y1427:cq:=(y1416,y1426)
 let y1428:bD:=(0,(3,0))
 let y1429:cr:=(y1427,(((),((),([88],y1428))),true))
 .ret (.inr y1429)) (
 .ret (.inl (.hJ y1416 [88])))) (
 .ret (.inl (.hJ y1416 [88])))) (
 .ret (.inl (.hJ y1416 [88])))))))))))))))))))))))))))))))))))
 | .h1 v43 v59 v65 v68 v69 v70 v71=>
 .aa ((0:Int)≤1)<|
 .aa (1 < (4:Int))<|
 .aa (((0:Nat)+2:Nat)≤2)<|
 let y0:ao:=(v43.take 2)
 let y1:=x.2.2
 let y2:bq:=(y0,y1.1)
 .aa (aO y2)<|
 .ite ((bf y2)==true) (
 let y3:=y1.2
 let y4:=y3.1
 .aa (dn y4)<|
 .ite ((ez y4)==true) (
 let y5:=y3.2.1
 .aa (lx y5)<|
 .ite ((pN y5)==true) (
 .aa (((0:Nat)+2:Nat)≤2)<|
 .aa (((0:Nat)+1:Nat)≤1)<|
 .ret (.inr ((y0,(0,())),(((),((),((v69.take 1),((-1),(2,0))))),true)))) (
 .ret (.inl (.wX v43 v59 v65 v68 v69 v70 v71)))) (
 .ret (.inl (.wX v43 v59 v65 v68 v69 v70 v71)))) (
 .ret (.inl (.wX v43 v59 v65 v68 v69 v70 v71)))
 | .h2 v43 v62 v63 v64 v86 v105 v106 v107 v108 v115=>
 .aa ((0:Int)≤1)<|
 .aa (1 < (3:Int))<|
 .aa (((0:Nat)+1:Nat)≤1)<|
 let y0:ao:=(v43.take 1)
 let y1:=x.2.2
 let y2:bq:=(y0,y1.1)
 .aa (aO y2)<|
 .ite ((bf y2)==true) (
 let y3:=y1.2
 let y4:=y3.1
 .aa (dn y4)<|
 .ite ((ez y4)==true) (
 let y5:=y3.2.1
 .aa (lx y5)<|
 .ite ((pN y5)==true) (
 .aa (((0:Nat)+1:Nat)≤1)<|
 .aa (((0:Nat)+1:Nat)≤1)<|
 .ret (.inr ((y0,(0,())),(((),((),((v63.take 1),((-1),(2,0))))),true)))) (
 .ret (.inl (.yy v43 v62 v63 v64 v86 v105 v106 v107 v108 v115)))) (
 .ret (.inl (.yy v43 v62 v63 v64 v86 v105 v106 v107 v108 v115)))) (
 .ret (.inl (.yy v43 v62 v63 v64 v86 v105 v106 v107 v108 v115)))
 | .h3 v43 v50=>
 .ret (.inl (.my))
 | .h4 v43 v56 v57=>
 .aa ((0:Int)≤1)<|
 .aa (1 < (2:Int))<|
 .aa (((0:Nat)+2:Nat)≤2)<|
 let y0:ao:=(v43.take 2)
 let y1:=x.2.2
 let y2:bq:=(y0,y1.1)
 .aa (aO y2)<|
 .ite ((bf y2)==true) (
 let y3:=y1.2
 let y4:=y3.1
 .aa (dq y4)<|
 .ite ((eC y4)==true) (
 let y5:=y3.2.1
 .aa (dD y5)<|
 .ite ((eQ y5)==true) (
 .aa (((0:Nat)+2:Nat)≤2)<|
 .aa (((0:Nat)+1:Nat)≤1)<|
 .ret (.inr ((y0,(0,())),(((),((),((v57.take 1),(0,(1,4))))),true)))) (
 .ret (.inl (.BW v43 v56 v57)))) (
 .ret (.inl (.BW v43 v56 v57)))) (
 .ret (.inl (.BW v43 v56 v57)))
 | .h5 v43 v47 v50=>
 .ret (.inl (.my))
 | .h6 v43 v47 v53 v56 v57=>
 .aa ((0:Int)≤1)<|
 .aa (1 < (2:Int))<|
 .aa (((0:Nat)+2:Nat)≤2)<|
 let y0:ao:=(v43.take 2)
 let y1:=x.2.2
 let y2:bq:=(y0,y1.1)
 .aa (aO y2)<|
 .ite ((bf y2)==true) (
 let y3:=y1.2
 let y4:=y3.1
 .aa (dq y4)<|
 .ite ((eC y4)==true) (
 let y5:=y3.2.1
 .aa (ED y5)<|
 .ite ((Ms y5)==true) (
 .aa (((0:Nat)+2:Nat)≤2)<|
 .aa (((0:Nat)+1:Nat)≤1)<|
 .ret (.inr ((y0,(0,())),(((),((),((v57.take 1),(v53,(1,0))))),true)))) (
 .ret (.inl (.Bh v43 v47 v53 v56 v57)))) (
 .ret (.inl (.Bh v43 v47 v53 v56 v57)))) (
 .ret (.inl (.Bh v43 v47 v53 v56 v57)))
 | .h7 v43 v50=>
 .ret (.inl (.my))
 | .h8 v43 v50=>
 .ret (.inl (.my))
 | .h9 v43 v56 v57=>
 .aa ((0:Int)≤1)<|
 .aa (1 < (2:Int))<|
 .aa (((0:Nat)+1:Nat)≤1)<|
 let y0:ao:=(v43.take 1)
 let y1:=x.2.2
 let y2:bq:=(y0,y1.1)
 .aa (aO y2)<|
 .ite ((bf y2)==true) (
 let y3:=y1.2
 let y4:=y3.1
 .aa (lx y4)<|
 .ite ((pN y4)==true) (
 let y5:=y3.2.1
 .aa (kg y5)<|
 .ite ((nS y5)==true) (
 .aa (((0:Nat)+1:Nat)≤1)<|
 .aa (((0:Nat)+2:Nat)≤2)<|
 .ret (.inr ((y0,(243,())),(((),((),((v57.take 2),((-1),(1,0))))),true)))) (
 .ret (.inl (.DA v43 v56 v57)))) (
 .ret (.inl (.DA v43 v56 v57)))) (
 .ret (.inl (.DA v43 v56 v57)))
 | .uP v43 v50=>
 .ret (.inl (.my))
 | .oI v43 v49 v50=>
 .ret (.inl (.my))
 | .lC v43 v50=>
 .ret (.inl (.my))
 | .jt v43 v56 v57=>
 .aa ((0:Int)≤1)<|
 .aa (1 < (2:Int))<|
 .aa (((0:Nat)+2:Nat)≤2)<|
 let y0:ao:=(v43.take 2)
 let y1:=x.2.2
 let y2:bq:=(y0,y1.1)
 .aa (aO y2)<|
 .ite ((bf y2)==true) (
 let y3:=y1.2
 let y4:=y3.1
 .aa (dq y4)<|
 .ite ((eC y4)==true) (
 let y5:=y3.2.1
 .aa (a8 y5)<|
 .ite ((bH y5)==true) (
 .aa (((0:Nat)+2:Nat)≤2)<|
 .aa (((0:Nat)+1:Nat)≤1)<|
 .ret (.inr ((y0,(0,())),(((),((),((v57.take 1),(4,(1,0))))),true)))) (
 .ret (.inl (.Dz v43 v56 v57)))) (
 .ret (.inl (.Dz v43 v56 v57)))) (
 .ret (.inl (.Dz v43 v56 v57)))
 | .ku v43 v50=>
 .ret (.inl (.my))
 | .gO v43 v50=>
 .ret (.inl (.my))
 | .hJ v43 v50=>
 .ret (.inl (.my))
 | .my=>
 .ret (.inr ((([]:List Int),(0,())),(((),((),(([]:List Int),(0,(0,0))))),false)))
 | .wX v43 v59 v65 v68 v69 v70 v71=>
 .aa ((0:Int)≤2)<|
 .aa (2 < (4:Int))<|
 .aa (((0:Nat)+2:Nat)≤2)<|
 let y0:ao:=(v43.take 2)
 let y1:=x.2.2
 let y2:bq:=(y0,y1.1)
 .aa (aO y2)<|
 .ite ((bf y2)==true) (
 let y3:=y1.2
 let y4:=y3.1
 .aa (dq y4)<|
 .ite ((eC y4)==true) (
 let y5:=y3.2.1
 .aa (wI y5)<|
 .ite ((DK y5)==true) (
 .aa (((0:Nat)+2:Nat)≤2)<|
 .aa (((0:Nat)+1:Nat)≤1)<|
 .ret (.inr ((y0,(0,())),(((),((),((v70.take 1),(v59,(1,1))))),true)))) (
 .ret (.inl (.Dy v43 v59 v65 v68 v69 v70 v71)))) (
 .ret (.inl (.Dy v43 v59 v65 v68 v69 v70 v71)))) (
 .ret (.inl (.Dy v43 v59 v65 v68 v69 v70 v71)))
 | .yy v43 v62 v63 v64 v86 v105 v106 v107 v108 v115=>
 .aa ((0:Int)≤2)<|
 .aa (2 < (3:Int))<|
 .aa (((0:Nat)+1:Nat)≤1)<|
 let y0:ao:=(v43.take 1)
 let y1:=x.2.2
 let y2:bq:=(y0,y1.1)
 .aa (aO y2)<|
 .ite ((bf y2)==true) (
 let y3:=y1.2
 let y4:=y3.1
 .aa (dq y4)<|
 .ite ((eC y4)==true) (
 let y5:=y3.2.1
 .aa (wI y5)<|
 .ite ((DK y5)==true) (
 .aa (((0:Nat)+1:Nat)≤1)<|
 .aa (((0:Nat)+1:Nat)≤1)<|
 .ret (.inr ((y0,(0,())),(((),((),((v64.take 1),(0,(1,1))))),true)))) (
 .ret (.inl (.yx v43 v62 v63 v64 v86 v105 v106 v107 v108 v115)))) (
 .ret (.inl (.yx v43 v62 v63 v64 v86 v105 v106 v107 v108 v115)))) (
 .ret (.inl (.yx v43 v62 v63 v64 v86 v105 v106 v107 v108 v115)))
 | .BW v43 v56 v57=>
 .ret (.inl (.my))
 | .Bh v43 v47 v53 v56 v57=>
 .ret (.inl (.my))
 | .DA v43 v56 v57=>
 .ret (.inl (.my))
 | .Dz v43 v56 v57=>
 .ret (.inl (.my))
 | .Dy v43 v59 v65 v68 v69 v70 v71=>
 .aa ((0:Int)≤3)<|
 .aa (3 < (4:Int))<|
 .aa (((0:Nat)+2:Nat)≤2)<|
 let y0:ao:=(v43.take 2)
 let y1:=x.2.2
 let y2:bq:=(y0,y1.1)
 .aa (aO y2)<|
 .ite ((bf y2)==true) (
 let y3:=y1.2
 let y4:=y3.1
 .aa (dq y4)<|
 .ite ((eC y4)==true) (
 let y5:=y3.2.1
 .aa (dD y5)<|
 .ite ((eQ y5)==true) (
 .aa (((0:Nat)+2:Nat)≤2)<|
 .aa (((0:Nat)+1:Nat)≤1)<|
 .ret (.inr ((y0,(0,())),(((),((),((v71.take 1),(v65,(1,4))))),true)))) (
 .ret (.inl (.yw v43 v59 v65 v68 v69 v70 v71)))) (
 .ret (.inl (.yw v43 v59 v65 v68 v69 v70 v71)))) (
 .ret (.inl (.yw v43 v59 v65 v68 v69 v70 v71)))
 | .yx v43 v62 v63 v64 v86 v105 v106 v107 v108 v115=>
 .aa ((0:Int)≤1)<|
 .aa (1 < (3:Int))<|
 .aa ((0:Int)≤0)<|
 .aa (0 < (3:Int))<|
 .aa (((0:Nat)+2:Nat)≤2)<|
 let y0:ao:=(v86.take 2)
 let y1:=x.2.2
 let y2:bq:=(y0,y1.1)
 .aa (aO y2)<|
 .ite ((bf y2)==true) (
 let y3:=y1.2
 let y4:=y3.1
 .aa (dq y4)<|
 .ite ((eC y4)==true) (
 let y5:=y3.2.1
 .aa (dn y5)<|
 .ite ((ez y5)==true) (
 .aa (((0:Nat)+2:Nat)≤2)<|
 .aa (((0:Nat)+1:Nat)≤1)<|
 .ret (.inr ((y0,(0,())),(((),((),((v105.take 1),((-1),(1,0))))),true)))) (
 .ret (.inl (.yv v86 v105 v106 v107 v43 v62 v63 v64 v108 v115)))) (
 .ret (.inl (.yv v86 v105 v106 v107 v43 v62 v63 v64 v108 v115)))) (
 .ret (.inl (.yv v86 v105 v106 v107 v43 v62 v63 v64 v108 v115)))
 | .yw v43 v59 v65 v68 v69 v70 v71=>
 .ret (.inl (.my))
 | .yv v43 v62 v63 v64 v86 v105 v106 v107 v108 v115=>
 .aa ((0:Int)≤1)<|
 .aa (1 < (3:Int))<|
 .aa (((0:Nat)+2:Nat)≤2)<|
 let y0:ao:=(v43.take 2)
 let y1:=x.2.2
 let y2:bq:=(y0,y1.1)
 .aa (aO y2)<|
 .ite ((bf y2)==true) (
 let y3:=y1.2
 let y4:=y3.1
 .aa (dn y4)<|
 .ite ((ez y4)==true) (
 let y5:=y3.2.1
 .aa (lx y5)<|
 .ite ((pN y5)==true) (
 .aa (((0:Nat)+2:Nat)≤2)<|
 .aa (((0:Nat)+1:Nat)≤1)<|
 .ret (.inr ((y0,(0,())),(((),((),((v63.take 1),((-1),(2,0))))),true)))) (
 .ret (.inl (.Dx v43 v62 v63 v64 v86 v105 v106 v107 v108 v115)))) (
 .ret (.inl (.Dx v43 v62 v63 v64 v86 v105 v106 v107 v108 v115)))) (
 .ret (.inl (.Dx v43 v62 v63 v64 v86 v105 v106 v107 v108 v115)))
 | .Dx v43 v62 v63 v64 v86 v105 v106 v107 v108 v115=>
 .aa ((0:Int)≤2)<|
 .aa (2 < (3:Int))<|
 .aa (((0:Nat)+2:Nat)≤2)<|
 let y0:ao:=(v43.take 2)
 let y1:=x.2.2
 let y2:bq:=(y0,y1.1)
 .aa (aO y2)<|
 .ite ((bf y2)==true) (
 let y3:=y1.2
 let y4:=y3.1
 .aa (dq y4)<|
 .ite ((eC y4)==true) (
 let y5:=y3.2.1
 .aa (dD y5)<|
 .ite ((eQ y5)==true) (
 .aa (((0:Nat)+2:Nat)≤2)<|
 .aa (((0:Nat)+1:Nat)≤1)<|
 .ret (.inr ((y0,(0,())),(((),((),((v64.take 1),(0,(1,4))))),true)))) (
 .ret (.inl (.Dw v43 v62 v63 v64 v86 v105 v106 v107 v108 v115)))) (
 .ret (.inl (.Dw v43 v62 v63 v64 v86 v105 v106 v107 v108 v115)))) (
 .ret (.inl (.Dw v43 v62 v63 v64 v86 v105 v106 v107 v108 v115)))
 | .Dw v43 v62 v63 v64 v86 v105 v106 v107 v108 v115=>
 .aa ((0:Int)≤2)<|
 .aa (2 < (3:Int))<|
 .aa ((0:Int)≤0)<|
 .aa (0 < (1:Int))<|
 .aa (((0:Nat)+1:Nat)≤1)<|
 let y0:ao:=(v108.take 1)
 let y1:=x.2.2
 let y2:bq:=(y0,y1.1)
 .aa (aO y2)<|
 .ite ((bf y2)==true) (
 let y3:=y1.2
 let y4:=y3.1
 .aa (dn y4)<|
 .ite ((ez y4)==true) (
 let y5:=y3.2.1
 .aa (ox y5)<|
 .ite ((xa y5)==true) (
 .aa (((0:Nat)+1:Nat)≤1)<|
 .aa (((0:Nat)+1:Nat)≤1)<|
 .ret (.inr ((y0,(0,())),(((),((),((v115.take 1),(0,(3,8))))),true)))) (
 .ret (.inl (.Dv v108 v115 v86 v105 v106 v107 v43 v62 v63 v64)))) (
 .ret (.inl (.Dv v108 v115 v86 v105 v106 v107 v43 v62 v63 v64)))) (
 .ret (.inl (.Dv v108 v115 v86 v105 v106 v107 v43 v62 v63 v64)))
 | .Dv v43 v50 v72 v91 v92 v93 v94 v113 v114 v115=>
 .ret (.inl (.my))
noncomputable def b9 (x:DI):aV:=.cell true 25 (.agg [1,1,1,8,8,1,1] [(.int .u8 x.1),(.int .u8 x.2.1),(.int .i64 x.2.2.1),(.agg [1,1,1,1,1,1,1,1] [(.int .u8 x.2.2.2.1.1),(.int .i64 x.2.2.2.1.2.1),(.int .i64 x.2.2.2.1.2.2.1),(.int .i64 x.2.2.2.1.2.2.2.1),(.int .i64 x.2.2.2.1.2.2.2.2.1),(.int .i64 x.2.2.2.1.2.2.2.2.2.1),(.bool x.2.2.2.1.2.2.2.2.2.2.1),(.int .i64 x.2.2.2.1.2.2.2.2.2.2.2)]),(.agg [1,1,1,1,1,1,1,1] [(.int .u8 x.2.2.2.2.1.1),(.int .i64 x.2.2.2.2.1.2.1),(.int .i64 x.2.2.2.2.1.2.2.1),(.int .i64 x.2.2.2.2.1.2.2.2.1),(.int .i64 x.2.2.2.2.1.2.2.2.2.1),(.int .i64 x.2.2.2.2.1.2.2.2.2.2.1),(.bool x.2.2.2.2.1.2.2.2.2.2.2.1),(.int .i64 x.2.2.2.2.1.2.2.2.2.2.2.2)]),(.int .u8 x.2.2.2.2.2.1),(.int .i64 x.2.2.2.2.2.2)])
noncomputable def BL:aV:=.cell true 80 (.agg [6,6,6] [(.agg [1,1,1,1,1,1] [(.fn 116 []),(.fn 117 []),(.bw 10 [] 1 0 1 (some 1)),(.int .i64 (-1)),(.int .i64 1),(.int .i64 0)]),(.agg [1,1,1,1,1,1] [(.fn 117 []),(.fn 118 []),(.bw 11 [] 1 0 1 (some 1)),(.int .i64 (-1)),(.int .i64 2),(.int .i64 0)]),(.agg [1,1,1,1,1,1] [(.fn 116 []),(.fn 119 []),(.bw 12 [] 1 0 1 (some 1)),(.int .i64 0),(.int .i64 1),(.int .i64 1)])])
noncomputable def BK:aV:=.cell true 80 (.agg [6,6,6] [(.agg [1,1,1,1,1,1] [(.fn 116 []),(.fn 117 []),(.bw 16 [] 1 0 1 (some 1)),(.int .i64 (-1)),(.int .i64 1),(.int .i64 0)]),(.agg [1,1,1,1,1,1] [(.fn 117 []),(.fn 118 []),(.bw 17 [] 1 0 1 (some 1)),(.int .i64 (-1)),(.int .i64 2),(.int .i64 0)]),(.agg [1,1,1,1,1,1] [(.fn 116 []),(.fn 120 []),(.bw 18 [] 1 0 1 (some 1)),(.int .i64 0),(.int .i64 1),(.int .i64 4)])])
noncomputable def BJ:aV:=.cell true 80 (.agg [6,6,6] [(.agg [1,1,1,1,1,1] [(.fn 116 []),(.fn 117 []),(.bw 10 [] 1 0 1 (some 1)),(.int .i64 (-1)),(.int .i64 1),(.int .i64 0)]),(.agg [1,1,1,1,1,1] [(.fn 117 []),(.fn 118 []),(.bw 11 [] 1 0 1 (some 1)),(.int .i64 (-1)),(.int .i64 2),(.int .i64 0)]),(.agg [1,1,1,1,1,1] [(.fn 116 []),(.fn 120 []),(.bw 12 [] 1 0 1 (some 1)),(.int .i64 0),(.int .i64 1),(.int .i64 4)])])
noncomputable def BI:aV:=.cell true 80 (.agg [6,6,6] [(.agg [1,1,1,1,1,1] [(.fn 116 []),(.fn 117 []),(.bw 16 [] 1 0 1 (some 1)),(.int .i64 (-1)),(.int .i64 1),(.int .i64 0)]),(.agg [1,1,1,1,1,1] [(.fn 117 []),(.fn 118 []),(.bw 17 [] 1 0 1 (some 1)),(.int .i64 (-1)),(.int .i64 2),(.int .i64 0)]),(.agg [1,1,1,1,1,1] [(.fn 116 []),(.fn 119 []),(.bw 18 [] 1 0 1 (some 1)),(.int .i64 0),(.int .i64 1),(.int .i64 1)])])
noncomputable def BH:aV:=.cell true 76 (.agg [3,3,3] [(.agg [1,1,1] [(.bw 8 [] 1 0 1 (some 1)),(.int .u8 0),(.bw 9 [] 6 0 3 (some 3))]),(.agg [1,1,1] [(.bw 14 [] 1 0 2 (some 2)),(.int .u8 0),(.bw 15 [] 6 0 3 (some 3))]),(.agg [1,1,1] [(.bw 19 [] 1 0 1 (some 1)),(.int .u8 0),(.bw 20 [] 6 0 1 (some 1))])])
noncomputable def BG:aV:=.cell true 76 (.agg [3,3,3] [(.agg [1,1,1] [(.bw 14 [] 1 0 1 (some 1)),(.int .u8 0),(.bw 15 [] 6 0 3 (some 3))]),(.agg [1,1,1] [(.bw 8 [] 1 0 2 (some 2)),(.int .u8 0),(.bw 9 [] 6 0 3 (some 3))]),(.agg [1,1,1] [(.bw 19 [] 1 0 1 (some 1)),(.int .u8 0),(.bw 20 [] 6 0 1 (some 1))])])
noncomputable def HK:aV:=.cell true 80 (.agg [6,6] [(.agg [1,1,1,1,1,1] [(.fn 123 []),(.fn 124 []),(.bw 10 [] 1 0 2 (some 2)),(.int .i64 (-1)),(.int .i64 2),(.int .i64 0)]),(.agg [1,1,1,1,1,1] [(.fn 118 []),(.fn 123 []),(.bw 11 [] 1 0 2 (some 2)),(.int .i64 (-1)),(.int .i64 1),(.int .i64 0)])])
noncomputable def HJ:aV:=.cell true 80 (.agg [6,6] [(.agg [1,1,1,1,1,1] [(.fn 116 []),(.fn 117 []),(.bw 10 [] 1 0 1 (some 1)),(.int .i64 (-1)),(.int .i64 1),(.int .i64 0)]),(.agg [1,1,1,1,1,1] [(.fn 116 []),(.fn 120 []),(.bw 11 [] 1 0 1 (some 1)),(.int .i64 0),(.int .i64 1),(.int .i64 4)])])
noncomputable def HI:aV:=.cell true 80 (.agg [6,6] [(.agg [1,1,1,1,1,1] [(.fn 141 []),(.fn 120 []),(.bw 10 [] 1 0 1 (some 1)),(.int .i64 0),(.int .i64 0),(.int .i64 4)]),(.agg [1,1,1,1,1,1] [(.fn 116 []),(.fn 141 []),(.bw 11 [] 1 0 1 (some 1)),(.int .i64 4),(.int .i64 1),(.int .i64 0)])])
noncomputable def kV:aV:=.cell true 80 (.agg [6] [(.agg [1,1,1,1,1,1] [(.fn 117 []),(.fn 156 []),(.bw 21 [] 1 0 1 (some 1)),(.int .i64 0),(.int .i64 3),(.int .i64 8)])])
noncomputable def bQ:aV:=.cell true 80 (.agg [1,1,1,1,1,1] [(.raw .nilFunc),(.raw .nilFunc),(.raw (.slice none 0 0)),(.int .i64 0),(.int .i64 0),(.int .i64 0)])
noncomputable def pX:aV:=.cell true 76 (.agg [3] [(.agg [1,1,1] [(.bw 8 [] 1 0 2 (some 2)),(.int .u8 0),(.bw 9 [] 6 0 4 (some 4))])])
noncomputable def jJ:aV:=.cell true 76 (.agg [3] [(.agg [1,1,1] [(.bw 8 [] 1 0 2 (some 2)),(.int .u8 0),(.bw 9 [] 6 0 1 (some 1))])])
noncomputable def kU:aV:=.cell true 76 (.agg [3] [(.agg [1,1,1] [(.bw 8 [] 1 0 2 (some 2)),(.int .u8 0),(.bw 9 [] 6 0 2 (some 2))])])
noncomputable def pW:aV:=.cell true 76 (.agg [1,1,1] [(.bw 8 [] 1 0 2 (some 2)),(.int .u8 0),(.bw 9 [] 6 0 4 (some 4))])
noncomputable def xp:aV:=.cell true 76 (.agg [1,1,1] [(.bw 8 [] 1 0 1 (some 1)),(.int .u8 0),(.bw 9 [] 6 0 3 (some 3))])
noncomputable def jI:aV:=.cell true 76 (.agg [1,1,1] [(.bw 8 [] 1 0 2 (some 2)),(.int .u8 0),(.bw 9 [] 6 0 1 (some 1))])
noncomputable def kT:aV:=.cell true 76 (.agg [1,1,1] [(.bw 8 [] 1 0 2 (some 2)),(.int .u8 0),(.bw 9 [] 6 0 2 (some 2))])
noncomputable def xn:aV:=.cell true 76 (.agg [1,1,1] [(.bw 8 [] 1 0 2 (some 2)),(.int .u8 0),(.bw 9 [] 6 0 3 (some 3))])
noncomputable def bP:aV:=.cell true 76 (.agg [1,1,1] [(.raw (.slice none 0 0)),(.int .u8 0),(.raw (.slice none 0 0))])
noncomputable def aB (x:DI):SS→Head
 | .h0=>
 {fr:={id:=29,kind:=.top,T:=[.any,(.ptr 0 []),(.ptr 1 []),(.ptr 2 []),(.ptr 3 [])]++List.replicate 48 .any,items:=[.code (ay [1,1,1,0,0] (ag Tryz.f29)),.code (ay [1,1,1,0,1] (ag Tryz.f29)),.code (ay [1,1,1,1] (ag Tryz.f29))],D:=[],base:=0},
  bm:=[],
  H:=[(b9 x),bP,bQ,.cell true 4 (.bool false)]}
 | .h1 v43 v59 v65 v68 v69 v70 v71=>
 {fr:={id:=102,kind:=(.iter 6),T:=[(.ik 6),(.ptr 4 []),.any,.any,(.ptr 7 [])]++List.replicate 7 .any++[(.bw 14 [] 3 0 1 (some 1)),(.int .i64 1),(.int .i64 0)]++List.replicate 4 .any++[(.bw 9 [] 6 0 4 (some 4)),(.int .i64 4),(.int .i64 0)]++List.replicate 31 .any,items:=[.code (ay [1,0,0,1,1,0,0,1,1,0,0,1,1,1] (ag Tryz.f102)),.lp (ay [1,0,0,1,1,0,0,1,1,0,0] (ag Tryz.f102)),.a6 2,.a6 1,.code (ay [1,0,0,1,1,1] (ag Tryz.f102)),.lp (ay [1,0,0] (ag Tryz.f102)),.a6 0],D:=[],base:=7},
  bm:=[{id:=29,kind:=.top,T:=[.any,.any,(.ptr 1 []),(.ptr 2 []),(.ptr 3 [])]++List.replicate 48 .any,items:=[.fin 6,.a6 0,.code (ay [1,1,1,1] (ag Tryz.f29))],D:=[5],base:=0}],
  H:=[.dead,bP,bQ,.cell true 4 (.bool false),(b9 x),.kQ,.loop .ready none 29 ([.any,.any,(.ptr 1 []),(.ptr 2 []),(.ptr 3 [])]++List.replicate 48 .any) [47,48] (ay [1,1,1,0,1,0,0] (ag Tryz.f29)) (ay [1,1,1,0,1,0,1] (ag Tryz.f29)) 5,pW,.cell true 3 (.arr 2 (.int .i64) v43),.cell true 80 (.agg [6,6,6,6] [(.agg [1,1,1,1,1,1] [(.fn 116 []),(.fn 117 []),(.bw 10 [] 1 0 1 (some 1)),(.int .i64 (-1)),(.int .i64 1),(.int .i64 0)]),(.agg [1,1,1,1,1,1] [(.fn 117 []),(.fn 118 []),(.bw 11 [] 1 0 1 (some 1)),(.int .i64 (-1)),(.int .i64 2),(.int .i64 0)]),(.agg [1,1,1,1,1,1] [(.fn 116 []),(.fn 119 []),(.bw 12 [] 1 0 1 (some 1)),(.int .i64 v59),(.int .i64 1),(.int .i64 1)]),(.agg [1,1,1,1,1,1] [(.fn 116 []),(.fn 120 []),(.bw 13 [] 1 0 1 (some 1)),(.int .i64 v65),(.int .i64 1),(.int .i64 4)])]),.cell true 5 (.arr 1 (.int .u8) v68),.cell true 5 (.arr 1 (.int .u8) v69),.cell true 5 (.arr 1 (.int .u8) v70),.cell true 5 (.arr 1 (.int .u8) v71),pX]}
 | .h2 v43 v62 v63 v64 v86 v105 v106 v107 v108 v115=>
 {fr:={id:=102,kind:=(.iter 6),T:=[(.ik 6),(.ptr 4 []),.any,.any,(.ptr 7 [])]++List.replicate 7 .any++[(.bw 13 [] 3 0 3 (some 3)),(.int .i64 3),(.int .i64 0)]++List.replicate 4 .any++[(.bw 9 [] 6 0 3 (some 3)),(.int .i64 3),(.int .i64 0)]++List.replicate 31 .any,items:=[.code (ay [1,0,0,1,1,0,0,1,1,0,0,1,1,1] (ag Tryz.f102)),.lp (ay [1,0,0,1,1,0,0,1,1,0,0] (ag Tryz.f102)),.a6 2,.a6 1,.code (ay [1,0,0,1,1,1] (ag Tryz.f102)),.lp (ay [1,0,0] (ag Tryz.f102)),.a6 0],D:=[],base:=7},
  bm:=[{id:=29,kind:=.top,T:=[.any,.any,(.ptr 1 []),(.ptr 2 []),(.ptr 3 [])]++List.replicate 48 .any,items:=[.fin 6,.a6 0,.code (ay [1,1,1,1] (ag Tryz.f29))],D:=[5],base:=0}],
  H:=[.dead,bP,bQ,.cell true 4 (.bool false),(b9 x),.kQ,.loop .ready none 29 ([.any,.any,(.ptr 1 []),(.ptr 2 []),(.ptr 3 [])]++List.replicate 48 .any) [47,48] (ay [1,1,1,0,1,0,0] (ag Tryz.f29)) (ay [1,1,1,0,1,0,1] (ag Tryz.f29)) 5,xp,.cell true 3 (.arr 1 (.int .i64) v43),BL,.cell true 5 (.arr 1 (.int .u8) v62),.cell true 5 (.arr 1 (.int .u8) v63),.cell true 5 (.arr 1 (.int .u8) v64),BH,.cell true 3 (.arr 2 (.int .i64) v86),BK,.cell true 5 (.arr 1 (.int .u8) v105),.cell true 5 (.arr 1 (.int .u8) v106),.cell true 5 (.arr 1 (.int .u8) v107),.cell true 3 (.arr 1 (.int .i64) v108),kV,.cell true 5 (.arr 1 (.int .u8) v115)]}
 | .h3 v43 v50=>
 {fr:={id:=102,kind:=(.iter 6),T:=[(.ik 6),(.ptr 4 []),.any,.any,(.ptr 7 [])]++List.replicate 7 .any++[(.bw 11 [] 3 0 1 (some 1)),(.int .i64 1),(.int .i64 0)]++List.replicate 4 .any++[(.bw 9 [] 6 0 1 (some 1)),(.int .i64 1),(.int .i64 0)]++List.replicate 31 .any,items:=[.code (ay [1,0,0,1,1,0,0,1,1,0,0,1,1,1] (ag Tryz.f102)),.lp (ay [1,0,0,1,1,0,0,1,1,0,0] (ag Tryz.f102)),.a6 2,.a6 1,.code (ay [1,0,0,1,1,1] (ag Tryz.f102)),.lp (ay [1,0,0] (ag Tryz.f102)),.a6 0],D:=[],base:=7},
  bm:=[{id:=29,kind:=.top,T:=[.any,.any,(.ptr 1 []),(.ptr 2 []),(.ptr 3 [])]++List.replicate 48 .any,items:=[.fin 6,.a6 0,.code (ay [1,1,1,1] (ag Tryz.f29))],D:=[5],base:=0}],
  H:=[.dead,bP,bQ,.cell true 4 (.bool false),(b9 x),.kQ,.loop .ready none 29 ([.any,.any,(.ptr 1 []),(.ptr 2 []),(.ptr 3 [])]++List.replicate 48 .any) [47,48] (ay [1,1,1,0,1,0,0] (ag Tryz.f29)) (ay [1,1,1,0,1,0,1] (ag Tryz.f29)) 5,jI,.cell true 3 (.arr 2 (.int .i64) v43),.cell true 80 (.agg [6] [(.agg [1,1,1,1,1,1] [(.fn 117 []),(.fn 118 []),(.bw 10 [] 1 0 1 (some 1)),(.int .i64 (-1)),(.int .i64 2),(.int .i64 0)])]),.cell true 5 (.arr 1 (.int .u8) v50),jJ]}
 | .h4 v43 v56 v57=>
 {fr:={id:=102,kind:=(.iter 6),T:=[(.ik 6),(.ptr 4 []),.any,.any,(.ptr 7 [])]++List.replicate 7 .any++[(.bw 12 [] 3 0 1 (some 1)),(.int .i64 1),(.int .i64 0)]++List.replicate 4 .any++[(.bw 9 [] 6 0 2 (some 2)),(.int .i64 2),(.int .i64 0)]++List.replicate 31 .any,items:=[.code (ay [1,0,0,1,1,0,0,1,1,0,0,1,1,1] (ag Tryz.f102)),.lp (ay [1,0,0,1,1,0,0,1,1,0,0] (ag Tryz.f102)),.a6 2,.a6 1,.code (ay [1,0,0,1,1,1] (ag Tryz.f102)),.lp (ay [1,0,0] (ag Tryz.f102)),.a6 0],D:=[],base:=7},
  bm:=[{id:=29,kind:=.top,T:=[.any,.any,(.ptr 1 []),(.ptr 2 []),(.ptr 3 [])]++List.replicate 48 .any,items:=[.fin 6,.a6 0,.code (ay [1,1,1,1] (ag Tryz.f29))],D:=[5],base:=0}],
  H:=[.dead,bP,bQ,.cell true 4 (.bool false),(b9 x),.kQ,.loop .ready none 29 ([.any,.any,(.ptr 1 []),(.ptr 2 []),(.ptr 3 [])]++List.replicate 48 .any) [47,48] (ay [1,1,1,0,1,0,0] (ag Tryz.f29)) (ay [1,1,1,0,1,0,1] (ag Tryz.f29)) 5,kT,.cell true 3 (.arr 2 (.int .i64) v43),HJ,.cell true 5 (.arr 1 (.int .u8) v56),.cell true 5 (.arr 1 (.int .u8) v57),kU]}
 | .h5 v43 v47 v50=>
 {fr:={id:=102,kind:=(.iter 6),T:=[(.ik 6),(.ptr 4 []),.any,.any,(.ptr 7 [])]++List.replicate 7 .any++[(.bw 11 [] 3 0 1 (some 1)),(.int .i64 1),(.int .i64 0)]++List.replicate 4 .any++[(.bw 9 [] 6 0 1 (some 1)),(.int .i64 1),(.int .i64 0)]++List.replicate 31 .any,items:=[.code (ay [1,0,0,1,1,0,0,1,1,0,0,1,1,1] (ag Tryz.f102)),.lp (ay [1,0,0,1,1,0,0,1,1,0,0] (ag Tryz.f102)),.a6 2,.a6 1,.code (ay [1,0,0,1,1,1] (ag Tryz.f102)),.lp (ay [1,0,0] (ag Tryz.f102)),.a6 0],D:=[],base:=7},
  bm:=[{id:=29,kind:=.top,T:=[.any,.any,(.ptr 1 []),(.ptr 2 []),(.ptr 3 [])]++List.replicate 48 .any,items:=[.fin 6,.a6 0,.code (ay [1,1,1,1] (ag Tryz.f29))],D:=[5],base:=0}],
  H:=[.dead,bP,bQ,.cell true 4 (.bool false),(b9 x),.kQ,.loop .ready none 29 ([.any,.any,(.ptr 1 []),(.ptr 2 []),(.ptr 3 [])]++List.replicate 48 .any) [47,48] (ay [1,1,1,0,1,0,0] (ag Tryz.f29)) (ay [1,1,1,0,1,0,1] (ag Tryz.f29)) 5,jI,.cell true 3 (.arr 2 (.int .i64) v43),.cell true 80 (.agg [6] [(.agg [1,1,1,1,1,1] [(.fn 116 []),(.fn 141 []),(.bw 10 [] 1 0 1 (some 1)),(.int .i64 v47),(.int .i64 1),(.int .i64 0)])]),.cell true 5 (.arr 1 (.int .u8) v50),jJ]}
 | .h6 v43 v47 v53 v56 v57=>
 {fr:={id:=102,kind:=(.iter 6),T:=[(.ik 6),(.ptr 4 []),.any,.any,(.ptr 7 [])]++List.replicate 7 .any++[(.bw 12 [] 3 0 1 (some 1)),(.int .i64 1),(.int .i64 0)]++List.replicate 4 .any++[(.bw 9 [] 6 0 2 (some 2)),(.int .i64 2),(.int .i64 0)]++List.replicate 31 .any,items:=[.code (ay [1,0,0,1,1,0,0,1,1,0,0,1,1,1] (ag Tryz.f102)),.lp (ay [1,0,0,1,1,0,0,1,1,0,0] (ag Tryz.f102)),.a6 2,.a6 1,.code (ay [1,0,0,1,1,1] (ag Tryz.f102)),.lp (ay [1,0,0] (ag Tryz.f102)),.a6 0],D:=[],base:=7},
  bm:=[{id:=29,kind:=.top,T:=[.any,.any,(.ptr 1 []),(.ptr 2 []),(.ptr 3 [])]++List.replicate 48 .any,items:=[.fin 6,.a6 0,.code (ay [1,1,1,1] (ag Tryz.f29))],D:=[5],base:=0}],
  H:=[.dead,bP,bQ,.cell true 4 (.bool false),(b9 x),.kQ,.loop .ready none 29 ([.any,.any,(.ptr 1 []),(.ptr 2 []),(.ptr 3 [])]++List.replicate 48 .any) [47,48] (ay [1,1,1,0,1,0,0] (ag Tryz.f29)) (ay [1,1,1,0,1,0,1] (ag Tryz.f29)) 5,kT,.cell true 3 (.arr 2 (.int .i64) v43),.cell true 80 (.agg [6,6] [(.agg [1,1,1,1,1,1] [(.fn 116 []),(.fn 126 []),(.bw 10 [] 1 0 1 (some 1)),(.int .i64 v47),(.int .i64 1),(.int .i64 1)]),(.agg [1,1,1,1,1,1] [(.fn 116 []),(.fn 127 []),(.bw 11 [] 1 0 1 (some 1)),(.int .i64 v53),(.int .i64 1),(.int .i64 0)])]),.cell true 5 (.arr 1 (.int .u8) v56),.cell true 5 (.arr 1 (.int .u8) v57),kU]}
 | .h7 v43 v50=>
 {fr:={id:=102,kind:=(.iter 6),T:=[(.ik 6),(.ptr 4 []),.any,.any,(.ptr 7 [])]++List.replicate 7 .any++[(.bw 11 [] 3 0 1 (some 1)),(.int .i64 1),(.int .i64 0)]++List.replicate 4 .any++[(.bw 9 [] 6 0 1 (some 1)),(.int .i64 1),(.int .i64 0)]++List.replicate 31 .any,items:=[.code (ay [1,0,0,1,1,0,0,1,1,0,0,1,1,1] (ag Tryz.f102)),.lp (ay [1,0,0,1,1,0,0,1,1,0,0] (ag Tryz.f102)),.a6 2,.a6 1,.code (ay [1,0,0,1,1,1] (ag Tryz.f102)),.lp (ay [1,0,0] (ag Tryz.f102)),.a6 0],D:=[],base:=7},
  bm:=[{id:=29,kind:=.top,T:=[.any,.any,(.ptr 1 []),(.ptr 2 []),(.ptr 3 [])]++List.replicate 48 .any,items:=[.fin 6,.a6 0,.code (ay [1,1,1,1] (ag Tryz.f29))],D:=[5],base:=0}],
  H:=[.dead,bP,bQ,.cell true 4 (.bool false),(b9 x),.kQ,.loop .ready none 29 ([.any,.any,(.ptr 1 []),(.ptr 2 []),(.ptr 3 [])]++List.replicate 48 .any) [47,48] (ay [1,1,1,0,1,0,0] (ag Tryz.f29)) (ay [1,1,1,0,1,0,1] (ag Tryz.f29)) 5,jI,.cell true 3 (.arr 2 (.int .i64) v43),.cell true 80 (.agg [6] [(.agg [1,1,1,1,1,1] [(.fn 117 []),(.fn 116 []),(.bw 10 [] 1 0 2 (some 2)),(.int .i64 (-1)),(.int .i64 2),(.int .i64 0)])]),.cell true 5 (.arr 2 (.int .u8) v50),jJ]}
 | .h8 v43 v50=>
 {fr:={id:=102,kind:=(.iter 6),T:=[(.ik 6),(.ptr 4 []),.any,.any,(.ptr 7 [])]++List.replicate 7 .any++[(.bw 11 [] 3 0 1 (some 1)),(.int .i64 1),(.int .i64 0)]++List.replicate 4 .any++[(.bw 9 [] 6 0 1 (some 1)),(.int .i64 1),(.int .i64 0)]++List.replicate 31 .any,items:=[.code (ay [1,0,0,1,1,0,0,1,1,0,0,1,1,1] (ag Tryz.f102)),.lp (ay [1,0,0,1,1,0,0,1,1,0,0] (ag Tryz.f102)),.a6 2,.a6 1,.code (ay [1,0,0,1,1,1] (ag Tryz.f102)),.lp (ay [1,0,0] (ag Tryz.f102)),.a6 0],D:=[],base:=7},
  bm:=[{id:=29,kind:=.top,T:=[.any,.any,(.ptr 1 []),(.ptr 2 []),(.ptr 3 [])]++List.replicate 48 .any,items:=[.fin 6,.a6 0,.code (ay [1,1,1,1] (ag Tryz.f29))],D:=[5],base:=0}],
  H:=[.dead,bP,bQ,.cell true 4 (.bool false),(b9 x),.kQ,.loop .ready none 29 ([.any,.any,(.ptr 1 []),(.ptr 2 []),(.ptr 3 [])]++List.replicate 48 .any) [47,48] (ay [1,1,1,0,1,0,0] (ag Tryz.f29)) (ay [1,1,1,0,1,0,1] (ag Tryz.f29)) 5,.cell true 76 (.agg [1,1,1] [(.bw 8 [] 1 0 1 (some 1)),(.int .u8 0),(.bw 9 [] 6 0 1 (some 1))]),.cell true 3 (.arr 1 (.int .i64) v43),.cell true 80 (.agg [6] [(.agg [1,1,1,1,1,1] [(.fn 116 []),(.fn 141 []),(.bw 10 [] 1 0 2 (some 2)),(.int .i64 0),(.int .i64 1),(.int .i64 0)])]),.cell true 5 (.arr 2 (.int .u8) v50),.cell true 76 (.agg [3] [(.agg [1,1,1] [(.bw 8 [] 1 0 1 (some 1)),(.int .u8 0),(.bw 9 [] 6 0 1 (some 1))])])]}
 | .h9 v43 v56 v57=>
 {fr:={id:=102,kind:=(.iter 6),T:=[(.ik 6),(.ptr 4 []),.any,.any,(.ptr 7 [])]++List.replicate 7 .any++[(.bw 12 [] 3 0 1 (some 1)),(.int .i64 1),(.int .i64 0)]++List.replicate 4 .any++[(.bw 9 [] 6 0 2 (some 2)),(.int .i64 2),(.int .i64 0)]++List.replicate 31 .any,items:=[.code (ay [1,0,0,1,1,0,0,1,1,0,0,1,1,1] (ag Tryz.f102)),.lp (ay [1,0,0,1,1,0,0,1,1,0,0] (ag Tryz.f102)),.a6 2,.a6 1,.code (ay [1,0,0,1,1,1] (ag Tryz.f102)),.lp (ay [1,0,0] (ag Tryz.f102)),.a6 0],D:=[],base:=7},
  bm:=[{id:=29,kind:=.top,T:=[.any,.any,(.ptr 1 []),(.ptr 2 []),(.ptr 3 [])]++List.replicate 48 .any,items:=[.fin 6,.a6 0,.code (ay [1,1,1,1] (ag Tryz.f29))],D:=[5],base:=0}],
  H:=[.dead,bP,bQ,.cell true 4 (.bool false),(b9 x),.kQ,.loop .ready none 29 ([.any,.any,(.ptr 1 []),(.ptr 2 []),(.ptr 3 [])]++List.replicate 48 .any) [47,48] (ay [1,1,1,0,1,0,0] (ag Tryz.f29)) (ay [1,1,1,0,1,0,1] (ag Tryz.f29)) 5,.cell true 76 (.agg [1,1,1] [(.bw 8 [] 1 0 1 (some 1)),(.int .u8 243),(.bw 9 [] 6 0 2 (some 2))]),.cell true 3 (.arr 1 (.int .i64) v43),HK,.cell true 5 (.arr 2 (.int .u8) v56),.cell true 5 (.arr 2 (.int .u8) v57),.cell true 76 (.agg [3] [(.agg [1,1,1] [(.bw 8 [] 1 0 1 (some 1)),(.int .u8 243),(.bw 9 [] 6 0 2 (some 2))])])]}
 | .uP v43 v50=>
 {fr:={id:=102,kind:=(.iter 6),T:=[(.ik 6),(.ptr 4 []),.any,.any,(.ptr 7 [])]++List.replicate 7 .any++[(.bw 11 [] 3 0 1 (some 1)),(.int .i64 1),(.int .i64 0)]++List.replicate 4 .any++[(.bw 9 [] 6 0 1 (some 1)),(.int .i64 1),(.int .i64 0)]++List.replicate 31 .any,items:=[.code (ay [1,0,0,1,1,0,0,1,1,0,0,1,1,1] (ag Tryz.f102)),.lp (ay [1,0,0,1,1,0,0,1,1,0,0] (ag Tryz.f102)),.a6 2,.a6 1,.code (ay [1,0,0,1,1,1] (ag Tryz.f102)),.lp (ay [1,0,0] (ag Tryz.f102)),.a6 0],D:=[],base:=7},
  bm:=[{id:=29,kind:=.top,T:=[.any,.any,(.ptr 1 []),(.ptr 2 []),(.ptr 3 [])]++List.replicate 48 .any,items:=[.fin 6,.a6 0,.code (ay [1,1,1,1] (ag Tryz.f29))],D:=[5],base:=0}],
  H:=[.dead,bP,bQ,.cell true 4 (.bool false),(b9 x),.kQ,.loop .ready none 29 ([.any,.any,(.ptr 1 []),(.ptr 2 []),(.ptr 3 [])]++List.replicate 48 .any) [47,48] (ay [1,1,1,0,1,0,0] (ag Tryz.f29)) (ay [1,1,1,0,1,0,1] (ag Tryz.f29)) 5,.cell true 76 (.agg [1,1,1] [(.bw 8 [] 1 0 1 (some 1)),(.int .u8 102),(.bw 9 [] 6 0 1 (some 1))]),.cell true 3 (.arr 1 (.int .i64) v43),.cell true 80 (.agg [6] [(.agg [1,1,1,1,1,1] [(.fn 123 []),(.fn 124 []),(.bw 10 [] 1 0 2 (some 2)),(.int .i64 (-1)),(.int .i64 2),(.int .i64 0)])]),.cell true 5 (.arr 2 (.int .u8) v50),.cell true 76 (.agg [3] [(.agg [1,1,1] [(.bw 8 [] 1 0 1 (some 1)),(.int .u8 102),(.bw 9 [] 6 0 1 (some 1))])])]}
 | .oI v43 v49 v50=>
 {fr:={id:=102,kind:=(.iter 6),T:=[(.ik 6),(.ptr 4 []),.any,.any,(.ptr 7 [])]++List.replicate 7 .any++[(.bw 11 [] 3 0 1 (some 1)),(.int .i64 1),(.int .i64 0)]++List.replicate 4 .any++[(.bw 9 [] 6 0 1 (some 1)),(.int .i64 1),(.int .i64 0)]++List.replicate 31 .any,items:=[.code (ay [1,0,0,1,1,0,0,1,1,0,0,1,1,1] (ag Tryz.f102)),.lp (ay [1,0,0,1,1,0,0,1,1,0,0] (ag Tryz.f102)),.a6 2,.a6 1,.code (ay [1,0,0,1,1,1] (ag Tryz.f102)),.lp (ay [1,0,0] (ag Tryz.f102)),.a6 0],D:=[],base:=7},
  bm:=[{id:=29,kind:=.top,T:=[.any,.any,(.ptr 1 []),(.ptr 2 []),(.ptr 3 [])]++List.replicate 48 .any,items:=[.fin 6,.a6 0,.code (ay [1,1,1,1] (ag Tryz.f29))],D:=[5],base:=0}],
  H:=[.dead,bP,bQ,.cell true 4 (.bool false),(b9 x),.kQ,.loop .ready none 29 ([.any,.any,(.ptr 1 []),(.ptr 2 []),(.ptr 3 [])]++List.replicate 48 .any) [47,48] (ay [1,1,1,0,1,0,0] (ag Tryz.f29)) (ay [1,1,1,0,1,0,1] (ag Tryz.f29)) 5,.cell true 76 (.agg [1,1,1] [(.bw 8 [] 1 0 1 (some 1)),(.int .u8 102),(.bw 9 [] 6 0 1 (some 1))]),.cell true 3 (.arr 1 (.int .i64) v43),.cell true 80 (.agg [6] [(.agg [1,1,1,1,1,1] [(.fn 123 []),(.fn 124 []),(.bw 10 [] 1 0 3 (some 3)),(.int .i64 (-1)),(.int .i64 2),(.int .i64 v49)])]),.cell true 5 (.arr 3 (.int .u8) v50),.cell true 76 (.agg [3] [(.agg [1,1,1] [(.bw 8 [] 1 0 1 (some 1)),(.int .u8 102),(.bw 9 [] 6 0 1 (some 1))])])]}
 | .lC v43 v50=>
 {fr:={id:=102,kind:=(.iter 6),T:=[(.ik 6),(.ptr 4 []),.any,.any,(.ptr 7 [])]++List.replicate 7 .any++[(.bw 11 [] 3 0 1 (some 1)),(.int .i64 1),(.int .i64 0)]++List.replicate 4 .any++[(.bw 9 [] 6 0 1 (some 1)),(.int .i64 1),(.int .i64 0)]++List.replicate 31 .any,items:=[.code (ay [1,0,0,1,1,0,0,1,1,0,0,1,1,1] (ag Tryz.f102)),.lp (ay [1,0,0,1,1,0,0,1,1,0,0] (ag Tryz.f102)),.a6 2,.a6 1,.code (ay [1,0,0,1,1,1] (ag Tryz.f102)),.lp (ay [1,0,0] (ag Tryz.f102)),.a6 0],D:=[],base:=7},
  bm:=[{id:=29,kind:=.top,T:=[.any,.any,(.ptr 1 []),(.ptr 2 []),(.ptr 3 [])]++List.replicate 48 .any,items:=[.fin 6,.a6 0,.code (ay [1,1,1,1] (ag Tryz.f29))],D:=[5],base:=0}],
  H:=[.dead,bP,bQ,.cell true 4 (.bool false),(b9 x),.kQ,.loop .ready none 29 ([.any,.any,(.ptr 1 []),(.ptr 2 []),(.ptr 3 [])]++List.replicate 48 .any) [47,48] (ay [1,1,1,0,1,0,0] (ag Tryz.f29)) (ay [1,1,1,0,1,0,1] (ag Tryz.f29)) 5,jI,.cell true 3 (.arr 2 (.int .i64) v43),.cell true 80 (.agg [6] [(.agg [1,1,1,1,1,1] [(.fn 141 []),(.fn 120 []),(.bw 10 [] 1 0 1 (some 1)),(.int .i64 0),(.int .i64 0),(.int .i64 4)])]),.cell true 5 (.arr 1 (.int .u8) v50),jJ]}
 | .jt v43 v56 v57=>
 {fr:={id:=102,kind:=(.iter 6),T:=[(.ik 6),(.ptr 4 []),.any,.any,(.ptr 7 [])]++List.replicate 7 .any++[(.bw 12 [] 3 0 1 (some 1)),(.int .i64 1),(.int .i64 0)]++List.replicate 4 .any++[(.bw 9 [] 6 0 2 (some 2)),(.int .i64 2),(.int .i64 0)]++List.replicate 31 .any,items:=[.code (ay [1,0,0,1,1,0,0,1,1,0,0,1,1,1] (ag Tryz.f102)),.lp (ay [1,0,0,1,1,0,0,1,1,0,0] (ag Tryz.f102)),.a6 2,.a6 1,.code (ay [1,0,0,1,1,1] (ag Tryz.f102)),.lp (ay [1,0,0] (ag Tryz.f102)),.a6 0],D:=[],base:=7},
  bm:=[{id:=29,kind:=.top,T:=[.any,.any,(.ptr 1 []),(.ptr 2 []),(.ptr 3 [])]++List.replicate 48 .any,items:=[.fin 6,.a6 0,.code (ay [1,1,1,1] (ag Tryz.f29))],D:=[5],base:=0}],
  H:=[.dead,bP,bQ,.cell true 4 (.bool false),(b9 x),.kQ,.loop .ready none 29 ([.any,.any,(.ptr 1 []),(.ptr 2 []),(.ptr 3 [])]++List.replicate 48 .any) [47,48] (ay [1,1,1,0,1,0,0] (ag Tryz.f29)) (ay [1,1,1,0,1,0,1] (ag Tryz.f29)) 5,kT,.cell true 3 (.arr 2 (.int .i64) v43),HI,.cell true 5 (.arr 1 (.int .u8) v56),.cell true 5 (.arr 1 (.int .u8) v57),kU]}
 | .ku v43 v50=>
 {fr:={id:=102,kind:=(.iter 6),T:=[(.ik 6),(.ptr 4 []),.any,.any,(.ptr 7 [])]++List.replicate 7 .any++[(.bw 11 [] 3 0 1 (some 1)),(.int .i64 1),(.int .i64 0)]++List.replicate 4 .any++[(.bw 9 [] 6 0 1 (some 1)),(.int .i64 1),(.int .i64 0)]++List.replicate 31 .any,items:=[.code (ay [1,0,0,1,1,0,0,1,1,0,0,1,1,1] (ag Tryz.f102)),.lp (ay [1,0,0,1,1,0,0,1,1,0,0] (ag Tryz.f102)),.a6 2,.a6 1,.code (ay [1,0,0,1,1,1] (ag Tryz.f102)),.lp (ay [1,0,0] (ag Tryz.f102)),.a6 0],D:=[],base:=7},
  bm:=[{id:=29,kind:=.top,T:=[.any,.any,(.ptr 1 []),(.ptr 2 []),(.ptr 3 [])]++List.replicate 48 .any,items:=[.fin 6,.a6 0,.code (ay [1,1,1,1] (ag Tryz.f29))],D:=[5],base:=0}],
  H:=[.dead,bP,bQ,.cell true 4 (.bool false),(b9 x),.kQ,.loop .ready none 29 ([.any,.any,(.ptr 1 []),(.ptr 2 []),(.ptr 3 [])]++List.replicate 48 .any) [47,48] (ay [1,1,1,0,1,0,0] (ag Tryz.f29)) (ay [1,1,1,0,1,0,1] (ag Tryz.f29)) 5,jI,.cell true 3 (.arr 2 (.int .i64) v43),.cell true 80 (.agg [6] [(.agg [1,1,1,1,1,1] [(.fn 141 []),(.fn 120 []),(.bw 10 [] 1 0 2 (some 2)),(.int .i64 0),(.int .i64 0),(.int .i64 4)])]),.cell true 5 (.arr 2 (.int .u8) v50),jJ]}
 | .gO v43 v50=>
 {fr:={id:=102,kind:=(.iter 6),T:=[(.ik 6),(.ptr 4 []),.any,.any,(.ptr 7 [])]++List.replicate 7 .any++[(.bw 11 [] 3 0 1 (some 1)),(.int .i64 1),(.int .i64 0)]++List.replicate 4 .any++[(.bw 9 [] 6 0 1 (some 1)),(.int .i64 1),(.int .i64 0)]++List.replicate 31 .any,items:=[.code (ay [1,0,0,1,1,0,0,1,1,0,0,1,1,1] (ag Tryz.f102)),.lp (ay [1,0,0,1,1,0,0,1,1,0,0] (ag Tryz.f102)),.a6 2,.a6 1,.code (ay [1,0,0,1,1,1] (ag Tryz.f102)),.lp (ay [1,0,0] (ag Tryz.f102)),.a6 0],D:=[],base:=7},
  bm:=[{id:=29,kind:=.top,T:=[.any,.any,(.ptr 1 []),(.ptr 2 []),(.ptr 3 [])]++List.replicate 48 .any,items:=[.fin 6,.a6 0,.code (ay [1,1,1,1] (ag Tryz.f29))],D:=[5],base:=0}],
  H:=[.dead,bP,bQ,.cell true 4 (.bool false),(b9 x),.kQ,.loop .ready none 29 ([.any,.any,(.ptr 1 []),(.ptr 2 []),(.ptr 3 [])]++List.replicate 48 .any) [47,48] (ay [1,1,1,0,1,0,0] (ag Tryz.f29)) (ay [1,1,1,0,1,0,1] (ag Tryz.f29)) 5,jI,.cell true 3 (.arr 2 (.int .i64) v43),.cell true 80 (.agg [6] [(.agg [1,1,1,1,1,1] [(.fn 141 []),(.fn 141 []),(.bw 10 [] 1 0 1 (some 1)),(.int .i64 0),(.int .i64 0),(.int .i64 0)])]),.cell true 5 (.arr 1 (.int .u8) v50),jJ]}
 | .hJ v43 v50=>
 {fr:={id:=102,kind:=(.iter 6),T:=[(.ik 6),(.ptr 4 []),.any,.any,(.ptr 7 [])]++List.replicate 7 .any++[(.bw 11 [] 3 0 1 (some 1)),(.int .i64 1),(.int .i64 0)]++List.replicate 4 .any++[(.bw 9 [] 6 0 1 (some 1)),(.int .i64 1),(.int .i64 0)]++List.replicate 31 .any,items:=[.code (ay [1,0,0,1,1,0,0,1,1,0,0,1,1,1] (ag Tryz.f102)),.lp (ay [1,0,0,1,1,0,0,1,1,0,0] (ag Tryz.f102)),.a6 2,.a6 1,.code (ay [1,0,0,1,1,1] (ag Tryz.f102)),.lp (ay [1,0,0] (ag Tryz.f102)),.a6 0],D:=[],base:=7},
  bm:=[{id:=29,kind:=.top,T:=[.any,.any,(.ptr 1 []),(.ptr 2 []),(.ptr 3 [])]++List.replicate 48 .any,items:=[.fin 6,.a6 0,.code (ay [1,1,1,1] (ag Tryz.f29))],D:=[5],base:=0}],
  H:=[.dead,bP,bQ,.cell true 4 (.bool false),(b9 x),.kQ,.loop .ready none 29 ([.any,.any,(.ptr 1 []),(.ptr 2 []),(.ptr 3 [])]++List.replicate 48 .any) [47,48] (ay [1,1,1,0,1,0,0] (ag Tryz.f29)) (ay [1,1,1,0,1,0,1] (ag Tryz.f29)) 5,jI,.cell true 3 (.arr 2 (.int .i64) v43),.cell true 80 (.agg [6] [(.agg [1,1,1,1,1,1] [(.fn 117 []),(.fn 141 []),(.bw 10 [] 1 0 1 (some 1)),(.int .i64 0),(.int .i64 3),(.int .i64 0)])]),.cell true 5 (.arr 1 (.int .u8) v50),jJ]}
 | .my=>
 {fr:={id:=29,kind:=.top,T:=[.any,.any,(.ptr 1 []),(.ptr 2 []),(.ptr 3 [])]++List.replicate 48 .any,items:=[.code (ay [1,1,1,1,0] (ag Tryz.f29)),.code (ay [1,1,1,1,1] (ag Tryz.f29))],D:=[0],base:=0},
  bm:=[],
  H:=[.kQ,bP,bQ,.cell true 4 (.bool false)]}
 | .wX v43 v59 v65 v68 v69 v70 v71=>
 {fr:={id:=102,kind:=(.iter 6),T:=[(.ik 6),(.ptr 4 []),.any,.any,(.ptr 7 [])]++List.replicate 7 .any++[(.bw 14 [] 3 0 1 (some 1)),(.int .i64 1),(.int .i64 0)]++List.replicate 4 .any++[(.bw 9 [] 6 0 4 (some 4)),(.int .i64 4),(.int .i64 1)]++List.replicate 31 .any,items:=[.code (ay [1,0,0,1,1,0,0,1,1,0,0,1,1,1] (ag Tryz.f102)),.lp (ay [1,0,0,1,1,0,0,1,1,0,0] (ag Tryz.f102)),.a6 2,.a6 1,.code (ay [1,0,0,1,1,1] (ag Tryz.f102)),.lp (ay [1,0,0] (ag Tryz.f102)),.a6 0],D:=[],base:=7},
  bm:=[{id:=29,kind:=.top,T:=[.any,.any,(.ptr 1 []),(.ptr 2 []),(.ptr 3 [])]++List.replicate 48 .any,items:=[.fin 6,.a6 0,.code (ay [1,1,1,1] (ag Tryz.f29))],D:=[5],base:=0}],
  H:=[.dead,bP,bQ,.cell true 4 (.bool false),(b9 x),.kQ,.loop .ready none 29 ([.any,.any,(.ptr 1 []),(.ptr 2 []),(.ptr 3 [])]++List.replicate 48 .any) [47,48] (ay [1,1,1,0,1,0,0] (ag Tryz.f29)) (ay [1,1,1,0,1,0,1] (ag Tryz.f29)) 5,pW,.cell true 3 (.arr 2 (.int .i64) v43),.cell true 80 (.agg [6,6,6,6] [(.agg [1,1,1,1,1,1] [(.fn 116 []),(.fn 117 []),(.bw 10 [] 1 0 1 (some 1)),(.int .i64 (-1)),(.int .i64 1),(.int .i64 0)]),(.agg [1,1,1,1,1,1] [(.fn 117 []),(.fn 118 []),(.bw 11 [] 1 0 1 (some 1)),(.int .i64 (-1)),(.int .i64 2),(.int .i64 0)]),(.agg [1,1,1,1,1,1] [(.fn 116 []),(.fn 119 []),(.bw 12 [] 1 0 1 (some 1)),(.int .i64 v59),(.int .i64 1),(.int .i64 1)]),(.agg [1,1,1,1,1,1] [(.fn 116 []),(.fn 120 []),(.bw 13 [] 1 0 1 (some 1)),(.int .i64 v65),(.int .i64 1),(.int .i64 4)])]),.cell true 5 (.arr 1 (.int .u8) v68),.cell true 5 (.arr 1 (.int .u8) v69),.cell true 5 (.arr 1 (.int .u8) v70),.cell true 5 (.arr 1 (.int .u8) v71),pX]}
 | .yy v43 v62 v63 v64 v86 v105 v106 v107 v108 v115=>
 {fr:={id:=102,kind:=(.iter 6),T:=[(.ik 6),(.ptr 4 []),.any,.any,(.ptr 7 [])]++List.replicate 7 .any++[(.bw 13 [] 3 0 3 (some 3)),(.int .i64 3),(.int .i64 0)]++List.replicate 4 .any++[(.bw 9 [] 6 0 3 (some 3)),(.int .i64 3),(.int .i64 1)]++List.replicate 31 .any,items:=[.code (ay [1,0,0,1,1,0,0,1,1,0,0,1,1,1] (ag Tryz.f102)),.lp (ay [1,0,0,1,1,0,0,1,1,0,0] (ag Tryz.f102)),.a6 2,.a6 1,.code (ay [1,0,0,1,1,1] (ag Tryz.f102)),.lp (ay [1,0,0] (ag Tryz.f102)),.a6 0],D:=[],base:=7},
  bm:=[{id:=29,kind:=.top,T:=[.any,.any,(.ptr 1 []),(.ptr 2 []),(.ptr 3 [])]++List.replicate 48 .any,items:=[.fin 6,.a6 0,.code (ay [1,1,1,1] (ag Tryz.f29))],D:=[5],base:=0}],
  H:=[.dead,bP,bQ,.cell true 4 (.bool false),(b9 x),.kQ,.loop .ready none 29 ([.any,.any,(.ptr 1 []),(.ptr 2 []),(.ptr 3 [])]++List.replicate 48 .any) [47,48] (ay [1,1,1,0,1,0,0] (ag Tryz.f29)) (ay [1,1,1,0,1,0,1] (ag Tryz.f29)) 5,xp,.cell true 3 (.arr 1 (.int .i64) v43),BL,.cell true 5 (.arr 1 (.int .u8) v62),.cell true 5 (.arr 1 (.int .u8) v63),.cell true 5 (.arr 1 (.int .u8) v64),BH,.cell true 3 (.arr 2 (.int .i64) v86),BK,.cell true 5 (.arr 1 (.int .u8) v105),.cell true 5 (.arr 1 (.int .u8) v106),.cell true 5 (.arr 1 (.int .u8) v107),.cell true 3 (.arr 1 (.int .i64) v108),kV,.cell true 5 (.arr 1 (.int .u8) v115)]}
 | .BW v43 v56 v57=>
 {fr:={id:=102,kind:=(.iter 6),T:=[(.ik 6),(.ptr 4 []),.any,.any,(.ptr 7 [])]++List.replicate 7 .any++[(.bw 12 [] 3 0 1 (some 1)),(.int .i64 1),(.int .i64 0)]++List.replicate 4 .any++[(.bw 9 [] 6 0 2 (some 2)),(.int .i64 2),(.int .i64 1)]++List.replicate 31 .any,items:=[.code (ay [1,0,0,1,1,0,0,1,1,0,0,1,1,1] (ag Tryz.f102)),.lp (ay [1,0,0,1,1,0,0,1,1,0,0] (ag Tryz.f102)),.a6 2,.a6 1,.code (ay [1,0,0,1,1,1] (ag Tryz.f102)),.lp (ay [1,0,0] (ag Tryz.f102)),.a6 0],D:=[],base:=7},
  bm:=[{id:=29,kind:=.top,T:=[.any,.any,(.ptr 1 []),(.ptr 2 []),(.ptr 3 [])]++List.replicate 48 .any,items:=[.fin 6,.a6 0,.code (ay [1,1,1,1] (ag Tryz.f29))],D:=[5],base:=0}],
  H:=[.dead,bP,bQ,.cell true 4 (.bool false),(b9 x),.kQ,.loop .ready none 29 ([.any,.any,(.ptr 1 []),(.ptr 2 []),(.ptr 3 [])]++List.replicate 48 .any) [47,48] (ay [1,1,1,0,1,0,0] (ag Tryz.f29)) (ay [1,1,1,0,1,0,1] (ag Tryz.f29)) 5,kT,.cell true 3 (.arr 2 (.int .i64) v43),HJ,.cell true 5 (.arr 1 (.int .u8) v56),.cell true 5 (.arr 1 (.int .u8) v57),kU]}
 | .Bh v43 v47 v53 v56 v57=>
 {fr:={id:=102,kind:=(.iter 6),T:=[(.ik 6),(.ptr 4 []),.any,.any,(.ptr 7 [])]++List.replicate 7 .any++[(.bw 12 [] 3 0 1 (some 1)),(.int .i64 1),(.int .i64 0)]++List.replicate 4 .any++[(.bw 9 [] 6 0 2 (some 2)),(.int .i64 2),(.int .i64 1)]++List.replicate 31 .any,items:=[.code (ay [1,0,0,1,1,0,0,1,1,0,0,1,1,1] (ag Tryz.f102)),.lp (ay [1,0,0,1,1,0,0,1,1,0,0] (ag Tryz.f102)),.a6 2,.a6 1,.code (ay [1,0,0,1,1,1] (ag Tryz.f102)),.lp (ay [1,0,0] (ag Tryz.f102)),.a6 0],D:=[],base:=7},
  bm:=[{id:=29,kind:=.top,T:=[.any,.any,(.ptr 1 []),(.ptr 2 []),(.ptr 3 [])]++List.replicate 48 .any,items:=[.fin 6,.a6 0,.code (ay [1,1,1,1] (ag Tryz.f29))],D:=[5],base:=0}],
  H:=[.dead,bP,bQ,.cell true 4 (.bool false),(b9 x),.kQ,.loop .ready none 29 ([.any,.any,(.ptr 1 []),(.ptr 2 []),(.ptr 3 [])]++List.replicate 48 .any) [47,48] (ay [1,1,1,0,1,0,0] (ag Tryz.f29)) (ay [1,1,1,0,1,0,1] (ag Tryz.f29)) 5,kT,.cell true 3 (.arr 2 (.int .i64) v43),.cell true 80 (.agg [6,6] [(.agg [1,1,1,1,1,1] [(.fn 116 []),(.fn 126 []),(.bw 10 [] 1 0 1 (some 1)),(.int .i64 v47),(.int .i64 1),(.int .i64 1)]),(.agg [1,1,1,1,1,1] [(.fn 116 []),(.fn 127 []),(.bw 11 [] 1 0 1 (some 1)),(.int .i64 v53),(.int .i64 1),(.int .i64 0)])]),.cell true 5 (.arr 1 (.int .u8) v56),.cell true 5 (.arr 1 (.int .u8) v57),kU]}
 | .DA v43 v56 v57=>
 {fr:={id:=102,kind:=(.iter 6),T:=[(.ik 6),(.ptr 4 []),.any,.any,(.ptr 7 [])]++List.replicate 7 .any++[(.bw 12 [] 3 0 1 (some 1)),(.int .i64 1),(.int .i64 0)]++List.replicate 4 .any++[(.bw 9 [] 6 0 2 (some 2)),(.int .i64 2),(.int .i64 1)]++List.replicate 31 .any,items:=[.code (ay [1,0,0,1,1,0,0,1,1,0,0,1,1,1] (ag Tryz.f102)),.lp (ay [1,0,0,1,1,0,0,1,1,0,0] (ag Tryz.f102)),.a6 2,.a6 1,.code (ay [1,0,0,1,1,1] (ag Tryz.f102)),.lp (ay [1,0,0] (ag Tryz.f102)),.a6 0],D:=[],base:=7},
  bm:=[{id:=29,kind:=.top,T:=[.any,.any,(.ptr 1 []),(.ptr 2 []),(.ptr 3 [])]++List.replicate 48 .any,items:=[.fin 6,.a6 0,.code (ay [1,1,1,1] (ag Tryz.f29))],D:=[5],base:=0}],
  H:=[.dead,bP,bQ,.cell true 4 (.bool false),(b9 x),.kQ,.loop .ready none 29 ([.any,.any,(.ptr 1 []),(.ptr 2 []),(.ptr 3 [])]++List.replicate 48 .any) [47,48] (ay [1,1,1,0,1,0,0] (ag Tryz.f29)) (ay [1,1,1,0,1,0,1] (ag Tryz.f29)) 5,.cell true 76 (.agg [1,1,1] [(.bw 8 [] 1 0 1 (some 1)),(.int .u8 243),(.bw 9 [] 6 0 2 (some 2))]),.cell true 3 (.arr 1 (.int .i64) v43),HK,.cell true 5 (.arr 2 (.int .u8) v56),.cell true 5 (.arr 2 (.int .u8) v57),.cell true 76 (.agg [3] [(.agg [1,1,1] [(.bw 8 [] 1 0 1 (some 1)),(.int .u8 243),(.bw 9 [] 6 0 2 (some 2))])])]}
 | .Dz v43 v56 v57=>
 {fr:={id:=102,kind:=(.iter 6),T:=[(.ik 6),(.ptr 4 []),.any,.any,(.ptr 7 [])]++List.replicate 7 .any++[(.bw 12 [] 3 0 1 (some 1)),(.int .i64 1),(.int .i64 0)]++List.replicate 4 .any++[(.bw 9 [] 6 0 2 (some 2)),(.int .i64 2),(.int .i64 1)]++List.replicate 31 .any,items:=[.code (ay [1,0,0,1,1,0,0,1,1,0,0,1,1,1] (ag Tryz.f102)),.lp (ay [1,0,0,1,1,0,0,1,1,0,0] (ag Tryz.f102)),.a6 2,.a6 1,.code (ay [1,0,0,1,1,1] (ag Tryz.f102)),.lp (ay [1,0,0] (ag Tryz.f102)),.a6 0],D:=[],base:=7},
  bm:=[{id:=29,kind:=.top,T:=[.any,.any,(.ptr 1 []),(.ptr 2 []),(.ptr 3 [])]++List.replicate 48 .any,items:=[.fin 6,.a6 0,.code (ay [1,1,1,1] (ag Tryz.f29))],D:=[5],base:=0}],
  H:=[.dead,bP,bQ,.cell true 4 (.bool false),(b9 x),.kQ,.loop .ready none 29 ([.any,.any,(.ptr 1 []),(.ptr 2 []),(.ptr 3 [])]++List.replicate 48 .any) [47,48] (ay [1,1,1,0,1,0,0] (ag Tryz.f29)) (ay [1,1,1,0,1,0,1] (ag Tryz.f29)) 5,kT,.cell true 3 (.arr 2 (.int .i64) v43),HI,.cell true 5 (.arr 1 (.int .u8) v56),.cell true 5 (.arr 1 (.int .u8) v57),kU]}
 | .Dy v43 v59 v65 v68 v69 v70 v71=>
 {fr:={id:=102,kind:=(.iter 6),T:=[(.ik 6),(.ptr 4 []),.any,.any,(.ptr 7 [])]++List.replicate 7 .any++[(.bw 14 [] 3 0 1 (some 1)),(.int .i64 1),(.int .i64 0)]++List.replicate 4 .any++[(.bw 9 [] 6 0 4 (some 4)),(.int .i64 4),(.int .i64 2)]++List.replicate 31 .any,items:=[.code (ay [1,0,0,1,1,0,0,1,1,0,0,1,1,1] (ag Tryz.f102)),.lp (ay [1,0,0,1,1,0,0,1,1,0,0] (ag Tryz.f102)),.a6 2,.a6 1,.code (ay [1,0,0,1,1,1] (ag Tryz.f102)),.lp (ay [1,0,0] (ag Tryz.f102)),.a6 0],D:=[],base:=7},
  bm:=[{id:=29,kind:=.top,T:=[.any,.any,(.ptr 1 []),(.ptr 2 []),(.ptr 3 [])]++List.replicate 48 .any,items:=[.fin 6,.a6 0,.code (ay [1,1,1,1] (ag Tryz.f29))],D:=[5],base:=0}],
  H:=[.dead,bP,bQ,.cell true 4 (.bool false),(b9 x),.kQ,.loop .ready none 29 ([.any,.any,(.ptr 1 []),(.ptr 2 []),(.ptr 3 [])]++List.replicate 48 .any) [47,48] (ay [1,1,1,0,1,0,0] (ag Tryz.f29)) (ay [1,1,1,0,1,0,1] (ag Tryz.f29)) 5,pW,.cell true 3 (.arr 2 (.int .i64) v43),.cell true 80 (.agg [6,6,6,6] [(.agg [1,1,1,1,1,1] [(.fn 116 []),(.fn 117 []),(.bw 10 [] 1 0 1 (some 1)),(.int .i64 (-1)),(.int .i64 1),(.int .i64 0)]),(.agg [1,1,1,1,1,1] [(.fn 117 []),(.fn 118 []),(.bw 11 [] 1 0 1 (some 1)),(.int .i64 (-1)),(.int .i64 2),(.int .i64 0)]),(.agg [1,1,1,1,1,1] [(.fn 116 []),(.fn 119 []),(.bw 12 [] 1 0 1 (some 1)),(.int .i64 v59),(.int .i64 1),(.int .i64 1)]),(.agg [1,1,1,1,1,1] [(.fn 116 []),(.fn 120 []),(.bw 13 [] 1 0 1 (some 1)),(.int .i64 v65),(.int .i64 1),(.int .i64 4)])]),.cell true 5 (.arr 1 (.int .u8) v68),.cell true 5 (.arr 1 (.int .u8) v69),.cell true 5 (.arr 1 (.int .u8) v70),.cell true 5 (.arr 1 (.int .u8) v71),pX]}
 | .yx v43 v62 v63 v64 v86 v105 v106 v107 v108 v115=>
 {fr:={id:=102,kind:=(.iter 6),T:=[(.ik 6),(.ptr 4 []),.any,.any,(.ptr 7 [])]++List.replicate 7 .any++[(.bw 13 [] 3 0 3 (some 3)),(.int .i64 3),(.int .i64 0)]++List.replicate 4 .any++[(.bw 9 [] 6 0 3 (some 3)),(.int .i64 3),(.int .i64 2)]++List.replicate 31 .any,items:=[.code (ay [1,0,0,1,1,0,0,1,1,0,0,1,1,1] (ag Tryz.f102)),.lp (ay [1,0,0,1,1,0,0,1,1,0,0] (ag Tryz.f102)),.a6 2,.a6 1,.code (ay [1,0,0,1,1,1] (ag Tryz.f102)),.lp (ay [1,0,0] (ag Tryz.f102)),.a6 0],D:=[],base:=7},
  bm:=[{id:=29,kind:=.top,T:=[.any,.any,(.ptr 1 []),(.ptr 2 []),(.ptr 3 [])]++List.replicate 48 .any,items:=[.fin 6,.a6 0,.code (ay [1,1,1,1] (ag Tryz.f29))],D:=[5],base:=0}],
  H:=[.dead,bP,bQ,.cell true 4 (.bool false),(b9 x),.kQ,.loop .ready none 29 ([.any,.any,(.ptr 1 []),(.ptr 2 []),(.ptr 3 [])]++List.replicate 48 .any) [47,48] (ay [1,1,1,0,1,0,0] (ag Tryz.f29)) (ay [1,1,1,0,1,0,1] (ag Tryz.f29)) 5,xp,.cell true 3 (.arr 1 (.int .i64) v43),BL,.cell true 5 (.arr 1 (.int .u8) v62),.cell true 5 (.arr 1 (.int .u8) v63),.cell true 5 (.arr 1 (.int .u8) v64),BH,.cell true 3 (.arr 2 (.int .i64) v86),BK,.cell true 5 (.arr 1 (.int .u8) v105),.cell true 5 (.arr 1 (.int .u8) v106),.cell true 5 (.arr 1 (.int .u8) v107),.cell true 3 (.arr 1 (.int .i64) v108),kV,.cell true 5 (.arr 1 (.int .u8) v115)]}
 | .yw v43 v59 v65 v68 v69 v70 v71=>
 {fr:={id:=102,kind:=(.iter 6),T:=[(.ik 6),(.ptr 4 []),.any,.any,(.ptr 7 [])]++List.replicate 7 .any++[(.bw 14 [] 3 0 1 (some 1)),(.int .i64 1),(.int .i64 0)]++List.replicate 4 .any++[(.bw 9 [] 6 0 4 (some 4)),(.int .i64 4),(.int .i64 3)]++List.replicate 31 .any,items:=[.code (ay [1,0,0,1,1,0,0,1,1,0,0,1,1,1] (ag Tryz.f102)),.lp (ay [1,0,0,1,1,0,0,1,1,0,0] (ag Tryz.f102)),.a6 2,.a6 1,.code (ay [1,0,0,1,1,1] (ag Tryz.f102)),.lp (ay [1,0,0] (ag Tryz.f102)),.a6 0],D:=[],base:=7},
  bm:=[{id:=29,kind:=.top,T:=[.any,.any,(.ptr 1 []),(.ptr 2 []),(.ptr 3 [])]++List.replicate 48 .any,items:=[.fin 6,.a6 0,.code (ay [1,1,1,1] (ag Tryz.f29))],D:=[5],base:=0}],
  H:=[.dead,bP,bQ,.cell true 4 (.bool false),(b9 x),.kQ,.loop .ready none 29 ([.any,.any,(.ptr 1 []),(.ptr 2 []),(.ptr 3 [])]++List.replicate 48 .any) [47,48] (ay [1,1,1,0,1,0,0] (ag Tryz.f29)) (ay [1,1,1,0,1,0,1] (ag Tryz.f29)) 5,pW,.cell true 3 (.arr 2 (.int .i64) v43),.cell true 80 (.agg [6,6,6,6] [(.agg [1,1,1,1,1,1] [(.fn 116 []),(.fn 117 []),(.bw 10 [] 1 0 1 (some 1)),(.int .i64 (-1)),(.int .i64 1),(.int .i64 0)]),(.agg [1,1,1,1,1,1] [(.fn 117 []),(.fn 118 []),(.bw 11 [] 1 0 1 (some 1)),(.int .i64 (-1)),(.int .i64 2),(.int .i64 0)]),(.agg [1,1,1,1,1,1] [(.fn 116 []),(.fn 119 []),(.bw 12 [] 1 0 1 (some 1)),(.int .i64 v59),(.int .i64 1),(.int .i64 1)]),(.agg [1,1,1,1,1,1] [(.fn 116 []),(.fn 120 []),(.bw 13 [] 1 0 1 (some 1)),(.int .i64 v65),(.int .i64 1),(.int .i64 4)])]),.cell true 5 (.arr 1 (.int .u8) v68),.cell true 5 (.arr 1 (.int .u8) v69),.cell true 5 (.arr 1 (.int .u8) v70),.cell true 5 (.arr 1 (.int .u8) v71),pX]}
 | .yv v43 v62 v63 v64 v86 v105 v106 v107 v108 v115=>
 {fr:={id:=102,kind:=(.iter 6),T:=[(.ik 6),(.ptr 4 []),.any,.any,(.ptr 7 [])]++List.replicate 7 .any++[(.bw 13 [] 3 0 3 (some 3)),(.int .i64 3),(.int .i64 1)]++List.replicate 4 .any++[(.bw 9 [] 6 0 3 (some 3)),(.int .i64 3),(.int .i64 0)]++List.replicate 31 .any,items:=[.code (ay [1,0,0,1,1,0,0,1,1,0,0,1,1,1] (ag Tryz.f102)),.lp (ay [1,0,0,1,1,0,0,1,1,0,0] (ag Tryz.f102)),.a6 2,.a6 1,.code (ay [1,0,0,1,1,1] (ag Tryz.f102)),.lp (ay [1,0,0] (ag Tryz.f102)),.a6 0],D:=[],base:=7},
  bm:=[{id:=29,kind:=.top,T:=[.any,.any,(.ptr 1 []),(.ptr 2 []),(.ptr 3 [])]++List.replicate 48 .any,items:=[.fin 6,.a6 0,.code (ay [1,1,1,1] (ag Tryz.f29))],D:=[5],base:=0}],
  H:=[.dead,bP,bQ,.cell true 4 (.bool false),(b9 x),.kQ,.loop .ready none 29 ([.any,.any,(.ptr 1 []),(.ptr 2 []),(.ptr 3 [])]++List.replicate 48 .any) [47,48] (ay [1,1,1,0,1,0,0] (ag Tryz.f29)) (ay [1,1,1,0,1,0,1] (ag Tryz.f29)) 5,xn,.cell true 3 (.arr 2 (.int .i64) v43),BJ,.cell true 5 (.arr 1 (.int .u8) v62),.cell true 5 (.arr 1 (.int .u8) v63),.cell true 5 (.arr 1 (.int .u8) v64),BG,.cell true 3 (.arr 1 (.int .i64) v86),BI,.cell true 5 (.arr 1 (.int .u8) v105),.cell true 5 (.arr 1 (.int .u8) v106),.cell true 5 (.arr 1 (.int .u8) v107),.cell true 3 (.arr 1 (.int .i64) v108),kV,.cell true 5 (.arr 1 (.int .u8) v115)]}
 | .Dx v43 v62 v63 v64 v86 v105 v106 v107 v108 v115=>
 {fr:={id:=102,kind:=(.iter 6),T:=[(.ik 6),(.ptr 4 []),.any,.any,(.ptr 7 [])]++List.replicate 7 .any++[(.bw 13 [] 3 0 3 (some 3)),(.int .i64 3),(.int .i64 1)]++List.replicate 4 .any++[(.bw 9 [] 6 0 3 (some 3)),(.int .i64 3),(.int .i64 1)]++List.replicate 31 .any,items:=[.code (ay [1,0,0,1,1,0,0,1,1,0,0,1,1,1] (ag Tryz.f102)),.lp (ay [1,0,0,1,1,0,0,1,1,0,0] (ag Tryz.f102)),.a6 2,.a6 1,.code (ay [1,0,0,1,1,1] (ag Tryz.f102)),.lp (ay [1,0,0] (ag Tryz.f102)),.a6 0],D:=[],base:=7},
  bm:=[{id:=29,kind:=.top,T:=[.any,.any,(.ptr 1 []),(.ptr 2 []),(.ptr 3 [])]++List.replicate 48 .any,items:=[.fin 6,.a6 0,.code (ay [1,1,1,1] (ag Tryz.f29))],D:=[5],base:=0}],
  H:=[.dead,bP,bQ,.cell true 4 (.bool false),(b9 x),.kQ,.loop .ready none 29 ([.any,.any,(.ptr 1 []),(.ptr 2 []),(.ptr 3 [])]++List.replicate 48 .any) [47,48] (ay [1,1,1,0,1,0,0] (ag Tryz.f29)) (ay [1,1,1,0,1,0,1] (ag Tryz.f29)) 5,xn,.cell true 3 (.arr 2 (.int .i64) v43),BJ,.cell true 5 (.arr 1 (.int .u8) v62),.cell true 5 (.arr 1 (.int .u8) v63),.cell true 5 (.arr 1 (.int .u8) v64),BG,.cell true 3 (.arr 1 (.int .i64) v86),BI,.cell true 5 (.arr 1 (.int .u8) v105),.cell true 5 (.arr 1 (.int .u8) v106),.cell true 5 (.arr 1 (.int .u8) v107),.cell true 3 (.arr 1 (.int .i64) v108),kV,.cell true 5 (.arr 1 (.int .u8) v115)]}
 | .Dw v43 v62 v63 v64 v86 v105 v106 v107 v108 v115=>
 {fr:={id:=102,kind:=(.iter 6),T:=[(.ik 6),(.ptr 4 []),.any,.any,(.ptr 7 [])]++List.replicate 7 .any++[(.bw 13 [] 3 0 3 (some 3)),(.int .i64 3),(.int .i64 1)]++List.replicate 4 .any++[(.bw 9 [] 6 0 3 (some 3)),(.int .i64 3),(.int .i64 2)]++List.replicate 31 .any,items:=[.code (ay [1,0,0,1,1,0,0,1,1,0,0,1,1,1] (ag Tryz.f102)),.lp (ay [1,0,0,1,1,0,0,1,1,0,0] (ag Tryz.f102)),.a6 2,.a6 1,.code (ay [1,0,0,1,1,1] (ag Tryz.f102)),.lp (ay [1,0,0] (ag Tryz.f102)),.a6 0],D:=[],base:=7},
  bm:=[{id:=29,kind:=.top,T:=[.any,.any,(.ptr 1 []),(.ptr 2 []),(.ptr 3 [])]++List.replicate 48 .any,items:=[.fin 6,.a6 0,.code (ay [1,1,1,1] (ag Tryz.f29))],D:=[5],base:=0}],
  H:=[.dead,bP,bQ,.cell true 4 (.bool false),(b9 x),.kQ,.loop .ready none 29 ([.any,.any,(.ptr 1 []),(.ptr 2 []),(.ptr 3 [])]++List.replicate 48 .any) [47,48] (ay [1,1,1,0,1,0,0] (ag Tryz.f29)) (ay [1,1,1,0,1,0,1] (ag Tryz.f29)) 5,xn,.cell true 3 (.arr 2 (.int .i64) v43),BJ,.cell true 5 (.arr 1 (.int .u8) v62),.cell true 5 (.arr 1 (.int .u8) v63),.cell true 5 (.arr 1 (.int .u8) v64),BG,.cell true 3 (.arr 1 (.int .i64) v86),BI,.cell true 5 (.arr 1 (.int .u8) v105),.cell true 5 (.arr 1 (.int .u8) v106),.cell true 5 (.arr 1 (.int .u8) v107),.cell true 3 (.arr 1 (.int .i64) v108),kV,.cell true 5 (.arr 1 (.int .u8) v115)]}
 | .Dv v43 v50 v72 v91 v92 v93 v94 v113 v114 v115=>
 {fr:={id:=102,kind:=(.iter 6),T:=[(.ik 6),(.ptr 4 []),.any,.any,(.ptr 7 [])]++List.replicate 7 .any++[(.bw 11 [] 3 0 3 (some 3)),(.int .i64 3),(.int .i64 2)]++List.replicate 4 .any++[(.bw 9 [] 6 0 1 (some 1)),(.int .i64 1),(.int .i64 0)]++List.replicate 31 .any,items:=[.code (ay [1,0,0,1,1,0,0,1,1,0,0,1,1,1] (ag Tryz.f102)),.lp (ay [1,0,0,1,1,0,0,1,1,0,0] (ag Tryz.f102)),.a6 2,.a6 1,.code (ay [1,0,0,1,1,1] (ag Tryz.f102)),.lp (ay [1,0,0] (ag Tryz.f102)),.a6 0],D:=[],base:=7},
  bm:=[{id:=29,kind:=.top,T:=[.any,.any,(.ptr 1 []),(.ptr 2 []),(.ptr 3 [])]++List.replicate 48 .any,items:=[.fin 6,.a6 0,.code (ay [1,1,1,1] (ag Tryz.f29))],D:=[5],base:=0}],
  H:=[.dead,bP,bQ,.cell true 4 (.bool false),(b9 x),.kQ,.loop .ready none 29 ([.any,.any,(.ptr 1 []),(.ptr 2 []),(.ptr 3 [])]++List.replicate 48 .any) [47,48] (ay [1,1,1,0,1,0,0] (ag Tryz.f29)) (ay [1,1,1,0,1,0,1] (ag Tryz.f29)) 5,.cell true 76 (.agg [1,1,1] [(.bw 8 [] 1 0 1 (some 1)),(.int .u8 0),(.bw 9 [] 6 0 1 (some 1))]),.cell true 3 (.arr 1 (.int .i64) v43),.cell true 80 (.agg [6] [(.agg [1,1,1,1,1,1] [(.fn 117 []),(.fn 156 []),(.bw 10 [] 1 0 1 (some 1)),(.int .i64 0),(.int .i64 3),(.int .i64 8)])]),.cell true 5 (.arr 1 (.int .u8) v50),.cell true 76 (.agg [3,3,3] [(.agg [1,1,1] [(.bw 12 [] 1 0 1 (some 1)),(.int .u8 0),(.bw 13 [] 6 0 3 (some 3))]),(.agg [1,1,1] [(.bw 17 [] 1 0 2 (some 2)),(.int .u8 0),(.bw 18 [] 6 0 3 (some 3))]),(.agg [1,1,1] [(.bw 8 [] 1 0 1 (some 1)),(.int .u8 0),(.bw 9 [] 6 0 1 (some 1))])]),.cell true 3 (.arr 1 (.int .i64) v72),.cell true 80 (.agg [6,6,6] [(.agg [1,1,1,1,1,1] [(.fn 116 []),(.fn 117 []),(.bw 14 [] 1 0 1 (some 1)),(.int .i64 (-1)),(.int .i64 1),(.int .i64 0)]),(.agg [1,1,1,1,1,1] [(.fn 117 []),(.fn 118 []),(.bw 15 [] 1 0 1 (some 1)),(.int .i64 (-1)),(.int .i64 2),(.int .i64 0)]),(.agg [1,1,1,1,1,1] [(.fn 116 []),(.fn 119 []),(.bw 16 [] 1 0 1 (some 1)),(.int .i64 0),(.int .i64 1),(.int .i64 1)])]),.cell true 5 (.arr 1 (.int .u8) v91),.cell true 5 (.arr 1 (.int .u8) v92),.cell true 5 (.arr 1 (.int .u8) v93),.cell true 3 (.arr 2 (.int .i64) v94),.cell true 80 (.agg [6,6,6] [(.agg [1,1,1,1,1,1] [(.fn 116 []),(.fn 117 []),(.bw 19 [] 1 0 1 (some 1)),(.int .i64 (-1)),(.int .i64 1),(.int .i64 0)]),(.agg [1,1,1,1,1,1] [(.fn 117 []),(.fn 118 []),(.bw 20 [] 1 0 1 (some 1)),(.int .i64 (-1)),(.int .i64 2),(.int .i64 0)]),(.agg [1,1,1,1,1,1] [(.fn 116 []),(.fn 120 []),(.bw 21 [] 1 0 1 (some 1)),(.int .i64 0),(.int .i64 1),(.int .i64 4)])]),.cell true 5 (.arr 1 (.int .u8) v113),.cell true 5 (.arr 1 (.int .u8) v114),.cell true 5 (.arr 1 (.int .u8) v115)]}
noncomputable def cO:FuncId→Nat→Nat→Option Cut
 | 29,9,0=>some {tmps:=[1,2,3,4],loops:=[],dead:=[],bm:=[]}
 | 102,15,7=>some {tmps:=[0,1,4,12,13,14,19,20,21],loops:=[(6,[2,3,4])],dead:=[0],bm:=[[2,3,4]]}
 | 29,17,0=>some {tmps:=[2,3,4],loops:=[],dead:=[],bm:=[]}
 | _,_,_=>none
noncomputable def Og (x:DI):cr:=gh (TC.kP (.st (.st (.slice (.int .i64)) (.st (.int .u8) (.bu .bC))) (.st (.st .bC (.st .bC (.st (.slice (.int .u8)) (.st (.int .i64) (.st (.int .i64) (.bu (.int .i64))))))) (.bu .bool)))) (ai x) (qu x)
def LB (x:DI):Prop:=∃ r,Ends (ai x) r (qu x)
noncomputable def cz:Spec:={eX:=(.bu bA),cB:=(.st (.st (.slice (.int .i64)) (.st (.int .u8) (.bu .bC))) (.st (.st .bC (.st .bC (.st (.slice (.int .u8)) (.st (.int .i64) (.st (.int .i64) (.bu (.int .i64))))))) (.bu .bool))),n:=3,pre:=LB,f:=Og}
noncomputable def cA:FuncId→Option Spec
 | 104=>some s6
 | 114=>some m8
 | 116=>some sY
 | 117=>some sX
 | 118=>some oY
 | 119=>some sW
 | 120=>some sV
 | 123=>some oX
 | 124=>some sU
 | 126=>some sS
 | 127=>some sR
 | 141=>some sQ
 | 156=>some lj
 | _=>none
theorem Jq:∀ f sp,cA f=some sp→ah aA f sp:=by
 intro f sp h
 unfold cA at h
 split at h
 ·cases h;exact VZ
 ·cases h;exact VV
 ·cases h;exact VU
 ·cases h;exact VT
 ·cases h;exact PB
 ·cases h;exact VS
 ·cases h;exact VR
 ·cases h;exact PA
 ·cases h;exact VQ
 ·cases h;exact VP
 ·cases h;exact VO
 ·cases h;exact VN
 ·cases h;exact G5
 ·cases h
section
variable (W:cM) (Q:cr→Prop) (x:DI)
theorem T9:run (env cA (fun _=>none) false (fun _ _=>none)) cO (bE cz Q) W 100000 (bl 29 Tryz.f29 (ag Tryz.f29) (bp (.bu bA) x)) [] []=(qu x).wp (cw W Q (aB x)):=by kernel_rfl
theorem Nz:run (env cA (fun _=>none) false (fun _ _=>none)) cO (bE cz Q) W 100000 (aB x (.h0)).fr.enter (aB x (.h0)).bm (aB x (.h0)).H=(ai x (.h0)).wp (cw W Q (aB x)):=by kernel_rfl
theorem Ny (v43:List Int) (v59 v65:Int) (v68 v69:List Int) (v70 v71:List Int):run (env cA (fun _=>none) false (fun _ _=>none)) cO (bE cz Q) W 100000 (aB x (.h1 v43 v59 v65 v68 v69 v70 v71)).fr.enter (aB x (.h1 v43 v59 v65 v68 v69 v70 v71)).bm (aB x (.h1 v43 v59 v65 v68 v69 v70 v71)).H=(ai x (.h1 v43 v59 v65 v68 v69 v70 v71)).wp (cw W Q (aB x)):=by kernel_rfl
theorem Nx (v43 v62:List Int) (v63 v64:List Int) (v86 v105:List Int) (v106 v107:List Int) (v108 v115:List Int):run (env cA (fun _=>none) false (fun _ _=>none)) cO (bE cz Q) W 100000 (aB x (.h2 v43 v62 v63 v64 v86 v105 v106 v107 v108 v115)).fr.enter (aB x (.h2 v43 v62 v63 v64 v86 v105 v106 v107 v108 v115)).bm (aB x (.h2 v43 v62 v63 v64 v86 v105 v106 v107 v108 v115)).H=(ai x (.h2 v43 v62 v63 v64 v86 v105 v106 v107 v108 v115)).wp (cw W Q (aB x)):=by kernel_rfl
theorem Nw (v43 v50:List Int):run (env cA (fun _=>none) false (fun _ _=>none)) cO (bE cz Q) W 100000 (aB x (.h3 v43 v50)).fr.enter (aB x (.h3 v43 v50)).bm (aB x (.h3 v43 v50)).H=(ai x (.h3 v43 v50)).wp (cw W Q (aB x)):=by kernel_rfl
theorem Nv (v43 v56 v57:List Int):run (env cA (fun _=>none) false (fun _ _=>none)) cO (bE cz Q) W 100000 (aB x (.h4 v43 v56 v57)).fr.enter (aB x (.h4 v43 v56 v57)).bm (aB x (.h4 v43 v56 v57)).H=(ai x (.h4 v43 v56 v57)).wp (cw W Q (aB x)):=by kernel_rfl
theorem Nu (v43:List Int) (v47:Int) (v50:List Int):run (env cA (fun _=>none) false (fun _ _=>none)) cO (bE cz Q) W 100000 (aB x (.h5 v43 v47 v50)).fr.enter (aB x (.h5 v43 v47 v50)).bm (aB x (.h5 v43 v47 v50)).H=(ai x (.h5 v43 v47 v50)).wp (cw W Q (aB x)):=by kernel_rfl
theorem Nt (v43:List Int) (v47 v53:Int) (v56 v57:List Int):run (env cA (fun _=>none) false (fun _ _=>none)) cO (bE cz Q) W 100000 (aB x (.h6 v43 v47 v53 v56 v57)).fr.enter (aB x (.h6 v43 v47 v53 v56 v57)).bm (aB x (.h6 v43 v47 v53 v56 v57)).H=(ai x (.h6 v43 v47 v53 v56 v57)).wp (cw W Q (aB x)):=by kernel_rfl
theorem Ns (v43 v50:List Int):run (env cA (fun _=>none) false (fun _ _=>none)) cO (bE cz Q) W 100000 (aB x (.h7 v43 v50)).fr.enter (aB x (.h7 v43 v50)).bm (aB x (.h7 v43 v50)).H=(ai x (.h7 v43 v50)).wp (cw W Q (aB x)):=by kernel_rfl
theorem Nr (v43 v50:List Int):run (env cA (fun _=>none) false (fun _ _=>none)) cO (bE cz Q) W 100000 (aB x (.h8 v43 v50)).fr.enter (aB x (.h8 v43 v50)).bm (aB x (.h8 v43 v50)).H=(ai x (.h8 v43 v50)).wp (cw W Q (aB x)):=by kernel_rfl
theorem Nq (v43 v56 v57:List Int):run (env cA (fun _=>none) false (fun _ _=>none)) cO (bE cz Q) W 100000 (aB x (.h9 v43 v56 v57)).fr.enter (aB x (.h9 v43 v56 v57)).bm (aB x (.h9 v43 v56 v57)).H=(ai x (.h9 v43 v56 v57)).wp (cw W Q (aB x)):=by kernel_rfl
theorem K2 (v43 v50:List Int):run (env cA (fun _=>none) false (fun _ _=>none)) cO (bE cz Q) W 100000 (aB x (.uP v43 v50)).fr.enter (aB x (.uP v43 v50)).bm (aB x (.uP v43 v50)).H=(ai x (.uP v43 v50)).wp (cw W Q (aB x)):=by kernel_rfl
theorem K1 (v43:List Int) (v49:Int) (v50:List Int):run (env cA (fun _=>none) false (fun _ _=>none)) cO (bE cz Q) W 100000 (aB x (.oI v43 v49 v50)).fr.enter (aB x (.oI v43 v49 v50)).bm (aB x (.oI v43 v49 v50)).H=(ai x (.oI v43 v49 v50)).wp (cw W Q (aB x)):=by kernel_rfl
theorem K0 (v43 v50:List Int):run (env cA (fun _=>none) false (fun _ _=>none)) cO (bE cz Q) W 100000 (aB x (.lC v43 v50)).fr.enter (aB x (.lC v43 v50)).bm (aB x (.lC v43 v50)).H=(ai x (.lC v43 v50)).wp (cw W Q (aB x)):=by kernel_rfl
theorem KZ (v43 v56 v57:List Int):run (env cA (fun _=>none) false (fun _ _=>none)) cO (bE cz Q) W 100000 (aB x (.jt v43 v56 v57)).fr.enter (aB x (.jt v43 v56 v57)).bm (aB x (.jt v43 v56 v57)).H=(ai x (.jt v43 v56 v57)).wp (cw W Q (aB x)):=by kernel_rfl
theorem KY (v43 v50:List Int):run (env cA (fun _=>none) false (fun _ _=>none)) cO (bE cz Q) W 100000 (aB x (.ku v43 v50)).fr.enter (aB x (.ku v43 v50)).bm (aB x (.ku v43 v50)).H=(ai x (.ku v43 v50)).wp (cw W Q (aB x)):=by kernel_rfl
theorem KV (v43 v50:List Int):run (env cA (fun _=>none) false (fun _ _=>none)) cO (bE cz Q) W 100000 (aB x (.gO v43 v50)).fr.enter (aB x (.gO v43 v50)).bm (aB x (.gO v43 v50)).H=(ai x (.gO v43 v50)).wp (cw W Q (aB x)):=by kernel_rfl
theorem KU (v43 v50:List Int):run (env cA (fun _=>none) false (fun _ _=>none)) cO (bE cz Q) W 100000 (aB x (.hJ v43 v50)).fr.enter (aB x (.hJ v43 v50)).bm (aB x (.hJ v43 v50)).H=(ai x (.hJ v43 v50)).wp (cw W Q (aB x)):=by kernel_rfl
theorem KT:run (env cA (fun _=>none) false (fun _ _=>none)) cO (bE cz Q) W 100000 (aB x (.my)).fr.enter (aB x (.my)).bm (aB x (.my)).H=(ai x (.my)).wp (cw W Q (aB x)):=by kernel_rfl
theorem KS (v43:List Int) (v59 v65:Int) (v68 v69:List Int) (v70 v71:List Int):run (env cA (fun _=>none) false (fun _ _=>none)) cO (bE cz Q) W 100000 (aB x (.wX v43 v59 v65 v68 v69 v70 v71)).fr.enter (aB x (.wX v43 v59 v65 v68 v69 v70 v71)).bm (aB x (.wX v43 v59 v65 v68 v69 v70 v71)).H=(ai x (.wX v43 v59 v65 v68 v69 v70 v71)).wp (cw W Q (aB x)):=by kernel_rfl
theorem KR (v43 v62:List Int) (v63 v64:List Int) (v86 v105:List Int) (v106 v107:List Int) (v108 v115:List Int):run (env cA (fun _=>none) false (fun _ _=>none)) cO (bE cz Q) W 100000 (aB x (.yy v43 v62 v63 v64 v86 v105 v106 v107 v108 v115)).fr.enter (aB x (.yy v43 v62 v63 v64 v86 v105 v106 v107 v108 v115)).bm (aB x (.yy v43 v62 v63 v64 v86 v105 v106 v107 v108 v115)).H=(ai x (.yy v43 v62 v63 v64 v86 v105 v106 v107 v108 v115)).wp (cw W Q (aB x)):=by kernel_rfl
theorem KQ (v43 v56 v57:List Int):run (env cA (fun _=>none) false (fun _ _=>none)) cO (bE cz Q) W 100000 (aB x (.BW v43 v56 v57)).fr.enter (aB x (.BW v43 v56 v57)).bm (aB x (.BW v43 v56 v57)).H=(ai x (.BW v43 v56 v57)).wp (cw W Q (aB x)):=by kernel_rfl
theorem KP (v43:List Int) (v47 v53:Int) (v56 v57:List Int):run (env cA (fun _=>none) false (fun _ _=>none)) cO (bE cz Q) W 100000 (aB x (.Bh v43 v47 v53 v56 v57)).fr.enter (aB x (.Bh v43 v47 v53 v56 v57)).bm (aB x (.Bh v43 v47 v53 v56 v57)).H=(ai x (.Bh v43 v47 v53 v56 v57)).wp (cw W Q (aB x)):=by kernel_rfl
theorem KO (v43 v56 v57:List Int):run (env cA (fun _=>none) false (fun _ _=>none)) cO (bE cz Q) W 100000 (aB x (.DA v43 v56 v57)).fr.enter (aB x (.DA v43 v56 v57)).bm (aB x (.DA v43 v56 v57)).H=(ai x (.DA v43 v56 v57)).wp (cw W Q (aB x)):=by kernel_rfl
theorem KN (v43 v56 v57:List Int):run (env cA (fun _=>none) false (fun _ _=>none)) cO (bE cz Q) W 100000 (aB x (.Dz v43 v56 v57)).fr.enter (aB x (.Dz v43 v56 v57)).bm (aB x (.Dz v43 v56 v57)).H=(ai x (.Dz v43 v56 v57)).wp (cw W Q (aB x)):=by kernel_rfl
theorem KM (v43:List Int) (v59 v65:Int) (v68 v69:List Int) (v70 v71:List Int):run (env cA (fun _=>none) false (fun _ _=>none)) cO (bE cz Q) W 100000 (aB x (.Dy v43 v59 v65 v68 v69 v70 v71)).fr.enter (aB x (.Dy v43 v59 v65 v68 v69 v70 v71)).bm (aB x (.Dy v43 v59 v65 v68 v69 v70 v71)).H=(ai x (.Dy v43 v59 v65 v68 v69 v70 v71)).wp (cw W Q (aB x)):=by kernel_rfl
theorem KL (v43 v62:List Int) (v63 v64:List Int) (v86 v105:List Int) (v106 v107:List Int) (v108 v115:List Int):run (env cA (fun _=>none) false (fun _ _=>none)) cO (bE cz Q) W 100000 (aB x (.yx v43 v62 v63 v64 v86 v105 v106 v107 v108 v115)).fr.enter (aB x (.yx v43 v62 v63 v64 v86 v105 v106 v107 v108 v115)).bm (aB x (.yx v43 v62 v63 v64 v86 v105 v106 v107 v108 v115)).H=(ai x (.yx v43 v62 v63 v64 v86 v105 v106 v107 v108 v115)).wp (cw W Q (aB x)):=by kernel_rfl
theorem KK (v43:List Int) (v59 v65:Int) (v68 v69:List Int) (v70 v71:List Int):run (env cA (fun _=>none) false (fun _ _=>none)) cO (bE cz Q) W 100000 (aB x (.yw v43 v59 v65 v68 v69 v70 v71)).fr.enter (aB x (.yw v43 v59 v65 v68 v69 v70 v71)).bm (aB x (.yw v43 v59 v65 v68 v69 v70 v71)).H=(ai x (.yw v43 v59 v65 v68 v69 v70 v71)).wp (cw W Q (aB x)):=by kernel_rfl
theorem KJ (v43 v62:List Int) (v63 v64:List Int) (v86 v105:List Int) (v106 v107:List Int) (v108 v115:List Int):run (env cA (fun _=>none) false (fun _ _=>none)) cO (bE cz Q) W 100000 (aB x (.yv v43 v62 v63 v64 v86 v105 v106 v107 v108 v115)).fr.enter (aB x (.yv v43 v62 v63 v64 v86 v105 v106 v107 v108 v115)).bm (aB x (.yv v43 v62 v63 v64 v86 v105 v106 v107 v108 v115)).H=(ai x (.yv v43 v62 v63 v64 v86 v105 v106 v107 v108 v115)).wp (cw W Q (aB x)):=by kernel_rfl
theorem KI (v43 v62:List Int) (v63 v64:List Int) (v86 v105:List Int) (v106 v107:List Int) (v108 v115:List Int):run (env cA (fun _=>none) false (fun _ _=>none)) cO (bE cz Q) W 100000 (aB x (.Dx v43 v62 v63 v64 v86 v105 v106 v107 v108 v115)).fr.enter (aB x (.Dx v43 v62 v63 v64 v86 v105 v106 v107 v108 v115)).bm (aB x (.Dx v43 v62 v63 v64 v86 v105 v106 v107 v108 v115)).H=(ai x (.Dx v43 v62 v63 v64 v86 v105 v106 v107 v108 v115)).wp (cw W Q (aB x)):=by kernel_rfl
theorem KH (v43 v62:List Int) (v63 v64:List Int) (v86 v105:List Int) (v106 v107:List Int) (v108 v115:List Int):run (env cA (fun _=>none) false (fun _ _=>none)) cO (bE cz Q) W 100000 (aB x (.Dw v43 v62 v63 v64 v86 v105 v106 v107 v108 v115)).fr.enter (aB x (.Dw v43 v62 v63 v64 v86 v105 v106 v107 v108 v115)).bm (aB x (.Dw v43 v62 v63 v64 v86 v105 v106 v107 v108 v115)).H=(ai x (.Dw v43 v62 v63 v64 v86 v105 v106 v107 v108 v115)).wp (cw W Q (aB x)):=by kernel_rfl
theorem KG (v43 v50:List Int) (v72 v91:List Int) (v92 v93:List Int) (v94 v113:List Int) (v114 v115:List Int):run (env cA (fun _=>none) false (fun _ _=>none)) cO (bE cz Q) W 100000 (aB x (.Dv v43 v50 v72 v91 v92 v93 v94 v113 v114 v115)).fr.enter (aB x (.Dv v43 v50 v72 v91 v92 v93 v94 v113 v114 v115)).bm (aB x (.Dv v43 v50 v72 v91 v92 v93 v94 v113 v114 v115)).H=(ai x (.Dv v43 v50 v72 v91 v92 v93 v94 v113 v114 v115)).wp (cw W Q (aB x)):=by kernel_rfl
end
theorem PZ (W:cM) (Q:cr→Prop) (x:DI):∀ j:SS,run (env cA (fun _=>none) false (fun _ _=>none)) cO (bE cz Q) W 100000 (aB x j).fr.enter (aB x j).bm (aB x j).H=(ai x j).wp (cw W Q (aB x))
 | .h0=>Nz W Q x
 | .h1 v43 v59 v65 v68 v69 v70 v71=>Ny W Q x v43 v59 v65 v68 v69 v70 v71
 | .h2 v43 v62 v63 v64 v86 v105 v106 v107 v108 v115=>Nx W Q x v43 v62 v63 v64 v86 v105 v106 v107 v108 v115
 | .h3 v43 v50=>Nw W Q x v43 v50
 | .h4 v43 v56 v57=>Nv W Q x v43 v56 v57
 | .h5 v43 v47 v50=>Nu W Q x v43 v47 v50
 | .h6 v43 v47 v53 v56 v57=>Nt W Q x v43 v47 v53 v56 v57
 | .h7 v43 v50=>Ns W Q x v43 v50
 | .h8 v43 v50=>Nr W Q x v43 v50
 | .h9 v43 v56 v57=>Nq W Q x v43 v56 v57
 | .uP v43 v50=>K2 W Q x v43 v50
 | .oI v43 v49 v50=>K1 W Q x v43 v49 v50
 | .lC v43 v50=>K0 W Q x v43 v50
 | .jt v43 v56 v57=>KZ W Q x v43 v56 v57
 | .ku v43 v50=>KY W Q x v43 v50
 | .gO v43 v50=>KV W Q x v43 v50
 | .hJ v43 v50=>KU W Q x v43 v50
 | .my=>KT W Q x
 | .wX v43 v59 v65 v68 v69 v70 v71=>KS W Q x v43 v59 v65 v68 v69 v70 v71
 | .yy v43 v62 v63 v64 v86 v105 v106 v107 v108 v115=>KR W Q x v43 v62 v63 v64 v86 v105 v106 v107 v108 v115
 | .BW v43 v56 v57=>KQ W Q x v43 v56 v57
 | .Bh v43 v47 v53 v56 v57=>KP W Q x v43 v47 v53 v56 v57
 | .DA v43 v56 v57=>KO W Q x v43 v56 v57
 | .Dz v43 v56 v57=>KN W Q x v43 v56 v57
 | .Dy v43 v59 v65 v68 v69 v70 v71=>KM W Q x v43 v59 v65 v68 v69 v70 v71
 | .yx v43 v62 v63 v64 v86 v105 v106 v107 v108 v115=>KL W Q x v43 v62 v63 v64 v86 v105 v106 v107 v108 v115
 | .yw v43 v59 v65 v68 v69 v70 v71=>KK W Q x v43 v59 v65 v68 v69 v70 v71
 | .yv v43 v62 v63 v64 v86 v105 v106 v107 v108 v115=>KJ W Q x v43 v62 v63 v64 v86 v105 v106 v107 v108 v115
 | .Dx v43 v62 v63 v64 v86 v105 v106 v107 v108 v115=>KI W Q x v43 v62 v63 v64 v86 v105 v106 v107 v108 v115
 | .Dw v43 v62 v63 v64 v86 v105 v106 v107 v108 v115=>KH W Q x v43 v62 v63 v64 v86 v105 v106 v107 v108 v115
 | .Dv v43 v50 v72 v91 v92 v93 v94 v113 v114 v115=>KG W Q x v43 v50 v72 v91 v92 v93 v94 v113 v114 v115
theorem Xr:ah aA 29 cz:=ah.env rfl (fun _ _ h=>h) (dF (E:=(env cA (fun _=>none) false (fun _ _=>none))) (sp:=cz) (valid _ _ _ _) ⟨fun f sp h=>ah.env rfl (fun _ _ h=>h) (Jq f sp h),fun f ps h=>nomatch h⟩ (fn:=Tryz.f29) (c:=(ag Tryz.f29)) (by kernel_rfl) (by kernel_rfl) qu ai aB T9 PZ (fun _ h=>dI h))
end Go.bz.RL
end
section
namespace Go.bz.RL
open Go.Proofs Go.bz
noncomputable def yX (x:DI):Tr Bool:=
 .aa (LB x)<|
 .ret (Og x).2.2
noncomputable def pL (x:DI):Bool:=(yX x).val
def wH (x:DI):Prop:=(yX x).ok
noncomputable def zB:Spec:={eX:=(.bu bA),cB:=.bool,n:=1,pre:=wH,f:=pL}
noncomputable def A8:FuncId→Option Spec
 | 29=>some cz
 | _=>none
theorem JA:∀ f sp,A8 f=some sp→ah aA f sp:=by
 intro f sp h
 unfold A8 at h
 split at h
 ·cases h;exact Xr
 ·cases h
section
variable (W:cM) (Q:Bool→Prop) (x:DI)
theorem Uj:run (env A8 (fun _=>none) false (fun _ _=>none)) (fun _ _ _=>none) (bE zB Q) W 100000 (bl 14 Tryz.f14 (ag Tryz.f14) (bp (.bu bA) x)) [] []=(yX x).wp Q:=by kernel_rfl
end
theorem Xy:ah aA 14 zB:=ah.env rfl (fun _ _ h=>h) (aG (E:=(env A8 (fun _=>none) false (fun _ _=>none))) (sp:=zB) (valid _ _ _ _) ⟨fun f sp h=>ah.env rfl (fun _ _ h=>h) (JA f sp h),fun f ps h=>nomatch h⟩ (fn:=Tryz.f14) (c:=(ag Tryz.f14)) (by kernel_rfl) (by kernel_rfl) yX Uj (fun _ h=>Tr.an h))
noncomputable def yU (x:Int):Tr aF:=
 .ret (false,(x,0))
noncomputable def fC (x:Int):aF:=(yU x).val
def dZ (x:Int):Prop:=(yU x).ok
noncomputable def fN:Spec:={eX:=(.bu (.int .i64)),cB:=ar,n:=1,pre:=dZ,f:=fC}
noncomputable def A3:FuncId→Option Spec
 | _=>none
theorem Jv:∀ f sp,A3 f=some sp→ah aA f sp:=by
 intro f sp h
 unfold A3 at h
 split at h
 ·cases h
section
variable (W:cM) (Q:aF→Prop) (x:Int)
theorem Ue:run (env A3 (fun _=>none) false (fun _ _=>none)) (fun _ _ _=>none) (bE fN Q) W 100000 (bl 20 Tryz.f20 (ag Tryz.f20) (bp (.bu (.int .i64)) x)) [] []=(yU x).wp Q:=by kernel_rfl
end
theorem pj:ah aA 20 fN:=ah.env rfl (fun _ _ h=>h) (aG (E:=(env A3 (fun _=>none) false (fun _ _=>none))) (sp:=fN) (valid _ _ _ _) ⟨fun f sp h=>ah.env rfl (fun _ _ h=>h) (Jv f sp h),fun f ps h=>nomatch h⟩ (fn:=Tryz.f20) (c:=(ag Tryz.f20)) (by kernel_rfl) (by kernel_rfl) yU Ue (fun _ h=>Tr.an h))
noncomputable def qp (x:lW):Tr aF:=
 .ite (cF x.1 (x.2.length:Int)) (
 .aa ((0:Int)≤x.1)<|
 .aa (x.1 < (x.2.length:Int))<|
 .ret (eZ ar x.2 (x.1).toNat)) (
 .aa (bn 0)<|
 .ret (aP 0))
noncomputable def DH (x:lW):aF:=(qp x).val
def CB (x:lW):Prop:=(qp x).ok
noncomputable def zq:Spec:={eX:=(.st (.int .i64) (.bu (.ref (.slice ar)))),cB:=ar,n:=1,pre:=CB,f:=DH}
noncomputable def Ap:FuncId→Option Spec
 | 11=>some dR
 | _=>none
theorem IV:∀ f sp,Ap f=some sp→ah aA f sp:=by
 intro f sp h
 unfold Ap at h
 split at h
 ·cases h;exact jQ
 ·cases h
section
variable (W:cM) (Q:aF→Prop) (x:lW)
theorem Tx:run (env Ap (fun _=>none) false (fun _ _=>none)) (fun _ _ _=>none) (bE zq Q) W 100000 (bl 64 Tryz.f64 (ag Tryz.f64) (bp (.st (.int .i64) (.bu (.ref (.slice ar)))) x)) [] []=(qp x).wp Q:=by kernel_rfl
end
theorem Xp:ah aA 64 zq:=ah.env rfl (fun _ _ h=>h) (aG (E:=(env Ap (fun _=>none) false (fun _ _=>none))) (sp:=zq) (valid _ _ _ _) ⟨fun f sp h=>ah.env rfl (fun _ _ h=>h) (IV f sp h),fun f ps h=>nomatch h⟩ (fn:=Tryz.f64) (c:=(ag Tryz.f64)) (by kernel_rfl) (by kernel_rfl) qp Tx (fun _ h=>Tr.an h))
noncomputable def qv (x:WG):Tr bx:=
 let y0:fk:=x.2.2
 let y1:xF:=y0.2
 let y2:lW:=y1.2
 let y3:(List aF):=y2.2
 let y4:lW:=(0,y3)
 .aa (CB y4)<|
 let y5:lW:=(1,y3)
 .aa (CB y5)<|
 let y6:lW:=(2,y3)
 .aa (CB y6)<|
 .aa ((0:Nat) < 1)<|
 .aa (((0:Nat)+1:Nat)≤1)<|
 let y7:aq:=x.2.1
 let y8:Nat:=y7.length
 .aa ((y8:Nat)=y8)<|
 let y9:Nat:=(y8+1)
 .aa (((y9:Nat) * 256:Nat)≤2 ^ 40)<|
 .aa ((y9:Nat)≤2 ^ 40)<|
 let y10:HY:=(0,(0,(0,(0,(0,(0,(false,0)))))))
 let y11:aq:=(y7++[(y0.1,(y1.1,(y2.1,((DH y4),((DH y5),((DH y6),(0,(0,(0,(y10,(y10,(0,0))))))))))))])
 .aa ((y9:Nat)=y11.length)<|
 let y12:ew:=x.1.2
 .aa ((x.1.1,(y12.1,((),y12.2.2)))=x.1)<|
 .ret (y11,())
noncomputable def cK (x:WG):bx:=(qv x).val
def bK (x:WG):Prop:=(qv x).ok
noncomputable def fQ:aH:={t:=51,lf:=2,te:=38,ce:=aZ,st:=(.st bA (.st (.int .i64) (.st .bC (.st (.int .u64) (.st ar (.st ar (.st ar (.bu ar)))))))),arg:=(.st (.int .u8) (.st (.int .i64) (.st (.int .i64) (.bu (.slice ar))))),cB:=.unit,n:=0,pos:=0,box:=false,pre:=bK,f:=fun x=>(cK x).1,g:=fun x=>(cK x).2}
noncomputable def A5:FuncId→Option Spec
 | 64=>some zq
 | _=>none
theorem Jx:∀ f sp,A5 f=some sp→ah aA f sp:=by
 intro f sp h
 unfold A5 at h
 split at h
 ·cases h;exact Xp
 ·cases h
theorem Ug (W:cM) (Q:bx→Prop) (x:WG):run (env A5 (fun _=>none) false (fun _ _=>none)) (fun _ _ _=>none) (cY fQ x.1 Q) W 100000 (bF 17 Tryz.f17 (ag Tryz.f17) (fQ.dt x.2.2)) [] (H0 fQ x.1 x.2.1)=(qv x).wp Q:=by kernel_rfl
theorem lQ:aj aA 17 fQ:=aj.env rfl (fun _ _ h=>h) (az (E:=(env A5 (fun _=>none) false (fun _ _=>none))) (ps:=fQ) (valid _ _ _ _) ⟨fun f sp h=>ah.env rfl (fun _ _ h=>h) (Jx f sp h),fun f ps h=>nomatch h⟩ (by kernel_rfl) (fn:=Tryz.f17) (c:=(ag Tryz.f17)) (by kernel_rfl) (by kernel_rfl) qv Ug (fun _ h=>Tr.an h))
inductive WA where
 | h0 (v3:Int) (v5:Int) (v6:Int)
noncomputable def qt (x:OT):Tr (WA⊕fW):=
 .ret (.inl (.h0 32 (x.2.1.length:Int) 0))
noncomputable def iZ (x:OT):WA→Tr (WA⊕fW)
 | .h0 v3 v5 v6=>
 .ite (cF v6 v5) (
 .aa ((0:Int)≤v6)<|
 let y0:=x.2.1
 let y1:Nat:=y0.length
 .aa (v6 < (y1:Int))<|
 .aa ((0:Nat) < y1)<|
 .aa (((v6).toNat:Nat) < y1)<|
 .ret (.inl (.h0 (imax v3 (aK .i64 (eZ aZ y0 (v6).toNat).2.2.1 1)) v5 (aK .i64 v6 1)))) (
 let y2:=x.2.1
 let y3:Nat:=y2.length
 .aa ((y3:Nat)=y3)<|
 let y4:=x.1.2
 let y5:bk:=(x.1.1,(y4.1,((),y4.2.2)))
 let y6:=x.2.2
 let y7:=y6.2
 let y8:gQ:=(y5,(y2,(y6.1,(y7.1,(v3,y7.2)))))
 .aa (bK y8)<|
 .aa (dZ v3)<|
 let y9:=(cK y8).1
 let y10:Nat:=y9.length
 .aa ((y10:Nat)=y10)<|
 .aa (y5=x.1)<|
 .ret (.inr (y9,(fC v3))))
noncomputable def kj (x:OT):WA→Head
 | .h0 v3 v5 v6=>
 {fr:={id:=30,kind:=.top,T:=[(.ptr 0 []),(.int .u8 x.2.2.1),(.int .i64 x.2.2.2.1),(.gf ar x.2.2.2.2)]++List.replicate 4 .any++[(.ptr 2 []),(.int .i64 v3)]++List.replicate 5 .any++[(.row 1 33 x.2.1.length),(.int .i64 v5),(.int .i64 v6)]++List.replicate 17 .any,items:=[.lp (ay [1,1,0,1,0,0] (ag Tryz.f30)),.a6 0,.code (ay [1,1,1] (ag Tryz.f30))],D:=[],base:=2},
  bm:=[],
  H:=[.cell true 51 (.agg [21,1,1,1,3,3,3,3] [(.agg [1,1,1,8,8,1,1] [(.int .u8 x.1.1.1),(.int .u8 x.1.1.2.1),(.int .i64 x.1.1.2.2.1),(.agg [1,1,1,1,1,1,1,1] [(.int .u8 x.1.1.2.2.2.1.1),(.int .i64 x.1.1.2.2.2.1.2.1),(.int .i64 x.1.1.2.2.2.1.2.2.1),(.int .i64 x.1.1.2.2.2.1.2.2.2.1),(.int .i64 x.1.1.2.2.2.1.2.2.2.2.1),(.int .i64 x.1.1.2.2.2.1.2.2.2.2.2.1),(.bool x.1.1.2.2.2.1.2.2.2.2.2.2.1),(.int .i64 x.1.1.2.2.2.1.2.2.2.2.2.2.2)]),(.agg [1,1,1,1,1,1,1,1] [(.int .u8 x.1.1.2.2.2.2.1.1),(.int .i64 x.1.1.2.2.2.2.1.2.1),(.int .i64 x.1.1.2.2.2.2.1.2.2.1),(.int .i64 x.1.1.2.2.2.2.1.2.2.2.1),(.int .i64 x.1.1.2.2.2.2.1.2.2.2.2.1),(.int .i64 x.1.1.2.2.2.2.1.2.2.2.2.2.1),(.bool x.1.1.2.2.2.2.1.2.2.2.2.2.2.1),(.int .i64 x.1.1.2.2.2.2.1.2.2.2.2.2.2.2)]),(.int .u8 x.1.1.2.2.2.2.2.1),(.int .i64 x.1.1.2.2.2.2.2.2)]),(.int .i64 x.1.2.1),(.row 1 33 x.2.1.length),(.int .u64 x.1.2.2.2.1),(.agg [1,1,1] [(.bool x.1.2.2.2.2.1.1),(.int .i64 x.1.2.2.2.2.1.2.1),(.int .u64 x.1.2.2.2.2.1.2.2)]),(.agg [1,1,1] [(.bool x.1.2.2.2.2.2.1.1),(.int .i64 x.1.2.2.2.2.2.1.2.1),(.int .u64 x.1.2.2.2.2.2.1.2.2)]),(.agg [1,1,1] [(.bool x.1.2.2.2.2.2.2.1.1),(.int .i64 x.1.2.2.2.2.2.2.1.2.1),(.int .u64 x.1.2.2.2.2.2.2.1.2.2)]),(.agg [1,1,1] [(.bool x.1.2.2.2.2.2.2.2.1),(.int .i64 x.1.2.2.2.2.2.2.2.2.1),(.int .u64 x.1.2.2.2.2.2.2.2.2.2)])]),.row 38 aZ x.2.1,.cell true 36 (.agg [1,1,1] [(.bool false),(.int .i64 0),(.int .u64 0)])]}
noncomputable def Ej:FuncId→Nat→Nat→Option Cut
 | 30,0,2=>some {tmps:=[0,1,2,3,8,9,15,16,17],loops:=[],dead:=[],bm:=[]}
 | _,_,_=>none
noncomputable def ba (x:OT):fW:=gh ((([]:List bt),TC.kP ar)) (iZ x) (qt x)
def bN (x:OT):Prop:=∃ r,Ends (iZ x) r (qt x)
noncomputable def dy:aH:={t:=51,lf:=2,te:=38,ce:=aZ,st:=(.st bA (.st (.int .i64) (.st .bC (.st (.int .u64) (.st ar (.st ar (.st ar (.bu ar)))))))),arg:=(.st (.int .u8) (.st (.int .i64) (.bu (.slice ar)))),cB:=ar,n:=1,pos:=0,box:=false,pre:=bN,f:=fun x=>(ba x).1,g:=fun x=>(ba x).2}
noncomputable def rE:FuncId→Option Spec
 | 20=>some fN
 | _=>none
theorem Jp:∀ f sp,rE f=some sp→ah aA f sp:=by
 intro f sp h
 unfold rE at h
 split at h
 ·cases h;exact pj
 ·cases h
noncomputable def nk:FuncId→Option aH
 | 17=>some fQ
 | _=>none
theorem Fv:∀ f ps,nk f=some ps→aj aA f ps:=by
 intro f ps h
 unfold nk at h
 split at h
 ·cases h;exact lQ
 ·cases h
theorem T8 (W:cM) (Q:fW→Prop) (x:OT):run (env rE nk true (fun _ _=>none)) Ej (cY dy x.1 Q) W 100000 (bF 30 Tryz.f30 (ag Tryz.f30) (dy.dt x.2.2)) [] (H0 dy x.1 x.2.1)=(qt x).wp (cw W Q (kj x)):=by kernel_rfl
theorem Np (W:cM) (Q:fW→Prop) (x:OT) (v3 v5 v6:Int):run (env rE nk true (fun _ _=>none)) Ej (cY dy x.1 Q) W 100000 (kj x (.h0 v3 v5 v6)).fr.enter (kj x (.h0 v3 v5 v6)).bm (kj x (.h0 v3 v5 v6)).H=(iZ x (.h0 v3 v5 v6)).wp (cw W Q (kj x)):=by kernel_rfl
theorem PY (W:cM) (Q:fW→Prop) (x:OT):∀ j:WA,run (env rE nk true (fun _ _=>none)) Ej (cY dy x.1 Q) W 100000 (kj x j).fr.enter (kj x j).bm (kj x j).H=(iZ x j).wp (cw W Q (kj x))
 | .h0 v3 v5 v6=>Np W Q x v3 v5 v6
theorem gi:aj aA 30 dy:=aj.env rfl (fun _ _ h=>h) (xI (E:=(env rE nk true (fun _ _=>none))) (ps:=dy) (valid _ _ _ _) ⟨fun f sp h=>ah.env rfl (fun _ _ h=>h) (Jp f sp h),fun f ps h=>aj.env rfl (fun _ _ h=>h) (Fv f ps h)⟩ (by kernel_rfl) (fn:=Tryz.f30) (c:=(ag Tryz.f30)) (by kernel_rfl) (by kernel_rfl) qt iZ kj T8 PY (fun _ h=>dI h))
noncomputable def qi (x:Int):Tr Int:=
 .ite (ak x 0) (
 .ret 64) (
 .aa ((0:Int)≤58)<|
 let y0:Int:=(Rq .u64 (gz .u64 (cP .u64 x (V7 .u64 x)) 285870213051353865) 58)
 .aa ((0:Int)≤y0)<|
 .aa ((y0:Int) < 64)<|
 let y1:Nat:=(y0).toNat
 .aa ((y1:Nat) < 64)<|
 .ret (aN .i64 (eZ (.int .u8) [0,1,56,2,57,49,28,3,61,58,42,50,38,29,17,4,62,47,59,36,45,43,51,22,53,39,33,30,24,18,12,5,63,55,48,27,60,41,37,16,46,35,44,21,52,32,23,11,54,26,40,15,34,20,31,10,25,14,19,9,13,8,7,6] y1)))
noncomputable def V8 (x:Int):Int:=(qi x).val
def Lq (x:Int):Prop:=(qi x).ok
noncomputable def zm:Spec:={eX:=(.bu (.int .u64)),cB:=(.int .i64),n:=1,pre:=Lq,f:=V8}
noncomputable def Ai:FuncId→Option Spec
 | _=>none
theorem IK:∀ f sp,Ai f=some sp→ah aA f sp:=by
 intro f sp h
 unfold Ai at h
 split at h
 ·cases h
section
variable (W:cM) (Q:Int→Prop) (x:Int)
theorem Tn:run (env Ai (fun _=>none) false (fun _ _=>none)) (fun _ _ _=>none) (bE zm Q) W 100000 (bl 79 Tryz.f79 (ag Tryz.f79) (bp (.bu (.int .u64)) x)) [] []=(qi x).wp Q:=by kernel_rfl
end
theorem Xl:ah aA 79 zm:=ah.env rfl (fun _ _ h=>h) (aG (E:=(env Ai (fun _=>none) false (fun _ _=>none))) (sp:=zm) (valid _ _ _ _) ⟨fun f sp h=>ah.env rfl (fun _ _ h=>h) (IK f sp h),fun f ps h=>nomatch h⟩ (fn:=Tryz.f79) (c:=(ag Tryz.f79)) (by kernel_rfl) (by kernel_rfl) qi Tn (fun _ h=>Tr.an h))
noncomputable def qq (x:Int):Tr Int:=
 .aa (Lq x)<|
 .ret (V8 x)
noncomputable def Mq (x:Int):Int:=(qq x).val
def wF (x:Int):Prop:=(qq x).ok
noncomputable def zr:Spec:={eX:=(.bu (.int .u64)),cB:=(.int .i64),n:=1,pre:=wF,f:=Mq}
noncomputable def AX:FuncId→Option Spec
 | 79=>some zm
 | _=>none
theorem Jo:∀ f sp,AX f=some sp→ah aA f sp:=by
 intro f sp h
 unfold AX at h
 split at h
 ·cases h;exact Xl
 ·cases h
section
variable (W:cM) (Q:Int→Prop) (x:Int)
theorem T7:run (env AX (fun _=>none) false (fun _ _=>none)) (fun _ _ _=>none) (bE zr Q) W 100000 (bl 31 Tryz.f31 (ag Tryz.f31) (bp (.bu (.int .u64)) x)) [] []=(qq x).wp Q:=by kernel_rfl
end
theorem Xq:ah aA 31 zr:=ah.env rfl (fun _ _ h=>h) (aG (E:=(env AX (fun _=>none) false (fun _ _=>none))) (sp:=zr) (valid _ _ _ _) ⟨fun f sp h=>ah.env rfl (fun _ _ h=>h) (Jo f sp h),fun f ps h=>nomatch h⟩ (fn:=Tryz.f31) (c:=(ag Tryz.f31)) (by kernel_rfl) (by kernel_rfl) qq T7 (fun _ h=>Tr.an h))
noncomputable def qw (x:M9):Tr fW:=
 let y0:DO:=x.2.2
 .ite (dG y0.1 2) (
 .aa (bn 0)<|
 let y1:=x.2.1
 let y2:Nat:=y1.length
 .aa ((y2:Nat)=y2)<|
 let y3:=x.1.2
 let y4:=y3.2.2
 let y5:bk:=(x.1.1,(y3.1,((),y4)))
 .aa (y5=x.1)<|
 .ret (y1,(aP 0))) (
 let y6:=y0.2.2
 let y7:=y6.2
 let y8:=y7.2
 let y9:=y8.2
 let y10:Int:=(aN .u64 y9.1)
 .aa (bn y10)<|
 .ite y9.2.1 (
 let y11:=y6.1
 let y12:=(cj 0 y11)
 .ite y12 (
 .aa (dZ y11)<|
 .aa ((0:Nat) < 2)<|
 .aa ((1:Nat) < 2)<|
 let y13:=x.2.1
 let y14:Nat:=y13.length
 .aa ((y14:Nat)=y14)<|
 let y15:=x.1.2
 let y16:=y15.2.2
 let y17:bk:=(x.1.1,(y15.1,((),y16)))
 let y18:=(aP y10)
 let y19:=y18.2
 let y20:ed:=(y18.1,(y19.1,(aK .u64 y19.2 y16.1)))
 let y21:=(fC y11)
 let y22:gN:=(y17,(y13,(2,(8,[y20,y21]))))
 .aa (bN y22)<|
 let y23:=y7.1
 let y24:=(cj 0 y23)
 .ite y24 (
 .aa (dZ y23)<|
 let y25:=y8.1
 let y26:=(cF 1 y25)
 .ite y26 (
 let y27:Int:=(aN .u64 y25)
 .aa (wF y27)<|
 let y28:Int:=(aN .u64 (Mq y27))
 .aa (bn y28)<|
 .aa ((0:Nat) < 2)<|
 .aa ((1:Nat) < 2)<|
 let y29:=(ba y22).1
 let y30:Nat:=y29.length
 .aa ((y30:Nat)=y30)<|
 let y31:=(fC y23)
 let y32:xF:=(11,(8,[y31,(aP y28)]))
 let y33:gN:=(y17,(y29,y32))
 .aa (bN y33)<|
 .aa ((0:Nat) < 2)<|
 .aa ((1:Nat) < 2)<|
 let y34:=(ba y33).1
 let y35:Nat:=y34.length
 .aa ((y35:Nat)=y35)<|
 .aa (((0:Nat)+2:Nat)≤2)<|
 let y36:=(ba y22).2
 let y37:gN:=(y17,(y34,(2,(8,[y36,(ba y33).2]))))
 .aa (bN y37)<|
 let y38:=(ba y37).1
 let y39:Nat:=y38.length
 .aa ((y39:Nat)=y39)<|
 .aa (y17=x.1)<|
 .ret (y38,(ba y37).2)) (
 .aa ((0:Nat) < 2)<|
 .aa ((1:Nat) < 2)<|
 let y40:=(ba y22).1
 let y41:Nat:=y40.length
 .aa ((y41:Nat)=y41)<|
 .aa (((0:Nat)+2:Nat)≤2)<|
 let y42:=(ba y22).2
 let y43:=(fC y23)
 let y44:gN:=(y17,(y40,(2,(8,[y42,y43]))))
 .aa (bN y44)<|
 let y45:=(ba y44).1
 let y46:Nat:=y45.length
 .aa ((y46:Nat)=y46)<|
 .aa (y17=x.1)<|
 .ret (y45,(ba y44).2))) (
 let y47:=(ba y22).1
 let y48:Nat:=y47.length
 .aa ((y48:Nat)=y48)<|
 .aa (y17=x.1)<|
 let y49:=(ba y22).2
 .ret (y47,y49))) (
 let y50:=y7.1
 let y51:=(cj 0 y50)
 .ite y51 (
 .aa (dZ y50)<|
 let y52:=y8.1
 let y53:=(cF 1 y52)
 .ite y53 (
 let y54:Int:=(aN .u64 y52)
 .aa (wF y54)<|
 let y55:Int:=(aN .u64 (Mq y54))
 .aa (bn y55)<|
 .aa ((0:Nat) < 2)<|
 .aa ((1:Nat) < 2)<|
 let y56:=x.2.1
 let y57:Nat:=y56.length
 .aa ((y57:Nat)=y57)<|
 let y58:=x.1.2
 let y59:=y58.2.2
 let y60:bk:=(x.1.1,(y58.1,((),y59)))
 let y61:=(fC y50)
 let y62:xF:=(11,(8,[y61,(aP y55)]))
 let y63:gN:=(y60,(y56,y62))
 .aa (bN y63)<|
 .aa ((0:Nat) < 2)<|
 .aa ((1:Nat) < 2)<|
 let y64:=(ba y63).1
 let y65:Nat:=y64.length
 .aa ((y65:Nat)=y65)<|
 .aa (((0:Nat)+2:Nat)≤2)<|
 let y66:=(aP y10)
 let y67:=y66.2
 let y68:ed:=(y66.1,(y67.1,(aK .u64 y67.2 y59.1)))
 let y69:=(ba y63).2
 let y70:gN:=(y60,(y64,(2,(8,[y68,y69]))))
 .aa (bN y70)<|
 let y71:=(ba y70).1
 let y72:Nat:=y71.length
 .aa ((y72:Nat)=y72)<|
 .aa (y60=x.1)<|
 .ret (y71,(ba y70).2)) (
 .aa ((0:Nat) < 2)<|
 .aa ((1:Nat) < 2)<|
 let y73:=x.2.1
 let y74:Nat:=y73.length
 .aa ((y74:Nat)=y74)<|
 .aa (((0:Nat)+2:Nat)≤2)<|
 let y75:=x.1.2
 let y76:=y75.2.2
 let y77:bk:=(x.1.1,(y75.1,((),y76)))
 let y78:=(aP y10)
 let y79:=y78.2
 let y80:ed:=(y78.1,(y79.1,(aK .u64 y79.2 y76.1)))
 let y81:=(fC y50)
 let y82:gN:=(y77,(y73,(2,(8,[y80,y81]))))
 .aa (bN y82)<|
 let y83:=(ba y82).1
 let y84:Nat:=y83.length
 .aa ((y84:Nat)=y84)<|
 .aa (y77=x.1)<|
 .ret (y83,(ba y82).2))) (
 let y85:=x.2.1
 let y86:Nat:=y85.length
 .aa ((y86:Nat)=y86)<|
 let y87:=x.1.2
 let y88:=y87.2.2
 let y89:bk:=(x.1.1,(y87.1,((),y88)))
 .aa (y89=x.1)<|
 let y90:=(aP y10)
 let y91:=y90.2
 let y92:ed:=(y90.1,(y91.1,(aK .u64 y91.2 y88.1)))
 .ret (y85,y92)))) (
 let y93:=y6.1
 let y94:=(cj 0 y93)
 .ite y94 (
 .aa (dZ y93)<|
 .aa ((0:Nat) < 2)<|
 .aa ((1:Nat) < 2)<|
 let y95:=x.2.1
 let y96:Nat:=y95.length
 .aa ((y96:Nat)=y96)<|
 let y97:=x.1.2
 let y98:=y97.2.2
 let y99:bk:=(x.1.1,(y97.1,((),y98)))
 let y100:=(aP y10)
 let y101:=(fC y93)
 let y102:gN:=(y99,(y95,(2,(8,[y100,y101]))))
 .aa (bN y102)<|
 let y103:=y7.1
 let y104:=(cj 0 y103)
 .ite y104 (
 .aa (dZ y103)<|
 let y105:=y8.1
 let y106:=(cF 1 y105)
 .ite y106 (
 let y107:Int:=(aN .u64 y105)
 .aa (wF y107)<|
 let y108:Int:=(aN .u64 (Mq y107))
 .aa (bn y108)<|
 .aa ((0:Nat) < 2)<|
 .aa ((1:Nat) < 2)<|
 let y109:=(ba y102).1
 let y110:Nat:=y109.length
 .aa ((y110:Nat)=y110)<|
 let y111:=(fC y103)
 let y112:xF:=(11,(8,[y111,(aP y108)]))
 let y113:gN:=(y99,(y109,y112))
 .aa (bN y113)<|
 .aa ((0:Nat) < 2)<|
 .aa ((1:Nat) < 2)<|
 let y114:=(ba y113).1
 let y115:Nat:=y114.length
 .aa ((y115:Nat)=y115)<|
 .aa (((0:Nat)+2:Nat)≤2)<|
 let y116:=(ba y102).2
 let y117:gN:=(y99,(y114,(2,(8,[y116,(ba y113).2]))))
 .aa (bN y117)<|
 let y118:=(ba y117).1
 let y119:Nat:=y118.length
 .aa ((y119:Nat)=y119)<|
 .aa (y99=x.1)<|
 .ret (y118,(ba y117).2)) (
 .aa ((0:Nat) < 2)<|
 .aa ((1:Nat) < 2)<|
 let y120:=(ba y102).1
 let y121:Nat:=y120.length
 .aa ((y121:Nat)=y121)<|
 .aa (((0:Nat)+2:Nat)≤2)<|
 let y122:=(ba y102).2
 let y123:=(fC y103)
 let y124:gN:=(y99,(y120,(2,(8,[y122,y123]))))
 .aa (bN y124)<|
 let y125:=(ba y124).1
 let y126:Nat:=y125.length
 .aa ((y126:Nat)=y126)<|
 .aa (y99=x.1)<|
 .ret (y125,(ba y124).2))) (
 let y127:=(ba y102).1
 let y128:Nat:=y127.length
 .aa ((y128:Nat)=y128)<|
 .aa (y99=x.1)<|
 let y129:=(ba y102).2
 .ret (y127,y129))) (
 let y130:=y7.1
 let y131:=(cj 0 y130)
 .ite y131 (
 .aa (dZ y130)<|
 let y132:=y8.1
 let y133:=(cF 1 y132)
 .ite y133 (
 let y134:Int:=(aN .u64 y132)
 .aa (wF y134)<|
 let y135:Int:=(aN .u64 (Mq y134))
 .aa (bn y135)<|
 .aa ((0:Nat) < 2)<|
 .aa ((1:Nat) < 2)<|
 let y136:=x.2.1
 let y137:Nat:=y136.length
 .aa ((y137:Nat)=y137)<|
 let y138:=x.1.2
 let y139:=y138.2.2
 let y140:bk:=(x.1.1,(y138.1,((),y139)))
 let y141:=(fC y130)
 let y142:xF:=(11,(8,[y141,(aP y135)]))
 let y143:gN:=(y140,(y136,y142))
 .aa (bN y143)<|
 .aa ((0:Nat) < 2)<|
 .aa ((1:Nat) < 2)<|
 let y144:=(ba y143).1
 let y145:Nat:=y144.length
 .aa ((y145:Nat)=y145)<|
 .aa (((0:Nat)+2:Nat)≤2)<|
 let y146:=(aP y10)
 let y147:=(ba y143).2
 let y148:gN:=(y140,(y144,(2,(8,[y146,y147]))))
 .aa (bN y148)<|
 let y149:=(ba y148).1
 let y150:Nat:=y149.length
 .aa ((y150:Nat)=y150)<|
 .aa (y140=x.1)<|
 .ret (y149,(ba y148).2)) (
 .aa ((0:Nat) < 2)<|
 .aa ((1:Nat) < 2)<|
 let y151:=x.2.1
 let y152:Nat:=y151.length
 .aa ((y152:Nat)=y152)<|
 .aa (((0:Nat)+2:Nat)≤2)<|
 let y153:=x.1.2
 let y154:=y153.2.2
 let y155:bk:=(x.1.1,(y153.1,((),y154)))
 let y156:=(aP y10)
 let y157:=(fC y130)
 let y158:gN:=(y155,(y151,(2,(8,[y156,y157]))))
 .aa (bN y158)<|
 let y159:=(ba y158).1
 let y160:Nat:=y159.length
 .aa ((y160:Nat)=y160)<|
 .aa (y155=x.1)<|
 .ret (y159,(ba y158).2))) (
 let y161:=x.2.1
 let y162:Nat:=y161.length
 .aa ((y162:Nat)=y162)<|
 let y163:=x.1.2
 let y164:=y163.2.2
 let y165:bk:=(x.1.1,(y163.1,((),y164)))
 .aa (y165=x.1)<|
 let y166:=(aP y10)
 .ret (y161,y166)))))
noncomputable def aT (x:M9):fW:=(qw x).val
def G1 (x:M9):Prop:=(qw x).ok
noncomputable def rl:aH:={t:=51,lf:=2,te:=38,ce:=aZ,st:=(.st bA (.st (.int .i64) (.st .bC (.st (.int .u64) (.st ar (.st ar (.st ar (.bu ar)))))))),arg:=(.bu CO),cB:=ar,n:=1,pos:=0,box:=false,pre:=G1,f:=fun x=>(aT x).1,g:=fun x=>(aT x).2}
noncomputable def A7:FuncId→Option Spec
 | 11=>some dR
 | 20=>some fN
 | 31=>some zr
 | _=>none
theorem Jz:∀ f sp,A7 f=some sp→ah aA f sp:=by
 intro f sp h
 unfold A7 at h
 split at h
 ·cases h;exact jQ
 ·cases h;exact pj
 ·cases h;exact Xq
 ·cases h
noncomputable def uf:FuncId→Option aH
 | 30=>some dy
 | _=>none
theorem Fw:∀ f ps,uf f=some ps→aj aA f ps:=by
 intro f ps h
 unfold uf at h
 split at h
 ·cases h;exact gi
 ·cases h
theorem Ui (W:cM) (Q:fW→Prop) (x:M9):run (env A7 uf true (fun _ _=>none)) (fun _ _ _=>none) (cY rl x.1 Q) W 100000 (bF 15 Tryz.f15 (ag Tryz.f15) (rl.dt x.2.2)) [] (H0 rl x.1 x.2.1)=(qw x).wp Q:=by kernel_rfl
theorem VE:aj aA 15 rl:=aj.env rfl (fun _ _ h=>h) (az (E:=(env A7 uf true (fun _ _=>none))) (ps:=rl) (valid _ _ _ _) ⟨fun f sp h=>ah.env rfl (fun _ _ h=>h) (Jz f sp h),fun f ps h=>aj.env rfl (fun _ _ h=>h) (Fw f ps h)⟩ (by kernel_rfl) (fn:=Tryz.f15) (c:=(ag Tryz.f15)) (by kernel_rfl) (by kernel_rfl) qw Ui (fun _ h=>Tr.an h))
noncomputable def u9 (x:WE):Tr bx:=
 let y0:(DO×(aF×(Int×aF))):=x.2.2
 let y1:DO:=y0.1
 .ite (ak y1.1 2) (
 .aa ((0:Nat) < 2)<|
 .aa ((1:Nat) < 2)<|
 let y2:=x.2.1
 let y3:Nat:=y2.length
 .aa ((y3:Nat)=y3)<|
 .aa (((0:Nat)+2:Nat)≤2)<|
 let y4:=x.1.2
 let y5:bk:=(x.1.1,(y4.1,((),y4.2.2)))
 let y6:=y0.2
 let y7:=y6.2
 let y8:=y7.1
 let y9:=y7.2
 let y10:gQ:=(y5,(y2,(28,(y8,(0,[y6.1,y9])))))
 .aa (bK y10)<|
 let y11:=(cK y10).1
 let y12:Nat:=y11.length
 .aa ((y12:Nat)=y12)<|
 .aa (y5=x.1)<|
 .ret (y11,())) (
 let y13:=y0.2
 let y14:=y13.2
 let y15:=y14.1
 .ite (ak y15 1) (
 let y16:=y1.2.1
 .aa (dZ y16)<|
 .aa (bn 18446744073709551360)<|
 .aa ((0:Nat) < 2)<|
 .aa ((1:Nat) < 2)<|
 let y17:=x.2.1
 let y18:Nat:=y17.length
 .aa ((y18:Nat)=y18)<|
 .aa (((0:Nat)+2:Nat)≤2)<|
 let y19:=x.1.2
 let y20:bk:=(x.1.1,(y19.1,((),y19.2.2)))
 let y21:gN:=(y20,(y17,(8,(8,[(fC y16),(aP 18446744073709551360)]))))
 .aa (bN y21)<|
 .aa ((0:Nat) < 1)<|
 let y22:=(ba y21).1
 let y23:Nat:=y22.length
 .aa ((y23:Nat)=y23)<|
 let y24:=y14.2
 let y25:(List aF):=[y24]
 let y26:gN:=(y20,(y22,(1,(1,y25))))
 .aa (bN y26)<|
 .aa ((0:Nat) < 2)<|
 .aa ((1:Nat) < 2)<|
 let y27:=(ba y26).1
 let y28:Nat:=y27.length
 .aa ((y28:Nat)=y28)<|
 let y29:gQ:=(y20,(y27,(9,(8,(y16,[(ba y21).2,(ba y26).2])))))
 .aa (bK y29)<|
 let y30:=(cK y29).1
 let y31:Nat:=y30.length
 .aa ((y31:Nat)=y31)<|
 .aa (y20=x.1)<|
 .ret (y30,())) (
 .aa ((0:Nat) < 1)<|
 let y32:=x.2.1
 let y33:Nat:=y32.length
 .aa ((y33:Nat)=y33)<|
 .aa (((0:Nat)+1:Nat)≤1)<|
 let y34:=x.1.2
 let y35:bk:=(x.1.1,(y34.1,((),y34.2.2)))
 let y36:=y1.2.1
 let y37:=y14.2
 let y38:(List aF):=[y37]
 let y39:gQ:=(y35,(y32,(1,(y15,(y36,y38)))))
 .aa (bK y39)<|
 let y40:=(cK y39).1
 let y41:Nat:=y40.length
 .aa ((y41:Nat)=y41)<|
 .aa (y35=x.1)<|
 .ret (y40,())))
noncomputable def N5 (x:WE):bx:=(u9 x).val
def Ll (x:WE):Prop:=(u9 x).ok
noncomputable def oo:aH:={t:=51,lf:=2,te:=38,ce:=aZ,st:=(.st bA (.st (.int .i64) (.st .bC (.st (.int .u64) (.st ar (.st ar (.st ar (.bu ar)))))))),arg:=(.st CO (.st ar (.st (.int .i64) (.bu ar)))),cB:=.unit,n:=0,pos:=0,box:=false,pre:=Ll,f:=fun x=>(N5 x).1,g:=fun x=>(N5 x).2}
noncomputable def zZ:FuncId→Option Spec
 | 11=>some dR
 | 20=>some fN
 | _=>none
theorem Iv:∀ f sp,zZ f=some sp→ah aA f sp:=by
 intro f sp h
 unfold zZ at h
 split at h
 ·cases h;exact jQ
 ·cases h;exact pj
 ·cases h
noncomputable def ti:FuncId→Option aH
 | 17=>some fQ
 | 30=>some dy
 | _=>none
theorem EL:∀ f ps,ti f=some ps→aj aA f ps:=by
 intro f ps h
 unfold ti at h
 split at h
 ·cases h;exact lQ
 ·cases h;exact gi
 ·cases h
theorem S9 (W:cM) (Q:bx→Prop) (x:WE):run (env zZ ti true (fun _ _=>none)) (fun _ _ _=>none) (cY oo x.1 Q) W 100000 (bF 93 Tryz.f93 (ag Tryz.f93) (oo.dt x.2.2)) [] (H0 oo x.1 x.2.1)=(u9 x).wp Q:=by kernel_rfl
theorem Pu:aj aA 93 oo:=aj.env rfl (fun _ _ h=>h) (az (E:=(env zZ ti true (fun _ _=>none))) (ps:=oo) (valid _ _ _ _) ⟨fun f sp h=>ah.env rfl (fun _ _ h=>h) (Iv f sp h),fun f ps h=>aj.env rfl (fun _ _ h=>h) (EL f ps h)⟩ (by kernel_rfl) (fn:=Tryz.f93) (c:=(ag Tryz.f93)) (by kernel_rfl) (by kernel_rfl) u9 S9 (fun _ h=>Tr.an h))
noncomputable def vm (x:kF):Tr bx:=
 let y0:aq:=x.2.1
 let y1:Nat:=y0.length
 .aa ((y1:Nat)=y1)<|
 let y2:DI:=x.1.1
 let y3:ew:=x.1.2
 let y4:Int:=y3.1
 let y5:nG:=y3.2.2
 let y6:bk:=(y2,(y4,((),y5)))
 let y7:XU:=(y6,(y0,(y2.2.2.2.1,(y5.2.1,(y4,x.2.2)))))
 .aa (Ll y7)<|
 let y8:aq:=(N5 y7).1
 let y9:Nat:=y8.length
 .aa ((y9:Nat)=y9)<|
 .aa (y6=x.1)<|
 .ret (y8,())
noncomputable def jC (x:kF):bx:=(vm x).val
def ji (x:kF):Prop:=(vm x).ok
noncomputable def fP:aH:={t:=51,lf:=2,te:=38,ce:=aZ,st:=(.st bA (.st (.int .i64) (.st .bC (.st (.int .u64) (.st ar (.st ar (.st ar (.bu ar)))))))),arg:=(.bu ar),cB:=.unit,n:=0,pos:=0,box:=false,pre:=ji,f:=fun x=>(jC x).1,g:=fun x=>(jC x).2}
noncomputable def Ah:FuncId→Option Spec
 | _=>none
theorem IJ:∀ f sp,Ah f=some sp→ah aA f sp:=by
 intro f sp h
 unfold Ah at h
 split at h
 ·cases h
noncomputable def tC:FuncId→Option aH
 | 93=>some oo
 | _=>none
theorem EZ:∀ f ps,tC f=some ps→aj aA f ps:=by
 intro f ps h
 unfold tC at h
 split at h
 ·cases h;exact Pu
 ·cases h
theorem Tm (W:cM) (Q:bx→Prop) (x:kF):run (env Ah tC true (fun _ _=>none)) (fun _ _ _=>none) (cY fP x.1 Q) W 100000 (bF 80 Tryz.f80 (ag Tryz.f80) (fP.dt x.2.2)) [] (H0 fP x.1 x.2.1)=(vm x).wp Q:=by kernel_rfl
theorem lP:aj aA 80 fP:=aj.env rfl (fun _ _ h=>h) (az (E:=(env Ah tC true (fun _ _=>none))) (ps:=fP) (valid _ _ _ _) ⟨fun f sp h=>ah.env rfl (fun _ _ h=>h) (IJ f sp h),fun f ps h=>aj.env rfl (fun _ _ h=>h) (EZ f ps h)⟩ (by kernel_rfl) (fn:=Tryz.f80) (c:=(ag Tryz.f80)) (by kernel_rfl) (by kernel_rfl) vm Tm (fun _ h=>Tr.an h))
noncomputable def sL (x:Int):Tr Int:=
 .ret (JK (imax x 1) 8)
noncomputable def yA (x:Int):Int:=(sL x).val
def EH (x:Int):Prop:=(sL x).ok
noncomputable def s4:Spec:={eX:=(.bu (.int .i64)),cB:=(.int .i64),n:=1,pre:=EH,f:=yA}
noncomputable def uM:FuncId→Option Spec
 | _=>none
theorem F5:∀ f sp,uM f=some sp→ah aA f sp:=by
 intro f sp h
 unfold uM at h
 split at h
 ·cases h
section
variable (W:cM) (Q:Int→Prop) (x:Int)
theorem QB:run (env uM (fun _=>none) false (fun _ _=>none)) (fun _ _ _=>none) (bE s4 Q) W 100000 (bl 106 Tryz.f106 (ag Tryz.f106) (bp (.bu (.int .i64)) x)) [] []=(sL x).wp Q:=by kernel_rfl
end
theorem VX:ah aA 106 s4:=ah.env rfl (fun _ _ h=>h) (aG (E:=(env uM (fun _=>none) false (fun _ _=>none))) (sp:=s4) (valid _ _ _ _) ⟨fun f sp h=>ah.env rfl (fun _ _ h=>h) (F5 f sp h),fun f ps h=>nomatch h⟩ (fn:=Tryz.f106) (c:=(ag Tryz.f106)) (by kernel_rfl) (by kernel_rfl) sL QB (fun _ h=>Tr.an h))
noncomputable def qh (x:Int):Tr Int:=
 .aa (EH x)<|
 .aa ((0:Int)≤(yA x))<|
 .aa (((yA x):Int) < 9)<|
 let y0:Nat:=((yA x)).toNat
 .aa ((y0:Nat) < 9)<|
 .ret (eZ (.int .u64) CR y0)
noncomputable def Ry (x:Int):Int:=(qh x).val
def GX (x:Int):Prop:=(qh x).ok
noncomputable def wg:Spec:={eX:=(.bu (.int .i64)),cB:=(.int .u64),n:=1,pre:=GX,f:=Ry}
noncomputable def Ab:FuncId→Option Spec
 | 106=>some s4
 | _=>none
theorem IC:∀ f sp,Ab f=some sp→ah aA f sp:=by
 intro f sp h
 unfold Ab at h
 split at h
 ·cases h;exact VX
 ·cases h
section
variable (W:cM) (Q:Int→Prop) (x:Int)
theorem Tg:run (env Ab (fun _=>none) false (fun _ _=>none)) (fun _ _ _=>none) (bE wg Q) W 100000 (bl 86 Tryz.f86 (ag Tryz.f86) (bp (.bu (.int .i64)) x)) [] []=(qh x).wp Q:=by kernel_rfl
end
theorem VG:ah aA 86 wg:=ah.env rfl (fun _ _ h=>h) (aG (E:=(env Ab (fun _=>none) false (fun _ _=>none))) (sp:=wg) (valid _ _ _ _) ⟨fun f sp h=>ah.env rfl (fun _ _ h=>h) (IC f sp h),fun f ps h=>nomatch h⟩ (fn:=Tryz.f86) (c:=(ag Tryz.f86)) (by kernel_rfl) (by kernel_rfl) qh Tg (fun _ h=>Tr.an h))
noncomputable def m4 (x:bM):Tr Int:=
 .aa (GX x.2)<|
 .ret (cP .u64 x.1 (Ry x.2))
noncomputable def PI (x:bM):Int:=(m4 x).val
def EI (x:bM):Prop:=(m4 x).ok
noncomputable def s5:Spec:={eX:=(.st (.int .u64) (.bu (.int .i64))),cB:=(.int .u64),n:=1,pre:=EI,f:=PI}
noncomputable def uN:FuncId→Option Spec
 | 86=>some wg
 | _=>none
theorem F6:∀ f sp,uN f=some sp→ah aA f sp:=by
 intro f sp h
 unfold uN at h
 split at h
 ·cases h;exact VG
 ·cases h
section
variable (W:cM) (Q:Int→Prop) (x:bM)
theorem QC:run (env uN (fun _=>none) false (fun _ _=>none)) (fun _ _ _=>none) (bE s5 Q) W 100000 (bl 105 Tryz.f105 (ag Tryz.f105) (bp (.st (.int .u64) (.bu (.int .i64))) x)) [] []=(m4 x).wp Q:=by kernel_rfl
end
theorem VY:ah aA 105 s5:=ah.env rfl (fun _ _ h=>h) (aG (E:=(env uN (fun _=>none) false (fun _ _=>none))) (sp:=s5) (valid _ _ _ _) ⟨fun f sp h=>ah.env rfl (fun _ _ h=>h) (F6 f sp h),fun f ps h=>nomatch h⟩ (fn:=Tryz.f105) (c:=(ag Tryz.f105)) (by kernel_rfl) (by kernel_rfl) m4 QC (fun _ h=>Tr.an h))
noncomputable def vl (x:Nd):Tr fW:=
 let y0:(DO×(aF×Int)):=x.2.2
 let y1:DO:=y0.1
 let y2:Int:=y1.1
 .ite (ak y2 1) (
 let y3:=y1.2
 let y4:=y3.1
 .aa (dZ y4)<|
 let y5:=x.2.1
 let y6:Nat:=y5.length
 .aa ((y6:Nat)=y6)<|
 let y7:=x.1.2
 let y8:bk:=(x.1.1,(y7.1,((),y7.2.2)))
 .aa (y8=x.1)<|
 .ret (y5,(fC y4))) (
 .ite (ak y2 2) (
 .aa ((0:Nat) < 1)<|
 let y9:=x.2.1
 let y10:Nat:=y9.length
 .aa ((y10:Nat)=y10)<|
 .aa (((0:Nat)+1:Nat)≤1)<|
 let y11:=x.1.2
 let y12:bk:=(x.1.1,(y11.1,((),y11.2.2)))
 let y13:=y0.2
 let y14:=y13.2
 let y15:gN:=(y12,(y9,(27,(y14,[y13.1]))))
 .aa (bN y15)<|
 let y16:=(ba y15).1
 let y17:Nat:=y16.length
 .aa ((y17:Nat)=y17)<|
 .aa (y12=x.1)<|
 .ret (y16,(ba y15).2)) (
 let y18:=y1.2
 let y19:=y0.2
 let y20:=y19.2
 let y21:bM:=((aN .u64 y18.2.2.2.2.2.2),y20)
 .aa (EI y21)<|
 let y22:=(PI y21)
 .aa (bn y22)<|
 let y23:=x.2.1
 let y24:Nat:=y23.length
 .aa ((y24:Nat)=y24)<|
 let y25:=x.1.2
 let y26:bk:=(x.1.1,(y25.1,((),y25.2.2)))
 .aa (y26=x.1)<|
 .ret (y23,(aP y22))))
noncomputable def fy (x:Nd):fW:=(vl x).val
def jh (x:Nd):Prop:=(vl x).ok
noncomputable def fx:aH:={t:=51,lf:=2,te:=38,ce:=aZ,st:=(.st bA (.st (.int .i64) (.st .bC (.st (.int .u64) (.st ar (.st ar (.st ar (.bu ar)))))))),arg:=(.st CO (.st ar (.bu (.int .i64)))),cB:=ar,n:=1,pos:=0,box:=false,pre:=jh,f:=fun x=>(fy x).1,g:=fun x=>(fy x).2}
noncomputable def Ag:FuncId→Option Spec
 | 11=>some dR
 | 20=>some fN
 | 105=>some s5
 | _=>none
theorem IH:∀ f sp,Ag f=some sp→ah aA f sp:=by
 intro f sp h
 unfold Ag at h
 split at h
 ·cases h;exact jQ
 ·cases h;exact pj
 ·cases h;exact VY
 ·cases h
noncomputable def tz:FuncId→Option aH
 | 30=>some dy
 | _=>none
theorem EY:∀ f ps,tz f=some ps→aj aA f ps:=by
 intro f ps h
 unfold tz at h
 split at h
 ·cases h;exact gi
 ·cases h
theorem Tl (W:cM) (Q:fW→Prop) (x:Nd):run (env Ag tz true (fun _ _=>none)) (fun _ _ _=>none) (cY fx x.1 Q) W 100000 (bF 81 Tryz.f81 (ag Tryz.f81) (fx.dt x.2.2)) [] (H0 fx x.1 x.2.1)=(vl x).wp Q:=by kernel_rfl
theorem kI:aj aA 81 fx:=aj.env rfl (fun _ _ h=>h) (az (E:=(env Ag tz true (fun _ _=>none))) (ps:=fx) (valid _ _ _ _) ⟨fun f sp h=>ah.env rfl (fun _ _ h=>h) (IH f sp h),fun f ps h=>aj.env rfl (fun _ _ h=>h) (EY f ps h)⟩ (by kernel_rfl) (fn:=Tryz.f81) (c:=(ag Tryz.f81)) (by kernel_rfl) (by kernel_rfl) vl Tl (fun _ h=>Tr.an h))
noncomputable def vW (x:br):Tr bx:=
 let y0:aq:=x.2.1
 let y1:Nat:=y0.length
 .aa ((y1:Nat)=y1)<|
 let y2:DI:=x.1.1
 let y3:ew:=x.1.2
 let y4:Int:=y3.1
 let y5:nG:=y3.2.2
 let y6:bk:=(y2,(y4,((),y5)))
 let y7:nX:=(y6,(y0,(y2.2.2.2.2.1,(y5.2.2.1,y4))))
 .aa (jh y7)<|
 let y8:aq:=(fy y7).1
 let y9:Nat:=y8.length
 .aa ((y9:Nat)=y9)<|
 let y10:fM:=(y6,(y8,(fy y7).2))
 .aa (ji y10)<|
 let y11:aq:=(jC y10).1
 let y12:Nat:=y11.length
 .aa ((y12:Nat)=y12)<|
 .aa (y6=x.1)<|
 .ret (y11,())
noncomputable def R3 (x:br):bx:=(vW x).val
def Pq (x:br):Prop:=(vW x).ok
noncomputable def rk:aH:={t:=51,lf:=2,te:=38,ce:=aZ,st:=(.st bA (.st (.int .i64) (.st .bC (.st (.int .u64) (.st ar (.st ar (.st ar (.bu ar)))))))),arg:=.unit,cB:=.unit,n:=0,pos:=0,box:=false,pre:=Pq,f:=fun x=>(R3 x).1,g:=fun x=>(R3 x).2}
noncomputable def AW:FuncId→Option Spec
 | _=>none
theorem Jn:∀ f sp,AW f=some sp→ah aA f sp:=by
 intro f sp h
 unfold AW at h
 split at h
 ·cases h
noncomputable def ue:FuncId→Option aH
 | 80=>some fP
 | 81=>some fx
 | _=>none
theorem Fu:∀ f ps,ue f=some ps→aj aA f ps:=by
 intro f ps h
 unfold ue at h
 split at h
 ·cases h;exact lP
 ·cases h;exact kI
 ·cases h
theorem T6 (W:cM) (Q:bx→Prop) (x:br):run (env AW ue true (fun _ _=>none)) (fun _ _ _=>none) (cY rk x.1 Q) W 100000 (bF 32 Tryz.f32 (ag Tryz.f32) (rk.dt x.2.2)) [] (H0 rk x.1 x.2.1)=(vW x).wp Q:=by kernel_rfl
theorem VD:aj aA 32 rk:=aj.env rfl (fun _ _ h=>h) (az (E:=(env AW ue true (fun _ _=>none))) (ps:=rk) (valid _ _ _ _) ⟨fun f sp h=>ah.env rfl (fun _ _ h=>h) (Jn f sp h),fun f ps h=>aj.env rfl (fun _ _ h=>h) (Fu f ps h)⟩ (by kernel_rfl) (fn:=Tryz.f32) (c:=(ag Tryz.f32)) (by kernel_rfl) (by kernel_rfl) vW T6 (fun _ h=>Tr.an h))
noncomputable def vV (x:br):Tr bx:=
 let y0:aq:=x.2.1
 let y1:Nat:=y0.length
 .aa ((y1:Nat)=y1)<|
 let y2:ew:=x.1.2
 let y3:nG:=y2.2.2
 let y4:bk:=(x.1.1,(y2.1,((),y3)))
 let y5:fM:=(y4,(y0,y3.2.2.1))
 .aa (ji y5)<|
 let y6:aq:=(jC y5).1
 let y7:Nat:=y6.length
 .aa ((y7:Nat)=y7)<|
 .aa (y4=x.1)<|
 .ret (y6,())
noncomputable def R2 (x:br):bx:=(vV x).val
def Pp (x:br):Prop:=(vV x).ok
noncomputable def rj:aH:={t:=51,lf:=2,te:=38,ce:=aZ,st:=(.st bA (.st (.int .i64) (.st .bC (.st (.int .u64) (.st ar (.st ar (.st ar (.bu ar)))))))),arg:=.unit,cB:=.unit,n:=0,pos:=0,box:=false,pre:=Pp,f:=fun x=>(R2 x).1,g:=fun x=>(R2 x).2}
noncomputable def AU:FuncId→Option Spec
 | _=>none
theorem Jm:∀ f sp,AU f=some sp→ah aA f sp:=by
 intro f sp h
 unfold AU at h
 split at h
 ·cases h
noncomputable def ud:FuncId→Option aH
 | 80=>some fP
 | _=>none
theorem Ft:∀ f ps,ud f=some ps→aj aA f ps:=by
 intro f ps h
 unfold ud at h
 split at h
 ·cases h;exact lP
 ·cases h
theorem T5 (W:cM) (Q:bx→Prop) (x:br):run (env AU ud true (fun _ _=>none)) (fun _ _ _=>none) (cY rj x.1 Q) W 100000 (bF 33 Tryz.f33 (ag Tryz.f33) (rj.dt x.2.2)) [] (H0 rj x.1 x.2.1)=(vV x).wp Q:=by kernel_rfl
theorem VC:aj aA 33 rj:=aj.env rfl (fun _ _ h=>h) (az (E:=(env AU ud true (fun _ _=>none))) (ps:=rj) (valid _ _ _ _) ⟨fun f sp h=>ah.env rfl (fun _ _ h=>h) (Jm f sp h),fun f ps h=>aj.env rfl (fun _ _ h=>h) (Ft f ps h)⟩ (by kernel_rfl) (fn:=Tryz.f33) (c:=(ag Tryz.f33)) (by kernel_rfl) (by kernel_rfl) vV T5 (fun _ h=>Tr.an h))
end Go.bz.RL
end
