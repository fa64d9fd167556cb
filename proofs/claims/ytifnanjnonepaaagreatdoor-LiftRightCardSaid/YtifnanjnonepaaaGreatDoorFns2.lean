/- A part of the proof that the laws of this seat hold. Conditions: none beyond the row. -/
import Derived.Test.YtifnanjnonepaaaGreatDoorFns1
set_option maxRecDepth 100000
set_option linter.unusedVariables false
set_option linter.unusedSimpArgs false
set_option linter.unusedSectionVars false
section
namespace Go.bM.RL
open Go.Proofs Go.bM
noncomputable def FC (x:dH):Tr ew:=
 let y0:eH:=x.1.2.2
 let y1:eo:=y0.2
 let y2:eE:=y1.2
 let y3:Int:=(aU .u64 x.2 (aO .u64 y2.2.2))
 let y4:Int:=y0.1
 let y5:dN:=(false,(0,0))
 let y6:aD:=(aN y3)
 let y7:cW:=(y6,(aN 1))
 let y8:ep:=(y5,y7)
 let y9:DO:=y1.1
 let y10:kd:=((x.1,(y4,((),(y3,(y5,y8))))),(([]:List bq),y9))
 let y11:an:=(aS y10).1
 let y13:aD:=(aS y10).2
 let y14:DO:=y2.1
 let y15:eF:=((x.1,(y4,((),(y3,(y13,y8))))),(y11,y14))
 let y17:an:=(aS y15).1
 let y18:Nat:=y17.length
 .aa ((y18:Nat)=y18)<|
 let y19:aD:=(aS y15).2
 let y20:bl:=(x.1,(y4,((),(y3,(y13,(y19,y7))))))
 let y21:dX:=(y20,(y17,()))
 .aa (MZ y21)<|
 .aa (bm y3)<|
 .aa ((0:Nat) < 3)<|
 .aa ((1:Nat) < 3)<|
 .aa ((2:Nat) < 3)<|
 let y22:an:=(Pu y21).1
 let y23:Nat:=y22.length
 .aa ((y23:Nat)=y23)<|
 .aa (((0:Nat)+3:Nat)≤3)<|
 let y24:eU:=(30,(8,(0,[y6,y6,(aN 1)])))
 let y25:gj:=(y20,(y22,y24))
 .aa (bI y25)<|
 let y26:an:=(cD y25).1
 let y27:Nat:=y26.length
 .aa ((y27:Nat)=y27)<|
 .ret (y26,0)
noncomputable def FB (x:dH):Tr ew:=
 let y0:eH:=x.1.2.2
 let y1:eo:=y0.2
 let y2:eE:=y1.2
 let y3:Int:=(aU .u64 x.2 (aO .u64 y2.2.2))
 let y4:Int:=y0.1
 let y5:dN:=(false,(0,0))
 let y6:aD:=(aN y3)
 let y7:cW:=(y6,(aN 1))
 let y8:ep:=(y5,y7)
 let y9:DO:=y1.1
 let y10:kd:=((x.1,(y4,((),(y3,(y5,y8))))),(([]:List bq),y9))
 let y11:an:=(aS y10).1
 let y13:aD:=(aS y10).2
 let y14:DO:=y2.1
 let y15:eF:=((x.1,(y4,((),(y3,(y13,y8))))),(y11,y14))
 let y28:an:=(aS y15).1
 let y29:Nat:=y28.length
 .aa ((y29:Nat)=y29)<|
 let y30:aD:=(aS y15).2
 let y31:bl:=(x.1,(y4,((),(y3,(y13,(y30,y7))))))
 let y32:dX:=(y31,(y28,()))
 .aa (MY y32)<|
 .aa (bm y3)<|
 .aa ((0:Nat) < 3)<|
 .aa ((1:Nat) < 3)<|
 .aa ((2:Nat) < 3)<|
 let y33:an:=(Pt y32).1
 let y34:Nat:=y33.length
 .aa ((y34:Nat)=y34)<|
 .aa (((0:Nat)+3:Nat)≤3)<|
 let y35:eU:=(30,(8,(0,[y6,y6,(aN 1)])))
 let y36:gj:=(y31,(y33,y35))
 .aa (bI y36)<|
 let y37:an:=(cD y36).1
 let y38:Nat:=y37.length
 .aa ((y38:Nat)=y38)<|
 .ret (y37,0)
noncomputable def FA (x:dH):Tr ew:=
 let y0:eH:=x.1.2.2
 let y1:eo:=y0.2
 let y2:eE:=y1.2
 let y3:Int:=(aU .u64 x.2 (aO .u64 y2.2.2))
 let y4:Int:=y0.1
 let y5:dN:=(false,(0,0))
 let y6:aD:=(aN y3)
 let y7:cW:=(y6,(aN 1))
 let y8:ep:=(y5,y7)
 let y9:DO:=y1.1
 let y10:kd:=((x.1,(y4,((),(y3,(y5,y8))))),(([]:List bq),y9))
 let y11:an:=(aS y10).1
 let y13:aD:=(aS y10).2
 let y14:DO:=y2.1
 let y15:eF:=((x.1,(y4,((),(y3,(y13,y8))))),(y11,y14))
 let y39:an:=(aS y15).1
 let y40:Nat:=y39.length
 .aa ((y40:Nat)=y40)<|
 let y41:aD:=(aS y15).2
 let y42:bl:=(x.1,(y4,((),(y3,(y13,(y41,y7))))))
 let y43:dX:=(y42,(y39,()))
 .aa (MX y43)<|
 .aa (bm y3)<|
 .aa ((0:Nat) < 3)<|
 .aa ((1:Nat) < 3)<|
 .aa ((2:Nat) < 3)<|
 let y44:an:=(Ps y43).1
 let y45:Nat:=y44.length
 .aa ((y45:Nat)=y45)<|
 .aa (((0:Nat)+3:Nat)≤3)<|
 let y46:eU:=(30,(8,(0,[y6,y6,(aN 1)])))
 let y47:gj:=(y42,(y44,y46))
 .aa (bI y47)<|
 let y48:an:=(cD y47).1
 let y49:Nat:=y48.length
 .aa ((y49:Nat)=y49)<|
 .ret (y48,0)
noncomputable def Fy (x:dH):Tr ew:=
 let y0:eH:=x.1.2.2
 let y1:eo:=y0.2
 let y2:eE:=y1.2
 let y3:Int:=(aU .u64 x.2 (aO .u64 y2.2.2))
 let y4:Int:=y0.1
 let y5:dN:=(false,(0,0))
 let y6:aD:=(aN y3)
 let y7:cW:=(y6,(aN 1))
 let y8:ep:=(y5,y7)
 let y9:DO:=y1.1
 let y10:kd:=((x.1,(y4,((),(y3,(y5,y8))))),(([]:List bq),y9))
 let y11:an:=(aS y10).1
 let y13:aD:=(aS y10).2
 let y14:DO:=y2.1
 let y15:eF:=((x.1,(y4,((),(y3,(y13,y8))))),(y11,y14))
 let y50:an:=(aS y15).1
 let y51:Nat:=y50.length
 .aa ((y51:Nat)=y51)<|
 let y52:aD:=(aS y15).2
 let y53:bl:=(x.1,(y4,((),(y3,(y13,(y52,y7))))))
 let y54:dX:=(y53,(y50,()))
 .aa (MW y54)<|
 .aa (bm y3)<|
 .aa ((0:Nat) < 3)<|
 .aa ((1:Nat) < 3)<|
 .aa ((2:Nat) < 3)<|
 let y55:an:=(Pq y54).1
 let y56:Nat:=y55.length
 .aa ((y56:Nat)=y56)<|
 .aa (((0:Nat)+3:Nat)≤3)<|
 let y57:eU:=(30,(8,(0,[y6,y6,(aN 1)])))
 let y58:gj:=(y53,(y55,y57))
 .aa (bI y58)<|
 let y59:an:=(cD y58).1
 let y60:Nat:=y59.length
 .aa ((y60:Nat)=y60)<|
 .ret (y59,0)
noncomputable def Fv (x:dH):Tr ew:=
 let y0:eH:=x.1.2.2
 let y1:eo:=y0.2
 let y2:eE:=y1.2
 let y3:Int:=(aU .u64 x.2 (aO .u64 y2.2.2))
 let y4:Int:=y0.1
 let y5:dN:=(false,(0,0))
 let y6:aD:=(aN y3)
 let y7:cW:=(y6,(aN 1))
 let y8:ep:=(y5,y7)
 let y9:DO:=y1.1
 let y10:kd:=((x.1,(y4,((),(y3,(y5,y8))))),(([]:List bq),y9))
 let y11:an:=(aS y10).1
 let y13:aD:=(aS y10).2
 let y14:DO:=y2.1
 let y15:eF:=((x.1,(y4,((),(y3,(y13,y8))))),(y11,y14))
 let y61:an:=(aS y15).1
 let y62:Nat:=y61.length
 .aa ((y62:Nat)=y62)<|
 let y63:aD:=(aS y15).2
 let y64:bl:=(x.1,(y4,((),(y3,(y13,(y63,y7))))))
 let y65:dX:=(y64,(y61,()))
 .aa (Jt y65)<|
 .aa (bm y3)<|
 .aa ((0:Nat) < 3)<|
 .aa ((1:Nat) < 3)<|
 .aa ((2:Nat) < 3)<|
 let y66:an:=(LS y65).1
 let y67:Nat:=y66.length
 .aa ((y67:Nat)=y67)<|
 .aa (((0:Nat)+3:Nat)≤3)<|
 let y68:eU:=(30,(8,(0,[y6,y6,(aN 1)])))
 let y69:gj:=(y64,(y66,y68))
 .aa (bI y69)<|
 let y70:an:=(cD y69).1
 let y71:Nat:=y70.length
 .aa ((y71:Nat)=y71)<|
 let y72:nC:=(y70,0)
 .ret y72
noncomputable def Fx (x:dH):Tr ew:=
 let y0:eH:=x.1.2.2
 let y1:eo:=y0.2
 let y2:eE:=y1.2
 let y3:Int:=(aU .u64 x.2 (aO .u64 y2.2.2))
 let y4:Int:=y0.1
 let y5:dN:=(false,(0,0))
 let y6:aD:=(aN y3)
 let y7:cW:=(y6,(aN 1))
 let y8:ep:=(y5,y7)
 let y9:DO:=y1.1
 let y10:kd:=((x.1,(y4,((),(y3,(y5,y8))))),(([]:List bq),y9))
 let y11:an:=(aS y10).1
 let y13:aD:=(aS y10).2
 let y14:DO:=y2.1
 let y15:eF:=((x.1,(y4,((),(y3,(y13,y8))))),(y11,y14))
 let y73:an:=(aS y15).1
 let y74:Nat:=y73.length
 .aa ((y74:Nat)=y74)<|
 let y75:aD:=(aS y15).2
 let y76:bl:=(x.1,(y4,((),(y3,(y13,(y75,y7))))))
 let y77:dX:=(y76,(y73,()))
 .aa (MV y77)<|
 .aa (bm y3)<|
 .aa ((0:Nat) < 3)<|
 .aa ((1:Nat) < 3)<|
 .aa ((2:Nat) < 3)<|
 let y78:an:=(Pp y77).1
 let y79:Nat:=y78.length
 .aa ((y79:Nat)=y79)<|
 .aa (((0:Nat)+3:Nat)≤3)<|
 let y80:eU:=(30,(8,(0,[y6,y6,(aN 1)])))
 let y81:gj:=(y76,(y78,y80))
 .aa (bI y81)<|
 let y82:an:=(cD y81).1
 let y83:Nat:=y82.length
 .aa ((y83:Nat)=y83)<|
 .ret (y82,0)
noncomputable def BF (x:dH):Tr ew:=
 let y0:eH:=x.1.2.2
 let y1:eo:=y0.2
 let y2:eE:=y1.2
 let y3:Int:=(aU .u64 x.2 (aO .u64 y2.2.2))
 let y4:Int:=y0.1
 let y5:dN:=(false,(0,0))
 let y6:aD:=(aN y3)
 let y7:cW:=(y6,(aN 1))
 let y8:ep:=(y5,y7)
 let y9:DO:=y1.1
 let y10:kd:=((x.1,(y4,((),(y3,(y5,y8))))),(([]:List bq),y9))
 let y11:an:=(aS y10).1
 let y13:aD:=(aS y10).2
 let y14:DO:=y2.1
 let y15:eF:=((x.1,(y4,((),(y3,(y13,y8))))),(y11,y14))
 let y84:an:=(aS y15).1
 let y85:Nat:=y84.length
 .aa ((y85:Nat)=y85)<|
 let y86:aD:=(aS y15).2
 let y87:bl:=(x.1,(y4,((),(y3,(y13,(y86,y7))))))
 let y88:dX:=(y87,(y84,()))
 .aa (Jt y88)<|
 .aa (bm y3)<|
 .aa ((0:Nat) < 3)<|
 .aa ((1:Nat) < 3)<|
 .aa ((2:Nat) < 3)<|
 let y89:an:=(LS y88).1
 let y90:Nat:=y89.length
 .aa ((y90:Nat)=y90)<|
 .aa (((0:Nat)+3:Nat)≤3)<|
 let y91:eU:=(30,(8,(0,[y6,y6,(aN 1)])))
 let y92:gj:=(y87,(y89,y91))
 .aa (bI y92)<|
 let y93:an:=(cD y92).1
 let y94:Nat:=y93.length
 .aa ((y94:Nat)=y94)<|
 let y95:nC:=(y93,0)
 .ret y95
noncomputable def Fw (x:dH):Tr ew:=
 let y0:eH:=x.1.2.2
 let y1:eo:=y0.2
 let y2:eE:=y1.2
 let y3:Int:=(aU .u64 x.2 (aO .u64 y2.2.2))
 let y4:Int:=y0.1
 let y5:dN:=(false,(0,0))
 let y6:aD:=(aN y3)
 let y7:cW:=(y6,(aN 1))
 let y8:ep:=(y5,y7)
 let y9:DO:=y1.1
 let y10:kd:=((x.1,(y4,((),(y3,(y5,y8))))),(([]:List bq),y9))
 let y11:an:=(aS y10).1
 let y13:aD:=(aS y10).2
 let y14:DO:=y2.1
 let y15:eF:=((x.1,(y4,((),(y3,(y13,y8))))),(y11,y14))
 let y96:an:=(aS y15).1
 let y97:Nat:=y96.length
 .aa ((y97:Nat)=y97)<|
 let y98:aD:=(aS y15).2
 let y99:bl:=(x.1,(y4,((),(y3,(y13,(y98,y7))))))
 let y100:dX:=(y99,(y96,()))
 .aa (Js y100)<|
 .aa (bm y3)<|
 .aa ((0:Nat) < 3)<|
 .aa ((1:Nat) < 3)<|
 .aa ((2:Nat) < 3)<|
 let y101:an:=(LR y100).1
 let y102:Nat:=y101.length
 .aa ((y102:Nat)=y102)<|
 .aa (((0:Nat)+3:Nat)≤3)<|
 let y103:eU:=(30,(8,(0,[y6,y6,(aN 1)])))
 let y104:gj:=(y99,(y101,y103))
 .aa (bI y104)<|
 let y105:an:=(cD y104).1
 let y106:Nat:=y105.length
 .aa ((y106:Nat)=y106)<|
 let y107:nC:=(y105,0)
 .ret y107
noncomputable def BE (x:dH):Tr ew:=
 let y0:eH:=x.1.2.2
 let y1:eo:=y0.2
 let y2:eE:=y1.2
 let y3:Int:=(aU .u64 x.2 (aO .u64 y2.2.2))
 let y4:Int:=y0.1
 let y5:dN:=(false,(0,0))
 let y6:aD:=(aN y3)
 let y7:cW:=(y6,(aN 1))
 let y8:ep:=(y5,y7)
 let y9:DO:=y1.1
 let y10:kd:=((x.1,(y4,((),(y3,(y5,y8))))),(([]:List bq),y9))
 let y11:an:=(aS y10).1
 let y13:aD:=(aS y10).2
 let y14:DO:=y2.1
 let y15:eF:=((x.1,(y4,((),(y3,(y13,y8))))),(y11,y14))
 let y108:an:=(aS y15).1
 let y109:Nat:=y108.length
 .aa ((y109:Nat)=y109)<|
 let y110:aD:=(aS y15).2
 let y111:bl:=(x.1,(y4,((),(y3,(y13,(y110,y7))))))
 let y112:dX:=(y111,(y108,()))
 .aa (Js y112)<|
 .aa (bm y3)<|
 .aa ((0:Nat) < 3)<|
 .aa ((1:Nat) < 3)<|
 .aa ((2:Nat) < 3)<|
 let y113:an:=(LR y112).1
 let y114:Nat:=y113.length
 .aa ((y114:Nat)=y114)<|
 .aa (((0:Nat)+3:Nat)≤3)<|
 let y115:eU:=(30,(8,(0,[y6,y6,(aN 1)])))
 let y116:gj:=(y111,(y113,y115))
 .aa (bI y116)<|
 let y117:an:=(cD y116).1
 let y118:Nat:=y117.length
 .aa ((y118:Nat)=y118)<|
 let y119:nC:=(y117,0)
 .ret y119
noncomputable def Fz (x:dH):Tr ew:=
 let y0:eH:=x.1.2.2
 let y1:eo:=y0.2
 let y2:eE:=y1.2
 let y3:Int:=(aU .u64 x.2 (aO .u64 y2.2.2))
 let y4:Int:=y0.1
 let y5:dN:=(false,(0,0))
 let y6:aD:=(aN y3)
 let y7:cW:=(y6,(aN 1))
 let y8:ep:=(y5,y7)
 let y9:DO:=y1.1
 let y10:kd:=((x.1,(y4,((),(y3,(y5,y8))))),(([]:List bq),y9))
 let y11:an:=(aS y10).1
 let y13:aD:=(aS y10).2
 let y14:DO:=y2.1
 let y15:eF:=((x.1,(y4,((),(y3,(y13,y8))))),(y11,y14))
 let y120:an:=(aS y15).1
 let y121:Nat:=y120.length
 .aa ((y121:Nat)=y121)<|
 let y122:aD:=(aS y15).2
 let y123:bl:=(x.1,(y4,((),(y3,(y13,(y122,y7))))))
 let y124:dX:=(y123,(y120,()))
 .aa (MU y124)<|
 .aa (bm y3)<|
 .aa ((0:Nat) < 3)<|
 .aa ((1:Nat) < 3)<|
 .aa ((2:Nat) < 3)<|
 let y125:an:=(Po y124).1
 let y126:Nat:=y125.length
 .aa ((y126:Nat)=y126)<|
 .aa (((0:Nat)+3:Nat)≤3)<|
 let y127:eU:=(30,(8,(0,[y6,y6,(aN 1)])))
 let y128:gj:=(y123,(y125,y127))
 .aa (bI y128)<|
 let y129:an:=(cD y128).1
 let y130:Nat:=y129.length
 .aa ((y130:Nat)=y130)<|
 .ret (y129,0)
noncomputable def Fu (x:dH):Tr ew:=
 let y0:eH:=x.1.2.2
 let y1:eo:=y0.2
 let y2:eE:=y1.2
 let y3:Int:=(aU .u64 x.2 (aO .u64 y2.2.2))
 let y4:Int:=y0.1
 let y5:dN:=(false,(0,0))
 let y6:aD:=(aN y3)
 let y7:cW:=(y6,(aN 1))
 let y8:ep:=(y5,y7)
 let y9:DO:=y1.1
 let y10:kd:=((x.1,(y4,((),(y3,(y5,y8))))),(([]:List bq),y9))
 let y11:an:=(aS y10).1
 let y13:aD:=(aS y10).2
 let y14:DO:=y2.1
 let y15:eF:=((x.1,(y4,((),(y3,(y13,y8))))),(y11,y14))
 let y131:an:=(aS y15).1
 let y132:Nat:=y131.length
 .aa ((y132:Nat)=y132)<|
 let y133:aD:=(aS y15).2
 let y134:bl:=(x.1,(y4,((),(y3,(y13,(y133,y7))))))
 let y135:dX:=(y134,(y131,()))
 .aa (MT y135)<|
 .aa (bm y3)<|
 .aa ((0:Nat) < 3)<|
 .aa ((1:Nat) < 3)<|
 .aa ((2:Nat) < 3)<|
 let y136:an:=(Pn y135).1
 let y137:Nat:=y136.length
 .aa ((y137:Nat)=y137)<|
 .aa (((0:Nat)+3:Nat)≤3)<|
 let y138:eU:=(30,(8,(0,[y6,y6,(aN 1)])))
 let y139:gj:=(y134,(y136,y138))
 .aa (bI y139)<|
 let y140:an:=(cD y139).1
 let y141:Nat:=y140.length
 .aa ((y141:Nat)=y141)<|
 .ret (y140,0)
noncomputable def BD (x:dH):Tr ew:=
 let y0:eH:=x.1.2.2
 let y1:eo:=y0.2
 let y2:eE:=y1.2
 let y3:Int:=(aU .u64 x.2 (aO .u64 y2.2.2))
 let y4:Int:=y0.1
 let y5:dN:=(false,(0,0))
 let y6:aD:=(aN y3)
 let y7:cW:=(y6,(aN 1))
 let y8:ep:=(y5,y7)
 let y9:DO:=y1.1
 let y10:kd:=((x.1,(y4,((),(y3,(y5,y8))))),(([]:List bq),y9))
 let y11:an:=(aS y10).1
 let y13:aD:=(aS y10).2
 let y14:DO:=y2.1
 let y15:eF:=((x.1,(y4,((),(y3,(y13,y8))))),(y11,y14))
 let y142:an:=(aS y15).1
 let y143:Nat:=y142.length
 .aa ((y143:Nat)=y143)<|
 let y144:aD:=(aS y15).2
 let y145:bl:=(x.1,(y4,((),(y3,(y13,(y144,y7))))))
 let y146:dX:=(y145,(y142,()))
 .aa (MS y146)<|
 .aa (bm y3)<|
 .aa ((0:Nat) < 3)<|
 .aa ((1:Nat) < 3)<|
 .aa ((2:Nat) < 3)<|
 let y147:an:=(Pm y146).1
 let y148:Nat:=y147.length
 .aa ((y148:Nat)=y148)<|
 .aa (((0:Nat)+3:Nat)≤3)<|
 let y149:eU:=(30,(8,(0,[y6,y6,(aN 1)])))
 let y150:gj:=(y145,(y147,y149))
 .aa (bI y150)<|
 let y151:an:=(cD y150).1
 let y152:Nat:=y151.length
 .aa ((y152:Nat)=y152)<|
 .ret (y151,0)
noncomputable def BC (x:dH):Tr ew:=
 let y0:eH:=x.1.2.2
 let y1:eo:=y0.2
 let y2:eE:=y1.2
 let y3:Int:=(aU .u64 x.2 (aO .u64 y2.2.2))
 let y4:Int:=y0.1
 let y5:dN:=(false,(0,0))
 let y6:aD:=(aN y3)
 let y7:cW:=(y6,(aN 1))
 let y8:ep:=(y5,y7)
 let y9:DO:=y1.1
 let y10:kd:=((x.1,(y4,((),(y3,(y5,y8))))),(([]:List bq),y9))
 let y11:an:=(aS y10).1
 let y13:aD:=(aS y10).2
 let y14:DO:=y2.1
 let y15:eF:=((x.1,(y4,((),(y3,(y13,y8))))),(y11,y14))
 let y153:an:=(aS y15).1
 let y154:Nat:=y153.length
 .aa ((y154:Nat)=y154)<|
 let y155:aD:=(aS y15).2
 let y156:bl:=(x.1,(y4,((),(y3,(y13,(y155,y7))))))
 let y157:dX:=(y156,(y153,()))
 .aa (MR y157)<|
 .aa (bm y3)<|
 .aa ((0:Nat) < 3)<|
 .aa ((1:Nat) < 3)<|
 .aa ((2:Nat) < 3)<|
 let y158:an:=(Pk y157).1
 let y159:Nat:=y158.length
 .aa ((y159:Nat)=y159)<|
 .aa (((0:Nat)+3:Nat)≤3)<|
 let y160:eU:=(30,(8,(0,[y6,y6,(aN 1)])))
 let y161:gj:=(y156,(y158,y160))
 .aa (bI y161)<|
 let y162:an:=(cD y161).1
 let y163:Nat:=y162.length
 .aa ((y163:Nat)=y163)<|
 .ret (y162,0)
noncomputable def BB (x:dH):Tr ew:=
 let y0:eH:=x.1.2.2
 let y1:eo:=y0.2
 let y2:eE:=y1.2
 let y3:Int:=(aU .u64 x.2 (aO .u64 y2.2.2))
 let y4:Int:=y0.1
 let y5:dN:=(false,(0,0))
 let y6:aD:=(aN y3)
 let y7:cW:=(y6,(aN 1))
 let y8:ep:=(y5,y7)
 let y9:DO:=y1.1
 let y10:kd:=((x.1,(y4,((),(y3,(y5,y8))))),(([]:List bq),y9))
 let y11:an:=(aS y10).1
 let y13:aD:=(aS y10).2
 let y14:DO:=y2.1
 let y15:eF:=((x.1,(y4,((),(y3,(y13,y8))))),(y11,y14))
 let y164:an:=(aS y15).1
 let y165:Nat:=y164.length
 .aa ((y165:Nat)=y165)<|
 let y166:aD:=(aS y15).2
 let y167:bl:=(x.1,(y4,((),(y3,(y13,(y166,y7))))))
 let y168:dX:=(y167,(y164,()))
 .aa (MQ y168)<|
 .aa (bm y3)<|
 .aa ((0:Nat) < 3)<|
 .aa ((1:Nat) < 3)<|
 .aa ((2:Nat) < 3)<|
 let y169:an:=(Pj y168).1
 let y170:Nat:=y169.length
 .aa ((y170:Nat)=y170)<|
 .aa (((0:Nat)+3:Nat)≤3)<|
 let y171:eU:=(30,(8,(0,[y6,y6,(aN 1)])))
 let y172:gj:=(y167,(y169,y171))
 .aa (bI y172)<|
 let y173:an:=(cD y172).1
 let y174:Nat:=y173.length
 .aa ((y174:Nat)=y174)<|
 .ret (y173,0)
noncomputable def BA (x:dH):Tr ew:=
 let y0:eH:=x.1.2.2
 let y1:eo:=y0.2
 let y2:eE:=y1.2
 let y3:Int:=(aU .u64 x.2 (aO .u64 y2.2.2))
 let y4:Int:=y0.1
 let y5:dN:=(false,(0,0))
 let y6:aD:=(aN y3)
 let y7:cW:=(y6,(aN 1))
 let y8:ep:=(y5,y7)
 let y9:DO:=y1.1
 let y10:kd:=((x.1,(y4,((),(y3,(y5,y8))))),(([]:List bq),y9))
 let y11:an:=(aS y10).1
 let y13:aD:=(aS y10).2
 let y14:DO:=y2.1
 let y15:eF:=((x.1,(y4,((),(y3,(y13,y8))))),(y11,y14))
 let y175:an:=(aS y15).1
 let y176:Nat:=y175.length
 .aa ((y176:Nat)=y176)<|
 let y177:aD:=(aS y15).2
 let y178:bl:=(x.1,(y4,((),(y3,(y13,(y177,y7))))))
 let y179:dX:=(y178,(y175,()))
 .aa (MP y179)<|
 .aa (bm y3)<|
 .aa ((0:Nat) < 3)<|
 .aa ((1:Nat) < 3)<|
 .aa ((2:Nat) < 3)<|
 let y180:an:=(Ph y179).1
 let y181:Nat:=y180.length
 .aa ((y181:Nat)=y181)<|
 .aa (((0:Nat)+3:Nat)≤3)<|
 let y182:eU:=(30,(8,(0,[y6,y6,(aN 1)])))
 let y183:gj:=(y178,(y180,y182))
 .aa (bI y183)<|
 let y184:an:=(cD y183).1
 let y185:Nat:=y184.length
 .aa ((y185:Nat)=y185)<|
 .ret (y184,0)
noncomputable def Bz (x:dH):Tr ew:=
 let y0:eH:=x.1.2.2
 let y1:eo:=y0.2
 let y2:eE:=y1.2
 let y3:Int:=(aU .u64 x.2 (aO .u64 y2.2.2))
 let y4:Int:=y0.1
 let y5:dN:=(false,(0,0))
 let y6:aD:=(aN y3)
 let y7:cW:=(y6,(aN 1))
 let y8:ep:=(y5,y7)
 let y9:DO:=y1.1
 let y10:kd:=((x.1,(y4,((),(y3,(y5,y8))))),(([]:List bq),y9))
 let y11:an:=(aS y10).1
 let y13:aD:=(aS y10).2
 let y14:DO:=y2.1
 let y15:eF:=((x.1,(y4,((),(y3,(y13,y8))))),(y11,y14))
 let y186:an:=(aS y15).1
 let y187:Nat:=y186.length
 .aa ((y187:Nat)=y187)<|
 let y188:aD:=(aS y15).2
 let y189:bl:=(x.1,(y4,((),(y3,(y13,(y188,y7))))))
 let y190:dX:=(y189,(y186,()))
 .aa (MO y190)<|
 .aa (bm y3)<|
 .aa ((0:Nat) < 3)<|
 .aa ((1:Nat) < 3)<|
 .aa ((2:Nat) < 3)<|
 let y191:an:=(Pg y190).1
 let y192:Nat:=y191.length
 .aa ((y192:Nat)=y192)<|
 .aa (((0:Nat)+3:Nat)≤3)<|
 let y193:eU:=(30,(8,(0,[y6,y6,(aN 1)])))
 let y194:gj:=(y189,(y191,y193))
 .aa (bI y194)<|
 let y195:an:=(cD y194).1
 let y196:Nat:=y195.length
 .aa ((y196:Nat)=y196)<|
 .ret (y195,0)
noncomputable def By (x:dH):Tr ew:=
 let y0:eH:=x.1.2.2
 let y1:eo:=y0.2
 let y2:eE:=y1.2
 let y3:Int:=(aU .u64 x.2 (aO .u64 y2.2.2))
 let y4:Int:=y0.1
 let y5:dN:=(false,(0,0))
 let y6:aD:=(aN y3)
 let y7:cW:=(y6,(aN 1))
 let y8:ep:=(y5,y7)
 let y9:DO:=y1.1
 let y10:kd:=((x.1,(y4,((),(y3,(y5,y8))))),(([]:List bq),y9))
 let y11:an:=(aS y10).1
 let y13:aD:=(aS y10).2
 let y14:DO:=y2.1
 let y15:eF:=((x.1,(y4,((),(y3,(y13,y8))))),(y11,y14))
 let y197:an:=(aS y15).1
 let y198:Nat:=y197.length
 .aa ((y198:Nat)=y198)<|
 let y199:aD:=(aS y15).2
 let y200:bl:=(x.1,(y4,((),(y3,(y13,(y199,y7))))))
 let y201:dX:=(y200,(y197,()))
 .aa (MN y201)<|
 .aa (bm y3)<|
 .aa ((0:Nat) < 3)<|
 .aa ((1:Nat) < 3)<|
 .aa ((2:Nat) < 3)<|
 let y202:an:=(Pf y201).1
 let y203:Nat:=y202.length
 .aa ((y203:Nat)=y203)<|
 .aa (((0:Nat)+3:Nat)≤3)<|
 let y204:eU:=(30,(8,(0,[y6,y6,(aN 1)])))
 let y205:gj:=(y200,(y202,y204))
 .aa (bI y205)<|
 let y206:an:=(cD y205).1
 let y207:Nat:=y206.length
 .aa ((y207:Nat)=y207)<|
 .ret (y206,0)
noncomputable def Bx (x:dH):Tr ew:=
 let y0:eH:=x.1.2.2
 let y1:eo:=y0.2
 let y2:eE:=y1.2
 let y3:Int:=(aU .u64 x.2 (aO .u64 y2.2.2))
 let y4:Int:=y0.1
 let y5:dN:=(false,(0,0))
 let y6:aD:=(aN y3)
 let y7:cW:=(y6,(aN 1))
 let y8:ep:=(y5,y7)
 let y9:DO:=y1.1
 let y10:kd:=((x.1,(y4,((),(y3,(y5,y8))))),(([]:List bq),y9))
 let y11:an:=(aS y10).1
 let y13:aD:=(aS y10).2
 let y14:DO:=y2.1
 let y15:eF:=((x.1,(y4,((),(y3,(y13,y8))))),(y11,y14))
 let y208:an:=(aS y15).1
 let y209:Nat:=y208.length
 .aa ((y209:Nat)=y209)<|
 let y210:aD:=(aS y15).2
 let y211:bl:=(x.1,(y4,((),(y3,(y13,(y210,y7))))))
 let y212:dX:=(y211,(y208,()))
 .aa (MM y212)<|
 .aa (bm y3)<|
 .aa ((0:Nat) < 3)<|
 .aa ((1:Nat) < 3)<|
 .aa ((2:Nat) < 3)<|
 let y213:an:=(Pe y212).1
 let y214:Nat:=y213.length
 .aa ((y214:Nat)=y214)<|
 .aa (((0:Nat)+3:Nat)≤3)<|
 let y215:eU:=(30,(8,(0,[y6,y6,(aN 1)])))
 let y216:gj:=(y211,(y213,y215))
 .aa (bI y216)<|
 let y217:an:=(cD y216).1
 let y218:Nat:=y217.length
 .aa ((y218:Nat)=y218)<|
 .ret (y217,0)
noncomputable def Bw (x:dH):Tr ew:=
 let y0:eH:=x.1.2.2
 let y1:eo:=y0.2
 let y2:eE:=y1.2
 let y3:Int:=(aU .u64 x.2 (aO .u64 y2.2.2))
 let y4:Int:=y0.1
 let y5:dN:=(false,(0,0))
 let y6:aD:=(aN y3)
 let y7:cW:=(y6,(aN 1))
 let y8:ep:=(y5,y7)
 let y9:DO:=y1.1
 let y10:kd:=((x.1,(y4,((),(y3,(y5,y8))))),(([]:List bq),y9))
 let y11:an:=(aS y10).1
 let y13:aD:=(aS y10).2
 let y14:DO:=y2.1
 let y15:eF:=((x.1,(y4,((),(y3,(y13,y8))))),(y11,y14))
 let y219:an:=(aS y15).1
 let y220:Nat:=y219.length
 .aa ((y220:Nat)=y220)<|
 let y221:aD:=(aS y15).2
 let y222:bl:=(x.1,(y4,((),(y3,(y13,(y221,y7))))))
 let y223:dX:=(y222,(y219,()))
 .aa (ML y223)<|
 .aa (bm y3)<|
 .aa ((0:Nat) < 3)<|
 .aa ((1:Nat) < 3)<|
 .aa ((2:Nat) < 3)<|
 let y224:an:=(Pd y223).1
 let y225:Nat:=y224.length
 .aa ((y225:Nat)=y225)<|
 .aa (((0:Nat)+3:Nat)≤3)<|
 let y226:eU:=(30,(8,(0,[y6,y6,(aN 1)])))
 let y227:gj:=(y222,(y224,y226))
 .aa (bI y227)<|
 let y228:an:=(cD y227).1
 let y229:Nat:=y228.length
 .aa ((y229:Nat)=y229)<|
 .ret (y228,0)
noncomputable def Bv (x:dH):Tr ew:=
 let y0:eH:=x.1.2.2
 let y1:eo:=y0.2
 let y2:eE:=y1.2
 let y3:Int:=(aU .u64 x.2 (aO .u64 y2.2.2))
 let y4:Int:=y0.1
 let y5:dN:=(false,(0,0))
 let y6:aD:=(aN y3)
 let y7:cW:=(y6,(aN 1))
 let y8:ep:=(y5,y7)
 let y9:DO:=y1.1
 let y10:kd:=((x.1,(y4,((),(y3,(y5,y8))))),(([]:List bq),y9))
 let y11:an:=(aS y10).1
 let y13:aD:=(aS y10).2
 let y14:DO:=y2.1
 let y15:eF:=((x.1,(y4,((),(y3,(y13,y8))))),(y11,y14))
 let y230:an:=(aS y15).1
 let y231:Nat:=y230.length
 .aa ((y231:Nat)=y231)<|
 let y232:aD:=(aS y15).2
 let y233:bl:=(x.1,(y4,((),(y3,(y13,(y232,y7))))))
 let y234:dX:=(y233,(y230,()))
 .aa (MK y234)<|
 .aa (bm y3)<|
 .aa ((0:Nat) < 3)<|
 .aa ((1:Nat) < 3)<|
 .aa ((2:Nat) < 3)<|
 let y235:an:=(Pc y234).1
 let y236:Nat:=y235.length
 .aa ((y236:Nat)=y236)<|
 .aa (((0:Nat)+3:Nat)≤3)<|
 let y237:eU:=(30,(8,(0,[y6,y6,(aN 1)])))
 let y238:gj:=(y233,(y235,y237))
 .aa (bI y238)<|
 let y239:an:=(cD y238).1
 let y240:Nat:=y239.length
 .aa ((y240:Nat)=y240)<|
 .ret (y239,0)
noncomputable def Bu (x:dH):Tr ew:=
 let y0:eH:=x.1.2.2
 let y1:eo:=y0.2
 let y2:eE:=y1.2
 let y3:Int:=(aU .u64 x.2 (aO .u64 y2.2.2))
 let y4:Int:=y0.1
 let y5:dN:=(false,(0,0))
 let y6:aD:=(aN y3)
 let y7:cW:=(y6,(aN 1))
 let y8:ep:=(y5,y7)
 let y9:DO:=y1.1
 let y10:kd:=((x.1,(y4,((),(y3,(y5,y8))))),(([]:List bq),y9))
 let y11:an:=(aS y10).1
 let y13:aD:=(aS y10).2
 let y14:DO:=y2.1
 let y15:eF:=((x.1,(y4,((),(y3,(y13,y8))))),(y11,y14))
 let y241:an:=(aS y15).1
 let y242:Nat:=y241.length
 .aa ((y242:Nat)=y242)<|
 let y243:aD:=(aS y15).2
 let y244:bl:=(x.1,(y4,((),(y3,(y13,(y243,y7))))))
 let y245:dX:=(y244,(y241,()))
 .aa (MJ y245)<|
 .aa (bm y3)<|
 .aa ((0:Nat) < 3)<|
 .aa ((1:Nat) < 3)<|
 .aa ((2:Nat) < 3)<|
 let y246:an:=(Pb y245).1
 let y247:Nat:=y246.length
 .aa ((y247:Nat)=y247)<|
 .aa (((0:Nat)+3:Nat)≤3)<|
 let y248:eU:=(30,(8,(0,[y6,y6,(aN 1)])))
 let y249:gj:=(y244,(y246,y248))
 .aa (bI y249)<|
 let y250:an:=(cD y249).1
 let y251:Nat:=y250.length
 .aa ((y251:Nat)=y251)<|
 .ret (y250,0)
noncomputable def Bt (x:dH):Tr ew:=
 let y0:eH:=x.1.2.2
 let y1:eo:=y0.2
 let y2:eE:=y1.2
 let y3:Int:=(aU .u64 x.2 (aO .u64 y2.2.2))
 let y4:Int:=y0.1
 let y5:dN:=(false,(0,0))
 let y6:aD:=(aN y3)
 let y7:cW:=(y6,(aN 1))
 let y8:ep:=(y5,y7)
 let y9:DO:=y1.1
 let y10:kd:=((x.1,(y4,((),(y3,(y5,y8))))),(([]:List bq),y9))
 let y11:an:=(aS y10).1
 let y13:aD:=(aS y10).2
 let y14:DO:=y2.1
 let y15:eF:=((x.1,(y4,((),(y3,(y13,y8))))),(y11,y14))
 let y252:an:=(aS y15).1
 let y253:Nat:=y252.length
 .aa ((y253:Nat)=y253)<|
 let y254:aD:=(aS y15).2
 let y255:bl:=(x.1,(y4,((),(y3,(y13,(y254,y7))))))
 let y256:dX:=(y255,(y252,()))
 .aa (MI y256)<|
 .aa (bm y3)<|
 .aa ((0:Nat) < 3)<|
 .aa ((1:Nat) < 3)<|
 .aa ((2:Nat) < 3)<|
 let y257:an:=(Pa y256).1
 let y258:Nat:=y257.length
 .aa ((y258:Nat)=y258)<|
 .aa (((0:Nat)+3:Nat)≤3)<|
 let y259:eU:=(30,(8,(0,[y6,y6,(aN 1)])))
 let y260:gj:=(y255,(y257,y259))
 .aa (bI y260)<|
 let y261:an:=(cD y260).1
 let y262:Nat:=y261.length
 .aa ((y262:Nat)=y262)<|
 .ret (y261,0)
noncomputable def Bs (x:dH):Tr ew:=
 let y0:eH:=x.1.2.2
 let y1:eo:=y0.2
 let y2:eE:=y1.2
 let y3:Int:=(aU .u64 x.2 (aO .u64 y2.2.2))
 let y4:Int:=y0.1
 let y5:dN:=(false,(0,0))
 let y6:aD:=(aN y3)
 let y7:cW:=(y6,(aN 1))
 let y8:ep:=(y5,y7)
 let y9:DO:=y1.1
 let y10:kd:=((x.1,(y4,((),(y3,(y5,y8))))),(([]:List bq),y9))
 let y11:an:=(aS y10).1
 let y13:aD:=(aS y10).2
 let y14:DO:=y2.1
 let y15:eF:=((x.1,(y4,((),(y3,(y13,y8))))),(y11,y14))
 let y263:an:=(aS y15).1
 let y264:Nat:=y263.length
 .aa ((y264:Nat)=y264)<|
 let y265:aD:=(aS y15).2
 let y266:bl:=(x.1,(y4,((),(y3,(y13,(y265,y7))))))
 let y267:dX:=(y266,(y263,()))
 .aa (MH y267)<|
 .aa (bm y3)<|
 .aa ((0:Nat) < 3)<|
 .aa ((1:Nat) < 3)<|
 .aa ((2:Nat) < 3)<|
 let y268:an:=(O9 y267).1
 let y269:Nat:=y268.length
 .aa ((y269:Nat)=y269)<|
 .aa (((0:Nat)+3:Nat)≤3)<|
 let y270:eU:=(30,(8,(0,[y6,y6,(aN 1)])))
 let y271:gj:=(y266,(y268,y270))
 .aa (bI y271)<|
 let y272:an:=(cD y271).1
 let y273:Nat:=y272.length
 .aa ((y273:Nat)=y273)<|
 .ret (y272,0)
noncomputable def Br (x:dH):Tr ew:=
 let y0:eH:=x.1.2.2
 let y1:eo:=y0.2
 let y2:eE:=y1.2
 let y3:Int:=(aU .u64 x.2 (aO .u64 y2.2.2))
 let y4:Int:=y0.1
 let y5:dN:=(false,(0,0))
 let y6:aD:=(aN y3)
 let y7:cW:=(y6,(aN 1))
 let y8:ep:=(y5,y7)
 let y9:DO:=y1.1
 let y10:kd:=((x.1,(y4,((),(y3,(y5,y8))))),(([]:List bq),y9))
 let y11:an:=(aS y10).1
 let y13:aD:=(aS y10).2
 let y14:DO:=y2.1
 let y15:eF:=((x.1,(y4,((),(y3,(y13,y8))))),(y11,y14))
 let y274:an:=(aS y15).1
 let y275:Nat:=y274.length
 .aa ((y275:Nat)=y275)<|
 let y276:aD:=(aS y15).2
 let y277:bl:=(x.1,(y4,((),(y3,(y13,(y276,y7))))))
 let y278:dX:=(y277,(y274,()))
 .aa (MG y278)<|
 .aa (bm y3)<|
 .aa ((0:Nat) < 3)<|
 .aa ((1:Nat) < 3)<|
 .aa ((2:Nat) < 3)<|
 let y279:an:=(O8 y278).1
 let y280:Nat:=y279.length
 .aa ((y280:Nat)=y280)<|
 .aa (((0:Nat)+3:Nat)≤3)<|
 let y281:eU:=(30,(8,(0,[y6,y6,(aN 1)])))
 let y282:gj:=(y277,(y279,y281))
 .aa (bI y282)<|
 let y283:an:=(cD y282).1
 let y284:Nat:=y283.length
 .aa ((y284:Nat)=y284)<|
 .ret (y283,0)
noncomputable def Bq (x:dH):Tr ew:=
 let y0:eH:=x.1.2.2
 let y1:eo:=y0.2
 let y2:eE:=y1.2
 let y3:Int:=(aU .u64 x.2 (aO .u64 y2.2.2))
 let y4:Int:=y0.1
 let y5:dN:=(false,(0,0))
 let y6:aD:=(aN y3)
 let y7:cW:=(y6,(aN 1))
 let y8:ep:=(y5,y7)
 let y9:DO:=y1.1
 let y10:kd:=((x.1,(y4,((),(y3,(y5,y8))))),(([]:List bq),y9))
 let y11:an:=(aS y10).1
 let y13:aD:=(aS y10).2
 let y14:DO:=y2.1
 let y15:eF:=((x.1,(y4,((),(y3,(y13,y8))))),(y11,y14))
 let y285:an:=(aS y15).1
 let y286:Nat:=y285.length
 .aa ((y286:Nat)=y286)<|
 let y287:aD:=(aS y15).2
 let y288:bl:=(x.1,(y4,((),(y3,(y13,(y287,y7))))))
 let y289:dX:=(y288,(y285,()))
 .aa (MF y289)<|
 .aa (bm y3)<|
 .aa ((0:Nat) < 3)<|
 .aa ((1:Nat) < 3)<|
 .aa ((2:Nat) < 3)<|
 let y290:an:=(O7 y289).1
 let y291:Nat:=y290.length
 .aa ((y291:Nat)=y291)<|
 .aa (((0:Nat)+3:Nat)≤3)<|
 let y292:eU:=(30,(8,(0,[y6,y6,(aN 1)])))
 let y293:gj:=(y288,(y290,y292))
 .aa (bI y293)<|
 let y294:an:=(cD y293).1
 let y295:Nat:=y294.length
 .aa ((y295:Nat)=y295)<|
 .ret (y294,0)
noncomputable def Bp (x:dH):Tr ew:=
 let y0:eH:=x.1.2.2
 let y1:eo:=y0.2
 let y2:eE:=y1.2
 let y3:Int:=(aU .u64 x.2 (aO .u64 y2.2.2))
 let y4:Int:=y0.1
 let y5:dN:=(false,(0,0))
 let y6:aD:=(aN y3)
 let y7:cW:=(y6,(aN 1))
 let y8:ep:=(y5,y7)
 let y9:DO:=y1.1
 let y10:kd:=((x.1,(y4,((),(y3,(y5,y8))))),(([]:List bq),y9))
 let y11:an:=(aS y10).1
 let y13:aD:=(aS y10).2
 let y14:DO:=y2.1
 let y15:eF:=((x.1,(y4,((),(y3,(y13,y8))))),(y11,y14))
 .aa (bm y3)<|
 let y296:an:=(aS y15).1
 let y297:Nat:=y296.length
 .aa ((y297:Nat)=y297)<|
 let y298:aD:=(aS y15).2
 let y299:bl:=(x.1,(y4,((),(y3,(y13,(y298,y7))))))
 let y300:fo:=(y299,(y296,y6))
 .aa (Jk y300)<|
 let y301:an:=(LK y300).1
 let y302:Nat:=y301.length
 .aa ((y302:Nat)=y302)<|
 let y303:dX:=(y299,(y301,()))
 .aa (Fb y303)<|
 .aa (bm y3)<|
 .aa ((0:Nat) < 3)<|
 .aa ((1:Nat) < 3)<|
 .aa ((2:Nat) < 3)<|
 let y304:an:=(BZ y303).1
 let y305:Nat:=y304.length
 .aa ((y305:Nat)=y305)<|
 .aa (((0:Nat)+3:Nat)≤3)<|
 let y306:aD:=(BZ y303).2
 let y307:gj:=((x.1,(y4,((),(y3,(y13,(y298,(y306,(aN 1)))))))),(y304,(30,(8,(0,[y306,y6,(aN 1)])))))
 .aa (bI y307)<|
 let y308:an:=(cD y307).1
 let y309:Nat:=y308.length
 .aa ((y309:Nat)=y309)<|
 .ret (y308,0)
noncomputable def Bo (x:dH):Tr ew:=
 let y0:eH:=x.1.2.2
 let y1:eo:=y0.2
 let y2:eE:=y1.2
 let y3:Int:=(aU .u64 x.2 (aO .u64 y2.2.2))
 let y4:Int:=y0.1
 let y5:dN:=(false,(0,0))
 let y6:aD:=(aN y3)
 let y7:cW:=(y6,(aN 1))
 let y8:ep:=(y5,y7)
 let y9:DO:=y1.1
 let y10:kd:=((x.1,(y4,((),(y3,(y5,y8))))),(([]:List bq),y9))
 let y11:an:=(aS y10).1
 let y13:aD:=(aS y10).2
 let y14:DO:=y2.1
 let y15:eF:=((x.1,(y4,((),(y3,(y13,y8))))),(y11,y14))
 let y310:an:=(aS y15).1
 let y311:Nat:=y310.length
 .aa ((y311:Nat)=y311)<|
 let y312:aD:=(aS y15).2
 let y313:bl:=(x.1,(y4,((),(y3,(y13,(y312,y7))))))
 let y314:dX:=(y313,(y310,()))
 .aa (Ji y314)<|
 .aa (bm y3)<|
 .aa ((0:Nat) < 3)<|
 .aa ((1:Nat) < 3)<|
 .aa ((2:Nat) < 3)<|
 let y315:an:=(HT y314).1
 let y316:Nat:=y315.length
 .aa ((y316:Nat)=y316)<|
 .aa (((0:Nat)+3:Nat)≤3)<|
 let y317:aD:=(HT y314).2
 let y318:gj:=((x.1,(y4,((),(y3,(y13,(y312,(y317,(aN 1)))))))),(y315,(30,(8,(0,[y317,y6,(aN 1)])))))
 .aa (bI y318)<|
 let y319:an:=(cD y318).1
 let y320:Nat:=y319.length
 .aa ((y320:Nat)=y320)<|
 .ret (y319,0)
noncomputable def Bn (x:dH):Tr ew:=
 let y0:eH:=x.1.2.2
 let y1:eo:=y0.2
 let y2:eE:=y1.2
 let y3:Int:=(aU .u64 x.2 (aO .u64 y2.2.2))
 let y4:Int:=y0.1
 let y5:dN:=(false,(0,0))
 let y6:aD:=(aN y3)
 let y7:cW:=(y6,(aN 1))
 let y8:ep:=(y5,y7)
 let y9:DO:=y1.1
 let y10:kd:=((x.1,(y4,((),(y3,(y5,y8))))),(([]:List bq),y9))
 let y11:an:=(aS y10).1
 let y13:aD:=(aS y10).2
 let y14:DO:=y2.1
 let y15:eF:=((x.1,(y4,((),(y3,(y13,y8))))),(y11,y14))
 .ite (al y14.1 3) (
 let y321:=(aS y15).1
 let y322:Nat:=y321.length
 .aa ((y322:Nat)=y322)<|
 let y323:=(aS y15).2
 let y324:bl:=(x.1,(y4,((),(y3,(y13,(y323,y7))))))
 let y325:dX:=(y324,(y321,()))
 .aa (Fb y325)<|
 .aa (bm y3)<|
 .aa ((0:Nat) < 3)<|
 .aa ((1:Nat) < 3)<|
 .aa ((2:Nat) < 3)<|
 let y326:=(BZ y325).1
 let y327:Nat:=y326.length
 .aa ((y327:Nat)=y327)<|
 .aa (((0:Nat)+3:Nat)≤3)<|
 let y328:=(BZ y325).2
 let y329:gj:=((x.1,(y4,((),(y3,(y13,(y323,(y328,(aN 1)))))))),(y326,(30,(8,(0,[y328,y6,(aN 1)])))))
 .aa (bI y329)<|
 let y330:=(cD y329).1
 let y331:Nat:=y330.length
 .aa ((y331:Nat)=y331)<|
 .ret (y330,0)) (
 let y332:=(aS y15).1
 let y333:Nat:=y332.length
 .aa ((y333:Nat)=y333)<|
 let y334:=(aS y15).2
 let y335:bl:=(x.1,(y4,((),(y3,(y13,(y334,y7))))))
 let y336:m0:=(y335,(y332,(y9,(y13,y4))))
 .aa (iC y336)<|
 .aa (bm y3)<|
 .aa ((0:Nat) < 3)<|
 .aa ((1:Nat) < 3)<|
 .aa ((2:Nat) < 3)<|
 let y337:=(fe y336).1
 let y338:Nat:=y337.length
 .aa ((y338:Nat)=y338)<|
 .aa (((0:Nat)+3:Nat)≤3)<|
 let y339:=(fe y336).2
 let y340:gj:=((x.1,(y4,((),(y3,(y13,(y334,(y339,(aN 1)))))))),(y337,(30,(8,(0,[y339,y6,(aN 1)])))))
 .aa (bI y340)<|
 let y341:=(cD y340).1
 let y342:Nat:=y341.length
 .aa ((y342:Nat)=y342)<|
 .ret (y341,0))
noncomputable def Bm (x:dH):Tr ew:=
 let y0:eH:=x.1.2.2
 let y1:eo:=y0.2
 let y2:eE:=y1.2
 let y3:Int:=(aU .u64 x.2 (aO .u64 y2.2.2))
 let y4:Int:=y0.1
 let y5:dN:=(false,(0,0))
 let y6:aD:=(aN y3)
 let y7:cW:=(y6,(aN 1))
 let y8:ep:=(y5,y7)
 let y9:DO:=y1.1
 let y10:kd:=((x.1,(y4,((),(y3,(y5,y8))))),(([]:List bq),y9))
 let y11:an:=(aS y10).1
 let y13:aD:=(aS y10).2
 let y14:DO:=y2.1
 let y15:eF:=((x.1,(y4,((),(y3,(y13,y8))))),(y11,y14))
 let y343:an:=(aS y15).1
 let y344:Nat:=y343.length
 .aa ((y344:Nat)=y344)<|
 let y345:aD:=(aS y15).2
 let y346:bl:=(x.1,(y4,((),(y3,(y13,(y345,y7))))))
 let y347:dX:=(y346,(y343,()))
 .aa (Fa y347)<|
 let y348:an:=(BY y347).1
 let y349:Nat:=y348.length
 .aa ((y349:Nat)=y349)<|
 let y350:dX:=(y346,(y348,()))
 .aa (Fb y350)<|
 .aa (bm y3)<|
 .aa ((0:Nat) < 3)<|
 .aa ((1:Nat) < 3)<|
 .aa ((2:Nat) < 3)<|
 let y351:an:=(BZ y350).1
 let y352:Nat:=y351.length
 .aa ((y352:Nat)=y352)<|
 .aa (((0:Nat)+3:Nat)≤3)<|
 let y353:aD:=(BZ y350).2
 let y354:aD:=(BY y347).2
 let y355:gj:=((x.1,(y4,((),(y3,(y13,(y345,(y353,y354))))))),(y351,(30,(8,(0,[y353,y6,y354])))))
 .aa (bI y355)<|
 let y356:an:=(cD y355).1
 let y357:Nat:=y356.length
 .aa ((y357:Nat)=y357)<|
 .ret (y356,0)
noncomputable def Bl (x:dH):Tr ew:=
 let y0:eH:=x.1.2.2
 let y1:eo:=y0.2
 let y2:eE:=y1.2
 let y3:Int:=(aU .u64 x.2 (aO .u64 y2.2.2))
 let y4:Int:=y0.1
 let y5:dN:=(false,(0,0))
 let y6:aD:=(aN y3)
 let y7:cW:=(y6,(aN 1))
 let y8:ep:=(y5,y7)
 let y9:DO:=y1.1
 let y10:kd:=((x.1,(y4,((),(y3,(y5,y8))))),(([]:List bq),y9))
 let y11:an:=(aS y10).1
 let y13:aD:=(aS y10).2
 let y14:DO:=y2.1
 let y15:eF:=((x.1,(y4,((),(y3,(y13,y8))))),(y11,y14))
 let y358:an:=(aS y15).1
 let y359:Nat:=y358.length
 .aa ((y359:Nat)=y359)<|
 let y360:aD:=(aS y15).2
 let y361:bl:=(x.1,(y4,((),(y3,(y13,(y360,y7))))))
 let y362:dX:=(y361,(y358,()))
 .aa (ME y362)<|
 .aa (bm y3)<|
 .aa ((0:Nat) < 3)<|
 .aa ((1:Nat) < 3)<|
 .aa ((2:Nat) < 3)<|
 let y363:an:=(O6 y362).1
 let y364:Nat:=y363.length
 .aa ((y364:Nat)=y364)<|
 .aa (((0:Nat)+3:Nat)≤3)<|
 let y365:eU:=(30,(8,(0,[y6,y6,(aN 1)])))
 let y366:gj:=(y361,(y363,y365))
 .aa (bI y366)<|
 let y367:an:=(cD y366).1
 let y368:Nat:=y367.length
 .aa ((y368:Nat)=y368)<|
 .ret (y367,0)
noncomputable def Bk (x:dH):Tr ew:=
 let y0:eH:=x.1.2.2
 let y1:eo:=y0.2
 let y2:eE:=y1.2
 let y3:Int:=(aU .u64 x.2 (aO .u64 y2.2.2))
 let y4:Int:=y0.1
 let y5:dN:=(false,(0,0))
 let y6:aD:=(aN y3)
 let y7:cW:=(y6,(aN 1))
 let y8:ep:=(y5,y7)
 let y9:DO:=y1.1
 let y10:kd:=((x.1,(y4,((),(y3,(y5,y8))))),(([]:List bq),y9))
 let y11:an:=(aS y10).1
 let y13:aD:=(aS y10).2
 let y14:DO:=y2.1
 let y15:eF:=((x.1,(y4,((),(y3,(y13,y8))))),(y11,y14))
 let y369:an:=(aS y15).1
 let y370:Nat:=y369.length
 .aa ((y370:Nat)=y370)<|
 let y371:aD:=(aS y15).2
 let y372:bl:=(x.1,(y4,((),(y3,(y13,(y371,y7))))))
 let y373:dX:=(y372,(y369,()))
 .aa (MD y373)<|
 .aa (bm y3)<|
 .aa ((0:Nat) < 3)<|
 .aa ((1:Nat) < 3)<|
 .aa ((2:Nat) < 3)<|
 let y374:an:=(O5 y373).1
 let y375:Nat:=y374.length
 .aa ((y375:Nat)=y375)<|
 .aa (((0:Nat)+3:Nat)≤3)<|
 let y376:eU:=(30,(8,(0,[y6,y6,(aN 1)])))
 let y377:gj:=(y372,(y374,y376))
 .aa (bI y377)<|
 let y378:an:=(cD y377).1
 let y379:Nat:=y378.length
 .aa ((y379:Nat)=y379)<|
 .ret (y378,0)
noncomputable def Bj (x:dH):Tr ew:=
 let y0:eH:=x.1.2.2
 let y1:eo:=y0.2
 let y2:eE:=y1.2
 let y3:Int:=(aU .u64 x.2 (aO .u64 y2.2.2))
 let y4:Int:=y0.1
 let y5:dN:=(false,(0,0))
 let y6:aD:=(aN y3)
 let y7:cW:=(y6,(aN 1))
 let y8:ep:=(y5,y7)
 let y9:DO:=y1.1
 let y10:kd:=((x.1,(y4,((),(y3,(y5,y8))))),(([]:List bq),y9))
 let y11:an:=(aS y10).1
 let y13:aD:=(aS y10).2
 let y14:DO:=y2.1
 let y15:eF:=((x.1,(y4,((),(y3,(y13,y8))))),(y11,y14))
 let y380:an:=(aS y15).1
 let y381:Nat:=y380.length
 .aa ((y381:Nat)=y381)<|
 let y382:aD:=(aS y15).2
 let y383:bl:=(x.1,(y4,((),(y3,(y13,(y382,y7))))))
 let y384:dX:=(y383,(y380,()))
 .aa (MC y384)<|
 .aa (bm y3)<|
 .aa ((0:Nat) < 3)<|
 .aa ((1:Nat) < 3)<|
 .aa ((2:Nat) < 3)<|
 let y385:an:=(O4 y384).1
 let y386:Nat:=y385.length
 .aa ((y386:Nat)=y386)<|
 .aa (((0:Nat)+3:Nat)≤3)<|
 let y387:eU:=(30,(8,(0,[y6,y6,(aN 1)])))
 let y388:gj:=(y383,(y385,y387))
 .aa (bI y388)<|
 let y389:an:=(cD y388).1
 let y390:Nat:=y389.length
 .aa ((y390:Nat)=y390)<|
 .ret (y389,0)
noncomputable def Bi (x:dH):Tr ew:=
 let y0:eH:=x.1.2.2
 let y1:eo:=y0.2
 let y2:eE:=y1.2
 let y3:Int:=(aU .u64 x.2 (aO .u64 y2.2.2))
 let y4:Int:=y0.1
 let y5:dN:=(false,(0,0))
 let y6:aD:=(aN y3)
 let y7:cW:=(y6,(aN 1))
 let y8:ep:=(y5,y7)
 let y9:DO:=y1.1
 let y10:kd:=((x.1,(y4,((),(y3,(y5,y8))))),(([]:List bq),y9))
 let y11:an:=(aS y10).1
 let y13:aD:=(aS y10).2
 let y14:DO:=y2.1
 let y15:eF:=((x.1,(y4,((),(y3,(y13,y8))))),(y11,y14))
 let y391:an:=(aS y15).1
 let y392:Nat:=y391.length
 .aa ((y392:Nat)=y392)<|
 let y393:aD:=(aS y15).2
 let y394:bl:=(x.1,(y4,((),(y3,(y13,(y393,y7))))))
 let y395:dX:=(y394,(y391,()))
 .aa (MB y395)<|
 .aa (bm y3)<|
 .aa ((0:Nat) < 3)<|
 .aa ((1:Nat) < 3)<|
 .aa ((2:Nat) < 3)<|
 let y396:an:=(O3 y395).1
 let y397:Nat:=y396.length
 .aa ((y397:Nat)=y397)<|
 .aa (((0:Nat)+3:Nat)≤3)<|
 let y398:eU:=(30,(8,(0,[y6,y6,(aN 1)])))
 let y399:gj:=(y394,(y396,y398))
 .aa (bI y399)<|
 let y400:an:=(cD y399).1
 let y401:Nat:=y400.length
 .aa ((y401:Nat)=y401)<|
 .ret (y400,0)
noncomputable def Bh (x:dH):Tr ew:=
 let y0:eH:=x.1.2.2
 let y1:eo:=y0.2
 let y2:eE:=y1.2
 let y3:Int:=(aU .u64 x.2 (aO .u64 y2.2.2))
 let y4:Int:=y0.1
 let y5:dN:=(false,(0,0))
 let y6:aD:=(aN y3)
 let y7:cW:=(y6,(aN 1))
 let y8:ep:=(y5,y7)
 let y9:DO:=y1.1
 let y10:kd:=((x.1,(y4,((),(y3,(y5,y8))))),(([]:List bq),y9))
 let y11:an:=(aS y10).1
 let y13:aD:=(aS y10).2
 let y14:DO:=y2.1
 let y15:eF:=((x.1,(y4,((),(y3,(y13,y8))))),(y11,y14))
 let y402:an:=(aS y15).1
 let y403:Nat:=y402.length
 .aa ((y403:Nat)=y403)<|
 let y404:aD:=(aS y15).2
 let y405:bl:=(x.1,(y4,((),(y3,(y13,(y404,y7))))))
 let y406:dX:=(y405,(y402,()))
 .aa (wC y406)<|
 .aa (bm y3)<|
 .aa ((0:Nat) < 3)<|
 .aa ((1:Nat) < 3)<|
 .aa ((2:Nat) < 3)<|
 let y407:an:=(EI y406).1
 let y408:Nat:=y407.length
 .aa ((y408:Nat)=y408)<|
 .aa (((0:Nat)+3:Nat)≤3)<|
 let y409:eU:=(30,(8,(0,[y6,y6,(aN 1)])))
 let y410:gj:=(y405,(y407,y409))
 .aa (bI y410)<|
 let y411:an:=(cD y410).1
 let y412:Nat:=y411.length
 .aa ((y412:Nat)=y412)<|
 let y413:nC:=(y411,0)
 .ret y413
noncomputable def Bg (x:dH):Tr ew:=
 let y0:eH:=x.1.2.2
 let y1:eo:=y0.2
 let y2:eE:=y1.2
 let y3:Int:=(aU .u64 x.2 (aO .u64 y2.2.2))
 let y4:Int:=y0.1
 let y5:dN:=(false,(0,0))
 let y6:aD:=(aN y3)
 let y7:cW:=(y6,(aN 1))
 let y8:ep:=(y5,y7)
 let y9:DO:=y1.1
 let y10:kd:=((x.1,(y4,((),(y3,(y5,y8))))),(([]:List bq),y9))
 let y11:an:=(aS y10).1
 let y13:aD:=(aS y10).2
 let y14:DO:=y2.1
 let y15:eF:=((x.1,(y4,((),(y3,(y13,y8))))),(y11,y14))
 let y414:an:=(aS y15).1
 let y415:Nat:=y414.length
 .aa ((y415:Nat)=y415)<|
 let y416:aD:=(aS y15).2
 let y417:bl:=(x.1,(y4,((),(y3,(y13,(y416,y7))))))
 let y418:dX:=(y417,(y414,()))
 .aa (wC y418)<|
 .aa (bm y3)<|
 .aa ((0:Nat) < 3)<|
 .aa ((1:Nat) < 3)<|
 .aa ((2:Nat) < 3)<|
 let y419:an:=(EI y418).1
 let y420:Nat:=y419.length
 .aa ((y420:Nat)=y420)<|
 .aa (((0:Nat)+3:Nat)≤3)<|
 let y421:eU:=(30,(8,(0,[y6,y6,(aN 1)])))
 let y422:gj:=(y417,(y419,y421))
 .aa (bI y422)<|
 let y423:an:=(cD y422).1
 let y424:Nat:=y423.length
 .aa ((y424:Nat)=y424)<|
 let y425:nC:=(y423,0)
 .ret y425
noncomputable def Bf (x:dH):Tr ew:=
 let y0:eH:=x.1.2.2
 let y1:eo:=y0.2
 let y2:eE:=y1.2
 let y3:Int:=(aU .u64 x.2 (aO .u64 y2.2.2))
 let y4:Int:=y0.1
 let y5:dN:=(false,(0,0))
 let y6:aD:=(aN y3)
 let y7:cW:=(y6,(aN 1))
 let y8:ep:=(y5,y7)
 let y9:DO:=y1.1
 let y10:kd:=((x.1,(y4,((),(y3,(y5,y8))))),(([]:List bq),y9))
 let y11:an:=(aS y10).1
 let y13:aD:=(aS y10).2
 let y14:DO:=y2.1
 let y15:eF:=((x.1,(y4,((),(y3,(y13,y8))))),(y11,y14))
 let y426:an:=(aS y15).1
 let y427:Nat:=y426.length
 .aa ((y427:Nat)=y427)<|
 let y428:aD:=(aS y15).2
 let y429:bl:=(x.1,(y4,((),(y3,(y13,(y428,y7))))))
 let y430:dX:=(y429,(y426,()))
 .aa (wC y430)<|
 .aa (bm y3)<|
 .aa ((0:Nat) < 3)<|
 .aa ((1:Nat) < 3)<|
 .aa ((2:Nat) < 3)<|
 let y431:an:=(EI y430).1
 let y432:Nat:=y431.length
 .aa ((y432:Nat)=y432)<|
 .aa (((0:Nat)+3:Nat)≤3)<|
 let y433:eU:=(30,(8,(0,[y6,y6,(aN 1)])))
 let y434:gj:=(y429,(y431,y433))
 .aa (bI y434)<|
 let y435:an:=(cD y434).1
 let y436:Nat:=y435.length
 .aa ((y436:Nat)=y436)<|
 let y437:nC:=(y435,0)
 .ret y437
noncomputable def Be (x:dH):Tr ew:=
 let y0:eH:=x.1.2.2
 let y1:eo:=y0.2
 let y2:eE:=y1.2
 let y3:Int:=(aU .u64 x.2 (aO .u64 y2.2.2))
 let y4:Int:=y0.1
 let y5:dN:=(false,(0,0))
 let y6:aD:=(aN y3)
 let y7:cW:=(y6,(aN 1))
 let y8:ep:=(y5,y7)
 let y9:DO:=y1.1
 let y10:kd:=((x.1,(y4,((),(y3,(y5,y8))))),(([]:List bq),y9))
 let y11:an:=(aS y10).1
 let y13:aD:=(aS y10).2
 let y14:DO:=y2.1
 let y15:eF:=((x.1,(y4,((),(y3,(y13,y8))))),(y11,y14))
 let y438:an:=(aS y15).1
 let y439:Nat:=y438.length
 .aa ((y439:Nat)=y439)<|
 let y440:aD:=(aS y15).2
 let y441:bl:=(x.1,(y4,((),(y3,(y13,(y440,y7))))))
 let y442:dX:=(y441,(y438,()))
 .aa (wC y442)<|
 .aa (bm y3)<|
 .aa ((0:Nat) < 3)<|
 .aa ((1:Nat) < 3)<|
 .aa ((2:Nat) < 3)<|
 let y443:an:=(EI y442).1
 let y444:Nat:=y443.length
 .aa ((y444:Nat)=y444)<|
 .aa (((0:Nat)+3:Nat)≤3)<|
 let y445:eU:=(30,(8,(0,[y6,y6,(aN 1)])))
 let y446:gj:=(y441,(y443,y445))
 .aa (bI y446)<|
 let y447:an:=(cD y446).1
 let y448:Nat:=y447.length
 .aa ((y448:Nat)=y448)<|
 let y449:nC:=(y447,0)
 .ret y449
noncomputable def Bd (x:dH):Tr ew:=
 let y0:eH:=x.1.2.2
 let y1:eo:=y0.2
 let y2:eE:=y1.2
 let y3:Int:=(aU .u64 x.2 (aO .u64 y2.2.2))
 let y4:Int:=y0.1
 let y5:dN:=(false,(0,0))
 let y6:aD:=(aN y3)
 let y7:cW:=(y6,(aN 1))
 let y8:ep:=(y5,y7)
 let y9:DO:=y1.1
 let y10:kd:=((x.1,(y4,((),(y3,(y5,y8))))),(([]:List bq),y9))
 let y11:an:=(aS y10).1
 let y13:aD:=(aS y10).2
 let y14:DO:=y2.1
 let y15:eF:=((x.1,(y4,((),(y3,(y13,y8))))),(y11,y14))
 let y450:an:=(aS y15).1
 let y451:Nat:=y450.length
 .aa ((y451:Nat)=y451)<|
 let y452:aD:=(aS y15).2
 let y453:bl:=(x.1,(y4,((),(y3,(y13,(y452,y7))))))
 let y454:dX:=(y453,(y450,()))
 .aa (wC y454)<|
 .aa (bm y3)<|
 .aa ((0:Nat) < 3)<|
 .aa ((1:Nat) < 3)<|
 .aa ((2:Nat) < 3)<|
 let y455:an:=(EI y454).1
 let y456:Nat:=y455.length
 .aa ((y456:Nat)=y456)<|
 .aa (((0:Nat)+3:Nat)≤3)<|
 let y457:eU:=(30,(8,(0,[y6,y6,(aN 1)])))
 let y458:gj:=(y453,(y455,y457))
 .aa (bI y458)<|
 let y459:an:=(cD y458).1
 let y460:Nat:=y459.length
 .aa ((y460:Nat)=y460)<|
 let y461:nC:=(y459,0)
 .ret y461
noncomputable def zq (x:dH):Tr ew:=
 let y0:eH:=x.1.2.2
 let y1:eo:=y0.2
 let y2:eE:=y1.2
 let y3:Int:=(aU .u64 x.2 (aO .u64 y2.2.2))
 let y4:Int:=y0.1
 let y5:dN:=(false,(0,0))
 let y6:aD:=(aN y3)
 let y7:cW:=(y6,(aN 1))
 let y8:ep:=(y5,y7)
 let y9:DO:=y1.1
 let y10:kd:=((x.1,(y4,((),(y3,(y5,y8))))),(([]:List bq),y9))
 let y11:an:=(aS y10).1
 let y13:aD:=(aS y10).2
 let y14:DO:=y2.1
 let y15:eF:=((x.1,(y4,((),(y3,(y13,y8))))),(y11,y14))
 .aa (bm y3)<|
 .aa ((0:Nat) < 3)<|
 .aa ((1:Nat) < 3)<|
 .aa ((2:Nat) < 3)<|
 let y462:=(aS y15).1
 let y463:Nat:=y462.length
 .aa ((y463:Nat)=y463)<|
 .aa (((0:Nat)+3:Nat)≤3)<|
 let y464:=(aS y15).2
 let y465:bl:=(x.1,(y4,((),(y3,(y13,(y464,y7))))))
 let y466:eU:=(30,(8,(0,[y6,y6,(aN 1)])))
 let y467:gj:=(y465,(y462,y466))
 .aa (bI y467)<|
 let y468:=(cD y467).1
 let y469:Nat:=y468.length
 .aa ((y469:Nat)=y469)<|
 .ret (y468,0)
noncomputable def vC (x:dH):Tr ew:=.ite (al x.1.1 1) (FC x) (.ite (al x.1.1 2) (FB x) (.ite (al x.1.1 3) (FA x) (.ite (al x.1.1 5) (Fy x) (.ite (al x.1.1 8) (Fv x) (.ite (al x.1.1 6) (Fx x) (.ite (al x.1.1 10) (BF x) (.ite (al x.1.1 7) (Fw x) (.ite (al x.1.1 11) (BE x) (.ite (al x.1.1 4) (Fz x) (.ite (al x.1.1 9) (Fu x) (.ite (al x.1.1 12) (BD x) (.ite (al x.1.1 13) (BC x) (.ite (al x.1.1 14) (BB x) (.ite (al x.1.1 15) (BA x) (.ite (al x.1.1 16) (Bz x) (.ite (al x.1.1 17) (By x) (.ite (al x.1.1 18) (Bx x) (.ite (al x.1.1 19) (Bw x) (.ite (al x.1.1 20) (Bv x) (.ite (al x.1.1 21) (Bu x) (.ite (al x.1.1 22) (Bt x) (.ite (al x.1.1 23) (Bs x) (.ite (al x.1.1 24) (Br x) (.ite (al x.1.1 25) (Bq x) (.ite (al x.1.1 26) (Bp x) (.ite (al x.1.1 27) (Bo x) (.ite (al x.1.1 28) (Bn x) (.ite (al x.1.1 29) (Bm x) (.ite (al x.1.1 30) (Bl x) (.ite (al x.1.1 31) (Bk x) (.ite (al x.1.1 32) (Bj x) (.ite (al x.1.1 33) (Bi x) (.ite (al x.1.1 35) (Bh x) (.ite (al x.1.1 36) (Bg x) (.ite (al x.1.1 37) (Bf x) (.ite (al x.1.1 38) (Be x) (.ite (al x.1.1 39) (Bd x) (zq x))))))))))))))))))))))))))))))))))))))
noncomputable def ue (x:dH):Tr nC:=
 .aa (uZ x.1)<|
 .ite (!(qm x.1)) (
 .ret (([]:List bq),2)) (
 .aa (bm 1)<|
 let y0:=x.1.2.2
 let y1:=y0.2
 let y2:=y1.2
 let y3:Int:=(aU .u64 x.2 (aO .u64 y2.2.2))
 .aa (bm y3)<|
 let y4:=y0.1
 let y5:dN:=(false,(0,0))
 let y6:=(aN y3)
 let y7:cW:=(y6,(aN 1))
 let y8:ep:=(y5,y7)
 let y9:=y1.1
 let y10:kd:=((x.1,(y4,((),(y3,(y5,y8))))),(([]:List bq),y9))
 .aa (Fi y10)<|
 let y11:=(aS y10).1
 let y12:Nat:=y11.length
 .aa ((y12:Nat)=y12)<|
 let y13:=(aS y10).2
 let y14:=y2.1
 let y15:eF:=((x.1,(y4,((),(y3,(y13,y8))))),(y11,y14))
 .aa (Fi y15)<|
 .aa (JB ())<|
 let y16:=x.1.1
 vC x)
noncomputable def Cr (x:dH):nC:=(ue x).val
def CX (x:dH):Prop:=(ue x).ok
noncomputable def Av:Spec:={er:=(.st bB (.bp (.int .u64))),cg:=(.st (.slice aR) (.bp (.int .i64))),n:=2,pre:=CX,f:=Cr}
noncomputable def Fp:FuncId→Option Spec
 | 11=>some dA
 | 14=>some xL
 | 16=>some xK
 | _=>none
theorem JS:∀ f sp,Fp f=some sp→ah av f sp:=by
 intro f sp h
 unfold Fp at h
 split at h
 ·cases h;exact iR
 ·cases h;exact UM
 ·cases h;exact UL
 ·cases h
noncomputable def xX:FuncId→Option aG
 | 15=>some p6
 | 17=>some fu
 | 32=>some pZ
 | 33=>some pY
 | 34=>some pX
 | 35=>some pW
 | 36=>some pV
 | 37=>some pU
 | 38=>some pT
 | 39=>some pS
 | 40=>some pR
 | 41=>some pQ
 | 42=>some pP
 | 43=>some pO
 | 44=>some pN
 | 45=>some pM
 | 46=>some pL
 | 47=>some pK
 | 48=>some pJ
 | 49=>some pI
 | 50=>some pH
 | 51=>some pG
 | 52=>some pF
 | 53=>some pE
 | 54=>some pD
 | 59=>some pC
 | 60=>some pB
 | 61=>some pA
 | 62=>some pz
 | 63=>some pq
 | 81=>some fb
 | 92=>some nc
 | 94=>some na
 | 95=>some po
 | 96=>some lg
 | _=>none
theorem Gw:∀ f ps,xX f=some ps→aj av f ps:=by
 intro f ps h
 unfold xX at h
 split at h
 ·cases h;exact SW
 ·cases h;exact kM
 ·cases h;exact SV
 ·cases h;exact SU
 ·cases h;exact SS
 ·cases h;exact SR
 ·cases h;exact SQ
 ·cases h;exact SP
 ·cases h;exact SO
 ·cases h;exact SN
 ·cases h;exact SM
 ·cases h;exact SL
 ·cases h;exact SK
 ·cases h;exact SJ
 ·cases h;exact SI
 ·cases h;exact SH
 ·cases h;exact SG
 ·cases h;exact SF
 ·cases h;exact SE
 ·cases h;exact SD
 ·cases h;exact SC
 ·cases h;exact SB
 ·cases h;exact SA
 ·cases h;exact Sz
 ·cases h;exact Sy
 ·cases h;exact Sx
 ·cases h;exact Sw
 ·cases h;exact Sv
 ·cases h;exact Su
 ·cases h;exact Ss
 ·cases h;exact jU
 ·cases h;exact M3
 ·cases h;exact M0
 ·cases h;exact Sr
 ·cases h;exact JE
 ·cases h
section
variable (W:cB) (Q:nC→Prop) (x:dH)
theorem Uf:run (env Fp xX false (fun _ _=>none)) (fun _ _ _=>none) (bz Av Q) W 100000 (a7 5 Tryz.f5 (ag Tryz.f5) (bg (.st bB (.bp (.int .u64))) x)) [] []=(ue x).wp Q:=by kernel_rfl
end
theorem Vg:ah av 5 Av:=ah.env rfl (fun _ _ h=>h) (aE (E:=(env Fp xX false (fun _ _=>none))) (sp:=Av) (valid _ _ _ _) ⟨fun f sp h=>ah.env rfl (fun _ _ h=>h) (JS f sp h),fun f ps h=>aj.env rfl (fun _ _ h=>h) (Gw f ps h)⟩ (fn:=Tryz.f5) (c:=(ag Tryz.f5)) (by kernel_rfl) (by kernel_rfl) ue Uf (fun _ h=>Tr.ak h))
end Go.bM.RL
end
section
namespace Go.bM.RL
open Go.Proofs Go.bM
inductive KR where
 | h0 (v1:Int) (v2:ao)
noncomputable def kh (_x:Int):Tr (KR⊕Int):=
 .aa ((0:Nat) < 8)<|
 .aa ((1:Nat) < 8)<|
 .aa ((2:Nat) < 8)<|
 .aa ((3:Nat) < 8)<|
 .aa ((4:Nat) < 8)<|
 .aa ((5:Nat) < 8)<|
 .aa ((6:Nat) < 8)<|
 .aa ((7:Nat) < 8)<|
 .ret (.inl (.h0 0 [3,4,5,6,7,8,9,10]))
noncomputable def eK (x:Int):KR→Tr (KR⊕Int)
 | .h0 v1 v2=>
 .ite (cK v1 8) (
 .aa ((0:Int)≤v1)<|
 .aa ((v1:Int) < 8)<|
 .aa (((v1).toNat:Nat) < 8)<|
 .ite (al (gh (.int .u8) v2 (v1).toNat) x) (
 .ret (.inr v1)) (
 .ret (.inl (.h0 (aU .i64 v1 1) v2)))) (
 .ret (.inr (-1)))
noncomputable def hQ (x:Int):KR→Head
 | .h0 v1 v2=>
 {fr:={id:=111,kind:=.top,T:=[(.int .u8 x),.any,.any,(.ptr 0 []),(.int .i64 v1)]++List.replicate 11 .any,items:=[.lp (az [1,1,0,1,0,0] (ag Tryz.f111)),.a6 0,.code (az [1,1,1] (ag Tryz.f111))],D:=[],base:=0},
  bn:=[],
  H:=[.cell true 145 (.arr 8 (.int .u8) v2)]}
noncomputable def xx:FuncId→Nat→Nat→Option Cut
 | 111,0,0=>some {tmps:=[0,3,4],loops:=[],dead:=[],bn:=[]}
 | _,_,_=>none
noncomputable def mV (x:Int):Int:=gy (TC.kV (.int .i64)) (eK x) (kh x)
def C2 (x:Int):Prop:=∃ r,Ends (eK x) r (kh x)
noncomputable def ma:Spec:={er:=(.bp (.int .u8)),cg:=(.int .i64),n:=1,pre:=C2,f:=mV}
noncomputable def mv:FuncId→Option Spec
 | _=>none
theorem Eo:∀ f sp,mv f=some sp→ah av f sp:=by
 intro f sp h
 unfold mv at h
 split at h
 ·cases h
section
variable (W:cB) (Q:Int→Prop) (x:Int)
theorem NZ:run (env mv (fun _=>none) false (fun _ _=>none)) xx (bz ma Q) W 100000 (a7 111 Tryz.f111 (ag Tryz.f111) (bg (.bp (.int .u8)) x)) [] []=(kh x).wp (cr W Q (hQ x)):=by kernel_rfl
theorem I6 (v1:Int) (v2:List Int):run (env mv (fun _=>none) false (fun _ _=>none)) xx (bz ma Q) W 100000 (hQ x (.h0 v1 v2)).fr.enter (hQ x (.h0 v1 v2)).bn (hQ x (.h0 v1 v2)).H=(eK x (.h0 v1 v2)).wp (cr W Q (hQ x)):=by kernel_rfl
end
theorem K8 (W:cB) (Q:Int→Prop) (x:Int):∀ j:KR,run (env mv (fun _=>none) false (fun _ _=>none)) xx (bz ma Q) W 100000 (hQ x j).fr.enter (hQ x j).bn (hQ x j).H=(eK x j).wp (cr W Q (hQ x))
 | .h0 v1 v2=>I6 W Q x v1 v2
theorem Tg:ah av 111 ma:=ah.env rfl (fun _ _ h=>h) (dc (E:=(env mv (fun _=>none) false (fun _ _=>none))) (sp:=ma) (valid _ _ _ _) ⟨fun f sp h=>ah.env rfl (fun _ _ h=>h) (Eo f sp h),fun f ps h=>nomatch h⟩ (fn:=Tryz.f111) (c:=(ag Tryz.f111)) (by kernel_rfl) (by kernel_rfl) kh eK hQ NZ K8 (fun _ h=>dn h))
noncomputable def ny (x:Int):Tr Int:=
 .ite (al x 12) (
 .ret 0) (
 .ite (al x 19) (
 .ret 0) (
 .ite (al x 13) (
 .ret 1) (
 .ite (al x 20) (
 .ret 1) (
 .ite (al x 15) (
 .ret 2) (
 .ite (al x 14) (
 .ret 3) (
 .ite (al x 22) (
 .ret 4) (
 .ite (al x 16) (
 .ret 4) (
 .ite (al x 17) (
 .ret 5) (
 .ite (al x 23) (
 .ret 6) (
 .ite (al x 18) (
 .ret 7) (
 .ret (-1))))))))))))
noncomputable def ij (x:Int):Int:=(ny x).val
def xW (x:Int):Prop:=(ny x).ok
noncomputable def rJ:Spec:={er:=(.bp (.int .u8)),cg:=(.int .i64),n:=1,pre:=xW,f:=ij}
noncomputable def tb:FuncId→Option Spec
 | _=>none
theorem En:∀ f sp,tb f=some sp→ah av f sp:=by
 intro f sp h
 unfold tb at h
 split at h
 ·cases h
section
variable (W:cB) (Q:Int→Prop) (x:Int)
theorem NY:run (env tb (fun _=>none) false (fun _ _=>none)) (fun _ _ _=>none) (bz rJ Q) W 100000 (a7 112 Tryz.f112 (ag Tryz.f112) (bg (.bp (.int .u8)) x)) [] []=(ny x).wp Q:=by kernel_rfl
end
theorem Tf:ah av 112 rJ:=ah.env rfl (fun _ _ h=>h) (aE (E:=(env tb (fun _=>none) false (fun _ _=>none))) (sp:=rJ) (valid _ _ _ _) ⟨fun f sp h=>ah.env rfl (fun _ _ h=>h) (En f sp h),fun f ps h=>nomatch h⟩ (fn:=Tryz.f112) (c:=(ag Tryz.f112)) (by kernel_rfl) (by kernel_rfl) ny NY (fun _ h=>Tr.ak h))
noncomputable def gi (x:Int):Tr gO:=
 .aa (C2 x)<|
 .aa (xW x)<|
 .ite (al x 1) (
 .aa ((0:Nat) < 1)<|
 .aa ((0:Nat) < 1)<|
 .aa ((0:Nat) < 1)<|
 .aa ((0:Nat) < 1)<|
 .aa ((0:Nat) < 1)<|
 .aa ((0:Nat) < 1)<|
 .aa ((0:Nat) < 1)<|
 .aa (((0:Nat)+1:Nat)≤1)<|
 .aa (((0:Nat)+1:Nat)≤1)<|
 .aa (((0:Nat)+1:Nat)≤1)<|
 .aa (((0:Nat)+1:Nat)≤1)<|
 .aa (((0:Nat)+1:Nat)≤1)<|
 .aa (((0:Nat)+1:Nat)≤1)<|
 .aa (((0:Nat)+1:Nat)≤1)<|
 .aa ((0:Nat) < 7)<|
 .aa ((1:Nat) < 7)<|
 .aa ((2:Nat) < 7)<|
 .aa ((3:Nat) < 7)<|
 .aa ((4:Nat) < 7)<|
 .aa ((5:Nat) < 7)<|
 .aa ((6:Nat) < 7)<|
 .aa (((0:Nat)+7:Nat)≤7)<|
 let y0:bN:=(1,0)
 let y1:bA:=((-1),y0)
 let y2:bA:=((-1),(2,0))
 let y3:bN:=(1,1)
 let y4:bN:=(1,4)
 let y5:bA:=(0,y4)
 .ret [(1,((ByteArray.mk #[114,109]),((ByteArray.mk #[114]),(0,([136],y1))))),(1,((ByteArray.mk #[114]),((ByteArray.mk #[109]),(0,([138],y2))))),(1,((ByteArray.mk #[114,109]),((ByteArray.mk #[105,56]),(0,([198],(0,y3)))))),(4,((ByteArray.mk #[114,109]),((ByteArray.mk #[114]),(0,([137],y1))))),(4,((ByteArray.mk #[114]),((ByteArray.mk #[109]),(0,([139],y2))))),(4,((ByteArray.mk #[114,109]),((ByteArray.mk #[105,51,50]),(0,([199],y5))))),(8,((ByteArray.mk #[114]),((ByteArray.mk #[105,54,52]),(0,([184],(0,(3,8)))))))]) (
 .ite (al x 2) (
 .aa ((0:Nat) < 1)<|
 .aa (((0:Nat)+1:Nat)≤1)<|
 .aa ((0:Nat) < 1)<|
 .aa (((0:Nat)+1:Nat)≤1)<|
 let y6:bA:=((-1),(2,0))
 .ret [(4,((ByteArray.mk #[114]),((ByteArray.mk #[109]),(0,([141],y6)))))]) (
 .ite (al x 3) (
 .aa ((0:Nat) < 1)<|
 .aa ((0:Nat) < 1)<|
 .aa ((0:Nat) < 1)<|
 .aa ((0:Nat) < 1)<|
 .aa (((0:Nat)+1:Nat)≤1)<|
 .aa (((0:Nat)+1:Nat)≤1)<|
 .aa (((0:Nat)+1:Nat)≤1)<|
 .aa (((0:Nat)+1:Nat)≤1)<|
 .aa ((0:Nat) < 4)<|
 .aa ((1:Nat) < 4)<|
 .aa ((2:Nat) < 4)<|
 .aa ((3:Nat) < 4)<|
 .aa (((0:Nat)+4:Nat)≤4)<|
 let y7:Int:=(aO .u8 (imax (mV x) 0))
 let y8:Int:=(gH .u8 8 y7)
 let y9:bN:=(1,0)
 let y10:bA:=((-1),y9)
 let y11:bA:=((-1),(2,0))
 let y12:Int:=(aO .i64 y7)
 let y13:bN:=(1,1)
 let y14:bN:=(1,4)
 let y15:gO:=[(4,((ByteArray.mk #[114,109]),((ByteArray.mk #[114]),(0,([(aU .u8 y8 1)],y10))))),(4,((ByteArray.mk #[114]),((ByteArray.mk #[109]),(0,([(aU .u8 y8 3)],y11))))),(4,((ByteArray.mk #[114,109]),((ByteArray.mk #[105,56]),(0,([131],(y12,y13)))))),(4,((ByteArray.mk #[114,109]),((ByteArray.mk #[105,51,50]),(0,([129],(y12,y14))))))]
 .ret y15) (
 .ite (al x 4) (
 .aa ((0:Nat) < 1)<|
 .aa ((0:Nat) < 1)<|
 .aa ((0:Nat) < 1)<|
 .aa ((0:Nat) < 1)<|
 .aa (((0:Nat)+1:Nat)≤1)<|
 .aa (((0:Nat)+1:Nat)≤1)<|
 .aa (((0:Nat)+1:Nat)≤1)<|
 .aa (((0:Nat)+1:Nat)≤1)<|
 .aa ((0:Nat) < 4)<|
 .aa ((1:Nat) < 4)<|
 .aa ((2:Nat) < 4)<|
 .aa ((3:Nat) < 4)<|
 .aa (((0:Nat)+4:Nat)≤4)<|
 let y16:Int:=(aO .u8 (imax (mV x) 0))
 let y17:Int:=(gH .u8 8 y16)
 let y18:bN:=(1,0)
 let y19:bA:=((-1),y18)
 let y20:bA:=((-1),(2,0))
 let y21:Int:=(aO .i64 y16)
 let y22:bN:=(1,1)
 let y23:bN:=(1,4)
 let y24:gO:=[(4,((ByteArray.mk #[114,109]),((ByteArray.mk #[114]),(0,([(aU .u8 y17 1)],y19))))),(4,((ByteArray.mk #[114]),((ByteArray.mk #[109]),(0,([(aU .u8 y17 3)],y20))))),(4,((ByteArray.mk #[114,109]),((ByteArray.mk #[105,56]),(0,([131],(y21,y22)))))),(4,((ByteArray.mk #[114,109]),((ByteArray.mk #[105,51,50]),(0,([129],(y21,y23))))))]
 .ret y24) (
 .ite (al x 5) (
 .aa ((0:Nat) < 1)<|
 .aa ((0:Nat) < 1)<|
 .aa ((0:Nat) < 1)<|
 .aa ((0:Nat) < 1)<|
 .aa (((0:Nat)+1:Nat)≤1)<|
 .aa (((0:Nat)+1:Nat)≤1)<|
 .aa (((0:Nat)+1:Nat)≤1)<|
 .aa (((0:Nat)+1:Nat)≤1)<|
 .aa ((0:Nat) < 4)<|
 .aa ((1:Nat) < 4)<|
 .aa ((2:Nat) < 4)<|
 .aa ((3:Nat) < 4)<|
 .aa (((0:Nat)+4:Nat)≤4)<|
 let y25:Int:=(aO .u8 (imax (mV x) 0))
 let y26:Int:=(gH .u8 8 y25)
 let y27:bN:=(1,0)
 let y28:bA:=((-1),y27)
 let y29:bA:=((-1),(2,0))
 let y30:Int:=(aO .i64 y25)
 let y31:bN:=(1,1)
 let y32:bN:=(1,4)
 let y33:gO:=[(4,((ByteArray.mk #[114,109]),((ByteArray.mk #[114]),(0,([(aU .u8 y26 1)],y28))))),(4,((ByteArray.mk #[114]),((ByteArray.mk #[109]),(0,([(aU .u8 y26 3)],y29))))),(4,((ByteArray.mk #[114,109]),((ByteArray.mk #[105,56]),(0,([131],(y30,y31)))))),(4,((ByteArray.mk #[114,109]),((ByteArray.mk #[105,51,50]),(0,([129],(y30,y32))))))]
 .ret y33) (
 .ite (al x 6) (
 .aa ((0:Nat) < 1)<|
 .aa ((0:Nat) < 1)<|
 .aa ((0:Nat) < 1)<|
 .aa ((0:Nat) < 1)<|
 .aa (((0:Nat)+1:Nat)≤1)<|
 .aa (((0:Nat)+1:Nat)≤1)<|
 .aa (((0:Nat)+1:Nat)≤1)<|
 .aa (((0:Nat)+1:Nat)≤1)<|
 .aa ((0:Nat) < 4)<|
 .aa ((1:Nat) < 4)<|
 .aa ((2:Nat) < 4)<|
 .aa ((3:Nat) < 4)<|
 .aa (((0:Nat)+4:Nat)≤4)<|
 let y34:Int:=(aO .u8 (imax (mV x) 0))
 let y35:Int:=(gH .u8 8 y34)
 let y36:bN:=(1,0)
 let y37:bA:=((-1),y36)
 let y38:bA:=((-1),(2,0))
 let y39:Int:=(aO .i64 y34)
 let y40:bN:=(1,1)
 let y41:bN:=(1,4)
 let y42:gO:=[(4,((ByteArray.mk #[114,109]),((ByteArray.mk #[114]),(0,([(aU .u8 y35 1)],y37))))),(4,((ByteArray.mk #[114]),((ByteArray.mk #[109]),(0,([(aU .u8 y35 3)],y38))))),(4,((ByteArray.mk #[114,109]),((ByteArray.mk #[105,56]),(0,([131],(y39,y40)))))),(4,((ByteArray.mk #[114,109]),((ByteArray.mk #[105,51,50]),(0,([129],(y39,y41))))))]
 .ret y42) (
 .ite (al x 7) (
 .aa ((0:Nat) < 1)<|
 .aa ((0:Nat) < 1)<|
 .aa ((0:Nat) < 1)<|
 .aa ((0:Nat) < 1)<|
 .aa (((0:Nat)+1:Nat)≤1)<|
 .aa (((0:Nat)+1:Nat)≤1)<|
 .aa (((0:Nat)+1:Nat)≤1)<|
 .aa (((0:Nat)+1:Nat)≤1)<|
 .aa ((0:Nat) < 4)<|
 .aa ((1:Nat) < 4)<|
 .aa ((2:Nat) < 4)<|
 .aa ((3:Nat) < 4)<|
 .aa (((0:Nat)+4:Nat)≤4)<|
 let y43:Int:=(aO .u8 (imax (mV x) 0))
 let y44:Int:=(gH .u8 8 y43)
 let y45:bN:=(1,0)
 let y46:bA:=((-1),y45)
 let y47:bA:=((-1),(2,0))
 let y48:Int:=(aO .i64 y43)
 let y49:bN:=(1,1)
 let y50:bN:=(1,4)
 let y51:gO:=[(4,((ByteArray.mk #[114,109]),((ByteArray.mk #[114]),(0,([(aU .u8 y44 1)],y46))))),(4,((ByteArray.mk #[114]),((ByteArray.mk #[109]),(0,([(aU .u8 y44 3)],y47))))),(4,((ByteArray.mk #[114,109]),((ByteArray.mk #[105,56]),(0,([131],(y48,y49)))))),(4,((ByteArray.mk #[114,109]),((ByteArray.mk #[105,51,50]),(0,([129],(y48,y50))))))]
 .ret y51) (
 .ite (al x 8) (
 .aa ((0:Nat) < 1)<|
 .aa ((0:Nat) < 1)<|
 .aa ((0:Nat) < 1)<|
 .aa ((0:Nat) < 1)<|
 .aa (((0:Nat)+1:Nat)≤1)<|
 .aa (((0:Nat)+1:Nat)≤1)<|
 .aa (((0:Nat)+1:Nat)≤1)<|
 .aa (((0:Nat)+1:Nat)≤1)<|
 .aa ((0:Nat) < 4)<|
 .aa ((1:Nat) < 4)<|
 .aa ((2:Nat) < 4)<|
 .aa ((3:Nat) < 4)<|
 .aa (((0:Nat)+4:Nat)≤4)<|
 let y52:Int:=(aO .u8 (imax (mV x) 0))
 let y53:Int:=(gH .u8 8 y52)
 let y54:bN:=(1,0)
 let y55:bA:=((-1),y54)
 let y56:bA:=((-1),(2,0))
 let y57:Int:=(aO .i64 y52)
 let y58:bN:=(1,1)
 let y59:bN:=(1,4)
 let y60:gO:=[(4,((ByteArray.mk #[114,109]),((ByteArray.mk #[114]),(0,([(aU .u8 y53 1)],y55))))),(4,((ByteArray.mk #[114]),((ByteArray.mk #[109]),(0,([(aU .u8 y53 3)],y56))))),(4,((ByteArray.mk #[114,109]),((ByteArray.mk #[105,56]),(0,([131],(y57,y58)))))),(4,((ByteArray.mk #[114,109]),((ByteArray.mk #[105,51,50]),(0,([129],(y57,y59))))))]
 .ret y60) (
 .ite (al x 9) (
 .aa ((0:Nat) < 1)<|
 .aa ((0:Nat) < 1)<|
 .aa ((0:Nat) < 1)<|
 .aa ((0:Nat) < 1)<|
 .aa (((0:Nat)+1:Nat)≤1)<|
 .aa (((0:Nat)+1:Nat)≤1)<|
 .aa (((0:Nat)+1:Nat)≤1)<|
 .aa (((0:Nat)+1:Nat)≤1)<|
 .aa ((0:Nat) < 4)<|
 .aa ((1:Nat) < 4)<|
 .aa ((2:Nat) < 4)<|
 .aa ((3:Nat) < 4)<|
 .aa (((0:Nat)+4:Nat)≤4)<|
 let y61:Int:=(aO .u8 (imax (mV x) 0))
 let y62:Int:=(gH .u8 8 y61)
 let y63:bN:=(1,0)
 let y64:bA:=((-1),y63)
 let y65:bA:=((-1),(2,0))
 let y66:Int:=(aO .i64 y61)
 let y67:bN:=(1,1)
 let y68:bN:=(1,4)
 let y69:gO:=[(4,((ByteArray.mk #[114,109]),((ByteArray.mk #[114]),(0,([(aU .u8 y62 1)],y64))))),(4,((ByteArray.mk #[114]),((ByteArray.mk #[109]),(0,([(aU .u8 y62 3)],y65))))),(4,((ByteArray.mk #[114,109]),((ByteArray.mk #[105,56]),(0,([131],(y66,y67)))))),(4,((ByteArray.mk #[114,109]),((ByteArray.mk #[105,51,50]),(0,([129],(y66,y68))))))]
 .ret y69) (
 .ite (al x 10) (
 .aa ((0:Nat) < 1)<|
 .aa ((0:Nat) < 1)<|
 .aa ((0:Nat) < 1)<|
 .aa ((0:Nat) < 1)<|
 .aa (((0:Nat)+1:Nat)≤1)<|
 .aa (((0:Nat)+1:Nat)≤1)<|
 .aa (((0:Nat)+1:Nat)≤1)<|
 .aa (((0:Nat)+1:Nat)≤1)<|
 .aa ((0:Nat) < 4)<|
 .aa ((1:Nat) < 4)<|
 .aa ((2:Nat) < 4)<|
 .aa ((3:Nat) < 4)<|
 .aa (((0:Nat)+4:Nat)≤4)<|
 let y70:Int:=(aO .u8 (imax (mV x) 0))
 let y71:Int:=(gH .u8 8 y70)
 let y72:bN:=(1,0)
 let y73:bA:=((-1),y72)
 let y74:bA:=((-1),(2,0))
 let y75:Int:=(aO .i64 y70)
 let y76:bN:=(1,1)
 let y77:bN:=(1,4)
 let y78:gO:=[(4,((ByteArray.mk #[114,109]),((ByteArray.mk #[114]),(0,([(aU .u8 y71 1)],y73))))),(4,((ByteArray.mk #[114]),((ByteArray.mk #[109]),(0,([(aU .u8 y71 3)],y74))))),(4,((ByteArray.mk #[114,109]),((ByteArray.mk #[105,56]),(0,([131],(y75,y76)))))),(4,((ByteArray.mk #[114,109]),((ByteArray.mk #[105,51,50]),(0,([129],(y75,y77))))))]
 .ret y78) (
 .ite (al x 11) (
 .aa ((0:Nat) < 1)<|
 .aa ((0:Nat) < 1)<|
 .aa (((0:Nat)+1:Nat)≤1)<|
 .aa (((0:Nat)+1:Nat)≤1)<|
 .aa ((0:Nat) < 2)<|
 .aa ((1:Nat) < 2)<|
 .aa (((0:Nat)+2:Nat)≤2)<|
 let y79:bN:=(1,0)
 let y80:bA:=((-1),y79)
 let y81:bN:=(1,4)
 let y82:bA:=(0,y81)
 .ret [(4,((ByteArray.mk #[114,109]),((ByteArray.mk #[114]),(0,([133],y80))))),(4,((ByteArray.mk #[114,109]),((ByteArray.mk #[105,51,50]),(0,([247],y82)))))]) (
 .ite (al x 12) (
 .aa ((0:Nat) < 1)<|
 .aa (((0:Nat)+1:Nat)≤1)<|
 .aa ((0:Nat) < 1)<|
 .aa (((0:Nat)+1:Nat)≤1)<|
 let y83:bN:=(1,0)
 let y84:bA:=((ij x),y83)
 let y85:gO:=[(4,((ByteArray.mk #[114,109]),((ByteArray.mk #[45]),(0,([255],y84)))))]
 .ret y85) (
 .ite (al x 13) (
 .aa ((0:Nat) < 1)<|
 .aa (((0:Nat)+1:Nat)≤1)<|
 .aa ((0:Nat) < 1)<|
 .aa (((0:Nat)+1:Nat)≤1)<|
 let y86:bN:=(1,0)
 let y87:bA:=((ij x),y86)
 let y88:gO:=[(4,((ByteArray.mk #[114,109]),((ByteArray.mk #[45]),(0,([255],y87)))))]
 .ret y88) (
 .ite (al x 15) (
 .aa ((0:Nat) < 1)<|
 .aa (((0:Nat)+1:Nat)≤1)<|
 .aa ((0:Nat) < 1)<|
 .aa (((0:Nat)+1:Nat)≤1)<|
 let y89:bN:=(1,0)
 let y90:bA:=((ij x),y89)
 let y91:gO:=[(4,((ByteArray.mk #[114,109]),((ByteArray.mk #[45]),(0,([247],y90)))))]
 .ret y91) (
 .ite (al x 14) (
 .aa ((0:Nat) < 1)<|
 .aa (((0:Nat)+1:Nat)≤1)<|
 .aa ((0:Nat) < 1)<|
 .aa (((0:Nat)+1:Nat)≤1)<|
 let y92:bN:=(1,0)
 let y93:bA:=((ij x),y92)
 let y94:gO:=[(4,((ByteArray.mk #[114,109]),((ByteArray.mk #[45]),(0,([247],y93)))))]
 .ret y94) (
 .ite (al x 22) (
 .aa ((0:Nat) < 1)<|
 .aa (((0:Nat)+1:Nat)≤1)<|
 .aa ((0:Nat) < 1)<|
 .aa (((0:Nat)+1:Nat)≤1)<|
 let y95:bN:=(1,0)
 let y96:bA:=((ij x),y95)
 let y97:gO:=[(4,((ByteArray.mk #[114,109]),((ByteArray.mk #[45]),(0,([247],y96)))))]
 .ret y97) (
 .ite (al x 23) (
 .aa ((0:Nat) < 1)<|
 .aa (((0:Nat)+1:Nat)≤1)<|
 .aa ((0:Nat) < 1)<|
 .aa (((0:Nat)+1:Nat)≤1)<|
 let y98:bN:=(1,0)
 let y99:bA:=((ij x),y98)
 let y100:gO:=[(4,((ByteArray.mk #[114,109]),((ByteArray.mk #[45]),(0,([247],y99)))))]
 .ret y100) (
 .ite (al x 19) (
 .aa ((0:Nat) < 1)<|
 .aa ((0:Nat) < 1)<|
 .aa (((0:Nat)+1:Nat)≤1)<|
 .aa (((0:Nat)+1:Nat)≤1)<|
 .aa ((0:Nat) < 2)<|
 .aa ((1:Nat) < 2)<|
 .aa (((0:Nat)+2:Nat)≤2)<|
 let y101:bN:=(1,1)
 let y102:bN:=(1,0)
 let y103:bA:=((ij x),y102)
 let y104:gO:=[(4,((ByteArray.mk #[114,109]),((ByteArray.mk #[117,56]),(0,([193],((ij x),y101)))))),(4,((ByteArray.mk #[114,109]),((ByteArray.mk #[99,108]),(0,([211],y103)))))]
 .ret y104) (
 .ite (al x 20) (
 .aa ((0:Nat) < 1)<|
 .aa ((0:Nat) < 1)<|
 .aa (((0:Nat)+1:Nat)≤1)<|
 .aa (((0:Nat)+1:Nat)≤1)<|
 .aa ((0:Nat) < 2)<|
 .aa ((1:Nat) < 2)<|
 .aa (((0:Nat)+2:Nat)≤2)<|
 let y105:bN:=(1,1)
 let y106:bN:=(1,0)
 let y107:bA:=((ij x),y106)
 let y108:gO:=[(4,((ByteArray.mk #[114,109]),((ByteArray.mk #[117,56]),(0,([193],((ij x),y105)))))),(4,((ByteArray.mk #[114,109]),((ByteArray.mk #[99,108]),(0,([211],y107)))))]
 .ret y108) (
 .ite (al x 16) (
 .aa ((0:Nat) < 1)<|
 .aa ((0:Nat) < 1)<|
 .aa (((0:Nat)+1:Nat)≤1)<|
 .aa (((0:Nat)+1:Nat)≤1)<|
 .aa ((0:Nat) < 2)<|
 .aa ((1:Nat) < 2)<|
 .aa (((0:Nat)+2:Nat)≤2)<|
 let y109:bN:=(1,1)
 let y110:bN:=(1,0)
 let y111:bA:=((ij x),y110)
 let y112:gO:=[(4,((ByteArray.mk #[114,109]),((ByteArray.mk #[117,56]),(0,([193],((ij x),y109)))))),(4,((ByteArray.mk #[114,109]),((ByteArray.mk #[99,108]),(0,([211],y111)))))]
 .ret y112) (
 .ite (al x 17) (
 .aa ((0:Nat) < 1)<|
 .aa ((0:Nat) < 1)<|
 .aa (((0:Nat)+1:Nat)≤1)<|
 .aa (((0:Nat)+1:Nat)≤1)<|
 .aa ((0:Nat) < 2)<|
 .aa ((1:Nat) < 2)<|
 .aa (((0:Nat)+2:Nat)≤2)<|
 let y113:bN:=(1,1)
 let y114:bN:=(1,0)
 let y115:bA:=((ij x),y114)
 let y116:gO:=[(4,((ByteArray.mk #[114,109]),((ByteArray.mk #[117,56]),(0,([193],((ij x),y113)))))),(4,((ByteArray.mk #[114,109]),((ByteArray.mk #[99,108]),(0,([211],y115)))))]
 .ret y116) (
 .ite (al x 18) (
 .aa ((0:Nat) < 1)<|
 .aa ((0:Nat) < 1)<|
 .aa (((0:Nat)+1:Nat)≤1)<|
 .aa (((0:Nat)+1:Nat)≤1)<|
 .aa ((0:Nat) < 2)<|
 .aa ((1:Nat) < 2)<|
 .aa (((0:Nat)+2:Nat)≤2)<|
 let y117:bN:=(1,1)
 let y118:bN:=(1,0)
 let y119:bA:=((ij x),y118)
 let y120:gO:=[(4,((ByteArray.mk #[114,109]),((ByteArray.mk #[117,56]),(0,([193],((ij x),y117)))))),(4,((ByteArray.mk #[114,109]),((ByteArray.mk #[99,108]),(0,([211],y119)))))]
 .ret y120) (
 .ite (al x 21) (
 .aa ((0:Nat) < 2)<|
 .aa ((1:Nat) < 2)<|
 .aa (((0:Nat)+2:Nat)≤2)<|
 .aa ((0:Nat) < 1)<|
 .aa (((0:Nat)+1:Nat)≤1)<|
 let y121:bA:=((-1),(2,0))
 .ret [(4,((ByteArray.mk #[114]),((ByteArray.mk #[114,109]),(0,([15,175],y121)))))]) (
 .ret ([]:List kI))))))))))))))))))))))))
noncomputable def kD (x:Int):gO:=(gi x).val
def E9 (x:Int):Prop:=(gi x).ok
noncomputable def xB:Spec:={er:=(.bp (.int .u8)),cg:=(.slice vO),n:=1,pre:=E9,f:=kD}
noncomputable def x7:FuncId→Option Spec
 | 111=>some ma
 | 112=>some rJ
 | _=>none
theorem GA:∀ f sp,x7 f=some sp→ah av f sp:=by
 intro f sp h
 unfold x7 at h
 split at h
 ·cases h;exact Tg
 ·cases h;exact Tf
 ·cases h
section
variable (W:cB) (Q:gO→Prop) (x:Int)
theorem Qz:run (env x7 (fun _=>none) false (fun _ _=>none)) (fun _ _ _=>none) (bz xB Q) W 100000 (a7 97 Tryz.f97 (ag Tryz.f97) (bg (.bp (.int .u8)) x)) [] []=(gi x).wp Q:=by kernel_rfl
end
theorem Uy:ah av 97 xB:=ah.env rfl (fun _ _ h=>h) (aE (E:=(env x7 (fun _=>none) false (fun _ _=>none))) (sp:=xB) (valid _ _ _ _) ⟨fun f sp h=>ah.env rfl (fun _ _ h=>h) (GA f sp h),fun f ps h=>nomatch h⟩ (fn:=Tryz.f97) (c:=(ag Tryz.f97)) (by kernel_rfl) (by kernel_rfl) gi Qz (fun _ h=>Tr.ak h))
noncomputable def oT (x:bN):Tr gO:=
 .aa ((16:Int)≠0)<|
 .ite (al x.1 24) (
 .aa ((0:Nat) < 1)<|
 .aa (((0:Nat)+1:Nat)≤1)<|
 .aa ((0:Nat) < 1)<|
 .aa (((0:Nat)+1:Nat)≤1)<|
 let y0:bA:=(0,(3,0))
 .ret [(16,((ByteArray.mk #[114]),((ByteArray.mk #[45]),(0,([80],y0)))))]) (
 .ite (al x.1 25) (
 .aa ((0:Nat) < 1)<|
 .aa (((0:Nat)+1:Nat)≤1)<|
 .aa ((0:Nat) < 1)<|
 .aa (((0:Nat)+1:Nat)≤1)<|
 let y1:bA:=(0,(3,0))
 .ret [(16,((ByteArray.mk #[114]),((ByteArray.mk #[45]),(0,([88],y1)))))]) (
 .ite (al x.1 26) (
 .aa ((0:Nat) < 1)<|
 .aa (((0:Nat)+1:Nat)≤1)<|
 .aa ((0:Nat) < 1)<|
 .aa (((0:Nat)+1:Nat)≤1)<|
 let y2:bA:=(0,(0,4))
 .ret [(16,((ByteArray.mk #[45]),((ByteArray.mk #[105,51,50]),(0,([232],y2)))))]) (
 .ite (al x.1 28) (
 .aa ((0:Nat) < 1)<|
 .aa ((0:Nat) < 1)<|
 .aa (((0:Nat)+1:Nat)≤1)<|
 .aa (((0:Nat)+1:Nat)≤1)<|
 .aa ((0:Nat) < 2)<|
 .aa ((1:Nat) < 2)<|
 .aa (((0:Nat)+2:Nat)≤2)<|
 let y3:bA:=(0,(0,4))
 let y4:bN:=(1,0)
 .ret [(16,((ByteArray.mk #[45]),((ByteArray.mk #[105,51,50]),(0,([233],y3))))),(16,((ByteArray.mk #[114,109]),((ByteArray.mk #[45]),(0,([255],(4,y4))))))]) (
 .ite (al x.1 29) (
 .aa ((0:Nat) < 2)<|
 .aa ((1:Nat) < 2)<|
 .aa (((0:Nat)+2:Nat)≤2)<|
 .aa ((0:Nat) < 1)<|
 .aa (((0:Nat)+1:Nat)≤1)<|
 let y5:Int:=(kx .u8 x.2 16)
 let y6:bA:=(0,(0,4))
 .ret [(16,((ByteArray.mk #[45]),((ByteArray.mk #[105,51,50]),(0,([15,(aU .u8 128 y5)],y6)))))]) (
 .ite (al x.1 27) (
 .aa ((0:Nat) < 1)<|
 .aa (((0:Nat)+1:Nat)≤1)<|
 .aa ((0:Nat) < 1)<|
 .aa (((0:Nat)+1:Nat)≤1)<|
 let y7:bA:=(0,(0,0))
 .ret [(16,((ByteArray.mk #[45]),((ByteArray.mk #[45]),(0,([195],y7)))))]) (
 .ite (al x.1 34) (
 .aa ((0:Nat) < 1)<|
 .aa (((0:Nat)+1:Nat)≤1)<|
 .aa ((0:Nat) < 1)<|
 .aa (((0:Nat)+1:Nat)≤1)<|
 let y8:bA:=(0,(0,0))
 .ret [(16,((ByteArray.mk #[45]),((ByteArray.mk #[45]),(0,([144],y8)))))]) (
 .ite (al x.1 30) (
 .aa ((0:Nat) < 2)<|
 .aa ((1:Nat) < 2)<|
 .aa (((0:Nat)+2:Nat)≤2)<|
 .aa ((0:Nat) < 1)<|
 .aa (((0:Nat)+1:Nat)≤1)<|
 let y9:Int:=(kx .u8 x.2 16)
 let y10:bA:=((-1),(2,0))
 .ret [(4,((ByteArray.mk #[114]),((ByteArray.mk #[114,109]),(0,([15,(aU .u8 64 y9)],y10)))))]) (
 .ite (al x.1 31) (
 .aa ((0:Nat) < 2)<|
 .aa ((1:Nat) < 2)<|
 .aa (((0:Nat)+2:Nat)≤2)<|
 .aa ((0:Nat) < 1)<|
 .aa (((0:Nat)+1:Nat)≤1)<|
 let y11:Int:=(kx .u8 x.2 16)
 let y12:bN:=(1,0)
 .ret [(1,((ByteArray.mk #[114,109]),((ByteArray.mk #[45]),(0,([15,(aU .u8 144 y11)],(0,y12))))))]) (
 .ite (al x.1 32) (
 .aa ((0:Nat) < 2)<|
 .aa ((1:Nat) < 2)<|
 .aa (((0:Nat)+2:Nat)≤2)<|
 .aa ((0:Nat) < 1)<|
 .aa (((0:Nat)+1:Nat)≤1)<|
 let y13:bA:=((-1),(2,0))
 .ret [(4,((ByteArray.mk #[114]),((ByteArray.mk #[114,109]),(0,([15,182],y13)))))]) (
 .ite (al x.1 33) (
 .aa ((0:Nat) < 2)<|
 .aa ((1:Nat) < 2)<|
 .aa (((0:Nat)+2:Nat)≤2)<|
 .aa ((0:Nat) < 1)<|
 .aa (((0:Nat)+1:Nat)≤1)<|
 let y14:bA:=((-1),(2,0))
 .ret [(4,((ByteArray.mk #[114]),((ByteArray.mk #[114,109]),(0,([15,190],y14)))))]) (
 .ite (al x.1 35) (
 .aa ((0:Nat) < 2)<|
 .aa ((1:Nat) < 2)<|
 .aa ((0:Nat) < 2)<|
 .aa ((1:Nat) < 2)<|
 .aa (((0:Nat)+2:Nat)≤2)<|
 .aa (((0:Nat)+2:Nat)≤2)<|
 .aa ((0:Nat) < 2)<|
 .aa ((1:Nat) < 2)<|
 .aa (((0:Nat)+2:Nat)≤2)<|
 let y15:bA:=((-1),(2,0))
 let y16:bN:=(1,0)
 .ret [(32,((ByteArray.mk #[120]),((ByteArray.mk #[120,109]),(243,([15,111],y15))))),(32,((ByteArray.mk #[109]),((ByteArray.mk #[120]),(243,([15,127],((-1),y16))))))]) (
 .ite (al x.1 36) (
 .aa ((0:Nat) < 2)<|
 .aa ((1:Nat) < 2)<|
 .aa (((0:Nat)+2:Nat)≤2)<|
 .aa ((0:Nat) < 1)<|
 .aa (((0:Nat)+1:Nat)≤1)<|
 let y17:bA:=((-1),(2,0))
 .ret [(32,((ByteArray.mk #[120]),((ByteArray.mk #[120,109]),(102,([15,239],y17)))))]) (
 .ite (al x.1 37) (
 .aa ((0:Nat) < 3)<|
 .aa ((1:Nat) < 3)<|
 .aa ((2:Nat) < 3)<|
 .aa (((0:Nat)+3:Nat)≤3)<|
 .aa ((0:Nat) < 1)<|
 .aa (((0:Nat)+1:Nat)≤1)<|
 let y18:bA:=((-1),(2,0))
 .ret [(32,((ByteArray.mk #[120]),((ByteArray.mk #[120,109]),(102,([15,56,220],y18)))))]) (
 .ite (al x.1 38) (
 .aa ((0:Nat) < 3)<|
 .aa ((1:Nat) < 3)<|
 .aa ((2:Nat) < 3)<|
 .aa (((0:Nat)+3:Nat)≤3)<|
 .aa ((0:Nat) < 1)<|
 .aa (((0:Nat)+1:Nat)≤1)<|
 let y19:bA:=((-1),(2,0))
 .ret [(32,((ByteArray.mk #[120]),((ByteArray.mk #[120,109]),(102,([15,56,221],y19)))))]) (
 .ite (al x.1 39) (
 .aa ((0:Nat) < 3)<|
 .aa ((1:Nat) < 3)<|
 .aa ((2:Nat) < 3)<|
 .aa (((0:Nat)+3:Nat)≤3)<|
 .aa ((0:Nat) < 1)<|
 .aa (((0:Nat)+1:Nat)≤1)<|
 .ret [(32,((ByteArray.mk #[120]),((ByteArray.mk #[120,109]),(102,([15,58,68],((-1),(2,1)))))))]) (
 .aa (E9 x.1)<|
 .ret (kD x.1)))))))))))))))))
noncomputable def bG (x:bN):gO:=(oT x).val
def ll (x:bN):Prop:=(oT x).ok
noncomputable def xE:Spec:={er:=(.st (.int .u8) (.bp (.int .u8))),cg:=(.slice vO),n:=1,pre:=ll,f:=bG}
noncomputable def yu:FuncId→Option Spec
 | 97=>some xB
 | _=>none
theorem GY:∀ f sp,yu f=some sp→ah av f sp:=by
 intro f sp h
 unfold yu at h
 split at h
 ·cases h;exact Uy
 ·cases h
section
variable (W:cB) (Q:gO→Prop) (x:bN)
theorem QV:run (env yu (fun _=>none) false (fun _ _=>none)) (fun _ _ _=>none) (bz xE Q) W 100000 (a7 65 Tryz.f65 (ag Tryz.f65) (bg (.st (.int .u8) (.bp (.int .u8))) x)) [] []=(oT x).wp Q:=by kernel_rfl
end
theorem UD:ah av 65 xE:=ah.env rfl (fun _ _ h=>h) (aE (E:=(env yu (fun _=>none) false (fun _ _=>none))) (sp:=xE) (valid _ _ _ _) ⟨fun f sp h=>ah.env rfl (fun _ _ h=>h) (GY f sp h),fun f ps h=>nomatch h⟩ (fn:=Tryz.f65) (c:=(ag Tryz.f65)) (by kernel_rfl) (by kernel_rfl) oT QV (fun _ h=>Tr.ak h))
noncomputable def oS (x:bN):Tr Bool:=
 .ite (al x.2 4) (
 .ite ((al x.1 4)==false) (
 let y0:=(al x.1 8)
 .ret y0) (
 .ret true)) (
 .ite (al x.2 16) (
 let y1:=(al x.1 8)
 .ret y1) (
 .ite (al x.2 32) (
 .ret (al x.1 16)) (
 .ret (al x.1 x.2))))
noncomputable def LP (x:bN):Bool:=(oS x).val
def Fg (x:bN):Prop:=(oS x).ok
noncomputable def xD:Spec:={er:=(.st (.int .i64) (.bp (.int .i64))),cg:=.bool,n:=1,pre:=Fg,f:=LP}
noncomputable def yr:FuncId→Option Spec
 | _=>none
theorem GX:∀ f sp,yr f=some sp→ah av f sp:=by
 intro f sp h
 unfold yr at h
 split at h
 ·cases h
section
variable (W:cB) (Q:Bool→Prop) (x:bN)
theorem QU:run (env yr (fun _=>none) false (fun _ _=>none)) (fun _ _ _=>none) (bz xD Q) W 100000 (a7 66 Tryz.f66 (ag Tryz.f66) (bg (.st (.int .i64) (.bp (.int .i64))) x)) [] []=(oS x).wp Q:=by kernel_rfl
end
theorem UC:ah av 66 xD:=ah.env rfl (fun _ _ h=>h) (aE (E:=(env yr (fun _=>none) false (fun _ _=>none))) (sp:=xD) (valid _ _ _ _) ⟨fun f sp h=>ah.env rfl (fun _ _ h=>h) (GX f sp h),fun f ps h=>nomatch h⟩ (fn:=Tryz.f66) (c:=(ag Tryz.f66)) (by kernel_rfl) (by kernel_rfl) oS QU (fun _ h=>Tr.ak h))
noncomputable def rk (x:Int):Tr DO:=
 .ret (1,(x,((-1),((-1),(0,(0,(false,0)))))))
noncomputable def Kk (x:Int):DO:=(rk x).val
def C1 (x:Int):Prop:=(rk x).ok
noncomputable def rI:Spec:={er:=(.bp (.int .i64)),cg:=CO,n:=1,pre:=C1,f:=Kk}
noncomputable def ta:FuncId→Option Spec
 | _=>none
theorem Em:∀ f sp,ta f=some sp→ah av f sp:=by
 intro f sp h
 unfold ta at h
 split at h
 ·cases h
section
variable (W:cB) (Q:DO→Prop) (x:Int)
theorem NX:run (env ta (fun _=>none) false (fun _ _=>none)) (fun _ _ _=>none) (bz rI Q) W 100000 (a7 113 Tryz.f113 (ag Tryz.f113) (bg (.bp (.int .i64)) x)) [] []=(rk x).wp Q:=by kernel_rfl
end
theorem Te:ah av 113 rI:=ah.env rfl (fun _ _ h=>h) (aE (E:=(env ta (fun _=>none) false (fun _ _=>none))) (sp:=rI) (valid _ _ _ _) ⟨fun f sp h=>ah.env rfl (fun _ _ h=>h) (Em f sp h),fun f ps h=>nomatch h⟩ (fn:=Tryz.f113) (c:=(ag Tryz.f113)) (by kernel_rfl) (by kernel_rfl) rk NX (fun _ h=>Tr.ak h))
noncomputable def oN (x:DO):Tr Bool:=
 .ite (al x.1 1) (
 let y0:=x.2.1
 .aa (C1 y0)<|
 .ite ((dm CO x (Kk y0))==true) (
 .ite ((b5 0 y0)==true) (
 .ret (cK y0 16)) (
 .ret false)) (
 .ret false)) (
 .ite ((dY x.1 2)==false) (
 let y1:=x.2.1
 .ite ((dY y1 0)==false) (
 let y2:=x.2.2
 let y3:=y2.2
 let y4:=y3.2
 let y5:=y4.2
 let y6:=y5.2
 .ite ((dY y6.2 0)==false) (
 let y7:=y5.1
 .ite ((cK y7 (-2147483648))==false) (
 .ite (b5 2147483648 y7) (
 .ret false) (
 .ite y6.1 (
 let y8:=y2.1
 .ite ((al y8 (-1))==true) (
 let y9:=y3.1
 .ite ((al y9 (-1))==true) (
 let y10:=y4.1
 let y11:=(al y10 1)
 .ret y11) (
 .ret false)) (
 .ret false)) (
 let y12:=y2.1
 .ite ((cK y12 (-1))==false) (
 .ite ((cK 15 y12)==false) (
 let y13:=y3.1
 .ite ((cK y13 (-1))==false) (
 .ite ((cK 15 y13)==false) (
 .ite (al y13 4) (
 .ret false) (
 .ite (cK y13 0) (
 let y14:=y4.1
 let y15:=(al y14 1)
 .ret y15) (
 let y16:=y4.1
 let y17:=(al y16 1)
 .ite (y17==false) (
 .ite ((al y16 2)==false) (
 .ite ((al y16 4)==false) (
 .ret (al y16 8)) (
 .ret true)) (
 .ret true)) (
 .ret true)))) (
 .ret false)) (
 .ret false)) (
 .ret false)) (
 .ret false)))) (
 .ret false)) (
 .ret false)) (
 .ret false)) (
 .ret false))
noncomputable def bR (x:DO):Bool:=(oN x).val
def wz (x:DO):Prop:=(oN x).ok
noncomputable def xA:Spec:={er:=(.bp CO),cg:=.bool,n:=1,pre:=wz,f:=bR}
noncomputable def x6:FuncId→Option Spec
 | 113=>some rI
 | _=>none
theorem Gz:∀ f sp,x6 f=some sp→ah av f sp:=by
 intro f sp h
 unfold x6 at h
 split at h
 ·cases h;exact Te
 ·cases h
section
variable (W:cB) (Q:Bool→Prop) (x:DO)
theorem Qy:run (env x6 (fun _=>none) false (fun _ _=>none)) (fun _ _ _=>none) (bz xA Q) W 100000 (a7 98 Tryz.f98 (ag Tryz.f98) (bg (.bp CO) x)) [] []=(oN x).wp Q:=by kernel_rfl
end
theorem Ux:ah av 98 xA:=ah.env rfl (fun _ _ h=>h) (aE (E:=(env x6 (fun _=>none) false (fun _ _=>none))) (sp:=xA) (valid _ _ _ _) ⟨fun f sp h=>ah.env rfl (fun _ _ h=>h) (Gz f sp h),fun f ps h=>nomatch h⟩ (fn:=Tryz.f98) (c:=(ag Tryz.f98)) (by kernel_rfl) (by kernel_rfl) oN Qy (fun _ h=>Tr.ak h))
noncomputable def xh (x:Int):Tr DO:=
 .ret (3,(0,((-1),((-1),(0,(0,(false,x)))))))
noncomputable def cL (x:Int):DO:=(xh x).val
def wv (x:Int):Prop:=(xh x).ok
noncomputable def xz:Spec:={er:=(.bp (.int .i64)),cg:=CO,n:=1,pre:=wv,f:=cL}
noncomputable def x5:FuncId→Option Spec
 | _=>none
theorem Gy:∀ f sp,x5 f=some sp→ah av f sp:=by
 intro f sp h
 unfold x5 at h
 split at h
 ·cases h
section
variable (W:cB) (Q:DO→Prop) (x:Int)
theorem Qx:run (env x5 (fun _=>none) false (fun _ _=>none)) (fun _ _ _=>none) (bz xz Q) W 100000 (a7 99 Tryz.f99 (ag Tryz.f99) (bg (.bp (.int .i64)) x)) [] []=(xh x).wp Q:=by kernel_rfl
end
theorem Uw:ah av 99 xz:=ah.env rfl (fun _ _ h=>h) (aE (E:=(env x5 (fun _=>none) false (fun _ _=>none))) (sp:=xz) (valid _ _ _ _) ⟨fun f sp h=>ah.env rfl (fun _ _ h=>h) (Gy f sp h),fun f ps h=>nomatch h⟩ (fn:=Tryz.f99) (c:=(ag Tryz.f99)) (by kernel_rfl) (by kernel_rfl) xh Qx (fun _ h=>Tr.ak h))
noncomputable def rp (x:Int):Tr DO:=
 .aa ((16:Int)≠0)<|
 .aa ((16:Int)≠0)<|
 .ret (1,((aU .i64 (kx .i64 (aU .i64 (kx .i64 x 16) 16) 16) 16),((-1),((-1),(0,(0,(false,0)))))))
noncomputable def fX (x:Int):DO:=(rp x).val
def jD (x:Int):Prop:=(rp x).ok
noncomputable def rO:Spec:={er:=(.bp (.int .i64)),cg:=CO,n:=1,pre:=jD,f:=fX}
noncomputable def tm:FuncId→Option Spec
 | _=>none
theorem Ex:∀ f sp,tm f=some sp→ah av f sp:=by
 intro f sp h
 unfold tm at h
 split at h
 ·cases h
section
variable (W:cB) (Q:DO→Prop) (x:Int)
theorem N7:run (env tm (fun _=>none) false (fun _ _=>none)) (fun _ _ _=>none) (bz rO Q) W 100000 (a7 100 Tryz.f100 (ag Tryz.f100) (bg (.bp (.int .i64)) x)) [] []=(rp x).wp Q:=by kernel_rfl
end
theorem Tl:ah av 100 rO:=ah.env rfl (fun _ _ h=>h) (aE (E:=(env tm (fun _=>none) false (fun _ _=>none))) (sp:=rO) (valid _ _ _ _) ⟨fun f sp h=>ah.env rfl (fun _ _ h=>h) (Ex f sp h),fun f ps h=>nomatch h⟩ (fn:=Tryz.f100) (c:=(ag Tryz.f100)) (by kernel_rfl) (by kernel_rfl) rp N7 (fun _ h=>Tr.ak h))
end Go.bM.RL
end
section
namespace Go.bM.RL
open Go.Proofs Go.bM
inductive TS where
 | h0
noncomputable def oR (x:xp):Tr (TS⊕Bool):=
 let y0:Int:=x.1.1
 let y1:Bool:=((al y0 1)==true)
 .ite y1 (
 .aa (wz x.1)<|
 let y2:=((al y0 2)==true)
 .ite y2 (
 .aa (wz x.1)<|
 let y3:=((al y0 3)==true)
 .ite y3 (
 let y4:=x.1.2
 let y5:=y4.2.2.2.2.2.2
 .aa (wv y5)<|
 .ite y1 (
 let y6:=y4.1
 let y7:=((b5 16 y6)==true)
 .ite y7 (
 let y8:=((cK y6 32)==true)
 .ite y8 (
 .aa (jD y6)<|
 let y9:=(x.2==(ByteArray.mk #[114]))
 .ite y9 (
 let y10:=(bR x.1)
 .ret (.inr y10)) (
 let y11:=(x.2==(ByteArray.mk #[109]))
 .ite y11 (
 let y12:=(bR x.1)
 .ret (.inr y12)) (
 let y13:=(x.2==(ByteArray.mk #[114,109]))
 .ite y13 (
 let y14:=(bR x.1)
 let y15:=(y14==false)
 .ite y15 (
 .ret (.inr y14)) (
 .ret (.inr true))) (
 let y16:=(x.2==(ByteArray.mk #[105,56]))
 .ite y16 (
 let y17:=(dm CO x.1 (cL y5))
 let y18:=(y17==true)
 .ite y18 (
 let y19:=((b5 (-128) y5)==true)
 .ite y19 (
 let y20:=(cK y5 128)
 .ret (.inr y20)) (
 .ret (.inr false))) (
 .ret (.inr false))) (
 let y21:=(x.2==(ByteArray.mk #[117,56]))
 .ite y21 (
 let y22:=(dm CO x.1 (cL y5))
 let y23:=(y22==true)
 .ite y23 (
 let y24:=((b5 0 y5)==true)
 .ite y24 (
 let y25:=(cK y5 256)
 .ret (.inr y25)) (
 .ret (.inr false))) (
 .ret (.inr false))) (
 let y26:=(x.2==(ByteArray.mk #[105,51,50]))
 .ite y26 (
 let y27:=(dm CO x.1 (cL y5))
 let y28:=(y27==true)
 .ite y28 (
 let y29:=((b5 (-2147483648) y5)==true)
 .ite y29 (
 let y30:=(cK y5 2147483648)
 .ret (.inr y30)) (
 .ret (.inr false))) (
 .ret (.inr false))) (
 let y31:=(x.2==(ByteArray.mk #[105,54,52]))
 .ite y31 (
 let y32:=(dm CO x.1 (cL y5))
 .ret (.inr y32)) (
 let y33:=(x.2==(ByteArray.mk #[120]))
 .ite y33 (
 let y34:=(dm CO x.1 (fX y6))
 .ret (.inr y34)) (
 let y35:=(x.2==(ByteArray.mk #[120,109]))
 .ite y35 (
 let y36:=(dm CO x.1 (fX y6))
 let y37:=(y36==false)
 .ite y37 (
 let y38:=(bR x.1)
 .ret (.inr y38)) (
 .ret (.inr true))) (
 let y39:=(x.2==(ByteArray.mk #[99,108]))
 .ite y39 (
 let y40:=(bR x.1)
 let y41:=(y40==true)
 .ite y41 (
 let y42:=(al y6 1)
 .ret (.inr y42)) (
 .ret (.inr false))) (
 .ret (.inl (.h0))))))))))))) (
 let y43:=(x.2==(ByteArray.mk #[114]))
 .ite y43 (
 let y44:=(bR x.1)
 .ret (.inr y44)) (
 let y45:=(x.2==(ByteArray.mk #[109]))
 .ite y45 (
 let y46:=(bR x.1)
 .ret (.inr y46)) (
 let y47:=(x.2==(ByteArray.mk #[114,109]))
 .ite y47 (
 let y48:=(bR x.1)
 let y49:=(y48==false)
 .ite y49 (
 .ret (.inr y48)) (
 .ret (.inr true))) (
 let y50:=(x.2==(ByteArray.mk #[105,56]))
 .ite y50 (
 let y51:=(dm CO x.1 (cL y5))
 let y52:=(y51==true)
 .ite y52 (
 let y53:=((b5 (-128) y5)==true)
 .ite y53 (
 let y54:=(cK y5 128)
 .ret (.inr y54)) (
 .ret (.inr false))) (
 .ret (.inr false))) (
 let y55:=(x.2==(ByteArray.mk #[117,56]))
 .ite y55 (
 let y56:=(dm CO x.1 (cL y5))
 let y57:=(y56==true)
 .ite y57 (
 let y58:=((b5 0 y5)==true)
 .ite y58 (
 let y59:=(cK y5 256)
 .ret (.inr y59)) (
 .ret (.inr false))) (
 .ret (.inr false))) (
 let y60:=(x.2==(ByteArray.mk #[105,51,50]))
 .ite y60 (
 let y61:=(dm CO x.1 (cL y5))
 let y62:=(y61==true)
 .ite y62 (
 let y63:=((b5 (-2147483648) y5)==true)
 .ite y63 (
 let y64:=(cK y5 2147483648)
 .ret (.inr y64)) (
 .ret (.inr false))) (
 .ret (.inr false))) (
 let y65:=(x.2==(ByteArray.mk #[105,54,52]))
 .ite y65 (
 let y66:=(dm CO x.1 (cL y5))
 .ret (.inr y66)) (
 let y67:=(x.2==(ByteArray.mk #[120]))
 .ite y67 (
 .ret (.inr false)) (
 let y68:=(x.2==(ByteArray.mk #[120,109]))
 .ite y68 (
 let y69:=(bR x.1)
 .ret (.inr y69)) (
 let y70:=(x.2==(ByteArray.mk #[99,108]))
 .ite y70 (
 let y71:=(bR x.1)
 let y72:=(y71==true)
 .ite y72 (
 let y73:=(al y6 1)
 .ret (.inr y73)) (
 .ret (.inr false))) (
 .ret (.inl (.h0)))))))))))))) (
 let y74:=(x.2==(ByteArray.mk #[114]))
 .ite y74 (
 let y75:=(bR x.1)
 .ret (.inr y75)) (
 let y76:=(x.2==(ByteArray.mk #[109]))
 .ite y76 (
 let y77:=(bR x.1)
 .ret (.inr y77)) (
 let y78:=(x.2==(ByteArray.mk #[114,109]))
 .ite y78 (
 let y79:=(bR x.1)
 let y80:=(y79==false)
 .ite y80 (
 .ret (.inr y79)) (
 .ret (.inr true))) (
 let y81:=(x.2==(ByteArray.mk #[105,56]))
 .ite y81 (
 let y82:=(dm CO x.1 (cL y5))
 let y83:=(y82==true)
 .ite y83 (
 let y84:=((b5 (-128) y5)==true)
 .ite y84 (
 let y85:=(cK y5 128)
 .ret (.inr y85)) (
 .ret (.inr false))) (
 .ret (.inr false))) (
 let y86:=(x.2==(ByteArray.mk #[117,56]))
 .ite y86 (
 let y87:=(dm CO x.1 (cL y5))
 let y88:=(y87==true)
 .ite y88 (
 let y89:=((b5 0 y5)==true)
 .ite y89 (
 let y90:=(cK y5 256)
 .ret (.inr y90)) (
 .ret (.inr false))) (
 .ret (.inr false))) (
 let y91:=(x.2==(ByteArray.mk #[105,51,50]))
 .ite y91 (
 let y92:=(dm CO x.1 (cL y5))
 let y93:=(y92==true)
 .ite y93 (
 let y94:=((b5 (-2147483648) y5)==true)
 .ite y94 (
 let y95:=(cK y5 2147483648)
 .ret (.inr y95)) (
 .ret (.inr false))) (
 .ret (.inr false))) (
 let y96:=(x.2==(ByteArray.mk #[105,54,52]))
 .ite y96 (
 let y97:=(dm CO x.1 (cL y5))
 .ret (.inr y97)) (
 let y98:=(x.2==(ByteArray.mk #[120]))
 .ite y98 (
 .ret (.inr false)) (
 let y99:=(x.2==(ByteArray.mk #[120,109]))
 .ite y99 (
 let y100:=(bR x.1)
 .ret (.inr y100)) (
 let y101:=(x.2==(ByteArray.mk #[99,108]))
 .ite y101 (
 let y102:=(bR x.1)
 let y103:=(y102==true)
 .ite y103 (
 let y104:=(al y6 1)
 .ret (.inr y104)) (
 .ret (.inr false))) (
 .ret (.inl (.h0)))))))))))))) (
 let y105:=(x.2==(ByteArray.mk #[114]))
 .ite y105 (
 let y106:=(bR x.1)
 .ret (.inr y106)) (
 let y107:=(x.2==(ByteArray.mk #[109]))
 .ite y107 (
 let y108:=(bR x.1)
 .ret (.inr y108)) (
 let y109:=(x.2==(ByteArray.mk #[114,109]))
 .ite y109 (
 let y110:=(bR x.1)
 let y111:=(y110==false)
 .ite y111 (
 .ret (.inr y110)) (
 .ret (.inr true))) (
 let y112:=(x.2==(ByteArray.mk #[105,56]))
 .ite y112 (
 let y113:=(dm CO x.1 (cL y5))
 let y114:=(y113==true)
 .ite y114 (
 let y115:=((b5 (-128) y5)==true)
 .ite y115 (
 let y116:=(cK y5 128)
 .ret (.inr y116)) (
 .ret (.inr false))) (
 .ret (.inr false))) (
 let y117:=(x.2==(ByteArray.mk #[117,56]))
 .ite y117 (
 let y118:=(dm CO x.1 (cL y5))
 let y119:=(y118==true)
 .ite y119 (
 let y120:=((b5 0 y5)==true)
 .ite y120 (
 let y121:=(cK y5 256)
 .ret (.inr y121)) (
 .ret (.inr false))) (
 .ret (.inr false))) (
 let y122:=(x.2==(ByteArray.mk #[105,51,50]))
 .ite y122 (
 let y123:=(dm CO x.1 (cL y5))
 let y124:=(y123==true)
 .ite y124 (
 let y125:=((b5 (-2147483648) y5)==true)
 .ite y125 (
 let y126:=(cK y5 2147483648)
 .ret (.inr y126)) (
 .ret (.inr false))) (
 .ret (.inr false))) (
 let y127:=(x.2==(ByteArray.mk #[105,54,52]))
 .ite y127 (
 let y128:=(dm CO x.1 (cL y5))
 .ret (.inr y128)) (
 let y129:=(x.2==(ByteArray.mk #[120]))
 .ite y129 (
 .ret (.inr false)) (
 let y130:=(x.2==(ByteArray.mk #[120,109]))
 .ite y130 (
 let y131:=(bR x.1)
 .ret (.inr y131)) (
 let y132:=(x.2==(ByteArray.mk #[99,108]))
 .ite y132 (
 let y133:=(bR x.1)
 let y134:=(y133==true)
 .ite y134 (
 let y135:=y4.1
 let y136:=(al y135 1)
 .ret (.inr y136)) (
 .ret (.inr false))) (
 .ret (.inl (.h0)))))))))))))) (
 .ite y1 (
 let y137:=x.1.2
 let y138:=y137.1
 let y139:=((b5 16 y138)==true)
 .ite y139 (
 let y140:=((cK y138 32)==true)
 .ite y140 (
 .aa (jD y138)<|
 let y141:=(x.2==(ByteArray.mk #[114]))
 .ite y141 (
 let y142:=(bR x.1)
 .ret (.inr y142)) (
 let y143:=(x.2==(ByteArray.mk #[109]))
 .ite y143 (
 let y144:=(bR x.1)
 .ret (.inr y144)) (
 let y145:=(x.2==(ByteArray.mk #[114,109]))
 .ite y145 (
 let y146:=(bR x.1)
 let y147:=(y146==false)
 .ite y147 (
 .ret (.inr y146)) (
 .ret (.inr true))) (
 let y148:=(x.2==(ByteArray.mk #[105,56]))
 .ite y148 (
 .ret (.inr false)) (
 let y149:=(x.2==(ByteArray.mk #[117,56]))
 .ite y149 (
 .ret (.inr false)) (
 let y150:=(x.2==(ByteArray.mk #[105,51,50]))
 .ite y150 (
 .ret (.inr false)) (
 let y151:=(x.2==(ByteArray.mk #[105,54,52]))
 .ite y151 (
 .ret (.inr false)) (
 let y152:=(x.2==(ByteArray.mk #[120]))
 .ite y152 (
 let y153:=(dm CO x.1 (fX y138))
 .ret (.inr y153)) (
 let y154:=(x.2==(ByteArray.mk #[120,109]))
 .ite y154 (
 let y155:=(dm CO x.1 (fX y138))
 let y156:=(y155==false)
 .ite y156 (
 let y157:=(bR x.1)
 .ret (.inr y157)) (
 .ret (.inr true))) (
 let y158:=(x.2==(ByteArray.mk #[99,108]))
 .ite y158 (
 let y159:=(bR x.1)
 let y160:=(y159==true)
 .ite y160 (
 let y161:=(al y138 1)
 .ret (.inr y161)) (
 .ret (.inr false))) (
 .ret (.inl (.h0))))))))))))) (
 let y162:=(x.2==(ByteArray.mk #[114]))
 .ite y162 (
 let y163:=(bR x.1)
 .ret (.inr y163)) (
 let y164:=(x.2==(ByteArray.mk #[109]))
 .ite y164 (
 let y165:=(bR x.1)
 .ret (.inr y165)) (
 let y166:=(x.2==(ByteArray.mk #[114,109]))
 .ite y166 (
 let y167:=(bR x.1)
 let y168:=(y167==false)
 .ite y168 (
 .ret (.inr y167)) (
 .ret (.inr true))) (
 let y169:=(x.2==(ByteArray.mk #[105,56]))
 .ite y169 (
 .ret (.inr false)) (
 let y170:=(x.2==(ByteArray.mk #[117,56]))
 .ite y170 (
 .ret (.inr false)) (
 let y171:=(x.2==(ByteArray.mk #[105,51,50]))
 .ite y171 (
 .ret (.inr false)) (
 let y172:=(x.2==(ByteArray.mk #[105,54,52]))
 .ite y172 (
 .ret (.inr false)) (
 let y173:=(x.2==(ByteArray.mk #[120]))
 .ite y173 (
 .ret (.inr false)) (
 let y174:=(x.2==(ByteArray.mk #[120,109]))
 .ite y174 (
 let y175:=(bR x.1)
 .ret (.inr y175)) (
 let y176:=(x.2==(ByteArray.mk #[99,108]))
 .ite y176 (
 let y177:=(bR x.1)
 let y178:=(y177==true)
 .ite y178 (
 let y179:=(al y138 1)
 .ret (.inr y179)) (
 .ret (.inr false))) (
 .ret (.inl (.h0)))))))))))))) (
 let y180:=(x.2==(ByteArray.mk #[114]))
 .ite y180 (
 let y181:=(bR x.1)
 .ret (.inr y181)) (
 let y182:=(x.2==(ByteArray.mk #[109]))
 .ite y182 (
 let y183:=(bR x.1)
 .ret (.inr y183)) (
 let y184:=(x.2==(ByteArray.mk #[114,109]))
 .ite y184 (
 let y185:=(bR x.1)
 let y186:=(y185==false)
 .ite y186 (
 .ret (.inr y185)) (
 .ret (.inr true))) (
 let y187:=(x.2==(ByteArray.mk #[105,56]))
 .ite y187 (
 .ret (.inr false)) (
 let y188:=(x.2==(ByteArray.mk #[117,56]))
 .ite y188 (
 .ret (.inr false)) (
 let y189:=(x.2==(ByteArray.mk #[105,51,50]))
 .ite y189 (
 .ret (.inr false)) (
 let y190:=(x.2==(ByteArray.mk #[105,54,52]))
 .ite y190 (
 .ret (.inr false)) (
 let y191:=(x.2==(ByteArray.mk #[120]))
 .ite y191 (
 .ret (.inr false)) (
 let y192:=(x.2==(ByteArray.mk #[120,109]))
 .ite y192 (
 let y193:=(bR x.1)
 .ret (.inr y193)) (
 let y194:=(x.2==(ByteArray.mk #[99,108]))
 .ite y194 (
 let y195:=(bR x.1)
 let y196:=(y195==true)
 .ite y196 (
 let y197:=(al y138 1)
 .ret (.inr y197)) (
 .ret (.inr false))) (
 .ret (.inl (.h0)))))))))))))) (
 let y198:=(x.2==(ByteArray.mk #[114]))
 .ite y198 (
 let y199:=(bR x.1)
 .ret (.inr y199)) (
 let y200:=(x.2==(ByteArray.mk #[109]))
 .ite y200 (
 let y201:=(bR x.1)
 .ret (.inr y201)) (
 let y202:=(x.2==(ByteArray.mk #[114,109]))
 .ite y202 (
 let y203:=(bR x.1)
 let y204:=(y203==false)
 .ite y204 (
 .ret (.inr y203)) (
 .ret (.inr true))) (
 let y205:=(x.2==(ByteArray.mk #[105,56]))
 .ite y205 (
 .ret (.inr false)) (
 let y206:=(x.2==(ByteArray.mk #[117,56]))
 .ite y206 (
 .ret (.inr false)) (
 let y207:=(x.2==(ByteArray.mk #[105,51,50]))
 .ite y207 (
 .ret (.inr false)) (
 let y208:=(x.2==(ByteArray.mk #[105,54,52]))
 .ite y208 (
 .ret (.inr false)) (
 let y209:=(x.2==(ByteArray.mk #[120]))
 .ite y209 (
 .ret (.inr false)) (
 let y210:=(x.2==(ByteArray.mk #[120,109]))
 .ite y210 (
 let y211:=(bR x.1)
 .ret (.inr y211)) (
 let y212:=(x.2==(ByteArray.mk #[99,108]))
 .ite y212 (
 let y213:=(bR x.1)
 let y214:=(y213==true)
 .ite y214 (
 let y215:=x.1.2
 let y216:=y215.1
 let y217:=(al y216 1)
 .ret (.inr y217)) (
 .ret (.inr false))) (
 .ret (.inl (.h0))))))))))))))) (
 let y218:=((al y0 3)==true)
 .ite y218 (
 let y219:=x.1.2
 let y220:=y219.2.2.2.2.2.2
 .aa (wv y220)<|
 .ite y1 (
 let y221:=y219.1
 let y222:=((b5 16 y221)==true)
 .ite y222 (
 let y223:=((cK y221 32)==true)
 .ite y223 (
 .aa (jD y221)<|
 let y224:=(x.2==(ByteArray.mk #[114]))
 .ite y224 (
 let y225:=(bR x.1)
 .ret (.inr y225)) (
 let y226:=(x.2==(ByteArray.mk #[109]))
 .ite y226 (
 .ret (.inr false)) (
 let y227:=(x.2==(ByteArray.mk #[114,109]))
 .ite y227 (
 let y228:=(bR x.1)
 let y229:=(y228==false)
 .ite y229 (
 .ret (.inr false)) (
 .ret (.inr true))) (
 let y230:=(x.2==(ByteArray.mk #[105,56]))
 .ite y230 (
 let y231:=(dm CO x.1 (cL y220))
 let y232:=(y231==true)
 .ite y232 (
 let y233:=((b5 (-128) y220)==true)
 .ite y233 (
 let y234:=(cK y220 128)
 .ret (.inr y234)) (
 .ret (.inr false))) (
 .ret (.inr false))) (
 let y235:=(x.2==(ByteArray.mk #[117,56]))
 .ite y235 (
 let y236:=(dm CO x.1 (cL y220))
 let y237:=(y236==true)
 .ite y237 (
 let y238:=((b5 0 y220)==true)
 .ite y238 (
 let y239:=(cK y220 256)
 .ret (.inr y239)) (
 .ret (.inr false))) (
 .ret (.inr false))) (
 let y240:=(x.2==(ByteArray.mk #[105,51,50]))
 .ite y240 (
 let y241:=(dm CO x.1 (cL y220))
 let y242:=(y241==true)
 .ite y242 (
 let y243:=((b5 (-2147483648) y220)==true)
 .ite y243 (
 let y244:=(cK y220 2147483648)
 .ret (.inr y244)) (
 .ret (.inr false))) (
 .ret (.inr false))) (
 let y245:=(x.2==(ByteArray.mk #[105,54,52]))
 .ite y245 (
 let y246:=(dm CO x.1 (cL y220))
 .ret (.inr y246)) (
 let y247:=(x.2==(ByteArray.mk #[120]))
 .ite y247 (
 let y248:=(dm CO x.1 (fX y221))
 .ret (.inr y248)) (
 let y249:=(x.2==(ByteArray.mk #[120,109]))
 .ite y249 (
 let y250:=(dm CO x.1 (fX y221))
 let y251:=(y250==false)
 .ite y251 (
 .ret (.inr false)) (
 .ret (.inr true))) (
 let y252:=(x.2==(ByteArray.mk #[99,108]))
 .ite y252 (
 let y253:=(bR x.1)
 let y254:=(y253==true)
 .ite y254 (
 let y255:=(al y221 1)
 .ret (.inr y255)) (
 .ret (.inr false))) (
 .ret (.inl (.h0))))))))))))) (
 let y256:=(x.2==(ByteArray.mk #[114]))
 .ite y256 (
 let y257:=(bR x.1)
 .ret (.inr y257)) (
 let y258:=(x.2==(ByteArray.mk #[109]))
 .ite y258 (
 .ret (.inr false)) (
 let y259:=(x.2==(ByteArray.mk #[114,109]))
 .ite y259 (
 let y260:=(bR x.1)
 let y261:=(y260==false)
 .ite y261 (
 .ret (.inr false)) (
 .ret (.inr true))) (
 let y262:=(x.2==(ByteArray.mk #[105,56]))
 .ite y262 (
 let y263:=(dm CO x.1 (cL y220))
 let y264:=(y263==true)
 .ite y264 (
 let y265:=((b5 (-128) y220)==true)
 .ite y265 (
 let y266:=(cK y220 128)
 .ret (.inr y266)) (
 .ret (.inr false))) (
 .ret (.inr false))) (
 let y267:=(x.2==(ByteArray.mk #[117,56]))
 .ite y267 (
 let y268:=(dm CO x.1 (cL y220))
 let y269:=(y268==true)
 .ite y269 (
 let y270:=((b5 0 y220)==true)
 .ite y270 (
 let y271:=(cK y220 256)
 .ret (.inr y271)) (
 .ret (.inr false))) (
 .ret (.inr false))) (
 let y272:=(x.2==(ByteArray.mk #[105,51,50]))
 .ite y272 (
 let y273:=(dm CO x.1 (cL y220))
 let y274:=(y273==true)
 .ite y274 (
 let y275:=((b5 (-2147483648) y220)==true)
 .ite y275 (
 let y276:=(cK y220 2147483648)
 .ret (.inr y276)) (
 .ret (.inr false))) (
 .ret (.inr false))) (
 let y277:=(x.2==(ByteArray.mk #[105,54,52]))
 .ite y277 (
 let y278:=(dm CO x.1 (cL y220))
 .ret (.inr y278)) (
 let y279:=(x.2==(ByteArray.mk #[120]))
 .ite y279 (
 .ret (.inr false)) (
 let y280:=(x.2==(ByteArray.mk #[120,109]))
 .ite y280 (
 .ret (.inr false)) (
 let y281:=(x.2==(ByteArray.mk #[99,108]))
 .ite y281 (
 let y282:=(bR x.1)
 let y283:=(y282==true)
 .ite y283 (
 let y284:=(al y221 1)
 .ret (.inr y284)) (
 .ret (.inr false))) (
 .ret (.inl (.h0)))))))))))))) (
 let y285:=(x.2==(ByteArray.mk #[114]))
 .ite y285 (
 let y286:=(bR x.1)
 .ret (.inr y286)) (
 let y287:=(x.2==(ByteArray.mk #[109]))
 .ite y287 (
 .ret (.inr false)) (
 let y288:=(x.2==(ByteArray.mk #[114,109]))
 .ite y288 (
 let y289:=(bR x.1)
 let y290:=(y289==false)
 .ite y290 (
 .ret (.inr false)) (
 .ret (.inr true))) (
 let y291:=(x.2==(ByteArray.mk #[105,56]))
 .ite y291 (
 let y292:=(dm CO x.1 (cL y220))
 let y293:=(y292==true)
 .ite y293 (
 let y294:=((b5 (-128) y220)==true)
 .ite y294 (
 let y295:=(cK y220 128)
 .ret (.inr y295)) (
 .ret (.inr false))) (
 .ret (.inr false))) (
 let y296:=(x.2==(ByteArray.mk #[117,56]))
 .ite y296 (
 let y297:=(dm CO x.1 (cL y220))
 let y298:=(y297==true)
 .ite y298 (
 let y299:=((b5 0 y220)==true)
 .ite y299 (
 let y300:=(cK y220 256)
 .ret (.inr y300)) (
 .ret (.inr false))) (
 .ret (.inr false))) (
 let y301:=(x.2==(ByteArray.mk #[105,51,50]))
 .ite y301 (
 let y302:=(dm CO x.1 (cL y220))
 let y303:=(y302==true)
 .ite y303 (
 let y304:=((b5 (-2147483648) y220)==true)
 .ite y304 (
 let y305:=(cK y220 2147483648)
 .ret (.inr y305)) (
 .ret (.inr false))) (
 .ret (.inr false))) (
 let y306:=(x.2==(ByteArray.mk #[105,54,52]))
 .ite y306 (
 let y307:=(dm CO x.1 (cL y220))
 .ret (.inr y307)) (
 let y308:=(x.2==(ByteArray.mk #[120]))
 .ite y308 (
 .ret (.inr false)) (
 let y309:=(x.2==(ByteArray.mk #[120,109]))
 .ite y309 (
 .ret (.inr false)) (
 let y310:=(x.2==(ByteArray.mk #[99,108]))
 .ite y310 (
 let y311:=(bR x.1)
 let y312:=(y311==true)
 .ite y312 (
 let y313:=(al y221 1)
 .ret (.inr y313)) (
 .ret (.inr false))) (
 .ret (.inl (.h0)))))))))))))) (
 let y314:=(x.2==(ByteArray.mk #[114]))
 .ite y314 (
 let y315:=(bR x.1)
 .ret (.inr y315)) (
 let y316:=(x.2==(ByteArray.mk #[109]))
 .ite y316 (
 .ret (.inr false)) (
 let y317:=(x.2==(ByteArray.mk #[114,109]))
 .ite y317 (
 let y318:=(bR x.1)
 let y319:=(y318==false)
 .ite y319 (
 .ret (.inr false)) (
 .ret (.inr true))) (
 let y320:=(x.2==(ByteArray.mk #[105,56]))
 .ite y320 (
 let y321:=(dm CO x.1 (cL y220))
 let y322:=(y321==true)
 .ite y322 (
 let y323:=((b5 (-128) y220)==true)
 .ite y323 (
 let y324:=(cK y220 128)
 .ret (.inr y324)) (
 .ret (.inr false))) (
 .ret (.inr false))) (
 let y325:=(x.2==(ByteArray.mk #[117,56]))
 .ite y325 (
 let y326:=(dm CO x.1 (cL y220))
 let y327:=(y326==true)
 .ite y327 (
 let y328:=((b5 0 y220)==true)
 .ite y328 (
 let y329:=(cK y220 256)
 .ret (.inr y329)) (
 .ret (.inr false))) (
 .ret (.inr false))) (
 let y330:=(x.2==(ByteArray.mk #[105,51,50]))
 .ite y330 (
 let y331:=(dm CO x.1 (cL y220))
 let y332:=(y331==true)
 .ite y332 (
 let y333:=((b5 (-2147483648) y220)==true)
 .ite y333 (
 let y334:=(cK y220 2147483648)
 .ret (.inr y334)) (
 .ret (.inr false))) (
 .ret (.inr false))) (
 let y335:=(x.2==(ByteArray.mk #[105,54,52]))
 .ite y335 (
 let y336:=(dm CO x.1 (cL y220))
 .ret (.inr y336)) (
 let y337:=(x.2==(ByteArray.mk #[120]))
 .ite y337 (
 .ret (.inr false)) (
 let y338:=(x.2==(ByteArray.mk #[120,109]))
 .ite y338 (
 .ret (.inr false)) (
 let y339:=(x.2==(ByteArray.mk #[99,108]))
 .ite y339 (
 let y340:=(bR x.1)
 let y341:=(y340==true)
 .ite y341 (
 let y342:=y219.1
 let y343:=(al y342 1)
 .ret (.inr y343)) (
 .ret (.inr false))) (
 .ret (.inl (.h0)))))))))))))) (
 .ite y1 (
 let y344:=x.1.2
 let y345:=y344.1
 let y346:=((b5 16 y345)==true)
 .ite y346 (
 let y347:=((cK y345 32)==true)
 .ite y347 (
 .aa (jD y345)<|
 let y348:=(x.2==(ByteArray.mk #[114]))
 .ite y348 (
 let y349:=(bR x.1)
 .ret (.inr y349)) (
 let y350:=(x.2==(ByteArray.mk #[109]))
 .ite y350 (
 .ret (.inr false)) (
 let y351:=(x.2==(ByteArray.mk #[114,109]))
 .ite y351 (
 let y352:=(bR x.1)
 let y353:=(y352==false)
 .ite y353 (
 .ret (.inr false)) (
 .ret (.inr true))) (
 let y354:=(x.2==(ByteArray.mk #[105,56]))
 .ite y354 (
 .ret (.inr false)) (
 let y355:=(x.2==(ByteArray.mk #[117,56]))
 .ite y355 (
 .ret (.inr false)) (
 let y356:=(x.2==(ByteArray.mk #[105,51,50]))
 .ite y356 (
 .ret (.inr false)) (
 let y357:=(x.2==(ByteArray.mk #[105,54,52]))
 .ite y357 (
 .ret (.inr false)) (
 let y358:=(x.2==(ByteArray.mk #[120]))
 .ite y358 (
 let y359:=(dm CO x.1 (fX y345))
 .ret (.inr y359)) (
 let y360:=(x.2==(ByteArray.mk #[120,109]))
 .ite y360 (
 let y361:=(dm CO x.1 (fX y345))
 let y362:=(y361==false)
 .ite y362 (
 .ret (.inr false)) (
 .ret (.inr true))) (
 let y363:=(x.2==(ByteArray.mk #[99,108]))
 .ite y363 (
 let y364:=(bR x.1)
 let y365:=(y364==true)
 .ite y365 (
 let y366:=(al y345 1)
 .ret (.inr y366)) (
 .ret (.inr false))) (
 .ret (.inl (.h0))))))))))))) (
 let y367:=(x.2==(ByteArray.mk #[114]))
 .ite y367 (
 let y368:=(bR x.1)
 .ret (.inr y368)) (
 let y369:=(x.2==(ByteArray.mk #[109]))
 .ite y369 (
 .ret (.inr false)) (
 let y370:=(x.2==(ByteArray.mk #[114,109]))
 .ite y370 (
 let y371:=(bR x.1)
 let y372:=(y371==false)
 .ite y372 (
 .ret (.inr false)) (
 .ret (.inr true))) (
 let y373:=(x.2==(ByteArray.mk #[105,56]))
 .ite y373 (
 .ret (.inr false)) (
 let y374:=(x.2==(ByteArray.mk #[117,56]))
 .ite y374 (
 .ret (.inr false)) (
 let y375:=(x.2==(ByteArray.mk #[105,51,50]))
 .ite y375 (
 .ret (.inr false)) (
 let y376:=(x.2==(ByteArray.mk #[105,54,52]))
 .ite y376 (
 .ret (.inr false)) (
 let y377:=(x.2==(ByteArray.mk #[120]))
 .ite y377 (
 .ret (.inr false)) (
 let y378:=(x.2==(ByteArray.mk #[120,109]))
 .ite y378 (
 .ret (.inr false)) (
 let y379:=(x.2==(ByteArray.mk #[99,108]))
 .ite y379 (
 let y380:=(bR x.1)
 let y381:=(y380==true)
 .ite y381 (
 let y382:=(al y345 1)
 .ret (.inr y382)) (
 .ret (.inr false))) (
 .ret (.inl (.h0)))))))))))))) (
 let y383:=(x.2==(ByteArray.mk #[114]))
 .ite y383 (
 let y384:=(bR x.1)
 .ret (.inr y384)) (
 let y385:=(x.2==(ByteArray.mk #[109]))
 .ite y385 (
 .ret (.inr false)) (
 let y386:=(x.2==(ByteArray.mk #[114,109]))
 .ite y386 (
 let y387:=(bR x.1)
 let y388:=(y387==false)
 .ite y388 (
 .ret (.inr false)) (
 .ret (.inr true))) (
 let y389:=(x.2==(ByteArray.mk #[105,56]))
 .ite y389 (
 .ret (.inr false)) (
 let y390:=(x.2==(ByteArray.mk #[117,56]))
 .ite y390 (
 .ret (.inr false)) (
 let y391:=(x.2==(ByteArray.mk #[105,51,50]))
 .ite y391 (
 .ret (.inr false)) (
 let y392:=(x.2==(ByteArray.mk #[105,54,52]))
 .ite y392 (
 .ret (.inr false)) (
 let y393:=(x.2==(ByteArray.mk #[120]))
 .ite y393 (
 .ret (.inr false)) (
 let y394:=(x.2==(ByteArray.mk #[120,109]))
 .ite y394 (
 .ret (.inr false)) (
 let y395:=(x.2==(ByteArray.mk #[99,108]))
 .ite y395 (
 let y396:=(bR x.1)
 let y397:=(y396==true)
 .ite y397 (
 let y398:=(al y345 1)
 .ret (.inr y398)) (
 .ret (.inr false))) (
 .ret (.inl (.h0)))))))))))))) (
 let y399:=(x.2==(ByteArray.mk #[114]))
 .ite y399 (
 let y400:=(bR x.1)
 .ret (.inr y400)) (
 let y401:=(x.2==(ByteArray.mk #[109]))
 .ite y401 (
 .ret (.inr false)) (
 let y402:=(x.2==(ByteArray.mk #[114,109]))
 .ite y402 (
 let y403:=(bR x.1)
 let y404:=(y403==false)
 .ite y404 (
 .ret (.inr false)) (
 .ret (.inr true))) (
 let y405:=(x.2==(ByteArray.mk #[105,56]))
 .ite y405 (
 .ret (.inr false)) (
 let y406:=(x.2==(ByteArray.mk #[117,56]))
 .ite y406 (
 .ret (.inr false)) (
 let y407:=(x.2==(ByteArray.mk #[105,51,50]))
 .ite y407 (
 .ret (.inr false)) (
 let y408:=(x.2==(ByteArray.mk #[105,54,52]))
 .ite y408 (
 .ret (.inr false)) (
 let y409:=(x.2==(ByteArray.mk #[120]))
 .ite y409 (
 .ret (.inr false)) (
 let y410:=(x.2==(ByteArray.mk #[120,109]))
 .ite y410 (
 .ret (.inr false)) (
 let y411:=(x.2==(ByteArray.mk #[99,108]))
 .ite y411 (
 let y412:=(bR x.1)
 let y413:=(y412==true)
 .ite y413 (
 let y414:=x.1.2
 let y415:=y414.1
 let y416:=(al y415 1)
 .ret (.inr y416)) (
 .ret (.inr false))) (
 .ret (.inl (.h0)))))))))))))))) (
 let y417:=((al y0 2)==true)
 .ite y417 (
 .aa (wz x.1)<|
 let y418:=((al y0 3)==true)
 .ite y418 (
 let y419:=x.1.2
 let y420:=y419.2.2.2.2.2.2
 .aa (wv y420)<|
 .ite y1 (
 let y421:=y419.1
 let y422:=((b5 16 y421)==true)
 .ite y422 (
 let y423:=((cK y421 32)==true)
 .ite y423 (
 .aa (jD y421)<|
 let y424:=(x.2==(ByteArray.mk #[114]))
 .ite y424 (
 .ret (.inr false)) (
 let y425:=(x.2==(ByteArray.mk #[109]))
 .ite y425 (
 let y426:=(bR x.1)
 .ret (.inr y426)) (
 let y427:=(x.2==(ByteArray.mk #[114,109]))
 .ite y427 (
 let y428:=(bR x.1)
 .ret (.inr y428)) (
 let y429:=(x.2==(ByteArray.mk #[105,56]))
 .ite y429 (
 let y430:=(dm CO x.1 (cL y420))
 let y431:=(y430==true)
 .ite y431 (
 let y432:=((b5 (-128) y420)==true)
 .ite y432 (
 let y433:=(cK y420 128)
 .ret (.inr y433)) (
 .ret (.inr false))) (
 .ret (.inr false))) (
 let y434:=(x.2==(ByteArray.mk #[117,56]))
 .ite y434 (
 let y435:=(dm CO x.1 (cL y420))
 let y436:=(y435==true)
 .ite y436 (
 let y437:=((b5 0 y420)==true)
 .ite y437 (
 let y438:=(cK y420 256)
 .ret (.inr y438)) (
 .ret (.inr false))) (
 .ret (.inr false))) (
 let y439:=(x.2==(ByteArray.mk #[105,51,50]))
 .ite y439 (
 let y440:=(dm CO x.1 (cL y420))
 let y441:=(y440==true)
 .ite y441 (
 let y442:=((b5 (-2147483648) y420)==true)
 .ite y442 (
 let y443:=(cK y420 2147483648)
 .ret (.inr y443)) (
 .ret (.inr false))) (
 .ret (.inr false))) (
 let y444:=(x.2==(ByteArray.mk #[105,54,52]))
 .ite y444 (
 let y445:=(dm CO x.1 (cL y420))
 .ret (.inr y445)) (
 let y446:=(x.2==(ByteArray.mk #[120]))
 .ite y446 (
 let y447:=(dm CO x.1 (fX y421))
 .ret (.inr y447)) (
 let y448:=(x.2==(ByteArray.mk #[120,109]))
 .ite y448 (
 let y449:=(dm CO x.1 (fX y421))
 let y450:=(y449==false)
 .ite y450 (
 let y451:=(bR x.1)
 .ret (.inr y451)) (
 .ret (.inr true))) (
 let y452:=(x.2==(ByteArray.mk #[99,108]))
 .ite y452 (
 .ret (.inr false)) (
 .ret (.inl (.h0))))))))))))) (
 let y453:=(x.2==(ByteArray.mk #[114]))
 .ite y453 (
 .ret (.inr false)) (
 let y454:=(x.2==(ByteArray.mk #[109]))
 .ite y454 (
 let y455:=(bR x.1)
 .ret (.inr y455)) (
 let y456:=(x.2==(ByteArray.mk #[114,109]))
 .ite y456 (
 let y457:=(bR x.1)
 .ret (.inr y457)) (
 let y458:=(x.2==(ByteArray.mk #[105,56]))
 .ite y458 (
 let y459:=(dm CO x.1 (cL y420))
 let y460:=(y459==true)
 .ite y460 (
 let y461:=((b5 (-128) y420)==true)
 .ite y461 (
 let y462:=(cK y420 128)
 .ret (.inr y462)) (
 .ret (.inr false))) (
 .ret (.inr false))) (
 let y463:=(x.2==(ByteArray.mk #[117,56]))
 .ite y463 (
 let y464:=(dm CO x.1 (cL y420))
 let y465:=(y464==true)
 .ite y465 (
 let y466:=((b5 0 y420)==true)
 .ite y466 (
 let y467:=(cK y420 256)
 .ret (.inr y467)) (
 .ret (.inr false))) (
 .ret (.inr false))) (
 let y468:=(x.2==(ByteArray.mk #[105,51,50]))
 .ite y468 (
 let y469:=(dm CO x.1 (cL y420))
 let y470:=(y469==true)
 .ite y470 (
 let y471:=((b5 (-2147483648) y420)==true)
 .ite y471 (
 let y472:=(cK y420 2147483648)
 .ret (.inr y472)) (
 .ret (.inr false))) (
 .ret (.inr false))) (
 let y473:=(x.2==(ByteArray.mk #[105,54,52]))
 .ite y473 (
 let y474:=(dm CO x.1 (cL y420))
 .ret (.inr y474)) (
 let y475:=(x.2==(ByteArray.mk #[120]))
 .ite y475 (
 .ret (.inr false)) (
 let y476:=(x.2==(ByteArray.mk #[120,109]))
 .ite y476 (
 let y477:=(bR x.1)
 .ret (.inr y477)) (
 let y478:=(x.2==(ByteArray.mk #[99,108]))
 .ite y478 (
 .ret (.inr false)) (
 .ret (.inl (.h0)))))))))))))) (
 let y479:=(x.2==(ByteArray.mk #[114]))
 .ite y479 (
 .ret (.inr false)) (
 let y480:=(x.2==(ByteArray.mk #[109]))
 .ite y480 (
 let y481:=(bR x.1)
 .ret (.inr y481)) (
 let y482:=(x.2==(ByteArray.mk #[114,109]))
 .ite y482 (
 let y483:=(bR x.1)
 .ret (.inr y483)) (
 let y484:=(x.2==(ByteArray.mk #[105,56]))
 .ite y484 (
 let y485:=(dm CO x.1 (cL y420))
 let y486:=(y485==true)
 .ite y486 (
 let y487:=((b5 (-128) y420)==true)
 .ite y487 (
 let y488:=(cK y420 128)
 .ret (.inr y488)) (
 .ret (.inr false))) (
 .ret (.inr false))) (
 let y489:=(x.2==(ByteArray.mk #[117,56]))
 .ite y489 (
 let y490:=(dm CO x.1 (cL y420))
 let y491:=(y490==true)
 .ite y491 (
 let y492:=((b5 0 y420)==true)
 .ite y492 (
 let y493:=(cK y420 256)
 .ret (.inr y493)) (
 .ret (.inr false))) (
 .ret (.inr false))) (
 let y494:=(x.2==(ByteArray.mk #[105,51,50]))
 .ite y494 (
 let y495:=(dm CO x.1 (cL y420))
 let y496:=(y495==true)
 .ite y496 (
 let y497:=((b5 (-2147483648) y420)==true)
 .ite y497 (
 let y498:=(cK y420 2147483648)
 .ret (.inr y498)) (
 .ret (.inr false))) (
 .ret (.inr false))) (
 let y499:=(x.2==(ByteArray.mk #[105,54,52]))
 .ite y499 (
 let y500:=(dm CO x.1 (cL y420))
 .ret (.inr y500)) (
 let y501:=(x.2==(ByteArray.mk #[120]))
 .ite y501 (
 .ret (.inr false)) (
 let y502:=(x.2==(ByteArray.mk #[120,109]))
 .ite y502 (
 let y503:=(bR x.1)
 .ret (.inr y503)) (
 let y504:=(x.2==(ByteArray.mk #[99,108]))
 .ite y504 (
 .ret (.inr false)) (
 .ret (.inl (.h0)))))))))))))) (
 let y505:=(x.2==(ByteArray.mk #[114]))
 .ite y505 (
 .ret (.inr false)) (
 let y506:=(x.2==(ByteArray.mk #[109]))
 .ite y506 (
 let y507:=(bR x.1)
 .ret (.inr y507)) (
 let y508:=(x.2==(ByteArray.mk #[114,109]))
 .ite y508 (
 let y509:=(bR x.1)
 .ret (.inr y509)) (
 let y510:=(x.2==(ByteArray.mk #[105,56]))
 .ite y510 (
 let y511:=(dm CO x.1 (cL y420))
 let y512:=(y511==true)
 .ite y512 (
 let y513:=((b5 (-128) y420)==true)
 .ite y513 (
 let y514:=(cK y420 128)
 .ret (.inr y514)) (
 .ret (.inr false))) (
 .ret (.inr false))) (
 let y515:=(x.2==(ByteArray.mk #[117,56]))
 .ite y515 (
 let y516:=(dm CO x.1 (cL y420))
 let y517:=(y516==true)
 .ite y517 (
 let y518:=((b5 0 y420)==true)
 .ite y518 (
 let y519:=(cK y420 256)
 .ret (.inr y519)) (
 .ret (.inr false))) (
 .ret (.inr false))) (
 let y520:=(x.2==(ByteArray.mk #[105,51,50]))
 .ite y520 (
 let y521:=(dm CO x.1 (cL y420))
 let y522:=(y521==true)
 .ite y522 (
 let y523:=((b5 (-2147483648) y420)==true)
 .ite y523 (
 let y524:=(cK y420 2147483648)
 .ret (.inr y524)) (
 .ret (.inr false))) (
 .ret (.inr false))) (
 let y525:=(x.2==(ByteArray.mk #[105,54,52]))
 .ite y525 (
 let y526:=(dm CO x.1 (cL y420))
 .ret (.inr y526)) (
 let y527:=(x.2==(ByteArray.mk #[120]))
 .ite y527 (
 .ret (.inr false)) (
 let y528:=(x.2==(ByteArray.mk #[120,109]))
 .ite y528 (
 let y529:=(bR x.1)
 .ret (.inr y529)) (
 let y530:=(x.2==(ByteArray.mk #[99,108]))
 .ite y530 (
 .ret (.inr false)) (
 .ret (.inl (.h0)))))))))))))) (
 .ite y1 (
 let y531:=x.1.2
 let y532:=y531.1
 let y533:=((b5 16 y532)==true)
 .ite y533 (
 let y534:=((cK y532 32)==true)
 .ite y534 (
 .aa (jD y532)<|
 let y535:=(x.2==(ByteArray.mk #[114]))
 .ite y535 (
 .ret (.inr false)) (
 let y536:=(x.2==(ByteArray.mk #[109]))
 .ite y536 (
 let y537:=(bR x.1)
 .ret (.inr y537)) (
 let y538:=(x.2==(ByteArray.mk #[114,109]))
 .ite y538 (
 let y539:=(bR x.1)
 .ret (.inr y539)) (
 let y540:=(x.2==(ByteArray.mk #[105,56]))
 .ite y540 (
 .ret (.inr false)) (
 let y541:=(x.2==(ByteArray.mk #[117,56]))
 .ite y541 (
 .ret (.inr false)) (
 let y542:=(x.2==(ByteArray.mk #[105,51,50]))
 .ite y542 (
 .ret (.inr false)) (
 let y543:=(x.2==(ByteArray.mk #[105,54,52]))
 .ite y543 (
 .ret (.inr false)) (
 let y544:=(x.2==(ByteArray.mk #[120]))
 .ite y544 (
 let y545:=(dm CO x.1 (fX y532))
 .ret (.inr y545)) (
 let y546:=(x.2==(ByteArray.mk #[120,109]))
 .ite y546 (
 let y547:=(dm CO x.1 (fX y532))
 let y548:=(y547==false)
 .ite y548 (
 let y549:=(bR x.1)
 .ret (.inr y549)) (
 .ret (.inr true))) (
 let y550:=(x.2==(ByteArray.mk #[99,108]))
 .ite y550 (
 .ret (.inr false)) (
 .ret (.inl (.h0))))))))))))) (
 let y551:=(x.2==(ByteArray.mk #[114]))
 .ite y551 (
 .ret (.inr false)) (
 let y552:=(x.2==(ByteArray.mk #[109]))
 .ite y552 (
 let y553:=(bR x.1)
 .ret (.inr y553)) (
 let y554:=(x.2==(ByteArray.mk #[114,109]))
 .ite y554 (
 let y555:=(bR x.1)
 .ret (.inr y555)) (
 let y556:=(x.2==(ByteArray.mk #[105,56]))
 .ite y556 (
 .ret (.inr false)) (
 let y557:=(x.2==(ByteArray.mk #[117,56]))
 .ite y557 (
 .ret (.inr false)) (
 let y558:=(x.2==(ByteArray.mk #[105,51,50]))
 .ite y558 (
 .ret (.inr false)) (
 let y559:=(x.2==(ByteArray.mk #[105,54,52]))
 .ite y559 (
 .ret (.inr false)) (
 let y560:=(x.2==(ByteArray.mk #[120]))
 .ite y560 (
 .ret (.inr false)) (
 let y561:=(x.2==(ByteArray.mk #[120,109]))
 .ite y561 (
 let y562:=(bR x.1)
 .ret (.inr y562)) (
 let y563:=(x.2==(ByteArray.mk #[99,108]))
 .ite y563 (
 .ret (.inr false)) (
 .ret (.inl (.h0)))))))))))))) (
 let y564:=(x.2==(ByteArray.mk #[114]))
 .ite y564 (
 .ret (.inr false)) (
 let y565:=(x.2==(ByteArray.mk #[109]))
 .ite y565 (
 let y566:=(bR x.1)
 .ret (.inr y566)) (
 let y567:=(x.2==(ByteArray.mk #[114,109]))
 .ite y567 (
 let y568:=(bR x.1)
 .ret (.inr y568)) (
 let y569:=(x.2==(ByteArray.mk #[105,56]))
 .ite y569 (
 .ret (.inr false)) (
 let y570:=(x.2==(ByteArray.mk #[117,56]))
 .ite y570 (
 .ret (.inr false)) (
 let y571:=(x.2==(ByteArray.mk #[105,51,50]))
 .ite y571 (
 .ret (.inr false)) (
 let y572:=(x.2==(ByteArray.mk #[105,54,52]))
 .ite y572 (
 .ret (.inr false)) (
 let y573:=(x.2==(ByteArray.mk #[120]))
 .ite y573 (
 .ret (.inr false)) (
 let y574:=(x.2==(ByteArray.mk #[120,109]))
 .ite y574 (
 let y575:=(bR x.1)
 .ret (.inr y575)) (
 let y576:=(x.2==(ByteArray.mk #[99,108]))
 .ite y576 (
 .ret (.inr false)) (
 .ret (.inl (.h0)))))))))))))) (
 let y577:=(x.2==(ByteArray.mk #[114]))
 .ite y577 (
 .ret (.inr false)) (
 let y578:=(x.2==(ByteArray.mk #[109]))
 .ite y578 (
 let y579:=(bR x.1)
 .ret (.inr y579)) (
 let y580:=(x.2==(ByteArray.mk #[114,109]))
 .ite y580 (
 let y581:=(bR x.1)
 .ret (.inr y581)) (
 let y582:=(x.2==(ByteArray.mk #[105,56]))
 .ite y582 (
 .ret (.inr false)) (
 let y583:=(x.2==(ByteArray.mk #[117,56]))
 .ite y583 (
 .ret (.inr false)) (
 let y584:=(x.2==(ByteArray.mk #[105,51,50]))
 .ite y584 (
 .ret (.inr false)) (
 let y585:=(x.2==(ByteArray.mk #[105,54,52]))
 .ite y585 (
 .ret (.inr false)) (
 let y586:=(x.2==(ByteArray.mk #[120]))
 .ite y586 (
 .ret (.inr false)) (
 let y587:=(x.2==(ByteArray.mk #[120,109]))
 .ite y587 (
 let y588:=(bR x.1)
 .ret (.inr y588)) (
 let y589:=(x.2==(ByteArray.mk #[99,108]))
 .ite y589 (
 .ret (.inr false)) (
 .ret (.inl (.h0))))))))))))))) (
 let y590:=((al y0 3)==true)
 .ite y590 (
 let y591:=x.1.2
 let y592:=y591.2.2.2.2.2.2
 .aa (wv y592)<|
 .ite y1 (
 let y593:=y591.1
 let y594:=((b5 16 y593)==true)
 .ite y594 (
 let y595:=((cK y593 32)==true)
 .ite y595 (
 .aa (jD y593)<|
 let y596:=(x.2==(ByteArray.mk #[114]))
 .ite y596 (
 .ret (.inr false)) (
 let y597:=(x.2==(ByteArray.mk #[109]))
 .ite y597 (
 .ret (.inr false)) (
 let y598:=(x.2==(ByteArray.mk #[114,109]))
 .ite y598 (
 .ret (.inr false)) (
 let y599:=(x.2==(ByteArray.mk #[105,56]))
 .ite y599 (
 let y600:=(dm CO x.1 (cL y592))
 let y601:=(y600==true)
 .ite y601 (
 let y602:=((b5 (-128) y592)==true)
 .ite y602 (
 let y603:=(cK y592 128)
 .ret (.inr y603)) (
 .ret (.inr false))) (
 .ret (.inr false))) (
 let y604:=(x.2==(ByteArray.mk #[117,56]))
 .ite y604 (
 let y605:=(dm CO x.1 (cL y592))
 let y606:=(y605==true)
 .ite y606 (
 let y607:=((b5 0 y592)==true)
 .ite y607 (
 let y608:=(cK y592 256)
 .ret (.inr y608)) (
 .ret (.inr false))) (
 .ret (.inr false))) (
 let y609:=(x.2==(ByteArray.mk #[105,51,50]))
 .ite y609 (
 let y610:=(dm CO x.1 (cL y592))
 let y611:=(y610==true)
 .ite y611 (
 let y612:=((b5 (-2147483648) y592)==true)
 .ite y612 (
 let y613:=(cK y592 2147483648)
 .ret (.inr y613)) (
 .ret (.inr false))) (
 .ret (.inr false))) (
 let y614:=(x.2==(ByteArray.mk #[105,54,52]))
 .ite y614 (
 let y615:=(dm CO x.1 (cL y592))
 .ret (.inr y615)) (
 let y616:=(x.2==(ByteArray.mk #[120]))
 .ite y616 (
 let y617:=(dm CO x.1 (fX y593))
 .ret (.inr y617)) (
 let y618:=(x.2==(ByteArray.mk #[120,109]))
 .ite y618 (
 let y619:=(dm CO x.1 (fX y593))
 let y620:=(y619==false)
 .ite y620 (
 .ret (.inr false)) (
 .ret (.inr true))) (
 let y621:=(x.2==(ByteArray.mk #[99,108]))
 .ite y621 (
 .ret (.inr false)) (
 .ret (.inl (.h0))))))))))))) (
 let y622:=(x.2==(ByteArray.mk #[114]))
 .ite y622 (
 .ret (.inr false)) (
 let y623:=(x.2==(ByteArray.mk #[109]))
 .ite y623 (
 .ret (.inr false)) (
 let y624:=(x.2==(ByteArray.mk #[114,109]))
 .ite y624 (
 .ret (.inr false)) (
 let y625:=(x.2==(ByteArray.mk #[105,56]))
 .ite y625 (
 let y626:=(dm CO x.1 (cL y592))
 let y627:=(y626==true)
 .ite y627 (
 let y628:=((b5 (-128) y592)==true)
 .ite y628 (
 let y629:=(cK y592 128)
 .ret (.inr y629)) (
 .ret (.inr false))) (
 .ret (.inr false))) (
 let y630:=(x.2==(ByteArray.mk #[117,56]))
 .ite y630 (
 let y631:=(dm CO x.1 (cL y592))
 let y632:=(y631==true)
 .ite y632 (
 let y633:=((b5 0 y592)==true)
 .ite y633 (
 let y634:=(cK y592 256)
 .ret (.inr y634)) (
 .ret (.inr false))) (
 .ret (.inr false))) (
 let y635:=(x.2==(ByteArray.mk #[105,51,50]))
 .ite y635 (
 let y636:=(dm CO x.1 (cL y592))
 let y637:=(y636==true)
 .ite y637 (
 let y638:=((b5 (-2147483648) y592)==true)
 .ite y638 (
 let y639:=(cK y592 2147483648)
 .ret (.inr y639)) (
 .ret (.inr false))) (
 .ret (.inr false))) (
 let y640:=(x.2==(ByteArray.mk #[105,54,52]))
 .ite y640 (
 let y641:=(dm CO x.1 (cL y592))
 .ret (.inr y641)) (
 let y642:=(x.2==(ByteArray.mk #[120]))
 .ite y642 (
 .ret (.inr false)) (
 let y643:=(x.2==(ByteArray.mk #[120,109]))
 .ite y643 (
 .ret (.inr false)) (
 let y644:=(x.2==(ByteArray.mk #[99,108]))
 .ite y644 (
 .ret (.inr false)) (
 .ret (.inl (.h0)))))))))))))) (
 let y645:=(x.2==(ByteArray.mk #[114]))
 .ite y645 (
 .ret (.inr false)) (
 let y646:=(x.2==(ByteArray.mk #[109]))
 .ite y646 (
 .ret (.inr false)) (
 let y647:=(x.2==(ByteArray.mk #[114,109]))
 .ite y647 (
 .ret (.inr false)) (
 let y648:=(x.2==(ByteArray.mk #[105,56]))
 .ite y648 (
 let y649:=(dm CO x.1 (cL y592))
 let y650:=(y649==true)
 .ite y650 (
 let y651:=((b5 (-128) y592)==true)
 .ite y651 (
 let y652:=(cK y592 128)
 .ret (.inr y652)) (
 .ret (.inr false))) (
 .ret (.inr false))) (
 let y653:=(x.2==(ByteArray.mk #[117,56]))
 .ite y653 (
 let y654:=(dm CO x.1 (cL y592))
 let y655:=(y654==true)
 .ite y655 (
 let y656:=((b5 0 y592)==true)
 .ite y656 (
 let y657:=(cK y592 256)
 .ret (.inr y657)) (
 .ret (.inr false))) (
 .ret (.inr false))) (
 let y658:=(x.2==(ByteArray.mk #[105,51,50]))
 .ite y658 (
 let y659:=(dm CO x.1 (cL y592))
 let y660:=(y659==true)
 .ite y660 (
 let y661:=((b5 (-2147483648) y592)==true)
 .ite y661 (
 let y662:=(cK y592 2147483648)
 .ret (.inr y662)) (
 .ret (.inr false))) (
 .ret (.inr false))) (
 let y663:=(x.2==(ByteArray.mk #[105,54,52]))
 .ite y663 (
 let y664:=(dm CO x.1 (cL y592))
 .ret (.inr y664)) (
 let y665:=(x.2==(ByteArray.mk #[120]))
 .ite y665 (
 .ret (.inr false)) (
 let y666:=(x.2==(ByteArray.mk #[120,109]))
 .ite y666 (
 .ret (.inr false)) (
 let y667:=(x.2==(ByteArray.mk #[99,108]))
 .ite y667 (
 .ret (.inr false)) (
 .ret (.inl (.h0)))))))))))))) (
 let y668:=(x.2==(ByteArray.mk #[114]))
 .ite y668 (
 .ret (.inr false)) (
 let y669:=(x.2==(ByteArray.mk #[109]))
 .ite y669 (
 .ret (.inr false)) (
 let y670:=(x.2==(ByteArray.mk #[114,109]))
 .ite y670 (
 .ret (.inr false)) (
 let y671:=(x.2==(ByteArray.mk #[105,56]))
 .ite y671 (
 let y672:=(dm CO x.1 (cL y592))
 let y673:=(y672==true)
 .ite y673 (
 let y674:=((b5 (-128) y592)==true)
 .ite y674 (
 let y675:=(cK y592 128)
 .ret (.inr y675)) (
 .ret (.inr false))) (
 .ret (.inr false))) (
 let y676:=(x.2==(ByteArray.mk #[117,56]))
 .ite y676 (
 let y677:=(dm CO x.1 (cL y592))
 let y678:=(y677==true)
 .ite y678 (
 let y679:=((b5 0 y592)==true)
 .ite y679 (
 let y680:=(cK y592 256)
 .ret (.inr y680)) (
 .ret (.inr false))) (
 .ret (.inr false))) (
 let y681:=(x.2==(ByteArray.mk #[105,51,50]))
 .ite y681 (
 let y682:=(dm CO x.1 (cL y592))
 let y683:=(y682==true)
 .ite y683 (
 let y684:=((b5 (-2147483648) y592)==true)
 .ite y684 (
 let y685:=(cK y592 2147483648)
 .ret (.inr y685)) (
 .ret (.inr false))) (
 .ret (.inr false))) (
 let y686:=(x.2==(ByteArray.mk #[105,54,52]))
 .ite y686 (
 let y687:=(dm CO x.1 (cL y592))
 .ret (.inr y687)) (
 let y688:=(x.2==(ByteArray.mk #[120]))
 .ite y688 (
 .ret (.inr false)) (
 let y689:=(x.2==(ByteArray.mk #[120,109]))
 .ite y689 (
 .ret (.inr false)) (
 let y690:=(x.2==(ByteArray.mk #[99,108]))
 .ite y690 (
 .ret (.inr false)) (
 .ret (.inl (.h0)))))))))))))) (
 .ite y1 (
 let y691:=x.1.2
 let y692:=y691.1
 let y693:=((b5 16 y692)==true)
 .ite y693 (
 let y694:=((cK y692 32)==true)
 .ite y694 (
 .aa (jD y692)<|
 let y695:=(x.2==(ByteArray.mk #[114]))
 .ite y695 (
 .ret (.inr false)) (
 let y696:=(x.2==(ByteArray.mk #[109]))
 .ite y696 (
 .ret (.inr false)) (
 let y697:=(x.2==(ByteArray.mk #[114,109]))
 .ite y697 (
 .ret (.inr false)) (
 let y698:=(x.2==(ByteArray.mk #[105,56]))
 .ite y698 (
 .ret (.inr false)) (
 let y699:=(x.2==(ByteArray.mk #[117,56]))
 .ite y699 (
 .ret (.inr false)) (
 let y700:=(x.2==(ByteArray.mk #[105,51,50]))
 .ite y700 (
 .ret (.inr false)) (
 let y701:=(x.2==(ByteArray.mk #[105,54,52]))
 .ite y701 (
 .ret (.inr false)) (
 let y702:=(x.2==(ByteArray.mk #[120]))
 .ite y702 (
 let y703:=(dm CO x.1 (fX y692))
 .ret (.inr y703)) (
 let y704:=(x.2==(ByteArray.mk #[120,109]))
 .ite y704 (
 let y705:=(dm CO x.1 (fX y692))
 let y706:=(y705==false)
 .ite y706 (
 .ret (.inr false)) (
 .ret (.inr true))) (
 let y707:=(x.2==(ByteArray.mk #[99,108]))
 .ite y707 (
 .ret (.inr false)) (
 .ret (.inl (.h0))))))))))))) (
 let y708:=(x.2==(ByteArray.mk #[114]))
 .ite y708 (
 .ret (.inr false)) (
 let y709:=(x.2==(ByteArray.mk #[109]))
 .ite y709 (
 .ret (.inr false)) (
 let y710:=(x.2==(ByteArray.mk #[114,109]))
 .ite y710 (
 .ret (.inr false)) (
 let y711:=(x.2==(ByteArray.mk #[105,56]))
 .ite y711 (
 .ret (.inr false)) (
 let y712:=(x.2==(ByteArray.mk #[117,56]))
 .ite y712 (
 .ret (.inr false)) (
 let y713:=(x.2==(ByteArray.mk #[105,51,50]))
 .ite y713 (
 .ret (.inr false)) (
 let y714:=(x.2==(ByteArray.mk #[105,54,52]))
 .ite y714 (
 .ret (.inr false)) (
 let y715:=(x.2==(ByteArray.mk #[120]))
 .ite y715 (
 .ret (.inr false)) (
 let y716:=(x.2==(ByteArray.mk #[120,109]))
 .ite y716 (
 .ret (.inr false)) (
 let y717:=(x.2==(ByteArray.mk #[99,108]))
 .ite y717 (
 .ret (.inr false)) (
 .ret (.inl (.h0)))))))))))))) (
 let y718:=(x.2==(ByteArray.mk #[114]))
 .ite y718 (
 .ret (.inr false)) (
 let y719:=(x.2==(ByteArray.mk #[109]))
 .ite y719 (
 .ret (.inr false)) (
 let y720:=(x.2==(ByteArray.mk #[114,109]))
 .ite y720 (
 .ret (.inr false)) (
 let y721:=(x.2==(ByteArray.mk #[105,56]))
 .ite y721 (
 .ret (.inr false)) (
 let y722:=(x.2==(ByteArray.mk #[117,56]))
 .ite y722 (
 .ret (.inr false)) (
 let y723:=(x.2==(ByteArray.mk #[105,51,50]))
 .ite y723 (
 .ret (.inr false)) (
 let y724:=(x.2==(ByteArray.mk #[105,54,52]))
 .ite y724 (
 .ret (.inr false)) (
 let y725:=(x.2==(ByteArray.mk #[120]))
 .ite y725 (
 .ret (.inr false)) (
 let y726:=(x.2==(ByteArray.mk #[120,109]))
 .ite y726 (
 .ret (.inr false)) (
 let y727:=(x.2==(ByteArray.mk #[99,108]))
 .ite y727 (
 .ret (.inr false)) (
 .ret (.inl (.h0)))))))))))))) (
 let y728:=(x.2==(ByteArray.mk #[114]))
 .ite y728 (
 .ret (.inr false)) (
 let y729:=(x.2==(ByteArray.mk #[109]))
 .ite y729 (
 .ret (.inr false)) (
 let y730:=(x.2==(ByteArray.mk #[114,109]))
 .ite y730 (
 .ret (.inr false)) (
 let y731:=(x.2==(ByteArray.mk #[105,56]))
 .ite y731 (
 .ret (.inr false)) (
 let y732:=(x.2==(ByteArray.mk #[117,56]))
 .ite y732 (
 .ret (.inr false)) (
 let y733:=(x.2==(ByteArray.mk #[105,51,50]))
 .ite y733 (
 .ret (.inr false)) (
 let y734:=(x.2==(ByteArray.mk #[105,54,52]))
 .ite y734 (
 .ret (.inr false)) (
 let y735:=(x.2==(ByteArray.mk #[120]))
 .ite y735 (
 .ret (.inr false)) (
 let y736:=(x.2==(ByteArray.mk #[120,109]))
 .ite y736 (
 .ret (.inr false)) (
 let y737:=(x.2==(ByteArray.mk #[99,108]))
 .ite y737 (
 .ret (.inr false)) (
 .ret (.inl (.h0))))))))))))))))
noncomputable def ki (x:xp):TS→Tr (TS⊕Bool)
 | .h0=>
 .ret (.inr (dm CO x.1 (0,(0,(0,(0,(0,(0,(false,0)))))))))
noncomputable def jG (x:xp):TS→Head
 | .h0=>
 {fr:={id:=67,kind:=.top,T:=[.any,.any,(.ptr 0 [])]++List.replicate 125 .any,items:=[.code (az [1,1,1,1,1,1,0] (ag Tryz.f67)),.code (az [1,1,1,1,1,1,1] (ag Tryz.f67))],D:=[],base:=0},
  bn:=[],
  H:=[.cell true 23 (.agg [1,1,1,1,1,1,1,1] [(.int .u8 x.1.1),(.int .i64 x.1.2.1),(.int .i64 x.1.2.2.1),(.int .i64 x.1.2.2.2.1),(.int .i64 x.1.2.2.2.2.1),(.int .i64 x.1.2.2.2.2.2.1),(.bool x.1.2.2.2.2.2.2.1),(.int .i64 x.1.2.2.2.2.2.2.2)])]}
noncomputable def CE:FuncId→Nat→Nat→Option Cut
 | 67,53,0=>some {tmps:=[2],loops:=[],dead:=[],bn:=[]}
 | _,_,_=>none
noncomputable def HV (x:xp):Bool:=gy (TC.kV .bool) (ki x) (oR x)
def wB (x:xp):Prop:=∃ r,Ends (ki x) r (oR x)
noncomputable def pf:Spec:={er:=(.st CO (.bp .str)),cg:=.bool,n:=1,pre:=wB,f:=HV}
noncomputable def qe:FuncId→Option Spec
 | 98=>some xA
 | 99=>some xz
 | 100=>some rO
 | _=>none
theorem GW:∀ f sp,qe f=some sp→ah av f sp:=by
 intro f sp h
 unfold qe at h
 split at h
 ·cases h;exact Ux
 ·cases h;exact Uw
 ·cases h;exact Tl
 ·cases h
section
variable (W:cB) (Q:Bool→Prop) (x:xp)
theorem QT:run (env qe (fun _=>none) false (fun _ _=>none)) CE (bz pf Q) W 100000 (a7 67 Tryz.f67 (ag Tryz.f67) (bg (.st CO (.bp .str)) x)) [] []=(oR x).wp (cr W Q (jG x)):=by kernel_rfl
theorem La:run (env qe (fun _=>none) false (fun _ _=>none)) CE (bz pf Q) W 100000 (jG x (.h0)).fr.enter (jG x (.h0)).bn (jG x (.h0)).H=(ki x (.h0)).wp (cr W Q (jG x)):=by kernel_rfl
end
theorem Nq (W:cB) (Q:Bool→Prop) (x:xp):∀ j:TS,run (env qe (fun _=>none) false (fun _ _=>none)) CE (bz pf Q) W 100000 (jG x j).fr.enter (jG x j).bn (jG x j).H=(ki x j).wp (cr W Q (jG x))
 | .h0=>La W Q x
theorem UB:ah av 67 pf:=ah.env rfl (fun _ _ h=>h) (dc (E:=(env qe (fun _=>none) false (fun _ _=>none))) (sp:=pf) (valid _ _ _ _) ⟨fun f sp h=>ah.env rfl (fun _ _ h=>h) (GW f sp h),fun f ps h=>nomatch h⟩ (fn:=Tryz.f67) (c:=(ag Tryz.f67)) (by kernel_rfl) (by kernel_rfl) oR ki jG QT Nq (fun _ h=>dn h))
end Go.bM.RL
end
section
namespace Go.bM.RL
open Go.Proofs Go.bM
inductive TU where
 | h0 (v0:gO) (v1:Int)
noncomputable def o3 (x:DI):Tr (TU⊕(kI×Bool)):=
 .ite ((al x.1 29)==false) (
 .ite ((al x.1 30)==false) (
 let y0:=x.2.1
 let y1:=((cK 15 y0)==false)
 .ite y1 (
 .ite ((!(al x.1 31))==true) (
 .ite ((dY y0 0)==false) (
 let y2:=((dY x.1 39)==true)
 .ite y2 (
 let y3:=(dY x.2.2.2.2.2.1 0)
 .ite y3 (
 let y4:Am:=((0,(ByteArray.empty,(ByteArray.empty,(0,(([]:List Int),(0,(0,0))))))),false)
 .ret (.inr y4)) (
 let y5:bN:=(x.1,y0)
 .aa (ll y5)<|
 let y6:=(bG y5)
 .ret (.inl (.h0 y6 0)))) (
 let y7:bN:=(x.1,y0)
 .aa (ll y7)<|
 let y8:=(bG y7)
 .ret (.inl (.h0 y8 0)))) (
 let y9:Am:=((0,(ByteArray.empty,(ByteArray.empty,(0,(([]:List Int),(0,(0,0))))))),false)
 .ret (.inr y9))) (
 let y10:=((dY x.1 39)==true)
 .ite y10 (
 let y11:=(dY x.2.2.2.2.2.1 0)
 .ite y11 (
 let y12:Am:=((0,(ByteArray.empty,(ByteArray.empty,(0,(([]:List Int),(0,(0,0))))))),false)
 .ret (.inr y12)) (
 let y13:bN:=(x.1,y0)
 .aa (ll y13)<|
 let y14:=(bG y13)
 .ret (.inl (.h0 y14 0)))) (
 let y15:bN:=(x.1,y0)
 .aa (ll y15)<|
 let y16:=(bG y15)
 .ret (.inl (.h0 y16 0))))) (
 let y17:Am:=((0,(ByteArray.empty,(ByteArray.empty,(0,(([]:List Int),(0,(0,0))))))),false)
 .ret (.inr y17))) (
 let y18:=x.2.1
 let y19:=((cK 15 y18)==false)
 .ite y19 (
 let y20:=((dY x.1 39)==true)
 .ite y20 (
 let y21:=(dY x.2.2.2.2.2.1 0)
 .ite y21 (
 let y22:Am:=((0,(ByteArray.empty,(ByteArray.empty,(0,(([]:List Int),(0,(0,0))))))),false)
 .ret (.inr y22)) (
 let y23:bN:=(x.1,y18)
 .aa (ll y23)<|
 let y24:=(bG y23)
 .ret (.inl (.h0 y24 0)))) (
 let y25:bN:=(x.1,y18)
 .aa (ll y25)<|
 let y26:=(bG y25)
 .ret (.inl (.h0 y26 0)))) (
 let y27:Am:=((0,(ByteArray.empty,(ByteArray.empty,(0,(([]:List Int),(0,(0,0))))))),false)
 .ret (.inr y27)))) (
 let y28:=x.2.1
 let y29:=((cK 15 y28)==false)
 .ite y29 (
 let y30:=((dY x.1 39)==true)
 .ite y30 (
 let y31:=(dY x.2.2.2.2.2.1 0)
 .ite y31 (
 let y32:Am:=((0,(ByteArray.empty,(ByteArray.empty,(0,(([]:List Int),(0,(0,0))))))),false)
 .ret (.inr y32)) (
 let y33:bN:=(x.1,y28)
 .aa (ll y33)<|
 let y34:=(bG y33)
 .ret (.inl (.h0 y34 0)))) (
 let y35:bN:=(x.1,y28)
 .aa (ll y35)<|
 let y36:=(bG y35)
 .ret (.inl (.h0 y36 0)))) (
 let y37:Am:=((0,(ByteArray.empty,(ByteArray.empty,(0,(([]:List Int),(0,(0,0))))))),false)
 .ret (.inr y37)))
noncomputable def gQ (x:DI):TU→Tr (TU⊕(kI×Bool))
 | .h0 v0 v1=>
 .ite (cK v1 (v0.length:Int)) (
 .aa ((0:Int)≤v1)<|
 .aa (v1 < (v0.length:Int))<|
 let y0:=x.2.2
 let y1:kI:=(gh vO v0 (v1).toNat)
 let y2:bN:=(y0.1,y1.1)
 .aa (Fg y2)<|
 .ite ((LP y2)==true) (
 .aa ((0:Int)≤v1)<|
 .aa (v1 < (v0.length:Int))<|
 let y3:=y0.2
 let y4:=y1.2
 let y5:xp:=(y3.1,y4.1)
 .aa (wB y5)<|
 .ite ((HV y5)==true) (
 .aa ((0:Int)≤v1)<|
 .aa (v1 < (v0.length:Int))<|
 let y6:xp:=(y3.2.1,y4.2.1)
 .aa (wB y6)<|
 .ite (HV y6) (
 .aa ((0:Int)≤v1)<|
 .aa (v1 < (v0.length:Int))<|
 .ret (.inr (y1,true))) (
 let y7:Int:=(aU .i64 v1 1)
 .ret (.inl (.h0 v0 y7)))) (
 let y8:Int:=(aU .i64 v1 1)
 .ret (.inl (.h0 v0 y8)))) (
 let y9:Int:=(aU .i64 v1 1)
 .ret (.inl (.h0 v0 y9)))) (
 .ret (.inr ((0,(ByteArray.empty,(ByteArray.empty,(0,(([]:List Int),(0,(0,0))))))),false)))
noncomputable def jI (x:DI):TU→Head
 | .h0 v0 v1=>
 {fr:={id:=18,kind:=.top,T:=[.any,(.ptr 0 []),(.ptr 1 []),.any,.any,(.iT vO v0),(.int .i64 v1)]++List.replicate 80 .any,items:=[.lp (az [1,1,1,1,0,1,0,0] (ag Tryz.f18)),.a6 0,.code (az [1,1,1,1,1] (ag Tryz.f18))],D:=[],base:=0},
  bn:=[],
  H:=[.cell true 25 (.agg [1,1,1,8,8,1,1] [(.int .u8 x.1),(.int .u8 x.2.1),(.int .i64 x.2.2.1),(.agg [1,1,1,1,1,1,1,1] [(.int .u8 x.2.2.2.1.1),(.int .i64 x.2.2.2.1.2.1),(.int .i64 x.2.2.2.1.2.2.1),(.int .i64 x.2.2.2.1.2.2.2.1),(.int .i64 x.2.2.2.1.2.2.2.2.1),(.int .i64 x.2.2.2.1.2.2.2.2.2.1),(.bool x.2.2.2.1.2.2.2.2.2.2.1),(.int .i64 x.2.2.2.1.2.2.2.2.2.2.2)]),(.agg [1,1,1,1,1,1,1,1] [(.int .u8 x.2.2.2.2.1.1),(.int .i64 x.2.2.2.2.1.2.1),(.int .i64 x.2.2.2.2.1.2.2.1),(.int .i64 x.2.2.2.2.1.2.2.2.1),(.int .i64 x.2.2.2.2.1.2.2.2.2.1),(.int .i64 x.2.2.2.2.1.2.2.2.2.2.1),(.bool x.2.2.2.2.1.2.2.2.2.2.2.1),(.int .i64 x.2.2.2.2.1.2.2.2.2.2.2.2)]),(.int .u8 x.2.2.2.2.2.1),(.int .i64 x.2.2.2.2.2.2)]),.cell true 60 (.agg [1,1,1,1,1,1,1,1] [(.int .i64 0),(.str ByteArray.empty),(.str ByteArray.empty),(.int .u8 0),(.raw (.slice none 0 0)),(.int .i64 0),(.int .i64 0),(.int .i64 0)])]}
noncomputable def CG:FuncId→Nat→Nat→Option Cut
 | 18,0,0=>some {tmps:=[1,2,5,6],loops:=[],dead:=[],bn:=[]}
 | _,_,_=>none
noncomputable def L1 (x:DI):(kI×Bool):=gy (TC.kV (.st vO (.bp .bool))) (gQ x) (o3 x)
def JA (x:DI):Prop:=∃ r,Ends (gQ x) r (o3 x)
noncomputable def pg:Spec:={er:=(.bp bB),cg:=(.st vO (.bp .bool)),n:=2,pre:=JA,f:=L1}
noncomputable def qg:FuncId→Option Spec
 | 65=>some xE
 | 66=>some xD
 | 67=>some pf
 | _=>none
theorem HA:∀ f sp,qg f=some sp→ah av f sp:=by
 intro f sp h
 unfold qg at h
 split at h
 ·cases h;exact UD
 ·cases h;exact UC
 ·cases h;exact UB
 ·cases h
section
variable (W:cB) (Q:(kI×Bool)→Prop) (x:DI)
theorem Rx:run (env qg (fun _=>none) false (fun _ _=>none)) CG (bz pg Q) W 100000 (a7 18 Tryz.f18 (ag Tryz.f18) (bg (.bp bB) x)) [] []=(o3 x).wp (cr W Q (jI x)):=by kernel_rfl
theorem Lm (v0:gO) (v1:Int):run (env qg (fun _=>none) false (fun _ _=>none)) CG (bz pg Q) W 100000 (jI x (.h0 v0 v1)).fr.enter (jI x (.h0 v0 v1)).bn (jI x (.h0 v0 v1)).H=(gQ x (.h0 v0 v1)).wp (cr W Q (jI x)):=by kernel_rfl
end
theorem Nt (W:cB) (Q:(kI×Bool)→Prop) (x:DI):∀ j:TU,run (env qg (fun _=>none) false (fun _ _=>none)) CG (bz pg Q) W 100000 (jI x j).fr.enter (jI x j).bn (jI x j).H=(gQ x j).wp (cr W Q (jI x))
 | .h0 v0 v1=>Lm W Q x v0 v1
theorem UK:ah av 18 pg:=ah.env rfl (fun _ _ h=>h) (dc (E:=(env qg (fun _=>none) false (fun _ _=>none))) (sp:=pg) (valid _ _ _ _) ⟨fun f sp h=>ah.env rfl (fun _ _ h=>h) (HA f sp h),fun f ps h=>nomatch h⟩ (fn:=Tryz.f18) (c:=(ag Tryz.f18)) (by kernel_rfl) (by kernel_rfl) o3 gQ jI Rx Nt (fun _ h=>dn h))
noncomputable def EX (x:DI):Tr Bool:=
 .aa (JA x)<|
 .ret (L1 x).2
noncomputable def Ig (x:DI):Bool:=(EX x).val
def pre6 (x:DI):Prop:=(EX x).ok
noncomputable def Au:Spec:={er:=(.bp bB),cg:=.bool,n:=1,pre:=pre6,f:=Ig}
noncomputable def Fo:FuncId→Option Spec
 | 18=>some pg
 | _=>none
theorem JR:∀ f sp,Fo f=some sp→ah av f sp:=by
 intro f sp h
 unfold Fo at h
 split at h
 ·cases h;exact UK
 ·cases h
section
variable (W:cB) (Q:Bool→Prop) (x:DI)
theorem Ue:run (env Fo (fun _=>none) false (fun _ _=>none)) (fun _ _ _=>none) (bz Au Q) W 100000 (a7 6 Tryz.f6 (ag Tryz.f6) (bg (.bp bB) x)) [] []=(EX x).wp Q:=by kernel_rfl
end
theorem Vf:ah av 6 Au:=ah.env rfl (fun _ _ h=>h) (aE (E:=(env Fo (fun _=>none) false (fun _ _=>none))) (sp:=Au) (valid _ _ _ _) ⟨fun f sp h=>ah.env rfl (fun _ _ h=>h) (JR f sp h),fun f ps h=>nomatch h⟩ (fn:=Tryz.f6) (c:=(ag Tryz.f6)) (by kernel_rfl) (by kernel_rfl) EX Ue (fun _ h=>Tr.ak h))
inductive J8 where
 | h0 (v1:Int) (v2:Int) (v4:Ak)
 | h1 (v0:Gd) (v1:Int) (v3:Int) (v4:Int) (v6:Ak) (v7:bq)
 | h2 (v0:Gd) (v1:Int) (v3:Int) (v4:Int) (v6:Ak) (v7:bq)
 | h3 (v1:Int) (v2:Int) (v4:Ak) (v5:bq)
noncomputable def qw (x:an):Tr (J8⊕Bool):=
 .ret (.inl (.h0 (x.length:Int) 0 ([]:List bN)))
noncomputable def dI (x:an):J8→Tr (J8⊕Bool)
 | .h0 v1 v2 v4=>
 .ite (cK v2 v1) (
 .aa ((0:Int)≤v2)<|
 .aa (v2 < (x.length:Int))<|
 .aa ((0:Nat) < 3)<|
 .aa ((1:Nat) < 3)<|
 .aa ((2:Nat) < 3)<|
 let y0:bq:=(gh aR x (v2).toNat)
 let y1:=y0.2.2.2
 let y2:=y1.2
 .ret (.inl (.h1 [y1.1,y2.1,y2.2.1] 0 v1 v2 v4 y0))) (
 .ret (.inr true))
 | .h1 v0 v1 v3 v4 v6 v7=>
 .ite (cK v1 3) (
 .aa ((0:Int)≤v1)<|
 .aa ((v1:Int) < 3)<|
 .aa (((v1).toNat:Nat) < 3)<|
 let y0:aD:=(gh aq v0 (v1).toNat)
 .ite ((!y0.1)==true) (
 let y1:=y0.2.1
 .ite ((b5 32 y1)==true) (
 .ite (al (fL y1 v6) 0) (
 .ret (.inr false)) (
 .ret (.inl (.h2 v0 v1 v3 v4 v6 v7)))) (
 .ret (.inl (.h2 v0 v1 v3 v4 v6 v7)))) (
 .ret (.inl (.h2 v0 v1 v3 v4 v6 v7)))) (
 .ret (.inl (.h3 v3 v4 v6 v7)))
 | .h2 v0 v1 v3 v4 v6 v7=>
 .ret (.inl (.h1 v0 (aU .i64 v1 1) v3 v4 v6 v7))
 | .h3 v1 v2 v4 v5=>
 let y0:Int:=v5.2.2.1
 .ite (b5 32 y0) (
 .ite ((b5 64 y0)==false) (
 let y1:Int:=(fL y0 v4)
 .ite (cK 0 y1) (
 .ret (.inr false)) (
 let y2:Int:=(aU .i64 v2 1)
 .ret (.inl (.h0 v1 y2 (mH y0 (aU .i64 y1 1) v4))))) (
 .ret (.inr false))) (
 let y3:Int:=(aU .i64 v2 1)
 .ret (.inl (.h0 v1 y3 v4)))
noncomputable def fH (x:an):J8→Head
 | .h0 v1 v2 v4=>
 {fr:={id:=8,kind:=.top,T:=[.any,.any,(.ptr 0 []),(.ptr 1 [])]++List.replicate 4 .any++[(.iT aR x),(.int .i64 v1),(.int .i64 v2)]++List.replicate 29 .any,items:=[.lp (az [1,1,0,1,0,0] (ag Tryz.f8)),.a6 0,.code (az [1,1,1] (ag Tryz.f8))],D:=[],base:=0},
  bn:=[],
  H:=[.cell true 4 (.bool false),.cell true 65 (.mp 2),.jE v4]}
 | .h1 v0 v1 v3 v4 v6 v7=>
 {fr:={id:=69,kind:=(.iter 6),T:=[(.gM 6)]++List.replicate 10 .any++[(.arr 3 aq v0),(.int .i64 v1)]++List.replicate 18 .any,items:=[.lp (az [1,0,0] (ag Tryz.f69)),.a6 0],D:=[],base:=7},
  bn:=[{id:=8,kind:=.top,T:=[.any,.any,(.ptr 0 []),(.ptr 1 []),.any,(.ptr 3 []),.any,.any,(.iT aR x),(.int .i64 v3),(.int .i64 v4)]++List.replicate 29 .any,items:=[.fin 6,.a6 2,.code (az [1,1,0,1,0,0,1,1,0,0,1,1] (ag Tryz.f8)),.a6 1,.code (az [1,1,0,1,0,0,1,1,1] (ag Tryz.f8)),.lp (az [1,1,0,1,0,0] (ag Tryz.f8)),.a6 0,.code (az [1,1,1] (ag Tryz.f8))],D:=[5],base:=0}],
  H:=[.cell true 4 (.bool false),.cell true 65 (.mp 2),.jE v6,.cell true 38 (.agg [1,1,1,3,3,3,21] [(.int .u8 v7.1),(.int .i64 v7.2.1),(.int .i64 v7.2.2.1),(.agg [1,1,1] [(.bool v7.2.2.2.1.1),(.int .i64 v7.2.2.2.1.2.1),(.int .u64 v7.2.2.2.1.2.2)]),(.agg [1,1,1] [(.bool v7.2.2.2.2.1.1),(.int .i64 v7.2.2.2.2.1.2.1),(.int .u64 v7.2.2.2.2.1.2.2)]),(.agg [1,1,1] [(.bool v7.2.2.2.2.2.1.1),(.int .i64 v7.2.2.2.2.2.1.2.1),(.int .u64 v7.2.2.2.2.2.1.2.2)]),(.agg [1,1,1,8,8,1,1] [(.int .u8 v7.2.2.2.2.2.2.1),(.int .u8 v7.2.2.2.2.2.2.2.1),(.int .i64 v7.2.2.2.2.2.2.2.2.1),(.agg [1,1,1,1,1,1,1,1] [(.int .u8 v7.2.2.2.2.2.2.2.2.2.1.1),(.int .i64 v7.2.2.2.2.2.2.2.2.2.1.2.1),(.int .i64 v7.2.2.2.2.2.2.2.2.2.1.2.2.1),(.int .i64 v7.2.2.2.2.2.2.2.2.2.1.2.2.2.1),(.int .i64 v7.2.2.2.2.2.2.2.2.2.1.2.2.2.2.1),(.int .i64 v7.2.2.2.2.2.2.2.2.2.1.2.2.2.2.2.1),(.bool v7.2.2.2.2.2.2.2.2.2.1.2.2.2.2.2.2.1),(.int .i64 v7.2.2.2.2.2.2.2.2.2.1.2.2.2.2.2.2.2)]),(.agg [1,1,1,1,1,1,1,1] [(.int .u8 v7.2.2.2.2.2.2.2.2.2.2.1.1),(.int .i64 v7.2.2.2.2.2.2.2.2.2.2.1.2.1),(.int .i64 v7.2.2.2.2.2.2.2.2.2.2.1.2.2.1),(.int .i64 v7.2.2.2.2.2.2.2.2.2.2.1.2.2.2.1),(.int .i64 v7.2.2.2.2.2.2.2.2.2.2.1.2.2.2.2.1),(.int .i64 v7.2.2.2.2.2.2.2.2.2.2.1.2.2.2.2.2.1),(.bool v7.2.2.2.2.2.2.2.2.2.2.1.2.2.2.2.2.2.1),(.int .i64 v7.2.2.2.2.2.2.2.2.2.2.1.2.2.2.2.2.2.2)]),(.int .u8 v7.2.2.2.2.2.2.2.2.2.2.2.1),(.int .i64 v7.2.2.2.2.2.2.2.2.2.2.2.2)])]),.dead,.j1,.loop .ready none 8 ([.any,.any,(.ptr 0 []),(.ptr 1 [])]++List.replicate 36 .any) [16] (az [1,1,0,1,0,0,1,1,0,0,1,0,1,0,0] (ag Tryz.f8)) (az [1,1,0,1,0,0,1,1,0,0,1,0,1,0,1] (ag Tryz.f8)) 5]}
 | .h2 v0 v1 v3 v4 v6 v7=>
 {fr:={id:=69,kind:=(.iter 6),T:=[(.gM 6)]++List.replicate 10 .any++[(.arr 3 aq v0),(.int .i64 v1)]++List.replicate 18 .any,items:=[.code (az [1,0,0,1,1,1] (ag Tryz.f69)),.lp (az [1,0,0] (ag Tryz.f69)),.a6 0],D:=[],base:=7},
  bn:=[{id:=8,kind:=.top,T:=[.any,.any,(.ptr 0 []),(.ptr 1 []),.any,(.ptr 3 []),.any,.any,(.iT aR x),(.int .i64 v3),(.int .i64 v4)]++List.replicate 29 .any,items:=[.fin 6,.a6 2,.code (az [1,1,0,1,0,0,1,1,0,0,1,1] (ag Tryz.f8)),.a6 1,.code (az [1,1,0,1,0,0,1,1,1] (ag Tryz.f8)),.lp (az [1,1,0,1,0,0] (ag Tryz.f8)),.a6 0,.code (az [1,1,1] (ag Tryz.f8))],D:=[5],base:=0}],
  H:=[.cell true 4 (.bool false),.cell true 65 (.mp 2),.jE v6,.cell true 38 (.agg [1,1,1,3,3,3,21] [(.int .u8 v7.1),(.int .i64 v7.2.1),(.int .i64 v7.2.2.1),(.agg [1,1,1] [(.bool v7.2.2.2.1.1),(.int .i64 v7.2.2.2.1.2.1),(.int .u64 v7.2.2.2.1.2.2)]),(.agg [1,1,1] [(.bool v7.2.2.2.2.1.1),(.int .i64 v7.2.2.2.2.1.2.1),(.int .u64 v7.2.2.2.2.1.2.2)]),(.agg [1,1,1] [(.bool v7.2.2.2.2.2.1.1),(.int .i64 v7.2.2.2.2.2.1.2.1),(.int .u64 v7.2.2.2.2.2.1.2.2)]),(.agg [1,1,1,8,8,1,1] [(.int .u8 v7.2.2.2.2.2.2.1),(.int .u8 v7.2.2.2.2.2.2.2.1),(.int .i64 v7.2.2.2.2.2.2.2.2.1),(.agg [1,1,1,1,1,1,1,1] [(.int .u8 v7.2.2.2.2.2.2.2.2.2.1.1),(.int .i64 v7.2.2.2.2.2.2.2.2.2.1.2.1),(.int .i64 v7.2.2.2.2.2.2.2.2.2.1.2.2.1),(.int .i64 v7.2.2.2.2.2.2.2.2.2.1.2.2.2.1),(.int .i64 v7.2.2.2.2.2.2.2.2.2.1.2.2.2.2.1),(.int .i64 v7.2.2.2.2.2.2.2.2.2.1.2.2.2.2.2.1),(.bool v7.2.2.2.2.2.2.2.2.2.1.2.2.2.2.2.2.1),(.int .i64 v7.2.2.2.2.2.2.2.2.2.1.2.2.2.2.2.2.2)]),(.agg [1,1,1,1,1,1,1,1] [(.int .u8 v7.2.2.2.2.2.2.2.2.2.2.1.1),(.int .i64 v7.2.2.2.2.2.2.2.2.2.2.1.2.1),(.int .i64 v7.2.2.2.2.2.2.2.2.2.2.1.2.2.1),(.int .i64 v7.2.2.2.2.2.2.2.2.2.2.1.2.2.2.1),(.int .i64 v7.2.2.2.2.2.2.2.2.2.2.1.2.2.2.2.1),(.int .i64 v7.2.2.2.2.2.2.2.2.2.2.1.2.2.2.2.2.1),(.bool v7.2.2.2.2.2.2.2.2.2.2.1.2.2.2.2.2.2.1),(.int .i64 v7.2.2.2.2.2.2.2.2.2.2.1.2.2.2.2.2.2.2)]),(.int .u8 v7.2.2.2.2.2.2.2.2.2.2.2.1),(.int .i64 v7.2.2.2.2.2.2.2.2.2.2.2.2)])]),.dead,.j1,.loop .ready none 8 ([.any,.any,(.ptr 0 []),(.ptr 1 [])]++List.replicate 36 .any) [16] (az [1,1,0,1,0,0,1,1,0,0,1,0,1,0,0] (ag Tryz.f8)) (az [1,1,0,1,0,0,1,1,0,0,1,0,1,0,1] (ag Tryz.f8)) 5]}
 | .h3 v1 v2 v4 v5=>
 {fr:={id:=8,kind:=.top,T:=[.any,.any,(.ptr 0 []),(.ptr 1 []),.any,(.ptr 3 []),.any,.any,(.iT aR x),(.int .i64 v1),(.int .i64 v2)]++List.replicate 29 .any,items:=[.code (az [1,1,0,1,0,0,1,1,0,0,1,1,0] (ag Tryz.f8)),.code (az [1,1,0,1,0,0,1,1,0,0,1,1,1] (ag Tryz.f8)),.a6 1,.code (az [1,1,0,1,0,0,1,1,1] (ag Tryz.f8)),.lp (az [1,1,0,1,0,0] (ag Tryz.f8)),.a6 0,.code (az [1,1,1] (ag Tryz.f8))],D:=[],base:=0},
  bn:=[],
  H:=[.cell true 4 (.bool false),.cell true 65 (.mp 2),.jE v4,.cell true 38 (.agg [1,1,1,3,3,3,21] [(.int .u8 v5.1),(.int .i64 v5.2.1),(.int .i64 v5.2.2.1),(.agg [1,1,1] [(.bool v5.2.2.2.1.1),(.int .i64 v5.2.2.2.1.2.1),(.int .u64 v5.2.2.2.1.2.2)]),(.agg [1,1,1] [(.bool v5.2.2.2.2.1.1),(.int .i64 v5.2.2.2.2.1.2.1),(.int .u64 v5.2.2.2.2.1.2.2)]),(.agg [1,1,1] [(.bool v5.2.2.2.2.2.1.1),(.int .i64 v5.2.2.2.2.2.1.2.1),(.int .u64 v5.2.2.2.2.2.1.2.2)]),(.agg [1,1,1,8,8,1,1] [(.int .u8 v5.2.2.2.2.2.2.1),(.int .u8 v5.2.2.2.2.2.2.2.1),(.int .i64 v5.2.2.2.2.2.2.2.2.1),(.agg [1,1,1,1,1,1,1,1] [(.int .u8 v5.2.2.2.2.2.2.2.2.2.1.1),(.int .i64 v5.2.2.2.2.2.2.2.2.2.1.2.1),(.int .i64 v5.2.2.2.2.2.2.2.2.2.1.2.2.1),(.int .i64 v5.2.2.2.2.2.2.2.2.2.1.2.2.2.1),(.int .i64 v5.2.2.2.2.2.2.2.2.2.1.2.2.2.2.1),(.int .i64 v5.2.2.2.2.2.2.2.2.2.1.2.2.2.2.2.1),(.bool v5.2.2.2.2.2.2.2.2.2.1.2.2.2.2.2.2.1),(.int .i64 v5.2.2.2.2.2.2.2.2.2.1.2.2.2.2.2.2.2)]),(.agg [1,1,1,1,1,1,1,1] [(.int .u8 v5.2.2.2.2.2.2.2.2.2.2.1.1),(.int .i64 v5.2.2.2.2.2.2.2.2.2.2.1.2.1),(.int .i64 v5.2.2.2.2.2.2.2.2.2.2.1.2.2.1),(.int .i64 v5.2.2.2.2.2.2.2.2.2.2.1.2.2.2.1),(.int .i64 v5.2.2.2.2.2.2.2.2.2.2.1.2.2.2.2.1),(.int .i64 v5.2.2.2.2.2.2.2.2.2.2.1.2.2.2.2.2.1),(.bool v5.2.2.2.2.2.2.2.2.2.2.1.2.2.2.2.2.2.1),(.int .i64 v5.2.2.2.2.2.2.2.2.2.2.1.2.2.2.2.2.2.2)]),(.int .u8 v5.2.2.2.2.2.2.2.2.2.2.2.1),(.int .i64 v5.2.2.2.2.2.2.2.2.2.2.2.2)])])]}
noncomputable def we:FuncId→Nat→Nat→Option Cut
 | 8,0,0=>some {tmps:=[2,3,8,9,10],loops:=[],dead:=[],bn:=[],Cs:=true}
 | 69,0,7=>some {tmps:=[0,11,12],loops:=[(6,[2,3])],dead:=[4],bn:=[[2,3,5,8,9,10]]}
 | 69,9,7=>some {tmps:=[0,11,12],loops:=[(6,[2,3])],dead:=[],bn:=[[2,3,5,8,9,10]]}
 | 8,19,0=>some {tmps:=[2,3,5,8,9,10],loops:=[],dead:=[],bn:=[],Cs:=true}
 | _,_,_=>none
noncomputable def KT (x:an):Bool:=gy (TC.kV .bool) (dI x) (qw x)
def CW (x:an):Prop:=∃ r,Ends (dI x) r (qw x)
noncomputable def mO:Spec:={er:=(.bp (.slice aR)),cg:=.bool,n:=1,pre:=CW,f:=KT}
noncomputable def nT:FuncId→Option Spec
 | _=>none
theorem JP:∀ f sp,nT f=some sp→ah av f sp:=by
 intro f sp h
 unfold nT at h
 split at h
 ·cases h
section
variable (W:cB) (Q:Bool→Prop) (x:an)
theorem Uc:run (Cd nT (fun _=>none) false (fun _ _=>none)) we (bz mO Q) W 100000 (a7 8 Tryz.f8 (ag Tryz.f8) (bg (.bp (.slice aR)) x)) [] []=(qw x).wp (cr W Q (fH x)):=by kernel_rfl
theorem Nz (v1 v2:Int) (v4:Ak):run (Cd nT (fun _=>none) false (fun _ _=>none)) we (bz mO Q) W 100000 (fH x (.h0 v1 v2 v4)).fr.enter (fH x (.h0 v1 v2 v4)).bn (fH x (.h0 v1 v2 v4)).H=(dI x (.h0 v1 v2 v4)).wp (cr W Q (fH x)):=by kernel_rfl
theorem Ny (v0:Gd) (v1 v3 v4:Int) (v6:Ak) (v7:bq):run (Cd nT (fun _=>none) false (fun _ _=>none)) we (bz mO Q) W 100000 (fH x (.h1 v0 v1 v3 v4 v6 v7)).fr.enter (fH x (.h1 v0 v1 v3 v4 v6 v7)).bn (fH x (.h1 v0 v1 v3 v4 v6 v7)).H=(dI x (.h1 v0 v1 v3 v4 v6 v7)).wp (cr W Q (fH x)):=by kernel_rfl
theorem Nx (v0:Gd) (v1 v3 v4:Int) (v6:Ak) (v7:bq):run (Cd nT (fun _=>none) false (fun _ _=>none)) we (bz mO Q) W 100000 (fH x (.h2 v0 v1 v3 v4 v6 v7)).fr.enter (fH x (.h2 v0 v1 v3 v4 v6 v7)).bn (fH x (.h2 v0 v1 v3 v4 v6 v7)).H=(dI x (.h2 v0 v1 v3 v4 v6 v7)).wp (cr W Q (fH x)):=by kernel_rfl
theorem Nw (v1 v2:Int) (v4:Ak) (v5:bq):run (Cd nT (fun _=>none) false (fun _ _=>none)) we (bz mO Q) W 100000 (fH x (.h3 v1 v2 v4 v5)).fr.enter (fH x (.h3 v1 v2 v4 v5)).bn (fH x (.h3 v1 v2 v4 v5)).H=(dI x (.h3 v1 v2 v4 v5)).wp (cr W Q (fH x)):=by kernel_rfl
end
theorem Qv (W:cB) (Q:Bool→Prop) (x:an):∀ j:J8,run (Cd nT (fun _=>none) false (fun _ _=>none)) we (bz mO Q) W 100000 (fH x j).fr.enter (fH x j).bn (fH x j).H=(dI x j).wp (cr W Q (fH x))
 | .h0 v1 v2 v4=>Nz W Q x v1 v2 v4
 | .h1 v0 v1 v3 v4 v6 v7=>Ny W Q x v0 v1 v3 v4 v6 v7
 | .h2 v0 v1 v3 v4 v6 v7=>Nx W Q x v0 v1 v3 v4 v6 v7
 | .h3 v1 v2 v4 v5=>Nw W Q x v1 v2 v4 v5
theorem Ve:ah av 8 mO:=ah.env rfl (fun _ _ h=>h) (dc (E:=(Cd nT (fun _=>none) false (fun _ _=>none))) (sp:=mO) (Nk _ _ _ _) ⟨fun f sp h=>ah.env rfl (fun _ _ h=>h) (JP f sp h),fun f ps h=>nomatch h⟩ (fn:=Tryz.f8) (c:=(ag Tryz.f8)) (by kernel_rfl) (by kernel_rfl) qw dI fH Uc Qv (fun _ h=>dn h))
inductive TR where
 | h0 (v2:Int) (v3:Int)
noncomputable def oQ (x:qU):Tr (TR⊕Bool):=
 let y0:Int:=(x.1.length:Int)
 .ite (dY y0 (x.2.length:Int)) (
 .ret (.inr false)) (
 .ret (.inl (.h0 y0 0)))
noncomputable def iv (x:qU):TR→Tr (TR⊕Bool)
 | .h0 v2 v3=>
 .ite (cK v3 v2) (
 .aa ((0:Int)≤v3)<|
 .aa (v3 < (x.1.length:Int))<|
 .aa ((0:Int)≤v3)<|
 .aa (v3 < (x.2.length:Int))<|
 .ite (!(dm aR (gh aR x.1 (v3).toNat) (gh aR x.2 (v3).toNat))) (
 .ret (.inr false)) (
 .ret (.inl (.h0 v2 (aU .i64 v3 1))))) (
 .ret (.inr true))
noncomputable def jF (x:qU):TR→Head
 | .h0 v2 v3=>
 {fr:={id:=68,kind:=.top,T:=[(.iT aR x.1),(.iT aR x.2)]++List.replicate 10 .any++[(.int .i64 v2),(.int .i64 v3)]++List.replicate 12 .any,items:=[.lp (az [1,1,0,1,0,0] (ag Tryz.f68)),.a6 0,.code (az [1,1,1] (ag Tryz.f68))],D:=[],base:=0},
  bn:=[],
  H:=[]}
noncomputable def CD:FuncId→Nat→Nat→Option Cut
 | 68,0,0=>some {tmps:=[0,1,12,13],loops:=[],dead:=[],bn:=[]}
 | _,_,_=>none
noncomputable def O2 (x:qU):Bool:=gy (TC.kV .bool) (iv x) (oQ x)
def Jp (x:qU):Prop:=∃ r,Ends (iv x) r (oQ x)
noncomputable def o7:Spec:={er:=(.st (.slice aR) (.bp (.slice aR))),cg:=.bool,n:=1,pre:=Jp,f:=O2}
noncomputable def qd:FuncId→Option Spec
 | _=>none
theorem GV:∀ f sp,qd f=some sp→ah av f sp:=by
 intro f sp h
 unfold qd at h
 split at h
 ·cases h
section
variable (W:cB) (Q:Bool→Prop) (x:qU)
theorem QS:run (env qd (fun _=>none) false (fun _ _=>none)) CD (bz o7 Q) W 100000 (a7 68 Tryz.f68 (ag Tryz.f68) (bg (.st (.slice aR) (.bp (.slice aR))) x)) [] []=(oQ x).wp (cr W Q (jF x)):=by kernel_rfl
theorem K9 (v2 v3:Int):run (env qd (fun _=>none) false (fun _ _=>none)) CD (bz o7 Q) W 100000 (jF x (.h0 v2 v3)).fr.enter (jF x (.h0 v2 v3)).bn (jF x (.h0 v2 v3)).H=(iv x (.h0 v2 v3)).wp (cr W Q (jF x)):=by kernel_rfl
end
theorem Np (W:cB) (Q:Bool→Prop) (x:qU):∀ j:TR,run (env qd (fun _=>none) false (fun _ _=>none)) CD (bz o7 Q) W 100000 (jF x j).fr.enter (jF x j).bn (jF x j).H=(iv x j).wp (cr W Q (jF x))
 | .h0 v2 v3=>K9 W Q x v2 v3
theorem UA:ah av 68 o7:=ah.env rfl (fun _ _ h=>h) (dc (E:=(env qd (fun _=>none) false (fun _ _=>none))) (sp:=o7) (valid _ _ _ _) ⟨fun f sp h=>ah.env rfl (fun _ _ h=>h) (GV f sp h),fun f ps h=>nomatch h⟩ (fn:=Tryz.f68) (c:=(ag Tryz.f68)) (by kernel_rfl) (by kernel_rfl) oQ iv jF QS Np (fun _ h=>dn h))
noncomputable def uH (x:qU):Tr Bool:=
 .aa (Jp x)<|
 .ret (O2 x)
noncomputable def LZ (x:qU):Bool:=(uH x).val
def Jy (x:qU):Prop:=(uH x).ok
noncomputable def xJ:Spec:={er:=(.st (.slice aR) (.bp (.slice aR))),cg:=.bool,n:=1,pre:=Jy,f:=LZ}
noncomputable def ze:FuncId→Option Spec
 | 68=>some o7
 | _=>none
theorem Hz:∀ f sp,ze f=some sp→ah av f sp:=by
 intro f sp h
 unfold ze at h
 split at h
 ·cases h;exact UA
 ·cases h
section
variable (W:cB) (Q:Bool→Prop) (x:qU)
theorem Rw:run (env ze (fun _=>none) false (fun _ _=>none)) (fun _ _ _=>none) (bz xJ Q) W 100000 (a7 19 Tryz.f19 (ag Tryz.f19) (bg (.st (.slice aR) (.bp (.slice aR))) x)) [] []=(uH x).wp Q:=by kernel_rfl
end
theorem UJ:ah av 19 xJ:=ah.env rfl (fun _ _ h=>h) (aE (E:=(env ze (fun _=>none) false (fun _ _=>none))) (sp:=xJ) (valid _ _ _ _) ⟨fun f sp h=>ah.env rfl (fun _ _ h=>h) (Hz f sp h),fun f ps h=>nomatch h⟩ (fn:=Tryz.f19) (c:=(ag Tryz.f19)) (by kernel_rfl) (by kernel_rfl) uH Rw (fun _ h=>Tr.ak h))
noncomputable def Ah (_x:Unit):Tr Bool:=
 let y0:CC:=(0,(0,(0,(0,(0,(0,(false,0)))))))
 let y1:U0:=((34,(0,(8,(y0,(y0,(0,1)))))),5)
 .aa (CX y1)<|
 let y2:bN:=(0,0)
 let y3:(Int×(Int×(Int×(CC×(CC×bN))))):=(0,(0,(0,(y0,(y0,y2)))))
 let y4:U0:=(y3,5)
 .aa (CX y4)<|
 let y5:nC:=(Cr y1)
 .ite ((al y5.2 0)==true) (
 let y6:=y5.1
 .ite ((al (y6.length:Int) 1)==true) (
 .aa ((0:Int)≤0)<|
 .aa (0 < (y6.length:Int))<|
 let y7:bq:=(gh aR y6 0)
 .ite ((al y7.1 30)==true) (
 .aa ((0:Int)≤0)<|
 .aa (0 < (y6.length:Int))<|
 .aa (bm 6)<|
 .ite ((dm aq y7.2.2.2.1 (aN 6))==true) (
 .ite ((al (Cr y4).2 2)==true) (
 .aa (CW y6)<|
 .ite ((KT y6)==true) (
 let y8:qU:=(y6,y6)
 .aa (Jy y8)<|
 .ite ((LZ y8)==true) (
 .aa (dL 32)<|
 .aa ((0:Nat) < 1)<|
 .aa (((0:Nat)+1:Nat)≤1)<|
 let y9:dN:=(false,y2)
 let y10:an:=[(1,(8,(0,((ff 32),(y9,(y9,y3))))))]
 .aa (CW y10)<|
 .ret (!(KT y10))) (
 .ret false)) (
 .ret false)) (
 .ret false)) (
 .ret false)) (
 .ret false)) (
 .ret false)) (
 .ret false)
noncomputable def T4 (x:Unit):Bool:=(Ah x).val
def Lw (x:Unit):Prop:=(Ah x).ok
noncomputable def E1:Spec:={er:=.unit,cg:=.bool,n:=1,pre:=Lw,f:=T4}
noncomputable def Fm:FuncId→Option Spec
 | 5=>some Av
 | 8=>some mO
 | 11=>some dA
 | 19=>some xJ
 | 20=>some fp
 | _=>none
theorem JQ:∀ f sp,Fm f=some sp→ah av f sp:=by
 intro f sp h
 unfold Fm at h
 split at h
 ·cases h;exact Vg
 ·cases h;exact Ve
 ·cases h;exact iR
 ·cases h;exact UJ
 ·cases h;exact nR
 ·cases h
section
variable (W:cB) (Q:Bool→Prop) (x:Unit)
theorem Ud:run (env Fm (fun _=>none) false (fun _ _=>none)) (fun _ _ _=>none) (bz E1 Q) W 100000 (a7 7 Tryz.f7 (ag Tryz.f7) (bg .unit x)) [] []=(Ah x).wp Q:=by kernel_rfl
end
theorem VN:ah av 7 E1:=ah.env rfl (fun _ _ h=>h) (aE (E:=(env Fm (fun _=>none) false (fun _ _=>none))) (sp:=E1) (valid _ _ _ _) ⟨fun f sp h=>ah.env rfl (fun _ _ h=>h) (JQ f sp h),fun f ps h=>nomatch h⟩ (fn:=Tryz.f7) (c:=(ag Tryz.f7)) (by kernel_rfl) (by kernel_rfl) Ah Ud (fun _ h=>Tr.ak h))
inductive J9 where
 | h0 (v1:Int) (v2:(List Bool))
 | h1 (v1:Int) (v2:Int) (v3:(List Bool)) (v4:Gd)
noncomputable def wb (_x:an):Tr (J9⊕Bool):=
 .ret (.inl (.h0 0 (List.replicate 64 false)))
noncomputable def fF (x:an):J9→Tr (J9⊕Bool)
 | .h0 v1 v2=>
 .ite (cK v1 (x.length:Int)) (
 .aa ((0:Int)≤v1)<|
 .aa (v1 < (x.length:Int))<|
 .aa ((0:Int)≤v1)<|
 .aa (v1 < (x.length:Int))<|
 .aa ((0:Int)≤v1)<|
 .aa (v1 < (x.length:Int))<|
 .aa ((0:Nat) < 3)<|
 .aa ((1:Nat) < 3)<|
 .aa ((2:Nat) < 3)<|
 let y0:(aD×(aD×(aD×DI))):=(gh aR x (v1).toNat).2.2.2
 let y1:=y0.2
 .ret (.inl (.h1 v1 0 v2 [y0.1,y1.1,y1.2.1]))) (
 .ret (.inr true))
 | .h1 v1 v2 v3 v4=>
 .ite (cK v2 3) (
 .aa ((0:Int)≤v2)<|
 .aa ((v2:Int) < 3)<|
 .aa (((v2).toNat:Nat) < 3)<|
 let y0:aD:=(gh aq v4 (v2).toNat)
 .ite ((!y0.1)==true) (
 let y1:=y0.2.1
 .ite ((b5 32 y1)==true) (
 .ite ((b5 64 y1)==false) (
 .aa ((0:Int)≤y1)<|
 .aa ((y1:Int) < 64)<|
 let y2:Nat:=(y1).toNat
 .aa ((y2:Nat) < 64)<|
 .ite (!(gh .bool v3 y2)) (
 .ret (.inr false)) (
 let y3:Int:=(aU .i64 v2 1)
 .ret (.inl (.h1 v1 y3 v3 v4)))) (
 .ret (.inr false))) (
 let y4:Int:=(aU .i64 v2 1)
 .ret (.inl (.h1 v1 y4 v3 v4)))) (
 let y5:Int:=(aU .i64 v2 1)
 .ret (.inl (.h1 v1 y5 v3 v4)))) (
 .aa ((0:Int)≤v1)<|
 .aa (v1 < (x.length:Int))<|
 let y6:Int:=(gh aR x (v1).toNat).2.2.1
 .ite (b5 32 y6) (
 .ite ((b5 64 y6)==false) (
 .aa ((0:Int)≤y6)<|
 .aa ((y6:Int) < 64)<|
 let y7:Nat:=(y6).toNat
 .aa ((y7:Nat) < 64)<|
 .ite (gh .bool v3 y7) (
 .ret (.inr false)) (
 .aa ((0:Int)≤y6)<|
 .aa ((y6:Int) < 64)<|
 .aa ((y7:Nat) < 64)<|
 let y8:Int:=(aU .i64 v1 1)
 .ret (.inl (.h0 y8 (v3.set y7 true))))) (
 .ret (.inr false))) (
 let y9:Int:=(aU .i64 v1 1)
 .ret (.inl (.h0 y9 v3))))
noncomputable def jq (x:an):J9→Head
 | .h0 v1 v2=>
 {fr:={id:=9,kind:=.top,T:=[(.iT aR x),.any,.any,(.ptr 0 []),(.int .i64 v1)]++List.replicate 69 .any,items:=[.lp (az [1,1,0,1,0,0] (ag Tryz.f9)),.a6 0,.code (az [1,1,1] (ag Tryz.f9))],D:=[],base:=0},
  bn:=[],
  H:=[.cell true 69 (.arr 64 .bool v2)]}
 | .h1 v1 v2 v3 v4=>
 {fr:={id:=9,kind:=.top,T:=[(.iT aR x),.any,.any,(.ptr 0 []),(.int .i64 v1),(.ptr 1 []),(.int .i64 v2)]++List.replicate 67 .any,items:=[.lp (az [1,1,0,1,0,0,1,0,0,1,0,1,0,0] (ag Tryz.f9)),.a6 2,.code (az [1,1,0,1,0,0,1,0,0,1,1] (ag Tryz.f9)),.a6 1,.code (az [1,1,0,1,0,0,1,1] (ag Tryz.f9)),.lp (az [1,1,0,1,0,0] (ag Tryz.f9)),.a6 0,.code (az [1,1,1] (ag Tryz.f9))],D:=[],base:=0},
  bn:=[],
  H:=[.cell true 69 (.arr 64 .bool v3),.cell true 47 (.arr 3 aq v4)]}
noncomputable def E0:FuncId→Nat→Nat→Option Cut
 | 9,0,0=>some {tmps:=[0,3,4],loops:=[],dead:=[],bn:=[]}
 | 9,4,0=>some {tmps:=[0,3,4,5,6],loops:=[],dead:=[],bn:=[]}
 | _,_,_=>none
noncomputable def UT (x:an):Bool:=gy (TC.kV .bool) (fF x) (wb x)
def OI (x:an):Prop:=∃ r,Ends (fF x) r (wb x)
noncomputable def uJ:Spec:={er:=(.bp (.slice aR)),cg:=.bool,n:=1,pre:=OI,f:=UT}
noncomputable def vf:FuncId→Option Spec
 | _=>none
theorem JO:∀ f sp,vf f=some sp→ah av f sp:=by
 intro f sp h
 unfold vf at h
 split at h
 ·cases h
section
variable (W:cB) (Q:Bool→Prop) (x:an)
theorem Ub:run (env vf (fun _=>none) false (fun _ _=>none)) E0 (bz uJ Q) W 100000 (a7 9 Tryz.f9 (ag Tryz.f9) (bg (.bp (.slice aR)) x)) [] []=(wb x).wp (cr W Q (jq x)):=by kernel_rfl
theorem Nv (v1:Int) (v2:(List Bool)):run (env vf (fun _=>none) false (fun _ _=>none)) E0 (bz uJ Q) W 100000 (jq x (.h0 v1 v2)).fr.enter (jq x (.h0 v1 v2)).bn (jq x (.h0 v1 v2)).H=(fF x (.h0 v1 v2)).wp (cr W Q (jq x)):=by kernel_rfl
theorem Nu (v1 v2:Int) (v3:(List Bool)) (v4:Gd):run (env vf (fun _=>none) false (fun _ _=>none)) E0 (bz uJ Q) W 100000 (jq x (.h1 v1 v2 v3 v4)).fr.enter (jq x (.h1 v1 v2 v3 v4)).bn (jq x (.h1 v1 v2 v3 v4)).H=(fF x (.h1 v1 v2 v3 v4)).wp (cr W Q (jq x)):=by kernel_rfl
end
theorem Qu (W:cB) (Q:Bool→Prop) (x:an):∀ j:J9,run (env vf (fun _=>none) false (fun _ _=>none)) E0 (bz uJ Q) W 100000 (jq x j).fr.enter (jq x j).bn (jq x j).H=(fF x j).wp (cr W Q (jq x))
 | .h0 v1 v2=>Nv W Q x v1 v2
 | .h1 v1 v2 v3 v4=>Nu W Q x v1 v2 v3 v4
theorem VM:ah av 9 uJ:=ah.env rfl (fun _ _ h=>h) (dc (E:=(env vf (fun _=>none) false (fun _ _=>none))) (sp:=uJ) (valid _ _ _ _) ⟨fun f sp h=>ah.env rfl (fun _ _ h=>h) (JO f sp h),fun f ps h=>nomatch h⟩ (fn:=Tryz.f9) (c:=(ag Tryz.f9)) (by kernel_rfl) (by kernel_rfl) wb fF jq Ub Qu (fun _ h=>dn h))
noncomputable def o6 (x:Int):Tr Bool:=
 .ite ((b5 1 x)==true) (
 .ite ((cK x 32)==true) (
 .ite ((dY x 28)==true) (
 .ite ((dY x 29)==true) (
 .ite ((dY x 30)==true) (
 .ret (dY x 31)) (
 .ret false)) (
 .ret false)) (
 .ret false)) (
 .ret false)) (
 .ret false)
noncomputable def L3 (x:Int):Bool:=(o6 x).val
def JD (x:Int):Prop:=(o6 x).ok
noncomputable def xM:Spec:={er:=(.bp (.int .u8)),cg:=.bool,n:=1,pre:=JD,f:=L3}
noncomputable def zk:FuncId→Option Spec
 | _=>none
theorem HF:∀ f sp,zk f=some sp→ah av f sp:=by
 intro f sp h
 unfold zk at h
 split at h
 ·cases h
section
variable (W:cB) (Q:Bool→Prop) (x:Int)
theorem RC:run (env zk (fun _=>none) false (fun _ _=>none)) (fun _ _ _=>none) (bz xM Q) W 100000 (a7 13 Tryz.f13 (ag Tryz.f13) (bg (.bp (.int .u8)) x)) [] []=(o6 x).wp Q:=by kernel_rfl
end
theorem UN:ah av 13 xM:=ah.env rfl (fun _ _ h=>h) (aE (E:=(env zk (fun _=>none) false (fun _ _=>none))) (sp:=xM) (valid _ _ _ _) ⟨fun f sp h=>ah.env rfl (fun _ _ h=>h) (HF f sp h),fun f ps h=>nomatch h⟩ (fn:=Tryz.f13) (c:=(ag Tryz.f13)) (by kernel_rfl) (by kernel_rfl) o6 RC (fun _ h=>Tr.ak h))
noncomputable def oY (x:Int):Tr Bool:=
 .ite ((b5 0 x)==true) (
 .ite ((b5 x 20)==false) (
 let y0:=((b5 32 x)==true)
 .ite y0 (
 let y1:=(cK x 64)
 .ret y1) (
 .ret false)) (
 .ret true)) (
 let y2:=((b5 32 x)==true)
 .ite y2 (
 let y3:=(cK x 64)
 .ret y3) (
 .ret false))
noncomputable def LX (x:Int):Bool:=(oY x).val
def Fh (x:Int):Prop:=(oY x).ok
noncomputable def uL:Spec:={er:=(.bp (.int .i64)),cg:=.bool,n:=1,pre:=Fh,f:=LX}
noncomputable def yZ:FuncId→Option Spec
 | _=>none
theorem Hv:∀ f sp,yZ f=some sp→ah av f sp:=by
 intro f sp h
 unfold yZ at h
 split at h
 ·cases h
section
variable (W:cB) (Q:Bool→Prop) (x:Int)
theorem Rs:run (env yZ (fun _=>none) false (fun _ _=>none)) (fun _ _ _=>none) (bz uL Q) W 100000 (a7 24 Tryz.f24 (ag Tryz.f24) (bg (.bp (.int .i64)) x)) [] []=(oY x).wp Q:=by kernel_rfl
end
theorem SY:ah av 24 uL:=ah.env rfl (fun _ _ h=>h) (aE (E:=(env yZ (fun _=>none) false (fun _ _=>none))) (sp:=uL) (valid _ _ _ _) ⟨fun f sp h=>ah.env rfl (fun _ _ h=>h) (Hv f sp h),fun f ps h=>nomatch h⟩ (fn:=Tryz.f24) (c:=(ag Tryz.f24)) (by kernel_rfl) (by kernel_rfl) oY Rs (fun _ h=>Tr.ak h))
noncomputable def o0 (x:aD):Tr Bool:=
 .ite x.1 (
 let y0:=x.2.1
 .ret (al y0 0)) (
 .ite ((al x.2.2 0)==true) (
 let y1:=x.2.1
 .aa (Fh y1)<|
 .ret (LX y1)) (
 .ret false))
noncomputable def B3 (x:aD):Bool:=(o0 x).val
def qD (x:aD):Prop:=(o0 x).ok
noncomputable def xI:Spec:={er:=(.bp aq),cg:=.bool,n:=1,pre:=qD,f:=B3}
noncomputable def zb:FuncId→Option Spec
 | 24=>some uL
 | _=>none
theorem Hx:∀ f sp,zb f=some sp→ah av f sp:=by
 intro f sp h
 unfold zb at h
 split at h
 ·cases h;exact SY
 ·cases h
section
variable (W:cB) (Q:Bool→Prop) (x:aD)
theorem Ru:run (env zb (fun _=>none) false (fun _ _=>none)) (fun _ _ _=>none) (bz xI Q) W 100000 (a7 22 Tryz.f22 (ag Tryz.f22) (bg (.bp aq) x)) [] []=(o0 x).wp Q:=by kernel_rfl
end
theorem UI:ah av 22 xI:=ah.env rfl (fun _ _ h=>h) (aE (E:=(env zb (fun _=>none) false (fun _ _=>none))) (sp:=xI) (valid _ _ _ _) ⟨fun f sp h=>ah.env rfl (fun _ _ h=>h) (Hx f sp h),fun f ps h=>nomatch h⟩ (fn:=Tryz.f22) (c:=(ag Tryz.f22)) (by kernel_rfl) (by kernel_rfl) o0 Ru (fun _ h=>Tr.ak h))
noncomputable def oZ (x:DI):Tr Bool:=
 .ite ((b5 35 x.1)==true) (
 .ite ((b5 x.1 39)==true) (
 .aa (pre6 x)<|
 .ret (Ig x)) (
 .ret false)) (
 .ret false)
noncomputable def Pv (x:DI):Bool:=(oZ x).val
def Jx (x:DI):Prop:=(oZ x).ok
noncomputable def xH:Spec:={er:=(.bp bB),cg:=.bool,n:=1,pre:=Jx,f:=Pv}
noncomputable def za:FuncId→Option Spec
 | 6=>some Au
 | _=>none
theorem Hw:∀ f sp,za f=some sp→ah av f sp:=by
 intro f sp h
 unfold za at h
 split at h
 ·cases h;exact Vf
 ·cases h
section
variable (W:cB) (Q:Bool→Prop) (x:DI)
theorem Rt:run (env za (fun _=>none) false (fun _ _=>none)) (fun _ _ _=>none) (bz xH Q) W 100000 (a7 23 Tryz.f23 (ag Tryz.f23) (bg (.bp bB) x)) [] []=(oZ x).wp Q:=by kernel_rfl
end
theorem UH:ah av 23 xH:=ah.env rfl (fun _ _ h=>h) (aE (E:=(env za (fun _=>none) false (fun _ _=>none))) (sp:=xH) (valid _ _ _ _) ⟨fun f sp h=>ah.env rfl (fun _ _ h=>h) (Hw f sp h),fun f ps h=>nomatch h⟩ (fn:=Tryz.f23) (c:=(ag Tryz.f23)) (by kernel_rfl) (by kernel_rfl) oZ Rt (fun _ h=>Tr.ak h))
noncomputable def kZ (x:bq):Tr Bool:=
 .ite ((cK x.1 1)==false) (
 .ite ((cK 31 x.1)==false) (
 let y0:=x.2.2
 let y1:=y0.2
 let y2:=y1.1
 .aa (qD y2)<|
 .ite ((!(B3 y2))==false) (
 let y3:=y1.2
 let y4:=y3.1
 .aa (qD y4)<|
 .ite ((!(B3 y4))==false) (
 let y5:=y3.2
 let y6:=y5.1
 .aa (qD y6)<|
 .ite (!(B3 y6)) (
 .ret false) (
 .ite (al x.1 31) (
 let y7:=x.2.1
 .ite ((al y7 16)==true) (
 let y8:=y0.1
 let y9:=(al y8 0)
 .ite (y9==true) (
 let y10:=y5.2
 .aa (Jx y10)<|
 .ret (Pv y10)) (
 .ret false)) (
 .ret false)) (
 let y11:=x.2.1
 .ite ((cK y11 1)==false) (
 .ite ((cK 8 y11)==false) (
 let y12:=y5.2
 let y13:CC:=(0,(0,(0,(0,(0,(0,(false,0)))))))
 .ite (!(dm bB y12 (0,(0,(0,(y13,(y13,(0,0)))))))) (
 .ret false) (
 .aa (JD x.1)<|
 .ite (L3 x.1) (
 let y14:=y0.1
 .aa (Fh y14)<|
 .ret (LX y14)) (
 let y15:=y0.1
 let y16:=(al y15 0)
 .ret y16))) (
 .ret false)) (
 .ret false)))) (
 .ret false)) (
 .ret false)) (
 .ret false)) (
 .ret false)
noncomputable def B5 (x:bq):Bool:=(kZ x).val
def qE (x:bq):Prop:=(kZ x).ok
noncomputable def xN:Spec:={er:=(.bp aR),cg:=.bool,n:=1,pre:=qE,f:=B5}
noncomputable def zm:FuncId→Option Spec
 | 13=>some xM
 | 22=>some xI
 | 23=>some xH
 | 24=>some uL
 | _=>none
theorem HI:∀ f sp,zm f=some sp→ah av f sp:=by
 intro f sp h
 unfold zm at h
 split at h
 ·cases h;exact UN
 ·cases h;exact UI
 ·cases h;exact UH
 ·cases h;exact SY
 ·cases h
section
variable (W:cB) (Q:Bool→Prop) (x:bq)
theorem RE:run (env zm (fun _=>none) false (fun _ _=>none)) (fun _ _ _=>none) (bz xN Q) W 100000 (a7 10 Tryz.f10 (ag Tryz.f10) (bg (.bp aR) x)) [] []=(kZ x).wp Q:=by kernel_rfl
end
theorem UO:ah av 10 xN:=ah.env rfl (fun _ _ h=>h) (aE (E:=(env zm (fun _=>none) false (fun _ _=>none))) (sp:=xN) (valid _ _ _ _) ⟨fun f sp h=>ah.env rfl (fun _ _ h=>h) (HI f sp h),fun f ps h=>nomatch h⟩ (fn:=Tryz.f10) (c:=(ag Tryz.f10)) (by kernel_rfl) (by kernel_rfl) kZ RE (fun _ h=>Tr.ak h))
inductive J3 where
 | h0 (v1:an) (v2:Int)
noncomputable def uG (x:dH):Tr (J3⊕Bool):=
 .aa (CX x)<|
 .ite (dY (Cr x).2 0) (
 let y0:=(Cr x).1
 let y1:=(al (y0.length:Int) 0)
 .ite (y1==true) (
 .aa (pre6 x.1)<|
 .ite ((!(Ig x.1))==true) (
 .aa (Lw ())<|
 .ret (.inr (T4 ()))) (
 .ret (.inr false))) (
 .ret (.inr false))) (
 let y2:=(Cr x).1
 let y3:=(al (y2.length:Int) 0)
 .ite (y3==false) (
 .aa (CW y2)<|
 .ite ((!(KT y2))==false) (
 .aa (OI y2)<|
 .ite (!(UT y2)) (
 .ret (.inr false)) (
 .ret (.inl (.h0 y2 0)))) (
 .ret (.inr false))) (
 .ret (.inr false)))
noncomputable def mM (x:dH):J3→Tr (J3⊕Bool)
 | .h0 v1 v2=>
 .ite (cK v2 (v1.length:Int)) (
 .aa ((0:Int)≤v2)<|
 .aa (v2 < (v1.length:Int))<|
 let y0:bq:=(gh aR v1 (v2).toNat)
 .aa (qE y0)<|
 .ite ((!(B5 y0))==false) (
 .aa ((0:Int)≤v2)<|
 .aa (v2 < (v1.length:Int))<|
 let y1:Int:=(ie .i64 (v1.length:Int) 1)
 .ite (!((al y0.1 30)==(al v2 y1))) (
 .ret (.inr false)) (
 .ret (.inl (.h0 v1 (aU .i64 v2 1))))) (
 .ret (.inr false))) (
 .aa (pre6 x.1)<|
 .ite ((Ig x.1)==true) (
 let y2:Int:=(ie .i64 (v1.length:Int) 1)
 .aa ((0:Int)≤y2)<|
 .aa (y2 < (v1.length:Int))<|
 let y3:Int:=(aU .u64 x.2 (aO .u64 x.1.2.2.2.2.2.2))
 .aa (bm y3)<|
 .ite ((dm aq (gh aR v1 (y2).toNat).2.2.2.2.1 (aN y3))==true) (
 .aa (Lw ())<|
 .ret (.inr (T4 ()))) (
 .ret (.inr false))) (
 .ret (.inr false)))
noncomputable def mR (x:dH):J3→Head
 | .h0 v1 v2=>
 {fr:={id:=3,kind:=.top,T:=[.any,(.int .u64 x.2),(.ptr 0 []),.any,.any,(.iT aR v1),.any,(.int .i64 v2)]++List.replicate 79 .any,items:=[.lp (az [1,1,1,1,0,1,0,0] (ag Tryz.f3)),.a6 0,.code (az [1,1,1,1,1] (ag Tryz.f3))],D:=[],base:=0},
  bn:=[],
  H:=[.cell true 25 (.agg [1,1,1,8,8,1,1] [(.int .u8 x.1.1),(.int .u8 x.1.2.1),(.int .i64 x.1.2.2.1),(.agg [1,1,1,1,1,1,1,1] [(.int .u8 x.1.2.2.2.1.1),(.int .i64 x.1.2.2.2.1.2.1),(.int .i64 x.1.2.2.2.1.2.2.1),(.int .i64 x.1.2.2.2.1.2.2.2.1),(.int .i64 x.1.2.2.2.1.2.2.2.2.1),(.int .i64 x.1.2.2.2.1.2.2.2.2.2.1),(.bool x.1.2.2.2.1.2.2.2.2.2.2.1),(.int .i64 x.1.2.2.2.1.2.2.2.2.2.2.2)]),(.agg [1,1,1,1,1,1,1,1] [(.int .u8 x.1.2.2.2.2.1.1),(.int .i64 x.1.2.2.2.2.1.2.1),(.int .i64 x.1.2.2.2.2.1.2.2.1),(.int .i64 x.1.2.2.2.2.1.2.2.2.1),(.int .i64 x.1.2.2.2.2.1.2.2.2.2.1),(.int .i64 x.1.2.2.2.2.1.2.2.2.2.2.1),(.bool x.1.2.2.2.2.1.2.2.2.2.2.2.1),(.int .i64 x.1.2.2.2.2.1.2.2.2.2.2.2.2)]),(.int .u8 x.1.2.2.2.2.2.1),(.int .i64 x.1.2.2.2.2.2.2)])]}
noncomputable def Iy:FuncId→Nat→Nat→Option Cut
 | 3,0,0=>some {tmps:=[1,2,5,7],loops:=[],dead:=[],bn:=[]}
 | _,_,_=>none
noncomputable def UU (x:dH):Bool:=gy (TC.kV .bool) (mM x) (uG x)
def Sq (x:dH):Prop:=∃ r,Ends (mM x) r (uG x)
noncomputable def Aw:Spec:={er:=(.st bB (.bp (.int .u64))),cg:=.bool,n:=1,pre:=Sq,f:=UU}
noncomputable def wK:FuncId→Option Spec
 | 5=>some Av
 | 6=>some Au
 | 7=>some E1
 | 8=>some mO
 | 9=>some uJ
 | 10=>some xN
 | 11=>some dA
 | _=>none
theorem JT:∀ f sp,wK f=some sp→ah av f sp:=by
 intro f sp h
 unfold wK at h
 split at h
 ·cases h;exact Vg
 ·cases h;exact Vf
 ·cases h;exact VN
 ·cases h;exact Ve
 ·cases h;exact VM
 ·cases h;exact UO
 ·cases h;exact iR
 ·cases h
section
variable (W:cB) (Q:Bool→Prop) (x:dH)
theorem Ug:run (env wK (fun _=>none) false (fun _ _=>none)) Iy (bz Aw Q) W 100000 (a7 3 Tryz.f3 (ag Tryz.f3) (bg (.st bB (.bp (.int .u64))) x)) [] []=(uG x).wp (cr W Q (mR x)):=by kernel_rfl
theorem NA (v1:an) (v2:Int):run (env wK (fun _=>none) false (fun _ _=>none)) Iy (bz Aw Q) W 100000 (mR x (.h0 v1 v2)).fr.enter (mR x (.h0 v1 v2)).bn (mR x (.h0 v1 v2)).H=(mM x (.h0 v1 v2)).wp (cr W Q (mR x)):=by kernel_rfl
end
theorem Qw (W:cB) (Q:Bool→Prop) (x:dH):∀ j:J3,run (env wK (fun _=>none) false (fun _ _=>none)) Iy (bz Aw Q) W 100000 (mR x j).fr.enter (mR x j).bn (mR x j).H=(mM x j).wp (cr W Q (mR x))
 | .h0 v1 v2=>NA W Q x v1 v2
theorem VO:ah av 3 Aw:=ah.env rfl (fun _ _ h=>h) (dc (E:=(env wK (fun _=>none) false (fun _ _=>none))) (sp:=Aw) (valid _ _ _ _) ⟨fun f sp h=>ah.env rfl (fun _ _ h=>h) (JT f sp h),fun f ps h=>nomatch h⟩ (fn:=Tryz.f3) (c:=(ag Tryz.f3)) (by kernel_rfl) (by kernel_rfl) uG mM mR Ug Qw (fun _ h=>dn h))
end Go.bM.RL
end
section
namespace Go.bM.RM
open Go.bM.RL
open Go.bM
noncomputable section
def wQ (a:Int):Prop:=0≤a∧a < 256
def zO:DO:=(0,(0,(0,(0,(0,(0,(false,0)))))))
theorem lx (i:Nat) (h:i < 1000000):aU .i64 (i:Int) 1=((i+1:Nat):Int):=by rw [fw]<;>omega
theorem Ey {a b:Nat} (h:a < b):cK (a:Int) (b:Int)=true:=by rw [cR];omega
theorem JW {a b:Nat} (h:b≤a):cK (a:Int) (b:Int)=false:=by rw [fc];omega
end
end Go.bM.RM
end
section
namespace Go.bM.RM
open Go.bM.RL
open Go.bM
noncomputable section
theorem iZ {b t e:Bool}:cond b t e=true↔(b=true∧t=true)∨(b=false∧e=true):=by cases b<;>simp
theorem FG {d:Int}:aO .i64 (aO .i32 d)=d ↔ -2147483648≤d∧d < 2147483648:=by
 have e32:aO .i32 d=(d+2147483648) % 4294967296 - 2147483648:=by
  simp only [aO,IntKind.wrap,IntKind.signed,IntKind.bits];simp;omega
 rw [e32]
 unfold aO
 rw [wrap_i64]
 omega
theorem OX {d:Int}:aO .i64 (aO .i8 d)=d ↔ -128≤d∧d < 128:=by
 have e8:aO .i8 d=(d+128) % 256 - 128:=by
  simp only [aO,IntKind.wrap,IntKind.signed,IntKind.bits];simp;omega
 rw [e8]
 unfold aO
 rw [wrap_i64]
 omega
theorem Nl {d:Int}:aO .i64 (aO .u8 d)=d↔0≤d∧d < 256:=by
 unfold aO
 rw [wrap_i64,wrap_u8]
 omega
theorem om {a b:DO}:dm CO a b=true↔a=b:=kF (c:=CO) rfl
def Ab (x:DO):Prop:=x=vt x.2.1∧0≤x.2.1∧x.2.1 < 16
def Cq (x:DO):Prop:=x.1=2∧x.2.1=0∧x.2.2.2.2.2.2.2=0 ∧ -2147483648≤x.2.2.2.2.2.1∧x.2.2.2.2.2.1 < 2147483648∧
 ((x.2.2.2.2.2.2.1=true∧x.2.2.1 = -1∧x.2.2.2.1 = -1∧x.2.2.2.2.1=1)∨
  (x.2.2.2.2.2.2.1=false ∧ -1≤x.2.2.1∧x.2.2.1 < 16 ∧ -1≤x.2.2.2.1∧x.2.2.2.1 < 16∧x.2.2.2.1≠4∧
   ((x.2.2.2.1 < 0∧x.2.2.2.2.1=1)∨(0≤x.2.2.2.1∧(x.2.2.2.2.1=1∨x.2.2.2.2.1=2∨x.2.2.2.2.1=4∨x.2.2.2.2.1=8)))))
theorem k9 {x:DO} (h:Ab x):x.1=1:=by rw [h.1];rfl
theorem CK (x:DO):FP x=true↔(x.2.2.2.1 < 0∧x.2.2.2.2.1=1)∨(0≤x.2.2.2.1∧(x.2.2.2.2.1=1∨x.2.2.2.2.1=2∨x.2.2.2.2.1=4∨x.2.2.2.2.1=8)):=by
 unfold FP lQ
 simp only [dr,df,iZ,cR,fc,aH,beq_iff_eq,cS]
 have key:∀ s:Int,1≤s→s≤8→(dy .i64 s (ie .i64 s 1)=0↔(s=1∨s=2∨s=4∨s=8)):=by
  intro s h1 h2
  have:s=1∨s=2∨s=3∨s=4∨s=5∨s=6∨s=7∨s=8:=by omega
  rcases this with rfl | rfl | rfl | rfl | rfl | rfl | rfl | rfl<;>decide
 constructor
 ·rintro (⟨a,b⟩ | ⟨a,b⟩)
  ·exact .inl ⟨a,b⟩
  ·rcases b with ⟨b1,⟨b2,b3⟩ | ⟨_,b3⟩⟩ | ⟨_,b3⟩
   ·exact .inr ⟨a,(key _ b1 b2).1 b3⟩
   ·cases b3
   ·cases b3
 ·rintro (⟨a,b⟩ | ⟨a,b⟩)
  ·exact .inl ⟨a,b⟩
  ·have h1:1≤x.2.2.2.2.1:=by omega
   have h2:x.2.2.2.2.1≤8:=by omega
   exact .inr ⟨a,.inl ⟨h1,.inl ⟨h2,(key _ h1 h2).2 b⟩⟩⟩
theorem mc (x:DO):iE x=true↔Ab x∨Cq x:=by
 unfold iE lS
 simp only [dr,cO,df,iZ,aH,dZ,iI,ky,cR,cS,beq_iff_eq,beq_eq_false_iff_ne,ne_eq,Bool.not_eq_true,Bool.false_eq_true,and_false,or_false,om,CK,FG,reduceCtorEq]
 constructor
 ·rintro (⟨a,b,c,d⟩ | ⟨a,b,c,d,e | ⟨⟨e1,e2⟩,f⟩⟩)
  ·exact .inl ⟨d,b,c⟩
  ·exact e.elim
  ·refine .inr ⟨b,c,d,e1,e2,?_⟩
   rcases f with ⟨g1,g2,g3,g4⟩ | ⟨g1,g2,g3,g4,g5,g6,g7⟩
   ·exact .inl ⟨g1,g2,g3,g4⟩
   ·exact .inr ⟨g1,g2,g3,g4,g5,g6,g7⟩
 ·rintro (h | ⟨b,c,d,e,e',f⟩)
  ·exact .inl ⟨k9 h,h.2.1,h.2.2,h.1⟩
  ·refine .inr ⟨by omega,b,c,d,.inr ⟨⟨e,e'⟩,?_⟩⟩
   rcases f with ⟨g1,g2,g3,g4⟩ | ⟨g1,g2,g3,g4,g5,g6,g7⟩
   ·exact .inl ⟨g1,g2,g3,g4⟩
   ·exact .inr ⟨g1,g2,g3,g4,g5,g6,g7⟩
theorem p7 (x):p8 x:=by
 unfold p8 lS
 have p100:∀ a,xS a:=fun a=>by unfold xS lQ;simp only [fT,fI];simp
 have p60:∀ a,xT a:=fun _=>trivial
 simp only [fT,fE,fI,p60,p100]
 simp
theorem CL (x:DO):bR x=true↔Ab x∨Cq x:=by
 have e35:∀ a,Kk a=vt a:=fun _=>rfl
 unfold bR oN
 simp only [dr,cO,df,iZ,aH,dZ,iI,ky,cR,fc,cS,ql,beq_iff_eq,beq_eq_false_iff_ne,ne_eq,Bool.not_eq_true,Bool.false_eq_true,and_false,or_false,false_or,and_true,om,e35,reduceCtorEq]
 constructor
 ·rintro (⟨a,b,c,d⟩ | ⟨a,b,c,d,e1,e2,f⟩)
  ·exact .inl ⟨b,c,d⟩
  ·refine .inr ⟨b,c,d,by omega,by omega,?_⟩
   rcases f with ⟨g1,g2,g3,g4⟩ | ⟨g1,g2,g3,g4,g5,g6,g7⟩
   ·exact .inl ⟨g1,g2,g3,g4⟩
   ·refine .inr ⟨g1,by omega,by omega,by omega,by omega,by omega,?_⟩
    omega
 ·rintro (h | ⟨b,c,d,e,e',f⟩)
  ·exact .inl ⟨k9 h,h.1,h.2.1,h.2.2⟩
  ·refine .inr ⟨by omega,b,c,d,by omega,by omega,?_⟩
   rcases f with ⟨g1,g2,g3,g4⟩ | ⟨g1,g2,g3,g4,g5,g6,g7⟩
   ·exact .inl ⟨g1,g2,g3,g4⟩
   ·refine .inr ⟨g1,by omega,by omega,by omega,by omega,by omega,?_⟩
    omega
theorem CN (x:DO):bR x=iE x:=by
 have:=(CL x).trans (mc x).symm
 cases h1:bR x<;>cases h2:iE x<;>simp_all
end
end Go.bM.RM
end
section
namespace Go.bM.RM
open Go.bM.RL
open Go.bM
noncomputable section
inductive Kd where | r | m | rm | i64 | i32 | i8 | u8 | x | xm | cl | no
def Ls (o:DO):Bool:=al o.1 1&&iE o
def zn (o:DO):Bool:=al o.1 2&&iE o
def BJ (o:DO):Bool:=al o.1 3&&dm CO o (FO o.2.2.2.2.2.2.2)
def xg (o:DO):Bool:=al o.1 1&&(b5 16 o.2.1&&(cK o.2.1 32&&dm CO o (1,(o.2.1,((-1),((-1),(0,(0,(false,0)))))))))
def Kd.b:Kd→DO→Bool
 | .r,o=>Ls o
 | .m,o=>zn o
 | .rm,o=>iE o
 | .i64,o=>BJ o
 | .i32,o=>BJ o&&(b5 (-2147483648) o.2.2.2.2.2.2.2&&cK o.2.2.2.2.2.2.2 2147483648)
 | .i8,o=>BJ o&&(b5 (-128) o.2.2.2.2.2.2.2&&cK o.2.2.2.2.2.2.2 128)
 | .u8,o=>BJ o&&(b5 0 o.2.2.2.2.2.2.2&&cK o.2.2.2.2.2.2.2 256)
 | .x,o=>xg o
 | .xm,o=>xg o||zn o
 | .cl,o=>dm CO o (vt 1)
 | .no,o=>dm CO o zO
def Kd.s:Kd→ByteArray
 | .r=>.mk #[114] | .m=>.mk #[109] | .rm=>.mk #[114,109] | .i8=>.mk #[105,56] | .u8=>.mk #[117,56] | .i32=>.mk #[105,51,50] | .i64=>.mk #[105,54,52]
 | .x=>.mk #[120] | .xm=>.mk #[120,109] | .cl=>.mk #[99,108] | .no=>.mk #[45]
theorem aV (o):ef o=Kd.b .rm o:=rfl
theorem bS (o):dV o=Kd.b .r o:=by
 unfold dV l3 Kd.b Ls;simp only [dr,cO,df];cases al o.1 1<;>rfl
theorem eC (o):oa o=Kd.b .m o:=by
 unfold oa lZ Kd.b zn;simp only [dr,cO,df];cases al o.1 2<;>rfl
theorem n0 (o):vu o=Kd.b .i64 o:=by
 unfold vu lR Kd.b BJ;simp only [dr,cO,df];cases al o.1 3<;>rfl
theorem lM {a b:Bool} (h:a=true↔b=true):a=b:=by cases a<;>cases b<;>simp_all
theorem gx (o):B4 o=Kd.b .i8 o:=by
 apply lM
 unfold B4 lY Kd.b
 simp only [dr,cO,df,iZ,aH,OX,Bool.and_eq_true,cS,cR,n0,Kd.b,beq_iff_eq,Bool.false_eq_true,and_false,or_false]
theorem eA (o):eB o=Kd.b .i32 o:=by
 apply lM
 unfold eB lX Kd.b
 simp only [dr,cO,df,iZ,aH,FG,Bool.and_eq_true,cS,cR,n0,Kd.b,beq_iff_eq,Bool.false_eq_true,and_false,or_false]
theorem lF (o):qL o=Kd.b .u8 o:=by
 apply lM
 unfold qL lU Kd.b
 simp only [dr,cO,df,iZ,aH,Nl,Bool.and_eq_true,cS,cR,n0,Kd.b,beq_iff_eq,Bool.false_eq_true,and_false,or_false]
theorem lE (o):Ki o=Kd.b .cl o:=rfl
theorem dR (o):bE o=Kd.b .no o:=rfl
theorem TL:∀ j:Fin 64,(15#64)[j.val]'(j.isLt)=decide (j.val < 4):=by decide
theorem Qb {r:Int}:kN .i64 r 15=16↔(∃ k:Nat,k < 16∧IntKind.wrap .i64 r=16+k):=by
 have e:kN .i64 r 15=IntKind.wrap .i64 ((BitVec.ofInt 64 r &&& ~~~BitVec.ofInt 64 15).toNat:Nat):=rfl
 have hm:(~~~(BitVec.ofInt 64 15)) = ~~~(15#64):=rfl
 have hv:(BitVec.ofInt 64 r &&& ~~~(15#64)).toNat=(BitVec.ofInt 64 r).toNat / 16 * 16:=by
  have h1:(BitVec.ofInt 64 r &&& ~~~(15#64))=(BitVec.ofInt 64 r >>> 4) <<< 4:=by
   apply BitVec.eq_of_getElem_eq
   intro i hi
   simp only [BitVec.getElem_and,BitVec.getElem_not,BitVec.getElem_shiftLeft,BitVec.getElem_ushiftRight]
   have gF:(15#64)[i]=decide (i < 4):=TL ⟨i,hi⟩
   rw [gF]
   by_cases h4:i < 4
   ·simp [h4]
   ·simp only [h4,decide_false,Bool.not_false,Bool.and_true,Bool.true_and]
    rw [BitVec.getLsbD_eq_getElem (by omega)]
    congr 1
    omega
  rw [h1]
  simp only [BitVec.toNat_shiftLeft,BitVec.toNat_ushiftRight,Nat.shiftLeft_eq,Nat.shiftRight_eq_div_pow]
  have:=(BitVec.ofInt 64 r).isLt
  omega
 have hr:((BitVec.ofInt 64 r).toNat:Int)=r % 18446744073709551616:=by
  rw [BitVec.toNat_ofInt]
  have:(0:Int)≤r % ((2 ^ 64:Nat):Int):=Int.emod_nonneg _ (by decide)
  rw [Int.toNat_of_nonneg this]
  rfl
 rw [e,hm,hv,wrap_i64,wrap_i64]
 have hlt:=(BitVec.ofInt 64 r).isLt
 generalize (BitVec.ofInt 64 r).toNat=n at hr hlt
 constructor
 ·intro h
  refine ⟨n - 16,?_,?_⟩<;>omega
 ·rintro ⟨k,hk,h⟩
  omega
def oG (a:Int):Prop := -9223372036854775808≤a∧a < 9223372036854775808
theorem ET {r:Int} (h:oG r):kN .i64 r 15=16↔16≤r∧r < 32:=by
 rw [Qb,wrap_i64]
 obtain ⟨h1,h2⟩:=h
 constructor
 ·rintro ⟨k,hk,e⟩;omega
 ·intro ⟨a,b⟩;exact ⟨(r - 16).toNat,by omega,by omega⟩
theorem Ia {k:Nat} (h:k < 16):dy .i64 ((16+k:Nat):Int) 15=(k:Int):=by
 have key:(List.range 16).all (fun k=>al (dy .i64 ((16+k:Nat):Int) 15) (k:Nat))=true:=by decide +kernel
 exact aH.1 (List.all_eq_true.1 key k (List.mem_range.2 h))
theorem xf {r:Int} (h1:16≤r) (h2:r < 32):FQ r=(1,(r,((-1),((-1),(0,(0,(false,0)))))))∧fX r=(1,(r,((-1),((-1),(0,(0,(false,0))))))):=by
 obtain ⟨k,hk,e⟩:∃ k:Nat,k < 16∧r=((16+k:Nat):Int):=⟨(r - 16).toNat,by omega,by omega⟩
 have e23:FQ r=(1,(aU .i64 (dy .i64 r 15) 16,((-1),((-1),(0,(0,(false,0))))))):=rfl
 have e24:fX r=(1,(aU .i64 (kx .i64 (aU .i64 (kx .i64 r 16) 16) 16) 16,((-1),((-1),(0,(0,(false,0))))))):=rfl
 have a1:aU .i64 (dy .i64 r 15) 16=r:=by rw [e,Ia hk,fw]<;>omega
 have a2:aU .i64 (kx .i64 (aU .i64 (kx .i64 r 16) 16) 16) 16=r:=by
  have m1:kx .i64 r 16=(k:Int):=by
   show r.tmod 16=_
   rw [Int.tmod_eq_emod_of_nonneg (by omega)];omega
  have m2:aU .i64 (k:Int) 16=(k:Int)+16:=by rw [fw]<;>omega
  have m3:kx .i64 ((k:Int)+16) 16=(k:Int):=by
   show ((k:Int)+16).tmod 16=_
   rw [Int.tmod_eq_emod_of_nonneg (by omega)];omega
  rw [m1,m2,m3,fw]<;>omega
 rw [e23,e24,a1,a2]
 exact ⟨rfl,rfl⟩
theorem iV {o:DO} (h:oG o.2.1):mU o=Kd.b .x o:=by
 apply lM
 unfold mU lW Kd.b xg
 simp only [dr,cO,df,iZ,aH,Bool.and_eq_true,cS,cR,beq_iff_eq,Bool.false_eq_true,and_false,or_false,ET h]
 constructor
 ·rintro ⟨a,⟨b,c⟩,d⟩
  rw [(xf b c).1] at d
  exact ⟨a,b,c,d⟩
 ·rintro ⟨a,b,c,d⟩
  refine ⟨a,⟨b,c⟩,?_⟩
  rw [(xf b c).1];exact d
theorem lG {o:DO} (h:oG o.2.1):qM o=Kd.b .xm o:=by
 unfold qM lV
 simp only [dr,cO,df,iV h,eC]
 show cond (xg o==false) (zn o) true=(xg o||zn o)
 cases xg o<;>cases zn o<;>rfl
end
end Go.bM.RM
end
section
namespace Go.bM.RM
open Go.bM.RL
open Go.bM
noncomputable section
def Kd.i:Kd→Nat | .r=>0 | .m=>1 | .rm=>2 | .i64=>3 | .i32=>4 | .i8=>5 | .u8=>6 | .x=>7 | .xm=>8 | .cl=>9 | .no=>10
theorem Ua (a b:Kd):(a.s==b.s)=(a.i==b.i):=by cases a<;>cases b<;>rfl
theorem Jg (x):wz x:=by
 unfold wz oN
 have p35:∀ a,C1 a:=fun _=>trivial
 simp only [fT,fE,fI,p35]
 simp
theorem Gv (x):jD x:=⟨by decide,by decide,trivial⟩
theorem CP {o:DO} (h:iE o=true):o.1=1∨o.1=2:=by
 rcases (mc o).1 h with h | h
 ·exact .inl (k9 h)
 ·exact .inr h.1
theorem TI (o:DO):dm CO o (vt 1)=(al o.1 1&&(iE o&&al o.2.1 1)):=by
 apply lM
 simp only [Bool.and_eq_true,aH,om,mc]
 constructor
 ·intro h;rw [h];exact ⟨rfl,.inl ⟨rfl,by decide,by decide⟩,rfl⟩
 ·rintro ⟨a,h | h,c⟩
  ·rw [h.1,c]
  ·have:=h.1;omega
set_option maxHeartbeats 8000000 in
theorem FD (o:DO) (k:Kd):Ends (ki (o,k.s)) (k.b o) (oR (o,k.s)):=by
 have p22:∀ a,wv a:=fun _=>trivial
 have c1:ByteArray.mk #[114]=Kd.s .r:=rfl
 have c2:ByteArray.mk #[109]=Kd.s .m:=rfl
 have c3:ByteArray.mk #[114,109]=Kd.s .rm:=rfl
 have c4:ByteArray.mk #[105,56]=Kd.s .i8:=rfl
 have c5:ByteArray.mk #[117,56]=Kd.s .u8:=rfl
 have c6:ByteArray.mk #[105,51,50]=Kd.s .i32:=rfl
 have c7:ByteArray.mk #[105,54,52]=Kd.s .i64:=rfl
 have c8:ByteArray.mk #[120]=Kd.s .x:=rfl
 have c9:ByteArray.mk #[120,109]=Kd.s .xm:=rfl
 have c10:ByteArray.mk #[99,108]=Kd.s .cl:=rfl
 have h0:Ends (ki (o,k.s)) (dm CO o zO) (ki (o,k.s) .h0):=by simp only [ki,eR];rfl
 have e22:∀ a,cL a=FO a:=fun _=>rfl
 have hv:cK o.2.1 32=true→b5 16 o.2.1=true→dm CO o (fX o.2.1)=dm CO o (1,(o.2.1,((-1),((-1),(0,(0,(false,0))))))):=fun a b=>by rw [(xf (cS.1 b) (cR.1 a)).2]
 have hr1:al o.1 1=false→al o.1 2=false→iE o=false:=fun a b=>by
  cases h:iE o with
  | false=>rfl
  | true=>rw [dZ] at a b;rcases CP h with h | h<;>omega
 have x12:al o.1 1=true→al o.1 2=false:=fun a=>by rw [aH.1 a];rfl
 have x13:al o.1 1=true→al o.1 3=false:=fun a=>by rw [aH.1 a];rfl
 have x23:al o.1 2=true→al o.1 3=false:=fun a=>by rw [aH.1 a];rfl
 unfold oR
 simp only [c1,c2,c3,c4,c5,c6,c7,c8,c9,c10,Ua,CN,e22]
 cases k<;>simp only [TI,Kd.b,Ls,zn,BJ,xg]<;>
  (cases f1:al o.1 1<;>cases f2:al o.1 2<;>cases f3:al o.1 3<;>first
   | (exfalso;simp_all;done)
   | (cases a1:b5 16 o.2.1<;>cases a2:cK o.2.1 32<;>
     simp [eI,eN,eR,eJ,Jg,Gv,p22,Kd.i,hv,hr1,f1,f2,f3,a1,a2]<;>first | exact h0 | (simp_all;done) | skip))
theorem AP (o:DO) (k:Kd):wB (o,k.s):=⟨_,FD o k⟩
theorem FM (o:DO) (k:Kd):HV (o,k.s)=k.b o:=ec (FD o k)
end
end Go.bM.RM
end
section
namespace Go.bM.RM
open Go.bM.RL
open Go.bM
noncomputable section
def nV (s:ByteArray):Kd:=
 if s==Kd.s .r then .r else if s==Kd.s .m then .m else if s==Kd.s .rm then .rm else if s==Kd.s .i8 then .i8 else if s==Kd.s .u8 then .u8 else if s==Kd.s .i32 then .i32 else
 if s==Kd.s .i64 then .i64 else if s==Kd.s .x then .x else if s==Kd.s .xm then .xm else if s==Kd.s .cl then .cl else .no
def Iw (s:ByteArray):Bool:=(nV s).s==s
def E6 (r:kI):Bool:=Iw r.2.1&&(Iw r.2.2.1&&(al r.1 1||(al r.1 4||(al r.1 8||(al r.1 16||al r.1 32)))))
theorem I7:(List.range 256).all (fun d=>(List.range 16).all fun c=>(bG ((d:Nat),(c:Nat))).all E6&&decide ((bG ((d:Nat),(c:Nat))).length≤8))=true:=by decide +kernel
theorem Ln {d c:Int} (hd:wQ d) (hc:0≤c∧c < 16):(∀ r∈bG (d,c),E6 r=true)∧(bG (d,c)).length≤8:=by
 obtain ⟨h1,h2⟩:=hd
 have:=List.all_eq_true.1 (List.all_eq_true.1 I7 d.toNat (List.mem_range.2 (by omega))) c.toNat (List.mem_range.2 (by omega))
 rw [Int.toNat_of_nonneg h1,Int.toNat_of_nonneg hc.1] at this
 simp only [Bool.and_eq_true,decide_eq_true_eq] at this
 exact ⟨fun r hr=>List.all_eq_true.1 this.1 r hr,this.2⟩
def gN (w of:Int):Bool:=cond (al of 4) (al w 4||al w 8) (cond (al of 16) (al w 8) (cond (al of 32) (al w 16) (al w of)))
def cZ (x:DI) (r:kI):Bool:=gN x.2.2.1 r.1&&((nV r.2.1).b x.2.2.2.1&&(nV r.2.2.1).b x.2.2.2.2.1)
def JU (x:DI):Bool:=b5 x.2.1 15&&((al x.1 29||(al x.1 30||al x.1 31)||al x.2.1 0)&&(al x.1 39||al x.2.2.2.2.2.1 0))
def lI (x:DI):Option kI:=cond (JU x) ((bG (x.1,x.2.1)).find? (cZ x)) none
end
end Go.bM.RM
end
section
namespace Go.bM.RM
open Go.bM.RL
open Go.bM
noncomputable section
theorem LO (w of:Int):LP (w,of)=gN w of:=by
 unfold LP oS gN
 simp only [dr,df]
 cases al of 4<;>cases al of 16<;>cases al of 32<;>cases al w 4<;>cases al w 8<;>rfl
theorem Jq (x):Fg x:=by
 unfold Fg oS;simp only [fT,fI];simp
theorem Qc (x:Int):∀ (m i:Nat),i+m=8→∃ r,Ends (eK x) r (eK x (.h0 i [3,4,5,6,7,8,9,10])):=by
 intro m
 induction m with
 | zero=>
  intro i hi
  have:i=8:=by omega
  subst this
  refine ⟨-1,?_⟩
  simp only [eK]
  simp only [show cK ((8:Nat):Int) 8=false from rfl,eI,eR]
  exact ⟨(fun h=>by cases h),fun _=>trivial⟩
 | succ m ih=>
  intro i hi
  have e:cK (i:Int) 8=true:=by rw [cR];omega
  cases hc:al (gh (.int .u8) [3,4,5,6,7,8,9,10] i) x with
  | true=>
   refine ⟨i,?_⟩
   simp only [eK]
   simp only [e,Int.toNat_natCast,hc,eI,eN,eR]
   exact ⟨fun _=>⟨by omega,by omega,by omega,fun _=>trivial,(fun h=>by cases h)⟩,(fun h=>by cases h)⟩
  | false=>
   obtain ⟨r,hr⟩:=ih (i+1) (by omega)
   refine ⟨r,?_⟩
   simp only [eK]
   simp only [e,Int.toNat_natCast,hc,eI,eN,eR,eJ,lx i (by omega)]
   exact ⟨fun _=>⟨by omega,by omega,by omega,(fun h=>by cases h),fun _=>hr⟩,(fun h=>by cases h)⟩
theorem Gs (x):C2 x:=by
 obtain ⟨r,hr⟩:=Qc x 8 0 rfl
 refine ⟨r,?_⟩
 unfold kh
 simp only [eN,eJ]
 exact ⟨by omega,by omega,by omega,by omega,by omega,by omega,by omega,by omega,hr⟩
theorem Gr (x):xW x:=by
 unfold xW ny;simp only [fT,fI];simp
theorem Jh (x):E9 x:=by
 unfold E9 gi;simp only [fT,fE,fI,Gs,Gr];simp
theorem Jr (x):ll x:=by
 unfold ll oT;simp only [fT,fE,fI,Jh];simp
theorem J0 {s:ByteArray} (h:Iw s=true):s=(nV s).s:=((F3 _ _).1 h).symm
section
variable {x:DI}
def zR:kI:=(0,(ByteArray.empty,(ByteArray.empty,(0,(([]:List Int),(0,(0,0)))))))
def vp (o:Option kI):kI×Bool:=match o with | some r=>(r,true) | none=>(zR,false)
theorem RR (l:List kI) (hl:l.length≤8) (hr:∀ r∈l,E6 r=true):∀ (m i:Nat),i+m=l.length→Ends (gQ x) (vp ((l.drop i).find? (cZ x))) (gQ x (.h0 l i)):=by
 intro m
 induction m with
 | zero=>
  intro i hi
  rw [List.drop_of_length_le (by omega)]
  simp only [gQ]
  simp only [JW (show l.length≤i by omega),eI,eR]
  exact ⟨(fun h=>by cases h),fun _=>rfl⟩
 | succ m ih=>
  intro i hi
  have hi':i < l.length:=by omega
  have hrd:gh vO l i=l[i]:=fQ (c:=vO) hi'
  have hok:=hr _ (List.getElem_mem hi')
  simp only [E6,Bool.and_eq_true] at hok
  obtain ⟨o1,o2,_⟩:=hok
  have hn:=ih (i+1) (by omega)
  rw [List.drop_eq_getElem_cons hi',List.find?_cons]
  have k1:∀ o,wB (o,l[i].2.1)∧HV (o,l[i].2.1)=(nV l[i].2.1).b o:=fun o=>by
   have e:=J0 o1
   constructor
   ·rw [e];exact AP _ _
   ·conv=>lhs;rw [e]
    exact FM _ _
  have k2:∀ o,wB (o,l[i].2.2.1)∧HV (o,l[i].2.2.1)=(nV l[i].2.2.1).b o:=fun o=>by
   have e:=J0 o2
   constructor
   ·rw [e];exact AP _ _
   ·conv=>lhs;rw [e]
    exact FM _ _
  simp only [gQ]
  simp only [Ey hi',eI,eN,eJ,eR,Int.toNat_natCast,hrd,lx i (by omega),LO,(k1 _).2,(k2 _).2]
  refine ⟨fun _=>⟨by omega,by omega,Jq _,fun a=>⟨by omega,by omega,(k1 _).1,fun b=>⟨by omega,by omega,(k2 _).1,fun c=>⟨by omega,by omega,?_⟩,fun c=>?_⟩,fun b=>?_⟩,fun a=>?_⟩,(fun h=>by cases h)⟩
  ·have:cZ x l[i]=true:=by unfold cZ;simp only [beq_iff_eq] at a b;rw [a,b,c];rfl
   rw [this];rfl
  ·have:cZ x l[i]=false:=by unfold cZ;rw [c];simp
   rw [this];exact hn
  ·have:cZ x l[i]=false:=by unfold cZ;simp only [beq_eq_false_iff_ne,ne_eq,Bool.not_eq_true] at b;rw [b];simp
   rw [this];exact hn
  ·have:cZ x l[i]=false:=by unfold cZ;simp only [beq_eq_false_iff_ne,ne_eq,Bool.not_eq_true] at a;rw [a];simp
   rw [this];exact hn
theorem wo (hd:wQ x.1) (hc:wQ x.2.1):Ends (gQ x) (vp (lI x)) (o3 x):=by
 have hno:Ends (gQ x) (vp none) (.ret (.inr (zR,false))):=eR.2 rfl
 have hyes:cK 15 x.2.1=false→Ends (gQ x) (vp ((bG (x.1,x.2.1)).find? (cZ x))) (gQ x (.h0 (bG (x.1,x.2.1)) 0)):=fun h=>by
  rw [fc] at h
  obtain ⟨h1,h2⟩:=Ln hd (c:=x.2.1) ⟨hc.1,by omega⟩
  have:=RR (x:=x) (bG (x.1,x.2.1)) h2 h1 (bG (x.1,x.2.1)).length 0 (Nat.zero_add _)
  rw [List.drop_zero] at this
  exact this
 have e1:b5 x.2.1 15=!(cK 15 x.2.1):=by
  cases h:cK 15 x.2.1 with
  | true=>rw [cR] at h;rw [Bool.not_true,ql];omega
  | false=>rw [fc] at h;rw [Bool.not_false,cS];omega
 have e2:al x.2.1 0=!(dY x.2.1 0):=by
  cases h:dY x.2.1 0 with
  | true=>rw [iI] at h;rw [Bool.not_true,dZ];exact h
  | false=>rw [ky] at h;rw [Bool.not_false,aH];exact h
 have e3:al x.1 39=!(dY x.1 39):=by
  cases h:dY x.1 39 with
  | true=>rw [iI] at h;rw [Bool.not_true,dZ];exact h
  | false=>rw [ky] at h;rw [Bool.not_false,aH];exact h
 have e4:al x.2.2.2.2.2.1 0=!(dY x.2.2.2.2.2.1 0):=by
  cases h:dY x.2.2.2.2.2.1 0 with
  | true=>rw [iI] at h;rw [Bool.not_true,dZ];exact h
  | false=>rw [ky] at h;rw [Bool.not_false,aH];exact h
 unfold lI JU
 rw [e1,e2,e3,e4]
 unfold o3
 dsimp only
 unfold zR at hno
 generalize hF:(bG (x.1,x.2.1)).find? (cZ x)=F at hyes ⊢
 generalize al x.1 29=a
 generalize al x.1 30=b
 generalize al x.1 31=c
 generalize cK 15 x.2.1=d at hyes ⊢
 generalize dY x.2.1 0=e
 generalize dY x.1 39=f
 generalize dY x.2.2.2.2.2.1 0=g
 cases a<;>cases b<;>cases c<;>cases d<;>cases e<;>cases f<;>cases g<;>
  (simp only [eI,eN,eJ,eR,Jr,Bool.not_true,Bool.not_false,Bool.and_true,Bool.and_false,Bool.true_and,Bool.false_and,Bool.or_true,Bool.or_false,Bool.true_or,Bool.false_or,cond_true,cond_false,true_and,and_true,
   implies_true,forall_const,Bool.false_eq_true,Bool.true_eq_false,false_implies,true_implies,beq_false,beq_true,reduceCtorEq,beq_self_eq_true];first | exact hyes rfl | rfl | trivial)
theorem Jz (hd:wQ x.1) (hc:wQ x.2.1):JA x:=⟨_,wo hd hc⟩
theorem L0 (hd:wQ x.1) (hc:wQ x.2.1):L1 x=vp (lI x):=ec (wo hd hc)
end
end
end Go.bM.RM
end
section
namespace Go.bM.RM
open Go.bM.RL
open Go.bM
noncomputable section
def bd (x:Int):List Int→Nat→Int
 | [],_ => -1
 | c :: l,i=>cond (al x c) (i:Int) (bd x l (i+1))
theorem HP (l:List Int) (x:Int) (hl:l.length≤1000):∀ (m i:Nat),i+m=l.length→Ends (gZ (l,x)) (bd x (l.drop i) i) (gZ (l,x) (.h0 l.length i)):=by
 intro m
 induction m with
 | zero=>
  intro i hi
  rw [List.drop_of_length_le (by omega)]
  simp only [gZ]
  simp only [JW (show l.length≤i by omega),eI,eR]
  exact ⟨(fun h=>by cases h),fun _=>rfl⟩
 | succ m ih=>
  intro i hi
  have hi':i < l.length:=by omega
  have hr:=ih (i+1) (by omega)
  have hrd:gh (.int .i64) l i=l[i]:=fQ (c:=.int .i64) hi'
  rw [List.drop_eq_getElem_cons hi']
  simp only [gZ,bd]
  simp only [Ey hi',hrd,eI,eN,eR,eJ,Int.toNat_natCast,lx i (by omega)]
  refine ⟨fun _=>⟨by omega,by omega,fun h=>?_,fun h=>?_⟩,(fun h=>by cases h)⟩
  ·rw [h];rfl
  ·rw [h];exact hr
theorem qH (l:List Int) (x:Int) (hl:l.length≤1000):Ends (gZ (l,x)) (bd x l 0) (lT (l,x)):=by
 unfold lT
 simp only [eJ]
 have:=HP l x hl l.length 0 (Nat.zero_add _)
 rw [List.drop_zero] at this
 exact this
theorem wD {l:List Int} {x:Int} (hl:l.length≤1000):aM (l,x):=⟨⟨_,qH l x hl⟩,trivial⟩
theorem lH {l:List Int} {x:Int} (hl:l.length≤1000):bf (l,x)=b5 0 (bd x l 0):=by
 have:bf (l,x)=b5 0 (FR (l,x)):=rfl
 have e:FR (l,x)=bd x l 0:=ec (qH l x hl)
 rw [this,e]
theorem HQ (l:List Int) (x:Int) (hl:l.length≤1000):∀ (m i:Nat),i+m=l.length→Ends (hJ (l,x)) (bd x (l.drop i) i) (hJ (l,x) (.h0 l.length i)):=by
 intro m
 induction m with
 | zero=>
  intro i hi
  rw [List.drop_of_length_le (by omega)]
  simp only [hJ]
  simp only [JW (show l.length≤i by omega),eI,eR]
  exact ⟨(fun h=>by cases h),fun _=>rfl⟩
 | succ m ih=>
  intro i hi
  have hi':i < l.length:=by omega
  have hr:=ih (i+1) (by omega)
  have hrd:gh (.int .u8) l i=l[i]:=fQ (c:=.int .u8) hi'
  rw [List.drop_eq_getElem_cons hi']
  simp only [hJ,bd]
  simp only [Ey hi',hrd,eI,eN,eR,eJ,Int.toNat_natCast,lx i (by omega)]
  refine ⟨fun _=>⟨by omega,by omega,fun h=>?_,fun h=>?_⟩,(fun h=>by cases h)⟩
  ·rw [h];rfl
  ·rw [h];exact hr
theorem qI (l:List Int) (x:Int) (hl:l.length≤1000):Ends (hJ (l,x)) (bd x l 0) (l4 (l,x)):=by
 unfold l4
 simp only [eJ]
 have:=HQ l x hl l.length 0 (Nat.zero_add _)
 rw [List.drop_zero] at this
 exact this
theorem Gq {l:List Int} {x:Int} (hl:l.length≤1000):xV (l,x):=⟨_,qI l x hl⟩
theorem Kj {l:List Int} {x:Int} (hl:l.length≤1000):FT (l,x)=bd x l 0:=ec (qI l x hl)
end
end Go.bM.RM
end
section
namespace Go.bM.RM
open Go.bM.RL
open Go.bM
noncomputable section
def dD:List Int:=[3,4,5,6,7,8,9,10]
theorem TQ (x:Int):∀ (m i:Nat),i+m=8→Ends (eK x) (bd x (dD.drop i) i) (eK x (.h0 i dD)):=by
 intro m
 induction m with
 | zero=>
  intro i hi
  have:i=8:=by omega
  subst this
  simp only [eK]
  simp only [show cK ((8:Nat):Int) 8=false from rfl,eI,eR]
  exact ⟨(fun h=>by cases h),fun _=>rfl⟩
 | succ m ih=>
  intro i hi
  have e:cK (i:Int) 8=true:=by rw [cR];omega
  have hi':i < dD.length:=by show i < 8;omega
  have hr:=ih (i+1) (by omega)
  have hrd:gh (.int .u8) dD i=dD[i]:=fQ (c:=.int .u8) hi'
  have hsym:al dD[i] x=al x dD[i]:=by
   cases h:al x dD[i] with
   | true=>rw [aH] at h ⊢;exact h.symm
   | false=>rw [dZ] at h ⊢;exact fun e=>h e.symm
  rw [List.drop_eq_getElem_cons hi']
  simp only [eK,bd]
  simp only [e,Int.toNat_natCast,hrd,hsym,eI,eN,eR,eJ,lx i (by omega)]
  refine ⟨fun _=>⟨by omega,by omega,by omega,fun h=>?_,fun h=>?_⟩,(fun h=>by cases h)⟩
  ·rw [h];rfl
  ·rw [h];exact hr
theorem ik (x:Int):mV x=bd x dD 0:=by
 have h:Ends (eK x) (bd x dD 0) (kh x):=by
  unfold kh
  simp only [eN,eJ]
  have:=TQ x 8 0 rfl
  rw [List.drop_zero] at this
  exact ⟨by omega,by omega,by omega,by omega,by omega,by omega,by omega,by omega,this⟩
 exact ec h
abbrev Qe:Type:=ck
def zE:Qe:=((([]:List Int),(0,())),(((),((),(([]:List Int),(0,(0,0))))),false))
def Qm (w:Int):List Int:=cond (al w 1) [1] (cond (al w 4) [4,8] (cond (al w 8) [8] (cond (al w 16) [8,8] [16])))
def RQ (r:kI):Qe:=((Qm r.1,(r.2.2.2.1,())),(((),((),(r.2.2.2.2.1,(r.2.2.2.2.2.1,(r.2.2.2.2.2.2.1,r.2.2.2.2.2.2.2))))),true))
def dO:Option kI→Qe
 | none=>zE
 | some r=>RQ r
theorem L8 {x:DI}:Ends (ai x) zE (ai x .lB):=by simp only [ai,eR];rfl
end
end Go.bM.RM
end
section
namespace Go.bM.RM
open Go.bM.RL
open Go.bM
noncomputable section
abbrev Vi:Type:=Tr (Ql⊕Qe)
theorem look {x:DI} {R:Qe} {w a b:Bool} {pw pa pb q1 q2:Prop} {A:Qe} {vU:Vi}
  (hw:pw) (ha:pa) (hb:pb) (h1:q1) (h2:q2) (hyes:w=true→a=true→b=true→A=R) (hno:(w&&(a&&b))=false→Ends (ai x) R vU):
  Ends (ai x) R (.aa pw (.ite (w==true) (.aa pa (.ite (a==true) (.aa pb (.ite (b==true) (.aa q1 (.aa q2 (.ret (.inr A)))) vU)) vU)) vU)):=by
 simp only [eN,eI,eR]
 cases w<;>cases a<;>cases b<;>simp_all
theorem kY {w of:Int} (h:of=1∨of=4∨of=8∨of=16∨of=32):b5 0 (bd w (Qm of) 0)=gN w of:=by
 rcases h with rfl | rfl | rfl | rfl | rfl
 ·show b5 0 (cond (al w 1) 0 (-1))=al w 1
  cases al w 1<;>rfl
 ·show b5 0 (cond (al w 4) 0 (cond (al w 8) 1 (-1)))=(al w 4||al w 8)
  cases al w 4<;>cases al w 8<;>rfl
 ·show b5 0 (cond (al w 8) 0 (-1))=al w 8
  cases al w 8<;>rfl
 ·show b5 0 (cond (al w 8) 0 (cond (al w 8) 1 (-1)))=al w 8
  cases al w 8<;>rfl
 ·show b5 0 (cond (al w 16) 0 (-1))=al w 16
  cases al w 16<;>rfl
end
end Go.bM.RM
end
section
namespace Go.bM.RM
open Go.bM.RL
open Go.bM
noncomputable section
theorem jS:(true==false)=false:=rfl
theorem jR:(false==true)=false:=rfl
theorem jQ:(true==true)=true:=rfl
theorem jP:(false==false)=true:=rfl
theorem T9 (k:Kd):nV k.s=k:=by cases k<;>rfl
theorem bV {α β:Type} {s:α→Tr (α⊕β)} {r:β} {t e:Tr (α⊕β)}:Ends s r (.ite true t e)↔Ends s r t:=by simp [eI]
theorem bW {α β:Type} {s:α→Tr (α⊕β)} {r:β} {t e:Tr (α⊕β)}:Ends s r (.ite false t e)↔Ends s r e:=by simp [eI]
theorem VL (x):CY x:=trivial
theorem VK (x):CZ x:=trivial
theorem dC (x):dg x:=⟨p7 _,trivial⟩
theorem gq (x):cY x:=by unfold cY l3;simp only [fT,fE,fI,p7];simp
theorem qb (x):ku x:=by unfold ku lZ;simp only [fT,fE,fI,p7];simp
theorem Lx (x):ni x:=by unfold ni lR;simp only [fT,fE,fI,VL];simp
theorem xZ (x):u0 x:=by unfold u0 lY;simp only [fT,fE,fI,Lx];simp
theorem qa (x):dv x:=by unfold dv lX;simp only [fT,fE,fI,Lx];simp
theorem JJ (x):lq x:=by unfold lq lU;simp only [fT,fE,fI,Lx];simp
theorem JI (x):C0 x:=⟨trivial,trivial⟩
theorem lv (x):a8 x:=trivial
theorem DT (x):jC x:=by unfold jC lW;simp only [fT,fE,fI,VK];simp
theorem JK (x):lr x:=by unfold lr lV;simp only [fT,fE,fI,DT,qb];simp
theorem tv (w:Int):bf ([1],w)=gN w 1:=(lH (by decide)).trans (kY (of:=1) (by decide))
theorem a9 (w:Int):bf ([4,8],w)=gN w 4:=(lH (by decide)).trans (kY (of:=4) (by decide))
theorem L5 (w:Int):bf ([8],w)=gN w 8:=(lH (by decide)).trans (kY (of:=8) (by decide))
theorem il (w:Int):bf ([8,8],w)=gN w 16:=(lH (by decide)).trans (kY (of:=16) (by decide))
theorem jX (w:Int):bf ([16],w)=gN w 32:=(lH (by decide)).trans (kY (of:=32) (by decide))
theorem fv (j w:Int):aM ([j],w)=True:=eq_true (wD (show ([j]:List Int).length≤1000 from by show 1≤1000;decide))
theorem aI (j k w:Int):aM ([j,k],w)=True:=eq_true (wD (show ([j,k]:List Int).length≤1000 from by show 2≤1000;decide))
theorem aT (w:Int):xV ([3,4,5,6,7,8,9,10],w)=True:=eq_true (Gq (show ([3,4,5,6,7,8,9,10]:List Int).length≤1000 from by decide))
theorem bh (w:Int):FT ([3,4,5,6,7,8,9,10],w)=bd w dD 0:=Kj (show ([3,4,5,6,7,8,9,10]:List Int).length≤1000 from by decide)
theorem KK {c:Int} (h:0≤c∧c < 16):dy .u8 c 15=c:=by
 have key:(List.range 16).all (fun k=>al (dy .u8 (k:Nat) 15) (k:Nat))=true:=by decide +kernel
 have:=aH.1 (List.all_eq_true.1 key c.toNat (List.mem_range.2 (by omega)))
 rwa [Int.toNat_of_nonneg h.1] at this
theorem Je {c:Int} (h:0≤c∧c < 16):kx .u8 c 16=c:=by
 show c.tmod 16=c
 exact Int.tmod_eq_of_lt h.1 h.2
theorem row {x:DI} {of:Int} {ka kb:Kd} {t:Int×(List Int×bA)} {l:List kI} {pa pb q1 q2:Prop} {A:Qe} {vU:Vi} (ha:pa) (hb:pb) (h1:q1) (h2:q2)
  (hA:A=RQ (of,(ka.s,(kb.s,t)))) (hn:Ends (ai x) (dO (l.find? (cZ x))) vU):
  Ends (ai x) (dO (((of,(ka.s,(kb.s,t))) :: l).find? (cZ x)))
   (.ite (gN x.2.2.1 of==true) (.aa pa (.ite (ka.b x.2.2.2.1==true) (.aa pb (.ite (kb.b x.2.2.2.2.1==true) (.aa q1 (.aa q2 (.ret (.inr A)))) vU)) vU)) vU):=by
 have hf:cZ x (of,(ka.s,(kb.s,t)))=(gN x.2.2.1 of&&(ka.b x.2.2.2.1&&kb.b x.2.2.2.2.1)):=by
  unfold cZ;simp only [T9]
 rw [List.find?_cons,hf]
 simp only [eN,eI,eR]
 cases gN x.2.2.1 of<;>cases ka.b x.2.2.2.1<;>cases kb.b x.2.2.2.2.1<;>simp_all [dO]
end
end Go.bM.RM
end
