/- A part of the proof that the laws of this seat hold. Conditions: none beyond the row. -/
import Derived.Test.YthkgokmfglphpaaGreatDoorFns0
set_option maxRecDepth 100000
set_option linter.unusedVariables false
set_option linter.unusedSimpArgs false
set_option linter.unusedSectionVars false
section
namespace Go.aA.RV
open Go.Proofs Go.aA
noncomputable def zx (x:gG):Tr eZ:=
 let y0:aC:=x.2.1
 let y1:Nat:=y0.length
 .aa ((y1:Nat)=y1)<|
 let y2:dY:=x.1.2
 let y3:Int:=y2.1
 let y4:bq:=(x.1.1,(y3,((),y2.2.2)))
 let y5:vC:=(y4,(y0,()))
 .aa (AQ y5)<|
 .aa ((0:Nat) < 2)<|
 .aa ((1:Nat) < 2)<|
 let y6:aC:=(tl y5).1
 let y7:Nat:=y6.length
 .aa ((y7:Nat)=y7)<|
 let y8:gT:=(tl y5).2
 let y9:pP:=(y3,[y8.1,y8.2])
 let y10:iC:=(y4,(y6,(16,y9)))
 .aa (bC y10)<|
 .aa ((0:Nat) < 2)<|
 .aa ((1:Nat) < 2)<|
 let y11:aC:=(aR y10).1
 let y12:Nat:=y11.length
 .aa ((y12:Nat)=y12)<|
 let y13:iC:=(y4,(y11,(18,y9)))
 .aa (bC y13)<|
 let y14:aC:=(aR y13).1
 let y15:Nat:=y14.length
 .aa ((y15:Nat)=y15)<|
 let y16:bl:=(aR y10).2
 let y17:gm:=(y4,(y14,y16))
 .aa (ke y17)<|
 let y18:aC:=(kL y17).1
 let y19:Nat:=y18.length
 .aa ((y19:Nat)=y19)<|
 let y20:bl:=(aR y13).2
 let y21:tJ:=(y4,(y18,(y20,y20)))
 .aa (kI y21)<|
 let y22:aC:=(lH y21).1
 let y23:Nat:=y22.length
 .aa ((y23:Nat)=y23)<|
 let y24:gm:=(y4,(y22,y16))
 .aa (lV y24)<|
 let y25:aC:=(ow y24).1
 let y26:Nat:=y25.length
 .aa ((y26:Nat)=y26)<|
 .aa (y4=x.1)<|
 .ret (y25,())
noncomputable def U2 (x):=(zx x).val
def So (x):=(zx x).ok
noncomputable def LR:aN:={t:=72,lf:=2,te:=42,ce:=aP,st:=(.st bw (.st (.int .i64) (.st .a8 (.st (.int .u64) (.st aj (.st aj (.st aj (.a7 aj)))))))),arg:=.unit,bG:=.unit,n:=0,pos:=0,box:=false,pre:=So,f:=fun x=>(U2 x).1,g:=fun x=>(U2 x).2}
theorem W7:aZ aT 65 LR:=dI Tryz.f65 [] trivial zx [(45,eP),(97,jr),(105,uF),(106,oS),(107,mV)] ⟨gI,nq,Fz,wi,sk,trivial⟩ true
noncomputable def ug (x:V5):Tr eZ:=
 .aa ((0:Nat) < 1)<|
 let y0:aC:=x.2.1
 let y1:Nat:=y0.length
 .aa ((y1:Nat)=y1)<|
 let y2:dY:=x.1.2
 let y3:Int:=y2.1
 let y4:bq:=(x.1.1,(y3,((),y2.2.2)))
 let y5:gT:=x.2.2
 let y6:tF:=(y4,(y0,(1,(y3,(0,[y5.1])))))
 .aa (dP y6)<|
 .aa ((0:Nat) < 1)<|
 let y7:aC:=(fM y6).1
 let y8:Nat:=y7.length
 .aa ((y8:Nat)=y8)<|
 let y9:tF:=(y4,(y7,(1,(y3,(2,[y5.2])))))
 .aa (dP y9)<|
 let y10:aC:=(fM y9).1
 let y11:Nat:=y10.length
 .aa ((y11:Nat)=y11)<|
 .aa (y4=x.1)<|
 .ret (y10,())
noncomputable def H6 (x):=(ug x).val
def Fv (x):=(ug x).ok
noncomputable def AD:aN:={t:=72,lf:=2,te:=42,ce:=aP,st:=(.st bw (.st (.int .i64) (.st .a8 (.st (.int .u64) (.st aj (.st aj (.st aj (.a7 aj)))))))),arg:=(.st aj (.a7 aj)),bG:=.unit,n:=0,pos:=0,box:=false,pre:=Fv,f:=fun x=>(H6 x).1,g:=fun x=>(H6 x).2}
theorem MX:aZ aT 108 AD:=dI Tryz.f108 [] trivial ug [(28,jt)] ⟨nr,trivial⟩ true
noncomputable def zw (x:gG):Tr eZ:=
 let y0:aC:=x.2.1
 let y1:Nat:=y0.length
 .aa ((y1:Nat)=y1)<|
 let y2:DI:=x.1.1
 let y3:dY:=x.1.2
 let y4:Int:=y3.1
 let y5:o6:=y3.2.2
 let y6:bq:=(y2,(y4,((),y5)))
 let y7:pQ:=(y6,(y0,(y2.2.2.2.1,(y5.2.1,y4))))
 .aa (j9 y7)<|
 .aa (dU 0)<|
 .aa ((0:Nat) < 2)<|
 .aa ((1:Nat) < 2)<|
 let y8:aC:=(fY y7).1
 let y9:Nat:=y8.length
 .aa ((y9:Nat)=y9)<|
 let y10:pP:=(y4,[(fZ 0),(fY y7).2])
 let y11:iC:=(y6,(y8,(16,y10)))
 .aa (bC y11)<|
 .aa (dU 0)<|
 .aa ((0:Nat) < 2)<|
 .aa ((1:Nat) < 2)<|
 let y12:aC:=(aR y11).1
 let y13:Nat:=y12.length
 .aa ((y13:Nat)=y13)<|
 let y14:iC:=(y6,(y12,(17,y10)))
 .aa (bC y14)<|
 .aa ((0:Nat) < 1)<|
 let y15:aC:=(aR y14).1
 let y16:Nat:=y15.length
 .aa ((y16:Nat)=y16)<|
 let y17:bl:=(aR y14).2
 let y18:iC:=(y6,(y15,(22,(y4,[y17]))))
 .aa (bC y18)<|
 .aa (dj 1)<|
 .aa ((0:Nat) < 2)<|
 .aa ((1:Nat) < 2)<|
 let y19:aC:=(aR y18).1
 let y20:Nat:=y19.length
 .aa ((y20:Nat)=y20)<|
 let y21:iC:=(y6,(y19,(10,(1,[(aR y18).2,(fg 1)]))))
 .aa (bC y21)<|
 let y22:aC:=(aR y21).1
 let y23:Nat:=y22.length
 .aa ((y23:Nat)=y23)<|
 let y24:bl:=(aR y11).2
 let y25:tJ:=(y6,(y22,(y24,y17)))
 .aa (Fv y25)<|
 let y26:aC:=(H6 y25).1
 let y27:Nat:=y26.length
 .aa ((y27:Nat)=y27)<|
 let y28:bl:=(aR y21).2
 let y29:tJ:=(y6,(y26,(y28,y28)))
 .aa (kI y29)<|
 let y30:aC:=(lH y29).1
 let y31:Nat:=y30.length
 .aa ((y31:Nat)=y31)<|
 let y32:gm:=(y6,(y30,y24))
 .aa (lV y32)<|
 let y33:aC:=(ow y32).1
 let y34:Nat:=y33.length
 .aa ((y34:Nat)=y34)<|
 .aa (y6=x.1)<|
 .ret (y33,())
noncomputable def U1 (x):=(zw x).val
def Sn (x):=(zw x).ok
noncomputable def LQ:aN:={t:=72,lf:=2,te:=42,ce:=aP,st:=(.st bw (.st (.int .i64) (.st .a8 (.st (.int .u64) (.st aj (.st aj (.st aj (.a7 aj)))))))),arg:=.unit,bG:=.unit,n:=0,pos:=0,box:=false,pre:=Sn,f:=fun x=>(U1 x).1,g:=fun x=>(U1 x).2}
theorem W6:aZ aT 66 LQ:=dI Tryz.f66 [(9,gn),(12,gU)] ⟨xy,qP,trivial⟩ zw [(45,eP),(98,iM),(106,oS),(107,mV),(108,AD)] ⟨gI,mc,wi,sk,MX,trivial⟩ true
noncomputable def zu (x:gG):Tr eZ:=
 .aa (dU 0)<|
 let y0:aC:=x.2.1
 let y1:Nat:=y0.length
 .aa ((y1:Nat)=y1)<|
 let y2:DI:=x.1.1
 let y3:dY:=x.1.2
 let y4:Int:=y3.1
 let y5:o6:=y3.2.2
 let y6:bq:=(y2,(y4,((),y5)))
 let y7:pQ:=(y6,(y0,(y2.2.2.2.1,(y5.2.1,y4))))
 .aa (j9 y7)<|
 .aa (dU 2)<|
 .aa ((0:Nat) < 3)<|
 .aa ((1:Nat) < 3)<|
 .aa ((2:Nat) < 3)<|
 let y8:aC:=(fY y7).1
 let y9:Nat:=y8.length
 .aa ((y9:Nat)=y9)<|
 let y10:(List bl):=[(fZ 0),(fY y7).2,(fZ 2)]
 let y11:tF:=(y6,(y8,(29,(y4,(0,y10)))))
 .aa (dP y11)<|
 let y12:aC:=(fM y11).1
 let y13:Nat:=y12.length
 .aa ((y13:Nat)=y13)<|
 let y14:pP:=(y4,y10)
 let y15:iC:=(y6,(y12,(19,y14)))
 .aa (bC y15)<|
 let y16:aC:=(aR y15).1
 let y17:Nat:=y16.length
 .aa ((y17:Nat)=y17)<|
 let y18:iC:=(y6,(y16,(20,y14)))
 .aa (bC y18)<|
 let y19:aC:=(aR y18).1
 let y20:Nat:=y19.length
 .aa ((y20:Nat)=y20)<|
 let y21:tJ:=(y6,(y19,((aR y15).2,(aR y18).2)))
 .aa (Fv y21)<|
 let y22:aC:=(H6 y21).1
 let y23:Nat:=y22.length
 .aa ((y23:Nat)=y23)<|
 .aa (y6=x.1)<|
 .ret (y22,())
noncomputable def U0 (x):=(zu x).val
def Sm (x):=(zu x).ok
noncomputable def LP:aN:={t:=72,lf:=2,te:=42,ce:=aP,st:=(.st bw (.st (.int .i64) (.st .a8 (.st (.int .u64) (.st aj (.st aj (.st aj (.a7 aj)))))))),arg:=.unit,bG:=.unit,n:=0,pos:=0,box:=false,pre:=Sm,f:=fun x=>(U0 x).1,g:=fun x=>(U0 x).2}
theorem W5:aZ aT 67 LP:=dI Tryz.f67 [(12,gU)] ⟨qP,trivial⟩ zu [(28,jt),(45,eP),(98,iM),(108,AD)] ⟨nr,gI,mc,MX,trivial⟩ true
noncomputable def uf (x:Kn):Tr eZ:=
 .aa (dU 4)<|
 .aa (dj 8)<|
 .aa ((0:Nat) < 2)<|
 .aa ((1:Nat) < 2)<|
 let y0:aC:=x.2.1
 let y1:Nat:=y0.length
 .aa ((y1:Nat)=y1)<|
 .aa (((0:Nat)+2:Nat)≤2)<|
 let y2:dY:=x.1.2
 let y3:bq:=(x.1.1,(y2.1,((),y2.2.2)))
 let y4:iC:=(y3,(y0,(3,(8,[(fZ 4),(fg 8)]))))
 .aa (bC y4)<|
 .aa ((0:Nat) < 2)<|
 .aa ((1:Nat) < 2)<|
 let y5:aC:=(aR y4).1
 let y6:Nat:=y5.length
 .aa ((y6:Nat)=y6)<|
 .aa (((0:Nat)+2:Nat)≤2)<|
 let y7:bl:=(aR y4).2
 let y8:tF:=(y3,(y5,(28,(8,(0,[y7,x.2.2])))))
 .aa (dP y8)<|
 .aa ((0:Nat) < 1)<|
 let y9:aC:=(fM y8).1
 let y10:Nat:=y9.length
 .aa ((y10:Nat)=y10)<|
 .aa (((0:Nat)+1:Nat)≤1)<|
 let y11:tF:=(y3,(y9,(1,(8,(4,[y7])))))
 .aa (dP y11)<|
 let y12:aC:=(fM y11).1
 let y13:Nat:=y12.length
 .aa ((y13:Nat)=y13)<|
 .aa (y3=x.1)<|
 .ret (y12,())
noncomputable def H5 (x):=(uf x).val
def Fu (x):=(uf x).ok
noncomputable def AB:aN:={t:=72,lf:=2,te:=42,ce:=aP,st:=(.st bw (.st (.int .i64) (.st .a8 (.st (.int .u64) (.st aj (.st aj (.st aj (.a7 aj)))))))),arg:=(.a7 aj),bG:=.unit,n:=0,pos:=0,box:=false,pre:=Fu,f:=fun x=>(H5 x).1,g:=fun x=>(H5 x).2}
theorem MW:aZ aT 109 AB:=dI Tryz.f109 [(9,gn),(12,gU)] ⟨xy,qP,trivial⟩ uf [(28,jt),(45,eP)] ⟨nr,gI,trivial⟩ true
noncomputable def zt (x:gG):Tr eZ:=
 let y0:aC:=x.2.1
 let y1:Nat:=y0.length
 .aa ((y1:Nat)=y1)<|
 let y2:DI:=x.1.1
 let y3:dY:=x.1.2
 let y4:o6:=y3.2.2
 let y5:bq:=(y2,(y3.1,((),y4)))
 let y6:pQ:=(y5,(y0,(y2.2.2.2.1,(y4.2.1,8))))
 .aa (j9 y6)<|
 let y7:aC:=(fY y6).1
 let y8:Nat:=y7.length
 .aa ((y8:Nat)=y8)<|
 let y9:gm:=(y5,(y7,(fY y6).2))
 .aa (Fu y9)<|
 let y10:aC:=(H5 y9).1
 let y11:Nat:=y10.length
 .aa ((y11:Nat)=y11)<|
 .aa (y5=x.1)<|
 .ret (y10,())
noncomputable def UZ (x):=(zt x).val
def Sl (x):=(zt x).ok
noncomputable def LO:aN:={t:=72,lf:=2,te:=42,ce:=aP,st:=(.st bw (.st (.int .i64) (.st .a8 (.st (.int .u64) (.st aj (.st aj (.st aj (.a7 aj)))))))),arg:=.unit,bG:=.unit,n:=0,pos:=0,box:=false,pre:=Sl,f:=fun x=>(UZ x).1,g:=fun x=>(UZ x).2}
theorem W4:aZ aT 68 LO:=dI Tryz.f68 [] trivial zt [(98,iM),(109,AB)] ⟨mc,MW,trivial⟩ true
noncomputable def ud (x:gG):Tr tE:=
 .aa (dU 4)<|
 .aa ((0:Nat) < 1)<|
 let y0:aC:=x.2.1
 let y1:Nat:=y0.length
 .aa ((y1:Nat)=y1)<|
 .aa (((0:Nat)+1:Nat)≤1)<|
 let y2:dY:=x.1.2
 let y3:bq:=(x.1.1,(y2.1,((),y2.2.2)))
 let y4:iC:=(y3,(y0,(27,(8,[(fZ 4)]))))
 .aa (bC y4)<|
 .aa (dU 4)<|
 .aa (dj 8)<|
 .aa ((0:Nat) < 2)<|
 .aa ((1:Nat) < 2)<|
 let y5:aC:=(aR y4).1
 let y6:Nat:=y5.length
 .aa ((y6:Nat)=y6)<|
 .aa (((0:Nat)+2:Nat)≤2)<|
 let y7:iC:=(y3,(y5,(2,(8,[(fZ 4),(fg 8)]))))
 .aa (bC y7)<|
 .aa ((0:Nat) < 1)<|
 let y8:aC:=(aR y7).1
 let y9:Nat:=y8.length
 .aa ((y9:Nat)=y9)<|
 .aa (((0:Nat)+1:Nat)≤1)<|
 let y10:tF:=(y3,(y8,(1,(8,(4,[(aR y7).2])))))
 .aa (dP y10)<|
 let y11:aC:=(fM y10).1
 let y12:Nat:=y11.length
 .aa ((y12:Nat)=y12)<|
 .aa (y3=x.1)<|
 .ret (y11,(aR y4).2)
noncomputable def yC (x):=(ud x).val
def Fs (x):=(ud x).ok
noncomputable def Az:aN:={t:=72,lf:=2,te:=42,ce:=aP,st:=(.st bw (.st (.int .i64) (.st .a8 (.st (.int .u64) (.st aj (.st aj (.st aj (.a7 aj)))))))),arg:=.unit,bG:=aj,n:=1,pos:=0,box:=false,pre:=Fs,f:=fun x=>(yC x).1,g:=fun x=>(yC x).2}
theorem MU:aZ aT 111 Az:=dI Tryz.f111 [(9,gn),(12,gU)] ⟨xy,qP,trivial⟩ ud [(28,jt),(45,eP)] ⟨nr,gI,trivial⟩ true
noncomputable def zr (x:gG):Tr eZ:=
 let y0:aC:=x.2.1
 let y1:Nat:=y0.length
 .aa ((y1:Nat)=y1)<|
 let y2:DI:=x.1.1
 let y3:dY:=x.1.2
 let y4:o6:=y3.2.2
 let y5:bq:=(y2,(y3.1,((),y4)))
 let y6:vC:=(y5,(y0,()))
 .aa (Fs y6)<|
 let y7:aC:=(yC y6).1
 let y8:Nat:=y7.length
 .aa ((y8:Nat)=y8)<|
 let y9:tY6:=(y5,(y7,(y2.2.2.2.1,(y4.2.1,(8,(yC y6).2)))))
 .aa (Ft y9)<|
 let y10:aC:=(H4 y9).1
 let y11:Nat:=y10.length
 .aa ((y11:Nat)=y11)<|
 .aa (y5=x.1)<|
 .ret (y10,())
noncomputable def UY (x):=(zr x).val
def Sk (x):=(zr x).ok
noncomputable def LN:aN:={t:=72,lf:=2,te:=42,ce:=aP,st:=(.st bw (.st (.int .i64) (.st .a8 (.st (.int .u64) (.st aj (.st aj (.st aj (.a7 aj)))))))),arg:=.unit,bG:=.unit,n:=0,pos:=0,box:=false,pre:=Sk,f:=fun x=>(UY x).1,g:=fun x=>(UY x).2}
theorem W3:aZ aT 69 LN:=dI Tryz.f69 [] trivial zr [(110,AA),(111,Az)] ⟨MV,MU,trivial⟩ true
noncomputable def uc (x:gG):Tr tE:=
 let y0:dY:=x.1.2
 let y1:o6:=y0.2.2
 let y2:DI:=x.1.1
 let y3:Int:=(aJ .u64 y1.1 (af .u64 y2.2.2.2.2.1.2.2.2.2.2.2.2))
 .aa (dj y3)<|
 let y4:aC:=x.2.1
 let y5:Nat:=y4.length
 .aa ((y5:Nat)=y5)<|
 .aa ((y2,(y0.1,((),y1)))=x.1)<|
 .ret (y4,(fg y3))
noncomputable def tk (x):=(uc x).val
def AP (x):=(uc x).ok
noncomputable def G5:aN:={t:=72,lf:=2,te:=42,ce:=aP,st:=(.st bw (.st (.int .i64) (.st .a8 (.st (.int .u64) (.st aj (.st aj (.st aj (.a7 aj)))))))),arg:=.unit,bG:=aj,n:=1,pos:=0,box:=false,pre:=AP,f:=fun x=>(tk x).1,g:=fun x=>(tk x).2}
theorem TV:aZ aT 112 G5:=dI Tryz.f112 [(9,gn)] ⟨xy,trivial⟩ uc [] trivial true
noncomputable def tX (x:V6):Tr tE:=
 .aa ((0:Nat) < 2)<|
 .aa ((1:Nat) < 2)<|
 let y0:aC:=x.2.1
 let y1:Nat:=y0.length
 .aa ((y1:Nat)=y1)<|
 .aa (((0:Nat)+2:Nat)≤2)<|
 let y2:dY:=x.1.2
 let y3:bq:=(x.1.1,(y2.1,((),y2.2.2)))
 let y4:(Int×gT):=x.2.2
 let y5:gT:=y4.2
 let y6:iC:=(y3,(y0,(y4.1,(1,[y5.1,y5.2]))))
 .aa (bC y6)<|
 let y7:aC:=(aR y6).1
 let y8:Nat:=y7.length
 .aa ((y8:Nat)=y8)<|
 .aa (y3=x.1)<|
 .ret (y7,(aR y6).2)
noncomputable def cU (x):=(tX x).val
def iN (x):=(tX x).ok
noncomputable def G2:aN:={t:=72,lf:=2,te:=42,ce:=aP,st:=(.st bw (.st (.int .i64) (.st .a8 (.st (.int .u64) (.st aj (.st aj (.st aj (.a7 aj)))))))),arg:=(.st (.int .u8) (.st aj (.a7 aj))),bG:=aj,n:=1,pos:=3,box:=true,pre:=iN,f:=fun x=>(cU x).1,g:=fun x=>(cU x).2}
theorem TS:aZ aT 125 G2:=dI Tryz.f125 [] trivial tX [(45,eP)] ⟨gI,trivial⟩ true
noncomputable def ub (x:gG):Tr tE:=
 let y0:DI:=x.1.1
 let y1:Int:=y0.2.1
 let y2:Int:=(ic .u8 y1 1)
 .ite (ae y2 6) (
 .aa (dU 16)<|
 .aa (dU 17)<|
 let y3:=x.2.1
 let y4:Nat:=y3.length
 .aa ((y4:Nat)=y4)<|
 let y5:=x.1.2
 let y6:bq:=(y0,(y5.1,((),y5.2.2)))
 let y7:jn:=(y6,(y3,(9,((fZ 16),(fZ 17)))))
 .aa (iN y7)<|
 let y8:=(ae (av .u8 y1 1) 1)
 .ite y8 (
 .aa (dj 1)<|
 let y9:=(cU y7).1
 let y10:Nat:=y9.length
 .aa ((y10:Nat)=y10)<|
 let y11:=(cU y7).2
 let y12:jn:=(y6,(y9,(10,(y11,(fg 1)))))
 .aa (iN y12)<|
 let y13:=(cU y12).1
 let y14:Nat:=y13.length
 .aa ((y14:Nat)=y14)<|
 .aa (y6=x.1)<|
 .ret (y13,(cU y12).2)) (
 let y15:=(cU y7).1
 let y16:Nat:=y15.length
 .aa ((y16:Nat)=y16)<|
 .aa (y6=x.1)<|
 let y17:=(cU y7).2
 .ret (y15,y17))) (
 .ite (ae y2 12) (
 .aa (dU 18)<|
 .aa (dU 19)<|
 let y18:=x.2.1
 let y19:Nat:=y18.length
 .aa ((y19:Nat)=y19)<|
 let y20:=x.1.2
 let y21:bq:=(y0,(y20.1,((),y20.2.2)))
 let y22:jn:=(y21,(y18,(25,((fZ 18),(fZ 19)))))
 .aa (iN y22)<|
 .aa (dj 1)<|
 let y23:=(cU y22).1
 let y24:Nat:=y23.length
 .aa ((y24:Nat)=y24)<|
 let y25:jn:=(y21,(y23,(10,((cU y22).2,(fg 1)))))
 .aa (iN y25)<|
 let y26:=(ae y2 14)
 .ite y26 (
 .aa (dU 17)<|
 let y27:=(cU y25).1
 let y28:Nat:=y27.length
 .aa ((y28:Nat)=y28)<|
 let y29:=(cU y25).2
 let y30:jn:=(y21,(y27,(9,((fZ 17),y29))))
 .aa (iN y30)<|
 let y31:=(ae (av .u8 y1 1) 1)
 .ite y31 (
 .aa (dj 1)<|
 let y32:=(cU y30).1
 let y33:Nat:=y32.length
 .aa ((y33:Nat)=y33)<|
 let y34:=(cU y30).2
 let y35:jn:=(y21,(y32,(10,(y34,(fg 1)))))
 .aa (iN y35)<|
 let y36:=(cU y35).1
 let y37:Nat:=y36.length
 .aa ((y37:Nat)=y37)<|
 .aa (y21=x.1)<|
 let y38:Af:=(y36,(cU y35).2)
 .ret y38) (
 let y39:=(cU y30).1
 let y40:Nat:=y39.length
 .aa ((y40:Nat)=y40)<|
 .aa (y21=x.1)<|
 let y41:=(cU y30).2
 let y42:Af:=(y39,y41)
 .ret y42)) (
 let y43:=(ae (av .u8 y1 1) 1)
 .ite y43 (
 .aa (dj 1)<|
 let y44:=(cU y25).1
 let y45:Nat:=y44.length
 .aa ((y45:Nat)=y45)<|
 let y46:=(cU y25).2
 let y47:jn:=(y21,(y44,(10,(y46,(fg 1)))))
 .aa (iN y47)<|
 let y48:=(cU y47).1
 let y49:Nat:=y48.length
 .aa ((y49:Nat)=y49)<|
 .aa (y21=x.1)<|
 let y50:Af:=(y48,(cU y47).2)
 .ret y50) (
 let y51:=(cU y25).1
 let y52:Nat:=y51.length
 .aa ((y52:Nat)=y52)<|
 .aa (y21=x.1)<|
 let y53:=(cU y25).2
 let y54:Af:=(y51,y53)
 .ret y54))) (
 let y55:=(ae y2 14)
 .ite y55 (
 .aa (dU 18)<|
 .aa (dU 19)<|
 let y56:=x.2.1
 let y57:Nat:=y56.length
 .aa ((y57:Nat)=y57)<|
 let y58:=x.1.2
 let y59:bq:=(y0,(y58.1,((),y58.2.2)))
 let y60:jn:=(y59,(y56,(25,((fZ 18),(fZ 19)))))
 .aa (iN y60)<|
 .aa (dj 1)<|
 let y61:=(cU y60).1
 let y62:Nat:=y61.length
 .aa ((y62:Nat)=y62)<|
 let y63:jn:=(y59,(y61,(10,((cU y60).2,(fg 1)))))
 .aa (iN y63)<|
 .ite y55 (
 .aa (dU 17)<|
 let y64:=(cU y63).1
 let y65:Nat:=y64.length
 .aa ((y65:Nat)=y65)<|
 let y66:=(cU y63).2
 let y67:jn:=(y59,(y64,(9,((fZ 17),y66))))
 .aa (iN y67)<|
 let y68:=(ae (av .u8 y1 1) 1)
 .ite y68 (
 .aa (dj 1)<|
 let y69:=(cU y67).1
 let y70:Nat:=y69.length
 .aa ((y70:Nat)=y70)<|
 let y71:=(cU y67).2
 let y72:jn:=(y59,(y69,(10,(y71,(fg 1)))))
 .aa (iN y72)<|
 let y73:=(cU y72).1
 let y74:Nat:=y73.length
 .aa ((y74:Nat)=y74)<|
 .aa (y59=x.1)<|
 let y75:Af:=(y73,(cU y72).2)
 .ret y75) (
 let y76:=(cU y67).1
 let y77:Nat:=y76.length
 .aa ((y77:Nat)=y77)<|
 .aa (y59=x.1)<|
 let y78:=(cU y67).2
 let y79:Af:=(y76,y78)
 .ret y79)) (
 let y80:=(ae (av .u8 y1 1) 1)
 .ite y80 (
 .aa (dj 1)<|
 let y81:=(cU y63).1
 let y82:Nat:=y81.length
 .aa ((y82:Nat)=y82)<|
 let y83:=(cU y63).2
 let y84:jn:=(y59,(y81,(10,(y83,(fg 1)))))
 .aa (iN y84)<|
 let y85:=(cU y84).1
 let y86:Nat:=y85.length
 .aa ((y86:Nat)=y86)<|
 .aa (y59=x.1)<|
 let y87:Af:=(y85,(cU y84).2)
 .ret y87) (
 let y88:=(cU y63).1
 let y89:Nat:=y88.length
 .aa ((y89:Nat)=y89)<|
 .aa (y59=x.1)<|
 let y90:=(cU y63).2
 let y91:Af:=(y88,y90)
 .ret y91))) (
 let y92:Int:=(cond (ae y2 0) 19 (cond (ae y2 2) 16 (cond (ae y2 4) 17 (cond (ae y2 8) 18 (cond (ae y2 10) 20 0)))))
 .aa (dU y92)<|
 let y93:=(ae (av .u8 y1 1) 1)
 .ite y93 (
 .aa (dj 1)<|
 let y94:=x.2.1
 let y95:Nat:=y94.length
 .aa ((y95:Nat)=y95)<|
 let y96:=x.1.2
 let y97:bq:=(y0,(y96.1,((),y96.2.2)))
 let y98:=(fZ y92)
 let y99:jn:=(y97,(y94,(10,(y98,(fg 1)))))
 .aa (iN y99)<|
 let y100:=(cU y99).1
 let y101:Nat:=y100.length
 .aa ((y101:Nat)=y101)<|
 .aa (y97=x.1)<|
 .ret (y100,(cU y99).2)) (
 let y102:=x.2.1
 let y103:Nat:=y102.length
 .aa ((y103:Nat)=y103)<|
 let y104:=x.1.2
 let y105:bq:=(y0,(y104.1,((),y104.2.2)))
 .aa (y105=x.1)<|
 let y106:=(fZ y92)
 .ret (y102,y106)))))
noncomputable def tj (x):=(ub x).val
def AO (x):=(ub x).ok
noncomputable def uE:aN:={t:=72,lf:=2,te:=42,ce:=aP,st:=(.st bw (.st (.int .i64) (.st .a8 (.st (.int .u64) (.st aj (.st aj (.st aj (.a7 aj)))))))),arg:=.unit,bG:=aj,n:=1,pos:=0,box:=false,pre:=AO,f:=fun x=>(tj x).1,g:=fun x=>(tj x).2}
theorem Fy:aZ aT 113 uE:=dI Tryz.f113 [(9,gn),(12,gU)] ⟨xy,qP,trivial⟩ ub [(125,G2)] ⟨TS,trivial⟩ true
noncomputable def zq (x:gG):Tr eZ:=
 let y0:aC:=x.2.1
 let y1:Nat:=y0.length
 .aa ((y1:Nat)=y1)<|
 let y2:DI:=x.1.1
 let y3:dY:=x.1.2
 let y4:Int:=y3.1
 let y5:o6:=y3.2.2
 let y6:bq:=(y2,(y4,((),y5)))
 let y7:B1:=y2.2.2.2
 let y8:(bl×Ag):=y5.2
 let y9:pQ:=(y6,(y0,(y7.1,(y8.1,y4))))
 .aa (j9 y9)<|
 let y10:aC:=(fY y9).1
 let y11:Nat:=y10.length
 .aa ((y11:Nat)=y11)<|
 let y12:pQ:=(y6,(y10,(y7.2.1,(y8.2.1,y4))))
 .aa (j9 y12)<|
 let y13:aC:=(fY y12).1
 let y14:Nat:=y13.length
 .aa ((y14:Nat)=y14)<|
 let y15:vC:=(y6,(y13,()))
 .aa (AO y15)<|
 .aa ((0:Nat) < 3)<|
 .aa ((1:Nat) < 3)<|
 .aa ((2:Nat) < 3)<|
 let y16:aC:=(tj y15).1
 let y17:Nat:=y16.length
 .aa ((y17:Nat)=y17)<|
 let y18:iC:=(y6,(y16,(26,(8,[(fY y12).2,(fY y9).2,(tj y15).2]))))
 .aa (bC y18)<|
 let y19:aC:=(aR y18).1
 let y20:Nat:=y19.length
 .aa ((y20:Nat)=y20)<|
 let y21:gm:=(y6,(y19,(aR y18).2))
 .aa (ke y21)<|
 let y22:aC:=(kL y21).1
 let y23:Nat:=y22.length
 .aa ((y23:Nat)=y23)<|
 .aa (y6=x.1)<|
 .ret (y22,())
noncomputable def UW (x):=(zq x).val
def Sj (x):=(zq x).ok
noncomputable def LM:aN:={t:=72,lf:=2,te:=42,ce:=aP,st:=(.st bw (.st (.int .i64) (.st .a8 (.st (.int .u64) (.st aj (.st aj (.st aj (.a7 aj)))))))),arg:=.unit,bG:=.unit,n:=0,pos:=0,box:=false,pre:=Sj,f:=fun x=>(UW x).1,g:=fun x=>(UW x).2}
theorem W2:aZ aT 74 LM:=dI Tryz.f74 [] trivial zq [(45,eP),(97,jr),(98,iM),(113,uE)] ⟨gI,nq,mc,Fy,trivial⟩ true
noncomputable def zp (x:gG):Tr eZ:=
 let y0:aC:=x.2.1
 let y1:Nat:=y0.length
 .aa ((y1:Nat)=y1)<|
 let y2:dY:=x.1.2
 let y3:bq:=(x.1.1,(y2.1,((),y2.2.2)))
 let y4:vC:=(y3,(y0,()))
 .aa (AO y4)<|
 let y5:aC:=(tj y4).1
 let y6:Nat:=y5.length
 .aa ((y6:Nat)=y6)<|
 let y7:gm:=(y3,(y5,(tj y4).2))
 .aa (ke y7)<|
 let y8:aC:=(kL y7).1
 let y9:Nat:=y8.length
 .aa ((y9:Nat)=y9)<|
 .aa (y3=x.1)<|
 .ret (y8,())
noncomputable def UU (x):=(zp x).val
def Si (x):=(zp x).ok
noncomputable def LL:aN:={t:=72,lf:=2,te:=42,ce:=aP,st:=(.st bw (.st (.int .i64) (.st .a8 (.st (.int .u64) (.st aj (.st aj (.st aj (.a7 aj)))))))),arg:=.unit,bG:=.unit,n:=0,pos:=0,box:=false,pre:=Si,f:=fun x=>(UU x).1,g:=fun x=>(UU x).2}
theorem W1:aZ aT 75 LL:=dI Tryz.f75 [] trivial zp [(97,jr),(113,uE)] ⟨nq,Fy,trivial⟩ true
noncomputable def zn (x:gG):Tr eZ:=
 let y0:aC:=x.2.1
 let y1:Nat:=y0.length
 .aa ((y1:Nat)=y1)<|
 let y2:DI:=x.1.1
 let y3:dY:=x.1.2
 let y4:o6:=y3.2.2
 let y5:bq:=(y2,(y3.1,((),y4)))
 let y6:pQ:=(y5,(y0,(y2.2.2.2.2.1,(y4.2.2.1,1))))
 .aa (j9 y6)<|
 .aa ((0:Nat) < 1)<|
 let y7:aC:=(fY y6).1
 let y8:Nat:=y7.length
 .aa ((y8:Nat)=y8)<|
 let y9:iC:=(y5,(y7,(1,(1,[(fY y6).2]))))
 .aa (bC y9)<|
 let y10:aC:=(aR y9).1
 let y11:Nat:=y10.length
 .aa ((y11:Nat)=y11)<|
 let y12:gm:=(y5,(y10,(aR y9).2))
 .aa (ke y12)<|
 let y13:aC:=(kL y12).1
 let y14:Nat:=y13.length
 .aa ((y14:Nat)=y14)<|
 .aa (y5=x.1)<|
 .ret (y13,())
noncomputable def UT (x):=(zn x).val
def Sh (x):=(zn x).ok
noncomputable def LK:aN:={t:=72,lf:=2,te:=42,ce:=aP,st:=(.st bw (.st (.int .i64) (.st .a8 (.st (.int .u64) (.st aj (.st aj (.st aj (.a7 aj)))))))),arg:=.unit,bG:=.unit,n:=0,pos:=0,box:=false,pre:=Sh,f:=fun x=>(UT x).1,g:=fun x=>(UT x).2}
theorem W0:aZ aT 76 LK:=dI Tryz.f76 [] trivial zn [(45,eP),(97,jr),(98,iM)] ⟨gI,nq,mc,trivial⟩ true
noncomputable def zm (x:gG):Tr eZ:=
 let y0:aC:=x.2.1
 let y1:Nat:=y0.length
 .aa ((y1:Nat)=y1)<|
 let y2:DI:=x.1.1
 let y3:dY:=x.1.2
 let y4:o6:=y3.2.2
 let y5:bq:=(y2,(y3.1,((),y4)))
 let y6:pQ:=(y5,(y0,(y2.2.2.2.2.1,(y4.2.2.1,1))))
 .aa (j9 y6)<|
 .aa ((0:Nat) < 1)<|
 let y7:aC:=(fY y6).1
 let y8:Nat:=y7.length
 .aa ((y8:Nat)=y8)<|
 let y9:iC:=(y5,(y7,(21,(1,[(fY y6).2]))))
 .aa (bC y9)<|
 let y10:aC:=(aR y9).1
 let y11:Nat:=y10.length
 .aa ((y11:Nat)=y11)<|
 let y12:gm:=(y5,(y10,(aR y9).2))
 .aa (ke y12)<|
 let y13:aC:=(kL y12).1
 let y14:Nat:=y13.length
 .aa ((y14:Nat)=y14)<|
 .aa (y5=x.1)<|
 .ret (y13,())
noncomputable def US (x):=(zm x).val
def Sg (x):=(zm x).ok
noncomputable def LJ:aN:={t:=72,lf:=2,te:=42,ce:=aP,st:=(.st bw (.st (.int .i64) (.st .a8 (.st (.int .u64) (.st aj (.st aj (.st aj (.a7 aj)))))))),arg:=.unit,bG:=.unit,n:=0,pos:=0,box:=false,pre:=Sg,f:=fun x=>(US x).1,g:=fun x=>(US x).2}
theorem WZ:aZ aT 77 LJ:=dI Tryz.f77 [] trivial zm [(45,eP),(97,jr),(98,iM)] ⟨gI,nq,mc,trivial⟩ true
noncomputable def zl (x:gG):Tr eZ:=
 let y0:DI:=x.1.1
 .ite (ae y0.2.2.2.1.1 2) (
 .aa ((0:Nat) < 1)<|
 let y1:=x.2.1
 let y2:Nat:=y1.length
 .aa ((y2:Nat)=y2)<|
 .aa (((0:Nat)+1:Nat)≤1)<|
 let y3:=x.1.2
 let y4:=y3.2.2
 let y5:bq:=(y0,(y3.1,((),y4)))
 let y6:=y4.2
 let y7:tF:=(y5,(y1,(31,(16,(0,[y6.1])))))
 .aa (dP y7)<|
 let y8:=(fM y7).1
 let y9:Nat:=y8.length
 let y10:Int:=(eG .i64 (y9:Int) 1)
 .aa ((0:Int)≤y10)<|
 .aa (y10 < (y9:Int))<|
 .aa ((0:Nat) < y9)<|
 let y11:Nat:=(y10).toNat
 .aa ((y11:Nat) < y9)<|
 let y12:bX:=(eX aP y8 y11)
 let y13:=y12.2
 let y14:=y13.2
 let y15:=y14.2
 let y16:=y15.2
 let y17:aC:=(y8.set y11 (y12.1,(y13.1,(y14.1,(y15.1,(y16.1,(y16.2.1,y0)))))))
 .aa ((y9:Nat)=y17.length)<|
 .aa (y5=x.1)<|
 .ret (y17,())) (
 .aa ((0:Nat) < 1)<|
 let y18:=x.2.1
 let y19:Nat:=y18.length
 .aa ((y19:Nat)=y19)<|
 .aa (((0:Nat)+1:Nat)≤1)<|
 let y20:=x.1.2
 let y21:=y20.2.2
 let y22:bq:=(y0,(y20.1,((),y21)))
 let y23:=y21.2
 let y24:tF:=(y22,(y18,(31,(16,(0,[y23.2.1])))))
 .aa (dP y24)<|
 let y25:=(fM y24).1
 let y26:Nat:=y25.length
 let y27:Int:=(eG .i64 (y26:Int) 1)
 .aa ((0:Int)≤y27)<|
 .aa (y27 < (y26:Int))<|
 .aa ((0:Nat) < y26)<|
 let y28:Nat:=(y27).toNat
 .aa ((y28:Nat) < y26)<|
 let y29:bX:=(eX aP y25 y28)
 let y30:=y29.2
 let y31:=y30.2
 let y32:=y31.2
 let y33:=y32.2
 let y34:aC:=(y25.set y28 (y29.1,(y30.1,(y31.1,(y32.1,(y33.1,(y33.2.1,y0)))))))
 .aa ((y26:Nat)=y34.length)<|
 .aa (y22=x.1)<|
 .ret (y34,()))
noncomputable def FU (x):=(zl x).val
def ya (x):=(zl x).ok
noncomputable def LI:aN:={t:=72,lf:=2,te:=42,ce:=aP,st:=(.st bw (.st (.int .i64) (.st .a8 (.st (.int .u64) (.st aj (.st aj (.st aj (.a7 aj)))))))),arg:=.unit,bG:=.unit,n:=0,pos:=0,box:=false,pre:=ya,f:=fun x=>(FU x).1,g:=fun x=>(FU x).2}
theorem WY:aZ aT 78 LI:=dI Tryz.f78 [] trivial zl [(28,jt)] ⟨nr,trivial⟩
noncomputable def EU (_x:Unit):Tr Unit:=
 .ret ()
noncomputable def ac2 (x):=(EU x).val
def MH (x):=(EU x).ok
noncomputable def m27:List (AV×AV):=[((.int .u8 1),(.fn 47 [])),((.int .u8 2),(.fn 48 [])),((.int .u8 3),(.fn 49 [])),((.int .u8 5),(.fn 50 [])),((.int .u8 8),(.fn 51 [])),((.int .u8 6),(.fn 52 [])),((.int .u8 10),(.fn 51 [])),((.int .u8 7),(.fn 53 [])),((.int .u8 11),(.fn 53 [])),((.int .u8 4),(.fn 54 [])),((.int .u8 9),(.fn 55 [])),((.int .u8 12),(.fn 56 [])),((.int .u8 13),(.fn 57 [])),((.int .u8 14),(.fn 58 [])),((.int .u8 15),(.fn 59 [])),((.int .u8 16),(.fn 60 [])),((.int .u8 17),(.fn 61 [])),((.int .u8 18),(.fn 62 [])),((.int .u8 19),(.fn 63 [])),((.int .u8 20),(.fn 64 [])),((.int .u8 21),(.fn 65 [])),((.int .u8 22),(.fn 66 [])),((.int .u8 23),(.fn 67 [])),((.int .u8 24),(.fn 68 [])),((.int .u8 25),(.fn 69 [])),((.int .u8 26),(.fn 70 [])),((.int .u8 27),(.fn 71 [])),((.int .u8 28),(.fn 72 [])),((.int .u8 29),(.fn 73 [])),((.int .u8 30),(.fn 74 [])),((.int .u8 31),(.fn 75 [])),((.int .u8 32),(.fn 76 [])),((.int .u8 33),(.fn 77 [])),((.int .u8 35),(.fn 78 [])),((.int .u8 36),(.fn 78 [])),((.int .u8 37),(.fn 78 [])),((.int .u8 38),(.fn 78 [])),((.int .u8 39),(.fn 78 []))]
noncomputable def KY:Spec:={dg:=.unit,bG:=.a8,n:=1,pre:=MH,f:=ac2,own:=some (.mp m27)}
theorem Z0:au aT 27 KY:=iO Tryz.f27 [] trivial EU
end Go.aA.RV
end
section
namespace Go.aA.RV
open Go.Proofs Go.aA
abbrev StT:Type:=DI×dY
noncomputable def SL (x:DI×Int):Int:=aJ .u64 x.2 (af .u64 x.1.2.2.2.2.2.2)
noncomputable def Yz (x:DI×Int) (a b:bl):StT:=(x.1,(x.1.2.2.1,((),(SL x,(a,(b,(fg (SL x),fg 1)))))))
noncomputable def YI (x:DI×Int):List bX×bl:=hU (Yz x (false,(0,0)) (false,(0,0)),([],x.1.2.2.2.1))
noncomputable def Yt (x:DI×Int):List bX×bl:=hU (Yz x (YI x).2 (false,(0,0)),((YI x).1,x.1.2.2.2.2.1))
noncomputable abbrev cF (x:DI×Int):StT×eZ:=(Yz x (YI x).2 (Yt x).2,((Yt x).1,()))
noncomputable def YH (x:DI×Int) (l:List bX) (f c:bl):StT×(List bX×(Int×(Int×(Int×List bl)))):=(Yz x (YI x).2 (Yt x).2,(l,(30,(8,(0,[f,fg (SL x),c])))))
noncomputable def oV (x:DI×Int) (p:Prop) (l:List bX):Tr fk:=
 .aa ((Yt x).1.length=(Yt x).1.length)<|.aa p<|.aa (dj (SL x))<|.aa ((0:Nat) < 3)<|.aa ((1:Nat) < 3)<|.aa ((2:Nat) < 3)<|.aa (l.length=l.length)<|.aa (((0:Nat)+3:Nat)≤3)<|
 .aa (dP (YH x l (fg (SL x)) (fg 1)))<|.aa ((fM (YH x l (fg (SL x)) (fg 1))).1.length=(fM (YH x l (fg (SL x)) (fg 1))).1.length)<|.ret ((fM (YH x l (fg (SL x)) (fg 1))).1,0)
noncomputable def HF (x:DI×Int):Tr fk:=oV x (SF (cF x)) (Vi (cF x)).1
noncomputable def HE (x:DI×Int):Tr fk:=oV x (SE (cF x)) (Vh (cF x)).1
noncomputable def HD (x:DI×Int):Tr fk:=oV x (SD (cF x)) (Vg (cF x)).1
noncomputable def HB (x:DI×Int):Tr fk:=oV x (SC (cF x)) (Vf (cF x)).1
noncomputable def Hy (x:DI×Int):Tr fk:=oV x (Mu (cF x)) (QV (cF x)).1
noncomputable def HA (x:DI×Int):Tr fk:=oV x (SB (cF x)) (Ve (cF x)).1
noncomputable def Dw (x:DI×Int):Tr fk:=oV x (Mu (cF x)) (QV (cF x)).1
noncomputable def Hz (x:DI×Int):Tr fk:=oV x (Mt (cF x)) (QU (cF x)).1
noncomputable def Dv (x:DI×Int):Tr fk:=oV x (Mt (cF x)) (QU (cF x)).1
noncomputable def HC (x:DI×Int):Tr fk:=oV x (SA (cF x)) (Vd (cF x)).1
noncomputable def Hx (x:DI×Int):Tr fk:=oV x (Sz (cF x)) (Vc (cF x)).1
noncomputable def Du (x:DI×Int):Tr fk:=oV x (Sy (cF x)) (Vb (cF x)).1
noncomputable def Dt (x:DI×Int):Tr fk:=oV x (Sx (cF x)) (Va (cF x)).1
noncomputable def Ds (x:DI×Int):Tr fk:=oV x (Sw (cF x)) (U9 (cF x)).1
noncomputable def Dr (x:DI×Int):Tr fk:=oV x (Sv (cF x)) (U8 (cF x)).1
noncomputable def Dq (x:DI×Int):Tr fk:=oV x (Su (cF x)) (U7 (cF x)).1
noncomputable def Dp (x:DI×Int):Tr fk:=oV x (Ss (cF x)) (U6 (cF x)).1
noncomputable def Dn (x:DI×Int):Tr fk:=oV x (Sr (cF x)) (U5 (cF x)).1
noncomputable def Dm (x:DI×Int):Tr fk:=oV x (Sq (cF x)) (U4 (cF x)).1
noncomputable def Dl (x:DI×Int):Tr fk:=oV x (Sp (cF x)) (U3 (cF x)).1
noncomputable def Dk (x:DI×Int):Tr fk:=oV x (So (cF x)) (U2 (cF x)).1
noncomputable def Dj (x:DI×Int):Tr fk:=oV x (Sn (cF x)) (U1 (cF x)).1
noncomputable def Di (x:DI×Int):Tr fk:=oV x (Sm (cF x)) (U0 (cF x)).1
noncomputable def Dh (x:DI×Int):Tr fk:=oV x (Sl (cF x)) (UZ (cF x)).1
noncomputable def Dg (x:DI×Int):Tr fk:=oV x (Sk (cF x)) (UY (cF x)).1
noncomputable def Df (x:xC):Tr fk:=
 let y0:EZ:=x.1.2.2
 let y1:B1:=y0.2
 let y2:qC:=y1.2
 let y3:Int:=(aJ .u64 x.2 (af .u64 y2.2.2))
 let y4:Int:=y0.1
 let y5:qD:=(false,(0,0))
 let y6:bl:=(fg y3)
 let y7:gT:=(y6,(fg 1))
 let y8:B3:=(y5,y7)
 let y9:DO:=y1.1
 let y10:VN:=((x.1,(y4,((),(y3,(y5,y8))))),(([]:List bX),y9))
 let y11:aC:=(hU y10).1
 let y13:bl:=(hU y10).2
 let y14:DO:=y2.1
 let y15:IF:=((x.1,(y4,((),(y3,(y13,y8))))),(y11,y14))
 .aa (dj y3)<|
 let y296:aC:=(hU y15).1
 let y297:Nat:=y296.length
 .aa ((y297:Nat)=y297)<|
 let y298:bl:=(hU y15).2
 let y299:bq:=(x.1,(y4,((),(y3,(y13,(y298,y7))))))
 let y300:gm:=(y299,(y296,y6))
 .aa (Fu y300)<|
 let y301:aC:=(H5 y300).1
 let y302:Nat:=y301.length
 .aa ((y302:Nat)=y302)<|
 let y303:vC:=(y299,(y301,()))
 .aa (AP y303)<|
 .aa (dj y3)<|
 .aa ((0:Nat) < 3)<|
 .aa ((1:Nat) < 3)<|
 .aa ((2:Nat) < 3)<|
 let y304:aC:=(tk y303).1
 let y305:Nat:=y304.length
 .aa ((y305:Nat)=y305)<|
 .aa (((0:Nat)+3:Nat)≤3)<|
 let y306:bl:=(tk y303).2
 let y307:tF:=((x.1,(y4,((),(y3,(y13,(y298,(y306,(fg 1)))))))),(y304,(30,(8,(0,[y306,y6,(fg 1)])))))
 .aa (dP y307)<|
 let y308:aC:=(fM y307).1
 let y309:Nat:=y308.length
 .aa ((y309:Nat)=y309)<|
 .ret (y308,0)
noncomputable def De (x:xC):Tr fk:=
 let y0:EZ:=x.1.2.2
 let y1:B1:=y0.2
 let y2:qC:=y1.2
 let y3:Int:=(aJ .u64 x.2 (af .u64 y2.2.2))
 let y4:Int:=y0.1
 let y5:qD:=(false,(0,0))
 let y6:bl:=(fg y3)
 let y7:gT:=(y6,(fg 1))
 let y8:B3:=(y5,y7)
 let y9:DO:=y1.1
 let y10:VN:=((x.1,(y4,((),(y3,(y5,y8))))),(([]:List bX),y9))
 let y11:aC:=(hU y10).1
 let y13:bl:=(hU y10).2
 let y14:DO:=y2.1
 let y15:IF:=((x.1,(y4,((),(y3,(y13,y8))))),(y11,y14))
 let y310:aC:=(hU y15).1
 let y311:Nat:=y310.length
 .aa ((y311:Nat)=y311)<|
 let y312:bl:=(hU y15).2
 let y313:bq:=(x.1,(y4,((),(y3,(y13,(y312,y7))))))
 let y314:vC:=(y313,(y310,()))
 .aa (Fs y314)<|
 .aa (dj y3)<|
 .aa ((0:Nat) < 3)<|
 .aa ((1:Nat) < 3)<|
 .aa ((2:Nat) < 3)<|
 let y315:aC:=(yC y314).1
 let y316:Nat:=y315.length
 .aa ((y316:Nat)=y316)<|
 .aa (((0:Nat)+3:Nat)≤3)<|
 let y317:bl:=(yC y314).2
 let y318:tF:=((x.1,(y4,((),(y3,(y13,(y312,(y317,(fg 1)))))))),(y315,(30,(8,(0,[y317,y6,(fg 1)])))))
 .aa (dP y318)<|
 let y319:aC:=(fM y318).1
 let y320:Nat:=y319.length
 .aa ((y320:Nat)=y320)<|
 .ret (y319,0)
noncomputable def Dd (x:xC):Tr fk:=
 let y0:EZ:=x.1.2.2
 let y1:B1:=y0.2
 let y2:qC:=y1.2
 let y3:Int:=(aJ .u64 x.2 (af .u64 y2.2.2))
 let y4:Int:=y0.1
 let y5:qD:=(false,(0,0))
 let y6:bl:=(fg y3)
 let y7:gT:=(y6,(fg 1))
 let y8:B3:=(y5,y7)
 let y9:DO:=y1.1
 let y10:VN:=((x.1,(y4,((),(y3,(y5,y8))))),(([]:List bX),y9))
 let y11:aC:=(hU y10).1
 let y13:bl:=(hU y10).2
 let y14:DO:=y2.1
 let y15:IF:=((x.1,(y4,((),(y3,(y13,y8))))),(y11,y14))
 .ite (ae y14.1 3) (
 let y321:=(hU y15).1
 let y322:Nat:=y321.length
 .aa ((y322:Nat)=y322)<|
 let y323:=(hU y15).2
 let y324:bq:=(x.1,(y4,((),(y3,(y13,(y323,y7))))))
 let y325:vC:=(y324,(y321,()))
 .aa (AP y325)<|
 .aa (dj y3)<|
 .aa ((0:Nat) < 3)<|
 .aa ((1:Nat) < 3)<|
 .aa ((2:Nat) < 3)<|
 let y326:=(tk y325).1
 let y327:Nat:=y326.length
 .aa ((y327:Nat)=y327)<|
 .aa (((0:Nat)+3:Nat)≤3)<|
 let y328:=(tk y325).2
 let y329:tF:=((x.1,(y4,((),(y3,(y13,(y323,(y328,(fg 1)))))))),(y326,(30,(8,(0,[y328,y6,(fg 1)])))))
 .aa (dP y329)<|
 let y330:=(fM y329).1
 let y331:Nat:=y330.length
 .aa ((y331:Nat)=y331)<|
 .ret (y330,0)) (
 let y332:=(hU y15).1
 let y333:Nat:=y332.length
 .aa ((y333:Nat)=y333)<|
 let y334:=(hU y15).2
 let y335:bq:=(x.1,(y4,((),(y3,(y13,(y334,y7))))))
 let y336:pQ:=(y335,(y332,(y9,(y13,y4))))
 .aa (j9 y336)<|
 .aa (dj y3)<|
 .aa ((0:Nat) < 3)<|
 .aa ((1:Nat) < 3)<|
 .aa ((2:Nat) < 3)<|
 let y337:=(fY y336).1
 let y338:Nat:=y337.length
 .aa ((y338:Nat)=y338)<|
 .aa (((0:Nat)+3:Nat)≤3)<|
 let y339:=(fY y336).2
 let y340:tF:=((x.1,(y4,((),(y3,(y13,(y334,(y339,(fg 1)))))))),(y337,(30,(8,(0,[y339,y6,(fg 1)])))))
 .aa (dP y340)<|
 let y341:=(fM y340).1
 let y342:Nat:=y341.length
 .aa ((y342:Nat)=y342)<|
 .ret (y341,0))
noncomputable def Dc (x:xC):Tr fk:=
 let y0:EZ:=x.1.2.2
 let y1:B1:=y0.2
 let y2:qC:=y1.2
 let y3:Int:=(aJ .u64 x.2 (af .u64 y2.2.2))
 let y4:Int:=y0.1
 let y5:qD:=(false,(0,0))
 let y6:bl:=(fg y3)
 let y7:gT:=(y6,(fg 1))
 let y8:B3:=(y5,y7)
 let y9:DO:=y1.1
 let y10:VN:=((x.1,(y4,((),(y3,(y5,y8))))),(([]:List bX),y9))
 let y11:aC:=(hU y10).1
 let y13:bl:=(hU y10).2
 let y14:DO:=y2.1
 let y15:IF:=((x.1,(y4,((),(y3,(y13,y8))))),(y11,y14))
 let y343:aC:=(hU y15).1
 let y344:Nat:=y343.length
 .aa ((y344:Nat)=y344)<|
 let y345:bl:=(hU y15).2
 let y346:bq:=(x.1,(y4,((),(y3,(y13,(y345,y7))))))
 let y347:vC:=(y346,(y343,()))
 .aa (AO y347)<|
 let y348:aC:=(tj y347).1
 let y349:Nat:=y348.length
 .aa ((y349:Nat)=y349)<|
 let y350:vC:=(y346,(y348,()))
 .aa (AP y350)<|
 .aa (dj y3)<|
 .aa ((0:Nat) < 3)<|
 .aa ((1:Nat) < 3)<|
 .aa ((2:Nat) < 3)<|
 let y351:aC:=(tk y350).1
 let y352:Nat:=y351.length
 .aa ((y352:Nat)=y352)<|
 .aa (((0:Nat)+3:Nat)≤3)<|
 let y353:bl:=(tk y350).2
 let y354:bl:=(tj y347).2
 let y355:tF:=((x.1,(y4,((),(y3,(y13,(y345,(y353,y354))))))),(y351,(30,(8,(0,[y353,y6,y354])))))
 .aa (dP y355)<|
 let y356:aC:=(fM y355).1
 let y357:Nat:=y356.length
 .aa ((y357:Nat)=y357)<|
 .ret (y356,0)
noncomputable def Db (x:DI×Int):Tr fk:=oV x (Sj (cF x)) (UW (cF x)).1
noncomputable def Da (x:DI×Int):Tr fk:=oV x (Si (cF x)) (UU (cF x)).1
noncomputable def C9 (x:DI×Int):Tr fk:=oV x (Sh (cF x)) (UT (cF x)).1
noncomputable def C8 (x:DI×Int):Tr fk:=oV x (Sg (cF x)) (US (cF x)).1
noncomputable def C7 (x:DI×Int):Tr fk:=oV x (ya (cF x)) (FU (cF x)).1
noncomputable def C6 (x:DI×Int):Tr fk:=oV x (ya (cF x)) (FU (cF x)).1
noncomputable def C5 (x:DI×Int):Tr fk:=oV x (ya (cF x)) (FU (cF x)).1
noncomputable def C4 (x:DI×Int):Tr fk:=oV x (ya (cF x)) (FU (cF x)).1
noncomputable def C3 (x:DI×Int):Tr fk:=oV x (ya (cF x)) (FU (cF x)).1
noncomputable def A6 (x:xC):Tr fk:=
 let y0:EZ:=x.1.2.2
 let y1:B1:=y0.2
 let y2:qC:=y1.2
 let y3:Int:=(aJ .u64 x.2 (af .u64 y2.2.2))
 let y4:Int:=y0.1
 let y5:qD:=(false,(0,0))
 let y6:bl:=(fg y3)
 let y7:gT:=(y6,(fg 1))
 let y8:B3:=(y5,y7)
 let y9:DO:=y1.1
 let y10:VN:=((x.1,(y4,((),(y3,(y5,y8))))),(([]:List bX),y9))
 let y11:aC:=(hU y10).1
 let y13:bl:=(hU y10).2
 let y14:DO:=y2.1
 let y15:IF:=((x.1,(y4,((),(y3,(y13,y8))))),(y11,y14))
 .aa (dj y3)<|
 .aa ((0:Nat) < 3)<|
 .aa ((1:Nat) < 3)<|
 .aa ((2:Nat) < 3)<|
 let y462:=(hU y15).1
 let y463:Nat:=y462.length
 .aa ((y463:Nat)=y463)<|
 .aa (((0:Nat)+3:Nat)≤3)<|
 let y464:=(hU y15).2
 let y465:bq:=(x.1,(y4,((),(y3,(y13,(y464,y7))))))
 let y466:PE:=(30,(8,(0,[y6,y6,(fg 1)])))
 let y467:tF:=(y465,(y462,y466))
 .aa (dP y467)<|
 let y468:=(fM y467).1
 let y469:Nat:=y468.length
 .aa ((y469:Nat)=y469)<|
 .ret (y468,0)
noncomputable def w7 (x:xC):Tr fk:=.ite (ae x.1.1 1) (HF x) (.ite (ae x.1.1 2) (HE x) (.ite (ae x.1.1 3) (HD x) (.ite (ae x.1.1 5) (HB x) (.ite (ae x.1.1 8) (Hy x) (.ite (ae x.1.1 6) (HA x) (.ite (ae x.1.1 10) (Dw x) (.ite (ae x.1.1 7) (Hz x) (.ite (ae x.1.1 11) (Dv x) (.ite (ae x.1.1 4) (HC x) (.ite (ae x.1.1 9) (Hx x) (.ite (ae x.1.1 12) (Du x) (.ite (ae x.1.1 13) (Dt x) (.ite (ae x.1.1 14) (Ds x) (.ite (ae x.1.1 15) (Dr x) (.ite (ae x.1.1 16) (Dq x) (.ite (ae x.1.1 17) (Dp x) (.ite (ae x.1.1 18) (Dn x) (.ite (ae x.1.1 19) (Dm x) (.ite (ae x.1.1 20) (Dl x) (.ite (ae x.1.1 21) (Dk x) (.ite (ae x.1.1 22) (Dj x) (.ite (ae x.1.1 23) (Di x) (.ite (ae x.1.1 24) (Dh x) (.ite (ae x.1.1 25) (Dg x) (.ite (ae x.1.1 26) (Df x) (.ite (ae x.1.1 27) (De x) (.ite (ae x.1.1 28) (Dd x) (.ite (ae x.1.1 29) (Dc x) (.ite (ae x.1.1 30) (Db x) (.ite (ae x.1.1 31) (Da x) (.ite (ae x.1.1 32) (C9 x) (.ite (ae x.1.1 33) (C8 x) (.ite (ae x.1.1 35) (C7 x) (.ite (ae x.1.1 36) (C6 x) (.ite (ae x.1.1 37) (C5 x) (.ite (ae x.1.1 38) (C4 x) (.ite (ae x.1.1 39) (C3 x) (A6 x))))))))))))))))))))))))))))))))))))))
noncomputable def xT (x:xC):Tr (aC×Int):=
 .aa (sW x.1)<|
 .ite (!(sB x.1)) (
 .ret (([]:List bX),2)) (
 .aa (dj 1)<|
 let y0:=x.1.2.2
 let y1:=y0.2
 let y2:=y1.2
 let y3:Int:=(aJ .u64 x.2 (af .u64 y2.2.2))
 .aa (dj y3)<|
 let y4:=y0.1
 let y5:qD:=(false,(0,0))
 let y6:=(fg y3)
 let y7:gT:=(y6,(fg 1))
 let y8:B3:=(y5,y7)
 let y9:=y1.1
 let y10:VN:=((x.1,(y4,((),(y3,(y5,y8))))),(([]:List bX),y9))
 .aa (Hf y10)<|
 let y11:=(hU y10).1
 let y12:Nat:=y11.length
 .aa ((y12:Nat)=y12)<|
 let y13:=(hU y10).2
 let y14:=y2.1
 let y15:IF:=((x.1,(y4,((),(y3,(y13,y8))))),(y11,y14))
 .aa (Hf y15)<|
 .aa (MH ())<|
 let y16:=x.1.1
 w7 x)
noncomputable def Jw (x):=(xT x).val
def CD (x):=(xT x).ok
noncomputable def KH:Spec:={dg:=(.st bw (.a7 (.int .u64))),bG:=(.st (.slice aP) (.a7 (.int .i64))),n:=2,pre:=CD,f:=Jw}
theorem ok7:au aT 7 KH:=iO Tryz.f7 [(9,gn),(25,KZ),(27,KY)] ⟨xy,Z1,Z0,trivial⟩ xT [(26,Mc),(28,jt),(47,Mb),(48,Ma),(49,L9),(50,L8),(51,L7),(52,L6),(53,L5),(54,L4),(55,L3),(56,L2),(57,L1),(58,L0),(59,LZ),(60,LY),(61,LX),(62,LV),(63,LU),(64,LS),(65,LR),(66,LQ),(67,LP),(68,LO),(69,LN),(74,LM),(75,LL),(76,LK),(77,LJ),(78,LI),(98,iM),(109,AB),(111,Az),(112,G5),(113,uE)] ⟨Xq,nr,Xp,Xo,Xn,Xm,Xl,Xk,Xj,Xi,Xh,Xg,Xf,Xe,Xd,Xc,Xb,Xa,W9,W8,W7,W6,W5,W4,W3,W2,W1,W0,WZ,WY,mc,MW,MU,TV,Fy,trivial⟩
end Go.aA.RV
end
section
namespace Go.aA.RV
open Go.Proofs Go.aA
inductive Yx where
 | h0 (v1:Int) (v2:Int) (v4:B0)
 | h1 (v0:PD) (v1:Int) (v3:Int) (v4:Int) (v6:B0) (v7:bX)
 | h2 (v0:PD) (v1:Int) (v3:Int) (v4:Int) (v6:B0) (v7:bX)
 | h3 (v1:Int) (v2:Int) (v4:B0) (v5:bX)
noncomputable def nL (x:aC):Tr (Yx⊕Bool):=
 .ret (.inl (.h0 (x.length:Int) 0 ([]:List bt)))
noncomputable def cG (x:aC):Yx→Tr (Yx⊕Bool)
 | .h0 v1 v2 v4=>
 .ite (bd v2 v1) (
 .aa ((0:Int)≤v2)<|
 .aa (v2 < (x.length:Int))<|
 .aa ((0:Nat) < 3)<|
 .aa ((1:Nat) < 3)<|
 .aa ((2:Nat) < 3)<|
 let y0:bX:=(eX aP x (v2).toNat)
 let y1:=y0.2.2.2
 let y2:=y1.2
 .ret (.inl (.h1 [y1.1,y2.1,y2.2.1] 0 v1 v2 v4 y0))) (
 .ret (.inr true))
 | .h1 v0 v1 v3 v4 v6 v7=>
 .ite (bd v1 3) (
 .aa ((0:Int)≤v1)<|
 .aa ((v1:Int) < 3)<|
 .aa (((v1).toNat:Nat) < 3)<|
 let y0:bl:=(eX aj v0 (v1).toNat)
 .ite ((!y0.1)==true) (
 let y1:=y0.2.1
 .ite ((bK 32 y1)==true) (
 .ite (ae (gM y1 v6) 0) (
 .ret (.inr false)) (
 .ret (.inl (.h2 v0 v1 v3 v4 v6 v7)))) (
 .ret (.inl (.h2 v0 v1 v3 v4 v6 v7)))) (
 .ret (.inl (.h2 v0 v1 v3 v4 v6 v7)))) (
 .ret (.inl (.h3 v3 v4 v6 v7)))
 | .h2 v0 v1 v3 v4 v6 v7=>
 .ret (.inl (.h1 v0 (aJ .i64 v1 1) v3 v4 v6 v7))
 | .h3 v1 v2 v4 v5=>
 let y0:Int:=v5.2.2.1
 .ite (bK 32 y0) (
 .ite ((bK 64 y0)==false) (
 let y1:Int:=(gM y0 v4)
 .ite (bd 0 y1) (
 .ret (.inr false)) (
 let y2:Int:=(aJ .i64 v2 1)
 .ret (.inl (.h0 v1 y2 (pg y0 (aJ .i64 y1 1) v4))))) (
 .ret (.inr false))) (
 let y3:Int:=(aJ .i64 v2 1)
 .ret (.inl (.h0 v1 y3 v4)))
noncomputable def Im:List It:=[.fin 6,.bB 2,.code (aH [1,1,0,1,0,0,1,1,0,0,1,1] (ah Tryz.f10)),.bB 1,.code (aH [1,1,0,1,0,0,1,1,1] (ah Tryz.f10)),.lp (aH [1,1,0,1,0,0] (ah Tryz.f10)),.bB 0,.code (aH [1,1,1] (ah Tryz.f10))]
noncomputable def Il:aG:=.loop .ready none 10 ([.any,.any,(.ptr 0 []),(.ptr 1 [])]++List.replicate 36 .any) [16] (aH [1,1,0,1,0,0,1,1,0,0,1,0,1,0,0] (ah Tryz.f10)) (aH [1,1,0,1,0,0,1,1,0,0,1,0,1,0,1] (ah Tryz.f10)) 5
noncomputable def eQ (x:aC):Yx→Head
 | .h0 v1 v2 v4=>
 {fr:={id:=10,kind:=.top,T:=[.any,.any,(.ptr 0 []),(.ptr 1 [])]++List.replicate 4 .any++[(.dA aP x),(.int .i64 v1),(.int .i64 v2)]++List.replicate 29 .any,items:=[.lp (aH [1,1,0,1,0,0] (ah Tryz.f10)),.bB 0,.code (aH [1,1,1] (ah Tryz.f10))],D:=[],base:=0},
  aF:=[],
  H:=[.cell true 4 (.bool false),.cell true 79 (.mp 2),.lX v4]}
 | .h1 v0 v1 v3 v4 v6 v7=>
 {fr:={id:=80,kind:=(.iter 6),T:=[(.jl 6)]++List.replicate 10 .any++[(.arr 3 aj v0),(.int .i64 v1)]++List.replicate 18 .any,items:=[.lp (aH [1,0,0] (ah Tryz.f80)),.bB 0],D:=[],base:=7},
  aF:=[{id:=10,kind:=.top,T:=[.any,.any,(.ptr 0 []),(.ptr 1 []),.any,(.ptr 3 []),.any,.any,(.dA aP x),(.int .i64 v3),(.int .i64 v4)]++List.replicate 29 .any,items:=Im,D:=[5],base:=0}],
  H:=[.cell true 4 (.bool false),.cell true 79 (.mp 2),.lX v6,.cell true 42 (.agg [1,1,1,3,3,3,21] [(.int .u8 v7.1),(.int .i64 v7.2.1),(.int .i64 v7.2.2.1),(.agg [1,1,1] [(.bool v7.2.2.2.1.1),(.int .i64 v7.2.2.2.1.2.1),(.int .u64 v7.2.2.2.1.2.2)]),(.agg [1,1,1] [(.bool v7.2.2.2.2.1.1),(.int .i64 v7.2.2.2.2.1.2.1),(.int .u64 v7.2.2.2.2.1.2.2)]),(.agg [1,1,1] [(.bool v7.2.2.2.2.2.1.1),(.int .i64 v7.2.2.2.2.2.1.2.1),(.int .u64 v7.2.2.2.2.2.1.2.2)]),(.agg [1,1,1,8,8,1,1] [(.int .u8 v7.2.2.2.2.2.2.1),(.int .u8 v7.2.2.2.2.2.2.2.1),(.int .i64 v7.2.2.2.2.2.2.2.2.1),(.agg [1,1,1,1,1,1,1,1] [(.int .u8 v7.2.2.2.2.2.2.2.2.2.1.1),(.int .i64 v7.2.2.2.2.2.2.2.2.2.1.2.1),(.int .i64 v7.2.2.2.2.2.2.2.2.2.1.2.2.1),(.int .i64 v7.2.2.2.2.2.2.2.2.2.1.2.2.2.1),(.int .i64 v7.2.2.2.2.2.2.2.2.2.1.2.2.2.2.1),(.int .i64 v7.2.2.2.2.2.2.2.2.2.1.2.2.2.2.2.1),(.bool v7.2.2.2.2.2.2.2.2.2.1.2.2.2.2.2.2.1),(.int .i64 v7.2.2.2.2.2.2.2.2.2.1.2.2.2.2.2.2.2)]),(.agg [1,1,1,1,1,1,1,1] [(.int .u8 v7.2.2.2.2.2.2.2.2.2.2.1.1),(.int .i64 v7.2.2.2.2.2.2.2.2.2.2.1.2.1),(.int .i64 v7.2.2.2.2.2.2.2.2.2.2.1.2.2.1),(.int .i64 v7.2.2.2.2.2.2.2.2.2.2.1.2.2.2.1),(.int .i64 v7.2.2.2.2.2.2.2.2.2.2.1.2.2.2.2.1),(.int .i64 v7.2.2.2.2.2.2.2.2.2.2.1.2.2.2.2.2.1),(.bool v7.2.2.2.2.2.2.2.2.2.2.1.2.2.2.2.2.2.1),(.int .i64 v7.2.2.2.2.2.2.2.2.2.2.1.2.2.2.2.2.2.2)]),(.int .u8 v7.2.2.2.2.2.2.2.2.2.2.2.1),(.int .i64 v7.2.2.2.2.2.2.2.2.2.2.2.2)])]),.dead,.my,Il]}
 | .h2 v0 v1 v3 v4 v6 v7=>
 {fr:={id:=80,kind:=(.iter 6),T:=[(.jl 6)]++List.replicate 10 .any++[(.arr 3 aj v0),(.int .i64 v1)]++List.replicate 18 .any,items:=[.code (aH [1,0,0,1,1,1] (ah Tryz.f80)),.lp (aH [1,0,0] (ah Tryz.f80)),.bB 0],D:=[],base:=7},
  aF:=[{id:=10,kind:=.top,T:=[.any,.any,(.ptr 0 []),(.ptr 1 []),.any,(.ptr 3 []),.any,.any,(.dA aP x),(.int .i64 v3),(.int .i64 v4)]++List.replicate 29 .any,items:=Im,D:=[5],base:=0}],
  H:=[.cell true 4 (.bool false),.cell true 79 (.mp 2),.lX v6,.cell true 42 (.agg [1,1,1,3,3,3,21] [(.int .u8 v7.1),(.int .i64 v7.2.1),(.int .i64 v7.2.2.1),(.agg [1,1,1] [(.bool v7.2.2.2.1.1),(.int .i64 v7.2.2.2.1.2.1),(.int .u64 v7.2.2.2.1.2.2)]),(.agg [1,1,1] [(.bool v7.2.2.2.2.1.1),(.int .i64 v7.2.2.2.2.1.2.1),(.int .u64 v7.2.2.2.2.1.2.2)]),(.agg [1,1,1] [(.bool v7.2.2.2.2.2.1.1),(.int .i64 v7.2.2.2.2.2.1.2.1),(.int .u64 v7.2.2.2.2.2.1.2.2)]),(.agg [1,1,1,8,8,1,1] [(.int .u8 v7.2.2.2.2.2.2.1),(.int .u8 v7.2.2.2.2.2.2.2.1),(.int .i64 v7.2.2.2.2.2.2.2.2.1),(.agg [1,1,1,1,1,1,1,1] [(.int .u8 v7.2.2.2.2.2.2.2.2.2.1.1),(.int .i64 v7.2.2.2.2.2.2.2.2.2.1.2.1),(.int .i64 v7.2.2.2.2.2.2.2.2.2.1.2.2.1),(.int .i64 v7.2.2.2.2.2.2.2.2.2.1.2.2.2.1),(.int .i64 v7.2.2.2.2.2.2.2.2.2.1.2.2.2.2.1),(.int .i64 v7.2.2.2.2.2.2.2.2.2.1.2.2.2.2.2.1),(.bool v7.2.2.2.2.2.2.2.2.2.1.2.2.2.2.2.2.1),(.int .i64 v7.2.2.2.2.2.2.2.2.2.1.2.2.2.2.2.2.2)]),(.agg [1,1,1,1,1,1,1,1] [(.int .u8 v7.2.2.2.2.2.2.2.2.2.2.1.1),(.int .i64 v7.2.2.2.2.2.2.2.2.2.2.1.2.1),(.int .i64 v7.2.2.2.2.2.2.2.2.2.2.1.2.2.1),(.int .i64 v7.2.2.2.2.2.2.2.2.2.2.1.2.2.2.1),(.int .i64 v7.2.2.2.2.2.2.2.2.2.2.1.2.2.2.2.1),(.int .i64 v7.2.2.2.2.2.2.2.2.2.2.1.2.2.2.2.2.1),(.bool v7.2.2.2.2.2.2.2.2.2.2.1.2.2.2.2.2.2.1),(.int .i64 v7.2.2.2.2.2.2.2.2.2.2.1.2.2.2.2.2.2.2)]),(.int .u8 v7.2.2.2.2.2.2.2.2.2.2.2.1),(.int .i64 v7.2.2.2.2.2.2.2.2.2.2.2.2)])]),.dead,.my,Il]}
 | .h3 v1 v2 v4 v5=>
 {fr:={id:=10,kind:=.top,T:=[.any,.any,(.ptr 0 []),(.ptr 1 []),.any,(.ptr 3 []),.any,.any,(.dA aP x),(.int .i64 v1),(.int .i64 v2)]++List.replicate 29 .any,items:=[.code (aH [1,1,0,1,0,0,1,1,0,0,1,1,0] (ah Tryz.f10)),.code (aH [1,1,0,1,0,0,1,1,0,0,1,1,1] (ah Tryz.f10)),.bB 1,.code (aH [1,1,0,1,0,0,1,1,1] (ah Tryz.f10)),.lp (aH [1,1,0,1,0,0] (ah Tryz.f10)),.bB 0,.code (aH [1,1,1] (ah Tryz.f10))],D:=[],base:=0},
  aF:=[],
  H:=[.cell true 4 (.bool false),.cell true 79 (.mp 2),.lX v4,.cell true 42 (.agg [1,1,1,3,3,3,21] [(.int .u8 v5.1),(.int .i64 v5.2.1),(.int .i64 v5.2.2.1),(.agg [1,1,1] [(.bool v5.2.2.2.1.1),(.int .i64 v5.2.2.2.1.2.1),(.int .u64 v5.2.2.2.1.2.2)]),(.agg [1,1,1] [(.bool v5.2.2.2.2.1.1),(.int .i64 v5.2.2.2.2.1.2.1),(.int .u64 v5.2.2.2.2.1.2.2)]),(.agg [1,1,1] [(.bool v5.2.2.2.2.2.1.1),(.int .i64 v5.2.2.2.2.2.1.2.1),(.int .u64 v5.2.2.2.2.2.1.2.2)]),(.agg [1,1,1,8,8,1,1] [(.int .u8 v5.2.2.2.2.2.2.1),(.int .u8 v5.2.2.2.2.2.2.2.1),(.int .i64 v5.2.2.2.2.2.2.2.2.1),(.agg [1,1,1,1,1,1,1,1] [(.int .u8 v5.2.2.2.2.2.2.2.2.2.1.1),(.int .i64 v5.2.2.2.2.2.2.2.2.2.1.2.1),(.int .i64 v5.2.2.2.2.2.2.2.2.2.1.2.2.1),(.int .i64 v5.2.2.2.2.2.2.2.2.2.1.2.2.2.1),(.int .i64 v5.2.2.2.2.2.2.2.2.2.1.2.2.2.2.1),(.int .i64 v5.2.2.2.2.2.2.2.2.2.1.2.2.2.2.2.1),(.bool v5.2.2.2.2.2.2.2.2.2.1.2.2.2.2.2.2.1),(.int .i64 v5.2.2.2.2.2.2.2.2.2.1.2.2.2.2.2.2.2)]),(.agg [1,1,1,1,1,1,1,1] [(.int .u8 v5.2.2.2.2.2.2.2.2.2.2.1.1),(.int .i64 v5.2.2.2.2.2.2.2.2.2.2.1.2.1),(.int .i64 v5.2.2.2.2.2.2.2.2.2.2.1.2.2.1),(.int .i64 v5.2.2.2.2.2.2.2.2.2.2.1.2.2.2.1),(.int .i64 v5.2.2.2.2.2.2.2.2.2.2.1.2.2.2.2.1),(.int .i64 v5.2.2.2.2.2.2.2.2.2.2.1.2.2.2.2.2.1),(.bool v5.2.2.2.2.2.2.2.2.2.2.1.2.2.2.2.2.2.1),(.int .i64 v5.2.2.2.2.2.2.2.2.2.2.1.2.2.2.2.2.2.2)]),(.int .u8 v5.2.2.2.2.2.2.2.2.2.2.2.1),(.int .i64 v5.2.2.2.2.2.2.2.2.2.2.2.2)])])]}
noncomputable def rZ:FuncId→Nat→Nat→Option Cut
 | 10,0,0=>some {tmps:=[2,3,8,9,10],loops:=[],dead:=[],aF:=[],EE:=true}
 | 80,0,7=>some {tmps:=[0,11,12],loops:=[(6,[2,3])],dead:=[4],aF:=[[2,3,5,8,9,10]]}
 | 80,9,7=>some {tmps:=[0,11,12],loops:=[(6,[2,3])],dead:=[],aF:=[[2,3,5,8,9,10]]}
 | 10,19,0=>some {tmps:=[2,3,5,8,9,10],loops:=[],dead:=[],aF:=[],EE:=true}
 | _,_,_=>none
noncomputable def Bk (x:aC):Bool:=dq (TC.gN .bool) (cG x) (nL x)
def yf (x:aC):Prop:=∃ r,Ends (cG x) r (nL x)
noncomputable def mS:Spec:={dg:=(.a7 (.slice aP)),bG:=.bool,n:=1,pre:=yf,f:=Bk}
noncomputable def mZ:FuncId→Option Spec
 | _=>none
theorem Jb:∀ f sp,mZ f=some sp→au aT f sp:=by
 intro f sp h
 unfold mZ at h
 split at h
 ·cases h
section
variable (W:qk) (Q:Bool→Prop) (x:aC)
theorem Wd:run (Ed mZ (fun _=>none) false (fun _ _=>none)) rZ (nd mS Q) W 100000 (mR 10 Tryz.f10 (ah Tryz.f10) (fJ (.a7 (.slice aP)) x)) [] []=(nL x).wp (o9 W Q (eQ x)):=by kernel_rfl
theorem PR (v1 v2:Int) (v4:B0):run (Ed mZ (fun _=>none) false (fun _ _=>none)) rZ (nd mS Q) W 100000 (eQ x (.h0 v1 v2 v4)).fr.enter (eQ x (.h0 v1 v2 v4)).aF (eQ x (.h0 v1 v2 v4)).H=(cG x (.h0 v1 v2 v4)).wp (o9 W Q (eQ x)):=by kernel_rfl
theorem PQ (v0:PD) (v1 v3 v4:Int) (v6:B0) (v7:bX):run (Ed mZ (fun _=>none) false (fun _ _=>none)) rZ (nd mS Q) W 100000 (eQ x (.h1 v0 v1 v3 v4 v6 v7)).fr.enter (eQ x (.h1 v0 v1 v3 v4 v6 v7)).aF (eQ x (.h1 v0 v1 v3 v4 v6 v7)).H=(cG x (.h1 v0 v1 v3 v4 v6 v7)).wp (o9 W Q (eQ x)):=by kernel_rfl
theorem PO (v0:PD) (v1 v3 v4:Int) (v6:B0) (v7:bX):run (Ed mZ (fun _=>none) false (fun _ _=>none)) rZ (nd mS Q) W 100000 (eQ x (.h2 v0 v1 v3 v4 v6 v7)).fr.enter (eQ x (.h2 v0 v1 v3 v4 v6 v7)).aF (eQ x (.h2 v0 v1 v3 v4 v6 v7)).H=(cG x (.h2 v0 v1 v3 v4 v6 v7)).wp (o9 W Q (eQ x)):=by kernel_rfl
theorem PN (v1 v2:Int) (v4:B0) (v5:bX):run (Ed mZ (fun _=>none) false (fun _ _=>none)) rZ (nd mS Q) W 100000 (eQ x (.h3 v1 v2 v4 v5)).fr.enter (eQ x (.h3 v1 v2 v4 v5)).aF (eQ x (.h3 v1 v2 v4 v5)).H=(cG x (.h3 v1 v2 v4 v5)).wp (o9 W Q (eQ x)):=by kernel_rfl
end
theorem TB (W:qk) (Q:Bool→Prop) (x:aC):∀ j:Yx,run (Ed mZ (fun _=>none) false (fun _ _=>none)) rZ (nd mS Q) W 100000 (eQ x j).fr.enter (eQ x j).aF (eQ x j).H=(cG x j).wp (o9 W Q (eQ x))
 | .h0 v1 v2 v4=>PR W Q x v1 v2 v4
 | .h1 v0 v1 v3 v4 v6 v7=>PQ W Q x v0 v1 v3 v4 v6 v7
 | .h2 v0 v1 v3 v4 v6 v7=>PO W Q x v0 v1 v3 v4 v6 v7
 | .h3 v1 v2 v4 v5=>PN W Q x v1 v2 v4 v5
theorem aa4:au aT 10 mS:=au.env rfl (fun _ _ h=>h) (pz (E:=(Ed mZ (fun _=>none) false (fun _ _=>none))) (sp:=mS) (Tb _ _ _ _) ⟨fun f sp h=>au.env rfl (fun _ _ h=>h) (Jb f sp h),fun f ps h=>nomatch h⟩ (fn:=Tryz.f10) (c:=(ah Tryz.f10)) (by kernel_rfl) (by kernel_rfl) nL cG eQ Wd TB (fun _ h=>lK h))
inductive YQ where
 | h0 (v2:Int) (v3:Int)
noncomputable def vl (x:Ah):Tr (YQ⊕Bool):=
 let y0:Int:=(x.1.length:Int)
 .ite (cB y0 (x.2.length:Int)) (
 .ret (.inr false)) (
 .ret (.inl (.h0 y0 0)))
noncomputable def lS (x:Ah):YQ→Tr (YQ⊕Bool)
 | .h0 v2 v3=>
 .ite (bd v3 v2) (
 .aa ((0:Int)≤v3)<|
 .aa (v3 < (x.1.length:Int))<|
 .aa ((0:Int)≤v3)<|
 .aa (v3 < (x.2.length:Int))<|
 .ite (!(kq aP (eX aP x.1 (v3).toNat) (eX aP x.2 (v3).toNat))) (
 .ret (.inr false)) (
 .ret (.inl (.h0 v2 (aJ .i64 v3 1))))) (
 .ret (.inr true))
noncomputable def Uv (x:Ah):YQ→Head
 | .h0 v2 v3=>
 {fr:={id:=30,kind:=.top,T:=[(.dA aP x.1),(.dA aP x.2)]++List.replicate 10 .any++[(.int .i64 v2),(.int .i64 v3)]++List.replicate 12 .any,items:=[.lp (aH [1,1,0,1,0,0] (ah Tryz.f30)),.bB 0,.code (aH [1,1,1] (ah Tryz.f30))],D:=[],base:=0},
  aF:=[],
  H:=[]}
noncomputable def Tt:FuncId→Nat→Nat→Option Cut
 | 30,0,0=>some {tmps:=[0,1,12,13],loops:=[],dead:=[],aF:=[]}
 | _,_,_=>none
noncomputable def Vm (x):=dq (TC.gN .bool) (lS x) (vl x)
def MG (x):=∃ r,Ends (lS x) r (vl x)
noncomputable def KX:Spec:={dg:=(.st (.slice aP) (.a7 (.slice aP))),bG:=.bool,n:=1,pre:=MG,f:=Vm}
theorem ZZ:au aT 30 KX:=o7 Tryz.f30 [] trivial vl lS Uv Tt
noncomputable def Ab (x:Ah):Tr Bool:=
 .aa (MG x)<|
 .ret (Vm x)
noncomputable def Rj (x):=(Ab x).val
def MT (x):=(Ab x).ok
noncomputable def Lb:Spec:={dg:=(.st (.slice aP) (.a7 (.slice aP))),bG:=.bool,n:=1,pre:=MT,f:=Rj}
theorem aa3:au aT 11 Lb:=iO Tryz.f11 [(30,KX)] ⟨ZZ,trivial⟩ Ab
noncomputable def Gk (_x:Unit):Tr Bool:=
 let y0:jm:=(0,(0,(0,(0,(0,(0,(false,0)))))))
 let y1:VO:=((34,(0,(8,(y0,(y0,(0,1)))))),5)
 .aa (CD y1)<|
 let y2:bt:=(0,0)
 let y3:Y0:=(0,(0,(0,(y0,(y0,y2)))))
 let y4:VO:=(y3,5)
 .aa (CD y4)<|
 let y5:(aC×Int):=(Jw y1)
 .ite ((ae y5.2 0)==true) (
 let y6:=y5.1
 .ite ((ae (y6.length:Int) 1)==true) (
 .aa ((0:Int)≤0)<|
 .aa (0 < (y6.length:Int))<|
 let y7:bX:=(eX aP y6 0)
 .ite ((ae y7.1 30)==true) (
 .aa ((0:Int)≤0)<|
 .aa (0 < (y6.length:Int))<|
 .aa (dj 6)<|
 .ite ((kq aj y7.2.2.2.1 (fg 6))==true) (
 .ite ((ae (Jw y4).2 2)==true) (
 .aa (yf y6)<|
 .ite ((Bk y6)==true) (
 let y8:Ah:=(y6,y6)
 .aa (MT y8)<|
 .ite ((Rj y8)==true) (
 .aa (dU 32)<|
 .aa ((0:Nat) < 1)<|
 .aa (((0:Nat)+1:Nat)≤1)<|
 let y9:qD:=(false,y2)
 let y10:aC:=[(1,(8,(0,((fZ 32),(y9,(y9,y3))))))]
 .aa (yf y10)<|
 .ret (!(Bk y10))) (
 .ret false)) (
 .ret false)) (
 .ret false)) (
 .ret false)) (
 .ret false)) (
 .ret false)) (
 .ret false)
noncomputable def Vj (x):=(Gk x).val
def Fi (x):=(Gk x).ok
noncomputable def R8:Spec:={dg:=.unit,bG:=.bool,n:=1,pre:=Fi,f:=Vj}
theorem ok4:au aT 4 R8:=iO Tryz.f4 [(7,KH),(9,gn),(10,mS),(11,Lb),(12,gU)] ⟨ok7,xy,aa4,aa3,qP,trivial⟩ Gk
inductive YW where
 | h0 (v7:Int) (v12:Int)
 | h1 (v7:Int) (v8:Bool) (v9:Int) (v12:Int)
 | h2 (v7:Int) (v8:Bool) (v9:Int) (v10:Int) (v12:Int)
 | h3 (v7:Int) (v8:Bool) (v9:Int) (v10:Int) (v12:Int)
noncomputable def vz (x:ai):Tr (YW⊕(lQ×Bool)):=
 .ite ((bd 0 (x.length:Int))==true) (
 .aa ((0:Int)≤0)<|
 .aa (0 < (x.length:Int))<|
 let y0:Int:=(eX (.int .u8) x 0)
 .ite ((ae y0 102)==false) (
 .aa ((0:Int)≤0)<|
 .aa (0 < (x.length:Int))<|
 .ite (ae y0 243) (
 .aa ((0:Int)≤0)<|
 .aa (0 < (x.length:Int))<|
 .ret (.inl (.h0 y0 1))) (
 .ret (.inl (.h0 0 0)))) (
 .aa ((0:Int)≤0)<|
 .aa (0 < (x.length:Int))<|
 .ret (.inl (.h0 y0 1)))) (
 .ret (.inl (.h0 0 0)))
noncomputable def eO (x:ai):YW→Tr (YW⊕(lQ×Bool))
 | .h0 v7 v12=>
 .ite ((bd v12 (x.length:Int))==true) (
 .aa ((0:Int)≤v12)<|
 .aa (v12 < (x.length:Int))<|
 let y0:Int:=(eX (.int .u8) x (v12).toNat)
 .ite (ae (av .u8 y0 240) 64) (
 .aa ((0:Int)≤v12)<|
 .aa (v12 < (x.length:Int))<|
 .ret (.inl (.h1 v7 true (av .u8 y0 15) (aJ .i64 v12 1)))) (
 .ret (.inl (.h1 v7 false 0 v12)))) (
 .ret (.inl (.h1 v7 false 0 v12)))
 | .h1 v7 v8 v9 v12=>
 .ite ((bd v12 (x.length:Int))==true) (
 .aa ((0:Int)≤v12)<|
 .aa (v12 < (x.length:Int))<|
 .ite (ae (eX (.int .u8) x (v12).toNat) 15) (
 let y0:Int:=(aJ .i64 v12 1)
 let y1:=((bd y0 (x.length:Int))==true)
 .ite y1 (
 .aa ((0:Int)≤y0)<|
 .aa (y0 < (x.length:Int))<|
 let y2:Int:=(eX (.int .u8) x (y0).toNat)
 .ite (ae y2 56) (
 let y3:Int:=(aJ .i64 y0 1)
 .ret (.inl (.h2 v7 v8 v9 2 y3))) (
 .ite y1 (
 .aa ((0:Int)≤y0)<|
 .aa (y0 < (x.length:Int))<|
 let y4:=(ae y2 58)
 .ite y4 (
 let y5:Int:=(aJ .i64 y0 1)
 .ret (.inl (.h2 v7 v8 v9 3 y5))) (
 .ret (.inl (.h2 v7 v8 v9 1 y0)))) (
 .ret (.inl (.h2 v7 v8 v9 1 y0))))) (
 .ite y1 (
 .aa ((0:Int)≤y0)<|
 .aa (y0 < (x.length:Int))<|
 let y6:Int:=(eX (.int .u8) x (y0).toNat)
 let y7:=(ae y6 58)
 .ite y7 (
 let y8:Int:=(aJ .i64 y0 1)
 .ret (.inl (.h2 v7 v8 v9 3 y8))) (
 .ret (.inl (.h2 v7 v8 v9 1 y0)))) (
 .ret (.inl (.h2 v7 v8 v9 1 y0))))) (
 .ret (.inl (.h2 v7 v8 v9 0 v12)))) (
 .ret (.inl (.h2 v7 v8 v9 0 v12)))
 | .h2 v7 v8 v9 v10 v12=>
 .ite (bK (x.length:Int) v12) (
 .ret (.inr ((v7,(v8,(v9,(v10,(0,v12))))),false))) (
 .ret (.inl (.h3 v7 v8 v9 v10 v12)))
 | .h3 v7 v8 v9 v10 v12=>
 .aa ((0:Int)≤v12)<|
 .aa (v12 < (x.length:Int))<|
 .ret (.inr ((v7,(v8,(v9,(v10,((eX (.int .u8) x (v12).toNat),(aJ .i64 v12 1)))))),true))
noncomputable def uT:aG:=.cell true 47 (.agg [1,1,1,1,1,1] [(.int .u8 0),(.bool false),(.int .u8 0),(.int .u8 0),(.int .u8 0),(.int .i64 0)])
noncomputable def UB (x:ai):YW→Head
 | .h0 v7 v12=>
 {fr:={id:=13,kind:=.top,T:=[(.dA (.int .u8) x),.any,(.ptr 0 []),.any,(.ptr 1 [])]++List.replicate 128 .any,items:=[.code (aH [1,1,1,0,0] (ah Tryz.f13)),.code (aH [1,1,1,0,1] (ah Tryz.f13)),.code (aH [1,1,1,1] (ah Tryz.f13))],D:=[],base:=0},
  aF:=[],
  H:=[uT,.cell true 47 (.agg [1,1,1,1,1,1] [(.int .u8 v7),(.bool false),(.int .u8 0),(.int .u8 0),(.int .u8 0),(.int .i64 v12)])]}
 | .h1 v7 v8 v9 v12=>
 {fr:={id:=13,kind:=.top,T:=[(.dA (.int .u8) x),.any,(.ptr 0 []),.any,(.ptr 1 [])]++List.replicate 128 .any,items:=[.code (aH [1,1,1,1,0,0] (ah Tryz.f13)),.code (aH [1,1,1,1,0,1] (ah Tryz.f13)),.code (aH [1,1,1,1,1] (ah Tryz.f13))],D:=[],base:=0},
  aF:=[],
  H:=[uT,.cell true 47 (.agg [1,1,1,1,1,1] [(.int .u8 v7),(.bool v8),(.int .u8 v9),(.int .u8 0),(.int .u8 0),(.int .i64 v12)])]}
 | .h2 v7 v8 v9 v10 v12=>
 {fr:={id:=13,kind:=.top,T:=[(.dA (.int .u8) x),.any,(.ptr 0 []),.any,(.ptr 1 [])]++List.replicate 128 .any,items:=[.code (aH [1,1,1,1,1,0,0] (ah Tryz.f13)),.code (aH [1,1,1,1,1,0,1] (ah Tryz.f13)),.code (aH [1,1,1,1,1,1] (ah Tryz.f13))],D:=[],base:=0},
  aF:=[],
  H:=[uT,.cell true 47 (.agg [1,1,1,1,1,1] [(.int .u8 v7),(.bool v8),(.int .u8 v9),(.int .u8 v10),(.int .u8 0),(.int .i64 v12)])]}
 | .h3 v7 v8 v9 v10 v12=>
 {fr:={id:=13,kind:=.top,T:=[(.dA (.int .u8) x),.any,(.ptr 0 []),.any,(.ptr 1 [])]++List.replicate 128 .any,items:=[.code (aH [1,1,1,1,1,1,0] (ah Tryz.f13)),.code (aH [1,1,1,1,1,1,1] (ah Tryz.f13))],D:=[],base:=0},
  aF:=[],
  H:=[uT,.cell true 47 (.agg [1,1,1,1,1,1] [(.int .u8 v7),(.bool v8),(.int .u8 v9),(.int .u8 v10),(.int .u8 0),(.int .i64 v12)])]}
noncomputable def Tz:FuncId→Nat→Nat→Option Cut
 | 13,11,0=>some {tmps:=[0,2,4],loops:=[],dead:=[],aF:=[]}
 | 13,19,0=>some {tmps:=[0,2,4],loops:=[],dead:=[],aF:=[]}
 | 13,37,0=>some {tmps:=[0,2,4],loops:=[],dead:=[],aF:=[]}
 | 13,41,0=>some {tmps:=[0,2,4],loops:=[],dead:=[],aF:=[]}
 | _,_,_=>none
noncomputable def DY (x):=dq (TC.gN (.st EB (.a7 .bool))) (eO x) (vz x)
def MS (x):=∃ r,Ends (eO x) r (vz x)
noncomputable def La:Spec:={dg:=(.a7 (.slice (.int .u8))),bG:=(.st EB (.a7 .bool)),n:=2,pre:=MS,f:=DY}
theorem aa2:au aT 13 La:=o7 Tryz.f13 [] trivial vz eO UB Tz
noncomputable def zk (_x:Unit):Tr pO:=
 .aa ((0:Nat) < 8)<|
 .aa ((1:Nat) < 8)<|
 .aa ((2:Nat) < 8)<|
 .aa ((3:Nat) < 8)<|
 .aa ((4:Nat) < 8)<|
 .aa ((5:Nat) < 8)<|
 .aa ((6:Nat) < 8)<|
 .aa ((7:Nat) < 8)<|
 .aa ((0:Int)≤0)<|
 .aa ((0:Int) < 8)<|
 .aa ((0:Nat) < 8)<|
 .aa ((0:Nat) < 1)<|
 .aa (((0:Nat)+1:Nat)≤1)<|
 .aa (((1:Nat) * 56:Nat)≤2 ^ 40)<|
 .aa ((1:Nat)≤2 ^ 40)<|
 .aa ((0:Int)≤0)<|
 .aa ((0:Int) < 8)<|
 .aa ((0:Nat) < 8)<|
 .aa ((0:Nat) < 1)<|
 .aa (((0:Nat)+1:Nat)≤1)<|
 .aa ((1:Nat)=1)<|
 .aa (((2:Nat) * 56:Nat)≤2 ^ 40)<|
 .aa ((2:Nat)≤2 ^ 40)<|
 .aa ((0:Int)≤1)<|
 .aa ((1:Int) < 8)<|
 .aa ((1:Nat) < 8)<|
 .aa ((0:Nat) < 1)<|
 .aa (((0:Nat)+1:Nat)≤1)<|
 .aa ((2:Nat)=2)<|
 .aa (((3:Nat) * 56:Nat)≤2 ^ 40)<|
 .aa ((3:Nat)≤2 ^ 40)<|
 .aa ((0:Int)≤1)<|
 .aa ((1:Int) < 8)<|
 .aa ((1:Nat) < 8)<|
 .aa ((0:Nat) < 1)<|
 .aa (((0:Nat)+1:Nat)≤1)<|
 .aa ((3:Nat)=3)<|
 .aa (((4:Nat) * 56:Nat)≤2 ^ 40)<|
 .aa ((4:Nat)≤2 ^ 40)<|
 .aa ((0:Int)≤2)<|
 .aa ((2:Int) < 8)<|
 .aa ((2:Nat) < 8)<|
 .aa ((0:Nat) < 1)<|
 .aa (((0:Nat)+1:Nat)≤1)<|
 .aa ((4:Nat)=4)<|
 .aa (((5:Nat) * 56:Nat)≤2 ^ 40)<|
 .aa ((5:Nat)≤2 ^ 40)<|
 .aa ((0:Int)≤2)<|
 .aa ((2:Int) < 8)<|
 .aa ((2:Nat) < 8)<|
 .aa ((0:Nat) < 1)<|
 .aa (((0:Nat)+1:Nat)≤1)<|
 .aa ((5:Nat)=5)<|
 .aa (((6:Nat) * 56:Nat)≤2 ^ 40)<|
 .aa ((6:Nat)≤2 ^ 40)<|
 .aa ((0:Int)≤3)<|
 .aa ((3:Int) < 8)<|
 .aa ((3:Nat) < 8)<|
 .aa ((0:Nat) < 1)<|
 .aa (((0:Nat)+1:Nat)≤1)<|
 .aa ((6:Nat)=6)<|
 .aa (((7:Nat) * 56:Nat)≤2 ^ 40)<|
 .aa ((7:Nat)≤2 ^ 40)<|
 .aa ((0:Int)≤3)<|
 .aa ((3:Int) < 8)<|
 .aa ((3:Nat) < 8)<|
 .aa ((0:Nat) < 1)<|
 .aa (((0:Nat)+1:Nat)≤1)<|
 .aa ((7:Nat)=7)<|
 .aa (((8:Nat) * 56:Nat)≤2 ^ 40)<|
 .aa ((8:Nat)≤2 ^ 40)<|
 .aa ((0:Int)≤4)<|
 .aa ((4:Int) < 8)<|
 .aa ((4:Nat) < 8)<|
 .aa ((0:Nat) < 1)<|
 .aa (((0:Nat)+1:Nat)≤1)<|
 .aa ((8:Nat)=8)<|
 .aa (((9:Nat) * 56:Nat)≤2 ^ 40)<|
 .aa ((9:Nat)≤2 ^ 40)<|
 .aa ((0:Int)≤4)<|
 .aa ((4:Int) < 8)<|
 .aa ((4:Nat) < 8)<|
 .aa ((0:Nat) < 1)<|
 .aa (((0:Nat)+1:Nat)≤1)<|
 .aa ((9:Nat)=9)<|
 .aa (((10:Nat) * 56:Nat)≤2 ^ 40)<|
 .aa ((10:Nat)≤2 ^ 40)<|
 .aa ((0:Int)≤5)<|
 .aa ((5:Int) < 8)<|
 .aa ((5:Nat) < 8)<|
 .aa ((0:Nat) < 1)<|
 .aa (((0:Nat)+1:Nat)≤1)<|
 .aa ((10:Nat)=10)<|
 .aa (((11:Nat) * 56:Nat)≤2 ^ 40)<|
 .aa ((11:Nat)≤2 ^ 40)<|
 .aa ((0:Int)≤5)<|
 .aa ((5:Int) < 8)<|
 .aa ((5:Nat) < 8)<|
 .aa ((0:Nat) < 1)<|
 .aa (((0:Nat)+1:Nat)≤1)<|
 .aa ((11:Nat)=11)<|
 .aa (((12:Nat) * 56:Nat)≤2 ^ 40)<|
 .aa ((12:Nat)≤2 ^ 40)<|
 .aa ((0:Int)≤6)<|
 .aa ((6:Int) < 8)<|
 .aa ((6:Nat) < 8)<|
 .aa ((0:Nat) < 1)<|
 .aa (((0:Nat)+1:Nat)≤1)<|
 .aa ((12:Nat)=12)<|
 .aa (((13:Nat) * 56:Nat)≤2 ^ 40)<|
 .aa ((13:Nat)≤2 ^ 40)<|
 .aa ((0:Int)≤6)<|
 .aa ((6:Int) < 8)<|
 .aa ((6:Nat) < 8)<|
 .aa ((0:Nat) < 1)<|
 .aa (((0:Nat)+1:Nat)≤1)<|
 .aa ((13:Nat)=13)<|
 .aa (((14:Nat) * 56:Nat)≤2 ^ 40)<|
 .aa ((14:Nat)≤2 ^ 40)<|
 .aa ((0:Int)≤7)<|
 .aa ((7:Int) < 8)<|
 .aa ((7:Nat) < 8)<|
 .aa ((0:Nat) < 1)<|
 .aa (((0:Nat)+1:Nat)≤1)<|
 .aa ((14:Nat)=14)<|
 .aa (((15:Nat) * 56:Nat)≤2 ^ 40)<|
 .aa ((15:Nat)≤2 ^ 40)<|
 .aa ((0:Int)≤7)<|
 .aa ((7:Int) < 8)<|
 .aa ((7:Nat) < 8)<|
 .aa ((0:Nat) < 1)<|
 .aa (((0:Nat)+1:Nat)≤1)<|
 .aa ((15:Nat)=15)<|
 .aa (((16:Nat) * 56:Nat)≤2 ^ 40)<|
 .aa ((16:Nat)≤2 ^ 40)<|
 .aa ((0:Int)≤0)<|
 .aa ((0:Int) < 8)<|
 .aa ((0:Nat) < 8)<|
 .aa ((0:Nat) < 1)<|
 .aa (((0:Nat)+1:Nat)≤1)<|
 .aa ((16:Nat)=16)<|
 .aa (((17:Nat) * 56:Nat)≤2 ^ 40)<|
 .aa ((17:Nat)≤2 ^ 40)<|
 .aa ((0:Int)≤0)<|
 .aa ((0:Int) < 8)<|
 .aa ((0:Nat) < 8)<|
 .aa ((0:Nat) < 1)<|
 .aa (((0:Nat)+1:Nat)≤1)<|
 .aa ((17:Nat)=17)<|
 .aa (((18:Nat) * 56:Nat)≤2 ^ 40)<|
 .aa ((18:Nat)≤2 ^ 40)<|
 .aa ((0:Int)≤1)<|
 .aa ((1:Int) < 8)<|
 .aa ((1:Nat) < 8)<|
 .aa ((0:Nat) < 1)<|
 .aa (((0:Nat)+1:Nat)≤1)<|
 .aa ((18:Nat)=18)<|
 .aa (((19:Nat) * 56:Nat)≤2 ^ 40)<|
 .aa ((19:Nat)≤2 ^ 40)<|
 .aa ((0:Int)≤1)<|
 .aa ((1:Int) < 8)<|
 .aa ((1:Nat) < 8)<|
 .aa ((0:Nat) < 1)<|
 .aa (((0:Nat)+1:Nat)≤1)<|
 .aa ((19:Nat)=19)<|
 .aa (((20:Nat) * 56:Nat)≤2 ^ 40)<|
 .aa ((20:Nat)≤2 ^ 40)<|
 .aa ((0:Int)≤2)<|
 .aa ((2:Int) < 8)<|
 .aa ((2:Nat) < 8)<|
 .aa ((0:Nat) < 1)<|
 .aa (((0:Nat)+1:Nat)≤1)<|
 .aa ((20:Nat)=20)<|
 .aa (((21:Nat) * 56:Nat)≤2 ^ 40)<|
 .aa ((21:Nat)≤2 ^ 40)<|
 .aa ((0:Int)≤2)<|
 .aa ((2:Int) < 8)<|
 .aa ((2:Nat) < 8)<|
 .aa ((0:Nat) < 1)<|
 .aa (((0:Nat)+1:Nat)≤1)<|
 .aa ((21:Nat)=21)<|
 .aa (((22:Nat) * 56:Nat)≤2 ^ 40)<|
 .aa ((22:Nat)≤2 ^ 40)<|
 .aa ((0:Int)≤3)<|
 .aa ((3:Int) < 8)<|
 .aa ((3:Nat) < 8)<|
 .aa ((0:Nat) < 1)<|
 .aa (((0:Nat)+1:Nat)≤1)<|
 .aa ((22:Nat)=22)<|
 .aa (((23:Nat) * 56:Nat)≤2 ^ 40)<|
 .aa ((23:Nat)≤2 ^ 40)<|
 .aa ((0:Int)≤3)<|
 .aa ((3:Int) < 8)<|
 .aa ((3:Nat) < 8)<|
 .aa ((0:Nat) < 1)<|
 .aa (((0:Nat)+1:Nat)≤1)<|
 .aa ((23:Nat)=23)<|
 .aa (((24:Nat) * 56:Nat)≤2 ^ 40)<|
 .aa ((24:Nat)≤2 ^ 40)<|
 .aa ((0:Int)≤4)<|
 .aa ((4:Int) < 8)<|
 .aa ((4:Nat) < 8)<|
 .aa ((0:Nat) < 1)<|
 .aa (((0:Nat)+1:Nat)≤1)<|
 .aa ((24:Nat)=24)<|
 .aa (((25:Nat) * 56:Nat)≤2 ^ 40)<|
 .aa ((25:Nat)≤2 ^ 40)<|
 .aa ((0:Int)≤4)<|
 .aa ((4:Int) < 8)<|
 .aa ((4:Nat) < 8)<|
 .aa ((0:Nat) < 1)<|
 .aa (((0:Nat)+1:Nat)≤1)<|
 .aa ((25:Nat)=25)<|
 .aa (((26:Nat) * 56:Nat)≤2 ^ 40)<|
 .aa ((26:Nat)≤2 ^ 40)<|
 .aa ((0:Int)≤5)<|
 .aa ((5:Int) < 8)<|
 .aa ((5:Nat) < 8)<|
 .aa ((0:Nat) < 1)<|
 .aa (((0:Nat)+1:Nat)≤1)<|
 .aa ((26:Nat)=26)<|
 .aa (((27:Nat) * 56:Nat)≤2 ^ 40)<|
 .aa ((27:Nat)≤2 ^ 40)<|
 .aa ((0:Int)≤5)<|
 .aa ((5:Int) < 8)<|
 .aa ((5:Nat) < 8)<|
 .aa ((0:Nat) < 1)<|
 .aa (((0:Nat)+1:Nat)≤1)<|
 .aa ((27:Nat)=27)<|
 .aa (((28:Nat) * 56:Nat)≤2 ^ 40)<|
 .aa ((28:Nat)≤2 ^ 40)<|
 .aa ((0:Int)≤6)<|
 .aa ((6:Int) < 8)<|
 .aa ((6:Nat) < 8)<|
 .aa ((0:Nat) < 1)<|
 .aa (((0:Nat)+1:Nat)≤1)<|
 .aa ((28:Nat)=28)<|
 .aa (((29:Nat) * 56:Nat)≤2 ^ 40)<|
 .aa ((29:Nat)≤2 ^ 40)<|
 .aa ((0:Int)≤6)<|
 .aa ((6:Int) < 8)<|
 .aa ((6:Nat) < 8)<|
 .aa ((0:Nat) < 1)<|
 .aa (((0:Nat)+1:Nat)≤1)<|
 .aa ((29:Nat)=29)<|
 .aa (((30:Nat) * 56:Nat)≤2 ^ 40)<|
 .aa ((30:Nat)≤2 ^ 40)<|
 .aa ((0:Int)≤7)<|
 .aa ((7:Int) < 8)<|
 .aa ((7:Nat) < 8)<|
 .aa ((0:Nat) < 1)<|
 .aa (((0:Nat)+1:Nat)≤1)<|
 .aa ((30:Nat)=30)<|
 .aa (((31:Nat) * 56:Nat)≤2 ^ 40)<|
 .aa ((31:Nat)≤2 ^ 40)<|
 .aa ((0:Int)≤7)<|
 .aa ((7:Int) < 8)<|
 .aa ((7:Nat) < 8)<|
 .aa ((0:Nat) < 1)<|
 .aa (((0:Nat)+1:Nat)≤1)<|
 .aa ((31:Nat)=31)<|
 .aa (((32:Nat) * 56:Nat)≤2 ^ 40)<|
 .aa ((32:Nat)≤2 ^ 40)<|
 .aa ((0:Nat) < 1)<|
 .aa (((0:Nat)+1:Nat)≤1)<|
 .aa ((32:Nat)=32)<|
 .aa (((33:Nat) * 56:Nat)≤2 ^ 40)<|
 .aa ((33:Nat)≤2 ^ 40)<|
 .aa ((0:Nat) < 1)<|
 .aa (((0:Nat)+1:Nat)≤1)<|
 .aa ((33:Nat)=33)<|
 .aa (((34:Nat) * 56:Nat)≤2 ^ 40)<|
 .aa ((34:Nat)≤2 ^ 40)<|
 .aa ((0:Nat) < 1)<|
 .aa (((0:Nat)+1:Nat)≤1)<|
 .aa ((34:Nat)=34)<|
 .aa (((35:Nat) * 56:Nat)≤2 ^ 40)<|
 .aa ((35:Nat)≤2 ^ 40)<|
 .aa ((0:Nat) < 1)<|
 .aa (((0:Nat)+1:Nat)≤1)<|
 .aa ((35:Nat)=35)<|
 .aa (((36:Nat) * 56:Nat)≤2 ^ 40)<|
 .aa ((36:Nat)≤2 ^ 40)<|
 .aa ((0:Nat) < 1)<|
 .aa (((0:Nat)+1:Nat)≤1)<|
 .aa ((36:Nat)=36)<|
 .aa (((37:Nat) * 56:Nat)≤2 ^ 40)<|
 .aa ((37:Nat)≤2 ^ 40)<|
 .aa ((0:Nat) < 1)<|
 .aa (((0:Nat)+1:Nat)≤1)<|
 .aa ((37:Nat)=37)<|
 .aa (((38:Nat) * 56:Nat)≤2 ^ 40)<|
 .aa ((38:Nat)≤2 ^ 40)<|
 .aa ((0:Nat) < 1)<|
 .aa (((0:Nat)+1:Nat)≤1)<|
 .aa ((38:Nat)=38)<|
 .aa (((39:Nat) * 56:Nat)≤2 ^ 40)<|
 .aa ((39:Nat)≤2 ^ 40)<|
 .aa ((0:Nat) < 1)<|
 .aa (((0:Nat)+1:Nat)≤1)<|
 .aa ((39:Nat)=39)<|
 .aa (((40:Nat) * 56:Nat)≤2 ^ 40)<|
 .aa ((40:Nat)≤2 ^ 40)<|
 .aa ((0:Nat) < 5)<|
 .aa ((1:Nat) < 5)<|
 .aa ((2:Nat) < 5)<|
 .aa ((3:Nat) < 5)<|
 .aa ((4:Nat) < 5)<|
 .aa ((0:Nat) < 5)<|
 .aa ((1:Nat) < 5)<|
 .aa ((2:Nat) < 5)<|
 .aa ((3:Nat) < 5)<|
 .aa ((4:Nat) < 5)<|
 .aa ((0:Int)≤0)<|
 .aa ((0:Int) < 5)<|
 .aa ((0:Nat) < 5)<|
 .aa ((0:Int)≤0)<|
 .aa ((0:Int) < 5)<|
 .aa ((0:Nat) < 5)<|
 .aa ((0:Nat) < 1)<|
 .aa (((0:Nat)+1:Nat)≤1)<|
 .aa ((40:Nat)=40)<|
 .aa (((41:Nat) * 56:Nat)≤2 ^ 40)<|
 .aa ((41:Nat)≤2 ^ 40)<|
 .aa ((0:Int)≤0)<|
 .aa ((0:Int) < 5)<|
 .aa ((0:Nat) < 5)<|
 .aa ((0:Int)≤0)<|
 .aa ((0:Int) < 5)<|
 .aa ((0:Nat) < 5)<|
 .aa ((0:Nat) < 1)<|
 .aa (((0:Nat)+1:Nat)≤1)<|
 .aa ((41:Nat)=41)<|
 .aa (((42:Nat) * 56:Nat)≤2 ^ 40)<|
 .aa ((42:Nat)≤2 ^ 40)<|
 .aa ((0:Int)≤1)<|
 .aa ((1:Int) < 5)<|
 .aa ((1:Nat) < 5)<|
 .aa ((0:Int)≤1)<|
 .aa ((1:Int) < 5)<|
 .aa ((1:Nat) < 5)<|
 .aa ((0:Nat) < 1)<|
 .aa (((0:Nat)+1:Nat)≤1)<|
 .aa ((42:Nat)=42)<|
 .aa (((43:Nat) * 56:Nat)≤2 ^ 40)<|
 .aa ((43:Nat)≤2 ^ 40)<|
 .aa ((0:Int)≤1)<|
 .aa ((1:Int) < 5)<|
 .aa ((1:Nat) < 5)<|
 .aa ((0:Int)≤1)<|
 .aa ((1:Int) < 5)<|
 .aa ((1:Nat) < 5)<|
 .aa ((0:Nat) < 1)<|
 .aa (((0:Nat)+1:Nat)≤1)<|
 .aa ((43:Nat)=43)<|
 .aa (((44:Nat) * 56:Nat)≤2 ^ 40)<|
 .aa ((44:Nat)≤2 ^ 40)<|
 .aa ((0:Int)≤2)<|
 .aa ((2:Int) < 5)<|
 .aa ((2:Nat) < 5)<|
 .aa ((0:Int)≤2)<|
 .aa ((2:Int) < 5)<|
 .aa ((2:Nat) < 5)<|
 .aa ((0:Nat) < 1)<|
 .aa (((0:Nat)+1:Nat)≤1)<|
 .aa ((44:Nat)=44)<|
 .aa (((45:Nat) * 56:Nat)≤2 ^ 40)<|
 .aa ((45:Nat)≤2 ^ 40)<|
 .aa ((0:Int)≤2)<|
 .aa ((2:Int) < 5)<|
 .aa ((2:Nat) < 5)<|
 .aa ((0:Int)≤2)<|
 .aa ((2:Int) < 5)<|
 .aa ((2:Nat) < 5)<|
 .aa ((0:Nat) < 1)<|
 .aa (((0:Nat)+1:Nat)≤1)<|
 .aa ((45:Nat)=45)<|
 .aa (((46:Nat) * 56:Nat)≤2 ^ 40)<|
 .aa ((46:Nat)≤2 ^ 40)<|
 .aa ((0:Int)≤3)<|
 .aa ((3:Int) < 5)<|
 .aa ((3:Nat) < 5)<|
 .aa ((0:Int)≤3)<|
 .aa ((3:Int) < 5)<|
 .aa ((3:Nat) < 5)<|
 .aa ((0:Nat) < 1)<|
 .aa (((0:Nat)+1:Nat)≤1)<|
 .aa ((46:Nat)=46)<|
 .aa (((47:Nat) * 56:Nat)≤2 ^ 40)<|
 .aa ((47:Nat)≤2 ^ 40)<|
 .aa ((0:Int)≤3)<|
 .aa ((3:Int) < 5)<|
 .aa ((3:Nat) < 5)<|
 .aa ((0:Int)≤3)<|
 .aa ((3:Int) < 5)<|
 .aa ((3:Nat) < 5)<|
 .aa ((0:Nat) < 1)<|
 .aa (((0:Nat)+1:Nat)≤1)<|
 .aa ((47:Nat)=47)<|
 .aa (((48:Nat) * 56:Nat)≤2 ^ 40)<|
 .aa ((48:Nat)≤2 ^ 40)<|
 .aa ((0:Int)≤4)<|
 .aa ((4:Int) < 5)<|
 .aa ((4:Nat) < 5)<|
 .aa ((0:Int)≤4)<|
 .aa ((4:Int) < 5)<|
 .aa ((4:Nat) < 5)<|
 .aa ((0:Nat) < 1)<|
 .aa (((0:Nat)+1:Nat)≤1)<|
 .aa ((48:Nat)=48)<|
 .aa (((49:Nat) * 56:Nat)≤2 ^ 40)<|
 .aa ((49:Nat)≤2 ^ 40)<|
 .aa ((0:Int)≤4)<|
 .aa ((4:Int) < 5)<|
 .aa ((4:Nat) < 5)<|
 .aa ((0:Int)≤4)<|
 .aa ((4:Int) < 5)<|
 .aa ((4:Nat) < 5)<|
 .aa ((0:Nat) < 1)<|
 .aa (((0:Nat)+1:Nat)≤1)<|
 .aa ((49:Nat)=49)<|
 .aa (((50:Nat) * 56:Nat)≤2 ^ 40)<|
 .aa ((50:Nat)≤2 ^ 40)<|
 .aa ((0:Nat) < 1)<|
 .aa (((0:Nat)+1:Nat)≤1)<|
 .aa ((50:Nat)=50)<|
 .aa (((51:Nat) * 56:Nat)≤2 ^ 40)<|
 .aa ((51:Nat)≤2 ^ 40)<|
 .aa (((0:Nat)+51:Nat)≤51)<|
 let y0:tG:=(false,(false,(false,false)))
 let y1:tH:=(0,y0)
 let y2:tI:=(0,(0,(1,y1)))
 let y3:tI:=(0,(0,(2,y1)))
 let y4:tI:=(0,(0,(4,(1,y0))))
 let y5:tI:=(0,(0,(4,(4,y0))))
 let y6:tI:=(0,(0,(3,y1)))
 let y7:tI:=(0,(0,(5,y1)))
 .ret [(0,(0,(1,(false,((-1),(3,y2)))))),(0,(0,(3,(false,((-1),(3,y3)))))),(0,(0,(9,(false,((-1),(4,y2)))))),(0,(0,(11,(false,((-1),(4,y3)))))),(0,(0,(17,(false,((-1),(5,y2)))))),(0,(0,(19,(false,((-1),(5,y3)))))),(0,(0,(25,(false,((-1),(6,y2)))))),(0,(0,(27,(false,((-1),(6,y3)))))),(0,(0,(33,(false,((-1),(7,y2)))))),(0,(0,(35,(false,((-1),(7,y3)))))),(0,(0,(41,(false,((-1),(8,y2)))))),(0,(0,(43,(false,((-1),(8,y3)))))),(0,(0,(49,(false,((-1),(9,y2)))))),(0,(0,(51,(false,((-1),(9,y3)))))),(0,(0,(57,(false,((-1),(10,y2)))))),(0,(0,(59,(false,((-1),(10,y3)))))),(0,(0,(131,(false,(0,(3,y4)))))),(0,(0,(129,(false,(0,(3,y5)))))),(0,(0,(131,(false,(1,(4,y4)))))),(0,(0,(129,(false,(1,(4,y5)))))),(0,(0,(131,(false,(2,(5,y4)))))),(0,(0,(129,(false,(2,(5,y5)))))),(0,(0,(131,(false,(3,(6,y4)))))),(0,(0,(129,(false,(3,(6,y5)))))),(0,(0,(131,(false,(4,(7,y4)))))),(0,(0,(129,(false,(4,(7,y5)))))),(0,(0,(131,(false,(5,(8,y4)))))),(0,(0,(129,(false,(5,(8,y5)))))),(0,(0,(131,(false,(6,(9,y4)))))),(0,(0,(129,(false,(6,(9,y5)))))),(0,(0,(131,(false,(7,(10,y4)))))),(0,(0,(129,(false,(7,(10,y5)))))),(0,(0,(133,(false,((-1),(11,y2)))))),(0,(0,(247,(false,(0,(11,y5)))))),(0,(0,(255,(false,(0,(12,y6)))))),(0,(0,(255,(false,(1,(13,y6)))))),(0,(0,(247,(false,(2,(15,y6)))))),(0,(0,(247,(false,(3,(14,y6)))))),(0,(0,(247,(false,(4,(22,y6)))))),(0,(0,(247,(false,(6,(23,y6)))))),(0,(0,(193,(false,(0,(19,y4)))))),(0,(0,(211,(false,(0,(19,y7)))))),(0,(0,(193,(false,(1,(20,y4)))))),(0,(0,(211,(false,(1,(20,y7)))))),(0,(0,(193,(false,(4,(16,y4)))))),(0,(0,(211,(false,(4,(16,y7)))))),(0,(0,(193,(false,(5,(17,y4)))))),(0,(0,(211,(false,(5,(17,y7)))))),(0,(0,(193,(false,(7,(18,y4)))))),(0,(0,(211,(false,(7,(18,y7)))))),(0,(1,(175,(false,((-1),(21,y3))))))]
noncomputable def DS (x):=(zk x).val
def G9 (x):=(zk x).ok
noncomputable def KF:Spec:={dg:=.unit,bG:=(.slice jk),n:=1,pre:=G9,f:=DS}
theorem ZJ:au aT 82 KF:=iO Tryz.f82 [] trivial zk (rw:=false)
noncomputable def zi (_x:Unit):Tr pO:=
 .aa ((0:Nat) < 7)<|
 .aa ((1:Nat) < 7)<|
 .aa ((2:Nat) < 7)<|
 .aa ((3:Nat) < 7)<|
 .aa ((4:Nat) < 7)<|
 .aa ((5:Nat) < 7)<|
 .aa ((6:Nat) < 7)<|
 .aa ((0:Nat) < 1)<|
 .aa (((0:Nat)+1:Nat)≤1)<|
 .aa ((0+7:Nat)≤7)<|
 .aa (((8:Nat) * 56:Nat)≤2 ^ 40)<|
 .aa ((8:Nat)≤2 ^ 40)<|
 .aa ((0:Nat) < 1)<|
 .aa (((0:Nat)+1:Nat)≤1)<|
 .aa ((8:Nat)=8)<|
 .aa (((9:Nat) * 56:Nat)≤2 ^ 40)<|
 .aa ((9:Nat)≤2 ^ 40)<|
 .aa ((0:Nat) < 1)<|
 .aa (((0:Nat)+1:Nat)≤1)<|
 .aa ((9:Nat)=9)<|
 .aa (((10:Nat) * 56:Nat)≤2 ^ 40)<|
 .aa ((10:Nat)≤2 ^ 40)<|
 .aa ((0:Nat) < 1)<|
 .aa (((0:Nat)+1:Nat)≤1)<|
 .aa ((10:Nat)=10)<|
 .aa (((11:Nat) * 56:Nat)≤2 ^ 40)<|
 .aa ((11:Nat)≤2 ^ 40)<|
 .aa ((0:Nat) < 1)<|
 .aa (((0:Nat)+1:Nat)≤1)<|
 .aa ((11:Nat)=11)<|
 .aa (((12:Nat) * 56:Nat)≤2 ^ 40)<|
 .aa ((12:Nat)≤2 ^ 40)<|
 .aa ((0:Nat) < 1)<|
 .aa (((0:Nat)+1:Nat)≤1)<|
 .aa ((12:Nat)=12)<|
 .aa (((13:Nat) * 56:Nat)≤2 ^ 40)<|
 .aa ((13:Nat)≤2 ^ 40)<|
 .aa ((0:Nat) < 1)<|
 .aa (((0:Nat)+1:Nat)≤1)<|
 .aa ((13:Nat)=13)<|
 .aa (((14:Nat) * 56:Nat)≤2 ^ 40)<|
 .aa ((14:Nat)≤2 ^ 40)<|
 .aa ((0:Nat) < 1)<|
 .aa (((0:Nat)+1:Nat)≤1)<|
 .aa ((14:Nat)=14)<|
 .aa (((15:Nat) * 56:Nat)≤2 ^ 40)<|
 .aa ((15:Nat)≤2 ^ 40)<|
 .aa ((0:Nat) < 1)<|
 .aa (((0:Nat)+1:Nat)≤1)<|
 .aa ((15:Nat)=15)<|
 .aa (((16:Nat) * 56:Nat)≤2 ^ 40)<|
 .aa ((16:Nat)≤2 ^ 40)<|
 .aa ((0:Nat) < 1)<|
 .aa (((0:Nat)+1:Nat)≤1)<|
 .aa ((16:Nat)=16)<|
 .aa (((17:Nat) * 56:Nat)≤2 ^ 40)<|
 .aa ((17:Nat)≤2 ^ 40)<|
 .aa ((0:Nat) < 1)<|
 .aa (((0:Nat)+1:Nat)≤1)<|
 .aa ((17:Nat)=17)<|
 .aa (((18:Nat) * 56:Nat)≤2 ^ 40)<|
 .aa ((18:Nat)≤2 ^ 40)<|
 .aa ((0:Nat) < 1)<|
 .aa (((0:Nat)+1:Nat)≤1)<|
 .aa ((18:Nat)=18)<|
 .aa (((19:Nat) * 56:Nat)≤2 ^ 40)<|
 .aa ((19:Nat)≤2 ^ 40)<|
 .aa ((0:Nat) < 1)<|
 .aa (((0:Nat)+1:Nat)≤1)<|
 .aa ((19:Nat)=19)<|
 .aa (((20:Nat) * 56:Nat)≤2 ^ 40)<|
 .aa ((20:Nat)≤2 ^ 40)<|
 .aa ((0:Nat) < 1)<|
 .aa (((0:Nat)+1:Nat)≤1)<|
 .aa ((20:Nat)=20)<|
 .aa (((21:Nat) * 56:Nat)≤2 ^ 40)<|
 .aa ((21:Nat)≤2 ^ 40)<|
 .aa ((0:Nat) < 1)<|
 .aa (((0:Nat)+1:Nat)≤1)<|
 .aa ((21:Nat)=21)<|
 .aa (((22:Nat) * 56:Nat)≤2 ^ 40)<|
 .aa ((22:Nat)≤2 ^ 40)<|
 .aa ((0:Nat) < 1)<|
 .aa (((0:Nat)+1:Nat)≤1)<|
 .aa ((22:Nat)=22)<|
 .aa (((23:Nat) * 56:Nat)≤2 ^ 40)<|
 .aa ((23:Nat)≤2 ^ 40)<|
 .aa ((0:Nat) < 1)<|
 .aa (((0:Nat)+1:Nat)≤1)<|
 .aa ((23:Nat)=23)<|
 .aa (((24:Nat) * 56:Nat)≤2 ^ 40)<|
 .aa ((24:Nat)≤2 ^ 40)<|
 .aa ((0:Nat) < 1)<|
 .aa (((0:Nat)+1:Nat)≤1)<|
 .aa ((24:Nat)=24)<|
 .aa (((25:Nat) * 56:Nat)≤2 ^ 40)<|
 .aa ((25:Nat)≤2 ^ 40)<|
 .aa ((0:Nat) < 1)<|
 .aa (((0:Nat)+1:Nat)≤1)<|
 .aa ((25:Nat)=25)<|
 .aa (((26:Nat) * 56:Nat)≤2 ^ 40)<|
 .aa ((26:Nat)≤2 ^ 40)<|
 .aa ((0:Nat) < 1)<|
 .aa (((0:Nat)+1:Nat)≤1)<|
 .aa ((26:Nat)=26)<|
 .aa (((27:Nat) * 56:Nat)≤2 ^ 40)<|
 .aa ((27:Nat)≤2 ^ 40)<|
 .aa ((0:Nat) < 1)<|
 .aa (((0:Nat)+1:Nat)≤1)<|
 .aa ((27:Nat)=27)<|
 .aa (((28:Nat) * 56:Nat)≤2 ^ 40)<|
 .aa ((28:Nat)≤2 ^ 40)<|
 .aa ((0:Nat) < 1)<|
 .aa (((0:Nat)+1:Nat)≤1)<|
 .aa ((28:Nat)=28)<|
 .aa (((29:Nat) * 56:Nat)≤2 ^ 40)<|
 .aa ((29:Nat)≤2 ^ 40)<|
 .aa ((0:Nat) < 1)<|
 .aa (((0:Nat)+1:Nat)≤1)<|
 .aa ((29:Nat)=29)<|
 .aa (((30:Nat) * 56:Nat)≤2 ^ 40)<|
 .aa ((30:Nat)≤2 ^ 40)<|
 .aa ((0:Nat) < 1)<|
 .aa (((0:Nat)+1:Nat)≤1)<|
 .aa ((30:Nat)=30)<|
 .aa (((31:Nat) * 56:Nat)≤2 ^ 40)<|
 .aa ((31:Nat)≤2 ^ 40)<|
 .aa ((0:Nat) < 1)<|
 .aa (((0:Nat)+1:Nat)≤1)<|
 .aa ((31:Nat)=31)<|
 .aa (((32:Nat) * 56:Nat)≤2 ^ 40)<|
 .aa ((32:Nat)≤2 ^ 40)<|
 .aa ((0:Nat) < 1)<|
 .aa (((0:Nat)+1:Nat)≤1)<|
 .aa ((32:Nat)=32)<|
 .aa (((33:Nat) * 56:Nat)≤2 ^ 40)<|
 .aa ((33:Nat)≤2 ^ 40)<|
 .aa ((0:Nat) < 1)<|
 .aa (((0:Nat)+1:Nat)≤1)<|
 .aa ((33:Nat)=33)<|
 .aa (((34:Nat) * 56:Nat)≤2 ^ 40)<|
 .aa ((34:Nat)≤2 ^ 40)<|
 .aa ((0:Nat) < 1)<|
 .aa (((0:Nat)+1:Nat)≤1)<|
 .aa ((34:Nat)=34)<|
 .aa (((35:Nat) * 56:Nat)≤2 ^ 40)<|
 .aa ((35:Nat)≤2 ^ 40)<|
 .aa ((0:Nat) < 1)<|
 .aa (((0:Nat)+1:Nat)≤1)<|
 .aa ((35:Nat)=35)<|
 .aa (((36:Nat) * 56:Nat)≤2 ^ 40)<|
 .aa ((36:Nat)≤2 ^ 40)<|
 .aa ((0:Nat) < 1)<|
 .aa (((0:Nat)+1:Nat)≤1)<|
 .aa ((36:Nat)=36)<|
 .aa (((37:Nat) * 56:Nat)≤2 ^ 40)<|
 .aa ((37:Nat)≤2 ^ 40)<|
 .aa ((0:Nat) < 1)<|
 .aa (((0:Nat)+1:Nat)≤1)<|
 .aa ((37:Nat)=37)<|
 .aa (((38:Nat) * 56:Nat)≤2 ^ 40)<|
 .aa ((38:Nat)≤2 ^ 40)<|
 .aa ((0:Nat) < 1)<|
 .aa (((0:Nat)+1:Nat)≤1)<|
 .aa ((38:Nat)=38)<|
 .aa (((39:Nat) * 56:Nat)≤2 ^ 40)<|
 .aa ((39:Nat)≤2 ^ 40)<|
 .aa ((0:Nat) < 1)<|
 .aa (((0:Nat)+1:Nat)≤1)<|
 .aa ((39:Nat)=39)<|
 .aa (((40:Nat) * 56:Nat)≤2 ^ 40)<|
 .aa ((40:Nat)≤2 ^ 40)<|
 .aa ((0:Nat) < 1)<|
 .aa (((0:Nat)+1:Nat)≤1)<|
 .aa ((40:Nat)=40)<|
 .aa (((41:Nat) * 56:Nat)≤2 ^ 40)<|
 .aa ((41:Nat)≤2 ^ 40)<|
 .aa ((0:Nat) < 1)<|
 .aa (((0:Nat)+1:Nat)≤1)<|
 .aa ((41:Nat)=41)<|
 .aa (((42:Nat) * 56:Nat)≤2 ^ 40)<|
 .aa ((42:Nat)≤2 ^ 40)<|
 .aa ((0:Nat) < 1)<|
 .aa (((0:Nat)+1:Nat)≤1)<|
 .aa ((42:Nat)=42)<|
 .aa (((43:Nat) * 56:Nat)≤2 ^ 40)<|
 .aa ((43:Nat)≤2 ^ 40)<|
 .aa ((0:Nat) < 1)<|
 .aa (((0:Nat)+1:Nat)≤1)<|
 .aa ((43:Nat)=43)<|
 .aa (((44:Nat) * 56:Nat)≤2 ^ 40)<|
 .aa ((44:Nat)≤2 ^ 40)<|
 .aa ((0:Nat) < 1)<|
 .aa (((0:Nat)+1:Nat)≤1)<|
 .aa ((44:Nat)=44)<|
 .aa (((45:Nat) * 56:Nat)≤2 ^ 40)<|
 .aa ((45:Nat)≤2 ^ 40)<|
 .aa ((0:Nat) < 1)<|
 .aa (((0:Nat)+1:Nat)≤1)<|
 .aa ((45:Nat)=45)<|
 .aa (((46:Nat) * 56:Nat)≤2 ^ 40)<|
 .aa ((46:Nat)≤2 ^ 40)<|
 .aa ((0:Nat) < 1)<|
 .aa (((0:Nat)+1:Nat)≤1)<|
 .aa ((46:Nat)=46)<|
 .aa (((47:Nat) * 56:Nat)≤2 ^ 40)<|
 .aa ((47:Nat)≤2 ^ 40)<|
 .aa ((0:Nat) < 1)<|
 .aa (((0:Nat)+1:Nat)≤1)<|
 .aa ((47:Nat)=47)<|
 .aa (((48:Nat) * 56:Nat)≤2 ^ 40)<|
 .aa ((48:Nat)≤2 ^ 40)<|
 .aa ((0:Nat) < 1)<|
 .aa (((0:Nat)+1:Nat)≤1)<|
 .aa ((48:Nat)=48)<|
 .aa (((49:Nat) * 56:Nat)≤2 ^ 40)<|
 .aa ((49:Nat)≤2 ^ 40)<|
 .aa ((0:Nat) < 1)<|
 .aa (((0:Nat)+1:Nat)≤1)<|
 .aa ((49:Nat)=49)<|
 .aa (((50:Nat) * 56:Nat)≤2 ^ 40)<|
 .aa ((50:Nat)≤2 ^ 40)<|
 .aa ((0:Nat) < 1)<|
 .aa (((0:Nat)+1:Nat)≤1)<|
 .aa ((50:Nat)=50)<|
 .aa (((51:Nat) * 56:Nat)≤2 ^ 40)<|
 .aa ((51:Nat)≤2 ^ 40)<|
 .aa ((0:Nat) < 1)<|
 .aa (((0:Nat)+1:Nat)≤1)<|
 .aa ((51:Nat)=51)<|
 .aa (((52:Nat) * 56:Nat)≤2 ^ 40)<|
 .aa ((52:Nat)≤2 ^ 40)<|
 .aa ((0:Nat) < 1)<|
 .aa (((0:Nat)+1:Nat)≤1)<|
 .aa ((52:Nat)=52)<|
 .aa (((53:Nat) * 56:Nat)≤2 ^ 40)<|
 .aa ((53:Nat)≤2 ^ 40)<|
 .aa ((0:Nat) < 1)<|
 .aa (((0:Nat)+1:Nat)≤1)<|
 .aa ((53:Nat)=53)<|
 .aa (((54:Nat) * 56:Nat)≤2 ^ 40)<|
 .aa ((54:Nat)≤2 ^ 40)<|
 .aa ((0:Nat) < 1)<|
 .aa (((0:Nat)+1:Nat)≤1)<|
 .aa ((54:Nat)=54)<|
 .aa (((55:Nat) * 56:Nat)≤2 ^ 40)<|
 .aa ((55:Nat)≤2 ^ 40)<|
 .aa ((0:Nat) < 1)<|
 .aa (((0:Nat)+1:Nat)≤1)<|
 .aa ((55:Nat)=55)<|
 .aa (((56:Nat) * 56:Nat)≤2 ^ 40)<|
 .aa ((56:Nat)≤2 ^ 40)<|
 .aa ((0:Nat) < 1)<|
 .aa (((0:Nat)+1:Nat)≤1)<|
 .aa ((56:Nat)=56)<|
 .aa (((57:Nat) * 56:Nat)≤2 ^ 40)<|
 .aa ((57:Nat)≤2 ^ 40)<|
 .aa ((0:Nat) < 1)<|
 .aa (((0:Nat)+1:Nat)≤1)<|
 .aa ((57:Nat)=57)<|
 .aa (((58:Nat) * 56:Nat)≤2 ^ 40)<|
 .aa ((58:Nat)≤2 ^ 40)<|
 .aa ((0:Nat) < 1)<|
 .aa (((0:Nat)+1:Nat)≤1)<|
 .aa ((58:Nat)=58)<|
 .aa (((59:Nat) * 56:Nat)≤2 ^ 40)<|
 .aa ((59:Nat)≤2 ^ 40)<|
 .aa ((0:Nat) < 1)<|
 .aa (((0:Nat)+1:Nat)≤1)<|
 .aa ((59:Nat)=59)<|
 .aa (((60:Nat) * 56:Nat)≤2 ^ 40)<|
 .aa ((60:Nat)≤2 ^ 40)<|
 .aa ((0:Nat) < 1)<|
 .aa (((0:Nat)+1:Nat)≤1)<|
 .aa ((60:Nat)=60)<|
 .aa (((61:Nat) * 56:Nat)≤2 ^ 40)<|
 .aa ((61:Nat)≤2 ^ 40)<|
 .aa ((0:Nat) < 1)<|
 .aa (((0:Nat)+1:Nat)≤1)<|
 .aa ((61:Nat)=61)<|
 .aa (((62:Nat) * 56:Nat)≤2 ^ 40)<|
 .aa ((62:Nat)≤2 ^ 40)<|
 .aa ((0:Nat) < 1)<|
 .aa (((0:Nat)+1:Nat)≤1)<|
 .aa ((62:Nat)=62)<|
 .aa (((63:Nat) * 56:Nat)≤2 ^ 40)<|
 .aa ((63:Nat)≤2 ^ 40)<|
 .aa ((0:Nat) < 1)<|
 .aa (((0:Nat)+1:Nat)≤1)<|
 .aa ((63:Nat)=63)<|
 .aa (((64:Nat) * 56:Nat)≤2 ^ 40)<|
 .aa ((64:Nat)≤2 ^ 40)<|
 .aa ((0:Nat) < 1)<|
 .aa (((0:Nat)+1:Nat)≤1)<|
 .aa ((64:Nat)=64)<|
 .aa (((65:Nat) * 56:Nat)≤2 ^ 40)<|
 .aa ((65:Nat)≤2 ^ 40)<|
 .aa ((0:Nat) < 1)<|
 .aa (((0:Nat)+1:Nat)≤1)<|
 .aa ((65:Nat)=65)<|
 .aa (((66:Nat) * 56:Nat)≤2 ^ 40)<|
 .aa ((66:Nat)≤2 ^ 40)<|
 .aa ((0:Nat) < 1)<|
 .aa (((0:Nat)+1:Nat)≤1)<|
 .aa ((66:Nat)=66)<|
 .aa (((67:Nat) * 56:Nat)≤2 ^ 40)<|
 .aa ((67:Nat)≤2 ^ 40)<|
 .aa ((0:Nat) < 1)<|
 .aa (((0:Nat)+1:Nat)≤1)<|
 .aa ((67:Nat)=67)<|
 .aa (((68:Nat) * 56:Nat)≤2 ^ 40)<|
 .aa ((68:Nat)≤2 ^ 40)<|
 .aa ((0:Nat) < 1)<|
 .aa (((0:Nat)+1:Nat)≤1)<|
 .aa ((68:Nat)=68)<|
 .aa (((69:Nat) * 56:Nat)≤2 ^ 40)<|
 .aa ((69:Nat)≤2 ^ 40)<|
 .aa ((0:Nat) < 1)<|
 .aa (((0:Nat)+1:Nat)≤1)<|
 .aa ((69:Nat)=69)<|
 .aa (((70:Nat) * 56:Nat)≤2 ^ 40)<|
 .aa ((70:Nat)≤2 ^ 40)<|
 .aa ((0:Nat) < 1)<|
 .aa (((0:Nat)+1:Nat)≤1)<|
 .aa ((70:Nat)=70)<|
 .aa (((71:Nat) * 56:Nat)≤2 ^ 40)<|
 .aa ((71:Nat)≤2 ^ 40)<|
 .aa (((0:Nat)+71:Nat)≤71)<|
 let y0:tG:=(false,(false,(false,false)))
 let y1:tH:=(0,y0)
 let y2:tI:=(0,(8,(6,y1)))
 let y3:Km:=(8,(8,(4,y0)))
 let y4:tI:=(0,y3)
 let y5:Km:=(8,(8,(1,y0)))
 let y6:tI:=(0,y5)
 let y7:Km:=(0,(2,y1))
 let y8:Km:=(1,(3,(0,(false,(false,(true,false))))))
 .ret [(0,(0,(80,(true,((-1),(24,y2)))))),(0,(0,(88,(true,((-1),(25,y2)))))),(0,(0,(232,(false,((-1),(26,y4)))))),(0,(0,(195,(false,((-1),(27,(0,(8,(0,y1))))))))),(0,(0,(233,(false,((-1),(28,y4)))))),(0,(0,(235,(false,((-1),(28,y6)))))),(0,(0,(255,(false,(4,(28,(0,(8,(3,y1))))))))),(0,(1,(128,(false,((-1),(29,y4)))))),(0,(0,(112,(false,((-1),(29,y6)))))),(0,(1,(129,(false,((-1),(29,(1,y3))))))),(0,(0,(113,(false,((-1),(29,(1,y5))))))),(0,(1,(130,(false,((-1),(29,(2,y3))))))),(0,(0,(114,(false,((-1),(29,(2,y5))))))),(0,(1,(131,(false,((-1),(29,(3,y3))))))),(0,(0,(115,(false,((-1),(29,(3,y5))))))),(0,(1,(132,(false,((-1),(29,(4,y3))))))),(0,(0,(116,(false,((-1),(29,(4,y5))))))),(0,(1,(133,(false,((-1),(29,(5,y3))))))),(0,(0,(117,(false,((-1),(29,(5,y5))))))),(0,(1,(134,(false,((-1),(29,(6,y3))))))),(0,(0,(118,(false,((-1),(29,(6,y5))))))),(0,(1,(135,(false,((-1),(29,(7,y3))))))),(0,(0,(119,(false,((-1),(29,(7,y5))))))),(0,(1,(136,(false,((-1),(29,(8,y3))))))),(0,(0,(120,(false,((-1),(29,(8,y5))))))),(0,(1,(137,(false,((-1),(29,(9,y3))))))),(0,(0,(121,(false,((-1),(29,(9,y5))))))),(0,(1,(138,(false,((-1),(29,(10,y3))))))),(0,(0,(122,(false,((-1),(29,(10,y5))))))),(0,(1,(139,(false,((-1),(29,(11,y3))))))),(0,(0,(123,(false,((-1),(29,(11,y5))))))),(0,(1,(140,(false,((-1),(29,(12,y3))))))),(0,(0,(124,(false,((-1),(29,(12,y5))))))),(0,(1,(141,(false,((-1),(29,(13,y3))))))),(0,(0,(125,(false,((-1),(29,(13,y5))))))),(0,(1,(142,(false,((-1),(29,(14,y3))))))),(0,(0,(126,(false,((-1),(29,(14,y5))))))),(0,(1,(143,(false,((-1),(29,(15,y3))))))),(0,(0,(127,(false,((-1),(29,(15,y5))))))),(0,(1,(64,(false,((-1),(30,(0,y7))))))),(0,(1,(65,(false,((-1),(30,(1,y7))))))),(0,(1,(66,(false,((-1),(30,(2,y7))))))),(0,(1,(67,(false,((-1),(30,(3,y7))))))),(0,(1,(68,(false,((-1),(30,(4,y7))))))),(0,(1,(69,(false,((-1),(30,(5,y7))))))),(0,(1,(70,(false,((-1),(30,(6,y7))))))),(0,(1,(71,(false,((-1),(30,(7,y7))))))),(0,(1,(72,(false,((-1),(30,(8,y7))))))),(0,(1,(73,(false,((-1),(30,(9,y7))))))),(0,(1,(74,(false,((-1),(30,(10,y7))))))),(0,(1,(75,(false,((-1),(30,(11,y7))))))),(0,(1,(76,(false,((-1),(30,(12,y7))))))),(0,(1,(77,(false,((-1),(30,(13,y7))))))),(0,(1,(78,(false,((-1),(30,(14,y7))))))),(0,(1,(79,(false,((-1),(30,(15,y7))))))),(0,(1,(144,(false,(0,(31,(0,y8))))))),(0,(1,(145,(false,(0,(31,(1,y8))))))),(0,(1,(146,(false,(0,(31,(2,y8))))))),(0,(1,(147,(false,(0,(31,(3,y8))))))),(0,(1,(148,(false,(0,(31,(4,y8))))))),(0,(1,(149,(false,(0,(31,(5,y8))))))),(0,(1,(150,(false,(0,(31,(6,y8))))))),(0,(1,(151,(false,(0,(31,(7,y8))))))),(0,(1,(152,(false,(0,(31,(8,y8))))))),(0,(1,(153,(false,(0,(31,(9,y8))))))),(0,(1,(154,(false,(0,(31,(10,y8))))))),(0,(1,(155,(false,(0,(31,(11,y8))))))),(0,(1,(156,(false,(0,(31,(12,y8))))))),(0,(1,(157,(false,(0,(31,(13,y8))))))),(0,(1,(158,(false,(0,(31,(14,y8))))))),(0,(1,(159,(false,(0,(31,(15,y8)))))))]
noncomputable def Bh (x):=(zi x).val
def CB (x):=(zi x).ok
noncomputable def KE:Spec:={dg:=.unit,bG:=(.slice jk),n:=1,pre:=CB,f:=Bh}
theorem ZI:au aT 83 KE:=iO Tryz.f83 [] trivial zi
noncomputable def zh (_x:Unit):Tr pO:=
 .aa ((0:Nat) < 9)<|
 .aa ((1:Nat) < 9)<|
 .aa ((2:Nat) < 9)<|
 .aa ((3:Nat) < 9)<|
 .aa ((4:Nat) < 9)<|
 .aa ((5:Nat) < 9)<|
 .aa ((6:Nat) < 9)<|
 .aa ((7:Nat) < 9)<|
 .aa ((8:Nat) < 9)<|
 .aa (((0:Nat)+9:Nat)≤9)<|
 let y0:tI:=(0,(0,(2,(0,(false,(false,(true,false)))))))
 let y1:(Bool×Bool):=(false,false)
 let y2:tG:=(false,(true,y1))
 let y3:tH:=(0,y2)
 let y4:tI:=(0,(16,(2,y3)))
 .ret [(0,(1,(182,(false,((-1),(32,y0)))))),(0,(1,(190,(false,((-1),(33,y0)))))),(0,(0,(144,(false,((-1),(34,(0,(8,(0,(0,(false,(false,y1)))))))))))),(243,(1,(111,(false,((-1),(35,y4)))))),(243,(1,(127,(false,((-1),(35,(0,(16,(1,y3))))))))),(102,(1,(239,(false,((-1),(36,y4)))))),(102,(2,(220,(false,((-1),(37,y4)))))),(102,(2,(221,(false,((-1),(38,y4)))))),(102,(3,(68,(false,((-1),(39,(0,(16,(2,(1,y2))))))))))]
noncomputable def xP (x):=(zh x).val
def x9 (x):=(zh x).ok
noncomputable def KD:Spec:={dg:=.unit,bG:=(.slice jk),n:=1,pre:=x9,f:=xP}
theorem ZH:au aT 84 KD:=iO Tryz.f84 [] trivial zh
end Go.aA.RV
end
section
namespace Go.aA.RV
open Go.Proofs Go.aA
noncomputable def zW (_x:Unit):Tr pO:=
 .aa ((0:Nat) < 8)<|
 .aa ((1:Nat) < 8)<|
 .aa ((2:Nat) < 8)<|
 .aa ((3:Nat) < 8)<|
 .aa ((4:Nat) < 8)<|
 .aa ((5:Nat) < 8)<|
 .aa ((6:Nat) < 8)<|
 .aa ((7:Nat) < 8)<|
 .aa (G9 ())<|
 let y0:Nat:=(DS ()).length
 let y1:Nat:=(8+y0)
 .ite (bd ((8:Nat):Int) ((y1:Nat):Int)) (
 .aa ((0+8:Nat)≤8)<|
 .aa (((y1:Nat) * 56:Nat)≤2 ^ 40)<|
 .aa ((y1:Nat)≤2 ^ 40)<|
 .aa (CB ())<|
 .aa ((y1:Nat)=y1)<|
 let y2:Nat:=(Bh ()).length
 let y3:Nat:=(y1+y2)
 .aa (((y3:Nat) * 56:Nat)≤2 ^ 40)<|
 .aa ((y3:Nat)≤2 ^ 40)<|
 .aa (x9 ())<|
 .aa ((y3:Nat)=y3)<|
 let y4:Nat:=(xP ()).length
 let y5:Nat:=(y3+y4)
 .aa (((y5:Nat) * 56:Nat)≤2 ^ 40)<|
 .aa ((y5:Nat)≤2 ^ 40)<|
 .aa (((0:Nat)+y5:Nat)≤y5)<|
 let y6:Kj:=(false,(false,false))
 let y7:tG:=(false,y6)
 let y8:tH:=(0,y7)
 let y9:tG:=(false,(false,(true,false)))
 let y10:tH:=(0,y9)
 let y11:pO:=[(0,(0,(137,(false,((-1),(1,(0,(0,(1,y8))))))))),(0,(0,(139,(false,((-1),(1,(0,(0,(2,y8))))))))),(0,(0,(199,(false,(0,(1,(0,(0,(4,(4,y7)))))))))),(0,(0,(184,(true,((-1),(1,(0,(8,(7,(8,(true,y6))))))))))),(0,(0,(136,(false,((-1),(1,(0,(1,(1,y10))))))))),(0,(0,(138,(false,((-1),(1,(0,(1,(2,y10))))))))),(0,(0,(198,(false,(0,(1,(0,(1,(4,(1,y9)))))))))),(0,(0,(141,(false,((-1),(2,(0,(0,(2,(0,(false,(false,(false,true)))))))))))))]
 .ret ((((y11++(DS ()))++(Bh ()))++(xP ())).take y5)) (
 .aa ((0+8+y0:Nat)≤8)<|
 .aa (CB ())<|
 let y12:Nat:=(Bh ()).length
 let y13:Nat:=(y1+y12)
 .ite (bd ((8:Nat):Int) ((y13:Nat):Int)) (
 .aa ((0+y1:Nat)≤8)<|
 .aa (((y13:Nat) * 56:Nat)≤2 ^ 40)<|
 .aa ((y13:Nat)≤2 ^ 40)<|
 .aa (x9 ())<|
 .aa ((y13:Nat)=y13)<|
 let y14:Nat:=(xP ()).length
 let y15:Nat:=(y13+y14)
 .aa (((y15:Nat) * 56:Nat)≤2 ^ 40)<|
 .aa ((y15:Nat)≤2 ^ 40)<|
 .aa (((0:Nat)+y15:Nat)≤y15)<|
 let y16:Kj:=(false,(false,false))
 let y17:tG:=(false,y16)
 let y18:tH:=(0,y17)
 let y19:tG:=(false,(false,(true,false)))
 let y20:tH:=(0,y19)
 let y21:pO:=[(0,(0,(137,(false,((-1),(1,(0,(0,(1,y18))))))))),(0,(0,(139,(false,((-1),(1,(0,(0,(2,y18))))))))),(0,(0,(199,(false,(0,(1,(0,(0,(4,(4,y17)))))))))),(0,(0,(184,(true,((-1),(1,(0,(8,(7,(8,(true,y16))))))))))),(0,(0,(136,(false,((-1),(1,(0,(1,(1,y20))))))))),(0,(0,(138,(false,((-1),(1,(0,(1,(2,y20))))))))),(0,(0,(198,(false,(0,(1,(0,(1,(4,(1,y19)))))))))),(0,(0,(141,(false,((-1),(2,(0,(0,(2,(0,(false,(false,(false,true)))))))))))))]
 let y22:pO:=(bL y21 8 (DS ()))
 .ret ((((y22.take y1)++(Bh ()))++(xP ())).take y15)) (
 .aa ((0+y1+y12:Nat)≤8)<|
 .aa (x9 ())<|
 let y23:Nat:=(xP ()).length
 let y24:Nat:=(y13+y23)
 .ite (bd ((8:Nat):Int) ((y24:Nat):Int)) (
 .aa ((0+y13:Nat)≤8)<|
 .aa (((y24:Nat) * 56:Nat)≤2 ^ 40)<|
 .aa ((y24:Nat)≤2 ^ 40)<|
 .aa (((0:Nat)+y24:Nat)≤y24)<|
 let y25:Kj:=(false,(false,false))
 let y26:tG:=(false,y25)
 let y27:tH:=(0,y26)
 let y28:tG:=(false,(false,(true,false)))
 let y29:tH:=(0,y28)
 let y30:pO:=[(0,(0,(137,(false,((-1),(1,(0,(0,(1,y27))))))))),(0,(0,(139,(false,((-1),(1,(0,(0,(2,y27))))))))),(0,(0,(199,(false,(0,(1,(0,(0,(4,(4,y26)))))))))),(0,(0,(184,(true,((-1),(1,(0,(8,(7,(8,(true,y25))))))))))),(0,(0,(136,(false,((-1),(1,(0,(1,(1,y29))))))))),(0,(0,(138,(false,((-1),(1,(0,(1,(2,y29))))))))),(0,(0,(198,(false,(0,(1,(0,(1,(4,(1,y28)))))))))),(0,(0,(141,(false,((-1),(2,(0,(0,(2,(0,(false,(false,(false,true)))))))))))))]
 let y31:pO:=(bL y30 8 (DS ()))
 let y32:pO:=(bL y31 (0+y1) (Bh ()))
 .ret (((y32.take y13)++(xP ())).take y24)) (
 .aa ((0+y13+y23:Nat)≤8)<|
 .aa (((0:Nat)+y24:Nat)≤8)<|
 let y33:Kj:=(false,(false,false))
 let y34:tG:=(false,y33)
 let y35:tH:=(0,y34)
 let y36:tG:=(false,(false,(true,false)))
 let y37:tH:=(0,y36)
 let y38:pO:=[(0,(0,(137,(false,((-1),(1,(0,(0,(1,y35))))))))),(0,(0,(139,(false,((-1),(1,(0,(0,(2,y35))))))))),(0,(0,(199,(false,(0,(1,(0,(0,(4,(4,y34)))))))))),(0,(0,(184,(true,((-1),(1,(0,(8,(7,(8,(true,y33))))))))))),(0,(0,(136,(false,((-1),(1,(0,(1,(1,y37))))))))),(0,(0,(138,(false,((-1),(1,(0,(1,(2,y37))))))))),(0,(0,(198,(false,(0,(1,(0,(1,(4,(1,y36)))))))))),(0,(0,(141,(false,((-1),(2,(0,(0,(2,(0,(false,(false,(false,true)))))))))))))]
 let y39:pO:=(bL y38 8 (DS ()))
 let y40:pO:=(bL y39 (0+y1) (Bh ()))
 .ret ((bL y40 (0+y13) (xP ())).take y24))))
noncomputable def Vl (x):=(zW x).val
def He (x):=(zW x).ok
noncomputable def KV:Spec:={dg:=.unit,bG:=(.slice jk),n:=1,pre:=He,f:=Vl}
theorem ZY:au aT 31 KV:=iO Tryz.f31 [(82,KF),(83,KE),(84,KD)] ⟨ZJ,ZI,ZH,trivial⟩ zW
noncomputable def u5 (x:(DF×Int)):Tr Bool:=
 let y0:(Int×(Bool×(Int×Tj))):=x.1.2.2
 .ite y0.2.1 (
 let y1:=y0.1
 .ret (ae (av .u8 x.2 248) (av .u8 y1 248))) (
 let y2:=y0.1
 .ret (ae x.2 y2))
noncomputable def QP (x):=(u5 x).val
def G8 (x):=(u5 x).ok
noncomputable def KC:Spec:={dg:=(.st jk (.a7 (.int .u8))),bG:=.bool,n:=1,pre:=G8,f:=QP}
theorem ZG:au aT 85 KC:=iO Tryz.f85 [] trivial u5
noncomputable def vk (x:(DF×B2)):Tr Bool:=
 .ite ((ae x.1.1 x.2.1)==true) (
 let y0:=x.1.2
 let y1:=x.2.2
 .ite ((ae y0.1 y1.1)==true) (
 let y2:=y1.2
 let y3:(DF×Int):=(x.1,y2.1)
 .aa (G8 y3)<|
 .ite ((QP y3)==true) (
 let y4:=y0.2.2.2.1
 .ite ((ae y4 (-1))==false) (
 .ret (ae y4 y2.2)) (
 .ret true)) (
 .ret false)) (
 .ret false)) (
 .ret false)
noncomputable def Q5 (x):=(vk x).val
def Hd (x):=(vk x).ok
noncomputable def KU:Spec:={dg:=(.st jk (.st (.int .u8) (.st (.int .u8) (.st (.int .u8) (.a7 (.int .i64)))))),bG:=.bool,n:=1,pre:=Hd,f:=Q5}
theorem ZX:au aT 32 KU:=iO Tryz.f32 [(85,KC)] ⟨ZG,trivial⟩ vk
inductive YV where
 | h0 (v4:pO) (v5:Int)
noncomputable def vy (_x:B2):Tr (YV⊕(DF×Bool)):=
 .aa (He ())<|
 .ret (.inl (.h0 (Vl ()) 0))
noncomputable def nS (x:B2):YV→Tr (YV⊕(DF×Bool))
 | .h0 v4 v5=>
 .ite (bd v5 (v4.length:Int)) (
 .aa ((0:Int)≤v5)<|
 .aa (v5 < (v4.length:Int))<|
 let y0:DF:=(eX jk v4 (v5).toNat)
 let y1:(DF×B2):=(y0,x)
 .aa (Hd y1)<|
 .ite (Q5 y1) (
 .aa ((0:Int)≤v5)<|
 .aa (v5 < (v4.length:Int))<|
 .ret (.inr (y0,true))) (
 .ret (.inl (.h0 v4 (aJ .i64 v5 1))))) (
 .ret (.inr ((0,(0,(0,(false,(0,(0,(0,(0,(0,(0,(false,(false,(false,false))))))))))))),false)))
noncomputable def UA (x:B2):YV→Head
 | .h0 v4 v5=>
 {fr:={id:=14,kind:=.top,T:=[(.int .u8 x.1),(.int .u8 x.2.1),(.int .u8 x.2.2.1),(.int .i64 x.2.2.2)]++List.replicate 4 .any++[(.ptr 0 []),.any,(.dA jk v4),(.int .i64 v5)]++List.replicate 21 .any,items:=[.lp (aH [1,1,0,1,0,0] (ah Tryz.f14)),.bB 0,.code (aH [1,1,1] (ah Tryz.f14))],D:=[],base:=0},
  aF:=[],
  H:=[.cell true 52 (.agg [1,1,1,1,1,1,1,1,1,1,1,1,1,1] [(.int .u8 0),(.int .u8 0),(.int .u8 0),(.bool false),(.int .i64 0),(.int .u8 0),(.int .u8 0),(.int .i64 0),(.int .u8 0),(.int .i64 0),(.bool false),(.bool false),(.bool false),(.bool false)])]}
noncomputable def Ty:FuncId→Nat→Nat→Option Cut
 | 14,0,0=>some {tmps:=[0,1,2,3,8,10,11],loops:=[],dead:=[],aF:=[]}
 | _,_,_=>none
noncomputable def Vn (x):=dq (TC.gN (.st jk (.a7 .bool))) (nS x) (vy x)
def MQ (x):=∃ r,Ends (nS x) r (vy x)
noncomputable def K9:Spec:={dg:=(.st (.int .u8) (.st (.int .u8) (.st (.int .u8) (.a7 (.int .i64))))),bG:=(.st jk (.a7 .bool)),n:=2,pre:=MQ,f:=Vn}
theorem aa1:au aT 14 K9:=o7 Tryz.f14 [(31,KV),(32,KU)] ⟨ZY,ZX,trivial⟩ vy nS UA Ty
noncomputable def vx (x:Int):Tr Bool:=
 .ite ((ae x 0)==false) (
 .ite ((ae x 6)==false) (
 .ite ((ae x 7)==false) (
 .ret (ae x 8)) (
 .ret true)) (
 .ret true)) (
 .ret true)
noncomputable def NY (x):=(vx x).val
def Hj (x):=(vx x).ok
noncomputable def K8:Spec:={dg:=(.a7 (.int .u8)),bG:=.bool,n:=1,pre:=Hj,f:=NY}
theorem aa0:au aT 15 K8:=iO Tryz.f15 [] trivial vx
noncomputable def EW (x:Int):Tr DO:=
 .ret (1,(x,((-1),((-1),(0,(0,(false,0)))))))
noncomputable def tP (x):=(EW x).val
def sX (x):=(EW x).ok
noncomputable def r5:Spec:={dg:=(.a7 (.int .i64)),bG:=CO,n:=1,pre:=sX,f:=tP}
theorem M8:au aT 18 r5:=iO Tryz.f18 [] trivial EW
noncomputable def ES (x:bt):Tr DO:=
 .ret (2,(0,((imax x.1 (-1)),((-1),(1,(x.2,(false,0)))))))
noncomputable def QN (x):=(ES x).val
def Mn (x):=(ES x).ok
noncomputable def KB:Spec:={dg:=(.st (.int .i64) (.a7 (.int .i64))),bG:=CO,n:=1,pre:=Mn,f:=QN}
theorem ZF:au aT 86 KB:=iO Tryz.f86 [] trivial ES
inductive YL where
 | h0 (v2:Int) (v3:Int)
noncomputable def u3 (x:nE):Tr (YL⊕(Int×Bool)):=
 .ite (bd (x.1.length:Int) x.2) (
 .ret (.inr (0,false))) (
 .ite (ae x.2 1) (
 .aa ((0:Int)≤0)<|
 .aa (0 < (x.1.length:Int))<|
 .ret (.inr ((af .i64 (af .i8 (eX (.int .u8) x.1 0))),true))) (
 .ret (.inl (.h0 0 0))))
noncomputable def mO (x:nE):YL→Tr (YL⊕(Int×Bool))
 | .h0 v2 v3=>
 .ite (bd v3 x.2) (
 .aa ((0:Int)≤v3)<|
 .aa (v3 < (x.1.length:Int))<|
 let y0:Int:=(af .u64 (cX .i64 8 v3))
 .aa ((0:Int)≤y0)<|
 .ret (.inl (.h0 (dp .u32 v2 (b7 .u32 (af .u32 (eX (.int .u8) x.1 (v3).toNat)) y0)) (aJ .i64 v3 1)))) (
 .ret (.inr ((af .i64 (af .i32 v2)),true)))
noncomputable def Uo (x:nE):YL→Head
 | .h0 v2 v3=>
 {fr:={id:=87,kind:=.top,T:=[(.dA (.int .u8) x.1),(.int .i64 x.2)]++List.replicate 4 .any++[(.int .u32 v2),(.int .i64 v3)]++List.replicate 30 .any,items:=[.lp (aH [1,1,1,1,0,1,0,0] (ah Tryz.f87)),.bB 0,.code (aH [1,1,1,1,1] (ah Tryz.f87))],D:=[],base:=0},
  aF:=[],
  H:=[]}
noncomputable def Tl:FuncId→Nat→Nat→Option Cut
 | 87,0,0=>some {tmps:=[0,1,6,7],loops:=[],dead:=[],aF:=[]}
 | _,_,_=>none
noncomputable def UQ (x):=dq (TC.gN (.st (.int .i64) (.a7 .bool))) (mO x) (u3 x)
def Ml (x):=∃ r,Ends (mO x) r (u3 x)
noncomputable def KA:Spec:={dg:=(.st (.slice (.int .u8)) (.a7 (.int .i64))),bG:=(.st (.int .i64) (.a7 .bool)),n:=2,pre:=Ml,f:=UQ}
theorem ZE:au aT 87 KA:=o7 Tryz.f87 [] trivial u3 mO Uo Tl
inductive YP where
 | h0
 | h1 (v2:Int) (v3:Int) (v4:Int)
 | h2 (v2:Int) (v3:Int) (v4:Int) (v6:Int) (v15:DO)
 | h3 (v2:Int) (v3:Int) (v4:Int) (v6:Int) (v15:DO)
 | h4 (v2:Int) (v3:Int) (v4:Int) (v13:DO)
 | h5 (v1:Int) (v2:Int) (v3:Int) (v12:DO)
 | h6 (v1:Int) (v2:Int) (v4:Int) (v13:DO)
 | h7 (v0:Int) (v1:Int) (v2:Int) (v3:Int) (v12:DO)
 | h8 (v0:Int) (v1:Int) (v2:Int) (v11:DO)
noncomputable def vj (x:nE):Tr (YP⊕(Int×qC)):=
 .ite (ae (x.1.length:Int) 0) (
 .ret (.inr (0,((0,(0,(0,(0,(0,(0,(false,0))))))),(0,80))))) (
 .ret (.inl (.h0)))
noncomputable def eM (x:nE):YP→Tr (YP⊕(Int×qC))
 | .h0=>
 .aa ((0:Int)≤0)<|
 .aa (0 < (x.1.length:Int))<|
 .aa ((0:Int)≤6)<|
 .aa ((0:Int)≤0)<|
 .aa (0 < (x.1.length:Int))<|
 .aa ((0:Int)≤0)<|
 .aa (0 < (x.1.length:Int))<|
 .aa ((0:Int)≤3)<|
 .aa ((0:Int)≤2)<|
 let y0:Int:=(eX (.int .u8) x.1 0)
 let y1:Int:=(a9 .u8 y0 6)
 .ite (ae y1 3) (
 let y2:Int:=(af .i64 (av .u8 y0 7))
 let y3:Int:=(aJ .i64 y2 (cX .i64 (af .i64 (av .u8 x.2 1)) 8))
 .aa (sX y3)<|
 let y4:Int:=(aJ .i64 (af .i64 (av .u8 (a9 .u8 y0 3) 7)) (cX .i64 (af .i64 (av .u8 (a9 .u8 x.2 2) 1)) 8))
 .ret (.inr (y4,((tP y3),(1,0))))) (
 let y5:Int:=(af .i64 (av .u8 y0 7))
 let y6:Int:=(aJ .i64 (af .i64 (av .u8 (a9 .u8 y0 3) 7)) (cX .i64 (af .i64 (av .u8 (a9 .u8 x.2 2) 1)) 8))
 .ret (.inl (.h1 y1 y5 y6)))
 | .h1 v2 v3 v4=>
 let y0:bt:=((aJ .i64 v3 (cX .i64 (af .i64 (av .u8 x.2 1)) 8)),0)
 .aa (Mn y0)<|
 .ite (ae v2 1) (
 let y1:=(QN y0)
 .ret (.inl (.h2 v2 v3 v4 1 y1))) (
 let y2:=(QN y0)
 .ret (.inl (.h2 v2 v3 v4 0 y2)))
 | .h2 v2 v3 v4 v6 v15=>
 .ite (ae v2 2) (
 .ret (.inl (.h3 v2 v3 v4 4 v15))) (
 .ret (.inl (.h3 v2 v3 v4 v6 v15)))
 | .h3 v2 v3 v4 v6 v15=>
 .ite (ae v3 4) (
 .ite (bd (x.1.length:Int) 2) (
 .ret (.inr (0,((0,(0,(0,(0,(0,(0,(false,0))))))),(0,80))))) (
 .ret (.inl (.h4 v2 v4 v6 v15)))) (
 .ite ((ae v3 5)==true) (
 .ite (ae v2 0) (
 let y0:IE:=v15.2.2.2
 let y1:=y0.2
 let y2:=y1.2
 .ret (.inl (.h5 v4 1 4 (v15.1,(v15.2.1,((-1),(y0.1,(y1.1,(y2.1,(true,y2.2.2)))))))))) (
 .ret (.inl (.h5 v4 1 v6 v15)))) (
 .ret (.inl (.h5 v4 1 v6 v15))))
 | .h4 v2 v3 v4 v13=>
 .aa ((0:Int)≤1)<|
 .aa (1 < (x.1.length:Int))<|
 .aa ((0:Int)≤1)<|
 .aa (1 < (x.1.length:Int))<|
 .aa ((0:Int)≤3)<|
 .aa ((0:Int)≤1)<|
 let y0:Int:=(eX (.int .u8) x.1 1)
 let y1:Int:=(aJ .i64 (af .i64 (av .u8 (a9 .u8 y0 3) 7)) (cX .i64 (af .i64 (av .u8 (a9 .u8 x.2 1) 1)) 8))
 .ite (cB y1 4) (
 .aa ((0:Int)≤1)<|
 .aa (1 < (x.1.length:Int))<|
 .aa ((0:Int)≤6)<|
 let y2:Int:=(af .u64 (a9 .u8 y0 6))
 .aa ((0:Int)≤y2)<|
 let y3:Int:=v13.2.1
 let y4:Int:=(aJ .i64 (af .i64 (av .u8 y0 7)) (cX .i64 (af .i64 (av .u8 x.2 1)) 8))
 let y5:IE:=v13.2.2.2
 .ret (.inl (.h6 v2 v3 v4 (v13.1,(y3,(y4,(y1,((b7 .i64 1 y2),y5.2.2)))))))) (
 let y6:Int:=v13.2.1
 let y7:Int:=(aJ .i64 (af .i64 (av .u8 y0 7)) (cX .i64 (af .i64 (av .u8 x.2 1)) 8))
 let y8:IE:=v13.2.2.2
 .ret (.inl (.h6 v2 v3 v4 (v13.1,(y6,(y7,y8))))))
 | .h5 v1 v2 v3 v12=>
 .ite (bd 0 v3) (
 .aa ((0:Int)≤v2)<|
 .aa (((v2).toNat:Nat)≤x.1.length)<|
 let y0:nE:=((x.1.drop (v2).toNat),v3)
 .aa (Ml y0)<|
 let y1:=(UQ y0)
 .ite (!y1.2) (
 .ret (.inr (0,((0,(0,(0,(0,(0,(0,(false,0))))))),(0,80))))) (
 .ret (.inl (.h7 v1 v2 v3 y1.1 v12)))) (
 .ret (.inl (.h8 v1 v2 v3 v12)))
 | .h6 v1 v2 v4 v13=>
 .aa ((0:Int)≤1)<|
 .aa (1 < (x.1.length:Int))<|
 .ite ((ae (av .u8 (eX (.int .u8) x.1 1) 7) 5)==true) (
 .ite (ae v1 0) (
 .ret (.inl (.h5 v2 2 4 (v13.1,(v13.2.1,((-1),v13.2.2.2)))))) (
 .ret (.inl (.h5 v2 2 v4 v13)))) (
 .ret (.inl (.h5 v2 2 v4 v13)))
 | .h7 v0 v1 v2 v3 v12=>
 let y0:(Int×IE):=v12.2.2
 let y1:=y0.2
 let y2:=y1.2
 .ret (.inl (.h8 v0 v1 v2 (v12.1,(v12.2.1,(y0.1,(y1.1,(y2.1,(v3,y2.2.2))))))))
 | .h8 v0 v1 v2 v11=>
 .ret (.inr (v0,(v11,((aJ .i64 v1 v2),0))))
noncomputable def fI:aG:=.cell true 26 (.agg [1,1,1,1,1,1,1,1] [(.int .u8 0),(.int .i64 0),(.int .i64 0),(.int .i64 0),(.int .i64 0),(.int .i64 0),(.bool false),(.int .i64 0)])
noncomputable def Uu (x:nE):YP→Head
 | .h0=>
 {fr:={id:=33,kind:=.top,T:=[(.dA (.int .u8) x.1),(.int .u8 x.2),.any,.any,.any,(.ptr 0 [])]++List.replicate 137 .any,items:=[.code (aH [1,1,0] (ah Tryz.f33)),.code (aH [1,1,1] (ah Tryz.f33))],D:=[],base:=0},
  aF:=[],
  H:=[fI]}
 | .h1 v2 v3 v4=>
 {fr:={id:=33,kind:=.top,T:=[(.dA (.int .u8) x.1),(.int .u8 x.2),.any,.any,.any,(.ptr 0 []),.any,.any,(.int .u8 v2),(.int .i64 v3),(.int .i64 v4)]++List.replicate 132 .any,items:=[.code (aH [1,1,1,1,1,0] (ah Tryz.f33)),.code (aH [1,1,1,1,1,1] (ah Tryz.f33))],D:=[],base:=0},
  aF:=[],
  H:=[fI]}
 | .h2 v2 v3 v4 v6 v15=>
 {fr:={id:=33,kind:=.top,T:=[(.dA (.int .u8) x.1),(.int .u8 x.2),.any,.any,.any,(.ptr 0 []),.any,.any,(.int .u8 v2),(.int .i64 v3),(.int .i64 v4),(.ptr 1 []),(.int .i64 1),(.int .i64 v6)]++List.replicate 129 .any,items:=[.code (aH [1,1,1,1,1,1,1,1,0,0] (ah Tryz.f33)),.code (aH [1,1,1,1,1,1,1,1,0,1] (ah Tryz.f33)),.code (aH [1,1,1,1,1,1,1,1,1] (ah Tryz.f33))],D:=[],base:=0},
  aF:=[],
  H:=[fI,.cell true 26 (.agg [1,1,1,1,1,1,1,1] [(.int .u8 v15.1),(.int .i64 v15.2.1),(.int .i64 v15.2.2.1),(.int .i64 v15.2.2.2.1),(.int .i64 v15.2.2.2.2.1),(.int .i64 v15.2.2.2.2.2.1),(.bool v15.2.2.2.2.2.2.1),(.int .i64 v15.2.2.2.2.2.2.2)])]}
 | .h3 v2 v3 v4 v6 v15=>
 {fr:={id:=33,kind:=.top,T:=[(.dA (.int .u8) x.1),(.int .u8 x.2),.any,.any,.any,(.ptr 0 []),.any,.any,(.int .u8 v2),(.int .i64 v3),(.int .i64 v4),(.ptr 1 []),(.int .i64 1),(.int .i64 v6)]++List.replicate 129 .any,items:=[.code (aH [1,1,1,1,1,1,1,1,1,0,0,0] (ah Tryz.f33)),.code (aH [1,1,1,1,1,1,1,1,1,0,0,1] (ah Tryz.f33)),.bB 0,.code (aH [1,1,1,1,1,1,1,1,1,1] (ah Tryz.f33))],D:=[],base:=0},
  aF:=[],
  H:=[fI,.cell true 26 (.agg [1,1,1,1,1,1,1,1] [(.int .u8 v15.1),(.int .i64 v15.2.1),(.int .i64 v15.2.2.1),(.int .i64 v15.2.2.2.1),(.int .i64 v15.2.2.2.2.1),(.int .i64 v15.2.2.2.2.2.1),(.bool v15.2.2.2.2.2.2.1),(.int .i64 v15.2.2.2.2.2.2.2)])]}
 | .h4 v2 v3 v4 v13=>
 {fr:={id:=33,kind:=.top,T:=[(.dA (.int .u8) x.1),(.int .u8 x.2),.any,.any,.any,(.ptr 0 []),.any,.any,(.int .u8 v2),.any,(.int .i64 v3),(.ptr 1 []),.any,(.int .i64 v4)]++List.replicate 129 .any,items:=[.code (aH [1,1,1,1,1,1,1,1,1,0,0,1,0,1,0] (ah Tryz.f33)),.code (aH [1,1,1,1,1,1,1,1,1,0,0,1,0,1,1] (ah Tryz.f33)),.bB 0,.code (aH [1,1,1,1,1,1,1,1,1,1] (ah Tryz.f33))],D:=[],base:=0},
  aF:=[],
  H:=[fI,.cell true 26 (.agg [1,1,1,1,1,1,1,1] [(.int .u8 v13.1),(.int .i64 v13.2.1),(.int .i64 v13.2.2.1),(.int .i64 v13.2.2.2.1),(.int .i64 v13.2.2.2.2.1),(.int .i64 v13.2.2.2.2.2.1),(.bool v13.2.2.2.2.2.2.1),(.int .i64 v13.2.2.2.2.2.2.2)])]}
 | .h5 v1 v2 v3 v12=>
 {fr:={id:=33,kind:=.top,T:=[(.dA (.int .u8) x.1)]++List.replicate 4 .any++[(.ptr 0 [])]++List.replicate 4 .any++[(.int .i64 v1),(.ptr 1 []),(.int .i64 v2),(.int .i64 v3)]++List.replicate 129 .any,items:=[.code (aH [1,1,1,1,1,1,1,1,1,1,0,0] (ah Tryz.f33)),.code (aH [1,1,1,1,1,1,1,1,1,1,0,1] (ah Tryz.f33)),.code (aH [1,1,1,1,1,1,1,1,1,1,1] (ah Tryz.f33))],D:=[],base:=0},
  aF:=[],
  H:=[fI,.cell true 26 (.agg [1,1,1,1,1,1,1,1] [(.int .u8 v12.1),(.int .i64 v12.2.1),(.int .i64 v12.2.2.1),(.int .i64 v12.2.2.2.1),(.int .i64 v12.2.2.2.2.1),(.int .i64 v12.2.2.2.2.2.1),(.bool v12.2.2.2.2.2.2.1),(.int .i64 v12.2.2.2.2.2.2.2)])]}
 | .h6 v1 v2 v4 v13=>
 {fr:={id:=33,kind:=.top,T:=[(.dA (.int .u8) x.1)]++List.replicate 4 .any++[(.ptr 0 []),.any,.any,(.int .u8 v1),.any,(.int .i64 v2),(.ptr 1 []),(.int .i64 2),(.int .i64 v4)]++List.replicate 129 .any,items:=[.code (aH [1,1,1,1,1,1,1,1,1,0,0,1,0,1,1,1,1,1,0] (ah Tryz.f33)),.code (aH [1,1,1,1,1,1,1,1,1,0,0,1,0,1,1,1,1,1,1] (ah Tryz.f33)),.bB 0,.code (aH [1,1,1,1,1,1,1,1,1,1] (ah Tryz.f33))],D:=[],base:=0},
  aF:=[],
  H:=[fI,.cell true 26 (.agg [1,1,1,1,1,1,1,1] [(.int .u8 v13.1),(.int .i64 v13.2.1),(.int .i64 v13.2.2.1),(.int .i64 v13.2.2.2.1),(.int .i64 v13.2.2.2.2.1),(.int .i64 v13.2.2.2.2.2.1),(.bool v13.2.2.2.2.2.2.1),(.int .i64 v13.2.2.2.2.2.2.2)])]}
 | .h7 v0 v1 v2 v3 v12=>
 {fr:={id:=33,kind:=.top,T:=List.replicate 5 .any++[(.ptr 0 [])]++List.replicate 4 .any++[(.int .i64 v0),(.ptr 1 []),(.int .i64 v1),(.int .i64 v2),.any,(.int .i64 v3)]++List.replicate 127 .any,items:=[.code (aH [1,1,1,1,1,1,1,1,1,1,0,1,0,1,1] (ah Tryz.f33)),.code (aH [1,1,1,1,1,1,1,1,1,1,1] (ah Tryz.f33))],D:=[],base:=0},
  aF:=[],
  H:=[fI,.cell true 26 (.agg [1,1,1,1,1,1,1,1] [(.int .u8 v12.1),(.int .i64 v12.2.1),(.int .i64 v12.2.2.1),(.int .i64 v12.2.2.2.1),(.int .i64 v12.2.2.2.2.1),(.int .i64 v12.2.2.2.2.2.1),(.bool v12.2.2.2.2.2.2.1),(.int .i64 v12.2.2.2.2.2.2.2)])]}
 | .h8 v0 v1 v2 v11=>
 {fr:={id:=33,kind:=.top,T:=List.replicate 5 .any++[(.ptr 0 [])]++List.replicate 4 .any++[(.int .i64 v0),(.ptr 1 []),(.int .i64 v1),(.int .i64 v2)]++List.replicate 129 .any,items:=[.code (aH [1,1,1,1,1,1,1,1,1,1,1,0] (ah Tryz.f33)),.code (aH [1,1,1,1,1,1,1,1,1,1,1,1] (ah Tryz.f33))],D:=[],base:=0},
  aF:=[],
  H:=[fI,.cell true 26 (.agg [1,1,1,1,1,1,1,1] [(.int .u8 v11.1),(.int .i64 v11.2.1),(.int .i64 v11.2.2.1),(.int .i64 v11.2.2.2.1),(.int .i64 v11.2.2.2.2.1),(.int .i64 v11.2.2.2.2.2.1),(.bool v11.2.2.2.2.2.2.1),(.int .i64 v11.2.2.2.2.2.2.2)])]}
noncomputable def Ts:FuncId→Nat→Nat→Option Cut
 | 33,7,0=>some {tmps:=[0,1,5],loops:=[],dead:=[],aF:=[]}
 | 33,15,0=>some {tmps:=[0,1,5,8,9,10],loops:=[],dead:=[],aF:=[]}
 | 33,23,0=>some {tmps:=[0,1,5,8,9,10,11,12,13],loops:=[],dead:=[],aF:=[]}
 | 33,27,0=>some {tmps:=[0,1,5,8,9,10,11,12,13],loops:=[],dead:=[],aF:=[]}
 | 33,33,0=>some {tmps:=[0,1,5,8,10,11,13],loops:=[],dead:=[],aF:=[]}
 | 33,59,0=>some {tmps:=[0,5,10,11,12,13],loops:=[],dead:=[],aF:=[]}
 | 33,45,0=>some {tmps:=[0,5,8,10,11,12,13],loops:=[],dead:=[],aF:=[]}
 | 33,67,0=>some {tmps:=[5,10,11,12,13,15],loops:=[],dead:=[],aF:=[]}
 | 33,69,0=>some {tmps:=[5,10,11,12,13],loops:=[],dead:=[],aF:=[]}
 | _,_,_=>none
noncomputable def Vk (x):=dq (TC.gN (.st (.int .i64) (.st CO (.st (.int .i64) (.a7 (.int .i64)))))) (eM x) (vj x)
def MD (x):=∃ r,Ends (eM x) r (vj x)
noncomputable def KT:Spec:={dg:=(.st (.slice (.int .u8)) (.a7 (.int .u8))),bG:=(.st (.int .i64) (.st CO (.st (.int .i64) (.a7 (.int .i64))))),n:=4,pre:=MD,f:=Vk}
theorem ZW:au aT 33 KT:=o7 Tryz.f33 [(18,r5),(86,KB),(87,KA)] ⟨M8,ZF,ZE,trivial⟩ vj eM Uu Ts
inductive YU where
 | h0 (v0:Int) (v1:Int) (v38:DO)
 | h1 (v0:Int) (v1:Int) (v32:DO)
 | h2 (v0:Int) (v17:DO) (v25:DO)
noncomputable def vw (x:Kl):Tr (YU⊕(DO×(DO×(Int×Bool)))):=
 let y0:nE:=(x.2.2,x.1.2.2.1)
 .aa (MD y0)<|
 let y1:(Int×qC):=(Vk y0)
 let y2:qC:=y1.2
 let y3:bt:=y2.2
 .ite ((cB y3.2 0)==false) (
 .ite (x.2.1.2.2.2.2.2.2.2.2.2.2.2.2.2==true) (
 let y4:=y2.1
 .ite (ae y4.1 1) (
 let y5:jm:=(0,(0,(0,(0,(0,(0,(false,0)))))))
 let y6:Ko:=(y5,(y5,(0,false)))
 .ret (.inr y6)) (
 let y7:=y1.1
 let y8:=y3.1
 .ret (.inl (.h0 y7 y8 y4)))) (
 let y9:=y1.1
 let y10:=y3.1
 let y11:=y2.1
 .ret (.inl (.h0 y9 y10 y11)))) (
 let y12:jm:=(0,(0,(0,(0,(0,(0,(false,0)))))))
 let y13:Ko:=(y12,(y12,(0,false)))
 .ret (.inr y13))
noncomputable def iE (x:Kl):YU→Tr (YU⊕(DO×(DO×(Int×Bool))))
 | .h0 v0 v1 v38=>
 let y0:=x.2.1.2.2.2.2.2.2.2
 let y1:=y0.2
 .ite (y1.2.2.2.2.1==true) (
 .ite (!x.1.2.1) (
 .ite ((ae y0.1 1)==true) (
 let y2:=y1.1
 .ite ((ae y2 1)==false) (
 let y3:=((ae v38.1 1)==true)
 .ite y3 (
 let y4:Int:=v38.2.1
 let y5:=((bK 4 y4)==true)
 .ite y5 (
 let y6:=((bd y4 8)==false)
 .ite y6 (
 let y7:=((ae y2 2)==true)
 .ite y7 (
 let y8:=((bK 4 v0)==true)
 .ite y8 (
 let y9:=(bd v0 8)
 .ite y9 (
 let y10:jm:=(0,(0,(0,(0,(0,(0,(false,0)))))))
 let y11:Ko:=(y10,(y10,(0,false)))
 .ret (.inr y11)) (
 .ret (.inl (.h1 v0 v1 v38)))) (
 .ret (.inl (.h1 v0 v1 v38)))) (
 .ret (.inl (.h1 v0 v1 v38)))) (
 let y12:jm:=(0,(0,(0,(0,(0,(0,(false,0)))))))
 let y13:Ko:=(y12,(y12,(0,false)))
 .ret (.inr y13))) (
 let y14:=((ae y2 2)==true)
 .ite y14 (
 let y15:=((bK 4 v0)==true)
 .ite y15 (
 let y16:=(bd v0 8)
 .ite y16 (
 let y17:jm:=(0,(0,(0,(0,(0,(0,(false,0)))))))
 let y18:Ko:=(y17,(y17,(0,false)))
 .ret (.inr y18)) (
 .ret (.inl (.h1 v0 v1 v38)))) (
 .ret (.inl (.h1 v0 v1 v38)))) (
 .ret (.inl (.h1 v0 v1 v38))))) (
 let y19:=((ae y2 2)==true)
 .ite y19 (
 let y20:=((bK 4 v0)==true)
 .ite y20 (
 let y21:=(bd v0 8)
 .ite y21 (
 let y22:jm:=(0,(0,(0,(0,(0,(0,(false,0)))))))
 let y23:Ko:=(y22,(y22,(0,false)))
 .ret (.inr y23)) (
 .ret (.inl (.h1 v0 v1 v38)))) (
 .ret (.inl (.h1 v0 v1 v38)))) (
 .ret (.inl (.h1 v0 v1 v38))))) (
 let y24:=((ae v38.1 1)==true)
 .ite y24 (
 let y25:Int:=v38.2.1
 let y26:=((bK 4 y25)==true)
 .ite y26 (
 let y27:=((bd y25 8)==false)
 .ite y27 (
 let y28:=((bK 4 v0)==true)
 .ite y28 (
 let y29:=(bd v0 8)
 .ite y29 (
 let y30:jm:=(0,(0,(0,(0,(0,(0,(false,0)))))))
 let y31:Ko:=(y30,(y30,(0,false)))
 .ret (.inr y31)) (
 .ret (.inl (.h1 v0 v1 v38)))) (
 .ret (.inl (.h1 v0 v1 v38)))) (
 let y32:jm:=(0,(0,(0,(0,(0,(0,(false,0)))))))
 let y33:Ko:=(y32,(y32,(0,false)))
 .ret (.inr y33))) (
 let y34:=((bK 4 v0)==true)
 .ite y34 (
 let y35:=(bd v0 8)
 .ite y35 (
 let y36:jm:=(0,(0,(0,(0,(0,(0,(false,0)))))))
 let y37:Ko:=(y36,(y36,(0,false)))
 .ret (.inr y37)) (
 .ret (.inl (.h1 v0 v1 v38)))) (
 .ret (.inl (.h1 v0 v1 v38))))) (
 let y38:=((bK 4 v0)==true)
 .ite y38 (
 let y39:=(bd v0 8)
 .ite y39 (
 let y40:jm:=(0,(0,(0,(0,(0,(0,(false,0)))))))
 let y41:Ko:=(y40,(y40,(0,false)))
 .ret (.inr y41)) (
 .ret (.inl (.h1 v0 v1 v38)))) (
 .ret (.inl (.h1 v0 v1 v38)))))) (
 let y42:=((ae v38.1 1)==true)
 .ite y42 (
 let y43:Int:=v38.2.1
 let y44:=((bK 4 y43)==true)
 .ite y44 (
 let y45:=((bd y43 8)==false)
 .ite y45 (
 .ret (.inl (.h1 v0 v1 v38))) (
 let y46:jm:=(0,(0,(0,(0,(0,(0,(false,0)))))))
 let y47:Ko:=(y46,(y46,(0,false)))
 .ret (.inr y47))) (
 .ret (.inl (.h1 v0 v1 v38)))) (
 .ret (.inl (.h1 v0 v1 v38))))) (
 .ret (.inl (.h1 v0 v1 v38)))) (
 .ret (.inl (.h1 v0 v1 v38)))
 | .h1 v0 v1 v32=>
 .aa (sX v0)<|
 .ite x.2.1.2.2.2.2.2.2.2.2.2.2.2.1 (
 .ite (ae v32.1 1) (
 let y0:=(tP v0).2
 let y1:jm:=((tP v0).1,((aJ .i64 y0.1 16),y0.2))
 .ret (.inl (.h2 v1 (v32.1,((aJ .i64 v32.2.1 16),v32.2.2)) y1))) (
 let y2:=(tP v0).2
 let y3:jm:=((tP v0).1,((aJ .i64 y2.1 16),y2.2))
 .ret (.inl (.h2 v1 v32 y3)))) (
 .ret (.inl (.h2 v1 v32 (tP v0))))
 | .h2 v0 v17 v25=>
 .ret (.inr (v25,(v17,(v0,true))))
noncomputable def Ik (x:Kl):aG:=.cell true 52 (.agg [1,1,1,1,1,1,1,1,1,1,1,1,1,1] [(.int .u8 x.2.1.1),(.int .u8 x.2.1.2.1),(.int .u8 x.2.1.2.2.1),(.bool x.2.1.2.2.2.1),(.int .i64 x.2.1.2.2.2.2.1),(.int .u8 x.2.1.2.2.2.2.2.1),(.int .u8 x.2.1.2.2.2.2.2.2.1),(.int .i64 x.2.1.2.2.2.2.2.2.2.1),(.int .u8 x.2.1.2.2.2.2.2.2.2.2.1),(.int .i64 x.2.1.2.2.2.2.2.2.2.2.2.1),(.bool x.2.1.2.2.2.2.2.2.2.2.2.2.1),(.bool x.2.1.2.2.2.2.2.2.2.2.2.2.2.1),(.bool x.2.1.2.2.2.2.2.2.2.2.2.2.2.2.1),(.bool x.2.1.2.2.2.2.2.2.2.2.2.2.2.2.2)])
noncomputable def Uz (x:Kl):YU→Head
 | .h0 v0 v1 v38=>
 {fr:={id:=16,kind:=.top,T:=[.any,.any,.any,(.ptr 0 []),(.ptr 1 []),.any,(.ptr 2 []),(.ptr 3 []),.any,.any,(.int .i64 v0),(.ptr 4 []),(.int .i64 v1)]++List.replicate 89 .any,items:=[.code (aH [1,1,1,0,0] (ah Tryz.f16)),.code (aH [1,1,1,0,1] (ah Tryz.f16)),.code (aH [1,1,1,1] (ah Tryz.f16))],D:=[],base:=0},
  aF:=[],
  H:=[.cell true 47 (.agg [1,1,1,1,1,1] [(.int .u8 x.1.1),(.bool x.1.2.1),(.int .u8 x.1.2.2.1),(.int .u8 x.1.2.2.2.1),(.int .u8 x.1.2.2.2.2.1),(.int .i64 x.1.2.2.2.2.2)]),(Ik x),fI,fI,.cell true 26 (.agg [1,1,1,1,1,1,1,1] [(.int .u8 v38.1),(.int .i64 v38.2.1),(.int .i64 v38.2.2.1),(.int .i64 v38.2.2.2.1),(.int .i64 v38.2.2.2.2.1),(.int .i64 v38.2.2.2.2.2.1),(.bool v38.2.2.2.2.2.2.1),(.int .i64 v38.2.2.2.2.2.2.2)])]}
 | .h1 v0 v1 v32=>
 {fr:={id:=16,kind:=.top,T:=List.replicate 4 .any++[(.ptr 0 []),.any,(.ptr 1 []),(.ptr 2 []),.any,.any,(.int .i64 v0),(.ptr 3 []),(.int .i64 v1)]++List.replicate 89 .any,items:=[.code (aH [1,1,1,1,0] (ah Tryz.f16)),.code (aH [1,1,1,1,1] (ah Tryz.f16))],D:=[],base:=0},
  aF:=[],
  H:=[(Ik x),fI,fI,.cell true 26 (.agg [1,1,1,1,1,1,1,1] [(.int .u8 v32.1),(.int .i64 v32.2.1),(.int .i64 v32.2.2.1),(.int .i64 v32.2.2.2.1),(.int .i64 v32.2.2.2.2.1),(.int .i64 v32.2.2.2.2.2.1),(.bool v32.2.2.2.2.2.2.1),(.int .i64 v32.2.2.2.2.2.2.2)])]}
 | .h2 v0 v17 v25=>
 {fr:={id:=16,kind:=.top,T:=List.replicate 6 .any++[(.ptr 0 []),(.ptr 1 []),.any,.any,.any,(.ptr 2 []),(.int .i64 v0),.any,.any,(.ptr 3 [])]++List.replicate 86 .any,items:=[.code (aH [1,1,1,1,1,1,0] (ah Tryz.f16)),.code (aH [1,1,1,1,1,1,1] (ah Tryz.f16))],D:=[],base:=0},
  aF:=[],
  H:=[fI,fI,.cell true 26 (.agg [1,1,1,1,1,1,1,1] [(.int .u8 v17.1),(.int .i64 v17.2.1),(.int .i64 v17.2.2.1),(.int .i64 v17.2.2.2.1),(.int .i64 v17.2.2.2.2.1),(.int .i64 v17.2.2.2.2.2.1),(.bool v17.2.2.2.2.2.2.1),(.int .i64 v17.2.2.2.2.2.2.2)]),.cell true 26 (.agg [1,1,1,1,1,1,1,1] [(.int .u8 v25.1),(.int .i64 v25.2.1),(.int .i64 v25.2.2.1),(.int .i64 v25.2.2.2.1),(.int .i64 v25.2.2.2.2.1),(.int .i64 v25.2.2.2.2.2.1),(.bool v25.2.2.2.2.2.2.1),(.int .i64 v25.2.2.2.2.2.2.2)])]}
noncomputable def Tx:FuncId→Nat→Nat→Option Cut
 | 16,9,0=>some {tmps:=[3,4,6,7,10,11,12],loops:=[],dead:=[],aF:=[]}
 | 16,17,0=>some {tmps:=[4,6,7,10,11,12],loops:=[],dead:=[],aF:=[]}
 | 16,27,0=>some {tmps:=[6,7,11,12,15],loops:=[],dead:=[],aF:=[]}
 | _,_,_=>none
noncomputable def Rd (x):=dq (TC.gN (.st CO (.st CO (.st (.int .i64) (.a7 .bool))))) (iE x) (vw x)
def MO (x):=∃ r,Ends (iE x) r (vw x)
noncomputable def K7:Spec:={dg:=(.st EB (.st jk (.a7 (.slice (.int .u8))))),bG:=(.st CO (.st CO (.st (.int .i64) (.a7 .bool)))),n:=4,pre:=MO,f:=Rd}
theorem Z9:au aT 16 K7:=o7 Tryz.f16 [(18,r5),(33,KT)] ⟨M8,ZW,trivial⟩ vw iE Uz Tx
inductive YO where
 | h0 (v1:Int) (v2:Int)
noncomputable def vi (_x:ai):Tr (YO⊕Int):=
 .ret (.inl (.h0 0 0))
noncomputable def nR (x:ai):YO→Tr (YO⊕Int)
 | .h0 v1 v2=>
 .ite ((bd v2 (x.length:Int))==true) (
 .ite (bd v2 8) (
 .aa ((0:Int)≤v2)<|
 .aa (v2 < (x.length:Int))<|
 let y0:Int:=(af .u64 (cX .i64 8 v2))
 .aa ((0:Int)≤y0)<|
 .ret (.inl (.h0 (dp .u64 v1 (b7 .u64 (af .u64 (eX (.int .u8) x (v2).toNat)) y0)) (aJ .i64 v2 1)))) (
 .ret (.inr v1))) (
 .ret (.inr v1))
noncomputable def Ut (x:ai):YO→Head
 | .h0 v1 v2=>
 {fr:={id:=34,kind:=.top,T:=[(.dA (.int .u8) x),.any,.any,(.int .u64 v1),(.int .i64 v2)]++List.replicate 22 .any,items:=[.lp (aH [1,1,0,1,0,0] (ah Tryz.f34)),.bB 0,.code (aH [1,1,1] (ah Tryz.f34))],D:=[],base:=0},
  aF:=[],
  H:=[]}
noncomputable def Tq:FuncId→Nat→Nat→Option Cut
 | 34,0,0=>some {tmps:=[0,3,4],loops:=[],dead:=[],aF:=[]}
 | _,_,_=>none
noncomputable def Q2 (x):=dq (TC.gN (.int .u64)) (nR x) (vi x)
def MB (x):=∃ r,Ends (nR x) r (vi x)
noncomputable def KS:Spec:={dg:=(.a7 (.slice (.int .u8))),bG:=(.int .u64),n:=1,pre:=MB,f:=Q2}
theorem ZV:au aT 34 KS:=o7 Tryz.f34 [] trivial vi nR Ut Tq
noncomputable def vh (x:Int):Tr Bool:=
 .ite ((ae x 19)==false) (
 .ite ((ae x 20)==false) (
 .ite ((ae x 16)==false) (
 .ite ((ae x 17)==false) (
 .ret (ae x 18)) (
 .ret true)) (
 .ret true)) (
 .ret true)) (
 .ret true)
noncomputable def Jy (x):=(vh x).val
def Hc (x):=(vh x).ok
noncomputable def KR:Spec:={dg:=(.a7 (.int .u8)),bG:=.bool,n:=1,pre:=Hc,f:=Jy}
theorem ZU:au aT 35 KR:=iO Tryz.f35 [] trivial vh
noncomputable def Aa (x:Int):Tr Int:=
 .ret (xN (imax x 1) 8)
noncomputable def ti (x):=(Aa x).val
def AN (x):=(Aa x).ok
noncomputable def Ao:Spec:={dg:=(.a7 (.int .i64)),bG:=(.int .i64),n:=1,pre:=AN,f:=ti}
theorem SJ:au aT 114 Ao:=iO Tryz.f114 [] trivial Aa
inductive YK where
 | h0 (v1:Int) (v2:Int)
noncomputable def zg (_x:Int):Tr (YK⊕Int):=
 .ret (.inl (.h0 0 0))
noncomputable def nQ (x:Int):YK→Tr (YK⊕Int)
 | .h0 v1 v2=>
 .aa (AN x)<|
 .ite (bd v2 (cX .i64 8 (ti x))) (
 .aa ((0:Int)≤(af .u64 v2))<|
 .ret (.inl (.h0 (dp .u64 v1 (b7 .u64 1 (af .u64 v2))) (aJ .i64 v2 1)))) (
 .ret (.inr v1))
noncomputable def Un (x:Int):YK→Head
 | .h0 v1 v2=>
 {fr:={id:=90,kind:=.top,T:=[(.int .i64 x),.any,.any,(.int .u64 v1),(.int .i64 v2)]++List.replicate 13 .any,items:=[.lp (aH [1,1,0,1,0,0] (ah Tryz.f90)),.bB 0,.code (aH [1,1,1] (ah Tryz.f90))],D:=[],base:=0},
  aF:=[],
  H:=[]}
noncomputable def Tk:FuncId→Nat→Nat→Option Cut
 | 90,0,0=>some {tmps:=[0,3,4],loops:=[],dead:=[],aF:=[]}
 | _,_,_=>none
noncomputable def NO (x):=dq (TC.gN (.int .u64)) (nQ x) (zg x)
def G7 (x):=∃ r,Ends (nQ x) r (zg x)
noncomputable def E1:Spec:={dg:=(.a7 (.int .i64)),bG:=(.int .u64),n:=1,pre:=G7,f:=NO}
theorem Xx:au aT 90 E1:=o7 Tryz.f90 [(114,Ao)] ⟨SJ,trivial⟩ zg nQ Un Tk
noncomputable def ER (x:bt):Tr Int:=
 .aa (G7 x.2)<|
 .ret (av .u64 x.1 (NO x.2))
noncomputable def NP (x):=(ER x).val
def Mj (x):=(ER x).ok
noncomputable def Kz:Spec:={dg:=(.st (.int .u64) (.a7 (.int .i64))),bG:=(.int .u64),n:=1,pre:=Mj,f:=NP}
theorem ZD:au aT 88 Kz:=iO Tryz.f88 [(90,E1)] ⟨Xx,trivial⟩ ER
noncomputable def EP (x:bt):Tr Bool:=
 .aa (AN x.2)<|
 let y0:Int:=(af .u64 (eG .i64 (cX .i64 8 (ti x.2)) 1))
 .aa ((0:Int)≤y0)<|
 .ret (ae (av .u64 (a9 .u64 x.1 y0) 1) 1)
noncomputable def UP (x):=(EP x).val
def Mi (x):=(EP x).ok
noncomputable def Ky:Spec:={dg:=(.st (.int .u64) (.a7 (.int .i64))),bG:=.bool,n:=1,pre:=Mi,f:=UP}
theorem ZC:au aT 89 Ky:=iO Tryz.f89 [(114,Ao)] ⟨SJ,trivial⟩ EP
noncomputable def zV (x:bt):Tr Int:=
 .aa (Mj x)<|
 let y0:bt:=((NP x),x.2)
 .aa (Mi y0)<|
 .ite (UP y0) (
 .aa (G7 x.2)<|
 .ret (dp .u64 (NP x) (Uj .u64 (NO x.2)))) (
 .ret (NP x))
noncomputable def NU (x):=(zV x).val
def CJ (x):=(zV x).ok
noncomputable def KQ:Spec:={dg:=(.st (.int .u64) (.a7 (.int .i64))),bG:=(.int .u64),n:=1,pre:=CJ,f:=NU}
theorem ZT:au aT 36 KQ:=iO Tryz.f36 [(88,Kz),(89,Ky),(90,E1)] ⟨ZD,ZC,Xx,trivial⟩ zV
noncomputable def vu (x:(DF×ai)):Tr Int:=
 let y0:Tj:=x.1.2.2.2.2.2
 let y1:Int:=y0.2.2.2.2.1
 .aa ((0:Int)≤y1)<|
 let y2:Nat:=(y1).toNat
 .aa ((0:Nat)≤y2)<|
 .aa ((y2:Nat)≤x.2.length)<|
 let y3:ai:=((x.2.drop 0).take (y2 - 0))
 .aa (MB y3)<|
 let y4:Int:=y0.1
 .aa (Hc y4)<|
 .ite (Jy y4) (
 let y5:=(Q2 y3)
 .ret (af .i64 y5)) (
 let y6:=(Q2 y3)
 let y7:bt:=(y6,(imax y1 1))
 .aa (CJ y7)<|
 .ret (af .i64 (NU y7)))
noncomputable def Rb (x):=(vu x).val
def Hi (x):=(vu x).ok
noncomputable def K6:Spec:={dg:=(.st jk (.a7 (.slice (.int .u8)))),bG:=(.int .i64),n:=1,pre:=Hi,f:=Rb}
theorem Z8:au aT 17 K6:=iO Tryz.f17 [(34,KS),(35,KR),(36,KQ)] ⟨ZV,ZU,ZT,trivial⟩ vu
noncomputable def ET (x:Int):Tr DO:=
 .ret (3,(0,((-1),((-1),(0,(0,(false,x)))))))
noncomputable def QZ (x):=(ET x).val
def CI (x):=(ET x).ok
noncomputable def KP:Spec:={dg:=(.a7 (.int .i64)),bG:=CO,n:=1,pre:=CI,f:=QZ}
theorem ZS:au aT 37 KP:=iO Tryz.f37 [] trivial ET
noncomputable def vt (x:(DI×(DF×(DO×(DO×(DO×Int)))))):Tr DI:=
 let y0:Int:=x.2.1.2.2.2.2.2.2.2.2.1
 .ite (ae y0 1) (
 let y1:=x.1.1
 let y2:=x.1.2
 let y3:=y2.1
 let y4:=y2.2
 let y5:=y4.1
 let y6:=x.2.2
 let y7:=y6.2
 let y8:=y7.1
 let y9:=y6.1
 let y10:=y4.2
 let y11:=y10.2
 let y12:=y11.2
 .ret (y1,(y3,(y5,(y8,(y9,y12)))))) (
 .ite (ae y0 2) (
 let y13:=x.1.1
 let y14:=x.1.2
 let y15:=y14.1
 let y16:=y14.2
 let y17:=y16.1
 let y18:=x.2.2
 let y19:=y18.1
 let y20:=y18.2
 let y21:=y20.1
 let y22:=y16.2
 let y23:=y22.2
 let y24:=y23.2
 .ret (y13,(y15,(y17,(y19,(y21,y24)))))) (
 .ite (ae y0 3) (
 let y25:=x.1.1
 let y26:=x.1.2
 let y27:=y26.1
 let y28:=y26.2
 let y29:=y28.1
 let y30:=x.2.2
 let y31:=y30.2
 let y32:=y31.1
 let y33:=y28.2
 let y34:=y33.2
 .ret (y25,(y27,(y29,(y32,y34))))) (
 .ite (ae y0 4) (
 let y35:=x.2.2
 let y36:=y35.2
 let y37:=y36.2
 let y38:=y37.2
 .aa (CI y38)<|
 let y39:=x.1.1
 let y40:=x.1.2
 let y41:=y40.1
 let y42:=y40.2
 let y43:=y42.1
 let y44:=y36.1
 let y45:=y42.2
 let y46:=y45.2
 let y47:=y46.2
 let y48:qC:=((QZ y38),y47)
 .ret (y39,(y41,(y43,(y44,y48))))) (
 .ite (ae y0 5) (
 .aa (sX 1)<|
 let y49:=x.1.1
 let y50:=x.1.2
 let y51:=y50.1
 let y52:=y50.2
 let y53:=y52.1
 let y54:=x.2.2
 let y55:=y54.2
 let y56:=y55.1
 let y57:=y52.2
 let y58:=y57.2
 let y59:=y58.2
 .ret (y49,(y51,(y53,(y56,((tP 1),y59)))))) (
 .ite (ae y0 6) (
 let y60:=x.1.1
 let y61:=x.1.2
 let y62:=y61.1
 let y63:=y61.2
 let y64:=y63.1
 let y65:=x.2.2
 let y66:=y65.2
 let y67:=y66.2
 let y68:=y67.1
 let y69:=y63.2
 let y70:=y69.2
 .ret (y60,(y62,(y64,(y68,y70))))) (
 .ite (ae y0 7) (
 let y71:=x.2.2
 let y72:=y71.2
 let y73:=y72.2
 let y74:=y73.2
 .aa (CI y74)<|
 let y75:=x.1.1
 let y76:=x.1.2
 let y77:=y76.1
 let y78:=y76.2
 let y79:=y78.1
 let y80:=y73.1
 let y81:=y78.2
 let y82:=y81.2
 let y83:=y82.2
 let y84:qC:=((QZ y74),y83)
 .ret (y75,(y77,(y79,(y80,y84))))) (
 .ite (ae y0 8) (
 let y85:=x.2.2
 let y86:=y85.2
 let y87:=y86.2
 let y88:=y87.2
 .aa (CI y88)<|
 let y89:=x.1.1
 let y90:=x.1.2
 let y91:=y90.1
 let y92:=y90.2
 let y93:=y92.1
 let y94:=y92.2
 let y95:=y94.2
 let y96:=y95.2
 let y97:qC:=((QZ y88),y96)
 .ret (y89,(y91,(y93,(y94.1,y97))))) (
 .ret x.1))))))))
noncomputable def NW (x):=(vt x).val
def Hh (x):=(vt x).ok
noncomputable def K5:Spec:={dg:=(.st bw (.st jk (.st CO (.st CO (.st CO (.a7 (.int .i64))))))),bG:=bw,n:=1,pre:=Hh,f:=NW}
theorem Z7:au aT 19 K5:=iO Tryz.f19 [(18,r5),(37,KP)] ⟨M8,ZS,trivial⟩ vt
end Go.aA.RV
end
section
namespace Go.aA.RV
open Go.Proofs Go.aA
inductive J5 where
 | h0 (v22:lQ)
 | h1 (v1:Int) (v23:lQ)
 | h2 (v1:Bool) (v23:lQ) (v29:DF)
 | h3 (v1:Bool) (v2:Int) (v3:Int) (v25:lQ) (v31:DF) (v61:DO) (v69:DO)
 | h4 (v1:Bool) (v2:Int) (v24:lQ) (v30:DF) (v44:DO) (v52:DO)
 | h5 (v1:Bool) (v2:Int) (v24:lQ) (v30:DF) (v44:DO) (v52:DO)
 | h6 (v1:Int) (v23:lQ) (v29:DF) (v43:DO) (v51:DO) (v59:Int) (v60:Int) (v61:Int)
 | h7 (v0:Int) (v22:DF) (v36:DI)
noncomputable def BU (x:ai):Tr (J5⊕xC):=
 .aa (MS x)<|
 .ite (!(DY x).2) (
 let y0:jm:=(0,(0,(0,(0,(0,(0,(false,0)))))))
 .ret (.inr ((0,(0,(0,(y0,(y0,(0,0)))))),80))) (
 .ret (.inl (.h0 (DY x).1)))
noncomputable def gH (x:ai):J5→Tr (J5⊕xC)
 | .h0 v22=>
 let y0:Int:=v22.2.2.2.2.2
 .ite (bd y0 (x.length:Int)) (
 .aa ((0:Int)≤y0)<|
 .aa (y0 < (x.length:Int))<|
 .aa ((0:Int)≤3)<|
 .ret (.inl (.h1 (af .i64 (av .u8 (a9 .u8 (eX (.int .u8) x (y0).toNat) 3) 7)) v22))) (
 .ret (.inl (.h1 0 v22)))
 | .h1 v1 v23=>
 let y0:B2:=v23.2.2
 let y1:=y0.2
 let y2:B2:=(v23.1,(y1.1,(y1.2.1,v1)))
 .aa (MQ y2)<|
 .aa ((0:Int)≤3)<|
 let y3:=(Vn y2)
 .ite ((!y3.2)==false) (
 let y4:=y3.1
 .ite (y4.2.2.2.2.2.2.2.2.2.2.1==true) (
 let y5:=(ae (av .u8 (a9 .u8 y0.1 3) 1) 1)
 .ite (!y5) (
 let y6:jm:=(0,(0,(0,(0,(0,(0,(false,0)))))))
 let y7:VO:=((0,(0,(0,(y6,(y6,(0,0)))))),80)
 .ret (.inr y7)) (
 .ret (.inl (.h2 y5 v23 y4)))) (
 let y8:=(ae (av .u8 (a9 .u8 y0.1 3) 1) 1)
 .ret (.inl (.h2 y8 v23 y4)))) (
 let y9:jm:=(0,(0,(0,(0,(0,(0,(false,0)))))))
 let y10:VO:=((0,(0,(0,(y9,(y9,(0,0)))))),80)
 .ret (.inr y10))
 | .h2 v1 v23 v29=>
 let y0:Int:=v29.2.2.2.2.2.2.2.2.1
 .aa (Hj y0)<|
 .ite (!(NY y0)) (
 let y1:Int:=v23.2.2.2.2.2
 .aa ((0:Int)≤y1)<|
 let y2:Nat:=(y1).toNat
 .aa ((y2:Nat)≤x.length)<|
 let y3:Kl:=(v23,(v29,(x.drop y2)))
 .aa (MO y3)<|
 .both (
 let y4:=(Rd y3)
 let y5:=y4.2
 let y6:=y5.2
 let y7:=(!y6.2)
 .ite y7 (
 let y8:jm:=(0,(0,(0,(0,(0,(0,(false,0)))))))
 let y9:VO:=((0,(0,(0,(y8,(y8,(0,0)))))),80)
 .ret (.inr y9)) (
 let y10:=y6.1
 let y11:=y4.1
 let y12:=y5.1
 .ret (.inl (.h3 v1 y1 y10 v23 v29 y11 y12)))) (
 let y13:=(Rd y3)
 let y14:=y13.2
 let y15:=y14.2
 let y16:=(!y15.2)
 .ite y16 (
 let y17:jm:=(0,(0,(0,(0,(0,(0,(false,0)))))))
 let y18:VO:=((0,(0,(0,(y17,(y17,(0,0)))))),80)
 .ret (.inr y18)) (
 let y19:=y15.1
 let y20:=y13.1
 let y21:=y14.1
 .ret (.inl (.h3 v1 y1 y19 v23 v29 y20 y21))))) (
 let y22:Int:=v23.2.2.2.2.2
 let y23:jm:=(0,(0,(0,(0,(0,(0,(false,0)))))))
 .ret (.inl (.h4 v1 y22 v23 v29 y23 y23)))
 | .h3 v1 v2 v3 v25 v31 v61 v69=>
 .ret (.inl (.h4 v1 (aJ .i64 v2 v3) v25 v31 v61 v69))
 | .h4 v1 v2 v24 v30 v44 v52=>
 .ite (bd (eG .i64 (x.length:Int) v2) v30.2.2.2.2.2.2.2.2.2.1) (
 let y0:jm:=(0,(0,(0,(0,(0,(0,(false,0)))))))
 .ret (.inr ((0,(0,(0,(y0,(y0,(0,0)))))),80))) (
 .ret (.inl (.h5 v1 v2 v24 v30 v44 v52)))
 | .h5 v1 v2 v24 v30 v44 v52=>
 let y0:Tj:=v30.2.2.2.2.2
 let y1:=y0.2
 let y2:=y1.2.1
 .ite (ae y2 0) (
 .ite v1 (
 let y3:=y0.1
 let y4:=y1.1
 .ret (.inl (.h6 v2 v24 v30 v44 v52 y3 y4 8))) (
 let y5:=y0.1
 let y6:=y1.1
 .ret (.inl (.h6 v2 v24 v30 v44 v52 y5 y6 4)))) (
 let y7:=y0.1
 let y8:=y1.1
 .ret (.inl (.h6 v2 v24 v30 v44 v52 y7 y8 y2)))
 | .h6 v1 v23 v29 v43 v51 v59 v60 v61=>
 .aa ((0:Int)≤v1)<|
 .aa (((v1).toNat:Nat)≤x.length)<|
 let y0:(DF×ai):=(v29,(x.drop (v1).toNat))
 .aa (Hi y0)<|
 let y1:B2:=v23.2.2
 let y2:Int:=(aJ .i64 (af .i64 (av .u8 y1.2.2.1 7)) (cX .i64 (af .i64 (av .u8 y1.1 1)) 8))
 .aa (sX y2)<|
 let y3:jm:=(0,(0,(0,(0,(0,(0,(false,0)))))))
 let y4:=(Rb y0)
 let y5:(Y0×(DF×(DO×(DO×(DO×Int))))):=((v59,(v60,(v61,(y3,(y3,(0,0)))))),(v29,(v43,(v51,((tP y2),y4)))))
 .aa (Hh y5)<|
 .ite (ae v29.2.2.2.2.2.1 39) (
 let y6:=(NW y5)
 let y7:=y6.2
 let y8:=y7.2
 let y9:=y8.2
 let y10:=y9.2
 .ret (.inl (.h7 v1 v29 (y6.1,(y7.1,(y8.1,(y9.1,(y10.1,((af .u8 y4),y10.2.2))))))))) (
 let y11:=(NW y5)
 .ret (.inl (.h7 v1 v29 y11)))
 | .h7 v0 v22 v36=>
 let y0:EZ:=v36.2.2
 let y1:=y0.2
 let y2:=y1.2
 .ret (.inr ((v36.1,(v36.2.1,(y0.1,(y1.1,(y2.1,(y2.2.1,(aJ .i64 v0 v22.2.2.2.2.2.2.2.2.2.1))))))),0))
noncomputable def lM:aG:=.cell true 28 (.agg [1,1,1,8,8,1,1] [(.int .u8 0),(.int .u8 0),(.int .i64 0),(.agg [1,1,1,1,1,1,1,1] [(.int .u8 0),(.int .i64 0),(.int .i64 0),(.int .i64 0),(.int .i64 0),(.int .i64 0),(.bool false),(.int .i64 0)]),(.agg [1,1,1,1,1,1,1,1] [(.int .u8 0),(.int .i64 0),(.int .i64 0),(.int .i64 0),(.int .i64 0),(.int .i64 0),(.bool false),(.int .i64 0)]),(.int .u8 0),(.int .i64 0)])
noncomputable def Ij:aG:=.cell true 26 (.agg [1,1,1,1,1,1,1,1] [(.int .u8 0),(.int .i64 0),(.int .i64 0),(.int .i64 0),(.int .i64 0),(.int .i64 0),(.bool false),(.int .i64 0)])
noncomputable def X9 (x:ai):J5→Head
 | .h0 v22=>
 {fr:={id:=5,kind:=.top,T:=[(.dA (.int .u8) x),.any,(.ptr 0 []),.any,(.ptr 1 [])]++List.replicate 144 .any,items:=[.code (aH [1,1,1,0] (ah Tryz.f5)),.code (aH [1,1,1,1] (ah Tryz.f5))],D:=[],base:=0},
  aF:=[],
  H:=[lM,.cell true 47 (.agg [1,1,1,1,1,1] [(.int .u8 v22.1),(.bool v22.2.1),(.int .u8 v22.2.2.1),(.int .u8 v22.2.2.2.1),(.int .u8 v22.2.2.2.2.1),(.int .i64 v22.2.2.2.2.2)])]}
 | .h1 v1 v23=>
 {fr:={id:=5,kind:=.top,T:=[(.dA (.int .u8) x),.any,(.ptr 0 []),.any,(.ptr 1 []),.any,(.int .i64 v1)]++List.replicate 142 .any,items:=[.code (aH [1,1,1,1,1,0] (ah Tryz.f5)),.code (aH [1,1,1,1,1,1] (ah Tryz.f5))],D:=[],base:=0},
  aF:=[],
  H:=[lM,.cell true 47 (.agg [1,1,1,1,1,1] [(.int .u8 v23.1),(.bool v23.2.1),(.int .u8 v23.2.2.1),(.int .u8 v23.2.2.2.1),(.int .u8 v23.2.2.2.2.1),(.int .i64 v23.2.2.2.2.2)])]}
 | .h2 v1 v23 v29=>
 {fr:={id:=5,kind:=.top,T:=[(.dA (.int .u8) x),.any,(.ptr 0 []),.any,(.ptr 1 []),.any,.any,(.ptr 2 []),(.bool v1)]++List.replicate 140 .any,items:=[.code (aH [1,1,1,1,1,1,1,1,0] (ah Tryz.f5)),.code (aH [1,1,1,1,1,1,1,1,1] (ah Tryz.f5))],D:=[],base:=0},
  aF:=[],
  H:=[lM,.cell true 47 (.agg [1,1,1,1,1,1] [(.int .u8 v23.1),(.bool v23.2.1),(.int .u8 v23.2.2.1),(.int .u8 v23.2.2.2.1),(.int .u8 v23.2.2.2.2.1),(.int .i64 v23.2.2.2.2.2)]),.cell true 52 (.agg [1,1,1,1,1,1,1,1,1,1,1,1,1,1] [(.int .u8 v29.1),(.int .u8 v29.2.1),(.int .u8 v29.2.2.1),(.bool v29.2.2.2.1),(.int .i64 v29.2.2.2.2.1),(.int .u8 v29.2.2.2.2.2.1),(.int .u8 v29.2.2.2.2.2.2.1),(.int .i64 v29.2.2.2.2.2.2.2.1),(.int .u8 v29.2.2.2.2.2.2.2.2.1),(.int .i64 v29.2.2.2.2.2.2.2.2.2.1),(.bool v29.2.2.2.2.2.2.2.2.2.2.1),(.bool v29.2.2.2.2.2.2.2.2.2.2.2.1),(.bool v29.2.2.2.2.2.2.2.2.2.2.2.2.1),(.bool v29.2.2.2.2.2.2.2.2.2.2.2.2.2)])]}
 | .h3 v1 v2 v3 v25 v31 v61 v69=>
 {fr:={id:=5,kind:=.top,T:=[(.dA (.int .u8) x),.any,(.ptr 0 []),.any,(.ptr 1 []),.any,.any,(.ptr 2 []),(.bool v1),(.ptr 3 []),(.ptr 4 []),(.int .i64 v2),(.ptr 5 []),(.ptr 6 []),(.int .i64 v3)]++List.replicate 134 .any,items:=[.code (aH [1,1,1,1,1,1,1,1,1,1,0,1,0,1,1,0] (ah Tryz.f5)),.code (aH [1,1,1,1,1,1,1,1,1,1,0,1,0,1,1,1] (ah Tryz.f5)),.code (aH [1,1,1,1,1,1,1,1,1,1,1] (ah Tryz.f5))],D:=[],base:=0},
  aF:=[],
  H:=[lM,.cell true 47 (.agg [1,1,1,1,1,1] [(.int .u8 v25.1),(.bool v25.2.1),(.int .u8 v25.2.2.1),(.int .u8 v25.2.2.2.1),(.int .u8 v25.2.2.2.2.1),(.int .i64 v25.2.2.2.2.2)]),.cell true 52 (.agg [1,1,1,1,1,1,1,1,1,1,1,1,1,1] [(.int .u8 v31.1),(.int .u8 v31.2.1),(.int .u8 v31.2.2.1),(.bool v31.2.2.2.1),(.int .i64 v31.2.2.2.2.1),(.int .u8 v31.2.2.2.2.2.1),(.int .u8 v31.2.2.2.2.2.2.1),(.int .i64 v31.2.2.2.2.2.2.2.1),(.int .u8 v31.2.2.2.2.2.2.2.2.1),(.int .i64 v31.2.2.2.2.2.2.2.2.2.1),(.bool v31.2.2.2.2.2.2.2.2.2.2.1),(.bool v31.2.2.2.2.2.2.2.2.2.2.2.1),(.bool v31.2.2.2.2.2.2.2.2.2.2.2.2.1),(.bool v31.2.2.2.2.2.2.2.2.2.2.2.2.2)]),Ij,Ij,.cell true 26 (.agg [1,1,1,1,1,1,1,1] [(.int .u8 v61.1),(.int .i64 v61.2.1),(.int .i64 v61.2.2.1),(.int .i64 v61.2.2.2.1),(.int .i64 v61.2.2.2.2.1),(.int .i64 v61.2.2.2.2.2.1),(.bool v61.2.2.2.2.2.2.1),(.int .i64 v61.2.2.2.2.2.2.2)]),.cell true 26 (.agg [1,1,1,1,1,1,1,1] [(.int .u8 v69.1),(.int .i64 v69.2.1),(.int .i64 v69.2.2.1),(.int .i64 v69.2.2.2.1),(.int .i64 v69.2.2.2.2.1),(.int .i64 v69.2.2.2.2.2.1),(.bool v69.2.2.2.2.2.2.1),(.int .i64 v69.2.2.2.2.2.2.2)])]}
 | .h4 v1 v2 v24 v30 v44 v52=>
 {fr:={id:=5,kind:=.top,T:=[(.dA (.int .u8) x),.any,(.ptr 0 []),.any,(.ptr 1 []),.any,.any,(.ptr 2 []),(.bool v1),(.ptr 3 []),(.ptr 4 []),(.int .i64 v2)]++List.replicate 137 .any,items:=[.code (aH [1,1,1,1,1,1,1,1,1,1,1,0,0] (ah Tryz.f5)),.code (aH [1,1,1,1,1,1,1,1,1,1,1,0,1] (ah Tryz.f5)),.code (aH [1,1,1,1,1,1,1,1,1,1,1,1] (ah Tryz.f5))],D:=[],base:=0},
  aF:=[],
  H:=[lM,.cell true 47 (.agg [1,1,1,1,1,1] [(.int .u8 v24.1),(.bool v24.2.1),(.int .u8 v24.2.2.1),(.int .u8 v24.2.2.2.1),(.int .u8 v24.2.2.2.2.1),(.int .i64 v24.2.2.2.2.2)]),.cell true 52 (.agg [1,1,1,1,1,1,1,1,1,1,1,1,1,1] [(.int .u8 v30.1),(.int .u8 v30.2.1),(.int .u8 v30.2.2.1),(.bool v30.2.2.2.1),(.int .i64 v30.2.2.2.2.1),(.int .u8 v30.2.2.2.2.2.1),(.int .u8 v30.2.2.2.2.2.2.1),(.int .i64 v30.2.2.2.2.2.2.2.1),(.int .u8 v30.2.2.2.2.2.2.2.2.1),(.int .i64 v30.2.2.2.2.2.2.2.2.2.1),(.bool v30.2.2.2.2.2.2.2.2.2.2.1),(.bool v30.2.2.2.2.2.2.2.2.2.2.2.1),(.bool v30.2.2.2.2.2.2.2.2.2.2.2.2.1),(.bool v30.2.2.2.2.2.2.2.2.2.2.2.2.2)]),.cell true 26 (.agg [1,1,1,1,1,1,1,1] [(.int .u8 v44.1),(.int .i64 v44.2.1),(.int .i64 v44.2.2.1),(.int .i64 v44.2.2.2.1),(.int .i64 v44.2.2.2.2.1),(.int .i64 v44.2.2.2.2.2.1),(.bool v44.2.2.2.2.2.2.1),(.int .i64 v44.2.2.2.2.2.2.2)]),.cell true 26 (.agg [1,1,1,1,1,1,1,1] [(.int .u8 v52.1),(.int .i64 v52.2.1),(.int .i64 v52.2.2.1),(.int .i64 v52.2.2.2.1),(.int .i64 v52.2.2.2.2.1),(.int .i64 v52.2.2.2.2.2.1),(.bool v52.2.2.2.2.2.2.1),(.int .i64 v52.2.2.2.2.2.2.2)])]}
 | .h5 v1 v2 v24 v30 v44 v52=>
 {fr:={id:=5,kind:=.top,T:=[(.dA (.int .u8) x),.any,(.ptr 0 []),.any,(.ptr 1 []),.any,.any,(.ptr 2 []),(.bool v1),(.ptr 3 []),(.ptr 4 []),(.int .i64 v2)]++List.replicate 137 .any,items:=[.code (aH [1,1,1,1,1,1,1,1,1,1,1,1,0] (ah Tryz.f5)),.code (aH [1,1,1,1,1,1,1,1,1,1,1,1,1] (ah Tryz.f5))],D:=[],base:=0},
  aF:=[],
  H:=[lM,.cell true 47 (.agg [1,1,1,1,1,1] [(.int .u8 v24.1),(.bool v24.2.1),(.int .u8 v24.2.2.1),(.int .u8 v24.2.2.2.1),(.int .u8 v24.2.2.2.2.1),(.int .i64 v24.2.2.2.2.2)]),.cell true 52 (.agg [1,1,1,1,1,1,1,1,1,1,1,1,1,1] [(.int .u8 v30.1),(.int .u8 v30.2.1),(.int .u8 v30.2.2.1),(.bool v30.2.2.2.1),(.int .i64 v30.2.2.2.2.1),(.int .u8 v30.2.2.2.2.2.1),(.int .u8 v30.2.2.2.2.2.2.1),(.int .i64 v30.2.2.2.2.2.2.2.1),(.int .u8 v30.2.2.2.2.2.2.2.2.1),(.int .i64 v30.2.2.2.2.2.2.2.2.2.1),(.bool v30.2.2.2.2.2.2.2.2.2.2.1),(.bool v30.2.2.2.2.2.2.2.2.2.2.2.1),(.bool v30.2.2.2.2.2.2.2.2.2.2.2.2.1),(.bool v30.2.2.2.2.2.2.2.2.2.2.2.2.2)]),.cell true 26 (.agg [1,1,1,1,1,1,1,1] [(.int .u8 v44.1),(.int .i64 v44.2.1),(.int .i64 v44.2.2.1),(.int .i64 v44.2.2.2.1),(.int .i64 v44.2.2.2.2.1),(.int .i64 v44.2.2.2.2.2.1),(.bool v44.2.2.2.2.2.2.1),(.int .i64 v44.2.2.2.2.2.2.2)]),.cell true 26 (.agg [1,1,1,1,1,1,1,1] [(.int .u8 v52.1),(.int .i64 v52.2.1),(.int .i64 v52.2.2.1),(.int .i64 v52.2.2.2.1),(.int .i64 v52.2.2.2.2.1),(.int .i64 v52.2.2.2.2.2.1),(.bool v52.2.2.2.2.2.2.1),(.int .i64 v52.2.2.2.2.2.2.2)])]}
 | .h6 v1 v23 v29 v43 v51 v59 v60 v61=>
 {fr:={id:=5,kind:=.top,T:=[(.dA (.int .u8) x),.any,(.ptr 0 []),.any,(.ptr 1 []),.any,.any,(.ptr 2 []),.any,(.ptr 3 []),(.ptr 4 []),(.int .i64 v1)]++List.replicate 4 .any++[(.ptr 5 [])]++List.replicate 132 .any,items:=[.code (aH [1,1,1,1,1,1,1,1,1,1,1,1,1,1,0] (ah Tryz.f5)),.code (aH [1,1,1,1,1,1,1,1,1,1,1,1,1,1,1] (ah Tryz.f5))],D:=[],base:=0},
  aF:=[],
  H:=[lM,.cell true 47 (.agg [1,1,1,1,1,1] [(.int .u8 v23.1),(.bool v23.2.1),(.int .u8 v23.2.2.1),(.int .u8 v23.2.2.2.1),(.int .u8 v23.2.2.2.2.1),(.int .i64 v23.2.2.2.2.2)]),.cell true 52 (.agg [1,1,1,1,1,1,1,1,1,1,1,1,1,1] [(.int .u8 v29.1),(.int .u8 v29.2.1),(.int .u8 v29.2.2.1),(.bool v29.2.2.2.1),(.int .i64 v29.2.2.2.2.1),(.int .u8 v29.2.2.2.2.2.1),(.int .u8 v29.2.2.2.2.2.2.1),(.int .i64 v29.2.2.2.2.2.2.2.1),(.int .u8 v29.2.2.2.2.2.2.2.2.1),(.int .i64 v29.2.2.2.2.2.2.2.2.2.1),(.bool v29.2.2.2.2.2.2.2.2.2.2.1),(.bool v29.2.2.2.2.2.2.2.2.2.2.2.1),(.bool v29.2.2.2.2.2.2.2.2.2.2.2.2.1),(.bool v29.2.2.2.2.2.2.2.2.2.2.2.2.2)]),.cell true 26 (.agg [1,1,1,1,1,1,1,1] [(.int .u8 v43.1),(.int .i64 v43.2.1),(.int .i64 v43.2.2.1),(.int .i64 v43.2.2.2.1),(.int .i64 v43.2.2.2.2.1),(.int .i64 v43.2.2.2.2.2.1),(.bool v43.2.2.2.2.2.2.1),(.int .i64 v43.2.2.2.2.2.2.2)]),.cell true 26 (.agg [1,1,1,1,1,1,1,1] [(.int .u8 v51.1),(.int .i64 v51.2.1),(.int .i64 v51.2.2.1),(.int .i64 v51.2.2.2.1),(.int .i64 v51.2.2.2.2.1),(.int .i64 v51.2.2.2.2.2.1),(.bool v51.2.2.2.2.2.2.1),(.int .i64 v51.2.2.2.2.2.2.2)]),.cell true 28 (.agg [1,1,1,8,8,1,1] [(.int .u8 v59),(.int .u8 v60),(.int .i64 v61),(.agg [1,1,1,1,1,1,1,1] [(.int .u8 0),(.int .i64 0),(.int .i64 0),(.int .i64 0),(.int .i64 0),(.int .i64 0),(.bool false),(.int .i64 0)]),(.agg [1,1,1,1,1,1,1,1] [(.int .u8 0),(.int .i64 0),(.int .i64 0),(.int .i64 0),(.int .i64 0),(.int .i64 0),(.bool false),(.int .i64 0)]),(.int .u8 0),(.int .i64 0)])]}
 | .h7 v0 v22 v36=>
 {fr:={id:=5,kind:=.top,T:=[.any,.any,(.ptr 0 [])]++List.replicate 4 .any++[(.ptr 1 []),.any,.any,.any,(.int .i64 v0)]++List.replicate 4 .any++[(.ptr 2 [])]++List.replicate 132 .any,items:=[.code (aH [1,1,1,1,1,1,1,1,1,1,1,1,1,1,1,1,1,1,0] (ah Tryz.f5)),.code (aH [1,1,1,1,1,1,1,1,1,1,1,1,1,1,1,1,1,1,1] (ah Tryz.f5))],D:=[],base:=0},
  aF:=[],
  H:=[lM,.cell true 52 (.agg [1,1,1,1,1,1,1,1,1,1,1,1,1,1] [(.int .u8 v22.1),(.int .u8 v22.2.1),(.int .u8 v22.2.2.1),(.bool v22.2.2.2.1),(.int .i64 v22.2.2.2.2.1),(.int .u8 v22.2.2.2.2.2.1),(.int .u8 v22.2.2.2.2.2.2.1),(.int .i64 v22.2.2.2.2.2.2.2.1),(.int .u8 v22.2.2.2.2.2.2.2.2.1),(.int .i64 v22.2.2.2.2.2.2.2.2.2.1),(.bool v22.2.2.2.2.2.2.2.2.2.2.1),(.bool v22.2.2.2.2.2.2.2.2.2.2.2.1),(.bool v22.2.2.2.2.2.2.2.2.2.2.2.2.1),(.bool v22.2.2.2.2.2.2.2.2.2.2.2.2.2)]),.cell true 28 (.agg [1,1,1,8,8,1,1] [(.int .u8 v36.1),(.int .u8 v36.2.1),(.int .i64 v36.2.2.1),(.agg [1,1,1,1,1,1,1,1] [(.int .u8 v36.2.2.2.1.1),(.int .i64 v36.2.2.2.1.2.1),(.int .i64 v36.2.2.2.1.2.2.1),(.int .i64 v36.2.2.2.1.2.2.2.1),(.int .i64 v36.2.2.2.1.2.2.2.2.1),(.int .i64 v36.2.2.2.1.2.2.2.2.2.1),(.bool v36.2.2.2.1.2.2.2.2.2.2.1),(.int .i64 v36.2.2.2.1.2.2.2.2.2.2.2)]),(.agg [1,1,1,1,1,1,1,1] [(.int .u8 v36.2.2.2.2.1.1),(.int .i64 v36.2.2.2.2.1.2.1),(.int .i64 v36.2.2.2.2.1.2.2.1),(.int .i64 v36.2.2.2.2.1.2.2.2.1),(.int .i64 v36.2.2.2.2.1.2.2.2.2.1),(.int .i64 v36.2.2.2.2.1.2.2.2.2.2.1),(.bool v36.2.2.2.2.1.2.2.2.2.2.2.1),(.int .i64 v36.2.2.2.2.1.2.2.2.2.2.2.2)]),(.int .u8 v36.2.2.2.2.2.1),(.int .i64 v36.2.2.2.2.2.2)])]}
noncomputable def Wa:FuncId→Nat→Nat→Option Cut
 | 5,9,0=>some {tmps:=[0,2,4],loops:=[],dead:=[],aF:=[]}
 | 5,15,0=>some {tmps:=[0,2,4,6],loops:=[],dead:=[],aF:=[]}
 | 5,23,0=>some {tmps:=[0,2,4,7,8],loops:=[],dead:=[],aF:=[]}
 | 5,35,0=>some {tmps:=[0,2,4,7,8,9,10,11,12,13,14],loops:=[],dead:=[],aF:=[]}
 | 5,39,0=>some {tmps:=[0,2,4,7,8,9,10,11],loops:=[],dead:=[],aF:=[]}
 | 5,43,0=>some {tmps:=[0,2,4,7,8,9,10,11],loops:=[],dead:=[],aF:=[]}
 | 5,53,0=>some {tmps:=[0,2,4,7,9,10,11,16],loops:=[],dead:=[],aF:=[]}
 | 5,63,0=>some {tmps:=[2,7,11,16],loops:=[],dead:=[],aF:=[]}
 | _,_,_=>none
noncomputable def YG (x):=dq (TC.gN (.st bw (.a7 (.int .i64)))) (gH x) (BU x)
def Qb (x):=∃ r,Ends (gH x) r (BU x)
noncomputable def R7:Spec:={dg:=(.a7 (.slice (.int .u8))),bG:=(.st bw (.a7 (.int .i64))),n:=2,pre:=Qb,f:=YG}
theorem ok5:au aT 5 R7:=o7 Tryz.f5 [(13,La),(14,K9),(15,K8),(16,K7),(17,K6),(18,r5),(19,K5)] ⟨aa2,aa1,aa0,Z9,Z8,M8,Z7,trivial⟩ BU gH X9 Wa
inductive RZ where
 | h0 (v1:Int) (v2:ai)
noncomputable def oK (_x:Int):Tr (RZ⊕Int):=
 .aa ((0:Nat) < 8)<|
 .aa ((1:Nat) < 8)<|
 .aa ((2:Nat) < 8)<|
 .aa ((3:Nat) < 8)<|
 .aa ((4:Nat) < 8)<|
 .aa ((5:Nat) < 8)<|
 .aa ((6:Nat) < 8)<|
 .aa ((7:Nat) < 8)<|
 .ret (.inl (.h0 0 [3,4,5,6,7,8,9,10]))
noncomputable def gy (x:Int):RZ→Tr (RZ⊕Int)
 | .h0 v1 v2=>
 .ite (bd v1 8) (
 .aa ((0:Int)≤v1)<|
 .aa ((v1:Int) < 8)<|
 .aa (((v1).toNat:Nat) < 8)<|
 .ite (ae (eX (.int .u8) v2 (v1).toNat) x) (
 .ret (.inr v1)) (
 .ret (.inl (.h0 (aJ .i64 v1 1) v2)))) (
 .ret (.inr (-1)))
noncomputable def QB (x:Int):RZ→Head
 | .h0 v1 v2=>
 {fr:={id:=115,kind:=.top,T:=[(.int .u8 x),.any,.any,(.ptr 0 []),(.int .i64 v1)]++List.replicate 11 .any,items:=[.lp (aH [1,1,0,1,0,0] (ah Tryz.f115)),.bB 0,.code (aH [1,1,1] (ah Tryz.f115))],D:=[],base:=0},
  aF:=[],
  H:=[.cell true 136 (.arr 8 (.int .u8) v2)]}
noncomputable def PJ:FuncId→Nat→Nat→Option Cut
 | 115,0,0=>some {tmps:=[0,3,4],loops:=[],dead:=[],aF:=[]}
 | _,_,_=>none
noncomputable def pH (x):=dq (TC.gN (.int .i64)) (gy x) (oK x)
def Fq (x):=∃ r,Ends (gy x) r (oK x)
noncomputable def GK:Spec:={dg:=(.a7 (.int .u8)),bG:=(.int .i64),n:=1,pre:=Fq,f:=pH}
theorem XS:au aT 115 GK:=o7 Tryz.f115 [] trivial oK gy QB PJ
noncomputable def ua (x:Int):Tr Int:=
 .ite (ae x 12) (
 .ret 0) (
 .ite (ae x 19) (
 .ret 0) (
 .ite (ae x 13) (
 .ret 1) (
 .ite (ae x 20) (
 .ret 1) (
 .ite (ae x 15) (
 .ret 2) (
 .ite (ae x 14) (
 .ret 3) (
 .ite (ae x 22) (
 .ret 4) (
 .ite (ae x 16) (
 .ret 4) (
 .ite (ae x 17) (
 .ret 5) (
 .ite (ae x 23) (
 .ret 6) (
 .ite (ae x 18) (
 .ret 7) (
 .ret (-1))))))))))))
noncomputable def jR (x):=(ua x).val
def AM (x):=(ua x).ok
noncomputable def GJ:Spec:={dg:=(.a7 (.int .u8)),bG:=(.int .i64),n:=1,pre:=AM,f:=jR}
theorem XQ:au aT 116 GJ:=iO Tryz.f116 [] trivial ua
noncomputable def iD (x:Int):Tr k8:=
 .aa (Fq x)<|
 .aa (AM x)<|
 .ite (ae x 1) (
 .aa ((0:Nat) < 1)<|
 .aa ((0:Nat) < 1)<|
 .aa ((0:Nat) < 1)<|
 .aa ((0:Nat) < 1)<|
 .aa ((0:Nat) < 1)<|
 .aa ((0:Nat) < 1)<|
 .aa ((0:Nat) < 1)<|
 .aa (((0:Nat)+1:Nat)≤1)<|
 .aa (((0:Nat)+1:Nat)≤1)<|
 .aa (((0:Nat)+1:Nat)≤1)<|
 .aa (((0:Nat)+1:Nat)≤1)<|
 .aa (((0:Nat)+1:Nat)≤1)<|
 .aa (((0:Nat)+1:Nat)≤1)<|
 .aa (((0:Nat)+1:Nat)≤1)<|
 .aa ((0:Nat) < 7)<|
 .aa ((1:Nat) < 7)<|
 .aa ((2:Nat) < 7)<|
 .aa ((3:Nat) < 7)<|
 .aa ((4:Nat) < 7)<|
 .aa ((5:Nat) < 7)<|
 .aa ((6:Nat) < 7)<|
 .aa (((0:Nat)+7:Nat)≤7)<|
 let y0:bt:=(1,0)
 let y1:dC:=((-1),y0)
 let y2:dC:=((-1),(2,0))
 let y3:bt:=(1,1)
 let y4:bt:=(1,4)
 let y5:dC:=(0,y4)
 .ret [(1,((ByteArray.mk #[114,109]),((ByteArray.mk #[114]),(0,([136],y1))))),(1,((ByteArray.mk #[114]),((ByteArray.mk #[109]),(0,([138],y2))))),(1,((ByteArray.mk #[114,109]),((ByteArray.mk #[105,56]),(0,([198],(0,y3)))))),(4,((ByteArray.mk #[114,109]),((ByteArray.mk #[114]),(0,([137],y1))))),(4,((ByteArray.mk #[114]),((ByteArray.mk #[109]),(0,([139],y2))))),(4,((ByteArray.mk #[114,109]),((ByteArray.mk #[105,51,50]),(0,([199],y5))))),(8,((ByteArray.mk #[114]),((ByteArray.mk #[105,54,52]),(0,([184],(0,(3,8)))))))]) (
 .ite (ae x 2) (
 .aa ((0:Nat) < 1)<|
 .aa (((0:Nat)+1:Nat)≤1)<|
 .aa ((0:Nat) < 1)<|
 .aa (((0:Nat)+1:Nat)≤1)<|
 let y6:dC:=((-1),(2,0))
 .ret [(4,((ByteArray.mk #[114]),((ByteArray.mk #[109]),(0,([141],y6)))))]) (
 .ite (ae x 3) (
 .aa ((0:Nat) < 1)<|
 .aa ((0:Nat) < 1)<|
 .aa ((0:Nat) < 1)<|
 .aa ((0:Nat) < 1)<|
 .aa (((0:Nat)+1:Nat)≤1)<|
 .aa (((0:Nat)+1:Nat)≤1)<|
 .aa (((0:Nat)+1:Nat)≤1)<|
 .aa (((0:Nat)+1:Nat)≤1)<|
 .aa ((0:Nat) < 4)<|
 .aa ((1:Nat) < 4)<|
 .aa ((2:Nat) < 4)<|
 .aa ((3:Nat) < 4)<|
 .aa (((0:Nat)+4:Nat)≤4)<|
 let y7:Int:=(af .u8 (imax (pH x) 0))
 let y8:Int:=(cX .u8 8 y7)
 let y9:bt:=(1,0)
 let y10:dC:=((-1),y9)
 let y11:dC:=((-1),(2,0))
 let y12:Int:=(af .i64 y7)
 let y13:bt:=(1,1)
 let y14:bt:=(1,4)
 let y15:k8:=[(4,((ByteArray.mk #[114,109]),((ByteArray.mk #[114]),(0,([(aJ .u8 y8 1)],y10))))),(4,((ByteArray.mk #[114]),((ByteArray.mk #[109]),(0,([(aJ .u8 y8 3)],y11))))),(4,((ByteArray.mk #[114,109]),((ByteArray.mk #[105,56]),(0,([131],(y12,y13)))))),(4,((ByteArray.mk #[114,109]),((ByteArray.mk #[105,51,50]),(0,([129],(y12,y14))))))]
 .ret y15) (
 .ite (ae x 4) (
 .aa ((0:Nat) < 1)<|
 .aa ((0:Nat) < 1)<|
 .aa ((0:Nat) < 1)<|
 .aa ((0:Nat) < 1)<|
 .aa (((0:Nat)+1:Nat)≤1)<|
 .aa (((0:Nat)+1:Nat)≤1)<|
 .aa (((0:Nat)+1:Nat)≤1)<|
 .aa (((0:Nat)+1:Nat)≤1)<|
 .aa ((0:Nat) < 4)<|
 .aa ((1:Nat) < 4)<|
 .aa ((2:Nat) < 4)<|
 .aa ((3:Nat) < 4)<|
 .aa (((0:Nat)+4:Nat)≤4)<|
 let y16:Int:=(af .u8 (imax (pH x) 0))
 let y17:Int:=(cX .u8 8 y16)
 let y18:bt:=(1,0)
 let y19:dC:=((-1),y18)
 let y20:dC:=((-1),(2,0))
 let y21:Int:=(af .i64 y16)
 let y22:bt:=(1,1)
 let y23:bt:=(1,4)
 let y24:k8:=[(4,((ByteArray.mk #[114,109]),((ByteArray.mk #[114]),(0,([(aJ .u8 y17 1)],y19))))),(4,((ByteArray.mk #[114]),((ByteArray.mk #[109]),(0,([(aJ .u8 y17 3)],y20))))),(4,((ByteArray.mk #[114,109]),((ByteArray.mk #[105,56]),(0,([131],(y21,y22)))))),(4,((ByteArray.mk #[114,109]),((ByteArray.mk #[105,51,50]),(0,([129],(y21,y23))))))]
 .ret y24) (
 .ite (ae x 5) (
 .aa ((0:Nat) < 1)<|
 .aa ((0:Nat) < 1)<|
 .aa ((0:Nat) < 1)<|
 .aa ((0:Nat) < 1)<|
 .aa (((0:Nat)+1:Nat)≤1)<|
 .aa (((0:Nat)+1:Nat)≤1)<|
 .aa (((0:Nat)+1:Nat)≤1)<|
 .aa (((0:Nat)+1:Nat)≤1)<|
 .aa ((0:Nat) < 4)<|
 .aa ((1:Nat) < 4)<|
 .aa ((2:Nat) < 4)<|
 .aa ((3:Nat) < 4)<|
 .aa (((0:Nat)+4:Nat)≤4)<|
 let y25:Int:=(af .u8 (imax (pH x) 0))
 let y26:Int:=(cX .u8 8 y25)
 let y27:bt:=(1,0)
 let y28:dC:=((-1),y27)
 let y29:dC:=((-1),(2,0))
 let y30:Int:=(af .i64 y25)
 let y31:bt:=(1,1)
 let y32:bt:=(1,4)
 let y33:k8:=[(4,((ByteArray.mk #[114,109]),((ByteArray.mk #[114]),(0,([(aJ .u8 y26 1)],y28))))),(4,((ByteArray.mk #[114]),((ByteArray.mk #[109]),(0,([(aJ .u8 y26 3)],y29))))),(4,((ByteArray.mk #[114,109]),((ByteArray.mk #[105,56]),(0,([131],(y30,y31)))))),(4,((ByteArray.mk #[114,109]),((ByteArray.mk #[105,51,50]),(0,([129],(y30,y32))))))]
 .ret y33) (
 .ite (ae x 6) (
 .aa ((0:Nat) < 1)<|
 .aa ((0:Nat) < 1)<|
 .aa ((0:Nat) < 1)<|
 .aa ((0:Nat) < 1)<|
 .aa (((0:Nat)+1:Nat)≤1)<|
 .aa (((0:Nat)+1:Nat)≤1)<|
 .aa (((0:Nat)+1:Nat)≤1)<|
 .aa (((0:Nat)+1:Nat)≤1)<|
 .aa ((0:Nat) < 4)<|
 .aa ((1:Nat) < 4)<|
 .aa ((2:Nat) < 4)<|
 .aa ((3:Nat) < 4)<|
 .aa (((0:Nat)+4:Nat)≤4)<|
 let y34:Int:=(af .u8 (imax (pH x) 0))
 let y35:Int:=(cX .u8 8 y34)
 let y36:bt:=(1,0)
 let y37:dC:=((-1),y36)
 let y38:dC:=((-1),(2,0))
 let y39:Int:=(af .i64 y34)
 let y40:bt:=(1,1)
 let y41:bt:=(1,4)
 let y42:k8:=[(4,((ByteArray.mk #[114,109]),((ByteArray.mk #[114]),(0,([(aJ .u8 y35 1)],y37))))),(4,((ByteArray.mk #[114]),((ByteArray.mk #[109]),(0,([(aJ .u8 y35 3)],y38))))),(4,((ByteArray.mk #[114,109]),((ByteArray.mk #[105,56]),(0,([131],(y39,y40)))))),(4,((ByteArray.mk #[114,109]),((ByteArray.mk #[105,51,50]),(0,([129],(y39,y41))))))]
 .ret y42) (
 .ite (ae x 7) (
 .aa ((0:Nat) < 1)<|
 .aa ((0:Nat) < 1)<|
 .aa ((0:Nat) < 1)<|
 .aa ((0:Nat) < 1)<|
 .aa (((0:Nat)+1:Nat)≤1)<|
 .aa (((0:Nat)+1:Nat)≤1)<|
 .aa (((0:Nat)+1:Nat)≤1)<|
 .aa (((0:Nat)+1:Nat)≤1)<|
 .aa ((0:Nat) < 4)<|
 .aa ((1:Nat) < 4)<|
 .aa ((2:Nat) < 4)<|
 .aa ((3:Nat) < 4)<|
 .aa (((0:Nat)+4:Nat)≤4)<|
 let y43:Int:=(af .u8 (imax (pH x) 0))
 let y44:Int:=(cX .u8 8 y43)
 let y45:bt:=(1,0)
 let y46:dC:=((-1),y45)
 let y47:dC:=((-1),(2,0))
 let y48:Int:=(af .i64 y43)
 let y49:bt:=(1,1)
 let y50:bt:=(1,4)
 let y51:k8:=[(4,((ByteArray.mk #[114,109]),((ByteArray.mk #[114]),(0,([(aJ .u8 y44 1)],y46))))),(4,((ByteArray.mk #[114]),((ByteArray.mk #[109]),(0,([(aJ .u8 y44 3)],y47))))),(4,((ByteArray.mk #[114,109]),((ByteArray.mk #[105,56]),(0,([131],(y48,y49)))))),(4,((ByteArray.mk #[114,109]),((ByteArray.mk #[105,51,50]),(0,([129],(y48,y50))))))]
 .ret y51) (
 .ite (ae x 8) (
 .aa ((0:Nat) < 1)<|
 .aa ((0:Nat) < 1)<|
 .aa ((0:Nat) < 1)<|
 .aa ((0:Nat) < 1)<|
 .aa (((0:Nat)+1:Nat)≤1)<|
 .aa (((0:Nat)+1:Nat)≤1)<|
 .aa (((0:Nat)+1:Nat)≤1)<|
 .aa (((0:Nat)+1:Nat)≤1)<|
 .aa ((0:Nat) < 4)<|
 .aa ((1:Nat) < 4)<|
 .aa ((2:Nat) < 4)<|
 .aa ((3:Nat) < 4)<|
 .aa (((0:Nat)+4:Nat)≤4)<|
 let y52:Int:=(af .u8 (imax (pH x) 0))
 let y53:Int:=(cX .u8 8 y52)
 let y54:bt:=(1,0)
 let y55:dC:=((-1),y54)
 let y56:dC:=((-1),(2,0))
 let y57:Int:=(af .i64 y52)
 let y58:bt:=(1,1)
 let y59:bt:=(1,4)
 let y60:k8:=[(4,((ByteArray.mk #[114,109]),((ByteArray.mk #[114]),(0,([(aJ .u8 y53 1)],y55))))),(4,((ByteArray.mk #[114]),((ByteArray.mk #[109]),(0,([(aJ .u8 y53 3)],y56))))),(4,((ByteArray.mk #[114,109]),((ByteArray.mk #[105,56]),(0,([131],(y57,y58)))))),(4,((ByteArray.mk #[114,109]),((ByteArray.mk #[105,51,50]),(0,([129],(y57,y59))))))]
 .ret y60) (
 .ite (ae x 9) (
 .aa ((0:Nat) < 1)<|
 .aa ((0:Nat) < 1)<|
 .aa ((0:Nat) < 1)<|
 .aa ((0:Nat) < 1)<|
 .aa (((0:Nat)+1:Nat)≤1)<|
 .aa (((0:Nat)+1:Nat)≤1)<|
 .aa (((0:Nat)+1:Nat)≤1)<|
 .aa (((0:Nat)+1:Nat)≤1)<|
 .aa ((0:Nat) < 4)<|
 .aa ((1:Nat) < 4)<|
 .aa ((2:Nat) < 4)<|
 .aa ((3:Nat) < 4)<|
 .aa (((0:Nat)+4:Nat)≤4)<|
 let y61:Int:=(af .u8 (imax (pH x) 0))
 let y62:Int:=(cX .u8 8 y61)
 let y63:bt:=(1,0)
 let y64:dC:=((-1),y63)
 let y65:dC:=((-1),(2,0))
 let y66:Int:=(af .i64 y61)
 let y67:bt:=(1,1)
 let y68:bt:=(1,4)
 let y69:k8:=[(4,((ByteArray.mk #[114,109]),((ByteArray.mk #[114]),(0,([(aJ .u8 y62 1)],y64))))),(4,((ByteArray.mk #[114]),((ByteArray.mk #[109]),(0,([(aJ .u8 y62 3)],y65))))),(4,((ByteArray.mk #[114,109]),((ByteArray.mk #[105,56]),(0,([131],(y66,y67)))))),(4,((ByteArray.mk #[114,109]),((ByteArray.mk #[105,51,50]),(0,([129],(y66,y68))))))]
 .ret y69) (
 .ite (ae x 10) (
 .aa ((0:Nat) < 1)<|
 .aa ((0:Nat) < 1)<|
 .aa ((0:Nat) < 1)<|
 .aa ((0:Nat) < 1)<|
 .aa (((0:Nat)+1:Nat)≤1)<|
 .aa (((0:Nat)+1:Nat)≤1)<|
 .aa (((0:Nat)+1:Nat)≤1)<|
 .aa (((0:Nat)+1:Nat)≤1)<|
 .aa ((0:Nat) < 4)<|
 .aa ((1:Nat) < 4)<|
 .aa ((2:Nat) < 4)<|
 .aa ((3:Nat) < 4)<|
 .aa (((0:Nat)+4:Nat)≤4)<|
 let y70:Int:=(af .u8 (imax (pH x) 0))
 let y71:Int:=(cX .u8 8 y70)
 let y72:bt:=(1,0)
 let y73:dC:=((-1),y72)
 let y74:dC:=((-1),(2,0))
 let y75:Int:=(af .i64 y70)
 let y76:bt:=(1,1)
 let y77:bt:=(1,4)
 let y78:k8:=[(4,((ByteArray.mk #[114,109]),((ByteArray.mk #[114]),(0,([(aJ .u8 y71 1)],y73))))),(4,((ByteArray.mk #[114]),((ByteArray.mk #[109]),(0,([(aJ .u8 y71 3)],y74))))),(4,((ByteArray.mk #[114,109]),((ByteArray.mk #[105,56]),(0,([131],(y75,y76)))))),(4,((ByteArray.mk #[114,109]),((ByteArray.mk #[105,51,50]),(0,([129],(y75,y77))))))]
 .ret y78) (
 .ite (ae x 11) (
 .aa ((0:Nat) < 1)<|
 .aa ((0:Nat) < 1)<|
 .aa (((0:Nat)+1:Nat)≤1)<|
 .aa (((0:Nat)+1:Nat)≤1)<|
 .aa ((0:Nat) < 2)<|
 .aa ((1:Nat) < 2)<|
 .aa (((0:Nat)+2:Nat)≤2)<|
 let y79:bt:=(1,0)
 let y80:dC:=((-1),y79)
 let y81:bt:=(1,4)
 let y82:dC:=(0,y81)
 .ret [(4,((ByteArray.mk #[114,109]),((ByteArray.mk #[114]),(0,([133],y80))))),(4,((ByteArray.mk #[114,109]),((ByteArray.mk #[105,51,50]),(0,([247],y82)))))]) (
 .ite (ae x 12) (
 .aa ((0:Nat) < 1)<|
 .aa (((0:Nat)+1:Nat)≤1)<|
 .aa ((0:Nat) < 1)<|
 .aa (((0:Nat)+1:Nat)≤1)<|
 let y83:bt:=(1,0)
 let y84:dC:=((jR x),y83)
 let y85:k8:=[(4,((ByteArray.mk #[114,109]),((ByteArray.mk #[45]),(0,([255],y84)))))]
 .ret y85) (
 .ite (ae x 13) (
 .aa ((0:Nat) < 1)<|
 .aa (((0:Nat)+1:Nat)≤1)<|
 .aa ((0:Nat) < 1)<|
 .aa (((0:Nat)+1:Nat)≤1)<|
 let y86:bt:=(1,0)
 let y87:dC:=((jR x),y86)
 let y88:k8:=[(4,((ByteArray.mk #[114,109]),((ByteArray.mk #[45]),(0,([255],y87)))))]
 .ret y88) (
 .ite (ae x 15) (
 .aa ((0:Nat) < 1)<|
 .aa (((0:Nat)+1:Nat)≤1)<|
 .aa ((0:Nat) < 1)<|
 .aa (((0:Nat)+1:Nat)≤1)<|
 let y89:bt:=(1,0)
 let y90:dC:=((jR x),y89)
 let y91:k8:=[(4,((ByteArray.mk #[114,109]),((ByteArray.mk #[45]),(0,([247],y90)))))]
 .ret y91) (
 .ite (ae x 14) (
 .aa ((0:Nat) < 1)<|
 .aa (((0:Nat)+1:Nat)≤1)<|
 .aa ((0:Nat) < 1)<|
 .aa (((0:Nat)+1:Nat)≤1)<|
 let y92:bt:=(1,0)
 let y93:dC:=((jR x),y92)
 let y94:k8:=[(4,((ByteArray.mk #[114,109]),((ByteArray.mk #[45]),(0,([247],y93)))))]
 .ret y94) (
 .ite (ae x 22) (
 .aa ((0:Nat) < 1)<|
 .aa (((0:Nat)+1:Nat)≤1)<|
 .aa ((0:Nat) < 1)<|
 .aa (((0:Nat)+1:Nat)≤1)<|
 let y95:bt:=(1,0)
 let y96:dC:=((jR x),y95)
 let y97:k8:=[(4,((ByteArray.mk #[114,109]),((ByteArray.mk #[45]),(0,([247],y96)))))]
 .ret y97) (
 .ite (ae x 23) (
 .aa ((0:Nat) < 1)<|
 .aa (((0:Nat)+1:Nat)≤1)<|
 .aa ((0:Nat) < 1)<|
 .aa (((0:Nat)+1:Nat)≤1)<|
 let y98:bt:=(1,0)
 let y99:dC:=((jR x),y98)
 let y100:k8:=[(4,((ByteArray.mk #[114,109]),((ByteArray.mk #[45]),(0,([247],y99)))))]
 .ret y100) (
 .ite (ae x 19) (
 .aa ((0:Nat) < 1)<|
 .aa ((0:Nat) < 1)<|
 .aa (((0:Nat)+1:Nat)≤1)<|
 .aa (((0:Nat)+1:Nat)≤1)<|
 .aa ((0:Nat) < 2)<|
 .aa ((1:Nat) < 2)<|
 .aa (((0:Nat)+2:Nat)≤2)<|
 let y101:bt:=(1,1)
 let y102:bt:=(1,0)
 let y103:dC:=((jR x),y102)
 let y104:k8:=[(4,((ByteArray.mk #[114,109]),((ByteArray.mk #[117,56]),(0,([193],((jR x),y101)))))),(4,((ByteArray.mk #[114,109]),((ByteArray.mk #[99,108]),(0,([211],y103)))))]
 .ret y104) (
 .ite (ae x 20) (
 .aa ((0:Nat) < 1)<|
 .aa ((0:Nat) < 1)<|
 .aa (((0:Nat)+1:Nat)≤1)<|
 .aa (((0:Nat)+1:Nat)≤1)<|
 .aa ((0:Nat) < 2)<|
 .aa ((1:Nat) < 2)<|
 .aa (((0:Nat)+2:Nat)≤2)<|
 let y105:bt:=(1,1)
 let y106:bt:=(1,0)
 let y107:dC:=((jR x),y106)
 let y108:k8:=[(4,((ByteArray.mk #[114,109]),((ByteArray.mk #[117,56]),(0,([193],((jR x),y105)))))),(4,((ByteArray.mk #[114,109]),((ByteArray.mk #[99,108]),(0,([211],y107)))))]
 .ret y108) (
 .ite (ae x 16) (
 .aa ((0:Nat) < 1)<|
 .aa ((0:Nat) < 1)<|
 .aa (((0:Nat)+1:Nat)≤1)<|
 .aa (((0:Nat)+1:Nat)≤1)<|
 .aa ((0:Nat) < 2)<|
 .aa ((1:Nat) < 2)<|
 .aa (((0:Nat)+2:Nat)≤2)<|
 let y109:bt:=(1,1)
 let y110:bt:=(1,0)
 let y111:dC:=((jR x),y110)
 let y112:k8:=[(4,((ByteArray.mk #[114,109]),((ByteArray.mk #[117,56]),(0,([193],((jR x),y109)))))),(4,((ByteArray.mk #[114,109]),((ByteArray.mk #[99,108]),(0,([211],y111)))))]
 .ret y112) (
 .ite (ae x 17) (
 .aa ((0:Nat) < 1)<|
 .aa ((0:Nat) < 1)<|
 .aa (((0:Nat)+1:Nat)≤1)<|
 .aa (((0:Nat)+1:Nat)≤1)<|
 .aa ((0:Nat) < 2)<|
 .aa ((1:Nat) < 2)<|
 .aa (((0:Nat)+2:Nat)≤2)<|
 let y113:bt:=(1,1)
 let y114:bt:=(1,0)
 let y115:dC:=((jR x),y114)
 let y116:k8:=[(4,((ByteArray.mk #[114,109]),((ByteArray.mk #[117,56]),(0,([193],((jR x),y113)))))),(4,((ByteArray.mk #[114,109]),((ByteArray.mk #[99,108]),(0,([211],y115)))))]
 .ret y116) (
 .ite (ae x 18) (
 .aa ((0:Nat) < 1)<|
 .aa ((0:Nat) < 1)<|
 .aa (((0:Nat)+1:Nat)≤1)<|
 .aa (((0:Nat)+1:Nat)≤1)<|
 .aa ((0:Nat) < 2)<|
 .aa ((1:Nat) < 2)<|
 .aa (((0:Nat)+2:Nat)≤2)<|
 let y117:bt:=(1,1)
 let y118:bt:=(1,0)
 let y119:dC:=((jR x),y118)
 let y120:k8:=[(4,((ByteArray.mk #[114,109]),((ByteArray.mk #[117,56]),(0,([193],((jR x),y117)))))),(4,((ByteArray.mk #[114,109]),((ByteArray.mk #[99,108]),(0,([211],y119)))))]
 .ret y120) (
 .ite (ae x 21) (
 .aa ((0:Nat) < 2)<|
 .aa ((1:Nat) < 2)<|
 .aa (((0:Nat)+2:Nat)≤2)<|
 .aa ((0:Nat) < 1)<|
 .aa (((0:Nat)+1:Nat)≤1)<|
 let y121:dC:=((-1),(2,0))
 .ret [(4,((ByteArray.mk #[114]),((ByteArray.mk #[114,109]),(0,([15,175],y121)))))]) (
 .ret ([]:List bh))))))))))))))))))))))))
noncomputable def mo (x):=(iD x).val
def G6 (x):=(iD x).ok
noncomputable def Kx:Spec:={dg:=(.a7 (.int .u8)),bG:=(.slice xu),n:=1,pre:=G6,f:=mo}
theorem ZB:au aT 91 Kx:=iO Tryz.f91 [(115,GK),(116,GJ)] ⟨XS,XQ,trivial⟩ iD
noncomputable def rY (x:bt):Tr k8:=
 .aa ((16:Int)≠0)<|
 .ite (ae x.1 24) (
 .aa ((0:Nat) < 1)<|
 .aa (((0:Nat)+1:Nat)≤1)<|
 .aa ((0:Nat) < 1)<|
 .aa (((0:Nat)+1:Nat)≤1)<|
 let y0:dC:=(0,(3,0))
 .ret [(16,((ByteArray.mk #[114]),((ByteArray.mk #[45]),(0,([80],y0)))))]) (
 .ite (ae x.1 25) (
 .aa ((0:Nat) < 1)<|
 .aa (((0:Nat)+1:Nat)≤1)<|
 .aa ((0:Nat) < 1)<|
 .aa (((0:Nat)+1:Nat)≤1)<|
 let y1:dC:=(0,(3,0))
 .ret [(16,((ByteArray.mk #[114]),((ByteArray.mk #[45]),(0,([88],y1)))))]) (
 .ite (ae x.1 26) (
 .aa ((0:Nat) < 1)<|
 .aa (((0:Nat)+1:Nat)≤1)<|
 .aa ((0:Nat) < 1)<|
 .aa (((0:Nat)+1:Nat)≤1)<|
 let y2:dC:=(0,(0,4))
 .ret [(16,((ByteArray.mk #[45]),((ByteArray.mk #[105,51,50]),(0,([232],y2)))))]) (
 .ite (ae x.1 28) (
 .aa ((0:Nat) < 1)<|
 .aa ((0:Nat) < 1)<|
 .aa (((0:Nat)+1:Nat)≤1)<|
 .aa (((0:Nat)+1:Nat)≤1)<|
 .aa ((0:Nat) < 2)<|
 .aa ((1:Nat) < 2)<|
 .aa (((0:Nat)+2:Nat)≤2)<|
 let y3:dC:=(0,(0,4))
 let y4:bt:=(1,0)
 .ret [(16,((ByteArray.mk #[45]),((ByteArray.mk #[105,51,50]),(0,([233],y3))))),(16,((ByteArray.mk #[114,109]),((ByteArray.mk #[45]),(0,([255],(4,y4))))))]) (
 .ite (ae x.1 29) (
 .aa ((0:Nat) < 2)<|
 .aa ((1:Nat) < 2)<|
 .aa (((0:Nat)+2:Nat)≤2)<|
 .aa ((0:Nat) < 1)<|
 .aa (((0:Nat)+1:Nat)≤1)<|
 let y5:Int:=(pf .u8 x.2 16)
 let y6:dC:=(0,(0,4))
 .ret [(16,((ByteArray.mk #[45]),((ByteArray.mk #[105,51,50]),(0,([15,(aJ .u8 128 y5)],y6)))))]) (
 .ite (ae x.1 27) (
 .aa ((0:Nat) < 1)<|
 .aa (((0:Nat)+1:Nat)≤1)<|
 .aa ((0:Nat) < 1)<|
 .aa (((0:Nat)+1:Nat)≤1)<|
 let y7:dC:=(0,(0,0))
 .ret [(16,((ByteArray.mk #[45]),((ByteArray.mk #[45]),(0,([195],y7)))))]) (
 .ite (ae x.1 34) (
 .aa ((0:Nat) < 1)<|
 .aa (((0:Nat)+1:Nat)≤1)<|
 .aa ((0:Nat) < 1)<|
 .aa (((0:Nat)+1:Nat)≤1)<|
 let y8:dC:=(0,(0,0))
 .ret [(16,((ByteArray.mk #[45]),((ByteArray.mk #[45]),(0,([144],y8)))))]) (
 .ite (ae x.1 30) (
 .aa ((0:Nat) < 2)<|
 .aa ((1:Nat) < 2)<|
 .aa (((0:Nat)+2:Nat)≤2)<|
 .aa ((0:Nat) < 1)<|
 .aa (((0:Nat)+1:Nat)≤1)<|
 let y9:Int:=(pf .u8 x.2 16)
 let y10:dC:=((-1),(2,0))
 .ret [(4,((ByteArray.mk #[114]),((ByteArray.mk #[114,109]),(0,([15,(aJ .u8 64 y9)],y10)))))]) (
 .ite (ae x.1 31) (
 .aa ((0:Nat) < 2)<|
 .aa ((1:Nat) < 2)<|
 .aa (((0:Nat)+2:Nat)≤2)<|
 .aa ((0:Nat) < 1)<|
 .aa (((0:Nat)+1:Nat)≤1)<|
 let y11:Int:=(pf .u8 x.2 16)
 let y12:bt:=(1,0)
 .ret [(1,((ByteArray.mk #[114,109]),((ByteArray.mk #[45]),(0,([15,(aJ .u8 144 y11)],(0,y12))))))]) (
 .ite (ae x.1 32) (
 .aa ((0:Nat) < 2)<|
 .aa ((1:Nat) < 2)<|
 .aa (((0:Nat)+2:Nat)≤2)<|
 .aa ((0:Nat) < 1)<|
 .aa (((0:Nat)+1:Nat)≤1)<|
 let y13:dC:=((-1),(2,0))
 .ret [(4,((ByteArray.mk #[114]),((ByteArray.mk #[114,109]),(0,([15,182],y13)))))]) (
 .ite (ae x.1 33) (
 .aa ((0:Nat) < 2)<|
 .aa ((1:Nat) < 2)<|
 .aa (((0:Nat)+2:Nat)≤2)<|
 .aa ((0:Nat) < 1)<|
 .aa (((0:Nat)+1:Nat)≤1)<|
 let y14:dC:=((-1),(2,0))
 .ret [(4,((ByteArray.mk #[114]),((ByteArray.mk #[114,109]),(0,([15,190],y14)))))]) (
 .ite (ae x.1 35) (
 .aa ((0:Nat) < 2)<|
 .aa ((1:Nat) < 2)<|
 .aa ((0:Nat) < 2)<|
 .aa ((1:Nat) < 2)<|
 .aa (((0:Nat)+2:Nat)≤2)<|
 .aa (((0:Nat)+2:Nat)≤2)<|
 .aa ((0:Nat) < 2)<|
 .aa ((1:Nat) < 2)<|
 .aa (((0:Nat)+2:Nat)≤2)<|
 let y15:dC:=((-1),(2,0))
 let y16:bt:=(1,0)
 .ret [(32,((ByteArray.mk #[120]),((ByteArray.mk #[120,109]),(243,([15,111],y15))))),(32,((ByteArray.mk #[109]),((ByteArray.mk #[120]),(243,([15,127],((-1),y16))))))]) (
 .ite (ae x.1 36) (
 .aa ((0:Nat) < 2)<|
 .aa ((1:Nat) < 2)<|
 .aa (((0:Nat)+2:Nat)≤2)<|
 .aa ((0:Nat) < 1)<|
 .aa (((0:Nat)+1:Nat)≤1)<|
 let y17:dC:=((-1),(2,0))
 .ret [(32,((ByteArray.mk #[120]),((ByteArray.mk #[120,109]),(102,([15,239],y17)))))]) (
 .ite (ae x.1 37) (
 .aa ((0:Nat) < 3)<|
 .aa ((1:Nat) < 3)<|
 .aa ((2:Nat) < 3)<|
 .aa (((0:Nat)+3:Nat)≤3)<|
 .aa ((0:Nat) < 1)<|
 .aa (((0:Nat)+1:Nat)≤1)<|
 let y18:dC:=((-1),(2,0))
 .ret [(32,((ByteArray.mk #[120]),((ByteArray.mk #[120,109]),(102,([15,56,220],y18)))))]) (
 .ite (ae x.1 38) (
 .aa ((0:Nat) < 3)<|
 .aa ((1:Nat) < 3)<|
 .aa ((2:Nat) < 3)<|
 .aa (((0:Nat)+3:Nat)≤3)<|
 .aa ((0:Nat) < 1)<|
 .aa (((0:Nat)+1:Nat)≤1)<|
 let y19:dC:=((-1),(2,0))
 .ret [(32,((ByteArray.mk #[120]),((ByteArray.mk #[120,109]),(102,([15,56,221],y19)))))]) (
 .ite (ae x.1 39) (
 .aa ((0:Nat) < 3)<|
 .aa ((1:Nat) < 3)<|
 .aa ((2:Nat) < 3)<|
 .aa (((0:Nat)+3:Nat)≤3)<|
 .aa ((0:Nat) < 1)<|
 .aa (((0:Nat)+1:Nat)≤1)<|
 .ret [(32,((ByteArray.mk #[120]),((ByteArray.mk #[120,109]),(102,([15,58,68],((-1),(2,1)))))))]) (
 .aa (G6 x.1)<|
 .ret (mo x.1)))))))))))))))))
noncomputable def gF (x):=(rY x).val
def nX (x):=(rY x).ok
noncomputable def KO:Spec:={dg:=(.st (.int .u8) (.a7 (.int .u8))),bG:=(.slice xu),n:=1,pre:=nX,f:=gF}
theorem ZR:au aT 38 KO:=iO Tryz.f38 [(91,Kx)] ⟨ZB,trivial⟩ rY
end Go.aA.RV
end
section
namespace Go.aA.RV
open Go.Proofs Go.aA
noncomputable def vg (x:bt):Tr Bool:=
 .ite (ae x.2 4) (
 .ite ((ae x.1 4)==false) (
 let y0:=(ae x.1 8)
 .ret y0) (
 .ret true)) (
 .ite (ae x.2 16) (
 let y1:=(ae x.1 8)
 .ret y1) (
 .ite (ae x.2 32) (
 .ret (ae x.1 16)) (
 .ret (ae x.1 x.2))))
noncomputable def QY (x):=(vg x).val
def Hb (x):=(vg x).ok
noncomputable def KN:Spec:={dg:=(.st (.int .i64) (.a7 (.int .i64))),bG:=.bool,n:=1,pre:=Hb,f:=QY}
theorem ZQ:au aT 39 KN:=iO Tryz.f39 [] trivial vg
noncomputable def vd (x:DO):Tr Bool:=
 .ite (ae x.1 1) (
 let y0:=x.2.1
 .aa (sX y0)<|
 .ite ((kq CO x (tP y0))==true) (
 .ite ((bK 0 y0)==true) (
 .ret (bd y0 16)) (
 .ret false)) (
 .ret false)) (
 .ite ((cB x.1 2)==false) (
 let y1:=x.2.1
 .ite ((cB y1 0)==false) (
 let y2:=x.2.2
 let y3:=y2.2
 let y4:=y3.2
 let y5:=y4.2
 let y6:=y5.2
 .ite ((cB y6.2 0)==false) (
 let y7:=y5.1
 .ite ((bd y7 (-2147483648))==false) (
 .ite (bK 2147483648 y7) (
 .ret false) (
 .ite y6.1 (
 let y8:=y2.1
 .ite ((ae y8 (-1))==true) (
 let y9:=y3.1
 .ite ((ae y9 (-1))==true) (
 let y10:=y4.1
 let y11:=(ae y10 1)
 .ret y11) (
 .ret false)) (
 .ret false)) (
 let y12:=y2.1
 .ite ((bd y12 (-1))==false) (
 .ite ((bd 15 y12)==false) (
 let y13:=y3.1
 .ite ((bd y13 (-1))==false) (
 .ite ((bd 15 y13)==false) (
 .ite (ae y13 4) (
 .ret false) (
 .ite (bd y13 0) (
 let y14:=y4.1
 let y15:=(ae y14 1)
 .ret y15) (
 let y16:=y4.1
 let y17:=(ae y16 1)
 .ite (y17==false) (
 .ite ((ae y16 2)==false) (
 .ite ((ae y16 4)==false) (
 .ret (ae y16 8)) (
 .ret true)) (
 .ret true)) (
 .ret true)))) (
 .ret false)) (
 .ret false)) (
 .ret false)) (
 .ret false)))) (
 .ret false)) (
 .ret false)) (
 .ret false)) (
 .ret false))
noncomputable def DU (x):=(vd x).val
def yb (x):=(vd x).ok
noncomputable def E2:Spec:={dg:=(.a7 CO),bG:=.bool,n:=1,pre:=yb,f:=DU}
theorem Xy:au aT 41 E2:=iO Tryz.f41 [(18,r5)] ⟨M8,trivial⟩ vd
noncomputable def EO (x:Int):Tr DO:=
 .ret (3,(0,((-1),((-1),(0,(0,(false,x)))))))
noncomputable def UO (x):=(EO x).val
def Mg (x):=(EO x).ok
noncomputable def Kw:Spec:={dg:=(.a7 (.int .i64)),bG:=CO,n:=1,pre:=Mg,f:=UO}
theorem ZA:au aT 92 Kw:=iO Tryz.f92 [] trivial EO
noncomputable def EN (x:Int):Tr DO:=
 .aa ((16:Int)≠0)<|
 .aa ((16:Int)≠0)<|
 .ret (1,((aJ .i64 (pf .i64 (aJ .i64 (pf .i64 x 16) 16) 16) 16),((-1),((-1),(0,(0,(false,0)))))))
noncomputable def NN (x):=(EN x).val
def Mf (x):=(EN x).ok
noncomputable def Kv:Spec:={dg:=(.a7 (.int .i64)),bG:=CO,n:=1,pre:=Mf,f:=NN}
theorem Zz:au aT 93 Kv:=iO Tryz.f93 [] trivial EN
end Go.aA.RV
end
section
namespace Go.aA.RV
open Go.Proofs Go.aA
inductive Yw where
 | h0
abbrev RU:Type:=Tr (Yw⊕Bool)
def Fa (a:Option Bool):RU:=.ret (.inr (a.getD false))
def Zw:Option Bool→Option Bool→RU
 | none,b=>Fa b
 | some a,b=>.ite (a==false) (Fa b) (.ret (.inr true))
def VH:Option Bool→RU→RU
 | none,_=>.ret (.inr false)
 | some a,t=>.ite (a==true) t (.ret (.inr false))
def YE (a:Option Bool) (lo hi n:Int):RU:=VH a (.ite (bK lo n==true) (.ret (.inr (bd n hi))) (.ret (.inr false)))
def Ye (x:DO×ByteArray) (r m i v:Option Bool):RU:=
 .ite (x.2==(ByteArray.mk #[114])) (Fa r)<|.ite (x.2==(ByteArray.mk #[109])) (Fa m)<|.ite (x.2==(ByteArray.mk #[114,109])) (Zw r m)<|.ite (x.2==(ByteArray.mk #[105,56])) (YE i (-128) 128 x.1.2.2.2.2.2.2.2)<|
 .ite (x.2==(ByteArray.mk #[117,56])) (YE i 0 256 x.1.2.2.2.2.2.2.2)<|.ite (x.2==(ByteArray.mk #[105,51,50])) (YE i (-2147483648) 2147483648 x.1.2.2.2.2.2.2.2)<|.ite (x.2==(ByteArray.mk #[105,54,52])) (Fa i)<|
 .ite (x.2==(ByteArray.mk #[120])) (Fa v)<|.ite (x.2==(ByteArray.mk #[120,109])) (Zw v m)<|.ite (x.2==(ByteArray.mk #[99,108])) (VH r (.ret (.inr (ae x.1.2.1 1))))<|.ret (.inl .h0)
noncomputable def Tc (x:DO×ByteArray) (r m i:Option Bool):RU:=
 .ite (ae x.1.1 1==true) (.ite (bK 16 x.1.2.1==true) (.ite (bd x.1.2.1 32==true) (.aa (Mf x.1.2.1)<|Ye x r m i (some (kq CO x.1 (NN x.1.2.1)))) (Ye x r m i none)) (Ye x r m i none)) (Ye x r m i none)
noncomputable def Ul (x:DO×ByteArray) (r m:Option Bool):RU:=
 .ite (ae x.1.1 3==true) (.aa (Mg x.1.2.2.2.2.2.2.2)<|Tc x r m (some (kq CO x.1 (UO x.1.2.2.2.2.2.2.2)))) (Tc x r m none)
noncomputable def Ue (x:DO×ByteArray) (r:Option Bool):RU:=.ite (ae x.1.1 2==true) (.aa (yb x.1)<|Ul x r (some (DU x.1))) (Ul x r none)
noncomputable def vf (x:DO×ByteArray):Tr (Yw⊕Bool):=.ite (ae x.1.1 1==true) (.aa (yb x.1)<|Ue x (some (DU x.1))) (Ue x none)
noncomputable def pT (x:(DO×ByteArray)):Yw→Tr (Yw⊕Bool)
 | .h0=>
 .ret (.inr (kq CO x.1 (0,(0,(0,(0,(0,(0,(false,0)))))))))
noncomputable def Us (x:(DO×ByteArray)):Yw→Head
 | .h0=>
 {fr:={id:=40,kind:=.top,T:=[.any,.any,(.ptr 0 [])]++List.replicate 125 .any,items:=[.code (aH [1,1,1,1,1,1,0] (ah Tryz.f40)),.code (aH [1,1,1,1,1,1,1] (ah Tryz.f40))],D:=[],base:=0},
  aF:=[],
  H:=[.cell true 26 (.agg [1,1,1,1,1,1,1,1] [(.int .u8 x.1.1),(.int .i64 x.1.2.1),(.int .i64 x.1.2.2.1),(.int .i64 x.1.2.2.2.1),(.int .i64 x.1.2.2.2.2.1),(.int .i64 x.1.2.2.2.2.2.1),(.bool x.1.2.2.2.2.2.2.1),(.int .i64 x.1.2.2.2.2.2.2.2)])]}
noncomputable def Tp:FuncId→Nat→Nat→Option Cut
 | 40,53,0=>some {tmps:=[2],loops:=[],dead:=[],aF:=[]}
 | _,_,_=>none
noncomputable def Jx (x):=dq (TC.gN .bool) (pT x) (vf x)
def yc (x):=∃ r,Ends (pT x) r (vf x)
noncomputable def KM:Spec:={dg:=(.st CO (.a7 .str)),bG:=.bool,n:=1,pre:=yc,f:=Jx}
theorem ZP:au aT 40 KM:=o7 Tryz.f40 [(41,E2),(92,Kw),(93,Kv)] ⟨Xy,ZA,Zz,trivial⟩ vf pT Us Tp
end Go.aA.RV
end
section
namespace Go.aA.RV
open Go.Proofs Go.aA
inductive YT where
 | h0 (v0:k8) (v1:Int)
noncomputable def vr (x:DI):Tr (YT⊕(bh×Bool)):=
 .ite ((ae x.1 29)==false) (
 .ite ((ae x.1 30)==false) (
 let y0:=x.2.1
 let y1:=((bd 15 y0)==false)
 .ite y1 (
 .ite ((!(ae x.1 31))==true) (
 .ite ((cB y0 0)==false) (
 let y2:=((cB x.1 39)==true)
 .ite y2 (
 let y3:=(cB x.2.2.2.2.2.1 0)
 .ite y3 (
 let y4:B4:=((0,(ByteArray.empty,(ByteArray.empty,(0,(([]:List Int),(0,(0,0))))))),false)
 .ret (.inr y4)) (
 let y5:bt:=(x.1,y0)
 .aa (nX y5)<|
 let y6:=(gF y5)
 .ret (.inl (.h0 y6 0)))) (
 let y7:bt:=(x.1,y0)
 .aa (nX y7)<|
 let y8:=(gF y7)
 .ret (.inl (.h0 y8 0)))) (
 let y9:B4:=((0,(ByteArray.empty,(ByteArray.empty,(0,(([]:List Int),(0,(0,0))))))),false)
 .ret (.inr y9))) (
 let y10:=((cB x.1 39)==true)
 .ite y10 (
 let y11:=(cB x.2.2.2.2.2.1 0)
 .ite y11 (
 let y12:B4:=((0,(ByteArray.empty,(ByteArray.empty,(0,(([]:List Int),(0,(0,0))))))),false)
 .ret (.inr y12)) (
 let y13:bt:=(x.1,y0)
 .aa (nX y13)<|
 let y14:=(gF y13)
 .ret (.inl (.h0 y14 0)))) (
 let y15:bt:=(x.1,y0)
 .aa (nX y15)<|
 let y16:=(gF y15)
 .ret (.inl (.h0 y16 0))))) (
 let y17:B4:=((0,(ByteArray.empty,(ByteArray.empty,(0,(([]:List Int),(0,(0,0))))))),false)
 .ret (.inr y17))) (
 let y18:=x.2.1
 let y19:=((bd 15 y18)==false)
 .ite y19 (
 let y20:=((cB x.1 39)==true)
 .ite y20 (
 let y21:=(cB x.2.2.2.2.2.1 0)
 .ite y21 (
 let y22:B4:=((0,(ByteArray.empty,(ByteArray.empty,(0,(([]:List Int),(0,(0,0))))))),false)
 .ret (.inr y22)) (
 let y23:bt:=(x.1,y18)
 .aa (nX y23)<|
 let y24:=(gF y23)
 .ret (.inl (.h0 y24 0)))) (
 let y25:bt:=(x.1,y18)
 .aa (nX y25)<|
 let y26:=(gF y25)
 .ret (.inl (.h0 y26 0)))) (
 let y27:B4:=((0,(ByteArray.empty,(ByteArray.empty,(0,(([]:List Int),(0,(0,0))))))),false)
 .ret (.inr y27)))) (
 let y28:=x.2.1
 let y29:=((bd 15 y28)==false)
 .ite y29 (
 let y30:=((cB x.1 39)==true)
 .ite y30 (
 let y31:=(cB x.2.2.2.2.2.1 0)
 .ite y31 (
 let y32:B4:=((0,(ByteArray.empty,(ByteArray.empty,(0,(([]:List Int),(0,(0,0))))))),false)
 .ret (.inr y32)) (
 let y33:bt:=(x.1,y28)
 .aa (nX y33)<|
 let y34:=(gF y33)
 .ret (.inl (.h0 y34 0)))) (
 let y35:bt:=(x.1,y28)
 .aa (nX y35)<|
 let y36:=(gF y35)
 .ret (.inl (.h0 y36 0)))) (
 let y37:B4:=((0,(ByteArray.empty,(ByteArray.empty,(0,(([]:List Int),(0,(0,0))))))),false)
 .ret (.inr y37)))
noncomputable def kE (x:DI):YT→Tr (YT⊕(bh×Bool))
 | .h0 v0 v1=>
 .ite (bd v1 (v0.length:Int)) (
 .aa ((0:Int)≤v1)<|
 .aa (v1 < (v0.length:Int))<|
 let y0:=x.2.2
 let y1:bh:=(eX xu v0 (v1).toNat)
 let y2:bt:=(y0.1,y1.1)
 .aa (Hb y2)<|
 .ite ((QY y2)==true) (
 .aa ((0:Int)≤v1)<|
 .aa (v1 < (v0.length:Int))<|
 let y3:=y0.2
 let y4:=y1.2
 let y5:(DO×ByteArray):=(y3.1,y4.1)
 .aa (yc y5)<|
 .ite ((Jx y5)==true) (
 .aa ((0:Int)≤v1)<|
 .aa (v1 < (v0.length:Int))<|
 let y6:(DO×ByteArray):=(y3.2.1,y4.2.1)
 .aa (yc y6)<|
 .ite (Jx y6) (
 .aa ((0:Int)≤v1)<|
 .aa (v1 < (v0.length:Int))<|
 .ret (.inr (y1,true))) (
 let y7:Int:=(aJ .i64 v1 1)
 .ret (.inl (.h0 v0 y7)))) (
 let y8:Int:=(aJ .i64 v1 1)
 .ret (.inl (.h0 v0 y8)))) (
 let y9:Int:=(aJ .i64 v1 1)
 .ret (.inl (.h0 v0 y9)))) (
 .ret (.inr ((0,(ByteArray.empty,(ByteArray.empty,(0,(([]:List Int),(0,(0,0))))))),false)))
noncomputable def Uy (x:DI):YT→Head
 | .h0 v0 v1=>
 {fr:={id:=20,kind:=.top,T:=[.any,(.ptr 0 []),(.ptr 1 []),.any,.any,(.dA xu v0),(.int .i64 v1)]++List.replicate 80 .any,items:=[.lp (aH [1,1,1,1,0,1,0,0] (ah Tryz.f20)),.bB 0,.code (aH [1,1,1,1,1] (ah Tryz.f20))],D:=[],base:=0},
  aF:=[],
  H:=[.cell true 28 (.agg [1,1,1,8,8,1,1] [(.int .u8 x.1),(.int .u8 x.2.1),(.int .i64 x.2.2.1),(.agg [1,1,1,1,1,1,1,1] [(.int .u8 x.2.2.2.1.1),(.int .i64 x.2.2.2.1.2.1),(.int .i64 x.2.2.2.1.2.2.1),(.int .i64 x.2.2.2.1.2.2.2.1),(.int .i64 x.2.2.2.1.2.2.2.2.1),(.int .i64 x.2.2.2.1.2.2.2.2.2.1),(.bool x.2.2.2.1.2.2.2.2.2.2.1),(.int .i64 x.2.2.2.1.2.2.2.2.2.2.2)]),(.agg [1,1,1,1,1,1,1,1] [(.int .u8 x.2.2.2.2.1.1),(.int .i64 x.2.2.2.2.1.2.1),(.int .i64 x.2.2.2.2.1.2.2.1),(.int .i64 x.2.2.2.2.1.2.2.2.1),(.int .i64 x.2.2.2.2.1.2.2.2.2.1),(.int .i64 x.2.2.2.2.1.2.2.2.2.2.1),(.bool x.2.2.2.2.1.2.2.2.2.2.2.1),(.int .i64 x.2.2.2.2.1.2.2.2.2.2.2.2)]),(.int .u8 x.2.2.2.2.2.1),(.int .i64 x.2.2.2.2.2.2)]),.cell true 62 (.agg [1,1,1,1,1,1,1,1] [(.int .i64 0),(.str ByteArray.empty),(.str ByteArray.empty),(.int .u8 0),(.raw (.slice none 0 0)),(.int .i64 0),(.int .i64 0),(.int .i64 0)])]}
noncomputable def Tw:FuncId→Nat→Nat→Option Cut
 | 20,0,0=>some {tmps:=[1,2,5,6],loops:=[],dead:=[],aF:=[]}
 | _,_,_=>none
noncomputable def Q9 (x):=dq (TC.gN (.st xu (.a7 .bool))) (kE x) (vr x)
def MK (x):=∃ r,Ends (kE x) r (vr x)
noncomputable def K4:Spec:={dg:=(.a7 bw),bG:=(.st xu (.a7 .bool)),n:=2,pre:=MK,f:=Q9}
theorem Z6:au aT 20 K4:=o7 Tryz.f20 [(38,KO),(39,KN),(40,KM)] ⟨ZR,ZQ,ZP,trivial⟩ vr kE Uy Tw
noncomputable def pN (x:DO):Tr DO:=
 .ite ((ae x.1 1)==true) (
 let y0:=x.2.1
 .ite (bK 16 y0) (
 .ret (x.1,((eG .i64 y0 16),x.2.2))) (
 .ret x)) (
 .ret x)
noncomputable def fv (x):=(pN x).val
def wc (x):=(pN x).ok
noncomputable def K3:Spec:={dg:=(.a7 CO),bG:=CO,n:=1,pre:=wc,f:=fv}
theorem Z5:au aT 21 K3:=iO Tryz.f21 [] trivial pN
inductive YN where
 | h0
 | h1 (v3:Nat) (v4:Int) (v5:Nat) (v6:ai)
noncomputable def vc (_x:bt):Tr (YN⊕ai):=
 .ret (.inl (.h0))
noncomputable def mP (x:bt):YN→Tr (YN⊕ai)
 | .h0=>
 .ite (bd 0 x.2) (
 .aa ((0:Int)≤0)<|
 .aa ((0:Nat) < 1)<|
 .aa (((0:Nat)+1:Nat)≤1)<|
 .aa (((1:Nat) * 1:Nat)≤2 ^ 40)<|
 .aa ((1:Nat)≤2 ^ 40)<|
 .ret (.inl (.h1 1 1 1 [(af .u8 (a9 .u64 (af .u64 x.1) 0))]))) (
 .ret (.inr ([]:List Int)))
 | .h1 v3 v4 v5 v6=>
 .ite (bd v4 x.2) (
 let y0:Int:=(af .u64 (cX .i64 8 v4))
 .aa ((0:Int)≤y0)<|
 .aa ((0:Nat) < 1)<|
 .aa (((0:Nat)+1:Nat)≤1)<|
 .aa ((v3:Nat)=v5)<|
 let y1:Nat:=(v3+1)
 .aa (((y1:Nat) * 1:Nat)≤2 ^ 40)<|
 .aa ((y1:Nat)≤2 ^ 40)<|
 .ret (.inl (.h1 y1 (aJ .i64 v4 1) y1 (v6++[(af .u8 (a9 .u64 (af .u64 x.1) y0))])))) (
 .aa (((0:Nat)+v3:Nat)≤v5)<|
 .ret (.inr (v6.take v3)))
noncomputable def Ur (x:bt):YN→Head
 | .h0=>
 {fr:={id:=42,kind:=.top,T:=[(.int .i64 x.1),(.int .i64 x.2),.any,.any,.any,(.raw (.slice none 0 0)),(.int .i64 0)]++List.replicate 16 .any,items:=[.lp (aH [1,1,0,1,0,0] (ah Tryz.f42)),.bB 0,.code (aH [1,1,1] (ah Tryz.f42))],D:=[],base:=0},
  aF:=[],
  H:=[]}
 | .h1 v3 v4 v5 v6=>
 {fr:={id:=42,kind:=.top,T:=[(.int .i64 x.1),(.int .i64 x.2),.any,.any,.any,(.aS 0 [] 1 0 v3 none),(.int .i64 v4)]++List.replicate 16 .any,items:=[.lp (aH [1,1,0,1,0,0] (ah Tryz.f42)),.bB 0,.code (aH [1,1,1] (ah Tryz.f42))],D:=[],base:=0},
  aF:=[],
  H:=[.cell true 5 (.arr v5 (.int .u8) v6)]}
noncomputable def To:FuncId→Nat→Nat→Option Cut
 | 42,0,0=>some {tmps:=[0,1,5,6],loops:=[],dead:=[],aF:=[]}
 | _,_,_=>none
noncomputable def NT (x):=dq (TC.gN (.slice (.int .u8))) (mP x) (vc x)
def CF (x):=∃ r,Ends (mP x) r (vc x)
noncomputable def KL:Spec:={dg:=(.st (.int .i64) (.a7 (.int .i64))),bG:=(.slice (.int .u8)),n:=1,pre:=CF,f:=NT}
theorem ZO:au aT 42 KL:=o7 Tryz.f42 [] trivial vc mP Ur To
inductive YS where
 | h0
 | h1 (v0:Int) (v1:Int)
 | h2 (v0:Int) (v1:Int)
 | h3 (v0:Int) (v1:Int) (v2:Int) (v3:Int)
 | h4 (v0:Int) (v1:Int) (v2:Int) (v3:Int) (v4:Int)
 | h5 (v0:Int) (v1:Int) (v2:Int) (v3:Int) (v4:Int) (v5:Int) (v6:Int)
 | h6 (v0:Int) (v1:Int) (v2:Int) (v3:Int) (v4:Int) (v5:Int) (v6:Int)
 | h7 (v0:Int) (v1:Int) (v2:Int) (v3:Int) (v4:Int) (v5:Int) (v6:Int)
 | h8 (v0:Int) (v1:Int) (v2:Int) (v3:Int) (v4:Int) (v5:Int) (v6:Int)
noncomputable def vq (x:tD):Tr (YS⊕Kk):=
 .ite ((bd x.1 0)==false) (
 .ite ((bd 15 x.1)==false) (
 .aa (yb x.2)<|
 .ite (!(DU x.2)) (
 let y0:Kk:=(([]:List Int),(0,2))
 .ret (.inr y0)) (
 .ret (.inl (.h0)))) (
 let y1:Kk:=(([]:List Int),(0,2))
 .ret (.inr y1))) (
 let y2:Kk:=(([]:List Int),(0,2))
 .ret (.inr y2))
noncomputable def bR (x:tD):YS→Tr (YS⊕Kk)
 | .h0=>
 .aa ((0:Int)≤3)<|
 .aa ((0:Int)≤3)<|
 .aa ((0:Int)≤2)<|
 .ite (ae x.2.1 1) (
 .aa ((0:Int)≤3)<|
 .aa ((0:Nat) < 1)<|
 .aa (((0:Nat)+1:Nat)≤1)<|
 let y0:Int:=(b7 .u8 (af .u8 (av .i64 x.1 7)) 3)
 let y1:=x.2.2.1
 let y2:Int:=(b7 .u8 (af .u8 (a9 .i64 x.1 3)) 2)
 .ret (.inr ([(dp .u8 (dp .u8 192 y0) (af .u8 (av .i64 y1 7)))],((dp .u8 y2 (af .u8 (a9 .i64 y1 3))),0)))) (
 let y3:Int:=(b7 .u8 (af .u8 (av .i64 x.1 7)) 3)
 let y4:Int:=(b7 .u8 (af .u8 (a9 .i64 x.1 3)) 2)
 .ret (.inl (.h1 y3 y4)))
 | .h1 v0 v1=>
 let y0:=x.2.2.2.2.2.2
 .ite y0.2.1 (
 .aa ((0:Nat) < 1)<|
 let y1:bt:=(y0.1,4)
 .aa (CF y1)<|
 let y2:=(NT y1)
 let y3:Nat:=y2.length
 let y4:Nat:=(1+y3)
 .ite (bd ((1:Nat):Int) ((y4:Nat):Int)) (
 .aa ((0+1:Nat)≤1)<|
 .aa (((y4:Nat) * 1:Nat)≤2 ^ 40)<|
 .aa ((y4:Nat)≤2 ^ 40)<|
 .aa (((0:Nat)+y4:Nat)≤y4)<|
 let y5:ai:=[(dp .u8 v0 5)]
 let y6:bt:=(v1,0)
 .ret (.inr (((y5++y2).take y4),y6))) (
 .aa ((0+1+y3:Nat)≤1)<|
 .aa (((0:Nat)+y4:Nat)≤1)<|
 let y7:ai:=[(dp .u8 v0 5)]
 let y8:bt:=(v1,0)
 .ret (.inr (((bL y7 1 y2).take y4),y8)))) (
 .ret (.inl (.h2 v0 v1)))
 | .h2 v0 v1=>
 let y0:=x.2.2.2
 let y1:=y0.1
 .ite (bd y1 0) (
 .ret (.inl (.h3 v0 v1 0 4))) (
 let y2:=y0.2.2.2.1
 .ite ((ae y2 0)==true) (
 .ite (cB (av .i64 y1 7) 5) (
 .ret (.inl (.h3 v0 v1 0 0))) (
 let y3:=((bK (-128) y2)==true)
 .ite y3 (
 let y4:=(bd y2 128)
 .ite y4 (
 .ret (.inl (.h3 v0 v1 1 1))) (
 .ret (.inl (.h3 v0 v1 2 4)))) (
 .ret (.inl (.h3 v0 v1 2 4))))) (
 let y5:=((bK (-128) y2)==true)
 .ite y5 (
 let y6:=(bd y2 128)
 .ite y6 (
 .ret (.inl (.h3 v0 v1 1 1))) (
 .ret (.inl (.h3 v0 v1 2 4)))) (
 .ret (.inl (.h3 v0 v1 2 4)))))
 | .h3 v0 v1 v2 v3=>
 let y0:=x.2.2.2.1
 .ite (bK 0 y0) (
 .aa ((0:Int)≤3)<|
 .ret (.inl (.h4 v0 (dp .u8 v1 (af .u8 (a9 .i64 y0 3))) v2 v3 (af .u8 (av .i64 y0 7))))) (
 .ret (.inl (.h4 v0 v1 v2 v3 5)))
 | .h4 v0 v1 v2 v3 v4=>
 let y0:=x.2.2.2.2.1
 .ite (bK 0 y0) (
 .aa ((0:Int)≤3)<|
 .aa ((0:Int)≤1)<|
 .ret (.inl (.h5 v0 (dp .u8 v1 (b7 .u8 (af .u8 (a9 .i64 y0 3)) 1)) v2 v3 v4 (af .u8 (av .i64 y0 7)) 0))) (
 .ret (.inl (.h6 v0 v1 v2 v3 v4 4 0)))
 | .h5 v0 v1 v2 v3 v4 v5 v6=>
 .aa ((0:Int)≤(af .u64 v6))<|
 .ite (bd (b7 .i64 1 (af .u64 v6)) x.2.2.2.2.2.1) (
 .ret (.inl (.h7 v0 v1 v2 v3 v4 v5 v6))) (
 .ret (.inl (.h6 v0 v1 v2 v3 v4 v5 v6)))
 | .h6 v0 v1 v2 v3 v4 v5 v6=>
 let y0:=x.2.2.2
 let y1:=y0.2
 .ite ((bd y1.1 0)==true) (
 .ite ((bK 0 y0.1)==true) (
 .ite (cB v4 4) (
 .aa ((0:Int)≤6)<|
 .aa ((0:Nat) < 1)<|
 let y2:bt:=(y1.2.2.1,v3)
 .aa (CF y2)<|
 let y3:=(NT y2)
 let y4:Nat:=y3.length
 let y5:Nat:=(1+y4)
 .ite (bd ((1:Nat):Int) ((y5:Nat):Int)) (
 .aa ((0+1:Nat)≤1)<|
 .aa (((y5:Nat) * 1:Nat)≤2 ^ 40)<|
 .aa ((y5:Nat)≤2 ^ 40)<|
 .aa (((0:Nat)+y5:Nat)≤y5)<|
 let y6:ai:=[(dp .u8 (dp .u8 (b7 .u8 v2 6) v0) v4)]
 let y7:bt:=(v1,0)
 .ret (.inr (((y6++y3).take y5),y7))) (
 .aa ((0+1+y4:Nat)≤1)<|
 .aa (((0:Nat)+y5:Nat)≤1)<|
 let y8:ai:=[(dp .u8 (dp .u8 (b7 .u8 v2 6) v0) v4)]
 let y9:bt:=(v1,0)
 .ret (.inr (((bL y8 1 y3).take y5),y9)))) (
 .ret (.inl (.h8 v0 v1 v2 v3 v4 v5 v6)))) (
 .ret (.inl (.h8 v0 v1 v2 v3 v4 v5 v6)))) (
 .ret (.inl (.h8 v0 v1 v2 v3 v4 v5 v6)))
 | .h7 v0 v1 v2 v3 v4 v5 v6=>
 .ret (.inl (.h5 v0 v1 v2 v3 v4 v5 (aJ .u8 v6 1)))
 | .h8 v0 v1 v2 v3 v4 v5 v6=>
 .aa ((0:Int)≤6)<|
 .aa ((0:Int)≤6)<|
 .aa ((0:Int)≤3)<|
 .aa ((0:Nat) < 2)<|
 .aa ((1:Nat) < 2)<|
 let y0:bt:=(x.2.2.2.2.2.2.1,v3)
 .aa (CF y0)<|
 let y1:=(NT y0)
 let y2:Nat:=y1.length
 let y3:Nat:=(2+y2)
 .ite (bd ((2:Nat):Int) ((y3:Nat):Int)) (
 .aa ((0+2:Nat)≤2)<|
 .aa (((y3:Nat) * 1:Nat)≤2 ^ 40)<|
 .aa ((y3:Nat)≤2 ^ 40)<|
 .aa (((0:Nat)+y3:Nat)≤y3)<|
 let y4:ai:=[(dp .u8 (dp .u8 (b7 .u8 v2 6) v0) 4),(dp .u8 (dp .u8 (b7 .u8 v6 6) (b7 .u8 v5 3)) v4)]
 let y5:bt:=(v1,0)
 .ret (.inr (((y4++y1).take y3),y5))) (
 .aa ((0+2+y2:Nat)≤2)<|
 .aa (((0:Nat)+y3:Nat)≤2)<|
 let y6:ai:=[(dp .u8 (dp .u8 (b7 .u8 v2 6) v0) 4),(dp .u8 (dp .u8 (b7 .u8 v6 6) (b7 .u8 v5 3)) v4)]
 let y7:bt:=(v1,0)
 .ret (.inr (((bL y6 2 y1).take y3),y7)))
noncomputable def iZ (x:tD):aG:=.cell true 26 (.agg [1,1,1,1,1,1,1,1] [(.int .u8 x.2.1),(.int .i64 x.2.2.1),(.int .i64 x.2.2.2.1),(.int .i64 x.2.2.2.2.1),(.int .i64 x.2.2.2.2.2.1),(.int .i64 x.2.2.2.2.2.2.1),(.bool x.2.2.2.2.2.2.2.1),(.int .i64 x.2.2.2.2.2.2.2.2)])
noncomputable def Ux (x:tD):YS→Head
 | .h0=>
 {fr:={id:=22,kind:=.top,T:=[(.int .i64 x.1),.any,.any,(.ptr 0 [])]++List.replicate 158 .any,items:=[.code (aH [1,1,0] (ah Tryz.f22)),.code (aH [1,1,1] (ah Tryz.f22))],D:=[],base:=0},
  aF:=[],
  H:=[(iZ x)]}
 | .h1 v0 v1=>
 {fr:={id:=22,kind:=.top,T:=[.any,.any,.any,(.ptr 0 []),.any,.any,.any,(.int .u8 v0),(.int .u8 v1)]++List.replicate 153 .any,items:=[.code (aH [1,1,1,1,1,0,0] (ah Tryz.f22)),.code (aH [1,1,1,1,1,0,1] (ah Tryz.f22)),.code (aH [1,1,1,1,1,1] (ah Tryz.f22))],D:=[],base:=0},
  aF:=[],
  H:=[(iZ x)]}
 | .h2 v0 v1=>
 {fr:={id:=22,kind:=.top,T:=[.any,.any,.any,(.ptr 0 []),.any,.any,.any,(.int .u8 v0),(.int .u8 v1)]++List.replicate 153 .any,items:=[.code (aH [1,1,1,1,1,1,0] (ah Tryz.f22)),.code (aH [1,1,1,1,1,1,1] (ah Tryz.f22))],D:=[],base:=0},
  aF:=[],
  H:=[(iZ x)]}
 | .h3 v0 v1 v2 v3=>
 {fr:={id:=22,kind:=.top,T:=[.any,.any,.any,(.ptr 0 []),.any,.any,.any,(.int .u8 v0),(.int .u8 v1),(.int .u8 v2),(.int .i64 v3)]++List.replicate 151 .any,items:=[.code (aH [1,1,1,1,1,1,1,1,0] (ah Tryz.f22)),.code (aH [1,1,1,1,1,1,1,1,1] (ah Tryz.f22))],D:=[],base:=0},
  aF:=[],
  H:=[(iZ x)]}
 | .h4 v0 v1 v2 v3 v4=>
 {fr:={id:=22,kind:=.top,T:=[.any,.any,.any,(.ptr 0 []),.any,.any,.any,(.int .u8 v0),(.int .u8 v1),(.int .u8 v2),(.int .i64 v3),(.int .u8 v4),(.int .u8 4),(.int .u8 0)]++List.replicate 148 .any,items:=[.code (aH [1,1,1,1,1,1,1,1,1,1,0,0] (ah Tryz.f22)),.code (aH [1,1,1,1,1,1,1,1,1,1,0,1] (ah Tryz.f22)),.code (aH [1,1,1,1,1,1,1,1,1,1,1] (ah Tryz.f22))],D:=[],base:=0},
  aF:=[],
  H:=[(iZ x)]}
 | .h5 v0 v1 v2 v3 v4 v5 v6=>
 {fr:={id:=22,kind:=.top,T:=[.any,.any,.any,(.ptr 0 []),.any,.any,.any,(.int .u8 v0),(.int .u8 v1),(.int .u8 v2),(.int .i64 v3),(.int .u8 v4),(.int .u8 v5),(.int .u8 v6)]++List.replicate 148 .any,items:=[.lp (aH [1,1,1,1,1,1,1,1,1,1,0,1,0,1,1,0,0] (ah Tryz.f22)),.bB 1,.code (aH [1,1,1,1,1,1,1,1,1,1,1] (ah Tryz.f22))],D:=[],base:=0},
  aF:=[],
  H:=[(iZ x)]}
 | .h6 v0 v1 v2 v3 v4 v5 v6=>
 {fr:={id:=22,kind:=.top,T:=[.any,.any,.any,(.ptr 0 []),.any,.any,.any,(.int .u8 v0),(.int .u8 v1),(.int .u8 v2),(.int .i64 v3),(.int .u8 v4),(.int .u8 v5),(.int .u8 v6)]++List.replicate 148 .any,items:=[.code (aH [1,1,1,1,1,1,1,1,1,1,1,0,0] (ah Tryz.f22)),.code (aH [1,1,1,1,1,1,1,1,1,1,1,0,1] (ah Tryz.f22)),.code (aH [1,1,1,1,1,1,1,1,1,1,1,1] (ah Tryz.f22))],D:=[],base:=0},
  aF:=[],
  H:=[(iZ x)]}
 | .h7 v0 v1 v2 v3 v4 v5 v6=>
 {fr:={id:=22,kind:=.top,T:=[.any,.any,.any,(.ptr 0 []),.any,.any,.any,(.int .u8 v0),(.int .u8 v1),(.int .u8 v2),(.int .i64 v3),(.int .u8 v4),(.int .u8 v5),(.int .u8 v6)]++List.replicate 148 .any,items:=[.code (aH [1,1,1,1,1,1,1,1,1,1,0,1,0,1,1,0,0,1,0] (ah Tryz.f22)),.bB 2,.lp (aH [1,1,1,1,1,1,1,1,1,1,0,1,0,1,1,0,0] (ah Tryz.f22)),.bB 1,.code (aH [1,1,1,1,1,1,1,1,1,1,1] (ah Tryz.f22))],D:=[],base:=0},
  aF:=[],
  H:=[(iZ x)]}
 | .h8 v0 v1 v2 v3 v4 v5 v6=>
 {fr:={id:=22,kind:=.top,T:=[.any,.any,.any,(.ptr 0 []),.any,.any,.any,(.int .u8 v0),(.int .u8 v1),(.int .u8 v2),(.int .i64 v3),(.int .u8 v4),(.int .u8 v5),(.int .u8 v6)]++List.replicate 148 .any,items:=[.code (aH [1,1,1,1,1,1,1,1,1,1,1,1,0] (ah Tryz.f22)),.code (aH [1,1,1,1,1,1,1,1,1,1,1,1,1] (ah Tryz.f22))],D:=[],base:=0},
  aF:=[],
  H:=[(iZ x)]}
noncomputable def Tv:FuncId→Nat→Nat→Option Cut
 | 22,7,0=>some {tmps:=[0,3],loops:=[],dead:=[],aF:=[]}
 | 22,15,0=>some {tmps:=[3,7,8],loops:=[],dead:=[],aF:=[]}
 | 22,19,0=>some {tmps:=[3,7,8],loops:=[],dead:=[],aF:=[]}
 | 22,33,0=>some {tmps:=[3,7,8,9,10],loops:=[],dead:=[],aF:=[]}
 | 22,41,0=>some {tmps:=[3,7,8,9,10,11,12,13],loops:=[],dead:=[],aF:=[]}
 | 22,2,0=>some {tmps:=[3,7,8,9,10,11,12,13],loops:=[],dead:=[],aF:=[]}
 | 22,51,0=>some {tmps:=[3,7,8,9,10,11,12,13],loops:=[],dead:=[],aF:=[]}
 | 22,49,0=>some {tmps:=[3,7,8,9,10,11,12,13],loops:=[],dead:=[],aF:=[]}
 | 22,55,0=>some {tmps:=[3,7,8,9,10,11,12,13],loops:=[],dead:=[],aF:=[]}
 | _,_,_=>none
noncomputable def Jz (x):=dq (TC.gN (.st (.slice (.int .u8)) (.st (.int .u8) (.a7 (.int .i64))))) (bR x) (vq x)
def yd (x):=∃ r,Ends (bR x) r (vq x)
noncomputable def K2:Spec:={dg:=(.st (.int .i64) (.a7 CO)),bG:=(.st (.slice (.int .u8)) (.st (.int .u8) (.a7 (.int .i64)))),n:=3,pre:=yd,f:=Jz}
theorem Z4:au aT 22 K2:=o7 Tryz.f22 [(41,E2),(42,KL)] ⟨Xy,ZO,trivial⟩ vq bR Ux Tv
noncomputable def vb (x:DO):Tr Bool:=
 .ite ((ae x.1 1)==true) (
 let y0:=x.2.1
 .ite ((bK 4 y0)==true) (
 .ret (bK y0 7)) (
 .ret false)) (
 .ret false)
noncomputable def FV (x):=(vb x).val
def wa (x):=(vb x).ok
noncomputable def KK:Spec:={dg:=(.a7 CO),bG:=.bool,n:=1,pre:=wa,f:=FV}
theorem ZN:au aT 43 KK:=iO Tryz.f43 [] trivial vb
noncomputable def vp (x:DI):Tr Bool:=
 .ite ((ae x.1 32)==false) (
 .ite (ae x.1 33) (
 let y0:=x.2.2
 let y1:=y0.2
 let y2:=y1.2.1
 .aa (wa y2)<|
 let y3:=(FV y2)
 .ret y3) (
 let y4:=x.2.2
 .ite ((ae y4.1 1)==true) (
 let y5:=y4.2
 let y6:=y5.1
 .aa (wa y6)<|
 .ite ((FV y6)==false) (
 let y7:=y5.2.1
 .aa (wa y7)<|
 let y8:=(FV y7)
 .ret y8) (
 .ret true)) (
 .ret false))) (
 let y9:=x.2.2
 let y10:=y9.2
 let y11:=y10.2.1
 .aa (wa y11)<|
 let y12:=(FV y11)
 .ret y12)
noncomputable def wR (x):=(vp x).val
def nY (x):=(vp x).ok
noncomputable def K1:Spec:={dg:=(.a7 bw),bG:=.bool,n:=1,pre:=nY,f:=wR}
theorem Z3:au aT 23 K1:=iO Tryz.f23 [(43,KK)] ⟨ZN,trivial⟩ vp
inductive YR where
 | h0
 | h1 (v3:Nat) (v4:Int) (v5:Nat) (v6:ai)
noncomputable def vo (_x:bt):Tr (YR⊕ai):=
 .ret (.inl (.h0))
noncomputable def mQ (x:bt):YR→Tr (YR⊕ai)
 | .h0=>
 .ite (bd 0 x.2) (
 .aa ((0:Int)≤0)<|
 .aa ((0:Nat) < 1)<|
 .aa (((0:Nat)+1:Nat)≤1)<|
 .aa (((1:Nat) * 1:Nat)≤2 ^ 40)<|
 .aa ((1:Nat)≤2 ^ 40)<|
 .ret (.inl (.h1 1 1 1 [(af .u8 (a9 .u64 (af .u64 x.1) 0))]))) (
 .ret (.inr ([]:List Int)))
 | .h1 v3 v4 v5 v6=>
 .ite (bd v4 x.2) (
 let y0:Int:=(af .u64 (cX .i64 8 v4))
 .aa ((0:Int)≤y0)<|
 .aa ((0:Nat) < 1)<|
 .aa (((0:Nat)+1:Nat)≤1)<|
 .aa ((v3:Nat)=v5)<|
 let y1:Nat:=(v3+1)
 .aa (((y1:Nat) * 1:Nat)≤2 ^ 40)<|
 .aa ((y1:Nat)≤2 ^ 40)<|
 .ret (.inl (.h1 y1 (aJ .i64 v4 1) y1 (v6++[(af .u8 (a9 .u64 (af .u64 x.1) y0))])))) (
 .aa (((0:Nat)+v3:Nat)≤v5)<|
 .ret (.inr (v6.take v3)))
noncomputable def Uw (x:bt):YR→Head
 | .h0=>
 {fr:={id:=24,kind:=.top,T:=[(.int .i64 x.1),(.int .i64 x.2),.any,.any,.any,(.raw (.slice none 0 0)),(.int .i64 0)]++List.replicate 16 .any,items:=[.lp (aH [1,1,0,1,0,0] (ah Tryz.f24)),.bB 0,.code (aH [1,1,1] (ah Tryz.f24))],D:=[],base:=0},
  aF:=[],
  H:=[]}
 | .h1 v3 v4 v5 v6=>
 {fr:={id:=24,kind:=.top,T:=[(.int .i64 x.1),(.int .i64 x.2),.any,.any,.any,(.aS 0 [] 1 0 v3 none),(.int .i64 v4)]++List.replicate 16 .any,items:=[.lp (aH [1,1,0,1,0,0] (ah Tryz.f24)),.bB 0,.code (aH [1,1,1] (ah Tryz.f24))],D:=[],base:=0},
  aF:=[],
  H:=[.cell true 5 (.arr v5 (.int .u8) v6)]}
noncomputable def Tu:FuncId→Nat→Nat→Option Cut
 | 24,0,0=>some {tmps:=[0,1,5,6],loops:=[],dead:=[],aF:=[]}
 | _,_,_=>none
noncomputable def Q7 (x):=dq (TC.gN (.slice (.int .u8))) (mQ x) (vo x)
def Hg (x):=∃ r,Ends (mQ x) r (vo x)
noncomputable def K0:Spec:={dg:=(.st (.int .i64) (.a7 (.int .i64))),bG:=(.slice (.int .u8)),n:=1,pre:=Hg,f:=Q7}
theorem Z2:au aT 24 K0:=o7 Tryz.f24 [] trivial vo mQ Uw Tu
end Go.aA.RV
end
