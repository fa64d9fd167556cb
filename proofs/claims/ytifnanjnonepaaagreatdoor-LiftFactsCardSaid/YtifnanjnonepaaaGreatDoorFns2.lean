/- A part of the proof that the laws of this seat hold. Conditions: none beyond the row. -/
import Derived.Test.YtifnanjnonepaaaGreatDoorFns1
set_option maxRecDepth 100000
set_option linter.unusedVariables false
set_option linter.unusedSimpArgs false
set_option linter.unusedSectionVars false
section
namespace Go.bz.RL
open Go.Proofs Go.bz
noncomputable def vd (x:B7):Tr bx:=
 .aa ((0:Nat) < 1)<|
 let y0:aq:=x.2.1
 let y1:Nat:=y0.length
 .aa ((y1:Nat)=y1)<|
 .aa (((0:Nat)+1:Nat)≤1)<|
 let y2:ew:=x.1.2
 let y3:bk:=(x.1.1,(y2.1,((),y2.2.2)))
 let y4:dh:=x.2.2
 let y5:gQ:=(y3,(y0,(1,(1,(16,[y4.1])))))
 .aa (bK y5)<|
 .aa ((0:Nat) < 1)<|
 let y6:aq:=(cK y5).1
 let y7:Nat:=y6.length
 .aa ((y7:Nat)=y7)<|
 .aa (((0:Nat)+1:Nat)≤1)<|
 let y8:gQ:=(y3,(y6,(1,(1,(19,[y4.2])))))
 .aa (bK y8)<|
 let y9:aq:=(cK y8).1
 let y10:Nat:=y9.length
 .aa ((y10:Nat)=y10)<|
 .aa (y3=x.1)<|
 .ret (y9,())
noncomputable def pJ (x:B7):bx:=(vd x).val
def mh (x:B7):Prop:=(vd x).ok
noncomputable def ke:aH:={t:=51,lf:=2,te:=38,ce:=aZ,st:=(.st bA (.st (.int .i64) (.st .bC (.st (.int .u64) (.st ar (.st ar (.st ar (.bu ar)))))))),arg:=(.st ar (.bu ar)),cB:=.unit,n:=0,pos:=0,box:=false,pre:=mh,f:=fun x=>(pJ x).1,g:=fun x=>(pJ x).2}
noncomputable def z8:FuncId→Option Spec
 | _=>none
theorem Iz:∀ f sp,z8 f=some sp→ah aA f sp:=by
 intro f sp h
 unfold z8 at h
 split at h
 ·cases h
noncomputable def tp:FuncId→Option aH
 | 17=>some fQ
 | _=>none
theorem EP:∀ f ps,tp f=some ps→aj aA f ps:=by
 intro f ps h
 unfold tp at h
 split at h
 ·cases h;exact lQ
 ·cases h
theorem Td (W:cM) (Q:bx→Prop) (x:B7):run (env z8 tp true (fun _ _=>none)) (fun _ _ _=>none) (cY ke x.1 Q) W 100000 (bF 89 Tryz.f89 (ag Tryz.f89) (ke.dt x.2.2)) [] (H0 ke x.1 x.2.1)=(vd x).wp Q:=by kernel_rfl
theorem CD:aj aA 89 ke:=aj.env rfl (fun _ _ h=>h) (az (E:=(env z8 tp true (fun _ _=>none))) (ps:=ke) (valid _ _ _ _) ⟨fun f sp h=>ah.env rfl (fun _ _ h=>h) (Iz f sp h),fun f ps h=>aj.env rfl (fun _ _ h=>h) (EP f ps h)⟩ (by kernel_rfl) (fn:=Tryz.f89) (c:=(ag Tryz.f89)) (by kernel_rfl) (by kernel_rfl) vd Td (fun _ h=>Tr.an h))
noncomputable def vc (x:kF):Tr bx:=
 .aa ((0:Nat) < 1)<|
 let y0:aq:=x.2.1
 let y1:Nat:=y0.length
 .aa ((y1:Nat)=y1)<|
 let y2:ew:=x.1.2
 let y3:Int:=y2.1
 let y4:bk:=(x.1.1,(y3,((),y2.2.2)))
 let y5:(List aF):=[x.2.2]
 let y6:gQ:=(y4,(y0,(22,(y3,(17,y5)))))
 .aa (bK y6)<|
 .aa ((0:Nat) < 1)<|
 let y7:aq:=(cK y6).1
 let y8:Nat:=y7.length
 .aa ((y8:Nat)=y8)<|
 let y9:gQ:=(y4,(y7,(23,(y3,(18,y5)))))
 .aa (bK y9)<|
 .aa ((0:Nat) < 1)<|
 let y10:aq:=(cK y9).1
 let y11:Nat:=y10.length
 .aa ((y11:Nat)=y11)<|
 let y12:gQ:=(y4,(y10,(24,(y3,(20,y5)))))
 .aa (bK y12)<|
 let y13:aq:=(cK y12).1
 let y14:Nat:=y13.length
 .aa ((y14:Nat)=y14)<|
 .aa (y4=x.1)<|
 .ret (y13,())
noncomputable def w7 (x:kF):bx:=(vc x).val
def nN (x:kF):Prop:=(vc x).ok
noncomputable def jz:aH:={t:=51,lf:=2,te:=38,ce:=aZ,st:=(.st bA (.st (.int .i64) (.st .bC (.st (.int .u64) (.st ar (.st ar (.st ar (.bu ar)))))))),arg:=(.bu ar),cB:=.unit,n:=0,pos:=0,box:=false,pre:=nN,f:=fun x=>(w7 x).1,g:=fun x=>(w7 x).2}
noncomputable def z7:FuncId→Option Spec
 | _=>none
theorem Iy:∀ f sp,z7 f=some sp→ah aA f sp:=by
 intro f sp h
 unfold z7 at h
 split at h
 ·cases h
noncomputable def tm:FuncId→Option aH
 | 17=>some fQ
 | _=>none
theorem EO:∀ f ps,tm f=some ps→aj aA f ps:=by
 intro f ps h
 unfold tm at h
 split at h
 ·cases h;exact lQ
 ·cases h
theorem Tc (W:cM) (Q:bx→Prop) (x:kF):run (env z7 tm true (fun _ _=>none)) (fun _ _ _=>none) (cY jz x.1 Q) W 100000 (bF 90 Tryz.f90 (ag Tryz.f90) (jz.dt x.2.2)) [] (H0 jz x.1 x.2.1)=(vc x).wp Q:=by kernel_rfl
theorem yf:aj aA 90 jz:=aj.env rfl (fun _ _ h=>h) (az (E:=(env z7 tm true (fun _ _=>none))) (ps:=jz) (valid _ _ _ _) ⟨fun f sp h=>ah.env rfl (fun _ _ h=>h) (Iy f sp h),fun f ps h=>aj.env rfl (fun _ _ h=>h) (EO f ps h)⟩ (by kernel_rfl) (fn:=Tryz.f90) (c:=(ag Tryz.f90)) (by kernel_rfl) (by kernel_rfl) vc Tc (fun _ h=>Tr.an h))
noncomputable def vh (x:WH):Tr bx:=
 .aa ((0:Int)≤0)<|
 .aa ((0:Int) < 3)<|
 .aa ((0:Nat) < 3)<|
 .aa ((0:Nat) < 3)<|
 .aa ((1:Nat) < 3)<|
 .aa ((2:Nat) < 3)<|
 let y0:aq:=x.2.1
 let y1:Nat:=y0.length
 .aa ((y1:Nat)=y1)<|
 let y2:DI:=x.1.1
 let y3:ew:=x.1.2
 let y4:Int:=y3.1
 let y5:bk:=(y2,(y4,((),y3.2.2)))
 let y6:(ao×ze):=x.2.2
 let y7:ao:=y6.1
 let y8:ze:=y6.2
 let y9:dh:=y8.2
 let y10:lW:=(y4,[y8.1,y9.1,y9.2])
 let y11:gN:=(y5,(y0,((eZ (.int .u8) y7 0),y10)))
 .aa (bN y11)<|
 .aa ((0:Int)≤0)<|
 .aa ((0:Int) < 3)<|
 .aa ((0:Nat) < 3)<|
 .aa ((0:Int)≤1)<|
 .aa ((1:Int) < 3)<|
 .aa ((1:Nat) < 3)<|
 .aa ((0:Nat) < 3)<|
 .aa ((1:Nat) < 3)<|
 .aa ((2:Nat) < 3)<|
 let y12:aq:=(ba y11).1
 let y13:Nat:=y12.length
 .aa ((y13:Nat)=y13)<|
 let y14:gN:=(y5,(y12,((eZ (.int .u8) y7 1),y10)))
 .aa (bN y14)<|
 .aa ((0:Int)≤1)<|
 .aa ((1:Int) < 3)<|
 .aa ((1:Nat) < 3)<|
 .aa ((0:Int)≤2)<|
 .aa ((2:Int) < 3)<|
 .aa ((2:Nat) < 3)<|
 .aa ((0:Nat) < 3)<|
 .aa ((1:Nat) < 3)<|
 .aa ((2:Nat) < 3)<|
 let y15:aq:=(ba y14).1
 let y16:Nat:=y15.length
 .aa ((y16:Nat)=y16)<|
 let y17:gN:=(y5,(y15,((eZ (.int .u8) y7 2),y10)))
 .aa (bN y17)<|
 .aa ((0:Int)≤2)<|
 .aa ((2:Int) < 3)<|
 .aa ((2:Nat) < 3)<|
 .ite (dG y2.1 10) (
 .aa ((0:Int)≤0)<|
 .aa ((0:Int) < 3)<|
 .aa ((0:Nat) < 3)<|
 let y18:=(ba y17).1
 let y19:Nat:=y18.length
 .aa ((y19:Nat)=y19)<|
 let y20:=(ba y11).2
 let y21:fM:=(y5,(y18,y20))
 .aa (ji y21)<|
 .aa ((0:Int)≤1)<|
 .aa ((1:Int) < 3)<|
 .aa ((1:Nat) < 3)<|
 .aa ((0:Int)≤2)<|
 .aa ((2:Int) < 3)<|
 .aa ((2:Nat) < 3)<|
 let y22:=(jC y21).1
 let y23:Nat:=y22.length
 .aa ((y23:Nat)=y23)<|
 let y24:dh:=((ba y14).2,(ba y17).2)
 let y25:sv:=(y5,(y22,y24))
 .aa (mh y25)<|
 .aa ((0:Int)≤0)<|
 .aa ((0:Int) < 3)<|
 .aa ((0:Nat) < 3)<|
 let y26:=(pJ y25).1
 let y27:Nat:=y26.length
 .aa ((y27:Nat)=y27)<|
 let y28:fM:=(y5,(y26,y20))
 .aa (nN y28)<|
 let y29:=(w7 y28).1
 let y30:Nat:=y29.length
 .aa ((y30:Nat)=y30)<|
 .aa (y5=x.1)<|
 .ret (y29,())) (
 .aa ((0:Int)≤1)<|
 .aa ((1:Int) < 3)<|
 .aa ((1:Nat) < 3)<|
 .aa ((0:Int)≤2)<|
 .aa ((2:Int) < 3)<|
 .aa ((2:Nat) < 3)<|
 let y31:=(ba y17).1
 let y32:Nat:=y31.length
 .aa ((y32:Nat)=y32)<|
 let y33:dh:=((ba y14).2,(ba y17).2)
 let y34:sv:=(y5,(y31,y33))
 .aa (mh y34)<|
 .aa ((0:Int)≤0)<|
 .aa ((0:Int) < 3)<|
 .aa ((0:Nat) < 3)<|
 let y35:=(pJ y34).1
 let y36:Nat:=y35.length
 .aa ((y36:Nat)=y36)<|
 let y37:=(ba y11).2
 let y38:fM:=(y5,(y35,y37))
 .aa (nN y38)<|
 let y39:=(w7 y38).1
 let y40:Nat:=y39.length
 .aa ((y40:Nat)=y40)<|
 .aa (y5=x.1)<|
 .ret (y39,()))
noncomputable def N8 (x:WH):bx:=(vh x).val
def Lo (x:WH):Prop:=(vh x).ok
noncomputable def ou:aH:={t:=51,lf:=2,te:=38,ce:=aZ,st:=(.st bA (.st (.int .i64) (.st .bC (.st (.int .u64) (.st ar (.st ar (.st ar (.bu ar)))))))),arg:=(.st (.arr 3 (.int .u8)) (.st ar (.st ar (.bu ar)))),cB:=.unit,n:=0,pos:=0,box:=false,pre:=Lo,f:=fun x=>(N8 x).1,g:=fun x=>(N8 x).2}
noncomputable def Ac:FuncId→Option Spec
 | _=>none
theorem ID:∀ f sp,Ac f=some sp→ah aA f sp:=by
 intro f sp h
 unfold Ac at h
 split at h
 ·cases h
noncomputable def tu:FuncId→Option aH
 | 30=>some dy
 | 80=>some fP
 | 89=>some ke
 | 90=>some jz
 | _=>none
theorem ET:∀ f ps,tu f=some ps→aj aA f ps:=by
 intro f ps h
 unfold tu at h
 split at h
 ·cases h;exact gi
 ·cases h;exact lP
 ·cases h;exact CD
 ·cases h;exact yf
 ·cases h
theorem Th (W:cM) (Q:bx→Prop) (x:WH):run (env Ac tu true (fun _ _=>none)) (fun _ _ _=>none) (cY ou x.1 Q) W 100000 (bF 85 Tryz.f85 (ag Tryz.f85) (ou.dt x.2.2)) [] (H0 ou x.1 x.2.1)=(vh x).wp Q:=by kernel_rfl
theorem Px:aj aA 85 ou:=aj.env rfl (fun _ _ h=>h) (az (E:=(env Ac tu true (fun _ _=>none))) (ps:=ou) (valid _ _ _ _) ⟨fun f sp h=>ah.env rfl (fun _ _ h=>h) (ID f sp h),fun f ps h=>aj.env rfl (fun _ _ h=>h) (ET f ps h)⟩ (by kernel_rfl) (fn:=Tryz.f85) (c:=(ag Tryz.f85)) (by kernel_rfl) (by kernel_rfl) vh Th (fun _ h=>Tr.an h))
noncomputable def jT (x:DI):Tr Bool:=
 .ite (ak x.1 9) (
 let y0:=x.2.2.2
 let y1:=y0.1
 let y2:=((ak y1.1 1)==true)
 .ite y2 (
 let y3:=y0.2.1
 let y4:=((ak y3.1 1)==true)
 .ite y4 (
 let y5:=(ak y1.2.1 y3.2.1)
 .ret y5) (
 .ret false)) (
 .ret false)) (
 .ite (ak x.1 8) (
 let y6:=x.2.2.2
 let y7:=y6.1
 let y8:=((ak y7.1 1)==true)
 .ite y8 (
 let y9:=y6.2.1
 let y10:=((ak y9.1 1)==true)
 .ite y10 (
 let y11:=(ak y7.2.1 y9.2.1)
 .ret y11) (
 .ret false)) (
 .ret false)) (
 .ite (ak x.1 36) (
 let y12:=x.2.2.2
 let y13:=y12.1
 let y14:=((ak y13.1 1)==true)
 .ite y14 (
 let y15:=y12.2.1
 let y16:=((ak y15.1 1)==true)
 .ite y16 (
 let y17:=(ak y13.2.1 y15.2.1)
 .ret y17) (
 .ret false)) (
 .ret false)) (
 .ret false)))
noncomputable def fa (x:DI):Bool:=(jT x).val
def EF (x:DI):Prop:=(jT x).ok
noncomputable def sZ:Spec:={eX:=(.bu bA),cB:=.bool,n:=1,pre:=EF,f:=fa}
noncomputable def uJ:FuncId→Option Spec
 | _=>none
theorem F2:∀ f sp,uJ f=some sp→ah aA f sp:=by
 intro f sp h
 unfold uJ at h
 split at h
 ·cases h
section
variable (W:cM) (Q:Bool→Prop) (x:DI)
theorem Qy:run (env uJ (fun _=>none) false (fun _ _=>none)) (fun _ _ _=>none) (bE sZ Q) W 100000 (bl 109 Tryz.f109 (ag Tryz.f109) (bp (.bu bA) x)) [] []=(jT x).wp Q:=by kernel_rfl
end
theorem VW:ah aA 109 sZ:=ah.env rfl (fun _ _ h=>h) (aG (E:=(env uJ (fun _=>none) false (fun _ _=>none))) (sp:=sZ) (valid _ _ _ _) ⟨fun f sp h=>ah.env rfl (fun _ _ h=>h) (F2 f sp h),fun f ps h=>nomatch h⟩ (fn:=Tryz.f109) (c:=(ag Tryz.f109)) (by kernel_rfl) (by kernel_rfl) jT Qy (fun _ h=>Tr.an h))
noncomputable def vf (x:br):Tr Eh:=
 let y0:DI:=x.1.1
 .aa (EF y0)<|
 .ite (fa y0) (
 .aa (bn 0)<|
 .aa (bn 0)<|
 let y1:=x.2.1
 let y2:Nat:=y1.length
 .aa ((y2:Nat)=y2)<|
 let y3:=x.1.2
 let y4:=y3.1
 let y5:=y3.2.2
 let y6:bk:=(y0,(y4,((),y5)))
 .aa (y6=x.1)<|
 .ret (y1,((aP 0),(aP 0)))) (
 let y7:=x.2.1
 let y8:Nat:=y7.length
 .aa ((y8:Nat)=y8)<|
 let y9:=x.1.2
 let y10:=y9.1
 let y11:=y9.2.2
 let y12:bk:=(y0,(y10,((),y11)))
 let y13:=y0.2.2.2
 let y14:=y11.2
 let y15:nX:=(y12,(y7,(y13.1,(y14.1,y10))))
 .aa (jh y15)<|
 let y16:=(fy y15).1
 let y17:Nat:=y16.length
 .aa ((y17:Nat)=y17)<|
 let y18:nX:=(y12,(y16,(y13.2.1,(y14.2.1,y10))))
 .aa (jh y18)<|
 let y19:=(fy y18).1
 let y20:Nat:=y19.length
 .aa ((y20:Nat)=y20)<|
 .aa (y12=x.1)<|
 .ret (y19,((fy y15).2,(fy y18).2)))
noncomputable def DF (x:br):Eh:=(vf x).val
def GW (x:br):Prop:=(vf x).ok
noncomputable def mf:aH:={t:=51,lf:=2,te:=38,ce:=aZ,st:=(.st bA (.st (.int .i64) (.st .bC (.st (.int .u64) (.st ar (.st ar (.st ar (.bu ar)))))))),arg:=.unit,cB:=(.st ar (.bu ar)),n:=2,pos:=0,box:=false,pre:=GW,f:=fun x=>(DF x).1,g:=fun x=>(DF x).2}
noncomputable def z9:FuncId→Option Spec
 | 11=>some dR
 | 109=>some sZ
 | _=>none
theorem IA:∀ f sp,z9 f=some sp→ah aA f sp:=by
 intro f sp h
 unfold z9 at h
 split at h
 ·cases h;exact jQ
 ·cases h;exact VW
 ·cases h
noncomputable def tq:FuncId→Option aH
 | 81=>some fx
 | _=>none
theorem ER:∀ f ps,tq f=some ps→aj aA f ps:=by
 intro f ps h
 unfold tq at h
 split at h
 ·cases h;exact kI
 ·cases h
theorem Te (W:cM) (Q:Eh→Prop) (x:br):run (env z9 tq true (fun _ _=>none)) (fun _ _ _=>none) (cY mf x.1 Q) W 100000 (bF 88 Tryz.f88 (ag Tryz.f88) (mf.dt x.2.2)) [] (H0 mf x.1 x.2.1)=(vf x).wp Q:=by kernel_rfl
theorem LO:aj aA 88 mf:=aj.env rfl (fun _ _ h=>h) (az (E:=(env z9 tq true (fun _ _=>none))) (ps:=mf) (valid _ _ _ _) ⟨fun f sp h=>ah.env rfl (fun _ _ h=>h) (IA f sp h),fun f ps h=>aj.env rfl (fun _ _ h=>h) (ER f ps h)⟩ (by kernel_rfl) (fn:=Tryz.f88) (c:=(ag Tryz.f88)) (by kernel_rfl) (by kernel_rfl) vf Te (fun _ h=>Tr.an h))
noncomputable def vk (x:Nc):Tr bx:=
 let y0:aq:=x.2.1
 let y1:Nat:=y0.length
 .aa ((y1:Nat)=y1)<|
 let y2:ew:=x.1.2
 let y3:bk:=(x.1.1,(y2.1,((),y2.2.2)))
 let y4:eA:=(y3,(y0,()))
 .aa (GW y4)<|
 let y5:aq:=(DF y4).1
 let y6:Nat:=y5.length
 .aa ((y6:Nat)=y6)<|
 let y7:(ao×aF):=x.2.2
 let y8:dh:=(DF y4).2
 let y9:XV:=(y3,(y5,(y7.1,(y8.1,(y8.2,y7.2)))))
 .aa (Lo y9)<|
 let y10:aq:=(N8 y9).1
 let y11:Nat:=y10.length
 .aa ((y11:Nat)=y11)<|
 .aa (y3=x.1)<|
 .ret (y10,())
noncomputable def JQ (x:Nc):bx:=(vk x).val
def Cv (x:Nc):Prop:=(vk x).ok
noncomputable def lv:aH:={t:=51,lf:=2,te:=38,ce:=aZ,st:=(.st bA (.st (.int .i64) (.st .bC (.st (.int .u64) (.st ar (.st ar (.st ar (.bu ar)))))))),arg:=(.st (.arr 3 (.int .u8)) (.bu ar)),cB:=.unit,n:=0,pos:=0,box:=false,pre:=Cv,f:=fun x=>(JQ x).1,g:=fun x=>(JQ x).2}
noncomputable def Af:FuncId→Option Spec
 | _=>none
theorem IG:∀ f sp,Af f=some sp→ah aA f sp:=by
 intro f sp h
 unfold Af at h
 split at h
 ·cases h
noncomputable def tx:FuncId→Option aH
 | 85=>some ou
 | 88=>some mf
 | _=>none
theorem EW:∀ f ps,tx f=some ps→aj aA f ps:=by
 intro f ps h
 unfold tx at h
 split at h
 ·cases h;exact Px
 ·cases h;exact LO
 ·cases h
theorem Tk (W:cM) (Q:bx→Prop) (x:Nc):run (env Af tx true (fun _ _=>none)) (fun _ _ _=>none) (cY lv x.1 Q) W 100000 (bF 82 Tryz.f82 (ag Tryz.f82) (lv.dt x.2.2)) [] (H0 lv x.1 x.2.1)=(vk x).wp Q:=by kernel_rfl
theorem G2:aj aA 82 lv:=aj.env rfl (fun _ _ h=>h) (az (E:=(env Af tx true (fun _ _=>none))) (ps:=lv) (valid _ _ _ _) ⟨fun f sp h=>ah.env rfl (fun _ _ h=>h) (IG f sp h),fun f ps h=>aj.env rfl (fun _ _ h=>h) (EW f ps h)⟩ (by kernel_rfl) (fn:=Tryz.f82) (c:=(ag Tryz.f82)) (by kernel_rfl) (by kernel_rfl) vk Tk (fun _ h=>Tr.an h))
noncomputable def vU (x:br):Tr bx:=
 .aa (bn 0)<|
 let y0:aq:=x.2.1
 let y1:Nat:=y0.length
 .aa ((y1:Nat)=y1)<|
 let y2:ew:=x.1.2
 let y3:bk:=(x.1.1,(y2.1,((),y2.2.2)))
 let y4:Nf:=(y3,(y0,([2,4,6],(aP 0))))
 .aa (Cv y4)<|
 let y5:aq:=(JQ y4).1
 let y6:Nat:=y5.length
 .aa ((y6:Nat)=y6)<|
 .aa (y3=x.1)<|
 .ret (y5,())
noncomputable def R1 (x:br):bx:=(vU x).val
def Po (x:br):Prop:=(vU x).ok
noncomputable def ri:aH:={t:=51,lf:=2,te:=38,ce:=aZ,st:=(.st bA (.st (.int .i64) (.st .bC (.st (.int .u64) (.st ar (.st ar (.st ar (.bu ar)))))))),arg:=.unit,cB:=.unit,n:=0,pos:=0,box:=false,pre:=Po,f:=fun x=>(R1 x).1,g:=fun x=>(R1 x).2}
noncomputable def AT:FuncId→Option Spec
 | 11=>some dR
 | _=>none
theorem Jl:∀ f sp,AT f=some sp→ah aA f sp:=by
 intro f sp h
 unfold AT at h
 split at h
 ·cases h;exact jQ
 ·cases h
noncomputable def uc:FuncId→Option aH
 | 82=>some lv
 | _=>none
theorem Fs:∀ f ps,uc f=some ps→aj aA f ps:=by
 intro f ps h
 unfold uc at h
 split at h
 ·cases h;exact G2
 ·cases h
theorem T4 (W:cM) (Q:bx→Prop) (x:br):run (env AT uc true (fun _ _=>none)) (fun _ _ _=>none) (cY ri x.1 Q) W 100000 (bF 34 Tryz.f34 (ag Tryz.f34) (ri.dt x.2.2)) [] (H0 ri x.1 x.2.1)=(vU x).wp Q:=by kernel_rfl
theorem VB:aj aA 34 ri:=aj.env rfl (fun _ _ h=>h) (az (E:=(env AT uc true (fun _ _=>none))) (ps:=ri) (valid _ _ _ _) ⟨fun f sp h=>ah.env rfl (fun _ _ h=>h) (Jl f sp h),fun f ps h=>aj.env rfl (fun _ _ h=>h) (Fs f ps h)⟩ (by kernel_rfl) (fn:=Tryz.f34) (c:=(ag Tryz.f34)) (by kernel_rfl) (by kernel_rfl) vU T4 (fun _ h=>Tr.an h))
noncomputable def vS (x:br):Tr bx:=
 .aa (dZ 16)<|
 let y0:aq:=x.2.1
 let y1:Nat:=y0.length
 .aa ((y1:Nat)=y1)<|
 let y2:ew:=x.1.2
 let y3:bk:=(x.1.1,(y2.1,((),y2.2.2)))
 let y4:Nf:=(y3,(y0,([2,4,6],(fC 16))))
 .aa (Cv y4)<|
 let y5:aq:=(JQ y4).1
 let y6:Nat:=y5.length
 .aa ((y6:Nat)=y6)<|
 .aa (y3=x.1)<|
 .ret (y5,())
noncomputable def R0 (x:br):bx:=(vS x).val
def Pn (x:br):Prop:=(vS x).ok
noncomputable def rh:aH:={t:=51,lf:=2,te:=38,ce:=aZ,st:=(.st bA (.st (.int .i64) (.st .bC (.st (.int .u64) (.st ar (.st ar (.st ar (.bu ar)))))))),arg:=.unit,cB:=.unit,n:=0,pos:=0,box:=false,pre:=Pn,f:=fun x=>(R0 x).1,g:=fun x=>(R0 x).2}
noncomputable def AS:FuncId→Option Spec
 | 20=>some fN
 | _=>none
theorem Jk:∀ f sp,AS f=some sp→ah aA f sp:=by
 intro f sp h
 unfold AS at h
 split at h
 ·cases h;exact pj
 ·cases h
noncomputable def ub:FuncId→Option aH
 | 82=>some lv
 | _=>none
theorem Fq:∀ f ps,ub f=some ps→aj aA f ps:=by
 intro f ps h
 unfold ub at h
 split at h
 ·cases h;exact G2
 ·cases h
theorem T3 (W:cM) (Q:bx→Prop) (x:br):run (env AS ub true (fun _ _=>none)) (fun _ _ _=>none) (cY rh x.1 Q) W 100000 (bF 35 Tryz.f35 (ag Tryz.f35) (rh.dt x.2.2)) [] (H0 rh x.1 x.2.1)=(vS x).wp Q:=by kernel_rfl
theorem VA:aj aA 35 rh:=aj.env rfl (fun _ _ h=>h) (az (E:=(env AS ub true (fun _ _=>none))) (ps:=rh) (valid _ _ _ _) ⟨fun f sp h=>ah.env rfl (fun _ _ h=>h) (Jk f sp h),fun f ps h=>aj.env rfl (fun _ _ h=>h) (Fq f ps h)⟩ (by kernel_rfl) (fn:=Tryz.f35) (c:=(ag Tryz.f35)) (by kernel_rfl) (by kernel_rfl) vS T3 (fun _ h=>Tr.an h))
noncomputable def vR (x:br):Tr bx:=
 .aa (bn 0)<|
 let y0:aq:=x.2.1
 let y1:Nat:=y0.length
 .aa ((y1:Nat)=y1)<|
 let y2:ew:=x.1.2
 let y3:bk:=(x.1.1,(y2.1,((),y2.2.2)))
 let y4:Nf:=(y3,(y0,([3,5,7],(aP 0))))
 .aa (Cv y4)<|
 let y5:aq:=(JQ y4).1
 let y6:Nat:=y5.length
 .aa ((y6:Nat)=y6)<|
 .aa (y3=x.1)<|
 .ret (y5,())
noncomputable def Oe (x:br):bx:=(vR x).val
def Ly (x:br):Prop:=(vR x).ok
noncomputable def rf:aH:={t:=51,lf:=2,te:=38,ce:=aZ,st:=(.st bA (.st (.int .i64) (.st .bC (.st (.int .u64) (.st ar (.st ar (.st ar (.bu ar)))))))),arg:=.unit,cB:=.unit,n:=0,pos:=0,box:=false,pre:=Ly,f:=fun x=>(Oe x).1,g:=fun x=>(Oe x).2}
noncomputable def AQ:FuncId→Option Spec
 | 11=>some dR
 | _=>none
theorem Jj:∀ f sp,AQ f=some sp→ah aA f sp:=by
 intro f sp h
 unfold AQ at h
 split at h
 ·cases h;exact jQ
 ·cases h
noncomputable def ua:FuncId→Option aH
 | 82=>some lv
 | _=>none
theorem Fp:∀ f ps,ua f=some ps→aj aA f ps:=by
 intro f ps h
 unfold ua at h
 split at h
 ·cases h;exact G2
 ·cases h
theorem TZ (W:cM) (Q:bx→Prop) (x:br):run (env AQ ua true (fun _ _=>none)) (fun _ _ _=>none) (cY rf x.1 Q) W 100000 (bF 36 Tryz.f36 (ag Tryz.f36) (rf.dt x.2.2)) [] (H0 rf x.1 x.2.1)=(vR x).wp Q:=by kernel_rfl
theorem Vz:aj aA 36 rf:=aj.env rfl (fun _ _ h=>h) (az (E:=(env AQ ua true (fun _ _=>none))) (ps:=rf) (valid _ _ _ _) ⟨fun f sp h=>ah.env rfl (fun _ _ h=>h) (Jj f sp h),fun f ps h=>aj.env rfl (fun _ _ h=>h) (Fp f ps h)⟩ (by kernel_rfl) (fn:=Tryz.f36) (c:=(ag Tryz.f36)) (by kernel_rfl) (by kernel_rfl) vR TZ (fun _ h=>Tr.an h))
noncomputable def vQ (x:br):Tr bx:=
 .aa (dZ 16)<|
 let y0:aq:=x.2.1
 let y1:Nat:=y0.length
 .aa ((y1:Nat)=y1)<|
 let y2:ew:=x.1.2
 let y3:bk:=(x.1.1,(y2.1,((),y2.2.2)))
 let y4:Nf:=(y3,(y0,([3,5,7],(fC 16))))
 .aa (Cv y4)<|
 let y5:aq:=(JQ y4).1
 let y6:Nat:=y5.length
 .aa ((y6:Nat)=y6)<|
 .aa (y3=x.1)<|
 .ret (y5,())
noncomputable def RZ (x:br):bx:=(vQ x).val
def Pm (x:br):Prop:=(vQ x).ok
noncomputable def re:aH:={t:=51,lf:=2,te:=38,ce:=aZ,st:=(.st bA (.st (.int .i64) (.st .bC (.st (.int .u64) (.st ar (.st ar (.st ar (.bu ar)))))))),arg:=.unit,cB:=.unit,n:=0,pos:=0,box:=false,pre:=Pm,f:=fun x=>(RZ x).1,g:=fun x=>(RZ x).2}
noncomputable def AP:FuncId→Option Spec
 | 20=>some fN
 | _=>none
theorem Ji:∀ f sp,AP f=some sp→ah aA f sp:=by
 intro f sp h
 unfold AP at h
 split at h
 ·cases h;exact pj
 ·cases h
noncomputable def tZ:FuncId→Option aH
 | 82=>some lv
 | _=>none
theorem Fo:∀ f ps,tZ f=some ps→aj aA f ps:=by
 intro f ps h
 unfold tZ at h
 split at h
 ·cases h;exact G2
 ·cases h
theorem TY (W:cM) (Q:bx→Prop) (x:br):run (env AP tZ true (fun _ _=>none)) (fun _ _ _=>none) (cY re x.1 Q) W 100000 (bF 37 Tryz.f37 (ag Tryz.f37) (re.dt x.2.2)) [] (H0 re x.1 x.2.1)=(vQ x).wp Q:=by kernel_rfl
theorem Vy:aj aA 37 re:=aj.env rfl (fun _ _ h=>h) (az (E:=(env AP tZ true (fun _ _=>none))) (ps:=re) (valid _ _ _ _) ⟨fun f sp h=>ah.env rfl (fun _ _ h=>h) (Ji f sp h),fun f ps h=>aj.env rfl (fun _ _ h=>h) (Fo f ps h)⟩ (by kernel_rfl) (fn:=Tryz.f37) (c:=(ag Tryz.f37)) (by kernel_rfl) (by kernel_rfl) vQ TY (fun _ h=>Tr.an h))
noncomputable def vj (x:B4):Tr bx:=
 let y0:aq:=x.2.1
 let y1:Nat:=y0.length
 .aa ((y1:Nat)=y1)<|
 let y2:DI:=x.1.1
 let y3:ew:=x.1.2
 let y4:Int:=y3.1
 let y5:bk:=(y2,(y4,((),y3.2.2)))
 let y6:eA:=(y5,(y0,()))
 .aa (GW y6)<|
 .aa ((0:Nat) < 2)<|
 .aa ((1:Nat) < 2)<|
 let y7:aq:=(DF y6).1
 let y8:Nat:=y7.length
 .aa ((y8:Nat)=y8)<|
 let y9:dh:=(DF y6).2
 let y10:gN:=(y5,(y7,(x.2.2,(y4,[y9.1,y9.2]))))
 .aa (bN y10)<|
 .ite (dG y2.1 11) (
 let y11:=(ba y10).1
 let y12:Nat:=y11.length
 .aa ((y12:Nat)=y12)<|
 let y13:=(ba y10).2
 let y14:fM:=(y5,(y11,y13))
 .aa (ji y14)<|
 .aa (bn 0)<|
 .aa (bn 0)<|
 let y15:=(jC y14).1
 let y16:Nat:=y15.length
 .aa ((y16:Nat)=y16)<|
 let y17:dh:=((aP 0),(aP 0))
 let y18:sv:=(y5,(y15,y17))
 .aa (mh y18)<|
 let y19:=(pJ y18).1
 let y20:Nat:=y19.length
 .aa ((y20:Nat)=y20)<|
 let y21:fM:=(y5,(y19,y13))
 .aa (nN y21)<|
 let y22:=(w7 y21).1
 let y23:Nat:=y22.length
 .aa ((y23:Nat)=y23)<|
 .aa (y5=x.1)<|
 .ret (y22,())) (
 .aa (bn 0)<|
 .aa (bn 0)<|
 let y24:=(ba y10).1
 let y25:Nat:=y24.length
 .aa ((y25:Nat)=y25)<|
 let y26:dh:=((aP 0),(aP 0))
 let y27:sv:=(y5,(y24,y26))
 .aa (mh y27)<|
 let y28:=(pJ y27).1
 let y29:Nat:=y28.length
 .aa ((y29:Nat)=y29)<|
 let y30:=(ba y10).2
 let y31:fM:=(y5,(y28,y30))
 .aa (nN y31)<|
 let y32:=(w7 y31).1
 let y33:Nat:=y32.length
 .aa ((y33:Nat)=y33)<|
 .aa (y5=x.1)<|
 .ret (y32,()))
noncomputable def Ml (x:B4):bx:=(vj x).val
def GY (x:B4):Prop:=(vj x).ok
noncomputable def mg:aH:={t:=51,lf:=2,te:=38,ce:=aZ,st:=(.st bA (.st (.int .i64) (.st .bC (.st (.int .u64) (.st ar (.st ar (.st ar (.bu ar)))))))),arg:=(.bu (.int .u8)),cB:=.unit,n:=0,pos:=0,box:=false,pre:=GY,f:=fun x=>(Ml x).1,g:=fun x=>(Ml x).2}
noncomputable def Ae:FuncId→Option Spec
 | 11=>some dR
 | _=>none
theorem IF:∀ f sp,Ae f=some sp→ah aA f sp:=by
 intro f sp h
 unfold Ae at h
 split at h
 ·cases h;exact jQ
 ·cases h
noncomputable def tw:FuncId→Option aH
 | 30=>some dy
 | 80=>some fP
 | 88=>some mf
 | 89=>some ke
 | 90=>some jz
 | _=>none
theorem EV:∀ f ps,tw f=some ps→aj aA f ps:=by
 intro f ps h
 unfold tw at h
 split at h
 ·cases h;exact gi
 ·cases h;exact lP
 ·cases h;exact LO
 ·cases h;exact CD
 ·cases h;exact yf
 ·cases h
theorem Tj (W:cM) (Q:bx→Prop) (x:B4):run (env Ae tw true (fun _ _=>none)) (fun _ _ _=>none) (cY mg x.1 Q) W 100000 (bF 83 Tryz.f83 (ag Tryz.f83) (mg.dt x.2.2)) [] (H0 mg x.1 x.2.1)=(vj x).wp Q:=by kernel_rfl
theorem LP:aj aA 83 mg:=aj.env rfl (fun _ _ h=>h) (az (E:=(env Ae tw true (fun _ _=>none))) (ps:=mg) (valid _ _ _ _) ⟨fun f sp h=>ah.env rfl (fun _ _ h=>h) (IF f sp h),fun f ps h=>aj.env rfl (fun _ _ h=>h) (EV f ps h)⟩ (by kernel_rfl) (fn:=Tryz.f83) (c:=(ag Tryz.f83)) (by kernel_rfl) (by kernel_rfl) vj Tj (fun _ h=>Tr.an h))
noncomputable def vP (x:br):Tr bx:=
 let y0:aq:=x.2.1
 let y1:Nat:=y0.length
 .aa ((y1:Nat)=y1)<|
 let y2:ew:=x.1.2
 let y3:bk:=(x.1.1,(y2.1,((),y2.2.2)))
 let y4:B6:=(y3,(y0,8))
 .aa (GY y4)<|
 let y5:aq:=(Ml y4).1
 let y6:Nat:=y5.length
 .aa ((y6:Nat)=y6)<|
 .aa (y3=x.1)<|
 .ret (y5,())
noncomputable def Od (x:br):bx:=(vP x).val
def Lx (x:br):Prop:=(vP x).ok
noncomputable def q9:aH:={t:=51,lf:=2,te:=38,ce:=aZ,st:=(.st bA (.st (.int .i64) (.st .bC (.st (.int .u64) (.st ar (.st ar (.st ar (.bu ar)))))))),arg:=.unit,cB:=.unit,n:=0,pos:=0,box:=false,pre:=Lx,f:=fun x=>(Od x).1,g:=fun x=>(Od x).2}
noncomputable def AO:FuncId→Option Spec
 | _=>none
theorem Jh:∀ f sp,AO f=some sp→ah aA f sp:=by
 intro f sp h
 unfold AO at h
 split at h
 ·cases h
noncomputable def tY:FuncId→Option aH
 | 83=>some mg
 | _=>none
theorem Fm:∀ f ps,tY f=some ps→aj aA f ps:=by
 intro f ps h
 unfold tY at h
 split at h
 ·cases h;exact LP
 ·cases h
theorem TX (W:cM) (Q:bx→Prop) (x:br):run (env AO tY true (fun _ _=>none)) (fun _ _ _=>none) (cY q9 x.1 Q) W 100000 (bF 38 Tryz.f38 (ag Tryz.f38) (q9.dt x.2.2)) [] (H0 q9 x.1 x.2.1)=(vP x).wp Q:=by kernel_rfl
theorem Vx:aj aA 38 q9:=aj.env rfl (fun _ _ h=>h) (az (E:=(env AO tY true (fun _ _=>none))) (ps:=q9) (valid _ _ _ _) ⟨fun f sp h=>ah.env rfl (fun _ _ h=>h) (Jh f sp h),fun f ps h=>aj.env rfl (fun _ _ h=>h) (Fm f ps h)⟩ (by kernel_rfl) (fn:=Tryz.f38) (c:=(ag Tryz.f38)) (by kernel_rfl) (by kernel_rfl) vP TX (fun _ h=>Tr.an h))
noncomputable def vO (x:br):Tr bx:=
 let y0:aq:=x.2.1
 let y1:Nat:=y0.length
 .aa ((y1:Nat)=y1)<|
 let y2:ew:=x.1.2
 let y3:bk:=(x.1.1,(y2.1,((),y2.2.2)))
 let y4:B6:=(y3,(y0,9))
 .aa (GY y4)<|
 let y5:aq:=(Ml y4).1
 let y6:Nat:=y5.length
 .aa ((y6:Nat)=y6)<|
 .aa (y3=x.1)<|
 .ret (y5,())
noncomputable def RY (x:br):bx:=(vO x).val
def Pk (x:br):Prop:=(vO x).ok
noncomputable def qZ:aH:={t:=51,lf:=2,te:=38,ce:=aZ,st:=(.st bA (.st (.int .i64) (.st .bC (.st (.int .u64) (.st ar (.st ar (.st ar (.bu ar)))))))),arg:=.unit,cB:=.unit,n:=0,pos:=0,box:=false,pre:=Pk,f:=fun x=>(RY x).1,g:=fun x=>(RY x).2}
noncomputable def AN:FuncId→Option Spec
 | _=>none
theorem Jg:∀ f sp,AN f=some sp→ah aA f sp:=by
 intro f sp h
 unfold AN at h
 split at h
 ·cases h
noncomputable def tX:FuncId→Option aH
 | 83=>some mg
 | _=>none
theorem Fl:∀ f ps,tX f=some ps→aj aA f ps:=by
 intro f ps h
 unfold tX at h
 split at h
 ·cases h;exact LP
 ·cases h
theorem TW (W:cM) (Q:bx→Prop) (x:br):run (env AN tX true (fun _ _=>none)) (fun _ _ _=>none) (cY qZ x.1 Q) W 100000 (bF 39 Tryz.f39 (ag Tryz.f39) (qZ.dt x.2.2)) [] (H0 qZ x.1 x.2.1)=(vO x).wp Q:=by kernel_rfl
theorem Vw:aj aA 39 qZ:=aj.env rfl (fun _ _ h=>h) (az (E:=(env AN tX true (fun _ _=>none))) (ps:=qZ) (valid _ _ _ _) ⟨fun f sp h=>ah.env rfl (fun _ _ h=>h) (Jg f sp h),fun f ps h=>aj.env rfl (fun _ _ h=>h) (Fl f ps h)⟩ (by kernel_rfl) (fn:=Tryz.f39) (c:=(ag Tryz.f39)) (by kernel_rfl) (by kernel_rfl) vO TW (fun _ h=>Tr.an h))
noncomputable def vM (x:br):Tr bx:=
 let y0:aq:=x.2.1
 let y1:Nat:=y0.length
 .aa ((y1:Nat)=y1)<|
 let y2:ew:=x.1.2
 let y3:bk:=(x.1.1,(y2.1,((),y2.2.2)))
 let y4:B6:=(y3,(y0,10))
 .aa (GY y4)<|
 let y5:aq:=(Ml y4).1
 let y6:Nat:=y5.length
 .aa ((y6:Nat)=y6)<|
 .aa (y3=x.1)<|
 .ret (y5,())
noncomputable def RW (x:br):bx:=(vM x).val
def Pj (x:br):Prop:=(vM x).ok
noncomputable def qY:aH:={t:=51,lf:=2,te:=38,ce:=aZ,st:=(.st bA (.st (.int .i64) (.st .bC (.st (.int .u64) (.st ar (.st ar (.st ar (.bu ar)))))))),arg:=.unit,cB:=.unit,n:=0,pos:=0,box:=false,pre:=Pj,f:=fun x=>(RW x).1,g:=fun x=>(RW x).2}
noncomputable def AM:FuncId→Option Spec
 | _=>none
theorem Jf:∀ f sp,AM f=some sp→ah aA f sp:=by
 intro f sp h
 unfold AM at h
 split at h
 ·cases h
noncomputable def tW:FuncId→Option aH
 | 83=>some mg
 | _=>none
theorem Fk:∀ f ps,tW f=some ps→aj aA f ps:=by
 intro f ps h
 unfold tW at h
 split at h
 ·cases h;exact LP
 ·cases h
theorem TV (W:cM) (Q:bx→Prop) (x:br):run (env AM tW true (fun _ _=>none)) (fun _ _ _=>none) (cY qY x.1 Q) W 100000 (bF 40 Tryz.f40 (ag Tryz.f40) (qY.dt x.2.2)) [] (H0 qY x.1 x.2.1)=(vM x).wp Q:=by kernel_rfl
theorem Vv:aj aA 40 qY:=aj.env rfl (fun _ _ h=>h) (az (E:=(env AM tW true (fun _ _=>none))) (ps:=qY) (valid _ _ _ _) ⟨fun f sp h=>ah.env rfl (fun _ _ h=>h) (Jf f sp h),fun f ps h=>aj.env rfl (fun _ _ h=>h) (Fk f ps h)⟩ (by kernel_rfl) (fn:=Tryz.f40) (c:=(ag Tryz.f40)) (by kernel_rfl) (by kernel_rfl) vM TV (fun _ h=>Tr.an h))
noncomputable def vi (x:Nb):Tr bx:=
 let y0:aq:=x.2.1
 let y1:Nat:=y0.length
 .aa ((y1:Nat)=y1)<|
 let y2:DI:=x.1.1
 let y3:ew:=x.1.2
 let y4:Int:=y3.1
 let y5:nG:=y3.2.2
 let y6:bk:=(y2,(y4,((),y5)))
 let y7:nX:=(y6,(y0,(y2.2.2.2.1,(y5.2.1,y4))))
 .aa (jh y7)<|
 .aa (bn 1)<|
 .aa ((0:Nat) < 2)<|
 .aa ((1:Nat) < 2)<|
 let y8:aq:=(fy y7).1
 let y9:Nat:=y8.length
 .aa ((y9:Nat)=y9)<|
 let y10:bM:=x.2.2
 let y11:lW:=(y4,[(fy y7).2,(aP 1)])
 let y12:gN:=(y6,(y8,(y10.1,y11)))
 .aa (bN y12)<|
 .aa (bn 1)<|
 .aa ((0:Nat) < 2)<|
 .aa ((1:Nat) < 2)<|
 let y13:aq:=(ba y12).1
 let y14:Nat:=y13.length
 .aa ((y14:Nat)=y14)<|
 let y15:gN:=(y6,(y13,(y10.2,y11)))
 .aa (bN y15)<|
 let y16:aq:=(ba y15).1
 let y17:Nat:=y16.length
 .aa ((y17:Nat)=y17)<|
 let y18:aF:=(ba y12).2
 let y19:fM:=(y6,(y16,y18))
 .aa (ji y19)<|
 .aa ((0:Nat) < 1)<|
 let y20:aq:=(jC y19).1
 let y21:Nat:=y20.length
 .aa ((y21:Nat)=y21)<|
 .aa (((0:Nat)+1:Nat)≤1)<|
 let y22:gQ:=(y6,(y20,(1,(1,(19,[(ba y15).2])))))
 .aa (bK y22)<|
 let y23:aq:=(cK y22).1
 let y24:Nat:=y23.length
 .aa ((y24:Nat)=y24)<|
 let y25:fM:=(y6,(y23,y18))
 .aa (nN y25)<|
 let y26:aq:=(w7 y25).1
 let y27:Nat:=y26.length
 .aa ((y27:Nat)=y27)<|
 .aa (y6=x.1)<|
 .ret (y26,())
noncomputable def N9 (x:Nb):bx:=(vi x).val
def Lp (x:Nb):Prop:=(vi x).ok
noncomputable def ow:aH:={t:=51,lf:=2,te:=38,ce:=aZ,st:=(.st bA (.st (.int .i64) (.st .bC (.st (.int .u64) (.st ar (.st ar (.st ar (.bu ar)))))))),arg:=(.st (.int .u8) (.bu (.int .u8))),cB:=.unit,n:=0,pos:=0,box:=false,pre:=Lp,f:=fun x=>(N9 x).1,g:=fun x=>(N9 x).2}
noncomputable def Ad:FuncId→Option Spec
 | 11=>some dR
 | _=>none
theorem IE:∀ f sp,Ad f=some sp→ah aA f sp:=by
 intro f sp h
 unfold Ad at h
 split at h
 ·cases h;exact jQ
 ·cases h
noncomputable def tv:FuncId→Option aH
 | 17=>some fQ
 | 30=>some dy
 | 80=>some fP
 | 81=>some fx
 | 90=>some jz
 | _=>none
theorem EU:∀ f ps,tv f=some ps→aj aA f ps:=by
 intro f ps h
 unfold tv at h
 split at h
 ·cases h;exact lQ
 ·cases h;exact gi
 ·cases h;exact lP
 ·cases h;exact kI
 ·cases h;exact yf
 ·cases h
theorem Ti (W:cM) (Q:bx→Prop) (x:Nb):run (env Ad tv true (fun _ _=>none)) (fun _ _ _=>none) (cY ow x.1 Q) W 100000 (bF 84 Tryz.f84 (ag Tryz.f84) (ow.dt x.2.2)) [] (H0 ow x.1 x.2.1)=(vi x).wp Q:=by kernel_rfl
theorem Py:aj aA 84 ow:=aj.env rfl (fun _ _ h=>h) (az (E:=(env Ad tv true (fun _ _=>none))) (ps:=ow) (valid _ _ _ _) ⟨fun f sp h=>ah.env rfl (fun _ _ h=>h) (IE f sp h),fun f ps h=>aj.env rfl (fun _ _ h=>h) (EU f ps h)⟩ (by kernel_rfl) (fn:=Tryz.f84) (c:=(ag Tryz.f84)) (by kernel_rfl) (by kernel_rfl) vi Ti (fun _ h=>Tr.an h))
noncomputable def vL (x:br):Tr bx:=
 let y0:aq:=x.2.1
 let y1:Nat:=y0.length
 .aa ((y1:Nat)=y1)<|
 let y2:ew:=x.1.2
 let y3:bk:=(x.1.1,(y2.1,((),y2.2.2)))
 let y4:S0:=(y3,(y0,(2,6)))
 .aa (Lp y4)<|
 let y5:aq:=(N9 y4).1
 let y6:Nat:=y5.length
 .aa ((y6:Nat)=y6)<|
 .aa (y3=x.1)<|
 .ret (y5,())
noncomputable def RV (x:br):bx:=(vL x).val
def Ph (x:br):Prop:=(vL x).ok
noncomputable def qX:aH:={t:=51,lf:=2,te:=38,ce:=aZ,st:=(.st bA (.st (.int .i64) (.st .bC (.st (.int .u64) (.st ar (.st ar (.st ar (.bu ar)))))))),arg:=.unit,cB:=.unit,n:=0,pos:=0,box:=false,pre:=Ph,f:=fun x=>(RV x).1,g:=fun x=>(RV x).2}
noncomputable def AL:FuncId→Option Spec
 | _=>none
theorem Je:∀ f sp,AL f=some sp→ah aA f sp:=by
 intro f sp h
 unfold AL at h
 split at h
 ·cases h
noncomputable def tV:FuncId→Option aH
 | 84=>some ow
 | _=>none
theorem Fj:∀ f ps,tV f=some ps→aj aA f ps:=by
 intro f ps h
 unfold tV at h
 split at h
 ·cases h;exact Py
 ·cases h
theorem TU (W:cM) (Q:bx→Prop) (x:br):run (env AL tV true (fun _ _=>none)) (fun _ _ _=>none) (cY qX x.1 Q) W 100000 (bF 41 Tryz.f41 (ag Tryz.f41) (qX.dt x.2.2)) [] (H0 qX x.1 x.2.1)=(vL x).wp Q:=by kernel_rfl
theorem Vu:aj aA 41 qX:=aj.env rfl (fun _ _ h=>h) (az (E:=(env AL tV true (fun _ _=>none))) (ps:=qX) (valid _ _ _ _) ⟨fun f sp h=>ah.env rfl (fun _ _ h=>h) (Je f sp h),fun f ps h=>aj.env rfl (fun _ _ h=>h) (Fj f ps h)⟩ (by kernel_rfl) (fn:=Tryz.f41) (c:=(ag Tryz.f41)) (by kernel_rfl) (by kernel_rfl) vL TU (fun _ h=>Tr.an h))
noncomputable def vK (x:br):Tr bx:=
 let y0:aq:=x.2.1
 let y1:Nat:=y0.length
 .aa ((y1:Nat)=y1)<|
 let y2:ew:=x.1.2
 let y3:bk:=(x.1.1,(y2.1,((),y2.2.2)))
 let y4:S0:=(y3,(y0,(3,7)))
 .aa (Lp y4)<|
 let y5:aq:=(N9 y4).1
 let y6:Nat:=y5.length
 .aa ((y6:Nat)=y6)<|
 .aa (y3=x.1)<|
 .ret (y5,())
noncomputable def RU (x:br):bx:=(vK x).val
def Pg (x:br):Prop:=(vK x).ok
noncomputable def qW:aH:={t:=51,lf:=2,te:=38,ce:=aZ,st:=(.st bA (.st (.int .i64) (.st .bC (.st (.int .u64) (.st ar (.st ar (.st ar (.bu ar)))))))),arg:=.unit,cB:=.unit,n:=0,pos:=0,box:=false,pre:=Pg,f:=fun x=>(RU x).1,g:=fun x=>(RU x).2}
noncomputable def AK:FuncId→Option Spec
 | _=>none
theorem Jd:∀ f sp,AK f=some sp→ah aA f sp:=by
 intro f sp h
 unfold AK at h
 split at h
 ·cases h
noncomputable def tU:FuncId→Option aH
 | 84=>some ow
 | _=>none
theorem Fi:∀ f ps,tU f=some ps→aj aA f ps:=by
 intro f ps h
 unfold tU at h
 split at h
 ·cases h;exact Py
 ·cases h
theorem TT (W:cM) (Q:bx→Prop) (x:br):run (env AK tU true (fun _ _=>none)) (fun _ _ _=>none) (cY qW x.1 Q) W 100000 (bF 42 Tryz.f42 (ag Tryz.f42) (qW.dt x.2.2)) [] (H0 qW x.1 x.2.1)=(vK x).wp Q:=by kernel_rfl
theorem Vt:aj aA 42 qW:=aj.env rfl (fun _ _ h=>h) (az (E:=(env AK tU true (fun _ _=>none))) (ps:=qW) (valid _ _ _ _) ⟨fun f sp h=>ah.env rfl (fun _ _ h=>h) (Jd f sp h),fun f ps h=>aj.env rfl (fun _ _ h=>h) (Fi f ps h)⟩ (by kernel_rfl) (fn:=Tryz.f42) (c:=(ag Tryz.f42)) (by kernel_rfl) (by kernel_rfl) vK TT (fun _ h=>Tr.an h))
noncomputable def vJ (x:br):Tr bx:=
 .aa (bn 0)<|
 let y0:aq:=x.2.1
 let y1:Nat:=y0.length
 .aa ((y1:Nat)=y1)<|
 let y2:DI:=x.1.1
 let y3:ew:=x.1.2
 let y4:Int:=y3.1
 let y5:nG:=y3.2.2
 let y6:bk:=(y2,(y4,((),y5)))
 let y7:nX:=(y6,(y0,(y2.2.2.2.1,(y5.2.1,y4))))
 .aa (jh y7)<|
 .aa (bn 0)<|
 let y8:aq:=(fy y7).1
 let y9:Nat:=y8.length
 .aa ((y9:Nat)=y9)<|
 let y10:XV:=(y6,(y8,([3,5,7],((aP 0),((fy y7).2,(aP 0))))))
 .aa (Lo y10)<|
 let y11:aq:=(N8 y10).1
 let y12:Nat:=y11.length
 .aa ((y12:Nat)=y12)<|
 .aa (y6=x.1)<|
 .ret (y11,())
noncomputable def RT (x:br):bx:=(vJ x).val
def Pf (x:br):Prop:=(vJ x).ok
noncomputable def qV:aH:={t:=51,lf:=2,te:=38,ce:=aZ,st:=(.st bA (.st (.int .i64) (.st .bC (.st (.int .u64) (.st ar (.st ar (.st ar (.bu ar)))))))),arg:=.unit,cB:=.unit,n:=0,pos:=0,box:=false,pre:=Pf,f:=fun x=>(RT x).1,g:=fun x=>(RT x).2}
noncomputable def AJ:FuncId→Option Spec
 | 11=>some dR
 | _=>none
theorem Jc:∀ f sp,AJ f=some sp→ah aA f sp:=by
 intro f sp h
 unfold AJ at h
 split at h
 ·cases h;exact jQ
 ·cases h
noncomputable def tT:FuncId→Option aH
 | 81=>some fx
 | 85=>some ou
 | _=>none
theorem Fh:∀ f ps,tT f=some ps→aj aA f ps:=by
 intro f ps h
 unfold tT at h
 split at h
 ·cases h;exact kI
 ·cases h;exact Px
 ·cases h
theorem TS (W:cM) (Q:bx→Prop) (x:br):run (env AJ tT true (fun _ _=>none)) (fun _ _ _=>none) (cY qV x.1 Q) W 100000 (bF 43 Tryz.f43 (ag Tryz.f43) (qV.dt x.2.2)) [] (H0 qV x.1 x.2.1)=(vJ x).wp Q:=by kernel_rfl
theorem Vs:aj aA 43 qV:=aj.env rfl (fun _ _ h=>h) (az (E:=(env AJ tT true (fun _ _=>none))) (ps:=qV) (valid _ _ _ _) ⟨fun f sp h=>ah.env rfl (fun _ _ h=>h) (Jc f sp h),fun f ps h=>aj.env rfl (fun _ _ h=>h) (Fh f ps h)⟩ (by kernel_rfl) (fn:=Tryz.f43) (c:=(ag Tryz.f43)) (by kernel_rfl) (by kernel_rfl) vJ TS (fun _ h=>Tr.an h))
end Go.bz.RL
end
section
namespace Go.bz.RL
open Go.Proofs Go.bz
noncomputable def vI (x:br):Tr bx:=
 let y0:aq:=x.2.1
 let y1:Nat:=y0.length
 .aa ((y1:Nat)=y1)<|
 let y2:DI:=x.1.1
 let y3:ew:=x.1.2
 let y4:Int:=y3.1
 let y5:nG:=y3.2.2
 let y6:bk:=(y2,(y4,((),y5)))
 let y7:nX:=(y6,(y0,(y2.2.2.2.1,(y5.2.1,y4))))
 .aa (jh y7)<|
 .aa (GX y4)<|
 let y8:Int:=(Ry y4)
 .aa (bn y8)<|
 .aa ((0:Nat) < 2)<|
 .aa ((1:Nat) < 2)<|
 let y9:aq:=(fy y7).1
 let y10:Nat:=y9.length
 .aa ((y10:Nat)=y10)<|
 let y11:gN:=(y6,(y9,(10,(y4,[(fy y7).2,(aP y8)]))))
 .aa (bN y11)<|
 let y12:aq:=(ba y11).1
 let y13:Nat:=y12.length
 .aa ((y13:Nat)=y13)<|
 let y14:fM:=(y6,(y12,(ba y11).2))
 .aa (ji y14)<|
 let y15:aq:=(jC y14).1
 let y16:Nat:=y15.length
 .aa ((y16:Nat)=y16)<|
 .aa (y6=x.1)<|
 .ret (y15,())
noncomputable def RS (x:br):bx:=(vI x).val
def Pe (x:br):Prop:=(vI x).ok
noncomputable def qU:aH:={t:=51,lf:=2,te:=38,ce:=aZ,st:=(.st bA (.st (.int .i64) (.st .bC (.st (.int .u64) (.st ar (.st ar (.st ar (.bu ar)))))))),arg:=.unit,cB:=.unit,n:=0,pos:=0,box:=false,pre:=Pe,f:=fun x=>(RS x).1,g:=fun x=>(RS x).2}
noncomputable def AI:FuncId→Option Spec
 | 11=>some dR
 | 86=>some wg
 | _=>none
theorem Jb:∀ f sp,AI f=some sp→ah aA f sp:=by
 intro f sp h
 unfold AI at h
 split at h
 ·cases h;exact jQ
 ·cases h;exact VG
 ·cases h
noncomputable def tS:FuncId→Option aH
 | 30=>some dy
 | 80=>some fP
 | 81=>some fx
 | _=>none
theorem Fg:∀ f ps,tS f=some ps→aj aA f ps:=by
 intro f ps h
 unfold tS at h
 split at h
 ·cases h;exact gi
 ·cases h;exact lP
 ·cases h;exact kI
 ·cases h
theorem TR (W:cM) (Q:bx→Prop) (x:br):run (env AI tS true (fun _ _=>none)) (fun _ _ _=>none) (cY qU x.1 Q) W 100000 (bF 44 Tryz.f44 (ag Tryz.f44) (qU.dt x.2.2)) [] (H0 qU x.1 x.2.1)=(vI x).wp Q:=by kernel_rfl
theorem Vr:aj aA 44 qU:=aj.env rfl (fun _ _ h=>h) (az (E:=(env AI tS true (fun _ _=>none))) (ps:=qU) (valid _ _ _ _) ⟨fun f sp h=>ah.env rfl (fun _ _ h=>h) (Jb f sp h),fun f ps h=>aj.env rfl (fun _ _ h=>h) (Fg f ps h)⟩ (by kernel_rfl) (fn:=Tryz.f44) (c:=(ag Tryz.f44)) (by kernel_rfl) (by kernel_rfl) vI TR (fun _ h=>Tr.an h))
noncomputable def oN (x:B9):Tr fW:=
 let y0:ze:=x.2.2
 let y1:dh:=y0.2
 .ite y1.2.1 (
 let y2:=y0.1
 let y3:=y1.1
 let y4:Int:=(iu .u64 y2.2.2 y3.2.2)
 .aa (bn y4)<|
 let y5:=x.2.1
 let y6:Nat:=y5.length
 .aa ((y6:Nat)=y6)<|
 let y7:=x.1.2
 let y8:bk:=(x.1.1,(y7.1,((),y7.2.2)))
 .aa (y8=x.1)<|
 .ret (y5,(aP y4))) (
 .aa ((0:Nat) < 2)<|
 .aa ((1:Nat) < 2)<|
 let y9:=x.2.1
 let y10:Nat:=y9.length
 .aa ((y10:Nat)=y10)<|
 .aa (((0:Nat)+2:Nat)≤2)<|
 let y11:=x.1.2
 let y12:bk:=(x.1.1,(y11.1,((),y11.2.2)))
 let y13:=y0.1
 let y14:=y1.1
 let y15:gN:=(y12,(y9,(3,(1,[y13,y14]))))
 .aa (bN y15)<|
 let y16:=(ba y15).1
 let y17:Nat:=y16.length
 .aa ((y17:Nat)=y17)<|
 .aa (y12=x.1)<|
 .ret (y16,(ba y15).2))
noncomputable def sf (x:B9):fW:=(oN x).val
def zN (x:B9):Prop:=(oN x).ok
noncomputable def ng:aH:={t:=51,lf:=2,te:=38,ce:=aZ,st:=(.st bA (.st (.int .i64) (.st .bC (.st (.int .u64) (.st ar (.st ar (.st ar (.bu ar)))))))),arg:=(.st ar (.st ar (.bu (.ref ar)))),cB:=ar,n:=1,pos:=3,box:=true,pre:=zN,f:=fun x=>(sf x).1,g:=fun x=>(sf x).2}
noncomputable def uv:FuncId→Option Spec
 | 11=>some dR
 | _=>none
theorem FN:∀ f sp,uv f=some sp→ah aA f sp:=by
 intro f sp h
 unfold uv at h
 split at h
 ·cases h;exact jQ
 ·cases h
noncomputable def o7:FuncId→Option aH
 | 30=>some dy
 | _=>none
theorem CH:∀ f ps,o7 f=some ps→aj aA f ps:=by
 intro f ps h
 unfold o7 at h
 split at h
 ·cases h;exact gi
 ·cases h
theorem Qj (W:cM) (Q:fW→Prop) (x:B9):run (env uv o7 true (fun _ _=>none)) (fun _ _ _=>none) (cY ng x.1 Q) W 100000 (bF 152 Tryz.f152 (ag Tryz.f152) (ng.dt x.2.2)) [] (H0 ng x.1 x.2.1)=(oN x).wp Q:=by kernel_rfl
theorem Rg:aj aA 152 ng:=aj.env rfl (fun _ _ h=>h) (az (E:=(env uv o7 true (fun _ _=>none))) (ps:=ng) (valid _ _ _ _) ⟨fun f sp h=>ah.env rfl (fun _ _ h=>h) (FN f sp h),fun f ps h=>aj.env rfl (fun _ _ h=>h) (CH f ps h)⟩ (by kernel_rfl) (fn:=Tryz.f152) (c:=(ag Tryz.f152)) (by kernel_rfl) (by kernel_rfl) oN Qj (fun _ h=>Tr.an h))
noncomputable def oM (x:kF):Tr fW:=
 .aa (bn 1)<|
 .aa ((0:Nat) < 2)<|
 .aa ((1:Nat) < 2)<|
 let y0:aq:=x.2.1
 let y1:Nat:=y0.length
 .aa ((y1:Nat)=y1)<|
 let y2:ew:=x.1.2
 let y3:bk:=(x.1.1,(y2.1,((),y2.2.2)))
 let y4:gN:=(y3,(y0,(8,(1,[x.2.2,(aP 1)]))))
 .aa (bN y4)<|
 let y5:aq:=(ba y4).1
 let y6:Nat:=y5.length
 .aa ((y6:Nat)=y6)<|
 .aa (y3=x.1)<|
 .ret (y5,(ba y4).2)
noncomputable def nR (x:kF):fW:=(oM x).val
def wG (x:kF):Prop:=(oM x).ok
noncomputable def nd:aH:={t:=51,lf:=2,te:=38,ce:=aZ,st:=(.st bA (.st (.int .i64) (.st .bC (.st (.int .u64) (.st ar (.st ar (.st ar (.bu ar)))))))),arg:=(.bu ar),cB:=ar,n:=1,pos:=1,box:=true,pre:=wG,f:=fun x=>(nR x).1,g:=fun x=>(nR x).2}
noncomputable def uu:FuncId→Option Spec
 | 11=>some dR
 | _=>none
theorem FM:∀ f sp,uu f=some sp→ah aA f sp:=by
 intro f sp h
 unfold uu at h
 split at h
 ·cases h;exact jQ
 ·cases h
noncomputable def o6:FuncId→Option aH
 | 30=>some dy
 | _=>none
theorem CG:∀ f ps,o6 f=some ps→aj aA f ps:=by
 intro f ps h
 unfold o6 at h
 split at h
 ·cases h;exact gi
 ·cases h
theorem Qi (W:cM) (Q:fW→Prop) (x:kF):run (env uu o6 true (fun _ _=>none)) (fun _ _ _=>none) (cY nd x.1 Q) W 100000 (bF 153 Tryz.f153 (ag Tryz.f153) (nd.dt x.2.2)) [] (H0 nd x.1 x.2.1)=(oM x).wp Q:=by kernel_rfl
theorem Rf:aj aA 153 nd:=aj.env rfl (fun _ _ h=>h) (az (E:=(env uu o6 true (fun _ _=>none))) (ps:=nd) (valid _ _ _ _) ⟨fun f sp h=>ah.env rfl (fun _ _ h=>h) (FM f sp h),fun f ps h=>aj.env rfl (fun _ _ h=>h) (CG f ps h)⟩ (by kernel_rfl) (fn:=Tryz.f153) (c:=(ag Tryz.f153)) (by kernel_rfl) (by kernel_rfl) oM Qi (fun _ h=>Tr.an h))
noncomputable def oK (x:kF):Tr fW:=
 .aa ((0:Nat) < 1)<|
 let y0:aq:=x.2.1
 let y1:Nat:=y0.length
 .aa ((y1:Nat)=y1)<|
 let y2:ew:=x.1.2
 let y3:Int:=y2.1
 let y4:bk:=(x.1.1,(y3,((),y2.2.2)))
 let y5:gN:=(y4,(y0,(23,(y3,[x.2.2]))))
 .aa (bN y5)<|
 let y6:aq:=(ba y5).1
 let y7:Nat:=y6.length
 .aa ((y7:Nat)=y7)<|
 .aa (y4=x.1)<|
 .ret (y6,(ba y5).2)
noncomputable def lR (x:kF):fW:=(oK x).val
def rq (x:kF):Prop:=(oK x).ok
noncomputable def nc:aH:={t:=51,lf:=2,te:=38,ce:=aZ,st:=(.st bA (.st (.int .i64) (.st .bC (.st (.int .u64) (.st ar (.st ar (.st ar (.bu ar)))))))),arg:=(.bu ar),cB:=ar,n:=1,pos:=1,box:=true,pre:=rq,f:=fun x=>(lR x).1,g:=fun x=>(lR x).2}
noncomputable def ur:FuncId→Option Spec
 | _=>none
theorem FL:∀ f sp,ur f=some sp→ah aA f sp:=by
 intro f sp h
 unfold ur at h
 split at h
 ·cases h
noncomputable def o5:FuncId→Option aH
 | 30=>some dy
 | _=>none
theorem CF:∀ f ps,o5 f=some ps→aj aA f ps:=by
 intro f ps h
 unfold o5 at h
 split at h
 ·cases h;exact gi
 ·cases h
theorem Qh (W:cM) (Q:fW→Prop) (x:kF):run (env ur o5 true (fun _ _=>none)) (fun _ _ _=>none) (cY nc x.1 Q) W 100000 (bF 154 Tryz.f154 (ag Tryz.f154) (nc.dt x.2.2)) [] (H0 nc x.1 x.2.1)=(oK x).wp Q:=by kernel_rfl
theorem Re:aj aA 154 nc:=aj.env rfl (fun _ _ h=>h) (az (E:=(env ur o5 true (fun _ _=>none))) (ps:=nc) (valid _ _ _ _) ⟨fun f sp h=>ah.env rfl (fun _ _ h=>h) (FL f sp h),fun f ps h=>aj.env rfl (fun _ _ h=>h) (CF f ps h)⟩ (by kernel_rfl) (fn:=Tryz.f154) (c:=(ag Tryz.f154)) (by kernel_rfl) (by kernel_rfl) oK Qh (fun _ h=>Tr.an h))
noncomputable def oR (x:B9):Tr Eh:=
 let y0:DI:=x.1.1
 let y1:Int:=y0.1
 .ite (ak y1 16) (
 let y2:=x.1.2
 let y3:=y2.1
 let y4:Int:=(aN .u64 (gz .i64 8 y3))
 .aa (bn y4)<|
 let y5:=x.2.1
 let y6:Nat:=y5.length
 .aa ((y6:Nat)=y6)<|
 let y7:bk:=(y0,(y3,((),y2.2.2)))
 let y8:=x.2.2
 let y9:=y8.2
 let y10:=y9.2
 let y11:Kv:=(y7,(y5,((aP y4),(y10,y10))))
 .aa (zN y11)<|
 .aa ((0:Nat) < 2)<|
 .aa ((1:Nat) < 2)<|
 let y12:=(sf y11).1
 let y13:Nat:=y12.length
 .aa ((y13:Nat)=y13)<|
 let y14:=y8.1
 let y15:gN:=(y7,(y12,(12,(y3,[y14,(sf y11).2]))))
 .aa (bN y15)<|
 let y16:=(ba y15).1
 let y17:Nat:=y16.length
 .aa ((y17:Nat)=y17)<|
 let y18:fM:=(y7,(y16,(ba y15).2))
 .aa (wG y18)<|
 let y19:=(nR y18).1
 let y20:Nat:=y19.length
 .aa ((y20:Nat)=y20)<|
 let y21:=y9.1
 let y22:fM:=(y7,(y19,y21))
 .aa (rq y22)<|
 .aa ((0:Nat) < 2)<|
 .aa ((1:Nat) < 2)<|
 let y23:=(lR y22).1
 let y24:Nat:=y23.length
 .aa ((y24:Nat)=y24)<|
 let y25:=(nR y18).2
 let y26:gN:=(y7,(y23,(10,(1,[(lR y22).2,y25]))))
 .aa (bN y26)<|
 let y27:=(ba y26).1
 let y28:Nat:=y27.length
 .aa ((y28:Nat)=y28)<|
 .aa (y7=x.1)<|
 .ret (y27,(y25,(ba y26).2))) (
 .ite (ak y1 17) (
 .aa (bn 1)<|
 let y29:=x.2.1
 let y30:Nat:=y29.length
 .aa ((y30:Nat)=y30)<|
 let y31:=x.1.2
 let y32:=y31.1
 let y33:bk:=(y0,(y32,((),y31.2.2)))
 let y34:=x.2.2
 let y35:=y34.2
 let y36:=y35.2
 let y37:Kv:=(y33,(y29,(y36,((aP 1),y36))))
 .aa (zN y37)<|
 .aa ((0:Nat) < 2)<|
 .aa ((1:Nat) < 2)<|
 let y38:=(sf y37).1
 let y39:Nat:=y38.length
 .aa ((y39:Nat)=y39)<|
 let y40:=y34.1
 let y41:lW:=(y32,[y40,(sf y37).2])
 let y42:gN:=(y33,(y38,(12,y41)))
 .aa (bN y42)<|
 let y43:=(ba y42).1
 let y44:Nat:=y43.length
 .aa ((y44:Nat)=y44)<|
 let y45:fM:=(y33,(y43,(ba y42).2))
 .aa (wG y45)<|
 let y46:=(nR y45).1
 let y47:Nat:=y46.length
 .aa ((y47:Nat)=y47)<|
 let y48:fM:=(y33,(y46,y40))
 .aa (rq y48)<|
 let y49:=(lR y48).1
 let y50:Nat:=y49.length
 .aa ((y50:Nat)=y50)<|
 .aa (y33=x.1)<|
 .ret (y49,((nR y45).2,(lR y48).2))) (
 .ite (ak y1 18) (
 .aa (bn 1)<|
 let y51:=x.2.1
 let y52:Nat:=y51.length
 .aa ((y52:Nat)=y52)<|
 let y53:=x.1.2
 let y54:=y53.1
 let y55:bk:=(y0,(y54,((),y53.2.2)))
 let y56:=x.2.2
 let y57:=y56.2
 let y58:=y57.2
 let y59:Kv:=(y55,(y51,(y58,((aP 1),y58))))
 .aa (zN y59)<|
 .aa ((0:Nat) < 2)<|
 .aa ((1:Nat) < 2)<|
 let y60:=(sf y59).1
 let y61:Nat:=y60.length
 .aa ((y61:Nat)=y61)<|
 let y62:=y56.1
 let y63:lW:=(y54,[y62,(sf y59).2])
 let y64:gN:=(y55,(y60,(13,y63)))
 .aa (bN y64)<|
 let y65:=(ba y64).1
 let y66:Nat:=y65.length
 .aa ((y66:Nat)=y66)<|
 let y67:fM:=(y55,(y65,(ba y64).2))
 .aa (wG y67)<|
 .aa (bn 0)<|
 let y68:=(nR y67).1
 let y69:Nat:=y68.length
 .aa ((y69:Nat)=y69)<|
 .aa (y55=x.1)<|
 .ret (y68,((nR y67).2,(aP 0)))) (
 .ite (ak y1 19) (
 let y70:=x.2.1
 let y71:Nat:=y70.length
 .aa ((y71:Nat)=y71)<|
 let y72:=x.1.2
 let y73:=y72.1
 let y74:bk:=(y0,(y73,((),y72.2.2)))
 let y75:=x.2.2
 let y76:=y75.2
 let y77:=y76.1
 let y78:fM:=(y74,(y70,y77))
 .aa (wG y78)<|
 let y79:=(nR y78).1
 let y80:Nat:=y79.length
 .aa ((y80:Nat)=y80)<|
 let y81:fM:=(y74,(y79,y77))
 .aa (rq y81)<|
 .aa ((0:Nat) < 2)<|
 .aa ((1:Nat) < 2)<|
 let y82:=(lR y81).1
 let y83:Nat:=y82.length
 .aa ((y83:Nat)=y83)<|
 let y84:=(nR y78).2
 let y85:gN:=(y74,(y82,(10,(1,[(lR y81).2,y84]))))
 .aa (bN y85)<|
 let y86:=(ba y85).1
 let y87:Nat:=y86.length
 .aa ((y87:Nat)=y87)<|
 .aa (y74=x.1)<|
 .ret (y86,(y84,(ba y85).2))) (
 let y88:=x.2.1
 let y89:Nat:=y88.length
 .aa ((y89:Nat)=y89)<|
 let y90:=x.1.2
 let y91:=y90.1
 let y92:bk:=(y0,(y91,((),y90.2.2)))
 let y93:=x.2.2
 let y94:=y93.2
 let y95:=y94.1
 let y96:fM:=(y92,(y88,y95))
 .aa (rq y96)<|
 .aa (bn 1)<|
 .aa ((0:Nat) < 2)<|
 .aa ((1:Nat) < 2)<|
 let y97:=(lR y96).1
 let y98:Nat:=y97.length
 .aa ((y98:Nat)=y98)<|
 let y99:gN:=(y92,(y97,(11,(y91,[y95,(aP 1)]))))
 .aa (bN y99)<|
 let y100:=(ba y99).1
 let y101:Nat:=y100.length
 .aa ((y101:Nat)=y101)<|
 let y102:fM:=(y92,(y100,(ba y99).2))
 .aa (rq y102)<|
 .aa ((0:Nat) < 2)<|
 .aa ((1:Nat) < 2)<|
 let y103:=(lR y102).1
 let y104:Nat:=y103.length
 .aa ((y104:Nat)=y104)<|
 let y105:=(lR y96).2
 let y106:gN:=(y92,(y103,(10,(1,[y105,(lR y102).2]))))
 .aa (bN y106)<|
 let y107:=(ba y106).1
 let y108:Nat:=y107.length
 .aa ((y108:Nat)=y108)<|
 .aa (y92=x.1)<|
 .ret (y107,(y105,(ba y106).2))))))
noncomputable def lS (x:B9):Eh:=(oR x).val
def EG (x:B9):Prop:=(oR x).ok
noncomputable def nj:aH:={t:=51,lf:=2,te:=38,ce:=aZ,st:=(.st bA (.st (.int .i64) (.st .bC (.st (.int .u64) (.st ar (.st ar (.st ar (.bu ar)))))))),arg:=(.st ar (.st ar (.bu ar))),cB:=(.st ar (.bu ar)),n:=2,pos:=0,box:=false,pre:=EG,f:=fun x=>(lS x).1,g:=fun x=>(lS x).2}
noncomputable def uL:FuncId→Option Spec
 | 11=>some dR
 | _=>none
theorem F4:∀ f sp,uL f=some sp→ah aA f sp:=by
 intro f sp h
 unfold uL at h
 split at h
 ·cases h;exact jQ
 ·cases h
noncomputable def pf:FuncId→Option aH
 | 30=>some dy
 | 152=>some ng
 | 153=>some nd
 | 154=>some nc
 | _=>none
theorem CK:∀ f ps,pf f=some ps→aj aA f ps:=by
 intro f ps h
 unfold pf at h
 split at h
 ·cases h;exact gi
 ·cases h;exact Rg
 ·cases h;exact Rf
 ·cases h;exact Re
 ·cases h
theorem QA (W:cM) (Q:Eh→Prop) (x:B9):run (env uL pf true (fun _ _=>none)) (fun _ _ _=>none) (cY nj x.1 Q) W 100000 (bF 107 Tryz.f107 (ag Tryz.f107) (nj.dt x.2.2)) [] (H0 nj x.1 x.2.1)=(oR x).wp Q:=by kernel_rfl
theorem Rj:aj aA 107 nj:=aj.env rfl (fun _ _ h=>h) (az (E:=(env uL pf true (fun _ _=>none))) (ps:=nj) (valid _ _ _ _) ⟨fun f sp h=>ah.env rfl (fun _ _ h=>h) (F4 f sp h),fun f ps h=>aj.env rfl (fun _ _ h=>h) (CK f ps h)⟩ (by kernel_rfl) (fn:=Tryz.f107) (c:=(ag Tryz.f107)) (by kernel_rfl) (by kernel_rfl) oR QA (fun _ h=>Tr.an h))
noncomputable def oQ (x:B8):Tr bx:=
 let y0:(Int×dh):=x.2.2
 let y1:Int:=y0.1
 .aa (dZ y1)<|
 .aa ((0:Nat) < 3)<|
 .aa ((1:Nat) < 3)<|
 .aa ((2:Nat) < 3)<|
 let y2:aq:=x.2.1
 let y3:Nat:=y2.length
 .aa ((y3:Nat)=y3)<|
 let y4:ew:=x.1.2
 let y5:bk:=(x.1.1,(y4.1,((),y4.2.2)))
 let y6:dh:=y0.2
 let y7:gQ:=(y5,(y2,(26,(8,(y1,[y6.1,(fC y1),y6.2])))))
 .aa (bK y7)<|
 let y8:aq:=(cK y7).1
 let y9:Nat:=y8.length
 .aa ((y9:Nat)=y9)<|
 .aa (y5=x.1)<|
 .ret (y8,())
noncomputable def ig (x:B8):bx:=(oQ x).val
def gw (x:B8):Prop:=(oQ x).ok
noncomputable def ni:aH:={t:=51,lf:=2,te:=38,ce:=aZ,st:=(.st bA (.st (.int .i64) (.st .bC (.st (.int .u64) (.st ar (.st ar (.st ar (.bu ar)))))))),arg:=(.st (.int .i64) (.st ar (.bu (.ref ar)))),cB:=.unit,n:=0,pos:=2,box:=true,pre:=gw,f:=fun x=>(ig x).1,g:=fun x=>(ig x).2}
noncomputable def uK:FuncId→Option Spec
 | 20=>some fN
 | _=>none
theorem F3:∀ f sp,uK f=some sp→ah aA f sp:=by
 intro f sp h
 unfold uK at h
 split at h
 ·cases h;exact pj
 ·cases h
noncomputable def o9:FuncId→Option aH
 | 17=>some fQ
 | _=>none
theorem CJ:∀ f ps,o9 f=some ps→aj aA f ps:=by
 intro f ps h
 unfold o9 at h
 split at h
 ·cases h;exact lQ
 ·cases h
theorem Qz (W:cM) (Q:bx→Prop) (x:B8):run (env uK o9 true (fun _ _=>none)) (fun _ _ _=>none) (cY ni x.1 Q) W 100000 (bF 108 Tryz.f108 (ag Tryz.f108) (ni.dt x.2.2)) [] (H0 ni x.1 x.2.1)=(oQ x).wp Q:=by kernel_rfl
theorem Ri:aj aA 108 ni:=aj.env rfl (fun _ _ h=>h) (az (E:=(env uK o9 true (fun _ _=>none))) (ps:=ni) (valid _ _ _ _) ⟨fun f sp h=>ah.env rfl (fun _ _ h=>h) (F3 f sp h),fun f ps h=>aj.env rfl (fun _ _ h=>h) (CJ f ps h)⟩ (by kernel_rfl) (fn:=Tryz.f108) (c:=(ag Tryz.f108)) (by kernel_rfl) (by kernel_rfl) oQ Qz (fun _ h=>Tr.an h))
noncomputable def vg (x:B4):Tr bx:=
 let y0:aq:=x.2.1
 let y1:Nat:=y0.length
 .aa ((y1:Nat)=y1)<|
 let y2:DI:=x.1.1
 let y3:ew:=x.1.2
 let y4:Int:=y3.1
 let y5:nG:=y3.2.2
 let y6:bk:=(y2,(y4,((),y5)))
 let y7:eF:=y2.2.2.2
 let y8:nX:=(y6,(y0,(y7.1,(y5.2.1,y4))))
 .aa (jh y8)<|
 let y9:Int:=(aN .u64 (gz .i64 8 y4))
 .aa ((y9:Int)≠0)<|
 let y10:DO:=y7.2.1
 let y11:Int:=(fJ .u64 (aN .u64 y10.2.2.2.2.2.2.2) y9)
 .aa (bn y11)<|
 .ite (ak y10.1 1) (
 .aa (dZ 1)<|
 let y12:Int:=(iu .u64 y9 1)
 .aa (bn y12)<|
 .aa ((0:Nat) < 2)<|
 .aa ((1:Nat) < 2)<|
 let y13:=(fy y8).1
 let y14:Nat:=y13.length
 .aa ((y14:Nat)=y14)<|
 let y15:gN:=(y6,(y13,(8,(1,[(fC 1),(aP y12)]))))
 .aa (bN y15)<|
 .aa (bn 0)<|
 let y16:=(ba y15).2
 .ite (dB ar y16 (aP 0)) (
 .aa ((0:Nat) < 1)<|
 let y17:=(ba y15).1
 let y18:Nat:=y17.length
 .aa ((y18:Nat)=y18)<|
 let y19:=(fy y8).2
 let y20:xF:=(1,(y4,[y19]))
 let y21:gN:=(y6,(y17,y20))
 .aa (bN y21)<|
 let y22:=(ba y21).1
 let y23:Nat:=y22.length
 .aa ((y23:Nat)=y23)<|
 let y24:fM:=(y6,(y22,(ba y21).2))
 .aa (ji y24)<|
 let y25:=(jC y24).1
 let y26:Nat:=y25.length
 .aa ((y26:Nat)=y26)<|
 .aa (y6=x.1)<|
 .ret (y25,())) (
 .aa ((0:Nat) < 2)<|
 .aa ((1:Nat) < 2)<|
 let y27:=(ba y15).1
 let y28:Nat:=y27.length
 .aa ((y28:Nat)=y28)<|
 let y29:=x.2.2
 let y30:=(fy y8).2
 let y31:gN:=(y6,(y27,(y29,(y4,[y30,y16]))))
 .aa (bN y31)<|
 let y32:=(ba y31).1
 let y33:Nat:=y32.length
 .aa ((y33:Nat)=y33)<|
 let y34:=(ba y31).2
 let y35:Kv:=(y6,(y32,(y30,(y34,y16))))
 .aa (EG y35)<|
 let y36:=(lS y35).1
 let y37:Nat:=y36.length
 .aa ((y37:Nat)=y37)<|
 let y38:fM:=(y6,(y36,y34))
 .aa (ji y38)<|
 let y39:=((dG y29 14)==true)
 .ite y39 (
 let y40:=y16.1
 .ite y40 (
 let y41:=(jC y38).1
 let y42:Nat:=y41.length
 .aa ((y42:Nat)=y42)<|
 let y43:=(lS y35).2
 let y44:sv:=(y6,(y41,y43))
 .aa (mh y44)<|
 let y45:=(dG y29 15)
 .ite y45 (
 let y46:=(pJ y44).1
 let y47:Nat:=y46.length
 .aa ((y47:Nat)=y47)<|
 let y48:fM:=(y6,(y46,y34))
 .aa (nN y48)<|
 let y49:=(w7 y48).1
 let y50:Nat:=y49.length
 .aa ((y50:Nat)=y50)<|
 .aa (y6=x.1)<|
 .ret (y49,())) (
 let y51:=(pJ y44).1
 let y52:Nat:=y51.length
 .aa ((y52:Nat)=y52)<|
 .aa (y6=x.1)<|
 let y53:zb:=(y51,())
 .ret y53)) (
 let y54:=(jC y38).1
 let y55:Nat:=y54.length
 .aa ((y55:Nat)=y55)<|
 let y56:=(lS y35).2
 let y57:il:=(y6,(y54,(16,(y56.1,y16))))
 .aa (gw y57)<|
 let y58:=(ig y57).1
 let y59:Nat:=y58.length
 .aa ((y59:Nat)=y59)<|
 let y60:il:=(y6,(y58,(19,(y56.2,y16))))
 .aa (gw y60)<|
 let y61:=(dG y29 15)
 .ite y61 (
 .aa ((0:Nat) < 1)<|
 let y62:=(ig y60).1
 let y63:Nat:=y62.length
 .aa ((y63:Nat)=y63)<|
 let y64:lW:=(y4,[y34])
 let y65:gN:=(y6,(y62,(22,y64)))
 .aa (bN y65)<|
 .aa ((0:Nat) < 1)<|
 let y66:=(ba y65).1
 let y67:Nat:=y66.length
 .aa ((y67:Nat)=y67)<|
 let y68:gN:=(y6,(y66,(23,y64)))
 .aa (bN y68)<|
 .aa ((0:Nat) < 1)<|
 let y69:=(ba y68).1
 let y70:Nat:=y69.length
 .aa ((y70:Nat)=y70)<|
 let y71:gN:=(y6,(y69,(24,y64)))
 .aa (bN y71)<|
 let y72:=(ba y71).1
 let y73:Nat:=y72.length
 .aa ((y73:Nat)=y73)<|
 let y74:il:=(y6,(y72,(17,((ba y65).2,y16))))
 .aa (gw y74)<|
 let y75:=(ig y74).1
 let y76:Nat:=y75.length
 .aa ((y76:Nat)=y76)<|
 let y77:il:=(y6,(y75,(18,((ba y68).2,y16))))
 .aa (gw y77)<|
 let y78:=(ig y77).1
 let y79:Nat:=y78.length
 .aa ((y79:Nat)=y79)<|
 let y80:il:=(y6,(y78,(20,((ba y71).2,y16))))
 .aa (gw y80)<|
 let y81:=(ig y80).1
 let y82:Nat:=y81.length
 .aa ((y82:Nat)=y82)<|
 .aa (y6=x.1)<|
 .ret (y81,())) (
 let y83:=(ig y60).1
 let y84:Nat:=y83.length
 .aa ((y84:Nat)=y84)<|
 .aa (y6=x.1)<|
 let y85:zb:=(y83,())
 .ret y85))) (
 let y86:=y16.1
 .ite y86 (
 let y87:=(jC y38).1
 let y88:Nat:=y87.length
 .aa ((y88:Nat)=y88)<|
 let y89:=(lS y35).2
 let y90:sv:=(y6,(y87,y89))
 .aa (mh y90)<|
 let y91:=(pJ y90).1
 let y92:Nat:=y91.length
 .aa ((y92:Nat)=y92)<|
 .aa (y6=x.1)<|
 let y93:zb:=(y91,())
 .ret y93) (
 let y94:=(jC y38).1
 let y95:Nat:=y94.length
 .aa ((y95:Nat)=y95)<|
 let y96:=(lS y35).2
 let y97:il:=(y6,(y94,(16,(y96.1,y16))))
 .aa (gw y97)<|
 let y98:=(ig y97).1
 let y99:Nat:=y98.length
 .aa ((y99:Nat)=y99)<|
 let y100:il:=(y6,(y98,(19,(y96.2,y16))))
 .aa (gw y100)<|
 let y101:=(ig y100).1
 let y102:Nat:=y101.length
 .aa ((y102:Nat)=y102)<|
 .aa (y6=x.1)<|
 let y103:zb:=(y101,())
 .ret y103)))) (
 .aa (bn 0)<|
 let y104:=(aP y11)
 .ite (dB ar y104 (aP 0)) (
 .aa ((0:Nat) < 1)<|
 let y105:=(fy y8).1
 let y106:Nat:=y105.length
 .aa ((y106:Nat)=y106)<|
 let y107:=(fy y8).2
 let y108:xF:=(1,(y4,[y107]))
 let y109:gN:=(y6,(y105,y108))
 .aa (bN y109)<|
 let y110:=(ba y109).1
 let y111:Nat:=y110.length
 .aa ((y111:Nat)=y111)<|
 let y112:fM:=(y6,(y110,(ba y109).2))
 .aa (ji y112)<|
 let y113:=(jC y112).1
 let y114:Nat:=y113.length
 .aa ((y114:Nat)=y114)<|
 .aa (y6=x.1)<|
 .ret (y113,())) (
 .aa ((0:Nat) < 2)<|
 .aa ((1:Nat) < 2)<|
 let y115:=(fy y8).1
 let y116:Nat:=y115.length
 .aa ((y116:Nat)=y116)<|
 let y117:=x.2.2
 let y118:=(fy y8).2
 let y119:gN:=(y6,(y115,(y117,(y4,[y118,y104]))))
 .aa (bN y119)<|
 let y120:=(ba y119).1
 let y121:Nat:=y120.length
 .aa ((y121:Nat)=y121)<|
 let y122:=(ba y119).2
 let y123:Kv:=(y6,(y120,(y118,(y122,y104))))
 .aa (EG y123)<|
 let y124:=(lS y123).1
 let y125:Nat:=y124.length
 .aa ((y125:Nat)=y125)<|
 let y126:fM:=(y6,(y124,y122))
 .aa (ji y126)<|
 let y127:=((dG y117 14)==true)
 .ite y127 (
 let y128:=y104.1
 .ite y128 (
 let y129:=(jC y126).1
 let y130:Nat:=y129.length
 .aa ((y130:Nat)=y130)<|
 let y131:=(lS y123).2
 let y132:sv:=(y6,(y129,y131))
 .aa (mh y132)<|
 let y133:=(dG y117 15)
 .ite y133 (
 let y134:=(pJ y132).1
 let y135:Nat:=y134.length
 .aa ((y135:Nat)=y135)<|
 let y136:fM:=(y6,(y134,y122))
 .aa (nN y136)<|
 let y137:=(w7 y136).1
 let y138:Nat:=y137.length
 .aa ((y138:Nat)=y138)<|
 .aa (y6=x.1)<|
 .ret (y137,())) (
 let y139:=(pJ y132).1
 let y140:Nat:=y139.length
 .aa ((y140:Nat)=y140)<|
 .aa (y6=x.1)<|
 let y141:zb:=(y139,())
 .ret y141)) (
 let y142:=(jC y126).1
 let y143:Nat:=y142.length
 .aa ((y143:Nat)=y143)<|
 let y144:=(lS y123).2
 let y145:il:=(y6,(y142,(16,(y144.1,y104))))
 .aa (gw y145)<|
 let y146:=(ig y145).1
 let y147:Nat:=y146.length
 .aa ((y147:Nat)=y147)<|
 let y148:il:=(y6,(y146,(19,(y144.2,y104))))
 .aa (gw y148)<|
 let y149:=(dG y117 15)
 .ite y149 (
 .aa ((0:Nat) < 1)<|
 let y150:=(ig y148).1
 let y151:Nat:=y150.length
 .aa ((y151:Nat)=y151)<|
 let y152:lW:=(y4,[y122])
 let y153:gN:=(y6,(y150,(22,y152)))
 .aa (bN y153)<|
 .aa ((0:Nat) < 1)<|
 let y154:=(ba y153).1
 let y155:Nat:=y154.length
 .aa ((y155:Nat)=y155)<|
 let y156:gN:=(y6,(y154,(23,y152)))
 .aa (bN y156)<|
 .aa ((0:Nat) < 1)<|
 let y157:=(ba y156).1
 let y158:Nat:=y157.length
 .aa ((y158:Nat)=y158)<|
 let y159:gN:=(y6,(y157,(24,y152)))
 .aa (bN y159)<|
 let y160:=(ba y159).1
 let y161:Nat:=y160.length
 .aa ((y161:Nat)=y161)<|
 let y162:il:=(y6,(y160,(17,((ba y153).2,y104))))
 .aa (gw y162)<|
 let y163:=(ig y162).1
 let y164:Nat:=y163.length
 .aa ((y164:Nat)=y164)<|
 let y165:il:=(y6,(y163,(18,((ba y156).2,y104))))
 .aa (gw y165)<|
 let y166:=(ig y165).1
 let y167:Nat:=y166.length
 .aa ((y167:Nat)=y167)<|
 let y168:il:=(y6,(y166,(20,((ba y159).2,y104))))
 .aa (gw y168)<|
 let y169:=(ig y168).1
 let y170:Nat:=y169.length
 .aa ((y170:Nat)=y170)<|
 .aa (y6=x.1)<|
 .ret (y169,())) (
 let y171:=(ig y148).1
 let y172:Nat:=y171.length
 .aa ((y172:Nat)=y172)<|
 .aa (y6=x.1)<|
 let y173:zb:=(y171,())
 .ret y173))) (
 let y174:=y104.1
 .ite y174 (
 let y175:=(jC y126).1
 let y176:Nat:=y175.length
 .aa ((y176:Nat)=y176)<|
 let y177:=(lS y123).2
 let y178:sv:=(y6,(y175,y177))
 .aa (mh y178)<|
 let y179:=(pJ y178).1
 let y180:Nat:=y179.length
 .aa ((y180:Nat)=y180)<|
 .aa (y6=x.1)<|
 let y181:zb:=(y179,())
 .ret y181) (
 let y182:=(jC y126).1
 let y183:Nat:=y182.length
 .aa ((y183:Nat)=y183)<|
 let y184:=(lS y123).2
 let y185:il:=(y6,(y182,(16,(y184.1,y104))))
 .aa (gw y185)<|
 let y186:=(ig y185).1
 let y187:Nat:=y186.length
 .aa ((y187:Nat)=y187)<|
 let y188:il:=(y6,(y186,(19,(y184.2,y104))))
 .aa (gw y188)<|
 let y189:=(ig y188).1
 let y190:Nat:=y189.length
 .aa ((y190:Nat)=y190)<|
 .aa (y6=x.1)<|
 let y191:zb:=(y189,())
 .ret y191))))
noncomputable def Gi (x:B4):bx:=(vg x).val
def ya (x:B4):Prop:=(vg x).ok
noncomputable def kf:aH:={t:=51,lf:=2,te:=38,ce:=aZ,st:=(.st bA (.st (.int .i64) (.st .bC (.st (.int .u64) (.st ar (.st ar (.st ar (.bu ar)))))))),arg:=(.bu (.int .u8)),cB:=.unit,n:=0,pos:=0,box:=false,pre:=ya,f:=fun x=>(Gi x).1,g:=fun x=>(Gi x).2}
noncomputable def Aa:FuncId→Option Spec
 | 11=>some dR
 | 20=>some fN
 | _=>none
theorem IB:∀ f sp,Aa f=some sp→ah aA f sp:=by
 intro f sp h
 unfold Aa at h
 split at h
 ·cases h;exact jQ
 ·cases h;exact pj
 ·cases h
noncomputable def tr:FuncId→Option aH
 | 30=>some dy
 | 80=>some fP
 | 81=>some fx
 | 89=>some ke
 | 90=>some jz
 | 107=>some nj
 | 108=>some ni
 | _=>none
theorem ES:∀ f ps,tr f=some ps→aj aA f ps:=by
 intro f ps h
 unfold tr at h
 split at h
 ·cases h;exact gi
 ·cases h;exact lP
 ·cases h;exact kI
 ·cases h;exact CD
 ·cases h;exact yf
 ·cases h;exact Rj
 ·cases h;exact Ri
 ·cases h
theorem Tf (W:cM) (Q:bx→Prop) (x:B4):run (env Aa tr true (fun _ _=>none)) (fun _ _ _=>none) (cY kf x.1 Q) W 100000 (bF 87 Tryz.f87 (ag Tryz.f87) (kf.dt x.2.2)) [] (H0 kf x.1 x.2.1)=(vg x).wp Q:=by kernel_rfl
theorem CE:aj aA 87 kf:=aj.env rfl (fun _ _ h=>h) (az (E:=(env Aa tr true (fun _ _=>none))) (ps:=kf) (valid _ _ _ _) ⟨fun f sp h=>ah.env rfl (fun _ _ h=>h) (IB f sp h),fun f ps h=>aj.env rfl (fun _ _ h=>h) (ES f ps h)⟩ (by kernel_rfl) (fn:=Tryz.f87) (c:=(ag Tryz.f87)) (by kernel_rfl) (by kernel_rfl) vg Tf (fun _ h=>Tr.an h))
noncomputable def vH (x:br):Tr bx:=
 let y0:aq:=x.2.1
 let y1:Nat:=y0.length
 .aa ((y1:Nat)=y1)<|
 let y2:ew:=x.1.2
 let y3:bk:=(x.1.1,(y2.1,((),y2.2.2)))
 let y4:B6:=(y3,(y0,11))
 .aa (ya y4)<|
 let y5:aq:=(Gi y4).1
 let y6:Nat:=y5.length
 .aa ((y6:Nat)=y6)<|
 .aa (y3=x.1)<|
 .ret (y5,())
noncomputable def RR (x:br):bx:=(vH x).val
def Pd (x:br):Prop:=(vH x).ok
noncomputable def qT:aH:={t:=51,lf:=2,te:=38,ce:=aZ,st:=(.st bA (.st (.int .i64) (.st .bC (.st (.int .u64) (.st ar (.st ar (.st ar (.bu ar)))))))),arg:=.unit,cB:=.unit,n:=0,pos:=0,box:=false,pre:=Pd,f:=fun x=>(RR x).1,g:=fun x=>(RR x).2}
noncomputable def AH:FuncId→Option Spec
 | _=>none
theorem Ja:∀ f sp,AH f=some sp→ah aA f sp:=by
 intro f sp h
 unfold AH at h
 split at h
 ·cases h
noncomputable def tR:FuncId→Option aH
 | 87=>some kf
 | _=>none
theorem Ff:∀ f ps,tR f=some ps→aj aA f ps:=by
 intro f ps h
 unfold tR at h
 split at h
 ·cases h;exact CE
 ·cases h
theorem TQ (W:cM) (Q:bx→Prop) (x:br):run (env AH tR true (fun _ _=>none)) (fun _ _ _=>none) (cY qT x.1 Q) W 100000 (bF 45 Tryz.f45 (ag Tryz.f45) (qT.dt x.2.2)) [] (H0 qT x.1 x.2.1)=(vH x).wp Q:=by kernel_rfl
theorem Vq:aj aA 45 qT:=aj.env rfl (fun _ _ h=>h) (az (E:=(env AH tR true (fun _ _=>none))) (ps:=qT) (valid _ _ _ _) ⟨fun f sp h=>ah.env rfl (fun _ _ h=>h) (Ja f sp h),fun f ps h=>aj.env rfl (fun _ _ h=>h) (Ff f ps h)⟩ (by kernel_rfl) (fn:=Tryz.f45) (c:=(ag Tryz.f45)) (by kernel_rfl) (by kernel_rfl) vH TQ (fun _ h=>Tr.an h))
noncomputable def vG (x:br):Tr bx:=
 let y0:aq:=x.2.1
 let y1:Nat:=y0.length
 .aa ((y1:Nat)=y1)<|
 let y2:ew:=x.1.2
 let y3:bk:=(x.1.1,(y2.1,((),y2.2.2)))
 let y4:B6:=(y3,(y0,12))
 .aa (ya y4)<|
 let y5:aq:=(Gi y4).1
 let y6:Nat:=y5.length
 .aa ((y6:Nat)=y6)<|
 .aa (y3=x.1)<|
 .ret (y5,())
noncomputable def RQ (x:br):bx:=(vG x).val
def Pc (x:br):Prop:=(vG x).ok
noncomputable def qS:aH:={t:=51,lf:=2,te:=38,ce:=aZ,st:=(.st bA (.st (.int .i64) (.st .bC (.st (.int .u64) (.st ar (.st ar (.st ar (.bu ar)))))))),arg:=.unit,cB:=.unit,n:=0,pos:=0,box:=false,pre:=Pc,f:=fun x=>(RQ x).1,g:=fun x=>(RQ x).2}
noncomputable def AG:FuncId→Option Spec
 | _=>none
theorem I9:∀ f sp,AG f=some sp→ah aA f sp:=by
 intro f sp h
 unfold AG at h
 split at h
 ·cases h
noncomputable def tQ:FuncId→Option aH
 | 87=>some kf
 | _=>none
theorem Fe:∀ f ps,tQ f=some ps→aj aA f ps:=by
 intro f ps h
 unfold tQ at h
 split at h
 ·cases h;exact CE
 ·cases h
theorem TP (W:cM) (Q:bx→Prop) (x:br):run (env AG tQ true (fun _ _=>none)) (fun _ _ _=>none) (cY qS x.1 Q) W 100000 (bF 46 Tryz.f46 (ag Tryz.f46) (qS.dt x.2.2)) [] (H0 qS x.1 x.2.1)=(vG x).wp Q:=by kernel_rfl
theorem Vp:aj aA 46 qS:=aj.env rfl (fun _ _ h=>h) (az (E:=(env AG tQ true (fun _ _=>none))) (ps:=qS) (valid _ _ _ _) ⟨fun f sp h=>ah.env rfl (fun _ _ h=>h) (I9 f sp h),fun f ps h=>aj.env rfl (fun _ _ h=>h) (Fe f ps h)⟩ (by kernel_rfl) (fn:=Tryz.f46) (c:=(ag Tryz.f46)) (by kernel_rfl) (by kernel_rfl) vG TP (fun _ h=>Tr.an h))
noncomputable def vF (x:br):Tr bx:=
 let y0:aq:=x.2.1
 let y1:Nat:=y0.length
 .aa ((y1:Nat)=y1)<|
 let y2:ew:=x.1.2
 let y3:bk:=(x.1.1,(y2.1,((),y2.2.2)))
 let y4:B6:=(y3,(y0,13))
 .aa (ya y4)<|
 let y5:aq:=(Gi y4).1
 let y6:Nat:=y5.length
 .aa ((y6:Nat)=y6)<|
 .aa (y3=x.1)<|
 .ret (y5,())
noncomputable def RP (x:br):bx:=(vF x).val
def Pb (x:br):Prop:=(vF x).ok
noncomputable def qR:aH:={t:=51,lf:=2,te:=38,ce:=aZ,st:=(.st bA (.st (.int .i64) (.st .bC (.st (.int .u64) (.st ar (.st ar (.st ar (.bu ar)))))))),arg:=.unit,cB:=.unit,n:=0,pos:=0,box:=false,pre:=Pb,f:=fun x=>(RP x).1,g:=fun x=>(RP x).2}
noncomputable def AF:FuncId→Option Spec
 | _=>none
theorem I8:∀ f sp,AF f=some sp→ah aA f sp:=by
 intro f sp h
 unfold AF at h
 split at h
 ·cases h
noncomputable def tP:FuncId→Option aH
 | 87=>some kf
 | _=>none
theorem Fc:∀ f ps,tP f=some ps→aj aA f ps:=by
 intro f ps h
 unfold tP at h
 split at h
 ·cases h;exact CE
 ·cases h
theorem TO (W:cM) (Q:bx→Prop) (x:br):run (env AF tP true (fun _ _=>none)) (fun _ _ _=>none) (cY qR x.1 Q) W 100000 (bF 47 Tryz.f47 (ag Tryz.f47) (qR.dt x.2.2)) [] (H0 qR x.1 x.2.1)=(vF x).wp Q:=by kernel_rfl
theorem Vo:aj aA 47 qR:=aj.env rfl (fun _ _ h=>h) (az (E:=(env AF tP true (fun _ _=>none))) (ps:=qR) (valid _ _ _ _) ⟨fun f sp h=>ah.env rfl (fun _ _ h=>h) (I8 f sp h),fun f ps h=>aj.env rfl (fun _ _ h=>h) (Fc f ps h)⟩ (by kernel_rfl) (fn:=Tryz.f47) (c:=(ag Tryz.f47)) (by kernel_rfl) (by kernel_rfl) vF TO (fun _ h=>Tr.an h))
noncomputable def vE (x:br):Tr bx:=
 let y0:aq:=x.2.1
 let y1:Nat:=y0.length
 .aa ((y1:Nat)=y1)<|
 let y2:ew:=x.1.2
 let y3:bk:=(x.1.1,(y2.1,((),y2.2.2)))
 let y4:B6:=(y3,(y0,14))
 .aa (ya y4)<|
 let y5:aq:=(Gi y4).1
 let y6:Nat:=y5.length
 .aa ((y6:Nat)=y6)<|
 .aa (y3=x.1)<|
 .ret (y5,())
noncomputable def RO (x:br):bx:=(vE x).val
def Pa (x:br):Prop:=(vE x).ok
noncomputable def qQ:aH:={t:=51,lf:=2,te:=38,ce:=aZ,st:=(.st bA (.st (.int .i64) (.st .bC (.st (.int .u64) (.st ar (.st ar (.st ar (.bu ar)))))))),arg:=.unit,cB:=.unit,n:=0,pos:=0,box:=false,pre:=Pa,f:=fun x=>(RO x).1,g:=fun x=>(RO x).2}
noncomputable def AE:FuncId→Option Spec
 | _=>none
theorem I7:∀ f sp,AE f=some sp→ah aA f sp:=by
 intro f sp h
 unfold AE at h
 split at h
 ·cases h
noncomputable def tO:FuncId→Option aH
 | 87=>some kf
 | _=>none
theorem Fb:∀ f ps,tO f=some ps→aj aA f ps:=by
 intro f ps h
 unfold tO at h
 split at h
 ·cases h;exact CE
 ·cases h
theorem TN (W:cM) (Q:bx→Prop) (x:br):run (env AE tO true (fun _ _=>none)) (fun _ _ _=>none) (cY qQ x.1 Q) W 100000 (bF 48 Tryz.f48 (ag Tryz.f48) (qQ.dt x.2.2)) [] (H0 qQ x.1 x.2.1)=(vE x).wp Q:=by kernel_rfl
theorem Vn:aj aA 48 qQ:=aj.env rfl (fun _ _ h=>h) (az (E:=(env AE tO true (fun _ _=>none))) (ps:=qQ) (valid _ _ _ _) ⟨fun f sp h=>ah.env rfl (fun _ _ h=>h) (I7 f sp h),fun f ps h=>aj.env rfl (fun _ _ h=>h) (Fb f ps h)⟩ (by kernel_rfl) (fn:=Tryz.f48) (c:=(ag Tryz.f48)) (by kernel_rfl) (by kernel_rfl) vE TN (fun _ h=>Tr.an h))
end Go.bz.RL
end
section
namespace Go.bz.RL
open Go.Proofs Go.bz
noncomputable def vD (x:br):Tr bx:=
 let y0:aq:=x.2.1
 let y1:Nat:=y0.length
 .aa ((y1:Nat)=y1)<|
 let y2:ew:=x.1.2
 let y3:bk:=(x.1.1,(y2.1,((),y2.2.2)))
 let y4:B6:=(y3,(y0,15))
 .aa (ya y4)<|
 let y5:aq:=(Gi y4).1
 let y6:Nat:=y5.length
 .aa ((y6:Nat)=y6)<|
 .aa (y3=x.1)<|
 .ret (y5,())
noncomputable def RN (x:br):bx:=(vD x).val
def O9 (x:br):Prop:=(vD x).ok
noncomputable def qP:aH:={t:=51,lf:=2,te:=38,ce:=aZ,st:=(.st bA (.st (.int .i64) (.st .bC (.st (.int .u64) (.st ar (.st ar (.st ar (.bu ar)))))))),arg:=.unit,cB:=.unit,n:=0,pos:=0,box:=false,pre:=O9,f:=fun x=>(RN x).1,g:=fun x=>(RN x).2}
noncomputable def AD:FuncId→Option Spec
 | _=>none
theorem I6:∀ f sp,AD f=some sp→ah aA f sp:=by
 intro f sp h
 unfold AD at h
 split at h
 ·cases h
noncomputable def tN:FuncId→Option aH
 | 87=>some kf
 | _=>none
theorem Fa:∀ f ps,tN f=some ps→aj aA f ps:=by
 intro f ps h
 unfold tN at h
 split at h
 ·cases h;exact CE
 ·cases h
theorem TM (W:cM) (Q:bx→Prop) (x:br):run (env AD tN true (fun _ _=>none)) (fun _ _ _=>none) (cY qP x.1 Q) W 100000 (bF 49 Tryz.f49 (ag Tryz.f49) (qP.dt x.2.2)) [] (H0 qP x.1 x.2.1)=(vD x).wp Q:=by kernel_rfl
theorem Vm:aj aA 49 qP:=aj.env rfl (fun _ _ h=>h) (az (E:=(env AD tN true (fun _ _=>none))) (ps:=qP) (valid _ _ _ _) ⟨fun f sp h=>ah.env rfl (fun _ _ h=>h) (I6 f sp h),fun f ps h=>aj.env rfl (fun _ _ h=>h) (Fa f ps h)⟩ (by kernel_rfl) (fn:=Tryz.f49) (c:=(ag Tryz.f49)) (by kernel_rfl) (by kernel_rfl) vD TM (fun _ h=>Tr.an h))
noncomputable def vB (x:br):Tr bx:=
 let y0:aq:=x.2.1
 let y1:Nat:=y0.length
 .aa ((y1:Nat)=y1)<|
 let y2:ew:=x.1.2
 let y3:Int:=y2.1
 let y4:bk:=(x.1.1,(y3,((),y2.2.2)))
 let y5:eA:=(y4,(y0,()))
 .aa (GW y5)<|
 .aa ((0:Nat) < 2)<|
 .aa ((1:Nat) < 2)<|
 let y6:aq:=(DF y5).1
 let y7:Nat:=y6.length
 .aa ((y7:Nat)=y7)<|
 let y8:dh:=(DF y5).2
 let y9:lW:=(y3,[y8.1,y8.2])
 let y10:gN:=(y4,(y6,(16,y9)))
 .aa (bN y10)<|
 .aa ((0:Nat) < 2)<|
 .aa ((1:Nat) < 2)<|
 let y11:aq:=(ba y10).1
 let y12:Nat:=y11.length
 .aa ((y12:Nat)=y12)<|
 let y13:gN:=(y4,(y11,(18,y9)))
 .aa (bN y13)<|
 let y14:aq:=(ba y13).1
 let y15:Nat:=y14.length
 .aa ((y15:Nat)=y15)<|
 let y16:aF:=(ba y10).2
 let y17:fM:=(y4,(y14,y16))
 .aa (ji y17)<|
 let y18:aq:=(jC y17).1
 let y19:Nat:=y18.length
 .aa ((y19:Nat)=y19)<|
 let y20:aF:=(ba y13).2
 let y21:sv:=(y4,(y18,(y20,y20)))
 .aa (mh y21)<|
 let y22:aq:=(pJ y21).1
 let y23:Nat:=y22.length
 .aa ((y23:Nat)=y23)<|
 let y24:fM:=(y4,(y22,y16))
 .aa (nN y24)<|
 let y25:aq:=(w7 y24).1
 let y26:Nat:=y25.length
 .aa ((y26:Nat)=y26)<|
 .aa (y4=x.1)<|
 .ret (y25,())
noncomputable def RK (x:br):bx:=(vB x).val
def O8 (x:br):Prop:=(vB x).ok
noncomputable def qO:aH:={t:=51,lf:=2,te:=38,ce:=aZ,st:=(.st bA (.st (.int .i64) (.st .bC (.st (.int .u64) (.st ar (.st ar (.st ar (.bu ar)))))))),arg:=.unit,cB:=.unit,n:=0,pos:=0,box:=false,pre:=O8,f:=fun x=>(RK x).1,g:=fun x=>(RK x).2}
noncomputable def AB:FuncId→Option Spec
 | _=>none
theorem I5:∀ f sp,AB f=some sp→ah aA f sp:=by
 intro f sp h
 unfold AB at h
 split at h
 ·cases h
noncomputable def tM:FuncId→Option aH
 | 30=>some dy
 | 80=>some fP
 | 88=>some mf
 | 89=>some ke
 | 90=>some jz
 | _=>none
theorem E9:∀ f ps,tM f=some ps→aj aA f ps:=by
 intro f ps h
 unfold tM at h
 split at h
 ·cases h;exact gi
 ·cases h;exact lP
 ·cases h;exact LO
 ·cases h;exact CD
 ·cases h;exact yf
 ·cases h
theorem TL (W:cM) (Q:bx→Prop) (x:br):run (env AB tM true (fun _ _=>none)) (fun _ _ _=>none) (cY qO x.1 Q) W 100000 (bF 50 Tryz.f50 (ag Tryz.f50) (qO.dt x.2.2)) [] (H0 qO x.1 x.2.1)=(vB x).wp Q:=by kernel_rfl
theorem Vl:aj aA 50 qO:=aj.env rfl (fun _ _ h=>h) (az (E:=(env AB tM true (fun _ _=>none))) (ps:=qO) (valid _ _ _ _) ⟨fun f sp h=>ah.env rfl (fun _ _ h=>h) (I5 f sp h),fun f ps h=>aj.env rfl (fun _ _ h=>h) (E9 f ps h)⟩ (by kernel_rfl) (fn:=Tryz.f50) (c:=(ag Tryz.f50)) (by kernel_rfl) (by kernel_rfl) vB TL (fun _ h=>Tr.an h))
noncomputable def vb (x:B7):Tr bx:=
 .aa ((0:Nat) < 1)<|
 let y0:aq:=x.2.1
 let y1:Nat:=y0.length
 .aa ((y1:Nat)=y1)<|
 let y2:ew:=x.1.2
 let y3:Int:=y2.1
 let y4:bk:=(x.1.1,(y3,((),y2.2.2)))
 let y5:dh:=x.2.2
 let y6:gQ:=(y4,(y0,(1,(y3,(0,[y5.1])))))
 .aa (bK y6)<|
 .aa ((0:Nat) < 1)<|
 let y7:aq:=(cK y6).1
 let y8:Nat:=y7.length
 .aa ((y8:Nat)=y8)<|
 let y9:gQ:=(y4,(y7,(1,(y3,(2,[y5.2])))))
 .aa (bK y9)<|
 let y10:aq:=(cK y9).1
 let y11:Nat:=y10.length
 .aa ((y11:Nat)=y11)<|
 .aa (y4=x.1)<|
 .ret (y10,())
noncomputable def N7 (x:B7):bx:=(vb x).val
def Ln (x:B7):Prop:=(vb x).ok
noncomputable def ot:aH:={t:=51,lf:=2,te:=38,ce:=aZ,st:=(.st bA (.st (.int .i64) (.st .bC (.st (.int .u64) (.st ar (.st ar (.st ar (.bu ar)))))))),arg:=(.st ar (.bu ar)),cB:=.unit,n:=0,pos:=0,box:=false,pre:=Ln,f:=fun x=>(N7 x).1,g:=fun x=>(N7 x).2}
noncomputable def z6:FuncId→Option Spec
 | _=>none
theorem Ix:∀ f sp,z6 f=some sp→ah aA f sp:=by
 intro f sp h
 unfold z6 at h
 split at h
 ·cases h
noncomputable def tk:FuncId→Option aH
 | 17=>some fQ
 | _=>none
theorem EN:∀ f ps,tk f=some ps→aj aA f ps:=by
 intro f ps h
 unfold tk at h
 split at h
 ·cases h;exact lQ
 ·cases h
theorem Tb (W:cM) (Q:bx→Prop) (x:B7):run (env z6 tk true (fun _ _=>none)) (fun _ _ _=>none) (cY ot x.1 Q) W 100000 (bF 91 Tryz.f91 (ag Tryz.f91) (ot.dt x.2.2)) [] (H0 ot x.1 x.2.1)=(vb x).wp Q:=by kernel_rfl
theorem Pw:aj aA 91 ot:=aj.env rfl (fun _ _ h=>h) (az (E:=(env z6 tk true (fun _ _=>none))) (ps:=ot) (valid _ _ _ _) ⟨fun f sp h=>ah.env rfl (fun _ _ h=>h) (Ix f sp h),fun f ps h=>aj.env rfl (fun _ _ h=>h) (EN f ps h)⟩ (by kernel_rfl) (fn:=Tryz.f91) (c:=(ag Tryz.f91)) (by kernel_rfl) (by kernel_rfl) vb Tb (fun _ h=>Tr.an h))
noncomputable def vz (x:br):Tr bx:=
 let y0:aq:=x.2.1
 let y1:Nat:=y0.length
 .aa ((y1:Nat)=y1)<|
 let y2:DI:=x.1.1
 let y3:ew:=x.1.2
 let y4:Int:=y3.1
 let y5:nG:=y3.2.2
 let y6:bk:=(y2,(y4,((),y5)))
 let y7:nX:=(y6,(y0,(y2.2.2.2.1,(y5.2.1,y4))))
 .aa (jh y7)<|
 .aa (dZ 0)<|
 .aa ((0:Nat) < 2)<|
 .aa ((1:Nat) < 2)<|
 let y8:aq:=(fy y7).1
 let y9:Nat:=y8.length
 .aa ((y9:Nat)=y9)<|
 let y10:lW:=(y4,[(fC 0),(fy y7).2])
 let y11:gN:=(y6,(y8,(16,y10)))
 .aa (bN y11)<|
 .aa (dZ 0)<|
 .aa ((0:Nat) < 2)<|
 .aa ((1:Nat) < 2)<|
 let y12:aq:=(ba y11).1
 let y13:Nat:=y12.length
 .aa ((y13:Nat)=y13)<|
 let y14:gN:=(y6,(y12,(17,y10)))
 .aa (bN y14)<|
 .aa ((0:Nat) < 1)<|
 let y15:aq:=(ba y14).1
 let y16:Nat:=y15.length
 .aa ((y16:Nat)=y16)<|
 let y17:aF:=(ba y14).2
 let y18:gN:=(y6,(y15,(22,(y4,[y17]))))
 .aa (bN y18)<|
 .aa (bn 1)<|
 .aa ((0:Nat) < 2)<|
 .aa ((1:Nat) < 2)<|
 let y19:aq:=(ba y18).1
 let y20:Nat:=y19.length
 .aa ((y20:Nat)=y20)<|
 let y21:gN:=(y6,(y19,(10,(1,[(ba y18).2,(aP 1)]))))
 .aa (bN y21)<|
 let y22:aq:=(ba y21).1
 let y23:Nat:=y22.length
 .aa ((y23:Nat)=y23)<|
 let y24:aF:=(ba y11).2
 let y25:sv:=(y6,(y22,(y24,y17)))
 .aa (Ln y25)<|
 let y26:aq:=(N7 y25).1
 let y27:Nat:=y26.length
 .aa ((y27:Nat)=y27)<|
 let y28:aF:=(ba y21).2
 let y29:sv:=(y6,(y26,(y28,y28)))
 .aa (mh y29)<|
 let y30:aq:=(pJ y29).1
 let y31:Nat:=y30.length
 .aa ((y31:Nat)=y31)<|
 let y32:fM:=(y6,(y30,y24))
 .aa (nN y32)<|
 let y33:aq:=(w7 y32).1
 let y34:Nat:=y33.length
 .aa ((y34:Nat)=y34)<|
 .aa (y6=x.1)<|
 .ret (y33,())
noncomputable def RJ (x:br):bx:=(vz x).val
def O7 (x:br):Prop:=(vz x).ok
noncomputable def qN:aH:={t:=51,lf:=2,te:=38,ce:=aZ,st:=(.st bA (.st (.int .i64) (.st .bC (.st (.int .u64) (.st ar (.st ar (.st ar (.bu ar)))))))),arg:=.unit,cB:=.unit,n:=0,pos:=0,box:=false,pre:=O7,f:=fun x=>(RJ x).1,g:=fun x=>(RJ x).2}
noncomputable def AA:FuncId→Option Spec
 | 11=>some dR
 | 20=>some fN
 | _=>none
theorem I4:∀ f sp,AA f=some sp→ah aA f sp:=by
 intro f sp h
 unfold AA at h
 split at h
 ·cases h;exact jQ
 ·cases h;exact pj
 ·cases h
noncomputable def tL:FuncId→Option aH
 | 30=>some dy
 | 81=>some fx
 | 89=>some ke
 | 90=>some jz
 | 91=>some ot
 | _=>none
theorem E8:∀ f ps,tL f=some ps→aj aA f ps:=by
 intro f ps h
 unfold tL at h
 split at h
 ·cases h;exact gi
 ·cases h;exact kI
 ·cases h;exact CD
 ·cases h;exact yf
 ·cases h;exact Pw
 ·cases h
theorem TK (W:cM) (Q:bx→Prop) (x:br):run (env AA tL true (fun _ _=>none)) (fun _ _ _=>none) (cY qN x.1 Q) W 100000 (bF 51 Tryz.f51 (ag Tryz.f51) (qN.dt x.2.2)) [] (H0 qN x.1 x.2.1)=(vz x).wp Q:=by kernel_rfl
theorem Vk:aj aA 51 qN:=aj.env rfl (fun _ _ h=>h) (az (E:=(env AA tL true (fun _ _=>none))) (ps:=qN) (valid _ _ _ _) ⟨fun f sp h=>ah.env rfl (fun _ _ h=>h) (I4 f sp h),fun f ps h=>aj.env rfl (fun _ _ h=>h) (E8 f ps h)⟩ (by kernel_rfl) (fn:=Tryz.f51) (c:=(ag Tryz.f51)) (by kernel_rfl) (by kernel_rfl) vz TK (fun _ h=>Tr.an h))
noncomputable def vy (x:br):Tr bx:=
 .aa (dZ 0)<|
 let y0:aq:=x.2.1
 let y1:Nat:=y0.length
 .aa ((y1:Nat)=y1)<|
 let y2:DI:=x.1.1
 let y3:ew:=x.1.2
 let y4:Int:=y3.1
 let y5:nG:=y3.2.2
 let y6:bk:=(y2,(y4,((),y5)))
 let y7:nX:=(y6,(y0,(y2.2.2.2.1,(y5.2.1,y4))))
 .aa (jh y7)<|
 .aa (dZ 2)<|
 .aa ((0:Nat) < 3)<|
 .aa ((1:Nat) < 3)<|
 .aa ((2:Nat) < 3)<|
 let y8:aq:=(fy y7).1
 let y9:Nat:=y8.length
 .aa ((y9:Nat)=y9)<|
 let y10:(List aF):=[(fC 0),(fy y7).2,(fC 2)]
 let y11:gQ:=(y6,(y8,(29,(y4,(0,y10)))))
 .aa (bK y11)<|
 let y12:aq:=(cK y11).1
 let y13:Nat:=y12.length
 .aa ((y13:Nat)=y13)<|
 let y14:lW:=(y4,y10)
 let y15:gN:=(y6,(y12,(19,y14)))
 .aa (bN y15)<|
 let y16:aq:=(ba y15).1
 let y17:Nat:=y16.length
 .aa ((y17:Nat)=y17)<|
 let y18:gN:=(y6,(y16,(20,y14)))
 .aa (bN y18)<|
 let y19:aq:=(ba y18).1
 let y20:Nat:=y19.length
 .aa ((y20:Nat)=y20)<|
 let y21:sv:=(y6,(y19,((ba y15).2,(ba y18).2)))
 .aa (Ln y21)<|
 let y22:aq:=(N7 y21).1
 let y23:Nat:=y22.length
 .aa ((y23:Nat)=y23)<|
 .aa (y6=x.1)<|
 .ret (y22,())
noncomputable def RI (x:br):bx:=(vy x).val
def O6 (x:br):Prop:=(vy x).ok
noncomputable def qM:aH:={t:=51,lf:=2,te:=38,ce:=aZ,st:=(.st bA (.st (.int .i64) (.st .bC (.st (.int .u64) (.st ar (.st ar (.st ar (.bu ar)))))))),arg:=.unit,cB:=.unit,n:=0,pos:=0,box:=false,pre:=O6,f:=fun x=>(RI x).1,g:=fun x=>(RI x).2}
noncomputable def Az:FuncId→Option Spec
 | 20=>some fN
 | _=>none
theorem I3:∀ f sp,Az f=some sp→ah aA f sp:=by
 intro f sp h
 unfold Az at h
 split at h
 ·cases h;exact pj
 ·cases h
noncomputable def tK:FuncId→Option aH
 | 17=>some fQ
 | 30=>some dy
 | 81=>some fx
 | 91=>some ot
 | _=>none
theorem E7:∀ f ps,tK f=some ps→aj aA f ps:=by
 intro f ps h
 unfold tK at h
 split at h
 ·cases h;exact lQ
 ·cases h;exact gi
 ·cases h;exact kI
 ·cases h;exact Pw
 ·cases h
theorem TJ (W:cM) (Q:bx→Prop) (x:br):run (env Az tK true (fun _ _=>none)) (fun _ _ _=>none) (cY qM x.1 Q) W 100000 (bF 52 Tryz.f52 (ag Tryz.f52) (qM.dt x.2.2)) [] (H0 qM x.1 x.2.1)=(vy x).wp Q:=by kernel_rfl
theorem Vj:aj aA 52 qM:=aj.env rfl (fun _ _ h=>h) (az (E:=(env Az tK true (fun _ _=>none))) (ps:=qM) (valid _ _ _ _) ⟨fun f sp h=>ah.env rfl (fun _ _ h=>h) (I3 f sp h),fun f ps h=>aj.env rfl (fun _ _ h=>h) (E7 f ps h)⟩ (by kernel_rfl) (fn:=Tryz.f52) (c:=(ag Tryz.f52)) (by kernel_rfl) (by kernel_rfl) vy TJ (fun _ h=>Tr.an h))
noncomputable def va (x:kF):Tr bx:=
 .aa (dZ 4)<|
 .aa (bn 8)<|
 .aa ((0:Nat) < 2)<|
 .aa ((1:Nat) < 2)<|
 let y0:aq:=x.2.1
 let y1:Nat:=y0.length
 .aa ((y1:Nat)=y1)<|
 .aa (((0:Nat)+2:Nat)≤2)<|
 let y2:ew:=x.1.2
 let y3:bk:=(x.1.1,(y2.1,((),y2.2.2)))
 let y4:gN:=(y3,(y0,(3,(8,[(fC 4),(aP 8)]))))
 .aa (bN y4)<|
 .aa ((0:Nat) < 2)<|
 .aa ((1:Nat) < 2)<|
 let y5:aq:=(ba y4).1
 let y6:Nat:=y5.length
 .aa ((y6:Nat)=y6)<|
 .aa (((0:Nat)+2:Nat)≤2)<|
 let y7:aF:=(ba y4).2
 let y8:gQ:=(y3,(y5,(28,(8,(0,[y7,x.2.2])))))
 .aa (bK y8)<|
 .aa ((0:Nat) < 1)<|
 let y9:aq:=(cK y8).1
 let y10:Nat:=y9.length
 .aa ((y10:Nat)=y10)<|
 .aa (((0:Nat)+1:Nat)≤1)<|
 let y11:gQ:=(y3,(y9,(1,(8,(4,[y7])))))
 .aa (bK y11)<|
 let y12:aq:=(cK y11).1
 let y13:Nat:=y12.length
 .aa ((y13:Nat)=y13)<|
 .aa (y3=x.1)<|
 .ret (y12,())
noncomputable def N6 (x:kF):bx:=(va x).val
def Lm (x:kF):Prop:=(va x).ok
noncomputable def oq:aH:={t:=51,lf:=2,te:=38,ce:=aZ,st:=(.st bA (.st (.int .i64) (.st .bC (.st (.int .u64) (.st ar (.st ar (.st ar (.bu ar)))))))),arg:=(.bu ar),cB:=.unit,n:=0,pos:=0,box:=false,pre:=Lm,f:=fun x=>(N6 x).1,g:=fun x=>(N6 x).2}
noncomputable def z3:FuncId→Option Spec
 | 11=>some dR
 | 20=>some fN
 | _=>none
theorem Iw:∀ f sp,z3 f=some sp→ah aA f sp:=by
 intro f sp h
 unfold z3 at h
 split at h
 ·cases h;exact jQ
 ·cases h;exact pj
 ·cases h
noncomputable def tj:FuncId→Option aH
 | 17=>some fQ
 | 30=>some dy
 | _=>none
theorem EM:∀ f ps,tj f=some ps→aj aA f ps:=by
 intro f ps h
 unfold tj at h
 split at h
 ·cases h;exact lQ
 ·cases h;exact gi
 ·cases h
theorem Ta (W:cM) (Q:bx→Prop) (x:kF):run (env z3 tj true (fun _ _=>none)) (fun _ _ _=>none) (cY oq x.1 Q) W 100000 (bF 92 Tryz.f92 (ag Tryz.f92) (oq.dt x.2.2)) [] (H0 oq x.1 x.2.1)=(va x).wp Q:=by kernel_rfl
theorem Pv:aj aA 92 oq:=aj.env rfl (fun _ _ h=>h) (az (E:=(env z3 tj true (fun _ _=>none))) (ps:=oq) (valid _ _ _ _) ⟨fun f sp h=>ah.env rfl (fun _ _ h=>h) (Iw f sp h),fun f ps h=>aj.env rfl (fun _ _ h=>h) (EM f ps h)⟩ (by kernel_rfl) (fn:=Tryz.f92) (c:=(ag Tryz.f92)) (by kernel_rfl) (by kernel_rfl) va Ta (fun _ h=>Tr.an h))
noncomputable def vx (x:br):Tr bx:=
 let y0:aq:=x.2.1
 let y1:Nat:=y0.length
 .aa ((y1:Nat)=y1)<|
 let y2:DI:=x.1.1
 let y3:ew:=x.1.2
 let y4:nG:=y3.2.2
 let y5:bk:=(y2,(y3.1,((),y4)))
 let y6:nX:=(y5,(y0,(y2.2.2.2.1,(y4.2.1,8))))
 .aa (jh y6)<|
 let y7:aq:=(fy y6).1
 let y8:Nat:=y7.length
 .aa ((y8:Nat)=y8)<|
 let y9:fM:=(y5,(y7,(fy y6).2))
 .aa (Lm y9)<|
 let y10:aq:=(N6 y9).1
 let y11:Nat:=y10.length
 .aa ((y11:Nat)=y11)<|
 .aa (y5=x.1)<|
 .ret (y10,())
noncomputable def RH (x:br):bx:=(vx x).val
def O5 (x:br):Prop:=(vx x).ok
noncomputable def qL:aH:={t:=51,lf:=2,te:=38,ce:=aZ,st:=(.st bA (.st (.int .i64) (.st .bC (.st (.int .u64) (.st ar (.st ar (.st ar (.bu ar)))))))),arg:=.unit,cB:=.unit,n:=0,pos:=0,box:=false,pre:=O5,f:=fun x=>(RH x).1,g:=fun x=>(RH x).2}
noncomputable def Ay:FuncId→Option Spec
 | _=>none
theorem I2:∀ f sp,Ay f=some sp→ah aA f sp:=by
 intro f sp h
 unfold Ay at h
 split at h
 ·cases h
noncomputable def tJ:FuncId→Option aH
 | 81=>some fx
 | 92=>some oq
 | _=>none
theorem E6:∀ f ps,tJ f=some ps→aj aA f ps:=by
 intro f ps h
 unfold tJ at h
 split at h
 ·cases h;exact kI
 ·cases h;exact Pv
 ·cases h
theorem TI (W:cM) (Q:bx→Prop) (x:br):run (env Ay tJ true (fun _ _=>none)) (fun _ _ _=>none) (cY qL x.1 Q) W 100000 (bF 53 Tryz.f53 (ag Tryz.f53) (qL.dt x.2.2)) [] (H0 qL x.1 x.2.1)=(vx x).wp Q:=by kernel_rfl
theorem Vi:aj aA 53 qL:=aj.env rfl (fun _ _ h=>h) (az (E:=(env Ay tJ true (fun _ _=>none))) (ps:=qL) (valid _ _ _ _) ⟨fun f sp h=>ah.env rfl (fun _ _ h=>h) (I2 f sp h),fun f ps h=>aj.env rfl (fun _ _ h=>h) (E6 f ps h)⟩ (by kernel_rfl) (fn:=Tryz.f53) (c:=(ag Tryz.f53)) (by kernel_rfl) (by kernel_rfl) vx TI (fun _ h=>Tr.an h))
noncomputable def u7 (x:br):Tr fW:=
 .aa (dZ 4)<|
 .aa ((0:Nat) < 1)<|
 let y0:aq:=x.2.1
 let y1:Nat:=y0.length
 .aa ((y1:Nat)=y1)<|
 .aa (((0:Nat)+1:Nat)≤1)<|
 let y2:ew:=x.1.2
 let y3:bk:=(x.1.1,(y2.1,((),y2.2.2)))
 let y4:gN:=(y3,(y0,(27,(8,[(fC 4)]))))
 .aa (bN y4)<|
 .aa (dZ 4)<|
 .aa (bn 8)<|
 .aa ((0:Nat) < 2)<|
 .aa ((1:Nat) < 2)<|
 let y5:aq:=(ba y4).1
 let y6:Nat:=y5.length
 .aa ((y6:Nat)=y6)<|
 .aa (((0:Nat)+2:Nat)≤2)<|
 let y7:gN:=(y3,(y5,(2,(8,[(fC 4),(aP 8)]))))
 .aa (bN y7)<|
 .aa ((0:Nat) < 1)<|
 let y8:aq:=(ba y7).1
 let y9:Nat:=y8.length
 .aa ((y9:Nat)=y9)<|
 .aa (((0:Nat)+1:Nat)≤1)<|
 let y10:gQ:=(y3,(y8,(1,(8,(4,[(ba y7).2])))))
 .aa (bK y10)<|
 let y11:aq:=(cK y10).1
 let y12:Nat:=y11.length
 .aa ((y12:Nat)=y12)<|
 .aa (y3=x.1)<|
 .ret (y11,(ba y4).2)
noncomputable def JP (x:br):fW:=(u7 x).val
def Lk (x:br):Prop:=(u7 x).ok
noncomputable def om:aH:={t:=51,lf:=2,te:=38,ce:=aZ,st:=(.st bA (.st (.int .i64) (.st .bC (.st (.int .u64) (.st ar (.st ar (.st ar (.bu ar)))))))),arg:=.unit,cB:=ar,n:=1,pos:=0,box:=false,pre:=Lk,f:=fun x=>(JP x).1,g:=fun x=>(JP x).2}
noncomputable def zY:FuncId→Option Spec
 | 11=>some dR
 | 20=>some fN
 | _=>none
theorem Iu:∀ f sp,zY f=some sp→ah aA f sp:=by
 intro f sp h
 unfold zY at h
 split at h
 ·cases h;exact jQ
 ·cases h;exact pj
 ·cases h
noncomputable def th:FuncId→Option aH
 | 17=>some fQ
 | 30=>some dy
 | _=>none
theorem EK:∀ f ps,th f=some ps→aj aA f ps:=by
 intro f ps h
 unfold th at h
 split at h
 ·cases h;exact lQ
 ·cases h;exact gi
 ·cases h
theorem S8 (W:cM) (Q:fW→Prop) (x:br):run (env zY th true (fun _ _=>none)) (fun _ _ _=>none) (cY om x.1 Q) W 100000 (bF 94 Tryz.f94 (ag Tryz.f94) (om.dt x.2.2)) [] (H0 om x.1 x.2.1)=(u7 x).wp Q:=by kernel_rfl
theorem Pt:aj aA 94 om:=aj.env rfl (fun _ _ h=>h) (az (E:=(env zY th true (fun _ _=>none))) (ps:=om) (valid _ _ _ _) ⟨fun f sp h=>ah.env rfl (fun _ _ h=>h) (Iu f sp h),fun f ps h=>aj.env rfl (fun _ _ h=>h) (EK f ps h)⟩ (by kernel_rfl) (fn:=Tryz.f94) (c:=(ag Tryz.f94)) (by kernel_rfl) (by kernel_rfl) u7 S8 (fun _ h=>Tr.an h))
noncomputable def vu (x:br):Tr bx:=
 let y0:aq:=x.2.1
 let y1:Nat:=y0.length
 .aa ((y1:Nat)=y1)<|
 let y2:DI:=x.1.1
 let y3:ew:=x.1.2
 let y4:nG:=y3.2.2
 let y5:bk:=(y2,(y3.1,((),y4)))
 let y6:eA:=(y5,(y0,()))
 .aa (Lk y6)<|
 let y7:aq:=(JP y6).1
 let y8:Nat:=y7.length
 .aa ((y8:Nat)=y8)<|
 let y9:XU:=(y5,(y7,(y2.2.2.2.1,(y4.2.1,(8,(JP y6).2)))))
 .aa (Ll y9)<|
 let y10:aq:=(N5 y9).1
 let y11:Nat:=y10.length
 .aa ((y11:Nat)=y11)<|
 .aa (y5=x.1)<|
 .ret (y10,())
noncomputable def RG (x:br):bx:=(vu x).val
def O4 (x:br):Prop:=(vu x).ok
noncomputable def qK:aH:={t:=51,lf:=2,te:=38,ce:=aZ,st:=(.st bA (.st (.int .i64) (.st .bC (.st (.int .u64) (.st ar (.st ar (.st ar (.bu ar)))))))),arg:=.unit,cB:=.unit,n:=0,pos:=0,box:=false,pre:=O4,f:=fun x=>(RG x).1,g:=fun x=>(RG x).2}
noncomputable def Ax:FuncId→Option Spec
 | _=>none
theorem I1:∀ f sp,Ax f=some sp→ah aA f sp:=by
 intro f sp h
 unfold Ax at h
 split at h
 ·cases h
noncomputable def tI:FuncId→Option aH
 | 93=>some oo
 | 94=>some om
 | _=>none
theorem E5:∀ f ps,tI f=some ps→aj aA f ps:=by
 intro f ps h
 unfold tI at h
 split at h
 ·cases h;exact Pu
 ·cases h;exact Pt
 ·cases h
theorem TH (W:cM) (Q:bx→Prop) (x:br):run (env Ax tI true (fun _ _=>none)) (fun _ _ _=>none) (cY qK x.1 Q) W 100000 (bF 54 Tryz.f54 (ag Tryz.f54) (qK.dt x.2.2)) [] (H0 qK x.1 x.2.1)=(vu x).wp Q:=by kernel_rfl
theorem Vh:aj aA 54 qK:=aj.env rfl (fun _ _ h=>h) (az (E:=(env Ax tI true (fun _ _=>none))) (ps:=qK) (valid _ _ _ _) ⟨fun f sp h=>ah.env rfl (fun _ _ h=>h) (I1 f sp h),fun f ps h=>aj.env rfl (fun _ _ h=>h) (E5 f ps h)⟩ (by kernel_rfl) (fn:=Tryz.f54) (c:=(ag Tryz.f54)) (by kernel_rfl) (by kernel_rfl) vu TH (fun _ h=>Tr.an h))
noncomputable def u6 (x:br):Tr fW:=
 let y0:ew:=x.1.2
 let y1:nG:=y0.2.2
 let y2:DI:=x.1.1
 let y3:Int:=(aK .u64 y1.1 (aN .u64 y2.2.2.2.2.1.2.2.2.2.2.2.2))
 .aa (bn y3)<|
 let y4:aq:=x.2.1
 let y5:Nat:=y4.length
 .aa ((y5:Nat)=y5)<|
 .aa ((y2,(y0.1,((),y1)))=x.1)<|
 .ret (y4,(aP y3))
noncomputable def DE (x:br):fW:=(u6 x).val
def GV (x:br):Prop:=(u6 x).ok
noncomputable def qE:aH:={t:=51,lf:=2,te:=38,ce:=aZ,st:=(.st bA (.st (.int .i64) (.st .bC (.st (.int .u64) (.st ar (.st ar (.st ar (.bu ar)))))))),arg:=.unit,cB:=ar,n:=1,pos:=0,box:=false,pre:=GV,f:=fun x=>(DE x).1,g:=fun x=>(DE x).2}
noncomputable def zX:FuncId→Option Spec
 | 11=>some dR
 | _=>none
theorem Is:∀ f sp,zX f=some sp→ah aA f sp:=by
 intro f sp h
 unfold zX at h
 split at h
 ·cases h;exact jQ
 ·cases h
theorem S7 (W:cM) (Q:fW→Prop) (x:br):run (env zX (fun _=>none) true (fun _ _=>none)) (fun _ _ _=>none) (cY qE x.1 Q) W 100000 (bF 95 Tryz.f95 (ag Tryz.f95) (qE.dt x.2.2)) [] (H0 qE x.1 x.2.1)=(u6 x).wp Q:=by kernel_rfl
theorem Vb:aj aA 95 qE:=aj.env rfl (fun _ _ h=>h) (az (E:=(env zX (fun _=>none) true (fun _ _=>none))) (ps:=qE) (valid _ _ _ _) ⟨fun f sp h=>ah.env rfl (fun _ _ h=>h) (Is f sp h),fun f ps h=>nomatch h⟩ (by kernel_rfl) (fn:=Tryz.f95) (c:=(ag Tryz.f95)) (by kernel_rfl) (by kernel_rfl) u6 S7 (fun _ h=>Tr.an h))
noncomputable def oP (x:B8):Tr fW:=
 .aa ((0:Nat) < 2)<|
 .aa ((1:Nat) < 2)<|
 let y0:aq:=x.2.1
 let y1:Nat:=y0.length
 .aa ((y1:Nat)=y1)<|
 .aa (((0:Nat)+2:Nat)≤2)<|
 let y2:ew:=x.1.2
 let y3:bk:=(x.1.1,(y2.1,((),y2.2.2)))
 let y4:(Int×dh):=x.2.2
 let y5:dh:=y4.2
 let y6:gN:=(y3,(y0,(y4.1,(1,[y5.1,y5.2]))))
 .aa (bN y6)<|
 let y7:aq:=(ba y6).1
 let y8:Nat:=y7.length
 .aa ((y8:Nat)=y8)<|
 .aa (y3=x.1)<|
 .ret (y7,(ba y6).2)
noncomputable def dg (x:B8):fW:=(oP x).val
def gU (x:B8):Prop:=(oP x).ok
noncomputable def nh:aH:={t:=51,lf:=2,te:=38,ce:=aZ,st:=(.st bA (.st (.int .i64) (.st .bC (.st (.int .u64) (.st ar (.st ar (.st ar (.bu ar)))))))),arg:=(.st (.int .u8) (.st ar (.bu ar))),cB:=ar,n:=1,pos:=3,box:=true,pre:=gU,f:=fun x=>(dg x).1,g:=fun x=>(dg x).2}
noncomputable def uI:FuncId→Option Spec
 | _=>none
theorem F1:∀ f sp,uI f=some sp→ah aA f sp:=by
 intro f sp h
 unfold uI at h
 split at h
 ·cases h
noncomputable def o8:FuncId→Option aH
 | 30=>some dy
 | _=>none
theorem CI:∀ f ps,o8 f=some ps→aj aA f ps:=by
 intro f ps h
 unfold o8 at h
 split at h
 ·cases h;exact gi
 ·cases h
theorem Qx (W:cM) (Q:fW→Prop) (x:B8):run (env uI o8 true (fun _ _=>none)) (fun _ _ _=>none) (cY nh x.1 Q) W 100000 (bF 110 Tryz.f110 (ag Tryz.f110) (nh.dt x.2.2)) [] (H0 nh x.1 x.2.1)=(oP x).wp Q:=by kernel_rfl
theorem Rh:aj aA 110 nh:=aj.env rfl (fun _ _ h=>h) (az (E:=(env uI o8 true (fun _ _=>none))) (ps:=nh) (valid _ _ _ _) ⟨fun f sp h=>ah.env rfl (fun _ _ h=>h) (F1 f sp h),fun f ps h=>aj.env rfl (fun _ _ h=>h) (CI f ps h)⟩ (by kernel_rfl) (fn:=Tryz.f110) (c:=(ag Tryz.f110)) (by kernel_rfl) (by kernel_rfl) oP Qx (fun _ h=>Tr.an h))
noncomputable def u5 (x:br):Tr fW:=
 let y0:DI:=x.1.1
 let y1:Int:=y0.2.1
 let y2:Int:=(jZ .u8 y1 1)
 .ite (ak y2 6) (
 .aa (dZ 16)<|
 .aa (dZ 17)<|
 let y3:=x.2.1
 let y4:Nat:=y3.length
 .aa ((y4:Nat)=y4)<|
 let y5:=x.1.2
 let y6:bk:=(y0,(y5.1,((),y5.2.2)))
 let y7:il:=(y6,(y3,(9,((fC 16),(fC 17)))))
 .aa (gU y7)<|
 let y8:=(ak (cP .u8 y1 1) 1)
 .ite y8 (
 .aa (bn 1)<|
 let y9:=(dg y7).1
 let y10:Nat:=y9.length
 .aa ((y10:Nat)=y10)<|
 let y11:=(dg y7).2
 let y12:il:=(y6,(y9,(10,(y11,(aP 1)))))
 .aa (gU y12)<|
 let y13:=(dg y12).1
 let y14:Nat:=y13.length
 .aa ((y14:Nat)=y14)<|
 .aa (y6=x.1)<|
 .ret (y13,(dg y12).2)) (
 let y15:=(dg y7).1
 let y16:Nat:=y15.length
 .aa ((y16:Nat)=y16)<|
 .aa (y6=x.1)<|
 let y17:=(dg y7).2
 .ret (y15,y17))) (
 .ite (ak y2 12) (
 .aa (dZ 18)<|
 .aa (dZ 19)<|
 let y18:=x.2.1
 let y19:Nat:=y18.length
 .aa ((y19:Nat)=y19)<|
 let y20:=x.1.2
 let y21:bk:=(y0,(y20.1,((),y20.2.2)))
 let y22:il:=(y21,(y18,(25,((fC 18),(fC 19)))))
 .aa (gU y22)<|
 .aa (bn 1)<|
 let y23:=(dg y22).1
 let y24:Nat:=y23.length
 .aa ((y24:Nat)=y24)<|
 let y25:il:=(y21,(y23,(10,((dg y22).2,(aP 1)))))
 .aa (gU y25)<|
 let y26:=(ak y2 14)
 .ite y26 (
 .aa (dZ 17)<|
 let y27:=(dg y25).1
 let y28:Nat:=y27.length
 .aa ((y28:Nat)=y28)<|
 let y29:=(dg y25).2
 let y30:il:=(y21,(y27,(9,((fC 17),y29))))
 .aa (gU y30)<|
 let y31:=(ak (cP .u8 y1 1) 1)
 .ite y31 (
 .aa (bn 1)<|
 let y32:=(dg y30).1
 let y33:Nat:=y32.length
 .aa ((y33:Nat)=y33)<|
 let y34:=(dg y30).2
 let y35:il:=(y21,(y32,(10,(y34,(aP 1)))))
 .aa (gU y35)<|
 let y36:=(dg y35).1
 let y37:Nat:=y36.length
 .aa ((y37:Nat)=y37)<|
 .aa (y21=x.1)<|
 let y38:zd:=(y36,(dg y35).2)
 .ret y38) (
 let y39:=(dg y30).1
 let y40:Nat:=y39.length
 .aa ((y40:Nat)=y40)<|
 .aa (y21=x.1)<|
 let y41:=(dg y30).2
 let y42:zd:=(y39,y41)
 .ret y42)) (
 let y43:=(ak (cP .u8 y1 1) 1)
 .ite y43 (
 .aa (bn 1)<|
 let y44:=(dg y25).1
 let y45:Nat:=y44.length
 .aa ((y45:Nat)=y45)<|
 let y46:=(dg y25).2
 let y47:il:=(y21,(y44,(10,(y46,(aP 1)))))
 .aa (gU y47)<|
 let y48:=(dg y47).1
 let y49:Nat:=y48.length
 .aa ((y49:Nat)=y49)<|
 .aa (y21=x.1)<|
 let y50:zd:=(y48,(dg y47).2)
 .ret y50) (
 let y51:=(dg y25).1
 let y52:Nat:=y51.length
 .aa ((y52:Nat)=y52)<|
 .aa (y21=x.1)<|
 let y53:=(dg y25).2
 let y54:zd:=(y51,y53)
 .ret y54))) (
 let y55:=(ak y2 14)
 .ite y55 (
 .aa (dZ 18)<|
 .aa (dZ 19)<|
 let y56:=x.2.1
 let y57:Nat:=y56.length
 .aa ((y57:Nat)=y57)<|
 let y58:=x.1.2
 let y59:bk:=(y0,(y58.1,((),y58.2.2)))
 let y60:il:=(y59,(y56,(25,((fC 18),(fC 19)))))
 .aa (gU y60)<|
 .aa (bn 1)<|
 let y61:=(dg y60).1
 let y62:Nat:=y61.length
 .aa ((y62:Nat)=y62)<|
 let y63:il:=(y59,(y61,(10,((dg y60).2,(aP 1)))))
 .aa (gU y63)<|
 .ite y55 (
 .aa (dZ 17)<|
 let y64:=(dg y63).1
 let y65:Nat:=y64.length
 .aa ((y65:Nat)=y65)<|
 let y66:=(dg y63).2
 let y67:il:=(y59,(y64,(9,((fC 17),y66))))
 .aa (gU y67)<|
 let y68:=(ak (cP .u8 y1 1) 1)
 .ite y68 (
 .aa (bn 1)<|
 let y69:=(dg y67).1
 let y70:Nat:=y69.length
 .aa ((y70:Nat)=y70)<|
 let y71:=(dg y67).2
 let y72:il:=(y59,(y69,(10,(y71,(aP 1)))))
 .aa (gU y72)<|
 let y73:=(dg y72).1
 let y74:Nat:=y73.length
 .aa ((y74:Nat)=y74)<|
 .aa (y59=x.1)<|
 let y75:zd:=(y73,(dg y72).2)
 .ret y75) (
 let y76:=(dg y67).1
 let y77:Nat:=y76.length
 .aa ((y77:Nat)=y77)<|
 .aa (y59=x.1)<|
 let y78:=(dg y67).2
 let y79:zd:=(y76,y78)
 .ret y79)) (
 let y80:=(ak (cP .u8 y1 1) 1)
 .ite y80 (
 .aa (bn 1)<|
 let y81:=(dg y63).1
 let y82:Nat:=y81.length
 .aa ((y82:Nat)=y82)<|
 let y83:=(dg y63).2
 let y84:il:=(y59,(y81,(10,(y83,(aP 1)))))
 .aa (gU y84)<|
 let y85:=(dg y84).1
 let y86:Nat:=y85.length
 .aa ((y86:Nat)=y86)<|
 .aa (y59=x.1)<|
 let y87:zd:=(y85,(dg y84).2)
 .ret y87) (
 let y88:=(dg y63).1
 let y89:Nat:=y88.length
 .aa ((y89:Nat)=y89)<|
 .aa (y59=x.1)<|
 let y90:=(dg y63).2
 let y91:zd:=(y88,y90)
 .ret y91))) (
 let y92:Int:=(cond (ak y2 0) 19 (cond (ak y2 2) 16 (cond (ak y2 4) 17 (cond (ak y2 8) 18 (cond (ak y2 10) 20 0)))))
 .aa (dZ y92)<|
 let y93:=(ak (cP .u8 y1 1) 1)
 .ite y93 (
 .aa (bn 1)<|
 let y94:=x.2.1
 let y95:Nat:=y94.length
 .aa ((y95:Nat)=y95)<|
 let y96:=x.1.2
 let y97:bk:=(y0,(y96.1,((),y96.2.2)))
 let y98:=(fC y92)
 let y99:il:=(y97,(y94,(10,(y98,(aP 1)))))
 .aa (gU y99)<|
 let y100:=(dg y99).1
 let y101:Nat:=y100.length
 .aa ((y101:Nat)=y101)<|
 .aa (y97=x.1)<|
 .ret (y100,(dg y99).2)) (
 let y102:=x.2.1
 let y103:Nat:=y102.length
 .aa ((y103:Nat)=y103)<|
 let y104:=x.1.2
 let y105:bk:=(y0,(y104.1,((),y104.2.2)))
 .aa (y105=x.1)<|
 let y106:=(fC y92)
 .ret (y102,y106)))))
noncomputable def DD (x:br):fW:=(u5 x).val
def GU (x:br):Prop:=(u5 x).ok
noncomputable def mc:aH:={t:=51,lf:=2,te:=38,ce:=aZ,st:=(.st bA (.st (.int .i64) (.st .bC (.st (.int .u64) (.st ar (.st ar (.st ar (.bu ar)))))))),arg:=.unit,cB:=ar,n:=1,pos:=0,box:=false,pre:=GU,f:=fun x=>(DD x).1,g:=fun x=>(DD x).2}
noncomputable def zW:FuncId→Option Spec
 | 11=>some dR
 | 20=>some fN
 | _=>none
theorem Ir:∀ f sp,zW f=some sp→ah aA f sp:=by
 intro f sp h
 unfold zW at h
 split at h
 ·cases h;exact jQ
 ·cases h;exact pj
 ·cases h
noncomputable def tg:FuncId→Option aH
 | 110=>some nh
 | _=>none
theorem EJ:∀ f ps,tg f=some ps→aj aA f ps:=by
 intro f ps h
 unfold tg at h
 split at h
 ·cases h;exact Rh
 ·cases h
theorem S6 (W:cM) (Q:fW→Prop) (x:br):run (env zW tg true (fun _ _=>none)) (fun _ _ _=>none) (cY mc x.1 Q) W 100000 (bF 96 Tryz.f96 (ag Tryz.f96) (mc.dt x.2.2)) [] (H0 mc x.1 x.2.1)=(u5 x).wp Q:=by kernel_rfl
theorem LN:aj aA 96 mc:=aj.env rfl (fun _ _ h=>h) (az (E:=(env zW tg true (fun _ _=>none))) (ps:=mc) (valid _ _ _ _) ⟨fun f sp h=>ah.env rfl (fun _ _ h=>h) (Ir f sp h),fun f ps h=>aj.env rfl (fun _ _ h=>h) (EJ f ps h)⟩ (by kernel_rfl) (fn:=Tryz.f96) (c:=(ag Tryz.f96)) (by kernel_rfl) (by kernel_rfl) u5 S6 (fun _ h=>Tr.an h))
noncomputable def vt (x:br):Tr bx:=
 let y0:aq:=x.2.1
 let y1:Nat:=y0.length
 .aa ((y1:Nat)=y1)<|
 let y2:DI:=x.1.1
 let y3:ew:=x.1.2
 let y4:Int:=y3.1
 let y5:nG:=y3.2.2
 let y6:bk:=(y2,(y4,((),y5)))
 let y7:eF:=y2.2.2.2
 let y8:(aF×ze):=y5.2
 let y9:nX:=(y6,(y0,(y7.1,(y8.1,y4))))
 .aa (jh y9)<|
 let y10:aq:=(fy y9).1
 let y11:Nat:=y10.length
 .aa ((y11:Nat)=y11)<|
 let y12:nX:=(y6,(y10,(y7.2.1,(y8.2.1,y4))))
 .aa (jh y12)<|
 let y13:aq:=(fy y12).1
 let y14:Nat:=y13.length
 .aa ((y14:Nat)=y14)<|
 let y15:eA:=(y6,(y13,()))
 .aa (GU y15)<|
 .aa ((0:Nat) < 3)<|
 .aa ((1:Nat) < 3)<|
 .aa ((2:Nat) < 3)<|
 let y16:aq:=(DD y15).1
 let y17:Nat:=y16.length
 .aa ((y17:Nat)=y17)<|
 let y18:gN:=(y6,(y16,(26,(8,[(fy y12).2,(fy y9).2,(DD y15).2]))))
 .aa (bN y18)<|
 let y19:aq:=(ba y18).1
 let y20:Nat:=y19.length
 .aa ((y20:Nat)=y20)<|
 let y21:fM:=(y6,(y19,(ba y18).2))
 .aa (ji y21)<|
 let y22:aq:=(jC y21).1
 let y23:Nat:=y22.length
 .aa ((y23:Nat)=y23)<|
 .aa (y6=x.1)<|
 .ret (y22,())
noncomputable def RF (x:br):bx:=(vt x).val
def O3 (x:br):Prop:=(vt x).ok
noncomputable def qJ:aH:={t:=51,lf:=2,te:=38,ce:=aZ,st:=(.st bA (.st (.int .i64) (.st .bC (.st (.int .u64) (.st ar (.st ar (.st ar (.bu ar)))))))),arg:=.unit,cB:=.unit,n:=0,pos:=0,box:=false,pre:=O3,f:=fun x=>(RF x).1,g:=fun x=>(RF x).2}
noncomputable def Aw:FuncId→Option Spec
 | _=>none
theorem I0:∀ f sp,Aw f=some sp→ah aA f sp:=by
 intro f sp h
 unfold Aw at h
 split at h
 ·cases h
noncomputable def tH:FuncId→Option aH
 | 30=>some dy
 | 80=>some fP
 | 81=>some fx
 | 96=>some mc
 | _=>none
theorem E4:∀ f ps,tH f=some ps→aj aA f ps:=by
 intro f ps h
 unfold tH at h
 split at h
 ·cases h;exact gi
 ·cases h;exact lP
 ·cases h;exact kI
 ·cases h;exact LN
 ·cases h
theorem TF (W:cM) (Q:bx→Prop) (x:br):run (env Aw tH true (fun _ _=>none)) (fun _ _ _=>none) (cY qJ x.1 Q) W 100000 (bF 59 Tryz.f59 (ag Tryz.f59) (qJ.dt x.2.2)) [] (H0 qJ x.1 x.2.1)=(vt x).wp Q:=by kernel_rfl
theorem Vg:aj aA 59 qJ:=aj.env rfl (fun _ _ h=>h) (az (E:=(env Aw tH true (fun _ _=>none))) (ps:=qJ) (valid _ _ _ _) ⟨fun f sp h=>ah.env rfl (fun _ _ h=>h) (I0 f sp h),fun f ps h=>aj.env rfl (fun _ _ h=>h) (E4 f ps h)⟩ (by kernel_rfl) (fn:=Tryz.f59) (c:=(ag Tryz.f59)) (by kernel_rfl) (by kernel_rfl) vt TF (fun _ h=>Tr.an h))
noncomputable def vq (x:br):Tr bx:=
 let y0:aq:=x.2.1
 let y1:Nat:=y0.length
 .aa ((y1:Nat)=y1)<|
 let y2:ew:=x.1.2
 let y3:bk:=(x.1.1,(y2.1,((),y2.2.2)))
 let y4:eA:=(y3,(y0,()))
 .aa (GU y4)<|
 let y5:aq:=(DD y4).1
 let y6:Nat:=y5.length
 .aa ((y6:Nat)=y6)<|
 let y7:fM:=(y3,(y5,(DD y4).2))
 .aa (ji y7)<|
 let y8:aq:=(jC y7).1
 let y9:Nat:=y8.length
 .aa ((y9:Nat)=y9)<|
 .aa (y3=x.1)<|
 .ret (y8,())
noncomputable def RE (x:br):bx:=(vq x).val
def O2 (x:br):Prop:=(vq x).ok
noncomputable def qI:aH:={t:=51,lf:=2,te:=38,ce:=aZ,st:=(.st bA (.st (.int .i64) (.st .bC (.st (.int .u64) (.st ar (.st ar (.st ar (.bu ar)))))))),arg:=.unit,cB:=.unit,n:=0,pos:=0,box:=false,pre:=O2,f:=fun x=>(RE x).1,g:=fun x=>(RE x).2}
noncomputable def Av:FuncId→Option Spec
 | _=>none
theorem IZ:∀ f sp,Av f=some sp→ah aA f sp:=by
 intro f sp h
 unfold Av at h
 split at h
 ·cases h
noncomputable def tG:FuncId→Option aH
 | 80=>some fP
 | 96=>some mc
 | _=>none
theorem E3:∀ f ps,tG f=some ps→aj aA f ps:=by
 intro f ps h
 unfold tG at h
 split at h
 ·cases h;exact lP
 ·cases h;exact LN
 ·cases h
theorem TE (W:cM) (Q:bx→Prop) (x:br):run (env Av tG true (fun _ _=>none)) (fun _ _ _=>none) (cY qI x.1 Q) W 100000 (bF 60 Tryz.f60 (ag Tryz.f60) (qI.dt x.2.2)) [] (H0 qI x.1 x.2.1)=(vq x).wp Q:=by kernel_rfl
theorem Vf:aj aA 60 qI:=aj.env rfl (fun _ _ h=>h) (az (E:=(env Av tG true (fun _ _=>none))) (ps:=qI) (valid _ _ _ _) ⟨fun f sp h=>ah.env rfl (fun _ _ h=>h) (IZ f sp h),fun f ps h=>aj.env rfl (fun _ _ h=>h) (E3 f ps h)⟩ (by kernel_rfl) (fn:=Tryz.f60) (c:=(ag Tryz.f60)) (by kernel_rfl) (by kernel_rfl) vq TE (fun _ h=>Tr.an h))
end Go.bz.RL
end
section
namespace Go.bz.RL
open Go.Proofs Go.bz
noncomputable def vp (x:br):Tr bx:=
 let y0:aq:=x.2.1
 let y1:Nat:=y0.length
 .aa ((y1:Nat)=y1)<|
 let y2:DI:=x.1.1
 let y3:ew:=x.1.2
 let y4:nG:=y3.2.2
 let y5:bk:=(y2,(y3.1,((),y4)))
 let y6:nX:=(y5,(y0,(y2.2.2.2.2.1,(y4.2.2.1,1))))
 .aa (jh y6)<|
 .aa ((0:Nat) < 1)<|
 let y7:aq:=(fy y6).1
 let y8:Nat:=y7.length
 .aa ((y8:Nat)=y8)<|
 let y9:gN:=(y5,(y7,(1,(1,[(fy y6).2]))))
 .aa (bN y9)<|
 let y10:aq:=(ba y9).1
 let y11:Nat:=y10.length
 .aa ((y11:Nat)=y11)<|
 let y12:fM:=(y5,(y10,(ba y9).2))
 .aa (ji y12)<|
 let y13:aq:=(jC y12).1
 let y14:Nat:=y13.length
 .aa ((y14:Nat)=y14)<|
 .aa (y5=x.1)<|
 .ret (y13,())
noncomputable def RD (x:br):bx:=(vp x).val
def O1 (x:br):Prop:=(vp x).ok
noncomputable def qH:aH:={t:=51,lf:=2,te:=38,ce:=aZ,st:=(.st bA (.st (.int .i64) (.st .bC (.st (.int .u64) (.st ar (.st ar (.st ar (.bu ar)))))))),arg:=.unit,cB:=.unit,n:=0,pos:=0,box:=false,pre:=O1,f:=fun x=>(RD x).1,g:=fun x=>(RD x).2}
noncomputable def Au:FuncId→Option Spec
 | _=>none
theorem IY:∀ f sp,Au f=some sp→ah aA f sp:=by
 intro f sp h
 unfold Au at h
 split at h
 ·cases h
noncomputable def tF:FuncId→Option aH
 | 30=>some dy
 | 80=>some fP
 | 81=>some fx
 | _=>none
theorem E2:∀ f ps,tF f=some ps→aj aA f ps:=by
 intro f ps h
 unfold tF at h
 split at h
 ·cases h;exact gi
 ·cases h;exact lP
 ·cases h;exact kI
 ·cases h
theorem TD (W:cM) (Q:bx→Prop) (x:br):run (env Au tF true (fun _ _=>none)) (fun _ _ _=>none) (cY qH x.1 Q) W 100000 (bF 61 Tryz.f61 (ag Tryz.f61) (qH.dt x.2.2)) [] (H0 qH x.1 x.2.1)=(vp x).wp Q:=by kernel_rfl
theorem Ve:aj aA 61 qH:=aj.env rfl (fun _ _ h=>h) (az (E:=(env Au tF true (fun _ _=>none))) (ps:=qH) (valid _ _ _ _) ⟨fun f sp h=>ah.env rfl (fun _ _ h=>h) (IY f sp h),fun f ps h=>aj.env rfl (fun _ _ h=>h) (E2 f ps h)⟩ (by kernel_rfl) (fn:=Tryz.f61) (c:=(ag Tryz.f61)) (by kernel_rfl) (by kernel_rfl) vp TD (fun _ h=>Tr.an h))
noncomputable def vo (x:br):Tr bx:=
 let y0:aq:=x.2.1
 let y1:Nat:=y0.length
 .aa ((y1:Nat)=y1)<|
 let y2:DI:=x.1.1
 let y3:ew:=x.1.2
 let y4:nG:=y3.2.2
 let y5:bk:=(y2,(y3.1,((),y4)))
 let y6:nX:=(y5,(y0,(y2.2.2.2.2.1,(y4.2.2.1,1))))
 .aa (jh y6)<|
 .aa ((0:Nat) < 1)<|
 let y7:aq:=(fy y6).1
 let y8:Nat:=y7.length
 .aa ((y8:Nat)=y8)<|
 let y9:gN:=(y5,(y7,(21,(1,[(fy y6).2]))))
 .aa (bN y9)<|
 let y10:aq:=(ba y9).1
 let y11:Nat:=y10.length
 .aa ((y11:Nat)=y11)<|
 let y12:fM:=(y5,(y10,(ba y9).2))
 .aa (ji y12)<|
 let y13:aq:=(jC y12).1
 let y14:Nat:=y13.length
 .aa ((y14:Nat)=y14)<|
 .aa (y5=x.1)<|
 .ret (y13,())
noncomputable def RC (x:br):bx:=(vo x).val
def O0 (x:br):Prop:=(vo x).ok
noncomputable def qG:aH:={t:=51,lf:=2,te:=38,ce:=aZ,st:=(.st bA (.st (.int .i64) (.st .bC (.st (.int .u64) (.st ar (.st ar (.st ar (.bu ar)))))))),arg:=.unit,cB:=.unit,n:=0,pos:=0,box:=false,pre:=O0,f:=fun x=>(RC x).1,g:=fun x=>(RC x).2}
noncomputable def As:FuncId→Option Spec
 | _=>none
theorem IX:∀ f sp,As f=some sp→ah aA f sp:=by
 intro f sp h
 unfold As at h
 split at h
 ·cases h
noncomputable def tE:FuncId→Option aH
 | 30=>some dy
 | 80=>some fP
 | 81=>some fx
 | _=>none
theorem E1:∀ f ps,tE f=some ps→aj aA f ps:=by
 intro f ps h
 unfold tE at h
 split at h
 ·cases h;exact gi
 ·cases h;exact lP
 ·cases h;exact kI
 ·cases h
theorem Tz (W:cM) (Q:bx→Prop) (x:br):run (env As tE true (fun _ _=>none)) (fun _ _ _=>none) (cY qG x.1 Q) W 100000 (bF 62 Tryz.f62 (ag Tryz.f62) (qG.dt x.2.2)) [] (H0 qG x.1 x.2.1)=(vo x).wp Q:=by kernel_rfl
theorem Vd:aj aA 62 qG:=aj.env rfl (fun _ _ h=>h) (az (E:=(env As tE true (fun _ _=>none))) (ps:=qG) (valid _ _ _ _) ⟨fun f sp h=>ah.env rfl (fun _ _ h=>h) (IX f sp h),fun f ps h=>aj.env rfl (fun _ _ h=>h) (E1 f ps h)⟩ (by kernel_rfl) (fn:=Tryz.f62) (c:=(ag Tryz.f62)) (by kernel_rfl) (by kernel_rfl) vo Tz (fun _ h=>Tr.an h))
noncomputable def vn (x:br):Tr bx:=
 let y0:DI:=x.1.1
 .ite (ak y0.2.2.2.1.1 2) (
 .aa ((0:Nat) < 1)<|
 let y1:=x.2.1
 let y2:Nat:=y1.length
 .aa ((y2:Nat)=y2)<|
 .aa (((0:Nat)+1:Nat)≤1)<|
 let y3:=x.1.2
 let y4:=y3.2.2
 let y5:bk:=(y0,(y3.1,((),y4)))
 let y6:=y4.2
 let y7:gQ:=(y5,(y1,(31,(16,(0,[y6.1])))))
 .aa (bK y7)<|
 let y8:=(cK y7).1
 let y9:Nat:=y8.length
 let y10:Int:=(iu .i64 (y9:Int) 1)
 .aa ((0:Int)≤y10)<|
 .aa (y10 < (y9:Int))<|
 .aa ((0:Nat) < y9)<|
 let y11:Nat:=(y10).toNat
 .aa ((y11:Nat) < y9)<|
 let y12:bt:=(eZ aZ y8 y11)
 let y13:=y12.2
 let y14:=y13.2
 let y15:=y14.2
 let y16:=y15.2
 let y17:aq:=(y8.set y11 (y12.1,(y13.1,(y14.1,(y15.1,(y16.1,(y16.2.1,y0)))))))
 .aa ((y9:Nat)=y17.length)<|
 .aa (y5=x.1)<|
 .ret (y17,())) (
 .aa ((0:Nat) < 1)<|
 let y18:=x.2.1
 let y19:Nat:=y18.length
 .aa ((y19:Nat)=y19)<|
 .aa (((0:Nat)+1:Nat)≤1)<|
 let y20:=x.1.2
 let y21:=y20.2.2
 let y22:bk:=(y0,(y20.1,((),y21)))
 let y23:=y21.2
 let y24:gQ:=(y22,(y18,(31,(16,(0,[y23.2.1])))))
 .aa (bK y24)<|
 let y25:=(cK y24).1
 let y26:Nat:=y25.length
 let y27:Int:=(iu .i64 (y26:Int) 1)
 .aa ((0:Int)≤y27)<|
 .aa (y27 < (y26:Int))<|
 .aa ((0:Nat) < y26)<|
 let y28:Nat:=(y27).toNat
 .aa ((y28:Nat) < y26)<|
 let y29:bt:=(eZ aZ y25 y28)
 let y30:=y29.2
 let y31:=y30.2
 let y32:=y31.2
 let y33:=y32.2
 let y34:aq:=(y25.set y28 (y29.1,(y30.1,(y31.1,(y32.1,(y33.1,(y33.2.1,y0)))))))
 .aa ((y26:Nat)=y34.length)<|
 .aa (y22=x.1)<|
 .ret (y34,()))
noncomputable def Gj (x:br):bx:=(vn x).val
def yb (x:br):Prop:=(vn x).ok
noncomputable def qF:aH:={t:=51,lf:=2,te:=38,ce:=aZ,st:=(.st bA (.st (.int .i64) (.st .bC (.st (.int .u64) (.st ar (.st ar (.st ar (.bu ar)))))))),arg:=.unit,cB:=.unit,n:=0,pos:=0,box:=false,pre:=yb,f:=fun x=>(Gj x).1,g:=fun x=>(Gj x).2}
noncomputable def Aq:FuncId→Option Spec
 | _=>none
theorem IW:∀ f sp,Aq f=some sp→ah aA f sp:=by
 intro f sp h
 unfold Aq at h
 split at h
 ·cases h
noncomputable def tD:FuncId→Option aH
 | 17=>some fQ
 | _=>none
theorem E0:∀ f ps,tD f=some ps→aj aA f ps:=by
 intro f ps h
 unfold tD at h
 split at h
 ·cases h;exact lQ
 ·cases h
theorem Ty (W:cM) (Q:bx→Prop) (x:br):run (env Aq tD false (fun _ _=>none)) (fun _ _ _=>none) (cY qF x.1 Q) W 100000 (bF 63 Tryz.f63 (ag Tryz.f63) (qF.dt x.2.2)) [] (H0 qF x.1 x.2.1)=(vn x).wp Q:=by kernel_rfl
theorem Vc:aj aA 63 qF:=aj.env rfl (fun _ _ h=>h) (az (E:=(env Aq tD false (fun _ _=>none))) (ps:=qF) (valid _ _ _ _) ⟨fun f sp h=>ah.env rfl (fun _ _ h=>h) (IW f sp h),fun f ps h=>aj.env rfl (fun _ _ h=>h) (E0 f ps h)⟩ (by kernel_rfl) (fn:=Tryz.f63) (c:=(ag Tryz.f63)) (by kernel_rfl) (by kernel_rfl) vn Ty (fun _ h=>Tr.an h))
noncomputable def yW (_x:Unit):Tr Unit:=
 .ret ()
noncomputable def XG (x:Unit):Unit:=(yW x).val
def LH (x:Unit):Prop:=(yW x).ok
noncomputable def YN:List (AV×AV):=[((.int .u8 1),(.fn 32 [])),((.int .u8 2),(.fn 33 [])),((.int .u8 3),(.fn 34 [])),((.int .u8 5),(.fn 35 [])),((.int .u8 8),(.fn 36 [])),((.int .u8 6),(.fn 37 [])),((.int .u8 10),(.fn 36 [])),((.int .u8 7),(.fn 38 [])),((.int .u8 11),(.fn 38 [])),((.int .u8 4),(.fn 39 [])),((.int .u8 9),(.fn 40 [])),((.int .u8 12),(.fn 41 [])),((.int .u8 13),(.fn 42 [])),((.int .u8 14),(.fn 43 [])),((.int .u8 15),(.fn 44 [])),((.int .u8 16),(.fn 45 [])),((.int .u8 17),(.fn 46 [])),((.int .u8 18),(.fn 47 [])),((.int .u8 19),(.fn 48 [])),((.int .u8 20),(.fn 49 [])),((.int .u8 21),(.fn 50 [])),((.int .u8 22),(.fn 51 [])),((.int .u8 23),(.fn 52 [])),((.int .u8 24),(.fn 53 [])),((.int .u8 25),(.fn 54 [])),((.int .u8 26),(.fn 55 [])),((.int .u8 27),(.fn 56 [])),((.int .u8 28),(.fn 57 [])),((.int .u8 29),(.fn 58 [])),((.int .u8 30),(.fn 59 [])),((.int .u8 31),(.fn 60 [])),((.int .u8 32),(.fn 61 [])),((.int .u8 33),(.fn 62 [])),((.int .u8 35),(.fn 63 [])),((.int .u8 36),(.fn 63 [])),((.int .u8 37),(.fn 63 [])),((.int .u8 38),(.fn 63 [])),((.int .u8 39),(.fn 63 []))]
noncomputable def zy:Spec:={eX:=.unit,cB:=.bC,n:=1,pre:=LH,f:=XG,own:=some (.mp YN)}
noncomputable def A6:FuncId→Option Spec
 | _=>none
theorem Jy:∀ f sp,A6 f=some sp→ah aA f sp:=by
 intro f sp h
 unfold A6 at h
 split at h
 ·cases h
section
variable (W:cM) (Q:Unit→Prop) (x:Unit)
theorem Uh:run (env A6 (fun _=>none) false (fun _ _=>none)) (fun _ _ _=>none) (bE zy Q) W 100000 (bl 16 Tryz.f16 (ag Tryz.f16) (bp .unit x)) [] []=(yW x).wp Q:=by kernel_rfl
end
theorem Xx:ah aA 16 zy:=ah.env rfl (fun _ _ h=>h) (aG (E:=(env A6 (fun _=>none) false (fun _ _=>none))) (sp:=zy) (valid _ _ _ _) ⟨fun f sp h=>ah.env rfl (fun _ _ h=>h) (Jy f sp h),fun f ps h=>nomatch h⟩ (fn:=Tryz.f16) (c:=(ag Tryz.f16)) (by kernel_rfl) (by kernel_rfl) yW Uh (fun _ h=>Tr.an h))
end Go.bz.RL
end
section
namespace Go.bz.RL
open Go.Proofs Go.bz
noncomputable def Hj (x:dQ):Tr eM:=
 let y0:fb:=x.1.2.2
 let y1:eF:=y0.2
 let y2:eV:=y1.2
 let y3:Int:=(aK .u64 x.2 (aN .u64 y2.2.2))
 let y4:Int:=y0.1
 let y5:ed:=(false,(0,0))
 let y6:aF:=(aP y3)
 let y7:dh:=(y6,(aP 1))
 let y8:eK:=(y5,y7)
 let y9:DO:=y1.1
 let y10:k8:=((x.1,(y4,((),(y3,(y5,y8))))),(([]:List bt),y9))
 let y11:aq:=(aT y10).1
 let y13:aF:=(aT y10).2
 let y14:DO:=y2.1
 let y15:eW:=((x.1,(y4,((),(y3,(y13,y8))))),(y11,y14))
 let y17:aq:=(aT y15).1
 let y18:Nat:=y17.length
 .aa ((y18:Nat)=y18)<|
 let y19:aF:=(aT y15).2
 let y20:bk:=(x.1,(y4,((),(y3,(y13,(y19,y7))))))
 let y21:eA:=(y20,(y17,()))
 .aa (Pq y21)<|
 .aa (bn y3)<|
 .aa ((0:Nat) < 3)<|
 .aa ((1:Nat) < 3)<|
 .aa ((2:Nat) < 3)<|
 let y22:aq:=(R3 y21).1
 let y23:Nat:=y22.length
 .aa ((y23:Nat)=y23)<|
 .aa (((0:Nat)+3:Nat)≤3)<|
 let y24:fk:=(30,(8,(0,[y6,y6,(aP 1)])))
 let y25:gQ:=(y20,(y22,y24))
 .aa (bK y25)<|
 let y26:aq:=(cK y25).1
 let y27:Nat:=y26.length
 .aa ((y27:Nat)=y27)<|
 .ret (y26,0)
noncomputable def Hi (x:dQ):Tr eM:=
 let y0:fb:=x.1.2.2
 let y1:eF:=y0.2
 let y2:eV:=y1.2
 let y3:Int:=(aK .u64 x.2 (aN .u64 y2.2.2))
 let y4:Int:=y0.1
 let y5:ed:=(false,(0,0))
 let y6:aF:=(aP y3)
 let y7:dh:=(y6,(aP 1))
 let y8:eK:=(y5,y7)
 let y9:DO:=y1.1
 let y10:k8:=((x.1,(y4,((),(y3,(y5,y8))))),(([]:List bt),y9))
 let y11:aq:=(aT y10).1
 let y13:aF:=(aT y10).2
 let y14:DO:=y2.1
 let y15:eW:=((x.1,(y4,((),(y3,(y13,y8))))),(y11,y14))
 let y28:aq:=(aT y15).1
 let y29:Nat:=y28.length
 .aa ((y29:Nat)=y29)<|
 let y30:aF:=(aT y15).2
 let y31:bk:=(x.1,(y4,((),(y3,(y13,(y30,y7))))))
 let y32:eA:=(y31,(y28,()))
 .aa (Pp y32)<|
 .aa (bn y3)<|
 .aa ((0:Nat) < 3)<|
 .aa ((1:Nat) < 3)<|
 .aa ((2:Nat) < 3)<|
 let y33:aq:=(R2 y32).1
 let y34:Nat:=y33.length
 .aa ((y34:Nat)=y34)<|
 .aa (((0:Nat)+3:Nat)≤3)<|
 let y35:fk:=(30,(8,(0,[y6,y6,(aP 1)])))
 let y36:gQ:=(y31,(y33,y35))
 .aa (bK y36)<|
 let y37:aq:=(cK y36).1
 let y38:Nat:=y37.length
 .aa ((y38:Nat)=y38)<|
 .ret (y37,0)
noncomputable def Hh (x:dQ):Tr eM:=
 let y0:fb:=x.1.2.2
 let y1:eF:=y0.2
 let y2:eV:=y1.2
 let y3:Int:=(aK .u64 x.2 (aN .u64 y2.2.2))
 let y4:Int:=y0.1
 let y5:ed:=(false,(0,0))
 let y6:aF:=(aP y3)
 let y7:dh:=(y6,(aP 1))
 let y8:eK:=(y5,y7)
 let y9:DO:=y1.1
 let y10:k8:=((x.1,(y4,((),(y3,(y5,y8))))),(([]:List bt),y9))
 let y11:aq:=(aT y10).1
 let y13:aF:=(aT y10).2
 let y14:DO:=y2.1
 let y15:eW:=((x.1,(y4,((),(y3,(y13,y8))))),(y11,y14))
 let y39:aq:=(aT y15).1
 let y40:Nat:=y39.length
 .aa ((y40:Nat)=y40)<|
 let y41:aF:=(aT y15).2
 let y42:bk:=(x.1,(y4,((),(y3,(y13,(y41,y7))))))
 let y43:eA:=(y42,(y39,()))
 .aa (Po y43)<|
 .aa (bn y3)<|
 .aa ((0:Nat) < 3)<|
 .aa ((1:Nat) < 3)<|
 .aa ((2:Nat) < 3)<|
 let y44:aq:=(R1 y43).1
 let y45:Nat:=y44.length
 .aa ((y45:Nat)=y45)<|
 .aa (((0:Nat)+3:Nat)≤3)<|
 let y46:fk:=(30,(8,(0,[y6,y6,(aP 1)])))
 let y47:gQ:=(y42,(y44,y46))
 .aa (bK y47)<|
 let y48:aq:=(cK y47).1
 let y49:Nat:=y48.length
 .aa ((y49:Nat)=y49)<|
 .ret (y48,0)
noncomputable def Hf (x:dQ):Tr eM:=
 let y0:fb:=x.1.2.2
 let y1:eF:=y0.2
 let y2:eV:=y1.2
 let y3:Int:=(aK .u64 x.2 (aN .u64 y2.2.2))
 let y4:Int:=y0.1
 let y5:ed:=(false,(0,0))
 let y6:aF:=(aP y3)
 let y7:dh:=(y6,(aP 1))
 let y8:eK:=(y5,y7)
 let y9:DO:=y1.1
 let y10:k8:=((x.1,(y4,((),(y3,(y5,y8))))),(([]:List bt),y9))
 let y11:aq:=(aT y10).1
 let y13:aF:=(aT y10).2
 let y14:DO:=y2.1
 let y15:eW:=((x.1,(y4,((),(y3,(y13,y8))))),(y11,y14))
 let y50:aq:=(aT y15).1
 let y51:Nat:=y50.length
 .aa ((y51:Nat)=y51)<|
 let y52:aF:=(aT y15).2
 let y53:bk:=(x.1,(y4,((),(y3,(y13,(y52,y7))))))
 let y54:eA:=(y53,(y50,()))
 .aa (Pn y54)<|
 .aa (bn y3)<|
 .aa ((0:Nat) < 3)<|
 .aa ((1:Nat) < 3)<|
 .aa ((2:Nat) < 3)<|
 let y55:aq:=(R0 y54).1
 let y56:Nat:=y55.length
 .aa ((y56:Nat)=y56)<|
 .aa (((0:Nat)+3:Nat)≤3)<|
 let y57:fk:=(30,(8,(0,[y6,y6,(aP 1)])))
 let y58:gQ:=(y53,(y55,y57))
 .aa (bK y58)<|
 let y59:aq:=(cK y58).1
 let y60:Nat:=y59.length
 .aa ((y60:Nat)=y60)<|
 .ret (y59,0)
noncomputable def Hc (x:dQ):Tr eM:=
 let y0:fb:=x.1.2.2
 let y1:eF:=y0.2
 let y2:eV:=y1.2
 let y3:Int:=(aK .u64 x.2 (aN .u64 y2.2.2))
 let y4:Int:=y0.1
 let y5:ed:=(false,(0,0))
 let y6:aF:=(aP y3)
 let y7:dh:=(y6,(aP 1))
 let y8:eK:=(y5,y7)
 let y9:DO:=y1.1
 let y10:k8:=((x.1,(y4,((),(y3,(y5,y8))))),(([]:List bt),y9))
 let y11:aq:=(aT y10).1
 let y13:aF:=(aT y10).2
 let y14:DO:=y2.1
 let y15:eW:=((x.1,(y4,((),(y3,(y13,y8))))),(y11,y14))
 let y61:aq:=(aT y15).1
 let y62:Nat:=y61.length
 .aa ((y62:Nat)=y62)<|
 let y63:aF:=(aT y15).2
 let y64:bk:=(x.1,(y4,((),(y3,(y13,(y63,y7))))))
 let y65:eA:=(y64,(y61,()))
 .aa (Ly y65)<|
 .aa (bn y3)<|
 .aa ((0:Nat) < 3)<|
 .aa ((1:Nat) < 3)<|
 .aa ((2:Nat) < 3)<|
 let y66:aq:=(Oe y65).1
 let y67:Nat:=y66.length
 .aa ((y67:Nat)=y67)<|
 .aa (((0:Nat)+3:Nat)≤3)<|
 let y68:fk:=(30,(8,(0,[y6,y6,(aP 1)])))
 let y69:gQ:=(y64,(y66,y68))
 .aa (bK y69)<|
 let y70:aq:=(cK y69).1
 let y71:Nat:=y70.length
 .aa ((y71:Nat)=y71)<|
 let y72:oS:=(y70,0)
 .ret y72
noncomputable def He (x:dQ):Tr eM:=
 let y0:fb:=x.1.2.2
 let y1:eF:=y0.2
 let y2:eV:=y1.2
 let y3:Int:=(aK .u64 x.2 (aN .u64 y2.2.2))
 let y4:Int:=y0.1
 let y5:ed:=(false,(0,0))
 let y6:aF:=(aP y3)
 let y7:dh:=(y6,(aP 1))
 let y8:eK:=(y5,y7)
 let y9:DO:=y1.1
 let y10:k8:=((x.1,(y4,((),(y3,(y5,y8))))),(([]:List bt),y9))
 let y11:aq:=(aT y10).1
 let y13:aF:=(aT y10).2
 let y14:DO:=y2.1
 let y15:eW:=((x.1,(y4,((),(y3,(y13,y8))))),(y11,y14))
 let y73:aq:=(aT y15).1
 let y74:Nat:=y73.length
 .aa ((y74:Nat)=y74)<|
 let y75:aF:=(aT y15).2
 let y76:bk:=(x.1,(y4,((),(y3,(y13,(y75,y7))))))
 let y77:eA:=(y76,(y73,()))
 .aa (Pm y77)<|
 .aa (bn y3)<|
 .aa ((0:Nat) < 3)<|
 .aa ((1:Nat) < 3)<|
 .aa ((2:Nat) < 3)<|
 let y78:aq:=(RZ y77).1
 let y79:Nat:=y78.length
 .aa ((y79:Nat)=y79)<|
 .aa (((0:Nat)+3:Nat)≤3)<|
 let y80:fk:=(30,(8,(0,[y6,y6,(aP 1)])))
 let y81:gQ:=(y76,(y78,y80))
 .aa (bK y81)<|
 let y82:aq:=(cK y81).1
 let y83:Nat:=y82.length
 .aa ((y83:Nat)=y83)<|
 .ret (y82,0)
noncomputable def Dq (x:dQ):Tr eM:=
 let y0:fb:=x.1.2.2
 let y1:eF:=y0.2
 let y2:eV:=y1.2
 let y3:Int:=(aK .u64 x.2 (aN .u64 y2.2.2))
 let y4:Int:=y0.1
 let y5:ed:=(false,(0,0))
 let y6:aF:=(aP y3)
 let y7:dh:=(y6,(aP 1))
 let y8:eK:=(y5,y7)
 let y9:DO:=y1.1
 let y10:k8:=((x.1,(y4,((),(y3,(y5,y8))))),(([]:List bt),y9))
 let y11:aq:=(aT y10).1
 let y13:aF:=(aT y10).2
 let y14:DO:=y2.1
 let y15:eW:=((x.1,(y4,((),(y3,(y13,y8))))),(y11,y14))
 let y84:aq:=(aT y15).1
 let y85:Nat:=y84.length
 .aa ((y85:Nat)=y85)<|
 let y86:aF:=(aT y15).2
 let y87:bk:=(x.1,(y4,((),(y3,(y13,(y86,y7))))))
 let y88:eA:=(y87,(y84,()))
 .aa (Ly y88)<|
 .aa (bn y3)<|
 .aa ((0:Nat) < 3)<|
 .aa ((1:Nat) < 3)<|
 .aa ((2:Nat) < 3)<|
 let y89:aq:=(Oe y88).1
 let y90:Nat:=y89.length
 .aa ((y90:Nat)=y90)<|
 .aa (((0:Nat)+3:Nat)≤3)<|
 let y91:fk:=(30,(8,(0,[y6,y6,(aP 1)])))
 let y92:gQ:=(y87,(y89,y91))
 .aa (bK y92)<|
 let y93:aq:=(cK y92).1
 let y94:Nat:=y93.length
 .aa ((y94:Nat)=y94)<|
 let y95:oS:=(y93,0)
 .ret y95
noncomputable def Hd (x:dQ):Tr eM:=
 let y0:fb:=x.1.2.2
 let y1:eF:=y0.2
 let y2:eV:=y1.2
 let y3:Int:=(aK .u64 x.2 (aN .u64 y2.2.2))
 let y4:Int:=y0.1
 let y5:ed:=(false,(0,0))
 let y6:aF:=(aP y3)
 let y7:dh:=(y6,(aP 1))
 let y8:eK:=(y5,y7)
 let y9:DO:=y1.1
 let y10:k8:=((x.1,(y4,((),(y3,(y5,y8))))),(([]:List bt),y9))
 let y11:aq:=(aT y10).1
 let y13:aF:=(aT y10).2
 let y14:DO:=y2.1
 let y15:eW:=((x.1,(y4,((),(y3,(y13,y8))))),(y11,y14))
 let y96:aq:=(aT y15).1
 let y97:Nat:=y96.length
 .aa ((y97:Nat)=y97)<|
 let y98:aF:=(aT y15).2
 let y99:bk:=(x.1,(y4,((),(y3,(y13,(y98,y7))))))
 let y100:eA:=(y99,(y96,()))
 .aa (Lx y100)<|
 .aa (bn y3)<|
 .aa ((0:Nat) < 3)<|
 .aa ((1:Nat) < 3)<|
 .aa ((2:Nat) < 3)<|
 let y101:aq:=(Od y100).1
 let y102:Nat:=y101.length
 .aa ((y102:Nat)=y102)<|
 .aa (((0:Nat)+3:Nat)≤3)<|
 let y103:fk:=(30,(8,(0,[y6,y6,(aP 1)])))
 let y104:gQ:=(y99,(y101,y103))
 .aa (bK y104)<|
 let y105:aq:=(cK y104).1
 let y106:Nat:=y105.length
 .aa ((y106:Nat)=y106)<|
 let y107:oS:=(y105,0)
 .ret y107
noncomputable def Dp (x:dQ):Tr eM:=
 let y0:fb:=x.1.2.2
 let y1:eF:=y0.2
 let y2:eV:=y1.2
 let y3:Int:=(aK .u64 x.2 (aN .u64 y2.2.2))
 let y4:Int:=y0.1
 let y5:ed:=(false,(0,0))
 let y6:aF:=(aP y3)
 let y7:dh:=(y6,(aP 1))
 let y8:eK:=(y5,y7)
 let y9:DO:=y1.1
 let y10:k8:=((x.1,(y4,((),(y3,(y5,y8))))),(([]:List bt),y9))
 let y11:aq:=(aT y10).1
 let y13:aF:=(aT y10).2
 let y14:DO:=y2.1
 let y15:eW:=((x.1,(y4,((),(y3,(y13,y8))))),(y11,y14))
 let y108:aq:=(aT y15).1
 let y109:Nat:=y108.length
 .aa ((y109:Nat)=y109)<|
 let y110:aF:=(aT y15).2
 let y111:bk:=(x.1,(y4,((),(y3,(y13,(y110,y7))))))
 let y112:eA:=(y111,(y108,()))
 .aa (Lx y112)<|
 .aa (bn y3)<|
 .aa ((0:Nat) < 3)<|
 .aa ((1:Nat) < 3)<|
 .aa ((2:Nat) < 3)<|
 let y113:aq:=(Od y112).1
 let y114:Nat:=y113.length
 .aa ((y114:Nat)=y114)<|
 .aa (((0:Nat)+3:Nat)≤3)<|
 let y115:fk:=(30,(8,(0,[y6,y6,(aP 1)])))
 let y116:gQ:=(y111,(y113,y115))
 .aa (bK y116)<|
 let y117:aq:=(cK y116).1
 let y118:Nat:=y117.length
 .aa ((y118:Nat)=y118)<|
 let y119:oS:=(y117,0)
 .ret y119
noncomputable def Hg (x:dQ):Tr eM:=
 let y0:fb:=x.1.2.2
 let y1:eF:=y0.2
 let y2:eV:=y1.2
 let y3:Int:=(aK .u64 x.2 (aN .u64 y2.2.2))
 let y4:Int:=y0.1
 let y5:ed:=(false,(0,0))
 let y6:aF:=(aP y3)
 let y7:dh:=(y6,(aP 1))
 let y8:eK:=(y5,y7)
 let y9:DO:=y1.1
 let y10:k8:=((x.1,(y4,((),(y3,(y5,y8))))),(([]:List bt),y9))
 let y11:aq:=(aT y10).1
 let y13:aF:=(aT y10).2
 let y14:DO:=y2.1
 let y15:eW:=((x.1,(y4,((),(y3,(y13,y8))))),(y11,y14))
 let y120:aq:=(aT y15).1
 let y121:Nat:=y120.length
 .aa ((y121:Nat)=y121)<|
 let y122:aF:=(aT y15).2
 let y123:bk:=(x.1,(y4,((),(y3,(y13,(y122,y7))))))
 let y124:eA:=(y123,(y120,()))
 .aa (Pk y124)<|
 .aa (bn y3)<|
 .aa ((0:Nat) < 3)<|
 .aa ((1:Nat) < 3)<|
 .aa ((2:Nat) < 3)<|
 let y125:aq:=(RY y124).1
 let y126:Nat:=y125.length
 .aa ((y126:Nat)=y126)<|
 .aa (((0:Nat)+3:Nat)≤3)<|
 let y127:fk:=(30,(8,(0,[y6,y6,(aP 1)])))
 let y128:gQ:=(y123,(y125,y127))
 .aa (bK y128)<|
 let y129:aq:=(cK y128).1
 let y130:Nat:=y129.length
 .aa ((y130:Nat)=y130)<|
 .ret (y129,0)
noncomputable def Hb (x:dQ):Tr eM:=
 let y0:fb:=x.1.2.2
 let y1:eF:=y0.2
 let y2:eV:=y1.2
 let y3:Int:=(aK .u64 x.2 (aN .u64 y2.2.2))
 let y4:Int:=y0.1
 let y5:ed:=(false,(0,0))
 let y6:aF:=(aP y3)
 let y7:dh:=(y6,(aP 1))
 let y8:eK:=(y5,y7)
 let y9:DO:=y1.1
 let y10:k8:=((x.1,(y4,((),(y3,(y5,y8))))),(([]:List bt),y9))
 let y11:aq:=(aT y10).1
 let y13:aF:=(aT y10).2
 let y14:DO:=y2.1
 let y15:eW:=((x.1,(y4,((),(y3,(y13,y8))))),(y11,y14))
 let y131:aq:=(aT y15).1
 let y132:Nat:=y131.length
 .aa ((y132:Nat)=y132)<|
 let y133:aF:=(aT y15).2
 let y134:bk:=(x.1,(y4,((),(y3,(y13,(y133,y7))))))
 let y135:eA:=(y134,(y131,()))
 .aa (Pj y135)<|
 .aa (bn y3)<|
 .aa ((0:Nat) < 3)<|
 .aa ((1:Nat) < 3)<|
 .aa ((2:Nat) < 3)<|
 let y136:aq:=(RW y135).1
 let y137:Nat:=y136.length
 .aa ((y137:Nat)=y137)<|
 .aa (((0:Nat)+3:Nat)≤3)<|
 let y138:fk:=(30,(8,(0,[y6,y6,(aP 1)])))
 let y139:gQ:=(y134,(y136,y138))
 .aa (bK y139)<|
 let y140:aq:=(cK y139).1
 let y141:Nat:=y140.length
 .aa ((y141:Nat)=y141)<|
 .ret (y140,0)
noncomputable def Dn (x:dQ):Tr eM:=
 let y0:fb:=x.1.2.2
 let y1:eF:=y0.2
 let y2:eV:=y1.2
 let y3:Int:=(aK .u64 x.2 (aN .u64 y2.2.2))
 let y4:Int:=y0.1
 let y5:ed:=(false,(0,0))
 let y6:aF:=(aP y3)
 let y7:dh:=(y6,(aP 1))
 let y8:eK:=(y5,y7)
 let y9:DO:=y1.1
 let y10:k8:=((x.1,(y4,((),(y3,(y5,y8))))),(([]:List bt),y9))
 let y11:aq:=(aT y10).1
 let y13:aF:=(aT y10).2
 let y14:DO:=y2.1
 let y15:eW:=((x.1,(y4,((),(y3,(y13,y8))))),(y11,y14))
 let y142:aq:=(aT y15).1
 let y143:Nat:=y142.length
 .aa ((y143:Nat)=y143)<|
 let y144:aF:=(aT y15).2
 let y145:bk:=(x.1,(y4,((),(y3,(y13,(y144,y7))))))
 let y146:eA:=(y145,(y142,()))
 .aa (Ph y146)<|
 .aa (bn y3)<|
 .aa ((0:Nat) < 3)<|
 .aa ((1:Nat) < 3)<|
 .aa ((2:Nat) < 3)<|
 let y147:aq:=(RV y146).1
 let y148:Nat:=y147.length
 .aa ((y148:Nat)=y148)<|
 .aa (((0:Nat)+3:Nat)≤3)<|
 let y149:fk:=(30,(8,(0,[y6,y6,(aP 1)])))
 let y150:gQ:=(y145,(y147,y149))
 .aa (bK y150)<|
 let y151:aq:=(cK y150).1
 let y152:Nat:=y151.length
 .aa ((y152:Nat)=y152)<|
 .ret (y151,0)
noncomputable def Dm (x:dQ):Tr eM:=
 let y0:fb:=x.1.2.2
 let y1:eF:=y0.2
 let y2:eV:=y1.2
 let y3:Int:=(aK .u64 x.2 (aN .u64 y2.2.2))
 let y4:Int:=y0.1
 let y5:ed:=(false,(0,0))
 let y6:aF:=(aP y3)
 let y7:dh:=(y6,(aP 1))
 let y8:eK:=(y5,y7)
 let y9:DO:=y1.1
 let y10:k8:=((x.1,(y4,((),(y3,(y5,y8))))),(([]:List bt),y9))
 let y11:aq:=(aT y10).1
 let y13:aF:=(aT y10).2
 let y14:DO:=y2.1
 let y15:eW:=((x.1,(y4,((),(y3,(y13,y8))))),(y11,y14))
 let y153:aq:=(aT y15).1
 let y154:Nat:=y153.length
 .aa ((y154:Nat)=y154)<|
 let y155:aF:=(aT y15).2
 let y156:bk:=(x.1,(y4,((),(y3,(y13,(y155,y7))))))
 let y157:eA:=(y156,(y153,()))
 .aa (Pg y157)<|
 .aa (bn y3)<|
 .aa ((0:Nat) < 3)<|
 .aa ((1:Nat) < 3)<|
 .aa ((2:Nat) < 3)<|
 let y158:aq:=(RU y157).1
 let y159:Nat:=y158.length
 .aa ((y159:Nat)=y159)<|
 .aa (((0:Nat)+3:Nat)≤3)<|
 let y160:fk:=(30,(8,(0,[y6,y6,(aP 1)])))
 let y161:gQ:=(y156,(y158,y160))
 .aa (bK y161)<|
 let y162:aq:=(cK y161).1
 let y163:Nat:=y162.length
 .aa ((y163:Nat)=y163)<|
 .ret (y162,0)
noncomputable def Dl (x:dQ):Tr eM:=
 let y0:fb:=x.1.2.2
 let y1:eF:=y0.2
 let y2:eV:=y1.2
 let y3:Int:=(aK .u64 x.2 (aN .u64 y2.2.2))
 let y4:Int:=y0.1
 let y5:ed:=(false,(0,0))
 let y6:aF:=(aP y3)
 let y7:dh:=(y6,(aP 1))
 let y8:eK:=(y5,y7)
 let y9:DO:=y1.1
 let y10:k8:=((x.1,(y4,((),(y3,(y5,y8))))),(([]:List bt),y9))
 let y11:aq:=(aT y10).1
 let y13:aF:=(aT y10).2
 let y14:DO:=y2.1
 let y15:eW:=((x.1,(y4,((),(y3,(y13,y8))))),(y11,y14))
 let y164:aq:=(aT y15).1
 let y165:Nat:=y164.length
 .aa ((y165:Nat)=y165)<|
 let y166:aF:=(aT y15).2
 let y167:bk:=(x.1,(y4,((),(y3,(y13,(y166,y7))))))
 let y168:eA:=(y167,(y164,()))
 .aa (Pf y168)<|
 .aa (bn y3)<|
 .aa ((0:Nat) < 3)<|
 .aa ((1:Nat) < 3)<|
 .aa ((2:Nat) < 3)<|
 let y169:aq:=(RT y168).1
 let y170:Nat:=y169.length
 .aa ((y170:Nat)=y170)<|
 .aa (((0:Nat)+3:Nat)≤3)<|
 let y171:fk:=(30,(8,(0,[y6,y6,(aP 1)])))
 let y172:gQ:=(y167,(y169,y171))
 .aa (bK y172)<|
 let y173:aq:=(cK y172).1
 let y174:Nat:=y173.length
 .aa ((y174:Nat)=y174)<|
 .ret (y173,0)
noncomputable def Dk (x:dQ):Tr eM:=
 let y0:fb:=x.1.2.2
 let y1:eF:=y0.2
 let y2:eV:=y1.2
 let y3:Int:=(aK .u64 x.2 (aN .u64 y2.2.2))
 let y4:Int:=y0.1
 let y5:ed:=(false,(0,0))
 let y6:aF:=(aP y3)
 let y7:dh:=(y6,(aP 1))
 let y8:eK:=(y5,y7)
 let y9:DO:=y1.1
 let y10:k8:=((x.1,(y4,((),(y3,(y5,y8))))),(([]:List bt),y9))
 let y11:aq:=(aT y10).1
 let y13:aF:=(aT y10).2
 let y14:DO:=y2.1
 let y15:eW:=((x.1,(y4,((),(y3,(y13,y8))))),(y11,y14))
 let y175:aq:=(aT y15).1
 let y176:Nat:=y175.length
 .aa ((y176:Nat)=y176)<|
 let y177:aF:=(aT y15).2
 let y178:bk:=(x.1,(y4,((),(y3,(y13,(y177,y7))))))
 let y179:eA:=(y178,(y175,()))
 .aa (Pe y179)<|
 .aa (bn y3)<|
 .aa ((0:Nat) < 3)<|
 .aa ((1:Nat) < 3)<|
 .aa ((2:Nat) < 3)<|
 let y180:aq:=(RS y179).1
 let y181:Nat:=y180.length
 .aa ((y181:Nat)=y181)<|
 .aa (((0:Nat)+3:Nat)≤3)<|
 let y182:fk:=(30,(8,(0,[y6,y6,(aP 1)])))
 let y183:gQ:=(y178,(y180,y182))
 .aa (bK y183)<|
 let y184:aq:=(cK y183).1
 let y185:Nat:=y184.length
 .aa ((y185:Nat)=y185)<|
 .ret (y184,0)
noncomputable def Dj (x:dQ):Tr eM:=
 let y0:fb:=x.1.2.2
 let y1:eF:=y0.2
 let y2:eV:=y1.2
 let y3:Int:=(aK .u64 x.2 (aN .u64 y2.2.2))
 let y4:Int:=y0.1
 let y5:ed:=(false,(0,0))
 let y6:aF:=(aP y3)
 let y7:dh:=(y6,(aP 1))
 let y8:eK:=(y5,y7)
 let y9:DO:=y1.1
 let y10:k8:=((x.1,(y4,((),(y3,(y5,y8))))),(([]:List bt),y9))
 let y11:aq:=(aT y10).1
 let y13:aF:=(aT y10).2
 let y14:DO:=y2.1
 let y15:eW:=((x.1,(y4,((),(y3,(y13,y8))))),(y11,y14))
 let y186:aq:=(aT y15).1
 let y187:Nat:=y186.length
 .aa ((y187:Nat)=y187)<|
 let y188:aF:=(aT y15).2
 let y189:bk:=(x.1,(y4,((),(y3,(y13,(y188,y7))))))
 let y190:eA:=(y189,(y186,()))
 .aa (Pd y190)<|
 .aa (bn y3)<|
 .aa ((0:Nat) < 3)<|
 .aa ((1:Nat) < 3)<|
 .aa ((2:Nat) < 3)<|
 let y191:aq:=(RR y190).1
 let y192:Nat:=y191.length
 .aa ((y192:Nat)=y192)<|
 .aa (((0:Nat)+3:Nat)≤3)<|
 let y193:fk:=(30,(8,(0,[y6,y6,(aP 1)])))
 let y194:gQ:=(y189,(y191,y193))
 .aa (bK y194)<|
 let y195:aq:=(cK y194).1
 let y196:Nat:=y195.length
 .aa ((y196:Nat)=y196)<|
 .ret (y195,0)
noncomputable def Di (x:dQ):Tr eM:=
 let y0:fb:=x.1.2.2
 let y1:eF:=y0.2
 let y2:eV:=y1.2
 let y3:Int:=(aK .u64 x.2 (aN .u64 y2.2.2))
 let y4:Int:=y0.1
 let y5:ed:=(false,(0,0))
 let y6:aF:=(aP y3)
 let y7:dh:=(y6,(aP 1))
 let y8:eK:=(y5,y7)
 let y9:DO:=y1.1
 let y10:k8:=((x.1,(y4,((),(y3,(y5,y8))))),(([]:List bt),y9))
 let y11:aq:=(aT y10).1
 let y13:aF:=(aT y10).2
 let y14:DO:=y2.1
 let y15:eW:=((x.1,(y4,((),(y3,(y13,y8))))),(y11,y14))
 let y197:aq:=(aT y15).1
 let y198:Nat:=y197.length
 .aa ((y198:Nat)=y198)<|
 let y199:aF:=(aT y15).2
 let y200:bk:=(x.1,(y4,((),(y3,(y13,(y199,y7))))))
 let y201:eA:=(y200,(y197,()))
 .aa (Pc y201)<|
 .aa (bn y3)<|
 .aa ((0:Nat) < 3)<|
 .aa ((1:Nat) < 3)<|
 .aa ((2:Nat) < 3)<|
 let y202:aq:=(RQ y201).1
 let y203:Nat:=y202.length
 .aa ((y203:Nat)=y203)<|
 .aa (((0:Nat)+3:Nat)≤3)<|
 let y204:fk:=(30,(8,(0,[y6,y6,(aP 1)])))
 let y205:gQ:=(y200,(y202,y204))
 .aa (bK y205)<|
 let y206:aq:=(cK y205).1
 let y207:Nat:=y206.length
 .aa ((y207:Nat)=y207)<|
 .ret (y206,0)
noncomputable def Dh (x:dQ):Tr eM:=
 let y0:fb:=x.1.2.2
 let y1:eF:=y0.2
 let y2:eV:=y1.2
 let y3:Int:=(aK .u64 x.2 (aN .u64 y2.2.2))
 let y4:Int:=y0.1
 let y5:ed:=(false,(0,0))
 let y6:aF:=(aP y3)
 let y7:dh:=(y6,(aP 1))
 let y8:eK:=(y5,y7)
 let y9:DO:=y1.1
 let y10:k8:=((x.1,(y4,((),(y3,(y5,y8))))),(([]:List bt),y9))
 let y11:aq:=(aT y10).1
 let y13:aF:=(aT y10).2
 let y14:DO:=y2.1
 let y15:eW:=((x.1,(y4,((),(y3,(y13,y8))))),(y11,y14))
 let y208:aq:=(aT y15).1
 let y209:Nat:=y208.length
 .aa ((y209:Nat)=y209)<|
 let y210:aF:=(aT y15).2
 let y211:bk:=(x.1,(y4,((),(y3,(y13,(y210,y7))))))
 let y212:eA:=(y211,(y208,()))
 .aa (Pb y212)<|
 .aa (bn y3)<|
 .aa ((0:Nat) < 3)<|
 .aa ((1:Nat) < 3)<|
 .aa ((2:Nat) < 3)<|
 let y213:aq:=(RP y212).1
 let y214:Nat:=y213.length
 .aa ((y214:Nat)=y214)<|
 .aa (((0:Nat)+3:Nat)≤3)<|
 let y215:fk:=(30,(8,(0,[y6,y6,(aP 1)])))
 let y216:gQ:=(y211,(y213,y215))
 .aa (bK y216)<|
 let y217:aq:=(cK y216).1
 let y218:Nat:=y217.length
 .aa ((y218:Nat)=y218)<|
 .ret (y217,0)
noncomputable def Dg (x:dQ):Tr eM:=
 let y0:fb:=x.1.2.2
 let y1:eF:=y0.2
 let y2:eV:=y1.2
 let y3:Int:=(aK .u64 x.2 (aN .u64 y2.2.2))
 let y4:Int:=y0.1
 let y5:ed:=(false,(0,0))
 let y6:aF:=(aP y3)
 let y7:dh:=(y6,(aP 1))
 let y8:eK:=(y5,y7)
 let y9:DO:=y1.1
 let y10:k8:=((x.1,(y4,((),(y3,(y5,y8))))),(([]:List bt),y9))
 let y11:aq:=(aT y10).1
 let y13:aF:=(aT y10).2
 let y14:DO:=y2.1
 let y15:eW:=((x.1,(y4,((),(y3,(y13,y8))))),(y11,y14))
 let y219:aq:=(aT y15).1
 let y220:Nat:=y219.length
 .aa ((y220:Nat)=y220)<|
 let y221:aF:=(aT y15).2
 let y222:bk:=(x.1,(y4,((),(y3,(y13,(y221,y7))))))
 let y223:eA:=(y222,(y219,()))
 .aa (Pa y223)<|
 .aa (bn y3)<|
 .aa ((0:Nat) < 3)<|
 .aa ((1:Nat) < 3)<|
 .aa ((2:Nat) < 3)<|
 let y224:aq:=(RO y223).1
 let y225:Nat:=y224.length
 .aa ((y225:Nat)=y225)<|
 .aa (((0:Nat)+3:Nat)≤3)<|
 let y226:fk:=(30,(8,(0,[y6,y6,(aP 1)])))
 let y227:gQ:=(y222,(y224,y226))
 .aa (bK y227)<|
 let y228:aq:=(cK y227).1
 let y229:Nat:=y228.length
 .aa ((y229:Nat)=y229)<|
 .ret (y228,0)
noncomputable def Df (x:dQ):Tr eM:=
 let y0:fb:=x.1.2.2
 let y1:eF:=y0.2
 let y2:eV:=y1.2
 let y3:Int:=(aK .u64 x.2 (aN .u64 y2.2.2))
 let y4:Int:=y0.1
 let y5:ed:=(false,(0,0))
 let y6:aF:=(aP y3)
 let y7:dh:=(y6,(aP 1))
 let y8:eK:=(y5,y7)
 let y9:DO:=y1.1
 let y10:k8:=((x.1,(y4,((),(y3,(y5,y8))))),(([]:List bt),y9))
 let y11:aq:=(aT y10).1
 let y13:aF:=(aT y10).2
 let y14:DO:=y2.1
 let y15:eW:=((x.1,(y4,((),(y3,(y13,y8))))),(y11,y14))
 let y230:aq:=(aT y15).1
 let y231:Nat:=y230.length
 .aa ((y231:Nat)=y231)<|
 let y232:aF:=(aT y15).2
 let y233:bk:=(x.1,(y4,((),(y3,(y13,(y232,y7))))))
 let y234:eA:=(y233,(y230,()))
 .aa (O9 y234)<|
 .aa (bn y3)<|
 .aa ((0:Nat) < 3)<|
 .aa ((1:Nat) < 3)<|
 .aa ((2:Nat) < 3)<|
 let y235:aq:=(RN y234).1
 let y236:Nat:=y235.length
 .aa ((y236:Nat)=y236)<|
 .aa (((0:Nat)+3:Nat)≤3)<|
 let y237:fk:=(30,(8,(0,[y6,y6,(aP 1)])))
 let y238:gQ:=(y233,(y235,y237))
 .aa (bK y238)<|
 let y239:aq:=(cK y238).1
 let y240:Nat:=y239.length
 .aa ((y240:Nat)=y240)<|
 .ret (y239,0)
noncomputable def De (x:dQ):Tr eM:=
 let y0:fb:=x.1.2.2
 let y1:eF:=y0.2
 let y2:eV:=y1.2
 let y3:Int:=(aK .u64 x.2 (aN .u64 y2.2.2))
 let y4:Int:=y0.1
 let y5:ed:=(false,(0,0))
 let y6:aF:=(aP y3)
 let y7:dh:=(y6,(aP 1))
 let y8:eK:=(y5,y7)
 let y9:DO:=y1.1
 let y10:k8:=((x.1,(y4,((),(y3,(y5,y8))))),(([]:List bt),y9))
 let y11:aq:=(aT y10).1
 let y13:aF:=(aT y10).2
 let y14:DO:=y2.1
 let y15:eW:=((x.1,(y4,((),(y3,(y13,y8))))),(y11,y14))
 let y241:aq:=(aT y15).1
 let y242:Nat:=y241.length
 .aa ((y242:Nat)=y242)<|
 let y243:aF:=(aT y15).2
 let y244:bk:=(x.1,(y4,((),(y3,(y13,(y243,y7))))))
 let y245:eA:=(y244,(y241,()))
 .aa (O8 y245)<|
 .aa (bn y3)<|
 .aa ((0:Nat) < 3)<|
 .aa ((1:Nat) < 3)<|
 .aa ((2:Nat) < 3)<|
 let y246:aq:=(RK y245).1
 let y247:Nat:=y246.length
 .aa ((y247:Nat)=y247)<|
 .aa (((0:Nat)+3:Nat)≤3)<|
 let y248:fk:=(30,(8,(0,[y6,y6,(aP 1)])))
 let y249:gQ:=(y244,(y246,y248))
 .aa (bK y249)<|
 let y250:aq:=(cK y249).1
 let y251:Nat:=y250.length
 .aa ((y251:Nat)=y251)<|
 .ret (y250,0)
noncomputable def Dd (x:dQ):Tr eM:=
 let y0:fb:=x.1.2.2
 let y1:eF:=y0.2
 let y2:eV:=y1.2
 let y3:Int:=(aK .u64 x.2 (aN .u64 y2.2.2))
 let y4:Int:=y0.1
 let y5:ed:=(false,(0,0))
 let y6:aF:=(aP y3)
 let y7:dh:=(y6,(aP 1))
 let y8:eK:=(y5,y7)
 let y9:DO:=y1.1
 let y10:k8:=((x.1,(y4,((),(y3,(y5,y8))))),(([]:List bt),y9))
 let y11:aq:=(aT y10).1
 let y13:aF:=(aT y10).2
 let y14:DO:=y2.1
 let y15:eW:=((x.1,(y4,((),(y3,(y13,y8))))),(y11,y14))
 let y252:aq:=(aT y15).1
 let y253:Nat:=y252.length
 .aa ((y253:Nat)=y253)<|
 let y254:aF:=(aT y15).2
 let y255:bk:=(x.1,(y4,((),(y3,(y13,(y254,y7))))))
 let y256:eA:=(y255,(y252,()))
 .aa (O7 y256)<|
 .aa (bn y3)<|
 .aa ((0:Nat) < 3)<|
 .aa ((1:Nat) < 3)<|
 .aa ((2:Nat) < 3)<|
 let y257:aq:=(RJ y256).1
 let y258:Nat:=y257.length
 .aa ((y258:Nat)=y258)<|
 .aa (((0:Nat)+3:Nat)≤3)<|
 let y259:fk:=(30,(8,(0,[y6,y6,(aP 1)])))
 let y260:gQ:=(y255,(y257,y259))
 .aa (bK y260)<|
 let y261:aq:=(cK y260).1
 let y262:Nat:=y261.length
 .aa ((y262:Nat)=y262)<|
 .ret (y261,0)
noncomputable def Dc (x:dQ):Tr eM:=
 let y0:fb:=x.1.2.2
 let y1:eF:=y0.2
 let y2:eV:=y1.2
 let y3:Int:=(aK .u64 x.2 (aN .u64 y2.2.2))
 let y4:Int:=y0.1
 let y5:ed:=(false,(0,0))
 let y6:aF:=(aP y3)
 let y7:dh:=(y6,(aP 1))
 let y8:eK:=(y5,y7)
 let y9:DO:=y1.1
 let y10:k8:=((x.1,(y4,((),(y3,(y5,y8))))),(([]:List bt),y9))
 let y11:aq:=(aT y10).1
 let y13:aF:=(aT y10).2
 let y14:DO:=y2.1
 let y15:eW:=((x.1,(y4,((),(y3,(y13,y8))))),(y11,y14))
 let y263:aq:=(aT y15).1
 let y264:Nat:=y263.length
 .aa ((y264:Nat)=y264)<|
 let y265:aF:=(aT y15).2
 let y266:bk:=(x.1,(y4,((),(y3,(y13,(y265,y7))))))
 let y267:eA:=(y266,(y263,()))
 .aa (O6 y267)<|
 .aa (bn y3)<|
 .aa ((0:Nat) < 3)<|
 .aa ((1:Nat) < 3)<|
 .aa ((2:Nat) < 3)<|
 let y268:aq:=(RI y267).1
 let y269:Nat:=y268.length
 .aa ((y269:Nat)=y269)<|
 .aa (((0:Nat)+3:Nat)≤3)<|
 let y270:fk:=(30,(8,(0,[y6,y6,(aP 1)])))
 let y271:gQ:=(y266,(y268,y270))
 .aa (bK y271)<|
 let y272:aq:=(cK y271).1
 let y273:Nat:=y272.length
 .aa ((y273:Nat)=y273)<|
 .ret (y272,0)
noncomputable def Db (x:dQ):Tr eM:=
 let y0:fb:=x.1.2.2
 let y1:eF:=y0.2
 let y2:eV:=y1.2
 let y3:Int:=(aK .u64 x.2 (aN .u64 y2.2.2))
 let y4:Int:=y0.1
 let y5:ed:=(false,(0,0))
 let y6:aF:=(aP y3)
 let y7:dh:=(y6,(aP 1))
 let y8:eK:=(y5,y7)
 let y9:DO:=y1.1
 let y10:k8:=((x.1,(y4,((),(y3,(y5,y8))))),(([]:List bt),y9))
 let y11:aq:=(aT y10).1
 let y13:aF:=(aT y10).2
 let y14:DO:=y2.1
 let y15:eW:=((x.1,(y4,((),(y3,(y13,y8))))),(y11,y14))
 let y274:aq:=(aT y15).1
 let y275:Nat:=y274.length
 .aa ((y275:Nat)=y275)<|
 let y276:aF:=(aT y15).2
 let y277:bk:=(x.1,(y4,((),(y3,(y13,(y276,y7))))))
 let y278:eA:=(y277,(y274,()))
 .aa (O5 y278)<|
 .aa (bn y3)<|
 .aa ((0:Nat) < 3)<|
 .aa ((1:Nat) < 3)<|
 .aa ((2:Nat) < 3)<|
 let y279:aq:=(RH y278).1
 let y280:Nat:=y279.length
 .aa ((y280:Nat)=y280)<|
 .aa (((0:Nat)+3:Nat)≤3)<|
 let y281:fk:=(30,(8,(0,[y6,y6,(aP 1)])))
 let y282:gQ:=(y277,(y279,y281))
 .aa (bK y282)<|
 let y283:aq:=(cK y282).1
 let y284:Nat:=y283.length
 .aa ((y284:Nat)=y284)<|
 .ret (y283,0)
noncomputable def Da (x:dQ):Tr eM:=
 let y0:fb:=x.1.2.2
 let y1:eF:=y0.2
 let y2:eV:=y1.2
 let y3:Int:=(aK .u64 x.2 (aN .u64 y2.2.2))
 let y4:Int:=y0.1
 let y5:ed:=(false,(0,0))
 let y6:aF:=(aP y3)
 let y7:dh:=(y6,(aP 1))
 let y8:eK:=(y5,y7)
 let y9:DO:=y1.1
 let y10:k8:=((x.1,(y4,((),(y3,(y5,y8))))),(([]:List bt),y9))
 let y11:aq:=(aT y10).1
 let y13:aF:=(aT y10).2
 let y14:DO:=y2.1
 let y15:eW:=((x.1,(y4,((),(y3,(y13,y8))))),(y11,y14))
 let y285:aq:=(aT y15).1
 let y286:Nat:=y285.length
 .aa ((y286:Nat)=y286)<|
 let y287:aF:=(aT y15).2
 let y288:bk:=(x.1,(y4,((),(y3,(y13,(y287,y7))))))
 let y289:eA:=(y288,(y285,()))
 .aa (O4 y289)<|
 .aa (bn y3)<|
 .aa ((0:Nat) < 3)<|
 .aa ((1:Nat) < 3)<|
 .aa ((2:Nat) < 3)<|
 let y290:aq:=(RG y289).1
 let y291:Nat:=y290.length
 .aa ((y291:Nat)=y291)<|
 .aa (((0:Nat)+3:Nat)≤3)<|
 let y292:fk:=(30,(8,(0,[y6,y6,(aP 1)])))
 let y293:gQ:=(y288,(y290,y292))
 .aa (bK y293)<|
 let y294:aq:=(cK y293).1
 let y295:Nat:=y294.length
 .aa ((y295:Nat)=y295)<|
 .ret (y294,0)
noncomputable def C9 (x:dQ):Tr eM:=
 let y0:fb:=x.1.2.2
 let y1:eF:=y0.2
 let y2:eV:=y1.2
 let y3:Int:=(aK .u64 x.2 (aN .u64 y2.2.2))
 let y4:Int:=y0.1
 let y5:ed:=(false,(0,0))
 let y6:aF:=(aP y3)
 let y7:dh:=(y6,(aP 1))
 let y8:eK:=(y5,y7)
 let y9:DO:=y1.1
 let y10:k8:=((x.1,(y4,((),(y3,(y5,y8))))),(([]:List bt),y9))
 let y11:aq:=(aT y10).1
 let y13:aF:=(aT y10).2
 let y14:DO:=y2.1
 let y15:eW:=((x.1,(y4,((),(y3,(y13,y8))))),(y11,y14))
 .aa (bn y3)<|
 let y296:aq:=(aT y15).1
 let y297:Nat:=y296.length
 .aa ((y297:Nat)=y297)<|
 let y298:aF:=(aT y15).2
 let y299:bk:=(x.1,(y4,((),(y3,(y13,(y298,y7))))))
 let y300:fM:=(y299,(y296,y6))
 .aa (Lm y300)<|
 let y301:aq:=(N6 y300).1
 let y302:Nat:=y301.length
 .aa ((y302:Nat)=y302)<|
 let y303:eA:=(y299,(y301,()))
 .aa (GV y303)<|
 .aa (bn y3)<|
 .aa ((0:Nat) < 3)<|
 .aa ((1:Nat) < 3)<|
 .aa ((2:Nat) < 3)<|
 let y304:aq:=(DE y303).1
 let y305:Nat:=y304.length
 .aa ((y305:Nat)=y305)<|
 .aa (((0:Nat)+3:Nat)≤3)<|
 let y306:aF:=(DE y303).2
 let y307:gQ:=((x.1,(y4,((),(y3,(y13,(y298,(y306,(aP 1)))))))),(y304,(30,(8,(0,[y306,y6,(aP 1)])))))
 .aa (bK y307)<|
 let y308:aq:=(cK y307).1
 let y309:Nat:=y308.length
 .aa ((y309:Nat)=y309)<|
 .ret (y308,0)
noncomputable def C8 (x:dQ):Tr eM:=
 let y0:fb:=x.1.2.2
 let y1:eF:=y0.2
 let y2:eV:=y1.2
 let y3:Int:=(aK .u64 x.2 (aN .u64 y2.2.2))
 let y4:Int:=y0.1
 let y5:ed:=(false,(0,0))
 let y6:aF:=(aP y3)
 let y7:dh:=(y6,(aP 1))
 let y8:eK:=(y5,y7)
 let y9:DO:=y1.1
 let y10:k8:=((x.1,(y4,((),(y3,(y5,y8))))),(([]:List bt),y9))
 let y11:aq:=(aT y10).1
 let y13:aF:=(aT y10).2
 let y14:DO:=y2.1
 let y15:eW:=((x.1,(y4,((),(y3,(y13,y8))))),(y11,y14))
 let y310:aq:=(aT y15).1
 let y311:Nat:=y310.length
 .aa ((y311:Nat)=y311)<|
 let y312:aF:=(aT y15).2
 let y313:bk:=(x.1,(y4,((),(y3,(y13,(y312,y7))))))
 let y314:eA:=(y313,(y310,()))
 .aa (Lk y314)<|
 .aa (bn y3)<|
 .aa ((0:Nat) < 3)<|
 .aa ((1:Nat) < 3)<|
 .aa ((2:Nat) < 3)<|
 let y315:aq:=(JP y314).1
 let y316:Nat:=y315.length
 .aa ((y316:Nat)=y316)<|
 .aa (((0:Nat)+3:Nat)≤3)<|
 let y317:aF:=(JP y314).2
 let y318:gQ:=((x.1,(y4,((),(y3,(y13,(y312,(y317,(aP 1)))))))),(y315,(30,(8,(0,[y317,y6,(aP 1)])))))
 .aa (bK y318)<|
 let y319:aq:=(cK y318).1
 let y320:Nat:=y319.length
 .aa ((y320:Nat)=y320)<|
 .ret (y319,0)
noncomputable def C7 (x:dQ):Tr eM:=
 let y0:fb:=x.1.2.2
 let y1:eF:=y0.2
 let y2:eV:=y1.2
 let y3:Int:=(aK .u64 x.2 (aN .u64 y2.2.2))
 let y4:Int:=y0.1
 let y5:ed:=(false,(0,0))
 let y6:aF:=(aP y3)
 let y7:dh:=(y6,(aP 1))
 let y8:eK:=(y5,y7)
 let y9:DO:=y1.1
 let y10:k8:=((x.1,(y4,((),(y3,(y5,y8))))),(([]:List bt),y9))
 let y11:aq:=(aT y10).1
 let y13:aF:=(aT y10).2
 let y14:DO:=y2.1
 let y15:eW:=((x.1,(y4,((),(y3,(y13,y8))))),(y11,y14))
 .ite (ak y14.1 3) (
 let y321:=(aT y15).1
 let y322:Nat:=y321.length
 .aa ((y322:Nat)=y322)<|
 let y323:=(aT y15).2
 let y324:bk:=(x.1,(y4,((),(y3,(y13,(y323,y7))))))
 let y325:eA:=(y324,(y321,()))
 .aa (GV y325)<|
 .aa (bn y3)<|
 .aa ((0:Nat) < 3)<|
 .aa ((1:Nat) < 3)<|
 .aa ((2:Nat) < 3)<|
 let y326:=(DE y325).1
 let y327:Nat:=y326.length
 .aa ((y327:Nat)=y327)<|
 .aa (((0:Nat)+3:Nat)≤3)<|
 let y328:=(DE y325).2
 let y329:gQ:=((x.1,(y4,((),(y3,(y13,(y323,(y328,(aP 1)))))))),(y326,(30,(8,(0,[y328,y6,(aP 1)])))))
 .aa (bK y329)<|
 let y330:=(cK y329).1
 let y331:Nat:=y330.length
 .aa ((y331:Nat)=y331)<|
 .ret (y330,0)) (
 let y332:=(aT y15).1
 let y333:Nat:=y332.length
 .aa ((y333:Nat)=y333)<|
 let y334:=(aT y15).2
 let y335:bk:=(x.1,(y4,((),(y3,(y13,(y334,y7))))))
 let y336:nX:=(y335,(y332,(y9,(y13,y4))))
 .aa (jh y336)<|
 .aa (bn y3)<|
 .aa ((0:Nat) < 3)<|
 .aa ((1:Nat) < 3)<|
 .aa ((2:Nat) < 3)<|
 let y337:=(fy y336).1
 let y338:Nat:=y337.length
 .aa ((y338:Nat)=y338)<|
 .aa (((0:Nat)+3:Nat)≤3)<|
 let y339:=(fy y336).2
 let y340:gQ:=((x.1,(y4,((),(y3,(y13,(y334,(y339,(aP 1)))))))),(y337,(30,(8,(0,[y339,y6,(aP 1)])))))
 .aa (bK y340)<|
 let y341:=(cK y340).1
 let y342:Nat:=y341.length
 .aa ((y342:Nat)=y342)<|
 .ret (y341,0))
noncomputable def C6 (x:dQ):Tr eM:=
 let y0:fb:=x.1.2.2
 let y1:eF:=y0.2
 let y2:eV:=y1.2
 let y3:Int:=(aK .u64 x.2 (aN .u64 y2.2.2))
 let y4:Int:=y0.1
 let y5:ed:=(false,(0,0))
 let y6:aF:=(aP y3)
 let y7:dh:=(y6,(aP 1))
 let y8:eK:=(y5,y7)
 let y9:DO:=y1.1
 let y10:k8:=((x.1,(y4,((),(y3,(y5,y8))))),(([]:List bt),y9))
 let y11:aq:=(aT y10).1
 let y13:aF:=(aT y10).2
 let y14:DO:=y2.1
 let y15:eW:=((x.1,(y4,((),(y3,(y13,y8))))),(y11,y14))
 let y343:aq:=(aT y15).1
 let y344:Nat:=y343.length
 .aa ((y344:Nat)=y344)<|
 let y345:aF:=(aT y15).2
 let y346:bk:=(x.1,(y4,((),(y3,(y13,(y345,y7))))))
 let y347:eA:=(y346,(y343,()))
 .aa (GU y347)<|
 let y348:aq:=(DD y347).1
 let y349:Nat:=y348.length
 .aa ((y349:Nat)=y349)<|
 let y350:eA:=(y346,(y348,()))
 .aa (GV y350)<|
 .aa (bn y3)<|
 .aa ((0:Nat) < 3)<|
 .aa ((1:Nat) < 3)<|
 .aa ((2:Nat) < 3)<|
 let y351:aq:=(DE y350).1
 let y352:Nat:=y351.length
 .aa ((y352:Nat)=y352)<|
 .aa (((0:Nat)+3:Nat)≤3)<|
 let y353:aF:=(DE y350).2
 let y354:aF:=(DD y347).2
 let y355:gQ:=((x.1,(y4,((),(y3,(y13,(y345,(y353,y354))))))),(y351,(30,(8,(0,[y353,y6,y354])))))
 .aa (bK y355)<|
 let y356:aq:=(cK y355).1
 let y357:Nat:=y356.length
 .aa ((y357:Nat)=y357)<|
 .ret (y356,0)
noncomputable def C5 (x:dQ):Tr eM:=
 let y0:fb:=x.1.2.2
 let y1:eF:=y0.2
 let y2:eV:=y1.2
 let y3:Int:=(aK .u64 x.2 (aN .u64 y2.2.2))
 let y4:Int:=y0.1
 let y5:ed:=(false,(0,0))
 let y6:aF:=(aP y3)
 let y7:dh:=(y6,(aP 1))
 let y8:eK:=(y5,y7)
 let y9:DO:=y1.1
 let y10:k8:=((x.1,(y4,((),(y3,(y5,y8))))),(([]:List bt),y9))
 let y11:aq:=(aT y10).1
 let y13:aF:=(aT y10).2
 let y14:DO:=y2.1
 let y15:eW:=((x.1,(y4,((),(y3,(y13,y8))))),(y11,y14))
 let y358:aq:=(aT y15).1
 let y359:Nat:=y358.length
 .aa ((y359:Nat)=y359)<|
 let y360:aF:=(aT y15).2
 let y361:bk:=(x.1,(y4,((),(y3,(y13,(y360,y7))))))
 let y362:eA:=(y361,(y358,()))
 .aa (O3 y362)<|
 .aa (bn y3)<|
 .aa ((0:Nat) < 3)<|
 .aa ((1:Nat) < 3)<|
 .aa ((2:Nat) < 3)<|
 let y363:aq:=(RF y362).1
 let y364:Nat:=y363.length
 .aa ((y364:Nat)=y364)<|
 .aa (((0:Nat)+3:Nat)≤3)<|
 let y365:fk:=(30,(8,(0,[y6,y6,(aP 1)])))
 let y366:gQ:=(y361,(y363,y365))
 .aa (bK y366)<|
 let y367:aq:=(cK y366).1
 let y368:Nat:=y367.length
 .aa ((y368:Nat)=y368)<|
 .ret (y367,0)
noncomputable def C4 (x:dQ):Tr eM:=
 let y0:fb:=x.1.2.2
 let y1:eF:=y0.2
 let y2:eV:=y1.2
 let y3:Int:=(aK .u64 x.2 (aN .u64 y2.2.2))
 let y4:Int:=y0.1
 let y5:ed:=(false,(0,0))
 let y6:aF:=(aP y3)
 let y7:dh:=(y6,(aP 1))
 let y8:eK:=(y5,y7)
 let y9:DO:=y1.1
 let y10:k8:=((x.1,(y4,((),(y3,(y5,y8))))),(([]:List bt),y9))
 let y11:aq:=(aT y10).1
 let y13:aF:=(aT y10).2
 let y14:DO:=y2.1
 let y15:eW:=((x.1,(y4,((),(y3,(y13,y8))))),(y11,y14))
 let y369:aq:=(aT y15).1
 let y370:Nat:=y369.length
 .aa ((y370:Nat)=y370)<|
 let y371:aF:=(aT y15).2
 let y372:bk:=(x.1,(y4,((),(y3,(y13,(y371,y7))))))
 let y373:eA:=(y372,(y369,()))
 .aa (O2 y373)<|
 .aa (bn y3)<|
 .aa ((0:Nat) < 3)<|
 .aa ((1:Nat) < 3)<|
 .aa ((2:Nat) < 3)<|
 let y374:aq:=(RE y373).1
 let y375:Nat:=y374.length
 .aa ((y375:Nat)=y375)<|
 .aa (((0:Nat)+3:Nat)≤3)<|
 let y376:fk:=(30,(8,(0,[y6,y6,(aP 1)])))
 let y377:gQ:=(y372,(y374,y376))
 .aa (bK y377)<|
 let y378:aq:=(cK y377).1
 let y379:Nat:=y378.length
 .aa ((y379:Nat)=y379)<|
 .ret (y378,0)
noncomputable def C3 (x:dQ):Tr eM:=
 let y0:fb:=x.1.2.2
 let y1:eF:=y0.2
 let y2:eV:=y1.2
 let y3:Int:=(aK .u64 x.2 (aN .u64 y2.2.2))
 let y4:Int:=y0.1
 let y5:ed:=(false,(0,0))
 let y6:aF:=(aP y3)
 let y7:dh:=(y6,(aP 1))
 let y8:eK:=(y5,y7)
 let y9:DO:=y1.1
 let y10:k8:=((x.1,(y4,((),(y3,(y5,y8))))),(([]:List bt),y9))
 let y11:aq:=(aT y10).1
 let y13:aF:=(aT y10).2
 let y14:DO:=y2.1
 let y15:eW:=((x.1,(y4,((),(y3,(y13,y8))))),(y11,y14))
 let y380:aq:=(aT y15).1
 let y381:Nat:=y380.length
 .aa ((y381:Nat)=y381)<|
 let y382:aF:=(aT y15).2
 let y383:bk:=(x.1,(y4,((),(y3,(y13,(y382,y7))))))
 let y384:eA:=(y383,(y380,()))
 .aa (O1 y384)<|
 .aa (bn y3)<|
 .aa ((0:Nat) < 3)<|
 .aa ((1:Nat) < 3)<|
 .aa ((2:Nat) < 3)<|
 let y385:aq:=(RD y384).1
 let y386:Nat:=y385.length
 .aa ((y386:Nat)=y386)<|
 .aa (((0:Nat)+3:Nat)≤3)<|
 let y387:fk:=(30,(8,(0,[y6,y6,(aP 1)])))
 let y388:gQ:=(y383,(y385,y387))
 .aa (bK y388)<|
 let y389:aq:=(cK y388).1
 let y390:Nat:=y389.length
 .aa ((y390:Nat)=y390)<|
 .ret (y389,0)
noncomputable def C2 (x:dQ):Tr eM:=
 let y0:fb:=x.1.2.2
 let y1:eF:=y0.2
 let y2:eV:=y1.2
 let y3:Int:=(aK .u64 x.2 (aN .u64 y2.2.2))
 let y4:Int:=y0.1
 let y5:ed:=(false,(0,0))
 let y6:aF:=(aP y3)
 let y7:dh:=(y6,(aP 1))
 let y8:eK:=(y5,y7)
 let y9:DO:=y1.1
 let y10:k8:=((x.1,(y4,((),(y3,(y5,y8))))),(([]:List bt),y9))
 let y11:aq:=(aT y10).1
 let y13:aF:=(aT y10).2
 let y14:DO:=y2.1
 let y15:eW:=((x.1,(y4,((),(y3,(y13,y8))))),(y11,y14))
 let y391:aq:=(aT y15).1
 let y392:Nat:=y391.length
 .aa ((y392:Nat)=y392)<|
 let y393:aF:=(aT y15).2
 let y394:bk:=(x.1,(y4,((),(y3,(y13,(y393,y7))))))
 let y395:eA:=(y394,(y391,()))
 .aa (O0 y395)<|
 .aa (bn y3)<|
 .aa ((0:Nat) < 3)<|
 .aa ((1:Nat) < 3)<|
 .aa ((2:Nat) < 3)<|
 let y396:aq:=(RC y395).1
 let y397:Nat:=y396.length
 .aa ((y397:Nat)=y397)<|
 .aa (((0:Nat)+3:Nat)≤3)<|
 let y398:fk:=(30,(8,(0,[y6,y6,(aP 1)])))
 let y399:gQ:=(y394,(y396,y398))
 .aa (bK y399)<|
 let y400:aq:=(cK y399).1
 let y401:Nat:=y400.length
 .aa ((y401:Nat)=y401)<|
 .ret (y400,0)
noncomputable def C1 (x:dQ):Tr eM:=
 let y0:fb:=x.1.2.2
 let y1:eF:=y0.2
 let y2:eV:=y1.2
 let y3:Int:=(aK .u64 x.2 (aN .u64 y2.2.2))
 let y4:Int:=y0.1
 let y5:ed:=(false,(0,0))
 let y6:aF:=(aP y3)
 let y7:dh:=(y6,(aP 1))
 let y8:eK:=(y5,y7)
 let y9:DO:=y1.1
 let y10:k8:=((x.1,(y4,((),(y3,(y5,y8))))),(([]:List bt),y9))
 let y11:aq:=(aT y10).1
 let y13:aF:=(aT y10).2
 let y14:DO:=y2.1
 let y15:eW:=((x.1,(y4,((),(y3,(y13,y8))))),(y11,y14))
 let y402:aq:=(aT y15).1
 let y403:Nat:=y402.length
 .aa ((y403:Nat)=y403)<|
 let y404:aF:=(aT y15).2
 let y405:bk:=(x.1,(y4,((),(y3,(y13,(y404,y7))))))
 let y406:eA:=(y405,(y402,()))
 .aa (yb y406)<|
 .aa (bn y3)<|
 .aa ((0:Nat) < 3)<|
 .aa ((1:Nat) < 3)<|
 .aa ((2:Nat) < 3)<|
 let y407:aq:=(Gj y406).1
 let y408:Nat:=y407.length
 .aa ((y408:Nat)=y408)<|
 .aa (((0:Nat)+3:Nat)≤3)<|
 let y409:fk:=(30,(8,(0,[y6,y6,(aP 1)])))
 let y410:gQ:=(y405,(y407,y409))
 .aa (bK y410)<|
 let y411:aq:=(cK y410).1
 let y412:Nat:=y411.length
 .aa ((y412:Nat)=y412)<|
 let y413:oS:=(y411,0)
 .ret y413
noncomputable def C0 (x:dQ):Tr eM:=
 let y0:fb:=x.1.2.2
 let y1:eF:=y0.2
 let y2:eV:=y1.2
 let y3:Int:=(aK .u64 x.2 (aN .u64 y2.2.2))
 let y4:Int:=y0.1
 let y5:ed:=(false,(0,0))
 let y6:aF:=(aP y3)
 let y7:dh:=(y6,(aP 1))
 let y8:eK:=(y5,y7)
 let y9:DO:=y1.1
 let y10:k8:=((x.1,(y4,((),(y3,(y5,y8))))),(([]:List bt),y9))
 let y11:aq:=(aT y10).1
 let y13:aF:=(aT y10).2
 let y14:DO:=y2.1
 let y15:eW:=((x.1,(y4,((),(y3,(y13,y8))))),(y11,y14))
 let y414:aq:=(aT y15).1
 let y415:Nat:=y414.length
 .aa ((y415:Nat)=y415)<|
 let y416:aF:=(aT y15).2
 let y417:bk:=(x.1,(y4,((),(y3,(y13,(y416,y7))))))
 let y418:eA:=(y417,(y414,()))
 .aa (yb y418)<|
 .aa (bn y3)<|
 .aa ((0:Nat) < 3)<|
 .aa ((1:Nat) < 3)<|
 .aa ((2:Nat) < 3)<|
 let y419:aq:=(Gj y418).1
 let y420:Nat:=y419.length
 .aa ((y420:Nat)=y420)<|
 .aa (((0:Nat)+3:Nat)≤3)<|
 let y421:fk:=(30,(8,(0,[y6,y6,(aP 1)])))
 let y422:gQ:=(y417,(y419,y421))
 .aa (bK y422)<|
 let y423:aq:=(cK y422).1
 let y424:Nat:=y423.length
 .aa ((y424:Nat)=y424)<|
 let y425:oS:=(y423,0)
 .ret y425
noncomputable def CZ (x:dQ):Tr eM:=
 let y0:fb:=x.1.2.2
 let y1:eF:=y0.2
 let y2:eV:=y1.2
 let y3:Int:=(aK .u64 x.2 (aN .u64 y2.2.2))
 let y4:Int:=y0.1
 let y5:ed:=(false,(0,0))
 let y6:aF:=(aP y3)
 let y7:dh:=(y6,(aP 1))
 let y8:eK:=(y5,y7)
 let y9:DO:=y1.1
 let y10:k8:=((x.1,(y4,((),(y3,(y5,y8))))),(([]:List bt),y9))
 let y11:aq:=(aT y10).1
 let y13:aF:=(aT y10).2
 let y14:DO:=y2.1
 let y15:eW:=((x.1,(y4,((),(y3,(y13,y8))))),(y11,y14))
 let y426:aq:=(aT y15).1
 let y427:Nat:=y426.length
 .aa ((y427:Nat)=y427)<|
 let y428:aF:=(aT y15).2
 let y429:bk:=(x.1,(y4,((),(y3,(y13,(y428,y7))))))
 let y430:eA:=(y429,(y426,()))
 .aa (yb y430)<|
 .aa (bn y3)<|
 .aa ((0:Nat) < 3)<|
 .aa ((1:Nat) < 3)<|
 .aa ((2:Nat) < 3)<|
 let y431:aq:=(Gj y430).1
 let y432:Nat:=y431.length
 .aa ((y432:Nat)=y432)<|
 .aa (((0:Nat)+3:Nat)≤3)<|
 let y433:fk:=(30,(8,(0,[y6,y6,(aP 1)])))
 let y434:gQ:=(y429,(y431,y433))
 .aa (bK y434)<|
 let y435:aq:=(cK y434).1
 let y436:Nat:=y435.length
 .aa ((y436:Nat)=y436)<|
 let y437:oS:=(y435,0)
 .ret y437
noncomputable def CY (x:dQ):Tr eM:=
 let y0:fb:=x.1.2.2
 let y1:eF:=y0.2
 let y2:eV:=y1.2
 let y3:Int:=(aK .u64 x.2 (aN .u64 y2.2.2))
 let y4:Int:=y0.1
 let y5:ed:=(false,(0,0))
 let y6:aF:=(aP y3)
 let y7:dh:=(y6,(aP 1))
 let y8:eK:=(y5,y7)
 let y9:DO:=y1.1
 let y10:k8:=((x.1,(y4,((),(y3,(y5,y8))))),(([]:List bt),y9))
 let y11:aq:=(aT y10).1
 let y13:aF:=(aT y10).2
 let y14:DO:=y2.1
 let y15:eW:=((x.1,(y4,((),(y3,(y13,y8))))),(y11,y14))
 let y438:aq:=(aT y15).1
 let y439:Nat:=y438.length
 .aa ((y439:Nat)=y439)<|
 let y440:aF:=(aT y15).2
 let y441:bk:=(x.1,(y4,((),(y3,(y13,(y440,y7))))))
 let y442:eA:=(y441,(y438,()))
 .aa (yb y442)<|
 .aa (bn y3)<|
 .aa ((0:Nat) < 3)<|
 .aa ((1:Nat) < 3)<|
 .aa ((2:Nat) < 3)<|
 let y443:aq:=(Gj y442).1
 let y444:Nat:=y443.length
 .aa ((y444:Nat)=y444)<|
 .aa (((0:Nat)+3:Nat)≤3)<|
 let y445:fk:=(30,(8,(0,[y6,y6,(aP 1)])))
 let y446:gQ:=(y441,(y443,y445))
 .aa (bK y446)<|
 let y447:aq:=(cK y446).1
 let y448:Nat:=y447.length
 .aa ((y448:Nat)=y448)<|
 let y449:oS:=(y447,0)
 .ret y449
noncomputable def CX (x:dQ):Tr eM:=
 let y0:fb:=x.1.2.2
 let y1:eF:=y0.2
 let y2:eV:=y1.2
 let y3:Int:=(aK .u64 x.2 (aN .u64 y2.2.2))
 let y4:Int:=y0.1
 let y5:ed:=(false,(0,0))
 let y6:aF:=(aP y3)
 let y7:dh:=(y6,(aP 1))
 let y8:eK:=(y5,y7)
 let y9:DO:=y1.1
 let y10:k8:=((x.1,(y4,((),(y3,(y5,y8))))),(([]:List bt),y9))
 let y11:aq:=(aT y10).1
 let y13:aF:=(aT y10).2
 let y14:DO:=y2.1
 let y15:eW:=((x.1,(y4,((),(y3,(y13,y8))))),(y11,y14))
 let y450:aq:=(aT y15).1
 let y451:Nat:=y450.length
 .aa ((y451:Nat)=y451)<|
 let y452:aF:=(aT y15).2
 let y453:bk:=(x.1,(y4,((),(y3,(y13,(y452,y7))))))
 let y454:eA:=(y453,(y450,()))
 .aa (yb y454)<|
 .aa (bn y3)<|
 .aa ((0:Nat) < 3)<|
 .aa ((1:Nat) < 3)<|
 .aa ((2:Nat) < 3)<|
 let y455:aq:=(Gj y454).1
 let y456:Nat:=y455.length
 .aa ((y456:Nat)=y456)<|
 .aa (((0:Nat)+3:Nat)≤3)<|
 let y457:fk:=(30,(8,(0,[y6,y6,(aP 1)])))
 let y458:gQ:=(y453,(y455,y457))
 .aa (bK y458)<|
 let y459:aq:=(cK y458).1
 let y460:Nat:=y459.length
 .aa ((y460:Nat)=y460)<|
 let y461:oS:=(y459,0)
 .ret y461
noncomputable def Be (x:dQ):Tr eM:=
 let y0:fb:=x.1.2.2
 let y1:eF:=y0.2
 let y2:eV:=y1.2
 let y3:Int:=(aK .u64 x.2 (aN .u64 y2.2.2))
 let y4:Int:=y0.1
 let y5:ed:=(false,(0,0))
 let y6:aF:=(aP y3)
 let y7:dh:=(y6,(aP 1))
 let y8:eK:=(y5,y7)
 let y9:DO:=y1.1
 let y10:k8:=((x.1,(y4,((),(y3,(y5,y8))))),(([]:List bt),y9))
 let y11:aq:=(aT y10).1
 let y13:aF:=(aT y10).2
 let y14:DO:=y2.1
 let y15:eW:=((x.1,(y4,((),(y3,(y13,y8))))),(y11,y14))
 .aa (bn y3)<|
 .aa ((0:Nat) < 3)<|
 .aa ((1:Nat) < 3)<|
 .aa ((2:Nat) < 3)<|
 let y462:=(aT y15).1
 let y463:Nat:=y462.length
 .aa ((y463:Nat)=y463)<|
 .aa (((0:Nat)+3:Nat)≤3)<|
 let y464:=(aT y15).2
 let y465:bk:=(x.1,(y4,((),(y3,(y13,(y464,y7))))))
 let y466:fk:=(30,(8,(0,[y6,y6,(aP 1)])))
 let y467:gQ:=(y465,(y462,y466))
 .aa (bK y467)<|
 let y468:=(cK y467).1
 let y469:Nat:=y468.length
 .aa ((y469:Nat)=y469)<|
 .ret (y468,0)
noncomputable def xl (x:dQ):Tr eM:=.ite (ak x.1.1 1) (Hj x) (.ite (ak x.1.1 2) (Hi x) (.ite (ak x.1.1 3) (Hh x) (.ite (ak x.1.1 5) (Hf x) (.ite (ak x.1.1 8) (Hc x) (.ite (ak x.1.1 6) (He x) (.ite (ak x.1.1 10) (Dq x) (.ite (ak x.1.1 7) (Hd x) (.ite (ak x.1.1 11) (Dp x) (.ite (ak x.1.1 4) (Hg x) (.ite (ak x.1.1 9) (Hb x) (.ite (ak x.1.1 12) (Dn x) (.ite (ak x.1.1 13) (Dm x) (.ite (ak x.1.1 14) (Dl x) (.ite (ak x.1.1 15) (Dk x) (.ite (ak x.1.1 16) (Dj x) (.ite (ak x.1.1 17) (Di x) (.ite (ak x.1.1 18) (Dh x) (.ite (ak x.1.1 19) (Dg x) (.ite (ak x.1.1 20) (Df x) (.ite (ak x.1.1 21) (De x) (.ite (ak x.1.1 22) (Dd x) (.ite (ak x.1.1 23) (Dc x) (.ite (ak x.1.1 24) (Db x) (.ite (ak x.1.1 25) (Da x) (.ite (ak x.1.1 26) (C9 x) (.ite (ak x.1.1 27) (C8 x) (.ite (ak x.1.1 28) (C7 x) (.ite (ak x.1.1 29) (C6 x) (.ite (ak x.1.1 30) (C5 x) (.ite (ak x.1.1 31) (C4 x) (.ite (ak x.1.1 32) (C3 x) (.ite (ak x.1.1 33) (C2 x) (.ite (ak x.1.1 35) (C1 x) (.ite (ak x.1.1 36) (C0 x) (.ite (ak x.1.1 37) (CZ x) (.ite (ak x.1.1 38) (CY x) (.ite (ak x.1.1 39) (CX x) (Be x))))))))))))))))))))))))))))))))))))))
noncomputable def vC (x:dQ):Tr oS:=
 .aa (wH x.1)<|
 .ite (!(pL x.1)) (
 .ret (([]:List bt),2)) (
 .aa (bn 1)<|
 let y0:=x.1.2.2
 let y1:=y0.2
 let y2:=y1.2
 let y3:Int:=(aK .u64 x.2 (aN .u64 y2.2.2))
 .aa (bn y3)<|
 let y4:=y0.1
 let y5:ed:=(false,(0,0))
 let y6:=(aP y3)
 let y7:dh:=(y6,(aP 1))
 let y8:eK:=(y5,y7)
 let y9:=y1.1
 let y10:k8:=((x.1,(y4,((),(y3,(y5,y8))))),(([]:List bt),y9))
 .aa (G1 y10)<|
 let y11:=(aT y10).1
 let y12:Nat:=y11.length
 .aa ((y12:Nat)=y12)<|
 let y13:=(aT y10).2
 let y14:=y2.1
 let y15:eW:=((x.1,(y4,((),(y3,(y13,y8))))),(y11,y14))
 .aa (G1 y15)<|
 .aa (LH ())<|
 let y16:=x.1.1
 xl x)
noncomputable def Hv (x:dQ):oS:=(vC x).val
def EA (x:dQ):Prop:=(vC x).ok
noncomputable def Cb:Spec:={eX:=(.st bA (.bu (.int .u64))),cB:=(.st (.slice aZ) (.bu (.int .i64))),n:=2,pre:=EA,f:=Hv}
noncomputable def G7:FuncId→Option Spec
 | 11=>some dR
 | 14=>some zB
 | 16=>some zy
 | _=>none
theorem L6:∀ f sp,G7 f=some sp→ah aA f sp:=by
 intro f sp h
 unfold G7 at h
 split at h
 ·cases h;exact jQ
 ·cases h;exact Xy
 ·cases h;exact Xx
 ·cases h
noncomputable def zQ:FuncId→Option aH
 | 15=>some rl
 | 17=>some fQ
 | 32=>some rk
 | 33=>some rj
 | 34=>some ri
 | 35=>some rh
 | 36=>some rf
 | 37=>some re
 | 38=>some q9
 | 39=>some qZ
 | 40=>some qY
 | 41=>some qX
 | 42=>some qW
 | 43=>some qV
 | 44=>some qU
 | 45=>some qT
 | 46=>some qS
 | 47=>some qR
 | 48=>some qQ
 | 49=>some qP
 | 50=>some qO
 | 51=>some qN
 | 52=>some qM
 | 53=>some qL
 | 54=>some qK
 | 59=>some qJ
 | 60=>some qI
 | 61=>some qH
 | 62=>some qG
 | 63=>some qF
 | 81=>some fx
 | 92=>some oq
 | 94=>some om
 | 95=>some qE
 | 96=>some mc
 | _=>none
theorem Io:∀ f ps,zQ f=some ps→aj aA f ps:=by
 intro f ps h
 unfold zQ at h
 split at h
 ·cases h;exact VE
 ·cases h;exact lQ
 ·cases h;exact VD
 ·cases h;exact VC
 ·cases h;exact VB
 ·cases h;exact VA
 ·cases h;exact Vz
 ·cases h;exact Vy
 ·cases h;exact Vx
 ·cases h;exact Vw
 ·cases h;exact Vv
 ·cases h;exact Vu
 ·cases h;exact Vt
 ·cases h;exact Vs
 ·cases h;exact Vr
 ·cases h;exact Vq
 ·cases h;exact Vp
 ·cases h;exact Vo
 ·cases h;exact Vn
 ·cases h;exact Vm
 ·cases h;exact Vl
 ·cases h;exact Vk
 ·cases h;exact Vj
 ·cases h;exact Vi
 ·cases h;exact Vh
 ·cases h;exact Vg
 ·cases h;exact Vf
 ·cases h;exact Ve
 ·cases h;exact Vd
 ·cases h;exact Vc
 ·cases h;exact kI
 ·cases h;exact Pv
 ·cases h;exact Pt
 ·cases h;exact Vb
 ·cases h;exact LN
 ·cases h
section
variable (W:cM) (Q:oS→Prop) (x:dQ)
theorem W2:run (env G7 zQ false (fun _ _=>none)) (fun _ _ _=>none) (bE Cb Q) W 100000 (bl 5 Tryz.f5 (ag Tryz.f5) (bp (.st bA (.bu (.int .u64))) x)) [] []=(vC x).wp Q:=by kernel_rfl
end
theorem X9:ah aA 5 Cb:=ah.env rfl (fun _ _ h=>h) (aG (E:=(env G7 zQ false (fun _ _=>none))) (sp:=Cb) (valid _ _ _ _) ⟨fun f sp h=>ah.env rfl (fun _ _ h=>h) (L6 f sp h),fun f ps h=>aj.env rfl (fun _ _ h=>h) (Io f ps h)⟩ (fn:=Tryz.f5) (c:=(ag Tryz.f5)) (by kernel_rfl) (by kernel_rfl) vC W2 (fun _ h=>Tr.an h))
end Go.bz.RL
end
