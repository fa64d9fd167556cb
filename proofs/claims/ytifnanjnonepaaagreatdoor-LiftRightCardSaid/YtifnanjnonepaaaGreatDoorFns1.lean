/- A part of the proof that the laws of this seat hold. Conditions: none beyond the row. -/
import Derived.Test.YtifnanjnonepaaaGreatDoorFns0
set_option maxRecDepth 100000
set_option linter.unusedVariables false
set_option linter.unusedSimpArgs false
set_option linter.unusedSectionVars false
section
namespace Go.bM.RL
open Go.Proofs Go.bM
noncomputable def xl (x:DI):Tr Bool:=
 .aa (Jw x)<|
 .ret (LV x).2.2
noncomputable def qm (x:DI):Bool:=(xl x).val
def uZ (x:DI):Prop:=(xl x).ok
noncomputable def xL:Spec:={er:=(.bp bB),cg:=.bool,n:=1,pre:=uZ,f:=qm}
noncomputable def zi:FuncId→Option Spec
 | 29=>some cn
 | _=>none
theorem HE:∀ f sp,zi f=some sp→ah av f sp:=by
 intro f sp h
 unfold zi at h
 split at h
 ·cases h;exact UG
 ·cases h
section
variable (W:cB) (Q:Bool→Prop) (x:DI)
theorem RB:run (env zi (fun _=>none) false (fun _ _=>none)) (fun _ _ _=>none) (bz xL Q) W 100000 (a7 14 Tryz.f14 (ag Tryz.f14) (bg (.bp bB) x)) [] []=(xl x).wp Q:=by kernel_rfl
end
theorem UM:ah av 14 xL:=ah.env rfl (fun _ _ h=>h) (aE (E:=(env zi (fun _=>none) false (fun _ _=>none))) (sp:=xL) (valid _ _ _ _) ⟨fun f sp h=>ah.env rfl (fun _ _ h=>h) (HE f sp h),fun f ps h=>nomatch h⟩ (fn:=Tryz.f14) (c:=(ag Tryz.f14)) (by kernel_rfl) (by kernel_rfl) xl RB (fun _ h=>Tr.ak h))
noncomputable def xj (x:Int):Tr aD:=
 .ret (false,(x,0))
noncomputable def ff (x:Int):aD:=(xj x).val
def dL (x:Int):Prop:=(xj x).ok
noncomputable def fp:Spec:={er:=(.bp (.int .i64)),cg:=aq,n:=1,pre:=dL,f:=ff}
noncomputable def zd:FuncId→Option Spec
 | _=>none
theorem Hy:∀ f sp,zd f=some sp→ah av f sp:=by
 intro f sp h
 unfold zd at h
 split at h
 ·cases h
section
variable (W:cB) (Q:aD→Prop) (x:Int)
theorem Rv:run (env zd (fun _=>none) false (fun _ _=>none)) (fun _ _ _=>none) (bz fp Q) W 100000 (a7 20 Tryz.f20 (ag Tryz.f20) (bg (.bp (.int .i64)) x)) [] []=(xj x).wp Q:=by kernel_rfl
end
theorem nR:ah av 20 fp:=ah.env rfl (fun _ _ h=>h) (aE (E:=(env zd (fun _=>none) false (fun _ _=>none))) (sp:=fp) (valid _ _ _ _) ⟨fun f sp h=>ah.env rfl (fun _ _ h=>h) (Hy f sp h),fun f ps h=>nomatch h⟩ (fn:=Tryz.f20) (c:=(ag Tryz.f20)) (by kernel_rfl) (by kernel_rfl) xj Rv (fun _ h=>Tr.ak h))
noncomputable def oU (x:kT):Tr aD:=
 .ite (cK x.1 (x.2.length:Int)) (
 .aa ((0:Int)≤x.1)<|
 .aa (x.1 < (x.2.length:Int))<|
 .ret (gh aq x.2 (x.1).toNat)) (
 .aa (bm 0)<|
 .ret (aN 0))
noncomputable def B2 (x:kT):aD:=(oU x).val
def AQ (x:kT):Prop:=(oU x).ok
noncomputable def xF:Spec:={er:=(.st (.int .i64) (.bp (.ref (.slice aq)))),cg:=aq,n:=1,pre:=AQ,f:=B2}
noncomputable def yv:FuncId→Option Spec
 | 11=>some dA
 | _=>none
theorem GZ:∀ f sp,yv f=some sp→ah av f sp:=by
 intro f sp h
 unfold yv at h
 split at h
 ·cases h;exact iR
 ·cases h
section
variable (W:cB) (Q:aD→Prop) (x:kT)
theorem QW:run (env yv (fun _=>none) false (fun _ _=>none)) (fun _ _ _=>none) (bz xF Q) W 100000 (a7 64 Tryz.f64 (ag Tryz.f64) (bg (.st (.int .i64) (.bp (.ref (.slice aq)))) x)) [] []=(oU x).wp Q:=by kernel_rfl
end
theorem UE:ah av 64 xF:=ah.env rfl (fun _ _ h=>h) (aE (E:=(env yv (fun _=>none) false (fun _ _=>none))) (sp:=xF) (valid _ _ _ _) ⟨fun f sp h=>ah.env rfl (fun _ _ h=>h) (GZ f sp h),fun f ps h=>nomatch h⟩ (fn:=Tryz.f64) (c:=(ag Tryz.f64)) (by kernel_rfl) (by kernel_rfl) oU QW (fun _ h=>Tr.ak h))
noncomputable def o4 (x:TW):Tr bu:=
 let y0:eU:=x.2.2
 let y1:vQ:=y0.2
 let y2:kT:=y1.2
 let y3:(List aD):=y2.2
 let y4:kT:=(0,y3)
 .aa (AQ y4)<|
 let y5:kT:=(1,y3)
 .aa (AQ y5)<|
 let y6:kT:=(2,y3)
 .aa (AQ y6)<|
 .aa ((0:Nat) < 1)<|
 .aa (((0:Nat)+1:Nat)≤1)<|
 let y7:an:=x.2.1
 let y8:Nat:=y7.length
 .aa ((y8:Nat)=y8)<|
 let y9:Nat:=(y8+1)
 .aa (((y9:Nat) * 256:Nat)≤2 ^ 40)<|
 .aa ((y9:Nat)≤2 ^ 40)<|
 let y10:CC:=(0,(0,(0,(0,(0,(0,(false,0)))))))
 let y11:an:=(y7++[(y0.1,(y1.1,(y2.1,((B2 y4),((B2 y5),((B2 y6),(0,(0,(0,(y10,(y10,(0,0))))))))))))])
 .aa ((y9:Nat)=y11.length)<|
 let y12:dU:=x.1.2
 .aa ((x.1.1,(y12.1,((),y12.2.2)))=x.1)<|
 .ret (y11,())
noncomputable def cD (x:TW):bu:=(o4 x).val
def bI (x:TW):Prop:=(o4 x).ok
noncomputable def fu:aG:={t:=51,lf:=2,te:=38,ce:=aR,st:=(.st bB (.st (.int .i64) (.st .bx (.st (.int .u64) (.st aq (.st aq (.st aq (.bp aq)))))))),arg:=(.st (.int .u8) (.st (.int .i64) (.st (.int .i64) (.bp (.slice aq))))),cg:=.unit,n:=0,pos:=0,box:=false,pre:=bI,f:=fun x=>(cD x).1,g:=fun x=>(cD x).2}
noncomputable def zf:FuncId→Option Spec
 | 64=>some xF
 | _=>none
theorem HB:∀ f sp,zf f=some sp→ah av f sp:=by
 intro f sp h
 unfold zf at h
 split at h
 ·cases h;exact UE
 ·cases h
theorem Ry (W:cB) (Q:bu→Prop) (x:TW):run (env zf (fun _=>none) false (fun _ _=>none)) (fun _ _ _=>none) (cQ fu x.1 Q) W 100000 (bC 17 Tryz.f17 (ag Tryz.f17) (fu.dh x.2.2)) [] (H0 fu x.1 x.2.1)=(o4 x).wp Q:=by kernel_rfl
theorem kM:aj av 17 fu:=aj.env rfl (fun _ _ h=>h) (aw (E:=(env zf (fun _=>none) false (fun _ _=>none))) (ps:=fu) (valid _ _ _ _) ⟨fun f sp h=>ah.env rfl (fun _ _ h=>h) (HB f sp h),fun f ps h=>nomatch h⟩ (by kernel_rfl) (fn:=Tryz.f17) (c:=(ag Tryz.f17)) (by kernel_rfl) (by kernel_rfl) o4 Ry (fun _ h=>Tr.ak h))
inductive TT where
 | h0 (v3:Int) (v5:Int) (v6:Int)
noncomputable def oW (x:Mw):Tr (TT⊕fD):=
 .ret (.inl (.h0 32 (x.2.1.length:Int) 0))
noncomputable def iw (x:Mw):TT→Tr (TT⊕fD)
 | .h0 v3 v5 v6=>
 .ite (cK v6 v5) (
 .aa ((0:Int)≤v6)<|
 let y0:=x.2.1
 let y1:Nat:=y0.length
 .aa (v6 < (y1:Int))<|
 .aa ((0:Nat) < y1)<|
 .aa (((v6).toNat:Nat) < y1)<|
 .ret (.inl (.h0 (imax v3 (aU .i64 (gh aR y0 (v6).toNat).2.2.1 1)) v5 (aU .i64 v6 1)))) (
 let y2:=x.2.1
 let y3:Nat:=y2.length
 .aa ((y3:Nat)=y3)<|
 let y4:=x.1.2
 let y5:bl:=(x.1.1,(y4.1,((),y4.2.2)))
 let y6:=x.2.2
 let y7:=y6.2
 let y8:gj:=(y5,(y2,(y6.1,(y7.1,(v3,y7.2)))))
 .aa (bI y8)<|
 .aa (dL v3)<|
 let y9:=(cD y8).1
 let y10:Nat:=y9.length
 .aa ((y10:Nat)=y10)<|
 .aa (y5=x.1)<|
 .ret (.inr (y9,(ff v3))))
noncomputable def jH (x:Mw):TT→Head
 | .h0 v3 v5 v6=>
 {fr:={id:=30,kind:=.top,T:=[(.ptr 0 []),(.int .u8 x.2.2.1),(.int .i64 x.2.2.2.1),(.iT aq x.2.2.2.2)]++List.replicate 4 .any++[(.ptr 2 []),(.int .i64 v3)]++List.replicate 5 .any++[(.row 1 33 x.2.1.length),(.int .i64 v5),(.int .i64 v6)]++List.replicate 17 .any,items:=[.lp (az [1,1,0,1,0,0] (ag Tryz.f30)),.a6 0,.code (az [1,1,1] (ag Tryz.f30))],D:=[],base:=2},
  bn:=[],
  H:=[.cell true 51 (.agg [21,1,1,1,3,3,3,3] [(.agg [1,1,1,8,8,1,1] [(.int .u8 x.1.1.1),(.int .u8 x.1.1.2.1),(.int .i64 x.1.1.2.2.1),(.agg [1,1,1,1,1,1,1,1] [(.int .u8 x.1.1.2.2.2.1.1),(.int .i64 x.1.1.2.2.2.1.2.1),(.int .i64 x.1.1.2.2.2.1.2.2.1),(.int .i64 x.1.1.2.2.2.1.2.2.2.1),(.int .i64 x.1.1.2.2.2.1.2.2.2.2.1),(.int .i64 x.1.1.2.2.2.1.2.2.2.2.2.1),(.bool x.1.1.2.2.2.1.2.2.2.2.2.2.1),(.int .i64 x.1.1.2.2.2.1.2.2.2.2.2.2.2)]),(.agg [1,1,1,1,1,1,1,1] [(.int .u8 x.1.1.2.2.2.2.1.1),(.int .i64 x.1.1.2.2.2.2.1.2.1),(.int .i64 x.1.1.2.2.2.2.1.2.2.1),(.int .i64 x.1.1.2.2.2.2.1.2.2.2.1),(.int .i64 x.1.1.2.2.2.2.1.2.2.2.2.1),(.int .i64 x.1.1.2.2.2.2.1.2.2.2.2.2.1),(.bool x.1.1.2.2.2.2.1.2.2.2.2.2.2.1),(.int .i64 x.1.1.2.2.2.2.1.2.2.2.2.2.2.2)]),(.int .u8 x.1.1.2.2.2.2.2.1),(.int .i64 x.1.1.2.2.2.2.2.2)]),(.int .i64 x.1.2.1),(.row 1 33 x.2.1.length),(.int .u64 x.1.2.2.2.1),(.agg [1,1,1] [(.bool x.1.2.2.2.2.1.1),(.int .i64 x.1.2.2.2.2.1.2.1),(.int .u64 x.1.2.2.2.2.1.2.2)]),(.agg [1,1,1] [(.bool x.1.2.2.2.2.2.1.1),(.int .i64 x.1.2.2.2.2.2.1.2.1),(.int .u64 x.1.2.2.2.2.2.1.2.2)]),(.agg [1,1,1] [(.bool x.1.2.2.2.2.2.2.1.1),(.int .i64 x.1.2.2.2.2.2.2.1.2.1),(.int .u64 x.1.2.2.2.2.2.2.1.2.2)]),(.agg [1,1,1] [(.bool x.1.2.2.2.2.2.2.2.1),(.int .i64 x.1.2.2.2.2.2.2.2.2.1),(.int .u64 x.1.2.2.2.2.2.2.2.2.2)])]),.row 38 aR x.2.1,.cell true 36 (.agg [1,1,1] [(.bool false),(.int .i64 0),(.int .u64 0)])]}
noncomputable def CF:FuncId→Nat→Nat→Option Cut
 | 30,0,2=>some {tmps:=[0,1,2,3,8,9,15,16,17],loops:=[],dead:=[],bn:=[]}
 | _,_,_=>none
noncomputable def ba (x:Mw):fD:=gy ((([]:List bq),TC.kV aq)) (iw x) (oW x)
def bK (x:Mw):Prop:=∃ r,Ends (iw x) r (oW x)
noncomputable def dq:aG:={t:=51,lf:=2,te:=38,ce:=aR,st:=(.st bB (.st (.int .i64) (.st .bx (.st (.int .u64) (.st aq (.st aq (.st aq (.bp aq)))))))),arg:=(.st (.int .u8) (.st (.int .i64) (.bp (.slice aq)))),cg:=aq,n:=1,pos:=0,box:=false,pre:=bK,f:=fun x=>(ba x).1,g:=fun x=>(ba x).2}
noncomputable def qf:FuncId→Option Spec
 | 20=>some fp
 | _=>none
theorem Ht:∀ f sp,qf f=some sp→ah av f sp:=by
 intro f sp h
 unfold qf at h
 split at h
 ·cases h;exact nR
 ·cases h
noncomputable def mo:FuncId→Option aG
 | 17=>some fu
 | _=>none
theorem DR:∀ f ps,mo f=some ps→aj av f ps:=by
 intro f ps h
 unfold mo at h
 split at h
 ·cases h;exact kM
 ·cases h
theorem Rq (W:cB) (Q:fD→Prop) (x:Mw):run (env qf mo true (fun _ _=>none)) CF (cQ dq x.1 Q) W 100000 (bC 30 Tryz.f30 (ag Tryz.f30) (dq.dh x.2.2)) [] (H0 dq x.1 x.2.1)=(oW x).wp (cr W Q (jH x)):=by kernel_rfl
theorem Lb (W:cB) (Q:fD→Prop) (x:Mw) (v3 v5 v6:Int):run (env qf mo true (fun _ _=>none)) CF (cQ dq x.1 Q) W 100000 (jH x (.h0 v3 v5 v6)).fr.enter (jH x (.h0 v3 v5 v6)).bn (jH x (.h0 v3 v5 v6)).H=(iw x (.h0 v3 v5 v6)).wp (cr W Q (jH x)):=by kernel_rfl
theorem Nr (W:cB) (Q:fD→Prop) (x:Mw):∀ j:TT,run (env qf mo true (fun _ _=>none)) CF (cQ dq x.1 Q) W 100000 (jH x j).fr.enter (jH x j).bn (jH x j).H=(iw x j).wp (cr W Q (jH x))
 | .h0 v3 v5 v6=>Lb W Q x v3 v5 v6
theorem fJ:aj av 30 dq:=aj.env rfl (fun _ _ h=>h) (vT (E:=(env qf mo true (fun _ _=>none))) (ps:=dq) (valid _ _ _ _) ⟨fun f sp h=>ah.env rfl (fun _ _ h=>h) (Ht f sp h),fun f ps h=>aj.env rfl (fun _ _ h=>h) (DR f ps h)⟩ (by kernel_rfl) (fn:=Tryz.f30) (c:=(ag Tryz.f30)) (by kernel_rfl) (by kernel_rfl) oW iw jH Rq Nr (fun _ h=>dn h))
noncomputable def oP (x:Int):Tr Int:=
 .ite (al x 0) (
 .ret 64) (
 .aa ((0:Int)≤58)<|
 let y0:Int:=(OU .u64 (gH .u64 (dy .u64 x (Tt .u64 x)) 285870213051353865) 58)
 .aa ((0:Int)≤y0)<|
 .aa ((y0:Int) < 64)<|
 let y1:Nat:=(y0).toNat
 .aa ((y1:Nat) < 64)<|
 .ret (aO .i64 (gh (.int .u8) [0,1,56,2,57,49,28,3,61,58,42,50,38,29,17,4,62,47,59,36,45,43,51,22,53,39,33,30,24,18,12,5,63,55,48,27,60,41,37,16,46,35,44,21,52,32,23,11,54,26,40,15,34,20,31,10,25,14,19,9,13,8,7,6] y1)))
noncomputable def Tu (x:Int):Int:=(oP x).val
def Jo (x:Int):Prop:=(oP x).ok
noncomputable def xC:Spec:={er:=(.bp (.int .u64)),cg:=(.int .i64),n:=1,pre:=Jo,f:=Tu}
noncomputable def yq:FuncId→Option Spec
 | _=>none
theorem GU:∀ f sp,yq f=some sp→ah av f sp:=by
 intro f sp h
 unfold yq at h
 split at h
 ·cases h
section
variable (W:cB) (Q:Int→Prop) (x:Int)
theorem QR:run (env yq (fun _=>none) false (fun _ _=>none)) (fun _ _ _=>none) (bz xC Q) W 100000 (a7 79 Tryz.f79 (ag Tryz.f79) (bg (.bp (.int .u64)) x)) [] []=(oP x).wp Q:=by kernel_rfl
end
theorem Uz:ah av 79 xC:=ah.env rfl (fun _ _ h=>h) (aE (E:=(env yq (fun _=>none) false (fun _ _=>none))) (sp:=xC) (valid _ _ _ _) ⟨fun f sp h=>ah.env rfl (fun _ _ h=>h) (GU f sp h),fun f ps h=>nomatch h⟩ (fn:=Tryz.f79) (c:=(ag Tryz.f79)) (by kernel_rfl) (by kernel_rfl) oP QR (fun _ h=>Tr.ak h))
noncomputable def oV (x:Int):Tr Int:=
 .aa (Jo x)<|
 .ret (Tu x)
noncomputable def Kg (x:Int):Int:=(oV x).val
def uX (x:Int):Prop:=(oV x).ok
noncomputable def xG:Spec:={er:=(.bp (.int .u64)),cg:=(.int .i64),n:=1,pre:=uX,f:=Kg}
noncomputable def yY:FuncId→Option Spec
 | 79=>some xC
 | _=>none
theorem Hs:∀ f sp,yY f=some sp→ah av f sp:=by
 intro f sp h
 unfold yY at h
 split at h
 ·cases h;exact Uz
 ·cases h
section
variable (W:cB) (Q:Int→Prop) (x:Int)
theorem Rp:run (env yY (fun _=>none) false (fun _ _=>none)) (fun _ _ _=>none) (bz xG Q) W 100000 (a7 31 Tryz.f31 (ag Tryz.f31) (bg (.bp (.int .u64)) x)) [] []=(oV x).wp Q:=by kernel_rfl
end
theorem UF:ah av 31 xG:=ah.env rfl (fun _ _ h=>h) (aE (E:=(env yY (fun _=>none) false (fun _ _=>none))) (sp:=xG) (valid _ _ _ _) ⟨fun f sp h=>ah.env rfl (fun _ _ h=>h) (Hs f sp h),fun f ps h=>nomatch h⟩ (fn:=Tryz.f31) (c:=(ag Tryz.f31)) (by kernel_rfl) (by kernel_rfl) oV Rp (fun _ h=>Tr.ak h))
noncomputable def o5 (x:KY):Tr fD:=
 let y0:DO:=x.2.2
 .ite (dY y0.1 2) (
 .aa (bm 0)<|
 let y1:=x.2.1
 let y2:Nat:=y1.length
 .aa ((y2:Nat)=y2)<|
 let y3:=x.1.2
 let y4:=y3.2.2
 let y5:bl:=(x.1.1,(y3.1,((),y4)))
 .aa (y5=x.1)<|
 .ret (y1,(aN 0))) (
 let y6:=y0.2.2
 let y7:=y6.2
 let y8:=y7.2
 let y9:=y8.2
 let y10:Int:=(aO .u64 y9.1)
 .aa (bm y10)<|
 .ite y9.2.1 (
 let y11:=y6.1
 let y12:=(b5 0 y11)
 .ite y12 (
 .aa (dL y11)<|
 .aa ((0:Nat) < 2)<|
 .aa ((1:Nat) < 2)<|
 let y13:=x.2.1
 let y14:Nat:=y13.length
 .aa ((y14:Nat)=y14)<|
 let y15:=x.1.2
 let y16:=y15.2.2
 let y17:bl:=(x.1.1,(y15.1,((),y16)))
 let y18:=(aN y10)
 let y19:=y18.2
 let y20:dN:=(y18.1,(y19.1,(aU .u64 y19.2 y16.1)))
 let y21:=(ff y11)
 let y22:gg:=(y17,(y13,(2,(8,[y20,y21]))))
 .aa (bK y22)<|
 let y23:=y7.1
 let y24:=(b5 0 y23)
 .ite y24 (
 .aa (dL y23)<|
 let y25:=y8.1
 let y26:=(cK 1 y25)
 .ite y26 (
 let y27:Int:=(aO .u64 y25)
 .aa (uX y27)<|
 let y28:Int:=(aO .u64 (Kg y27))
 .aa (bm y28)<|
 .aa ((0:Nat) < 2)<|
 .aa ((1:Nat) < 2)<|
 let y29:=(ba y22).1
 let y30:Nat:=y29.length
 .aa ((y30:Nat)=y30)<|
 let y31:=(ff y23)
 let y32:vQ:=(11,(8,[y31,(aN y28)]))
 let y33:gg:=(y17,(y29,y32))
 .aa (bK y33)<|
 .aa ((0:Nat) < 2)<|
 .aa ((1:Nat) < 2)<|
 let y34:=(ba y33).1
 let y35:Nat:=y34.length
 .aa ((y35:Nat)=y35)<|
 .aa (((0:Nat)+2:Nat)≤2)<|
 let y36:=(ba y22).2
 let y37:gg:=(y17,(y34,(2,(8,[y36,(ba y33).2]))))
 .aa (bK y37)<|
 let y38:=(ba y37).1
 let y39:Nat:=y38.length
 .aa ((y39:Nat)=y39)<|
 .aa (y17=x.1)<|
 .ret (y38,(ba y37).2)) (
 .aa ((0:Nat) < 2)<|
 .aa ((1:Nat) < 2)<|
 let y40:=(ba y22).1
 let y41:Nat:=y40.length
 .aa ((y41:Nat)=y41)<|
 .aa (((0:Nat)+2:Nat)≤2)<|
 let y42:=(ba y22).2
 let y43:=(ff y23)
 let y44:gg:=(y17,(y40,(2,(8,[y42,y43]))))
 .aa (bK y44)<|
 let y45:=(ba y44).1
 let y46:Nat:=y45.length
 .aa ((y46:Nat)=y46)<|
 .aa (y17=x.1)<|
 .ret (y45,(ba y44).2))) (
 let y47:=(ba y22).1
 let y48:Nat:=y47.length
 .aa ((y48:Nat)=y48)<|
 .aa (y17=x.1)<|
 let y49:=(ba y22).2
 .ret (y47,y49))) (
 let y50:=y7.1
 let y51:=(b5 0 y50)
 .ite y51 (
 .aa (dL y50)<|
 let y52:=y8.1
 let y53:=(cK 1 y52)
 .ite y53 (
 let y54:Int:=(aO .u64 y52)
 .aa (uX y54)<|
 let y55:Int:=(aO .u64 (Kg y54))
 .aa (bm y55)<|
 .aa ((0:Nat) < 2)<|
 .aa ((1:Nat) < 2)<|
 let y56:=x.2.1
 let y57:Nat:=y56.length
 .aa ((y57:Nat)=y57)<|
 let y58:=x.1.2
 let y59:=y58.2.2
 let y60:bl:=(x.1.1,(y58.1,((),y59)))
 let y61:=(ff y50)
 let y62:vQ:=(11,(8,[y61,(aN y55)]))
 let y63:gg:=(y60,(y56,y62))
 .aa (bK y63)<|
 .aa ((0:Nat) < 2)<|
 .aa ((1:Nat) < 2)<|
 let y64:=(ba y63).1
 let y65:Nat:=y64.length
 .aa ((y65:Nat)=y65)<|
 .aa (((0:Nat)+2:Nat)≤2)<|
 let y66:=(aN y10)
 let y67:=y66.2
 let y68:dN:=(y66.1,(y67.1,(aU .u64 y67.2 y59.1)))
 let y69:=(ba y63).2
 let y70:gg:=(y60,(y64,(2,(8,[y68,y69]))))
 .aa (bK y70)<|
 let y71:=(ba y70).1
 let y72:Nat:=y71.length
 .aa ((y72:Nat)=y72)<|
 .aa (y60=x.1)<|
 .ret (y71,(ba y70).2)) (
 .aa ((0:Nat) < 2)<|
 .aa ((1:Nat) < 2)<|
 let y73:=x.2.1
 let y74:Nat:=y73.length
 .aa ((y74:Nat)=y74)<|
 .aa (((0:Nat)+2:Nat)≤2)<|
 let y75:=x.1.2
 let y76:=y75.2.2
 let y77:bl:=(x.1.1,(y75.1,((),y76)))
 let y78:=(aN y10)
 let y79:=y78.2
 let y80:dN:=(y78.1,(y79.1,(aU .u64 y79.2 y76.1)))
 let y81:=(ff y50)
 let y82:gg:=(y77,(y73,(2,(8,[y80,y81]))))
 .aa (bK y82)<|
 let y83:=(ba y82).1
 let y84:Nat:=y83.length
 .aa ((y84:Nat)=y84)<|
 .aa (y77=x.1)<|
 .ret (y83,(ba y82).2))) (
 let y85:=x.2.1
 let y86:Nat:=y85.length
 .aa ((y86:Nat)=y86)<|
 let y87:=x.1.2
 let y88:=y87.2.2
 let y89:bl:=(x.1.1,(y87.1,((),y88)))
 .aa (y89=x.1)<|
 let y90:=(aN y10)
 let y91:=y90.2
 let y92:dN:=(y90.1,(y91.1,(aU .u64 y91.2 y88.1)))
 .ret (y85,y92)))) (
 let y93:=y6.1
 let y94:=(b5 0 y93)
 .ite y94 (
 .aa (dL y93)<|
 .aa ((0:Nat) < 2)<|
 .aa ((1:Nat) < 2)<|
 let y95:=x.2.1
 let y96:Nat:=y95.length
 .aa ((y96:Nat)=y96)<|
 let y97:=x.1.2
 let y98:=y97.2.2
 let y99:bl:=(x.1.1,(y97.1,((),y98)))
 let y100:=(aN y10)
 let y101:=(ff y93)
 let y102:gg:=(y99,(y95,(2,(8,[y100,y101]))))
 .aa (bK y102)<|
 let y103:=y7.1
 let y104:=(b5 0 y103)
 .ite y104 (
 .aa (dL y103)<|
 let y105:=y8.1
 let y106:=(cK 1 y105)
 .ite y106 (
 let y107:Int:=(aO .u64 y105)
 .aa (uX y107)<|
 let y108:Int:=(aO .u64 (Kg y107))
 .aa (bm y108)<|
 .aa ((0:Nat) < 2)<|
 .aa ((1:Nat) < 2)<|
 let y109:=(ba y102).1
 let y110:Nat:=y109.length
 .aa ((y110:Nat)=y110)<|
 let y111:=(ff y103)
 let y112:vQ:=(11,(8,[y111,(aN y108)]))
 let y113:gg:=(y99,(y109,y112))
 .aa (bK y113)<|
 .aa ((0:Nat) < 2)<|
 .aa ((1:Nat) < 2)<|
 let y114:=(ba y113).1
 let y115:Nat:=y114.length
 .aa ((y115:Nat)=y115)<|
 .aa (((0:Nat)+2:Nat)≤2)<|
 let y116:=(ba y102).2
 let y117:gg:=(y99,(y114,(2,(8,[y116,(ba y113).2]))))
 .aa (bK y117)<|
 let y118:=(ba y117).1
 let y119:Nat:=y118.length
 .aa ((y119:Nat)=y119)<|
 .aa (y99=x.1)<|
 .ret (y118,(ba y117).2)) (
 .aa ((0:Nat) < 2)<|
 .aa ((1:Nat) < 2)<|
 let y120:=(ba y102).1
 let y121:Nat:=y120.length
 .aa ((y121:Nat)=y121)<|
 .aa (((0:Nat)+2:Nat)≤2)<|
 let y122:=(ba y102).2
 let y123:=(ff y103)
 let y124:gg:=(y99,(y120,(2,(8,[y122,y123]))))
 .aa (bK y124)<|
 let y125:=(ba y124).1
 let y126:Nat:=y125.length
 .aa ((y126:Nat)=y126)<|
 .aa (y99=x.1)<|
 .ret (y125,(ba y124).2))) (
 let y127:=(ba y102).1
 let y128:Nat:=y127.length
 .aa ((y128:Nat)=y128)<|
 .aa (y99=x.1)<|
 let y129:=(ba y102).2
 .ret (y127,y129))) (
 let y130:=y7.1
 let y131:=(b5 0 y130)
 .ite y131 (
 .aa (dL y130)<|
 let y132:=y8.1
 let y133:=(cK 1 y132)
 .ite y133 (
 let y134:Int:=(aO .u64 y132)
 .aa (uX y134)<|
 let y135:Int:=(aO .u64 (Kg y134))
 .aa (bm y135)<|
 .aa ((0:Nat) < 2)<|
 .aa ((1:Nat) < 2)<|
 let y136:=x.2.1
 let y137:Nat:=y136.length
 .aa ((y137:Nat)=y137)<|
 let y138:=x.1.2
 let y139:=y138.2.2
 let y140:bl:=(x.1.1,(y138.1,((),y139)))
 let y141:=(ff y130)
 let y142:vQ:=(11,(8,[y141,(aN y135)]))
 let y143:gg:=(y140,(y136,y142))
 .aa (bK y143)<|
 .aa ((0:Nat) < 2)<|
 .aa ((1:Nat) < 2)<|
 let y144:=(ba y143).1
 let y145:Nat:=y144.length
 .aa ((y145:Nat)=y145)<|
 .aa (((0:Nat)+2:Nat)≤2)<|
 let y146:=(aN y10)
 let y147:=(ba y143).2
 let y148:gg:=(y140,(y144,(2,(8,[y146,y147]))))
 .aa (bK y148)<|
 let y149:=(ba y148).1
 let y150:Nat:=y149.length
 .aa ((y150:Nat)=y150)<|
 .aa (y140=x.1)<|
 .ret (y149,(ba y148).2)) (
 .aa ((0:Nat) < 2)<|
 .aa ((1:Nat) < 2)<|
 let y151:=x.2.1
 let y152:Nat:=y151.length
 .aa ((y152:Nat)=y152)<|
 .aa (((0:Nat)+2:Nat)≤2)<|
 let y153:=x.1.2
 let y154:=y153.2.2
 let y155:bl:=(x.1.1,(y153.1,((),y154)))
 let y156:=(aN y10)
 let y157:=(ff y130)
 let y158:gg:=(y155,(y151,(2,(8,[y156,y157]))))
 .aa (bK y158)<|
 let y159:=(ba y158).1
 let y160:Nat:=y159.length
 .aa ((y160:Nat)=y160)<|
 .aa (y155=x.1)<|
 .ret (y159,(ba y158).2))) (
 let y161:=x.2.1
 let y162:Nat:=y161.length
 .aa ((y162:Nat)=y162)<|
 let y163:=x.1.2
 let y164:=y163.2.2
 let y165:bl:=(x.1.1,(y163.1,((),y164)))
 .aa (y165=x.1)<|
 let y166:=(aN y10)
 .ret (y161,y166)))))
noncomputable def aS (x:KY):fD:=(o5 x).val
def Fi (x:KY):Prop:=(o5 x).ok
noncomputable def p6:aG:={t:=51,lf:=2,te:=38,ce:=aR,st:=(.st bB (.st (.int .i64) (.st .bx (.st (.int .u64) (.st aq (.st aq (.st aq (.bp aq)))))))),arg:=(.bp CO),cg:=aq,n:=1,pos:=0,box:=false,pre:=Fi,f:=fun x=>(aS x).1,g:=fun x=>(aS x).2}
noncomputable def zh:FuncId→Option Spec
 | 11=>some dA
 | 20=>some fp
 | 31=>some xG
 | _=>none
theorem HD:∀ f sp,zh f=some sp→ah av f sp:=by
 intro f sp h
 unfold zh at h
 split at h
 ·cases h;exact iR
 ·cases h;exact nR
 ·cases h;exact UF
 ·cases h
noncomputable def sL:FuncId→Option aG
 | 30=>some dq
 | _=>none
theorem DS:∀ f ps,sL f=some ps→aj av f ps:=by
 intro f ps h
 unfold sL at h
 split at h
 ·cases h;exact fJ
 ·cases h
theorem RA (W:cB) (Q:fD→Prop) (x:KY):run (env zh sL true (fun _ _=>none)) (fun _ _ _=>none) (cQ p6 x.1 Q) W 100000 (bC 15 Tryz.f15 (ag Tryz.f15) (p6.dh x.2.2)) [] (H0 p6 x.1 x.2.1)=(o5 x).wp Q:=by kernel_rfl
theorem SW:aj av 15 p6:=aj.env rfl (fun _ _ h=>h) (aw (E:=(env zh sL true (fun _ _=>none))) (ps:=p6) (valid _ _ _ _) ⟨fun f sp h=>ah.env rfl (fun _ _ h=>h) (HD f sp h),fun f ps h=>aj.env rfl (fun _ _ h=>h) (DS f ps h)⟩ (by kernel_rfl) (fn:=Tryz.f15) (c:=(ag Tryz.f15)) (by kernel_rfl) (by kernel_rfl) o5 RA (fun _ h=>Tr.ak h))
noncomputable def tH (x:TV):Tr bu:=
 let y0:(DO×(aD×(Int×aD))):=x.2.2
 let y1:DO:=y0.1
 .ite (al y1.1 2) (
 .aa ((0:Nat) < 2)<|
 .aa ((1:Nat) < 2)<|
 let y2:=x.2.1
 let y3:Nat:=y2.length
 .aa ((y3:Nat)=y3)<|
 .aa (((0:Nat)+2:Nat)≤2)<|
 let y4:=x.1.2
 let y5:bl:=(x.1.1,(y4.1,((),y4.2.2)))
 let y6:=y0.2
 let y7:=y6.2
 let y8:=y7.1
 let y9:=y7.2
 let y10:gj:=(y5,(y2,(28,(y8,(0,[y6.1,y9])))))
 .aa (bI y10)<|
 let y11:=(cD y10).1
 let y12:Nat:=y11.length
 .aa ((y12:Nat)=y12)<|
 .aa (y5=x.1)<|
 .ret (y11,())) (
 let y13:=y0.2
 let y14:=y13.2
 let y15:=y14.1
 .ite (al y15 1) (
 let y16:=y1.2.1
 .aa (dL y16)<|
 .aa (bm 18446744073709551360)<|
 .aa ((0:Nat) < 2)<|
 .aa ((1:Nat) < 2)<|
 let y17:=x.2.1
 let y18:Nat:=y17.length
 .aa ((y18:Nat)=y18)<|
 .aa (((0:Nat)+2:Nat)≤2)<|
 let y19:=x.1.2
 let y20:bl:=(x.1.1,(y19.1,((),y19.2.2)))
 let y21:gg:=(y20,(y17,(8,(8,[(ff y16),(aN 18446744073709551360)]))))
 .aa (bK y21)<|
 .aa ((0:Nat) < 1)<|
 let y22:=(ba y21).1
 let y23:Nat:=y22.length
 .aa ((y23:Nat)=y23)<|
 let y24:=y14.2
 let y25:(List aD):=[y24]
 let y26:gg:=(y20,(y22,(1,(1,y25))))
 .aa (bK y26)<|
 .aa ((0:Nat) < 2)<|
 .aa ((1:Nat) < 2)<|
 let y27:=(ba y26).1
 let y28:Nat:=y27.length
 .aa ((y28:Nat)=y28)<|
 let y29:gj:=(y20,(y27,(9,(8,(y16,[(ba y21).2,(ba y26).2])))))
 .aa (bI y29)<|
 let y30:=(cD y29).1
 let y31:Nat:=y30.length
 .aa ((y31:Nat)=y31)<|
 .aa (y20=x.1)<|
 .ret (y30,())) (
 .aa ((0:Nat) < 1)<|
 let y32:=x.2.1
 let y33:Nat:=y32.length
 .aa ((y33:Nat)=y33)<|
 .aa (((0:Nat)+1:Nat)≤1)<|
 let y34:=x.1.2
 let y35:bl:=(x.1.1,(y34.1,((),y34.2.2)))
 let y36:=y1.2.1
 let y37:=y14.2
 let y38:(List aD):=[y37]
 let y39:gj:=(y35,(y32,(1,(y15,(y36,y38)))))
 .aa (bI y39)<|
 let y40:=(cD y39).1
 let y41:Nat:=y40.length
 .aa ((y41:Nat)=y41)<|
 .aa (y35=x.1)<|
 .ret (y40,())))
noncomputable def LJ (x:TV):bu:=(tH x).val
def Jj (x:TV):Prop:=(tH x).ok
noncomputable def nb:aG:={t:=51,lf:=2,te:=38,ce:=aR,st:=(.st bB (.st (.int .i64) (.st .bx (.st (.int .u64) (.st aq (.st aq (.st aq (.bp aq)))))))),arg:=(.st CO (.st aq (.st (.int .i64) (.bp aq)))),cg:=.unit,n:=0,pos:=0,box:=false,pre:=Jj,f:=fun x=>(LJ x).1,g:=fun x=>(LJ x).2}
noncomputable def yb:FuncId→Option Spec
 | 11=>some dA
 | 20=>some fp
 | _=>none
theorem GF:∀ f sp,yb f=some sp→ah av f sp:=by
 intro f sp h
 unfold yb at h
 split at h
 ·cases h;exact iR
 ·cases h;exact nR
 ·cases h
noncomputable def rW:FuncId→Option aG
 | 17=>some fu
 | 30=>some dq
 | _=>none
theorem C9:∀ f ps,rW f=some ps→aj av f ps:=by
 intro f ps h
 unfold rW at h
 split at h
 ·cases h;exact kM
 ·cases h;exact fJ
 ·cases h
theorem QD (W:cB) (Q:bu→Prop) (x:TV):run (env yb rW true (fun _ _=>none)) (fun _ _ _=>none) (cQ nb x.1 Q) W 100000 (bC 93 Tryz.f93 (ag Tryz.f93) (nb.dh x.2.2)) [] (H0 nb x.1 x.2.1)=(tH x).wp Q:=by kernel_rfl
theorem M1:aj av 93 nb:=aj.env rfl (fun _ _ h=>h) (aw (E:=(env yb rW true (fun _ _=>none))) (ps:=nb) (valid _ _ _ _) ⟨fun f sp h=>ah.env rfl (fun _ _ h=>h) (GF f sp h),fun f ps h=>aj.env rfl (fun _ _ h=>h) (C9 f ps h)⟩ (by kernel_rfl) (fn:=Tryz.f93) (c:=(ag Tryz.f93)) (by kernel_rfl) (by kernel_rfl) tH QD (fun _ h=>Tr.ak h))
noncomputable def tT (x:jT):Tr bu:=
 let y0:an:=x.2.1
 let y1:Nat:=y0.length
 .aa ((y1:Nat)=y1)<|
 let y2:DI:=x.1.1
 let y3:dU:=x.1.2
 let y4:Int:=y3.1
 let y5:mG:=y3.2.2
 let y6:bl:=(y2,(y4,((),y5)))
 let y7:UY:=(y6,(y0,(y2.2.2.2.1,(y5.2.1,(y4,x.2.2)))))
 .aa (Jj y7)<|
 let y8:an:=(LJ y7).1
 let y9:Nat:=y8.length
 .aa ((y9:Nat)=y9)<|
 .aa (y6=x.1)<|
 .ret (y8,())
noncomputable def iU (x:jT):bu:=(tT x).val
def iD (x:jT):Prop:=(tT x).ok
noncomputable def ft:aG:={t:=51,lf:=2,te:=38,ce:=aR,st:=(.st bB (.st (.int .i64) (.st .bx (.st (.int .u64) (.st aq (.st aq (.st aq (.bp aq)))))))),arg:=(.bp aq),cg:=.unit,n:=0,pos:=0,box:=false,pre:=iD,f:=fun x=>(iU x).1,g:=fun x=>(iU x).2}
noncomputable def yp:FuncId→Option Spec
 | _=>none
theorem GS:∀ f sp,yp f=some sp→ah av f sp:=by
 intro f sp h
 unfold yp at h
 split at h
 ·cases h
noncomputable def sa:FuncId→Option aG
 | 93=>some nb
 | _=>none
theorem Dl:∀ f ps,sa f=some ps→aj av f ps:=by
 intro f ps h
 unfold sa at h
 split at h
 ·cases h;exact M1
 ·cases h
theorem QQ (W:cB) (Q:bu→Prop) (x:jT):run (env yp sa true (fun _ _=>none)) (fun _ _ _=>none) (cQ ft x.1 Q) W 100000 (bC 80 Tryz.f80 (ag Tryz.f80) (ft.dh x.2.2)) [] (H0 ft x.1 x.2.1)=(tT x).wp Q:=by kernel_rfl
theorem kL:aj av 80 ft:=aj.env rfl (fun _ _ h=>h) (aw (E:=(env yp sa true (fun _ _=>none))) (ps:=ft) (valid _ _ _ _) ⟨fun f sp h=>ah.env rfl (fun _ _ h=>h) (GS f sp h),fun f ps h=>aj.env rfl (fun _ _ h=>h) (Dl f ps h)⟩ (by kernel_rfl) (fn:=Tryz.f80) (c:=(ag Tryz.f80)) (by kernel_rfl) (by kernel_rfl) tT QQ (fun _ h=>Tr.ak h))
noncomputable def rl (x:Int):Tr Int:=
 .ret (HO (imax x 1) 8)
noncomputable def wW (x:Int):Int:=(rl x).val
def C5 (x:Int):Prop:=(rl x).ok
noncomputable def rL:Spec:={er:=(.bp (.int .i64)),cg:=(.int .i64),n:=1,pre:=C5,f:=wW}
noncomputable def tj:FuncId→Option Spec
 | _=>none
theorem Eu:∀ f sp,tj f=some sp→ah av f sp:=by
 intro f sp h
 unfold tj at h
 split at h
 ·cases h
section
variable (W:cB) (Q:Int→Prop) (x:Int)
theorem N4:run (env tj (fun _=>none) false (fun _ _=>none)) (fun _ _ _=>none) (bz rL Q) W 100000 (a7 106 Tryz.f106 (ag Tryz.f106) (bg (.bp (.int .i64)) x)) [] []=(rl x).wp Q:=by kernel_rfl
end
theorem Ti:ah av 106 rL:=ah.env rfl (fun _ _ h=>h) (aE (E:=(env tj (fun _=>none) false (fun _ _=>none))) (sp:=rL) (valid _ _ _ _) ⟨fun f sp h=>ah.env rfl (fun _ _ h=>h) (Eu f sp h),fun f ps h=>nomatch h⟩ (fn:=Tryz.f106) (c:=(ag Tryz.f106)) (by kernel_rfl) (by kernel_rfl) rl N4 (fun _ h=>Tr.ak h))
noncomputable def oO (x:Int):Tr Int:=
 .aa (C5 x)<|
 .aa ((0:Int)≤(wW x))<|
 .aa (((wW x):Int) < 9)<|
 let y0:Nat:=((wW x)).toNat
 .aa ((y0:Nat) < 9)<|
 .ret (gh (.int .u64) A7 y0)
noncomputable def O1 (x:Int):Int:=(oO x).val
def Fe (x:Int):Prop:=(oO x).ok
noncomputable def uK:Spec:={er:=(.bp (.int .i64)),cg:=(.int .u64),n:=1,pre:=Fe,f:=O1}
noncomputable def yi:FuncId→Option Spec
 | 106=>some rL
 | _=>none
theorem GM:∀ f sp,yi f=some sp→ah av f sp:=by
 intro f sp h
 unfold yi at h
 split at h
 ·cases h;exact Ti
 ·cases h
section
variable (W:cB) (Q:Int→Prop) (x:Int)
theorem QK:run (env yi (fun _=>none) false (fun _ _=>none)) (fun _ _ _=>none) (bz uK Q) W 100000 (a7 86 Tryz.f86 (ag Tryz.f86) (bg (.bp (.int .i64)) x)) [] []=(oO x).wp Q:=by kernel_rfl
end
theorem SX:ah av 86 uK:=ah.env rfl (fun _ _ h=>h) (aE (E:=(env yi (fun _=>none) false (fun _ _=>none))) (sp:=uK) (valid _ _ _ _) ⟨fun f sp h=>ah.env rfl (fun _ _ h=>h) (GM f sp h),fun f ps h=>nomatch h⟩ (fn:=Tryz.f86) (c:=(ag Tryz.f86)) (by kernel_rfl) (by kernel_rfl) oO QK (fun _ h=>Tr.ak h))
noncomputable def l6 (x:bN):Tr Int:=
 .aa (Fe x.2)<|
 .ret (dy .u64 x.1 (O1 x.2))
noncomputable def Nf (x:bN):Int:=(l6 x).val
def C6 (x:bN):Prop:=(l6 x).ok
noncomputable def rM:Spec:={er:=(.st (.int .u64) (.bp (.int .i64))),cg:=(.int .u64),n:=1,pre:=C6,f:=Nf}
noncomputable def tk:FuncId→Option Spec
 | 86=>some uK
 | _=>none
theorem Ev:∀ f sp,tk f=some sp→ah av f sp:=by
 intro f sp h
 unfold tk at h
 split at h
 ·cases h;exact SX
 ·cases h
section
variable (W:cB) (Q:Int→Prop) (x:bN)
theorem N5:run (env tk (fun _=>none) false (fun _ _=>none)) (fun _ _ _=>none) (bz rM Q) W 100000 (a7 105 Tryz.f105 (ag Tryz.f105) (bg (.st (.int .u64) (.bp (.int .i64))) x)) [] []=(l6 x).wp Q:=by kernel_rfl
end
theorem Tj:ah av 105 rM:=ah.env rfl (fun _ _ h=>h) (aE (E:=(env tk (fun _=>none) false (fun _ _=>none))) (sp:=rM) (valid _ _ _ _) ⟨fun f sp h=>ah.env rfl (fun _ _ h=>h) (Ev f sp h),fun f ps h=>nomatch h⟩ (fn:=Tryz.f105) (c:=(ag Tryz.f105)) (by kernel_rfl) (by kernel_rfl) l6 N5 (fun _ h=>Tr.ak h))
noncomputable def tS (x:K1):Tr fD:=
 let y0:(DO×(aD×Int)):=x.2.2
 let y1:DO:=y0.1
 let y2:Int:=y1.1
 .ite (al y2 1) (
 let y3:=y1.2
 let y4:=y3.1
 .aa (dL y4)<|
 let y5:=x.2.1
 let y6:Nat:=y5.length
 .aa ((y6:Nat)=y6)<|
 let y7:=x.1.2
 let y8:bl:=(x.1.1,(y7.1,((),y7.2.2)))
 .aa (y8=x.1)<|
 .ret (y5,(ff y4))) (
 .ite (al y2 2) (
 .aa ((0:Nat) < 1)<|
 let y9:=x.2.1
 let y10:Nat:=y9.length
 .aa ((y10:Nat)=y10)<|
 .aa (((0:Nat)+1:Nat)≤1)<|
 let y11:=x.1.2
 let y12:bl:=(x.1.1,(y11.1,((),y11.2.2)))
 let y13:=y0.2
 let y14:=y13.2
 let y15:gg:=(y12,(y9,(27,(y14,[y13.1]))))
 .aa (bK y15)<|
 let y16:=(ba y15).1
 let y17:Nat:=y16.length
 .aa ((y17:Nat)=y17)<|
 .aa (y12=x.1)<|
 .ret (y16,(ba y15).2)) (
 let y18:=y1.2
 let y19:=y0.2
 let y20:=y19.2
 let y21:bN:=((aO .u64 y18.2.2.2.2.2.2),y20)
 .aa (C6 y21)<|
 let y22:=(Nf y21)
 .aa (bm y22)<|
 let y23:=x.2.1
 let y24:Nat:=y23.length
 .aa ((y24:Nat)=y24)<|
 let y25:=x.1.2
 let y26:bl:=(x.1.1,(y25.1,((),y25.2.2)))
 .aa (y26=x.1)<|
 .ret (y23,(aN y22))))
noncomputable def fe (x:K1):fD:=(tS x).val
def iC (x:K1):Prop:=(tS x).ok
noncomputable def fb:aG:={t:=51,lf:=2,te:=38,ce:=aR,st:=(.st bB (.st (.int .i64) (.st .bx (.st (.int .u64) (.st aq (.st aq (.st aq (.bp aq)))))))),arg:=(.st CO (.st aq (.bp (.int .i64)))),cg:=aq,n:=1,pos:=0,box:=false,pre:=iC,f:=fun x=>(fe x).1,g:=fun x=>(fe x).2}
noncomputable def yn:FuncId→Option Spec
 | 11=>some dA
 | 20=>some fp
 | 105=>some rM
 | _=>none
theorem GR:∀ f sp,yn f=some sp→ah av f sp:=by
 intro f sp h
 unfold yn at h
 split at h
 ·cases h;exact iR
 ·cases h;exact nR
 ·cases h;exact Tj
 ·cases h
noncomputable def r9:FuncId→Option aG
 | 30=>some dq
 | _=>none
theorem Dk:∀ f ps,r9 f=some ps→aj av f ps:=by
 intro f ps h
 unfold r9 at h
 split at h
 ·cases h;exact fJ
 ·cases h
theorem QP (W:cB) (Q:fD→Prop) (x:K1):run (env yn r9 true (fun _ _=>none)) (fun _ _ _=>none) (cQ fb x.1 Q) W 100000 (bC 81 Tryz.f81 (ag Tryz.f81) (fb.dh x.2.2)) [] (H0 fb x.1 x.2.1)=(tS x).wp Q:=by kernel_rfl
theorem jU:aj av 81 fb:=aj.env rfl (fun _ _ h=>h) (aw (E:=(env yn r9 true (fun _ _=>none))) (ps:=fb) (valid _ _ _ _) ⟨fun f sp h=>ah.env rfl (fun _ _ h=>h) (GR f sp h),fun f ps h=>aj.env rfl (fun _ _ h=>h) (Dk f ps h)⟩ (by kernel_rfl) (fn:=Tryz.f81) (c:=(ag Tryz.f81)) (by kernel_rfl) (by kernel_rfl) tS QP (fun _ h=>Tr.ak h))
noncomputable def uF (x:br):Tr bu:=
 let y0:an:=x.2.1
 let y1:Nat:=y0.length
 .aa ((y1:Nat)=y1)<|
 let y2:DI:=x.1.1
 let y3:dU:=x.1.2
 let y4:Int:=y3.1
 let y5:mG:=y3.2.2
 let y6:bl:=(y2,(y4,((),y5)))
 let y7:m0:=(y6,(y0,(y2.2.2.2.2.1,(y5.2.2.1,y4))))
 .aa (iC y7)<|
 let y8:an:=(fe y7).1
 let y9:Nat:=y8.length
 .aa ((y9:Nat)=y9)<|
 let y10:fo:=(y6,(y8,(fe y7).2))
 .aa (iD y10)<|
 let y11:an:=(iU y10).1
 let y12:Nat:=y11.length
 .aa ((y12:Nat)=y12)<|
 .aa (y6=x.1)<|
 .ret (y11,())
noncomputable def Pu (x:br):bu:=(uF x).val
def MZ (x:br):Prop:=(uF x).ok
noncomputable def pZ:aG:={t:=51,lf:=2,te:=38,ce:=aR,st:=(.st bB (.st (.int .i64) (.st .bx (.st (.int .u64) (.st aq (.st aq (.st aq (.bp aq)))))))),arg:=.unit,cg:=.unit,n:=0,pos:=0,box:=false,pre:=MZ,f:=fun x=>(Pu x).1,g:=fun x=>(Pu x).2}
noncomputable def yX:FuncId→Option Spec
 | _=>none
theorem Hr:∀ f sp,yX f=some sp→ah av f sp:=by
 intro f sp h
 unfold yX at h
 split at h
 ·cases h
noncomputable def sK:FuncId→Option aG
 | 80=>some ft
 | 81=>some fb
 | _=>none
theorem DQ:∀ f ps,sK f=some ps→aj av f ps:=by
 intro f ps h
 unfold sK at h
 split at h
 ·cases h;exact kL
 ·cases h;exact jU
 ·cases h
theorem Ro (W:cB) (Q:bu→Prop) (x:br):run (env yX sK true (fun _ _=>none)) (fun _ _ _=>none) (cQ pZ x.1 Q) W 100000 (bC 32 Tryz.f32 (ag Tryz.f32) (pZ.dh x.2.2)) [] (H0 pZ x.1 x.2.1)=(uF x).wp Q:=by kernel_rfl
theorem SV:aj av 32 pZ:=aj.env rfl (fun _ _ h=>h) (aw (E:=(env yX sK true (fun _ _=>none))) (ps:=pZ) (valid _ _ _ _) ⟨fun f sp h=>ah.env rfl (fun _ _ h=>h) (Hr f sp h),fun f ps h=>aj.env rfl (fun _ _ h=>h) (DQ f ps h)⟩ (by kernel_rfl) (fn:=Tryz.f32) (c:=(ag Tryz.f32)) (by kernel_rfl) (by kernel_rfl) uF Ro (fun _ h=>Tr.ak h))
noncomputable def uE (x:br):Tr bu:=
 let y0:an:=x.2.1
 let y1:Nat:=y0.length
 .aa ((y1:Nat)=y1)<|
 let y2:dU:=x.1.2
 let y3:mG:=y2.2.2
 let y4:bl:=(x.1.1,(y2.1,((),y3)))
 let y5:fo:=(y4,(y0,y3.2.2.1))
 .aa (iD y5)<|
 let y6:an:=(iU y5).1
 let y7:Nat:=y6.length
 .aa ((y7:Nat)=y7)<|
 .aa (y4=x.1)<|
 .ret (y6,())
noncomputable def Pt (x:br):bu:=(uE x).val
def MY (x:br):Prop:=(uE x).ok
noncomputable def pY:aG:={t:=51,lf:=2,te:=38,ce:=aR,st:=(.st bB (.st (.int .i64) (.st .bx (.st (.int .u64) (.st aq (.st aq (.st aq (.bp aq)))))))),arg:=.unit,cg:=.unit,n:=0,pos:=0,box:=false,pre:=MY,f:=fun x=>(Pt x).1,g:=fun x=>(Pt x).2}
noncomputable def yW:FuncId→Option Spec
 | _=>none
theorem Hq:∀ f sp,yW f=some sp→ah av f sp:=by
 intro f sp h
 unfold yW at h
 split at h
 ·cases h
noncomputable def sJ:FuncId→Option aG
 | 80=>some ft
 | _=>none
theorem DP:∀ f ps,sJ f=some ps→aj av f ps:=by
 intro f ps h
 unfold sJ at h
 split at h
 ·cases h;exact kL
 ·cases h
theorem Rn (W:cB) (Q:bu→Prop) (x:br):run (env yW sJ true (fun _ _=>none)) (fun _ _ _=>none) (cQ pY x.1 Q) W 100000 (bC 33 Tryz.f33 (ag Tryz.f33) (pY.dh x.2.2)) [] (H0 pY x.1 x.2.1)=(uE x).wp Q:=by kernel_rfl
theorem SU:aj av 33 pY:=aj.env rfl (fun _ _ h=>h) (aw (E:=(env yW sJ true (fun _ _=>none))) (ps:=pY) (valid _ _ _ _) ⟨fun f sp h=>ah.env rfl (fun _ _ h=>h) (Hq f sp h),fun f ps h=>aj.env rfl (fun _ _ h=>h) (DP f ps h)⟩ (by kernel_rfl) (fn:=Tryz.f33) (c:=(ag Tryz.f33)) (by kernel_rfl) (by kernel_rfl) uE Rn (fun _ h=>Tr.ak h))
end Go.bM.RL
end
section
namespace Go.bM.RL
open Go.Proofs Go.bM
noncomputable def tL (x:Ao):Tr bu:=
 .aa ((0:Nat) < 1)<|
 let y0:an:=x.2.1
 let y1:Nat:=y0.length
 .aa ((y1:Nat)=y1)<|
 .aa (((0:Nat)+1:Nat)≤1)<|
 let y2:dU:=x.1.2
 let y3:bl:=(x.1.1,(y2.1,((),y2.2.2)))
 let y4:cW:=x.2.2
 let y5:gj:=(y3,(y0,(1,(1,(16,[y4.1])))))
 .aa (bI y5)<|
 .aa ((0:Nat) < 1)<|
 let y6:an:=(cD y5).1
 let y7:Nat:=y6.length
 .aa ((y7:Nat)=y7)<|
 .aa (((0:Nat)+1:Nat)≤1)<|
 let y8:gj:=(y3,(y6,(1,(1,(19,[y4.2])))))
 .aa (bI y8)<|
 let y9:an:=(cD y8).1
 let y10:Nat:=y9.length
 .aa ((y10:Nat)=y10)<|
 .aa (y3=x.1)<|
 .ret (y9,())
noncomputable def nZ (x:Ao):bu:=(tL x).val
def lk (x:Ao):Prop:=(tL x).ok
noncomputable def jA:aG:={t:=51,lf:=2,te:=38,ce:=aR,st:=(.st bB (.st (.int .i64) (.st .bx (.st (.int .u64) (.st aq (.st aq (.st aq (.bp aq)))))))),arg:=(.st aq (.bp aq)),cg:=.unit,n:=0,pos:=0,box:=false,pre:=lk,f:=fun x=>(nZ x).1,g:=fun x=>(nZ x).2}
noncomputable def yf:FuncId→Option Spec
 | _=>none
theorem GJ:∀ f sp,yf f=some sp→ah av f sp:=by
 intro f sp h
 unfold yf at h
 split at h
 ·cases h
noncomputable def r0:FuncId→Option aG
 | 17=>some fu
 | _=>none
theorem Dd:∀ f ps,r0 f=some ps→aj av f ps:=by
 intro f ps h
 unfold r0 at h
 split at h
 ·cases h;exact kM
 ·cases h
theorem QH (W:cB) (Q:bu→Prop) (x:Ao):run (env yf r0 true (fun _ _=>none)) (fun _ _ _=>none) (cQ jA x.1 Q) W 100000 (bC 89 Tryz.f89 (ag Tryz.f89) (jA.dh x.2.2)) [] (H0 jA x.1 x.2.1)=(tL x).wp Q:=by kernel_rfl
theorem AS:aj av 89 jA:=aj.env rfl (fun _ _ h=>h) (aw (E:=(env yf r0 true (fun _ _=>none))) (ps:=jA) (valid _ _ _ _) ⟨fun f sp h=>ah.env rfl (fun _ _ h=>h) (GJ f sp h),fun f ps h=>aj.env rfl (fun _ _ h=>h) (Dd f ps h)⟩ (by kernel_rfl) (fn:=Tryz.f89) (c:=(ag Tryz.f89)) (by kernel_rfl) (by kernel_rfl) tL QH (fun _ h=>Tr.ak h))
noncomputable def tK (x:jT):Tr bu:=
 .aa ((0:Nat) < 1)<|
 let y0:an:=x.2.1
 let y1:Nat:=y0.length
 .aa ((y1:Nat)=y1)<|
 let y2:dU:=x.1.2
 let y3:Int:=y2.1
 let y4:bl:=(x.1.1,(y3,((),y2.2.2)))
 let y5:(List aD):=[x.2.2]
 let y6:gj:=(y4,(y0,(22,(y3,(17,y5)))))
 .aa (bI y6)<|
 .aa ((0:Nat) < 1)<|
 let y7:an:=(cD y6).1
 let y8:Nat:=y7.length
 .aa ((y8:Nat)=y8)<|
 let y9:gj:=(y4,(y7,(23,(y3,(18,y5)))))
 .aa (bI y9)<|
 .aa ((0:Nat) < 1)<|
 let y10:an:=(cD y9).1
 let y11:Nat:=y10.length
 .aa ((y11:Nat)=y11)<|
 let y12:gj:=(y4,(y10,(24,(y3,(20,y5)))))
 .aa (bI y12)<|
 let y13:an:=(cD y12).1
 let y14:Nat:=y13.length
 .aa ((y14:Nat)=y14)<|
 .aa (y4=x.1)<|
 .ret (y13,())
noncomputable def vr (x:jT):bu:=(tK x).val
def mP (x:jT):Prop:=(tK x).ok
noncomputable def iP:aG:={t:=51,lf:=2,te:=38,ce:=aR,st:=(.st bB (.st (.int .i64) (.st .bx (.st (.int .u64) (.st aq (.st aq (.st aq (.bp aq)))))))),arg:=(.bp aq),cg:=.unit,n:=0,pos:=0,box:=false,pre:=mP,f:=fun x=>(vr x).1,g:=fun x=>(vr x).2}
noncomputable def ye:FuncId→Option Spec
 | _=>none
theorem GI:∀ f sp,ye f=some sp→ah av f sp:=by
 intro f sp h
 unfold ye at h
 split at h
 ·cases h
noncomputable def rZ:FuncId→Option aG
 | 17=>some fu
 | _=>none
theorem Dc:∀ f ps,rZ f=some ps→aj av f ps:=by
 intro f ps h
 unfold rZ at h
 split at h
 ·cases h;exact kM
 ·cases h
theorem QG (W:cB) (Q:bu→Prop) (x:jT):run (env ye rZ true (fun _ _=>none)) (fun _ _ _=>none) (cQ iP x.1 Q) W 100000 (bC 90 Tryz.f90 (ag Tryz.f90) (iP.dh x.2.2)) [] (H0 iP x.1 x.2.1)=(tK x).wp Q:=by kernel_rfl
theorem wF:aj av 90 iP:=aj.env rfl (fun _ _ h=>h) (aw (E:=(env ye rZ true (fun _ _=>none))) (ps:=iP) (valid _ _ _ _) ⟨fun f sp h=>ah.env rfl (fun _ _ h=>h) (GI f sp h),fun f ps h=>aj.env rfl (fun _ _ h=>h) (Dc f ps h)⟩ (by kernel_rfl) (fn:=Tryz.f90) (c:=(ag Tryz.f90)) (by kernel_rfl) (by kernel_rfl) tK QG (fun _ h=>Tr.ak h))
noncomputable def tO (x:TX):Tr bu:=
 .aa ((0:Int)≤0)<|
 .aa ((0:Int) < 3)<|
 .aa ((0:Nat) < 3)<|
 .aa ((0:Nat) < 3)<|
 .aa ((1:Nat) < 3)<|
 .aa ((2:Nat) < 3)<|
 let y0:an:=x.2.1
 let y1:Nat:=y0.length
 .aa ((y1:Nat)=y1)<|
 let y2:DI:=x.1.1
 let y3:dU:=x.1.2
 let y4:Int:=y3.1
 let y5:bl:=(y2,(y4,((),y3.2.2)))
 let y6:(ao×xt):=x.2.2
 let y7:ao:=y6.1
 let y8:xt:=y6.2
 let y9:cW:=y8.2
 let y10:kT:=(y4,[y8.1,y9.1,y9.2])
 let y11:gg:=(y5,(y0,((gh (.int .u8) y7 0),y10)))
 .aa (bK y11)<|
 .aa ((0:Int)≤0)<|
 .aa ((0:Int) < 3)<|
 .aa ((0:Nat) < 3)<|
 .aa ((0:Int)≤1)<|
 .aa ((1:Int) < 3)<|
 .aa ((1:Nat) < 3)<|
 .aa ((0:Nat) < 3)<|
 .aa ((1:Nat) < 3)<|
 .aa ((2:Nat) < 3)<|
 let y12:an:=(ba y11).1
 let y13:Nat:=y12.length
 .aa ((y13:Nat)=y13)<|
 let y14:gg:=(y5,(y12,((gh (.int .u8) y7 1),y10)))
 .aa (bK y14)<|
 .aa ((0:Int)≤1)<|
 .aa ((1:Int) < 3)<|
 .aa ((1:Nat) < 3)<|
 .aa ((0:Int)≤2)<|
 .aa ((2:Int) < 3)<|
 .aa ((2:Nat) < 3)<|
 .aa ((0:Nat) < 3)<|
 .aa ((1:Nat) < 3)<|
 .aa ((2:Nat) < 3)<|
 let y15:an:=(ba y14).1
 let y16:Nat:=y15.length
 .aa ((y16:Nat)=y16)<|
 let y17:gg:=(y5,(y15,((gh (.int .u8) y7 2),y10)))
 .aa (bK y17)<|
 .aa ((0:Int)≤2)<|
 .aa ((2:Int) < 3)<|
 .aa ((2:Nat) < 3)<|
 .ite (dY y2.1 10) (
 .aa ((0:Int)≤0)<|
 .aa ((0:Int) < 3)<|
 .aa ((0:Nat) < 3)<|
 let y18:=(ba y17).1
 let y19:Nat:=y18.length
 .aa ((y19:Nat)=y19)<|
 let y20:=(ba y11).2
 let y21:fo:=(y5,(y18,y20))
 .aa (iD y21)<|
 .aa ((0:Int)≤1)<|
 .aa ((1:Int) < 3)<|
 .aa ((1:Nat) < 3)<|
 .aa ((0:Int)≤2)<|
 .aa ((2:Int) < 3)<|
 .aa ((2:Nat) < 3)<|
 let y22:=(iU y21).1
 let y23:Nat:=y22.length
 .aa ((y23:Nat)=y23)<|
 let y24:cW:=((ba y14).2,(ba y17).2)
 let y25:qV:=(y5,(y22,y24))
 .aa (lk y25)<|
 .aa ((0:Int)≤0)<|
 .aa ((0:Int) < 3)<|
 .aa ((0:Nat) < 3)<|
 let y26:=(nZ y25).1
 let y27:Nat:=y26.length
 .aa ((y27:Nat)=y27)<|
 let y28:fo:=(y5,(y26,y20))
 .aa (mP y28)<|
 let y29:=(vr y28).1
 let y30:Nat:=y29.length
 .aa ((y30:Nat)=y30)<|
 .aa (y5=x.1)<|
 .ret (y29,())) (
 .aa ((0:Int)≤1)<|
 .aa ((1:Int) < 3)<|
 .aa ((1:Nat) < 3)<|
 .aa ((0:Int)≤2)<|
 .aa ((2:Int) < 3)<|
 .aa ((2:Nat) < 3)<|
 let y31:=(ba y17).1
 let y32:Nat:=y31.length
 .aa ((y32:Nat)=y32)<|
 let y33:cW:=((ba y14).2,(ba y17).2)
 let y34:qV:=(y5,(y31,y33))
 .aa (lk y34)<|
 .aa ((0:Int)≤0)<|
 .aa ((0:Int) < 3)<|
 .aa ((0:Nat) < 3)<|
 let y35:=(nZ y34).1
 let y36:Nat:=y35.length
 .aa ((y36:Nat)=y36)<|
 let y37:=(ba y11).2
 let y38:fo:=(y5,(y35,y37))
 .aa (mP y38)<|
 let y39:=(vr y38).1
 let y40:Nat:=y39.length
 .aa ((y40:Nat)=y40)<|
 .aa (y5=x.1)<|
 .ret (y39,()))
noncomputable def LM (x:TX):bu:=(tO x).val
def Jm (x:TX):Prop:=(tO x).ok
noncomputable def ng:aG:={t:=51,lf:=2,te:=38,ce:=aR,st:=(.st bB (.st (.int .i64) (.st .bx (.st (.int .u64) (.st aq (.st aq (.st aq (.bp aq)))))))),arg:=(.st (.arr 3 (.int .u8)) (.st aq (.st aq (.bp aq)))),cg:=.unit,n:=0,pos:=0,box:=false,pre:=Jm,f:=fun x=>(LM x).1,g:=fun x=>(LM x).2}
noncomputable def yj:FuncId→Option Spec
 | _=>none
theorem GN:∀ f sp,yj f=some sp→ah av f sp:=by
 intro f sp h
 unfold yj at h
 split at h
 ·cases h
noncomputable def r5:FuncId→Option aG
 | 30=>some dq
 | 80=>some ft
 | 89=>some jA
 | 90=>some iP
 | _=>none
theorem Dg:∀ f ps,r5 f=some ps→aj av f ps:=by
 intro f ps h
 unfold r5 at h
 split at h
 ·cases h;exact fJ
 ·cases h;exact kL
 ·cases h;exact AS
 ·cases h;exact wF
 ·cases h
theorem QL (W:cB) (Q:bu→Prop) (x:TX):run (env yj r5 true (fun _ _=>none)) (fun _ _ _=>none) (cQ ng x.1 Q) W 100000 (bC 85 Tryz.f85 (ag Tryz.f85) (ng.dh x.2.2)) [] (H0 ng x.1 x.2.1)=(tO x).wp Q:=by kernel_rfl
theorem M5:aj av 85 ng:=aj.env rfl (fun _ _ h=>h) (aw (E:=(env yj r5 true (fun _ _=>none))) (ps:=ng) (valid _ _ _ _) ⟨fun f sp h=>ah.env rfl (fun _ _ h=>h) (GN f sp h),fun f ps h=>aj.env rfl (fun _ _ h=>h) (Dg f ps h)⟩ (by kernel_rfl) (fn:=Tryz.f85) (c:=(ag Tryz.f85)) (by kernel_rfl) (by kernel_rfl) tO QL (fun _ h=>Tr.ak h))
noncomputable def l5 (x:DI):Tr Bool:=
 .ite (al x.1 9) (
 let y0:=x.2.2.2
 let y1:=y0.1
 let y2:=((al y1.1 1)==true)
 .ite y2 (
 let y3:=y0.2.1
 let y4:=((al y3.1 1)==true)
 .ite y4 (
 let y5:=(al y1.2.1 y3.2.1)
 .ret y5) (
 .ret false)) (
 .ret false)) (
 .ite (al x.1 8) (
 let y6:=x.2.2.2
 let y7:=y6.1
 let y8:=((al y7.1 1)==true)
 .ite y8 (
 let y9:=y6.2.1
 let y10:=((al y9.1 1)==true)
 .ite y10 (
 let y11:=(al y7.2.1 y9.2.1)
 .ret y11) (
 .ret false)) (
 .ret false)) (
 .ite (al x.1 36) (
 let y12:=x.2.2.2
 let y13:=y12.1
 let y14:=((al y13.1 1)==true)
 .ite y14 (
 let y15:=y12.2.1
 let y16:=((al y15.1 1)==true)
 .ite y16 (
 let y17:=(al y13.2.1 y15.2.1)
 .ret y17) (
 .ret false)) (
 .ret false)) (
 .ret false)))
noncomputable def eV (x:DI):Bool:=(l5 x).val
def C3 (x:DI):Prop:=(l5 x).ok
noncomputable def rK:Spec:={er:=(.bp bB),cg:=.bool,n:=1,pre:=C3,f:=eV}
noncomputable def tg:FuncId→Option Spec
 | _=>none
theorem Er:∀ f sp,tg f=some sp→ah av f sp:=by
 intro f sp h
 unfold tg at h
 split at h
 ·cases h
section
variable (W:cB) (Q:Bool→Prop) (x:DI)
theorem N1:run (env tg (fun _=>none) false (fun _ _=>none)) (fun _ _ _=>none) (bz rK Q) W 100000 (a7 109 Tryz.f109 (ag Tryz.f109) (bg (.bp bB) x)) [] []=(l5 x).wp Q:=by kernel_rfl
end
theorem Th:ah av 109 rK:=ah.env rfl (fun _ _ h=>h) (aE (E:=(env tg (fun _=>none) false (fun _ _=>none))) (sp:=rK) (valid _ _ _ _) ⟨fun f sp h=>ah.env rfl (fun _ _ h=>h) (Er f sp h),fun f ps h=>nomatch h⟩ (fn:=Tryz.f109) (c:=(ag Tryz.f109)) (by kernel_rfl) (by kernel_rfl) l5 N1 (fun _ h=>Tr.ak h))
noncomputable def tM (x:br):Tr CB:=
 let y0:DI:=x.1.1
 .aa (C3 y0)<|
 .ite (eV y0) (
 .aa (bm 0)<|
 .aa (bm 0)<|
 let y1:=x.2.1
 let y2:Nat:=y1.length
 .aa ((y2:Nat)=y2)<|
 let y3:=x.1.2
 let y4:=y3.1
 let y5:=y3.2.2
 let y6:bl:=(y0,(y4,((),y5)))
 .aa (y6=x.1)<|
 .ret (y1,((aN 0),(aN 0)))) (
 let y7:=x.2.1
 let y8:Nat:=y7.length
 .aa ((y8:Nat)=y8)<|
 let y9:=x.1.2
 let y10:=y9.1
 let y11:=y9.2.2
 let y12:bl:=(y0,(y10,((),y11)))
 let y13:=y0.2.2.2
 let y14:=y11.2
 let y15:m0:=(y12,(y7,(y13.1,(y14.1,y10))))
 .aa (iC y15)<|
 let y16:=(fe y15).1
 let y17:Nat:=y16.length
 .aa ((y17:Nat)=y17)<|
 let y18:m0:=(y12,(y16,(y13.2.1,(y14.2.1,y10))))
 .aa (iC y18)<|
 let y19:=(fe y18).1
 let y20:Nat:=y19.length
 .aa ((y20:Nat)=y20)<|
 .aa (y12=x.1)<|
 .ret (y19,((fe y15).2,(fe y18).2)))
noncomputable def B0 (x:br):CB:=(tM x).val
def Fc (x:br):Prop:=(tM x).ok
noncomputable def lh:aG:={t:=51,lf:=2,te:=38,ce:=aR,st:=(.st bB (.st (.int .i64) (.st .bx (.st (.int .u64) (.st aq (.st aq (.st aq (.bp aq)))))))),arg:=.unit,cg:=(.st aq (.bp aq)),n:=2,pos:=0,box:=false,pre:=Fc,f:=fun x=>(B0 x).1,g:=fun x=>(B0 x).2}
noncomputable def yg:FuncId→Option Spec
 | 11=>some dA
 | 109=>some rK
 | _=>none
theorem GK:∀ f sp,yg f=some sp→ah av f sp:=by
 intro f sp h
 unfold yg at h
 split at h
 ·cases h;exact iR
 ·cases h;exact Th
 ·cases h
noncomputable def r3:FuncId→Option aG
 | 81=>some fb
 | _=>none
theorem De:∀ f ps,r3 f=some ps→aj av f ps:=by
 intro f ps h
 unfold r3 at h
 split at h
 ·cases h;exact jU
 ·cases h
theorem QI (W:cB) (Q:CB→Prop) (x:br):run (env yg r3 true (fun _ _=>none)) (fun _ _ _=>none) (cQ lh x.1 Q) W 100000 (bC 88 Tryz.f88 (ag Tryz.f88) (lh.dh x.2.2)) [] (H0 lh x.1 x.2.1)=(tM x).wp Q:=by kernel_rfl
theorem JF:aj av 88 lh:=aj.env rfl (fun _ _ h=>h) (aw (E:=(env yg r3 true (fun _ _=>none))) (ps:=lh) (valid _ _ _ _) ⟨fun f sp h=>ah.env rfl (fun _ _ h=>h) (GK f sp h),fun f ps h=>aj.env rfl (fun _ _ h=>h) (De f ps h)⟩ (by kernel_rfl) (fn:=Tryz.f88) (c:=(ag Tryz.f88)) (by kernel_rfl) (by kernel_rfl) tM QI (fun _ h=>Tr.ak h))
noncomputable def tR (x:K0):Tr bu:=
 let y0:an:=x.2.1
 let y1:Nat:=y0.length
 .aa ((y1:Nat)=y1)<|
 let y2:dU:=x.1.2
 let y3:bl:=(x.1.1,(y2.1,((),y2.2.2)))
 let y4:dX:=(y3,(y0,()))
 .aa (Fc y4)<|
 let y5:an:=(B0 y4).1
 let y6:Nat:=y5.length
 .aa ((y6:Nat)=y6)<|
 let y7:(ao×aD):=x.2.2
 let y8:cW:=(B0 y4).2
 let y9:UZ:=(y3,(y5,(y7.1,(y8.1,(y8.2,y7.2)))))
 .aa (Jm y9)<|
 let y10:an:=(LM y9).1
 let y11:Nat:=y10.length
 .aa ((y11:Nat)=y11)<|
 .aa (y3=x.1)<|
 .ret (y10,())
noncomputable def HU (x:K0):bu:=(tR x).val
def AO (x:K0):Prop:=(tR x).ok
noncomputable def kq:aG:={t:=51,lf:=2,te:=38,ce:=aR,st:=(.st bB (.st (.int .i64) (.st .bx (.st (.int .u64) (.st aq (.st aq (.st aq (.bp aq)))))))),arg:=(.st (.arr 3 (.int .u8)) (.bp aq)),cg:=.unit,n:=0,pos:=0,box:=false,pre:=AO,f:=fun x=>(HU x).1,g:=fun x=>(HU x).2}
noncomputable def ym:FuncId→Option Spec
 | _=>none
theorem GQ:∀ f sp,ym f=some sp→ah av f sp:=by
 intro f sp h
 unfold ym at h
 split at h
 ·cases h
noncomputable def r8:FuncId→Option aG
 | 85=>some ng
 | 88=>some lh
 | _=>none
theorem Dj:∀ f ps,r8 f=some ps→aj av f ps:=by
 intro f ps h
 unfold r8 at h
 split at h
 ·cases h;exact M5
 ·cases h;exact JF
 ·cases h
theorem QO (W:cB) (Q:bu→Prop) (x:K0):run (env ym r8 true (fun _ _=>none)) (fun _ _ _=>none) (cQ kq x.1 Q) W 100000 (bC 82 Tryz.f82 (ag Tryz.f82) (kq.dh x.2.2)) [] (H0 kq x.1 x.2.1)=(tR x).wp Q:=by kernel_rfl
theorem Fj:aj av 82 kq:=aj.env rfl (fun _ _ h=>h) (aw (E:=(env ym r8 true (fun _ _=>none))) (ps:=kq) (valid _ _ _ _) ⟨fun f sp h=>ah.env rfl (fun _ _ h=>h) (GQ f sp h),fun f ps h=>aj.env rfl (fun _ _ h=>h) (Dj f ps h)⟩ (by kernel_rfl) (fn:=Tryz.f82) (c:=(ag Tryz.f82)) (by kernel_rfl) (by kernel_rfl) tR QO (fun _ h=>Tr.ak h))
noncomputable def uD (x:br):Tr bu:=
 .aa (bm 0)<|
 let y0:an:=x.2.1
 let y1:Nat:=y0.length
 .aa ((y1:Nat)=y1)<|
 let y2:dU:=x.1.2
 let y3:bl:=(x.1.1,(y2.1,((),y2.2.2)))
 let y4:K2:=(y3,(y0,([2,4,6],(aN 0))))
 .aa (AO y4)<|
 let y5:an:=(HU y4).1
 let y6:Nat:=y5.length
 .aa ((y6:Nat)=y6)<|
 .aa (y3=x.1)<|
 .ret (y5,())
noncomputable def Ps (x:br):bu:=(uD x).val
def MX (x:br):Prop:=(uD x).ok
noncomputable def pX:aG:={t:=51,lf:=2,te:=38,ce:=aR,st:=(.st bB (.st (.int .i64) (.st .bx (.st (.int .u64) (.st aq (.st aq (.st aq (.bp aq)))))))),arg:=.unit,cg:=.unit,n:=0,pos:=0,box:=false,pre:=MX,f:=fun x=>(Ps x).1,g:=fun x=>(Ps x).2}
noncomputable def yV:FuncId→Option Spec
 | 11=>some dA
 | _=>none
theorem Hp:∀ f sp,yV f=some sp→ah av f sp:=by
 intro f sp h
 unfold yV at h
 split at h
 ·cases h;exact iR
 ·cases h
noncomputable def sI:FuncId→Option aG
 | 82=>some kq
 | _=>none
theorem DN:∀ f ps,sI f=some ps→aj av f ps:=by
 intro f ps h
 unfold sI at h
 split at h
 ·cases h;exact Fj
 ·cases h
theorem Rm (W:cB) (Q:bu→Prop) (x:br):run (env yV sI true (fun _ _=>none)) (fun _ _ _=>none) (cQ pX x.1 Q) W 100000 (bC 34 Tryz.f34 (ag Tryz.f34) (pX.dh x.2.2)) [] (H0 pX x.1 x.2.1)=(uD x).wp Q:=by kernel_rfl
theorem SS:aj av 34 pX:=aj.env rfl (fun _ _ h=>h) (aw (E:=(env yV sI true (fun _ _=>none))) (ps:=pX) (valid _ _ _ _) ⟨fun f sp h=>ah.env rfl (fun _ _ h=>h) (Hp f sp h),fun f ps h=>aj.env rfl (fun _ _ h=>h) (DN f ps h)⟩ (by kernel_rfl) (fn:=Tryz.f34) (c:=(ag Tryz.f34)) (by kernel_rfl) (by kernel_rfl) uD Rm (fun _ h=>Tr.ak h))
noncomputable def uC (x:br):Tr bu:=
 .aa (dL 16)<|
 let y0:an:=x.2.1
 let y1:Nat:=y0.length
 .aa ((y1:Nat)=y1)<|
 let y2:dU:=x.1.2
 let y3:bl:=(x.1.1,(y2.1,((),y2.2.2)))
 let y4:K2:=(y3,(y0,([2,4,6],(ff 16))))
 .aa (AO y4)<|
 let y5:an:=(HU y4).1
 let y6:Nat:=y5.length
 .aa ((y6:Nat)=y6)<|
 .aa (y3=x.1)<|
 .ret (y5,())
noncomputable def Pq (x:br):bu:=(uC x).val
def MW (x:br):Prop:=(uC x).ok
noncomputable def pW:aG:={t:=51,lf:=2,te:=38,ce:=aR,st:=(.st bB (.st (.int .i64) (.st .bx (.st (.int .u64) (.st aq (.st aq (.st aq (.bp aq)))))))),arg:=.unit,cg:=.unit,n:=0,pos:=0,box:=false,pre:=MW,f:=fun x=>(Pq x).1,g:=fun x=>(Pq x).2}
noncomputable def yU:FuncId→Option Spec
 | 20=>some fp
 | _=>none
theorem Ho:∀ f sp,yU f=some sp→ah av f sp:=by
 intro f sp h
 unfold yU at h
 split at h
 ·cases h;exact nR
 ·cases h
noncomputable def sH:FuncId→Option aG
 | 82=>some kq
 | _=>none
theorem DM:∀ f ps,sH f=some ps→aj av f ps:=by
 intro f ps h
 unfold sH at h
 split at h
 ·cases h;exact Fj
 ·cases h
theorem Rl (W:cB) (Q:bu→Prop) (x:br):run (env yU sH true (fun _ _=>none)) (fun _ _ _=>none) (cQ pW x.1 Q) W 100000 (bC 35 Tryz.f35 (ag Tryz.f35) (pW.dh x.2.2)) [] (H0 pW x.1 x.2.1)=(uC x).wp Q:=by kernel_rfl
theorem SR:aj av 35 pW:=aj.env rfl (fun _ _ h=>h) (aw (E:=(env yU sH true (fun _ _=>none))) (ps:=pW) (valid _ _ _ _) ⟨fun f sp h=>ah.env rfl (fun _ _ h=>h) (Ho f sp h),fun f ps h=>aj.env rfl (fun _ _ h=>h) (DM f ps h)⟩ (by kernel_rfl) (fn:=Tryz.f35) (c:=(ag Tryz.f35)) (by kernel_rfl) (by kernel_rfl) uC Rl (fun _ h=>Tr.ak h))
noncomputable def uB (x:br):Tr bu:=
 .aa (bm 0)<|
 let y0:an:=x.2.1
 let y1:Nat:=y0.length
 .aa ((y1:Nat)=y1)<|
 let y2:dU:=x.1.2
 let y3:bl:=(x.1.1,(y2.1,((),y2.2.2)))
 let y4:K2:=(y3,(y0,([3,5,7],(aN 0))))
 .aa (AO y4)<|
 let y5:an:=(HU y4).1
 let y6:Nat:=y5.length
 .aa ((y6:Nat)=y6)<|
 .aa (y3=x.1)<|
 .ret (y5,())
noncomputable def LS (x:br):bu:=(uB x).val
def Jt (x:br):Prop:=(uB x).ok
noncomputable def pV:aG:={t:=51,lf:=2,te:=38,ce:=aR,st:=(.st bB (.st (.int .i64) (.st .bx (.st (.int .u64) (.st aq (.st aq (.st aq (.bp aq)))))))),arg:=.unit,cg:=.unit,n:=0,pos:=0,box:=false,pre:=Jt,f:=fun x=>(LS x).1,g:=fun x=>(LS x).2}
noncomputable def yT:FuncId→Option Spec
 | 11=>some dA
 | _=>none
theorem Hn:∀ f sp,yT f=some sp→ah av f sp:=by
 intro f sp h
 unfold yT at h
 split at h
 ·cases h;exact iR
 ·cases h
noncomputable def sG:FuncId→Option aG
 | 82=>some kq
 | _=>none
theorem DL:∀ f ps,sG f=some ps→aj av f ps:=by
 intro f ps h
 unfold sG at h
 split at h
 ·cases h;exact Fj
 ·cases h
theorem Rk (W:cB) (Q:bu→Prop) (x:br):run (env yT sG true (fun _ _=>none)) (fun _ _ _=>none) (cQ pV x.1 Q) W 100000 (bC 36 Tryz.f36 (ag Tryz.f36) (pV.dh x.2.2)) [] (H0 pV x.1 x.2.1)=(uB x).wp Q:=by kernel_rfl
theorem SQ:aj av 36 pV:=aj.env rfl (fun _ _ h=>h) (aw (E:=(env yT sG true (fun _ _=>none))) (ps:=pV) (valid _ _ _ _) ⟨fun f sp h=>ah.env rfl (fun _ _ h=>h) (Hn f sp h),fun f ps h=>aj.env rfl (fun _ _ h=>h) (DL f ps h)⟩ (by kernel_rfl) (fn:=Tryz.f36) (c:=(ag Tryz.f36)) (by kernel_rfl) (by kernel_rfl) uB Rk (fun _ h=>Tr.ak h))
noncomputable def uA (x:br):Tr bu:=
 .aa (dL 16)<|
 let y0:an:=x.2.1
 let y1:Nat:=y0.length
 .aa ((y1:Nat)=y1)<|
 let y2:dU:=x.1.2
 let y3:bl:=(x.1.1,(y2.1,((),y2.2.2)))
 let y4:K2:=(y3,(y0,([3,5,7],(ff 16))))
 .aa (AO y4)<|
 let y5:an:=(HU y4).1
 let y6:Nat:=y5.length
 .aa ((y6:Nat)=y6)<|
 .aa (y3=x.1)<|
 .ret (y5,())
noncomputable def Pp (x:br):bu:=(uA x).val
def MV (x:br):Prop:=(uA x).ok
noncomputable def pU:aG:={t:=51,lf:=2,te:=38,ce:=aR,st:=(.st bB (.st (.int .i64) (.st .bx (.st (.int .u64) (.st aq (.st aq (.st aq (.bp aq)))))))),arg:=.unit,cg:=.unit,n:=0,pos:=0,box:=false,pre:=MV,f:=fun x=>(Pp x).1,g:=fun x=>(Pp x).2}
noncomputable def yS:FuncId→Option Spec
 | 20=>some fp
 | _=>none
theorem Hm:∀ f sp,yS f=some sp→ah av f sp:=by
 intro f sp h
 unfold yS at h
 split at h
 ·cases h;exact nR
 ·cases h
noncomputable def sF:FuncId→Option aG
 | 82=>some kq
 | _=>none
theorem DK:∀ f ps,sF f=some ps→aj av f ps:=by
 intro f ps h
 unfold sF at h
 split at h
 ·cases h;exact Fj
 ·cases h
theorem Rj (W:cB) (Q:bu→Prop) (x:br):run (env yS sF true (fun _ _=>none)) (fun _ _ _=>none) (cQ pU x.1 Q) W 100000 (bC 37 Tryz.f37 (ag Tryz.f37) (pU.dh x.2.2)) [] (H0 pU x.1 x.2.1)=(uA x).wp Q:=by kernel_rfl
theorem SP:aj av 37 pU:=aj.env rfl (fun _ _ h=>h) (aw (E:=(env yS sF true (fun _ _=>none))) (ps:=pU) (valid _ _ _ _) ⟨fun f sp h=>ah.env rfl (fun _ _ h=>h) (Hm f sp h),fun f ps h=>aj.env rfl (fun _ _ h=>h) (DK f ps h)⟩ (by kernel_rfl) (fn:=Tryz.f37) (c:=(ag Tryz.f37)) (by kernel_rfl) (by kernel_rfl) uA Rj (fun _ h=>Tr.ak h))
noncomputable def tQ (x:Al):Tr bu:=
 let y0:an:=x.2.1
 let y1:Nat:=y0.length
 .aa ((y1:Nat)=y1)<|
 let y2:DI:=x.1.1
 let y3:dU:=x.1.2
 let y4:Int:=y3.1
 let y5:bl:=(y2,(y4,((),y3.2.2)))
 let y6:dX:=(y5,(y0,()))
 .aa (Fc y6)<|
 .aa ((0:Nat) < 2)<|
 .aa ((1:Nat) < 2)<|
 let y7:an:=(B0 y6).1
 let y8:Nat:=y7.length
 .aa ((y8:Nat)=y8)<|
 let y9:cW:=(B0 y6).2
 let y10:gg:=(y5,(y7,(x.2.2,(y4,[y9.1,y9.2]))))
 .aa (bK y10)<|
 .ite (dY y2.1 11) (
 let y11:=(ba y10).1
 let y12:Nat:=y11.length
 .aa ((y12:Nat)=y12)<|
 let y13:=(ba y10).2
 let y14:fo:=(y5,(y11,y13))
 .aa (iD y14)<|
 .aa (bm 0)<|
 .aa (bm 0)<|
 let y15:=(iU y14).1
 let y16:Nat:=y15.length
 .aa ((y16:Nat)=y16)<|
 let y17:cW:=((aN 0),(aN 0))
 let y18:qV:=(y5,(y15,y17))
 .aa (lk y18)<|
 let y19:=(nZ y18).1
 let y20:Nat:=y19.length
 .aa ((y20:Nat)=y20)<|
 let y21:fo:=(y5,(y19,y13))
 .aa (mP y21)<|
 let y22:=(vr y21).1
 let y23:Nat:=y22.length
 .aa ((y23:Nat)=y23)<|
 .aa (y5=x.1)<|
 .ret (y22,())) (
 .aa (bm 0)<|
 .aa (bm 0)<|
 let y24:=(ba y10).1
 let y25:Nat:=y24.length
 .aa ((y25:Nat)=y25)<|
 let y26:cW:=((aN 0),(aN 0))
 let y27:qV:=(y5,(y24,y26))
 .aa (lk y27)<|
 let y28:=(nZ y27).1
 let y29:Nat:=y28.length
 .aa ((y29:Nat)=y29)<|
 let y30:=(ba y10).2
 let y31:fo:=(y5,(y28,y30))
 .aa (mP y31)<|
 let y32:=(vr y31).1
 let y33:Nat:=y32.length
 .aa ((y33:Nat)=y33)<|
 .aa (y5=x.1)<|
 .ret (y32,()))
noncomputable def Kc (x:Al):bu:=(tQ x).val
def Ff (x:Al):Prop:=(tQ x).ok
noncomputable def lj:aG:={t:=51,lf:=2,te:=38,ce:=aR,st:=(.st bB (.st (.int .i64) (.st .bx (.st (.int .u64) (.st aq (.st aq (.st aq (.bp aq)))))))),arg:=(.bp (.int .u8)),cg:=.unit,n:=0,pos:=0,box:=false,pre:=Ff,f:=fun x=>(Kc x).1,g:=fun x=>(Kc x).2}
noncomputable def yl:FuncId→Option Spec
 | 11=>some dA
 | _=>none
theorem GP:∀ f sp,yl f=some sp→ah av f sp:=by
 intro f sp h
 unfold yl at h
 split at h
 ·cases h;exact iR
 ·cases h
noncomputable def r7:FuncId→Option aG
 | 30=>some dq
 | 80=>some ft
 | 88=>some lh
 | 89=>some jA
 | 90=>some iP
 | _=>none
theorem Di:∀ f ps,r7 f=some ps→aj av f ps:=by
 intro f ps h
 unfold r7 at h
 split at h
 ·cases h;exact fJ
 ·cases h;exact kL
 ·cases h;exact JF
 ·cases h;exact AS
 ·cases h;exact wF
 ·cases h
theorem QN (W:cB) (Q:bu→Prop) (x:Al):run (env yl r7 true (fun _ _=>none)) (fun _ _ _=>none) (cQ lj x.1 Q) W 100000 (bC 83 Tryz.f83 (ag Tryz.f83) (lj.dh x.2.2)) [] (H0 lj x.1 x.2.1)=(tQ x).wp Q:=by kernel_rfl
theorem JG:aj av 83 lj:=aj.env rfl (fun _ _ h=>h) (aw (E:=(env yl r7 true (fun _ _=>none))) (ps:=lj) (valid _ _ _ _) ⟨fun f sp h=>ah.env rfl (fun _ _ h=>h) (GP f sp h),fun f ps h=>aj.env rfl (fun _ _ h=>h) (Di f ps h)⟩ (by kernel_rfl) (fn:=Tryz.f83) (c:=(ag Tryz.f83)) (by kernel_rfl) (by kernel_rfl) tQ QN (fun _ h=>Tr.ak h))
noncomputable def uz (x:br):Tr bu:=
 let y0:an:=x.2.1
 let y1:Nat:=y0.length
 .aa ((y1:Nat)=y1)<|
 let y2:dU:=x.1.2
 let y3:bl:=(x.1.1,(y2.1,((),y2.2.2)))
 let y4:An:=(y3,(y0,8))
 .aa (Ff y4)<|
 let y5:an:=(Kc y4).1
 let y6:Nat:=y5.length
 .aa ((y6:Nat)=y6)<|
 .aa (y3=x.1)<|
 .ret (y5,())
noncomputable def LR (x:br):bu:=(uz x).val
def Js (x:br):Prop:=(uz x).ok
noncomputable def pT:aG:={t:=51,lf:=2,te:=38,ce:=aR,st:=(.st bB (.st (.int .i64) (.st .bx (.st (.int .u64) (.st aq (.st aq (.st aq (.bp aq)))))))),arg:=.unit,cg:=.unit,n:=0,pos:=0,box:=false,pre:=Js,f:=fun x=>(LR x).1,g:=fun x=>(LR x).2}
noncomputable def yR:FuncId→Option Spec
 | _=>none
theorem Hl:∀ f sp,yR f=some sp→ah av f sp:=by
 intro f sp h
 unfold yR at h
 split at h
 ·cases h
noncomputable def sE:FuncId→Option aG
 | 83=>some lj
 | _=>none
theorem DJ:∀ f ps,sE f=some ps→aj av f ps:=by
 intro f ps h
 unfold sE at h
 split at h
 ·cases h;exact JG
 ·cases h
theorem Ri (W:cB) (Q:bu→Prop) (x:br):run (env yR sE true (fun _ _=>none)) (fun _ _ _=>none) (cQ pT x.1 Q) W 100000 (bC 38 Tryz.f38 (ag Tryz.f38) (pT.dh x.2.2)) [] (H0 pT x.1 x.2.1)=(uz x).wp Q:=by kernel_rfl
theorem SO:aj av 38 pT:=aj.env rfl (fun _ _ h=>h) (aw (E:=(env yR sE true (fun _ _=>none))) (ps:=pT) (valid _ _ _ _) ⟨fun f sp h=>ah.env rfl (fun _ _ h=>h) (Hl f sp h),fun f ps h=>aj.env rfl (fun _ _ h=>h) (DJ f ps h)⟩ (by kernel_rfl) (fn:=Tryz.f38) (c:=(ag Tryz.f38)) (by kernel_rfl) (by kernel_rfl) uz Ri (fun _ h=>Tr.ak h))
noncomputable def uw (x:br):Tr bu:=
 let y0:an:=x.2.1
 let y1:Nat:=y0.length
 .aa ((y1:Nat)=y1)<|
 let y2:dU:=x.1.2
 let y3:bl:=(x.1.1,(y2.1,((),y2.2.2)))
 let y4:An:=(y3,(y0,9))
 .aa (Ff y4)<|
 let y5:an:=(Kc y4).1
 let y6:Nat:=y5.length
 .aa ((y6:Nat)=y6)<|
 .aa (y3=x.1)<|
 .ret (y5,())
noncomputable def Po (x:br):bu:=(uw x).val
def MU (x:br):Prop:=(uw x).ok
noncomputable def pS:aG:={t:=51,lf:=2,te:=38,ce:=aR,st:=(.st bB (.st (.int .i64) (.st .bx (.st (.int .u64) (.st aq (.st aq (.st aq (.bp aq)))))))),arg:=.unit,cg:=.unit,n:=0,pos:=0,box:=false,pre:=MU,f:=fun x=>(Po x).1,g:=fun x=>(Po x).2}
noncomputable def yQ:FuncId→Option Spec
 | _=>none
theorem Hk:∀ f sp,yQ f=some sp→ah av f sp:=by
 intro f sp h
 unfold yQ at h
 split at h
 ·cases h
noncomputable def sD:FuncId→Option aG
 | 83=>some lj
 | _=>none
theorem DH:∀ f ps,sD f=some ps→aj av f ps:=by
 intro f ps h
 unfold sD at h
 split at h
 ·cases h;exact JG
 ·cases h
theorem Rh (W:cB) (Q:bu→Prop) (x:br):run (env yQ sD true (fun _ _=>none)) (fun _ _ _=>none) (cQ pS x.1 Q) W 100000 (bC 39 Tryz.f39 (ag Tryz.f39) (pS.dh x.2.2)) [] (H0 pS x.1 x.2.1)=(uw x).wp Q:=by kernel_rfl
theorem SN:aj av 39 pS:=aj.env rfl (fun _ _ h=>h) (aw (E:=(env yQ sD true (fun _ _=>none))) (ps:=pS) (valid _ _ _ _) ⟨fun f sp h=>ah.env rfl (fun _ _ h=>h) (Hk f sp h),fun f ps h=>aj.env rfl (fun _ _ h=>h) (DH f ps h)⟩ (by kernel_rfl) (fn:=Tryz.f39) (c:=(ag Tryz.f39)) (by kernel_rfl) (by kernel_rfl) uw Rh (fun _ h=>Tr.ak h))
noncomputable def uv (x:br):Tr bu:=
 let y0:an:=x.2.1
 let y1:Nat:=y0.length
 .aa ((y1:Nat)=y1)<|
 let y2:dU:=x.1.2
 let y3:bl:=(x.1.1,(y2.1,((),y2.2.2)))
 let y4:An:=(y3,(y0,10))
 .aa (Ff y4)<|
 let y5:an:=(Kc y4).1
 let y6:Nat:=y5.length
 .aa ((y6:Nat)=y6)<|
 .aa (y3=x.1)<|
 .ret (y5,())
noncomputable def Pn (x:br):bu:=(uv x).val
def MT (x:br):Prop:=(uv x).ok
noncomputable def pR:aG:={t:=51,lf:=2,te:=38,ce:=aR,st:=(.st bB (.st (.int .i64) (.st .bx (.st (.int .u64) (.st aq (.st aq (.st aq (.bp aq)))))))),arg:=.unit,cg:=.unit,n:=0,pos:=0,box:=false,pre:=MT,f:=fun x=>(Pn x).1,g:=fun x=>(Pn x).2}
noncomputable def yP:FuncId→Option Spec
 | _=>none
theorem Hj:∀ f sp,yP f=some sp→ah av f sp:=by
 intro f sp h
 unfold yP at h
 split at h
 ·cases h
noncomputable def sC:FuncId→Option aG
 | 83=>some lj
 | _=>none
theorem DG:∀ f ps,sC f=some ps→aj av f ps:=by
 intro f ps h
 unfold sC at h
 split at h
 ·cases h;exact JG
 ·cases h
theorem Rg (W:cB) (Q:bu→Prop) (x:br):run (env yP sC true (fun _ _=>none)) (fun _ _ _=>none) (cQ pR x.1 Q) W 100000 (bC 40 Tryz.f40 (ag Tryz.f40) (pR.dh x.2.2)) [] (H0 pR x.1 x.2.1)=(uv x).wp Q:=by kernel_rfl
theorem SM:aj av 40 pR:=aj.env rfl (fun _ _ h=>h) (aw (E:=(env yP sC true (fun _ _=>none))) (ps:=pR) (valid _ _ _ _) ⟨fun f sp h=>ah.env rfl (fun _ _ h=>h) (Hj f sp h),fun f ps h=>aj.env rfl (fun _ _ h=>h) (DG f ps h)⟩ (by kernel_rfl) (fn:=Tryz.f40) (c:=(ag Tryz.f40)) (by kernel_rfl) (by kernel_rfl) uv Rg (fun _ h=>Tr.ak h))
noncomputable def tP (x:KZ):Tr bu:=
 let y0:an:=x.2.1
 let y1:Nat:=y0.length
 .aa ((y1:Nat)=y1)<|
 let y2:DI:=x.1.1
 let y3:dU:=x.1.2
 let y4:Int:=y3.1
 let y5:mG:=y3.2.2
 let y6:bl:=(y2,(y4,((),y5)))
 let y7:m0:=(y6,(y0,(y2.2.2.2.1,(y5.2.1,y4))))
 .aa (iC y7)<|
 .aa (bm 1)<|
 .aa ((0:Nat) < 2)<|
 .aa ((1:Nat) < 2)<|
 let y8:an:=(fe y7).1
 let y9:Nat:=y8.length
 .aa ((y9:Nat)=y9)<|
 let y10:bN:=x.2.2
 let y11:kT:=(y4,[(fe y7).2,(aN 1)])
 let y12:gg:=(y6,(y8,(y10.1,y11)))
 .aa (bK y12)<|
 .aa (bm 1)<|
 .aa ((0:Nat) < 2)<|
 .aa ((1:Nat) < 2)<|
 let y13:an:=(ba y12).1
 let y14:Nat:=y13.length
 .aa ((y14:Nat)=y14)<|
 let y15:gg:=(y6,(y13,(y10.2,y11)))
 .aa (bK y15)<|
 let y16:an:=(ba y15).1
 let y17:Nat:=y16.length
 .aa ((y17:Nat)=y17)<|
 let y18:aD:=(ba y12).2
 let y19:fo:=(y6,(y16,y18))
 .aa (iD y19)<|
 .aa ((0:Nat) < 1)<|
 let y20:an:=(iU y19).1
 let y21:Nat:=y20.length
 .aa ((y21:Nat)=y21)<|
 .aa (((0:Nat)+1:Nat)≤1)<|
 let y22:gj:=(y6,(y20,(1,(1,(19,[(ba y15).2])))))
 .aa (bI y22)<|
 let y23:an:=(cD y22).1
 let y24:Nat:=y23.length
 .aa ((y24:Nat)=y24)<|
 let y25:fo:=(y6,(y23,y18))
 .aa (mP y25)<|
 let y26:an:=(vr y25).1
 let y27:Nat:=y26.length
 .aa ((y27:Nat)=y27)<|
 .aa (y6=x.1)<|
 .ret (y26,())
noncomputable def LN (x:KZ):bu:=(tP x).val
def Jn (x:KZ):Prop:=(tP x).ok
noncomputable def nh:aG:={t:=51,lf:=2,te:=38,ce:=aR,st:=(.st bB (.st (.int .i64) (.st .bx (.st (.int .u64) (.st aq (.st aq (.st aq (.bp aq)))))))),arg:=(.st (.int .u8) (.bp (.int .u8))),cg:=.unit,n:=0,pos:=0,box:=false,pre:=Jn,f:=fun x=>(LN x).1,g:=fun x=>(LN x).2}
noncomputable def yk:FuncId→Option Spec
 | 11=>some dA
 | _=>none
theorem GO:∀ f sp,yk f=some sp→ah av f sp:=by
 intro f sp h
 unfold yk at h
 split at h
 ·cases h;exact iR
 ·cases h
noncomputable def r6:FuncId→Option aG
 | 17=>some fu
 | 30=>some dq
 | 80=>some ft
 | 81=>some fb
 | 90=>some iP
 | _=>none
theorem Dh:∀ f ps,r6 f=some ps→aj av f ps:=by
 intro f ps h
 unfold r6 at h
 split at h
 ·cases h;exact kM
 ·cases h;exact fJ
 ·cases h;exact kL
 ·cases h;exact jU
 ·cases h;exact wF
 ·cases h
theorem QM (W:cB) (Q:bu→Prop) (x:KZ):run (env yk r6 true (fun _ _=>none)) (fun _ _ _=>none) (cQ nh x.1 Q) W 100000 (bC 84 Tryz.f84 (ag Tryz.f84) (nh.dh x.2.2)) [] (H0 nh x.1 x.2.1)=(tP x).wp Q:=by kernel_rfl
theorem M6:aj av 84 nh:=aj.env rfl (fun _ _ h=>h) (aw (E:=(env yk r6 true (fun _ _=>none))) (ps:=nh) (valid _ _ _ _) ⟨fun f sp h=>ah.env rfl (fun _ _ h=>h) (GO f sp h),fun f ps h=>aj.env rfl (fun _ _ h=>h) (Dh f ps h)⟩ (by kernel_rfl) (fn:=Tryz.f84) (c:=(ag Tryz.f84)) (by kernel_rfl) (by kernel_rfl) tP QM (fun _ h=>Tr.ak h))
noncomputable def uu (x:br):Tr bu:=
 let y0:an:=x.2.1
 let y1:Nat:=y0.length
 .aa ((y1:Nat)=y1)<|
 let y2:dU:=x.1.2
 let y3:bl:=(x.1.1,(y2.1,((),y2.2.2)))
 let y4:Qs:=(y3,(y0,(2,6)))
 .aa (Jn y4)<|
 let y5:an:=(LN y4).1
 let y6:Nat:=y5.length
 .aa ((y6:Nat)=y6)<|
 .aa (y3=x.1)<|
 .ret (y5,())
noncomputable def Pm (x:br):bu:=(uu x).val
def MS (x:br):Prop:=(uu x).ok
noncomputable def pQ:aG:={t:=51,lf:=2,te:=38,ce:=aR,st:=(.st bB (.st (.int .i64) (.st .bx (.st (.int .u64) (.st aq (.st aq (.st aq (.bp aq)))))))),arg:=.unit,cg:=.unit,n:=0,pos:=0,box:=false,pre:=MS,f:=fun x=>(Pm x).1,g:=fun x=>(Pm x).2}
noncomputable def yO:FuncId→Option Spec
 | _=>none
theorem Hi:∀ f sp,yO f=some sp→ah av f sp:=by
 intro f sp h
 unfold yO at h
 split at h
 ·cases h
noncomputable def sB:FuncId→Option aG
 | 84=>some nh
 | _=>none
theorem DF:∀ f ps,sB f=some ps→aj av f ps:=by
 intro f ps h
 unfold sB at h
 split at h
 ·cases h;exact M6
 ·cases h
theorem Rf (W:cB) (Q:bu→Prop) (x:br):run (env yO sB true (fun _ _=>none)) (fun _ _ _=>none) (cQ pQ x.1 Q) W 100000 (bC 41 Tryz.f41 (ag Tryz.f41) (pQ.dh x.2.2)) [] (H0 pQ x.1 x.2.1)=(uu x).wp Q:=by kernel_rfl
theorem SL:aj av 41 pQ:=aj.env rfl (fun _ _ h=>h) (aw (E:=(env yO sB true (fun _ _=>none))) (ps:=pQ) (valid _ _ _ _) ⟨fun f sp h=>ah.env rfl (fun _ _ h=>h) (Hi f sp h),fun f ps h=>aj.env rfl (fun _ _ h=>h) (DF f ps h)⟩ (by kernel_rfl) (fn:=Tryz.f41) (c:=(ag Tryz.f41)) (by kernel_rfl) (by kernel_rfl) uu Rf (fun _ h=>Tr.ak h))
noncomputable def ur (x:br):Tr bu:=
 let y0:an:=x.2.1
 let y1:Nat:=y0.length
 .aa ((y1:Nat)=y1)<|
 let y2:dU:=x.1.2
 let y3:bl:=(x.1.1,(y2.1,((),y2.2.2)))
 let y4:Qs:=(y3,(y0,(3,7)))
 .aa (Jn y4)<|
 let y5:an:=(LN y4).1
 let y6:Nat:=y5.length
 .aa ((y6:Nat)=y6)<|
 .aa (y3=x.1)<|
 .ret (y5,())
noncomputable def Pk (x:br):bu:=(ur x).val
def MR (x:br):Prop:=(ur x).ok
noncomputable def pP:aG:={t:=51,lf:=2,te:=38,ce:=aR,st:=(.st bB (.st (.int .i64) (.st .bx (.st (.int .u64) (.st aq (.st aq (.st aq (.bp aq)))))))),arg:=.unit,cg:=.unit,n:=0,pos:=0,box:=false,pre:=MR,f:=fun x=>(Pk x).1,g:=fun x=>(Pk x).2}
noncomputable def yN:FuncId→Option Spec
 | _=>none
theorem Hh:∀ f sp,yN f=some sp→ah av f sp:=by
 intro f sp h
 unfold yN at h
 split at h
 ·cases h
noncomputable def sA:FuncId→Option aG
 | 84=>some nh
 | _=>none
theorem DE:∀ f ps,sA f=some ps→aj av f ps:=by
 intro f ps h
 unfold sA at h
 split at h
 ·cases h;exact M6
 ·cases h
theorem Re (W:cB) (Q:bu→Prop) (x:br):run (env yN sA true (fun _ _=>none)) (fun _ _ _=>none) (cQ pP x.1 Q) W 100000 (bC 42 Tryz.f42 (ag Tryz.f42) (pP.dh x.2.2)) [] (H0 pP x.1 x.2.1)=(ur x).wp Q:=by kernel_rfl
theorem SK:aj av 42 pP:=aj.env rfl (fun _ _ h=>h) (aw (E:=(env yN sA true (fun _ _=>none))) (ps:=pP) (valid _ _ _ _) ⟨fun f sp h=>ah.env rfl (fun _ _ h=>h) (Hh f sp h),fun f ps h=>aj.env rfl (fun _ _ h=>h) (DE f ps h)⟩ (by kernel_rfl) (fn:=Tryz.f42) (c:=(ag Tryz.f42)) (by kernel_rfl) (by kernel_rfl) ur Re (fun _ h=>Tr.ak h))
noncomputable def uq (x:br):Tr bu:=
 .aa (bm 0)<|
 let y0:an:=x.2.1
 let y1:Nat:=y0.length
 .aa ((y1:Nat)=y1)<|
 let y2:DI:=x.1.1
 let y3:dU:=x.1.2
 let y4:Int:=y3.1
 let y5:mG:=y3.2.2
 let y6:bl:=(y2,(y4,((),y5)))
 let y7:m0:=(y6,(y0,(y2.2.2.2.1,(y5.2.1,y4))))
 .aa (iC y7)<|
 .aa (bm 0)<|
 let y8:an:=(fe y7).1
 let y9:Nat:=y8.length
 .aa ((y9:Nat)=y9)<|
 let y10:UZ:=(y6,(y8,([3,5,7],((aN 0),((fe y7).2,(aN 0))))))
 .aa (Jm y10)<|
 let y11:an:=(LM y10).1
 let y12:Nat:=y11.length
 .aa ((y12:Nat)=y12)<|
 .aa (y6=x.1)<|
 .ret (y11,())
noncomputable def Pj (x:br):bu:=(uq x).val
def MQ (x:br):Prop:=(uq x).ok
noncomputable def pO:aG:={t:=51,lf:=2,te:=38,ce:=aR,st:=(.st bB (.st (.int .i64) (.st .bx (.st (.int .u64) (.st aq (.st aq (.st aq (.bp aq)))))))),arg:=.unit,cg:=.unit,n:=0,pos:=0,box:=false,pre:=MQ,f:=fun x=>(Pj x).1,g:=fun x=>(Pj x).2}
noncomputable def yM:FuncId→Option Spec
 | 11=>some dA
 | _=>none
theorem Hg:∀ f sp,yM f=some sp→ah av f sp:=by
 intro f sp h
 unfold yM at h
 split at h
 ·cases h;exact iR
 ·cases h
noncomputable def sy:FuncId→Option aG
 | 81=>some fb
 | 85=>some ng
 | _=>none
theorem DD:∀ f ps,sy f=some ps→aj av f ps:=by
 intro f ps h
 unfold sy at h
 split at h
 ·cases h;exact jU
 ·cases h;exact M5
 ·cases h
theorem Rd (W:cB) (Q:bu→Prop) (x:br):run (env yM sy true (fun _ _=>none)) (fun _ _ _=>none) (cQ pO x.1 Q) W 100000 (bC 43 Tryz.f43 (ag Tryz.f43) (pO.dh x.2.2)) [] (H0 pO x.1 x.2.1)=(uq x).wp Q:=by kernel_rfl
theorem SJ:aj av 43 pO:=aj.env rfl (fun _ _ h=>h) (aw (E:=(env yM sy true (fun _ _=>none))) (ps:=pO) (valid _ _ _ _) ⟨fun f sp h=>ah.env rfl (fun _ _ h=>h) (Hg f sp h),fun f ps h=>aj.env rfl (fun _ _ h=>h) (DD f ps h)⟩ (by kernel_rfl) (fn:=Tryz.f43) (c:=(ag Tryz.f43)) (by kernel_rfl) (by kernel_rfl) uq Rd (fun _ h=>Tr.ak h))
end Go.bM.RL
end
section
namespace Go.bM.RL
open Go.Proofs Go.bM
noncomputable def uo (x:br):Tr bu:=
 let y0:an:=x.2.1
 let y1:Nat:=y0.length
 .aa ((y1:Nat)=y1)<|
 let y2:DI:=x.1.1
 let y3:dU:=x.1.2
 let y4:Int:=y3.1
 let y5:mG:=y3.2.2
 let y6:bl:=(y2,(y4,((),y5)))
 let y7:m0:=(y6,(y0,(y2.2.2.2.1,(y5.2.1,y4))))
 .aa (iC y7)<|
 .aa (Fe y4)<|
 let y8:Int:=(O1 y4)
 .aa (bm y8)<|
 .aa ((0:Nat) < 2)<|
 .aa ((1:Nat) < 2)<|
 let y9:an:=(fe y7).1
 let y10:Nat:=y9.length
 .aa ((y10:Nat)=y10)<|
 let y11:gg:=(y6,(y9,(10,(y4,[(fe y7).2,(aN y8)]))))
 .aa (bK y11)<|
 let y12:an:=(ba y11).1
 let y13:Nat:=y12.length
 .aa ((y13:Nat)=y13)<|
 let y14:fo:=(y6,(y12,(ba y11).2))
 .aa (iD y14)<|
 let y15:an:=(iU y14).1
 let y16:Nat:=y15.length
 .aa ((y16:Nat)=y16)<|
 .aa (y6=x.1)<|
 .ret (y15,())
noncomputable def Ph (x:br):bu:=(uo x).val
def MP (x:br):Prop:=(uo x).ok
noncomputable def pN:aG:={t:=51,lf:=2,te:=38,ce:=aR,st:=(.st bB (.st (.int .i64) (.st .bx (.st (.int .u64) (.st aq (.st aq (.st aq (.bp aq)))))))),arg:=.unit,cg:=.unit,n:=0,pos:=0,box:=false,pre:=MP,f:=fun x=>(Ph x).1,g:=fun x=>(Ph x).2}
noncomputable def yL:FuncId→Option Spec
 | 11=>some dA
 | 86=>some uK
 | _=>none
theorem Hf:∀ f sp,yL f=some sp→ah av f sp:=by
 intro f sp h
 unfold yL at h
 split at h
 ·cases h;exact iR
 ·cases h;exact SX
 ·cases h
noncomputable def sx:FuncId→Option aG
 | 30=>some dq
 | 80=>some ft
 | 81=>some fb
 | _=>none
theorem DC:∀ f ps,sx f=some ps→aj av f ps:=by
 intro f ps h
 unfold sx at h
 split at h
 ·cases h;exact fJ
 ·cases h;exact kL
 ·cases h;exact jU
 ·cases h
theorem Rc (W:cB) (Q:bu→Prop) (x:br):run (env yL sx true (fun _ _=>none)) (fun _ _ _=>none) (cQ pN x.1 Q) W 100000 (bC 44 Tryz.f44 (ag Tryz.f44) (pN.dh x.2.2)) [] (H0 pN x.1 x.2.1)=(uo x).wp Q:=by kernel_rfl
theorem SI:aj av 44 pN:=aj.env rfl (fun _ _ h=>h) (aw (E:=(env yL sx true (fun _ _=>none))) (ps:=pN) (valid _ _ _ _) ⟨fun f sp h=>ah.env rfl (fun _ _ h=>h) (Hf f sp h),fun f ps h=>aj.env rfl (fun _ _ h=>h) (DC f ps h)⟩ (by kernel_rfl) (fn:=Tryz.f44) (c:=(ag Tryz.f44)) (by kernel_rfl) (by kernel_rfl) uo Rc (fun _ h=>Tr.ak h))
noncomputable def nw (x:Aq):Tr fD:=
 let y0:xt:=x.2.2
 let y1:cW:=y0.2
 .ite y1.2.1 (
 let y2:=y0.1
 let y3:=y1.1
 let y4:Int:=(ie .u64 y2.2.2 y3.2.2)
 .aa (bm y4)<|
 let y5:=x.2.1
 let y6:Nat:=y5.length
 .aa ((y6:Nat)=y6)<|
 let y7:=x.1.2
 let y8:bl:=(x.1.1,(y7.1,((),y7.2.2)))
 .aa (y8=x.1)<|
 .ret (y5,(aN y4))) (
 .aa ((0:Nat) < 2)<|
 .aa ((1:Nat) < 2)<|
 let y9:=x.2.1
 let y10:Nat:=y9.length
 .aa ((y10:Nat)=y10)<|
 .aa (((0:Nat)+2:Nat)≤2)<|
 let y11:=x.1.2
 let y12:bl:=(x.1.1,(y11.1,((),y11.2.2)))
 let y13:=y0.1
 let y14:=y1.1
 let y15:gg:=(y12,(y9,(3,(1,[y13,y14]))))
 .aa (bK y15)<|
 let y16:=(ba y15).1
 let y17:Nat:=y16.length
 .aa ((y17:Nat)=y17)<|
 .aa (y12=x.1)<|
 .ret (y16,(ba y15).2))
noncomputable def qK (x:Aq):fD:=(nw x).val
def xU (x:Aq):Prop:=(nw x).ok
noncomputable def mi:aG:={t:=51,lf:=2,te:=38,ce:=aR,st:=(.st bB (.st (.int .i64) (.st .bx (.st (.int .u64) (.st aq (.st aq (.st aq (.bp aq)))))))),arg:=(.st aq (.st aq (.bp (.ref aq)))),cg:=aq,n:=1,pos:=3,box:=true,pre:=xU,f:=fun x=>(qK x).1,g:=fun x=>(qK x).2}
noncomputable def sU:FuncId→Option Spec
 | 11=>some dA
 | _=>none
theorem D9:∀ f sp,sU f=some sp→ah av f sp:=by
 intro f sp h
 unfold sU at h
 split at h
 ·cases h;exact iR
 ·cases h
noncomputable def nM:FuncId→Option aG
 | 30=>some dq
 | _=>none
theorem AX:∀ f ps,nM f=some ps→aj av f ps:=by
 intro f ps h
 unfold nM at h
 split at h
 ·cases h;exact fJ
 ·cases h
theorem NK (W:cB) (Q:fD→Prop) (x:Aq):run (env sU nM true (fun _ _=>none)) (fun _ _ _=>none) (cQ mi x.1 Q) W 100000 (bC 152 Tryz.f152 (ag Tryz.f152) (mi.dh x.2.2)) [] (H0 mi x.1 x.2.1)=(nw x).wp Q:=by kernel_rfl
theorem OL:aj av 152 mi:=aj.env rfl (fun _ _ h=>h) (aw (E:=(env sU nM true (fun _ _=>none))) (ps:=mi) (valid _ _ _ _) ⟨fun f sp h=>ah.env rfl (fun _ _ h=>h) (D9 f sp h),fun f ps h=>aj.env rfl (fun _ _ h=>h) (AX f ps h)⟩ (by kernel_rfl) (fn:=Tryz.f152) (c:=(ag Tryz.f152)) (by kernel_rfl) (by kernel_rfl) nw NK (fun _ h=>Tr.ak h))
noncomputable def nv (x:jT):Tr fD:=
 .aa (bm 1)<|
 .aa ((0:Nat) < 2)<|
 .aa ((1:Nat) < 2)<|
 let y0:an:=x.2.1
 let y1:Nat:=y0.length
 .aa ((y1:Nat)=y1)<|
 let y2:dU:=x.1.2
 let y3:bl:=(x.1.1,(y2.1,((),y2.2.2)))
 let y4:gg:=(y3,(y0,(8,(1,[x.2.2,(aN 1)]))))
 .aa (bK y4)<|
 let y5:an:=(ba y4).1
 let y6:Nat:=y5.length
 .aa ((y6:Nat)=y6)<|
 .aa (y3=x.1)<|
 .ret (y5,(ba y4).2)
noncomputable def mT (x:jT):fD:=(nv x).val
def uY (x:jT):Prop:=(nv x).ok
noncomputable def mh:aG:={t:=51,lf:=2,te:=38,ce:=aR,st:=(.st bB (.st (.int .i64) (.st .bx (.st (.int .u64) (.st aq (.st aq (.st aq (.bp aq)))))))),arg:=(.bp aq),cg:=aq,n:=1,pos:=1,box:=true,pre:=uY,f:=fun x=>(mT x).1,g:=fun x=>(mT x).2}
noncomputable def sT:FuncId→Option Spec
 | 11=>some dA
 | _=>none
theorem D8:∀ f sp,sT f=some sp→ah av f sp:=by
 intro f sp h
 unfold sT at h
 split at h
 ·cases h;exact iR
 ·cases h
noncomputable def nL:FuncId→Option aG
 | 30=>some dq
 | _=>none
theorem AW:∀ f ps,nL f=some ps→aj av f ps:=by
 intro f ps h
 unfold nL at h
 split at h
 ·cases h;exact fJ
 ·cases h
theorem NJ (W:cB) (Q:fD→Prop) (x:jT):run (env sT nL true (fun _ _=>none)) (fun _ _ _=>none) (cQ mh x.1 Q) W 100000 (bC 153 Tryz.f153 (ag Tryz.f153) (mh.dh x.2.2)) [] (H0 mh x.1 x.2.1)=(nv x).wp Q:=by kernel_rfl
theorem OK:aj av 153 mh:=aj.env rfl (fun _ _ h=>h) (aw (E:=(env sT nL true (fun _ _=>none))) (ps:=mh) (valid _ _ _ _) ⟨fun f sp h=>ah.env rfl (fun _ _ h=>h) (D8 f sp h),fun f ps h=>aj.env rfl (fun _ _ h=>h) (AW f ps h)⟩ (by kernel_rfl) (fn:=Tryz.f153) (c:=(ag Tryz.f153)) (by kernel_rfl) (by kernel_rfl) nv NJ (fun _ h=>Tr.ak h))
noncomputable def nu (x:jT):Tr fD:=
 .aa ((0:Nat) < 1)<|
 let y0:an:=x.2.1
 let y1:Nat:=y0.length
 .aa ((y1:Nat)=y1)<|
 let y2:dU:=x.1.2
 let y3:Int:=y2.1
 let y4:bl:=(x.1.1,(y3,((),y2.2.2)))
 let y5:gg:=(y4,(y0,(23,(y3,[x.2.2]))))
 .aa (bK y5)<|
 let y6:an:=(ba y5).1
 let y7:Nat:=y6.length
 .aa ((y7:Nat)=y7)<|
 .aa (y4=x.1)<|
 .ret (y6,(ba y5).2)
noncomputable def kO (x:jT):fD:=(nu x).val
def p9 (x:jT):Prop:=(nu x).ok
noncomputable def mg:aG:={t:=51,lf:=2,te:=38,ce:=aR,st:=(.st bB (.st (.int .i64) (.st .bx (.st (.int .u64) (.st aq (.st aq (.st aq (.bp aq)))))))),arg:=(.bp aq),cg:=aq,n:=1,pos:=1,box:=true,pre:=p9,f:=fun x=>(kO x).1,g:=fun x=>(kO x).2}
noncomputable def sS:FuncId→Option Spec
 | _=>none
theorem D7:∀ f sp,sS f=some sp→ah av f sp:=by
 intro f sp h
 unfold sS at h
 split at h
 ·cases h
noncomputable def nK:FuncId→Option aG
 | 30=>some dq
 | _=>none
theorem AU:∀ f ps,nK f=some ps→aj av f ps:=by
 intro f ps h
 unfold nK at h
 split at h
 ·cases h;exact fJ
 ·cases h
theorem NI (W:cB) (Q:fD→Prop) (x:jT):run (env sS nK true (fun _ _=>none)) (fun _ _ _=>none) (cQ mg x.1 Q) W 100000 (bC 154 Tryz.f154 (ag Tryz.f154) (mg.dh x.2.2)) [] (H0 mg x.1 x.2.1)=(nu x).wp Q:=by kernel_rfl
theorem OJ:aj av 154 mg:=aj.env rfl (fun _ _ h=>h) (aw (E:=(env sS nK true (fun _ _=>none))) (ps:=mg) (valid _ _ _ _) ⟨fun f sp h=>ah.env rfl (fun _ _ h=>h) (D7 f sp h),fun f ps h=>aj.env rfl (fun _ _ h=>h) (AU f ps h)⟩ (by kernel_rfl) (fn:=Tryz.f154) (c:=(ag Tryz.f154)) (by kernel_rfl) (by kernel_rfl) nu NI (fun _ h=>Tr.ak h))
noncomputable def nB (x:Aq):Tr CB:=
 let y0:DI:=x.1.1
 let y1:Int:=y0.1
 .ite (al y1 16) (
 let y2:=x.1.2
 let y3:=y2.1
 let y4:Int:=(aO .u64 (gH .i64 8 y3))
 .aa (bm y4)<|
 let y5:=x.2.1
 let y6:Nat:=y5.length
 .aa ((y6:Nat)=y6)<|
 let y7:bl:=(y0,(y3,((),y2.2.2)))
 let y8:=x.2.2
 let y9:=y8.2
 let y10:=y9.2
 let y11:Iv:=(y7,(y5,((aN y4),(y10,y10))))
 .aa (xU y11)<|
 .aa ((0:Nat) < 2)<|
 .aa ((1:Nat) < 2)<|
 let y12:=(qK y11).1
 let y13:Nat:=y12.length
 .aa ((y13:Nat)=y13)<|
 let y14:=y8.1
 let y15:gg:=(y7,(y12,(12,(y3,[y14,(qK y11).2]))))
 .aa (bK y15)<|
 let y16:=(ba y15).1
 let y17:Nat:=y16.length
 .aa ((y17:Nat)=y17)<|
 let y18:fo:=(y7,(y16,(ba y15).2))
 .aa (uY y18)<|
 let y19:=(mT y18).1
 let y20:Nat:=y19.length
 .aa ((y20:Nat)=y20)<|
 let y21:=y9.1
 let y22:fo:=(y7,(y19,y21))
 .aa (p9 y22)<|
 .aa ((0:Nat) < 2)<|
 .aa ((1:Nat) < 2)<|
 let y23:=(kO y22).1
 let y24:Nat:=y23.length
 .aa ((y24:Nat)=y24)<|
 let y25:=(mT y18).2
 let y26:gg:=(y7,(y23,(10,(1,[(kO y22).2,y25]))))
 .aa (bK y26)<|
 let y27:=(ba y26).1
 let y28:Nat:=y27.length
 .aa ((y28:Nat)=y28)<|
 .aa (y7=x.1)<|
 .ret (y27,(y25,(ba y26).2))) (
 .ite (al y1 17) (
 .aa (bm 1)<|
 let y29:=x.2.1
 let y30:Nat:=y29.length
 .aa ((y30:Nat)=y30)<|
 let y31:=x.1.2
 let y32:=y31.1
 let y33:bl:=(y0,(y32,((),y31.2.2)))
 let y34:=x.2.2
 let y35:=y34.2
 let y36:=y35.2
 let y37:Iv:=(y33,(y29,(y36,((aN 1),y36))))
 .aa (xU y37)<|
 .aa ((0:Nat) < 2)<|
 .aa ((1:Nat) < 2)<|
 let y38:=(qK y37).1
 let y39:Nat:=y38.length
 .aa ((y39:Nat)=y39)<|
 let y40:=y34.1
 let y41:kT:=(y32,[y40,(qK y37).2])
 let y42:gg:=(y33,(y38,(12,y41)))
 .aa (bK y42)<|
 let y43:=(ba y42).1
 let y44:Nat:=y43.length
 .aa ((y44:Nat)=y44)<|
 let y45:fo:=(y33,(y43,(ba y42).2))
 .aa (uY y45)<|
 let y46:=(mT y45).1
 let y47:Nat:=y46.length
 .aa ((y47:Nat)=y47)<|
 let y48:fo:=(y33,(y46,y40))
 .aa (p9 y48)<|
 let y49:=(kO y48).1
 let y50:Nat:=y49.length
 .aa ((y50:Nat)=y50)<|
 .aa (y33=x.1)<|
 .ret (y49,((mT y45).2,(kO y48).2))) (
 .ite (al y1 18) (
 .aa (bm 1)<|
 let y51:=x.2.1
 let y52:Nat:=y51.length
 .aa ((y52:Nat)=y52)<|
 let y53:=x.1.2
 let y54:=y53.1
 let y55:bl:=(y0,(y54,((),y53.2.2)))
 let y56:=x.2.2
 let y57:=y56.2
 let y58:=y57.2
 let y59:Iv:=(y55,(y51,(y58,((aN 1),y58))))
 .aa (xU y59)<|
 .aa ((0:Nat) < 2)<|
 .aa ((1:Nat) < 2)<|
 let y60:=(qK y59).1
 let y61:Nat:=y60.length
 .aa ((y61:Nat)=y61)<|
 let y62:=y56.1
 let y63:kT:=(y54,[y62,(qK y59).2])
 let y64:gg:=(y55,(y60,(13,y63)))
 .aa (bK y64)<|
 let y65:=(ba y64).1
 let y66:Nat:=y65.length
 .aa ((y66:Nat)=y66)<|
 let y67:fo:=(y55,(y65,(ba y64).2))
 .aa (uY y67)<|
 .aa (bm 0)<|
 let y68:=(mT y67).1
 let y69:Nat:=y68.length
 .aa ((y69:Nat)=y69)<|
 .aa (y55=x.1)<|
 .ret (y68,((mT y67).2,(aN 0)))) (
 .ite (al y1 19) (
 let y70:=x.2.1
 let y71:Nat:=y70.length
 .aa ((y71:Nat)=y71)<|
 let y72:=x.1.2
 let y73:=y72.1
 let y74:bl:=(y0,(y73,((),y72.2.2)))
 let y75:=x.2.2
 let y76:=y75.2
 let y77:=y76.1
 let y78:fo:=(y74,(y70,y77))
 .aa (uY y78)<|
 let y79:=(mT y78).1
 let y80:Nat:=y79.length
 .aa ((y80:Nat)=y80)<|
 let y81:fo:=(y74,(y79,y77))
 .aa (p9 y81)<|
 .aa ((0:Nat) < 2)<|
 .aa ((1:Nat) < 2)<|
 let y82:=(kO y81).1
 let y83:Nat:=y82.length
 .aa ((y83:Nat)=y83)<|
 let y84:=(mT y78).2
 let y85:gg:=(y74,(y82,(10,(1,[(kO y81).2,y84]))))
 .aa (bK y85)<|
 let y86:=(ba y85).1
 let y87:Nat:=y86.length
 .aa ((y87:Nat)=y87)<|
 .aa (y74=x.1)<|
 .ret (y86,(y84,(ba y85).2))) (
 let y88:=x.2.1
 let y89:Nat:=y88.length
 .aa ((y89:Nat)=y89)<|
 let y90:=x.1.2
 let y91:=y90.1
 let y92:bl:=(y0,(y91,((),y90.2.2)))
 let y93:=x.2.2
 let y94:=y93.2
 let y95:=y94.1
 let y96:fo:=(y92,(y88,y95))
 .aa (p9 y96)<|
 .aa (bm 1)<|
 .aa ((0:Nat) < 2)<|
 .aa ((1:Nat) < 2)<|
 let y97:=(kO y96).1
 let y98:Nat:=y97.length
 .aa ((y98:Nat)=y98)<|
 let y99:gg:=(y92,(y97,(11,(y91,[y95,(aN 1)]))))
 .aa (bK y99)<|
 let y100:=(ba y99).1
 let y101:Nat:=y100.length
 .aa ((y101:Nat)=y101)<|
 let y102:fo:=(y92,(y100,(ba y99).2))
 .aa (p9 y102)<|
 .aa ((0:Nat) < 2)<|
 .aa ((1:Nat) < 2)<|
 let y103:=(kO y102).1
 let y104:Nat:=y103.length
 .aa ((y104:Nat)=y104)<|
 let y105:=(kO y96).2
 let y106:gg:=(y92,(y103,(10,(1,[y105,(kO y102).2]))))
 .aa (bK y106)<|
 let y107:=(ba y106).1
 let y108:Nat:=y107.length
 .aa ((y108:Nat)=y108)<|
 .aa (y92=x.1)<|
 .ret (y107,(y105,(ba y106).2))))))
noncomputable def kP (x:Aq):CB:=(nB x).val
def C4 (x:Aq):Prop:=(nB x).ok
noncomputable def mn:aG:={t:=51,lf:=2,te:=38,ce:=aR,st:=(.st bB (.st (.int .i64) (.st .bx (.st (.int .u64) (.st aq (.st aq (.st aq (.bp aq)))))))),arg:=(.st aq (.st aq (.bp aq))),cg:=(.st aq (.bp aq)),n:=2,pos:=0,box:=false,pre:=C4,f:=fun x=>(kP x).1,g:=fun x=>(kP x).2}
noncomputable def ti:FuncId→Option Spec
 | 11=>some dA
 | _=>none
theorem Et:∀ f sp,ti f=some sp→ah av f sp:=by
 intro f sp h
 unfold ti at h
 split at h
 ·cases h;exact iR
 ·cases h
noncomputable def nP:FuncId→Option aG
 | 30=>some dq
 | 152=>some mi
 | 153=>some mh
 | 154=>some mg
 | _=>none
theorem A0:∀ f ps,nP f=some ps→aj av f ps:=by
 intro f ps h
 unfold nP at h
 split at h
 ·cases h;exact fJ
 ·cases h;exact OL
 ·cases h;exact OK
 ·cases h;exact OJ
 ·cases h
theorem N3 (W:cB) (Q:CB→Prop) (x:Aq):run (env ti nP true (fun _ _=>none)) (fun _ _ _=>none) (cQ mn x.1 Q) W 100000 (bC 107 Tryz.f107 (ag Tryz.f107) (mn.dh x.2.2)) [] (H0 mn x.1 x.2.1)=(nB x).wp Q:=by kernel_rfl
theorem OO:aj av 107 mn:=aj.env rfl (fun _ _ h=>h) (aw (E:=(env ti nP true (fun _ _=>none))) (ps:=mn) (valid _ _ _ _) ⟨fun f sp h=>ah.env rfl (fun _ _ h=>h) (Et f sp h),fun f ps h=>aj.env rfl (fun _ _ h=>h) (A0 f ps h)⟩ (by kernel_rfl) (fn:=Tryz.f107) (c:=(ag Tryz.f107)) (by kernel_rfl) (by kernel_rfl) nB N3 (fun _ h=>Tr.ak h))
noncomputable def nA (x:Ap):Tr bu:=
 let y0:(Int×cW):=x.2.2
 let y1:Int:=y0.1
 .aa (dL y1)<|
 .aa ((0:Nat) < 3)<|
 .aa ((1:Nat) < 3)<|
 .aa ((2:Nat) < 3)<|
 let y2:an:=x.2.1
 let y3:Nat:=y2.length
 .aa ((y3:Nat)=y3)<|
 let y4:dU:=x.1.2
 let y5:bl:=(x.1.1,(y4.1,((),y4.2.2)))
 let y6:cW:=y0.2
 let y7:gj:=(y5,(y2,(26,(8,(y1,[y6.1,(ff y1),y6.2])))))
 .aa (bI y7)<|
 let y8:an:=(cD y7).1
 let y9:Nat:=y8.length
 .aa ((y9:Nat)=y9)<|
 .aa (y5=x.1)<|
 .ret (y8,())
noncomputable def gK (x:Ap):bu:=(nA x).val
def fR (x:Ap):Prop:=(nA x).ok
noncomputable def ml:aG:={t:=51,lf:=2,te:=38,ce:=aR,st:=(.st bB (.st (.int .i64) (.st .bx (.st (.int .u64) (.st aq (.st aq (.st aq (.bp aq)))))))),arg:=(.st (.int .i64) (.st aq (.bp (.ref aq)))),cg:=.unit,n:=0,pos:=2,box:=true,pre:=fR,f:=fun x=>(gK x).1,g:=fun x=>(gK x).2}
noncomputable def th:FuncId→Option Spec
 | 20=>some fp
 | _=>none
theorem Es:∀ f sp,th f=some sp→ah av f sp:=by
 intro f sp h
 unfold th at h
 split at h
 ·cases h;exact nR
 ·cases h
noncomputable def nO:FuncId→Option aG
 | 17=>some fu
 | _=>none
theorem AZ:∀ f ps,nO f=some ps→aj av f ps:=by
 intro f ps h
 unfold nO at h
 split at h
 ·cases h;exact kM
 ·cases h
theorem N2 (W:cB) (Q:bu→Prop) (x:Ap):run (env th nO true (fun _ _=>none)) (fun _ _ _=>none) (cQ ml x.1 Q) W 100000 (bC 108 Tryz.f108 (ag Tryz.f108) (ml.dh x.2.2)) [] (H0 ml x.1 x.2.1)=(nA x).wp Q:=by kernel_rfl
theorem ON:aj av 108 ml:=aj.env rfl (fun _ _ h=>h) (aw (E:=(env th nO true (fun _ _=>none))) (ps:=ml) (valid _ _ _ _) ⟨fun f sp h=>ah.env rfl (fun _ _ h=>h) (Es f sp h),fun f ps h=>aj.env rfl (fun _ _ h=>h) (AZ f ps h)⟩ (by kernel_rfl) (fn:=Tryz.f108) (c:=(ag Tryz.f108)) (by kernel_rfl) (by kernel_rfl) nA N2 (fun _ h=>Tr.ak h))
noncomputable def tN (x:Al):Tr bu:=
 let y0:an:=x.2.1
 let y1:Nat:=y0.length
 .aa ((y1:Nat)=y1)<|
 let y2:DI:=x.1.1
 let y3:dU:=x.1.2
 let y4:Int:=y3.1
 let y5:mG:=y3.2.2
 let y6:bl:=(y2,(y4,((),y5)))
 let y7:eo:=y2.2.2.2
 let y8:m0:=(y6,(y0,(y7.1,(y5.2.1,y4))))
 .aa (iC y8)<|
 let y9:Int:=(aO .u64 (gH .i64 8 y4))
 .aa ((y9:Int)≠0)<|
 let y10:DO:=y7.2.1
 let y11:Int:=(kx .u64 (aO .u64 y10.2.2.2.2.2.2.2) y9)
 .aa (bm y11)<|
 .ite (al y10.1 1) (
 .aa (dL 1)<|
 let y12:Int:=(ie .u64 y9 1)
 .aa (bm y12)<|
 .aa ((0:Nat) < 2)<|
 .aa ((1:Nat) < 2)<|
 let y13:=(fe y8).1
 let y14:Nat:=y13.length
 .aa ((y14:Nat)=y14)<|
 let y15:gg:=(y6,(y13,(8,(1,[(ff 1),(aN y12)]))))
 .aa (bK y15)<|
 .aa (bm 0)<|
 let y16:=(ba y15).2
 .ite (dm aq y16 (aN 0)) (
 .aa ((0:Nat) < 1)<|
 let y17:=(ba y15).1
 let y18:Nat:=y17.length
 .aa ((y18:Nat)=y18)<|
 let y19:=(fe y8).2
 let y20:vQ:=(1,(y4,[y19]))
 let y21:gg:=(y6,(y17,y20))
 .aa (bK y21)<|
 let y22:=(ba y21).1
 let y23:Nat:=y22.length
 .aa ((y23:Nat)=y23)<|
 let y24:fo:=(y6,(y22,(ba y21).2))
 .aa (iD y24)<|
 let y25:=(iU y24).1
 let y26:Nat:=y25.length
 .aa ((y26:Nat)=y26)<|
 .aa (y6=x.1)<|
 .ret (y25,())) (
 .aa ((0:Nat) < 2)<|
 .aa ((1:Nat) < 2)<|
 let y27:=(ba y15).1
 let y28:Nat:=y27.length
 .aa ((y28:Nat)=y28)<|
 let y29:=x.2.2
 let y30:=(fe y8).2
 let y31:gg:=(y6,(y27,(y29,(y4,[y30,y16]))))
 .aa (bK y31)<|
 let y32:=(ba y31).1
 let y33:Nat:=y32.length
 .aa ((y33:Nat)=y33)<|
 let y34:=(ba y31).2
 let y35:Iv:=(y6,(y32,(y30,(y34,y16))))
 .aa (C4 y35)<|
 let y36:=(kP y35).1
 let y37:Nat:=y36.length
 .aa ((y37:Nat)=y37)<|
 let y38:fo:=(y6,(y36,y34))
 .aa (iD y38)<|
 let y39:=((dY y29 14)==true)
 .ite y39 (
 let y40:=y16.1
 .ite y40 (
 let y41:=(iU y38).1
 let y42:Nat:=y41.length
 .aa ((y42:Nat)=y42)<|
 let y43:=(kP y35).2
 let y44:qV:=(y6,(y41,y43))
 .aa (lk y44)<|
 let y45:=(dY y29 15)
 .ite y45 (
 let y46:=(nZ y44).1
 let y47:Nat:=y46.length
 .aa ((y47:Nat)=y47)<|
 let y48:fo:=(y6,(y46,y34))
 .aa (mP y48)<|
 let y49:=(vr y48).1
 let y50:Nat:=y49.length
 .aa ((y50:Nat)=y50)<|
 .aa (y6=x.1)<|
 .ret (y49,())) (
 let y51:=(nZ y44).1
 let y52:Nat:=y51.length
 .aa ((y52:Nat)=y52)<|
 .aa (y6=x.1)<|
 let y53:xq:=(y51,())
 .ret y53)) (
 let y54:=(iU y38).1
 let y55:Nat:=y54.length
 .aa ((y55:Nat)=y55)<|
 let y56:=(kP y35).2
 let y57:gP:=(y6,(y54,(16,(y56.1,y16))))
 .aa (fR y57)<|
 let y58:=(gK y57).1
 let y59:Nat:=y58.length
 .aa ((y59:Nat)=y59)<|
 let y60:gP:=(y6,(y58,(19,(y56.2,y16))))
 .aa (fR y60)<|
 let y61:=(dY y29 15)
 .ite y61 (
 .aa ((0:Nat) < 1)<|
 let y62:=(gK y60).1
 let y63:Nat:=y62.length
 .aa ((y63:Nat)=y63)<|
 let y64:kT:=(y4,[y34])
 let y65:gg:=(y6,(y62,(22,y64)))
 .aa (bK y65)<|
 .aa ((0:Nat) < 1)<|
 let y66:=(ba y65).1
 let y67:Nat:=y66.length
 .aa ((y67:Nat)=y67)<|
 let y68:gg:=(y6,(y66,(23,y64)))
 .aa (bK y68)<|
 .aa ((0:Nat) < 1)<|
 let y69:=(ba y68).1
 let y70:Nat:=y69.length
 .aa ((y70:Nat)=y70)<|
 let y71:gg:=(y6,(y69,(24,y64)))
 .aa (bK y71)<|
 let y72:=(ba y71).1
 let y73:Nat:=y72.length
 .aa ((y73:Nat)=y73)<|
 let y74:gP:=(y6,(y72,(17,((ba y65).2,y16))))
 .aa (fR y74)<|
 let y75:=(gK y74).1
 let y76:Nat:=y75.length
 .aa ((y76:Nat)=y76)<|
 let y77:gP:=(y6,(y75,(18,((ba y68).2,y16))))
 .aa (fR y77)<|
 let y78:=(gK y77).1
 let y79:Nat:=y78.length
 .aa ((y79:Nat)=y79)<|
 let y80:gP:=(y6,(y78,(20,((ba y71).2,y16))))
 .aa (fR y80)<|
 let y81:=(gK y80).1
 let y82:Nat:=y81.length
 .aa ((y82:Nat)=y82)<|
 .aa (y6=x.1)<|
 .ret (y81,())) (
 let y83:=(gK y60).1
 let y84:Nat:=y83.length
 .aa ((y84:Nat)=y84)<|
 .aa (y6=x.1)<|
 let y85:xq:=(y83,())
 .ret y85))) (
 let y86:=y16.1
 .ite y86 (
 let y87:=(iU y38).1
 let y88:Nat:=y87.length
 .aa ((y88:Nat)=y88)<|
 let y89:=(kP y35).2
 let y90:qV:=(y6,(y87,y89))
 .aa (lk y90)<|
 let y91:=(nZ y90).1
 let y92:Nat:=y91.length
 .aa ((y92:Nat)=y92)<|
 .aa (y6=x.1)<|
 let y93:xq:=(y91,())
 .ret y93) (
 let y94:=(iU y38).1
 let y95:Nat:=y94.length
 .aa ((y95:Nat)=y95)<|
 let y96:=(kP y35).2
 let y97:gP:=(y6,(y94,(16,(y96.1,y16))))
 .aa (fR y97)<|
 let y98:=(gK y97).1
 let y99:Nat:=y98.length
 .aa ((y99:Nat)=y99)<|
 let y100:gP:=(y6,(y98,(19,(y96.2,y16))))
 .aa (fR y100)<|
 let y101:=(gK y100).1
 let y102:Nat:=y101.length
 .aa ((y102:Nat)=y102)<|
 .aa (y6=x.1)<|
 let y103:xq:=(y101,())
 .ret y103)))) (
 .aa (bm 0)<|
 let y104:=(aN y11)
 .ite (dm aq y104 (aN 0)) (
 .aa ((0:Nat) < 1)<|
 let y105:=(fe y8).1
 let y106:Nat:=y105.length
 .aa ((y106:Nat)=y106)<|
 let y107:=(fe y8).2
 let y108:vQ:=(1,(y4,[y107]))
 let y109:gg:=(y6,(y105,y108))
 .aa (bK y109)<|
 let y110:=(ba y109).1
 let y111:Nat:=y110.length
 .aa ((y111:Nat)=y111)<|
 let y112:fo:=(y6,(y110,(ba y109).2))
 .aa (iD y112)<|
 let y113:=(iU y112).1
 let y114:Nat:=y113.length
 .aa ((y114:Nat)=y114)<|
 .aa (y6=x.1)<|
 .ret (y113,())) (
 .aa ((0:Nat) < 2)<|
 .aa ((1:Nat) < 2)<|
 let y115:=(fe y8).1
 let y116:Nat:=y115.length
 .aa ((y116:Nat)=y116)<|
 let y117:=x.2.2
 let y118:=(fe y8).2
 let y119:gg:=(y6,(y115,(y117,(y4,[y118,y104]))))
 .aa (bK y119)<|
 let y120:=(ba y119).1
 let y121:Nat:=y120.length
 .aa ((y121:Nat)=y121)<|
 let y122:=(ba y119).2
 let y123:Iv:=(y6,(y120,(y118,(y122,y104))))
 .aa (C4 y123)<|
 let y124:=(kP y123).1
 let y125:Nat:=y124.length
 .aa ((y125:Nat)=y125)<|
 let y126:fo:=(y6,(y124,y122))
 .aa (iD y126)<|
 let y127:=((dY y117 14)==true)
 .ite y127 (
 let y128:=y104.1
 .ite y128 (
 let y129:=(iU y126).1
 let y130:Nat:=y129.length
 .aa ((y130:Nat)=y130)<|
 let y131:=(kP y123).2
 let y132:qV:=(y6,(y129,y131))
 .aa (lk y132)<|
 let y133:=(dY y117 15)
 .ite y133 (
 let y134:=(nZ y132).1
 let y135:Nat:=y134.length
 .aa ((y135:Nat)=y135)<|
 let y136:fo:=(y6,(y134,y122))
 .aa (mP y136)<|
 let y137:=(vr y136).1
 let y138:Nat:=y137.length
 .aa ((y138:Nat)=y138)<|
 .aa (y6=x.1)<|
 .ret (y137,())) (
 let y139:=(nZ y132).1
 let y140:Nat:=y139.length
 .aa ((y140:Nat)=y140)<|
 .aa (y6=x.1)<|
 let y141:xq:=(y139,())
 .ret y141)) (
 let y142:=(iU y126).1
 let y143:Nat:=y142.length
 .aa ((y143:Nat)=y143)<|
 let y144:=(kP y123).2
 let y145:gP:=(y6,(y142,(16,(y144.1,y104))))
 .aa (fR y145)<|
 let y146:=(gK y145).1
 let y147:Nat:=y146.length
 .aa ((y147:Nat)=y147)<|
 let y148:gP:=(y6,(y146,(19,(y144.2,y104))))
 .aa (fR y148)<|
 let y149:=(dY y117 15)
 .ite y149 (
 .aa ((0:Nat) < 1)<|
 let y150:=(gK y148).1
 let y151:Nat:=y150.length
 .aa ((y151:Nat)=y151)<|
 let y152:kT:=(y4,[y122])
 let y153:gg:=(y6,(y150,(22,y152)))
 .aa (bK y153)<|
 .aa ((0:Nat) < 1)<|
 let y154:=(ba y153).1
 let y155:Nat:=y154.length
 .aa ((y155:Nat)=y155)<|
 let y156:gg:=(y6,(y154,(23,y152)))
 .aa (bK y156)<|
 .aa ((0:Nat) < 1)<|
 let y157:=(ba y156).1
 let y158:Nat:=y157.length
 .aa ((y158:Nat)=y158)<|
 let y159:gg:=(y6,(y157,(24,y152)))
 .aa (bK y159)<|
 let y160:=(ba y159).1
 let y161:Nat:=y160.length
 .aa ((y161:Nat)=y161)<|
 let y162:gP:=(y6,(y160,(17,((ba y153).2,y104))))
 .aa (fR y162)<|
 let y163:=(gK y162).1
 let y164:Nat:=y163.length
 .aa ((y164:Nat)=y164)<|
 let y165:gP:=(y6,(y163,(18,((ba y156).2,y104))))
 .aa (fR y165)<|
 let y166:=(gK y165).1
 let y167:Nat:=y166.length
 .aa ((y167:Nat)=y167)<|
 let y168:gP:=(y6,(y166,(20,((ba y159).2,y104))))
 .aa (fR y168)<|
 let y169:=(gK y168).1
 let y170:Nat:=y169.length
 .aa ((y170:Nat)=y170)<|
 .aa (y6=x.1)<|
 .ret (y169,())) (
 let y171:=(gK y148).1
 let y172:Nat:=y171.length
 .aa ((y172:Nat)=y172)<|
 .aa (y6=x.1)<|
 let y173:xq:=(y171,())
 .ret y173))) (
 let y174:=y104.1
 .ite y174 (
 let y175:=(iU y126).1
 let y176:Nat:=y175.length
 .aa ((y176:Nat)=y176)<|
 let y177:=(kP y123).2
 let y178:qV:=(y6,(y175,y177))
 .aa (lk y178)<|
 let y179:=(nZ y178).1
 let y180:Nat:=y179.length
 .aa ((y180:Nat)=y180)<|
 .aa (y6=x.1)<|
 let y181:xq:=(y179,())
 .ret y181) (
 let y182:=(iU y126).1
 let y183:Nat:=y182.length
 .aa ((y183:Nat)=y183)<|
 let y184:=(kP y123).2
 let y185:gP:=(y6,(y182,(16,(y184.1,y104))))
 .aa (fR y185)<|
 let y186:=(gK y185).1
 let y187:Nat:=y186.length
 .aa ((y187:Nat)=y187)<|
 let y188:gP:=(y6,(y186,(19,(y184.2,y104))))
 .aa (fR y188)<|
 let y189:=(gK y188).1
 let y190:Nat:=y189.length
 .aa ((y190:Nat)=y190)<|
 .aa (y6=x.1)<|
 let y191:xq:=(y189,())
 .ret y191))))
noncomputable def EH (x:Al):bu:=(tN x).val
def wA (x:Al):Prop:=(tN x).ok
noncomputable def jB:aG:={t:=51,lf:=2,te:=38,ce:=aR,st:=(.st bB (.st (.int .i64) (.st .bx (.st (.int .u64) (.st aq (.st aq (.st aq (.bp aq)))))))),arg:=(.bp (.int .u8)),cg:=.unit,n:=0,pos:=0,box:=false,pre:=wA,f:=fun x=>(EH x).1,g:=fun x=>(EH x).2}
noncomputable def yh:FuncId→Option Spec
 | 11=>some dA
 | 20=>some fp
 | _=>none
theorem GL:∀ f sp,yh f=some sp→ah av f sp:=by
 intro f sp h
 unfold yh at h
 split at h
 ·cases h;exact iR
 ·cases h;exact nR
 ·cases h
noncomputable def r4:FuncId→Option aG
 | 30=>some dq
 | 80=>some ft
 | 81=>some fb
 | 89=>some jA
 | 90=>some iP
 | 107=>some mn
 | 108=>some ml
 | _=>none
theorem Df:∀ f ps,r4 f=some ps→aj av f ps:=by
 intro f ps h
 unfold r4 at h
 split at h
 ·cases h;exact fJ
 ·cases h;exact kL
 ·cases h;exact jU
 ·cases h;exact AS
 ·cases h;exact wF
 ·cases h;exact OO
 ·cases h;exact ON
 ·cases h
theorem QJ (W:cB) (Q:bu→Prop) (x:Al):run (env yh r4 true (fun _ _=>none)) (fun _ _ _=>none) (cQ jB x.1 Q) W 100000 (bC 87 Tryz.f87 (ag Tryz.f87) (jB.dh x.2.2)) [] (H0 jB x.1 x.2.1)=(tN x).wp Q:=by kernel_rfl
theorem AT:aj av 87 jB:=aj.env rfl (fun _ _ h=>h) (aw (E:=(env yh r4 true (fun _ _=>none))) (ps:=jB) (valid _ _ _ _) ⟨fun f sp h=>ah.env rfl (fun _ _ h=>h) (GL f sp h),fun f ps h=>aj.env rfl (fun _ _ h=>h) (Df f ps h)⟩ (by kernel_rfl) (fn:=Tryz.f87) (c:=(ag Tryz.f87)) (by kernel_rfl) (by kernel_rfl) tN QJ (fun _ h=>Tr.ak h))
noncomputable def um (x:br):Tr bu:=
 let y0:an:=x.2.1
 let y1:Nat:=y0.length
 .aa ((y1:Nat)=y1)<|
 let y2:dU:=x.1.2
 let y3:bl:=(x.1.1,(y2.1,((),y2.2.2)))
 let y4:An:=(y3,(y0,11))
 .aa (wA y4)<|
 let y5:an:=(EH y4).1
 let y6:Nat:=y5.length
 .aa ((y6:Nat)=y6)<|
 .aa (y3=x.1)<|
 .ret (y5,())
noncomputable def Pg (x:br):bu:=(um x).val
def MO (x:br):Prop:=(um x).ok
noncomputable def pM:aG:={t:=51,lf:=2,te:=38,ce:=aR,st:=(.st bB (.st (.int .i64) (.st .bx (.st (.int .u64) (.st aq (.st aq (.st aq (.bp aq)))))))),arg:=.unit,cg:=.unit,n:=0,pos:=0,box:=false,pre:=MO,f:=fun x=>(Pg x).1,g:=fun x=>(Pg x).2}
noncomputable def yK:FuncId→Option Spec
 | _=>none
theorem He:∀ f sp,yK f=some sp→ah av f sp:=by
 intro f sp h
 unfold yK at h
 split at h
 ·cases h
noncomputable def sw:FuncId→Option aG
 | 87=>some jB
 | _=>none
theorem DB:∀ f ps,sw f=some ps→aj av f ps:=by
 intro f ps h
 unfold sw at h
 split at h
 ·cases h;exact AT
 ·cases h
theorem Rb (W:cB) (Q:bu→Prop) (x:br):run (env yK sw true (fun _ _=>none)) (fun _ _ _=>none) (cQ pM x.1 Q) W 100000 (bC 45 Tryz.f45 (ag Tryz.f45) (pM.dh x.2.2)) [] (H0 pM x.1 x.2.1)=(um x).wp Q:=by kernel_rfl
theorem SH:aj av 45 pM:=aj.env rfl (fun _ _ h=>h) (aw (E:=(env yK sw true (fun _ _=>none))) (ps:=pM) (valid _ _ _ _) ⟨fun f sp h=>ah.env rfl (fun _ _ h=>h) (He f sp h),fun f ps h=>aj.env rfl (fun _ _ h=>h) (DB f ps h)⟩ (by kernel_rfl) (fn:=Tryz.f45) (c:=(ag Tryz.f45)) (by kernel_rfl) (by kernel_rfl) um Rb (fun _ h=>Tr.ak h))
noncomputable def uk (x:br):Tr bu:=
 let y0:an:=x.2.1
 let y1:Nat:=y0.length
 .aa ((y1:Nat)=y1)<|
 let y2:dU:=x.1.2
 let y3:bl:=(x.1.1,(y2.1,((),y2.2.2)))
 let y4:An:=(y3,(y0,12))
 .aa (wA y4)<|
 let y5:an:=(EH y4).1
 let y6:Nat:=y5.length
 .aa ((y6:Nat)=y6)<|
 .aa (y3=x.1)<|
 .ret (y5,())
noncomputable def Pf (x:br):bu:=(uk x).val
def MN (x:br):Prop:=(uk x).ok
noncomputable def pL:aG:={t:=51,lf:=2,te:=38,ce:=aR,st:=(.st bB (.st (.int .i64) (.st .bx (.st (.int .u64) (.st aq (.st aq (.st aq (.bp aq)))))))),arg:=.unit,cg:=.unit,n:=0,pos:=0,box:=false,pre:=MN,f:=fun x=>(Pf x).1,g:=fun x=>(Pf x).2}
noncomputable def yJ:FuncId→Option Spec
 | _=>none
theorem Hd:∀ f sp,yJ f=some sp→ah av f sp:=by
 intro f sp h
 unfold yJ at h
 split at h
 ·cases h
noncomputable def sv:FuncId→Option aG
 | 87=>some jB
 | _=>none
theorem DA:∀ f ps,sv f=some ps→aj av f ps:=by
 intro f ps h
 unfold sv at h
 split at h
 ·cases h;exact AT
 ·cases h
theorem Ra (W:cB) (Q:bu→Prop) (x:br):run (env yJ sv true (fun _ _=>none)) (fun _ _ _=>none) (cQ pL x.1 Q) W 100000 (bC 46 Tryz.f46 (ag Tryz.f46) (pL.dh x.2.2)) [] (H0 pL x.1 x.2.1)=(uk x).wp Q:=by kernel_rfl
theorem SG:aj av 46 pL:=aj.env rfl (fun _ _ h=>h) (aw (E:=(env yJ sv true (fun _ _=>none))) (ps:=pL) (valid _ _ _ _) ⟨fun f sp h=>ah.env rfl (fun _ _ h=>h) (Hd f sp h),fun f ps h=>aj.env rfl (fun _ _ h=>h) (DA f ps h)⟩ (by kernel_rfl) (fn:=Tryz.f46) (c:=(ag Tryz.f46)) (by kernel_rfl) (by kernel_rfl) uk Ra (fun _ h=>Tr.ak h))
noncomputable def uj (x:br):Tr bu:=
 let y0:an:=x.2.1
 let y1:Nat:=y0.length
 .aa ((y1:Nat)=y1)<|
 let y2:dU:=x.1.2
 let y3:bl:=(x.1.1,(y2.1,((),y2.2.2)))
 let y4:An:=(y3,(y0,13))
 .aa (wA y4)<|
 let y5:an:=(EH y4).1
 let y6:Nat:=y5.length
 .aa ((y6:Nat)=y6)<|
 .aa (y3=x.1)<|
 .ret (y5,())
noncomputable def Pe (x:br):bu:=(uj x).val
def MM (x:br):Prop:=(uj x).ok
noncomputable def pK:aG:={t:=51,lf:=2,te:=38,ce:=aR,st:=(.st bB (.st (.int .i64) (.st .bx (.st (.int .u64) (.st aq (.st aq (.st aq (.bp aq)))))))),arg:=.unit,cg:=.unit,n:=0,pos:=0,box:=false,pre:=MM,f:=fun x=>(Pe x).1,g:=fun x=>(Pe x).2}
noncomputable def yI:FuncId→Option Spec
 | _=>none
theorem Hc:∀ f sp,yI f=some sp→ah av f sp:=by
 intro f sp h
 unfold yI at h
 split at h
 ·cases h
noncomputable def su:FuncId→Option aG
 | 87=>some jB
 | _=>none
theorem Dz:∀ f ps,su f=some ps→aj av f ps:=by
 intro f ps h
 unfold su at h
 split at h
 ·cases h;exact AT
 ·cases h
theorem Q9 (W:cB) (Q:bu→Prop) (x:br):run (env yI su true (fun _ _=>none)) (fun _ _ _=>none) (cQ pK x.1 Q) W 100000 (bC 47 Tryz.f47 (ag Tryz.f47) (pK.dh x.2.2)) [] (H0 pK x.1 x.2.1)=(uj x).wp Q:=by kernel_rfl
theorem SF:aj av 47 pK:=aj.env rfl (fun _ _ h=>h) (aw (E:=(env yI su true (fun _ _=>none))) (ps:=pK) (valid _ _ _ _) ⟨fun f sp h=>ah.env rfl (fun _ _ h=>h) (Hc f sp h),fun f ps h=>aj.env rfl (fun _ _ h=>h) (Dz f ps h)⟩ (by kernel_rfl) (fn:=Tryz.f47) (c:=(ag Tryz.f47)) (by kernel_rfl) (by kernel_rfl) uj Q9 (fun _ h=>Tr.ak h))
noncomputable def ug (x:br):Tr bu:=
 let y0:an:=x.2.1
 let y1:Nat:=y0.length
 .aa ((y1:Nat)=y1)<|
 let y2:dU:=x.1.2
 let y3:bl:=(x.1.1,(y2.1,((),y2.2.2)))
 let y4:An:=(y3,(y0,14))
 .aa (wA y4)<|
 let y5:an:=(EH y4).1
 let y6:Nat:=y5.length
 .aa ((y6:Nat)=y6)<|
 .aa (y3=x.1)<|
 .ret (y5,())
noncomputable def Pd (x:br):bu:=(ug x).val
def ML (x:br):Prop:=(ug x).ok
noncomputable def pJ:aG:={t:=51,lf:=2,te:=38,ce:=aR,st:=(.st bB (.st (.int .i64) (.st .bx (.st (.int .u64) (.st aq (.st aq (.st aq (.bp aq)))))))),arg:=.unit,cg:=.unit,n:=0,pos:=0,box:=false,pre:=ML,f:=fun x=>(Pd x).1,g:=fun x=>(Pd x).2}
noncomputable def yH:FuncId→Option Spec
 | _=>none
theorem Hb:∀ f sp,yH f=some sp→ah av f sp:=by
 intro f sp h
 unfold yH at h
 split at h
 ·cases h
noncomputable def sr:FuncId→Option aG
 | 87=>some jB
 | _=>none
theorem Dy:∀ f ps,sr f=some ps→aj av f ps:=by
 intro f ps h
 unfold sr at h
 split at h
 ·cases h;exact AT
 ·cases h
theorem Q8 (W:cB) (Q:bu→Prop) (x:br):run (env yH sr true (fun _ _=>none)) (fun _ _ _=>none) (cQ pJ x.1 Q) W 100000 (bC 48 Tryz.f48 (ag Tryz.f48) (pJ.dh x.2.2)) [] (H0 pJ x.1 x.2.1)=(ug x).wp Q:=by kernel_rfl
theorem SE:aj av 48 pJ:=aj.env rfl (fun _ _ h=>h) (aw (E:=(env yH sr true (fun _ _=>none))) (ps:=pJ) (valid _ _ _ _) ⟨fun f sp h=>ah.env rfl (fun _ _ h=>h) (Hb f sp h),fun f ps h=>aj.env rfl (fun _ _ h=>h) (Dy f ps h)⟩ (by kernel_rfl) (fn:=Tryz.f48) (c:=(ag Tryz.f48)) (by kernel_rfl) (by kernel_rfl) ug Q8 (fun _ h=>Tr.ak h))
end Go.bM.RL
end
section
namespace Go.bM.RL
open Go.Proofs Go.bM
noncomputable def uf (x:br):Tr bu:=
 let y0:an:=x.2.1
 let y1:Nat:=y0.length
 .aa ((y1:Nat)=y1)<|
 let y2:dU:=x.1.2
 let y3:bl:=(x.1.1,(y2.1,((),y2.2.2)))
 let y4:An:=(y3,(y0,15))
 .aa (wA y4)<|
 let y5:an:=(EH y4).1
 let y6:Nat:=y5.length
 .aa ((y6:Nat)=y6)<|
 .aa (y3=x.1)<|
 .ret (y5,())
noncomputable def Pc (x:br):bu:=(uf x).val
def MK (x:br):Prop:=(uf x).ok
noncomputable def pI:aG:={t:=51,lf:=2,te:=38,ce:=aR,st:=(.st bB (.st (.int .i64) (.st .bx (.st (.int .u64) (.st aq (.st aq (.st aq (.bp aq)))))))),arg:=.unit,cg:=.unit,n:=0,pos:=0,box:=false,pre:=MK,f:=fun x=>(Pc x).1,g:=fun x=>(Pc x).2}
noncomputable def yG:FuncId→Option Spec
 | _=>none
theorem Ha:∀ f sp,yG f=some sp→ah av f sp:=by
 intro f sp h
 unfold yG at h
 split at h
 ·cases h
noncomputable def sq:FuncId→Option aG
 | 87=>some jB
 | _=>none
theorem Dx:∀ f ps,sq f=some ps→aj av f ps:=by
 intro f ps h
 unfold sq at h
 split at h
 ·cases h;exact AT
 ·cases h
theorem Q7 (W:cB) (Q:bu→Prop) (x:br):run (env yG sq true (fun _ _=>none)) (fun _ _ _=>none) (cQ pI x.1 Q) W 100000 (bC 49 Tryz.f49 (ag Tryz.f49) (pI.dh x.2.2)) [] (H0 pI x.1 x.2.1)=(uf x).wp Q:=by kernel_rfl
theorem SD:aj av 49 pI:=aj.env rfl (fun _ _ h=>h) (aw (E:=(env yG sq true (fun _ _=>none))) (ps:=pI) (valid _ _ _ _) ⟨fun f sp h=>ah.env rfl (fun _ _ h=>h) (Ha f sp h),fun f ps h=>aj.env rfl (fun _ _ h=>h) (Dx f ps h)⟩ (by kernel_rfl) (fn:=Tryz.f49) (c:=(ag Tryz.f49)) (by kernel_rfl) (by kernel_rfl) uf Q7 (fun _ h=>Tr.ak h))
noncomputable def ud (x:br):Tr bu:=
 let y0:an:=x.2.1
 let y1:Nat:=y0.length
 .aa ((y1:Nat)=y1)<|
 let y2:dU:=x.1.2
 let y3:Int:=y2.1
 let y4:bl:=(x.1.1,(y3,((),y2.2.2)))
 let y5:dX:=(y4,(y0,()))
 .aa (Fc y5)<|
 .aa ((0:Nat) < 2)<|
 .aa ((1:Nat) < 2)<|
 let y6:an:=(B0 y5).1
 let y7:Nat:=y6.length
 .aa ((y7:Nat)=y7)<|
 let y8:cW:=(B0 y5).2
 let y9:kT:=(y3,[y8.1,y8.2])
 let y10:gg:=(y4,(y6,(16,y9)))
 .aa (bK y10)<|
 .aa ((0:Nat) < 2)<|
 .aa ((1:Nat) < 2)<|
 let y11:an:=(ba y10).1
 let y12:Nat:=y11.length
 .aa ((y12:Nat)=y12)<|
 let y13:gg:=(y4,(y11,(18,y9)))
 .aa (bK y13)<|
 let y14:an:=(ba y13).1
 let y15:Nat:=y14.length
 .aa ((y15:Nat)=y15)<|
 let y16:aD:=(ba y10).2
 let y17:fo:=(y4,(y14,y16))
 .aa (iD y17)<|
 let y18:an:=(iU y17).1
 let y19:Nat:=y18.length
 .aa ((y19:Nat)=y19)<|
 let y20:aD:=(ba y13).2
 let y21:qV:=(y4,(y18,(y20,y20)))
 .aa (lk y21)<|
 let y22:an:=(nZ y21).1
 let y23:Nat:=y22.length
 .aa ((y23:Nat)=y23)<|
 let y24:fo:=(y4,(y22,y16))
 .aa (mP y24)<|
 let y25:an:=(vr y24).1
 let y26:Nat:=y25.length
 .aa ((y26:Nat)=y26)<|
 .aa (y4=x.1)<|
 .ret (y25,())
noncomputable def Pb (x:br):bu:=(ud x).val
def MJ (x:br):Prop:=(ud x).ok
noncomputable def pH:aG:={t:=51,lf:=2,te:=38,ce:=aR,st:=(.st bB (.st (.int .i64) (.st .bx (.st (.int .u64) (.st aq (.st aq (.st aq (.bp aq)))))))),arg:=.unit,cg:=.unit,n:=0,pos:=0,box:=false,pre:=MJ,f:=fun x=>(Pb x).1,g:=fun x=>(Pb x).2}
noncomputable def yF:FuncId→Option Spec
 | _=>none
theorem G9:∀ f sp,yF f=some sp→ah av f sp:=by
 intro f sp h
 unfold yF at h
 split at h
 ·cases h
noncomputable def so:FuncId→Option aG
 | 30=>some dq
 | 80=>some ft
 | 88=>some lh
 | 89=>some jA
 | 90=>some iP
 | _=>none
theorem Dw:∀ f ps,so f=some ps→aj av f ps:=by
 intro f ps h
 unfold so at h
 split at h
 ·cases h;exact fJ
 ·cases h;exact kL
 ·cases h;exact JF
 ·cases h;exact AS
 ·cases h;exact wF
 ·cases h
theorem Q6 (W:cB) (Q:bu→Prop) (x:br):run (env yF so true (fun _ _=>none)) (fun _ _ _=>none) (cQ pH x.1 Q) W 100000 (bC 50 Tryz.f50 (ag Tryz.f50) (pH.dh x.2.2)) [] (H0 pH x.1 x.2.1)=(ud x).wp Q:=by kernel_rfl
theorem SC:aj av 50 pH:=aj.env rfl (fun _ _ h=>h) (aw (E:=(env yF so true (fun _ _=>none))) (ps:=pH) (valid _ _ _ _) ⟨fun f sp h=>ah.env rfl (fun _ _ h=>h) (G9 f sp h),fun f ps h=>aj.env rfl (fun _ _ h=>h) (Dw f ps h)⟩ (by kernel_rfl) (fn:=Tryz.f50) (c:=(ag Tryz.f50)) (by kernel_rfl) (by kernel_rfl) ud Q6 (fun _ h=>Tr.ak h))
noncomputable def tJ (x:Ao):Tr bu:=
 .aa ((0:Nat) < 1)<|
 let y0:an:=x.2.1
 let y1:Nat:=y0.length
 .aa ((y1:Nat)=y1)<|
 let y2:dU:=x.1.2
 let y3:Int:=y2.1
 let y4:bl:=(x.1.1,(y3,((),y2.2.2)))
 let y5:cW:=x.2.2
 let y6:gj:=(y4,(y0,(1,(y3,(0,[y5.1])))))
 .aa (bI y6)<|
 .aa ((0:Nat) < 1)<|
 let y7:an:=(cD y6).1
 let y8:Nat:=y7.length
 .aa ((y8:Nat)=y8)<|
 let y9:gj:=(y4,(y7,(1,(y3,(2,[y5.2])))))
 .aa (bI y9)<|
 let y10:an:=(cD y9).1
 let y11:Nat:=y10.length
 .aa ((y11:Nat)=y11)<|
 .aa (y4=x.1)<|
 .ret (y10,())
noncomputable def LL (x:Ao):bu:=(tJ x).val
def Jl (x:Ao):Prop:=(tJ x).ok
noncomputable def nd:aG:={t:=51,lf:=2,te:=38,ce:=aR,st:=(.st bB (.st (.int .i64) (.st .bx (.st (.int .u64) (.st aq (.st aq (.st aq (.bp aq)))))))),arg:=(.st aq (.bp aq)),cg:=.unit,n:=0,pos:=0,box:=false,pre:=Jl,f:=fun x=>(LL x).1,g:=fun x=>(LL x).2}
noncomputable def yd:FuncId→Option Spec
 | _=>none
theorem GH:∀ f sp,yd f=some sp→ah av f sp:=by
 intro f sp h
 unfold yd at h
 split at h
 ·cases h
noncomputable def rY:FuncId→Option aG
 | 17=>some fu
 | _=>none
theorem Db:∀ f ps,rY f=some ps→aj av f ps:=by
 intro f ps h
 unfold rY at h
 split at h
 ·cases h;exact kM
 ·cases h
theorem QF (W:cB) (Q:bu→Prop) (x:Ao):run (env yd rY true (fun _ _=>none)) (fun _ _ _=>none) (cQ nd x.1 Q) W 100000 (bC 91 Tryz.f91 (ag Tryz.f91) (nd.dh x.2.2)) [] (H0 nd x.1 x.2.1)=(tJ x).wp Q:=by kernel_rfl
theorem M4:aj av 91 nd:=aj.env rfl (fun _ _ h=>h) (aw (E:=(env yd rY true (fun _ _=>none))) (ps:=nd) (valid _ _ _ _) ⟨fun f sp h=>ah.env rfl (fun _ _ h=>h) (GH f sp h),fun f ps h=>aj.env rfl (fun _ _ h=>h) (Db f ps h)⟩ (by kernel_rfl) (fn:=Tryz.f91) (c:=(ag Tryz.f91)) (by kernel_rfl) (by kernel_rfl) tJ QF (fun _ h=>Tr.ak h))
noncomputable def uc (x:br):Tr bu:=
 let y0:an:=x.2.1
 let y1:Nat:=y0.length
 .aa ((y1:Nat)=y1)<|
 let y2:DI:=x.1.1
 let y3:dU:=x.1.2
 let y4:Int:=y3.1
 let y5:mG:=y3.2.2
 let y6:bl:=(y2,(y4,((),y5)))
 let y7:m0:=(y6,(y0,(y2.2.2.2.1,(y5.2.1,y4))))
 .aa (iC y7)<|
 .aa (dL 0)<|
 .aa ((0:Nat) < 2)<|
 .aa ((1:Nat) < 2)<|
 let y8:an:=(fe y7).1
 let y9:Nat:=y8.length
 .aa ((y9:Nat)=y9)<|
 let y10:kT:=(y4,[(ff 0),(fe y7).2])
 let y11:gg:=(y6,(y8,(16,y10)))
 .aa (bK y11)<|
 .aa (dL 0)<|
 .aa ((0:Nat) < 2)<|
 .aa ((1:Nat) < 2)<|
 let y12:an:=(ba y11).1
 let y13:Nat:=y12.length
 .aa ((y13:Nat)=y13)<|
 let y14:gg:=(y6,(y12,(17,y10)))
 .aa (bK y14)<|
 .aa ((0:Nat) < 1)<|
 let y15:an:=(ba y14).1
 let y16:Nat:=y15.length
 .aa ((y16:Nat)=y16)<|
 let y17:aD:=(ba y14).2
 let y18:gg:=(y6,(y15,(22,(y4,[y17]))))
 .aa (bK y18)<|
 .aa (bm 1)<|
 .aa ((0:Nat) < 2)<|
 .aa ((1:Nat) < 2)<|
 let y19:an:=(ba y18).1
 let y20:Nat:=y19.length
 .aa ((y20:Nat)=y20)<|
 let y21:gg:=(y6,(y19,(10,(1,[(ba y18).2,(aN 1)]))))
 .aa (bK y21)<|
 let y22:an:=(ba y21).1
 let y23:Nat:=y22.length
 .aa ((y23:Nat)=y23)<|
 let y24:aD:=(ba y11).2
 let y25:qV:=(y6,(y22,(y24,y17)))
 .aa (Jl y25)<|
 let y26:an:=(LL y25).1
 let y27:Nat:=y26.length
 .aa ((y27:Nat)=y27)<|
 let y28:aD:=(ba y21).2
 let y29:qV:=(y6,(y26,(y28,y28)))
 .aa (lk y29)<|
 let y30:an:=(nZ y29).1
 let y31:Nat:=y30.length
 .aa ((y31:Nat)=y31)<|
 let y32:fo:=(y6,(y30,y24))
 .aa (mP y32)<|
 let y33:an:=(vr y32).1
 let y34:Nat:=y33.length
 .aa ((y34:Nat)=y34)<|
 .aa (y6=x.1)<|
 .ret (y33,())
noncomputable def Pa (x:br):bu:=(uc x).val
def MI (x:br):Prop:=(uc x).ok
noncomputable def pG:aG:={t:=51,lf:=2,te:=38,ce:=aR,st:=(.st bB (.st (.int .i64) (.st .bx (.st (.int .u64) (.st aq (.st aq (.st aq (.bp aq)))))))),arg:=.unit,cg:=.unit,n:=0,pos:=0,box:=false,pre:=MI,f:=fun x=>(Pa x).1,g:=fun x=>(Pa x).2}
noncomputable def yE:FuncId→Option Spec
 | 11=>some dA
 | 20=>some fp
 | _=>none
theorem G8:∀ f sp,yE f=some sp→ah av f sp:=by
 intro f sp h
 unfold yE at h
 split at h
 ·cases h;exact iR
 ·cases h;exact nR
 ·cases h
noncomputable def sn:FuncId→Option aG
 | 30=>some dq
 | 81=>some fb
 | 89=>some jA
 | 90=>some iP
 | 91=>some nd
 | _=>none
theorem Dv:∀ f ps,sn f=some ps→aj av f ps:=by
 intro f ps h
 unfold sn at h
 split at h
 ·cases h;exact fJ
 ·cases h;exact jU
 ·cases h;exact AS
 ·cases h;exact wF
 ·cases h;exact M4
 ·cases h
theorem Q5 (W:cB) (Q:bu→Prop) (x:br):run (env yE sn true (fun _ _=>none)) (fun _ _ _=>none) (cQ pG x.1 Q) W 100000 (bC 51 Tryz.f51 (ag Tryz.f51) (pG.dh x.2.2)) [] (H0 pG x.1 x.2.1)=(uc x).wp Q:=by kernel_rfl
theorem SB:aj av 51 pG:=aj.env rfl (fun _ _ h=>h) (aw (E:=(env yE sn true (fun _ _=>none))) (ps:=pG) (valid _ _ _ _) ⟨fun f sp h=>ah.env rfl (fun _ _ h=>h) (G8 f sp h),fun f ps h=>aj.env rfl (fun _ _ h=>h) (Dv f ps h)⟩ (by kernel_rfl) (fn:=Tryz.f51) (c:=(ag Tryz.f51)) (by kernel_rfl) (by kernel_rfl) uc Q5 (fun _ h=>Tr.ak h))
noncomputable def ub (x:br):Tr bu:=
 .aa (dL 0)<|
 let y0:an:=x.2.1
 let y1:Nat:=y0.length
 .aa ((y1:Nat)=y1)<|
 let y2:DI:=x.1.1
 let y3:dU:=x.1.2
 let y4:Int:=y3.1
 let y5:mG:=y3.2.2
 let y6:bl:=(y2,(y4,((),y5)))
 let y7:m0:=(y6,(y0,(y2.2.2.2.1,(y5.2.1,y4))))
 .aa (iC y7)<|
 .aa (dL 2)<|
 .aa ((0:Nat) < 3)<|
 .aa ((1:Nat) < 3)<|
 .aa ((2:Nat) < 3)<|
 let y8:an:=(fe y7).1
 let y9:Nat:=y8.length
 .aa ((y9:Nat)=y9)<|
 let y10:(List aD):=[(ff 0),(fe y7).2,(ff 2)]
 let y11:gj:=(y6,(y8,(29,(y4,(0,y10)))))
 .aa (bI y11)<|
 let y12:an:=(cD y11).1
 let y13:Nat:=y12.length
 .aa ((y13:Nat)=y13)<|
 let y14:kT:=(y4,y10)
 let y15:gg:=(y6,(y12,(19,y14)))
 .aa (bK y15)<|
 let y16:an:=(ba y15).1
 let y17:Nat:=y16.length
 .aa ((y17:Nat)=y17)<|
 let y18:gg:=(y6,(y16,(20,y14)))
 .aa (bK y18)<|
 let y19:an:=(ba y18).1
 let y20:Nat:=y19.length
 .aa ((y20:Nat)=y20)<|
 let y21:qV:=(y6,(y19,((ba y15).2,(ba y18).2)))
 .aa (Jl y21)<|
 let y22:an:=(LL y21).1
 let y23:Nat:=y22.length
 .aa ((y23:Nat)=y23)<|
 .aa (y6=x.1)<|
 .ret (y22,())
noncomputable def O9 (x:br):bu:=(ub x).val
def MH (x:br):Prop:=(ub x).ok
noncomputable def pF:aG:={t:=51,lf:=2,te:=38,ce:=aR,st:=(.st bB (.st (.int .i64) (.st .bx (.st (.int .u64) (.st aq (.st aq (.st aq (.bp aq)))))))),arg:=.unit,cg:=.unit,n:=0,pos:=0,box:=false,pre:=MH,f:=fun x=>(O9 x).1,g:=fun x=>(O9 x).2}
noncomputable def yD:FuncId→Option Spec
 | 20=>some fp
 | _=>none
theorem G7:∀ f sp,yD f=some sp→ah av f sp:=by
 intro f sp h
 unfold yD at h
 split at h
 ·cases h;exact nR
 ·cases h
noncomputable def sm:FuncId→Option aG
 | 17=>some fu
 | 30=>some dq
 | 81=>some fb
 | 91=>some nd
 | _=>none
theorem Du:∀ f ps,sm f=some ps→aj av f ps:=by
 intro f ps h
 unfold sm at h
 split at h
 ·cases h;exact kM
 ·cases h;exact fJ
 ·cases h;exact jU
 ·cases h;exact M4
 ·cases h
theorem Q4 (W:cB) (Q:bu→Prop) (x:br):run (env yD sm true (fun _ _=>none)) (fun _ _ _=>none) (cQ pF x.1 Q) W 100000 (bC 52 Tryz.f52 (ag Tryz.f52) (pF.dh x.2.2)) [] (H0 pF x.1 x.2.1)=(ub x).wp Q:=by kernel_rfl
theorem SA:aj av 52 pF:=aj.env rfl (fun _ _ h=>h) (aw (E:=(env yD sm true (fun _ _=>none))) (ps:=pF) (valid _ _ _ _) ⟨fun f sp h=>ah.env rfl (fun _ _ h=>h) (G7 f sp h),fun f ps h=>aj.env rfl (fun _ _ h=>h) (Du f ps h)⟩ (by kernel_rfl) (fn:=Tryz.f52) (c:=(ag Tryz.f52)) (by kernel_rfl) (by kernel_rfl) ub Q4 (fun _ h=>Tr.ak h))
noncomputable def tI (x:jT):Tr bu:=
 .aa (dL 4)<|
 .aa (bm 8)<|
 .aa ((0:Nat) < 2)<|
 .aa ((1:Nat) < 2)<|
 let y0:an:=x.2.1
 let y1:Nat:=y0.length
 .aa ((y1:Nat)=y1)<|
 .aa (((0:Nat)+2:Nat)≤2)<|
 let y2:dU:=x.1.2
 let y3:bl:=(x.1.1,(y2.1,((),y2.2.2)))
 let y4:gg:=(y3,(y0,(3,(8,[(ff 4),(aN 8)]))))
 .aa (bK y4)<|
 .aa ((0:Nat) < 2)<|
 .aa ((1:Nat) < 2)<|
 let y5:an:=(ba y4).1
 let y6:Nat:=y5.length
 .aa ((y6:Nat)=y6)<|
 .aa (((0:Nat)+2:Nat)≤2)<|
 let y7:aD:=(ba y4).2
 let y8:gj:=(y3,(y5,(28,(8,(0,[y7,x.2.2])))))
 .aa (bI y8)<|
 .aa ((0:Nat) < 1)<|
 let y9:an:=(cD y8).1
 let y10:Nat:=y9.length
 .aa ((y10:Nat)=y10)<|
 .aa (((0:Nat)+1:Nat)≤1)<|
 let y11:gj:=(y3,(y9,(1,(8,(4,[y7])))))
 .aa (bI y11)<|
 let y12:an:=(cD y11).1
 let y13:Nat:=y12.length
 .aa ((y13:Nat)=y13)<|
 .aa (y3=x.1)<|
 .ret (y12,())
noncomputable def LK (x:jT):bu:=(tI x).val
def Jk (x:jT):Prop:=(tI x).ok
noncomputable def nc:aG:={t:=51,lf:=2,te:=38,ce:=aR,st:=(.st bB (.st (.int .i64) (.st .bx (.st (.int .u64) (.st aq (.st aq (.st aq (.bp aq)))))))),arg:=(.bp aq),cg:=.unit,n:=0,pos:=0,box:=false,pre:=Jk,f:=fun x=>(LK x).1,g:=fun x=>(LK x).2}
noncomputable def yc:FuncId→Option Spec
 | 11=>some dA
 | 20=>some fp
 | _=>none
theorem GG:∀ f sp,yc f=some sp→ah av f sp:=by
 intro f sp h
 unfold yc at h
 split at h
 ·cases h;exact iR
 ·cases h;exact nR
 ·cases h
noncomputable def rX:FuncId→Option aG
 | 17=>some fu
 | 30=>some dq
 | _=>none
theorem Da:∀ f ps,rX f=some ps→aj av f ps:=by
 intro f ps h
 unfold rX at h
 split at h
 ·cases h;exact kM
 ·cases h;exact fJ
 ·cases h
theorem QE (W:cB) (Q:bu→Prop) (x:jT):run (env yc rX true (fun _ _=>none)) (fun _ _ _=>none) (cQ nc x.1 Q) W 100000 (bC 92 Tryz.f92 (ag Tryz.f92) (nc.dh x.2.2)) [] (H0 nc x.1 x.2.1)=(tI x).wp Q:=by kernel_rfl
theorem M3:aj av 92 nc:=aj.env rfl (fun _ _ h=>h) (aw (E:=(env yc rX true (fun _ _=>none))) (ps:=nc) (valid _ _ _ _) ⟨fun f sp h=>ah.env rfl (fun _ _ h=>h) (GG f sp h),fun f ps h=>aj.env rfl (fun _ _ h=>h) (Da f ps h)⟩ (by kernel_rfl) (fn:=Tryz.f92) (c:=(ag Tryz.f92)) (by kernel_rfl) (by kernel_rfl) tI QE (fun _ h=>Tr.ak h))
noncomputable def ua (x:br):Tr bu:=
 let y0:an:=x.2.1
 let y1:Nat:=y0.length
 .aa ((y1:Nat)=y1)<|
 let y2:DI:=x.1.1
 let y3:dU:=x.1.2
 let y4:mG:=y3.2.2
 let y5:bl:=(y2,(y3.1,((),y4)))
 let y6:m0:=(y5,(y0,(y2.2.2.2.1,(y4.2.1,8))))
 .aa (iC y6)<|
 let y7:an:=(fe y6).1
 let y8:Nat:=y7.length
 .aa ((y8:Nat)=y8)<|
 let y9:fo:=(y5,(y7,(fe y6).2))
 .aa (Jk y9)<|
 let y10:an:=(LK y9).1
 let y11:Nat:=y10.length
 .aa ((y11:Nat)=y11)<|
 .aa (y5=x.1)<|
 .ret (y10,())
noncomputable def O8 (x:br):bu:=(ua x).val
def MG (x:br):Prop:=(ua x).ok
noncomputable def pE:aG:={t:=51,lf:=2,te:=38,ce:=aR,st:=(.st bB (.st (.int .i64) (.st .bx (.st (.int .u64) (.st aq (.st aq (.st aq (.bp aq)))))))),arg:=.unit,cg:=.unit,n:=0,pos:=0,box:=false,pre:=MG,f:=fun x=>(O8 x).1,g:=fun x=>(O8 x).2}
noncomputable def yC:FuncId→Option Spec
 | _=>none
theorem G6:∀ f sp,yC f=some sp→ah av f sp:=by
 intro f sp h
 unfold yC at h
 split at h
 ·cases h
noncomputable def sk:FuncId→Option aG
 | 81=>some fb
 | 92=>some nc
 | _=>none
theorem Dt:∀ f ps,sk f=some ps→aj av f ps:=by
 intro f ps h
 unfold sk at h
 split at h
 ·cases h;exact jU
 ·cases h;exact M3
 ·cases h
theorem Q3 (W:cB) (Q:bu→Prop) (x:br):run (env yC sk true (fun _ _=>none)) (fun _ _ _=>none) (cQ pE x.1 Q) W 100000 (bC 53 Tryz.f53 (ag Tryz.f53) (pE.dh x.2.2)) [] (H0 pE x.1 x.2.1)=(ua x).wp Q:=by kernel_rfl
theorem Sz:aj av 53 pE:=aj.env rfl (fun _ _ h=>h) (aw (E:=(env yC sk true (fun _ _=>none))) (ps:=pE) (valid _ _ _ _) ⟨fun f sp h=>ah.env rfl (fun _ _ h=>h) (G6 f sp h),fun f ps h=>aj.env rfl (fun _ _ h=>h) (Dt f ps h)⟩ (by kernel_rfl) (fn:=Tryz.f53) (c:=(ag Tryz.f53)) (by kernel_rfl) (by kernel_rfl) ua Q3 (fun _ h=>Tr.ak h))
noncomputable def tG (x:br):Tr fD:=
 .aa (dL 4)<|
 .aa ((0:Nat) < 1)<|
 let y0:an:=x.2.1
 let y1:Nat:=y0.length
 .aa ((y1:Nat)=y1)<|
 .aa (((0:Nat)+1:Nat)≤1)<|
 let y2:dU:=x.1.2
 let y3:bl:=(x.1.1,(y2.1,((),y2.2.2)))
 let y4:gg:=(y3,(y0,(27,(8,[(ff 4)]))))
 .aa (bK y4)<|
 .aa (dL 4)<|
 .aa (bm 8)<|
 .aa ((0:Nat) < 2)<|
 .aa ((1:Nat) < 2)<|
 let y5:an:=(ba y4).1
 let y6:Nat:=y5.length
 .aa ((y6:Nat)=y6)<|
 .aa (((0:Nat)+2:Nat)≤2)<|
 let y7:gg:=(y3,(y5,(2,(8,[(ff 4),(aN 8)]))))
 .aa (bK y7)<|
 .aa ((0:Nat) < 1)<|
 let y8:an:=(ba y7).1
 let y9:Nat:=y8.length
 .aa ((y9:Nat)=y9)<|
 .aa (((0:Nat)+1:Nat)≤1)<|
 let y10:gj:=(y3,(y8,(1,(8,(4,[(ba y7).2])))))
 .aa (bI y10)<|
 let y11:an:=(cD y10).1
 let y12:Nat:=y11.length
 .aa ((y12:Nat)=y12)<|
 .aa (y3=x.1)<|
 .ret (y11,(ba y4).2)
noncomputable def HT (x:br):fD:=(tG x).val
def Ji (x:br):Prop:=(tG x).ok
noncomputable def na:aG:={t:=51,lf:=2,te:=38,ce:=aR,st:=(.st bB (.st (.int .i64) (.st .bx (.st (.int .u64) (.st aq (.st aq (.st aq (.bp aq)))))))),arg:=.unit,cg:=aq,n:=1,pos:=0,box:=false,pre:=Ji,f:=fun x=>(HT x).1,g:=fun x=>(HT x).2}
noncomputable def ya:FuncId→Option Spec
 | 11=>some dA
 | 20=>some fp
 | _=>none
theorem GD:∀ f sp,ya f=some sp→ah av f sp:=by
 intro f sp h
 unfold ya at h
 split at h
 ·cases h;exact iR
 ·cases h;exact nR
 ·cases h
noncomputable def rV:FuncId→Option aG
 | 17=>some fu
 | 30=>some dq
 | _=>none
theorem C8:∀ f ps,rV f=some ps→aj av f ps:=by
 intro f ps h
 unfold rV at h
 split at h
 ·cases h;exact kM
 ·cases h;exact fJ
 ·cases h
theorem QC (W:cB) (Q:fD→Prop) (x:br):run (env ya rV true (fun _ _=>none)) (fun _ _ _=>none) (cQ na x.1 Q) W 100000 (bC 94 Tryz.f94 (ag Tryz.f94) (na.dh x.2.2)) [] (H0 na x.1 x.2.1)=(tG x).wp Q:=by kernel_rfl
theorem M0:aj av 94 na:=aj.env rfl (fun _ _ h=>h) (aw (E:=(env ya rV true (fun _ _=>none))) (ps:=na) (valid _ _ _ _) ⟨fun f sp h=>ah.env rfl (fun _ _ h=>h) (GD f sp h),fun f ps h=>aj.env rfl (fun _ _ h=>h) (C8 f ps h)⟩ (by kernel_rfl) (fn:=Tryz.f94) (c:=(ag Tryz.f94)) (by kernel_rfl) (by kernel_rfl) tG QC (fun _ h=>Tr.ak h))
noncomputable def tZ (x:br):Tr bu:=
 let y0:an:=x.2.1
 let y1:Nat:=y0.length
 .aa ((y1:Nat)=y1)<|
 let y2:DI:=x.1.1
 let y3:dU:=x.1.2
 let y4:mG:=y3.2.2
 let y5:bl:=(y2,(y3.1,((),y4)))
 let y6:dX:=(y5,(y0,()))
 .aa (Ji y6)<|
 let y7:an:=(HT y6).1
 let y8:Nat:=y7.length
 .aa ((y8:Nat)=y8)<|
 let y9:UY:=(y5,(y7,(y2.2.2.2.1,(y4.2.1,(8,(HT y6).2)))))
 .aa (Jj y9)<|
 let y10:an:=(LJ y9).1
 let y11:Nat:=y10.length
 .aa ((y11:Nat)=y11)<|
 .aa (y5=x.1)<|
 .ret (y10,())
noncomputable def O7 (x:br):bu:=(tZ x).val
def MF (x:br):Prop:=(tZ x).ok
noncomputable def pD:aG:={t:=51,lf:=2,te:=38,ce:=aR,st:=(.st bB (.st (.int .i64) (.st .bx (.st (.int .u64) (.st aq (.st aq (.st aq (.bp aq)))))))),arg:=.unit,cg:=.unit,n:=0,pos:=0,box:=false,pre:=MF,f:=fun x=>(O7 x).1,g:=fun x=>(O7 x).2}
noncomputable def yB:FuncId→Option Spec
 | _=>none
theorem G5:∀ f sp,yB f=some sp→ah av f sp:=by
 intro f sp h
 unfold yB at h
 split at h
 ·cases h
noncomputable def sj:FuncId→Option aG
 | 93=>some nb
 | 94=>some na
 | _=>none
theorem Ds:∀ f ps,sj f=some ps→aj av f ps:=by
 intro f ps h
 unfold sj at h
 split at h
 ·cases h;exact M1
 ·cases h;exact M0
 ·cases h
theorem Q2 (W:cB) (Q:bu→Prop) (x:br):run (env yB sj true (fun _ _=>none)) (fun _ _ _=>none) (cQ pD x.1 Q) W 100000 (bC 54 Tryz.f54 (ag Tryz.f54) (pD.dh x.2.2)) [] (H0 pD x.1 x.2.1)=(tZ x).wp Q:=by kernel_rfl
theorem Sy:aj av 54 pD:=aj.env rfl (fun _ _ h=>h) (aw (E:=(env yB sj true (fun _ _=>none))) (ps:=pD) (valid _ _ _ _) ⟨fun f sp h=>ah.env rfl (fun _ _ h=>h) (G5 f sp h),fun f ps h=>aj.env rfl (fun _ _ h=>h) (Ds f ps h)⟩ (by kernel_rfl) (fn:=Tryz.f54) (c:=(ag Tryz.f54)) (by kernel_rfl) (by kernel_rfl) tZ Q2 (fun _ h=>Tr.ak h))
noncomputable def tF (x:br):Tr fD:=
 let y0:dU:=x.1.2
 let y1:mG:=y0.2.2
 let y2:DI:=x.1.1
 let y3:Int:=(aU .u64 y1.1 (aO .u64 y2.2.2.2.2.1.2.2.2.2.2.2.2))
 .aa (bm y3)<|
 let y4:an:=x.2.1
 let y5:Nat:=y4.length
 .aa ((y5:Nat)=y5)<|
 .aa ((y2,(y0.1,((),y1)))=x.1)<|
 .ret (y4,(aN y3))
noncomputable def BZ (x:br):fD:=(tF x).val
def Fb (x:br):Prop:=(tF x).ok
noncomputable def po:aG:={t:=51,lf:=2,te:=38,ce:=aR,st:=(.st bB (.st (.int .i64) (.st .bx (.st (.int .u64) (.st aq (.st aq (.st aq (.bp aq)))))))),arg:=.unit,cg:=aq,n:=1,pos:=0,box:=false,pre:=Fb,f:=fun x=>(BZ x).1,g:=fun x=>(BZ x).2}
noncomputable def x9:FuncId→Option Spec
 | 11=>some dA
 | _=>none
theorem GC:∀ f sp,x9 f=some sp→ah av f sp:=by
 intro f sp h
 unfold x9 at h
 split at h
 ·cases h;exact iR
 ·cases h
theorem QB (W:cB) (Q:fD→Prop) (x:br):run (env x9 (fun _=>none) true (fun _ _=>none)) (fun _ _ _=>none) (cQ po x.1 Q) W 100000 (bC 95 Tryz.f95 (ag Tryz.f95) (po.dh x.2.2)) [] (H0 po x.1 x.2.1)=(tF x).wp Q:=by kernel_rfl
theorem Sr:aj av 95 po:=aj.env rfl (fun _ _ h=>h) (aw (E:=(env x9 (fun _=>none) true (fun _ _=>none))) (ps:=po) (valid _ _ _ _) ⟨fun f sp h=>ah.env rfl (fun _ _ h=>h) (GC f sp h),fun f ps h=>nomatch h⟩ (by kernel_rfl) (fn:=Tryz.f95) (c:=(ag Tryz.f95)) (by kernel_rfl) (by kernel_rfl) tF QB (fun _ h=>Tr.ak h))
noncomputable def nz (x:Ap):Tr fD:=
 .aa ((0:Nat) < 2)<|
 .aa ((1:Nat) < 2)<|
 let y0:an:=x.2.1
 let y1:Nat:=y0.length
 .aa ((y1:Nat)=y1)<|
 .aa (((0:Nat)+2:Nat)≤2)<|
 let y2:dU:=x.1.2
 let y3:bl:=(x.1.1,(y2.1,((),y2.2.2)))
 let y4:(Int×cW):=x.2.2
 let y5:cW:=y4.2
 let y6:gg:=(y3,(y0,(y4.1,(1,[y5.1,y5.2]))))
 .aa (bK y6)<|
 let y7:an:=(ba y6).1
 let y8:Nat:=y7.length
 .aa ((y8:Nat)=y8)<|
 .aa (y3=x.1)<|
 .ret (y7,(ba y6).2)
noncomputable def cV (x:Ap):fD:=(nz x).val
def gn (x:Ap):Prop:=(nz x).ok
noncomputable def mj:aG:={t:=51,lf:=2,te:=38,ce:=aR,st:=(.st bB (.st (.int .i64) (.st .bx (.st (.int .u64) (.st aq (.st aq (.st aq (.bp aq)))))))),arg:=(.st (.int .u8) (.st aq (.bp aq))),cg:=aq,n:=1,pos:=3,box:=true,pre:=gn,f:=fun x=>(cV x).1,g:=fun x=>(cV x).2}
noncomputable def tf:FuncId→Option Spec
 | _=>none
theorem Ep:∀ f sp,tf f=some sp→ah av f sp:=by
 intro f sp h
 unfold tf at h
 split at h
 ·cases h
noncomputable def nN:FuncId→Option aG
 | 30=>some dq
 | _=>none
theorem AY:∀ f ps,nN f=some ps→aj av f ps:=by
 intro f ps h
 unfold nN at h
 split at h
 ·cases h;exact fJ
 ·cases h
theorem N0 (W:cB) (Q:fD→Prop) (x:Ap):run (env tf nN true (fun _ _=>none)) (fun _ _ _=>none) (cQ mj x.1 Q) W 100000 (bC 110 Tryz.f110 (ag Tryz.f110) (mj.dh x.2.2)) [] (H0 mj x.1 x.2.1)=(nz x).wp Q:=by kernel_rfl
theorem OM:aj av 110 mj:=aj.env rfl (fun _ _ h=>h) (aw (E:=(env tf nN true (fun _ _=>none))) (ps:=mj) (valid _ _ _ _) ⟨fun f sp h=>ah.env rfl (fun _ _ h=>h) (Ep f sp h),fun f ps h=>aj.env rfl (fun _ _ h=>h) (AY f ps h)⟩ (by kernel_rfl) (fn:=Tryz.f110) (c:=(ag Tryz.f110)) (by kernel_rfl) (by kernel_rfl) nz N0 (fun _ h=>Tr.ak h))
noncomputable def tE (x:br):Tr fD:=
 let y0:DI:=x.1.1
 let y1:Int:=y0.2.1
 let y2:Int:=(kN .u8 y1 1)
 .ite (al y2 6) (
 .aa (dL 16)<|
 .aa (dL 17)<|
 let y3:=x.2.1
 let y4:Nat:=y3.length
 .aa ((y4:Nat)=y4)<|
 let y5:=x.1.2
 let y6:bl:=(y0,(y5.1,((),y5.2.2)))
 let y7:gP:=(y6,(y3,(9,((ff 16),(ff 17)))))
 .aa (gn y7)<|
 let y8:=(al (dy .u8 y1 1) 1)
 .ite y8 (
 .aa (bm 1)<|
 let y9:=(cV y7).1
 let y10:Nat:=y9.length
 .aa ((y10:Nat)=y10)<|
 let y11:=(cV y7).2
 let y12:gP:=(y6,(y9,(10,(y11,(aN 1)))))
 .aa (gn y12)<|
 let y13:=(cV y12).1
 let y14:Nat:=y13.length
 .aa ((y14:Nat)=y14)<|
 .aa (y6=x.1)<|
 .ret (y13,(cV y12).2)) (
 let y15:=(cV y7).1
 let y16:Nat:=y15.length
 .aa ((y16:Nat)=y16)<|
 .aa (y6=x.1)<|
 let y17:=(cV y7).2
 .ret (y15,y17))) (
 .ite (al y2 12) (
 .aa (dL 18)<|
 .aa (dL 19)<|
 let y18:=x.2.1
 let y19:Nat:=y18.length
 .aa ((y19:Nat)=y19)<|
 let y20:=x.1.2
 let y21:bl:=(y0,(y20.1,((),y20.2.2)))
 let y22:gP:=(y21,(y18,(25,((ff 18),(ff 19)))))
 .aa (gn y22)<|
 .aa (bm 1)<|
 let y23:=(cV y22).1
 let y24:Nat:=y23.length
 .aa ((y24:Nat)=y24)<|
 let y25:gP:=(y21,(y23,(10,((cV y22).2,(aN 1)))))
 .aa (gn y25)<|
 let y26:=(al y2 14)
 .ite y26 (
 .aa (dL 17)<|
 let y27:=(cV y25).1
 let y28:Nat:=y27.length
 .aa ((y28:Nat)=y28)<|
 let y29:=(cV y25).2
 let y30:gP:=(y21,(y27,(9,((ff 17),y29))))
 .aa (gn y30)<|
 let y31:=(al (dy .u8 y1 1) 1)
 .ite y31 (
 .aa (bm 1)<|
 let y32:=(cV y30).1
 let y33:Nat:=y32.length
 .aa ((y33:Nat)=y33)<|
 let y34:=(cV y30).2
 let y35:gP:=(y21,(y32,(10,(y34,(aN 1)))))
 .aa (gn y35)<|
 let y36:=(cV y35).1
 let y37:Nat:=y36.length
 .aa ((y37:Nat)=y37)<|
 .aa (y21=x.1)<|
 let y38:xr:=(y36,(cV y35).2)
 .ret y38) (
 let y39:=(cV y30).1
 let y40:Nat:=y39.length
 .aa ((y40:Nat)=y40)<|
 .aa (y21=x.1)<|
 let y41:=(cV y30).2
 let y42:xr:=(y39,y41)
 .ret y42)) (
 let y43:=(al (dy .u8 y1 1) 1)
 .ite y43 (
 .aa (bm 1)<|
 let y44:=(cV y25).1
 let y45:Nat:=y44.length
 .aa ((y45:Nat)=y45)<|
 let y46:=(cV y25).2
 let y47:gP:=(y21,(y44,(10,(y46,(aN 1)))))
 .aa (gn y47)<|
 let y48:=(cV y47).1
 let y49:Nat:=y48.length
 .aa ((y49:Nat)=y49)<|
 .aa (y21=x.1)<|
 let y50:xr:=(y48,(cV y47).2)
 .ret y50) (
 let y51:=(cV y25).1
 let y52:Nat:=y51.length
 .aa ((y52:Nat)=y52)<|
 .aa (y21=x.1)<|
 let y53:=(cV y25).2
 let y54:xr:=(y51,y53)
 .ret y54))) (
 let y55:=(al y2 14)
 .ite y55 (
 .aa (dL 18)<|
 .aa (dL 19)<|
 let y56:=x.2.1
 let y57:Nat:=y56.length
 .aa ((y57:Nat)=y57)<|
 let y58:=x.1.2
 let y59:bl:=(y0,(y58.1,((),y58.2.2)))
 let y60:gP:=(y59,(y56,(25,((ff 18),(ff 19)))))
 .aa (gn y60)<|
 .aa (bm 1)<|
 let y61:=(cV y60).1
 let y62:Nat:=y61.length
 .aa ((y62:Nat)=y62)<|
 let y63:gP:=(y59,(y61,(10,((cV y60).2,(aN 1)))))
 .aa (gn y63)<|
 .ite y55 (
 .aa (dL 17)<|
 let y64:=(cV y63).1
 let y65:Nat:=y64.length
 .aa ((y65:Nat)=y65)<|
 let y66:=(cV y63).2
 let y67:gP:=(y59,(y64,(9,((ff 17),y66))))
 .aa (gn y67)<|
 let y68:=(al (dy .u8 y1 1) 1)
 .ite y68 (
 .aa (bm 1)<|
 let y69:=(cV y67).1
 let y70:Nat:=y69.length
 .aa ((y70:Nat)=y70)<|
 let y71:=(cV y67).2
 let y72:gP:=(y59,(y69,(10,(y71,(aN 1)))))
 .aa (gn y72)<|
 let y73:=(cV y72).1
 let y74:Nat:=y73.length
 .aa ((y74:Nat)=y74)<|
 .aa (y59=x.1)<|
 let y75:xr:=(y73,(cV y72).2)
 .ret y75) (
 let y76:=(cV y67).1
 let y77:Nat:=y76.length
 .aa ((y77:Nat)=y77)<|
 .aa (y59=x.1)<|
 let y78:=(cV y67).2
 let y79:xr:=(y76,y78)
 .ret y79)) (
 let y80:=(al (dy .u8 y1 1) 1)
 .ite y80 (
 .aa (bm 1)<|
 let y81:=(cV y63).1
 let y82:Nat:=y81.length
 .aa ((y82:Nat)=y82)<|
 let y83:=(cV y63).2
 let y84:gP:=(y59,(y81,(10,(y83,(aN 1)))))
 .aa (gn y84)<|
 let y85:=(cV y84).1
 let y86:Nat:=y85.length
 .aa ((y86:Nat)=y86)<|
 .aa (y59=x.1)<|
 let y87:xr:=(y85,(cV y84).2)
 .ret y87) (
 let y88:=(cV y63).1
 let y89:Nat:=y88.length
 .aa ((y89:Nat)=y89)<|
 .aa (y59=x.1)<|
 let y90:=(cV y63).2
 let y91:xr:=(y88,y90)
 .ret y91))) (
 let y92:Int:=(cond (al y2 0) 19 (cond (al y2 2) 16 (cond (al y2 4) 17 (cond (al y2 8) 18 (cond (al y2 10) 20 0)))))
 .aa (dL y92)<|
 let y93:=(al (dy .u8 y1 1) 1)
 .ite y93 (
 .aa (bm 1)<|
 let y94:=x.2.1
 let y95:Nat:=y94.length
 .aa ((y95:Nat)=y95)<|
 let y96:=x.1.2
 let y97:bl:=(y0,(y96.1,((),y96.2.2)))
 let y98:=(ff y92)
 let y99:gP:=(y97,(y94,(10,(y98,(aN 1)))))
 .aa (gn y99)<|
 let y100:=(cV y99).1
 let y101:Nat:=y100.length
 .aa ((y101:Nat)=y101)<|
 .aa (y97=x.1)<|
 .ret (y100,(cV y99).2)) (
 let y102:=x.2.1
 let y103:Nat:=y102.length
 .aa ((y103:Nat)=y103)<|
 let y104:=x.1.2
 let y105:bl:=(y0,(y104.1,((),y104.2.2)))
 .aa (y105=x.1)<|
 let y106:=(ff y92)
 .ret (y102,y106)))))
noncomputable def BY (x:br):fD:=(tE x).val
def Fa (x:br):Prop:=(tE x).ok
noncomputable def lg:aG:={t:=51,lf:=2,te:=38,ce:=aR,st:=(.st bB (.st (.int .i64) (.st .bx (.st (.int .u64) (.st aq (.st aq (.st aq (.bp aq)))))))),arg:=.unit,cg:=aq,n:=1,pos:=0,box:=false,pre:=Fa,f:=fun x=>(BY x).1,g:=fun x=>(BY x).2}
noncomputable def x8:FuncId→Option Spec
 | 11=>some dA
 | 20=>some fp
 | _=>none
theorem GB:∀ f sp,x8 f=some sp→ah av f sp:=by
 intro f sp h
 unfold x8 at h
 split at h
 ·cases h;exact iR
 ·cases h;exact nR
 ·cases h
noncomputable def rU:FuncId→Option aG
 | 110=>some mj
 | _=>none
theorem C7:∀ f ps,rU f=some ps→aj av f ps:=by
 intro f ps h
 unfold rU at h
 split at h
 ·cases h;exact OM
 ·cases h
theorem QA (W:cB) (Q:fD→Prop) (x:br):run (env x8 rU true (fun _ _=>none)) (fun _ _ _=>none) (cQ lg x.1 Q) W 100000 (bC 96 Tryz.f96 (ag Tryz.f96) (lg.dh x.2.2)) [] (H0 lg x.1 x.2.1)=(tE x).wp Q:=by kernel_rfl
theorem JE:aj av 96 lg:=aj.env rfl (fun _ _ h=>h) (aw (E:=(env x8 rU true (fun _ _=>none))) (ps:=lg) (valid _ _ _ _) ⟨fun f sp h=>ah.env rfl (fun _ _ h=>h) (GB f sp h),fun f ps h=>aj.env rfl (fun _ _ h=>h) (C7 f ps h)⟩ (by kernel_rfl) (fn:=Tryz.f96) (c:=(ag Tryz.f96)) (by kernel_rfl) (by kernel_rfl) tE QA (fun _ h=>Tr.ak h))
noncomputable def tY (x:br):Tr bu:=
 let y0:an:=x.2.1
 let y1:Nat:=y0.length
 .aa ((y1:Nat)=y1)<|
 let y2:DI:=x.1.1
 let y3:dU:=x.1.2
 let y4:Int:=y3.1
 let y5:mG:=y3.2.2
 let y6:bl:=(y2,(y4,((),y5)))
 let y7:eo:=y2.2.2.2
 let y8:(aD×xt):=y5.2
 let y9:m0:=(y6,(y0,(y7.1,(y8.1,y4))))
 .aa (iC y9)<|
 let y10:an:=(fe y9).1
 let y11:Nat:=y10.length
 .aa ((y11:Nat)=y11)<|
 let y12:m0:=(y6,(y10,(y7.2.1,(y8.2.1,y4))))
 .aa (iC y12)<|
 let y13:an:=(fe y12).1
 let y14:Nat:=y13.length
 .aa ((y14:Nat)=y14)<|
 let y15:dX:=(y6,(y13,()))
 .aa (Fa y15)<|
 .aa ((0:Nat) < 3)<|
 .aa ((1:Nat) < 3)<|
 .aa ((2:Nat) < 3)<|
 let y16:an:=(BY y15).1
 let y17:Nat:=y16.length
 .aa ((y17:Nat)=y17)<|
 let y18:gg:=(y6,(y16,(26,(8,[(fe y12).2,(fe y9).2,(BY y15).2]))))
 .aa (bK y18)<|
 let y19:an:=(ba y18).1
 let y20:Nat:=y19.length
 .aa ((y20:Nat)=y20)<|
 let y21:fo:=(y6,(y19,(ba y18).2))
 .aa (iD y21)<|
 let y22:an:=(iU y21).1
 let y23:Nat:=y22.length
 .aa ((y23:Nat)=y23)<|
 .aa (y6=x.1)<|
 .ret (y22,())
noncomputable def O6 (x:br):bu:=(tY x).val
def ME (x:br):Prop:=(tY x).ok
noncomputable def pC:aG:={t:=51,lf:=2,te:=38,ce:=aR,st:=(.st bB (.st (.int .i64) (.st .bx (.st (.int .u64) (.st aq (.st aq (.st aq (.bp aq)))))))),arg:=.unit,cg:=.unit,n:=0,pos:=0,box:=false,pre:=ME,f:=fun x=>(O6 x).1,g:=fun x=>(O6 x).2}
noncomputable def yA:FuncId→Option Spec
 | _=>none
theorem G4:∀ f sp,yA f=some sp→ah av f sp:=by
 intro f sp h
 unfold yA at h
 split at h
 ·cases h
noncomputable def si:FuncId→Option aG
 | 30=>some dq
 | 80=>some ft
 | 81=>some fb
 | 96=>some lg
 | _=>none
theorem Dr:∀ f ps,si f=some ps→aj av f ps:=by
 intro f ps h
 unfold si at h
 split at h
 ·cases h;exact fJ
 ·cases h;exact kL
 ·cases h;exact jU
 ·cases h;exact JE
 ·cases h
theorem Q1 (W:cB) (Q:bu→Prop) (x:br):run (env yA si true (fun _ _=>none)) (fun _ _ _=>none) (cQ pC x.1 Q) W 100000 (bC 59 Tryz.f59 (ag Tryz.f59) (pC.dh x.2.2)) [] (H0 pC x.1 x.2.1)=(tY x).wp Q:=by kernel_rfl
theorem Sx:aj av 59 pC:=aj.env rfl (fun _ _ h=>h) (aw (E:=(env yA si true (fun _ _=>none))) (ps:=pC) (valid _ _ _ _) ⟨fun f sp h=>ah.env rfl (fun _ _ h=>h) (G4 f sp h),fun f ps h=>aj.env rfl (fun _ _ h=>h) (Dr f ps h)⟩ (by kernel_rfl) (fn:=Tryz.f59) (c:=(ag Tryz.f59)) (by kernel_rfl) (by kernel_rfl) tY Q1 (fun _ h=>Tr.ak h))
noncomputable def tX (x:br):Tr bu:=
 let y0:an:=x.2.1
 let y1:Nat:=y0.length
 .aa ((y1:Nat)=y1)<|
 let y2:dU:=x.1.2
 let y3:bl:=(x.1.1,(y2.1,((),y2.2.2)))
 let y4:dX:=(y3,(y0,()))
 .aa (Fa y4)<|
 let y5:an:=(BY y4).1
 let y6:Nat:=y5.length
 .aa ((y6:Nat)=y6)<|
 let y7:fo:=(y3,(y5,(BY y4).2))
 .aa (iD y7)<|
 let y8:an:=(iU y7).1
 let y9:Nat:=y8.length
 .aa ((y9:Nat)=y9)<|
 .aa (y3=x.1)<|
 .ret (y8,())
noncomputable def O5 (x:br):bu:=(tX x).val
def MD (x:br):Prop:=(tX x).ok
noncomputable def pB:aG:={t:=51,lf:=2,te:=38,ce:=aR,st:=(.st bB (.st (.int .i64) (.st .bx (.st (.int .u64) (.st aq (.st aq (.st aq (.bp aq)))))))),arg:=.unit,cg:=.unit,n:=0,pos:=0,box:=false,pre:=MD,f:=fun x=>(O5 x).1,g:=fun x=>(O5 x).2}
noncomputable def yz:FuncId→Option Spec
 | _=>none
theorem G3:∀ f sp,yz f=some sp→ah av f sp:=by
 intro f sp h
 unfold yz at h
 split at h
 ·cases h
noncomputable def sg:FuncId→Option aG
 | 80=>some ft
 | 96=>some lg
 | _=>none
theorem Dq:∀ f ps,sg f=some ps→aj av f ps:=by
 intro f ps h
 unfold sg at h
 split at h
 ·cases h;exact kL
 ·cases h;exact JE
 ·cases h
theorem Q0 (W:cB) (Q:bu→Prop) (x:br):run (env yz sg true (fun _ _=>none)) (fun _ _ _=>none) (cQ pB x.1 Q) W 100000 (bC 60 Tryz.f60 (ag Tryz.f60) (pB.dh x.2.2)) [] (H0 pB x.1 x.2.1)=(tX x).wp Q:=by kernel_rfl
theorem Sw:aj av 60 pB:=aj.env rfl (fun _ _ h=>h) (aw (E:=(env yz sg true (fun _ _=>none))) (ps:=pB) (valid _ _ _ _) ⟨fun f sp h=>ah.env rfl (fun _ _ h=>h) (G3 f sp h),fun f ps h=>aj.env rfl (fun _ _ h=>h) (Dq f ps h)⟩ (by kernel_rfl) (fn:=Tryz.f60) (c:=(ag Tryz.f60)) (by kernel_rfl) (by kernel_rfl) tX Q0 (fun _ h=>Tr.ak h))
end Go.bM.RL
end
section
namespace Go.bM.RL
open Go.Proofs Go.bM
noncomputable def tW (x:br):Tr bu:=
 let y0:an:=x.2.1
 let y1:Nat:=y0.length
 .aa ((y1:Nat)=y1)<|
 let y2:DI:=x.1.1
 let y3:dU:=x.1.2
 let y4:mG:=y3.2.2
 let y5:bl:=(y2,(y3.1,((),y4)))
 let y6:m0:=(y5,(y0,(y2.2.2.2.2.1,(y4.2.2.1,1))))
 .aa (iC y6)<|
 .aa ((0:Nat) < 1)<|
 let y7:an:=(fe y6).1
 let y8:Nat:=y7.length
 .aa ((y8:Nat)=y8)<|
 let y9:gg:=(y5,(y7,(1,(1,[(fe y6).2]))))
 .aa (bK y9)<|
 let y10:an:=(ba y9).1
 let y11:Nat:=y10.length
 .aa ((y11:Nat)=y11)<|
 let y12:fo:=(y5,(y10,(ba y9).2))
 .aa (iD y12)<|
 let y13:an:=(iU y12).1
 let y14:Nat:=y13.length
 .aa ((y14:Nat)=y14)<|
 .aa (y5=x.1)<|
 .ret (y13,())
noncomputable def O4 (x:br):bu:=(tW x).val
def MC (x:br):Prop:=(tW x).ok
noncomputable def pA:aG:={t:=51,lf:=2,te:=38,ce:=aR,st:=(.st bB (.st (.int .i64) (.st .bx (.st (.int .u64) (.st aq (.st aq (.st aq (.bp aq)))))))),arg:=.unit,cg:=.unit,n:=0,pos:=0,box:=false,pre:=MC,f:=fun x=>(O4 x).1,g:=fun x=>(O4 x).2}
noncomputable def yy:FuncId→Option Spec
 | _=>none
theorem G2:∀ f sp,yy f=some sp→ah av f sp:=by
 intro f sp h
 unfold yy at h
 split at h
 ·cases h
noncomputable def sf:FuncId→Option aG
 | 30=>some dq
 | 80=>some ft
 | 81=>some fb
 | _=>none
theorem Dp:∀ f ps,sf f=some ps→aj av f ps:=by
 intro f ps h
 unfold sf at h
 split at h
 ·cases h;exact fJ
 ·cases h;exact kL
 ·cases h;exact jU
 ·cases h
theorem QZ (W:cB) (Q:bu→Prop) (x:br):run (env yy sf true (fun _ _=>none)) (fun _ _ _=>none) (cQ pA x.1 Q) W 100000 (bC 61 Tryz.f61 (ag Tryz.f61) (pA.dh x.2.2)) [] (H0 pA x.1 x.2.1)=(tW x).wp Q:=by kernel_rfl
theorem Sv:aj av 61 pA:=aj.env rfl (fun _ _ h=>h) (aw (E:=(env yy sf true (fun _ _=>none))) (ps:=pA) (valid _ _ _ _) ⟨fun f sp h=>ah.env rfl (fun _ _ h=>h) (G2 f sp h),fun f ps h=>aj.env rfl (fun _ _ h=>h) (Dp f ps h)⟩ (by kernel_rfl) (fn:=Tryz.f61) (c:=(ag Tryz.f61)) (by kernel_rfl) (by kernel_rfl) tW QZ (fun _ h=>Tr.ak h))
noncomputable def tV (x:br):Tr bu:=
 let y0:an:=x.2.1
 let y1:Nat:=y0.length
 .aa ((y1:Nat)=y1)<|
 let y2:DI:=x.1.1
 let y3:dU:=x.1.2
 let y4:mG:=y3.2.2
 let y5:bl:=(y2,(y3.1,((),y4)))
 let y6:m0:=(y5,(y0,(y2.2.2.2.2.1,(y4.2.2.1,1))))
 .aa (iC y6)<|
 .aa ((0:Nat) < 1)<|
 let y7:an:=(fe y6).1
 let y8:Nat:=y7.length
 .aa ((y8:Nat)=y8)<|
 let y9:gg:=(y5,(y7,(21,(1,[(fe y6).2]))))
 .aa (bK y9)<|
 let y10:an:=(ba y9).1
 let y11:Nat:=y10.length
 .aa ((y11:Nat)=y11)<|
 let y12:fo:=(y5,(y10,(ba y9).2))
 .aa (iD y12)<|
 let y13:an:=(iU y12).1
 let y14:Nat:=y13.length
 .aa ((y14:Nat)=y14)<|
 .aa (y5=x.1)<|
 .ret (y13,())
noncomputable def O3 (x:br):bu:=(tV x).val
def MB (x:br):Prop:=(tV x).ok
noncomputable def pz:aG:={t:=51,lf:=2,te:=38,ce:=aR,st:=(.st bB (.st (.int .i64) (.st .bx (.st (.int .u64) (.st aq (.st aq (.st aq (.bp aq)))))))),arg:=.unit,cg:=.unit,n:=0,pos:=0,box:=false,pre:=MB,f:=fun x=>(O3 x).1,g:=fun x=>(O3 x).2}
noncomputable def yx:FuncId→Option Spec
 | _=>none
theorem G1:∀ f sp,yx f=some sp→ah av f sp:=by
 intro f sp h
 unfold yx at h
 split at h
 ·cases h
noncomputable def se:FuncId→Option aG
 | 30=>some dq
 | 80=>some ft
 | 81=>some fb
 | _=>none
theorem Dn:∀ f ps,se f=some ps→aj av f ps:=by
 intro f ps h
 unfold se at h
 split at h
 ·cases h;exact fJ
 ·cases h;exact kL
 ·cases h;exact jU
 ·cases h
theorem QY (W:cB) (Q:bu→Prop) (x:br):run (env yx se true (fun _ _=>none)) (fun _ _ _=>none) (cQ pz x.1 Q) W 100000 (bC 62 Tryz.f62 (ag Tryz.f62) (pz.dh x.2.2)) [] (H0 pz x.1 x.2.1)=(tV x).wp Q:=by kernel_rfl
theorem Su:aj av 62 pz:=aj.env rfl (fun _ _ h=>h) (aw (E:=(env yx se true (fun _ _=>none))) (ps:=pz) (valid _ _ _ _) ⟨fun f sp h=>ah.env rfl (fun _ _ h=>h) (G1 f sp h),fun f ps h=>aj.env rfl (fun _ _ h=>h) (Dn f ps h)⟩ (by kernel_rfl) (fn:=Tryz.f62) (c:=(ag Tryz.f62)) (by kernel_rfl) (by kernel_rfl) tV QY (fun _ h=>Tr.ak h))
noncomputable def tU (x:br):Tr bu:=
 let y0:DI:=x.1.1
 .ite (al y0.2.2.2.1.1 2) (
 .aa ((0:Nat) < 1)<|
 let y1:=x.2.1
 let y2:Nat:=y1.length
 .aa ((y2:Nat)=y2)<|
 .aa (((0:Nat)+1:Nat)≤1)<|
 let y3:=x.1.2
 let y4:=y3.2.2
 let y5:bl:=(y0,(y3.1,((),y4)))
 let y6:=y4.2
 let y7:gj:=(y5,(y1,(31,(16,(0,[y6.1])))))
 .aa (bI y7)<|
 let y8:=(cD y7).1
 let y9:Nat:=y8.length
 let y10:Int:=(ie .i64 (y9:Int) 1)
 .aa ((0:Int)≤y10)<|
 .aa (y10 < (y9:Int))<|
 .aa ((0:Nat) < y9)<|
 let y11:Nat:=(y10).toNat
 .aa ((y11:Nat) < y9)<|
 let y12:bq:=(gh aR y8 y11)
 let y13:=y12.2
 let y14:=y13.2
 let y15:=y14.2
 let y16:=y15.2
 let y17:an:=(y8.set y11 (y12.1,(y13.1,(y14.1,(y15.1,(y16.1,(y16.2.1,y0)))))))
 .aa ((y9:Nat)=y17.length)<|
 .aa (y5=x.1)<|
 .ret (y17,())) (
 .aa ((0:Nat) < 1)<|
 let y18:=x.2.1
 let y19:Nat:=y18.length
 .aa ((y19:Nat)=y19)<|
 .aa (((0:Nat)+1:Nat)≤1)<|
 let y20:=x.1.2
 let y21:=y20.2.2
 let y22:bl:=(y0,(y20.1,((),y21)))
 let y23:=y21.2
 let y24:gj:=(y22,(y18,(31,(16,(0,[y23.2.1])))))
 .aa (bI y24)<|
 let y25:=(cD y24).1
 let y26:Nat:=y25.length
 let y27:Int:=(ie .i64 (y26:Int) 1)
 .aa ((0:Int)≤y27)<|
 .aa (y27 < (y26:Int))<|
 .aa ((0:Nat) < y26)<|
 let y28:Nat:=(y27).toNat
 .aa ((y28:Nat) < y26)<|
 let y29:bq:=(gh aR y25 y28)
 let y30:=y29.2
 let y31:=y30.2
 let y32:=y31.2
 let y33:=y32.2
 let y34:an:=(y25.set y28 (y29.1,(y30.1,(y31.1,(y32.1,(y33.1,(y33.2.1,y0)))))))
 .aa ((y26:Nat)=y34.length)<|
 .aa (y22=x.1)<|
 .ret (y34,()))
noncomputable def EI (x:br):bu:=(tU x).val
def wC (x:br):Prop:=(tU x).ok
noncomputable def pq:aG:={t:=51,lf:=2,te:=38,ce:=aR,st:=(.st bB (.st (.int .i64) (.st .bx (.st (.int .u64) (.st aq (.st aq (.st aq (.bp aq)))))))),arg:=.unit,cg:=.unit,n:=0,pos:=0,box:=false,pre:=wC,f:=fun x=>(EI x).1,g:=fun x=>(EI x).2}
noncomputable def yw:FuncId→Option Spec
 | _=>none
theorem G0:∀ f sp,yw f=some sp→ah av f sp:=by
 intro f sp h
 unfold yw at h
 split at h
 ·cases h
noncomputable def sb:FuncId→Option aG
 | 17=>some fu
 | _=>none
theorem Dm:∀ f ps,sb f=some ps→aj av f ps:=by
 intro f ps h
 unfold sb at h
 split at h
 ·cases h;exact kM
 ·cases h
theorem QX (W:cB) (Q:bu→Prop) (x:br):run (env yw sb false (fun _ _=>none)) (fun _ _ _=>none) (cQ pq x.1 Q) W 100000 (bC 63 Tryz.f63 (ag Tryz.f63) (pq.dh x.2.2)) [] (H0 pq x.1 x.2.1)=(tU x).wp Q:=by kernel_rfl
theorem Ss:aj av 63 pq:=aj.env rfl (fun _ _ h=>h) (aw (E:=(env yw sb false (fun _ _=>none))) (ps:=pq) (valid _ _ _ _) ⟨fun f sp h=>ah.env rfl (fun _ _ h=>h) (G0 f sp h),fun f ps h=>aj.env rfl (fun _ _ h=>h) (Dm f ps h)⟩ (by kernel_rfl) (fn:=Tryz.f63) (c:=(ag Tryz.f63)) (by kernel_rfl) (by kernel_rfl) tU QX (fun _ h=>Tr.ak h))
noncomputable def xk (_x:Unit):Tr Unit:=
 .ret ()
noncomputable def UW (x:Unit):Unit:=(xk x).val
def JB (x:Unit):Prop:=(xk x).ok
noncomputable def VP:List (AV×AV):=[((.int .u8 1),(.fn 32 [])),((.int .u8 2),(.fn 33 [])),((.int .u8 3),(.fn 34 [])),((.int .u8 5),(.fn 35 [])),((.int .u8 8),(.fn 36 [])),((.int .u8 6),(.fn 37 [])),((.int .u8 10),(.fn 36 [])),((.int .u8 7),(.fn 38 [])),((.int .u8 11),(.fn 38 [])),((.int .u8 4),(.fn 39 [])),((.int .u8 9),(.fn 40 [])),((.int .u8 12),(.fn 41 [])),((.int .u8 13),(.fn 42 [])),((.int .u8 14),(.fn 43 [])),((.int .u8 15),(.fn 44 [])),((.int .u8 16),(.fn 45 [])),((.int .u8 17),(.fn 46 [])),((.int .u8 18),(.fn 47 [])),((.int .u8 19),(.fn 48 [])),((.int .u8 20),(.fn 49 [])),((.int .u8 21),(.fn 50 [])),((.int .u8 22),(.fn 51 [])),((.int .u8 23),(.fn 52 [])),((.int .u8 24),(.fn 53 [])),((.int .u8 25),(.fn 54 [])),((.int .u8 26),(.fn 55 [])),((.int .u8 27),(.fn 56 [])),((.int .u8 28),(.fn 57 [])),((.int .u8 29),(.fn 58 [])),((.int .u8 30),(.fn 59 [])),((.int .u8 31),(.fn 60 [])),((.int .u8 32),(.fn 61 [])),((.int .u8 33),(.fn 62 [])),((.int .u8 35),(.fn 63 [])),((.int .u8 36),(.fn 63 [])),((.int .u8 37),(.fn 63 [])),((.int .u8 38),(.fn 63 [])),((.int .u8 39),(.fn 63 []))]
noncomputable def xK:Spec:={er:=.unit,cg:=.bx,n:=1,pre:=JB,f:=UW,own:=some (.mp VP)}
noncomputable def zg:FuncId→Option Spec
 | _=>none
theorem HC:∀ f sp,zg f=some sp→ah av f sp:=by
 intro f sp h
 unfold zg at h
 split at h
 ·cases h
section
variable (W:cB) (Q:Unit→Prop) (x:Unit)
theorem Rz:run (env zg (fun _=>none) false (fun _ _=>none)) (fun _ _ _=>none) (bz xK Q) W 100000 (a7 16 Tryz.f16 (ag Tryz.f16) (bg .unit x)) [] []=(xk x).wp Q:=by kernel_rfl
end
theorem UL:ah av 16 xK:=ah.env rfl (fun _ _ h=>h) (aE (E:=(env zg (fun _=>none) false (fun _ _=>none))) (sp:=xK) (valid _ _ _ _) ⟨fun f sp h=>ah.env rfl (fun _ _ h=>h) (HC f sp h),fun f ps h=>nomatch h⟩ (fn:=Tryz.f16) (c:=(ag Tryz.f16)) (by kernel_rfl) (by kernel_rfl) xk Rz (fun _ h=>Tr.ak h))
end Go.bM.RL
end
