/- A part of the proof that the laws of this seat hold. Conditions: none beyond the row. -/
import Derived.Test.YthkgokmfglphpaaGreatDoorEng0
import Derived.TacticsIn
import Derived.RangeFuncLeaves
import Derived.Laws.AppendOwn
import Derived.Lib.AppendZerosOnto
import Derived.Scope
import Derived.OrdersIn
import Derived.Still
set_option maxRecDepth 100000
set_option linter.unusedVariables false
set_option linter.unusedSimpArgs false
set_option linter.unusedSectionVars false
section
namespace Go.aA
open Go.RowKit
variable {E:Env} {ι:aq} {T:List AV} {H:al} {a:Act} {w:World}
theorem NM {f:FuncId} {cs:List AV} {l:List Value} (h:aL (ak ι) cs l) (h1:cs.all (fun v=>!dJ v&&qQ v)=true):ak ι (.fn f cs) (.func (.func f) #[] l.toArray):=by
 refine an rfl ?_
 rw [aD]
 refine ⟨List.all_eq_true.2 fun x hx=>by have:=List.all_eq_true.1 h1 x hx;simp only [Bool.and_eq_true] at this;exact this.1,l,rfl,?_⟩
 induction h with
 | nil=>rw [cA];exact ⟨rfl,rfl⟩
 | cons h t ih=>
  rename_i v c vs m
  simp only [List.all_cons,Bool.and_eq_true] at h1
  rw [cA]
  have hv:=h.one (by simpa using h1.1.1) (j3 h1.1.2)
  exact ⟨1,List.replicate vs.length 1,[c],m,by simp [List.replicate_succ],rfl,rfl,hv,ih (by simpa using h1.2)⟩
theorem RI {f:FuncId} {cs:List AV} {l:List Value} (h:aL (ak ι) cs l) (h1:cs.all (fun v=>!dJ v&&qQ v)=true):ak ι (.yO f cs) (.func (.func f) l.toArray #[]):=by
 have:=(NM (f:=f) h h1).one rfl rfl
 rw [aD] at this
 obtain ⟨hc,l',e,k⟩:=this
 refine an rfl ?_
 rw [aD]
 have:l=l':=by simpa using e
 subst this
 exact ⟨hc,l,rfl,k⟩
theorem jv (hV:E.Valid) {ts:Array TypeId} (h:isSlice E ts=true):∃ t e,ts[0]?=some t∧E.P.underlying t=some (.slice e):=by
 unfold isSlice at h
 split at h
 ·rename_i t ht
  split at h
  ·rename_i d hd
   split at h
   ·rename_i e hdesc
    have:=(hV.ty _ _ hd).1
    rw [hdesc] at this
    exact ⟨t,e,ht,this⟩
   ·cases h
  ·cases h
 ·cases h
theorem xg (hV:E.Valid) {o:Oper} {q:List Prop} {v:AV} {H':al} (h:kX E T H o=some (q,v,H')) (hq:holds q) (r:gi E ι T H a w):VL E ι a w o v H':=by
 unfold kX at h
 split at h
 case h_1 x hop=>
  split at h
  ·rename_i u hu;simp only [Option.some.injEq,Prod.mk.injEq] at h;obtain ⟨_,rfl,rfl⟩:=h
   exact .same r.heap (bz hu r) (by simp [execOp,hop])
  ·cases h
 case h_2 x hop=>
  split at h
  ·rename_i u hu;simp only [Option.some.injEq,Prod.mk.injEq] at h;obtain ⟨_,rfl,rfl⟩:=h
   exact .same r.heap (bz hu r) (by simp [execOp,hop])
  ·cases h
 case h_3 c x y hop=>
  split at h
  ·rename_i b u1 u2 h1 h2 h3;simp only [Option.some.injEq,Prod.mk.injEq] at h;obtain ⟨_,rfl,rfl⟩:=h
   refine .same r.heap (M1 (bz h2 r) (bz h3 r)) ?_
   simp only [execOp,hop,(bz h1 r).bool,asBool,Sem.run_bind,Sem.run_pure,Result.andThen]
  ·cases h
 case h_4 t hop=>
  split at h
  ·rename_i d hd
   unfold JK at h
   split at h
   ·rename_i hc
    simp only [Option.some.injEq,Prod.mk.injEq] at h;obtain ⟨_,rfl,rfl⟩:=h
    obtain ⟨z,hz,hzr⟩:=kx (hV.ty _ _ hd) w
    obtain ⟨ι',w',b,hrun,hE,hH,hp⟩:=yl (P:=E.P) (t:=t) r.heap ((fO (j3 hc.2)).2 (hzr ι)) (j3 hc.2)
    refine ⟨ι',w',_,hE,hH,hp,.inl ?_⟩
    simp only [execOp,hop,Instr.alloc,Sem.run_bind,hz,Result.andThen,hrun,Sem.run_pure]
   ·cases h
  ·cases h
 case h_5 t x hop=>
  split at h
  ·rename_i d u hd hu
   unfold JK at h
   split at h
   ·rename_i hc
    simp only [Option.some.injEq,Prod.mk.injEq] at h;obtain ⟨_,rfl,rfl⟩:=h
    obtain ⟨ι',w',b,hrun,hE,hH,hp⟩:=yl (P:=E.P) (t:=t) r.heap (bz hu r) (j3 hc.2)
    refine ⟨ι',w',_,hE,hH,hp,.inl ?_⟩
    simp only [execOp,hop,Instr.box,Sem.run_bind,Result.andThen,hrun,Sem.run_pure]
   ·cases h
  ·cases h
 case h_6 t parts hop=>
  split at h
  ·rename_i d ps hd hps
   split at h
   ·rename_i s hs
    split at h
    ·rename_i q' v' hb
     split at h
     ·rename_i hagg
      simp only [Option.some.injEq,Prod.mk.injEq] at h;obtain ⟨rfl,rfl,rfl⟩:=h
      obtain ⟨cs,hrun,hrep⟩:=Pa hV (w:=w) (hV.ty _ _ hd) (fun n et hdesc=>by
       unfold On at hs
       rw [hdesc] at hs
       simp only at hs
       split at hs
       ·rename_i x hx;cases hs;exact ⟨x,hx,rfl⟩
       ·cases hs) hb hq (jA hps r)
      refine .same r.heap (gu hagg hrep) ?_
      simp only [execOp,hop,Sem.run_bind]
      have:(parts.map fun x=>(x.1,a.eval x.2))=(parts.toList.map fun x=>(x.1,a.eval x.2)).toArray:=Array.ext' (by simp)
      rw [show (parts.map fun (i,x)=>(i,a.eval x))=(parts.map fun x=>(x.1,a.eval x.2)) from rfl,this,hrun]
      rfl
     ·cases h
    ·cases h
   ·cases h
  ·cases h
 case h_7 t len parts hop=>
  split at h
  ·rename_i d ps hd hps
   split at h
   ·rename_i e hdesc
    split at h
    ·rename_i de hde
     split at h
     ·rename_i c hc
      split at h
      ·rename_i z hz
       split at h
       ·rename_i hcond
        split at h
        ·rename_i q0 ps2 H2 hset
         split at h
         ·rename_i q' v' hf
          split at h
          ·rename_i hsz
           simp only [Option.some.injEq,Prod.mk.injEq] at h;obtain ⟨rfl,rfl,rfl⟩:=h
           rw [bu] at hq
           obtain ⟨ι1,hE1,r1,hl1⟩:=IN hset hq.1 r.heap (jA hps r)
           obtain ⟨ι',w',u,hrun,hE,hH,hr⟩:=pK (hV.ty _ _ hd) (hV.ty _ _ hde) hdesc (qE hz hcond.1) hf hq.2 hcond.2.1 hcond.2.2 hsz r1 hl1
           refine ⟨ι',w',u,hE1.trans hE,hH,hr,.inl ?_⟩
           simp only [execOp,hop,Sem.run_bind]
           have:(parts.map fun x=>(x.1,a.eval x.2))=(parts.toList.map fun x=>(x.1,a.eval x.2)).toArray:=Array.ext' (by simp)
           rw [show (parts.map fun (i,x)=>(i,a.eval x))=(parts.map fun x=>(x.1,a.eval x.2)) from rfl,this,hrun]
           rfl
          ·cases h
         ·cases h
        ·cases h
       ·cases h
      ·cases h
     ·split at h
      ·rename_i hcond
       split at h
       ·rename_i q' v' hf
        split at h
        ·rename_i hsz
         simp only [Option.some.injEq,Prod.mk.injEq] at h;obtain ⟨rfl,rfl,rfl⟩:=h
         obtain ⟨ι',w',u,hrun,hE,hH,hr⟩:=pK (hV.ty _ _ hd) (hV.ty _ _ hde) hdesc pq hf hq hcond.1 hcond.2 hsz r.heap (jA hps r)
         refine ⟨ι',w',u,hE,hH,hr,.inl ?_⟩
         simp only [execOp,hop,Sem.run_bind]
         have:(parts.map fun x=>(x.1,a.eval x.2))=(parts.toList.map fun x=>(x.1,a.eval x.2)).toArray:=Array.ext' (by simp)
         rw [show (parts.map fun (i,x)=>(i,a.eval x))=(parts.map fun x=>(x.1,a.eval x.2)) from rfl,this,hrun]
         rfl
        ·cases h
       ·cases h
      ·cases h
    ·cases h
   ·cases h
  ·cases h
 case h_8 t x hop=>
  split at h
  ·rename_i d u hd hu
   split at h
   ·rename_i q' v' hl
    split at h
    ·rename_i hc
     simp only [Option.some.injEq,Prod.mk.injEq] at h;obtain ⟨rfl,rfl,rfl⟩:=h
     obtain ⟨b,off,hb,hst⟩:=C2 hl hq r.heap (bz hu r)
     obtain ⟨c,hrun,hr⟩:=wJ (hV.ty _ _ hd) hc.1 hc.2 hst
     refine .same r.heap hr ?_
     simp only [execOp,hop,Instr.loadAt,hb,Instr.sureAddr,Sem.run_bind,Sem.run_pure,Result.andThen,hrun]
    ·cases h
   ·cases h
  ·cases h
 case h_9 t x y hop=>
  split at h
  ·rename_i d u uy hd hu huy
   split at h
   ·rename_i hc
    split at h
    ·rename_i q' H2 hs
     simp only [Option.some.injEq,Prod.mk.injEq] at h;obtain ⟨rfl,rfl,rfl⟩:=h
     obtain ⟨b,off,w',hb,hrun,hH⟩:=IG (hV.ty _ _ hd) hs hq hc.1 r.heap (bz hu r) (bz huy r) (j3 hc.2)
     refine ⟨ι,w',undef,Ext.refl ι,hH,eD,.inr ⟨?_,rfl⟩⟩
     simp only [execOp,hop,Instr.storeAt,hb,Instr.sureAddr,Sem.run_bind,Sem.run_pure,Result.andThen,hrun]
    ·cases h
   ·cases h
  ·cases h
 case h_10 x hop=>
  split at h
  ·rename_i o' p hu
   simp only [Option.some.injEq,Prod.mk.injEq] at h;obtain ⟨_,rfl,rfl⟩:=h
   obtain ⟨b,z,hb,hc⟩:=o0 (bz hu r)
   exact .same r.heap (bz hu r) (by simp only [execOp,hop,hc,Sem.run_pure])
  ·rename_i u hu
   simp only [Option.some.injEq,Prod.mk.injEq] at h;obtain ⟨_,rfl,rfl⟩:=h
   obtain ⟨b,off,cells,t,fz,l,hc,_⟩:=BK (bz hu r)
   exact .same r.heap (bz hu r) (by simp only [execOp,hop,hc,Sem.run_pure])
  ·rename_i f cs hu
   simp only [Option.some.injEq,Prod.mk.injEq] at h;obtain ⟨_,rfl,rfl⟩:=h
   have hr:=(bz hu r).one rfl rfl
   rw [aD] at hr
   obtain ⟨_,l,hc,_⟩:=hr
   simp only [List.cons.injEq,and_true] at hc
   exact .same r.heap (bz hu r) (by simp only [execOp,hop,hc,Sem.run_pure])
  ·rename_i l hu
   simp only [Option.some.injEq,Prod.mk.injEq] at h;obtain ⟨_,rfl,rfl⟩:=h
   have hr:=(bz hu r).one rfl rfl
   rw [aD] at hr
   obtain ⟨b,z,_,hc⟩:=hr
   simp only [List.cons.injEq,and_true] at hc
   exact .same r.heap (bz hu r) (by simp only [execOp,hop,hc,Sem.run_pure])
  ·cases h
 case h_11 op t x y yt hop=>
  split at h
  ·rename_i ux uy hx hy
   split at h
   ·rename_i q' v' hb
    simp only [Option.some.injEq,Prod.mk.injEq] at h;obtain ⟨rfl,rfl,rfl⟩:=h
    obtain ⟨c,hrun,hr⟩:=VB (P:=E.P) (w:=w) (t:=t) (fun e he=>hV.ty _ _ he) hb hq (bz hx r) (bz hy r) x y
    refine .same r.heap hr ?_
    simp only [execOp,hop,Sem.run_bind] at hrun ⊢
    rw [hrun]
    rfl
   ·split at h
    ·rename_i v' hb
     simp only [Option.some.injEq,Prod.mk.injEq] at h;obtain ⟨_,rfl,rfl⟩:=h
     obtain ⟨c,hrun,hr⟩:=RK hV (w:=w) hb (bz hx r) (bz hy r) x y
     refine .same r.heap hr ?_
     simp only [execOp,hop,Sem.run_bind] at hrun ⊢
     rw [hrun]
     rfl
    ·cases h
  ·cases h
 case h_12 op t x hop=>
  split at h
  ·rename_i ux hx
   split at h
   ·rename_i v' hb
    simp only [Option.some.injEq,Prod.mk.injEq] at h;obtain ⟨_,rfl,rfl⟩:=h
    obtain ⟨c,hrun,hr⟩:=V0 (P:=E.P) (w:=w) hb (bz hx r)
    refine .same r.heap hr ?_
    simp only [execOp,hop,Sem.run_bind,hrun,Result.andThen,Sem.run_pure]
   ·cases h
  ·cases h
 case h_13 src dst x hop=>
  split at h
  ·rename_i ds d k n hs hd hx
   split at h
   ·rename_i k' hdesc
    simp only [Option.some.injEq,Prod.mk.injEq] at h;obtain ⟨_,rfl,rfl⟩:=h
    refine .same r.heap (dv _ _) ?_
    have h1:=(hV.ty _ _ hs).1
    have h2:=(hV.ty _ _ hd).1
    rw [hdesc] at h2
    simp only [execOp,hop,convert,(bz hx r).int,Sem.run_bind,run_underlying h1,run_underlying h2,Result.andThen,Conv.intToInt,Sem.run_pure,af]
   ·cases h
  ·rename_i s d v _ hs hd hx
   split at h
   ·rename_i u hsa
    simp only [Option.some.injEq,Prod.mk.injEq] at h;obtain ⟨_,rfl,rfl⟩:=h
    obtain ⟨c,hrun,hr⟩:=Gq hV (hV.ty _ _ hs) (hV.ty _ _ hd) hsa r.heap.aM (bz hx r)
    have hr:=hr ι
    refine .same r.heap hr ?_
    simp only [execOp,hop,Sem.run_bind,hrun,Result.andThen,Sem.run_pure]
   ·cases h
  ·cases h
 case h_14 f first caps hop=>
  split at h
  ·rename_i cs hf hcs
   split at h
   ·rename_i hall
    simp only [Option.some.injEq,Prod.mk.injEq] at h;obtain ⟨_,rfl,rfl⟩:=h
    have hl:=fh hcs r
    refine .same r.heap (NM hl hall) ?_
    have hfe:first=#[]:=by cases first;simpa using hf
    subst hfe
    have hcm:caps.map a.eval=(caps.toList.map a.eval).toArray:=Array.ext' (by simp)
    simp only [execOp,hop,Instr.makeFunc,Sem.run_bind,Sem.run_pure,Result.andThen,hcm,Array.map_empty]
   ·cases h
  ·rename_i x0 l0 hf hcs
   split at h
   ·rename_i cs hcs2
    split at h
    ·rename_i hall
     simp only [Option.some.injEq,Prod.mk.injEq] at h;obtain ⟨_,rfl,rfl⟩:=h
     have hl0:=fh hcs r
     have hl:=fh hcs2 r
     rw [← hf] at hl
     refine .same r.heap (RI hl hall) ?_
     have hce:caps=#[]:=by
      cases hl1:caps.toList with
      | nil=>cases caps;simpa using hl1
      | cons y ys=>rw [hl1] at hl0;cases hl0
     subst hce
     have hcm:first.map a.eval=(first.toList.map a.eval).toArray:=Array.ext' (by simp)
     simp only [execOp,hop,Instr.makeFunc,Sem.run_bind,Sem.run_pure,Result.andThen,hcm,Array.map_empty]
    ·cases h
   ·cases h
  ·cases h
 case h_15 s x f hop=>
  split at h
  ·rename_i d u hd hu
   split at h
   ·rename_i q' v' hb
    simp only [Option.some.injEq,Prod.mk.injEq] at h;obtain ⟨rfl,rfl,rfl⟩:=h
    obtain ⟨c,hrun,hr⟩:=Bp hV (w:=w) (hV.ty _ _ hd) hb hq (bz hu r)
    refine .same r.heap hr ?_
    simp only [execOp,hop,Sem.run_bind,hrun,Result.andThen,Sem.run_pure]
   ·cases h
  ·cases h
 case h_16 s x f hop=>
  split at h
  ·rename_i d u hd hu
   split at h
   ·rename_i q' v' hb
    simp only [Option.some.injEq,Prod.mk.injEq] at h;obtain ⟨rfl,rfl,rfl⟩:=h
    obtain ⟨c,hrun,hr⟩:=Oc hV (w:=w) (hV.ty _ _ hd) hb hq (bz hu r)
    refine .same r.heap hr ?_
    simp only [execOp,hop,Sem.run_bind,hrun,Result.andThen,Sem.run_pure]
   ·cases h
  ·cases h
 case h_17 t x i hop=>
  split at h
  ·rename_i d u ui hd hu hi
   split at h
   ·rename_i et e he
    split at h
    ·rename_i q' v' hb
     simp only [Option.some.injEq,Prod.mk.injEq] at h;obtain ⟨rfl,rfl,rfl⟩:=h
     obtain ⟨he1,he2⟩:=mr hV he
     obtain ⟨c,hrun,hr⟩:=A8 (w:=w) (hV.ty _ _ hd) he1 he2 hb hq (bz hu r) (bz hi r)
     refine .same r.heap hr ?_
     simp only [execOp,hop,Sem.run_bind,hrun,Result.andThen,Sem.run_pure]
    ·cases h
   ·cases h
  ·cases h
 case h_18 t x i hop=>
  split at h
  ·rename_i d u ui hd hu hi
   split at h
   ·rename_i et e he
    split at h
    ·rename_i q' v' hb
     simp only [Option.some.injEq,Prod.mk.injEq] at h;obtain ⟨rfl,rfl,rfl⟩:=h
     obtain ⟨he1,he2⟩:=mr hV he
     obtain ⟨c,hrun,hr⟩:=NC (w:=w) (hV.ty _ _ hd) he1 he2 hb hq (bz hu r) (bz hi r)
     refine .same r.heap hr ?_
     simp only [execOp,hop,Sem.run_bind,hrun,Result.andThen,Sem.run_pure]
    ·cases h
   ·split at h
    ·rename_i q' v' hb
     simp only [Option.some.injEq,Prod.mk.injEq] at h;obtain ⟨rfl,rfl,rfl⟩:=h
     obtain ⟨c,hrun,hr⟩:=Jl (w:=w) (hV.ty _ _ hd) hb hq (bz hu r) (bz hi r)
     refine .same r.heap hr ?_
     simp only [execOp,hop,Sem.run_bind,hrun,Result.andThen,Sem.run_pure]
    ·cases h
  ·cases h
 case h_19 t x lo hi hop=>
  split at h
  ·rename_i d u ul uh hd hu hl hh
   split at h
   ·rename_i s hs
    split at h
    ·rename_i q' v' hb
     simp only [Option.some.injEq,Prod.mk.injEq] at h;obtain ⟨rfl,rfl,rfl⟩:=h
     obtain ⟨c,hrun,hr⟩:=IK (w:=w) hV hd hs hb hq (bz hu r) (Of hl r) (Of hh r)
     refine .same r.heap hr ?_
     simp only [execOp,hop,Sem.run_bind,Option.map_none,hrun,Result.andThen,Sem.run_pure]
    ·cases h
   ·cases h
  ·cases h
 case h_20 x i hop=>
  split at h
  ·rename_i vs hu
   split at h
   ·rename_i v' hi
    simp only [Option.some.injEq,Prod.mk.injEq] at h;obtain ⟨_,rfl,rfl⟩:=h
    obtain ⟨l,hc,hl⟩:=bz hu r
    obtain ⟨c,hci,hr⟩:=hl.at i _ hi
    refine .same r.heap (c:=c) ?_ ?_
    ·cases hv:v' with
     | nk us=>subst hv;unfold bW at hr;simp only [dJ,Bool.false_eq_true,if_false] at hr;rw [aD] at hr;exact hr.elim
     | any=>trivial
     | oW _=>trivial
     | _=>subst hv;exact hr
    ·simp only [execOp,hop,Instr.extract,hc,List.getElem?_toArray,hci,Sem.run_bind,Sem.run_pure,Result.andThen]
   ·cases h
  ·cases h
 case h_21 b args ts hop=>
  obtain ⟨cs,hrun⟩:=iv (E:=E) (a:=a) (w:=w) hop
  have hargs:args.map a.eval=(args.toList.map a.eval).toArray:=Array.ext' (by simp)
  split at h
  ·rename_i k m k' n hev
   split at h
   ·rename_i e;subst e
    simp only [Option.some.injEq,Prod.mk.injEq] at h;obtain ⟨_,rfl,rfl⟩:=h
    have hl:=fh hev r
    obtain ⟨c1,_,e1,h1,hl⟩:=hl.cons_inv
    obtain ⟨c2,_,e2,h2,hl⟩:=hl.cons_inv
    cases hl
    refine .same r.heap (dv _ _) ?_
    rw [hrun,hargs,e1,e2,h1.int,h2.int]
    simp [builtin,Builtin.min_,Builtin.min2,xN]
   ·cases h
  ·rename_i k m k' n hev
   split at h
   ·rename_i e;subst e
    simp only [Option.some.injEq,Prod.mk.injEq] at h;obtain ⟨_,rfl,rfl⟩:=h
    have hl:=fh hev r
    obtain ⟨c1,_,e1,h1,hl⟩:=hl.cons_inv
    obtain ⟨c2,_,e2,h2,hl⟩:=hl.cons_inv
    cases hl
    refine .same r.heap (dv _ _) ?_
    rw [hrun,hargs,e1,e2,h1.int,h2.int]
    simp [builtin,Builtin.max_,Builtin.max2,imax]
   ·cases h
  ·rename_i c xs hev
   split at h
   ·rename_i hsl
    simp only [Option.some.injEq,Prod.mk.injEq] at h;obtain ⟨_,rfl,rfl⟩:=h
    obtain ⟨t,e,e0,hu⟩:=jv hV hsl
    obtain ⟨c1,_,e1,h1,hl⟩:=(fh hev r).cons_inv
    cases hl
    refine .same r.heap (dv _ _) ?_
    rw [hrun,hargs,e1]
    rcases Bd h1 with ⟨rfl,rfl | ⟨a0,rfl⟩⟩ | ⟨b,off,k,cells,ty,fz,l,rfl,_⟩
    ·simp [builtin,Builtin.len_,e0,run_underlying hu,goInt]
    ·simp [builtin,Builtin.len_,e0,run_underlying hu,goInt]
    ·simp [builtin,Builtin.len_,e0,run_underlying hu,goInt]
   ·cases h
  ·rename_i o' p s off len cap hev
   split at h
   ·rename_i hsl
    simp only [Option.some.injEq,Prod.mk.injEq] at h;obtain ⟨_,rfl,rfl⟩:=h
    obtain ⟨t,e,e0,hu⟩:=jv hV hsl
    obtain ⟨c1,_,e1,h1,hl⟩:=(fh hev r).cons_inv
    cases hl
    refine .same r.heap (dv _ _) ?_
    rw [hrun,hargs,e1]
    obtain ⟨b,z,k,_,rfl,_⟩:=gW h1
    simp [builtin,Builtin.len_,e0,run_underlying hu,goInt]
   ·cases h
  ·rename_i o' s n hev
   split at h
   ·rename_i hsl
    simp only [Option.some.injEq,Prod.mk.injEq] at h;obtain ⟨_,rfl,rfl⟩:=h
    obtain ⟨t,e,e0,hu⟩:=jv hV hsl
    obtain ⟨c1,_,e1,h1,hl⟩:=(fh hev r).cons_inv
    cases hl
    refine .same r.heap (dv _ _) ?_
    rw [hrun,hargs,e1]
    have h1:=h1.one rfl rfl
    rw [aD] at h1
    obtain ⟨b,z,v0,_,hv0,hv⟩:=h1
    simp only [List.cons.injEq,and_true] at hv0
    subst hv0
    rcases hv with ⟨rfl,rfl⟩ | ⟨_,k',rfl,_⟩
    ·simp [builtin,Builtin.len_,e0,run_underlying hu,goInt]
    ·simp [builtin,Builtin.len_,e0,run_underlying hu,goInt]
   ·cases h
  ·rename_i hev
   split at h
   ·rename_i hsl
    simp only [Option.some.injEq,Prod.mk.injEq] at h;obtain ⟨_,rfl,rfl⟩:=h
    obtain ⟨t,e,e0,hu⟩:=jv hV hsl
    obtain ⟨c1,_,e1,h1,hl⟩:=(fh hev r).cons_inv
    cases hl
    refine .same r.heap (dv _ _) ?_
    rw [hrun,hargs,e1,h1.raw]
    simp [builtin,Builtin.len_,e0,run_underlying hu,goInt]
   ·cases h
  ·rename_i o' p s off len k0 hev
   split at h
   ·rename_i hsl
    simp only [Option.some.injEq,Prod.mk.injEq] at h;obtain ⟨_,rfl,rfl⟩:=h
    obtain ⟨t,e,e0,hu⟩:=jv hV hsl
    obtain ⟨c1,_,e1,h1,hl⟩:=(fh hev r).cons_inv
    cases hl
    refine .same r.heap (dv _ _) ?_
    rw [hrun,hargs,e1]
    obtain ⟨b,z,k,_,rfl,_,_,hk⟩:=gW h1
    rw [hk k0 rfl]
    simp [builtin,Builtin.cap_,e0,run_underlying hu,goInt]
   ·cases h
  ·rename_i hev
   split at h
   ·rename_i hsl
    simp only [Option.some.injEq,Prod.mk.injEq] at h;obtain ⟨_,rfl,rfl⟩:=h
    obtain ⟨t,e,e0,hu⟩:=jv hV hsl
    obtain ⟨c1,_,e1,h1,hl⟩:=(fh hev r).cons_inv
    cases hl
    refine .same r.heap (dv _ _) ?_
    rw [hrun,hargs,e1,h1.raw]
    simp [builtin,Builtin.cap_,e0,run_underlying hu,goInt]
   ·cases h
  ·rename_i d x hev
   split at h
   ·rename_i t ht
    split at h
    ·rename_i dd hdd
     split at h
     ·rename_i et de hde
      split at h
      ·rename_i hsl
       obtain ⟨he1,he2⟩:=mr hV hde
       have hdesc:dd.desc=.slice et:=by
        rcases he2 with h' | ⟨m,h'⟩
        ·exact h'
        ·unfold su at hsl;rw [h'] at hsl;cases hsl
       have hu:=(hV.ty _ _ hdd).1
       rw [hdesc] at hu
       obtain ⟨c1,_,e1,h1,hl⟩:=(fh hev r).cons_inv
       obtain ⟨c2,_,e2,h2,hl⟩:=hl.cons_inv
       cases hl
       obtain ⟨w',u,hcr,hH,hR⟩:=RB (ty:=o.type) ht hu he1 h hq r.heap h1 h2
       refine ⟨ι,w',u,Ext.refl ι,hH,hR,.inl ?_⟩
       rw [hrun,hargs,e1,e2]
       simp only [builtin,Sem.run_bind,hcr,Result.andThen,Sem.run_pure]
      ·cases h
     ·cases h
    ·cases h
   ·cases h
  ·cases h
 case h_22 t ln cp hop=>
  split at h
  ·rename_i d l c hd hl hc
   split at h
   ·rename_i et de hde
    split at h
    ·rename_i hsl
     obtain ⟨he1,he2⟩:=mr hV hde
     have hdesc:d.desc=.slice et:=by
      rcases he2 with h' | ⟨m,h'⟩
      ·exact h'
      ·unfold su at hsl;rw [h'] at hsl;cases hsl
     have hu:=(hV.ty _ _ hd).1
     rw [hdesc] at hu
     obtain ⟨ι',w',u,hcr,hE,hH,hR⟩:=Qp hu he1 h hq r.heap (bz hl r) (bz hc r)
     refine ⟨ι',w',u,hE,hH,hR,.inl ?_⟩
     simp only [execOp,hop,Sem.run_bind,hcr,Result.andThen,Sem.run_pure]
    ·cases h
   ·cases h
  ·cases h
 case h_23 t hop=>
  split at h
  ·simp only [Option.some.injEq,Prod.mk.injEq] at h;obtain ⟨_,rfl,rfl⟩:=h
   have hE:=Ext.add ι w.heap.size 0
   refine ⟨ι.add w.heap.size 0,w.alloc (.map #[] 0),.map (some w.heap.size),hE,?_,?_,.inl ?_⟩
   ·exact r.heap.alloc _ _ _ ⟨#[],0,heap_alloc_new,.nil⟩
   ·refine an rfl ?_
    rw [aD]
    exact ⟨w.heap.size,0,by rw [r.heap.len];exact ι.fK _ _,rfl⟩
   ·simp only [execOp,hop,Instr.makeMap,Option.map_none,Sem.run_bind,Sem.run_pure,Result.andThen]
    rfl
  simp only [Option.some.injEq,Prod.mk.injEq] at h;obtain ⟨_,rfl,rfl⟩:=h
  have hE:=Ext.add ι w.heap.size 0
  refine ⟨ι.add w.heap.size 0,w.alloc (.map #[] 0),.map (some w.heap.size),hE,?_,?_,.inl ?_⟩
  ·exact r.heap.alloc _ _ _ ⟨#[],0,heap_alloc_new,.nil⟩
  ·refine an rfl ?_
   rw [aD]
   exact ⟨w.heap.size,0,by rw [r.heap.len];exact ι.fK _ _,rfl⟩
  ·simp only [execOp,hop,Instr.makeMap,Option.map_none,Sem.run_bind,Sem.run_pure,Result.andThen]
   rfl
 case h_24 t m k x hop=>
  split at h
  ·rename_i d o' kk n u hd hm hk hu
   split at h
   ·rename_i kt et es hdesc ho
    split at h
    ·rename_i dk hdk
     split at h
     ·rename_i k0 hkd
      split at h
      ·rename_i hc
       simp only [Option.some.injEq,Prod.mk.injEq] at h;obtain ⟨_,rfl,rfl⟩:=h
       have h1:=(hV.ty _ _ hd).1
       have h2:=(hV.ty _ _ hdk).1
       rw [hdesc] at h1
       rw [hkd] at h2
       obtain ⟨w',hrun,hH⟩:=yu h1 h2 r.heap ho (bz hm r) (bz hu r) (j3 hc.2) hc.1
       refine ⟨ι,w',undef,Ext.refl ι,hH,eD,.inr ⟨?_,rfl⟩⟩
       simp only [execOp,hop,(bz hk r).int,Sem.run_bind,hrun,Result.andThen,Sem.run_pure]
      ·cases h
     ·cases h
    ·cases h
   ·cases h
  ·cases h
 case h_25 t m k ok hop=>
  split at h
  ·rename_i d ob kk n hd hm hk'
   split at h
   ·rename_i kt et es hdesc ho
    split at h
    ·rename_i dk de hdk hde
     split at h
     ·rename_i k0 hkd
      split at h
      ·rename_i v' fl' hlk
       simp only [Option.some.injEq,Prod.mk.injEq] at h;obtain ⟨_,rfl,rfl⟩:=h
       have h1:=(hV.ty _ _ hd).1
       have h2:=(hV.ty _ _ hdk).1
       rw [hdesc] at h1
       rw [hkd] at h2
       obtain ⟨v,fl,c,hg,hr,hrun⟩:=yn (ok:=ok) h1 h2 (hV.ty _ _ hde) r.heap ho (bz hm r) (Hw hlk)
       obtain ⟨rfl,rfl⟩:=hg
       refine .same r.heap hr ?_
       simp only [execOp,hop,(bz hk' r).int,Sem.run_bind,hrun,Result.andThen,Sem.run_pure]
      ·cases h
     ·cases h
    ·cases h
   ·rename_i kt et xs hdesc ho
    have h1:=(hV.ty _ _ hd).1
    rw [hdesc] at h1
    obtain ⟨rfl,rfl,c,hr,hrun⟩:=C1 hV h1 r.heap ho (bz hm r) h
    refine .same r.heap hr ?_
    simp only [execOp,hop,(bz hk' r).int,Sem.run_bind,hrun,Result.andThen,Sem.run_pure]
   ·cases h
  ·cases h
 case h_26 t m k x hop=>
  split at h
  ·rename_i d o' kk n u hd hm hk hu
   split at h
   ·rename_i kt et es hdesc ho
    split at h
    ·rename_i dk hdk
     split at h
     ·rename_i k0 hkd
      split at h
      ·rename_i hc
       simp only [Option.some.injEq,Prod.mk.injEq] at h;obtain ⟨_,rfl,rfl⟩:=h
       have h1:=(hV.ty _ _ hd).1
       have h2:=(hV.ty _ _ hdk).1
       rw [hdesc] at h1
       rw [hkd] at h2
       obtain ⟨w',hrun,hH⟩:=yu h1 h2 r.heap ho (bz hm r) (bz hu r) (j3 hc.2) hc.1
       refine ⟨ι,w',undef,Ext.refl ι,hH,eD,.inr ⟨?_,rfl⟩⟩
       simp only [execOp,hop,(bz hk r).int,Sem.run_bind,hrun,Result.andThen,Sem.run_pure]
      ·cases h
     ·cases h
    ·cases h
   ·rename_i kt et xs hdesc ho
    have h1:=(hV.ty _ _ hd).1
    rw [hdesc] at h1
    obtain ⟨rfl,w',hrun,hH⟩:=Qx hV h1 r.heap ho (bz hm r) (bz hu r) h
    refine ⟨ι,w',undef,Ext.refl ι,hH,eD,.inr ⟨?_,rfl⟩⟩
    simp only [execOp,hop,(bz hk r).int,Sem.run_bind,hrun,Result.andThen,Sem.run_pure]
   ·cases h
  ·cases h
 case h_27=>cases h
theorem qU {kt et:TypeId} {kk:IntKind} {n:Int} {ok:Bool} {xs:List (Int×Int)} {q:List Prop} {v:AV} {H':al} (hx:p9 E kt et kk n ok xs H=some (q,v,H')):q=[]∧H'=H:=by
 unfold p9 at hx
 repeat' split at hx
 all_goals first | (cases hx;done) | (simp only [Option.some.injEq,Prod.mk.injEq] at hx;exact ⟨hx.1.symm,hx.2.2.symm⟩)
theorem Ns {o:Oper} {go:AV→Prop} (h:Nt E T H o go):∃ v,kX E T H o=some ([],v,H)∧go v:=by
 unfold Nt at h
 split at h
 ·rename_i t m k ok hop
  split at h
  ·rename_i d ob kk n hd hm hk'
   split at h
   ·rename_i kt et es hdesc ho
    split at h
    ·rename_i dk de hdk hde
     split at h
     ·rename_i k0 hkd
      have hl:lz n kk de.zero (fun v fl=>go (ly ok v fl)) es:=by
       split at h
       ·rename_i v fl hmg;exact p8 (go:=fun v fl=>go (ly ok v fl)) hmg h
       ·exact h
      obtain ⟨v,fl,h1,h2⟩:=Hv hl
      exact ⟨ly ok v fl,by simp only [kX,hop,hd,hm,hk',hdesc,ho,hdk,hde,hkd,h1],h2⟩
     ·cases h
    ·cases h
   ·rename_i kt et xs hdesc ho
    split at h
    ·rename_i q v H' hx
     have hq:=qU hx
     obtain ⟨rfl,rfl⟩:=hq
     exact ⟨v,by simp only [kX,hop,hd,hm,hk',hdesc,ho,hx],h⟩
    ·cases h
   ·cases h
  ·cases h
 ·cases h
end Go.aA
end
section
namespace Go.aA
open Go.RowKit
def kZ (F:Fence) (n:Nat) (P:Program) (c:Code) (Q:Exit→Act→World→Prop) (a:Act) (w:World):Prop:=
 ∀ I:Act→World→Prop,(∀ a w,c.wpIn F n P (Exit.then I Q) a w→I a w)→I a w
theorem xU {K K':Act→World→Prop} {Q Q':Exit→Act→World→Prop} (h1:∀ a w,K a w→K' a w) (h2:∀ e a w,Q e a w→Q' e a w):∀ e a w,Exit.then K Q e a w→Exit.then K' Q' e a w:=by
 intro e a w h;cases e<;>first | exact h1 _ _ h | exact h2 _ _ _ h
theorem kZ.fold {F:Fence} {n:Nat} {P:Program} {c:Code} {Q:Exit→Act→World→Prop} {a:Act} {w:World} (h:c.wpIn F n P (Exit.then (kZ F n P c Q) Q) a w):kZ F n P c Q a w:=
 fun I hI=>hI a w (wpIn_mono h (xU (fun _ _ k=>k I hI) (fun _ _ _ k=>k)))
theorem kZ.mono {F:Fence} {n:Nat} {P:Program} {c:Code} {Q Q':Exit→Act→World→Prop} {a:Act} {w:World} (hq:∀ e a w,Q e a w→Q' e a w) (h:kZ F n P c Q a w):kZ F n P c Q' a w:=
 fun I hI=>h I fun a w k=>hI a w (wpIn_mono k (xU (fun _ _ k=>k) hq))
theorem kZ.wpIn {F:Fence} {n:Nat} {P:Program} {c:Code} {Q:Exit→Act→World→Prop} {a:Act} {w:World} (h:kZ F n P c Q a w):(Code.loop c).wpIn F n P Q a w:=by
 intro b k cs hro hb hr
 have key:=h (fun a w=>∃ e a' w',Q e a' w'∧ArrivesIn (Machine.fenced P F) P (lone (b.atR a (.code c :: .inLoop c :: k)) cs w) b k cs e a' w') (fun a w hc=>by
  obtain ⟨e,a₁,w₁,hq,harr⟩:=hc b (.inLoop c :: k) cs hro hb hr
  cases e with
  | normal=>
   obtain ⟨e₂,a₂,w₂,hq₂,harr₂⟩:=hq
   exact ⟨e₂,a₂,w₂,hq₂,.of_steps (StepsIn.trans harr (.one (fenced_calm hb hr rfl) stepR_inLoop)) harr₂⟩
  | exit id=>exact ⟨_,a₁,w₁,hq,.pass (x:=.inLoop c) rfl (fun _ _=>.inl (by simp)) harr⟩
  | goto l=>exact ⟨_,a₁,w₁,hq,.pass (x:=.inLoop c) rfl (fun _ _=>.inl (by simp)) harr⟩
  | ret=>exact ⟨_,a₁,w₁,hq,.pass (x:=.inLoop c) rfl (fun _ _=>.inl (by simp)) harr⟩
  | panic ch=>exact ⟨_,a₁,w₁,hq,.pass (x:=.inLoop c) rfl (fun _ _=>.inl (by simp)) harr⟩
  | outgrown=>exact ⟨_,a₁,w₁,hq,.pass (x:=.inLoop c) rfl (fun _ _=>.inl (by simp)) harr⟩)
 obtain ⟨e,a',w',hq,harr⟩:=key
 exact ⟨e,a',w',hq,.of_steps (.one (fenced_calm hb hr rfl) stepR_loop) harr⟩
def cj (ι:aq) (F:Fence) (n:Nat) (P:Program) (Q:Exit→Act→World→Prop):List It→Exit→Act→World→Prop
 | [],e,a,w=>Q e a w
 | .code c :: k,.normal,a,w=>c.wpIn F n P (cj ι F n P Q k) a w
 | .now c :: k,.normal,a,w=>c.wpIn F n P (cj ι F n P Q k) a w
 | .lp c :: k,.normal,a,w=>kZ F n P c (cj ι F n P Q k) a w
 | .ops all rest :: k,.normal,a,w=>wpListIn F n P all.toArray (cj ι F n P Q k) rest a w
 | .bB id :: k,.exit j,a,w=>if j=id then cj ι F n P Q k .normal a w else cj ι F n P Q k (.exit j) a w
 | .begin l :: k,.normal,a,w=>∀ b z,ι.bB[l]?=some (b,z)→∃ w₂,(Instr.beginRound b).run P w=.ok () w₂∧cj ι F n P Q k .normal a w₂
 | .fin l :: k,.normal,a,w=>∀ b z,ι.bB[l]?=some (b,z)→∃ jump w₄,(Instr.endLoop b).run P w=.ok jump w₄∧
   (match jump with | none=>cj ι F n P Q k .normal a w₄ | some c=>c.wpIn F n P (cj ι F n P Q k) a w₄)
 | .PL :: _,.goto _,_,_=>False
 | .begin _ :: _,_,_,_=>False
 | .fin _ :: _,_,_,_=>False
 | _ :: k,e,a,w=>cj ι F n P Q k e a w
theorem jE {F:Fence} {n:Nat} {P:Program} {ops:Array Oper} {Q Q':Exit→Act→World→Prop} (hq:∀ e a w,Q e a w→Q' e a w):∀ (l:List Oper) (a:Act) (w:World),
  wpListIn F n P ops Q l a w→wpListIn F n P ops Q' l a w
 | [],_,_,h=>hq _ _ _ h
 | o :: l,a,w,h=>by
  unfold wpListIn at *
  split
  ·rename_i hw
   rw [if_pos hw] at h
   obtain ⟨ha,h⟩:=h
   refine ⟨ha,?_⟩
   have ih:=jE (F:=F) (n:=n) (P:=P) (ops:=ops) hq l
   have hlo:LetsOut Q→LetsOut Q':=fun ⟨a,w,h⟩=>⟨a,w,hq _ _ _ h⟩
   generalize (o.semAt F.round a.eval).run P w=r at h ⊢
   cases r with
   | ok x w'=>
    cases x<;>first
     | exact ih _ _ h
     | exact h
     | (refine ⟨h.1,h.2.mono ?_⟩;intro e w'' k;cases e<;>first | exact ih _ _ k | exact hq _ _ _ k | exact hlo k)
     | (refine ⟨h.1,h.2.mono ?_⟩;intro e w'' k;exact ih _ _ k)
   | halt x w'=>cases x<;>first | exact hq _ _ _ h | exact h
  ·rename_i hw
   rw [if_neg hw] at h
   exact ⟨h.1,jE hq l _ _ h.2⟩
theorem dX {ι ι':aq} {F:Fence} {n:Nat} {P:Program} {Q Q':Exit→Act→World→Prop} (hb:∀ (i:Nat) x,ι.bB[i]?=some x→ι'.bB[i]?=some x) (hq:∀ e a w,Q e a w→Q' e a w):
  ∀ (k:List It) (e:Exit) (a:Act) (w:World),cj ι' F n P Q k e a w→cj ι F n P Q' k e a w
 | [],e,a,w,h=>hq _ _ _ h
 | it :: k,e,a,w,h=>by
  have ih:=dX (F:=F) (n:=n) (P:=P) hb hq k
  cases it with
  | code c=>cases e<;>first | exact ih _ _ _ h | exact wpIn_mono h ih
  | now c=>cases e<;>first | exact ih _ _ _ h | exact wpIn_mono h ih
  | lp c=>cases e<;>first | exact ih _ _ _ h | exact kZ.mono ih h
  | ops all rest=>cases e<;>first | exact ih _ _ _ h | exact jE ih _ _ _ h
  | PL=>cases e<;>first | exact h.elim | exact ih _ _ _ h
  | bB id=>
   cases e<;>first | exact ih _ _ _ h | skip
   simp only [cj] at h ⊢
   split
   ·rename_i e;rw [if_pos e] at h;exact ih _ _ _ h
   ·rename_i e;rw [if_neg e] at h;exact ih _ _ _ h
  | begin l=>
   cases e<;>first | exact h | skip
   intro b z e
   obtain ⟨w₂,h1,h2⟩:=h b z (hb _ _ e)
   exact ⟨w₂,h1,ih _ _ _ h2⟩
  | fin l=>
   cases e<;>first | exact h | skip
   intro b z e
   obtain ⟨j,w₄,h1,h2⟩:=h b z (hb _ _ e)
   refine ⟨j,w₄,h1,?_⟩
   cases j with
   | none=>exact ih _ _ _ h2
   | some c=>exact wpIn_mono h2 ih
def JG (b:Nat):Deferred:={target:=.collected b,args:=#[]}
def tx (ι:aq) (D:List Nat) (ds:List Deferred):Prop:=aL (fun d (x:Deferred)=>∃ b z,ι.bB[d]?=some (b,z)∧x=JG b) D ds
def Ta (ι:aq) (bs:List Nat):Prop:=bs.Nodup∧∀ b∈bs,ι.aM b=some (.deferred (some []))∧ι.w0.heap.size≤b
def iB (t:Bool) (ι:aq) (D:List Nat) (ds:List Deferred):Prop:=∃ ds1 bs,ds=ds1++bs.map JG∧tx ι D ds1∧(t=false→bs=[])∧Ta ι bs
theorem tx.mono {ι ι':aq} (h:Ext ι ι') {D:List Nat} {ds:List Deferred} (k:tx ι D ds):tx ι' D ds:=
 aL.imp (fun _ _ ⟨b,z,e,h'⟩=>⟨b,z,h.bB _ _ e,h'⟩) k
theorem Ta.mono {ι ι':aq} (h:Ext ι ι') {bs:List Nat} (k:Ta ι bs):Ta ι' bs:=
 ⟨k.1,fun b hb=>⟨h.aM _ _ (k.2 b hb).1,by rw [h.w0];exact (k.2 b hb).2⟩⟩
theorem iB.mono {t:Bool} {ι ι':aq} (h:Ext ι ι') {D:List Nat} {ds:List Deferred} (k:iB t ι D ds):iB t ι' D ds:=by
 obtain ⟨ds1,bs,e,k1,k2,k3⟩:=k
 exact ⟨ds1,bs,e,k1.mono h,k2,k3.mono h⟩
theorem iB.nil {t:Bool} {ι:aq}:iB t ι [] []:=⟨[],[],rfl,.nil,fun _=>rfl,.nil,fun b hb=>by cases hb⟩
theorem iB.cons {t:Bool} {ι:aq} {d:Nat} {D:List Nat} {ds:List Deferred} {b z:Nat} (h:ι.bB[d]?=some (b,z)) (k:iB t ι D ds):iB t ι (d :: D) (JG b :: ds):=by
 obtain ⟨ds1,bs,e,k1,k2,k3⟩:=k
 exact ⟨JG b :: ds1,bs,by rw [e];rfl,.cons ⟨b,z,h,rfl⟩ k1,k2,k3⟩
def Env.j7 (E:Env) (k:FK):Bool:=E.EE&&DE k
abbrev Ez:=Exit→List AV→List Nat→al→Prop
structure tR (β:Nat) (ι ι':aq):Prop where
 w0:ι'.w0=ι.w0
 aM:∀ b o,ι.aM b=some o→ι'.aM b=some o
 bB:∀ (i:Nat) x,i < β→ι.bB[i]?=some x→ι'.bB[i]?=some x
 gh:∀ b,b < ι.w0.heap.size→ι'.aM b=ι.aM b
theorem tR.refl (β:Nat) (ι:aq):tR β ι ι:=⟨rfl,fun _ _ h=>h,fun _ _ _ h=>h,fun _ _=>rfl⟩
theorem tR.after {β:Nat} {a b c:aq} (h:Ext a b) (k:tR β b c):tR β a c:=
 ⟨k.w0.trans h.w0,fun x o e=>k.aM x o (h.aM x o e),fun i x hi e=>k.bB i x hi (h.bB i x e),fun x hx=>(k.gh x (by rw [h.w0];exact hx)).trans (h.gh x hx)⟩
theorem tR.full {β:Nat} {a b:aq} (h:tR β a b) (hl:β=a.bB.length):Ext a b:=
 ⟨h.w0,h.aM,fun i x e=>h.bB i x (by rw [hl];exact Blk.lt e) e,h.gh⟩
def lift (E:Env) (t:Bool) (β:Nat) (ι:aq) (p:Ez):Exit→Act→World→Prop:=fun e a w=>∃ ι' T D H,tR β ι ι'∧gi E ι' T H a w∧iB t ι' D a.defers∧p e T D H
theorem iR {E:Env} {t:Bool} {β:Nat} {ι ι':aq} {p:Ez} (h:Ext ι ι'):∀ e a w,lift E t β ι' p e a w→lift E t β ι p e a w:=
 fun _ _ _ ⟨ι2,T,D,H,e,k⟩=>⟨ι2,T,D,H,tR.after h e,k⟩
def rM (ι:aq) (l:Nat):Nat:=match ι.bB[l]? with | some (b,_)=>b | none=>0
def ay (ι:aq):FK→Fence
 | .round l _=>Fence.wide.inRound (rM ι l)
 | _=>Fence.wide
def EF (ι:aq):FK→Prop
 | .round l _=>∃ b z,ι.bB[l]?=some (b,z)
 | _=>True
theorem dV {ι ι':aq} (h:Ext ι ι') {k:FK} (hk:EF ι k):ay ι' k=ay ι k:=by
 cases k<;>first | rfl | skip
 obtain ⟨b,z,e⟩:=hk
 simp only [ay,rM,e,h.bB _ _ e]
theorem EF.mono {ι ι':aq} (h:Ext ι ι') {k:FK} (hk:EF ι k):EF ι' k:=by
 cases k<;>first | trivial | skip
 obtain ⟨b,z,e⟩:=hk
 exact ⟨b,z,h.bB _ _ e⟩
theorem gi.mono {E:Env} {ι ι':aq} {T:List AV} {H H':al} {a:Act} {w w':World} (r:gi E ι T H a w) (h:Ext ι ι') (hh:aE ι' H' w'):gi E ι' T H' a w':=
 ⟨hh,aL.imp (fun _ _=>cP h) r.tmps,r.cI.mono h⟩
def jc (E:Env) (fr:Fr) (p:Ez) (H:al):Prop:=
 ∀ n ι a w,gi E ι fr.T H a w→iB (E.j7 fr.kind) ι fr.D a.defers→EF ι fr.kind→cj ι (ay ι fr.kind) n E.P (lift E (E.j7 fr.kind) fr.base ι p) fr.items .normal a w
def sr:Exit→Option (Option Code)
 | .normal=>some none
 | .ret=>some (some .ret)
 | .exit j=>some (some (.exit j))
 | _=>none
def KW (E:Env) (Q:AV→al→Prop):List Fr→FK→FuncId→Ez
 | aF,kind,f=>fun e T D H=>
  match kind,aF with
  | .round l dst,fr' :: stk'=>∃ j,sr e=some j∧D=[]∧∃ s p g T0 ps c b d,H[l]?=some (.loop s p g T0 ps c b d)∧
    jc E {fr' with T:=bZ fr'.T dst (.bool j.isNone)} (KW E Q stk' fr'.kind fr'.id) (H.set l (.loop (if j.isNone then .ready else .done) j g T0 ps c b d))
  | kind,aF=>(∃ j,sr e=some j∧HM j=true)∧∃ fn H' q v,E.fns f=some fn∧gP H D=some H'∧Fb E H' T fn=some (q,v)∧holds q∧
    match kind,aF with
    | .top,[]=>Q v H'
    | .call dst,fr' :: stk'=>jc E {fr' with T:=bZ fr'.T dst v} (KW E Q stk' fr'.kind fr'.id) H'
    | .iter _,fr' :: stk'=>jc E fr' (KW E Q stk' fr'.kind fr'.id) H'
    | _,_=>False
def WW (E:Env) (Q:AV→al→Prop):qk:=fun fr aF H=>jc E fr (KW E Q aF fr.kind fr.id) H
end Go.aA
end
section
namespace Go.aA
open Go.RowKit
variable {E:Env} {ι:aq} {T:List AV} {H:al} {a:Act} {w:World}
def fJ (c:TC) (x:c.den):List AV:=
 match c with
 | .unit=>[]
 | c=>(c.both x).2
def vX (pr:Nat→Option Obj) (w w':World):Nat→Option Obj:=fun b=>if b < w.heap.size then pr b else w'.heap[b]?
def FD (e:Own) (w w':World):(c:TC)→c.den→Value→Prop
 | .slice c,xs,v=>c.flat=true∧∃ t,e=.row t∧∃ b k cells l r,v=.slice (some ⟨b,0,none⟩) xs.length k∧w.heap.size≤b∧w'.heap[b]?=some (.cells cells t (0,0))∧cells.toList=l++r∧
   bV (bD ⟨w,fun _=>none,⟨[]⟩⟩ c) xs l∧xs.length≤k∧k * c.size≤cells.size
 | .a8,_,v=>∃ es,e=.mp es∧∃ b ents clock,v=.map (some b)∧w.heap.size≤b∧w'.heap[b]?=some (.map ents clock)∧
   ∀ ι,aL (fun (e:AV×AV) (c:MapEntry)=>bW ι e.1 c.key∧bW ι e.2 c.val) es ents.toList
 | _,_,_=>False
def au (E:Env) (f:FuncId) (sp:Spec):Prop:=
 ∀ (x:sp.dg.den) (w:World) (pr:Nat→Option Obj) (args:List Value),sp.pre x→(∀ b o,pr b=some o→w.heap[b]?=some o)→cS E ⟨w,pr,⟨[]⟩⟩→
  aL (ak ⟨w,pr,⟨[]⟩⟩) (fJ sp.dg x) args→
  jD E.P f args.toArray w fun c w'=>Below w.heap.size w w'∧ak ⟨w,vX pr w w',⟨[]⟩⟩ (nV sp.n sp.bG (sp.f x)) c∧∀ e,sp.own=some e→FD e w w' sp.bG (sp.f x) c
theorem Pc:∀ (c:TC) (v:AV) (x:c.den),c.back.1 v=some x→dJ v=dJ (tN c x)∧qQ v=true:=by
 intro c
 cases c<;>intro v x h<;>simp only [TC.back] at h<;>(split at h<;>first | exact ⟨rfl,rfl⟩ | cases h | skip)
 rename_i hv
 cases v<;>first | exact ⟨rfl,rfl⟩ | cases hv
theorem sL {c:TC} {v:AV} {x:c.den} {u:Value} (h:c.back.1 v=some x) (k:ak ι v u):ak ι (tN c x) u:=by
 obtain ⟨h1,h2⟩:=Pc c v x h
 cases ha:dJ v with
 | true=>
  obtain ⟨cs,hr,rfl⟩:=k.agg ha
  exact gu (h1▸ha) (eV.2 (oZ h hr))
 | false=>exact an (h1▸ha) (eV.2 (oZ h (k.one ha (j3 h2))))
theorem fV:∀ (c:TC) (vs:List AV) (x:c.den) (us:List Value),c.back.2 vs=some x→aL (ak ι) vs us→aL (ak ι) (c.both x).2 us:=by
 have one:∀ (c:TC) (vs:List AV) (x:c.den) (us:List Value),oneOf c.back.1 vs=some x→aL (ak ι) vs us→aL (ak ι) [tN c x] us:=by
  intro c vs x us h k
  obtain ⟨v,rfl,hv⟩:=kJ h
  obtain ⟨u,_,rfl,h1,h2⟩:=k.cons_inv
  cases h2
  exact .cons (sL hv h1) .nil
 intro c
 induction c with
 | st a r iha ihr=>
  intro vs x us h k
  simp only [TC.back] at h
  split at h
  ·rename_i v l
   split at h
   ·rename_i y hy
    split at h
    ·rename_i z hz
     simp only [Option.some.injEq] at h;subst h
     obtain ⟨u,us',rfl,h1,h2⟩:=k.cons_inv
     simp only [TC.both]
     exact .cons (sL hy h1) (ihr _ _ _ hz h2)
    ·cases h
   ·cases h
  ·cases h
 | a7 a iha=>intro vs x us h k;exact one a vs x us h k
 | int k=>intro vs x us h k';exact one (.int k) vs x us h k'
 | bool=>intro vs x us h k';exact one .bool vs x us h k'
 | str=>intro vs x us h k';exact one .str vs x us h k'
 | unit=>intro vs x us h k';exact one .unit vs x us h k'
 | slice c _=>intro vs x us h k';exact one (.slice c) vs x us h k'
 | arr n c _=>intro vs x us h k';exact one (.arr n c) vs x us h k'
 | ref c _=>intro vs x us h k';exact one (.ref c) vs x us h k'
 | a8=>intro vs x us h k';exact one .a8 vs x us h k'
theorem rO {c:TC} {vs:List AV} {x:c.den} {us:List Value} (h:oH c vs=some x) (k:aL (ak ι) vs us):aL (ak ι) (fJ c x) us:=by
 cases c with
 | unit=>
  cases vs with
  | nil=>cases k;exact .nil
  | cons v vs=>simp [oH] at h
 | int kk=>exact fV (.int kk) vs x us h k
 | bool=>exact fV .bool vs x us h k
 | str=>exact fV .str vs x us h k
 | st a r=>exact fV (.st a r) vs x us h k
 | a7 a=>exact fV (.a7 a) vs x us h k
 | slice c=>exact fV (.slice c) vs x us h k
 | arr n c=>exact fV (.arr n c) vs x us h k
 | ref c=>exact fV (.ref c) vs x us h k
 | a8=>exact fV .a8 vs x us h k
end Go.aA
end
section
namespace Go.aA
open Go.RowKit
variable {E:Env} {ι:aq} {T:List AV} {H:al} {a:Act} {w:World}
def jL (ι ι':aq):Prop:=∀ b o,ι.aM b=some o→ι'.aM b=some o
theorem di {ι ι':aq}:∀ (c:TC),(c.flat=true∨jL ι ι')→∀ (x:c.den) (cs:List Value),bD ι c x cs→bD ι' c x cs
 | .int _,_,_,_,k=>k
 | .bool,_,_,_,k=>k
 | .str,_,_,_,k=>k
 | .unit,_,_,_,k=>k
 | .st a r,h,_,_,⟨l,m,e,k1,k2⟩=>
  have h':(a.flat=true∧r.flat=true)∨jL ι ι':=h.imp (fun h=>by simpa [TC.flat] using h) id
  ⟨l,m,e,di a (h'.imp (·.1) id) _ _ k1,di r (h'.imp (·.2) id) _ _ k2⟩
 | .a7 a,h,_,_,k=>di a h _ _ k
 | .slice _,_,_,_,⟨v,e,.inl k⟩=>⟨v,e,.inl k⟩
 | .slice c,h,_,_,⟨v,e,.inr ⟨b,off,kk,cells,t,fz,l,e1,hk,hp,hr,ha⟩⟩=>
  have h':jL ι ι':=h.resolve_left (by simp [TC.flat])
  ⟨v,e,.inr ⟨b,off,kk,cells,t,fz,l,e1,hk,h' _ _ hp,hr.mono (fun x l=>di c (.inr h') x l),ha⟩⟩
 | .arr _ c,h,_,_,⟨hn,hr⟩=>⟨hn,hr.mono (fun x l=>di c h x l)⟩
 | .ref c,h,_,_,⟨b,off,cells,t,fz,l,e,hp,hr,ha⟩=>
  have h':jL ι ι':=h.resolve_left (by simp [TC.flat])
  ⟨b,off,cells,t,fz,l,e,h' _ _ hp,di c (.inr h') _ _ hr,ha⟩
 | .a8,_,_,_,k=>k
theorem FF:∀ (c:TC) (x:c.den),qQ (tN c x)=true:=by intro c x;cases c<;>rfl
theorem sK {ι ι':aq} {c:TC} {x:c.den} {u:Value} (h:c.flat=true∨jL ι ι') (k:ak ι (tN c x) u):ak ι' (tN c x) u:=by
 cases ha:dJ (tN c x) with
 | true=>
  obtain ⟨cs,hr,rfl⟩:=k.agg ha
  exact gu ha (eV.2 (di c h _ _ (eV.1 hr)))
 | false=>exact an ha (eV.2 (di c h _ _ (eV.1 (k.one ha (j3 (FF c x))))))
theorem fU {ι ι':aq}:∀ (c:TC),(c.flat=true∨jL ι ι')→∀ (x:c.den) (us:List Value),aL (ak ι) (c.both x).2 us→aL (ak ι') (c.both x).2 us:=by
 have one:∀ (c:TC),(c.flat=true∨jL ι ι')→∀ (x:c.den) (us:List Value),aL (ak ι) [tN c x] us→aL (ak ι') [tN c x] us:=by
  intro c h x us k
  obtain ⟨u,_,rfl,k1,k2⟩:=k.cons_inv
  cases k2
  exact .cons (sK h k1) .nil
 intro c
 induction c with
 | st a r _ ihr=>
  intro h x us k
  have h':(a.flat=true∧r.flat=true)∨jL ι ι':=h.imp (fun h=>by simpa [TC.flat] using h) id
  simp only [TC.both] at k ⊢
  obtain ⟨u,us',rfl,k1,k2⟩:=k.cons_inv
  exact .cons (sK (c:=a) (h'.imp (·.1) id) k1) (ihr (h'.imp (·.2) id) _ _ k2)
 | a7 a _=>intro h x us k;exact one a h x us k
 | int k=>intro h x us k';exact one (.int k) h x us k'
 | bool=>intro h x us k';exact one .bool h x us k'
 | str=>intro h x us k';exact one .str h x us k'
 | unit=>intro h x us k';exact one .unit h x us k'
 | slice c _=>intro h x us k';exact one (.slice c) h x us k'
 | arr n c _=>intro h x us k';exact one (.arr n c) h x us k'
 | ref c _=>intro h x us k';exact one (.ref c) h x us k'
 | a8=>intro h x us k';exact one .a8 h x us k'
theorem lO {ι ι':aq} {c:TC} {x:c.den} {us:List Value} (h:c.flat=true∨jL ι ι') (k:aL (ak ι) (fJ c x) us):aL (ak ι') (fJ c x) us:=by
 cases c with
 | unit=>cases k;exact .nil
 | int kk=>exact fU (.int kk) h x us k
 | bool=>exact fU .bool h x us k
 | str=>exact fU .str h x us k
 | st a r=>exact fU (.st a r) h x us k
 | a7 a=>exact fU (.a7 a) h x us k
 | slice c=>exact fU (.slice c) h x us k
 | arr n c=>exact fU (.arr n c) h x us k
 | ref c=>exact fU (.ref c) h x us k
 | a8=>exact fU .a8 h x us k
theorem BH:∀ (c:TC) (x:c.den),∀ v∈(c.both x).2,qQ v=true:=by
 intro c
 induction c with
 | st a r _ ihr=>intro x v hv;simp only [TC.both,List.mem_cons] at hv;rcases hv with rfl | hv;exact FF a x.1;exact ihr _ v hv
 | a7 a _=>intro x v hv;simp only [TC.both,List.mem_singleton] at hv;subst hv;exact FF a x
 | _=>intro x v hv;simp only [TC.both,List.mem_singleton] at hv;subst hv;rfl
theorem rU {vs:List AV} {us:List Value} (h:∀ v∈vs,qQ v=true):aL (bW ι) vs us↔aL (ak ι) vs us:=by
 constructor
 ·intro k
  induction k with
  | nil=>exact .nil
  | cons h1 _ ih=>exact .cons ((fO (j3 (h _ (by simp)))).2 h1) (ih fun v hv=>h v (by simp [hv]))
 ·intro k
  induction k with
  | nil=>exact .nil
  | cons h1 _ ih=>exact .cons ((fO (j3 (h _ (by simp)))).1 h1) (ih fun v hv=>h v (by simp [hv]))
theorem oQ {ι ι':aq} {n:Nat} {c:TC} {x:c.den} {u:Value} (h:c.flat=true∨jL ι ι') (k:ak ι (nV n c x) u):ak ι' (nV n c x) u:=by
 unfold nV at *
 split
 ·rename_i e;rw [if_pos e] at k;exact sK h k
 ·rename_i e;rw [if_neg e] at k
  split
  ·rename_i e';rw [if_pos e'] at k;obtain ⟨l,rfl,k⟩:=k;cases k;exact ⟨[],rfl,.nil⟩
  ·rename_i e';rw [if_neg e'] at k
   obtain ⟨l,rfl,k⟩:=k
   exact ⟨l,rfl,(rU (BH c x)).2 (fU c h x l ((rU (BH c x)).1 k))⟩
theorem jD.mono {P:Program} {f:FuncId} {args:Array Value} {R R':Value→World→Prop} (h:jD P f args w R) (hr:∀ c w',R c w'→R' c w'):jD P f args w R':=by
 rcases h with ⟨v,h1,h2⟩ | ⟨h1,h2⟩
 ·exact .inl ⟨v,h1,hr _ _ h2⟩
 ·exact .inr ⟨h1,h2.mono fun e w' ⟨v,he,k⟩=>⟨v,he,hr _ _ k⟩⟩
theorem xX {f:FuncId} {sp:Spec} (hsp:au E f sp) (hfl:sp.bG.flat=true) {vs us:List AV} {q:List Prop} {x:sp.dg.den} {args:List Value} (hv:views H vs=some (q,us)) (hq:holds q)
  (hx:oH sp.dg us=some x) (hp:sp.pre x) (r:aE ι H w) (hg:cS E ι) (ha:aL (ak ι) vs args):
  jD E.P f args.toArray w fun c w'=>∃ ι',Ext ι ι'∧aE ι' H w'∧ak ι' (nV sp.n sp.bG (sp.f x)) c:=by
 have hS:Sub ι (ι.all w):=⟨fun b _ _ _ e=>r.aM b _ e,fun _ _ h=>h⟩
 have h1:=kC r hS vs us q args (fun o _ own t v b z _ _=>rfl) hv hq ha
 have h2:=rO hx h1
 have h3:aL (ak ⟨w,fun b=>w.heap[b]?,⟨[]⟩⟩) (fJ sp.dg x) args:=lO (ι:=ι.all w) (.inr fun b o e=>e) h2
 refine (hsp x w (fun b=>w.heap[b]?) args hp (fun b o e=>e) (hg.sub r.aM) h3).mono ?_
 ·intro c w' ⟨hB,hr,_⟩
  exact ⟨ι.grown w w',r.kz w',r.grown hB,oQ (.inl hfl) hr⟩
theorem xV {f:FuncId} {sp:Spec} (hsp:au E f sp) {vs us:List AV} {q:List Prop} {x:sp.dg.den} {args:List Value} {H':al} (hf:eE H (cQ vs)=some H') (hv:views H' vs=some (q,us)) (hq:holds q)
  (hx:oH sp.dg us=some x) (hp:sp.pre x) (r:aE ι H w) (hg:cS E ι) (ha:aL (ak ι) vs args):
  jD E.P f args.toArray w fun c w'=>∃ ι',Ext ι ι'∧aE ι' H' w'∧ak ι' (nV sp.n sp.bG (sp.f x)) c:=by
 obtain ⟨ι1,hE1,r1,_,hfr⟩:=gY _ hf r
 have h1:=kC r1 (ι':=ι1) ⟨fun _ _ _ _ h=>h,fun _ _ h=>h⟩ vs us q args (fun o ho own t v b z e1 e2=>by
  obtain ⟨t',v',e⟩:=hfr o ho
  rw [e1] at e;cases e
  obtain ⟨cells,fz,l,rr,k1,k2,k3,k4,k5⟩:=r1.obj _ _ _ _ e1 e2
  have k5:ι1.aM b=some (.cells cells t fz):=k5
  rw [k5,k1]) hv hq (aL.imp (fun _ _=>cP hE1) ha)
 have h2:=rO hx h1
 have h3:aL (ak ⟨w,ι1.aM,⟨[]⟩⟩) (fJ sp.dg x) args:=lO (ι:=ι1) (.inr fun b o e=>e) h2
 refine (hsp x w ι1.aM args hp r1.aM (hg.sub hE1.aM) h3).mono ?_
 ·intro c w' ⟨hB,hr,_⟩
  exact ⟨ι1.grown w w',hE1.trans (r1.kz w'),r1.grown hB,oQ (ι:=⟨w,vX ι1.aM w w',⟨[]⟩⟩) (.inr fun b o e=>e) hr⟩
theorem aE.S6 {w':World} (h:aE ι H w) (hB:Below w.heap.size w w') {b z:Nat} {x:aG} (hb:w.heap.size≤b) (hlt:b < w'.heap.size)
  (hx:∀ ι',fL ι' w' b z x) (hne:x≠.hole:=by exact nofun):
  ∃ ι',Ext ι ι'∧aE ι' (H++[x]) w'∧ι'.bB[H.length]?=some (b,z):=by
 have hsz:w.heap.size≤w'.heap.size:=hB.size
 let ι':aq:={ι with aM:=fun k=>if k=b then none else if k < w.heap.size then ι.aM k else w'.heap[k]?,bB:=ι.bB.push (b,z)}
 have hE:Ext ι ι':=⟨rfl,fun k o e=>by
   have hk:=h.fQ e
   show (if k=b then none else if k < w.heap.size then ι.aM k else w'.heap[k]?)=some o
   rw [if_neg (by omega),if_pos hk];exact e,fun i y e=>by
   show (ι.bB.push (b,z))[i]?=some y
   rw [Blk.lu (Blk.lt e)];exact e,fun k hk=>by
   have hs:=h.base.size
   show (if k=b then none else if k < w.heap.size then ι.aM k else w'.heap[k]?)=ι.aM k
   rw [if_neg (by omega),if_pos (by omega)]⟩
 have hprot:∀ k o,ι.aM k=some o→w'.heap[k]?=some o:=fun k o e=>by rw [hB.block k (h.fQ e)];exact h.aM _ _ e
 have gh:∀ {i:Nat} {b' z':Nat} {y:aG},(H++[x])[i]?=some y→(ι.bB.push (b,z))[i]?=some (b',z')→
   (H[i]?=some y∧ι.bB[i]?=some (b',z'))∨(i=H.length∧y=x∧b'=b∧z'=z):=by
  intro i b' z' y e1 e2
  rcases Nat.lt_or_ge i H.length with hi | hi
  ·left
   rw [List.getElem?_append_left hi] at e1
   rw [Blk.lu (h.len▸hi)] at e2
   exact ⟨e1,e2⟩
  ·right
   have:i < (H++[x]).length:=(List.getElem?_eq_some_iff.1 e1).1
   simp at this
   have hi':i=H.length:=by omega
   subst hi'
   simp at e1
   rw [h.len,Blk.qL] at e2
   cases e2
   exact ⟨rfl,e1.symm,rfl,rfl⟩
 refine ⟨ι',hE,⟨h.gD.app hne _,?_,?_,?_,?_,?_⟩,by rw [h.len];exact Blk.qL⟩
 ·intro k o e
  have e:(if k=b then none else if k < w.heap.size then ι.aM k else w'.heap[k]?)=some o:=e
  split at e
  ·cases e
  ·split at e
   ·exact hprot k o e
   ·exact e
 ·intro i y b' z' e1 e2
  rcases gh e1 e2 with ⟨k1,k2⟩ | ⟨rfl,rfl,rfl,rfl⟩
  ·exact dm hE (fun ho=>hB.block _ (h.own _ _ _ _ k1 ho k2).2.1) hprot (h.obj _ _ _ _ k1 k2)
  ·exact hx _
 ·intro i y b' z' e1 ho e2
  rcases gh e1 e2 with ⟨k1,k2⟩ | ⟨rfl,rfl,rfl,rfl⟩
  ·have:=h.own _ _ _ _ k1 ho k2
   refine ⟨?_,by omega,this.2.2⟩
   show (if b'=b then none else if b' < w.heap.size then ι.aM b' else w'.heap[b']?)=none
   rw [if_neg (by omega),if_pos this.2.1];exact this.1
  ·refine ⟨?_,hlt,Nat.le_trans h.base.size hb⟩
   show (if b'=b' then none else _)=none
   rw [if_pos rfl]
 ·intro i j y y' b' z1 z2 e1 o1 e2 o2 b1 b2
  rcases gh e1 b1 with ⟨k1,k2⟩ | ⟨rfl,rfl,hb',_⟩
  ·rcases gh e2 b2 with ⟨k3,k4⟩ | ⟨rfl,rfl,hb',_⟩
   ·exact h.sep _ _ _ _ _ _ _ k1 o1 k3 o2 k2 k4
   ·have:=(h.own _ _ _ _ k1 o1 k2).2.1;omega
  ·rcases gh e2 b2 with ⟨k3,k4⟩ | ⟨rfl,rfl,_,_⟩
   ·have:=(h.own _ _ _ _ k3 o2 k4).2.1;omega
   ·rfl
 ·exact h.base.trans (hB.mono h.base.size)
theorem B7 {f:FuncId} {sp:Spec} (hsp:au E f sp) {e:Own} (ho:sp.own=some e) {vs us:List AV} {q:List Prop} {x:sp.dg.den} {args:List Value} {H':al} {v:AV} {ob:aG} (hf:eE H (cQ vs)=some H')
  (hv:views H' vs=some (q,us)) (hq:holds q) (hx:oH sp.dg us=some x) (hp:sp.pre x) (hown:M3 e H'.length sp.bG (sp.f x)=some (v,ob)) (r:aE ι H w) (hg:cS E ι) (ha:aL (ak ι) vs args):
  jD E.P f args.toArray w fun c w'=>∃ ι',Ext ι ι'∧aE ι' (H'++[ob]) w'∧ak ι' v c:=by
 obtain ⟨ι1,hE1,r1,_,hfr⟩:=gY _ hf r
 have h1:=kC r1 (ι':=ι1) ⟨fun _ _ _ _ h=>h,fun _ _ h=>h⟩ vs us q args (fun o ho own t v b z e1 e2=>by
  obtain ⟨t',v',e⟩:=hfr o ho
  rw [e1] at e;cases e
  obtain ⟨cells,fz,l,rr,k1,k2,k3,k4,k5⟩:=r1.obj _ _ _ _ e1 e2
  have k5:ι1.aM b=some (.cells cells t fz):=k5
  rw [k5,k1]) hv hq (aL.imp (fun _ _=>cP hE1) ha)
 have h2:=rO hx h1
 have h3:aL (ak ⟨w,ι1.aM,⟨[]⟩⟩) (fJ sp.dg x) args:=lO (ι:=ι1) (.inr fun b o e=>e) h2
 refine (hsp x w ι1.aM args hp r1.aM (hg.sub hE1.aM) h3).mono ?_
 intro c w' ⟨hB,_,hres⟩
 have hres:=hres e ho
 revert hown hres
 generalize sp.f x=y
 revert y
 generalize sp.bG=cd
 intro y hown hres
 cases cd<;>first | (cases hres;done) | skip
 ·rename_i c0
  obtain ⟨hfl,t,rfl,b,k,cells,l,rr,rfl,hb,hw,hcl,hrep,hk,hkz⟩:=hres
  simp only [M3,Option.some.injEq,Prod.mk.injEq] at hown
  obtain ⟨rfl,rfl⟩:=hown
  have hlt:b < w'.heap.size:=(Array.getElem?_eq_some_iff.1 hw).1
  obtain ⟨ι',hE,hH,hblk⟩:=r1.S6 hB hb hlt (z:=cells.size) (x:=.cell true t (.arr (List.length y) c0 y)) (fun ι'=>⟨cells,(0,0),l,rr,hw,hcl,rfl,by
   rw [aD];exact ⟨rfl,hrep.mono fun x l h=>di c0 (.inl hfl) x l h⟩,rfl⟩)
  refine ⟨ι',hE1.trans hE,hH,an rfl ?_⟩
  rw [aD]
  exact ⟨b,cells.size,k,hblk,by simp [aw],hk,by simpa [aw] using hkz,by simp⟩
 ·obtain ⟨es,rfl,b,ents,clock,rfl,hb,hw,hes⟩:=hres
  simp only [M3,Option.some.injEq,Prod.mk.injEq] at hown
  obtain ⟨rfl,rfl⟩:=hown
  have hlt:b < w'.heap.size:=(Array.getElem?_eq_some_iff.1 hw).1
  obtain ⟨ι',hE,hH,hblk⟩:=r1.S6 hB hb hlt (z:=0) (x:=.map es) (fun ι'=>⟨ents,clock,hw,hes ι'⟩)
  refine ⟨ι',hE1.trans hE,hH,an rfl ?_⟩
  rw [aD]
  exact ⟨b,0,hblk,rfl⟩
theorem J3 {v u:AV} {q:List Prop} {H2:al} {c:Value} (h:J4 H v=some (q,u,H2)) (hq:holds q) (r:aE ι H w) (k:ak ι v c):∃ ι',Ext ι ι'∧aE ι' H2 w∧ak ι' u c:=by
 have seen:∀ {os:List Nat} {ι1:aq} {H1:al},aE ι1 H1 w→(∀ o∈os,∃ t v,H1[o]?=some (aG.cell false t v))→Seen ι1 ι1 w H1 os:=by
  intro os ι1 H1 r1 hfr o ho own t v b z e1 e2
  obtain ⟨t',v',e⟩:=hfr o ho
  rw [e1] at e;cases e
  obtain ⟨cells,fz,l,rr,k1,k2,k3,k4,k5⟩:=r1.obj _ _ _ _ e1 e2
  have k5:ι1.aM b=some (.cells cells t fz):=k5
  rw [k5,k1]
 unfold J4 at h
 split at h
 ·rename_i vs
  split at h
  ·rename_i H1 hf
   split at h
   ·rename_i q' us hv
    split at h
    ·rename_i hnt
     simp only [Option.some.injEq,Prod.mk.injEq] at h;obtain ⟨rfl,rfl,rfl⟩:=h
     obtain ⟨ι1,hE1,r1,_,hfr⟩:=gY _ hf r
     obtain ⟨l,rfl,kl⟩:=cP hE1 k
     have h1:=kC r1 (ι':=ι1) ⟨fun _ _ _ _ h=>h,fun _ _ h=>h⟩ vs us q' l (seen r1 hfr) hv hq (aL.imp (fun _ _=>mI) kl)
     exact ⟨ι1,hE1,r1,l,rfl,(rU fun v hv=>List.all_eq_true.1 hnt v hv).2 h1⟩
    ·cases h
   ·cases h
  ·cases h
 ·split at h
  ·rename_i H1 hf
   split at h
   ·rename_i q' u' hv
    simp only [Option.some.injEq,Prod.mk.injEq] at h;obtain ⟨rfl,rfl,rfl⟩:=h
    obtain ⟨ι1,hE1,r1,_,hfr⟩:=gY _ hf r
    exact ⟨ι1,hE1,r1,uZ r1 ⟨fun _ _ _ _ h=>h,fun _ _ h=>h⟩ (seen r1 hfr) hv hq (cP hE1 k)⟩
   ·cases h
  ·cases h
end Go.aA
end
section
namespace Go.aA
open Go.RowKit
variable {E:Env} {ι:aq} {T:List AV} {H:al} {a:Act} {w:World}
theorem Bg {f:FuncId} {caps:List AV} {c:Value} (h:ak ι (.fn f caps) c):∃ l:List Value,c=.func (.func f) #[] l.toArray∧aL (ak ι) caps l:=by
 have:=h.one rfl rfl;rw [aD] at this
 obtain ⟨hc,l,e,k⟩:=this
 refine ⟨l,by simpa using e,?_⟩
 clear e h
 revert l
 induction caps with
 | nil=>intro l k;rw [cA] at k;rw [k.2];exact .nil
 | cons v vs ih=>
  intro l k
  simp only [List.length_cons,List.replicate_succ] at k
  rw [cA] at k
  obtain ⟨s,ss',l1,m,e1,rfl,e3,k1,k2⟩:=k
  simp only [List.cons.injEq] at e1
  obtain ⟨rfl,rfl⟩:=e1
  obtain ⟨c,rfl⟩:=List.length_eq_one_iff.1 e3
  simp only [List.all_cons,Bool.and_eq_true] at hc
  exact .cons (an (by simpa using hc.1) k1) (ih hc.2 m k2)
theorem RJ {f:FuncId} {fs:List AV} {c:Value} (h:ak ι (.yO f fs) c):∃ l:List Value,c=.func (.func f) l.toArray #[]∧aL (ak ι) fs l:=by
 have:=h.one rfl rfl;rw [aD] at this
 obtain ⟨hc,l,e,k⟩:=this
 have h2:ak ι (.fn f fs) (.func (.func f) #[] l.toArray):=an rfl (by rw [aD];exact ⟨hc,l,rfl,k⟩)
 obtain ⟨l',e',k'⟩:=Bg h2
 have:l=l':=by simpa using e'
 subst this
 exact ⟨l,by simpa using e,k'⟩
theorem Ax {d:Option Tmp} {v:AV} {c:Value} (h:aL (ak ι) T a.tmps.toList) (hv:ak ι v c):aL (ak ι) (bZ T d v) (a.put d c).tmps.toList:=by
 cases d with
 | none=>exact h
 | some d=>simp only [bZ,Act.put,Array.toList_setIfInBounds];exact h.set d v c hv
theorem put_defers {d:Option Tmp} {c:Value}:(a.put d c).defers=a.defers:=by cases d<;>rfl
theorem aL.Ca {α β:Type} {R:α→β→Prop} {l:List α} {m:List β} (k:aL R l m) (i:Nat) (x:α) (h:∀ b,m[i]?=some b→R x b):aL R (l.set i x) m:=by
 induction k generalizing i with
 | nil=>simpa using .nil
 | cons h1 t ih=>
  cases i with
  | zero=>exact .cons (h _ rfl) t
  | succ i=>exact .cons h1 (ih i (fun b e=>h b e))
theorem bQ (k:FK) (f:FuncId):(ay ι k).fn f:=by cases k<;>trivial
theorem ik (k:FK):(ay ι k).depth=none:=by cases k<;>rfl
theorem jK {k:FK} {n:Nat} {P:Program} {f:FuncId} {args:Array Value} {R:Ending→World→Prop} (h:CallsIn Fence.wide n P f args w R):CallsIn (ay ι k) n P f args w R:=by
 cases k<;>first | exact h | exact CallsIn.inRound _ h
theorem du {fr:Fr} {p:Ez} {H':al} {ι':aq} {w':World} {T':List AV} {d:Option Tmp} {v:AV} {c:Value} {n:Nat} (hW:jc E {fr with T:=bZ T' d v} p H') (hE:Ext ι ι') (hH:aE ι' H' w')
  (hv:ak ι' v c) (hT:aL (ak ι) T' a.tmps.toList) (hg:cS E ι) (hD:iB (E.j7 fr.kind) ι fr.D a.defers) (hk:EF ι fr.kind):cj ι (ay ι fr.kind) n E.P (lift E (E.j7 fr.kind) fr.base ι p) fr.items .normal (a.put d c) w':=by
 have h:=hW n ι' (a.put d c) w' ⟨hH,Ax (aL.imp (fun _ _=>cP hE) hT) hv,hg.mono hE⟩ (by rw [put_defers];exact hD.mono hE) (hk.mono hE)
 have hf:ay ι' fr.kind=ay ι fr.kind:=dV hE hk
 simp only [hf] at h
 exact dX hE.bB (iR hE) _ _ _ _ h
def pY (tmps:Array Value):ResultVar→Sem Value
 | .tmp t=>pure (tmps.getD t undef)
 | .cell b t=>do loadVar t (← asAddr (tmps.getD b undef))
theorem pX (hV:E.Valid) (r:gi E ι T H a w):∀ {l:List ResultVar} {vs:List AV} {q:List Prop},Cm E H T l=some (q,vs)→holds q→
  ∃ us:List Value,(l.mapM (pY a.tmps)).run E.P w=.ok us w∧aL (ak ι) vs us
 | [],vs,q,h,_=>by simp only [Cm,Option.some.injEq,Prod.mk.injEq] at h;obtain ⟨_,rfl⟩:=h;exact ⟨[],rfl,.nil⟩
 | x :: l,vs,q,h,hq=>by
  simp only [Cm] at h
  split at h
  ·rename_i q1 v1 q2 vs2 h1 h2
   simp only [Option.some.injEq,Prod.mk.injEq] at h;obtain ⟨rfl,rfl⟩:=h
   rw [bu] at hq
   obtain ⟨us,hrun,hu⟩:=pX hV r h2 hq.2
   have hx:∃ u,(pY a.tmps x).run E.P w=.ok u w∧ak ι v1 u:=by
    cases x with
    | tmp t=>
     simp only [TK] at h1
     split at h1
     ·rename_i v hv
      simp only [Option.some.injEq,Prod.mk.injEq] at h1;obtain ⟨_,rfl⟩:=h1
      obtain ⟨c,e,k⟩:=r.tmps.at t v hv
      exact ⟨c,by simp only [pY];rw [oq e];rfl,k⟩
     ·cases h1
    | cell b t=>
     simp only [TK] at h1
     split at h1
     ·rename_i v d hv hd
      split at h1
      ·rename_i q' u hl
       split at h1
       ·rename_i hc
        simp only [Option.some.injEq,Prod.mk.injEq] at h1;obtain ⟨rfl,rfl⟩:=h1
        obtain ⟨c,e,k⟩:=r.tmps.at b v hv
        obtain ⟨bb,off,hb,hst⟩:=C2 hl hq.1 r.heap k
        obtain ⟨cc,hrun,hr⟩:=wJ (hV.ty _ _ hd) hc.1 hc.2 hst
        refine ⟨cc,?_,hr⟩
        simp only [pY]
        rw [oq e,hb]
        simp only [Sem.run_bind,asAddr,Sem.run_pure,Result.andThen,hrun]
       ·cases h1
      ·cases h1
     ·cases h1
   obtain ⟨u,hxr,hxu⟩:=hx
   refine ⟨u :: us,?_,.cons hxu hu⟩
   rw [List.mapM_cons]
   simp only [Sem.run_bind,hxr,Result.andThen,hrun,Sem.run_pure]
  ·cases h
theorem GR (hV:E.Valid) (r:gi E ι T H a w) {fn:Func} {q:List Prop} {v:AV} (h:Fb E H T fn=some (q,v)) (hq:holds q):∃ c,(results fn a.tmps).run E.P w=.ok c w∧ak ι v c:=by
 have key:∀ us:List Value,(fn.results.toList.mapM (pY a.tmps)).run E.P w=.ok us w→(results fn a.tmps).run E.P w=.ok (if h:us.toArray.size=1 then us.toArray[0] else .tuple us.toArray) w:=fun us hu=>by
  have:(fn.results.mapM (pY a.tmps)).run E.P w=.ok us.toArray w:=by
   rw [Array.mapM_eq_mapM_toList];simp only [Sem.run_map,hu,Result.andThen]
  have h2:results fn a.tmps=(do
   let vs ← fn.results.mapM (pY a.tmps)
   pure (if h:vs.size=1 then vs[0] else .tuple vs)):=by
   unfold results
   congr 1
  rw [h2]
  simp only [Sem.run_bind,this,Result.andThen,Sem.run_pure]
 unfold Fb at h
 split at h
 ·rename_i q' v' hr
  simp only [Option.some.injEq,Prod.mk.injEq] at h;obtain ⟨rfl,rfl⟩:=h
  obtain ⟨us,hrun,hu⟩:=pX hV r hr hq
  obtain ⟨u,_,rfl,h1,h2⟩:=hu.cons_inv
  cases h2
  exact ⟨u,by rw [key _ hrun];simp,h1⟩
 ·rename_i q' vs hne hr
  split at h
  ·rename_i hnt
   simp only [Option.some.injEq,Prod.mk.injEq] at h;obtain ⟨rfl,rfl⟩:=h
   obtain ⟨us,hrun,hu⟩:=pX hV r hr hq
   refine ⟨.tuple us.toArray,?_,⟨us,rfl,(rU fun v hv=>List.all_eq_true.1 hnt v hv).2 hu⟩⟩
   rw [key _ hrun,dif_neg]
   intro h1
   have:=hu.len
   simp at h1
   rw [h1] at this
   obtain ⟨v,rfl⟩:=List.length_eq_one_iff.1 this
   first | exact hne v hr | exact hne v rfl | exact hne _ _ rfl | exact hne _ rfl
  ·cases h
 ·cases h
def Old (ι ι':aq):Prop:=ι'.w0=ι.w0∧∀ b,b < ι.w0.heap.size→ι'.aM b=ι.aM b
theorem Old.refl (ι:aq):Old ι ι:=⟨rfl,fun _ _=>rfl⟩
theorem Old.trans {a b c:aq} (h:Old a b) (k:Old b c):Old a c:=⟨k.1.trans h.1,fun x hx=>(k.2 x (by rw [h.1];exact hx)).trans (h.2 x hx)⟩
theorem Ext.toOld {a b:aq} (h:Ext a b):Old a b:=⟨h.w0,h.gh⟩
theorem yy (hV:E.Valid) {n:Nat} {F:Fence} {fn:Func} {R:Ending→World→Prop} {q:List Prop} {v:AV}:∀ {bs:List Nat} {ι:aq} {H:al} {w:World},Fb E H T fn=some (q,v)→holds q→
  aE ι H w→aL (ak ι) T a.tmps.toList→cS E ι→Ta ι bs→(∀ ι2 c w',Old ι ι2→aE ι2 H w'→ak ι2 v c→R (.returned c) w')→LeavesInM F n E.P fn a.tmps R (bs.map JG) .returning w
 | [],ι,H,w,hr,hq,hH,hT,hg,_,hR=>by
  obtain ⟨c,hrun,hv⟩:=GR hV (⟨hH,hT,hg⟩:gi E ι T H a w) hr hq
  exact ⟨c,hrun,hR ι c w (Old.refl ι) hH hv⟩
 | b :: bs,ι,H,w,hr,hq,hH,hT,hg,hf,hR=>by
  obtain ⟨hn,hb⟩:=hf
  obtain ⟨hp,hw⟩:=hb b (List.mem_cons_self ..)
  obtain ⟨hnb,hn⟩:=List.nodup_cons.1 hn
  have hS:=aq.Ej hp
  refine ⟨by simp,.inl ⟨b,w.putObj b (.deferred none),rfl,run_takeDeferred (hH.aM _ _ hp),?_⟩⟩
  refine yy hV (ι:=ι.drop b) hr hq (hH.drop hp hw _) (aL.imp (fun _ _=>nj hS) hT) (hg.Y2 hS) ⟨hn,fun k hk=>?_⟩ (fun ι2 c w' h=>hR ι2 c w' (Old.trans (b:=ι.drop b) ⟨rfl,fun k hk=>by simp only [aq.drop];rw [if_neg (by omega)]⟩ h))
  have:=hb k (List.mem_cons_of_mem _ hk)
  refine ⟨?_,this.2⟩
  simp only [aq.drop]
  rw [if_neg (by intro e;subst e;exact hnb hk)]
  exact this.1
theorem yr (hV:E.Valid) {t:Bool} {n:Nat} {F:Fence} {fn:Func} {R:Ending→World→Prop}:∀ {D:List Nat} {ds:List Deferred} {ι:aq} {H H':al} {w:World} {q:List Prop} {v:AV},gP H D=some H'→Fb E H' T fn=some (q,v)→holds q→
  aE ι H w→aL (ak ι) T a.tmps.toList→cS E ι→iB t ι D ds→(∀ ι2 c w',(if t=true then Old ι ι2 else ι2=ι)→aE ι2 H' w'→ak ι2 v c→R (.returned c) w')→LeavesInM F n E.P fn a.tmps R ds .returning w
 | [],ds,ι,H,H',w,q,v,hc,hr,hq,hH,hT,hg,hD,hR=>by
  simp only [gP,Option.some.injEq] at hc;subst hc
  obtain ⟨ds1,bs,rfl,k1,k2,k3⟩:=hD
  cases k1
  cases t with
  | true=>exact yy hV hr hq hH hT hg k3 (fun ι2 c w' h=>hR ι2 c w' h)
  | false=>
   rw [k2 rfl]
   obtain ⟨c,hrun,hv⟩:=GR hV (⟨hH,hT,hg⟩:gi E ι T H a w) hr hq
   exact ⟨c,hrun,hR ι c w rfl hH hv⟩
 | d :: D,ds,ι,H,H',w,q,v,hc,hr,hq,hH,hT,hg,hD,hR=>by
  simp only [gP] at hc
  split at hc
  ·rename_i hd
   obtain ⟨ds1,bs,rfl,k1,k2,k3⟩:=hD
   obtain ⟨x,ds',rfl,⟨b,z,hb,rfl⟩,hD'⟩:=aL.cons_inv k1
   have hobj:w.heap[b]?=some (.deferred (some [])):=hH.obj _ _ _ _ hd hb
   refine ⟨by simp,.inl ⟨b,w.putObj b (.deferred none),rfl,run_takeDeferred hobj,?_⟩⟩
   refine yr hV hc hr hq ?_ hT hg ⟨ds',bs,rfl,hD',k2,k3⟩ hR
   exact hH.EM hd rfl hb (fun k hk=>World.putObj_heap_other hk) (by simp) rfl rfl rfl trivial
  ·cases hc
def sM (t:Bool) (ι ι':aq):Prop:=if t=true then Old ι ι' else Ext ι ι'
theorem sM.gh {t:Bool} {ι ι':aq} (h:sM t ι ι'):Old ι ι':=by
 unfold sM at h
 split at h
 ·exact h
 ·exact h.toOld
theorem sM.ext {E:Env} {k:FK} {ι ι':aq} (h:sM (E.j7 k) ι ι') (hk:DE k=false∨E.EE=false):Ext ι ι':=by
 unfold sM Env.j7 at h
 rw [if_neg (by rcases hk with hk | hk<;>simp [hk])] at h
 exact h
end Go.aA
end
section
namespace Go.aA
open Go.RowKit
variable {E:Env} {ι:aq} {T:List AV} {H:al} {a:Act} {w:World}
theorem aE.move {w':World} (h:aE ι H w) {i:Nat} {x y:aG} {b z:Nat} (hi:H[i]?=some x) (ho:x.owned=true) (hb:ι.bB[i]?=some (b,z))
  (hk:∀ k,k≠b→w'.heap[k]?=w.heap[k]?) (hs:w'.heap.size=w.heap.size) (h1:w'.os=w.os) (h2:w'.tape=w.tape) (h3:w'.output=w.output)
  (hy:fL (ι.add b z) w' b z y) (hne:y≠.hole:=by exact nofun):aE (ι.add b z) (H.set i .dead++[y]) w':=by
 have hd:=h.EM (x':=.dead) hi ho hb hk hs h1 h2 h3 trivial
 have hE:=Ext.add ι b z
 have hown:=h.own _ _ _ _ hi ho hb
 have hlen:(H.set i .dead).length=ι.bB.length:=by simp [h.len]
 have gh:∀ {j:Nat} {b' z':Nat} {v:aG},(H.set i .dead++[y])[j]?=some v→(ι.add b z).bB[j]?=some (b',z')→
   ((H.set i .dead)[j]?=some v∧ι.bB[j]?=some (b',z'))∨(j=H.length∧v=y∧b'=b∧z'=z):=by
  intro j b' z' v e1 e2
  rcases Nat.lt_or_ge j H.length with hj | hj
  ·left
   rw [List.getElem?_append_left (by simpa using hj)] at e1
   simp only [aq.add] at e2
   rw [Blk.lu (h.len▸hj)] at e2
   exact ⟨e1,e2⟩
  ·right
   have:j < (H.set i .dead++[y]).length:=(List.getElem?_eq_some_iff.1 e1).1
   simp at this
   have hj':j=H.length:=by omega
   subst hj'
   rw [List.getElem?_append_right (by simp)] at e1
   simp at e1
   rw [h.len,aq.fK] at e2
   cases e2
   exact ⟨rfl,e1.symm,rfl,rfl⟩
 have nob:∀ {j:Nat} {v:aG} {z':Nat},(H.set i .dead)[j]?=some v→v.owned=true→ι.bB[j]?=some (b,z')→False:=by
  intro j v z' e1 o1 e2
  rw [List.getElem?_set] at e1
  split at e1
  ·split at e1
   ·simp at e1;subst e1;cases o1
   ·cases e1
  ·rename_i hij
   exact hij (h.sep _ _ _ _ _ _ _ hi ho e1 o1 hb e2)
 refine ⟨hd.gD.app hne _,hd.aM,?_,?_,?_,hd.base⟩
 ·intro j v b' z' e1 e2
  rcases gh e1 e2 with ⟨k1,k2⟩ | ⟨rfl,rfl,rfl,rfl⟩
  ·exact dm hE (fun _=>rfl) hd.aM (hd.obj _ _ _ _ k1 k2)
  ·exact hy
 ·intro j v b' z' e1 o1 e2
  rcases gh e1 e2 with ⟨k1,k2⟩ | ⟨rfl,rfl,rfl,rfl⟩
  ·exact hd.own _ _ _ _ k1 o1 k2
  ·exact ⟨hown.1,by omega,hown.2.2⟩
 ·intro j k v u b' z1 z2 e1 o1 e2 o2 b1 b2
  rcases gh e1 b1 with ⟨k1,k2⟩ | ⟨rfl,rfl,rfl,_⟩
  ·rcases gh e2 b2 with ⟨k3,k4⟩ | ⟨rfl,rfl,rfl,_⟩
   ·exact hd.sep _ _ _ _ _ _ _ k1 o1 k3 o2 k2 k4
   ·exact (nob k1 o1 k2).elim
  ·rcases gh e2 b2 with ⟨k3,k4⟩ | ⟨rfl,rfl,_,_⟩
   ·exact (nob k3 o2 k4).elim
   ·rfl
theorem iw {P:Program} {t ty e:TypeId} {d:ba} (hu:P.underlying t=some (.slice e)) (he:d.ok P e) (base:Option Addr) (n k m:Nat) (x:Value) (hx:(x=.slice none 0 0∧m=0)∨∃ a kk,x=.slice (some a) m kk)
  (hm:m=0) (hk:n≤k):(Builtin.append_ #[t,t] ty #[.slice base n k,x]).run P w=.ok (.slice base n k) w:=by
 obtain ⟨_,i,z,hi,hs,hb,hz,_⟩:=he
 subst hm
 rcases hx with ⟨rfl,_⟩ | ⟨a,kk,rfl⟩
 ·cases base<;>simp [Builtin.append_,run_underlying hu,sizeOf,typeInfo,hi,Builtin.lenOf,hk,Builtin.firstCells,storeCells]
 ·cases base<;>simp [Builtin.append_,run_underlying hu,sizeOf,typeInfo,hi,Builtin.lenOf,hk,Builtin.firstCells,loadCells,loadCellsFrom,storeCells]
theorem gw {c:TC} {ys:List c.den} {l:List Value} (h:bV (bD ι c) ys l):l.length=ys.length * c.size:=h.len (aO c)
theorem l6 {t ty e:TypeId} {de:ba} {c:TC} {x:AV} {q:List Prop} {ys:List c.den} {cx:Value} (hu:E.P.underlying t=some (.slice e)) (he:de.ok E.P e) (hc:c.size=de.size) (h:nI c H x=some (q,ys)) (hq:holds q)
  (r:aE ι H w) (hx:ak ι x cx) (hpos:0 < ys.length) (hb:ys.length * de.bytes≤2 ^ 40) (hn:ys.length≤2 ^ 40):
  ∃ ι' w' u,(Builtin.append_ #[t,t] ty #[.slice none 0 0,cx]).run E.P w=.ok u w'∧Ext ι ι'∧aE ι' (H++[.cell true e (.arr ys.length c ys)]) w'∧ak ι' (.aS H.length [] c.size 0 ys.length none) u:=by
 obtain ⟨l,hl,hcx⟩:=ja h hq r hx
 rcases hcx with ⟨rfl,_⟩ | ⟨b,off,k,rfl,hcells⟩
 ·simp at hpos
 ·obtain ⟨i,z,hi,hs,hby,hz,hzs⟩:=pL he
  have hlen:=gw hl
  have hrun:=run_append_nil (P:=E.P) w t ty e i z hu hi hz ⟨b,off,none⟩ ys.length k l (by rw [hs,← hc];exact hlen) hcells hpos (by omega) (by rw [hby];omega)
  have r':=r.drew (w.drawn+1)
  have hge:=grownCap_ge w ys.length 0 e
  generalize hcap:grownCap w ys.length 0 e=cap at hrun hge
  generalize hcs:l.toArray++Builtin.zeroCells z.cells (cap - ys.length)=cs at hrun
  have hl':cs.toList=l++(Builtin.zeroCells z.cells (cap - ys.length)).toList:=by rw [← hcs];simp
  have hE:=Ext.add ι w.heap.size cs.size
  refine ⟨ι.add w.heap.size cs.size,_,_,hrun,hE,?_,?_⟩
  ·refine r'.alloc (.cells cs e) cs.size _ ⟨cs,(0,0),l,_,heap_alloc_new,hl',rfl,?_,by simp⟩
   rw [aD]
   exact ⟨rfl,hl.mono (fun x m=>cr hE.sub c x m)⟩
  ·refine an rfl ?_
   rw [aD]
   refine ⟨w.heap.size,cs.size,cap,by rw [r.len];exact ι.fK _ _,by simp [aw],hge,?_,by simp⟩
   rw [← hcs]
   simp only [aw,Array.size_append,List.size_toArray,size_zeroCells,hzs,hlen,hc]
   rw [← Nat.add_mul,show ys.length+(cap - ys.length)=cap by omega,Nat.zero_add,Nat.zero_add]
   exact Nat.le_refl _
theorem lZ {t ty e:TypeId} {de:ba} {c:TC} {x:AV} {q:List Prop} {ys:List c.den} {cx cs:Value} {ob len:Nat} {xs:List c.den} (hu:E.P.underlying t=some (.slice e)) (he:de.ok E.P e) (hc:c.size=de.size)
  (h:nI c H x=some (q,ys)) (hq:holds q) (r:aE ι H w) (hx:ak ι x cx) (hs:ak ι (.aS ob [] c.size 0 len none) cs) (hob:H[ob]?=some (.cell true e (.arr len c xs)))
  (hb:(len+ys.length) * de.bytes≤2 ^ 40) (hn:len+ys.length≤2 ^ 40):
  ∃ ι' w' u,(Builtin.append_ #[t,t] ty #[cs,cx]).run E.P w=.ok u w'∧Ext ι ι'∧aE ι' (H.set ob .dead++[.cell true e (.arr (len+ys.length) c (xs++ys))]) w'∧
   ak ι' (.aS H.length [] c.size 0 (len+ys.length) none) u:=by
 obtain ⟨l,hl,hcx⟩:=ja h hq r hx
 obtain ⟨b,z,k,hbk,hcs0,hk,hkz,_⟩:=gW hs
 have hp0:aw []+0 * c.size=0:=by simp [aw]
 rw [hp0] at hcs0;subst hcs0
 obtain ⟨cells,fz,lo,rr,e1,e2,e3,e4,e5⟩:=(r.obj _ _ _ _ hob hbk).cell
 have e5:=e5 rfl;subst e5
 rw [aD] at e4
 obtain ⟨hxs,hr⟩:=e4
 have hll:=gw hl
 have hlo:=gw hr
 simp only [aw,Nat.zero_add] at hkz
 have hE:=Ext.add ι b z
 have hnew:bV (bD ι c) (xs++ys) (lo++l):=hr.app hl
 have hnl:(xs++ys).length=len+ys.length:=by simp [hxs]
 have same:∀ (w':World) (cells':Array Value) (rr':List Value),(∀ k,k≠b→w'.heap[k]?=w.heap[k]?)→w'.heap.size=w.heap.size→w'.os=w.os→w'.tape=w.tape→w'.output=w.output→
   w'.heap[b]?=some (.cells cells' e (0,0))→cells'.toList=(lo++l)++rr'→cells'.size=z→len+ys.length≤k→
   aE (ι.add b z) (H.set ob .dead++[.cell true e (.arr (len+ys.length) c (xs++ys))]) w'∧ak (ι.add b z) (.aS H.length [] c.size 0 (len+ys.length) none) (.slice (some ⟨b,0,none⟩) (len+ys.length) k):=by
  intro w' cells' rr' h1 h2 h3 h4 h5 h6 h7 h8 h9
  refine ⟨r.move hob rfl hbk h1 h2 h3 h4 h5 ⟨cells',(0,0),lo++l,rr',h6,h7,h8,?_,by simp⟩,an rfl ?_⟩
  ·rw [aD];exact ⟨hnl,hnew.mono (fun x m=>cr hE.sub c x m)⟩
  ·rw [aD]
   exact ⟨b,z,k,by rw [r.len];exact ι.fK _ _,by rw [hp0],h9,by simp only [aw,Nat.zero_add];exact hkz,by simp⟩
 obtain ⟨i,zv,hi,hsi,hby,hz,hzs⟩:=pL he
 rcases hcx with ⟨rfl,hcx⟩ | ⟨b2,off,k2,rfl,hcells⟩
 ·cases hl
  obtain ⟨hH,hR⟩:=same w cells rr (fun _ _=>rfl) rfl rfl rfl rfl e1 (by simpa using e2) e3 (by simpa using hk)
  exact ⟨_,w,_,iw hu he _ len k 0 _ (hcx.imp (fun h=>⟨h,rfl⟩) (fun ⟨a,h⟩=>⟨a,0,h⟩)) rfl hk,hE,hH,hR⟩
 ·by_cases hroom:len+ys.length≤k
  ·have hfit:len * i.size+l.length≤cells.size:=by
    rw [hll,hsi,← hc,e3,← Nat.add_mul]
    exact Nat.le_trans (Nat.mul_le_mul_right _ hroom) hkz
   have hrun:=run_append_room (P:=E.P) w t ty e i hu hi b len k cells e1 ⟨b2,off,none⟩ ys.length k2 l (by rw [hsi,← hc];exact hll) hcells (hl.mem (fun x m h=>jb c x m h)) hroom hfit
   have hlen:len * i.size=lo.length:=by rw [hlo,hxs,hsi,hc]
   refine ⟨_,_,_,hrun,hE,?_⟩
   have:=same (w.setRow b (cells.toList.take (len * i.size)++l++cells.toList.drop (len * i.size+l.length)).toArray) _ (rr.drop l.length) (fun k hk=>setRow_other w b k _ hk) (by simp) rfl rfl rfl
    (setRow_heap w b cells _ e _ e1) (by rw [hlen,e2];simp) (by
     rw [← e3,hlen,e2]
     have:l.length≤rr.length:=by
      rw [← Array.length_toList,e2,hlen] at hfit;simp at hfit;exact hfit
     have hcz:cells.size=lo.length+rr.length:=by rw [← Array.length_toList,e2];simp
     rw [hcz]
     simp;omega) hroom
   exact this
  ·have hrun:=run_append_grow (P:=E.P) w t ty e i zv hu hi hz ⟨b,0,none⟩ len k lo (by rw [hlo,hxs,hsi,hc]) (fun j u hu=>by rw [dG,cell_of e1,Nat.zero_add,← Array.getElem?_toList,e2,List.getElem?_append_left (List.getElem?_eq_some_iff.1 hu).1];exact hu)
    ⟨b2,off,none⟩ ys.length k2 l (by rw [hsi,← hc];exact hll) hcells (by omega) (by omega) (growslice_fits (by omega) (by rw [hby];omega))
   have hge:=grownCap_ge w (len+ys.length) k e
   generalize hcap:grownCap w (len+ys.length) k e=cap at hrun hge
   generalize hcs:lo.toArray++l.toArray++Builtin.zeroCells zv.cells (cap - (len+ys.length))=cs at hrun
   have hl':cs.toList=(lo++l)++(Builtin.zeroCells zv.cells (cap - (len+ys.length))).toList:=by rw [← hcs];simp
   have r':=(r.drew (w.drawn+1)).kill (i:=ob) (by rw [hob];exact nofun)
   have hE':=Ext.add ι w.heap.size cs.size
   refine ⟨ι.add w.heap.size cs.size,_,_,hrun,hE',?_,?_⟩
   ·refine r'.alloc (.cells cs e) cs.size _ ⟨cs,(0,0),lo++l,_,heap_alloc_new,hl',rfl,?_,by simp⟩
    rw [aD]
    exact ⟨hnl,hnew.mono (fun x m=>cr hE'.sub c x m)⟩
   ·refine an rfl ?_
    rw [aD]
    refine ⟨w.heap.size,cs.size,cap,by rw [r.len];exact ι.fK _ _,by simp [aw],hge,?_,by simp⟩
    rw [← hcs]
    simp only [aw,Array.size_append,List.size_toArray,size_zeroCells,hzs,hlo,hll,hxs,hc]
    rw [← Nat.add_mul,← Nat.add_mul,show len+ys.length+(cap - (len+ys.length))=cap by omega,Nat.zero_add,Nat.zero_add]
    exact Nat.le_refl _
theorem kW {t ty e:TypeId} {de:ba} {c:TC} {x:AV} {q:List Prop} {ys:List c.den} {cx cs:Value} {ob off len m k:Nat} {xs:List c.den} (hu:E.P.underlying t=some (.slice e)) (he:de.ok E.P e) (hc:c.size=de.size)
  (h:nI c H x=some (q,ys)) (hq:holds q) (r:aE ι H w) (hx:ak ι x cx) (hs:ak ι (.aS ob [] c.size off len (some k)) cs) (hob:H[ob]?=some (.cell true e (.arr m c xs))) (oW:off+len≤m)
  (hb:(len+ys.length) * de.bytes≤2 ^ 40) (hn:len+ys.length≤2 ^ 40) (hgrow:k < len+ys.length):
  ∃ ι' w' u,(Builtin.append_ #[t,t] ty #[cs,cx]).run E.P w=.ok u w'∧Ext ι ι'∧aE ι' (H++[.cell true e (.arr (len+ys.length) c ((xs.drop off).take len++ys))]) w'∧
   ak ι' (.aS H.length [] c.size 0 (len+ys.length) none) u:=by
 obtain ⟨l,hl,hcx⟩:=ja h hq r hx
 obtain ⟨b,z,kk,hbk,rfl,hk,hkz,hkk⟩:=gW hs
 have:=hkk k rfl;subst this
 obtain ⟨cells,fz,lo,rr,e1,e2,e3,e4,e5⟩:=(r.obj _ _ _ _ hob hbk).cell
 rw [aD] at e4
 obtain ⟨hxs,hr⟩:=e4
 have hll:=gw hl
 obtain ⟨m1,m2,em,em1,hm1,hm2⟩:=hr.split (aO c) off (by omega)
 obtain ⟨k1,k2,ek,ek1,hs1,hs2⟩:=hm2.split (aO c) len (by simp;omega)
 have hnl:((xs.drop off).take len++ys).length=len+ys.length:=by simp;omega
 obtain ⟨i,zv,hi,hsi,hby,hz,hzs⟩:=pL he
 rcases hcx with ⟨rfl,hcx⟩ | ⟨b2,off2,k2',rfl,hcells⟩
 ·simp at hgrow;omega
 ·have hp0:aw []+off * c.size=off * c.size:=by simp [aw]
  have hrun:=run_append_grow (P:=E.P) w t ty e i zv hu hi hz ⟨b,off * c.size,none⟩ len kk k1 (by rw [ek1,hsi,hc]) (fun j u hu=>by
    rw [dG,cell_of e1]
    have:off * c.size=m1.length:=em1.symm
    rw [this]
    exact At.xK (l2:=k2++rr) (by rw [e2,em,ek];simp) j u hu)
   ⟨b2,off2,none⟩ ys.length k2' l (by rw [hsi,← hc];exact hll) hcells hgrow (by omega) (growslice_fits (by omega) (by rw [hby];omega))
  have hge:=grownCap_ge w (len+ys.length) kk e
  generalize hcap:grownCap w (len+ys.length) kk e=cap at hrun hge
  generalize hcs:k1.toArray++l.toArray++Builtin.zeroCells zv.cells (cap - (len+ys.length))=cs at hrun
  have hl':cs.toList=(k1++l)++(Builtin.zeroCells zv.cells (cap - (len+ys.length))).toList:=by rw [← hcs];simp
  have r':=r.drew (w.drawn+1)
  have hE':=Ext.add ι w.heap.size cs.size
  rw [hp0]
  refine ⟨ι.add w.heap.size cs.size,_,_,hrun,hE',?_,?_⟩
  ·refine r'.alloc (.cells cs e) cs.size _ ⟨cs,(0,0),k1++l,_,heap_alloc_new,hl',rfl,?_,by simp⟩
   rw [aD]
   exact ⟨hnl,(hs1.app hl).mono (fun x m=>cr hE'.sub c x m)⟩
  ·refine an rfl ?_
   rw [aD]
   refine ⟨w.heap.size,cs.size,cap,by rw [r.len];exact ι.fK _ _,by simp [aw],hge,?_,by simp⟩
   rw [← hcs]
   simp only [aw,Array.size_append,List.size_toArray,size_zeroCells,hzs,ek1,hll,hc]
   rw [← Nat.add_mul,← Nat.add_mul,show len+ys.length+(cap - (len+ys.length))=cap by omega,Nat.zero_add,Nat.zero_add]
   exact Nat.le_refl _
theorem uw (hV:E.Valid) {t e:TypeId} {d de:ba} (hd:E.ty t=some d) (he:kO E d=some (e,de)) (hs:su d=true):E.P.underlying t=some (.slice e)∧de.ok E.P e:=by
 obtain ⟨he1,he2⟩:=mr hV he
 have hdesc:d.desc=.slice e:=by
  rcases he2 with h' | ⟨m,h'⟩
  ·exact h'
  ·unfold su at hs;rw [h'] at hs;cases hs
 have hu:=(hV.ty _ _ hd).1
 rw [hdesc] at hu
 exact ⟨hu,he1⟩
theorem RQ (hV:E.Valid) {t1 ty:TypeId} {s x v:AV} {q:List Prop} {H':al} {cs cx:Value} (h:JQ E H t1 s x=some (q,v,H')) (hq:holds q) (r:aE ι H w) (hs:ak ι s cs) (hx:ak ι x cx):
  ∃ ι' w' u,(Builtin.append_ #[t1,t1] ty #[cs,cx]).run E.P w=.ok u w'∧Ext ι ι'∧aE ι' H' w'∧ak ι' v u:=by
 unfold JQ at h
 split at h
 case h_2=>cases h
 rename_i d hd
 split at h
 case h_2=>cases h
 rename_i e de he
 split at h
 case h_2=>cases h
 rename_i c hsl hc
 obtain ⟨hu,he1⟩:=uw hV hd he hsl
 split at h
 case isFalse=>cases h
 rename_i hcond
 split at h
 case h_2=>cases h
 rename_i q1 ys0 happ
 split at h
 ·simp only [Option.some.injEq,Prod.mk.injEq] at h;obtain ⟨rfl,rfl,rfl⟩:=h
  have hus:=hs.raw;subst hus
  obtain ⟨l,hl,hcx⟩:=ja happ hq r hx
  refine ⟨ι,w,_,?_,Ext.refl ι,r,hs⟩
  refine iw hu he1 none 0 0 0 cx ?_ rfl (Nat.le_refl _)
  rcases hcx with ⟨_,h0 | ⟨a0,h0⟩⟩ | ⟨b,off,k,rfl,_⟩
  ·exact .inl ⟨h0,rfl⟩
  ·exact .inr ⟨a0,0,h0⟩
  ·exact .inr ⟨_,k,rfl⟩
 ·rename_i y ys
  simp only [Option.some.injEq,Prod.mk.injEq] at h;obtain ⟨rfl,rfl,rfl⟩:=h
  rw [bu] at hq
  obtain ⟨hq1,h1,h2,_⟩:=hq
  have:=hs.raw;subst this
  exact l6 hu he1 hcond.1 happ hq1 r hx (by simp) h1 h2
 ·rename_i _ ob s0 len
  split at h
  case h_2=>cases h
  rename_i t m c' xs hob
  split at h
  case isFalse=>cases h
  rename_i hcc;subst hcc
  split at h
  case isFalse=>cases h
  rename_i hst
  simp only [Option.some.injEq,Prod.mk.injEq] at h;obtain ⟨rfl,rfl,rfl⟩:=h
  rw [bu] at hq
  obtain ⟨hq1,hm,h1,h2,_⟩:=hq
  obtain ⟨rfl,rfl⟩:=hst
  have hm:len=m:=hm
  subst hm
  exact lZ hu he1 hcond.1 happ hq1 r hx hs hob h1 h2
 ·rename_i ob s0 off len k y ys
  split at h
  case h_2=>cases h
  rename_i t m c' xs hob
  split at h
  case isFalse=>cases h
  rename_i hcc;subst hcc
  split at h
  case isFalse=>cases h
  rename_i hst
  simp only [Option.some.injEq,Prod.mk.injEq] at h;obtain ⟨rfl,rfl,rfl⟩:=h
  rw [bu] at hq
  obtain ⟨hq1,h0,h1,h2,_⟩:=hq
  obtain ⟨rfl,rfl,hk⟩:=hst
  exact kW hu he1 hcond.1 happ hq1 r hx hs hob h0 h1 h2 hk
 ·cases h
theorem jM {c:TC} {z:c.den} {P:Program} {e:TypeId} {de:ba} (he:de.ok P e) (hz:toD c de.zero=some z):∃ i zv,P.info? e=some i∧i.size=de.size∧i.bytes=de.bytes∧i.zero=some zv∧zv.cells.size=de.size∧∀ ι,bD ι c z zv.cells.toList:=by
 obtain ⟨hdesc,i,zv,hi,hsi,hby,hzv,hzr,_,h6⟩:=he
 refine ⟨i,zv,hi,hsi,hby,hzv,?_,fun ι=>eV.1 (eV.2 (oZ hz (hzr ι).cells))⟩
 rw [← Array.length_toList,gg _ _ (hzr ⟨default,fun _=>none,⟨[]⟩⟩).cells,h6]
theorem IA (hV:E.Valid) {t1 t2 ty:TypeId} {s x v:AV} {q:List Prop} {H':al} {cs cx:Value} (h:EH E H t1 t2 s x=some (q,v,H')) (hq:holds q) (r:aE ι H w) (hs:ak ι s cs) (hx:ak ι x cx):
  ∃ ι' w' u,(Builtin.append_ #[t1,t2] ty #[cs,cx]).run E.P w=.ok u w'∧Ext ι ι'∧aE ι' H' w'∧ak ι' v u:=by
 unfold EH at h
 split at h
 case h_2=>cases h
 rename_i d d2 kn n hd hd2
 split at h
 case h_2=>cases h
 rename_i kk e de hdesc2 he
 split at h
 case h_2=>cases h
 rename_i c hsl hc
 obtain ⟨hu,he1⟩:=uw hV hd he hsl
 have hu2:=(hV.ty _ _ hd2).1
 rw [hdesc2] at hu2
 split at h
 case h_2=>cases h
 rename_i z hz
 split at h
 case isFalse=>cases h
 rename_i hcond
 obtain ⟨i,zv,hi,hsi,hby,hzv,hzs,hzr⟩:=jM he1 hz
 rw [hx.int]
 have hzl:∀ n,(Builtin.zeroCells zv.cells n).toList=(List.replicate n zv.cells.toList).flatten:=fun n=>by
  simpa [Builtin.zeroCells] using gq zv.cells n
 split at h
 ·simp only [Option.some.injEq,Prod.mk.injEq] at h;obtain ⟨rfl,rfl,rfl⟩:=h
  obtain ⟨h0,h1,h2,_⟩:=hq
  have:=hs.raw;subst this
  obtain ⟨m,rfl⟩:∃ m:Nat,n=m:=⟨n.toNat,by omega⟩
  simp only [Int.toNat_natCast] at h1 h2 ⊢
  have hrun:=Lib.run_append_nil_zeros (P:=E.P) w t1 t2 ty e i zv kn kk hu hu2 hi hzv m (by omega) (by rw [hsi];omega) (by omega) (by rw [hby];omega)
  have r':=r.drew (w.drawn+1)
  have hge:=grownCap_ge w m 0 e
  generalize hcap:grownCap w m 0 e=cap at hrun hge
  generalize hcs:Builtin.zeroCells zv.cells m++Builtin.zeroCells zv.cells (cap - m)=cs at hrun
  have hl':cs.toList=(List.replicate m zv.cells.toList).flatten++(Builtin.zeroCells zv.cells (cap - m)).toList:=by rw [← hcs,Array.toList_append,hzl]
  have hE:=Ext.add ι w.heap.size cs.size
  refine ⟨ι.add w.heap.size cs.size,_,_,hrun,hE,?_,?_⟩
  ·refine r'.alloc (.cells cs e) cs.size _ ⟨cs,(0,0),_,_,heap_alloc_new,hl',rfl,?_,by simp⟩
   rw [aD]
   exact ⟨by simp,cC (hzr _) m⟩
  ·refine an rfl ?_
   rw [aD]
   refine ⟨w.heap.size,cs.size,cap,by rw [r.len];exact ι.fK _ _,by simp [aw],hge,?_,by simp⟩
   rw [← hcs]
   simp only [aw,Array.size_append,size_zeroCells,hzs,hcond.1]
   rw [← Nat.add_mul,show m+(cap - m)=cap by omega,Nat.zero_add,Nat.zero_add]
   exact Nat.le_refl _
 ·rename_i ob s0 off len k
  split at h
  case h_2=>cases h
  rename_i t m c' xs hob
  split at h
  case isFalse=>cases h
  rename_i hcc;subst hcc
  split at h
  case isFalse=>cases h
  rename_i hst
  simp only [Option.some.injEq,Prod.mk.injEq] at h;obtain ⟨rfl,rfl,rfl⟩:=h
  obtain ⟨h0,hk,oW,h1,h2,_⟩:=hq
  obtain ⟨rfl,rfl⟩:=hst
  obtain ⟨mm,rfl⟩:∃ m:Nat,n=m:=⟨n.toNat,by omega⟩
  simp only [Int.toNat_natCast] at hk h1 h2 ⊢
  obtain ⟨b,zz,kk',hbk,rfl,hkl,hkz,hkk⟩:=gW hs
  have:=hkk k rfl;subst this
  obtain ⟨cells,fz,lo,rr,e1,e2,e3,e4,e5⟩:=(r.obj _ _ _ _ hob hbk).cell
  rw [aD] at e4
  obtain ⟨hxs,hr⟩:=e4
  obtain ⟨m1,m2,em,em1,hm1,hm2⟩:=hr.split (aO c') off (by omega)
  obtain ⟨k1,k2,ek,ek1,hs1,hs2⟩:=hm2.split (aO c') len (by simp;omega)
  have hnl:((xs.drop off).take len++List.replicate mm z).length=len+mm:=by simp;omega
  have hp0:aw []+off * c'.size=off * c'.size:=by simp [aw]
  have hold:=run_firstCells_some (P:=E.P) w.drew i.size len ⟨b,off * c'.size,none⟩ len kk' k1 (by rw [ek1,hsi,hcond.1]) (fun j u hu=>by
    rw [show w.drew.cell?=w.cell? from rfl,dG,cell_of e1]
    have:off * c'.size=m1.length:=em1.symm
    rw [this]
    exact At.xK (l2:=k2++rr) (by rw [e2,em,ek];simp) j u hu)
  have hrun:=Lib.run_append_grow_zeros (P:=E.P) w t1 t2 ty t i zv kn kk hu hu2 hi hzv (some ⟨b,off * c'.size,none⟩) len kk' k1 hold mm (by omega) (by rw [hsi];omega) hk (by omega) (by rw [hby];exact Nat.le_trans (Nat.mul_le_mul_right _ (Nat.le_add_left mm len)) (Nat.le_trans h1 (by decide))) (growslice_fits (by omega) (by rw [hby];omega))
  have r':=r.drew (w.drawn+1)
  have hge:=grownCap_ge w (len+mm) kk' t
  generalize hcap:grownCap w (len+mm) kk' t=cap at hrun hge
  generalize hcs:k1.toArray++Builtin.zeroCells zv.cells mm++Builtin.zeroCells zv.cells (cap - (len+mm))=cs at hrun
  have hl':cs.toList=(k1++(List.replicate mm zv.cells.toList).flatten)++(Builtin.zeroCells zv.cells (cap - (len+mm))).toList:=by rw [← hcs];simp only [Array.toList_append,hzl]
  have hE':=Ext.add ι w.heap.size cs.size
  rw [hp0]
  refine ⟨ι.add w.heap.size cs.size,_,_,hrun,hE',?_,?_⟩
  ·refine r'.alloc (.cells cs t) cs.size _ ⟨cs,(0,0),_,_,heap_alloc_new,hl',rfl,?_,by simp⟩
   rw [aD]
   exact ⟨hnl,(hs1.mono (fun x m=>cr hE'.sub c' x m)).app (cC (hzr _) mm)⟩
  ·refine an rfl ?_
   rw [aD]
   refine ⟨w.heap.size,cs.size,cap,by rw [r.len];exact ι.fK _ _,by simp [aw],hge,?_,by simp⟩
   rw [← hcs]
   simp only [aw,Array.size_append,List.size_toArray,size_zeroCells,hzs,ek1,hcond.1]
   rw [← Nat.add_mul,← Nat.add_mul,show len+mm+(cap - (len+mm))=cap by omega,Nat.zero_add,Nat.zero_add]
   exact Nat.le_refl _
 ·cases h
theorem kV {t ty e:TypeId} {de:ba} {c:TC} {x:AV} {q:List Prop} {ys:List c.den} {cx cs:Value} {ob off len m k:Nat} {xs:List c.den} (hu:E.P.underlying t=some (.slice e)) (he:de.ok E.P e) (hc:c.size=de.size)
  (h:nI c H x=some (q,ys)) (hq:holds q) (r:aE ι H w) (hx:ak ι x cx) (hs:ak ι (.aS ob [] c.size off len (some k)) cs) (hob:H[ob]?=some (.cell true e (.arr m c xs))) (oW:off+len+ys.length≤m)
  (hroom:len+ys.length≤k):
  ∃ w' u,(Builtin.append_ #[t,t] ty #[cs,cx]).run E.P w=.ok u w'∧aE ι (H.set ob (.cell true e (.arr m c (bL xs (off+len) ys)))) w'∧ak ι (.aS ob [] c.size off (len+ys.length) (some k)) u:=by
 obtain ⟨l,hl,hcx⟩:=ja h hq r hx
 obtain ⟨b,z,kk,hbk,rfl,hk,hkz,hkk⟩:=gW hs
 have:=hkk k rfl;subst this
 obtain ⟨cells,fz,lo,rr,e1,e2,e3,e4,e5⟩:=(r.obj _ _ _ _ hob hbk).cell
 have e5:=e5 rfl;subst e5
 rw [aD] at e4
 obtain ⟨hxs,hr⟩:=e4
 have hll:=gw hl
 have hout:ak ι (.aS ob [] c.size off (len+ys.length) (some kk)) (.slice (some ⟨b,aw []+off * c.size,none⟩) (len+ys.length) kk):=by
  refine an rfl ?_
  rw [aD]
  exact ⟨b,z,kk,hbk,rfl,hroom,hkz,by simp⟩
 rcases hcx with ⟨rfl,hcx⟩ | ⟨b2,off2,k2',rfl,hcells⟩
 ·refine ⟨w,_,iw hu he _ len kk 0 _ (hcx.imp (fun h=>⟨h,rfl⟩) (fun ⟨a,h⟩=>⟨a,0,h⟩)) rfl hk,?_,hout⟩
  refine r.EM (z:=z) hob rfl hbk (fun _ _=>rfl) rfl rfl rfl rfl ⟨cells,(0,0),lo,rr,e1,e2,e3,?_,by simp⟩
  rw [aD,sR];exact ⟨hxs,hr⟩
 ·obtain ⟨_,i,zv,hi,hsi,_⟩:=he
  obtain ⟨m1,m2,em,em1,hm1,hm2⟩:=hr.split (aO c) (off+len) (by omega)
  obtain ⟨k1,k3,ek,ek1,_,hk2⟩:=hm2.split (aO c) ys.length (by simp;omega)
  have hf:=run_firstCells_some (P:=E.P) w i.size ys.length ⟨b2,off2,none⟩ ys.length k2' l (by rw [hsi,← hc];exact hll) hcells
  have hlen:(off+len) * c.size+l.length≤cells.size:=by
   rw [hll,← Array.length_toList,e2,em,ek];simp [em1,ek1]
  have hst:=run_storeCells_at E.P b ((off+len) * c.size) e l 0 cells w e1 (by simpa using hlen) (hl.mem (fun x m h=>jb c x m h))
  simp only [Nat.add_zero] at hst
  have hp0:aw []+off * c.size=off * c.size:=by simp [aw]
  have ha:(⟨b,off * c.size,none⟩:Addr).add (len * i.size)=⟨b,(off+len) * c.size,none⟩:=by rw [dG,hsi,← hc,← Nat.add_mul]
  refine ⟨w.setRow b (cells.toList.take ((off+len) * c.size)++l++cells.toList.drop ((off+len) * c.size+l.length)).toArray,_,?_,?_,hout⟩
  ·rw [hp0]
   simp [Builtin.append_,run_underlying hu,sizeOf,typeInfo,hi,Builtin.lenOf,hroom,hf,ha,hst]
  ·have hcs:cells.toList.take ((off+len) * c.size)++l++cells.toList.drop ((off+len) * c.size+l.length)=(m1++(l++k3))++rr:=by
    have a1:(off+len) * c.size=m1.length:=em1.symm
    have a2:l.length=k1.length:=by rw [hll,ek1]
    rw [a1,a2,e2,em,ek]
    simp only [List.append_assoc]
    rw [List.take_left' rfl,← List.length_append,← List.append_assoc m1 k1,List.drop_left' rfl]
   refine r.EM (z:=z) hob rfl hbk (fun k hk=>setRow_other w b k _ hk) (by simp) rfl rfl rfl
    ⟨_,(0,0),m1++(l++k3),rr,setRow_heap w b cells _ e _ e1,by rw [hcs],?_,?_,by simp⟩
   ·have hz:cells.toList.length=z:=by rw [Array.length_toList];exact e3
    rw [e2,em,ek] at hz
    rw [hcs,← hz];simp;omega
   ·rw [aD]
    refine ⟨?_,?_⟩
    ·simp [bL];omega
    ·unfold bL
     refine hm1.app (hl.app ?_)
     rw [← List.drop_drop]
     exact hk2
end Go.aA
end
section
namespace Go.aA
open Go.RowKit
variable {E:Env} {ι:aq} {T:List AV} {H:al} {a:Act} {w:World}
theorem lF {e:TypeId} {c:TC} {z:c.den} {zv:Value} {xs:List c.den} {l:List Value} {n cap:Nat} {cs:Array Value} (r:aE ι H w) (hzr:∀ ι,bD ι c z zv.cells.toList) (hl:bV (bD ι c) xs l) (hn:xs.length=n) (hge:n≤cap)
  (hcs:cs.toList=l++(Builtin.zeroCells zv.cells (cap - n)).toList):
  ∃ j,n+j=cap∧aE (ι.add w.heap.size cs.size) (H++[.cell true e (.arr (n+j) c (xs++List.replicate j z))]) (w.alloc (.cells cs e))∧
   ak (ι.add w.heap.size cs.size) (.aS H.length [] c.size 0 n (some (n+j))) (.slice (some ⟨w.heap.size,0,none⟩) n cap):=by
 obtain ⟨j,rfl⟩:∃ j,cap=n+j:=⟨cap - n,by omega⟩
 have hj:n+j - n=j:=by omega
 rw [hj] at hcs
 have hzl:(Builtin.zeroCells zv.cells j).toList=(List.replicate j zv.cells.toList).flatten:=by simpa [Builtin.zeroCells] using gq zv.cells j
 have hE:=Ext.add ι w.heap.size cs.size
 have hsz:cs.size=(n+j) * c.size:=by
  have h1:=hl.len (aO c)
  have h2:=(cC (hzr ι) j).len (aO c)
  rw [← Array.length_toList,hcs,List.length_append,hzl,h1,h2,hn,List.length_replicate,Nat.add_mul]
 refine ⟨j,rfl,?_,?_⟩
 ·refine r.alloc (.cells cs e) cs.size _ ⟨cs,(0,0),cs.toList,[],heap_alloc_new,by simp,rfl,?_,by simp⟩
  rw [aD,hcs,hzl]
  exact ⟨by simp [hn],(hl.mono (fun x m=>cr hE.sub c x m)).app (cC (hzr _) j)⟩
 ·refine an rfl ?_
  rw [aD]
  refine ⟨w.heap.size,cs.size,n+j,by rw [r.len];exact ι.fK _ _,by simp [aw],hge,?_,by simp⟩
  rw [hsz];simp [aw]
def xt (E:Env) (ι:aq) (e:TypeId) (c:TC) (z:c.den) (H:al) (n:Nat) (xs:List c.den) (w:World) (m:Sem Value):Prop:=
 ∃ ι' w' u j,m.run E.P w=.ok u w'∧Ext ι ι'∧aE ι' (H++[.cell true e (.arr (n+j) c (xs++List.replicate j z))]) w'∧ak ι' (.aS H.length [] c.size 0 n (some (n+j))) u
theorem Ja {t ty e:TypeId} {de:ba} {c:TC} {z:c.den} {x:AV} {q:List Prop} {ys:List c.den} {cx:Value} (hu:E.P.underlying t=some (.slice e)) (he:de.ok E.P e) (hc:c.size=de.size) (hz:toD c de.zero=some z) (h:nI c H x=some (q,ys)) (hq:holds q)
  (r:aE ι H w) (hx:ak ι x cx) (hpos:0 < ys.length) (hb:ys.length * de.bytes≤2 ^ 40) (hn:ys.length≤2 ^ 40):
  xt E ι e c z H ys.length ys w (Builtin.append_ #[t,t] ty #[.slice none 0 0,cx]):=by
 obtain ⟨l,hl,hcx⟩:=ja h hq r hx
 rcases hcx with ⟨rfl,_⟩ | ⟨b,off,k,rfl,hcells⟩
 ·simp at hpos
 ·obtain ⟨i,zv,hi,hs,hby,hzv,hzs,hzr⟩:=jM he hz
  have hlen:=gw hl
  have hrun:=run_append_nil (P:=E.P) w t ty e i zv hu hi hzv ⟨b,off,none⟩ ys.length k l (by rw [hs,← hc];exact hlen) hcells hpos (by omega) (by rw [hby];omega)
  obtain ⟨j,hj,h1,h2⟩:=lF (e:=e) (cs:=l.toArray++Builtin.zeroCells zv.cells (grownCap w ys.length 0 e - ys.length)) (r.drew (w.drawn+1)) hzr hl rfl (grownCap_ge w ys.length 0 e) (by simp)
  exact ⟨_,_,_,j,hrun,Ext.add ι _ _,h1,h2⟩
theorem FP {t ty e:TypeId} {de:ba} {c:TC} {z:c.den} {x:AV} {q:List Prop} {ys:List c.den} {cx cs:Value} {ob off len m k:Nat} {xs:List c.den} (hu:E.P.underlying t=some (.slice e)) (he:de.ok E.P e) (hc:c.size=de.size) (hz:toD c de.zero=some z)
  (h:nI c H x=some (q,ys)) (hq:holds q) (r:aE ι H w) (hx:ak ι x cx) (hs:ak ι (.aS ob [] c.size off len (some k)) cs) (hob:H[ob]?=some (.cell true e (.arr m c xs))) (oW:off+len≤m)
  (hb:(len+ys.length) * de.bytes≤2 ^ 40) (hn:len+ys.length≤2 ^ 40) (hgrow:k < len+ys.length):
  xt E ι e c z H (len+ys.length) ((xs.drop off).take len++ys) w (Builtin.append_ #[t,t] ty #[cs,cx]):=by
 obtain ⟨l,hl,hcx⟩:=ja h hq r hx
 obtain ⟨b,zz,kk,hbk,rfl,hk,hkz,hkk⟩:=gW hs
 have:=hkk k rfl;subst this
 obtain ⟨cells,fz,lo,rr,e1,e2,e3,e4,e5⟩:=(r.obj _ _ _ _ hob hbk).cell
 rw [aD] at e4
 obtain ⟨hxs,hr⟩:=e4
 have hll:=gw hl
 obtain ⟨m1,m2,em,em1,hm1,hm2⟩:=hr.split (aO c) off (by omega)
 obtain ⟨k1,k2,ek,ek1,hs1,hs2⟩:=hm2.split (aO c) len (by simp;omega)
 have hnl:((xs.drop off).take len++ys).length=len+ys.length:=by simp;omega
 obtain ⟨i,zv,hi,hsi,hby,hzv,hzs,hzr⟩:=jM he hz
 rcases hcx with ⟨rfl,hcx⟩ | ⟨b2,off2,k2',rfl,hcells⟩
 ·simp at hgrow;omega
 ·have hp0:aw []+off * c.size=off * c.size:=by simp [aw]
  have hrun:=run_append_grow (P:=E.P) w t ty e i zv hu hi hzv ⟨b,off * c.size,none⟩ len kk k1 (by rw [ek1,hsi,hc]) (fun j u hu=>by
    rw [dG,cell_of e1]
    have:off * c.size=m1.length:=em1.symm
    rw [this]
    exact At.xK (l2:=k2++rr) (by rw [e2,em,ek];simp) j u hu)
   ⟨b2,off2,none⟩ ys.length k2' l (by rw [hsi,← hc];exact hll) hcells hgrow (by omega) (growslice_fits (by omega) (by rw [hby];omega))
  obtain ⟨j,hj,h1,h2⟩:=lF (e:=e) (cs:=k1.toArray++l.toArray++Builtin.zeroCells zv.cells (grownCap w (len+ys.length) kk e - (len+ys.length))) (r.drew (w.drawn+1)) hzr (hs1.app hl) hnl (grownCap_ge w (len+ys.length) kk e) (by simp)
  rw [hp0]
  exact ⟨_,_,_,j,hrun,Ext.add ι _ _,h1,h2⟩
theorem tz {t tn ty e:TypeId} {kn kk:IntKind} {de:ba} {c:TC} {z:c.den} {n:Nat} (hu:E.P.underlying t=some (.slice e)) (hun:E.P.underlying tn=some (.int kn)) (he:de.ok E.P e) (hs0:de.size≠0) (hz:toD c de.zero=some z) (r:aE ι H w)
  (hpos:0 < n) (hb:n * de.bytes≤2 ^ 40) (hn:n≤2 ^ 40):xt E ι e c z H n (List.replicate n z) w (Builtin.append_ #[t,tn] ty #[.slice none 0 0,.int kk n]):=by
 obtain ⟨i,zv,hi,hsi,hby,hzv,hzs,hzr⟩:=jM he hz
 have hrun:=Lib.run_append_nil_zeros (P:=E.P) w t tn ty e i zv kk kn hu hun hi hzv n hpos (by rw [hsi];omega) (by omega) (by rw [hby];omega)
 have hzl:∀ n,(Builtin.zeroCells zv.cells n).toList=(List.replicate n zv.cells.toList).flatten:=fun n=>by simpa [Builtin.zeroCells] using gq zv.cells n
 obtain ⟨j,hj,h1,h2⟩:=lF (e:=e) (cs:=Builtin.zeroCells zv.cells n++Builtin.zeroCells zv.cells (grownCap w n 0 e - n)) (r.drew (w.drawn+1)) hzr (cC (hzr _) n) (by simp) (grownCap_ge w n 0 e) (by rw [Array.toList_append,hzl])
 exact ⟨_,_,_,j,hrun,Ext.add ι _ _,h1,h2⟩
theorem rW {t tn ty e:TypeId} {kn kk:IntKind} {de:ba} {c:TC} {z:c.den} {cs:Value} {ob off len m k n:Nat} {xs:List c.den} (hu:E.P.underlying t=some (.slice e)) (hun:E.P.underlying tn=some (.int kn)) (he:de.ok E.P e) (hc:c.size=de.size) (hs0:de.size≠0)
  (hz:toD c de.zero=some z) (r:aE ι H w) (hs:ak ι (.aS ob [] c.size off len (some k)) cs) (hob:H[ob]?=some (.cell true e (.arr m c xs))) (oW:off+len≤m)
  (hpos:0 < n) (hb:(len+n) * de.bytes≤2 ^ 40) (hn:len+n≤2 ^ 40) (hgrow:k < len+n):
  xt E ι e c z H (len+n) ((xs.drop off).take len++List.replicate n z) w (Builtin.append_ #[t,tn] ty #[cs,.int kk n]):=by
 obtain ⟨i,zv,hi,hsi,hby,hzv,hzs,hzr⟩:=jM he hz
 obtain ⟨b,zz,kk',hbk,rfl,hkl,hkz,hkk⟩:=gW hs
 have:=hkk k rfl;subst this
 obtain ⟨cells,fz,lo,rr,e1,e2,e3,e4,e5⟩:=(r.obj _ _ _ _ hob hbk).cell
 rw [aD] at e4
 obtain ⟨hxs,hr⟩:=e4
 obtain ⟨m1,m2,em,em1,hm1,hm2⟩:=hr.split (aO c) off (by omega)
 obtain ⟨k1,k2,ek,ek1,hs1,hs2⟩:=hm2.split (aO c) len (by simp;omega)
 have hnl:((xs.drop off).take len++List.replicate n z).length=len+n:=by simp;omega
 have hp0:aw []+off * c.size=off * c.size:=by simp [aw]
 have hzl:∀ n,(Builtin.zeroCells zv.cells n).toList=(List.replicate n zv.cells.toList).flatten:=fun n=>by simpa [Builtin.zeroCells] using gq zv.cells n
 have hold:=run_firstCells_some (P:=E.P) w.drew i.size len ⟨b,off * c.size,none⟩ len kk' k1 (by rw [ek1,hsi,hc]) (fun j u hu=>by
   rw [show w.drew.cell?=w.cell? from rfl,dG,cell_of e1]
   have:off * c.size=m1.length:=em1.symm
   rw [this]
   exact At.xK (l2:=k2++rr) (by rw [e2,em,ek];simp) j u hu)
 have hrun:=Lib.run_append_grow_zeros (P:=E.P) w t tn ty e i zv kk kn hu hun hi hzv (some ⟨b,off * c.size,none⟩) len kk' k1 hold n (by omega) (by rw [hsi];omega) hgrow (by omega) (by rw [hby];exact Nat.le_trans (Nat.mul_le_mul_right _ (Nat.le_add_left n len)) (Nat.le_trans hb (by decide))) (growslice_fits (by omega) (by rw [hby];omega))
 obtain ⟨j,hj,h1,h2⟩:=lF (e:=e) (cs:=k1.toArray++Builtin.zeroCells zv.cells n++Builtin.zeroCells zv.cells (grownCap w (len+n) kk' e - (len+n))) (r.drew (w.drawn+1)) hzr (hs1.app (cC (hzr _) n)) hnl (grownCap_ge w (len+n) kk' e) (by simp only [Array.toList_append,hzl])
 rw [hp0]
 exact ⟨_,_,_,j,hrun,Ext.add ι _ _,h1,h2⟩
theorem RO (hV:E.Valid) {t1 t2 ty:TypeId} {s x:AV} {go:AV→al→Prop} {cs cx:Value} (h:VF E H t1 t2 s x go) (r:aE ι H w) (hs:ak ι s cs) (hx:ak ι x cx):
  ∃ v H' ι' w' u,go v H'∧(Builtin.append_ #[t1,t2] ty #[cs,cx]).run E.P w=.ok u w'∧Ext ι ι'∧aE ι' H' w'∧ak ι' v u:=by
 unfold VF at h
 split at h
 case h_2=>cases h
 rename_i d d2 hd hd2
 split at h
 case h_2=>cases h
 rename_i e de he
 split at h
 case h_2=>cases h
 rename_i c hsl hc
 obtain ⟨hu,he1⟩:=uw hV hd he hsl
 split at h
 case h_2=>cases h
 rename_i z hz
 split at h
 case isFalse=>cases h
 rename_i hcond
 have fin:∀ {n:Nat} {xs:List c.den} {m:Sem Value},wY e c z H n xs go→xt E ι e c z H n xs w m→∃ v H' ι' w' u,go v H'∧m.run E.P w=.ok u w'∧Ext ι ι'∧aE ι' H' w'∧ak ι' v u:=by
  rintro n xs m hgo ⟨ι',w',u,j,h1,h2,h3,h4⟩
  exact ⟨_,_,ι',w',u,hgo j,h1,h2,h3,h4⟩
 split at h
 ·rename_i kn hdesc2
  have hu2:=(hV.ty _ _ hd2).1
  rw [hdesc2] at hu2
  split at h
  case h_2=>cases h
  rename_i kk n
  rw [hx.int]
  split at h
  ·obtain ⟨⟨h0,h1,h2,_⟩,h⟩:=cw h
   have:=hs.raw;subst this
   obtain ⟨m,rfl⟩:∃ m:Nat,n=m:=⟨n.toNat,by omega⟩
   simp only [Int.toNat_natCast] at h1 h2 h
   exact fin h (tz hu hu2 he1 hcond.2 hz r (by omega) h1 h2)
  ·rename_i ob s0 off len k
   split at h
   case h_2=>cases h
   rename_i t m c' xs hob
   split at h
   case isFalse=>cases h
   rename_i hcc;subst hcc
   split at h
   case isFalse=>cases h
   rename_i hst
   obtain ⟨⟨h0,hk,oW,h1,h2,_⟩,h⟩:=cw h
   obtain ⟨rfl,rfl⟩:=hst
   obtain ⟨mm,rfl⟩:∃ m:Nat,n=m:=⟨n.toNat,by omega⟩
   simp only [Int.toNat_natCast] at hk h1 h2 h
   exact fin h (rW hu hu2 he1 hcond.1 hcond.2 hz r hs hob oW (by omega) h1 h2 hk)
  ·cases h
 ·split at h
  case isFalse=>cases h
  rename_i ht;subst ht
  split at h
  case h_2=>cases h
  rename_i q ys happ
  split at h
  ·obtain ⟨hq,h⟩:=cw h
   have hus:=hs.raw;subst hus
   by_cases hys:ys.length=0
   ·have hc0:ae ys.length 0=true:=by simp [ae,hys]
    rw [hc0] at h
    obtain ⟨l,hl,hcx⟩:=ja happ hq r hx
    refine ⟨_,H,ι,w,_,h,iw hu he1 none 0 0 0 cx ?_ rfl (Nat.le_refl _),Ext.refl ι,r,hs⟩
    rcases hcx with ⟨_,h0 | ⟨a0,h0⟩⟩ | ⟨b,off,k,rfl,_⟩
    ·exact .inl ⟨h0,rfl⟩
    ·exact .inr ⟨a0,0,h0⟩
    ·exact .inr ⟨_,k,by rw [hys]⟩
   ·have hc0:ae ys.length 0=false:=by
     have hne:¬ ((ys.length:Int)=0):=by omega
     simp only [ae,beq_eq_false_iff_ne,ne_eq,hne,not_false_eq_true]
    rw [hc0] at h
    obtain ⟨⟨h1,h2,_⟩,h⟩:=cw h
    exact fin h (Ja hu he1 hcond.1 hz happ hq r hx (by omega) h1 h2)
  ·rename_i ob s0 off len k
   split at h
   case h_2=>cases h
   rename_i t m c' xs hob
   split at h
   case isFalse=>cases h
   rename_i hcc;subst hcc
   split at h
   case isFalse=>cases h
   rename_i hst
   obtain ⟨hq,h⟩:=cw h
   obtain ⟨rfl,rfl⟩:=hst
   cases hb:bd k ((len+ys.length:Nat):Int) with
   | true=>
    rw [hb] at h
    obtain ⟨⟨h1,h2,h3,_⟩,h⟩:=cw h
    have hlt:k < len+ys.length:=by simp only [bd,decide_eq_true_eq] at hb;omega
    exact fin h (FP hu he1 hcond.1 hz happ hq r hx hs hob h1 h2 h3 hlt)
   | false=>
    rw [hb] at h
    obtain ⟨⟨h1,_⟩,h⟩:=cw h
    have hge:len+ys.length≤k:=by simp only [bd,decide_eq_false_iff_not] at hb;omega
    obtain ⟨w',u,k1,k2,k3⟩:=kV (ty:=ty) hu he1 hcond.1 happ hq r hx hs hob h1 hge
    exact ⟨_,_,ι,w',u,h,k1,Ext.refl ι,k2,k3⟩
  ·cases h
end Go.aA
end
section
namespace Go.aA
open Go.RowKit
variable {E:Env} {ι:aq} {T:List AV} {H:al} {a:Act} {w:World}
theorem aE.Te (h:aE ι H w) {i:Nat} {x y:aG} {b z:Nat} (hi:H[i]?=some x) (hb:ι.bB[i]?=some (b,z)) (ho:y.owned=true→x.owned=true) (hy:fL ι w b z y) (hne:y≠.hole:=by exact nofun):aE ι (H.set i y) w:=by
 have gh:∀ {j:Nat} {u:aG},(H.set i y)[j]?=some u→(j=i∧u=y)∨H[j]?=some u:=by
  intro j u e
  rw [List.getElem?_set] at e
  split at e
  ·rename_i hij;subst hij
   split at e
   ·left;exact ⟨rfl,by simpa using e.symm⟩
   ·cases e
  ·exact .inr e
 have key:∀ {j:Nat} {u:aG},(H.set i y)[j]?=some u→u.owned=true→∃ u',H[j]?=some u'∧u'.owned=true:=by
  intro j u e o
  rcases gh e with ⟨rfl,rfl⟩ | e
  ·exact ⟨_,hi,ho o⟩
  ·exact ⟨_,e,o⟩
 refine ⟨h.gD.set hi ⟨fun e=>(by rw [(h.gD.2 _ _ hi).1 e] at hb;cases hb),fun e=>absurd e hne⟩,h.aM,?_,?_,?_,h.base⟩
 ·intro j u b' z' e1 e2
  rcases gh e1 with ⟨rfl,rfl⟩ | e
  ·rw [hb] at e2;cases e2;exact hy
  ·exact h.obj _ _ _ _ e e2
 ·intro j u b' z' e1 o e2
  obtain ⟨u',k1,k2⟩:=key e1 o
  exact h.own _ _ _ _ k1 k2 e2
 ·intro j k u v b' z1 z2 e1 o1 e2 o2 b1 b2
  obtain ⟨u',k1,k2⟩:=key e1 o1
  obtain ⟨v',k3,k4⟩:=key e2 o2
  exact h.sep _ _ _ _ _ _ _ k1 k2 k3 k4 b1 b2
theorem aE.ghost (h:aE ι H w) (t:TypeId) (c:TC) (b z:Nat):aE (ι.add b z) (H++[.row t c []]) w:=by
 have hE:=Ext.add ι b z
 have gh:∀ {i:Nat} {b' z':Nat} {y:aG},(H++[aG.row t c []])[i]?=some y→(ι.add b z).bB[i]?=some (b',z')→
   (H[i]?=some y∧ι.bB[i]?=some (b',z'))∨y=.row t c []:=by
  intro i b' z' y e1 e2
  rcases Nat.lt_or_ge i H.length with hi | hi
  ·left
   rw [List.getElem?_append_left hi] at e1
   simp only [aq.add] at e2
   rw [Blk.lu (h.len▸hi)] at e2
   exact ⟨e1,e2⟩
  ·right
   have:i < (H++[aG.row t c []]).length:=(List.getElem?_eq_some_iff.1 e1).1
   simp at this
   have hi':i=H.length:=by omega
   subst hi'
   simp at e1
   exact e1.symm
 refine ⟨h.gD.app (x:=.row t c []) nofun _,h.aM,?_,?_,?_,h.base⟩
 ·intro i y b' z' e1 e2
  rcases gh e1 e2 with ⟨k1,k2⟩ | rfl
  ·exact dm hE (fun _=>rfl) h.aM (h.obj _ _ _ _ k1 k2)
  ·exact .inl rfl
 ·intro i y b' z' e1 ho e2
  rcases gh e1 e2 with ⟨k1,k2⟩ | rfl
  ·exact h.own _ _ _ _ k1 ho k2
  ·cases ho
 ·intro i j y y' b' z1 z2 e1 o1 e2 o2 b1 b2
  rcases gh e1 b1 with ⟨k1,k2⟩ | rfl
  ·rcases gh e2 b2 with ⟨k3,k4⟩ | rfl
   ·exact h.sep _ _ _ _ _ _ _ k1 o1 k3 o2 k2 k4
   ·cases o2
  ·cases o1
theorem aE.R4 (h:aE ι H w) {i n:Nat} {t:TypeId} {c:TC} {xs:List c.den} (hi:H[i]?=some (.cell true t (.arr n c xs))):aE ι (H.set i (.row t c xs)) w:=by
 obtain ⟨b,z,hb⟩:=h.gO hi
 obtain ⟨cells,fz,l,r,e1,e2,e3,e4,e5⟩:=h.obj _ _ _ _ hi hb
 have e5:fz=(0,0):=e5
 subst e5
 rw [aD] at e4
 exact h.Te hi hb (fun _=>rfl) (.inr ⟨cells,l,r,e1,e2,e3,e4.2⟩)
theorem aE.toCell (h:aE ι H w) {i:Nat} {t:TypeId} {c:TC} {xs:List c.den} (hi:H[i]?=some (.row t c xs)) (hx:xs≠[]):aE ι (H.set i (.cell true t (.arr xs.length c xs))) w:=by
 obtain ⟨b,z,hb⟩:=h.gO hi
 rcases h.obj _ _ _ _ hi hb with h0 | ⟨cells,l,r,e1,e2,e3,e4⟩
 ·exact absurd h0 hx
 ·refine h.Te hi hb (fun _=>?_) ⟨cells,(0,0),l,r,e1,e2,e3,?_,rfl⟩
  ·cases xs with
   | nil=>exact absurd rfl hx
   | cons=>rfl
  ·rw [aD];exact ⟨rfl,e4⟩
theorem Pf {c:TC} {ob:Nat} {t:TypeId} {c':TC} {xs:List c'.den} {y:aG} (ho:H[ob]?=some (.row t c' xs)) {x:AV} {r:List Prop×List c.den} (h:nI c H x=some r):nI c (H.set ob y) x=some r:=by
 unfold nI at h ⊢
 split at h
 ·exact h
 ·exact h
 ·rename_i o p s off len cap
  by_cases e:ob=o
  ·subst e
   rw [ho] at h
   cases h
  ·rw [List.getElem?_set_ne e]
   exact h
 ·cases h
theorem vM {o s n z0:Nat} {u:Value} (hn:0 < n) (k:ak ι (.aS o [] s 0 n none) u):ak ι (.row o s n) u:=by
 obtain ⟨b,z,kk,e,rfl,k1,k2,_⟩:=gW k
 refine an rfl ?_
 rw [aD]
 exact ⟨b,z,_,e,rfl,.inr ⟨hn,kk,by simp [aw],k1,by simpa [aw] using k2⟩⟩
theorem oI {t ty e:TypeId} {de:ba} {c:TC} {x:AV} {q:List Prop} {ys:List c.den} {cx:Value} (hu:E.P.underlying t=some (.slice e)) (he:de.ok E.P e) (hc:c.size=de.size) (h:nI c H x=some (q,ys)) (hq:holds q)
  (r:aE ι H w) (hx:ak ι x cx) (hb:ys.length * de.bytes≤2 ^ 40) (hn:ys.length≤2 ^ 40):
  ∃ ι' w' u,(Builtin.append_ #[t,t] ty #[.slice none 0 0,cx]).run E.P w=.ok u w'∧Ext ι ι'∧aE ι' (H++[.row e c ys]) w'∧ak ι' (.row H.length c.size ys.length) u:=by
 cases ys with
 | nil=>
  obtain ⟨l,hl,hcx⟩:=ja h hq r hx
  refine ⟨ι.add 0 0,w,.slice none 0 0,?_,Ext.add ι 0 0,r.ghost e c 0 0,an rfl ?_⟩
  ·refine iw hu he none 0 0 0 cx ?_ rfl (Nat.le_refl _)
   rcases hcx with ⟨_,h0 | ⟨a0,h0⟩⟩ | ⟨b,off,k,rfl,_⟩
   ·exact .inl ⟨h0,rfl⟩
   ·exact .inr ⟨a0,0,h0⟩
   ·exact .inr ⟨_,k,rfl⟩
  ·rw [aD]
   exact ⟨0,0,_,by rw [r.len];exact ι.fK 0 0,rfl,.inl ⟨rfl,rfl⟩⟩
 | cons y ys=>
  obtain ⟨ι',w',u,h1,h2,h3,h4⟩:=l6 (ty:=ty) hu he hc h hq r hx (by simp) hb hn
  have:=h3.R4 (i:=H.length) (t:=e) (c:=c) (n:=(y :: ys).length) (xs:=y :: ys) (by simp)
  refine ⟨ι',w',u,h1,h2,?_,vM (z0:=0) (by simp) h4⟩
  simpa using this
theorem Iu (hV:E.Valid) {t1 ty:TypeId} {s x v:AV} {q:List Prop} {H':al} {cs cx:Value} (h:RP E H t1 s x=some (q,v,H')) (hq:holds q) (r:aE ι H w) (hs:ak ι s cs) (hx:ak ι x cx):
  ∃ ι' w' u,(Builtin.append_ #[t1,t1] ty #[cs,cx]).run E.P w=.ok u w'∧Ext ι ι'∧aE ι' H' w'∧ak ι' v u:=by
 unfold RP at h
 split at h
 case h_2=>cases h
 rename_i d hd
 split at h
 case h_2=>cases h
 rename_i e de he
 split at h
 case h_2=>cases h
 rename_i c hsl hc
 obtain ⟨hu,he1⟩:=uw hV hd he hsl
 split at h
 case isFalse=>cases h
 rename_i hcond
 split at h
 case h_2=>cases h
 rename_i q1 ys happ
 split at h
 ·simp only [Option.some.injEq,Prod.mk.injEq] at h;obtain ⟨rfl,rfl,rfl⟩:=h
  rw [bu] at hq
  obtain ⟨hq1,h1,h2,_⟩:=hq
  have:=hs.raw;subst this
  exact oI hu he1 hcond.1 happ hq1 r hx h1 h2
 ·rename_i ob s0 len
  split at h
  case h_2=>cases h
  rename_i t c' xs hob
  split at h
  case isFalse=>cases h
  rename_i hcc;subst hcc
  split at h
  case isFalse=>cases h
  rename_i hst
  simp only [Option.some.injEq,Prod.mk.injEq] at h;obtain ⟨rfl,rfl,rfl⟩:=h
  rw [bu] at hq
  obtain ⟨hq1,hm,h1,h2,_⟩:=hq
  obtain ⟨rfl,rfl⟩:=hst
  have hm:len=xs.length:=hm
  subst hm
  have hlt:=(List.getElem?_eq_some_iff.1 hob).1
  have hs':=hs.one rfl rfl
  rw [aD] at hs'
  obtain ⟨b,z,v0,hbk,hv0,hv⟩:=hs'
  simp only [List.cons.injEq,and_true] at hv0
  subst hv0
  cases xs with
  | nil=>
   rcases hv with ⟨_,rfl⟩ | ⟨h0,_⟩
   ·obtain ⟨ι',w',u,k1,k2,k3,k4⟩:=oI (ty:=ty) hu he1 hcond.1 happ hq1 r hx (by simpa using h1) (by simpa using h2)
    refine ⟨ι',w',u,k1,k2,?_,by simpa using k4⟩
    have:=k3.kill (i:=ob) (by rw [List.getElem?_append_left hlt,hob];exact nofun)
    rw [List.set_append_left _ _ hlt] at this
    simpa using this
   ·simp at h0
  | cons x0 xs=>
   rcases hv with ⟨h0,_⟩ | ⟨hpos,k,rfl,hk,hkz⟩
   ·simp at h0
   ·have r1:=r.toCell hob (by simp)
    have hob1:(H.set ob (.cell true t (.arr (x0 :: xs).length c' (x0 :: xs))))[ob]?=some (.cell true t (.arr (x0 :: xs).length c' (x0 :: xs))):=by simp [hlt]
    have hsl':ak ι (.aS ob [] c'.size 0 (x0 :: xs).length none) (.slice (some ⟨b,0,none⟩) (x0 :: xs).length k):=by
     refine an rfl ?_
     rw [aD]
     exact ⟨b,z,k,hbk,by simp [aw],hk,by simpa [aw] using hkz,by simp⟩
    obtain ⟨ι',w',u,k1,k2,k3,k4⟩:=lZ (ty:=ty) hu he1 hcond.1 (Pf hob happ) hq1 r1 hx hsl' hob1 h1 h2
    refine ⟨ι',w',u,k1,k2,?_,?_⟩
    ·rw [List.set_set] at k3
     have:=k3.R4 (i:=H.length) (t:=t) (c:=c') (n:=(x0 :: xs).length+ys.length) (xs:=(x0 :: xs)++ys) (by rw [List.getElem?_append_right (by simp)];simp)
     have e:(H.set ob .dead++[aG.cell true t (.arr ((x0 :: xs).length+ys.length) c' ((x0 :: xs)++ys))]).set H.length (.row t c' ((x0 :: xs)++ys))=H.set ob .dead++[.row t c' ((x0 :: xs)++ys)]:=by
      rw [List.set_append_right _ _ (by simp)];simp
     rw [e] at this
     exact this
    ·rw [List.length_set] at k4
     exact vM (z0:=0) (by simp;omega) k4
 ·cases h
mutual
theorem vF {i:Nat} {t:TypeId} {own:Bool} {x:AV}:∀ {v u:AV} {H H':al} {q:List Prop},cT H v=some (q,u,H')→H[i]?=some (.cell own t x)→H'[i]?=some (.cell own t x)
 | .row o s n,u,H,H',q,h,hi=>by
  simp only [cT] at h
  split at h
  ·rename_i t' c xs ho
   split at h
   ·simp only [Option.some.injEq,Prod.mk.injEq] at h;obtain ⟨_,_,rfl⟩:=h
    have:o≠i:=by intro e;subst e;rw [ho] at hi;cases hi
    rw [List.getElem?_set_ne this];exact hi
   ·cases h
  ·cases h
 | .agg ss vs,u,H,H',q,h,hi=>by
  simp only [cT] at h
  split at h
  ·rename_i q' us H1 h1
   simp only [Option.some.injEq,Prod.mk.injEq] at h;obtain ⟨_,_,rfl⟩:=h
   exact vG h1 hi
  ·cases h
 | .int _ _,_,_,_,_,h,hi=>by simp only [cT,Option.some.injEq,Prod.mk.injEq] at h;rw [← h.2.2];exact hi
 | .bool _,_,_,_,_,h,hi=>by simp only [cT,Option.some.injEq,Prod.mk.injEq] at h;rw [← h.2.2];exact hi
 | .str _,_,_,_,_,h,hi=>by simp only [cT,Option.some.injEq,Prod.mk.injEq] at h;rw [← h.2.2];exact hi
 | .raw _,_,_,_,_,h,hi=>by simp only [cT,Option.some.injEq,Prod.mk.injEq] at h;rw [← h.2.2];exact hi
 | .arr _ _ _,_,_,_,_,h,hi=>by simp only [cT,Option.some.injEq,Prod.mk.injEq] at h;rw [← h.2.2];exact hi
 | .nk _,_,_,_,_,h,hi=>by simp only [cT,Option.some.injEq,Prod.mk.injEq] at h;rw [← h.2.2];exact hi
 | .ptr _ _,_,_,_,_,h,hi=>by simp only [cT,Option.some.injEq,Prod.mk.injEq] at h;rw [← h.2.2];exact hi
 | .ref _,_,_,_,_,h,hi=>by simp only [cT,Option.some.injEq,Prod.mk.injEq] at h;rw [← h.2.2];exact hi
 | .dA _ _,_,_,_,_,h,hi=>by simp only [cT,Option.some.injEq,Prod.mk.injEq] at h;rw [← h.2.2];exact hi
 | .aS _ _ _ _ _ _,_,_,_,_,h,hi=>by simp only [cT,Option.some.injEq,Prod.mk.injEq] at h;rw [← h.2.2];exact hi
 | .fn _ _,_,_,_,_,h,hi=>by simp only [cT,Option.some.injEq,Prod.mk.injEq] at h;rw [← h.2.2];exact hi
 | .yO _ _,_,_,_,_,h,hi=>by simp only [cT,Option.some.injEq,Prod.mk.injEq] at h;rw [← h.2.2];exact hi
 | .jl _,_,_,_,_,h,hi=>by simp only [cT,Option.some.injEq,Prod.mk.injEq] at h;rw [← h.2.2];exact hi
 | .mp _,_,_,_,_,h,hi=>by simp only [cT,Option.some.injEq,Prod.mk.injEq] at h;rw [← h.2.2];exact hi
 | .any,_,_,_,_,h,hi=>by simp only [cT,Option.some.injEq,Prod.mk.injEq] at h;rw [← h.2.2];exact hi
 | .oW _,_,_,_,_,h,hi=>by simp only [cT,Option.some.injEq,Prod.mk.injEq] at h;rw [← h.2.2];exact hi
 | .a8,_,_,_,_,h,hi=>by simp only [cT,Option.some.injEq,Prod.mk.injEq] at h;rw [← h.2.2];exact hi
theorem vG {i:Nat} {t:TypeId} {own:Bool} {x:AV}:∀ {vs us:List AV} {H H':al} {q:List Prop},sT H vs=some (q,us,H')→H[i]?=some (.cell own t x)→H'[i]?=some (.cell own t x)
 | [],_,_,_,_,h,hi=>by simp only [sT,Option.some.injEq,Prod.mk.injEq] at h;rw [← h.2.2];exact hi
 | v :: vs,us,H,H',q,h,hi=>by
  simp only [sT] at h
  split at h
  ·rename_i q1 u1 H1 h1
   split at h
   ·rename_i q2 us2 H2 h2
    simp only [Option.some.injEq,Prod.mk.injEq] at h;obtain ⟨_,_,rfl⟩:=h
    exact vG h2 (vF h1 hi)
   ·cases h
  ·cases h
end
theorem Lf (r:aE ι H w) {o s n:Nat} {t:TypeId} {c:TC} {xs:List c.den} {cs:List Value} (ho:H[o]?=some (.row t c xs)) (hs:s=c.size) (hn:n=xs.length) (k:aD ι (.row o s n) cs):
  ∃ ι',Ext ι ι'∧aE ι' (H.set o .dead) w∧aD ι' (.dA c xs) cs:=by
 subst hs hn
 rw [aD] at k
 obtain ⟨b,z,v0,hbk,rfl,hv⟩:=k
 cases xs with
 | nil=>
  rcases hv with ⟨_,rfl⟩ | ⟨h0,_⟩
  ·exact ⟨ι,Ext.refl ι,r.kill (by rw [ho];exact nofun),by rw [aD];exact ⟨_,rfl,.inl ⟨rfl,.inl rfl⟩⟩⟩
  ·simp at h0
 | cons x0 xs=>
  rcases hv with ⟨h0,_⟩ | ⟨hpos,k,rfl,hk,hkz⟩
  ·simp at h0
  ·have hlt:=(List.getElem?_eq_some_iff.1 ho).1
   have r1:=r.toCell ho (by simp)
   have ho1:(H.set o (.cell true t (.arr (x0 :: xs).length c (x0 :: xs))))[o]?=some (.cell true t (.arr (x0 :: xs).length c (x0 :: xs))):=by simp [hlt]
   obtain ⟨cells,fz,l,rr,e1,e2,e3,e4,e5⟩:=(r1.obj _ _ _ _ ho1 hbk).cell
   obtain ⟨hE,hR⟩:=r1.freeze ho1 hbk
   have hK:=hR.kill (i:=o) (by simp [hlt])
   rw [List.set_set,List.set_set] at hK
   refine ⟨_,hE,hK,?_⟩
   rw [aD] at e4
   obtain ⟨_,hrep⟩:=e4
   rw [aD]
   refine ⟨_,rfl,.inr ⟨b,0,k,cells,t,fz,l,rfl,hk,?_,hrep.mono fun x l=>cr hE.sub c x l,?_⟩⟩
   ·simp only [aq.freeze,if_true];exact e1
   ·have:=At.xK (l1:=[]) (m:=l) (l2:=rr) (cells:=cells) (by simpa using e2)
    simpa using this
mutual
theorem Cc:∀ {v u:AV} {H H':al} {q:List Prop} {ι:aq} {cs:List Value},cT H v=some (q,u,H')→holds q→aE ι H w→aD ι v cs→∃ ι',Ext ι ι'∧aE ι' H' w∧aD ι' u cs
 | .row o s n,u,H,H',q,ι,cs,h,hq,r,k=>by
  simp only [cT] at h
  split at h
  ·rename_i t' c xs ho
   split at h
   ·rename_i hs
    simp only [Option.some.injEq,Prod.mk.injEq] at h;obtain ⟨rfl,rfl,rfl⟩:=h
    exact Lf r ho hs hq.1 k
   ·cases h
  ·cases h
 | .agg ss vs,u,H,H',q,ι,cs,h,hq,r,k=>by
  simp only [cT] at h
  split at h
  ·rename_i q' us H1 h1
   simp only [Option.some.injEq,Prod.mk.injEq] at h;obtain ⟨rfl,rfl,rfl⟩:=h
   rw [aD] at k
   obtain ⟨ι',hE,hR,k'⟩:=Cd h1 hq r k
   exact ⟨ι',hE,hR,by rw [aD];exact k'⟩
  ·cases h
 | .int _ _,_,_,_,_,ι,_,h,_,r,k=>by simp only [cT,Option.some.injEq,Prod.mk.injEq] at h;obtain ⟨_,rfl,rfl⟩:=h;exact ⟨ι,Ext.refl ι,r,k⟩
 | .bool _,_,_,_,_,ι,_,h,_,r,k=>by simp only [cT,Option.some.injEq,Prod.mk.injEq] at h;obtain ⟨_,rfl,rfl⟩:=h;exact ⟨ι,Ext.refl ι,r,k⟩
 | .str _,_,_,_,_,ι,_,h,_,r,k=>by simp only [cT,Option.some.injEq,Prod.mk.injEq] at h;obtain ⟨_,rfl,rfl⟩:=h;exact ⟨ι,Ext.refl ι,r,k⟩
 | .raw _,_,_,_,_,ι,_,h,_,r,k=>by simp only [cT,Option.some.injEq,Prod.mk.injEq] at h;obtain ⟨_,rfl,rfl⟩:=h;exact ⟨ι,Ext.refl ι,r,k⟩
 | .arr _ _ _,_,_,_,_,ι,_,h,_,r,k=>by simp only [cT,Option.some.injEq,Prod.mk.injEq] at h;obtain ⟨_,rfl,rfl⟩:=h;exact ⟨ι,Ext.refl ι,r,k⟩
 | .nk _,_,_,_,_,ι,_,h,_,r,k=>by simp only [cT,Option.some.injEq,Prod.mk.injEq] at h;obtain ⟨_,rfl,rfl⟩:=h;exact ⟨ι,Ext.refl ι,r,k⟩
 | .ptr _ _,_,_,_,_,ι,_,h,_,r,k=>by simp only [cT,Option.some.injEq,Prod.mk.injEq] at h;obtain ⟨_,rfl,rfl⟩:=h;exact ⟨ι,Ext.refl ι,r,k⟩
 | .ref _,_,_,_,_,ι,_,h,_,r,k=>by simp only [cT,Option.some.injEq,Prod.mk.injEq] at h;obtain ⟨_,rfl,rfl⟩:=h;exact ⟨ι,Ext.refl ι,r,k⟩
 | .dA _ _,_,_,_,_,ι,_,h,_,r,k=>by simp only [cT,Option.some.injEq,Prod.mk.injEq] at h;obtain ⟨_,rfl,rfl⟩:=h;exact ⟨ι,Ext.refl ι,r,k⟩
 | .aS _ _ _ _ _ _,_,_,_,_,ι,_,h,_,r,k=>by simp only [cT,Option.some.injEq,Prod.mk.injEq] at h;obtain ⟨_,rfl,rfl⟩:=h;exact ⟨ι,Ext.refl ι,r,k⟩
 | .fn _ _,_,_,_,_,ι,_,h,_,r,k=>by simp only [cT,Option.some.injEq,Prod.mk.injEq] at h;obtain ⟨_,rfl,rfl⟩:=h;exact ⟨ι,Ext.refl ι,r,k⟩
 | .yO _ _,_,_,_,_,ι,_,h,_,r,k=>by simp only [cT,Option.some.injEq,Prod.mk.injEq] at h;obtain ⟨_,rfl,rfl⟩:=h;exact ⟨ι,Ext.refl ι,r,k⟩
 | .jl _,_,_,_,_,ι,_,h,_,r,k=>by simp only [cT,Option.some.injEq,Prod.mk.injEq] at h;obtain ⟨_,rfl,rfl⟩:=h;exact ⟨ι,Ext.refl ι,r,k⟩
 | .mp _,_,_,_,_,ι,_,h,_,r,k=>by simp only [cT,Option.some.injEq,Prod.mk.injEq] at h;obtain ⟨_,rfl,rfl⟩:=h;exact ⟨ι,Ext.refl ι,r,k⟩
 | .any,_,_,_,_,ι,_,h,_,r,k=>by simp only [cT,Option.some.injEq,Prod.mk.injEq] at h;obtain ⟨_,rfl,rfl⟩:=h;exact ⟨ι,Ext.refl ι,r,k⟩
 | .oW _,_,_,_,_,ι,_,h,_,r,k=>by simp only [cT,Option.some.injEq,Prod.mk.injEq] at h;obtain ⟨_,rfl,rfl⟩:=h;exact ⟨ι,Ext.refl ι,r,k⟩
 | .a8,_,_,_,_,ι,_,h,_,r,k=>by simp only [cT,Option.some.injEq,Prod.mk.injEq] at h;obtain ⟨_,rfl,rfl⟩:=h;exact ⟨ι,Ext.refl ι,r,k⟩
theorem Cd:∀ {vs us:List AV} {H H':al} {q:List Prop} {ι:aq} {ss:List Nat} {cs:List Value},sT H vs=some (q,us,H')→holds q→aE ι H w→cA ι ss vs cs→∃ ι',Ext ι ι'∧aE ι' H' w∧cA ι' ss us cs
 | [],_,_,_,_,ι,_,_,h,_,r,k=>by simp only [sT,Option.some.injEq,Prod.mk.injEq] at h;obtain ⟨_,rfl,rfl⟩:=h;exact ⟨ι,Ext.refl ι,r,k⟩
 | v :: vs,us,H,H',q,ι,ss,cs,h,hq,r,k=>by
  simp only [sT] at h
  split at h
  ·rename_i q1 u1 H1 h1
   split at h
   ·rename_i q2 us2 H2 h2
    simp only [Option.some.injEq,Prod.mk.injEq] at h;obtain ⟨rfl,rfl,rfl⟩:=h
    rw [bu] at hq
    rw [cA] at k
    obtain ⟨s,ss',l,m,e1,e2,e3,k1,k2⟩:=k
    obtain ⟨ι1,hE1,r1,k1'⟩:=Cc h1 hq.1 r k1
    obtain ⟨ι2,hE2,r2,k2'⟩:=Cd h2 hq.2 r1 (kY hE1.sub _ _ _ k2)
    refine ⟨ι2,hE1.trans hE2,r2,?_⟩
    rw [cA]
    exact ⟨s,ss',l,m,e1,e2,e3,bY hE2.sub _ _ k1',k2'⟩
   ·cases h
  ·cases h
end
theorem QJ {f:FuncId} {id:Nat} {q:List Prop} {H':al} (h:UD E f id T H=some (q,H')) (hq:holds q) (r:aE ι H w):∃ ι',Ext ι ι'∧aE ι' H' w:=by
 unfold UD at h
 split at h
 ·simp only [Option.some.injEq,Prod.mk.injEq] at h;obtain ⟨_,rfl⟩:=h
  exact ⟨ι,Ext.refl ι,r⟩
 ·split at h
  ·rename_i ob p ht
   split at h
   ·rename_i ty v ho
    split at h
    ·rename_i q' u H1 hs
     split at h
     ·rename_i hsz
      simp only [Option.some.injEq,Prod.mk.injEq] at h;obtain ⟨rfl,rfl⟩:=h
      obtain ⟨b,z,hb⟩:=r.gO ho
      obtain ⟨cells,fz,l,rr,e1,e2,e3,e4,e5⟩:=r.obj _ _ _ _ ho hb
      obtain ⟨ι',hE,r',k⟩:=Cc hs hq r e4
      have ho':=vF hs ho
      exact ⟨ι',hE,r'.Te ho' (hE.bB _ _ hb) (fun _=>rfl) ⟨cells,fz,l,rr,e1,e2,e3,k,e5⟩⟩
     ·cases h
    ·cases h
   ·cases h
  ·cases h
end Go.aA
end
section
namespace Go.aA
open Go.RowKit
variable {E:Env} {ι:aq} {T:List AV} {H:al} {a:Act} {w:World}
def TC.ny:TC→Bool
 | .int _=>true | .bool=>true | .str=>true | .unit=>true
 | .st a r=>a.ny&&r.ny | .a7 a=>a.ny
 | .arr _ c=>c.flat
 | _=>false
def TC.JW:Nat→TC→Bool
 | 0,.st .a8 r=>r.ny
 | 0,.a7 .a8=>true
 | k+1,.st a r=>a.ny&&r.JW k
 | _,_=>false
def aN.wf (ps:aN):Bool:=ps.ce.flat&&ps.bG.flat&&ps.st.JW ps.lf
theorem kM:∀ {c:TC},c.ny=true→c.flat=true
 | .int _,_=>rfl | .bool,_=>rfl | .str,_=>rfl | .unit,_=>rfl
 | .st a r,h=>by simp only [TC.ny,Bool.and_eq_true] at h;simp only [TC.flat,kM h.1,kM h.2,Bool.and_self]
 | .a7 a,h=>kM (c:=a) h
 | .arr _ _,h=>h
 | .slice _,h=>by cases h
 | .ref _,h=>by cases h
 | .a8,h=>by cases h
theorem wO:∀ {k:Nat} {c:TC},c.JW k=true→c.flat=true
 | 0,.st .a8 r,h=>by simp only [TC.flat,Bool.true_and];exact kM h
 | 0,.a7 .a8,_=>rfl
 | k+1,.st a r,h=>by
  simp only [TC.JW,Bool.and_eq_true] at h
  simp only [TC.flat,kM h.1,wO h.2,Bool.and_self]
theorem yD:∀ {c:TC},c.ny=true→(∀ (v:AV) (x:c.den) (cs:List Value),c.back.1 v=some x→(aD ι v cs↔bD ι c x cs))∧
  (∀ (vs:List AV) (x:c.den) (cs:List Value),c.back.2 vs=some x→(cA ι c.hZ vs cs↔bD ι c x cs)):=by
 have lone:∀ (c:TC),c.hZ=[c.size]→(∀ vs,c.back.2 vs=oneOf c.back.1 vs)→(∀ (v:AV) (x:c.den) (cs:List Value),c.back.1 v=some x→(aD ι v cs↔bD ι c x cs))→
   ∀ (vs:List AV) (x:c.den) (cs:List Value),c.back.2 vs=some x→(cA ι c.hZ vs cs↔bD ι c x cs):=by
  intro c hs hb h1 vs x cs h
  rw [hb] at h
  obtain ⟨v,rfl,hv⟩:=kJ h
  rw [hs,eW,h1 _ _ _ hv]
  exact ⟨fun k=>k.2,fun k=>⟨aO c _ _ k,k⟩⟩
 intro c
 induction c with
 | int k=>
  intro _
  have h1:∀ (v:AV) (x:(TC.int k).den) (cs:List Value),(TC.int k).back.1 v=some x→(aD ι v cs↔bD ι (.int k) x cs):=by
   intro v x cs h
   cases v<;>simp [TC.back] at h
   obtain ⟨h1,h2⟩:=h;subst h1;subst h2
   rw [aD];exact Iff.rfl
  exact ⟨h1,lone (.int k) rfl (fun _=>rfl) h1⟩
 | bool=>
  intro _
  have h1:∀ (v:AV) (x:(TC.bool).den) (cs:List Value),(TC.bool).back.1 v=some x→(aD ι v cs↔bD ι .bool x cs):=by
   intro v x cs h
   cases v<;>simp [TC.back] at h
   subst h
   rw [aD];exact Iff.rfl
  exact ⟨h1,lone .bool rfl (fun _=>rfl) h1⟩
 | str=>
  intro _
  have h1:∀ (v:AV) (x:(TC.str).den) (cs:List Value),(TC.str).back.1 v=some x→(aD ι v cs↔bD ι .str x cs):=by
   intro v x cs h
   cases v<;>simp [TC.back] at h
   subst h
   rw [aD];exact Iff.rfl
  exact ⟨h1,lone .str rfl (fun _=>rfl) h1⟩
 | unit=>
  intro _
  have h1:∀ (v:AV) (x:(TC.unit).den) (cs:List Value),(TC.unit).back.1 v=some x→(aD ι v cs↔bD ι .unit x cs):=by
   intro v x cs h
   simp only [TC.back] at h
   split at h
   ·rw [aD,cA]
    exact ⟨fun k=>k.2,fun k=>⟨rfl,k⟩⟩
   ·cases h
  exact ⟨h1,lone .unit rfl (fun _=>rfl) h1⟩
 | st a r iha ihr=>
  intro hf
  simp only [TC.ny,Bool.and_eq_true] at hf
  have ia:=(iha hf.1).1
  have ir:=(ihr hf.2).2
  have h2:∀ (vs:List AV) (x:(TC.st a r).den) (cs:List Value),(TC.st a r).back.2 vs=some x→(cA ι (TC.st a r).hZ vs cs↔bD ι (.st a r) x cs):=by
   intro vs x cs h
   simp only [TC.back] at h
   split at h
   ·rename_i v l
    split at h
    ·rename_i y hy
     split at h
     ·rename_i z hz
      simp only [Option.some.injEq] at h;subst h
      simp only [TC.hZ,cA,bD]
      constructor
      ·rintro ⟨s,ss',l1,m,e1,e2,e3,k1,k2⟩
       cases e1
       exact ⟨l1,m,e2,(ia _ _ _ hy).1 k1,(ir _ _ _ hz).1 k2⟩
      ·rintro ⟨l1,m,e,k1,k2⟩
       exact ⟨_,_,l1,m,rfl,e,aO _ _ _ k1,(ia _ _ _ hy).2 k1,(ir _ _ _ hz).2 k2⟩
     ·cases h
    ·cases h
   ·cases h
  refine ⟨?_,h2⟩
  intro v x cs h
  cases v<;>simp only [TC.back] at h<;>try (cases h;done)
  rename_i ss vs
  split at h
  ·rename_i hss;subst hss
   rw [aD]
   exact h2 _ _ _ h
  ·cases h
 | a7 a iha=>
  intro hf
  have ia:=(iha hf).1
  have h2:∀ (vs:List AV) (x:(TC.a7 a).den) (cs:List Value),(TC.a7 a).back.2 vs=some x→(cA ι (TC.a7 a).hZ vs cs↔bD ι (.a7 a) x cs):=by
   intro vs x cs h
   obtain ⟨v,rfl,hv⟩:=kJ h
   simp only [TC.hZ,eW,bD]
   rw [ia _ _ _ hv]
   exact ⟨fun k=>k.2,fun k=>⟨aO a _ _ k,k⟩⟩
  refine ⟨?_,h2⟩
  intro v x cs h
  cases v<;>simp only [TC.back] at h<;>try (cases h;done)
  rename_i ss vs
  split at h
  ·rename_i hss;subst hss
   rw [aD]
   exact h2 _ _ _ h
  ·cases h
 | arr n c _=>
  intro _
  have h1:∀ (v:AV) (x:(TC.arr n c).den) (cs:List Value),(TC.arr n c).back.1 v=some x→(aD ι v cs↔bD ι (.arr n c) x cs):=by
   intro v x cs h
   cases v<;>simp only [TC.back] at h<;>try (cases h;done)
   split at h
   ·rename_i hc;subst hc
    split at h
    ·rename_i hn;subst hn
     simp only [Option.some.injEq] at h;subst h
     rw [aD]
    ·cases h
   ·cases h
  exact ⟨h1,lone (.arr n c) rfl (fun _=>rfl) h1⟩
 | slice c _=>intro h;cases h
 | ref c _=>intro h;cases h
 | a8=>intro h;cases h
theorem uL:∀ {k:Nat} {c:TC},c.JW k=true→∀ {vs:List AV} {x:c.den},c.back.2 vs=some x→
  ∃ r,vs[k]?=some r∧qO r=true∧
   (∀ {ι:aq} {cs:List Value},cA ι c.hZ vs cs→bD ι c x cs∧∃ l1 m l2,cs=l1++(m :: l2)∧l1.length=(c.hZ.take k).sum∧aD ι r [m])∧
   (∀ r',qO r'=true→c.back.2 (vs.set k r')=some x∧∀ {ι:aq} {l1 l2:List Value} {m:Value},l1.length=(c.hZ.take k).sum→bD ι c x (l1++(m :: l2))→aD ι r' [m]→cA ι c.hZ (vs.set k r') (l1++(m :: l2)))
 | 0,.st .a8 r,hg,vs,x,h=>by
  have hr:=fun ι=>(yD (ι:=ι) (c:=r) hg).2
  simp only [TC.back] at h
  split at h
  ·rename_i v l
   split at h
   ·rename_i y hy
    split at h
    ·rename_i z hz
     simp only [Option.some.injEq] at h;subst h
     have hv:qO v=true:=by
      by_cases e:qO v=true
      ·exact e
      ·rw [if_neg e] at hy;cases hy
     refine ⟨v,rfl,hv,?_,?_⟩
     ·intro ι cs k
      simp only [TC.hZ,cA] at k
      obtain ⟨s,ss',l1,m,e1,e2,e3,k1,k2⟩:=k
      cases e1
      obtain ⟨cc,rfl,hcc⟩:=rQ hv k1
      refine ⟨⟨[cc],m,e2,⟨cc,rfl,hcc⟩,(hr ι _ _ _ hz).1 k2⟩,[],cc,m,e2,rfl,k1⟩
     ·intro r' hr'
      refine ⟨?_,?_⟩
      ·simp only [List.set_cons_zero,TC.back]
       rw [if_pos hr']
       simp only [hz]
      ·intro ι l1 l2 m hl k hm
       have:l1=[]:=List.eq_nil_of_length_eq_zero (by simpa using hl)
       subst this
       obtain ⟨l,m',e,k1,k2⟩:=k
       obtain ⟨cc,rfl,hcc⟩:=k1
       simp only [List.nil_append,List.singleton_append,List.cons.injEq] at e
       obtain ⟨rfl,rfl⟩:=e
       simp only [List.set_cons_zero,TC.hZ,cA]
       exact ⟨_,_,[m],l2,rfl,rfl,rfl,hm,(hr ι _ _ _ hz).2 k2⟩
    ·cases h
   ·cases h
  ·cases h
 | 0,.a7 .a8,_,vs,x,h=>by
  obtain ⟨v,rfl,hv0⟩:=kJ h
  have hv:qO v=true:=by
   simp only [TC.back] at hv0
   by_cases e:qO v=true
   ·exact e
   ·rw [if_neg e] at hv0;cases hv0
  refine ⟨v,rfl,hv,?_,?_⟩
  ·intro ι cs k
   simp only [TC.hZ,eW] at k
   obtain ⟨cc,rfl,hcc⟩:=rQ hv k.2
   exact ⟨⟨cc,rfl,hcc⟩,[],cc,[],rfl,rfl,k.2⟩
  ·intro r' hr'
   refine ⟨?_,?_⟩
   ·simp only [List.set_cons_zero,TC.back,oneOf]
    rw [if_pos hr']
   ·intro ι l1 l2 m hl k hm
    have:l1=[]:=List.eq_nil_of_length_eq_zero (by simpa using hl)
    subst this
    obtain ⟨cc,e,hcc⟩:=k
    simp only [List.nil_append,List.cons.injEq] at e
    obtain ⟨rfl,rfl⟩:=e
    simp only [List.set_cons_zero,TC.hZ,eW]
    exact ⟨rfl,hm⟩
 | k+1,.st a r,hg,vs,x,h=>by
  simp only [TC.JW,Bool.and_eq_true] at hg
  have ha:=fun ι=>(yD (ι:=ι) (c:=a) hg.1).1
  simp only [TC.back] at h
  split at h
  ·rename_i v l
   split at h
   ·rename_i y hy
    split at h
    ·rename_i z hz
     simp only [Option.some.injEq] at h;subst h
     obtain ⟨rr,h1,h2,h3,h4⟩:=uL hg.2 hz
     refine ⟨rr,by simpa using h1,h2,?_,?_⟩
     ·intro ι cs kk
      simp only [TC.hZ,cA] at kk
      obtain ⟨s,ss',l1,m,e1,e2,e3,k1,k2⟩:=kk
      cases e1
      obtain ⟨g1,l1',m',l2',e,hl,hm⟩:=h3 k2
      refine ⟨⟨l1,m,e2,(ha ι _ _ _ hy).1 k1,g1⟩,l1++l1',m',l2',by rw [e2,e,List.append_assoc],?_,hm⟩
      simp only [TC.hZ,List.take_succ_cons,List.sum_cons,List.length_append,hl,e3]
     ·intro r' hr'
      obtain ⟨b1,b2⟩:=h4 r' hr'
      refine ⟨?_,?_⟩
      ·simp only [List.set_cons_succ,TC.back,hy,b1]
      ·intro ι l1 l2 m hl kk hm
       obtain ⟨p1,p2,e,k1,k2⟩:=kk
       have hp1:=aO a _ _ k1
       simp only [TC.hZ,List.take_succ_cons,List.sum_cons] at hl
       have e1:l1=p1++l1.drop a.size:=by
        have:=congrArg (List.take a.size) e
        rw [List.take_append_of_le_length (by omega),← hp1,List.take_left' rfl,hp1] at this
        rw [← this,List.take_append_drop]
       have e2:p2=l1.drop a.size++(m :: l2):=by
        rw [e1,List.append_assoc] at e
        exact (List.append_cancel_left e).symm
       rw [e2] at k2
       simp only [List.set_cons_succ,TC.hZ,cA]
       refine ⟨_,_,p1,l1.drop a.size++(m :: l2),rfl,?_,hp1,(ha ι _ _ _ hy).2 k1,b2 (by simp;omega) k2 hm⟩
       rw [← List.append_assoc,← e1]
    ·cases h
   ·cases h
  ·cases h
end Go.aA
end
section
namespace Go.aA
open Go.RowKit
variable {E:Env} {ι:aq} {T:List AV} {H:al} {a:Act} {w:World}
def H0 (ps:aN) (S:ps.st.den) (xs:List ps.ce.den):al:=
 [.cell true ps.t (.agg ps.st.hZ ((ps.st.both S).2.set ps.lf (.row 1 ps.ce.size xs.length))),.row ps.te ps.ce xs]
def aN.self (ps:aN):AV:=if ps.box=true then .ref (.ptr 0 []) else .ptr 0 []
def aN.Et (ps:aN) (x:ps.arg.den):List AV:=(fJ ps.arg x).take ps.pos++ps.self :: (fJ ps.arg x).drop ps.pos
def aZ (E:Env) (f:FuncId) (ps:aN):Prop:=
 ps.wf=true∧∀ (S:ps.st.den) (xs:List ps.ce.den) (x:ps.arg.den) (ι:aq) (w:World) (args:List Value),ps.pre (S,xs,x)→aE ι (H0 ps S xs) w→cS E ι→
  aL (ak ι) (ps.Et x) args→jD E.P f args.toArray w fun c w'=>∃ ι' H' o vs',Ext ι ι'∧aE ι' H' w'∧H'[0]?=some (.cell true ps.t (.agg ps.st.hZ vs'))∧ps.st.back.2 vs'=some S∧
   vs'[ps.lf]?=some (.row o ps.ce.size (ps.f (S,xs,x)).length)∧H'[o]?=some (.row ps.te ps.ce (ps.f (S,xs,x)))∧ak ι' (nV ps.n ps.bG (ps.g (S,xs,x))) c
theorem aL.Is {α β:Type} {R:α→β→Prop}:∀ {l1 l2:List α} {m:List β},aL R (l1++l2) m→∃ m1 m2,m=m1++m2∧aL R l1 m1∧aL R l2 m2
 | [],_,m,h=>⟨[],m,rfl,.nil,h⟩
 | _ :: l1,_,_,h=>by
  obtain ⟨y,m',rfl,h1,h2⟩:=h.cons_inv
  obtain ⟨m1,m2,rfl,k1,k2⟩:=h2.Is
  exact ⟨y :: m1,m2,rfl,.cons h1 k1,k2⟩
theorem aL.put {α β:Type} {R:α→β→Prop} {p:α} {c:β} (hp:R p c) {m3:List β}:∀ {m1:List β} {l:List α},aL R l (m1++m3)→aL R (l.take m1.length++p :: l.drop m1.length) (m1++c :: m3)
 | [],_,h=>.cons hp h
 | _ :: m1,l,h=>by
  cases h with
  | cons h1 h2=>exact .cons h1 (aL.put hp h2)
theorem JO:∀ {k:Nat} {c:TC},c.JW k=true→∀ x:c.den,c.back.2 (c.both x).2=some x:=by
 have key:∀ {c:TC},c.ny=true→(∀ x:c.den,c.back.1 (c.both x).1=some x)∧∀ x:c.den,c.back.2 (c.both x).2=some x:=by
  intro c
  induction c with
  | int k=>intro _;exact ⟨fun x=>by simp [TC.both,TC.back],fun x=>by simp [TC.both,TC.back,oneOf]⟩
  | bool=>intro _;exact ⟨fun x=>by simp [TC.both,TC.back],fun x=>by simp [TC.both,TC.back,oneOf]⟩
  | str=>intro _;exact ⟨fun x=>by simp [TC.both,TC.back],fun x=>by simp [TC.both,TC.back,oneOf]⟩
  | unit=>intro _;exact ⟨fun x=>by simp [TC.both,TC.back],fun x=>by simp [TC.both,TC.back,oneOf]⟩
  | st a r iha ihr=>
   intro hf
   simp only [TC.ny,Bool.and_eq_true] at hf
   have h2:∀ x:(TC.st a r).den,(TC.st a r).back.2 ((TC.st a r).both x).2=some x:=fun x=>by
    simp only [TC.both,TC.back,(iha hf.1).1,(ihr hf.2).2]
   refine ⟨fun x=>?_,h2⟩
   have:=h2 x
   simp only [TC.both,TC.back] at this ⊢
   simpa using this
  | a7 a iha=>
   intro hf
   have ia:=(iha hf).1
   have h2:∀ x:(TC.a7 a).den,(TC.a7 a).back.2 ((TC.a7 a).both x).2=some x:=fun x=>ia x
   refine ⟨fun x=>?_,h2⟩
   have:=h2 x
   simp only [TC.both,TC.back] at this ⊢
   simpa using this
  | arr n c _=>intro _;exact ⟨fun x=>by simp [TC.both,TC.back],fun x=>by simp [TC.both,TC.back,oneOf]⟩
  | slice c _=>intro h;cases h
  | ref c _=>intro h;cases h
  | a8=>intro h;cases h
 intro k
 induction k with
 | zero=>
  intro c hg x
  cases c<;>try (exfalso;revert hg;simp [TC.JW];done)
  ·rename_i a r
   cases a<;>try (exfalso;revert hg;simp [TC.JW];done)
   have hg:r.ny=true:=hg
   simp only [TC.both,TC.back,qO,if_true,(key hg).2]
  ·rename_i a
   cases a<;>try (exfalso;revert hg;simp [TC.JW];done)
   rfl
 | succ k ih=>
  intro c hg x
  cases c<;>try (exfalso;revert hg;simp [TC.JW];done)
  rename_i a r
  simp only [TC.JW,Bool.and_eq_true] at hg
  simp only [TC.both,TC.back,(key hg.1).1,ih hg.2]
theorem yS {b z:Nat} {c:Value} {ob:Nat} (hb:ι.bB[ob]?=some (b,z)) (k:ak ι (.ptr ob []) c):c=.pointer (some ⟨b,0,none⟩):=by
 have:=k.one rfl rfl
 rw [aD] at this
 obtain ⟨b',z',e,h⟩:=this
 rw [hb] at e;cases e
 simpa [aw] using h
theorem Ls {ps:aN} {r:AV} {q1:List Prop} {xs:List ps.ce.den} {H1:al} (h:rowOf ps H r=some (q1,xs,H1)) (hq:holds q1) (hr:aE ι H w) {m:Value} (hm:aD ι r [m]):
  aE ι H1 w∧H1.length=H.length∧qO r=true∧(∀ (i:Nat),(∀ t c ys,H[i]?≠some (aG.row t c ys))→H1[i]?=H[i]?)∧(∀ (i:Nat) y,H1[i]?=some y→y=aG.dead∨H[i]?=some y)∧
   ((xs=[]∧m=.slice none 0 0)∨(xs≠[]∧∃ (o b z k:Nat),H[o]?=some (aG.row ps.te ps.ce xs)∧H1[o]?=some aG.dead∧ι.bB[o]?=some (b,z)∧m=.slice (some ⟨b,0,none⟩) xs.length k∧xs.length≤k∧k * ps.ce.size≤z)):=by
 unfold rowOf at h
 split at h
 ·simp only [Option.some.injEq,Prod.mk.injEq] at h
  obtain ⟨rfl,rfl,rfl⟩:=h
  rw [aD] at hm
  exact ⟨hr,rfl,rfl,fun _ _=>rfl,fun _ _ e=>.inr e,.inl ⟨rfl,by simpa using hm.1⟩⟩
 ·rename_i o s n
  split at h
  case h_2=>cases h
  rename_i te c ys ho
  split at h
  case isFalse=>cases h
  rename_i hc;subst hc
  split at h
  case isFalse=>cases h
  rename_i hts
  obtain ⟨rfl,rfl⟩:=hts
  simp only [Option.some.injEq,Prod.mk.injEq] at h
  obtain ⟨rfl,rfl,rfl⟩:=h
  have hn:n=ys.length:=hq.1
  subst hn
  have hlt:=(List.getElem?_eq_some_iff.1 ho).1
  rw [aD] at hm
  obtain ⟨b,z,v0,hb,hv0,hv⟩:=hm
  simp only [List.cons.injEq,and_true] at hv0
  subst hv0
  refine ⟨hr.kill (by rw [ho];exact nofun),by simp,rfl,fun i hi=>?_,fun i y e=>?_,?_⟩
  ·have:o≠i:=by intro e;subst e;exact hi _ _ _ ho
   rw [List.getElem?_set_ne this]
  ·by_cases hoi:o=i
   ·subst hoi
    rw [List.getElem?_set_self hlt] at e
    left;simpa using e.symm
   ·rw [List.getElem?_set_ne hoi] at e
    exact .inr e
  ·rcases hv with ⟨h0,rfl⟩ | ⟨hpos,k,rfl,hk,hkz⟩
   ·exact .inl ⟨List.eq_nil_of_length_eq_zero h0,rfl⟩
   ·refine .inr ⟨by intro e;rw [e] at hpos;simp at hpos,o,b,z,k,ho,by simp [hlt],hb,rfl,hk,hkz⟩
 ·cases h
theorem x8 {f:FuncId} {ps:aN} (hp:aZ E f ps) {vs:List AV} {q:List Prop} {v:AV} {H':al} {args:List Value} (h:j8 ps H vs=some (q,v,H')) (hq:holds q) (r:aE ι H w) (hg:cS E ι) (ha:aL (ak ι) vs args):
  jD E.P f args.toArray w fun c w'=>∃ ι',Ext ι ι'∧aE ι' H' w'∧ak ι' v c:=by
 obtain ⟨hwf,hp⟩:=hp
 simp only [aN.wf,Bool.and_eq_true] at hwf
 obtain ⟨⟨hce,hcod⟩,hgap⟩:=hwf
 unfold j8 at h
 split at h
 case h_2=>cases h
 rename_i p as2 hdrop
 split at h
 case h_2=>cases h
 rename_i ob hself
 split at h
 case h_2=>cases h
 rename_i t ss vs0 hob
 split at h
 case isFalse=>cases h
 rename_i hts
 obtain ⟨rfl,rfl⟩:=hts
 split at h
 case h_2=>cases h
 rename_i rr S hrr hS
 split at h
 case h_2=>cases h
 rename_i q1 xs H1 hrow
 split at h
 case isFalse=>cases h
 rename_i hh
 split at h
 case h_2=>cases h
 rename_i q2 us hv
 split at h
 case h_2=>cases h
 rename_i x hx
 simp only [Option.some.injEq,Prod.mk.injEq] at h
 obtain ⟨rfl,rfl,rfl⟩:=h
 rw [bu,bu] at hq
 obtain ⟨hq1,hq2,hpre,_⟩:=hq
 obtain ⟨m1,m2,ea,hta1,hta2⟩:=(show aL (ak ι) (vs.take ps.pos++p :: as2) args by rw [← hdrop,List.take_append_drop];exact ha).Is
 obtain ⟨c0,m3,em,hc0,hta3⟩:=hta2.cons_inv
 subst em;subst ea
 clear ha hta2
 have hm1:m1.length=ps.pos:=by
  rw [← hta1.len,List.length_take]
  have h1:=congrArg List.length hdrop
  simp only [List.length_drop,List.length_cons] at h1
  omega
 have hta:=hta1.app hta3
 obtain ⟨b,z,hb⟩:=r.gO hob
 obtain ⟨cells,fz,l,rest,e1,e2,e3,e4,e5⟩:=(r.obj _ _ _ _ hob hb).cell
 have e5:=e5 rfl;subst e5
 rw [aD] at e4
 obtain ⟨rr',hrr',hone,hto,hfrom⟩:=uL hgap hS
 rw [hrr] at hrr'
 cases hrr'
 obtain ⟨hD,l1,m,l2,el,hl1,hm⟩:=hto e4
 obtain ⟨r1,hlen1,_,hkeep,hold,hrowm⟩:=Ls hrow hq1 r hm
 have hobne:∀ t c ys,H[ob]?≠some (.row t c ys):=fun _ _ _ e=>by rw [hob] at e;cases e
 have hob1:H1[ob]?=some (.cell true ps.t (.agg ps.st.hZ vs0)):=by rw [hkeep ob hobne];exact hob
 have hownb:=r.own _ _ _ _ hob rfl hb
 have hltob:=(List.getElem?_eq_some_iff.1 hob).1
 obtain ⟨b2,z2,hrb⟩:∃ b2 z2,(xs=[]∧m=.slice none 0 0)∨(xs≠[]∧∃ (o k:Nat),H[o]?=some (aG.row ps.te ps.ce xs)∧H1[o]?=some aG.dead∧ι.bB[o]?=some (b2,z2)∧m=.slice (some ⟨b2,0,none⟩) xs.length k∧xs.length≤k∧k * ps.ce.size≤z2):=by
  rcases hrowm with h | ⟨h0,o,b2,z2,k,h⟩
  ·exact ⟨0,0,.inl h⟩
  ·exact ⟨b2,z2,.inr ⟨h0,o,k,h⟩⟩
 have howned:xs≠[]→aG.owned (.row ps.te ps.ce xs)=true:=fun h0=>by
  cases xs with
  | nil=>exact absurd rfl h0
  | cons=>rfl
 let ι0:aq:={w0:=ι.w0,aM:=fun k=>if k=b then none else if k=b2∧xs≠[] then none else w.heap[k]?,bB:=⟨[some (b,z),some (b2,z2)]⟩}
 have at0:ι0.bB[0]?=some (b,z):=rfl
 have at1:ι0.bB[1]?=some (b2,z2):=rfl
 have p0:∀ k,k≠b→¬ (k=b2∧xs≠[])→ι0.aM k=w.heap[k]?:=fun k h1 h2=>by
  show (if k=b then none else if k=b2∧xs≠[] then none else w.heap[k]?)=_
  rw [if_neg h1,if_neg h2]
 have b2own:xs≠[]→ι.aM b2=none∧b2 < w.heap.size∧ι.w0.heap.size≤b2∧b2≠b:=by
  intro h0
  rcases hrb with ⟨h1,_⟩ | ⟨_,o,k,ho,_,hbo,_⟩
  ·exact absurd h1 h0
  ·have h1:=r.own _ _ _ _ ho (howned h0) hbo
   refine ⟨h1.1,h1.2.1,h1.2.2,?_⟩
   intro e;subst e
   have:=r.sep _ _ _ _ _ _ _ ho (howned h0) hob rfl hbo hb
   subst this
   exact hobne _ _ _ ho
 have sub0:∀ k o,ι.aM k=some o→ι0.aM k=some o:=fun k o e=>by
  rw [p0 k,r.aM _ _ e]
  ·intro h1;subst h1;rw [hownb.1] at e;cases e
  ·rintro ⟨h1,h2⟩;subst h1;rw [(b2own h2).1] at e;cases e
 have hR0:aE ι0 (H0 ps S xs) w:=by
  have hrow1:aD ι0 (.row 1 ps.ce.size xs.length) [m]:=by
   rw [aD]
   refine ⟨b2,z2,m,rfl,rfl,?_⟩
   rcases hrb with ⟨h1,h2⟩ | ⟨h0,o,k,_,_,_,h2,h3,h4⟩
   ·exact .inl ⟨by rw [h1];rfl,h2⟩
   ·exact .inr ⟨List.length_pos_iff.2 h0,k,h2,h3,h4⟩
  refine ⟨⟨rfl,fun i u e=>?_⟩,?_,?_,?_,?_,r.base⟩
  ·match i with
   | 0=>simp only [H0,List.getElem?_cons_zero,Option.some.injEq] at e;subst e;exact ⟨nofun,fun h=>by cases h⟩
   | 1=>simp only [H0,List.getElem?_cons_succ,List.getElem?_cons_zero,Option.some.injEq] at e;subst e;exact ⟨nofun,fun h=>by cases h⟩
   | i+2=>simp [H0] at e
  ·intro k o e
   have e:(if k=b then none else if k=b2∧xs≠[] then none else w.heap[k]?)=some o:=e
   split at e
   ·cases e
   ·split at e
    ·cases e
    ·exact e
  ·intro i y b' z' e1' e2'
   match i with
   | 0=>
    simp only [H0,List.getElem?_cons_zero,Option.some.injEq] at e1'
    have e2':=e2';rw [at0,Option.some.injEq,Prod.mk.injEq] at e2'
    obtain ⟨rfl,rfl⟩:=e2'
    subst e1'
    obtain ⟨_,_,_,_,hf2⟩:=uL hgap (JO hgap S)
    have:=(hf2 (.row 1 ps.ce.size xs.length) rfl).2 hl1 (show bD ι0 ps.st S (l1++(m :: l2)) from di ps.st (.inl (wO hgap)) _ _ (el▸hD)) hrow1
    refine ⟨cells,(0,0),l,rest,e1,e2,e3,?_,rfl⟩
    rw [aD,el]
    exact this
   | 1=>
    simp only [H0,List.getElem?_cons_succ,List.getElem?_cons_zero,Option.some.injEq] at e1'
    have e2':=e2';rw [at1,Option.some.injEq,Prod.mk.injEq] at e2'
    obtain ⟨rfl,rfl⟩:=e2'
    subst e1'
    rcases hrb with ⟨h1,_⟩ | ⟨h0,o,k,ho,_,hbo,_⟩
    ·exact .inl h1
    ·rcases r.obj _ _ _ _ ho hbo with k1 | ⟨cl,la,ra,k1,k2,k3,k4⟩
     ·exact absurd k1 h0
     ·exact .inr ⟨cl,la,ra,k1,k2,k3,k4.mono fun x l h=>di ps.ce (.inl hce) x l h⟩
   | i+2=>simp [H0] at e1'
  ·intro i y b' z' e1' ho e2'
   match i with
   | 0=>
    have e2':=e2';rw [at0,Option.some.injEq,Prod.mk.injEq] at e2'
    obtain ⟨rfl,rfl⟩:=e2'
    refine ⟨?_,hownb.2⟩
    show (if b=b then none else _)=none
    rw [if_pos rfl]
   | 1=>
    simp only [H0,List.getElem?_cons_succ,List.getElem?_cons_zero,Option.some.injEq] at e1'
    have e2':=e2';rw [at1,Option.some.injEq,Prod.mk.injEq] at e2'
    obtain ⟨rfl,rfl⟩:=e2'
    subst e1'
    have h0:xs≠[]:=by intro e;subst e;cases ho
    have h1:=b2own h0
    refine ⟨?_,h1.2.1,h1.2.2.1⟩
    show (if b2=b then none else if b2=b2∧xs≠[] then none else w.heap[b2]?)=none
    rw [if_neg h1.2.2.2,if_pos ⟨rfl,h0⟩]
   | i+2=>simp [H0] at e1'
  ·intro i j y y' b' z1 z2' e1' o1 e2' o2 b1 b2'
   have two:∀ (i:Nat) (y:aG) (b' z':Nat),(H0 ps S xs)[i]?=some y→y.owned=true→ι0.bB[i]?=some (b',z')→(i=0∧b'=b)∨(i=1∧b'=b2∧xs≠[]):=by
    intro i y b' z' e1 o1 e2
    match i with
    | 0=>
     rw [at0,Option.some.injEq,Prod.mk.injEq] at e2
     exact .inl ⟨rfl,e2.1.symm⟩
    | 1=>
     simp only [H0,List.getElem?_cons_succ,List.getElem?_cons_zero,Option.some.injEq] at e1
     rw [at1,Option.some.injEq,Prod.mk.injEq] at e2
     subst e1
     exact .inr ⟨rfl,e2.1.symm,by intro e;subst e;cases o1⟩
    | i+2=>simp [H0] at e1
   rcases two i y b' z1 e1' o1 b1 with ⟨rfl,k1⟩ | ⟨rfl,k1,k2⟩<;>rcases two j y' b' z2' e2' o2 b2' with ⟨rfl,k3⟩ | ⟨rfl,k3,k4⟩
   ·rfl
   ·exact absurd (k3.symm.trans k1) (b2own k4).2.2.2
   ·exact absurd (k1.symm.trans k3) (b2own k2).2.2.2
   ·rfl
 have hgl:cS E ι0:=hg.sub sub0
 have hviews:=kC r (ι':={ι with aM:=ι0.aM}) ⟨fun b _ _ _ e=>sub0 b _ e,fun _ _ h=>h⟩ (vs.take ps.pos++as2) us q2 (m1++m3) (by
  intro o ho own t v bo zo h1 h2
  have hne:o≠ob:=by
   have:=List.all_eq_true.1 hh o ho
   simpa using this
  refine p0 bo ?_ ?_
  ·intro e;subst e
   cases own with
   | true=>exact hne (r.sep _ _ _ _ _ _ _ h1 rfl hob rfl h2 hb)
   | false=>
    obtain ⟨cl,fz',la,ra,k1,k2,k3,k4,k5⟩:=r.obj _ _ _ _ h1 h2
    have k5:ι.aM bo=some (.cells cl t fz'):=k5
    rw [hownb.1] at k5;cases k5
  ·rintro ⟨e,h0⟩;subst e
   cases own with
   | true=>
    rcases hrb with ⟨h3,_⟩ | ⟨_,o2,k,ho2,_,hbo,_⟩
    ·exact h0 h3
    ·have:=r.sep _ _ _ _ _ _ _ h1 rfl ho2 (howned h0) h2 hbo
     subst this
     rw [h1] at ho2;cases ho2
   | false=>
    obtain ⟨cl,fz',la,ra,k1,k2,k3,k4,k5⟩:=r.obj _ _ _ _ h1 h2
    have k5:ι.aM bo=some (.cells cl t fz'):=k5
    rw [(b2own h0).1] at k5;cases k5) hv hq2 hta
 have hargs:aL (ak ι0) (fJ ps.arg x) (m1++m3):=lO (ι:={ι with aM:=ι0.aM}) (.inr fun _ _ h=>h) (rO hx hviews)
 have hc00:ak ι0 ps.self c0:=by
  unfold GL at hself
  split at hself
  ·rename_i oc
   split at hself
   ·rename_i hbox
    split at hself
    ·rename_i own ty ob' hoc
     cases hself
     obtain ⟨bc,zc,hbc⟩:=r.gO hoc
     have hc0:=yS hbc hc0
     subst hc0
     obtain ⟨cl,fz',la,ra,k1,k2,k3,k4,k5⟩:=r.obj _ _ _ _ hoc hbc
     rw [aD] at k4
     obtain ⟨b4,z4,g1,g2⟩:=k4
     rw [hb] at g1;cases g1
     have hne:oc≠ob:=by intro e;subst e;rw [hob] at hoc;cases hoc
     have hprot:ι0.aM bc=w.heap[bc]?:=by
      refine p0 bc ?_ ?_
      ·intro e;subst e
       cases own with
       | true=>exact hne (r.sep _ _ _ _ _ _ _ hoc rfl hob rfl hbc hb)
       | false=>
        have k5:ι.aM bc=some (.cells cl ty fz'):=k5
        rw [hownb.1] at k5;cases k5
      ·rintro ⟨e,h0⟩;subst e
       cases own with
       | true=>
        rcases hrb with ⟨h3,_⟩ | ⟨_,o2,k,ho2,_,hbo,_⟩
        ·exact h0 h3
        ·have:=r.sep _ _ _ _ _ _ _ hoc rfl ho2 (howned h0) hbc hbo
         subst this
         rw [hoc] at ho2;cases ho2
       | false=>
        have k5:ι.aM bc=some (.cells cl ty fz'):=k5
        rw [(b2own h0).1] at k5;cases k5
     unfold aN.self
     rw [if_pos hbox]
     refine an rfl ?_
     rw [aD]
     refine ⟨bc,0,cl,ty,fz',la,rfl,hprot.trans k1,?_,At.xK (l1:=[]) (l2:=ra) (by rw [k2];rfl)⟩
     rw [aD]
     exact ⟨b,z,rfl,g2⟩
    ·cases hself
   ·rename_i hbox
    cases hself
    have hc0:=yS hb hc0
    subst hc0
    unfold aN.self
    rw [if_neg hbox]
    exact an rfl (by rw [aD];exact ⟨b,z,rfl,rfl⟩)
  ·cases hself
 refine (hp S xs x ι0 w _ hpre hR0 hgl (show aL (ak ι0) (ps.Et x) (m1++c0 :: m3) by unfold aN.Et;rw [← hm1];exact aL.put hc00 hargs)).mono ?_
 rintro c w' ⟨ι1,H2,o',vs',hE1,hR2,k0,kS,kr,ko,kres⟩
 generalize ps.f (S,xs,x)=ys at *
 obtain ⟨b',z',hb'⟩:=hR2.gO ko
 have hblk0:ι1.bB[0]?=some (b,z):=hE1.bB 0 _ rfl
 have hw0:ι1.w0=ι.w0:=hE1.w0
 have ho0:o'≠0:=by intro e;subst e;rw [k0] at ko;cases ko
 have P1:∀ k o,ι.aM k=some o→w'.heap[k]?=some o:=fun k o e=>hR2.aM _ _ (hE1.aM _ _ (sub0 _ _ e))
 have P2:∀ (j:Nat) (y:aG) (bj zj:Nat),H1[j]?=some y→y.owned=true→j≠ob→ι.bB[j]?=some (bj,zj)→w'.heap[bj]?=w.heap[bj]?∧(∃ o,ι1.aM bj=some o):=by
  intro j y bj zj h1 h2 h3 h4
  have h5:H[j]?=some y:=(hold j y h1).resolve_left (by intro e;subst e;cases h2)
  have h6:=r.own _ _ _ _ h5 h2 h4
  have h7:ι0.aM bj=w.heap[bj]?:=by
   refine p0 bj ?_ ?_
   ·intro e;subst e;exact h3 (r.sep _ _ _ _ _ _ _ h5 h2 hob rfl h4 hb)
   ·rintro ⟨e,h0⟩;subst e
    rcases hrb with ⟨h8,_⟩ | ⟨_,o2,k,ho2,hd,hbo,_⟩
    ·exact h0 h8
    ·have:=r.sep _ _ _ _ _ _ _ h5 h2 ho2 (howned h0) h4 hbo
     subst this
     rw [hd] at h1;cases h1;cases h2
  obtain ⟨o,ho⟩:∃ o,w.heap[bj]?=some o:=⟨w.heap[bj],by simp [h6.2.1]⟩
  have h8:=hE1.aM _ _ (h7.trans ho)
  exact ⟨(hR2.aM _ _ h8).trans ho.symm,o,h8⟩
 have hEa:=Ext.add ι b' z'
 have hltl:H1.length=ι.bB.length:=hlen1.trans r.len
 obtain ⟨cells',fz',l',rest',f1,f2,f3,f4,f5⟩:=(hR2.obj _ _ _ _ k0 hblk0).cell
 have f5:=f5 rfl;subst f5
 rw [aD] at f4
 obtain ⟨rx,hrx,honex,htox,hfromx⟩:=uL hgap kS
 rw [kr] at hrx
 cases hrx
 obtain ⟨hD',l1',m',l2',el',hl1',hm'⟩:=htox f4
 have hmrow:aD (ι.add b' z') (.row H.length ps.ce.size ys.length) [m']:=by
  rw [aD] at hm' ⊢
  obtain ⟨bb,zz,v0,g1,g2,g3⟩:=hm'
  rw [hb'] at g1;cases g1
  exact ⟨_,_,v0,by rw [r.len];exact ι.fK _ _,g2,g3⟩
 have hnew:fL (ι.add b' z') w' b z (.cell true ps.t (.agg ps.st.hZ (vs0.set ps.lf (.row H.length ps.ce.size ys.length)))):=by
  refine ⟨cells',(0,0),l',rest',f1,f2,f3,?_,rfl⟩
  rw [aD,el']
  exact (hfrom (.row H.length ps.ce.size ys.length) rfl).2 hl1' (di ps.st (.inl (wO hgap)) _ _ (el'▸hD')) hmrow
 have hnewrow:fL (ι.add b' z') w' b' z' (.row ps.te ps.ce ys):=by
  rcases hR2.obj _ _ _ _ ko hb' with k1 | ⟨cl,la,ra,k1,k2,k3,k4⟩
  ·exact .inl k1
  ·exact .inr ⟨cl,la,ra,k1,k2,k3,k4.mono fun x l h=>di ps.ce (.inl hce) x l h⟩
 have hbw:b < w'.heap.size:=(Array.getElem?_eq_some_iff.1 f1).1
 have rowfacts:ys≠[]→ι1.aM b'=none∧b' < w'.heap.size∧ι.w0.heap.size≤b'∧b'≠b:=by
  intro h0
  have hoo:aG.owned (.row ps.te ps.ce ys)=true:=by
   cases ys with
   | nil=>exact absurd rfl h0
   | cons=>rfl
  have h1:=hR2.own _ _ _ _ ko hoo hb'
  rw [hw0] at h1
  refine ⟨h1.1,h1.2.1,h1.2.2,?_⟩
  intro e;subst e
  exact ho0 (hR2.sep _ _ _ _ _ _ _ ko hoo k0 rfl hb' hblk0)
 have gh:∀ {i:Nat} {bb zz:Nat} {y:aG},(H1.set ob (.cell true ps.t (.agg ps.st.hZ (vs0.set ps.lf (.row H.length ps.ce.size ys.length))))++[aG.row ps.te ps.ce ys])[i]?=some y→(ι.add b' z').bB[i]?=some (bb,zz)→
   (i=ob∧y=.cell true ps.t (.agg ps.st.hZ (vs0.set ps.lf (.row H.length ps.ce.size ys.length)))∧bb=b∧zz=z)∨(i≠ob∧H1[i]?=some y∧ι.bB[i]?=some (bb,zz))∨(i=H1.length∧y=.row ps.te ps.ce ys∧bb=b'∧zz=z'):=by
  intro i bb zz y g1 g2
  rcases Nat.lt_or_ge i H1.length with hi | hi
  ·rw [List.getElem?_append_left (by simpa using hi)] at g1
   simp only [aq.add] at g2
   rw [Blk.lu (hltl▸hi)] at g2
   by_cases hio:ob=i
   ·subst hio
    rw [hb] at g2;cases g2
    rw [List.getElem?_set_self (by rw [hlen1];exact hltob)] at g1
    exact .inl ⟨rfl,by simpa using g1.symm,rfl,rfl⟩
   ·rw [List.getElem?_set_ne hio] at g1
    exact .inr (.inl ⟨fun e=>hio e.symm,g1,g2⟩)
  ·have hlt:i < (H1.set ob (.cell true ps.t (.agg ps.st.hZ (vs0.set ps.lf (.row H.length ps.ce.size ys.length))))++[aG.row ps.te ps.ce ys]).length:=(List.getElem?_eq_some_iff.1 g1).1
   simp at hlt
   have hi':i=H1.length:=by omega
   subst hi'
   rw [List.getElem?_append_right (by simp)] at g1
   simp at g1
   simp only [aq.add] at g2
   rw [hltl,Blk.qL] at g2
   cases g2
   exact .inr (.inr ⟨rfl,g1.symm,rfl,rfl⟩)
 refine ⟨ι.add b' z',hEa,⟨(r1.gD.set (y:=.cell true ps.t (.agg ps.st.hZ (vs0.set ps.lf (.row H.length ps.ce.size ys.length)))) hob1 ⟨nofun,nofun⟩).app (x:=.row ps.te ps.ce ys) nofun _,P1,?_,?_,?_,?_⟩,oQ (.inl hcod) kres⟩
 ·intro i y bb zz g1 g2
  rcases gh g1 g2 with ⟨rfl,rfl,rfl,rfl⟩ | ⟨hi,g3,g4⟩ | ⟨rfl,rfl,rfl,rfl⟩
  ·exact hnew
  ·exact dm hEa (fun ho=>(P2 i y bb zz g3 ho hi g4).1) P1 (r1.obj _ _ _ _ g3 g4)
  ·exact hnewrow
 ·intro i y bb zz g1 ho g2
  rcases gh g1 g2 with ⟨rfl,rfl,rfl,rfl⟩ | ⟨hi,g3,g4⟩ | ⟨rfl,rfl,rfl,rfl⟩
  ·exact ⟨hownb.1,hbw,hownb.2.2⟩
  ·have h1:=r1.own _ _ _ _ g3 ho g4
   obtain ⟨_,o,h3⟩:=P2 i y bb zz g3 ho hi g4
   exact ⟨h1.1,(Array.getElem?_eq_some_iff.1 (hR2.aM _ _ h3)).1,h1.2.2⟩
  ·have h0:ys≠[]:=by intro e;subst e;cases ho
   have h1:=rowfacts h0
   refine ⟨?_,h1.2.1,h1.2.2.1⟩
   show ι.aM bb=none
   cases hpp:ι.aM bb with
   | none=>rfl
   | some o=>
    have:=hE1.aM _ _ (sub0 _ _ hpp)
    rw [h1.1] at this;cases this
 ·intro i j y y' bb z1 z2' g1 o1 g2 o2 b1 b2'
  have cross:∀ {i:Nat} {y:aG} {z1:Nat},H1[i]?=some y→y.owned=true→i≠ob→ι.bB[i]?=some (b',z1)→ys≠[]→False:=by
   intro i y z1 g1 o1 hi g2 h0
   obtain ⟨_,o,h3⟩:=P2 i y b' z1 g1 o1 hi g2
   rw [(rowfacts h0).1] at h3;cases h3
  have ne0:aG.owned (.row ps.te ps.ce ys)=true→ys≠[]:=by intro h e;subst e;cases h
  rcases gh g1 b1 with ⟨rfl,rfl,rfl,_⟩ | ⟨hi,g3,g4⟩ | ⟨rfl,rfl,rfl,_⟩
  ·rcases gh g2 b2' with ⟨rfl,rfl,_,_⟩ | ⟨hj,g5,g6⟩ | ⟨rfl,rfl,hbb,_⟩
   ·rfl
   ·exact r1.sep _ _ _ _ _ _ _ hob1 rfl g5 o2 hb g6
   ·exact absurd hbb.symm (rowfacts (ne0 o2)).2.2.2
  ·rcases gh g2 b2' with ⟨rfl,rfl,rfl,_⟩ | ⟨hj,g5,g6⟩ | ⟨rfl,rfl,rfl,_⟩
   ·exact r1.sep _ _ _ _ _ _ _ g3 o1 hob1 rfl g4 hb
   ·exact r1.sep _ _ _ _ _ _ _ g3 o1 g5 o2 g4 g6
   ·exact (cross g3 o1 hi g4 (ne0 o2)).elim
  ·rcases gh g2 b2' with ⟨rfl,rfl,hbb,_⟩ | ⟨hj,g5,g6⟩ | ⟨rfl,rfl,_,_⟩
   ·exact absurd hbb (rowfacts (ne0 o1)).2.2.2
   ·exact (cross g5 o2 hj g6 (ne0 o1)).elim
   ·rfl
 ·have:=hR2.base
  rw [hw0] at this
  exact this
structure jj (E:Env):Prop where
 spec:∀ f sp,E.spec f=some sp→au E f sp
 proc:∀ f ps,E.proc f=some ps→aZ E f ps
end Go.aA
end
section
namespace Go.aA
open Go.RowKit
variable {E:Env} {ι:aq} {T:List AV} {H:al} {a:Act} {w:World}
theorem Oj {fn:Func} {vs:List AV} {args:List Value} (h:aL (ak ι) vs args):aL (ak ι) (rC fn vs) (args.toArray++Array.replicate (fn.ntmps - args.toArray.size) undef).toList:=by
 simp only [rC,J7,Array.toList_append,Array.toList_replicate,List.size_toArray,h.len]
 refine h.app ?_
 generalize fn.ntmps - args.length=m
 induction m with
 | zero=>exact .nil
 | succ m ih=>exact .cons eD ih
theorem jP {e:Exit} {j:Option Code} (h:sr e=some j) (hr:HM j=true):e=.normal∨e=.ret:=by
 cases e<;>simp [sr] at h
 ·exact .inl rfl
 ·subst h;simp [HM] at hr
 ·exact .inr rfl
theorem rL (hV:E.Valid) {f:FuncId} {fn:Func} {c:Code} {vs:List AV} {args:List Value} {p:Ez} {kind:FK} {n:Nat} {R:Ending→World→Prop} {β:Nat} (hβ:β=H.length) (hf:E.fns f=some fn) (hb:fn.body=some c)
  (hkind:kind=.top∨(∃ d,kind=.call d)∨∃ l,kind=.iter l) (hW:jc E {id:=f,kind,T:=rC fn vs,items:=[.code c],D:=[],base:=β} p H) (r:aE ι H w) (hg:cS E ι) (ha:aL (ak ι) vs args)
  (hp:∀ e T' D' H' ,p e T' D' H'→(e=.normal∨e=.ret)∧∃ fn' H'' q v,E.fns f=some fn'∧gP H' D'=some H''∧Fb E H'' T' fn'=some (q,v)∧holds q∧
   ∀ ι' u w',sM (E.j7 kind) ι ι'→aE ι' H'' w'→ak ι' v u→R (.returned u) w'):
  CallsIn Fence.wide n E.P f args.toArray w R:=by
 refine callsIn_of_wp_marks (hV.fns _ _ hf).1 hb trivial ?_
 have hfence:ay ι kind=Fence.wide:=by rcases hkind with rfl | ⟨d,rfl⟩ | ⟨l,rfl⟩<;>rfl
 have hk:EF ι kind:=by rcases hkind with rfl | ⟨d,rfl⟩ | ⟨l,rfl⟩<;>trivial
 have h:=hW n ι {tmps:=args.toArray++Array.replicate (fn.ntmps - args.toArray.size) undef,defers:=[]} w ⟨r,Oj ha,hg⟩ iB.nil hk
 rw [hfence] at h
 refine wpIn_mono h ?_
 rintro e a1 w1 ⟨ι',T',D',H',hEB,r',hD',hpost⟩
 have hE:=hEB.full (hβ.trans r.len)
 obtain ⟨he,fn',H'',q,v,hf',hc,hr,hq,hR⟩:=hp e T' D' H' hpost
 rw [hf] at hf';cases hf'
 have hl:=yr hV (n:=n) (F:=Fence.wide) (fn:=fn) (R:=R) hc hr hq r'.heap r'.tmps r'.cI hD' (fun ι2 u w' h2 hH hu=>hR ι2 u w' (by
  unfold sM
  cases ht:E.j7 kind with
  | true=>rw [ht] at h2;rw [if_pos rfl] at h2 ⊢;exact hE.toOld.trans h2
  | false=>rw [ht] at h2;rw [if_neg (by simp)] at h2 ⊢;subst h2;exact hE) hH hu)
 rcases he with rfl | rfl<;>exact hl
theorem Bv {f:Operand} {args:List Operand} {g:FuncId} {caps vs:List AV} (r:gi E ι T H a w) (hf:ev E T f=some (.fn g caps)) (ha:ph E T args=some vs):
  ∃ l:List Value,a.eval f=.func (.func g) #[] l.toArray∧aL (ak ι) (vs++caps) (args.map a.eval++l):=by
 obtain ⟨l,e,hl⟩:=Bg (bz hf r)
 exact ⟨l,e,(fh ha r).app hl⟩
theorem rF {o:Oper} {f:Operand} {args:Array Operand} {ts:Array TypeId} {g:FuncId} {l:List Value} (hop:o.op=.call {callee:=.value f,args,argTypes:=ts}) (hf:a.eval f=.func (.func g) #[] l.toArray):
  (execOp a.eval o).run E.P w=(callFunc g (args.toList.map a.eval++l).toArray).run E.P w:=by
 have hargs:args.map a.eval=(args.toList.map a.eval).toArray:=Array.ext' (by simp)
 simp only [execOp,hop,resolve,hf,Deferred.ofValue,Sem.run_bind,Sem.run_pure,Result.andThen,invoke,hargs]
 simp
theorem RH {o:Oper} {f:Operand} {args:Array Operand} {ts:Array TypeId} {g:FuncId} {l:List Value} (hop:o.op=.call {callee:=.value f,args,argTypes:=ts}) (hf:a.eval f=.func (.func g) l.toArray #[]):
  (execOp a.eval o).run E.P w=(callFunc g (l++args.toList.map a.eval).toArray).run E.P w:=by
 have hargs:args.map a.eval=(args.toList.map a.eval).toArray:=Array.ext' (by simp)
 simp only [execOp,hop,resolve,hf,Deferred.ofValue,Sem.run_bind,Sem.run_pure,Result.andThen,invoke,hargs]
 simp
theorem fu (hV:E.Valid) {f:FuncId} {fn:Func} {c:Code} (hf:E.fns f=some fn) (hb:fn.body=some c) (args:Array Value):(callFunc f args).run E.P w=.ok (.enter f args) w:=by
 obtain ⟨h1,h2⟩:=hV.fns _ _ hf
 have h3:¬ fn.name = "runtime.NumGoroutine" := by simpa using h2
 simp [callFunc,h1,h3,hb]
theorem fw {o:Oper} {F:Fence} {n:Nat} {f:FuncId} {args:Array Value} {R:Value→World→Prop} {next:Act→World→Prop} {Q':Exit→Act→World→Prop} {k:FK} (hF:F=ay ι k)
  (h:jD E.P f args w R) (hrun:(o.semAt F.round a.eval).run E.P w=(callFunc f args).run E.P w) (hR:∀ c w',R c w'→next (a.put o.dst c) w'):o.wpIn F n E.P a w next Q':=by
 subst hF
 refine ⟨fun g _=>bQ k g,?_⟩
 rw [hrun]
 rcases h with ⟨v,h1,h2⟩ | ⟨h1,h2⟩
 ·rw [h1];exact hR _ _ h2
 ·rw [h1]
  refine ⟨by rw [ik];simp,jK (callsIn_wide.2 (h2.mono ?_))⟩
  rintro e w' ⟨v,rfl,hv⟩
  exact hR _ _ hv
theorem fD {o:Oper} {c:Call} {ro:Option Nat} (hop:o.op=.call c):o.semAt ro a.eval=execOp a.eval o:=Oper.semAt_eq _ _ _ (by simp [hop])
theorem jV {o:Oper} {x:List Prop×AV×al} (h:kX E T H o=some x):∀ c,o.op≠.defer c:=by
 intro c e
 simp [kX,e] at h
theorem xY:∀ {ps:List Nat} {vs:List AV} {us:List Value} {T:List AV} {tmps:Array Value},aL (ak ι) T tmps.toList→aL (ak ι) vs us→vs.length=ps.length→
  aL (ak ι) (Cb T ps vs) ((ps.zip us).foldl (fun (tmps:Array Value) x=>tmps.setIfInBounds x.1 x.2) tmps).toList
 | [],_,_,_,_,h,hv,hl=>by
  cases hv with
  | nil=>exact h
  | cons=>simp at hl
 | p :: ps,_,_,T,tmps,h,hv,hl=>by
  cases hv with
  | nil=>simp at hl
  | cons h1 t=>
   simp only [List.zip_cons_cons,List.foldl_cons,Cb]
   exact xY (by rw [Array.toList_setIfInBounds];exact h.set p _ _ h1) t (by simpa using hl)
theorem xL (k:FK) (b:Nat):(ay ι k).inRound b=Fence.wide.inRound b:=by cases k<;>rfl
theorem Lu {Q:AV→al→Prop} {fr:Fr} {aF:List Fr} {dst:Option Tmp} {g:FuncId} {l b z:Nat} {T0:List AV} {ps:List Nat} {vs:List AV} {us:List Value} {tmps:Array Value} {fnr:FuncId} {ca cb:Code} {n m:Nat} {R:Ending→World→Prop}
  (hW:WW E Q {id:=g,kind:=.round l dst,T:=Cb T0 ps vs,items:=[.code ca,.begin l,.code cb],D:=[],base:=H.length} (fr :: aF) H) (hb:ι.bB[l]?=some (b,z)) (r:aE ι H w) (hg:cS E ι) (hT:aL (ak ι) T0 tmps.toList)
  (hv:aL (ak ι) vs us) (hlen:vs.length=ps.length) (hk:EF ι fr.kind) (hT2:aL (ak ι) fr.T a.tmps.toList) (hD:iB (E.j7 fr.kind) ι fr.D a.defers)
  (hR:∀ c w',cj ι (ay ι fr.kind) m E.P (lift E (E.j7 fr.kind) fr.base ι (KW E Q aF fr.kind fr.id)) fr.items .normal (a.put dst c) w'→R (.returned c) w'):
  RoundIn (ay ι fr.kind) n E.P b fnr ((ps.toArray.zip us.toArray).foldl (fun tmps (t,a)=>tmps.setIfInBounds t a) tmps) ca cb w R:=by
 refine roundIn_of_wpIn (bQ _ _) ?_
 rw [xL]
 have htm:((ps.toArray.zip us.toArray).foldl (fun tmps (t,a)=>tmps.setIfInBounds t a) tmps)=((ps.zip us).foldl (fun (tmps:Array Value) x=>tmps.setIfInBounds x.1 x.2) tmps):=by
  simp
 have hf:ay ι (.round l dst)=Fence.wide.inRound b:=by simp only [ay,rM,hb]
 have h:=hW n ι {tmps:=(ps.toArray.zip us.toArray).foldl (fun tmps (t,a)=>tmps.setIfInBounds t a) tmps,defers:=[]} w ⟨r,by rw [htm];exact xY hT hv hlen,hg⟩ .nil ⟨b,z,hb⟩
 rw [hf] at h
 refine wpIn_mono h ?_
 intro e a1 w1 h1
 cases e with
 | normal=>
  obtain ⟨w2,h2,h3⟩:=h1 b z hb
  refine ⟨w2,h2,wpIn_mono h3 ?_⟩
  rintro e a3 w3 ⟨ι',T',D',H',hEB,r',_,j,hj,rfl,s,pd,g',T1,ps',c',b',d',hl',hW'⟩
  have hE:=hEB.full r.len
  have hb':=hE.bB _ _ hb
  obtain ⟨tmps',db,dz,fn',hobj,hT',hdb⟩:=r'.heap.obj _ _ _ _ hl' hb'
  have hend:=run_endRound (P:=E.P) j hobj
  have hn:=hW'
  have fin:R (.returned (.bool j.isNone)) (w3.putObj b (.loop {state:=if j.isNone then .ready else .done,pending:=j,fn:=fn',tmps:=tmps',params:=ps'.toArray,assign:=c',body:=b',defers:=db})):=by
   refine hR _ _ ?_
   refine du hW' hE (r'.heap.EM hl' rfl hb' (fun k hk=>World.putObj_heap_other hk) (by simp) rfl rfl rfl ?_) (dN _) hT2 hg hD hk
   exact ⟨tmps',db,dz,fn',World.putObj_heap_same (Array.getElem?_eq_some_iff.1 hobj).1,hT',hdb⟩
  cases e<;>simp only [sr] at hj<;>cases hj<;>exact ⟨_,_,hend,fin⟩
 | exit id=>exact h1
 | goto id=>exact h1
 | ret=>exact h1
 | panic c=>exact h1
 | outgrown=>exact h1
theorem tv {b:Bool} {p q:Prop} (h:cond b p q):(b=true∧p)∨(b=false∧q):=by
 cases b with
 | false=>exact .inr ⟨rfl,h⟩
 | true=>exact .inl ⟨rfl,h⟩
theorem JR {P:Program} {f:FuncId} (h:BO P f) {vs:List AV} {q:List Prop} {args:List Value} (ha:F8 H vs=some q) (hq:holds q) (r:aE ι H w) (hv:aL (ak ι) vs args):
  (callFunc f args.toArray).run P w=.ok (.value (.bool false)) w:=by
 unfold F8 at ha
 split at ha
 ·rename_i o p s off len cap o' p' s' off' len' cap'
  split at ha
  ·cases ha
  ·rename_i hne
   split at ha
   ·rename_i t v t' v' h1 h2
    simp only [Option.some.injEq] at ha;subst ha
    obtain ⟨c1,_,rfl,k1,hv⟩:=hv.cons_inv
    obtain ⟨c2,_,rfl,k2,hv⟩:=hv.cons_inv
    cases hv
    have k1:=k1.one rfl rfl
    have k2:=k2.one rfl rfl
    rw [aD] at k1 k2
    obtain ⟨b1,z1,n1,e1,f1,_⟩:=k1
    obtain ⟨b2,z2,n2,e2,f2,_⟩:=k2
    simp only [List.cons.injEq,and_true] at f1 f2
    subst f1;subst f2
    obtain ⟨cells,fz,l,rr,g1,g2,g3,g4,g5⟩:=r.obj _ _ _ _ h1 e1
    obtain ⟨cells',fz',l',rr',g1',g2',g3',g4',g5'⟩:=r.obj _ _ _ _ h2 e2
    have g5:fz=(0,0):=g5
    subst g5
    have hb:b1≠b2:=by
     intro e;subst e
     exact hne (r.sep _ _ _ _ _ _ _ h1 rfl h2 rfl e1 e2)
    refine h w ⟨b1,_,none⟩ ⟨b2,_,none⟩ _ _ _ _ hb ⟨cells,t,g1⟩ ⟨cells',t',fz',g1',?_⟩
    have:=hq.1
    rw [← Array.length_toList,g2',List.length_append,gg _ _ g4']
    omega
   ·cases ha
 ·cases ha
theorem uP {s:gf} (h:∀ ι x l,bD ι s.c x l↔l=s.enc x):∀ {xs:List s.c.den} {l:List Value},bV (bD ι s.c) xs l↔l=xs.flatMap s.enc
 | [],l=>⟨fun k=>by cases k;rfl,fun e=>by rw [e];exact .nil⟩
 | x :: xs,l=>⟨fun k=>by
   cases k with
   | cons h1 h2=>rw [(h _ _ _).1 h1,(uP h).1 h2,List.flatMap_cons],fun e=>by
   rw [e,List.flatMap_cons];exact .cons ((h _ _ _).2 rfl) ((uP h).2 rfl)⟩
theorem vD {s:gf} {vs:List AV} {x:AV} {args:List Value} (h:As s vs=some x) (hv:aL (ak ι) vs args):∃ c,args.toArray=#[c]++s.rest∧ak ι x c:=by
 unfold As at h
 split at h
 ·rename_i g x' g' hg
  split at h
  ·rename_i e;subst e
   cases h
   obtain ⟨c1,_,rfl,k1,hv⟩:=hv.cons_inv
   obtain ⟨c2,_,rfl,k2,hv⟩:=hv.cons_inv
   cases hv
   obtain ⟨l,rfl,hl⟩:=Bg k2
   cases hl
   exact ⟨c1,by unfold gf.rest;rw [hg];rfl,k1⟩
  ·cases h
 ·rename_i x' hg
  cases h
  obtain ⟨c1,_,rfl,k1,hv⟩:=hv.cons_inv
  cases hv
  exact ⟨c1,by unfold gf.rest;rw [hg];rfl,k1⟩
 ·cases h
theorem IJ {P:Program} {f:FuncId} {s:gf} (h:Ge P f s) {vs:List AV} {q:List Prop} {H':al} {args:List Value} {v:AV} (ha:Lc s H vs=some (q,v,H')) (hq:holds q) (r:aE ι H w) (hv:aL (ak ι) vs args):
  jD P f args.toArray w fun c w'=>∃ ι',Ext ι ι'∧aE ι' H' w'∧ak ι' v c:=by
 obtain ⟨⟨henc,hres⟩,hlen,hnil,hall⟩:=h
 unfold Lc at ha
 split at ha
 ·rename_i hsa
  obtain ⟨c1,ea,k1⟩:=vD hsa hv
  simp only [Option.some.injEq,Prod.mk.injEq] at ha
  obtain ⟨rfl,rfl,rfl⟩:=ha
  have e1:=k1.raw;subst e1
  rw [ea]
  refine (hnil w).mono ?_
  rintro c w' ⟨rfl,hB⟩
  refine ⟨ι.grown w w',r.kz w',r.grown hB,?_⟩
  unfold gf.Yo gf.S3
  cases s.res with
  | none=>exact ⟨[],rfl,.nil⟩
  | some g=>exact an rfl (by rw [aD];exact ⟨rfl,rfl⟩)
 ·rename_i ob z off len cap hsa
  obtain ⟨c1,ea,k1⟩:=vD hsa hv
  rw [ea]
  split at ha
  ·rename_i t m c xs hob
   split at ha
   ·rename_i hc;subst hc
    split at ha
    ·rename_i hz;subst hz
     simp only [Option.some.injEq,Prod.mk.injEq] at ha
     obtain ⟨rfl,rfl,rfl⟩:=ha
     obtain ⟨hm,hl60,_⟩:=hq
     obtain ⟨b,z,k,hbk,rfl,hk,hkz,hcap⟩:=gW k1
     obtain ⟨cells,fz,lo,rr,e1,e2,e3,e4,e5⟩:=(r.obj _ _ _ _ hob hbk).cell
     have e5:=e5 rfl;subst e5
     rw [aD] at e4
     obtain ⟨hxs,hr⟩:=e4
     have hsz:=aO (ι:=ι) s.c
     obtain ⟨m1,m2,em,em1,hm1,hm2⟩:=hr.split hsz off (by omega)
     obtain ⟨k1',k3,ek,ek1,hk1,hk2⟩:=hm2.split hsz len (by simp;omega)
     have hkl:((xs.drop off).take len).length=len:=by simp;omega
     have hk1e:=(uP henc).1 hk1
     have hcl:cells.toList=m1++(k1'++(k3++rr)):=by rw [e2,em,ek];simp [List.append_assoc]
     have hp0:aw []+off * s.c.size=m1.length:=by rw [em1];simp [aw]
     have hrow:(cells.toList.drop m1.length).take (((xs.drop off).take len).length * s.c.size)=((xs.drop off).take len).flatMap s.enc:=by
      rw [hkl,hcl,List.drop_left' rfl,← ek1,List.take_left' rfl];exact hk1e
     have hcall:=hall w b m1.length k ((xs.drop off).take len) cells t (by rw [hkl];exact hl60) (by rw [hkl];exact hk) e1 hrow
     rw [hkl] at hcall
     rw [hp0]
     refine hcall.mono ?_
     rintro c w' ⟨rfl,w1,cells',q1,q2,q3,q4,q5,q6,q7,q8⟩
     have hlf:=hlen ((xs.drop off).take len)
     rw [hkl] at hlf
     have hfe:bV (bD ι s.c) (s.f ((xs.drop off).take len)) ((s.f ((xs.drop off).take len)).flatMap s.enc):=(uP henc).2 rfl
     have hfl:=hfe.len hsz
     rw [hlf] at hfl
     have hc':cells'.toList=(m1++((s.f ((xs.drop off).take len)).flatMap s.enc++k3))++rr:=by
      rw [q2,hcl,List.take_left' rfl]
      have:(m1++(k1'++(k3++rr))).drop (m1.length+len * s.c.size)=k3++rr:=by
       rw [← List.append_assoc,List.drop_left' (by rw [List.length_append,ek1])]
      rw [this];simp [List.append_assoc]
     have r1:aE ι (H.set ob (.cell true t (.arr m s.c (bL xs off (s.f ((xs.drop off).take len)))))) w1:=by
      refine r.EM (z:=z) hob rfl hbk q3 q4 q5 q6 q7 ⟨cells',(0,0),m1++((s.f ((xs.drop off).take len)).flatMap s.enc++k3),rr,q1,hc',?_,?_,by simp⟩
      ·have hz:cells.toList.length=z:=by rw [Array.length_toList];exact e3
       rw [← Array.length_toList,hc',← hz,hcl]
       simp only [List.length_append,hfl,ek1];omega
      ·rw [aD]
       refine ⟨?_,?_⟩
       ·simp only [bL,List.length_append,List.length_take,List.length_drop,hlf];omega
       ·unfold bL
        refine hm1.app (hfe.app ?_)
        rw [hlf,← List.drop_drop]
        exact hk2
     refine ⟨ι.grown w1 w',r1.kz w',r1.grown q8,?_⟩
     unfold gf.Yp gf.Yn
     cases hres':s.res with
     | none=>exact ⟨[],rfl,.nil⟩
     | some g=>
      have hg:=hres g hres' ((xs.drop off).take len)
      rw [hkl] at hg
      refine an rfl ?_
      rw [aD]
      exact ⟨b,z,k,hbk,by rw [hp0],by omega,hkz,hcap⟩
    ·cases ha
   ·cases ha
  ·cases ha
 ·cases ha
theorem n9 {i:Int} {go:Nat→Prop}:∀ {n j:Nat},wm i n j go→(j:Int)≤i→i < j+n→∃ k:Nat,i=k∧j≤k∧k < j+n∧go k
 | 0,j,h,_,_=>h.elim
 | 1,j,h,h1,h2=>⟨j,by omega,by omega,by omega,h⟩
 | n+2,j,h,h1,h2=>by
  unfold wm at h
  rcases tv h with ⟨hb,h⟩ | ⟨hb,h⟩
  ·have:i=j:=by simpa [ae] using hb
   exact ⟨j,this,by omega,by omega,h⟩
  ·have hne:¬ i=j:=by simpa [ae] using hb
   obtain ⟨k,e,k1,k2,hk⟩:=n9 (n:=n+1) h (by omega) (by omega)
   exact ⟨k,e,by omega,by omega,hk⟩
theorem gK (hV:E.Valid) {Q:AV→al→Prop} {go:List AV→al→Prop} {fr:Fr} {aF:List Fr} {o:Oper} (hgo:∀ T' H',go T' H'→jc E {fr with T:=T'} (KW E Q aF fr.kind fr.id) H')
  (h:jZ E fr.T H o go) {n:Nat} (r:gi E ι fr.T H a w) (hD:iB (E.j7 fr.kind) ι fr.D a.defers) (hk:EF ι fr.kind) (Q':Exit→Act→World→Prop):
  o.wpIn (ay ι fr.kind) n E.P a w (fun a' w'=>cj ι (ay ι fr.kind) n E.P (lift E (E.j7 fr.kind) fr.base ι (KW E Q aF fr.kind fr.id)) fr.items .normal a' w') Q':=by
 unfold jZ at h
 split at h
 ·rename_i q v H' hx
  obtain ⟨hq,hgo'⟩:=cw h
  obtain ⟨ι',w',c,hE,hH,hr,hrun⟩:=xg hV hx hq r
  refine ⟨fun g _=>bQ _ g,?_⟩
  rw [Oper.semAt_eq _ _ _ (jV hx)]
  rcases hrun with hrun | ⟨hrun,rfl⟩
  ·rw [hrun];exact du (hgo _ _ hgo') hE hH hr r.tmps r.cI hD hk
  ·rw [hrun];exact du (hgo _ _ hgo') hE hH hr r.tmps r.cI hD hk
 ·cases h
theorem Bu (hV:E.Valid) (hS:jj E) {Q:AV→al→Prop} {K:qk} {go:List AV→al→Prop} {fr:Fr} {aF:List Fr} {o:Oper} (hK:∀ fr aF H,K fr aF H→WW E Q fr aF H)
  (hgo:∀ T' H',go T' H'→jc E {fr with T:=T'} (KW E Q aF fr.kind fr.id) H') (h:Eb E K go fr aF H o) {n:Nat} (r:gi E ι fr.T H a w) (hD:iB (E.j7 fr.kind) ι fr.D a.defers) (hk:EF ι fr.kind) (Q':Exit→Act→World→Prop):
  o.wpIn (ay ι fr.kind) n E.P a w (fun a' w'=>cj ι (ay ι fr.kind) n E.P (lift E (E.j7 fr.kind) fr.base ι (KW E Q aF fr.kind fr.id)) fr.items .normal a' w') Q':=by
 unfold Eb at h
 split at h
 case h_1 f args ts hop=>
  have hrunS:∀ ro,o.semAt ro a.eval=execOp a.eval o:=fun ro=>fD hop
  dsimp only at h
  split at h
  ·rename_i g caps vs hf ha
   obtain ⟨l,hfe,hall⟩:=Bv r hf ha
   have hrun:(o.semAt (ay ι fr.kind).round a.eval).run E.P w=(callFunc g (args.toList.map a.eval++l).toArray).run E.P w:=by
    rw [hrunS];exact rF hop hfe
   split at h
   ·rename_i hap
    split at h
    ·rename_i q hq0
     obtain ⟨hq,hgo'⟩:=cw h
     have hr:=JR (hV.apart _ hap) hq0 hq r.heap hall
     refine ⟨fun g _=>bQ _ g,?_⟩
     rw [hrun,hr]
     exact du (hgo _ _ hgo') (Ext.refl ι) r.heap (dN _) r.tmps r.cI hD hk
    ·cases h
   split at h
   ·rename_i sd hsd
    split at h
    ·rename_i q v H' hq0
     obtain ⟨hq,hgo'⟩:=cw h
     refine fw rfl (IJ (hV.sort _ _ hsd) hq0 hq r.heap hall) hrun ?_
     rintro c w' ⟨ι',hE,hH,hr⟩
     exact du (hgo _ _ hgo') hE hH hr r.tmps r.cI hD hk
    ·cases h
   split at h
   ·rename_i ps hps
    split at h
    ·rename_i q v H' hq0
     obtain ⟨hq,hgo'⟩:=cw h
     refine fw rfl (x8 (hS.proc _ _ hps) hq0 hq r.heap r.cI hall) hrun ?_
     rintro c w' ⟨ι',hE,hH,hr⟩
     exact du (hgo _ _ hgo') hE hH hr r.tmps r.cI hD hk
    ·cases h
   split at h
   ·rename_i sp hsp
    split at h
    ·rename_i hfl
     split at h
     ·rename_i q us hv
      split at h
      ·rename_i x hx
       obtain ⟨hq,hp,hgo'⟩:=cw h
       refine fw rfl (xX (hS.spec _ _ hsp) hfl hv hq hx hp r.heap r.cI hall) hrun ?_
       rintro c w' ⟨ι',hE,hH,hr⟩
       exact du (hgo _ _ hgo') hE hH hr r.tmps r.cI hD hk
      ·cases h
     ·cases h
    ·split at h
     ·rename_i H' hfz
      split at h
      ·rename_i q us hv
       split at h
       ·rename_i x hx
        obtain ⟨hq,hp,hgo'⟩:=cw h
        split at hgo'
        case h_2 e ho=>
         split at hgo'
         ·rename_i v ob hown
          refine fw rfl (B7 (hS.spec _ _ hsp) ho hfz hv hq hx hp hown r.heap r.cI hall) hrun ?_
          rintro c w' ⟨ι',hE,hH,hr⟩
          exact du (hgo _ _ hgo') hE hH hr r.tmps r.cI hD hk
         ·cases hgo'
        refine fw rfl (xV (hS.spec _ _ hsp) hfz hv hq hx hp r.heap r.cI hall) hrun ?_
        rintro c w' ⟨ι',hE,hH,hr⟩
        exact du (hgo _ _ hgo') hE hH hr r.tmps r.cI hD hk
       ·cases h
      ·cases h
     ·cases h
   ·split at h
    ·rename_i fn hfn
     split at h
     ·rename_i c hc
      have hW:=hK _ _ _ h
      refine ⟨fun g _=>bQ _ g,?_⟩
      rw [hrun,fu hV hfn hc]
      refine ⟨by rw [ik];simp,jK ?_⟩
      refine rL hV rfl hfn hc (.inr (.inl ⟨_,rfl⟩)) hW r.heap r.cI hall ?_
      rintro e T' D' H' ⟨⟨j,hj,hret⟩,fn',H'',q,v,h1,h2,h3,h4,h5⟩
      refine ⟨jP hj hret,fn',H'',q,v,h1,h2,h3,h4,fun ι' u w' hE hH hu=>?_⟩
      exact du h5 (sM.ext (k:=.call o.dst) hE (.inl rfl)) hH hu r.tmps r.cI hD hk
     ·cases h
    ·cases h
  ·rename_i g fs vs hf ha
   split at h
   ·rename_i fn hfn
    split at h
    ·rename_i c hc
     have hW:=hK _ _ _ h
     obtain ⟨l,hfe,hl⟩:=RJ (bz hf r)
     have hall:aL (ak ι) (fs++vs) (l++args.toList.map a.eval):=hl.app (fh ha r)
     refine ⟨fun g _=>bQ _ g,?_⟩
     rw [hrunS,RH hop hfe,fu hV hfn hc]
     refine ⟨by rw [ik];simp,jK ?_⟩
     refine rL hV rfl hfn hc (.inr (.inl ⟨_,rfl⟩)) hW r.heap r.cI hall ?_
     rintro e T' D' H' ⟨⟨j,hj,hret⟩,fn',H'',q,v,h1,h2,h3,h4,h5⟩
     refine ⟨jP hj hret,fn',H'',q,v,h1,h2,h3,h4,fun ι' u w' hE hH hu=>?_⟩
     exact du h5 (sM.ext (k:=.call o.dst) hE (.inl rfl)) hH hu r.tmps r.cI hD hk
    ·cases h
   ·cases h
  ·rename_i l vs hf ha
   split at h
   ·rename_i s pd g T0 ps ca cb d hl
    split at h
    ·rename_i hlen
     have hW:=hK _ _ _ h
     have hv:=(bz hf r).one rfl rfl
     rw [aD] at hv
     obtain ⟨b,z,hb,hfe⟩:=hv
     simp only [List.cons.injEq,and_true] at hfe
     obtain ⟨tmps,db,dz,fnr,hobj,hT0,hdb⟩:=r.heap.obj _ _ _ _ hl hb
     have hargs:args.map a.eval=(args.toList.map a.eval).toArray:=Array.ext' (by simp)
     have hvs:=fh ha r
     have hrun:(o.semAt (ay ι fr.kind).round a.eval).run E.P w=.ok (.round b fnr ((ps.toArray.zip (args.map a.eval)).foldl (fun tmps (t,a)=>tmps.setIfInBounds t a) tmps) ca cb) w:=by
      rw [hrunS]
      simp only [execOp,hop,resolve,hfe,Deferred.ofValue,Sem.run_bind,Sem.run_pure,Result.andThen,invoke]
      have:=run_yield (P:=E.P) (args:=#[]++args.map a.eval) hobj (by simp [← hlen,hvs.len])
      simpa using this
     refine ⟨fun g _=>bQ _ g,?_⟩
     rw [hrun]
     refine ⟨by rw [ik];simp,?_⟩
     rw [hargs]
     refine Lu (m:=n) hW hb r.heap r.cI hT0 hvs hlen hk r.tmps hD ?_
     intro c w' hw
     exact hw
    ·cases h
   ·cases h
  ·cases h
 case h_2 args ts hop=>
  dsimp only at h
  split at h
  ·rename_i t1 t2 s x hts hargs
   split at h
   ·split at h
    ·rename_i ht;subst ht
     split at h
     ·rename_i q v H' happ
      obtain ⟨hq,h⟩:=cw h
      obtain ⟨cs,hrunb⟩:=iv (E:=E) (a:=a) (w:=w) hop
      have hl:=fh hargs r
      obtain ⟨us,_,e1,hs,hl⟩:=hl.cons_inv
      obtain ⟨ux,_,e2,hx,hl⟩:=hl.cons_inv
      cases hl
      have hmap:args.map a.eval=#[us,ux]:=by
       have:args.map a.eval=(args.toList.map a.eval).toArray:=Array.ext' (by simp)
       rw [this,e1,e2]
      have htse:ts=#[t1,t1]:=by cases ts;simpa using hts
      obtain ⟨ι',w',u,hrun,hE,hH,hr⟩:=Iu (ty:=o.type) hV happ hq r.heap hs hx
      refine ⟨fun g _=>bQ _ g,?_⟩
      rw [fD hop,hrunb,hmap,htse]
      simp only [builtin,Sem.run_bind,hrun,Result.andThen,Sem.run_pure]
      exact du (hgo _ _ h) hE hH hr r.tmps r.cI hD hk
     ·cases h
    ·cases h
   split at h
   ·obtain ⟨cs,hrunb⟩:=iv (E:=E) (a:=a) (w:=w) hop
    have hl:=fh hargs r
    obtain ⟨us,_,e1,hs,hl⟩:=hl.cons_inv
    obtain ⟨ux,_,e2,hx,hl⟩:=hl.cons_inv
    cases hl
    have hmap:args.map a.eval=#[us,ux]:=by
     have:args.map a.eval=(args.toList.map a.eval).toArray:=Array.ext' (by simp)
     rw [this,e1,e2]
    have htse:ts=#[t1,t2]:=by cases ts;simpa using hts
    obtain ⟨v,H',ι',w',u,hg,hrun,hE,hH,hr⟩:=RO (ty:=o.type) hV h r.heap hs hx
    refine ⟨fun g _=>bQ _ g,?_⟩
    rw [fD hop,hrunb,hmap,htse]
    simp only [builtin,Sem.run_bind,hrun,Result.andThen,Sem.run_pure]
    exact du (hgo _ _ hg) hE hH hr r.tmps r.cI hD hk
   split at h
   ·rename_i ht;subst ht
    split at h
    ·rename_i d hd
     split at h
     ·rename_i e de he
      obtain ⟨he1,he2⟩:=mr hV he
      split at h
      ·rename_i c hsl hc
       have hdesc:d.desc=.slice e:=by
        rcases he2 with h' | ⟨m,h'⟩
        ·exact h'
        ·unfold su at hsl;rw [h'] at hsl;cases hsl
       have hu:=(hV.ty _ _ hd).1
       rw [hdesc] at hu
       obtain ⟨cs,hrunb⟩:=iv (E:=E) (a:=a) (w:=w) hop
       have hl:=fh hargs r
       obtain ⟨us,_,e1,hs,hl⟩:=hl.cons_inv
       obtain ⟨ux,_,e2,hx,hl⟩:=hl.cons_inv
       cases hl
       have hmap:args.map a.eval=#[us,ux]:=by
        have:args.map a.eval=(args.toList.map a.eval).toArray:=Array.ext' (by simp)
        rw [this,e1,e2]
       have htse:ts=#[t1,t1]:=by cases ts;simpa using hts
       have done:∀ (v:AV) (H':al),jc E {fr with T:=bZ fr.T o.dst v} (KW E Q aF fr.kind fr.id) H'→
         (∃ ι' w' u,(Builtin.append_ #[t1,t1] o.type #[us,ux]).run E.P w=.ok u w'∧Ext ι ι'∧aE ι' H' w'∧ak ι' v u)→
         o.wpIn (ay ι fr.kind) n E.P a w (fun a' w'=>cj ι (ay ι fr.kind) n E.P (lift E (E.j7 fr.kind) fr.base ι (KW E Q aF fr.kind fr.id)) fr.items .normal a' w') Q':=by
        rintro v H' hW ⟨ι',w',u,hrun,hE,hH,hr⟩
        refine ⟨fun g _=>bQ _ g,?_⟩
        rw [fD hop,hrunb,hmap,htse]
        simp only [builtin,Sem.run_bind,hrun,Result.andThen,Sem.run_pure]
        exact du hW hE hH hr r.tmps r.cI hD hk
       split at h
       ·rename_i hcond
        split at h
        ·rename_i q ys happ
         split at h
         ·obtain ⟨hq,h⟩:=cw h
          have hus:=hs.raw;subst hus
          by_cases hys:ys.length=0
          ·have hc0:ae ys.length 0=true:=by simp [ae,hys]
           rw [hc0] at h
           refine done _ H (hgo _ _ h) ⟨ι,w,_,?_,Ext.refl ι,r.heap,hs⟩
           obtain ⟨l,hl,hcx⟩:=ja happ hq r.heap hx
           refine iw hu he1 none 0 0 0 ux ?_ rfl (Nat.le_refl _)
           rcases hcx with ⟨_,h0 | ⟨a0,h0⟩⟩ | ⟨b,off,k,rfl,_⟩
           ·exact .inl ⟨h0,rfl⟩
           ·exact .inr ⟨a0,0,h0⟩
           ·exact .inr ⟨_,k,by rw [hys]⟩
          ·have hc0:ae ys.length 0=false:=by
            have hne:¬ ((ys.length:Int)=0):=by omega
            simp only [ae,beq_eq_false_iff_ne,ne_eq,hne,not_false_eq_true]
           rw [hc0] at h
           obtain ⟨h1,h2,h3⟩:=h
           exact done _ _ (hgo _ _ h3) (l6 hu he1 hcond.1 happ hq r.heap hx (by omega) h1 h2)
         ·rename_i ob s0 len
          split at h
          ·rename_i t m c' xs hob
           split at h
           ·rename_i hcc;subst hcc
            split at h
            ·rename_i hst
             obtain ⟨hq,rfl,h1,h2,h3⟩:=cw h
             obtain ⟨rfl,rfl⟩:=hst
             exact done _ _ (hgo _ _ h3) (lZ hu he1 hcond.1 happ hq r.heap hx hs hob h1 h2)
            ·cases h
           ·cases h
          ·cases h
         ·rename_i ob s0 off len k
          split at h
          ·rename_i t m c' xs hob
           split at h
           ·rename_i hcc;subst hcc
            split at h
            ·rename_i hst
             obtain ⟨hq,h⟩:=cw h
             obtain ⟨rfl,rfl⟩:=hst
             rcases tv h with ⟨hb,h1,h2,h3,h4⟩ | ⟨hb,h1,h2⟩
             ·have hlt:k < len+ys.length:=by simp only [bd,decide_eq_true_eq] at hb;omega
              exact done _ _ (hgo _ _ h4) (kW hu he1 hcond.1 happ hq r.heap hx hs hob h1 h2 h3 hlt)
             ·have hge:len+ys.length≤k:=by simp only [bd,decide_eq_false_iff_not] at hb;omega
              obtain ⟨w',u,k1,k2,k3⟩:=kV (ty:=o.type) hu he1 hcond.1 happ hq r.heap hx hs hob h1 hge
              exact done _ _ (hgo _ _ h2) ⟨ι,w',u,k1,Ext.refl ι,k2,k3⟩
            ·cases h
           ·cases h
          ·cases h
         ·cases h
        ·cases h
       ·cases h
      ·cases h
     ·cases h
    ·cases h
   ·split at h
    ·rename_i q v H' hz
     obtain ⟨hq,h⟩:=cw h
     obtain ⟨cs,hrunb⟩:=iv (E:=E) (a:=a) (w:=w) hop
     have hl:=fh hargs r
     obtain ⟨us,_,e1,hs,hl⟩:=hl.cons_inv
     obtain ⟨ux,_,e2,hx,hl⟩:=hl.cons_inv
     cases hl
     have hmap:args.map a.eval=#[us,ux]:=by
      have:args.map a.eval=(args.toList.map a.eval).toArray:=Array.ext' (by simp)
      rw [this,e1,e2]
     have htse:ts=#[t1,t2]:=by cases ts;simpa using hts
     obtain ⟨ι',w',u,hrun,hE,hH,hr⟩:=IA (ty:=o.type) hV hz hq r.heap hs hx
     refine ⟨fun g _=>bQ _ g,?_⟩
     rw [fD hop,hrunb,hmap,htse]
     simp only [builtin,Sem.run_bind,hrun,Result.andThen,Sem.run_pure]
     exact du (hgo _ _ h) hE hH hr r.tmps r.cI hD hk
    ·cases h
  ·cases h
 case h_3 t m k ok hop=>
  dsimp only at h
  split at h
  ·rename_i d ob kk n hd hm hk'
   split at h
   ·rename_i kt et es hdesc ho
    split at h
    ·rename_i dk de hdk hde
     split at h
     ·rename_i k0 hkd
      have h1:=(hV.ty _ _ hd).1
      have h2:=(hV.ty _ _ hdk).1
      rw [hdesc] at h1
      rw [hkd] at h2
      have hl:lz n kk de.zero (fun v fl=>go (bZ fr.T o.dst (ly ok v fl)) H) es:=by
       split at h
       ·rename_i v fl hmg;exact p8 (go:=fun v fl=>go (bZ fr.T o.dst (ly ok v fl)) H) hmg h
       ·exact h
      obtain ⟨v,fl,c,hg,hr,hrun⟩:=yn (ok:=ok) h1 h2 (hV.ty _ _ hde) r.heap ho (bz hm r) hl
      refine ⟨fun g _=>bQ _ g,?_⟩
      rw [Oper.semAt_eq _ _ _ (by simp [hop])]
      have hrun':(execOp a.eval o).run E.P w=.ok (.value c) w:=by
       simp only [execOp,hop,(bz hk' r).int,Sem.run_bind,hrun,Result.andThen,Sem.run_pure]
      rw [hrun']
      exact du (hgo _ _ hg) (Ext.refl ι) r.heap hr r.tmps r.cI hD hk
     ·cases h
    ·cases h
   ·rename_i kt et xs hdesc ho
    have h1:=(hV.ty _ _ hd).1
    rw [hdesc] at h1
    split at h
    ·rename_i q v H' hx
     obtain ⟨_,_,c,hr,hrun⟩:=C1 hV h1 r.heap ho (bz hm r) hx
     refine ⟨fun g _=>bQ _ g,?_⟩
     rw [Oper.semAt_eq _ _ _ (by simp [hop])]
     have hrun':(execOp a.eval o).run E.P w=.ok (.value c) w:=by
      simp only [execOp,hop,(bz hk' r).int,Sem.run_bind,hrun,Result.andThen,Sem.run_pure]
     rw [hrun']
     exact du (hgo _ _ h) (Ext.refl ι) r.heap hr r.tmps r.cI hD hk
    ·cases h
   ·cases h
  ·cases h
 case h_4 t x i hop=>
  dsimp only at h
  split at h
  ·rename_i d u k nn hd hu hi
   split at h
   ·rename_i m e0 e e2 hdesc hma he
    obtain ⟨⟨hq1,hq2,_⟩,h⟩:=cw (qs:=[_,_]) h
    obtain ⟨j,ej,_,_,hj⟩:=n9 h (by simpa using hq1) (by simpa using hq2)
    refine gK hV hgo ?_ r hD hk Q'
    unfold jZ
    have:kX E fr.T H o=match jw d e2.size u (.int k j) with | some (q,v)=>some (q,v,H) | none=>none:=by
     simp only [kX,hop,hd,hu,hi,he,ej]
     generalize jw d e2.size u (.int k j)=z
     cases z<;>rfl
    rw [this]
    split at hj
    ·rename_i q v hx;rw [hx];exact hj
    ·cases hj
   ·exact gK hV hgo h r hD hk Q'
  ·exact gK hV hgo h r hD hk Q'
 case h_5 t x hop=>
  dsimp only at h
  split at h
  ·rename_i d ob p hd hx
   split at h
   ·rename_i n el hdesc
    split at h
    ·rename_i ee own ty v he ho
     split at h
     ·rename_i q m c xs hg
      split at h
      ·rename_i hc
       obtain ⟨rfl,hcs⟩:=hc
       obtain ⟨hq,hgo'⟩:=cw h
       have hu:=(hV.ty _ _ hd).1
       rw [hdesc] at hu
       have hp:=(bz hx r).one rfl rfl
       rw [aD] at hp
       obtain ⟨b,z,hb,hpe⟩:=hp
       simp only [List.cons.injEq,and_true] at hpe
       obtain ⟨cells,fz,l,rr,e1,e2,e3,e4,e5⟩:=(r.heap.obj _ _ _ _ ho hb).cell
       obtain ⟨l1,mm,l2,el',el1,hu',_⟩:=fF p v l q _ hg hq e4
       rw [aD] at hu'
       have hlen:=aO (.arr m c) _ _ hu'
       have hlen:mm.length=m * c.size:=hlen
       have hz:l1.length+mm.length≤z:=by
        rw [← e3,← Array.length_toList,e2,el']
        simp
       refine ⟨fun g _=>bQ _ g,?_⟩
       rw [Oper.semAt_eq _ _ _ (by simp [hop])]
       have hrun':(execOp a.eval o).run E.P w=.ok (.value (.slice (some ⟨b,aw p,none⟩) m m)) w:=by
        simp only [execOp,hop,Instr.sliceAt,hpe,Sem.run_bind,run_underlying hu,bH (hV.ty _ _ he),Result.andThen,Instr.sureAddr,Sem.run_pure,Instr.sliceBounds,Option.map_none]
        simp
        intro _
        rfl
       rw [hrun']
       refine du (hgo _ _ hgo') (Ext.refl ι) r.heap ?_ r.tmps r.cI hD hk
       refine an rfl ?_
       rw [aD]
       exact ⟨b,z,m,hb,by simp,Nat.le_refl _,by rw [el1,hlen,hcs] at hz;simpa using hz,fun k' e=>by cases e;rfl⟩
      ·cases h
     ·cases h
    ·cases h
   ·cases h
  ·exact gK hV hgo h r hD hk Q'
 case h_6 src dst x hop=>
  dsimp only at h
  split at h
  ·rename_i s d ob p sz off len cap hs hd hx
   split at h
   ·rename_i q u hv
    split at h
    ·rename_i z hz
     obtain ⟨hq,hgo'⟩:=cw h
     have hu:=uZ r.heap (ι':=ι.all w) ⟨fun b _ _ _ e=>r.heap.aM b _ e,fun _ _ h=>h⟩ (fun o _ own t v b z _ _=>rfl) hv hq (bz hx r)
     obtain ⟨c,hrun,hr⟩:=Gq (ι:=ι.all w) hV (hV.ty _ _ hs) (hV.ty _ _ hd) hz (fun b o e=>e) hu
     refine ⟨fun g _=>bQ _ g,?_⟩
     rw [Oper.semAt_eq _ _ _ (by simp [hop])]
     have hrun':(execOp a.eval o).run E.P w=.ok (.value c) w:=by
      simp only [execOp,hop,Sem.run_bind,hrun,Result.andThen,Sem.run_pure]
     rw [hrun']
     exact du (hgo _ _ hgo') (Ext.refl ι) r.heap (hr ι) r.tmps r.cI hD hk
    ·cases h
   ·cases h
  ·exact gK hV hgo h r hD hk Q'
 case h_7 t x i hop=>
  dsimp only at h
  split at h
  ·rename_i d ss vs k nn hd hu hi
   split at h
   ·rename_i m e0 e e2 hdesc he
    obtain ⟨⟨hq1,hq2,_⟩,h⟩:=cw (qs:=[_,_]) h
    obtain ⟨j,ej,_,_,hj⟩:=n9 h (by simpa using hq1) (by simpa using hq2)
    refine gK hV hgo ?_ r hD hk Q'
    unfold jZ
    have:kX E fr.T H o=match sw d e2 (.agg ss vs) (.int k j) with | some (q,v)=>some (q,v,H) | none=>none:=by
     simp only [kX,hop,hd,hu,hi,he,ej]
     generalize sw d e2 (.agg ss vs) (.int k j)=z
     cases z<;>rfl
    rw [this]
    split at hj
    ·rename_i q v hx;rw [hx];exact hj
    ·cases hj
   ·exact gK hV hgo h r hD hk Q'
  ·exact gK hV hgo h r hD hk Q'
 case h_8 op t x y ty hop=>
  dsimp only at h
  split at h
  ·rename_i c xs hx hy
   split at h
   ·rename_i d hd
    have hu:=(hV.ty _ _ hd).1
    have hy':=(bz hy r).raw
    have hx':=(bz hx r).one rfl rfl
    rw [aD] at hx'
    obtain ⟨v,hv,hx'⟩:=hx'
    simp only [List.cons.injEq,and_true] at hv
    have fin:∀ b,(execOp a.eval o).run E.P w=.ok (.value (.bool b)) w→go (bZ fr.T o.dst (.bool b)) H→o.wpIn (ay ι fr.kind) n E.P a w (fun a' w'=>cj ι (ay ι fr.kind) n E.P (lift E (E.j7 fr.kind) fr.base ι (KW E Q aF fr.kind fr.id)) fr.items .normal a' w') Q':=by
     intro b hrun hg
     refine ⟨fun g _=>bQ _ g,?_⟩
     rw [Oper.semAt_eq _ _ _ (by simp [hop]),hrun]
     exact du (hgo _ _ hg) (Ext.refl ι) r.heap (dN _) r.tmps r.cI hD hk
    have sl:∃ p m k,v=.slice p m k∧(p.isNone=true→ae xs.length 0=true):=by
     rcases hx' with ⟨h0,rfl | ⟨p,rfl⟩⟩ | ⟨b,off,k,cells,tt,fz,l,rfl,_⟩
     ·exact ⟨none,0,0,rfl,fun _=>by rw [h0];rfl⟩
     ·exact ⟨some p,0,0,rfl,fun h=>by cases h⟩
     ·exact ⟨some _,_,_,rfl,fun h=>by cases h⟩
    obtain ⟨p,m,k,rfl,hpn⟩:=sl
    have hg:∀ op xo yo,(eqGuard op t xo yo (.slice p m k) (.slice none 0 0)).run E.P w=.ok () w:=by intro op xo yo;unfold eqGuard;split<;>rfl
    split at h
    ·rename_i e hde
     rw [hde] at hu
     have hrun:(execOp a.eval o).run E.P w=.ok (.value (.bool p.isNone)) w:=by
      simp only [execOp,hop,hv,hy',Sem.run_bind,hg,Result.andThen,binOp,jF hu,Sem.run_pure]
     refine fin _ hrun ?_
     cases hp:p.isNone with
     | true=>
      rw [hpn hp] at h
      exact h.1
     | false=>
      cases hz:ae (xs.length:Int) 0 with
      | true=>rw [hz] at h;exact h.2
      | false=>rw [hz] at h;exact h
    ·rename_i e hde
     rw [hde] at hu
     have hrun:(execOp a.eval o).run E.P w=.ok (.value (.bool (!p.isNone))) w:=by
      simp only [execOp,hop,hv,hy',Sem.run_bind,hg,Result.andThen,binOp,jF hu,Sem.run_pure]
     refine fin _ hrun ?_
     cases hp:p.isNone with
     | true=>
      rw [hpn hp] at h
      exact h.1
     | false=>
      cases hz:ae (xs.length:Int) 0 with
      | true=>rw [hz] at h;exact h.2
      | false=>rw [hz] at h;exact h
    ·cases h
   ·cases h
  ·exact gK hV hgo h r hD hk Q'
 case h_9=>exact gK hV hgo h r hD hk Q'
end Go.aA
end
section
namespace Go.aA
open Go.RowKit
variable {E:Env} {ι:aq} {T:List AV} {H:al} {a:Act} {w:World}
theorem cM {fr:Fr} {p:Ez} {k':List It} (hW:jc E {fr with items:=k'} p H)
  (h:∀ n ι F a w,gi E ι fr.T H a w→cj ι F n E.P (lift E (E.j7 fr.kind) fr.base ι p) k' .normal a w→cj ι F n E.P (lift E (E.j7 fr.kind) fr.base ι p) fr.items .normal a w):jc E fr p H:=
 fun n ι a w r hD hk=>h n ι _ a w r (hW n ι a w r hD hk)
theorem w5 {b:Bool} {p q:Prop} (h:cond b p q):(b=true∧p)∨(b=false∧q):=by
 cases b with
 | false=>exact .inr ⟨rfl,h⟩
 | true=>exact .inl ⟨rfl,h⟩
theorem IC {F:Fence} {n:Nat} {P:Program} {Q:Exit→Act→World→Prop} {id:Nat} {k:List It}:∀ e a w,cj ι F n P Q (.bB id :: k) e a w→Exit.inBlock id (cj ι F n P Q k) e a w:=by
 intro e a w h;cases e<;>exact h
theorem EI {F:Fence} {n:Nat} {P:Program} {Q:Exit→Act→World→Prop} {c:Code} {k:List It}:∀ e a w,cj ι F n P Q (.code c :: k) e a w→Exit.then (c.wpIn F n P (cj ι F n P Q k)) (cj ι F n P Q k) e a w:=by
 intro e a w h;cases e<;>exact h
theorem BQ {F:Fence} {n:Nat} {P:Program} {Q:Exit→Act→World→Prop} {c:Code} {k:List It}:∀ e a w,cj ι F n P Q (.lp c :: k) e a w→Exit.then (kZ F n P c (cj ι F n P Q k)) (cj ι F n P Q k) e a w:=by
 intro e a w h;cases e<;>exact h
theorem EJ {F:Fence} {n:Nat} {P:Program} {Q:Exit→Act→World→Prop} {c:Code} (h:c.wpIn F n P (Exit.noGoto Q) a w):(Code.scope c).wpIn F n P Q a w:=by
 intro b k cs hro hb hr
 have h0:(lone (b.atR a (.code (.scope c) :: k)) cs w).fenced P F:=fenced_calm hb hr rfl
 have s0:step P (lone (b.atR a (.code (.scope c) :: k)) cs w)=.next (lone (b.atR a (.code c :: .inScope c :: k)) cs w):=step_lone_go (by simp [stepG,stepG.exec,Frame.atR])
 have s1:∀ a w,step P (lone (b.atR a (.inScope c :: k)) cs w)=.next (lone (b.atR a k) cs w):=fun a w=>step_lone_go (by simp [stepG,stepG.exec,Frame.atR])
 obtain ⟨e,a₁,w₁,hq,harr⟩:=h b (.inScope c :: k) cs hro hb hr
 cases e with
 | normal=>exact ⟨.normal,a₁,w₁,hq,.head h0 s0 (StepsIn.trans harr (.one (fenced_calm hb hr rfl) (s1 _ _)))⟩
 | exit id=>
  have hx:exitTo id (.inScope c :: k)=exitTo id k:=by simp [exitTo]
  exact ⟨.exit id,a₁,w₁,hq,fun k' hk=>.head h0 s0 (harr.1 k' (by rw [hx];exact hk)),
   fun hr' hk=>let ⟨k₁,h1,h2⟩:=harr.2 hr' (by rw [hx];exact hk);⟨k₁,h1,.head h0 s0 h2⟩⟩
 | goto l=>exact hq.elim
 | ret=>exact ⟨_,a₁,w₁,hq,.of_steps (.one h0 s0) harr⟩
 | panic ch=>exact ⟨_,a₁,w₁,hq,.of_steps (.one h0 s0) harr⟩
 | outgrown=>exact ⟨_,a₁,w₁,hq,.of_steps (.one h0 s0) harr⟩
theorem IB {F:Fence} {n:Nat} {P:Program} {Q:Exit→Act→World→Prop} {k:List It}:∀ e a w,cj ι F n P Q (.PL :: k) e a w→Exit.noGoto (cj ι F n P Q k) e a w:=by
 intro e a w h;cases e<;>exact h
theorem gQ {F:Fence} {n:Nat} {P:Program} {Q:Exit→Act→World→Prop} {id:Nat}:∀ {k k':List It},toBlk id k=some k'→cj ι F n P Q k' .normal a w→cj ι F n P Q k (.exit id) a w
 | [],_,h,_=>by cases h
 | it :: k,k',h,hw=>by
  cases it with
  | bB j=>
   simp only [toBlk] at h
   simp only [cj]
   split at h
   ·rename_i e;cases h;rw [if_pos e.symm];exact hw
   ·rename_i e;rw [if_neg (fun e'=>e e'.symm)];exact gQ h hw
  | begin l=>cases h
  | fin l=>cases h
  | PL=>exact gQ (k:=k) h hw
  | code c=>exact gQ (k:=k) h hw
  | now c=>exact gQ (k:=k) h hw
  | lp c=>exact gQ (k:=k) h hw
  | ops all rest=>exact gQ (k:=k) h hw
theorem cJ {F:Fence} {n:Nat} {P:Program} {Q:Exit→Act→World→Prop}:∀ {k:List It} {e:Exit},(e=.ret∨∃ id,e=.exit id∧toBlk id k=none)→through k=true→Q e a w→cj ι F n P Q k e a w
 | [],_,_,_,h=>h
 | it :: k,e,he,ht,h=>by
  cases it with
  | bB j=>
   have he':e=.ret∨∃ id,e=.exit id∧toBlk id k=none∧j≠id:=by
    rcases he with rfl | ⟨id,rfl,hb⟩
    ·exact .inl rfl
    ·simp only [toBlk] at hb
     split at hb
     ·cases hb
     ·rename_i hj;exact .inr ⟨id,rfl,hb,hj⟩
   rcases he' with rfl | ⟨id,rfl,hb,hj⟩
   ·exact cJ (k:=k) (.inl rfl) ht h
   ·simp only [cj];rw [if_neg (fun e=>hj e.symm)];exact cJ (k:=k) (.inr ⟨id,rfl,hb⟩) ht h
  | begin l=>cases ht
  | fin l=>cases ht
  | PL=>
   rcases he with rfl | ⟨id,rfl,hb⟩
   ·exact cJ (k:=k) (.inl rfl) ht h
   ·exact cJ (k:=k) (.inr ⟨id,rfl,hb⟩) ht h
  | code c=>
   rcases he with rfl | ⟨id,rfl,hb⟩
   ·exact cJ (k:=k) (.inl rfl) ht h
   ·exact cJ (k:=k) (.inr ⟨id,rfl,hb⟩) ht h
  | now c=>
   rcases he with rfl | ⟨id,rfl,hb⟩
   ·exact cJ (k:=k) (.inl rfl) ht h
   ·exact cJ (k:=k) (.inr ⟨id,rfl,hb⟩) ht h
  | lp c=>
   rcases he with rfl | ⟨id,rfl,hb⟩
   ·exact cJ (k:=k) (.inl rfl) ht h
   ·exact cJ (k:=k) (.inr ⟨id,rfl,hb⟩) ht h
  | ops all rest=>
   rcases he with rfl | ⟨id,rfl,hb⟩
   ·exact cJ (k:=k) (.inl rfl) ht h
   ·exact cJ (k:=k) (.inr ⟨id,rfl,hb⟩) ht h
theorem wK {Q:AV→al→Prop} {K:qk} (hK:∀ fr aF H,K fr aF H→WW E Q fr aF H) {fr:Fr} {aF:List Fr} {j:Option Code} {e:Exit} (he:sr e=some j) (h:leave E Q K fr j aF H):
  KW E Q aF fr.kind fr.id e fr.T fr.D H:=by
 unfold leave at h
 split at h
 ·rename_i l dst fr' stk' hkind
  split at h
  ·rename_i s p f T0 ps ca cb d hl
   split at h
   ·rename_i hD
    rw [hkind]
    exact ⟨j,he,List.isEmpty_iff.1 hD,s,p,f,T0,ps,ca,cb,d,hl,hK _ _ _ h⟩
   ·cases h
  ·cases h
 ·rename_i hne
  split at h
  ·rename_i hret
   split at h
   ·rename_i fn hfn
    split at h
    ·rename_i H' hc
     split at h
     ·rename_i q v hr
      have h2:=cw h
      clear h
      obtain ⟨hq,h⟩:=h2
      split at h
      ·rename_i hkind
       rw [hkind]
       exact ⟨⟨j,he,hret⟩,fn,H',q,v,hfn,hc,hr,hq,h⟩
      ·rename_i dst fr' stk' hkind
       rw [hkind]
       exact ⟨⟨j,he,hret⟩,fn,H',q,v,hfn,hc,hr,hq,hK _ _ _ h⟩
      ·rename_i l fr' stk' hkind
       rw [hkind]
       exact ⟨⟨j,he,hret⟩,fn,H',q,v,hfn,hc,hr,hq,hK _ _ _ h⟩
      ·cases h
     ·cases h
    ·cases h
   ·cases h
  ·cases h
end Go.aA
end
section
namespace Go.aA
open Go.RowKit
variable {E:Env} {ι:aq} {T:List AV} {H:al} {a:Act} {w:World}
theorem lk {o:Oper} {y:Nat→Option Bool} (h:o.guard=none):Region.wanted o y=true:=by simp [Region.wanted,h]
def ni:Value→Option Bool
 | .bool b=>some b
 | _=>none
theorem mL {all:List Oper} {j:Nat} {t:Tmp} {c:Value} (h1:(all[j]?).bind (·.dst)=some t) (h2:a.tmps.toList[t]?=some c):yielded all.toArray a.tmps j=ni c:=by
 have h3:a.tmps[t]?=some c:=by simpa using h2
 simp only [yielded,List.getElem?_toArray,h1,Option.bind_some,h3]
 cases c<;>rfl
theorem vE {t:Nat} {b b':Bool} (hb:b=b') (h:aL (ak ι) T a.tmps.toList) (ht:T[t]?=some (.bool b)):aL (ak ι) (T.set t (.bool b')) a.tmps.toList:=by
 refine h.Ca t _ fun c hc=>?_
 obtain ⟨c',e,k⟩:=h.at t _ ht
 rw [hc] at e;cases e
 rw [k.bool,hb];exact dN _
theorem Oi {l b z:Nat} {caps:List AV} {us:List Value} (hb:ι.bB[l]?=some (b,z)) (h:aL (ak ι) caps us):aL (ak ι) (.jl l :: caps) (.func (.yield b) #[] #[] :: us):=
 .cons (an rfl (by rw [aD];exact ⟨b,z,hb,rfl⟩)) h
theorem Cv (hV:E.Valid) {Q:AV→al→Prop} {fr:Fr} {aF:List Fr} {k:List It} {f:Operand} {ps:Array Tmp} {asg body:Code} {g:FuncId} {caps:List AV} {fn:Func} {c:Code}
  (hit:fr.items=.code (.rangeFunc f ps asg body) :: k) (hf:ev E fr.T f=some (.fn g caps)) (hfn:E.fns g=some fn) (hc:fn.body=some c)
  (hW:(∃ l0 dst s p f' T' ps' a' b' d,fr.kind=.round l0 dst∧H[l0]?=some (.loop s p f' T' ps' a' b' d)∧
    WW E Q {id:=g,kind:=.iter H.length,T:=rC fn (.jl H.length :: caps),items:=[.code c],D:=[],base:=H.length+1} ({fr with items:=.fin H.length :: k} :: aF) (H++[.loop .ready none fr.id fr.T ps.toList asg body d]))∨
   ((∀ l0 dst,fr.kind≠.round l0 dst)∧WW E Q {id:=g,kind:=.iter (H.length+1),T:=rC fn (.jl (H.length+1) :: caps),items:=[.code c],D:=[],base:=H.length+2} ({fr with items:=.fin (H.length+1) :: k,D:=H.length :: fr.D} :: aF)
     (H++[.my,.loop .ready none fr.id fr.T ps.toList asg body H.length]))):
  WW E Q fr aF H:=by
 intro n ι a w r hD hk
 rw [hit]
 refine wpIn_rangeFunc fun fnr _=>?_
 obtain ⟨l,hfe,hcaps⟩:=Bg (bz hf r)
 have hres:∀ (b:Nat) (w1:World),(resolve a.eval (rangeCall f b) 0).run E.P w1=.ok {target:=.fn (.func g) l.toArray,args:=#[.func (.yield b) #[] #[]]} w1:=fun b w1=>by
  simp only [resolve,hfe]
  simp [Act.eval,Deferred.ofValue]
 have hinv:∀ (b:Nat) (w1:World),(invoke (.fn (.func g) l.toArray) #[.func (.yield b) #[] #[]]).run E.P w1=.ok (.enter g (Value.func (.yield b) #[] #[] :: l).toArray) w1:=fun b w1=>by
  have:=fu (w:=w1) hV hfn hc (Value.func (.yield b) #[] #[] :: l).toArray
  simpa [invoke] using this
 have fin:∀ {ι1:aq} {H1:al} {w1:World} {lid b z:Nat} {D':List Nat} {mark:List Deferred} {β:Nat},β=H1.length→Ext ι ι1→aE ι1 H1 w1→ι1.bB[lid]?=some (b,z)→iB (E.j7 fr.kind) ι1 D' (mark++a.defers)→
   WW E Q {id:=g,kind:=.iter lid,T:=rC fn (.jl lid :: caps),items:=[.code c],D:=[],base:=β} ({fr with items:=.fin lid :: k,D:=D'} :: aF) H1→
   CallsIn (ay ι fr.kind) (n - 1) E.P g (Value.func (.yield b) #[] #[] :: l).toArray w1 (rangePost (ay ι fr.kind) n E.P b (cj ι (ay ι fr.kind) n E.P (lift E (E.j7 fr.kind) fr.base ι (KW E Q aF fr.kind fr.id)) k) {a with defers:=mark++a.defers}):=by
  intro ι1 H1 w1 lid b z D' mark β hβ hE hH hb hD' hW
  refine jK (ι:=ι) (k:=fr.kind) ?_
  refine rL (ι:=ι1) hV hβ hfn hc (.inr (.inr ⟨_,rfl⟩)) hW hH (r.cI.mono hE) (Oi hb (aL.imp (fun _ _=>cP hE) hcaps)) ?_
  rintro e T' D2 H2 ⟨⟨j,hj,hret⟩,fn',H'',q,v,h1,h2,h3,h4,h5⟩
  refine ⟨jP hj hret,fn',H'',q,v,h1,h2,h3,h4,fun ι2 u w2 hE2 hH2 _=>?_⟩
  have hE2:Ext ι1 ι2:=sM.ext (k:=.iter lid) hE2 (.inl rfl)
  have hEE:=hE.trans hE2
  have:=h5 n ι2 {a with defers:=mark++a.defers} w2 ⟨hH2,aL.imp (fun _ _=>cP hEE) r.tmps,r.cI.mono hEE⟩ (hD'.mono hE2) (hk.mono hEE)
  have hff:ay ι2 fr.kind=ay ι fr.kind:=dV hEE hk
  simp only [hff] at this
  obtain ⟨jump,w4,he,hj'⟩:=this b z (hE2.bB _ _ hb)
  refine ⟨jump,w4,he,?_⟩
  cases jump with
  | none=>exact dX hEE.bB (iR hEE) _ _ _ _ hj'
  | some cc=>exact wpIn_mono hj' (dX hEE.bB (iR hEE) _)
 rcases hW with ⟨l0,dst,s,p,f',T',ps',a',b',d,hkind,hl0,hW⟩ | ⟨hnr,hW⟩
 ·obtain ⟨b0,z0,hb0⟩:=r.heap.gO hl0
  obtain ⟨tmps0,db,dz,fn0,hobj,_,hdb⟩:=r.heap.obj _ _ _ _ hl0 hb0
  have hround:(ay ι fr.kind).round=some b0:=by rw [hkind];simp only [ay,rM,hb0];rfl
  let rcd:Loop:={state:=.ready,pending:=none,fn:=fnr,tmps:=a.tmps,params:=ps,assign:=asg,body:=body,defers:=db}
  have hE:=Ext.add ι w.heap.size 0
  have hH:aE (ι.add w.heap.size 0) (H++[.loop .ready none fr.id fr.T ps.toList asg body d]) (w.alloc (.loop rcd)):=
   r.heap.alloc (.loop rcd) 0 _ ⟨a.tmps,db,dz,fnr,heap_alloc_new,aL.imp (fun _ _=>cP hE) r.tmps,hE.bB _ _ hdb⟩
  have hb:(ι.add w.heap.size 0).bB[H.length]?=some (w.heap.size,0):=by rw [r.heap.len];exact ι.fK _ _
  refine ⟨w.heap.size,[],w.alloc (.loop rcd),_,w.alloc (.loop rcd),g,_,w.alloc (.loop rcd),?_,hres _ _,fun g' _=>bQ _ g',hinv _ _,by rw [ik];simp,fin (by simp) hE hH hb (hD.mono hE) hW⟩
  rw [hround]
  simp only [Instr.enterLoop,Sem.run_bind,run_getLoop hobj,Result.andThen,Sem.run_pure]
  rfl
 ·have hround:(ay ι fr.kind).round=none:=by
   cases hkd:fr.kind with
   | round l0 dst=>exact absurd hkd (hnr l0 dst)
   | _=>rfl
  let rcd:Loop:={state:=.ready,pending:=none,fn:=fnr,tmps:=a.tmps,params:=ps,assign:=asg,body:=body,defers:=w.heap.size}
  have hE1:=Ext.add ι w.heap.size 0
  have hH1:aE (ι.add w.heap.size 0) (H++[.my]) (w.alloc (.deferred (some []))):=r.heap.alloc (.deferred (some [])) 0 .my heap_alloc_new
  have hE2:=Ext.add (ι.add w.heap.size 0) (w.alloc (.deferred (some []))).heap.size 0
  have hEE:=hE1.trans hE2
  have hdb:(ι.add w.heap.size 0).bB[H.length]?=some (w.heap.size,0):=by rw [r.heap.len];exact ι.fK _ _
  have hH2:=hH1.alloc (.loop rcd) 0 (.loop .ready none fr.id fr.T ps.toList asg body H.length) ⟨a.tmps,w.heap.size,0,fnr,heap_alloc_new,aL.imp (fun _ _=>cP hEE) r.tmps,hE2.bB _ _ hdb⟩
  rw [List.append_assoc,List.singleton_append] at hH2
  have hb:((ι.add w.heap.size 0).add (w.alloc (.deferred (some []))).heap.size 0).bB[H.length+1]?=some (w.heap.size+1,0):=by
   have:=(ι.add w.heap.size 0).fK (w.alloc (.deferred (some []))).heap.size 0
   have hl:(ι.add w.heap.size 0).bB.length=H.length+1:=by rw [r.heap.len];exact Blk.sU
   rw [hl] at this
   simpa using this
  refine ⟨w.heap.size+1,[{target:=.collected w.heap.size,args:=#[]}],(w.alloc (.deferred (some []))).alloc (.loop rcd),_,(w.alloc (.deferred (some []))).alloc (.loop rcd),g,_,(w.alloc (.deferred (some []))).alloc (.loop rcd),?_,hres _ _,
   fun g' _=>bQ _ g',hinv _ _,by rw [ik];simp,fin (by simp) hEE hH2 hb ?_ hW⟩
  ·rw [hround];exact run_enterLoop_outer _ _ _ _ _
  ·exact iB.cons (hE2.bB _ _ hdb) (hD.mono hEE)
end Go.aA
end
section
namespace Go.aA
open Go.RowKit
variable {E:Env} {ι:aq} {T:List AV} {H:al} {a:Act} {w:World}
theorem Vq {d:Option Tmp} {v:AV} {x:Operand} (h:∀ t,d=some t→x≠.tmp t):ev E (bZ T d v) x=ev E T x:=by
 cases d with
 | none=>rfl
 | some t=>
  cases x with
  | tmp u=>
   have:t≠u:=fun e=>h t rfl (by rw [e])
   simp only [ev,bZ,List.getElem?_set_ne this]
  | _=>rfl
theorem iq {T T':List AV}:∀ {l:List Operand},(∀ x∈l,ev E T x=ev E T' x)→ph E T l=ph E T' l
 | [],_=>rfl
 | x :: l,h=>by
  have h1:=iq (T:=T) (T':=T') (l:=l) fun y hy=>h y (List.mem_cons_of_mem _ hy)
  simp only [ph,h x (List.mem_cons_self ..),h1]
theorem lY {T T':List AV}:∀ {l:List (Nat×Operand)},(∀ x∈l,ev E T x.2=ev E T' x.2)→lJ E T l=lJ E T' l
 | [],_=>rfl
 | (i,x) :: l,h=>by
  have h1:=lY (T:=T) (T':=T') (l:=l) fun y hy=>h y (List.mem_cons_of_mem _ hy)
  have h2:=h (i,x) (List.mem_cons_self ..)
  simp only [lJ,h2,h1]
theorem yF {T T':List AV} {x:Option Operand} (h:∀ y,x=some y→ev E T y=ev E T' y):Vr E T x=Vr E T' x:=by
 cases x with
 | none=>rfl
 | some y=>simp only [Vr,h y rfl]
theorem mG {T T':List AV} {o:Oper} (h:∀ x∈o.op.operands,ev E T x=ev E T' x):kX E T H o=kX E T' H o:=by
 unfold kX
 cases hop:o.op<;>rw [hop] at h<;>try rfl
 all_goals simp only [Op.operands] at h
 all_goals try dsimp only
 case move x=>rw [h x (by simp)]
 case assign x=>rw [h x (by simp)]
 case pick c x y=>rw [h c (by simp),h x (by simp),h y (by simp)]
 case box t x=>rw [h x (by simp)]
 case build t ps=>rw [lY (T':=T') fun x hx=>h x.2 (by simp;exact ⟨x.1,by simpa using hx⟩)]
 case buildSlice t n ps=>rw [lY (T':=T') fun x hx=>h x.2 (by simp;exact ⟨x.1,by simpa using hx⟩)]
 case load t x=>rw [h x (by simp)]
 case store t x y=>rw [h x (by simp),h y (by simp)]
 case nilCheck x=>rw [h x (by simp)]
 case binOp op t x y u=>rw [h x (by simp),h y (by simp)]
 case unOp op t x=>rw [h x (by simp)]
 case convert s d x=>rw [h x (by simp)]
 case makeFunc f first caps=>
  have:ph E T caps.toList=ph E T' caps.toList:=iq fun x hx=>h x (by simp at hx ⊢;exact .inr hx)
  have h2:ph E T first.toList=ph E T' first.toList:=iq fun x hx=>h x (by simp at hx ⊢;exact .inl hx)
  cases f<;>first | rfl | skip
  dsimp only
  rw [this]
  cases hfl:first.toList with
  | nil=>cases ph E T' caps.toList<;>rfl
  | cons x l=>
   rw [hfl] at h2
   cases hc:ph E T' caps.toList with
   | none=>rfl
   | some cs=>cases cs with
    | nil=>dsimp only;rw [h2]
    | cons=>rfl
 case fieldAddr s x f=>rw [h x (by simp)]
 case field s x f=>rw [h x (by simp)]
 case indexAddr t x i=>rw [h x (by simp),h i (by simp)]
 case index t x i=>rw [h x (by simp),h i (by simp)]
 case slice t x lo hi mx=>
  cases mx with
  | some m=>rfl
  | none=>
   dsimp only
   rw [h x (by simp),yF (T':=T') fun y e=>h y (by simp [e]),yF (T':=T') (x:=hi) fun y e=>h y (by simp [e])]
 case extract x i=>rw [h x (by simp)]
 case lookup t m k ok=>rw [h m (by simp),h k (by simp)]
 case mapUpdate t m k x=>rw [h m (by simp),h k (by simp),h x (by simp)]
 case insert t m k x=>rw [h m (by simp),h k (by simp),h x (by simp)]
 case makeMap t r=>cases r<;>rfl
 case makeSlice t l c=>rw [h l (by simp),h c (by simp)]
 case call c=>
  obtain ⟨callee,args,ts⟩:=c
  cases callee with
  | builtin b=>
   have:ph E T args.toList=ph E T' args.toList:=iq fun x hx=>h x (by simp [Call.operands];simpa using hx)
   dsimp only
   rw [this]
  | _=>rfl
theorem ry {T T':List AV} {o:Oper} (h:∀ x∈o.op.operands,ev E T x=ev E T' x) (hd:∀ d,o.dst=some d→T[d]?=T'[d]?):cq E T H o=cq E T' H o:=by
 unfold cq
 split
 ·rename_i f args ts hop
  simp only [hop,Op.operands,Call.operands] at h
  rw [h f (by simp),iq (T':=T') fun x hx=>h x (by simp;right;simpa using hx)]
 ·rename_i args ts hop
  simp only [hop,Op.operands,Call.operands] at h
  rw [iq (T':=T') fun x hx=>h x (by simpa using hx)]
 ·rw [mG h];unfold xO;rw [mG h]
 ·rename_i t x hop
  rw [h x (by rw [hop];simp [Op.operands]),mG h]
 ·rename_i t hop
  have:qW E T H o=qW E T' H o:=by
   unfold qW
   rw [hop]
   cases hdd:o.dst with
   | none=>rfl
   | some d=>simp only [hd d hdd]
  rw [this,mG h]
 ·exact mG h
theorem Br {T T':List AV} {o:Oper} (h:∀ x∈o.op.operands,ev E T x=ev E T' x):sE E T H o=sE E T' H o:=by
 unfold sE
 split
 ·rename_i f args ts hop
  simp only [hop,Op.operands,Call.operands] at h
  rw [h f (by simp),iq (T':=T') fun x hx=>h x (by simp;right;simpa using hx)]
 ·rfl
theorem Bq {T T':List AV} {o:Oper} (h:∀ x∈o.op.operands,ev E T x=ev E T' x) (hd:∀ d,o.dst=some d→T[d]?=T'[d]?):ng E T H o=ng E T' H o:=by
 have h0:=ry (H:=H) h hd
 unfold ng
 split
 ·rename_i f args ts hop
  simp only [hop,Op.operands,Call.operands] at h
  rw [h f (by simp),iq (T':=T') fun x hx=>h x (by simp;right;simpa using hx),h0]
 ·rfl
theorem D7 {T T':List AV} {o:Oper} (h:∀ x∈o.op.operands,ev E T x=ev E T' x) (hd:∀ d,o.dst=some d→T[d]?=T'[d]?):cz E T H o=cz E T' H o:=by
 unfold cz;rw [Bq h hd,Br h,ry h hd]
theorem cY {o:Oper} (h:kj E o.op=false):cz E T H o=cq E T H o:=by
 unfold kj at h
 simp only [Bool.or_eq_false_iff] at h
 unfold cz;rw [h.1,h.2];rfl
theorem xE {o:Oper} (h:iI o.op=false):kj E o.op=false:=by
 unfold kj
 simp only [Bool.or_eq_false_iff]
 constructor
 ·unfold iL
  split
  ·rename_i hop;rw [hop] at h;exact absurd h (by simp [iI])
  ·rename_i hop;rw [hop] at h;exact absurd h (by simp [iI])
  ·rfl
 ·unfold oU
  split
  ·rename_i hop;rw [hop] at h;exact absurd h (by simp [iI])
  ·rfl
theorem yP {o:Oper} {q:List Prop} {v:AV} {H':al} (hw:ki o.op=false) (h:kX E T H o=some (q,v,H')):H'=H:=by
 unfold kX at h
 cases hop:o.op<;>rw [hop] at h hw<;>try dsimp only at h
 all_goals try (exfalso;revert hw;simp [ki];done)
 all_goals (repeat' split at h)<;>first | (cases h;done) | (simp only [Option.some.injEq,Prod.mk.injEq] at h;exact h.2.2.symm) | exact (qU h).2 | contradiction | (exfalso;simp_all [ki])
theorem JS {o:Oper} (hr:iI o.op=false):kX E T H o=(kX E T [] o).map fun x=>(x.1,x.2.1,H):=by
 unfold kX
 cases hop:o.op<;>rw [hop] at hr<;>try dsimp only
 all_goals try (exfalso;revert hr;simp [iI];done)
 all_goals (repeat' split)<;>first | rfl | contradiction | (exfalso;simp_all [iI])
end Go.aA
end
