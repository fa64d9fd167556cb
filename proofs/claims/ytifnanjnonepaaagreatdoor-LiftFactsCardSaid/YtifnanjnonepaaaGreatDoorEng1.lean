/- A part of the proof that the laws of this seat hold. Conditions: none beyond the row. -/
import Derived.Test.YtifnanjnonepaaaGreatDoorEng0
import Derived.TacticsIn
import Derived.RangeFuncLeaves
import Derived.Laws.AppendOwn
import Derived.Lib.AppendZerosOnto
import Derived.Scope
import Derived.OrdersIn
import Derived.Still
set_option maxRecDepth 100000
set_option linter.unusedVariables false
set_option linter.unusedSimpArgs false
set_option linter.unusedSectionVars false
section
namespace Go.bz
open Go.RowKit
variable {E:Env} {ι:aD} {T:List AV} {H:av} {a:Act} {w:World}
theorem Mk {f:FuncId} {cs:List AV} {l:List Value} (h:a4 (au ι) cs l) (h1:cs.all (fun v=>!dM v&&pn v)=true):au ι (.fn f cs) (.func (.func f) #[] l.toArray):=by
 refine aC rfl ?_
 rw [aQ]
 refine ⟨List.all_eq_true.2 fun x hx=>by have:=List.all_eq_true.1 h1 x hx;simp only [Bool.and_eq_true] at this;exact this.1,l,rfl,?_⟩
 induction h with
 | nil=>rw [cH];exact ⟨rfl,rfl⟩
 | cons h t ih=>
  rename_i v c vs m
  simp only [List.all_cons,Bool.and_eq_true] at h1
  rw [cH]
  have hv:=h.one (by simpa using h1.1.1) (jc h1.1.2)
  exact ⟨1,List.replicate vs.length 1,[c],m,by simp [List.replicate_succ],rfl,rfl,hv,ih (by simpa using h1.2)⟩
theorem OE {f:FuncId} {cs:List AV} {l:List Value} (h:a4 (au ι) cs l) (h1:cs.all (fun v=>!dM v&&pn v)=true):au ι (.yJ f cs) (.func (.func f) l.toArray #[]):=by
 have:=(Mk (f:=f) h h1).one rfl rfl
 rw [aQ] at this
 obtain ⟨hc,l',e,k⟩:=this
 refine aC rfl ?_
 rw [aQ]
 have:l=l':=by simpa using e
 subst this
 exact ⟨hc,l,rfl,k⟩
theorem iv (hV:E.Valid) {ts:Array TypeId} (h:isSlice E ts=true):∃ t e,ts[0]?=some t∧E.P.underlying t=some (.slice e):=by
 unfold isSlice at h
 split at h
 ·rename_i t ht
  split at h
  ·rename_i d hd
   split at h
   ·rename_i e hdesc
    have:=(hV.ty _ _ hd).1
    rw [hdesc] at this
    exact ⟨t,e,ht,this⟩
   ·cases h
  ·cases h
 ·cases h
theorem xr (hV:E.Valid) {o:Oper} {q:List Prop} {v:AV} {H':av} (h:jN E T H o=some (q,v,H')) (hq:holds q) (r:fK E ι T H a w):SL E ι a w o v H':=by
 unfold jN at h
 split at h
 case h_1 x hop=>
  split at h
  ·rename_i u hu;simp only [Option.some.injEq,Prod.mk.injEq] at h;obtain ⟨_,rfl,rfl⟩:=h
   exact .same r.heap (bL hu r) (by simp [execOp,hop])
  ·cases h
 case h_2 x hop=>
  split at h
  ·rename_i u hu;simp only [Option.some.injEq,Prod.mk.injEq] at h;obtain ⟨_,rfl,rfl⟩:=h
   exact .same r.heap (bL hu r) (by simp [execOp,hop])
  ·cases h
 case h_3 c x y hop=>
  split at h
  ·rename_i b u1 u2 h1 h2 h3;simp only [Option.some.injEq,Prod.mk.injEq] at h;obtain ⟨_,rfl,rfl⟩:=h
   refine .same r.heap (LQ (bL h2 r) (bL h3 r)) ?_
   simp only [execOp,hop,(bL h1 r).bool,asBool,Sem.run_bind,Sem.run_pure,Result.andThen]
  ·cases h
 case h_4 t hop=>
  split at h
  ·rename_i d hd
   unfold JY at h
   split at h
   ·rename_i hc
    simp only [Option.some.injEq,Prod.mk.injEq] at h;obtain ⟨_,rfl,rfl⟩:=h
    obtain ⟨z,hz,hzr⟩:=jr (hV.ty _ _ hd) w
    obtain ⟨ι',w',b,hrun,hE,hH,hp⟩:=yj (P:=E.P) (t:=t) r.heap ((fq (jc hc.2)).2 (hzr ι)) (jc hc.2)
    refine ⟨ι',w',_,hE,hH,hp,.inl ?_⟩
    simp only [execOp,hop,Instr.alloc,Sem.run_bind,hz,Result.andThen,hrun,Sem.run_pure]
   ·cases h
  ·cases h
 case h_5 t x hop=>
  split at h
  ·rename_i d u hd hu
   unfold JY at h
   split at h
   ·rename_i hc
    simp only [Option.some.injEq,Prod.mk.injEq] at h;obtain ⟨_,rfl,rfl⟩:=h
    obtain ⟨ι',w',b,hrun,hE,hH,hp⟩:=yj (P:=E.P) (t:=t) r.heap (bL hu r) (jc hc.2)
    refine ⟨ι',w',_,hE,hH,hp,.inl ?_⟩
    simp only [execOp,hop,Instr.box,Sem.run_bind,Result.andThen,hrun,Sem.run_pure]
   ·cases h
  ·cases h
 case h_6 t parts hop=>
  split at h
  ·rename_i d ps hd hps
   split at h
   ·rename_i s hs
    split at h
    ·rename_i q' v' hb
     split at h
     ·rename_i hagg
      simp only [Option.some.injEq,Prod.mk.injEq] at h;obtain ⟨rfl,rfl,rfl⟩:=h
      obtain ⟨cs,hrun,hrep⟩:=MP hV (w:=w) (hV.ty _ _ hd) (fun n et hdesc=>by
       unfold MF at hs
       rw [hdesc] at hs
       simp only at hs
       split at hs
       ·rename_i x hx;cases hs;exact ⟨x,hx,rfl⟩
       ·cases hs) hb hq (iz hps r)
      refine .same r.heap (fT hagg hrep) ?_
      simp only [execOp,hop,Sem.run_bind]
      have:(parts.map fun x=>(x.1,a.eval x.2))=(parts.toList.map fun x=>(x.1,a.eval x.2)).toArray:=Array.ext' (by simp)
      rw [show (parts.map fun (i,x)=>(i,a.eval x))=(parts.map fun x=>(x.1,a.eval x.2)) from rfl,this,hrun]
      rfl
     ·cases h
    ·cases h
   ·cases h
  ·cases h
 case h_7 t len parts hop=>
  split at h
  ·rename_i d ps hd hps
   split at h
   ·rename_i e hdesc
    split at h
    ·rename_i de hde
     split at h
     ·rename_i c hc
      split at h
      ·rename_i z hz
       split at h
       ·rename_i hcond
        split at h
        ·rename_i q0 ps2 H2 hset
         split at h
         ·rename_i q' v' hf
          split at h
          ·rename_i hsz
           simp only [Option.some.injEq,Prod.mk.injEq] at h;obtain ⟨rfl,rfl,rfl⟩:=h
           rw [bJ] at hq
           obtain ⟨ι1,hE1,r1,hl1⟩:=H9 hset hq.1 r.heap (iz hps r)
           obtain ⟨ι',w',u,hrun,hE,hH,hr⟩:=nV (hV.ty _ _ hd) (hV.ty _ _ hde) hdesc (oU hz hcond.1) hf hq.2 hcond.2.1 hcond.2.2 hsz r1 hl1
           refine ⟨ι',w',u,hE1.trans hE,hH,hr,.inl ?_⟩
           simp only [execOp,hop,Sem.run_bind]
           have:(parts.map fun x=>(x.1,a.eval x.2))=(parts.toList.map fun x=>(x.1,a.eval x.2)).toArray:=Array.ext' (by simp)
           rw [show (parts.map fun (i,x)=>(i,a.eval x))=(parts.map fun x=>(x.1,a.eval x.2)) from rfl,this,hrun]
           rfl
          ·cases h
         ·cases h
        ·cases h
       ·cases h
      ·cases h
     ·split at h
      ·rename_i hcond
       split at h
       ·rename_i q' v' hf
        split at h
        ·rename_i hsz
         simp only [Option.some.injEq,Prod.mk.injEq] at h;obtain ⟨rfl,rfl,rfl⟩:=h
         obtain ⟨ι',w',u,hrun,hE,hH,hr⟩:=nV (hV.ty _ _ hd) (hV.ty _ _ hde) hdesc nM hf hq hcond.1 hcond.2 hsz r.heap (iz hps r)
         refine ⟨ι',w',u,hE,hH,hr,.inl ?_⟩
         simp only [execOp,hop,Sem.run_bind]
         have:(parts.map fun x=>(x.1,a.eval x.2))=(parts.toList.map fun x=>(x.1,a.eval x.2)).toArray:=Array.ext' (by simp)
         rw [show (parts.map fun (i,x)=>(i,a.eval x))=(parts.map fun x=>(x.1,a.eval x.2)) from rfl,this,hrun]
         rfl
        ·cases h
       ·cases h
      ·cases h
    ·cases h
   ·cases h
  ·cases h
 case h_8 t x hop=>
  split at h
  ·rename_i d u hd hu
   split at h
   ·rename_i q' v' hl
    split at h
    ·rename_i hc
     simp only [Option.some.injEq,Prod.mk.injEq] at h;obtain ⟨rfl,rfl,rfl⟩:=h
     obtain ⟨b,off,hb,hst⟩:=CW hl hq r.heap (bL hu r)
     obtain ⟨c,hrun,hr⟩:=wS (hV.ty _ _ hd) hc.1 hc.2 hst
     refine .same r.heap hr ?_
     simp only [execOp,hop,Instr.loadAt,hb,Instr.sureAddr,Sem.run_bind,Sem.run_pure,Result.andThen,hrun]
    ·cases h
   ·cases h
  ·cases h
 case h_9 t x y hop=>
  split at h
  ·rename_i d u uy hd hu huy
   split at h
   ·rename_i hc
    split at h
    ·rename_i q' H2 hs
     simp only [Option.some.injEq,Prod.mk.injEq] at h;obtain ⟨rfl,rfl,rfl⟩:=h
     obtain ⟨b,off,w',hb,hrun,hH⟩:=H3 (hV.ty _ _ hd) hs hq hc.1 r.heap (bL hu r) (bL huy r) (jc hc.2)
     refine ⟨ι,w',undef,Ext.refl ι,hH,er,.inr ⟨?_,rfl⟩⟩
     simp only [execOp,hop,Instr.storeAt,hb,Instr.sureAddr,Sem.run_bind,Sem.run_pure,Result.andThen,hrun]
    ·cases h
   ·cases h
  ·cases h
 case h_10 x hop=>
  split at h
  ·rename_i o' p hu
   simp only [Option.some.injEq,Prod.mk.injEq] at h;obtain ⟨_,rfl,rfl⟩:=h
   obtain ⟨b,z,hb,hc⟩:=nA (bL hu r)
   exact .same r.heap (bL hu r) (by simp only [execOp,hop,hc,Sem.run_pure])
  ·rename_i u hu
   simp only [Option.some.injEq,Prod.mk.injEq] at h;obtain ⟨_,rfl,rfl⟩:=h
   obtain ⟨b,off,cells,t,fz,l,hc,_⟩:=BP (bL hu r)
   exact .same r.heap (bL hu r) (by simp only [execOp,hop,hc,Sem.run_pure])
  ·rename_i f cs hu
   simp only [Option.some.injEq,Prod.mk.injEq] at h;obtain ⟨_,rfl,rfl⟩:=h
   have hr:=(bL hu r).one rfl rfl
   rw [aQ] at hr
   obtain ⟨_,l,hc,_⟩:=hr
   simp only [List.cons.injEq,and_true] at hc
   exact .same r.heap (bL hu r) (by simp only [execOp,hop,hc,Sem.run_pure])
  ·rename_i l hu
   simp only [Option.some.injEq,Prod.mk.injEq] at h;obtain ⟨_,rfl,rfl⟩:=h
   have hr:=(bL hu r).one rfl rfl
   rw [aQ] at hr
   obtain ⟨b,z,_,hc⟩:=hr
   simp only [List.cons.injEq,and_true] at hc
   exact .same r.heap (bL hu r) (by simp only [execOp,hop,hc,Sem.run_pure])
  ·cases h
 case h_11 op t x y yt hop=>
  split at h
  ·rename_i ux uy hx hy
   split at h
   ·rename_i q' v' hb
    simp only [Option.some.injEq,Prod.mk.injEq] at h;obtain ⟨rfl,rfl,rfl⟩:=h
    obtain ⟨c,hrun,hr⟩:=SE (P:=E.P) (w:=w) (t:=t) (fun e he=>hV.ty _ _ he) hb hq (bL hx r) (bL hy r) x y
    refine .same r.heap hr ?_
    simp only [execOp,hop,Sem.run_bind] at hrun ⊢
    rw [hrun]
    rfl
   ·split at h
    ·rename_i v' hb
     simp only [Option.some.injEq,Prod.mk.injEq] at h;obtain ⟨_,rfl,rfl⟩:=h
     obtain ⟨c,hrun,hr⟩:=OG hV (w:=w) hb (bL hx r) (bL hy r) x y
     refine .same r.heap hr ?_
     simp only [execOp,hop,Sem.run_bind] at hrun ⊢
     rw [hrun]
     rfl
    ·cases h
  ·cases h
 case h_12 op t x hop=>
  split at h
  ·rename_i ux hx
   split at h
   ·rename_i v' hb
    simp only [Option.some.injEq,Prod.mk.injEq] at h;obtain ⟨_,rfl,rfl⟩:=h
    obtain ⟨c,hrun,hr⟩:=SY (P:=E.P) (w:=w) hb (bL hx r)
    refine .same r.heap hr ?_
    simp only [execOp,hop,Sem.run_bind,hrun,Result.andThen,Sem.run_pure]
   ·cases h
  ·cases h
 case h_13 src dst x hop=>
  split at h
  ·rename_i ds d k n hs hd hx
   split at h
   ·rename_i k' hdesc
    simp only [Option.some.injEq,Prod.mk.injEq] at h;obtain ⟨_,rfl,rfl⟩:=h
    refine .same r.heap (dC _ _) ?_
    have h1:=(hV.ty _ _ hs).1
    have h2:=(hV.ty _ _ hd).1
    rw [hdesc] at h2
    simp only [execOp,hop,convert,(bL hx r).int,Sem.run_bind,run_underlying h1,run_underlying h2,Result.andThen,Conv.intToInt,Sem.run_pure,aN]
   ·cases h
  ·rename_i s d v _ hs hd hx
   split at h
   ·rename_i u hsa
    simp only [Option.some.injEq,Prod.mk.injEq] at h;obtain ⟨_,rfl,rfl⟩:=h
    obtain ⟨c,hrun,hr⟩:=GH hV (hV.ty _ _ hs) (hV.ty _ _ hd) hsa r.heap.a5 (bL hx r)
    have hr:=hr ι
    refine .same r.heap hr ?_
    simp only [execOp,hop,Sem.run_bind,hrun,Result.andThen,Sem.run_pure]
   ·cases h
  ·cases h
 case h_14 f first caps hop=>
  split at h
  ·rename_i cs hf hcs
   split at h
   ·rename_i hall
    simp only [Option.some.injEq,Prod.mk.injEq] at h;obtain ⟨_,rfl,rfl⟩:=h
    have hl:=eH hcs r
    refine .same r.heap (Mk hl hall) ?_
    have hfe:first=#[]:=by cases first;simpa using hf
    subst hfe
    have hcm:caps.map a.eval=(caps.toList.map a.eval).toArray:=Array.ext' (by simp)
    simp only [execOp,hop,Instr.makeFunc,Sem.run_bind,Sem.run_pure,Result.andThen,hcm,Array.map_empty]
   ·cases h
  ·rename_i x0 l0 hf hcs
   split at h
   ·rename_i cs hcs2
    split at h
    ·rename_i hall
     simp only [Option.some.injEq,Prod.mk.injEq] at h;obtain ⟨_,rfl,rfl⟩:=h
     have hl0:=eH hcs r
     have hl:=eH hcs2 r
     rw [← hf] at hl
     refine .same r.heap (OE hl hall) ?_
     have hce:caps=#[]:=by
      cases hl1:caps.toList with
      | nil=>cases caps;simpa using hl1
      | cons y ys=>rw [hl1] at hl0;cases hl0
     subst hce
     have hcm:first.map a.eval=(first.toList.map a.eval).toArray:=Array.ext' (by simp)
     simp only [execOp,hop,Instr.makeFunc,Sem.run_bind,Sem.run_pure,Result.andThen,hcm,Array.map_empty]
    ·cases h
   ·cases h
  ·cases h
 case h_15 s x f hop=>
  split at h
  ·rename_i d u hd hu
   split at h
   ·rename_i q' v' hb
    simp only [Option.some.injEq,Prod.mk.injEq] at h;obtain ⟨rfl,rfl,rfl⟩:=h
    obtain ⟨c,hrun,hr⟩:=Bv hV (w:=w) (hV.ty _ _ hd) hb hq (bL hu r)
    refine .same r.heap hr ?_
    simp only [execOp,hop,Sem.run_bind,hrun,Result.andThen,Sem.run_pure]
   ·cases h
  ·cases h
 case h_16 s x f hop=>
  split at h
  ·rename_i d u hd hu
   split at h
   ·rename_i q' v' hb
    simp only [Option.some.injEq,Prod.mk.injEq] at h;obtain ⟨rfl,rfl,rfl⟩:=h
    obtain ⟨c,hrun,hr⟩:=Mv hV (w:=w) (hV.ty _ _ hd) hb hq (bL hu r)
    refine .same r.heap hr ?_
    simp only [execOp,hop,Sem.run_bind,hrun,Result.andThen,Sem.run_pure]
   ·cases h
  ·cases h
 case h_17 t x i hop=>
  split at h
  ·rename_i d u ui hd hu hi
   split at h
   ·rename_i et e he
    split at h
    ·rename_i q' v' hb
     simp only [Option.some.injEq,Prod.mk.injEq] at h;obtain ⟨rfl,rfl,rfl⟩:=h
     obtain ⟨he1,he2⟩:=kM hV he
     obtain ⟨c,hrun,hr⟩:=Bg (w:=w) (hV.ty _ _ hd) he1 he2 hb hq (bL hu r) (bL hi r)
     refine .same r.heap hr ?_
     simp only [execOp,hop,Sem.run_bind,hrun,Result.andThen,Sem.run_pure]
    ·cases h
   ·cases h
  ·cases h
 case h_18 t x i hop=>
  split at h
  ·rename_i d u ui hd hu hi
   split at h
   ·rename_i et e he
    split at h
    ·rename_i q' v' hb
     simp only [Option.some.injEq,Prod.mk.injEq] at h;obtain ⟨rfl,rfl,rfl⟩:=h
     obtain ⟨he1,he2⟩:=kM hV he
     obtain ⟨c,hrun,hr⟩:=Mg (w:=w) (hV.ty _ _ hd) he1 he2 hb hq (bL hu r) (bL hi r)
     refine .same r.heap hr ?_
     simp only [execOp,hop,Sem.run_bind,hrun,Result.andThen,Sem.run_pure]
    ·cases h
   ·split at h
    ·rename_i q' v' hb
     simp only [Option.some.injEq,Prod.mk.injEq] at h;obtain ⟨rfl,rfl,rfl⟩:=h
     obtain ⟨c,hrun,hr⟩:=JJ (w:=w) (hV.ty _ _ hd) hb hq (bL hu r) (bL hi r)
     refine .same r.heap hr ?_
     simp only [execOp,hop,Sem.run_bind,hrun,Result.andThen,Sem.run_pure]
    ·cases h
  ·cases h
 case h_19 t x lo hi hop=>
  split at h
  ·rename_i d u ul uh hd hu hl hh
   split at h
   ·rename_i s hs
    split at h
    ·rename_i q' v' hb
     simp only [Option.some.injEq,Prod.mk.injEq] at h;obtain ⟨rfl,rfl,rfl⟩:=h
     obtain ⟨c,hrun,hr⟩:=H7 (w:=w) hV hd hs hb hq (bL hu r) (MA hl r) (MA hh r)
     refine .same r.heap hr ?_
     simp only [execOp,hop,Sem.run_bind,Option.map_none,hrun,Result.andThen,Sem.run_pure]
    ·cases h
   ·cases h
  ·cases h
 case h_20 x i hop=>
  split at h
  ·rename_i vs hu
   split at h
   ·rename_i v' hi
    simp only [Option.some.injEq,Prod.mk.injEq] at h;obtain ⟨_,rfl,rfl⟩:=h
    obtain ⟨l,hc,hl⟩:=bL hu r
    obtain ⟨c,hci,hr⟩:=hl.at i _ hi
    refine .same r.heap (c:=c) ?_ ?_
    ·cases hv:v' with
     | lM us=>subst hv;unfold b5 at hr;simp only [dM,Bool.false_eq_true,if_false] at hr;rw [aQ] at hr;exact hr.elim
     | any=>trivial
     | ns _=>trivial
     | _=>subst hv;exact hr
    ·simp only [execOp,hop,Instr.extract,hc,List.getElem?_toArray,hci,Sem.run_bind,Sem.run_pure,Result.andThen]
   ·cases h
  ·cases h
 case h_21 b args ts hop=>
  obtain ⟨cs,hrun⟩:=gI (E:=E) (a:=a) (w:=w) hop
  have hargs:args.map a.eval=(args.toList.map a.eval).toArray:=Array.ext' (by simp)
  split at h
  ·rename_i k m k' n hev
   split at h
   ·rename_i e;subst e
    simp only [Option.some.injEq,Prod.mk.injEq] at h;obtain ⟨_,rfl,rfl⟩:=h
    have hl:=eH hev r
    obtain ⟨c1,_,e1,h1,hl⟩:=hl.cons_inv
    obtain ⟨c2,_,e2,h2,hl⟩:=hl.cons_inv
    cases hl
    refine .same r.heap (dC _ _) ?_
    rw [hrun,hargs,e1,e2,h1.int,h2.int]
    simp [builtin,Builtin.min_,Builtin.min2,JK]
   ·cases h
  ·rename_i k m k' n hev
   split at h
   ·rename_i e;subst e
    simp only [Option.some.injEq,Prod.mk.injEq] at h;obtain ⟨_,rfl,rfl⟩:=h
    have hl:=eH hev r
    obtain ⟨c1,_,e1,h1,hl⟩:=hl.cons_inv
    obtain ⟨c2,_,e2,h2,hl⟩:=hl.cons_inv
    cases hl
    refine .same r.heap (dC _ _) ?_
    rw [hrun,hargs,e1,e2,h1.int,h2.int]
    simp [builtin,Builtin.max_,Builtin.max2,imax]
   ·cases h
  ·rename_i c xs hev
   split at h
   ·rename_i hsl
    simp only [Option.some.injEq,Prod.mk.injEq] at h;obtain ⟨_,rfl,rfl⟩:=h
    obtain ⟨t,e,e0,hu⟩:=iv hV hsl
    obtain ⟨c1,_,e1,h1,hl⟩:=(eH hev r).cons_inv
    cases hl
    refine .same r.heap (dC _ _) ?_
    rw [hrun,hargs,e1]
    rcases Bl h1 with ⟨rfl,rfl | ⟨a0,rfl⟩⟩ | ⟨b,off,k,cells,ty,fz,l,rfl,_⟩
    ·simp [builtin,Builtin.len_,e0,run_underlying hu,goInt]
    ·simp [builtin,Builtin.len_,e0,run_underlying hu,goInt]
    ·simp [builtin,Builtin.len_,e0,run_underlying hu,goInt]
   ·cases h
  ·rename_i o' p s off len cap hev
   split at h
   ·rename_i hsl
    simp only [Option.some.injEq,Prod.mk.injEq] at h;obtain ⟨_,rfl,rfl⟩:=h
    obtain ⟨t,e,e0,hu⟩:=iv hV hsl
    obtain ⟨c1,_,e1,h1,hl⟩:=(eH hev r).cons_inv
    cases hl
    refine .same r.heap (dC _ _) ?_
    rw [hrun,hargs,e1]
    obtain ⟨b,z,k,_,rfl,_⟩:=gx h1
    simp [builtin,Builtin.len_,e0,run_underlying hu,goInt]
   ·cases h
  ·rename_i o' s n hev
   split at h
   ·rename_i hsl
    simp only [Option.some.injEq,Prod.mk.injEq] at h;obtain ⟨_,rfl,rfl⟩:=h
    obtain ⟨t,e,e0,hu⟩:=iv hV hsl
    obtain ⟨c1,_,e1,h1,hl⟩:=(eH hev r).cons_inv
    cases hl
    refine .same r.heap (dC _ _) ?_
    rw [hrun,hargs,e1]
    have h1:=h1.one rfl rfl
    rw [aQ] at h1
    obtain ⟨b,z,v0,_,hv0,hv⟩:=h1
    simp only [List.cons.injEq,and_true] at hv0
    subst hv0
    rcases hv with ⟨rfl,rfl⟩ | ⟨_,k',rfl,_⟩
    ·simp [builtin,Builtin.len_,e0,run_underlying hu,goInt]
    ·simp [builtin,Builtin.len_,e0,run_underlying hu,goInt]
   ·cases h
  ·rename_i hev
   split at h
   ·rename_i hsl
    simp only [Option.some.injEq,Prod.mk.injEq] at h;obtain ⟨_,rfl,rfl⟩:=h
    obtain ⟨t,e,e0,hu⟩:=iv hV hsl
    obtain ⟨c1,_,e1,h1,hl⟩:=(eH hev r).cons_inv
    cases hl
    refine .same r.heap (dC _ _) ?_
    rw [hrun,hargs,e1,h1.raw]
    simp [builtin,Builtin.len_,e0,run_underlying hu,goInt]
   ·cases h
  ·rename_i o' p s off len k0 hev
   split at h
   ·rename_i hsl
    simp only [Option.some.injEq,Prod.mk.injEq] at h;obtain ⟨_,rfl,rfl⟩:=h
    obtain ⟨t,e,e0,hu⟩:=iv hV hsl
    obtain ⟨c1,_,e1,h1,hl⟩:=(eH hev r).cons_inv
    cases hl
    refine .same r.heap (dC _ _) ?_
    rw [hrun,hargs,e1]
    obtain ⟨b,z,k,_,rfl,_,_,hk⟩:=gx h1
    rw [hk k0 rfl]
    simp [builtin,Builtin.cap_,e0,run_underlying hu,goInt]
   ·cases h
  ·rename_i hev
   split at h
   ·rename_i hsl
    simp only [Option.some.injEq,Prod.mk.injEq] at h;obtain ⟨_,rfl,rfl⟩:=h
    obtain ⟨t,e,e0,hu⟩:=iv hV hsl
    obtain ⟨c1,_,e1,h1,hl⟩:=(eH hev r).cons_inv
    cases hl
    refine .same r.heap (dC _ _) ?_
    rw [hrun,hargs,e1,h1.raw]
    simp [builtin,Builtin.cap_,e0,run_underlying hu,goInt]
   ·cases h
  ·rename_i d x hev
   split at h
   ·rename_i t ht
    split at h
    ·rename_i dd hdd
     split at h
     ·rename_i et de hde
      split at h
      ·rename_i hsl
       obtain ⟨he1,he2⟩:=kM hV hde
       have hdesc:dd.desc=.slice et:=by
        rcases he2 with h' | ⟨m,h'⟩
        ·exact h'
        ·unfold rI at hsl;rw [h'] at hsl;cases hsl
       have hu:=(hV.ty _ _ hdd).1
       rw [hdesc] at hu
       obtain ⟨c1,_,e1,h1,hl⟩:=(eH hev r).cons_inv
       obtain ⟨c2,_,e2,h2,hl⟩:=hl.cons_inv
       cases hl
       obtain ⟨w',u,hcr,hH,hR⟩:=OB (ty:=o.type) ht hu he1 h hq r.heap h1 h2
       refine ⟨ι,w',u,Ext.refl ι,hH,hR,.inl ?_⟩
       rw [hrun,hargs,e1,e2]
       simp only [builtin,Sem.run_bind,hcr,Result.andThen,Sem.run_pure]
      ·cases h
     ·cases h
    ·cases h
   ·cases h
  ·cases h
 case h_22 t ln cp hop=>
  split at h
  ·rename_i d l c hd hl hc
   split at h
   ·rename_i et de hde
    split at h
    ·rename_i hsl
     obtain ⟨he1,he2⟩:=kM hV hde
     have hdesc:d.desc=.slice et:=by
      rcases he2 with h' | ⟨m,h'⟩
      ·exact h'
      ·unfold rI at hsl;rw [h'] at hsl;cases hsl
     have hu:=(hV.ty _ _ hd).1
     rw [hdesc] at hu
     obtain ⟨ι',w',u,hcr,hE,hH,hR⟩:=NV hu he1 h hq r.heap (bL hl r) (bL hc r)
     refine ⟨ι',w',u,hE,hH,hR,.inl ?_⟩
     simp only [execOp,hop,Sem.run_bind,hcr,Result.andThen,Sem.run_pure]
    ·cases h
   ·cases h
  ·cases h
 case h_23 t hop=>
  split at h
  ·simp only [Option.some.injEq,Prod.mk.injEq] at h;obtain ⟨_,rfl,rfl⟩:=h
   have hE:=Ext.add ι w.heap.size 0
   refine ⟨ι.add w.heap.size 0,w.alloc (.map #[] 0),.map (some w.heap.size),hE,?_,?_,.inl ?_⟩
   ·exact r.heap.alloc _ _ _ ⟨#[],0,heap_alloc_new,.nil⟩
   ·refine aC rfl ?_
    rw [aQ]
    exact ⟨w.heap.size,0,by rw [r.heap.len];exact ι.fh _ _,rfl⟩
   ·simp only [execOp,hop,Instr.makeMap,Option.map_none,Sem.run_bind,Sem.run_pure,Result.andThen]
    rfl
  simp only [Option.some.injEq,Prod.mk.injEq] at h;obtain ⟨_,rfl,rfl⟩:=h
  have hE:=Ext.add ι w.heap.size 0
  refine ⟨ι.add w.heap.size 0,w.alloc (.map #[] 0),.map (some w.heap.size),hE,?_,?_,.inl ?_⟩
  ·exact r.heap.alloc _ _ _ ⟨#[],0,heap_alloc_new,.nil⟩
  ·refine aC rfl ?_
   rw [aQ]
   exact ⟨w.heap.size,0,by rw [r.heap.len];exact ι.fh _ _,rfl⟩
  ·simp only [execOp,hop,Instr.makeMap,Option.map_none,Sem.run_bind,Sem.run_pure,Result.andThen]
   rfl
 case h_24 t m k x hop=>
  split at h
  ·rename_i d o' kk n u hd hm hk hu
   split at h
   ·rename_i kt et es hdesc ho
    split at h
    ·rename_i dk hdk
     split at h
     ·rename_i k0 hkd
      split at h
      ·rename_i hc
       simp only [Option.some.injEq,Prod.mk.injEq] at h;obtain ⟨_,rfl,rfl⟩:=h
       have h1:=(hV.ty _ _ hd).1
       have h2:=(hV.ty _ _ hdk).1
       rw [hdesc] at h1
       rw [hkd] at h2
       obtain ⟨w',hrun,hH⟩:=yq h1 h2 r.heap ho (bL hm r) (bL hu r) (jc hc.2) hc.1
       refine ⟨ι,w',undef,Ext.refl ι,hH,er,.inr ⟨?_,rfl⟩⟩
       simp only [execOp,hop,(bL hk r).int,Sem.run_bind,hrun,Result.andThen,Sem.run_pure]
      ·cases h
     ·cases h
    ·cases h
   ·cases h
  ·cases h
 case h_25 t m k ok hop=>
  split at h
  ·rename_i d ob kk n hd hm hk'
   split at h
   ·rename_i kt et es hdesc ho
    split at h
    ·rename_i dk de hdk hde
     split at h
     ·rename_i k0 hkd
      split at h
      ·rename_i v' fl' hlk
       simp only [Option.some.injEq,Prod.mk.injEq] at h;obtain ⟨_,rfl,rfl⟩:=h
       have h1:=(hV.ty _ _ hd).1
       have h2:=(hV.ty _ _ hdk).1
       rw [hdesc] at h1
       rw [hkd] at h2
       obtain ⟨v,fl,c,hg,hr,hrun⟩:=yl (ok:=ok) h1 h2 (hV.ty _ _ hde) r.heap ho (bL hm r) (Ha hlk)
       obtain ⟨rfl,rfl⟩:=hg
       refine .same r.heap hr ?_
       simp only [execOp,hop,(bL hk' r).int,Sem.run_bind,hrun,Result.andThen,Sem.run_pure]
      ·cases h
     ·cases h
    ·cases h
   ·rename_i kt et xs hdesc ho
    have h1:=(hV.ty _ _ hd).1
    rw [hdesc] at h1
    obtain ⟨rfl,rfl,c,hr,hrun⟩:=CV hV h1 r.heap ho (bL hm r) h
    refine .same r.heap hr ?_
    simp only [execOp,hop,(bL hk' r).int,Sem.run_bind,hrun,Result.andThen,Sem.run_pure]
   ·cases h
  ·cases h
 case h_26 t m k x hop=>
  split at h
  ·rename_i d o' kk n u hd hm hk hu
   split at h
   ·rename_i kt et es hdesc ho
    split at h
    ·rename_i dk hdk
     split at h
     ·rename_i k0 hkd
      split at h
      ·rename_i hc
       simp only [Option.some.injEq,Prod.mk.injEq] at h;obtain ⟨_,rfl,rfl⟩:=h
       have h1:=(hV.ty _ _ hd).1
       have h2:=(hV.ty _ _ hdk).1
       rw [hdesc] at h1
       rw [hkd] at h2
       obtain ⟨w',hrun,hH⟩:=yq h1 h2 r.heap ho (bL hm r) (bL hu r) (jc hc.2) hc.1
       refine ⟨ι,w',undef,Ext.refl ι,hH,er,.inr ⟨?_,rfl⟩⟩
       simp only [execOp,hop,(bL hk r).int,Sem.run_bind,hrun,Result.andThen,Sem.run_pure]
      ·cases h
     ·cases h
    ·cases h
   ·rename_i kt et xs hdesc ho
    have h1:=(hV.ty _ _ hd).1
    rw [hdesc] at h1
    obtain ⟨rfl,w',hrun,hH⟩:=NZ hV h1 r.heap ho (bL hm r) (bL hu r) h
    refine ⟨ι,w',undef,Ext.refl ι,hH,er,.inr ⟨?_,rfl⟩⟩
    simp only [execOp,hop,(bL hk r).int,Sem.run_bind,hrun,Result.andThen,Sem.run_pure]
   ·cases h
  ·cases h
 case h_27=>cases h
theorem pF {kt et:TypeId} {kk:IntKind} {n:Int} {ok:Bool} {xs:List (Int×Int)} {q:List Prop} {v:AV} {H':av} (hx:oD E kt et kk n ok xs H=some (q,v,H')):q=[]∧H'=H:=by
 unfold oD at hx
 repeat' split at hx
 all_goals first | (cases hx;done) | (simp only [Option.some.injEq,Prod.mk.injEq] at hx;exact ⟨hx.1.symm,hx.2.2.symm⟩)
theorem Ma {o:Oper} {go:AV→Prop} (h:Mb E T H o go):∃ v,jN E T H o=some ([],v,H)∧go v:=by
 unfold Mb at h
 split at h
 ·rename_i t m k ok hop
  split at h
  ·rename_i d ob kk n hd hm hk'
   split at h
   ·rename_i kt et es hdesc ho
    split at h
    ·rename_i dk de hdk hde
     split at h
     ·rename_i k0 hkd
      have hl:jY n kk de.zero (fun v fl=>go (jX ok v fl)) es:=by
       split at h
       ·rename_i v fl hmg;exact oC (go:=fun v fl=>go (jX ok v fl)) hmg h
       ·exact h
      obtain ⟨v,fl,h1,h2⟩:=G9 hl
      exact ⟨jX ok v fl,by simp only [jN,hop,hd,hm,hk',hdesc,ho,hdk,hde,hkd,h1],h2⟩
     ·cases h
    ·cases h
   ·rename_i kt et xs hdesc ho
    split at h
    ·rename_i q v H' hx
     have hq:=pF hx
     obtain ⟨rfl,rfl⟩:=hq
     exact ⟨v,by simp only [jN,hop,hd,hm,hk',hdesc,ho,hx],h⟩
    ·cases h
   ·cases h
  ·cases h
 ·cases h
end Go.bz
end
section
namespace Go.bz
open Go.RowKit
def jP (F:Fence) (n:Nat) (P:Program) (c:Code) (Q:Exit→Act→World→Prop) (a:Act) (w:World):Prop:=
 ∀ I:Act→World→Prop,(∀ a w,c.wpIn F n P (Exit.then I Q) a w→I a w)→I a w
theorem xX {K K':Act→World→Prop} {Q Q':Exit→Act→World→Prop} (h1:∀ a w,K a w→K' a w) (h2:∀ e a w,Q e a w→Q' e a w):∀ e a w,Exit.then K Q e a w→Exit.then K' Q' e a w:=by
 intro e a w h;cases e<;>first | exact h1 _ _ h | exact h2 _ _ _ h
theorem jP.fold {F:Fence} {n:Nat} {P:Program} {c:Code} {Q:Exit→Act→World→Prop} {a:Act} {w:World} (h:c.wpIn F n P (Exit.then (jP F n P c Q) Q) a w):jP F n P c Q a w:=
 fun I hI=>hI a w (wpIn_mono h (xX (fun _ _ k=>k I hI) (fun _ _ _ k=>k)))
theorem jP.mono {F:Fence} {n:Nat} {P:Program} {c:Code} {Q Q':Exit→Act→World→Prop} {a:Act} {w:World} (hq:∀ e a w,Q e a w→Q' e a w) (h:jP F n P c Q a w):jP F n P c Q' a w:=
 fun I hI=>h I fun a w k=>hI a w (wpIn_mono k (xX (fun _ _ k=>k) hq))
theorem jP.wpIn {F:Fence} {n:Nat} {P:Program} {c:Code} {Q:Exit→Act→World→Prop} {a:Act} {w:World} (h:jP F n P c Q a w):(Code.loop c).wpIn F n P Q a w:=by
 intro b k cs hro hb hr
 have key:=h (fun a w=>∃ e a' w',Q e a' w'∧ArrivesIn (Machine.fenced P F) P (lone (b.atR a (.code c :: .inLoop c :: k)) cs w) b k cs e a' w') (fun a w hc=>by
  obtain ⟨e,a₁,w₁,hq,harr⟩:=hc b (.inLoop c :: k) cs hro hb hr
  cases e with
  | normal=>
   obtain ⟨e₂,a₂,w₂,hq₂,harr₂⟩:=hq
   exact ⟨e₂,a₂,w₂,hq₂,.of_steps (StepsIn.trans harr (.one (fenced_calm hb hr rfl) stepR_inLoop)) harr₂⟩
  | exit id=>exact ⟨_,a₁,w₁,hq,.pass (x:=.inLoop c) rfl (fun _ _=>.inl (by simp)) harr⟩
  | goto l=>exact ⟨_,a₁,w₁,hq,.pass (x:=.inLoop c) rfl (fun _ _=>.inl (by simp)) harr⟩
  | ret=>exact ⟨_,a₁,w₁,hq,.pass (x:=.inLoop c) rfl (fun _ _=>.inl (by simp)) harr⟩
  | panic ch=>exact ⟨_,a₁,w₁,hq,.pass (x:=.inLoop c) rfl (fun _ _=>.inl (by simp)) harr⟩
  | outgrown=>exact ⟨_,a₁,w₁,hq,.pass (x:=.inLoop c) rfl (fun _ _=>.inl (by simp)) harr⟩)
 obtain ⟨e,a',w',hq,harr⟩:=key
 exact ⟨e,a',w',hq,.of_steps (.one (fenced_calm hb hr rfl) stepR_loop) harr⟩
def cg (ι:aD) (F:Fence) (n:Nat) (P:Program) (Q:Exit→Act→World→Prop):List It→Exit→Act→World→Prop
 | [],e,a,w=>Q e a w
 | .code c :: k,.normal,a,w=>c.wpIn F n P (cg ι F n P Q k) a w
 | .now c :: k,.normal,a,w=>c.wpIn F n P (cg ι F n P Q k) a w
 | .lp c :: k,.normal,a,w=>jP F n P c (cg ι F n P Q k) a w
 | .ops all rest :: k,.normal,a,w=>wpListIn F n P all.toArray (cg ι F n P Q k) rest a w
 | .a6 id :: k,.exit j,a,w=>if j=id then cg ι F n P Q k .normal a w else cg ι F n P Q k (.exit j) a w
 | .begin l :: k,.normal,a,w=>∀ b z,ι.a6[l]?=some (b,z)→∃ w₂,(Instr.beginRound b).run P w=.ok () w₂∧cg ι F n P Q k .normal a w₂
 | .fin l :: k,.normal,a,w=>∀ b z,ι.a6[l]?=some (b,z)→∃ jump w₄,(Instr.endLoop b).run P w=.ok jump w₄∧
   (match jump with | none=>cg ι F n P Q k .normal a w₄ | some c=>c.wpIn F n P (cg ι F n P Q k) a w₄)
 | .Ni :: _,.goto _,_,_=>False
 | .begin _ :: _,_,_,_=>False
 | .fin _ :: _,_,_,_=>False
 | _ :: k,e,a,w=>cg ι F n P Q k e a w
theorem iC {F:Fence} {n:Nat} {P:Program} {ops:Array Oper} {Q Q':Exit→Act→World→Prop} (hq:∀ e a w,Q e a w→Q' e a w):∀ (l:List Oper) (a:Act) (w:World),
  wpListIn F n P ops Q l a w→wpListIn F n P ops Q' l a w
 | [],_,_,h=>hq _ _ _ h
 | o :: l,a,w,h=>by
  unfold wpListIn at *
  split
  ·rename_i hw
   rw [if_pos hw] at h
   obtain ⟨ha,h⟩:=h
   refine ⟨ha,?_⟩
   have ih:=iC (F:=F) (n:=n) (P:=P) (ops:=ops) hq l
   have hlo:LetsOut Q→LetsOut Q':=fun ⟨a,w,h⟩=>⟨a,w,hq _ _ _ h⟩
   generalize (o.semAt F.round a.eval).run P w=r at h ⊢
   cases r with
   | ok x w'=>
    cases x<;>first
     | exact ih _ _ h
     | exact h
     | (refine ⟨h.1,h.2.mono ?_⟩;intro e w'' k;cases e<;>first | exact ih _ _ k | exact hq _ _ _ k | exact hlo k)
     | (refine ⟨h.1,h.2.mono ?_⟩;intro e w'' k;exact ih _ _ k)
   | halt x w'=>cases x<;>first | exact hq _ _ _ h | exact h
  ·rename_i hw
   rw [if_neg hw] at h
   exact ⟨h.1,iC hq l _ _ h.2⟩
theorem eg {ι ι':aD} {F:Fence} {n:Nat} {P:Program} {Q Q':Exit→Act→World→Prop} (hb:∀ (i:Nat) x,ι.a6[i]?=some x→ι'.a6[i]?=some x) (hq:∀ e a w,Q e a w→Q' e a w):
  ∀ (k:List It) (e:Exit) (a:Act) (w:World),cg ι' F n P Q k e a w→cg ι F n P Q' k e a w
 | [],e,a,w,h=>hq _ _ _ h
 | it :: k,e,a,w,h=>by
  have ih:=eg (F:=F) (n:=n) (P:=P) hb hq k
  cases it with
  | code c=>cases e<;>first | exact ih _ _ _ h | exact wpIn_mono h ih
  | now c=>cases e<;>first | exact ih _ _ _ h | exact wpIn_mono h ih
  | lp c=>cases e<;>first | exact ih _ _ _ h | exact jP.mono ih h
  | ops all rest=>cases e<;>first | exact ih _ _ _ h | exact iC ih _ _ _ h
  | Ni=>cases e<;>first | exact h.elim | exact ih _ _ _ h
  | a6 id=>
   cases e<;>first | exact ih _ _ _ h | skip
   simp only [cg] at h ⊢
   split
   ·rename_i e;rw [if_pos e] at h;exact ih _ _ _ h
   ·rename_i e;rw [if_neg e] at h;exact ih _ _ _ h
  | begin l=>
   cases e<;>first | exact h | skip
   intro b z e
   obtain ⟨w₂,h1,h2⟩:=h b z (hb _ _ e)
   exact ⟨w₂,h1,ih _ _ _ h2⟩
  | fin l=>
   cases e<;>first | exact h | skip
   intro b z e
   obtain ⟨j,w₄,h1,h2⟩:=h b z (hb _ _ e)
   refine ⟨j,w₄,h1,?_⟩
   cases j with
   | none=>exact ih _ _ _ h2
   | some c=>exact wpIn_mono h2 ih
def JW (b:Nat):Deferred:={target:=.collected b,args:=#[]}
def sq (ι:aD) (D:List Nat) (ds:List Deferred):Prop:=a4 (fun d (x:Deferred)=>∃ b z,ι.a6[d]?=some (b,z)∧x=JW b) D ds
def PO (ι:aD) (bs:List Nat):Prop:=bs.Nodup∧∀ b∈bs,ι.a5 b=some (.deferred (some []))∧ι.w0.heap.size≤b
def gM (t:Bool) (ι:aD) (D:List Nat) (ds:List Deferred):Prop:=∃ ds1 bs,ds=ds1++bs.map JW∧sq ι D ds1∧(t=false→bs=[])∧PO ι bs
theorem sq.mono {ι ι':aD} (h:Ext ι ι') {D:List Nat} {ds:List Deferred} (k:sq ι D ds):sq ι' D ds:=
 a4.imp (fun _ _ ⟨b,z,e,h'⟩=>⟨b,z,h.a6 _ _ e,h'⟩) k
theorem PO.mono {ι ι':aD} (h:Ext ι ι') {bs:List Nat} (k:PO ι bs):PO ι' bs:=
 ⟨k.1,fun b hb=>⟨h.a5 _ _ (k.2 b hb).1,by rw [h.w0];exact (k.2 b hb).2⟩⟩
theorem gM.mono {t:Bool} {ι ι':aD} (h:Ext ι ι') {D:List Nat} {ds:List Deferred} (k:gM t ι D ds):gM t ι' D ds:=by
 obtain ⟨ds1,bs,e,k1,k2,k3⟩:=k
 exact ⟨ds1,bs,e,k1.mono h,k2,k3.mono h⟩
theorem gM.nil {t:Bool} {ι:aD}:gM t ι [] []:=⟨[],[],rfl,.nil,fun _=>rfl,.nil,fun b hb=>by cases hb⟩
theorem gM.cons {t:Bool} {ι:aD} {d:Nat} {D:List Nat} {ds:List Deferred} {b z:Nat} (h:ι.a6[d]?=some (b,z)) (k:gM t ι D ds):gM t ι (d :: D) (JW b :: ds):=by
 obtain ⟨ds1,bs,e,k1,k2,k3⟩:=k
 exact ⟨JW b :: ds1,bs,by rw [e];rfl,.cons ⟨b,z,h,rfl⟩ k1,k2,k3⟩
def Env.je (E:Env) (k:FK):Bool:=E.Ea&&Ds k
abbrev D9:=Exit→List AV→List Nat→av→Prop
structure sE (β:Nat) (ι ι':aD):Prop where
 w0:ι'.w0=ι.w0
 a5:∀ b o,ι.a5 b=some o→ι'.a5 b=some o
 a6:∀ (i:Nat) x,i < β→ι.a6[i]?=some x→ι'.a6[i]?=some x
 fI:∀ b,b < ι.w0.heap.size→ι'.a5 b=ι.a5 b
theorem sE.refl (β:Nat) (ι:aD):sE β ι ι:=⟨rfl,fun _ _ h=>h,fun _ _ _ h=>h,fun _ _=>rfl⟩
theorem sE.after {β:Nat} {a b c:aD} (h:Ext a b) (k:sE β b c):sE β a c:=
 ⟨k.w0.trans h.w0,fun x o e=>k.a5 x o (h.a5 x o e),fun i x hi e=>k.a6 i x hi (h.a6 i x e),fun x hx=>(k.fI x (by rw [h.w0];exact hx)).trans (h.fI x hx)⟩
theorem sE.full {β:Nat} {a b:aD} (h:sE β a b) (hl:β=a.a6.length):Ext a b:=
 ⟨h.w0,h.a5,fun i x e=>h.a6 i x (by rw [hl];exact fL.lt e) e,h.fI⟩
def lift (E:Env) (t:Bool) (β:Nat) (ι:aD) (p:D9):Exit→Act→World→Prop:=fun e a w=>∃ ι' T D H,sE β ι ι'∧fK E ι' T H a w∧gM t ι' D a.defers∧p e T D H
theorem gX {E:Env} {t:Bool} {β:Nat} {ι ι':aD} {p:D9} (h:Ext ι ι'):∀ e a w,lift E t β ι' p e a w→lift E t β ι p e a w:=
 fun _ _ _ ⟨ι2,T,D,H,e,k⟩=>⟨ι2,T,D,H,sE.after h e,k⟩
def pZ (ι:aD) (l:Nat):Nat:=match ι.a6[l]? with | some (b,_)=>b | none=>0
def aL (ι:aD):FK→Fence
 | .round l _=>Fence.wide.inRound (pZ ι l)
 | _=>Fence.wide
def Ec (ι:aD):FK→Prop
 | .round l _=>∃ b z,ι.a6[l]?=some (b,z)
 | _=>True
theorem ec {ι ι':aD} (h:Ext ι ι') {k:FK} (hk:Ec ι k):aL ι' k=aL ι k:=by
 cases k<;>first | rfl | skip
 obtain ⟨b,z,e⟩:=hk
 simp only [aL,pZ,e,h.a6 _ _ e]
theorem Ec.mono {ι ι':aD} (h:Ext ι ι') {k:FK} (hk:Ec ι k):Ec ι' k:=by
 cases k<;>first | trivial | skip
 obtain ⟨b,z,e⟩:=hk
 exact ⟨b,z,h.a6 _ _ e⟩
theorem fK.mono {E:Env} {ι ι':aD} {T:List AV} {H H':av} {a:Act} {w w':World} (r:fK E ι T H a w) (h:Ext ι ι') (hh:aR ι' H' w'):fK E ι' T H' a w':=
 ⟨hh,a4.imp (fun _ _=>cU h) r.tmps,r.cQ.mono h⟩
def ic (E:Env) (fr:Fr) (p:D9) (H:av):Prop:=
 ∀ n ι a w,fK E ι fr.T H a w→gM (E.je fr.kind) ι fr.D a.defers→Ec ι fr.kind→cg ι (aL ι fr.kind) n E.P (lift E (E.je fr.kind) fr.base ι p) fr.items .normal a w
def rH:Exit→Option (Option Code)
 | .normal=>some none
 | .ret=>some (some .ret)
 | .exit j=>some (some (.exit j))
 | _=>none
def KW (E:Env) (Q:AV→av→Prop):List Fr→FK→FuncId→D9
 | bm,kind,f=>fun e T D H=>
  match kind,bm with
  | .round l dst,fr' :: stk'=>∃ j,rH e=some j∧D=[]∧∃ s p g T0 ps c b d,H[l]?=some (.loop s p g T0 ps c b d)∧
    ic E {fr' with T:=b7 fr'.T dst (.bool j.isNone)} (KW E Q stk' fr'.kind fr'.id) (H.set l (.loop (if j.isNone then .ready else .done) j g T0 ps c b d))
  | kind,bm=>(∃ j,rH e=some j∧Hl j=true)∧∃ fn H' q v,E.fns f=some fn∧gq H D=some H'∧Et E H' T fn=some (q,v)∧holds q∧
    match kind,bm with
    | .top,[]=>Q v H'
    | .call dst,fr' :: stk'=>ic E {fr' with T:=b7 fr'.T dst v} (KW E Q stk' fr'.kind fr'.id) H'
    | .iter _,fr' :: stk'=>ic E fr' (KW E Q stk' fr'.kind fr'.id) H'
    | _,_=>False
def WW (E:Env) (Q:AV→av→Prop):cM:=fun fr bm H=>ic E fr (KW E Q bm fr.kind fr.id) H
end Go.bz
end
section
namespace Go.bz
open Go.RowKit
variable {E:Env} {ι:aD} {T:List AV} {H:av} {a:Act} {w:World}
def bp (c:TC) (x:c.den):List AV:=
 match c with
 | .unit=>[]
 | c=>(c.both x).2
def wD (pr:Nat→Option Obj) (w w':World):Nat→Option Obj:=fun b=>if b < w.heap.size then pr b else w'.heap[b]?
def FB (e:Own) (w w':World):(c:TC)→c.den→Value→Prop
 | .slice c,xs,v=>c.flat=true∧∃ t,e=.row t∧∃ b k cells l r,v=.slice (some ⟨b,0,none⟩) xs.length k∧w.heap.size≤b∧w'.heap[b]?=some (.cells cells t (0,0))∧cells.toList=l++r∧
   bX (bO ⟨w,fun _=>none,⟨[]⟩⟩ c) xs l∧xs.length≤k∧k * c.size≤cells.size
 | .bC,_,v=>∃ es,e=.mp es∧∃ b ents clock,v=.map (some b)∧w.heap.size≤b∧w'.heap[b]?=some (.map ents clock)∧
   ∀ ι,a4 (fun (e:AV×AV) (c:MapEntry)=>b5 ι e.1 c.key∧b5 ι e.2 c.val) es ents.toList
 | _,_,_=>False
def ah (E:Env) (f:FuncId) (sp:Spec):Prop:=
 ∀ (x:sp.eX.den) (w:World) (pr:Nat→Option Obj) (args:List Value),sp.pre x→(∀ b o,pr b=some o→w.heap[b]?=some o)→dc E ⟨w,pr,⟨[]⟩⟩→
  a4 (au ⟨w,pr,⟨[]⟩⟩) (bp sp.eX x) args→
  iB E.P f args.toArray w fun c w'=>Below w.heap.size w w'∧au ⟨w,wD pr w w',⟨[]⟩⟩ (l9 sp.n sp.cB (sp.f x)) c∧∀ e,sp.own=some e→FB e w w' sp.cB (sp.f x) c
theorem MQ:∀ (c:TC) (v:AV) (x:c.den),c.back.1 v=some x→dM v=dM (sA c x)∧pn v=true:=by
 intro c
 cases c<;>intro v x h<;>simp only [TC.back] at h<;>(split at h<;>first | exact ⟨rfl,rfl⟩ | cases h | skip)
 rename_i hv
 cases v<;>first | exact ⟨rfl,rfl⟩ | cases hv
theorem rP {c:TC} {v:AV} {x:c.den} {u:Value} (h:c.back.1 v=some x) (k:au ι v u):au ι (sA c x) u:=by
 obtain ⟨h1,h2⟩:=MQ c v x h
 cases ha:dM v with
 | true=>
  obtain ⟨cs,hr,rfl⟩:=k.agg ha
  exact fT (h1▸ha) (eD.2 (nz h hr))
 | false=>exact aC (h1▸ha) (eD.2 (nz h (k.one ha (jc h2))))
theorem fw:∀ (c:TC) (vs:List AV) (x:c.den) (us:List Value),c.back.2 vs=some x→a4 (au ι) vs us→a4 (au ι) (c.both x).2 us:=by
 have one:∀ (c:TC) (vs:List AV) (x:c.den) (us:List Value),oneOf c.back.1 vs=some x→a4 (au ι) vs us→a4 (au ι) [sA c x] us:=by
  intro c vs x us h k
  obtain ⟨v,rfl,hv⟩:=jA h
  obtain ⟨u,_,rfl,h1,h2⟩:=k.cons_inv
  cases h2
  exact .cons (rP hv h1) .nil
 intro c
 induction c with
 | st a r iha ihr=>
  intro vs x us h k
  simp only [TC.back] at h
  split at h
  ·rename_i v l
   split at h
   ·rename_i y hy
    split at h
    ·rename_i z hz
     simp only [Option.some.injEq] at h;subst h
     obtain ⟨u,us',rfl,h1,h2⟩:=k.cons_inv
     simp only [TC.both]
     exact .cons (rP hy h1) (ihr _ _ _ hz h2)
    ·cases h
   ·cases h
  ·cases h
 | bu a iha=>intro vs x us h k;exact one a vs x us h k
 | int k=>intro vs x us h k';exact one (.int k) vs x us h k'
 | bool=>intro vs x us h k';exact one .bool vs x us h k'
 | str=>intro vs x us h k';exact one .str vs x us h k'
 | unit=>intro vs x us h k';exact one .unit vs x us h k'
 | slice c _=>intro vs x us h k';exact one (.slice c) vs x us h k'
 | arr n c _=>intro vs x us h k';exact one (.arr n c) vs x us h k'
 | ref c _=>intro vs x us h k';exact one (.ref c) vs x us h k'
 | bC=>intro vs x us h k';exact one .bC vs x us h k'
theorem p6 {c:TC} {vs:List AV} {x:c.den} {us:List Value} (h:mK c vs=some x) (k:a4 (au ι) vs us):a4 (au ι) (bp c x) us:=by
 cases c with
 | unit=>
  cases vs with
  | nil=>cases k;exact .nil
  | cons v vs=>simp [mK] at h
 | int kk=>exact fw (.int kk) vs x us h k
 | bool=>exact fw .bool vs x us h k
 | str=>exact fw .str vs x us h k
 | st a r=>exact fw (.st a r) vs x us h k
 | bu a=>exact fw (.bu a) vs x us h k
 | slice c=>exact fw (.slice c) vs x us h k
 | arr n c=>exact fw (.arr n c) vs x us h k
 | ref c=>exact fw (.ref c) vs x us h k
 | bC=>exact fw .bC vs x us h k
end Go.bz
end
section
namespace Go.bz
open Go.RowKit
variable {E:Env} {ι:aD} {T:List AV} {H:av} {a:Act} {w:World}
def iN (ι ι':aD):Prop:=∀ b o,ι.a5 b=some o→ι'.a5 b=some o
theorem dv {ι ι':aD}:∀ (c:TC),(c.flat=true∨iN ι ι')→∀ (x:c.den) (cs:List Value),bO ι c x cs→bO ι' c x cs
 | .int _,_,_,_,k=>k
 | .bool,_,_,_,k=>k
 | .str,_,_,_,k=>k
 | .unit,_,_,_,k=>k
 | .st a r,h,_,_,⟨l,m,e,k1,k2⟩=>
  have h':(a.flat=true∧r.flat=true)∨iN ι ι':=h.imp (fun h=>by simpa [TC.flat] using h) id
  ⟨l,m,e,dv a (h'.imp (·.1) id) _ _ k1,dv r (h'.imp (·.2) id) _ _ k2⟩
 | .bu a,h,_,_,k=>dv a h _ _ k
 | .slice _,_,_,_,⟨v,e,.inl k⟩=>⟨v,e,.inl k⟩
 | .slice c,h,_,_,⟨v,e,.inr ⟨b,off,kk,cells,t,fz,l,e1,hk,hp,hr,ha⟩⟩=>
  have h':iN ι ι':=h.resolve_left (by simp [TC.flat])
  ⟨v,e,.inr ⟨b,off,kk,cells,t,fz,l,e1,hk,h' _ _ hp,hr.mono (fun x l=>dv c (.inr h') x l),ha⟩⟩
 | .arr _ c,h,_,_,⟨hn,hr⟩=>⟨hn,hr.mono (fun x l=>dv c h x l)⟩
 | .ref c,h,_,_,⟨b,off,cells,t,fz,l,e,hp,hr,ha⟩=>
  have h':iN ι ι':=h.resolve_left (by simp [TC.flat])
  ⟨b,off,cells,t,fz,l,e,h' _ _ hp,dv c (.inr h') _ _ hr,ha⟩
 | .bC,_,_,_,k=>k
theorem FC:∀ (c:TC) (x:c.den),pn (sA c x)=true:=by intro c x;cases c<;>rfl
theorem rO {ι ι':aD} {c:TC} {x:c.den} {u:Value} (h:c.flat=true∨iN ι ι') (k:au ι (sA c x) u):au ι' (sA c x) u:=by
 cases ha:dM (sA c x) with
 | true=>
  obtain ⟨cs,hr,rfl⟩:=k.agg ha
  exact fT ha (eD.2 (dv c h _ _ (eD.1 hr)))
 | false=>exact aC ha (eD.2 (dv c h _ _ (eD.1 (k.one ha (jc (FC c x))))))
theorem fv {ι ι':aD}:∀ (c:TC),(c.flat=true∨iN ι ι')→∀ (x:c.den) (us:List Value),a4 (au ι) (c.both x).2 us→a4 (au ι') (c.both x).2 us:=by
 have one:∀ (c:TC),(c.flat=true∨iN ι ι')→∀ (x:c.den) (us:List Value),a4 (au ι) [sA c x] us→a4 (au ι') [sA c x] us:=by
  intro c h x us k
  obtain ⟨u,_,rfl,k1,k2⟩:=k.cons_inv
  cases k2
  exact .cons (rO h k1) .nil
 intro c
 induction c with
 | st a r _ ihr=>
  intro h x us k
  have h':(a.flat=true∧r.flat=true)∨iN ι ι':=h.imp (fun h=>by simpa [TC.flat] using h) id
  simp only [TC.both] at k ⊢
  obtain ⟨u,us',rfl,k1,k2⟩:=k.cons_inv
  exact .cons (rO (c:=a) (h'.imp (·.1) id) k1) (ihr (h'.imp (·.2) id) _ _ k2)
 | bu a _=>intro h x us k;exact one a h x us k
 | int k=>intro h x us k';exact one (.int k) h x us k'
 | bool=>intro h x us k';exact one .bool h x us k'
 | str=>intro h x us k';exact one .str h x us k'
 | unit=>intro h x us k';exact one .unit h x us k'
 | slice c _=>intro h x us k';exact one (.slice c) h x us k'
 | arr n c _=>intro h x us k';exact one (.arr n c) h x us k'
 | ref c _=>intro h x us k';exact one (.ref c) h x us k'
 | bC=>intro h x us k';exact one .bC h x us k'
theorem j7 {ι ι':aD} {c:TC} {x:c.den} {us:List Value} (h:c.flat=true∨iN ι ι') (k:a4 (au ι) (bp c x) us):a4 (au ι') (bp c x) us:=by
 cases c with
 | unit=>cases k;exact .nil
 | int kk=>exact fv (.int kk) h x us k
 | bool=>exact fv .bool h x us k
 | str=>exact fv .str h x us k
 | st a r=>exact fv (.st a r) h x us k
 | bu a=>exact fv (.bu a) h x us k
 | slice c=>exact fv (.slice c) h x us k
 | arr n c=>exact fv (.arr n c) h x us k
 | ref c=>exact fv (.ref c) h x us k
 | bC=>exact fv .bC h x us k
theorem BM:∀ (c:TC) (x:c.den),∀ v∈(c.both x).2,pn v=true:=by
 intro c
 induction c with
 | st a r _ ihr=>intro x v hv;simp only [TC.both,List.mem_cons] at hv;rcases hv with rfl | hv;exact FC a x.1;exact ihr _ v hv
 | bu a _=>intro x v hv;simp only [TC.both,List.mem_singleton] at hv;subst hv;exact FC a x
 | _=>intro x v hv;simp only [TC.both,List.mem_singleton] at hv;subst hv;rfl
theorem qc {vs:List AV} {us:List Value} (h:∀ v∈vs,pn v=true):a4 (b5 ι) vs us↔a4 (au ι) vs us:=by
 constructor
 ·intro k
  induction k with
  | nil=>exact .nil
  | cons h1 _ ih=>exact .cons ((fq (jc (h _ (by simp)))).2 h1) (ih fun v hv=>h v (by simp [hv]))
 ·intro k
  induction k with
  | nil=>exact .nil
  | cons h1 _ ih=>exact .cons ((fq (jc (h _ (by simp)))).1 h1) (ih fun v hv=>h v (by simp [hv]))
theorem na {ι ι':aD} {n:Nat} {c:TC} {x:c.den} {u:Value} (h:c.flat=true∨iN ι ι') (k:au ι (l9 n c x) u):au ι' (l9 n c x) u:=by
 unfold l9 at *
 split
 ·rename_i e;rw [if_pos e] at k;exact rO h k
 ·rename_i e;rw [if_neg e] at k
  split
  ·rename_i e';rw [if_pos e'] at k;obtain ⟨l,rfl,k⟩:=k;cases k;exact ⟨[],rfl,.nil⟩
  ·rename_i e';rw [if_neg e'] at k
   obtain ⟨l,rfl,k⟩:=k
   exact ⟨l,rfl,(qc (BM c x)).2 (fv c h x l ((qc (BM c x)).1 k))⟩
theorem iB.mono {P:Program} {f:FuncId} {args:Array Value} {R R':Value→World→Prop} (h:iB P f args w R) (hr:∀ c w',R c w'→R' c w'):iB P f args w R':=by
 rcases h with ⟨v,h1,h2⟩ | ⟨h1,h2⟩
 ·exact .inl ⟨v,h1,hr _ _ h2⟩
 ·exact .inr ⟨h1,h2.mono fun e w' ⟨v,he,k⟩=>⟨v,he,hr _ _ k⟩⟩
theorem x4 {f:FuncId} {sp:Spec} (hsp:ah E f sp) (hfl:sp.cB.flat=true) {vs us:List AV} {q:List Prop} {x:sp.eX.den} {args:List Value} (hv:views H vs=some (q,us)) (hq:holds q)
  (hx:mK sp.eX us=some x) (hp:sp.pre x) (r:aR ι H w) (hg:dc E ι) (ha:a4 (au ι) vs args):
  iB E.P f args.toArray w fun c w'=>∃ ι',Ext ι ι'∧aR ι' H w'∧au ι' (l9 sp.n sp.cB (sp.f x)) c:=by
 have hS:Sub ι (ι.all w):=⟨fun b _ _ _ e=>r.a5 b _ e,fun _ _ h=>h⟩
 have h1:=jw r hS vs us q args (fun o _ own t v b z _ _=>rfl) hv hq ha
 have h2:=p6 hx h1
 have h3:a4 (au ⟨w,fun b=>w.heap[b]?,⟨[]⟩⟩) (bp sp.eX x) args:=j7 (ι:=ι.all w) (.inr fun b o e=>e) h2
 refine (hsp x w (fun b=>w.heap[b]?) args hp (fun b o e=>e) (hg.sub r.a5) h3).mono ?_
 ·intro c w' ⟨hB,hr,_⟩
  exact ⟨ι.grown w w',r.ju w',r.grown hB,na (.inl hfl) hr⟩
theorem x3 {f:FuncId} {sp:Spec} (hsp:ah E f sp) {vs us:List AV} {q:List Prop} {x:sp.eX.den} {args:List Value} {H':av} (hf:eu H (cW vs)=some H') (hv:views H' vs=some (q,us)) (hq:holds q)
  (hx:mK sp.eX us=some x) (hp:sp.pre x) (r:aR ι H w) (hg:dc E ι) (ha:a4 (au ι) vs args):
  iB E.P f args.toArray w fun c w'=>∃ ι',Ext ι ι'∧aR ι' H' w'∧au ι' (l9 sp.n sp.cB (sp.f x)) c:=by
 obtain ⟨ι1,hE1,r1,_,hfr⟩:=gC _ hf r
 have h1:=jw r1 (ι':=ι1) ⟨fun _ _ _ _ h=>h,fun _ _ h=>h⟩ vs us q args (fun o ho own t v b z e1 e2=>by
  obtain ⟨t',v',e⟩:=hfr o ho
  rw [e1] at e;cases e
  obtain ⟨cells,fz,l,rr,k1,k2,k3,k4,k5⟩:=r1.obj _ _ _ _ e1 e2
  have k5:ι1.a5 b=some (.cells cells t fz):=k5
  rw [k5,k1]) hv hq (a4.imp (fun _ _=>cU hE1) ha)
 have h2:=p6 hx h1
 have h3:a4 (au ⟨w,ι1.a5,⟨[]⟩⟩) (bp sp.eX x) args:=j7 (ι:=ι1) (.inr fun b o e=>e) h2
 refine (hsp x w ι1.a5 args hp r1.a5 (hg.sub hE1.a5) h3).mono ?_
 ·intro c w' ⟨hB,hr,_⟩
  exact ⟨ι1.grown w w',hE1.trans (r1.ju w'),r1.grown hB,na (ι:=⟨w,wD ι1.a5 w w',⟨[]⟩⟩) (.inr fun b o e=>e) hr⟩
theorem aR.PL {w':World} (h:aR ι H w) (hB:Below w.heap.size w w') {b z:Nat} {x:aV} (hb:w.heap.size≤b) (hlt:b < w'.heap.size)
  (hx:∀ ι',fj ι' w' b z x) (hne:x≠.hole:=by exact nofun):
  ∃ ι',Ext ι ι'∧aR ι' (H++[x]) w'∧ι'.a6[H.length]?=some (b,z):=by
 have hsz:w.heap.size≤w'.heap.size:=hB.size
 let ι':aD:={ι with a5:=fun k=>if k=b then none else if k < w.heap.size then ι.a5 k else w'.heap[k]?,a6:=ι.a6.push (b,z)}
 have hE:Ext ι ι':=⟨rfl,fun k o e=>by
   have hk:=h.ft e
   show (if k=b then none else if k < w.heap.size then ι.a5 k else w'.heap[k]?)=some o
   rw [if_neg (by omega),if_pos hk];exact e,fun i y e=>by
   show (ι.a6.push (b,z))[i]?=some y
   rw [fL.jV (fL.lt e)];exact e,fun k hk=>by
   have hs:=h.base.size
   show (if k=b then none else if k < w.heap.size then ι.a5 k else w'.heap[k]?)=ι.a5 k
   rw [if_neg (by omega),if_pos (by omega)]⟩
 have hprot:∀ k o,ι.a5 k=some o→w'.heap[k]?=some o:=fun k o e=>by rw [hB.block k (h.ft e)];exact h.a5 _ _ e
 have fI:∀ {i:Nat} {b' z':Nat} {y:aV},(H++[x])[i]?=some y→(ι.a6.push (b,z))[i]?=some (b',z')→
   (H[i]?=some y∧ι.a6[i]?=some (b',z'))∨(i=H.length∧y=x∧b'=b∧z'=z):=by
  intro i b' z' y e1 e2
  rcases Nat.lt_or_ge i H.length with hi | hi
  ·left
   rw [List.getElem?_append_left hi] at e1
   rw [fL.jV (h.len▸hi)] at e2
   exact ⟨e1,e2⟩
  ·right
   have:i < (H++[x]).length:=(List.getElem?_eq_some_iff.1 e1).1
   simp at this
   have hi':i=H.length:=by omega
   subst hi'
   simp at e1
   rw [h.len,fL.o3] at e2
   cases e2
   exact ⟨rfl,e1.symm,rfl,rfl⟩
 refine ⟨ι',hE,⟨h.fY.app hne _,?_,?_,?_,?_,?_⟩,by rw [h.len];exact fL.o3⟩
 ·intro k o e
  have e:(if k=b then none else if k < w.heap.size then ι.a5 k else w'.heap[k]?)=some o:=e
  split at e
  ·cases e
  ·split at e
   ·exact hprot k o e
   ·exact e
 ·intro i y b' z' e1 e2
  rcases fI e1 e2 with ⟨k1,k2⟩ | ⟨rfl,rfl,rfl,rfl⟩
  ·exact dw hE (fun ho=>hB.block _ (h.own _ _ _ _ k1 ho k2).2.1) hprot (h.obj _ _ _ _ k1 k2)
  ·exact hx _
 ·intro i y b' z' e1 ho e2
  rcases fI e1 e2 with ⟨k1,k2⟩ | ⟨rfl,rfl,rfl,rfl⟩
  ·have:=h.own _ _ _ _ k1 ho k2
   refine ⟨?_,by omega,this.2.2⟩
   show (if b'=b then none else if b' < w.heap.size then ι.a5 b' else w'.heap[b']?)=none
   rw [if_neg (by omega),if_pos this.2.1];exact this.1
  ·refine ⟨?_,hlt,Nat.le_trans h.base.size hb⟩
   show (if b'=b' then none else _)=none
   rw [if_pos rfl]
 ·intro i j y y' b' z1 z2 e1 o1 e2 o2 b1 b2
  rcases fI e1 b1 with ⟨k1,k2⟩ | ⟨rfl,rfl,hb',_⟩
  ·rcases fI e2 b2 with ⟨k3,k4⟩ | ⟨rfl,rfl,hb',_⟩
   ·exact h.sep _ _ _ _ _ _ _ k1 o1 k3 o2 k2 k4
   ·have:=(h.own _ _ _ _ k1 o1 k2).2.1;omega
  ·rcases fI e2 b2 with ⟨k3,k4⟩ | ⟨rfl,rfl,_,_⟩
   ·have:=(h.own _ _ _ _ k3 o2 k4).2.1;omega
   ·rfl
 ·exact h.base.trans (hB.mono h.base.size)
theorem Ca {f:FuncId} {sp:Spec} (hsp:ah E f sp) {e:Own} (ho:sp.own=some e) {vs us:List AV} {q:List Prop} {x:sp.eX.den} {args:List Value} {H':av} {v:AV} {ob:aV} (hf:eu H (cW vs)=some H')
  (hv:views H' vs=some (q,us)) (hq:holds q) (hx:mK sp.eX us=some x) (hp:sp.pre x) (hown:LV e H'.length sp.cB (sp.f x)=some (v,ob)) (r:aR ι H w) (hg:dc E ι) (ha:a4 (au ι) vs args):
  iB E.P f args.toArray w fun c w'=>∃ ι',Ext ι ι'∧aR ι' (H'++[ob]) w'∧au ι' v c:=by
 obtain ⟨ι1,hE1,r1,_,hfr⟩:=gC _ hf r
 have h1:=jw r1 (ι':=ι1) ⟨fun _ _ _ _ h=>h,fun _ _ h=>h⟩ vs us q args (fun o ho own t v b z e1 e2=>by
  obtain ⟨t',v',e⟩:=hfr o ho
  rw [e1] at e;cases e
  obtain ⟨cells,fz,l,rr,k1,k2,k3,k4,k5⟩:=r1.obj _ _ _ _ e1 e2
  have k5:ι1.a5 b=some (.cells cells t fz):=k5
  rw [k5,k1]) hv hq (a4.imp (fun _ _=>cU hE1) ha)
 have h2:=p6 hx h1
 have h3:a4 (au ⟨w,ι1.a5,⟨[]⟩⟩) (bp sp.eX x) args:=j7 (ι:=ι1) (.inr fun b o e=>e) h2
 refine (hsp x w ι1.a5 args hp r1.a5 (hg.sub hE1.a5) h3).mono ?_
 intro c w' ⟨hB,_,hres⟩
 have hres:=hres e ho
 revert hown hres
 generalize sp.f x=y
 revert y
 generalize sp.cB=cd
 intro y hown hres
 cases cd<;>first | (cases hres;done) | skip
 ·rename_i c0
  obtain ⟨hfl,t,rfl,b,k,cells,l,rr,rfl,hb,hw,hcl,hrep,hk,hkz⟩:=hres
  simp only [LV,Option.some.injEq,Prod.mk.injEq] at hown
  obtain ⟨rfl,rfl⟩:=hown
  have hlt:b < w'.heap.size:=(Array.getElem?_eq_some_iff.1 hw).1
  obtain ⟨ι',hE,hH,hblk⟩:=r1.PL hB hb hlt (z:=cells.size) (x:=.cell true t (.arr (List.length y) c0 y)) (fun ι'=>⟨cells,(0,0),l,rr,hw,hcl,rfl,by
   rw [aQ];exact ⟨rfl,hrep.mono fun x l h=>dv c0 (.inl hfl) x l h⟩,rfl⟩)
  refine ⟨ι',hE1.trans hE,hH,aC rfl ?_⟩
  rw [aQ]
  exact ⟨b,cells.size,k,hblk,by simp [aJ],hk,by simpa [aJ] using hkz,by simp⟩
 ·obtain ⟨es,rfl,b,ents,clock,rfl,hb,hw,hes⟩:=hres
  simp only [LV,Option.some.injEq,Prod.mk.injEq] at hown
  obtain ⟨rfl,rfl⟩:=hown
  have hlt:b < w'.heap.size:=(Array.getElem?_eq_some_iff.1 hw).1
  obtain ⟨ι',hE,hH,hblk⟩:=r1.PL hB hb hlt (z:=0) (x:=.map es) (fun ι'=>⟨ents,clock,hw,hes ι'⟩)
  refine ⟨ι',hE1.trans hE,hH,aC rfl ?_⟩
  rw [aQ]
  exact ⟨b,0,hblk,rfl⟩
theorem Km {v u:AV} {q:List Prop} {H2:av} {c:Value} (h:Kn H v=some (q,u,H2)) (hq:holds q) (r:aR ι H w) (k:au ι v c):∃ ι',Ext ι ι'∧aR ι' H2 w∧au ι' u c:=by
 have seen:∀ {os:List Nat} {ι1:aD} {H1:av},aR ι1 H1 w→(∀ o∈os,∃ t v,H1[o]?=some (aV.cell false t v))→Seen ι1 ι1 w H1 os:=by
  intro os ι1 H1 r1 hfr o ho own t v b z e1 e2
  obtain ⟨t',v',e⟩:=hfr o ho
  rw [e1] at e;cases e
  obtain ⟨cells,fz,l,rr,k1,k2,k3,k4,k5⟩:=r1.obj _ _ _ _ e1 e2
  have k5:ι1.a5 b=some (.cells cells t fz):=k5
  rw [k5,k1]
 unfold Kn at h
 split at h
 ·rename_i vs
  split at h
  ·rename_i H1 hf
   split at h
   ·rename_i q' us hv
    split at h
    ·rename_i hnt
     simp only [Option.some.injEq,Prod.mk.injEq] at h;obtain ⟨rfl,rfl,rfl⟩:=h
     obtain ⟨ι1,hE1,r1,_,hfr⟩:=gC _ hf r
     obtain ⟨l,rfl,kl⟩:=cU hE1 k
     have h1:=jw r1 (ι':=ι1) ⟨fun _ _ _ _ h=>h,fun _ _ h=>h⟩ vs us q' l (seen r1 hfr) hv hq (a4.imp (fun _ _=>kY) kl)
     exact ⟨ι1,hE1,r1,l,rfl,(qc fun v hv=>List.all_eq_true.1 hnt v hv).2 h1⟩
    ·cases h
   ·cases h
  ·cases h
 ·split at h
  ·rename_i H1 hf
   split at h
   ·rename_i q' u' hv
    simp only [Option.some.injEq,Prod.mk.injEq] at h;obtain ⟨rfl,rfl,rfl⟩:=h
    obtain ⟨ι1,hE1,r1,_,hfr⟩:=gC _ hf r
    exact ⟨ι1,hE1,r1,u3 r1 ⟨fun _ _ _ _ h=>h,fun _ _ h=>h⟩ (seen r1 hfr) hv hq (cU hE1 k)⟩
   ·cases h
  ·cases h
end Go.bz
end
section
namespace Go.bz
open Go.RowKit
variable {E:Env} {ι:aD} {T:List AV} {H:av} {a:Act} {w:World}
theorem Bn {f:FuncId} {caps:List AV} {c:Value} (h:au ι (.fn f caps) c):∃ l:List Value,c=.func (.func f) #[] l.toArray∧a4 (au ι) caps l:=by
 have:=h.one rfl rfl;rw [aQ] at this
 obtain ⟨hc,l,e,k⟩:=this
 refine ⟨l,by simpa using e,?_⟩
 clear e h
 revert l
 induction caps with
 | nil=>intro l k;rw [cH] at k;rw [k.2];exact .nil
 | cons v vs ih=>
  intro l k
  simp only [List.length_cons,List.replicate_succ] at k
  rw [cH] at k
  obtain ⟨s,ss',l1,m,e1,rfl,e3,k1,k2⟩:=k
  simp only [List.cons.injEq] at e1
  obtain ⟨rfl,rfl⟩:=e1
  obtain ⟨c,rfl⟩:=List.length_eq_one_iff.1 e3
  simp only [List.all_cons,Bool.and_eq_true] at hc
  exact .cons (aC (by simpa using hc.1) k1) (ih hc.2 m k2)
theorem OF {f:FuncId} {fs:List AV} {c:Value} (h:au ι (.yJ f fs) c):∃ l:List Value,c=.func (.func f) l.toArray #[]∧a4 (au ι) fs l:=by
 have:=h.one rfl rfl;rw [aQ] at this
 obtain ⟨hc,l,e,k⟩:=this
 have h2:au ι (.fn f fs) (.func (.func f) #[] l.toArray):=aC rfl (by rw [aQ];exact ⟨hc,l,rfl,k⟩)
 obtain ⟨l',e',k'⟩:=Bn h2
 have:l=l':=by simpa using e'
 subst this
 exact ⟨l,by simpa using e,k'⟩
theorem zI {d:Option Tmp} {v:AV} {c:Value} (h:a4 (au ι) T a.tmps.toList) (hv:au ι v c):a4 (au ι) (b7 T d v) (a.put d c).tmps.toList:=by
 cases d with
 | none=>exact h
 | some d=>simp only [b7,Act.put,Array.toList_setIfInBounds];exact h.set d v c hv
theorem put_defers {d:Option Tmp} {c:Value}:(a.put d c).defers=a.defers:=by cases d<;>rfl
theorem a4.Cd {α β:Type} {R:α→β→Prop} {l:List α} {m:List β} (k:a4 R l m) (i:Nat) (x:α) (h:∀ b,m[i]?=some b→R x b):a4 R (l.set i x) m:=by
 induction k generalizing i with
 | nil=>simpa using .nil
 | cons h1 t ih=>
  cases i with
  | zero=>exact .cons (h _ rfl) t
  | succ i=>exact .cons h1 (ih i (fun b e=>h b e))
theorem bW (k:FK) (f:FuncId):(aL ι k).fn f:=by cases k<;>trivial
theorem gG (k:FK):(aL ι k).depth=none:=by cases k<;>rfl
theorem iM {k:FK} {n:Nat} {P:Program} {f:FuncId} {args:Array Value} {R:Ending→World→Prop} (h:CallsIn Fence.wide n P f args w R):CallsIn (aL ι k) n P f args w R:=by
 cases k<;>first | exact h | exact CallsIn.inRound _ h
theorem dA {fr:Fr} {p:D9} {H':av} {ι':aD} {w':World} {T':List AV} {d:Option Tmp} {v:AV} {c:Value} {n:Nat} (hW:ic E {fr with T:=b7 T' d v} p H') (hE:Ext ι ι') (hH:aR ι' H' w')
  (hv:au ι' v c) (hT:a4 (au ι) T' a.tmps.toList) (hg:dc E ι) (hD:gM (E.je fr.kind) ι fr.D a.defers) (hk:Ec ι fr.kind):cg ι (aL ι fr.kind) n E.P (lift E (E.je fr.kind) fr.base ι p) fr.items .normal (a.put d c) w':=by
 have h:=hW n ι' (a.put d c) w' ⟨hH,zI (a4.imp (fun _ _=>cU hE) hT) hv,hg.mono hE⟩ (by rw [put_defers];exact hD.mono hE) (hk.mono hE)
 have hf:aL ι' fr.kind=aL ι fr.kind:=ec hE hk
 simp only [hf] at h
 exact eg hE.a6 (gX hE) _ _ _ _ h
def oe (tmps:Array Value):ResultVar→Sem Value
 | .tmp t=>pure (tmps.getD t undef)
 | .cell b t=>do loadVar t (← asAddr (tmps.getD b undef))
theorem od (hV:E.Valid) (r:fK E ι T H a w):∀ {l:List ResultVar} {vs:List AV} {q:List Prop},Cj E H T l=some (q,vs)→holds q→
  ∃ us:List Value,(l.mapM (oe a.tmps)).run E.P w=.ok us w∧a4 (au ι) vs us
 | [],vs,q,h,_=>by simp only [Cj,Option.some.injEq,Prod.mk.injEq] at h;obtain ⟨_,rfl⟩:=h;exact ⟨[],rfl,.nil⟩
 | x :: l,vs,q,h,hq=>by
  simp only [Cj] at h
  split at h
  ·rename_i q1 v1 q2 vs2 h1 h2
   simp only [Option.some.injEq,Prod.mk.injEq] at h;obtain ⟨rfl,rfl⟩:=h
   rw [bJ] at hq
   obtain ⟨us,hrun,hu⟩:=od hV r h2 hq.2
   have hx:∃ u,(oe a.tmps x).run E.P w=.ok u w∧au ι v1 u:=by
    cases x with
    | tmp t=>
     simp only [Rb] at h1
     split at h1
     ·rename_i v hv
      simp only [Option.some.injEq,Prod.mk.injEq] at h1;obtain ⟨_,rfl⟩:=h1
      obtain ⟨c,e,k⟩:=r.tmps.at t v hv
      exact ⟨c,by simp only [oe];rw [mz e];rfl,k⟩
     ·cases h1
    | cell b t=>
     simp only [Rb] at h1
     split at h1
     ·rename_i v d hv hd
      split at h1
      ·rename_i q' u hl
       split at h1
       ·rename_i hc
        simp only [Option.some.injEq,Prod.mk.injEq] at h1;obtain ⟨rfl,rfl⟩:=h1
        obtain ⟨c,e,k⟩:=r.tmps.at b v hv
        obtain ⟨bb,off,hb,hst⟩:=CW hl hq.1 r.heap k
        obtain ⟨cc,hrun,hr⟩:=wS (hV.ty _ _ hd) hc.1 hc.2 hst
        refine ⟨cc,?_,hr⟩
        simp only [oe]
        rw [mz e,hb]
        simp only [Sem.run_bind,asAddr,Sem.run_pure,Result.andThen,hrun]
       ·cases h1
      ·cases h1
     ·cases h1
   obtain ⟨u,hxr,hxu⟩:=hx
   refine ⟨u :: us,?_,.cons hxu hu⟩
   rw [List.mapM_cons]
   simp only [Sem.run_bind,hxr,Result.andThen,hrun,Sem.run_pure]
  ·cases h
theorem GP (hV:E.Valid) (r:fK E ι T H a w) {fn:Func} {q:List Prop} {v:AV} (h:Et E H T fn=some (q,v)) (hq:holds q):∃ c,(results fn a.tmps).run E.P w=.ok c w∧au ι v c:=by
 have key:∀ us:List Value,(fn.results.toList.mapM (oe a.tmps)).run E.P w=.ok us w→(results fn a.tmps).run E.P w=.ok (if h:us.toArray.size=1 then us.toArray[0] else .tuple us.toArray) w:=fun us hu=>by
  have:(fn.results.mapM (oe a.tmps)).run E.P w=.ok us.toArray w:=by
   rw [Array.mapM_eq_mapM_toList];simp only [Sem.run_map,hu,Result.andThen]
  have h2:results fn a.tmps=(do
   let vs ← fn.results.mapM (oe a.tmps)
   pure (if h:vs.size=1 then vs[0] else .tuple vs)):=by
   unfold results
   congr 1
  rw [h2]
  simp only [Sem.run_bind,this,Result.andThen,Sem.run_pure]
 unfold Et at h
 split at h
 ·rename_i q' v' hr
  simp only [Option.some.injEq,Prod.mk.injEq] at h;obtain ⟨rfl,rfl⟩:=h
  obtain ⟨us,hrun,hu⟩:=od hV r hr hq
  obtain ⟨u,_,rfl,h1,h2⟩:=hu.cons_inv
  cases h2
  exact ⟨u,by rw [key _ hrun];simp,h1⟩
 ·rename_i q' vs hne hr
  split at h
  ·rename_i hnt
   simp only [Option.some.injEq,Prod.mk.injEq] at h;obtain ⟨rfl,rfl⟩:=h
   obtain ⟨us,hrun,hu⟩:=od hV r hr hq
   refine ⟨.tuple us.toArray,?_,⟨us,rfl,(qc fun v hv=>List.all_eq_true.1 hnt v hv).2 hu⟩⟩
   rw [key _ hrun,dif_neg]
   intro h1
   have:=hu.len
   simp at h1
   rw [h1] at this
   obtain ⟨v,rfl⟩:=List.length_eq_one_iff.1 this
   first | exact hne v hr | exact hne v rfl | exact hne _ _ rfl | exact hne _ rfl
  ·cases h
 ·cases h
def Old (ι ι':aD):Prop:=ι'.w0=ι.w0∧∀ b,b < ι.w0.heap.size→ι'.a5 b=ι.a5 b
theorem Old.refl (ι:aD):Old ι ι:=⟨rfl,fun _ _=>rfl⟩
theorem Old.trans {a b c:aD} (h:Old a b) (k:Old b c):Old a c:=⟨k.1.trans h.1,fun x hx=>(k.2 x (by rw [h.1];exact hx)).trans (h.2 x hx)⟩
theorem Ext.Ks {a b:aD} (h:Ext a b):Old a b:=⟨h.w0,h.fI⟩
theorem yz (hV:E.Valid) {n:Nat} {F:Fence} {fn:Func} {R:Ending→World→Prop} {q:List Prop} {v:AV}:∀ {bs:List Nat} {ι:aD} {H:av} {w:World},Et E H T fn=some (q,v)→holds q→
  aR ι H w→a4 (au ι) T a.tmps.toList→dc E ι→PO ι bs→(∀ ι2 c w',Old ι ι2→aR ι2 H w'→au ι2 v c→R (.returned c) w')→LeavesInM F n E.P fn a.tmps R (bs.map JW) .returning w
 | [],ι,H,w,hr,hq,hH,hT,hg,_,hR=>by
  obtain ⟨c,hrun,hv⟩:=GP hV (⟨hH,hT,hg⟩:fK E ι T H a w) hr hq
  exact ⟨c,hrun,hR ι c w (Old.refl ι) hH hv⟩
 | b :: bs,ι,H,w,hr,hq,hH,hT,hg,hf,hR=>by
  obtain ⟨hn,hb⟩:=hf
  obtain ⟨hp,hw⟩:=hb b (List.mem_cons_self ..)
  obtain ⟨hnb,hn⟩:=List.nodup_cons.1 hn
  have hS:=aD.DY hp
  refine ⟨by simp,.inl ⟨b,w.putObj b (.deferred none),rfl,run_takeDeferred (hH.a5 _ _ hp),?_⟩⟩
  refine yz hV (ι:=ι.drop b) hr hq (hH.drop hp hw _) (a4.imp (fun _ _=>lL hS) hT) (hg.WX hS) ⟨hn,fun k hk=>?_⟩ (fun ι2 c w' h=>hR ι2 c w' (Old.trans (b:=ι.drop b) ⟨rfl,fun k hk=>by simp only [aD.drop];rw [if_neg (by omega)]⟩ h))
  have:=hb k (List.mem_cons_of_mem _ hk)
  refine ⟨?_,this.2⟩
  simp only [aD.drop]
  rw [if_neg (by intro e;subst e;exact hnb hk)]
  exact this.1
theorem yp (hV:E.Valid) {t:Bool} {n:Nat} {F:Fence} {fn:Func} {R:Ending→World→Prop}:∀ {D:List Nat} {ds:List Deferred} {ι:aD} {H H':av} {w:World} {q:List Prop} {v:AV},gq H D=some H'→Et E H' T fn=some (q,v)→holds q→
  aR ι H w→a4 (au ι) T a.tmps.toList→dc E ι→gM t ι D ds→(∀ ι2 c w',(if t=true then Old ι ι2 else ι2=ι)→aR ι2 H' w'→au ι2 v c→R (.returned c) w')→LeavesInM F n E.P fn a.tmps R ds .returning w
 | [],ds,ι,H,H',w,q,v,hc,hr,hq,hH,hT,hg,hD,hR=>by
  simp only [gq,Option.some.injEq] at hc;subst hc
  obtain ⟨ds1,bs,rfl,k1,k2,k3⟩:=hD
  cases k1
  cases t with
  | true=>exact yz hV hr hq hH hT hg k3 (fun ι2 c w' h=>hR ι2 c w' h)
  | false=>
   rw [k2 rfl]
   obtain ⟨c,hrun,hv⟩:=GP hV (⟨hH,hT,hg⟩:fK E ι T H a w) hr hq
   exact ⟨c,hrun,hR ι c w rfl hH hv⟩
 | d :: D,ds,ι,H,H',w,q,v,hc,hr,hq,hH,hT,hg,hD,hR=>by
  simp only [gq] at hc
  split at hc
  ·rename_i hd
   obtain ⟨ds1,bs,rfl,k1,k2,k3⟩:=hD
   obtain ⟨x,ds',rfl,⟨b,z,hb,rfl⟩,hD'⟩:=a4.cons_inv k1
   have hobj:w.heap[b]?=some (.deferred (some [])):=hH.obj _ _ _ _ hd hb
   refine ⟨by simp,.inl ⟨b,w.putObj b (.deferred none),rfl,run_takeDeferred hobj,?_⟩⟩
   refine yp hV hc hr hq ?_ hT hg ⟨ds',bs,rfl,hD',k2,k3⟩ hR
   exact hH.xW hd rfl hb (fun k hk=>World.putObj_heap_other hk) (by simp) rfl rfl rfl trivial
  ·cases hc
def rR (t:Bool) (ι ι':aD):Prop:=if t=true then Old ι ι' else Ext ι ι'
theorem rR.fI {t:Bool} {ι ι':aD} (h:rR t ι ι'):Old ι ι':=by
 unfold rR at h
 split at h
 ·exact h
 ·exact h.Ks
theorem rR.ext {E:Env} {k:FK} {ι ι':aD} (h:rR (E.je k) ι ι') (hk:Ds k=false∨E.Ea=false):Ext ι ι':=by
 unfold rR Env.je at h
 rw [if_neg (by rcases hk with hk | hk<;>simp [hk])] at h
 exact h
end Go.bz
end
section
namespace Go.bz
open Go.RowKit
variable {E:Env} {ι:aD} {T:List AV} {H:av} {a:Act} {w:World}
theorem aR.move {w':World} (h:aR ι H w) {i:Nat} {x y:aV} {b z:Nat} (hi:H[i]?=some x) (ho:x.owned=true) (hb:ι.a6[i]?=some (b,z))
  (hk:∀ k,k≠b→w'.heap[k]?=w.heap[k]?) (hs:w'.heap.size=w.heap.size) (h1:w'.os=w.os) (h2:w'.tape=w.tape) (h3:w'.output=w.output)
  (hy:fj (ι.add b z) w' b z y) (hne:y≠.hole:=by exact nofun):aR (ι.add b z) (H.set i .dead++[y]) w':=by
 have hd:=h.xW (x':=.dead) hi ho hb hk hs h1 h2 h3 trivial
 have hE:=Ext.add ι b z
 have hown:=h.own _ _ _ _ hi ho hb
 have hlen:(H.set i .dead).length=ι.a6.length:=by simp [h.len]
 have fI:∀ {j:Nat} {b' z':Nat} {v:aV},(H.set i .dead++[y])[j]?=some v→(ι.add b z).a6[j]?=some (b',z')→
   ((H.set i .dead)[j]?=some v∧ι.a6[j]?=some (b',z'))∨(j=H.length∧v=y∧b'=b∧z'=z):=by
  intro j b' z' v e1 e2
  rcases Nat.lt_or_ge j H.length with hj | hj
  ·left
   rw [List.getElem?_append_left (by simpa using hj)] at e1
   simp only [aD.add] at e2
   rw [fL.jV (h.len▸hj)] at e2
   exact ⟨e1,e2⟩
  ·right
   have:j < (H.set i .dead++[y]).length:=(List.getElem?_eq_some_iff.1 e1).1
   simp at this
   have hj':j=H.length:=by omega
   subst hj'
   rw [List.getElem?_append_right (by simp)] at e1
   simp at e1
   rw [h.len,aD.fh] at e2
   cases e2
   exact ⟨rfl,e1.symm,rfl,rfl⟩
 have nob:∀ {j:Nat} {v:aV} {z':Nat},(H.set i .dead)[j]?=some v→v.owned=true→ι.a6[j]?=some (b,z')→False:=by
  intro j v z' e1 o1 e2
  rw [List.getElem?_set] at e1
  split at e1
  ·split at e1
   ·simp at e1;subst e1;cases o1
   ·cases e1
  ·rename_i hij
   exact hij (h.sep _ _ _ _ _ _ _ hi ho e1 o1 hb e2)
 refine ⟨hd.fY.app hne _,hd.a5,?_,?_,?_,hd.base⟩
 ·intro j v b' z' e1 e2
  rcases fI e1 e2 with ⟨k1,k2⟩ | ⟨rfl,rfl,rfl,rfl⟩
  ·exact dw hE (fun _=>rfl) hd.a5 (hd.obj _ _ _ _ k1 k2)
  ·exact hy
 ·intro j v b' z' e1 o1 e2
  rcases fI e1 e2 with ⟨k1,k2⟩ | ⟨rfl,rfl,rfl,rfl⟩
  ·exact hd.own _ _ _ _ k1 o1 k2
  ·exact ⟨hown.1,by omega,hown.2.2⟩
 ·intro j k v u b' z1 z2 e1 o1 e2 o2 b1 b2
  rcases fI e1 b1 with ⟨k1,k2⟩ | ⟨rfl,rfl,rfl,_⟩
  ·rcases fI e2 b2 with ⟨k3,k4⟩ | ⟨rfl,rfl,rfl,_⟩
   ·exact hd.sep _ _ _ _ _ _ _ k1 o1 k3 o2 k2 k4
   ·exact (nob k1 o1 k2).elim
  ·rcases fI e2 b2 with ⟨k3,k4⟩ | ⟨rfl,rfl,_,_⟩
   ·exact (nob k3 o2 k4).elim
   ·rfl
theorem gJ {P:Program} {t ty e:TypeId} {d:bG} (hu:P.underlying t=some (.slice e)) (he:d.ok P e) (base:Option Addr) (n k m:Nat) (x:Value) (hx:(x=.slice none 0 0∧m=0)∨∃ a kk,x=.slice (some a) m kk)
  (hm:m=0) (hk:n≤k):(Builtin.append_ #[t,t] ty #[.slice base n k,x]).run P w=.ok (.slice base n k) w:=by
 obtain ⟨_,i,z,hi,hs,hb,hz,_⟩:=he
 subst hm
 rcases hx with ⟨rfl,_⟩ | ⟨a,kk,rfl⟩
 ·cases base<;>simp [Builtin.append_,run_underlying hu,sizeOf,typeInfo,hi,Builtin.lenOf,hk,Builtin.firstCells,storeCells]
 ·cases base<;>simp [Builtin.append_,run_underlying hu,sizeOf,typeInfo,hi,Builtin.lenOf,hk,Builtin.firstCells,loadCells,loadCellsFrom,storeCells]
theorem fU {c:TC} {ys:List c.den} {l:List Value} (h:bX (bO ι c) ys l):l.length=ys.length * c.size:=h.len (a7 c)
theorem kq {t ty e:TypeId} {de:bG} {c:TC} {x:AV} {q:List Prop} {ys:List c.den} {cx:Value} (hu:E.P.underlying t=some (.slice e)) (he:de.ok E.P e) (hc:c.size=de.size) (h:lZ c H x=some (q,ys)) (hq:holds q)
  (r:aR ι H w) (hx:au ι x cx) (hpos:0 < ys.length) (hb:ys.length * de.bytes≤2 ^ 40) (hn:ys.length≤2 ^ 40):
  ∃ ι' w' u,(Builtin.append_ #[t,t] ty #[.slice none 0 0,cx]).run E.P w=.ok u w'∧Ext ι ι'∧aR ι' (H++[.cell true e (.arr ys.length c ys)]) w'∧au ι' (.bw H.length [] c.size 0 ys.length none) u:=by
 obtain ⟨l,hl,hcx⟩:=hZ h hq r hx
 rcases hcx with ⟨rfl,_⟩ | ⟨b,off,k,rfl,hcells⟩
 ·simp at hpos
 ·obtain ⟨i,z,hi,hs,hby,hz,hzs⟩:=nW he
  have hlen:=fU hl
  have hrun:=run_append_nil (P:=E.P) w t ty e i z hu hi hz ⟨b,off,none⟩ ys.length k l (by rw [hs,← hc];exact hlen) hcells hpos (by omega) (by rw [hby];omega)
  have r':=r.drew (w.drawn+1)
  have hge:=grownCap_ge w ys.length 0 e
  generalize hcap:grownCap w ys.length 0 e=cap at hrun hge
  generalize hcs:l.toArray++Builtin.zeroCells z.cells (cap - ys.length)=cs at hrun
  have hl':cs.toList=l++(Builtin.zeroCells z.cells (cap - ys.length)).toList:=by rw [← hcs];simp
  have hE:=Ext.add ι w.heap.size cs.size
  refine ⟨ι.add w.heap.size cs.size,_,_,hrun,hE,?_,?_⟩
  ·refine r'.alloc (.cells cs e) cs.size _ ⟨cs,(0,0),l,_,heap_alloc_new,hl',rfl,?_,by simp⟩
   rw [aQ]
   exact ⟨rfl,hl.mono (fun x m=>cn hE.sub c x m)⟩
  ·refine aC rfl ?_
   rw [aQ]
   refine ⟨w.heap.size,cs.size,cap,by rw [r.len];exact ι.fh _ _,by simp [aJ],hge,?_,by simp⟩
   rw [← hcs]
   simp only [aJ,Array.size_append,List.size_toArray,size_zeroCells,hzs,hlen,hc]
   rw [← Nat.add_mul,show ys.length+(cap - ys.length)=cap by omega,Nat.zero_add,Nat.zero_add]
   exact Nat.le_refl _
theorem kp {t ty e:TypeId} {de:bG} {c:TC} {x:AV} {q:List Prop} {ys:List c.den} {cx cs:Value} {ob len:Nat} {xs:List c.den} (hu:E.P.underlying t=some (.slice e)) (he:de.ok E.P e) (hc:c.size=de.size)
  (h:lZ c H x=some (q,ys)) (hq:holds q) (r:aR ι H w) (hx:au ι x cx) (hs:au ι (.bw ob [] c.size 0 len none) cs) (hob:H[ob]?=some (.cell true e (.arr len c xs)))
  (hb:(len+ys.length) * de.bytes≤2 ^ 40) (hn:len+ys.length≤2 ^ 40):
  ∃ ι' w' u,(Builtin.append_ #[t,t] ty #[cs,cx]).run E.P w=.ok u w'∧Ext ι ι'∧aR ι' (H.set ob .dead++[.cell true e (.arr (len+ys.length) c (xs++ys))]) w'∧
   au ι' (.bw H.length [] c.size 0 (len+ys.length) none) u:=by
 obtain ⟨l,hl,hcx⟩:=hZ h hq r hx
 obtain ⟨b,z,k,hbk,hcs0,hk,hkz,_⟩:=gx hs
 have hp0:aJ []+0 * c.size=0:=by simp [aJ]
 rw [hp0] at hcs0;subst hcs0
 obtain ⟨cells,fz,lo,rr,e1,e2,e3,e4,e5⟩:=(r.obj _ _ _ _ hob hbk).cell
 have e5:=e5 rfl;subst e5
 rw [aQ] at e4
 obtain ⟨hxs,hr⟩:=e4
 have hll:=fU hl
 have hlo:=fU hr
 simp only [aJ,Nat.zero_add] at hkz
 have hE:=Ext.add ι b z
 have hnew:bX (bO ι c) (xs++ys) (lo++l):=hr.app hl
 have hnl:(xs++ys).length=len+ys.length:=by simp [hxs]
 have same:∀ (w':World) (cells':Array Value) (rr':List Value),(∀ k,k≠b→w'.heap[k]?=w.heap[k]?)→w'.heap.size=w.heap.size→w'.os=w.os→w'.tape=w.tape→w'.output=w.output→
   w'.heap[b]?=some (.cells cells' e (0,0))→cells'.toList=(lo++l)++rr'→cells'.size=z→len+ys.length≤k→
   aR (ι.add b z) (H.set ob .dead++[.cell true e (.arr (len+ys.length) c (xs++ys))]) w'∧au (ι.add b z) (.bw H.length [] c.size 0 (len+ys.length) none) (.slice (some ⟨b,0,none⟩) (len+ys.length) k):=by
  intro w' cells' rr' h1 h2 h3 h4 h5 h6 h7 h8 h9
  refine ⟨r.move hob rfl hbk h1 h2 h3 h4 h5 ⟨cells',(0,0),lo++l,rr',h6,h7,h8,?_,by simp⟩,aC rfl ?_⟩
  ·rw [aQ];exact ⟨hnl,hnew.mono (fun x m=>cn hE.sub c x m)⟩
  ·rw [aQ]
   exact ⟨b,z,k,by rw [r.len];exact ι.fh _ _,by rw [hp0],h9,by simp only [aJ,Nat.zero_add];exact hkz,by simp⟩
 obtain ⟨i,zv,hi,hsi,hby,hz,hzs⟩:=nW he
 rcases hcx with ⟨rfl,hcx⟩ | ⟨b2,off,k2,rfl,hcells⟩
 ·cases hl
  obtain ⟨hH,hR⟩:=same w cells rr (fun _ _=>rfl) rfl rfl rfl rfl e1 (by simpa using e2) e3 (by simpa using hk)
  exact ⟨_,w,_,gJ hu he _ len k 0 _ (hcx.imp (fun h=>⟨h,rfl⟩) (fun ⟨a,h⟩=>⟨a,0,h⟩)) rfl hk,hE,hH,hR⟩
 ·by_cases hroom:len+ys.length≤k
  ·have hfit:len * i.size+l.length≤cells.size:=by
    rw [hll,hsi,← hc,e3,← Nat.add_mul]
    exact Nat.le_trans (Nat.mul_le_mul_right _ hroom) hkz
   have hrun:=run_append_room (P:=E.P) w t ty e i hu hi b len k cells e1 ⟨b2,off,none⟩ ys.length k2 l (by rw [hsi,← hc];exact hll) hcells (hl.mem (fun x m h=>ib c x m h)) hroom hfit
   have hlen:len * i.size=lo.length:=by rw [hlo,hxs,hsi,hc]
   refine ⟨_,_,_,hrun,hE,?_⟩
   have:=same (w.setRow b (cells.toList.take (len * i.size)++l++cells.toList.drop (len * i.size+l.length)).toArray) _ (rr.drop l.length) (fun k hk=>setRow_other w b k _ hk) (by simp) rfl rfl rfl
    (setRow_heap w b cells _ e _ e1) (by rw [hlen,e2];simp) (by
     rw [← e3,hlen,e2]
     have:l.length≤rr.length:=by
      rw [← Array.length_toList,e2,hlen] at hfit;simp at hfit;exact hfit
     have hcz:cells.size=lo.length+rr.length:=by rw [← Array.length_toList,e2];simp
     rw [hcz]
     simp;omega) hroom
   exact this
  ·have hrun:=run_append_grow (P:=E.P) w t ty e i zv hu hi hz ⟨b,0,none⟩ len k lo (by rw [hlo,hxs,hsi,hc]) (fun j u hu=>by rw [dJ,cell_of e1,Nat.zero_add,← Array.getElem?_toList,e2,List.getElem?_append_left (List.getElem?_eq_some_iff.1 hu).1];exact hu)
    ⟨b2,off,none⟩ ys.length k2 l (by rw [hsi,← hc];exact hll) hcells (by omega) (by omega) (growslice_fits (by omega) (by rw [hby];omega))
   have hge:=grownCap_ge w (len+ys.length) k e
   generalize hcap:grownCap w (len+ys.length) k e=cap at hrun hge
   generalize hcs:lo.toArray++l.toArray++Builtin.zeroCells zv.cells (cap - (len+ys.length))=cs at hrun
   have hl':cs.toList=(lo++l)++(Builtin.zeroCells zv.cells (cap - (len+ys.length))).toList:=by rw [← hcs];simp
   have r':=(r.drew (w.drawn+1)).kill (i:=ob) (by rw [hob];exact nofun)
   have hE':=Ext.add ι w.heap.size cs.size
   refine ⟨ι.add w.heap.size cs.size,_,_,hrun,hE',?_,?_⟩
   ·refine r'.alloc (.cells cs e) cs.size _ ⟨cs,(0,0),lo++l,_,heap_alloc_new,hl',rfl,?_,by simp⟩
    rw [aQ]
    exact ⟨hnl,hnew.mono (fun x m=>cn hE'.sub c x m)⟩
   ·refine aC rfl ?_
    rw [aQ]
    refine ⟨w.heap.size,cs.size,cap,by rw [r.len];exact ι.fh _ _,by simp [aJ],hge,?_,by simp⟩
    rw [← hcs]
    simp only [aJ,Array.size_append,List.size_toArray,size_zeroCells,hzs,hlo,hll,hxs,hc]
    rw [← Nat.add_mul,← Nat.add_mul,show len+ys.length+(cap - (len+ys.length))=cap by omega,Nat.zero_add,Nat.zero_add]
    exact Nat.le_refl _
theorem jM {t ty e:TypeId} {de:bG} {c:TC} {x:AV} {q:List Prop} {ys:List c.den} {cx cs:Value} {ob off len m k:Nat} {xs:List c.den} (hu:E.P.underlying t=some (.slice e)) (he:de.ok E.P e) (hc:c.size=de.size)
  (h:lZ c H x=some (q,ys)) (hq:holds q) (r:aR ι H w) (hx:au ι x cx) (hs:au ι (.bw ob [] c.size off len (some k)) cs) (hob:H[ob]?=some (.cell true e (.arr m c xs))) (ns:off+len≤m)
  (hb:(len+ys.length) * de.bytes≤2 ^ 40) (hn:len+ys.length≤2 ^ 40) (hgrow:k < len+ys.length):
  ∃ ι' w' u,(Builtin.append_ #[t,t] ty #[cs,cx]).run E.P w=.ok u w'∧Ext ι ι'∧aR ι' (H++[.cell true e (.arr (len+ys.length) c ((xs.drop off).take len++ys))]) w'∧
   au ι' (.bw H.length [] c.size 0 (len+ys.length) none) u:=by
 obtain ⟨l,hl,hcx⟩:=hZ h hq r hx
 obtain ⟨b,z,kk,hbk,rfl,hk,hkz,hkk⟩:=gx hs
 have:=hkk k rfl;subst this
 obtain ⟨cells,fz,lo,rr,e1,e2,e3,e4,e5⟩:=(r.obj _ _ _ _ hob hbk).cell
 rw [aQ] at e4
 obtain ⟨hxs,hr⟩:=e4
 have hll:=fU hl
 obtain ⟨m1,m2,em,em1,hm1,hm2⟩:=hr.split (a7 c) off (by omega)
 obtain ⟨k1,k2,ek,ek1,hs1,hs2⟩:=hm2.split (a7 c) len (by simp;omega)
 have hnl:((xs.drop off).take len++ys).length=len+ys.length:=by simp;omega
 obtain ⟨i,zv,hi,hsi,hby,hz,hzs⟩:=nW he
 rcases hcx with ⟨rfl,hcx⟩ | ⟨b2,off2,k2',rfl,hcells⟩
 ·simp at hgrow;omega
 ·have hp0:aJ []+off * c.size=off * c.size:=by simp [aJ]
  have hrun:=run_append_grow (P:=E.P) w t ty e i zv hu hi hz ⟨b,off * c.size,none⟩ len kk k1 (by rw [ek1,hsi,hc]) (fun j u hu=>by
    rw [dJ,cell_of e1]
    have:off * c.size=m1.length:=em1.symm
    rw [this]
    exact At.xJ (l2:=k2++rr) (by rw [e2,em,ek];simp) j u hu)
   ⟨b2,off2,none⟩ ys.length k2' l (by rw [hsi,← hc];exact hll) hcells hgrow (by omega) (growslice_fits (by omega) (by rw [hby];omega))
  have hge:=grownCap_ge w (len+ys.length) kk e
  generalize hcap:grownCap w (len+ys.length) kk e=cap at hrun hge
  generalize hcs:k1.toArray++l.toArray++Builtin.zeroCells zv.cells (cap - (len+ys.length))=cs at hrun
  have hl':cs.toList=(k1++l)++(Builtin.zeroCells zv.cells (cap - (len+ys.length))).toList:=by rw [← hcs];simp
  have r':=r.drew (w.drawn+1)
  have hE':=Ext.add ι w.heap.size cs.size
  rw [hp0]
  refine ⟨ι.add w.heap.size cs.size,_,_,hrun,hE',?_,?_⟩
  ·refine r'.alloc (.cells cs e) cs.size _ ⟨cs,(0,0),k1++l,_,heap_alloc_new,hl',rfl,?_,by simp⟩
   rw [aQ]
   exact ⟨hnl,(hs1.app hl).mono (fun x m=>cn hE'.sub c x m)⟩
  ·refine aC rfl ?_
   rw [aQ]
   refine ⟨w.heap.size,cs.size,cap,by rw [r.len];exact ι.fh _ _,by simp [aJ],hge,?_,by simp⟩
   rw [← hcs]
   simp only [aJ,Array.size_append,List.size_toArray,size_zeroCells,hzs,ek1,hll,hc]
   rw [← Nat.add_mul,← Nat.add_mul,show len+ys.length+(cap - (len+ys.length))=cap by omega,Nat.zero_add,Nat.zero_add]
   exact Nat.le_refl _
theorem s7 (hV:E.Valid) {t e:TypeId} {d de:bG} (hd:E.ty t=some d) (he:jG E d=some (e,de)) (hs:rI d=true):E.P.underlying t=some (.slice e)∧de.ok E.P e:=by
 obtain ⟨he1,he2⟩:=kM hV he
 have hdesc:d.desc=.slice e:=by
  rcases he2 with h' | ⟨m,h'⟩
  ·exact h'
  ·unfold rI at hs;rw [h'] at hs;cases hs
 have hu:=(hV.ty _ _ hd).1
 rw [hdesc] at hu
 exact ⟨hu,he1⟩
theorem OL (hV:E.Valid) {t1 ty:TypeId} {s x v:AV} {q:List Prop} {H':av} {cs cx:Value} (h:J1 E H t1 s x=some (q,v,H')) (hq:holds q) (r:aR ι H w) (hs:au ι s cs) (hx:au ι x cx):
  ∃ ι' w' u,(Builtin.append_ #[t1,t1] ty #[cs,cx]).run E.P w=.ok u w'∧Ext ι ι'∧aR ι' H' w'∧au ι' v u:=by
 unfold J1 at h
 split at h
 case h_2=>cases h
 rename_i d hd
 split at h
 case h_2=>cases h
 rename_i e de he
 split at h
 case h_2=>cases h
 rename_i c hsl hc
 obtain ⟨hu,he1⟩:=s7 hV hd he hsl
 split at h
 case isFalse=>cases h
 rename_i hcond
 split at h
 case h_2=>cases h
 rename_i q1 ys0 happ
 split at h
 ·simp only [Option.some.injEq,Prod.mk.injEq] at h;obtain ⟨rfl,rfl,rfl⟩:=h
  have hus:=hs.raw;subst hus
  obtain ⟨l,hl,hcx⟩:=hZ happ hq r hx
  refine ⟨ι,w,_,?_,Ext.refl ι,r,hs⟩
  refine gJ hu he1 none 0 0 0 cx ?_ rfl (Nat.le_refl _)
  rcases hcx with ⟨_,h0 | ⟨a0,h0⟩⟩ | ⟨b,off,k,rfl,_⟩
  ·exact .inl ⟨h0,rfl⟩
  ·exact .inr ⟨a0,0,h0⟩
  ·exact .inr ⟨_,k,rfl⟩
 ·rename_i y ys
  simp only [Option.some.injEq,Prod.mk.injEq] at h;obtain ⟨rfl,rfl,rfl⟩:=h
  rw [bJ] at hq
  obtain ⟨hq1,h1,h2,_⟩:=hq
  have:=hs.raw;subst this
  exact kq hu he1 hcond.1 happ hq1 r hx (by simp) h1 h2
 ·rename_i _ ob s0 len
  split at h
  case h_2=>cases h
  rename_i t m c' xs hob
  split at h
  case isFalse=>cases h
  rename_i hcc;subst hcc
  split at h
  case isFalse=>cases h
  rename_i hst
  simp only [Option.some.injEq,Prod.mk.injEq] at h;obtain ⟨rfl,rfl,rfl⟩:=h
  rw [bJ] at hq
  obtain ⟨hq1,hm,h1,h2,_⟩:=hq
  obtain ⟨rfl,rfl⟩:=hst
  have hm:len=m:=hm
  subst hm
  exact kp hu he1 hcond.1 happ hq1 r hx hs hob h1 h2
 ·rename_i ob s0 off len k y ys
  split at h
  case h_2=>cases h
  rename_i t m c' xs hob
  split at h
  case isFalse=>cases h
  rename_i hcc;subst hcc
  split at h
  case isFalse=>cases h
  rename_i hst
  simp only [Option.some.injEq,Prod.mk.injEq] at h;obtain ⟨rfl,rfl,rfl⟩:=h
  rw [bJ] at hq
  obtain ⟨hq1,h0,h1,h2,_⟩:=hq
  obtain ⟨rfl,rfl,hk⟩:=hst
  exact jM hu he1 hcond.1 happ hq1 r hx hs hob h0 h1 h2 hk
 ·cases h
theorem iO {c:TC} {z:c.den} {P:Program} {e:TypeId} {de:bG} (he:de.ok P e) (hz:Kb c de.zero=some z):∃ i zv,P.info? e=some i∧i.size=de.size∧i.bytes=de.bytes∧i.zero=some zv∧zv.cells.size=de.size∧∀ ι,bO ι c z zv.cells.toList:=by
 obtain ⟨hdesc,i,zv,hi,hsi,hby,hzv,hzr,_,h6⟩:=he
 refine ⟨i,zv,hi,hsi,hby,hzv,?_,fun ι=>eD.1 (eD.2 (nz hz (hzr ι).cells))⟩
 rw [← Array.length_toList,fH _ _ (hzr ⟨default,fun _=>none,⟨[]⟩⟩).cells,h6]
theorem HR (hV:E.Valid) {t1 t2 ty:TypeId} {s x v:AV} {q:List Prop} {H':av} {cs cx:Value} (h:Ee E H t1 t2 s x=some (q,v,H')) (hq:holds q) (r:aR ι H w) (hs:au ι s cs) (hx:au ι x cx):
  ∃ ι' w' u,(Builtin.append_ #[t1,t2] ty #[cs,cx]).run E.P w=.ok u w'∧Ext ι ι'∧aR ι' H' w'∧au ι' v u:=by
 unfold Ee at h
 split at h
 case h_2=>cases h
 rename_i d d2 kn n hd hd2
 split at h
 case h_2=>cases h
 rename_i kk e de hdesc2 he
 split at h
 case h_2=>cases h
 rename_i c hsl hc
 obtain ⟨hu,he1⟩:=s7 hV hd he hsl
 have hu2:=(hV.ty _ _ hd2).1
 rw [hdesc2] at hu2
 split at h
 case h_2=>cases h
 rename_i z hz
 split at h
 case isFalse=>cases h
 rename_i hcond
 obtain ⟨i,zv,hi,hsi,hby,hzv,hzs,hzr⟩:=iO he1 hz
 rw [hx.int]
 have hzl:∀ n,(Builtin.zeroCells zv.cells n).toList=(List.replicate n zv.cells.toList).flatten:=fun n=>by
  simpa [Builtin.zeroCells] using fO zv.cells n
 split at h
 ·simp only [Option.some.injEq,Prod.mk.injEq] at h;obtain ⟨rfl,rfl,rfl⟩:=h
  obtain ⟨h0,h1,h2,_⟩:=hq
  have:=hs.raw;subst this
  obtain ⟨m,rfl⟩:∃ m:Nat,n=m:=⟨n.toNat,by omega⟩
  simp only [Int.toNat_natCast] at h1 h2 ⊢
  have hrun:=Lib.run_append_nil_zeros (P:=E.P) w t1 t2 ty e i zv kn kk hu hu2 hi hzv m (by omega) (by rw [hsi];omega) (by omega) (by rw [hby];omega)
  have r':=r.drew (w.drawn+1)
  have hge:=grownCap_ge w m 0 e
  generalize hcap:grownCap w m 0 e=cap at hrun hge
  generalize hcs:Builtin.zeroCells zv.cells m++Builtin.zeroCells zv.cells (cap - m)=cs at hrun
  have hl':cs.toList=(List.replicate m zv.cells.toList).flatten++(Builtin.zeroCells zv.cells (cap - m)).toList:=by rw [← hcs,Array.toList_append,hzl]
  have hE:=Ext.add ι w.heap.size cs.size
  refine ⟨ι.add w.heap.size cs.size,_,_,hrun,hE,?_,?_⟩
  ·refine r'.alloc (.cells cs e) cs.size _ ⟨cs,(0,0),_,_,heap_alloc_new,hl',rfl,?_,by simp⟩
   rw [aQ]
   exact ⟨by simp,cL (hzr _) m⟩
  ·refine aC rfl ?_
   rw [aQ]
   refine ⟨w.heap.size,cs.size,cap,by rw [r.len];exact ι.fh _ _,by simp [aJ],hge,?_,by simp⟩
   rw [← hcs]
   simp only [aJ,Array.size_append,size_zeroCells,hzs,hcond.1]
   rw [← Nat.add_mul,show m+(cap - m)=cap by omega,Nat.zero_add,Nat.zero_add]
   exact Nat.le_refl _
 ·rename_i ob s0 off len k
  split at h
  case h_2=>cases h
  rename_i t m c' xs hob
  split at h
  case isFalse=>cases h
  rename_i hcc;subst hcc
  split at h
  case isFalse=>cases h
  rename_i hst
  simp only [Option.some.injEq,Prod.mk.injEq] at h;obtain ⟨rfl,rfl,rfl⟩:=h
  obtain ⟨h0,hk,ns,h1,h2,_⟩:=hq
  obtain ⟨rfl,rfl⟩:=hst
  obtain ⟨mm,rfl⟩:∃ m:Nat,n=m:=⟨n.toNat,by omega⟩
  simp only [Int.toNat_natCast] at hk h1 h2 ⊢
  obtain ⟨b,zz,kk',hbk,rfl,hkl,hkz,hkk⟩:=gx hs
  have:=hkk k rfl;subst this
  obtain ⟨cells,fz,lo,rr,e1,e2,e3,e4,e5⟩:=(r.obj _ _ _ _ hob hbk).cell
  rw [aQ] at e4
  obtain ⟨hxs,hr⟩:=e4
  obtain ⟨m1,m2,em,em1,hm1,hm2⟩:=hr.split (a7 c') off (by omega)
  obtain ⟨k1,k2,ek,ek1,hs1,hs2⟩:=hm2.split (a7 c') len (by simp;omega)
  have hnl:((xs.drop off).take len++List.replicate mm z).length=len+mm:=by simp;omega
  have hp0:aJ []+off * c'.size=off * c'.size:=by simp [aJ]
  have hold:=run_firstCells_some (P:=E.P) w.drew i.size len ⟨b,off * c'.size,none⟩ len kk' k1 (by rw [ek1,hsi,hcond.1]) (fun j u hu=>by
    rw [show w.drew.cell?=w.cell? from rfl,dJ,cell_of e1]
    have:off * c'.size=m1.length:=em1.symm
    rw [this]
    exact At.xJ (l2:=k2++rr) (by rw [e2,em,ek];simp) j u hu)
  have hrun:=Lib.run_append_grow_zeros (P:=E.P) w t1 t2 ty t i zv kn kk hu hu2 hi hzv (some ⟨b,off * c'.size,none⟩) len kk' k1 hold mm (by omega) (by rw [hsi];omega) hk (by omega) (by rw [hby];exact Nat.le_trans (Nat.mul_le_mul_right _ (Nat.le_add_left mm len)) (Nat.le_trans h1 (by decide))) (growslice_fits (by omega) (by rw [hby];omega))
  have r':=r.drew (w.drawn+1)
  have hge:=grownCap_ge w (len+mm) kk' t
  generalize hcap:grownCap w (len+mm) kk' t=cap at hrun hge
  generalize hcs:k1.toArray++Builtin.zeroCells zv.cells mm++Builtin.zeroCells zv.cells (cap - (len+mm))=cs at hrun
  have hl':cs.toList=(k1++(List.replicate mm zv.cells.toList).flatten)++(Builtin.zeroCells zv.cells (cap - (len+mm))).toList:=by rw [← hcs];simp only [Array.toList_append,hzl]
  have hE':=Ext.add ι w.heap.size cs.size
  rw [hp0]
  refine ⟨ι.add w.heap.size cs.size,_,_,hrun,hE',?_,?_⟩
  ·refine r'.alloc (.cells cs t) cs.size _ ⟨cs,(0,0),_,_,heap_alloc_new,hl',rfl,?_,by simp⟩
   rw [aQ]
   exact ⟨hnl,(hs1.mono (fun x m=>cn hE'.sub c' x m)).app (cL (hzr _) mm)⟩
  ·refine aC rfl ?_
   rw [aQ]
   refine ⟨w.heap.size,cs.size,cap,by rw [r.len];exact ι.fh _ _,by simp [aJ],hge,?_,by simp⟩
   rw [← hcs]
   simp only [aJ,Array.size_append,List.size_toArray,size_zeroCells,hzs,ek1,hcond.1]
   rw [← Nat.add_mul,← Nat.add_mul,show len+mm+(cap - (len+mm))=cap by omega,Nat.zero_add,Nat.zero_add]
   exact Nat.le_refl _
 ·cases h
theorem jL {t ty e:TypeId} {de:bG} {c:TC} {x:AV} {q:List Prop} {ys:List c.den} {cx cs:Value} {ob off len m k:Nat} {xs:List c.den} (hu:E.P.underlying t=some (.slice e)) (he:de.ok E.P e) (hc:c.size=de.size)
  (h:lZ c H x=some (q,ys)) (hq:holds q) (r:aR ι H w) (hx:au ι x cx) (hs:au ι (.bw ob [] c.size off len (some k)) cs) (hob:H[ob]?=some (.cell true e (.arr m c xs))) (ns:off+len+ys.length≤m)
  (hroom:len+ys.length≤k):
  ∃ w' u,(Builtin.append_ #[t,t] ty #[cs,cx]).run E.P w=.ok u w'∧aR ι (H.set ob (.cell true e (.arr m c (fE xs (off+len) ys)))) w'∧au ι (.bw ob [] c.size off (len+ys.length) (some k)) u:=by
 obtain ⟨l,hl,hcx⟩:=hZ h hq r hx
 obtain ⟨b,z,kk,hbk,rfl,hk,hkz,hkk⟩:=gx hs
 have:=hkk k rfl;subst this
 obtain ⟨cells,fz,lo,rr,e1,e2,e3,e4,e5⟩:=(r.obj _ _ _ _ hob hbk).cell
 have e5:=e5 rfl;subst e5
 rw [aQ] at e4
 obtain ⟨hxs,hr⟩:=e4
 have hll:=fU hl
 have hout:au ι (.bw ob [] c.size off (len+ys.length) (some kk)) (.slice (some ⟨b,aJ []+off * c.size,none⟩) (len+ys.length) kk):=by
  refine aC rfl ?_
  rw [aQ]
  exact ⟨b,z,kk,hbk,rfl,hroom,hkz,by simp⟩
 rcases hcx with ⟨rfl,hcx⟩ | ⟨b2,off2,k2',rfl,hcells⟩
 ·refine ⟨w,_,gJ hu he _ len kk 0 _ (hcx.imp (fun h=>⟨h,rfl⟩) (fun ⟨a,h⟩=>⟨a,0,h⟩)) rfl hk,?_,hout⟩
  refine r.xW (z:=z) hob rfl hbk (fun _ _=>rfl) rfl rfl rfl rfl ⟨cells,(0,0),lo,rr,e1,e2,e3,?_,by simp⟩
  rw [aQ,rW];exact ⟨hxs,hr⟩
 ·obtain ⟨_,i,zv,hi,hsi,_⟩:=he
  obtain ⟨m1,m2,em,em1,hm1,hm2⟩:=hr.split (a7 c) (off+len) (by omega)
  obtain ⟨k1,k3,ek,ek1,_,hk2⟩:=hm2.split (a7 c) ys.length (by simp;omega)
  have hf:=run_firstCells_some (P:=E.P) w i.size ys.length ⟨b2,off2,none⟩ ys.length k2' l (by rw [hsi,← hc];exact hll) hcells
  have hlen:(off+len) * c.size+l.length≤cells.size:=by
   rw [hll,← Array.length_toList,e2,em,ek];simp [em1,ek1]
  have hst:=run_storeCells_at E.P b ((off+len) * c.size) e l 0 cells w e1 (by simpa using hlen) (hl.mem (fun x m h=>ib c x m h))
  simp only [Nat.add_zero] at hst
  have hp0:aJ []+off * c.size=off * c.size:=by simp [aJ]
  have ha:(⟨b,off * c.size,none⟩:Addr).add (len * i.size)=⟨b,(off+len) * c.size,none⟩:=by rw [dJ,hsi,← hc,← Nat.add_mul]
  refine ⟨w.setRow b (cells.toList.take ((off+len) * c.size)++l++cells.toList.drop ((off+len) * c.size+l.length)).toArray,_,?_,?_,hout⟩
  ·rw [hp0]
   simp [Builtin.append_,run_underlying hu,sizeOf,typeInfo,hi,Builtin.lenOf,hroom,hf,ha,hst]
  ·have hcs:cells.toList.take ((off+len) * c.size)++l++cells.toList.drop ((off+len) * c.size+l.length)=(m1++(l++k3))++rr:=by
    have a1:(off+len) * c.size=m1.length:=em1.symm
    have a2:l.length=k1.length:=by rw [hll,ek1]
    rw [a1,a2,e2,em,ek]
    simp only [List.append_assoc]
    rw [List.take_left' rfl,← List.length_append,← List.append_assoc m1 k1,List.drop_left' rfl]
   refine r.xW (z:=z) hob rfl hbk (fun k hk=>setRow_other w b k _ hk) (by simp) rfl rfl rfl
    ⟨_,(0,0),m1++(l++k3),rr,setRow_heap w b cells _ e _ e1,by rw [hcs],?_,?_,by simp⟩
   ·have hz:cells.toList.length=z:=by rw [Array.length_toList];exact e3
    rw [e2,em,ek] at hz
    rw [hcs,← hz];simp;omega
   ·rw [aQ]
    refine ⟨?_,?_⟩
    ·simp [fE];omega
    ·unfold fE
     refine hm1.app (hl.app ?_)
     rw [← List.drop_drop]
     exact hk2
end Go.bz
end
section
namespace Go.bz
open Go.RowKit
variable {E:Env} {ι:aD} {T:List AV} {H:av} {a:Act} {w:World}
theorem j3 {e:TypeId} {c:TC} {z:c.den} {zv:Value} {xs:List c.den} {l:List Value} {n cap:Nat} {cs:Array Value} (r:aR ι H w) (hzr:∀ ι,bO ι c z zv.cells.toList) (hl:bX (bO ι c) xs l) (hn:xs.length=n) (hge:n≤cap)
  (hcs:cs.toList=l++(Builtin.zeroCells zv.cells (cap - n)).toList):
  ∃ j,n+j=cap∧aR (ι.add w.heap.size cs.size) (H++[.cell true e (.arr (n+j) c (xs++List.replicate j z))]) (w.alloc (.cells cs e))∧
   au (ι.add w.heap.size cs.size) (.bw H.length [] c.size 0 n (some (n+j))) (.slice (some ⟨w.heap.size,0,none⟩) n cap):=by
 obtain ⟨j,rfl⟩:∃ j,cap=n+j:=⟨cap - n,by omega⟩
 have hj:n+j - n=j:=by omega
 rw [hj] at hcs
 have hzl:(Builtin.zeroCells zv.cells j).toList=(List.replicate j zv.cells.toList).flatten:=by simpa [Builtin.zeroCells] using fO zv.cells j
 have hE:=Ext.add ι w.heap.size cs.size
 have hsz:cs.size=(n+j) * c.size:=by
  have h1:=hl.len (a7 c)
  have h2:=(cL (hzr ι) j).len (a7 c)
  rw [← Array.length_toList,hcs,List.length_append,hzl,h1,h2,hn,List.length_replicate,Nat.add_mul]
 refine ⟨j,rfl,?_,?_⟩
 ·refine r.alloc (.cells cs e) cs.size _ ⟨cs,(0,0),cs.toList,[],heap_alloc_new,by simp,rfl,?_,by simp⟩
  rw [aQ,hcs,hzl]
  exact ⟨by simp [hn],(hl.mono (fun x m=>cn hE.sub c x m)).app (cL (hzr _) j)⟩
 ·refine aC rfl ?_
  rw [aQ]
  refine ⟨w.heap.size,cs.size,n+j,by rw [r.len];exact ι.fh _ _,by simp [aJ],hge,?_,by simp⟩
  rw [hsz];simp [aJ]
def xC (E:Env) (ι:aD) (e:TypeId) (c:TC) (z:c.den) (H:av) (n:Nat) (xs:List c.den) (w:World) (m:Sem Value):Prop:=
 ∃ ι' w' u j,m.run E.P w=.ok u w'∧Ext ι ι'∧aR ι' (H++[.cell true e (.arr (n+j) c (xs++List.replicate j z))]) w'∧au ι' (.bw H.length [] c.size 0 n (some (n+j))) u
theorem Iq {t ty e:TypeId} {de:bG} {c:TC} {z:c.den} {x:AV} {q:List Prop} {ys:List c.den} {cx:Value} (hu:E.P.underlying t=some (.slice e)) (he:de.ok E.P e) (hc:c.size=de.size) (hz:Kb c de.zero=some z) (h:lZ c H x=some (q,ys)) (hq:holds q)
  (r:aR ι H w) (hx:au ι x cx) (hpos:0 < ys.length) (hb:ys.length * de.bytes≤2 ^ 40) (hn:ys.length≤2 ^ 40):
  xC E ι e c z H ys.length ys w (Builtin.append_ #[t,t] ty #[.slice none 0 0,cx]):=by
 obtain ⟨l,hl,hcx⟩:=hZ h hq r hx
 rcases hcx with ⟨rfl,_⟩ | ⟨b,off,k,rfl,hcells⟩
 ·simp at hpos
 ·obtain ⟨i,zv,hi,hs,hby,hzv,hzs,hzr⟩:=iO he hz
  have hlen:=fU hl
  have hrun:=run_append_nil (P:=E.P) w t ty e i zv hu hi hzv ⟨b,off,none⟩ ys.length k l (by rw [hs,← hc];exact hlen) hcells hpos (by omega) (by rw [hby];omega)
  obtain ⟨j,hj,h1,h2⟩:=j3 (e:=e) (cs:=l.toArray++Builtin.zeroCells zv.cells (grownCap w ys.length 0 e - ys.length)) (r.drew (w.drawn+1)) hzr hl rfl (grownCap_ge w ys.length 0 e) (by simp)
  exact ⟨_,_,_,j,hrun,Ext.add ι _ _,h1,h2⟩
theorem Gh {t ty e:TypeId} {de:bG} {c:TC} {z:c.den} {x:AV} {q:List Prop} {ys:List c.den} {cx cs:Value} {ob off len m k:Nat} {xs:List c.den} (hu:E.P.underlying t=some (.slice e)) (he:de.ok E.P e) (hc:c.size=de.size) (hz:Kb c de.zero=some z)
  (h:lZ c H x=some (q,ys)) (hq:holds q) (r:aR ι H w) (hx:au ι x cx) (hs:au ι (.bw ob [] c.size off len (some k)) cs) (hob:H[ob]?=some (.cell true e (.arr m c xs))) (ns:off+len≤m)
  (hb:(len+ys.length) * de.bytes≤2 ^ 40) (hn:len+ys.length≤2 ^ 40) (hgrow:k < len+ys.length):
  xC E ι e c z H (len+ys.length) ((xs.drop off).take len++ys) w (Builtin.append_ #[t,t] ty #[cs,cx]):=by
 obtain ⟨l,hl,hcx⟩:=hZ h hq r hx
 obtain ⟨b,zz,kk,hbk,rfl,hk,hkz,hkk⟩:=gx hs
 have:=hkk k rfl;subst this
 obtain ⟨cells,fz,lo,rr,e1,e2,e3,e4,e5⟩:=(r.obj _ _ _ _ hob hbk).cell
 rw [aQ] at e4
 obtain ⟨hxs,hr⟩:=e4
 have hll:=fU hl
 obtain ⟨m1,m2,em,em1,hm1,hm2⟩:=hr.split (a7 c) off (by omega)
 obtain ⟨k1,k2,ek,ek1,hs1,hs2⟩:=hm2.split (a7 c) len (by simp;omega)
 have hnl:((xs.drop off).take len++ys).length=len+ys.length:=by simp;omega
 obtain ⟨i,zv,hi,hsi,hby,hzv,hzs,hzr⟩:=iO he hz
 rcases hcx with ⟨rfl,hcx⟩ | ⟨b2,off2,k2',rfl,hcells⟩
 ·simp at hgrow;omega
 ·have hp0:aJ []+off * c.size=off * c.size:=by simp [aJ]
  have hrun:=run_append_grow (P:=E.P) w t ty e i zv hu hi hzv ⟨b,off * c.size,none⟩ len kk k1 (by rw [ek1,hsi,hc]) (fun j u hu=>by
    rw [dJ,cell_of e1]
    have:off * c.size=m1.length:=em1.symm
    rw [this]
    exact At.xJ (l2:=k2++rr) (by rw [e2,em,ek];simp) j u hu)
   ⟨b2,off2,none⟩ ys.length k2' l (by rw [hsi,← hc];exact hll) hcells hgrow (by omega) (growslice_fits (by omega) (by rw [hby];omega))
  obtain ⟨j,hj,h1,h2⟩:=j3 (e:=e) (cs:=k1.toArray++l.toArray++Builtin.zeroCells zv.cells (grownCap w (len+ys.length) kk e - (len+ys.length))) (r.drew (w.drawn+1)) hzr (hs1.app hl) hnl (grownCap_ge w (len+ys.length) kk e) (by simp)
  rw [hp0]
  exact ⟨_,_,_,j,hrun,Ext.add ι _ _,h1,h2⟩
theorem sr {t tn ty e:TypeId} {kn kk:IntKind} {de:bG} {c:TC} {z:c.den} {n:Nat} (hu:E.P.underlying t=some (.slice e)) (hun:E.P.underlying tn=some (.int kn)) (he:de.ok E.P e) (hs0:de.size≠0) (hz:Kb c de.zero=some z) (r:aR ι H w)
  (hpos:0 < n) (hb:n * de.bytes≤2 ^ 40) (hn:n≤2 ^ 40):xC E ι e c z H n (List.replicate n z) w (Builtin.append_ #[t,tn] ty #[.slice none 0 0,.int kk n]):=by
 obtain ⟨i,zv,hi,hsi,hby,hzv,hzs,hzr⟩:=iO he hz
 have hrun:=Lib.run_append_nil_zeros (P:=E.P) w t tn ty e i zv kk kn hu hun hi hzv n hpos (by rw [hsi];omega) (by omega) (by rw [hby];omega)
 have hzl:∀ n,(Builtin.zeroCells zv.cells n).toList=(List.replicate n zv.cells.toList).flatten:=fun n=>by simpa [Builtin.zeroCells] using fO zv.cells n
 obtain ⟨j,hj,h1,h2⟩:=j3 (e:=e) (cs:=Builtin.zeroCells zv.cells n++Builtin.zeroCells zv.cells (grownCap w n 0 e - n)) (r.drew (w.drawn+1)) hzr (cL (hzr _) n) (by simp) (grownCap_ge w n 0 e) (by rw [Array.toList_append,hzl])
 exact ⟨_,_,_,j,hrun,Ext.add ι _ _,h1,h2⟩
theorem qe {t tn ty e:TypeId} {kn kk:IntKind} {de:bG} {c:TC} {z:c.den} {cs:Value} {ob off len m k n:Nat} {xs:List c.den} (hu:E.P.underlying t=some (.slice e)) (hun:E.P.underlying tn=some (.int kn)) (he:de.ok E.P e) (hc:c.size=de.size) (hs0:de.size≠0)
  (hz:Kb c de.zero=some z) (r:aR ι H w) (hs:au ι (.bw ob [] c.size off len (some k)) cs) (hob:H[ob]?=some (.cell true e (.arr m c xs))) (ns:off+len≤m)
  (hpos:0 < n) (hb:(len+n) * de.bytes≤2 ^ 40) (hn:len+n≤2 ^ 40) (hgrow:k < len+n):
  xC E ι e c z H (len+n) ((xs.drop off).take len++List.replicate n z) w (Builtin.append_ #[t,tn] ty #[cs,.int kk n]):=by
 obtain ⟨i,zv,hi,hsi,hby,hzv,hzs,hzr⟩:=iO he hz
 obtain ⟨b,zz,kk',hbk,rfl,hkl,hkz,hkk⟩:=gx hs
 have:=hkk k rfl;subst this
 obtain ⟨cells,fz,lo,rr,e1,e2,e3,e4,e5⟩:=(r.obj _ _ _ _ hob hbk).cell
 rw [aQ] at e4
 obtain ⟨hxs,hr⟩:=e4
 obtain ⟨m1,m2,em,em1,hm1,hm2⟩:=hr.split (a7 c) off (by omega)
 obtain ⟨k1,k2,ek,ek1,hs1,hs2⟩:=hm2.split (a7 c) len (by simp;omega)
 have hnl:((xs.drop off).take len++List.replicate n z).length=len+n:=by simp;omega
 have hp0:aJ []+off * c.size=off * c.size:=by simp [aJ]
 have hzl:∀ n,(Builtin.zeroCells zv.cells n).toList=(List.replicate n zv.cells.toList).flatten:=fun n=>by simpa [Builtin.zeroCells] using fO zv.cells n
 have hold:=run_firstCells_some (P:=E.P) w.drew i.size len ⟨b,off * c.size,none⟩ len kk' k1 (by rw [ek1,hsi,hc]) (fun j u hu=>by
   rw [show w.drew.cell?=w.cell? from rfl,dJ,cell_of e1]
   have:off * c.size=m1.length:=em1.symm
   rw [this]
   exact At.xJ (l2:=k2++rr) (by rw [e2,em,ek];simp) j u hu)
 have hrun:=Lib.run_append_grow_zeros (P:=E.P) w t tn ty e i zv kk kn hu hun hi hzv (some ⟨b,off * c.size,none⟩) len kk' k1 hold n (by omega) (by rw [hsi];omega) hgrow (by omega) (by rw [hby];exact Nat.le_trans (Nat.mul_le_mul_right _ (Nat.le_add_left n len)) (Nat.le_trans hb (by decide))) (growslice_fits (by omega) (by rw [hby];omega))
 obtain ⟨j,hj,h1,h2⟩:=j3 (e:=e) (cs:=k1.toArray++Builtin.zeroCells zv.cells n++Builtin.zeroCells zv.cells (grownCap w (len+n) kk' e - (len+n))) (r.drew (w.drawn+1)) hzr (hs1.app (cL (hzr _) n)) hnl (grownCap_ge w (len+n) kk' e) (by simp only [Array.toList_append,hzl])
 rw [hp0]
 exact ⟨_,_,_,j,hrun,Ext.add ι _ _,h1,h2⟩
theorem OJ (hV:E.Valid) {t1 t2 ty:TypeId} {s x:AV} {go:AV→av→Prop} {cs cx:Value} (h:SH E H t1 t2 s x go) (r:aR ι H w) (hs:au ι s cs) (hx:au ι x cx):
  ∃ v H' ι' w' u,go v H'∧(Builtin.append_ #[t1,t2] ty #[cs,cx]).run E.P w=.ok u w'∧Ext ι ι'∧aR ι' H' w'∧au ι' v u:=by
 unfold SH at h
 split at h
 case h_2=>cases h
 rename_i d d2 hd hd2
 split at h
 case h_2=>cases h
 rename_i e de he
 split at h
 case h_2=>cases h
 rename_i c hsl hc
 obtain ⟨hu,he1⟩:=s7 hV hd he hsl
 split at h
 case h_2=>cases h
 rename_i z hz
 split at h
 case isFalse=>cases h
 rename_i hcond
 have fin:∀ {n:Nat} {xs:List c.den} {m:Sem Value},xg e c z H n xs go→xC E ι e c z H n xs w m→∃ v H' ι' w' u,go v H'∧m.run E.P w=.ok u w'∧Ext ι ι'∧aR ι' H' w'∧au ι' v u:=by
  rintro n xs m hgo ⟨ι',w',u,j,h1,h2,h3,h4⟩
  exact ⟨_,_,ι',w',u,hgo j,h1,h2,h3,h4⟩
 split at h
 ·rename_i kn hdesc2
  have hu2:=(hV.ty _ _ hd2).1
  rw [hdesc2] at hu2
  split at h
  case h_2=>cases h
  rename_i kk n
  rw [hx.int]
  split at h
  ·obtain ⟨⟨h0,h1,h2,_⟩,h⟩:=cE h
   have:=hs.raw;subst this
   obtain ⟨m,rfl⟩:∃ m:Nat,n=m:=⟨n.toNat,by omega⟩
   simp only [Int.toNat_natCast] at h1 h2 h
   exact fin h (sr hu hu2 he1 hcond.2 hz r (by omega) h1 h2)
  ·rename_i ob s0 off len k
   split at h
   case h_2=>cases h
   rename_i t m c' xs hob
   split at h
   case isFalse=>cases h
   rename_i hcc;subst hcc
   split at h
   case isFalse=>cases h
   rename_i hst
   obtain ⟨⟨h0,hk,ns,h1,h2,_⟩,h⟩:=cE h
   obtain ⟨rfl,rfl⟩:=hst
   obtain ⟨mm,rfl⟩:∃ m:Nat,n=m:=⟨n.toNat,by omega⟩
   simp only [Int.toNat_natCast] at hk h1 h2 h
   exact fin h (qe hu hu2 he1 hcond.1 hcond.2 hz r hs hob ns (by omega) h1 h2 hk)
  ·cases h
 ·split at h
  case isFalse=>cases h
  rename_i ht;subst ht
  split at h
  case h_2=>cases h
  rename_i q ys happ
  split at h
  ·obtain ⟨hq,h⟩:=cE h
   have hus:=hs.raw;subst hus
   by_cases hys:ys.length=0
   ·have hc0:ak ys.length 0=true:=by simp [ak,hys]
    rw [hc0] at h
    obtain ⟨l,hl,hcx⟩:=hZ happ hq r hx
    refine ⟨_,H,ι,w,_,h,gJ hu he1 none 0 0 0 cx ?_ rfl (Nat.le_refl _),Ext.refl ι,r,hs⟩
    rcases hcx with ⟨_,h0 | ⟨a0,h0⟩⟩ | ⟨b,off,k,rfl,_⟩
    ·exact .inl ⟨h0,rfl⟩
    ·exact .inr ⟨a0,0,h0⟩
    ·exact .inr ⟨_,k,by rw [hys]⟩
   ·have hc0:ak ys.length 0=false:=by
     have hne:¬ ((ys.length:Int)=0):=by omega
     simp only [ak,beq_eq_false_iff_ne,ne_eq,hne,not_false_eq_true]
    rw [hc0] at h
    obtain ⟨⟨h1,h2,_⟩,h⟩:=cE h
    exact fin h (Iq hu he1 hcond.1 hz happ hq r hx (by omega) h1 h2)
  ·rename_i ob s0 off len k
   split at h
   case h_2=>cases h
   rename_i t m c' xs hob
   split at h
   case isFalse=>cases h
   rename_i hcc;subst hcc
   split at h
   case isFalse=>cases h
   rename_i hst
   obtain ⟨hq,h⟩:=cE h
   obtain ⟨rfl,rfl⟩:=hst
   cases hb:cF k ((len+ys.length:Nat):Int) with
   | true=>
    rw [hb] at h
    obtain ⟨⟨h1,h2,h3,_⟩,h⟩:=cE h
    have hlt:k < len+ys.length:=by simp only [cF,decide_eq_true_eq] at hb;omega
    exact fin h (Gh hu he1 hcond.1 hz happ hq r hx hs hob h1 h2 h3 hlt)
   | false=>
    rw [hb] at h
    obtain ⟨⟨h1,_⟩,h⟩:=cE h
    have hge:len+ys.length≤k:=by simp only [cF,decide_eq_false_iff_not] at hb;omega
    obtain ⟨w',u,k1,k2,k3⟩:=jL (ty:=ty) hu he1 hcond.1 happ hq r hx hs hob h1 hge
    exact ⟨_,_,ι,w',u,h,k1,Ext.refl ι,k2,k3⟩
  ·cases h
end Go.bz
end
section
namespace Go.bz
open Go.RowKit
variable {E:Env} {ι:aD} {T:List AV} {H:av} {a:Act} {w:World}
theorem aR.PS (h:aR ι H w) {i:Nat} {x y:aV} {b z:Nat} (hi:H[i]?=some x) (hb:ι.a6[i]?=some (b,z)) (ho:y.owned=true→x.owned=true) (hy:fj ι w b z y) (hne:y≠.hole:=by exact nofun):aR ι (H.set i y) w:=by
 have fI:∀ {j:Nat} {u:aV},(H.set i y)[j]?=some u→(j=i∧u=y)∨H[j]?=some u:=by
  intro j u e
  rw [List.getElem?_set] at e
  split at e
  ·rename_i hij;subst hij
   split at e
   ·left;exact ⟨rfl,by simpa using e.symm⟩
   ·cases e
  ·exact .inr e
 have key:∀ {j:Nat} {u:aV},(H.set i y)[j]?=some u→u.owned=true→∃ u',H[j]?=some u'∧u'.owned=true:=by
  intro j u e o
  rcases fI e with ⟨rfl,rfl⟩ | e
  ·exact ⟨_,hi,ho o⟩
  ·exact ⟨_,e,o⟩
 refine ⟨h.fY.set hi ⟨fun e=>(by rw [(h.fY.2 _ _ hi).1 e] at hb;cases hb),fun e=>absurd e hne⟩,h.a5,?_,?_,?_,h.base⟩
 ·intro j u b' z' e1 e2
  rcases fI e1 with ⟨rfl,rfl⟩ | e
  ·rw [hb] at e2;cases e2;exact hy
  ·exact h.obj _ _ _ _ e e2
 ·intro j u b' z' e1 o e2
  obtain ⟨u',k1,k2⟩:=key e1 o
  exact h.own _ _ _ _ k1 k2 e2
 ·intro j k u v b' z1 z2 e1 o1 e2 o2 b1 b2
  obtain ⟨u',k1,k2⟩:=key e1 o1
  obtain ⟨v',k3,k4⟩:=key e2 o2
  exact h.sep _ _ _ _ _ _ _ k1 k2 k3 k4 b1 b2
theorem aR.ghost (h:aR ι H w) (t:TypeId) (c:TC) (b z:Nat):aR (ι.add b z) (H++[.row t c []]) w:=by
 have hE:=Ext.add ι b z
 have fI:∀ {i:Nat} {b' z':Nat} {y:aV},(H++[aV.row t c []])[i]?=some y→(ι.add b z).a6[i]?=some (b',z')→
   (H[i]?=some y∧ι.a6[i]?=some (b',z'))∨y=.row t c []:=by
  intro i b' z' y e1 e2
  rcases Nat.lt_or_ge i H.length with hi | hi
  ·left
   rw [List.getElem?_append_left hi] at e1
   simp only [aD.add] at e2
   rw [fL.jV (h.len▸hi)] at e2
   exact ⟨e1,e2⟩
  ·right
   have:i < (H++[aV.row t c []]).length:=(List.getElem?_eq_some_iff.1 e1).1
   simp at this
   have hi':i=H.length:=by omega
   subst hi'
   simp at e1
   exact e1.symm
 refine ⟨h.fY.app (x:=.row t c []) nofun _,h.a5,?_,?_,?_,h.base⟩
 ·intro i y b' z' e1 e2
  rcases fI e1 e2 with ⟨k1,k2⟩ | rfl
  ·exact dw hE (fun _=>rfl) h.a5 (h.obj _ _ _ _ k1 k2)
  ·exact .inl rfl
 ·intro i y b' z' e1 ho e2
  rcases fI e1 e2 with ⟨k1,k2⟩ | rfl
  ·exact h.own _ _ _ _ k1 ho k2
  ·cases ho
 ·intro i j y y' b' z1 z2 e1 o1 e2 o2 b1 b2
  rcases fI e1 b1 with ⟨k1,k2⟩ | rfl
  ·rcases fI e2 b2 with ⟨k3,k4⟩ | rfl
   ·exact h.sep _ _ _ _ _ _ _ k1 o1 k3 o2 k2 k4
   ·cases o2
  ·cases o1
theorem aR.OS (h:aR ι H w) {i n:Nat} {t:TypeId} {c:TC} {xs:List c.den} (hi:H[i]?=some (.cell true t (.arr n c xs))):aR ι (H.set i (.row t c xs)) w:=by
 obtain ⟨b,z,hb⟩:=h.gm hi
 obtain ⟨cells,fz,l,r,e1,e2,e3,e4,e5⟩:=h.obj _ _ _ _ hi hb
 have e5:fz=(0,0):=e5
 subst e5
 rw [aQ] at e4
 exact h.PS hi hb (fun _=>rfl) (.inr ⟨cells,l,r,e1,e2,e3,e4.2⟩)
theorem aR.toCell (h:aR ι H w) {i:Nat} {t:TypeId} {c:TC} {xs:List c.den} (hi:H[i]?=some (.row t c xs)) (hx:xs≠[]):aR ι (H.set i (.cell true t (.arr xs.length c xs))) w:=by
 obtain ⟨b,z,hb⟩:=h.gm hi
 rcases h.obj _ _ _ _ hi hb with h0 | ⟨cells,l,r,e1,e2,e3,e4⟩
 ·exact absurd h0 hx
 ·refine h.PS hi hb (fun _=>?_) ⟨cells,(0,0),l,r,e1,e2,e3,?_,rfl⟩
  ·cases xs with
   | nil=>exact absurd rfl hx
   | cons=>rfl
  ·rw [aQ];exact ⟨rfl,e4⟩
theorem MT {c:TC} {ob:Nat} {t:TypeId} {c':TC} {xs:List c'.den} {y:aV} (ho:H[ob]?=some (.row t c' xs)) {x:AV} {r:List Prop×List c.den} (h:lZ c H x=some r):lZ c (H.set ob y) x=some r:=by
 unfold lZ at h ⊢
 split at h
 ·exact h
 ·exact h
 ·rename_i o p s off len cap
  by_cases e:ob=o
  ·subst e
   rw [ho] at h
   cases h
  ·rw [List.getElem?_set_ne e]
   exact h
 ·cases h
theorem wz {o s n z0:Nat} {u:Value} (hn:0 < n) (k:au ι (.bw o [] s 0 n none) u):au ι (.row o s n) u:=by
 obtain ⟨b,z,kk,e,rfl,k1,k2,_⟩:=gx k
 refine aC rfl ?_
 rw [aQ]
 exact ⟨b,z,_,e,rfl,.inr ⟨hn,kk,by simp [aJ],k1,by simpa [aJ] using k2⟩⟩
theorem mL {t ty e:TypeId} {de:bG} {c:TC} {x:AV} {q:List Prop} {ys:List c.den} {cx:Value} (hu:E.P.underlying t=some (.slice e)) (he:de.ok E.P e) (hc:c.size=de.size) (h:lZ c H x=some (q,ys)) (hq:holds q)
  (r:aR ι H w) (hx:au ι x cx) (hb:ys.length * de.bytes≤2 ^ 40) (hn:ys.length≤2 ^ 40):
  ∃ ι' w' u,(Builtin.append_ #[t,t] ty #[.slice none 0 0,cx]).run E.P w=.ok u w'∧Ext ι ι'∧aR ι' (H++[.row e c ys]) w'∧au ι' (.row H.length c.size ys.length) u:=by
 cases ys with
 | nil=>
  obtain ⟨l,hl,hcx⟩:=hZ h hq r hx
  refine ⟨ι.add 0 0,w,.slice none 0 0,?_,Ext.add ι 0 0,r.ghost e c 0 0,aC rfl ?_⟩
  ·refine gJ hu he none 0 0 0 cx ?_ rfl (Nat.le_refl _)
   rcases hcx with ⟨_,h0 | ⟨a0,h0⟩⟩ | ⟨b,off,k,rfl,_⟩
   ·exact .inl ⟨h0,rfl⟩
   ·exact .inr ⟨a0,0,h0⟩
   ·exact .inr ⟨_,k,rfl⟩
  ·rw [aQ]
   exact ⟨0,0,_,by rw [r.len];exact ι.fh 0 0,rfl,.inl ⟨rfl,rfl⟩⟩
 | cons y ys=>
  obtain ⟨ι',w',u,h1,h2,h3,h4⟩:=kq (ty:=ty) hu he hc h hq r hx (by simp) hb hn
  have:=h3.OS (i:=H.length) (t:=e) (c:=c) (n:=(y :: ys).length) (xs:=y :: ys) (by simp)
  refine ⟨ι',w',u,h1,h2,?_,wz (z0:=0) (by simp) h4⟩
  simpa using this
theorem HO (hV:E.Valid) {t1 ty:TypeId} {s x v:AV} {q:List Prop} {H':av} {cs cx:Value} (h:OK E H t1 s x=some (q,v,H')) (hq:holds q) (r:aR ι H w) (hs:au ι s cs) (hx:au ι x cx):
  ∃ ι' w' u,(Builtin.append_ #[t1,t1] ty #[cs,cx]).run E.P w=.ok u w'∧Ext ι ι'∧aR ι' H' w'∧au ι' v u:=by
 unfold OK at h
 split at h
 case h_2=>cases h
 rename_i d hd
 split at h
 case h_2=>cases h
 rename_i e de he
 split at h
 case h_2=>cases h
 rename_i c hsl hc
 obtain ⟨hu,he1⟩:=s7 hV hd he hsl
 split at h
 case isFalse=>cases h
 rename_i hcond
 split at h
 case h_2=>cases h
 rename_i q1 ys happ
 split at h
 ·simp only [Option.some.injEq,Prod.mk.injEq] at h;obtain ⟨rfl,rfl,rfl⟩:=h
  rw [bJ] at hq
  obtain ⟨hq1,h1,h2,_⟩:=hq
  have:=hs.raw;subst this
  exact mL hu he1 hcond.1 happ hq1 r hx h1 h2
 ·rename_i ob s0 len
  split at h
  case h_2=>cases h
  rename_i t c' xs hob
  split at h
  case isFalse=>cases h
  rename_i hcc;subst hcc
  split at h
  case isFalse=>cases h
  rename_i hst
  simp only [Option.some.injEq,Prod.mk.injEq] at h;obtain ⟨rfl,rfl,rfl⟩:=h
  rw [bJ] at hq
  obtain ⟨hq1,hm,h1,h2,_⟩:=hq
  obtain ⟨rfl,rfl⟩:=hst
  have hm:len=xs.length:=hm
  subst hm
  have hlt:=(List.getElem?_eq_some_iff.1 hob).1
  have hs':=hs.one rfl rfl
  rw [aQ] at hs'
  obtain ⟨b,z,v0,hbk,hv0,hv⟩:=hs'
  simp only [List.cons.injEq,and_true] at hv0
  subst hv0
  cases xs with
  | nil=>
   rcases hv with ⟨_,rfl⟩ | ⟨h0,_⟩
   ·obtain ⟨ι',w',u,k1,k2,k3,k4⟩:=mL (ty:=ty) hu he1 hcond.1 happ hq1 r hx (by simpa using h1) (by simpa using h2)
    refine ⟨ι',w',u,k1,k2,?_,by simpa using k4⟩
    have:=k3.kill (i:=ob) (by rw [List.getElem?_append_left hlt,hob];exact nofun)
    rw [List.set_append_left _ _ hlt] at this
    simpa using this
   ·simp at h0
  | cons x0 xs=>
   rcases hv with ⟨h0,_⟩ | ⟨hpos,k,rfl,hk,hkz⟩
   ·simp at h0
   ·have r1:=r.toCell hob (by simp)
    have hob1:(H.set ob (.cell true t (.arr (x0 :: xs).length c' (x0 :: xs))))[ob]?=some (.cell true t (.arr (x0 :: xs).length c' (x0 :: xs))):=by simp [hlt]
    have hsl':au ι (.bw ob [] c'.size 0 (x0 :: xs).length none) (.slice (some ⟨b,0,none⟩) (x0 :: xs).length k):=by
     refine aC rfl ?_
     rw [aQ]
     exact ⟨b,z,k,hbk,by simp [aJ],hk,by simpa [aJ] using hkz,by simp⟩
    obtain ⟨ι',w',u,k1,k2,k3,k4⟩:=kp (ty:=ty) hu he1 hcond.1 (MT hob happ) hq1 r1 hx hsl' hob1 h1 h2
    refine ⟨ι',w',u,k1,k2,?_,?_⟩
    ·rw [List.set_set] at k3
     have:=k3.OS (i:=H.length) (t:=t) (c:=c') (n:=(x0 :: xs).length+ys.length) (xs:=(x0 :: xs)++ys) (by rw [List.getElem?_append_right (by simp)];simp)
     have e:(H.set ob .dead++[aV.cell true t (.arr ((x0 :: xs).length+ys.length) c' ((x0 :: xs)++ys))]).set H.length (.row t c' ((x0 :: xs)++ys))=H.set ob .dead++[.row t c' ((x0 :: xs)++ys)]:=by
      rw [List.set_append_right _ _ (by simp)];simp
     rw [e] at this
     exact this
    ·rw [List.length_set] at k4
     exact wz (z0:=0) (by simp;omega) k4
 ·cases h
mutual
theorem wq {i:Nat} {t:TypeId} {own:Bool} {x:AV}:∀ {v u:AV} {H H':av} {q:List Prop},df H v=some (q,u,H')→H[i]?=some (.cell own t x)→H'[i]?=some (.cell own t x)
 | .row o s n,u,H,H',q,h,hi=>by
  simp only [df] at h
  split at h
  ·rename_i t' c xs ho
   split at h
   ·simp only [Option.some.injEq,Prod.mk.injEq] at h;obtain ⟨_,_,rfl⟩:=h
    have:o≠i:=by intro e;subst e;rw [ho] at hi;cases hi
    rw [List.getElem?_set_ne this];exact hi
   ·cases h
  ·cases h
 | .agg ss vs,u,H,H',q,h,hi=>by
  simp only [df] at h
  split at h
  ·rename_i q' us H1 h1
   simp only [Option.some.injEq,Prod.mk.injEq] at h;obtain ⟨_,_,rfl⟩:=h
   exact wu h1 hi
  ·cases h
 | .int _ _,_,_,_,_,h,hi=>by simp only [df,Option.some.injEq,Prod.mk.injEq] at h;rw [← h.2.2];exact hi
 | .bool _,_,_,_,_,h,hi=>by simp only [df,Option.some.injEq,Prod.mk.injEq] at h;rw [← h.2.2];exact hi
 | .str _,_,_,_,_,h,hi=>by simp only [df,Option.some.injEq,Prod.mk.injEq] at h;rw [← h.2.2];exact hi
 | .raw _,_,_,_,_,h,hi=>by simp only [df,Option.some.injEq,Prod.mk.injEq] at h;rw [← h.2.2];exact hi
 | .arr _ _ _,_,_,_,_,h,hi=>by simp only [df,Option.some.injEq,Prod.mk.injEq] at h;rw [← h.2.2];exact hi
 | .lM _,_,_,_,_,h,hi=>by simp only [df,Option.some.injEq,Prod.mk.injEq] at h;rw [← h.2.2];exact hi
 | .ptr _ _,_,_,_,_,h,hi=>by simp only [df,Option.some.injEq,Prod.mk.injEq] at h;rw [← h.2.2];exact hi
 | .ref _,_,_,_,_,h,hi=>by simp only [df,Option.some.injEq,Prod.mk.injEq] at h;rw [← h.2.2];exact hi
 | .gf _ _,_,_,_,_,h,hi=>by simp only [df,Option.some.injEq,Prod.mk.injEq] at h;rw [← h.2.2];exact hi
 | .bw _ _ _ _ _ _,_,_,_,_,h,hi=>by simp only [df,Option.some.injEq,Prod.mk.injEq] at h;rw [← h.2.2];exact hi
 | .fn _ _,_,_,_,_,h,hi=>by simp only [df,Option.some.injEq,Prod.mk.injEq] at h;rw [← h.2.2];exact hi
 | .yJ _ _,_,_,_,_,h,hi=>by simp only [df,Option.some.injEq,Prod.mk.injEq] at h;rw [← h.2.2];exact hi
 | .ik _,_,_,_,_,h,hi=>by simp only [df,Option.some.injEq,Prod.mk.injEq] at h;rw [← h.2.2];exact hi
 | .mp _,_,_,_,_,h,hi=>by simp only [df,Option.some.injEq,Prod.mk.injEq] at h;rw [← h.2.2];exact hi
 | .any,_,_,_,_,h,hi=>by simp only [df,Option.some.injEq,Prod.mk.injEq] at h;rw [← h.2.2];exact hi
 | .ns _,_,_,_,_,h,hi=>by simp only [df,Option.some.injEq,Prod.mk.injEq] at h;rw [← h.2.2];exact hi
 | .bC,_,_,_,_,h,hi=>by simp only [df,Option.some.injEq,Prod.mk.injEq] at h;rw [← h.2.2];exact hi
theorem wu {i:Nat} {t:TypeId} {own:Bool} {x:AV}:∀ {vs us:List AV} {H H':av} {q:List Prop},rZ H vs=some (q,us,H')→H[i]?=some (.cell own t x)→H'[i]?=some (.cell own t x)
 | [],_,_,_,_,h,hi=>by simp only [rZ,Option.some.injEq,Prod.mk.injEq] at h;rw [← h.2.2];exact hi
 | v :: vs,us,H,H',q,h,hi=>by
  simp only [rZ] at h
  split at h
  ·rename_i q1 u1 H1 h1
   split at h
   ·rename_i q2 us2 H2 h2
    simp only [Option.some.injEq,Prod.mk.injEq] at h;obtain ⟨_,_,rfl⟩:=h
    exact wu h2 (wq h1 hi)
   ·cases h
  ·cases h
end
theorem KC (r:aR ι H w) {o s n:Nat} {t:TypeId} {c:TC} {xs:List c.den} {cs:List Value} (ho:H[o]?=some (.row t c xs)) (hs:s=c.size) (hn:n=xs.length) (k:aQ ι (.row o s n) cs):
  ∃ ι',Ext ι ι'∧aR ι' (H.set o .dead) w∧aQ ι' (.gf c xs) cs:=by
 subst hs hn
 rw [aQ] at k
 obtain ⟨b,z,v0,hbk,rfl,hv⟩:=k
 cases xs with
 | nil=>
  rcases hv with ⟨_,rfl⟩ | ⟨h0,_⟩
  ·exact ⟨ι,Ext.refl ι,r.kill (by rw [ho];exact nofun),by rw [aQ];exact ⟨_,rfl,.inl ⟨rfl,.inl rfl⟩⟩⟩
  ·simp at h0
 | cons x0 xs=>
  rcases hv with ⟨h0,_⟩ | ⟨hpos,k,rfl,hk,hkz⟩
  ·simp at h0
  ·have hlt:=(List.getElem?_eq_some_iff.1 ho).1
   have r1:=r.toCell ho (by simp)
   have ho1:(H.set o (.cell true t (.arr (x0 :: xs).length c (x0 :: xs))))[o]?=some (.cell true t (.arr (x0 :: xs).length c (x0 :: xs))):=by simp [hlt]
   obtain ⟨cells,fz,l,rr,e1,e2,e3,e4,e5⟩:=(r1.obj _ _ _ _ ho1 hbk).cell
   obtain ⟨hE,hR⟩:=r1.freeze ho1 hbk
   have hK:=hR.kill (i:=o) (by simp [hlt])
   rw [List.set_set,List.set_set] at hK
   refine ⟨_,hE,hK,?_⟩
   rw [aQ] at e4
   obtain ⟨_,hrep⟩:=e4
   rw [aQ]
   refine ⟨_,rfl,.inr ⟨b,0,k,cells,t,fz,l,rfl,hk,?_,hrep.mono fun x l=>cn hE.sub c x l,?_⟩⟩
   ·simp only [aD.freeze,if_true];exact e1
   ·have:=At.xJ (l1:=[]) (m:=l) (l2:=rr) (cells:=cells) (by simpa using e2)
    simpa using this
mutual
theorem Cf:∀ {v u:AV} {H H':av} {q:List Prop} {ι:aD} {cs:List Value},df H v=some (q,u,H')→holds q→aR ι H w→aQ ι v cs→∃ ι',Ext ι ι'∧aR ι' H' w∧aQ ι' u cs
 | .row o s n,u,H,H',q,ι,cs,h,hq,r,k=>by
  simp only [df] at h
  split at h
  ·rename_i t' c xs ho
   split at h
   ·rename_i hs
    simp only [Option.some.injEq,Prod.mk.injEq] at h;obtain ⟨rfl,rfl,rfl⟩:=h
    exact KC r ho hs hq.1 k
   ·cases h
  ·cases h
 | .agg ss vs,u,H,H',q,ι,cs,h,hq,r,k=>by
  simp only [df] at h
  split at h
  ·rename_i q' us H1 h1
   simp only [Option.some.injEq,Prod.mk.injEq] at h;obtain ⟨rfl,rfl,rfl⟩:=h
   rw [aQ] at k
   obtain ⟨ι',hE,hR,k'⟩:=Cg h1 hq r k
   exact ⟨ι',hE,hR,by rw [aQ];exact k'⟩
  ·cases h
 | .int _ _,_,_,_,_,ι,_,h,_,r,k=>by simp only [df,Option.some.injEq,Prod.mk.injEq] at h;obtain ⟨_,rfl,rfl⟩:=h;exact ⟨ι,Ext.refl ι,r,k⟩
 | .bool _,_,_,_,_,ι,_,h,_,r,k=>by simp only [df,Option.some.injEq,Prod.mk.injEq] at h;obtain ⟨_,rfl,rfl⟩:=h;exact ⟨ι,Ext.refl ι,r,k⟩
 | .str _,_,_,_,_,ι,_,h,_,r,k=>by simp only [df,Option.some.injEq,Prod.mk.injEq] at h;obtain ⟨_,rfl,rfl⟩:=h;exact ⟨ι,Ext.refl ι,r,k⟩
 | .raw _,_,_,_,_,ι,_,h,_,r,k=>by simp only [df,Option.some.injEq,Prod.mk.injEq] at h;obtain ⟨_,rfl,rfl⟩:=h;exact ⟨ι,Ext.refl ι,r,k⟩
 | .arr _ _ _,_,_,_,_,ι,_,h,_,r,k=>by simp only [df,Option.some.injEq,Prod.mk.injEq] at h;obtain ⟨_,rfl,rfl⟩:=h;exact ⟨ι,Ext.refl ι,r,k⟩
 | .lM _,_,_,_,_,ι,_,h,_,r,k=>by simp only [df,Option.some.injEq,Prod.mk.injEq] at h;obtain ⟨_,rfl,rfl⟩:=h;exact ⟨ι,Ext.refl ι,r,k⟩
 | .ptr _ _,_,_,_,_,ι,_,h,_,r,k=>by simp only [df,Option.some.injEq,Prod.mk.injEq] at h;obtain ⟨_,rfl,rfl⟩:=h;exact ⟨ι,Ext.refl ι,r,k⟩
 | .ref _,_,_,_,_,ι,_,h,_,r,k=>by simp only [df,Option.some.injEq,Prod.mk.injEq] at h;obtain ⟨_,rfl,rfl⟩:=h;exact ⟨ι,Ext.refl ι,r,k⟩
 | .gf _ _,_,_,_,_,ι,_,h,_,r,k=>by simp only [df,Option.some.injEq,Prod.mk.injEq] at h;obtain ⟨_,rfl,rfl⟩:=h;exact ⟨ι,Ext.refl ι,r,k⟩
 | .bw _ _ _ _ _ _,_,_,_,_,ι,_,h,_,r,k=>by simp only [df,Option.some.injEq,Prod.mk.injEq] at h;obtain ⟨_,rfl,rfl⟩:=h;exact ⟨ι,Ext.refl ι,r,k⟩
 | .fn _ _,_,_,_,_,ι,_,h,_,r,k=>by simp only [df,Option.some.injEq,Prod.mk.injEq] at h;obtain ⟨_,rfl,rfl⟩:=h;exact ⟨ι,Ext.refl ι,r,k⟩
 | .yJ _ _,_,_,_,_,ι,_,h,_,r,k=>by simp only [df,Option.some.injEq,Prod.mk.injEq] at h;obtain ⟨_,rfl,rfl⟩:=h;exact ⟨ι,Ext.refl ι,r,k⟩
 | .ik _,_,_,_,_,ι,_,h,_,r,k=>by simp only [df,Option.some.injEq,Prod.mk.injEq] at h;obtain ⟨_,rfl,rfl⟩:=h;exact ⟨ι,Ext.refl ι,r,k⟩
 | .mp _,_,_,_,_,ι,_,h,_,r,k=>by simp only [df,Option.some.injEq,Prod.mk.injEq] at h;obtain ⟨_,rfl,rfl⟩:=h;exact ⟨ι,Ext.refl ι,r,k⟩
 | .any,_,_,_,_,ι,_,h,_,r,k=>by simp only [df,Option.some.injEq,Prod.mk.injEq] at h;obtain ⟨_,rfl,rfl⟩:=h;exact ⟨ι,Ext.refl ι,r,k⟩
 | .ns _,_,_,_,_,ι,_,h,_,r,k=>by simp only [df,Option.some.injEq,Prod.mk.injEq] at h;obtain ⟨_,rfl,rfl⟩:=h;exact ⟨ι,Ext.refl ι,r,k⟩
 | .bC,_,_,_,_,ι,_,h,_,r,k=>by simp only [df,Option.some.injEq,Prod.mk.injEq] at h;obtain ⟨_,rfl,rfl⟩:=h;exact ⟨ι,Ext.refl ι,r,k⟩
theorem Cg:∀ {vs us:List AV} {H H':av} {q:List Prop} {ι:aD} {ss:List Nat} {cs:List Value},rZ H vs=some (q,us,H')→holds q→aR ι H w→cH ι ss vs cs→∃ ι',Ext ι ι'∧aR ι' H' w∧cH ι' ss us cs
 | [],_,_,_,_,ι,_,_,h,_,r,k=>by simp only [rZ,Option.some.injEq,Prod.mk.injEq] at h;obtain ⟨_,rfl,rfl⟩:=h;exact ⟨ι,Ext.refl ι,r,k⟩
 | v :: vs,us,H,H',q,ι,ss,cs,h,hq,r,k=>by
  simp only [rZ] at h
  split at h
  ·rename_i q1 u1 H1 h1
   split at h
   ·rename_i q2 us2 H2 h2
    simp only [Option.some.injEq,Prod.mk.injEq] at h;obtain ⟨rfl,rfl,rfl⟩:=h
    rw [bJ] at hq
    rw [cH] at k
    obtain ⟨s,ss',l,m,e1,e2,e3,k1,k2⟩:=k
    obtain ⟨ι1,hE1,r1,k1'⟩:=Cf h1 hq.1 r k1
    obtain ⟨ι2,hE2,r2,k2'⟩:=Cg h2 hq.2 r1 (jO hE1.sub _ _ _ k2)
    refine ⟨ι2,hE1.trans hE2,r2,?_⟩
    rw [cH]
    exact ⟨s,ss',l,m,e1,e2,e3,b6 hE2.sub _ _ k1',k2'⟩
   ·cases h
  ·cases h
end
theorem N3 {f:FuncId} {id:Nat} {q:List Prop} {H':av} (h:Rw E f id T H=some (q,H')) (hq:holds q) (r:aR ι H w):∃ ι',Ext ι ι'∧aR ι' H' w:=by
 unfold Rw at h
 split at h
 ·simp only [Option.some.injEq,Prod.mk.injEq] at h;obtain ⟨_,rfl⟩:=h
  exact ⟨ι,Ext.refl ι,r⟩
 ·split at h
  ·rename_i ob p ht
   split at h
   ·rename_i ty v ho
    split at h
    ·rename_i q' u H1 hs
     split at h
     ·rename_i hsz
      simp only [Option.some.injEq,Prod.mk.injEq] at h;obtain ⟨rfl,rfl⟩:=h
      obtain ⟨b,z,hb⟩:=r.gm ho
      obtain ⟨cells,fz,l,rr,e1,e2,e3,e4,e5⟩:=r.obj _ _ _ _ ho hb
      obtain ⟨ι',hE,r',k⟩:=Cf hs hq r e4
      have ho':=wq hs ho
      exact ⟨ι',hE,r'.PS ho' (hE.a6 _ _ hb) (fun _=>rfl) ⟨cells,fz,l,rr,e1,e2,e3,k,e5⟩⟩
     ·cases h
    ·cases h
   ·cases h
  ·cases h
end Go.bz
end
section
namespace Go.bz
open Go.RowKit
variable {E:Env} {ι:aD} {T:List AV} {H:av} {a:Act} {w:World}
def TC.lT:TC→Bool
 | .int _=>true | .bool=>true | .str=>true | .unit=>true
 | .st a r=>a.lT&&r.lT | .bu a=>a.lT
 | .arr _ c=>c.flat
 | _=>false
def TC.Ke:Nat→TC→Bool
 | 0,.st .bC r=>r.lT
 | 0,.bu .bC=>true
 | k+1,.st a r=>a.lT&&r.Ke k
 | _,_=>false
def aH.wf (ps:aH):Bool:=ps.ce.flat&&ps.cB.flat&&ps.st.Ke ps.lf
theorem jE:∀ {c:TC},c.lT=true→c.flat=true
 | .int _,_=>rfl | .bool,_=>rfl | .str,_=>rfl | .unit,_=>rfl
 | .st a r,h=>by simp only [TC.lT,Bool.and_eq_true] at h;simp only [TC.flat,jE h.1,jE h.2,Bool.and_self]
 | .bu a,h=>jE (c:=a) h
 | .arr _ _,h=>h
 | .slice _,h=>by cases h
 | .ref _,h=>by cases h
 | .bC,h=>by cases h
theorem wZ:∀ {k:Nat} {c:TC},c.Ke k=true→c.flat=true
 | 0,.st .bC r,h=>by simp only [TC.flat,Bool.true_and];exact jE h
 | 0,.bu .bC,_=>rfl
 | k+1,.st a r,h=>by
  simp only [TC.Ke,Bool.and_eq_true] at h
  simp only [TC.flat,jE h.1,wZ h.2,Bool.and_self]
theorem yC:∀ {c:TC},c.lT=true→(∀ (v:AV) (x:c.den) (cs:List Value),c.back.1 v=some x→(aQ ι v cs↔bO ι c x cs))∧
  (∀ (vs:List AV) (x:c.den) (cs:List Value),c.back.2 vs=some x→(cH ι c.gD vs cs↔bO ι c x cs)):=by
 have lone:∀ (c:TC),c.gD=[c.size]→(∀ vs,c.back.2 vs=oneOf c.back.1 vs)→(∀ (v:AV) (x:c.den) (cs:List Value),c.back.1 v=some x→(aQ ι v cs↔bO ι c x cs))→
   ∀ (vs:List AV) (x:c.den) (cs:List Value),c.back.2 vs=some x→(cH ι c.gD vs cs↔bO ι c x cs):=by
  intro c hs hb h1 vs x cs h
  rw [hb] at h
  obtain ⟨v,rfl,hv⟩:=jA h
  rw [hs,eE,h1 _ _ _ hv]
  exact ⟨fun k=>k.2,fun k=>⟨a7 c _ _ k,k⟩⟩
 intro c
 induction c with
 | int k=>
  intro _
  have h1:∀ (v:AV) (x:(TC.int k).den) (cs:List Value),(TC.int k).back.1 v=some x→(aQ ι v cs↔bO ι (.int k) x cs):=by
   intro v x cs h
   cases v<;>simp [TC.back] at h
   obtain ⟨h1,h2⟩:=h;subst h1;subst h2
   rw [aQ];exact Iff.rfl
  exact ⟨h1,lone (.int k) rfl (fun _=>rfl) h1⟩
 | bool=>
  intro _
  have h1:∀ (v:AV) (x:(TC.bool).den) (cs:List Value),(TC.bool).back.1 v=some x→(aQ ι v cs↔bO ι .bool x cs):=by
   intro v x cs h
   cases v<;>simp [TC.back] at h
   subst h
   rw [aQ];exact Iff.rfl
  exact ⟨h1,lone .bool rfl (fun _=>rfl) h1⟩
 | str=>
  intro _
  have h1:∀ (v:AV) (x:(TC.str).den) (cs:List Value),(TC.str).back.1 v=some x→(aQ ι v cs↔bO ι .str x cs):=by
   intro v x cs h
   cases v<;>simp [TC.back] at h
   subst h
   rw [aQ];exact Iff.rfl
  exact ⟨h1,lone .str rfl (fun _=>rfl) h1⟩
 | unit=>
  intro _
  have h1:∀ (v:AV) (x:(TC.unit).den) (cs:List Value),(TC.unit).back.1 v=some x→(aQ ι v cs↔bO ι .unit x cs):=by
   intro v x cs h
   simp only [TC.back] at h
   split at h
   ·rw [aQ,cH]
    exact ⟨fun k=>k.2,fun k=>⟨rfl,k⟩⟩
   ·cases h
  exact ⟨h1,lone .unit rfl (fun _=>rfl) h1⟩
 | st a r iha ihr=>
  intro hf
  simp only [TC.lT,Bool.and_eq_true] at hf
  have ia:=(iha hf.1).1
  have ir:=(ihr hf.2).2
  have h2:∀ (vs:List AV) (x:(TC.st a r).den) (cs:List Value),(TC.st a r).back.2 vs=some x→(cH ι (TC.st a r).gD vs cs↔bO ι (.st a r) x cs):=by
   intro vs x cs h
   simp only [TC.back] at h
   split at h
   ·rename_i v l
    split at h
    ·rename_i y hy
     split at h
     ·rename_i z hz
      simp only [Option.some.injEq] at h;subst h
      simp only [TC.gD,cH,bO]
      constructor
      ·rintro ⟨s,ss',l1,m,e1,e2,e3,k1,k2⟩
       cases e1
       exact ⟨l1,m,e2,(ia _ _ _ hy).1 k1,(ir _ _ _ hz).1 k2⟩
      ·rintro ⟨l1,m,e,k1,k2⟩
       exact ⟨_,_,l1,m,rfl,e,a7 _ _ _ k1,(ia _ _ _ hy).2 k1,(ir _ _ _ hz).2 k2⟩
     ·cases h
    ·cases h
   ·cases h
  refine ⟨?_,h2⟩
  intro v x cs h
  cases v<;>simp only [TC.back] at h<;>try (cases h;done)
  rename_i ss vs
  split at h
  ·rename_i hss;subst hss
   rw [aQ]
   exact h2 _ _ _ h
  ·cases h
 | bu a iha=>
  intro hf
  have ia:=(iha hf).1
  have h2:∀ (vs:List AV) (x:(TC.bu a).den) (cs:List Value),(TC.bu a).back.2 vs=some x→(cH ι (TC.bu a).gD vs cs↔bO ι (.bu a) x cs):=by
   intro vs x cs h
   obtain ⟨v,rfl,hv⟩:=jA h
   simp only [TC.gD,eE,bO]
   rw [ia _ _ _ hv]
   exact ⟨fun k=>k.2,fun k=>⟨a7 a _ _ k,k⟩⟩
  refine ⟨?_,h2⟩
  intro v x cs h
  cases v<;>simp only [TC.back] at h<;>try (cases h;done)
  rename_i ss vs
  split at h
  ·rename_i hss;subst hss
   rw [aQ]
   exact h2 _ _ _ h
  ·cases h
 | arr n c _=>
  intro _
  have h1:∀ (v:AV) (x:(TC.arr n c).den) (cs:List Value),(TC.arr n c).back.1 v=some x→(aQ ι v cs↔bO ι (.arr n c) x cs):=by
   intro v x cs h
   cases v<;>simp only [TC.back] at h<;>try (cases h;done)
   split at h
   ·rename_i hc;subst hc
    split at h
    ·rename_i hn;subst hn
     simp only [Option.some.injEq] at h;subst h
     rw [aQ]
    ·cases h
   ·cases h
  exact ⟨h1,lone (.arr n c) rfl (fun _=>rfl) h1⟩
 | slice c _=>intro h;cases h
 | ref c _=>intro h;cases h
 | bC=>intro h;cases h
theorem uR:∀ {k:Nat} {c:TC},c.Ke k=true→∀ {vs:List AV} {x:c.den},c.back.2 vs=some x→
  ∃ r,vs[k]?=some r∧ph r=true∧
   (∀ {ι:aD} {cs:List Value},cH ι c.gD vs cs→bO ι c x cs∧∃ l1 m l2,cs=l1++(m :: l2)∧l1.length=(c.gD.take k).sum∧aQ ι r [m])∧
   (∀ r',ph r'=true→c.back.2 (vs.set k r')=some x∧∀ {ι:aD} {l1 l2:List Value} {m:Value},l1.length=(c.gD.take k).sum→bO ι c x (l1++(m :: l2))→aQ ι r' [m]→cH ι c.gD (vs.set k r') (l1++(m :: l2)))
 | 0,.st .bC r,hg,vs,x,h=>by
  have hr:=fun ι=>(yC (ι:=ι) (c:=r) hg).2
  simp only [TC.back] at h
  split at h
  ·rename_i v l
   split at h
   ·rename_i y hy
    split at h
    ·rename_i z hz
     simp only [Option.some.injEq] at h;subst h
     have hv:ph v=true:=by
      by_cases e:ph v=true
      ·exact e
      ·rw [if_neg e] at hy;cases hy
     refine ⟨v,rfl,hv,?_,?_⟩
     ·intro ι cs k
      simp only [TC.gD,cH] at k
      obtain ⟨s,ss',l1,m,e1,e2,e3,k1,k2⟩:=k
      cases e1
      obtain ⟨cc,rfl,hcc⟩:=p8 hv k1
      refine ⟨⟨[cc],m,e2,⟨cc,rfl,hcc⟩,(hr ι _ _ _ hz).1 k2⟩,[],cc,m,e2,rfl,k1⟩
     ·intro r' hr'
      refine ⟨?_,?_⟩
      ·simp only [List.set_cons_zero,TC.back]
       rw [if_pos hr']
       simp only [hz]
      ·intro ι l1 l2 m hl k hm
       have:l1=[]:=List.eq_nil_of_length_eq_zero (by simpa using hl)
       subst this
       obtain ⟨l,m',e,k1,k2⟩:=k
       obtain ⟨cc,rfl,hcc⟩:=k1
       simp only [List.nil_append,List.singleton_append,List.cons.injEq] at e
       obtain ⟨rfl,rfl⟩:=e
       simp only [List.set_cons_zero,TC.gD,cH]
       exact ⟨_,_,[m],l2,rfl,rfl,rfl,hm,(hr ι _ _ _ hz).2 k2⟩
    ·cases h
   ·cases h
  ·cases h
 | 0,.bu .bC,_,vs,x,h=>by
  obtain ⟨v,rfl,hv0⟩:=jA h
  have hv:ph v=true:=by
   simp only [TC.back] at hv0
   by_cases e:ph v=true
   ·exact e
   ·rw [if_neg e] at hv0;cases hv0
  refine ⟨v,rfl,hv,?_,?_⟩
  ·intro ι cs k
   simp only [TC.gD,eE] at k
   obtain ⟨cc,rfl,hcc⟩:=p8 hv k.2
   exact ⟨⟨cc,rfl,hcc⟩,[],cc,[],rfl,rfl,k.2⟩
  ·intro r' hr'
   refine ⟨?_,?_⟩
   ·simp only [List.set_cons_zero,TC.back,oneOf]
    rw [if_pos hr']
   ·intro ι l1 l2 m hl k hm
    have:l1=[]:=List.eq_nil_of_length_eq_zero (by simpa using hl)
    subst this
    obtain ⟨cc,e,hcc⟩:=k
    simp only [List.nil_append,List.cons.injEq] at e
    obtain ⟨rfl,rfl⟩:=e
    simp only [List.set_cons_zero,TC.gD,eE]
    exact ⟨rfl,hm⟩
 | k+1,.st a r,hg,vs,x,h=>by
  simp only [TC.Ke,Bool.and_eq_true] at hg
  have ha:=fun ι=>(yC (ι:=ι) (c:=a) hg.1).1
  simp only [TC.back] at h
  split at h
  ·rename_i v l
   split at h
   ·rename_i y hy
    split at h
    ·rename_i z hz
     simp only [Option.some.injEq] at h;subst h
     obtain ⟨rr,h1,h2,h3,h4⟩:=uR hg.2 hz
     refine ⟨rr,by simpa using h1,h2,?_,?_⟩
     ·intro ι cs kk
      simp only [TC.gD,cH] at kk
      obtain ⟨s,ss',l1,m,e1,e2,e3,k1,k2⟩:=kk
      cases e1
      obtain ⟨g1,l1',m',l2',e,hl,hm⟩:=h3 k2
      refine ⟨⟨l1,m,e2,(ha ι _ _ _ hy).1 k1,g1⟩,l1++l1',m',l2',by rw [e2,e,List.append_assoc],?_,hm⟩
      simp only [TC.gD,List.take_succ_cons,List.sum_cons,List.length_append,hl,e3]
     ·intro r' hr'
      obtain ⟨b1,b2⟩:=h4 r' hr'
      refine ⟨?_,?_⟩
      ·simp only [List.set_cons_succ,TC.back,hy,b1]
      ·intro ι l1 l2 m hl kk hm
       obtain ⟨p1,p2,e,k1,k2⟩:=kk
       have hp1:=a7 a _ _ k1
       simp only [TC.gD,List.take_succ_cons,List.sum_cons] at hl
       have e1:l1=p1++l1.drop a.size:=by
        have:=congrArg (List.take a.size) e
        rw [List.take_append_of_le_length (by omega),← hp1,List.take_left' rfl,hp1] at this
        rw [← this,List.take_append_drop]
       have e2:p2=l1.drop a.size++(m :: l2):=by
        rw [e1,List.append_assoc] at e
        exact (List.append_cancel_left e).symm
       rw [e2] at k2
       simp only [List.set_cons_succ,TC.gD,cH]
       refine ⟨_,_,p1,l1.drop a.size++(m :: l2),rfl,?_,hp1,(ha ι _ _ _ hy).2 k1,b2 (by simp;omega) k2 hm⟩
       rw [← List.append_assoc,← e1]
    ·cases h
   ·cases h
  ·cases h
end Go.bz
end
section
namespace Go.bz
open Go.RowKit
variable {E:Env} {ι:aD} {T:List AV} {H:av} {a:Act} {w:World}
def H0 (ps:aH) (S:ps.st.den) (xs:List ps.ce.den):av:=
 [.cell true ps.t (.agg ps.st.gD ((ps.st.both S).2.set ps.lf (.row 1 ps.ce.size xs.length))),.row ps.te ps.ce xs]
def aH.self (ps:aH):AV:=if ps.box=true then .ref (.ptr 0 []) else .ptr 0 []
def aH.dt (ps:aH) (x:ps.arg.den):List AV:=(bp ps.arg x).take ps.pos++ps.self :: (bp ps.arg x).drop ps.pos
def aj (E:Env) (f:FuncId) (ps:aH):Prop:=
 ps.wf=true∧∀ (S:ps.st.den) (xs:List ps.ce.den) (x:ps.arg.den) (ι:aD) (w:World) (args:List Value),ps.pre (S,xs,x)→aR ι (H0 ps S xs) w→dc E ι→
  a4 (au ι) (ps.dt x) args→iB E.P f args.toArray w fun c w'=>∃ ι' H' o vs',Ext ι ι'∧aR ι' H' w'∧H'[0]?=some (.cell true ps.t (.agg ps.st.gD vs'))∧ps.st.back.2 vs'=some S∧
   vs'[ps.lf]?=some (.row o ps.ce.size (ps.f (S,xs,x)).length)∧H'[o]?=some (.row ps.te ps.ce (ps.f (S,xs,x)))∧au ι' (l9 ps.n ps.cB (ps.g (S,xs,x))) c
theorem a4.HN {α β:Type} {R:α→β→Prop}:∀ {l1 l2:List α} {m:List β},a4 R (l1++l2) m→∃ m1 m2,m=m1++m2∧a4 R l1 m1∧a4 R l2 m2
 | [],_,m,h=>⟨[],m,rfl,.nil,h⟩
 | _ :: l1,_,_,h=>by
  obtain ⟨y,m',rfl,h1,h2⟩:=h.cons_inv
  obtain ⟨m1,m2,rfl,k1,k2⟩:=h2.HN
  exact ⟨y :: m1,m2,rfl,.cons h1 k1,k2⟩
theorem a4.put {α β:Type} {R:α→β→Prop} {p:α} {c:β} (hp:R p c) {m3:List β}:∀ {m1:List β} {l:List α},a4 R l (m1++m3)→a4 R (l.take m1.length++p :: l.drop m1.length) (m1++c :: m3)
 | [],_,h=>.cons hp h
 | _ :: m1,l,h=>by
  cases h with
  | cons h1 h2=>exact .cons h1 (a4.put hp h2)
theorem JZ:∀ {k:Nat} {c:TC},c.Ke k=true→∀ x:c.den,c.back.2 (c.both x).2=some x:=by
 have key:∀ {c:TC},c.lT=true→(∀ x:c.den,c.back.1 (c.both x).1=some x)∧∀ x:c.den,c.back.2 (c.both x).2=some x:=by
  intro c
  induction c with
  | int k=>intro _;exact ⟨fun x=>by simp [TC.both,TC.back],fun x=>by simp [TC.both,TC.back,oneOf]⟩
  | bool=>intro _;exact ⟨fun x=>by simp [TC.both,TC.back],fun x=>by simp [TC.both,TC.back,oneOf]⟩
  | str=>intro _;exact ⟨fun x=>by simp [TC.both,TC.back],fun x=>by simp [TC.both,TC.back,oneOf]⟩
  | unit=>intro _;exact ⟨fun x=>by simp [TC.both,TC.back],fun x=>by simp [TC.both,TC.back,oneOf]⟩
  | st a r iha ihr=>
   intro hf
   simp only [TC.lT,Bool.and_eq_true] at hf
   have h2:∀ x:(TC.st a r).den,(TC.st a r).back.2 ((TC.st a r).both x).2=some x:=fun x=>by
    simp only [TC.both,TC.back,(iha hf.1).1,(ihr hf.2).2]
   refine ⟨fun x=>?_,h2⟩
   have:=h2 x
   simp only [TC.both,TC.back] at this ⊢
   simpa using this
  | bu a iha=>
   intro hf
   have ia:=(iha hf).1
   have h2:∀ x:(TC.bu a).den,(TC.bu a).back.2 ((TC.bu a).both x).2=some x:=fun x=>ia x
   refine ⟨fun x=>?_,h2⟩
   have:=h2 x
   simp only [TC.both,TC.back] at this ⊢
   simpa using this
  | arr n c _=>intro _;exact ⟨fun x=>by simp [TC.both,TC.back],fun x=>by simp [TC.both,TC.back,oneOf]⟩
  | slice c _=>intro h;cases h
  | ref c _=>intro h;cases h
  | bC=>intro h;cases h
 intro k
 induction k with
 | zero=>
  intro c hg x
  cases c<;>try (exfalso;revert hg;simp [TC.Ke];done)
  ·rename_i a r
   cases a<;>try (exfalso;revert hg;simp [TC.Ke];done)
   have hg:r.lT=true:=hg
   simp only [TC.both,TC.back,ph,if_true,(key hg).2]
  ·rename_i a
   cases a<;>try (exfalso;revert hg;simp [TC.Ke];done)
   rfl
 | succ k ih=>
  intro c hg x
  cases c<;>try (exfalso;revert hg;simp [TC.Ke];done)
  rename_i a r
  simp only [TC.Ke,Bool.and_eq_true] at hg
  simp only [TC.both,TC.back,(key hg.1).1,ih hg.2]
theorem yL {b z:Nat} {c:Value} {ob:Nat} (hb:ι.a6[ob]?=some (b,z)) (k:au ι (.ptr ob []) c):c=.pointer (some ⟨b,0,none⟩):=by
 have:=k.one rfl rfl
 rw [aQ] at this
 obtain ⟨b',z',e,h⟩:=this
 rw [hb] at e;cases e
 simpa [aJ] using h
theorem K8 {ps:aH} {r:AV} {q1:List Prop} {xs:List ps.ce.den} {H1:av} (h:rowOf ps H r=some (q1,xs,H1)) (hq:holds q1) (hr:aR ι H w) {m:Value} (hm:aQ ι r [m]):
  aR ι H1 w∧H1.length=H.length∧ph r=true∧(∀ (i:Nat),(∀ t c ys,H[i]?≠some (aV.row t c ys))→H1[i]?=H[i]?)∧(∀ (i:Nat) y,H1[i]?=some y→y=aV.dead∨H[i]?=some y)∧
   ((xs=[]∧m=.slice none 0 0)∨(xs≠[]∧∃ (o b z k:Nat),H[o]?=some (aV.row ps.te ps.ce xs)∧H1[o]?=some aV.dead∧ι.a6[o]?=some (b,z)∧m=.slice (some ⟨b,0,none⟩) xs.length k∧xs.length≤k∧k * ps.ce.size≤z)):=by
 unfold rowOf at h
 split at h
 ·simp only [Option.some.injEq,Prod.mk.injEq] at h
  obtain ⟨rfl,rfl,rfl⟩:=h
  rw [aQ] at hm
  exact ⟨hr,rfl,rfl,fun _ _=>rfl,fun _ _ e=>.inr e,.inl ⟨rfl,by simpa using hm.1⟩⟩
 ·rename_i o s n
  split at h
  case h_2=>cases h
  rename_i te c ys ho
  split at h
  case isFalse=>cases h
  rename_i hc;subst hc
  split at h
  case isFalse=>cases h
  rename_i hts
  obtain ⟨rfl,rfl⟩:=hts
  simp only [Option.some.injEq,Prod.mk.injEq] at h
  obtain ⟨rfl,rfl,rfl⟩:=h
  have hn:n=ys.length:=hq.1
  subst hn
  have hlt:=(List.getElem?_eq_some_iff.1 ho).1
  rw [aQ] at hm
  obtain ⟨b,z,v0,hb,hv0,hv⟩:=hm
  simp only [List.cons.injEq,and_true] at hv0
  subst hv0
  refine ⟨hr.kill (by rw [ho];exact nofun),by simp,rfl,fun i hi=>?_,fun i y e=>?_,?_⟩
  ·have:o≠i:=by intro e;subst e;exact hi _ _ _ ho
   rw [List.getElem?_set_ne this]
  ·by_cases hoi:o=i
   ·subst hoi
    rw [List.getElem?_set_self hlt] at e
    left;simpa using e.symm
   ·rw [List.getElem?_set_ne hoi] at e
    exact .inr e
  ·rcases hv with ⟨h0,rfl⟩ | ⟨hpos,k,rfl,hk,hkz⟩
   ·exact .inl ⟨List.eq_nil_of_length_eq_zero h0,rfl⟩
   ·refine .inr ⟨by intro e;rw [e] at hpos;simp at hpos,o,b,z,k,ho,by simp [hlt],hb,rfl,hk,hkz⟩
 ·cases h
theorem x9 {f:FuncId} {ps:aH} (hp:aj E f ps) {vs:List AV} {q:List Prop} {v:AV} {H':av} {args:List Value} (h:jg ps H vs=some (q,v,H')) (hq:holds q) (r:aR ι H w) (hg:dc E ι) (ha:a4 (au ι) vs args):
  iB E.P f args.toArray w fun c w'=>∃ ι',Ext ι ι'∧aR ι' H' w'∧au ι' v c:=by
 obtain ⟨hwf,hp⟩:=hp
 simp only [aH.wf,Bool.and_eq_true] at hwf
 obtain ⟨⟨hce,hcod⟩,hgap⟩:=hwf
 unfold jg at h
 split at h
 case h_2=>cases h
 rename_i p as2 hdrop
 split at h
 case h_2=>cases h
 rename_i ob hself
 split at h
 case h_2=>cases h
 rename_i t ss vs0 hob
 split at h
 case isFalse=>cases h
 rename_i hts
 obtain ⟨rfl,rfl⟩:=hts
 split at h
 case h_2=>cases h
 rename_i rr S hrr hS
 split at h
 case h_2=>cases h
 rename_i q1 xs H1 hrow
 split at h
 case isFalse=>cases h
 rename_i hh
 split at h
 case h_2=>cases h
 rename_i q2 us hv
 split at h
 case h_2=>cases h
 rename_i x hx
 simp only [Option.some.injEq,Prod.mk.injEq] at h
 obtain ⟨rfl,rfl,rfl⟩:=h
 rw [bJ,bJ] at hq
 obtain ⟨hq1,hq2,hpre,_⟩:=hq
 obtain ⟨m1,m2,ea,hta1,hta2⟩:=(show a4 (au ι) (vs.take ps.pos++p :: as2) args by rw [← hdrop,List.take_append_drop];exact ha).HN
 obtain ⟨c0,m3,em,hc0,hta3⟩:=hta2.cons_inv
 subst em;subst ea
 clear ha hta2
 have hm1:m1.length=ps.pos:=by
  rw [← hta1.len,List.length_take]
  have h1:=congrArg List.length hdrop
  simp only [List.length_drop,List.length_cons] at h1
  omega
 have hta:=hta1.app hta3
 obtain ⟨b,z,hb⟩:=r.gm hob
 obtain ⟨cells,fz,l,rest,e1,e2,e3,e4,e5⟩:=(r.obj _ _ _ _ hob hb).cell
 have e5:=e5 rfl;subst e5
 rw [aQ] at e4
 obtain ⟨rr',hrr',hone,hto,hfrom⟩:=uR hgap hS
 rw [hrr] at hrr'
 cases hrr'
 obtain ⟨hD,l1,m,l2,el,hl1,hm⟩:=hto e4
 obtain ⟨r1,hlen1,_,hkeep,hold,hrowm⟩:=K8 hrow hq1 r hm
 have hobne:∀ t c ys,H[ob]?≠some (.row t c ys):=fun _ _ _ e=>by rw [hob] at e;cases e
 have hob1:H1[ob]?=some (.cell true ps.t (.agg ps.st.gD vs0)):=by rw [hkeep ob hobne];exact hob
 have hownb:=r.own _ _ _ _ hob rfl hb
 have hltob:=(List.getElem?_eq_some_iff.1 hob).1
 obtain ⟨b2,z2,hrb⟩:∃ b2 z2,(xs=[]∧m=.slice none 0 0)∨(xs≠[]∧∃ (o k:Nat),H[o]?=some (aV.row ps.te ps.ce xs)∧H1[o]?=some aV.dead∧ι.a6[o]?=some (b2,z2)∧m=.slice (some ⟨b2,0,none⟩) xs.length k∧xs.length≤k∧k * ps.ce.size≤z2):=by
  rcases hrowm with h | ⟨h0,o,b2,z2,k,h⟩
  ·exact ⟨0,0,.inl h⟩
  ·exact ⟨b2,z2,.inr ⟨h0,o,k,h⟩⟩
 have howned:xs≠[]→aV.owned (.row ps.te ps.ce xs)=true:=fun h0=>by
  cases xs with
  | nil=>exact absurd rfl h0
  | cons=>rfl
 let ι0:aD:={w0:=ι.w0,a5:=fun k=>if k=b then none else if k=b2∧xs≠[] then none else w.heap[k]?,a6:=⟨[some (b,z),some (b2,z2)]⟩}
 have at0:ι0.a6[0]?=some (b,z):=rfl
 have at1:ι0.a6[1]?=some (b2,z2):=rfl
 have p0:∀ k,k≠b→¬ (k=b2∧xs≠[])→ι0.a5 k=w.heap[k]?:=fun k h1 h2=>by
  show (if k=b then none else if k=b2∧xs≠[] then none else w.heap[k]?)=_
  rw [if_neg h1,if_neg h2]
 have b2own:xs≠[]→ι.a5 b2=none∧b2 < w.heap.size∧ι.w0.heap.size≤b2∧b2≠b:=by
  intro h0
  rcases hrb with ⟨h1,_⟩ | ⟨_,o,k,ho,_,hbo,_⟩
  ·exact absurd h1 h0
  ·have h1:=r.own _ _ _ _ ho (howned h0) hbo
   refine ⟨h1.1,h1.2.1,h1.2.2,?_⟩
   intro e;subst e
   have:=r.sep _ _ _ _ _ _ _ ho (howned h0) hob rfl hbo hb
   subst this
   exact hobne _ _ _ ho
 have sub0:∀ k o,ι.a5 k=some o→ι0.a5 k=some o:=fun k o e=>by
  rw [p0 k,r.a5 _ _ e]
  ·intro h1;subst h1;rw [hownb.1] at e;cases e
  ·rintro ⟨h1,h2⟩;subst h1;rw [(b2own h2).1] at e;cases e
 have hR0:aR ι0 (H0 ps S xs) w:=by
  have hrow1:aQ ι0 (.row 1 ps.ce.size xs.length) [m]:=by
   rw [aQ]
   refine ⟨b2,z2,m,rfl,rfl,?_⟩
   rcases hrb with ⟨h1,h2⟩ | ⟨h0,o,k,_,_,_,h2,h3,h4⟩
   ·exact .inl ⟨by rw [h1];rfl,h2⟩
   ·exact .inr ⟨List.length_pos_iff.2 h0,k,h2,h3,h4⟩
  refine ⟨⟨rfl,fun i u e=>?_⟩,?_,?_,?_,?_,r.base⟩
  ·match i with
   | 0=>simp only [H0,List.getElem?_cons_zero,Option.some.injEq] at e;subst e;exact ⟨nofun,fun h=>by cases h⟩
   | 1=>simp only [H0,List.getElem?_cons_succ,List.getElem?_cons_zero,Option.some.injEq] at e;subst e;exact ⟨nofun,fun h=>by cases h⟩
   | i+2=>simp [H0] at e
  ·intro k o e
   have e:(if k=b then none else if k=b2∧xs≠[] then none else w.heap[k]?)=some o:=e
   split at e
   ·cases e
   ·split at e
    ·cases e
    ·exact e
  ·intro i y b' z' e1' e2'
   match i with
   | 0=>
    simp only [H0,List.getElem?_cons_zero,Option.some.injEq] at e1'
    have e2':=e2';rw [at0,Option.some.injEq,Prod.mk.injEq] at e2'
    obtain ⟨rfl,rfl⟩:=e2'
    subst e1'
    obtain ⟨_,_,_,_,hf2⟩:=uR hgap (JZ hgap S)
    have:=(hf2 (.row 1 ps.ce.size xs.length) rfl).2 hl1 (show bO ι0 ps.st S (l1++(m :: l2)) from dv ps.st (.inl (wZ hgap)) _ _ (el▸hD)) hrow1
    refine ⟨cells,(0,0),l,rest,e1,e2,e3,?_,rfl⟩
    rw [aQ,el]
    exact this
   | 1=>
    simp only [H0,List.getElem?_cons_succ,List.getElem?_cons_zero,Option.some.injEq] at e1'
    have e2':=e2';rw [at1,Option.some.injEq,Prod.mk.injEq] at e2'
    obtain ⟨rfl,rfl⟩:=e2'
    subst e1'
    rcases hrb with ⟨h1,_⟩ | ⟨h0,o,k,ho,_,hbo,_⟩
    ·exact .inl h1
    ·rcases r.obj _ _ _ _ ho hbo with k1 | ⟨cl,la,ra,k1,k2,k3,k4⟩
     ·exact absurd k1 h0
     ·exact .inr ⟨cl,la,ra,k1,k2,k3,k4.mono fun x l h=>dv ps.ce (.inl hce) x l h⟩
   | i+2=>simp [H0] at e1'
  ·intro i y b' z' e1' ho e2'
   match i with
   | 0=>
    have e2':=e2';rw [at0,Option.some.injEq,Prod.mk.injEq] at e2'
    obtain ⟨rfl,rfl⟩:=e2'
    refine ⟨?_,hownb.2⟩
    show (if b=b then none else _)=none
    rw [if_pos rfl]
   | 1=>
    simp only [H0,List.getElem?_cons_succ,List.getElem?_cons_zero,Option.some.injEq] at e1'
    have e2':=e2';rw [at1,Option.some.injEq,Prod.mk.injEq] at e2'
    obtain ⟨rfl,rfl⟩:=e2'
    subst e1'
    have h0:xs≠[]:=by intro e;subst e;cases ho
    have h1:=b2own h0
    refine ⟨?_,h1.2.1,h1.2.2.1⟩
    show (if b2=b then none else if b2=b2∧xs≠[] then none else w.heap[b2]?)=none
    rw [if_neg h1.2.2.2,if_pos ⟨rfl,h0⟩]
   | i+2=>simp [H0] at e1'
  ·intro i j y y' b' z1 z2' e1' o1 e2' o2 b1 b2'
   have two:∀ (i:Nat) (y:aV) (b' z':Nat),(H0 ps S xs)[i]?=some y→y.owned=true→ι0.a6[i]?=some (b',z')→(i=0∧b'=b)∨(i=1∧b'=b2∧xs≠[]):=by
    intro i y b' z' e1 o1 e2
    match i with
    | 0=>
     rw [at0,Option.some.injEq,Prod.mk.injEq] at e2
     exact .inl ⟨rfl,e2.1.symm⟩
    | 1=>
     simp only [H0,List.getElem?_cons_succ,List.getElem?_cons_zero,Option.some.injEq] at e1
     rw [at1,Option.some.injEq,Prod.mk.injEq] at e2
     subst e1
     exact .inr ⟨rfl,e2.1.symm,by intro e;subst e;cases o1⟩
    | i+2=>simp [H0] at e1
   rcases two i y b' z1 e1' o1 b1 with ⟨rfl,k1⟩ | ⟨rfl,k1,k2⟩<;>rcases two j y' b' z2' e2' o2 b2' with ⟨rfl,k3⟩ | ⟨rfl,k3,k4⟩
   ·rfl
   ·exact absurd (k3.symm.trans k1) (b2own k4).2.2.2
   ·exact absurd (k1.symm.trans k3) (b2own k2).2.2.2
   ·rfl
 have hgl:dc E ι0:=hg.sub sub0
 have hviews:=jw r (ι':={ι with a5:=ι0.a5}) ⟨fun b _ _ _ e=>sub0 b _ e,fun _ _ h=>h⟩ (vs.take ps.pos++as2) us q2 (m1++m3) (by
  intro o ho own t v bo zo h1 h2
  have hne:o≠ob:=by
   have:=List.all_eq_true.1 hh o ho
   simpa using this
  refine p0 bo ?_ ?_
  ·intro e;subst e
   cases own with
   | true=>exact hne (r.sep _ _ _ _ _ _ _ h1 rfl hob rfl h2 hb)
   | false=>
    obtain ⟨cl,fz',la,ra,k1,k2,k3,k4,k5⟩:=r.obj _ _ _ _ h1 h2
    have k5:ι.a5 bo=some (.cells cl t fz'):=k5
    rw [hownb.1] at k5;cases k5
  ·rintro ⟨e,h0⟩;subst e
   cases own with
   | true=>
    rcases hrb with ⟨h3,_⟩ | ⟨_,o2,k,ho2,_,hbo,_⟩
    ·exact h0 h3
    ·have:=r.sep _ _ _ _ _ _ _ h1 rfl ho2 (howned h0) h2 hbo
     subst this
     rw [h1] at ho2;cases ho2
   | false=>
    obtain ⟨cl,fz',la,ra,k1,k2,k3,k4,k5⟩:=r.obj _ _ _ _ h1 h2
    have k5:ι.a5 bo=some (.cells cl t fz'):=k5
    rw [(b2own h0).1] at k5;cases k5) hv hq2 hta
 have hargs:a4 (au ι0) (bp ps.arg x) (m1++m3):=j7 (ι:={ι with a5:=ι0.a5}) (.inr fun _ _ h=>h) (p6 hx hviews)
 have hc00:au ι0 ps.self c0:=by
  unfold GL at hself
  split at hself
  ·rename_i oc
   split at hself
   ·rename_i hbox
    split at hself
    ·rename_i own ty ob' hoc
     cases hself
     obtain ⟨bc,zc,hbc⟩:=r.gm hoc
     have hc0:=yL hbc hc0
     subst hc0
     obtain ⟨cl,fz',la,ra,k1,k2,k3,k4,k5⟩:=r.obj _ _ _ _ hoc hbc
     rw [aQ] at k4
     obtain ⟨b4,z4,g1,g2⟩:=k4
     rw [hb] at g1;cases g1
     have hne:oc≠ob:=by intro e;subst e;rw [hob] at hoc;cases hoc
     have hprot:ι0.a5 bc=w.heap[bc]?:=by
      refine p0 bc ?_ ?_
      ·intro e;subst e
       cases own with
       | true=>exact hne (r.sep _ _ _ _ _ _ _ hoc rfl hob rfl hbc hb)
       | false=>
        have k5:ι.a5 bc=some (.cells cl ty fz'):=k5
        rw [hownb.1] at k5;cases k5
      ·rintro ⟨e,h0⟩;subst e
       cases own with
       | true=>
        rcases hrb with ⟨h3,_⟩ | ⟨_,o2,k,ho2,_,hbo,_⟩
        ·exact h0 h3
        ·have:=r.sep _ _ _ _ _ _ _ hoc rfl ho2 (howned h0) hbc hbo
         subst this
         rw [hoc] at ho2;cases ho2
       | false=>
        have k5:ι.a5 bc=some (.cells cl ty fz'):=k5
        rw [(b2own h0).1] at k5;cases k5
     unfold aH.self
     rw [if_pos hbox]
     refine aC rfl ?_
     rw [aQ]
     refine ⟨bc,0,cl,ty,fz',la,rfl,hprot.trans k1,?_,At.xJ (l1:=[]) (l2:=ra) (by rw [k2];rfl)⟩
     rw [aQ]
     exact ⟨b,z,rfl,g2⟩
    ·cases hself
   ·rename_i hbox
    cases hself
    have hc0:=yL hb hc0
    subst hc0
    unfold aH.self
    rw [if_neg hbox]
    exact aC rfl (by rw [aQ];exact ⟨b,z,rfl,rfl⟩)
  ·cases hself
 refine (hp S xs x ι0 w _ hpre hR0 hgl (show a4 (au ι0) (ps.dt x) (m1++c0 :: m3) by unfold aH.dt;rw [← hm1];exact a4.put hc00 hargs)).mono ?_
 rintro c w' ⟨ι1,H2,o',vs',hE1,hR2,k0,kS,kr,ko,kres⟩
 generalize ps.f (S,xs,x)=ys at *
 obtain ⟨b',z',hb'⟩:=hR2.gm ko
 have hblk0:ι1.a6[0]?=some (b,z):=hE1.a6 0 _ rfl
 have hw0:ι1.w0=ι.w0:=hE1.w0
 have ho0:o'≠0:=by intro e;subst e;rw [k0] at ko;cases ko
 have P1:∀ k o,ι.a5 k=some o→w'.heap[k]?=some o:=fun k o e=>hR2.a5 _ _ (hE1.a5 _ _ (sub0 _ _ e))
 have P2:∀ (j:Nat) (y:aV) (bj zj:Nat),H1[j]?=some y→y.owned=true→j≠ob→ι.a6[j]?=some (bj,zj)→w'.heap[bj]?=w.heap[bj]?∧(∃ o,ι1.a5 bj=some o):=by
  intro j y bj zj h1 h2 h3 h4
  have h5:H[j]?=some y:=(hold j y h1).resolve_left (by intro e;subst e;cases h2)
  have h6:=r.own _ _ _ _ h5 h2 h4
  have h7:ι0.a5 bj=w.heap[bj]?:=by
   refine p0 bj ?_ ?_
   ·intro e;subst e;exact h3 (r.sep _ _ _ _ _ _ _ h5 h2 hob rfl h4 hb)
   ·rintro ⟨e,h0⟩;subst e
    rcases hrb with ⟨h8,_⟩ | ⟨_,o2,k,ho2,hd,hbo,_⟩
    ·exact h0 h8
    ·have:=r.sep _ _ _ _ _ _ _ h5 h2 ho2 (howned h0) h4 hbo
     subst this
     rw [hd] at h1;cases h1;cases h2
  obtain ⟨o,ho⟩:∃ o,w.heap[bj]?=some o:=⟨w.heap[bj],by simp [h6.2.1]⟩
  have h8:=hE1.a5 _ _ (h7.trans ho)
  exact ⟨(hR2.a5 _ _ h8).trans ho.symm,o,h8⟩
 have hEa:=Ext.add ι b' z'
 have hltl:H1.length=ι.a6.length:=hlen1.trans r.len
 obtain ⟨cells',fz',l',rest',f1,f2,f3,f4,f5⟩:=(hR2.obj _ _ _ _ k0 hblk0).cell
 have f5:=f5 rfl;subst f5
 rw [aQ] at f4
 obtain ⟨rx,hrx,honex,htox,hfromx⟩:=uR hgap kS
 rw [kr] at hrx
 cases hrx
 obtain ⟨hD',l1',m',l2',el',hl1',hm'⟩:=htox f4
 have hmrow:aQ (ι.add b' z') (.row H.length ps.ce.size ys.length) [m']:=by
  rw [aQ] at hm' ⊢
  obtain ⟨bb,zz,v0,g1,g2,g3⟩:=hm'
  rw [hb'] at g1;cases g1
  exact ⟨_,_,v0,by rw [r.len];exact ι.fh _ _,g2,g3⟩
 have hnew:fj (ι.add b' z') w' b z (.cell true ps.t (.agg ps.st.gD (vs0.set ps.lf (.row H.length ps.ce.size ys.length)))):=by
  refine ⟨cells',(0,0),l',rest',f1,f2,f3,?_,rfl⟩
  rw [aQ,el']
  exact (hfrom (.row H.length ps.ce.size ys.length) rfl).2 hl1' (dv ps.st (.inl (wZ hgap)) _ _ (el'▸hD')) hmrow
 have hnewrow:fj (ι.add b' z') w' b' z' (.row ps.te ps.ce ys):=by
  rcases hR2.obj _ _ _ _ ko hb' with k1 | ⟨cl,la,ra,k1,k2,k3,k4⟩
  ·exact .inl k1
  ·exact .inr ⟨cl,la,ra,k1,k2,k3,k4.mono fun x l h=>dv ps.ce (.inl hce) x l h⟩
 have hbw:b < w'.heap.size:=(Array.getElem?_eq_some_iff.1 f1).1
 have rowfacts:ys≠[]→ι1.a5 b'=none∧b' < w'.heap.size∧ι.w0.heap.size≤b'∧b'≠b:=by
  intro h0
  have hoo:aV.owned (.row ps.te ps.ce ys)=true:=by
   cases ys with
   | nil=>exact absurd rfl h0
   | cons=>rfl
  have h1:=hR2.own _ _ _ _ ko hoo hb'
  rw [hw0] at h1
  refine ⟨h1.1,h1.2.1,h1.2.2,?_⟩
  intro e;subst e
  exact ho0 (hR2.sep _ _ _ _ _ _ _ ko hoo k0 rfl hb' hblk0)
 have fI:∀ {i:Nat} {bb zz:Nat} {y:aV},(H1.set ob (.cell true ps.t (.agg ps.st.gD (vs0.set ps.lf (.row H.length ps.ce.size ys.length))))++[aV.row ps.te ps.ce ys])[i]?=some y→(ι.add b' z').a6[i]?=some (bb,zz)→
   (i=ob∧y=.cell true ps.t (.agg ps.st.gD (vs0.set ps.lf (.row H.length ps.ce.size ys.length)))∧bb=b∧zz=z)∨(i≠ob∧H1[i]?=some y∧ι.a6[i]?=some (bb,zz))∨(i=H1.length∧y=.row ps.te ps.ce ys∧bb=b'∧zz=z'):=by
  intro i bb zz y g1 g2
  rcases Nat.lt_or_ge i H1.length with hi | hi
  ·rw [List.getElem?_append_left (by simpa using hi)] at g1
   simp only [aD.add] at g2
   rw [fL.jV (hltl▸hi)] at g2
   by_cases hio:ob=i
   ·subst hio
    rw [hb] at g2;cases g2
    rw [List.getElem?_set_self (by rw [hlen1];exact hltob)] at g1
    exact .inl ⟨rfl,by simpa using g1.symm,rfl,rfl⟩
   ·rw [List.getElem?_set_ne hio] at g1
    exact .inr (.inl ⟨fun e=>hio e.symm,g1,g2⟩)
  ·have hlt:i < (H1.set ob (.cell true ps.t (.agg ps.st.gD (vs0.set ps.lf (.row H.length ps.ce.size ys.length))))++[aV.row ps.te ps.ce ys]).length:=(List.getElem?_eq_some_iff.1 g1).1
   simp at hlt
   have hi':i=H1.length:=by omega
   subst hi'
   rw [List.getElem?_append_right (by simp)] at g1
   simp at g1
   simp only [aD.add] at g2
   rw [hltl,fL.o3] at g2
   cases g2
   exact .inr (.inr ⟨rfl,g1.symm,rfl,rfl⟩)
 refine ⟨ι.add b' z',hEa,⟨(r1.fY.set (y:=.cell true ps.t (.agg ps.st.gD (vs0.set ps.lf (.row H.length ps.ce.size ys.length)))) hob1 ⟨nofun,nofun⟩).app (x:=.row ps.te ps.ce ys) nofun _,P1,?_,?_,?_,?_⟩,na (.inl hcod) kres⟩
 ·intro i y bb zz g1 g2
  rcases fI g1 g2 with ⟨rfl,rfl,rfl,rfl⟩ | ⟨hi,g3,g4⟩ | ⟨rfl,rfl,rfl,rfl⟩
  ·exact hnew
  ·exact dw hEa (fun ho=>(P2 i y bb zz g3 ho hi g4).1) P1 (r1.obj _ _ _ _ g3 g4)
  ·exact hnewrow
 ·intro i y bb zz g1 ho g2
  rcases fI g1 g2 with ⟨rfl,rfl,rfl,rfl⟩ | ⟨hi,g3,g4⟩ | ⟨rfl,rfl,rfl,rfl⟩
  ·exact ⟨hownb.1,hbw,hownb.2.2⟩
  ·have h1:=r1.own _ _ _ _ g3 ho g4
   obtain ⟨_,o,h3⟩:=P2 i y bb zz g3 ho hi g4
   exact ⟨h1.1,(Array.getElem?_eq_some_iff.1 (hR2.a5 _ _ h3)).1,h1.2.2⟩
  ·have h0:ys≠[]:=by intro e;subst e;cases ho
   have h1:=rowfacts h0
   refine ⟨?_,h1.2.1,h1.2.2.1⟩
   show ι.a5 bb=none
   cases hpp:ι.a5 bb with
   | none=>rfl
   | some o=>
    have:=hE1.a5 _ _ (sub0 _ _ hpp)
    rw [h1.1] at this;cases this
 ·intro i j y y' bb z1 z2' g1 o1 g2 o2 b1 b2'
  have cross:∀ {i:Nat} {y:aV} {z1:Nat},H1[i]?=some y→y.owned=true→i≠ob→ι.a6[i]?=some (b',z1)→ys≠[]→False:=by
   intro i y z1 g1 o1 hi g2 h0
   obtain ⟨_,o,h3⟩:=P2 i y b' z1 g1 o1 hi g2
   rw [(rowfacts h0).1] at h3;cases h3
  have ne0:aV.owned (.row ps.te ps.ce ys)=true→ys≠[]:=by intro h e;subst e;cases h
  rcases fI g1 b1 with ⟨rfl,rfl,rfl,_⟩ | ⟨hi,g3,g4⟩ | ⟨rfl,rfl,rfl,_⟩
  ·rcases fI g2 b2' with ⟨rfl,rfl,_,_⟩ | ⟨hj,g5,g6⟩ | ⟨rfl,rfl,hbb,_⟩
   ·rfl
   ·exact r1.sep _ _ _ _ _ _ _ hob1 rfl g5 o2 hb g6
   ·exact absurd hbb.symm (rowfacts (ne0 o2)).2.2.2
  ·rcases fI g2 b2' with ⟨rfl,rfl,rfl,_⟩ | ⟨hj,g5,g6⟩ | ⟨rfl,rfl,rfl,_⟩
   ·exact r1.sep _ _ _ _ _ _ _ g3 o1 hob1 rfl g4 hb
   ·exact r1.sep _ _ _ _ _ _ _ g3 o1 g5 o2 g4 g6
   ·exact (cross g3 o1 hi g4 (ne0 o2)).elim
  ·rcases fI g2 b2' with ⟨rfl,rfl,hbb,_⟩ | ⟨hj,g5,g6⟩ | ⟨rfl,rfl,_,_⟩
   ·exact absurd hbb (rowfacts (ne0 o1)).2.2.2
   ·exact (cross g5 o2 hj g6 (ne0 o1)).elim
   ·rfl
 ·have:=hR2.base
  rw [hw0] at this
  exact this
structure iW (E:Env):Prop where
 spec:∀ f sp,E.spec f=some sp→ah E f sp
 proc:∀ f ps,E.proc f=some ps→aj E f ps
end Go.bz
end
section
namespace Go.bz
open Go.RowKit
variable {E:Env} {ι:aD} {T:List AV} {H:av} {a:Act} {w:World}
theorem ME {fn:Func} {vs:List AV} {args:List Value} (h:a4 (au ι) vs args):a4 (au ι) (pT fn vs) (args.toArray++Array.replicate (fn.ntmps - args.toArray.size) undef).toList:=by
 simp only [pT,Kp,Array.toList_append,Array.toList_replicate,List.size_toArray,h.len]
 refine h.app ?_
 generalize fn.ntmps - args.length=m
 induction m with
 | zero=>exact .nil
 | succ m ih=>exact .cons er ih
theorem iR {e:Exit} {j:Option Code} (h:rH e=some j) (hr:Hl j=true):e=.normal∨e=.ret:=by
 cases e<;>simp [rH] at h
 ·exact .inl rfl
 ·subst h;simp [Hl] at hr
 ·exact .inr rfl
theorem pY (hV:E.Valid) {f:FuncId} {fn:Func} {c:Code} {vs:List AV} {args:List Value} {p:D9} {kind:FK} {n:Nat} {R:Ending→World→Prop} {β:Nat} (hβ:β=H.length) (hf:E.fns f=some fn) (hb:fn.body=some c)
  (hkind:kind=.top∨(∃ d,kind=.call d)∨∃ l,kind=.iter l) (hW:ic E {id:=f,kind,T:=pT fn vs,items:=[.code c],D:=[],base:=β} p H) (r:aR ι H w) (hg:dc E ι) (ha:a4 (au ι) vs args)
  (hp:∀ e T' D' H' ,p e T' D' H'→(e=.normal∨e=.ret)∧∃ fn' H'' q v,E.fns f=some fn'∧gq H' D'=some H''∧Et E H'' T' fn'=some (q,v)∧holds q∧
   ∀ ι' u w',rR (E.je kind) ι ι'→aR ι' H'' w'→au ι' v u→R (.returned u) w'):
  CallsIn Fence.wide n E.P f args.toArray w R:=by
 refine callsIn_of_wp_marks (hV.fns _ _ hf).1 hb trivial ?_
 have hfence:aL ι kind=Fence.wide:=by rcases hkind with rfl | ⟨d,rfl⟩ | ⟨l,rfl⟩<;>rfl
 have hk:Ec ι kind:=by rcases hkind with rfl | ⟨d,rfl⟩ | ⟨l,rfl⟩<;>trivial
 have h:=hW n ι {tmps:=args.toArray++Array.replicate (fn.ntmps - args.toArray.size) undef,defers:=[]} w ⟨r,ME ha,hg⟩ gM.nil hk
 rw [hfence] at h
 refine wpIn_mono h ?_
 rintro e a1 w1 ⟨ι',T',D',H',hEB,r',hD',hpost⟩
 have hE:=hEB.full (hβ.trans r.len)
 obtain ⟨he,fn',H'',q,v,hf',hc,hr,hq,hR⟩:=hp e T' D' H' hpost
 rw [hf] at hf';cases hf'
 have hl:=yp hV (n:=n) (F:=Fence.wide) (fn:=fn) (R:=R) hc hr hq r'.heap r'.tmps r'.cQ hD' (fun ι2 u w' h2 hH hu=>hR ι2 u w' (by
  unfold rR
  cases ht:E.je kind with
  | true=>rw [ht] at h2;rw [if_pos rfl] at h2 ⊢;exact hE.Ks.trans h2
  | false=>rw [ht] at h2;rw [if_neg (by simp)] at h2 ⊢;subst h2;exact hE) hH hu)
 rcases he with rfl | rfl<;>exact hl
theorem BC {f:Operand} {args:List Operand} {g:FuncId} {caps vs:List AV} (r:fK E ι T H a w) (hf:ev E T f=some (.fn g caps)) (ha:nI E T args=some vs):
  ∃ l:List Value,a.eval f=.func (.func g) #[] l.toArray∧a4 (au ι) (vs++caps) (args.map a.eval++l):=by
 obtain ⟨l,e,hl⟩:=Bn (bL hf r)
 exact ⟨l,e,(eH ha r).app hl⟩
theorem pV {o:Oper} {f:Operand} {args:Array Operand} {ts:Array TypeId} {g:FuncId} {l:List Value} (hop:o.op=.call {callee:=.value f,args,argTypes:=ts}) (hf:a.eval f=.func (.func g) #[] l.toArray):
  (execOp a.eval o).run E.P w=(callFunc g (args.toList.map a.eval++l).toArray).run E.P w:=by
 have hargs:args.map a.eval=(args.toList.map a.eval).toArray:=Array.ext' (by simp)
 simp only [execOp,hop,resolve,hf,Deferred.ofValue,Sem.run_bind,Sem.run_pure,Result.andThen,invoke,hargs]
 simp
theorem OD {o:Oper} {f:Operand} {args:Array Operand} {ts:Array TypeId} {g:FuncId} {l:List Value} (hop:o.op=.call {callee:=.value f,args,argTypes:=ts}) (hf:a.eval f=.func (.func g) l.toArray #[]):
  (execOp a.eval o).run E.P w=(callFunc g (l++args.toList.map a.eval).toArray).run E.P w:=by
 have hargs:args.map a.eval=(args.toList.map a.eval).toArray:=Array.ext' (by simp)
 simp only [execOp,hop,resolve,hf,Deferred.ofValue,Sem.run_bind,Sem.run_pure,Result.andThen,invoke,hargs]
 simp
theorem eU (hV:E.Valid) {f:FuncId} {fn:Func} {c:Code} (hf:E.fns f=some fn) (hb:fn.body=some c) (args:Array Value):(callFunc f args).run E.P w=.ok (.enter f args) w:=by
 obtain ⟨h1,h2⟩:=hV.fns _ _ hf
 have h3:¬ fn.name = "runtime.NumGoroutine" := by simpa using h2
 simp [callFunc,h1,h3,hb]
theorem eY {o:Oper} {F:Fence} {n:Nat} {f:FuncId} {args:Array Value} {R:Value→World→Prop} {next:Act→World→Prop} {Q':Exit→Act→World→Prop} {k:FK} (hF:F=aL ι k)
  (h:iB E.P f args w R) (hrun:(o.semAt F.round a.eval).run E.P w=(callFunc f args).run E.P w) (hR:∀ c w',R c w'→next (a.put o.dst c) w'):o.wpIn F n E.P a w next Q':=by
 subst hF
 refine ⟨fun g _=>bW k g,?_⟩
 rw [hrun]
 rcases h with ⟨v,h1,h2⟩ | ⟨h1,h2⟩
 ·rw [h1];exact hR _ _ h2
 ·rw [h1]
  refine ⟨by rw [gG];simp,iM (callsIn_wide.2 (h2.mono ?_))⟩
  rintro e w' ⟨v,rfl,hv⟩
  exact hR _ _ hv
theorem fc {o:Oper} {c:Call} {ro:Option Nat} (hop:o.op=.call c):o.semAt ro a.eval=execOp a.eval o:=Oper.semAt_eq _ _ _ (by simp [hop])
theorem iV {o:Oper} {x:List Prop×AV×av} (h:jN E T H o=some x):∀ c,o.op≠.defer c:=by
 intro c e
 simp [jN,e] at h
theorem x5:∀ {ps:List Nat} {vs:List AV} {us:List Value} {T:List AV} {tmps:Array Value},a4 (au ι) T tmps.toList→a4 (au ι) vs us→vs.length=ps.length→
  a4 (au ι) (Ce T ps vs) ((ps.zip us).foldl (fun (tmps:Array Value) x=>tmps.setIfInBounds x.1 x.2) tmps).toList
 | [],_,_,_,_,h,hv,hl=>by
  cases hv with
  | nil=>exact h
  | cons=>simp at hl
 | p :: ps,_,_,T,tmps,h,hv,hl=>by
  cases hv with
  | nil=>simp at hl
  | cons h1 t=>
   simp only [List.zip_cons_cons,List.foldl_cons,Ce]
   exact x5 (by rw [Array.toList_setIfInBounds];exact h.set p _ _ h1) t (by simpa using hl)
theorem xK (k:FK) (b:Nat):(aL ι k).inRound b=Fence.wide.inRound b:=by cases k<;>rfl
theorem La {Q:AV→av→Prop} {fr:Fr} {bm:List Fr} {dst:Option Tmp} {g:FuncId} {l b z:Nat} {T0:List AV} {ps:List Nat} {vs:List AV} {us:List Value} {tmps:Array Value} {fnr:FuncId} {ca cb:Code} {n m:Nat} {R:Ending→World→Prop}
  (hW:WW E Q {id:=g,kind:=.round l dst,T:=Ce T0 ps vs,items:=[.code ca,.begin l,.code cb],D:=[],base:=H.length} (fr :: bm) H) (hb:ι.a6[l]?=some (b,z)) (r:aR ι H w) (hg:dc E ι) (hT:a4 (au ι) T0 tmps.toList)
  (hv:a4 (au ι) vs us) (hlen:vs.length=ps.length) (hk:Ec ι fr.kind) (hT2:a4 (au ι) fr.T a.tmps.toList) (hD:gM (E.je fr.kind) ι fr.D a.defers)
  (hR:∀ c w',cg ι (aL ι fr.kind) m E.P (lift E (E.je fr.kind) fr.base ι (KW E Q bm fr.kind fr.id)) fr.items .normal (a.put dst c) w'→R (.returned c) w'):
  RoundIn (aL ι fr.kind) n E.P b fnr ((ps.toArray.zip us.toArray).foldl (fun tmps (t,a)=>tmps.setIfInBounds t a) tmps) ca cb w R:=by
 refine roundIn_of_wpIn (bW _ _) ?_
 rw [xK]
 have htm:((ps.toArray.zip us.toArray).foldl (fun tmps (t,a)=>tmps.setIfInBounds t a) tmps)=((ps.zip us).foldl (fun (tmps:Array Value) x=>tmps.setIfInBounds x.1 x.2) tmps):=by
  simp
 have hf:aL ι (.round l dst)=Fence.wide.inRound b:=by simp only [aL,pZ,hb]
 have h:=hW n ι {tmps:=(ps.toArray.zip us.toArray).foldl (fun tmps (t,a)=>tmps.setIfInBounds t a) tmps,defers:=[]} w ⟨r,by rw [htm];exact x5 hT hv hlen,hg⟩ .nil ⟨b,z,hb⟩
 rw [hf] at h
 refine wpIn_mono h ?_
 intro e a1 w1 h1
 cases e with
 | normal=>
  obtain ⟨w2,h2,h3⟩:=h1 b z hb
  refine ⟨w2,h2,wpIn_mono h3 ?_⟩
  rintro e a3 w3 ⟨ι',T',D',H',hEB,r',_,j,hj,rfl,s,pd,g',T1,ps',c',b',d',hl',hW'⟩
  have hE:=hEB.full r.len
  have hb':=hE.a6 _ _ hb
  obtain ⟨tmps',db,dz,fn',hobj,hT',hdb⟩:=r'.heap.obj _ _ _ _ hl' hb'
  have hend:=run_endRound (P:=E.P) j hobj
  have hn:=hW'
  have fin:R (.returned (.bool j.isNone)) (w3.putObj b (.loop {state:=if j.isNone then .ready else .done,pending:=j,fn:=fn',tmps:=tmps',params:=ps'.toArray,assign:=c',body:=b',defers:=db})):=by
   refine hR _ _ ?_
   refine dA hW' hE (r'.heap.xW hl' rfl hb' (fun k hk=>World.putObj_heap_other hk) (by simp) rfl rfl rfl ?_) (dP _) hT2 hg hD hk
   exact ⟨tmps',db,dz,fn',World.putObj_heap_same (Array.getElem?_eq_some_iff.1 hobj).1,hT',hdb⟩
  cases e<;>simp only [rH] at hj<;>cases hj<;>exact ⟨_,_,hend,fin⟩
 | exit id=>exact h1
 | goto id=>exact h1
 | ret=>exact h1
 | panic c=>exact h1
 | outgrown=>exact h1
theorem so {b:Bool} {p q:Prop} (h:cond b p q):(b=true∧p)∨(b=false∧q):=by
 cases b with
 | false=>exact .inr ⟨rfl,h⟩
 | true=>exact .inl ⟨rfl,h⟩
theorem J2 {P:Program} {f:FuncId} (h:BU P f) {vs:List AV} {q:List Prop} {args:List Value} (ha:Gv H vs=some q) (hq:holds q) (r:aR ι H w) (hv:a4 (au ι) vs args):
  (callFunc f args.toArray).run P w=.ok (.value (.bool false)) w:=by
 unfold Gv at ha
 split at ha
 ·rename_i o p s off len cap o' p' s' off' len' cap'
  split at ha
  ·cases ha
  ·rename_i hne
   split at ha
   ·rename_i t v t' v' h1 h2
    simp only [Option.some.injEq] at ha;subst ha
    obtain ⟨c1,_,rfl,k1,hv⟩:=hv.cons_inv
    obtain ⟨c2,_,rfl,k2,hv⟩:=hv.cons_inv
    cases hv
    have k1:=k1.one rfl rfl
    have k2:=k2.one rfl rfl
    rw [aQ] at k1 k2
    obtain ⟨b1,z1,n1,e1,f1,_⟩:=k1
    obtain ⟨b2,z2,n2,e2,f2,_⟩:=k2
    simp only [List.cons.injEq,and_true] at f1 f2
    subst f1;subst f2
    obtain ⟨cells,fz,l,rr,g1,g2,g3,g4,g5⟩:=r.obj _ _ _ _ h1 e1
    obtain ⟨cells',fz',l',rr',g1',g2',g3',g4',g5'⟩:=r.obj _ _ _ _ h2 e2
    have g5:fz=(0,0):=g5
    subst g5
    have hb:b1≠b2:=by
     intro e;subst e
     exact hne (r.sep _ _ _ _ _ _ _ h1 rfl h2 rfl e1 e2)
    refine h w ⟨b1,_,none⟩ ⟨b2,_,none⟩ _ _ _ _ hb ⟨cells,t,g1⟩ ⟨cells',t',fz',g1',?_⟩
    have:=hq.1
    rw [← Array.length_toList,g2',List.length_append,fH _ _ g4']
    omega
   ·cases ha
 ·cases ha
theorem uW {s:fG} (h:∀ ι x l,bO ι s.c x l↔l=s.enc x):∀ {xs:List s.c.den} {l:List Value},bX (bO ι s.c) xs l↔l=xs.flatMap s.enc
 | [],l=>⟨fun k=>by cases k;rfl,fun e=>by rw [e];exact .nil⟩
 | x :: xs,l=>⟨fun k=>by
   cases k with
   | cons h1 h2=>rw [(h _ _ _).1 h1,(uW h).1 h2,List.flatMap_cons],fun e=>by
   rw [e,List.flatMap_cons];exact .cons ((h _ _ _).2 rfl) ((uW h).2 rfl)⟩
theorem wm {s:fG} {vs:List AV} {x:AV} {args:List Value} (h:zF s vs=some x) (hv:a4 (au ι) vs args):∃ c,args.toArray=#[c]++s.rest∧au ι x c:=by
 unfold zF at h
 split at h
 ·rename_i g x' g' hg
  split at h
  ·rename_i e;subst e
   cases h
   obtain ⟨c1,_,rfl,k1,hv⟩:=hv.cons_inv
   obtain ⟨c2,_,rfl,k2,hv⟩:=hv.cons_inv
   cases hv
   obtain ⟨l,rfl,hl⟩:=Bn k2
   cases hl
   exact ⟨c1,by unfold fG.rest;rw [hg];rfl,k1⟩
  ·cases h
 ·rename_i x' hg
  cases h
  obtain ⟨c1,_,rfl,k1,hv⟩:=hv.cons_inv
  cases hv
  exact ⟨c1,by unfold fG.rest;rw [hg];rfl,k1⟩
 ·cases h
theorem H6 {P:Program} {f:FuncId} {s:fG} (h:Gy P f s) {vs:List AV} {q:List Prop} {H':av} {args:List Value} {v:AV} (ha:KA s H vs=some (q,v,H')) (hq:holds q) (r:aR ι H w) (hv:a4 (au ι) vs args):
  iB P f args.toArray w fun c w'=>∃ ι',Ext ι ι'∧aR ι' H' w'∧au ι' v c:=by
 obtain ⟨⟨henc,hres⟩,hlen,hnil,hall⟩:=h
 unfold KA at ha
 split at ha
 ·rename_i hsa
  obtain ⟨c1,ea,k1⟩:=wm hsa hv
  simp only [Option.some.injEq,Prod.mk.injEq] at ha
  obtain ⟨rfl,rfl,rfl⟩:=ha
  have e1:=k1.raw;subst e1
  rw [ea]
  refine (hnil w).mono ?_
  rintro c w' ⟨rfl,hB⟩
  refine ⟨ι.grown w w',r.ju w',r.grown hB,?_⟩
  unfold fG.Wv fG.PK
  cases s.res with
  | none=>exact ⟨[],rfl,.nil⟩
  | some g=>exact aC rfl (by rw [aQ];exact ⟨rfl,rfl⟩)
 ·rename_i ob z off len cap hsa
  obtain ⟨c1,ea,k1⟩:=wm hsa hv
  rw [ea]
  split at ha
  ·rename_i t m c xs hob
   split at ha
   ·rename_i hc;subst hc
    split at ha
    ·rename_i hz;subst hz
     simp only [Option.some.injEq,Prod.mk.injEq] at ha
     obtain ⟨rfl,rfl,rfl⟩:=ha
     obtain ⟨hm,hl60,_⟩:=hq
     obtain ⟨b,z,k,hbk,rfl,hk,hkz,hcap⟩:=gx k1
     obtain ⟨cells,fz,lo,rr,e1,e2,e3,e4,e5⟩:=(r.obj _ _ _ _ hob hbk).cell
     have e5:=e5 rfl;subst e5
     rw [aQ] at e4
     obtain ⟨hxs,hr⟩:=e4
     have hsz:=a7 (ι:=ι) s.c
     obtain ⟨m1,m2,em,em1,hm1,hm2⟩:=hr.split hsz off (by omega)
     obtain ⟨k1',k3,ek,ek1,hk1,hk2⟩:=hm2.split hsz len (by simp;omega)
     have hkl:((xs.drop off).take len).length=len:=by simp;omega
     have hk1e:=(uW henc).1 hk1
     have hcl:cells.toList=m1++(k1'++(k3++rr)):=by rw [e2,em,ek];simp [List.append_assoc]
     have hp0:aJ []+off * s.c.size=m1.length:=by rw [em1];simp [aJ]
     have hrow:(cells.toList.drop m1.length).take (((xs.drop off).take len).length * s.c.size)=((xs.drop off).take len).flatMap s.enc:=by
      rw [hkl,hcl,List.drop_left' rfl,← ek1,List.take_left' rfl];exact hk1e
     have hcall:=hall w b m1.length k ((xs.drop off).take len) cells t (by rw [hkl];exact hl60) (by rw [hkl];exact hk) e1 hrow
     rw [hkl] at hcall
     rw [hp0]
     refine hcall.mono ?_
     rintro c w' ⟨rfl,w1,cells',q1,q2,q3,q4,q5,q6,q7,q8⟩
     have hlf:=hlen ((xs.drop off).take len)
     rw [hkl] at hlf
     have hfe:bX (bO ι s.c) (s.f ((xs.drop off).take len)) ((s.f ((xs.drop off).take len)).flatMap s.enc):=(uW henc).2 rfl
     have hfl:=hfe.len hsz
     rw [hlf] at hfl
     have hc':cells'.toList=(m1++((s.f ((xs.drop off).take len)).flatMap s.enc++k3))++rr:=by
      rw [q2,hcl,List.take_left' rfl]
      have:(m1++(k1'++(k3++rr))).drop (m1.length+len * s.c.size)=k3++rr:=by
       rw [← List.append_assoc,List.drop_left' (by rw [List.length_append,ek1])]
      rw [this];simp [List.append_assoc]
     have r1:aR ι (H.set ob (.cell true t (.arr m s.c (fE xs off (s.f ((xs.drop off).take len)))))) w1:=by
      refine r.xW (z:=z) hob rfl hbk q3 q4 q5 q6 q7 ⟨cells',(0,0),m1++((s.f ((xs.drop off).take len)).flatMap s.enc++k3),rr,q1,hc',?_,?_,by simp⟩
      ·have hz:cells.toList.length=z:=by rw [Array.length_toList];exact e3
       rw [← Array.length_toList,hc',← hz,hcl]
       simp only [List.length_append,hfl,ek1];omega
      ·rw [aQ]
       refine ⟨?_,?_⟩
       ·simp only [fE,List.length_append,List.length_take,List.length_drop,hlf];omega
       ·unfold fE
        refine hm1.app (hfe.app ?_)
        rw [hlf,← List.drop_drop]
        exact hk2
     refine ⟨ι.grown w1 w',r1.ju w',r1.grown q8,?_⟩
     unfold fG.Ww fG.Wu
     cases hres':s.res with
     | none=>exact ⟨[],rfl,.nil⟩
     | some g=>
      have hg:=hres g hres' ((xs.drop off).take len)
      rw [hkl] at hg
      refine aC rfl ?_
      rw [aQ]
      exact ⟨b,z,k,hbk,by rw [hp0],by omega,hkz,hcap⟩
    ·cases ha
   ·cases ha
  ·cases ha
 ·cases ha
theorem mn {i:Int} {go:Nat→Prop}:∀ {n j:Nat},wJ i n j go→(j:Int)≤i→i < j+n→∃ k:Nat,i=k∧j≤k∧k < j+n∧go k
 | 0,j,h,_,_=>h.elim
 | 1,j,h,h1,h2=>⟨j,by omega,by omega,by omega,h⟩
 | n+2,j,h,h1,h2=>by
  unfold wJ at h
  rcases so h with ⟨hb,h⟩ | ⟨hb,h⟩
  ·have:i=j:=by simpa [ak] using hb
   exact ⟨j,this,by omega,by omega,h⟩
  ·have hne:¬ i=j:=by simpa [ak] using hb
   obtain ⟨k,e,k1,k2,hk⟩:=mn (n:=n+1) h (by omega) (by omega)
   exact ⟨k,e,by omega,by omega,hk⟩
theorem gj (hV:E.Valid) {Q:AV→av→Prop} {go:List AV→av→Prop} {fr:Fr} {bm:List Fr} {o:Oper} (hgo:∀ T' H',go T' H'→ic E {fr with T:=T'} (KW E Q bm fr.kind fr.id) H')
  (h:jb E fr.T H o go) {n:Nat} (r:fK E ι fr.T H a w) (hD:gM (E.je fr.kind) ι fr.D a.defers) (hk:Ec ι fr.kind) (Q':Exit→Act→World→Prop):
  o.wpIn (aL ι fr.kind) n E.P a w (fun a' w'=>cg ι (aL ι fr.kind) n E.P (lift E (E.je fr.kind) fr.base ι (KW E Q bm fr.kind fr.id)) fr.items .normal a' w') Q':=by
 unfold jb at h
 split at h
 ·rename_i q v H' hx
  obtain ⟨hq,hgo'⟩:=cE h
  obtain ⟨ι',w',c,hE,hH,hr,hrun⟩:=xr hV hx hq r
  refine ⟨fun g _=>bW _ g,?_⟩
  rw [Oper.semAt_eq _ _ _ (iV hx)]
  rcases hrun with hrun | ⟨hrun,rfl⟩
  ·rw [hrun];exact dA (hgo _ _ hgo') hE hH hr r.tmps r.cQ hD hk
  ·rw [hrun];exact dA (hgo _ _ hgo') hE hH hr r.tmps r.cQ hD hk
 ·cases h
theorem BB (hV:E.Valid) (hS:iW E) {Q:AV→av→Prop} {K:cM} {go:List AV→av→Prop} {fr:Fr} {bm:List Fr} {o:Oper} (hK:∀ fr bm H,K fr bm H→WW E Q fr bm H)
  (hgo:∀ T' H',go T' H'→ic E {fr with T:=T'} (KW E Q bm fr.kind fr.id) H') (h:DR E K go fr bm H o) {n:Nat} (r:fK E ι fr.T H a w) (hD:gM (E.je fr.kind) ι fr.D a.defers) (hk:Ec ι fr.kind) (Q':Exit→Act→World→Prop):
  o.wpIn (aL ι fr.kind) n E.P a w (fun a' w'=>cg ι (aL ι fr.kind) n E.P (lift E (E.je fr.kind) fr.base ι (KW E Q bm fr.kind fr.id)) fr.items .normal a' w') Q':=by
 unfold DR at h
 split at h
 case h_1 f args ts hop=>
  have hrunS:∀ ro,o.semAt ro a.eval=execOp a.eval o:=fun ro=>fc hop
  dsimp only at h
  split at h
  ·rename_i g caps vs hf ha
   obtain ⟨l,hfe,hall⟩:=BC r hf ha
   have hrun:(o.semAt (aL ι fr.kind).round a.eval).run E.P w=(callFunc g (args.toList.map a.eval++l).toArray).run E.P w:=by
    rw [hrunS];exact pV hop hfe
   split at h
   ·rename_i hap
    split at h
    ·rename_i q hq0
     obtain ⟨hq,hgo'⟩:=cE h
     have hr:=J2 (hV.apart _ hap) hq0 hq r.heap hall
     refine ⟨fun g _=>bW _ g,?_⟩
     rw [hrun,hr]
     exact dA (hgo _ _ hgo') (Ext.refl ι) r.heap (dP _) r.tmps r.cQ hD hk
    ·cases h
   split at h
   ·rename_i sd hsd
    split at h
    ·rename_i q v H' hq0
     obtain ⟨hq,hgo'⟩:=cE h
     refine eY rfl (H6 (hV.sort _ _ hsd) hq0 hq r.heap hall) hrun ?_
     rintro c w' ⟨ι',hE,hH,hr⟩
     exact dA (hgo _ _ hgo') hE hH hr r.tmps r.cQ hD hk
    ·cases h
   split at h
   ·rename_i ps hps
    split at h
    ·rename_i q v H' hq0
     obtain ⟨hq,hgo'⟩:=cE h
     refine eY rfl (x9 (hS.proc _ _ hps) hq0 hq r.heap r.cQ hall) hrun ?_
     rintro c w' ⟨ι',hE,hH,hr⟩
     exact dA (hgo _ _ hgo') hE hH hr r.tmps r.cQ hD hk
    ·cases h
   split at h
   ·rename_i sp hsp
    split at h
    ·rename_i hfl
     split at h
     ·rename_i q us hv
      split at h
      ·rename_i x hx
       obtain ⟨hq,hp,hgo'⟩:=cE h
       refine eY rfl (x4 (hS.spec _ _ hsp) hfl hv hq hx hp r.heap r.cQ hall) hrun ?_
       rintro c w' ⟨ι',hE,hH,hr⟩
       exact dA (hgo _ _ hgo') hE hH hr r.tmps r.cQ hD hk
      ·cases h
     ·cases h
    ·split at h
     ·rename_i H' hfz
      split at h
      ·rename_i q us hv
       split at h
       ·rename_i x hx
        obtain ⟨hq,hp,hgo'⟩:=cE h
        split at hgo'
        case h_2 e ho=>
         split at hgo'
         ·rename_i v ob hown
          refine eY rfl (Ca (hS.spec _ _ hsp) ho hfz hv hq hx hp hown r.heap r.cQ hall) hrun ?_
          rintro c w' ⟨ι',hE,hH,hr⟩
          exact dA (hgo _ _ hgo') hE hH hr r.tmps r.cQ hD hk
         ·cases hgo'
        refine eY rfl (x3 (hS.spec _ _ hsp) hfz hv hq hx hp r.heap r.cQ hall) hrun ?_
        rintro c w' ⟨ι',hE,hH,hr⟩
        exact dA (hgo _ _ hgo') hE hH hr r.tmps r.cQ hD hk
       ·cases h
      ·cases h
     ·cases h
   ·split at h
    ·rename_i fn hfn
     split at h
     ·rename_i c hc
      have hW:=hK _ _ _ h
      refine ⟨fun g _=>bW _ g,?_⟩
      rw [hrun,eU hV hfn hc]
      refine ⟨by rw [gG];simp,iM ?_⟩
      refine pY hV rfl hfn hc (.inr (.inl ⟨_,rfl⟩)) hW r.heap r.cQ hall ?_
      rintro e T' D' H' ⟨⟨j,hj,hret⟩,fn',H'',q,v,h1,h2,h3,h4,h5⟩
      refine ⟨iR hj hret,fn',H'',q,v,h1,h2,h3,h4,fun ι' u w' hE hH hu=>?_⟩
      exact dA h5 (rR.ext (k:=.call o.dst) hE (.inl rfl)) hH hu r.tmps r.cQ hD hk
     ·cases h
    ·cases h
  ·rename_i g fs vs hf ha
   split at h
   ·rename_i fn hfn
    split at h
    ·rename_i c hc
     have hW:=hK _ _ _ h
     obtain ⟨l,hfe,hl⟩:=OF (bL hf r)
     have hall:a4 (au ι) (fs++vs) (l++args.toList.map a.eval):=hl.app (eH ha r)
     refine ⟨fun g _=>bW _ g,?_⟩
     rw [hrunS,OD hop hfe,eU hV hfn hc]
     refine ⟨by rw [gG];simp,iM ?_⟩
     refine pY hV rfl hfn hc (.inr (.inl ⟨_,rfl⟩)) hW r.heap r.cQ hall ?_
     rintro e T' D' H' ⟨⟨j,hj,hret⟩,fn',H'',q,v,h1,h2,h3,h4,h5⟩
     refine ⟨iR hj hret,fn',H'',q,v,h1,h2,h3,h4,fun ι' u w' hE hH hu=>?_⟩
     exact dA h5 (rR.ext (k:=.call o.dst) hE (.inl rfl)) hH hu r.tmps r.cQ hD hk
    ·cases h
   ·cases h
  ·rename_i l vs hf ha
   split at h
   ·rename_i s pd g T0 ps ca cb d hl
    split at h
    ·rename_i hlen
     have hW:=hK _ _ _ h
     have hv:=(bL hf r).one rfl rfl
     rw [aQ] at hv
     obtain ⟨b,z,hb,hfe⟩:=hv
     simp only [List.cons.injEq,and_true] at hfe
     obtain ⟨tmps,db,dz,fnr,hobj,hT0,hdb⟩:=r.heap.obj _ _ _ _ hl hb
     have hargs:args.map a.eval=(args.toList.map a.eval).toArray:=Array.ext' (by simp)
     have hvs:=eH ha r
     have hrun:(o.semAt (aL ι fr.kind).round a.eval).run E.P w=.ok (.round b fnr ((ps.toArray.zip (args.map a.eval)).foldl (fun tmps (t,a)=>tmps.setIfInBounds t a) tmps) ca cb) w:=by
      rw [hrunS]
      simp only [execOp,hop,resolve,hfe,Deferred.ofValue,Sem.run_bind,Sem.run_pure,Result.andThen,invoke]
      have:=run_yield (P:=E.P) (args:=#[]++args.map a.eval) hobj (by simp [← hlen,hvs.len])
      simpa using this
     refine ⟨fun g _=>bW _ g,?_⟩
     rw [hrun]
     refine ⟨by rw [gG];simp,?_⟩
     rw [hargs]
     refine La (m:=n) hW hb r.heap r.cQ hT0 hvs hlen hk r.tmps hD ?_
     intro c w' hw
     exact hw
    ·cases h
   ·cases h
  ·cases h
 case h_2 args ts hop=>
  dsimp only at h
  split at h
  ·rename_i t1 t2 s x hts hargs
   split at h
   ·split at h
    ·rename_i ht;subst ht
     split at h
     ·rename_i q v H' happ
      obtain ⟨hq,h⟩:=cE h
      obtain ⟨cs,hrunb⟩:=gI (E:=E) (a:=a) (w:=w) hop
      have hl:=eH hargs r
      obtain ⟨us,_,e1,hs,hl⟩:=hl.cons_inv
      obtain ⟨ux,_,e2,hx,hl⟩:=hl.cons_inv
      cases hl
      have hmap:args.map a.eval=#[us,ux]:=by
       have:args.map a.eval=(args.toList.map a.eval).toArray:=Array.ext' (by simp)
       rw [this,e1,e2]
      have htse:ts=#[t1,t1]:=by cases ts;simpa using hts
      obtain ⟨ι',w',u,hrun,hE,hH,hr⟩:=HO (ty:=o.type) hV happ hq r.heap hs hx
      refine ⟨fun g _=>bW _ g,?_⟩
      rw [fc hop,hrunb,hmap,htse]
      simp only [builtin,Sem.run_bind,hrun,Result.andThen,Sem.run_pure]
      exact dA (hgo _ _ h) hE hH hr r.tmps r.cQ hD hk
     ·cases h
    ·cases h
   split at h
   ·obtain ⟨cs,hrunb⟩:=gI (E:=E) (a:=a) (w:=w) hop
    have hl:=eH hargs r
    obtain ⟨us,_,e1,hs,hl⟩:=hl.cons_inv
    obtain ⟨ux,_,e2,hx,hl⟩:=hl.cons_inv
    cases hl
    have hmap:args.map a.eval=#[us,ux]:=by
     have:args.map a.eval=(args.toList.map a.eval).toArray:=Array.ext' (by simp)
     rw [this,e1,e2]
    have htse:ts=#[t1,t2]:=by cases ts;simpa using hts
    obtain ⟨v,H',ι',w',u,hg,hrun,hE,hH,hr⟩:=OJ (ty:=o.type) hV h r.heap hs hx
    refine ⟨fun g _=>bW _ g,?_⟩
    rw [fc hop,hrunb,hmap,htse]
    simp only [builtin,Sem.run_bind,hrun,Result.andThen,Sem.run_pure]
    exact dA (hgo _ _ hg) hE hH hr r.tmps r.cQ hD hk
   split at h
   ·rename_i ht;subst ht
    split at h
    ·rename_i d hd
     split at h
     ·rename_i e de he
      obtain ⟨he1,he2⟩:=kM hV he
      split at h
      ·rename_i c hsl hc
       have hdesc:d.desc=.slice e:=by
        rcases he2 with h' | ⟨m,h'⟩
        ·exact h'
        ·unfold rI at hsl;rw [h'] at hsl;cases hsl
       have hu:=(hV.ty _ _ hd).1
       rw [hdesc] at hu
       obtain ⟨cs,hrunb⟩:=gI (E:=E) (a:=a) (w:=w) hop
       have hl:=eH hargs r
       obtain ⟨us,_,e1,hs,hl⟩:=hl.cons_inv
       obtain ⟨ux,_,e2,hx,hl⟩:=hl.cons_inv
       cases hl
       have hmap:args.map a.eval=#[us,ux]:=by
        have:args.map a.eval=(args.toList.map a.eval).toArray:=Array.ext' (by simp)
        rw [this,e1,e2]
       have htse:ts=#[t1,t1]:=by cases ts;simpa using hts
       have done:∀ (v:AV) (H':av),ic E {fr with T:=b7 fr.T o.dst v} (KW E Q bm fr.kind fr.id) H'→
         (∃ ι' w' u,(Builtin.append_ #[t1,t1] o.type #[us,ux]).run E.P w=.ok u w'∧Ext ι ι'∧aR ι' H' w'∧au ι' v u)→
         o.wpIn (aL ι fr.kind) n E.P a w (fun a' w'=>cg ι (aL ι fr.kind) n E.P (lift E (E.je fr.kind) fr.base ι (KW E Q bm fr.kind fr.id)) fr.items .normal a' w') Q':=by
        rintro v H' hW ⟨ι',w',u,hrun,hE,hH,hr⟩
        refine ⟨fun g _=>bW _ g,?_⟩
        rw [fc hop,hrunb,hmap,htse]
        simp only [builtin,Sem.run_bind,hrun,Result.andThen,Sem.run_pure]
        exact dA hW hE hH hr r.tmps r.cQ hD hk
       split at h
       ·rename_i hcond
        split at h
        ·rename_i q ys happ
         split at h
         ·obtain ⟨hq,h⟩:=cE h
          have hus:=hs.raw;subst hus
          by_cases hys:ys.length=0
          ·have hc0:ak ys.length 0=true:=by simp [ak,hys]
           rw [hc0] at h
           refine done _ H (hgo _ _ h) ⟨ι,w,_,?_,Ext.refl ι,r.heap,hs⟩
           obtain ⟨l,hl,hcx⟩:=hZ happ hq r.heap hx
           refine gJ hu he1 none 0 0 0 ux ?_ rfl (Nat.le_refl _)
           rcases hcx with ⟨_,h0 | ⟨a0,h0⟩⟩ | ⟨b,off,k,rfl,_⟩
           ·exact .inl ⟨h0,rfl⟩
           ·exact .inr ⟨a0,0,h0⟩
           ·exact .inr ⟨_,k,by rw [hys]⟩
          ·have hc0:ak ys.length 0=false:=by
            have hne:¬ ((ys.length:Int)=0):=by omega
            simp only [ak,beq_eq_false_iff_ne,ne_eq,hne,not_false_eq_true]
           rw [hc0] at h
           obtain ⟨h1,h2,h3⟩:=h
           exact done _ _ (hgo _ _ h3) (kq hu he1 hcond.1 happ hq r.heap hx (by omega) h1 h2)
         ·rename_i ob s0 len
          split at h
          ·rename_i t m c' xs hob
           split at h
           ·rename_i hcc;subst hcc
            split at h
            ·rename_i hst
             obtain ⟨hq,rfl,h1,h2,h3⟩:=cE h
             obtain ⟨rfl,rfl⟩:=hst
             exact done _ _ (hgo _ _ h3) (kp hu he1 hcond.1 happ hq r.heap hx hs hob h1 h2)
            ·cases h
           ·cases h
          ·cases h
         ·rename_i ob s0 off len k
          split at h
          ·rename_i t m c' xs hob
           split at h
           ·rename_i hcc;subst hcc
            split at h
            ·rename_i hst
             obtain ⟨hq,h⟩:=cE h
             obtain ⟨rfl,rfl⟩:=hst
             rcases so h with ⟨hb,h1,h2,h3,h4⟩ | ⟨hb,h1,h2⟩
             ·have hlt:k < len+ys.length:=by simp only [cF,decide_eq_true_eq] at hb;omega
              exact done _ _ (hgo _ _ h4) (jM hu he1 hcond.1 happ hq r.heap hx hs hob h1 h2 h3 hlt)
             ·have hge:len+ys.length≤k:=by simp only [cF,decide_eq_false_iff_not] at hb;omega
              obtain ⟨w',u,k1,k2,k3⟩:=jL (ty:=o.type) hu he1 hcond.1 happ hq r.heap hx hs hob h1 hge
              exact done _ _ (hgo _ _ h2) ⟨ι,w',u,k1,Ext.refl ι,k2,k3⟩
            ·cases h
           ·cases h
          ·cases h
         ·cases h
        ·cases h
       ·cases h
      ·cases h
     ·cases h
    ·cases h
   ·split at h
    ·rename_i q v H' hz
     obtain ⟨hq,h⟩:=cE h
     obtain ⟨cs,hrunb⟩:=gI (E:=E) (a:=a) (w:=w) hop
     have hl:=eH hargs r
     obtain ⟨us,_,e1,hs,hl⟩:=hl.cons_inv
     obtain ⟨ux,_,e2,hx,hl⟩:=hl.cons_inv
     cases hl
     have hmap:args.map a.eval=#[us,ux]:=by
      have:args.map a.eval=(args.toList.map a.eval).toArray:=Array.ext' (by simp)
      rw [this,e1,e2]
     have htse:ts=#[t1,t2]:=by cases ts;simpa using hts
     obtain ⟨ι',w',u,hrun,hE,hH,hr⟩:=HR (ty:=o.type) hV hz hq r.heap hs hx
     refine ⟨fun g _=>bW _ g,?_⟩
     rw [fc hop,hrunb,hmap,htse]
     simp only [builtin,Sem.run_bind,hrun,Result.andThen,Sem.run_pure]
     exact dA (hgo _ _ h) hE hH hr r.tmps r.cQ hD hk
    ·cases h
  ·cases h
 case h_3 t m k ok hop=>
  dsimp only at h
  split at h
  ·rename_i d ob kk n hd hm hk'
   split at h
   ·rename_i kt et es hdesc ho
    split at h
    ·rename_i dk de hdk hde
     split at h
     ·rename_i k0 hkd
      have h1:=(hV.ty _ _ hd).1
      have h2:=(hV.ty _ _ hdk).1
      rw [hdesc] at h1
      rw [hkd] at h2
      have hl:jY n kk de.zero (fun v fl=>go (b7 fr.T o.dst (jX ok v fl)) H) es:=by
       split at h
       ·rename_i v fl hmg;exact oC (go:=fun v fl=>go (b7 fr.T o.dst (jX ok v fl)) H) hmg h
       ·exact h
      obtain ⟨v,fl,c,hg,hr,hrun⟩:=yl (ok:=ok) h1 h2 (hV.ty _ _ hde) r.heap ho (bL hm r) hl
      refine ⟨fun g _=>bW _ g,?_⟩
      rw [Oper.semAt_eq _ _ _ (by simp [hop])]
      have hrun':(execOp a.eval o).run E.P w=.ok (.value c) w:=by
       simp only [execOp,hop,(bL hk' r).int,Sem.run_bind,hrun,Result.andThen,Sem.run_pure]
      rw [hrun']
      exact dA (hgo _ _ hg) (Ext.refl ι) r.heap hr r.tmps r.cQ hD hk
     ·cases h
    ·cases h
   ·rename_i kt et xs hdesc ho
    have h1:=(hV.ty _ _ hd).1
    rw [hdesc] at h1
    split at h
    ·rename_i q v H' hx
     obtain ⟨_,_,c,hr,hrun⟩:=CV hV h1 r.heap ho (bL hm r) hx
     refine ⟨fun g _=>bW _ g,?_⟩
     rw [Oper.semAt_eq _ _ _ (by simp [hop])]
     have hrun':(execOp a.eval o).run E.P w=.ok (.value c) w:=by
      simp only [execOp,hop,(bL hk' r).int,Sem.run_bind,hrun,Result.andThen,Sem.run_pure]
     rw [hrun']
     exact dA (hgo _ _ h) (Ext.refl ι) r.heap hr r.tmps r.cQ hD hk
    ·cases h
   ·cases h
  ·cases h
 case h_4 t x i hop=>
  dsimp only at h
  split at h
  ·rename_i d u k nn hd hu hi
   split at h
   ·rename_i m e0 e e2 hdesc hma he
    obtain ⟨⟨hq1,hq2,_⟩,h⟩:=cE (qs:=[_,_]) h
    obtain ⟨j,ej,_,_,hj⟩:=mn h (by simpa using hq1) (by simpa using hq2)
    refine gj hV hgo ?_ r hD hk Q'
    unfold jb
    have:jN E fr.T H o=match iw d e2.size u (.int k j) with | some (q,v)=>some (q,v,H) | none=>none:=by
     simp only [jN,hop,hd,hu,hi,he,ej]
     generalize iw d e2.size u (.int k j)=z
     cases z<;>rfl
    rw [this]
    split at hj
    ·rename_i q v hx;rw [hx];exact hj
    ·cases hj
   ·exact gj hV hgo h r hD hk Q'
  ·exact gj hV hgo h r hD hk Q'
 case h_5 t x hop=>
  dsimp only at h
  split at h
  ·rename_i d ob p hd hx
   split at h
   ·rename_i n el hdesc
    split at h
    ·rename_i ee own ty v he ho
     split at h
     ·rename_i q m c xs hg
      split at h
      ·rename_i hc
       obtain ⟨rfl,hcs⟩:=hc
       obtain ⟨hq,hgo'⟩:=cE h
       have hu:=(hV.ty _ _ hd).1
       rw [hdesc] at hu
       have hp:=(bL hx r).one rfl rfl
       rw [aQ] at hp
       obtain ⟨b,z,hb,hpe⟩:=hp
       simp only [List.cons.injEq,and_true] at hpe
       obtain ⟨cells,fz,l,rr,e1,e2,e3,e4,e5⟩:=(r.heap.obj _ _ _ _ ho hb).cell
       obtain ⟨l1,mm,l2,el',el1,hu',_⟩:=fe p v l q _ hg hq e4
       rw [aQ] at hu'
       have hlen:=a7 (.arr m c) _ _ hu'
       have hlen:mm.length=m * c.size:=hlen
       have hz:l1.length+mm.length≤z:=by
        rw [← e3,← Array.length_toList,e2,el']
        simp
       refine ⟨fun g _=>bW _ g,?_⟩
       rw [Oper.semAt_eq _ _ _ (by simp [hop])]
       have hrun':(execOp a.eval o).run E.P w=.ok (.value (.slice (some ⟨b,aJ p,none⟩) m m)) w:=by
        simp only [execOp,hop,Instr.sliceAt,hpe,Sem.run_bind,run_underlying hu,bR (hV.ty _ _ he),Result.andThen,Instr.sureAddr,Sem.run_pure,Instr.sliceBounds,Option.map_none]
        simp
        intro _
        rfl
       rw [hrun']
       refine dA (hgo _ _ hgo') (Ext.refl ι) r.heap ?_ r.tmps r.cQ hD hk
       refine aC rfl ?_
       rw [aQ]
       exact ⟨b,z,m,hb,by simp,Nat.le_refl _,by rw [el1,hlen,hcs] at hz;simpa using hz,fun k' e=>by cases e;rfl⟩
      ·cases h
     ·cases h
    ·cases h
   ·cases h
  ·exact gj hV hgo h r hD hk Q'
 case h_6 src dst x hop=>
  dsimp only at h
  split at h
  ·rename_i s d ob p sz off len cap hs hd hx
   split at h
   ·rename_i q u hv
    split at h
    ·rename_i z hz
     obtain ⟨hq,hgo'⟩:=cE h
     have hu:=u3 r.heap (ι':=ι.all w) ⟨fun b _ _ _ e=>r.heap.a5 b _ e,fun _ _ h=>h⟩ (fun o _ own t v b z _ _=>rfl) hv hq (bL hx r)
     obtain ⟨c,hrun,hr⟩:=GH (ι:=ι.all w) hV (hV.ty _ _ hs) (hV.ty _ _ hd) hz (fun b o e=>e) hu
     refine ⟨fun g _=>bW _ g,?_⟩
     rw [Oper.semAt_eq _ _ _ (by simp [hop])]
     have hrun':(execOp a.eval o).run E.P w=.ok (.value c) w:=by
      simp only [execOp,hop,Sem.run_bind,hrun,Result.andThen,Sem.run_pure]
     rw [hrun']
     exact dA (hgo _ _ hgo') (Ext.refl ι) r.heap (hr ι) r.tmps r.cQ hD hk
    ·cases h
   ·cases h
  ·exact gj hV hgo h r hD hk Q'
 case h_7 t x i hop=>
  dsimp only at h
  split at h
  ·rename_i d ss vs k nn hd hu hi
   split at h
   ·rename_i m e0 e e2 hdesc he
    obtain ⟨⟨hq1,hq2,_⟩,h⟩:=cE (qs:=[_,_]) h
    obtain ⟨j,ej,_,_,hj⟩:=mn h (by simpa using hq1) (by simpa using hq2)
    refine gj hV hgo ?_ r hD hk Q'
    unfold jb
    have:jN E fr.T H o=match rK d e2 (.agg ss vs) (.int k j) with | some (q,v)=>some (q,v,H) | none=>none:=by
     simp only [jN,hop,hd,hu,hi,he,ej]
     generalize rK d e2 (.agg ss vs) (.int k j)=z
     cases z<;>rfl
    rw [this]
    split at hj
    ·rename_i q v hx;rw [hx];exact hj
    ·cases hj
   ·exact gj hV hgo h r hD hk Q'
  ·exact gj hV hgo h r hD hk Q'
 case h_8 op t x y ty hop=>
  dsimp only at h
  split at h
  ·rename_i c xs hx hy
   split at h
   ·rename_i d hd
    have hu:=(hV.ty _ _ hd).1
    have hy':=(bL hy r).raw
    have hx':=(bL hx r).one rfl rfl
    rw [aQ] at hx'
    obtain ⟨v,hv,hx'⟩:=hx'
    simp only [List.cons.injEq,and_true] at hv
    have fin:∀ b,(execOp a.eval o).run E.P w=.ok (.value (.bool b)) w→go (b7 fr.T o.dst (.bool b)) H→o.wpIn (aL ι fr.kind) n E.P a w (fun a' w'=>cg ι (aL ι fr.kind) n E.P (lift E (E.je fr.kind) fr.base ι (KW E Q bm fr.kind fr.id)) fr.items .normal a' w') Q':=by
     intro b hrun hg
     refine ⟨fun g _=>bW _ g,?_⟩
     rw [Oper.semAt_eq _ _ _ (by simp [hop]),hrun]
     exact dA (hgo _ _ hg) (Ext.refl ι) r.heap (dP _) r.tmps r.cQ hD hk
    have sl:∃ p m k,v=.slice p m k∧(p.isNone=true→ak xs.length 0=true):=by
     rcases hx' with ⟨h0,rfl | ⟨p,rfl⟩⟩ | ⟨b,off,k,cells,tt,fz,l,rfl,_⟩
     ·exact ⟨none,0,0,rfl,fun _=>by rw [h0];rfl⟩
     ·exact ⟨some p,0,0,rfl,fun h=>by cases h⟩
     ·exact ⟨some _,_,_,rfl,fun h=>by cases h⟩
    obtain ⟨p,m,k,rfl,hpn⟩:=sl
    have hg:∀ op xo yo,(eqGuard op t xo yo (.slice p m k) (.slice none 0 0)).run E.P w=.ok () w:=by intro op xo yo;unfold eqGuard;split<;>rfl
    split at h
    ·rename_i e hde
     rw [hde] at hu
     have hrun:(execOp a.eval o).run E.P w=.ok (.value (.bool p.isNone)) w:=by
      simp only [execOp,hop,hv,hy',Sem.run_bind,hg,Result.andThen,binOp,iH hu,Sem.run_pure]
     refine fin _ hrun ?_
     cases hp:p.isNone with
     | true=>
      rw [hpn hp] at h
      exact h.1
     | false=>
      cases hz:ak (xs.length:Int) 0 with
      | true=>rw [hz] at h;exact h.2
      | false=>rw [hz] at h;exact h
    ·rename_i e hde
     rw [hde] at hu
     have hrun:(execOp a.eval o).run E.P w=.ok (.value (.bool (!p.isNone))) w:=by
      simp only [execOp,hop,hv,hy',Sem.run_bind,hg,Result.andThen,binOp,iH hu,Sem.run_pure]
     refine fin _ hrun ?_
     cases hp:p.isNone with
     | true=>
      rw [hpn hp] at h
      exact h.1
     | false=>
      cases hz:ak (xs.length:Int) 0 with
      | true=>rw [hz] at h;exact h.2
      | false=>rw [hz] at h;exact h
    ·cases h
   ·cases h
  ·exact gj hV hgo h r hD hk Q'
 case h_9=>exact gj hV hgo h r hD hk Q'
end Go.bz
end
section
namespace Go.bz
open Go.RowKit
variable {E:Env} {ι:aD} {T:List AV} {H:av} {a:Act} {w:World}
theorem cS {fr:Fr} {p:D9} {k':List It} (hW:ic E {fr with items:=k'} p H)
  (h:∀ n ι F a w,fK E ι fr.T H a w→cg ι F n E.P (lift E (E.je fr.kind) fr.base ι p) k' .normal a w→cg ι F n E.P (lift E (E.je fr.kind) fr.base ι p) fr.items .normal a w):ic E fr p H:=
 fun n ι a w r hD hk=>h n ι _ a w r (hW n ι a w r hD hk)
theorem xk {b:Bool} {p q:Prop} (h:cond b p q):(b=true∧p)∨(b=false∧q):=by
 cases b with
 | false=>exact .inr ⟨rfl,h⟩
 | true=>exact .inl ⟨rfl,h⟩
theorem HT {F:Fence} {n:Nat} {P:Program} {Q:Exit→Act→World→Prop} {id:Nat} {k:List It}:∀ e a w,cg ι F n P Q (.a6 id :: k) e a w→Exit.inBlock id (cg ι F n P Q k) e a w:=by
 intro e a w h;cases e<;>exact h
theorem Ef {F:Fence} {n:Nat} {P:Program} {Q:Exit→Act→World→Prop} {c:Code} {k:List It}:∀ e a w,cg ι F n P Q (.code c :: k) e a w→Exit.then (c.wpIn F n P (cg ι F n P Q k)) (cg ι F n P Q k) e a w:=by
 intro e a w h;cases e<;>exact h
theorem BY {F:Fence} {n:Nat} {P:Program} {Q:Exit→Act→World→Prop} {c:Code} {k:List It}:∀ e a w,cg ι F n P Q (.lp c :: k) e a w→Exit.then (jP F n P c (cg ι F n P Q k)) (cg ι F n P Q k) e a w:=by
 intro e a w h;cases e<;>exact h
theorem Eg {F:Fence} {n:Nat} {P:Program} {Q:Exit→Act→World→Prop} {c:Code} (h:c.wpIn F n P (Exit.noGoto Q) a w):(Code.scope c).wpIn F n P Q a w:=by
 intro b k cs hro hb hr
 have h0:(lone (b.atR a (.code (.scope c) :: k)) cs w).fenced P F:=fenced_calm hb hr rfl
 have s0:step P (lone (b.atR a (.code (.scope c) :: k)) cs w)=.next (lone (b.atR a (.code c :: .inScope c :: k)) cs w):=step_lone_go (by simp [stepG,stepG.exec,Frame.atR])
 have s1:∀ a w,step P (lone (b.atR a (.inScope c :: k)) cs w)=.next (lone (b.atR a k) cs w):=fun a w=>step_lone_go (by simp [stepG,stepG.exec,Frame.atR])
 obtain ⟨e,a₁,w₁,hq,harr⟩:=h b (.inScope c :: k) cs hro hb hr
 cases e with
 | normal=>exact ⟨.normal,a₁,w₁,hq,.head h0 s0 (StepsIn.trans harr (.one (fenced_calm hb hr rfl) (s1 _ _)))⟩
 | exit id=>
  have hx:exitTo id (.inScope c :: k)=exitTo id k:=by simp [exitTo]
  exact ⟨.exit id,a₁,w₁,hq,fun k' hk=>.head h0 s0 (harr.1 k' (by rw [hx];exact hk)),
   fun hr' hk=>let ⟨k₁,h1,h2⟩:=harr.2 hr' (by rw [hx];exact hk);⟨k₁,h1,.head h0 s0 h2⟩⟩
 | goto l=>exact hq.elim
 | ret=>exact ⟨_,a₁,w₁,hq,.of_steps (.one h0 s0) harr⟩
 | panic ch=>exact ⟨_,a₁,w₁,hq,.of_steps (.one h0 s0) harr⟩
 | outgrown=>exact ⟨_,a₁,w₁,hq,.of_steps (.one h0 s0) harr⟩
theorem HS {F:Fence} {n:Nat} {P:Program} {Q:Exit→Act→World→Prop} {k:List It}:∀ e a w,cg ι F n P Q (.Ni :: k) e a w→Exit.noGoto (cg ι F n P Q k) e a w:=by
 intro e a w h;cases e<;>exact h
theorem gr {F:Fence} {n:Nat} {P:Program} {Q:Exit→Act→World→Prop} {id:Nat}:∀ {k k':List It},rV id k=some k'→cg ι F n P Q k' .normal a w→cg ι F n P Q k (.exit id) a w
 | [],_,h,_=>by cases h
 | it :: k,k',h,hw=>by
  cases it with
  | a6 j=>
   simp only [rV] at h
   simp only [cg]
   split at h
   ·rename_i e;cases h;rw [if_pos e.symm];exact hw
   ·rename_i e;rw [if_neg (fun e'=>e e'.symm)];exact gr h hw
  | begin l=>cases h
  | fin l=>cases h
  | Ni=>exact gr (k:=k) h hw
  | code c=>exact gr (k:=k) h hw
  | now c=>exact gr (k:=k) h hw
  | lp c=>exact gr (k:=k) h hw
  | ops all rest=>exact gr (k:=k) h hw
theorem cR {F:Fence} {n:Nat} {P:Program} {Q:Exit→Act→World→Prop}:∀ {k:List It} {e:Exit},(e=.ret∨∃ id,e=.exit id∧rV id k=none)→through k=true→Q e a w→cg ι F n P Q k e a w
 | [],_,_,_,h=>h
 | it :: k,e,he,ht,h=>by
  cases it with
  | a6 j=>
   have he':e=.ret∨∃ id,e=.exit id∧rV id k=none∧j≠id:=by
    rcases he with rfl | ⟨id,rfl,hb⟩
    ·exact .inl rfl
    ·simp only [rV] at hb
     split at hb
     ·cases hb
     ·rename_i hj;exact .inr ⟨id,rfl,hb,hj⟩
   rcases he' with rfl | ⟨id,rfl,hb,hj⟩
   ·exact cR (k:=k) (.inl rfl) ht h
   ·simp only [cg];rw [if_neg (fun e=>hj e.symm)];exact cR (k:=k) (.inr ⟨id,rfl,hb⟩) ht h
  | begin l=>cases ht
  | fin l=>cases ht
  | Ni=>
   rcases he with rfl | ⟨id,rfl,hb⟩
   ·exact cR (k:=k) (.inl rfl) ht h
   ·exact cR (k:=k) (.inr ⟨id,rfl,hb⟩) ht h
  | code c=>
   rcases he with rfl | ⟨id,rfl,hb⟩
   ·exact cR (k:=k) (.inl rfl) ht h
   ·exact cR (k:=k) (.inr ⟨id,rfl,hb⟩) ht h
  | now c=>
   rcases he with rfl | ⟨id,rfl,hb⟩
   ·exact cR (k:=k) (.inl rfl) ht h
   ·exact cR (k:=k) (.inr ⟨id,rfl,hb⟩) ht h
  | lp c=>
   rcases he with rfl | ⟨id,rfl,hb⟩
   ·exact cR (k:=k) (.inl rfl) ht h
   ·exact cR (k:=k) (.inr ⟨id,rfl,hb⟩) ht h
  | ops all rest=>
   rcases he with rfl | ⟨id,rfl,hb⟩
   ·exact cR (k:=k) (.inl rfl) ht h
   ·exact cR (k:=k) (.inr ⟨id,rfl,hb⟩) ht h
theorem wT {Q:AV→av→Prop} {K:cM} (hK:∀ fr bm H,K fr bm H→WW E Q fr bm H) {fr:Fr} {bm:List Fr} {j:Option Code} {e:Exit} (he:rH e=some j) (h:leave E Q K fr j bm H):
  KW E Q bm fr.kind fr.id e fr.T fr.D H:=by
 unfold leave at h
 split at h
 ·rename_i l dst fr' stk' hkind
  split at h
  ·rename_i s p f T0 ps ca cb d hl
   split at h
   ·rename_i hD
    rw [hkind]
    exact ⟨j,he,List.isEmpty_iff.1 hD,s,p,f,T0,ps,ca,cb,d,hl,hK _ _ _ h⟩
   ·cases h
  ·cases h
 ·rename_i hne
  split at h
  ·rename_i hret
   split at h
   ·rename_i fn hfn
    split at h
    ·rename_i H' hc
     split at h
     ·rename_i q v hr
      have h2:=cE h
      clear h
      obtain ⟨hq,h⟩:=h2
      split at h
      ·rename_i hkind
       rw [hkind]
       exact ⟨⟨j,he,hret⟩,fn,H',q,v,hfn,hc,hr,hq,h⟩
      ·rename_i dst fr' stk' hkind
       rw [hkind]
       exact ⟨⟨j,he,hret⟩,fn,H',q,v,hfn,hc,hr,hq,hK _ _ _ h⟩
      ·rename_i l fr' stk' hkind
       rw [hkind]
       exact ⟨⟨j,he,hret⟩,fn,H',q,v,hfn,hc,hr,hq,hK _ _ _ h⟩
      ·cases h
     ·cases h
    ·cases h
   ·cases h
  ·cases h
end Go.bz
end
section
namespace Go.bz
open Go.RowKit
variable {E:Env} {ι:aD} {T:List AV} {H:av} {a:Act} {w:World}
theorem jS {o:Oper} {y:Nat→Option Bool} (h:o.guard=none):Region.wanted o y=true:=by simp [Region.wanted,h]
def lK:Value→Option Bool
 | .bool b=>some b
 | _=>none
theorem ld {all:List Oper} {j:Nat} {t:Tmp} {c:Value} (h1:(all[j]?).bind (·.dst)=some t) (h2:a.tmps.toList[t]?=some c):yielded all.toArray a.tmps j=lK c:=by
 have h3:a.tmps[t]?=some c:=by simpa using h2
 simp only [yielded,List.getElem?_toArray,h1,Option.bind_some,h3]
 cases c<;>rfl
theorem wo {t:Nat} {b b':Bool} (hb:b=b') (h:a4 (au ι) T a.tmps.toList) (ht:T[t]?=some (.bool b)):a4 (au ι) (T.set t (.bool b')) a.tmps.toList:=by
 refine h.Cd t _ fun c hc=>?_
 obtain ⟨c',e,k⟩:=h.at t _ ht
 rw [hc] at e;cases e
 rw [k.bool,hb];exact dP _
theorem MD {l b z:Nat} {caps:List AV} {us:List Value} (hb:ι.a6[l]?=some (b,z)) (h:a4 (au ι) caps us):a4 (au ι) (.ik l :: caps) (.func (.yield b) #[] #[] :: us):=
 .cons (aC rfl (by rw [aQ];exact ⟨b,z,hb,rfl⟩)) h
theorem Cp (hV:E.Valid) {Q:AV→av→Prop} {fr:Fr} {bm:List Fr} {k:List It} {f:Operand} {ps:Array Tmp} {asg body:Code} {g:FuncId} {caps:List AV} {fn:Func} {c:Code}
  (hit:fr.items=.code (.rangeFunc f ps asg body) :: k) (hf:ev E fr.T f=some (.fn g caps)) (hfn:E.fns g=some fn) (hc:fn.body=some c)
  (hW:(∃ l0 dst s p f' T' ps' a' b' d,fr.kind=.round l0 dst∧H[l0]?=some (.loop s p f' T' ps' a' b' d)∧
    WW E Q {id:=g,kind:=.iter H.length,T:=pT fn (.ik H.length :: caps),items:=[.code c],D:=[],base:=H.length+1} ({fr with items:=.fin H.length :: k} :: bm) (H++[.loop .ready none fr.id fr.T ps.toList asg body d]))∨
   ((∀ l0 dst,fr.kind≠.round l0 dst)∧WW E Q {id:=g,kind:=.iter (H.length+1),T:=pT fn (.ik (H.length+1) :: caps),items:=[.code c],D:=[],base:=H.length+2} ({fr with items:=.fin (H.length+1) :: k,D:=H.length :: fr.D} :: bm)
     (H++[.kQ,.loop .ready none fr.id fr.T ps.toList asg body H.length]))):
  WW E Q fr bm H:=by
 intro n ι a w r hD hk
 rw [hit]
 refine wpIn_rangeFunc fun fnr _=>?_
 obtain ⟨l,hfe,hcaps⟩:=Bn (bL hf r)
 have hres:∀ (b:Nat) (w1:World),(resolve a.eval (rangeCall f b) 0).run E.P w1=.ok {target:=.fn (.func g) l.toArray,args:=#[.func (.yield b) #[] #[]]} w1:=fun b w1=>by
  simp only [resolve,hfe]
  simp [Act.eval,Deferred.ofValue]
 have hinv:∀ (b:Nat) (w1:World),(invoke (.fn (.func g) l.toArray) #[.func (.yield b) #[] #[]]).run E.P w1=.ok (.enter g (Value.func (.yield b) #[] #[] :: l).toArray) w1:=fun b w1=>by
  have:=eU (w:=w1) hV hfn hc (Value.func (.yield b) #[] #[] :: l).toArray
  simpa [invoke] using this
 have fin:∀ {ι1:aD} {H1:av} {w1:World} {lid b z:Nat} {D':List Nat} {mark:List Deferred} {β:Nat},β=H1.length→Ext ι ι1→aR ι1 H1 w1→ι1.a6[lid]?=some (b,z)→gM (E.je fr.kind) ι1 D' (mark++a.defers)→
   WW E Q {id:=g,kind:=.iter lid,T:=pT fn (.ik lid :: caps),items:=[.code c],D:=[],base:=β} ({fr with items:=.fin lid :: k,D:=D'} :: bm) H1→
   CallsIn (aL ι fr.kind) (n - 1) E.P g (Value.func (.yield b) #[] #[] :: l).toArray w1 (rangePost (aL ι fr.kind) n E.P b (cg ι (aL ι fr.kind) n E.P (lift E (E.je fr.kind) fr.base ι (KW E Q bm fr.kind fr.id)) k) {a with defers:=mark++a.defers}):=by
  intro ι1 H1 w1 lid b z D' mark β hβ hE hH hb hD' hW
  refine iM (ι:=ι) (k:=fr.kind) ?_
  refine pY (ι:=ι1) hV hβ hfn hc (.inr (.inr ⟨_,rfl⟩)) hW hH (r.cQ.mono hE) (MD hb (a4.imp (fun _ _=>cU hE) hcaps)) ?_
  rintro e T' D2 H2 ⟨⟨j,hj,hret⟩,fn',H'',q,v,h1,h2,h3,h4,h5⟩
  refine ⟨iR hj hret,fn',H'',q,v,h1,h2,h3,h4,fun ι2 u w2 hE2 hH2 _=>?_⟩
  have hE2:Ext ι1 ι2:=rR.ext (k:=.iter lid) hE2 (.inl rfl)
  have hEE:=hE.trans hE2
  have:=h5 n ι2 {a with defers:=mark++a.defers} w2 ⟨hH2,a4.imp (fun _ _=>cU hEE) r.tmps,r.cQ.mono hEE⟩ (hD'.mono hE2) (hk.mono hEE)
  have hff:aL ι2 fr.kind=aL ι fr.kind:=ec hEE hk
  simp only [hff] at this
  obtain ⟨jump,w4,he,hj'⟩:=this b z (hE2.a6 _ _ hb)
  refine ⟨jump,w4,he,?_⟩
  cases jump with
  | none=>exact eg hEE.a6 (gX hEE) _ _ _ _ hj'
  | some cc=>exact wpIn_mono hj' (eg hEE.a6 (gX hEE) _)
 rcases hW with ⟨l0,dst,s,p,f',T',ps',a',b',d,hkind,hl0,hW⟩ | ⟨hnr,hW⟩
 ·obtain ⟨b0,z0,hb0⟩:=r.heap.gm hl0
  obtain ⟨tmps0,db,dz,fn0,hobj,_,hdb⟩:=r.heap.obj _ _ _ _ hl0 hb0
  have hround:(aL ι fr.kind).round=some b0:=by rw [hkind];simp only [aL,pZ,hb0];rfl
  let rcd:Loop:={state:=.ready,pending:=none,fn:=fnr,tmps:=a.tmps,params:=ps,assign:=asg,body:=body,defers:=db}
  have hE:=Ext.add ι w.heap.size 0
  have hH:aR (ι.add w.heap.size 0) (H++[.loop .ready none fr.id fr.T ps.toList asg body d]) (w.alloc (.loop rcd)):=
   r.heap.alloc (.loop rcd) 0 _ ⟨a.tmps,db,dz,fnr,heap_alloc_new,a4.imp (fun _ _=>cU hE) r.tmps,hE.a6 _ _ hdb⟩
  have hb:(ι.add w.heap.size 0).a6[H.length]?=some (w.heap.size,0):=by rw [r.heap.len];exact ι.fh _ _
  refine ⟨w.heap.size,[],w.alloc (.loop rcd),_,w.alloc (.loop rcd),g,_,w.alloc (.loop rcd),?_,hres _ _,fun g' _=>bW _ g',hinv _ _,by rw [gG];simp,fin (by simp) hE hH hb (hD.mono hE) hW⟩
  rw [hround]
  simp only [Instr.enterLoop,Sem.run_bind,run_getLoop hobj,Result.andThen,Sem.run_pure]
  rfl
 ·have hround:(aL ι fr.kind).round=none:=by
   cases hkd:fr.kind with
   | round l0 dst=>exact absurd hkd (hnr l0 dst)
   | _=>rfl
  let rcd:Loop:={state:=.ready,pending:=none,fn:=fnr,tmps:=a.tmps,params:=ps,assign:=asg,body:=body,defers:=w.heap.size}
  have hE1:=Ext.add ι w.heap.size 0
  have hH1:aR (ι.add w.heap.size 0) (H++[.kQ]) (w.alloc (.deferred (some []))):=r.heap.alloc (.deferred (some [])) 0 .kQ heap_alloc_new
  have hE2:=Ext.add (ι.add w.heap.size 0) (w.alloc (.deferred (some []))).heap.size 0
  have hEE:=hE1.trans hE2
  have hdb:(ι.add w.heap.size 0).a6[H.length]?=some (w.heap.size,0):=by rw [r.heap.len];exact ι.fh _ _
  have hH2:=hH1.alloc (.loop rcd) 0 (.loop .ready none fr.id fr.T ps.toList asg body H.length) ⟨a.tmps,w.heap.size,0,fnr,heap_alloc_new,a4.imp (fun _ _=>cU hEE) r.tmps,hE2.a6 _ _ hdb⟩
  rw [List.append_assoc,List.singleton_append] at hH2
  have hb:((ι.add w.heap.size 0).add (w.alloc (.deferred (some []))).heap.size 0).a6[H.length+1]?=some (w.heap.size+1,0):=by
   have:=(ι.add w.heap.size 0).fh (w.alloc (.deferred (some []))).heap.size 0
   have hl:(ι.add w.heap.size 0).a6.length=H.length+1:=by rw [r.heap.len];exact fL.r0
   rw [hl] at this
   simpa using this
  refine ⟨w.heap.size+1,[{target:=.collected w.heap.size,args:=#[]}],(w.alloc (.deferred (some []))).alloc (.loop rcd),_,(w.alloc (.deferred (some []))).alloc (.loop rcd),g,_,(w.alloc (.deferred (some []))).alloc (.loop rcd),?_,hres _ _,
   fun g' _=>bW _ g',hinv _ _,by rw [gG];simp,fin (by simp) hEE hH2 hb ?_ hW⟩
  ·rw [hround];exact run_enterLoop_outer _ _ _ _ _
  ·exact gM.cons (hE2.a6 _ _ hdb) (hD.mono hEE)
end Go.bz
end
section
namespace Go.bz
open Go.RowKit
variable {E:Env} {ι:aD} {T:List AV} {H:av} {a:Act} {w:World}
theorem SB {d:Option Tmp} {v:AV} {x:Operand} (h:∀ t,d=some t→x≠.tmp t):ev E (b7 T d v) x=ev E T x:=by
 cases d with
 | none=>rfl
 | some t=>
  cases x with
  | tmp u=>
   have:t≠u:=fun e=>h t rfl (by rw [e])
   simp only [ev,b7,List.getElem?_set_ne this]
  | _=>rfl
theorem gH {T T':List AV}:∀ {l:List Operand},(∀ x∈l,ev E T x=ev E T' x)→nI E T l=nI E T' l
 | [],_=>rfl
 | x :: l,h=>by
  have h1:=gH (T:=T) (T':=T') (l:=l) fun y hy=>h y (List.mem_cons_of_mem _ hy)
  simp only [nI,h x (List.mem_cons_self ..),h1]
theorem km {T T':List AV}:∀ {l:List (Nat×Operand)},(∀ x∈l,ev E T x.2=ev E T' x.2)→j5 E T l=j5 E T' l
 | [],_=>rfl
 | (i,x) :: l,h=>by
  have h1:=km (T:=T) (T':=T') (l:=l) fun y hy=>h y (List.mem_cons_of_mem _ hy)
  have h2:=h (i,x) (List.mem_cons_self ..)
  simp only [j5,h2,h1]
theorem yE {T T':List AV} {x:Option Operand} (h:∀ y,x=some y→ev E T y=ev E T' y):SC E T x=SC E T' x:=by
 cases x with
 | none=>rfl
 | some y=>simp only [SC,h y rfl]
theorem kW {T T':List AV} {o:Oper} (h:∀ x∈o.op.operands,ev E T x=ev E T' x):jN E T H o=jN E T' H o:=by
 unfold jN
 cases hop:o.op<;>rw [hop] at h<;>try rfl
 all_goals simp only [Op.operands] at h
 all_goals try dsimp only
 case move x=>rw [h x (by simp)]
 case assign x=>rw [h x (by simp)]
 case pick c x y=>rw [h c (by simp),h x (by simp),h y (by simp)]
 case box t x=>rw [h x (by simp)]
 case build t ps=>rw [km (T':=T') fun x hx=>h x.2 (by simp;exact ⟨x.1,by simpa using hx⟩)]
 case buildSlice t n ps=>rw [km (T':=T') fun x hx=>h x.2 (by simp;exact ⟨x.1,by simpa using hx⟩)]
 case load t x=>rw [h x (by simp)]
 case store t x y=>rw [h x (by simp),h y (by simp)]
 case nilCheck x=>rw [h x (by simp)]
 case binOp op t x y u=>rw [h x (by simp),h y (by simp)]
 case unOp op t x=>rw [h x (by simp)]
 case convert s d x=>rw [h x (by simp)]
 case makeFunc f first caps=>
  have:nI E T caps.toList=nI E T' caps.toList:=gH fun x hx=>h x (by simp at hx ⊢;exact .inr hx)
  have h2:nI E T first.toList=nI E T' first.toList:=gH fun x hx=>h x (by simp at hx ⊢;exact .inl hx)
  cases f<;>first | rfl | skip
  dsimp only
  rw [this]
  cases hfl:first.toList with
  | nil=>cases nI E T' caps.toList<;>rfl
  | cons x l=>
   rw [hfl] at h2
   cases hc:nI E T' caps.toList with
   | none=>rfl
   | some cs=>cases cs with
    | nil=>dsimp only;rw [h2]
    | cons=>rfl
 case fieldAddr s x f=>rw [h x (by simp)]
 case field s x f=>rw [h x (by simp)]
 case indexAddr t x i=>rw [h x (by simp),h i (by simp)]
 case index t x i=>rw [h x (by simp),h i (by simp)]
 case slice t x lo hi mx=>
  cases mx with
  | some m=>rfl
  | none=>
   dsimp only
   rw [h x (by simp),yE (T':=T') fun y e=>h y (by simp [e]),yE (T':=T') (x:=hi) fun y e=>h y (by simp [e])]
 case extract x i=>rw [h x (by simp)]
 case lookup t m k ok=>rw [h m (by simp),h k (by simp)]
 case mapUpdate t m k x=>rw [h m (by simp),h k (by simp),h x (by simp)]
 case insert t m k x=>rw [h m (by simp),h k (by simp),h x (by simp)]
 case makeMap t r=>cases r<;>rfl
 case makeSlice t l c=>rw [h l (by simp),h c (by simp)]
 case call c=>
  obtain ⟨callee,args,ts⟩:=c
  cases callee with
  | builtin b=>
   have:nI E T args.toList=nI E T' args.toList:=gH fun x hx=>h x (by simp [Call.operands];simpa using hx)
   dsimp only
   rw [this]
  | _=>rfl
theorem pS {T T':List AV} {o:Oper} (h:∀ x∈o.op.operands,ev E T x=ev E T' x) (hd:∀ d,o.dst=some d→T[d]?=T'[d]?):ck E T H o=ck E T' H o:=by
 unfold ck
 split
 ·rename_i f args ts hop
  simp only [hop,Op.operands,Call.operands] at h
  rw [h f (by simp),gH (T':=T') fun x hx=>h x (by simp;right;simpa using hx)]
 ·rename_i args ts hop
  simp only [hop,Op.operands,Call.operands] at h
  rw [gH (T':=T') fun x hx=>h x (by simpa using hx)]
 ·rw [kW h];unfold xM;rw [kW h]
 ·rename_i t x hop
  rw [h x (by rw [hop];simp [Op.operands]),kW h]
 ·rename_i t hop
  have:pH E T H o=pH E T' H o:=by
   unfold pH
   rw [hop]
   cases hdd:o.dst with
   | none=>rfl
   | some d=>simp only [hd d hdd]
  rw [this,kW h]
 ·exact kW h
theorem By {T T':List AV} {o:Oper} (h:∀ x∈o.op.operands,ev E T x=ev E T' x):rL E T H o=rL E T' H o:=by
 unfold rL
 split
 ·rename_i f args ts hop
  simp only [hop,Op.operands,Call.operands] at h
  rw [h f (by simp),gH (T':=T') fun x hx=>h x (by simp;right;simpa using hx)]
 ·rfl
theorem Bx {T T':List AV} {o:Oper} (h:∀ x∈o.op.operands,ev E T x=ev E T' x) (hd:∀ d,o.dst=some d→T[d]?=T'[d]?):lH E T H o=lH E T' H o:=by
 have h0:=pS (H:=H) h hd
 unfold lH
 split
 ·rename_i f args ts hop
  simp only [hop,Op.operands,Call.operands] at h
  rw [h f (by simp),gH (T':=T') fun x hx=>h x (by simp;right;simpa using hx),h0]
 ·rfl
theorem DN {T T':List AV} {o:Oper} (h:∀ x∈o.op.operands,ev E T x=ev E T' x) (hd:∀ d,o.dst=some d→T[d]?=T'[d]?):cG E T H o=cG E T' H o:=by
 unfold cG;rw [Bx h hd,By h,pS h hd]
theorem dj {o:Oper} (h:jn E o.op=false):cG E T H o=ck E T H o:=by
 unfold jn at h
 simp only [Bool.or_eq_false_iff] at h
 unfold cG;rw [h.1,h.2];rfl
theorem xG {o:Oper} (h:gS o.op=false):jn E o.op=false:=by
 unfold jn
 simp only [Bool.or_eq_false_iff]
 constructor
 ·unfold gT
  split
  ·rename_i hop;rw [hop] at h;exact absurd h (by simp [gS])
  ·rename_i hop;rw [hop] at h;exact absurd h (by simp [gS])
  ·rfl
 ·unfold nm
  split
  ·rename_i hop;rw [hop] at h;exact absurd h (by simp [gS])
  ·rfl
theorem yK {o:Oper} {q:List Prop} {v:AV} {H':av} (hw:jl o.op=false) (h:jN E T H o=some (q,v,H')):H'=H:=by
 unfold jN at h
 cases hop:o.op<;>rw [hop] at h hw<;>try dsimp only at h
 all_goals try (exfalso;revert hw;simp [jl];done)
 all_goals (repeat' split at h)<;>first | (cases h;done) | (simp only [Option.some.injEq,Prod.mk.injEq] at h;exact h.2.2.symm) | exact (pF h).2 | contradiction | (exfalso;simp_all [jl])
theorem J5 {o:Oper} (hr:gS o.op=false):jN E T H o=(jN E T [] o).map fun x=>(x.1,x.2.1,H):=by
 unfold jN
 cases hop:o.op<;>rw [hop] at hr<;>try dsimp only
 all_goals try (exfalso;revert hr;simp [gS];done)
 all_goals (repeat' split)<;>first | rfl | contradiction | (exfalso;simp_all [gS])
end Go.bz
end
