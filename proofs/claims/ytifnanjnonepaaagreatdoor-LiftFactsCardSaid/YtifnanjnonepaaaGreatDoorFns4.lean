/- A part of the proof that the laws of this seat hold. Conditions: none beyond the row. -/
import Derived.Test.YtifnanjnonepaaaGreatDoorFns3
set_option maxRecDepth 100000
set_option linter.unusedVariables false
set_option linter.unusedSimpArgs false
set_option linter.unusedSectionVars false
section
namespace Go.bz.RM
open Go.bz.RL
open Go.bz
noncomputable section
abbrev xi (d c w:Int) (a b:DO) (i l:Int):DI:=(d,(c,(w,(a,(b,(i,l))))))
theorem Uv (c:Int):bI (1,c)=[(1,(Kd.s .rm,(Kd.s .r,(0,([136],(-1,(1,0))))))),(1,(Kd.s .r,(Kd.s .m,(0,([138],(-1,(2,0))))))),(1,(Kd.s .rm,(Kd.s .i8,(0,([198],(0,(1,1))))))),(4,(Kd.s .rm,(Kd.s .r,(0,([137],(-1,(1,0))))))),(4,(Kd.s .r,(Kd.s .m,(0,([139],(-1,(2,0))))))),(4,(Kd.s .rm,(Kd.s .i32,(0,([199],(0,(1,4))))))),(8,(Kd.s .r,(Kd.s .i64,(0,([184],(0,(3,8)))))))]:=by
 rfl
theorem Wh (c w:Int) (a b:DO) (i l:Int):Ends (ai (xi 1 c w a b i l)) (ef ((bI (1,c)).find? (di (xi 1 c w a b i l)))) (ai (xi 1 c w a b i l) .h0):=by
 rw [Uv]
 unfold xi
 simp only [ai]
 simp (config:={decide:=true}) only [eN,bY,bZ,ak,Int.reduceBEq,beq_self_eq_true,kD,kC,kB,kz,Bool.not_true,Bool.not_false,aU,bg,true_and,show bd 1 dL 0 = -1 from rfl,show cj 0 (-1)=false from rfl,fR,uU,aY,bV]
 refine row (x:=(xi 1 c w a b i l)) (by simp only [dK]) (by simp only [gV]) (by decide) (by decide) rfl ?_
 simp only [eJ,ai]
 simp (config:={decide:=true}) only [eN,List.take_succ_cons,List.take_zero,true_and,fR,uU,bV,eS]
 refine row (x:=(xi 1 c w a b i l)) (by simp only [gV]) (by simp only [rC]) (by decide) (by decide) rfl ?_
 simp only [eJ,ai]
 simp (config:={decide:=true}) only [eN,List.take_succ_cons,List.take_zero,true_and,fR,uU,aY,hQ]
 refine row (x:=(xi 1 c w a b i l)) (by simp only [dK]) (by simp only [zT]) (by decide) (by decide) rfl ?_
 simp only [eJ,ai]
 simp (config:={decide:=true}) only [eN,List.take_succ_cons,List.take_zero,true_and,aI,a9,aY,bV]
 refine row (x:=(xi 1 c w a b i l)) (by simp only [dK]) (by simp only [gV]) (by decide) (by decide) rfl ?_
 simp only [eJ,ai]
 simp (config:={decide:=true}) only [eN,List.take_succ_cons,List.take_zero,true_and,aI,a9,bV,eS]
 refine row (x:=(xi 1 c w a b i l)) (by simp only [gV]) (by simp only [rC]) (by decide) (by decide) rfl ?_
 simp only [eJ,ai]
 simp (config:={decide:=true}) only [eN,List.take_succ_cons,List.take_zero,true_and,aI,a9,aY,eP]
 refine row (x:=(xi 1 c w a b i l)) (by simp only [dK]) (by simp only [rz]) (by decide) (by decide) rfl ?_
 simp only [eJ,ai]
 simp (config:={decide:=true}) only [eN,List.take_succ_cons,List.take_zero,true_and,fR,On,bV,pK]
 refine row (x:=(xi 1 c w a b i l)) (by simp only [gV]) (by simp only [NP]) (by decide) (by decide) rfl ?_
 simp only [eJ,ai,eR]
 rfl
theorem Uu (c:Int):bI (2,c)=[(4,(Kd.s .r,(Kd.s .m,(0,([141],(-1,(2,0)))))))]:=by
 rfl
theorem Wg (c w:Int) (a b:DO) (i l:Int):Ends (ai (xi 2 c w a b i l)) (ef ((bI (2,c)).find? (di (xi 2 c w a b i l)))) (ai (xi 2 c w a b i l) .h0):=by
 rw [Uu]
 unfold xi
 simp only [ai]
 simp (config:={decide:=true}) only [eN,bY,bZ,ak,Int.reduceBEq,beq_self_eq_true,kD,kC,kB,kz,Bool.not_true,Bool.not_false,aU,bg,true_and,show bd 2 dL 0 = -1 from rfl,show cj 0 (-1)=false from rfl,aI,a9,bV,eS]
 refine row (x:=(xi 2 c w a b i l)) (by simp only [gV]) (by simp only [rC]) (by decide) (by decide) rfl ?_
 simp only [eJ,ai,eR]
 rfl
theorem Ut (c:Int):bI (3,c)=[(4,(Kd.s .rm,(Kd.s .r,(0,([1],(-1,(1,0))))))),(4,(Kd.s .r,(Kd.s .m,(0,([3],(-1,(2,0))))))),(4,(Kd.s .rm,(Kd.s .i8,(0,([131],(0,(1,1))))))),(4,(Kd.s .rm,(Kd.s .i32,(0,([129],(0,(1,4)))))))]:=by
 show lY 3=_
 unfold lY iX
 simp only [cV,dp,dm,iT]
 rfl
theorem Wf (c w:Int) (a b:DO) (i l:Int):Ends (ai (xi 3 c w a b i l)) (ef ((bI (3,c)).find? (di (xi 3 c w a b i l)))) (ai (xi 3 c w a b i l) .h0):=by
 rw [Ut]
 unfold xi
 simp only [ai]
 simp (config:={decide:=true}) only [eN,bY,bZ,ak,Int.reduceBEq,beq_self_eq_true,kD,kC,kB,kz,Bool.not_true,Bool.not_false,aU,bg,true_and,show bd 3 dL 0=0 from rfl,show cj 0 (0)=true from rfl,aI,a9,aY,bV]
 refine row (x:=(xi 3 c w a b i l)) (by simp only [dK]) (by simp only [gV]) (by decide) (by decide) rfl ?_
 simp only [eJ,ai]
 simp (config:={decide:=true}) only [eN,List.take_succ_cons,List.take_zero,true_and,aI,a9,bV,eS]
 refine row (x:=(xi 3 c w a b i l)) (by simp only [gV]) (by simp only [rC]) (by decide) (by decide) rfl ?_
 simp only [eJ,ai]
 simp (config:={decide:=true}) only [eN,List.take_succ_cons,List.take_zero,true_and,aI,a9,aY,hQ]
 refine row (x:=(xi 3 c w a b i l)) (by simp only [dK]) (by simp only [zT]) (by decide) (by decide) rfl ?_
 simp only [eJ,ai]
 simp (config:={decide:=true}) only [eN,List.take_succ_cons,List.take_zero,true_and,aI,a9,aY,eP]
 refine row (x:=(xi 3 c w a b i l)) (by simp only [dK]) (by simp only [rz]) (by decide) (by decide) rfl ?_
 simp only [eJ,ai,eR]
 rfl
theorem Us (c:Int):bI (4,c)=[(4,(Kd.s .rm,(Kd.s .r,(0,([9],(-1,(1,0))))))),(4,(Kd.s .r,(Kd.s .m,(0,([11],(-1,(2,0))))))),(4,(Kd.s .rm,(Kd.s .i8,(0,([131],(1,(1,1))))))),(4,(Kd.s .rm,(Kd.s .i32,(0,([129],(1,(1,4)))))))]:=by
 show lY 4=_
 unfold lY iX
 simp only [cV,dp,dm,iT]
 rfl
theorem We (c w:Int) (a b:DO) (i l:Int):Ends (ai (xi 4 c w a b i l)) (ef ((bI (4,c)).find? (di (xi 4 c w a b i l)))) (ai (xi 4 c w a b i l) .h0):=by
 rw [Us]
 unfold xi
 simp only [ai]
 simp (config:={decide:=true}) only [eN,bY,bZ,ak,Int.reduceBEq,beq_self_eq_true,kD,kC,kB,kz,Bool.not_true,Bool.not_false,aU,bg,true_and,show bd 4 dL 0=1 from rfl,show cj 0 (1)=true from rfl,aI,a9,aY,bV]
 refine row (x:=(xi 4 c w a b i l)) (by simp only [dK]) (by simp only [gV]) (by decide) (by decide) rfl ?_
 simp only [eJ,ai]
 simp (config:={decide:=true}) only [eN,List.take_succ_cons,List.take_zero,true_and,aI,a9,bV,eS]
 refine row (x:=(xi 4 c w a b i l)) (by simp only [gV]) (by simp only [rC]) (by decide) (by decide) rfl ?_
 simp only [eJ,ai]
 simp (config:={decide:=true}) only [eN,List.take_succ_cons,List.take_zero,true_and,aI,a9,aY,hQ]
 refine row (x:=(xi 4 c w a b i l)) (by simp only [dK]) (by simp only [zT]) (by decide) (by decide) rfl ?_
 simp only [eJ,ai]
 simp (config:={decide:=true}) only [eN,List.take_succ_cons,List.take_zero,true_and,aI,a9,aY,eP]
 refine row (x:=(xi 4 c w a b i l)) (by simp only [dK]) (by simp only [rz]) (by decide) (by decide) rfl ?_
 simp only [eJ,ai,eR]
 rfl
theorem Ur (c:Int):bI (5,c)=[(4,(Kd.s .rm,(Kd.s .r,(0,([17],(-1,(1,0))))))),(4,(Kd.s .r,(Kd.s .m,(0,([19],(-1,(2,0))))))),(4,(Kd.s .rm,(Kd.s .i8,(0,([131],(2,(1,1))))))),(4,(Kd.s .rm,(Kd.s .i32,(0,([129],(2,(1,4)))))))]:=by
 show lY 5=_
 unfold lY iX
 simp only [cV,dp,dm,iT]
 rfl
theorem Wd (c w:Int) (a b:DO) (i l:Int):Ends (ai (xi 5 c w a b i l)) (ef ((bI (5,c)).find? (di (xi 5 c w a b i l)))) (ai (xi 5 c w a b i l) .h0):=by
 rw [Ur]
 unfold xi
 simp only [ai]
 simp (config:={decide:=true}) only [eN,bY,bZ,ak,Int.reduceBEq,beq_self_eq_true,kD,kC,kB,kz,Bool.not_true,Bool.not_false,aU,bg,true_and,show bd 5 dL 0=2 from rfl,show cj 0 (2)=true from rfl,aI,a9,aY,bV]
 refine row (x:=(xi 5 c w a b i l)) (by simp only [dK]) (by simp only [gV]) (by decide) (by decide) rfl ?_
 simp only [eJ,ai]
 simp (config:={decide:=true}) only [eN,List.take_succ_cons,List.take_zero,true_and,aI,a9,bV,eS]
 refine row (x:=(xi 5 c w a b i l)) (by simp only [gV]) (by simp only [rC]) (by decide) (by decide) rfl ?_
 simp only [eJ,ai]
 simp (config:={decide:=true}) only [eN,List.take_succ_cons,List.take_zero,true_and,aI,a9,aY,hQ]
 refine row (x:=(xi 5 c w a b i l)) (by simp only [dK]) (by simp only [zT]) (by decide) (by decide) rfl ?_
 simp only [eJ,ai]
 simp (config:={decide:=true}) only [eN,List.take_succ_cons,List.take_zero,true_and,aI,a9,aY,eP]
 refine row (x:=(xi 5 c w a b i l)) (by simp only [dK]) (by simp only [rz]) (by decide) (by decide) rfl ?_
 simp only [eJ,ai,eR]
 rfl
theorem Uq (c:Int):bI (6,c)=[(4,(Kd.s .rm,(Kd.s .r,(0,([25],(-1,(1,0))))))),(4,(Kd.s .r,(Kd.s .m,(0,([27],(-1,(2,0))))))),(4,(Kd.s .rm,(Kd.s .i8,(0,([131],(3,(1,1))))))),(4,(Kd.s .rm,(Kd.s .i32,(0,([129],(3,(1,4)))))))]:=by
 show lY 6=_
 unfold lY iX
 simp only [cV,dp,dm,iT]
 rfl
theorem Wc (c w:Int) (a b:DO) (i l:Int):Ends (ai (xi 6 c w a b i l)) (ef ((bI (6,c)).find? (di (xi 6 c w a b i l)))) (ai (xi 6 c w a b i l) .h0):=by
 rw [Uq]
 unfold xi
 simp only [ai]
 simp (config:={decide:=true}) only [eN,bY,bZ,ak,Int.reduceBEq,beq_self_eq_true,kD,kC,kB,kz,Bool.not_true,Bool.not_false,aU,bg,true_and,show bd 6 dL 0=3 from rfl,show cj 0 (3)=true from rfl,aI,a9,aY,bV]
 refine row (x:=(xi 6 c w a b i l)) (by simp only [dK]) (by simp only [gV]) (by decide) (by decide) rfl ?_
 simp only [eJ,ai]
 simp (config:={decide:=true}) only [eN,List.take_succ_cons,List.take_zero,true_and,aI,a9,bV,eS]
 refine row (x:=(xi 6 c w a b i l)) (by simp only [gV]) (by simp only [rC]) (by decide) (by decide) rfl ?_
 simp only [eJ,ai]
 simp (config:={decide:=true}) only [eN,List.take_succ_cons,List.take_zero,true_and,aI,a9,aY,hQ]
 refine row (x:=(xi 6 c w a b i l)) (by simp only [dK]) (by simp only [zT]) (by decide) (by decide) rfl ?_
 simp only [eJ,ai]
 simp (config:={decide:=true}) only [eN,List.take_succ_cons,List.take_zero,true_and,aI,a9,aY,eP]
 refine row (x:=(xi 6 c w a b i l)) (by simp only [dK]) (by simp only [rz]) (by decide) (by decide) rfl ?_
 simp only [eJ,ai,eR]
 rfl
theorem Up (c:Int):bI (7,c)=[(4,(Kd.s .rm,(Kd.s .r,(0,([33],(-1,(1,0))))))),(4,(Kd.s .r,(Kd.s .m,(0,([35],(-1,(2,0))))))),(4,(Kd.s .rm,(Kd.s .i8,(0,([131],(4,(1,1))))))),(4,(Kd.s .rm,(Kd.s .i32,(0,([129],(4,(1,4)))))))]:=by
 show lY 7=_
 unfold lY iX
 simp only [cV,dp,dm,iT]
 rfl
theorem Wb (c w:Int) (a b:DO) (i l:Int):Ends (ai (xi 7 c w a b i l)) (ef ((bI (7,c)).find? (di (xi 7 c w a b i l)))) (ai (xi 7 c w a b i l) .h0):=by
 rw [Up]
 unfold xi
 simp only [ai]
 simp (config:={decide:=true}) only [eN,bY,bZ,ak,Int.reduceBEq,beq_self_eq_true,kD,kC,kB,kz,Bool.not_true,Bool.not_false,aU,bg,true_and,show bd 7 dL 0=4 from rfl,show cj 0 (4)=true from rfl,aI,a9,aY,bV]
 refine row (x:=(xi 7 c w a b i l)) (by simp only [dK]) (by simp only [gV]) (by decide) (by decide) rfl ?_
 simp only [eJ,ai]
 simp (config:={decide:=true}) only [eN,List.take_succ_cons,List.take_zero,true_and,aI,a9,bV,eS]
 refine row (x:=(xi 7 c w a b i l)) (by simp only [gV]) (by simp only [rC]) (by decide) (by decide) rfl ?_
 simp only [eJ,ai]
 simp (config:={decide:=true}) only [eN,List.take_succ_cons,List.take_zero,true_and,aI,a9,aY,hQ]
 refine row (x:=(xi 7 c w a b i l)) (by simp only [dK]) (by simp only [zT]) (by decide) (by decide) rfl ?_
 simp only [eJ,ai]
 simp (config:={decide:=true}) only [eN,List.take_succ_cons,List.take_zero,true_and,aI,a9,aY,eP]
 refine row (x:=(xi 7 c w a b i l)) (by simp only [dK]) (by simp only [rz]) (by decide) (by decide) rfl ?_
 simp only [eJ,ai,eR]
 rfl
theorem Uo (c:Int):bI (8,c)=[(4,(Kd.s .rm,(Kd.s .r,(0,([41],(-1,(1,0))))))),(4,(Kd.s .r,(Kd.s .m,(0,([43],(-1,(2,0))))))),(4,(Kd.s .rm,(Kd.s .i8,(0,([131],(5,(1,1))))))),(4,(Kd.s .rm,(Kd.s .i32,(0,([129],(5,(1,4)))))))]:=by
 show lY 8=_
 unfold lY iX
 simp only [cV,dp,dm,iT]
 rfl
theorem Wa (c w:Int) (a b:DO) (i l:Int):Ends (ai (xi 8 c w a b i l)) (ef ((bI (8,c)).find? (di (xi 8 c w a b i l)))) (ai (xi 8 c w a b i l) .h0):=by
 rw [Uo]
 unfold xi
 simp only [ai]
 simp (config:={decide:=true}) only [eN,bY,bZ,ak,Int.reduceBEq,beq_self_eq_true,kD,kC,kB,kz,Bool.not_true,Bool.not_false,aU,bg,true_and,show bd 8 dL 0=5 from rfl,show cj 0 (5)=true from rfl,aI,a9,aY,bV]
 refine row (x:=(xi 8 c w a b i l)) (by simp only [dK]) (by simp only [gV]) (by decide) (by decide) rfl ?_
 simp only [eJ,ai]
 simp (config:={decide:=true}) only [eN,List.take_succ_cons,List.take_zero,true_and,aI,a9,bV,eS]
 refine row (x:=(xi 8 c w a b i l)) (by simp only [gV]) (by simp only [rC]) (by decide) (by decide) rfl ?_
 simp only [eJ,ai]
 simp (config:={decide:=true}) only [eN,List.take_succ_cons,List.take_zero,true_and,aI,a9,aY,hQ]
 refine row (x:=(xi 8 c w a b i l)) (by simp only [dK]) (by simp only [zT]) (by decide) (by decide) rfl ?_
 simp only [eJ,ai]
 simp (config:={decide:=true}) only [eN,List.take_succ_cons,List.take_zero,true_and,aI,a9,aY,eP]
 refine row (x:=(xi 8 c w a b i l)) (by simp only [dK]) (by simp only [rz]) (by decide) (by decide) rfl ?_
 simp only [eJ,ai,eR]
 rfl
theorem Un (c:Int):bI (9,c)=[(4,(Kd.s .rm,(Kd.s .r,(0,([49],(-1,(1,0))))))),(4,(Kd.s .r,(Kd.s .m,(0,([51],(-1,(2,0))))))),(4,(Kd.s .rm,(Kd.s .i8,(0,([131],(6,(1,1))))))),(4,(Kd.s .rm,(Kd.s .i32,(0,([129],(6,(1,4)))))))]:=by
 show lY 9=_
 unfold lY iX
 simp only [cV,dp,dm,iT]
 rfl
theorem V9 (c w:Int) (a b:DO) (i l:Int):Ends (ai (xi 9 c w a b i l)) (ef ((bI (9,c)).find? (di (xi 9 c w a b i l)))) (ai (xi 9 c w a b i l) .h0):=by
 rw [Un]
 unfold xi
 simp only [ai]
 simp (config:={decide:=true}) only [eN,bY,bZ,ak,Int.reduceBEq,beq_self_eq_true,kD,kC,kB,kz,Bool.not_true,Bool.not_false,aU,bg,true_and,show bd 9 dL 0=6 from rfl,show cj 0 (6)=true from rfl,aI,a9,aY,bV]
 refine row (x:=(xi 9 c w a b i l)) (by simp only [dK]) (by simp only [gV]) (by decide) (by decide) rfl ?_
 simp only [eJ,ai]
 simp (config:={decide:=true}) only [eN,List.take_succ_cons,List.take_zero,true_and,aI,a9,bV,eS]
 refine row (x:=(xi 9 c w a b i l)) (by simp only [gV]) (by simp only [rC]) (by decide) (by decide) rfl ?_
 simp only [eJ,ai]
 simp (config:={decide:=true}) only [eN,List.take_succ_cons,List.take_zero,true_and,aI,a9,aY,hQ]
 refine row (x:=(xi 9 c w a b i l)) (by simp only [dK]) (by simp only [zT]) (by decide) (by decide) rfl ?_
 simp only [eJ,ai]
 simp (config:={decide:=true}) only [eN,List.take_succ_cons,List.take_zero,true_and,aI,a9,aY,eP]
 refine row (x:=(xi 9 c w a b i l)) (by simp only [dK]) (by simp only [rz]) (by decide) (by decide) rfl ?_
 simp only [eJ,ai,eR]
 rfl
theorem Q8 (c:Int):bI (10,c)=[(4,(Kd.s .rm,(Kd.s .r,(0,([57],(-1,(1,0))))))),(4,(Kd.s .r,(Kd.s .m,(0,([59],(-1,(2,0))))))),(4,(Kd.s .rm,(Kd.s .i8,(0,([131],(7,(1,1))))))),(4,(Kd.s .rm,(Kd.s .i32,(0,([129],(7,(1,4)))))))]:=by
 show lY 10=_
 unfold lY iX
 simp only [cV,dp,dm,iT]
 rfl
theorem Sz (c w:Int) (a b:DO) (i l:Int):Ends (ai (xi 10 c w a b i l)) (ef ((bI (10,c)).find? (di (xi 10 c w a b i l)))) (ai (xi 10 c w a b i l) .h0):=by
 rw [Q8]
 unfold xi
 simp only [ai]
 simp (config:={decide:=true}) only [eN,bY,bZ,ak,Int.reduceBEq,beq_self_eq_true,kD,kC,kB,kz,Bool.not_true,Bool.not_false,aU,bg,true_and,show bd 10 dL 0=7 from rfl,show cj 0 (7)=true from rfl,aI,a9,aY,bV]
 refine row (x:=(xi 10 c w a b i l)) (by simp only [dK]) (by simp only [gV]) (by decide) (by decide) rfl ?_
 simp only [eJ,ai]
 simp (config:={decide:=true}) only [eN,List.take_succ_cons,List.take_zero,true_and,aI,a9,bV,eS]
 refine row (x:=(xi 10 c w a b i l)) (by simp only [gV]) (by simp only [rC]) (by decide) (by decide) rfl ?_
 simp only [eJ,ai]
 simp (config:={decide:=true}) only [eN,List.take_succ_cons,List.take_zero,true_and,aI,a9,aY,hQ]
 refine row (x:=(xi 10 c w a b i l)) (by simp only [dK]) (by simp only [zT]) (by decide) (by decide) rfl ?_
 simp only [eJ,ai]
 simp (config:={decide:=true}) only [eN,List.take_succ_cons,List.take_zero,true_and,aI,a9,aY,eP]
 refine row (x:=(xi 10 c w a b i l)) (by simp only [dK]) (by simp only [rz]) (by decide) (by decide) rfl ?_
 simp only [eJ,ai,eR]
 rfl
theorem Q7 (c:Int):bI (11,c)=[(4,(Kd.s .rm,(Kd.s .r,(0,([133],(-1,(1,0))))))),(4,(Kd.s .rm,(Kd.s .i32,(0,([247],(0,(1,4)))))))]:=by
 rfl
theorem Sy (c w:Int) (a b:DO) (i l:Int):Ends (ai (xi 11 c w a b i l)) (ef ((bI (11,c)).find? (di (xi 11 c w a b i l)))) (ai (xi 11 c w a b i l) .h0):=by
 rw [Q7]
 unfold xi
 simp only [ai]
 simp (config:={decide:=true}) only [eN,bY,bZ,ak,Int.reduceBEq,beq_self_eq_true,kD,kC,kB,kz,Bool.not_true,Bool.not_false,aU,bg,true_and,show bd 11 dL 0 = -1 from rfl,show cj 0 (-1)=false from rfl,aI,a9,aY,bV]
 refine row (x:=(xi 11 c w a b i l)) (by simp only [dK]) (by simp only [gV]) (by decide) (by decide) rfl ?_
 simp only [eJ,ai]
 simp (config:={decide:=true}) only [eN,List.take_succ_cons,List.take_zero,true_and,aI,a9,aY,eP]
 refine row (x:=(xi 11 c w a b i l)) (by simp only [dK]) (by simp only [rz]) (by decide) (by decide) rfl ?_
 simp only [eJ,ai,eR]
 rfl
theorem Q6 (c:Int):bI (12,c)=[(4,(Kd.s .rm,(Kd.s .no,(0,([255],(0,(1,0)))))))]:=by
 rfl
theorem Sx (c w:Int) (a b:DO) (i l:Int):Ends (ai (xi 12 c w a b i l)) (ef ((bI (12,c)).find? (di (xi 12 c w a b i l)))) (ai (xi 12 c w a b i l) .h0):=by
 rw [Q6]
 unfold xi
 simp only [ai]
 simp (config:={decide:=true}) only [eN,bY,bZ,ak,Int.reduceBEq,beq_self_eq_true,kD,kC,kB,kz,Bool.not_true,Bool.not_false,aU,bg,true_and,show bd 12 dL 0 = -1 from rfl,show cj 0 (-1)=false from rfl,aI,a9,aY,ep]
 refine row (x:=(xi 12 c w a b i l)) (by simp only [dK]) (by simp only [mo]) (by decide) (by decide) rfl ?_
 simp only [eJ,ai,eR]
 rfl
theorem Q5 (c:Int):bI (13,c)=[(4,(Kd.s .rm,(Kd.s .no,(0,([255],(1,(1,0)))))))]:=by
 rfl
theorem Sw (c w:Int) (a b:DO) (i l:Int):Ends (ai (xi 13 c w a b i l)) (ef ((bI (13,c)).find? (di (xi 13 c w a b i l)))) (ai (xi 13 c w a b i l) .h0):=by
 rw [Q5]
 unfold xi
 simp only [ai]
 simp (config:={decide:=true}) only [eN,bY,bZ,ak,Int.reduceBEq,beq_self_eq_true,kD,kC,kB,kz,Bool.not_true,Bool.not_false,aU,bg,true_and,show bd 13 dL 0 = -1 from rfl,show cj 0 (-1)=false from rfl,aI,a9,aY,ep]
 refine row (x:=(xi 13 c w a b i l)) (by simp only [dK]) (by simp only [mo]) (by decide) (by decide) rfl ?_
 simp only [eJ,ai,eR]
 rfl
theorem Q4 (c:Int):bI (14,c)=[(4,(Kd.s .rm,(Kd.s .no,(0,([247],(3,(1,0)))))))]:=by
 rfl
theorem Sv (c w:Int) (a b:DO) (i l:Int):Ends (ai (xi 14 c w a b i l)) (ef ((bI (14,c)).find? (di (xi 14 c w a b i l)))) (ai (xi 14 c w a b i l) .h0):=by
 rw [Q4]
 unfold xi
 simp only [ai]
 simp (config:={decide:=true}) only [eN,bY,bZ,ak,Int.reduceBEq,beq_self_eq_true,kD,kC,kB,kz,Bool.not_true,Bool.not_false,aU,bg,true_and,show bd 14 dL 0 = -1 from rfl,show cj 0 (-1)=false from rfl,aI,a9,aY,ep]
 refine row (x:=(xi 14 c w a b i l)) (by simp only [dK]) (by simp only [mo]) (by decide) (by decide) rfl ?_
 simp only [eJ,ai,eR]
 rfl
theorem Q3 (c:Int):bI (15,c)=[(4,(Kd.s .rm,(Kd.s .no,(0,([247],(2,(1,0)))))))]:=by
 rfl
theorem Su (c w:Int) (a b:DO) (i l:Int):Ends (ai (xi 15 c w a b i l)) (ef ((bI (15,c)).find? (di (xi 15 c w a b i l)))) (ai (xi 15 c w a b i l) .h0):=by
 rw [Q3]
 unfold xi
 simp only [ai]
 simp (config:={decide:=true}) only [eN,bY,bZ,ak,Int.reduceBEq,beq_self_eq_true,kD,kC,kB,kz,Bool.not_true,Bool.not_false,aU,bg,true_and,show bd 15 dL 0 = -1 from rfl,show cj 0 (-1)=false from rfl,aI,a9,aY,ep]
 refine row (x:=(xi 15 c w a b i l)) (by simp only [dK]) (by simp only [mo]) (by decide) (by decide) rfl ?_
 simp only [eJ,ai,eR]
 rfl
theorem Q2 (c:Int):bI (16,c)=[(4,(Kd.s .rm,(Kd.s .u8,(0,([193],(4,(1,1))))))),(4,(Kd.s .rm,(Kd.s .cl,(0,([211],(4,(1,0)))))))]:=by
 rfl
theorem Ss (c w:Int) (a b:DO) (i l:Int):Ends (ai (xi 16 c w a b i l)) (ef ((bI (16,c)).find? (di (xi 16 c w a b i l)))) (ai (xi 16 c w a b i l) .h0):=by
 rw [Q2]
 unfold xi
 simp only [ai]
 simp (config:={decide:=true}) only [eN,bY,bZ,ak,Int.reduceBEq,beq_self_eq_true,kD,kC,kB,kz,Bool.not_true,Bool.not_false,aU,bg,true_and,show bd 16 dL 0 = -1 from rfl,show cj 0 (-1)=false from rfl,aI,a9,aY,mE]
 refine row (x:=(xi 16 c w a b i l)) (by simp only [dK]) (by simp only [LS]) (by decide) (by decide) rfl ?_
 simp only [eJ,ai]
 simp (config:={decide:=true}) only [eN,List.take_succ_cons,List.take_zero,true_and,aI,a9,aY,mD]
 refine row (x:=(xi 16 c w a b i l)) (by simp only [dK]) (by simp only [LR]) (by decide) (by decide) rfl ?_
 simp only [eJ,ai,eR]
 rfl
theorem Q1 (c:Int):bI (17,c)=[(4,(Kd.s .rm,(Kd.s .u8,(0,([193],(5,(1,1))))))),(4,(Kd.s .rm,(Kd.s .cl,(0,([211],(5,(1,0)))))))]:=by
 rfl
theorem Sr (c w:Int) (a b:DO) (i l:Int):Ends (ai (xi 17 c w a b i l)) (ef ((bI (17,c)).find? (di (xi 17 c w a b i l)))) (ai (xi 17 c w a b i l) .h0):=by
 rw [Q1]
 unfold xi
 simp only [ai]
 simp (config:={decide:=true}) only [eN,bY,bZ,ak,Int.reduceBEq,beq_self_eq_true,kD,kC,kB,kz,Bool.not_true,Bool.not_false,aU,bg,true_and,show bd 17 dL 0 = -1 from rfl,show cj 0 (-1)=false from rfl,aI,a9,aY,mE]
 refine row (x:=(xi 17 c w a b i l)) (by simp only [dK]) (by simp only [LS]) (by decide) (by decide) rfl ?_
 simp only [eJ,ai]
 simp (config:={decide:=true}) only [eN,List.take_succ_cons,List.take_zero,true_and,aI,a9,aY,mD]
 refine row (x:=(xi 17 c w a b i l)) (by simp only [dK]) (by simp only [LR]) (by decide) (by decide) rfl ?_
 simp only [eJ,ai,eR]
 rfl
theorem Q0 (c:Int):bI (18,c)=[(4,(Kd.s .rm,(Kd.s .u8,(0,([193],(7,(1,1))))))),(4,(Kd.s .rm,(Kd.s .cl,(0,([211],(7,(1,0)))))))]:=by
 rfl
theorem Sq (c w:Int) (a b:DO) (i l:Int):Ends (ai (xi 18 c w a b i l)) (ef ((bI (18,c)).find? (di (xi 18 c w a b i l)))) (ai (xi 18 c w a b i l) .h0):=by
 rw [Q0]
 unfold xi
 simp only [ai]
 simp (config:={decide:=true}) only [eN,bY,bZ,ak,Int.reduceBEq,beq_self_eq_true,kD,kC,kB,kz,Bool.not_true,Bool.not_false,aU,bg,true_and,show bd 18 dL 0 = -1 from rfl,show cj 0 (-1)=false from rfl,aI,a9,aY,mE]
 refine row (x:=(xi 18 c w a b i l)) (by simp only [dK]) (by simp only [LS]) (by decide) (by decide) rfl ?_
 simp only [eJ,ai]
 simp (config:={decide:=true}) only [eN,List.take_succ_cons,List.take_zero,true_and,aI,a9,aY,mD]
 refine row (x:=(xi 18 c w a b i l)) (by simp only [dK]) (by simp only [LR]) (by decide) (by decide) rfl ?_
 simp only [eJ,ai,eR]
 rfl
theorem QZ (c:Int):bI (19,c)=[(4,(Kd.s .rm,(Kd.s .u8,(0,([193],(0,(1,1))))))),(4,(Kd.s .rm,(Kd.s .cl,(0,([211],(0,(1,0)))))))]:=by
 rfl
theorem Sp (c w:Int) (a b:DO) (i l:Int):Ends (ai (xi 19 c w a b i l)) (ef ((bI (19,c)).find? (di (xi 19 c w a b i l)))) (ai (xi 19 c w a b i l) .h0):=by
 rw [QZ]
 unfold xi
 simp only [ai]
 simp (config:={decide:=true}) only [eN,bY,bZ,ak,Int.reduceBEq,beq_self_eq_true,kD,kC,kB,kz,Bool.not_true,Bool.not_false,aU,bg,true_and,show bd 19 dL 0 = -1 from rfl,show cj 0 (-1)=false from rfl,aI,a9,aY,mE]
 refine row (x:=(xi 19 c w a b i l)) (by simp only [dK]) (by simp only [LS]) (by decide) (by decide) rfl ?_
 simp only [eJ,ai]
 simp (config:={decide:=true}) only [eN,List.take_succ_cons,List.take_zero,true_and,aI,a9,aY,mD]
 refine row (x:=(xi 19 c w a b i l)) (by simp only [dK]) (by simp only [LR]) (by decide) (by decide) rfl ?_
 simp only [eJ,ai,eR]
 rfl
theorem QY (c:Int):bI (20,c)=[(4,(Kd.s .rm,(Kd.s .u8,(0,([193],(1,(1,1))))))),(4,(Kd.s .rm,(Kd.s .cl,(0,([211],(1,(1,0)))))))]:=by
 rfl
theorem So (c w:Int) (a b:DO) (i l:Int):Ends (ai (xi 20 c w a b i l)) (ef ((bI (20,c)).find? (di (xi 20 c w a b i l)))) (ai (xi 20 c w a b i l) .h0):=by
 rw [QY]
 unfold xi
 simp only [ai]
 simp (config:={decide:=true}) only [eN,bY,bZ,ak,Int.reduceBEq,beq_self_eq_true,kD,kC,kB,kz,Bool.not_true,Bool.not_false,aU,bg,true_and,show bd 20 dL 0 = -1 from rfl,show cj 0 (-1)=false from rfl,aI,a9,aY,mE]
 refine row (x:=(xi 20 c w a b i l)) (by simp only [dK]) (by simp only [LS]) (by decide) (by decide) rfl ?_
 simp only [eJ,ai]
 simp (config:={decide:=true}) only [eN,List.take_succ_cons,List.take_zero,true_and,aI,a9,aY,mD]
 refine row (x:=(xi 20 c w a b i l)) (by simp only [dK]) (by simp only [LR]) (by decide) (by decide) rfl ?_
 simp only [eJ,ai,eR]
 rfl
theorem QX (c:Int):bI (21,c)=[(4,(Kd.s .r,(Kd.s .rm,(0,([15,175],(-1,(2,0)))))))]:=by
 rfl
theorem Sn (c w:Int) (a b:DO) (i l:Int):Ends (ai (xi 21 c w a b i l)) (ef ((bI (21,c)).find? (di (xi 21 c w a b i l)))) (ai (xi 21 c w a b i l) .h0):=by
 rw [QX]
 unfold xi
 simp only [ai]
 simp (config:={decide:=true}) only [eN,bY,bZ,ak,Int.reduceBEq,beq_self_eq_true,kD,kC,kB,kz,Bool.not_true,Bool.not_false,aU,bg,true_and,show bd 21 dL 0 = -1 from rfl,show cj 0 (-1)=false from rfl,aI,a9,bV,aY]
 refine row (x:=(xi 21 c w a b i l)) (by simp only [gV]) (by simp only [dK]) (by decide) (by decide) rfl ?_
 simp only [eJ,ai,eR]
 rfl
theorem QW (c:Int):bI (22,c)=[(4,(Kd.s .rm,(Kd.s .no,(0,([247],(4,(1,0)))))))]:=by
 rfl
theorem Sm (c w:Int) (a b:DO) (i l:Int):Ends (ai (xi 22 c w a b i l)) (ef ((bI (22,c)).find? (di (xi 22 c w a b i l)))) (ai (xi 22 c w a b i l) .h0):=by
 rw [QW]
 unfold xi
 simp only [ai]
 simp (config:={decide:=true}) only [eN,bY,bZ,ak,Int.reduceBEq,beq_self_eq_true,kD,kC,kB,kz,Bool.not_true,Bool.not_false,aU,bg,true_and,show bd 22 dL 0 = -1 from rfl,show cj 0 (-1)=false from rfl,aI,a9,aY,ep]
 refine row (x:=(xi 22 c w a b i l)) (by simp only [dK]) (by simp only [mo]) (by decide) (by decide) rfl ?_
 simp only [eJ,ai,eR]
 rfl
theorem QV (c:Int):bI (23,c)=[(4,(Kd.s .rm,(Kd.s .no,(0,([247],(6,(1,0)))))))]:=by
 rfl
theorem Sl (c w:Int) (a b:DO) (i l:Int):Ends (ai (xi 23 c w a b i l)) (ef ((bI (23,c)).find? (di (xi 23 c w a b i l)))) (ai (xi 23 c w a b i l) .h0):=by
 rw [QV]
 unfold xi
 simp only [ai]
 simp (config:={decide:=true}) only [eN,bY,bZ,ak,Int.reduceBEq,beq_self_eq_true,kD,kC,kB,kz,Bool.not_true,Bool.not_false,aU,bg,true_and,show bd 23 dL 0 = -1 from rfl,show cj 0 (-1)=false from rfl,aI,a9,aY,ep]
 refine row (x:=(xi 23 c w a b i l)) (by simp only [dK]) (by simp only [mo]) (by decide) (by decide) rfl ?_
 simp only [eJ,ai,eR]
 rfl
theorem QU (c:Int):bI (24,c)=[(16,(Kd.s .r,(Kd.s .no,(0,([80],(0,(3,0)))))))]:=by
 rfl
theorem Sk (c w:Int) (a b:DO) (i l:Int):Ends (ai (xi 24 c w a b i l)) (ef ((bI (24,c)).find? (di (xi 24 c w a b i l)))) (ai (xi 24 c w a b i l) .h0):=by
 rw [QU]
 unfold xi
 simp only [ai]
 simp (config:={decide:=true}) only [eN,bY,bZ,ak,Int.reduceBEq,beq_self_eq_true,kD,kC,kB,kz,Bool.not_true,Bool.not_false,aU,bg,true_and,show bd 24 dL 0 = -1 from rfl,show cj 0 (-1)=false from rfl,aI,iU,bV,ep]
 refine row (x:=(xi 24 c w a b i l)) (by simp only [gV]) (by simp only [mo]) (by decide) (by decide) rfl ?_
 simp only [eJ,ai,eR]
 rfl
theorem QT (c:Int):bI (25,c)=[(16,(Kd.s .r,(Kd.s .no,(0,([88],(0,(3,0)))))))]:=by
 rfl
theorem Sj (c w:Int) (a b:DO) (i l:Int):Ends (ai (xi 25 c w a b i l)) (ef ((bI (25,c)).find? (di (xi 25 c w a b i l)))) (ai (xi 25 c w a b i l) .h0):=by
 rw [QT]
 unfold xi
 simp only [ai]
 simp (config:={decide:=true}) only [eN,bY,bZ,ak,Int.reduceBEq,beq_self_eq_true,kD,kC,kB,kz,Bool.not_true,Bool.not_false,aU,bg,true_and,show bd 25 dL 0 = -1 from rfl,show cj 0 (-1)=false from rfl,aI,iU,bV,ep]
 refine row (x:=(xi 25 c w a b i l)) (by simp only [gV]) (by simp only [mo]) (by decide) (by decide) rfl ?_
 simp only [eJ,ai,eR]
 rfl
theorem QS (c:Int):bI (26,c)=[(16,(Kd.s .no,(Kd.s .i32,(0,([232],(0,(0,4)))))))]:=by
 rfl
theorem Si (c w:Int) (a b:DO) (i l:Int):Ends (ai (xi 26 c w a b i l)) (ef ((bI (26,c)).find? (di (xi 26 c w a b i l)))) (ai (xi 26 c w a b i l) .h0):=by
 rw [QS]
 unfold xi
 simp only [ai]
 simp (config:={decide:=true}) only [eN,bY,bZ,ak,Int.reduceBEq,beq_self_eq_true,kD,kC,kB,kz,Bool.not_true,Bool.not_false,aU,bg,true_and,show bd 26 dL 0 = -1 from rfl,show cj 0 (-1)=false from rfl,aI,iU,ep,eP]
 refine row (x:=(xi 26 c w a b i l)) (by simp only [mo]) (by simp only [rz]) (by decide) (by decide) rfl ?_
 simp only [eJ,ai,eR]
 rfl
theorem QR (c:Int):bI (27,c)=[(16,(Kd.s .no,(Kd.s .no,(0,([195],(0,(0,0)))))))]:=by
 rfl
theorem Sh (c w:Int) (a b:DO) (i l:Int):Ends (ai (xi 27 c w a b i l)) (ef ((bI (27,c)).find? (di (xi 27 c w a b i l)))) (ai (xi 27 c w a b i l) .h0):=by
 rw [QR]
 unfold xi
 simp only [ai]
 simp (config:={decide:=true}) only [eN,bY,bZ,ak,Int.reduceBEq,beq_self_eq_true,kD,kC,kB,kz,Bool.not_true,Bool.not_false,aU,bg,true_and,show bd 27 dL 0 = -1 from rfl,show cj 0 (-1)=false from rfl,aI,iU,ep]
 refine row (x:=(xi 27 c w a b i l)) (by simp only [mo]) (by simp only [mo]) (by decide) (by decide) rfl ?_
 simp only [eJ,ai,eR]
 rfl
theorem QQ (c:Int):bI (28,c)=[(16,(Kd.s .no,(Kd.s .i32,(0,([233],(0,(0,4))))))),(16,(Kd.s .rm,(Kd.s .no,(0,([255],(4,(1,0)))))))]:=by
 rfl
theorem Sg (c w:Int) (a b:DO) (i l:Int):Ends (ai (xi 28 c w a b i l)) (ef ((bI (28,c)).find? (di (xi 28 c w a b i l)))) (ai (xi 28 c w a b i l) .h0):=by
 rw [QQ]
 unfold xi
 simp only [ai]
 simp (config:={decide:=true}) only [eN,bY,bZ,ak,Int.reduceBEq,beq_self_eq_true,kD,kC,kB,kz,Bool.not_true,Bool.not_false,aU,bg,true_and,show bd 28 dL 0 = -1 from rfl,show cj 0 (-1)=false from rfl,aI,iU,ep,eP]
 refine row (x:=(xi 28 c w a b i l)) (by simp only [mo]) (by simp only [rz]) (by decide) (by decide) rfl ?_
 simp only [eJ,ai]
 simp (config:={decide:=true}) only [eN,List.take_succ_cons,List.take_zero,true_and,aI,iU,aY,ep]
 refine row (x:=(xi 28 c w a b i l)) (by simp only [dK]) (by simp only [mo]) (by decide) (by decide) rfl ?_
 simp only [eJ,ai,eR]
 rfl
theorem QP (c:Int):bI (29,c)=[(16,(Kd.s .no,(Kd.s .i32,(0,([15,(aK .u8 128 (fJ .u8 c 16))],(0,(0,4)))))))]:=by
 rfl
theorem Sf (c w:Int) (a b:DO) (i l:Int) (hc:0≤c∧c < 16):Ends (ai (xi 29 c w a b i l)) (ef ((bI (29,c)).find? (di (xi 29 c w a b i l)))) (ai (xi 29 c w a b i l) .h0):=by
 rw [QP]
 unfold xi
 simp only [ai]
 simp (config:={decide:=true}) only [eN,bY,bZ,ak,Int.reduceBEq,beq_self_eq_true,kD,kC,kB,kz,Bool.not_true,Bool.not_false,aU,bg,true_and,show bd 29 dL 0 = -1 from rfl,show cj 0 (-1)=false from rfl,aI,iU,ep,eP,MW hc,Le hc]
 refine row (x:=(xi 29 c w a b i l)) (by simp only [mo]) (by simp only [rz]) (by decide) (by decide) rfl ?_
 simp only [eJ,ai,eR]
 rfl
theorem QO (c:Int):bI (30,c)=[(4,(Kd.s .r,(Kd.s .rm,(0,([15,(aK .u8 64 (fJ .u8 c 16))],(-1,(2,0)))))))]:=by
 rfl
theorem Se (c w:Int) (a b:DO) (i l:Int) (hc:0≤c∧c < 16):Ends (ai (xi 30 c w a b i l)) (ef ((bI (30,c)).find? (di (xi 30 c w a b i l)))) (ai (xi 30 c w a b i l) .h0):=by
 rw [QO]
 unfold xi
 simp only [ai]
 simp (config:={decide:=true}) only [eN,bY,bZ,ak,Int.reduceBEq,beq_self_eq_true,kD,kC,kB,kz,Bool.not_true,Bool.not_false,aU,bg,true_and,show bd 30 dL 0 = -1 from rfl,show cj 0 (-1)=false from rfl,aI,a9,bV,aY,MW hc,Le hc]
 refine row (x:=(xi 30 c w a b i l)) (by simp only [gV]) (by simp only [dK]) (by decide) (by decide) rfl ?_
 simp only [eJ,ai,eR]
 rfl
theorem QN (c:Int):bI (31,c)=[(1,(Kd.s .rm,(Kd.s .no,(0,([15,(aK .u8 144 (fJ .u8 c 16))],(0,(1,0)))))))]:=by
 rfl
theorem Sd (c w:Int) (a b:DO) (i l:Int) (hc:0≤c∧c < 16):Ends (ai (xi 31 c w a b i l)) (ef ((bI (31,c)).find? (di (xi 31 c w a b i l)))) (ai (xi 31 c w a b i l) .h0):=by
 rw [QN]
 unfold xi
 simp only [ai]
 simp (config:={decide:=true}) only [eN,bY,bZ,ak,Int.reduceBEq,beq_self_eq_true,kD,kC,kB,kz,Bool.not_true,Bool.not_false,aU,bg,true_and,show bd 31 dL 0 = -1 from rfl,show cj 0 (-1)=false from rfl,fR,uU,aY,ep,MW hc,Le hc]
 refine row (x:=(xi 31 c w a b i l)) (by simp only [dK]) (by simp only [mo]) (by decide) (by decide) rfl ?_
 simp only [eJ,ai,eR]
 rfl
theorem QM (c:Int):bI (32,c)=[(4,(Kd.s .r,(Kd.s .rm,(0,([15,182],(-1,(2,0)))))))]:=by
 rfl
theorem Sc (c w:Int) (a b:DO) (i l:Int):Ends (ai (xi 32 c w a b i l)) (ef ((bI (32,c)).find? (di (xi 32 c w a b i l)))) (ai (xi 32 c w a b i l) .h0):=by
 rw [QM]
 unfold xi
 simp only [ai]
 simp (config:={decide:=true}) only [eN,bY,bZ,ak,Int.reduceBEq,beq_self_eq_true,kD,kC,kB,kz,Bool.not_true,Bool.not_false,aU,bg,true_and,show bd 32 dL 0 = -1 from rfl,show cj 0 (-1)=false from rfl,aI,a9,bV,aY]
 refine row (x:=(xi 32 c w a b i l)) (by simp only [gV]) (by simp only [dK]) (by decide) (by decide) rfl ?_
 simp only [eJ,ai,eR]
 rfl
theorem QL (c:Int):bI (33,c)=[(4,(Kd.s .r,(Kd.s .rm,(0,([15,190],(-1,(2,0)))))))]:=by
 rfl
theorem Sb (c w:Int) (a b:DO) (i l:Int):Ends (ai (xi 33 c w a b i l)) (ef ((bI (33,c)).find? (di (xi 33 c w a b i l)))) (ai (xi 33 c w a b i l) .h0):=by
 rw [QL]
 unfold xi
 simp only [ai]
 simp (config:={decide:=true}) only [eN,bY,bZ,ak,Int.reduceBEq,beq_self_eq_true,kD,kC,kB,kz,Bool.not_true,Bool.not_false,aU,bg,true_and,show bd 33 dL 0 = -1 from rfl,show cj 0 (-1)=false from rfl,aI,a9,bV,aY]
 refine row (x:=(xi 33 c w a b i l)) (by simp only [gV]) (by simp only [dK]) (by decide) (by decide) rfl ?_
 simp only [eJ,ai,eR]
 rfl
theorem QK (c:Int):bI (34,c)=[(16,(Kd.s .no,(Kd.s .no,(0,([144],(0,(0,0)))))))]:=by
 rfl
theorem Sa (c w:Int) (a b:DO) (i l:Int):Ends (ai (xi 34 c w a b i l)) (ef ((bI (34,c)).find? (di (xi 34 c w a b i l)))) (ai (xi 34 c w a b i l) .h0):=by
 rw [QK]
 unfold xi
 simp only [ai]
 simp (config:={decide:=true}) only [eN,bY,bZ,ak,Int.reduceBEq,beq_self_eq_true,kD,kC,kB,kz,Bool.not_true,Bool.not_false,aU,bg,true_and,show bd 34 dL 0 = -1 from rfl,show cj 0 (-1)=false from rfl,aI,iU,ep]
 refine row (x:=(xi 34 c w a b i l)) (by simp only [mo]) (by simp only [mo]) (by decide) (by decide) rfl ?_
 simp only [eJ,ai,eR]
 rfl
theorem QJ (c:Int):bI (35,c)=[(32,(Kd.s .x,(Kd.s .xm,(243,([15,111],(-1,(2,0))))))),(32,(Kd.s .m,(Kd.s .x,(243,([15,127],(-1,(1,0)))))))]:=by
 rfl
theorem R9 (c w:Int) (a b:DO) (i l:Int) (ha:nD a.2.1) (hb:nD b.2.1):Ends (ai (xi 35 c w a b i l)) (ef ((bI (35,c)).find? (di (xi 35 c w a b i l)))) (ai (xi 35 c w a b i l) .h0):=by
 rw [QJ]
 unfold xi
 simp only [ai]
 simp (config:={decide:=true}) only [eN,bY,bZ,ak,Int.reduceBEq,beq_self_eq_true,kD,kC,kB,kz,Bool.not_true,Bool.not_false,aU,bg,true_and,show bd 35 dL 0 = -1 from rfl,show cj 0 (-1)=false from rfl,fR,kL,jD ha,mF hb]
 refine row (x:=(xi 35 c w a b i l)) (by simp only [Fy]) (by simp only [LU]) (by decide) (by decide) rfl ?_
 simp only [eJ,ai]
 simp (config:={decide:=true}) only [eN,List.take_succ_cons,List.take_zero,true_and,fR,kL,eS,jD hb]
 refine row (x:=(xi 35 c w a b i l)) (by simp only [rC]) (by simp only [Fy]) (by decide) (by decide) rfl ?_
 simp only [eJ,ai,eR]
 rfl
theorem QI (c:Int):bI (36,c)=[(32,(Kd.s .x,(Kd.s .xm,(102,([15,239],(-1,(2,0)))))))]:=by
 rfl
theorem R8 (c w:Int) (a b:DO) (i l:Int) (ha:nD a.2.1) (hb:nD b.2.1):Ends (ai (xi 36 c w a b i l)) (ef ((bI (36,c)).find? (di (xi 36 c w a b i l)))) (ai (xi 36 c w a b i l) .h0):=by
 rw [QI]
 unfold xi
 simp only [ai]
 simp (config:={decide:=true}) only [eN,bY,bZ,ak,Int.reduceBEq,beq_self_eq_true,kD,kC,kB,kz,Bool.not_true,Bool.not_false,aU,bg,true_and,show bd 36 dL 0 = -1 from rfl,show cj 0 (-1)=false from rfl,fR,kL,jD ha,mF hb]
 refine row (x:=(xi 36 c w a b i l)) (by simp only [Fy]) (by simp only [LU]) (by decide) (by decide) rfl ?_
 simp only [eJ,ai,eR]
 rfl
theorem QH (c:Int):bI (37,c)=[(32,(Kd.s .x,(Kd.s .xm,(102,([15,56,220],(-1,(2,0)))))))]:=by
 rfl
theorem R7 (c w:Int) (a b:DO) (i l:Int) (ha:nD a.2.1) (hb:nD b.2.1):Ends (ai (xi 37 c w a b i l)) (ef ((bI (37,c)).find? (di (xi 37 c w a b i l)))) (ai (xi 37 c w a b i l) .h0):=by
 rw [QH]
 unfold xi
 simp only [ai]
 simp (config:={decide:=true}) only [eN,bY,bZ,ak,Int.reduceBEq,beq_self_eq_true,kD,kC,kB,kz,Bool.not_true,Bool.not_false,aU,bg,true_and,show bd 37 dL 0 = -1 from rfl,show cj 0 (-1)=false from rfl,fR,kL,jD ha,mF hb]
 refine row (x:=(xi 37 c w a b i l)) (by simp only [Fy]) (by simp only [LU]) (by decide) (by decide) rfl ?_
 simp only [eJ,ai,eR]
 rfl
theorem QG (c:Int):bI (38,c)=[(32,(Kd.s .x,(Kd.s .xm,(102,([15,56,221],(-1,(2,0)))))))]:=by
 rfl
theorem R6 (c w:Int) (a b:DO) (i l:Int) (ha:nD a.2.1) (hb:nD b.2.1):Ends (ai (xi 38 c w a b i l)) (ef ((bI (38,c)).find? (di (xi 38 c w a b i l)))) (ai (xi 38 c w a b i l) .h0):=by
 rw [QG]
 unfold xi
 simp only [ai]
 simp (config:={decide:=true}) only [eN,bY,bZ,ak,Int.reduceBEq,beq_self_eq_true,kD,kC,kB,kz,Bool.not_true,Bool.not_false,aU,bg,true_and,show bd 38 dL 0 = -1 from rfl,show cj 0 (-1)=false from rfl,fR,kL,jD ha,mF hb]
 refine row (x:=(xi 38 c w a b i l)) (by simp only [Fy]) (by simp only [LU]) (by decide) (by decide) rfl ?_
 simp only [eJ,ai,eR]
 rfl
theorem QF (c:Int):bI (39,c)=[(32,(Kd.s .x,(Kd.s .xm,(102,([15,58,68],(-1,(2,1)))))))]:=by
 rfl
theorem R5 (c w:Int) (a b:DO) (i l:Int) (ha:nD a.2.1) (hb:nD b.2.1):Ends (ai (xi 39 c w a b i l)) (ef ((bI (39,c)).find? (di (xi 39 c w a b i l)))) (ai (xi 39 c w a b i l) .h0):=by
 rw [QF]
 unfold xi
 simp only [ai]
 simp (config:={decide:=true}) only [eN,bY,bZ,ak,Int.reduceBEq,beq_self_eq_true,kD,kC,kB,kz,Bool.not_true,Bool.not_false,aU,bg,true_and,show bd 39 dL 0 = -1 from rfl,show cj 0 (-1)=false from rfl,fR,kL,jD ha,mF hb]
 refine row (x:=(xi 39 c w a b i l)) (by simp only [Fy]) (by simp only [LU]) (by decide) (by decide) rfl ?_
 simp only [eJ,ai,eR]
 rfl
end
end Go.bz.RM
end
section
namespace Go.bz.RM
open Go.bz.RL
open Go.bz
noncomputable section
theorem Gm (d c w:Int) (a b:DO) (i l:Int) (h:∀ k:Int,1≤k→k≤39→ak d k=false):Ends (ai ((d,(c,(w,(a,(b,(i,l)))))):DI)) (ef ((bI (d,c)).find? (di ((d,(c,(w,(a,(b,(i,l)))))):DI)))) (ai ((d,(c,(w,(a,(b,(i,l)))))):DI) .h0):=by
 have h1:ak d 1=false:=h 1 (by decide) (by decide)
 have h2:ak d 2=false:=h 2 (by decide) (by decide)
 have h3:ak d 3=false:=h 3 (by decide) (by decide)
 have h4:ak d 4=false:=h 4 (by decide) (by decide)
 have h5:ak d 5=false:=h 5 (by decide) (by decide)
 have h6:ak d 6=false:=h 6 (by decide) (by decide)
 have h7:ak d 7=false:=h 7 (by decide) (by decide)
 have h8:ak d 8=false:=h 8 (by decide) (by decide)
 have h9:ak d 9=false:=h 9 (by decide) (by decide)
 have uP:ak d 10=false:=h 10 (by decide) (by decide)
 have oI:ak d 11=false:=h 11 (by decide) (by decide)
 have lC:ak d 12=false:=h 12 (by decide) (by decide)
 have jt:ak d 13=false:=h 13 (by decide) (by decide)
 have ku:ak d 14=false:=h 14 (by decide) (by decide)
 have gO:ak d 15=false:=h 15 (by decide) (by decide)
 have hJ:ak d 16=false:=h 16 (by decide) (by decide)
 have my:ak d 17=false:=h 17 (by decide) (by decide)
 have wX:ak d 18=false:=h 18 (by decide) (by decide)
 have yy:ak d 19=false:=h 19 (by decide) (by decide)
 have BW:ak d 20=false:=h 20 (by decide) (by decide)
 have Bh:ak d 21=false:=h 21 (by decide) (by decide)
 have DA:ak d 22=false:=h 22 (by decide) (by decide)
 have Dz:ak d 23=false:=h 23 (by decide) (by decide)
 have Dy:ak d 24=false:=h 24 (by decide) (by decide)
 have yx:ak d 25=false:=h 25 (by decide) (by decide)
 have yw:ak d 26=false:=h 26 (by decide) (by decide)
 have yv:ak d 27=false:=h 27 (by decide) (by decide)
 have Dx:ak d 28=false:=h 28 (by decide) (by decide)
 have Dw:ak d 29=false:=h 29 (by decide) (by decide)
 have Dv:ak d 30=false:=h 30 (by decide) (by decide)
 have h31:ak d 31=false:=h 31 (by decide) (by decide)
 have h32:ak d 32=false:=h 32 (by decide) (by decide)
 have h33:ak d 33=false:=h 33 (by decide) (by decide)
 have h34:ak d 34=false:=h 34 (by decide) (by decide)
 have h35:ak d 35=false:=h 35 (by decide) (by decide)
 have h36:ak d 36=false:=h 36 (by decide) (by decide)
 have h37:ak d 37=false:=h 37 (by decide) (by decide)
 have h38:ak d 38=false:=h 38 (by decide) (by decide)
 have h39:ak d 39=false:=h 39 (by decide) (by decide)
 have e75:bI (d,c)=[]:=by
  unfold bI yT
  simp only [dp,cV,dm,h1,h2,h3,h4,h5,h6,h7,h8,h9,uP,oI,lC,jt,ku,gO,hJ,my,wX,yy,BW,Bh,DA,Dz,Dy,yx,yw,yv,Dx,Dw,Dv,h31,h32,h33,h34,h35,h36,h37,h38,h39,cond_false,kD,kC,kB,kz,cond_true]
  unfold lY iX
  simp only [dp,cV,dm,h1,h2,h3,h4,h5,h6,h7,h8,h9,uP,oI,lC,jt,ku,gO,hJ,my,wX,yy,BW,Bh,DA,Dz,Dy,yx,yw,yv,Dx,Dw,Dv,h31,h32,h33,h34,h35,h36,h37,h38,h39,cond_false,kD,kC,kB,kz,cond_true]
 have ei:bd d dL 0 = -1:=by
  simp only [bd,dL,h1,h2,h3,h4,h5,h6,h7,h8,h9,uP,oI,lC,jt,ku,gO,hJ,my,wX,yy,BW,Bh,DA,Dz,Dy,yx,yw,yv,Dx,Dw,Dv,h31,h32,h33,h34,h35,h36,h37,h38,h39,cond_false]
 rw [e75]
 simp only [ai]
 simp (config:={decide:=true}) only [eN,bY,bZ,aU,bg,ei,h1,h2,h3,h4,h5,h6,h7,h8,h9,uP,oI,lC,jt,ku,gO,hJ,my,wX,yy,BW,Bh,DA,Dz,Dy,yx,yw,yv,Dx,Dw,Dv,h31,h32,h33,h34,h35,h36,h37,h38,h39,kD,kC,kB,kz,true_and,and_true,show cj 0 (-1)=false from rfl,Bool.not_true,Bool.not_false,eR]
 exact eJ.2 Ot
theorem Oo {x:DI} (ha:nD (x.2.2.2.1).2.1) (hb:nD (x.2.2.2.2.1).2.1) (hc:0≤x.2.1∧x.2.1 < 16):Ends (ai x) (ef ((bI (x.1,x.2.1)).find? (di x))) (ai x .h0):=by
 obtain ⟨d,c,w,a,b,i,l⟩:=x
 dsimp only at ha hb hc ⊢
 by_cases hd:1≤d∧d≤39
 ·obtain ⟨h1,h2⟩:=hd
  have:d=1∨d=2∨d=3∨d=4∨d=5∨d=6∨d=7∨d=8∨d=9∨d=10∨d=11∨d=12∨d=13∨d=14∨d=15∨d=16∨d=17∨d=18∨d=19∨d=20∨d=21∨d=22∨d=23∨d=24∨d=25∨d=26∨d=27∨d=28∨d=29∨d=30∨d=31∨d=32∨d=33∨d=34∨d=35∨d=36∨d=37∨d=38∨d=39:=by omega
  rcases this with rfl | rfl | rfl | rfl | rfl | rfl | rfl | rfl | rfl | rfl | rfl | rfl | rfl | rfl | rfl | rfl | rfl | rfl | rfl | rfl | rfl | rfl | rfl | rfl | rfl | rfl | rfl | rfl | rfl | rfl | rfl | rfl | rfl | rfl | rfl | rfl | rfl | rfl | rfl
  ·exact Wh c w a b i l
  ·exact Wg c w a b i l
  ·exact Wf c w a b i l
  ·exact We c w a b i l
  ·exact Wd c w a b i l
  ·exact Wc c w a b i l
  ·exact Wb c w a b i l
  ·exact Wa c w a b i l
  ·exact V9 c w a b i l
  ·exact Sz c w a b i l
  ·exact Sy c w a b i l
  ·exact Sx c w a b i l
  ·exact Sw c w a b i l
  ·exact Sv c w a b i l
  ·exact Su c w a b i l
  ·exact Ss c w a b i l
  ·exact Sr c w a b i l
  ·exact Sq c w a b i l
  ·exact Sp c w a b i l
  ·exact So c w a b i l
  ·exact Sn c w a b i l
  ·exact Sm c w a b i l
  ·exact Sl c w a b i l
  ·exact Sk c w a b i l
  ·exact Sj c w a b i l
  ·exact Si c w a b i l
  ·exact Sh c w a b i l
  ·exact Sg c w a b i l
  ·exact Sf c w a b i l hc
  ·exact Se c w a b i l hc
  ·exact Sd c w a b i l hc
  ·exact Sc c w a b i l
  ·exact Sb c w a b i l
  ·exact Sa c w a b i l
  ·exact R9 c w a b i l ha hb
  ·exact R8 c w a b i l ha hb
  ·exact R7 c w a b i l ha hb
  ·exact R6 c w a b i l ha hb
  ·exact R5 c w a b i l ha hb
 ·exact Gm d c w a b i l fun k k1 k2=>by rw [bS];omega
theorem DQ {x:DI} (ha:nD (x.2.2.2.1).2.1) (hb:nD (x.2.2.2.2.1).2.1) (hc:wV x.2.1):Ends (ai x) (ef (lU x)) (qu x):=by
 have hno:Ends (ai x) (ef none) (.ret (.inr ((([]:List Int),(0,())),(((),((),(([]:List Int),(0,(0,0))))),false)))):=eR.2 rfl
 have hyes:cF 15 x.2.1=false→Ends (ai x) (ef ((bI (x.1,x.2.1)).find? (di x))) (ai x .h0):=fun h=>by
  rw [dY] at h
  exact Oo ha hb ⟨hc.1,by omega⟩
 have e1:cj x.2.1 15=!(cF 15 x.2.1):=by
  cases h:cF 15 x.2.1 with
  | true=>rw [bU] at h;rw [Bool.not_true,mv];omega
  | false=>rw [dY] at h;rw [Bool.not_false,cJ];omega
 have ne:∀ a b:Int,ak a b=!(dG a b):=fun a b=>by
  cases h:dG a b with
  | true=>rw [dr] at h;rw [Bool.not_true,bS];exact h
  | false=>rw [gy] at h;rw [Bool.not_false,al];exact h
 unfold lU F9
 rw [e1,ne x.2.1 0,ne x.1 39,ne x.2.2.2.2.2.1 0]
 unfold qu
 dsimp only
 generalize hF:(bI (x.1,x.2.1)).find? (di x)=F at hyes ⊢
 generalize ak x.1 29=a
 generalize ak x.1 30=b
 generalize ak x.1 31=c
 generalize cF 15 x.2.1=d at hyes ⊢
 generalize dG x.2.1 0=e
 generalize dG x.1 39=f
 generalize dG x.2.2.2.2.2.1 0=g
 cases a<;>cases b<;>cases c<;>cases d<;>cases e<;>cases f<;>cases g<;>
  (simp only [eI,eN,eJ,eR,Bool.not_true,Bool.not_false,Bool.and_true,Bool.and_false,Bool.true_and,Bool.false_and,Bool.or_true,Bool.or_false,Bool.true_or,Bool.false_or,cond_true,cond_false,true_and,and_true,
   implies_true,forall_const,Bool.false_eq_true,Bool.true_eq_false,false_implies,true_implies,beq_false,beq_true,reduceCtorEq,beq_self_eq_true];first | exact hyes rfl | rfl | trivial)
theorem LA {x:DI} (ha:nD (x.2.2.2.1).2.1) (hb:nD (x.2.2.2.2.1).2.1) (hc:wV x.2.1):LB x:=⟨_,DQ ha hb hc⟩
theorem Of {x:DI} (ha:nD (x.2.2.2.1).2.1) (hb:nD (x.2.2.2.2.1).2.1) (hc:wV x.2.1):Og x=ef (lU x):=dO (DQ ha hb hc)
end
end Go.bz.RM
end
section
namespace Go.bz.RL
open Go.bz Go.RowKit
variable {rd:Int→Prop} {l:L} {n:Int} {W:List Int} {k:Nat} {S:St}
theorem cC {α β:Type} {u:Tr β} {P:β→Prop} (q:res u P) {t:Tr α} {Q:α→Prop} (g:P u.val→res t Q):res (.aa u.ok t) Q:=aw q.1 (g q.2)
structure Cx (rd:Int→Prop) (S:St) (n:Int):Prop where
 w:1≤S.2.1∧S.2.1≤8
 a:gv rd n S.2.2.2.2.1
 b:gv rd n S.2.2.2.2.2.1
theorem Cx.up {n':Int} (h:Cx rd S n) (hn:n≤n'):Cx rd S n':=⟨h.w,bh hn h.a,bh hn h.b⟩
theorem NX {c:Int} (h:c≤15):c≤20:=by omega
def jv (rd:Int→Prop) (o:DO):Prop:=o.1=1→0≤o.2.1∧o.2.1≤15∧rd o.2.1
def nJ (rd:Int→Prop) (w:Int) (o:DO):Prop:=(o.1=1∨o.1=2)∧(o.1=1→0≤o.2.1∧o.2.1≤15∧(w=1→rd o.2.1))
def dW (o:DO):List Int:=if o.1=2 then [] else [o.2.1]
def D2 (rd:Int→Prop) (n:Int) (W:List Int) (k:Nat) (r:L×dh):Prop:=∃ n',n≤n'∧G rd r.1 n' W k∧gv rd n' r.2.1∧gv rd n' r.2.2
theorem D2.of {n':Int} {r:L×dh} {k':Nat} (hn:n≤n') (h:G rd r.1 n' W k) (hv:gv rd n' r.2.1) (hu:gv rd n' r.2.2) (hk:k≤k'):D2 rd n W k' r:=⟨n',hn,h.wk hk,hv,hu⟩
theorem Ey (h:G rd l n W k) (hk:k≤31) {o:DO} {at':aF} {w:Int} (hw:1≤w∧w≤8) (ho:jv rd o) (ha:gv rd n at'):res (vl (S,(l,(o,(at',w))))) (D1 rd n W (k+1)):=by
 repeat refine aw (by first | exact ae _ | exact af _ | exact ab _ _ | rfl | (with_reducible decide)) ?_
 refine dS (fun h1=>?_) fun _=>dS (fun h2=>?_) fun _=>?_
 ·repeat refine aw (by first | exact ae _ | exact af _ | exact ab _ _ | rfl | (with_reducible decide)) ?_
  have:=ho (al.1 h1)
  repeat refine aw (by first | exact ae _ | exact af _ | exact ab _ _ | rfl | (with_reducible decide)) ?_
  exact b8 (.of (by omega) h (hM this.1 ⟨NX this.2.1,this.2.2⟩) (by omega))
 ·repeat refine aw (by first | exact ae _ | exact af _ | exact ab _ _ | rfl | (with_reducible decide)) ?_
  refine dE h (by omega) ⟨by decide,by decide⟩ hw (xD ha) fun g1 v1=>?_
  repeat refine aw (by first | exact ae _ | exact af _ | exact ab _ _ | rfl | (with_reducible decide)) ?_
  exact b8 (.of (by omega) g1 v1 (by omega))
 ·repeat refine aw (by first | exact ae _ | exact af _ | exact ab _ _ | rfl | (with_reducible decide)) ?_
  exact b8 (.of (by omega) h (aM _) (by omega))
theorem X0 (h:G rd l n W k) (hk:k≤29) {o:DO} {at' v:aF} {w:Int} (hw:1≤w∧w≤8) (ho:nJ rd w o) (ha:gv rd n at') (hv:gv rd n v):res (u9 (S,(l,(o,(at',(w,v)))))) (D0 rd n (W++dW o) (k+3)):=by
 repeat refine aw (by first | exact ae _ | exact af _ | exact ab _ _ | rfl | (with_reducible decide)) ?_
 refine dS (fun h1=>?_) fun h1=>?_
 ·have e:dW o=[]:=if_pos (al.1 h1)
  rw [e,List.append_nil]
  repeat refine aw (by first | exact ae _ | exact af _ | exact ab _ _ | rfl | (with_reducible decide)) ?_
  refine XC h (by omega) (.inl rfl) hw (kv ha hv) fun g1=>?_
  repeat refine aw (by first | exact ae _ | exact af _ | exact ab _ _ | rfl | (with_reducible decide)) ?_
  exact b8 (.of (by omega) g1 (by omega))
 ·have h1:o.1≠2:=bS.1 h1
  have e:dW o=[o.2.1]:=if_neg h1
  have hr:=ho.2 (ho.1.resolve_right h1)
  rw [e]
  repeat refine aw (by first | exact ae _ | exact af _ | exact ab _ _ | rfl | (with_reducible decide)) ?_
  refine dS (fun h2=>?_) fun _=>?_
  ·have hrd:=hr.2.2 (al.1 h2)
   repeat refine aw (by first | exact ae _ | exact af _ | exact ab _ _ | rfl | (with_reducible decide)) ?_
   refine dE h (by omega) ⟨by decide,by decide⟩ w8 (kv (hM hr.1 ⟨NX hr.2.1,hrd⟩) (aM _)) fun g1 v1=>?_
   repeat refine aw (by first | exact ae _ | exact af _ | exact ab _ _ | rfl | (with_reducible decide)) ?_
   refine dE g1 (by omega) ⟨by decide,by decide⟩ w1 (xD (bh (by omega) hv)) fun g2 v2=>?_
   repeat refine aw (by first | exact ae _ | exact af _ | exact ab _ _ | rfl | (with_reducible decide)) ?_
   refine JE g2 (by omega) ⟨by decide,by decide⟩ w8 ⟨hr.1,NX hr.2.1⟩ (kv (bh (by omega) v1) v2) fun g3=>?_
   repeat refine aw (by first | exact ae _ | exact af _ | exact ab _ _ | rfl | (with_reducible decide)) ?_
   exact b8 (.of (by omega) g3 (by omega))
  ·repeat refine aw (by first | exact ae _ | exact af _ | exact ab _ _ | rfl | (with_reducible decide)) ?_
   refine JE h (by omega) ⟨by decide,by decide⟩ hw ⟨hr.1,NX hr.2.1⟩ (xD hv) fun g3=>?_
   repeat refine aw (by first | exact ae _ | exact af _ | exact ab _ _ | rfl | (with_reducible decide)) ?_
   exact b8 (.of (by omega) g3 (by omega))
theorem GS (h:G rd l n W k) (hk:k≤29) (hC:Cx rd S n) (ho:nJ rd S.2.1 S.1.2.2.2.1) {v:aF} (hv:gv rd n v):res (vm (S,(l,v))) (D0 rd n (W++dW S.1.2.2.2.1) (k+3)):=by
 repeat refine aw (by first | exact ae _ | exact af _ | exact ab _ _ | rfl | (with_reducible decide)) ?_
 refine cC (X0 h hk hC.w ho hC.a hv) fun ⟨n1,hn1,g1⟩=>?_
 repeat refine aw (by first | exact ae _ | exact af _ | exact ab _ _ | rfl | (with_reducible decide)) ?_
 exact b8 (.of hn1 g1 (by omega))
theorem Ik (x:DI):EF x:=by
 have:res (jT x) (fun _=>True):=by
  simp only [jT,bB,fF]
  simp
 exact this.1
theorem Xh (h:G rd l n W k) (hk:k≤30) (hC:Cx rd S n) (hA:fa S.1=false→jv rd S.1.2.2.2.1) (hB:fa S.1=false→jv rd S.1.2.2.2.2.1):res (vf (S,(l,()))) (D2 rd n W (k+2)):=by
 repeat refine aw (by first | exact ae _ | exact af _ | exact ab _ _ | rfl | (with_reducible decide)) ?_
 refine aw (Ik _) ?_
 repeat refine aw (by first | exact ae _ | exact af _ | exact ab _ _ | rfl | (with_reducible decide)) ?_
 refine dS (fun _=>?_) fun h1=>?_
 ·repeat refine aw (by first | exact ae _ | exact af _ | exact ab _ _ | rfl | (with_reducible decide)) ?_
  exact b8 (.of (by omega) h (aM _) (aM _) (by omega))
 ·repeat refine aw (by first | exact ae _ | exact af _ | exact ab _ _ | rfl | (with_reducible decide)) ?_
  refine cC (Ey h (by omega) hC.w (hA h1) hC.a) fun ⟨n1,hn1,g1,v1⟩=>?_
  repeat refine aw (by first | exact ae _ | exact af _ | exact ab _ _ | rfl | (with_reducible decide)) ?_
  refine cC (Ey g1 (by omega) hC.w (hB h1) (bh hn1 hC.b)) fun ⟨n2,hn2,g2,v2⟩=>?_
  repeat refine aw (by first | exact ae _ | exact af _ | exact ab _ _ | rfl | (with_reducible decide)) ?_
  exact b8 (.of (by omega) g2 (bh hn2 v1) v2 (by omega))
theorem OZ (h:G rd l n W k) (hk:k≤900) {c o:aF} (hc:gv rd n c) (ho:gv rd n o):res (vd (S,(l,(c,o)))) (D0 rd n (W++[16]++[19]) (k+2)):=by
 repeat refine aw (by first | exact ae _ | exact af _ | exact ab _ _ | rfl | (with_reducible decide)) ?_
 refine JE h (by omega) ⟨by decide,by decide⟩ w1 ⟨by decide,by decide⟩ (xD hc) fun g1=>?_
 repeat refine aw (by first | exact ae _ | exact af _ | exact ab _ _ | rfl | (with_reducible decide)) ?_
 refine JE g1 (by omega) ⟨by decide,by decide⟩ w1 ⟨by decide,by decide⟩ (xD ho) fun g2=>?_
 repeat refine aw (by first | exact ae _ | exact af _ | exact ab _ _ | rfl | (with_reducible decide)) ?_
 exact b8 (.of (by omega) g2 (by omega))
theorem OY (h:G rd l n W k) (hk:k≤900) (hw:1≤S.2.1∧S.2.1≤8) {c:aF} (hc:gv rd n c):res (vc (S,(l,c))) (D0 rd n (W++[17]++[18]++[20]) (k+3)):=by
 repeat refine aw (by first | exact ae _ | exact af _ | exact ab _ _ | rfl | (with_reducible decide)) ?_
 refine JE h (by omega) ⟨by decide,by decide⟩ hw ⟨by decide,by decide⟩ (xD hc) fun g1=>?_
 repeat refine aw (by first | exact ae _ | exact af _ | exact ab _ _ | rfl | (with_reducible decide)) ?_
 refine JE g1 (by omega) ⟨by decide,by decide⟩ hw ⟨by decide,by decide⟩ (xD hc) fun g2=>?_
 repeat refine aw (by first | exact ae _ | exact af _ | exact ab _ _ | rfl | (with_reducible decide)) ?_
 refine JE g2 (by omega) ⟨by decide,by decide⟩ hw ⟨by decide,by decide⟩ (xD hc) fun g3=>?_
 repeat refine aw (by first | exact ae _ | exact af _ | exact ab _ _ | rfl | (with_reducible decide)) ?_
 exact b8 (.of (by omega) g3 (by omega))
def aW (c:Bool) (S:St):List Int:=if c=true then dW S.1.2.2.2.1 else []
theorem X3 (h:G rd l n W k) (hk:k≤26) (hC:Cx rd S n) (ho:S.1.1≠10→nJ rd S.2.1 S.1.2.2.2.1) {b0 b1 b2:Int} (hb:gK b0∧gK b1∧gK b2) {x y z:aF} (hx:gv rd n x) (hy:gv rd n y) (hz:gv rd n z):
  res (vh (S,(l,([b0,b1,b2],(x,(y,z)))))) (D0 rd n (W++aW (dG S.1.1 10) S++[16]++[19]++[17]++[18]++[20]) (k+11)):=by
 repeat refine aw (by first | exact ae _ | exact af _ | exact ab _ _ | rfl | (with_reducible decide)) ?_
 refine dE h (by omega) hb.1 hC.w (PG hx hy hz) fun g1 v1=>?_
 repeat refine aw (by first | exact ae _ | exact af _ | exact ab _ _ | rfl | (with_reducible decide)) ?_
 refine dE g1 (by omega) hb.2.1 hC.w (PG (bh (by omega) hx) (bh (by omega) hy) (bh (by omega) hz)) fun g2 v2=>?_
 repeat refine aw (by first | exact ae _ | exact af _ | exact ab _ _ | rfl | (with_reducible decide)) ?_
 refine dE g2 (by omega) hb.2.2 hC.w (PG (bh (by omega) hx) (bh (by omega) hy) (bh (by omega) hz)) fun g3 v3=>?_
 repeat refine aw (by first | exact ae _ | exact af _ | exact ab _ _ | rfl | (with_reducible decide)) ?_
 refine dS (fun h1=>?_) fun h1=>?_
 ·have e:aW (dG S.1.1 10) S=dW S.1.2.2.2.1:=if_pos h1
  rw [e]
  repeat refine aw (by first | exact ae _ | exact af _ | exact ab _ _ | rfl | (with_reducible decide)) ?_
  refine cC (GS g3 (by omega) (hC.up (by omega)) (ho (dr.1 h1)) (bh (by omega) v1)) fun ⟨n4,hn4,g4⟩=>?_
  repeat refine aw (by first | exact ae _ | exact af _ | exact ab _ _ | rfl | (with_reducible decide)) ?_
  refine cC (OZ g4 (by omega) (bh (by omega) v2) (bh (by omega) v3)) fun ⟨n5,hn5,g5⟩=>?_
  repeat refine aw (by first | exact ae _ | exact af _ | exact ab _ _ | rfl | (with_reducible decide)) ?_
  refine cC (OY g5 (by omega) hC.w (bh (by omega) v1)) fun ⟨n6,hn6,g6⟩=>?_
  repeat refine aw (by first | exact ae _ | exact af _ | exact ab _ _ | rfl | (with_reducible decide)) ?_
  exact b8 (.of (by omega) g6 (by omega))
 ·have e:aW (dG S.1.1 10) S=[]:=if_neg (by rw [show dG S.1.1 10=false from h1];simp)
  rw [e,List.append_nil]
  repeat refine aw (by first | exact ae _ | exact af _ | exact ab _ _ | rfl | (with_reducible decide)) ?_
  refine cC (OZ g3 (by omega) (bh (by omega) v2) (bh (by omega) v3)) fun ⟨n5,hn5,g5⟩=>?_
  repeat refine aw (by first | exact ae _ | exact af _ | exact ab _ _ | rfl | (with_reducible decide)) ?_
  refine cC (OY g5 (by omega) hC.w (bh (by omega) v1)) fun ⟨n6,hn6,g6⟩=>?_
  repeat refine aw (by first | exact ae _ | exact af _ | exact ab _ _ | rfl | (with_reducible decide)) ?_
  exact b8 (.of (by omega) g6 (by omega))
theorem WK (h:G rd l n W k) (hk:k≤24) (hC:Cx rd S n) (hA:fa S.1=false→jv rd S.1.2.2.2.1) (hB:fa S.1=false→jv rd S.1.2.2.2.2.1) (ho:S.1.1≠10→nJ rd S.2.1 S.1.2.2.2.1)
  {b0 b1 b2:Int} (hb:gK b0∧gK b1∧gK b2) {z:aF} (hz:gv rd n z):
  res (vk (S,(l,([b0,b1,b2],z)))) (D0 rd n (W++aW (dG S.1.1 10) S++[16]++[19]++[17]++[18]++[20]) (k+13)):=by
 repeat refine aw (by first | exact ae _ | exact af _ | exact ab _ _ | rfl | (with_reducible decide)) ?_
 refine cC (Xh h (by omega) hC hA hB) fun ⟨n1,hn1,g1,v1,u1⟩=>?_
 repeat refine aw (by first | exact ae _ | exact af _ | exact ab _ _ | rfl | (with_reducible decide)) ?_
 refine cC (X3 g1 (by omega) (hC.up hn1) ho hb v1 u1 (bh hn1 hz)) fun ⟨n2,hn2,g2⟩=>?_
 repeat refine aw (by first | exact ae _ | exact af _ | exact ab _ _ | rfl | (with_reducible decide)) ?_
 exact b8 (.of (by omega) g2 (by omega))
theorem s2:gK 2∧gK 4∧gK 6:=⟨⟨by decide,by decide⟩,⟨by decide,by decide⟩,by decide,by decide⟩
theorem s3:gK 3∧gK 5∧gK 7:=⟨⟨by decide,by decide⟩,⟨by decide,by decide⟩,by decide,by decide⟩
theorem YB (h:G rd l n W k) (hk:k≤24) (hC:Cx rd S n) (hA:fa S.1=false→jv rd S.1.2.2.2.1) (hB:fa S.1=false→jv rd S.1.2.2.2.2.1) (ho:S.1.1≠10→nJ rd S.2.1 S.1.2.2.2.1):
  res (vU (S,(l,()))) (D0 rd n (W++aW (dG S.1.1 10) S++[16]++[19]++[17]++[18]++[20]) (k+13)):=by
 repeat refine aw (by first | exact ae _ | exact af _ | exact ab _ _ | rfl | (with_reducible decide)) ?_
 refine cC (WK h hk hC hA hB ho s2 (aM _)) fun ⟨n1,hn1,g1⟩=>?_
 repeat refine aw (by first | exact ae _ | exact af _ | exact ab _ _ | rfl | (with_reducible decide)) ?_
 exact b8 (.of hn1 g1 (by omega))
theorem YA (h:G rd l n W k) (hk:k≤24) (hC:Cx rd S n) (hA:fa S.1=false→jv rd S.1.2.2.2.1) (hB:fa S.1=false→jv rd S.1.2.2.2.2.1) (ho:S.1.1≠10→nJ rd S.2.1 S.1.2.2.2.1) (hc:rd 16):
  res (vS (S,(l,()))) (D0 rd n (W++aW (dG S.1.1 10) S++[16]++[19]++[17]++[18]++[20]) (k+13)):=by
 repeat refine aw (by first | exact ae _ | exact af _ | exact ab _ _ | rfl | (with_reducible decide)) ?_
 refine cC (WK h hk hC hA hB ho s2 (hM (by decide) ⟨by decide,hc⟩)) fun ⟨n1,hn1,g1⟩=>?_
 repeat refine aw (by first | exact ae _ | exact af _ | exact ab _ _ | rfl | (with_reducible decide)) ?_
 exact b8 (.of hn1 g1 (by omega))
theorem X6 (h:G rd l n W k) (hk:k≤24) (hC:Cx rd S n) (hA:fa S.1=false→jv rd S.1.2.2.2.1) (hB:fa S.1=false→jv rd S.1.2.2.2.2.1) (ho:S.1.1≠10→nJ rd S.2.1 S.1.2.2.2.1):
  res (vR (S,(l,()))) (D0 rd n (W++aW (dG S.1.1 10) S++[16]++[19]++[17]++[18]++[20]) (k+13)):=by
 repeat refine aw (by first | exact ae _ | exact af _ | exact ab _ _ | rfl | (with_reducible decide)) ?_
 refine cC (WK h hk hC hA hB ho s3 (aM _)) fun ⟨n1,hn1,g1⟩=>?_
 repeat refine aw (by first | exact ae _ | exact af _ | exact ab _ _ | rfl | (with_reducible decide)) ?_
 exact b8 (.of hn1 g1 (by omega))
theorem Yz (h:G rd l n W k) (hk:k≤24) (hC:Cx rd S n) (hA:fa S.1=false→jv rd S.1.2.2.2.1) (hB:fa S.1=false→jv rd S.1.2.2.2.2.1) (ho:S.1.1≠10→nJ rd S.2.1 S.1.2.2.2.1) (hc:rd 16):
  res (vQ (S,(l,()))) (D0 rd n (W++aW (dG S.1.1 10) S++[16]++[19]++[17]++[18]++[20]) (k+13)):=by
 repeat refine aw (by first | exact ae _ | exact af _ | exact ab _ _ | rfl | (with_reducible decide)) ?_
 refine cC (WK h hk hC hA hB ho s3 (hM (by decide) ⟨by decide,hc⟩)) fun ⟨n1,hn1,g1⟩=>?_
 repeat refine aw (by first | exact ae _ | exact af _ | exact ab _ _ | rfl | (with_reducible decide)) ?_
 exact b8 (.of hn1 g1 (by omega))
theorem Yu (h:G rd l n W k) (hk:k≤24) (hC:Cx rd S n) (hA:jv rd S.1.2.2.2.1) (ho:S.1.1≠10→nJ rd S.2.1 S.1.2.2.2.1):
  res (vJ (S,(l,()))) (D0 rd n (W++aW (dG S.1.1 10) S++[16]++[19]++[17]++[18]++[20]) (k+13)):=by
 repeat refine aw (by first | exact ae _ | exact af _ | exact ab _ _ | rfl | (with_reducible decide)) ?_
 refine cC (Ey h (by omega) hC.w hA hC.a) fun ⟨n1,hn1,g1,v1⟩=>?_
 repeat refine aw (by first | exact ae _ | exact af _ | exact ab _ _ | rfl | (with_reducible decide)) ?_
 refine cC (X3 g1 (by omega) (hC.up hn1) ho s3 (aM _) v1 (aM _)) fun ⟨n2,hn2,g2⟩=>?_
 repeat refine aw (by first | exact ae _ | exact af _ | exact ab _ _ | rfl | (with_reducible decide)) ?_
 exact b8 (.of (by omega) g2 (by omega))
end Go.bz.RL
end
section
namespace Go.bz.RL
open Go.bz Go.RowKit
variable {rd:Int→Prop} {l:L} {n:Int} {W:List Int} {k:Nat} {S:St}
theorem Xi (h:G rd l n W k) (hk:k≤24) (hC:Cx rd S n) (hA:fa S.1=false→jv rd S.1.2.2.2.1) (hB:fa S.1=false→jv rd S.1.2.2.2.2.1) (ho:S.1.1≠11→nJ rd S.2.1 S.1.2.2.2.1) {op:Int} (hop:gK op):
  res (vj (S,(l,op))) (D0 rd n (W++aW (dG S.1.1 11) S++[16]++[19]++[17]++[18]++[20]) (k+11)):=by
 repeat refine aw (by first | exact ae _ | exact af _ | exact ab _ _ | rfl | (with_reducible decide)) ?_
 refine cC (Xh h (by omega) hC hA hB) fun ⟨n1,hn1,g1,v1,u1⟩=>?_
 repeat refine aw (by first | exact ae _ | exact af _ | exact ab _ _ | rfl | (with_reducible decide)) ?_
 refine dE g1 (by omega) hop hC.w (kv v1 u1) fun g2 v2=>?_
 repeat refine aw (by first | exact ae _ | exact af _ | exact ab _ _ | rfl | (with_reducible decide)) ?_
 refine dS (fun h1=>?_) fun h1=>?_
 ·have e:aW (dG S.1.1 11) S=dW S.1.2.2.2.1:=if_pos h1
  rw [e]
  repeat refine aw (by first | exact ae _ | exact af _ | exact ab _ _ | rfl | (with_reducible decide)) ?_
  refine cC (GS g2 (by omega) (hC.up (by omega)) (ho (dr.1 h1)) v2) fun ⟨n4,hn4,g4⟩=>?_
  repeat refine aw (by first | exact ae _ | exact af _ | exact ab _ _ | rfl | (with_reducible decide)) ?_
  refine cC (OZ g4 (by omega) (aM _) (aM _)) fun ⟨n5,hn5,g5⟩=>?_
  repeat refine aw (by first | exact ae _ | exact af _ | exact ab _ _ | rfl | (with_reducible decide)) ?_
  refine cC (OY g5 (by omega) hC.w (bh (by omega) v2)) fun ⟨n6,hn6,g6⟩=>?_
  repeat refine aw (by first | exact ae _ | exact af _ | exact ab _ _ | rfl | (with_reducible decide)) ?_
  exact b8 (.of (by omega) g6 (by omega))
 ·have e:aW (dG S.1.1 11) S=[]:=if_neg (by rw [show dG S.1.1 11=false from h1];simp)
  rw [e,List.append_nil]
  repeat refine aw (by first | exact ae _ | exact af _ | exact ab _ _ | rfl | (with_reducible decide)) ?_
  refine cC (OZ g2 (by omega) (aM _) (aM _)) fun ⟨n5,hn5,g5⟩=>?_
  repeat refine aw (by first | exact ae _ | exact af _ | exact ab _ _ | rfl | (with_reducible decide)) ?_
  refine cC (OY g5 (by omega) hC.w (bh (by omega) v2)) fun ⟨n6,hn6,g6⟩=>?_
  repeat refine aw (by first | exact ae _ | exact af _ | exact ab _ _ | rfl | (with_reducible decide)) ?_
  exact b8 (.of (by omega) g6 (by omega))
theorem X5 (h:G rd l n W k) (hk:k≤24) (hC:Cx rd S n) (hA:fa S.1=false→jv rd S.1.2.2.2.1) (hB:fa S.1=false→jv rd S.1.2.2.2.2.1) (ho:S.1.1≠11→nJ rd S.2.1 S.1.2.2.2.1):
  res (vP (S,(l,()))) (D0 rd n (W++aW (dG S.1.1 11) S++[16]++[19]++[17]++[18]++[20]) (k+11)):=by
 repeat refine aw (by first | exact ae _ | exact af _ | exact ab _ _ | rfl | (with_reducible decide)) ?_
 refine cC (Xi h hk hC hA hB ho ⟨by decide,by decide⟩) fun ⟨n1,hn1,g1⟩=>?_
 repeat refine aw (by first | exact ae _ | exact af _ | exact ab _ _ | rfl | (with_reducible decide)) ?_
 exact b8 (.of hn1 g1 (by omega))
theorem Yy (h:G rd l n W k) (hk:k≤24) (hC:Cx rd S n) (hA:fa S.1=false→jv rd S.1.2.2.2.1) (hB:fa S.1=false→jv rd S.1.2.2.2.2.1) (ho:S.1.1≠11→nJ rd S.2.1 S.1.2.2.2.1):
  res (vO (S,(l,()))) (D0 rd n (W++aW (dG S.1.1 11) S++[16]++[19]++[17]++[18]++[20]) (k+11)):=by
 repeat refine aw (by first | exact ae _ | exact af _ | exact ab _ _ | rfl | (with_reducible decide)) ?_
 refine cC (Xi h hk hC hA hB ho ⟨by decide,by decide⟩) fun ⟨n1,hn1,g1⟩=>?_
 repeat refine aw (by first | exact ae _ | exact af _ | exact ab _ _ | rfl | (with_reducible decide)) ?_
 exact b8 (.of hn1 g1 (by omega))
theorem Yx (h:G rd l n W k) (hk:k≤24) (hC:Cx rd S n) (hA:fa S.1=false→jv rd S.1.2.2.2.1) (hB:fa S.1=false→jv rd S.1.2.2.2.2.1) (ho:S.1.1≠11→nJ rd S.2.1 S.1.2.2.2.1):
  res (vM (S,(l,()))) (D0 rd n (W++aW (dG S.1.1 11) S++[16]++[19]++[17]++[18]++[20]) (k+11)):=by
 repeat refine aw (by first | exact ae _ | exact af _ | exact ab _ _ | rfl | (with_reducible decide)) ?_
 refine cC (Xi h hk hC hA hB ho ⟨by decide,by decide⟩) fun ⟨n1,hn1,g1⟩=>?_
 repeat refine aw (by first | exact ae _ | exact af _ | exact ab _ _ | rfl | (with_reducible decide)) ?_
 exact b8 (.of hn1 g1 (by omega))
theorem X4 (h:G rd l n W k) (hk:k≤24) (hC:Cx rd S n) (hA:jv rd S.1.2.2.2.1) (ho:nJ rd S.2.1 S.1.2.2.2.1) {op ov:Int} (hop:gK op) (hov:gK ov):
  res (vi (S,(l,(op,ov)))) (D0 rd n (W++dW S.1.2.2.2.1++[19]++[17]++[18]++[20]) (k+10)):=by
 repeat refine aw (by first | exact ae _ | exact af _ | exact ab _ _ | rfl | (with_reducible decide)) ?_
 refine cC (Ey h (by omega) hC.w hA hC.a) fun ⟨n1,hn1,g1,v1⟩=>?_
 repeat refine aw (by first | exact ae _ | exact af _ | exact ab _ _ | rfl | (with_reducible decide)) ?_
 refine dE g1 (by omega) hop hC.w (kv v1 (aM _)) fun g2 v2=>?_
 repeat refine aw (by first | exact ae _ | exact af _ | exact ab _ _ | rfl | (with_reducible decide)) ?_
 refine dE g2 (by omega) hov hC.w (kv (bh (by omega) v1) (aM _)) fun g3 v3=>?_
 repeat refine aw (by first | exact ae _ | exact af _ | exact ab _ _ | rfl | (with_reducible decide)) ?_
 refine cC (GS g3 (by omega) (hC.up (by omega)) ho (bh (by omega) v2)) fun ⟨n4,hn4,g4⟩=>?_
 repeat refine aw (by first | exact ae _ | exact af _ | exact ab _ _ | rfl | (with_reducible decide)) ?_
 refine JE g4 (by omega) ⟨by decide,by decide⟩ w1 ⟨by decide,by decide⟩ (xD (bh (by omega) v3)) fun g5=>?_
 repeat refine aw (by first | exact ae _ | exact af _ | exact ab _ _ | rfl | (with_reducible decide)) ?_
 refine cC (OY g5 (by omega) hC.w (bh (by omega) v2)) fun ⟨n6,hn6,g6⟩=>?_
 repeat refine aw (by first | exact ae _ | exact af _ | exact ab _ _ | rfl | (with_reducible decide)) ?_
 exact b8 (.of (by omega) g6 (by omega))
theorem Yw (h:G rd l n W k) (hk:k≤24) (hC:Cx rd S n) (hA:jv rd S.1.2.2.2.1) (ho:nJ rd S.2.1 S.1.2.2.2.1):res (vL (S,(l,()))) (D0 rd n (W++dW S.1.2.2.2.1++[19]++[17]++[18]++[20]) (k+10)):=by
 repeat refine aw (by first | exact ae _ | exact af _ | exact ab _ _ | rfl | (with_reducible decide)) ?_
 refine cC (X4 h hk hC hA ho ⟨by decide,by decide⟩ ⟨by decide,by decide⟩) fun ⟨n1,hn1,g1⟩=>?_
 repeat refine aw (by first | exact ae _ | exact af _ | exact ab _ _ | rfl | (with_reducible decide)) ?_
 exact b8 (.of hn1 g1 (by omega))
theorem Yv (h:G rd l n W k) (hk:k≤24) (hC:Cx rd S n) (hA:jv rd S.1.2.2.2.1) (ho:nJ rd S.2.1 S.1.2.2.2.1):res (vK (S,(l,()))) (D0 rd n (W++dW S.1.2.2.2.1++[19]++[17]++[18]++[20]) (k+10)):=by
 repeat refine aw (by first | exact ae _ | exact af _ | exact ab _ _ | rfl | (with_reducible decide)) ?_
 refine cC (X4 h hk hC hA ho ⟨by decide,by decide⟩ ⟨by decide,by decide⟩) fun ⟨n1,hn1,g1⟩=>?_
 repeat refine aw (by first | exact ae _ | exact af _ | exact ab _ _ | rfl | (with_reducible decide)) ?_
 exact b8 (.of hn1 g1 (by omega))
theorem Yt (h:G rd l n W k) (hk:k≤24) (hC:Cx rd S n) (hA:jv rd S.1.2.2.2.1) (ho:nJ rd S.2.1 S.1.2.2.2.1):res (vI (S,(l,()))) (D0 rd n (W++dW S.1.2.2.2.1) (k+5)):=by
 repeat refine aw (by first | exact ae _ | exact af _ | exact ab _ _ | rfl | (with_reducible decide)) ?_
 refine cC (Ey h (by omega) hC.w hA hC.a) fun ⟨n1,hn1,g1,v1⟩=>?_
 repeat refine aw (by first | exact ae _ | exact af _ | exact ab _ _ | rfl | (with_reducible decide)) ?_
 refine aw (Cu _) ?_
 repeat refine aw (by first | exact ae _ | exact af _ | exact ab _ _ | rfl | (with_reducible decide)) ?_
 refine dE g1 (by omega) ⟨by decide,by decide⟩ hC.w (kv v1 (aM _)) fun g2 v2=>?_
 repeat refine aw (by first | exact ae _ | exact af _ | exact ab _ _ | rfl | (with_reducible decide)) ?_
 refine cC (GS g2 (by omega) (hC.up (by omega)) ho v2) fun ⟨n4,hn4,g4⟩=>?_
 repeat refine aw (by first | exact ae _ | exact af _ | exact ab _ _ | rfl | (with_reducible decide)) ?_
 exact b8 (.of (by omega) g4 (by omega))
theorem Yn (h:G rd l n W k) (hk:k≤22) (hC:Cx rd S n) (hA:fa S.1=false→jv rd S.1.2.2.2.1) (hB:fa S.1=false→jv rd S.1.2.2.2.2.1) (ho:nJ rd S.2.1 S.1.2.2.2.1):
  res (vB (S,(l,()))) (D0 rd n (W++dW S.1.2.2.2.1++[16]++[19]++[17]++[18]++[20]) (k+12)):=by
 repeat refine aw (by first | exact ae _ | exact af _ | exact ab _ _ | rfl | (with_reducible decide)) ?_
 refine cC (Xh h (by omega) hC hA hB) fun ⟨n1,hn1,g1,v1,u1⟩=>?_
 repeat refine aw (by first | exact ae _ | exact af _ | exact ab _ _ | rfl | (with_reducible decide)) ?_
 refine dE g1 (by omega) ⟨by decide,by decide⟩ hC.w (kv v1 u1) fun g2 v2=>?_
 repeat refine aw (by first | exact ae _ | exact af _ | exact ab _ _ | rfl | (with_reducible decide)) ?_
 refine dE g2 (by omega) ⟨by decide,by decide⟩ hC.w (kv (bh (by omega) v1) (bh (by omega) u1)) fun g3 v3=>?_
 repeat refine aw (by first | exact ae _ | exact af _ | exact ab _ _ | rfl | (with_reducible decide)) ?_
 refine cC (GS g3 (by omega) (hC.up (by omega)) ho (bh (by omega) v2)) fun ⟨n4,hn4,g4⟩=>?_
 repeat refine aw (by first | exact ae _ | exact af _ | exact ab _ _ | rfl | (with_reducible decide)) ?_
 refine cC (OZ g4 (by omega) (bh (by omega) v3) (bh (by omega) v3)) fun ⟨n5,hn5,g5⟩=>?_
 repeat refine aw (by first | exact ae _ | exact af _ | exact ab _ _ | rfl | (with_reducible decide)) ?_
 refine cC (OY g5 (by omega) hC.w (bh (by omega) v2)) fun ⟨n6,hn6,g6⟩=>?_
 repeat refine aw (by first | exact ae _ | exact af _ | exact ab _ _ | rfl | (with_reducible decide)) ?_
 exact b8 (.of (by omega) g6 (by omega))
theorem X2 (h:G rd l n W k) (hk:k≤900) (hw:1≤S.2.1∧S.2.1≤8) {a b:aF} (ha:gv rd n a) (hb:gv rd n b):res (vb (S,(l,(a,b)))) (D0 rd n (W++[0]++[2]) (k+2)):=by
 repeat refine aw (by first | exact ae _ | exact af _ | exact ab _ _ | rfl | (with_reducible decide)) ?_
 refine JE h (by omega) ⟨by decide,by decide⟩ hw ⟨by decide,by decide⟩ (xD ha) fun g1=>?_
 repeat refine aw (by first | exact ae _ | exact af _ | exact ab _ _ | rfl | (with_reducible decide)) ?_
 refine JE g1 (by omega) ⟨by decide,by decide⟩ hw ⟨by decide,by decide⟩ (xD hb) fun g2=>?_
 repeat refine aw (by first | exact ae _ | exact af _ | exact ab _ _ | rfl | (with_reducible decide)) ?_
 exact b8 (.of (by omega) g2 (by omega))
theorem Ym (h:G rd l n W k) (hk:k≤22) (hC:Cx rd S n) (hA:jv rd S.1.2.2.2.1) (h0:rd 0):res (vz (S,(l,()))) (D0 rd n (W++[0]++[2]++[16]++[19]++[17]++[18]++[20]) (k+12)):=by
 have hv0:∀ {n:Int},gv rd n (cl 0):=hM (by decide) ⟨by decide,h0⟩
 repeat refine aw (by first | exact ae _ | exact af _ | exact ab _ _ | rfl | (with_reducible decide)) ?_
 refine cC (Ey h (by omega) hC.w hA hC.a) fun ⟨n1,hn1,g1,v1⟩=>?_
 repeat refine aw (by first | exact ae _ | exact af _ | exact ab _ _ | rfl | (with_reducible decide)) ?_
 refine dE g1 (by omega) ⟨by decide,by decide⟩ hC.w (kv hv0 v1) fun g2 v2=>?_
 repeat refine aw (by first | exact ae _ | exact af _ | exact ab _ _ | rfl | (with_reducible decide)) ?_
 refine dE g2 (by omega) ⟨by decide,by decide⟩ hC.w (kv hv0 (bh (by omega) v1)) fun g3 v3=>?_
 repeat refine aw (by first | exact ae _ | exact af _ | exact ab _ _ | rfl | (with_reducible decide)) ?_
 refine dE g3 (by omega) ⟨by decide,by decide⟩ hC.w (xD v3) fun g4 v4=>?_
 repeat refine aw (by first | exact ae _ | exact af _ | exact ab _ _ | rfl | (with_reducible decide)) ?_
 refine dE g4 (by omega) ⟨by decide,by decide⟩ w1 (kv v4 (aM _)) fun g5 v5=>?_
 repeat refine aw (by first | exact ae _ | exact af _ | exact ab _ _ | rfl | (with_reducible decide)) ?_
 refine cC (X2 g5 (by omega) hC.w (bh (by omega) v2) (bh (by omega) v3)) fun ⟨n6,hn6,g6⟩=>?_
 repeat refine aw (by first | exact ae _ | exact af _ | exact ab _ _ | rfl | (with_reducible decide)) ?_
 refine cC (OZ g6 (by omega) (bh (by omega) v5) (bh (by omega) v5)) fun ⟨n7,hn7,g7⟩=>?_
 repeat refine aw (by first | exact ae _ | exact af _ | exact ab _ _ | rfl | (with_reducible decide)) ?_
 refine cC (OY g7 (by omega) hC.w (bh (by omega) v2)) fun ⟨n8,hn8,g8⟩=>?_
 repeat refine aw (by first | exact ae _ | exact af _ | exact ab _ _ | rfl | (with_reducible decide)) ?_
 exact b8 (.of (by omega) g8 (by omega))
theorem Yl (h:G rd l n W k) (hk:k≤22) (hC:Cx rd S n) (hA:jv rd S.1.2.2.2.1) (h0:rd 0) (h2:rd 2):res (vy (S,(l,()))) (D0 rd n (W++[0]++[2]) (k+6)):=by
 have hv0:∀ {n:Int},gv rd n (cl 0):=hM (by decide) ⟨by decide,h0⟩
 have hv2:∀ {n:Int},gv rd n (cl 2):=hM (by decide) ⟨by decide,h2⟩
 repeat refine aw (by first | exact ae _ | exact af _ | exact ab _ _ | rfl | (with_reducible decide)) ?_
 refine cC (Ey h (by omega) hC.w hA hC.a) fun ⟨n1,hn1,g1,v1⟩=>?_
 repeat refine aw (by first | exact ae _ | exact af _ | exact ab _ _ | rfl | (with_reducible decide)) ?_
 refine XC g1 (by omega) (.inr rfl) hC.w (PG hv0 v1 hv2) fun g2=>?_
 repeat refine aw (by first | exact ae _ | exact af _ | exact ab _ _ | rfl | (with_reducible decide)) ?_
 refine dE g2 (by omega) ⟨by decide,by decide⟩ hC.w (PG hv0 (bh (by omega) v1) hv2) fun g3 v3=>?_
 repeat refine aw (by first | exact ae _ | exact af _ | exact ab _ _ | rfl | (with_reducible decide)) ?_
 refine dE g3 (by omega) ⟨by decide,by decide⟩ hC.w (PG hv0 (bh (by omega) v1) hv2) fun g4 v4=>?_
 repeat refine aw (by first | exact ae _ | exact af _ | exact ab _ _ | rfl | (with_reducible decide)) ?_
 refine cC (X2 g4 (by omega) hC.w (bh (by omega) v3) (bh (by omega) v4)) fun ⟨n6,hn6,g6⟩=>?_
 repeat refine aw (by first | exact ae _ | exact af _ | exact ab _ _ | rfl | (with_reducible decide)) ?_
 exact b8 (.of (by omega) g6 (by omega))
theorem X1 (h:G rd l n W k) (hk:k≤28) (h4:rd 4) {v:aF} (hv:gv rd n v):res (va (S,(l,v))) (D0 rd n (W++[4]) (k+3)):=by
 have hv4:∀ {n:Int},gv rd n (cl 4):=hM (by decide) ⟨by decide,h4⟩
 repeat refine aw (by first | exact ae _ | exact af _ | exact ab _ _ | rfl | (with_reducible decide)) ?_
 refine dE h (by omega) ⟨by decide,by decide⟩ w8 (kv hv4 (aM _)) fun g1 v1=>?_
 repeat refine aw (by first | exact ae _ | exact af _ | exact ab _ _ | rfl | (with_reducible decide)) ?_
 refine XC g1 (by omega) (.inl rfl) w8 (kv v1 (bh (by omega) hv)) fun g2=>?_
 repeat refine aw (by first | exact ae _ | exact af _ | exact ab _ _ | rfl | (with_reducible decide)) ?_
 refine JE g2 (by omega) ⟨by decide,by decide⟩ w8 ⟨by decide,by decide⟩ (xD v1) fun g3=>?_
 repeat refine aw (by first | exact ae _ | exact af _ | exact ab _ _ | rfl | (with_reducible decide)) ?_
 exact b8 (.of (by omega) g3 (by omega))
theorem Yk (h:G rd l n W k) (hk:k≤27) (hC:Cx rd S n) (hA:jv rd S.1.2.2.2.1) (h4:rd 4):res (vx (S,(l,()))) (D0 rd n (W++[4]) (k+4)):=by
 repeat refine aw (by first | exact ae _ | exact af _ | exact ab _ _ | rfl | (with_reducible decide)) ?_
 refine cC (Ey h (by omega) w8 hA hC.a) fun ⟨n1,hn1,g1,v1⟩=>?_
 repeat refine aw (by first | exact ae _ | exact af _ | exact ab _ _ | rfl | (with_reducible decide)) ?_
 refine cC (X1 g1 (by omega) h4 v1) fun ⟨n2,hn2,g2⟩=>?_
 repeat refine aw (by first | exact ae _ | exact af _ | exact ab _ _ | rfl | (with_reducible decide)) ?_
 exact b8 (.of (by omega) g2 (by omega))
theorem XZ (h:G rd l n W k) (hk:k≤28) (h4:rd 4):res (u7 (S,(l,()))) (D1 rd n (W++[4]) (k+3)):=by
 have hv4:∀ {n:Int},gv rd n (cl 4):=hM (by decide) ⟨by decide,h4⟩
 repeat refine aw (by first | exact ae _ | exact af _ | exact ab _ _ | rfl | (with_reducible decide)) ?_
 refine dE h (by omega) ⟨by decide,by decide⟩ w8 (xD hv4) fun g1 v1=>?_
 repeat refine aw (by first | exact ae _ | exact af _ | exact ab _ _ | rfl | (with_reducible decide)) ?_
 refine dE g1 (by omega) ⟨by decide,by decide⟩ w8 (kv hv4 (aM _)) fun g2 v2=>?_
 repeat refine aw (by first | exact ae _ | exact af _ | exact ab _ _ | rfl | (with_reducible decide)) ?_
 refine JE g2 (by omega) ⟨by decide,by decide⟩ w8 ⟨by decide,by decide⟩ (xD v2) fun g3=>?_
 repeat refine aw (by first | exact ae _ | exact af _ | exact ab _ _ | rfl | (with_reducible decide)) ?_
 exact b8 (.of (by omega) g3 (bh (by omega) v1) (by omega))
theorem Yj (h:G rd l n W k) (hk:k≤22) (hC:Cx rd S n) (ho:nJ rd 8 S.1.2.2.2.1) (h4:rd 4):res (vu (S,(l,()))) (D0 rd n (W++[4]++dW S.1.2.2.2.1) (k+6)):=by
 repeat refine aw (by first | exact ae _ | exact af _ | exact ab _ _ | rfl | (with_reducible decide)) ?_
 refine cC (XZ h (by omega) h4) fun ⟨n1,hn1,g1,v1⟩=>?_
 repeat refine aw (by first | exact ae _ | exact af _ | exact ab _ _ | rfl | (with_reducible decide)) ?_
 refine cC (X0 g1 (by omega) w8 ho (bh hn1 hC.a) v1) fun ⟨n2,hn2,g2⟩=>?_
 repeat refine aw (by first | exact ae _ | exact af _ | exact ab _ _ | rfl | (with_reducible decide)) ?_
 exact b8 (.of (by omega) g2 (by omega))
theorem Xg (h:G rd l n W k):res (u6 (S,(l,()))) (D1 rd n W k):=by
 repeat refine aw (by first | exact ae _ | exact af _ | exact ab _ _ | rfl | (with_reducible decide)) ?_
 exact b8 (.of (by omega) h (aM _) (by omega))
theorem YD (h:G rd l n W k) (hk:k≤27) (hC:Cx rd S n) (hB:jv rd S.1.2.2.2.2.1) (ho:nJ rd S.2.1 S.1.2.2.2.1):res (vW (S,(l,()))) (D0 rd n (W++dW S.1.2.2.2.1) (k+4)):=by
 repeat refine aw (by first | exact ae _ | exact af _ | exact ab _ _ | rfl | (with_reducible decide)) ?_
 refine cC (Ey h (by omega) hC.w hB hC.b) fun ⟨n1,hn1,g1,v1⟩=>?_
 repeat refine aw (by first | exact ae _ | exact af _ | exact ab _ _ | rfl | (with_reducible decide)) ?_
 refine cC (GS g1 (by omega) (hC.up hn1) ho v1) fun ⟨n2,hn2,g2⟩=>?_
 repeat refine aw (by first | exact ae _ | exact af _ | exact ab _ _ | rfl | (with_reducible decide)) ?_
 exact b8 (.of (by omega) g2 (by omega))
theorem YC (h:G rd l n W k) (hk:k≤27) (hC:Cx rd S n) (ho:nJ rd S.2.1 S.1.2.2.2.1):res (vV (S,(l,()))) (D0 rd n (W++dW S.1.2.2.2.1) (k+3)):=by
 repeat refine aw (by first | exact ae _ | exact af _ | exact ab _ _ | rfl | (with_reducible decide)) ?_
 refine cC (GS h (by omega) hC ho hC.b) fun ⟨n2,hn2,g2⟩=>?_
 repeat refine aw (by first | exact ae _ | exact af _ | exact ab _ _ | rfl | (with_reducible decide)) ?_
 exact b8 (.of (by omega) g2 (by omega))
theorem Yg (h:G rd l n W k) (hk:k≤26) (hC:Cx rd S n) (hB:jv rd S.1.2.2.2.2.1) (ho:nJ rd S.2.1 S.1.2.2.2.1):res (vp (S,(l,()))) (D0 rd n (W++dW S.1.2.2.2.1) (k+5)):=by
 repeat refine aw (by first | exact ae _ | exact af _ | exact ab _ _ | rfl | (with_reducible decide)) ?_
 refine cC (Ey h (by omega) w1 hB hC.b) fun ⟨n1,hn1,g1,v1⟩=>?_
 repeat refine aw (by first | exact ae _ | exact af _ | exact ab _ _ | rfl | (with_reducible decide)) ?_
 refine dE g1 (by omega) ⟨by decide,by decide⟩ w1 (xD v1) fun g2 v2=>?_
 repeat refine aw (by first | exact ae _ | exact af _ | exact ab _ _ | rfl | (with_reducible decide)) ?_
 refine cC (GS g2 (by omega) (hC.up (by omega)) ho v2) fun ⟨n3,hn3,g3⟩=>?_
 repeat refine aw (by first | exact ae _ | exact af _ | exact ab _ _ | rfl | (with_reducible decide)) ?_
 exact b8 (.of (by omega) g3 (by omega))
theorem Yf (h:G rd l n W k) (hk:k≤26) (hC:Cx rd S n) (hB:jv rd S.1.2.2.2.2.1) (ho:nJ rd S.2.1 S.1.2.2.2.1):res (vo (S,(l,()))) (D0 rd n (W++dW S.1.2.2.2.1) (k+5)):=by
 repeat refine aw (by first | exact ae _ | exact af _ | exact ab _ _ | rfl | (with_reducible decide)) ?_
 refine cC (Ey h (by omega) w1 hB hC.b) fun ⟨n1,hn1,g1,v1⟩=>?_
 repeat refine aw (by first | exact ae _ | exact af _ | exact ab _ _ | rfl | (with_reducible decide)) ?_
 refine dE g1 (by omega) ⟨by decide,by decide⟩ w1 (xD v1) fun g2 v2=>?_
 repeat refine aw (by first | exact ae _ | exact af _ | exact ab _ _ | rfl | (with_reducible decide)) ?_
 refine cC (GS g2 (by omega) (hC.up (by omega)) ho v2) fun ⟨n3,hn3,g3⟩=>?_
 repeat refine aw (by first | exact ae _ | exact af _ | exact ab _ _ | rfl | (with_reducible decide)) ?_
 exact b8 (.of (by omega) g3 (by omega))
end Go.bz.RL
end
section
namespace Go.bz.RL
open Go.bz Go.RowKit
variable {rd:Int→Prop} {l:L} {n:Int} {W:List Int} {k:Nat} {S:St}
theorem xH (h:G rd l n W k) (hk:k≤31) {op:Int} {a b:aF} (hop:gK op) (ha:gv rd n a) (hb:gv rd n b):res (oP (S,(l,(op,(a,b))))) (D1 rd n W (k+1)):=by
 repeat refine aw (by first | exact ae _ | exact af _ | exact ab _ _ | rfl | (with_reducible decide)) ?_
 refine dE h (by omega) hop w1 (kv ha hb) fun g1 v1=>?_
 repeat refine aw (by first | exact ae _ | exact af _ | exact ab _ _ | rfl | (with_reducible decide)) ?_
 exact b8 (.of (by omega) g1 v1 (by omega))
def cN (cc:Int):Int:=cond (ak cc 0) 19 (cond (ak cc 2) 16 (cond (ak cc 4) 17 (cond (ak cc 8) 18 (cond (ak cc 10) 20 0))))
theorem Wq (cc:Int):0≤cN cc∧cN cc≤20:=by
 unfold cN
 cases ak cc 0<;>cases ak cc 2<;>cases ak cc 4<;>cases ak cc 8<;>cases ak cc 10<;>decide
structure WB (rd:Int→Prop) (cc:Int):Prop where
 a:cc=6→rd 16∧rd 17
 l:cc=12→rd 18∧rd 19
 g:cc=14→rd 17∧rd 18∧rd 19
 s:cc≠6→cc≠12→cc≠14→rd (cN cc)
theorem s9:gK 9:=⟨by decide,by decide⟩
theorem SP:gK 10:=⟨by decide,by decide⟩
theorem XX:gK 25:=⟨by decide,by decide⟩
theorem Xf (h:G rd l n W k) (hk:k≤27) (hc:WB rd (jZ .u8 S.1.2.1 1)):res (u5 (S,(l,()))) (D1 rd n W (k+4)):=by
 have fl:∀ {c n:Int},0≤c→c≤20→rd c→gv rd n (cl c):=fun h1 h2 h3=>hM h1 ⟨h2,h3⟩
 repeat refine aw (by first | exact ae _ | exact af _ | exact ab _ _ | rfl | (with_reducible decide)) ?_
 refine dS (fun h1=>?_) fun h1=>?_
 ·have hr:=hc.a (al.1 h1)
  repeat refine aw (by first | exact ae _ | exact af _ | exact ab _ _ | rfl | (with_reducible decide)) ?_
  refine cC (xH h (by omega) s9 (fl (by decide) (by decide) hr.1) (fl (by decide) (by decide) hr.2)) fun ⟨n1,hn1,g1,v1⟩=>?_
  repeat refine aw (by first | exact ae _ | exact af _ | exact ab _ _ | rfl | (with_reducible decide)) ?_
  refine dS (fun _=>?_) fun _=>?_
  ·repeat refine aw (by first | exact ae _ | exact af _ | exact ab _ _ | rfl | (with_reducible decide)) ?_
   refine cC (xH g1 (by omega) SP v1 (aM _)) fun ⟨n2,hn2,g2,v2⟩=>?_
   repeat refine aw (by first | exact ae _ | exact af _ | exact ab _ _ | rfl | (with_reducible decide)) ?_
   exact b8 (.of (by omega) g2 v2 (by omega))
  ·repeat refine aw (by first | exact ae _ | exact af _ | exact ab _ _ | rfl | (with_reducible decide)) ?_
   exact b8 (.of (by omega) g1 v1 (by omega))
 repeat refine aw (by first | exact ae _ | exact af _ | exact ab _ _ | rfl | (with_reducible decide)) ?_
 refine dS (fun h2=>?_) fun h2=>?_
 ·have hr:=hc.l (al.1 h2)
  repeat refine aw (by first | exact ae _ | exact af _ | exact ab _ _ | rfl | (with_reducible decide)) ?_
  refine cC (xH h (by omega) XX (fl (by decide) (by decide) hr.1) (fl (by decide) (by decide) hr.2)) fun ⟨n1,hn1,g1,v1⟩=>?_
  repeat refine aw (by first | exact ae _ | exact af _ | exact ab _ _ | rfl | (with_reducible decide)) ?_
  refine cC (xH g1 (by omega) SP v1 (aM _)) fun ⟨n2,hn2,g2,v2⟩=>?_
  repeat refine aw (by first | exact ae _ | exact af _ | exact ab _ _ | rfl | (with_reducible decide)) ?_
  refine dS (fun h3=>?_) fun _=>?_
  ·exact absurd ((al.1 h2).symm.trans (al.1 h3)) (by decide)
  repeat refine aw (by first | exact ae _ | exact af _ | exact ab _ _ | rfl | (with_reducible decide)) ?_
  refine dS (fun _=>?_) fun _=>?_
  ·repeat refine aw (by first | exact ae _ | exact af _ | exact ab _ _ | rfl | (with_reducible decide)) ?_
   refine cC (xH g2 (by omega) SP v2 (aM _)) fun ⟨n3,hn3,g3,v3⟩=>?_
   repeat refine aw (by first | exact ae _ | exact af _ | exact ab _ _ | rfl | (with_reducible decide)) ?_
   exact b8 (.of (by omega) g3 v3 (by omega))
  ·repeat refine aw (by first | exact ae _ | exact af _ | exact ab _ _ | rfl | (with_reducible decide)) ?_
   exact b8 (.of (by omega) g2 v2 (by omega))
 repeat refine aw (by first | exact ae _ | exact af _ | exact ab _ _ | rfl | (with_reducible decide)) ?_
 refine dS (fun h3=>?_) fun h3=>?_
 ·have hr:=hc.g (al.1 h3)
  repeat refine aw (by first | exact ae _ | exact af _ | exact ab _ _ | rfl | (with_reducible decide)) ?_
  refine cC (xH h (by omega) XX (fl (by decide) (by decide) hr.2.1) (fl (by decide) (by decide) hr.2.2)) fun ⟨n1,hn1,g1,v1⟩=>?_
  repeat refine aw (by first | exact ae _ | exact af _ | exact ab _ _ | rfl | (with_reducible decide)) ?_
  refine cC (xH g1 (by omega) SP v1 (aM _)) fun ⟨n2,hn2,g2,v2⟩=>?_
  repeat refine aw (by first | exact ae _ | exact af _ | exact ab _ _ | rfl | (with_reducible decide)) ?_
  refine dS (fun _=>?_) fun h4=>?_
  ·repeat refine aw (by first | exact ae _ | exact af _ | exact ab _ _ | rfl | (with_reducible decide)) ?_
   refine cC (xH g2 (by omega) s9 (fl (by decide) (by decide) hr.1) v2) fun ⟨n3,hn3,g3,v3⟩=>?_
   repeat refine aw (by first | exact ae _ | exact af _ | exact ab _ _ | rfl | (with_reducible decide)) ?_
   refine dS (fun _=>?_) fun _=>?_
   ·repeat refine aw (by first | exact ae _ | exact af _ | exact ab _ _ | rfl | (with_reducible decide)) ?_
    refine cC (xH g3 (by omega) SP v3 (aM _)) fun ⟨n4,hn4,g4,v4⟩=>?_
    repeat refine aw (by first | exact ae _ | exact af _ | exact ab _ _ | rfl | (with_reducible decide)) ?_
    exact b8 (.of (by omega) g4 v4 (by omega))
   ·repeat refine aw (by first | exact ae _ | exact af _ | exact ab _ _ | rfl | (with_reducible decide)) ?_
    exact b8 (.of (by omega) g3 v3 (by omega))
  ·exact absurd (h3.symm.trans h4) (by decide)
 ·have hr:=hc.s (bS.1 h1) (bS.1 h2) (bS.1 h3)
  have hle:=Wq (jZ .u8 S.1.2.1 1)
  repeat refine aw (by first | exact ae _ | exact af _ | exact ab _ _ | rfl | (with_reducible decide)) ?_
  refine dS (fun _=>?_) fun _=>?_
  ·repeat refine aw (by first | exact ae _ | exact af _ | exact ab _ _ | rfl | (with_reducible decide)) ?_
   refine cC (xH h (by omega) SP (fl hle.1 hle.2 hr) (aM _)) fun ⟨n1,hn1,g1,v1⟩=>?_
   repeat refine aw (by first | exact ae _ | exact af _ | exact ab _ _ | rfl | (with_reducible decide)) ?_
   exact b8 (.of (by omega) g1 v1 (by omega))
  ·repeat refine aw (by first | exact ae _ | exact af _ | exact ab _ _ | rfl | (with_reducible decide)) ?_
   exact b8 (.of (by omega) h (fl hle.1 hle.2 hr) (by omega))
theorem Yi (h:G rd l n W k) (hk:k≤22) (hC:Cx rd S n) (hA:jv rd S.1.2.2.2.1) (hB:jv rd S.1.2.2.2.2.1) (hc:WB rd (jZ .u8 S.1.2.1 1)) (ho:nJ rd S.2.1 S.1.2.2.2.1):res (vt (S,(l,()))) (D0 rd n (W++dW S.1.2.2.2.1) (k+10)):=by
 repeat refine aw (by first | exact ae _ | exact af _ | exact ab _ _ | rfl | (with_reducible decide)) ?_
 refine cC (Ey h (by omega) hC.w hA hC.a) fun ⟨n1,hn1,g1,v1⟩=>?_
 repeat refine aw (by first | exact ae _ | exact af _ | exact ab _ _ | rfl | (with_reducible decide)) ?_
 refine cC (Ey g1 (by omega) hC.w hB (bh hn1 hC.b)) fun ⟨n2,hn2,g2,v2⟩=>?_
 repeat refine aw (by first | exact ae _ | exact af _ | exact ab _ _ | rfl | (with_reducible decide)) ?_
 refine cC (Xf g2 (by omega) hc) fun ⟨n3,hn3,g3,v3⟩=>?_
 repeat refine aw (by first | exact ae _ | exact af _ | exact ab _ _ | rfl | (with_reducible decide)) ?_
 refine dE g3 (by omega) ⟨by decide,by decide⟩ w8 (PG (bh (by omega) v2) (bh (by omega) v1) v3) fun g4 v4=>?_
 repeat refine aw (by first | exact ae _ | exact af _ | exact ab _ _ | rfl | (with_reducible decide)) ?_
 refine cC (GS g4 (by omega) (hC.up (by omega)) ho v4) fun ⟨n5,hn5,g5⟩=>?_
 repeat refine aw (by first | exact ae _ | exact af _ | exact ab _ _ | rfl | (with_reducible decide)) ?_
 exact b8 (.of (by omega) g5 (by omega))
theorem Yh (h:G rd l n W k) (hk:k≤22) (hC:Cx rd S n) (hc:WB rd (jZ .u8 S.1.2.1 1)) (ho:nJ rd S.2.1 S.1.2.2.2.1):res (vq (S,(l,()))) (D0 rd n (W++dW S.1.2.2.2.1) (k+7)):=by
 repeat refine aw (by first | exact ae _ | exact af _ | exact ab _ _ | rfl | (with_reducible decide)) ?_
 refine cC (Xf h (by omega) hc) fun ⟨n3,hn3,g3,v3⟩=>?_
 repeat refine aw (by first | exact ae _ | exact af _ | exact ab _ _ | rfl | (with_reducible decide)) ?_
 refine cC (GS g3 (by omega) (hC.up (by omega)) ho v3) fun ⟨n5,hn5,g5⟩=>?_
 repeat refine aw (by first | exact ae _ | exact af _ | exact ab _ _ | rfl | (with_reducible decide)) ?_
 exact b8 (.of (by omega) g5 (by omega))
theorem Rc (h:G rd l n W k) (hk:k≤31) {a b c:aF} (ha:gv rd n a) (hb:gv rd n b):res (oN (S,(l,(a,(b,c))))) (D1 rd n W (k+1)):=by
 repeat refine aw (by first | exact ae _ | exact af _ | exact ab _ _ | rfl | (with_reducible decide)) ?_
 refine dS (fun _=>?_) fun _=>?_
 ·repeat refine aw (by first | exact ae _ | exact af _ | exact ab _ _ | rfl | (with_reducible decide)) ?_
  exact b8 (.of (by omega) h (aM _) (by omega))
 ·repeat refine aw (by first | exact ae _ | exact af _ | exact ab _ _ | rfl | (with_reducible decide)) ?_
  refine dE h (by omega) ⟨by decide,by decide⟩ w1 (kv ha hb) fun g1 v1=>?_
  repeat refine aw (by first | exact ae _ | exact af _ | exact ab _ _ | rfl | (with_reducible decide)) ?_
  exact b8 (.of (by omega) g1 v1 (by omega))
theorem NN (h:G rd l n W k) (hk:k≤31) {a:aF} (ha:gv rd n a):res (oM (S,(l,a))) (D1 rd n W (k+1)):=by
 repeat refine aw (by first | exact ae _ | exact af _ | exact ab _ _ | rfl | (with_reducible decide)) ?_
 refine dE h (by omega) ⟨by decide,by decide⟩ w1 (kv ha (aM _)) fun g1 v1=>?_
 repeat refine aw (by first | exact ae _ | exact af _ | exact ab _ _ | rfl | (with_reducible decide)) ?_
 exact b8 (.of (by omega) g1 v1 (by omega))
theorem Lg (h:G rd l n W k) (hk:k≤31) (hw:1≤S.2.1∧S.2.1≤8) {a:aF} (ha:gv rd n a):res (oK (S,(l,a))) (D1 rd n W (k+1)):=by
 repeat refine aw (by first | exact ae _ | exact af _ | exact ab _ _ | rfl | (with_reducible decide)) ?_
 refine dE h (by omega) ⟨by decide,by decide⟩ hw (xD ha) fun g1 v1=>?_
 repeat refine aw (by first | exact ae _ | exact af _ | exact ab _ _ | rfl | (with_reducible decide)) ?_
 exact b8 (.of (by omega) g1 v1 (by omega))
theorem U8 (h:G rd l n W k) (hk:k≤26) (hw:1≤S.2.1∧S.2.1≤8) {x r c:aF} (hx:gv rd n x) (hr:gv rd n r) (hc:gv rd n c):res (oR (S,(l,(x,(r,c))))) (D2 rd n W (k+5)):=by
 repeat refine aw (by first | exact ae _ | exact af _ | exact ab _ _ | rfl | (with_reducible decide)) ?_
 refine dS (fun _=>?_) fun _=>dS (fun _=>?_) fun _=>dS (fun _=>?_) fun _=>dS (fun _=>?_) fun _=>?_
 ·repeat refine aw (by first | exact ae _ | exact af _ | exact ab _ _ | rfl | (with_reducible decide)) ?_
  refine cC (Rc h (by omega) (aM _) hc) fun ⟨n1,hn1,g1,v1⟩=>?_
  repeat refine aw (by first | exact ae _ | exact af _ | exact ab _ _ | rfl | (with_reducible decide)) ?_
  refine dE g1 (by omega) ⟨by decide,by decide⟩ hw (kv (bh hn1 hx) v1) fun g2 v2=>?_
  repeat refine aw (by first | exact ae _ | exact af _ | exact ab _ _ | rfl | (with_reducible decide)) ?_
  refine cC (NN g2 (by omega) v2) fun ⟨n3,hn3,g3,v3⟩=>?_
  repeat refine aw (by first | exact ae _ | exact af _ | exact ab _ _ | rfl | (with_reducible decide)) ?_
  refine cC (Lg g3 (by omega) hw (bh (by omega) hr)) fun ⟨n4,hn4,g4,v4⟩=>?_
  repeat refine aw (by first | exact ae _ | exact af _ | exact ab _ _ | rfl | (with_reducible decide)) ?_
  refine dE g4 (by omega) ⟨by decide,by decide⟩ w1 (kv v4 (bh hn4 v3)) fun g5 v5=>?_
  repeat refine aw (by first | exact ae _ | exact af _ | exact ab _ _ | rfl | (with_reducible decide)) ?_
  exact b8 (.of (by omega) g5 (bh (by omega) v3) v5 (by omega))
 ·repeat refine aw (by first | exact ae _ | exact af _ | exact ab _ _ | rfl | (with_reducible decide)) ?_
  refine cC (Rc h (by omega) hc (aM _)) fun ⟨n1,hn1,g1,v1⟩=>?_
  repeat refine aw (by first | exact ae _ | exact af _ | exact ab _ _ | rfl | (with_reducible decide)) ?_
  refine dE g1 (by omega) ⟨by decide,by decide⟩ hw (kv (bh hn1 hx) v1) fun g2 v2=>?_
  repeat refine aw (by first | exact ae _ | exact af _ | exact ab _ _ | rfl | (with_reducible decide)) ?_
  refine cC (NN g2 (by omega) v2) fun ⟨n3,hn3,g3,v3⟩=>?_
  repeat refine aw (by first | exact ae _ | exact af _ | exact ab _ _ | rfl | (with_reducible decide)) ?_
  refine cC (Lg g3 (by omega) hw (bh (by omega) hx)) fun ⟨n4,hn4,g4,v4⟩=>?_
  repeat refine aw (by first | exact ae _ | exact af _ | exact ab _ _ | rfl | (with_reducible decide)) ?_
  exact b8 (.of (by omega) g4 (bh (by omega) v3) v4 (by omega))
 ·repeat refine aw (by first | exact ae _ | exact af _ | exact ab _ _ | rfl | (with_reducible decide)) ?_
  refine cC (Rc h (by omega) hc (aM _)) fun ⟨n1,hn1,g1,v1⟩=>?_
  repeat refine aw (by first | exact ae _ | exact af _ | exact ab _ _ | rfl | (with_reducible decide)) ?_
  refine dE g1 (by omega) ⟨by decide,by decide⟩ hw (kv (bh hn1 hx) v1) fun g2 v2=>?_
  repeat refine aw (by first | exact ae _ | exact af _ | exact ab _ _ | rfl | (with_reducible decide)) ?_
  refine cC (NN g2 (by omega) v2) fun ⟨n3,hn3,g3,v3⟩=>?_
  repeat refine aw (by first | exact ae _ | exact af _ | exact ab _ _ | rfl | (with_reducible decide)) ?_
  exact b8 (.of (by omega) g3 v3 (aM _) (by omega))
 ·repeat refine aw (by first | exact ae _ | exact af _ | exact ab _ _ | rfl | (with_reducible decide)) ?_
  refine cC (NN h (by omega) hr) fun ⟨n1,hn1,g1,v1⟩=>?_
  repeat refine aw (by first | exact ae _ | exact af _ | exact ab _ _ | rfl | (with_reducible decide)) ?_
  refine cC (Lg g1 (by omega) hw (bh hn1 hr)) fun ⟨n2,hn2,g2,v2⟩=>?_
  repeat refine aw (by first | exact ae _ | exact af _ | exact ab _ _ | rfl | (with_reducible decide)) ?_
  refine dE g2 (by omega) ⟨by decide,by decide⟩ w1 (kv v2 (bh hn2 v1)) fun g3 v3=>?_
  repeat refine aw (by first | exact ae _ | exact af _ | exact ab _ _ | rfl | (with_reducible decide)) ?_
  exact b8 (.of (by omega) g3 (bh (by omega) v1) v3 (by omega))
 ·repeat refine aw (by first | exact ae _ | exact af _ | exact ab _ _ | rfl | (with_reducible decide)) ?_
  refine cC (Lg h (by omega) hw hr) fun ⟨n1,hn1,g1,v1⟩=>?_
  repeat refine aw (by first | exact ae _ | exact af _ | exact ab _ _ | rfl | (with_reducible decide)) ?_
  refine dE g1 (by omega) ⟨by decide,by decide⟩ hw (kv (bh hn1 hr) (aM _)) fun g2 v2=>?_
  repeat refine aw (by first | exact ae _ | exact af _ | exact ab _ _ | rfl | (with_reducible decide)) ?_
  refine cC (Lg g2 (by omega) hw v2) fun ⟨n3,hn3,g3,v3⟩=>?_
  repeat refine aw (by first | exact ae _ | exact af _ | exact ab _ _ | rfl | (with_reducible decide)) ?_
  refine dE g3 (by omega) ⟨by decide,by decide⟩ w1 (kv (bh (by omega) v1) v3) fun g4 v4=>?_
  repeat refine aw (by first | exact ae _ | exact af _ | exact ab _ _ | rfl | (with_reducible decide)) ?_
  exact b8 (.of (by omega) g4 (bh (by omega) v1) v4 (by omega))
theorem Ez (h:G rd l n W k) (hk:k≤900) {c:Int} {v u:aF} (hc:0≤c∧c≤20) (hr:rd c) (hv:gv rd n v) (hu:gv rd n u):res (oQ (S,(l,(c,(v,u))))) (D0 rd n (W++[c]) (k+1)):=by
 repeat refine aw (by first | exact ae _ | exact af _ | exact ab _ _ | rfl | (with_reducible decide)) ?_
 refine JE h (by omega) ⟨by decide,by decide⟩ w8 hc (PG hv (hM hc.1 ⟨hc.2,hr⟩) hu) fun g1=>?_
 repeat refine aw (by first | exact ae _ | exact af _ | exact ab _ _ | rfl | (with_reducible decide)) ?_
 exact b8 (.of (by omega) g1 (by omega))
theorem V0 {α:Type} {t:Tr α} {Q:α→Prop} {S:St} (h:G rd l n W k) {op w:Int} {vs:List aF} (hl:k≤31) (ho:gK op) (hw:1≤w∧w≤8) (hv:∀ v∈vs,gv rd n v)
  (g:G rd (ba (S,(l,(op,(w,vs))))).1 (n+1) W (k+1)→gv rd (n+1) (ba (S,(l,(op,(w,vs))))).2→(ba (S,(l,(op,(w,vs))))).2=cl n→res t Q):res (.aa (bN (S,(l,(op,(w,vs))))) t) Q:=
 have p:=mk S h hl ho hw hv
 en.2 ⟨p.1,g p.2.1 p.2.2 (by rw [(X7 S op w vs h (by omega)).2])⟩
def plain (op:Int):Bool:=dG op 14&&dG op 15
def OU (S:St):Int:=fJ .u64 (aN .u64 S.1.2.2.2.2.1.2.2.2.2.2.2.2) (aN .u64 (gz .i64 8 S.2.1))
def GK (op:Int) (S:St):List Int:=if S.1.2.2.2.2.1.1≠1∧OU S=0 then dW S.1.2.2.2.1 else dW S.1.2.2.2.1++[16]++[19]++(if plain op=true then [17]++[18]++[20] else [])
structure Kf (rd:Int→Prop) (op:Int):Prop where
 cx:rd 1
 c:rd 16
 o:rd 19
 p:plain op=true→rd 17∧rd 18∧rd 20
theorem U6 (h:G rd l n W k) (hk:k≤12) (hC:Cx rd S n) (hA:jv rd S.1.2.2.2.1) (ho:nJ rd S.2.1 S.1.2.2.2.1) {op:Int} (hop:gK op) (hB:S.1.2.2.2.2.1.1=1→Kf rd op) (h9:aN .u64 (gz .i64 8 S.2.1)≠0):
  res (vg (S,(l,op))) (D0 rd n (W++GK op S) (k+19)):=by
 have plT:dG op 14=true→dG op 15=true→plain op=true:=fun a b=>by unfold plain;rw [a,b];rfl
 have plF:(dG op 14=false∨dG op 15=false)→plain op=false:=fun a=>by
  unfold plain;rcases a with a | a<;>rw [a]
  ·rfl
  ·rw [Bool.and_false]
 repeat refine aw (by first | exact ae _ | exact af _ | exact ab _ _ | rfl | (with_reducible decide)) ?_
 refine cC (Ey h (by omega) hC.w hA hC.a) fun ⟨n1,hn1,g1,v1⟩=>?_
 repeat refine aw (by first | exact ae _ | exact af _ | exact ab _ _ | rfl | (with_reducible decide)) ?_
 refine aw h9 ?_
 repeat refine aw (by first | exact ae _ | exact af _ | exact ab _ _ | rfl | (with_reducible decide)) ?_
 refine dS (fun hb=>?_) fun hb=>?_
 ·have hb:S.1.2.2.2.2.1.1=1:=al.1 hb
  have hR:=hB hb
  have e0:W++GK op S=W++dW S.1.2.2.2.1++[16]++[19]++(if plain op=true then [17]++[18]++[20] else []):=by
   unfold GK;rw [if_neg (by rintro ⟨h,_⟩;exact h hb)];simp only [List.append_assoc]
  rw [e0]
  repeat refine aw (by first | exact ae _ | exact af _ | exact ab _ _ | rfl | (with_reducible decide)) ?_
  refine V0 g1 (by omega) ⟨by decide,by decide⟩ w1 (kv (hM (by decide) ⟨by decide,hR.cx⟩) (aM _)) fun g2 v2 e2=>?_
  repeat refine aw (by first | exact ae _ | exact af _ | exact ab _ _ | rfl | (with_reducible decide)) ?_
  refine dS (fun h1=>?_) fun _=>?_
  ·have h3:=e2.symm.trans ((lJ (c:=ar) rfl).1 h1)
   have h4:false=true:=congrArg Prod.fst h3
   cases h4
  repeat refine aw (by first | exact ae _ | exact af _ | exact ab _ _ | rfl | (with_reducible decide)) ?_
  refine dE g2 (by omega) hop hC.w (kv (bh (by omega) v1) v2) fun g3 v3=>?_
  repeat refine aw (by first | exact ae _ | exact af _ | exact ab _ _ | rfl | (with_reducible decide)) ?_
  refine cC (U8 g3 (by omega) hC.w (bh (by omega) v1) v3 (bh (by omega) v2)) fun ⟨n4,hn4,g4,v4,u4⟩=>?_
  repeat refine aw (by first | exact ae _ | exact af _ | exact ab _ _ | rfl | (with_reducible decide)) ?_
  refine cC (GS g4 (by omega) (hC.up (by omega)) ho (bh (by omega) v3)) fun ⟨n5,hn5,g5⟩=>?_
  have nf:∀ {P:Prop} {b:Bool},b=true→b=(cl n1).1→P:=fun h1 h2=>by rw [h2] at h1;cases h1
  repeat refine aw (by first | exact ae _ | exact af _ | exact ab _ _ | rfl | (with_reducible decide)) ?_
  refine dS (fun h1=>?_) fun h1=>?_
  ·have h1:dG op 14=true:=by simpa using h1
   repeat refine aw (by first | exact ae _ | exact af _ | exact ab _ _ | rfl | (with_reducible decide)) ?_
   refine dS (fun h2=>nf h2 (congrArg Prod.fst e2)) fun _=>?_
   repeat refine aw (by first | exact ae _ | exact af _ | exact ab _ _ | rfl | (with_reducible decide)) ?_
   refine cC (Ez g5 (by omega) ⟨by decide,by decide⟩ hR.c (bh (by omega) v4) (bh (by omega) v2)) fun ⟨n6,hn6,g6⟩=>?_
   repeat refine aw (by first | exact ae _ | exact af _ | exact ab _ _ | rfl | (with_reducible decide)) ?_
   refine cC (Ez g6 (by omega) ⟨by decide,by decide⟩ hR.o (bh (by omega) u4) (bh (by omega) v2)) fun ⟨n7,hn7,g7⟩=>?_
   repeat refine aw (by first | exact ae _ | exact af _ | exact ab _ _ | rfl | (with_reducible decide)) ?_
   refine dS (fun h3=>?_) fun h3=>?_
   ·have hp:=plT h1 h3
    have hrp:=hR.p hp
    rw [if_pos hp]
    repeat refine aw (by first | exact ae _ | exact af _ | exact ab _ _ | rfl | (with_reducible decide)) ?_
    refine dE g7 (by omega) ⟨by decide,by decide⟩ hC.w (xD (bh (by omega) v3)) fun g8 v8=>?_
    repeat refine aw (by first | exact ae _ | exact af _ | exact ab _ _ | rfl | (with_reducible decide)) ?_
    refine dE g8 (by omega) ⟨by decide,by decide⟩ hC.w (xD (bh (by omega) v3)) fun g9 v9=>?_
    repeat refine aw (by first | exact ae _ | exact af _ | exact ab _ _ | rfl | (with_reducible decide)) ?_
    refine dE g9 (by omega) ⟨by decide,by decide⟩ hC.w (xD (bh (by omega) v3)) fun g10 v10=>?_
    repeat refine aw (by first | exact ae _ | exact af _ | exact ab _ _ | rfl | (with_reducible decide)) ?_
    refine cC (Ez g10 (by omega) ⟨by decide,by decide⟩ hrp.1 (bh (by omega) v8) (bh (by omega) v2)) fun ⟨n11,hn11,g11⟩=>?_
    repeat refine aw (by first | exact ae _ | exact af _ | exact ab _ _ | rfl | (with_reducible decide)) ?_
    refine cC (Ez g11 (by omega) ⟨by decide,by decide⟩ hrp.2.1 (bh (by omega) v9) (bh (by omega) v2)) fun ⟨n12,hn12,g12⟩=>?_
    repeat refine aw (by first | exact ae _ | exact af _ | exact ab _ _ | rfl | (with_reducible decide)) ?_
    refine cC (Ez g12 (by omega) ⟨by decide,by decide⟩ hrp.2.2 (bh (by omega) v10) (bh (by omega) v2)) fun ⟨n13,hn13,g13⟩=>?_
    repeat refine aw (by first | exact ae _ | exact af _ | exact ab _ _ | rfl | (with_reducible decide)) ?_
    refine b8 (.of (n':=n13) (k:=k+1+1+1+5+3+1+1+1+1+1+1+1+1) (by omega) ?_ (by omega))
    simp only [← List.append_assoc]
    exact g13
   ·have hp:=plF (.inr h3)
    rw [if_neg (by rw [hp];decide),List.append_nil]
    repeat refine aw (by first | exact ae _ | exact af _ | exact ab _ _ | rfl | (with_reducible decide)) ?_
    exact b8 (.of (by omega) g7 (by omega))
  ·have h1:dG op 14=false:=by simpa using h1
   repeat refine aw (by first | exact ae _ | exact af _ | exact ab _ _ | rfl | (with_reducible decide)) ?_
   refine dS (fun h2=>nf h2 (congrArg Prod.fst e2)) fun _=>?_
   have hp:=plF (.inl h1)
   rw [if_neg (by rw [hp];decide),List.append_nil]
   repeat refine aw (by first | exact ae _ | exact af _ | exact ab _ _ | rfl | (with_reducible decide)) ?_
   refine cC (Ez g5 (by omega) ⟨by decide,by decide⟩ hR.c (bh (by omega) v4) (bh (by omega) v2)) fun ⟨n6,hn6,g6⟩=>?_
   repeat refine aw (by first | exact ae _ | exact af _ | exact ab _ _ | rfl | (with_reducible decide)) ?_
   refine cC (Ez g6 (by omega) ⟨by decide,by decide⟩ hR.o (bh (by omega) u4) (bh (by omega) v2)) fun ⟨n7,hn7,g7⟩=>?_
   repeat refine aw (by first | exact ae _ | exact af _ | exact ab _ _ | rfl | (with_reducible decide)) ?_
   exact b8 (.of (by omega) g7 (by omega))
 ·have hb:S.1.2.2.2.2.1.1≠1:=bS.1 hb
  repeat refine aw (by first | exact ae _ | exact af _ | exact ab _ _ | rfl | (with_reducible decide)) ?_
  refine dS (fun h1=>?_) fun h1=>?_
  ·have h1:OU S=0:=congrArg (fun v:aF=>v.2.2) ((lJ (c:=ar) rfl).1 h1)
   have e0:W++GK op S=W++dW S.1.2.2.2.1:=by unfold GK;rw [if_pos ⟨hb,h1⟩]
   rw [e0]
   repeat refine aw (by first | exact ae _ | exact af _ | exact ab _ _ | rfl | (with_reducible decide)) ?_
   refine dE g1 (by omega) ⟨by decide,by decide⟩ hC.w (xD v1) fun g2 v2=>?_
   repeat refine aw (by first | exact ae _ | exact af _ | exact ab _ _ | rfl | (with_reducible decide)) ?_
   refine cC (GS g2 (by omega) (hC.up (by omega)) ho v2) fun ⟨n5,hn5,g5⟩=>?_
   repeat refine aw (by first | exact ae _ | exact af _ | exact ab _ _ | rfl | (with_reducible decide)) ?_
   exact b8 (.of (by omega) g5 (by omega))
  ·have h1:OU S≠0:=fun e=>by
    have:dB ar (wd (OU S)) (wd 0)=true:=by rw [e];exact xh (c:=ar) rfl _
    rw [show dB ar (wd (OU S)) (wd 0)=false from h1] at this;cases this
   have e0:W++GK op S=W++dW S.1.2.2.2.1++[16]++[19]++(if plain op=true then [17]++[18]++[20] else []):=by
    unfold GK;rw [if_neg (by rintro ⟨_,h⟩;exact h1 h)];simp only [List.append_assoc]
   rw [e0]
   repeat refine aw (by first | exact ae _ | exact af _ | exact ab _ _ | rfl | (with_reducible decide)) ?_
   refine dE g1 (by omega) hop hC.w (kv v1 (aM _)) fun g3 v3=>?_
   repeat refine aw (by first | exact ae _ | exact af _ | exact ab _ _ | rfl | (with_reducible decide)) ?_
   refine cC (U8 g3 (by omega) hC.w (bh (by omega) v1) v3 (aM _)) fun ⟨n4,hn4,g4,v4,u4⟩=>?_
   repeat refine aw (by first | exact ae _ | exact af _ | exact ab _ _ | rfl | (with_reducible decide)) ?_
   refine cC (GS g4 (by omega) (hC.up (by omega)) ho (bh (by omega) v3)) fun ⟨n5,hn5,g5⟩=>?_
   have nt:∀ {P:Prop} {b:Bool},b=false→b=(wd (OU S)).1→P:=fun h1 h2=>by rw [h2] at h1;cases h1
   repeat refine aw (by first | exact ae _ | exact af _ | exact ab _ _ | rfl | (with_reducible decide)) ?_
   refine dS (fun h2=>?_) fun h2=>?_
   ·have h2:dG op 14=true:=by simpa using h2
    repeat refine aw (by first | exact ae _ | exact af _ | exact ab _ _ | rfl | (with_reducible decide)) ?_
    refine dS (fun _=>?_) fun h3=>nt h3 rfl
    repeat refine aw (by first | exact ae _ | exact af _ | exact ab _ _ | rfl | (with_reducible decide)) ?_
    refine cC (OZ g5 (by omega) (bh (by omega) v4) (bh (by omega) u4)) fun ⟨n6,hn6,g6⟩=>?_
    repeat refine aw (by first | exact ae _ | exact af _ | exact ab _ _ | rfl | (with_reducible decide)) ?_
    refine dS (fun h3=>?_) fun h3=>?_
    ·have hp:=plT h2 h3
     rw [if_pos hp]
     repeat refine aw (by first | exact ae _ | exact af _ | exact ab _ _ | rfl | (with_reducible decide)) ?_
     refine cC (OY g6 (by omega) hC.w (bh (by omega) v3)) fun ⟨n7,hn7,g7⟩=>?_
     repeat refine aw (by first | exact ae _ | exact af _ | exact ab _ _ | rfl | (with_reducible decide)) ?_
     refine b8 (.of (n':=n7) (k:=k+1+1+5+3+2+3) (by omega) ?_ (by omega))
     simp only [← List.append_assoc]
     exact g7
    ·have hp:=plF (.inr h3)
     rw [if_neg (by rw [hp];decide),List.append_nil]
     repeat refine aw (by first | exact ae _ | exact af _ | exact ab _ _ | rfl | (with_reducible decide)) ?_
     exact b8 (.of (by omega) g6 (by omega))
   ·have h2:dG op 14=false:=by simpa using h2
    repeat refine aw (by first | exact ae _ | exact af _ | exact ab _ _ | rfl | (with_reducible decide)) ?_
    refine dS (fun _=>?_) fun h3=>nt h3 rfl
    have hp:=plF (.inl h2)
    rw [if_neg (by rw [hp];decide),List.append_nil]
    repeat refine aw (by first | exact ae _ | exact af _ | exact ab _ _ | rfl | (with_reducible decide)) ?_
    refine cC (OZ g5 (by omega) (bh (by omega) v4) (bh (by omega) u4)) fun ⟨n6,hn6,g6⟩=>?_
    repeat refine aw (by first | exact ae _ | exact af _ | exact ab _ _ | rfl | (with_reducible decide)) ?_
    exact b8 (.of (by omega) g6 (by omega))
end Go.bz.RL
end
section
namespace Go.bz.RL
open Go.bz Go.RowKit
variable {rd:Int→Prop} {l:L} {n:Int} {W:List Int} {k:Nat} {S:St}
theorem Ys (h:G rd l n W k) (hk:k≤12) (hC:Cx rd S n) (hA:jv rd S.1.2.2.2.1) (ho:nJ rd S.2.1 S.1.2.2.2.1) (hB:S.1.2.2.2.2.1.1=1→Kf rd 11) (h9:aN .u64 (gz .i64 8 S.2.1)≠0):res (vH (S,(l,()))) (D0 rd n (W++GK 11 S) (k+19)):=by
 repeat refine aw (by first | exact ae _ | exact af _ | exact ab _ _ | rfl | (with_reducible decide)) ?_
 refine cC (U6 h hk hC hA ho ⟨by decide,by decide⟩ hB h9) fun ⟨n1,hn1,g1⟩=>?_
 repeat refine aw (by first | exact ae _ | exact af _ | exact ab _ _ | rfl | (with_reducible decide)) ?_
 exact b8 (.of hn1 g1 (by omega))
theorem Yr (h:G rd l n W k) (hk:k≤12) (hC:Cx rd S n) (hA:jv rd S.1.2.2.2.1) (ho:nJ rd S.2.1 S.1.2.2.2.1) (hB:S.1.2.2.2.2.1.1=1→Kf rd 12) (h9:aN .u64 (gz .i64 8 S.2.1)≠0):res (vG (S,(l,()))) (D0 rd n (W++GK 12 S) (k+19)):=by
 repeat refine aw (by first | exact ae _ | exact af _ | exact ab _ _ | rfl | (with_reducible decide)) ?_
 refine cC (U6 h hk hC hA ho ⟨by decide,by decide⟩ hB h9) fun ⟨n1,hn1,g1⟩=>?_
 repeat refine aw (by first | exact ae _ | exact af _ | exact ab _ _ | rfl | (with_reducible decide)) ?_
 exact b8 (.of hn1 g1 (by omega))
theorem Yq (h:G rd l n W k) (hk:k≤12) (hC:Cx rd S n) (hA:jv rd S.1.2.2.2.1) (ho:nJ rd S.2.1 S.1.2.2.2.1) (hB:S.1.2.2.2.2.1.1=1→Kf rd 13) (h9:aN .u64 (gz .i64 8 S.2.1)≠0):res (vF (S,(l,()))) (D0 rd n (W++GK 13 S) (k+19)):=by
 repeat refine aw (by first | exact ae _ | exact af _ | exact ab _ _ | rfl | (with_reducible decide)) ?_
 refine cC (U6 h hk hC hA ho ⟨by decide,by decide⟩ hB h9) fun ⟨n1,hn1,g1⟩=>?_
 repeat refine aw (by first | exact ae _ | exact af _ | exact ab _ _ | rfl | (with_reducible decide)) ?_
 exact b8 (.of hn1 g1 (by omega))
theorem Yp (h:G rd l n W k) (hk:k≤12) (hC:Cx rd S n) (hA:jv rd S.1.2.2.2.1) (ho:nJ rd S.2.1 S.1.2.2.2.1) (hB:S.1.2.2.2.2.1.1=1→Kf rd 14) (h9:aN .u64 (gz .i64 8 S.2.1)≠0):res (vE (S,(l,()))) (D0 rd n (W++GK 14 S) (k+19)):=by
 repeat refine aw (by first | exact ae _ | exact af _ | exact ab _ _ | rfl | (with_reducible decide)) ?_
 refine cC (U6 h hk hC hA ho ⟨by decide,by decide⟩ hB h9) fun ⟨n1,hn1,g1⟩=>?_
 repeat refine aw (by first | exact ae _ | exact af _ | exact ab _ _ | rfl | (with_reducible decide)) ?_
 exact b8 (.of hn1 g1 (by omega))
theorem Yo (h:G rd l n W k) (hk:k≤12) (hC:Cx rd S n) (hA:jv rd S.1.2.2.2.1) (ho:nJ rd S.2.1 S.1.2.2.2.1) (hB:S.1.2.2.2.2.1.1=1→Kf rd 15) (h9:aN .u64 (gz .i64 8 S.2.1)≠0):res (vD (S,(l,()))) (D0 rd n (W++GK 15 S) (k+19)):=by
 repeat refine aw (by first | exact ae _ | exact af _ | exact ab _ _ | rfl | (with_reducible decide)) ?_
 refine cC (U6 h hk hC hA ho ⟨by decide,by decide⟩ hB h9) fun ⟨n1,hn1,g1⟩=>?_
 repeat refine aw (by first | exact ae _ | exact af _ | exact ab _ _ | rfl | (with_reducible decide)) ?_
 exact b8 (.of hn1 g1 (by omega))
theorem U7 (h:G rd l n W k) (hk:k≤900) (ha:gv rd n S.2.2.2.2.1) (hb:gv rd n S.2.2.2.2.2.1) (hv:35≤S.1.1∧S.1.1≤39∧pre6 S.1∧WS S.1=true):res (vn (S,(l,()))) (D0 rd n W (k+1)):=by
 have hl:=h.len
 have one:∀ {at':aF},gv rd n at'→∀ r:L×Unit,r=(l++[dd 31 16 0 at' (wd 0) (wd 0)],())→
   (0:Int)≤iu .i64 (r.1.length:Int) 1∧iu .i64 (r.1.length:Int) 1 < (r.1.length:Int)∧0 < r.1.length∧(iu .i64 (r.1.length:Int) 1).toNat < r.1.length∧
   D0 rd n W (k+1) (r.1.set (iu .i64 (r.1.length:Int) 1).toNat ((eZ aZ r.1 (iu .i64 (r.1.length:Int) 1).toNat).1,((eZ aZ r.1 (iu .i64 (r.1.length:Int) 1).toNat).2.1,((eZ aZ r.1 (iu .i64 (r.1.length:Int) 1).toNat).2.2.1,((eZ aZ r.1 (iu .i64 (r.1.length:Int) 1).toNat).2.2.2.1,((eZ aZ r.1 (iu .i64 (r.1.length:Int) 1).toNat).2.2.2.2.1,((eZ aZ r.1 (iu .i64 (r.1.length:Int) 1).toNat).2.2.2.2.2.1,S.1)))))),()):=by
  intro at' hat r hr
  subst hr
  have e1:iu .i64 (((l++[dd 31 16 0 at' (wd 0) (wd 0)]).length:Nat):Int) 1=(l.length:Int):=by
   rw [List.length_append,List.length_singleton,wU (by omega) (by omega)];omega
  show (0:Int)≤iu .i64 (((l++[dd 31 16 0 at' (wd 0) (wd 0)]).length:Nat):Int) 1∧_
  simp only [e1,Int.toNat_natCast]
  have e2:eZ aZ (l++[dd 31 16 0 at' (wd 0) (wd 0)]) l.length=dd 31 16 0 at' (wd 0) (wd 0):=by
   rw [dU (c:=aZ) (by simp)];simp
  rw [e2]
  refine ⟨by omega,by rw [List.length_append,List.length_singleton];omega,by rw [List.length_append,List.length_singleton];omega,by rw [List.length_append,List.length_singleton];omega,n,Int.le_refl _,?_,?_⟩
  ·have:=h.PJ.app (.vec hat hv (.nil n))
   rw [List.append_nil] at this
   simpa [dd] using this
  ·simp;omega
 repeat refine aw (by first | exact ae _ | exact af _ | exact ab _ _ | rfl | (with_reducible decide)) ?_
 refine dS (fun h1=>?_) fun h1=>?_
 ·repeat refine aw (by first | exact ae _ | exact af _ | exact ab _ _ | rfl | (with_reducible decide)) ?_
  refine aw (NM S l 31 16 0 [S.2.2.2.2.1] (by omega)).1 ?_
  have hh:=one ha _ (NM S l 31 16 0 [S.2.2.2.2.1] (by omega)).2
  repeat refine aw (by first | exact ae _ | exact af _ | exact ab _ _ | rfl | (with_reducible decide)) ?_
  refine aw hh.1 (aw hh.2.1 ?_)
  repeat refine aw (by first | exact ae _ | exact af _ | exact ab _ _ | rfl | (with_reducible decide)) ?_
  refine aw hh.2.2.1 (aw hh.2.2.2.1 (aw (List.length_set ..).symm ?_))
  repeat refine aw (by first | exact ae _ | exact af _ | exact ab _ _ | rfl | (with_reducible decide)) ?_
  exact b8 hh.2.2.2.2
 ·repeat refine aw (by first | exact ae _ | exact af _ | exact ab _ _ | rfl | (with_reducible decide)) ?_
  refine aw (NM S l 31 16 0 [S.2.2.2.2.2.1] (by omega)).1 ?_
  have hh:=one hb _ (NM S l 31 16 0 [S.2.2.2.2.2.1] (by omega)).2
  repeat refine aw (by first | exact ae _ | exact af _ | exact ab _ _ | rfl | (with_reducible decide)) ?_
  refine aw hh.1 (aw hh.2.1 ?_)
  repeat refine aw (by first | exact ae _ | exact af _ | exact ab _ _ | rfl | (with_reducible decide)) ?_
  refine aw hh.2.2.1 (aw hh.2.2.2.1 (aw (List.length_set ..).symm ?_))
  repeat refine aw (by first | exact ae _ | exact af _ | exact ab _ _ | rfl | (with_reducible decide)) ?_
  exact b8 hh.2.2.2.2
def aX (c:Bool) (x:DI):List Int:=if c=true then dW x.2.2.2.1 else []
def PV (x:DI):List Int:=GK (x.1 - 5) (x,(x.2.2.1,((),(0,(wd 0,(wd 0,(wd 0,wd 0)))))))
inductive LW (x:DI):List Int→Prop where
 | put (h:x.1=1∨x.1=2∨x.1=15∨x.1=30∨x.1=31∨x.1=32∨x.1=33):LW x (dW x.2.2.2.1)
 | sum (h:x.1=3∨x.1=5∨x.1=6∨x.1=8∨x.1=10∨x.1=14):LW x (aX (dG x.1 10) x++[16]++[19]++[17]++[18]++[20])
 | bit (h:x.1=4∨x.1=7∨x.1=9∨x.1=11):LW x (aX (dG x.1 11) x++[16]++[19]++[17]++[18]++[20])
 | one (h:x.1=12∨x.1=13):LW x (dW x.2.2.2.1++[19]++[17]++[18]++[20])
 | gz (h:x.1=21):LW x (dW x.2.2.2.1++[16]++[19]++[17]++[18]++[20])
 | mul (h:x.1=22):LW x ([0]++[2]++[16]++[19]++[17]++[18]++[20])
 | div (h:x.1=23):LW x ([0]++[2])
 | shift (h:16≤x.1∧x.1≤20):LW x (PV x)
 | push (h:x.1=24∨x.1=26∨x.1=27):LW x [4]
 | pop (h:x.1=25):LW x ([4]++dW x.2.2.2.1)
 | no (h:x.1=28∨x.1=29∨34≤x.1):LW x []
structure XR (rd:Int→Prop) (x:DI):Prop where
 right:pL x=true
 qA:pre6 x∧WS x=true
 Ya:1≤x.1∧x.1≤39
 oA:WU rd x.2.2.2.1
 oB:WU rd x.2.2.2.2.1
 w:x.1≤34→1≤x.2.2.1∧x.2.2.1≤8
 w8:16≤x.1→x.1≤20→aN .u64 (gz .i64 8 x.2.2.1)≠0
 both:(3≤x.1∧x.1≤11)∨x.1=21→fa x=false→jv rd x.2.2.2.1∧jv rd x.2.2.2.2.1
 tA:(12≤x.1∧x.1≤20)∨x.1=22∨x.1=23∨x.1=24∨x.1=28∨x.1=30→jv rd x.2.2.2.1
 tB:x.1=1∨x.1=30∨x.1=32∨x.1=33→jv rd x.2.2.2.2.1
 pt:(1≤x.1∧x.1≤21∧x.1≠10∧x.1≠11)∨(30≤x.1∧x.1≤33)→nJ rd x.2.2.1 x.2.2.2.1
 pop:x.1=25→nJ rd 8 x.2.2.2.1
 cf:x.1=5∨x.1=6→rd 16
 cc:29≤x.1→x.1≤31→WB rd (jZ .u8 x.2.1 1)
 sh:16≤x.1→x.1≤20→x.2.2.2.2.1.1=1→Kf rd (x.1 - 5)
 ax:x.1=22∨x.1=23→rd 0
 dx:x.1=23→rd 2
 sp:24≤x.1→x.1≤27→rd 4
def BV (x:DI×Int):Int:=aK .u64 x.2 (aN .u64 x.1.2.2.2.2.2.2)
def eL (rd:Int→Prop) (x:DI×Int) (r:L×Int):Prop:=
 r.2=0∧∃ l n W far cd,r.1=l++[dd 30 8 0 far (wd (BV x)) cd]∧G rd l n W 30∧gv rd n far∧gv rd n cd∧LW x.1 W
theorem k9 {α:Type} {t:Tr α} {Q:α→Prop} (h:G rd l n W k) (hk:k≤900) {far nx cd:aF} (g:cK (S,(l,(30,(8,(0,[far,nx,cd])))))=(l++[dd 30 8 0 far nx cd],())→res t Q):res (.aa (bK (S,(l,(30,(8,(0,[far,nx,cd])))))) t) Q:=by
 have hl:=h.len
 have p:=NM S l 30 8 0 [far,nx,cd] (by omega)
 exact aw p.1 (g p.2)
theorem CC:LH ():=trivial
def S1 (x:DI×Int):St:=(x.1,(x.1.2.2.1,((),(BV x,((false,(0,0)),((false,(0,0)),(wd (BV x),wd 1)))))))
noncomputable def A1 (x:DI×Int):L×aF:=aT (S1 x,([],x.1.2.2.2.1))
noncomputable def S2 (x:DI×Int):St:=(x.1,(x.1.2.2.1,((),(BV x,((A1 x).2,((false,(0,0)),(wd (BV x),wd 1)))))))
noncomputable def A2 (x:DI×Int):L×aF:=aT (S2 x,((A1 x).1,x.1.2.2.2.2.1))
structure Pr (rd:Int→Prop) (x:DI×Int) (n:Int):Prop where
 g:G rd (A2 x).1 n [] 6
 a:gv rd n (A1 x).2
 b:gv rd n (A2 x).2
variable {x:DI×Int}
theorem Xc (hX:XR rd x.1) (hd:x.1.1=1) (p:Pr rd x n):res (Hj x) (eL rd x):=by
 obtain ⟨g2,v1,v2⟩:=p
 repeat refine aw (by first | exact ae _ | exact af _ | exact ab _ _ | rfl | (with_reducible decide)) ?_
 refine cC (YD g2 (by omega) ?_ ?_ ?_) fun ⟨n3,hn3,g3⟩=>?_
 ·exact ⟨hX.w (by omega),v1,v2⟩
 ·exact hX.tB (by omega)
 ·exact hX.pt (by omega)
 repeat refine aw (by first | exact ae _ | exact af _ | exact ab _ _ | rfl | (with_reducible decide)) ?_
 refine k9 g3 (by omega) fun e3=>?_
 repeat refine aw (by first | exact ae _ | exact af _ | exact ab _ _ | rfl | (with_reducible decide)) ?_
 exact b8 ⟨rfl,_,_,_,_,_,congrArg Prod.fst e3,g3.wk (by omega),aM _,aM _,LW.put (by omega)⟩
theorem Xb (hX:XR rd x.1) (hd:x.1.1=2) (p:Pr rd x n):res (Hi x) (eL rd x):=by
 obtain ⟨g2,v1,v2⟩:=p
 repeat refine aw (by first | exact ae _ | exact af _ | exact ab _ _ | rfl | (with_reducible decide)) ?_
 refine cC (YC g2 (by omega) ?_ ?_) fun ⟨n3,hn3,g3⟩=>?_
 ·exact ⟨hX.w (by omega),v1,v2⟩
 ·exact hX.pt (by omega)
 repeat refine aw (by first | exact ae _ | exact af _ | exact ab _ _ | rfl | (with_reducible decide)) ?_
 refine k9 g3 (by omega) fun e3=>?_
 repeat refine aw (by first | exact ae _ | exact af _ | exact ab _ _ | rfl | (with_reducible decide)) ?_
 exact b8 ⟨rfl,_,_,_,_,_,congrArg Prod.fst e3,g3.wk (by omega),aM _,aM _,LW.put (by omega)⟩
theorem Xa (hX:XR rd x.1) (hd:x.1.1=3) (p:Pr rd x n):res (Hh x) (eL rd x):=by
 obtain ⟨g2,v1,v2⟩:=p
 repeat refine aw (by first | exact ae _ | exact af _ | exact ab _ _ | rfl | (with_reducible decide)) ?_
 refine cC (YB g2 (by omega) ?_ ?_ ?_ ?_) fun ⟨n3,hn3,g3⟩=>?_
 ·exact ⟨hX.w (by omega),v1,v2⟩
 ·exact fun e=>(hX.both (by omega) e).1
 ·exact fun e=>(hX.both (by omega) e).2
 ·exact fun _=>hX.pt (by omega)
 repeat refine aw (by first | exact ae _ | exact af _ | exact ab _ _ | rfl | (with_reducible decide)) ?_
 refine k9 g3 (by omega) fun e3=>?_
 repeat refine aw (by first | exact ae _ | exact af _ | exact ab _ _ | rfl | (with_reducible decide)) ?_
 exact b8 ⟨rfl,_,_,_,_,_,congrArg Prod.fst e3,g3.wk (by omega),aM _,aM _,LW.sum (by omega)⟩
theorem W8 (hX:XR rd x.1) (hd:x.1.1=5) (p:Pr rd x n):res (Hf x) (eL rd x):=by
 obtain ⟨g2,v1,v2⟩:=p
 repeat refine aw (by first | exact ae _ | exact af _ | exact ab _ _ | rfl | (with_reducible decide)) ?_
 refine cC (YA g2 (by omega) ?_ ?_ ?_ ?_ ?_) fun ⟨n3,hn3,g3⟩=>?_
 ·exact ⟨hX.w (by omega),v1,v2⟩
 ·exact fun e=>(hX.both (by omega) e).1
 ·exact fun e=>(hX.both (by omega) e).2
 ·exact fun _=>hX.pt (by omega)
 ·exact hX.cf (by omega)
 repeat refine aw (by first | exact ae _ | exact af _ | exact ab _ _ | rfl | (with_reducible decide)) ?_
 refine k9 g3 (by omega) fun e3=>?_
 repeat refine aw (by first | exact ae _ | exact af _ | exact ab _ _ | rfl | (with_reducible decide)) ?_
 exact b8 ⟨rfl,_,_,_,_,_,congrArg Prod.fst e3,g3.wk (by omega),aM _,aM _,LW.sum (by omega)⟩
theorem W5 (hX:XR rd x.1) (hd:x.1.1=8) (p:Pr rd x n):res (Hc x) (eL rd x):=by
 obtain ⟨g2,v1,v2⟩:=p
 repeat refine aw (by first | exact ae _ | exact af _ | exact ab _ _ | rfl | (with_reducible decide)) ?_
 refine cC (X6 g2 (by omega) ?_ ?_ ?_ ?_) fun ⟨n3,hn3,g3⟩=>?_
 ·exact ⟨hX.w (by omega),v1,v2⟩
 ·exact fun e=>(hX.both (by omega) e).1
 ·exact fun e=>(hX.both (by omega) e).2
 ·exact fun _=>hX.pt (by omega)
 repeat refine aw (by first | exact ae _ | exact af _ | exact ab _ _ | rfl | (with_reducible decide)) ?_
 refine k9 g3 (by omega) fun e3=>?_
 repeat refine aw (by first | exact ae _ | exact af _ | exact ab _ _ | rfl | (with_reducible decide)) ?_
 exact b8 ⟨rfl,_,_,_,_,_,congrArg Prod.fst e3,g3.wk (by omega),aM _,aM _,LW.sum (by omega)⟩
theorem W7 (hX:XR rd x.1) (hd:x.1.1=6) (p:Pr rd x n):res (He x) (eL rd x):=by
 obtain ⟨g2,v1,v2⟩:=p
 repeat refine aw (by first | exact ae _ | exact af _ | exact ab _ _ | rfl | (with_reducible decide)) ?_
 refine cC (Yz g2 (by omega) ?_ ?_ ?_ ?_ ?_) fun ⟨n3,hn3,g3⟩=>?_
 ·exact ⟨hX.w (by omega),v1,v2⟩
 ·exact fun e=>(hX.both (by omega) e).1
 ·exact fun e=>(hX.both (by omega) e).2
 ·exact fun _=>hX.pt (by omega)
 ·exact hX.cf (by omega)
 repeat refine aw (by first | exact ae _ | exact af _ | exact ab _ _ | rfl | (with_reducible decide)) ?_
 refine k9 g3 (by omega) fun e3=>?_
 repeat refine aw (by first | exact ae _ | exact af _ | exact ab _ _ | rfl | (with_reducible decide)) ?_
 exact b8 ⟨rfl,_,_,_,_,_,congrArg Prod.fst e3,g3.wk (by omega),aM _,aM _,LW.sum (by omega)⟩
theorem U1 (hX:XR rd x.1) (hd:x.1.1=10) (p:Pr rd x n):res (Dq x) (eL rd x):=by
 obtain ⟨g2,v1,v2⟩:=p
 repeat refine aw (by first | exact ae _ | exact af _ | exact ab _ _ | rfl | (with_reducible decide)) ?_
 refine cC (X6 g2 (by omega) ?_ ?_ ?_ ?_) fun ⟨n3,hn3,g3⟩=>?_
 ·exact ⟨hX.w (by omega),v1,v2⟩
 ·exact fun e=>(hX.both (by omega) e).1
 ·exact fun e=>(hX.both (by omega) e).2
 ·exact fun e=>absurd hd e
 repeat refine aw (by first | exact ae _ | exact af _ | exact ab _ _ | rfl | (with_reducible decide)) ?_
 refine k9 g3 (by omega) fun e3=>?_
 repeat refine aw (by first | exact ae _ | exact af _ | exact ab _ _ | rfl | (with_reducible decide)) ?_
 exact b8 ⟨rfl,_,_,_,_,_,congrArg Prod.fst e3,g3.wk (by omega),aM _,aM _,LW.sum (by omega)⟩
theorem W6 (hX:XR rd x.1) (hd:x.1.1=7) (p:Pr rd x n):res (Hd x) (eL rd x):=by
 obtain ⟨g2,v1,v2⟩:=p
 repeat refine aw (by first | exact ae _ | exact af _ | exact ab _ _ | rfl | (with_reducible decide)) ?_
 refine cC (X5 g2 (by omega) ?_ ?_ ?_ ?_) fun ⟨n3,hn3,g3⟩=>?_
 ·exact ⟨hX.w (by omega),v1,v2⟩
 ·exact fun e=>(hX.both (by omega) e).1
 ·exact fun e=>(hX.both (by omega) e).2
 ·exact fun _=>hX.pt (by omega)
 repeat refine aw (by first | exact ae _ | exact af _ | exact ab _ _ | rfl | (with_reducible decide)) ?_
 refine k9 g3 (by omega) fun e3=>?_
 repeat refine aw (by first | exact ae _ | exact af _ | exact ab _ _ | rfl | (with_reducible decide)) ?_
 exact b8 ⟨rfl,_,_,_,_,_,congrArg Prod.fst e3,g3.wk (by omega),aM _,aM _,LW.bit (by omega)⟩
theorem U0 (hX:XR rd x.1) (hd:x.1.1=11) (p:Pr rd x n):res (Dp x) (eL rd x):=by
 obtain ⟨g2,v1,v2⟩:=p
 repeat refine aw (by first | exact ae _ | exact af _ | exact ab _ _ | rfl | (with_reducible decide)) ?_
 refine cC (X5 g2 (by omega) ?_ ?_ ?_ ?_) fun ⟨n3,hn3,g3⟩=>?_
 ·exact ⟨hX.w (by omega),v1,v2⟩
 ·exact fun e=>(hX.both (by omega) e).1
 ·exact fun e=>(hX.both (by omega) e).2
 ·exact fun e=>absurd hd e
 repeat refine aw (by first | exact ae _ | exact af _ | exact ab _ _ | rfl | (with_reducible decide)) ?_
 refine k9 g3 (by omega) fun e3=>?_
 repeat refine aw (by first | exact ae _ | exact af _ | exact ab _ _ | rfl | (with_reducible decide)) ?_
 exact b8 ⟨rfl,_,_,_,_,_,congrArg Prod.fst e3,g3.wk (by omega),aM _,aM _,LW.bit (by omega)⟩
theorem W9 (hX:XR rd x.1) (hd:x.1.1=4) (p:Pr rd x n):res (Hg x) (eL rd x):=by
 obtain ⟨g2,v1,v2⟩:=p
 repeat refine aw (by first | exact ae _ | exact af _ | exact ab _ _ | rfl | (with_reducible decide)) ?_
 refine cC (Yy g2 (by omega) ?_ ?_ ?_ ?_) fun ⟨n3,hn3,g3⟩=>?_
 ·exact ⟨hX.w (by omega),v1,v2⟩
 ·exact fun e=>(hX.both (by omega) e).1
 ·exact fun e=>(hX.both (by omega) e).2
 ·exact fun _=>hX.pt (by omega)
 repeat refine aw (by first | exact ae _ | exact af _ | exact ab _ _ | rfl | (with_reducible decide)) ?_
 refine k9 g3 (by omega) fun e3=>?_
 repeat refine aw (by first | exact ae _ | exact af _ | exact ab _ _ | rfl | (with_reducible decide)) ?_
 exact b8 ⟨rfl,_,_,_,_,_,congrArg Prod.fst e3,g3.wk (by omega),aM _,aM _,LW.bit (by omega)⟩
theorem W4 (hX:XR rd x.1) (hd:x.1.1=9) (p:Pr rd x n):res (Hb x) (eL rd x):=by
 obtain ⟨g2,v1,v2⟩:=p
 repeat refine aw (by first | exact ae _ | exact af _ | exact ab _ _ | rfl | (with_reducible decide)) ?_
 refine cC (Yx g2 (by omega) ?_ ?_ ?_ ?_) fun ⟨n3,hn3,g3⟩=>?_
 ·exact ⟨hX.w (by omega),v1,v2⟩
 ·exact fun e=>(hX.both (by omega) e).1
 ·exact fun e=>(hX.both (by omega) e).2
 ·exact fun _=>hX.pt (by omega)
 repeat refine aw (by first | exact ae _ | exact af _ | exact ab _ _ | rfl | (with_reducible decide)) ?_
 refine k9 g3 (by omega) fun e3=>?_
 repeat refine aw (by first | exact ae _ | exact af _ | exact ab _ _ | rfl | (with_reducible decide)) ?_
 exact b8 ⟨rfl,_,_,_,_,_,congrArg Prod.fst e3,g3.wk (by omega),aM _,aM _,LW.bit (by omega)⟩
theorem UZ (hX:XR rd x.1) (hd:x.1.1=12) (p:Pr rd x n):res (Dn x) (eL rd x):=by
 obtain ⟨g2,v1,v2⟩:=p
 repeat refine aw (by first | exact ae _ | exact af _ | exact ab _ _ | rfl | (with_reducible decide)) ?_
 refine cC (Yw g2 (by omega) ?_ ?_ ?_) fun ⟨n3,hn3,g3⟩=>?_
 ·exact ⟨hX.w (by omega),v1,v2⟩
 ·exact hX.tA (by omega)
 ·exact hX.pt (by omega)
 repeat refine aw (by first | exact ae _ | exact af _ | exact ab _ _ | rfl | (with_reducible decide)) ?_
 refine k9 g3 (by omega) fun e3=>?_
 repeat refine aw (by first | exact ae _ | exact af _ | exact ab _ _ | rfl | (with_reducible decide)) ?_
 exact b8 ⟨rfl,_,_,_,_,_,congrArg Prod.fst e3,g3.wk (by omega),aM _,aM _,LW.one (by omega)⟩
theorem UY (hX:XR rd x.1) (hd:x.1.1=13) (p:Pr rd x n):res (Dm x) (eL rd x):=by
 obtain ⟨g2,v1,v2⟩:=p
 repeat refine aw (by first | exact ae _ | exact af _ | exact ab _ _ | rfl | (with_reducible decide)) ?_
 refine cC (Yv g2 (by omega) ?_ ?_ ?_) fun ⟨n3,hn3,g3⟩=>?_
 ·exact ⟨hX.w (by omega),v1,v2⟩
 ·exact hX.tA (by omega)
 ·exact hX.pt (by omega)
 repeat refine aw (by first | exact ae _ | exact af _ | exact ab _ _ | rfl | (with_reducible decide)) ?_
 refine k9 g3 (by omega) fun e3=>?_
 repeat refine aw (by first | exact ae _ | exact af _ | exact ab _ _ | rfl | (with_reducible decide)) ?_
 exact b8 ⟨rfl,_,_,_,_,_,congrArg Prod.fst e3,g3.wk (by omega),aM _,aM _,LW.one (by omega)⟩
theorem UX (hX:XR rd x.1) (hd:x.1.1=14) (p:Pr rd x n):res (Dl x) (eL rd x):=by
 obtain ⟨g2,v1,v2⟩:=p
 repeat refine aw (by first | exact ae _ | exact af _ | exact ab _ _ | rfl | (with_reducible decide)) ?_
 refine cC (Yu g2 (by omega) ?_ ?_ ?_) fun ⟨n3,hn3,g3⟩=>?_
 ·exact ⟨hX.w (by omega),v1,v2⟩
 ·exact hX.tA (by omega)
 ·exact fun _=>hX.pt (by omega)
 repeat refine aw (by first | exact ae _ | exact af _ | exact ab _ _ | rfl | (with_reducible decide)) ?_
 refine k9 g3 (by omega) fun e3=>?_
 repeat refine aw (by first | exact ae _ | exact af _ | exact ab _ _ | rfl | (with_reducible decide)) ?_
 exact b8 ⟨rfl,_,_,_,_,_,congrArg Prod.fst e3,g3.wk (by omega),aM _,aM _,LW.sum (by omega)⟩
theorem UW (hX:XR rd x.1) (hd:x.1.1=15) (p:Pr rd x n):res (Dk x) (eL rd x):=by
 obtain ⟨g2,v1,v2⟩:=p
 repeat refine aw (by first | exact ae _ | exact af _ | exact ab _ _ | rfl | (with_reducible decide)) ?_
 refine cC (Yt g2 (by omega) ?_ ?_ ?_) fun ⟨n3,hn3,g3⟩=>?_
 ·exact ⟨hX.w (by omega),v1,v2⟩
 ·exact hX.tA (by omega)
 ·exact hX.pt (by omega)
 repeat refine aw (by first | exact ae _ | exact af _ | exact ab _ _ | rfl | (with_reducible decide)) ?_
 refine k9 g3 (by omega) fun e3=>?_
 repeat refine aw (by first | exact ae _ | exact af _ | exact ab _ _ | rfl | (with_reducible decide)) ?_
 exact b8 ⟨rfl,_,_,_,_,_,congrArg Prod.fst e3,g3.wk (by omega),aM _,aM _,LW.put (by omega)⟩
theorem UU (hX:XR rd x.1) (hd:x.1.1=16) (p:Pr rd x n):res (Dj x) (eL rd x):=by
 obtain ⟨g2,v1,v2⟩:=p
 have hsh:x.1.2.2.2.2.1.1=1→Kf rd 11:=fun e=>by have h:=hX.sh (by omega) (by omega) e;rw [hd] at h;exact h
 repeat refine aw (by first | exact ae _ | exact af _ | exact ab _ _ | rfl | (with_reducible decide)) ?_
 refine cC (Ys g2 (by omega) ?_ ?_ ?_ ?_ ?_) fun ⟨n3,hn3,g3⟩=>?_
 ·exact ⟨hX.w (by omega),v1,v2⟩
 ·exact hX.tA (by omega)
 ·exact hX.pt (by omega)
 ·exact hsh
 ·exact hX.w8 (by omega) (by omega)
 repeat refine aw (by first | exact ae _ | exact af _ | exact ab _ _ | rfl | (with_reducible decide)) ?_
 refine k9 g3 (by omega) fun e3=>?_
 repeat refine aw (by first | exact ae _ | exact af _ | exact ab _ _ | rfl | (with_reducible decide)) ?_
 exact b8 ⟨rfl,_,_,_,_,_,congrArg Prod.fst e3,g3.wk (by omega),aM _,aM _,(by have e:=LW.shift (x:=x.1) (by omega);unfold PV at e;rw [hd] at e;exact e)⟩
theorem UT (hX:XR rd x.1) (hd:x.1.1=17) (p:Pr rd x n):res (Di x) (eL rd x):=by
 obtain ⟨g2,v1,v2⟩:=p
 have hsh:x.1.2.2.2.2.1.1=1→Kf rd 12:=fun e=>by have h:=hX.sh (by omega) (by omega) e;rw [hd] at h;exact h
 repeat refine aw (by first | exact ae _ | exact af _ | exact ab _ _ | rfl | (with_reducible decide)) ?_
 refine cC (Yr g2 (by omega) ?_ ?_ ?_ ?_ ?_) fun ⟨n3,hn3,g3⟩=>?_
 ·exact ⟨hX.w (by omega),v1,v2⟩
 ·exact hX.tA (by omega)
 ·exact hX.pt (by omega)
 ·exact hsh
 ·exact hX.w8 (by omega) (by omega)
 repeat refine aw (by first | exact ae _ | exact af _ | exact ab _ _ | rfl | (with_reducible decide)) ?_
 refine k9 g3 (by omega) fun e3=>?_
 repeat refine aw (by first | exact ae _ | exact af _ | exact ab _ _ | rfl | (with_reducible decide)) ?_
 exact b8 ⟨rfl,_,_,_,_,_,congrArg Prod.fst e3,g3.wk (by omega),aM _,aM _,(by have e:=LW.shift (x:=x.1) (by omega);unfold PV at e;rw [hd] at e;exact e)⟩
theorem US (hX:XR rd x.1) (hd:x.1.1=18) (p:Pr rd x n):res (Dh x) (eL rd x):=by
 obtain ⟨g2,v1,v2⟩:=p
 have hsh:x.1.2.2.2.2.1.1=1→Kf rd 13:=fun e=>by have h:=hX.sh (by omega) (by omega) e;rw [hd] at h;exact h
 repeat refine aw (by first | exact ae _ | exact af _ | exact ab _ _ | rfl | (with_reducible decide)) ?_
 refine cC (Yq g2 (by omega) ?_ ?_ ?_ ?_ ?_) fun ⟨n3,hn3,g3⟩=>?_
 ·exact ⟨hX.w (by omega),v1,v2⟩
 ·exact hX.tA (by omega)
 ·exact hX.pt (by omega)
 ·exact hsh
 ·exact hX.w8 (by omega) (by omega)
 repeat refine aw (by first | exact ae _ | exact af _ | exact ab _ _ | rfl | (with_reducible decide)) ?_
 refine k9 g3 (by omega) fun e3=>?_
 repeat refine aw (by first | exact ae _ | exact af _ | exact ab _ _ | rfl | (with_reducible decide)) ?_
 exact b8 ⟨rfl,_,_,_,_,_,congrArg Prod.fst e3,g3.wk (by omega),aM _,aM _,(by have e:=LW.shift (x:=x.1) (by omega);unfold PV at e;rw [hd] at e;exact e)⟩
theorem UR (hX:XR rd x.1) (hd:x.1.1=19) (p:Pr rd x n):res (Dg x) (eL rd x):=by
 obtain ⟨g2,v1,v2⟩:=p
 have hsh:x.1.2.2.2.2.1.1=1→Kf rd 14:=fun e=>by have h:=hX.sh (by omega) (by omega) e;rw [hd] at h;exact h
 repeat refine aw (by first | exact ae _ | exact af _ | exact ab _ _ | rfl | (with_reducible decide)) ?_
 refine cC (Yp g2 (by omega) ?_ ?_ ?_ ?_ ?_) fun ⟨n3,hn3,g3⟩=>?_
 ·exact ⟨hX.w (by omega),v1,v2⟩
 ·exact hX.tA (by omega)
 ·exact hX.pt (by omega)
 ·exact hsh
 ·exact hX.w8 (by omega) (by omega)
 repeat refine aw (by first | exact ae _ | exact af _ | exact ab _ _ | rfl | (with_reducible decide)) ?_
 refine k9 g3 (by omega) fun e3=>?_
 repeat refine aw (by first | exact ae _ | exact af _ | exact ab _ _ | rfl | (with_reducible decide)) ?_
 exact b8 ⟨rfl,_,_,_,_,_,congrArg Prod.fst e3,g3.wk (by omega),aM _,aM _,(by have e:=LW.shift (x:=x.1) (by omega);unfold PV at e;rw [hd] at e;exact e)⟩
theorem UQ (hX:XR rd x.1) (hd:x.1.1=20) (p:Pr rd x n):res (Df x) (eL rd x):=by
 obtain ⟨g2,v1,v2⟩:=p
 have hsh:x.1.2.2.2.2.1.1=1→Kf rd 15:=fun e=>by have h:=hX.sh (by omega) (by omega) e;rw [hd] at h;exact h
 repeat refine aw (by first | exact ae _ | exact af _ | exact ab _ _ | rfl | (with_reducible decide)) ?_
 refine cC (Yo g2 (by omega) ?_ ?_ ?_ ?_ ?_) fun ⟨n3,hn3,g3⟩=>?_
 ·exact ⟨hX.w (by omega),v1,v2⟩
 ·exact hX.tA (by omega)
 ·exact hX.pt (by omega)
 ·exact hsh
 ·exact hX.w8 (by omega) (by omega)
 repeat refine aw (by first | exact ae _ | exact af _ | exact ab _ _ | rfl | (with_reducible decide)) ?_
 refine k9 g3 (by omega) fun e3=>?_
 repeat refine aw (by first | exact ae _ | exact af _ | exact ab _ _ | rfl | (with_reducible decide)) ?_
 exact b8 ⟨rfl,_,_,_,_,_,congrArg Prod.fst e3,g3.wk (by omega),aM _,aM _,(by have e:=LW.shift (x:=x.1) (by omega);unfold PV at e;rw [hd] at e;exact e)⟩
theorem UP (hX:XR rd x.1) (hd:x.1.1=21) (p:Pr rd x n):res (De x) (eL rd x):=by
 obtain ⟨g2,v1,v2⟩:=p
 repeat refine aw (by first | exact ae _ | exact af _ | exact ab _ _ | rfl | (with_reducible decide)) ?_
 refine cC (Yn g2 (by omega) ?_ ?_ ?_ ?_) fun ⟨n3,hn3,g3⟩=>?_
 ·exact ⟨hX.w (by omega),v1,v2⟩
 ·exact fun e=>(hX.both (by omega) e).1
 ·exact fun e=>(hX.both (by omega) e).2
 ·exact hX.pt (by omega)
 repeat refine aw (by first | exact ae _ | exact af _ | exact ab _ _ | rfl | (with_reducible decide)) ?_
 refine k9 g3 (by omega) fun e3=>?_
 repeat refine aw (by first | exact ae _ | exact af _ | exact ab _ _ | rfl | (with_reducible decide)) ?_
 exact b8 ⟨rfl,_,_,_,_,_,congrArg Prod.fst e3,g3.wk (by omega),aM _,aM _,LW.gz (by omega)⟩
theorem UO (hX:XR rd x.1) (hd:x.1.1=22) (p:Pr rd x n):res (Dd x) (eL rd x):=by
 obtain ⟨g2,v1,v2⟩:=p
 repeat refine aw (by first | exact ae _ | exact af _ | exact ab _ _ | rfl | (with_reducible decide)) ?_
 refine cC (Ym g2 (by omega) ?_ ?_ ?_) fun ⟨n3,hn3,g3⟩=>?_
 ·exact ⟨hX.w (by omega),v1,v2⟩
 ·exact hX.tA (by omega)
 ·exact hX.ax (by omega)
 repeat refine aw (by first | exact ae _ | exact af _ | exact ab _ _ | rfl | (with_reducible decide)) ?_
 refine k9 g3 (by omega) fun e3=>?_
 repeat refine aw (by first | exact ae _ | exact af _ | exact ab _ _ | rfl | (with_reducible decide)) ?_
 exact b8 ⟨rfl,_,_,_,_,_,congrArg Prod.fst e3,g3.wk (by omega),aM _,aM _,LW.mul (by omega)⟩
theorem UN (hX:XR rd x.1) (hd:x.1.1=23) (p:Pr rd x n):res (Dc x) (eL rd x):=by
 obtain ⟨g2,v1,v2⟩:=p
 repeat refine aw (by first | exact ae _ | exact af _ | exact ab _ _ | rfl | (with_reducible decide)) ?_
 refine cC (Yl g2 (by omega) ?_ ?_ ?_ ?_) fun ⟨n3,hn3,g3⟩=>?_
 ·exact ⟨hX.w (by omega),v1,v2⟩
 ·exact hX.tA (by omega)
 ·exact hX.ax (by omega)
 ·exact hX.dx (by omega)
 repeat refine aw (by first | exact ae _ | exact af _ | exact ab _ _ | rfl | (with_reducible decide)) ?_
 refine k9 g3 (by omega) fun e3=>?_
 repeat refine aw (by first | exact ae _ | exact af _ | exact ab _ _ | rfl | (with_reducible decide)) ?_
 exact b8 ⟨rfl,_,_,_,_,_,congrArg Prod.fst e3,g3.wk (by omega),aM _,aM _,LW.div (by omega)⟩
theorem UM (hX:XR rd x.1) (hd:x.1.1=24) (p:Pr rd x n):res (Db x) (eL rd x):=by
 obtain ⟨g2,v1,v2⟩:=p
 repeat refine aw (by first | exact ae _ | exact af _ | exact ab _ _ | rfl | (with_reducible decide)) ?_
 refine cC (Yk g2 (by omega) ?_ ?_ ?_) fun ⟨n3,hn3,g3⟩=>?_
 ·exact ⟨hX.w (by omega),v1,v2⟩
 ·exact hX.tA (by omega)
 ·exact hX.sp (by omega) (by omega)
 repeat refine aw (by first | exact ae _ | exact af _ | exact ab _ _ | rfl | (with_reducible decide)) ?_
 refine k9 g3 (by omega) fun e3=>?_
 repeat refine aw (by first | exact ae _ | exact af _ | exact ab _ _ | rfl | (with_reducible decide)) ?_
 exact b8 ⟨rfl,_,_,_,_,_,congrArg Prod.fst e3,g3.wk (by omega),aM _,aM _,LW.push (by omega)⟩
theorem UL (hX:XR rd x.1) (hd:x.1.1=25) (p:Pr rd x n):res (Da x) (eL rd x):=by
 obtain ⟨g2,v1,v2⟩:=p
 repeat refine aw (by first | exact ae _ | exact af _ | exact ab _ _ | rfl | (with_reducible decide)) ?_
 refine cC (Yj g2 (by omega) ?_ ?_ ?_) fun ⟨n3,hn3,g3⟩=>?_
 ·exact ⟨hX.w (by omega),v1,v2⟩
 ·exact hX.pop (by omega)
 ·exact hX.sp (by omega) (by omega)
 repeat refine aw (by first | exact ae _ | exact af _ | exact ab _ _ | rfl | (with_reducible decide)) ?_
 refine k9 g3 (by omega) fun e3=>?_
 repeat refine aw (by first | exact ae _ | exact af _ | exact ab _ _ | rfl | (with_reducible decide)) ?_
 exact b8 ⟨rfl,_,_,_,_,_,congrArg Prod.fst e3,g3.wk (by omega),aM _,aM _,LW.pop (by omega)⟩
theorem UK (hX:XR rd x.1) (hd:x.1.1=26) (p:Pr rd x n):res (C9 x) (eL rd x):=by
 obtain ⟨g2,v1,v2⟩:=p
 repeat refine aw (by first | exact ae _ | exact af _ | exact ab _ _ | rfl | (with_reducible decide)) ?_
 refine cC (X1 g2 (by omega) (hX.sp (by omega) (by omega)) (aM _)) fun ⟨n3,hn3,g3⟩=>?_
 repeat refine aw (by first | exact ae _ | exact af _ | exact ab _ _ | rfl | (with_reducible decide)) ?_
 refine cC (Xg g3) fun ⟨n4,hn4,g4,v4⟩=>?_
 repeat refine aw (by first | exact ae _ | exact af _ | exact ab _ _ | rfl | (with_reducible decide)) ?_
 refine k9 g4 (by omega) fun e3=>?_
 repeat refine aw (by first | exact ae _ | exact af _ | exact ab _ _ | rfl | (with_reducible decide)) ?_
 exact b8 ⟨rfl,_,_,_,_,_,congrArg Prod.fst e3,g4.wk (by omega),v4,aM _,LW.push (by omega)⟩
theorem UJ (hX:XR rd x.1) (hd:x.1.1=27) (p:Pr rd x n):res (C8 x) (eL rd x):=by
 obtain ⟨g2,v1,v2⟩:=p
 repeat refine aw (by first | exact ae _ | exact af _ | exact ab _ _ | rfl | (with_reducible decide)) ?_
 refine cC (XZ g2 (by omega) (hX.sp (by omega) (by omega))) fun ⟨n3,hn3,g3,v3⟩=>?_
 repeat refine aw (by first | exact ae _ | exact af _ | exact ab _ _ | rfl | (with_reducible decide)) ?_
 refine k9 g3 (by omega) fun e3=>?_
 repeat refine aw (by first | exact ae _ | exact af _ | exact ab _ _ | rfl | (with_reducible decide)) ?_
 exact b8 ⟨rfl,_,_,_,_,_,congrArg Prod.fst e3,g3.wk (by omega),v3,aM _,LW.push (by omega)⟩
theorem UI (hX:XR rd x.1) (hd:x.1.1=28) (p:Pr rd x n):res (C7 x) (eL rd x):=by
 obtain ⟨g2,v1,v2⟩:=p
 repeat refine aw (by first | exact ae _ | exact af _ | exact ab _ _ | rfl | (with_reducible decide)) ?_
 refine dS (fun _=>?_) fun _=>?_
 ·repeat refine aw (by first | exact ae _ | exact af _ | exact ab _ _ | rfl | (with_reducible decide)) ?_
  refine cC (Xg g2) fun ⟨n3,hn3,g3,v3⟩=>?_
  repeat refine aw (by first | exact ae _ | exact af _ | exact ab _ _ | rfl | (with_reducible decide)) ?_
  refine k9 g3 (by omega) fun e3=>?_
  repeat refine aw (by first | exact ae _ | exact af _ | exact ab _ _ | rfl | (with_reducible decide)) ?_
  exact b8 ⟨rfl,_,_,_,_,_,congrArg Prod.fst e3,g3.wk (by omega),v3,aM _,LW.no (by omega)⟩
 ·repeat refine aw (by first | exact ae _ | exact af _ | exact ab _ _ | rfl | (with_reducible decide)) ?_
  refine cC (Ey g2 (by omega) (hX.w (by omega)) (hX.tA (by omega)) v1) fun ⟨n3,hn3,g3,v3⟩=>?_
  repeat refine aw (by first | exact ae _ | exact af _ | exact ab _ _ | rfl | (with_reducible decide)) ?_
  refine k9 g3 (by omega) fun e3=>?_
  repeat refine aw (by first | exact ae _ | exact af _ | exact ab _ _ | rfl | (with_reducible decide)) ?_
  exact b8 ⟨rfl,_,_,_,_,_,congrArg Prod.fst e3,g3.wk (by omega),v3,aM _,LW.no (by omega)⟩
theorem UH (hX:XR rd x.1) (hd:x.1.1=29) (p:Pr rd x n):res (C6 x) (eL rd x):=by
 obtain ⟨g2,v1,v2⟩:=p
 repeat refine aw (by first | exact ae _ | exact af _ | exact ab _ _ | rfl | (with_reducible decide)) ?_
 refine cC (Xf g2 (by omega) ?_) fun ⟨n3,hn3,g3,v3⟩=>?_
 ·exact hX.cc (by omega) (by omega)
 repeat refine aw (by first | exact ae _ | exact af _ | exact ab _ _ | rfl | (with_reducible decide)) ?_
 refine cC (Xg g3) fun ⟨n4,hn4,g4,v4⟩=>?_
 have v3:=bh hn4 v3
 repeat refine aw (by first | exact ae _ | exact af _ | exact ab _ _ | rfl | (with_reducible decide)) ?_
 refine k9 g4 (by omega) fun e3=>?_
 repeat refine aw (by first | exact ae _ | exact af _ | exact ab _ _ | rfl | (with_reducible decide)) ?_
 exact b8 ⟨rfl,_,_,_,_,_,congrArg Prod.fst e3,g4.wk (by omega),v4,v3,LW.no (by omega)⟩
theorem UG (hX:XR rd x.1) (hd:x.1.1=30) (p:Pr rd x n):res (C5 x) (eL rd x):=by
 obtain ⟨g2,v1,v2⟩:=p
 repeat refine aw (by first | exact ae _ | exact af _ | exact ab _ _ | rfl | (with_reducible decide)) ?_
 refine cC (Yi g2 (by omega) ?_ ?_ ?_ ?_ ?_) fun ⟨n3,hn3,g3⟩=>?_
 ·exact ⟨hX.w (by omega),v1,v2⟩
 ·exact hX.tA (by omega)
 ·exact hX.tB (by omega)
 ·exact hX.cc (by omega) (by omega)
 ·exact hX.pt (by omega)
 repeat refine aw (by first | exact ae _ | exact af _ | exact ab _ _ | rfl | (with_reducible decide)) ?_
 refine k9 g3 (by omega) fun e3=>?_
 repeat refine aw (by first | exact ae _ | exact af _ | exact ab _ _ | rfl | (with_reducible decide)) ?_
 exact b8 ⟨rfl,_,_,_,_,_,congrArg Prod.fst e3,g3.wk (by omega),aM _,aM _,LW.put (by omega)⟩
theorem UF (hX:XR rd x.1) (hd:x.1.1=31) (p:Pr rd x n):res (C4 x) (eL rd x):=by
 obtain ⟨g2,v1,v2⟩:=p
 repeat refine aw (by first | exact ae _ | exact af _ | exact ab _ _ | rfl | (with_reducible decide)) ?_
 refine cC (Yh g2 (by omega) ?_ ?_ ?_) fun ⟨n3,hn3,g3⟩=>?_
 ·exact ⟨hX.w (by omega),v1,v2⟩
 ·exact hX.cc (by omega) (by omega)
 ·exact hX.pt (by omega)
 repeat refine aw (by first | exact ae _ | exact af _ | exact ab _ _ | rfl | (with_reducible decide)) ?_
 refine k9 g3 (by omega) fun e3=>?_
 repeat refine aw (by first | exact ae _ | exact af _ | exact ab _ _ | rfl | (with_reducible decide)) ?_
 exact b8 ⟨rfl,_,_,_,_,_,congrArg Prod.fst e3,g3.wk (by omega),aM _,aM _,LW.put (by omega)⟩
theorem UE (hX:XR rd x.1) (hd:x.1.1=32) (p:Pr rd x n):res (C3 x) (eL rd x):=by
 obtain ⟨g2,v1,v2⟩:=p
 repeat refine aw (by first | exact ae _ | exact af _ | exact ab _ _ | rfl | (with_reducible decide)) ?_
 refine cC (Yg g2 (by omega) ?_ ?_ ?_) fun ⟨n3,hn3,g3⟩=>?_
 ·exact ⟨hX.w (by omega),v1,v2⟩
 ·exact hX.tB (by omega)
 ·exact hX.pt (by omega)
 repeat refine aw (by first | exact ae _ | exact af _ | exact ab _ _ | rfl | (with_reducible decide)) ?_
 refine k9 g3 (by omega) fun e3=>?_
 repeat refine aw (by first | exact ae _ | exact af _ | exact ab _ _ | rfl | (with_reducible decide)) ?_
 exact b8 ⟨rfl,_,_,_,_,_,congrArg Prod.fst e3,g3.wk (by omega),aM _,aM _,LW.put (by omega)⟩
theorem UD (hX:XR rd x.1) (hd:x.1.1=33) (p:Pr rd x n):res (C2 x) (eL rd x):=by
 obtain ⟨g2,v1,v2⟩:=p
 repeat refine aw (by first | exact ae _ | exact af _ | exact ab _ _ | rfl | (with_reducible decide)) ?_
 refine cC (Yf g2 (by omega) ?_ ?_ ?_) fun ⟨n3,hn3,g3⟩=>?_
 ·exact ⟨hX.w (by omega),v1,v2⟩
 ·exact hX.tB (by omega)
 ·exact hX.pt (by omega)
 repeat refine aw (by first | exact ae _ | exact af _ | exact ab _ _ | rfl | (with_reducible decide)) ?_
 refine k9 g3 (by omega) fun e3=>?_
 repeat refine aw (by first | exact ae _ | exact af _ | exact ab _ _ | rfl | (with_reducible decide)) ?_
 exact b8 ⟨rfl,_,_,_,_,_,congrArg Prod.fst e3,g3.wk (by omega),aM _,aM _,LW.put (by omega)⟩
theorem UC (hX:XR rd x.1) (hd:x.1.1=35) (p:Pr rd x n):res (C1 x) (eL rd x):=by
 obtain ⟨g2,v1,v2⟩:=p
 repeat refine aw (by first | exact ae _ | exact af _ | exact ab _ _ | rfl | (with_reducible decide)) ?_
 refine cC (U7 g2 (by omega) ?_ ?_ ?_) fun ⟨n3,hn3,g3⟩=>?_
 ·exact v1
 ·exact v2
 ·exact ⟨by show 35≤x.1.1;omega,by show x.1.1≤39;omega,hX.qA⟩
 repeat refine aw (by first | exact ae _ | exact af _ | exact ab _ _ | rfl | (with_reducible decide)) ?_
 refine k9 g3 (by omega) fun e3=>?_
 repeat refine aw (by first | exact ae _ | exact af _ | exact ab _ _ | rfl | (with_reducible decide)) ?_
 exact b8 ⟨rfl,_,_,_,_,_,congrArg Prod.fst e3,g3.wk (by omega),aM _,aM _,LW.no (by omega)⟩
theorem UB (hX:XR rd x.1) (hd:x.1.1=36) (p:Pr rd x n):res (C0 x) (eL rd x):=by
 obtain ⟨g2,v1,v2⟩:=p
 repeat refine aw (by first | exact ae _ | exact af _ | exact ab _ _ | rfl | (with_reducible decide)) ?_
 refine cC (U7 g2 (by omega) ?_ ?_ ?_) fun ⟨n3,hn3,g3⟩=>?_
 ·exact v1
 ·exact v2
 ·exact ⟨by show 35≤x.1.1;omega,by show x.1.1≤39;omega,hX.qA⟩
 repeat refine aw (by first | exact ae _ | exact af _ | exact ab _ _ | rfl | (with_reducible decide)) ?_
 refine k9 g3 (by omega) fun e3=>?_
 repeat refine aw (by first | exact ae _ | exact af _ | exact ab _ _ | rfl | (with_reducible decide)) ?_
 exact b8 ⟨rfl,_,_,_,_,_,congrArg Prod.fst e3,g3.wk (by omega),aM _,aM _,LW.no (by omega)⟩
theorem UA (hX:XR rd x.1) (hd:x.1.1=37) (p:Pr rd x n):res (CZ x) (eL rd x):=by
 obtain ⟨g2,v1,v2⟩:=p
 repeat refine aw (by first | exact ae _ | exact af _ | exact ab _ _ | rfl | (with_reducible decide)) ?_
 refine cC (U7 g2 (by omega) ?_ ?_ ?_) fun ⟨n3,hn3,g3⟩=>?_
 ·exact v1
 ·exact v2
 ·exact ⟨by show 35≤x.1.1;omega,by show x.1.1≤39;omega,hX.qA⟩
 repeat refine aw (by first | exact ae _ | exact af _ | exact ab _ _ | rfl | (with_reducible decide)) ?_
 refine k9 g3 (by omega) fun e3=>?_
 repeat refine aw (by first | exact ae _ | exact af _ | exact ab _ _ | rfl | (with_reducible decide)) ?_
 exact b8 ⟨rfl,_,_,_,_,_,congrArg Prod.fst e3,g3.wk (by omega),aM _,aM _,LW.no (by omega)⟩
theorem Uz (hX:XR rd x.1) (hd:x.1.1=38) (p:Pr rd x n):res (CY x) (eL rd x):=by
 obtain ⟨g2,v1,v2⟩:=p
 repeat refine aw (by first | exact ae _ | exact af _ | exact ab _ _ | rfl | (with_reducible decide)) ?_
 refine cC (U7 g2 (by omega) ?_ ?_ ?_) fun ⟨n3,hn3,g3⟩=>?_
 ·exact v1
 ·exact v2
 ·exact ⟨by show 35≤x.1.1;omega,by show x.1.1≤39;omega,hX.qA⟩
 repeat refine aw (by first | exact ae _ | exact af _ | exact ab _ _ | rfl | (with_reducible decide)) ?_
 refine k9 g3 (by omega) fun e3=>?_
 repeat refine aw (by first | exact ae _ | exact af _ | exact ab _ _ | rfl | (with_reducible decide)) ?_
 exact b8 ⟨rfl,_,_,_,_,_,congrArg Prod.fst e3,g3.wk (by omega),aM _,aM _,LW.no (by omega)⟩
theorem Uy (hX:XR rd x.1) (hd:x.1.1=39) (p:Pr rd x n):res (CX x) (eL rd x):=by
 obtain ⟨g2,v1,v2⟩:=p
 repeat refine aw (by first | exact ae _ | exact af _ | exact ab _ _ | rfl | (with_reducible decide)) ?_
 refine cC (U7 g2 (by omega) ?_ ?_ ?_) fun ⟨n3,hn3,g3⟩=>?_
 ·exact v1
 ·exact v2
 ·exact ⟨by show 35≤x.1.1;omega,by show x.1.1≤39;omega,hX.qA⟩
 repeat refine aw (by first | exact ae _ | exact af _ | exact ab _ _ | rfl | (with_reducible decide)) ?_
 refine k9 g3 (by omega) fun e3=>?_
 repeat refine aw (by first | exact ae _ | exact af _ | exact ab _ _ | rfl | (with_reducible decide)) ?_
 exact b8 ⟨rfl,_,_,_,_,_,congrArg Prod.fst e3,g3.wk (by omega),aM _,aM _,LW.no (by omega)⟩
theorem Xd (hd:x.1.1=34) (p:Pr rd x n):res (Be x) (eL rd x):=by
 obtain ⟨g2,v1,v2⟩:=p
 repeat refine aw (by first | exact ae _ | exact af _ | exact ab _ _ | rfl | (with_reducible decide)) ?_
 refine k9 g2 (by omega) fun e3=>?_
 repeat refine aw (by first | exact ae _ | exact af _ | exact ab _ _ | rfl | (with_reducible decide)) ?_
 exact b8 ⟨rfl,_,_,_,_,_,congrArg Prod.fst e3,g2.wk (by omega),aM _,aM _,LW.no (by omega)⟩
theorem c5 (hX:XR rd x.1) (p:Pr rd x n):res (xl x) (eL rd x):=by
 unfold xl
 refine bB.2 ⟨fun h=>Xc hX (al.1 h) p,fun h1=>?_⟩
 refine bB.2 ⟨fun h=>Xb hX (al.1 h) p,fun h2=>?_⟩
 refine bB.2 ⟨fun h=>Xa hX (al.1 h) p,fun h3=>?_⟩
 refine bB.2 ⟨fun h=>W8 hX (al.1 h) p,fun h5=>?_⟩
 refine bB.2 ⟨fun h=>W5 hX (al.1 h) p,fun h8=>?_⟩
 refine bB.2 ⟨fun h=>W7 hX (al.1 h) p,fun h6=>?_⟩
 refine bB.2 ⟨fun h=>U1 hX (al.1 h) p,fun uP=>?_⟩
 refine bB.2 ⟨fun h=>W6 hX (al.1 h) p,fun h7=>?_⟩
 refine bB.2 ⟨fun h=>U0 hX (al.1 h) p,fun oI=>?_⟩
 refine bB.2 ⟨fun h=>W9 hX (al.1 h) p,fun h4=>?_⟩
 refine bB.2 ⟨fun h=>W4 hX (al.1 h) p,fun h9=>?_⟩
 refine bB.2 ⟨fun h=>UZ hX (al.1 h) p,fun lC=>?_⟩
 refine bB.2 ⟨fun h=>UY hX (al.1 h) p,fun jt=>?_⟩
 refine bB.2 ⟨fun h=>UX hX (al.1 h) p,fun ku=>?_⟩
 refine bB.2 ⟨fun h=>UW hX (al.1 h) p,fun gO=>?_⟩
 refine bB.2 ⟨fun h=>UU hX (al.1 h) p,fun hJ=>?_⟩
 refine bB.2 ⟨fun h=>UT hX (al.1 h) p,fun my=>?_⟩
 refine bB.2 ⟨fun h=>US hX (al.1 h) p,fun wX=>?_⟩
 refine bB.2 ⟨fun h=>UR hX (al.1 h) p,fun yy=>?_⟩
 refine bB.2 ⟨fun h=>UQ hX (al.1 h) p,fun BW=>?_⟩
 refine bB.2 ⟨fun h=>UP hX (al.1 h) p,fun Bh=>?_⟩
 refine bB.2 ⟨fun h=>UO hX (al.1 h) p,fun DA=>?_⟩
 refine bB.2 ⟨fun h=>UN hX (al.1 h) p,fun Dz=>?_⟩
 refine bB.2 ⟨fun h=>UM hX (al.1 h) p,fun Dy=>?_⟩
 refine bB.2 ⟨fun h=>UL hX (al.1 h) p,fun yx=>?_⟩
 refine bB.2 ⟨fun h=>UK hX (al.1 h) p,fun yw=>?_⟩
 refine bB.2 ⟨fun h=>UJ hX (al.1 h) p,fun yv=>?_⟩
 refine bB.2 ⟨fun h=>UI hX (al.1 h) p,fun Dx=>?_⟩
 refine bB.2 ⟨fun h=>UH hX (al.1 h) p,fun Dw=>?_⟩
 refine bB.2 ⟨fun h=>UG hX (al.1 h) p,fun Dv=>?_⟩
 refine bB.2 ⟨fun h=>UF hX (al.1 h) p,fun h31=>?_⟩
 refine bB.2 ⟨fun h=>UE hX (al.1 h) p,fun h32=>?_⟩
 refine bB.2 ⟨fun h=>UD hX (al.1 h) p,fun h33=>?_⟩
 refine bB.2 ⟨fun h=>UC hX (al.1 h) p,fun h35=>?_⟩
 refine bB.2 ⟨fun h=>UB hX (al.1 h) p,fun h36=>?_⟩
 refine bB.2 ⟨fun h=>UA hX (al.1 h) p,fun h37=>?_⟩
 refine bB.2 ⟨fun h=>Uz hX (al.1 h) p,fun h38=>?_⟩
 refine bB.2 ⟨fun h=>Uy hX (al.1 h) p,fun h39=>?_⟩
 have hd:x.1.1=34:=by
  have:=hX.Ya
  have f:∀ {k:Int},ak x.1.1 k=false→x.1.1≠k:=fun h=>bS.1 h
  have e1:=f h1
  have e2:=f h2
  have e3:=f h3
  have e5:=f h5
  have e8:=f h8
  have e6:=f h6
  have e10:=f uP
  have e7:=f h7
  have e11:=f oI
  have e4:=f h4
  have e9:=f h9
  have e12:=f lC
  have e13:=f jt
  have e14:=f ku
  have e15:=f gO
  have e16:=f hJ
  have e17:=f my
  have e18:=f wX
  have e19:=f yy
  have e20:=f BW
  have e21:=f Bh
  have e22:=f DA
  have e23:=f Dz
  have e24:=f Dy
  have e25:=f yx
  have e26:=f yw
  have e27:=f yv
  have e28:=f Dx
  have e29:=f Dw
  have e30:=f Dv
  have e31:=f h31
  have e32:=f h32
  have e33:=f h33
  have e35:=f h35
  have e36:=f h36
  have e37:=f h37
  have e38:=f h38
  have e39:=f h39
  omega
 exact Xd hd p
theorem q5 (hp:wH x.1) (hX:XR rd x.1):res (vC x) (eL rd x):=by
 have h0:G rd [] 32 [] 0:=⟨.nil 32,by simp⟩
 repeat refine aw (by first | exact ae _ | exact af _ | exact ab _ _ | rfl | (with_reducible decide)) ?_
 refine aw hp ?_
 repeat refine aw (by first | exact ae _ | exact af _ | exact ab _ _ | rfl | (with_reducible decide)) ?_
 refine dS (fun h=>?_) fun _=>?_
 ·have h:(!pL x.1)=true:=h
  rw [hX.right] at h;cases h
 repeat refine aw (by first | exact ae _ | exact af _ | exact ab _ _ | rfl | (with_reducible decide)) ?_
 refine cC (X8 (S1 x) h0 (by omega) hX.oA) fun ⟨n1,hn1,g1,v1⟩=>?_
 repeat refine aw (by first | exact ae _ | exact af _ | exact ab _ _ | rfl | (with_reducible decide)) ?_
 refine cC (X8 (S2 x) g1 (by omega) hX.oB) fun ⟨n2,hn2,g2,v2⟩=>?_
 repeat refine aw (by first | exact ae _ | exact af _ | exact ab _ _ | rfl | (with_reducible decide)) ?_
 refine aw CC ?_
 exact c5 hX ⟨g2,bh hn2 v1,v2⟩
end Go.bz.RL
end
section
namespace Go.bz.RM
open Go.bz.RL
open Go.bz
noncomputable section
theorem nv {x:DI} (ha:nD (x.2.2.2.1).2.1) (hb:nD (x.2.2.2.2.1).2.1) (hc:wV x.2.1):wH x∧pL x=(lU x).isSome:=by
 have h1:=LA ha hb hc
 have h2:=Of ha hb hc
 refine ⟨⟨h1,trivial⟩,?_⟩
 show (Og x).2.2=_
 rw [h2]
 cases lU x<;>rfl
theorem Rz {x:DI} (hd:wV x.1) (hc:wV x.2.1):pre6 x∧WS x=(lU x).isSome:=by
 refine ⟨⟨LG hd hc,trivial⟩,?_⟩
 show (R4 x).2=_
 rw [Ok hd hc]
 cases lU x<;>rfl
def Rv:Kd→Bool | .x=>false | .xm=>false | _=>true
def XY:Kd→Bool | .r=>true | .m=>true | .rm=>true | _=>false
def U9 (d:Nat):Bool:=(decide (1≤d)&&decide (d≤21)&&!decide (d=10)&&!decide (d=11))||(decide (30≤d)&&decide (d≤33))||decide (d=25)
def Q9 (d:Nat) (r:l3):Bool:=
 decide (1≤d)&&decide (d≤39)&&(decide (35≤d)||(Rv (lB r.2.1)&&Rv (lB r.2.2.1)&&(ak r.1 1||ak r.1 4||ak r.1 8||ak r.1 16)))&&(!U9 d||XY (lB r.2.1))
theorem K7:(List.range 256).all (fun d=>(List.range 16).all fun c=>(bI ((d:Nat),(c:Nat))).all (Q9 d))=true:=by decide +kernel
theorem NG {d c:Int} (hd:wV d) (hc:0≤c∧c < 16):∀ r∈bI (d,c),Q9 d.toNat r=true:=by
 obtain ⟨d',rfl⟩:∃ d':Nat,d=d':=⟨d.toNat,(Int.toNat_of_nonneg hd.1).symm⟩
 obtain ⟨c',rfl⟩:∃ c':Nat,c=c':=⟨c.toNat,(Int.toNat_of_nonneg hc.1).symm⟩
 have h1:d' < 256:=by have:=hd.2;omega
 have h2:c' < 16:=by omega
 have h:=K7
 rw [List.all_eq_true] at h
 have h:=h d' (List.mem_range.2 h1)
 rw [List.all_eq_true] at h
 have h:=h c' (List.mem_range.2 h2)
 rw [List.all_eq_true] at h
 intro r hr
 rw [Int.toNat_natCast]
 exact h r hr
theorem Dr {k:Kd} {o:DO} (h:k.b o=true):(o.1=2→xR o)∧(Rv k=true→o.1=1→BS o)∧(XY k=true→o.1=1∨o.1=2):=by
 have rm:iS o=true→(o.1=2→xR o)∧(o.1=1→BS o)∧(o.1=1∨o.1=2):=fun h=>by
  rcases (kG _).1 h with h | h
  ·exact ⟨fun h2=>(by rw [ma h] at h2;cases h2),fun _=>h,.inl (ma h)⟩
  ·exact ⟨fun _=>h,fun h2=>(by rw [h.1] at h2;cases h2),.inr h.1⟩
 have im:xL o=true→(o.1=2→xR o)∧(o.1=1→BS o):=fun h=>by
  have h1:o.1=3:=by
   unfold xL at h
   rw [Bool.and_eq_true] at h
   exact al.1 h.1
  exact ⟨fun h2=>(by rw [h1] at h2;cases h2),fun h2=>(by rw [h1] at h2;cases h2)⟩
 have ve:qf o=true→o.1=1:=fun h=>by
  unfold qf at h
  rw [Bool.and_eq_true] at h
  exact al.1 h.1
 cases k<;>simp only [Kd.b] at h
 ·unfold Lf at h;rw [Bool.and_eq_true] at h
  have:=rm h.2
  exact ⟨this.1,fun _=>this.2.1,fun _=>this.2.2⟩
 ·unfold rF at h;rw [Bool.and_eq_true] at h
  have:=rm h.2
  exact ⟨this.1,fun _=>this.2.1,fun _=>this.2.2⟩
 ·have:=rm h
  exact ⟨this.1,fun _=>this.2.1,fun _=>this.2.2⟩
 ·exact ⟨(im h).1,fun _=>(im h).2,fun e=>by cases e⟩
 ·rw [Bool.and_eq_true] at h;exact ⟨(im h.1).1,fun _=>(im h.1).2,fun e=>by cases e⟩
 ·rw [Bool.and_eq_true] at h;exact ⟨(im h.1).1,fun _=>(im h.1).2,fun e=>by cases e⟩
 ·rw [Bool.and_eq_true] at h;exact ⟨(im h.1).1,fun _=>(im h.1).2,fun e=>by cases e⟩
 ·exact ⟨fun h2=>(by rw [ve h] at h2;cases h2),(fun e=>by cases e),fun e=>by cases e⟩
 ·rw [Bool.or_eq_true] at h
  refine ⟨fun h2=>?_,(fun e=>by cases e),fun e=>by cases e⟩
  rcases h with h | h
  ·rw [ve h] at h2;cases h2
  ·unfold rF at h;rw [Bool.and_eq_true] at h;exact (rm h.2).1 h2
 ·have e:=lI.1 h
  have h1:o.1=1:=by rw [e];rfl
  refine ⟨fun h2=>(by rw [h1] at h2;cases h2),fun _ _=>?_,fun e=>by cases e⟩
  have h2:o.2.1=1:=by rw [e];rfl
  exact ⟨by rw [h2];exact e,by omega,by omega⟩
 ·have e:=lI.1 h
  have h1:o.1=0:=by rw [e];rfl
  exact ⟨fun h2=>(by rw [h1] at h2;cases h2),fun _ h2=>(by rw [h1] at h2;cases h2),fun e=>by cases e⟩
structure RX (x:DI):Prop where
 right:pL x=true
 d:1≤x.1∧x.1≤39
 mA:x.2.2.2.1.1=2→xR x.2.2.2.1
 mB:x.2.2.2.2.1.1=2→xR x.2.2.2.2.1
 w:x.1≤34→x.2.2.1=1∨x.2.2.1=4∨x.2.2.1=8
 gA:x.1≤34→x.2.2.2.1.1=1→BS x.2.2.2.1
 gB:x.1≤34→x.2.2.2.2.1.1=1→BS x.2.2.2.2.1
 kA:(1≤x.1∧x.1≤21∧x.1≠10∧x.1≠11)∨(30≤x.1∧x.1≤33)∨x.1=25→x.2.2.2.1.1=1∨x.2.2.2.1.1=2
 cond:0≤x.2.1∧x.2.1 < 16
theorem S3 {x:DI} (ha:nD (x.2.2.2.1).2.1) (hb:nD (x.2.2.2.2.1).2.1) (hd:wV x.1) (hc:wV x.2.1) (h:pL x=true):RX x:=by
 have h0:=h
 rw [(nv ha hb hc).2] at h
 obtain ⟨r,hr⟩:=Option.isSome_iff_exists.1 h
 unfold lU at hr
 cases hm:F9 x with
 | false=>rw [hm] at hr;cases hr
 | true=>
  rw [hm] at hr
  have hr:(bI (x.1,x.2.1)).find? (di x)=some r:=hr
  have hfit:=List.find?_some hr
  have hmem:=List.mem_of_find?_eq_some hr
  have hcd:0≤x.2.1∧x.2.1 < 16:=by
   unfold F9 at hm
   rw [Bool.and_eq_true] at hm
   have:=cJ.1 hm.1
   exact ⟨hc.1,by omega⟩
  have hp:=NG hd hcd r hmem
  unfold di at hfit
  simp only [Bool.and_eq_true] at hfit
  obtain ⟨hw,hA,hB⟩:=hfit
  have fA:=Dr hA
  have fB:=Dr hB
  obtain ⟨d,hdd⟩:∃ d':Nat,x.1=d':=⟨x.1.toNat,(Int.toNat_of_nonneg hd.1).symm⟩
  rw [hdd,Int.toNat_natCast] at hp
  unfold Q9 at hp
  simp only [Bool.and_eq_true,Bool.or_eq_true,decide_eq_true_eq,Bool.not_eq_true'] at hp
  obtain ⟨⟨⟨p1,p2⟩,p3⟩,p4⟩:=hp
  have gp:x.1≤34→(Rv (lB r.2.1)=true∧Rv (lB r.2.2.1)=true)∧((r.1=1∨r.1=4)∨r.1=8)∨r.1=16→True:=fun _ _=>trivial
  have q3:x.1≤34→(Rv (lB r.2.1)=true∧Rv (lB r.2.2.1)=true)∧(((ak r.1 1=true∨ak r.1 4=true)∨ak r.1 8=true)∨ak r.1 16=true):=fun h=>by
   rcases p3 with p3 | p3
   ·omega
   ·exact p3
  refine ⟨h0,⟨by omega,by omega⟩,fA.1,fB.1,fun h34=>?_,fun h34=>fA.2.1 (q3 h34).1.1,fun h34=>fB.2.1 (q3 h34).1.2,fun hk=>?_,hcd⟩
  ·have h4:=(q3 h34).2
   simp only [al] at h4
   unfold gP at hw
   rcases h4 with ((h4 | h4) | h4) | h4<;>rw [h4] at hw<;>simp [ak] at hw<;>omega
  ·refine fA.2.2 ?_
   rcases p4 with p4 | p4
   ·exfalso
    unfold U9 at p4
    simp only [Bool.or_eq_false_iff,Bool.and_eq_false_iff,decide_eq_false_iff_not,Bool.not_eq_false',decide_eq_true_eq] at p4
    omega
   ·exact p4
end
end Go.bz.RM
end
section
namespace Go.bz.RM
open Go.bz.RL
open Go.bz
noncomputable section
variable {x:DI}
structure KX (x:DI):Prop where
 a2:x.1=2∨x.1=26∨x.1=27∨x.1=29∨x.1=34→(oA x).1≠2
 b2:(12≤x.1∧x.1≤20)∨(22≤x.1∧x.1≤29)∨x.1=31∨x.1=34→(oB x).1≠2
 w1:x.1≤34→x.1≠1→x.1≠31→x.2.2.1≠1
 pA:(oA x).1=1→0≤(oA x).2.1∧(oA x).2.1 < 32
 pB:(oB x).1=1→0≤(oB x).2.1∧(oB x).2.1 < 32
 sB:Hm x→(oB x).1=1∨(oB x).1=3
 cl:Hm x→(oB x).1=1→(oB x).2.1=1
 vA:35≤x.1→(oA x).1=1→16≤(oA x).2.1
def WN:Kd→Bool | .m=>true | .rm=>true | .xm=>true | _=>false
def WJ:Kd→Bool | .i8=>true | .u8=>true | .cl=>true | _=>false
def XT:Kd→Bool | .x=>true | .xm=>true | .m=>true | _=>false
theorem Ro {k:Kd} {o:DO} (h:k.b o=true) (hv:XT k=true) (h1:o.1=1):16≤o.2.1:=by
 have ve:qf o=true→16≤o.2.1:=fun h=>by
  unfold qf at h
  simp only [Bool.and_eq_true,al,cJ,bU] at h
  exact h.2.1
 have me:rF o=true→o.1=2:=fun h=>by
  unfold rF at h
  rw [Bool.and_eq_true] at h
  exact al.1 h.1
 cases k<;>simp only [Kd.b] at h<;>first | (cases hv;done) | skip
 ·have:=me h;omega
 ·exact ve h
 ·rw [Bool.or_eq_true] at h
  rcases h with h | h
  ·exact ve h
  ·have:=me h;omega
theorem Me {k:Kd} {o:DO} (h:k.b o=true):(WN k=false→o.1≠2)∧(o.1=1→0≤o.2.1∧o.2.1 < 32)∧(WJ k=true→(o.1=1∨o.1=3)∧(o.1=1→o.2.1=1)):=by
 have rm:iS o=true→(o.1=1→0≤o.2.1∧o.2.1 < 32):=fun h h1=>by
  rcases (kG _).1 h with h | h
  ·have:=h.2.1;have:=h.2.2;omega
  ·have:=h.1;omega
 have im:xL o=true→o.1=3:=fun h=>by
  unfold xL at h
  rw [Bool.and_eq_true] at h
  exact al.1 h.1
 have im2:o.1=3→(WN k=false→o.1≠2)∧(o.1=1→0≤o.2.1∧o.2.1 < 32)∧(WJ k=true→(o.1=1∨o.1=3)∧(o.1=1→o.2.1=1)):=fun h=>
  ⟨fun _=>by omega,fun _=>by omega,fun _=>⟨.inr h,fun _=>by omega⟩⟩
 have ve:qf o=true→o.1=1∧0≤o.2.1∧o.2.1 < 32:=fun h=>by
  unfold qf at h
  simp only [Bool.and_eq_true,al,cJ,bU] at h
  exact ⟨h.1,by omega,h.2.2.1⟩
 cases k<;>simp only [Kd.b] at h
 ·unfold Lf at h;rw [Bool.and_eq_true] at h
  refine ⟨fun _=>?_,rm h.2,fun e=>by cases e⟩
  have:=al.1 h.1;omega
 ·unfold rF at h;rw [Bool.and_eq_true] at h
  exact ⟨(fun e=>by cases e),rm h.2,fun e=>by cases e⟩
 ·exact ⟨(fun e=>by cases e),rm h,fun e=>by cases e⟩
 ·exact im2 (im h)
 ·rw [Bool.and_eq_true] at h;exact im2 (im h.1)
 ·rw [Bool.and_eq_true] at h;exact im2 (im h.1)
 ·rw [Bool.and_eq_true] at h;exact im2 (im h.1)
 ·have:=ve h
  exact ⟨fun _=>by omega,fun _=>this.2,fun e=>by cases e⟩
 ·refine ⟨fun e=>(by cases e),?_,fun e=>by cases e⟩
  rw [Bool.or_eq_true] at h
  rcases h with h | h
  ·exact fun _=>(ve h).2
  ·unfold rF at h;rw [Bool.and_eq_true] at h;exact rm h.2
 ·have e:=lI.1 h
  have h1:o.1=1:=by rw [e];rfl
  have h2:o.2.1=1:=by rw [e];rfl
  exact ⟨fun _=>by omega,fun _=>by omega,fun _=>⟨.inl h1,fun _=>h2⟩⟩
 ·have e:=lI.1 h
  have h1:o.1=0:=by rw [e];rfl
  exact ⟨fun _=>by omega,fun _=>by omega,fun e=>by cases e⟩
def Ra (d:Nat) (r:l3):Bool:=
 (!(decide (d=2)||(decide (d=26)||(decide (d=27)||(decide (d=29)||decide (d=34)))))||!WN (lB r.2.1))&&
 ((!((decide (12≤d)&&decide (d≤20))||((decide (22≤d)&&decide (d≤29))||(decide (d=31)||decide (d=34))))||!WN (lB r.2.2.1))&&
 ((decide (34 < d)||(decide (d=1)||(decide (d=31)||!ak r.1 1)))&&((!(decide (16≤d)&&decide (d≤20))||WJ (lB r.2.2.1))&&(decide (d < 35)||XT (lB r.2.1)))))
theorem K9:(List.range 256).all (fun d=>(List.range 16).all fun c=>(bI ((d:Nat),(c:Nat))).all (Ra d))=true:=by decide +kernel
theorem NH {d c:Int} (hd:wV d) (hc:0≤c∧c < 16):∀ r∈bI (d,c),Ra d.toNat r=true:=by
 obtain ⟨d',rfl⟩:∃ d':Nat,d=d':=⟨d.toNat,(Int.toNat_of_nonneg hd.1).symm⟩
 obtain ⟨c',rfl⟩:∃ c':Nat,c=c':=⟨c.toNat,(Int.toNat_of_nonneg hc.1).symm⟩
 have h1:d' < 256:=by have:=hd.2;omega
 have h2:c' < 16:=by omega
 have h:=K9
 rw [List.all_eq_true] at h
 have h:=h d' (List.mem_range.2 h1)
 rw [List.all_eq_true] at h
 have h:=h c' (List.mem_range.2 h2)
 rw [List.all_eq_true] at h
 intro r hr
 rw [Int.toNat_natCast]
 exact h r hr
theorem V4 (ha:nD (x.2.2.2.1).2.1) (hb:nD (x.2.2.2.2.1).2.1) (hd:wV x.1) (hc:wV x.2.1) (h:pL x=true):KX x:=by
 rw [(nv ha hb hc).2] at h
 obtain ⟨r,hr⟩:=Option.isSome_iff_exists.1 h
 unfold lU at hr
 cases hm:F9 x with
 | false=>rw [hm] at hr;cases hr
 | true=>
  rw [hm] at hr
  have hr:(bI (x.1,x.2.1)).find? (di x)=some r:=hr
  have hfit:=List.find?_some hr
  have hmem:=List.mem_of_find?_eq_some hr
  have hcd:0≤x.2.1∧x.2.1 < 16:=by
   unfold F9 at hm
   rw [Bool.and_eq_true] at hm
   have:=cJ.1 hm.1
   exact ⟨hc.1,by omega⟩
  have hp:=NH hd hcd r hmem
  unfold di at hfit
  simp only [Bool.and_eq_true] at hfit
  obtain ⟨hw,hA,hB⟩:=hfit
  have fA:=Me hA
  have fB:=Me hB
  obtain ⟨d,hdd⟩:∃ d':Nat,x.1=d':=⟨x.1.toNat,(Int.toNat_of_nonneg hd.1).symm⟩
  rw [hdd,Int.toNat_natCast] at hp
  unfold Ra at hp
  simp only [Bool.and_eq_true,Bool.or_eq_true,decide_eq_true_eq,Bool.not_eq_true',Bool.or_eq_false_iff,Bool.and_eq_false_iff,decide_eq_false_iff_not] at hp
  obtain ⟨p1,p2,p3,p4,p5⟩:=hp
  have hs:Hm x→WJ (lB r.2.2.1)=true:=fun h=>by
   have h1:=h.1
   have h2:=h.2
   rcases p4 with p4 | p4
   ·omega
   ·exact p4
  refine ⟨fun h=>fA.1 ?_,fun h=>fB.1 ?_,fun h1 h2 h3 h4=>?_,fA.2.1,fB.2.1,fun h=>(fB.2.2 (hs h)).1,fun h=>(fB.2.2 (hs h)).2,fun h=>Ro hA (p5.resolve_left (by omega))⟩
  ·rcases p1 with p1 | p1
   ·omega
   ·exact p1
  ·rcases p2 with p2 | p2
   ·omega
   ·exact p2
  ·rcases p3 with p3 | p3 | p3 | p3
   ·omega
   ·omega
   ·omega
   ·rw [h4] at hw
    have p3:r.1≠1:=bS.1 p3
    unfold gP at hw
    have q1:ak (1:Int) 4=false:=rfl
    have q2:ak (1:Int) 8=false:=rfl
    have q3:ak (1:Int) 16=false:=rfl
    rw [q1,q2,q3] at hw
    cases e1:ak r.1 4<;>cases e2:ak r.1 16<;>cases e3:ak r.1 32<;>rw [e1,e2,e3] at hw<;>simp [ak] at hw
    exact p3 hw.symm
theorem YE (K:KX x) (hd:x.1≤39) (hn:x.1=1∨x.1=2∨28≤x.1):xS x (vX x):=by
 refine uX (fun h=>Oy (n:=1) (by have:=al.1 h;omega)) fun h1=>uX (fun h=>Oy (n:=1) (by have:=al.1 h;omega)) fun h2=>?_
 refine uX (fun h=>Oy (n:=x.2.2.1) (by have:=al.1 h;omega)) fun h3=>uX (fun h=>Oy (n:=x.2.2.1) (by have:=al.1 h;omega)) fun h4=>?_
 refine uX (fun h=>YO (al.1 h) (K.a2 (by have:=al.1 h;omega))) fun h5=>uX (fun h=>XN (al.1 h) (K.b2 (by have:=al.1 h;omega))) fun h6=>?_
 refine uX (fun h=>XM (al.1 h) (K.a2 (by have:=al.1 h;omega)) (K.b2 (by have:=al.1 h;omega))) fun h7=>uX (fun h=>XL (al.1 h)) fun h8=>?_
 refine uX (fun h=>XK (al.1 h) (K.b2 (by have:=al.1 h;omega))) fun h9=>?_
 refine uX (fun h=>WT (by have:=al.1 h;omega)) fun uP=>uX (fun h=>WT (by have:=al.1 h;omega)) fun oI=>uX (fun h=>WT (by have:=al.1 h;omega)) fun lC=>uX (fun h=>WT (by have:=al.1 h;omega)) fun jt=>?_
 rw [bS] at h1 h2 h3 h4 h5 h6 h7 h8 h9 uP oI lC jt
 exact XJ (by omega) (K.a2 (by omega)) (K.b2 (by omega))
theorem Oh (K:KX x) (hd:x.1≤39) (hn:x.1=1∨x.1=2∨28≤x.1):yc x∧FF x (Gk x):=by
 obtain ⟨r,h,f⟩:=YE K hd hn
 refine ⟨⟨r,h⟩,?_⟩
 rw [show Gk x=r from dO h]
 exact f
theorem NL {f:aS} (h:FF x f):res (eT x f) (FF x):=by
 have go:∀ b:Bool,FF x (f.1,(f.2.1,(f.2.2.1,(f.2.2.2.1,(f.2.2.2.2.1,(f.2.2.2.2.2.1,(f.2.2.2.2.2.2.1,b))))))):=fun b=>⟨h.ra,h.rb,h.ga,h.gb,h.ex,h.wr,h.up,h.fi,h.fo,h.lr,h.lw⟩
 exact dS (fun _=>dS (fun _=>dS (fun _=>b8 (go _)) fun _=>b8 (go _)) fun _=>b8 (go _)) fun _=>b8 (go _)
theorem Ol (K:KX x) (hd:1≤x.1∧x.1≤39):LK x∧FF x (Gl x):=by
 have yx:=YH x (fun h=>K.b2 (by omega))
 have yw:=YG x (fun h=>K.b2 (by have:=h.1;have:=h.2;omega))
 have yv:=YF x (fun h=>K.a2 (by omega)) (fun h=>K.b2 (by omega))
 have p25:LD x:=yx.1
 have p26:LC x:=yw.1
 have p27:G0 x:=yv.1
 have f25:J7 x (Bq x):=yx.2
 have f26:M1 x (DJ x):=yw.2
 have f27:SK x (Bp x):=yv.2
 have no25:(!(Bq x).2)=true→¬((3≤x.1∧x.1≤15)∨x.1=21):=fun e h=>by
  unfold J7 at f25;rw [if_pos h] at f25;rw [f25.1] at e;cases e
 have no26:(!(DJ x).2)=true→¬(16≤x.1∧x.1≤20):=fun e h=>by
  unfold M1 at f26;rw [if_pos h] at f26;rw [f26.1] at e;cases e
 have no27:(!(Bp x).2)=true→¬(22≤x.1∧x.1≤27):=fun e h=>by
  unfold SK at f27;rw [if_pos h] at f27;rw [f27.1] at e;cases e
 have yes25:(!(Bq x).2)=false→FF x (Bq x).1:=fun e=>by
  unfold J7 at f25
  by_cases h:(3≤x.1∧x.1≤15)∨x.1=21
  ·rw [if_pos h] at f25;exact f25.2
  ·rw [if_neg h] at f25;rw [f25] at e;cases e
 have yes26:(!(DJ x).2)=false→FF x (DJ x).1:=fun e=>by
  unfold M1 at f26
  by_cases h:Hm x
  ·rw [if_pos h] at f26;exact f26.2
  ·rw [if_neg h] at f26;rw [f26] at e;cases e
 have yes27:(!(Bp x).2)=false→FF x (Bp x).1:=fun e=>by
  unfold SK at f27
  by_cases h:22≤x.1∧x.1≤27
  ·rw [if_pos h] at f27;exact f27.2
  ·rw [if_neg h] at f27;rw [f27] at e;cases e
 have no:∀ {b:Bool} {p:Prop},b=true→b=false→p:=fun h1 h2=>by rw [h1] at h2;cases h2
 have key:res (wc x) (FF x):=by
  refine aw p25 (dS (fun a=>aw p26 (dS (fun b=>aw p27 (dS (fun c=>?_) fun c=>NL (yes27 c))) fun b=>dS (fun b'=>no b' b) fun _=>NL (yes26 b))) fun a=>dS (fun a'=>no a' a) fun _=>dS (fun a'=>no a' a) fun _=>NL (yes25 a))
  have h:=Oh K hd.2 (by have:=no25 a;have:=no26 b;have:=no27 c;omega)
  exact aw h.1 (NL h.2)
 exact key.and
end
end Go.bz.RM
end
section
namespace Go.bz.RM
open Go.bz.RL
open Go.bz
noncomputable section
def WM (n:Int) (v:aF):Prop:=v.1=false→32≤v.2.1→v.2.1 < n
def Xk (n:Int) (d:bt):Prop:=WM n d.2.2.2.1∧WM n d.2.2.2.2.1∧WM n d.2.2.2.2.2.1
inductive TG:Int→RL.L→Prop where
 | nil (n:Int):TG n []
 | low {n:Int} {d:bt} {l:RL.L} (h:Xk n d) (hd:d.2.2.1 < 32) (t:TG n l):TG n (d :: l)
 | tmp {n:Int} {d:bt} {l:RL.L} (h:Xk n d) (hn:32≤n∧n < 64) (hd:d.2.2.1=n) (t:TG (n+1) l):TG n (d :: l)
theorem CU (c k v:Int):∀ m:List bM,gk c (nH k v m)=if c=k then v else gk c m
 | []=>by
  by_cases h:c=k
  ·rw [if_pos h];simp only [nH,gk,al.2 h,cond_true]
  ·rw [if_neg h];simp only [nH,gk,bS.2 h,cond_false]
 | e :: m=>by
  have ih:=CU c k v m
  by_cases hk:k=e.1
  ·simp only [nH,al.2 hk,cond_true]
   by_cases h:c=k
   ·rw [if_pos h];simp only [gk,al.2 h,cond_true]
   ·rw [if_neg h]
    have h2:c≠e.1:=by omega
    simp only [gk,bS.2 h,bS.2 h2,cond_false]
  ·simp only [nH,bS.2 hk,cond_false]
   by_cases h2:c=e.1
   ·rw [if_neg (by omega)];simp only [gk,al.2 h2,cond_true]
   ·simp only [gk,bS.2 h2,cond_false]
    exact ih
def Mp (m:List bM) (n:Int):Prop:=∀ c,gk c m=if 32≤c∧c < n then 1 else 0
theorem Mp.nil:Mp [] 32:=fun c=>by rw [if_neg (by omega)];rfl
theorem Mp.ins {m:List bM} {n:Int} (h:Mp m n) (hn:32≤n):Mp (nH n (aK .i64 (gk n m) 1) m) (n+1):=fun c=>by
 rw [h n,if_neg (show ¬(32≤n∧n < n) by omega),CU,h c]
 by_cases hc:c=n
 ·rw [if_pos hc,if_pos (by omega)];rfl
 ·rw [if_neg hc]
  by_cases h2:32≤c∧c < n
  ·rw [if_pos h2,if_pos (by omega)]
  ·rw [if_neg h2,if_neg (by omega)]
theorem zU {x:RL.L} {d:bt} {m:List bM} {n a b:Int} {vs:List aF} {k:Nat} {r:Bool} (hm:Mp m n) (hl:vs.length=3) (hk:k < 3) (ho:WM n (eZ ar vs k))
  (h:Ends (dT x) r (dT x (.h1 vs ((k+1:Nat):Int) a b m d))):Ends (dT x) r (dT x (.h1 vs (k:Int) a b m d)):=by
 have e:aK .i64 (k:Int) 1=((k+1:Nat):Int):=by rw [dH (by omega) (by omega)];omega
 have h2:Ends (dT x) r (dT x (.h2 vs (k:Int) a b m d)):=by
  simp only [dT,eJ]
  rw [e];exact h
 simp only [dT]
 rw [eI]
 refine ⟨fun _=>?_,fun hn=>by rw [dY] at hn;omega⟩
 simp only [eN,eI,eJ,eR,Int.toNat_natCast]
 refine ⟨by omega,by omega,by omega,fun h3=>⟨fun h4=>⟨fun h5=>?_,fun _=>h2⟩,fun _=>h2⟩,fun _=>h2⟩
 exfalso
 have h3:(eZ ar vs k).1=false:=by simpa using h3
 have h4:32≤(eZ ar vs k).2.1:=cJ.1 (by simpa using h4)
 have h6:=hm (eZ ar vs k).2.1
 rw [if_pos ⟨h4,ho h3 h4⟩] at h6
 rw [h6] at h5
 exact absurd (al.1 h5) (by decide)
theorem wL (x:RL.L) (hx:x.length≤1000):∀ (j i:Nat) (m:List bM) (n:Int),j+i=x.length→TG n (x.drop i)→Mp m n→Ends (dT x) true (dT x (.h0 (x.length:Int) (i:Int) m))
 | 0,i,m,n,hj,_,_=>by
  simp only [dT]
  rw [eI]
  exact ⟨fun h=>(by rw [bU] at h;omega),fun _=>.ret⟩
 | j+1,i,m,n,hj,ht,hm=>by
  have hi:i < x.length:=by omega
  simp only [dT]
  rw [eI]
  refine ⟨fun _=>?_,fun h=>by rw [dY] at h;omega⟩
  simp only [eN,eJ]
  refine ⟨by omega,by omega,by decide,by decide,by decide,?_⟩
  rw [Int.toNat_natCast,dU (c:=aZ) hi]
  rw [List.drop_eq_getElem_cons hi] at ht
  generalize x[i]=d at ht
  have e1:aK .i64 (i:Int) 1=((i+1:Nat):Int):=by rw [dH (by omega) (by omega)];omega
  have fin:Xk n d→Ends (dT x) true (dT x (.h3 (x.length:Int) (i:Int) m d))→Ends (dT x) true (dT x (.h1 [d.2.2.2.1,d.2.2.2.2.1,d.2.2.2.2.2.1] 0 (x.length:Int) (i:Int) m d)):=fun ho h=>by
   refine zU (k:=0) hm rfl (by decide) ho.1 (zU (k:=1) hm rfl (by decide) ho.2.1 (zU (k:=2) hm rfl (by decide) ho.2.2 ?_))
   simp only [dT]
   rw [eI]
   refine ⟨fun h=>?_,fun _=>?_⟩
   ·rw [bU] at h;exact absurd h (by decide)
   ·rw [eJ];exact h
  cases ht with
  | low ho hd t=>
   refine fin ho ?_
   simp only [dT,eI]
   refine ⟨fun h=>(by rw [cJ] at h;omega),fun _=>?_⟩
   rw [eJ,e1]
   exact wL x hx j (i+1) m n (by omega) t hm
  | tmp ho hn hd t=>
   refine fin ho ?_
   simp only [dT,eI,hd]
   refine ⟨fun _=>⟨fun _=>⟨fun h=>?_,fun _=>?_⟩,fun h=>?_⟩,fun h=>(by rw [mv] at h;omega)⟩
   ·rw [hm n,if_neg (by omega),bU] at h;exact absurd h (by decide)
   ·rw [eJ,e1]
    exact wL x hx j (i+1) _ (n+1) (by omega) t (hm.ins hn.1)
   ·have h:cj 64 n=true:=by simpa using h
    rw [cJ] at h;omega
theorem Rx {x:RL.L} (hx:x.length≤1000) (h:TG 32 x):Ig x∧Oa x=true:=by
 have key:Ends (dT x) true (rT x):=by
  simp only [rT,eJ]
  exact wL x hx x.length 0 [] 32 (by simp) (by simpa using h) Mp.nil
 exact ⟨⟨_,key⟩,dO key⟩
def Ar (v:List Bool) (n:Int):Prop:=v.length=64∧∀ c:Nat,c < 64→eZ .bool v c=decide (32≤(c:Int)∧(c:Int) < n)
theorem Ar.nil:Ar (List.replicate 64 false) 32:=⟨by simp,fun c hc=>by
 rw [dU (c:=.bool) (by simpa using hc),List.getElem_replicate]
 symm
 rw [decide_eq_false_iff_not]
 omega⟩
theorem Ar.ins {v:List Bool} {n:Int} (h:Ar v n) (hn:32≤n∧n < 64):Ar (v.set n.toNat true) (n+1):=⟨by simp [h.1],fun c hc=>by
 rw [dU (c:=.bool) (by simp [h.1];omega),List.getElem_set]
 split
 ·rename_i e
  symm;simp;omega
 ·rename_i e
  have:=h.2 c hc
  rw [dU (c:=.bool) (by rw [h.1];exact hc)] at this
  rw [this]
  have:(c:Int)≠n:=by omega
  congr 1
  exact propext ⟨fun h=>by omega,fun h=>by omega⟩⟩
end
end Go.bz.RM
end
section
namespace Go.bz.RM
open Go.bz.RL
open Go.bz
noncomputable section
theorem nw (op:Int):LJ op∧(gK op→pM op=true)∧(28≤op→op≤31→pM op=false):=by
 have key:res (qx op) (fun r=>(gK op→r=true)∧(28≤op→op≤31→r=false)):=by
  simp only [qx,bB,fF,beq_iff_eq,Bool.beq_eq_decide_eq,decide_eq_true_eq,decide_eq_false_iff_not,gK]
  refine ⟨fun h1=>⟨fun h2=>⟨fun h3=>⟨fun h4=>⟨fun h5=>⟨fun h=>?_,fun h h'=>?_⟩,fun h5=>⟨fun h=>?_,fun _ _=>trivial⟩⟩,fun h4=>⟨fun h=>?_,fun _ _=>trivial⟩⟩,fun h3=>⟨fun h=>?_,fun _ _=>trivial⟩⟩,fun h2=>⟨fun h=>?_,fun _ _=>trivial⟩⟩,fun h1=>⟨fun h=>?_,fun _ _=>trivial⟩⟩
  all_goals simp only [dr,gy,cJ,bU,Bool.not_eq_true] at *
  all_goals omega
 exact ⟨key.1,key.2⟩
end
end Go.bz.RM
end
section
namespace Go.bz.RM
open Go.bz.RL
open Go.bz
noncomputable section
theorem uS {S:RL.St} {l:RL.L} {o:DO} (h:o.1≠2):G1 (S,(l,o))∧aT (S,(l,o))=(l,wd 0):=by
 have key:res (qw (S,(l,o))) (fun r=>r=(l,wd 0)):=by
  refine dS (fun _=>?_) fun h1=>absurd (gy.1 h1) h
  exact aw (ae _) (aw rfl (aw rfl (b8 rfl)))
 exact key.and
theorem Mo {x:DI×Int} (hp:wH x.1) (h:pL x.1=false):EA x∧Hv x=([],2):=by
 have key:res (vC x) (fun r=>r=([],2)):=by
  refine aw hp (dS (fun _=>b8 rfl) fun h1=>?_)
  have h1:(!pL x.1)=false:=h1
  rw [h] at h1;cases h1
 exact key.and
def jd:DI:=(34,(0,(8,(VF,(VF,(0,1))))))
theorem Hn:nD 0:=⟨by decide,by decide⟩
theorem PE:wV 0:=⟨by decide,by decide⟩
theorem yh:wH jd∧pL jd=true:=by
 have h:=nv (x:=jd) Hn Hn PE
 exact ⟨h.1,h.2.trans (by decide +kernel)⟩
theorem u0:wH JI∧pL JI=false:=by
 have h:=nv (x:=JI) Hn Hn PE
 exact ⟨h.1,h.2.trans (by decide +kernel)⟩
def wW:bt:=dd 30 8 0 (wd 6) (wd 6) (wd 1)
theorem Oc:EA (jd,5)∧Hv (jd,5)=([wW],0):=by
 have hA:VF.1≠2:=by decide
 have e1:A1 (jd,5)=([],wd 0):=(uS (S:=S1 (jd,5)) (l:=[]) hA).2
 have e2:A2 (jd,5)=([],wd 0):=by
  have:=(uS (S:=S2 (jd,5)) (l:=(A1 (jd,5)).1) hA).2
  rw [e1] at this
  exact this
 have key:res (vC (jd,5)) (fun r=>r=([wW],0)):=by
  refine aw yh.1 (dS (fun h=>?_) fun _=>?_)
  ·have h:(!pL jd)=true:=h
   rw [yh.2] at h;cases h
  repeat refine aw (by first | exact ae _ | exact af _ | rfl | (with_reducible decide)) ?_
  refine aw (uS (S:=S1 (jd,5)) (l:=[]) hA).1 ?_
  repeat refine aw (by first | exact ae _ | exact af _ | rfl | (with_reducible decide)) ?_
  refine aw (uS (S:=S2 (jd,5)) (l:=(A1 (jd,5)).1) hA).1 ?_
  repeat refine aw (by first | exact ae _ | exact af _ | exact CC | rfl | (with_reducible decide)) ?_
  show res (xl (jd,5)) _
  unfold xl
  repeat refine bB.2 ⟨fun h=>absurd h (by decide),fun _=>?_⟩
  show res (Be (jd,5)) _
  repeat refine aw (by first | exact ae _ | exact af _ | rfl | (with_reducible decide)) ?_
  have p:=NM (jd,(8,((),(6,((A1 (jd,5)).2,((A2 (jd,5)).2,(wd 6,wd 1))))))) (A2 (jd,5)).1 30 8 0 [wd 6,wd 6,wd 1] (by rw [e2];simp)
  refine aw p.1 ?_
  repeat refine aw (by first | exact ae _ | exact af _ | rfl | (with_reducible decide)) ?_
  refine b8 ?_
  have h2:(cK ((jd,(8,((),(6,((A1 (jd,5)).2,((A2 (jd,5)).2,(wd 6,wd 1))))))),((A2 (jd,5)).1,(30,(8,(0,[wd 6,wd 6,wd 1])))))).1=[wW]:=by
   rw [p.2,e2];rfl
  exact congrArg (fun l:RL.L=>(l,(0:Int))) h2
 exact key.and
theorem DG (d:bt):Lt ([d],[d])∧RA ([d],[d])=true:=by
 have last:Ends (iY ([d],[d])) true (iY ([d],[d]) (.h0 1 1)):=by
  simp only [iY]
  rw [eI]
  exact ⟨fun h=>absurd h (by decide),fun _=>.ret⟩
 have first:Ends (iY ([d],[d])) true (iY ([d],[d]) (.h0 1 0)):=by
  simp only [iY]
  rw [eI]
  refine ⟨fun _=>?_,fun h=>absurd h (by decide)⟩
  simp only [eN]
  refine ⟨by decide,by simp,by decide,by simp,?_⟩
  rw [eI]
  refine ⟨fun h=>?_,fun _=>?_⟩
  ·rw [xh (c:=aZ) rfl] at h;cases h
  ·rw [eJ];exact last
 have key:Ends (iY ([d],[d])) true (qo ([d],[d])):=by
  simp only [qo]
  rw [eI]
  refine ⟨fun h=>absurd h (by simp [dG]),fun _=>?_⟩
  rw [eJ];exact first
 exact ⟨⟨_,key⟩,dO key⟩
theorem Mr (d:bt):LF ([d],[d])∧Oj ([d],[d])=true:=by
 have key:res (wb ([d],[d])) (fun r=>r=true):=en.2 ⟨(DG d).1,fF.2 (DG d).2⟩
 exact key.and
def BO:bt:=(1,(8,(0,((fC 32),((false,(0,0)),((false,(0,0)),JI))))))
theorem Ht:Ig [BO]∧Oa [BO]=false:=by
 have two:Ends (dT [BO]) false (dT [BO] (.h1 [cl 32,(false,(0,0)),(false,(0,0))] 0 1 0 [] BO)):=by
  simp only [dT]
  rw [eI]
  refine ⟨fun _=>?_,fun h=>absurd h (by decide)⟩
  simp only [eN]
  refine ⟨by decide,by decide,by decide,?_⟩
  simp only [eI]
  refine ⟨fun _=>⟨fun _=>⟨fun _=>.ret,fun h=>absurd h (by decide)⟩,fun h=>absurd h (by decide)⟩,fun h=>absurd h (by decide)⟩
 have key:Ends (dT [BO]) false (rT [BO]):=by
  simp only [rT]
  rw [eJ]
  simp only [dT]
  rw [eI]
  refine ⟨fun _=>?_,fun h=>absurd h (by simp [cF])⟩
  simp only [eN]
  refine ⟨by decide,by simp,by decide,by decide,by decide,?_⟩
  rw [eJ]
  exact two
 exact ⟨⟨_,key⟩,dO key⟩
theorem oJ:NO ()∧WR ()=true:=by
 have hn:=Oc
 have hz:=Mo (x:=(JI,5)) u0.1 u0.2
 have h8:Ig [wW]∧Oa [wW]=true:=Rx (by simp) (.low ⟨fun h=>(by cases h),fun h=>(by cases h),fun h=>by cases h⟩ (by decide) (.nil _))
 have yy:=Mr wW
 have key:res (B0 ()) (fun r=>r=true):=by
  refine aw hn.1 (aw hz.1 ?_)
  have n5:=hn.2
  have z5:=hz.2
  rw [show Hv ((34,(0,(8,((0,(0,(0,(0,(0,(0,(false,0))))))),((0,(0,(0,(0,(0,(0,(false,0))))))),(0,1)))))),5)=([wW],0) from n5,
   show Hv ((0,(0,(0,((0,(0,(0,(0,(0,(0,(false,0))))))),((0,(0,(0,(0,(0,(0,(false,0))))))),(0,0)))))),5)=([],2) from z5]
  have no:∀ {b:Bool} {p:Prop},b=true→b=false→p:=fun h1 h2=>by rw [h1] at h2;cases h2
  refine dS (fun _=>?_) fun h=>no (by decide) h
  refine dS (fun _=>?_) fun h=>no (by decide) h
  refine aw (by decide) (aw (by decide) ?_)
  refine dS (fun _=>?_) fun h=>no (by decide) h
  refine aw (by decide) (aw (by decide) (aw (ae _) ?_))
  refine dS (fun _=>?_) fun h=>no (by rw [show (dB ar (eZ aZ [wW] 0).2.2.2.1 (aP 6))=true from xh (c:=ar) rfl (wd 6)];rfl) h
  refine dS (fun _=>?_) fun h=>no (by decide) h
  refine aw h8.1 ?_
  refine dS (fun _=>?_) fun h=>no (by rw [show Oa ([wW],(0:Int)).1=true from h8.2];rfl) h
  refine aw yy.1 ?_
  refine dS (fun _=>?_) fun h=>no (by rw [show Oj (([wW],(0:Int)).1,([wW],(0:Int)).1)=true from yy.2];rfl) h
  refine aw (af _) (aw (by decide) (aw (by decide) ?_))
  refine aw Ht.1 (b8 ?_)
  have e:Oa [BO]=false:=Ht.2
  show (!Oa [BO])=true
  rw [e];rfl
 exact key.and
end
end Go.bz.RM
end
section
namespace Go.bz.RM
open Go.bz.RL
open Go.bz Go.RowKit
noncomputable section
theorem wf_u8 {c:Int} (h:TC.wf (.int .u8) c):wV c:=by
 simp only [TC.wf,Lit.wf] at h
 have e1:IntKind.u8.min=0:=rfl
 have e2:IntKind.u8.max=255:=rfl
 have:IntKind.u8.min≤c∧c≤IntKind.u8.max:=by simpa using h
 rw [e1,e2] at this
 exact ⟨this.1,by omega⟩
theorem wf_i64 {c:Int} (h:TC.wf (.int .i64) c):nD c:=by
 simp only [TC.wf,Lit.wf] at h
 have e1:IntKind.i64.min = -9223372036854775808:=rfl
 have e2:IntKind.i64.max=9223372036854775807:=rfl
 have:IntKind.i64.min≤c∧c≤IntKind.i64.max:=by simpa using h
 rw [e1,e2] at this
 exact ⟨this.1,by omega⟩
structure WI (x:DI):Prop where
 d:wV x.1
 c:wV x.2.1
 a:nD (x.2.2.2.1).2.1
 b:nD (x.2.2.2.2.1).2.1
theorem SV {x:DI} (h:TC.wf bA x):WI x:=by
 have h4:TC.wf CO x.2.2.2.1:=h.2.2.2.1
 have h5:TC.wf CO x.2.2.2.2.1:=h.2.2.2.2.1
 exact ⟨wf_u8 h.1,wf_u8 h.2.1,wf_i64 h4.2.1,wf_i64 h5.2.1⟩
theorem WL {rd:Int→Prop} {o:DO} (h:o.1=2→xR o) (hb:o.1=2→0≤o.2.2.1→rd o.2.2.1) (hi:o.1=2→0≤o.2.2.2.1→rd o.2.2.2.1):WU rd o:=by
 refine ⟨fun h2 h0=>⟨?_,hb h2 h0⟩,fun h2 h0=>⟨?_,hi h2 h0⟩,fun h2 h0=>?_⟩
 all_goals
  obtain ⟨_,_,_,_,_,h3⟩:=h h2
  omega
theorem lu {o:DO} (h:BS o):0≤o.2.1∧o.2.1≤15:=⟨h.2.1,by have:=h.2.2;omega⟩
theorem SW {w:Int} (h:w=1∨w=4∨w=8):aN .u64 (gz .i64 8 w)≠0:=by
 rcases h with rfl | rfl | rfl<;>decide
theorem M8 {x:DI} (w:WI x) (h:RX x):XR (fun _=>True) x:=by
 have h6:=Rz w.d w.c
 have ku:=nv w.a w.b w.c
 refine ⟨h.right,⟨h6.1,by rw [h6.2,← ku.2];exact h.right⟩,h.d,WL h.mA (fun _ _=>trivial) (fun _ _=>trivial),WL h.mB (fun _ _=>trivial) (fun _ _=>trivial),fun h34=>?_,fun _ BW=>SW (h.w (by omega)),
  fun hd _=>⟨fun h1=>?_,fun h1=>?_⟩,fun hd h1=>?_,fun hd h1=>?_,fun hd=>⟨h.kA (by omega),fun h1=>?_⟩,fun hd=>⟨h.kA (by omega),fun h1=>?_⟩,fun _=>trivial,fun _ _=>⟨fun _=>⟨trivial,trivial⟩,fun _=>⟨trivial,trivial⟩,fun _=>⟨trivial,trivial,trivial⟩,fun _ _ _=>trivial⟩,
  fun _ _ _=>⟨trivial,trivial,trivial,fun _=>⟨trivial,trivial,trivial⟩⟩,fun _=>trivial,fun _=>trivial,fun _ _=>trivial⟩
 ·rcases h.w h34 with e | e | e<;>omega
 ·have:=lu (h.gA (by omega) h1);exact ⟨this.1,this.2,trivial⟩
 ·have:=lu (h.gB (by omega) h1);exact ⟨this.1,this.2,trivial⟩
 ·have:=lu (h.gA (by omega) h1);exact ⟨this.1,this.2,trivial⟩
 ·have:=lu (h.gB (by omega) h1);exact ⟨this.1,this.2,trivial⟩
 ·have:=lu (h.gA (by omega) h1);exact ⟨this.1,this.2,fun _=>trivial⟩
 ·have:=lu (h.gA (by omega) h1);exact ⟨this.1,this.2,fun _=>trivial⟩
end
end Go.bz.RM
end
section
namespace Go.bz.RM
open Go.bz.RL
open Go.bz
noncomputable section
variable {x:DI} {f:aS}
def BN (c:Int):Int:=eZ (.int .u8) [1,2,4,8,16] (c - 16).toNat
def GR (f:aS) (c:Int):Prop:=(c < 16→c∈f.1)∧(16≤c→cP .u8 f.2.2.2.1 (BN c)≠0)
theorem lO {c:Int} (h:c∈f.1) (h2:c < 16):GR f c:=⟨fun _=>h,fun h3=>by omega⟩
theorem jf {c i:Int} (h:f.2.2.2.1=i) (h2:16≤c) (h3:cP .u8 i (BN c)≠0):GR f c:=⟨fun h4=>(by omega),fun _=>by rw [h];exact h3⟩
theorem CQ (h:fa x=false):sC x=false:=by
 cases hn:sC x with
 | false=>rfl
 | true=>
  exfalso
  have h70:(j9 x).val=true:=hn
  have h109:(jT x).val=false:=h
  simp only [j9,jT,dp,dm] at h70 h109
  generalize ak x.2.2.2.1.1 1=a at h70 h109
  generalize ak x.2.2.2.2.1.1 1=b at h70 h109
  generalize ak x.2.2.2.1.2.1 x.2.2.2.2.1.2.1=c at h70 h109
  generalize ak x.1 9=d at h70 h109
  generalize ak x.1 8=e at h70 h109
  generalize ak x.1 36=g at h70 h109
  cases a<;>cases b<;>cases c<;>cases d<;>cases e<;>cases g<;>first | (exact absurd h70 (by decide)) | exact absurd h109 (by decide)
def Yb (c:Int):Bool:=
 let i:=mC c
 let k:=jZ .u8 c 1
 (!ak k 6||(dG (cP .u8 i 1) 0&&dG (cP .u8 i 2) 0))&&((!ak k 12||(dG (cP .u8 i 4) 0&&dG (cP .u8 i 8) 0))&&
 ((!ak k 14||(dG (cP .u8 i 2) 0&&(dG (cP .u8 i 4) 0&&dG (cP .u8 i 8) 0)))&&(ak k 6||(ak k 12||(ak k 14||(cj 16 (cN k)&&dG (cP .u8 i (BN (cN k))) 0))))))
theorem OC:(List.range 16).all (fun c=>Yb (c:Nat))=true:=by decide +kernel
theorem Wp {c:Int} (hc:0≤c∧c < 16) (h:f.2.2.2.1=mC c):WB (GR f) (jZ .u8 c 1):=by
 obtain ⟨c',rfl⟩:∃ c':Nat,c=c':=⟨c.toNat,(Int.toNat_of_nonneg hc.1).symm⟩
 have h0:=OC
 rw [List.all_eq_true] at h0
 have h0:=h0 c' (List.mem_range.2 (by omega))
 unfold Yb at h0
 simp only [Bool.and_eq_true,Bool.or_eq_true,Bool.not_eq_true',al,bS,dr,cJ] at h0
 obtain ⟨h1,h2,h3,h4⟩:=h0
 refine ⟨fun e=>?_,fun e=>?_,fun e=>?_,fun e1 e2 e3=>?_⟩
 ·have h1:=h1.resolve_left (fun h=>h e)
  exact ⟨jf h (by decide) h1.1,jf h (by decide) h1.2⟩
 ·have h2:=h2.resolve_left (fun h=>h e)
  exact ⟨jf h (by decide) h2.1,jf h (by decide) h2.2⟩
 ·have h3:=h3.resolve_left (fun h=>h e)
  exact ⟨jf h (by decide) h3.1,jf h (by decide) h3.2.1,jf h (by decide) h3.2.2⟩
 ·have h4:=((h4.resolve_left e1).resolve_left e2).resolve_left e3
  exact jf h h4.1 h4.2
theorem Bc {o:DO} (h2:o.1=2):(0≤o.2.2.1→mR o o.2.2.1)∧(0≤o.2.2.2.1→mR o o.2.2.2.1):=by
 unfold mR eh
 rw [if_pos h2]
 exact ⟨fun h=>by rw [if_pos h];simp,fun h=>by rw [if_pos h];simp⟩
theorem wQ {o:DO} (h:xR o):o.2.2.1 < 16∧o.2.2.2.1 < 16:=by
 obtain ⟨_,_,_,_,_,h3⟩:=h
 omega
theorem Kh (w:WI x) (h:RX x) (K:KX x) (F:FF x f):XR (GR f) x:=by
 have h0:=M8 w h
 have hA1:x.1≤34→(oA x).1=1→0≤(oA x).2.1∧(oA x).2.1≤15:=fun h34 h1=>lu (h.gA h34 h1)
 have hB1:x.1≤34→(oB x).1=1→0≤(oB x).2.1∧(oB x).2.1≤15:=fun h34 h1=>lu (h.gB h34 h1)
 have tkA:x.1≤34→TA x→jv (GR f) (oA x):=fun h34 ht h1=>by
  have:=hA1 h34 h1
  exact ⟨this.1,this.2,lO (F.ga ht _ ⟨h1,rfl⟩) (by omega)⟩
 have tkB:x.1≤34→TB x→jv (GR f) (oB x):=fun h34 ht h1=>by
  have:=hB1 h34 h1
  exact ⟨this.1,this.2,lO (F.gb ht _ ⟨h1,rfl⟩) (by omega)⟩
 have fi:=F.fi
 refine ⟨h0.right,h0.qA,h0.Ya,?_,?_,h0.w,h0.w8,?_,?_,?_,?_,?_,?_,?_,?_,?_,?_,?_⟩
 ·exact WL h.mA (fun h2 h3=>lO (F.ra _ ((Bc h2).1 h3)) (wQ (h.mA h2)).1) (fun h2 h3=>lO (F.ra _ ((Bc h2).2 h3)) (wQ (h.mA h2)).2)
 ·exact WL h.mB (fun h2 h3=>lO (F.rb _ ((Bc h2).1 h3)) (wQ (h.mB h2)).1) (fun h2 h3=>lO (F.rb _ ((Bc h2).2 h3)) (wQ (h.mB h2)).2)
 ·intro hd hn
  have hn:=CQ hn
  exact ⟨tkA (by omega) (.inl ⟨hd,hn⟩),tkB (by omega) (.inl ⟨hd,hn⟩)⟩
 ·intro hd;exact tkA (by omega) (by unfold TA;omega)
 ·intro hd;exact tkB (by omega) (by unfold TB;omega)
 ·intro hd
  refine ⟨(h0.pt hd).1,fun h1=>?_⟩
  have hr:=hA1 (by omega) h1
  refine ⟨hr.1,hr.2,fun hw=>lO (F.ga ?_ _ ⟨h1,rfl⟩) (Int.lt_of_le_of_lt hr.2 (by decide))⟩
  have:=K.w1 (by omega)
  unfold TA
  omega
 ·intro hd
  refine ⟨(h0.pop hd).1,fun h1=>?_⟩
  have hr:=hA1 (by omega) h1
  exact ⟨hr.1,hr.2,fun hw=>by omega⟩
 ·intro hd
  exact jf (fi.trans (SN hd)) (by decide) (by decide)
 ·intro h1 h2
  exact Wp h.cond (fi.trans (ON ⟨h1,h2⟩))
 ·intro h1 h2 hB
  have hI:II x=H8 x:=by unfold II;rw [if_neg (by omega),if_neg (by omega),if_pos ⟨⟨h1,h2⟩,by rw [hB];decide⟩]
  have hT:TB x:=by unfold TB;refine .inr (.inr (.inr (.inr (.inr ⟨⟨h1,h2⟩,?_⟩))));show (oB x).1≠3;rw [hB];decide
  have hc:=K.cl ⟨h1,h2⟩ hB
  have hcx:=F.gb hT 1 ⟨hB,hc.symm⟩
  have hi:=fi.trans hI
  by_cases wX:x.1≤18
  ·have hi:f.2.2.2.1=31:=hi.trans (by unfold H8;rw [if_pos wX])
   exact ⟨lO hcx (by decide),jf hi (by decide) (by decide),jf hi (by decide) (by decide),fun _=>⟨jf hi (by decide) (by decide),jf hi (by decide) (by decide),jf hi (by decide) (by decide)⟩⟩
  ·have hi:f.2.2.2.1=9:=hi.trans (by unfold H8;rw [if_neg wX])
   refine ⟨lO hcx (by decide),jf hi (by decide) (by decide),jf hi (by decide) (by decide),fun hp=>?_⟩
   unfold plain at hp
   simp only [Bool.and_eq_true,dr] at hp
   omega
 ·intro hd;exact lO (F.ex 0 (.inl ⟨hd,rfl⟩)) (by decide)
 ·intro hd;exact lO (F.ex 2 (.inr (.inl ⟨hd,rfl⟩))) (by decide)
 ·intro h1 h2;exact lO (F.ex 4 (.inr (.inr ⟨⟨h1,h2⟩,rfl⟩))) (by decide)
end
end Go.bz.RM
end
section
namespace Go.bz.RM
open Go.bz.RL
open Go.bz
noncomputable section
variable {x:DI} {f:aS}
def Hs (o:Int) (W:List Int):Int:=W.foldl (fun o c=>if c < 16 then o else NY .u8 o (BN c)) o
theorem lG (o:Int) (V W:List Int):Hs o (V++W)=Hs (Hs o V) W:=List.foldl_append ..
theorem N4 (o c:Int):Hs o [c]=if c < 16 then o else NY .u8 o (BN c):=rfl
def Told (x:DI) (W:List Int):Prop:=(∀ c:Int,c < 16→(c∈W↔WW x c))∧Hs 0 W=OO x
theorem lz {o:DO} (h:o.1=1∨o.1=2) (c:Int):c∈dW o↔gR o c:=by
 unfold dW gR
 by_cases h2:o.1=2
 ·rw [if_pos h2];simp [h2]
 ·rw [if_neg h2,List.mem_singleton];have:o.1=1:=by omega
  simp [this]
theorem lF {o:DO} (h:o.1=1∨o.1=2) (h2:o.1=1→o.2.1≤15) (i:Int):Hs i (dW o)=i:=by
 unfold dW
 by_cases h3:o.1=2
 ·rw [if_pos h3];rfl
 ·rw [if_neg h3,N4,if_pos (by have:=h2 (by omega);omega)]
theorem l5 {W:List Int} (hd:(1≤x.1∧x.1≤21∧x.1≠10∧x.1≠11)∨(30≤x.1∧x.1≠34)) (h:∀ c < 16,c∈W↔gR (oA x) c) (c:Int) (hc:c < 16):c∈W↔WW x c:=by
 rw [h c hc]
 unfold WW
 constructor
 ·intro h;exact .inl ⟨by omega,h⟩
 ·rintro (h | h | h)
  ·exact h.2
  ·omega
  ·omega
theorem pz {n m:Int} (hm:m=32∨m=64) (hN : -9223372036854775808≤n∧n < 9223372036854775808):fJ .i64 (aK .i64 (fJ .i64 n m) m) m=n % m∧fJ .u64 (aN .u64 n) m=n % m:=by
 have h1:fJ .i64 n m=n.tmod m:=rfl
 have h2:(n.tmod m)=if 0≤n then n % m else -((-n) % m):=by
  by_cases h:0≤n
  ·rw [if_pos h,Int.tmod_eq_emod_of_nonneg h]
  ·rw [if_neg h]
   have:n.tmod m = -((-n).tmod m):=by rw [Int.neg_tmod];omega
   rw [this,Int.tmod_eq_emod_of_nonneg (by omega)]
 have e:(aN .u64 n)=n % 18446744073709551616:=by show IntKind.wrap .u64 n=_;rw [wrap_u64]
 have h3:fJ .u64 (aN .u64 n) m=(n % 18446744073709551616).tmod m:=by rw [e];rfl
 rw [h3,Int.tmod_eq_emod_of_nonneg (by omega),h1,h2]
 rcases hm with rfl | rfl
 all_goals
  split
  all_goals
   rw [dH (by omega) (by omega)]
   constructor
   ·show Int.tmod _ _=_
    rw [Int.tmod_eq_emod_of_nonneg (by omega)];omega
   ·omega
theorem Gt (hN:nD (oB x).2.2.2.2.2.2.2) (hw:x.2.2.1=4∨x.2.2.1=8) (S:RL.St) (h1:S.1=x) (h2:S.2.1=x.2.2.1):OU S=BE x:=by
 unfold OU BE
 rw [h1,h2]
 have hN : -9223372036854775808≤(oB x).2.2.2.2.2.2.2∧(oB x).2.2.2.2.2.2.2 < 9223372036854775808:=hN
 rcases hw with hw | hw
 ·rw [hw,if_neg (by decide),(pz (.inl rfl) hN).1,show aN .u64 (gz .i64 8 4)=32 from rfl]
  exact (pz (.inl rfl) hN).2
 ·rw [hw,if_pos rfl,(pz (.inr rfl) hN).1,show aN .u64 (gz .i64 8 8)=64 from rfl]
  exact (pz (.inr rfl) hN).2
theorem L3 {c:Int} (h:c < 16):(c=16)=False:=eq_false (by omega)
theorem L2 {c:Int} (h:c < 16):(c=17)=False:=eq_false (by omega)
theorem L1 {c:Int} (h:c < 16):(c=18)=False:=eq_false (by omega)
theorem Ip {c:Int} (h:c < 16):(c=19)=False:=eq_false (by omega)
theorem L0 {c:Int} (h:c < 16):(c=20)=False:=eq_false (by omega)
theorem told (hN:nD (oB x).2.2.2.2.2.2.2) (h:RX x) (K:KX x) {W:List Int} (L:LW x W):Told x W:=by
 have hA1:x.1≤34→(oA x).1=1→(oA x).2.1≤15:=fun h34 h1=>(lu (h.gA h34 h1)).2
 have kA:=h.kA
 cases L with
 | put hd=>
  have k:=kA (by omega)
  refine ⟨l5 (by omega) fun c _=>lz k c,?_⟩
  rw [lF k (hA1 (by omega)),k7 (by omega)]
 | sum hd=>
  have key:Told x (aX (dG x.1 10) x++[16]++[19]++[17]++[18]++[20]):=by
   unfold aX
   by_cases uP:x.1=10
   ·rw [uP,if_neg (by decide)]
    refine ⟨fun c hc=>?_,?_⟩
    ·unfold WW;simp;omega
    ·rw [kZ (by omega)];decide
   ·have k:=kA (by omega)
    rw [if_pos (dr.2 uP)]
    refine ⟨l5 (by omega) fun c hc=>?_,?_⟩
    ·simp only [List.mem_append,List.mem_singleton,lz k c,L3 hc,L2 hc,L1 hc,Ip hc,L0 hc,or_false]
    ·simp only [lG]
     rw [lF k (hA1 (by omega)),kZ (by omega)];decide
  exact key
 | bit hd=>
  have key:Told x (aX (dG x.1 11) x++[16]++[19]++[17]++[18]++[20]):=by
   unfold aX
   by_cases oI:x.1=11
   ·rw [oI,if_neg (by decide)]
    refine ⟨fun c hc=>?_,?_⟩
    ·unfold WW;simp;omega
    ·rw [kZ (by omega)];decide
   ·have k:=kA (by omega)
    rw [if_pos (dr.2 oI)]
    refine ⟨l5 (by omega) fun c hc=>?_,?_⟩
    ·simp only [List.mem_append,List.mem_singleton,lz k c,L3 hc,L2 hc,L1 hc,Ip hc,L0 hc,or_false]
    ·simp only [lG]
     rw [lF k (hA1 (by omega)),kZ (by omega)];decide
  exact key
 | one hd=>
  have k:=kA (by omega)
  refine ⟨l5 (by omega) fun c hc=>?_,?_⟩
  ·simp only [List.mem_append,List.mem_singleton,lz k c,L2 hc,L1 hc,Ip hc,L0 hc,or_false]
  ·simp only [lG]
   rw [lF k (hA1 (by omega)),PN (by omega)];decide
 | gz hd=>
  have k:=kA (by omega)
  refine ⟨l5 (by omega) fun c hc=>?_,?_⟩
  ·simp only [List.mem_append,List.mem_singleton,lz k c,L3 hc,L2 hc,L1 hc,Ip hc,L0 hc,or_false]
  ·simp only [lG]
   rw [lF k (hA1 (by omega)),kZ (by omega)];decide
 | mul hd=>
  refine ⟨fun c hc=>?_,by rw [kZ (by omega)];decide⟩
  simp only [List.mem_append,List.mem_singleton]
  unfold WW;omega
 | div hd=>
  refine ⟨fun c hc=>?_,by rw [k7 (by omega)];decide⟩
  simp only [List.mem_append,List.mem_singleton]
  unfold WW;omega
 | shift hd=>
  have k:=kA (by omega)
  have hw:x.2.2.1=4∨x.2.2.1=8:=by
   have h1:=h.w (by omega)
   have h2:=K.w1 (by omega) (by omega) (by omega)
   omega
  have hB:=K.sB hd
  have hc:=Gt hN hw (x,(x.2.2.1,((),(0,(wd 0,(wd 0,(wd 0,wd 0))))))) rfl rfl
  have hO:OO x=if (oB x).1=3∧BE x=0 then 0 else H8 x:=by
   unfold OO;rw [if_neg (by omega),if_neg (by omega),if_pos hd]
  unfold PV GK
  rw [hc]
  show Told x (if (oB x).1≠1∧BE x=0 then dW (oA x) else dW (oA x)++[16]++[19]++(if plain (x.1 - 5)=true then [17]++[18]++[20] else []))
  by_cases h0:(oB x).1≠1∧BE x=0
  ·rw [if_pos h0]
   refine ⟨l5 (by omega) fun c _=>lz k c,?_⟩
   rw [lF k (hA1 (by omega)),hO,if_pos ⟨by omega,h0.2⟩]
  ·rw [if_neg h0]
   have hO:OO x=H8 x:=by
    rw [hO,if_neg]
    rintro ⟨h3,h4⟩
    exact h0 ⟨by omega,h4⟩
   by_cases wX:x.1≤18
   ·have hp:plain (x.1 - 5)=true:=by
     unfold plain
     rw [dr.2 (by omega),dr.2 (by omega)];rfl
    rw [if_pos hp]
    refine ⟨l5 (by omega) fun c hc=>?_,?_⟩
    ·simp only [List.mem_append,List.mem_singleton,lz k c,L3 hc,L2 hc,L1 hc,Ip hc,L0 hc,or_false]
    ·simp only [lG]
     rw [lF k (hA1 (by omega)),hO];unfold H8;rw [if_pos wX];decide
   ·have hp:¬ plain (x.1 - 5)=true:=by
     unfold plain
     rw [Bool.and_eq_true,dr,dr];omega
    rw [if_neg hp]
    refine ⟨l5 (by omega) fun c hc=>?_,?_⟩
    ·simp only [List.mem_append,List.mem_singleton,lz k c,List.not_mem_nil,L3 hc,Ip hc,or_false]
    ·simp only [lG]
     rw [lF k (hA1 (by omega)),hO];unfold H8;rw [if_neg wX];decide
 | push hd=>
  refine ⟨fun c hc=>?_,by rw [k7 (by omega)];decide⟩
  simp only [List.mem_singleton]
  unfold WW
  constructor
  ·intro h;exact .inr (.inl ⟨by omega,h⟩)
  ·rintro (h | h | h)
   ·omega
   ·exact h.2
   ·omega
 | pop hd=>
  have k:=kA (by omega)
  refine ⟨fun c hc=>?_,?_⟩
  ·simp only [List.mem_append,List.mem_singleton,lz k c]
   unfold WW
   constructor
   ·rintro (h | h)
    ·exact .inr (.inl ⟨by omega,h⟩)
    ·exact .inl ⟨by omega,h⟩
   ·rintro (h | h | h)
    ·exact .inr h.2
    ·exact .inl h.2
    ·omega
  ·rw [lG,show Hs 0 [4]=0 from rfl,lF k (hA1 (by omega)),k7 (by omega)]
 | no hd=>
  refine ⟨fun c hc=>?_,by rw [k7 (by omega)];rfl⟩
  unfold WW
  constructor
  ·intro h;cases h
  ·rintro (⟨h1,h2,h3⟩ | h | h)
   ·exfalso
    have:=K.vA (by omega) h2
    omega
   ·omega
   ·omega
end
end Go.bz.RM
end
section
namespace Go.bz.RM
open Go.bz.RL
open Go.bz Go.RowKit
noncomputable section
structure AR (v:List Bool) (P:Int→Prop):Prop where
 len:v.length=16
 at':∀ c:Nat,c < 16→(eZ .bool v c=true↔P c)
theorem AR.xQ {v:List Bool} {P Q:Int→Prop} (h:AR v P) (g:∀ c:Int,0≤c→c < 16→(P c↔Q c)):AR v Q:=⟨h.len,fun c hc=>(h.at' c hc).trans (g c (by omega) (by omega))⟩
theorem XP:AR (List.replicate 16 false) (fun _=>False):=⟨rfl,fun c hc=>by
 rw [dU (c:=.bool) (by rw [List.length_replicate];exact hc),List.getElem_replicate];simp⟩
theorem GQ {v:List Bool} {m:Nat} {b:Bool} {d:Nat} (hv:v.length=16) (hd:d < 16):eZ .bool (v.set m b) d=if m=d then b else eZ .bool v d:=by
 rw [dU (c:=.bool) (xs:=v.set m b) (by rw [List.length_set];omega),dU (c:=.bool) (xs:=v) (by omega)]
 exact List.getElem_set ..
theorem AR.set {v:List Bool} {P:Int→Prop} (h:AR v P) {m:Nat}:AR (v.set m true) (fun c=>P c∨c=m):=by
 refine ⟨by rw [List.length_set];exact h.len,fun d hd=>?_⟩
 rw [GQ h.len hd]
 by_cases hm:m=d
 ·rw [if_pos hm];simp [hm]
 ·rw [if_neg hm,h.at' d hd]
  constructor
  ·exact .inl
  ·rintro (h | h)
   ·exact h
   ·omega
theorem AR.xW {v:List Bool} {P:Int→Prop} (h:AR v P) {e:Int} {m:Nat} (he:0≤e∧e < 32) (hm:(m:Int)=e % 16) {b:Bool} (hb:eZ .bool v m=true∧b=true∨eZ .bool v m=false∧b=cF e 16):AR (v.set m b) (fun c=>P c∨c=e):=by
 refine ⟨by rw [List.length_set];exact h.len,fun d hd=>?_⟩
 rw [GQ h.len hd]
 by_cases hmd:m=d
 ·subst hmd
  rw [if_pos rfl]
  have ha:=h.at' m hd
  rcases hb with ⟨h1,rfl⟩ | ⟨h1,rfl⟩
  ·simp [ha.1 h1]
  ·rw [h1] at ha
   have hn:¬ P m:=fun hp=>by have:=ha.2 hp;cases this
   rw [bU]
   constructor
   ·intro h;right;omega
   ·rintro (h | h)
    ·exact absurd h hn
    ·omega
 ·rw [if_neg hmd,h.at' d hd]
  constructor
  ·exact .inl
  ·rintro (h | h)
   ·exact h
   ·omega
theorem AR.eq {v u:List Bool} {P:Int→Prop} (h:AR v P) (g:AR u P):v=u:=by
 refine List.ext_getElem (h.len.trans g.len.symm) fun c h1 h2=>?_
 have a:=h.at' c (by have:=h.len;omega)
 have b:=g.at' c (by have:=h.len;omega)
 rw [dU (c:=.bool) h1] at a
 rw [dU (c:=.bool) h2] at b
 exact Bool.eq_iff_iff.2 (a.trans b.symm)
theorem OV {e:Int} (he:0≤e∧e < 32):fJ .i64 e 16=e % 16:=Int.tmod_eq_emod_of_nonneg he.1
section
variable {x:DI×Int} {r:Bool} {L:RL.L} {f:aS}
theorem Wl {v11:List Bool} (hl:∀ c∈f.1,0≤c∧c < 32) (hk:f.1.length≤100):∀ (j i:Nat) (v:List Bool) (P:Int→Prop),j+i=f.1.length→AR v P→
  (∀ u,AR u (fun c=>P c∨c∈f.1.drop i)→Ends (ct x) r (ct x (.h1 L 0 f u v11)))→Ends (ct x) r (ct x (.h0 L (i:Int) f v v11))
 | 0,i,v,P,hj,hv,g=>by
  have hi:i=f.1.length:=by omega
  subst hi
  simp only [ct]
  rw [eI]
  refine ⟨fun h=>(by rw [bU] at h;omega),fun _=>?_⟩
  rw [eJ]
  refine g v (hv.xQ fun c _ _=>?_)
  rw [List.drop_length];simp
 | j+1,i,v,P,hj,hv,g=>by
  have hi:i < f.1.length:=by omega
  have e:aK .i64 (i:Int) 1=((i+1:Nat):Int):=by rw [dH (by omega) (by omega)];omega
  have ea:eZ (.int .i64) f.1 i=f.1[i]:=dU (c:=.int .i64) hi
  have he:=hl _ (List.getElem_mem hi)
  have e2:=OV he
  have hm:((f.1[i] % 16).toNat:Int)=f.1[i] % 16:=Int.toNat_of_nonneg (by omega)
  have ih:=fun (u:List Bool) (hu:AR u (fun c=>P c∨c=f.1[i]))=>Wl (v11:=v11) hl hk j (i+1) u (fun c=>P c∨c=f.1[i]) (by omega) hu fun w hw=>g w (hw.xQ fun c _ _=>by
   rw [List.drop_eq_getElem_cons hi,List.mem_cons,or_assoc])
  simp only [ct]
  rw [eI]
  refine ⟨fun _=>?_,fun h=>by rw [dY] at h;omega⟩
  simp only [eN,eI,eJ,Int.toNat_natCast,ea,e,e2]
  refine ⟨by omega,by omega,by decide,by omega,by omega,by decide,by omega,by omega,by omega,fun h1=>⟨by omega,by omega,by omega,by omega,by omega,?_⟩,fun h1=>⟨by omega,by omega,by omega,?_⟩⟩
  ·exact ih _ (hv.xW he hm (.inr ⟨by simpa using h1,rfl⟩))
  ·exact ih _ (hv.xW he hm (.inl ⟨by simpa using h1,rfl⟩))
theorem Wk {v10:List Bool} (hl:∀ c∈f.2.1,0≤c∧c < 32) (hk:f.2.1.length≤100):∀ (j i:Nat) (v:List Bool) (P:Int→Prop),j+i=f.2.1.length→AR v P→
  (∀ u,AR u (fun c=>P c∨c∈f.2.1.drop i)→Ends (ct x) r (ct x (.h2 L 0 0 f v10 u (List.replicate 16 false) [1,2,4,8,16])))→Ends (ct x) r (ct x (.h1 L (i:Int) f v10 v))
 | 0,i,v,P,hj,hv,g=>by
  have hi:i=f.2.1.length:=by omega
  subst hi
  simp only [ct]
  rw [eI]
  refine ⟨fun h=>(by rw [bU] at h;omega),fun _=>?_⟩
  simp only [eN,eJ]
  refine ⟨by decide,by decide,by decide,by decide,by decide,g v (hv.xQ fun c _ _=>?_)⟩
  rw [List.drop_length];simp
 | j+1,i,v,P,hj,hv,g=>by
  have hi:i < f.2.1.length:=by omega
  have e:aK .i64 (i:Int) 1=((i+1:Nat):Int):=by rw [dH (by omega) (by omega)];omega
  have ea:eZ (.int .i64) f.2.1 i=f.2.1[i]:=dU (c:=.int .i64) hi
  have he:=hl _ (List.getElem_mem hi)
  have e2:=OV he
  have hm:((f.2.1[i] % 16).toNat:Int)=f.2.1[i] % 16:=Int.toNat_of_nonneg (by omega)
  have ih:=fun (u:List Bool) (hu:AR u (fun c=>P c∨c=f.2.1[i]))=>Wk (v10:=v10) hl hk j (i+1) u (fun c=>P c∨c=f.2.1[i]) (by omega) hu fun w hw=>g w (hw.xQ fun c _ _=>by
   rw [List.drop_eq_getElem_cons hi,List.mem_cons,or_assoc])
  simp only [ct]
  rw [eI]
  refine ⟨fun _=>?_,fun h=>by rw [dY] at h;omega⟩
  simp only [eN,eI,eJ,Int.toNat_natCast,ea,e,e2]
  refine ⟨by omega,by omega,by decide,by omega,by omega,by decide,by omega,by omega,by omega,fun h1=>⟨by omega,by omega,by omega,by omega,by omega,?_⟩,fun h1=>⟨by omega,by omega,by omega,?_⟩⟩
  ·exact ih _ (hv.xW he hm (.inr ⟨by simpa using h1,rfl⟩))
  ·exact ih _ (hv.xW he hm (.inl ⟨by simpa using h1,rfl⟩))
abbrev fl:List Int:=[1,2,4,8,16]
variable {vr vw v:List Bool} {out:Int}
theorem My {vs:List aF} {i k:Nat} {n:Int} (hk:k < 3) (g:gv (GR f) n (eZ ar vs k)) (hr:AR vr (·∈f.1))
  (h:Ends (ct x) r (ct x (.h3 L out (i:Int) ((k+1:Nat):Int) f vr vw v fl vs))):Ends (ct x) r (ct x (.h3 L out (i:Int) (k:Int) f vr vw v fl vs)):=by
 have e:aK .i64 (k:Int) 1=((k+1:Nat):Int):=by rw [dH (by omega) (by omega)];omega
 simp only [ct]
 rw [eI]
 refine ⟨fun _=>?_,fun hn=>by rw [dY] at hn;omega⟩
 simp only [eN,eI,eJ,Int.toNat_natCast,e]
 obtain ⟨y,hy⟩:∃ y:aF,eZ ar vs k=y:=⟨_,rfl⟩
 rw [hy] at g
 rw [hy]
 have cases1:y.1=false→0≤y.2.1∧((y.2.1≤20∧GR f y.2.1)∨32≤y.2.1):=fun h=>by
  rcases g with g | ⟨_,_,g | g⟩
  ·rw [g.1] at h;cases h
  ·exact ⟨g.1,.inl g.2⟩
  ·exact ⟨by omega,.inr g.1⟩
 refine ⟨by omega,by omega,by omega,by omega,by omega,by omega,fun h1=>?_,fun _=>h⟩
 obtain ⟨c0,c1⟩:=cases1 (by simpa using h1)
 refine ⟨fun h2=>⟨fun _=>h,fun h3=>?_⟩,fun _=>h⟩
 have h3:y.2.1≤20:=dY.1 h3
 have c2:GR f y.2.1:=by
  rcases c1 with c1 | c1
  ·exact c1.2
  ·omega
 refine ⟨fun h4=>?_,fun h4=>?_⟩
 ·have h4:y.2.1 < 16:=bU.1 (by simpa using h4)
  have hb:eZ .bool vr y.2.1.toNat=true:=(hr.at' _ (by omega)).2 (by rw [Int.toNat_of_nonneg c0];exact c2.1 h4)
  refine ⟨c0,h4,by omega,fun h5=>⟨fun h6=>?_,fun _=>h⟩,fun h5=>?_⟩
  ·have h6:16≤y.2.1:=cJ.1 (by simpa using h6)
   omega
  ·rw [hb] at h5;cases h5
 ·have h4:16≤y.2.1:=dY.1 (by simpa using h4)
  have es:iu .i64 y.2.1 16=y.2.1 - 16:=wU (by omega) (by omega)
  rw [es]
  refine ⟨fun h5=>⟨by omega,by omega,by omega,fun h6=>?_,fun _=>h⟩,fun _=>h⟩
  exact absurd (al.1 h6) (c2.2 h4)
theorem xe {i:Nat} {n:Int} {d:bt} (hi:i < L.length) (hd:L[i]=d) (ga:gv (GR f) n d.2.2.2.1) (gb:gv (GR f) n d.2.2.2.2.1) (gc:gv (GR f) n d.2.2.2.2.2.1) (hr:AR vr (·∈f.1))
  (h:Ends (ct x) r (ct x (.h3 L out (i:Int) 3 f vr vw v fl [d.2.2.2.1,d.2.2.2.2.1,d.2.2.2.2.2.1]))):Ends (ct x) r (ct x (.h2 L out (i:Int) f vr vw v fl)):=by
 have ea:eZ aZ L i=d:=by rw [dU (c:=aZ) hi,hd]
 have go:=My (L:=L) (x:=x) (r:=r) (out:=out) (i:=i) (v:=v) (vw:=vw) (k:=0) (vs:=[d.2.2.2.1,d.2.2.2.2.1,d.2.2.2.2.2.1]) (by decide) ga hr
  (My (k:=1) (by decide) gb hr (My (k:=2) (by decide) gc hr h))
 simp only [ct]
 rw [eI]
 refine ⟨fun _=>?_,fun hn=>by rw [dY] at hn;omega⟩
 simp only [eN,eJ,Int.toNat_natCast,ea]
 exact ⟨by omega,by omega,by omega,by omega,by omega,by omega,by decide,by decide,by decide,go⟩
theorem xf {vs:List aF} {i:Nat} {d:bt} (hL:L.length≤1000) (hi:i < L.length) (hd:L[i]=d)
  (no:pM d.1=false→Ends (ct x) r (ct x (.h2 L out ((i+1:Nat):Int) f vr vw v fl)))
  (h0:pM d.1=true→0≤d.2.2.1)
  (hi':pM d.1=true→20 < d.2.2.1→Ends (ct x) r (ct x (.h2 L out ((i+1:Nat):Int) f vr vw v fl)))
  (lo:pM d.1=true→d.2.2.1 < 16→Ends (ct x) r (ct x (.h2 L out ((i+1:Nat):Int) f vr vw (v.set d.2.2.1.toNat true) fl)))
  (mi:pM d.1=true→16≤d.2.2.1→d.2.2.1≤20→Ends (ct x) r (ct x (.h2 L (NY .u8 out (BN d.2.2.1)) ((i+1:Nat):Int) f vr vw v fl))):
  Ends (ct x) r (ct x (.h3 L out (i:Int) 3 f vr vw v fl vs)):=by
 have e:aK .i64 (i:Int) 1=((i+1:Nat):Int):=by rw [dH (by omega) (by omega)];omega
 have ea:eZ aZ L i=d:=by rw [dU (c:=aZ) hi,hd]
 simp only [ct]
 rw [eI]
 refine ⟨fun hn=>(by rw [bU] at hn;exact absurd hn (by decide)),fun _=>?_⟩
 simp only [eN,eI,eJ,Int.toNat_natCast,ea,e]
 refine ⟨by omega,by omega,(nw d.1).1,fun h1=>?_,fun h1=>no (by simpa using h1)⟩
 have h1:pM d.1=true:=by simpa using h1
 have h0:=h0 h1
 refine ⟨by omega,by omega,fun h2=>⟨by omega,by omega,fun h3=>hi' h1 (bU.1 h3),fun h3=>⟨by omega,by omega,fun h4=>?_,fun h4=>?_⟩⟩,fun h2=>?_⟩
 ·have h4:=bU.1 h4
  exact ⟨by omega,by omega,h0,h4,by omega,lo h1 h4⟩
 ·have h4:=dY.1 h4
  have h3:=dY.1 h3
  have es:iu .i64 d.2.2.1 16=d.2.2.1 - 16:=wU (by omega) (by omega)
  rw [es]
  exact ⟨by omega,by omega,by omega,by omega,by omega,mi h1 h4 h3⟩
 ·have h2:cF d.2.2.1 0=true:=by simpa using h2
  rw [bU] at h2;omega
theorem Wn (hL:L.length≤1000) (hr:AR vr (·∈f.1)) {n n':Int} {l:RL.L} {W:List Int} (h:BX (GR f) n l n' W) (hn:n'≤64):∀ (i:Nat) (rest:RL.L) (out:Int) (v:List Bool) (P:Int→Prop),L.drop i=l++rest→AR v P→
  (∀ u,AR u (fun c=>P c∨c∈W)→Ends (ct x) r (ct x (.h2 L (Hs out W) ((i+l.length:Nat):Int) f vr vw u fl)))→Ends (ct x) r (ct x (.h2 L out (i:Int) f vr vw v fl)):=by
 have split:∀ {i:Nat} {d:bt} {t:RL.L},L.drop i=d :: t→∃ hi:i < L.length,L[i]=d∧L.drop (i+1)=t:=fun {i d t} e=>by
  have hi:i < L.length:=by
   rcases Nat.lt_or_ge i L.length with h | h
   ·exact h
   ·rw [List.drop_of_length_le h] at e;cases e
  rw [List.drop_eq_getElem_cons hi] at e
  cases e
  exact ⟨hi,rfl,rfl⟩
 induction h with
 | nil n=>
  intro i rest out v P hd hv g
  exact g v (hv.xQ fun c _ _=>by simp)
 | @cell n op w d a b c l n' W ho hw hd ha hb hc t ih=>
  intro i rest out v P hD hv g
  have hle:=t.le
  obtain ⟨hi,h1,h2⟩:=split hD
  have jt:=(nw op).2.1 ho
  refine xe hi h1 ha hb hc hr (xf hL hi h1 (fun e=>?_) (fun _=>hd.1) (fun _ e=>?_) (fun _ e=>?_) fun _ e1 e2=>?_)
  ·have e:pM op=false:=e
   rw [jt] at e;cases e
  ·have e:20 < d:=e
   omega
  ·have e:d < 16:=e
   have hm:((d.toNat:Nat):Int)=d:=Int.toNat_of_nonneg hd.1
   have hs:=hv.set (m:=d.toNat)
   rw [hm] at hs
   refine ih hn (i+1) rest out _ (fun c=>P c∨c=d) h2 hs fun u hu=>?_
   have:=g u (hu.xQ fun c _ _=>by rw [List.mem_cons,or_assoc])
   rw [show Hs out (d :: W)=Hs out W from by show Hs (if d < 16 then out else NY .u8 out (BN d)) W=_;rw [if_pos e]] at this
   rw [show i+1+l.length=i+(dd op w d a b c :: l).length from by rw [List.length_cons];omega]
   exact this
  ·have e1:16≤d:=e1
   refine ih hn (i+1) rest _ v P h2 hv fun u hu=>?_
   have:=g u (hu.xQ fun c h0 hJ=>by
    rw [List.mem_cons]
    constructor
    ·rintro (h | h)
     ·exact .inl h
     ·exact .inr (.inr h)
    ·rintro (h | h | h)
     ·exact .inl h
     ·omega
     ·exact .inr h)
   rw [show Hs out (d :: W)=Hs (NY .u8 out (BN d)) W from by show Hs (if d < 16 then out else NY .u8 out (BN d)) W=_;rw [if_neg (by omega)]] at this
   rw [show i+1+l.length=i+(dd op w d a b c :: l).length from by rw [List.length_cons];omega]
   exact this
 | @none n op w a b c l n' W ho hw ha hb hc t ih=>
  intro i rest out v P hD hv g
  have hle:=t.le
  obtain ⟨hi,h1,h2⟩:=split hD
  have jt:=(nw op).2.2 (by omega) (by omega)
  have nx:=ih hn (i+1) rest out v P h2 hv fun u hu=>by
   rw [show i+1+l.length=i+(dd op w 0 a b c :: l).length from by rw [List.length_cons];omega]
   exact g u hu
  have no:∀ {p:Prop},pM op=true→p:=fun e=>by rw [jt] at e;cases e
  exact xe hi h1 ha hb hc hr (xf hL hi h1 (fun _=>nx) (fun e=>no e) (fun e _=>no e) (fun e _=>no e) fun e _ _=>no e)
 | @HV n op w a b c l n' W ho hw hn1 ha hb hc t ih=>
  intro i rest out v P hD hv g
  have hle:=t.le
  obtain ⟨hi,h1,h2⟩:=split hD
  have jt:=(nw op).2.1 ho
  have nx:=ih hn (i+1) rest out v P h2 hv fun u hu=>by
   rw [show i+1+l.length=i+(dd op w n a b c :: l).length from by rw [List.length_cons];omega]
   exact g u hu
  refine xe hi h1 ha hb hc hr (xf hL hi h1 (fun _=>nx) (fun _=>?_) (fun _ _=>nx) (fun _ e=>?_) fun _ _ e=>?_)
  ·show (0:Int)≤n;omega
  ·have e:n < 16:=e
   omega
  ·have e:n≤20:=e
   omega
 | @vec n a y l n' W ha hv' t ih=>
  intro i rest out v P hD hv g
  have hle:=t.le
  obtain ⟨hi,h1,h2⟩:=split hD
  have jt:=(nw 31).2.2 (by decide) (by decide)
  have nx:=ih hn (i+1) rest out v P h2 hv fun u hu=>by
   rw [show i+1+l.length=i+(((31,(16,(0,(a,(wd 0,(wd 0,y)))))):bt) :: l).length from by rw [List.length_cons];omega]
   exact g u hu
  have no:∀ {p:Prop},pM 31=true→p:=fun e=>by rw [jt] at e;cases e
  exact xe hi h1 ha (aM 0) (aM 0) hr (xf hL hi h1 (fun _=>nx) (fun e=>no e) (fun e _=>no e) (fun e _=>no e) fun e _ _=>no e)
theorem Wm {P:Int→Prop} (hv:AR v P) (hw:AR vw P) (ho:out=f.2.2.2.2.1):Ends (ct x) true (ct x (.h2 L out (L.length:Int) f vr vw v fl)):=by
 have e:=hv.eq hw
 subst e
 have e2:uV v v=true:=by unfold uV;simp
 simp only [ct]
 rw [eI]
 refine ⟨fun h=>(by rw [bU] at h;omega),fun _=>?_⟩
 simp only [eN,eI,eR,e2]
 refine ⟨fun _=>⟨fun _=>⟨oJ.1,oJ.2⟩,fun h=>?_⟩,fun h=>by cases h⟩
 rw [al.2 ho] at h;cases h
end
theorem Gb (x:DI×Int) (w:TC.wf (.st bA (.bu (.int .u64))) x):Va x∧XF x=true:=by
 have wi:=SV (x:=x.1) w.1
 have ku:=nv wi.a wi.b wi.c
 have hN:nD (oB x.1).2.2.2.2.2.2.2:=by
  have h5:TC.wf CO (oB x.1):=w.1.2.2.2.2.1
  exact wf_i64 h5.2.2.2.2.2.2.2
 have key:Ends (ct x) true (vN x):=by
  cases hR:pL x.1 with
  | false=>
   obtain ⟨p5,f5⟩:=Mo ku.1 hR
   simp only [vN,f5,eN,eI,eR]
   exact ⟨p5,fun _=>⟨oJ.1,oJ.2⟩,fun h=>absurd h (by decide)⟩
  | true=>
   have rx:=S3 wi.a wi.b wi.d wi.c hR
   have kx:=V4 wi.a wi.b wi.d wi.c hR
   have f12:=Ol kx rx.d
   have F:=f12.2
   have h5:=q5 ku.1 (Kh wi rx kx F)
   have p5:EA x:=h5.1
   obtain ⟨e2,l,n,W,far,cd,e1,g,hf,hc,hW⟩:eL (GR (Gl x.1)) x (Hv x):=h5.2
   have hn:=g.V1
   have hlen:=g.len
   have hl1:(Hv x).1.length=l.length+1:=by rw [e1,List.length_append,List.length_singleton]
   obtain ⟨t1,t2⟩:=told hN rx kx hW
   have small:∀ c,mR (oA x.1) c∨mR (oB x.1) c→0≤c∧c < 32:=by
    have one:∀ {o:DO} {c:Int},(o.1=2→xR o)→mR o c→0≤c∧c < 32:=fun {o c} hm hc=>by
     unfold mR eh at hc
     by_cases h2:o.1=2
     ·have:=wQ (hm h2)
      rw [if_pos h2,List.mem_append] at hc
      rcases hc with hc | hc<;>split at hc<;>first | (rw [List.mem_singleton] at hc;omega) | cases hc
     ·rw [if_neg h2] at hc;cases hc
    rintro c (h | h)
    ·exact one rx.mA h
    ·exact one rx.mB h
   have gA:∀ c,gR (oA x.1) c→0≤c∧c < 32:=fun c h=>by have:=kx.pA h.1;have:=h.2;omega
   have gB:∀ c,gR (oB x.1) c→0≤c∧c < 32:=fun c h=>by have:=kx.pB h.1;have:=h.2;omega
   have lr:∀ c∈(Gl x.1).1,0≤c∧c < 32:=fun c hc=>by
    rcases F.up c hc with h | h | h | h | h | h | h
    ·exact gA c h
    ·exact gB c h
    ·exact small c (.inl h)
    ·exact small c (.inr h)
    all_goals omega
   have lw:∀ c∈(Gl x.1).2.1,0≤c∧c < 32:=fun c hc=>by
    rcases (F.wr c).1 hc with h | h | h
    ·exact gA c h.2
    ·omega
    ·omega
   have l1:=F.lr
   have l2:=F.lw
   simp only [vN,eN,eI,eR,eJ]
   refine ⟨p5,fun h=>?_,fun _=>⟨f12.1,?_⟩⟩
   ·rw [e2] at h;exact absurd h (by decide)
   refine Wl lr (by omega) _ 0 _ _ rfl XP fun u hu=>Wk lw (by omega) _ 0 _ _ rfl XP fun y hy=>?_
   have hu:AR u (·∈(Gl x.1).1):=hu.xQ fun c _ _=>by simp
   have hy:AR y (WW x.1):=hy.xQ fun c _ _=>by rw [List.drop_zero,F.wr c];simp
   have hL:(Hv x).1.length≤1000:=by omega
   refine Wn (l:=l) (W:=W) hL hu g.PJ (by omega) 0 [dd 30 8 0 far (wd (BV x)) cd] 0 _ _ (by rw [List.drop_zero,e1]) XP fun v hv=>?_
   have hi:l.length < (Hv x).1.length:=by omega
   have hd:(Hv x).1[l.length]=dd 30 8 0 far (wd (BV x)) cd:=by
    simp only [e1]
    rw [List.getElem_append_right (Nat.le_refl _)]
    simp
   have jt:=(nw 30).2.2 (by decide) (by decide)
   have no:∀ {p:Prop},pM 30=true→p:=fun e=>by rw [jt] at e;cases e
   rw [Nat.zero_add]
   refine xe hi hd (n:=n) hf (aM (BV x)) hc hu (xf hL hi hd (fun _=>?_) (fun e=>no e) (fun e _=>no e) (fun e _=>no e) fun e _ _=>no e)
   rw [← hl1]
   have hv:AR v (WW x.1):=hv.xQ fun c _ hJ=>by rw [← t1 c hJ];simp
   exact Wm hv hy (t2.trans F.fo.symm)
 exact ⟨⟨_,key⟩,dO key⟩
end
end Go.bz.RM
end
