/- A part of the proof that the laws of this seat hold. Conditions: none beyond the row. -/
import Derived.Test.YtifnanjnonepaaaGreatDoorFns2
set_option maxRecDepth 100000
set_option linter.unusedVariables false
set_option linter.unusedSimpArgs false
set_option linter.unusedSectionVars false
section
namespace Go.bM.RM
open Go.bM.RL
open Go.bM
noncomputable section
abbrev xi (d c w:Int) (a b:DO) (i l:Int):DI:=(d,(c,(w,(a,(b,(i,l))))))
theorem RP (c:Int):bG (1,c)=[(1,(Kd.s .rm,(Kd.s .r,(0,([136],(-1,(1,0))))))),(1,(Kd.s .r,(Kd.s .m,(0,([138],(-1,(2,0))))))),(1,(Kd.s .rm,(Kd.s .i8,(0,([198],(0,(1,1))))))),(4,(Kd.s .rm,(Kd.s .r,(0,([137],(-1,(1,0))))))),(4,(Kd.s .r,(Kd.s .m,(0,([139],(-1,(2,0))))))),(4,(Kd.s .rm,(Kd.s .i32,(0,([199],(0,(1,4))))))),(8,(Kd.s .r,(Kd.s .i64,(0,([184],(0,(3,8)))))))]:=by
 rfl
theorem TE (c w:Int) (a b:DO) (i l:Int):Ends (ai (xi 1 c w a b i l)) (dO ((bG (1,c)).find? (cZ (xi 1 c w a b i l)))) (ai (xi 1 c w a b i l) .h0):=by
 rw [RP]
 unfold xi
 simp only [ai]
 simp (config:={decide:=true}) only [eN,bV,bW,al,Int.reduceBEq,beq_self_eq_true,jS,jR,jQ,jP,Bool.not_true,Bool.not_false,aT,bh,true_and,show bd 1 dD 0 = -1 from rfl,show b5 0 (-1)=false from rfl,fv,tv,aV,bS]
 refine row (x:=(xi 1 c w a b i l)) (by simp only [dC]) (by simp only [gq]) (by decide) (by decide) rfl ?_
 simp only [eJ,ai]
 simp (config:={decide:=true}) only [eN,List.take_succ_cons,List.take_zero,true_and,fv,tv,bS,eC]
 refine row (x:=(xi 1 c w a b i l)) (by simp only [gq]) (by simp only [qb]) (by decide) (by decide) rfl ?_
 simp only [eJ,ai]
 simp (config:={decide:=true}) only [eN,List.take_succ_cons,List.take_zero,true_and,fv,tv,aV,gx]
 refine row (x:=(xi 1 c w a b i l)) (by simp only [dC]) (by simp only [xZ]) (by decide) (by decide) rfl ?_
 simp only [eJ,ai]
 simp (config:={decide:=true}) only [eN,List.take_succ_cons,List.take_zero,true_and,aI,a9,aV,bS]
 refine row (x:=(xi 1 c w a b i l)) (by simp only [dC]) (by simp only [gq]) (by decide) (by decide) rfl ?_
 simp only [eJ,ai]
 simp (config:={decide:=true}) only [eN,List.take_succ_cons,List.take_zero,true_and,aI,a9,bS,eC]
 refine row (x:=(xi 1 c w a b i l)) (by simp only [gq]) (by simp only [qb]) (by decide) (by decide) rfl ?_
 simp only [eJ,ai]
 simp (config:={decide:=true}) only [eN,List.take_succ_cons,List.take_zero,true_and,aI,a9,aV,eA]
 refine row (x:=(xi 1 c w a b i l)) (by simp only [dC]) (by simp only [qa]) (by decide) (by decide) rfl ?_
 simp only [eJ,ai]
 simp (config:={decide:=true}) only [eN,List.take_succ_cons,List.take_zero,true_and,fv,L5,bS,n0]
 refine row (x:=(xi 1 c w a b i l)) (by simp only [gq]) (by simp only [Lx]) (by decide) (by decide) rfl ?_
 simp only [eJ,ai,eR]
 rfl
theorem RO (c:Int):bG (2,c)=[(4,(Kd.s .r,(Kd.s .m,(0,([141],(-1,(2,0)))))))]:=by
 rfl
theorem TD (c w:Int) (a b:DO) (i l:Int):Ends (ai (xi 2 c w a b i l)) (dO ((bG (2,c)).find? (cZ (xi 2 c w a b i l)))) (ai (xi 2 c w a b i l) .h0):=by
 rw [RO]
 unfold xi
 simp only [ai]
 simp (config:={decide:=true}) only [eN,bV,bW,al,Int.reduceBEq,beq_self_eq_true,jS,jR,jQ,jP,Bool.not_true,Bool.not_false,aT,bh,true_and,show bd 2 dD 0 = -1 from rfl,show b5 0 (-1)=false from rfl,aI,a9,bS,eC]
 refine row (x:=(xi 2 c w a b i l)) (by simp only [gq]) (by simp only [qb]) (by decide) (by decide) rfl ?_
 simp only [eJ,ai,eR]
 rfl
theorem RN (c:Int):bG (3,c)=[(4,(Kd.s .rm,(Kd.s .r,(0,([1],(-1,(1,0))))))),(4,(Kd.s .r,(Kd.s .m,(0,([3],(-1,(2,0))))))),(4,(Kd.s .rm,(Kd.s .i8,(0,([131],(0,(1,1))))))),(4,(Kd.s .rm,(Kd.s .i32,(0,([129],(0,(1,4)))))))]:=by
 show kD 3=_
 unfold kD gi
 simp only [cO,dr,df,ik]
 rfl
theorem TB (c w:Int) (a b:DO) (i l:Int):Ends (ai (xi 3 c w a b i l)) (dO ((bG (3,c)).find? (cZ (xi 3 c w a b i l)))) (ai (xi 3 c w a b i l) .h0):=by
 rw [RN]
 unfold xi
 simp only [ai]
 simp (config:={decide:=true}) only [eN,bV,bW,al,Int.reduceBEq,beq_self_eq_true,jS,jR,jQ,jP,Bool.not_true,Bool.not_false,aT,bh,true_and,show bd 3 dD 0=0 from rfl,show b5 0 (0)=true from rfl,aI,a9,aV,bS]
 refine row (x:=(xi 3 c w a b i l)) (by simp only [dC]) (by simp only [gq]) (by decide) (by decide) rfl ?_
 simp only [eJ,ai]
 simp (config:={decide:=true}) only [eN,List.take_succ_cons,List.take_zero,true_and,aI,a9,bS,eC]
 refine row (x:=(xi 3 c w a b i l)) (by simp only [gq]) (by simp only [qb]) (by decide) (by decide) rfl ?_
 simp only [eJ,ai]
 simp (config:={decide:=true}) only [eN,List.take_succ_cons,List.take_zero,true_and,aI,a9,aV,gx]
 refine row (x:=(xi 3 c w a b i l)) (by simp only [dC]) (by simp only [xZ]) (by decide) (by decide) rfl ?_
 simp only [eJ,ai]
 simp (config:={decide:=true}) only [eN,List.take_succ_cons,List.take_zero,true_and,aI,a9,aV,eA]
 refine row (x:=(xi 3 c w a b i l)) (by simp only [dC]) (by simp only [qa]) (by decide) (by decide) rfl ?_
 simp only [eJ,ai,eR]
 rfl
theorem RK (c:Int):bG (4,c)=[(4,(Kd.s .rm,(Kd.s .r,(0,([9],(-1,(1,0))))))),(4,(Kd.s .r,(Kd.s .m,(0,([11],(-1,(2,0))))))),(4,(Kd.s .rm,(Kd.s .i8,(0,([131],(1,(1,1))))))),(4,(Kd.s .rm,(Kd.s .i32,(0,([129],(1,(1,4)))))))]:=by
 show kD 4=_
 unfold kD gi
 simp only [cO,dr,df,ik]
 rfl
theorem TA (c w:Int) (a b:DO) (i l:Int):Ends (ai (xi 4 c w a b i l)) (dO ((bG (4,c)).find? (cZ (xi 4 c w a b i l)))) (ai (xi 4 c w a b i l) .h0):=by
 rw [RK]
 unfold xi
 simp only [ai]
 simp (config:={decide:=true}) only [eN,bV,bW,al,Int.reduceBEq,beq_self_eq_true,jS,jR,jQ,jP,Bool.not_true,Bool.not_false,aT,bh,true_and,show bd 4 dD 0=1 from rfl,show b5 0 (1)=true from rfl,aI,a9,aV,bS]
 refine row (x:=(xi 4 c w a b i l)) (by simp only [dC]) (by simp only [gq]) (by decide) (by decide) rfl ?_
 simp only [eJ,ai]
 simp (config:={decide:=true}) only [eN,List.take_succ_cons,List.take_zero,true_and,aI,a9,bS,eC]
 refine row (x:=(xi 4 c w a b i l)) (by simp only [gq]) (by simp only [qb]) (by decide) (by decide) rfl ?_
 simp only [eJ,ai]
 simp (config:={decide:=true}) only [eN,List.take_succ_cons,List.take_zero,true_and,aI,a9,aV,gx]
 refine row (x:=(xi 4 c w a b i l)) (by simp only [dC]) (by simp only [xZ]) (by decide) (by decide) rfl ?_
 simp only [eJ,ai]
 simp (config:={decide:=true}) only [eN,List.take_succ_cons,List.take_zero,true_and,aI,a9,aV,eA]
 refine row (x:=(xi 4 c w a b i l)) (by simp only [dC]) (by simp only [qa]) (by decide) (by decide) rfl ?_
 simp only [eJ,ai,eR]
 rfl
theorem RJ (c:Int):bG (5,c)=[(4,(Kd.s .rm,(Kd.s .r,(0,([17],(-1,(1,0))))))),(4,(Kd.s .r,(Kd.s .m,(0,([19],(-1,(2,0))))))),(4,(Kd.s .rm,(Kd.s .i8,(0,([131],(2,(1,1))))))),(4,(Kd.s .rm,(Kd.s .i32,(0,([129],(2,(1,4)))))))]:=by
 show kD 5=_
 unfold kD gi
 simp only [cO,dr,df,ik]
 rfl
theorem Tz (c w:Int) (a b:DO) (i l:Int):Ends (ai (xi 5 c w a b i l)) (dO ((bG (5,c)).find? (cZ (xi 5 c w a b i l)))) (ai (xi 5 c w a b i l) .h0):=by
 rw [RJ]
 unfold xi
 simp only [ai]
 simp (config:={decide:=true}) only [eN,bV,bW,al,Int.reduceBEq,beq_self_eq_true,jS,jR,jQ,jP,Bool.not_true,Bool.not_false,aT,bh,true_and,show bd 5 dD 0=2 from rfl,show b5 0 (2)=true from rfl,aI,a9,aV,bS]
 refine row (x:=(xi 5 c w a b i l)) (by simp only [dC]) (by simp only [gq]) (by decide) (by decide) rfl ?_
 simp only [eJ,ai]
 simp (config:={decide:=true}) only [eN,List.take_succ_cons,List.take_zero,true_and,aI,a9,bS,eC]
 refine row (x:=(xi 5 c w a b i l)) (by simp only [gq]) (by simp only [qb]) (by decide) (by decide) rfl ?_
 simp only [eJ,ai]
 simp (config:={decide:=true}) only [eN,List.take_succ_cons,List.take_zero,true_and,aI,a9,aV,gx]
 refine row (x:=(xi 5 c w a b i l)) (by simp only [dC]) (by simp only [xZ]) (by decide) (by decide) rfl ?_
 simp only [eJ,ai]
 simp (config:={decide:=true}) only [eN,List.take_succ_cons,List.take_zero,true_and,aI,a9,aV,eA]
 refine row (x:=(xi 5 c w a b i l)) (by simp only [dC]) (by simp only [qa]) (by decide) (by decide) rfl ?_
 simp only [eJ,ai,eR]
 rfl
theorem RI (c:Int):bG (6,c)=[(4,(Kd.s .rm,(Kd.s .r,(0,([25],(-1,(1,0))))))),(4,(Kd.s .r,(Kd.s .m,(0,([27],(-1,(2,0))))))),(4,(Kd.s .rm,(Kd.s .i8,(0,([131],(3,(1,1))))))),(4,(Kd.s .rm,(Kd.s .i32,(0,([129],(3,(1,4)))))))]:=by
 show kD 6=_
 unfold kD gi
 simp only [cO,dr,df,ik]
 rfl
theorem Ty (c w:Int) (a b:DO) (i l:Int):Ends (ai (xi 6 c w a b i l)) (dO ((bG (6,c)).find? (cZ (xi 6 c w a b i l)))) (ai (xi 6 c w a b i l) .h0):=by
 rw [RI]
 unfold xi
 simp only [ai]
 simp (config:={decide:=true}) only [eN,bV,bW,al,Int.reduceBEq,beq_self_eq_true,jS,jR,jQ,jP,Bool.not_true,Bool.not_false,aT,bh,true_and,show bd 6 dD 0=3 from rfl,show b5 0 (3)=true from rfl,aI,a9,aV,bS]
 refine row (x:=(xi 6 c w a b i l)) (by simp only [dC]) (by simp only [gq]) (by decide) (by decide) rfl ?_
 simp only [eJ,ai]
 simp (config:={decide:=true}) only [eN,List.take_succ_cons,List.take_zero,true_and,aI,a9,bS,eC]
 refine row (x:=(xi 6 c w a b i l)) (by simp only [gq]) (by simp only [qb]) (by decide) (by decide) rfl ?_
 simp only [eJ,ai]
 simp (config:={decide:=true}) only [eN,List.take_succ_cons,List.take_zero,true_and,aI,a9,aV,gx]
 refine row (x:=(xi 6 c w a b i l)) (by simp only [dC]) (by simp only [xZ]) (by decide) (by decide) rfl ?_
 simp only [eJ,ai]
 simp (config:={decide:=true}) only [eN,List.take_succ_cons,List.take_zero,true_and,aI,a9,aV,eA]
 refine row (x:=(xi 6 c w a b i l)) (by simp only [dC]) (by simp only [qa]) (by decide) (by decide) rfl ?_
 simp only [eJ,ai,eR]
 rfl
theorem RH (c:Int):bG (7,c)=[(4,(Kd.s .rm,(Kd.s .r,(0,([33],(-1,(1,0))))))),(4,(Kd.s .r,(Kd.s .m,(0,([35],(-1,(2,0))))))),(4,(Kd.s .rm,(Kd.s .i8,(0,([131],(4,(1,1))))))),(4,(Kd.s .rm,(Kd.s .i32,(0,([129],(4,(1,4)))))))]:=by
 show kD 7=_
 unfold kD gi
 simp only [cO,dr,df,ik]
 rfl
theorem Tx (c w:Int) (a b:DO) (i l:Int):Ends (ai (xi 7 c w a b i l)) (dO ((bG (7,c)).find? (cZ (xi 7 c w a b i l)))) (ai (xi 7 c w a b i l) .h0):=by
 rw [RH]
 unfold xi
 simp only [ai]
 simp (config:={decide:=true}) only [eN,bV,bW,al,Int.reduceBEq,beq_self_eq_true,jS,jR,jQ,jP,Bool.not_true,Bool.not_false,aT,bh,true_and,show bd 7 dD 0=4 from rfl,show b5 0 (4)=true from rfl,aI,a9,aV,bS]
 refine row (x:=(xi 7 c w a b i l)) (by simp only [dC]) (by simp only [gq]) (by decide) (by decide) rfl ?_
 simp only [eJ,ai]
 simp (config:={decide:=true}) only [eN,List.take_succ_cons,List.take_zero,true_and,aI,a9,bS,eC]
 refine row (x:=(xi 7 c w a b i l)) (by simp only [gq]) (by simp only [qb]) (by decide) (by decide) rfl ?_
 simp only [eJ,ai]
 simp (config:={decide:=true}) only [eN,List.take_succ_cons,List.take_zero,true_and,aI,a9,aV,gx]
 refine row (x:=(xi 7 c w a b i l)) (by simp only [dC]) (by simp only [xZ]) (by decide) (by decide) rfl ?_
 simp only [eJ,ai]
 simp (config:={decide:=true}) only [eN,List.take_succ_cons,List.take_zero,true_and,aI,a9,aV,eA]
 refine row (x:=(xi 7 c w a b i l)) (by simp only [dC]) (by simp only [qa]) (by decide) (by decide) rfl ?_
 simp only [eJ,ai,eR]
 rfl
theorem RG (c:Int):bG (8,c)=[(4,(Kd.s .rm,(Kd.s .r,(0,([41],(-1,(1,0))))))),(4,(Kd.s .r,(Kd.s .m,(0,([43],(-1,(2,0))))))),(4,(Kd.s .rm,(Kd.s .i8,(0,([131],(5,(1,1))))))),(4,(Kd.s .rm,(Kd.s .i32,(0,([129],(5,(1,4)))))))]:=by
 show kD 8=_
 unfold kD gi
 simp only [cO,dr,df,ik]
 rfl
theorem Tw (c w:Int) (a b:DO) (i l:Int):Ends (ai (xi 8 c w a b i l)) (dO ((bG (8,c)).find? (cZ (xi 8 c w a b i l)))) (ai (xi 8 c w a b i l) .h0):=by
 rw [RG]
 unfold xi
 simp only [ai]
 simp (config:={decide:=true}) only [eN,bV,bW,al,Int.reduceBEq,beq_self_eq_true,jS,jR,jQ,jP,Bool.not_true,Bool.not_false,aT,bh,true_and,show bd 8 dD 0=5 from rfl,show b5 0 (5)=true from rfl,aI,a9,aV,bS]
 refine row (x:=(xi 8 c w a b i l)) (by simp only [dC]) (by simp only [gq]) (by decide) (by decide) rfl ?_
 simp only [eJ,ai]
 simp (config:={decide:=true}) only [eN,List.take_succ_cons,List.take_zero,true_and,aI,a9,bS,eC]
 refine row (x:=(xi 8 c w a b i l)) (by simp only [gq]) (by simp only [qb]) (by decide) (by decide) rfl ?_
 simp only [eJ,ai]
 simp (config:={decide:=true}) only [eN,List.take_succ_cons,List.take_zero,true_and,aI,a9,aV,gx]
 refine row (x:=(xi 8 c w a b i l)) (by simp only [dC]) (by simp only [xZ]) (by decide) (by decide) rfl ?_
 simp only [eJ,ai]
 simp (config:={decide:=true}) only [eN,List.take_succ_cons,List.take_zero,true_and,aI,a9,aV,eA]
 refine row (x:=(xi 8 c w a b i l)) (by simp only [dC]) (by simp only [qa]) (by decide) (by decide) rfl ?_
 simp only [eJ,ai,eR]
 rfl
theorem RF (c:Int):bG (9,c)=[(4,(Kd.s .rm,(Kd.s .r,(0,([49],(-1,(1,0))))))),(4,(Kd.s .r,(Kd.s .m,(0,([51],(-1,(2,0))))))),(4,(Kd.s .rm,(Kd.s .i8,(0,([131],(6,(1,1))))))),(4,(Kd.s .rm,(Kd.s .i32,(0,([129],(6,(1,4)))))))]:=by
 show kD 9=_
 unfold kD gi
 simp only [cO,dr,df,ik]
 rfl
theorem Tv (c w:Int) (a b:DO) (i l:Int):Ends (ai (xi 9 c w a b i l)) (dO ((bG (9,c)).find? (cZ (xi 9 c w a b i l)))) (ai (xi 9 c w a b i l) .h0):=by
 rw [RF]
 unfold xi
 simp only [ai]
 simp (config:={decide:=true}) only [eN,bV,bW,al,Int.reduceBEq,beq_self_eq_true,jS,jR,jQ,jP,Bool.not_true,Bool.not_false,aT,bh,true_and,show bd 9 dD 0=6 from rfl,show b5 0 (6)=true from rfl,aI,a9,aV,bS]
 refine row (x:=(xi 9 c w a b i l)) (by simp only [dC]) (by simp only [gq]) (by decide) (by decide) rfl ?_
 simp only [eJ,ai]
 simp (config:={decide:=true}) only [eN,List.take_succ_cons,List.take_zero,true_and,aI,a9,bS,eC]
 refine row (x:=(xi 9 c w a b i l)) (by simp only [gq]) (by simp only [qb]) (by decide) (by decide) rfl ?_
 simp only [eJ,ai]
 simp (config:={decide:=true}) only [eN,List.take_succ_cons,List.take_zero,true_and,aI,a9,aV,gx]
 refine row (x:=(xi 9 c w a b i l)) (by simp only [dC]) (by simp only [xZ]) (by decide) (by decide) rfl ?_
 simp only [eJ,ai]
 simp (config:={decide:=true}) only [eN,List.take_succ_cons,List.take_zero,true_and,aI,a9,aV,eA]
 refine row (x:=(xi 9 c w a b i l)) (by simp only [dC]) (by simp only [qa]) (by decide) (by decide) rfl ?_
 simp only [eJ,ai,eR]
 rfl
theorem OE (c:Int):bG (10,c)=[(4,(Kd.s .rm,(Kd.s .r,(0,([57],(-1,(1,0))))))),(4,(Kd.s .r,(Kd.s .m,(0,([59],(-1,(2,0))))))),(4,(Kd.s .rm,(Kd.s .i8,(0,([131],(7,(1,1))))))),(4,(Kd.s .rm,(Kd.s .i32,(0,([129],(7,(1,4)))))))]:=by
 show kD 10=_
 unfold kD gi
 simp only [cO,dr,df,ik]
 rfl
theorem P0 (c w:Int) (a b:DO) (i l:Int):Ends (ai (xi 10 c w a b i l)) (dO ((bG (10,c)).find? (cZ (xi 10 c w a b i l)))) (ai (xi 10 c w a b i l) .h0):=by
 rw [OE]
 unfold xi
 simp only [ai]
 simp (config:={decide:=true}) only [eN,bV,bW,al,Int.reduceBEq,beq_self_eq_true,jS,jR,jQ,jP,Bool.not_true,Bool.not_false,aT,bh,true_and,show bd 10 dD 0=7 from rfl,show b5 0 (7)=true from rfl,aI,a9,aV,bS]
 refine row (x:=(xi 10 c w a b i l)) (by simp only [dC]) (by simp only [gq]) (by decide) (by decide) rfl ?_
 simp only [eJ,ai]
 simp (config:={decide:=true}) only [eN,List.take_succ_cons,List.take_zero,true_and,aI,a9,bS,eC]
 refine row (x:=(xi 10 c w a b i l)) (by simp only [gq]) (by simp only [qb]) (by decide) (by decide) rfl ?_
 simp only [eJ,ai]
 simp (config:={decide:=true}) only [eN,List.take_succ_cons,List.take_zero,true_and,aI,a9,aV,gx]
 refine row (x:=(xi 10 c w a b i l)) (by simp only [dC]) (by simp only [xZ]) (by decide) (by decide) rfl ?_
 simp only [eJ,ai]
 simp (config:={decide:=true}) only [eN,List.take_succ_cons,List.take_zero,true_and,aI,a9,aV,eA]
 refine row (x:=(xi 10 c w a b i l)) (by simp only [dC]) (by simp only [qa]) (by decide) (by decide) rfl ?_
 simp only [eJ,ai,eR]
 rfl
theorem OD (c:Int):bG (11,c)=[(4,(Kd.s .rm,(Kd.s .r,(0,([133],(-1,(1,0))))))),(4,(Kd.s .rm,(Kd.s .i32,(0,([247],(0,(1,4)))))))]:=by
 rfl
theorem PZ (c w:Int) (a b:DO) (i l:Int):Ends (ai (xi 11 c w a b i l)) (dO ((bG (11,c)).find? (cZ (xi 11 c w a b i l)))) (ai (xi 11 c w a b i l) .h0):=by
 rw [OD]
 unfold xi
 simp only [ai]
 simp (config:={decide:=true}) only [eN,bV,bW,al,Int.reduceBEq,beq_self_eq_true,jS,jR,jQ,jP,Bool.not_true,Bool.not_false,aT,bh,true_and,show bd 11 dD 0 = -1 from rfl,show b5 0 (-1)=false from rfl,aI,a9,aV,bS]
 refine row (x:=(xi 11 c w a b i l)) (by simp only [dC]) (by simp only [gq]) (by decide) (by decide) rfl ?_
 simp only [eJ,ai]
 simp (config:={decide:=true}) only [eN,List.take_succ_cons,List.take_zero,true_and,aI,a9,aV,eA]
 refine row (x:=(xi 11 c w a b i l)) (by simp only [dC]) (by simp only [qa]) (by decide) (by decide) rfl ?_
 simp only [eJ,ai,eR]
 rfl
theorem OC (c:Int):bG (12,c)=[(4,(Kd.s .rm,(Kd.s .no,(0,([255],(0,(1,0)))))))]:=by
 rfl
theorem PY (c w:Int) (a b:DO) (i l:Int):Ends (ai (xi 12 c w a b i l)) (dO ((bG (12,c)).find? (cZ (xi 12 c w a b i l)))) (ai (xi 12 c w a b i l) .h0):=by
 rw [OC]
 unfold xi
 simp only [ai]
 simp (config:={decide:=true}) only [eN,bV,bW,al,Int.reduceBEq,beq_self_eq_true,jS,jR,jQ,jP,Bool.not_true,Bool.not_false,aT,bh,true_and,show bd 12 dD 0 = -1 from rfl,show b5 0 (-1)=false from rfl,aI,a9,aV,dR]
 refine row (x:=(xi 12 c w a b i l)) (by simp only [dC]) (by simp only [lv]) (by decide) (by decide) rfl ?_
 simp only [eJ,ai,eR]
 rfl
theorem OB (c:Int):bG (13,c)=[(4,(Kd.s .rm,(Kd.s .no,(0,([255],(1,(1,0)))))))]:=by
 rfl
theorem PX (c w:Int) (a b:DO) (i l:Int):Ends (ai (xi 13 c w a b i l)) (dO ((bG (13,c)).find? (cZ (xi 13 c w a b i l)))) (ai (xi 13 c w a b i l) .h0):=by
 rw [OB]
 unfold xi
 simp only [ai]
 simp (config:={decide:=true}) only [eN,bV,bW,al,Int.reduceBEq,beq_self_eq_true,jS,jR,jQ,jP,Bool.not_true,Bool.not_false,aT,bh,true_and,show bd 13 dD 0 = -1 from rfl,show b5 0 (-1)=false from rfl,aI,a9,aV,dR]
 refine row (x:=(xi 13 c w a b i l)) (by simp only [dC]) (by simp only [lv]) (by decide) (by decide) rfl ?_
 simp only [eJ,ai,eR]
 rfl
theorem OA (c:Int):bG (14,c)=[(4,(Kd.s .rm,(Kd.s .no,(0,([247],(3,(1,0)))))))]:=by
 rfl
theorem PW (c w:Int) (a b:DO) (i l:Int):Ends (ai (xi 14 c w a b i l)) (dO ((bG (14,c)).find? (cZ (xi 14 c w a b i l)))) (ai (xi 14 c w a b i l) .h0):=by
 rw [OA]
 unfold xi
 simp only [ai]
 simp (config:={decide:=true}) only [eN,bV,bW,al,Int.reduceBEq,beq_self_eq_true,jS,jR,jQ,jP,Bool.not_true,Bool.not_false,aT,bh,true_and,show bd 14 dD 0 = -1 from rfl,show b5 0 (-1)=false from rfl,aI,a9,aV,dR]
 refine row (x:=(xi 14 c w a b i l)) (by simp only [dC]) (by simp only [lv]) (by decide) (by decide) rfl ?_
 simp only [eJ,ai,eR]
 rfl
theorem Oz (c:Int):bG (15,c)=[(4,(Kd.s .rm,(Kd.s .no,(0,([247],(2,(1,0)))))))]:=by
 rfl
theorem PV (c w:Int) (a b:DO) (i l:Int):Ends (ai (xi 15 c w a b i l)) (dO ((bG (15,c)).find? (cZ (xi 15 c w a b i l)))) (ai (xi 15 c w a b i l) .h0):=by
 rw [Oz]
 unfold xi
 simp only [ai]
 simp (config:={decide:=true}) only [eN,bV,bW,al,Int.reduceBEq,beq_self_eq_true,jS,jR,jQ,jP,Bool.not_true,Bool.not_false,aT,bh,true_and,show bd 15 dD 0 = -1 from rfl,show b5 0 (-1)=false from rfl,aI,a9,aV,dR]
 refine row (x:=(xi 15 c w a b i l)) (by simp only [dC]) (by simp only [lv]) (by decide) (by decide) rfl ?_
 simp only [eJ,ai,eR]
 rfl
theorem Oy (c:Int):bG (16,c)=[(4,(Kd.s .rm,(Kd.s .u8,(0,([193],(4,(1,1))))))),(4,(Kd.s .rm,(Kd.s .cl,(0,([211],(4,(1,0)))))))]:=by
 rfl
theorem PU (c w:Int) (a b:DO) (i l:Int):Ends (ai (xi 16 c w a b i l)) (dO ((bG (16,c)).find? (cZ (xi 16 c w a b i l)))) (ai (xi 16 c w a b i l) .h0):=by
 rw [Oy]
 unfold xi
 simp only [ai]
 simp (config:={decide:=true}) only [eN,bV,bW,al,Int.reduceBEq,beq_self_eq_true,jS,jR,jQ,jP,Bool.not_true,Bool.not_false,aT,bh,true_and,show bd 16 dD 0 = -1 from rfl,show b5 0 (-1)=false from rfl,aI,a9,aV,lF]
 refine row (x:=(xi 16 c w a b i l)) (by simp only [dC]) (by simp only [JJ]) (by decide) (by decide) rfl ?_
 simp only [eJ,ai]
 simp (config:={decide:=true}) only [eN,List.take_succ_cons,List.take_zero,true_and,aI,a9,aV,lE]
 refine row (x:=(xi 16 c w a b i l)) (by simp only [dC]) (by simp only [JI]) (by decide) (by decide) rfl ?_
 simp only [eJ,ai,eR]
 rfl
theorem Ox (c:Int):bG (17,c)=[(4,(Kd.s .rm,(Kd.s .u8,(0,([193],(5,(1,1))))))),(4,(Kd.s .rm,(Kd.s .cl,(0,([211],(5,(1,0)))))))]:=by
 rfl
theorem PT (c w:Int) (a b:DO) (i l:Int):Ends (ai (xi 17 c w a b i l)) (dO ((bG (17,c)).find? (cZ (xi 17 c w a b i l)))) (ai (xi 17 c w a b i l) .h0):=by
 rw [Ox]
 unfold xi
 simp only [ai]
 simp (config:={decide:=true}) only [eN,bV,bW,al,Int.reduceBEq,beq_self_eq_true,jS,jR,jQ,jP,Bool.not_true,Bool.not_false,aT,bh,true_and,show bd 17 dD 0 = -1 from rfl,show b5 0 (-1)=false from rfl,aI,a9,aV,lF]
 refine row (x:=(xi 17 c w a b i l)) (by simp only [dC]) (by simp only [JJ]) (by decide) (by decide) rfl ?_
 simp only [eJ,ai]
 simp (config:={decide:=true}) only [eN,List.take_succ_cons,List.take_zero,true_and,aI,a9,aV,lE]
 refine row (x:=(xi 17 c w a b i l)) (by simp only [dC]) (by simp only [JI]) (by decide) (by decide) rfl ?_
 simp only [eJ,ai,eR]
 rfl
theorem Ow (c:Int):bG (18,c)=[(4,(Kd.s .rm,(Kd.s .u8,(0,([193],(7,(1,1))))))),(4,(Kd.s .rm,(Kd.s .cl,(0,([211],(7,(1,0)))))))]:=by
 rfl
theorem PS (c w:Int) (a b:DO) (i l:Int):Ends (ai (xi 18 c w a b i l)) (dO ((bG (18,c)).find? (cZ (xi 18 c w a b i l)))) (ai (xi 18 c w a b i l) .h0):=by
 rw [Ow]
 unfold xi
 simp only [ai]
 simp (config:={decide:=true}) only [eN,bV,bW,al,Int.reduceBEq,beq_self_eq_true,jS,jR,jQ,jP,Bool.not_true,Bool.not_false,aT,bh,true_and,show bd 18 dD 0 = -1 from rfl,show b5 0 (-1)=false from rfl,aI,a9,aV,lF]
 refine row (x:=(xi 18 c w a b i l)) (by simp only [dC]) (by simp only [JJ]) (by decide) (by decide) rfl ?_
 simp only [eJ,ai]
 simp (config:={decide:=true}) only [eN,List.take_succ_cons,List.take_zero,true_and,aI,a9,aV,lE]
 refine row (x:=(xi 18 c w a b i l)) (by simp only [dC]) (by simp only [JI]) (by decide) (by decide) rfl ?_
 simp only [eJ,ai,eR]
 rfl
theorem Ov (c:Int):bG (19,c)=[(4,(Kd.s .rm,(Kd.s .u8,(0,([193],(0,(1,1))))))),(4,(Kd.s .rm,(Kd.s .cl,(0,([211],(0,(1,0)))))))]:=by
 rfl
theorem PR (c w:Int) (a b:DO) (i l:Int):Ends (ai (xi 19 c w a b i l)) (dO ((bG (19,c)).find? (cZ (xi 19 c w a b i l)))) (ai (xi 19 c w a b i l) .h0):=by
 rw [Ov]
 unfold xi
 simp only [ai]
 simp (config:={decide:=true}) only [eN,bV,bW,al,Int.reduceBEq,beq_self_eq_true,jS,jR,jQ,jP,Bool.not_true,Bool.not_false,aT,bh,true_and,show bd 19 dD 0 = -1 from rfl,show b5 0 (-1)=false from rfl,aI,a9,aV,lF]
 refine row (x:=(xi 19 c w a b i l)) (by simp only [dC]) (by simp only [JJ]) (by decide) (by decide) rfl ?_
 simp only [eJ,ai]
 simp (config:={decide:=true}) only [eN,List.take_succ_cons,List.take_zero,true_and,aI,a9,aV,lE]
 refine row (x:=(xi 19 c w a b i l)) (by simp only [dC]) (by simp only [JI]) (by decide) (by decide) rfl ?_
 simp only [eJ,ai,eR]
 rfl
theorem Ou (c:Int):bG (20,c)=[(4,(Kd.s .rm,(Kd.s .u8,(0,([193],(1,(1,1))))))),(4,(Kd.s .rm,(Kd.s .cl,(0,([211],(1,(1,0)))))))]:=by
 rfl
theorem PQ (c w:Int) (a b:DO) (i l:Int):Ends (ai (xi 20 c w a b i l)) (dO ((bG (20,c)).find? (cZ (xi 20 c w a b i l)))) (ai (xi 20 c w a b i l) .h0):=by
 rw [Ou]
 unfold xi
 simp only [ai]
 simp (config:={decide:=true}) only [eN,bV,bW,al,Int.reduceBEq,beq_self_eq_true,jS,jR,jQ,jP,Bool.not_true,Bool.not_false,aT,bh,true_and,show bd 20 dD 0 = -1 from rfl,show b5 0 (-1)=false from rfl,aI,a9,aV,lF]
 refine row (x:=(xi 20 c w a b i l)) (by simp only [dC]) (by simp only [JJ]) (by decide) (by decide) rfl ?_
 simp only [eJ,ai]
 simp (config:={decide:=true}) only [eN,List.take_succ_cons,List.take_zero,true_and,aI,a9,aV,lE]
 refine row (x:=(xi 20 c w a b i l)) (by simp only [dC]) (by simp only [JI]) (by decide) (by decide) rfl ?_
 simp only [eJ,ai,eR]
 rfl
theorem Ot (c:Int):bG (21,c)=[(4,(Kd.s .r,(Kd.s .rm,(0,([15,175],(-1,(2,0)))))))]:=by
 rfl
theorem PO (c w:Int) (a b:DO) (i l:Int):Ends (ai (xi 21 c w a b i l)) (dO ((bG (21,c)).find? (cZ (xi 21 c w a b i l)))) (ai (xi 21 c w a b i l) .h0):=by
 rw [Ot]
 unfold xi
 simp only [ai]
 simp (config:={decide:=true}) only [eN,bV,bW,al,Int.reduceBEq,beq_self_eq_true,jS,jR,jQ,jP,Bool.not_true,Bool.not_false,aT,bh,true_and,show bd 21 dD 0 = -1 from rfl,show b5 0 (-1)=false from rfl,aI,a9,bS,aV]
 refine row (x:=(xi 21 c w a b i l)) (by simp only [gq]) (by simp only [dC]) (by decide) (by decide) rfl ?_
 simp only [eJ,ai,eR]
 rfl
theorem Oq (c:Int):bG (22,c)=[(4,(Kd.s .rm,(Kd.s .no,(0,([247],(4,(1,0)))))))]:=by
 rfl
theorem PN (c w:Int) (a b:DO) (i l:Int):Ends (ai (xi 22 c w a b i l)) (dO ((bG (22,c)).find? (cZ (xi 22 c w a b i l)))) (ai (xi 22 c w a b i l) .h0):=by
 rw [Oq]
 unfold xi
 simp only [ai]
 simp (config:={decide:=true}) only [eN,bV,bW,al,Int.reduceBEq,beq_self_eq_true,jS,jR,jQ,jP,Bool.not_true,Bool.not_false,aT,bh,true_and,show bd 22 dD 0 = -1 from rfl,show b5 0 (-1)=false from rfl,aI,a9,aV,dR]
 refine row (x:=(xi 22 c w a b i l)) (by simp only [dC]) (by simp only [lv]) (by decide) (by decide) rfl ?_
 simp only [eJ,ai,eR]
 rfl
theorem Oo (c:Int):bG (23,c)=[(4,(Kd.s .rm,(Kd.s .no,(0,([247],(6,(1,0)))))))]:=by
 rfl
theorem PM (c w:Int) (a b:DO) (i l:Int):Ends (ai (xi 23 c w a b i l)) (dO ((bG (23,c)).find? (cZ (xi 23 c w a b i l)))) (ai (xi 23 c w a b i l) .h0):=by
 rw [Oo]
 unfold xi
 simp only [ai]
 simp (config:={decide:=true}) only [eN,bV,bW,al,Int.reduceBEq,beq_self_eq_true,jS,jR,jQ,jP,Bool.not_true,Bool.not_false,aT,bh,true_and,show bd 23 dD 0 = -1 from rfl,show b5 0 (-1)=false from rfl,aI,a9,aV,dR]
 refine row (x:=(xi 23 c w a b i l)) (by simp only [dC]) (by simp only [lv]) (by decide) (by decide) rfl ?_
 simp only [eJ,ai,eR]
 rfl
theorem On (c:Int):bG (24,c)=[(16,(Kd.s .r,(Kd.s .no,(0,([80],(0,(3,0)))))))]:=by
 rfl
theorem PL (c w:Int) (a b:DO) (i l:Int):Ends (ai (xi 24 c w a b i l)) (dO ((bG (24,c)).find? (cZ (xi 24 c w a b i l)))) (ai (xi 24 c w a b i l) .h0):=by
 rw [On]
 unfold xi
 simp only [ai]
 simp (config:={decide:=true}) only [eN,bV,bW,al,Int.reduceBEq,beq_self_eq_true,jS,jR,jQ,jP,Bool.not_true,Bool.not_false,aT,bh,true_and,show bd 24 dD 0 = -1 from rfl,show b5 0 (-1)=false from rfl,aI,il,bS,dR]
 refine row (x:=(xi 24 c w a b i l)) (by simp only [gq]) (by simp only [lv]) (by decide) (by decide) rfl ?_
 simp only [eJ,ai,eR]
 rfl
theorem Om (c:Int):bG (25,c)=[(16,(Kd.s .r,(Kd.s .no,(0,([88],(0,(3,0)))))))]:=by
 rfl
theorem PK (c w:Int) (a b:DO) (i l:Int):Ends (ai (xi 25 c w a b i l)) (dO ((bG (25,c)).find? (cZ (xi 25 c w a b i l)))) (ai (xi 25 c w a b i l) .h0):=by
 rw [Om]
 unfold xi
 simp only [ai]
 simp (config:={decide:=true}) only [eN,bV,bW,al,Int.reduceBEq,beq_self_eq_true,jS,jR,jQ,jP,Bool.not_true,Bool.not_false,aT,bh,true_and,show bd 25 dD 0 = -1 from rfl,show b5 0 (-1)=false from rfl,aI,il,bS,dR]
 refine row (x:=(xi 25 c w a b i l)) (by simp only [gq]) (by simp only [lv]) (by decide) (by decide) rfl ?_
 simp only [eJ,ai,eR]
 rfl
theorem Ol (c:Int):bG (26,c)=[(16,(Kd.s .no,(Kd.s .i32,(0,([232],(0,(0,4)))))))]:=by
 rfl
theorem PJ (c w:Int) (a b:DO) (i l:Int):Ends (ai (xi 26 c w a b i l)) (dO ((bG (26,c)).find? (cZ (xi 26 c w a b i l)))) (ai (xi 26 c w a b i l) .h0):=by
 rw [Ol]
 unfold xi
 simp only [ai]
 simp (config:={decide:=true}) only [eN,bV,bW,al,Int.reduceBEq,beq_self_eq_true,jS,jR,jQ,jP,Bool.not_true,Bool.not_false,aT,bh,true_and,show bd 26 dD 0 = -1 from rfl,show b5 0 (-1)=false from rfl,aI,il,dR,eA]
 refine row (x:=(xi 26 c w a b i l)) (by simp only [lv]) (by simp only [qa]) (by decide) (by decide) rfl ?_
 simp only [eJ,ai,eR]
 rfl
theorem Ok (c:Int):bG (27,c)=[(16,(Kd.s .no,(Kd.s .no,(0,([195],(0,(0,0)))))))]:=by
 rfl
theorem PI (c w:Int) (a b:DO) (i l:Int):Ends (ai (xi 27 c w a b i l)) (dO ((bG (27,c)).find? (cZ (xi 27 c w a b i l)))) (ai (xi 27 c w a b i l) .h0):=by
 rw [Ok]
 unfold xi
 simp only [ai]
 simp (config:={decide:=true}) only [eN,bV,bW,al,Int.reduceBEq,beq_self_eq_true,jS,jR,jQ,jP,Bool.not_true,Bool.not_false,aT,bh,true_and,show bd 27 dD 0 = -1 from rfl,show b5 0 (-1)=false from rfl,aI,il,dR]
 refine row (x:=(xi 27 c w a b i l)) (by simp only [lv]) (by simp only [lv]) (by decide) (by decide) rfl ?_
 simp only [eJ,ai,eR]
 rfl
theorem Oj (c:Int):bG (28,c)=[(16,(Kd.s .no,(Kd.s .i32,(0,([233],(0,(0,4))))))),(16,(Kd.s .rm,(Kd.s .no,(0,([255],(4,(1,0)))))))]:=by
 rfl
theorem PH (c w:Int) (a b:DO) (i l:Int):Ends (ai (xi 28 c w a b i l)) (dO ((bG (28,c)).find? (cZ (xi 28 c w a b i l)))) (ai (xi 28 c w a b i l) .h0):=by
 rw [Oj]
 unfold xi
 simp only [ai]
 simp (config:={decide:=true}) only [eN,bV,bW,al,Int.reduceBEq,beq_self_eq_true,jS,jR,jQ,jP,Bool.not_true,Bool.not_false,aT,bh,true_and,show bd 28 dD 0 = -1 from rfl,show b5 0 (-1)=false from rfl,aI,il,dR,eA]
 refine row (x:=(xi 28 c w a b i l)) (by simp only [lv]) (by simp only [qa]) (by decide) (by decide) rfl ?_
 simp only [eJ,ai]
 simp (config:={decide:=true}) only [eN,List.take_succ_cons,List.take_zero,true_and,aI,il,aV,dR]
 refine row (x:=(xi 28 c w a b i l)) (by simp only [dC]) (by simp only [lv]) (by decide) (by decide) rfl ?_
 simp only [eJ,ai,eR]
 rfl
theorem Oi (c:Int):bG (29,c)=[(16,(Kd.s .no,(Kd.s .i32,(0,([15,(aU .u8 128 (kx .u8 c 16))],(0,(0,4)))))))]:=by
 rfl
theorem PG (c w:Int) (a b:DO) (i l:Int) (hc:0≤c∧c < 16):Ends (ai (xi 29 c w a b i l)) (dO ((bG (29,c)).find? (cZ (xi 29 c w a b i l)))) (ai (xi 29 c w a b i l) .h0):=by
 rw [Oi]
 unfold xi
 simp only [ai]
 simp (config:={decide:=true}) only [eN,bV,bW,al,Int.reduceBEq,beq_self_eq_true,jS,jR,jQ,jP,Bool.not_true,Bool.not_false,aT,bh,true_and,show bd 29 dD 0 = -1 from rfl,show b5 0 (-1)=false from rfl,aI,il,dR,eA,KK hc,Je hc]
 refine row (x:=(xi 29 c w a b i l)) (by simp only [lv]) (by simp only [qa]) (by decide) (by decide) rfl ?_
 simp only [eJ,ai,eR]
 rfl
theorem Oh (c:Int):bG (30,c)=[(4,(Kd.s .r,(Kd.s .rm,(0,([15,(aU .u8 64 (kx .u8 c 16))],(-1,(2,0)))))))]:=by
 rfl
theorem PF (c w:Int) (a b:DO) (i l:Int) (hc:0≤c∧c < 16):Ends (ai (xi 30 c w a b i l)) (dO ((bG (30,c)).find? (cZ (xi 30 c w a b i l)))) (ai (xi 30 c w a b i l) .h0):=by
 rw [Oh]
 unfold xi
 simp only [ai]
 simp (config:={decide:=true}) only [eN,bV,bW,al,Int.reduceBEq,beq_self_eq_true,jS,jR,jQ,jP,Bool.not_true,Bool.not_false,aT,bh,true_and,show bd 30 dD 0 = -1 from rfl,show b5 0 (-1)=false from rfl,aI,a9,bS,aV,KK hc,Je hc]
 refine row (x:=(xi 30 c w a b i l)) (by simp only [gq]) (by simp only [dC]) (by decide) (by decide) rfl ?_
 simp only [eJ,ai,eR]
 rfl
theorem Og (c:Int):bG (31,c)=[(1,(Kd.s .rm,(Kd.s .no,(0,([15,(aU .u8 144 (kx .u8 c 16))],(0,(1,0)))))))]:=by
 rfl
theorem PE (c w:Int) (a b:DO) (i l:Int) (hc:0≤c∧c < 16):Ends (ai (xi 31 c w a b i l)) (dO ((bG (31,c)).find? (cZ (xi 31 c w a b i l)))) (ai (xi 31 c w a b i l) .h0):=by
 rw [Og]
 unfold xi
 simp only [ai]
 simp (config:={decide:=true}) only [eN,bV,bW,al,Int.reduceBEq,beq_self_eq_true,jS,jR,jQ,jP,Bool.not_true,Bool.not_false,aT,bh,true_and,show bd 31 dD 0 = -1 from rfl,show b5 0 (-1)=false from rfl,fv,tv,aV,dR,KK hc,Je hc]
 refine row (x:=(xi 31 c w a b i l)) (by simp only [dC]) (by simp only [lv]) (by decide) (by decide) rfl ?_
 simp only [eJ,ai,eR]
 rfl
theorem Of (c:Int):bG (32,c)=[(4,(Kd.s .r,(Kd.s .rm,(0,([15,182],(-1,(2,0)))))))]:=by
 rfl
theorem PD (c w:Int) (a b:DO) (i l:Int):Ends (ai (xi 32 c w a b i l)) (dO ((bG (32,c)).find? (cZ (xi 32 c w a b i l)))) (ai (xi 32 c w a b i l) .h0):=by
 rw [Of]
 unfold xi
 simp only [ai]
 simp (config:={decide:=true}) only [eN,bV,bW,al,Int.reduceBEq,beq_self_eq_true,jS,jR,jQ,jP,Bool.not_true,Bool.not_false,aT,bh,true_and,show bd 32 dD 0 = -1 from rfl,show b5 0 (-1)=false from rfl,aI,a9,bS,aV]
 refine row (x:=(xi 32 c w a b i l)) (by simp only [gq]) (by simp only [dC]) (by decide) (by decide) rfl ?_
 simp only [eJ,ai,eR]
 rfl
theorem Oe (c:Int):bG (33,c)=[(4,(Kd.s .r,(Kd.s .rm,(0,([15,190],(-1,(2,0)))))))]:=by
 rfl
theorem PC (c w:Int) (a b:DO) (i l:Int):Ends (ai (xi 33 c w a b i l)) (dO ((bG (33,c)).find? (cZ (xi 33 c w a b i l)))) (ai (xi 33 c w a b i l) .h0):=by
 rw [Oe]
 unfold xi
 simp only [ai]
 simp (config:={decide:=true}) only [eN,bV,bW,al,Int.reduceBEq,beq_self_eq_true,jS,jR,jQ,jP,Bool.not_true,Bool.not_false,aT,bh,true_and,show bd 33 dD 0 = -1 from rfl,show b5 0 (-1)=false from rfl,aI,a9,bS,aV]
 refine row (x:=(xi 33 c w a b i l)) (by simp only [gq]) (by simp only [dC]) (by decide) (by decide) rfl ?_
 simp only [eJ,ai,eR]
 rfl
theorem Od (c:Int):bG (34,c)=[(16,(Kd.s .no,(Kd.s .no,(0,([144],(0,(0,0)))))))]:=by
 rfl
theorem PB (c w:Int) (a b:DO) (i l:Int):Ends (ai (xi 34 c w a b i l)) (dO ((bG (34,c)).find? (cZ (xi 34 c w a b i l)))) (ai (xi 34 c w a b i l) .h0):=by
 rw [Od]
 unfold xi
 simp only [ai]
 simp (config:={decide:=true}) only [eN,bV,bW,al,Int.reduceBEq,beq_self_eq_true,jS,jR,jQ,jP,Bool.not_true,Bool.not_false,aT,bh,true_and,show bd 34 dD 0 = -1 from rfl,show b5 0 (-1)=false from rfl,aI,il,dR]
 refine row (x:=(xi 34 c w a b i l)) (by simp only [lv]) (by simp only [lv]) (by decide) (by decide) rfl ?_
 simp only [eJ,ai,eR]
 rfl
theorem Oc (c:Int):bG (35,c)=[(32,(Kd.s .x,(Kd.s .xm,(243,([15,111],(-1,(2,0))))))),(32,(Kd.s .m,(Kd.s .x,(243,([15,127],(-1,(1,0)))))))]:=by
 rfl
theorem PA (c w:Int) (a b:DO) (i l:Int) (ha:oG a.2.1) (hb:oG b.2.1):Ends (ai (xi 35 c w a b i l)) (dO ((bG (35,c)).find? (cZ (xi 35 c w a b i l)))) (ai (xi 35 c w a b i l) .h0):=by
 rw [Oc]
 unfold xi
 simp only [ai]
 simp (config:={decide:=true}) only [eN,bV,bW,al,Int.reduceBEq,beq_self_eq_true,jS,jR,jQ,jP,Bool.not_true,Bool.not_false,aT,bh,true_and,show bd 35 dD 0 = -1 from rfl,show b5 0 (-1)=false from rfl,fv,jX,iV ha,lG hb]
 refine row (x:=(xi 35 c w a b i l)) (by simp only [DT]) (by simp only [JK]) (by decide) (by decide) rfl ?_
 simp only [eJ,ai]
 simp (config:={decide:=true}) only [eN,List.take_succ_cons,List.take_zero,true_and,fv,jX,eC,iV hb]
 refine row (x:=(xi 35 c w a b i l)) (by simp only [qb]) (by simp only [DT]) (by decide) (by decide) rfl ?_
 simp only [eJ,ai,eR]
 rfl
theorem Ob (c:Int):bG (36,c)=[(32,(Kd.s .x,(Kd.s .xm,(102,([15,239],(-1,(2,0)))))))]:=by
 rfl
theorem Pz (c w:Int) (a b:DO) (i l:Int) (ha:oG a.2.1) (hb:oG b.2.1):Ends (ai (xi 36 c w a b i l)) (dO ((bG (36,c)).find? (cZ (xi 36 c w a b i l)))) (ai (xi 36 c w a b i l) .h0):=by
 rw [Ob]
 unfold xi
 simp only [ai]
 simp (config:={decide:=true}) only [eN,bV,bW,al,Int.reduceBEq,beq_self_eq_true,jS,jR,jQ,jP,Bool.not_true,Bool.not_false,aT,bh,true_and,show bd 36 dD 0 = -1 from rfl,show b5 0 (-1)=false from rfl,fv,jX,iV ha,lG hb]
 refine row (x:=(xi 36 c w a b i l)) (by simp only [DT]) (by simp only [JK]) (by decide) (by decide) rfl ?_
 simp only [eJ,ai,eR]
 rfl
theorem Oa (c:Int):bG (37,c)=[(32,(Kd.s .x,(Kd.s .xm,(102,([15,56,220],(-1,(2,0)))))))]:=by
 rfl
theorem Py (c w:Int) (a b:DO) (i l:Int) (ha:oG a.2.1) (hb:oG b.2.1):Ends (ai (xi 37 c w a b i l)) (dO ((bG (37,c)).find? (cZ (xi 37 c w a b i l)))) (ai (xi 37 c w a b i l) .h0):=by
 rw [Oa]
 unfold xi
 simp only [ai]
 simp (config:={decide:=true}) only [eN,bV,bW,al,Int.reduceBEq,beq_self_eq_true,jS,jR,jQ,jP,Bool.not_true,Bool.not_false,aT,bh,true_and,show bd 37 dD 0 = -1 from rfl,show b5 0 (-1)=false from rfl,fv,jX,iV ha,lG hb]
 refine row (x:=(xi 37 c w a b i l)) (by simp only [DT]) (by simp only [JK]) (by decide) (by decide) rfl ?_
 simp only [eJ,ai,eR]
 rfl
theorem N9 (c:Int):bG (38,c)=[(32,(Kd.s .x,(Kd.s .xm,(102,([15,56,221],(-1,(2,0)))))))]:=by
 rfl
theorem Px (c w:Int) (a b:DO) (i l:Int) (ha:oG a.2.1) (hb:oG b.2.1):Ends (ai (xi 38 c w a b i l)) (dO ((bG (38,c)).find? (cZ (xi 38 c w a b i l)))) (ai (xi 38 c w a b i l) .h0):=by
 rw [N9]
 unfold xi
 simp only [ai]
 simp (config:={decide:=true}) only [eN,bV,bW,al,Int.reduceBEq,beq_self_eq_true,jS,jR,jQ,jP,Bool.not_true,Bool.not_false,aT,bh,true_and,show bd 38 dD 0 = -1 from rfl,show b5 0 (-1)=false from rfl,fv,jX,iV ha,lG hb]
 refine row (x:=(xi 38 c w a b i l)) (by simp only [DT]) (by simp only [JK]) (by decide) (by decide) rfl ?_
 simp only [eJ,ai,eR]
 rfl
theorem N8 (c:Int):bG (39,c)=[(32,(Kd.s .x,(Kd.s .xm,(102,([15,58,68],(-1,(2,1)))))))]:=by
 rfl
theorem Pw (c w:Int) (a b:DO) (i l:Int) (ha:oG a.2.1) (hb:oG b.2.1):Ends (ai (xi 39 c w a b i l)) (dO ((bG (39,c)).find? (cZ (xi 39 c w a b i l)))) (ai (xi 39 c w a b i l) .h0):=by
 rw [N8]
 unfold xi
 simp only [ai]
 simp (config:={decide:=true}) only [eN,bV,bW,al,Int.reduceBEq,beq_self_eq_true,jS,jR,jQ,jP,Bool.not_true,Bool.not_false,aT,bh,true_and,show bd 39 dD 0 = -1 from rfl,show b5 0 (-1)=false from rfl,fv,jX,iV ha,lG hb]
 refine row (x:=(xi 39 c w a b i l)) (by simp only [DT]) (by simp only [JK]) (by decide) (by decide) rfl ?_
 simp only [eJ,ai,eR]
 rfl
end
end Go.bM.RM
end
section
namespace Go.bM.RM
open Go.bM.RL
open Go.bM
noncomputable section
theorem EJ (d c w:Int) (a b:DO) (i l:Int) (h:∀ k:Int,1≤k→k≤39→al d k=false):Ends (ai ((d,(c,(w,(a,(b,(i,l)))))):DI)) (dO ((bG (d,c)).find? (cZ ((d,(c,(w,(a,(b,(i,l)))))):DI)))) (ai ((d,(c,(w,(a,(b,(i,l)))))):DI) .h0):=by
 have h1:al d 1=false:=h 1 (by decide) (by decide)
 have h2:al d 2=false:=h 2 (by decide) (by decide)
 have h3:al d 3=false:=h 3 (by decide) (by decide)
 have h4:al d 4=false:=h 4 (by decide) (by decide)
 have h5:al d 5=false:=h 5 (by decide) (by decide)
 have h6:al d 6=false:=h 6 (by decide) (by decide)
 have h7:al d 7=false:=h 7 (by decide) (by decide)
 have h8:al d 8=false:=h 8 (by decide) (by decide)
 have h9:al d 9=false:=h 9 (by decide) (by decide)
 have BV:al d 10=false:=h 10 (by decide) (by decide)
 have vm:al d 11=false:=h 11 (by decide) (by decide)
 have lC:al d 12=false:=h 12 (by decide) (by decide)
 have kz:al d 13=false:=h 13 (by decide) (by decide)
 have jM:al d 14=false:=h 14 (by decide) (by decide)
 have gF:al d 15=false:=h 15 (by decide) (by decide)
 have gJ:al d 16=false:=h 16 (by decide) (by decide)
 have lB:al d 17=false:=h 17 (by decide) (by decide)
 have BU:al d 18=false:=h 18 (by decide) (by decide)
 have wU:al d 19=false:=h 19 (by decide) (by decide)
 have Af:al d 20=false:=h 20 (by decide) (by decide)
 have BT:al d 21=false:=h 21 (by decide) (by decide)
 have BS:al d 22=false:=h 22 (by decide) (by decide)
 have zu:al d 23=false:=h 23 (by decide) (by decide)
 have BR:al d 24=false:=h 24 (by decide) (by decide)
 have BQ:al d 25=false:=h 25 (by decide) (by decide)
 have BP:al d 26=false:=h 26 (by decide) (by decide)
 have BO:al d 27=false:=h 27 (by decide) (by decide)
 have BN:al d 28=false:=h 28 (by decide) (by decide)
 have BM:al d 29=false:=h 29 (by decide) (by decide)
 have BL:al d 30=false:=h 30 (by decide) (by decide)
 have h31:al d 31=false:=h 31 (by decide) (by decide)
 have h32:al d 32=false:=h 32 (by decide) (by decide)
 have h33:al d 33=false:=h 33 (by decide) (by decide)
 have h34:al d 34=false:=h 34 (by decide) (by decide)
 have h35:al d 35=false:=h 35 (by decide) (by decide)
 have h36:al d 36=false:=h 36 (by decide) (by decide)
 have h37:al d 37=false:=h 37 (by decide) (by decide)
 have h38:al d 38=false:=h 38 (by decide) (by decide)
 have h39:al d 39=false:=h 39 (by decide) (by decide)
 have e75:bG (d,c)=[]:=by
  unfold bG oT
  simp only [dr,cO,df,h1,h2,h3,h4,h5,h6,h7,h8,h9,BV,vm,lC,kz,jM,gF,gJ,lB,BU,wU,Af,BT,BS,zu,BR,BQ,BP,BO,BN,BM,BL,h31,h32,h33,h34,h35,h36,h37,h38,h39,cond_false,jS,jR,jQ,jP,cond_true]
  unfold kD gi
  simp only [dr,cO,df,h1,h2,h3,h4,h5,h6,h7,h8,h9,BV,vm,lC,kz,jM,gF,gJ,lB,BU,wU,Af,BT,BS,zu,BR,BQ,BP,BO,BN,BM,BL,h31,h32,h33,h34,h35,h36,h37,h38,h39,cond_false,jS,jR,jQ,jP,cond_true]
 have ei:bd d dD 0 = -1:=by
  simp only [bd,dD,h1,h2,h3,h4,h5,h6,h7,h8,h9,BV,vm,lC,kz,jM,gF,gJ,lB,BU,wU,Af,BT,BS,zu,BR,BQ,BP,BO,BN,BM,BL,h31,h32,h33,h34,h35,h36,h37,h38,h39,cond_false]
 rw [e75]
 simp only [ai]
 simp (config:={decide:=true}) only [eN,bV,bW,aT,bh,ei,h1,h2,h3,h4,h5,h6,h7,h8,h9,BV,vm,lC,kz,jM,gF,gJ,lB,BU,wU,Af,BT,BS,zu,BR,BQ,BP,BO,BN,BM,BL,h31,h32,h33,h34,h35,h36,h37,h38,h39,jS,jR,jQ,jP,true_and,and_true,show b5 0 (-1)=false from rfl,Bool.not_true,Bool.not_false,eR]
 exact eJ.2 L8
theorem L6 {x:DI} (ha:oG (x.2.2.2.1).2.1) (hb:oG (x.2.2.2.2.1).2.1) (hc:0≤x.2.1∧x.2.1 < 16):Ends (ai x) (dO ((bG (x.1,x.2.1)).find? (cZ x))) (ai x .h0):=by
 obtain ⟨d,c,w,a,b,i,l⟩:=x
 dsimp only at ha hb hc ⊢
 by_cases hd:1≤d∧d≤39
 ·obtain ⟨h1,h2⟩:=hd
  have:d=1∨d=2∨d=3∨d=4∨d=5∨d=6∨d=7∨d=8∨d=9∨d=10∨d=11∨d=12∨d=13∨d=14∨d=15∨d=16∨d=17∨d=18∨d=19∨d=20∨d=21∨d=22∨d=23∨d=24∨d=25∨d=26∨d=27∨d=28∨d=29∨d=30∨d=31∨d=32∨d=33∨d=34∨d=35∨d=36∨d=37∨d=38∨d=39:=by omega
  rcases this with rfl | rfl | rfl | rfl | rfl | rfl | rfl | rfl | rfl | rfl | rfl | rfl | rfl | rfl | rfl | rfl | rfl | rfl | rfl | rfl | rfl | rfl | rfl | rfl | rfl | rfl | rfl | rfl | rfl | rfl | rfl | rfl | rfl | rfl | rfl | rfl | rfl | rfl | rfl
  ·exact TE c w a b i l
  ·exact TD c w a b i l
  ·exact TB c w a b i l
  ·exact TA c w a b i l
  ·exact Tz c w a b i l
  ·exact Ty c w a b i l
  ·exact Tx c w a b i l
  ·exact Tw c w a b i l
  ·exact Tv c w a b i l
  ·exact P0 c w a b i l
  ·exact PZ c w a b i l
  ·exact PY c w a b i l
  ·exact PX c w a b i l
  ·exact PW c w a b i l
  ·exact PV c w a b i l
  ·exact PU c w a b i l
  ·exact PT c w a b i l
  ·exact PS c w a b i l
  ·exact PR c w a b i l
  ·exact PQ c w a b i l
  ·exact PO c w a b i l
  ·exact PN c w a b i l
  ·exact PM c w a b i l
  ·exact PL c w a b i l
  ·exact PK c w a b i l
  ·exact PJ c w a b i l
  ·exact PI c w a b i l
  ·exact PH c w a b i l
  ·exact PG c w a b i l hc
  ·exact PF c w a b i l hc
  ·exact PE c w a b i l hc
  ·exact PD c w a b i l
  ·exact PC c w a b i l
  ·exact PB c w a b i l
  ·exact PA c w a b i l ha hb
  ·exact Pz c w a b i l ha hb
  ·exact Py c w a b i l ha hb
  ·exact Px c w a b i l ha hb
  ·exact Pw c w a b i l ha hb
 ·exact EJ d c w a b i l fun k k1 k2=>by rw [dZ];omega
theorem Ca {x:DI} (ha:oG (x.2.2.2.1).2.1) (hb:oG (x.2.2.2.2.1).2.1) (hc:wQ x.2.1):Ends (ai x) (dO (lI x)) (oX x):=by
 have hno:Ends (ai x) (dO none) (.ret (.inr ((([]:List Int),(0,())),(((),((),(([]:List Int),(0,(0,0))))),false)))):=eR.2 rfl
 have hyes:cK 15 x.2.1=false→Ends (ai x) (dO ((bG (x.1,x.2.1)).find? (cZ x))) (ai x .h0):=fun h=>by
  rw [fc] at h
  exact L6 ha hb ⟨hc.1,by omega⟩
 have e1:b5 x.2.1 15=!(cK 15 x.2.1):=by
  cases h:cK 15 x.2.1 with
  | true=>rw [cR] at h;rw [Bool.not_true,ql];omega
  | false=>rw [fc] at h;rw [Bool.not_false,cS];omega
 have ne:∀ a b:Int,al a b=!(dY a b):=fun a b=>by
  cases h:dY a b with
  | true=>rw [iI] at h;rw [Bool.not_true,dZ];exact h
  | false=>rw [ky] at h;rw [Bool.not_false,aH];exact h
 unfold lI JU
 rw [e1,ne x.2.1 0,ne x.1 39,ne x.2.2.2.2.2.1 0]
 unfold oX
 dsimp only
 generalize hF:(bG (x.1,x.2.1)).find? (cZ x)=F at hyes ⊢
 generalize al x.1 29=a
 generalize al x.1 30=b
 generalize al x.1 31=c
 generalize cK 15 x.2.1=d at hyes ⊢
 generalize dY x.2.1 0=e
 generalize dY x.1 39=f
 generalize dY x.2.2.2.2.2.1 0=g
 cases a<;>cases b<;>cases c<;>cases d<;>cases e<;>cases f<;>cases g<;>
  (simp only [eI,eN,eJ,eR,Bool.not_true,Bool.not_false,Bool.and_true,Bool.and_false,Bool.true_and,Bool.false_and,Bool.or_true,Bool.or_false,Bool.true_or,Bool.false_or,cond_true,cond_false,true_and,and_true,
   implies_true,forall_const,Bool.false_eq_true,Bool.true_eq_false,false_implies,true_implies,beq_false,beq_true,reduceCtorEq,beq_self_eq_true];first | exact hyes rfl | rfl | trivial)
theorem Jv {x:DI} (ha:oG (x.2.2.2.1).2.1) (hb:oG (x.2.2.2.2.1).2.1) (hc:wQ x.2.1):Jw x:=⟨_,Ca ha hb hc⟩
theorem LU {x:DI} (ha:oG (x.2.2.2.1).2.1) (hb:oG (x.2.2.2.2.1).2.1) (hc:wQ x.2.1):LV x=dO (lI x):=ec (Ca ha hb hc)
end
end Go.bM.RM
end
section
namespace Go.bM.RL
open Go.bM Go.RowKit
structure res {α:Type} (t:Tr α) (Q:α→Prop):Prop where
 ok:t.ok
 val:Q t.val
theorem rR {α:Type} {t:Tr α} {Q:α→Prop}:res t Q↔t.ok∧Q t.val:=⟨fun h=>⟨h.1,h.2⟩,fun h=>⟨h.1,h.2⟩⟩
theorem dJ {α:Type} {p:Prop} {t:Tr α} {Q:α→Prop}:res (.aa p t) Q↔p∧res t Q:=by
 rw [rR,rR,fE,cO,and_assoc]
theorem bw {α:Type} {b:Bool} {t e:Tr α} {Q:α→Prop}:res (.ite b t e) Q↔(b=true→res t Q)∧(b=false→res e Q):=by
 simp only [rR]
 cases b<;>simp [Tr.ok,Tr.val]
theorem eM {α:Type} {a:α} {Q:α→Prop}:res (.ret a) Q↔Q a:=by
 rw [rR,fI,df,true_and]
theorem res.and {α:Type} {t:Tr α} {Q:α→Prop} (h:res t Q):t.ok∧Q t.val:=⟨h.1,h.2⟩
abbrev St:Type:=DI×dU
abbrev L:Type:=List bq
def Qi:DO:=(0,(0,(0,(0,(0,(0,(false,0)))))))
def ED:DI:=(0,(0,(0,(Qi,(Qi,(0,0))))))
def wd (n:Int):aD:=(true,(0,n))
def cl (c:Int):aD:=(false,(c,0))
def dd (op w d:Int) (a b c:aD):bq:=(op,(w,(d,(a,(b,(c,ED))))))
theorem L4 (n:Int):aN n=wd n:=rfl
theorem LY (n:Int):ff n=cl n:=rfl
theorem ae (n:Int):bm n:=trivial
theorem af (n:Int):dL n:=trivial
def gv (rd:Int→Prop) (n:Int) (v:aD):Prop:=
 (v.1=true∧v.2.1=0)∨(v.1=false∧v.2.2=0∧((0≤v.2.1∧v.2.1≤20∧rd v.2.1)∨(32≤v.2.1∧v.2.1 < n)))
theorem LH {rd:Int→Prop} {n m:Int} {v:aD} (h:gv rd n v) (hn:n≤m):gv rd m v:=by
 rcases h with h | ⟨h1,h2,h | h⟩
 ·exact .inl h
 ·exact .inr ⟨h1,h2,.inl h⟩
 ·exact .inr ⟨h1,h2,.inr ⟨h.1,by omega⟩⟩
theorem aK {rd:Int→Prop} {n:Int} (k:Int):gv rd n (wd k):=.inl ⟨rfl,rfl⟩
theorem Nc {rd:Int→Prop} {n c:Int} (h:(0≤c∧c≤20∧rd c)∨(32≤c∧c < n)):gv rd n (cl c):=.inr ⟨rfl,rfl,h⟩
def fP (op:Int):Prop:=1≤op∧op < 28
inductive Ad (rd:Int→Prop):Int→L→Int→List Int→Prop where
 | nil (n:Int):Ad rd n [] n []
 | cell {n:Int} {op w d:Int} {a b c:aD} {l:L} {n':Int} {W:List Int} (ho:fP op) (hw:1≤w∧w≤8) (hd:0≤d∧d≤20) (ha:gv rd n a) (hb:gv rd n b) (hc:gv rd n c)
   (t:Ad rd n l n' W):Ad rd n (dd op w d a b c :: l) n' (d :: W)
 | none {n:Int} {op w:Int} {a b c:aD} {l:L} {n':Int} {W:List Int} (ho:op=28∨op=29) (hw:1≤w∧w≤8) (ha:gv rd n a) (hb:gv rd n b) (hc:gv rd n c)
   (t:Ad rd n l n' W):Ad rd n (dd op w 0 a b c :: l) n' W
 | CA {n:Int} {op w:Int} {a b c:aD} {l:L} {n':Int} {W:List Int} (ho:fP op) (hw:1≤w∧w≤8) (hn:32≤n∧n < 64) (ha:gv rd n a) (hb:gv rd n b) (hc:gv rd n c)
   (t:Ad rd (n+1) l n' W):Ad rd n (dd op w n a b c :: l) n' W
 | vec {n:Int} {a:aD} {v:DI} {l:L} {n':Int} {W:List Int} (ha:gv rd n a) (hv:35≤v.1∧v.1≤39∧pre6 v∧Ig v=true)
   (t:Ad rd n l n' W):Ad rd n ((31,(16,(0,(a,(wd 0,(wd 0,v)))))) :: l) n' W
theorem Ad.app {rd:Int→Prop} {n m k:Int} {l r:L} {W V:List Int} (h:Ad rd n l m W) (g:Ad rd m r k V):Ad rd n (l++r) k (W++V):=by
 induction h with
 | nil=>exact g
 | cell ho hw hd ha hb hc _ ih=>exact .cell ho hw hd ha hb hc (ih g)
 | none ho hw ha hb hc _ ih=>exact .none ho hw ha hb hc (ih g)
 | CA ho hw hn ha hb hc _ ih=>exact .CA ho hw hn ha hb hc (ih g)
 | vec ha hv _ ih=>exact .vec ha hv (ih g)
theorem Ad.le {rd:Int→Prop} {n m:Int} {l:L} {W:List Int} (h:Ad rd n l m W):n≤m∧m≤n+l.length:=by
 induction h with
 | nil=>simp
 | cell _ _ _ _ _ _ _ ih=>simp only [List.length_cons];omega
 | none _ _ _ _ _ _ ih=>simp only [List.length_cons];omega
 | CA _ _ _ _ _ _ _ ih=>simp only [List.length_cons];omega
 | vec _ _ _ ih=>simp only [List.length_cons];omega
structure G (rd:Int→Prop) (l:L) (n:Int) (W:List Int) (k:Nat):Prop where
 Mi:Ad rd 32 l n W
 len:l.length≤k
theorem G.Tn {rd:Int→Prop} {l:L} {n:Int} {W:List Int} {k:Nat} (h:G rd l n W k):32≤n∧n≤32+k:=by
 have:=h.Mi.le
 have:=h.len
 omega
theorem OR {rd:Int→Prop} {n m:Int} {l:L} {W:List Int} (h:Ad rd n l m W) (hn:32≤n):l.foldl (fun k (d:bq)=>imax k (aU .i64 d.2.2.1 1)) n=m:=by
 have one:∀ {n d:Int},32≤n→0≤d→d≤64→imax n (aU .i64 d 1)=if d+1 > n then d+1 else n:=fun h0 h1 h2=>by
  rw [fw (by omega) (by omega)];rfl
 induction h with
 | nil=>rfl
 | cell _ _ hd _ _ _ _ ih=>
  simp only [List.foldl_cons,dd]
  rw [one hn hd.1 (by omega),if_neg (by omega)];exact ih hn
 | none _ _ _ _ _ _ ih=>
  simp only [List.foldl_cons,dd]
  rw [one hn (by omega) (by omega),if_neg (by omega)];exact ih hn
 | CA _ _ hn' _ _ _ _ ih=>
  simp only [List.foldl_cons,dd]
  rw [one hn (by omega) (by omega),if_pos (by omega)];exact ih (by omega)
 | vec _ _ _ ih=>
  simp only [List.foldl_cons]
  rw [one hn (by omega) (by omega),if_neg (by omega)];exact ih hn
def wa (l:List aD) (i:Nat):aD:=l.getD i (wd 0)
theorem zD (i:Nat) (l:List aD) (hi:i < 3):AQ ((i:Int),l)∧B2 ((i:Int),l)=wa l i:=by
 have key:res (oU ((i:Int),l)) (fun r=>r=wa l i):=by
  simp only [oU,bw,dJ,eM,cR,fc,wa,L4]
  refine ⟨fun h=>⟨by omega,h,?_⟩,fun h=>⟨ae _,?_⟩⟩
  ·have h':i < l.length:=by omega
   rw [Int.toNat_natCast,fQ (c:=aq) h']
   simp [List.getD,h']
  ·have h':l.length≤i:=by omega
   simp [List.getD,List.getElem?_eq_none h']
 exact key.and
theorem Lu (S:St) (l:L) (op w c:Int) (vs:List aD) (hl:l.length≤1000):
  bI (S,(l,(op,(w,(c,vs)))))∧cD (S,(l,(op,(w,(c,vs)))))=(l++[dd op w c (wa vs 0) (wa vs 1) (wa vs 2)],()):=by
 have h0:=zD 0 vs (by omega)
 have h1:=zD 1 vs (by omega)
 have h2:=zD 2 vs (by omega)
 have key:res (o4 (S,(l,(op,(w,(c,vs)))))) (fun r=>r=(l++[dd op w c (wa vs 0) (wa vs 1) (wa vs 2)],())):=by
  simp only [o4,dJ,eM]
  refine ⟨h0.1,h1.1,h2.1,by omega,by omega,trivial,by omega,by omega,by simp,trivial,?_⟩
  have e0:B2 (0,vs)=wa vs 0:=h0.2
  have e1:B2 (1,vs)=wa vs 1:=h1.2
  have e2:B2 (2,vs)=wa vs 2:=h2.2
  rw [e0,e1,e2]
  rfl
 exact key.and
theorem wL (x:St×(L×(Int×(Int×List aD)))) (hl:x.2.1.length≤1000):∀ (k i:Nat) (m:Int),k+i=x.2.1.length→
  ∀ r,Ends (iw x) r (iw x (.h0 ((x.2.1.drop i).foldl (fun k (d:bq)=>imax k (aU .i64 d.2.2.1 1)) m) (x.2.1.length:Int) (x.2.1.length:Int)))→Ends (iw x) r (iw x (.h0 m (x.2.1.length:Int) (i:Int)))
 | 0,i,m,hk,r,h=>by
  have hi:i=x.2.1.length:=by omega
  subst hi
  rw [List.drop_length] at h
  exact h
 | k+1,i,m,hk,r,h=>by
  have hi:i < x.2.1.length:=by omega
  simp only [iw]
  rw [eI]
  refine ⟨fun _=>?_,fun hn=>?_⟩
  ·simp only [eN,eJ]
   refine ⟨by omega,by omega,by omega,by simpa using hi,?_⟩
   rw [Int.toNat_natCast,fQ (c:=aR) hi]
   have e:aU .i64 (i:Int) 1=((i+1:Nat):Int):=by rw [fw (by omega) (by omega)];omega
   rw [e]
   refine wL x hl k (i+1) _ (by omega) r ?_
   rw [List.drop_eq_getElem_cons hi,List.foldl_cons] at h
   exact h
  ·rw [fc] at hn;omega
theorem Vb {rd:Int→Prop} (S:St) {l:L} (op w:Int) (vs:List aD) {n:Int} {W:List Int} {k:Nat} (h:G rd l n W k) (hk:k≤1000):
  bK (S,(l,(op,(w,vs))))∧ba (S,(l,(op,(w,vs))))=(l++[dd op w n (wa vs 0) (wa vs 1) (wa vs 2)],cl n):=by
 have hl:l.length≤1000:=Nat.le_trans h.len hk
 have lB:=Lu S l op w n vs hl
 have key:Ends (iw (S,(l,(op,(w,vs))))) (l++[dd op w n (wa vs 0) (wa vs 1) (wa vs 2)],cl n) (oW (S,(l,(op,(w,vs))))):=by
  simp only [oW,eJ]
  refine wL (S,(l,(op,(w,vs)))) hl l.length 0 32 (by simp) _ ?_
  have e:(List.drop 0 l).foldl (fun k (d:bq)=>imax k (aU .i64 d.2.2.1 1)) 32=n:=by rw [List.drop_zero];exact OR h.Mi (by omega)
  rw [e]
  simp only [iw]
  rw [eI]
  refine ⟨fun hn=>(by rw [cR] at hn;omega),fun _=>?_⟩
  simp only [eN,eR]
  refine ⟨trivial,lB.1,trivial,trivial,trivial,?_⟩
  rw [show cD _=_ from lB.2,LY]
 exact ⟨⟨_,key⟩,ec key⟩
end Go.bM.RL
end
section
namespace Go.bM.RL
open Go.bM Go.RowKit
variable {rd:Int→Prop} {l:L} {n:Int} {W:List Int} {k:Nat}
theorem vP {a:aD} (ha:gv rd n a):∀ v∈[a],gv rd n v:=by
 intro v hv;simp only [List.mem_cons,List.not_mem_nil,or_false] at hv;subst hv;exact ha
theorem jN {a b:aD} (ha:gv rd n a) (hb:gv rd n b):∀ v∈[a,b],gv rd n v:=by
 intro v hv;simp only [List.mem_cons,List.not_mem_nil,or_false] at hv;rcases hv with rfl | rfl<;>assumption
theorem Nd {a b c:aD} (ha:gv rd n a) (hb:gv rd n b) (hc:gv rd n c):∀ v∈[a,b,c],gv rd n v:=by
 intro v hv;simp only [List.mem_cons,List.not_mem_nil,or_false] at hv;rcases hv with rfl | rfl | rfl<;>assumption
theorem kB {vs:List aD} (h:∀ v∈vs,gv rd n v) (i:Nat):gv rd n (wa vs i):=by
 unfold wa
 rcases Nat.lt_or_ge i vs.length with hi | hi
 ·simp only [List.getD,List.getElem?_eq_getElem hi,Option.getD_some];exact h _ (List.getElem_mem hi)
 ·simp only [List.getD,List.getElem?_eq_none hi,Option.getD_none];exact aK _
theorem mk (S:St) (h:G rd l n W k) (hl:k≤31) {op w:Int} {vs:List aD} (ho:fP op) (hw:1≤w∧w≤8) (hv:∀ v∈vs,gv rd n v):
  bK (S,(l,(op,(w,vs))))∧G rd (ba (S,(l,(op,(w,vs))))).1 (n+1) W (k+1)∧gv rd (n+1) (ba (S,(l,(op,(w,vs))))).2:=by
 obtain ⟨h1,h2⟩:=Vb S op w vs h (by omega)
 have hn:=h.Tn
 have hk:=h.len
 rw [h2]
 refine ⟨h1,⟨?_,by simp;omega⟩,Nc (.inr ⟨hn.1,by omega⟩)⟩
 have:=h.Mi.app (.CA ho hw (by omega) (kB hv 0) (kB hv 1) (kB hv 2) (.nil _))
 rwa [List.append_nil] at this
theorem Vk (S:St) (h:G rd l n W k) (hl:k≤1000) {op w c:Int} {vs:List aD} (ho:fP op) (hw:1≤w∧w≤8) (hc:0≤c∧c≤20) (hv:∀ v∈vs,gv rd n v):
  bI (S,(l,(op,(w,(c,vs)))))∧G rd (cD (S,(l,(op,(w,(c,vs)))))).1 n (W++[c]) (k+1):=by
 have hk:=h.len
 obtain ⟨h1,h2⟩:=Lu S l op w c vs (by omega)
 rw [h2]
 exact ⟨h1,⟨h.Mi.app (.cell ho hw hc (kB hv 0) (kB hv 1) (kB hv 2) (.nil _)),by simp;omega⟩⟩
theorem Vj (S:St) (h:G rd l n W k) (hl:k≤1000) {op w:Int} {vs:List aD} (ho:op=28∨op=29) (hw:1≤w∧w≤8) (hv:∀ v∈vs,gv rd n v):
  bI (S,(l,(op,(w,(0,vs)))))∧G rd (cD (S,(l,(op,(w,(0,vs)))))).1 n W (k+1):=by
 have hk:=h.len
 obtain ⟨h1,h2⟩:=Lu S l op w 0 vs (by omega)
 rw [h2]
 have:=h.Mi.app (.none ho hw (kB hv 0) (kB hv 1) (kB hv 2) (.nil _))
 rw [List.append_nil] at this
 exact ⟨h1,⟨this,by simp;omega⟩⟩
theorem Gu (w:Int):C5 w:=trivial
theorem Km (w:Int):1≤wW w∧wW w≤8:=by
 show 1≤HO (imax w 1) 8∧HO (imax w 1) 8≤8
 unfold HO imax
 split<;>split<;>omega
theorem AN (w:Int):Fe w:=by
 have h:=Km w
 have key:res (oO w) (fun _=>True):=by
  simp only [oO,dJ,eM]
  exact ⟨Gu w,by omega,by omega,by omega,trivial⟩
 exact key.1
theorem ab (v w:Int):C6 (v,w):=by
 have key:res (l6 (v,w)) (fun _=>True):=by
  simp only [l6,dJ,eM]
  exact ⟨AN w,trivial⟩
 exact key.1
theorem Ju {s:Int} (h:s=2∨s=4∨s=8):uX (aO .u64 s):=by
 have one:∀ s:Int,(s=2∨s=4∨s=8)→res (oP (aO .u64 s)) (fun _=>True):=by
  rintro s (rfl | rfl | rfl)<;>
  ·simp only [oP,bw,dJ,eM]
   refine ⟨fun _=>trivial,fun _=>⟨by decide,?_,?_,?_,trivial⟩⟩<;>decide +kernel
 have key:∀ s:Int,(s=2∨s=4∨s=8)→Jo (aO .u64 s):=fun s hs=>(one s hs).1
 have:res (oV (aO .u64 s)) (fun _=>True):=by
  simp only [oV,dJ,eM]
  exact ⟨key s h,trivial⟩
 exact this.1
structure T5 (rd:Int→Prop) (o:DO):Prop where
 base:o.1=2→0≤o.2.2.1→o.2.2.1≤15∧rd o.2.2.1
 idx:o.1=2→0≤o.2.2.2.1→o.2.2.2.1≤15∧rd o.2.2.2.1
 sc:o.1=2→0≤o.2.2.2.1→o.2.2.2.2.1=1∨o.2.2.2.2.1=2∨o.2.2.2.2.1=4∨o.2.2.2.2.1=8
theorem gw {c:Int} (h:0≤c) (h2:c≤20∧rd c):gv rd n (cl c):=Nc (.inl ⟨h,h2.1,h2.2⟩)
theorem bk {n':Int} {v:aD} (hn:n≤n') (h:gv rd n v):gv rd n' v:=LH h hn
theorem zw {n:Int} (k j:Int):gv rd n ((wd k).1,((wd k).2.1,j)):=.inl ⟨rfl,rfl⟩
def D1 (rd:Int→Prop) (n:Int) (W:List Int) (k:Nat) (r:L×aD):Prop:=∃ n',n≤n'∧G rd r.1 n' W k∧gv rd n' r.2
def D0 (rd:Int→Prop) (n:Int) (W:List Int) (k:Nat) (r:L×Unit):Prop:=∃ n',n≤n'∧G rd r.1 n' W k
theorem G.wk {k':Nat} (h:G rd l n W k) (hk:k≤k'):G rd l n W k':=⟨h.Mi,Nat.le_trans h.len hk⟩
theorem D1.of {n':Int} {r:L×aD} {k':Nat} (hn:n≤n') (h:G rd r.1 n' W k) (hv:gv rd n' r.2) (hk:k≤k'):D1 rd n W k' r:=⟨n',hn,h.wk hk,hv⟩
theorem D0.of {n':Int} {r:L×Unit} {k':Nat} (hn:n≤n') (h:G rd r.1 n' W k) (hk:k≤k'):D0 rd n W k' r:=⟨n',hn,h.wk hk⟩
section
variable {α:Type} {t:Tr α} {Q:α→Prop}
theorem dw {S:St} (h:G rd l n W k) {op w:Int} {vs:List aD} (hl:k≤31) (ho:fP op) (hw:1≤w∧w≤8) (hv:∀ v∈vs,gv rd n v)
  (g:G rd (ba (S,(l,(op,(w,vs))))).1 (n+1) W (k+1)→gv rd (n+1) (ba (S,(l,(op,(w,vs))))).2→res t Q):res (.aa (bK (S,(l,(op,(w,vs))))) t) Q:=
 have p:=mk S h hl ho hw hv
 dJ.2 ⟨p.1,g p.2.1 p.2.2⟩
theorem HJ {S:St} (h:G rd l n W k) {op w c:Int} {vs:List aD} (hl:k≤1000) (ho:fP op) (hw:1≤w∧w≤8) (hc:0≤c∧c≤20) (hv:∀ v∈vs,gv rd n v)
  (g:G rd (cD (S,(l,(op,(w,(c,vs)))))).1 n (W++[c]) (k+1)→res t Q):res (.aa (bI (S,(l,(op,(w,(c,vs)))))) t) Q:=
 have p:=Vk S h hl ho hw hc hv
 dJ.2 ⟨p.1,g p.2⟩
theorem UQ {S:St} (h:G rd l n W k) {op w:Int} {vs:List aD} (hl:k≤1000) (ho:op=28∨op=29) (hw:1≤w∧w≤8) (hv:∀ v∈vs,gv rd n v)
  (g:G rd (cD (S,(l,(op,(w,(0,vs)))))).1 n W (k+1)→res t Q):res (.aa (bI (S,(l,(op,(w,(0,vs)))))) t) Q:=
 have p:=Vj S h hl ho hw hv
 dJ.2 ⟨p.1,g p.2⟩
theorem gG {b:Bool} {e:Tr α} (h1:b=true→res t Q) (h2:b=false→res e Q):res (.ite b t e) Q:=bw.2 ⟨h1,h2⟩
theorem aB {p:Prop} (h1:p) (h2:res t Q):res (.aa p t) Q:=dJ.2 ⟨h1,h2⟩
theorem cJ {a:α} (h:Q a):res (.ret a) Q:=eM.2 h
end
theorem w8:1≤(8:Int)∧(8:Int)≤8:=⟨by decide,by decide⟩
theorem w1:1≤(1:Int)∧(1:Int)≤8:=⟨by decide,by decide⟩
theorem Vc (S:St) (h:G rd l n W k) (hl:k≤28) {o:DO} (ho:T5 rd o):res (o5 (S,(l,o))) (D1 rd n W (k+3)):=by
 repeat refine aB (by first | exact ae _ | exact af _ | exact ab _ _ | rfl | (with_reducible decide)) ?_
 refine gG (fun _=>?_) fun hk=>?_
 ·repeat refine aB (by first | exact ae _ | exact af _ | exact ab _ _ | rfl | (with_reducible decide)) ?_
  exact cJ (.of (by omega) h (aK _) (by omega))
 replace hk:=ky.1 hk
 repeat refine aB (by first | exact ae _ | exact af _ | exact ab _ _ | rfl | (with_reducible decide)) ?_
 have hb:∀ {b:Int},b=o.2.2.1→b5 0 b=true→gv rd n (cl b):=fun e hb=>by
  subst e;have:=cS.1 hb;exact gw this ⟨by have:=ho.base hk this;omega,(ho.base hk this).2⟩
 have hi:∀ {b:Int} {n':Int},b=o.2.2.2.1→b5 0 b=true→gv rd n' (cl b):=fun e hb=>by
  subst e;have:=cS.1 hb;exact gw this ⟨by have:=ho.idx hk this;omega,(ho.idx hk this).2⟩
 have hs:∀ {b s:Int},b=o.2.2.2.1→s=o.2.2.2.2.1→b5 0 b=true→cK 1 s=true→uX (aO .u64 s):=fun e e' hb hs=>by
  subst e;subst e';have:=cS.1 hb;have h1:=cR.1 hs;exact Ju ((ho.sc hk this).resolve_left (by omega))
 repeat refine aB (by first | exact ae _ | exact af _ | exact ab _ _ | rfl | (with_reducible decide)) ?_
 refine gG (fun _=>?_) fun _=>?_
 ·repeat refine aB (by first | exact ae _ | exact af _ | exact ab _ _ | rfl | (with_reducible decide)) ?_
  refine gG (fun h1=>?_) fun _=>?_
  ·repeat refine aB (by first | exact ae _ | exact af _ | exact ab _ _ | rfl | (with_reducible decide)) ?_
   refine dw h (by omega) ⟨by decide,by decide⟩ w8 (jN (zw _ _) (hb rfl h1)) fun g1 v1=>?_
   repeat refine aB (by first | exact ae _ | exact af _ | exact ab _ _ | rfl | (with_reducible decide)) ?_
   refine gG (fun h2=>?_) fun _=>?_
   ·repeat refine aB (by first | exact ae _ | exact af _ | exact ab _ _ | rfl | (with_reducible decide)) ?_
    refine gG (fun h3=>?_) fun _=>?_
    ·repeat refine aB (by first | exact ae _ | exact af _ | exact ab _ _ | rfl | (with_reducible decide)) ?_
     refine aB (hs rfl rfl h2 h3) ?_
     repeat refine aB (by first | exact ae _ | exact af _ | exact ab _ _ | rfl | (with_reducible decide)) ?_
     refine dw g1 (by omega) ⟨by decide,by decide⟩ w8 (jN (hi rfl h2) (aK _)) fun g2 v2=>?_
     repeat refine aB (by first | exact ae _ | exact af _ | exact ab _ _ | rfl | (with_reducible decide)) ?_
     refine dw g2 (by omega) ⟨by decide,by decide⟩ w8 (jN (bk (by omega) v1) v2) fun g3 v3=>?_
     repeat refine aB (by first | exact ae _ | exact af _ | exact ab _ _ | rfl | (with_reducible decide)) ?_
     exact cJ (.of (by omega) g3 v3 (by omega))
    ·repeat refine aB (by first | exact ae _ | exact af _ | exact ab _ _ | rfl | (with_reducible decide)) ?_
     refine dw g1 (by omega) ⟨by decide,by decide⟩ w8 (jN v1 (hi rfl h2)) fun g2 v2=>?_
     repeat refine aB (by first | exact ae _ | exact af _ | exact ab _ _ | rfl | (with_reducible decide)) ?_
     exact cJ (.of (by omega) g2 v2 (by omega))
   ·repeat refine aB (by first | exact ae _ | exact af _ | exact ab _ _ | rfl | (with_reducible decide)) ?_
    exact cJ (.of (by omega) g1 v1 (by omega))
  ·repeat refine aB (by first | exact ae _ | exact af _ | exact ab _ _ | rfl | (with_reducible decide)) ?_
   refine gG (fun h2=>?_) fun _=>?_
   ·repeat refine aB (by first | exact ae _ | exact af _ | exact ab _ _ | rfl | (with_reducible decide)) ?_
    refine gG (fun h3=>?_) fun _=>?_
    ·repeat refine aB (by first | exact ae _ | exact af _ | exact ab _ _ | rfl | (with_reducible decide)) ?_
     refine aB (hs rfl rfl h2 h3) ?_
     repeat refine aB (by first | exact ae _ | exact af _ | exact ab _ _ | rfl | (with_reducible decide)) ?_
     refine dw h (by omega) ⟨by decide,by decide⟩ w8 (jN (hi rfl h2) (aK _)) fun g2 v2=>?_
     repeat refine aB (by first | exact ae _ | exact af _ | exact ab _ _ | rfl | (with_reducible decide)) ?_
     refine dw g2 (by omega) ⟨by decide,by decide⟩ w8 (jN (zw _ _) v2) fun g3 v3=>?_
     repeat refine aB (by first | exact ae _ | exact af _ | exact ab _ _ | rfl | (with_reducible decide)) ?_
     exact cJ (.of (by omega) g3 v3 (by omega))
    ·repeat refine aB (by first | exact ae _ | exact af _ | exact ab _ _ | rfl | (with_reducible decide)) ?_
     refine dw h (by omega) ⟨by decide,by decide⟩ w8 (jN (zw _ _) (hi rfl h2)) fun g2 v2=>?_
     repeat refine aB (by first | exact ae _ | exact af _ | exact ab _ _ | rfl | (with_reducible decide)) ?_
     exact cJ (.of (by omega) g2 v2 (by omega))
   ·repeat refine aB (by first | exact ae _ | exact af _ | exact ab _ _ | rfl | (with_reducible decide)) ?_
    exact cJ (.of (by omega) h (zw _ _) (by omega))
 ·repeat refine aB (by first | exact ae _ | exact af _ | exact ab _ _ | rfl | (with_reducible decide)) ?_
  refine gG (fun h1=>?_) fun _=>?_
  ·repeat refine aB (by first | exact ae _ | exact af _ | exact ab _ _ | rfl | (with_reducible decide)) ?_
   refine dw h (by omega) ⟨by decide,by decide⟩ w8 (jN (aK _) (hb rfl h1)) fun g1 v1=>?_
   repeat refine aB (by first | exact ae _ | exact af _ | exact ab _ _ | rfl | (with_reducible decide)) ?_
   refine gG (fun h2=>?_) fun _=>?_
   ·repeat refine aB (by first | exact ae _ | exact af _ | exact ab _ _ | rfl | (with_reducible decide)) ?_
    refine gG (fun h3=>?_) fun _=>?_
    ·repeat refine aB (by first | exact ae _ | exact af _ | exact ab _ _ | rfl | (with_reducible decide)) ?_
     refine aB (hs rfl rfl h2 h3) ?_
     repeat refine aB (by first | exact ae _ | exact af _ | exact ab _ _ | rfl | (with_reducible decide)) ?_
     refine dw g1 (by omega) ⟨by decide,by decide⟩ w8 (jN (hi rfl h2) (aK _)) fun g2 v2=>?_
     repeat refine aB (by first | exact ae _ | exact af _ | exact ab _ _ | rfl | (with_reducible decide)) ?_
     refine dw g2 (by omega) ⟨by decide,by decide⟩ w8 (jN (bk (by omega) v1) v2) fun g3 v3=>?_
     repeat refine aB (by first | exact ae _ | exact af _ | exact ab _ _ | rfl | (with_reducible decide)) ?_
     exact cJ (.of (by omega) g3 v3 (by omega))
    ·repeat refine aB (by first | exact ae _ | exact af _ | exact ab _ _ | rfl | (with_reducible decide)) ?_
     refine dw g1 (by omega) ⟨by decide,by decide⟩ w8 (jN v1 (hi rfl h2)) fun g2 v2=>?_
     repeat refine aB (by first | exact ae _ | exact af _ | exact ab _ _ | rfl | (with_reducible decide)) ?_
     exact cJ (.of (by omega) g2 v2 (by omega))
   ·repeat refine aB (by first | exact ae _ | exact af _ | exact ab _ _ | rfl | (with_reducible decide)) ?_
    exact cJ (.of (by omega) g1 v1 (by omega))
  ·repeat refine aB (by first | exact ae _ | exact af _ | exact ab _ _ | rfl | (with_reducible decide)) ?_
   refine gG (fun h2=>?_) fun _=>?_
   ·repeat refine aB (by first | exact ae _ | exact af _ | exact ab _ _ | rfl | (with_reducible decide)) ?_
    refine gG (fun h3=>?_) fun _=>?_
    ·repeat refine aB (by first | exact ae _ | exact af _ | exact ab _ _ | rfl | (with_reducible decide)) ?_
     refine aB (hs rfl rfl h2 h3) ?_
     repeat refine aB (by first | exact ae _ | exact af _ | exact ab _ _ | rfl | (with_reducible decide)) ?_
     refine dw h (by omega) ⟨by decide,by decide⟩ w8 (jN (hi rfl h2) (aK _)) fun g2 v2=>?_
     repeat refine aB (by first | exact ae _ | exact af _ | exact ab _ _ | rfl | (with_reducible decide)) ?_
     refine dw g2 (by omega) ⟨by decide,by decide⟩ w8 (jN (aK _) v2) fun g3 v3=>?_
     repeat refine aB (by first | exact ae _ | exact af _ | exact ab _ _ | rfl | (with_reducible decide)) ?_
     exact cJ (.of (by omega) g3 v3 (by omega))
    ·repeat refine aB (by first | exact ae _ | exact af _ | exact ab _ _ | rfl | (with_reducible decide)) ?_
     refine dw h (by omega) ⟨by decide,by decide⟩ w8 (jN (aK _) (hi rfl h2)) fun g2 v2=>?_
     repeat refine aB (by first | exact ae _ | exact af _ | exact ab _ _ | rfl | (with_reducible decide)) ?_
     exact cJ (.of (by omega) g2 v2 (by omega))
   ·repeat refine aB (by first | exact ae _ | exact af _ | exact ab _ _ | rfl | (with_reducible decide)) ?_
    exact cJ (.of (by omega) h (aK _) (by omega))
end Go.bM.RL
end
section
namespace Go.bM.RL
open Go.bM Go.RowKit
variable {rd:Int→Prop} {l:L} {n:Int} {W:List Int} {k:Nat} {S:St}
theorem ct {α β:Type} {u:Tr β} {P:β→Prop} (q:res u P) {t:Tr α} {Q:α→Prop} (g:P u.val→res t Q):res (.aa u.ok t) Q:=aB q.1 (g q.2)
structure Cx (rd:Int→Prop) (S:St) (n:Int):Prop where
 w:1≤S.2.1∧S.2.1≤8
 a:gv rd n S.2.2.2.2.1
 b:gv rd n S.2.2.2.2.2.1
theorem Cx.up {n':Int} (h:Cx rd S n) (hn:n≤n'):Cx rd S n':=⟨h.w,bk hn h.a,bk hn h.b⟩
theorem LD {c:Int} (h:c≤15):c≤20:=by omega
def ji (rd:Int→Prop) (o:DO):Prop:=o.1=1→0≤o.2.1∧o.2.1≤15∧rd o.2.1
def mJ (rd:Int→Prop) (w:Int) (o:DO):Prop:=(o.1=1∨o.1=2)∧(o.1=1→0≤o.2.1∧o.2.1≤15∧(w=1→rd o.2.1))
def dW (o:DO):List Int:=if o.1=2 then [] else [o.2.1]
def D2 (rd:Int→Prop) (n:Int) (W:List Int) (k:Nat) (r:L×cW):Prop:=∃ n',n≤n'∧G rd r.1 n' W k∧gv rd n' r.2.1∧gv rd n' r.2.2
theorem D2.of {n':Int} {r:L×cW} {k':Nat} (hn:n≤n') (h:G rd r.1 n' W k) (hv:gv rd n' r.2.1) (hu:gv rd n' r.2.2) (hk:k≤k'):D2 rd n W k' r:=⟨n',hn,h.wk hk,hv,hu⟩
theorem CU (h:G rd l n W k) (hk:k≤31) {o:DO} {at':aD} {w:Int} (hw:1≤w∧w≤8) (ho:ji rd o) (ha:gv rd n at'):res (tS (S,(l,(o,(at',w))))) (D1 rd n W (k+1)):=by
 repeat refine aB (by first | exact ae _ | exact af _ | exact ab _ _ | rfl | (with_reducible decide)) ?_
 refine gG (fun h1=>?_) fun _=>gG (fun h2=>?_) fun _=>?_
 ·repeat refine aB (by first | exact ae _ | exact af _ | exact ab _ _ | rfl | (with_reducible decide)) ?_
  have:=ho (aH.1 h1)
  repeat refine aB (by first | exact ae _ | exact af _ | exact ab _ _ | rfl | (with_reducible decide)) ?_
  exact cJ (.of (by omega) h (gw this.1 ⟨LD this.2.1,this.2.2⟩) (by omega))
 ·repeat refine aB (by first | exact ae _ | exact af _ | exact ab _ _ | rfl | (with_reducible decide)) ?_
  refine dw h (by omega) ⟨by decide,by decide⟩ hw (vP ha) fun g1 v1=>?_
  repeat refine aB (by first | exact ae _ | exact af _ | exact ab _ _ | rfl | (with_reducible decide)) ?_
  exact cJ (.of (by omega) g1 v1 (by omega))
 ·repeat refine aB (by first | exact ae _ | exact af _ | exact ab _ _ | rfl | (with_reducible decide)) ?_
  exact cJ (.of (by omega) h (aK _) (by omega))
theorem U4 (h:G rd l n W k) (hk:k≤29) {o:DO} {at' v:aD} {w:Int} (hw:1≤w∧w≤8) (ho:mJ rd w o) (ha:gv rd n at') (hv:gv rd n v):res (tH (S,(l,(o,(at',(w,v)))))) (D0 rd n (W++dW o) (k+3)):=by
 repeat refine aB (by first | exact ae _ | exact af _ | exact ab _ _ | rfl | (with_reducible decide)) ?_
 refine gG (fun h1=>?_) fun h1=>?_
 ·have e:dW o=[]:=if_pos (aH.1 h1)
  rw [e,List.append_nil]
  repeat refine aB (by first | exact ae _ | exact af _ | exact ab _ _ | rfl | (with_reducible decide)) ?_
  refine UQ h (by omega) (.inl rfl) hw (jN ha hv) fun g1=>?_
  repeat refine aB (by first | exact ae _ | exact af _ | exact ab _ _ | rfl | (with_reducible decide)) ?_
  exact cJ (.of (by omega) g1 (by omega))
 ·have h1:o.1≠2:=dZ.1 h1
  have e:dW o=[o.2.1]:=if_neg h1
  have hr:=ho.2 (ho.1.resolve_right h1)
  rw [e]
  repeat refine aB (by first | exact ae _ | exact af _ | exact ab _ _ | rfl | (with_reducible decide)) ?_
  refine gG (fun h2=>?_) fun _=>?_
  ·have hrd:=hr.2.2 (aH.1 h2)
   repeat refine aB (by first | exact ae _ | exact af _ | exact ab _ _ | rfl | (with_reducible decide)) ?_
   refine dw h (by omega) ⟨by decide,by decide⟩ w8 (jN (gw hr.1 ⟨LD hr.2.1,hrd⟩) (aK _)) fun g1 v1=>?_
   repeat refine aB (by first | exact ae _ | exact af _ | exact ab _ _ | rfl | (with_reducible decide)) ?_
   refine dw g1 (by omega) ⟨by decide,by decide⟩ w1 (vP (bk (by omega) hv)) fun g2 v2=>?_
   repeat refine aB (by first | exact ae _ | exact af _ | exact ab _ _ | rfl | (with_reducible decide)) ?_
   refine HJ g2 (by omega) ⟨by decide,by decide⟩ w8 ⟨hr.1,LD hr.2.1⟩ (jN (bk (by omega) v1) v2) fun g3=>?_
   repeat refine aB (by first | exact ae _ | exact af _ | exact ab _ _ | rfl | (with_reducible decide)) ?_
   exact cJ (.of (by omega) g3 (by omega))
  ·repeat refine aB (by first | exact ae _ | exact af _ | exact ab _ _ | rfl | (with_reducible decide)) ?_
   refine HJ h (by omega) ⟨by decide,by decide⟩ hw ⟨hr.1,LD hr.2.1⟩ (vP hv) fun g3=>?_
   repeat refine aB (by first | exact ae _ | exact af _ | exact ab _ _ | rfl | (with_reducible decide)) ?_
   exact cJ (.of (by omega) g3 (by omega))
theorem E8 (h:G rd l n W k) (hk:k≤29) (hC:Cx rd S n) (ho:mJ rd S.2.1 S.1.2.2.2.1) {v:aD} (hv:gv rd n v):res (tT (S,(l,v))) (D0 rd n (W++dW S.1.2.2.2.1) (k+3)):=by
 repeat refine aB (by first | exact ae _ | exact af _ | exact ab _ _ | rfl | (with_reducible decide)) ?_
 refine ct (U4 h hk hC.w ho hC.a hv) fun ⟨n1,hn1,g1⟩=>?_
 repeat refine aB (by first | exact ae _ | exact af _ | exact ab _ _ | rfl | (with_reducible decide)) ?_
 exact cJ (.of hn1 g1 (by omega))
theorem Gt (x:DI):C3 x:=by
 have:res (l5 x) (fun _=>True):=by
  simp only [l5,bw,eM]
  simp
 exact this.1
theorem Ut (h:G rd l n W k) (hk:k≤30) (hC:Cx rd S n) (hA:eV S.1=false→ji rd S.1.2.2.2.1) (hB:eV S.1=false→ji rd S.1.2.2.2.2.1):res (tM (S,(l,()))) (D2 rd n W (k+2)):=by
 repeat refine aB (by first | exact ae _ | exact af _ | exact ab _ _ | rfl | (with_reducible decide)) ?_
 refine aB (Gt _) ?_
 repeat refine aB (by first | exact ae _ | exact af _ | exact ab _ _ | rfl | (with_reducible decide)) ?_
 refine gG (fun _=>?_) fun h1=>?_
 ·repeat refine aB (by first | exact ae _ | exact af _ | exact ab _ _ | rfl | (with_reducible decide)) ?_
  exact cJ (.of (by omega) h (aK _) (aK _) (by omega))
 ·repeat refine aB (by first | exact ae _ | exact af _ | exact ab _ _ | rfl | (with_reducible decide)) ?_
  refine ct (CU h (by omega) hC.w (hA h1) hC.a) fun ⟨n1,hn1,g1,v1⟩=>?_
  repeat refine aB (by first | exact ae _ | exact af _ | exact ab _ _ | rfl | (with_reducible decide)) ?_
  refine ct (CU g1 (by omega) hC.w (hB h1) (bk hn1 hC.b)) fun ⟨n2,hn2,g2,v2⟩=>?_
  repeat refine aB (by first | exact ae _ | exact af _ | exact ab _ _ | rfl | (with_reducible decide)) ?_
  exact cJ (.of (by omega) g2 (bk hn2 v1) v2 (by omega))
theorem MA (h:G rd l n W k) (hk:k≤900) {c o:aD} (hc:gv rd n c) (ho:gv rd n o):res (tL (S,(l,(c,o)))) (D0 rd n (W++[16]++[19]) (k+2)):=by
 repeat refine aB (by first | exact ae _ | exact af _ | exact ab _ _ | rfl | (with_reducible decide)) ?_
 refine HJ h (by omega) ⟨by decide,by decide⟩ w1 ⟨by decide,by decide⟩ (vP hc) fun g1=>?_
 repeat refine aB (by first | exact ae _ | exact af _ | exact ab _ _ | rfl | (with_reducible decide)) ?_
 refine HJ g1 (by omega) ⟨by decide,by decide⟩ w1 ⟨by decide,by decide⟩ (vP ho) fun g2=>?_
 repeat refine aB (by first | exact ae _ | exact af _ | exact ab _ _ | rfl | (with_reducible decide)) ?_
 exact cJ (.of (by omega) g2 (by omega))
theorem Mz (h:G rd l n W k) (hk:k≤900) (hw:1≤S.2.1∧S.2.1≤8) {c:aD} (hc:gv rd n c):res (tK (S,(l,c))) (D0 rd n (W++[17]++[18]++[20]) (k+3)):=by
 repeat refine aB (by first | exact ae _ | exact af _ | exact ab _ _ | rfl | (with_reducible decide)) ?_
 refine HJ h (by omega) ⟨by decide,by decide⟩ hw ⟨by decide,by decide⟩ (vP hc) fun g1=>?_
 repeat refine aB (by first | exact ae _ | exact af _ | exact ab _ _ | rfl | (with_reducible decide)) ?_
 refine HJ g1 (by omega) ⟨by decide,by decide⟩ hw ⟨by decide,by decide⟩ (vP hc) fun g2=>?_
 repeat refine aB (by first | exact ae _ | exact af _ | exact ab _ _ | rfl | (with_reducible decide)) ?_
 refine HJ g2 (by omega) ⟨by decide,by decide⟩ hw ⟨by decide,by decide⟩ (vP hc) fun g3=>?_
 repeat refine aB (by first | exact ae _ | exact af _ | exact ab _ _ | rfl | (with_reducible decide)) ?_
 exact cJ (.of (by omega) g3 (by omega))
def aW (c:Bool) (S:St):List Int:=if c=true then dW S.1.2.2.2.1 else []
theorem U7 (h:G rd l n W k) (hk:k≤26) (hC:Cx rd S n) (ho:S.1.1≠10→mJ rd S.2.1 S.1.2.2.2.1) {b0 b1 b2:Int} (hb:fP b0∧fP b1∧fP b2) {x y z:aD} (hx:gv rd n x) (hy:gv rd n y) (hz:gv rd n z):
  res (tO (S,(l,([b0,b1,b2],(x,(y,z)))))) (D0 rd n (W++aW (dY S.1.1 10) S++[16]++[19]++[17]++[18]++[20]) (k+11)):=by
 repeat refine aB (by first | exact ae _ | exact af _ | exact ab _ _ | rfl | (with_reducible decide)) ?_
 refine dw h (by omega) hb.1 hC.w (Nd hx hy hz) fun g1 v1=>?_
 repeat refine aB (by first | exact ae _ | exact af _ | exact ab _ _ | rfl | (with_reducible decide)) ?_
 refine dw g1 (by omega) hb.2.1 hC.w (Nd (bk (by omega) hx) (bk (by omega) hy) (bk (by omega) hz)) fun g2 v2=>?_
 repeat refine aB (by first | exact ae _ | exact af _ | exact ab _ _ | rfl | (with_reducible decide)) ?_
 refine dw g2 (by omega) hb.2.2 hC.w (Nd (bk (by omega) hx) (bk (by omega) hy) (bk (by omega) hz)) fun g3 v3=>?_
 repeat refine aB (by first | exact ae _ | exact af _ | exact ab _ _ | rfl | (with_reducible decide)) ?_
 refine gG (fun h1=>?_) fun h1=>?_
 ·have e:aW (dY S.1.1 10) S=dW S.1.2.2.2.1:=if_pos h1
  rw [e]
  repeat refine aB (by first | exact ae _ | exact af _ | exact ab _ _ | rfl | (with_reducible decide)) ?_
  refine ct (E8 g3 (by omega) (hC.up (by omega)) (ho (iI.1 h1)) (bk (by omega) v1)) fun ⟨n4,hn4,g4⟩=>?_
  repeat refine aB (by first | exact ae _ | exact af _ | exact ab _ _ | rfl | (with_reducible decide)) ?_
  refine ct (MA g4 (by omega) (bk (by omega) v2) (bk (by omega) v3)) fun ⟨n5,hn5,g5⟩=>?_
  repeat refine aB (by first | exact ae _ | exact af _ | exact ab _ _ | rfl | (with_reducible decide)) ?_
  refine ct (Mz g5 (by omega) hC.w (bk (by omega) v1)) fun ⟨n6,hn6,g6⟩=>?_
  repeat refine aB (by first | exact ae _ | exact af _ | exact ab _ _ | rfl | (with_reducible decide)) ?_
  exact cJ (.of (by omega) g6 (by omega))
 ·have e:aW (dY S.1.1 10) S=[]:=if_neg (by rw [show dY S.1.1 10=false from h1];simp)
  rw [e,List.append_nil]
  repeat refine aB (by first | exact ae _ | exact af _ | exact ab _ _ | rfl | (with_reducible decide)) ?_
  refine ct (MA g3 (by omega) (bk (by omega) v2) (bk (by omega) v3)) fun ⟨n5,hn5,g5⟩=>?_
  repeat refine aB (by first | exact ae _ | exact af _ | exact ab _ _ | rfl | (with_reducible decide)) ?_
  refine ct (Mz g5 (by omega) hC.w (bk (by omega) v1)) fun ⟨n6,hn6,g6⟩=>?_
  repeat refine aB (by first | exact ae _ | exact af _ | exact ab _ _ | rfl | (with_reducible decide)) ?_
  exact cJ (.of (by omega) g6 (by omega))
theorem TY (h:G rd l n W k) (hk:k≤24) (hC:Cx rd S n) (hA:eV S.1=false→ji rd S.1.2.2.2.1) (hB:eV S.1=false→ji rd S.1.2.2.2.2.1) (ho:S.1.1≠10→mJ rd S.2.1 S.1.2.2.2.1)
  {b0 b1 b2:Int} (hb:fP b0∧fP b1∧fP b2) {z:aD} (hz:gv rd n z):
  res (tR (S,(l,([b0,b1,b2],z)))) (D0 rd n (W++aW (dY S.1.1 10) S++[16]++[19]++[17]++[18]++[20]) (k+13)):=by
 repeat refine aB (by first | exact ae _ | exact af _ | exact ab _ _ | rfl | (with_reducible decide)) ?_
 refine ct (Ut h (by omega) hC hA hB) fun ⟨n1,hn1,g1,v1,u1⟩=>?_
 repeat refine aB (by first | exact ae _ | exact af _ | exact ab _ _ | rfl | (with_reducible decide)) ?_
 refine ct (U7 g1 (by omega) (hC.up hn1) ho hb v1 u1 (bk hn1 hz)) fun ⟨n2,hn2,g2⟩=>?_
 repeat refine aB (by first | exact ae _ | exact af _ | exact ab _ _ | rfl | (with_reducible decide)) ?_
 exact cJ (.of (by omega) g2 (by omega))
theorem s2:fP 2∧fP 4∧fP 6:=⟨⟨by decide,by decide⟩,⟨by decide,by decide⟩,by decide,by decide⟩
theorem s3:fP 3∧fP 5∧fP 7:=⟨⟨by decide,by decide⟩,⟨by decide,by decide⟩,by decide,by decide⟩
theorem VH (h:G rd l n W k) (hk:k≤24) (hC:Cx rd S n) (hA:eV S.1=false→ji rd S.1.2.2.2.1) (hB:eV S.1=false→ji rd S.1.2.2.2.2.1) (ho:S.1.1≠10→mJ rd S.2.1 S.1.2.2.2.1):
  res (uD (S,(l,()))) (D0 rd n (W++aW (dY S.1.1 10) S++[16]++[19]++[17]++[18]++[20]) (k+13)):=by
 repeat refine aB (by first | exact ae _ | exact af _ | exact ab _ _ | rfl | (with_reducible decide)) ?_
 refine ct (TY h hk hC hA hB ho s2 (aK _)) fun ⟨n1,hn1,g1⟩=>?_
 repeat refine aB (by first | exact ae _ | exact af _ | exact ab _ _ | rfl | (with_reducible decide)) ?_
 exact cJ (.of hn1 g1 (by omega))
theorem VG (h:G rd l n W k) (hk:k≤24) (hC:Cx rd S n) (hA:eV S.1=false→ji rd S.1.2.2.2.1) (hB:eV S.1=false→ji rd S.1.2.2.2.2.1) (ho:S.1.1≠10→mJ rd S.2.1 S.1.2.2.2.1) (hc:rd 16):
  res (uC (S,(l,()))) (D0 rd n (W++aW (dY S.1.1 10) S++[16]++[19]++[17]++[18]++[20]) (k+13)):=by
 repeat refine aB (by first | exact ae _ | exact af _ | exact ab _ _ | rfl | (with_reducible decide)) ?_
 refine ct (TY h hk hC hA hB ho s2 (gw (by decide) ⟨by decide,hc⟩)) fun ⟨n1,hn1,g1⟩=>?_
 repeat refine aB (by first | exact ae _ | exact af _ | exact ab _ _ | rfl | (with_reducible decide)) ?_
 exact cJ (.of hn1 g1 (by omega))
theorem Va (h:G rd l n W k) (hk:k≤24) (hC:Cx rd S n) (hA:eV S.1=false→ji rd S.1.2.2.2.1) (hB:eV S.1=false→ji rd S.1.2.2.2.2.1) (ho:S.1.1≠10→mJ rd S.2.1 S.1.2.2.2.1):
  res (uB (S,(l,()))) (D0 rd n (W++aW (dY S.1.1 10) S++[16]++[19]++[17]++[18]++[20]) (k+13)):=by
 repeat refine aB (by first | exact ae _ | exact af _ | exact ab _ _ | rfl | (with_reducible decide)) ?_
 refine ct (TY h hk hC hA hB ho s3 (aK _)) fun ⟨n1,hn1,g1⟩=>?_
 repeat refine aB (by first | exact ae _ | exact af _ | exact ab _ _ | rfl | (with_reducible decide)) ?_
 exact cJ (.of hn1 g1 (by omega))
theorem VF (h:G rd l n W k) (hk:k≤24) (hC:Cx rd S n) (hA:eV S.1=false→ji rd S.1.2.2.2.1) (hB:eV S.1=false→ji rd S.1.2.2.2.2.1) (ho:S.1.1≠10→mJ rd S.2.1 S.1.2.2.2.1) (hc:rd 16):
  res (uA (S,(l,()))) (D0 rd n (W++aW (dY S.1.1 10) S++[16]++[19]++[17]++[18]++[20]) (k+13)):=by
 repeat refine aB (by first | exact ae _ | exact af _ | exact ab _ _ | rfl | (with_reducible decide)) ?_
 refine ct (TY h hk hC hA hB ho s3 (gw (by decide) ⟨by decide,hc⟩)) fun ⟨n1,hn1,g1⟩=>?_
 repeat refine aB (by first | exact ae _ | exact af _ | exact ab _ _ | rfl | (with_reducible decide)) ?_
 exact cJ (.of hn1 g1 (by omega))
theorem VA (h:G rd l n W k) (hk:k≤24) (hC:Cx rd S n) (hA:ji rd S.1.2.2.2.1) (ho:S.1.1≠10→mJ rd S.2.1 S.1.2.2.2.1):
  res (uq (S,(l,()))) (D0 rd n (W++aW (dY S.1.1 10) S++[16]++[19]++[17]++[18]++[20]) (k+13)):=by
 repeat refine aB (by first | exact ae _ | exact af _ | exact ab _ _ | rfl | (with_reducible decide)) ?_
 refine ct (CU h (by omega) hC.w hA hC.a) fun ⟨n1,hn1,g1,v1⟩=>?_
 repeat refine aB (by first | exact ae _ | exact af _ | exact ab _ _ | rfl | (with_reducible decide)) ?_
 refine ct (U7 g1 (by omega) (hC.up hn1) ho s3 (aK _) v1 (aK _)) fun ⟨n2,hn2,g2⟩=>?_
 repeat refine aB (by first | exact ae _ | exact af _ | exact ab _ _ | rfl | (with_reducible decide)) ?_
 exact cJ (.of (by omega) g2 (by omega))
end Go.bM.RL
end
section
namespace Go.bM.RL
open Go.bM Go.RowKit
variable {rd:Int→Prop} {l:L} {n:Int} {W:List Int} {k:Nat} {S:St}
theorem Uu (h:G rd l n W k) (hk:k≤24) (hC:Cx rd S n) (hA:eV S.1=false→ji rd S.1.2.2.2.1) (hB:eV S.1=false→ji rd S.1.2.2.2.2.1) (ho:S.1.1≠11→mJ rd S.2.1 S.1.2.2.2.1) {op:Int} (hop:fP op):
  res (tQ (S,(l,op))) (D0 rd n (W++aW (dY S.1.1 11) S++[16]++[19]++[17]++[18]++[20]) (k+11)):=by
 repeat refine aB (by first | exact ae _ | exact af _ | exact ab _ _ | rfl | (with_reducible decide)) ?_
 refine ct (Ut h (by omega) hC hA hB) fun ⟨n1,hn1,g1,v1,u1⟩=>?_
 repeat refine aB (by first | exact ae _ | exact af _ | exact ab _ _ | rfl | (with_reducible decide)) ?_
 refine dw g1 (by omega) hop hC.w (jN v1 u1) fun g2 v2=>?_
 repeat refine aB (by first | exact ae _ | exact af _ | exact ab _ _ | rfl | (with_reducible decide)) ?_
 refine gG (fun h1=>?_) fun h1=>?_
 ·have e:aW (dY S.1.1 11) S=dW S.1.2.2.2.1:=if_pos h1
  rw [e]
  repeat refine aB (by first | exact ae _ | exact af _ | exact ab _ _ | rfl | (with_reducible decide)) ?_
  refine ct (E8 g2 (by omega) (hC.up (by omega)) (ho (iI.1 h1)) v2) fun ⟨n4,hn4,g4⟩=>?_
  repeat refine aB (by first | exact ae _ | exact af _ | exact ab _ _ | rfl | (with_reducible decide)) ?_
  refine ct (MA g4 (by omega) (aK _) (aK _)) fun ⟨n5,hn5,g5⟩=>?_
  repeat refine aB (by first | exact ae _ | exact af _ | exact ab _ _ | rfl | (with_reducible decide)) ?_
  refine ct (Mz g5 (by omega) hC.w (bk (by omega) v2)) fun ⟨n6,hn6,g6⟩=>?_
  repeat refine aB (by first | exact ae _ | exact af _ | exact ab _ _ | rfl | (with_reducible decide)) ?_
  exact cJ (.of (by omega) g6 (by omega))
 ·have e:aW (dY S.1.1 11) S=[]:=if_neg (by rw [show dY S.1.1 11=false from h1];simp)
  rw [e,List.append_nil]
  repeat refine aB (by first | exact ae _ | exact af _ | exact ab _ _ | rfl | (with_reducible decide)) ?_
  refine ct (MA g2 (by omega) (aK _) (aK _)) fun ⟨n5,hn5,g5⟩=>?_
  repeat refine aB (by first | exact ae _ | exact af _ | exact ab _ _ | rfl | (with_reducible decide)) ?_
  refine ct (Mz g5 (by omega) hC.w (bk (by omega) v2)) fun ⟨n6,hn6,g6⟩=>?_
  repeat refine aB (by first | exact ae _ | exact af _ | exact ab _ _ | rfl | (with_reducible decide)) ?_
  exact cJ (.of (by omega) g6 (by omega))
theorem U9 (h:G rd l n W k) (hk:k≤24) (hC:Cx rd S n) (hA:eV S.1=false→ji rd S.1.2.2.2.1) (hB:eV S.1=false→ji rd S.1.2.2.2.2.1) (ho:S.1.1≠11→mJ rd S.2.1 S.1.2.2.2.1):
  res (uz (S,(l,()))) (D0 rd n (W++aW (dY S.1.1 11) S++[16]++[19]++[17]++[18]++[20]) (k+11)):=by
 repeat refine aB (by first | exact ae _ | exact af _ | exact ab _ _ | rfl | (with_reducible decide)) ?_
 refine ct (Uu h hk hC hA hB ho ⟨by decide,by decide⟩) fun ⟨n1,hn1,g1⟩=>?_
 repeat refine aB (by first | exact ae _ | exact af _ | exact ab _ _ | rfl | (with_reducible decide)) ?_
 exact cJ (.of hn1 g1 (by omega))
theorem VE (h:G rd l n W k) (hk:k≤24) (hC:Cx rd S n) (hA:eV S.1=false→ji rd S.1.2.2.2.1) (hB:eV S.1=false→ji rd S.1.2.2.2.2.1) (ho:S.1.1≠11→mJ rd S.2.1 S.1.2.2.2.1):
  res (uw (S,(l,()))) (D0 rd n (W++aW (dY S.1.1 11) S++[16]++[19]++[17]++[18]++[20]) (k+11)):=by
 repeat refine aB (by first | exact ae _ | exact af _ | exact ab _ _ | rfl | (with_reducible decide)) ?_
 refine ct (Uu h hk hC hA hB ho ⟨by decide,by decide⟩) fun ⟨n1,hn1,g1⟩=>?_
 repeat refine aB (by first | exact ae _ | exact af _ | exact ab _ _ | rfl | (with_reducible decide)) ?_
 exact cJ (.of hn1 g1 (by omega))
theorem VD (h:G rd l n W k) (hk:k≤24) (hC:Cx rd S n) (hA:eV S.1=false→ji rd S.1.2.2.2.1) (hB:eV S.1=false→ji rd S.1.2.2.2.2.1) (ho:S.1.1≠11→mJ rd S.2.1 S.1.2.2.2.1):
  res (uv (S,(l,()))) (D0 rd n (W++aW (dY S.1.1 11) S++[16]++[19]++[17]++[18]++[20]) (k+11)):=by
 repeat refine aB (by first | exact ae _ | exact af _ | exact ab _ _ | rfl | (with_reducible decide)) ?_
 refine ct (Uu h hk hC hA hB ho ⟨by decide,by decide⟩) fun ⟨n1,hn1,g1⟩=>?_
 repeat refine aB (by first | exact ae _ | exact af _ | exact ab _ _ | rfl | (with_reducible decide)) ?_
 exact cJ (.of hn1 g1 (by omega))
theorem U8 (h:G rd l n W k) (hk:k≤24) (hC:Cx rd S n) (hA:ji rd S.1.2.2.2.1) (ho:mJ rd S.2.1 S.1.2.2.2.1) {op ov:Int} (hop:fP op) (hov:fP ov):
  res (tP (S,(l,(op,ov)))) (D0 rd n (W++dW S.1.2.2.2.1++[19]++[17]++[18]++[20]) (k+10)):=by
 repeat refine aB (by first | exact ae _ | exact af _ | exact ab _ _ | rfl | (with_reducible decide)) ?_
 refine ct (CU h (by omega) hC.w hA hC.a) fun ⟨n1,hn1,g1,v1⟩=>?_
 repeat refine aB (by first | exact ae _ | exact af _ | exact ab _ _ | rfl | (with_reducible decide)) ?_
 refine dw g1 (by omega) hop hC.w (jN v1 (aK _)) fun g2 v2=>?_
 repeat refine aB (by first | exact ae _ | exact af _ | exact ab _ _ | rfl | (with_reducible decide)) ?_
 refine dw g2 (by omega) hov hC.w (jN (bk (by omega) v1) (aK _)) fun g3 v3=>?_
 repeat refine aB (by first | exact ae _ | exact af _ | exact ab _ _ | rfl | (with_reducible decide)) ?_
 refine ct (E8 g3 (by omega) (hC.up (by omega)) ho (bk (by omega) v2)) fun ⟨n4,hn4,g4⟩=>?_
 repeat refine aB (by first | exact ae _ | exact af _ | exact ab _ _ | rfl | (with_reducible decide)) ?_
 refine HJ g4 (by omega) ⟨by decide,by decide⟩ w1 ⟨by decide,by decide⟩ (vP (bk (by omega) v3)) fun g5=>?_
 repeat refine aB (by first | exact ae _ | exact af _ | exact ab _ _ | rfl | (with_reducible decide)) ?_
 refine ct (Mz g5 (by omega) hC.w (bk (by omega) v2)) fun ⟨n6,hn6,g6⟩=>?_
 repeat refine aB (by first | exact ae _ | exact af _ | exact ab _ _ | rfl | (with_reducible decide)) ?_
 exact cJ (.of (by omega) g6 (by omega))
theorem VC (h:G rd l n W k) (hk:k≤24) (hC:Cx rd S n) (hA:ji rd S.1.2.2.2.1) (ho:mJ rd S.2.1 S.1.2.2.2.1):res (uu (S,(l,()))) (D0 rd n (W++dW S.1.2.2.2.1++[19]++[17]++[18]++[20]) (k+10)):=by
 repeat refine aB (by first | exact ae _ | exact af _ | exact ab _ _ | rfl | (with_reducible decide)) ?_
 refine ct (U8 h hk hC hA ho ⟨by decide,by decide⟩ ⟨by decide,by decide⟩) fun ⟨n1,hn1,g1⟩=>?_
 repeat refine aB (by first | exact ae _ | exact af _ | exact ab _ _ | rfl | (with_reducible decide)) ?_
 exact cJ (.of hn1 g1 (by omega))
theorem VB (h:G rd l n W k) (hk:k≤24) (hC:Cx rd S n) (hA:ji rd S.1.2.2.2.1) (ho:mJ rd S.2.1 S.1.2.2.2.1):res (ur (S,(l,()))) (D0 rd n (W++dW S.1.2.2.2.1++[19]++[17]++[18]++[20]) (k+10)):=by
 repeat refine aB (by first | exact ae _ | exact af _ | exact ab _ _ | rfl | (with_reducible decide)) ?_
 refine ct (U8 h hk hC hA ho ⟨by decide,by decide⟩ ⟨by decide,by decide⟩) fun ⟨n1,hn1,g1⟩=>?_
 repeat refine aB (by first | exact ae _ | exact af _ | exact ab _ _ | rfl | (with_reducible decide)) ?_
 exact cJ (.of hn1 g1 (by omega))
theorem Vz (h:G rd l n W k) (hk:k≤24) (hC:Cx rd S n) (hA:ji rd S.1.2.2.2.1) (ho:mJ rd S.2.1 S.1.2.2.2.1):res (uo (S,(l,()))) (D0 rd n (W++dW S.1.2.2.2.1) (k+5)):=by
 repeat refine aB (by first | exact ae _ | exact af _ | exact ab _ _ | rfl | (with_reducible decide)) ?_
 refine ct (CU h (by omega) hC.w hA hC.a) fun ⟨n1,hn1,g1,v1⟩=>?_
 repeat refine aB (by first | exact ae _ | exact af _ | exact ab _ _ | rfl | (with_reducible decide)) ?_
 refine aB (AN _) ?_
 repeat refine aB (by first | exact ae _ | exact af _ | exact ab _ _ | rfl | (with_reducible decide)) ?_
 refine dw g1 (by omega) ⟨by decide,by decide⟩ hC.w (jN v1 (aK _)) fun g2 v2=>?_
 repeat refine aB (by first | exact ae _ | exact af _ | exact ab _ _ | rfl | (with_reducible decide)) ?_
 refine ct (E8 g2 (by omega) (hC.up (by omega)) ho v2) fun ⟨n4,hn4,g4⟩=>?_
 repeat refine aB (by first | exact ae _ | exact af _ | exact ab _ _ | rfl | (with_reducible decide)) ?_
 exact cJ (.of (by omega) g4 (by omega))
theorem Vt (h:G rd l n W k) (hk:k≤22) (hC:Cx rd S n) (hA:eV S.1=false→ji rd S.1.2.2.2.1) (hB:eV S.1=false→ji rd S.1.2.2.2.2.1) (ho:mJ rd S.2.1 S.1.2.2.2.1):
  res (ud (S,(l,()))) (D0 rd n (W++dW S.1.2.2.2.1++[16]++[19]++[17]++[18]++[20]) (k+12)):=by
 repeat refine aB (by first | exact ae _ | exact af _ | exact ab _ _ | rfl | (with_reducible decide)) ?_
 refine ct (Ut h (by omega) hC hA hB) fun ⟨n1,hn1,g1,v1,u1⟩=>?_
 repeat refine aB (by first | exact ae _ | exact af _ | exact ab _ _ | rfl | (with_reducible decide)) ?_
 refine dw g1 (by omega) ⟨by decide,by decide⟩ hC.w (jN v1 u1) fun g2 v2=>?_
 repeat refine aB (by first | exact ae _ | exact af _ | exact ab _ _ | rfl | (with_reducible decide)) ?_
 refine dw g2 (by omega) ⟨by decide,by decide⟩ hC.w (jN (bk (by omega) v1) (bk (by omega) u1)) fun g3 v3=>?_
 repeat refine aB (by first | exact ae _ | exact af _ | exact ab _ _ | rfl | (with_reducible decide)) ?_
 refine ct (E8 g3 (by omega) (hC.up (by omega)) ho (bk (by omega) v2)) fun ⟨n4,hn4,g4⟩=>?_
 repeat refine aB (by first | exact ae _ | exact af _ | exact ab _ _ | rfl | (with_reducible decide)) ?_
 refine ct (MA g4 (by omega) (bk (by omega) v3) (bk (by omega) v3)) fun ⟨n5,hn5,g5⟩=>?_
 repeat refine aB (by first | exact ae _ | exact af _ | exact ab _ _ | rfl | (with_reducible decide)) ?_
 refine ct (Mz g5 (by omega) hC.w (bk (by omega) v2)) fun ⟨n6,hn6,g6⟩=>?_
 repeat refine aB (by first | exact ae _ | exact af _ | exact ab _ _ | rfl | (with_reducible decide)) ?_
 exact cJ (.of (by omega) g6 (by omega))
theorem U6 (h:G rd l n W k) (hk:k≤900) (hw:1≤S.2.1∧S.2.1≤8) {a b:aD} (ha:gv rd n a) (hb:gv rd n b):res (tJ (S,(l,(a,b)))) (D0 rd n (W++[0]++[2]) (k+2)):=by
 repeat refine aB (by first | exact ae _ | exact af _ | exact ab _ _ | rfl | (with_reducible decide)) ?_
 refine HJ h (by omega) ⟨by decide,by decide⟩ hw ⟨by decide,by decide⟩ (vP ha) fun g1=>?_
 repeat refine aB (by first | exact ae _ | exact af _ | exact ab _ _ | rfl | (with_reducible decide)) ?_
 refine HJ g1 (by omega) ⟨by decide,by decide⟩ hw ⟨by decide,by decide⟩ (vP hb) fun g2=>?_
 repeat refine aB (by first | exact ae _ | exact af _ | exact ab _ _ | rfl | (with_reducible decide)) ?_
 exact cJ (.of (by omega) g2 (by omega))
theorem Vs (h:G rd l n W k) (hk:k≤22) (hC:Cx rd S n) (hA:ji rd S.1.2.2.2.1) (h0:rd 0):res (uc (S,(l,()))) (D0 rd n (W++[0]++[2]++[16]++[19]++[17]++[18]++[20]) (k+12)):=by
 have hv0:∀ {n:Int},gv rd n (cl 0):=gw (by decide) ⟨by decide,h0⟩
 repeat refine aB (by first | exact ae _ | exact af _ | exact ab _ _ | rfl | (with_reducible decide)) ?_
 refine ct (CU h (by omega) hC.w hA hC.a) fun ⟨n1,hn1,g1,v1⟩=>?_
 repeat refine aB (by first | exact ae _ | exact af _ | exact ab _ _ | rfl | (with_reducible decide)) ?_
 refine dw g1 (by omega) ⟨by decide,by decide⟩ hC.w (jN hv0 v1) fun g2 v2=>?_
 repeat refine aB (by first | exact ae _ | exact af _ | exact ab _ _ | rfl | (with_reducible decide)) ?_
 refine dw g2 (by omega) ⟨by decide,by decide⟩ hC.w (jN hv0 (bk (by omega) v1)) fun g3 v3=>?_
 repeat refine aB (by first | exact ae _ | exact af _ | exact ab _ _ | rfl | (with_reducible decide)) ?_
 refine dw g3 (by omega) ⟨by decide,by decide⟩ hC.w (vP v3) fun g4 v4=>?_
 repeat refine aB (by first | exact ae _ | exact af _ | exact ab _ _ | rfl | (with_reducible decide)) ?_
 refine dw g4 (by omega) ⟨by decide,by decide⟩ w1 (jN v4 (aK _)) fun g5 v5=>?_
 repeat refine aB (by first | exact ae _ | exact af _ | exact ab _ _ | rfl | (with_reducible decide)) ?_
 refine ct (U6 g5 (by omega) hC.w (bk (by omega) v2) (bk (by omega) v3)) fun ⟨n6,hn6,g6⟩=>?_
 repeat refine aB (by first | exact ae _ | exact af _ | exact ab _ _ | rfl | (with_reducible decide)) ?_
 refine ct (MA g6 (by omega) (bk (by omega) v5) (bk (by omega) v5)) fun ⟨n7,hn7,g7⟩=>?_
 repeat refine aB (by first | exact ae _ | exact af _ | exact ab _ _ | rfl | (with_reducible decide)) ?_
 refine ct (Mz g7 (by omega) hC.w (bk (by omega) v2)) fun ⟨n8,hn8,g8⟩=>?_
 repeat refine aB (by first | exact ae _ | exact af _ | exact ab _ _ | rfl | (with_reducible decide)) ?_
 exact cJ (.of (by omega) g8 (by omega))
theorem Vr (h:G rd l n W k) (hk:k≤22) (hC:Cx rd S n) (hA:ji rd S.1.2.2.2.1) (h0:rd 0) (h2:rd 2):res (ub (S,(l,()))) (D0 rd n (W++[0]++[2]) (k+6)):=by
 have hv0:∀ {n:Int},gv rd n (cl 0):=gw (by decide) ⟨by decide,h0⟩
 have hv2:∀ {n:Int},gv rd n (cl 2):=gw (by decide) ⟨by decide,h2⟩
 repeat refine aB (by first | exact ae _ | exact af _ | exact ab _ _ | rfl | (with_reducible decide)) ?_
 refine ct (CU h (by omega) hC.w hA hC.a) fun ⟨n1,hn1,g1,v1⟩=>?_
 repeat refine aB (by first | exact ae _ | exact af _ | exact ab _ _ | rfl | (with_reducible decide)) ?_
 refine UQ g1 (by omega) (.inr rfl) hC.w (Nd hv0 v1 hv2) fun g2=>?_
 repeat refine aB (by first | exact ae _ | exact af _ | exact ab _ _ | rfl | (with_reducible decide)) ?_
 refine dw g2 (by omega) ⟨by decide,by decide⟩ hC.w (Nd hv0 (bk (by omega) v1) hv2) fun g3 v3=>?_
 repeat refine aB (by first | exact ae _ | exact af _ | exact ab _ _ | rfl | (with_reducible decide)) ?_
 refine dw g3 (by omega) ⟨by decide,by decide⟩ hC.w (Nd hv0 (bk (by omega) v1) hv2) fun g4 v4=>?_
 repeat refine aB (by first | exact ae _ | exact af _ | exact ab _ _ | rfl | (with_reducible decide)) ?_
 refine ct (U6 g4 (by omega) hC.w (bk (by omega) v3) (bk (by omega) v4)) fun ⟨n6,hn6,g6⟩=>?_
 repeat refine aB (by first | exact ae _ | exact af _ | exact ab _ _ | rfl | (with_reducible decide)) ?_
 exact cJ (.of (by omega) g6 (by omega))
theorem U5 (h:G rd l n W k) (hk:k≤28) (h4:rd 4) {v:aD} (hv:gv rd n v):res (tI (S,(l,v))) (D0 rd n (W++[4]) (k+3)):=by
 have hv4:∀ {n:Int},gv rd n (cl 4):=gw (by decide) ⟨by decide,h4⟩
 repeat refine aB (by first | exact ae _ | exact af _ | exact ab _ _ | rfl | (with_reducible decide)) ?_
 refine dw h (by omega) ⟨by decide,by decide⟩ w8 (jN hv4 (aK _)) fun g1 v1=>?_
 repeat refine aB (by first | exact ae _ | exact af _ | exact ab _ _ | rfl | (with_reducible decide)) ?_
 refine UQ g1 (by omega) (.inl rfl) w8 (jN v1 (bk (by omega) hv)) fun g2=>?_
 repeat refine aB (by first | exact ae _ | exact af _ | exact ab _ _ | rfl | (with_reducible decide)) ?_
 refine HJ g2 (by omega) ⟨by decide,by decide⟩ w8 ⟨by decide,by decide⟩ (vP v1) fun g3=>?_
 repeat refine aB (by first | exact ae _ | exact af _ | exact ab _ _ | rfl | (with_reducible decide)) ?_
 exact cJ (.of (by omega) g3 (by omega))
theorem Vq (h:G rd l n W k) (hk:k≤27) (hC:Cx rd S n) (hA:ji rd S.1.2.2.2.1) (h4:rd 4):res (ua (S,(l,()))) (D0 rd n (W++[4]) (k+4)):=by
 repeat refine aB (by first | exact ae _ | exact af _ | exact ab _ _ | rfl | (with_reducible decide)) ?_
 refine ct (CU h (by omega) w8 hA hC.a) fun ⟨n1,hn1,g1,v1⟩=>?_
 repeat refine aB (by first | exact ae _ | exact af _ | exact ab _ _ | rfl | (with_reducible decide)) ?_
 refine ct (U5 g1 (by omega) h4 v1) fun ⟨n2,hn2,g2⟩=>?_
 repeat refine aB (by first | exact ae _ | exact af _ | exact ab _ _ | rfl | (with_reducible decide)) ?_
 exact cJ (.of (by omega) g2 (by omega))
theorem U3 (h:G rd l n W k) (hk:k≤28) (h4:rd 4):res (tG (S,(l,()))) (D1 rd n (W++[4]) (k+3)):=by
 have hv4:∀ {n:Int},gv rd n (cl 4):=gw (by decide) ⟨by decide,h4⟩
 repeat refine aB (by first | exact ae _ | exact af _ | exact ab _ _ | rfl | (with_reducible decide)) ?_
 refine dw h (by omega) ⟨by decide,by decide⟩ w8 (vP hv4) fun g1 v1=>?_
 repeat refine aB (by first | exact ae _ | exact af _ | exact ab _ _ | rfl | (with_reducible decide)) ?_
 refine dw g1 (by omega) ⟨by decide,by decide⟩ w8 (jN hv4 (aK _)) fun g2 v2=>?_
 repeat refine aB (by first | exact ae _ | exact af _ | exact ab _ _ | rfl | (with_reducible decide)) ?_
 refine HJ g2 (by omega) ⟨by decide,by decide⟩ w8 ⟨by decide,by decide⟩ (vP v2) fun g3=>?_
 repeat refine aB (by first | exact ae _ | exact af _ | exact ab _ _ | rfl | (with_reducible decide)) ?_
 exact cJ (.of (by omega) g3 (bk (by omega) v1) (by omega))
theorem Vp (h:G rd l n W k) (hk:k≤22) (hC:Cx rd S n) (ho:mJ rd 8 S.1.2.2.2.1) (h4:rd 4):res (tZ (S,(l,()))) (D0 rd n (W++[4]++dW S.1.2.2.2.1) (k+6)):=by
 repeat refine aB (by first | exact ae _ | exact af _ | exact ab _ _ | rfl | (with_reducible decide)) ?_
 refine ct (U3 h (by omega) h4) fun ⟨n1,hn1,g1,v1⟩=>?_
 repeat refine aB (by first | exact ae _ | exact af _ | exact ab _ _ | rfl | (with_reducible decide)) ?_
 refine ct (U4 g1 (by omega) w8 ho (bk hn1 hC.a) v1) fun ⟨n2,hn2,g2⟩=>?_
 repeat refine aB (by first | exact ae _ | exact af _ | exact ab _ _ | rfl | (with_reducible decide)) ?_
 exact cJ (.of (by omega) g2 (by omega))
theorem Us (h:G rd l n W k):res (tF (S,(l,()))) (D1 rd n W k):=by
 repeat refine aB (by first | exact ae _ | exact af _ | exact ab _ _ | rfl | (with_reducible decide)) ?_
 exact cJ (.of (by omega) h (aK _) (by omega))
theorem VJ (h:G rd l n W k) (hk:k≤27) (hC:Cx rd S n) (hB:ji rd S.1.2.2.2.2.1) (ho:mJ rd S.2.1 S.1.2.2.2.1):res (uF (S,(l,()))) (D0 rd n (W++dW S.1.2.2.2.1) (k+4)):=by
 repeat refine aB (by first | exact ae _ | exact af _ | exact ab _ _ | rfl | (with_reducible decide)) ?_
 refine ct (CU h (by omega) hC.w hB hC.b) fun ⟨n1,hn1,g1,v1⟩=>?_
 repeat refine aB (by first | exact ae _ | exact af _ | exact ab _ _ | rfl | (with_reducible decide)) ?_
 refine ct (E8 g1 (by omega) (hC.up hn1) ho v1) fun ⟨n2,hn2,g2⟩=>?_
 repeat refine aB (by first | exact ae _ | exact af _ | exact ab _ _ | rfl | (with_reducible decide)) ?_
 exact cJ (.of (by omega) g2 (by omega))
theorem VI (h:G rd l n W k) (hk:k≤27) (hC:Cx rd S n) (ho:mJ rd S.2.1 S.1.2.2.2.1):res (uE (S,(l,()))) (D0 rd n (W++dW S.1.2.2.2.1) (k+3)):=by
 repeat refine aB (by first | exact ae _ | exact af _ | exact ab _ _ | rfl | (with_reducible decide)) ?_
 refine ct (E8 h (by omega) hC ho hC.b) fun ⟨n2,hn2,g2⟩=>?_
 repeat refine aB (by first | exact ae _ | exact af _ | exact ab _ _ | rfl | (with_reducible decide)) ?_
 exact cJ (.of (by omega) g2 (by omega))
theorem Vm (h:G rd l n W k) (hk:k≤26) (hC:Cx rd S n) (hB:ji rd S.1.2.2.2.2.1) (ho:mJ rd S.2.1 S.1.2.2.2.1):res (tW (S,(l,()))) (D0 rd n (W++dW S.1.2.2.2.1) (k+5)):=by
 repeat refine aB (by first | exact ae _ | exact af _ | exact ab _ _ | rfl | (with_reducible decide)) ?_
 refine ct (CU h (by omega) w1 hB hC.b) fun ⟨n1,hn1,g1,v1⟩=>?_
 repeat refine aB (by first | exact ae _ | exact af _ | exact ab _ _ | rfl | (with_reducible decide)) ?_
 refine dw g1 (by omega) ⟨by decide,by decide⟩ w1 (vP v1) fun g2 v2=>?_
 repeat refine aB (by first | exact ae _ | exact af _ | exact ab _ _ | rfl | (with_reducible decide)) ?_
 refine ct (E8 g2 (by omega) (hC.up (by omega)) ho v2) fun ⟨n3,hn3,g3⟩=>?_
 repeat refine aB (by first | exact ae _ | exact af _ | exact ab _ _ | rfl | (with_reducible decide)) ?_
 exact cJ (.of (by omega) g3 (by omega))
theorem Vl (h:G rd l n W k) (hk:k≤26) (hC:Cx rd S n) (hB:ji rd S.1.2.2.2.2.1) (ho:mJ rd S.2.1 S.1.2.2.2.1):res (tV (S,(l,()))) (D0 rd n (W++dW S.1.2.2.2.1) (k+5)):=by
 repeat refine aB (by first | exact ae _ | exact af _ | exact ab _ _ | rfl | (with_reducible decide)) ?_
 refine ct (CU h (by omega) w1 hB hC.b) fun ⟨n1,hn1,g1,v1⟩=>?_
 repeat refine aB (by first | exact ae _ | exact af _ | exact ab _ _ | rfl | (with_reducible decide)) ?_
 refine dw g1 (by omega) ⟨by decide,by decide⟩ w1 (vP v1) fun g2 v2=>?_
 repeat refine aB (by first | exact ae _ | exact af _ | exact ab _ _ | rfl | (with_reducible decide)) ?_
 refine ct (E8 g2 (by omega) (hC.up (by omega)) ho v2) fun ⟨n3,hn3,g3⟩=>?_
 repeat refine aB (by first | exact ae _ | exact af _ | exact ab _ _ | rfl | (with_reducible decide)) ?_
 exact cJ (.of (by omega) g3 (by omega))
end Go.bM.RL
end
section
namespace Go.bM.RL
open Go.bM Go.RowKit
variable {rd:Int→Prop} {l:L} {n:Int} {W:List Int} {k:Nat} {S:St}
theorem vS (h:G rd l n W k) (hk:k≤31) {op:Int} {a b:aD} (hop:fP op) (ha:gv rd n a) (hb:gv rd n b):res (nz (S,(l,(op,(a,b))))) (D1 rd n W (k+1)):=by
 repeat refine aB (by first | exact ae _ | exact af _ | exact ab _ _ | rfl | (with_reducible decide)) ?_
 refine dw h (by omega) hop w1 (jN ha hb) fun g1 v1=>?_
 repeat refine aB (by first | exact ae _ | exact af _ | exact ab _ _ | rfl | (with_reducible decide)) ?_
 exact cJ (.of (by omega) g1 v1 (by omega))
def cN (cc:Int):Int:=cond (al cc 0) 19 (cond (al cc 2) 16 (cond (al cc 4) 17 (cond (al cc 8) 18 (cond (al cc 10) 20 0))))
theorem TJ (cc:Int):0≤cN cc∧cN cc≤20:=by
 unfold cN
 cases al cc 0<;>cases al cc 2<;>cases al cc 4<;>cases al cc 8<;>cases al cc 10<;>decide
structure T6 (rd:Int→Prop) (cc:Int):Prop where
 a:cc=6→rd 16∧rd 17
 l:cc=12→rd 18∧rd 19
 g:cc=14→rd 17∧rd 18∧rd 19
 s:cc≠6→cc≠12→cc≠14→rd (cN cc)
theorem s9:fP 9:=⟨by decide,by decide⟩
theorem Qh:fP 10:=⟨by decide,by decide⟩
theorem U1:fP 25:=⟨by decide,by decide⟩
theorem Ur (h:G rd l n W k) (hk:k≤27) (hc:T6 rd (kN .u8 S.1.2.1 1)):res (tE (S,(l,()))) (D1 rd n W (k+4)):=by
 have fl:∀ {c n:Int},0≤c→c≤20→rd c→gv rd n (cl c):=fun h1 h2 h3=>gw h1 ⟨h2,h3⟩
 repeat refine aB (by first | exact ae _ | exact af _ | exact ab _ _ | rfl | (with_reducible decide)) ?_
 refine gG (fun h1=>?_) fun h1=>?_
 ·have hr:=hc.a (aH.1 h1)
  repeat refine aB (by first | exact ae _ | exact af _ | exact ab _ _ | rfl | (with_reducible decide)) ?_
  refine ct (vS h (by omega) s9 (fl (by decide) (by decide) hr.1) (fl (by decide) (by decide) hr.2)) fun ⟨n1,hn1,g1,v1⟩=>?_
  repeat refine aB (by first | exact ae _ | exact af _ | exact ab _ _ | rfl | (with_reducible decide)) ?_
  refine gG (fun _=>?_) fun _=>?_
  ·repeat refine aB (by first | exact ae _ | exact af _ | exact ab _ _ | rfl | (with_reducible decide)) ?_
   refine ct (vS g1 (by omega) Qh v1 (aK _)) fun ⟨n2,hn2,g2,v2⟩=>?_
   repeat refine aB (by first | exact ae _ | exact af _ | exact ab _ _ | rfl | (with_reducible decide)) ?_
   exact cJ (.of (by omega) g2 v2 (by omega))
  ·repeat refine aB (by first | exact ae _ | exact af _ | exact ab _ _ | rfl | (with_reducible decide)) ?_
   exact cJ (.of (by omega) g1 v1 (by omega))
 repeat refine aB (by first | exact ae _ | exact af _ | exact ab _ _ | rfl | (with_reducible decide)) ?_
 refine gG (fun h2=>?_) fun h2=>?_
 ·have hr:=hc.l (aH.1 h2)
  repeat refine aB (by first | exact ae _ | exact af _ | exact ab _ _ | rfl | (with_reducible decide)) ?_
  refine ct (vS h (by omega) U1 (fl (by decide) (by decide) hr.1) (fl (by decide) (by decide) hr.2)) fun ⟨n1,hn1,g1,v1⟩=>?_
  repeat refine aB (by first | exact ae _ | exact af _ | exact ab _ _ | rfl | (with_reducible decide)) ?_
  refine ct (vS g1 (by omega) Qh v1 (aK _)) fun ⟨n2,hn2,g2,v2⟩=>?_
  repeat refine aB (by first | exact ae _ | exact af _ | exact ab _ _ | rfl | (with_reducible decide)) ?_
  refine gG (fun h3=>?_) fun _=>?_
  ·exact absurd ((aH.1 h2).symm.trans (aH.1 h3)) (by decide)
  repeat refine aB (by first | exact ae _ | exact af _ | exact ab _ _ | rfl | (with_reducible decide)) ?_
  refine gG (fun _=>?_) fun _=>?_
  ·repeat refine aB (by first | exact ae _ | exact af _ | exact ab _ _ | rfl | (with_reducible decide)) ?_
   refine ct (vS g2 (by omega) Qh v2 (aK _)) fun ⟨n3,hn3,g3,v3⟩=>?_
   repeat refine aB (by first | exact ae _ | exact af _ | exact ab _ _ | rfl | (with_reducible decide)) ?_
   exact cJ (.of (by omega) g3 v3 (by omega))
  ·repeat refine aB (by first | exact ae _ | exact af _ | exact ab _ _ | rfl | (with_reducible decide)) ?_
   exact cJ (.of (by omega) g2 v2 (by omega))
 repeat refine aB (by first | exact ae _ | exact af _ | exact ab _ _ | rfl | (with_reducible decide)) ?_
 refine gG (fun h3=>?_) fun h3=>?_
 ·have hr:=hc.g (aH.1 h3)
  repeat refine aB (by first | exact ae _ | exact af _ | exact ab _ _ | rfl | (with_reducible decide)) ?_
  refine ct (vS h (by omega) U1 (fl (by decide) (by decide) hr.2.1) (fl (by decide) (by decide) hr.2.2)) fun ⟨n1,hn1,g1,v1⟩=>?_
  repeat refine aB (by first | exact ae _ | exact af _ | exact ab _ _ | rfl | (with_reducible decide)) ?_
  refine ct (vS g1 (by omega) Qh v1 (aK _)) fun ⟨n2,hn2,g2,v2⟩=>?_
  repeat refine aB (by first | exact ae _ | exact af _ | exact ab _ _ | rfl | (with_reducible decide)) ?_
  refine gG (fun _=>?_) fun h4=>?_
  ·repeat refine aB (by first | exact ae _ | exact af _ | exact ab _ _ | rfl | (with_reducible decide)) ?_
   refine ct (vS g2 (by omega) s9 (fl (by decide) (by decide) hr.1) v2) fun ⟨n3,hn3,g3,v3⟩=>?_
   repeat refine aB (by first | exact ae _ | exact af _ | exact ab _ _ | rfl | (with_reducible decide)) ?_
   refine gG (fun _=>?_) fun _=>?_
   ·repeat refine aB (by first | exact ae _ | exact af _ | exact ab _ _ | rfl | (with_reducible decide)) ?_
    refine ct (vS g3 (by omega) Qh v3 (aK _)) fun ⟨n4,hn4,g4,v4⟩=>?_
    repeat refine aB (by first | exact ae _ | exact af _ | exact ab _ _ | rfl | (with_reducible decide)) ?_
    exact cJ (.of (by omega) g4 v4 (by omega))
   ·repeat refine aB (by first | exact ae _ | exact af _ | exact ab _ _ | rfl | (with_reducible decide)) ?_
    exact cJ (.of (by omega) g3 v3 (by omega))
  ·exact absurd (h3.symm.trans h4) (by decide)
 ·have hr:=hc.s (dZ.1 h1) (dZ.1 h2) (dZ.1 h3)
  have hle:=TJ (kN .u8 S.1.2.1 1)
  repeat refine aB (by first | exact ae _ | exact af _ | exact ab _ _ | rfl | (with_reducible decide)) ?_
  refine gG (fun _=>?_) fun _=>?_
  ·repeat refine aB (by first | exact ae _ | exact af _ | exact ab _ _ | rfl | (with_reducible decide)) ?_
   refine ct (vS h (by omega) Qh (fl hle.1 hle.2 hr) (aK _)) fun ⟨n1,hn1,g1,v1⟩=>?_
   repeat refine aB (by first | exact ae _ | exact af _ | exact ab _ _ | rfl | (with_reducible decide)) ?_
   exact cJ (.of (by omega) g1 v1 (by omega))
  ·repeat refine aB (by first | exact ae _ | exact af _ | exact ab _ _ | rfl | (with_reducible decide)) ?_
   exact cJ (.of (by omega) h (fl hle.1 hle.2 hr) (by omega))
theorem Vo (h:G rd l n W k) (hk:k≤22) (hC:Cx rd S n) (hA:ji rd S.1.2.2.2.1) (hB:ji rd S.1.2.2.2.2.1) (hc:T6 rd (kN .u8 S.1.2.1 1)) (ho:mJ rd S.2.1 S.1.2.2.2.1):res (tY (S,(l,()))) (D0 rd n (W++dW S.1.2.2.2.1) (k+10)):=by
 repeat refine aB (by first | exact ae _ | exact af _ | exact ab _ _ | rfl | (with_reducible decide)) ?_
 refine ct (CU h (by omega) hC.w hA hC.a) fun ⟨n1,hn1,g1,v1⟩=>?_
 repeat refine aB (by first | exact ae _ | exact af _ | exact ab _ _ | rfl | (with_reducible decide)) ?_
 refine ct (CU g1 (by omega) hC.w hB (bk hn1 hC.b)) fun ⟨n2,hn2,g2,v2⟩=>?_
 repeat refine aB (by first | exact ae _ | exact af _ | exact ab _ _ | rfl | (with_reducible decide)) ?_
 refine ct (Ur g2 (by omega) hc) fun ⟨n3,hn3,g3,v3⟩=>?_
 repeat refine aB (by first | exact ae _ | exact af _ | exact ab _ _ | rfl | (with_reducible decide)) ?_
 refine dw g3 (by omega) ⟨by decide,by decide⟩ w8 (Nd (bk (by omega) v2) (bk (by omega) v1) v3) fun g4 v4=>?_
 repeat refine aB (by first | exact ae _ | exact af _ | exact ab _ _ | rfl | (with_reducible decide)) ?_
 refine ct (E8 g4 (by omega) (hC.up (by omega)) ho v4) fun ⟨n5,hn5,g5⟩=>?_
 repeat refine aB (by first | exact ae _ | exact af _ | exact ab _ _ | rfl | (with_reducible decide)) ?_
 exact cJ (.of (by omega) g5 (by omega))
theorem Vn (h:G rd l n W k) (hk:k≤22) (hC:Cx rd S n) (hc:T6 rd (kN .u8 S.1.2.1 1)) (ho:mJ rd S.2.1 S.1.2.2.2.1):res (tX (S,(l,()))) (D0 rd n (W++dW S.1.2.2.2.1) (k+7)):=by
 repeat refine aB (by first | exact ae _ | exact af _ | exact ab _ _ | rfl | (with_reducible decide)) ?_
 refine ct (Ur h (by omega) hc) fun ⟨n3,hn3,g3,v3⟩=>?_
 repeat refine aB (by first | exact ae _ | exact af _ | exact ab _ _ | rfl | (with_reducible decide)) ?_
 refine ct (E8 g3 (by omega) (hC.up (by omega)) ho v3) fun ⟨n5,hn5,g5⟩=>?_
 repeat refine aB (by first | exact ae _ | exact af _ | exact ab _ _ | rfl | (with_reducible decide)) ?_
 exact cJ (.of (by omega) g5 (by omega))
theorem OH (h:G rd l n W k) (hk:k≤31) {a b c:aD} (ha:gv rd n a) (hb:gv rd n b):res (nw (S,(l,(a,(b,c))))) (D1 rd n W (k+1)):=by
 repeat refine aB (by first | exact ae _ | exact af _ | exact ab _ _ | rfl | (with_reducible decide)) ?_
 refine gG (fun _=>?_) fun _=>?_
 ·repeat refine aB (by first | exact ae _ | exact af _ | exact ab _ _ | rfl | (with_reducible decide)) ?_
  exact cJ (.of (by omega) h (aK _) (by omega))
 ·repeat refine aB (by first | exact ae _ | exact af _ | exact ab _ _ | rfl | (with_reducible decide)) ?_
  refine dw h (by omega) ⟨by decide,by decide⟩ w1 (jN ha hb) fun g1 v1=>?_
  repeat refine aB (by first | exact ae _ | exact af _ | exact ab _ _ | rfl | (with_reducible decide)) ?_
  exact cJ (.of (by omega) g1 v1 (by omega))
theorem Lv (h:G rd l n W k) (hk:k≤31) {a:aD} (ha:gv rd n a):res (nv (S,(l,a))) (D1 rd n W (k+1)):=by
 repeat refine aB (by first | exact ae _ | exact af _ | exact ab _ _ | rfl | (with_reducible decide)) ?_
 refine dw h (by omega) ⟨by decide,by decide⟩ w1 (jN ha (aK _)) fun g1 v1=>?_
 repeat refine aB (by first | exact ae _ | exact af _ | exact ab _ _ | rfl | (with_reducible decide)) ?_
 exact cJ (.of (by omega) g1 v1 (by omega))
theorem Jf (h:G rd l n W k) (hk:k≤31) (hw:1≤S.2.1∧S.2.1≤8) {a:aD} (ha:gv rd n a):res (nu (S,(l,a))) (D1 rd n W (k+1)):=by
 repeat refine aB (by first | exact ae _ | exact af _ | exact ab _ _ | rfl | (with_reducible decide)) ?_
 refine dw h (by omega) ⟨by decide,by decide⟩ hw (vP ha) fun g1 v1=>?_
 repeat refine aB (by first | exact ae _ | exact af _ | exact ab _ _ | rfl | (with_reducible decide)) ?_
 exact cJ (.of (by omega) g1 v1 (by omega))
theorem So (h:G rd l n W k) (hk:k≤26) (hw:1≤S.2.1∧S.2.1≤8) {x r c:aD} (hx:gv rd n x) (hr:gv rd n r) (hc:gv rd n c):res (nB (S,(l,(x,(r,c))))) (D2 rd n W (k+5)):=by
 repeat refine aB (by first | exact ae _ | exact af _ | exact ab _ _ | rfl | (with_reducible decide)) ?_
 refine gG (fun _=>?_) fun _=>gG (fun _=>?_) fun _=>gG (fun _=>?_) fun _=>gG (fun _=>?_) fun _=>?_
 ·repeat refine aB (by first | exact ae _ | exact af _ | exact ab _ _ | rfl | (with_reducible decide)) ?_
  refine ct (OH h (by omega) (aK _) hc) fun ⟨n1,hn1,g1,v1⟩=>?_
  repeat refine aB (by first | exact ae _ | exact af _ | exact ab _ _ | rfl | (with_reducible decide)) ?_
  refine dw g1 (by omega) ⟨by decide,by decide⟩ hw (jN (bk hn1 hx) v1) fun g2 v2=>?_
  repeat refine aB (by first | exact ae _ | exact af _ | exact ab _ _ | rfl | (with_reducible decide)) ?_
  refine ct (Lv g2 (by omega) v2) fun ⟨n3,hn3,g3,v3⟩=>?_
  repeat refine aB (by first | exact ae _ | exact af _ | exact ab _ _ | rfl | (with_reducible decide)) ?_
  refine ct (Jf g3 (by omega) hw (bk (by omega) hr)) fun ⟨n4,hn4,g4,v4⟩=>?_
  repeat refine aB (by first | exact ae _ | exact af _ | exact ab _ _ | rfl | (with_reducible decide)) ?_
  refine dw g4 (by omega) ⟨by decide,by decide⟩ w1 (jN v4 (bk hn4 v3)) fun g5 v5=>?_
  repeat refine aB (by first | exact ae _ | exact af _ | exact ab _ _ | rfl | (with_reducible decide)) ?_
  exact cJ (.of (by omega) g5 (bk (by omega) v3) v5 (by omega))
 ·repeat refine aB (by first | exact ae _ | exact af _ | exact ab _ _ | rfl | (with_reducible decide)) ?_
  refine ct (OH h (by omega) hc (aK _)) fun ⟨n1,hn1,g1,v1⟩=>?_
  repeat refine aB (by first | exact ae _ | exact af _ | exact ab _ _ | rfl | (with_reducible decide)) ?_
  refine dw g1 (by omega) ⟨by decide,by decide⟩ hw (jN (bk hn1 hx) v1) fun g2 v2=>?_
  repeat refine aB (by first | exact ae _ | exact af _ | exact ab _ _ | rfl | (with_reducible decide)) ?_
  refine ct (Lv g2 (by omega) v2) fun ⟨n3,hn3,g3,v3⟩=>?_
  repeat refine aB (by first | exact ae _ | exact af _ | exact ab _ _ | rfl | (with_reducible decide)) ?_
  refine ct (Jf g3 (by omega) hw (bk (by omega) hx)) fun ⟨n4,hn4,g4,v4⟩=>?_
  repeat refine aB (by first | exact ae _ | exact af _ | exact ab _ _ | rfl | (with_reducible decide)) ?_
  exact cJ (.of (by omega) g4 (bk (by omega) v3) v4 (by omega))
 ·repeat refine aB (by first | exact ae _ | exact af _ | exact ab _ _ | rfl | (with_reducible decide)) ?_
  refine ct (OH h (by omega) hc (aK _)) fun ⟨n1,hn1,g1,v1⟩=>?_
  repeat refine aB (by first | exact ae _ | exact af _ | exact ab _ _ | rfl | (with_reducible decide)) ?_
  refine dw g1 (by omega) ⟨by decide,by decide⟩ hw (jN (bk hn1 hx) v1) fun g2 v2=>?_
  repeat refine aB (by first | exact ae _ | exact af _ | exact ab _ _ | rfl | (with_reducible decide)) ?_
  refine ct (Lv g2 (by omega) v2) fun ⟨n3,hn3,g3,v3⟩=>?_
  repeat refine aB (by first | exact ae _ | exact af _ | exact ab _ _ | rfl | (with_reducible decide)) ?_
  exact cJ (.of (by omega) g3 v3 (aK _) (by omega))
 ·repeat refine aB (by first | exact ae _ | exact af _ | exact ab _ _ | rfl | (with_reducible decide)) ?_
  refine ct (Lv h (by omega) hr) fun ⟨n1,hn1,g1,v1⟩=>?_
  repeat refine aB (by first | exact ae _ | exact af _ | exact ab _ _ | rfl | (with_reducible decide)) ?_
  refine ct (Jf g1 (by omega) hw (bk hn1 hr)) fun ⟨n2,hn2,g2,v2⟩=>?_
  repeat refine aB (by first | exact ae _ | exact af _ | exact ab _ _ | rfl | (with_reducible decide)) ?_
  refine dw g2 (by omega) ⟨by decide,by decide⟩ w1 (jN v2 (bk hn2 v1)) fun g3 v3=>?_
  repeat refine aB (by first | exact ae _ | exact af _ | exact ab _ _ | rfl | (with_reducible decide)) ?_
  exact cJ (.of (by omega) g3 (bk (by omega) v1) v3 (by omega))
 ·repeat refine aB (by first | exact ae _ | exact af _ | exact ab _ _ | rfl | (with_reducible decide)) ?_
  refine ct (Jf h (by omega) hw hr) fun ⟨n1,hn1,g1,v1⟩=>?_
  repeat refine aB (by first | exact ae _ | exact af _ | exact ab _ _ | rfl | (with_reducible decide)) ?_
  refine dw g1 (by omega) ⟨by decide,by decide⟩ hw (jN (bk hn1 hr) (aK _)) fun g2 v2=>?_
  repeat refine aB (by first | exact ae _ | exact af _ | exact ab _ _ | rfl | (with_reducible decide)) ?_
  refine ct (Jf g2 (by omega) hw v2) fun ⟨n3,hn3,g3,v3⟩=>?_
  repeat refine aB (by first | exact ae _ | exact af _ | exact ab _ _ | rfl | (with_reducible decide)) ?_
  refine dw g3 (by omega) ⟨by decide,by decide⟩ w1 (jN (bk (by omega) v1) v3) fun g4 v4=>?_
  repeat refine aB (by first | exact ae _ | exact af _ | exact ab _ _ | rfl | (with_reducible decide)) ?_
  exact cJ (.of (by omega) g4 (bk (by omega) v1) v4 (by omega))
theorem CV (h:G rd l n W k) (hk:k≤900) {c:Int} {v u:aD} (hc:0≤c∧c≤20) (hr:rd c) (hv:gv rd n v) (hu:gv rd n u):res (nA (S,(l,(c,(v,u))))) (D0 rd n (W++[c]) (k+1)):=by
 repeat refine aB (by first | exact ae _ | exact af _ | exact ab _ _ | rfl | (with_reducible decide)) ?_
 refine HJ h (by omega) ⟨by decide,by decide⟩ w8 hc (Nd hv (gw hc.1 ⟨hc.2,hr⟩) hu) fun g1=>?_
 repeat refine aB (by first | exact ae _ | exact af _ | exact ab _ _ | rfl | (with_reducible decide)) ?_
 exact cJ (.of (by omega) g1 (by omega))
theorem Tm {α:Type} {t:Tr α} {Q:α→Prop} {S:St} (h:G rd l n W k) {op w:Int} {vs:List aD} (hl:k≤31) (ho:fP op) (hw:1≤w∧w≤8) (hv:∀ v∈vs,gv rd n v)
  (g:G rd (ba (S,(l,(op,(w,vs))))).1 (n+1) W (k+1)→gv rd (n+1) (ba (S,(l,(op,(w,vs))))).2→(ba (S,(l,(op,(w,vs))))).2=cl n→res t Q):res (.aa (bK (S,(l,(op,(w,vs))))) t) Q:=
 have p:=mk S h hl ho hw hv
 dJ.2 ⟨p.1,g p.2.1 p.2.2 (by rw [(Vb S op w vs h (by omega)).2])⟩
def plain (op:Int):Bool:=dY op 14&&dY op 15
def Qg (S:St):Int:=kx .u64 (aO .u64 S.1.2.2.2.2.1.2.2.2.2.2.2.2) (aO .u64 (gH .i64 8 S.2.1))
def Gj (op:Int) (S:St):List Int:=if S.1.2.2.2.2.1.1≠1∧Qg S=0 then dW S.1.2.2.2.1 else dW S.1.2.2.2.1++[16]++[19]++(if plain op=true then [17]++[18]++[20] else [])
structure Ih (rd:Int→Prop) (op:Int):Prop where
 cx:rd 1
 c:rd 16
 o:rd 19
 p:plain op=true→rd 17∧rd 18∧rd 20
theorem Sm (h:G rd l n W k) (hk:k≤12) (hC:Cx rd S n) (hA:ji rd S.1.2.2.2.1) (ho:mJ rd S.2.1 S.1.2.2.2.1) {op:Int} (hop:fP op) (hB:S.1.2.2.2.2.1.1=1→Ih rd op) (h9:aO .u64 (gH .i64 8 S.2.1)≠0):
  res (tN (S,(l,op))) (D0 rd n (W++Gj op S) (k+19)):=by
 have plT:dY op 14=true→dY op 15=true→plain op=true:=fun a b=>by unfold plain;rw [a,b];rfl
 have plF:(dY op 14=false∨dY op 15=false)→plain op=false:=fun a=>by
  unfold plain;rcases a with a | a<;>rw [a]
  ·rfl
  ·rw [Bool.and_false]
 repeat refine aB (by first | exact ae _ | exact af _ | exact ab _ _ | rfl | (with_reducible decide)) ?_
 refine ct (CU h (by omega) hC.w hA hC.a) fun ⟨n1,hn1,g1,v1⟩=>?_
 repeat refine aB (by first | exact ae _ | exact af _ | exact ab _ _ | rfl | (with_reducible decide)) ?_
 refine aB h9 ?_
 repeat refine aB (by first | exact ae _ | exact af _ | exact ab _ _ | rfl | (with_reducible decide)) ?_
 refine gG (fun hb=>?_) fun hb=>?_
 ·have hb:S.1.2.2.2.2.1.1=1:=aH.1 hb
  have hR:=hB hb
  have e0:W++Gj op S=W++dW S.1.2.2.2.1++[16]++[19]++(if plain op=true then [17]++[18]++[20] else []):=by
   unfold Gj;rw [if_neg (by rintro ⟨h,_⟩;exact h hb)];simp only [List.append_assoc]
  rw [e0]
  repeat refine aB (by first | exact ae _ | exact af _ | exact ab _ _ | rfl | (with_reducible decide)) ?_
  refine Tm g1 (by omega) ⟨by decide,by decide⟩ w1 (jN (gw (by decide) ⟨by decide,hR.cx⟩) (aK _)) fun g2 v2 e2=>?_
  repeat refine aB (by first | exact ae _ | exact af _ | exact ab _ _ | rfl | (with_reducible decide)) ?_
  refine gG (fun h1=>?_) fun _=>?_
  ·have h3:=e2.symm.trans ((kF (c:=aq) rfl).1 h1)
   have h4:false=true:=congrArg Prod.fst h3
   cases h4
  repeat refine aB (by first | exact ae _ | exact af _ | exact ab _ _ | rfl | (with_reducible decide)) ?_
  refine dw g2 (by omega) hop hC.w (jN (bk (by omega) v1) v2) fun g3 v3=>?_
  repeat refine aB (by first | exact ae _ | exact af _ | exact ab _ _ | rfl | (with_reducible decide)) ?_
  refine ct (So g3 (by omega) hC.w (bk (by omega) v1) v3 (bk (by omega) v2)) fun ⟨n4,hn4,g4,v4,u4⟩=>?_
  repeat refine aB (by first | exact ae _ | exact af _ | exact ab _ _ | rfl | (with_reducible decide)) ?_
  refine ct (E8 g4 (by omega) (hC.up (by omega)) ho (bk (by omega) v3)) fun ⟨n5,hn5,g5⟩=>?_
  have nf:∀ {P:Prop} {b:Bool},b=true→b=(cl n1).1→P:=fun h1 h2=>by rw [h2] at h1;cases h1
  repeat refine aB (by first | exact ae _ | exact af _ | exact ab _ _ | rfl | (with_reducible decide)) ?_
  refine gG (fun h1=>?_) fun h1=>?_
  ·have h1:dY op 14=true:=by simpa using h1
   repeat refine aB (by first | exact ae _ | exact af _ | exact ab _ _ | rfl | (with_reducible decide)) ?_
   refine gG (fun h2=>nf h2 (congrArg Prod.fst e2)) fun _=>?_
   repeat refine aB (by first | exact ae _ | exact af _ | exact ab _ _ | rfl | (with_reducible decide)) ?_
   refine ct (CV g5 (by omega) ⟨by decide,by decide⟩ hR.c (bk (by omega) v4) (bk (by omega) v2)) fun ⟨n6,hn6,g6⟩=>?_
   repeat refine aB (by first | exact ae _ | exact af _ | exact ab _ _ | rfl | (with_reducible decide)) ?_
   refine ct (CV g6 (by omega) ⟨by decide,by decide⟩ hR.o (bk (by omega) u4) (bk (by omega) v2)) fun ⟨n7,hn7,g7⟩=>?_
   repeat refine aB (by first | exact ae _ | exact af _ | exact ab _ _ | rfl | (with_reducible decide)) ?_
   refine gG (fun h3=>?_) fun h3=>?_
   ·have hp:=plT h1 h3
    have hrp:=hR.p hp
    rw [if_pos hp]
    repeat refine aB (by first | exact ae _ | exact af _ | exact ab _ _ | rfl | (with_reducible decide)) ?_
    refine dw g7 (by omega) ⟨by decide,by decide⟩ hC.w (vP (bk (by omega) v3)) fun g8 v8=>?_
    repeat refine aB (by first | exact ae _ | exact af _ | exact ab _ _ | rfl | (with_reducible decide)) ?_
    refine dw g8 (by omega) ⟨by decide,by decide⟩ hC.w (vP (bk (by omega) v3)) fun g9 v9=>?_
    repeat refine aB (by first | exact ae _ | exact af _ | exact ab _ _ | rfl | (with_reducible decide)) ?_
    refine dw g9 (by omega) ⟨by decide,by decide⟩ hC.w (vP (bk (by omega) v3)) fun g10 v10=>?_
    repeat refine aB (by first | exact ae _ | exact af _ | exact ab _ _ | rfl | (with_reducible decide)) ?_
    refine ct (CV g10 (by omega) ⟨by decide,by decide⟩ hrp.1 (bk (by omega) v8) (bk (by omega) v2)) fun ⟨n11,hn11,g11⟩=>?_
    repeat refine aB (by first | exact ae _ | exact af _ | exact ab _ _ | rfl | (with_reducible decide)) ?_
    refine ct (CV g11 (by omega) ⟨by decide,by decide⟩ hrp.2.1 (bk (by omega) v9) (bk (by omega) v2)) fun ⟨n12,hn12,g12⟩=>?_
    repeat refine aB (by first | exact ae _ | exact af _ | exact ab _ _ | rfl | (with_reducible decide)) ?_
    refine ct (CV g12 (by omega) ⟨by decide,by decide⟩ hrp.2.2 (bk (by omega) v10) (bk (by omega) v2)) fun ⟨n13,hn13,g13⟩=>?_
    repeat refine aB (by first | exact ae _ | exact af _ | exact ab _ _ | rfl | (with_reducible decide)) ?_
    refine cJ (.of (n':=n13) (k:=k+1+1+1+5+3+1+1+1+1+1+1+1+1) (by omega) ?_ (by omega))
    simp only [← List.append_assoc]
    exact g13
   ·have hp:=plF (.inr h3)
    rw [if_neg (by rw [hp];decide),List.append_nil]
    repeat refine aB (by first | exact ae _ | exact af _ | exact ab _ _ | rfl | (with_reducible decide)) ?_
    exact cJ (.of (by omega) g7 (by omega))
  ·have h1:dY op 14=false:=by simpa using h1
   repeat refine aB (by first | exact ae _ | exact af _ | exact ab _ _ | rfl | (with_reducible decide)) ?_
   refine gG (fun h2=>nf h2 (congrArg Prod.fst e2)) fun _=>?_
   have hp:=plF (.inl h1)
   rw [if_neg (by rw [hp];decide),List.append_nil]
   repeat refine aB (by first | exact ae _ | exact af _ | exact ab _ _ | rfl | (with_reducible decide)) ?_
   refine ct (CV g5 (by omega) ⟨by decide,by decide⟩ hR.c (bk (by omega) v4) (bk (by omega) v2)) fun ⟨n6,hn6,g6⟩=>?_
   repeat refine aB (by first | exact ae _ | exact af _ | exact ab _ _ | rfl | (with_reducible decide)) ?_
   refine ct (CV g6 (by omega) ⟨by decide,by decide⟩ hR.o (bk (by omega) u4) (bk (by omega) v2)) fun ⟨n7,hn7,g7⟩=>?_
   repeat refine aB (by first | exact ae _ | exact af _ | exact ab _ _ | rfl | (with_reducible decide)) ?_
   exact cJ (.of (by omega) g7 (by omega))
 ·have hb:S.1.2.2.2.2.1.1≠1:=dZ.1 hb
  repeat refine aB (by first | exact ae _ | exact af _ | exact ab _ _ | rfl | (with_reducible decide)) ?_
  refine gG (fun h1=>?_) fun h1=>?_
  ·have h1:Qg S=0:=congrArg (fun v:aD=>v.2.2) ((kF (c:=aq) rfl).1 h1)
   have e0:W++Gj op S=W++dW S.1.2.2.2.1:=by unfold Gj;rw [if_pos ⟨hb,h1⟩]
   rw [e0]
   repeat refine aB (by first | exact ae _ | exact af _ | exact ab _ _ | rfl | (with_reducible decide)) ?_
   refine dw g1 (by omega) ⟨by decide,by decide⟩ hC.w (vP v1) fun g2 v2=>?_
   repeat refine aB (by first | exact ae _ | exact af _ | exact ab _ _ | rfl | (with_reducible decide)) ?_
   refine ct (E8 g2 (by omega) (hC.up (by omega)) ho v2) fun ⟨n5,hn5,g5⟩=>?_
   repeat refine aB (by first | exact ae _ | exact af _ | exact ab _ _ | rfl | (with_reducible decide)) ?_
   exact cJ (.of (by omega) g5 (by omega))
  ·have h1:Qg S≠0:=fun e=>by
    have:dm aq (wd (Qg S)) (wd 0)=true:=by rw [e];exact lL (c:=aq) rfl _
    rw [show dm aq (wd (Qg S)) (wd 0)=false from h1] at this;cases this
   have e0:W++Gj op S=W++dW S.1.2.2.2.1++[16]++[19]++(if plain op=true then [17]++[18]++[20] else []):=by
    unfold Gj;rw [if_neg (by rintro ⟨_,h⟩;exact h1 h)];simp only [List.append_assoc]
   rw [e0]
   repeat refine aB (by first | exact ae _ | exact af _ | exact ab _ _ | rfl | (with_reducible decide)) ?_
   refine dw g1 (by omega) hop hC.w (jN v1 (aK _)) fun g3 v3=>?_
   repeat refine aB (by first | exact ae _ | exact af _ | exact ab _ _ | rfl | (with_reducible decide)) ?_
   refine ct (So g3 (by omega) hC.w (bk (by omega) v1) v3 (aK _)) fun ⟨n4,hn4,g4,v4,u4⟩=>?_
   repeat refine aB (by first | exact ae _ | exact af _ | exact ab _ _ | rfl | (with_reducible decide)) ?_
   refine ct (E8 g4 (by omega) (hC.up (by omega)) ho (bk (by omega) v3)) fun ⟨n5,hn5,g5⟩=>?_
   have nt:∀ {P:Prop} {b:Bool},b=false→b=(wd (Qg S)).1→P:=fun h1 h2=>by rw [h2] at h1;cases h1
   repeat refine aB (by first | exact ae _ | exact af _ | exact ab _ _ | rfl | (with_reducible decide)) ?_
   refine gG (fun h2=>?_) fun h2=>?_
   ·have h2:dY op 14=true:=by simpa using h2
    repeat refine aB (by first | exact ae _ | exact af _ | exact ab _ _ | rfl | (with_reducible decide)) ?_
    refine gG (fun _=>?_) fun h3=>nt h3 rfl
    repeat refine aB (by first | exact ae _ | exact af _ | exact ab _ _ | rfl | (with_reducible decide)) ?_
    refine ct (MA g5 (by omega) (bk (by omega) v4) (bk (by omega) u4)) fun ⟨n6,hn6,g6⟩=>?_
    repeat refine aB (by first | exact ae _ | exact af _ | exact ab _ _ | rfl | (with_reducible decide)) ?_
    refine gG (fun h3=>?_) fun h3=>?_
    ·have hp:=plT h2 h3
     rw [if_pos hp]
     repeat refine aB (by first | exact ae _ | exact af _ | exact ab _ _ | rfl | (with_reducible decide)) ?_
     refine ct (Mz g6 (by omega) hC.w (bk (by omega) v3)) fun ⟨n7,hn7,g7⟩=>?_
     repeat refine aB (by first | exact ae _ | exact af _ | exact ab _ _ | rfl | (with_reducible decide)) ?_
     refine cJ (.of (n':=n7) (k:=k+1+1+5+3+2+3) (by omega) ?_ (by omega))
     simp only [← List.append_assoc]
     exact g7
    ·have hp:=plF (.inr h3)
     rw [if_neg (by rw [hp];decide),List.append_nil]
     repeat refine aB (by first | exact ae _ | exact af _ | exact ab _ _ | rfl | (with_reducible decide)) ?_
     exact cJ (.of (by omega) g6 (by omega))
   ·have h2:dY op 14=false:=by simpa using h2
    repeat refine aB (by first | exact ae _ | exact af _ | exact ab _ _ | rfl | (with_reducible decide)) ?_
    refine gG (fun _=>?_) fun h3=>nt h3 rfl
    have hp:=plF (.inl h2)
    rw [if_neg (by rw [hp];decide),List.append_nil]
    repeat refine aB (by first | exact ae _ | exact af _ | exact ab _ _ | rfl | (with_reducible decide)) ?_
    refine ct (MA g5 (by omega) (bk (by omega) v4) (bk (by omega) u4)) fun ⟨n6,hn6,g6⟩=>?_
    repeat refine aB (by first | exact ae _ | exact af _ | exact ab _ _ | rfl | (with_reducible decide)) ?_
    exact cJ (.of (by omega) g6 (by omega))
end Go.bM.RL
end
section
namespace Go.bM.RL
open Go.bM Go.RowKit
variable {rd:Int→Prop} {l:L} {n:Int} {W:List Int} {k:Nat} {S:St}
theorem Vy (h:G rd l n W k) (hk:k≤12) (hC:Cx rd S n) (hA:ji rd S.1.2.2.2.1) (ho:mJ rd S.2.1 S.1.2.2.2.1) (hB:S.1.2.2.2.2.1.1=1→Ih rd 11) (h9:aO .u64 (gH .i64 8 S.2.1)≠0):res (um (S,(l,()))) (D0 rd n (W++Gj 11 S) (k+19)):=by
 repeat refine aB (by first | exact ae _ | exact af _ | exact ab _ _ | rfl | (with_reducible decide)) ?_
 refine ct (Sm h hk hC hA ho ⟨by decide,by decide⟩ hB h9) fun ⟨n1,hn1,g1⟩=>?_
 repeat refine aB (by first | exact ae _ | exact af _ | exact ab _ _ | rfl | (with_reducible decide)) ?_
 exact cJ (.of hn1 g1 (by omega))
theorem Vx (h:G rd l n W k) (hk:k≤12) (hC:Cx rd S n) (hA:ji rd S.1.2.2.2.1) (ho:mJ rd S.2.1 S.1.2.2.2.1) (hB:S.1.2.2.2.2.1.1=1→Ih rd 12) (h9:aO .u64 (gH .i64 8 S.2.1)≠0):res (uk (S,(l,()))) (D0 rd n (W++Gj 12 S) (k+19)):=by
 repeat refine aB (by first | exact ae _ | exact af _ | exact ab _ _ | rfl | (with_reducible decide)) ?_
 refine ct (Sm h hk hC hA ho ⟨by decide,by decide⟩ hB h9) fun ⟨n1,hn1,g1⟩=>?_
 repeat refine aB (by first | exact ae _ | exact af _ | exact ab _ _ | rfl | (with_reducible decide)) ?_
 exact cJ (.of hn1 g1 (by omega))
theorem Vw (h:G rd l n W k) (hk:k≤12) (hC:Cx rd S n) (hA:ji rd S.1.2.2.2.1) (ho:mJ rd S.2.1 S.1.2.2.2.1) (hB:S.1.2.2.2.2.1.1=1→Ih rd 13) (h9:aO .u64 (gH .i64 8 S.2.1)≠0):res (uj (S,(l,()))) (D0 rd n (W++Gj 13 S) (k+19)):=by
 repeat refine aB (by first | exact ae _ | exact af _ | exact ab _ _ | rfl | (with_reducible decide)) ?_
 refine ct (Sm h hk hC hA ho ⟨by decide,by decide⟩ hB h9) fun ⟨n1,hn1,g1⟩=>?_
 repeat refine aB (by first | exact ae _ | exact af _ | exact ab _ _ | rfl | (with_reducible decide)) ?_
 exact cJ (.of hn1 g1 (by omega))
theorem Vv (h:G rd l n W k) (hk:k≤12) (hC:Cx rd S n) (hA:ji rd S.1.2.2.2.1) (ho:mJ rd S.2.1 S.1.2.2.2.1) (hB:S.1.2.2.2.2.1.1=1→Ih rd 14) (h9:aO .u64 (gH .i64 8 S.2.1)≠0):res (ug (S,(l,()))) (D0 rd n (W++Gj 14 S) (k+19)):=by
 repeat refine aB (by first | exact ae _ | exact af _ | exact ab _ _ | rfl | (with_reducible decide)) ?_
 refine ct (Sm h hk hC hA ho ⟨by decide,by decide⟩ hB h9) fun ⟨n1,hn1,g1⟩=>?_
 repeat refine aB (by first | exact ae _ | exact af _ | exact ab _ _ | rfl | (with_reducible decide)) ?_
 exact cJ (.of hn1 g1 (by omega))
theorem Vu (h:G rd l n W k) (hk:k≤12) (hC:Cx rd S n) (hA:ji rd S.1.2.2.2.1) (ho:mJ rd S.2.1 S.1.2.2.2.1) (hB:S.1.2.2.2.2.1.1=1→Ih rd 15) (h9:aO .u64 (gH .i64 8 S.2.1)≠0):res (uf (S,(l,()))) (D0 rd n (W++Gj 15 S) (k+19)):=by
 repeat refine aB (by first | exact ae _ | exact af _ | exact ab _ _ | rfl | (with_reducible decide)) ?_
 refine ct (Sm h hk hC hA ho ⟨by decide,by decide⟩ hB h9) fun ⟨n1,hn1,g1⟩=>?_
 repeat refine aB (by first | exact ae _ | exact af _ | exact ab _ _ | rfl | (with_reducible decide)) ?_
 exact cJ (.of hn1 g1 (by omega))
theorem Sn (h:G rd l n W k) (hk:k≤900) (ha:gv rd n S.2.2.2.2.1) (hb:gv rd n S.2.2.2.2.2.1) (hv:35≤S.1.1∧S.1.1≤39∧pre6 S.1∧Ig S.1=true):res (tU (S,(l,()))) (D0 rd n W (k+1)):=by
 have hl:=h.len
 have one:∀ {at':aD},gv rd n at'→∀ r:L×Unit,r=(l++[dd 31 16 0 at' (wd 0) (wd 0)],())→
   (0:Int)≤ie .i64 (r.1.length:Int) 1∧ie .i64 (r.1.length:Int) 1 < (r.1.length:Int)∧0 < r.1.length∧(ie .i64 (r.1.length:Int) 1).toNat < r.1.length∧
   D0 rd n W (k+1) (r.1.set (ie .i64 (r.1.length:Int) 1).toNat ((gh aR r.1 (ie .i64 (r.1.length:Int) 1).toNat).1,((gh aR r.1 (ie .i64 (r.1.length:Int) 1).toNat).2.1,((gh aR r.1 (ie .i64 (r.1.length:Int) 1).toNat).2.2.1,((gh aR r.1 (ie .i64 (r.1.length:Int) 1).toNat).2.2.2.1,((gh aR r.1 (ie .i64 (r.1.length:Int) 1).toNat).2.2.2.2.1,((gh aR r.1 (ie .i64 (r.1.length:Int) 1).toNat).2.2.2.2.2.1,S.1)))))),()):=by
  intro at' hat r hr
  subst hr
  have e1:ie .i64 (((l++[dd 31 16 0 at' (wd 0) (wd 0)]).length:Nat):Int) 1=(l.length:Int):=by
   rw [List.length_append,List.length_singleton,vk (by omega) (by omega)];omega
  show (0:Int)≤ie .i64 (((l++[dd 31 16 0 at' (wd 0) (wd 0)]).length:Nat):Int) 1∧_
  simp only [e1,Int.toNat_natCast]
  have e2:gh aR (l++[dd 31 16 0 at' (wd 0) (wd 0)]) l.length=dd 31 16 0 at' (wd 0) (wd 0):=by
   rw [fQ (c:=aR) (by simp)];simp
  rw [e2]
  refine ⟨by omega,by rw [List.length_append,List.length_singleton];omega,by rw [List.length_append,List.length_singleton];omega,by rw [List.length_append,List.length_singleton];omega,n,Int.le_refl _,?_,?_⟩
  ·have:=h.Mi.app (.vec hat hv (.nil n))
   rw [List.append_nil] at this
   simpa [dd] using this
  ·simp;omega
 repeat refine aB (by first | exact ae _ | exact af _ | exact ab _ _ | rfl | (with_reducible decide)) ?_
 refine gG (fun h1=>?_) fun h1=>?_
 ·repeat refine aB (by first | exact ae _ | exact af _ | exact ab _ _ | rfl | (with_reducible decide)) ?_
  refine aB (Lu S l 31 16 0 [S.2.2.2.2.1] (by omega)).1 ?_
  have hh:=one ha _ (Lu S l 31 16 0 [S.2.2.2.2.1] (by omega)).2
  repeat refine aB (by first | exact ae _ | exact af _ | exact ab _ _ | rfl | (with_reducible decide)) ?_
  refine aB hh.1 (aB hh.2.1 ?_)
  repeat refine aB (by first | exact ae _ | exact af _ | exact ab _ _ | rfl | (with_reducible decide)) ?_
  refine aB hh.2.2.1 (aB hh.2.2.2.1 (aB (List.length_set ..).symm ?_))
  repeat refine aB (by first | exact ae _ | exact af _ | exact ab _ _ | rfl | (with_reducible decide)) ?_
  exact cJ hh.2.2.2.2
 ·repeat refine aB (by first | exact ae _ | exact af _ | exact ab _ _ | rfl | (with_reducible decide)) ?_
  refine aB (Lu S l 31 16 0 [S.2.2.2.2.2.1] (by omega)).1 ?_
  have hh:=one hb _ (Lu S l 31 16 0 [S.2.2.2.2.2.1] (by omega)).2
  repeat refine aB (by first | exact ae _ | exact af _ | exact ab _ _ | rfl | (with_reducible decide)) ?_
  refine aB hh.1 (aB hh.2.1 ?_)
  repeat refine aB (by first | exact ae _ | exact af _ | exact ab _ _ | rfl | (with_reducible decide)) ?_
  refine aB hh.2.2.1 (aB hh.2.2.2.1 (aB (List.length_set ..).symm ?_))
  repeat refine aB (by first | exact ae _ | exact af _ | exact ab _ _ | rfl | (with_reducible decide)) ?_
  exact cJ hh.2.2.2.2
def aX (c:Bool) (x:DI):List Int:=if c=true then dW x.2.2.2.1 else []
def Qf (x:DI):List Int:=Gj (x.1 - 5) (x,(x.2.2.1,((),(0,(wd 0,(wd 0,(wd 0,wd 0)))))))
inductive LW (x:DI):List Int→Prop where
 | put (h:x.1=1∨x.1=2∨x.1=15∨x.1=30∨x.1=31∨x.1=32∨x.1=33):LW x (dW x.2.2.2.1)
 | sum (h:x.1=3∨x.1=5∨x.1=6∨x.1=8∨x.1=10∨x.1=14):LW x (aX (dY x.1 10) x++[16]++[19]++[17]++[18]++[20])
 | bit (h:x.1=4∨x.1=7∨x.1=9∨x.1=11):LW x (aX (dY x.1 11) x++[16]++[19]++[17]++[18]++[20])
 | one (h:x.1=12∨x.1=13):LW x (dW x.2.2.2.1++[19]++[17]++[18]++[20])
 | gH (h:x.1=21):LW x (dW x.2.2.2.1++[16]++[19]++[17]++[18]++[20])
 | mul (h:x.1=22):LW x ([0]++[2]++[16]++[19]++[17]++[18]++[20])
 | div (h:x.1=23):LW x ([0]++[2])
 | shift (h:16≤x.1∧x.1≤20):LW x (Qf x)
 | push (h:x.1=24∨x.1=26∨x.1=27):LW x [4]
 | pop (h:x.1=25):LW x ([4]++dW x.2.2.2.1)
 | no (h:x.1=28∨x.1=29∨34≤x.1):LW x []
structure XR (rd:Int→Prop) (x:DI):Prop where
 right:qm x=true
 uS:pre6 x∧Ig x=true
 VQ:1≤x.1∧x.1≤39
 oA:T5 rd x.2.2.2.1
 oB:T5 rd x.2.2.2.2.1
 w:x.1≤34→1≤x.2.2.1∧x.2.2.1≤8
 w8:16≤x.1→x.1≤20→aO .u64 (gH .i64 8 x.2.2.1)≠0
 both:(3≤x.1∧x.1≤11)∨x.1=21→eV x=false→ji rd x.2.2.2.1∧ji rd x.2.2.2.2.1
 tA:(12≤x.1∧x.1≤20)∨x.1=22∨x.1=23∨x.1=24∨x.1=28∨x.1=30→ji rd x.2.2.2.1
 tB:x.1=1∨x.1=30∨x.1=32∨x.1=33→ji rd x.2.2.2.2.1
 pt:(1≤x.1∧x.1≤21∧x.1≠10∧x.1≠11)∨(30≤x.1∧x.1≤33)→mJ rd x.2.2.1 x.2.2.2.1
 pop:x.1=25→mJ rd 8 x.2.2.2.1
 cf:x.1=5∨x.1=6→rd 16
 cc:29≤x.1→x.1≤31→T6 rd (kN .u8 x.2.1 1)
 sh:16≤x.1→x.1≤20→x.2.2.2.2.1.1=1→Ih rd (x.1 - 5)
 ax:x.1=22∨x.1=23→rd 0
 dx:x.1=23→rd 2
 sp:24≤x.1→x.1≤27→rd 4
def vU (x:DI×Int):Int:=aU .u64 x.2 (aO .u64 x.1.2.2.2.2.2.2)
def eu (rd:Int→Prop) (x:DI×Int) (r:L×Int):Prop:=
 r.2=0∧∃ l n W far cd,r.1=l++[dd 30 8 0 far (wd (vU x)) cd]∧G rd l n W 30∧gv rd n far∧gv rd n cd∧LW x.1 W
theorem ke {α:Type} {t:Tr α} {Q:α→Prop} (h:G rd l n W k) (hk:k≤900) {far nx cd:aD} (g:cD (S,(l,(30,(8,(0,[far,nx,cd])))))=(l++[dd 30 8 0 far nx cd],())→res t Q):res (.aa (bI (S,(l,(30,(8,(0,[far,nx,cd])))))) t) Q:=by
 have hl:=h.len
 have p:=Lu S l 30 8 0 [far,nx,cd] (by omega)
 exact aB p.1 (g p.2)
theorem AR:JB ():=trivial
def S1 (x:DI×Int):St:=(x.1,(x.1.2.2.1,((),(vU x,((false,(0,0)),((false,(0,0)),(wd (vU x),wd 1)))))))
noncomputable def A1 (x:DI×Int):L×aD:=aS (S1 x,([],x.1.2.2.2.1))
noncomputable def S2 (x:DI×Int):St:=(x.1,(x.1.2.2.1,((),(vU x,((A1 x).2,((false,(0,0)),(wd (vU x),wd 1)))))))
noncomputable def A2 (x:DI×Int):L×aD:=aS (S2 x,((A1 x).1,x.1.2.2.2.2.1))
structure Pr (rd:Int→Prop) (x:DI×Int) (n:Int):Prop where
 g:G rd (A2 x).1 n [] 6
 a:gv rd n (A1 x).2
 b:gv rd n (A2 x).2
variable {x:DI×Int}
theorem Up (hX:XR rd x.1) (hd:x.1.1=1) (p:Pr rd x n):res (FC x) (eu rd x):=by
 obtain ⟨g2,v1,v2⟩:=p
 repeat refine aB (by first | exact ae _ | exact af _ | exact ab _ _ | rfl | (with_reducible decide)) ?_
 refine ct (VJ g2 (by omega) ?_ ?_ ?_) fun ⟨n3,hn3,g3⟩=>?_
 ·exact ⟨hX.w (by omega),v1,v2⟩
 ·exact hX.tB (by omega)
 ·exact hX.pt (by omega)
 repeat refine aB (by first | exact ae _ | exact af _ | exact ab _ _ | rfl | (with_reducible decide)) ?_
 refine ke g3 (by omega) fun e3=>?_
 repeat refine aB (by first | exact ae _ | exact af _ | exact ab _ _ | rfl | (with_reducible decide)) ?_
 exact cJ ⟨rfl,_,_,_,_,_,congrArg Prod.fst e3,g3.wk (by omega),aK _,aK _,LW.put (by omega)⟩
theorem Uo (hX:XR rd x.1) (hd:x.1.1=2) (p:Pr rd x n):res (FB x) (eu rd x):=by
 obtain ⟨g2,v1,v2⟩:=p
 repeat refine aB (by first | exact ae _ | exact af _ | exact ab _ _ | rfl | (with_reducible decide)) ?_
 refine ct (VI g2 (by omega) ?_ ?_) fun ⟨n3,hn3,g3⟩=>?_
 ·exact ⟨hX.w (by omega),v1,v2⟩
 ·exact hX.pt (by omega)
 repeat refine aB (by first | exact ae _ | exact af _ | exact ab _ _ | rfl | (with_reducible decide)) ?_
 refine ke g3 (by omega) fun e3=>?_
 repeat refine aB (by first | exact ae _ | exact af _ | exact ab _ _ | rfl | (with_reducible decide)) ?_
 exact cJ ⟨rfl,_,_,_,_,_,congrArg Prod.fst e3,g3.wk (by omega),aK _,aK _,LW.put (by omega)⟩
theorem Un (hX:XR rd x.1) (hd:x.1.1=3) (p:Pr rd x n):res (FA x) (eu rd x):=by
 obtain ⟨g2,v1,v2⟩:=p
 repeat refine aB (by first | exact ae _ | exact af _ | exact ab _ _ | rfl | (with_reducible decide)) ?_
 refine ct (VH g2 (by omega) ?_ ?_ ?_ ?_) fun ⟨n3,hn3,g3⟩=>?_
 ·exact ⟨hX.w (by omega),v1,v2⟩
 ·exact fun e=>(hX.both (by omega) e).1
 ·exact fun e=>(hX.both (by omega) e).2
 ·exact fun _=>hX.pt (by omega)
 repeat refine aB (by first | exact ae _ | exact af _ | exact ab _ _ | rfl | (with_reducible decide)) ?_
 refine ke g3 (by omega) fun e3=>?_
 repeat refine aB (by first | exact ae _ | exact af _ | exact ab _ _ | rfl | (with_reducible decide)) ?_
 exact cJ ⟨rfl,_,_,_,_,_,congrArg Prod.fst e3,g3.wk (by omega),aK _,aK _,LW.sum (by omega)⟩
theorem Ul (hX:XR rd x.1) (hd:x.1.1=5) (p:Pr rd x n):res (Fy x) (eu rd x):=by
 obtain ⟨g2,v1,v2⟩:=p
 repeat refine aB (by first | exact ae _ | exact af _ | exact ab _ _ | rfl | (with_reducible decide)) ?_
 refine ct (VG g2 (by omega) ?_ ?_ ?_ ?_ ?_) fun ⟨n3,hn3,g3⟩=>?_
 ·exact ⟨hX.w (by omega),v1,v2⟩
 ·exact fun e=>(hX.both (by omega) e).1
 ·exact fun e=>(hX.both (by omega) e).2
 ·exact fun _=>hX.pt (by omega)
 ·exact hX.cf (by omega)
 repeat refine aB (by first | exact ae _ | exact af _ | exact ab _ _ | rfl | (with_reducible decide)) ?_
 refine ke g3 (by omega) fun e3=>?_
 repeat refine aB (by first | exact ae _ | exact af _ | exact ab _ _ | rfl | (with_reducible decide)) ?_
 exact cJ ⟨rfl,_,_,_,_,_,congrArg Prod.fst e3,g3.wk (by omega),aK _,aK _,LW.sum (by omega)⟩
theorem Ui (hX:XR rd x.1) (hd:x.1.1=8) (p:Pr rd x n):res (Fv x) (eu rd x):=by
 obtain ⟨g2,v1,v2⟩:=p
 repeat refine aB (by first | exact ae _ | exact af _ | exact ab _ _ | rfl | (with_reducible decide)) ?_
 refine ct (Va g2 (by omega) ?_ ?_ ?_ ?_) fun ⟨n3,hn3,g3⟩=>?_
 ·exact ⟨hX.w (by omega),v1,v2⟩
 ·exact fun e=>(hX.both (by omega) e).1
 ·exact fun e=>(hX.both (by omega) e).2
 ·exact fun _=>hX.pt (by omega)
 repeat refine aB (by first | exact ae _ | exact af _ | exact ab _ _ | rfl | (with_reducible decide)) ?_
 refine ke g3 (by omega) fun e3=>?_
 repeat refine aB (by first | exact ae _ | exact af _ | exact ab _ _ | rfl | (with_reducible decide)) ?_
 exact cJ ⟨rfl,_,_,_,_,_,congrArg Prod.fst e3,g3.wk (by omega),aK _,aK _,LW.sum (by omega)⟩
theorem Uk (hX:XR rd x.1) (hd:x.1.1=6) (p:Pr rd x n):res (Fx x) (eu rd x):=by
 obtain ⟨g2,v1,v2⟩:=p
 repeat refine aB (by first | exact ae _ | exact af _ | exact ab _ _ | rfl | (with_reducible decide)) ?_
 refine ct (VF g2 (by omega) ?_ ?_ ?_ ?_ ?_) fun ⟨n3,hn3,g3⟩=>?_
 ·exact ⟨hX.w (by omega),v1,v2⟩
 ·exact fun e=>(hX.both (by omega) e).1
 ·exact fun e=>(hX.both (by omega) e).2
 ·exact fun _=>hX.pt (by omega)
 ·exact hX.cf (by omega)
 repeat refine aB (by first | exact ae _ | exact af _ | exact ab _ _ | rfl | (with_reducible decide)) ?_
 refine ke g3 (by omega) fun e3=>?_
 repeat refine aB (by first | exact ae _ | exact af _ | exact ab _ _ | rfl | (with_reducible decide)) ?_
 exact cJ ⟨rfl,_,_,_,_,_,congrArg Prod.fst e3,g3.wk (by omega),aK _,aK _,LW.sum (by omega)⟩
theorem Sl (hX:XR rd x.1) (hd:x.1.1=10) (p:Pr rd x n):res (BF x) (eu rd x):=by
 obtain ⟨g2,v1,v2⟩:=p
 repeat refine aB (by first | exact ae _ | exact af _ | exact ab _ _ | rfl | (with_reducible decide)) ?_
 refine ct (Va g2 (by omega) ?_ ?_ ?_ ?_) fun ⟨n3,hn3,g3⟩=>?_
 ·exact ⟨hX.w (by omega),v1,v2⟩
 ·exact fun e=>(hX.both (by omega) e).1
 ·exact fun e=>(hX.both (by omega) e).2
 ·exact fun e=>absurd hd e
 repeat refine aB (by first | exact ae _ | exact af _ | exact ab _ _ | rfl | (with_reducible decide)) ?_
 refine ke g3 (by omega) fun e3=>?_
 repeat refine aB (by first | exact ae _ | exact af _ | exact ab _ _ | rfl | (with_reducible decide)) ?_
 exact cJ ⟨rfl,_,_,_,_,_,congrArg Prod.fst e3,g3.wk (by omega),aK _,aK _,LW.sum (by omega)⟩
theorem Uj (hX:XR rd x.1) (hd:x.1.1=7) (p:Pr rd x n):res (Fw x) (eu rd x):=by
 obtain ⟨g2,v1,v2⟩:=p
 repeat refine aB (by first | exact ae _ | exact af _ | exact ab _ _ | rfl | (with_reducible decide)) ?_
 refine ct (U9 g2 (by omega) ?_ ?_ ?_ ?_) fun ⟨n3,hn3,g3⟩=>?_
 ·exact ⟨hX.w (by omega),v1,v2⟩
 ·exact fun e=>(hX.both (by omega) e).1
 ·exact fun e=>(hX.both (by omega) e).2
 ·exact fun _=>hX.pt (by omega)
 repeat refine aB (by first | exact ae _ | exact af _ | exact ab _ _ | rfl | (with_reducible decide)) ?_
 refine ke g3 (by omega) fun e3=>?_
 repeat refine aB (by first | exact ae _ | exact af _ | exact ab _ _ | rfl | (with_reducible decide)) ?_
 exact cJ ⟨rfl,_,_,_,_,_,congrArg Prod.fst e3,g3.wk (by omega),aK _,aK _,LW.bit (by omega)⟩
theorem Sk (hX:XR rd x.1) (hd:x.1.1=11) (p:Pr rd x n):res (BE x) (eu rd x):=by
 obtain ⟨g2,v1,v2⟩:=p
 repeat refine aB (by first | exact ae _ | exact af _ | exact ab _ _ | rfl | (with_reducible decide)) ?_
 refine ct (U9 g2 (by omega) ?_ ?_ ?_ ?_) fun ⟨n3,hn3,g3⟩=>?_
 ·exact ⟨hX.w (by omega),v1,v2⟩
 ·exact fun e=>(hX.both (by omega) e).1
 ·exact fun e=>(hX.both (by omega) e).2
 ·exact fun e=>absurd hd e
 repeat refine aB (by first | exact ae _ | exact af _ | exact ab _ _ | rfl | (with_reducible decide)) ?_
 refine ke g3 (by omega) fun e3=>?_
 repeat refine aB (by first | exact ae _ | exact af _ | exact ab _ _ | rfl | (with_reducible decide)) ?_
 exact cJ ⟨rfl,_,_,_,_,_,congrArg Prod.fst e3,g3.wk (by omega),aK _,aK _,LW.bit (by omega)⟩
theorem Um (hX:XR rd x.1) (hd:x.1.1=4) (p:Pr rd x n):res (Fz x) (eu rd x):=by
 obtain ⟨g2,v1,v2⟩:=p
 repeat refine aB (by first | exact ae _ | exact af _ | exact ab _ _ | rfl | (with_reducible decide)) ?_
 refine ct (VE g2 (by omega) ?_ ?_ ?_ ?_) fun ⟨n3,hn3,g3⟩=>?_
 ·exact ⟨hX.w (by omega),v1,v2⟩
 ·exact fun e=>(hX.both (by omega) e).1
 ·exact fun e=>(hX.both (by omega) e).2
 ·exact fun _=>hX.pt (by omega)
 repeat refine aB (by first | exact ae _ | exact af _ | exact ab _ _ | rfl | (with_reducible decide)) ?_
 refine ke g3 (by omega) fun e3=>?_
 repeat refine aB (by first | exact ae _ | exact af _ | exact ab _ _ | rfl | (with_reducible decide)) ?_
 exact cJ ⟨rfl,_,_,_,_,_,congrArg Prod.fst e3,g3.wk (by omega),aK _,aK _,LW.bit (by omega)⟩
theorem Uh (hX:XR rd x.1) (hd:x.1.1=9) (p:Pr rd x n):res (Fu x) (eu rd x):=by
 obtain ⟨g2,v1,v2⟩:=p
 repeat refine aB (by first | exact ae _ | exact af _ | exact ab _ _ | rfl | (with_reducible decide)) ?_
 refine ct (VD g2 (by omega) ?_ ?_ ?_ ?_) fun ⟨n3,hn3,g3⟩=>?_
 ·exact ⟨hX.w (by omega),v1,v2⟩
 ·exact fun e=>(hX.both (by omega) e).1
 ·exact fun e=>(hX.both (by omega) e).2
 ·exact fun _=>hX.pt (by omega)
 repeat refine aB (by first | exact ae _ | exact af _ | exact ab _ _ | rfl | (with_reducible decide)) ?_
 refine ke g3 (by omega) fun e3=>?_
 repeat refine aB (by first | exact ae _ | exact af _ | exact ab _ _ | rfl | (with_reducible decide)) ?_
 exact cJ ⟨rfl,_,_,_,_,_,congrArg Prod.fst e3,g3.wk (by omega),aK _,aK _,LW.bit (by omega)⟩
theorem Sj (hX:XR rd x.1) (hd:x.1.1=12) (p:Pr rd x n):res (BD x) (eu rd x):=by
 obtain ⟨g2,v1,v2⟩:=p
 repeat refine aB (by first | exact ae _ | exact af _ | exact ab _ _ | rfl | (with_reducible decide)) ?_
 refine ct (VC g2 (by omega) ?_ ?_ ?_) fun ⟨n3,hn3,g3⟩=>?_
 ·exact ⟨hX.w (by omega),v1,v2⟩
 ·exact hX.tA (by omega)
 ·exact hX.pt (by omega)
 repeat refine aB (by first | exact ae _ | exact af _ | exact ab _ _ | rfl | (with_reducible decide)) ?_
 refine ke g3 (by omega) fun e3=>?_
 repeat refine aB (by first | exact ae _ | exact af _ | exact ab _ _ | rfl | (with_reducible decide)) ?_
 exact cJ ⟨rfl,_,_,_,_,_,congrArg Prod.fst e3,g3.wk (by omega),aK _,aK _,LW.one (by omega)⟩
theorem Si (hX:XR rd x.1) (hd:x.1.1=13) (p:Pr rd x n):res (BC x) (eu rd x):=by
 obtain ⟨g2,v1,v2⟩:=p
 repeat refine aB (by first | exact ae _ | exact af _ | exact ab _ _ | rfl | (with_reducible decide)) ?_
 refine ct (VB g2 (by omega) ?_ ?_ ?_) fun ⟨n3,hn3,g3⟩=>?_
 ·exact ⟨hX.w (by omega),v1,v2⟩
 ·exact hX.tA (by omega)
 ·exact hX.pt (by omega)
 repeat refine aB (by first | exact ae _ | exact af _ | exact ab _ _ | rfl | (with_reducible decide)) ?_
 refine ke g3 (by omega) fun e3=>?_
 repeat refine aB (by first | exact ae _ | exact af _ | exact ab _ _ | rfl | (with_reducible decide)) ?_
 exact cJ ⟨rfl,_,_,_,_,_,congrArg Prod.fst e3,g3.wk (by omega),aK _,aK _,LW.one (by omega)⟩
theorem Sh (hX:XR rd x.1) (hd:x.1.1=14) (p:Pr rd x n):res (BB x) (eu rd x):=by
 obtain ⟨g2,v1,v2⟩:=p
 repeat refine aB (by first | exact ae _ | exact af _ | exact ab _ _ | rfl | (with_reducible decide)) ?_
 refine ct (VA g2 (by omega) ?_ ?_ ?_) fun ⟨n3,hn3,g3⟩=>?_
 ·exact ⟨hX.w (by omega),v1,v2⟩
 ·exact hX.tA (by omega)
 ·exact fun _=>hX.pt (by omega)
 repeat refine aB (by first | exact ae _ | exact af _ | exact ab _ _ | rfl | (with_reducible decide)) ?_
 refine ke g3 (by omega) fun e3=>?_
 repeat refine aB (by first | exact ae _ | exact af _ | exact ab _ _ | rfl | (with_reducible decide)) ?_
 exact cJ ⟨rfl,_,_,_,_,_,congrArg Prod.fst e3,g3.wk (by omega),aK _,aK _,LW.sum (by omega)⟩
theorem Sg (hX:XR rd x.1) (hd:x.1.1=15) (p:Pr rd x n):res (BA x) (eu rd x):=by
 obtain ⟨g2,v1,v2⟩:=p
 repeat refine aB (by first | exact ae _ | exact af _ | exact ab _ _ | rfl | (with_reducible decide)) ?_
 refine ct (Vz g2 (by omega) ?_ ?_ ?_) fun ⟨n3,hn3,g3⟩=>?_
 ·exact ⟨hX.w (by omega),v1,v2⟩
 ·exact hX.tA (by omega)
 ·exact hX.pt (by omega)
 repeat refine aB (by first | exact ae _ | exact af _ | exact ab _ _ | rfl | (with_reducible decide)) ?_
 refine ke g3 (by omega) fun e3=>?_
 repeat refine aB (by first | exact ae _ | exact af _ | exact ab _ _ | rfl | (with_reducible decide)) ?_
 exact cJ ⟨rfl,_,_,_,_,_,congrArg Prod.fst e3,g3.wk (by omega),aK _,aK _,LW.put (by omega)⟩
theorem Sf (hX:XR rd x.1) (hd:x.1.1=16) (p:Pr rd x n):res (Bz x) (eu rd x):=by
 obtain ⟨g2,v1,v2⟩:=p
 have hsh:x.1.2.2.2.2.1.1=1→Ih rd 11:=fun e=>by have h:=hX.sh (by omega) (by omega) e;rw [hd] at h;exact h
 repeat refine aB (by first | exact ae _ | exact af _ | exact ab _ _ | rfl | (with_reducible decide)) ?_
 refine ct (Vy g2 (by omega) ?_ ?_ ?_ ?_ ?_) fun ⟨n3,hn3,g3⟩=>?_
 ·exact ⟨hX.w (by omega),v1,v2⟩
 ·exact hX.tA (by omega)
 ·exact hX.pt (by omega)
 ·exact hsh
 ·exact hX.w8 (by omega) (by omega)
 repeat refine aB (by first | exact ae _ | exact af _ | exact ab _ _ | rfl | (with_reducible decide)) ?_
 refine ke g3 (by omega) fun e3=>?_
 repeat refine aB (by first | exact ae _ | exact af _ | exact ab _ _ | rfl | (with_reducible decide)) ?_
 exact cJ ⟨rfl,_,_,_,_,_,congrArg Prod.fst e3,g3.wk (by omega),aK _,aK _,(by have e:=LW.shift (x:=x.1) (by omega);unfold Qf at e;rw [hd] at e;exact e)⟩
theorem Se (hX:XR rd x.1) (hd:x.1.1=17) (p:Pr rd x n):res (By x) (eu rd x):=by
 obtain ⟨g2,v1,v2⟩:=p
 have hsh:x.1.2.2.2.2.1.1=1→Ih rd 12:=fun e=>by have h:=hX.sh (by omega) (by omega) e;rw [hd] at h;exact h
 repeat refine aB (by first | exact ae _ | exact af _ | exact ab _ _ | rfl | (with_reducible decide)) ?_
 refine ct (Vx g2 (by omega) ?_ ?_ ?_ ?_ ?_) fun ⟨n3,hn3,g3⟩=>?_
 ·exact ⟨hX.w (by omega),v1,v2⟩
 ·exact hX.tA (by omega)
 ·exact hX.pt (by omega)
 ·exact hsh
 ·exact hX.w8 (by omega) (by omega)
 repeat refine aB (by first | exact ae _ | exact af _ | exact ab _ _ | rfl | (with_reducible decide)) ?_
 refine ke g3 (by omega) fun e3=>?_
 repeat refine aB (by first | exact ae _ | exact af _ | exact ab _ _ | rfl | (with_reducible decide)) ?_
 exact cJ ⟨rfl,_,_,_,_,_,congrArg Prod.fst e3,g3.wk (by omega),aK _,aK _,(by have e:=LW.shift (x:=x.1) (by omega);unfold Qf at e;rw [hd] at e;exact e)⟩
theorem Sd (hX:XR rd x.1) (hd:x.1.1=18) (p:Pr rd x n):res (Bx x) (eu rd x):=by
 obtain ⟨g2,v1,v2⟩:=p
 have hsh:x.1.2.2.2.2.1.1=1→Ih rd 13:=fun e=>by have h:=hX.sh (by omega) (by omega) e;rw [hd] at h;exact h
 repeat refine aB (by first | exact ae _ | exact af _ | exact ab _ _ | rfl | (with_reducible decide)) ?_
 refine ct (Vw g2 (by omega) ?_ ?_ ?_ ?_ ?_) fun ⟨n3,hn3,g3⟩=>?_
 ·exact ⟨hX.w (by omega),v1,v2⟩
 ·exact hX.tA (by omega)
 ·exact hX.pt (by omega)
 ·exact hsh
 ·exact hX.w8 (by omega) (by omega)
 repeat refine aB (by first | exact ae _ | exact af _ | exact ab _ _ | rfl | (with_reducible decide)) ?_
 refine ke g3 (by omega) fun e3=>?_
 repeat refine aB (by first | exact ae _ | exact af _ | exact ab _ _ | rfl | (with_reducible decide)) ?_
 exact cJ ⟨rfl,_,_,_,_,_,congrArg Prod.fst e3,g3.wk (by omega),aK _,aK _,(by have e:=LW.shift (x:=x.1) (by omega);unfold Qf at e;rw [hd] at e;exact e)⟩
theorem Sc (hX:XR rd x.1) (hd:x.1.1=19) (p:Pr rd x n):res (Bw x) (eu rd x):=by
 obtain ⟨g2,v1,v2⟩:=p
 have hsh:x.1.2.2.2.2.1.1=1→Ih rd 14:=fun e=>by have h:=hX.sh (by omega) (by omega) e;rw [hd] at h;exact h
 repeat refine aB (by first | exact ae _ | exact af _ | exact ab _ _ | rfl | (with_reducible decide)) ?_
 refine ct (Vv g2 (by omega) ?_ ?_ ?_ ?_ ?_) fun ⟨n3,hn3,g3⟩=>?_
 ·exact ⟨hX.w (by omega),v1,v2⟩
 ·exact hX.tA (by omega)
 ·exact hX.pt (by omega)
 ·exact hsh
 ·exact hX.w8 (by omega) (by omega)
 repeat refine aB (by first | exact ae _ | exact af _ | exact ab _ _ | rfl | (with_reducible decide)) ?_
 refine ke g3 (by omega) fun e3=>?_
 repeat refine aB (by first | exact ae _ | exact af _ | exact ab _ _ | rfl | (with_reducible decide)) ?_
 exact cJ ⟨rfl,_,_,_,_,_,congrArg Prod.fst e3,g3.wk (by omega),aK _,aK _,(by have e:=LW.shift (x:=x.1) (by omega);unfold Qf at e;rw [hd] at e;exact e)⟩
theorem Sb (hX:XR rd x.1) (hd:x.1.1=20) (p:Pr rd x n):res (Bv x) (eu rd x):=by
 obtain ⟨g2,v1,v2⟩:=p
 have hsh:x.1.2.2.2.2.1.1=1→Ih rd 15:=fun e=>by have h:=hX.sh (by omega) (by omega) e;rw [hd] at h;exact h
 repeat refine aB (by first | exact ae _ | exact af _ | exact ab _ _ | rfl | (with_reducible decide)) ?_
 refine ct (Vu g2 (by omega) ?_ ?_ ?_ ?_ ?_) fun ⟨n3,hn3,g3⟩=>?_
 ·exact ⟨hX.w (by omega),v1,v2⟩
 ·exact hX.tA (by omega)
 ·exact hX.pt (by omega)
 ·exact hsh
 ·exact hX.w8 (by omega) (by omega)
 repeat refine aB (by first | exact ae _ | exact af _ | exact ab _ _ | rfl | (with_reducible decide)) ?_
 refine ke g3 (by omega) fun e3=>?_
 repeat refine aB (by first | exact ae _ | exact af _ | exact ab _ _ | rfl | (with_reducible decide)) ?_
 exact cJ ⟨rfl,_,_,_,_,_,congrArg Prod.fst e3,g3.wk (by omega),aK _,aK _,(by have e:=LW.shift (x:=x.1) (by omega);unfold Qf at e;rw [hd] at e;exact e)⟩
theorem Sa (hX:XR rd x.1) (hd:x.1.1=21) (p:Pr rd x n):res (Bu x) (eu rd x):=by
 obtain ⟨g2,v1,v2⟩:=p
 repeat refine aB (by first | exact ae _ | exact af _ | exact ab _ _ | rfl | (with_reducible decide)) ?_
 refine ct (Vt g2 (by omega) ?_ ?_ ?_ ?_) fun ⟨n3,hn3,g3⟩=>?_
 ·exact ⟨hX.w (by omega),v1,v2⟩
 ·exact fun e=>(hX.both (by omega) e).1
 ·exact fun e=>(hX.both (by omega) e).2
 ·exact hX.pt (by omega)
 repeat refine aB (by first | exact ae _ | exact af _ | exact ab _ _ | rfl | (with_reducible decide)) ?_
 refine ke g3 (by omega) fun e3=>?_
 repeat refine aB (by first | exact ae _ | exact af _ | exact ab _ _ | rfl | (with_reducible decide)) ?_
 exact cJ ⟨rfl,_,_,_,_,_,congrArg Prod.fst e3,g3.wk (by omega),aK _,aK _,LW.gH (by omega)⟩
theorem R9 (hX:XR rd x.1) (hd:x.1.1=22) (p:Pr rd x n):res (Bt x) (eu rd x):=by
 obtain ⟨g2,v1,v2⟩:=p
 repeat refine aB (by first | exact ae _ | exact af _ | exact ab _ _ | rfl | (with_reducible decide)) ?_
 refine ct (Vs g2 (by omega) ?_ ?_ ?_) fun ⟨n3,hn3,g3⟩=>?_
 ·exact ⟨hX.w (by omega),v1,v2⟩
 ·exact hX.tA (by omega)
 ·exact hX.ax (by omega)
 repeat refine aB (by first | exact ae _ | exact af _ | exact ab _ _ | rfl | (with_reducible decide)) ?_
 refine ke g3 (by omega) fun e3=>?_
 repeat refine aB (by first | exact ae _ | exact af _ | exact ab _ _ | rfl | (with_reducible decide)) ?_
 exact cJ ⟨rfl,_,_,_,_,_,congrArg Prod.fst e3,g3.wk (by omega),aK _,aK _,LW.mul (by omega)⟩
theorem R8 (hX:XR rd x.1) (hd:x.1.1=23) (p:Pr rd x n):res (Bs x) (eu rd x):=by
 obtain ⟨g2,v1,v2⟩:=p
 repeat refine aB (by first | exact ae _ | exact af _ | exact ab _ _ | rfl | (with_reducible decide)) ?_
 refine ct (Vr g2 (by omega) ?_ ?_ ?_ ?_) fun ⟨n3,hn3,g3⟩=>?_
 ·exact ⟨hX.w (by omega),v1,v2⟩
 ·exact hX.tA (by omega)
 ·exact hX.ax (by omega)
 ·exact hX.dx (by omega)
 repeat refine aB (by first | exact ae _ | exact af _ | exact ab _ _ | rfl | (with_reducible decide)) ?_
 refine ke g3 (by omega) fun e3=>?_
 repeat refine aB (by first | exact ae _ | exact af _ | exact ab _ _ | rfl | (with_reducible decide)) ?_
 exact cJ ⟨rfl,_,_,_,_,_,congrArg Prod.fst e3,g3.wk (by omega),aK _,aK _,LW.div (by omega)⟩
theorem R7 (hX:XR rd x.1) (hd:x.1.1=24) (p:Pr rd x n):res (Br x) (eu rd x):=by
 obtain ⟨g2,v1,v2⟩:=p
 repeat refine aB (by first | exact ae _ | exact af _ | exact ab _ _ | rfl | (with_reducible decide)) ?_
 refine ct (Vq g2 (by omega) ?_ ?_ ?_) fun ⟨n3,hn3,g3⟩=>?_
 ·exact ⟨hX.w (by omega),v1,v2⟩
 ·exact hX.tA (by omega)
 ·exact hX.sp (by omega) (by omega)
 repeat refine aB (by first | exact ae _ | exact af _ | exact ab _ _ | rfl | (with_reducible decide)) ?_
 refine ke g3 (by omega) fun e3=>?_
 repeat refine aB (by first | exact ae _ | exact af _ | exact ab _ _ | rfl | (with_reducible decide)) ?_
 exact cJ ⟨rfl,_,_,_,_,_,congrArg Prod.fst e3,g3.wk (by omega),aK _,aK _,LW.push (by omega)⟩
theorem R6 (hX:XR rd x.1) (hd:x.1.1=25) (p:Pr rd x n):res (Bq x) (eu rd x):=by
 obtain ⟨g2,v1,v2⟩:=p
 repeat refine aB (by first | exact ae _ | exact af _ | exact ab _ _ | rfl | (with_reducible decide)) ?_
 refine ct (Vp g2 (by omega) ?_ ?_ ?_) fun ⟨n3,hn3,g3⟩=>?_
 ·exact ⟨hX.w (by omega),v1,v2⟩
 ·exact hX.pop (by omega)
 ·exact hX.sp (by omega) (by omega)
 repeat refine aB (by first | exact ae _ | exact af _ | exact ab _ _ | rfl | (with_reducible decide)) ?_
 refine ke g3 (by omega) fun e3=>?_
 repeat refine aB (by first | exact ae _ | exact af _ | exact ab _ _ | rfl | (with_reducible decide)) ?_
 exact cJ ⟨rfl,_,_,_,_,_,congrArg Prod.fst e3,g3.wk (by omega),aK _,aK _,LW.pop (by omega)⟩
theorem R5 (hX:XR rd x.1) (hd:x.1.1=26) (p:Pr rd x n):res (Bp x) (eu rd x):=by
 obtain ⟨g2,v1,v2⟩:=p
 repeat refine aB (by first | exact ae _ | exact af _ | exact ab _ _ | rfl | (with_reducible decide)) ?_
 refine ct (U5 g2 (by omega) (hX.sp (by omega) (by omega)) (aK _)) fun ⟨n3,hn3,g3⟩=>?_
 repeat refine aB (by first | exact ae _ | exact af _ | exact ab _ _ | rfl | (with_reducible decide)) ?_
 refine ct (Us g3) fun ⟨n4,hn4,g4,v4⟩=>?_
 repeat refine aB (by first | exact ae _ | exact af _ | exact ab _ _ | rfl | (with_reducible decide)) ?_
 refine ke g4 (by omega) fun e3=>?_
 repeat refine aB (by first | exact ae _ | exact af _ | exact ab _ _ | rfl | (with_reducible decide)) ?_
 exact cJ ⟨rfl,_,_,_,_,_,congrArg Prod.fst e3,g4.wk (by omega),v4,aK _,LW.push (by omega)⟩
theorem R4 (hX:XR rd x.1) (hd:x.1.1=27) (p:Pr rd x n):res (Bo x) (eu rd x):=by
 obtain ⟨g2,v1,v2⟩:=p
 repeat refine aB (by first | exact ae _ | exact af _ | exact ab _ _ | rfl | (with_reducible decide)) ?_
 refine ct (U3 g2 (by omega) (hX.sp (by omega) (by omega))) fun ⟨n3,hn3,g3,v3⟩=>?_
 repeat refine aB (by first | exact ae _ | exact af _ | exact ab _ _ | rfl | (with_reducible decide)) ?_
 refine ke g3 (by omega) fun e3=>?_
 repeat refine aB (by first | exact ae _ | exact af _ | exact ab _ _ | rfl | (with_reducible decide)) ?_
 exact cJ ⟨rfl,_,_,_,_,_,congrArg Prod.fst e3,g3.wk (by omega),v3,aK _,LW.push (by omega)⟩
theorem R3 (hX:XR rd x.1) (hd:x.1.1=28) (p:Pr rd x n):res (Bn x) (eu rd x):=by
 obtain ⟨g2,v1,v2⟩:=p
 repeat refine aB (by first | exact ae _ | exact af _ | exact ab _ _ | rfl | (with_reducible decide)) ?_
 refine gG (fun _=>?_) fun _=>?_
 ·repeat refine aB (by first | exact ae _ | exact af _ | exact ab _ _ | rfl | (with_reducible decide)) ?_
  refine ct (Us g2) fun ⟨n3,hn3,g3,v3⟩=>?_
  repeat refine aB (by first | exact ae _ | exact af _ | exact ab _ _ | rfl | (with_reducible decide)) ?_
  refine ke g3 (by omega) fun e3=>?_
  repeat refine aB (by first | exact ae _ | exact af _ | exact ab _ _ | rfl | (with_reducible decide)) ?_
  exact cJ ⟨rfl,_,_,_,_,_,congrArg Prod.fst e3,g3.wk (by omega),v3,aK _,LW.no (by omega)⟩
 ·repeat refine aB (by first | exact ae _ | exact af _ | exact ab _ _ | rfl | (with_reducible decide)) ?_
  refine ct (CU g2 (by omega) (hX.w (by omega)) (hX.tA (by omega)) v1) fun ⟨n3,hn3,g3,v3⟩=>?_
  repeat refine aB (by first | exact ae _ | exact af _ | exact ab _ _ | rfl | (with_reducible decide)) ?_
  refine ke g3 (by omega) fun e3=>?_
  repeat refine aB (by first | exact ae _ | exact af _ | exact ab _ _ | rfl | (with_reducible decide)) ?_
  exact cJ ⟨rfl,_,_,_,_,_,congrArg Prod.fst e3,g3.wk (by omega),v3,aK _,LW.no (by omega)⟩
theorem R2 (hX:XR rd x.1) (hd:x.1.1=29) (p:Pr rd x n):res (Bm x) (eu rd x):=by
 obtain ⟨g2,v1,v2⟩:=p
 repeat refine aB (by first | exact ae _ | exact af _ | exact ab _ _ | rfl | (with_reducible decide)) ?_
 refine ct (Ur g2 (by omega) ?_) fun ⟨n3,hn3,g3,v3⟩=>?_
 ·exact hX.cc (by omega) (by omega)
 repeat refine aB (by first | exact ae _ | exact af _ | exact ab _ _ | rfl | (with_reducible decide)) ?_
 refine ct (Us g3) fun ⟨n4,hn4,g4,v4⟩=>?_
 have v3:=bk hn4 v3
 repeat refine aB (by first | exact ae _ | exact af _ | exact ab _ _ | rfl | (with_reducible decide)) ?_
 refine ke g4 (by omega) fun e3=>?_
 repeat refine aB (by first | exact ae _ | exact af _ | exact ab _ _ | rfl | (with_reducible decide)) ?_
 exact cJ ⟨rfl,_,_,_,_,_,congrArg Prod.fst e3,g4.wk (by omega),v4,v3,LW.no (by omega)⟩
theorem R1 (hX:XR rd x.1) (hd:x.1.1=30) (p:Pr rd x n):res (Bl x) (eu rd x):=by
 obtain ⟨g2,v1,v2⟩:=p
 repeat refine aB (by first | exact ae _ | exact af _ | exact ab _ _ | rfl | (with_reducible decide)) ?_
 refine ct (Vo g2 (by omega) ?_ ?_ ?_ ?_ ?_) fun ⟨n3,hn3,g3⟩=>?_
 ·exact ⟨hX.w (by omega),v1,v2⟩
 ·exact hX.tA (by omega)
 ·exact hX.tB (by omega)
 ·exact hX.cc (by omega) (by omega)
 ·exact hX.pt (by omega)
 repeat refine aB (by first | exact ae _ | exact af _ | exact ab _ _ | rfl | (with_reducible decide)) ?_
 refine ke g3 (by omega) fun e3=>?_
 repeat refine aB (by first | exact ae _ | exact af _ | exact ab _ _ | rfl | (with_reducible decide)) ?_
 exact cJ ⟨rfl,_,_,_,_,_,congrArg Prod.fst e3,g3.wk (by omega),aK _,aK _,LW.put (by omega)⟩
theorem R0 (hX:XR rd x.1) (hd:x.1.1=31) (p:Pr rd x n):res (Bk x) (eu rd x):=by
 obtain ⟨g2,v1,v2⟩:=p
 repeat refine aB (by first | exact ae _ | exact af _ | exact ab _ _ | rfl | (with_reducible decide)) ?_
 refine ct (Vn g2 (by omega) ?_ ?_ ?_) fun ⟨n3,hn3,g3⟩=>?_
 ·exact ⟨hX.w (by omega),v1,v2⟩
 ·exact hX.cc (by omega) (by omega)
 ·exact hX.pt (by omega)
 repeat refine aB (by first | exact ae _ | exact af _ | exact ab _ _ | rfl | (with_reducible decide)) ?_
 refine ke g3 (by omega) fun e3=>?_
 repeat refine aB (by first | exact ae _ | exact af _ | exact ab _ _ | rfl | (with_reducible decide)) ?_
 exact cJ ⟨rfl,_,_,_,_,_,congrArg Prod.fst e3,g3.wk (by omega),aK _,aK _,LW.put (by omega)⟩
theorem RZ (hX:XR rd x.1) (hd:x.1.1=32) (p:Pr rd x n):res (Bj x) (eu rd x):=by
 obtain ⟨g2,v1,v2⟩:=p
 repeat refine aB (by first | exact ae _ | exact af _ | exact ab _ _ | rfl | (with_reducible decide)) ?_
 refine ct (Vm g2 (by omega) ?_ ?_ ?_) fun ⟨n3,hn3,g3⟩=>?_
 ·exact ⟨hX.w (by omega),v1,v2⟩
 ·exact hX.tB (by omega)
 ·exact hX.pt (by omega)
 repeat refine aB (by first | exact ae _ | exact af _ | exact ab _ _ | rfl | (with_reducible decide)) ?_
 refine ke g3 (by omega) fun e3=>?_
 repeat refine aB (by first | exact ae _ | exact af _ | exact ab _ _ | rfl | (with_reducible decide)) ?_
 exact cJ ⟨rfl,_,_,_,_,_,congrArg Prod.fst e3,g3.wk (by omega),aK _,aK _,LW.put (by omega)⟩
theorem RY (hX:XR rd x.1) (hd:x.1.1=33) (p:Pr rd x n):res (Bi x) (eu rd x):=by
 obtain ⟨g2,v1,v2⟩:=p
 repeat refine aB (by first | exact ae _ | exact af _ | exact ab _ _ | rfl | (with_reducible decide)) ?_
 refine ct (Vl g2 (by omega) ?_ ?_ ?_) fun ⟨n3,hn3,g3⟩=>?_
 ·exact ⟨hX.w (by omega),v1,v2⟩
 ·exact hX.tB (by omega)
 ·exact hX.pt (by omega)
 repeat refine aB (by first | exact ae _ | exact af _ | exact ab _ _ | rfl | (with_reducible decide)) ?_
 refine ke g3 (by omega) fun e3=>?_
 repeat refine aB (by first | exact ae _ | exact af _ | exact ab _ _ | rfl | (with_reducible decide)) ?_
 exact cJ ⟨rfl,_,_,_,_,_,congrArg Prod.fst e3,g3.wk (by omega),aK _,aK _,LW.put (by omega)⟩
theorem RW (hX:XR rd x.1) (hd:x.1.1=35) (p:Pr rd x n):res (Bh x) (eu rd x):=by
 obtain ⟨g2,v1,v2⟩:=p
 repeat refine aB (by first | exact ae _ | exact af _ | exact ab _ _ | rfl | (with_reducible decide)) ?_
 refine ct (Sn g2 (by omega) ?_ ?_ ?_) fun ⟨n3,hn3,g3⟩=>?_
 ·exact v1
 ·exact v2
 ·exact ⟨by show 35≤x.1.1;omega,by show x.1.1≤39;omega,hX.uS⟩
 repeat refine aB (by first | exact ae _ | exact af _ | exact ab _ _ | rfl | (with_reducible decide)) ?_
 refine ke g3 (by omega) fun e3=>?_
 repeat refine aB (by first | exact ae _ | exact af _ | exact ab _ _ | rfl | (with_reducible decide)) ?_
 exact cJ ⟨rfl,_,_,_,_,_,congrArg Prod.fst e3,g3.wk (by omega),aK _,aK _,LW.no (by omega)⟩
theorem RV (hX:XR rd x.1) (hd:x.1.1=36) (p:Pr rd x n):res (Bg x) (eu rd x):=by
 obtain ⟨g2,v1,v2⟩:=p
 repeat refine aB (by first | exact ae _ | exact af _ | exact ab _ _ | rfl | (with_reducible decide)) ?_
 refine ct (Sn g2 (by omega) ?_ ?_ ?_) fun ⟨n3,hn3,g3⟩=>?_
 ·exact v1
 ·exact v2
 ·exact ⟨by show 35≤x.1.1;omega,by show x.1.1≤39;omega,hX.uS⟩
 repeat refine aB (by first | exact ae _ | exact af _ | exact ab _ _ | rfl | (with_reducible decide)) ?_
 refine ke g3 (by omega) fun e3=>?_
 repeat refine aB (by first | exact ae _ | exact af _ | exact ab _ _ | rfl | (with_reducible decide)) ?_
 exact cJ ⟨rfl,_,_,_,_,_,congrArg Prod.fst e3,g3.wk (by omega),aK _,aK _,LW.no (by omega)⟩
theorem RU (hX:XR rd x.1) (hd:x.1.1=37) (p:Pr rd x n):res (Bf x) (eu rd x):=by
 obtain ⟨g2,v1,v2⟩:=p
 repeat refine aB (by first | exact ae _ | exact af _ | exact ab _ _ | rfl | (with_reducible decide)) ?_
 refine ct (Sn g2 (by omega) ?_ ?_ ?_) fun ⟨n3,hn3,g3⟩=>?_
 ·exact v1
 ·exact v2
 ·exact ⟨by show 35≤x.1.1;omega,by show x.1.1≤39;omega,hX.uS⟩
 repeat refine aB (by first | exact ae _ | exact af _ | exact ab _ _ | rfl | (with_reducible decide)) ?_
 refine ke g3 (by omega) fun e3=>?_
 repeat refine aB (by first | exact ae _ | exact af _ | exact ab _ _ | rfl | (with_reducible decide)) ?_
 exact cJ ⟨rfl,_,_,_,_,_,congrArg Prod.fst e3,g3.wk (by omega),aK _,aK _,LW.no (by omega)⟩
theorem RT (hX:XR rd x.1) (hd:x.1.1=38) (p:Pr rd x n):res (Be x) (eu rd x):=by
 obtain ⟨g2,v1,v2⟩:=p
 repeat refine aB (by first | exact ae _ | exact af _ | exact ab _ _ | rfl | (with_reducible decide)) ?_
 refine ct (Sn g2 (by omega) ?_ ?_ ?_) fun ⟨n3,hn3,g3⟩=>?_
 ·exact v1
 ·exact v2
 ·exact ⟨by show 35≤x.1.1;omega,by show x.1.1≤39;omega,hX.uS⟩
 repeat refine aB (by first | exact ae _ | exact af _ | exact ab _ _ | rfl | (with_reducible decide)) ?_
 refine ke g3 (by omega) fun e3=>?_
 repeat refine aB (by first | exact ae _ | exact af _ | exact ab _ _ | rfl | (with_reducible decide)) ?_
 exact cJ ⟨rfl,_,_,_,_,_,congrArg Prod.fst e3,g3.wk (by omega),aK _,aK _,LW.no (by omega)⟩
theorem RS (hX:XR rd x.1) (hd:x.1.1=39) (p:Pr rd x n):res (Bd x) (eu rd x):=by
 obtain ⟨g2,v1,v2⟩:=p
 repeat refine aB (by first | exact ae _ | exact af _ | exact ab _ _ | rfl | (with_reducible decide)) ?_
 refine ct (Sn g2 (by omega) ?_ ?_ ?_) fun ⟨n3,hn3,g3⟩=>?_
 ·exact v1
 ·exact v2
 ·exact ⟨by show 35≤x.1.1;omega,by show x.1.1≤39;omega,hX.uS⟩
 repeat refine aB (by first | exact ae _ | exact af _ | exact ab _ _ | rfl | (with_reducible decide)) ?_
 refine ke g3 (by omega) fun e3=>?_
 repeat refine aB (by first | exact ae _ | exact af _ | exact ab _ _ | rfl | (with_reducible decide)) ?_
 exact cJ ⟨rfl,_,_,_,_,_,congrArg Prod.fst e3,g3.wk (by omega),aK _,aK _,LW.no (by omega)⟩
theorem Uq (hd:x.1.1=34) (p:Pr rd x n):res (zq x) (eu rd x):=by
 obtain ⟨g2,v1,v2⟩:=p
 repeat refine aB (by first | exact ae _ | exact af _ | exact ab _ _ | rfl | (with_reducible decide)) ?_
 refine ke g2 (by omega) fun e3=>?_
 repeat refine aB (by first | exact ae _ | exact af _ | exact ab _ _ | rfl | (with_reducible decide)) ?_
 exact cJ ⟨rfl,_,_,_,_,_,congrArg Prod.fst e3,g2.wk (by omega),aK _,aK _,LW.no (by omega)⟩
theorem c5 (hX:XR rd x.1) (p:Pr rd x n):res (vC x) (eu rd x):=by
 unfold vC
 refine bw.2 ⟨fun h=>Up hX (aH.1 h) p,fun h1=>?_⟩
 refine bw.2 ⟨fun h=>Uo hX (aH.1 h) p,fun h2=>?_⟩
 refine bw.2 ⟨fun h=>Un hX (aH.1 h) p,fun h3=>?_⟩
 refine bw.2 ⟨fun h=>Ul hX (aH.1 h) p,fun h5=>?_⟩
 refine bw.2 ⟨fun h=>Ui hX (aH.1 h) p,fun h8=>?_⟩
 refine bw.2 ⟨fun h=>Uk hX (aH.1 h) p,fun h6=>?_⟩
 refine bw.2 ⟨fun h=>Sl hX (aH.1 h) p,fun BV=>?_⟩
 refine bw.2 ⟨fun h=>Uj hX (aH.1 h) p,fun h7=>?_⟩
 refine bw.2 ⟨fun h=>Sk hX (aH.1 h) p,fun vm=>?_⟩
 refine bw.2 ⟨fun h=>Um hX (aH.1 h) p,fun h4=>?_⟩
 refine bw.2 ⟨fun h=>Uh hX (aH.1 h) p,fun h9=>?_⟩
 refine bw.2 ⟨fun h=>Sj hX (aH.1 h) p,fun lC=>?_⟩
 refine bw.2 ⟨fun h=>Si hX (aH.1 h) p,fun kz=>?_⟩
 refine bw.2 ⟨fun h=>Sh hX (aH.1 h) p,fun jM=>?_⟩
 refine bw.2 ⟨fun h=>Sg hX (aH.1 h) p,fun gF=>?_⟩
 refine bw.2 ⟨fun h=>Sf hX (aH.1 h) p,fun gJ=>?_⟩
 refine bw.2 ⟨fun h=>Se hX (aH.1 h) p,fun lB=>?_⟩
 refine bw.2 ⟨fun h=>Sd hX (aH.1 h) p,fun BU=>?_⟩
 refine bw.2 ⟨fun h=>Sc hX (aH.1 h) p,fun wU=>?_⟩
 refine bw.2 ⟨fun h=>Sb hX (aH.1 h) p,fun Af=>?_⟩
 refine bw.2 ⟨fun h=>Sa hX (aH.1 h) p,fun BT=>?_⟩
 refine bw.2 ⟨fun h=>R9 hX (aH.1 h) p,fun BS=>?_⟩
 refine bw.2 ⟨fun h=>R8 hX (aH.1 h) p,fun zu=>?_⟩
 refine bw.2 ⟨fun h=>R7 hX (aH.1 h) p,fun BR=>?_⟩
 refine bw.2 ⟨fun h=>R6 hX (aH.1 h) p,fun BQ=>?_⟩
 refine bw.2 ⟨fun h=>R5 hX (aH.1 h) p,fun BP=>?_⟩
 refine bw.2 ⟨fun h=>R4 hX (aH.1 h) p,fun BO=>?_⟩
 refine bw.2 ⟨fun h=>R3 hX (aH.1 h) p,fun BN=>?_⟩
 refine bw.2 ⟨fun h=>R2 hX (aH.1 h) p,fun BM=>?_⟩
 refine bw.2 ⟨fun h=>R1 hX (aH.1 h) p,fun BL=>?_⟩
 refine bw.2 ⟨fun h=>R0 hX (aH.1 h) p,fun h31=>?_⟩
 refine bw.2 ⟨fun h=>RZ hX (aH.1 h) p,fun h32=>?_⟩
 refine bw.2 ⟨fun h=>RY hX (aH.1 h) p,fun h33=>?_⟩
 refine bw.2 ⟨fun h=>RW hX (aH.1 h) p,fun h35=>?_⟩
 refine bw.2 ⟨fun h=>RV hX (aH.1 h) p,fun h36=>?_⟩
 refine bw.2 ⟨fun h=>RU hX (aH.1 h) p,fun h37=>?_⟩
 refine bw.2 ⟨fun h=>RT hX (aH.1 h) p,fun h38=>?_⟩
 refine bw.2 ⟨fun h=>RS hX (aH.1 h) p,fun h39=>?_⟩
 have hd:x.1.1=34:=by
  have:=hX.VQ
  have f:∀ {k:Int},al x.1.1 k=false→x.1.1≠k:=fun h=>dZ.1 h
  have e1:=f h1
  have e2:=f h2
  have e3:=f h3
  have e5:=f h5
  have e8:=f h8
  have e6:=f h6
  have e10:=f BV
  have e7:=f h7
  have e11:=f vm
  have e4:=f h4
  have e9:=f h9
  have e12:=f lC
  have e13:=f kz
  have e14:=f jM
  have e15:=f gF
  have e16:=f gJ
  have e17:=f lB
  have e18:=f BU
  have e19:=f wU
  have e20:=f Af
  have e21:=f BT
  have e22:=f BS
  have e23:=f zu
  have e24:=f BR
  have e25:=f BQ
  have e26:=f BP
  have e27:=f BO
  have e28:=f BN
  have e29:=f BM
  have e30:=f BL
  have e31:=f h31
  have e32:=f h32
  have e33:=f h33
  have e35:=f h35
  have e36:=f h36
  have e37:=f h37
  have e38:=f h38
  have e39:=f h39
  omega
 exact Uq hd p
theorem q5 (hp:uZ x.1) (hX:XR rd x.1):res (ue x) (eu rd x):=by
 have h0:G rd [] 32 [] 0:=⟨.nil 32,by simp⟩
 repeat refine aB (by first | exact ae _ | exact af _ | exact ab _ _ | rfl | (with_reducible decide)) ?_
 refine aB hp ?_
 repeat refine aB (by first | exact ae _ | exact af _ | exact ab _ _ | rfl | (with_reducible decide)) ?_
 refine gG (fun h=>?_) fun _=>?_
 ·have h:(!qm x.1)=true:=h
  rw [hX.right] at h;cases h
 repeat refine aB (by first | exact ae _ | exact af _ | exact ab _ _ | rfl | (with_reducible decide)) ?_
 refine ct (Vc (S1 x) h0 (by omega) hX.oA) fun ⟨n1,hn1,g1,v1⟩=>?_
 repeat refine aB (by first | exact ae _ | exact af _ | exact ab _ _ | rfl | (with_reducible decide)) ?_
 refine ct (Vc (S2 x) g1 (by omega) hX.oB) fun ⟨n2,hn2,g2,v2⟩=>?_
 repeat refine aB (by first | exact ae _ | exact af _ | exact ab _ _ | rfl | (with_reducible decide)) ?_
 refine aB AR ?_
 exact c5 hX ⟨g2,bk hn2 v1,v2⟩
end Go.bM.RL
end
section
namespace Go.bM.RM
open Go.bM.RL
open Go.bM
noncomputable section
theorem n9 {x:DI} (ha:oG (x.2.2.2.1).2.1) (hb:oG (x.2.2.2.2.1).2.1) (hc:wQ x.2.1):uZ x∧qm x=(lI x).isSome:=by
 have h1:=Jv ha hb hc
 have h2:=LU ha hb hc
 refine ⟨⟨h1,trivial⟩,?_⟩
 show (LV x).2.2=_
 rw [h2]
 cases lI x<;>rfl
theorem Ke {x:DI} (hd:wQ x.1) (hc:wQ x.2.1):pre6 x∧Ig x=(lI x).isSome:=by
 refine ⟨⟨Jz hd hc,trivial⟩,?_⟩
 show (L1 x).2=_
 rw [L0 hd hc]
 cases lI x<;>rfl
def OY:Kd→Bool | .x=>false | .xm=>false | _=>true
def U2:Kd→Bool | .r=>true | .m=>true | .rm=>true | _=>false
def Sp (d:Nat):Bool:=(decide (1≤d)&&decide (d≤21)&&!decide (d=10)&&!decide (d=11))||(decide (30≤d)&&decide (d≤33))||decide (d=25)
def OF (d:Nat) (r:kI):Bool:=
 decide (1≤d)&&decide (d≤39)&&(decide (35≤d)||(OY (nV r.2.1)&&OY (nV r.2.2.1)&&(al r.1 1||al r.1 4||al r.1 8||al r.1 16)))&&(!Sp d||U2 (nV r.2.1))
theorem I8:(List.range 256).all (fun d=>(List.range 16).all fun c=>(bG ((d:Nat),(c:Nat))).all (OF d))=true:=by decide +kernel
theorem Lq {d c:Int} (hd:wQ d) (hc:0≤c∧c < 16):∀ r∈bG (d,c),OF d.toNat r=true:=by
 obtain ⟨d',rfl⟩:∃ d':Nat,d=d':=⟨d.toNat,(Int.toNat_of_nonneg hd.1).symm⟩
 obtain ⟨c',rfl⟩:∃ c':Nat,c=c':=⟨c.toNat,(Int.toNat_of_nonneg hc.1).symm⟩
 have h1:d' < 256:=by have:=hd.2;omega
 have h2:c' < 16:=by omega
 have h:=I8
 rw [List.all_eq_true] at h
 have h:=h d' (List.mem_range.2 h1)
 rw [List.all_eq_true] at h
 have h:=h c' (List.mem_range.2 h2)
 rw [List.all_eq_true] at h
 intro r hr
 rw [Int.toNat_natCast]
 exact h r hr
theorem BG {k:Kd} {o:DO} (h:k.b o=true):(o.1=2→Cq o)∧(OY k=true→o.1=1→Ab o)∧(U2 k=true→o.1=1∨o.1=2):=by
 have rm:iE o=true→(o.1=2→Cq o)∧(o.1=1→Ab o)∧(o.1=1∨o.1=2):=fun h=>by
  rcases (mc _).1 h with h | h
  ·exact ⟨fun h2=>(by rw [k9 h] at h2;cases h2),fun _=>h,.inl (k9 h)⟩
  ·exact ⟨fun _=>h,fun h2=>(by rw [h.1] at h2;cases h2),.inr h.1⟩
 have im:BJ o=true→(o.1=2→Cq o)∧(o.1=1→Ab o):=fun h=>by
  have h1:o.1=3:=by
   unfold BJ at h
   rw [Bool.and_eq_true] at h
   exact aH.1 h.1
  exact ⟨fun h2=>(by rw [h1] at h2;cases h2),fun h2=>(by rw [h1] at h2;cases h2)⟩
 have ve:xg o=true→o.1=1:=fun h=>by
  unfold xg at h
  rw [Bool.and_eq_true] at h
  exact aH.1 h.1
 cases k<;>simp only [Kd.b] at h
 ·unfold Ls at h;rw [Bool.and_eq_true] at h
  have:=rm h.2
  exact ⟨this.1,fun _=>this.2.1,fun _=>this.2.2⟩
 ·unfold zn at h;rw [Bool.and_eq_true] at h
  have:=rm h.2
  exact ⟨this.1,fun _=>this.2.1,fun _=>this.2.2⟩
 ·have:=rm h
  exact ⟨this.1,fun _=>this.2.1,fun _=>this.2.2⟩
 ·exact ⟨(im h).1,fun _=>(im h).2,fun e=>by cases e⟩
 ·rw [Bool.and_eq_true] at h;exact ⟨(im h.1).1,fun _=>(im h.1).2,fun e=>by cases e⟩
 ·rw [Bool.and_eq_true] at h;exact ⟨(im h.1).1,fun _=>(im h.1).2,fun e=>by cases e⟩
 ·rw [Bool.and_eq_true] at h;exact ⟨(im h.1).1,fun _=>(im h.1).2,fun e=>by cases e⟩
 ·exact ⟨fun h2=>(by rw [ve h] at h2;cases h2),(fun e=>by cases e),fun e=>by cases e⟩
 ·rw [Bool.or_eq_true] at h
  refine ⟨fun h2=>?_,(fun e=>by cases e),fun e=>by cases e⟩
  rcases h with h | h
  ·rw [ve h] at h2;cases h2
  ·unfold zn at h;rw [Bool.and_eq_true] at h;exact (rm h.2).1 h2
 ·have e:=om.1 h
  have h1:o.1=1:=by rw [e];rfl
  refine ⟨fun h2=>(by rw [h1] at h2;cases h2),fun _ _=>?_,fun e=>by cases e⟩
  have h2:o.2.1=1:=by rw [e];rfl
  exact ⟨by rw [h2];exact e,by omega,by omega⟩
 ·have e:=om.1 h
  have h1:o.1=0:=by rw [e];rfl
  exact ⟨fun h2=>(by rw [h1] at h2;cases h2),fun _ h2=>(by rw [h1] at h2;cases h2),fun e=>by cases e⟩
structure RX (x:DI):Prop where
 right:qm x=true
 d:1≤x.1∧x.1≤39
 mA:x.2.2.2.1.1=2→Cq x.2.2.2.1
 mB:x.2.2.2.2.1.1=2→Cq x.2.2.2.2.1
 w:x.1≤34→x.2.2.1=1∨x.2.2.1=4∨x.2.2.1=8
 gA:x.1≤34→x.2.2.2.1.1=1→Ab x.2.2.2.1
 gB:x.1≤34→x.2.2.2.2.1.1=1→Ab x.2.2.2.2.1
 kA:(1≤x.1∧x.1≤21∧x.1≠10∧x.1≠11)∨(30≤x.1∧x.1≤33)∨x.1=25→x.2.2.2.1.1=1∨x.2.2.2.1.1=2
 cond:0≤x.2.1∧x.2.1 < 16
theorem Qt {x:DI} (ha:oG (x.2.2.2.1).2.1) (hb:oG (x.2.2.2.2.1).2.1) (hd:wQ x.1) (hc:wQ x.2.1) (h:qm x=true):RX x:=by
 have h0:=h
 rw [(n9 ha hb hc).2] at h
 obtain ⟨r,hr⟩:=Option.isSome_iff_exists.1 h
 unfold lI at hr
 cases hm:JU x with
 | false=>rw [hm] at hr;cases hr
 | true=>
  rw [hm] at hr
  have hr:(bG (x.1,x.2.1)).find? (cZ x)=some r:=hr
  have hfit:=List.find?_some hr
  have hmem:=List.mem_of_find?_eq_some hr
  have hcd:0≤x.2.1∧x.2.1 < 16:=by
   unfold JU at hm
   rw [Bool.and_eq_true] at hm
   have:=cS.1 hm.1
   exact ⟨hc.1,by omega⟩
  have hp:=Lq hd hcd r hmem
  unfold cZ at hfit
  simp only [Bool.and_eq_true] at hfit
  obtain ⟨hw,hA,hB⟩:=hfit
  have fA:=BG hA
  have fB:=BG hB
  obtain ⟨d,hdd⟩:∃ d':Nat,x.1=d':=⟨x.1.toNat,(Int.toNat_of_nonneg hd.1).symm⟩
  rw [hdd,Int.toNat_natCast] at hp
  unfold OF at hp
  simp only [Bool.and_eq_true,Bool.or_eq_true,decide_eq_true_eq,Bool.not_eq_true'] at hp
  obtain ⟨⟨⟨p1,p2⟩,p3⟩,p4⟩:=hp
  have gp:x.1≤34→(OY (nV r.2.1)=true∧OY (nV r.2.2.1)=true)∧((r.1=1∨r.1=4)∨r.1=8)∨r.1=16→True:=fun _ _=>trivial
  have q3:x.1≤34→(OY (nV r.2.1)=true∧OY (nV r.2.2.1)=true)∧(((al r.1 1=true∨al r.1 4=true)∨al r.1 8=true)∨al r.1 16=true):=fun h=>by
   rcases p3 with p3 | p3
   ·omega
   ·exact p3
  refine ⟨h0,⟨by omega,by omega⟩,fA.1,fB.1,fun h34=>?_,fun h34=>fA.2.1 (q3 h34).1.1,fun h34=>fB.2.1 (q3 h34).1.2,fun hk=>?_,hcd⟩
  ·have h4:=(q3 h34).2
   simp only [aH] at h4
   unfold gN at hw
   rcases h4 with ((h4 | h4) | h4) | h4<;>rw [h4] at hw<;>simp [al] at hw<;>omega
  ·refine fA.2.2 ?_
   rcases p4 with p4 | p4
   ·exfalso
    unfold Sp at p4
    simp only [Bool.or_eq_false_iff,Bool.and_eq_false_iff,decide_eq_false_iff_not,Bool.not_eq_false',decide_eq_true_eq] at p4
    omega
   ·exact p4
end
end Go.bM.RM
end
section
namespace Go.bM.RM
open Go.bM.RL
open Go.bM
noncomputable section
def Qj (n:Int) (v:aD):Prop:=v.1=false→32≤v.2.1→v.2.1 < n
def TZ (n:Int) (d:bq):Prop:=Qj n d.2.2.2.1∧Qj n d.2.2.2.2.1∧Qj n d.2.2.2.2.2.1
inductive TG:Int→RL.L→Prop where
 | nil (n:Int):TG n []
 | low {n:Int} {d:bq} {l:RL.L} (h:TZ n d) (hd:d.2.2.1 < 32) (t:TG n l):TG n (d :: l)
 | tmp {n:Int} {d:bq} {l:RL.L} (h:TZ n d) (hn:32≤n∧n < 64) (hd:d.2.2.1=n) (t:TG (n+1) l):TG n (d :: l)
theorem gR {rd:Int→Prop} {n:Int} {v:aD} (h:gv rd n v):Qj n v:=by
 intro h1 h2
 rcases h with h | ⟨_,_,h | h⟩
 ·rw [h.1] at h1;cases h1
 ·omega
 ·exact h.2
theorem P6 {rd:Int→Prop} {n n':Int} {l r:RL.L} {W:List Int} (h:Ad rd n l n' W) (k:TG n' r):TG n (l++r):=by
 induction h with
 | nil=>exact k
 | cell _ _ hd ha hb hc _ ih=>exact .low ⟨gR ha,gR hb,gR hc⟩ (by show _ < _;simp only [dd];omega) (ih k)
 | none _ _ ha hb hc _ ih=>exact .low ⟨gR ha,gR hb,gR hc⟩ (by show (0:Int) < 32;decide) (ih k)
 | CA _ _ hn ha hb hc _ ih=>exact .tmp ⟨gR ha,gR hb,gR hc⟩ hn rfl (ih k)
 | vec ha _ _ ih=>exact .low ⟨gR ha,fun h=>(by cases h),fun h=>by cases h⟩ (by show (0:Int) < 32;decide) (ih k)
theorem Ba (c k v:Int):∀ m:List bN,fL c (mH k v m)=if c=k then v else fL c m
 | []=>by
  by_cases h:c=k
  ·rw [if_pos h];simp only [mH,fL,aH.2 h,cond_true]
  ·rw [if_neg h];simp only [mH,fL,dZ.2 h,cond_false]
 | e :: m=>by
  have ih:=Ba c k v m
  by_cases hk:k=e.1
  ·simp only [mH,aH.2 hk,cond_true]
   by_cases h:c=k
   ·rw [if_pos h];simp only [fL,aH.2 h,cond_true]
   ·rw [if_neg h]
    have h2:c≠e.1:=by omega
    simp only [fL,dZ.2 h,dZ.2 h2,cond_false]
  ·simp only [mH,dZ.2 hk,cond_false]
   by_cases h2:c=e.1
   ·rw [if_neg (by omega)];simp only [fL,aH.2 h2,cond_true]
   ·simp only [fL,dZ.2 h2,cond_false]
    exact ih
def Mp (m:List bN) (n:Int):Prop:=∀ c,fL c m=if 32≤c∧c < n then 1 else 0
theorem Mp.nil:Mp [] 32:=fun c=>by rw [if_neg (by omega)];rfl
theorem Mp.ins {m:List bN} {n:Int} (h:Mp m n) (hn:32≤n):Mp (mH n (aU .i64 (fL n m) 1) m) (n+1):=fun c=>by
 rw [h n,if_neg (show ¬(32≤n∧n < n) by omega),Ba,h c]
 by_cases hc:c=n
 ·rw [if_pos hc,if_pos (by omega)];rfl
 ·rw [if_neg hc]
  by_cases h2:32≤c∧c < n
  ·rw [if_pos h2,if_pos (by omega)]
  ·rw [if_neg h2,if_neg (by omega)]
theorem x3 {x:RL.L} {d:bq} {m:List bN} {n a b:Int} {vs:List aD} {k:Nat} {r:Bool} (hm:Mp m n) (hl:vs.length=3) (hk:k < 3) (ho:Qj n (gh aq vs k))
  (h:Ends (dI x) r (dI x (.h1 vs ((k+1:Nat):Int) a b m d))):Ends (dI x) r (dI x (.h1 vs (k:Int) a b m d)):=by
 have e:aU .i64 (k:Int) 1=((k+1:Nat):Int):=by rw [fw (by omega) (by omega)];omega
 have h2:Ends (dI x) r (dI x (.h2 vs (k:Int) a b m d)):=by
  simp only [dI,eJ]
  rw [e];exact h
 simp only [dI]
 rw [eI]
 refine ⟨fun _=>?_,fun hn=>by rw [fc] at hn;omega⟩
 simp only [eN,eI,eJ,eR,Int.toNat_natCast]
 refine ⟨by omega,by omega,by omega,fun h3=>⟨fun h4=>⟨fun h5=>?_,fun _=>h2⟩,fun _=>h2⟩,fun _=>h2⟩
 exfalso
 have h3:(gh aq vs k).1=false:=by simpa using h3
 have h4:32≤(gh aq vs k).2.1:=cS.1 (by simpa using h4)
 have h6:=hm (gh aq vs k).2.1
 rw [if_pos ⟨h4,ho h3 h4⟩] at h6
 rw [h6] at h5
 exact absurd (aH.1 h5) (by decide)
theorem u6 (x:RL.L) (hx:x.length≤1000):∀ (j i:Nat) (m:List bN) (n:Int),j+i=x.length→TG n (x.drop i)→Mp m n→Ends (dI x) true (dI x (.h0 (x.length:Int) (i:Int) m))
 | 0,i,m,n,hj,_,_=>by
  simp only [dI]
  rw [eI]
  exact ⟨fun h=>(by rw [cR] at h;omega),fun _=>.ret⟩
 | j+1,i,m,n,hj,ht,hm=>by
  have hi:i < x.length:=by omega
  simp only [dI]
  rw [eI]
  refine ⟨fun _=>?_,fun h=>by rw [fc] at h;omega⟩
  simp only [eN,eJ]
  refine ⟨by omega,by omega,by decide,by decide,by decide,?_⟩
  rw [Int.toNat_natCast,fQ (c:=aR) hi]
  rw [List.drop_eq_getElem_cons hi] at ht
  generalize x[i]=d at ht
  have e1:aU .i64 (i:Int) 1=((i+1:Nat):Int):=by rw [fw (by omega) (by omega)];omega
  have fin:TZ n d→Ends (dI x) true (dI x (.h3 (x.length:Int) (i:Int) m d))→Ends (dI x) true (dI x (.h1 [d.2.2.2.1,d.2.2.2.2.1,d.2.2.2.2.2.1] 0 (x.length:Int) (i:Int) m d)):=fun ho h=>by
   refine x3 (k:=0) hm rfl (by decide) ho.1 (x3 (k:=1) hm rfl (by decide) ho.2.1 (x3 (k:=2) hm rfl (by decide) ho.2.2 ?_))
   simp only [dI]
   rw [eI]
   refine ⟨fun h=>?_,fun _=>?_⟩
   ·rw [cR] at h;exact absurd h (by decide)
   ·rw [eJ];exact h
  cases ht with
  | low ho hd t=>
   refine fin ho ?_
   simp only [dI,eI]
   refine ⟨fun h=>(by rw [cS] at h;omega),fun _=>?_⟩
   rw [eJ,e1]
   exact u6 x hx j (i+1) m n (by omega) t hm
  | tmp ho hn hd t=>
   refine fin ho ?_
   simp only [dI,eI,hd]
   refine ⟨fun _=>⟨fun _=>⟨fun h=>?_,fun _=>?_⟩,fun h=>?_⟩,fun h=>(by rw [ql] at h;omega)⟩
   ·rw [hm n,if_neg (by omega),cR] at h;exact absurd h (by decide)
   ·rw [eJ,e1]
    exact u6 x hx j (i+1) _ (n+1) (by omega) t (hm.ins hn.1)
   ·have h:b5 64 n=true:=by simpa using h
    rw [cS] at h;omega
theorem Kb {x:RL.L} (hx:x.length≤1000) (h:TG 32 x):CW x∧KT x=true:=by
 have key:Ends (dI x) true (qw x):=by
  simp only [qw,eJ]
  exact u6 x hx x.length 0 [] 32 (by simp) (by simpa using h) Mp.nil
 exact ⟨⟨_,key⟩,ec key⟩
def Ar (v:List Bool) (n:Int):Prop:=v.length=64∧∀ c:Nat,c < 64→gh .bool v c=decide (32≤(c:Int)∧(c:Int) < n)
theorem Ar.nil:Ar (List.replicate 64 false) 32:=⟨by simp,fun c hc=>by
 rw [fQ (c:=.bool) (by simpa using hc),List.getElem_replicate]
 symm
 rw [decide_eq_false_iff_not]
 omega⟩
theorem Ar.ins {v:List Bool} {n:Int} (h:Ar v n) (hn:32≤n∧n < 64):Ar (v.set n.toNat true) (n+1):=⟨by simp [h.1],fun c hc=>by
 rw [fQ (c:=.bool) (by simp [h.1];omega),List.getElem_set]
 split
 ·rename_i e
  symm;simp;omega
 ·rename_i e
  have:=h.2 c hc
  rw [fQ (c:=.bool) (by rw [h.1];exact hc)] at this
  rw [this]
  have:(c:Int)≠n:=by omega
  congr 1
  exact propext ⟨fun h=>by omega,fun h=>by omega⟩⟩
theorem u7 {x:RL.L} {v:List Bool} {n i:Int} {vs:List aD} {k:Nat} {r:Bool} (hm:Ar v n) (hn:n≤64) (hl:vs.length=3) (hk:k < 3) (ho:Qj n (gh aq vs k))
  (h:Ends (fF x) r (fF x (.h1 i ((k+1:Nat):Int) v vs))):Ends (fF x) r (fF x (.h1 i (k:Int) v vs)):=by
 have e:aU .i64 (k:Int) 1=((k+1:Nat):Int):=by rw [fw (by omega) (by omega)];omega
 simp only [fF]
 rw [eI]
 refine ⟨fun _=>?_,fun hn=>by rw [fc] at hn;omega⟩
 simp only [eN,eI,eJ,eR,Int.toNat_natCast,e]
 refine ⟨by omega,by omega,by omega,fun h3=>⟨fun h4=>?_,fun _=>h⟩,fun _=>h⟩
 have h3:(gh aq vs k).1=false:=by simpa using h3
 have h4:@LE.le Int _ 32 (gh aq vs k).2.1:=cS.1 (by simpa using h4)
 have h5:@LT.lt Int _ (gh aq vs k).2.1 n:=ho h3 h4
 have hc:(gh aq vs k).2.1.toNat < 64:=by omega
 have hd:32≤((gh aq vs k).2.1.toNat:Int)∧((gh aq vs k).2.1.toNat:Int) < n:=by omega
 refine ⟨fun _=>⟨by omega,by omega,hc,fun h6=>?_,fun _=>h⟩,fun h6=>?_⟩
 ·exfalso
  rw [hm.2 _ hc,decide_eq_true hd] at h6
  cases h6
 ·exfalso
  have h6:b5 64 (gh aq vs k).2.1=true:=by simpa using h6
  rw [cS] at h6;omega
theorem qc (x:RL.L) (hx:x.length≤1000):∀ (j i:Nat) (v:List Bool) (n:Int),j+i=x.length→n≤64→TG n (x.drop i)→Ar v n→Ends (fF x) true (fF x (.h0 (i:Int) v))
 | 0,i,m,n,hj,_,_,_=>by
  simp only [fF]
  rw [eI]
  exact ⟨fun h=>(by rw [cR] at h;omega),fun _=>.ret⟩
 | j+1,i,v,n,hj,hn64,ht,hm=>by
  have hi:i < x.length:=by omega
  simp only [fF]
  rw [eI]
  refine ⟨fun _=>?_,fun h=>by rw [fc] at h;omega⟩
  simp only [eN,eJ]
  refine ⟨by omega,by omega,by omega,by omega,by omega,by omega,by decide,by decide,by decide,?_⟩
  rw [Int.toNat_natCast,fQ (c:=aR) hi]
  rw [List.drop_eq_getElem_cons hi] at ht
  have hdd:gh aR x i=x[i]:=fQ (c:=aR) hi
  generalize x[i]=d at ht hdd
  have e1:aU .i64 (i:Int) 1=((i+1:Nat):Int):=by rw [fw (by omega) (by omega)];omega
  have fin:TZ n d→Ends (fF x) true (fF x (.h1 (i:Int) 3 v [d.2.2.2.1,d.2.2.2.2.1,d.2.2.2.2.2.1]))→Ends (fF x) true (fF x (.h1 (i:Int) 0 v [d.2.2.2.1,d.2.2.2.2.1,d.2.2.2.2.2.1])):=fun ho h=>
   u7 (k:=0) hm hn64 rfl (by decide) ho.1 (u7 (k:=1) hm hn64 rfl (by decide) ho.2.1 (u7 (k:=2) hm hn64 rfl (by decide) ho.2.2 h))
  cases ht with
  | low ho hd t=>
   refine fin ho ?_
   simp only [fF]
   rw [eI]
   refine ⟨fun h=>?_,fun _=>?_⟩
   ·rw [cR] at h;exact absurd h (by decide)
   simp only [eN,eI,Int.toNat_natCast,hdd,eJ,e1]
   refine ⟨by omega,by omega,fun h=>(by rw [cS] at h;omega),fun _=>?_⟩
   exact qc x hx j (i+1) v n (by omega) hn64 t hm
  | tmp ho hn hd t=>
   refine fin ho ?_
   simp only [fF]
   rw [eI]
   refine ⟨fun h=>?_,fun _=>?_⟩
   ·rw [cR] at h;exact absurd h (by decide)
   simp only [eN,eI,Int.toNat_natCast,hdd,hd,eJ,e1]
   refine ⟨by omega,by omega,fun _=>⟨fun _=>⟨by omega,by omega,by omega,fun h=>?_,fun _=>⟨by omega,by omega,by omega,?_⟩⟩,fun h=>?_⟩,fun h=>(by rw [ql] at h;omega)⟩
   ·exfalso
    rw [hm.2 _ (by omega),decide_eq_false (by omega)] at h
    cases h
   ·exact qc x hx j (i+1) _ (n+1) (by omega) (by omega) t (hm.ins hn)
   ·have h:b5 64 n=true:=by simpa using h
    rw [cS] at h;omega
theorem O0 {x:RL.L} (hx:x.length≤1000) (h:TG 32 x):OI x∧UT x=true:=by
 have key:Ends (fF x) true (wb x):=by
  simp only [wb,eJ]
  exact qc x hx x.length 0 _ 32 (by simp) (by decide) (by simpa using h) Ar.nil
 exact ⟨⟨_,key⟩,ec key⟩
end
end Go.bM.RM
end
section
namespace Go.bM.RM
open Go.bM.RL
open Go.bM
noncomputable section
theorem FN {c:Int} (h:(0≤c∧c≤20)∨(32≤c∧c < 64)):Fh c∧LX c=true:=by
 have key:res (oY c) (fun r=>r=true):=by
  simp only [oY,bw,eM,beq_iff_eq,cS,ql,cR,Bool.beq_eq_decide_eq,decide_eq_true_eq,decide_eq_false_iff_not]
  refine ⟨fun _=>⟨fun h2=>⟨fun h3=>?_,fun h3=>?_⟩,fun _=>trivial⟩,fun h2=>⟨fun h3=>?_,fun h3=>?_⟩⟩<;>omega
 exact key.and
theorem zF {rd:Int→Prop} {n:Int} {v:aD} (h:gv rd n v) (hn:n≤64):qD v∧B3 v=true:=by
 have key:res (o0 v) (fun r=>r=true):=by
  simp only [o0,bw,dJ,eM]
  rcases h with ⟨h1,h2⟩ | ⟨h1,h2,h3⟩
  ·exact ⟨fun _=>aH.2 h2,fun h=>by rw [h1] at h;cases h⟩
  ·have hc:=FN (c:=v.2.1) (by rcases h3 with h3 | h3<;>omega)
   exact ⟨fun h=>(by rw [h1] at h;cases h),fun _=>⟨fun _=>hc,fun h=>by rw [aH.2 h2] at h;cases h⟩⟩
 exact key.and
theorem L2 (op:Int):JD op∧(fP op→L3 op=true)∧(28≤op→op≤31→L3 op=false):=by
 have key:res (o6 op) (fun r=>(fP op→r=true)∧(28≤op→op≤31→r=false)):=by
  simp only [o6,bw,eM,beq_iff_eq,Bool.beq_eq_decide_eq,decide_eq_true_eq,decide_eq_false_iff_not,fP]
  refine ⟨fun h1=>⟨fun h2=>⟨fun h3=>⟨fun h4=>⟨fun h5=>⟨fun h=>?_,fun h h'=>?_⟩,fun h5=>⟨fun h=>?_,fun _ _=>trivial⟩⟩,fun h4=>⟨fun h=>?_,fun _ _=>trivial⟩⟩,fun h3=>⟨fun h=>?_,fun _ _=>trivial⟩⟩,fun h2=>⟨fun h=>?_,fun _ _=>trivial⟩⟩,fun h1=>⟨fun h=>?_,fun _ _=>trivial⟩⟩
  all_goals simp only [iI,ky,cS,cR,Bool.not_eq_true] at *
  all_goals omega
 exact ⟨key.1,key.2⟩
theorem EV {rd:Int→Prop} {n:Int} {a b c:aD} (ha:gv rd n a) (hb:gv rd n b) (hc:gv rd n c) (hn:n≤64):(qD a∧B3 a=true)∧(qD b∧B3 b=true)∧(qD c∧B3 c=true):=
 ⟨zF ha hn,zF hb hn,zF hc hn⟩
theorem tu {rd:Int→Prop} {n op w d:Int} {a b c:aD} (ho:1≤op∧op≤30) (hw:1≤w∧w≤8) (hd:(fP op∧((0≤d∧d≤20)∨(32≤d∧d < 64)))∨(28≤op∧d=0)) (ha:gv rd n a) (hb:gv rd n b) (hc:gv rd n c) (hn:n≤64):
  qE (dd op w d a b c)∧B5 (dd op w d a b c)=true:=by
 obtain ⟨va,vb,vc⟩:=EV ha hb hc hn
 have kz:=L2 op
 have key:res (kZ (dd op w d a b c)) (fun r=>r=true):=by
  simp only [kZ,dd,bw,dJ,eM,va.2,vb.2,vc.2,ED,Qi]
  have f:∀ {α:Sort _} {b:Bool},(b==false)=false→b=false→α:=fun h1 h2=>by subst h2;cases h1
  refine ⟨fun _=>⟨fun _=>⟨va.1,fun _=>⟨vb.1,fun _=>⟨vc.1,fun h=>(by cases h),fun _=>⟨fun h=>?_,fun _=>⟨fun _=>⟨fun _=>⟨fun h=>?_,fun _=>⟨kz.1,fun h=>?_,fun h=>?_⟩⟩,fun h=>?_⟩,fun h=>?_⟩⟩⟩,fun h=>(by cases h)⟩,fun h=>(by cases h)⟩,fun h=>?_⟩,fun h=>?_⟩
  ·rw [aH] at h;omega
  ·rw [lL (c:=bB) rfl] at h;cases h
  ·rcases hd with hd | hd
   ·exact FN hd.2
   ·rw [kz.2.2 hd.1 (by omega)] at h;cases h
  ·rcases hd with hd | hd
   ·rw [kz.2.1 hd.1] at h;cases h
   ·exact aH.2 hd.2
  ·exact f h (fc.2 (by omega))
  ·exact f h (fc.2 (by omega))
  ·exact f h (fc.2 (by omega))
  ·exact f h (fc.2 (by omega))
 exact key.and
theorem Kl {rd:Int→Prop} {n:Int} {a:aD} {v:DI} (ha:gv rd n a) (hn:n≤64) (hv:35≤v.1∧v.1≤39) (h6:pre6 v∧Ig v=true):
  qE (31,(16,(0,(a,(wd 0,(wd 0,v))))))∧B5 (31,(16,(0,(a,(wd 0,(wd 0,v))))))=true:=by
 obtain ⟨va,vb,vc⟩:=EV (rd:=rd) (n:=n) ha (aK 0) (aK 0) hn
 have zu:Jx v∧Pv v=true:=by
  have key:res (oZ v) (fun r=>r=true):=by
   simp only [oZ,bw,dJ,eM]
   exact ⟨fun _=>⟨fun _=>h6,fun h=>by rw [cS.2 hv.2] at h;cases h⟩,fun h=>by rw [cS.2 hv.1] at h;cases h⟩
  exact key.and
 have key:res (kZ (31,(16,(0,(a,(wd 0,(wd 0,v))))))) (fun r=>r=true):=by
  simp only [kZ,bw,dJ,eM,va.2,vb.2,vc.2]
  refine ⟨fun _=>⟨fun _=>⟨va.1,fun _=>⟨vb.1,fun _=>⟨vc.1,fun h=>(by cases h),fun _=>⟨fun _=>⟨fun _=>⟨fun _=>zu,fun h=>?_⟩,fun h=>?_⟩,fun h=>?_⟩⟩,fun h=>(by cases h)⟩,fun h=>(by cases h)⟩,fun h=>?_⟩,fun h=>?_⟩
  all_goals exact absurd h (by decide)
 exact key.and
end
end Go.bM.RM
end
section
namespace Go.bM.RM
open Go.bM.RL
open Go.bM
noncomputable section
theorem tr {S:RL.St} {l:RL.L} {o:DO} (h:o.1≠2):Fi (S,(l,o))∧aS (S,(l,o))=(l,wd 0):=by
 have key:res (o5 (S,(l,o))) (fun r=>r=(l,wd 0)):=by
  refine gG (fun _=>?_) fun h1=>absurd (ky.1 h1) h
  exact aB (ae _) (aB rfl (aB rfl (cJ rfl)))
 exact key.and
theorem Kf {x:DI×Int} (hp:uZ x.1) (h:qm x.1=false):CX x∧Cr x=([],2):=by
 have key:res (ue x) (fun r=>r=([],2)):=by
  refine aB hp (gG (fun _=>cJ rfl) fun h1=>?_)
  have h1:(!qm x.1)=false:=h1
  rw [h] at h1;cases h1
 exact key.and
def iz:DI:=(34,(0,(8,(Qi,(Qi,(0,1))))))
theorem FF:oG 0:=⟨by decide,by decide⟩
theorem Nb:wQ 0:=⟨by decide,by decide⟩
theorem wH:uZ iz∧qm iz=true:=by
 have h:=n9 (x:=iz) FF FF Nb
 exact ⟨h.1,h.2.trans (by decide +kernel)⟩
theorem tC:uZ ED∧qm ED=false:=by
 have h:=n9 (x:=ED) FF FF Nb
 exact ⟨h.1,h.2.trans (by decide +kernel)⟩
def vl:bq:=dd 30 8 0 (wd 6) (wd 6) (wd 1)
theorem LQ:CX (iz,5)∧Cr (iz,5)=([vl],0):=by
 have hA:Qi.1≠2:=by decide
 have e1:A1 (iz,5)=([],wd 0):=(tr (S:=S1 (iz,5)) (l:=[]) hA).2
 have e2:A2 (iz,5)=([],wd 0):=by
  have:=(tr (S:=S2 (iz,5)) (l:=(A1 (iz,5)).1) hA).2
  rw [e1] at this
  exact this
 have key:res (ue (iz,5)) (fun r=>r=([vl],0)):=by
  refine aB wH.1 (gG (fun h=>?_) fun _=>?_)
  ·have h:(!qm iz)=true:=h
   rw [wH.2] at h;cases h
  repeat refine aB (by first | exact ae _ | exact af _ | rfl | (with_reducible decide)) ?_
  refine aB (tr (S:=S1 (iz,5)) (l:=[]) hA).1 ?_
  repeat refine aB (by first | exact ae _ | exact af _ | rfl | (with_reducible decide)) ?_
  refine aB (tr (S:=S2 (iz,5)) (l:=(A1 (iz,5)).1) hA).1 ?_
  repeat refine aB (by first | exact ae _ | exact af _ | exact AR | rfl | (with_reducible decide)) ?_
  show res (vC (iz,5)) _
  unfold vC
  repeat refine bw.2 ⟨fun h=>absurd h (by decide),fun _=>?_⟩
  show res (zq (iz,5)) _
  repeat refine aB (by first | exact ae _ | exact af _ | rfl | (with_reducible decide)) ?_
  have p:=Lu (iz,(8,((),(6,((A1 (iz,5)).2,((A2 (iz,5)).2,(wd 6,wd 1))))))) (A2 (iz,5)).1 30 8 0 [wd 6,wd 6,wd 1] (by rw [e2];simp)
  refine aB p.1 ?_
  repeat refine aB (by first | exact ae _ | exact af _ | rfl | (with_reducible decide)) ?_
  refine cJ ?_
  have h2:(cD ((iz,(8,((),(6,((A1 (iz,5)).2,((A2 (iz,5)).2,(wd 6,wd 1))))))),((A2 (iz,5)).1,(30,(8,(0,[wd 6,wd 6,wd 1])))))).1=[vl]:=by
   rw [p.2,e2];rfl
  exact congrArg (fun l:RL.L=>(l,(0:Int))) h2
 exact key.and
theorem B1 (d:bq):Jp ([d],[d])∧O2 ([d],[d])=true:=by
 have last:Ends (iv ([d],[d])) true (iv ([d],[d]) (.h0 1 1)):=by
  simp only [iv]
  rw [eI]
  exact ⟨fun h=>absurd h (by decide),fun _=>.ret⟩
 have first:Ends (iv ([d],[d])) true (iv ([d],[d]) (.h0 1 0)):=by
  simp only [iv]
  rw [eI]
  refine ⟨fun _=>?_,fun h=>absurd h (by decide)⟩
  simp only [eN]
  refine ⟨by decide,by simp,by decide,by simp,?_⟩
  rw [eI]
  refine ⟨fun h=>?_,fun _=>?_⟩
  ·rw [lL (c:=aR) rfl] at h;cases h
  ·rw [eJ];exact last
 have key:Ends (iv ([d],[d])) true (oQ ([d],[d])):=by
  simp only [oQ]
  rw [eI]
  refine ⟨fun h=>absurd h (by simp [dY]),fun _=>?_⟩
  rw [eJ];exact first
 exact ⟨⟨_,key⟩,ec key⟩
theorem Kh (d:bq):Jy ([d],[d])∧LZ ([d],[d])=true:=by
 have key:res (uH ([d],[d])) (fun r=>r=true):=dJ.2 ⟨(B1 d).1,eM.2 (B1 d).2⟩
 exact key.and
def z7:bq:=(1,(8,(0,((ff 32),((false,(0,0)),((false,(0,0)),ED))))))
theorem FL:CW [z7]∧KT [z7]=false:=by
 have two:Ends (dI [z7]) false (dI [z7] (.h1 [cl 32,(false,(0,0)),(false,(0,0))] 0 1 0 [] z7)):=by
  simp only [dI]
  rw [eI]
  refine ⟨fun _=>?_,fun h=>absurd h (by decide)⟩
  simp only [eN]
  refine ⟨by decide,by decide,by decide,?_⟩
  simp only [eI]
  refine ⟨fun _=>⟨fun _=>⟨fun _=>.ret,fun h=>absurd h (by decide)⟩,fun h=>absurd h (by decide)⟩,fun h=>absurd h (by decide)⟩
 have key:Ends (dI [z7]) false (qw [z7]):=by
  simp only [qw]
  rw [eJ]
  simp only [dI]
  rw [eI]
  refine ⟨fun _=>?_,fun h=>absurd h (by simp [cK])⟩
  simp only [eN]
  refine ⟨by decide,by simp,by decide,by decide,by decide,?_⟩
  rw [eJ]
  exact two
 exact ⟨⟨_,key⟩,ec key⟩
theorem ns:Lw ()∧T4 ()=true:=by
 have hn:=LQ
 have hz:=Kf (x:=(ED,5)) tC.1 tC.2
 have h8:CW [vl]∧KT [vl]=true:=Kb (by simp) (.low ⟨fun h=>(by cases h),fun h=>(by cases h),fun h=>by cases h⟩ (by decide) (.nil _))
 have wU:=Kh vl
 have key:res (Ah ()) (fun r=>r=true):=by
  refine aB hn.1 (aB hz.1 ?_)
  have n5:=hn.2
  have z5:=hz.2
  rw [show Cr ((34,(0,(8,((0,(0,(0,(0,(0,(0,(false,0))))))),((0,(0,(0,(0,(0,(0,(false,0))))))),(0,1)))))),5)=([vl],0) from n5,
   show Cr ((0,(0,(0,((0,(0,(0,(0,(0,(0,(false,0))))))),((0,(0,(0,(0,(0,(0,(false,0))))))),(0,0)))))),5)=([],2) from z5]
  have no:∀ {b:Bool} {p:Prop},b=true→b=false→p:=fun h1 h2=>by rw [h1] at h2;cases h2
  refine gG (fun _=>?_) fun h=>no (by decide) h
  refine gG (fun _=>?_) fun h=>no (by decide) h
  refine aB (by decide) (aB (by decide) ?_)
  refine gG (fun _=>?_) fun h=>no (by decide) h
  refine aB (by decide) (aB (by decide) (aB (ae _) ?_))
  refine gG (fun _=>?_) fun h=>no (by rw [show (dm aq (gh aR [vl] 0).2.2.2.1 (aN 6))=true from lL (c:=aq) rfl (wd 6)];rfl) h
  refine gG (fun _=>?_) fun h=>no (by decide) h
  refine aB h8.1 ?_
  refine gG (fun _=>?_) fun h=>no (by rw [show KT ([vl],(0:Int)).1=true from h8.2];rfl) h
  refine aB wU.1 ?_
  refine gG (fun _=>?_) fun h=>no (by rw [show LZ (([vl],(0:Int)).1,([vl],(0:Int)).1)=true from wU.2];rfl) h
  refine aB (af _) (aB (by decide) (aB (by decide) ?_))
  refine aB FL.1 (cJ ?_)
  have e:KT [z7]=false:=FL.2
  show (!KT [z7])=true
  rw [e];rfl
 exact key.and
end
end Go.bM.RM
end
section
namespace Go.bM.RM
open Go.bM.RL
open Go.bM Go.RowKit
noncomputable section
theorem wf_u8 {c:Int} (h:TC.wf (.int .u8) c):wQ c:=by
 simp only [TC.wf,Lit.wf] at h
 have e1:IntKind.u8.min=0:=rfl
 have e2:IntKind.u8.max=255:=rfl
 have:IntKind.u8.min≤c∧c≤IntKind.u8.max:=by simpa using h
 rw [e1,e2] at this
 exact ⟨this.1,by omega⟩
theorem wf_i64 {c:Int} (h:TC.wf (.int .i64) c):oG c:=by
 simp only [TC.wf,Lit.wf] at h
 have e1:IntKind.i64.min = -9223372036854775808:=rfl
 have e2:IntKind.i64.max=9223372036854775807:=rfl
 have:IntKind.i64.min≤c∧c≤IntKind.i64.max:=by simpa using h
 rw [e1,e2] at this
 exact ⟨this.1,by omega⟩
structure WI (x:DI):Prop where
 d:wQ x.1
 c:wQ x.2.1
 a:oG (x.2.2.2.1).2.1
 b:oG (x.2.2.2.2.1).2.1
theorem Qn {x:DI} (h:TC.wf bB x):WI x:=by
 have h4:TC.wf CO x.2.2.2.1:=h.2.2.2.1
 have h5:TC.wf CO x.2.2.2.2.1:=h.2.2.2.2.1
 exact ⟨wf_u8 h.1,wf_u8 h.2.1,wf_i64 h4.2.1,wf_i64 h5.2.1⟩
theorem Vd {rd:Int→Prop} {o:DO} (h:o.1=2→Cq o) (hb:o.1=2→0≤o.2.2.1→rd o.2.2.1) (hi:o.1=2→0≤o.2.2.2.1→rd o.2.2.2.1):T5 rd o:=by
 refine ⟨fun h2 h0=>⟨?_,hb h2 h0⟩,fun h2 h0=>⟨?_,hi h2 h0⟩,fun h2 h0=>?_⟩
 all_goals
  obtain ⟨_,_,_,_,_,h3⟩:=h h2
  omega
theorem pk {o:DO} (h:Ab o):0≤o.2.1∧o.2.1≤15:=⟨h.2.1,by have:=h.2.2;omega⟩
theorem Qo {w:Int} (h:w=1∨w=4∨w=8):aO .u64 (gH .i64 8 w)≠0:=by
 rcases h with rfl | rfl | rfl<;>decide
theorem KX {x:DI} (w:WI x) (h:RX x):XR (fun _=>True) x:=by
 have h6:=Ke w.d w.c
 have jM:=n9 w.a w.b w.c
 refine ⟨h.right,⟨h6.1,by rw [h6.2,← jM.2];exact h.right⟩,h.d,Vd h.mA (fun _ _=>trivial) (fun _ _=>trivial),Vd h.mB (fun _ _=>trivial) (fun _ _=>trivial),fun h34=>?_,fun _ Af=>Qo (h.w (by omega)),
  fun hd _=>⟨fun h1=>?_,fun h1=>?_⟩,fun hd h1=>?_,fun hd h1=>?_,fun hd=>⟨h.kA (by omega),fun h1=>?_⟩,fun hd=>⟨h.kA (by omega),fun h1=>?_⟩,fun _=>trivial,fun _ _=>⟨fun _=>⟨trivial,trivial⟩,fun _=>⟨trivial,trivial⟩,fun _=>⟨trivial,trivial,trivial⟩,fun _ _ _=>trivial⟩,
  fun _ _ _=>⟨trivial,trivial,trivial,fun _=>⟨trivial,trivial,trivial⟩⟩,fun _=>trivial,fun _=>trivial,fun _ _=>trivial⟩
 ·rcases h.w h34 with e | e | e<;>omega
 ·have:=pk (h.gA (by omega) h1);exact ⟨this.1,this.2,trivial⟩
 ·have:=pk (h.gB (by omega) h1);exact ⟨this.1,this.2,trivial⟩
 ·have:=pk (h.gA (by omega) h1);exact ⟨this.1,this.2,trivial⟩
 ·have:=pk (h.gB (by omega) h1);exact ⟨this.1,this.2,trivial⟩
 ·have:=pk (h.gA (by omega) h1);exact ⟨this.1,this.2,fun _=>trivial⟩
 ·have:=pk (h.gA (by omega) h1);exact ⟨this.1,this.2,fun _=>trivial⟩
theorem Mh {rd:Int→Prop} {n n':Int} {l:RL.L} {W:List Int} (h:Ad rd n l n' W) (hn:n'≤64):∀ d∈l,(qE d∧B5 d=true)∧d.1≠30:=by
 induction h with
 | nil=>intro d hd;cases hd
 | cell ho hw hd ha hb hc t ih=>
  have hle:=t.le
  intro e he
  rcases List.mem_cons.1 he with rfl | he
  ·exact ⟨tu ⟨ho.1,by have:=ho.2;omega⟩ hw (.inl ⟨ho,.inl hd⟩) ha hb hc (by omega),by show _≠(30:Int);have:=ho.2;simp only [dd];omega⟩
  ·exact ih hn e he
 | none ho hw ha hb hc t ih=>
  have hle:=t.le
  intro e he
  rcases List.mem_cons.1 he with rfl | he
  ·exact ⟨tu (by omega) hw (.inr ⟨by omega,rfl⟩) ha hb hc (by omega),by show _≠(30:Int);simp only [dd];omega⟩
  ·exact ih hn e he
 | CA ho hw hn1 ha hb hc t ih=>
  have hle:=t.le
  intro e he
  rcases List.mem_cons.1 he with rfl | he
  ·exact ⟨tu ⟨ho.1,by have:=ho.2;omega⟩ hw (.inl ⟨ho,.inr hn1⟩) ha hb hc (by omega),by show _≠(30:Int);have:=ho.2;simp only [dd];omega⟩
  ·exact ih hn e he
 | vec ha hv t ih=>
  have hle:=t.le
  intro e he
  rcases List.mem_cons.1 he with rfl | he
  ·exact ⟨Kl ha (by omega) ⟨hv.1,hv.2.1⟩ hv.2.2,by show (31:Int)≠30;decide⟩
  ·exact ih hn e he
theorem Na {x:DI×Int} {l:RL.L} {g:bq} (hl:l.length≤40) (h6:pre6 x.1∧Ig x.1=true) (hd:∀ d∈l,(qE d∧B5 d=true)∧d.1≠30) (hg:(qE g∧B5 g=true)∧g.1=30) (hb:g.2.2.2.2.1=wd (vU x)):
  ∀ (j i:Nat),j+i=(l++[g]).length→Ends (mM x) true (mM x (.h0 (l++[g]) (i:Int)))
 | 0,i,hj=>by
  have hi:i=l.length+1:=by rw [List.length_append,List.length_singleton] at hj;omega
  have e1:ie .i64 (((l++[g]).length:Nat):Int) 1=(l.length:Int):=by
   rw [List.length_append,List.length_singleton,vk (by omega) (by omega)];omega
  have e2:gh aR (l++[g]) l.length=g:=by rw [fQ (c:=aR) (by simp)];simp
  simp only [mM,e1,Int.toNat_natCast,e2]
  rw [eI]
  refine ⟨fun h=>?_,fun _=>?_⟩
  ·rw [cR,List.length_append,List.length_singleton] at h;omega
  simp only [eN,eI,eR]
  refine ⟨h6.1,fun _=>⟨by omega,by rw [List.length_append,List.length_singleton];omega,ae _,fun _=>⟨ns.1,ns.2⟩,fun h=>?_⟩,fun h=>?_⟩
  ·rw [hb,show dm aq (wd (vU x)) (aN (aU .u64 x.2 (aO .u64 x.1.2.2.2.2.2.2)))=true from lL (c:=aq) rfl (wd (vU x))] at h;cases h
  ·rw [h6.2] at h;cases h
 | j+1,i,hj=>by
  have hi:i < (l++[g]).length:=by omega
  have hi2:i < l.length+1:=by rw [List.length_append,List.length_singleton] at hi;exact hi
  have e1:ie .i64 (((l++[g]).length:Nat):Int) 1=(l.length:Int):=by
   rw [List.length_append,List.length_singleton,vk (by omega) (by omega)];omega
  have e3:aU .i64 (i:Int) 1=((i+1:Nat):Int):=by rw [fw (by omega) (by omega)];omega
  have hdi:(qE (l++[g])[i]∧B5 (l++[g])[i]=true)∧(al (l++[g])[i].1 30==al (i:Int) (l.length:Int))=true:=by
   rcases Nat.lt_or_ge i l.length with h | h
   ·rw [List.getElem_append_left h]
    have:=hd _ (List.getElem_mem h)
    refine ⟨this.1,?_⟩
    rw [dZ.2 this.2,dZ.2 (by omega)];rfl
   ·have:i=l.length:=by omega
    subst this
    rw [List.getElem_append_right (Nat.le_refl _)]
    simp only [Nat.sub_self,List.getElem_cons_zero]
    refine ⟨hg.1,?_⟩
    rw [aH.2 hg.2,aH.2 rfl];rfl
  have ih:=Na (x:=x) hl h6 hd hg hb j (i+1) (by omega)
  simp only [mM,e1,Int.toNat_natCast,fQ (c:=aR) hi]
  rw [eI]
  refine ⟨fun _=>?_,fun h=>by rw [fc] at h;omega⟩
  simp only [eN,eI]
  refine ⟨by omega,by omega,hdi.1.1,fun _=>⟨by omega,by omega,fun h=>?_,fun _=>?_⟩,fun h=>?_⟩
  ·rw [hdi.2] at h;cases h
  ·rw [eJ,e3];exact ih
  ·rw [hdi.1.2] at h;cases h
theorem Ez (x:DI×Int) (w:TC.wf (.st bB (.bp (.int .u64))) x):Sq x∧UU x=true:=by
 have wi:=Qn (x:=x.1) w.1
 have jM:=n9 wi.a wi.b wi.c
 have h6:=Ke wi.d wi.c
 have key:Ends (mM x) true (uG x):=by
  cases hR:qm x.1 with
  | false=>
   obtain ⟨p5,f5⟩:=Kf jM.1 hR
   have hr6:Ig x.1=false:=by rw [h6.2,← jM.2];exact hR
   simp only [uG,f5,hr6,eN,eI,eR]
   refine ⟨p5,fun _=>⟨fun _=>⟨h6.1,fun _=>⟨ns.1,ns.2⟩,fun h=>absurd h (by decide)⟩,fun h=>absurd h (by decide)⟩,fun h=>absurd h (by decide)⟩
  | true=>
   have rx:=Qt wi.a wi.b wi.d wi.c hR
   have h5:=q5 jM.1 (KX wi rx)
   have hr6:pre6 x.1∧Ig x.1=true:=⟨h6.1,by rw [h6.2,← jM.2];exact hR⟩
   have p5:CX x:=h5.1
   obtain ⟨e2,l,n,W,far,cd,e1,g,hf,hc,_⟩:eu (fun _=>True) x (Cr x):=h5.2
   have hn:=g.Tn
   have hlen:=g.len
   have htg:TG 32 (Cr x).1:=by
    rw [e1]
    exact P6 g.Mi (.low ⟨gR hf,gR (aK (rd:=fun _=>True) _),gR hc⟩ (by show (0:Int) < 32;decide) (.nil _))
   have hl1:(Cr x).1.length=l.length+1:=by rw [e1,List.length_append,List.length_singleton]
   have o8:=Kb (x:=(Cr x).1) (by omega) htg
   have o9:=O0 (x:=(Cr x).1) (by omega) htg
   have hall:=Mh g.Mi (by omega)
   have hg:=tu (rd:=fun _=>True) (n:=n) (op:=30) (w:=8) (d:=0) ⟨by decide,by decide⟩ ⟨by decide,by decide⟩ (.inr ⟨by decide,rfl⟩) hf (aK (vU x)) hc (by omega)
   have lp:=Na (x:=x) (l:=l) (g:=dd 30 8 0 far (wd (vU x)) cd) (by omega) hr6 hall ⟨hg,rfl⟩ rfl ((l++[dd 30 8 0 far (wd (vU x)) cd]).length) 0 (by simp)
   rw [← e1] at lp
   simp only [uG,eN,eI,eR,eJ]
   refine ⟨p5,fun h=>?_,fun _=>⟨fun _=>⟨o8.1,fun _=>⟨o9.1,fun h=>?_,fun _=>lp⟩,fun h=>?_⟩,fun h=>?_⟩⟩
   ·rw [e2] at h;exact absurd h (by decide)
   ·rw [o9.2] at h;cases h
   ·rw [o8.2] at h;cases h
   ·have h:al (((Cr x).1.length:Nat):Int) 0=true:=by simpa using h
    rw [aH] at h;omega
 exact ⟨⟨_,key⟩,ec key⟩
end
end Go.bM.RM
end
