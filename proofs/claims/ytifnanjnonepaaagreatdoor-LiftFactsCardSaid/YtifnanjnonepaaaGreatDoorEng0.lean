/- A part of the proof that the laws of this seat hold. Conditions: none beyond the row. -/
import Derived.RangeFuncRecord
import Derived.RangeFuncCalls
import Derived.Below
import Derived.Laws.BytesArg
import Derived.Orders
import Derived.Laws.Cells
import Derived.Laws.CopyRow
import Derived.Laws.Entries
import Derived.Calls
import Derived.Laws.StructEq
import Derived.Laws.MakeOwn
import Derived.Laws.AppendOwn
import Derived.WideKeyArgs
import Derived.Deep.Slices
import Derived.OpenShut
import Derived.Lib.Overlaps
import Derived.Lib.AppendZerosOnto
import Derived.OrdersIn
import Derived.Still
import Derived.KernelRfl
import Derived.Scope
import Derived.TacticsIn
import Derived.RangeFuncLeaves
set_option maxRecDepth 100000
set_option linter.unusedVariables false
set_option linter.unusedSimpArgs false
set_option linter.unusedSectionVars false
section
namespace Go.bz
open Go.RowKit
inductive TC where
 | int (k:IntKind) | bool | str | unit
 | st (a r:TC) | bu (a:TC)
 | slice (c:TC) | arr (n:Nat) (c:TC) | ref (c:TC) | bC
 deriving DecidableEq
@[reducible] def TC.den:TC→Type
 | .int _=>Int | .bool=>Bool | .str=>ByteArray | .unit=>Unit
 | .st a r=>a.den×r.den | .bu a=>a.den
 | .slice c=>List c.den | .arr _ c=>List c.den | .ref c=>c.den | .bC=>Unit
def TC.kP:(c:TC)→c.den
 | .int _=>(0:Int) | .bool=>false | .str=>ByteArray.empty | .unit=>()
 | .st a r=>(a.kP,r.kP) | .bu a=>a.kP
 | .slice _=>[] | .arr n c=>List.replicate n c.kP | .ref c=>c.kP | .bC=>()
def TC.size:TC→Nat
 | .int _=>1 | .bool=>1 | .str=>1 | .unit=>0
 | .st a r=>a.size+r.size | .bu a=>a.size
 | .slice _=>1 | .arr n c=>n * c.size | .ref _=>1 | .bC=>1
def TC.gD:TC→List Nat
 | .st a r=>a.size :: r.gD
 | c=>[match c with | .bu a=>a.size | c=>c.size]
def eZ (c:TC) (xs:List c.den) (i:Nat):c.den:=xs.getD i c.kP
inductive Step where
 | M6 (off i:Nat)
 | idx (s i:Nat)
def Step.off:Step→Nat
 | .M6 off _=>off
 | .idx s i=>i * s
def aJ:List Step→Nat
 | []=>0
 | s :: p=>s.off+aJ p
inductive AV where
 | int (k:IntKind) (n:Int)
 | bool (b:Bool)
 | str (s:ByteArray)
 | raw (v:Value)
 | agg (ss:List Nat) (vs:List AV)
 | arr (n:Nat) (c:TC) (xs:List c.den)
 | lM (vs:List AV)
 | ptr (o:Nat) (p:List Step)
 | ref (v:AV)
 | gf (c:TC) (xs:List c.den)
 | bw (o:Nat) (p:List Step) (s off len:Nat) (cap:Option Nat)
 | fn (f:FuncId) (caps:List AV)
 | ik (l:Nat)
 | mp (o:Nat)
 | any
 | ns (o:Nat)
 | bC
 | yJ (f:FuncId) (fs:List AV)
 | row (o s n:Nat)
instance:Inhabited AV:=⟨.lM []⟩
def AV.undef:AV:=.lM []
def TC.both:(c:TC)→c.den→AV×List AV
 | .int k,n=>(.int k n,[.int k n])
 | .bool,b=>(.bool b,[.bool b])
 | .str,s=>(.str s,[.str s])
 | .unit,_=>(.agg [] [],[.agg [] []])
 | .st a r,x=>let l:=(a.both x.1).1 :: (r.both x.2).2;(.agg (TC.st a r).gD l,l)
 | .bu a,x=>let l:=[(a.both x).1];(.agg [a.size] l,l)
 | .slice c,xs=>(.gf c xs,[.gf c xs])
 | .arr n c,xs=>(.arr n c xs,[.arr n c xs])
 | .ref c,x=>(.ref (c.both x).1,[.ref (c.both x).1])
 | .bC,_=>(.bC,[.bC])
def ph:AV→Bool
 | .agg _ _=>false
 | .arr _ _ _=>false
 | .lM _=>false
 | .any=>false
 | .ns _=>false
 | _=>true
def sA (c:TC) (x:c.den):AV:=(c.both x).1
def oneOf {α:Type} (f:AV→Option α):List AV→Option α
 | [v]=>f v
 | _=>none
def TC.back:(c:TC)→(AV→Option c.den)×(List AV→Option c.den)
 | .int k=>let f:AV→Option Int:=fun v=>match v with | .int k' n=>if k'=k then some n else none | _=>none;(f,oneOf f)
 | .bool=>let f:AV→Option Bool:=fun v=>match v with | .bool b=>some b | _=>none;(f,oneOf f)
 | .str=>let f:AV→Option ByteArray:=fun v=>match v with | .str b=>some b | _=>none;(f,oneOf f)
 | .unit=>let f:AV→Option Unit:=fun v=>match v with | .agg [] []=>some () | _=>none;(f,oneOf f)
 | .st a r=>
  let g:List AV→Option (a.den×r.den):=fun l=>match l with
   | v :: l=>match a.back.1 v with
    | some x=>match r.back.2 l with
     | some y=>some (x,y)
     | none=>none
    | none=>none
   | []=>none
  (fun v=>match v with | .agg ss vs=>if ss=(TC.st a r).gD then g vs else none | _=>none,g)
 | .bu a=>(fun v=>match v with | .agg ss vs=>if ss=[a.size] then oneOf a.back.1 vs else none | _=>none,oneOf a.back.1)
 | .slice c=>
  let f:AV→Option (List c.den):=fun v=>match v with
   | .gf c' xs=>if h:c'=c then some (h▸xs) else none
   | .raw (.slice none 0 0)=>some []
   | _=>none
  (f,oneOf f)
 | .arr n c=>
  let f:AV→Option (List c.den):=fun v=>match v with
   | .arr n' c' xs=>if h:c'=c then (if n'=n then some (h▸xs) else none) else none
   | _=>none
  (f,oneOf f)
 | .ref c=>
  let f:AV→Option c.den:=fun v=>match v with
   | .ref u=>c.back.1 u
   | _=>none
  (f,oneOf f)
 | .bC=>let f:AV→Option Unit:=fun v=>if ph v=true then some () else none;(f,oneOf f)
def Kb (c:TC) (v:AV):Option c.den:=c.back.1 v
structure fL where
 l:List (Option (Nat×Nat))
def fL.get? (b:fL) (i:Nat):Option (Nat×Nat):=(b.l[i]?).join
instance:GetElem? fL Nat (Nat×Nat) (fun b i=>(b.get? i).isSome=true) where
 getElem b i h:=(b.get? i).get h
 getElem? b i:=b.get? i
def fL.length (b:fL):Nat:=b.l.length
def fL.push (b:fL) (x:Nat×Nat):fL:=⟨b.l++[some x]⟩
theorem fL.iA (b:fL) (i:Nat):b[i]?=(b.l[i]?).join:=rfl
theorem fL.lt {b:fL} {i:Nat} {x:Nat×Nat} (h:b[i]?=some x):i < b.length:=by
 rw [fL.iA] at h
 unfold fL.length
 rcases Nat.lt_or_ge i b.l.length with hi | hi
 ·exact hi
 ·rw [List.getElem?_eq_none hi] at h;cases h
theorem fL.jV {b:fL} {i:Nat} {x:Nat×Nat} (h:i < b.length):(b.push x)[i]?=b[i]?:=by
 rw [fL.iA,fL.iA];unfold fL.push;rw [List.getElem?_append_left h]
theorem fL.o3 {b:fL} {x:Nat×Nat}:(b.push x)[b.length]?=some x:=by
 rw [fL.iA];unfold fL.push fL.length;simp
theorem fL.r0 {b:fL} {x:Nat×Nat}:(b.push x).length=b.length+1:=by
 unfold fL.push fL.length;simp
structure aD where
 w0:World
 a5:Nat→Option Obj
 a6:fL
def At (cells:Array Value) (off:Nat) (l:List Value):Prop:=∀ j v,l[j]?=some v→cells[off+j]?=some v
inductive bX {α:Type} (R:α→List Value→Prop):List α→List Value→Prop where
 | nil:bX R [] []
 | cons {x:α} {xs:List α} {l m:List Value} (h:R x l) (t:bX R xs m):bX R (x :: xs) (l++m)
def bO (ι:aD):(c:TC)→c.den→List Value→Prop
 | .int k,n,cs=>cs=[.int k n]
 | .bool,b,cs=>cs=[.bool b]
 | .str,s,cs=>cs=[.string s]
 | .unit,_,cs=>cs=[]
 | .st a r,x,cs=>∃ l m,cs=l++m∧bO ι a x.1 l∧bO ι r x.2 m
 | .bu a,x,cs=>bO ι a x cs
 | .slice c,xs,cs=>∃ v,cs=[v]∧((xs=[]∧(v=.slice none 0 0∨∃ a,v=.slice (some a) 0 0))∨
   ∃ b off k cells t fz l,v=.slice (some ⟨b,off,none⟩) xs.length k∧xs.length≤k∧ι.a5 b=some (.cells cells t fz)∧bX (bO ι c) xs l∧At cells off l)
 | .arr n c,xs,cs=>xs.length=n∧bX (bO ι c) xs cs
 | .ref c,x,cs=>∃ b off cells t fz l,cs=[.pointer (some ⟨b,off,none⟩)]∧ι.a5 b=some (.cells cells t fz)∧bO ι c x l∧At cells off l
 | .bC,_,cs=>∃ v,cs=[v]∧v.oneCell'=true
def dM:AV→Bool
 | .agg _ _=>true
 | .arr _ _ _=>true
 | _=>false
mutual
def aQ (ι:aD):AV→List Value→Prop
 | .int k n,cs=>cs=[.int k n]
 | .bool b,cs=>cs=[.bool b]
 | .str s,cs=>cs=[.string s]
 | .raw v,cs=>cs=[v]∧v.oneCell'=true
 | .agg ss vs,cs=>cH ι ss vs cs
 | .arr n c xs,cs=>bO ι (.arr n c) xs cs
 | .lM _,_=>False
 | .any,_=>False
 | .ns _,_=>False
 | .bC,cs=>∃ v,cs=[v]∧v.oneCell'=true
 | .ptr o p,cs=>∃ b z,ι.a6[o]?=some (b,z)∧cs=[.pointer (some ⟨b,aJ p,none⟩)]
 | .ref v,cs=>∃ b off cells t fz l,cs=[.pointer (some ⟨b,off,none⟩)]∧ι.a5 b=some (.cells cells t fz)∧aQ ι v l∧At cells off l
 | .gf c xs,cs=>bO ι (.slice c) xs cs
 | .bw o p s off len cap,cs=>∃ b z k,ι.a6[o]?=some (b,z)∧cs=[.slice (some ⟨b,aJ p+off * s,none⟩) len k]∧len≤k∧aJ p+(off+k) * s≤z∧(∀ k',cap=some k'→k=k')
 | .fn f caps,cs=>caps.all (fun v=>!dM v)=true∧∃ l,cs=[.func (.func f) #[] l.toArray]∧cH ι (List.replicate caps.length 1) caps l
 | .yJ f fs,cs=>fs.all (fun v=>!dM v)=true∧∃ l,cs=[.func (.func f) l.toArray #[]]∧cH ι (List.replicate fs.length 1) fs l
 | .ik l,cs=>∃ b z,ι.a6[l]?=some (b,z)∧cs=[.func (.yield b) #[] #[]]
 | .mp o,cs=>∃ b z,ι.a6[o]?=some (b,z)∧cs=[.map (some b)]
 | .row o s n,cs=>∃ b z v,ι.a6[o]?=some (b,z)∧cs=[v]∧((n=0∧v=.slice none 0 0)∨(0 < n∧∃ k,v=.slice (some ⟨b,0,none⟩) n k∧n≤k∧k * s≤z))
def cH (ι:aD):List Nat→List AV→List Value→Prop
 | ss,[],cs=>ss=[]∧cs=[]
 | ss,v :: vs,cs=>∃ s ss' l m,ss=s :: ss'∧cs=l++m∧l.length=s∧aQ ι v l∧cH ι ss' vs m
end
end Go.bz
end
section
namespace Go.bz
open Go.RowKit
structure Sub (ι ι':aD):Prop where
 a5:∀ b cells t fz,ι.a5 b=some (.cells cells t fz)→ι'.a5 b=some (.cells cells t fz)
 a6:∀ (i:Nat) x,ι.a6[i]?=some x→ι'.a6[i]?=some x
structure Ext (ι ι':aD):Prop where
 w0:ι'.w0=ι.w0
 a5:∀ b o,ι.a5 b=some o→ι'.a5 b=some o
 a6:∀ (i:Nat) x,ι.a6[i]?=some x→ι'.a6[i]?=some x
 fI:∀ b,b < ι.w0.heap.size→ι'.a5 b=ι.a5 b
theorem Ext.sub {ι ι':aD} (h:Ext ι ι'):Sub ι ι':=⟨fun b _ _ _ e=>h.a5 b _ e,h.a6⟩
theorem Ext.refl (ι:aD):Ext ι ι:=⟨rfl,fun _ _ h=>h,fun _ _ h=>h,fun _ _=>rfl⟩
theorem Ext.trans {a b c:aD} (h:Ext a b) (k:Ext b c):Ext a c:=
 ⟨k.w0.trans h.w0,fun x o e=>k.a5 x o (h.a5 x o e),fun i x e=>k.a6 i x (h.a6 i x e),fun x hx=>(k.fI x (by rw [h.w0];exact hx)).trans (h.fI x hx)⟩
theorem bX.mono {α:Type} {R R':α→List Value→Prop} (h:∀ x l,R x l→R' x l) {xs:List α} {l:List Value} (k:bX R xs l):bX R' xs l:=by
 induction k with
 | nil=>exact .nil
 | cons h1 _ ih=>exact .cons (h _ _ h1) ih
theorem bX.app {α:Type} {R:α→List Value→Prop} {xs ys:List α} {l m:List Value} (h:bX R xs l) (k:bX R ys m):bX R (xs++ys) (l++m):=by
 induction h with
 | nil=>exact k
 | cons h1 _ ih=>rw [List.cons_append,List.append_assoc];exact .cons h1 ih
theorem bX.len {α:Type} {R:α→List Value→Prop} {s:Nat} (hs:∀ x l,R x l→l.length=s) {xs:List α} {l:List Value} (h:bX R xs l):l.length=xs.length * s:=by
 induction h with
 | nil=>simp
 | cons h1 _ ih=>simp [hs _ _ h1,ih,Nat.add_mul,Nat.add_comm]
theorem bX.split {α:Type} {R:α→List Value→Prop} {s:Nat} (hs:∀ x l,R x l→l.length=s) {xs:List α} {l:List Value} (h:bX R xs l):
  ∀ i,i≤xs.length→∃ l1 l2,l=l1++l2∧l1.length=i * s∧bX R (xs.take i) l1∧bX R (xs.drop i) l2:=by
 induction h with
 | nil=>intro i hi;exact ⟨[],[],rfl,by simp at hi;simp [hi],by simpa using .nil,by simpa using .nil⟩
 | cons h1 t ih=>
  intro i hi
  cases i with
  | zero=>exact ⟨[],_,rfl,by simp,by simpa using .nil,by simpa using .cons h1 t⟩
  | succ i=>
   obtain ⟨l1,l2,e,e1,r1,r2⟩:=ih i (by simpa using hi)
   exact ⟨_++l1,l2,by rw [e,List.append_assoc],by simp [hs _ _ h1,e1,Nat.add_mul,Nat.add_comm],by simpa using .cons h1 r1,by simpa using r2⟩
theorem bX.at {α:Type} {R:α→List Value→Prop} {s:Nat} (hs:∀ x l,R x l→l.length=s) {xs:List α} {l:List Value} (h:bX R xs l) (i:Nat) (x:α) (hx:xs[i]?=some x):
  ∃ l1 m l2,l=l1++m++l2∧l1.length=i * s∧R x m∧∀ y m',R y m'→bX R (xs.set i y) (l1++m'++l2):=by
 have hi:=(List.getElem?_eq_some_iff.1 hx).1
 obtain ⟨l1,l2,e,e1,r1,r2⟩:=h.split hs i (by omega)
 have hd:xs.drop i=x :: xs.drop (i+1):=by
  rw [List.drop_eq_getElem_cons hi];rw [(List.getElem?_eq_some_iff.1 hx).2]
 rw [hd] at r2
 cases r2 with
 | cons h1 t=>
  refine ⟨l1,_,_,by rw [e,List.append_assoc],e1,h1,fun y m' hy=>?_⟩
  rw [List.set_eq_take_append_cons_drop,if_pos hi,List.append_assoc]
  exact r1.app (.cons hy t)
theorem cn {ι ι':aD} (h:Sub ι ι'):∀ (c:TC) (x:c.den) (cs:List Value),bO ι c x cs→bO ι' c x cs
 | .int _,_,_,k=>k
 | .bool,_,_,k=>k
 | .str,_,_,k=>k
 | .unit,_,_,k=>k
 | .st a r,_,_,⟨l,m,e,k1,k2⟩=>⟨l,m,e,cn h a _ _ k1,cn h r _ _ k2⟩
 | .bu a,_,_,k=>cn h a _ _ k
 | .slice _,_,_,⟨v,e,.inl k⟩=>⟨v,e,.inl k⟩
 | .slice c,_,_,⟨v,e,.inr ⟨b,off,kk,cells,t,fz,l,e1,hk,hp,hr,ha⟩⟩=>
  ⟨v,e,.inr ⟨b,off,kk,cells,t,fz,l,e1,hk,h.a5 _ _ _ _ hp,hr.mono (fun x l=>cn h c x l),ha⟩⟩
 | .arr _ c,_,_,⟨hn,hr⟩=>⟨hn,hr.mono (fun x l=>cn h c x l)⟩
 | .ref c,_,_,⟨b,off,cells,t,fz,l,e,hp,hr,ha⟩=>⟨b,off,cells,t,fz,l,e,h.a5 _ _ _ _ hp,cn h c _ _ hr,ha⟩
 | .bC,_,_,k=>k
theorem a7 {ι:aD}:∀ (c:TC) (x:c.den) (cs:List Value),bO ι c x cs→cs.length=c.size
 | .int _,_,_,k=>by rw [show _=_ from k];rfl
 | .bool,_,_,k=>by rw [show _=_ from k];rfl
 | .str,_,_,k=>by rw [show _=_ from k];rfl
 | .unit,_,_,k=>by rw [show _=_ from k];rfl
 | .st a r,_,_,⟨l,m,e,k1,k2⟩=>by rw [e,List.length_append,a7 a _ _ k1,a7 r _ _ k2];rfl
 | .bu a,_,_,k=>a7 a _ _ k
 | .slice _,_,_,⟨v,e,_⟩=>by rw [e];rfl
 | .arr n c,_,_,⟨hn,hr⟩=>by rw [hr.len (a7 c),hn];rfl
 | .ref _,_,_,⟨b,off,cells,t,fz,l,e,_⟩=>by rw [e];rfl
 | .bC,_,_,⟨v,e,_⟩=>by rw [e];rfl
mutual
theorem b6 {ι ι':aD} (h:Sub ι ι'):∀ (v:AV) (cs:List Value),aQ ι v cs→aQ ι' v cs
 | .int _ _,_,k=>by rw [aQ] at *;exact k
 | .bool _,_,k=>by rw [aQ] at *;exact k
 | .str _,_,k=>by rw [aQ] at *;exact k
 | .raw _,_,k=>by rw [aQ] at *;exact k
 | .agg _ vs,_,k=>by rw [aQ] at *;exact jO h _ vs _ k
 | .arr _ _ _,_,k=>by rw [aQ] at *;exact cn h _ _ _ k
 | .lM _,_,k=>by rw [aQ] at *;exact k
 | .any,_,k=>by rw [aQ] at *;exact k
 | .ns _,_,k=>by rw [aQ] at *;exact k
 | .bC,_,k=>by rw [aQ] at *;exact k
 | .ptr _ _,_,k=>by rw [aQ] at *;obtain ⟨b,z,e,k⟩:=k;exact ⟨b,z,h.a6 _ _ e,k⟩
 | .ref v,_,k=>by
  rw [aQ] at *;obtain ⟨b,off,cells,t,fz,l,e,hp,hr,ha⟩:=k;exact ⟨b,off,cells,t,fz,l,e,h.a5 _ _ _ _ hp,b6 h v _ hr,ha⟩
 | .gf _ _,_,k=>by rw [aQ] at *;exact cn h _ _ _ k
 | .bw _ _ _ _ _ _,_,k=>by rw [aQ] at *;obtain ⟨b,z,kk,e,k⟩:=k;exact ⟨b,z,kk,h.a6 _ _ e,k⟩
 | .fn _ caps,_,k=>by rw [aQ] at *;obtain ⟨hc,l,e,k⟩:=k;exact ⟨hc,l,e,jO h _ caps _ k⟩
 | .yJ _ caps,_,k=>by rw [aQ] at *;obtain ⟨hc,l,e,k⟩:=k;exact ⟨hc,l,e,jO h _ caps _ k⟩
 | .ik _,_,k=>by rw [aQ] at *;obtain ⟨b,z,e,k⟩:=k;exact ⟨b,z,h.a6 _ _ e,k⟩
 | .mp _,_,k=>by rw [aQ] at *;obtain ⟨b,z,e,k⟩:=k;exact ⟨b,z,h.a6 _ _ e,k⟩
 | .row _ _ _,_,k=>by rw [aQ] at *;obtain ⟨b,z,v,e,k⟩:=k;exact ⟨b,z,v,h.a6 _ _ e,k⟩
theorem jO {ι ι':aD} (h:Sub ι ι'):∀ (ss:List Nat) (vs:List AV) (cs:List Value),cH ι ss vs cs→cH ι' ss vs cs
 | _,[],_,k=>by rw [cH] at *;exact k
 | _,v :: vs,_,k=>by
  rw [cH] at *;obtain ⟨s,ss',l,m,e1,e2,e3,k1,k2⟩:=k
  exact ⟨s,ss',l,m,e1,e2,e3,b6 h v _ k1,jO h ss' vs _ k2⟩
end
theorem xx {ι ι':aD} (h:Ext ι ι'):∀ (v:AV) (cs:List Value),aQ ι v cs→aQ ι' v cs:=b6 h.sub
def l4:AV→Nat
 | .agg ss _=>ss.sum
 | .arr n c _=>n * c.size
 | .lM _=>0
 | .any=>0
 | .ns _=>0
 | _=>1
theorem D7 {ι:aD}:∀ (vs:List AV) (ss:List Nat) (cs:List Value),cH ι ss vs cs→cs.length=ss.sum
 | [],_,_,k=>by rw [cH] at k;rw [k.1,k.2];rfl
 | v :: vs,_,_,k=>by
  rw [cH] at k;obtain ⟨s,ss',l,m,e1,e2,e3,k1,k2⟩:=k
  rw [e1,e2,List.length_append,e3,D7 vs _ _ k2];simp
theorem fH {ι:aD}:∀ (v:AV) (cs:List Value),aQ ι v cs→cs.length=l4 v
 | .int _ _,_,k=>by rw [aQ] at k;rw [k];rfl
 | .bool _,_,k=>by rw [aQ] at k;rw [k];rfl
 | .str _,_,k=>by rw [aQ] at k;rw [k];rfl
 | .raw _,_,k=>by rw [aQ] at k;rw [k.1];rfl
 | .agg _ vs,_,k=>by rw [aQ] at k;exact D7 vs _ _ k
 | .arr n c _,_,k=>by rw [aQ] at k;exact a7 (.arr n c) _ _ k
 | .lM _,_,k=>by rw [aQ] at k;exact k.elim
 | .any,_,k=>by rw [aQ] at k;exact k.elim
 | .ns _,_,k=>by rw [aQ] at k;exact k.elim
 | .bC,_,k=>by rw [aQ] at k;obtain ⟨v,e,_⟩:=k;rw [e];rfl
 | .ptr _ _,_,k=>by rw [aQ] at k;obtain ⟨b,z,e,k⟩:=k;rw [k];rfl
 | .ref v,_,k=>by rw [aQ] at k;obtain ⟨b,off,cells,t,fz,l,e,_⟩:=k;rw [e];rfl
 | .gf _ _,_,k=>by rw [aQ] at k;obtain ⟨v,e,_⟩:=k;rw [e];rfl
 | .bw _ _ _ _ _ _,_,k=>by rw [aQ] at k;obtain ⟨b,z,kk,e,k,_⟩:=k;rw [k];rfl
 | .fn _ caps,_,k=>by rw [aQ] at k;obtain ⟨_,l,e,k⟩:=k;rw [e];rfl
 | .yJ _ caps,_,k=>by rw [aQ] at k;obtain ⟨_,l,e,k⟩:=k;rw [e];rfl
 | .ik _,_,k=>by rw [aQ] at k;obtain ⟨b,z,e,k⟩:=k;rw [k];rfl
 | .mp _,_,k=>by rw [aQ] at k;obtain ⟨b,z,e,k⟩:=k;rw [k];rfl
 | .row _ _ _,_,k=>by rw [aQ] at k;obtain ⟨b,z,v,e,k,_⟩:=k;rw [k];rfl
theorem eE {ι:aD} (s:Nat) (v:AV) (cs:List Value):cH ι [s] [v] cs↔cs.length=s∧aQ ι v cs:=by
 simp only [cH]
 constructor
 ·rintro ⟨s',ss',l,m,e1,e2,e3,k1,rfl,rfl⟩
  cases e1;subst e2;simp;exact ⟨e3,k1⟩
 ·rintro ⟨h,k⟩;exact ⟨s,[],cs,[],rfl,by simp,h,k,rfl,rfl⟩
theorem j6 {ι:aD}:∀ (c:TC) (x:c.den) (cs:List Value),(aQ ι (c.both x).1 cs↔bO ι c x cs)∧(cH ι c.gD (c.both x).2 cs↔bO ι c x cs)
 | .int k,_,cs=>by
  have h:∀ v,aQ ι (.int k v) cs↔bO ι (.int k) v cs:=fun v=>by rw [aQ,bO]
  exact ⟨h _,by simp only [TC.both,TC.gD,eE];rw [h];exact ⟨fun k=>k.2,fun k=>⟨a7 _ _ _ k,k⟩⟩⟩
 | .bool,_,cs=>by
  have h:∀ v,aQ ι (.bool v) cs↔bO ι .bool v cs:=fun v=>by rw [aQ,bO]
  exact ⟨h _,by simp only [TC.both,TC.gD,eE];rw [h];exact ⟨fun k=>k.2,fun k=>⟨a7 _ _ _ k,k⟩⟩⟩
 | .str,_,cs=>by
  have h:∀ v,aQ ι (.str v) cs↔bO ι .str v cs:=fun v=>by rw [aQ,bO]
  exact ⟨h _,by simp only [TC.both,TC.gD,eE];rw [h];exact ⟨fun k=>k.2,fun k=>⟨a7 _ _ _ k,k⟩⟩⟩
 | .unit,_,cs=>by
  have h:aQ ι (.agg [] []) cs↔bO ι .unit () cs:=by rw [aQ,bO,cH];simp
  exact ⟨h,by simp only [TC.both,TC.gD,eE];rw [h];exact ⟨fun k=>k.2,fun k=>⟨a7 _ _ _ k,k⟩⟩⟩
 | .st a r,x,cs=>by
  have key:cH ι (TC.st a r).gD ((TC.st a r).both x).2 cs↔bO ι (.st a r) x cs:=by
   simp only [TC.both,cH,TC.gD,bO]
   constructor
   ·rintro ⟨s,ss',l,m,e1,e2,e3,k1,k2⟩
    cases e1
    exact ⟨l,m,e2,((j6 a x.1 l).1).1 k1,((j6 r x.2 m).2).1 k2⟩
   ·rintro ⟨l,m,e,k1,k2⟩
    exact ⟨_,_,l,m,rfl,e,a7 _ _ _ k1,((j6 a x.1 l).1).2 k1,((j6 r x.2 m).2).2 k2⟩
  refine ⟨?_,key⟩
  rw [← key];simp only [TC.both];rw [aQ]
 | .bu a,x,cs=>by
  have key:cH ι (TC.bu a).gD ((TC.bu a).both x).2 cs↔bO ι (.bu a) x cs:=by
   simp only [TC.both,TC.gD,eE,bO,(j6 a x cs).1]
   exact ⟨fun k=>k.2,fun k=>⟨a7 _ _ _ k,k⟩⟩
  refine ⟨?_,key⟩
  rw [← key];simp only [TC.both];rw [aQ];rfl
 | .slice c,xs,cs=>by
  have h:aQ ι (.gf c xs) cs↔bO ι (.slice c) xs cs:=by rw [aQ]
  exact ⟨h,by simp only [TC.both,TC.gD,eE];rw [h];exact ⟨fun k=>k.2,fun k=>⟨a7 (.slice c) _ _ k,k⟩⟩⟩
 | .arr n c,xs,cs=>by
  have h:aQ ι (.arr n c xs) cs↔bO ι (.arr n c) xs cs:=by rw [aQ]
  exact ⟨h,by simp only [TC.both,TC.gD,eE];rw [h];exact ⟨fun k=>k.2,fun k=>⟨a7 (.arr n c) _ _ k,k⟩⟩⟩
 | .ref c,x,cs=>by
  have h:aQ ι (.ref (c.both x).1) cs↔bO ι (.ref c) x cs:=by
   rw [aQ];simp only [bO]
   constructor
   ·rintro ⟨b,off,cells,t,fz,l,e,hp,hr,ha⟩;exact ⟨b,off,cells,t,fz,l,e,hp,((j6 c x l).1).1 hr,ha⟩
   ·rintro ⟨b,off,cells,t,fz,l,e,hp,hr,ha⟩;exact ⟨b,off,cells,t,fz,l,e,hp,((j6 c x l).1).2 hr,ha⟩
  exact ⟨h,by simp only [TC.both,TC.gD,eE];rw [h];exact ⟨fun k=>k.2,fun k=>⟨a7 (.ref c) _ _ k,k⟩⟩⟩
 | .bC,_,cs=>by
  have h:aQ ι .bC cs↔bO ι .bC () cs:=by rw [aQ,bO]
  exact ⟨h,by simp only [TC.both,TC.gD,eE];rw [h];exact ⟨fun k=>k.2,fun k=>⟨a7 .bC () _ k,k⟩⟩⟩
theorem p8 {ι:aD} {v:AV} {cs:List Value} (h:ph v=true) (k:aQ ι v cs):∃ c,cs=[c]∧c.oneCell'=true:=by
 cases v<;>first | (simp [ph] at h;done) | skip
 all_goals rw [aQ] at k
 case int=>exact ⟨_,k,by simp [Value.oneCell']⟩
 case bool=>exact ⟨_,k,by simp [Value.oneCell']⟩
 case str=>exact ⟨_,k,by simp [Value.oneCell']⟩
 case raw=>exact ⟨_,k⟩
 case ptr=>obtain ⟨b,z,_,k⟩:=k;exact ⟨_,k,by simp [Value.oneCell']⟩
 case ref=>obtain ⟨b,off,cells,t,fz,l,e,_⟩:=k;exact ⟨_,e,by simp [Value.oneCell']⟩
 case gf=>
  obtain ⟨v,e,k⟩:=k
  refine ⟨v,e,?_⟩
  rcases k with ⟨_,rfl | ⟨a,rfl⟩⟩ | ⟨b,off,kk,cells,t,fz,l,rfl,_⟩<;>simp [Value.oneCell']
 case bw=>obtain ⟨b,z,kk,_,k,_⟩:=k;exact ⟨_,k,by simp [Value.oneCell']⟩
 case fn=>obtain ⟨_,l,k,_⟩:=k;exact ⟨_,k,by simp [Value.oneCell']⟩
 case yJ=>obtain ⟨_,l,k,_⟩:=k;exact ⟨_,k,by simp [Value.oneCell']⟩
 case ik=>obtain ⟨b,z,_,k⟩:=k;exact ⟨_,k,by simp [Value.oneCell']⟩
 case mp=>obtain ⟨b,z,_,k⟩:=k;exact ⟨_,k,by simp [Value.oneCell']⟩
 case row=>
  obtain ⟨b,z,v,_,k,h⟩:=k
  refine ⟨v,k,?_⟩
  rcases h with ⟨_,rfl⟩ | ⟨_,k,rfl,_⟩<;>simp [Value.oneCell']
 case bC=>exact k
theorem eD {ι:aD} {c:TC} {x:c.den} {cs:List Value}:aQ ι (sA c x) cs↔bO ι c x cs:=(j6 c x cs).1
theorem jA {α:Type} {f:AV→Option α} {l:List AV} {x:α} (h:oneOf f l=some x):∃ v,l=[v]∧f v=some x:=by
 match l,h with
 | [v],h=>exact ⟨v,rfl,h⟩
theorem OI {ι:aD}:∀ (c:TC),(∀ v x cs,c.back.1 v=some x→aQ ι v cs→bO ι c x cs)∧(∀ vs x cs,c.back.2 vs=some x→cH ι c.gD vs cs→bO ι c x cs):=by
 have lone_ok:∀ (c:TC) (s:Nat) (f:AV→Option c.den),(∀ v x cs,f v=some x→aQ ι v cs→bO ι c x cs)→∀ vs x cs,oneOf f vs=some x→cH ι [s] vs cs→bO ι c x cs:=by
  intro c s f hf vs x cs h k
  obtain ⟨v,rfl,hv⟩:=jA h
  rw [eE] at k
  exact hf _ _ _ hv k.2
 intro c
 induction c with
 | int k=>
  have h1:∀ v x cs,(TC.int k).back.1 v=some x→aQ ι v cs→bO ι (.int k) x cs:=by
   intro v x cs h r
   cases v<;>simp [TC.back] at h
   obtain ⟨h1,h2⟩:=h;subst h1;subst h2;rw [aQ] at r;exact r
  exact ⟨h1,lone_ok _ _ _ h1⟩
 | bool=>
  have h1:∀ v x cs,(TC.bool).back.1 v=some x→aQ ι v cs→bO ι .bool x cs:=by
   intro v x cs h r
   cases v<;>simp [TC.back] at h
   subst h;rw [aQ] at r;exact r
  exact ⟨h1,lone_ok _ _ _ h1⟩
 | str=>
  have h1:∀ v x cs,(TC.str).back.1 v=some x→aQ ι v cs→bO ι .str x cs:=by
   intro v x cs h r
   cases v<;>simp [TC.back] at h
   subst h;rw [aQ] at r;exact r
  exact ⟨h1,lone_ok _ _ _ h1⟩
 | unit=>
  have h1:∀ v x cs,(TC.unit).back.1 v=some x→aQ ι v cs→bO ι .unit x cs:=by
   intro v x cs h r
   simp only [TC.back] at h
   split at h
   ·rw [aQ,cH] at r;exact r.2
   ·cases h
  exact ⟨h1,lone_ok _ _ _ h1⟩
 | st a r iha ihr=>
  have h2:∀ vs x cs,(TC.st a r).back.2 vs=some x→cH ι (TC.st a r).gD vs cs→bO ι (.st a r) x cs:=by
   intro vs x cs h k
   simp only [TC.back] at h
   split at h
   ·rename_i v l
    split at h
    ·rename_i y hy
     split at h
     ·rename_i z hz
      simp only [Option.some.injEq] at h;subst h
      rw [cH] at k
      obtain ⟨s,ss',l',m,e1,e2,e3,k1,k2⟩:=k
      simp only [TC.gD,List.cons.injEq] at e1
      obtain ⟨e1,e1'⟩:=e1;subst e1;subst e1'
      exact ⟨l',m,e2,iha.1 _ _ _ hy k1,ihr.2 _ _ _ hz k2⟩
     ·cases h
    ·cases h
   ·cases h
  refine ⟨fun v x cs h k=>?_,h2⟩
  simp only [TC.back] at h
  split at h
  ·split at h
   ·rename_i e
    rw [aQ,e] at k
    exact h2 _ _ _ (by simpa only [TC.back] using h) k
   ·cases h
  ·cases h
 | bu a iha=>
  have h2:∀ vs x cs,(TC.bu a).back.2 vs=some x→cH ι (TC.bu a).gD vs cs→bO ι (.bu a) x cs:=fun vs x cs h k=>lone_ok a _ _ iha.1 vs x cs h k
  refine ⟨fun v x cs h k=>?_,h2⟩
  simp only [TC.back] at h
  split at h
  ·split at h
   ·rename_i e
    rw [aQ,e] at k
    exact h2 _ _ _ h k
   ·cases h
  ·cases h
 | slice c _=>
  have h1:∀ v x cs,(TC.slice c).back.1 v=some x→aQ ι v cs→bO ι (.slice c) x cs:=by
   intro v x cs h r
   simp only [TC.back] at h
   split at h
   ·split at h
    ·rename_i e;subst e
     simp only [Option.some.injEq] at h;subst h
     rw [aQ] at r;exact r
    ·cases h
   ·simp only [Option.some.injEq] at h;subst h
    rw [aQ] at r
    exact ⟨_,r.1,.inl ⟨rfl,.inl rfl⟩⟩
   ·cases h
  exact ⟨h1,lone_ok _ _ _ h1⟩
 | arr n c _=>
  have h1:∀ v x cs,(TC.arr n c).back.1 v=some x→aQ ι v cs→bO ι (.arr n c) x cs:=by
   intro v x cs h r
   simp only [TC.back] at h
   split at h
   ·split at h
    ·rename_i e;subst e
     split at h
     ·rename_i e;subst e
      simp only [Option.some.injEq] at h;subst h
      rw [aQ] at r;exact r
     ·cases h
    ·cases h
   ·cases h
  exact ⟨h1,lone_ok _ _ _ h1⟩
 | ref c ih=>
  have h1:∀ v x cs,(TC.ref c).back.1 v=some x→aQ ι v cs→bO ι (.ref c) x cs:=by
   intro v x cs h r
   simp only [TC.back] at h
   split at h
   ·rw [aQ] at r
    obtain ⟨b,off,cells,t,fz,l,e,hp,hr,ha⟩:=r
    exact ⟨b,off,cells,t,fz,l,e,hp,ih.1 _ _ _ h hr,ha⟩
   ·cases h
  exact ⟨h1,lone_ok _ _ _ h1⟩
 | bC=>
  have h1:∀ v x cs,(TC.bC).back.1 v=some x→aQ ι v cs→bO ι .bC x cs:=by
   intro v x cs h r
   simp only [TC.back] at h
   split at h
   ·rename_i hv;exact p8 hv r
   ·cases h
  exact ⟨h1,lone_ok _ _ _ h1⟩
theorem nz {ι:aD} {c:TC} {v:AV} {x:c.den} {cs:List Value} (h:Kb c v=some x) (k:aQ ι v cs):bO ι c x cs:=(OI c).1 v x cs h k
end Go.bz
end
section
namespace Go.bz
open Go.RowKit
def holds:List Prop→Prop
 | []=>True
 | q :: qs=>q∧holds qs
def lX:List Prop→Prop→Prop
 | [],p=>p
 | q :: qs,p=>q∧lX qs p
theorem cE:∀ {qs:List Prop} {p:Prop},lX qs p→holds qs∧p
 | [],_,h=>⟨trivial,h⟩
 | _ :: _,_,h=>⟨⟨h.1,(cE h.2).1⟩,(cE h.2).2⟩
theorem bJ:∀ {qs ps:List Prop},holds (qs++ps)↔holds qs∧holds ps
 | [],ps=>by simp [holds]
 | q :: qs,ps=>by simp [holds,bJ (qs:=qs),and_assoc]
def ix:AV→List Step→Option (List Prop×AV)
 | v,[]=>some ([],v)
 | v,s :: p=>match v,s with
  | .agg ss vs,.M6 off i=>if off=(ss.take i).sum then (match vs[i]? with | some u=>ix u p | none=>none) else none
  | .agg ss vs,.idx s i=>if i * s=(ss.take i).sum then (match vs[i]? with | some u=>ix u p | none=>none) else none
  | .arr n c xs,.idx s i=>if s=c.size then (match ix (sA c (eZ c xs i)) p with | some (q,u)=>some ((i < n) :: q,u) | none=>none) else none
  | _,_=>none
def sw:AV→List Step→AV→Option AV
 | _,[],u=>some u
 | v,s :: p,u=>match v,s with
  | .agg ss vs,.M6 _ i=>(match vs[i]? with | some x=>(match sw x p u with | some y=>some (.agg ss (vs.set i y)) | none=>none) | none=>none)
  | .agg ss vs,.idx _ i=>(match vs[i]? with | some x=>(match sw x p u with | some y=>some (.agg ss (vs.set i y)) | none=>none) | none=>none)
  | .arr n c xs,.idx _ i=>(match sw (sA c (eZ c xs i)) p u with | some y=>(match Kb c y with | some x=>some (.arr n c (xs.set i x)) | none=>none) | none=>none)
  | _,_=>none
theorem BR {ι:aD}:∀ (vs:List AV) (ss:List Nat) (cs:List Value) (i:Nat) (u:AV),cH ι ss vs cs→vs[i]?=some u→
  ∃ l1 m l2,cs=l1++m++l2∧l1.length=(ss.take i).sum∧aQ ι u m∧∀ y m',aQ ι y m'→m'.length=m.length→cH ι ss (vs.set i y) (l1++m'++l2)
 | [],_,_,_,_,_,h=>by simp at h
 | v :: vs,ss,cs,i,u,k,h=>by
  rw [cH] at k
  obtain ⟨s,ss',l,m,rfl,rfl,e3,k1,k2⟩:=k
  cases i with
  | zero=>
   simp only [List.getElem?_cons_zero,Option.some.injEq] at h;subst h
   refine ⟨[],l,m,rfl,rfl,k1,fun y m' hy hl=>?_⟩
   rw [List.set_cons_zero,cH]
   exact ⟨s,ss',m',m,rfl,rfl,hl.trans e3,hy,k2⟩
  | succ i=>
   simp only [List.getElem?_cons_succ] at h
   obtain ⟨l1,m1,l2,e,e1,hu,hs⟩:=BR vs ss' m i u k2 h
   refine ⟨l++l1,m1,l2,by rw [e];simp [List.append_assoc],by simp [e3,e1],hu,fun y m' hy hl=>?_⟩
   rw [List.set_cons_succ,cH]
   exact ⟨s,ss',l,l1++m'++l2,rfl,by simp [List.append_assoc],e3,k1,hs y m' hy hl⟩
theorem Co {c:TC} {xs:List c.den} {i:Nat} (h:i < xs.length):xs[i]?=some (eZ c xs i):=by
 simp [eZ,h]
theorem fe {ι:aD}:∀ (p:List Step) (v:AV) (l:List Value) (q:List Prop) (u:AV),ix v p=some (q,u)→holds q→aQ ι v l→
  ∃ l1 m l2,l=l1++m++l2∧l1.length=aJ p∧aQ ι u m∧∀ y m' v',sw v p y=some v'→aQ ι y m'→m'.length=m.length→aQ ι v' (l1++m'++l2)
 | [],v,l,q,u,h,hq,r=>by
  simp only [ix,Option.some.injEq,Prod.mk.injEq] at h
  obtain ⟨rfl,rfl⟩:=h
  refine ⟨[],l,[],by simp,rfl,r,fun y m' v' hv hy _=>?_⟩
  simp only [sw,Option.some.injEq] at hv;subst hv
  simpa using hy
 | s :: p,v,l,q,u,h,hq,r=>by
  simp only [ix] at h
  split at h
  ·rename_i ss vs off i
   split at h
   ·rename_i hoff
    split at h
    ·rename_i x hx
     rw [aQ] at r
     obtain ⟨l1,m,l2,e,e1,hu,hs⟩:=BR vs ss l i x r hx
     obtain ⟨k1,m1,k2,e',e1',hu',hs'⟩:=fe p x m q u h hq hu
     refine ⟨l1++k1,m1,k2++l2,by rw [e,e'];simp [List.append_assoc],by simp [e1,e1',aJ,Step.off,hoff],hu',fun y m' v' hv hy hl=>?_⟩
     simp only [sw,hx] at hv
     split at hv
     ·rename_i z hz
      simp only [Option.some.injEq] at hv;subst hv
      rw [aQ]
      have:=hs z (k1++m'++k2) (hs' y m' z hz hy hl) (by rw [e'];simp [hl])
      simpa [List.append_assoc] using this
     ·cases hv
    ·cases h
   ·cases h
  ·rename_i ss vs sz i
   split at h
   ·rename_i hoff
    split at h
    ·rename_i x hx
     rw [aQ] at r
     obtain ⟨l1,m,l2,e,e1,hu,hs⟩:=BR vs ss l i x r hx
     obtain ⟨k1,m1,k2,e',e1',hu',hs'⟩:=fe p x m q u h hq hu
     refine ⟨l1++k1,m1,k2++l2,by rw [e,e'];simp [List.append_assoc],by simp [e1,e1',aJ,Step.off,hoff],hu',fun y m' v' hv hy hl=>?_⟩
     simp only [sw,hx] at hv
     split at hv
     ·rename_i z hz
      simp only [Option.some.injEq] at hv;subst hv
      rw [aQ]
      have:=hs z (k1++m'++k2) (hs' y m' z hz hy hl) (by rw [e'];simp [hl])
      simpa [List.append_assoc] using this
     ·cases hv
    ·cases h
   ·cases h
  ·rename_i n c xs s i
   split at h
   ·rename_i hsz
    split at h
    ·rename_i q' u' hg
     simp only [Option.some.injEq,Prod.mk.injEq] at h
     obtain ⟨rfl,rfl⟩:=h
     obtain ⟨hi,hq'⟩:=hq
     rw [aQ] at r
     obtain ⟨hn,r⟩:=r
     obtain ⟨l1,m,l2,e,e1,hu,hs⟩:=r.at (a7 c) i _ (Co (by omega))
     obtain ⟨k1,m1,k2,e',e1',hu',hs'⟩:=fe p _ m q' u' hg hq' (eD.2 hu)
     refine ⟨l1++k1,m1,k2++l2,by rw [e,e'];simp [List.append_assoc],by simp [e1,e1',aJ,Step.off,hsz],hu',fun y m' v' hv hy hl=>?_⟩
     simp only [sw] at hv
     split at hv
     ·rename_i z hz
      split at hv
      ·rename_i x hx
       simp only [Option.some.injEq] at hv;subst hv
       rw [aQ]
       refine ⟨by simpa using hn,?_⟩
       have:=hs x (k1++m'++k2) (nz hx (hs' y m' z hz hy hl))
       simpa [List.append_assoc] using this
      ·cases hv
     ·cases hv
    ·cases h
   ·cases h
  ·cases h
inductive a4 {α β:Type} (R:α→β→Prop):List α→List β→Prop where
 | nil:a4 R [] []
 | cons {a:α} {b:β} {l:List α} {m:List β} (h:R a b) (t:a4 R l m):a4 R (a :: l) (b :: m)
theorem a4.imp {α β:Type} {R S:α→β→Prop} (h:∀ a b,R a b→S a b) {l:List α} {m:List β} (k:a4 R l m):a4 S l m:=by
 induction k with
 | nil=>exact .nil
 | cons h1 _ ih=>exact .cons (h _ _ h1) ih
theorem a4.len {α β:Type} {R:α→β→Prop} {l:List α} {m:List β} (k:a4 R l m):l.length=m.length:=by
 induction k with
 | nil=>rfl
 | cons _ _ ih=>simp [ih]
theorem a4.at {α β:Type} {R:α→β→Prop} {l:List α} {m:List β} (k:a4 R l m):∀ (i:Nat) (a:α),l[i]?=some a→∃ b,m[i]?=some b∧R a b:=by
 induction k with
 | nil=>intro i a h;simp at h
 | cons h1 _ ih=>
  intro i a h
  cases i with
  | zero=>simp at h;subst h;exact ⟨_,by simp,h1⟩
  | succ i=>simp at h;obtain ⟨b,e,r⟩:=ih i a h;exact ⟨b,by simpa using e,r⟩
theorem a4.set {α β:Type} {R:α→β→Prop} {l:List α} {m:List β} (k:a4 R l m):∀ (i:Nat) (a:α) (b:β),R a b→a4 R (l.set i a) (m.set i b):=by
 induction k with
 | nil=>intro i a b _;simpa using .nil
 | cons h1 t ih=>
  intro i a b h
  cases i with
  | zero=>exact .cons h t
  | succ i=>exact .cons h1 (ih i a b h)
theorem a4.app {α β:Type} {R:α→β→Prop} {l l':List α} {m m':List β} (k:a4 R l m) (k':a4 R l' m'):a4 R (l++l') (m++m'):=by
 induction k with
 | nil=>exact k'
 | cons h1 _ ih=>exact .cons h1 ih
inductive aV where
 | dead
 | cell (own:Bool) (t:TypeId) (v:AV)
 | map (es:List (AV×AV))
 | loop (s:LoopState) (pend:Option Code) (fn:FuncId) (T:List AV) (ps:List Nat) (asg body:Code) (dfr:Nat)
 | kQ
 | row (t:TypeId) (c:TC) (xs:List c.den)
 | kh (xs:List (Int×Int))
 | hole
instance:Inhabited aV:=⟨.dead⟩
def aV.owned:aV→Bool
 | .dead=>false
 | .hole=>false
 | .cell own _ _=>own
 | .row _ _ xs=>!xs.isEmpty
 | _=>true
def b5 (ι:aD) (v:AV) (c:Value):Prop:=if dM v then ∃ cs:List Value,aQ ι v cs∧c=.agg cs.toArray else aQ ι v [c]
def au (ι:aD):AV→Value→Prop
 | .lM vs,c=>∃ l:List Value,c=.tuple l.toArray∧a4 (b5 ι) vs l
 | .any,_=>True
 | .ns _,_=>True
 | v,c=>b5 ι v c
def fj (ι:aD) (w:World) (b z:Nat):aV→Prop
 | .dead=>True
 | .hole=>True
 | .cell own t v=>∃ cells fz l r,w.heap[b]?=some (.cells cells t fz)∧cells.toList=l++r∧cells.size=z∧aQ ι v l∧
   (if own then fz=(0,0) else ι.a5 b=some (.cells cells t fz))
 | .map es=>∃ ents clock,w.heap[b]?=some (.map ents clock)∧a4 (fun (e:AV×AV) (c:MapEntry)=>b5 ι e.1 c.key∧b5 ι e.2 c.val) es ents.toList
 | .loop s pend _ T ps asg body dfr=>∃ tmps db dz fn,w.heap[b]?=some (.loop {state:=s,pending:=pend,fn,tmps,params:=ps.toArray,assign:=asg,body,defers:=db})∧
   a4 (au ι) T tmps.toList∧ι.a6[dfr]?=some (db,dz)
 | .kQ=>w.heap[b]?=some (.deferred (some []))
 | .kh xs=>∃ ents clock,w.heap[b]?=some (.map ents clock)∧a4 (fun (e:Int×Int) (c:MapEntry)=>c.key=.int .i64 e.1∧c.val=.int .i64 e.2) xs ents.toList
 | .row t c xs=>xs=[]∨∃ cells l r,w.heap[b]?=some (.cells cells t (0,0))∧cells.toList=l++r∧cells.size=z∧bX (bO ι c) xs l
def qa (H:List aV) (b:fL):Prop:=H.length=b.length∧∀ (i:Nat) (x:aV),H[i]?=some x→(x=.hole↔b[i]?=none)
theorem qa.app {H:List aV} {b:fL} (h:qa H b) {x:aV} (hx:x≠.hole) (y:Nat×Nat):qa (H++[x]) (b.push y):=by
 refine ⟨by simp [h.1,fL.r0],fun i u e=>?_⟩
 rcases Nat.lt_or_ge i H.length with hi | hi
 ·rw [List.getElem?_append_left hi] at e
  rw [fL.jV (h.1▸hi)]
  exact h.2 _ _ e
 ·have:i < (H++[x]).length:=(List.getElem?_eq_some_iff.1 e).1
  simp at this
  have hi':i=H.length:=by omega
  subst hi'
  simp at e
  subst e
  rw [h.1,fL.o3]
  simp [hx]
theorem qa.set {H:List aV} {b:fL} (h:qa H b) {i:Nat} {x y:aV} (hi:H[i]?=some x) (hx:x=.hole↔y=.hole):qa (H.set i y) b:=by
 refine ⟨by simp [h.1],fun j u e=>?_⟩
 rw [List.getElem?_set] at e
 split at e
 ·rename_i hij;subst hij
  split at e
  ·simp at e;subst e
   exact hx.symm.trans (h.2 _ _ hi)
  ·cases e
 ·exact h.2 _ _ e
structure aR (ι:aD) (H:List aV) (w:World):Prop where
 fY:qa H ι.a6
 a5:∀ b o,ι.a5 b=some o→w.heap[b]?=some o
 obj:∀ (i:Nat) (x:aV) (b z:Nat),H[i]?=some x→ι.a6[i]?=some (b,z)→fj ι w b z x
 own:∀ (i:Nat) (x:aV) (b z:Nat),H[i]?=some x→x.owned=true→ι.a6[i]?=some (b,z)→ι.a5 b=none∧b < w.heap.size∧ι.w0.heap.size≤b
 sep:∀ (i j:Nat) (x y:aV) (b z z':Nat),H[i]?=some x→x.owned=true→H[j]?=some y→y.owned=true→ι.a6[i]?=some (b,z)→ι.a6[j]?=some (b,z')→i=j
 base:Below ι.w0.heap.size ι.w0 w
theorem j8 {ι ι':aD} (h:Sub ι ι') {v:AV} {c:Value} (k:b5 ι v c):b5 ι' v c:=by
 unfold b5 at *
 split
 ·rename_i e;rw [if_pos e] at k;obtain ⟨cs,k,e⟩:=k;exact ⟨cs,b6 h _ _ k,e⟩
 ·rename_i e;rw [if_neg e] at k;exact b6 h _ _ k
theorem lL {ι ι':aD} (h:Sub ι ι') {v:AV} {c:Value} (k:au ι v c):au ι' v c:=by
 cases v
 case lM vs=>obtain ⟨l,e,k⟩:=k;exact ⟨l,e,a4.imp (fun _ _=>j8 h) k⟩
 case any=>trivial
 case ns=>trivial
 all_goals exact j8 h k
theorem cU {ι ι':aD} (h:Ext ι ι') {v:AV} {c:Value} (k:au ι v c):au ι' v c:=lL h.sub k
theorem xA {ι ι':aD} (h:Sub ι ι') {w w':World} {b z:Nat} {x:aV} (hb:x.owned=true→w'.heap[b]?=w.heap[b]?)
  (hp:∀ b cells t fz,ι.a5 b=some (.cells cells t fz)→w'.heap[b]?=some (.cells cells t fz)) (k:fj ι w b z x):fj ι' w' b z x:=by
 cases x with
 | dead=>trivial
 | hole=>trivial
 | cell own t v=>
  obtain ⟨cells,fz,l,r,e1,e2,e3,e4,e5⟩:=k
  cases own with
  | true=>exact ⟨cells,fz,l,r,(hb rfl).trans e1,e2,e3,b6 h _ _ e4,e5⟩
  | false=>exact ⟨cells,fz,l,r,hp _ _ _ _ e5,e2,e3,b6 h _ _ e4,h.a5 _ _ _ _ e5⟩
 | map es=>
  obtain ⟨ents,clock,e1,e2⟩:=k
  exact ⟨ents,clock,(hb rfl).trans e1,a4.imp (fun _ _ k=>⟨j8 h k.1,j8 h k.2⟩) e2⟩
 | loop s pend fn T ps asg body dfr=>
  obtain ⟨tmps,db,dz,fn',e1,e2,e3⟩:=k
  exact ⟨tmps,db,dz,fn',(hb rfl).trans e1,a4.imp (fun _ _=>lL h) e2,h.a6 _ _ e3⟩
 | kQ=>exact (hb rfl).trans k
 | kh xs=>
  obtain ⟨ents,clock,e1,e2⟩:=k
  exact ⟨ents,clock,(hb rfl).trans e1,e2⟩
 | row t c xs=>
  rcases k with k | ⟨cells,l,r,e1,e2,e3,e4⟩
  ·exact .inl k
  ·cases xs with
   | nil=>exact .inl rfl
   | cons x xs=>exact .inr ⟨cells,l,r,(hb rfl).trans e1,e2,e3,e4.mono fun x l=>cn h c x l⟩
theorem dw {ι ι':aD} (h:Ext ι ι') {w w':World} {b z:Nat} {x:aV} (hb:x.owned=true→w'.heap[b]?=w.heap[b]?)
  (hp:∀ b o,ι.a5 b=some o→w'.heap[b]?=some o) (k:fj ι w b z x):fj ι' w' b z x:=
 xA h.sub hb (fun b _ _ _ e=>hp b _ e) k
end Go.bz
end
section
namespace Go.bz
open Go.RowKit
theorem aR.ft {ι:aD} {H:List aV} {w:World} (h:aR ι H w) {b:Nat} {o:Obj} (e:ι.a5 b=some o):b < w.heap.size:=
 (Array.getElem?_eq_some_iff.1 (h.a5 _ _ e)).1
theorem aR.len {ι:aD} {H:List aV} {w:World} (h:aR ι H w):H.length=ι.a6.length:=h.fY.1
theorem aR.gm {ι:aD} {H:List aV} {w:World} (h:aR ι H w) {i:Nat} {x:aV} (e:H[i]?=some x) (hx:x≠.hole:=by exact nofun):∃ b z,ι.a6[i]?=some (b,z):=by
 cases hb:ι.a6[i]? with
 | some y=>exact ⟨y.1,y.2,rfl⟩
 | none=>exact absurd ((h.fY.2 _ _ e).2 hb) hx
theorem aV.Fz {x:aV} (h:x.owned=true):x≠.hole:=by rintro rfl;cases h
def aD.add (ι:aD) (b z:Nat):aD:={ι with a6:=ι.a6.push (b,z)}
theorem Ext.add (ι:aD) (b z:Nat):Ext ι (ι.add b z):=
 ⟨rfl,fun _ _ h=>h,fun i x h=>by
  simp only [aD.add,fL.jV (fL.lt h)];exact h,fun _ _=>rfl⟩
theorem aD.fh (ι:aD) (b z:Nat):(ι.add b z).a6[ι.a6.length]?=some (b,z):=fL.o3
theorem fu {w:World} {o:Obj} {k:Nat} (h:k < w.heap.size):(w.alloc o).heap[k]?=w.heap[k]?:=Below.heap_alloc w o k h
theorem heap_alloc_new {w:World} {o:Obj}:(w.alloc o).heap[w.heap.size]?=some o:=World.alloc_heap_new w o
theorem aR.alloc {ι:aD} {H:List aV} {w:World} (h:aR ι H w) (o:Obj) (z:Nat) (x:aV)
  (hx:fj (ι.add w.heap.size z) (w.alloc o) w.heap.size z x) (hne:x≠.hole:=by exact nofun):aR (ι.add w.heap.size z) (H++[x]) (w.alloc o):=by
 have hE:=Ext.add ι w.heap.size z
 have hnew:ι.a5 w.heap.size=none:=by
  cases hp:ι.a5 w.heap.size with
  | none=>rfl
  | some o=>exact absurd (h.ft hp) (Nat.lt_irrefl _)
 have fI:∀ {i:Nat} {b z':Nat} {y:aV},(H++[x])[i]?=some y→(ι.add w.heap.size z).a6[i]?=some (b,z')→
   (H[i]?=some y∧ι.a6[i]?=some (b,z'))∨(i=H.length∧y=x∧b=w.heap.size∧z'=z):=by
  intro i b z' y e1 e2
  rcases Nat.lt_or_ge i H.length with hi | hi
  ·left
   rw [List.getElem?_append_left hi] at e1
   simp only [aD.add] at e2
   rw [fL.jV (h.len▸hi)] at e2
   exact ⟨e1,e2⟩
  ·right
   have:i < (H++[x]).length:=(List.getElem?_eq_some_iff.1 e1).1
   simp at this
   have hi':i=H.length:=by omega
   subst hi'
   simp at e1
   rw [h.len,aD.fh] at e2
   cases e2
   exact ⟨rfl,e1.symm,rfl,rfl⟩
 refine ⟨h.fY.app hne _,?_,?_,?_,?_,?_⟩
 ·intro b o' e
  have e':ι.a5 b=some o':=e
  rw [fu (h.ft e')];exact h.a5 _ _ e'
 ·intro i y b z' e1 e2
  rcases fI e1 e2 with ⟨k1,k2⟩ | ⟨rfl,rfl,rfl,rfl⟩
  ·exact dw hE (fun ho=>fu (h.own _ _ _ _ k1 ho k2).2.1) (fun b o e=>by rw [fu (h.ft e)];exact h.a5 _ _ e) (h.obj _ _ _ _ k1 k2)
  ·exact hx
 ·intro i y b z' e1 ho e2
  rcases fI e1 e2 with ⟨k1,k2⟩ | ⟨rfl,rfl,rfl,rfl⟩
  ·exact ⟨(h.own _ _ _ _ k1 ho k2).1,by have:=(h.own _ _ _ _ k1 ho k2).2.1;simp;omega,(h.own _ _ _ _ k1 ho k2).2.2⟩
  ·exact ⟨hnew,by simp,h.base.size⟩
 ·intro i j y y' b z1 z2 e1 o1 e2 o2 b1 b2
  rcases fI e1 b1 with ⟨k1,k2⟩ | ⟨rfl,rfl,hb,_⟩
  ·rcases fI e2 b2 with ⟨k3,k4⟩ | ⟨rfl,rfl,hb,_⟩
   ·exact h.sep _ _ _ _ _ _ _ k1 o1 k3 o2 k2 k4
   ·have:=(h.own _ _ _ _ k1 o1 k2).2.1;omega
  ·rcases fI e2 b2 with ⟨k3,k4⟩ | ⟨rfl,rfl,_,_⟩
   ·have:=(h.own _ _ _ _ k3 o2 k4).2.1;omega
   ·rfl
 ·exact h.base.alloc h.base.size _
theorem aR.xW {ι:aD} {H:List aV} {w w':World} (h:aR ι H w) {i:Nat} {x x':aV} {b z:Nat} (hi:H[i]?=some x) (ho:x.owned=true) (hb:ι.a6[i]?=some (b,z))
  (hk:∀ k,k≠b→w'.heap[k]?=w.heap[k]?) (hs:w'.heap.size=w.heap.size) (h1:w'.os=w.os) (h2:w'.tape=w.tape) (h3:w'.output=w.output)
  (hx:fj ι w' b z x') (hne:x'≠.hole:=by exact nofun):aR ι (H.set i x') w':=by
 have hlt:=(List.getElem?_eq_some_iff.1 hi).1
 have hp:∀ k o,ι.a5 k=some o→k≠b:=fun k o e e'=>by subst e';rw [(h.own _ _ _ _ hi ho hb).1] at e;cases e
 have hprot:∀ k o,ι.a5 k=some o→w'.heap[k]?=some o:=fun k o e=>by rw [hk k (hp k o e)];exact h.a5 _ _ e
 have fI:∀ {j:Nat} {y:aV},(H.set i x')[j]?=some y→(j=i∧y=x')∨(j≠i∧H[j]?=some y):=by
  intro j y e
  rw [List.getElem?_set] at e
  split at e
  ·rename_i hij;subst hij;simp at e;exact .inl ⟨rfl,e.symm⟩
  ·rename_i hij;exact .inr ⟨fun e=>hij e.symm,e⟩
 refine ⟨h.fY.set hi ⟨fun e=>absurd e (aV.Fz ho),fun e=>absurd e hne⟩,hprot,?_,?_,?_,?_⟩
 ·intro j y b' z' e1 e2
  rcases fI e1 with ⟨rfl,rfl⟩ | ⟨hj,e⟩
  ·rw [hb] at e2;cases e2;exact hx
  ·refine dw (Ext.refl ι) (fun ho'=>hk _ ?_) hprot (h.obj _ _ _ _ e e2)
   intro eb;subst eb
   exact hj (h.sep _ _ _ _ _ _ _ e ho' hi ho e2 hb)
 ·intro j y b' z' e1 ho' e2
  rcases fI e1 with ⟨rfl,rfl⟩ | ⟨hj,e⟩
  ·rw [hb] at e2;cases e2
   have:=h.own _ _ _ _ hi ho hb
   exact ⟨this.1,by omega,this.2.2⟩
  ·have:=h.own _ _ _ _ e ho' e2
   exact ⟨this.1,by omega,this.2.2⟩
 ·intro j k y y' b' z1 z2 e1 o1 e2 o2 b1 b2
  have key:∀ {j:Nat} {y:aV},(H.set i x')[j]?=some y→y.owned=true→∃ y',H[j]?=some y'∧y'.owned=true:=fun {j y} e o=>by
   rcases fI e with ⟨rfl,rfl⟩ | ⟨_,e⟩
   ·exact ⟨_,hi,ho⟩
   ·exact ⟨_,e,o⟩
  obtain ⟨_,e1',o1'⟩:=key e1 o1
  obtain ⟨_,e2',o2'⟩:=key e2 o2
  exact h.sep _ _ _ _ _ _ _ e1' o1' e2' o2' b1 b2
 ·exact h.base.trans ⟨h1,h2,h3,by omega,fun k hk'=>by
   refine hk k fun e=>?_
   subst e
   have:=(h.own _ _ _ _ hi ho hb).2.2
   omega⟩
theorem aR.drew {ι:aD} {H:List aV} {w:World} (h:aR ι H w) (n:Nat):aR ι H {w with drawn:=n}:=
 ⟨h.fY,h.a5,fun i x b z e1 e2=>dw (Ext.refl ι) (fun _=>rfl) h.a5 (h.obj i x b z e1 e2),h.own,h.sep,
  ⟨h.base.os,h.base.tape,h.base.output,h.base.size,h.base.block⟩⟩
def aD.grown (ι:aD) (w w':World):aD:={ι with a5:=fun k=>if k < w.heap.size then ι.a5 k else w'.heap[k]?}
theorem aR.ju {ι:aD} {H:List aV} {w:World} (h:aR ι H w) (w':World):Ext ι (ι.grown w w'):=
 ⟨rfl,fun b o e=>by simp only [aD.grown];rw [if_pos (h.ft e)];exact e,fun _ _ e=>e,fun b hb=>by simp only [aD.grown];rw [if_pos (Nat.lt_of_lt_of_le hb h.base.size)]⟩
theorem aR.grown {ι:aD} {H:List aV} {w w':World} (h:aR ι H w) (hB:Below w.heap.size w w'):aR (ι.grown w w') H w':=by
 have hprot:∀ b o,ι.a5 b=some o→w'.heap[b]?=some o:=fun b o e=>by rw [hB.block b (h.ft e)];exact h.a5 _ _ e
 refine ⟨h.fY,?_,?_,?_,h.sep,?_⟩
 ·intro b o e
  simp only [aD.grown] at e
  split at e
  ·exact hprot b o e
  ·exact e
 ·intro i x b z e1 e2
  exact dw (h.ju w') (fun ho=>hB.block _ (h.own _ _ _ _ e1 ho e2).2.1) hprot (h.obj _ _ _ _ e1 e2)
 ·intro i x b z e1 ho e2
  have:=h.own _ _ _ _ e1 ho e2
  refine ⟨by simp only [aD.grown];rw [if_pos this.2.1];exact this.1,Nat.lt_of_lt_of_le this.2.1 hB.size,this.2.2⟩
 ·exact h.base.trans (hB.mono h.base.size)
theorem aR.kill {ι:aD} {H:List aV} {w:World} (h:aR ι H w) {i:Nat} (hne:H[i]?≠some .hole):aR ι (H.set i .dead) w:=by
 have fI:∀ {j:Nat} {y:aV},(H.set i .dead)[j]?=some y→y=.dead∨H[j]?=some y:=by
  intro j y e
  rw [List.getElem?_set] at e
  split at e
  ·split at e
   ·left;simpa using e.symm
   ·cases e
  ·exact .inr e
 have hl:qa (H.set i .dead) ι.a6:=by
  cases hi:H[i]? with
  | none=>rw [List.set_eq_of_length_le (by simpa using hi)];exact h.fY
  | some x=>exact h.fY.set hi ⟨fun e=>absurd (e▸hi) hne,nofun⟩
 refine ⟨hl,h.a5,?_,?_,?_,h.base⟩
 ·intro j y b z e1 e2
  rcases fI e1 with rfl | e
  ·trivial
  ·exact h.obj _ _ _ _ e e2
 ·intro j y b z e1 ho e2
  rcases fI e1 with rfl | e
  ·cases ho
  ·exact h.own _ _ _ _ e ho e2
 ·intro j k y y' b z1 z2 e1 o1 e2 o2 b1 b2
  rcases fI e1 with rfl | e1
  ·cases o1
  ·rcases fI e2 with rfl | e2
   ·cases o2
   ·exact h.sep _ _ _ _ _ _ _ e1 o1 e2 o2 b1 b2
def aD.freeze (ι:aD) (w:World) (b:Nat):aD:={ι with a5:=fun k=>if k=b then w.heap[b]? else ι.a5 k}
theorem aR.freeze {ι:aD} {H:List aV} {w:World} (h:aR ι H w) {i b z:Nat} {t:TypeId} {v:AV} (hi:H[i]?=some (.cell true t v)) (hb:ι.a6[i]?=some (b,z)):
  Ext ι (ι.freeze w b)∧aR (ι.freeze w b) (H.set i (.cell false t v)) w:=by
 have hlt:=(List.getElem?_eq_some_iff.1 hi).1
 have hown:=h.own _ _ _ _ hi rfl hb
 have hE:Ext ι (ι.freeze w b):=⟨rfl,fun k o e=>by
  simp only [aD.freeze];split
  ·rename_i ek;subst ek;rw [hown.1] at e;cases e
  ·exact e,fun _ _ e=>e,fun k hk=>by
   simp only [aD.freeze]
   rw [if_neg (fun e=>by have:=hown.2.2;omega)]⟩
 have hprot:∀ k o,(ι.freeze w b).a5 k=some o→w.heap[k]?=some o:=fun k o e=>by
  simp only [aD.freeze] at e
  split at e
  ·rename_i ek;subst ek;exact e
  ·exact h.a5 _ _ e
 have fI:∀ {j:Nat} {y:aV},(H.set i (.cell false t v))[j]?=some y→(j=i∧y=.cell false t v)∨(j≠i∧H[j]?=some y):=by
  intro j y e
  rw [List.getElem?_set] at e
  split at e
  ·rename_i hij;subst hij;simp at e;exact .inl ⟨rfl,e.symm⟩
  ·rename_i hij;exact .inr ⟨fun e=>hij e.symm,e⟩
 refine ⟨hE,h.fY.set hi ⟨nofun,nofun⟩,hprot,?_,?_,?_,h.base⟩
 ·intro j y b' z' e1 e2
  have e2':ι.a6[j]?=some (b',z'):=e2
  rcases fI e1 with ⟨rfl,rfl⟩ | ⟨hj,e⟩
  ·rw [hb] at e2';cases e2'
   obtain ⟨cells,fz,l,r,k1,k2,k3,k4,k5⟩:=h.obj _ _ _ _ hi hb
   refine ⟨cells,fz,l,r,k1,k2,k3,xx hE _ _ k4,?_⟩
   simp only [Bool.false_eq_true,if_false,aD.freeze,if_true];exact k1
  ·exact dw hE (fun _=>rfl) (fun b o e=>h.a5 _ _ e) (h.obj _ _ _ _ e e2')
 ·intro j y b' z' e1 ho' e2
  have e2':ι.a6[j]?=some (b',z'):=e2
  rcases fI e1 with ⟨rfl,rfl⟩ | ⟨hj,e⟩
  ·cases ho'
  ·have:=h.own _ _ _ _ e ho' e2'
   refine ⟨?_,this.2⟩
   simp only [aD.freeze]
   rw [if_neg]
   ·exact this.1
   ·intro eb;subst eb;exact hj (h.sep _ _ _ _ _ _ _ e ho' hi rfl e2' hb)
 ·intro j k y y' b' z1 z2 e1 o1 e2 o2 b1 b2
  rcases fI e1 with ⟨rfl,rfl⟩ | ⟨_,e1⟩
  ·cases o1
  ·rcases fI e2 with ⟨rfl,rfl⟩ | ⟨_,e2⟩
   ·cases o2
   ·exact h.sep _ _ _ _ _ _ _ e1 o1 e2 o2 b1 b2
def aD.ready (ι:aD) (n:Nat):aD:={ι with a6:=⟨ι.a6.l++List.replicate n none⟩}
def aD.fill (ι:aD) (i b z:Nat):aD:={ι with a6:=⟨ι.a6.l.set i (some (b,z))⟩}
theorem fL.wC {b:fL} {n i:Nat}:(⟨b.l++List.replicate n none⟩:fL)[i]?=b[i]?:=by
 rw [fL.iA,fL.iA]
 rcases Nat.lt_or_ge i b.l.length with h | h
 ·simp only [List.getElem?_append_left h]
 ·simp only [List.getElem?_append_right h,List.getElem?_eq_none h]
  rw [List.getElem?_replicate]
  split<;>rfl
theorem Ext.ready (ι:aD) (n:Nat):Ext ι (ι.ready n):=⟨rfl,fun _ _ h=>h,fun i x h=>by unfold aD.ready;rw [fL.wC];exact h,fun _ _=>rfl⟩
theorem aR.ready {ι:aD} {H:List aV} {w:World} (h:aR ι H w) (n:Nat):aR (ι.ready n) (H++List.replicate n .hole) w:=by
 have hE:=Ext.ready ι n
 have fI:∀ {i:Nat} {y:aV} {b z:Nat},(H++List.replicate n .hole)[i]?=some y→(ι.ready n).a6[i]?=some (b,z)→H[i]?=some y∧ι.a6[i]?=some (b,z):=by
  intro i y b z e1 e2
  have e2:ι.a6[i]?=some (b,z):=by unfold aD.ready at e2;rw [fL.wC] at e2;exact e2
  have hi:=fL.lt e2
  rw [List.getElem?_append_left (h.len▸hi)] at e1
  exact ⟨e1,e2⟩
 refine ⟨⟨?_,fun i x e=>?_⟩,h.a5,?_,?_,?_,h.base⟩
 ·have:=h.len
  simp only [fL.length] at this
  simp [aD.ready,fL.length,this]
 ·unfold aD.ready
  rw [fL.wC]
  rcases Nat.lt_or_ge i H.length with hi | hi
  ·rw [List.getElem?_append_left hi] at e
   exact h.fY.2 _ _ e
  ·rw [List.getElem?_append_right hi,List.getElem?_replicate] at e
   split at e
   ·cases e
    refine ⟨fun _=>?_,fun _=>rfl⟩
    cases hb:ι.a6[i]? with
    | none=>rfl
    | some x=>have:=fL.lt hb;rw [← h.len] at this;omega
   ·cases e
 ·intro i y b z e1 e2
  obtain ⟨k1,k2⟩:=fI e1 e2
  exact dw hE (fun _=>rfl) h.a5 (h.obj _ _ _ _ k1 k2)
 ·intro i y b z e1 ho e2
  obtain ⟨k1,k2⟩:=fI e1 e2
  exact h.own _ _ _ _ k1 ho k2
 ·intro i j y y' b z z' e1 o1 e2 o2 b1 b2
  obtain ⟨k1,k2⟩:=fI e1 b1
  obtain ⟨k3,k4⟩:=fI e2 b2
  exact h.sep _ _ _ _ _ _ _ k1 o1 k3 o2 k2 k4
theorem aD.Bu {ι:aD} {i b z:Nat} (hi:i < ι.a6.length):(ι.fill i b z).a6[i]?=some (b,z):=by
 rw [fL.iA]
 unfold aD.fill
 simp only [List.getElem?_set_self hi]
 rfl
theorem aD.Bt {ι:aD} {i j b z:Nat} (hij:i≠j):(ι.fill i b z).a6[j]?=ι.a6[j]?:=by
 rw [fL.iA,fL.iA]
 unfold aD.fill
 simp only [List.getElem?_set_ne hij]
theorem aR.fill {ι:aD} {H:List aV} {w:World} (h:aR ι H w) {i:Nat} (hi:H[i]?=some .hole) (o:Obj) (z:Nat) (x:aV)
  (hx:fj (ι.fill i w.heap.size z) (w.alloc o) w.heap.size z x) (hne:x≠.hole:=by exact nofun):Ext ι (ι.fill i w.heap.size z)∧aR (ι.fill i w.heap.size z) (H.set i x) (w.alloc o):=by
 have hlt:i < ι.a6.length:=by rw [← h.len];exact (List.getElem?_eq_some_iff.1 hi).1
 have hnone:ι.a6[i]?=none:=(h.fY.2 _ _ hi).1 rfl
 have hE:Ext ι (ι.fill i w.heap.size z):=⟨rfl,fun _ _ h=>h,fun j y e=>by
  have:i≠j:=by intro e';subst e';rw [hnone] at e;cases e
  rw [aD.Bt this];exact e,fun _ _=>rfl⟩
 have hnew:ι.a5 w.heap.size=none:=by
  cases hp:ι.a5 w.heap.size with
  | none=>rfl
  | some o=>exact absurd (h.ft hp) (Nat.lt_irrefl _)
 have fI:∀ {j:Nat} {b z':Nat} {y:aV},(H.set i x)[j]?=some y→(ι.fill i w.heap.size z).a6[j]?=some (b,z')→
   (H[j]?=some y∧ι.a6[j]?=some (b,z'))∨(j=i∧y=x∧b=w.heap.size∧z'=z):=by
  intro j b z' y e1 e2
  by_cases hij:i=j
  ·subst hij
   rw [aD.Bu hlt] at e2;cases e2
   rw [List.getElem?_set_self (by rw [h.len];exact hlt)] at e1;cases e1
   exact .inr ⟨rfl,rfl,rfl,rfl⟩
  ·rw [List.getElem?_set_ne hij] at e1
   rw [aD.Bt hij] at e2
   exact .inl ⟨e1,e2⟩
 refine ⟨hE,⟨?_,fun j y e=>?_⟩,?_,?_,?_,?_,?_⟩
 ·have:=h.len
  simp only [fL.length] at this
  simp [aD.fill,fL.length,this]
 ·by_cases hij:i=j
  ·subst hij
   rw [aD.Bu hlt]
   rw [List.getElem?_set_self (by rw [h.len];exact hlt)] at e;cases e
   exact ⟨fun e=>absurd e hne,fun e=>by cases e⟩
  ·rw [List.getElem?_set_ne hij] at e
   rw [aD.Bt hij]
   exact h.fY.2 _ _ e
 ·intro b o' e
  have e':ι.a5 b=some o':=e
  rw [fu (h.ft e')];exact h.a5 _ _ e'
 ·intro j y b z' e1 e2
  rcases fI e1 e2 with ⟨k1,k2⟩ | ⟨rfl,rfl,rfl,rfl⟩
  ·exact dw hE (fun ho=>fu (h.own _ _ _ _ k1 ho k2).2.1) (fun b o e=>by rw [fu (h.ft e)];exact h.a5 _ _ e) (h.obj _ _ _ _ k1 k2)
  ·exact hx
 ·intro j y b z' e1 ho e2
  rcases fI e1 e2 with ⟨k1,k2⟩ | ⟨rfl,rfl,rfl,rfl⟩
  ·exact ⟨(h.own _ _ _ _ k1 ho k2).1,by have:=(h.own _ _ _ _ k1 ho k2).2.1;simp;omega,(h.own _ _ _ _ k1 ho k2).2.2⟩
  ·exact ⟨hnew,by simp,h.base.size⟩
 ·intro j k y y' b z1 z2 e1 o1 e2 o2 b1 b2
  rcases fI e1 b1 with ⟨k1,k2⟩ | ⟨rfl,rfl,hb,_⟩
  ·rcases fI e2 b2 with ⟨k3,k4⟩ | ⟨rfl,rfl,hb,_⟩
   ·exact h.sep _ _ _ _ _ _ _ k1 o1 k3 o2 k2 k4
   ·have:=(h.own _ _ _ _ k1 o1 k2).2.1;omega
  ·rcases fI e2 b2 with ⟨k3,k4⟩ | ⟨rfl,rfl,_,_⟩
   ·have:=(h.own _ _ _ _ k3 o2 k4).2.1;omega
   ·rfl
 ·exact h.base.alloc h.base.size _
def aD.drop (ι:aD) (b:Nat):aD:={ι with a5:=fun k=>if k=b then none else ι.a5 k}
theorem aD.DY {ι:aD} {b:Nat} (h:ι.a5 b=some (.deferred (some []))):Sub ι (ι.drop b):=
 ⟨fun k cells t fz e=>by
  simp only [aD.drop]
  rw [if_neg (by intro e';subst e';rw [h] at e;cases e)]
  exact e,fun _ _ e=>e⟩
theorem aR.drop {ι:aD} {H:List aV} {w:World} (h:aR ι H w) {b:Nat} (hb:ι.a5 b=some (.deferred (some []))) (hw:ι.w0.heap.size≤b) (o:Obj):aR (ι.drop b) H (w.putObj b o):=by
 have hS:=aD.DY hb
 have ne:∀ {k:Nat},k≠b→(w.putObj b o).heap[k]?=w.heap[k]?:=fun hk=>World.putObj_heap_other hk
 refine ⟨h.fY,?_,?_,?_,h.sep,?_⟩
 ·intro k x e
  simp only [aD.drop] at e
  split at e
  ·cases e
  ·rename_i hk;rw [ne hk];exact h.a5 _ _ e
 ·intro i x b' z e1 e2
  refine xA hS (fun ho=>ne ?_) (fun k cells t fz e=>?_) (h.obj _ _ _ _ e1 e2)
  ·intro e;subst e
   have:=(h.own _ _ _ _ e1 ho e2).1
   rw [hb] at this;cases this
  ·rw [ne (by intro e';subst e';rw [hb] at e;cases e)];exact h.a5 _ _ e
 ·intro i x b' z e1 ho e2
  have:=h.own _ _ _ _ e1 ho e2
  refine ⟨?_,by simpa using this.2.1,this.2.2⟩
  simp only [aD.drop]
  split
  ·rfl
  ·exact this.1
 ·exact h.base.trans ⟨rfl,rfl,rfl,by simp,fun k hk=>ne (by omega)⟩
theorem aR.forget {ι:aD} {H:List aV} {w:World} (h:aR ι H w) {i b z:Nat} (hi:H[i]?=some .kQ) (hb:ι.a6[i]?=some (b,z)):
  Ext ι (ι.freeze w b)∧aR (ι.freeze w b) (H.set i .dead) w∧(ι.freeze w b).a5 b=some (.deferred (some []))∧ι.a5 b=none∧ι.w0.heap.size≤b:=by
 have hown:=h.own _ _ _ _ hi rfl hb
 have hobj:w.heap[b]?=some (.deferred (some [])):=h.obj _ _ _ _ hi hb
 have hE:Ext ι (ι.freeze w b):=⟨rfl,fun k o e=>by
  simp only [aD.freeze];split
  ·rename_i ek;subst ek;rw [hown.1] at e;cases e
  ·exact e,fun _ _ e=>e,fun k hk=>by
   simp only [aD.freeze]
   rw [if_neg (fun e=>by have:=hown.2.2;omega)]⟩
 have hprot:∀ k o,(ι.freeze w b).a5 k=some o→w.heap[k]?=some o:=fun k o e=>by
  simp only [aD.freeze] at e
  split at e
  ·rename_i ek;subst ek;exact e
  ·exact h.a5 _ _ e
 have fI:∀ {j:Nat} {y:aV},(H.set i .dead)[j]?=some y→(j=i∧y=.dead)∨(j≠i∧H[j]?=some y):=by
  intro j y e
  rw [List.getElem?_set] at e
  split at e
  ·rename_i hij;subst hij
   split at e
   ·exact .inl ⟨rfl,by simpa using e.symm⟩
   ·cases e
  ·rename_i hij;exact .inr ⟨fun e=>hij e.symm,e⟩
 refine ⟨hE,⟨h.fY.set hi ⟨nofun,nofun⟩,hprot,?_,?_,?_,h.base⟩,by simp only [aD.freeze,if_true];exact hobj,hown.1,hown.2.2⟩
 ·intro j y b' z' e1 e2
  rcases fI e1 with ⟨rfl,rfl⟩ | ⟨hj,e⟩
  ·trivial
  ·exact dw hE (fun _=>rfl) (fun b o e=>h.a5 _ _ e) (h.obj _ _ _ _ e e2)
 ·intro j y b' z' e1 ho' e2
  have e2':ι.a6[j]?=some (b',z'):=e2
  rcases fI e1 with ⟨rfl,rfl⟩ | ⟨hj,e⟩
  ·cases ho'
  ·have:=h.own _ _ _ _ e ho' e2'
   refine ⟨?_,this.2⟩
   simp only [aD.freeze]
   rw [if_neg]
   ·exact this.1
   ·intro eb;subst eb;exact hj (h.sep _ _ _ _ _ _ _ e ho' hi rfl e2' hb)
 ·intro j k y y' b' z1 z2 e1 o1 e2 o2 b1 b2
  rcases fI e1 with ⟨rfl,rfl⟩ | ⟨_,e1⟩
  ·cases o1
  ·rcases fI e2 with ⟨rfl,rfl⟩ | ⟨_,e2⟩
   ·cases o2
   ·exact h.sep _ _ _ _ _ _ _ e1 o1 e2 o2 b1 b2
end Go.bz
end
section
namespace Go.bz
open Go.RowKit
structure bG where
 desc:TypeDesc
 size:Nat
 bytes:Nat
 zero:AV
 code:Option TC
inductive Own where
 | row (e:TypeId)
 | mp (es:List (AV×AV))
structure Spec where
 eX:TC
 cB:TC
 n:Nat
 pre:eX.den→Prop
 f:eX.den→cB.den
 own:Option Own:=none
structure fG where
 c:TC
 cmp:Option FuncId
 f:List c.den→List c.den
 enc:c.den→List Value
 res:Option (List c.den→Nat):=none
structure aH where
 t:TypeId
 lf:Nat
 te:TypeId
 ce:TC
 st:TC
 arg:TC
 cB:TC
 n:Nat
 pos:Nat:=0
 box:Bool:=false
 pre:st.den×(List ce.den×arg.den)→Prop
 f:st.den×(List ce.den×arg.den)→List ce.den
 g:st.den×(List ce.den×arg.den)→cB.den
inductive PM where
 | fin
 | one (k:Nat) (s:PM)
 | two (j k:Nat) (s s':PM)
 | alt (k:Nat) (s s':PM)
structure Env where
 P:Program
 ty:TypeId→Option bG
 fns:FuncId→Option Func
 cQ:Nat→Option AV
 spec:FuncId→Option Spec
 mask:FuncId→Nat→Option (List Nat)
 exact:FuncId→Bool:=fun _=>false
 apart:FuncId→Bool:=fun _=>false
 split:FuncId→Nat→Option (Nat×List Step×Nat):=fun _ _=>none
 sched:FuncId→Nat→Option PM:=fun _ _=>none
 sort:FuncId→Option fG:=fun _=>none
 XO:Bool:=false
 WQ:FuncId→Nat→Option Nat:=fun _ _=>none
 tail:FuncId→Nat→Bool:=fun _ _=>false
 proc:FuncId→Option aH:=fun _=>none
 procs:Bool:=false
 rows:Bool:=false
 NF:FuncId→Bool:=fun _=>false
 kh:TypeId→Bool:=fun _=>false
 ns:Bool:=false
 Hp:FuncId→Nat→List Nat:=fun _ _=>[]
 Ea:Bool:=false
def HE:TypeDesc→Bool
 | .struct _=>true
 | .array _ _=>true
 | _=>false
def XB:Value→Option AV
 | .int k n=>some (.int k n)
 | .bool b=>some (.bool b)
 | .string s=>some (.str s)
 | .pointer none=>some (.raw (.pointer none))
 | .slice none 0 0=>some (.raw (.slice none 0 0))
 | .nilFunc=>some (.raw .nilFunc)
 | .map none=>some (.raw (.map none))
 | .nilIface=>some (.raw .nilIface)
 | _=>none
def ev (E:Env) (T:List AV):Operand→Option AV
 | .tmp t=>T[t]?
 | .const v=>XB v
 | .global g=>match E.cQ g with | some v=>some (.ref v) | none=>none
 | .func f=>some (.fn f [])
def nI (E:Env) (T:List AV):List Operand→Option (List AV)
 | []=>some []
 | x :: l=>match ev E T x,nI E T l with | some v,some vs=>some (v :: vs) | _,_=>none
def cP (k:IntKind) (x y:Int):Int:=k.wrap ((BitVec.ofInt k.bits x &&& BitVec.ofInt k.bits y).toNat:Nat)
def NY (k:IntKind) (x y:Int):Int:=k.wrap ((BitVec.ofInt k.bits x ||| BitVec.ofInt k.bits y).toNat:Nat)
def Rp (k:IntKind) (x y:Int):Int:=k.wrap ((BitVec.ofInt k.bits x ^^^ BitVec.ofInt k.bits y).toNat:Nat)
def jZ (k:IntKind) (x y:Int):Int:=k.wrap ((BitVec.ofInt k.bits x &&& ~~~BitVec.ofInt k.bits y).toNat:Nat)
def aK (k:IntKind) (x y:Int):Int:=k.wrap (x+y)
def iu (k:IntKind) (x y:Int):Int:=k.wrap (x - y)
def gz (k:IntKind) (x y:Int):Int:=k.wrap (x * y)
def Rs (k:IntKind) (x y:Int):Int:=k.wrap (x.tdiv y)
def fJ (_k:IntKind) (x y:Int):Int:=x.tmod y
def V6 (k:IntKind) (x y:Int):Int:=k.wrap (x * 2 ^ (min y.toNat k.bits))
def Rq (k:IntKind) (x y:Int):Int:=x.fdiv (2 ^ (min y.toNat k.bits))
def aN (k:IntKind) (x:Int):Int:=k.wrap x
def V7 (k:IntKind) (x:Int):Int:=k.wrap (0 - x)
def XE (k:IntKind) (x:Int):Int:=Rp k (if k.signed then -1 else k.max) x
def ak (x y:Int):Bool:=x==y
def dG (x y:Int):Bool:=x != y
def cF (x y:Int):Bool:=decide (x < y)
def cj (x y:Int):Bool:=decide (x≤y)
def dB:(c:TC)→c.den→c.den→Bool
 | .int _,x,y=>ak x y
 | .bool,x,y=>x==y
 | .str,x,y=>x==y
 | .st a r,x,y=>dB a x.1 y.1&&dB r x.2 y.2
 | .bu a,x,y=>dB a x y&&true
 | _,_,_=>false
def JK (x y:Int):Int:=if y < x then y else x
def imax (x y:Int):Int:=if y > x then y else x
def SG (op:BinOp) (k:IntKind) (a b:Int):Option (List Prop×AV):=
 match op with
 | .add=>some ([],.int k (aK k a b))
 | .sub=>some ([],.int k (iu k a b))
 | .mul=>some ([],.int k (gz k a b))
 | .quo=>some ([b≠0],.int k (Rs k a b))
 | .rem=>some ([b≠0],.int k (fJ k a b))
 | .and=>some ([],.int k (cP k a b))
 | .or=>some ([],.int k (NY k a b))
 | .xor=>some ([],.int k (Rp k a b))
 | .andNot=>some ([],.int k (jZ k a b))
 | .eql=>some ([],.bool (ak a b))
 | .neq=>some ([],.bool (dG a b))
 | .lss=>some ([],.bool (cF a b))
 | .leq=>some ([],.bool (cj a b))
 | .gtr=>some ([],.bool (cF b a))
 | .geq=>some ([],.bool (cj b a))
 | _=>none
def Gd:AV→Option (List Prop×Bool)
 | .raw (.slice none 0 0)=>some ([],true)
 | .bw _ _ _ _ _ _=>some ([],false)
 | .gf _ xs=>some ([0 < xs.length],false)
 | _=>none
def bin (op:BinOp) (t:Option bG) (x y:AV):Option (List Prop×AV):=
 match x,y with
 | .int k a,.int k' b=>match op with
  | .shl=>some ([0≤b],.int k (V6 k a b))
  | .shr=>some ([0≤b],.int k (Rq k a b))
  | op=>if k=k' then SG op k a b else none
 | .bool a,.bool b=>match t with
  | some t=>match t.desc,op with
   | .bool,.eql=>some ([],.bool (a==b))
   | .bool,.neq=>some ([],.bool (!(a==b)))
   | _,_=>none
  | none=>none
 | .str a,.str b=>match op with
  | .add=>some ([a.size+b.size≤2 ^ 40],.str (a++b))
  | _=>none
 | x,.raw (.slice none 0 0)=>match t with
  | some t=>match t.desc,op,Gd x with
   | .slice _,.eql,some (q,b)=>some (q,.bool b)
   | .slice _,.neq,some (q,b)=>some (q,.bool (!b))
   | _,_,_=>none
  | none=>none
 | _,_=>none
def un (op:UnOp) (x:AV):Option AV:=
 match op,x with
 | .neg,.int k n=>some (.int k (V7 k n))
 | .xor,.int k n=>some (.int k (XE k n))
 | .not,.bool b=>some (.bool (!b))
 | _,_=>none
def nP (b:Bool) (x y:AV):AV:=
 match x,y with
 | .int k m,.int k' n=>if k=k' then .int k (cond b m n) else cond b x y
 | .bool m,.bool n=>.bool (cond b m n)
 | x,y=>cond b x y
abbrev av:=List aV
def bG.agg (d:bG):Bool:=HE d.desc
def eO (H:av):AV→Option (List Prop×AV)
 | .ptr o p=>match H[o]? with
  | some (.cell _ _ v)=>ix v p
  | some (.row _ c xs)=>match ix (.arr xs.length c xs) p with
   | some (q,v)=>some ((0 < xs.length) :: q,v)
   | none=>none
  | _=>none
 | .ref v=>some ([],v)
 | _=>none
def nY (H:av) (a x:AV):Option (List Prop×av):=
 match a with
 | .ptr o p=>match H[o]? with
  | some (.cell true t v)=>match ix v p with
   | some (q,u)=>if l4 u=l4 x then (match sw v p x with | some v'=>some (q,H.set o (.cell true t v')) | none=>none) else none
   | none=>none
  | some (.row t c xs)=>match ix (.arr xs.length c xs) p with
   | some (q,u)=>if l4 u=l4 x then (match sw (.arr xs.length c xs) p x with
    | some (.arr _ c' xs')=>if h:c'=c then some ((0 < xs.length) :: q,H.set o (.row t c (h▸xs'))) else none
    | _=>none) else none
   | none=>none
  | _=>none
 | _=>none
def wK (v:AV) (s:Step):Option (List Prop×AV):=ix v [s]
def mH (E:Env) (d:bG) (f:Nat):Option (Nat×bG):=
 match d.desc with
 | .struct fs=>match fs[f]? with
  | some fd=>match E.ty fd.type with
   | some x=>if x.size=0 then none else some (fd.offset,x)
   | none=>none
  | none=>none
 | _=>none
def jF (E:Env) (d:bG) (x:AV) (f:Nat):Option (List Prop×AV):=
 match mH E d f with
 | some (off,_)=>match x with
  | .ptr o p=>some ([],.ptr o (p++[.M6 off f]))
  | .ref v=>match wK v (.M6 off f) with | some (q,u)=>some (q,.ref u) | none=>none
  | _=>none
 | none=>none
def oG (E:Env) (d:bG) (x:AV) (f:Nat):Option (List Prop×AV):=
 match mH E d f with
 | some (off,e)=>match wK x (.M6 off f) with
  | some (q,u)=>if l4 u=e.size∧dM u=e.agg then some (q,u) else none
  | none=>none
 | none=>none
def iw (d:bG) (s:Nat) (x i:AV):Option (List Prop×AV):=
 match i with
 | .int _ i=>match d.desc,x with
  | .array n _,.ptr o p=>some ([0≤i,i < n],.ptr o (p++[.idx s i.toNat]))
  | .array n _,.ref v=>match wK v (.idx s i.toNat) with | some (q,u)=>some ((0≤i) :: (i < n) :: q,.ref u) | none=>none
  | .slice _,.gf c xs=>if c.size=s then some ([0≤i,i < xs.length],.ref (sA c (eZ c xs i.toNat))) else none
  | .slice _,.bw o p s' off len _=>if s'=s then some ([0≤i,i < len],.ptr o (p++[.idx s (off+i.toNat)])) else none
  | .slice _,.row o s' n=>if s'=s then some ([0≤i,i < n],.ptr o [.idx s i.toNat]) else none
  | _,_=>none
 | _=>none
def rK (d e:bG) (x i:AV):Option (List Prop×AV):=
 match i with
 | .int _ i=>match d.desc with
  | .array n _=>match wK x (.idx e.size i.toNat) with
   | some (q,u)=>if l4 u=e.size∧dM u=e.agg then some ((0≤i) :: (i < n) :: q,u) else none
   | none=>none
  | _=>none
 | _=>none
def Kx (s:ByteArray) (n:Nat):Int:=match s[n]? with | some b=>(b.toNat:Int) | none=>0
def Gf (d:bG) (x i:AV):Option (List Prop×AV):=
 match d.desc,x,i with
 | .string,.str s,.int _ n=>some ([0≤n,n.toNat < s.size],.int .u8 (Kx s n.toNat))
 | _,_,_=>none
def XD:Option AV→Option (List Prop×Nat)
 | none=>some ([],0)
 | some (.int _ n)=>some ([0≤n],n.toNat)
 | _=>none
def BF (len:Nat) (cap:Option Nat):Nat:=match cap with | some k=>k | none=>len
def El (d:bG) (s:Nat) (x:AV) (lo hi:Option AV):Option (List Prop×AV):=
 match XD lo with
 | some (q,l)=>match d.desc,x with
  | .slice _,.gf c xs=>if c.size=s then (match hi with
   | none=>some (q++[l≤xs.length],.gf c (xs.drop l))
   | some (.int _ m)=>some (q++[0≤m,l≤m.toNat,m.toNat≤xs.length],.gf c ((xs.drop l).take (m.toNat - l)))
   | _=>none) else none
  | .slice _,.bw o p s' off len cap=>if s'=s then (match hi with
   | none=>some (q++[l≤len,l=0∨l < BF len cap],.bw o p s (off+l) (len - l) (cap.map fun k=>k - l))
   | some (.int _ m)=>some (q++[0≤m,l≤m.toNat,m.toNat≤BF len cap,l=0∨l < BF len cap],.bw o p s (off+l) (m.toNat - l) (cap.map fun k=>k - l))
   | _=>none) else none
  | .slice _,.raw (.slice none 0 0)=>(match hi with
   | none=>some (q++[l=0],.raw (.slice none 0 0))
   | some (.int _ m)=>some (q++[m=0,l=0],.raw (.slice none 0 0))
   | _=>none)
  | .array n _,.ref (.arr m c xs)=>(match lo,hi with
   | none,none=>if m=n∧c.size=s then some (q,.gf c xs) else none
   | _,_=>none)
  | .string,.str b=>(match hi with
   | none=>some (q++[l≤b.size],.str (b.extract l b.size))
   | some (.int _ m)=>some (q++[0≤m,l≤m.toNat,m.toNat≤b.size],.str (b.extract l m.toNat))
   | _=>none)
  | _,_=>none
 | none=>none
def SC (E:Env) (T:List AV):Option Operand→Option (Option AV)
 | none=>some none
 | some x=>match ev E T x with | some v=>some (some v) | none=>none
def Ow (eq:TypeId→AV→AV→Option Bool) (E:Env) (d:bG) (x y:AV):Nat→List Field→Option Bool
 | _,[]=>some true
 | i,f :: fs=>match oG E d x i,oG E d y i with
  | some ([],u),some ([],v)=>match eq f.type u v,Ow eq E d x y (i+1) fs with
   | some b,some r=>some (b&&r)
   | _,_=>none
  | _,_=>none
def uV (xs ys:List Bool):Bool:=xs==ys
def DS (m:Nat):AV→AV→Option Bool
 | .arr n .bool xs,.arr n' .bool ys=>if n=m∧n'=m then some (uV xs ys) else none
 | _,_=>none
def M7 (E:Env):Nat→TypeId→AV→AV→Option Bool
 | 0,_,_,_=>none
 | n+1,t,x,y=>match E.ty t with
  | some d=>match d.desc with
   | .bool=>match x,y with
    | .bool a,.bool b=>some (a==b)
    | _,_=>none
   | .int _=>match x,y with
    | .int k a,.int k' b=>if k=k' then some (ak a b) else none
    | _,_=>none
   | .string=>match x,y with
    | .str a,.str b=>some (a==b)
    | _,_=>none
   | .struct fs=>if dM x=true∧dM y=true∧E.P.stoodInHeld t=false∧(fs.toList.all fun f=>f.name != "_")=true then Ow (M7 E n) E d x y 0 fs.toList else none
   | .array m el=>match E.ty el with
    | some de=>match de.desc with
     | .bool=>if 0 < n∧de.size=1 then DS m x y else none
     | _=>none
    | none=>none
   | _=>none
  | none=>none
def SF (E:Env) (op:BinOp) (t:TypeId) (x y:AV):Option AV:=
 match M7 E 100 t x y with
 | some b=>if (!dM x||!E.P.eqGuardType E.P.depth t)=true then (match op with
  | .eql=>some (.bool b)
  | .neq=>some (.bool (!b))
  | _=>none) else none
 | none=>none
def wO (k:IntKind) (n:Int) (es:List (AV×AV)):Bool:=es.all fun e=>match e.1 with
 | .int k' n'=>decide (k=k')&&!(ak n n')
 | _=>false
def KD:AV→AV→Bool
 | .int k _,.int k' _=>decide (k=k')
 | .bool _,.bool _=>true
 | _,_=>false
def wP (n:Int) (k:IntKind) (z:AV):List (AV×AV)→Option (AV×Bool)
 | []=>some (z,false)
 | e :: es=>match e.1,wP n k z es with
  | .int k' n',some (v,b)=>if k=k'∧KD e.2 v=true then some (nP (ak n n') e.2 v,cond (ak n n') true b) else none
  | _,_=>none
def gk (n:Int):List (Int×Int)→Int
 | []=>0
 | e :: l=>cond (ak n e.1) e.2 (gk n l)
def Gg (n:Int):List (Int×Int)→Bool
 | []=>false
 | e :: l=>cond (ak n e.1) true (Gg n l)
def nH (n m:Int):List (Int×Int)→List (Int×Int)
 | []=>[(n,m)]
 | e :: l=>cond (ak n e.1) ((n,m) :: l) (e :: nH n m l)
def r8 (n:Int) (k:IntKind) (z:AV):List (AV×AV)→Option (AV×Bool)
 | []=>some (z,false)
 | e :: es=>match e.1 with
  | .int k' n'=>if k=k' then cond (ak n n') (some (e.2,true)) (r8 n k z es) else none
  | _=>none
def jX (ok:Bool) (v:AV) (fl:Bool):AV:=match ok with
 | true=>.lM [v,.bool fl]
 | false=>v
def jY (n:Int) (k:IntKind) (z:AV) (go:AV→Bool→Prop):List (AV×AV)→Prop
 | []=>go z false
 | e :: es=>match e.1 with
  | .int k' n'=>if k=k' then cond (ak n n') (go e.2 true) (jY n k z go es) else False
  | _=>False
def m9 (E:Env) (d:bG):Option Nat:=
 match d.desc with
 | .slice e=>match E.ty e with | some x=>some x.size | none=>none
 | .array _ e=>match E.ty e with | some x=>some x.size | none=>none
 | .string=>some 0
 | _=>none
def pn:AV→Bool
 | .lM _=>false
 | .any=>false
 | .ns _=>false
 | _=>true
def JY (d:bG) (t:TypeId) (v:AV) (H:av):Option (List Prop×AV×av):=
 if l4 v=d.size∧pn v=true then some ([],.ptr H.length [],H++[.cell true t v]) else none
def nT (st:Nat→Option (Step×Nat)):AV→List (Nat×AV)→Option (List Prop×AV)
 | v,[]=>some ([],v)
 | v,(i,x) :: l=>match st i with
  | some (s,n)=>match ix v [s] with
   | some (q,u)=>if l4 u=n∧l4 x=n∧pn x=true then (match sw v [s] x with
    | some v'=>match nT st v' l with
     | some (q',r)=>some (q++q',r)
     | none=>none
    | none=>none) else none
   | none=>none
  | none=>none
def j5 (E:Env) (T:List AV):List (Nat×Operand)→Option (List (Nat×AV))
 | []=>some []
 | (i,x) :: l=>match ev E T x,j5 E T l with | some v,some vs=>some ((i,v) :: vs) | _,_=>none
def Xj:AV→Bool
 | .bw _ _ _ _ _ _=>true
 | .ptr _ _=>true
 | .fn _ _=>true
 | .yJ _ _=>true
 | _=>false
def spread:AV→AV
 | .arr _ c xs=>.agg (List.replicate xs.length c.size) (xs.map (sA c))
 | v=>v
def zl (z:AV) (parts:List (Nat×AV)):AV:=if parts.any (fun p=>Xj p.2)=true then spread z else z
def Gu (E:Env) (d:bG) (s:Nat) (parts:List (Nat×AV)):Option (List Prop×AV):=
 match d.desc with
 | .struct fs=>if fs.toList.all (fun f=>(E.ty f.type).isSome)=true then nT (fun i=>match mH E d i with | some (off,e)=>some (.M6 off i,e.size) | none=>none) d.zero parts else none
 | .array _ _=>nT (fun i=>some (.idx s i,s)) (zl d.zero parts) parts
 | _=>none
def fE {α:Type} (xs:List α) (i:Nat) (ys:List α):List α:=xs.take i++(ys++xs.drop (i+ys.length))
def lZ (c:TC) (H:av):AV→Option (List Prop×List c.den)
 | .gf c' xs=>if h:c'=c then some ([],h▸xs) else none
 | .raw (.slice none 0 0)=>some ([],[])
 | .bw o p s off len _=>match H[o]? with
  | some (.cell _ _ v)=>match ix v p with
   | some (q,.arr n c' xs)=>if h:c'=c then (if s=c.size then some (q++[off+len≤n],((h▸xs:List c.den).drop off).take len) else none) else none
   | _=>none
  | _=>none
 | _=>none
def Ng (E:Env) (s d:bG) (v:AV):Option AV:=
 match s.desc,d.desc with
 | .slice e,.string=>match E.ty e with
  | some de=>match de.desc with
   | .int .u8=>match v with
    | .gf (.int .u8) xs=>some (.str (strOfNums xs))
    | .raw (.slice none 0 0)=>some (.str (strOfNums []))
    | _=>none
   | _=>none
  | none=>none
 | _,_=>none
def MK (s0:Nat) (H:av) (d x:AV):Option (List Prop×AV×av):=
 match d with
 | .bw ob [] s off len _=>match H[ob]? with
  | some (.cell true t (.arr m c xs))=>match lZ c H x with
   | some (q,ys)=>if s=c.size∧s0=s then some (q++[off+len≤m],.int .i64 ((min ys.length len:Nat):Int),H.set ob (.cell true t (.arr m c (fE xs off (ys.take len))))) else none
   | none=>none
  | _=>none
 | _=>none
def G8 (e:TypeId) (de:bG) (H:av) (len cap:AV):Option (List Prop×AV×av):=
 match len,cap with
 | .int _ l,.int _ c=>match de.code with
  | some tc=>match Kb tc de.zero with
   | some z=>if tc.size=de.size then
     some ([0≤l,l≤c,c≤2 ^ 40,c.toNat * de.bytes≤2 ^ 40],.bw H.length [] de.size 0 l.toNat (some c.toNat),H++[.cell true e (.arr c.toNat tc (List.replicate c.toNat z))])
    else none
   | none=>none
  | none=>none
 | _,_=>none
def zF (s:fG) (as:List AV):Option AV:=
 match s.cmp,as with
 | some g,[x,.fn g' []]=>if g'=g then some x else none
 | none,[x]=>some x
 | _,_=>none
def fG.rest (s:fG):Array Value:=
 match s.cmp with
 | some g=>#[.func (.func g) #[] #[]]
 | none=>#[]
def fG.Ww (s:fG) (o z off:Nat) (xs:List s.c.den) (cap:Option Nat):AV:=
 match s.res with
 | none=>.lM []
 | some g=>.bw o [] z off (g xs) cap
def fG.Wv (s:fG):AV:=
 match s.res with
 | none=>.lM []
 | some _=>.raw (.slice none 0 0)
def KA (s:fG) (H:av) (as:List AV):Option (List Prop×AV×av):=
 match zF s as with
 | some (.raw (.slice none 0 0))=>some ([],s.Wv,H)
 | some (.bw ob [] z off len cap)=>match H[ob]? with
  | some (.cell true t (.arr m c xs))=>
   if h:c=s.c then
    if z=s.c.size then some ([off+len≤m,len < 2 ^ 60],s.Ww ob z off (((h▸xs:List s.c.den).drop off).take len) cap,H.set ob (.cell true t (.arr m s.c (fE (h▸xs:List s.c.den) off (s.f (((h▸xs:List s.c.den).drop off).take len))))))
    else none
   else none
  | _=>none
 | _=>none
end Go.bz
end
section
namespace Go.bz
open Go.RowKit
inductive FK where
 | top
 | call (dst:Option Tmp)
 | round (l:Nat) (dst:Option Tmp)
 | iter (l:Nat)
inductive It where
 | code (c:Code)
 | now (c:Code)
 | a6 (id:Nat)
 | lp (c:Code)
 | ops (all rest:List Oper)
 | begin (l:Nat)
 | fin (l:Nat)
 | Ni
structure Fr where
 id:FuncId
 kind:FK
 T:List AV
 items:List It
 D:List Nat
 base:Nat
structure Cut where
 tmps:List Nat
 loops:List (Nat×List Nat)
 dead:List Nat
 bm:List (List Nat):=[]
 Ea:Bool:=false
def ie:List Nat→Nat→List AV→List AV
 | _,_,[]=>[]
 | [],i,_ :: T=>.any :: ie [] (i+1) T
 | k :: ks,i,v :: T=>if k==i then v :: ie ks (i+1) T else .any :: ie (k :: ks) (i+1) T
def Gr:List (List Nat)→List Fr→List Fr
 | k :: ks,f :: fs=>{f with T:=ie k 0 f.T} :: Gr ks fs
 | _,fs=>fs
def CS (E:Env) (f:FuncId) (id:Nat) (T:List AV):List AV:=
 match E.mask f id with
 | some ks=>ie ks 0 T
 | none=>T
def sy:List Nat→Nat→Nat→Option Nat
 | [],_,_=>none
 | x :: l,i,o=>if x==o then some i else sy l (i+1) o
mutual
def gL (l:List Nat):AV→Option AV
 | .agg ss vs=>match iP l vs with | some us=>some (.agg ss us) | none=>none
 | .lM vs=>match iP l vs with | some us=>some (.lM us) | none=>none
 | .ptr o p=>match sy l 0 o with | some j=>some (.ptr j p) | none=>none
 | .bw o p s off len cap=>match sy l 0 o with | some j=>some (.bw j p s off len cap) | none=>none
 | .fn f cs=>match iP l cs with | some us=>some (.fn f us) | none=>none
 | .yJ f cs=>match iP l cs with | some us=>some (.yJ f us) | none=>none
 | .ik o=>match sy l 0 o with | some j=>some (.ik j) | none=>none
 | .mp o=>match sy l 0 o with | some j=>some (.mp j) | none=>none
 | .row o s n=>match sy l 0 o with | some j=>some (.row j s n) | none=>none
 | .ref v=>match gL l v with | some u=>some (.ref u) | none=>none
 | v=>some v
def iP (l:List Nat):List AV→Option (List AV)
 | []=>some []
 | v :: vs=>match gL l v,iP l vs with | some u,some us=>some (u :: us) | _,_=>none
end
def NI (l:List Nat):List (AV×AV)→Option (List (AV×AV))
 | []=>some []
 | e :: es=>match gL l e.1,gL l e.2,NI l es with | some a,some b,some r=>some ((a,b) :: r) | _,_,_=>none
def sx (l:List Nat):aV→Option aV
 | .cell own t v=>match gL l v with | some u=>some (.cell own t u) | none=>none
 | .map es=>match NI l es with | some r=>some (.map r) | none=>none
 | .loop s p f T ps a b dd=>match iP l T,sy l 0 dd with | some T',some j=>some (.loop s p f T' ps a b j) | _,_=>none
 | .hole=>none
 | x=>some x
def SD (ks:List Nat):aV→aV
 | .loop s p f T ps a b d=>.loop s p f (ie ks 0 T) ps a b d
 | x=>x
def xP (g:Cut) (o:Nat) (x:aV):aV:=if g.dead.contains o then .dead else match g.loops.lookup o with | some ks=>SD ks x | none=>x
mutual
def Cm:AV→List Nat
 | .agg _ vs=>og vs
 | .lM vs=>og vs
 | .ptr o _=>[o]
 | .bw o _ _ _ _ _=>[o]
 | .fn _ cs=>og cs
 | .yJ _ cs=>og cs
 | .ik o=>[o]
 | .mp o=>[o]
 | .row o _ _=>[o]
 | .ref v=>Cm v
 | _=>[]
def og:List AV→List Nat
 | []=>[]
 | v :: vs=>Cm v++og vs
end
def OW:aV→List Nat
 | .cell _ _ v=>Cm v
 | .map es=>es.flatMap fun e=>Cm e.1++Cm e.2
 | .loop _ _ _ T _ _ _ d=>d :: og T
 | _=>[]
def visit (g:Cut) (H:List aV):Nat→List Nat→List Nat→List Nat
 | 0,seen,_=>seen
 | _+1,seen,[]=>seen
 | n+1,seen,o :: todo=>if seen.contains o then visit g H n seen todo else match H[o]? with
  | some x=>visit g H n (seen++[o]) (OW (xP g o x)++todo)
  | none=>seen
def OX (g:Cut):Nat→Nat→List aV→List Nat
 | n+1,i,x :: H=>OW (xP g i x)++OX g n (i+1) H
 | _,_,_=>[]
def LZ (g:Cut) (fr:Fr) (H:List aV):List Nat:=visit g H 100000 (List.range fr.base) (fr.D.reverse++og (ie g.tmps 0 fr.T)++OX g fr.base 0 H)
def Gs (g:Cut) (l:List Nat) (H:List aV):List Nat→Option (List aV)
 | []=>some []
 | o :: os=>match H[o]? with
  | some x=>match sx l (xP g o x),Gs g l H os with
   | some y,some r=>some (y :: r)
   | _,_=>none
  | none=>none
def Ld (l:List Nat):List Nat→Option (List Nat)
 | []=>some []
 | d :: ds=>match sy l 0 d,Ld l ds with
  | some j,some r=>some (j :: r)
  | _,_=>none
def JS (l:List Nat) (o:Nat):Bool:=match sy l 0 o with | some j=>j==o | none=>false
def V5 (l:List Nat):FK→Bool
 | .round o _=>JS l o
 | _=>true
def Gc (l:List Nat):List It→Bool
 | []=>true
 | .begin o :: k=>JS l o&&Gc l k
 | .fin o :: k=>JS l o&&Gc l k
 | _ :: k=>Gc l k
def nodupB:List Nat→Bool
 | []=>true
 | x :: l=>!l.contains x&&nodupB l
def Bs:Nat→Nat→List Nat→Bool
 | 0,_,_=>true
 | n+1,i,x :: l=>x==i&&Bs n (i+1) l
 | _,_,_=>false
def pU (g:Cut) (l:List Nat) (fr:Fr) (H:List aV):Option (Fr×List aV):=
 if V5 l fr.kind&&Gc l fr.items&&nodupB l&&Bs fr.base 0 l then
  match iP l (ie g.tmps 0 fr.T),Ld l fr.D,Gs g l H l with
  | some T,some D,some H=>some ({fr with T,D},H)
  | _,_,_=>none
 else none
def Ds:FK→Bool
 | .top=>true
 | _=>false
def gq (H:List aV):List Nat→Option (List aV)
 | []=>some H
 | d :: ds=>match H[d]? with
  | some .kQ=>gq (H.set d .dead) ds
  | _=>none
def OA (g:Cut) (fr:Fr) (H:List aV):Option (Fr×List aV):=
 match g.Ea with
 | false=>pU g (LZ g fr H) fr H
 | true=>match gq H fr.D with
  | some H=>pU g (LZ g {fr with D:=[]} H) {fr with D:=[]} H
  | none=>none
def rV (id:Nat):List It→Option (List It)
 | []=>none
 | .a6 j :: k=>if j=id then some k else rV id k
 | .begin _ :: _=>none
 | .fin _ :: _=>none
 | _ :: k=>rV id k
def through:List It→Bool
 | []=>true
 | .begin _ :: _=>false
 | .fin _ :: _=>false
 | _ :: k=>through k
def Rb (E:Env) (H:av) (T:List AV):ResultVar→Option (List Prop×AV)
 | .tmp t=>match T[t]? with | some v=>some ([],v) | none=>none
 | .cell a t=>match T[a]?,E.ty t with
  | some a,some d=>match eO H a with
   | some (q,v)=>if l4 v=d.size∧dM v=d.agg then some (q,v) else none
   | none=>none
  | _,_=>none
def Cj (E:Env) (H:av) (T:List AV):List ResultVar→Option (List Prop×List AV)
 | []=>some ([],[])
 | r :: l=>match Rb E H T r,Cj E H T l with
  | some (q,v),some (q',vs)=>some (q++q',v :: vs)
  | _,_=>none
def Et (E:Env) (H:av) (T:List AV) (fn:Func):Option (List Prop×AV):=
 match Cj E H T fn.results.toList with
 | some (q,[v])=>some (q,v)
 | some (q,vs)=>if vs.all pn=true then some (q,.lM vs) else none
 | none=>none
def b7 (T:List AV) (d:Option Tmp) (v:AV):List AV:=
 match d with | some d=>T.set d v | none=>T
def l9 (n:Nat) (c:TC) (x:c.den):AV:=
 if n=1 then sA c x else if n=0 then .lM [] else .lM (c.both x).2
def mK (c:TC) (l:List AV):Option c.den:=
 match c,l with
 | .unit,[]=>some ()
 | .unit,_=>none
 | c,l=>c.back.2 l
def TC.flat:TC→Bool
 | .st a r=>a.flat&&r.flat
 | .bu a=>a.flat
 | .slice _=>false
 | .arr _ c=>c.flat
 | .ref _=>false
 | _=>true
mutual
def view (H:av):AV→Option (List Prop×AV)
 | .ptr o p=>match H[o]? with
  | some (.cell _ _ v)=>match ix v p with
   | some (q,u)=>some (q,.ref u)
   | none=>none
  | _=>none
 | .bw o p s off len _=>match H[o]? with
  | some (.cell _ _ v)=>match ix v p with
   | some (q,.arr n c xs)=>if s=c.size then some (q++[off+len≤n],.gf c ((xs.drop off).take len)) else none
   | some _=>some ([],.bC)
   | none=>none
  | _=>none
 | .agg ss vs=>match views H vs with | some (q,us)=>some (q,.agg ss us) | none=>none
 | v=>some ([],v)
def views (H:av):List AV→Option (List Prop×List AV)
 | []=>some ([],[])
 | v :: vs=>match view H v,views H vs with
  | some (q,u),some (q',us)=>some (q++q',u :: us)
  | _,_=>none
end
mutual
def j0:AV→List Nat
 | .ptr o _=>[o]
 | .bw o _ _ _ _ _=>[o]
 | .agg _ vs=>cW vs
 | _=>[]
def cW:List AV→List Nat
 | []=>[]
 | v :: vs=>j0 v++cW vs
end
def eu (H:av):List Nat→Option av
 | []=>some H
 | o :: os=>match H[o]? with
  | some (.cell _ t v)=>eu (H.set o (.cell false t v)) os
  | _=>none
def settle (H:av) (ps:List (Nat×AV)):Option (List Prop×List (Nat×AV)×av):=
 if (cW (ps.map (·.2))).isEmpty=true then some ([],ps,H) else
  match eu H (cW (ps.map (·.2))) with
  | some H'=>match views H' (ps.map (·.2)) with
   | some (q,us)=>some (q,(ps.map (·.1)).zip us,H')
   | none=>none
  | none=>none
def Ed (de:bG) (len:Nat):AV:=.agg (List.replicate len de.size) (List.replicate len de.zero)
def Gv (H:av) (as:List AV):Option (List Prop):=
 match as with
 | [.bw o _ _ _ _ _,.bw o' _ _ _ _ _]=>if o=o' then none else match H[o]?,H[o']? with
  | some (.cell true _ _),some (.cell true _ v)=>some [0 < l4 v]
  | _,_=>none
 | _=>none
def V3 (H:av):AV→Bool
 | .ptr ob p=>match H[ob]? with
  | some (.cell _ _ v)=>match ix v p with
   | some (_,.agg _ _)=>true
   | _=>false
  | _=>false
 | .ref (.agg _ _)=>true
 | _=>false
def wJ (i:Int):Nat→Nat→(Nat→Prop)→Prop
 | 0,_,_=>False
 | 1,j,go=>go j
 | n+2,j,go=>cond (ak i j) (go j) (wJ i (n+1) (j+1) go)
def xg (e:TypeId) (c:TC) (z:c.den) (H:av) (n:Nat) (xs:List c.den) (go:AV→av→Prop):Prop:=
 ∀ j:Nat,go (.bw H.length [] c.size 0 n (some (n+j))) (H++[.cell true e (.arr (n+j) c (xs++List.replicate j z))])
def Kp (n:Nat):List AV:=List.replicate n AV.undef
def jG (E:Env) (d:bG):Option (TypeId×bG):=
 match d.desc with
 | .slice e=>match E.ty e with | some x=>some (e,x) | none=>none
 | .array _ e=>match E.ty e with | some x=>some (e,x) | none=>none
 | _=>none
def MF (E:Env) (d:bG):Option Nat:=
 match d.desc with
 | .array _ e=>match E.ty e with | some x=>some x.size | none=>none
 | _=>some 0
def rI (d:bG):Bool:=match d.desc with | .slice _=>true | _=>false
def isSlice (E:Env) (ts:Array TypeId):Bool:=
 match ts[0]? with
 | some t=>match E.ty t with
  | some d=>match d.desc with | .slice _=>true | _=>false
  | none=>false
 | none=>false
def J1 (E:Env) (H:av) (t1:TypeId) (s x:AV):Option (List Prop×AV×av):=
 match E.ty t1 with
 | some d=>match jG E d with
  | some (e,de)=>match rI d,de.code with
   | true,some c=>if c.size=de.size∧de.size≠0 then
    match lZ c H x with
    | some (q,ys)=>match s,ys with
      | .raw (.slice none 0 0),[]=>some (q,.raw (.slice none 0 0),H)
      | .raw (.slice none 0 0),y :: ys=>some (q++[(y :: ys).length * de.bytes≤2 ^ 40,(y :: ys).length≤2 ^ 40],.bw H.length [] c.size 0 (y :: ys).length none,H++[.cell true e (.arr (y :: ys).length c (y :: ys))])
      | .bw ob [] s0 0 len none,ys=>match H[ob]? with
       | some (.cell true t (.arr m c' xs))=>
        if h:c'=c then
         if s0=c.size∧t=e then some (q++[len=m,(len+ys.length) * de.bytes≤2 ^ 40,len+ys.length≤2 ^ 40],.bw H.length [] s0 0 (len+ys.length) none,
          H.set ob .dead++[.cell true e (.arr (len+ys.length) c ((h▸xs:List c.den)++ys))])
         else none
        else none
       | _=>none
      | .bw ob [] s0 off len (some k),y :: ys=>match H[ob]? with
       | some (.cell true t (.arr m c' xs))=>
        if h:c'=c then
         if s0=c.size∧t=e∧k < len+(y :: ys).length then some (q++[off+len≤m,(len+(y :: ys).length) * de.bytes≤2 ^ 40,len+(y :: ys).length≤2 ^ 40],.bw H.length [] s0 0 (len+(y :: ys).length) none,
          H++[.cell true e (.arr (len+(y :: ys).length) c ((((h▸xs:List c.den).drop off).take len)++y :: ys))])
         else none
        else none
       | _=>none
      | _,_=>none
    | none=>none
    else none
   | _,_=>none
  | none=>none
 | none=>none
def OK (E:Env) (H:av) (t1:TypeId) (s x:AV):Option (List Prop×AV×av):=
 match E.ty t1 with
 | some d=>match jG E d with
  | some (e,de)=>match rI d,de.code with
   | true,some c=>if c.size=de.size∧de.size≠0 then
    match lZ c H x with
    | some (q,ys)=>match s with
      | .raw (.slice none 0 0)=>some (q++[ys.length * de.bytes≤2 ^ 40,ys.length≤2 ^ 40],.row H.length c.size ys.length,H++[.row e c ys])
      | .row ob s0 len=>match H[ob]? with
       | some (.row t c' xs)=>
        if h:c'=c then
         if s0=c.size∧t=e then some (q++[len=xs.length,(len+ys.length) * de.bytes≤2 ^ 40,len+ys.length≤2 ^ 40],.row H.length s0 (len+ys.length),
          H.set ob .dead++[.row e c ((h▸xs:List c.den)++ys)])
         else none
        else none
       | _=>none
      | _=>none
    | none=>none
    else none
   | _,_=>none
  | none=>none
 | none=>none
mutual
def df (H:av):AV→Option (List Prop×AV×av)
 | .row o s n=>match H[o]? with
  | some (.row _ c xs)=>if s=c.size then some ([n=xs.length],.gf c xs,H.set o .dead) else none
  | _=>none
 | .agg ss vs=>match rZ H vs with
  | some (q,us,H)=>some (q,.agg ss us,H)
  | none=>none
 | v=>some ([],v,H)
def rZ (H:av):List AV→Option (List Prop×List AV×av)
 | []=>some ([],[],H)
 | v :: vs=>match df H v with
  | some (q,u,H)=>match rZ H vs with
   | some (q',us,H)=>some (q++q',u :: us,H)
   | none=>none
  | none=>none
end
def Ee (E:Env) (H:av) (t1 t2:TypeId) (s x:AV):Option (List Prop×AV×av):=
 match E.ty t1,E.ty t2,x with
 | some d,some d2,.int _ n=>match d2.desc,jG E d with
  | .int _,some (e,de)=>match rI d,de.code with
   | true,some c=>match Kb c de.zero with
    | some z=>if c.size=de.size∧de.size≠0 then
      match s with
      | .raw (.slice none 0 0)=>some ([0 < n,n.toNat * de.bytes≤2 ^ 40,n.toNat≤2 ^ 40],.bw H.length [] c.size 0 n.toNat none,H++[.cell true e (.arr n.toNat c (List.replicate n.toNat z))])
      | .bw ob [] s0 off len (some k)=>match H[ob]? with
       | some (.cell true t (.arr m c' xs))=>
        if h:c'=c then
         if s0=c.size∧t=e then some ([0 < n,k < len+n.toNat,off+len≤m,(len+n.toNat) * de.bytes≤2 ^ 40,len+n.toNat≤2 ^ 40],.bw H.length [] s0 0 (len+n.toNat) none,
          H++[.cell true e (.arr (len+n.toNat) c ((((h▸xs:List c.den).drop off).take len)++List.replicate n.toNat z))])
         else none
        else none
       | _=>none
      | _=>none
     else none
    | none=>none
   | _,_=>none
  | _,_=>none
 | _,_,_=>none
def oD (E:Env) (kt et:TypeId) (kk:IntKind) (n:Int) (ok:Bool) (xs:List (Int×Int)) (H:av):Option (List Prop×AV×av):=
 match E.ty kt,E.ty et with
 | some dk,some de=>match dk.desc,de.zero with
  | .int _,.int k z=>if kk=.i64∧k=.i64∧z=0 then some ([],jX ok (.int .i64 (gk n xs)) (Gg n xs),H) else none
  | _,_=>none
 | _,_=>none
def Mf (E:Env) (kt:TypeId) (kk:IntKind) (n:Int) (v:AV) (xs:List (Int×Int)) (o:Nat) (H:av):Option (List Prop×AV×av):=
 match E.ty kt with
 | some dk=>match dk.desc,v with
  | .int _,.int k m=>if kk=.i64∧k=.i64 then some ([],.undef,H.set o (.kh (nH n m xs))) else none
  | _,_=>none
 | none=>none
def jN (E:Env) (T:List AV) (H:av) (o:Oper):Option (List Prop×AV×av):=
 match o.op with
 | .move x | .assign x=>match ev E T x with | some v=>some ([],v,H) | none=>none
 | .pick c a b=>match ev E T c,ev E T a,ev E T b with | some (.bool c),some a,some b=>some ([],nP c a b,H) | _,_,_=>none
 | .alloc t=>match E.ty t with | some d=>JY d t d.zero H | none=>none
 | .box t x=>match E.ty t,ev E T x with | some d,some v=>JY d t v H | _,_=>none
 | .build t parts=>match E.ty t,j5 E T parts.toList with
  | some d,some ps=>match MF E d with
   | some s=>match Gu E d s ps with
    | some (q,v)=>if dM v=true then some (q,v,H) else none
    | none=>none
   | none=>none
  | _,_=>none
 | .buildSlice t len parts=>match E.ty t,j5 E T parts.toList with
  | some d,some ps=>match d.desc with
   | .slice e=>match E.ty e with
    | some de=>match de.code with
     | some c=>match Kb c de.zero with
      | some z=>if c.size=de.size∧len * de.size≤2 ^ 24∧de.size≠0 then
        match settle H ps with
        | some (q0,ps,H)=>match nT (fun i=>some (.idx de.size i,de.size)) (.arr len c (List.replicate len z)) ps with
         | some (q,v)=>if l4 v=len * de.size then some (q0++q,.bw H.length [] de.size 0 len (some len),H++[.cell true e v]) else none
         | none=>none
        | none=>none
       else none
      | none=>none
     | none=>if len * de.size≤2 ^ 24∧de.size≠0 then
        match nT (fun i=>some (.idx de.size i,de.size)) (Ed de len) ps with
        | some (q,v)=>if l4 v=len * de.size then some (q,.bw H.length [] de.size 0 len (some len),H++[.cell true e v]) else none
        | none=>none
       else none
    | none=>none
   | _=>none
  | _,_=>none
 | .load t a=>match E.ty t,ev E T a with
  | some d,some a=>match eO H a with
   | some (q,v)=>if l4 v=d.size∧dM v=d.agg then some (q,v,H) else none
   | none=>none
  | _,_=>none
 | .store t a x=>match E.ty t,ev E T a,ev E T x with
  | some d,some a,some x=>if l4 x=d.size∧pn x=true then (match nY H a x with | some (q,H')=>some (q,.undef,H') | none=>none) else none
  | _,_,_=>none
 | .nilCheck x=>match ev E T x with
  | some (.ptr o p)=>some ([],.ptr o p,H)
  | some (.ref v)=>some ([],.ref v,H)
  | some (.fn f cs)=>some ([],.fn f cs,H)
  | some (.ik l)=>some ([],.ik l,H)
  | _=>none
 | .binOp op t x y _=>match ev E T x,ev E T y with
  | some x,some y=>match bin op (E.ty t) x y with
   | some (q,v)=>some (q,v,H)
   | none=>match SF E op t x y with
    | some v=>some ([],v,H)
    | none=>none
  | _,_=>none
 | .unOp op _ x=>match ev E T x with
  | some x=>match un op x with | some v=>some ([],v,H) | none=>none
  | none=>none
 | .convert src dst x=>match E.ty src,E.ty dst,ev E T x with
  | some _,some d,some (.int _ n)=>match d.desc with | .int k=>some ([],.int k (aN k n),H) | _=>none
  | some s,some d,some v=>match Ng E s d v with | some u=>some ([],u,H) | none=>none
  | _,_,_=>none
 | .makeFunc (.func f) first caps=>match first.toList,nI E T caps.toList with
  | [],some cs=>if cs.all (fun v=>!dM v&&pn v)=true then some ([],.fn f cs,H) else none
  | x :: l,some []=>match nI E T (x :: l) with
   | some cs=>if cs.all (fun v=>!dM v&&pn v)=true then some ([],.yJ f cs,H) else none
   | none=>none
  | _,_=>none
 | .fieldAddr s x f=>match E.ty s,ev E T x with
  | some d,some x=>match jF E d x f with | some (q,v)=>some (q,v,H) | none=>none
  | _,_=>none
 | .field s x f=>match E.ty s,ev E T x with
  | some d,some x=>match oG E d x f with | some (q,v)=>some (q,v,H) | none=>none
  | _,_=>none
 | .indexAddr t x i=>match E.ty t,ev E T x,ev E T i with
  | some d,some x,some i=>match jG E d with
   | some (_,e)=>match iw d e.size x i with | some (q,v)=>some (q,v,H) | none=>none
   | none=>none
  | _,_,_=>none
 | .index t x i=>match E.ty t,ev E T x,ev E T i with
  | some d,some x,some i=>match jG E d with
   | some (_,e)=>match rK d e x i with | some (q,v)=>some (q,v,H) | none=>none
   | none=>match Gf d x i with | some (q,v)=>some (q,v,H) | none=>none
  | _,_,_=>none
 | .slice t x lo hi none=>match E.ty t,ev E T x,SC E T lo,SC E T hi with
  | some d,some x,some lo,some hi=>match m9 E d with
   | some s=>match El d s x lo hi with | some (q,v)=>some (q,v,H) | none=>none
   | none=>none
  | _,_,_,_=>none
 | .extract x i=>match ev E T x with
  | some (.lM vs)=>match vs[i]? with | some v=>some ([],v,H) | none=>none
  | _=>none
 | .call {callee:=.builtin b,args,argTypes}=>match b,nI E T args.toList with
  | .min,some [.int k a,.int k' b]=>if k=k' then some ([],.int k (JK a b),H) else none
  | .max,some [.int k a,.int k' b]=>if k=k' then some ([],.int k (imax a b),H) else none
  | .len,some [.gf _ xs]=>if isSlice E argTypes=true then some ([],.int .i64 xs.length,H) else none
  | .len,some [.bw _ _ _ _ len _]=>if isSlice E argTypes=true then some ([],.int .i64 len,H) else none
  | .len,some [.row _ _ n]=>if isSlice E argTypes=true then some ([],.int .i64 n,H) else none
  | .len,some [.raw (.slice none 0 0)]=>if isSlice E argTypes=true then some ([],.int .i64 0,H) else none
  | .cap,some [.bw _ _ _ _ _ (some k)]=>if isSlice E argTypes=true then some ([],.int .i64 k,H) else none
  | .cap,some [.raw (.slice none 0 0)]=>if isSlice E argTypes=true then some ([],.int .i64 0,H) else none
  | .copy,some [d,x]=>match argTypes[0]? with
   | some t=>match E.ty t with
    | some dd=>match jG E dd with
     | some (_,de)=>if rI dd=true then MK de.size H d x else none
     | none=>none
    | none=>none
   | none=>none
  | _,_=>none
 | .makeSlice t len cap=>match E.ty t,ev E T len,ev E T cap with
  | some d,some l,some c=>match jG E d with
   | some (e,de)=>if rI d=true then G8 e de H l c else none
   | none=>none
  | _,_,_=>none
 | .makeMap t none=>if E.kh t=true then some ([],.mp H.length,H++[.kh []]) else some ([],.mp H.length,H++[.map []])
 | .insert t m k x=>match E.ty t,ev E T m,ev E T k,ev E T x with
  | some d,some (.mp o),some (.int kk n),some v=>match d.desc,H[o]? with
   | .map kt _,some (.map es)=>match E.ty kt with
    | some dk=>match dk.desc with
     | .int _=>if wO kk n es=true∧pn v=true then some ([],.undef,H.set o (.map (es++[(.int kk n,v)]))) else none
     | _=>none
    | none=>none
   | _,_=>none
  | _,_,_,_=>none
 | .lookup t m k ok=>match E.ty t,ev E T m,ev E T k with
  | some d,some (.mp ob),some (.int kk n)=>match d.desc,H[ob]? with
   | .map kt et,some (.map es)=>match E.ty kt,E.ty et with
    | some dk,some de=>match dk.desc with
     | .int _=>match r8 n kk de.zero es with
      | some (v,fl)=>some ([],jX ok v fl,H)
      | none=>none
     | _=>none
    | _,_=>none
   | .map kt et,some (.kh xs)=>oD E kt et kk n ok xs H
   | _,_=>none
  | _,_,_=>none
 | .mapUpdate t m k x=>match E.ty t,ev E T m,ev E T k,ev E T x with
  | some d,some (.mp o),some (.int kk n),some v=>match d.desc,H[o]? with
   | .map kt _,some (.map es)=>match E.ty kt with
    | some dk=>match dk.desc with
     | .int _=>if wO kk n es=true∧pn v=true then some ([],.undef,H.set o (.map (es++[(.int kk n,v)]))) else none
     | _=>none
    | none=>none
   | .map kt _,some (.kh xs)=>Mf E kt kk n v xs o H
   | _,_=>none
  | _,_,_,_=>none
 | _=>none
def Mb (E:Env) (T:List AV) (H:av) (o:Oper) (go:AV→Prop):Prop:=
 match o.op with
 | .lookup t m k ok=>match E.ty t,ev E T m,ev E T k with
  | some d,some (.mp ob),some (.int kk n)=>match d.desc,H[ob]? with
   | .map kt et,some (.map es)=>match E.ty kt,E.ty et with
    | some dk,some de=>match dk.desc with
     | .int _=>match wP n kk de.zero es with
      | some (v,fl)=>go (jX ok v fl)
      | none=>jY n kk de.zero (fun v fl=>go (jX ok v fl)) es
     | _=>False
    | _,_=>False
   | .map kt et,some (.kh xs)=>match oD E kt et kk n ok xs H with
    | some (_,v,_)=>go v
    | none=>False
   | _,_=>False
  | _,_,_=>False
 | _=>False
def MV (E:Env) (T:List AV) (H:av) (o:Oper) (go:AV→av→Prop):Prop:=
 match o.op with
 | .call {callee:=.builtin .append,args,argTypes}=>match argTypes.toList,nI E T args.toList with
  | [t1,t2],some [s,x]=>if t1=t2 then
   match E.ty t1 with
   | some d=>match jG E d with
    | some (e,de)=>match rI d,de.code with
     | true,some c=>if c.size=de.size∧de.size≠0 then
      match lZ c H x with
      | some (q,ys)=>match s with
       | .raw (.slice none 0 0)=>lX q (cond (ak ys.length 0) (go s H) (lX [ys.length * de.bytes≤2 ^ 40,ys.length≤2 ^ 40] (go (.bw H.length [] c.size 0 ys.length none) (H++[.cell true e (.arr ys.length c ys)]))))
       | _=>False
      | none=>False
      else False
     | _,_=>False
    | none=>False
   | none=>False
   else False
  | _,_=>False
 | _=>False
def Rr:Op→Bool
 | .lookup ..=>true
 | _=>false
def isApp (E:Env) (T:List AV):Op→Bool
 | .call {callee:=.builtin .append,args,..}=>match nI E T args.toList with
  | some [.raw (.slice none 0 0),_]=>!E.rows
  | _=>false
 | _=>false
def pT (fn:Func) (args:List AV):List AV:=args++Kp (fn.ntmps - args.length)
def Ce (T:List AV):List Nat→List AV→List AV
 | p :: ps,v :: vs=>Ce (T.set p v) ps vs
 | _,_=>T
def ML (T:List AV) (c:Operand) (b:Bool):List AV:=
 match c with
 | .tmp t=>T.set t (.bool b)
 | _=>T
def SH (E:Env) (H:av) (t1 t2:TypeId) (s x:AV) (go:AV→av→Prop):Prop:=
 match E.ty t1,E.ty t2 with
 | some d,some d2=>match jG E d with
  | some (e,de)=>match rI d,de.code with
   | true,some c=>match Kb c de.zero with
    | some z=>if c.size=de.size∧de.size≠0 then
      match d2.desc with
      | .int _=>match x with
       | .int _ n=>match s with
        | .raw (.slice none 0 0)=>lX [0 < n,n.toNat * de.bytes≤2 ^ 40,n.toNat≤2 ^ 40] (xg e c z H n.toNat (List.replicate n.toNat z) go)
        | .bw ob [] s0 off len (some k)=>match H[ob]? with
         | some (.cell true t (.arr m c' xs))=>
          if h:c'=c then
           if s0=c.size∧t=e then lX [0 < n,k < len+n.toNat,off+len≤m,(len+n.toNat) * de.bytes≤2 ^ 40,len+n.toNat≤2 ^ 40]
            (xg e c z H (len+n.toNat) ((((h▸xs:List c.den).drop off).take len)++List.replicate n.toNat z) go)
           else False
          else False
         | _=>False
        | _=>False
       | _=>False
      | _=>if t1=t2 then match lZ c H x with
       | some (q,ys)=>match s with
        | .raw (.slice none 0 0)=>lX q (cond (ak ys.length 0) (go s H) (lX [ys.length * de.bytes≤2 ^ 40,ys.length≤2 ^ 40] (xg e c z H ys.length ys go)))
        | .bw ob [] s0 off len (some k)=>match H[ob]? with
         | some (.cell true t (.arr m c' xs))=>
          if h:c'=c then
           if s0=c.size∧t=e then lX q (cond (cF k ((len+ys.length:Nat):Int))
            (lX [off+len≤m,(len+ys.length) * de.bytes≤2 ^ 40,len+ys.length≤2 ^ 40] (xg e c z H (len+ys.length) ((((h▸xs:List c.den).drop off).take len)++ys) go))
            (lX [off+len+ys.length≤m] (go (.bw ob [] s0 off (len+ys.length) (some k)) (H.set ob (.cell true e (.arr m c (fE (h▸xs:List c.den) (off+len) ys)))))))
           else False
          else False
         | _=>False
        | _=>False
       | none=>False
       else False
     else False
    | none=>False
   | _,_=>False
  | none=>False
 | _,_=>False
abbrev cM:=Fr→List Fr→av→Prop
def Hl:Option Code→Bool
 | none=>true
 | some .ret=>true
 | _=>false
def Kn (H:av) (v:AV):Option (List Prop×AV×av):=
 match v with
 | .lM vs=>match eu H (cW vs) with
  | some H2=>match views H2 vs with
   | some (q,us)=>if us.all pn=true then some (q,.lM us,H2) else none
   | none=>none
  | none=>none
 | v=>match eu H (j0 v) with
  | some H2=>match view H2 v with
   | some (q,u)=>some (q,u,H2)
   | none=>none
  | none=>none
def leave (E:Env) (Q:AV→av→Prop) (K:cM) (fr:Fr) (j:Option Code) (bm:List Fr) (H:av):Prop:=
 match fr.kind,bm with
 | .round l dst,fr' :: stk'=>match H[l]? with
  | some (.loop _ _ f T ps a b d)=>if fr.D.isEmpty=true then K {fr' with T:=b7 fr'.T dst (.bool j.isNone)} stk' (H.set l (.loop (if j.isNone then .ready else .done) j f T ps a b d)) else False
  | _=>False
 | kind,bm=>if Hl j then
   match E.fns fr.id with
   | some fn=>match gq H fr.D with
    | some H'=>match Et E H' fr.T fn with
     | some (q,v)=>lX q (match kind,bm with
      | .top,[]=>Q v H'
      | .call dst,fr' :: stk'=>K {fr' with T:=b7 fr'.T dst v} stk' H'
      | .iter _,fr' :: stk'=>K fr' stk' H'
      | _,_=>False)
     | none=>False
    | none=>False
   | none=>False
  else False
def Wr:List It→Nat
 | .a6 id :: _=>id
 | _=>0
def rowOf (ps:aH) (H:av):AV→Option (List Prop×List ps.ce.den×av)
 | .raw (.slice none 0 0)=>some ([],[],H)
 | .row o s n=>match H[o]? with
  | some (.row te c xs)=>if h:c=ps.ce then (if te=ps.te∧s=ps.ce.size then some ([n=xs.length],h▸xs,H.set o .dead) else none) else none
  | _=>none
 | _=>none
def GL (ps:aH) (H:av):AV→Option Nat
 | .ptr o []=>if ps.box=true then (match H[o]? with
  | some (.cell _ _ (.ptr ob []))=>some ob
  | _=>none) else some o
 | _=>none
def jg (ps:aH) (H:av) (as:List AV):Option (List Prop×AV×av):=
 match as.drop ps.pos with
 | p :: as2=>match GL ps H p with
  | some ob=>match H[ob]? with
   | some (.cell true t (.agg ss vs))=>if t=ps.t∧ss=ps.st.gD then
     match vs[ps.lf]?,ps.st.back.2 vs with
     | some r,some S=>match rowOf ps H r with
      | some (q1,xs,H1)=>if ((cW (as.take ps.pos++as2)).all fun o=>o != ob)=true then
        match views H (as.take ps.pos++as2) with
        | some (q2,us)=>match mK ps.arg us with
         | some x=>some (q1++(q2++[ps.pre (S,xs,x)]),l9 ps.n ps.cB (ps.g (S,xs,x)),
           H1.set ob (.cell true ps.t (.agg ps.st.gD (vs.set ps.lf (.row H.length ps.ce.size (ps.f (S,xs,x)).length))))++[.row ps.te ps.ce (ps.f (S,xs,x))])
         | none=>none
        | none=>none
       else none
      | none=>none
     | _,_=>none
    else none
   | _=>none
  | none=>none
 | _=>none
def LV (e:Own) (o:Nat):(c:TC)→c.den→Option (AV×aV)
 | .slice c,xs=>(match e with
  | .row e=>some (.bw o [] c.size 0 xs.length none,.cell true e (.arr xs.length c xs))
  | .mp _=>none)
 | .bC,_=>(match e with
  | .row _=>none
  | .mp es=>some (.mp o,.map es))
 | _,_=>none
def jb (E:Env) (T:List AV) (H:av) (o:Oper) (go:List AV→av→Prop):Prop:=
 match jN E T H o with
 | some (q,v,H')=>lX q (go (b7 T o.dst v) H')
 | none=>False
def DR (E:Env) (K:cM) (go:List AV→av→Prop) (fr:Fr) (bm:List Fr) (H:av) (o:Oper):Prop:=
 let T:=fr.T
 match o.op with
 | .call {callee:=.value f,args,..}=>match ev E T f,nI E T args.toList with
  | some (.fn f caps),some as=>
   if E.apart f=true then match Gv H (as++caps) with
    | some q=>lX q (go (b7 T o.dst (.bool false)) H)
    | none=>False
   else match E.sort f with
   | some sd=>match KA sd H (as++caps) with
    | some (q,v,H')=>lX q (go (b7 T o.dst v) H')
    | none=>False
   | none=>match E.proc f with
   | some ps=>match jg ps H (as++caps) with
    | some (q,v,H')=>lX q (go (b7 T o.dst v) H')
    | none=>False
   | none=>match E.spec f with
   | some sp=>
    if sp.cB.flat then
     match views H (as++caps) with
     | some (q,us)=>match mK sp.eX us with
      | some x=>lX q (sp.pre x∧go (b7 T o.dst (l9 sp.n sp.cB (sp.f x))) H)
      | none=>False
     | none=>False
    else
     match eu H (cW (as++caps)) with
     | some H'=>match views H' (as++caps) with
      | some (q,us)=>match mK sp.eX us with
       | some x=>lX q (sp.pre x∧match sp.own with
        | none=>go (b7 T o.dst (l9 sp.n sp.cB (sp.f x))) H'
        | some e=>match LV e H'.length sp.cB (sp.f x) with
         | some (v,ob)=>go (b7 T o.dst v) (H'++[ob])
         | none=>False)
       | none=>False
      | none=>False
     | none=>False
   | none=>match E.fns f with
    | some fn=>match fn.body with
     | some c=>K {id:=f,kind:=.call o.dst,T:=pT fn (as++caps),items:=[.code c],D:=[],base:=H.length} (fr :: bm) H
     | none=>False
    | none=>False
  | some (.yJ f fs),some as=>match E.fns f with
   | some fn=>match fn.body with
    | some c=>K {id:=f,kind:=.call o.dst,T:=pT fn (fs++as),items:=[.code c],D:=[],base:=H.length} (fr :: bm) H
    | none=>False
   | none=>False
  | some (.ik l),some as=>match H[l]? with
   | some (.loop _ _ f T0 ps a b _)=>
    if as.length=ps.length then
     K {id:=f,kind:=.round l o.dst,T:=Ce T0 ps as,items:=[.code a,.begin l,.code b],D:=[],base:=H.length} (fr :: bm) H
    else False
   | _=>False
  | _,_=>False
 | .call {callee:=.builtin .append,args,argTypes}=>match argTypes.toList,nI E T args.toList with
  | [t1,t2],some [s,x]=>if E.NF fr.id=true then (if t1=t2 then (match OK E H t1 s x with
   | some (q,v,H')=>lX q (go (b7 T o.dst v) H')
   | none=>False) else False) else if E.exact fr.id=true then SH E H t1 t2 s x (fun v H=>go (b7 T o.dst v) H) else if t1=t2 then
   match E.ty t1 with
   | some d=>match jG E d with
    | some (e,de)=>match rI d,de.code with
     | true,some c=>if c.size=de.size∧de.size≠0 then
      match lZ c H x with
      | some (q,ys)=>match s with
       | .raw (.slice none 0 0)=>lX q (cond (ak ys.length 0) (go (b7 T o.dst s) H)
         (ys.length * de.bytes≤2 ^ 40∧ys.length≤2 ^ 40∧go (b7 T o.dst (.bw H.length [] c.size 0 ys.length none)) (H++[.cell true e (.arr ys.length c ys)])))
       | .bw ob [] s 0 len none=>match H[ob]? with
        | some (.cell true t (.arr m c' xs))=>
         if h:c'=c then
          if s=c.size∧t=e then lX q (len=m∧(len+ys.length) * de.bytes≤2 ^ 40∧len+ys.length≤2 ^ 40∧
           go (b7 T o.dst (.bw H.length [] s 0 (len+ys.length) none)) (H.set ob .dead++[.cell true e (.arr (len+ys.length) c ((h▸xs:List c.den)++ys))]))
          else False
         else False
        | _=>False
       | .bw ob [] s off len (some k)=>match H[ob]? with
        | some (.cell true t (.arr m c' xs))=>
         if h:c'=c then
          if s=c.size∧t=e then lX q (cond (cF k ((len+ys.length:Nat):Int))
           (off+len≤m∧(len+ys.length) * de.bytes≤2 ^ 40∧len+ys.length≤2 ^ 40∧
            go (b7 T o.dst (.bw H.length [] s 0 (len+ys.length) none)) (H++[.cell true e (.arr (len+ys.length) c ((((h▸xs:List c.den).drop off).take len)++ys))]))
           (off+len+ys.length≤m∧
            go (b7 T o.dst (.bw ob [] s off (len+ys.length) (some k))) (H.set ob (.cell true e (.arr m c (fE (h▸xs:List c.den) (off+len) ys))))))
          else False
         else False
        | _=>False
       | _=>False
      | none=>False
      else False
     | _,_=>False
    | none=>False
   | none=>False
   else match Ee E H t1 t2 s x with
    | some (q,v,H')=>lX q (go (b7 T o.dst v) H')
    | none=>False
  | _,_=>False
 | .lookup t m k ok=>match E.ty t,ev E T m,ev E T k with
  | some d,some (.mp ob),some (.int kk n)=>match d.desc,H[ob]? with
   | .map kt et,some (.map es)=>match E.ty kt,E.ty et with
    | some dk,some de=>match dk.desc with
     | .int _=>match wP n kk de.zero es with
      | some (v,fl)=>go (b7 T o.dst (jX ok v fl)) H
      | none=>jY n kk de.zero (fun v fl=>go (b7 T o.dst (jX ok v fl)) H) es
     | _=>False
    | _,_=>False
   | .map kt et,some (.kh xs)=>match oD E kt et kk n ok xs H with
    | some (_,v,_)=>go (b7 T o.dst v) H
    | none=>False
   | _,_=>False
  | _,_,_=>False
 | .indexAddr t x i=>match E.ty t,ev E T x,ev E T i with
  | some d,some u,some (.int k n)=>match d.desc,V3 H u,jG E d with
   | .array m _,true,some (_,e)=>lX [0≤n,n < m] (wJ n m 0 fun j=>match iw d e.size u (.int k j) with
    | some (q,v)=>lX q (go (b7 T o.dst v) H)
    | none=>False)
   | _,_,_=>jb E T H o go
  | _,_,_=>jb E T H o go
 | .slice t x none none none=>match E.ty t,ev E T x with
  | some d,some (.ptr ob p)=>match d.desc with
   | .array n el=>match E.ty el,H[ob]? with
    | some ee,some (.cell _ _ v)=>match ix v p with
     | some (q,.arr m c _)=>if m=n∧c.size=ee.size then lX q (go (b7 T o.dst (.bw ob p ee.size 0 n (some n))) H) else False
     | _=>False
    | _,_=>False
   | _=>False
  | _,_=>jb E T H o go
 | .convert src dst x=>match E.ty src,E.ty dst,ev E T x with
  | some s,some d,some (.bw ob p sz off len cap)=>match view H (.bw ob p sz off len cap) with
   | some (q,u)=>match Ng E s d u with
    | some z=>lX q (go (b7 T o.dst z) H)
    | none=>False
   | none=>False
  | _,_,_=>jb E T H o go
 | .index t x i=>match E.ty t,ev E T x,ev E T i with
  | some d,some (.agg ss vs),some (.int k n)=>match d.desc,jG E d with
   | .array m _,some (_,e)=>lX [0≤n,n < m] (wJ n m 0 fun j=>match rK d e (.agg ss vs) (.int k j) with
    | some (q,v)=>lX q (go (b7 T o.dst v) H)
    | none=>False)
   | _,_=>jb E T H o go
  | _,_,_=>jb E T H o go
 | .binOp op t x y _=>match ev E T x,ev E T y with
  | some (.gf _ xs),some (.raw (.slice none 0 0))=>match E.ty t with
   | some d=>match d.desc,op with
    | .slice _,.eql=>cond (ak xs.length 0) (And (go (b7 T o.dst (.bool true)) H) (go (b7 T o.dst (.bool false)) H)) (go (b7 T o.dst (.bool false)) H)
    | .slice _,.neq=>cond (ak xs.length 0) (And (go (b7 T o.dst (.bool false)) H) (go (b7 T o.dst (.bool true)) H)) (go (b7 T o.dst (.bool true)) H)
    | _,_=>False
   | none=>False
  | _,_=>jb E T H o go
 | _=>jb E T H o go
def gS:Op→Bool
 | .load .. | .store .. | .alloc _ | .box .. | .buildSlice .. | .makeMap .. | .insert .. | .mapUpdate .. | .makeSlice .. | .lookup ..=>true
 | .call {callee:=.builtin .copy,..}=>true
 | .call {callee:=.builtin .append,..}=>true
 | .call {callee:=.value _,..}=>true
 | _=>false
def jl:Op→Bool
 | .store .. | .alloc _ | .box .. | .buildSlice .. | .makeMap .. | .insert .. | .mapUpdate .. | .makeSlice ..=>true
 | .call {callee:=.builtin .copy,..}=>true
 | .call {callee:=.builtin .append,..}=>true
 | _=>false
def Kc (ob:Nat):Option AV→Bool
 | some (.ptr ob' _)=>ob'==ob
 | some (.ref _)=>false
 | _=>true
def rootOf (T:List AV) (ops:Array Oper):Nat→Nat→Option Nat
 | 0,_=>none
 | n+1,a=>if ops.all (fun x=>x.dst != some a)=true then (match T[a]? with | some (.ptr ob _)=>some ob | _=>none)
  else match ops.toList.filter (fun x=>x.dst==some a) with
   | [o]=>match (match o.op with
     | .fieldAddr _ (.tmp b) _=>rootOf T ops n b
     | .nilCheck (.tmp b)=>rootOf T ops n b
     | _=>none) with
    | some ob=>if Kc ob T[a]?=true then some ob else none
    | none=>none
   | _=>none
def CP (T:List AV) (ops:Array Oper) (o:Oper):Option Nat:=
 match o.op with
 | .load _ (.tmp a)=>rootOf T ops 8 a
 | .store _ (.tmp a) _=>rootOf T ops 8 a
 | _=>none
def GB (T:List AV) (ops:Array Oper) (x y:Oper):Bool:=
 match CP T ops x,CP T ops y with
 | some a,some b=>a != b
 | _,_=>false
def Bd:Op→Bool
 | .load _ _=>true
 | .call {callee:=.value _,..}=>true
 | _=>false
def Bk:Op→Bool
 | .alloc _ | .box .. | .buildSlice .. | .makeMap .. | .makeSlice ..=>true
 | _=>false
def nm (E:Env):Op→Bool
 | .call {callee:=.value (.func f),..}=>match E.spec f with | some sp=>sp.own.isSome | none=>false
 | _=>false
def gT (E:Env):Op→Bool
 | .call {callee:=.value (.func f),..}=>(E.proc f).isSome
 | .call {callee:=.value (.tmp _),..}=>E.procs
 | _=>false
def mw (E:Env):Op→Bool
 | .buildSlice ..=>E.procs
 | _=>false
def jn (E:Env) (o:Op):Bool:=gT E o||nm E o
def wR (E:Env) (o:Op):Bool:=Bd o&&!jn E o
def Bj (E:Env) (o:Op):Bool:=Bk o||(nm E o&&!gT E o)
def jR (E:Env) (o:Op):Bool:=(jl o||jn E o)&&!mw E o
def mb (E:Env) (o:Op):Bool:=gS o&&!mw E o
def okF (f:Nat):Option AV→Bool
 | some (.ptr _ p)=>(match p.getLast? with | some (.M6 _ i)=>i==f | _=>false)
 | _=>true
def HB (T:List AV) (ops:Array Oper) (a:Nat):Option Nat:=
 match ops.toList.filter (fun x=>x.dst==some a) with
 | [o]=>match o.op with
  | .fieldAddr _ _ f=>if okF f T[a]?=true then some f else none
  | _=>none
 | _=>none
def Rk (f:Nat):Option AV→Bool
 | some (.fn g _)=>g==f
 | _=>true
def Hq (T:List AV) (ops:Array Oper) (c:Nat):Option Nat:=
 if ops.all (fun x=>x.dst != some c)=true then (match T[c]? with | some (.fn f _)=>some f | _=>none)
 else match ops.toList.filter (fun x=>x.dst==some c) with
  | [o]=>match o.op with
   | .move (.tmp b)=>if ops.all (fun x=>x.dst != some b)=true then (match T[b]? with | some (.fn f _)=>if Rk f T[c]?=true then some f else none | _=>none) else none
   | _=>none
  | _=>none
def qD (E:Env) (T:List AV) (ops:Array Oper) (o:Oper):Option aH:=
 match o.op with
 | .call {callee:=.value (.func f),..}=>if E.procs=true then E.proc f else none
 | .call {callee:=.value (.tmp c),..}=>if E.procs=true then (match Hq T ops c with | some f=>E.proc f | none=>none) else none
 | _=>none
def kJ (E:Env) (T:List AV) (ops:Array Oper) (ps:aH) (o:Oper):Bool:=
 match o.op with
 | .load t (.tmp a)=>match HB T ops a with
  | some f=>f != ps.lf
  | none=>ops.all (fun x=>x.dst != some a)&&(match T[a]? with
   | some (.ptr _ [])=>(match E.ty t with | some d=>d.size != ps.st.gD.sum | none=>false)
   | some (.ref _)=>true
   | _=>false)
 | .load _ (.global _)=>true
 | _=>false
def o4 (E:Env) (T:List AV) (ops:Array Oper) (x y:Oper):Bool:=
 match qD E T ops y with
 | some ps=>kJ E T ops ps x
 | none=>false
def pG:Op→Bool
 | .alloc _=>true
 | _=>false
def Du (E:Env) (T:List AV) (ops:Array Oper) (x y:Oper):Bool:=E.ns&&pG y.op&&((qD E T ops x).isSome||pG x.op)
def rM (E:Env) (T:List AV) (ops:Array Oper) (x y:Oper):Bool:=x.apart ops y&&(Du E T ops x y||o4 E T ops x y||o4 E T ops y x||GB T ops x y||(wR E x.op&&Bj E y.op)||(!(jR E x.op&&mb E y.op)&&!(jR E y.op&&mb E x.op)))
def kR (ops:Array Oper) (i:Nat):List Nat→List Nat→List Nat
 | [],acc=>acc
 | j :: js,acc=>kR ops i js (match ops[j]? with
  | some oj=>if oj.after.any (fun e=>Region.binds .any e&&(e.on==i||acc.contains e.on)) then j :: acc else acc
  | none=>acc)
def Oz (ops:Array Oper) (i:Nat):List Nat:=kR ops i (List.range ops.size) []
def DC (E:Env) (T:List AV) (ops:Array Oper) (listed:Array Bool) (i:Nat) (D:List Nat):Bool:=
 D.all (fun j=>!listed.getD j true)&&(match ops[i]? with
 | some oi=>(List.range ops.size).all fun j=>j==i||listed.getD j true||D.contains j||(match ops[j]? with
  | some oj=>rM E T ops oi oj
  | none=>true)
 | none=>true)
def Hr (E:Env) (T:List AV) (ops:Array Oper) (listed:Array Bool) (i:Nat):Bool:=DC E T ops listed i (Oz ops i)
def mu (E:Env) (T:List AV) (ops:Array Oper):Nat→Nat→Array Bool→Bool
 | 0,_,listed=>(Region.ready .any ops listed).isEmpty
 | f+1,k,listed=>(Region.ready .any ops listed).contains k&&Hr E T ops listed k&&mu E T ops f (k+1) (listed.setIfInBounds k true)
def yn (E:Env) (T:List AV) (ops:Array Oper):Bool:=Region.noSelect ops&&mu E T ops ops.size 0 (Array.replicate ops.size false)
def j1 (H:av) (os:List Nat):Bool:=os.all fun o=>match H[o]? with | some (.cell false _ _)=>true | _=>false
def HG (E:Env) (r:Option (List Prop×AV×av)):Option (List Prop×AV×av):=
 if E.XO=true then
  (match r with
  | some (q,v,H')=>(match eu H' (j0 v) with
   | some H2=>some (q,v,H2)
   | none=>none)
  | none=>none)
 else r
def xM (E:Env) (T:List AV) (H:av) (o:Oper):Option (List Prop×AV×av):=
 match jN E T [] o with
 | some (q,.bw 0 [] _ 0 n _,[.cell true _ (.arr m c xs)])=>if m=n then some (q,.gf c xs,H) else none
 | _=>none
def pH (E:Env) (T:List AV) (H:av) (o:Oper):Option (List Prop×AV×av):=
 match o.op,o.dst with
 | .alloc t,some d=>match T[d]?,E.ty t with
  | some (.ns i),some ty=>match H[i]? with
   | some .hole=>if l4 ty.zero=ty.size∧pn ty.zero=true then some ([],.ptr i [],H.set i (.cell true t ty.zero)) else none
   | _=>none
  | _,_=>none
 | _,_=>none
def rowAt (H:av):Option AV→Bool
 | some (.ptr o _)=>(match H[o]? with | some (.row _ _ _)=>true | _=>false)
 | _=>false
def ck (E:Env) (T:List AV) (H:av) (o:Oper):Option (List Prop×AV×av):=
 match o.op with
 | .call {callee:=.value f,args,..}=>match ev E T f,nI E T args.toList with
  | some (.fn f caps),some as=>match E.spec f with
   | some sp=>if (sp.cB.flat||j1 H (cW (as++caps)))=true then
     match views H (as++caps) with
     | some (q,us)=>match mK sp.eX us with
      | some x=>some (q++[sp.pre x],l9 sp.n sp.cB (sp.f x),H)
      | none=>none
     | none=>none
    else none
   | none=>none
  | _,_=>none
 | .call {callee:=.builtin .append,args,argTypes}=>match argTypes.toList,nI E T args.toList with
  | [t1,t2],some [s,x]=>if t1=t2 then (if E.rows=true then OK E H t1 s x else J1 E H t1 s x) else none
  | _,_=>none
 | .buildSlice _ _ _=>if E.procs=true then xM E T H o else HG E (jN E T H o)
 | .load _ a=>if (E.procs&&rowAt H (ev E T a))=true then none else jN E T H o
 | .alloc _=>if E.ns=true then pH E T H o else jN E T H o
 | _=>jN E T H o
def rL (E:Env) (T:List AV) (H:av) (o:Oper):Option (List Prop×AV×av):=
 match o.op with
 | .call {callee:=.value f,args,..}=>match ev E T f,nI E T args.toList with
  | some (.fn f caps),some as=>match E.spec f with
   | some sp=>match sp.own with
    | some e=>if (cW (as++caps)).isEmpty=true then
      match views H (as++caps) with
      | some (q,us)=>match mK sp.eX us with
       | some x=>match LV e H.length sp.cB (sp.f x) with
        | some (v,ob)=>some (q++[sp.pre x],v,H++[ob])
        | none=>none
       | none=>none
      | none=>none
     else none
    | none=>none
   | none=>none
  | _,_=>none
 | _=>none
def lH (E:Env) (T:List AV) (H:av) (o:Oper):Option (List Prop×AV×av):=
 match o.op with
 | .call {callee:=.value f,args,..}=>match ev E T f,nI E T args.toList with
  | some (.fn f caps),some as=>match E.proc f with
   | some ps=>jg ps H (as++caps)
   | none=>ck E T H o
  | _,_=>none
 | _=>none
def cG (E:Env) (T:List AV) (H:av) (o:Oper):Option (List Prop×AV×av):=if gT E o.op=true then lH E T H o else if nm E o.op=true then rL E T H o else ck E T H o
def ij (E:Env) (all:List Oper):List Oper→List AV→av→(List AV→av→Prop)→Prop
 | [],T,H,go=>go T H
 | o :: rest,T,H,go=>
  match o.guard with
  | none=>if Rr o.op=true then Mb E T H o (fun v=>ij E all rest (b7 T o.dst v) H go)
   else if isApp E T o.op=true then MV E T H o (fun v H=>ij E all rest (b7 T o.dst v) H go)
   else match cG E T H o with
   | some (q,v,H')=>lX q (ij E all rest (b7 T o.dst v) H' go)
   | none=>False
  | some (j,want)=>match (all[j]?).bind (·.dst) with
   | some t=>match T[t]? with
    | some (.bool b)=>cond (b==want)
      (match cG E (T.set t (.bool want)) H o with
       | some (q,v,H')=>lX q (ij E all rest (b7 (T.set t (.bool want)) o.dst v) H' go)
       | none=>False)
      (ij E all rest (b7 (T.set t (.bool (!want))) o.dst .undef) H go)
    | some (.lM _)=>ij E all rest (b7 T o.dst .undef) H go
    | _=>False
   | none=>False
def lq (E:Env) (T0:List AV) (ops:Array Oper) (go:List AV→av→Prop):PM→Option (List Nat)→Nat→Array Bool→List AV→av→Prop
 | .fin,none,_,listed,T,H=>if (Region.ready .any ops listed).isEmpty=true then go T H else False
 | .one k s,none,fuel+1,listed,T,H=>match ops[k]? with
  | some o=>if ((Region.ready .any ops listed).contains k&&Hr E T0 ops listed k)=true then ij E ops.toList [o] T H (lq E T0 ops go s none fuel (listed.setIfInBounds k true)) else False
  | none=>False
 | .two j k s s',none,fuel+1,listed,T,H=>match ops[j]?,ops[k]? with
  | some o,some o'=>if (Region.ready .any ops listed==[j,k])=true then
    And (ij E ops.toList [o] T H (lq E T0 ops go s none fuel (listed.setIfInBounds j true))) (ij E ops.toList [o'] T H (lq E T0 ops go s' none fuel (listed.setIfInBounds k true))) else False
  | _,_=>False
 | .alt k s s',td,fuel+1,listed,T,H=>match td.getD (Region.ready .any ops listed),ops[k]? with
  | [i],some o=>if (i==k)=true then ij E ops.toList [o] T H (lq E T0 ops go s none fuel (listed.setIfInBounds k true)) else False
  | i :: j :: l,some o=>if (i==k)=true then
    And (ij E ops.toList [o] T H (lq E T0 ops go s none fuel (listed.setIfInBounds k true))) (lq E T0 ops go s' (some (j :: l)) (fuel+1) listed T H) else False
  | _,_=>False
 | _,_,_,_,_,_=>False
def Ek (sp:Option (Nat×List Step×Nat)) (T:List AV) (H:av) (go:List AV→av→Prop):Prop:=
 match sp with
 | none=>go T H
 | some (t,p,m)=>match T[t]? with
  | some (.int k n)=>lX [0≤n,n < m] (wJ n m 0 fun j=>go (T.set t (.int k j)) H)
  | some (.ptr ob p0)=>match H[ob]? with
   | some (.cell true ty v)=>match ix v (p0++p) with
    | some (q,.int k n)=>lX (q++[0≤n,n < m]) (wJ n m 0 fun j=>match sw v (p0++p) (.int k j) with
     | some v'=>go T (H.set ob (.cell true ty v'))
     | none=>False)
    | _=>False
   | _=>False
  | _=>False
def wN (o:Oper):Oper:={o with op:=.move (.const (.bool false)),dst:=none,guard:=none}
def eB (ops:Array Oper):Array Oper:=
 match ops[ops.size - 1]? with
 | some o=>ops.setIfInBounds (ops.size - 1) (wN o)
 | none=>ops
def we (ops:Array Oper):Bool:=(List.range ops.size).all fun j=>(j==ops.size - 1||(Oz ops j).contains (ops.size - 1))&&(match ops[j]? with
 | some o=>o.after.all fun e=>!Region.binds .any e||decide (e.on < j)
 | none=>true)
def Mh:List Nat→Nat→List AV→List AV
 | [],_,T=>T
 | t :: ts,n,T=>Mh ts (n+1) (T.set t (.ns n))
def tb (E:Env) (K:cM) (fr:Fr) (k:List It) (bm:List Fr) (T:List AV) (H:av) (id:Nat) (ops:Array Oper) (draw:Bool):Prop:=
 if draw then
  if E.tail fr.id id=true then
   match ops[ops.size - 1]? with
   | some o=>if (o.guard.isNone&&we ops&&yn E T (eB ops))=true then
     ij E (eB ops).toList (eB ops).toList T H (fun T H=>DR E K (fun T H=>K {fr with T,items:=k} bm H) {fr with T,items:=k} bm H o)
    else False
   | none=>False
  else match E.sched fr.id id with
  | some s=>if Region.noSelect ops=true then lq E T ops (fun T H=>K {fr with T,items:=k} bm H) s none ops.size (Array.replicate ops.size false) T H else False
  | none=>if yn E T ops=true then ij E ops.toList ops.toList T H (fun T H=>K {fr with T,items:=k} bm H) else False
  else K {fr with T,items:=.ops ops.toList ops.toList :: k} bm H
def zH (E:Env) (K:cM) (fr:Fr) (k:List It) (bm:List Fr) (H:av) (id:Nat) (ops:Array Oper) (draw:Bool):Prop:=
 match E.Hp fr.id id with
 | []=>tb E K fr k bm (CS E fr.id id fr.T) H id ops draw
 | t :: ts=>tb E K fr k bm (Mh (t :: ts) H.length (CS E fr.id id fr.T)) (H++List.replicate (t :: ts).length .hole) id ops draw
def Rw (E:Env) (f:FuncId) (id:Nat) (T:List AV) (H:av):Option (List Prop×av):=
 match E.WQ f id with
 | none=>some ([],H)
 | some t=>match T[t]? with
  | some (.ptr ob _)=>match H[ob]? with
   | some (.cell true ty v)=>match df H v with
    | some (q,u,H')=>if l4 u=l4 v then some (q,H'.set ob (.cell true ty u)) else none
    | none=>none
   | _=>none
  | _=>none
def tf (E:Env) (K:cM) (fr:Fr) (k:List It) (bm:List Fr) (H:av) (id:Nat) (ops:Array Oper) (draw:Bool):Prop:=
 match Rw E fr.id id fr.T H with
 | some (q,H)=>lX q (Ek (E.split fr.id id) fr.T H fun T H=>zH E K {fr with T} k bm H id ops draw)
 | none=>False
def Kz (E:Env) (stop:FuncId→Nat→Nat→Option Cut) (Q:AV→av→Prop) (W K:cM) (fr:Fr) (bm:List Fr) (H:av):Prop:=
 match fr.items with
 | .lp c :: k=>match stop fr.id (2 * Wr k) fr.base with
  | some g=>match (match g.Ea&&!(E.Ea&&Ds fr.kind) with | true=>none | false=>OA g fr H) with
   | some (fr',H')=>W fr' (Gr g.bm bm) H'
   | none=>False
  | none=>K {fr with items:=.code c :: .lp c :: k} bm H
 | .a6 _ :: k=>K {fr with items:=k} bm H
 | .Ni :: k=>K {fr with items:=k} bm H
 | .begin l :: k=>match H[l]? with
  | some (.loop .ready p f T ps a b d)=>K {fr with items:=k} bm (H.set l (.loop .busy p f T ps a b d))
  | _=>False
 | .fin l :: k=>match H[l]? with
  | some (.loop s p f T ps a b d)=>
   if s==.busy then False else
    match p with
    | none=>K {fr with items:=k} bm (H.set l (.loop .exhausted p f T ps a b d))
    | some c=>K {fr with items:=.code c :: k} bm (H.set l (.loop .exhausted p f T ps a b d))
  | _=>False
 | .ops _ [] :: k=>K {fr with items:=k} bm H
 | .ops all (o :: rest) :: k=>
  match o.guard with
  | none=>DR E K (fun T H=>K {fr with T,items:=.ops all rest :: k} bm H) {fr with items:=.ops all rest :: k} bm H o
  | some (j,want)=>match (all[j]?).bind (·.dst) with
   | some t=>match fr.T[t]? with
    | some (.bool b)=>
     cond (b==want)
      (DR E K (fun T H=>K {fr with T,items:=.ops all rest :: k} bm H) {fr with T:=fr.T.set t (.bool want),items:=.ops all rest :: k} bm H o)
       (K {fr with T:=b7 (fr.T.set t (.bool (!want))) o.dst .undef,items:=.ops all rest :: k} bm H)
    | some (.lM _)=>K {fr with T:=b7 fr.T o.dst .undef,items:=.ops all rest :: k} bm H
    | _=>False
   | none=>False
 | .now c :: k=>match c with
  | .region id ops draw=>tf E K fr k bm H id ops draw
  | _=>False
 | .code c :: k=>
  match c with
  | .skip=>K {fr with items:=k} bm H
  | .label _=>K {fr with items:=k} bm H
  | .seq a b=>K {fr with items:=.code a :: .code b :: k} bm H
  | .cond c t e=>match ev E fr.T c with
   | some (.bool b)=>cond b (K {fr with T:=ML fr.T c true,items:=.code t :: k} bm H) (K {fr with T:=ML fr.T c false,items:=.code e :: k} bm H)
   | _=>False
  | .block id c=>K {fr with items:=.code c :: .a6 id :: k} bm H
  | .scope c=>K {fr with items:=.code c :: .Ni :: k} bm H
  | .loop b=>K {fr with items:=.lp b :: k} bm H
  | .region id ops draw=>match stop fr.id (2 * id+1) fr.base with
   | some g=>match (match g.Ea&&!(E.Ea&&Ds fr.kind) with | true=>none | false=>OA g fr H) with
    | some (fr',H')=>W fr' (Gr g.bm bm) H'
    | none=>False
   | none=>tf E K fr k bm H id ops draw
  | .rangeFunc f ps asg body=>match ev E fr.T f with
   | some (.fn f caps)=>match E.fns f with
    | some fn=>match fn.body with
     | some c=>
      match fr.kind with
      | .round l0 _=>match H[l0]? with
       | some (.loop _ _ _ _ _ _ _ d)=>
        K {id:=f,kind:=.iter H.length,T:=pT fn (.ik H.length :: caps),items:=[.code c],D:=[],base:=H.length+1} ({fr with items:=.fin H.length :: k} :: bm)
         (H++[.loop .ready none fr.id fr.T ps.toList asg body d])
       | _=>False
      | _=>
       K {id:=f,kind:=.iter (H.length+1),T:=pT fn (.ik (H.length+1) :: caps),items:=[.code c],D:=[],base:=H.length+2} ({fr with items:=.fin (H.length+1) :: k,D:=H.length :: fr.D} :: bm)
        (H++[.kQ,.loop .ready none fr.id fr.T ps.toList asg body H.length])
     | none=>False
    | none=>False
   | _=>False
  | .exit id=>match rV id k with
   | some k'=>K {fr with items:=k'} bm H
   | none=>if through k=true then leave E Q K fr (some (.exit id)) bm H else False
  | .ret=>if through k=true then leave E Q K fr (some .ret) bm H else False
  | _=>False
 | []=>leave E Q K fr none bm H
def run (E:Env) (stop:FuncId→Nat→Nat→Option Cut) (Q:AV→av→Prop) (W:cM):Nat→cM
 | 0=>W
 | n+1=>Kz E stop Q W (run E stop Q W n)
end Go.bz
end
section
namespace Go.bz
open Go.RowKit
def bG.ok (P:Program) (t:TypeId) (d:bG):Prop:=
 P.underlying t=some d.desc∧∃ i z,P.info? t=some i∧i.size=d.size∧i.bytes=d.bytes∧i.zero=some z∧(∀ ι,b5 ι d.zero z)∧dM d.zero=d.agg∧l4 d.zero=d.size
def BU (P:Program) (f:FuncId):Prop:=
 ∀ (w:World) (a b:Addr) (la ca lb cb:Nat),a.block≠b.block→(∃ cells t,w.heap[a.block]?=some (.cells cells t (0,0)))→(∃ cells t fz,w.heap[b.block]?=some (.cells cells t fz)∧cells.size≠0)→
  (callFunc f #[.slice (some a) la ca,.slice (some b) lb cb]).run P w=.ok (.value (.bool false)) w
def iB (P:Program) (f:FuncId) (args:Array Value) (w:World) (R:Value→World→Prop):Prop:=
 (∃ v,(callFunc f args).run P w=.ok (.value v) w∧R v w)∨
 ((callFunc f args).run P w=.ok (.enter f args) w∧Calls P f args w fun e w'=>∃ v,e=.returned v∧R v w')
def fG.Wu (s:fG) (p:Addr) (xs:List s.c.den) (cap:Nat):Value:=
 match s.res with
 | none=>.tuple #[]
 | some g=>.slice (some p) (g xs) cap
def fG.PK (s:fG):Value:=
 match s.res with
 | none=>.tuple #[]
 | some _=>.slice none 0 0
def Gy (P:Program) (f:FuncId) (s:fG):Prop:=
 ((∀ ι x l,bO ι s.c x l↔l=s.enc x)∧∀ g,s.res=some g→∀ xs,g xs≤xs.length)∧(∀ xs,(s.f xs).length=xs.length)∧
 (∀ w,iB P f (#[.slice none 0 0]++s.rest) w fun c w'=>c=s.PK∧Below w.heap.size w w')∧
 ∀ (w:World) (a6 off cap:Nat) (xs:List s.c.den) (cells:Array Value) (t:TypeId),xs.length < 2 ^ 60→xs.length≤cap→w.heap[a6]?=some (.cells cells t (0,0))→
  (cells.toList.drop off).take (xs.length * s.c.size)=xs.flatMap s.enc→
  iB P f (#[.slice (some ⟨a6,off,none⟩) xs.length cap]++s.rest) w fun c w'=>c=s.Wu ⟨a6,off,none⟩ xs cap∧
   ∃ (w1:World) (cells':Array Value),w1.heap[a6]?=some (.cells cells' t (0,0))∧cells'.toList=cells.toList.take off++((s.f xs).flatMap s.enc++cells.toList.drop (off+xs.length * s.c.size))∧
    (∀ k,k≠a6→w1.heap[k]?=w.heap[k]?)∧w1.heap.size=w.heap.size∧w1.os=w.os∧w1.tape=w.tape∧w1.output=w.output∧Below w1.heap.size w1 w'
structure Env.Valid (E:Env):Prop where
 ty:∀ t d,E.ty t=some d→d.ok E.P t
 fns:∀ f fn,E.fns f=some fn→E.P.funcs[f]?=some fn∧(fn.name == "runtime.NumGoroutine")=false
 mixed:E.P.follows .mixedOrders=true
 apart:∀ f,E.apart f=true→BU E.P f
 sort:∀ f s,E.sort f=some s→Gy E.P f s
def dc (E:Env) (ι:aD):Prop:=∀ g v,E.cQ g=some v→∃ cells t fz l,ι.a5 g=some (.cells cells t fz)∧(∀ ι',aQ ι' v l)∧At cells 0 l
theorem dc.sub {E:Env} {ι ι':aD} (h:∀ b o,ι.a5 b=some o→ι'.a5 b=some o) (k:dc E ι):dc E ι':=fun g v e=>by
 obtain ⟨cells,t,fz,l,e1,e2⟩:=k g v e
 exact ⟨cells,t,fz,l,h _ _ e1,e2⟩
theorem dc.WX {E:Env} {ι ι':aD} (h:Sub ι ι') (k:dc E ι):dc E ι':=fun g v e=>by
 obtain ⟨cells,t,fz,l,k1,k2⟩:=k g v e
 exact ⟨cells,t,fz,l,h.a5 _ _ _ _ k1,k2⟩
theorem dc.mono {E:Env} {ι ι':aD} (h:Ext ι ι') (k:dc E ι):dc E ι':=k.sub h.a5
structure fK (E:Env) (ι:aD) (T:List AV) (H:av) (a:Act) (w:World):Prop where
 heap:aR ι H w
 tmps:a4 (au ι) T a.tmps.toList
 cQ:dc E ι
variable {E:Env} {ι:aD} {T:List AV} {H:av} {a:Act} {w:World}
theorem fq {v:AV} {c:Value} (ht:pn v=true):au ι v c↔b5 ι v c:=by
 cases v<;>first | exact Iff.rfl | cases ht
theorem bX.mem {α:Type} {R:α→List Value→Prop} {p:Value→Prop} (hp:∀ x l,R x l→∀ c∈l,p c) {xs:List α} {l:List Value} (h:bX R xs l):∀ c∈l,p c:=by
 induction h with
 | nil=>simp
 | cons h1 _ ih=>intro c hc;rcases List.mem_append.1 hc with h | h;exact hp _ _ h1 c h;exact ih c h
theorem ib:∀ (c:TC) (x:c.den) (cs:List Value),bO ι c x cs→∀ v∈cs,v.oneCell'=true
 | .int _,_,_,k=>by rw [show _=_ from k];simp [Value.oneCell']
 | .bool,_,_,k=>by rw [show _=_ from k];simp [Value.oneCell']
 | .str,_,_,k=>by rw [show _=_ from k];simp [Value.oneCell']
 | .unit,_,_,k=>by rw [show _=_ from k];simp
 | .st a r,_,_,⟨l,m,e,k1,k2⟩=>by
  rw [e];intro v hv;rcases List.mem_append.1 hv with h | h
  ·exact ib a _ _ k1 v h
  ·exact ib r _ _ k2 v h
 | .bu a,_,_,k=>ib a _ _ k
 | .slice _,_,_,⟨v,e,k⟩=>by
  rw [e];rcases k with ⟨_,rfl | ⟨a,rfl⟩⟩ | ⟨b,off,kk,cells,t,fz,l,rfl,_⟩<;>simp [Value.oneCell']
 | .arr n c,_,_,⟨hn,hr⟩=>hr.mem (fun x l h=>ib c x l h)
 | .ref _,_,_,⟨b,off,cells,t,fz,l,e,_⟩=>by rw [e];simp [Value.oneCell']
 | .bC,_,_,⟨v,e,h⟩=>by rw [e];simpa using h
mutual
theorem uZ:∀ (v:AV) (cs:List Value),aQ ι v cs→∀ c∈cs,c.oneCell'=true
 | .int _ _,_,k=>by rw [aQ] at k;rw [k];simp [Value.oneCell']
 | .bool _,_,k=>by rw [aQ] at k;rw [k];simp [Value.oneCell']
 | .str _,_,k=>by rw [aQ] at k;rw [k];simp [Value.oneCell']
 | .raw _,_,k=>by rw [aQ] at k;rw [k.1];simp [k.2]
 | .agg _ vs,_,k=>by rw [aQ] at k;exact yM vs _ _ k
 | .arr n c _,_,k=>by rw [aQ] at k;exact ib (.arr n c) _ _ k
 | .lM _,_,k=>by rw [aQ] at k;exact k.elim
 | .any,_,k=>by rw [aQ] at k;exact k.elim
 | .ns _,_,k=>by rw [aQ] at k;exact k.elim
 | .bC,_,k=>by rw [aQ] at k;obtain ⟨v,e,h⟩:=k;rw [e];simpa using h
 | .ptr _ _,_,k=>by rw [aQ] at k;obtain ⟨b,z,e,k⟩:=k;rw [k];simp [Value.oneCell']
 | .ref v,_,k=>by rw [aQ] at k;obtain ⟨b,off,cells,t,fz,l,e,_⟩:=k;rw [e];simp [Value.oneCell']
 | .gf c _,_,k=>by rw [aQ] at k;exact ib (.slice c) _ _ k
 | .bw _ _ _ _ _ _,_,k=>by rw [aQ] at k;obtain ⟨b,z,kk,e,k,_⟩:=k;rw [k];simp [Value.oneCell']
 | .fn _ caps,_,k=>by rw [aQ] at k;obtain ⟨_,l,e,k⟩:=k;rw [e];simp [Value.oneCell']
 | .yJ _ caps,_,k=>by rw [aQ] at k;obtain ⟨_,l,e,k⟩:=k;rw [e];simp [Value.oneCell']
 | .ik _,_,k=>by rw [aQ] at k;obtain ⟨b,z,e,k⟩:=k;rw [k];simp [Value.oneCell']
 | .mp _,_,k=>by rw [aQ] at k;obtain ⟨b,z,e,k⟩:=k;rw [k];simp [Value.oneCell']
 | .row _ _ _,_,k=>by
  rw [aQ] at k;obtain ⟨b,z,v,e,k,h⟩:=k;rw [k]
  rcases h with ⟨_,rfl⟩ | ⟨_,k,rfl,_⟩<;>simp [Value.oneCell']
theorem yM:∀ (vs:List AV) (ss:List Nat) (cs:List Value),cH ι ss vs cs→∀ c∈cs,c.oneCell'=true
 | [],_,_,k=>by rw [cH] at k;rw [k.2];simp
 | v :: vs,_,_,k=>by
  rw [cH] at k;obtain ⟨s,ss',l,m,e1,e2,e3,k1,k2⟩:=k
  rw [e2];intro c hc;rcases List.mem_append.1 hc with h | h
  ·exact uZ v _ k1 c h
  ·exact yM vs _ _ k2 c h
end
theorem xw {v:AV} {cs:List Value} (h:aQ ι v cs):pn v=true:=by
 cases v<;>first | rfl | (rw [aQ] at h;exact h.elim)
theorem aC {v:AV} {c:Value} (ha:dM v=false) (h:aQ ι v [c]):au ι v c:=by
 rw [fq (xw h)];unfold b5;rw [ha];exact h
theorem jo {v:AV} {c:Value} (ha:dM v=false) (h:aQ ι v [c]):b5 ι v c:=by
 unfold b5;rw [ha];exact h
theorem fT {v:AV} {cs:List Value} (ha:dM v=true) (h:aQ ι v cs):au ι v (.agg cs.toArray):=by
 rw [fq (xw h)];unfold b5;rw [ha];exact ⟨cs,h,rfl⟩
theorem Value.JX {c:Value} (h:c.oneCell'=true):c.cells=#[c]:=by
 cases c<;>first | rfl | simp [Value.oneCell'] at h
theorem b5.cells {v:AV} {c:Value} (h:b5 ι v c):aQ ι v c.cells.toList:=by
 unfold b5 at h
 split at h
 ·obtain ⟨cs,k,rfl⟩:=h;simpa [Value.cells] using k
 ·rw [Value.JX (uZ v [c] h c (by simp))];exact h
theorem au.cells {v:AV} {c:Value} (h:au ι v c) (ht:pn v=true):aQ ι v c.cells.toList:=((fq ht).1 h).cells
theorem au.one {v:AV} {c:Value} (h:au ι v c) (ha:dM v=false) (ht:pn v=true):aQ ι v [c]:=by
 have h:=(fq ht).1 h
 unfold b5 at h;rw [ha] at h;exact h
theorem au.int {k:IntKind} {n:Int} {c:Value} (h:au ι (.int k n) c):c=.int k n:=by
 have:=h.one rfl rfl;rw [aQ] at this;simpa using this
theorem au.bool {b:Bool} {c:Value} (h:au ι (.bool b) c):c=.bool b:=by
 have:=h.one rfl rfl;rw [aQ] at this;simpa using this
theorem au.str {s:ByteArray} {c:Value} (h:au ι (.str s) c):c=.string s:=by
 have:=h.one rfl rfl;rw [aQ] at this;simpa using this
theorem au.raw {v c:Value} (h:au ι (.raw v) c):c=v:=by
 have:=h.one rfl rfl;rw [aQ] at this;simpa using this.1
theorem dC (k:IntKind) (n:Int):au ι (.int k n) (.int k n):=aC rfl (by rw [aQ])
theorem dP (b:Bool):au ι (.bool b) (.bool b):=aC rfl (by rw [aQ])
theorem kX (s:ByteArray):au ι (.str s) (.string s):=aC rfl (by rw [aQ])
theorem er:au ι .undef undef:=⟨[],rfl,.nil⟩
theorem au.agg {v:AV} {c:Value} (h:au ι v c) (ha:dM v=true):∃ cs:List Value,aQ ι v cs∧c=.agg cs.toArray:=by
 cases v<;>first | (simp [dM] at ha;done) | (have h:b5 ι _ _:=h;unfold b5 at h;rw [ha] at h;exact h)
theorem Rl {v:Value} {u:AV} (h:XB v=some u):au ι u v:=by
 unfold XB at h
 split at h<;>first
  | (cases h;exact dC _ _)
  | (cases h;exact dP _)
  | (cases h;exact kX _)
  | (cases h;exact aC rfl (by rw [aQ];exact ⟨rfl,rfl⟩))
  | cases h
theorem mz {l:Array Value} {i:Nat} {c:Value} (h:l.toList[i]?=some c) (d:Value):l.getD i d=c:=by
 have h':l[i]?=some c:=by simpa using h
 simp [Array.getD_eq_getD_getElem?,h']
theorem bL {x:Operand} {v:AV} (h:ev E T x=some v) (r:fK E ι T H a w):au ι v (a.eval x):=by
 cases x with
 | tmp t=>
  obtain ⟨c,e,k⟩:=r.tmps.at t v h
  simp only [Act.eval];rw [mz e];exact k
 | const c=>exact Rl h
 | global g=>
  simp only [ev] at h
  split at h
  ·rename_i u hu;cases h
   obtain ⟨cells,t,fz,l,e1,e2,e3⟩:=r.cQ g u hu
   exact aC rfl (by rw [aQ];exact ⟨g,0,cells,t,fz,l,rfl,e1,e2 ι,e3⟩)
  ·cases h
 | func f=>
  cases h
  refine aC rfl ?_
  rw [aQ]
  exact ⟨rfl,[],rfl,by rw [cH];exact ⟨rfl,rfl⟩⟩
theorem eH:∀ {xs:List Operand} {vs:List AV},nI E T xs=some vs→fK E ι T H a w→a4 (au ι) vs (xs.map a.eval)
 | [],_,h,_=>by cases h;exact .nil
 | x :: l,_,h,r=>by
  simp only [nI] at h
  split at h
  ·rename_i v vs h1 h2;cases h;exact .cons (bL h1 r) (eH h2 r)
  ·cases h
end Go.bz
end
section
namespace Go.bz
open Go.RowKit
variable {E:Env} {ι:aD} {T:List AV} {H:av} {a:Act} {w:World}
structure MY (ι:aD) (w:World) (u:AV) (b off:Nat):Prop where
 ex:∃ cells t fz m,w.heap[b]?=some (.cells cells t fz)∧aQ ι u m∧At cells off m
theorem At.xJ {l1 m l2:List Value} {cells:Array Value} (h:cells.toList=l1++m++l2):At cells l1.length m:=by
 intro j v hv
 have hj:=(List.getElem?_eq_some_iff.1 hv).1
 rw [← Array.getElem?_toList,h,List.append_assoc,List.getElem?_append_right (by omega),List.getElem?_append_left (by omega)]
 simpa using hv
theorem At.sub {cells:Array Value} {off:Nat} {l1 m l2:List Value} (h:At cells off (l1++m++l2)):At cells (off+l1.length) m:=by
 intro j v hv
 have hj:=(List.getElem?_eq_some_iff.1 hv).1
 have:=h (l1.length+j) v (by rw [List.append_assoc,List.getElem?_append_right (by omega),List.getElem?_append_left (by omega)];simpa using hv)
 simpa [Nat.add_assoc] using this
theorem nA {o:Nat} {p:List Step} {c:Value} (h:au ι (.ptr o p) c):∃ b z,ι.a6[o]?=some (b,z)∧c=.pointer (some ⟨b,aJ p,none⟩):=by
 have:=h.one rfl rfl;rw [aQ] at this
 obtain ⟨b,z,e,k⟩:=this
 exact ⟨b,z,e,by simpa using k⟩
theorem BP {v:AV} {c:Value} (h:au ι (.ref v) c):∃ b off cells t fz l,c=.pointer (some ⟨b,off,none⟩)∧ι.a5 b=some (.cells cells t fz)∧aQ ι v l∧At cells off l:=by
 have:=h.one rfl rfl;rw [aQ] at this
 obtain ⟨b,off,cells,t,fz,l,e,k⟩:=this
 exact ⟨b,off,cells,t,fz,l,by simpa using e,k⟩
theorem fj.cell {b z:Nat} {own:Bool} {t:TypeId} {v:AV} (h:fj ι w b z (.cell own t v)):
  ∃ cells fz l r,w.heap[b]?=some (.cells cells t fz)∧cells.toList=l++r∧cells.size=z∧aQ ι v l∧(own=true→fz=(0,0)):=by
 obtain ⟨cells,fz,l,r,e1,e2,e3,e4,e5⟩:=h
 exact ⟨cells,fz,l,r,e1,e2,e3,e4,fun h=>by rw [h] at e5;exact e5⟩
theorem CW {x u:AV} {q:List Prop} {c:Value} (h:eO H x=some (q,u)) (hq:holds q) (r:aR ι H w) (hx:au ι x c):
  ∃ b off,c=.pointer (some ⟨b,off,none⟩)∧MY ι w u b off:=by
 cases x<;>simp only [eO] at h<;>try (cases h;done)
 case ptr o p=>
  split at h
  ·rename_i own t v ho
   obtain ⟨b,z,hb,rfl⟩:=nA hx
   obtain ⟨cells,fz,l,rr,e1,e2,e3,e4,e5⟩:=(r.obj _ _ _ _ ho hb).cell
   obtain ⟨l1,m,l2,el,el1,hu,_⟩:=fe p v l q u h hq e4
   refine ⟨b,_,rfl,⟨cells,t,fz,m,e1,hu,?_⟩⟩
   rw [← el1]
   exact At.xJ (l2:=l2++rr) (by rw [e2,el];simp)
  ·rename_i t c xs ho
   split at h
   ·rename_i q' u' hg
    simp only [Option.some.injEq,Prod.mk.injEq] at h
    obtain ⟨rfl,rfl⟩:=h
    obtain ⟨h0,hq⟩:=hq
    obtain ⟨b,z,hb,rfl⟩:=nA hx
    rcases r.obj _ _ _ _ ho hb with k | ⟨cells,l,rr,e1,e2,e3,e4⟩
    ·rw [k] at h0;simp at h0
    ·have e4':aQ ι (.arr xs.length c xs) l:=by rw [aQ];exact ⟨rfl,e4⟩
     obtain ⟨l1,m,l2,el,el1,hu,_⟩:=fe p _ l q' u' hg hq e4'
     refine ⟨b,_,rfl,⟨cells,t,(0,0),m,e1,hu,?_⟩⟩
     rw [← el1]
     exact At.xJ (l2:=l2++rr) (by rw [e2,el];simp)
   ·cases h
  ·cases h
 case ref v=>
  simp only [Option.some.injEq,Prod.mk.injEq] at h
  obtain ⟨_,rfl⟩:=h
  obtain ⟨b,off,cells,t,fz,l,rfl,hp,hr,ha⟩:=BP hx
  exact ⟨b,off,rfl,⟨cells,t,fz,l,r.a5 _ _ hp,hr,ha⟩⟩
theorem bR {P:Program} {t:TypeId} {d:bG} (h:d.ok P t) (w:World):(sizeOf t).run P w=.ok d.size w:=by
 obtain ⟨_,i,z,hi,hs,_⟩:=h
 simp [sizeOf,typeInfo,hi,hs]
theorem wv {P:Program} {t:TypeId} {d:bG} (h:d.ok P t) (w:World):(isAgg t).run P w=.ok d.agg w:=by
 obtain ⟨hu,_⟩:=h
 unfold isAgg
 simp only [Sem.run_bind,run_underlying hu,Result.andThen]
 unfold bG.agg HE
 cases d.desc<;>rfl
theorem jr {P:Program} {t:TypeId} {d:bG} (h:d.ok P t) (w:World):∃ z,(zeroValue t).run P w=.ok z w∧∀ ι,b5 ι d.zero z:=by
 obtain ⟨_,i,z,hi,_,_,hz,hr,_⟩:=h
 exact ⟨z,by simp [zeroValue,typeInfo,hi,hz],hr⟩
theorem dJ (b off j:Nat):(⟨b,off,none⟩:Addr).add j=⟨b,off+j,none⟩:=by
 unfold Addr.add;split<;>simp_all
theorem cell_of {b off:Nat} {cells:Array Value} {t:TypeId} {fz:Nat×Nat} (h:w.heap[b]?=some (.cells cells t fz)):w.cell? ⟨b,off,none⟩=cells[off]?:=by
 simp [World.cell?,h]
theorem wS {P:Program} {t:TypeId} {d:bG} {u:AV} {b off:Nat} (hd:d.ok P t) (hs:l4 u=d.size) (ha:dM u=d.agg) (h:MY ι w u b off):
  ∃ c,(loadVar t ⟨b,off,none⟩).run P w=.ok c w∧au ι u c:=by
 obtain ⟨cells,ty,fz,m,hb,hr,hat⟩:=h.ex
 have hl:=fH _ _ hr
 have hcell:∀ j v,m[j]?=some v→w.cell? ((⟨b,off,none⟩:Addr).add j)=some v:=fun j v e=>by
  rw [dJ,cell_of hb];exact hat j v e
 unfold loadVar
 simp only [Sem.run_bind,wv hd,Result.andThen]
 cases hagg:d.agg with
 | true=>
  refine ⟨.agg m.toArray,?_,fT (ha.trans hagg) hr⟩
  simp only [if_true,Sem.run_bind,bR hd,Result.andThen]
  rw [← hs,← hl,run_loadCells_list w _ m hcell];rfl
 | false=>
  have h1:m.length=1:=by
   rw [hl];cases u<;>first | rfl | (simp [dM,hagg] at ha;done) | (rw [aQ] at hr;exact hr.elim)
  obtain ⟨c,rfl⟩:=List.length_eq_one_iff.1 h1
  refine ⟨c,?_,aC (ha.trans hagg) hr⟩
  have:=hcell 0 c rfl
  rw [dJ] at this
  simp only [Nat.add_zero] at this
  simp [this]
theorem gW {l1 m l2:List Value}:(l1++m++l2).take l1.length=l1∧(l1++m++l2).drop (l1.length+m.length)=l2:=by
 constructor
 ·rw [List.append_assoc,List.take_append_of_le_length (by omega)];simp
 ·rw [← List.length_append];simp
theorem H3 {P:Program} {t:TypeId} {d:bG} {x y:AV} {q:List Prop} {H':av} {c cv:Value} (hd:d.ok P t) (h:nY H x y=some (q,H')) (hq:holds q) (hs:l4 y=d.size)
  (r:aR ι H w) (hx:au ι x c) (hy:au ι y cv) (ht:pn y=true):
  ∃ b off w',c=.pointer (some ⟨b,off,none⟩)∧(storeVar t ⟨b,off,none⟩ cv).run P w=.ok () w'∧aR ι H' w':=by
 cases x<;>simp only [nY] at h<;>try (cases h;done)
 case ptr o p=>
  split at h
  ·rename_i t' v ho
   split at h
   ·rename_i q' u hg
    split at h
    ·rename_i hsz
     split at h
     ·rename_i v' hv'
      simp only [Option.some.injEq,Prod.mk.injEq] at h
      obtain ⟨rfl,rfl⟩:=h
      obtain ⟨b,z,hb,rfl⟩:=nA hx
      obtain ⟨cells,fz,l,rr,e1,e2,e3,e4,e5⟩:=(r.obj _ _ _ _ ho hb).cell
      have e5:=e5 rfl;subst e5
      obtain ⟨l1,m,l2,el,el1,hu,hset⟩:=fe p v l q' u hg hq e4
      have hyc:=hy.cells ht
      have hylen:=fH _ _ hyc
      have hlen:cv.cells.toList.length=m.length:=by rw [hylen,fH _ _ hu,hsz]
      have hrep:=hset y cv.cells.toList v' hv' hyc hlen
      have hfull:cells.toList=l1++m++(l2++rr):=by rw [e2,el];simp
      have hsize:cells.size=l1.length+m.length+(l2++rr).length:=by rw [← Array.length_toList,hfull];simp [Nat.add_assoc]
      refine ⟨b,_,w.setRow b (l1++cv.cells.toList++(l2++rr)).toArray,rfl,?_,?_⟩
      ·unfold storeVar
       simp only [Sem.run_bind,bR hd,Result.andThen]
       have hsz2:cv.cells.size=d.size:=by rw [← Array.length_toList,hylen,hs]
       rw [if_neg (by simp [hsz2])]
       have hst:=run_storeCells_at (P:=P) b (aJ p) t' cv.cells.toList 0 cells w e1 (by rw [hsize,← el1,hlen];omega) (uZ _ _ hyc)
       rw [hst]
       congr 2
       rw [Nat.add_zero,← el1,hfull,hlen]
       rw [(gW (l1:=l1) (m:=m) (l2:=l2++rr)).1,(gW (l1:=l1) (m:=m) (l2:=l2++rr)).2]
      ·refine r.xW ho rfl hb (fun k hk=>setRow_other w b k _ hk) (by simp) rfl rfl rfl ?_
       refine ⟨_,(0,0),l1++cv.cells.toList++l2,rr,setRow_heap w b cells _ t' _ e1,by simp,?_,hrep,by simp⟩
       rw [← e3,hsize];simp [hlen];omega
     ·cases h
    ·cases h
   ·cases h
  ·rename_i t' cc xs ho
   split at h
   ·rename_i q' u hg
    split at h
    ·rename_i hsz
     split at h
     ·rename_i n' c' xs' hv'
      split at h
      ·rename_i hcc;subst hcc
       simp only [Option.some.injEq,Prod.mk.injEq] at h
       obtain ⟨rfl,rfl⟩:=h
       obtain ⟨h0,hq⟩:=hq
       obtain ⟨b,z,hb,rfl⟩:=nA hx
       rcases r.obj _ _ _ _ ho hb with k | ⟨cells,l,rr,e1,e2,e3,e4⟩
       ·rw [k] at h0;simp at h0
       have ho1:aV.owned (.row t' c' xs)=true:=by
        cases xs with
        | nil=>simp at h0
        | cons=>rfl
       have e4':aQ ι (.arr xs.length c' xs) l:=by rw [aQ];exact ⟨rfl,e4⟩
       obtain ⟨l1,m,l2,el,el1,hu,hset⟩:=fe p _ l q' u hg hq e4'
       have hyc:=hy.cells ht
       have hylen:=fH _ _ hyc
       have hlen:cv.cells.toList.length=m.length:=by rw [hylen,fH _ _ hu,hsz]
       have hrep:=hset y cv.cells.toList _ hv' hyc hlen
       rw [aQ] at hrep
       have hfull:cells.toList=l1++m++(l2++rr):=by rw [e2,el];simp
       have hsize:cells.size=l1.length+m.length+(l2++rr).length:=by rw [← Array.length_toList,hfull];simp [Nat.add_assoc]
       refine ⟨b,_,w.setRow b (l1++cv.cells.toList++(l2++rr)).toArray,rfl,?_,?_⟩
       ·unfold storeVar
        simp only [Sem.run_bind,bR hd,Result.andThen]
        have hsz2:cv.cells.size=d.size:=by rw [← Array.length_toList,hylen,hs]
        rw [if_neg (by simp [hsz2])]
        have hst:=run_storeCells_at (P:=P) b (aJ p) t' cv.cells.toList 0 cells w e1 (by rw [hsize,← el1,hlen];omega) (uZ _ _ hyc)
        rw [hst]
        congr 2
        rw [Nat.add_zero,← el1,hfull,hlen]
        rw [(gW (l1:=l1) (m:=m) (l2:=l2++rr)).1,(gW (l1:=l1) (m:=m) (l2:=l2++rr)).2]
       ·refine r.xW ho ho1 hb (fun k hk=>setRow_other w b k _ hk) (by simp) rfl rfl rfl (.inr ?_)
        refine ⟨_,l1++cv.cells.toList++l2,rr,setRow_heap w b cells _ t' _ e1,by simp,?_,hrep.2⟩
        rw [← e3,hsize];simp [hlen];omega
      ·cases h
     ·cases h
    ·cases h
   ·cases h
  ·cases h
theorem yj {P:Program} {t:TypeId} {v:AV} {c:Value} (r:aR ι H w) (hv:au ι v c) (ht:pn v=true):
  ∃ ι' w' b,(newVar t c).run P w=.ok ⟨b,0,none⟩ w'∧Ext ι ι'∧aR ι' (H++[.cell true t v]) w'∧au ι' (.ptr H.length []) (.pointer (some ⟨b,0,none⟩)):=by
 have hE:=Ext.add ι w.heap.size c.cells.size
 refine ⟨ι.add w.heap.size c.cells.size,w.alloc (.cells c.cells t),w.heap.size,rfl,hE,?_,?_⟩
 ·refine r.alloc _ _ _ ⟨c.cells,(0,0),c.cells.toList,[],heap_alloc_new,by simp,rfl,xx hE _ _ (hv.cells ht),by simp⟩
 ·refine aC rfl ?_
  rw [aQ]
  exact ⟨w.heap.size,c.cells.size,by rw [r.len];exact ι.fh _ _,rfl⟩
end Go.bz
end
section
namespace Go.bz
open Go.RowKit
variable {E:Env} {ι:aD} {T:List AV} {H:av} {a:Act} {w:World}
theorem OH {P:Program} {op:BinOp} {k:IntKind} {x y:Int} {q:List Prop} {v:AV} (t:TypeId) (h:SG op k x y=some (q,v)) (hq:holds q):
  ∃ c,(binOp op t (.int k x) (.int k y)).run P w=.ok c w∧au ι v c:=by
 cases op<;>simp only [SG,Option.some.injEq,Prod.mk.injEq] at h<;>try (cases h;done)
 all_goals
  obtain ⟨rfl,rfl⟩:=h
  refine ⟨_,?_,by first | exact dC _ _ | exact dP _⟩
 all_goals first
  | (simp [binOp,Op.intArith,aK,iu,gz];done)
  | (simp only [holds,and_true] at hq;simp [binOp,Op.intDiv,hq,Rs,fJ];done)
  | (simp [binOp,Op.intBits,cP,NY,Rp,jZ];done)
  | (simp [binOp,Op.intCmp,ak,dG,cF,cj];done)
theorem run_equal_bool {P:Program} {t:TypeId} (hu:P.underlying t=some .bool) (m n:Bool):(Op.equal t (.bool m) (.bool n)).run P w=.ok (m==n) w:=by
 have:∀ d,(Op.equalIn (d+1) t (.bool m) (.bool n)).run P w=.ok (m==n) w:=fun d=>by simp [Op.equalIn,run_underlying hu]
 exact this 9999
theorem iH {P:Program} {t e:TypeId} (hu:P.underlying t=some (.slice e)) (a:Option Addr) (n k:Nat):(Op.equal t (.slice a n k) (.slice none 0 0)).run P w=.ok a.isNone w:=by
 have:∀ d,(Op.equalIn (d+1) t (.slice a n k) (.slice none 0 0)).run P w=.ok a.isNone w:=fun d=>by
  cases a<;>simp [Op.equalIn,run_underlying hu]
 exact this 9999
theorem Dt {x:AV} {q:List Prop} {b:Bool} {cx:Value} (h:Gd x=some (q,b)) (hq:holds q) (hx:au ι x cx):∃ a n k,cx=.slice a n k∧a.isNone=b:=by
 unfold Gd at h
 split at h
 ·simp only [Option.some.injEq,Prod.mk.injEq] at h;obtain ⟨rfl,rfl⟩:=h
  exact ⟨none,0,0,hx.raw,rfl⟩
 ·simp only [Option.some.injEq,Prod.mk.injEq] at h;obtain ⟨rfl,rfl⟩:=h
  have:=hx.one rfl rfl
  rw [aQ] at this
  obtain ⟨b',z,k,_,e,_⟩:=this
  simp only [List.cons.injEq,and_true] at e
  exact ⟨_,_,_,e,rfl⟩
 ·simp only [Option.some.injEq,Prod.mk.injEq] at h;obtain ⟨rfl,rfl⟩:=h
  have h0:=hq.1
  have:=hx.one rfl rfl
  rw [aQ] at this
  obtain ⟨v,e,k⟩:=this
  simp only [List.cons.injEq,and_true] at e
  rcases k with ⟨e0,_⟩ | ⟨b',off,k',cells,t,fz,l,rfl,_⟩
  ·rw [e0] at h0;simp at h0
  ·exact ⟨_,_,_,e,rfl⟩
 ·cases h
theorem SE {P:Program} {op:BinOp} {t:TypeId} {d:Option bG} {x y v:AV} {q:List Prop} {cx cy:Value} (hd:∀ e,d=some e→e.ok P t) (h:bin op d x y=some (q,v)) (hq:holds q)
  (hx:au ι x cx) (hy:au ι y cy) (xo yo:Operand):∃ c,(do eqGuard op t xo yo cx cy;binOp op t cx cy:Sem Value).run P w=.ok c w∧au ι v c:=by
 unfold bin at h
 split at h
 ·rename_i k m k' n
  rw [hx.int,hy.int]
  have hg:(eqGuard op t xo yo (.int k m) (.int k' n)).run P w=.ok () w:=by unfold eqGuard;split<;>rfl
  simp only [Sem.run_bind,hg,Result.andThen]
  split at h
  ·simp only [Option.some.injEq,Prod.mk.injEq] at h
   obtain ⟨rfl,rfl⟩:=h
   simp only [holds,and_true] at hq
   exact ⟨_,by simp [binOp,Op.shift,Int.not_lt.2 hq,V6],dC _ _⟩
  ·simp only [Option.some.injEq,Prod.mk.injEq] at h
   obtain ⟨rfl,rfl⟩:=h
   simp only [holds,and_true] at hq
   exact ⟨_,by simp [binOp,Op.shift,Int.not_lt.2 hq,Rq],dC _ _⟩
  ·split at h
   ·rename_i e;subst e
    exact OH t h hq
   ·cases h
 ·rename_i m n
  rw [hx.bool,hy.bool]
  have hg:(eqGuard op t xo yo (.bool m) (.bool n)).run P w=.ok () w:=by unfold eqGuard;split<;>rfl
  simp only [Sem.run_bind,hg,Result.andThen]
  split at h
  ·rename_i e
   have hu:=(hd e rfl).1
   split at h
   ·rename_i hdesc
    rw [hdesc] at hu
    simp only [Option.some.injEq,Prod.mk.injEq] at h
    obtain ⟨rfl,rfl⟩:=h
    exact ⟨_,by simp only [binOp,Sem.run_bind,run_equal_bool hu,Result.andThen,Sem.run_pure],dP _⟩
   ·rename_i hdesc
    rw [hdesc] at hu
    simp only [Option.some.injEq,Prod.mk.injEq] at h
    obtain ⟨rfl,rfl⟩:=h
    exact ⟨_,by simp only [binOp,Sem.run_bind,run_equal_bool hu,Result.andThen,Sem.run_pure],dP _⟩
   ·cases h
  ·cases h
 ·rename_i s1 s2
  rw [hx.str,hy.str]
  have hg:(eqGuard op t xo yo (.string s1) (.string s2)).run P w=.ok () w:=by unfold eqGuard;split<;>rfl
  simp only [Sem.run_bind,hg,Result.andThen]
  split at h
  ·simp only [Option.some.injEq,Prod.mk.injEq] at h
   obtain ⟨rfl,rfl⟩:=h
   obtain ⟨hq,_⟩:=hq
   have hn:¬ ((9223372036854775807:Int) < (s1.size:Int)+(s2.size:Int)):=by omega
   exact ⟨.string (s1++s2),by simp [binOp,Op.stringOp,hn],kX _⟩
  ·cases h
 ·split at h
  ·rename_i e
   have hu:=(hd e rfl).1
   have hcy:=hy.raw
   subst hcy
   split at h
   ·rename_i el hdesc hn
    rw [hdesc] at hu
    simp only [Option.some.injEq,Prod.mk.injEq] at h
    obtain ⟨rfl,rfl⟩:=h
    obtain ⟨ad,n,k,rfl,rfl⟩:=Dt hn hq hx
    have hg:(eqGuard .eql t xo yo (.slice ad n k) (.slice none 0 0)).run P w=.ok () w:=by unfold eqGuard;split<;>rfl
    simp only [Sem.run_bind,hg,Result.andThen]
    exact ⟨_,by simp only [binOp,Sem.run_bind,iH hu,Result.andThen,Sem.run_pure],dP _⟩
   ·rename_i el hdesc hn
    rw [hdesc] at hu
    simp only [Option.some.injEq,Prod.mk.injEq] at h
    obtain ⟨rfl,rfl⟩:=h
    obtain ⟨ad,n,k,rfl,rfl⟩:=Dt hn hq hx
    have hg:(eqGuard .neq t xo yo (.slice ad n k) (.slice none 0 0)).run P w=.ok () w:=by unfold eqGuard;split<;>rfl
    simp only [Sem.run_bind,hg,Result.andThen]
    exact ⟨_,by simp only [binOp,Sem.run_bind,iH hu,Result.andThen,Sem.run_pure],dP _⟩
   ·cases h
  ·cases h
 ·cases h
theorem SY {P:Program} {op:UnOp} {x v:AV} {cx:Value} (h:un op x=some v) (hx:au ι x cx):∃ c,(Op.unary op cx).run P w=.ok c w∧au ι v c:=by
 unfold un at h
 split at h<;>first
  | (cases h;rw [hx.int];exact ⟨_,rfl,dC _ _⟩)
  | (cases h;rw [hx.bool];exact ⟨_,rfl,dP _⟩)
  | cases h
theorem LQ {b:Bool} {x y:AV} {cx cy:Value} (hx:au ι x cx) (hy:au ι y cy):au ι (nP b x y) (if b then cx else cy):=by
 unfold nP
 split
 ·split
  ·rename_i e;subst e
   rw [hx.int,hy.int];cases b<;>exact dC _ _
  ·cases b
   ·exact hy
   ·exact hx
 ·rw [hx.bool,hy.bool];cases b<;>exact dP _
 ·cases b
  ·exact hy
  ·exact hx
theorem r7 (p:List Step) (s:Step):aJ (p++[s])=aJ p+s.off:=by
 induction p with
 | nil=>simp [aJ]
 | cons x p ih=>simp [aJ,ih,Nat.add_assoc]
theorem Cr {o:Nat} {p:List Step} {c:Value} (s:Step) (h:au ι (.ptr o p) c):∃ b,c=.pointer (some ⟨b,aJ p,none⟩)∧au ι (.ptr o (p++[s])) (.pointer (some ⟨b,aJ p+s.off,none⟩)):=by
 obtain ⟨b,z,hb,rfl⟩:=nA h
 refine ⟨b,rfl,aC rfl ?_⟩
 rw [aQ]
 exact ⟨b,z,hb,by rw [r7]⟩
theorem Cn {v u:AV} {s:Step} {q:List Prop} {c:Value} (h:wK v s=some (q,u)) (hq:holds q) (hv:au ι (.ref v) c):
  ∃ b off,c=.pointer (some ⟨b,off,none⟩)∧au ι (.ref u) (.pointer (some ⟨b,off+s.off,none⟩)):=by
 obtain ⟨b,off,cells,t,fz,l,rfl,hp,hr,ha⟩:=BP hv
 obtain ⟨l1,m,l2,el,el1,hu,_⟩:=fe [s] v l q u h hq hr
 refine ⟨b,off,rfl,aC rfl ?_⟩
 rw [aQ]
 refine ⟨b,off+s.off,cells,t,fz,m,rfl,hp,hu,?_⟩
 have:s.off=l1.length:=by rw [el1];simp [aJ]
 rw [this]
 exact At.sub (by rw [← el];exact ha)
theorem j4 (hV:E.Valid) {d e:bG} {f off:Nat} (h:mH E d f=some (off,e)):
  ∃ fs fd,d.desc=.struct fs∧fs[f]?=some fd∧fd.offset=off∧e.ok E.P fd.type∧e.size≠0:=by
 unfold mH at h
 split at h
 ·rename_i fs hd
  split at h
  ·rename_i fd hf
   split at h
   ·rename_i x hx
    split at h
    ·cases h
    ·rename_i hs
     simp only [Option.some.injEq,Prod.mk.injEq] at h
     obtain ⟨rfl,rfl⟩:=h
     exact ⟨fs,fd,hd,hf,rfl,hV.ty _ _ hx,hs⟩
   ·cases h
  ·cases h
 ·cases h
theorem Bv (hV:E.Valid) {s:TypeId} {d:bG} {x v:AV} {f:Nat} {q:List Prop} {cx:Value} (hd:d.ok E.P s) (h:jF E d x f=some (q,v)) (hq:holds q) (hx:au ι x cx):
  ∃ c,(Instr.fieldAt s cx f).run E.P w=.ok c w∧au ι v c:=by
 unfold jF at h
 split at h
 ·rename_i off e hf
  obtain ⟨fs,fd,hdesc,hfd,rfl,he,hes⟩:=j4 hV hf
  have hu:=hd.1
  rw [hdesc] at hu
  have key:∀ b o,(Instr.fieldAt s (.pointer (some ⟨b,o,none⟩)) f).run E.P w=.ok (.pointer (some ⟨b,o+fd.offset,none⟩)) w:=fun b o=>by
   simp [Instr.fieldAt,run_underlying hu,hfd,Instr.sureAddr,fieldPlace,bR he,hes,dJ]
  split at h
  ·rename_i o p
   simp only [Option.some.injEq,Prod.mk.injEq] at h
   obtain ⟨rfl,rfl⟩:=h
   obtain ⟨b,rfl,hr⟩:=Cr (.M6 fd.offset f) hx
   exact ⟨_,key _ _,hr⟩
  ·split at h
   ·rename_i q' u hg
    simp only [Option.some.injEq,Prod.mk.injEq] at h
    obtain ⟨rfl,rfl⟩:=h
    obtain ⟨b,o,rfl,hr⟩:=Cn hg hq hx
    exact ⟨_,key _ _,hr⟩
   ·cases h
  ·cases h
 ·cases h
theorem zS {P:Program} {t:TypeId} {e:bG} {x u:AV} {s:Step} {q:List Prop} {cx:Value} (he:e.ok P t) (h:wK x s=some (q,u)) (hq:holds q) (hs:l4 u=e.size) (ha:dM u=e.agg)
  (hx:au ι x cx):∃ cs,cx=.agg cs∧∃ c,(part t cs s.off).run P w=.ok c w∧au ι u c:=by
 have hagg:dM x=true:=by
  unfold wK ix at h
  split at h
  ·rfl
  ·rfl
  ·rfl
  ·cases h
 obtain ⟨l,hr,rfl⟩:=hx.agg hagg
 obtain ⟨l1,m,l2,el,el1,hu,_⟩:=fe [s] x l q u h hq hr
 have hoff:s.off=l1.length:=by rw [el1];simp [aJ]
 have hl:=fH _ _ hu
 refine ⟨_,rfl,?_⟩
 unfold part
 simp only [Sem.run_bind,wv he,Result.andThen]
 cases hag:e.agg with
 | true=>
  refine ⟨.agg m.toArray,?_,fT (ha.trans hag) hu⟩
  simp only [if_true,Sem.run_bind,bR he,Result.andThen,Sem.run_pure]
  congr 2
  rw [hoff,← hs,← hl,el]
  simp [List.extract_eq_take_drop]
 | false=>
  have h1:m.length=1:=by
   rw [hl];cases u<;>first | rfl | (simp [dM,hag] at ha;done) | (rw [aQ] at hu;exact hu.elim)
  obtain ⟨c,rfl⟩:=List.length_eq_one_iff.1 h1
  refine ⟨c,?_,aC (ha.trans hag) hu⟩
  simp [hoff,el]
theorem Mv (hV:E.Valid) {s:TypeId} {d:bG} {x v:AV} {f:Nat} {q:List Prop} {cx:Value} (hd:d.ok E.P s) (h:oG E d x f=some (q,v)) (hq:holds q) (hx:au ι x cx):
  ∃ c,(Instr.field s cx f).run E.P w=.ok c w∧au ι v c:=by
 unfold oG at h
 split at h
 ·rename_i off e hf
  obtain ⟨fs,fd,hdesc,hfd,rfl,he,hes⟩:=j4 hV hf
  have hu:=hd.1
  rw [hdesc] at hu
  split at h
  ·rename_i q' u hg
   split at h
   ·rename_i hc
    simp only [Option.some.injEq,Prod.mk.injEq] at h
    obtain ⟨rfl,rfl⟩:=h
    obtain ⟨cs,rfl,c,hrun,hr⟩:=zS (w:=w) he hg hq hc.1 hc.2 hx
    exact ⟨c,by simp only [Instr.field,Sem.run_bind,run_underlying hu,Result.andThen,hfd,asAgg,Sem.run_pure];exact hrun,hr⟩
   ·cases h
  ·cases h
 ·cases h
theorem kM (hV:E.Valid) {d e:bG} {t:TypeId} (h:jG E d=some (t,e)):e.ok E.P t∧(d.desc=.slice t∨∃ n,d.desc=.array n t):=by
 unfold jG at h
 split at h
 ·rename_i hd
  split at h
  ·rename_i x hx
   simp only [Option.some.injEq,Prod.mk.injEq] at h
   obtain ⟨rfl,rfl⟩:=h
   exact ⟨hV.ty _ _ hx,.inl hd⟩
  ·cases h
 ·rename_i n _ hd
  split at h
  ·rename_i x hx
   simp only [Option.some.injEq,Prod.mk.injEq] at h
   obtain ⟨rfl,rfl⟩:=h
   exact ⟨hV.ty _ _ hx,.inr ⟨_,hd⟩⟩
  ·cases h
 ·cases h
theorem Mg {t et:TypeId} {d e:bG} {x i v:AV} {q:List Prop} {cx ci:Value} (hd:d.ok E.P t) (he:e.ok E.P et) (hde:d.desc=.slice et∨∃ n,d.desc=.array n et)
  (h:rK d e x i=some (q,v)) (hq:holds q) (hx:au ι x cx) (hi:au ι i ci):∃ c,(Instr.index t cx ci).run E.P w=.ok c w∧au ι v c:=by
 unfold rK at h
 split at h
 ·rename_i k i
  rw [hi.int]
  split at h
  ·rename_i n et' hdesc
   have het:et'=et:=by
    rcases hde with h' | ⟨m,h'⟩
    ·rw [hdesc] at h';cases h'
    ·rw [hdesc] at h';cases h';rfl
   subst het
   have hu:=hd.1
   rw [hdesc] at hu
   split at h
   ·rename_i q' u hg
    split at h
    ·rename_i hc
     simp only [Option.some.injEq,Prod.mk.injEq] at h
     obtain ⟨rfl,rfl⟩:=h
     obtain ⟨h0,hn,hq⟩:=hq
     obtain ⟨cs,rfl,c,hrun,hr⟩:=zS (w:=w) he hg hq hc.1 hc.2 hx
     refine ⟨c,?_,hr⟩
     simp only [Instr.index,asIntOf,Sem.run_bind,Sem.run_pure,Result.andThen,run_underlying hu]
     simp only [h0,hn,and_self,if_true,Sem.run_bind,bR he,Result.andThen]
     exact hrun
    ·cases h
   ·cases h
  ·cases h
 ·cases h
theorem gx {o s off len:Nat} {p:List Step} {cap:Option Nat} {c:Value} (h:au ι (.bw o p s off len cap) c):∃ b z k,ι.a6[o]?=some (b,z)∧c=.slice (some ⟨b,aJ p+off * s,none⟩) len k∧len≤k∧
  aJ p+(off+k) * s≤z∧(∀ k',cap=some k'→k=k'):=by
 have:=h.one rfl rfl;rw [aQ] at this
 obtain ⟨b,z,k,e,k1,k2⟩:=this
 exact ⟨b,z,k,e,by simpa using k1,k2⟩
theorem Bl {c:TC} {xs:List c.den} {v:Value} (h:au ι (.gf c xs) v):(xs=[]∧(v=.slice none 0 0∨∃ a,v=.slice (some a) 0 0))∨
   ∃ b off k cells t fz l,v=.slice (some ⟨b,off,none⟩) xs.length k∧xs.length≤k∧ι.a5 b=some (.cells cells t fz)∧bX (bO ι c) xs l∧At cells off l:=by
 have:=h.one rfl rfl;rw [aQ] at this
 obtain ⟨u,e,k⟩:=this
 simp only [List.cons.injEq,and_true] at e;subst e;exact k
theorem Bg {t et:TypeId} {d e:bG} {x i v:AV} {q:List Prop} {cx ci:Value} (hd:d.ok E.P t) (he:e.ok E.P et) (hde:d.desc=.slice et∨∃ n,d.desc=.array n et)
  (h:iw d e.size x i=some (q,v)) (hq:holds q) (hx:au ι x cx) (hi:au ι i ci):∃ c,(Instr.indexAt t cx ci).run E.P w=.ok c w∧au ι v c:=by
 unfold iw at h
 split at h
 ·rename_i k i
  rw [hi.int]
  have arr:∀ n b o,d.desc=.array n et→0≤i→i < n→(Instr.indexAt t (.pointer (some ⟨b,o,none⟩)) (.int k i)).run E.P w=.ok (.pointer (some ⟨b,o+i.toNat * e.size,none⟩)) w:=fun n b o hdesc h0 hn=>by
   have hu:=hd.1
   rw [hdesc] at hu
   simp [Instr.indexAt,run_underlying hu,asIntOf,Instr.sureAddr,h0,hn,bR he,dJ]
  have slc:∀ (n k':Nat) b o,d.desc=.slice et→0≤i→i < n→(Instr.indexAt t (.slice (some ⟨b,o,none⟩) n k') (.int k i)).run E.P w=.ok (.pointer (some ⟨b,o+i.toNat * e.size,none⟩)) w:=fun n k' b o hdesc h0 hn=>by
   have hu:=hd.1
   rw [hdesc] at hu
   simp [Instr.indexAt,run_underlying hu,asIntOf,h0,hn,bR he,dJ]
  have ds:∀ et',d.desc=.slice et'→et'=et:=fun et' h'=>by
   rcases hde with k' | ⟨m,k'⟩<;>rw [h'] at k'<;>cases k';rfl
  have da:∀ n et',d.desc=.array n et'→et'=et:=fun n et' h'=>by
   rcases hde with k' | ⟨m,k'⟩<;>rw [h'] at k'<;>cases k';rfl
  split at h
  ·rename_i n et' o p hdesc
   have:=da _ _ hdesc;subst this
   simp only [Option.some.injEq,Prod.mk.injEq] at h
   obtain ⟨rfl,rfl⟩:=h
   obtain ⟨h0,hn,_⟩:=hq
   obtain ⟨b,rfl,hr⟩:=Cr (.idx e.size i.toNat) hx
   exact ⟨_,arr _ _ _ hdesc h0 hn,hr⟩
  ·rename_i n et' u hdesc
   have:=da _ _ hdesc;subst this
   split at h
   ·rename_i q' u' hg
    simp only [Option.some.injEq,Prod.mk.injEq] at h
    obtain ⟨rfl,rfl⟩:=h
    obtain ⟨h0,hn,hq⟩:=hq
    obtain ⟨b,o,rfl,hr⟩:=Cn hg hq hx
    exact ⟨_,arr _ _ _ hdesc h0 hn,hr⟩
   ·cases h
  ·rename_i et' c xs hdesc
   have:=ds _ hdesc;subst this
   split at h
   ·rename_i hcs
    simp only [Option.some.injEq,Prod.mk.injEq] at h
    obtain ⟨rfl,rfl⟩:=h
    obtain ⟨h0,hn,_⟩:=hq
    rcases Bl hx with ⟨rfl,_⟩ | ⟨b,off,k',cells,ty,fz,l,rfl,hk,hp,hr,hat⟩
    ·simp at hn;omega
    ·refine ⟨_,slc _ _ _ _ hdesc h0 hn,aC rfl ?_⟩
     obtain ⟨l1,m,l2,el,el1,hu,_⟩:=hr.at (a7 c) i.toNat _ (Co (by omega))
     rw [aQ]
     refine ⟨b,off+i.toNat * e.size,cells,ty,fz,m,rfl,hp,eD.2 hu,?_⟩
     rw [← hcs,← el1]
     exact At.sub (by rw [← el];exact hat)
   ·cases h
  ·rename_i et' o p s' off len cap hdesc
   have:=ds _ hdesc;subst this
   split at h
   ·rename_i hs;subst hs
    simp only [Option.some.injEq,Prod.mk.injEq] at h
    obtain ⟨rfl,rfl⟩:=h
    obtain ⟨h0,hn,_⟩:=hq
    obtain ⟨b,z,k',hb,rfl,hk,_⟩:=gx hx
    refine ⟨_,slc _ _ _ _ hdesc h0 hn,aC rfl ?_⟩
    rw [aQ]
    refine ⟨b,z,hb,?_⟩
    rw [r7,Step.off,Nat.add_mul,Nat.add_assoc]
   ·cases h
  ·rename_i et' o s' n hdesc
   have:=ds _ hdesc;subst this
   split at h
   ·rename_i hs;subst hs
    simp only [Option.some.injEq,Prod.mk.injEq] at h
    obtain ⟨rfl,rfl⟩:=h
    obtain ⟨h0,hn,_⟩:=hq
    have hx:=hx.one rfl rfl
    rw [aQ] at hx
    obtain ⟨b,z,v0,hb,hv0,hv⟩:=hx
    simp only [List.cons.injEq,and_true] at hv0
    subst hv0
    rcases hv with ⟨e0,_⟩ | ⟨_,k',rfl,_⟩
    ·subst e0
     have:(i:Int) < ((0:Nat):Int):=hn
     omega
    ·refine ⟨_,slc _ _ _ _ hdesc h0 hn,aC rfl ?_⟩
     rw [aQ]
     exact ⟨b,z,hb,by simp [aJ,Step.off]⟩
   ·cases h
  ·cases h
 ·cases h
end Go.bz
end
section
namespace Go.bz
open Go.RowKit
variable {E:Env} {ι:aD} {T:List AV} {H:av} {a:Act} {w:World}
theorem jc {v:AV} (h:pn v=true):pn v=true:=h
theorem KB (off:Nat):∀ (l:List Value) (k:Nat) (cs:Array Value) (l1 m l2:List Value),cs.toList=l1++m++l2→l1.length=off+k→m.length=l.length→
  ((l.zipIdx k).foldl (fun (cs:Array Value) x=>cs.setIfInBounds (off+x.2) x.1) cs).toList=l1++l++l2
 | [],k,cs,l1,m,l2,h,_,hm=>by
  simp at hm;subst hm;simpa using h
 | c :: l,k,cs,l1,m,l2,h,h1,hm=>by
  obtain ⟨x,m,rfl⟩:∃ x m',m=x :: m':=by cases m with | nil=>simp at hm | cons x m=>exact ⟨x,m,rfl⟩
  simp only [List.zipIdx_cons,List.foldl_cons]
  have:=KB off l (k+1) (cs.setIfInBounds (off+k) c) (l1++[c]) m l2 (by
   rw [Array.toList_setIfInBounds,h,← h1];simp) (by simp [h1];omega) (by simpa using hm)
  rw [this];simp
theorem pP {st:Nat→Option (Step×Nat)} {place:Nat→Option (Nat×Nat)} (hst:∀ i s n,st i=some (s,n)→place i=some (s.off,n)):
  ∀ (l:List (Nat×AV)) (cl:List (Nat×Value)) (v v':AV) (q:List Prop) (cs:Array Value),nT st v l=some (q,v')→holds q→
   a4 (fun (x:Nat×AV) (y:Nat×Value)=>x.1=y.1∧au ι x.2 y.2) l cl→aQ ι v cs.toList→∃ cs',Instr.fill place cs cl=some cs'∧aQ ι v' cs'.toList
 | [],_,v,v',q,cs,h,_,hl,hr=>by
  cases hl
  simp only [nT,Option.some.injEq,Prod.mk.injEq] at h
  obtain ⟨_,rfl⟩:=h
  exact ⟨cs,rfl,hr⟩
 | (i,x) :: l,_,v,v',q,cs,h,hq,hl,hr=>by
  cases hl with
  | cons hx hl=>
   rename_i y cl
   obtain ⟨j,c⟩:=y
   obtain ⟨rfl,hx⟩:=hx
   simp only [nT] at h
   split at h
   ·rename_i s n hs
    split at h
    ·rename_i q1 u hg
     split at h
     ·rename_i hc
      obtain ⟨hu,hxn,hnt⟩:=hc
      split at h
      ·rename_i v1 hv1
       split at h
       ·rename_i q2 r hf
        simp only [Option.some.injEq,Prod.mk.injEq] at h
        obtain ⟨rfl,rfl⟩:=h
        rw [bJ] at hq
        obtain ⟨l1,m,l2,el,el1,hum,hset⟩:=fe [s] v cs.toList q1 u hg hq.1 hr
        have hxc:=hx.cells (jc hnt)
        have hxl:=fH _ _ hxc
        have hml:=fH _ _ hum
        have hoff:s.off=l1.length:=by rw [el1];simp [aJ]
        have hcs:cs.size=l1.length+m.length+l2.length:=by rw [← Array.length_toList,el];simp [Nat.add_assoc]
        have hsz:c.cells.size=n:=by rw [← Array.length_toList,hxl,hxn]
        have hnew:=hset x c.cells.toList v1 hv1 hxc (by rw [hxl,hml,hxn,hu])
        have hfold:=KB s.off c.cells.toList 0 cs l1 m l2 el (by simp [hoff]) (by rw [hml,hxl,hxn,hu])
        have hfold':(c.cells.zipIdx.foldl (fun cs (x:Value×Nat)=>cs.setIfInBounds (s.off+x.2) x.1) cs).toList=l1++c.cells.toList++l2:=by
         rw [← hfold,← Array.foldl_toList,Array.toList_zipIdx]
        obtain ⟨cs',hfill,hrep⟩:=pP hst l cl v1 _ q2 (c.cells.zipIdx.foldl (fun cs (x:Value×Nat)=>cs.setIfInBounds (s.off+x.2) x.1) cs) hf hq.2 hl (by rw [hfold'];exact hnew)
        refine ⟨cs',?_,hrep⟩
        simp only [Instr.fill,hst _ _ _ hs]
        rw [if_neg]
        ·exact hfill
        ·simp only [hsz,ne_eq,not_true_eq_false,decide_false,Bool.false_or,gt_iff_lt,decide_eq_true_eq]
         rw [hcs,hoff,hml,hu];omega
       ·cases h
      ·cases h
     ·cases h
    ·cases h
   ·cases h
theorem iz:∀ {l:List (Nat×Operand)} {ps:List (Nat×AV)},j5 E T l=some ps→fK E ι T H a w→
  a4 (fun (x:Nat×AV) (y:Nat×Value)=>x.1=y.1∧au ι x.2 y.2) ps (l.map fun x=>(x.1,a.eval x.2))
 | [],_,h,_=>by cases h;exact .nil
 | (i,x) :: l,_,h,r=>by
  simp only [j5] at h
  split at h
  ·rename_i v vs h1 h2;cases h;exact .cons ⟨rfl,bL h1 r⟩ (iz h2 r)
  ·cases h
def placeOf (f:Field):Sem (Nat×Nat):=do pure (f.offset,← sizeOf f.type)
theorem lN {P:Program}:∀ (fs:List Field),(∀ f∈fs,∃ n,(sizeOf f.type).run P w=.ok n w)→
  ∃ l:List (Nat×Nat),(fs.mapM placeOf).run P w=.ok l w∧
   ∀ (i:Nat) (f:Field) n,fs[i]?=some f→(sizeOf f.type).run P w=.ok n w→l[i]?=some (f.offset,n)
 | [],_=>⟨[],rfl,by simp⟩
 | f :: fs,h=>by
  obtain ⟨n,hn⟩:=h f (by simp)
  obtain ⟨l,hl,hat⟩:=lN fs (fun f hf=>h f (by simp [hf]))
  refine ⟨(f.offset,n) :: l,?_,?_⟩
  ·simp only [List.mapM_cons,Sem.run_bind,placeOf,hn,Result.andThen,Sem.run_pure]
   rw [hl]
  ·intro i f' n' e1 e2
   cases i with
   | zero=>simp at e1;subst e1;rw [hn] at e2;cases e2;rfl
   | succ i=>simp at e1 ⊢;exact hat i f' n' e1 e2
theorem Nh {c:TC} {xs:List c.den} {l:List Value} (h:bX (bO ι c) xs l):cH ι (List.replicate xs.length c.size) (xs.map (sA c)) l:=by
 induction h with
 | nil=>rw [List.map_nil,cH];exact ⟨rfl,rfl⟩
 | cons h1 _ ih=>
  rw [List.map_cons,cH]
  exact ⟨c.size,_,_,_,rfl,rfl,a7 c _ _ h1,eD.2 h1,ih⟩
theorem H4 {z:AV} {parts:List (Nat×AV)} {l:List Value} (h:aQ ι z l):aQ ι (zl z parts) l:=by
 unfold zl
 split
 ·cases z with
  | arr n c xs=>
   rw [aQ] at h
   simp only [spread]
   rw [aQ]
   exact Nh h.2
  | _=>exact h
 ·exact h
theorem MP (hV:E.Valid) {t:TypeId} {d:bG} {ps:List (Nat×AV)} {cl:List (Nat×Value)} {q:List Prop} {v:AV} {s:Nat} (hd:d.ok E.P t)
  (hs:∀ n et,d.desc=.array n et→∃ e,E.ty et=some e∧e.size=s) (h:Gu E d s ps=some (q,v)) (hq:holds q)
  (hl:a4 (fun (x:Nat×AV) (y:Nat×Value)=>x.1=y.1∧au ι x.2 y.2) ps cl):
  ∃ cs:Array Value,(Instr.build t cl.toArray).run E.P w=.ok (.agg cs) w∧aQ ι v cs.toList:=by
 obtain ⟨z,hz,hzr⟩:=jr hd w
 have hu:=hd.1
 have hzc:=(hzr ι).cells
 unfold Gu at h
 split at h
 ·rename_i fs hdesc
  rw [hdesc] at hu
  split at h
  ·rename_i hall
   have hsz:∀ f∈fs.toList,∃ n,(sizeOf f.type).run E.P w=.ok n w:=fun f hf=>by
    have:=List.all_eq_true.1 hall f hf
    obtain ⟨x,hx⟩:=Option.isSome_iff_exists.1 this
    exact ⟨x.size,bR (hV.ty _ _ hx) w⟩
   obtain ⟨pl,hpl,hat⟩:=lN fs.toList hsz
   obtain ⟨cs',hfill,hrep⟩:=pP (place:=(pl.toArray[·]?)) (fun i s n e=>by
    split at e
    ·rename_i off e' hf
     simp only [Option.some.injEq,Prod.mk.injEq] at e
     obtain ⟨rfl,rfl⟩:=e
     obtain ⟨fs',fd,hdesc',hfd,rfl,he,_⟩:=j4 hV hf
     rw [hdesc] at hdesc';cases hdesc'
     have:=hat i fd _ (by simpa using hfd) (bR he w)
     simpa [Step.off] using this
    ·cases e) ps cl d.zero v q z.cells h hq hl hzc
   refine ⟨cs',?_,hrep⟩
   have hpl':(fs.mapM placeOf).run E.P w=.ok pl.toArray w:=by
    rw [Array.mapM_eq_mapM_toList];simp only [Sem.run_map,hpl,Result.andThen]
   simp only [Instr.build,Sem.run_bind,hz,Result.andThen,run_underlying hu]
   have hpl2:(fs.mapM (fun f=>do pure (f.offset,← sizeOf f.type):Field→Sem (Nat×Nat))).run E.P w=.ok pl.toArray w:=hpl'
   simp only [hpl2,hfill,Sem.run_pure]
  ·cases h
 ·rename_i n et hdesc
  rw [hdesc] at hu
  obtain ⟨e,he,rfl⟩:=hs n et hdesc
  obtain ⟨cs',hfill,hrep⟩:=pP (place:=fun i=>some (i * e.size,e.size)) (fun i s n h=>by
   simp only [Option.some.injEq,Prod.mk.injEq] at h
   obtain ⟨rfl,rfl⟩:=h
   rfl) ps cl (zl d.zero ps) v q z.cells h hq hl (H4 hzc)
  refine ⟨cs',?_,hrep⟩
  simp only [Instr.build,Sem.run_bind,hz,Result.andThen,run_underlying hu,bR (hV.ty _ _ he) w]
  simp only [hfill,Sem.run_pure]
 ·cases h
end Go.bz
end
section
namespace Go.bz
open Go.RowKit
variable {E:Env} {ι:aD} {T:List AV} {H:av} {a:Act} {w:World}
theorem fO (z:Array Value):∀ (n:Nat),(List.range (n * z.size)).map (fun i=>z[i % z.size]!)=(List.replicate n z.toList).flatten
 | 0=>by simp
 | n+1=>by
  have ih:=fO z n
  rw [show (n+1) * z.size=z.size+n * z.size by rw [Nat.add_mul];omega,List.range_add,List.map_append,List.replicate_succ,List.flatten_cons,← ih]
  congr 1
  ·apply List.ext_getElem
   ·simp
   ·intro i h1 h2
    simp at h1
    simp [Nat.mod_eq_of_lt h1,h1]
  ·rw [List.map_map]
   apply List.map_congr_left
   intro i _
   simp
theorem cL {c:TC} {z:c.den} {l:List Value} (h:bO ι c z l):∀ n,bX (bO ι c) (List.replicate n z) (List.replicate n l).flatten
 | 0=>by simpa using .nil
 | n+1=>by rw [List.replicate_succ,List.replicate_succ,List.flatten_cons];exact .cons h (cL h n)
def uY (e:bG) (len:Nat) (s:AV):Prop:=∀ (ι:aD) (l:List Value),aQ ι e.zero l→l.length=e.size→aQ ι s (List.replicate len l).flatten
theorem oU {e:bG} {c:TC} {z:c.den} {len:Nat} (hz:Kb c e.zero=some z) (hc:c.size=e.size):uY e len (.arr len c (List.replicate len z)):=by
 intro ι l h _
 rw [aQ]
 exact ⟨by simp,cL (nz hz h) len⟩
theorem nM {e:bG} {len:Nat}:uY e len (Ed e len):=by
 intro ι l h hl
 unfold Ed
 rw [aQ]
 induction len with
 | zero=>rw [List.replicate_zero,List.replicate_zero,cH];exact ⟨rfl,rfl⟩
 | succ n ih=>
  rw [List.replicate_succ,List.replicate_succ,List.replicate_succ,List.flatten_cons,cH]
  exact ⟨_,_,_,_,rfl,rfl,hl,h,ih⟩
theorem jK {t et:TypeId} {d e:bG} {s:AV} {len:Nat} {ps:List (Nat×AV)} {cl:List (Nat×Value)} {q:List Prop} {v:AV}
  (hd:d.ok E.P t) (he:e.ok E.P et) (hdesc:d.desc=.slice et) (hs:uY e len s) (h:nT (fun i=>some (.idx e.size i,e.size)) s ps=some (q,v))
  (hq:holds q) (hl1:len * e.size≤2 ^ 24) (hl2:e.size≠0) (hl3:l4 v=len * e.size)
  (hl:a4 (fun (x:Nat×AV) (y:Nat×Value)=>x.1=y.1∧au ι x.2 y.2) ps cl):
  ∃ cs':Array Value,(Instr.buildSlice t len cl.toArray).run E.P w=.ok (.slice (some ⟨w.heap.size,0,none⟩) len len) (w.alloc (.cells cs' et))∧aQ ι v cs'.toList∧cs'.size=len * e.size:=by
 obtain ⟨zv,hzr,hzv⟩:=jr he w
 have hu:=hd.1
 rw [hdesc] at hu
 have hzc:=(hzv ι).cells
 have hsz0:l4 e.zero=e.size:=he.2.elim fun i h=>h.elim fun z h=>h.2.2.2.2.2.2
 have hzl:zv.cells.size=e.size:=by rw [← Array.length_toList,fH _ _ hzc,hsz0]
 have hne:¬ len * e.size > 2 ^ 24:=by omega
 have hstart:∃ zs:Array Value,((len * e.size=0∧zs=#[])∨(len * e.size≠0∧zs=zv.cells))∧
   aQ ι s ((Array.range (len * e.size)).map (zs[· % zs.size]!)).toList:=by
  by_cases h0:len * e.size=0
  ·have hlen:len=0:=by
    rcases Nat.mul_eq_zero.1 h0 with h | h
    ·exact h
    ·exact absurd h hl2
   subst hlen
   refine ⟨#[],.inl ⟨h0,rfl⟩,?_⟩
   have:=hs ι zv.cells.toList hzc (by rw [Array.length_toList,hzl])
   simpa using this
  ·refine ⟨zv.cells,.inr ⟨h0,rfl⟩,?_⟩
   have:=fO zv.cells len
   rw [hzl] at this
   rw [Array.toList_map,Array.toList_range,hzl,this]
   exact hs ι _ hzc (by rw [Array.length_toList,hzl])
 obtain ⟨zs,hzs,hrep0⟩:=hstart
 obtain ⟨cs',hfill,hrep⟩:=pP (place:=fun i=>some (i * e.size,e.size)) (fun i s n h=>by
  simp only [Option.some.injEq,Prod.mk.injEq] at h
  obtain ⟨rfl,rfl⟩:=h
  rfl) ps cl _ v q _ h hq hl hrep0
 have hcs:cs'.size=len * e.size:=by rw [← Array.length_toList,fH _ _ hrep,hl3]
 refine ⟨cs',?_,hrep,hcs⟩
 simp only [Instr.buildSlice,Sem.run_bind,run_underlying hu,Result.andThen,bR he]
 rw [if_neg hne]
 rcases hzs with ⟨h0,rfl⟩ | ⟨h0,rfl⟩
 ·rw [if_pos h0]
  simp only [Sem.run_bind,Sem.run_pure,Result.andThen,hfill]
  rfl
 ·rw [if_neg h0]
  simp only [Sem.run_bind,hzr,Sem.run_pure,Result.andThen,hfill]
  rfl
theorem nV {t et:TypeId} {d e:bG} {s:AV} {len:Nat} {ps:List (Nat×AV)} {cl:List (Nat×Value)} {q:List Prop} {v:AV}
  (hd:d.ok E.P t) (he:e.ok E.P et) (hdesc:d.desc=.slice et) (hs:uY e len s) (h:nT (fun i=>some (.idx e.size i,e.size)) s ps=some (q,v))
  (hq:holds q) (hl1:len * e.size≤2 ^ 24) (hl2:e.size≠0) (hl3:l4 v=len * e.size) (r:aR ι H w)
  (hl:a4 (fun (x:Nat×AV) (y:Nat×Value)=>x.1=y.1∧au ι x.2 y.2) ps cl):
  ∃ ι' w' u,(Instr.buildSlice t len cl.toArray).run E.P w=.ok u w'∧Ext ι ι'∧aR ι' (H++[.cell true et v]) w'∧au ι' (.bw H.length [] e.size 0 len (some len)) u:=by
 obtain ⟨cs',hrun,hrep,hcs⟩:=jK (w:=w) hd he hdesc hs h hq hl1 hl2 hl3 hl
 have hE:=Ext.add ι w.heap.size cs'.size
 refine ⟨ι.add w.heap.size cs'.size,w.alloc (.cells cs' et),_,hrun,hE,?_,?_⟩
 ·exact r.alloc _ _ _ ⟨cs',(0,0),cs'.toList,[],heap_alloc_new,by simp,rfl,xx hE _ _ hrep,by simp⟩
 ·refine aC rfl ?_
  rw [aQ]
  refine ⟨w.heap.size,cs'.size,len,by rw [r.len];exact ι.fh _ _,by simp [aJ],Nat.le_refl _,by simp [aJ,hcs],by simp⟩
def SL (E:Env) (ι:aD) (a:Act) (w:World) (o:Oper) (v:AV) (H':av):Prop:=
 ∃ ι' w' c,Ext ι ι'∧aR ι' H' w'∧au ι' v c∧((execOp a.eval o).run E.P w=.ok (.value c) w'∨((execOp a.eval o).run E.P w=.ok .skip w'∧c=undef))
theorem SL.same {o:Oper} {v:AV} {c:Value} (r:aR ι H w) (hv:au ι v c) (h:(execOp a.eval o).run E.P w=.ok (.value c) w):SL E ι a w o v H:=
 ⟨ι,w,c,Ext.refl ι,r,hv,.inl h⟩
theorem a4.cons_inv {α β:Type} {R:α→β→Prop} {x:α} {l:List α} {m:List β} (h:a4 R (x :: l) m):∃ y m',m=y :: m'∧R x y∧a4 R l m':=by
 cases h with | cons h1 t=>exact ⟨_,_,rfl,h1,t⟩
theorem gI {b:Builtin} {o:Oper} {args:Array Operand} {ts:Array TypeId} (hop:o.op=.call {callee:=.builtin b,args,argTypes:=ts}):
  ∃ cs,(execOp a.eval o).run E.P w=(builtin b ts o.type cs (args.map a.eval)).run E.P w:=by
 refine ⟨args.map fun | .const _=>true | _=>false,?_⟩
 simp only [execOp,hop,resolve,Sem.run_bind,Sem.run_pure,Result.andThen,invoke]
 rfl
end Go.bz
end
section
namespace Go.bz
open Go.RowKit
variable {E:Env} {ι:aD} {T:List AV} {H:av} {a:Act} {w:World}
theorem JJ {P:Program} {t:TypeId} {d:bG} {x i v:AV} {q:List Prop} {cx ci:Value} (hd:d.ok P t) (h:Gf d x i=some (q,v)) (hq:holds q) (hx:au ι x cx) (hi:au ι i ci):
  ∃ c,(Instr.index t cx ci).run P w=.ok c w∧au ι v c:=by
 unfold Gf at h
 split at h
 ·rename_i s k n hdesc
  simp only [Option.some.injEq,Prod.mk.injEq] at h;obtain ⟨rfl,rfl⟩:=h
  obtain ⟨h1,h2,_⟩:=hq
  have hu:=hd.1
  rw [hdesc] at hu
  have hs:cx=.string s:=by
   have:=hx.one rfl rfl;rw [aQ] at this;simpa using this
  have hb:s[n.toNat]?=some s[n.toNat]:=by simp [h2]
  refine ⟨.int .u8 s[n.toNat].toNat,?_,?_⟩
  ·simp [Instr.index,hs,hi.int,asIntOf,run_underlying hu,h1,h2]
  ·have:Kx s n.toNat=(s[n.toNat].toNat:Int):=by unfold Kx;rw [hb]
   rw [this];exact dC _ _
 ·cases h
def WV (ι:aD) (o:Option AV) (c:Option Value):Prop:=(o=none∧c=none)∨∃ v u,o=some v∧c=some u∧au ι v u
theorem MA {x:Option Operand} {o:Option AV} (h:SC E T x=some o) (r:fK E ι T H a w):WV ι o (x.map a.eval):=by
 unfold SC at h
 split at h
 ·cases h;exact .inl ⟨rfl,rfl⟩
 ·split at h
  ·rename_i v hv;cases h;exact .inr ⟨v,_,rfl,rfl,bL hv r⟩
  ·cases h
theorem jy {P:Program} (b:Bool) (len cap l m:Nat) (lo hi:Option Value) (hl:(lo=none∧l=0)∨∃ k n,lo=some (.int k n)∧0≤n∧l=n.toNat)
  (hm:(hi=none∧m=len)∨∃ k n,hi=some (.int k n)∧0≤n∧m=n.toNat) (h1:l≤m) (h2:m≤len) (h3:len≤cap):(Instr.sliceBounds b len cap lo hi none).run P w=.ok (l,m,cap) w:=by
 rcases hl with ⟨rfl,rfl⟩ | ⟨k,n,rfl,hn,rfl⟩<;>rcases hm with ⟨rfl,rfl⟩ | ⟨k',n',rfl,hn',rfl⟩
 ·simp [Instr.sliceBounds]
 ·have:n'≤(cap:Int):=by omega
  simp [Instr.sliceBounds,Instr.sliceBound,asIntOf,hn',this]
 ·have:n≤(m:Int):=by omega
  simp [Instr.sliceBounds,Instr.sliceBound,asIntOf,hn,this]
 ·have e1:n'≤(cap:Int):=by omega
  have e2:n≤(n'.toNat:Int):=by omega
  simp [Instr.sliceBounds,Instr.sliceBound,asIntOf,hn,hn',e1]
  intro hc;omega
theorem oE {lo:Option AV} {q:List Prop} {l:Nat} {c:Option Value} (h:XD lo=some (q,l)) (hq:holds q) (hb:WV ι lo c):(c=none∧l=0)∨∃ k n,c=some (.int k n)∧0≤n∧l=n.toNat:=by
 unfold XD at h
 split at h
 ·simp only [Option.some.injEq,Prod.mk.injEq] at h;obtain ⟨rfl,rfl⟩:=h
  rcases hb with ⟨_,rfl⟩ | ⟨v,u,e,_⟩
  ·exact .inl ⟨rfl,rfl⟩
  ·cases e
 ·rename_i k n
  simp only [Option.some.injEq,Prod.mk.injEq] at h;obtain ⟨rfl,rfl⟩:=h
  rcases hb with ⟨e,_⟩ | ⟨v,u,e,rfl,hr⟩
  ·cases e
  ·cases e
   exact .inr ⟨k,n,by rw [hr.int],hq.1,rfl⟩
 ·cases h
theorem CN {P:Program} {t e:TypeId} {de:bG} {c:TC} {xs:List c.den} {cx:Value} {l m:Nat} {lo hi:Option Value} (hu:P.underlying t=some (.slice e)) (he:de.ok P e) (hs:c.size=de.size) (hx:au ι (.gf c xs) cx)
  (hl:(lo=none∧l=0)∨∃ k n,lo=some (.int k n)∧0≤n∧l=n.toNat) (hm:(hi=none∧m=xs.length)∨∃ k n,hi=some (.int k n)∧0≤n∧m=n.toNat) (h1:l≤m) (h2:m≤xs.length):
  ∃ u,(Instr.sliceAt t cx lo hi none).run P w=.ok u w∧au ι (.gf c ((xs.drop l).take (m - l))) u:=by
 have hr:=hx.one rfl rfl
 rw [aQ] at hr
 obtain ⟨v,e1,hv⟩:=hr
 simp only [List.cons.injEq,and_true] at e1
 subst e1
 rcases hv with ⟨rfl,rfl | ⟨a0,rfl⟩⟩ | ⟨b,off,k,cells,ty,fz,cs,rfl,hk,hp,hr,hat⟩
 ·simp only [List.length_nil,Nat.le_zero] at h2
  subst h2
  have:l=0:=by omega
  subst this
  have hm':(hi=none∧0=0)∨∃ k n,hi=some (.int k n)∧0≤n∧0=n.toNat:=by simpa using hm
  have hb:=jy (P:=P) (w:=w) true 0 0 0 0 lo hi hl hm' (Nat.le_refl _) (Nat.le_refl _) (Nat.le_refl _)
  refine ⟨.slice none 0 0,?_,aC rfl (by rw [aQ];exact ⟨_,rfl,.inl ⟨by simp,.inl rfl⟩⟩)⟩
  simp only [Instr.sliceAt,Sem.run_bind,run_underlying hu,Result.andThen,Instr.slice,hb,bR he,Sem.run_pure]
  simp
 ·simp only [List.length_nil,Nat.le_zero] at h2
  subst h2
  have:l=0:=by omega
  subst this
  have hm':(hi=none∧0=0)∨∃ k n,hi=some (.int k n)∧0≤n∧0=n.toNat:=by simpa using hm
  have hb:=jy (P:=P) (w:=w) true 0 0 0 0 lo hi hl hm' (Nat.le_refl _) (Nat.le_refl _) (Nat.le_refl _)
  refine ⟨.slice (some a0) 0 0,?_,aC rfl (by rw [aQ];exact ⟨_,rfl,.inl ⟨by simp,.inr ⟨a0,rfl⟩⟩⟩)⟩
  simp only [Instr.sliceAt,Sem.run_bind,run_underlying hu,Result.andThen,Instr.slice,hb,bR he,Sem.run_pure]
  simp
 ·have hb:=jy (P:=P) (w:=w) true xs.length k l m lo hi hl hm h1 h2 hk
  refine ⟨.slice (if k=l then some ⟨b,off,none⟩ else some ⟨b,off+l * de.size,none⟩) (m - l) (k - l),?_,aC rfl ?_⟩
  ·simp only [Instr.sliceAt,Sem.run_bind,run_underlying hu,Result.andThen,Instr.slice,hb,bR he,Sem.run_pure,Option.map_some,dJ]
  ·obtain ⟨m1,m2,em,em1,hr1,hr2⟩:=hr.split (a7 c) l (by omega)
   obtain ⟨k1,k2,ek,ek1,hs1,hs2⟩:=hr2.split (a7 c) (m - l) (by simp;omega)
   have hlen:((xs.drop l).take (m - l)).length=m - l:=by simp;omega
   rw [aQ]
   by_cases hkl:k=l
   ·have hml:m - l=0:=by omega
    refine ⟨_,rfl,.inr ⟨b,off,k - l,cells,ty,fz,k1,?_,by rw [hlen];omega,hp,hs1,?_⟩⟩
    ·rw [if_pos hkl,hlen]
    ·have:k1=[]:=by
      have:=hs1.len (a7 c)
      rw [hlen,hml] at this
      simpa using this
     rw [this]
     intro j v hj
     simp at hj
   ·refine ⟨_,rfl,.inr ⟨b,off+l * de.size,k - l,cells,ty,fz,k1,?_,by rw [hlen];omega,hp,hs1,?_⟩⟩
    ·rw [if_neg hkl,hlen]
    ·have:l * de.size=m1.length:=by rw [em1,hs]
     rw [this]
     refine At.sub (l2:=k2) ?_
     rw [em,ek] at hat
     rw [List.append_assoc]
     exact hat
theorem Ci {P:Program} (b:Bool) (len cap l m:Nat) (lo hi:Option Value) (hl:(lo=none∧l=0)∨∃ k n,lo=some (.int k n)∧0≤n∧l=n.toNat)
  (hm:(hi=none∧m=len)∨∃ k n,hi=some (.int k n)∧0≤n∧m=n.toNat) (h1:l≤m) (h2:m≤cap):(Instr.sliceBounds b len cap lo hi none).run P w=.ok (l,m,cap) w:=by
 rcases hl with ⟨rfl,rfl⟩ | ⟨k,n,rfl,hn,rfl⟩<;>rcases hm with ⟨rfl,rfl⟩ | ⟨k',n',rfl,hn',rfl⟩
 ·simp [Instr.sliceBounds]
 ·have:n'≤(cap:Int):=by omega
  simp [Instr.sliceBounds,Instr.sliceBound,asIntOf,hn',this]
 ·have:n≤(m:Int):=by omega
  simp [Instr.sliceBounds,Instr.sliceBound,asIntOf,hn,this]
 ·have e1:n'≤(cap:Int):=by omega
  have e2:n≤(n'.toNat:Int):=by omega
  simp [Instr.sliceBounds,Instr.sliceBound,asIntOf,hn,hn',e1]
  intro hc;omega
theorem CL {P:Program} {t e:TypeId} {de:bG} {o off len:Nat} {p:List Step} {cap:Option Nat} {cx:Value} {l m:Nat} {lo hi:Option Value} (hu:P.underlying t=some (.slice e)) (he:de.ok P e) (hx:au ι (.bw o p de.size off len cap) cx)
  (hl:(lo=none∧l=0)∨∃ k n,lo=some (.int k n)∧0≤n∧l=n.toNat) (hm:(hi=none∧m=len)∨∃ k n,hi=some (.int k n)∧0≤n∧m=n.toNat) (h1:l≤m) (h2:m≤BF len cap) (h3:l=0∨l < BF len cap):
  ∃ u,(Instr.sliceAt t cx lo hi none).run P w=.ok u w∧au ι (.bw o p de.size (off+l) (m - l) (cap.map fun k=>k - l)) u:=by
 obtain ⟨b,z,k,hb,rfl,hk,hkz,hcap⟩:=gx hx
 have hck:BF len cap≤k:=by
  unfold BF
  cases cap with
  | none=>exact hk
  | some k'=>exact Nat.le_of_eq (hcap k' rfl).symm
 have hbd:=Ci (P:=P) (w:=w) true len k l m lo hi hl hm h1 (by omega)
 refine ⟨.slice (some ⟨b,aJ p+(off+l) * de.size,none⟩) (m - l) (k - l),?_,aC rfl ?_⟩
 ·simp only [Instr.sliceAt,Sem.run_bind,run_underlying hu,Result.andThen,Instr.slice,hbd,bR he,Sem.run_pure,Option.map_some,dJ]
  rcases h3 with rfl | h3
  ·have:aJ p+off * de.size=aJ p+(off+0) * de.size:=by simp
   by_cases hk0:k=0
   ·rw [if_pos hk0,this]
   ·rw [if_neg hk0];simp
  ·rw [if_neg (by omega),Nat.add_mul];simp [Nat.add_assoc]
 ·rw [aQ]
  refine ⟨b,z,k - l,hb,rfl,by omega,?_,?_⟩
  ·have:off+l+(k - l)=off+k:=by omega
   rw [this];exact hkz
  ·intro k' hk'
   cases cap with
   | none=>cases hk'
   | some k0=>simp only [Option.map_some,Option.some.injEq] at hk';rw [hcap k0 rfl];exact hk'
theorem CM {P:Program} {t e:TypeId} {de:bG} {lo hi:Option Value} (hu:P.underlying t=some (.slice e)) (he:de.ok P e)
  (hl:(lo=none∧0=0)∨∃ k n,lo=some (.int k n)∧0≤n∧0=n.toNat) (hm:(hi=none∧0=0)∨∃ k n,hi=some (.int k n)∧0≤n∧0=n.toNat):
  (Instr.sliceAt t (.slice none 0 0) lo hi none).run P w=.ok (.slice none 0 0) w:=by
 have hb:=jy (P:=P) (w:=w) true 0 0 0 0 lo hi hl hm (Nat.le_refl _) (Nat.le_refl _) (Nat.le_refl _)
 simp only [Instr.sliceAt,Sem.run_bind,run_underlying hu,Result.andThen,Instr.slice,hb,bR he,Sem.run_pure]
 simp
theorem H7 (hV:E.Valid) {t:TypeId} {d:bG} {s:Nat} {x v:AV} {lo hi:Option AV} {q:List Prop} {cx:Value} {cl ch:Option Value} (hd:E.ty t=some d) (hs:m9 E d=some s) (h:El d s x lo hi=some (q,v)) (hq:holds q)
  (hx:au ι x cx) (hl:WV ι lo cl) (hh:WV ι hi ch):∃ u,(Instr.sliceAt t cx cl ch none).run E.P w=.ok u w∧au ι v u:=by
 have hu:=(hV.ty _ _ hd).1
 unfold El at h
 split at h
 ·rename_i q1 l hlo
  split at h
  ·rename_i e c xs hdesc
   split at h
   ·rename_i hsz
    rw [hdesc] at hu
    unfold m9 at hs
    rw [hdesc] at hs
    simp only at hs
    split at hs
    ·rename_i de hde
     simp only [Option.some.injEq] at hs
     subst hs
     have he:=hV.ty _ _ hde
     split at h
     ·simp only [Option.some.injEq,Prod.mk.injEq] at h;obtain ⟨rfl,rfl⟩:=h
      rw [bJ] at hq
      rcases hh with ⟨_,rfl⟩ | ⟨v,u,e,_⟩
      ·have:=CN (w:=w) hu he hsz hx (oE hlo hq.1 hl) (.inl ⟨rfl,rfl⟩) hq.2.1 (Nat.le_refl _)
       have e:(xs.drop l).take (xs.length - l)=xs.drop l:=List.take_of_length_le (by simp)
       rw [e] at this
       exact this
      ·cases e
     ·rename_i k m
      simp only [Option.some.injEq,Prod.mk.injEq] at h;obtain ⟨rfl,rfl⟩:=h
      rw [bJ] at hq
      obtain ⟨hq1,hq2,hq3,hq4,_⟩:=hq
      rcases hh with ⟨e,_⟩ | ⟨v,u,e,rfl,hr⟩
      ·cases e
      ·cases e
       exact CN (w:=w) hu he hsz hx (oE hlo hq1 hl) (.inr ⟨k,m,by rw [hr.int],hq2,rfl⟩) hq3 hq4
     ·cases h
    ·cases hs
   ·cases h
  ·rename_i e o p s' off len cap hdesc
   split at h
   ·rename_i hsz;subst hsz
    rw [hdesc] at hu
    unfold m9 at hs
    rw [hdesc] at hs
    simp only at hs
    split at hs
    ·rename_i de hde
     simp only [Option.some.injEq] at hs
     subst hs
     have he:=hV.ty _ _ hde
     split at h
     ·simp only [Option.some.injEq,Prod.mk.injEq] at h;obtain ⟨rfl,rfl⟩:=h
      rw [bJ] at hq
      rcases hh with ⟨_,rfl⟩ | ⟨v,u,e,_⟩
      ·obtain ⟨b,z,k,_,_,hk,_,hcap⟩:=gx hx
       have:len≤BF len cap:=by
        unfold BF
        cases cap with
        | none=>exact Nat.le_refl _
        | some k'=>have:=hcap k' rfl;simp only;omega
       exact CL (w:=w) hu he hx (oE hlo hq.1 hl) (.inl ⟨rfl,rfl⟩) hq.2.1 this hq.2.2.1
      ·cases e
     ·rename_i k m
      simp only [Option.some.injEq,Prod.mk.injEq] at h;obtain ⟨rfl,rfl⟩:=h
      rw [bJ] at hq
      obtain ⟨hq1,hq2,hq3,hq4,hq5,_⟩:=hq
      rcases hh with ⟨e,_⟩ | ⟨v,u,e,rfl,hr⟩
      ·cases e
      ·cases e
       exact CL (w:=w) hu he hx (oE hlo hq1 hl) (.inr ⟨k,m,by rw [hr.int],hq2,rfl⟩) hq3 hq4 hq5
     ·cases h
    ·cases hs
   ·cases h
  ·rename_i e hdesc
   rw [hdesc] at hu
   unfold m9 at hs
   rw [hdesc] at hs
   simp only at hs
   split at hs
   ·rename_i de hde
    have he:=hV.ty _ _ hde
    have hcx:=hx.raw;subst hcx
    split at h
    ·simp only [Option.some.injEq,Prod.mk.injEq] at h;obtain ⟨rfl,rfl⟩:=h
     rw [bJ] at hq
     obtain ⟨hq1,hq2,_⟩:=hq
     have h0:l=0:=hq2
     subst h0
     rcases hh with ⟨_,rfl⟩ | ⟨v,u,e,_⟩
     ·exact ⟨_,CM hu he (by simpa using oE hlo hq1 hl) (.inl ⟨rfl,rfl⟩),hx⟩
     ·cases e
    ·rename_i k m
     simp only [Option.some.injEq,Prod.mk.injEq] at h;obtain ⟨rfl,rfl⟩:=h
     rw [bJ] at hq
     obtain ⟨hq1,hq2,hq3,_⟩:=hq
     have h0:l=0:=hq3
     have h1:m=0:=hq2
     subst h0
     subst h1
     rcases hh with ⟨e,_⟩ | ⟨v,u,e,rfl,hr⟩
     ·cases e
     ·cases e
      exact ⟨_,CM hu he (by simpa using oE hlo hq1 hl) (.inr ⟨k,0,by rw [hr.int],by decide,rfl⟩),hx⟩
    ·cases h
   ·cases hs
  ·rename_i n e m c xs hdesc
   rw [hdesc] at hu
   unfold m9 at hs
   rw [hdesc] at hs
   simp only at hs
   split at hs
   ·rename_i de hde
    simp only [Option.some.injEq] at hs
    subst hs
    have he:=hV.ty _ _ hde
    split at h
    ·split at h
     ·rename_i hc
      obtain ⟨rfl,hcs⟩:=hc
      simp only [Option.some.injEq,Prod.mk.injEq] at h;obtain ⟨rfl,rfl⟩:=h
      have hp:=hx.one rfl rfl
      rw [aQ] at hp
      obtain ⟨b,off,cells,t',fz,l',hpe,hprot,hr,hat⟩:=hp
      simp only [List.cons.injEq,and_true] at hpe
      subst hpe
      rw [aQ] at hr
      obtain ⟨hn,hrep⟩:=hr
      rcases hl with ⟨_,rfl⟩ | ⟨v,u,e,_⟩
      ·rcases hh with ⟨_,rfl⟩ | ⟨v,u,e,_⟩
       ·refine ⟨.slice (some ⟨b,off,none⟩) m m,?_,aC rfl ?_⟩
        ·simp only [Instr.sliceAt,Sem.run_bind,run_underlying hu,bR he,Result.andThen,Instr.sureAddr,Sem.run_pure,Instr.sliceBounds,Option.map_none]
         simp
         intro _
         rfl
        ·rw [aQ]
         exact ⟨_,rfl,.inr ⟨b,off,m,cells,t',fz,l',by rw [hn],by omega,hprot,hrep,hat⟩⟩
       ·cases e
      ·cases e
     ·cases h
    ·cases h
   ·cases hs
  ·rename_i b hdesc
   rw [hdesc] at hu
   have hcx:cx=.string b:=by
    have:=hx.one rfl rfl;rw [aQ] at this;simpa using this
   have fin:∀ m,((ch=none∧m=b.size)∨∃ k n,ch=some (.int k n)∧0≤n∧m=n.toNat)→holds q1→l≤m→m≤b.size→∃ u,(Instr.sliceAt t cx cl ch none).run E.P w=.ok u w∧au ι (.str (b.extract l m)) u:=by
    intro m hm hq1 h1 h2
    have hb:=jy (P:=E.P) (w:=w) false b.size b.size l m cl ch (oE hlo hq1 hl) hm h1 h2 (Nat.le_refl _)
    refine ⟨.string (b.extract l m),?_,aC rfl (by rw [aQ])⟩
    subst hcx
    simp only [Instr.sliceAt,Sem.run_bind,run_underlying hu,Result.andThen,Instr.slice,hb,Sem.run_pure,Option.isSome_none,Bool.false_eq_true,if_false]
   split at h
   ·simp only [Option.some.injEq,Prod.mk.injEq] at h;obtain ⟨rfl,rfl⟩:=h
    rw [bJ] at hq
    rcases hh with ⟨_,rfl⟩ | ⟨v,u,e,_⟩
    ·exact fin _ (.inl ⟨rfl,rfl⟩) hq.1 hq.2.1 (Nat.le_refl _)
    ·cases e
   ·rename_i k m
    simp only [Option.some.injEq,Prod.mk.injEq] at h;obtain ⟨rfl,rfl⟩:=h
    rw [bJ] at hq
    obtain ⟨hq1,hq2,hq3,hq4,_⟩:=hq
    rcases hh with ⟨e,_⟩ | ⟨v,u,e,rfl,hr⟩
    ·cases e
    ·cases e
     exact fin _ (.inr ⟨k,m,by rw [hr.int],hq2,rfl⟩) hq1 hq3 hq4
   ·cases h
  ·cases h
 ·cases h
end Go.bz
end
section
namespace Go.bz
open Go.RowKit
variable {E:Env} {ι:aD} {T:List AV} {H:av} {a:Act} {w:World}
theorem DM {P:Program} {t:TypeId} {fs:Array Field} (h:P.underlying t=some (.struct fs)):P.fieldsOf t=fs:=by
 simp [Program.fieldsOf,h]
theorem HD (hV:E.Valid) {eq:TypeId→AV→AV→Option Bool} {n:Nat} {d:bG} {x y:AV} {xs ys:Array Value} {all:Array Field} (hd:d.desc=.struct all)
  (heq:∀ t u v b cu cv,eq t u v=some b→au ι u cu→au ι v cv→(Op.equalIn n t cu cv).run E.P w=.ok b w) (hx:au ι x (.agg xs)) (hy:au ι y (.agg ys)):
  ∀ (fs:List Field) (i:Nat) (b:Bool),(∀ j f,fs[j]?=some f→all[i+j]?=some f)→(fs.all fun f=>f.name != "_")=true→Ow eq E d x y i fs=some b→(Op.eqFields n xs ys fs).run E.P w=.ok b w
 | [],_,_,_,_,h=>by cases h;rfl
 | f :: fs,i,b,hat,hnm,h=>by
  simp only [List.all_cons,Bool.and_eq_true] at hnm
  simp only [Ow] at h
  split at h
  ·rename_i u v hu hv
   split at h
   ·rename_i b1 r hb hr
    cases h
    have h0:=hat 0 f rfl
    have part:∀ {z u:AV} {zs:Array Value},oG E d z i=some ([],u)→au ι z (.agg zs)→∃ c,(part f.type zs f.offset).run E.P w=.ok c w∧au ι u c:=by
     intro z u zs hz hr
     unfold oG at hz
     split at hz
     ·rename_i off e hf
      obtain ⟨fs',fd,hdesc,hfd,rfl,he,hes⟩:=j4 hV hf
      rw [hd] at hdesc;cases hdesc
      rw [Nat.add_zero] at h0
      rw [h0] at hfd;cases hfd
      split at hz
      ·rename_i q' u' hg
       split at hz
       ·rename_i hc
        simp only [Option.some.injEq,Prod.mk.injEq] at hz
        obtain ⟨rfl,rfl⟩:=hz
        obtain ⟨cs,e1,c,hrun,hr⟩:=zS (w:=w) he hg trivial hc.1 hc.2 hr
        cases e1
        exact ⟨c,hrun,hr⟩
       ·cases hz
      ·cases hz
     ·cases hz
    obtain ⟨cu,hru,ru⟩:=part hu hx
    obtain ⟨cv,hrv,rv⟩:=part hv hy
    have hb:=heq _ _ _ _ _ _ hb ru rv
    have ih:=HD hV hd heq hx hy fs (i+1) r (fun j g e=>by have:=hat (j+1) g (by simpa using e);rwa [show i+(j+1)=i+1+j by omega] at this) hnm.2 hr
    have hne:f.name ≠ "_" := by simpa using hnm.1
    simp only [Op.eqFields,Sem.run_ite,Sem.run_bind]
    rw [if_pos hne,hru]
    simp only [Result.andThen_ok,hrv,hb]
    cases b1
    ·rfl
    ·simp only [Bool.true_and]
     exact ih
   ·cases h
  ·cases h
theorem lV:∀ (xs ys:List Bool),xs.length=ys.length→((List.range xs.length).all fun i=>xs.getD i false==ys.getD i false)=(xs==ys)
 | [],[],_=>rfl
 | x :: xs,y :: ys,h=>by
  have ih:=lV xs ys (by simpa using h)
  rw [List.length_cons,List.range_succ_eq_map,List.all_cons,List.all_map]
  simp only [List.getD_cons_zero,Function.comp_def,List.getD_cons_succ,ih,List.cons_beq_cons]
 | [],_ :: _,h=>by simp at h
 | _ :: _,[],h=>by simp at h
theorem oZ {P:Program} (w:World) (d:Nat) (t e:TypeId) (n:Nat) (ht:P.underlying t=some (.array n e)) (he:P.underlying e=some .bool) (hsz:∀ w,(sizeOf e).run P w=.ok 1 w)
  (xs ys:List Bool) (hx:xs.length=n) (hy:ys.length=n):
  (Op.equalIn (d+2) t (.agg (xs.map Value.bool).toArray) (.agg (ys.map Value.bool).toArray)).run P w=.ok (xs==ys) w:=by
 rw [← lV xs ys (hx.trans hy.symm),hx,List.range_eq_range',Op.equalIn]
 simp only [Sem.run_bind,run_underlying ht,Result.andThen_ok,hsz,Std.Legacy.Range.forIn_eq_forIn_range',Std.Legacy.Range.size,Nat.sub_zero,Nat.add_sub_cancel,Nat.div_one]
 have hl:∀ i∈List.range' 0 n 1,i < n:=fun i hi=>by simpa using (List.mem_range'_1.1 hi).2
 generalize List.range' 0 n 1=l at hl ⊢
 induction l with
 | nil=>simp
 | cons i l ih=>
  have hi:i < n:=hl i (by simp)
  have px:(part e (xs.map Value.bool).toArray (i * 1)).run P w=.ok (.bool (xs.getD i false)) w:=by
   simp [part,isAgg,run_underlying he,List.getD,List.getElem?_eq_getElem (show i < xs.length by omega)]
  have py:(part e (ys.map Value.bool).toArray (i * 1)).run P w=.ok (.bool (ys.getD i false)) w:=by
   simp [part,isAgg,run_underlying he,List.getD,List.getElem?_eq_getElem (show i < ys.length by omega)]
  have pe:(Op.equalIn (d+1) e (.bool (xs.getD i false)) (.bool (ys.getD i false))).run P w=.ok (xs.getD i false==ys.getD i false) w:=run_equalIn_bool' w d e _ _ he
  simp only [List.forIn_cons,Sem.run_bind,px,py,pe,Result.andThen_ok,List.all_cons]
  cases hb:(xs.getD i false==ys.getD i false)
  ·simp
  ·simp only [Bool.not_true,Bool.false_eq_true,if_false,Sem.run_pure,Result.andThen_ok,Bool.true_and]
   exact ih fun j hj=>hl j (by simp [hj])
theorem D4 {xs:List Bool} {l:List Value} (h:bX (bO ι .bool) xs l):l=xs.map Value.bool:=by
 induction h with
 | nil=>rfl
 | cons h1 _ ih=>rw [show _=[Value.bool _] from h1,ih];rfl
theorem MB (hV:E.Valid):∀ (n m:Nat) (t:TypeId) (x y:AV) (b:Bool) (cx cy:Value),M7 E n t x y=some b→n≤m→au ι x cx→au ι y cy→(Op.equalIn m t cx cy).run E.P w=.ok b w
 | 0,_,_,_,_,_,_,_,h,_,_,_=>by cases h
 | n+1,0,_,_,_,_,_,_,_,hm,_,_=>absurd hm (by omega)
 | n+1,m+1,t,x,y,b,cx,cy,h,hm,hx,hy=>by
  simp only [M7] at h
  split at h
  ·rename_i d hd
   have hu:=(hV.ty _ _ hd).1
   split at h
   ·rename_i hdesc
    rw [hdesc] at hu
    split at h
    ·rename_i p q
     cases h
     rw [hx.bool,hy.bool];exact run_equalIn_bool' w m t p q hu
    ·cases h
   ·rename_i k0 hdesc
    rw [hdesc] at hu
    split at h
    ·rename_i k p k' q
     split at h
     ·rename_i e;subst e
      cases h
      rw [hx.int,hy.int];exact run_equalIn_int w m t k k0 p q hu
     ·cases h
    ·cases h
   ·rename_i hdesc
    rw [hdesc] at hu
    split at h
    ·rename_i p q
     cases h
     rw [hx.str,hy.str];simp [Op.equalIn,run_underlying hu]
    ·cases h
   ·rename_i fs hdesc
    rw [hdesc] at hu
    split at h
    ·rename_i hc
     obtain ⟨ha,hb,hs,hnm⟩:=hc
     obtain ⟨xs,_,rfl⟩:=hx.agg ha
     obtain ⟨ys,_,rfl⟩:=hy.agg hb
     have hf:=DM hu
     rw [run_equalIn_struct w m t _ _ (by rw [hf];exact hu) hs,hf]
     exact HD hV hdesc (fun t u v b cu cv e r1 r2=>MB hV n m t u v b cu cv e (by omega) r1 r2) hx hy fs.toList 0 b (fun j f e=>by simpa using e) hnm h
    ·cases h
   ·rename_i k el hdesc
    rw [hdesc] at hu
    split at h
    ·rename_i de hde
     split at h
     ·rename_i hdd
      split at h
      ·rename_i hc
       have he:=(hV.ty _ _ hde)
       have he1:=he.1
       rw [hdd] at he1
       unfold DS at h
       split at h
       ·rename_i n1 xs n2 ys
        split at h
        ·rename_i hn
         obtain ⟨rfl,rfl⟩:=hn
         cases h
         obtain ⟨cx',hx',rfl⟩:=hx.agg rfl
         obtain ⟨cy',hy',rfl⟩:=hy.agg rfl
         rw [aQ] at hx' hy'
         have ex:cx'=(xs:List Bool).map Value.bool:=D4 hx'.2
         have ey:cy'=(ys:List Bool).map Value.bool:=D4 hy'.2
         rw [ex,ey]
         obtain ⟨m',rfl⟩:∃ m',m=m'+1:=⟨m - 1,by omega⟩
         exact oZ w m' t el _ hu he1 (fun w=>by rw [bR he];rw [hc.2]) xs ys hx'.1 hy'.1
        ·cases h
       ·cases h
      ·cases h
     ·cases h
    ·cases h
   ·cases h
  ·cases h
theorem JU {n:Nat} {t:TypeId} {x y:AV} {b:Bool} (h:M7 E n t x y=some b):
  (dM x=true∧dM y=true)∨(∃ p q,x=.bool p∧y=.bool q)∨(∃ k p q,x=.int k p∧y=.int k q)∨(∃ p q,x=.str p∧y=.str q):=by
 cases n with
 | zero=>cases h
 | succ n=>
  simp only [M7] at h
  split at h
  ·split at h
   ·split at h
    ·exact .inr (.inl ⟨_,_,rfl,rfl⟩)
    ·cases h
   ·split at h
    ·split at h
     ·rename_i e;subst e;exact .inr (.inr (.inl ⟨_,_,_,rfl,rfl⟩))
     ·cases h
    ·cases h
   ·split at h
    ·exact .inr (.inr (.inr ⟨_,_,rfl,rfl⟩))
    ·cases h
   ·split at h
    ·rename_i hc;exact .inl ⟨hc.1,hc.2.1⟩
    ·cases h
   ·split at h
    ·split at h
     ·split at h
      ·unfold DS at h
       split at h
       ·exact .inl ⟨rfl,rfl⟩
       ·cases h
      ·cases h
     ·cases h
    ·cases h
   ·cases h
  ·cases h
theorem Ov {n:Nat} {t:TypeId} {k:IntKind} {p q:Int} {b:Bool} (h:M7 E n t (.int k p) (.int k q)=some b):b=(p==q):=by
 cases n with
 | zero=>cases h
 | succ n=>
  simp only [M7] at h
  split at h
  ·split at h
   ·cases h
   ·simp only [if_true,Option.some.injEq] at h;exact h.symm
   ·cases h
   ·split at h
    ·rename_i hc;cases hc.1
    ·cases h
   ·split at h
    ·split at h
     ·split at h
      ·simp [DS] at h
      ·cases h
     ·cases h
    ·cases h
   ·cases h
  ·cases h
theorem Ou {n:Nat} {t:TypeId} {p q:ByteArray} {b:Bool} (h:M7 E n t (.str p) (.str q)=some b):b=(p==q):=by
 cases n with
 | zero=>cases h
 | succ n=>
  simp only [M7] at h
  split at h
  ·split at h
   ·cases h
   ·cases h
   ·simp only [Option.some.injEq] at h;exact h.symm
   ·split at h
    ·rename_i hc;cases hc.1
    ·cases h
   ·split at h
    ·split at h
     ·split at h
      ·simp [DS] at h
      ·cases h
     ·cases h
    ·cases h
   ·cases h
  ·cases h
theorem HC {P:Program} {t:TypeId} {cx cy:Value} {b:Bool} (h:(Op.equal t cx cy).run P w=.ok b w) (hs:(∃ xs ys,cx=.agg xs∧cy=.agg ys)∨(∃ p q,cx=.bool p∧cy=.bool q)):
  (binOp .eql t cx cy).run P w=.ok (.bool b) w∧(binOp .neq t cx cy).run P w=.ok (.bool (!b)) w:=by
 rcases hs with ⟨xs,ys,rfl,rfl⟩ | ⟨p,q,rfl,rfl⟩<;>
  exact ⟨by simp only [binOp,Sem.run_bind,h,Result.andThen,Sem.run_pure],by simp only [binOp,Sem.run_bind,h,Result.andThen,Sem.run_pure]⟩
theorem OG (hV:E.Valid) {op:BinOp} {t:TypeId} {x y v:AV} {cx cy:Value} (h:SF E op t x y=some v) (hx:au ι x cx) (hy:au ι y cy) (xo yo:Operand):
  ∃ c,(do eqGuard op t xo yo cx cy;binOp op t cx cy:Sem Value).run E.P w=.ok c w∧au ι v c:=by
 unfold SF at h
 split at h
 ·rename_i b hb
  split at h
  ·rename_i hg
   have heq:(Op.equal t cx cy).run E.P w=.ok b w:=MB hV (w:=w) 100 10000 t x y b cx cy hb (by decide) hx hy
   have key:(eqGuard op t xo yo cx cy).run E.P w=.ok () w∧(binOp .eql t cx cy).run E.P w=.ok (.bool b) w∧(binOp .neq t cx cy).run E.P w=.ok (.bool (!b)) w:=by
    rcases JU hb with ⟨hag,hay⟩ | ⟨p,q,rfl,rfl⟩ | ⟨k,p,q,rfl,rfl⟩ | ⟨p,q,rfl,rfl⟩
    ·rw [hag] at hg
     obtain ⟨xs,_,rfl⟩:=hx.agg hag
     obtain ⟨ys,_,rfl⟩:=hy.agg hay
     exact ⟨run_eqGuard_agg w op t xo yo _ _ (by simpa using hg),HC heq (.inl ⟨_,_,rfl,rfl⟩)⟩
    ·rw [hx.bool,hy.bool] at heq ⊢
     exact ⟨by rw [eqGuard_at_bool];rfl,HC heq (.inr ⟨_,_,rfl,rfl⟩)⟩
    ·rw [hx.int,hy.int] at heq ⊢
     have hbb:b=(p==q):=Ov hb
     subst hbb
     refine ⟨by rw [eqGuard_at_int];rfl,?_,?_⟩
     ·rw [binOp_eql];rfl
     ·rw [binOp_neq];rfl
    ·rw [hx.str,hy.str] at heq ⊢
     have hbb:b=(p==q):=Ou hb
     subst hbb
     exact ⟨by rw [eqGuard_at_string];rfl,by simp [binOp,Op.stringOp,beq_toListBytes],by simp [binOp,Op.stringOp,beq_toListBytes]⟩
   obtain ⟨k1,k2,k3⟩:=key
   split at h
   ·cases h
    exact ⟨.bool b,by simp only [Sem.run_bind,k1,Result.andThen,k2],dP _⟩
   ·cases h
    exact ⟨.bool (!b),by simp only [Sem.run_bind,k1,Result.andThen,k3],dP _⟩
   ·cases h
  ·cases h
 ·cases h
theorem kY {v:AV} {c:Value} (h:b5 ι v c):au ι v c:=by
 cases v
 case lM vs=>unfold b5 at h;simp only [dM,Bool.false_eq_true,if_false] at h;rw [aQ] at h;exact h.elim
 case any=>trivial
 case ns=>trivial
 all_goals exact h
theorem BQ {o:Nat} {c:Value} (h:au ι (.mp o) c):∃ b z,ι.a6[o]?=some (b,z)∧c=.map (some b):=by
 have:=h.one rfl rfl;rw [aQ] at this
 obtain ⟨b,z,e,k⟩:=this
 exact ⟨b,z,e,by simpa using k⟩
theorem sj {k0 kk:IntKind} {n:Int}:∀ {es:List (AV×AV)} {ents:List MapEntry} (i:Nat),a4 (fun (e:AV×AV) (c:MapEntry)=>b5 ι e.1 c.key∧b5 ι e.2 c.val) es ents→wO kk n es=true→
  Instr.findNow (.int k0) (.int kk n) ents i=some none
 | [],_,_,h,_=>by cases h;rfl
 | e :: es,_,i,h,hn=>by
  obtain ⟨c,m,rfl,h1,h2⟩:=h.cons_inv
  simp only [wO,List.all_cons,Bool.and_eq_true] at hn
  obtain ⟨hn1,hn2⟩:=hn
  split at hn1
  ·rename_i k' n' he
   simp only [Bool.and_eq_true,decide_eq_true_eq,Bool.not_eq_true'] at hn1
   obtain ⟨rfl,hne⟩:=hn1
   rw [he] at h1
   have hkey:c.key=.int kk n':=au.int (ι:=ι) ((fq rfl).2 h1.1)
   unfold Instr.findNow
   rw [hkey]
   have:Instr.sameNow (.int k0) (.int kk n) (.int kk n')=some false:=by
    simp only [Instr.sameNow,if_true]
    exact congrArg some hne
   rw [this]
   exact sj (i+1) h2 hn2
  ·cases hn1
theorem fg {P:Program} {kt:TypeId} {k0 kk:IntKind} {n:Int} (hk:P.underlying kt=some (.int k0)) (b:Bool):(Instr.checkKey b 10000 kt (.int kk n)).run P w=.ok () w:=by
 have:∀ d,(Instr.checkKey b (d+1) kt (.int kk n)).run P w=.ok () w:=fun d=>by
  simp only [Instr.checkKey,Sem.run_bind,run_underlying hk,Result.andThen];rfl
 exact this 9999
theorem yq {P:Program} {t kt et:TypeId} {k0 kk:IntKind} {n:Int} {o:Nat} {es:List (AV×AV)} {v:AV} {cm cv:Value} (ht:P.underlying t=some (.map kt et)) (hk:P.underlying kt=some (.int k0))
  (r:aR ι H w) (ho:H[o]?=some (.map es)) (hm:au ι (.mp o) cm) (hv:au ι v cv) (hnt:pn v=true) (hn:wO kk n es=true):
  ∃ w',(Instr.mapUpdate t cm (.int kk n) cv).run P w=.ok () w'∧aR ι (H.set o (.map (es++[(.int kk n,v)]))) w':=by
 obtain ⟨b,z,hb,rfl⟩:=BQ hm
 obtain ⟨ents,clock,hh,hes⟩:=r.obj _ _ _ _ ho hb
 have hlt:b < w.heap.size:=(r.own _ _ _ _ ho rfl hb).2.1
 have hget:(getObj b).run P w=.ok (.map ents clock) w:=by
  simp [getObj,Sem.run,hh]
 refine ⟨w.putObj b (.map (ents.push {key:=.int kk n,val:=cv,born:=clock}) (clock+1)),?_,?_⟩
 ·have hfk:(Instr.findKey kt (.int kk n) ents.toList).run P w=.ok none w:=by
   simp only [Instr.findKey,Sem.run_bind,run_underlying hk,Result.andThen,sj (k0:=k0) 0 hes hn]
   rfl
  simp only [Instr.mapUpdate,Sem.run_bind,run_underlying ht,Result.andThen,hget,fg hk,hfk]
  simp [setObj,Sem.run,hh,World.putObj]
 ·refine r.xW ho rfl hb (fun k hk'=>?_) (by simp [World.putObj]) rfl rfl rfl ⟨ents.push {key:=.int kk n,val:=cv,born:=clock},clock+1,?_,?_⟩
  ·simp only [World.putObj]
   rw [Array.getElem?_setIfInBounds_ne (by omega)]
  ·simp only [World.putObj]
   rw [Array.getElem?_setIfInBounds_self_of_lt hlt]
  ·rw [Array.toList_push]
   exact hes.app (.cons ⟨jo rfl (by rw [aQ]),(fq hnt).1 hv⟩ .nil)
theorem ym {k0 kk:IntKind} {n:Int} {z:AV} {go:AV→Bool→Prop}:∀ {es:List (AV×AV)} {ents:List MapEntry} (i:Nat),a4 (fun (e:AV×AV) (c:MapEntry)=>b5 ι e.1 c.key∧b5 ι e.2 c.val) es ents→jY n kk z go es→
  (∃ v c j,go v true∧b5 ι v c∧Instr.findNow (.int k0) (.int kk n) ents i=some (some (j,c)))∨(go z false∧Instr.findNow (.int k0) (.int kk n) ents i=some none)
 | [],_,_,h,hl=>by cases h;exact .inr ⟨hl,rfl⟩
 | e :: es,_,i,h,hl=>by
  obtain ⟨c,m,rfl,h1,h2⟩:=h.cons_inv
  simp only [jY] at hl
  split at hl
  ·rename_i k' n' he
   split at hl
   ·rename_i hkk;subst hkk
    rw [he] at h1
    have hkey:c.key=.int kk n':=au.int (ι:=ι) ((fq rfl).2 h1.1)
    have hs:Instr.sameNow (.int k0) (.int kk n) (.int kk n')=some (ak n n'):=by
     simp only [Instr.sameNow,if_true];rfl
    cases hq:ak n n' with
    | true=>
     rw [hq] at hl hs
     refine .inl ⟨e.2,c.val,i,hl,h1.2,?_⟩
     unfold Instr.findNow
     rw [hkey,hs]
    | false=>
     rw [hq] at hl hs
     have ih:=ym (k0:=k0) (i+1) h2 hl
     unfold Instr.findNow
     rw [hkey,hs]
     exact ih
   ·exact hl.elim
  ·exact hl.elim
theorem oC {n:Int} {k:IntKind} {z:AV} {go:AV→Bool→Prop}:∀ {es:List (AV×AV)} {v:AV} {fl:Bool},wP n k z es=some (v,fl)→go v fl→jY n k z go es
 | [],_,_,h,hg=>by cases h;exact hg
 | e :: es,v,fl,h,hg=>by
  simp only [wP] at h
  simp only [jY]
  split at h
  ·rename_i k' n' v' b' he hm
   split at h
   ·rename_i hc
    obtain ⟨rfl,hs⟩:=hc
    cases h
    rw [he]
    simp only [if_true]
    cases hq:ak n n' with
    | true=>
     rw [hq] at hg
     have:nP true e.2 v'=e.2:=by
      unfold KD at hs
      split at hs
      ·rename_i e1
       simp only [decide_eq_true_eq] at hs;subst hs;rw [e1];simp [nP]
      ·rename_i e1
       rw [e1];simp [nP]
      ·cases hs
     rw [this] at hg
     exact hg
    | false=>
     rw [hq] at hg
     have:nP false e.2 v'=v':=by
      unfold KD at hs
      split at hs
      ·rename_i e1
       simp only [decide_eq_true_eq] at hs;subst hs;rw [e1];simp [nP]
      ·rename_i e1
       rw [e1];simp [nP]
      ·cases hs
     rw [this] at hg
     exact oC hm hg
   ·cases h
  ·cases h
theorem G9 {n:Int} {k:IntKind} {z:AV} {go:AV→Bool→Prop}:∀ {es:List (AV×AV)},jY n k z go es→∃ v fl,r8 n k z es=some (v,fl)∧go v fl
 | [],h=>⟨z,false,rfl,h⟩
 | e :: es,h=>by
  simp only [jY] at h
  split at h
  ·rename_i k' n' he
   split at h
   ·rename_i hk
    cases hb:ak n n' with
    | true=>rw [hb] at h;exact ⟨e.2,true,by simp only [r8,he,if_pos hk,hb,cond_true],h⟩
    | false=>
     rw [hb] at h
     obtain ⟨v,fl,h1,h2⟩:=G9 (es:=es) h
     exact ⟨v,fl,by simp only [r8,he,if_pos hk,hb,cond_false,h1],h2⟩
   ·cases h
  ·cases h
theorem Ha {n:Int} {k:IntKind} {z:AV} {v:AV} {fl:Bool}:∀ {es:List (AV×AV)},r8 n k z es=some (v,fl)→jY n k z (fun v' fl'=>v'=v∧fl'=fl) es
 | [],h=>by
  simp only [r8,Option.some.injEq,Prod.mk.injEq] at h
  exact h
 | e :: es,h=>by
  simp only [r8] at h
  simp only [jY]
  split at h
  ·rename_i k' n' he
   split at h
   ·rename_i hk
    rw [if_pos hk]
    cases hb:ak n n' with
    | true=>
     rw [hb] at h
     simp only [cond_true,Option.some.injEq,Prod.mk.injEq] at h ⊢
     exact h
    | false=>
     rw [hb] at h
     simp only [cond_false] at h ⊢
     exact Ha (es:=es) h
   ·cases h
  ·cases h
theorem yl {P:Program} {t kt et:TypeId} {k0 kk:IntKind} {n:Int} {o:Nat} {de:bG} {es:List (AV×AV)} {cm:Value} {go:AV→Bool→Prop} {ok:Bool} (ht:P.underlying t=some (.map kt et)) (hk:P.underlying kt=some (.int k0)) (he:de.ok P et)
  (r:aR ι H w) (ho:H[o]?=some (.map es)) (hm:au ι (.mp o) cm) (hl:jY n kk de.zero go es):
  ∃ v fl c,go v fl∧au ι (jX ok v fl) c∧(Instr.lookup t cm (.int kk n) ok).run P w=.ok c w:=by
 obtain ⟨b,z,hb,rfl⟩:=BQ hm
 obtain ⟨ents,clock,hh,hes⟩:=r.obj _ _ _ _ ho hb
 have hget:(getObj b).run P w=.ok (.map ents clock) w:=by
  simp [getObj,Sem.run,hh]
 have mk:∀ {v:AV} {c:Value} (fl:Bool),b5 ι v c→au ι (jX ok v fl) (if ok then .tuple #[c,.bool fl] else c):=by
  intro v c fl hr
  cases ok with
  | true=>exact ⟨[c,.bool fl],rfl,.cons hr (.cons (jo rfl (by rw [aQ])) .nil)⟩
  | false=>exact kY hr
 rcases ym (k0:=k0) 0 hes hl with ⟨v,c,j,hg,hr,hf⟩ | ⟨hg,hf⟩
 ·refine ⟨v,true,_,hg,mk true hr,?_⟩
  simp only [Instr.lookup,Sem.run_bind,run_underlying ht,Result.andThen,hget,Sem.run_pure,fg hk,Instr.findKey,run_underlying hk,hf]
 ·obtain ⟨zc,hz,hzr⟩:=jr he w
  refine ⟨de.zero,false,_,hg,mk false (hzr ι),?_⟩
  simp only [Instr.lookup,Sem.run_bind,run_underlying ht,Result.andThen,hget,Sem.run_pure,fg hk,Instr.findKey,run_underlying hk,hf,hz]
def OP (e:Int×Int) (c:MapEntry):Prop:=c.key=.int .i64 e.1∧c.val=.int .i64 e.2
theorem Gn {k0:IntKind} {n:Int}:∀ {xs:List (Int×Int)} {ents:List MapEntry} (i:Nat),a4 OP xs ents→
  (Gg n xs=true∧∃ j,Instr.findNow (.int k0) (.int .i64 n) ents i=some (some (i+j,.int .i64 (gk n xs)))∧(∃ e0,ents[j]?=some e0∧e0.key=.int .i64 n)∧
   ∀ m,a4 OP (nH n m xs) (ents.modify j fun e=>{e with key:=.int .i64 n,val:=.int .i64 m}))∨
  (Gg n xs=false∧gk n xs=0∧Instr.findNow (.int k0) (.int .i64 n) ents i=some none∧∀ m clock,a4 OP (nH n m xs) (ents++[{key:=.int .i64 n,val:=.int .i64 m,born:=clock}]))
 | [],_,_,h=>by cases h;exact .inr ⟨rfl,rfl,rfl,fun m clock=>.cons ⟨rfl,rfl⟩ .nil⟩
 | e :: xs,_,i,h=>by
  obtain ⟨c,m,rfl,h1,h2⟩:=h.cons_inv
  have hs:Instr.sameNow (.int k0) (.int .i64 n) c.key=some (ak n e.1):=by
   rw [h1.1]
   simp only [Instr.sameNow,if_true];rfl
  cases hq:ak n e.1 with
  | true=>
   rw [hq] at hs
   refine .inl ⟨by simp only [Gg,hq,cond_true],0,?_,⟨c,rfl,?_⟩,fun m'=>?_⟩
   ·unfold Instr.findNow
    rw [hs]
    simp only [gk,hq,cond_true,h1.2,Nat.add_zero]
   ·have:n=e.1:=by simpa [ak] using hq
    rw [h1.1,this]
   ·simp only [nH,hq,cond_true,List.modify_zero_cons]
    exact .cons ⟨rfl,rfl⟩ h2
  | false=>
   rw [hq] at hs
   rcases Gn (k0:=k0) (n:=n) (i+1) h2 with ⟨g1,j,g2,⟨e0,g3,g4⟩,g5⟩ | ⟨g1,g0,g2,g3⟩
   ·refine .inl ⟨by simp only [Gg,hq,cond_false];exact g1,j+1,?_,⟨e0,g3,g4⟩,fun m'=>?_⟩
    ·unfold Instr.findNow
     rw [hs]
     simp only [g2,gk,hq,cond_false]
     rw [show i+1+j=i+(j+1) by omega]
    ·simp only [nH,hq,cond_false,List.modify_succ_cons]
     exact .cons h1 (g5 m')
   ·refine .inr ⟨by simp only [Gg,hq,cond_false];exact g1,by simp only [gk,hq,cond_false];exact g0,?_,fun m' clock=>?_⟩
    ·unfold Instr.findNow
     rw [hs]
     exact g2
    ·simp only [nH,hq,cond_false,List.cons_append]
     exact .cons h1 (g3 m' clock)
theorem CV (hV:E.Valid) {t kt et:TypeId} {kk:IntKind} {n:Int} {o:Nat} {xs:List (Int×Int)} {cm:Value} {ok:Bool} {q:List Prop} {v:AV} {H':av} (ht:E.P.underlying t=some (.map kt et))
  (r:aR ι H w) (ho:H[o]?=some (.kh xs)) (hm:au ι (.mp o) cm) (h:oD E kt et kk n ok xs H=some (q,v,H')):
  q=[]∧H'=H∧∃ c,au ι v c∧(Instr.lookup t cm (.int kk n) ok).run E.P w=.ok c w:=by
 unfold oD at h
 split at h
 ·rename_i dk de hdk hde
  split at h
  ·rename_i k0 k z hkd hz
   split at h
   ·rename_i hc
    obtain ⟨rfl,rfl,rfl⟩:=hc
    simp only [Option.some.injEq,Prod.mk.injEq] at h;obtain ⟨rfl,rfl,rfl⟩:=h
    refine ⟨rfl,rfl,?_⟩
    have hk:=(hV.ty _ _ hdk).1
    rw [hkd] at hk
    obtain ⟨b,z,hb,rfl⟩:=BQ hm
    obtain ⟨ents,clock,hh,hes⟩:=r.obj _ _ _ _ ho hb
    have hget:(getObj b).run E.P w=.ok (.map ents clock) w:=by
     simp [getObj,Sem.run,hh]
    have mk:∀ {v:AV} {c:Value} (fl:Bool),b5 ι v c→au ι (jX ok v fl) (if ok then .tuple #[c,.bool fl] else c):=by
     intro v c fl hr
     cases ok with
     | true=>exact ⟨[c,.bool fl],rfl,.cons hr (.cons (jo rfl (by rw [aQ])) .nil)⟩
     | false=>exact kY hr
    rcases Gn (k0:=k0) (n:=n) 0 hes with ⟨g1,j,g2,_,_⟩ | ⟨g1,g0,g2,_⟩
    ·rw [g1]
     refine ⟨_,mk true (jo (c:=.int .i64 (gk n xs)) rfl (by rw [aQ])),?_⟩
     simp only [Instr.lookup,Sem.run_bind,run_underlying ht,Result.andThen,hget,Sem.run_pure,fg hk,Instr.findKey,run_underlying hk,g2]
    ·rw [g1,g0]
     obtain ⟨zc,hzr,hzz⟩:=jr (hV.ty _ _ hde) w
     have hz0:b5 ι (.int .i64 0) zc:=by have:=hzz ι;rw [hz] at this;exact this
     refine ⟨_,mk false hz0,?_⟩
     simp only [Instr.lookup,Sem.run_bind,run_underlying ht,Result.andThen,hget,Sem.run_pure,fg hk,Instr.findKey,run_underlying hk,g2,hzr]
   ·cases h
  ·cases h
 ·cases h
theorem NZ (hV:E.Valid) {t kt et:TypeId} {kk:IntKind} {n:Int} {o:Nat} {xs:List (Int×Int)} {u v:AV} {cm cv:Value} {q:List Prop} {H':av} (ht:E.P.underlying t=some (.map kt et))
  (r:aR ι H w) (ho:H[o]?=some (.kh xs)) (hm:au ι (.mp o) cm) (hv:au ι u cv) (h:Mf E kt kk n u xs o H=some (q,v,H')):
  v=.undef∧∃ w',(Instr.mapUpdate t cm (.int kk n) cv).run E.P w=.ok () w'∧aR ι H' w':=by
 unfold Mf at h
 split at h
 ·rename_i dk hdk
  split at h
  ·rename_i k0 k m hkd
   split at h
   ·rename_i hc
    obtain ⟨rfl,rfl⟩:=hc
    simp only [Option.some.injEq,Prod.mk.injEq] at h;obtain ⟨rfl,rfl,rfl⟩:=h
    refine ⟨rfl,?_⟩
    have hk:=(hV.ty _ _ hdk).1
    rw [hkd] at hk
    have hv:=hv.int;subst hv
    obtain ⟨b,z,hb,rfl⟩:=BQ hm
    obtain ⟨ents,clock,hh,hes⟩:=r.obj _ _ _ _ ho hb
    have hlt:b < w.heap.size:=(r.own _ _ _ _ ho rfl hb).2.1
    have hget:(getObj b).run E.P w=.ok (.map ents clock) w:=by
     simp [getObj,Sem.run,hh]
    have fin:∀ (ents':Array MapEntry) (clock':Nat),a4 OP (nH n m xs) ents'.toList→aR ι (H.set o (.kh (nH n m xs))) (w.putObj b (.map ents' clock')):=by
     intro ents' clock' hA
     refine r.xW ho rfl hb (fun k hk'=>?_) (by simp [World.putObj]) rfl rfl rfl ⟨ents',clock',?_,hA⟩
     ·simp only [World.putObj]
      rw [Array.getElem?_setIfInBounds_ne (by omega)]
     ·simp only [World.putObj]
      rw [Array.getElem?_setIfInBounds_self_of_lt hlt]
    rcases Gn (k0:=k0) (n:=n) 0 hes with ⟨g1,j,g2,⟨e0,g3,g4⟩,g5⟩ | ⟨g1,g0,g2,g3⟩
    ·refine ⟨w.putObj b (.map (ents.modify j fun e=>{e with key:=.int .i64 n,val:=.int .i64 m}) clock),?_,fin _ _ (by rw [Array.toList_modify];exact g5 m)⟩
     have hfk:(Instr.findKey kt (.int .i64 n) ents.toList).run E.P w=.ok (some (j,.int .i64 (gk n xs))) w:=by
      simp only [Instr.findKey,Sem.run_bind,run_underlying hk,Result.andThen,g2,Nat.zero_add]
      rfl
     have g3':ents[j]?=some e0:=by simpa using g3
     have hst:(Instr.keyThatStays (((ents[j]?).map (·.key)).getD (.int .i64 n)) (.int .i64 n)).run E.P w=.ok (.int .i64 n) w:=by
      rw [g3']
      simp only [Option.map_some,Option.getD_some,g4,Instr.keyThatStays]
      have:Instr.sameBits 10000 (.int .i64 n) (.int .i64 n)=true:=by
       rw [Instr.sameBits];simp
      rw [this];rfl
     simp only [Instr.mapUpdate,Sem.run_bind,run_underlying ht,Result.andThen,hget,fg hk,hfk,hst]
     simp [setObj,Sem.run,hh,World.putObj]
    ·refine ⟨w.putObj b (.map (ents.push {key:=.int .i64 n,val:=.int .i64 m,born:=clock}) (clock+1)),?_,fin _ _ (by rw [Array.toList_push];exact g3 m clock)⟩
     have hfk:(Instr.findKey kt (.int .i64 n) ents.toList).run E.P w=.ok none w:=by
      simp only [Instr.findKey,Sem.run_bind,run_underlying hk,Result.andThen,g2]
      rfl
     simp only [Instr.mapUpdate,Sem.run_bind,run_underlying ht,Result.andThen,hget,fg hk,hfk]
     simp [setObj,Sem.run,hh,World.putObj]
   ·cases h
  ·cases h
 ·cases h
end Go.bz
end
section
namespace Go.bz
open Go.RowKit
variable {E:Env} {ι:aD} {T:List AV} {H:av} {a:Act} {w:World}
theorem hZ {c:TC} {x:AV} {q:List Prop} {ys:List c.den} {cx:Value} (h:lZ c H x=some (q,ys)) (hq:holds q) (r:aR ι H w) (hx:au ι x cx):
  ∃ l:List Value,bX (bO ι c) ys l∧((ys=[]∧(cx=.slice none 0 0∨∃ a,cx=.slice (some a) 0 0))∨∃ b off k,cx=.slice (some ⟨b,off,none⟩) ys.length k∧∀ j u,l[j]?=some u→w.cell? ((⟨b,off,none⟩:Addr).add j)=some u):=by
 unfold lZ at h
 split at h
 ·rename_i c' xs
  split at h
  ·rename_i e;subst e
   simp only [Option.some.injEq,Prod.mk.injEq] at h;obtain ⟨_,rfl⟩:=h
   rcases Bl hx with ⟨rfl,h0⟩ | ⟨b,off,k,cells,t,fz,l,rfl,hk,hp,hr,hat⟩
   ·exact ⟨[],.nil,.inl ⟨rfl,h0⟩⟩
   ·exact ⟨l,hr,.inr ⟨b,off,k,rfl,fun j u e=>by rw [dJ,cell_of (r.a5 _ _ hp)];exact hat j u e⟩⟩
  ·cases h
 ·simp only [Option.some.injEq,Prod.mk.injEq] at h;obtain ⟨_,rfl⟩:=h
  exact ⟨[],.nil,.inl ⟨rfl,.inl hx.raw⟩⟩
 ·rename_i o p s off len cap
  split at h
  ·rename_i own t v ho
   split at h
   ·rename_i q' n c' xs hg
    split at h
    ·rename_i e;subst e
     split at h
     ·rename_i hsz
      simp only [Option.some.injEq,Prod.mk.injEq] at h;obtain ⟨rfl,rfl⟩:=h
      rw [bJ] at hq
      obtain ⟨hq1,hq2,_⟩:=hq
      obtain ⟨b,z,kk,hb,rfl,hk,hkz,_⟩:=gx hx
      obtain ⟨cells,fz,l,rr,e1,e2,e3,e4,e5⟩:=(r.obj _ _ _ _ ho hb).cell
      obtain ⟨l1,m,l2,el,el1,hu,_⟩:=fe p v l q' _ hg hq1 e4
      rw [aQ] at hu
      obtain ⟨hn,hr⟩:=hu
      obtain ⟨m1,m2,em,em1,hr1,hr2⟩:=hr.split (a7 c') off (by omega)
      obtain ⟨k1,k2,ek,ek1,hs1,hs2⟩:=hr2.split (a7 c') len (by simp;omega)
      have hlen:((xs.drop off).take len).length=len:=by simp;omega
      refine ⟨k1,hs1,.inr ⟨b,aJ p+off * s,kk,by rw [hlen],fun j u e=>?_⟩⟩
      rw [dJ,cell_of e1]
      have:aJ p+off * s=(l1++m1).length:=by simp [el1,em1,hsz]
      rw [this]
      exact At.xJ (l2:=k2++l2++rr) (by rw [e2,el,em,ek];simp) j u e
     ·cases h
    ·cases h
   ·cases h
  ·cases h
 ·cases h
theorem nW {P:Program} {t:TypeId} {d:bG} (h:d.ok P t):∃ i z,P.info? t=some i∧i.size=d.size∧i.bytes=d.bytes∧i.zero=some z∧z.cells.size=d.size:=by
 obtain ⟨_,i,z,h1,h2,h3,h4,h5,_,h6⟩:=h
 refine ⟨i,z,h1,h2,h3,h4,?_⟩
 have:=(h5 ⟨default,fun _=>none,⟨[]⟩⟩).cells
 rw [← Array.length_toList,fH _ _ this,h6]
theorem MO {xs:List Int} {l:List Value} (h:bX (bO ι (.int .u8)) xs l):l=xs.map (Value.int .u8):=by
 induction h with
 | nil=>rfl
 | cons h1 _ ih=>rw [show _=_ from h1,ih];rfl
theorem GH (hV:E.Valid) {src dst:TypeId} {s d:bG} {v u:AV} {c:Value} (hs:s.ok E.P src) (hd:d.ok E.P dst) (h:Ng E s d v=some u) (r:∀ b o,ι.a5 b=some o→w.heap[b]?=some o) (hx:au ι v c):
  ∃ c',(convert src dst c).run E.P w=.ok c' w∧∀ ι',au ι' u c':=by
 have hs1:=hs.1
 have hd1:=hd.1
 unfold Ng at h
 split at h
 ·rename_i e hse hde
  rw [hse] at hs1
  rw [hde] at hd1
  split at h
  ·rename_i de he
   have he1:=(hV.ty _ _ he).1
   split at h
   ·rename_i hk
    rw [hk] at he1
    split at h
    ·rename_i xs
     cases h
     rcases Bl hx with ⟨rfl,rfl | ⟨a0,rfl⟩⟩ | ⟨b,off,k,cells,t,fz,l,rfl,_,hp,hr,hat⟩
     ·exact ⟨_,run_convert_bytes_nil w src e hs1 he1 0 0 dst hd1,fun _=>kX _⟩
     ·exact ⟨_,run_convert_bytes_arg w src e hs1 he1 a0.block a0.off 0 0 [] rfl (fun i hi=>by omega) dst hd1 |> fun h=>by
       rw [run_convert_bytes_string w src dst e _ 0 0 hs1 he1 hd1]
       exact run_bytesToString w a0 0 0 [] (by simp [loadCells,loadCellsFrom]),fun _=>kX _⟩
     ·have hl:=MO hr
      refine ⟨_,run_convert_bytes_arg w src e hs1 he1 b off xs.length k xs rfl (fun i hi=>?_) dst hd1,fun _=>kX _⟩
      rw [cell_of (r _ _ hp)]
      refine hat i _ ?_
      rw [hl]
      simp [List.getD,List.getElem?_eq_getElem hi]
    ·cases h
     have hc:=hx.raw;subst hc
     exact ⟨_,run_convert_bytes_nil w src e hs1 he1 0 0 dst hd1,fun _=>kX _⟩
    ·cases h
   ·cases h
  ·cases h
 ·cases h
theorem rW {α:Type} (xs:List α) (i:Nat):fE xs i []=xs:=by simp [fE]
theorem OB {P:Program} {ts:Array TypeId} {t1 ty e:TypeId} {de:bG} {d x v:AV} {q:List Prop} {H':av} {cd cx:Value} (h0:ts[0]?=some t1) (hu:P.underlying t1=some (.slice e)) (he:de.ok P e) (h:MK de.size H d x=some (q,v,H')) (hq:holds q) (r:aR ι H w)
  (hd:au ι d cd) (hx:au ι x cx):∃ w' u,(Builtin.copy_ ts ty #[cd,cx]).run P w=.ok u w'∧aR ι H' w'∧au ι v u:=by
 unfold MK at h
 split at h
 case h_2=>cases h
 rename_i ob s off len cap
 split at h
 case h_2=>cases h
 rename_i t m c xs hob
 split at h
 case h_2=>cases h
 rename_i q1 ys happ
 split at h
 case isFalse=>cases h
 rename_i hsz
 obtain ⟨hs1,hs2⟩:=hsz
 subst hs1
 simp only [Option.some.injEq,Prod.mk.injEq] at h
 obtain ⟨rfl,rfl,rfl⟩:=h
 rw [bJ] at hq
 obtain ⟨hq1,hm,_⟩:=hq
 obtain ⟨l,hl,hcx⟩:=hZ happ hq1 r hx
 obtain ⟨b,z,k,hbk,rfl,hk,hkz,_⟩:=gx hd
 obtain ⟨cells,fz,lo,rr,e1,e2,e3,e4,e5⟩:=(r.obj _ _ _ _ hob hbk).cell
 have e5:=e5 rfl;subst e5
 rw [aQ] at e4
 obtain ⟨hxs,hr⟩:=e4
 obtain ⟨_,i,zv,hi,hsi,_⟩:=he
 rcases hcx with ⟨rfl,hcx⟩ | ⟨b2,off2,k2,rfl,hcells⟩
 ·refine ⟨w,.int .i64 0,?_,?_,by simpa using dC _ _⟩
  ·rcases hcx with rfl | ⟨a0,rfl⟩
   ·simp [Builtin.copy_,h0,run_underlying hu,sizeOf,typeInfo,hi,Builtin.lenOf,Builtin.firstCells,storeCells,goInt]
   ·simp [Builtin.copy_,h0,run_underlying hu,sizeOf,typeInfo,hi,Builtin.lenOf,Builtin.firstCells,loadCells,loadCellsFrom,storeCells,goInt]
  ·refine r.xW (z:=z) hob rfl hbk (fun _ _=>rfl) rfl rfl rfl rfl ⟨cells,(0,0),lo,rr,e1,e2,e3,?_,by simp⟩
   rw [aQ,List.take_nil,rW];exact ⟨hxs,hr⟩
 ·obtain ⟨l1,l2,el,el1,hr1,_⟩:=hl.split (a7 c) (Nat.min ys.length len) (Nat.min_le_left _ _)
  have htk:ys.take (Nat.min ys.length len)=ys.take len:=by
   rcases Nat.le_total ys.length len with hle | hle
   ·rw [show Nat.min ys.length len=ys.length from Nat.min_eq_left hle,List.take_of_length_le (Nat.le_refl _),List.take_of_length_le hle]
   ·rw [show Nat.min ys.length len=len from Nat.min_eq_right hle]
  rw [htk] at hr1
  have hnl:(ys.take len).length=Nat.min ys.length len:=by rw [List.length_take];exact Nat.min_comm _ _
  have hmin:Nat.min ys.length len≤len:=Nat.min_le_right _ _
  obtain ⟨m1,m2,em,em1,hm1,hm2⟩:=hr.split (a7 c) off (by omega)
  obtain ⟨k1,k3,ek,ek1,_,hk2⟩:=hm2.split (a7 c) (Nat.min ys.length len) (by simp;omega)
  have hf:=run_firstCells_some (P:=P) w i.size (Nat.min ys.length len) ⟨b2,off2,none⟩ ys.length k2 l1 (by rw [hsi,hs2];exact el1) (fun j v hj=>hcells j v (by
   rw [el,List.getElem?_append_left (List.getElem?_eq_some_iff.1 hj).1];exact hj))
  have hlen:off * c.size+l1.length≤cells.size:=by
   rw [el1,← Array.length_toList,e2,em,ek];simp [em1,ek1]
  have hst:=run_storeCells_at P b (off * c.size) t l1 0 cells w e1 (by simpa using hlen) (hr1.mem (fun x m h=>ib c x m h))
  simp only [Nat.add_zero] at hst
  have hp0:aJ []+off * c.size=off * c.size:=by simp [aJ]
  refine ⟨w.setRow b (cells.toList.take (off * c.size)++l1++cells.toList.drop (off * c.size+l1.length)).toArray,goInt (Nat.min ys.length len),?_,?_,dC _ _⟩
  ·simp [Builtin.copy_,h0,run_underlying hu,sizeOf,typeInfo,hi,Builtin.lenOf,hf,hp0,hst]
  ·have hcs:cells.toList.take (off * c.size)++l1++cells.toList.drop (off * c.size+l1.length)=(m1++(l1++k3))++rr:=by
    have a1:off * c.size=m1.length:=em1.symm
    have a2:l1.length=k1.length:=by rw [el1,ek1]
    rw [a1,a2,e2,em,ek]
    simp only [List.append_assoc]
    rw [List.take_left' rfl,← List.length_append,← List.append_assoc m1 k1,List.drop_left' rfl]
   refine r.xW (z:=z) hob rfl hbk (fun k hk=>setRow_other w b k _ hk) (by simp) rfl rfl rfl
    ⟨_,(0,0),m1++(l1++k3),rr,setRow_heap w b cells _ t _ e1,by rw [hcs],?_,?_,by simp⟩
   ·have hz:cells.toList.length=z:=by rw [Array.length_toList];exact e3
    rw [e2,em,ek] at hz
    rw [hcs,← hz];simp;omega
   ·rw [aQ]
    refine ⟨?_,?_⟩
    ·simp [fE];omega
    ·unfold fE
     refine hm1.app (hr1.app ?_)
     rw [hnl,← List.drop_drop]
     exact hk2
theorem NV {P:Program} {t e:TypeId} {de:bG} {l c v:AV} {q:List Prop} {H':av} {cl cc:Value} (hu:P.underlying t=some (.slice e)) (he:de.ok P e) (h:G8 e de H l c=some (q,v,H')) (hq:holds q) (r:aR ι H w)
  (hl:au ι l cl) (hc:au ι c cc):∃ ι' w' u,(Instr.makeSlice t cl cc).run P w=.ok u w'∧Ext ι ι'∧aR ι' H' w'∧au ι' v u:=by
 unfold G8 at h
 split at h
 case h_2=>cases h
 rename_i kl l kc c
 split at h
 case h_2=>cases h
 rename_i tc hcode
 split at h
 case h_2=>cases h
 rename_i z hz
 split at h
 case isFalse=>cases h
 rename_i hsz
 simp only [Option.some.injEq,Prod.mk.injEq] at h
 obtain ⟨rfl,rfl,rfl⟩:=h
 obtain ⟨q1,q2,q3,q4,_⟩:=hq
 rw [hl.int,hc.int]
 obtain ⟨hdesc,i,zv,hi,hsi,hby,hzv,hzr,hrest⟩:=he
 have hzl:∀ ι,bO ι tc z zv.cells.toList:=fun ι=>by
  have:=(hzr ι).cells
  exact eD.1 (eD.2 (nz hz this))
 obtain ⟨n,rfl⟩:∃ n:Nat,c=n:=⟨c.toNat,by omega⟩
 have hb:(i.bytes:Int) * (n:Int)≤281474976710656:=by
  rw [← Int.natCast_mul,hby,Nat.mul_comm]
  simp only [Int.toNat_natCast] at q4
  omega
 have hrun:=run_make (P:=P) w t e i zv hu hi hzv kl kc l n q1 q2 hb (by omega)
 have hzs:zv.cells.size=de.size:=by rw [← Array.length_toList,a7 _ _ _ (hzl ι),hsz]
 have hcl:(madeCells zv.cells (n * i.size)).toList=(List.replicate n zv.cells.toList).flatten:=by
  unfold madeCells
  rw [hsi,← hzs]
  simpa using fO zv.cells n
 have hE:=Ext.add ι w.heap.size (n * i.size)
 simp only [Int.toNat_natCast] at hrun ⊢
 refine ⟨ι.add w.heap.size (n * i.size),_,_,hrun,hE,?_,?_⟩
 ·refine r.alloc (.cells _ e) (n * i.size) _ ⟨_,(0,0),(List.replicate n zv.cells.toList).flatten,[],heap_alloc_new,by rw [hcl];simp,size_madeCells _ _,?_,by simp⟩
  rw [aQ]
  exact ⟨by simp,cL (hzl _) n⟩
 ·refine aC rfl ?_
  rw [aQ]
  refine ⟨w.heap.size,n * i.size,n,by rw [r.len];exact ι.fh _ _,by simp [aJ],by omega,by simp [aJ,hsi],by simp⟩
end Go.bz
end
section
namespace Go.bz
open Go.RowKit
variable {E:Env} {ι:aD} {T:List AV} {H:av} {a:Act} {w:World}
def aD.all (ι:aD) (w:World):aD:={ι with a5:=fun b=>w.heap[b]?}
def Seen (ι ι':aD) (w:World) (H:av) (os:List Nat):Prop:=∀ o∈os,∀ own t v b z,H[o]?=some (.cell own t v)→ι.a6[o]?=some (b,z)→ι'.a5 b=w.heap[b]?
mutual
theorem yN (r:aR ι H w) {ι':aD} (hE:Sub ι ι'):∀ (v u:AV) (q:List Prop) (cs:List Value),Seen ι ι' w H (j0 v)→view H v=some (q,u)→holds q→aQ ι v cs→aQ ι' u cs
 | .ptr o p,u,q,cs,hs,h,hq,k=>by
  simp only [view] at h
  split at h
  ·rename_i own t v ho
   split at h
   ·rename_i q' u' hg
    simp only [Option.some.injEq,Prod.mk.injEq] at h;obtain ⟨rfl,rfl⟩:=h
    rw [aQ] at k
    obtain ⟨b,z,hb,rfl⟩:=k
    obtain ⟨cells,fz,l,rr,e1,e2,e3,e4,e5⟩:=(r.obj _ _ _ _ ho hb).cell
    obtain ⟨l1,m,l2,el,el1,hu,_⟩:=fe p v l q' u' hg hq e4
    rw [aQ]
    refine ⟨b,aJ p,cells,t,fz,m,rfl,?_,b6 hE _ _ hu,?_⟩
    ·rw [hs o (by simp [j0]) own t v b z ho hb,e1]
    ·rw [← el1];exact At.xJ (l2:=l2++rr) (by rw [e2,el];simp)
   ·cases h
  ·cases h
 | .bw o p s off len cap,u,q,cs,hs,h,hq,k=>by
  simp only [view] at h
  split at h
  ·rename_i own t v ho
   split at h
   ·rename_i q' n c xs hg
    split at h
    ·rename_i hsz
     simp only [Option.some.injEq,Prod.mk.injEq] at h;obtain ⟨rfl,rfl⟩:=h
     rw [bJ] at hq
     obtain ⟨hq1,hq2,_⟩:=hq
     rw [aQ] at k
     obtain ⟨b,z,kk,hb,rfl,hk,hkz,_⟩:=k
     obtain ⟨cells,fz,l,rr,e1,e2,e3,e4,e5⟩:=(r.obj _ _ _ _ ho hb).cell
     obtain ⟨l1,m,l2,el,el1,hu,_⟩:=fe p v l q' _ hg hq1 e4
     rw [aQ] at hu
     obtain ⟨hn,hr⟩:=hu
     obtain ⟨m1,m2,em,em1,hr1,hr2⟩:=hr.split (a7 c) off (by omega)
     obtain ⟨k1,k2,ek,ek1,hs1,hs2⟩:=hr2.split (a7 c) len (by simp;omega)
     rw [aQ]
     refine ⟨_,rfl,.inr ⟨b,aJ p+off * s,kk,cells,t,fz,k1,?_,?_,?_,hs1.mono (fun x l=>cn hE c x l),?_⟩⟩
     ·simp;omega
     ·simp;omega
     ·rw [hs o (by simp [j0]) own t v b z ho hb,e1]
     ·have:aJ p+off * s=(l1++m1).length:=by simp [el1,em1,hsz]
      rw [this]
      exact At.xJ (l2:=k2++l2++rr) (by rw [e2,el,em,ek];simp)
    ·cases h
   ·simp only [Option.some.injEq,Prod.mk.injEq] at h;obtain ⟨_,rfl⟩:=h
    rw [aQ]
    exact p8 rfl k
   ·cases h
  ·cases h
 | .agg ss vs,u,q,cs,hs,h,hq,k=>by
  simp only [view] at h
  split at h
  ·rename_i q' us hv
   simp only [Option.some.injEq,Prod.mk.injEq] at h;obtain ⟨rfl,rfl⟩:=h
   rw [aQ] at k ⊢
   exact xU r hE vs us q' ss cs hs hv hq k
  ·cases h
 | .int _ _,_,_,_,_,h,_,k=>by simp only [view,Option.some.injEq,Prod.mk.injEq] at h;obtain ⟨_,rfl⟩:=h;exact b6 hE _ _ k
 | .bool _,_,_,_,_,h,_,k=>by simp only [view,Option.some.injEq,Prod.mk.injEq] at h;obtain ⟨_,rfl⟩:=h;exact b6 hE _ _ k
 | .str _,_,_,_,_,h,_,k=>by simp only [view,Option.some.injEq,Prod.mk.injEq] at h;obtain ⟨_,rfl⟩:=h;exact b6 hE _ _ k
 | .raw _,_,_,_,_,h,_,k=>by simp only [view,Option.some.injEq,Prod.mk.injEq] at h;obtain ⟨_,rfl⟩:=h;exact b6 hE _ _ k
 | .arr _ _ _,_,_,_,_,h,_,k=>by simp only [view,Option.some.injEq,Prod.mk.injEq] at h;obtain ⟨_,rfl⟩:=h;exact b6 hE _ _ k
 | .lM _,_,_,_,_,_,_,k=>by rw [aQ] at k;exact k.elim
 | .any,_,_,_,_,_,_,k=>by rw [aQ] at k;exact k.elim
 | .ns _,_,_,_,_,_,_,k=>by rw [aQ] at k;exact k.elim
 | .bC,_,_,_,_,h,_,k=>by simp only [view,Option.some.injEq,Prod.mk.injEq] at h;obtain ⟨_,rfl⟩:=h;exact b6 hE _ _ k
 | .ref _,_,_,_,_,h,_,k=>by simp only [view,Option.some.injEq,Prod.mk.injEq] at h;obtain ⟨_,rfl⟩:=h;exact b6 hE _ _ k
 | .gf _ _,_,_,_,_,h,_,k=>by simp only [view,Option.some.injEq,Prod.mk.injEq] at h;obtain ⟨_,rfl⟩:=h;exact b6 hE _ _ k
 | .fn _ _,_,_,_,_,h,_,k=>by simp only [view,Option.some.injEq,Prod.mk.injEq] at h;obtain ⟨_,rfl⟩:=h;exact b6 hE _ _ k
 | .yJ _ _,_,_,_,_,h,_,k=>by simp only [view,Option.some.injEq,Prod.mk.injEq] at h;obtain ⟨_,rfl⟩:=h;exact b6 hE _ _ k
 | .ik _,_,_,_,_,h,_,k=>by simp only [view,Option.some.injEq,Prod.mk.injEq] at h;obtain ⟨_,rfl⟩:=h;exact b6 hE _ _ k
 | .row _ _ _,_,_,_,_,h,_,k=>by simp only [view,Option.some.injEq,Prod.mk.injEq] at h;obtain ⟨_,rfl⟩:=h;exact b6 hE _ _ k
 | .mp _,_,_,_,_,h,_,k=>by simp only [view,Option.some.injEq,Prod.mk.injEq] at h;obtain ⟨_,rfl⟩:=h;exact b6 hE _ _ k
theorem xU (r:aR ι H w) {ι':aD} (hE:Sub ι ι'):∀ (vs us:List AV) (q:List Prop) (ss:List Nat) (cs:List Value),Seen ι ι' w H (cW vs)→views H vs=some (q,us)→holds q→cH ι ss vs cs→cH ι' ss us cs
 | [],us,q,ss,cs,_,h,_,k=>by
  simp only [views,Option.some.injEq,Prod.mk.injEq] at h;obtain ⟨_,rfl⟩:=h
  rw [cH] at k ⊢;exact k
 | v :: vs,us,q,ss,cs,hs,h,hq,k=>by
  simp only [views] at h
  split at h
  ·rename_i q1 u1 q2 us2 h1 h2
   simp only [Option.some.injEq,Prod.mk.injEq] at h;obtain ⟨rfl,rfl⟩:=h
   rw [bJ] at hq
   rw [cH] at k ⊢
   obtain ⟨s,ss',l,m,e1,e2,e3,k1,k2⟩:=k
   exact ⟨s,ss',l,m,e1,e2,e3,yN r hE v u1 q1 l (fun o ho=>hs o (by simp [cW,ho])) h1 hq.1 k1,
    xU r hE vs us2 q2 ss' m (fun o ho=>hs o (by simp [cW,ho])) h2 hq.2 k2⟩
  ·cases h
end
theorem Kl (v u:AV) (q:List Prop) (h:view H v=some (q,u)):dM u=dM v:=by
 cases v with
 | ptr o p=>
  simp only [view] at h
  split at h
  ·split at h
   ·simp only [Option.some.injEq,Prod.mk.injEq] at h;rw [← h.2];rfl
   ·cases h
  ·cases h
 | bw o p s off len cap=>
  simp only [view] at h
  split at h
  ·split at h
   ·split at h
    ·simp only [Option.some.injEq,Prod.mk.injEq] at h;rw [← h.2];rfl
    ·cases h
   ·simp only [Option.some.injEq,Prod.mk.injEq] at h;rw [← h.2];rfl
   ·cases h
  ·cases h
 | agg ss vs=>
  simp only [view] at h
  split at h
  ·simp only [Option.some.injEq,Prod.mk.injEq] at h;rw [← h.2];rfl
  ·cases h
 | _=>simp only [view,Option.some.injEq,Prod.mk.injEq] at h;rw [← h.2]
theorem u3 (r:aR ι H w) {ι':aD} (hE:Sub ι ι') {v u:AV} {q:List Prop} {c:Value} (hs:Seen ι ι' w H (j0 v)) (h:view H v=some (q,u)) (hq:holds q) (k:au ι v c):au ι' u c:=by
 by_cases hnt:pn v=true
 case neg=>
  cases v<;>first | exact absurd rfl hnt | skip
  all_goals
   simp only [view,Option.some.injEq,Prod.mk.injEq] at h;obtain ⟨_,rfl⟩:=h
   exact lL hE k
 case pos=>
  have hag:=Kl _ _ _ h
  cases ha:dM v with
  | true=>
   obtain ⟨cs,hr,rfl⟩:=k.agg ha
   exact fT (hag.trans ha) (yN r hE _ _ _ _ hs h hq hr)
  | false=>exact aC (hag.trans ha) (yN r hE _ _ _ _ hs h hq (k.one ha hnt))
theorem jw (r:aR ι H w) {ι':aD} (hE:Sub ι ι'):∀ (vs us:List AV) (q:List Prop) (cs:List Value),Seen ι ι' w H (cW vs)→views H vs=some (q,us)→holds q→a4 (au ι) vs cs→a4 (au ι') us cs
 | [],us,q,cs,_,h,_,k=>by
  simp only [views,Option.some.injEq,Prod.mk.injEq] at h;obtain ⟨_,rfl⟩:=h
  cases k;exact .nil
 | v :: vs,us,q,cs,hs,h,hq,k=>by
  simp only [views] at h
  split at h
  ·rename_i q1 u1 q2 us2 h1 h2
   simp only [Option.some.injEq,Prod.mk.injEq] at h;obtain ⟨rfl,rfl⟩:=h
   rw [bJ] at hq
   obtain ⟨c,cs',rfl,k1,k2⟩:=k.cons_inv
   exact .cons (u3 r hE (fun o ho=>hs o (by simp [cW,ho])) h1 hq.1 k1) (jw r hE vs us2 q2 cs' (fun o ho=>hs o (by simp [cW,ho])) h2 hq.2 k2)
  ·cases h
theorem gC:∀ (os:List Nat) {ι:aD} {H H':av} {w:World},eu H os=some H'→aR ι H w→
  ∃ ι',Ext ι ι'∧aR ι' H' w∧(∀ (o:Nat),(∃ t v,H[o]?=some (aV.cell false t v))→∃ t v,H'[o]?=some (aV.cell false t v))∧∀ o∈os,∃ t v,H'[o]?=some (aV.cell false t v)
 | [],ι,H,H',w,h,r=>by
  simp only [eu,Option.some.injEq] at h;subst h
  exact ⟨ι,Ext.refl ι,r,fun _ h=>h,by simp⟩
 | o :: os,ι,H,H',w,h,r=>by
  simp only [eu] at h
  split at h
  ·rename_i own t v ho
   have hlt:=(List.getElem?_eq_some_iff.1 ho).1
   have step:∃ ι1,Ext ι ι1∧aR ι1 (H.set o (.cell false t v)) w:=by
    cases own with
    | true=>
     obtain ⟨b,z,hb⟩:=r.gm ho
     obtain ⟨hE,hR⟩:=r.freeze ho hb
     exact ⟨_,hE,hR⟩
    | false=>
     have:H.set o (.cell false t v)=H:=by
      apply List.ext_getElem?
      intro i
      rw [List.getElem?_set]
      split
      ·rename_i e;subst e;simp [ho]
      ·rfl
     exact ⟨ι,Ext.refl ι,by rw [this];exact r⟩
   obtain ⟨ι1,hE1,hR1⟩:=step
   obtain ⟨ι2,hE2,hR2,hk,hos⟩:=gC os h hR1
   refine ⟨ι2,hE1.trans hE2,hR2,fun o' ho'=>hk o' ?_,fun o' ho'=>?_⟩
   ·by_cases hoo:o=o'
    ·subst hoo;exact ⟨t,v,by simp [hlt]⟩
    ·obtain ⟨t',v',e⟩:=ho';exact ⟨t',v',by rw [List.getElem?_set_ne hoo];exact e⟩
   ·rcases List.mem_cons.1 ho' with rfl | ho'
    ·exact hk _ ⟨t,v,by simp [hlt]⟩
    ·exact hos _ ho'
  ·cases h
theorem H9 {ps ps':List (Nat×AV)} {q:List Prop} {H':av} {cl:List (Nat×Value)} (h:settle H ps=some (q,ps',H')) (hq:holds q) (r:aR ι H w)
  (hl:a4 (fun (x:Nat×AV) (y:Nat×Value)=>x.1=y.1∧au ι x.2 y.2) ps cl):
  ∃ ι',Ext ι ι'∧aR ι' H' w∧a4 (fun (x:Nat×AV) (y:Nat×Value)=>x.1=y.1∧au ι' x.2 y.2) ps' cl:=by
 unfold settle at h
 split at h
 ·simp only [Option.some.injEq,Prod.mk.injEq] at h;obtain ⟨_,rfl,rfl⟩:=h
  exact ⟨ι,Ext.refl ι,r,hl⟩
 ·split at h
  ·rename_i H1 hf
   split at h
   ·rename_i q' us hv
    simp only [Option.some.injEq,Prod.mk.injEq] at h;obtain ⟨rfl,rfl,rfl⟩:=h
    obtain ⟨ι1,hE1,r1,_,hfr⟩:=gC _ hf r
    have hseen:Seen ι1 ι1 w H1 (cW (ps.map (·.2))):=by
     intro o ho own t v b z e1 e2
     obtain ⟨t',v',e⟩:=hfr o ho
     rw [e1] at e;cases e
     obtain ⟨cells,fz,l,rr,k1,k2,k3,k4,k5⟩:=r1.obj _ _ _ _ e1 e2
     have k5:ι1.a5 b=some (.cells cells t fz):=k5
     rw [k5,k1]
    have h2:∀ {ps:List (Nat×AV)} {cl:List (Nat×Value)},a4 (fun (x:Nat×AV) (y:Nat×Value)=>x.1=y.1∧au ι x.2 y.2) ps cl→a4 (au ι) (ps.map (·.2)) (cl.map (·.2)):=by
     intro ps cl k
     induction k with
     | nil=>exact .nil
     | cons h1 _ ih=>exact .cons h1.2 ih
    have h3:=jw r1 (ι':=ι1) ⟨fun _ _ _ _ h=>h,fun _ _ h=>h⟩ _ us q' _ hseen hv hq (a4.imp (fun _ _=>cU hE1) (h2 hl))
    refine ⟨ι1,hE1,r1,?_⟩
    clear hv hseen hfr hf
    have h4:∀ {ps:List (Nat×AV)} {cl:List (Nat×Value)} {us:List AV},a4 (fun (x:Nat×AV) (y:Nat×Value)=>x.1=y.1∧au ι x.2 y.2) ps cl→a4 (au ι1) us (cl.map (·.2))→
      a4 (fun (x:Nat×AV) (y:Nat×Value)=>x.1=y.1∧au ι1 x.2 y.2) ((ps.map (·.1)).zip us) cl:=by
     intro ps cl us k
     induction k generalizing us with
     | nil=>intro k;cases k;exact .nil
     | cons h1 _ ih=>intro k;cases k with | cons k1 k2=>exact .cons ⟨h1.1,k1⟩ (ih k2)
    exact h4 hl h3
   ·cases h
  ·cases h
end Go.bz
end
