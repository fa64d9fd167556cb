/- A part of the proof that the laws of this seat hold. Conditions: none beyond the row. -/
import Derived.RangeFuncRecord
import Derived.RangeFuncCalls
import Derived.Below
import Derived.Laws.BytesArg
import Derived.Orders
import Derived.Laws.Cells
import Derived.Laws.CopyRow
import Derived.Laws.Entries
import Derived.Calls
import Derived.Laws.StructEq
import Derived.Laws.MakeOwn
import Derived.Laws.AppendOwn
import Derived.KernelRfl
import Derived.TacticsIn
import Derived.RangeFuncLeaves
import Derived.Lib.Overlaps
import Derived.Scope
import Derived.WideKeyArgs
import Derived.Deep.Slices
import Derived.OpenShut
import Derived.Lib.AppendZerosOnto
import Derived.OrdersIn
import Derived.Still
set_option maxRecDepth 100000
set_option linter.unusedVariables false
set_option linter.unusedSimpArgs false
set_option linter.unusedSectionVars false
section
namespace Go.aA
open Go.RowKit
inductive TC where
 | int (k:IntKind) | bool | str | unit
 | st (a r:TC) | a7 (a:TC)
 | slice (c:TC) | arr (n:Nat) (c:TC) | ref (c:TC) | a8
 deriving DecidableEq
@[reducible] def TC.den:TC→Type
 | .int _=>Int | .bool=>Bool | .str=>ByteArray | .unit=>Unit
 | .st a r=>a.den×r.den | .a7 a=>a.den
 | .slice c=>List c.den | .arr _ c=>List c.den | .ref c=>c.den | .a8=>Unit
def TC.gN:(c:TC)→c.den
 | .int _=>(0:Int) | .bool=>false | .str=>ByteArray.empty | .unit=>()
 | .st a r=>(a.gN,r.gN) | .a7 a=>a.gN
 | .slice _=>[] | .arr n c=>List.replicate n c.gN | .ref c=>c.gN | .a8=>()
def TC.size:TC→Nat
 | .int _=>1 | .bool=>1 | .str=>1 | .unit=>0
 | .st a r=>a.size+r.size | .a7 a=>a.size
 | .slice _=>1 | .arr n c=>n * c.size | .ref _=>1 | .a8=>1
def TC.hZ:TC→List Nat
 | .st a r=>a.size :: r.hZ
 | c=>[match c with | .a7 a=>a.size | c=>c.size]
def eX (c:TC) (xs:List c.den) (i:Nat):c.den:=xs.getD i c.gN
inductive Step where
 | Px (off i:Nat)
 | idx (s i:Nat)
def Step.off:Step→Nat
 | .Px off _=>off
 | .idx s i=>i * s
def aw:List Step→Nat
 | []=>0
 | s :: p=>s.off+aw p
inductive AV where
 | int (k:IntKind) (n:Int)
 | bool (b:Bool)
 | str (s:ByteArray)
 | raw (v:Value)
 | agg (ss:List Nat) (vs:List AV)
 | arr (n:Nat) (c:TC) (xs:List c.den)
 | nk (vs:List AV)
 | ptr (o:Nat) (p:List Step)
 | ref (v:AV)
 | dA (c:TC) (xs:List c.den)
 | aS (o:Nat) (p:List Step) (s off len:Nat) (cap:Option Nat)
 | fn (f:FuncId) (caps:List AV)
 | jl (l:Nat)
 | mp (o:Nat)
 | any
 | oW (o:Nat)
 | a8
 | yO (f:FuncId) (fs:List AV)
 | row (o s n:Nat)
instance:Inhabited AV:=⟨.nk []⟩
def AV.undef:AV:=.nk []
def TC.both:(c:TC)→c.den→AV×List AV
 | .int k,n=>(.int k n,[.int k n])
 | .bool,b=>(.bool b,[.bool b])
 | .str,s=>(.str s,[.str s])
 | .unit,_=>(.agg [] [],[.agg [] []])
 | .st a r,x=>let l:=(a.both x.1).1 :: (r.both x.2).2;(.agg (TC.st a r).hZ l,l)
 | .a7 a,x=>let l:=[(a.both x).1];(.agg [a.size] l,l)
 | .slice c,xs=>(.dA c xs,[.dA c xs])
 | .arr n c,xs=>(.arr n c xs,[.arr n c xs])
 | .ref c,x=>(.ref (c.both x).1,[.ref (c.both x).1])
 | .a8,_=>(.a8,[.a8])
def qO:AV→Bool
 | .agg _ _=>false
 | .arr _ _ _=>false
 | .nk _=>false
 | .any=>false
 | .oW _=>false
 | _=>true
def tN (c:TC) (x:c.den):AV:=(c.both x).1
def oneOf {α:Type} (f:AV→Option α):List AV→Option α
 | [v]=>f v
 | _=>none
def TC.back:(c:TC)→(AV→Option c.den)×(List AV→Option c.den)
 | .int k=>let f:AV→Option Int:=fun v=>match v with | .int k' n=>if k'=k then some n else none | _=>none;(f,oneOf f)
 | .bool=>let f:AV→Option Bool:=fun v=>match v with | .bool b=>some b | _=>none;(f,oneOf f)
 | .str=>let f:AV→Option ByteArray:=fun v=>match v with | .str b=>some b | _=>none;(f,oneOf f)
 | .unit=>let f:AV→Option Unit:=fun v=>match v with | .agg [] []=>some () | _=>none;(f,oneOf f)
 | .st a r=>
  let g:List AV→Option (a.den×r.den):=fun l=>match l with
   | v :: l=>match a.back.1 v with
    | some x=>match r.back.2 l with
     | some y=>some (x,y)
     | none=>none
    | none=>none
   | []=>none
  (fun v=>match v with | .agg ss vs=>if ss=(TC.st a r).hZ then g vs else none | _=>none,g)
 | .a7 a=>(fun v=>match v with | .agg ss vs=>if ss=[a.size] then oneOf a.back.1 vs else none | _=>none,oneOf a.back.1)
 | .slice c=>
  let f:AV→Option (List c.den):=fun v=>match v with
   | .dA c' xs=>if h:c'=c then some (h▸xs) else none
   | .raw (.slice none 0 0)=>some []
   | _=>none
  (f,oneOf f)
 | .arr n c=>
  let f:AV→Option (List c.den):=fun v=>match v with
   | .arr n' c' xs=>if h:c'=c then (if n'=n then some (h▸xs) else none) else none
   | _=>none
  (f,oneOf f)
 | .ref c=>
  let f:AV→Option c.den:=fun v=>match v with
   | .ref u=>c.back.1 u
   | _=>none
  (f,oneOf f)
 | .a8=>let f:AV→Option Unit:=fun v=>if qO v=true then some () else none;(f,oneOf f)
def toD (c:TC) (v:AV):Option c.den:=c.back.1 v
structure Blk where
 l:List (Option (Nat×Nat))
def Blk.get? (b:Blk) (i:Nat):Option (Nat×Nat):=(b.l[i]?).join
instance:GetElem? Blk Nat (Nat×Nat) (fun b i=>(b.get? i).isSome=true) where
 getElem b i h:=(b.get? i).get h
 getElem? b i:=b.get? i
def Blk.length (b:Blk):Nat:=b.l.length
def Blk.push (b:Blk) (x:Nat×Nat):Blk:=⟨b.l++[some x]⟩
theorem Blk.jB (b:Blk) (i:Nat):b[i]?=(b.l[i]?).join:=rfl
theorem Blk.lt {b:Blk} {i:Nat} {x:Nat×Nat} (h:b[i]?=some x):i < b.length:=by
 rw [Blk.jB] at h
 unfold Blk.length
 rcases Nat.lt_or_ge i b.l.length with hi | hi
 ·exact hi
 ·rw [List.getElem?_eq_none hi] at h;cases h
theorem Blk.lu {b:Blk} {i:Nat} {x:Nat×Nat} (h:i < b.length):(b.push x)[i]?=b[i]?:=by
 rw [Blk.jB,Blk.jB];unfold Blk.push;rw [List.getElem?_append_left h]
theorem Blk.qL {b:Blk} {x:Nat×Nat}:(b.push x)[b.length]?=some x:=by
 rw [Blk.jB];unfold Blk.push Blk.length;simp
theorem Blk.sU {b:Blk} {x:Nat×Nat}:(b.push x).length=b.length+1:=by
 unfold Blk.push Blk.length;simp
structure aq where
 w0:World
 aM:Nat→Option Obj
 bB:Blk
def At (cells:Array Value) (off:Nat) (l:List Value):Prop:=∀ j v,l[j]?=some v→cells[off+j]?=some v
inductive bV {α:Type} (R:α→List Value→Prop):List α→List Value→Prop where
 | nil:bV R [] []
 | cons {x:α} {xs:List α} {l m:List Value} (h:R x l) (t:bV R xs m):bV R (x :: xs) (l++m)
def bD (ι:aq):(c:TC)→c.den→List Value→Prop
 | .int k,n,cs=>cs=[.int k n]
 | .bool,b,cs=>cs=[.bool b]
 | .str,s,cs=>cs=[.string s]
 | .unit,_,cs=>cs=[]
 | .st a r,x,cs=>∃ l m,cs=l++m∧bD ι a x.1 l∧bD ι r x.2 m
 | .a7 a,x,cs=>bD ι a x cs
 | .slice c,xs,cs=>∃ v,cs=[v]∧((xs=[]∧(v=.slice none 0 0∨∃ a,v=.slice (some a) 0 0))∨
   ∃ b off k cells t fz l,v=.slice (some ⟨b,off,none⟩) xs.length k∧xs.length≤k∧ι.aM b=some (.cells cells t fz)∧bV (bD ι c) xs l∧At cells off l)
 | .arr n c,xs,cs=>xs.length=n∧bV (bD ι c) xs cs
 | .ref c,x,cs=>∃ b off cells t fz l,cs=[.pointer (some ⟨b,off,none⟩)]∧ι.aM b=some (.cells cells t fz)∧bD ι c x l∧At cells off l
 | .a8,_,cs=>∃ v,cs=[v]∧v.oneCell'=true
def dJ:AV→Bool
 | .agg _ _=>true
 | .arr _ _ _=>true
 | _=>false
mutual
def aD (ι:aq):AV→List Value→Prop
 | .int k n,cs=>cs=[.int k n]
 | .bool b,cs=>cs=[.bool b]
 | .str s,cs=>cs=[.string s]
 | .raw v,cs=>cs=[v]∧v.oneCell'=true
 | .agg ss vs,cs=>cA ι ss vs cs
 | .arr n c xs,cs=>bD ι (.arr n c) xs cs
 | .nk _,_=>False
 | .any,_=>False
 | .oW _,_=>False
 | .a8,cs=>∃ v,cs=[v]∧v.oneCell'=true
 | .ptr o p,cs=>∃ b z,ι.bB[o]?=some (b,z)∧cs=[.pointer (some ⟨b,aw p,none⟩)]
 | .ref v,cs=>∃ b off cells t fz l,cs=[.pointer (some ⟨b,off,none⟩)]∧ι.aM b=some (.cells cells t fz)∧aD ι v l∧At cells off l
 | .dA c xs,cs=>bD ι (.slice c) xs cs
 | .aS o p s off len cap,cs=>∃ b z k,ι.bB[o]?=some (b,z)∧cs=[.slice (some ⟨b,aw p+off * s,none⟩) len k]∧len≤k∧aw p+(off+k) * s≤z∧(∀ k',cap=some k'→k=k')
 | .fn f caps,cs=>caps.all (fun v=>!dJ v)=true∧∃ l,cs=[.func (.func f) #[] l.toArray]∧cA ι (List.replicate caps.length 1) caps l
 | .yO f fs,cs=>fs.all (fun v=>!dJ v)=true∧∃ l,cs=[.func (.func f) l.toArray #[]]∧cA ι (List.replicate fs.length 1) fs l
 | .jl l,cs=>∃ b z,ι.bB[l]?=some (b,z)∧cs=[.func (.yield b) #[] #[]]
 | .mp o,cs=>∃ b z,ι.bB[o]?=some (b,z)∧cs=[.map (some b)]
 | .row o s n,cs=>∃ b z v,ι.bB[o]?=some (b,z)∧cs=[v]∧((n=0∧v=.slice none 0 0)∨(0 < n∧∃ k,v=.slice (some ⟨b,0,none⟩) n k∧n≤k∧k * s≤z))
def cA (ι:aq):List Nat→List AV→List Value→Prop
 | ss,[],cs=>ss=[]∧cs=[]
 | ss,v :: vs,cs=>∃ s ss' l m,ss=s :: ss'∧cs=l++m∧l.length=s∧aD ι v l∧cA ι ss' vs m
end
end Go.aA
end
section
namespace Go.aA
open Go.RowKit
structure Sub (ι ι':aq):Prop where
 aM:∀ b cells t fz,ι.aM b=some (.cells cells t fz)→ι'.aM b=some (.cells cells t fz)
 bB:∀ (i:Nat) x,ι.bB[i]?=some x→ι'.bB[i]?=some x
structure Ext (ι ι':aq):Prop where
 w0:ι'.w0=ι.w0
 aM:∀ b o,ι.aM b=some o→ι'.aM b=some o
 bB:∀ (i:Nat) x,ι.bB[i]?=some x→ι'.bB[i]?=some x
 gh:∀ b,b < ι.w0.heap.size→ι'.aM b=ι.aM b
theorem Ext.sub {ι ι':aq} (h:Ext ι ι'):Sub ι ι':=⟨fun b _ _ _ e=>h.aM b _ e,h.bB⟩
theorem Ext.refl (ι:aq):Ext ι ι:=⟨rfl,fun _ _ h=>h,fun _ _ h=>h,fun _ _=>rfl⟩
theorem Ext.trans {a b c:aq} (h:Ext a b) (k:Ext b c):Ext a c:=
 ⟨k.w0.trans h.w0,fun x o e=>k.aM x o (h.aM x o e),fun i x e=>k.bB i x (h.bB i x e),fun x hx=>(k.gh x (by rw [h.w0];exact hx)).trans (h.gh x hx)⟩
theorem bV.mono {α:Type} {R R':α→List Value→Prop} (h:∀ x l,R x l→R' x l) {xs:List α} {l:List Value} (k:bV R xs l):bV R' xs l:=by
 induction k with
 | nil=>exact .nil
 | cons h1 _ ih=>exact .cons (h _ _ h1) ih
theorem bV.app {α:Type} {R:α→List Value→Prop} {xs ys:List α} {l m:List Value} (h:bV R xs l) (k:bV R ys m):bV R (xs++ys) (l++m):=by
 induction h with
 | nil=>exact k
 | cons h1 _ ih=>rw [List.cons_append,List.append_assoc];exact .cons h1 ih
theorem bV.len {α:Type} {R:α→List Value→Prop} {s:Nat} (hs:∀ x l,R x l→l.length=s) {xs:List α} {l:List Value} (h:bV R xs l):l.length=xs.length * s:=by
 induction h with
 | nil=>simp
 | cons h1 _ ih=>simp [hs _ _ h1,ih,Nat.add_mul,Nat.add_comm]
theorem bV.split {α:Type} {R:α→List Value→Prop} {s:Nat} (hs:∀ x l,R x l→l.length=s) {xs:List α} {l:List Value} (h:bV R xs l):
  ∀ i,i≤xs.length→∃ l1 l2,l=l1++l2∧l1.length=i * s∧bV R (xs.take i) l1∧bV R (xs.drop i) l2:=by
 induction h with
 | nil=>intro i hi;exact ⟨[],[],rfl,by simp at hi;simp [hi],by simpa using .nil,by simpa using .nil⟩
 | cons h1 t ih=>
  intro i hi
  cases i with
  | zero=>exact ⟨[],_,rfl,by simp,by simpa using .nil,by simpa using .cons h1 t⟩
  | succ i=>
   obtain ⟨l1,l2,e,e1,r1,r2⟩:=ih i (by simpa using hi)
   exact ⟨_++l1,l2,by rw [e,List.append_assoc],by simp [hs _ _ h1,e1,Nat.add_mul,Nat.add_comm],by simpa using .cons h1 r1,by simpa using r2⟩
theorem bV.at {α:Type} {R:α→List Value→Prop} {s:Nat} (hs:∀ x l,R x l→l.length=s) {xs:List α} {l:List Value} (h:bV R xs l) (i:Nat) (x:α) (hx:xs[i]?=some x):
  ∃ l1 m l2,l=l1++m++l2∧l1.length=i * s∧R x m∧∀ y m',R y m'→bV R (xs.set i y) (l1++m'++l2):=by
 have hi:=(List.getElem?_eq_some_iff.1 hx).1
 obtain ⟨l1,l2,e,e1,r1,r2⟩:=h.split hs i (by omega)
 have hd:xs.drop i=x :: xs.drop (i+1):=by
  rw [List.drop_eq_getElem_cons hi];rw [(List.getElem?_eq_some_iff.1 hx).2]
 rw [hd] at r2
 cases r2 with
 | cons h1 t=>
  refine ⟨l1,_,_,by rw [e,List.append_assoc],e1,h1,fun y m' hy=>?_⟩
  rw [List.set_eq_take_append_cons_drop,if_pos hi,List.append_assoc]
  exact r1.app (.cons hy t)
theorem cr {ι ι':aq} (h:Sub ι ι'):∀ (c:TC) (x:c.den) (cs:List Value),bD ι c x cs→bD ι' c x cs
 | .int _,_,_,k=>k
 | .bool,_,_,k=>k
 | .str,_,_,k=>k
 | .unit,_,_,k=>k
 | .st a r,_,_,⟨l,m,e,k1,k2⟩=>⟨l,m,e,cr h a _ _ k1,cr h r _ _ k2⟩
 | .a7 a,_,_,k=>cr h a _ _ k
 | .slice _,_,_,⟨v,e,.inl k⟩=>⟨v,e,.inl k⟩
 | .slice c,_,_,⟨v,e,.inr ⟨b,off,kk,cells,t,fz,l,e1,hk,hp,hr,ha⟩⟩=>
  ⟨v,e,.inr ⟨b,off,kk,cells,t,fz,l,e1,hk,h.aM _ _ _ _ hp,hr.mono (fun x l=>cr h c x l),ha⟩⟩
 | .arr _ c,_,_,⟨hn,hr⟩=>⟨hn,hr.mono (fun x l=>cr h c x l)⟩
 | .ref c,_,_,⟨b,off,cells,t,fz,l,e,hp,hr,ha⟩=>⟨b,off,cells,t,fz,l,e,h.aM _ _ _ _ hp,cr h c _ _ hr,ha⟩
 | .a8,_,_,k=>k
theorem aO {ι:aq}:∀ (c:TC) (x:c.den) (cs:List Value),bD ι c x cs→cs.length=c.size
 | .int _,_,_,k=>by rw [show _=_ from k];rfl
 | .bool,_,_,k=>by rw [show _=_ from k];rfl
 | .str,_,_,k=>by rw [show _=_ from k];rfl
 | .unit,_,_,k=>by rw [show _=_ from k];rfl
 | .st a r,_,_,⟨l,m,e,k1,k2⟩=>by rw [e,List.length_append,aO a _ _ k1,aO r _ _ k2];rfl
 | .a7 a,_,_,k=>aO a _ _ k
 | .slice _,_,_,⟨v,e,_⟩=>by rw [e];rfl
 | .arr n c,_,_,⟨hn,hr⟩=>by rw [hr.len (aO c),hn];rfl
 | .ref _,_,_,⟨b,off,cells,t,fz,l,e,_⟩=>by rw [e];rfl
 | .a8,_,_,⟨v,e,_⟩=>by rw [e];rfl
mutual
theorem bY {ι ι':aq} (h:Sub ι ι'):∀ (v:AV) (cs:List Value),aD ι v cs→aD ι' v cs
 | .int _ _,_,k=>by rw [aD] at *;exact k
 | .bool _,_,k=>by rw [aD] at *;exact k
 | .str _,_,k=>by rw [aD] at *;exact k
 | .raw _,_,k=>by rw [aD] at *;exact k
 | .agg _ vs,_,k=>by rw [aD] at *;exact kY h _ vs _ k
 | .arr _ _ _,_,k=>by rw [aD] at *;exact cr h _ _ _ k
 | .nk _,_,k=>by rw [aD] at *;exact k
 | .any,_,k=>by rw [aD] at *;exact k
 | .oW _,_,k=>by rw [aD] at *;exact k
 | .a8,_,k=>by rw [aD] at *;exact k
 | .ptr _ _,_,k=>by rw [aD] at *;obtain ⟨b,z,e,k⟩:=k;exact ⟨b,z,h.bB _ _ e,k⟩
 | .ref v,_,k=>by
  rw [aD] at *;obtain ⟨b,off,cells,t,fz,l,e,hp,hr,ha⟩:=k;exact ⟨b,off,cells,t,fz,l,e,h.aM _ _ _ _ hp,bY h v _ hr,ha⟩
 | .dA _ _,_,k=>by rw [aD] at *;exact cr h _ _ _ k
 | .aS _ _ _ _ _ _,_,k=>by rw [aD] at *;obtain ⟨b,z,kk,e,k⟩:=k;exact ⟨b,z,kk,h.bB _ _ e,k⟩
 | .fn _ caps,_,k=>by rw [aD] at *;obtain ⟨hc,l,e,k⟩:=k;exact ⟨hc,l,e,kY h _ caps _ k⟩
 | .yO _ caps,_,k=>by rw [aD] at *;obtain ⟨hc,l,e,k⟩:=k;exact ⟨hc,l,e,kY h _ caps _ k⟩
 | .jl _,_,k=>by rw [aD] at *;obtain ⟨b,z,e,k⟩:=k;exact ⟨b,z,h.bB _ _ e,k⟩
 | .mp _,_,k=>by rw [aD] at *;obtain ⟨b,z,e,k⟩:=k;exact ⟨b,z,h.bB _ _ e,k⟩
 | .row _ _ _,_,k=>by rw [aD] at *;obtain ⟨b,z,v,e,k⟩:=k;exact ⟨b,z,v,h.bB _ _ e,k⟩
theorem kY {ι ι':aq} (h:Sub ι ι'):∀ (ss:List Nat) (vs:List AV) (cs:List Value),cA ι ss vs cs→cA ι' ss vs cs
 | _,[],_,k=>by rw [cA] at *;exact k
 | _,v :: vs,_,k=>by
  rw [cA] at *;obtain ⟨s,ss',l,m,e1,e2,e3,k1,k2⟩:=k
  exact ⟨s,ss',l,m,e1,e2,e3,bY h v _ k1,kY h ss' vs _ k2⟩
end
theorem xl {ι ι':aq} (h:Ext ι ι'):∀ (v:AV) (cs:List Value),aD ι v cs→aD ι' v cs:=bY h.sub
def nJ:AV→Nat
 | .agg ss _=>ss.sum
 | .arr n c _=>n * c.size
 | .nk _=>0
 | .any=>0
 | .oW _=>0
 | _=>1
theorem Ex {ι:aq}:∀ (vs:List AV) (ss:List Nat) (cs:List Value),cA ι ss vs cs→cs.length=ss.sum
 | [],_,_,k=>by rw [cA] at k;rw [k.1,k.2];rfl
 | v :: vs,_,_,k=>by
  rw [cA] at k;obtain ⟨s,ss',l,m,e1,e2,e3,k1,k2⟩:=k
  rw [e1,e2,List.length_append,e3,Ex vs _ _ k2];simp
theorem gg {ι:aq}:∀ (v:AV) (cs:List Value),aD ι v cs→cs.length=nJ v
 | .int _ _,_,k=>by rw [aD] at k;rw [k];rfl
 | .bool _,_,k=>by rw [aD] at k;rw [k];rfl
 | .str _,_,k=>by rw [aD] at k;rw [k];rfl
 | .raw _,_,k=>by rw [aD] at k;rw [k.1];rfl
 | .agg _ vs,_,k=>by rw [aD] at k;exact Ex vs _ _ k
 | .arr n c _,_,k=>by rw [aD] at k;exact aO (.arr n c) _ _ k
 | .nk _,_,k=>by rw [aD] at k;exact k.elim
 | .any,_,k=>by rw [aD] at k;exact k.elim
 | .oW _,_,k=>by rw [aD] at k;exact k.elim
 | .a8,_,k=>by rw [aD] at k;obtain ⟨v,e,_⟩:=k;rw [e];rfl
 | .ptr _ _,_,k=>by rw [aD] at k;obtain ⟨b,z,e,k⟩:=k;rw [k];rfl
 | .ref v,_,k=>by rw [aD] at k;obtain ⟨b,off,cells,t,fz,l,e,_⟩:=k;rw [e];rfl
 | .dA _ _,_,k=>by rw [aD] at k;obtain ⟨v,e,_⟩:=k;rw [e];rfl
 | .aS _ _ _ _ _ _,_,k=>by rw [aD] at k;obtain ⟨b,z,kk,e,k,_⟩:=k;rw [k];rfl
 | .fn _ caps,_,k=>by rw [aD] at k;obtain ⟨_,l,e,k⟩:=k;rw [e];rfl
 | .yO _ caps,_,k=>by rw [aD] at k;obtain ⟨_,l,e,k⟩:=k;rw [e];rfl
 | .jl _,_,k=>by rw [aD] at k;obtain ⟨b,z,e,k⟩:=k;rw [k];rfl
 | .mp _,_,k=>by rw [aD] at k;obtain ⟨b,z,e,k⟩:=k;rw [k];rfl
 | .row _ _ _,_,k=>by rw [aD] at k;obtain ⟨b,z,v,e,k,_⟩:=k;rw [k];rfl
theorem eW {ι:aq} (s:Nat) (v:AV) (cs:List Value):cA ι [s] [v] cs↔cs.length=s∧aD ι v cs:=by
 simp only [cA]
 constructor
 ·rintro ⟨s',ss',l,m,e1,e2,e3,k1,rfl,rfl⟩
  cases e1;subst e2;simp;exact ⟨e3,k1⟩
 ·rintro ⟨h,k⟩;exact ⟨s,[],cs,[],rfl,by simp,h,k,rfl,rfl⟩
theorem lN {ι:aq}:∀ (c:TC) (x:c.den) (cs:List Value),(aD ι (c.both x).1 cs↔bD ι c x cs)∧(cA ι c.hZ (c.both x).2 cs↔bD ι c x cs)
 | .int k,_,cs=>by
  have h:∀ v,aD ι (.int k v) cs↔bD ι (.int k) v cs:=fun v=>by rw [aD,bD]
  exact ⟨h _,by simp only [TC.both,TC.hZ,eW];rw [h];exact ⟨fun k=>k.2,fun k=>⟨aO _ _ _ k,k⟩⟩⟩
 | .bool,_,cs=>by
  have h:∀ v,aD ι (.bool v) cs↔bD ι .bool v cs:=fun v=>by rw [aD,bD]
  exact ⟨h _,by simp only [TC.both,TC.hZ,eW];rw [h];exact ⟨fun k=>k.2,fun k=>⟨aO _ _ _ k,k⟩⟩⟩
 | .str,_,cs=>by
  have h:∀ v,aD ι (.str v) cs↔bD ι .str v cs:=fun v=>by rw [aD,bD]
  exact ⟨h _,by simp only [TC.both,TC.hZ,eW];rw [h];exact ⟨fun k=>k.2,fun k=>⟨aO _ _ _ k,k⟩⟩⟩
 | .unit,_,cs=>by
  have h:aD ι (.agg [] []) cs↔bD ι .unit () cs:=by rw [aD,bD,cA];simp
  exact ⟨h,by simp only [TC.both,TC.hZ,eW];rw [h];exact ⟨fun k=>k.2,fun k=>⟨aO _ _ _ k,k⟩⟩⟩
 | .st a r,x,cs=>by
  have key:cA ι (TC.st a r).hZ ((TC.st a r).both x).2 cs↔bD ι (.st a r) x cs:=by
   simp only [TC.both,cA,TC.hZ,bD]
   constructor
   ·rintro ⟨s,ss',l,m,e1,e2,e3,k1,k2⟩
    cases e1
    exact ⟨l,m,e2,((lN a x.1 l).1).1 k1,((lN r x.2 m).2).1 k2⟩
   ·rintro ⟨l,m,e,k1,k2⟩
    exact ⟨_,_,l,m,rfl,e,aO _ _ _ k1,((lN a x.1 l).1).2 k1,((lN r x.2 m).2).2 k2⟩
  refine ⟨?_,key⟩
  rw [← key];simp only [TC.both];rw [aD]
 | .a7 a,x,cs=>by
  have key:cA ι (TC.a7 a).hZ ((TC.a7 a).both x).2 cs↔bD ι (.a7 a) x cs:=by
   simp only [TC.both,TC.hZ,eW,bD,(lN a x cs).1]
   exact ⟨fun k=>k.2,fun k=>⟨aO _ _ _ k,k⟩⟩
  refine ⟨?_,key⟩
  rw [← key];simp only [TC.both];rw [aD];rfl
 | .slice c,xs,cs=>by
  have h:aD ι (.dA c xs) cs↔bD ι (.slice c) xs cs:=by rw [aD]
  exact ⟨h,by simp only [TC.both,TC.hZ,eW];rw [h];exact ⟨fun k=>k.2,fun k=>⟨aO (.slice c) _ _ k,k⟩⟩⟩
 | .arr n c,xs,cs=>by
  have h:aD ι (.arr n c xs) cs↔bD ι (.arr n c) xs cs:=by rw [aD]
  exact ⟨h,by simp only [TC.both,TC.hZ,eW];rw [h];exact ⟨fun k=>k.2,fun k=>⟨aO (.arr n c) _ _ k,k⟩⟩⟩
 | .ref c,x,cs=>by
  have h:aD ι (.ref (c.both x).1) cs↔bD ι (.ref c) x cs:=by
   rw [aD];simp only [bD]
   constructor
   ·rintro ⟨b,off,cells,t,fz,l,e,hp,hr,ha⟩;exact ⟨b,off,cells,t,fz,l,e,hp,((lN c x l).1).1 hr,ha⟩
   ·rintro ⟨b,off,cells,t,fz,l,e,hp,hr,ha⟩;exact ⟨b,off,cells,t,fz,l,e,hp,((lN c x l).1).2 hr,ha⟩
  exact ⟨h,by simp only [TC.both,TC.hZ,eW];rw [h];exact ⟨fun k=>k.2,fun k=>⟨aO (.ref c) _ _ k,k⟩⟩⟩
 | .a8,_,cs=>by
  have h:aD ι .a8 cs↔bD ι .a8 () cs:=by rw [aD,bD]
  exact ⟨h,by simp only [TC.both,TC.hZ,eW];rw [h];exact ⟨fun k=>k.2,fun k=>⟨aO .a8 () _ k,k⟩⟩⟩
theorem rQ {ι:aq} {v:AV} {cs:List Value} (h:qO v=true) (k:aD ι v cs):∃ c,cs=[c]∧c.oneCell'=true:=by
 cases v<;>first | (simp [qO] at h;done) | skip
 all_goals rw [aD] at k
 case int=>exact ⟨_,k,by simp [Value.oneCell']⟩
 case bool=>exact ⟨_,k,by simp [Value.oneCell']⟩
 case str=>exact ⟨_,k,by simp [Value.oneCell']⟩
 case raw=>exact ⟨_,k⟩
 case ptr=>obtain ⟨b,z,_,k⟩:=k;exact ⟨_,k,by simp [Value.oneCell']⟩
 case ref=>obtain ⟨b,off,cells,t,fz,l,e,_⟩:=k;exact ⟨_,e,by simp [Value.oneCell']⟩
 case dA=>
  obtain ⟨v,e,k⟩:=k
  refine ⟨v,e,?_⟩
  rcases k with ⟨_,rfl | ⟨a,rfl⟩⟩ | ⟨b,off,kk,cells,t,fz,l,rfl,_⟩<;>simp [Value.oneCell']
 case aS=>obtain ⟨b,z,kk,_,k,_⟩:=k;exact ⟨_,k,by simp [Value.oneCell']⟩
 case fn=>obtain ⟨_,l,k,_⟩:=k;exact ⟨_,k,by simp [Value.oneCell']⟩
 case yO=>obtain ⟨_,l,k,_⟩:=k;exact ⟨_,k,by simp [Value.oneCell']⟩
 case jl=>obtain ⟨b,z,_,k⟩:=k;exact ⟨_,k,by simp [Value.oneCell']⟩
 case mp=>obtain ⟨b,z,_,k⟩:=k;exact ⟨_,k,by simp [Value.oneCell']⟩
 case row=>
  obtain ⟨b,z,v,_,k,h⟩:=k
  refine ⟨v,k,?_⟩
  rcases h with ⟨_,rfl⟩ | ⟨_,k,rfl,_⟩<;>simp [Value.oneCell']
 case a8=>exact k
theorem eV {ι:aq} {c:TC} {x:c.den} {cs:List Value}:aD ι (tN c x) cs↔bD ι c x cs:=(lN c x cs).1
theorem kJ {α:Type} {f:AV→Option α} {l:List AV} {x:α} (h:oneOf f l=some x):∃ v,l=[v]∧f v=some x:=by
 match l,h with
 | [v],h=>exact ⟨v,rfl,h⟩
theorem RN {ι:aq}:∀ (c:TC),(∀ v x cs,c.back.1 v=some x→aD ι v cs→bD ι c x cs)∧(∀ vs x cs,c.back.2 vs=some x→cA ι c.hZ vs cs→bD ι c x cs):=by
 have lone_ok:∀ (c:TC) (s:Nat) (f:AV→Option c.den),(∀ v x cs,f v=some x→aD ι v cs→bD ι c x cs)→∀ vs x cs,oneOf f vs=some x→cA ι [s] vs cs→bD ι c x cs:=by
  intro c s f hf vs x cs h k
  obtain ⟨v,rfl,hv⟩:=kJ h
  rw [eW] at k
  exact hf _ _ _ hv k.2
 intro c
 induction c with
 | int k=>
  have h1:∀ v x cs,(TC.int k).back.1 v=some x→aD ι v cs→bD ι (.int k) x cs:=by
   intro v x cs h r
   cases v<;>simp [TC.back] at h
   obtain ⟨h1,h2⟩:=h;subst h1;subst h2;rw [aD] at r;exact r
  exact ⟨h1,lone_ok _ _ _ h1⟩
 | bool=>
  have h1:∀ v x cs,(TC.bool).back.1 v=some x→aD ι v cs→bD ι .bool x cs:=by
   intro v x cs h r
   cases v<;>simp [TC.back] at h
   subst h;rw [aD] at r;exact r
  exact ⟨h1,lone_ok _ _ _ h1⟩
 | str=>
  have h1:∀ v x cs,(TC.str).back.1 v=some x→aD ι v cs→bD ι .str x cs:=by
   intro v x cs h r
   cases v<;>simp [TC.back] at h
   subst h;rw [aD] at r;exact r
  exact ⟨h1,lone_ok _ _ _ h1⟩
 | unit=>
  have h1:∀ v x cs,(TC.unit).back.1 v=some x→aD ι v cs→bD ι .unit x cs:=by
   intro v x cs h r
   simp only [TC.back] at h
   split at h
   ·rw [aD,cA] at r;exact r.2
   ·cases h
  exact ⟨h1,lone_ok _ _ _ h1⟩
 | st a r iha ihr=>
  have h2:∀ vs x cs,(TC.st a r).back.2 vs=some x→cA ι (TC.st a r).hZ vs cs→bD ι (.st a r) x cs:=by
   intro vs x cs h k
   simp only [TC.back] at h
   split at h
   ·rename_i v l
    split at h
    ·rename_i y hy
     split at h
     ·rename_i z hz
      simp only [Option.some.injEq] at h;subst h
      rw [cA] at k
      obtain ⟨s,ss',l',m,e1,e2,e3,k1,k2⟩:=k
      simp only [TC.hZ,List.cons.injEq] at e1
      obtain ⟨e1,e1'⟩:=e1;subst e1;subst e1'
      exact ⟨l',m,e2,iha.1 _ _ _ hy k1,ihr.2 _ _ _ hz k2⟩
     ·cases h
    ·cases h
   ·cases h
  refine ⟨fun v x cs h k=>?_,h2⟩
  simp only [TC.back] at h
  split at h
  ·split at h
   ·rename_i e
    rw [aD,e] at k
    exact h2 _ _ _ (by simpa only [TC.back] using h) k
   ·cases h
  ·cases h
 | a7 a iha=>
  have h2:∀ vs x cs,(TC.a7 a).back.2 vs=some x→cA ι (TC.a7 a).hZ vs cs→bD ι (.a7 a) x cs:=fun vs x cs h k=>lone_ok a _ _ iha.1 vs x cs h k
  refine ⟨fun v x cs h k=>?_,h2⟩
  simp only [TC.back] at h
  split at h
  ·split at h
   ·rename_i e
    rw [aD,e] at k
    exact h2 _ _ _ h k
   ·cases h
  ·cases h
 | slice c _=>
  have h1:∀ v x cs,(TC.slice c).back.1 v=some x→aD ι v cs→bD ι (.slice c) x cs:=by
   intro v x cs h r
   simp only [TC.back] at h
   split at h
   ·split at h
    ·rename_i e;subst e
     simp only [Option.some.injEq] at h;subst h
     rw [aD] at r;exact r
    ·cases h
   ·simp only [Option.some.injEq] at h;subst h
    rw [aD] at r
    exact ⟨_,r.1,.inl ⟨rfl,.inl rfl⟩⟩
   ·cases h
  exact ⟨h1,lone_ok _ _ _ h1⟩
 | arr n c _=>
  have h1:∀ v x cs,(TC.arr n c).back.1 v=some x→aD ι v cs→bD ι (.arr n c) x cs:=by
   intro v x cs h r
   simp only [TC.back] at h
   split at h
   ·split at h
    ·rename_i e;subst e
     split at h
     ·rename_i e;subst e
      simp only [Option.some.injEq] at h;subst h
      rw [aD] at r;exact r
     ·cases h
    ·cases h
   ·cases h
  exact ⟨h1,lone_ok _ _ _ h1⟩
 | ref c ih=>
  have h1:∀ v x cs,(TC.ref c).back.1 v=some x→aD ι v cs→bD ι (.ref c) x cs:=by
   intro v x cs h r
   simp only [TC.back] at h
   split at h
   ·rw [aD] at r
    obtain ⟨b,off,cells,t,fz,l,e,hp,hr,ha⟩:=r
    exact ⟨b,off,cells,t,fz,l,e,hp,ih.1 _ _ _ h hr,ha⟩
   ·cases h
  exact ⟨h1,lone_ok _ _ _ h1⟩
 | a8=>
  have h1:∀ v x cs,(TC.a8).back.1 v=some x→aD ι v cs→bD ι .a8 x cs:=by
   intro v x cs h r
   simp only [TC.back] at h
   split at h
   ·rename_i hv;exact rQ hv r
   ·cases h
  exact ⟨h1,lone_ok _ _ _ h1⟩
theorem oZ {ι:aq} {c:TC} {v:AV} {x:c.den} {cs:List Value} (h:toD c v=some x) (k:aD ι v cs):bD ι c x cs:=(RN c).1 v x cs h k
end Go.aA
end
section
namespace Go.aA
open Go.RowKit
def holds:List Prop→Prop
 | []=>True
 | q :: qs=>q∧holds qs
def nH:List Prop→Prop→Prop
 | [],p=>p
 | q :: qs,p=>q∧nH qs p
theorem cw:∀ {qs:List Prop} {p:Prop},nH qs p→holds qs∧p
 | [],_,h=>⟨trivial,h⟩
 | _ :: _,_,h=>⟨⟨h.1,(cw h.2).1⟩,(cw h.2).2⟩
theorem bu:∀ {qs ps:List Prop},holds (qs++ps)↔holds qs∧holds ps
 | [],ps=>by simp [holds]
 | q :: qs,ps=>by simp [holds,bu (qs:=qs),and_assoc]
def jx:AV→List Step→Option (List Prop×AV)
 | v,[]=>some ([],v)
 | v,s :: p=>match v,s with
  | .agg ss vs,.Px off i=>if off=(ss.take i).sum then (match vs[i]? with | some u=>jx u p | none=>none) else none
  | .agg ss vs,.idx s i=>if i * s=(ss.take i).sum then (match vs[i]? with | some u=>jx u p | none=>none) else none
  | .arr n c xs,.idx s i=>if s=c.size then (match jx (tN c (eX c xs i)) p with | some (q,u)=>some ((i < n) :: q,u) | none=>none) else none
  | _,_=>none
def tK:AV→List Step→AV→Option AV
 | _,[],u=>some u
 | v,s :: p,u=>match v,s with
  | .agg ss vs,.Px _ i=>(match vs[i]? with | some x=>(match tK x p u with | some y=>some (.agg ss (vs.set i y)) | none=>none) | none=>none)
  | .agg ss vs,.idx _ i=>(match vs[i]? with | some x=>(match tK x p u with | some y=>some (.agg ss (vs.set i y)) | none=>none) | none=>none)
  | .arr n c xs,.idx _ i=>(match tK (tN c (eX c xs i)) p u with | some y=>(match toD c y with | some x=>some (.arr n c (xs.set i x)) | none=>none) | none=>none)
  | _,_=>none
theorem BM {ι:aq}:∀ (vs:List AV) (ss:List Nat) (cs:List Value) (i:Nat) (u:AV),cA ι ss vs cs→vs[i]?=some u→
  ∃ l1 m l2,cs=l1++m++l2∧l1.length=(ss.take i).sum∧aD ι u m∧∀ y m',aD ι y m'→m'.length=m.length→cA ι ss (vs.set i y) (l1++m'++l2)
 | [],_,_,_,_,_,h=>by simp at h
 | v :: vs,ss,cs,i,u,k,h=>by
  rw [cA] at k
  obtain ⟨s,ss',l,m,rfl,rfl,e3,k1,k2⟩:=k
  cases i with
  | zero=>
   simp only [List.getElem?_cons_zero,Option.some.injEq] at h;subst h
   refine ⟨[],l,m,rfl,rfl,k1,fun y m' hy hl=>?_⟩
   rw [List.set_cons_zero,cA]
   exact ⟨s,ss',m',m,rfl,rfl,hl.trans e3,hy,k2⟩
  | succ i=>
   simp only [List.getElem?_cons_succ] at h
   obtain ⟨l1,m1,l2,e,e1,hu,hs⟩:=BM vs ss' m i u k2 h
   refine ⟨l++l1,m1,l2,by rw [e];simp [List.append_assoc],by simp [e3,e1],hu,fun y m' hy hl=>?_⟩
   rw [List.set_cons_succ,cA]
   exact ⟨s,ss',l,l1++m'++l2,rfl,by simp [List.append_assoc],e3,k1,hs y m' hy hl⟩
theorem Cu {c:TC} {xs:List c.den} {i:Nat} (h:i < xs.length):xs[i]?=some (eX c xs i):=by
 simp [eX,h]
theorem fF {ι:aq}:∀ (p:List Step) (v:AV) (l:List Value) (q:List Prop) (u:AV),jx v p=some (q,u)→holds q→aD ι v l→
  ∃ l1 m l2,l=l1++m++l2∧l1.length=aw p∧aD ι u m∧∀ y m' v',tK v p y=some v'→aD ι y m'→m'.length=m.length→aD ι v' (l1++m'++l2)
 | [],v,l,q,u,h,hq,r=>by
  simp only [jx,Option.some.injEq,Prod.mk.injEq] at h
  obtain ⟨rfl,rfl⟩:=h
  refine ⟨[],l,[],by simp,rfl,r,fun y m' v' hv hy _=>?_⟩
  simp only [tK,Option.some.injEq] at hv;subst hv
  simpa using hy
 | s :: p,v,l,q,u,h,hq,r=>by
  simp only [jx] at h
  split at h
  ·rename_i ss vs off i
   split at h
   ·rename_i hoff
    split at h
    ·rename_i x hx
     rw [aD] at r
     obtain ⟨l1,m,l2,e,e1,hu,hs⟩:=BM vs ss l i x r hx
     obtain ⟨k1,m1,k2,e',e1',hu',hs'⟩:=fF p x m q u h hq hu
     refine ⟨l1++k1,m1,k2++l2,by rw [e,e'];simp [List.append_assoc],by simp [e1,e1',aw,Step.off,hoff],hu',fun y m' v' hv hy hl=>?_⟩
     simp only [tK,hx] at hv
     split at hv
     ·rename_i z hz
      simp only [Option.some.injEq] at hv;subst hv
      rw [aD]
      have:=hs z (k1++m'++k2) (hs' y m' z hz hy hl) (by rw [e'];simp [hl])
      simpa [List.append_assoc] using this
     ·cases hv
    ·cases h
   ·cases h
  ·rename_i ss vs sz i
   split at h
   ·rename_i hoff
    split at h
    ·rename_i x hx
     rw [aD] at r
     obtain ⟨l1,m,l2,e,e1,hu,hs⟩:=BM vs ss l i x r hx
     obtain ⟨k1,m1,k2,e',e1',hu',hs'⟩:=fF p x m q u h hq hu
     refine ⟨l1++k1,m1,k2++l2,by rw [e,e'];simp [List.append_assoc],by simp [e1,e1',aw,Step.off,hoff],hu',fun y m' v' hv hy hl=>?_⟩
     simp only [tK,hx] at hv
     split at hv
     ·rename_i z hz
      simp only [Option.some.injEq] at hv;subst hv
      rw [aD]
      have:=hs z (k1++m'++k2) (hs' y m' z hz hy hl) (by rw [e'];simp [hl])
      simpa [List.append_assoc] using this
     ·cases hv
    ·cases h
   ·cases h
  ·rename_i n c xs s i
   split at h
   ·rename_i hsz
    split at h
    ·rename_i q' u' hg
     simp only [Option.some.injEq,Prod.mk.injEq] at h
     obtain ⟨rfl,rfl⟩:=h
     obtain ⟨hi,hq'⟩:=hq
     rw [aD] at r
     obtain ⟨hn,r⟩:=r
     obtain ⟨l1,m,l2,e,e1,hu,hs⟩:=r.at (aO c) i _ (Cu (by omega))
     obtain ⟨k1,m1,k2,e',e1',hu',hs'⟩:=fF p _ m q' u' hg hq' (eV.2 hu)
     refine ⟨l1++k1,m1,k2++l2,by rw [e,e'];simp [List.append_assoc],by simp [e1,e1',aw,Step.off,hsz],hu',fun y m' v' hv hy hl=>?_⟩
     simp only [tK] at hv
     split at hv
     ·rename_i z hz
      split at hv
      ·rename_i x hx
       simp only [Option.some.injEq] at hv;subst hv
       rw [aD]
       refine ⟨by simpa using hn,?_⟩
       have:=hs x (k1++m'++k2) (oZ hx (hs' y m' z hz hy hl))
       simpa [List.append_assoc] using this
      ·cases hv
     ·cases hv
    ·cases h
   ·cases h
  ·cases h
inductive aL {α β:Type} (R:α→β→Prop):List α→List β→Prop where
 | nil:aL R [] []
 | cons {a:α} {b:β} {l:List α} {m:List β} (h:R a b) (t:aL R l m):aL R (a :: l) (b :: m)
theorem aL.imp {α β:Type} {R S:α→β→Prop} (h:∀ a b,R a b→S a b) {l:List α} {m:List β} (k:aL R l m):aL S l m:=by
 induction k with
 | nil=>exact .nil
 | cons h1 _ ih=>exact .cons (h _ _ h1) ih
theorem aL.len {α β:Type} {R:α→β→Prop} {l:List α} {m:List β} (k:aL R l m):l.length=m.length:=by
 induction k with
 | nil=>rfl
 | cons _ _ ih=>simp [ih]
theorem aL.at {α β:Type} {R:α→β→Prop} {l:List α} {m:List β} (k:aL R l m):∀ (i:Nat) (a:α),l[i]?=some a→∃ b,m[i]?=some b∧R a b:=by
 induction k with
 | nil=>intro i a h;simp at h
 | cons h1 _ ih=>
  intro i a h
  cases i with
  | zero=>simp at h;subst h;exact ⟨_,by simp,h1⟩
  | succ i=>simp at h;obtain ⟨b,e,r⟩:=ih i a h;exact ⟨b,by simpa using e,r⟩
theorem aL.set {α β:Type} {R:α→β→Prop} {l:List α} {m:List β} (k:aL R l m):∀ (i:Nat) (a:α) (b:β),R a b→aL R (l.set i a) (m.set i b):=by
 induction k with
 | nil=>intro i a b _;simpa using .nil
 | cons h1 t ih=>
  intro i a b h
  cases i with
  | zero=>exact .cons h t
  | succ i=>exact .cons h1 (ih i a b h)
theorem aL.app {α β:Type} {R:α→β→Prop} {l l':List α} {m m':List β} (k:aL R l m) (k':aL R l' m'):aL R (l++l') (m++m'):=by
 induction k with
 | nil=>exact k'
 | cons h1 _ ih=>exact .cons h1 ih
inductive aG where
 | dead
 | cell (own:Bool) (t:TypeId) (v:AV)
 | map (es:List (AV×AV))
 | loop (s:LoopState) (pend:Option Code) (fn:FuncId) (T:List AV) (ps:List Nat) (asg body:Code) (dfr:Nat)
 | my
 | row (t:TypeId) (c:TC) (xs:List c.den)
 | lX (xs:List (Int×Int))
 | hole
instance:Inhabited aG:=⟨.dead⟩
def aG.owned:aG→Bool
 | .dead=>false
 | .hole=>false
 | .cell own _ _=>own
 | .row _ _ xs=>!xs.isEmpty
 | _=>true
def bW (ι:aq) (v:AV) (c:Value):Prop:=if dJ v then ∃ cs:List Value,aD ι v cs∧c=.agg cs.toArray else aD ι v [c]
def ak (ι:aq):AV→Value→Prop
 | .nk vs,c=>∃ l:List Value,c=.tuple l.toArray∧aL (bW ι) vs l
 | .any,_=>True
 | .oW _,_=>True
 | v,c=>bW ι v c
def fL (ι:aq) (w:World) (b z:Nat):aG→Prop
 | .dead=>True
 | .hole=>True
 | .cell own t v=>∃ cells fz l r,w.heap[b]?=some (.cells cells t fz)∧cells.toList=l++r∧cells.size=z∧aD ι v l∧
   (if own then fz=(0,0) else ι.aM b=some (.cells cells t fz))
 | .map es=>∃ ents clock,w.heap[b]?=some (.map ents clock)∧aL (fun (e:AV×AV) (c:MapEntry)=>bW ι e.1 c.key∧bW ι e.2 c.val) es ents.toList
 | .loop s pend _ T ps asg body dfr=>∃ tmps db dz fn,w.heap[b]?=some (.loop {state:=s,pending:=pend,fn,tmps,params:=ps.toArray,assign:=asg,body,defers:=db})∧
   aL (ak ι) T tmps.toList∧ι.bB[dfr]?=some (db,dz)
 | .my=>w.heap[b]?=some (.deferred (some []))
 | .lX xs=>∃ ents clock,w.heap[b]?=some (.map ents clock)∧aL (fun (e:Int×Int) (c:MapEntry)=>c.key=.int .i64 e.1∧c.val=.int .i64 e.2) xs ents.toList
 | .row t c xs=>xs=[]∨∃ cells l r,w.heap[b]?=some (.cells cells t (0,0))∧cells.toList=l++r∧cells.size=z∧bV (bD ι c) xs l
def rS (H:List aG) (b:Blk):Prop:=H.length=b.length∧∀ (i:Nat) (x:aG),H[i]?=some x→(x=.hole↔b[i]?=none)
theorem rS.app {H:List aG} {b:Blk} (h:rS H b) {x:aG} (hx:x≠.hole) (y:Nat×Nat):rS (H++[x]) (b.push y):=by
 refine ⟨by simp [h.1,Blk.sU],fun i u e=>?_⟩
 rcases Nat.lt_or_ge i H.length with hi | hi
 ·rw [List.getElem?_append_left hi] at e
  rw [Blk.lu (h.1▸hi)]
  exact h.2 _ _ e
 ·have:i < (H++[x]).length:=(List.getElem?_eq_some_iff.1 e).1
  simp at this
  have hi':i=H.length:=by omega
  subst hi'
  simp at e
  subst e
  rw [h.1,Blk.qL]
  simp [hx]
theorem rS.set {H:List aG} {b:Blk} (h:rS H b) {i:Nat} {x y:aG} (hi:H[i]?=some x) (hx:x=.hole↔y=.hole):rS (H.set i y) b:=by
 refine ⟨by simp [h.1],fun j u e=>?_⟩
 rw [List.getElem?_set] at e
 split at e
 ·rename_i hij;subst hij
  split at e
  ·simp at e;subst e
   exact hx.symm.trans (h.2 _ _ hi)
  ·cases e
 ·exact h.2 _ _ e
structure aE (ι:aq) (H:List aG) (w:World):Prop where
 gD:rS H ι.bB
 aM:∀ b o,ι.aM b=some o→w.heap[b]?=some o
 obj:∀ (i:Nat) (x:aG) (b z:Nat),H[i]?=some x→ι.bB[i]?=some (b,z)→fL ι w b z x
 own:∀ (i:Nat) (x:aG) (b z:Nat),H[i]?=some x→x.owned=true→ι.bB[i]?=some (b,z)→ι.aM b=none∧b < w.heap.size∧ι.w0.heap.size≤b
 sep:∀ (i j:Nat) (x y:aG) (b z z':Nat),H[i]?=some x→x.owned=true→H[j]?=some y→y.owned=true→ι.bB[i]?=some (b,z)→ι.bB[j]?=some (b,z')→i=j
 base:Below ι.w0.heap.size ι.w0 w
theorem lP {ι ι':aq} (h:Sub ι ι') {v:AV} {c:Value} (k:bW ι v c):bW ι' v c:=by
 unfold bW at *
 split
 ·rename_i e;rw [if_pos e] at k;obtain ⟨cs,k,e⟩:=k;exact ⟨cs,bY h _ _ k,e⟩
 ·rename_i e;rw [if_neg e] at k;exact bY h _ _ k
theorem nj {ι ι':aq} (h:Sub ι ι') {v:AV} {c:Value} (k:ak ι v c):ak ι' v c:=by
 cases v
 case nk vs=>obtain ⟨l,e,k⟩:=k;exact ⟨l,e,aL.imp (fun _ _=>lP h) k⟩
 case any=>trivial
 case oW=>trivial
 all_goals exact lP h k
theorem cP {ι ι':aq} (h:Ext ι ι') {v:AV} {c:Value} (k:ak ι v c):ak ι' v c:=nj h.sub k
theorem xq {ι ι':aq} (h:Sub ι ι') {w w':World} {b z:Nat} {x:aG} (hb:x.owned=true→w'.heap[b]?=w.heap[b]?)
  (hp:∀ b cells t fz,ι.aM b=some (.cells cells t fz)→w'.heap[b]?=some (.cells cells t fz)) (k:fL ι w b z x):fL ι' w' b z x:=by
 cases x with
 | dead=>trivial
 | hole=>trivial
 | cell own t v=>
  obtain ⟨cells,fz,l,r,e1,e2,e3,e4,e5⟩:=k
  cases own with
  | true=>exact ⟨cells,fz,l,r,(hb rfl).trans e1,e2,e3,bY h _ _ e4,e5⟩
  | false=>exact ⟨cells,fz,l,r,hp _ _ _ _ e5,e2,e3,bY h _ _ e4,h.aM _ _ _ _ e5⟩
 | map es=>
  obtain ⟨ents,clock,e1,e2⟩:=k
  exact ⟨ents,clock,(hb rfl).trans e1,aL.imp (fun _ _ k=>⟨lP h k.1,lP h k.2⟩) e2⟩
 | loop s pend fn T ps asg body dfr=>
  obtain ⟨tmps,db,dz,fn',e1,e2,e3⟩:=k
  exact ⟨tmps,db,dz,fn',(hb rfl).trans e1,aL.imp (fun _ _=>nj h) e2,h.bB _ _ e3⟩
 | my=>exact (hb rfl).trans k
 | lX xs=>
  obtain ⟨ents,clock,e1,e2⟩:=k
  exact ⟨ents,clock,(hb rfl).trans e1,e2⟩
 | row t c xs=>
  rcases k with k | ⟨cells,l,r,e1,e2,e3,e4⟩
  ·exact .inl k
  ·cases xs with
   | nil=>exact .inl rfl
   | cons x xs=>exact .inr ⟨cells,l,r,(hb rfl).trans e1,e2,e3,e4.mono fun x l=>cr h c x l⟩
theorem dm {ι ι':aq} (h:Ext ι ι') {w w':World} {b z:Nat} {x:aG} (hb:x.owned=true→w'.heap[b]?=w.heap[b]?)
  (hp:∀ b o,ι.aM b=some o→w'.heap[b]?=some o) (k:fL ι w b z x):fL ι' w' b z x:=
 xq h.sub hb (fun b _ _ _ e=>hp b _ e) k
end Go.aA
end
section
namespace Go.aA
open Go.RowKit
theorem aE.fQ {ι:aq} {H:List aG} {w:World} (h:aE ι H w) {b:Nat} {o:Obj} (e:ι.aM b=some o):b < w.heap.size:=
 (Array.getElem?_eq_some_iff.1 (h.aM _ _ e)).1
theorem aE.len {ι:aq} {H:List aG} {w:World} (h:aE ι H w):H.length=ι.bB.length:=h.gD.1
theorem aE.gO {ι:aq} {H:List aG} {w:World} (h:aE ι H w) {i:Nat} {x:aG} (e:H[i]?=some x) (hx:x≠.hole:=by exact nofun):∃ b z,ι.bB[i]?=some (b,z):=by
 cases hb:ι.bB[i]? with
 | some y=>exact ⟨y.1,y.2,rfl⟩
 | none=>exact absurd ((h.gD.2 _ _ e).2 hb) hx
theorem aG.FB {x:aG} (h:x.owned=true):x≠.hole:=by rintro rfl;cases h
def aq.add (ι:aq) (b z:Nat):aq:={ι with bB:=ι.bB.push (b,z)}
theorem Ext.add (ι:aq) (b z:Nat):Ext ι (ι.add b z):=
 ⟨rfl,fun _ _ h=>h,fun i x h=>by
  simp only [aq.add,Blk.lu (Blk.lt h)];exact h,fun _ _=>rfl⟩
theorem aq.fK (ι:aq) (b z:Nat):(ι.add b z).bB[ι.bB.length]?=some (b,z):=Blk.qL
theorem fT {w:World} {o:Obj} {k:Nat} (h:k < w.heap.size):(w.alloc o).heap[k]?=w.heap[k]?:=Below.heap_alloc w o k h
theorem heap_alloc_new {w:World} {o:Obj}:(w.alloc o).heap[w.heap.size]?=some o:=World.alloc_heap_new w o
theorem aE.alloc {ι:aq} {H:List aG} {w:World} (h:aE ι H w) (o:Obj) (z:Nat) (x:aG)
  (hx:fL (ι.add w.heap.size z) (w.alloc o) w.heap.size z x) (hne:x≠.hole:=by exact nofun):aE (ι.add w.heap.size z) (H++[x]) (w.alloc o):=by
 have hE:=Ext.add ι w.heap.size z
 have hnew:ι.aM w.heap.size=none:=by
  cases hp:ι.aM w.heap.size with
  | none=>rfl
  | some o=>exact absurd (h.fQ hp) (Nat.lt_irrefl _)
 have gh:∀ {i:Nat} {b z':Nat} {y:aG},(H++[x])[i]?=some y→(ι.add w.heap.size z).bB[i]?=some (b,z')→
   (H[i]?=some y∧ι.bB[i]?=some (b,z'))∨(i=H.length∧y=x∧b=w.heap.size∧z'=z):=by
  intro i b z' y e1 e2
  rcases Nat.lt_or_ge i H.length with hi | hi
  ·left
   rw [List.getElem?_append_left hi] at e1
   simp only [aq.add] at e2
   rw [Blk.lu (h.len▸hi)] at e2
   exact ⟨e1,e2⟩
  ·right
   have:i < (H++[x]).length:=(List.getElem?_eq_some_iff.1 e1).1
   simp at this
   have hi':i=H.length:=by omega
   subst hi'
   simp at e1
   rw [h.len,aq.fK] at e2
   cases e2
   exact ⟨rfl,e1.symm,rfl,rfl⟩
 refine ⟨h.gD.app hne _,?_,?_,?_,?_,?_⟩
 ·intro b o' e
  have e':ι.aM b=some o':=e
  rw [fT (h.fQ e')];exact h.aM _ _ e'
 ·intro i y b z' e1 e2
  rcases gh e1 e2 with ⟨k1,k2⟩ | ⟨rfl,rfl,rfl,rfl⟩
  ·exact dm hE (fun ho=>fT (h.own _ _ _ _ k1 ho k2).2.1) (fun b o e=>by rw [fT (h.fQ e)];exact h.aM _ _ e) (h.obj _ _ _ _ k1 k2)
  ·exact hx
 ·intro i y b z' e1 ho e2
  rcases gh e1 e2 with ⟨k1,k2⟩ | ⟨rfl,rfl,rfl,rfl⟩
  ·exact ⟨(h.own _ _ _ _ k1 ho k2).1,by have:=(h.own _ _ _ _ k1 ho k2).2.1;simp;omega,(h.own _ _ _ _ k1 ho k2).2.2⟩
  ·exact ⟨hnew,by simp,h.base.size⟩
 ·intro i j y y' b z1 z2 e1 o1 e2 o2 b1 b2
  rcases gh e1 b1 with ⟨k1,k2⟩ | ⟨rfl,rfl,hb,_⟩
  ·rcases gh e2 b2 with ⟨k3,k4⟩ | ⟨rfl,rfl,hb,_⟩
   ·exact h.sep _ _ _ _ _ _ _ k1 o1 k3 o2 k2 k4
   ·have:=(h.own _ _ _ _ k1 o1 k2).2.1;omega
  ·rcases gh e2 b2 with ⟨k3,k4⟩ | ⟨rfl,rfl,_,_⟩
   ·have:=(h.own _ _ _ _ k3 o2 k4).2.1;omega
   ·rfl
 ·exact h.base.alloc h.base.size _
theorem aE.EM {ι:aq} {H:List aG} {w w':World} (h:aE ι H w) {i:Nat} {x x':aG} {b z:Nat} (hi:H[i]?=some x) (ho:x.owned=true) (hb:ι.bB[i]?=some (b,z))
  (hk:∀ k,k≠b→w'.heap[k]?=w.heap[k]?) (hs:w'.heap.size=w.heap.size) (h1:w'.os=w.os) (h2:w'.tape=w.tape) (h3:w'.output=w.output)
  (hx:fL ι w' b z x') (hne:x'≠.hole:=by exact nofun):aE ι (H.set i x') w':=by
 have hlt:=(List.getElem?_eq_some_iff.1 hi).1
 have hp:∀ k o,ι.aM k=some o→k≠b:=fun k o e e'=>by subst e';rw [(h.own _ _ _ _ hi ho hb).1] at e;cases e
 have hprot:∀ k o,ι.aM k=some o→w'.heap[k]?=some o:=fun k o e=>by rw [hk k (hp k o e)];exact h.aM _ _ e
 have gh:∀ {j:Nat} {y:aG},(H.set i x')[j]?=some y→(j=i∧y=x')∨(j≠i∧H[j]?=some y):=by
  intro j y e
  rw [List.getElem?_set] at e
  split at e
  ·rename_i hij;subst hij;simp at e;exact .inl ⟨rfl,e.symm⟩
  ·rename_i hij;exact .inr ⟨fun e=>hij e.symm,e⟩
 refine ⟨h.gD.set hi ⟨fun e=>absurd e (aG.FB ho),fun e=>absurd e hne⟩,hprot,?_,?_,?_,?_⟩
 ·intro j y b' z' e1 e2
  rcases gh e1 with ⟨rfl,rfl⟩ | ⟨hj,e⟩
  ·rw [hb] at e2;cases e2;exact hx
  ·refine dm (Ext.refl ι) (fun ho'=>hk _ ?_) hprot (h.obj _ _ _ _ e e2)
   intro eb;subst eb
   exact hj (h.sep _ _ _ _ _ _ _ e ho' hi ho e2 hb)
 ·intro j y b' z' e1 ho' e2
  rcases gh e1 with ⟨rfl,rfl⟩ | ⟨hj,e⟩
  ·rw [hb] at e2;cases e2
   have:=h.own _ _ _ _ hi ho hb
   exact ⟨this.1,by omega,this.2.2⟩
  ·have:=h.own _ _ _ _ e ho' e2
   exact ⟨this.1,by omega,this.2.2⟩
 ·intro j k y y' b' z1 z2 e1 o1 e2 o2 b1 b2
  have key:∀ {j:Nat} {y:aG},(H.set i x')[j]?=some y→y.owned=true→∃ y',H[j]?=some y'∧y'.owned=true:=fun {j y} e o=>by
   rcases gh e with ⟨rfl,rfl⟩ | ⟨_,e⟩
   ·exact ⟨_,hi,ho⟩
   ·exact ⟨_,e,o⟩
  obtain ⟨_,e1',o1'⟩:=key e1 o1
  obtain ⟨_,e2',o2'⟩:=key e2 o2
  exact h.sep _ _ _ _ _ _ _ e1' o1' e2' o2' b1 b2
 ·exact h.base.trans ⟨h1,h2,h3,by omega,fun k hk'=>by
   refine hk k fun e=>?_
   subst e
   have:=(h.own _ _ _ _ hi ho hb).2.2
   omega⟩
theorem aE.drew {ι:aq} {H:List aG} {w:World} (h:aE ι H w) (n:Nat):aE ι H {w with drawn:=n}:=
 ⟨h.gD,h.aM,fun i x b z e1 e2=>dm (Ext.refl ι) (fun _=>rfl) h.aM (h.obj i x b z e1 e2),h.own,h.sep,
  ⟨h.base.os,h.base.tape,h.base.output,h.base.size,h.base.block⟩⟩
def aq.grown (ι:aq) (w w':World):aq:={ι with aM:=fun k=>if k < w.heap.size then ι.aM k else w'.heap[k]?}
theorem aE.kz {ι:aq} {H:List aG} {w:World} (h:aE ι H w) (w':World):Ext ι (ι.grown w w'):=
 ⟨rfl,fun b o e=>by simp only [aq.grown];rw [if_pos (h.fQ e)];exact e,fun _ _ e=>e,fun b hb=>by simp only [aq.grown];rw [if_pos (Nat.lt_of_lt_of_le hb h.base.size)]⟩
theorem aE.grown {ι:aq} {H:List aG} {w w':World} (h:aE ι H w) (hB:Below w.heap.size w w'):aE (ι.grown w w') H w':=by
 have hprot:∀ b o,ι.aM b=some o→w'.heap[b]?=some o:=fun b o e=>by rw [hB.block b (h.fQ e)];exact h.aM _ _ e
 refine ⟨h.gD,?_,?_,?_,h.sep,?_⟩
 ·intro b o e
  simp only [aq.grown] at e
  split at e
  ·exact hprot b o e
  ·exact e
 ·intro i x b z e1 e2
  exact dm (h.kz w') (fun ho=>hB.block _ (h.own _ _ _ _ e1 ho e2).2.1) hprot (h.obj _ _ _ _ e1 e2)
 ·intro i x b z e1 ho e2
  have:=h.own _ _ _ _ e1 ho e2
  refine ⟨by simp only [aq.grown];rw [if_pos this.2.1];exact this.1,Nat.lt_of_lt_of_le this.2.1 hB.size,this.2.2⟩
 ·exact h.base.trans (hB.mono h.base.size)
theorem aE.kill {ι:aq} {H:List aG} {w:World} (h:aE ι H w) {i:Nat} (hne:H[i]?≠some .hole):aE ι (H.set i .dead) w:=by
 have gh:∀ {j:Nat} {y:aG},(H.set i .dead)[j]?=some y→y=.dead∨H[j]?=some y:=by
  intro j y e
  rw [List.getElem?_set] at e
  split at e
  ·split at e
   ·left;simpa using e.symm
   ·cases e
  ·exact .inr e
 have hl:rS (H.set i .dead) ι.bB:=by
  cases hi:H[i]? with
  | none=>rw [List.set_eq_of_length_le (by simpa using hi)];exact h.gD
  | some x=>exact h.gD.set hi ⟨fun e=>absurd (e▸hi) hne,nofun⟩
 refine ⟨hl,h.aM,?_,?_,?_,h.base⟩
 ·intro j y b z e1 e2
  rcases gh e1 with rfl | e
  ·trivial
  ·exact h.obj _ _ _ _ e e2
 ·intro j y b z e1 ho e2
  rcases gh e1 with rfl | e
  ·cases ho
  ·exact h.own _ _ _ _ e ho e2
 ·intro j k y y' b z1 z2 e1 o1 e2 o2 b1 b2
  rcases gh e1 with rfl | e1
  ·cases o1
  ·rcases gh e2 with rfl | e2
   ·cases o2
   ·exact h.sep _ _ _ _ _ _ _ e1 o1 e2 o2 b1 b2
def aq.freeze (ι:aq) (w:World) (b:Nat):aq:={ι with aM:=fun k=>if k=b then w.heap[b]? else ι.aM k}
theorem aE.freeze {ι:aq} {H:List aG} {w:World} (h:aE ι H w) {i b z:Nat} {t:TypeId} {v:AV} (hi:H[i]?=some (.cell true t v)) (hb:ι.bB[i]?=some (b,z)):
  Ext ι (ι.freeze w b)∧aE (ι.freeze w b) (H.set i (.cell false t v)) w:=by
 have hlt:=(List.getElem?_eq_some_iff.1 hi).1
 have hown:=h.own _ _ _ _ hi rfl hb
 have hE:Ext ι (ι.freeze w b):=⟨rfl,fun k o e=>by
  simp only [aq.freeze];split
  ·rename_i ek;subst ek;rw [hown.1] at e;cases e
  ·exact e,fun _ _ e=>e,fun k hk=>by
   simp only [aq.freeze]
   rw [if_neg (fun e=>by have:=hown.2.2;omega)]⟩
 have hprot:∀ k o,(ι.freeze w b).aM k=some o→w.heap[k]?=some o:=fun k o e=>by
  simp only [aq.freeze] at e
  split at e
  ·rename_i ek;subst ek;exact e
  ·exact h.aM _ _ e
 have gh:∀ {j:Nat} {y:aG},(H.set i (.cell false t v))[j]?=some y→(j=i∧y=.cell false t v)∨(j≠i∧H[j]?=some y):=by
  intro j y e
  rw [List.getElem?_set] at e
  split at e
  ·rename_i hij;subst hij;simp at e;exact .inl ⟨rfl,e.symm⟩
  ·rename_i hij;exact .inr ⟨fun e=>hij e.symm,e⟩
 refine ⟨hE,h.gD.set hi ⟨nofun,nofun⟩,hprot,?_,?_,?_,h.base⟩
 ·intro j y b' z' e1 e2
  have e2':ι.bB[j]?=some (b',z'):=e2
  rcases gh e1 with ⟨rfl,rfl⟩ | ⟨hj,e⟩
  ·rw [hb] at e2';cases e2'
   obtain ⟨cells,fz,l,r,k1,k2,k3,k4,k5⟩:=h.obj _ _ _ _ hi hb
   refine ⟨cells,fz,l,r,k1,k2,k3,xl hE _ _ k4,?_⟩
   simp only [Bool.false_eq_true,if_false,aq.freeze,if_true];exact k1
  ·exact dm hE (fun _=>rfl) (fun b o e=>h.aM _ _ e) (h.obj _ _ _ _ e e2')
 ·intro j y b' z' e1 ho' e2
  have e2':ι.bB[j]?=some (b',z'):=e2
  rcases gh e1 with ⟨rfl,rfl⟩ | ⟨hj,e⟩
  ·cases ho'
  ·have:=h.own _ _ _ _ e ho' e2'
   refine ⟨?_,this.2⟩
   simp only [aq.freeze]
   rw [if_neg]
   ·exact this.1
   ·intro eb;subst eb;exact hj (h.sep _ _ _ _ _ _ _ e ho' hi rfl e2' hb)
 ·intro j k y y' b' z1 z2 e1 o1 e2 o2 b1 b2
  rcases gh e1 with ⟨rfl,rfl⟩ | ⟨_,e1⟩
  ·cases o1
  ·rcases gh e2 with ⟨rfl,rfl⟩ | ⟨_,e2⟩
   ·cases o2
   ·exact h.sep _ _ _ _ _ _ _ e1 o1 e2 o2 b1 b2
def aq.ready (ι:aq) (n:Nat):aq:={ι with bB:=⟨ι.bB.l++List.replicate n none⟩}
def aq.fill (ι:aq) (i b z:Nat):aq:={ι with bB:=⟨ι.bB.l.set i (some (b,z))⟩}
theorem Blk.vW {b:Blk} {n i:Nat}:(⟨b.l++List.replicate n none⟩:Blk)[i]?=b[i]?:=by
 rw [Blk.jB,Blk.jB]
 rcases Nat.lt_or_ge i b.l.length with h | h
 ·simp only [List.getElem?_append_left h]
 ·simp only [List.getElem?_append_right h,List.getElem?_eq_none h]
  rw [List.getElem?_replicate]
  split<;>rfl
theorem Ext.ready (ι:aq) (n:Nat):Ext ι (ι.ready n):=⟨rfl,fun _ _ h=>h,fun i x h=>by unfold aq.ready;rw [Blk.vW];exact h,fun _ _=>rfl⟩
theorem aE.ready {ι:aq} {H:List aG} {w:World} (h:aE ι H w) (n:Nat):aE (ι.ready n) (H++List.replicate n .hole) w:=by
 have hE:=Ext.ready ι n
 have gh:∀ {i:Nat} {y:aG} {b z:Nat},(H++List.replicate n .hole)[i]?=some y→(ι.ready n).bB[i]?=some (b,z)→H[i]?=some y∧ι.bB[i]?=some (b,z):=by
  intro i y b z e1 e2
  have e2:ι.bB[i]?=some (b,z):=by unfold aq.ready at e2;rw [Blk.vW] at e2;exact e2
  have hi:=Blk.lt e2
  rw [List.getElem?_append_left (h.len▸hi)] at e1
  exact ⟨e1,e2⟩
 refine ⟨⟨?_,fun i x e=>?_⟩,h.aM,?_,?_,?_,h.base⟩
 ·have:=h.len
  simp only [Blk.length] at this
  simp [aq.ready,Blk.length,this]
 ·unfold aq.ready
  rw [Blk.vW]
  rcases Nat.lt_or_ge i H.length with hi | hi
  ·rw [List.getElem?_append_left hi] at e
   exact h.gD.2 _ _ e
  ·rw [List.getElem?_append_right hi,List.getElem?_replicate] at e
   split at e
   ·cases e
    refine ⟨fun _=>?_,fun _=>rfl⟩
    cases hb:ι.bB[i]? with
    | none=>rfl
    | some x=>have:=Blk.lt hb;rw [← h.len] at this;omega
   ·cases e
 ·intro i y b z e1 e2
  obtain ⟨k1,k2⟩:=gh e1 e2
  exact dm hE (fun _=>rfl) h.aM (h.obj _ _ _ _ k1 k2)
 ·intro i y b z e1 ho e2
  obtain ⟨k1,k2⟩:=gh e1 e2
  exact h.own _ _ _ _ k1 ho k2
 ·intro i j y y' b z z' e1 o1 e2 o2 b1 b2
  obtain ⟨k1,k2⟩:=gh e1 b1
  obtain ⟨k3,k4⟩:=gh e2 b2
  exact h.sep _ _ _ _ _ _ _ k1 o1 k3 o2 k2 k4
theorem aq.Bo {ι:aq} {i b z:Nat} (hi:i < ι.bB.length):(ι.fill i b z).bB[i]?=some (b,z):=by
 rw [Blk.jB]
 unfold aq.fill
 simp only [List.getElem?_set_self hi]
 rfl
theorem aq.Bn {ι:aq} {i j b z:Nat} (hij:i≠j):(ι.fill i b z).bB[j]?=ι.bB[j]?:=by
 rw [Blk.jB,Blk.jB]
 unfold aq.fill
 simp only [List.getElem?_set_ne hij]
theorem aE.fill {ι:aq} {H:List aG} {w:World} (h:aE ι H w) {i:Nat} (hi:H[i]?=some .hole) (o:Obj) (z:Nat) (x:aG)
  (hx:fL (ι.fill i w.heap.size z) (w.alloc o) w.heap.size z x) (hne:x≠.hole:=by exact nofun):Ext ι (ι.fill i w.heap.size z)∧aE (ι.fill i w.heap.size z) (H.set i x) (w.alloc o):=by
 have hlt:i < ι.bB.length:=by rw [← h.len];exact (List.getElem?_eq_some_iff.1 hi).1
 have hnone:ι.bB[i]?=none:=(h.gD.2 _ _ hi).1 rfl
 have hE:Ext ι (ι.fill i w.heap.size z):=⟨rfl,fun _ _ h=>h,fun j y e=>by
  have:i≠j:=by intro e';subst e';rw [hnone] at e;cases e
  rw [aq.Bn this];exact e,fun _ _=>rfl⟩
 have hnew:ι.aM w.heap.size=none:=by
  cases hp:ι.aM w.heap.size with
  | none=>rfl
  | some o=>exact absurd (h.fQ hp) (Nat.lt_irrefl _)
 have gh:∀ {j:Nat} {b z':Nat} {y:aG},(H.set i x)[j]?=some y→(ι.fill i w.heap.size z).bB[j]?=some (b,z')→
   (H[j]?=some y∧ι.bB[j]?=some (b,z'))∨(j=i∧y=x∧b=w.heap.size∧z'=z):=by
  intro j b z' y e1 e2
  by_cases hij:i=j
  ·subst hij
   rw [aq.Bo hlt] at e2;cases e2
   rw [List.getElem?_set_self (by rw [h.len];exact hlt)] at e1;cases e1
   exact .inr ⟨rfl,rfl,rfl,rfl⟩
  ·rw [List.getElem?_set_ne hij] at e1
   rw [aq.Bn hij] at e2
   exact .inl ⟨e1,e2⟩
 refine ⟨hE,⟨?_,fun j y e=>?_⟩,?_,?_,?_,?_,?_⟩
 ·have:=h.len
  simp only [Blk.length] at this
  simp [aq.fill,Blk.length,this]
 ·by_cases hij:i=j
  ·subst hij
   rw [aq.Bo hlt]
   rw [List.getElem?_set_self (by rw [h.len];exact hlt)] at e;cases e
   exact ⟨fun e=>absurd e hne,fun e=>by cases e⟩
  ·rw [List.getElem?_set_ne hij] at e
   rw [aq.Bn hij]
   exact h.gD.2 _ _ e
 ·intro b o' e
  have e':ι.aM b=some o':=e
  rw [fT (h.fQ e')];exact h.aM _ _ e'
 ·intro j y b z' e1 e2
  rcases gh e1 e2 with ⟨k1,k2⟩ | ⟨rfl,rfl,rfl,rfl⟩
  ·exact dm hE (fun ho=>fT (h.own _ _ _ _ k1 ho k2).2.1) (fun b o e=>by rw [fT (h.fQ e)];exact h.aM _ _ e) (h.obj _ _ _ _ k1 k2)
  ·exact hx
 ·intro j y b z' e1 ho e2
  rcases gh e1 e2 with ⟨k1,k2⟩ | ⟨rfl,rfl,rfl,rfl⟩
  ·exact ⟨(h.own _ _ _ _ k1 ho k2).1,by have:=(h.own _ _ _ _ k1 ho k2).2.1;simp;omega,(h.own _ _ _ _ k1 ho k2).2.2⟩
  ·exact ⟨hnew,by simp,h.base.size⟩
 ·intro j k y y' b z1 z2 e1 o1 e2 o2 b1 b2
  rcases gh e1 b1 with ⟨k1,k2⟩ | ⟨rfl,rfl,hb,_⟩
  ·rcases gh e2 b2 with ⟨k3,k4⟩ | ⟨rfl,rfl,hb,_⟩
   ·exact h.sep _ _ _ _ _ _ _ k1 o1 k3 o2 k2 k4
   ·have:=(h.own _ _ _ _ k1 o1 k2).2.1;omega
  ·rcases gh e2 b2 with ⟨k3,k4⟩ | ⟨rfl,rfl,_,_⟩
   ·have:=(h.own _ _ _ _ k3 o2 k4).2.1;omega
   ·rfl
 ·exact h.base.alloc h.base.size _
def aq.drop (ι:aq) (b:Nat):aq:={ι with aM:=fun k=>if k=b then none else ι.aM k}
theorem aq.Ej {ι:aq} {b:Nat} (h:ι.aM b=some (.deferred (some []))):Sub ι (ι.drop b):=
 ⟨fun k cells t fz e=>by
  simp only [aq.drop]
  rw [if_neg (by intro e';subst e';rw [h] at e;cases e)]
  exact e,fun _ _ e=>e⟩
theorem aE.drop {ι:aq} {H:List aG} {w:World} (h:aE ι H w) {b:Nat} (hb:ι.aM b=some (.deferred (some []))) (hw:ι.w0.heap.size≤b) (o:Obj):aE (ι.drop b) H (w.putObj b o):=by
 have hS:=aq.Ej hb
 have ne:∀ {k:Nat},k≠b→(w.putObj b o).heap[k]?=w.heap[k]?:=fun hk=>World.putObj_heap_other hk
 refine ⟨h.gD,?_,?_,?_,h.sep,?_⟩
 ·intro k x e
  simp only [aq.drop] at e
  split at e
  ·cases e
  ·rename_i hk;rw [ne hk];exact h.aM _ _ e
 ·intro i x b' z e1 e2
  refine xq hS (fun ho=>ne ?_) (fun k cells t fz e=>?_) (h.obj _ _ _ _ e1 e2)
  ·intro e;subst e
   have:=(h.own _ _ _ _ e1 ho e2).1
   rw [hb] at this;cases this
  ·rw [ne (by intro e';subst e';rw [hb] at e;cases e)];exact h.aM _ _ e
 ·intro i x b' z e1 ho e2
  have:=h.own _ _ _ _ e1 ho e2
  refine ⟨?_,by simpa using this.2.1,this.2.2⟩
  simp only [aq.drop]
  split
  ·rfl
  ·exact this.1
 ·exact h.base.trans ⟨rfl,rfl,rfl,by simp,fun k hk=>ne (by omega)⟩
theorem aE.forget {ι:aq} {H:List aG} {w:World} (h:aE ι H w) {i b z:Nat} (hi:H[i]?=some .my) (hb:ι.bB[i]?=some (b,z)):
  Ext ι (ι.freeze w b)∧aE (ι.freeze w b) (H.set i .dead) w∧(ι.freeze w b).aM b=some (.deferred (some []))∧ι.aM b=none∧ι.w0.heap.size≤b:=by
 have hown:=h.own _ _ _ _ hi rfl hb
 have hobj:w.heap[b]?=some (.deferred (some [])):=h.obj _ _ _ _ hi hb
 have hE:Ext ι (ι.freeze w b):=⟨rfl,fun k o e=>by
  simp only [aq.freeze];split
  ·rename_i ek;subst ek;rw [hown.1] at e;cases e
  ·exact e,fun _ _ e=>e,fun k hk=>by
   simp only [aq.freeze]
   rw [if_neg (fun e=>by have:=hown.2.2;omega)]⟩
 have hprot:∀ k o,(ι.freeze w b).aM k=some o→w.heap[k]?=some o:=fun k o e=>by
  simp only [aq.freeze] at e
  split at e
  ·rename_i ek;subst ek;exact e
  ·exact h.aM _ _ e
 have gh:∀ {j:Nat} {y:aG},(H.set i .dead)[j]?=some y→(j=i∧y=.dead)∨(j≠i∧H[j]?=some y):=by
  intro j y e
  rw [List.getElem?_set] at e
  split at e
  ·rename_i hij;subst hij
   split at e
   ·exact .inl ⟨rfl,by simpa using e.symm⟩
   ·cases e
  ·rename_i hij;exact .inr ⟨fun e=>hij e.symm,e⟩
 refine ⟨hE,⟨h.gD.set hi ⟨nofun,nofun⟩,hprot,?_,?_,?_,h.base⟩,by simp only [aq.freeze,if_true];exact hobj,hown.1,hown.2.2⟩
 ·intro j y b' z' e1 e2
  rcases gh e1 with ⟨rfl,rfl⟩ | ⟨hj,e⟩
  ·trivial
  ·exact dm hE (fun _=>rfl) (fun b o e=>h.aM _ _ e) (h.obj _ _ _ _ e e2)
 ·intro j y b' z' e1 ho' e2
  have e2':ι.bB[j]?=some (b',z'):=e2
  rcases gh e1 with ⟨rfl,rfl⟩ | ⟨hj,e⟩
  ·cases ho'
  ·have:=h.own _ _ _ _ e ho' e2'
   refine ⟨?_,this.2⟩
   simp only [aq.freeze]
   rw [if_neg]
   ·exact this.1
   ·intro eb;subst eb;exact hj (h.sep _ _ _ _ _ _ _ e ho' hi rfl e2' hb)
 ·intro j k y y' b' z1 z2 e1 o1 e2 o2 b1 b2
  rcases gh e1 with ⟨rfl,rfl⟩ | ⟨_,e1⟩
  ·cases o1
  ·rcases gh e2 with ⟨rfl,rfl⟩ | ⟨_,e2⟩
   ·cases o2
   ·exact h.sep _ _ _ _ _ _ _ e1 o1 e2 o2 b1 b2
end Go.aA
end
section
namespace Go.aA
open Go.RowKit
structure ba where
 desc:TypeDesc
 size:Nat
 bytes:Nat
 zero:AV
 code:Option TC
inductive Own where
 | row (e:TypeId)
 | mp (es:List (AV×AV))
structure Spec where
 dg:TC
 bG:TC
 n:Nat
 pre:dg.den→Prop
 f:dg.den→bG.den
 own:Option Own:=none
structure gf where
 c:TC
 cmp:Option FuncId
 f:List c.den→List c.den
 enc:c.den→List Value
 res:Option (List c.den→Nat):=none
structure aN where
 t:TypeId
 lf:Nat
 te:TypeId
 ce:TC
 st:TC
 arg:TC
 bG:TC
 n:Nat
 pos:Nat:=0
 box:Bool:=false
 pre:st.den×(List ce.den×arg.den)→Prop
 f:st.den×(List ce.den×arg.den)→List ce.den
 g:st.den×(List ce.den×arg.den)→bG.den
inductive S8 where
 | fin
 | one (k:Nat) (s:S8)
 | two (j k:Nat) (s s':S8)
 | alt (k:Nat) (s s':S8)
structure Env where
 P:Program
 ty:TypeId→Option ba
 fns:FuncId→Option Func
 cI:Nat→Option AV
 spec:FuncId→Option Spec
 mask:FuncId→Nat→Option (List Nat)
 exact:FuncId→Bool:=fun _=>false
 apart:FuncId→Bool:=fun _=>false
 split:FuncId→Nat→Option (Nat×List Step×Nat):=fun _ _=>none
 sched:FuncId→Nat→Option S8:=fun _ _=>none
 sort:FuncId→Option gf:=fun _=>none
 ac3:Bool:=false
 YF:FuncId→Nat→Option Nat:=fun _ _=>none
 tail:FuncId→Nat→Bool:=fun _ _=>false
 proc:FuncId→Option aN:=fun _=>none
 procs:Bool:=false
 rows:Bool:=false
 PT:FuncId→Bool:=fun _=>false
 lX:TypeId→Bool:=fun _=>false
 oW:Bool:=false
 HP:FuncId→Nat→List Nat:=fun _ _=>[]
 EE:Bool:=false
def Ic:TypeDesc→Bool
 | .struct _=>true
 | .array _ _=>true
 | _=>false
def ofV:Value→Option AV
 | .int k n=>some (.int k n)
 | .bool b=>some (.bool b)
 | .string s=>some (.str s)
 | .pointer none=>some (.raw (.pointer none))
 | .slice none 0 0=>some (.raw (.slice none 0 0))
 | .nilFunc=>some (.raw .nilFunc)
 | .map none=>some (.raw (.map none))
 | .nilIface=>some (.raw .nilIface)
 | _=>none
def ev (E:Env) (T:List AV):Operand→Option AV
 | .tmp t=>T[t]?
 | .const v=>ofV v
 | .global g=>match E.cI g with | some v=>some (.ref v) | none=>none
 | .func f=>some (.fn f [])
def ph (E:Env) (T:List AV):List Operand→Option (List AV)
 | []=>some []
 | x :: l=>match ev E T x,ph E T l with | some v,some vs=>some (v :: vs) | _,_=>none
def av (k:IntKind) (x y:Int):Int:=k.wrap ((BitVec.ofInt k.bits x &&& BitVec.ofInt k.bits y).toNat:Nat)
def dp (k:IntKind) (x y:Int):Int:=k.wrap ((BitVec.ofInt k.bits x ||| BitVec.ofInt k.bits y).toNat:Nat)
def Uh (k:IntKind) (x y:Int):Int:=k.wrap ((BitVec.ofInt k.bits x ^^^ BitVec.ofInt k.bits y).toNat:Nat)
def ic (k:IntKind) (x y:Int):Int:=k.wrap ((BitVec.ofInt k.bits x &&& ~~~BitVec.ofInt k.bits y).toNat:Nat)
def aJ (k:IntKind) (x y:Int):Int:=k.wrap (x+y)
def eG (k:IntKind) (x y:Int):Int:=k.wrap (x - y)
def cX (k:IntKind) (x y:Int):Int:=k.wrap (x * y)
def X5 (k:IntKind) (x y:Int):Int:=k.wrap (x.tdiv y)
def pf (_k:IntKind) (x y:Int):Int:=x.tmod y
def b7 (k:IntKind) (x y:Int):Int:=k.wrap (x * 2 ^ (min y.toNat k.bits))
def a9 (k:IntKind) (x y:Int):Int:=x.fdiv (2 ^ (min y.toNat k.bits))
def af (k:IntKind) (x:Int):Int:=k.wrap x
def X6 (k:IntKind) (x:Int):Int:=k.wrap (0 - x)
def Uj (k:IntKind) (x:Int):Int:=Uh k (if k.signed then -1 else k.max) x
def ae (x y:Int):Bool:=x==y
def cB (x y:Int):Bool:=x != y
def bd (x y:Int):Bool:=decide (x < y)
def bK (x y:Int):Bool:=decide (x≤y)
def kq:(c:TC)→c.den→c.den→Bool
 | .int _,x,y=>ae x y
 | .bool,x,y=>x==y
 | .str,x,y=>x==y
 | .st a r,x,y=>kq a x.1 y.1&&kq r x.2 y.2
 | .a7 a,x,y=>kq a x y&&true
 | _,_,_=>false
def xN (x y:Int):Int:=if y < x then y else x
def imax (x y:Int):Int:=if y > x then y else x
def VD (op:BinOp) (k:IntKind) (a b:Int):Option (List Prop×AV):=
 match op with
 | .add=>some ([],.int k (aJ k a b))
 | .sub=>some ([],.int k (eG k a b))
 | .mul=>some ([],.int k (cX k a b))
 | .quo=>some ([b≠0],.int k (X5 k a b))
 | .rem=>some ([b≠0],.int k (pf k a b))
 | .and=>some ([],.int k (av k a b))
 | .or=>some ([],.int k (dp k a b))
 | .xor=>some ([],.int k (Uh k a b))
 | .andNot=>some ([],.int k (ic k a b))
 | .eql=>some ([],.bool (ae a b))
 | .neq=>some ([],.bool (cB a b))
 | .lss=>some ([],.bool (bd a b))
 | .leq=>some ([],.bool (bK a b))
 | .gtr=>some ([],.bool (bd b a))
 | .geq=>some ([],.bool (bK b a))
 | _=>none
def FL:AV→Option (List Prop×Bool)
 | .raw (.slice none 0 0)=>some ([],true)
 | .aS _ _ _ _ _ _=>some ([],false)
 | .dA _ xs=>some ([0 < xs.length],false)
 | _=>none
def bin (op:BinOp) (t:Option ba) (x y:AV):Option (List Prop×AV):=
 match x,y with
 | .int k a,.int k' b=>match op with
  | .shl=>some ([0≤b],.int k (b7 k a b))
  | .shr=>some ([0≤b],.int k (a9 k a b))
  | op=>if k=k' then VD op k a b else none
 | .bool a,.bool b=>match t with
  | some t=>match t.desc,op with
   | .bool,.eql=>some ([],.bool (a==b))
   | .bool,.neq=>some ([],.bool (!(a==b)))
   | _,_=>none
  | none=>none
 | .str a,.str b=>match op with
  | .add=>some ([a.size+b.size≤2 ^ 40],.str (a++b))
  | _=>none
 | x,.raw (.slice none 0 0)=>match t with
  | some t=>match t.desc,op,FL x with
   | .slice _,.eql,some (q,b)=>some (q,.bool b)
   | .slice _,.neq,some (q,b)=>some (q,.bool (!b))
   | _,_,_=>none
  | none=>none
 | _,_=>none
def un (op:UnOp) (x:AV):Option AV:=
 match op,x with
 | .neg,.int k n=>some (.int k (X6 k n))
 | .xor,.int k n=>some (.int k (Uj k n))
 | .not,.bool b=>some (.bool (!b))
 | _,_=>none
def pB (b:Bool) (x y:AV):AV:=
 match x,y with
 | .int k m,.int k' n=>if k=k' then .int k (cond b m n) else cond b x y
 | .bool m,.bool n=>.bool (cond b m n)
 | x,y=>cond b x y
abbrev al:=List aG
def ba.agg (d:ba):Bool:=Ic d.desc
def fq (H:al):AV→Option (List Prop×AV)
 | .ptr o p=>match H[o]? with
  | some (.cell _ _ v)=>jx v p
  | some (.row _ c xs)=>match jx (.arr xs.length c xs) p with
   | some (q,v)=>some ((0 < xs.length) :: q,v)
   | none=>none
  | _=>none
 | .ref v=>some ([],v)
 | _=>none
def pR (H:al) (a x:AV):Option (List Prop×al):=
 match a with
 | .ptr o p=>match H[o]? with
  | some (.cell true t v)=>match jx v p with
   | some (q,u)=>if nJ u=nJ x then (match tK v p x with | some v'=>some (q,H.set o (.cell true t v')) | none=>none) else none
   | none=>none
  | some (.row t c xs)=>match jx (.arr xs.length c xs) p with
   | some (q,u)=>if nJ u=nJ x then (match tK (.arr xs.length c xs) p x with
    | some (.arr _ c' xs')=>if h:c'=c then some ((0 < xs.length) :: q,H.set o (.row t c (h▸xs'))) else none
    | _=>none) else none
   | none=>none
  | _=>none
 | _=>none
def wo (v:AV) (s:Step):Option (List Prop×AV):=jx v [s]
def ox (E:Env) (d:ba) (f:Nat):Option (Nat×ba):=
 match d.desc with
 | .struct fs=>match fs[f]? with
  | some fd=>match E.ty fd.type with
   | some x=>if x.size=0 then none else some (fd.offset,x)
   | none=>none
  | none=>none
 | _=>none
def kN (E:Env) (d:ba) (x:AV) (f:Nat):Option (List Prop×AV):=
 match ox E d f with
 | some (off,_)=>match x with
  | .ptr o p=>some ([],.ptr o (p++[.Px off f]))
  | .ref v=>match wo v (.Px off f) with | some (q,u)=>some (q,.ref u) | none=>none
  | _=>none
 | none=>none
def qe (E:Env) (d:ba) (x:AV) (f:Nat):Option (List Prop×AV):=
 match ox E d f with
 | some (off,e)=>match wo x (.Px off f) with
  | some (q,u)=>if nJ u=e.size∧dJ u=e.agg then some (q,u) else none
  | none=>none
 | none=>none
def jw (d:ba) (s:Nat) (x i:AV):Option (List Prop×AV):=
 match i with
 | .int _ i=>match d.desc,x with
  | .array n _,.ptr o p=>some ([0≤i,i < n],.ptr o (p++[.idx s i.toNat]))
  | .array n _,.ref v=>match wo v (.idx s i.toNat) with | some (q,u)=>some ((0≤i) :: (i < n) :: q,.ref u) | none=>none
  | .slice _,.dA c xs=>if c.size=s then some ([0≤i,i < xs.length],.ref (tN c (eX c xs i.toNat))) else none
  | .slice _,.aS o p s' off len _=>if s'=s then some ([0≤i,i < len],.ptr o (p++[.idx s (off+i.toNat)])) else none
  | .slice _,.row o s' n=>if s'=s then some ([0≤i,i < n],.ptr o [.idx s i.toNat]) else none
  | _,_=>none
 | _=>none
def sw (d e:ba) (x i:AV):Option (List Prop×AV):=
 match i with
 | .int _ i=>match d.desc with
  | .array n _=>match wo x (.idx e.size i.toNat) with
   | some (q,u)=>if nJ u=e.size∧dJ u=e.agg then some ((0≤i) :: (i < n) :: q,u) else none
   | none=>none
  | _=>none
 | _=>none
def Kr (s:ByteArray) (n:Nat):Int:=match s[n]? with | some b=>(b.toNat:Int) | none=>0
def FN (d:ba) (x i:AV):Option (List Prop×AV):=
 match d.desc,x,i with
 | .string,.str s,.int _ n=>some ([0≤n,n.toNat < s.size],.int .u8 (Kr s n.toNat))
 | _,_,_=>none
def loA:Option AV→Option (List Prop×Nat)
 | none=>some ([],0)
 | some (.int _ n)=>some ([0≤n],n.toNat)
 | _=>none
def BA (len:Nat) (cap:Option Nat):Nat:=match cap with | some k=>k | none=>len
def E3 (d:ba) (s:Nat) (x:AV) (lo hi:Option AV):Option (List Prop×AV):=
 match loA lo with
 | some (q,l)=>match d.desc,x with
  | .slice _,.dA c xs=>if c.size=s then (match hi with
   | none=>some (q++[l≤xs.length],.dA c (xs.drop l))
   | some (.int _ m)=>some (q++[0≤m,l≤m.toNat,m.toNat≤xs.length],.dA c ((xs.drop l).take (m.toNat - l)))
   | _=>none) else none
  | .slice _,.aS o p s' off len cap=>if s'=s then (match hi with
   | none=>some (q++[l≤len,l=0∨l < BA len cap],.aS o p s (off+l) (len - l) (cap.map fun k=>k - l))
   | some (.int _ m)=>some (q++[0≤m,l≤m.toNat,m.toNat≤BA len cap,l=0∨l < BA len cap],.aS o p s (off+l) (m.toNat - l) (cap.map fun k=>k - l))
   | _=>none) else none
  | .slice _,.raw (.slice none 0 0)=>(match hi with
   | none=>some (q++[l=0],.raw (.slice none 0 0))
   | some (.int _ m)=>some (q++[m=0,l=0],.raw (.slice none 0 0))
   | _=>none)
  | .array n _,.ref (.arr m c xs)=>(match lo,hi with
   | none,none=>if m=n∧c.size=s then some (q,.dA c xs) else none
   | _,_=>none)
  | .string,.str b=>(match hi with
   | none=>some (q++[l≤b.size],.str (b.extract l b.size))
   | some (.int _ m)=>some (q++[0≤m,l≤m.toNat,m.toNat≤b.size],.str (b.extract l m.toNat))
   | _=>none)
  | _,_=>none
 | none=>none
def Vr (E:Env) (T:List AV):Option Operand→Option (Option AV)
 | none=>some none
 | some x=>match ev E T x with | some v=>some (some v) | none=>none
def Rq (eq:TypeId→AV→AV→Option Bool) (E:Env) (d:ba) (x y:AV):Nat→List Field→Option Bool
 | _,[]=>some true
 | i,f :: fs=>match qe E d x i,qe E d y i with
  | some ([],u),some ([],v)=>match eq f.type u v,Rq eq E d x y (i+1) fs with
   | some b,some r=>some (b&&r)
   | _,_=>none
  | _,_=>none
def Rr (xs ys:List Bool):Bool:=xs==ys
def Ec (m:Nat):AV→AV→Option Bool
 | .arr n .bool xs,.arr n' .bool ys=>if n=m∧n'=m then some (Rr xs ys) else none
 | _,_=>none
def Py (E:Env):Nat→TypeId→AV→AV→Option Bool
 | 0,_,_,_=>none
 | n+1,t,x,y=>match E.ty t with
  | some d=>match d.desc with
   | .bool=>match x,y with
    | .bool a,.bool b=>some (a==b)
    | _,_=>none
   | .int _=>match x,y with
    | .int k a,.int k' b=>if k=k' then some (ae a b) else none
    | _,_=>none
   | .string=>match x,y with
    | .str a,.str b=>some (a==b)
    | _,_=>none
   | .struct fs=>if dJ x=true∧dJ y=true∧E.P.stoodInHeld t=false∧(fs.toList.all fun f=>f.name != "_")=true then Rq (Py E n) E d x y 0 fs.toList else none
   | .array m el=>match E.ty el with
    | some de=>match de.desc with
     | .bool=>if 0 < n∧de.size=1 then Ec m x y else none
     | _=>none
    | none=>none
   | _=>none
  | none=>none
def VC (E:Env) (op:BinOp) (t:TypeId) (x y:AV):Option AV:=
 match Py E 100 t x y with
 | some b=>if (!dJ x||!E.P.eqGuardType E.P.depth t)=true then (match op with
  | .eql=>some (.bool b)
  | .neq=>some (.bool (!b))
  | _=>none) else none
 | none=>none
def wC (k:IntKind) (n:Int) (es:List (AV×AV)):Bool:=es.all fun e=>match e.1 with
 | .int k' n'=>decide (k=k')&&!(ae n n')
 | _=>false
def Li:AV→AV→Bool
 | .int k _,.int k' _=>decide (k=k')
 | .bool _,.bool _=>true
 | _,_=>false
def wD (n:Int) (k:IntKind) (z:AV):List (AV×AV)→Option (AV×Bool)
 | []=>some (z,false)
 | e :: es=>match e.1,wD n k z es with
  | .int k' n',some (v,b)=>if k=k'∧Li e.2 v=true then some (pB (ae n n') e.2 v,cond (ae n n') true b) else none
  | _,_=>none
def gM (n:Int):List (Int×Int)→Int
 | []=>0
 | e :: l=>cond (ae n e.1) e.2 (gM n l)
def FO (n:Int):List (Int×Int)→Bool
 | []=>false
 | e :: l=>cond (ae n e.1) true (FO n l)
def pg (n m:Int):List (Int×Int)→List (Int×Int)
 | []=>[(n,m)]
 | e :: l=>cond (ae n e.1) ((n,m) :: l) (e :: pg n m l)
def s5 (n:Int) (k:IntKind) (z:AV):List (AV×AV)→Option (AV×Bool)
 | []=>some (z,false)
 | e :: es=>match e.1 with
  | .int k' n'=>if k=k' then cond (ae n n') (some (e.2,true)) (s5 n k z es) else none
  | _=>none
def ly (ok:Bool) (v:AV) (fl:Bool):AV:=match ok with
 | true=>.nk [v,.bool fl]
 | false=>v
def lz (n:Int) (k:IntKind) (z:AV) (go:AV→Bool→Prop):List (AV×AV)→Prop
 | []=>go z false
 | e :: es=>match e.1 with
  | .int k' n'=>if k=k' then cond (ae n n') (go e.2 true) (lz n k z go es) else False
  | _=>False
def oN (E:Env) (d:ba):Option Nat:=
 match d.desc with
 | .slice e=>match E.ty e with | some x=>some x.size | none=>none
 | .array _ e=>match E.ty e with | some x=>some x.size | none=>none
 | .string=>some 0
 | _=>none
def qQ:AV→Bool
 | .nk _=>false
 | .any=>false
 | .oW _=>false
 | _=>true
def JK (d:ba) (t:TypeId) (v:AV) (H:al):Option (List Prop×AV×al):=
 if nJ v=d.size∧qQ v=true then some ([],.ptr H.length [],H++[.cell true t v]) else none
def pI (st:Nat→Option (Step×Nat)):AV→List (Nat×AV)→Option (List Prop×AV)
 | v,[]=>some ([],v)
 | v,(i,x) :: l=>match st i with
  | some (s,n)=>match jx v [s] with
   | some (q,u)=>if nJ u=n∧nJ x=n∧qQ x=true then (match tK v [s] x with
    | some v'=>match pI st v' l with
     | some (q',r)=>some (q++q',r)
     | none=>none
    | none=>none) else none
   | none=>none
  | none=>none
def lJ (E:Env) (T:List AV):List (Nat×Operand)→Option (List (Nat×AV))
 | []=>some []
 | (i,x) :: l=>match ev E T x,lJ E T l with | some v,some vs=>some ((i,v) :: vs) | _,_=>none
def Zv:AV→Bool
 | .aS _ _ _ _ _ _=>true
 | .ptr _ _=>true
 | .fn _ _=>true
 | .yO _ _=>true
 | _=>false
def spread:AV→AV
 | .arr _ c xs=>.agg (List.replicate xs.length c.size) (xs.map (tN c))
 | v=>v
def Ai (z:AV) (parts:List (Nat×AV)):AV:=if parts.any (fun p=>Zv p.2)=true then spread z else z
def F6 (E:Env) (d:ba) (s:Nat) (parts:List (Nat×AV)):Option (List Prop×AV):=
 match d.desc with
 | .struct fs=>if fs.toList.all (fun f=>(E.ty f.type).isSome)=true then pI (fun i=>match ox E d i with | some (off,e)=>some (.Px off i,e.size) | none=>none) d.zero parts else none
 | .array _ _=>pI (fun i=>some (.idx s i,s)) (Ai d.zero parts) parts
 | _=>none
def bL {α:Type} (xs:List α) (i:Nat) (ys:List α):List α:=xs.take i++(ys++xs.drop (i+ys.length))
def nI (c:TC) (H:al):AV→Option (List Prop×List c.den)
 | .dA c' xs=>if h:c'=c then some ([],h▸xs) else none
 | .raw (.slice none 0 0)=>some ([],[])
 | .aS o p s off len _=>match H[o]? with
  | some (.cell _ _ v)=>match jx v p with
   | some (q,.arr n c' xs)=>if h:c'=c then (if s=c.size then some (q++[off+len≤n],((h▸xs:List c.den).drop off).take len) else none) else none
   | _=>none
  | _=>none
 | _=>none
def PG (E:Env) (s d:ba) (v:AV):Option AV:=
 match s.desc,d.desc with
 | .slice e,.string=>match E.ty e with
  | some de=>match de.desc with
   | .int .u8=>match v with
    | .dA (.int .u8) xs=>some (.str (strOfNums xs))
    | .raw (.slice none 0 0)=>some (.str (strOfNums []))
    | _=>none
   | _=>none
  | none=>none
 | _,_=>none
def O2 (s0:Nat) (H:al) (d x:AV):Option (List Prop×AV×al):=
 match d with
 | .aS ob [] s off len _=>match H[ob]? with
  | some (.cell true t (.arr m c xs))=>match nI c H x with
   | some (q,ys)=>if s=c.size∧s0=s then some (q++[off+len≤m],.int .i64 ((min ys.length len:Nat):Int),H.set ob (.cell true t (.arr m c (bL xs off (ys.take len))))) else none
   | none=>none
  | _=>none
 | _=>none
def Ht (e:TypeId) (de:ba) (H:al) (len cap:AV):Option (List Prop×AV×al):=
 match len,cap with
 | .int _ l,.int _ c=>match de.code with
  | some tc=>match toD tc de.zero with
   | some z=>if tc.size=de.size then
     some ([0≤l,l≤c,c≤2 ^ 40,c.toNat * de.bytes≤2 ^ 40],.aS H.length [] de.size 0 l.toNat (some c.toNat),H++[.cell true e (.arr c.toNat tc (List.replicate c.toNat z))])
    else none
   | none=>none
  | none=>none
 | _,_=>none
def As (s:gf) (as:List AV):Option AV:=
 match s.cmp,as with
 | some g,[x,.fn g' []]=>if g'=g then some x else none
 | none,[x]=>some x
 | _,_=>none
def gf.rest (s:gf):Array Value:=
 match s.cmp with
 | some g=>#[.func (.func g) #[] #[]]
 | none=>#[]
def gf.Yp (s:gf) (o z off:Nat) (xs:List s.c.den) (cap:Option Nat):AV:=
 match s.res with
 | none=>.nk []
 | some g=>.aS o [] z off (g xs) cap
def gf.Yo (s:gf):AV:=
 match s.res with
 | none=>.nk []
 | some _=>.raw (.slice none 0 0)
def Lc (s:gf) (H:al) (as:List AV):Option (List Prop×AV×al):=
 match As s as with
 | some (.raw (.slice none 0 0))=>some ([],s.Yo,H)
 | some (.aS ob [] z off len cap)=>match H[ob]? with
  | some (.cell true t (.arr m c xs))=>
   if h:c=s.c then
    if z=s.c.size then some ([off+len≤m,len < 2 ^ 60],s.Yp ob z off (((h▸xs:List s.c.den).drop off).take len) cap,H.set ob (.cell true t (.arr m s.c (bL (h▸xs:List s.c.den) off (s.f (((h▸xs:List s.c.den).drop off).take len))))))
    else none
   else none
  | _=>none
 | _=>none
end Go.aA
end
section
namespace Go.aA
open Go.RowKit
inductive FK where
 | top
 | call (dst:Option Tmp)
 | round (l:Nat) (dst:Option Tmp)
 | iter (l:Nat)
inductive It where
 | code (c:Code)
 | now (c:Code)
 | bB (id:Nat)
 | lp (c:Code)
 | ops (all rest:List Oper)
 | begin (l:Nat)
 | fin (l:Nat)
 | PL
structure Fr where
 id:FuncId
 kind:FK
 T:List AV
 items:List It
 D:List Nat
 base:Nat
structure Cut where
 tmps:List Nat
 loops:List (Nat×List Nat)
 dead:List Nat
 aF:List (List Nat):=[]
 EE:Bool:=false
def jf:List Nat→Nat→List AV→List AV
 | _,_,[]=>[]
 | [],i,_ :: T=>.any :: jf [] (i+1) T
 | k :: ks,i,v :: T=>if k==i then v :: jf ks (i+1) T else .any :: jf (k :: ks) (i+1) T
def F3:List (List Nat)→List Fr→List Fr
 | k :: ks,f :: fs=>{f with T:=jf k 0 f.T} :: F3 ks fs
 | _,fs=>fs
def CY (E:Env) (f:FuncId) (id:Nat) (T:List AV):List AV:=
 match E.mask f id with
 | some ks=>jf ks 0 T
 | none=>T
def tM:List Nat→Nat→Nat→Option Nat
 | [],_,_=>none
 | x :: l,i,o=>if x==o then some i else tM l (i+1) o
mutual
def iy (l:List Nat):AV→Option AV
 | .agg ss vs=>match jO l vs with | some us=>some (.agg ss us) | none=>none
 | .nk vs=>match jO l vs with | some us=>some (.nk us) | none=>none
 | .ptr o p=>match tM l 0 o with | some j=>some (.ptr j p) | none=>none
 | .aS o p s off len cap=>match tM l 0 o with | some j=>some (.aS j p s off len cap) | none=>none
 | .fn f cs=>match jO l cs with | some us=>some (.fn f us) | none=>none
 | .yO f cs=>match jO l cs with | some us=>some (.yO f us) | none=>none
 | .jl o=>match tM l 0 o with | some j=>some (.jl j) | none=>none
 | .mp o=>match tM l 0 o with | some j=>some (.mp j) | none=>none
 | .row o s n=>match tM l 0 o with | some j=>some (.row j s n) | none=>none
 | .ref v=>match iy l v with | some u=>some (.ref u) | none=>none
 | v=>some v
def jO (l:List Nat):List AV→Option (List AV)
 | []=>some []
 | v :: vs=>match iy l v,jO l vs with | some u,some us=>some (u :: us) | _,_=>none
end
def P3 (l:List Nat):List (AV×AV)→Option (List (AV×AV))
 | []=>some []
 | e :: es=>match iy l e.1,iy l e.2,P3 l es with | some a,some b,some r=>some ((a,b) :: r) | _,_,_=>none
def tL (l:List Nat):aG→Option aG
 | .cell own t v=>match iy l v with | some u=>some (.cell own t u) | none=>none
 | .map es=>match P3 l es with | some r=>some (.map r) | none=>none
 | .loop s p f T ps a b dd=>match jO l T,tM l 0 dd with | some T',some j=>some (.loop s p f T' ps a b j) | _,_=>none
 | .hole=>none
 | x=>some x
def Vw (ks:List Nat):aG→aG
 | .loop s p f T ps a b d=>.loop s p f (jf ks 0 T) ps a b d
 | x=>x
def xQ (g:Cut) (o:Nat) (x:aG):aG:=if g.dead.contains o then .dead else match g.loops.lookup o with | some ks=>Vw ks x | none=>x
mutual
def Cs:AV→List Nat
 | .agg _ vs=>p5 vs
 | .nk vs=>p5 vs
 | .ptr o _=>[o]
 | .aS o _ _ _ _ _=>[o]
 | .fn _ cs=>p5 cs
 | .yO _ cs=>p5 cs
 | .jl o=>[o]
 | .mp o=>[o]
 | .row o _ _=>[o]
 | .ref v=>Cs v
 | _=>[]
def p5:List AV→List Nat
 | []=>[]
 | v :: vs=>Cs v++p5 vs
end
def Sa:aG→List Nat
 | .cell _ _ v=>Cs v
 | .map es=>es.flatMap fun e=>Cs e.1++Cs e.2
 | .loop _ _ _ T _ _ _ d=>d :: p5 T
 | _=>[]
def visit (g:Cut) (H:List aG):Nat→List Nat→List Nat→List Nat
 | 0,seen,_=>seen
 | _+1,seen,[]=>seen
 | n+1,seen,o :: todo=>if seen.contains o then visit g H n seen todo else match H[o]? with
  | some x=>visit g H n (seen++[o]) (Sa (xQ g o x)++todo)
  | none=>seen
def Sb (g:Cut):Nat→Nat→List aG→List Nat
 | n+1,i,x :: H=>Sa (xQ g i x)++Sb g n (i+1) H
 | _,_,_=>[]
def Na (g:Cut) (fr:Fr) (H:List aG):List Nat:=visit g H 100000 (List.range fr.base) (fr.D.reverse++p5 (jf g.tmps 0 fr.T)++Sb g fr.base 0 H)
def F4 (g:Cut) (l:List Nat) (H:List aG):List Nat→Option (List aG)
 | []=>some []
 | o :: os=>match H[o]? with
  | some x=>match tL l (xQ g o x),F4 g l H os with
   | some y,some r=>some (y :: r)
   | _,_=>none
  | none=>none
def Lz (l:List Nat):List Nat→Option (List Nat)
 | []=>some []
 | d :: ds=>match tM l 0 d,Lz l ds with
  | some j,some r=>some (j :: r)
  | _,_=>none
def JB (l:List Nat) (o:Nat):Bool:=match tM l 0 o with | some j=>j==o | none=>false
def XZ (l:List Nat):FK→Bool
 | .round o _=>JB l o
 | _=>true
def FJ (l:List Nat):List It→Bool
 | []=>true
 | .begin o :: k=>JB l o&&FJ l k
 | .fin o :: k=>JB l o&&FJ l k
 | _ :: k=>FJ l k
def nodupB:List Nat→Bool
 | []=>true
 | x :: l=>!l.contains x&&nodupB l
def Bm:Nat→Nat→List Nat→Bool
 | 0,_,_=>true
 | n+1,i,x :: l=>x==i&&Bm n (i+1) l
 | _,_,_=>false
def rE (g:Cut) (l:List Nat) (fr:Fr) (H:List aG):Option (Fr×List aG):=
 if XZ l fr.kind&&FJ l fr.items&&nodupB l&&Bm fr.base 0 l then
  match jO l (jf g.tmps 0 fr.T),Lz l fr.D,F4 g l H l with
  | some T,some D,some H=>some ({fr with T,D},H)
  | _,_,_=>none
 else none
def DE:FK→Bool
 | .top=>true
 | _=>false
def gP (H:List aG):List Nat→Option (List aG)
 | []=>some H
 | d :: ds=>match H[d]? with
  | some .my=>gP (H.set d .dead) ds
  | _=>none
def RA (g:Cut) (fr:Fr) (H:List aG):Option (Fr×List aG):=
 match g.EE with
 | false=>rE g (Na g fr H) fr H
 | true=>match gP H fr.D with
  | some H=>rE g (Na g {fr with D:=[]} H) {fr with D:=[]} H
  | none=>none
def toBlk (id:Nat):List It→Option (List It)
 | []=>none
 | .bB j :: k=>if j=id then some k else toBlk id k
 | .begin _ :: _=>none
 | .fin _ :: _=>none
 | _ :: k=>toBlk id k
def through:List It→Bool
 | []=>true
 | .begin _ :: _=>false
 | .fin _ :: _=>false
 | _ :: k=>through k
def TK (E:Env) (H:al) (T:List AV):ResultVar→Option (List Prop×AV)
 | .tmp t=>match T[t]? with | some v=>some ([],v) | none=>none
 | .cell a t=>match T[a]?,E.ty t with
  | some a,some d=>match fq H a with
   | some (q,v)=>if nJ v=d.size∧dJ v=d.agg then some (q,v) else none
   | none=>none
  | _,_=>none
def Cm (E:Env) (H:al) (T:List AV):List ResultVar→Option (List Prop×List AV)
 | []=>some ([],[])
 | r :: l=>match TK E H T r,Cm E H T l with
  | some (q,v),some (q',vs)=>some (q++q',v :: vs)
  | _,_=>none
def Fb (E:Env) (H:al) (T:List AV) (fn:Func):Option (List Prop×AV):=
 match Cm E H T fn.results.toList with
 | some (q,[v])=>some (q,v)
 | some (q,vs)=>if vs.all qQ=true then some (q,.nk vs) else none
 | none=>none
def bZ (T:List AV) (d:Option Tmp) (v:AV):List AV:=
 match d with | some d=>T.set d v | none=>T
def nV (n:Nat) (c:TC) (x:c.den):AV:=
 if n=1 then tN c x else if n=0 then .nk [] else .nk (c.both x).2
def oH (c:TC) (l:List AV):Option c.den:=
 match c,l with
 | .unit,[]=>some ()
 | .unit,_=>none
 | c,l=>c.back.2 l
def TC.flat:TC→Bool
 | .st a r=>a.flat&&r.flat
 | .a7 a=>a.flat
 | .slice _=>false
 | .arr _ c=>c.flat
 | .ref _=>false
 | _=>true
mutual
def view (H:al):AV→Option (List Prop×AV)
 | .ptr o p=>match H[o]? with
  | some (.cell _ _ v)=>match jx v p with
   | some (q,u)=>some (q,.ref u)
   | none=>none
  | _=>none
 | .aS o p s off len _=>match H[o]? with
  | some (.cell _ _ v)=>match jx v p with
   | some (q,.arr n c xs)=>if s=c.size then some (q++[off+len≤n],.dA c ((xs.drop off).take len)) else none
   | some _=>some ([],.a8)
   | none=>none
  | _=>none
 | .agg ss vs=>match views H vs with | some (q,us)=>some (q,.agg ss us) | none=>none
 | v=>some ([],v)
def views (H:al):List AV→Option (List Prop×List AV)
 | []=>some ([],[])
 | v :: vs=>match view H v,views H vs with
  | some (q,u),some (q',us)=>some (q++q',u :: us)
  | _,_=>none
end
mutual
def lD:AV→List Nat
 | .ptr o _=>[o]
 | .aS o _ _ _ _ _=>[o]
 | .agg _ vs=>cQ vs
 | _=>[]
def cQ:List AV→List Nat
 | []=>[]
 | v :: vs=>lD v++cQ vs
end
def eE (H:al):List Nat→Option al
 | []=>some H
 | o :: os=>match H[o]? with
  | some (.cell _ t v)=>eE (H.set o (.cell false t v)) os
  | _=>none
def settle (H:al) (ps:List (Nat×AV)):Option (List Prop×List (Nat×AV)×al):=
 if (cQ (ps.map (·.2))).isEmpty=true then some ([],ps,H) else
  match eE H (cQ (ps.map (·.2))) with
  | some H'=>match views H' (ps.map (·.2)) with
   | some (q,us)=>some (q,(ps.map (·.1)).zip us,H')
   | none=>none
  | none=>none
def EG (de:ba) (len:Nat):AV:=.agg (List.replicate len de.size) (List.replicate len de.zero)
def F8 (H:al) (as:List AV):Option (List Prop):=
 match as with
 | [.aS o _ _ _ _ _,.aS o' _ _ _ _ _]=>if o=o' then none else match H[o]?,H[o']? with
  | some (.cell true _ _),some (.cell true _ v)=>some [0 < nJ v]
  | _,_=>none
 | _=>none
def XU (H:al):AV→Bool
 | .ptr ob p=>match H[ob]? with
  | some (.cell _ _ v)=>match jx v p with
   | some (_,.agg _ _)=>true
   | _=>false
  | _=>false
 | .ref (.agg _ _)=>true
 | _=>false
def wm (i:Int):Nat→Nat→(Nat→Prop)→Prop
 | 0,_,_=>False
 | 1,j,go=>go j
 | n+2,j,go=>cond (ae i j) (go j) (wm i (n+1) (j+1) go)
def wY (e:TypeId) (c:TC) (z:c.den) (H:al) (n:Nat) (xs:List c.den) (go:AV→al→Prop):Prop:=
 ∀ j:Nat,go (.aS H.length [] c.size 0 n (some (n+j))) (H++[.cell true e (.arr (n+j) c (xs++List.replicate j z))])
def J7 (n:Nat):List AV:=List.replicate n AV.undef
def kO (E:Env) (d:ba):Option (TypeId×ba):=
 match d.desc with
 | .slice e=>match E.ty e with | some x=>some (e,x) | none=>none
 | .array _ e=>match E.ty e with | some x=>some (e,x) | none=>none
 | _=>none
def On (E:Env) (d:ba):Option Nat:=
 match d.desc with
 | .array _ e=>match E.ty e with | some x=>some x.size | none=>none
 | _=>some 0
def su (d:ba):Bool:=match d.desc with | .slice _=>true | _=>false
def isSlice (E:Env) (ts:Array TypeId):Bool:=
 match ts[0]? with
 | some t=>match E.ty t with
  | some d=>match d.desc with | .slice _=>true | _=>false
  | none=>false
 | none=>false
def JQ (E:Env) (H:al) (t1:TypeId) (s x:AV):Option (List Prop×AV×al):=
 match E.ty t1 with
 | some d=>match kO E d with
  | some (e,de)=>match su d,de.code with
   | true,some c=>if c.size=de.size∧de.size≠0 then
    match nI c H x with
    | some (q,ys)=>match s,ys with
      | .raw (.slice none 0 0),[]=>some (q,.raw (.slice none 0 0),H)
      | .raw (.slice none 0 0),y :: ys=>some (q++[(y :: ys).length * de.bytes≤2 ^ 40,(y :: ys).length≤2 ^ 40],.aS H.length [] c.size 0 (y :: ys).length none,H++[.cell true e (.arr (y :: ys).length c (y :: ys))])
      | .aS ob [] s0 0 len none,ys=>match H[ob]? with
       | some (.cell true t (.arr m c' xs))=>
        if h:c'=c then
         if s0=c.size∧t=e then some (q++[len=m,(len+ys.length) * de.bytes≤2 ^ 40,len+ys.length≤2 ^ 40],.aS H.length [] s0 0 (len+ys.length) none,
          H.set ob .dead++[.cell true e (.arr (len+ys.length) c ((h▸xs:List c.den)++ys))])
         else none
        else none
       | _=>none
      | .aS ob [] s0 off len (some k),y :: ys=>match H[ob]? with
       | some (.cell true t (.arr m c' xs))=>
        if h:c'=c then
         if s0=c.size∧t=e∧k < len+(y :: ys).length then some (q++[off+len≤m,(len+(y :: ys).length) * de.bytes≤2 ^ 40,len+(y :: ys).length≤2 ^ 40],.aS H.length [] s0 0 (len+(y :: ys).length) none,
          H++[.cell true e (.arr (len+(y :: ys).length) c ((((h▸xs:List c.den).drop off).take len)++y :: ys))])
         else none
        else none
       | _=>none
      | _,_=>none
    | none=>none
    else none
   | _,_=>none
  | none=>none
 | none=>none
def RP (E:Env) (H:al) (t1:TypeId) (s x:AV):Option (List Prop×AV×al):=
 match E.ty t1 with
 | some d=>match kO E d with
  | some (e,de)=>match su d,de.code with
   | true,some c=>if c.size=de.size∧de.size≠0 then
    match nI c H x with
    | some (q,ys)=>match s with
      | .raw (.slice none 0 0)=>some (q++[ys.length * de.bytes≤2 ^ 40,ys.length≤2 ^ 40],.row H.length c.size ys.length,H++[.row e c ys])
      | .row ob s0 len=>match H[ob]? with
       | some (.row t c' xs)=>
        if h:c'=c then
         if s0=c.size∧t=e then some (q++[len=xs.length,(len+ys.length) * de.bytes≤2 ^ 40,len+ys.length≤2 ^ 40],.row H.length s0 (len+ys.length),
          H.set ob .dead++[.row e c ((h▸xs:List c.den)++ys)])
         else none
        else none
       | _=>none
      | _=>none
    | none=>none
    else none
   | _,_=>none
  | none=>none
 | none=>none
mutual
def cT (H:al):AV→Option (List Prop×AV×al)
 | .row o s n=>match H[o]? with
  | some (.row _ c xs)=>if s=c.size then some ([n=xs.length],.dA c xs,H.set o .dead) else none
  | _=>none
 | .agg ss vs=>match sT H vs with
  | some (q,us,H)=>some (q,.agg ss us,H)
  | none=>none
 | v=>some ([],v,H)
def sT (H:al):List AV→Option (List Prop×List AV×al)
 | []=>some ([],[],H)
 | v :: vs=>match cT H v with
  | some (q,u,H)=>match sT H vs with
   | some (q',us,H)=>some (q++q',u :: us,H)
   | none=>none
  | none=>none
end
def EH (E:Env) (H:al) (t1 t2:TypeId) (s x:AV):Option (List Prop×AV×al):=
 match E.ty t1,E.ty t2,x with
 | some d,some d2,.int _ n=>match d2.desc,kO E d with
  | .int _,some (e,de)=>match su d,de.code with
   | true,some c=>match toD c de.zero with
    | some z=>if c.size=de.size∧de.size≠0 then
      match s with
      | .raw (.slice none 0 0)=>some ([0 < n,n.toNat * de.bytes≤2 ^ 40,n.toNat≤2 ^ 40],.aS H.length [] c.size 0 n.toNat none,H++[.cell true e (.arr n.toNat c (List.replicate n.toNat z))])
      | .aS ob [] s0 off len (some k)=>match H[ob]? with
       | some (.cell true t (.arr m c' xs))=>
        if h:c'=c then
         if s0=c.size∧t=e then some ([0 < n,k < len+n.toNat,off+len≤m,(len+n.toNat) * de.bytes≤2 ^ 40,len+n.toNat≤2 ^ 40],.aS H.length [] s0 0 (len+n.toNat) none,
          H++[.cell true e (.arr (len+n.toNat) c ((((h▸xs:List c.den).drop off).take len)++List.replicate n.toNat z))])
         else none
        else none
       | _=>none
      | _=>none
     else none
    | none=>none
   | _,_=>none
  | _,_=>none
 | _,_,_=>none
def p9 (E:Env) (kt et:TypeId) (kk:IntKind) (n:Int) (ok:Bool) (xs:List (Int×Int)) (H:al):Option (List Prop×AV×al):=
 match E.ty kt,E.ty et with
 | some dk,some de=>match dk.desc,de.zero with
  | .int _,.int k z=>if kk=.i64∧k=.i64∧z=0 then some ([],ly ok (.int .i64 (gM n xs)) (FO n xs),H) else none
  | _,_=>none
 | _,_=>none
def NB (E:Env) (kt:TypeId) (kk:IntKind) (n:Int) (v:AV) (xs:List (Int×Int)) (o:Nat) (H:al):Option (List Prop×AV×al):=
 match E.ty kt with
 | some dk=>match dk.desc,v with
  | .int _,.int k m=>if kk=.i64∧k=.i64 then some ([],.undef,H.set o (.lX (pg n m xs))) else none
  | _,_=>none
 | none=>none
def kX (E:Env) (T:List AV) (H:al) (o:Oper):Option (List Prop×AV×al):=
 match o.op with
 | .move x | .assign x=>match ev E T x with | some v=>some ([],v,H) | none=>none
 | .pick c a b=>match ev E T c,ev E T a,ev E T b with | some (.bool c),some a,some b=>some ([],pB c a b,H) | _,_,_=>none
 | .alloc t=>match E.ty t with | some d=>JK d t d.zero H | none=>none
 | .box t x=>match E.ty t,ev E T x with | some d,some v=>JK d t v H | _,_=>none
 | .build t parts=>match E.ty t,lJ E T parts.toList with
  | some d,some ps=>match On E d with
   | some s=>match F6 E d s ps with
    | some (q,v)=>if dJ v=true then some (q,v,H) else none
    | none=>none
   | none=>none
  | _,_=>none
 | .buildSlice t len parts=>match E.ty t,lJ E T parts.toList with
  | some d,some ps=>match d.desc with
   | .slice e=>match E.ty e with
    | some de=>match de.code with
     | some c=>match toD c de.zero with
      | some z=>if c.size=de.size∧len * de.size≤2 ^ 24∧de.size≠0 then
        match settle H ps with
        | some (q0,ps,H)=>match pI (fun i=>some (.idx de.size i,de.size)) (.arr len c (List.replicate len z)) ps with
         | some (q,v)=>if nJ v=len * de.size then some (q0++q,.aS H.length [] de.size 0 len (some len),H++[.cell true e v]) else none
         | none=>none
        | none=>none
       else none
      | none=>none
     | none=>if len * de.size≤2 ^ 24∧de.size≠0 then
        match pI (fun i=>some (.idx de.size i,de.size)) (EG de len) ps with
        | some (q,v)=>if nJ v=len * de.size then some (q,.aS H.length [] de.size 0 len (some len),H++[.cell true e v]) else none
        | none=>none
       else none
    | none=>none
   | _=>none
  | _,_=>none
 | .load t a=>match E.ty t,ev E T a with
  | some d,some a=>match fq H a with
   | some (q,v)=>if nJ v=d.size∧dJ v=d.agg then some (q,v,H) else none
   | none=>none
  | _,_=>none
 | .store t a x=>match E.ty t,ev E T a,ev E T x with
  | some d,some a,some x=>if nJ x=d.size∧qQ x=true then (match pR H a x with | some (q,H')=>some (q,.undef,H') | none=>none) else none
  | _,_,_=>none
 | .nilCheck x=>match ev E T x with
  | some (.ptr o p)=>some ([],.ptr o p,H)
  | some (.ref v)=>some ([],.ref v,H)
  | some (.fn f cs)=>some ([],.fn f cs,H)
  | some (.jl l)=>some ([],.jl l,H)
  | _=>none
 | .binOp op t x y _=>match ev E T x,ev E T y with
  | some x,some y=>match bin op (E.ty t) x y with
   | some (q,v)=>some (q,v,H)
   | none=>match VC E op t x y with
    | some v=>some ([],v,H)
    | none=>none
  | _,_=>none
 | .unOp op _ x=>match ev E T x with
  | some x=>match un op x with | some v=>some ([],v,H) | none=>none
  | none=>none
 | .convert src dst x=>match E.ty src,E.ty dst,ev E T x with
  | some _,some d,some (.int _ n)=>match d.desc with | .int k=>some ([],.int k (af k n),H) | _=>none
  | some s,some d,some v=>match PG E s d v with | some u=>some ([],u,H) | none=>none
  | _,_,_=>none
 | .makeFunc (.func f) first caps=>match first.toList,ph E T caps.toList with
  | [],some cs=>if cs.all (fun v=>!dJ v&&qQ v)=true then some ([],.fn f cs,H) else none
  | x :: l,some []=>match ph E T (x :: l) with
   | some cs=>if cs.all (fun v=>!dJ v&&qQ v)=true then some ([],.yO f cs,H) else none
   | none=>none
  | _,_=>none
 | .fieldAddr s x f=>match E.ty s,ev E T x with
  | some d,some x=>match kN E d x f with | some (q,v)=>some (q,v,H) | none=>none
  | _,_=>none
 | .field s x f=>match E.ty s,ev E T x with
  | some d,some x=>match qe E d x f with | some (q,v)=>some (q,v,H) | none=>none
  | _,_=>none
 | .indexAddr t x i=>match E.ty t,ev E T x,ev E T i with
  | some d,some x,some i=>match kO E d with
   | some (_,e)=>match jw d e.size x i with | some (q,v)=>some (q,v,H) | none=>none
   | none=>none
  | _,_,_=>none
 | .index t x i=>match E.ty t,ev E T x,ev E T i with
  | some d,some x,some i=>match kO E d with
   | some (_,e)=>match sw d e x i with | some (q,v)=>some (q,v,H) | none=>none
   | none=>match FN d x i with | some (q,v)=>some (q,v,H) | none=>none
  | _,_,_=>none
 | .slice t x lo hi none=>match E.ty t,ev E T x,Vr E T lo,Vr E T hi with
  | some d,some x,some lo,some hi=>match oN E d with
   | some s=>match E3 d s x lo hi with | some (q,v)=>some (q,v,H) | none=>none
   | none=>none
  | _,_,_,_=>none
 | .extract x i=>match ev E T x with
  | some (.nk vs)=>match vs[i]? with | some v=>some ([],v,H) | none=>none
  | _=>none
 | .call {callee:=.builtin b,args,argTypes}=>match b,ph E T args.toList with
  | .min,some [.int k a,.int k' b]=>if k=k' then some ([],.int k (xN a b),H) else none
  | .max,some [.int k a,.int k' b]=>if k=k' then some ([],.int k (imax a b),H) else none
  | .len,some [.dA _ xs]=>if isSlice E argTypes=true then some ([],.int .i64 xs.length,H) else none
  | .len,some [.aS _ _ _ _ len _]=>if isSlice E argTypes=true then some ([],.int .i64 len,H) else none
  | .len,some [.row _ _ n]=>if isSlice E argTypes=true then some ([],.int .i64 n,H) else none
  | .len,some [.raw (.slice none 0 0)]=>if isSlice E argTypes=true then some ([],.int .i64 0,H) else none
  | .cap,some [.aS _ _ _ _ _ (some k)]=>if isSlice E argTypes=true then some ([],.int .i64 k,H) else none
  | .cap,some [.raw (.slice none 0 0)]=>if isSlice E argTypes=true then some ([],.int .i64 0,H) else none
  | .copy,some [d,x]=>match argTypes[0]? with
   | some t=>match E.ty t with
    | some dd=>match kO E dd with
     | some (_,de)=>if su dd=true then O2 de.size H d x else none
     | none=>none
    | none=>none
   | none=>none
  | _,_=>none
 | .makeSlice t len cap=>match E.ty t,ev E T len,ev E T cap with
  | some d,some l,some c=>match kO E d with
   | some (e,de)=>if su d=true then Ht e de H l c else none
   | none=>none
  | _,_,_=>none
 | .makeMap t none=>if E.lX t=true then some ([],.mp H.length,H++[.lX []]) else some ([],.mp H.length,H++[.map []])
 | .insert t m k x=>match E.ty t,ev E T m,ev E T k,ev E T x with
  | some d,some (.mp o),some (.int kk n),some v=>match d.desc,H[o]? with
   | .map kt _,some (.map es)=>match E.ty kt with
    | some dk=>match dk.desc with
     | .int _=>if wC kk n es=true∧qQ v=true then some ([],.undef,H.set o (.map (es++[(.int kk n,v)]))) else none
     | _=>none
    | none=>none
   | _,_=>none
  | _,_,_,_=>none
 | .lookup t m k ok=>match E.ty t,ev E T m,ev E T k with
  | some d,some (.mp ob),some (.int kk n)=>match d.desc,H[ob]? with
   | .map kt et,some (.map es)=>match E.ty kt,E.ty et with
    | some dk,some de=>match dk.desc with
     | .int _=>match s5 n kk de.zero es with
      | some (v,fl)=>some ([],ly ok v fl,H)
      | none=>none
     | _=>none
    | _,_=>none
   | .map kt et,some (.lX xs)=>p9 E kt et kk n ok xs H
   | _,_=>none
  | _,_,_=>none
 | .mapUpdate t m k x=>match E.ty t,ev E T m,ev E T k,ev E T x with
  | some d,some (.mp o),some (.int kk n),some v=>match d.desc,H[o]? with
   | .map kt _,some (.map es)=>match E.ty kt with
    | some dk=>match dk.desc with
     | .int _=>if wC kk n es=true∧qQ v=true then some ([],.undef,H.set o (.map (es++[(.int kk n,v)]))) else none
     | _=>none
    | none=>none
   | .map kt _,some (.lX xs)=>NB E kt kk n v xs o H
   | _,_=>none
  | _,_,_,_=>none
 | _=>none
def Nt (E:Env) (T:List AV) (H:al) (o:Oper) (go:AV→Prop):Prop:=
 match o.op with
 | .lookup t m k ok=>match E.ty t,ev E T m,ev E T k with
  | some d,some (.mp ob),some (.int kk n)=>match d.desc,H[ob]? with
   | .map kt et,some (.map es)=>match E.ty kt,E.ty et with
    | some dk,some de=>match dk.desc with
     | .int _=>match wD n kk de.zero es with
      | some (v,fl)=>go (ly ok v fl)
      | none=>lz n kk de.zero (fun v fl=>go (ly ok v fl)) es
     | _=>False
    | _,_=>False
   | .map kt et,some (.lX xs)=>match p9 E kt et kk n ok xs H with
    | some (_,v,_)=>go v
    | none=>False
   | _,_=>False
  | _,_,_=>False
 | _=>False
def Ph (E:Env) (T:List AV) (H:al) (o:Oper) (go:AV→al→Prop):Prop:=
 match o.op with
 | .call {callee:=.builtin .append,args,argTypes}=>match argTypes.toList,ph E T args.toList with
  | [t1,t2],some [s,x]=>if t1=t2 then
   match E.ty t1 with
   | some d=>match kO E d with
    | some (e,de)=>match su d,de.code with
     | true,some c=>if c.size=de.size∧de.size≠0 then
      match nI c H x with
      | some (q,ys)=>match s with
       | .raw (.slice none 0 0)=>nH q (cond (ae ys.length 0) (go s H) (nH [ys.length * de.bytes≤2 ^ 40,ys.length≤2 ^ 40] (go (.aS H.length [] c.size 0 ys.length none) (H++[.cell true e (.arr ys.length c ys)]))))
       | _=>False
      | none=>False
      else False
     | _,_=>False
    | none=>False
   | none=>False
   else False
  | _,_=>False
 | _=>False
def Ui:Op→Bool
 | .lookup ..=>true
 | _=>false
def isApp (E:Env) (T:List AV):Op→Bool
 | .call {callee:=.builtin .append,args,..}=>match ph E T args.toList with
  | some [.raw (.slice none 0 0),_]=>!E.rows
  | _=>false
 | _=>false
def rC (fn:Func) (args:List AV):List AV:=args++J7 (fn.ntmps - args.length)
def Cb (T:List AV):List Nat→List AV→List AV
 | p :: ps,v :: vs=>Cb (T.set p v) ps vs
 | _,_=>T
def O3 (T:List AV) (c:Operand) (b:Bool):List AV:=
 match c with
 | .tmp t=>T.set t (.bool b)
 | _=>T
def VF (E:Env) (H:al) (t1 t2:TypeId) (s x:AV) (go:AV→al→Prop):Prop:=
 match E.ty t1,E.ty t2 with
 | some d,some d2=>match kO E d with
  | some (e,de)=>match su d,de.code with
   | true,some c=>match toD c de.zero with
    | some z=>if c.size=de.size∧de.size≠0 then
      match d2.desc with
      | .int _=>match x with
       | .int _ n=>match s with
        | .raw (.slice none 0 0)=>nH [0 < n,n.toNat * de.bytes≤2 ^ 40,n.toNat≤2 ^ 40] (wY e c z H n.toNat (List.replicate n.toNat z) go)
        | .aS ob [] s0 off len (some k)=>match H[ob]? with
         | some (.cell true t (.arr m c' xs))=>
          if h:c'=c then
           if s0=c.size∧t=e then nH [0 < n,k < len+n.toNat,off+len≤m,(len+n.toNat) * de.bytes≤2 ^ 40,len+n.toNat≤2 ^ 40]
            (wY e c z H (len+n.toNat) ((((h▸xs:List c.den).drop off).take len)++List.replicate n.toNat z) go)
           else False
          else False
         | _=>False
        | _=>False
       | _=>False
      | _=>if t1=t2 then match nI c H x with
       | some (q,ys)=>match s with
        | .raw (.slice none 0 0)=>nH q (cond (ae ys.length 0) (go s H) (nH [ys.length * de.bytes≤2 ^ 40,ys.length≤2 ^ 40] (wY e c z H ys.length ys go)))
        | .aS ob [] s0 off len (some k)=>match H[ob]? with
         | some (.cell true t (.arr m c' xs))=>
          if h:c'=c then
           if s0=c.size∧t=e then nH q (cond (bd k ((len+ys.length:Nat):Int))
            (nH [off+len≤m,(len+ys.length) * de.bytes≤2 ^ 40,len+ys.length≤2 ^ 40] (wY e c z H (len+ys.length) ((((h▸xs:List c.den).drop off).take len)++ys) go))
            (nH [off+len+ys.length≤m] (go (.aS ob [] s0 off (len+ys.length) (some k)) (H.set ob (.cell true e (.arr m c (bL (h▸xs:List c.den) (off+len) ys)))))))
           else False
          else False
         | _=>False
        | _=>False
       | none=>False
       else False
     else False
    | none=>False
   | _,_=>False
  | none=>False
 | _,_=>False
abbrev qk:=Fr→List Fr→al→Prop
def HM:Option Code→Bool
 | none=>true
 | some .ret=>true
 | _=>false
def J4 (H:al) (v:AV):Option (List Prop×AV×al):=
 match v with
 | .nk vs=>match eE H (cQ vs) with
  | some H2=>match views H2 vs with
   | some (q,us)=>if us.all qQ=true then some (q,.nk us,H2) else none
   | none=>none
  | none=>none
 | v=>match eE H (lD v) with
  | some H2=>match view H2 v with
   | some (q,u)=>some (q,u,H2)
   | none=>none
  | none=>none
def leave (E:Env) (Q:AV→al→Prop) (K:qk) (fr:Fr) (j:Option Code) (aF:List Fr) (H:al):Prop:=
 match fr.kind,aF with
 | .round l dst,fr' :: stk'=>match H[l]? with
  | some (.loop _ _ f T ps a b d)=>if fr.D.isEmpty=true then K {fr' with T:=bZ fr'.T dst (.bool j.isNone)} stk' (H.set l (.loop (if j.isNone then .ready else .done) j f T ps a b d)) else False
  | _=>False
 | kind,aF=>if HM j then
   match E.fns fr.id with
   | some fn=>match gP H fr.D with
    | some H'=>match Fb E H' fr.T fn with
     | some (q,v)=>nH q (match kind,aF with
      | .top,[]=>Q v H'
      | .call dst,fr' :: stk'=>K {fr' with T:=bZ fr'.T dst v} stk' H'
      | .iter _,fr' :: stk'=>K fr' stk' H'
      | _,_=>False)
     | none=>False
    | none=>False
   | none=>False
  else False
def Yg:List It→Nat
 | .bB id :: _=>id
 | _=>0
def rowOf (ps:aN) (H:al):AV→Option (List Prop×List ps.ce.den×al)
 | .raw (.slice none 0 0)=>some ([],[],H)
 | .row o s n=>match H[o]? with
  | some (.row te c xs)=>if h:c=ps.ce then (if te=ps.te∧s=ps.ce.size then some ([n=xs.length],h▸xs,H.set o .dead) else none) else none
  | _=>none
 | _=>none
def GL (ps:aN) (H:al):AV→Option Nat
 | .ptr o []=>if ps.box=true then (match H[o]? with
  | some (.cell _ _ (.ptr ob []))=>some ob
  | _=>none) else some o
 | _=>none
def j8 (ps:aN) (H:al) (as:List AV):Option (List Prop×AV×al):=
 match as.drop ps.pos with
 | p :: as2=>match GL ps H p with
  | some ob=>match H[ob]? with
   | some (.cell true t (.agg ss vs))=>if t=ps.t∧ss=ps.st.hZ then
     match vs[ps.lf]?,ps.st.back.2 vs with
     | some r,some S=>match rowOf ps H r with
      | some (q1,xs,H1)=>if ((cQ (as.take ps.pos++as2)).all fun o=>o != ob)=true then
        match views H (as.take ps.pos++as2) with
        | some (q2,us)=>match oH ps.arg us with
         | some x=>some (q1++(q2++[ps.pre (S,xs,x)]),nV ps.n ps.bG (ps.g (S,xs,x)),
           H1.set ob (.cell true ps.t (.agg ps.st.hZ (vs.set ps.lf (.row H.length ps.ce.size (ps.f (S,xs,x)).length))))++[.row ps.te ps.ce (ps.f (S,xs,x))])
         | none=>none
        | none=>none
       else none
      | none=>none
     | _,_=>none
    else none
   | _=>none
  | none=>none
 | _=>none
def M3 (e:Own) (o:Nat):(c:TC)→c.den→Option (AV×aG)
 | .slice c,xs=>(match e with
  | .row e=>some (.aS o [] c.size 0 xs.length none,.cell true e (.arr xs.length c xs))
  | .mp _=>none)
 | .a8,_=>(match e with
  | .row _=>none
  | .mp es=>some (.mp o,.map es))
 | _,_=>none
def jZ (E:Env) (T:List AV) (H:al) (o:Oper) (go:List AV→al→Prop):Prop:=
 match kX E T H o with
 | some (q,v,H')=>nH q (go (bZ T o.dst v) H')
 | none=>False
def Eb (E:Env) (K:qk) (go:List AV→al→Prop) (fr:Fr) (aF:List Fr) (H:al) (o:Oper):Prop:=
 let T:=fr.T
 match o.op with
 | .call {callee:=.value f,args,..}=>match ev E T f,ph E T args.toList with
  | some (.fn f caps),some as=>
   if E.apart f=true then match F8 H (as++caps) with
    | some q=>nH q (go (bZ T o.dst (.bool false)) H)
    | none=>False
   else match E.sort f with
   | some sd=>match Lc sd H (as++caps) with
    | some (q,v,H')=>nH q (go (bZ T o.dst v) H')
    | none=>False
   | none=>match E.proc f with
   | some ps=>match j8 ps H (as++caps) with
    | some (q,v,H')=>nH q (go (bZ T o.dst v) H')
    | none=>False
   | none=>match E.spec f with
   | some sp=>
    if sp.bG.flat then
     match views H (as++caps) with
     | some (q,us)=>match oH sp.dg us with
      | some x=>nH q (sp.pre x∧go (bZ T o.dst (nV sp.n sp.bG (sp.f x))) H)
      | none=>False
     | none=>False
    else
     match eE H (cQ (as++caps)) with
     | some H'=>match views H' (as++caps) with
      | some (q,us)=>match oH sp.dg us with
       | some x=>nH q (sp.pre x∧match sp.own with
        | none=>go (bZ T o.dst (nV sp.n sp.bG (sp.f x))) H'
        | some e=>match M3 e H'.length sp.bG (sp.f x) with
         | some (v,ob)=>go (bZ T o.dst v) (H'++[ob])
         | none=>False)
       | none=>False
      | none=>False
     | none=>False
   | none=>match E.fns f with
    | some fn=>match fn.body with
     | some c=>K {id:=f,kind:=.call o.dst,T:=rC fn (as++caps),items:=[.code c],D:=[],base:=H.length} (fr :: aF) H
     | none=>False
    | none=>False
  | some (.yO f fs),some as=>match E.fns f with
   | some fn=>match fn.body with
    | some c=>K {id:=f,kind:=.call o.dst,T:=rC fn (fs++as),items:=[.code c],D:=[],base:=H.length} (fr :: aF) H
    | none=>False
   | none=>False
  | some (.jl l),some as=>match H[l]? with
   | some (.loop _ _ f T0 ps a b _)=>
    if as.length=ps.length then
     K {id:=f,kind:=.round l o.dst,T:=Cb T0 ps as,items:=[.code a,.begin l,.code b],D:=[],base:=H.length} (fr :: aF) H
    else False
   | _=>False
  | _,_=>False
 | .call {callee:=.builtin .append,args,argTypes}=>match argTypes.toList,ph E T args.toList with
  | [t1,t2],some [s,x]=>if E.PT fr.id=true then (if t1=t2 then (match RP E H t1 s x with
   | some (q,v,H')=>nH q (go (bZ T o.dst v) H')
   | none=>False) else False) else if E.exact fr.id=true then VF E H t1 t2 s x (fun v H=>go (bZ T o.dst v) H) else if t1=t2 then
   match E.ty t1 with
   | some d=>match kO E d with
    | some (e,de)=>match su d,de.code with
     | true,some c=>if c.size=de.size∧de.size≠0 then
      match nI c H x with
      | some (q,ys)=>match s with
       | .raw (.slice none 0 0)=>nH q (cond (ae ys.length 0) (go (bZ T o.dst s) H)
         (ys.length * de.bytes≤2 ^ 40∧ys.length≤2 ^ 40∧go (bZ T o.dst (.aS H.length [] c.size 0 ys.length none)) (H++[.cell true e (.arr ys.length c ys)])))
       | .aS ob [] s 0 len none=>match H[ob]? with
        | some (.cell true t (.arr m c' xs))=>
         if h:c'=c then
          if s=c.size∧t=e then nH q (len=m∧(len+ys.length) * de.bytes≤2 ^ 40∧len+ys.length≤2 ^ 40∧
           go (bZ T o.dst (.aS H.length [] s 0 (len+ys.length) none)) (H.set ob .dead++[.cell true e (.arr (len+ys.length) c ((h▸xs:List c.den)++ys))]))
          else False
         else False
        | _=>False
       | .aS ob [] s off len (some k)=>match H[ob]? with
        | some (.cell true t (.arr m c' xs))=>
         if h:c'=c then
          if s=c.size∧t=e then nH q (cond (bd k ((len+ys.length:Nat):Int))
           (off+len≤m∧(len+ys.length) * de.bytes≤2 ^ 40∧len+ys.length≤2 ^ 40∧
            go (bZ T o.dst (.aS H.length [] s 0 (len+ys.length) none)) (H++[.cell true e (.arr (len+ys.length) c ((((h▸xs:List c.den).drop off).take len)++ys))]))
           (off+len+ys.length≤m∧
            go (bZ T o.dst (.aS ob [] s off (len+ys.length) (some k))) (H.set ob (.cell true e (.arr m c (bL (h▸xs:List c.den) (off+len) ys))))))
          else False
         else False
        | _=>False
       | _=>False
      | none=>False
      else False
     | _,_=>False
    | none=>False
   | none=>False
   else match EH E H t1 t2 s x with
    | some (q,v,H')=>nH q (go (bZ T o.dst v) H')
    | none=>False
  | _,_=>False
 | .lookup t m k ok=>match E.ty t,ev E T m,ev E T k with
  | some d,some (.mp ob),some (.int kk n)=>match d.desc,H[ob]? with
   | .map kt et,some (.map es)=>match E.ty kt,E.ty et with
    | some dk,some de=>match dk.desc with
     | .int _=>match wD n kk de.zero es with
      | some (v,fl)=>go (bZ T o.dst (ly ok v fl)) H
      | none=>lz n kk de.zero (fun v fl=>go (bZ T o.dst (ly ok v fl)) H) es
     | _=>False
    | _,_=>False
   | .map kt et,some (.lX xs)=>match p9 E kt et kk n ok xs H with
    | some (_,v,_)=>go (bZ T o.dst v) H
    | none=>False
   | _,_=>False
  | _,_,_=>False
 | .indexAddr t x i=>match E.ty t,ev E T x,ev E T i with
  | some d,some u,some (.int k n)=>match d.desc,XU H u,kO E d with
   | .array m _,true,some (_,e)=>nH [0≤n,n < m] (wm n m 0 fun j=>match jw d e.size u (.int k j) with
    | some (q,v)=>nH q (go (bZ T o.dst v) H)
    | none=>False)
   | _,_,_=>jZ E T H o go
  | _,_,_=>jZ E T H o go
 | .slice t x none none none=>match E.ty t,ev E T x with
  | some d,some (.ptr ob p)=>match d.desc with
   | .array n el=>match E.ty el,H[ob]? with
    | some ee,some (.cell _ _ v)=>match jx v p with
     | some (q,.arr m c _)=>if m=n∧c.size=ee.size then nH q (go (bZ T o.dst (.aS ob p ee.size 0 n (some n))) H) else False
     | _=>False
    | _,_=>False
   | _=>False
  | _,_=>jZ E T H o go
 | .convert src dst x=>match E.ty src,E.ty dst,ev E T x with
  | some s,some d,some (.aS ob p sz off len cap)=>match view H (.aS ob p sz off len cap) with
   | some (q,u)=>match PG E s d u with
    | some z=>nH q (go (bZ T o.dst z) H)
    | none=>False
   | none=>False
  | _,_,_=>jZ E T H o go
 | .index t x i=>match E.ty t,ev E T x,ev E T i with
  | some d,some (.agg ss vs),some (.int k n)=>match d.desc,kO E d with
   | .array m _,some (_,e)=>nH [0≤n,n < m] (wm n m 0 fun j=>match sw d e (.agg ss vs) (.int k j) with
    | some (q,v)=>nH q (go (bZ T o.dst v) H)
    | none=>False)
   | _,_=>jZ E T H o go
  | _,_,_=>jZ E T H o go
 | .binOp op t x y _=>match ev E T x,ev E T y with
  | some (.dA _ xs),some (.raw (.slice none 0 0))=>match E.ty t with
   | some d=>match d.desc,op with
    | .slice _,.eql=>cond (ae xs.length 0) (And (go (bZ T o.dst (.bool true)) H) (go (bZ T o.dst (.bool false)) H)) (go (bZ T o.dst (.bool false)) H)
    | .slice _,.neq=>cond (ae xs.length 0) (And (go (bZ T o.dst (.bool false)) H) (go (bZ T o.dst (.bool true)) H)) (go (bZ T o.dst (.bool true)) H)
    | _,_=>False
   | none=>False
  | _,_=>jZ E T H o go
 | _=>jZ E T H o go
def iI:Op→Bool
 | .load .. | .store .. | .alloc _ | .box .. | .buildSlice .. | .makeMap .. | .insert .. | .mapUpdate .. | .makeSlice .. | .lookup ..=>true
 | .call {callee:=.builtin .copy,..}=>true
 | .call {callee:=.builtin .append,..}=>true
 | .call {callee:=.value _,..}=>true
 | _=>false
def ki:Op→Bool
 | .store .. | .alloc _ | .box .. | .buildSlice .. | .makeMap .. | .insert .. | .mapUpdate .. | .makeSlice ..=>true
 | .call {callee:=.builtin .copy,..}=>true
 | .call {callee:=.builtin .append,..}=>true
 | _=>false
def o7 (ob:Nat):Option AV→Bool
 | some (.ptr ob' _)=>ob'==ob
 | some (.ref _)=>false
 | _=>true
def rootOf (T:List AV) (ops:Array Oper):Nat→Nat→Option Nat
 | 0,_=>none
 | n+1,a=>if ops.all (fun x=>x.dst != some a)=true then (match T[a]? with | some (.ptr ob _)=>some ob | _=>none)
  else match ops.toList.filter (fun x=>x.dst==some a) with
   | [o]=>match (match o.op with
     | .fieldAddr _ (.tmp b) _=>rootOf T ops n b
     | .nilCheck (.tmp b)=>rootOf T ops n b
     | _=>none) with
    | some ob=>if o7 ob T[a]?=true then some ob else none
    | none=>none
   | _=>none
def CV (T:List AV) (ops:Array Oper) (o:Oper):Option Nat:=
 match o.op with
 | .load _ (.tmp a)=>rootOf T ops 8 a
 | .store _ (.tmp a) _=>rootOf T ops 8 a
 | _=>none
def Gj (T:List AV) (ops:Array Oper) (x y:Oper):Bool:=
 match CV T ops x,CV T ops y with
 | some a,some b=>a != b
 | _,_=>false
def A4:Op→Bool
 | .load _ _=>true
 | .call {callee:=.value _,..}=>true
 | _=>false
def Bc:Op→Bool
 | .alloc _ | .box .. | .buildSlice .. | .makeMap .. | .makeSlice ..=>true
 | _=>false
def oU (E:Env):Op→Bool
 | .call {callee:=.value (.func f),..}=>match E.spec f with | some sp=>sp.own.isSome | none=>false
 | _=>false
def iL (E:Env):Op→Bool
 | .call {callee:=.value (.func f),..}=>(E.proc f).isSome
 | .call {callee:=.value (.tmp _),..}=>E.procs
 | _=>false
def oo (E:Env):Op→Bool
 | .buildSlice ..=>E.procs
 | _=>false
def kj (E:Env) (o:Op):Bool:=iL E o||oU E o
def wI (E:Env) (o:Op):Bool:=A4 o&&!kj E o
def Bb (E:Env) (o:Op):Bool:=Bc o||(oU E o&&!iL E o)
def lj (E:Env) (o:Op):Bool:=(ki o||kj E o)&&!oo E o
def nW (E:Env) (o:Op):Bool:=iI o&&!oo E o
def okF (f:Nat):Option AV→Bool
 | some (.ptr _ p)=>(match p.getLast? with | some (.Px _ i)=>i==f | _=>false)
 | _=>true
def H9 (T:List AV) (ops:Array Oper) (a:Nat):Option Nat:=
 match ops.toList.filter (fun x=>x.dst==some a) with
 | [o]=>match o.op with
  | .fieldAddr _ _ f=>if okF f T[a]?=true then some f else none
  | _=>none
 | _=>none
def T9 (f:Nat):Option AV→Bool
 | some (.fn g _)=>g==f
 | _=>true
def HR (T:List AV) (ops:Array Oper) (c:Nat):Option Nat:=
 if ops.all (fun x=>x.dst != some c)=true then (match T[c]? with | some (.fn f _)=>some f | _=>none)
 else match ops.toList.filter (fun x=>x.dst==some c) with
  | [o]=>match o.op with
   | .move (.tmp b)=>if ops.all (fun x=>x.dst != some b)=true then (match T[b]? with | some (.fn f _)=>if T9 f T[c]?=true then some f else none | _=>none) else none
   | _=>none
  | _=>none
def sa (E:Env) (T:List AV) (ops:Array Oper) (o:Oper):Option aN:=
 match o.op with
 | .call {callee:=.value (.func f),..}=>if E.procs=true then E.proc f else none
 | .call {callee:=.value (.tmp c),..}=>if E.procs=true then (match HR T ops c with | some f=>E.proc f | none=>none) else none
 | _=>none
def mj (E:Env) (T:List AV) (ops:Array Oper) (ps:aN) (o:Oper):Bool:=
 match o.op with
 | .load t (.tmp a)=>match H9 T ops a with
  | some f=>f != ps.lf
  | none=>ops.all (fun x=>x.dst != some a)&&(match T[a]? with
   | some (.ptr _ [])=>(match E.ty t with | some d=>d.size != ps.st.hZ.sum | none=>false)
   | some (.ref _)=>true
   | _=>false)
 | .load _ (.global _)=>true
 | _=>false
def qM (E:Env) (T:List AV) (ops:Array Oper) (x y:Oper):Bool:=
 match sa E T ops y with
 | some ps=>mj E T ops ps x
 | none=>false
def qV:Op→Bool
 | .alloc _=>true
 | _=>false
def DK (E:Env) (T:List AV) (ops:Array Oper) (x y:Oper):Bool:=E.oW&&qV y.op&&((sa E T ops x).isSome||qV x.op)
def sH (E:Env) (T:List AV) (ops:Array Oper) (x y:Oper):Bool:=x.apart ops y&&(DK E T ops x y||qM E T ops x y||qM E T ops y x||Gj T ops x y||(wI E x.op&&Bb E y.op)||(!(lj E x.op&&nW E y.op)&&!(lj E y.op&&nW E x.op)))
def mz (ops:Array Oper) (i:Nat):List Nat→List Nat→List Nat
 | [],acc=>acc
 | j :: js,acc=>mz ops i js (match ops[j]? with
  | some oj=>if oj.after.any (fun e=>Region.binds .any e&&(e.on==i||acc.contains e.on)) then j :: acc else acc
  | none=>acc)
def Rz (ops:Array Oper) (i:Nat):List Nat:=mz ops i (List.range ops.size) []
def DP (E:Env) (T:List AV) (ops:Array Oper) (listed:Array Bool) (i:Nat) (D:List Nat):Bool:=
 D.all (fun j=>!listed.getD j true)&&(match ops[i]? with
 | some oi=>(List.range ops.size).all fun j=>j==i||listed.getD j true||D.contains j||(match ops[j]? with
  | some oj=>sH E T ops oi oj
  | none=>true)
 | none=>true)
def HS (E:Env) (T:List AV) (ops:Array Oper) (listed:Array Bool) (i:Nat):Bool:=DP E T ops listed i (Rz ops i)
def oh (E:Env) (T:List AV) (ops:Array Oper):Nat→Nat→Array Bool→Bool
 | 0,_,listed=>(Region.ready .any ops listed).isEmpty
 | f+1,k,listed=>(Region.ready .any ops listed).contains k&&HS E T ops listed k&&oh E T ops f (k+1) (listed.setIfInBounds k true)
def yq (E:Env) (T:List AV) (ops:Array Oper):Bool:=Region.noSelect ops&&oh E T ops ops.size 0 (Array.replicate ops.size false)
def lE (H:al) (os:List Nat):Bool:=os.all fun o=>match H[o]? with | some (.cell false _ _)=>true | _=>false
def Ih (E:Env) (r:Option (List Prop×AV×al)):Option (List Prop×AV×al):=
 if E.ac3=true then
  (match r with
  | some (q,v,H')=>(match eE H' (lD v) with
   | some H2=>some (q,v,H2)
   | none=>none)
  | none=>none)
 else r
def xO (E:Env) (T:List AV) (H:al) (o:Oper):Option (List Prop×AV×al):=
 match kX E T [] o with
 | some (q,.aS 0 [] _ 0 n _,[.cell true _ (.arr m c xs)])=>if m=n then some (q,.dA c xs,H) else none
 | _=>none
def qW (E:Env) (T:List AV) (H:al) (o:Oper):Option (List Prop×AV×al):=
 match o.op,o.dst with
 | .alloc t,some d=>match T[d]?,E.ty t with
  | some (.oW i),some ty=>match H[i]? with
   | some .hole=>if nJ ty.zero=ty.size∧qQ ty.zero=true then some ([],.ptr i [],H.set i (.cell true t ty.zero)) else none
   | _=>none
  | _,_=>none
 | _,_=>none
def rowAt (H:al):Option AV→Bool
 | some (.ptr o _)=>(match H[o]? with | some (.row _ _ _)=>true | _=>false)
 | _=>false
def cq (E:Env) (T:List AV) (H:al) (o:Oper):Option (List Prop×AV×al):=
 match o.op with
 | .call {callee:=.value f,args,..}=>match ev E T f,ph E T args.toList with
  | some (.fn f caps),some as=>match E.spec f with
   | some sp=>if (sp.bG.flat||lE H (cQ (as++caps)))=true then
     match views H (as++caps) with
     | some (q,us)=>match oH sp.dg us with
      | some x=>some (q++[sp.pre x],nV sp.n sp.bG (sp.f x),H)
      | none=>none
     | none=>none
    else none
   | none=>none
  | _,_=>none
 | .call {callee:=.builtin .append,args,argTypes}=>match argTypes.toList,ph E T args.toList with
  | [t1,t2],some [s,x]=>if t1=t2 then (if E.rows=true then RP E H t1 s x else JQ E H t1 s x) else none
  | _,_=>none
 | .buildSlice _ _ _=>if E.procs=true then xO E T H o else Ih E (kX E T H o)
 | .load _ a=>if (E.procs&&rowAt H (ev E T a))=true then none else kX E T H o
 | .alloc _=>if E.oW=true then qW E T H o else kX E T H o
 | _=>kX E T H o
def sE (E:Env) (T:List AV) (H:al) (o:Oper):Option (List Prop×AV×al):=
 match o.op with
 | .call {callee:=.value f,args,..}=>match ev E T f,ph E T args.toList with
  | some (.fn f caps),some as=>match E.spec f with
   | some sp=>match sp.own with
    | some e=>if (cQ (as++caps)).isEmpty=true then
      match views H (as++caps) with
      | some (q,us)=>match oH sp.dg us with
       | some x=>match M3 e H.length sp.bG (sp.f x) with
        | some (v,ob)=>some (q++[sp.pre x],v,H++[ob])
        | none=>none
       | none=>none
      | none=>none
     else none
    | none=>none
   | none=>none
  | _,_=>none
 | _=>none
def ng (E:Env) (T:List AV) (H:al) (o:Oper):Option (List Prop×AV×al):=
 match o.op with
 | .call {callee:=.value f,args,..}=>match ev E T f,ph E T args.toList with
  | some (.fn f caps),some as=>match E.proc f with
   | some ps=>j8 ps H (as++caps)
   | none=>cq E T H o
  | _,_=>none
 | _=>none
def cz (E:Env) (T:List AV) (H:al) (o:Oper):Option (List Prop×AV×al):=if iL E o.op=true then ng E T H o else if oU E o.op=true then sE E T H o else cq E T H o
def jh (E:Env) (all:List Oper):List Oper→List AV→al→(List AV→al→Prop)→Prop
 | [],T,H,go=>go T H
 | o :: rest,T,H,go=>
  match o.guard with
  | none=>if Ui o.op=true then Nt E T H o (fun v=>jh E all rest (bZ T o.dst v) H go)
   else if isApp E T o.op=true then Ph E T H o (fun v H=>jh E all rest (bZ T o.dst v) H go)
   else match cz E T H o with
   | some (q,v,H')=>nH q (jh E all rest (bZ T o.dst v) H' go)
   | none=>False
  | some (j,want)=>match (all[j]?).bind (·.dst) with
   | some t=>match T[t]? with
    | some (.bool b)=>cond (b==want)
      (match cz E (T.set t (.bool want)) H o with
       | some (q,v,H')=>nH q (jh E all rest (bZ (T.set t (.bool want)) o.dst v) H' go)
       | none=>False)
      (jh E all rest (bZ (T.set t (.bool (!want))) o.dst .undef) H go)
    | some (.nk _)=>jh E all rest (bZ T o.dst .undef) H go
    | _=>False
   | none=>False
def mU (E:Env) (T0:List AV) (ops:Array Oper) (go:List AV→al→Prop):S8→Option (List Nat)→Nat→Array Bool→List AV→al→Prop
 | .fin,none,_,listed,T,H=>if (Region.ready .any ops listed).isEmpty=true then go T H else False
 | .one k s,none,fuel+1,listed,T,H=>match ops[k]? with
  | some o=>if ((Region.ready .any ops listed).contains k&&HS E T0 ops listed k)=true then jh E ops.toList [o] T H (mU E T0 ops go s none fuel (listed.setIfInBounds k true)) else False
  | none=>False
 | .two j k s s',none,fuel+1,listed,T,H=>match ops[j]?,ops[k]? with
  | some o,some o'=>if (Region.ready .any ops listed==[j,k])=true then
    And (jh E ops.toList [o] T H (mU E T0 ops go s none fuel (listed.setIfInBounds j true))) (jh E ops.toList [o'] T H (mU E T0 ops go s' none fuel (listed.setIfInBounds k true))) else False
  | _,_=>False
 | .alt k s s',td,fuel+1,listed,T,H=>match td.getD (Region.ready .any ops listed),ops[k]? with
  | [i],some o=>if (i==k)=true then jh E ops.toList [o] T H (mU E T0 ops go s none fuel (listed.setIfInBounds k true)) else False
  | i :: j :: l,some o=>if (i==k)=true then
    And (jh E ops.toList [o] T H (mU E T0 ops go s none fuel (listed.setIfInBounds k true))) (mU E T0 ops go s' (some (j :: l)) (fuel+1) listed T H) else False
  | _,_=>False
 | _,_,_,_,_,_=>False
def E0 (sp:Option (Nat×List Step×Nat)) (T:List AV) (H:al) (go:List AV→al→Prop):Prop:=
 match sp with
 | none=>go T H
 | some (t,p,m)=>match T[t]? with
  | some (.int k n)=>nH [0≤n,n < m] (wm n m 0 fun j=>go (T.set t (.int k j)) H)
  | some (.ptr ob p0)=>match H[ob]? with
   | some (.cell true ty v)=>match jx v (p0++p) with
    | some (q,.int k n)=>nH (q++[0≤n,n < m]) (wm n m 0 fun j=>match tK v (p0++p) (.int k j) with
     | some v'=>go T (H.set ob (.cell true ty v'))
     | none=>False)
    | _=>False
   | _=>False
  | _=>False
def wA (o:Oper):Oper:={o with op:=.move (.const (.bool false)),dst:=none,guard:=none}
def eS (ops:Array Oper):Array Oper:=
 match ops[ops.size - 1]? with
 | some o=>ops.setIfInBounds (ops.size - 1) (wA o)
 | none=>ops
def vA (ops:Array Oper):Bool:=(List.range ops.size).all fun j=>(j==ops.size - 1||(Rz ops j).contains (ops.size - 1))&&(match ops[j]? with
 | some o=>o.after.all fun e=>!Region.binds .any e||decide (e.on < j)
 | none=>true)
def NH:List Nat→Nat→List AV→List AV
 | [],_,T=>T
 | t :: ts,n,T=>NH ts (n+1) (T.set t (.oW n))
def uB (E:Env) (K:qk) (fr:Fr) (k:List It) (aF:List Fr) (T:List AV) (H:al) (id:Nat) (ops:Array Oper) (draw:Bool):Prop:=
 if draw then
  if E.tail fr.id id=true then
   match ops[ops.size - 1]? with
   | some o=>if (o.guard.isNone&&vA ops&&yq E T (eS ops))=true then
     jh E (eS ops).toList (eS ops).toList T H (fun T H=>Eb E K (fun T H=>K {fr with T,items:=k} aF H) {fr with T,items:=k} aF H o)
    else False
   | none=>False
  else match E.sched fr.id id with
  | some s=>if Region.noSelect ops=true then mU E T ops (fun T H=>K {fr with T,items:=k} aF H) s none ops.size (Array.replicate ops.size false) T H else False
  | none=>if yq E T ops=true then jh E ops.toList ops.toList T H (fun T H=>K {fr with T,items:=k} aF H) else False
  else K {fr with T,items:=.ops ops.toList ops.toList :: k} aF H
def Aw (E:Env) (K:qk) (fr:Fr) (k:List It) (aF:List Fr) (H:al) (id:Nat) (ops:Array Oper) (draw:Bool):Prop:=
 match E.HP fr.id id with
 | []=>uB E K fr k aF (CY E fr.id id fr.T) H id ops draw
 | t :: ts=>uB E K fr k aF (NH (t :: ts) H.length (CY E fr.id id fr.T)) (H++List.replicate (t :: ts).length .hole) id ops draw
def UD (E:Env) (f:FuncId) (id:Nat) (T:List AV) (H:al):Option (List Prop×al):=
 match E.YF f id with
 | none=>some ([],H)
 | some t=>match T[t]? with
  | some (.ptr ob _)=>match H[ob]? with
   | some (.cell true ty v)=>match cT H v with
    | some (q,u,H')=>if nJ u=nJ v then some (q,H'.set ob (.cell true ty u)) else none
    | none=>none
   | _=>none
  | _=>none
def uC (E:Env) (K:qk) (fr:Fr) (k:List It) (aF:List Fr) (H:al) (id:Nat) (ops:Array Oper) (draw:Bool):Prop:=
 match UD E fr.id id fr.T H with
 | some (q,H)=>nH q (E0 (E.split fr.id id) fr.T H fun T H=>Aw E K {fr with T} k aF H id ops draw)
 | none=>False
def Kt (E:Env) (stop:FuncId→Nat→Nat→Option Cut) (Q:AV→al→Prop) (W K:qk) (fr:Fr) (aF:List Fr) (H:al):Prop:=
 match fr.items with
 | .lp c :: k=>match stop fr.id (2 * Yg k) fr.base with
  | some g=>match (match g.EE&&!(E.EE&&DE fr.kind) with | true=>none | false=>RA g fr H) with
   | some (fr',H')=>W fr' (F3 g.aF aF) H'
   | none=>False
  | none=>K {fr with items:=.code c :: .lp c :: k} aF H
 | .bB _ :: k=>K {fr with items:=k} aF H
 | .PL :: k=>K {fr with items:=k} aF H
 | .begin l :: k=>match H[l]? with
  | some (.loop .ready p f T ps a b d)=>K {fr with items:=k} aF (H.set l (.loop .busy p f T ps a b d))
  | _=>False
 | .fin l :: k=>match H[l]? with
  | some (.loop s p f T ps a b d)=>
   if s==.busy then False else
    match p with
    | none=>K {fr with items:=k} aF (H.set l (.loop .exhausted p f T ps a b d))
    | some c=>K {fr with items:=.code c :: k} aF (H.set l (.loop .exhausted p f T ps a b d))
  | _=>False
 | .ops _ [] :: k=>K {fr with items:=k} aF H
 | .ops all (o :: rest) :: k=>
  match o.guard with
  | none=>Eb E K (fun T H=>K {fr with T,items:=.ops all rest :: k} aF H) {fr with items:=.ops all rest :: k} aF H o
  | some (j,want)=>match (all[j]?).bind (·.dst) with
   | some t=>match fr.T[t]? with
    | some (.bool b)=>
     cond (b==want)
      (Eb E K (fun T H=>K {fr with T,items:=.ops all rest :: k} aF H) {fr with T:=fr.T.set t (.bool want),items:=.ops all rest :: k} aF H o)
       (K {fr with T:=bZ (fr.T.set t (.bool (!want))) o.dst .undef,items:=.ops all rest :: k} aF H)
    | some (.nk _)=>K {fr with T:=bZ fr.T o.dst .undef,items:=.ops all rest :: k} aF H
    | _=>False
   | none=>False
 | .now c :: k=>match c with
  | .region id ops draw=>uC E K fr k aF H id ops draw
  | _=>False
 | .code c :: k=>
  match c with
  | .skip=>K {fr with items:=k} aF H
  | .label _=>K {fr with items:=k} aF H
  | .seq a b=>K {fr with items:=.code a :: .code b :: k} aF H
  | .cond c t e=>match ev E fr.T c with
   | some (.bool b)=>cond b (K {fr with T:=O3 fr.T c true,items:=.code t :: k} aF H) (K {fr with T:=O3 fr.T c false,items:=.code e :: k} aF H)
   | _=>False
  | .block id c=>K {fr with items:=.code c :: .bB id :: k} aF H
  | .scope c=>K {fr with items:=.code c :: .PL :: k} aF H
  | .loop b=>K {fr with items:=.lp b :: k} aF H
  | .region id ops draw=>match stop fr.id (2 * id+1) fr.base with
   | some g=>match (match g.EE&&!(E.EE&&DE fr.kind) with | true=>none | false=>RA g fr H) with
    | some (fr',H')=>W fr' (F3 g.aF aF) H'
    | none=>False
   | none=>uC E K fr k aF H id ops draw
  | .rangeFunc f ps asg body=>match ev E fr.T f with
   | some (.fn f caps)=>match E.fns f with
    | some fn=>match fn.body with
     | some c=>
      match fr.kind with
      | .round l0 _=>match H[l0]? with
       | some (.loop _ _ _ _ _ _ _ d)=>
        K {id:=f,kind:=.iter H.length,T:=rC fn (.jl H.length :: caps),items:=[.code c],D:=[],base:=H.length+1} ({fr with items:=.fin H.length :: k} :: aF)
         (H++[.loop .ready none fr.id fr.T ps.toList asg body d])
       | _=>False
      | _=>
       K {id:=f,kind:=.iter (H.length+1),T:=rC fn (.jl (H.length+1) :: caps),items:=[.code c],D:=[],base:=H.length+2} ({fr with items:=.fin (H.length+1) :: k,D:=H.length :: fr.D} :: aF)
        (H++[.my,.loop .ready none fr.id fr.T ps.toList asg body H.length])
     | none=>False
    | none=>False
   | _=>False
  | .exit id=>match toBlk id k with
   | some k'=>K {fr with items:=k'} aF H
   | none=>if through k=true then leave E Q K fr (some (.exit id)) aF H else False
  | .ret=>if through k=true then leave E Q K fr (some .ret) aF H else False
  | _=>False
 | []=>leave E Q K fr none aF H
def run (E:Env) (stop:FuncId→Nat→Nat→Option Cut) (Q:AV→al→Prop) (W:qk):Nat→qk
 | 0=>W
 | n+1=>Kt E stop Q W (run E stop Q W n)
end Go.aA
end
section
namespace Go.aA
open Go.RowKit
def ba.ok (P:Program) (t:TypeId) (d:ba):Prop:=
 P.underlying t=some d.desc∧∃ i z,P.info? t=some i∧i.size=d.size∧i.bytes=d.bytes∧i.zero=some z∧(∀ ι,bW ι d.zero z)∧dJ d.zero=d.agg∧nJ d.zero=d.size
def BO (P:Program) (f:FuncId):Prop:=
 ∀ (w:World) (a b:Addr) (la ca lb cb:Nat),a.block≠b.block→(∃ cells t,w.heap[a.block]?=some (.cells cells t (0,0)))→(∃ cells t fz,w.heap[b.block]?=some (.cells cells t fz)∧cells.size≠0)→
  (callFunc f #[.slice (some a) la ca,.slice (some b) lb cb]).run P w=.ok (.value (.bool false)) w
def jD (P:Program) (f:FuncId) (args:Array Value) (w:World) (R:Value→World→Prop):Prop:=
 (∃ v,(callFunc f args).run P w=.ok (.value v) w∧R v w)∨
 ((callFunc f args).run P w=.ok (.enter f args) w∧Calls P f args w fun e w'=>∃ v,e=.returned v∧R v w')
def gf.Yn (s:gf) (p:Addr) (xs:List s.c.den) (cap:Nat):Value:=
 match s.res with
 | none=>.tuple #[]
 | some g=>.slice (some p) (g xs) cap
def gf.S3 (s:gf):Value:=
 match s.res with
 | none=>.tuple #[]
 | some _=>.slice none 0 0
def Ge (P:Program) (f:FuncId) (s:gf):Prop:=
 ((∀ ι x l,bD ι s.c x l↔l=s.enc x)∧∀ g,s.res=some g→∀ xs,g xs≤xs.length)∧(∀ xs,(s.f xs).length=xs.length)∧
 (∀ w,jD P f (#[.slice none 0 0]++s.rest) w fun c w'=>c=s.S3∧Below w.heap.size w w')∧
 ∀ (w:World) (bB off cap:Nat) (xs:List s.c.den) (cells:Array Value) (t:TypeId),xs.length < 2 ^ 60→xs.length≤cap→w.heap[bB]?=some (.cells cells t (0,0))→
  (cells.toList.drop off).take (xs.length * s.c.size)=xs.flatMap s.enc→
  jD P f (#[.slice (some ⟨bB,off,none⟩) xs.length cap]++s.rest) w fun c w'=>c=s.Yn ⟨bB,off,none⟩ xs cap∧
   ∃ (w1:World) (cells':Array Value),w1.heap[bB]?=some (.cells cells' t (0,0))∧cells'.toList=cells.toList.take off++((s.f xs).flatMap s.enc++cells.toList.drop (off+xs.length * s.c.size))∧
    (∀ k,k≠bB→w1.heap[k]?=w.heap[k]?)∧w1.heap.size=w.heap.size∧w1.os=w.os∧w1.tape=w.tape∧w1.output=w.output∧Below w1.heap.size w1 w'
structure Env.Valid (E:Env):Prop where
 ty:∀ t d,E.ty t=some d→d.ok E.P t
 fns:∀ f fn,E.fns f=some fn→E.P.funcs[f]?=some fn∧(fn.name == "runtime.NumGoroutine")=false
 mixed:E.P.follows .mixedOrders=true
 apart:∀ f,E.apart f=true→BO E.P f
 sort:∀ f s,E.sort f=some s→Ge E.P f s
def cS (E:Env) (ι:aq):Prop:=∀ g v,E.cI g=some v→∃ cells t fz l,ι.aM g=some (.cells cells t fz)∧(∀ ι',aD ι' v l)∧At cells 0 l
theorem cS.sub {E:Env} {ι ι':aq} (h:∀ b o,ι.aM b=some o→ι'.aM b=some o) (k:cS E ι):cS E ι':=fun g v e=>by
 obtain ⟨cells,t,fz,l,e1,e2⟩:=k g v e
 exact ⟨cells,t,fz,l,h _ _ e1,e2⟩
theorem cS.Y2 {E:Env} {ι ι':aq} (h:Sub ι ι') (k:cS E ι):cS E ι':=fun g v e=>by
 obtain ⟨cells,t,fz,l,k1,k2⟩:=k g v e
 exact ⟨cells,t,fz,l,h.aM _ _ _ _ k1,k2⟩
theorem cS.mono {E:Env} {ι ι':aq} (h:Ext ι ι') (k:cS E ι):cS E ι':=k.sub h.aM
structure gi (E:Env) (ι:aq) (T:List AV) (H:al) (a:Act) (w:World):Prop where
 heap:aE ι H w
 tmps:aL (ak ι) T a.tmps.toList
 cI:cS E ι
variable {E:Env} {ι:aq} {T:List AV} {H:al} {a:Act} {w:World}
theorem fO {v:AV} {c:Value} (ht:qQ v=true):ak ι v c↔bW ι v c:=by
 cases v<;>first | exact Iff.rfl | cases ht
theorem bV.mem {α:Type} {R:α→List Value→Prop} {p:Value→Prop} (hp:∀ x l,R x l→∀ c∈l,p c) {xs:List α} {l:List Value} (h:bV R xs l):∀ c∈l,p c:=by
 induction h with
 | nil=>simp
 | cons h1 _ ih=>intro c hc;rcases List.mem_append.1 hc with h | h;exact hp _ _ h1 c h;exact ih c h
theorem jb:∀ (c:TC) (x:c.den) (cs:List Value),bD ι c x cs→∀ v∈cs,v.oneCell'=true
 | .int _,_,_,k=>by rw [show _=_ from k];simp [Value.oneCell']
 | .bool,_,_,k=>by rw [show _=_ from k];simp [Value.oneCell']
 | .str,_,_,k=>by rw [show _=_ from k];simp [Value.oneCell']
 | .unit,_,_,k=>by rw [show _=_ from k];simp
 | .st a r,_,_,⟨l,m,e,k1,k2⟩=>by
  rw [e];intro v hv;rcases List.mem_append.1 hv with h | h
  ·exact jb a _ _ k1 v h
  ·exact jb r _ _ k2 v h
 | .a7 a,_,_,k=>jb a _ _ k
 | .slice _,_,_,⟨v,e,k⟩=>by
  rw [e];rcases k with ⟨_,rfl | ⟨a,rfl⟩⟩ | ⟨b,off,kk,cells,t,fz,l,rfl,_⟩<;>simp [Value.oneCell']
 | .arr n c,_,_,⟨hn,hr⟩=>hr.mem (fun x l h=>jb c x l h)
 | .ref _,_,_,⟨b,off,cells,t,fz,l,e,_⟩=>by rw [e];simp [Value.oneCell']
 | .a8,_,_,⟨v,e,h⟩=>by rw [e];simpa using h
mutual
theorem uV:∀ (v:AV) (cs:List Value),aD ι v cs→∀ c∈cs,c.oneCell'=true
 | .int _ _,_,k=>by rw [aD] at k;rw [k];simp [Value.oneCell']
 | .bool _,_,k=>by rw [aD] at k;rw [k];simp [Value.oneCell']
 | .str _,_,k=>by rw [aD] at k;rw [k];simp [Value.oneCell']
 | .raw _,_,k=>by rw [aD] at k;rw [k.1];simp [k.2]
 | .agg _ vs,_,k=>by rw [aD] at k;exact yT vs _ _ k
 | .arr n c _,_,k=>by rw [aD] at k;exact jb (.arr n c) _ _ k
 | .nk _,_,k=>by rw [aD] at k;exact k.elim
 | .any,_,k=>by rw [aD] at k;exact k.elim
 | .oW _,_,k=>by rw [aD] at k;exact k.elim
 | .a8,_,k=>by rw [aD] at k;obtain ⟨v,e,h⟩:=k;rw [e];simpa using h
 | .ptr _ _,_,k=>by rw [aD] at k;obtain ⟨b,z,e,k⟩:=k;rw [k];simp [Value.oneCell']
 | .ref v,_,k=>by rw [aD] at k;obtain ⟨b,off,cells,t,fz,l,e,_⟩:=k;rw [e];simp [Value.oneCell']
 | .dA c _,_,k=>by rw [aD] at k;exact jb (.slice c) _ _ k
 | .aS _ _ _ _ _ _,_,k=>by rw [aD] at k;obtain ⟨b,z,kk,e,k,_⟩:=k;rw [k];simp [Value.oneCell']
 | .fn _ caps,_,k=>by rw [aD] at k;obtain ⟨_,l,e,k⟩:=k;rw [e];simp [Value.oneCell']
 | .yO _ caps,_,k=>by rw [aD] at k;obtain ⟨_,l,e,k⟩:=k;rw [e];simp [Value.oneCell']
 | .jl _,_,k=>by rw [aD] at k;obtain ⟨b,z,e,k⟩:=k;rw [k];simp [Value.oneCell']
 | .mp _,_,k=>by rw [aD] at k;obtain ⟨b,z,e,k⟩:=k;rw [k];simp [Value.oneCell']
 | .row _ _ _,_,k=>by
  rw [aD] at k;obtain ⟨b,z,v,e,k,h⟩:=k;rw [k]
  rcases h with ⟨_,rfl⟩ | ⟨_,k,rfl,_⟩<;>simp [Value.oneCell']
theorem yT:∀ (vs:List AV) (ss:List Nat) (cs:List Value),cA ι ss vs cs→∀ c∈cs,c.oneCell'=true
 | [],_,_,k=>by rw [cA] at k;rw [k.2];simp
 | v :: vs,_,_,k=>by
  rw [cA] at k;obtain ⟨s,ss',l,m,e1,e2,e3,k1,k2⟩:=k
  rw [e2];intro c hc;rcases List.mem_append.1 hc with h | h
  ·exact uV v _ k1 c h
  ·exact yT vs _ _ k2 c h
end
theorem xk {v:AV} {cs:List Value} (h:aD ι v cs):qQ v=true:=by
 cases v<;>first | rfl | (rw [aD] at h;exact h.elim)
theorem an {v:AV} {c:Value} (ha:dJ v=false) (h:aD ι v [c]):ak ι v c:=by
 rw [fO (xk h)];unfold bW;rw [ha];exact h
theorem ku {v:AV} {c:Value} (ha:dJ v=false) (h:aD ι v [c]):bW ι v c:=by
 unfold bW;rw [ha];exact h
theorem gu {v:AV} {cs:List Value} (ha:dJ v=true) (h:aD ι v cs):ak ι v (.agg cs.toArray):=by
 rw [fO (xk h)];unfold bW;rw [ha];exact ⟨cs,h,rfl⟩
theorem Value.JH {c:Value} (h:c.oneCell'=true):c.cells=#[c]:=by
 cases c<;>first | rfl | simp [Value.oneCell'] at h
theorem bW.cells {v:AV} {c:Value} (h:bW ι v c):aD ι v c.cells.toList:=by
 unfold bW at h
 split at h
 ·obtain ⟨cs,k,rfl⟩:=h;simpa [Value.cells] using k
 ·rw [Value.JH (uV v [c] h c (by simp))];exact h
theorem ak.cells {v:AV} {c:Value} (h:ak ι v c) (ht:qQ v=true):aD ι v c.cells.toList:=((fO ht).1 h).cells
theorem ak.one {v:AV} {c:Value} (h:ak ι v c) (ha:dJ v=false) (ht:qQ v=true):aD ι v [c]:=by
 have h:=(fO ht).1 h
 unfold bW at h;rw [ha] at h;exact h
theorem ak.int {k:IntKind} {n:Int} {c:Value} (h:ak ι (.int k n) c):c=.int k n:=by
 have:=h.one rfl rfl;rw [aD] at this;simpa using this
theorem ak.bool {b:Bool} {c:Value} (h:ak ι (.bool b) c):c=.bool b:=by
 have:=h.one rfl rfl;rw [aD] at this;simpa using this
theorem ak.str {s:ByteArray} {c:Value} (h:ak ι (.str s) c):c=.string s:=by
 have:=h.one rfl rfl;rw [aD] at this;simpa using this
theorem ak.raw {v c:Value} (h:ak ι (.raw v) c):c=v:=by
 have:=h.one rfl rfl;rw [aD] at this;simpa using this.1
theorem dv (k:IntKind) (n:Int):ak ι (.int k n) (.int k n):=an rfl (by rw [aD])
theorem dN (b:Bool):ak ι (.bool b) (.bool b):=an rfl (by rw [aD])
theorem mH (s:ByteArray):ak ι (.str s) (.string s):=an rfl (by rw [aD])
theorem eD:ak ι .undef undef:=⟨[],rfl,.nil⟩
theorem ak.agg {v:AV} {c:Value} (h:ak ι v c) (ha:dJ v=true):∃ cs:List Value,aD ι v cs∧c=.agg cs.toArray:=by
 cases v<;>first | (simp [dJ] at ha;done) | (have h:bW ι _ _:=h;unfold bW at h;rw [ha] at h;exact h)
theorem Ua {v:Value} {u:AV} (h:ofV v=some u):ak ι u v:=by
 unfold ofV at h
 split at h<;>first
  | (cases h;exact dv _ _)
  | (cases h;exact dN _)
  | (cases h;exact mH _)
  | (cases h;exact an rfl (by rw [aD];exact ⟨rfl,rfl⟩))
  | cases h
theorem oq {l:Array Value} {i:Nat} {c:Value} (h:l.toList[i]?=some c) (d:Value):l.getD i d=c:=by
 have h':l[i]?=some c:=by simpa using h
 simp [Array.getD_eq_getD_getElem?,h']
theorem bz {x:Operand} {v:AV} (h:ev E T x=some v) (r:gi E ι T H a w):ak ι v (a.eval x):=by
 cases x with
 | tmp t=>
  obtain ⟨c,e,k⟩:=r.tmps.at t v h
  simp only [Act.eval];rw [oq e];exact k
 | const c=>exact Ua h
 | global g=>
  simp only [ev] at h
  split at h
  ·rename_i u hu;cases h
   obtain ⟨cells,t,fz,l,e1,e2,e3⟩:=r.cI g u hu
   exact an rfl (by rw [aD];exact ⟨g,0,cells,t,fz,l,rfl,e1,e2 ι,e3⟩)
  ·cases h
 | func f=>
  cases h
  refine an rfl ?_
  rw [aD]
  exact ⟨rfl,[],rfl,by rw [cA];exact ⟨rfl,rfl⟩⟩
theorem fh:∀ {xs:List Operand} {vs:List AV},ph E T xs=some vs→gi E ι T H a w→aL (ak ι) vs (xs.map a.eval)
 | [],_,h,_=>by cases h;exact .nil
 | x :: l,_,h,r=>by
  simp only [ph] at h
  split at h
  ·rename_i v vs h1 h2;cases h;exact .cons (bz h1 r) (fh h2 r)
  ·cases h
end Go.aA
end
section
namespace Go.aA
open Go.RowKit
variable {E:Env} {ι:aq} {T:List AV} {H:al} {a:Act} {w:World}
structure Po (ι:aq) (w:World) (u:AV) (b off:Nat):Prop where
 ex:∃ cells t fz m,w.heap[b]?=some (.cells cells t fz)∧aD ι u m∧At cells off m
theorem At.xK {l1 m l2:List Value} {cells:Array Value} (h:cells.toList=l1++m++l2):At cells l1.length m:=by
 intro j v hv
 have hj:=(List.getElem?_eq_some_iff.1 hv).1
 rw [← Array.getElem?_toList,h,List.append_assoc,List.getElem?_append_right (by omega),List.getElem?_append_left (by omega)]
 simpa using hv
theorem At.sub {cells:Array Value} {off:Nat} {l1 m l2:List Value} (h:At cells off (l1++m++l2)):At cells (off+l1.length) m:=by
 intro j v hv
 have hj:=(List.getElem?_eq_some_iff.1 hv).1
 have:=h (l1.length+j) v (by rw [List.append_assoc,List.getElem?_append_right (by omega),List.getElem?_append_left (by omega)];simpa using hv)
 simpa [Nat.add_assoc] using this
theorem o0 {o:Nat} {p:List Step} {c:Value} (h:ak ι (.ptr o p) c):∃ b z,ι.bB[o]?=some (b,z)∧c=.pointer (some ⟨b,aw p,none⟩):=by
 have:=h.one rfl rfl;rw [aD] at this
 obtain ⟨b,z,e,k⟩:=this
 exact ⟨b,z,e,by simpa using k⟩
theorem BK {v:AV} {c:Value} (h:ak ι (.ref v) c):∃ b off cells t fz l,c=.pointer (some ⟨b,off,none⟩)∧ι.aM b=some (.cells cells t fz)∧aD ι v l∧At cells off l:=by
 have:=h.one rfl rfl;rw [aD] at this
 obtain ⟨b,off,cells,t,fz,l,e,k⟩:=this
 exact ⟨b,off,cells,t,fz,l,by simpa using e,k⟩
theorem fL.cell {b z:Nat} {own:Bool} {t:TypeId} {v:AV} (h:fL ι w b z (.cell own t v)):
  ∃ cells fz l r,w.heap[b]?=some (.cells cells t fz)∧cells.toList=l++r∧cells.size=z∧aD ι v l∧(own=true→fz=(0,0)):=by
 obtain ⟨cells,fz,l,r,e1,e2,e3,e4,e5⟩:=h
 exact ⟨cells,fz,l,r,e1,e2,e3,e4,fun h=>by rw [h] at e5;exact e5⟩
theorem C2 {x u:AV} {q:List Prop} {c:Value} (h:fq H x=some (q,u)) (hq:holds q) (r:aE ι H w) (hx:ak ι x c):
  ∃ b off,c=.pointer (some ⟨b,off,none⟩)∧Po ι w u b off:=by
 cases x<;>simp only [fq] at h<;>try (cases h;done)
 case ptr o p=>
  split at h
  ·rename_i own t v ho
   obtain ⟨b,z,hb,rfl⟩:=o0 hx
   obtain ⟨cells,fz,l,rr,e1,e2,e3,e4,e5⟩:=(r.obj _ _ _ _ ho hb).cell
   obtain ⟨l1,m,l2,el,el1,hu,_⟩:=fF p v l q u h hq e4
   refine ⟨b,_,rfl,⟨cells,t,fz,m,e1,hu,?_⟩⟩
   rw [← el1]
   exact At.xK (l2:=l2++rr) (by rw [e2,el];simp)
  ·rename_i t c xs ho
   split at h
   ·rename_i q' u' hg
    simp only [Option.some.injEq,Prod.mk.injEq] at h
    obtain ⟨rfl,rfl⟩:=h
    obtain ⟨h0,hq⟩:=hq
    obtain ⟨b,z,hb,rfl⟩:=o0 hx
    rcases r.obj _ _ _ _ ho hb with k | ⟨cells,l,rr,e1,e2,e3,e4⟩
    ·rw [k] at h0;simp at h0
    ·have e4':aD ι (.arr xs.length c xs) l:=by rw [aD];exact ⟨rfl,e4⟩
     obtain ⟨l1,m,l2,el,el1,hu,_⟩:=fF p _ l q' u' hg hq e4'
     refine ⟨b,_,rfl,⟨cells,t,(0,0),m,e1,hu,?_⟩⟩
     rw [← el1]
     exact At.xK (l2:=l2++rr) (by rw [e2,el];simp)
   ·cases h
  ·cases h
 case ref v=>
  simp only [Option.some.injEq,Prod.mk.injEq] at h
  obtain ⟨_,rfl⟩:=h
  obtain ⟨b,off,cells,t,fz,l,rfl,hp,hr,ha⟩:=BK hx
  exact ⟨b,off,rfl,⟨cells,t,fz,l,r.aM _ _ hp,hr,ha⟩⟩
theorem bH {P:Program} {t:TypeId} {d:ba} (h:d.ok P t) (w:World):(sizeOf t).run P w=.ok d.size w:=by
 obtain ⟨_,i,z,hi,hs,_⟩:=h
 simp [sizeOf,typeInfo,hi,hs]
theorem vI {P:Program} {t:TypeId} {d:ba} (h:d.ok P t) (w:World):(isAgg t).run P w=.ok d.agg w:=by
 obtain ⟨hu,_⟩:=h
 unfold isAgg
 simp only [Sem.run_bind,run_underlying hu,Result.andThen]
 unfold ba.agg Ic
 cases d.desc<;>rfl
theorem kx {P:Program} {t:TypeId} {d:ba} (h:d.ok P t) (w:World):∃ z,(zeroValue t).run P w=.ok z w∧∀ ι,bW ι d.zero z:=by
 obtain ⟨_,i,z,hi,_,_,hz,hr,_⟩:=h
 exact ⟨z,by simp [zeroValue,typeInfo,hi,hz],hr⟩
theorem dG (b off j:Nat):(⟨b,off,none⟩:Addr).add j=⟨b,off+j,none⟩:=by
 unfold Addr.add;split<;>simp_all
theorem cell_of {b off:Nat} {cells:Array Value} {t:TypeId} {fz:Nat×Nat} (h:w.heap[b]?=some (.cells cells t fz)):w.cell? ⟨b,off,none⟩=cells[off]?:=by
 simp [World.cell?,h]
theorem wJ {P:Program} {t:TypeId} {d:ba} {u:AV} {b off:Nat} (hd:d.ok P t) (hs:nJ u=d.size) (ha:dJ u=d.agg) (h:Po ι w u b off):
  ∃ c,(loadVar t ⟨b,off,none⟩).run P w=.ok c w∧ak ι u c:=by
 obtain ⟨cells,ty,fz,m,hb,hr,hat⟩:=h.ex
 have hl:=gg _ _ hr
 have hcell:∀ j v,m[j]?=some v→w.cell? ((⟨b,off,none⟩:Addr).add j)=some v:=fun j v e=>by
  rw [dG,cell_of hb];exact hat j v e
 unfold loadVar
 simp only [Sem.run_bind,vI hd,Result.andThen]
 cases hagg:d.agg with
 | true=>
  refine ⟨.agg m.toArray,?_,gu (ha.trans hagg) hr⟩
  simp only [if_true,Sem.run_bind,bH hd,Result.andThen]
  rw [← hs,← hl,run_loadCells_list w _ m hcell];rfl
 | false=>
  have h1:m.length=1:=by
   rw [hl];cases u<;>first | rfl | (simp [dJ,hagg] at ha;done) | (rw [aD] at hr;exact hr.elim)
  obtain ⟨c,rfl⟩:=List.length_eq_one_iff.1 h1
  refine ⟨c,?_,an (ha.trans hagg) hr⟩
  have:=hcell 0 c rfl
  rw [dG] at this
  simp only [Nat.add_zero] at this
  simp [this]
theorem iQ {l1 m l2:List Value}:(l1++m++l2).take l1.length=l1∧(l1++m++l2).drop (l1.length+m.length)=l2:=by
 constructor
 ·rw [List.append_assoc,List.take_append_of_le_length (by omega)];simp
 ·rw [← List.length_append];simp
theorem IG {P:Program} {t:TypeId} {d:ba} {x y:AV} {q:List Prop} {H':al} {c cv:Value} (hd:d.ok P t) (h:pR H x y=some (q,H')) (hq:holds q) (hs:nJ y=d.size)
  (r:aE ι H w) (hx:ak ι x c) (hy:ak ι y cv) (ht:qQ y=true):
  ∃ b off w',c=.pointer (some ⟨b,off,none⟩)∧(storeVar t ⟨b,off,none⟩ cv).run P w=.ok () w'∧aE ι H' w':=by
 cases x<;>simp only [pR] at h<;>try (cases h;done)
 case ptr o p=>
  split at h
  ·rename_i t' v ho
   split at h
   ·rename_i q' u hg
    split at h
    ·rename_i hsz
     split at h
     ·rename_i v' hv'
      simp only [Option.some.injEq,Prod.mk.injEq] at h
      obtain ⟨rfl,rfl⟩:=h
      obtain ⟨b,z,hb,rfl⟩:=o0 hx
      obtain ⟨cells,fz,l,rr,e1,e2,e3,e4,e5⟩:=(r.obj _ _ _ _ ho hb).cell
      have e5:=e5 rfl;subst e5
      obtain ⟨l1,m,l2,el,el1,hu,hset⟩:=fF p v l q' u hg hq e4
      have hyc:=hy.cells ht
      have hylen:=gg _ _ hyc
      have hlen:cv.cells.toList.length=m.length:=by rw [hylen,gg _ _ hu,hsz]
      have hrep:=hset y cv.cells.toList v' hv' hyc hlen
      have hfull:cells.toList=l1++m++(l2++rr):=by rw [e2,el];simp
      have hsize:cells.size=l1.length+m.length+(l2++rr).length:=by rw [← Array.length_toList,hfull];simp [Nat.add_assoc]
      refine ⟨b,_,w.setRow b (l1++cv.cells.toList++(l2++rr)).toArray,rfl,?_,?_⟩
      ·unfold storeVar
       simp only [Sem.run_bind,bH hd,Result.andThen]
       have hsz2:cv.cells.size=d.size:=by rw [← Array.length_toList,hylen,hs]
       rw [if_neg (by simp [hsz2])]
       have hst:=run_storeCells_at (P:=P) b (aw p) t' cv.cells.toList 0 cells w e1 (by rw [hsize,← el1,hlen];omega) (uV _ _ hyc)
       rw [hst]
       congr 2
       rw [Nat.add_zero,← el1,hfull,hlen]
       rw [(iQ (l1:=l1) (m:=m) (l2:=l2++rr)).1,(iQ (l1:=l1) (m:=m) (l2:=l2++rr)).2]
      ·refine r.EM ho rfl hb (fun k hk=>setRow_other w b k _ hk) (by simp) rfl rfl rfl ?_
       refine ⟨_,(0,0),l1++cv.cells.toList++l2,rr,setRow_heap w b cells _ t' _ e1,by simp,?_,hrep,by simp⟩
       rw [← e3,hsize];simp [hlen];omega
     ·cases h
    ·cases h
   ·cases h
  ·rename_i t' cc xs ho
   split at h
   ·rename_i q' u hg
    split at h
    ·rename_i hsz
     split at h
     ·rename_i n' c' xs' hv'
      split at h
      ·rename_i hcc;subst hcc
       simp only [Option.some.injEq,Prod.mk.injEq] at h
       obtain ⟨rfl,rfl⟩:=h
       obtain ⟨h0,hq⟩:=hq
       obtain ⟨b,z,hb,rfl⟩:=o0 hx
       rcases r.obj _ _ _ _ ho hb with k | ⟨cells,l,rr,e1,e2,e3,e4⟩
       ·rw [k] at h0;simp at h0
       have ho1:aG.owned (.row t' c' xs)=true:=by
        cases xs with
        | nil=>simp at h0
        | cons=>rfl
       have e4':aD ι (.arr xs.length c' xs) l:=by rw [aD];exact ⟨rfl,e4⟩
       obtain ⟨l1,m,l2,el,el1,hu,hset⟩:=fF p _ l q' u hg hq e4'
       have hyc:=hy.cells ht
       have hylen:=gg _ _ hyc
       have hlen:cv.cells.toList.length=m.length:=by rw [hylen,gg _ _ hu,hsz]
       have hrep:=hset y cv.cells.toList _ hv' hyc hlen
       rw [aD] at hrep
       have hfull:cells.toList=l1++m++(l2++rr):=by rw [e2,el];simp
       have hsize:cells.size=l1.length+m.length+(l2++rr).length:=by rw [← Array.length_toList,hfull];simp [Nat.add_assoc]
       refine ⟨b,_,w.setRow b (l1++cv.cells.toList++(l2++rr)).toArray,rfl,?_,?_⟩
       ·unfold storeVar
        simp only [Sem.run_bind,bH hd,Result.andThen]
        have hsz2:cv.cells.size=d.size:=by rw [← Array.length_toList,hylen,hs]
        rw [if_neg (by simp [hsz2])]
        have hst:=run_storeCells_at (P:=P) b (aw p) t' cv.cells.toList 0 cells w e1 (by rw [hsize,← el1,hlen];omega) (uV _ _ hyc)
        rw [hst]
        congr 2
        rw [Nat.add_zero,← el1,hfull,hlen]
        rw [(iQ (l1:=l1) (m:=m) (l2:=l2++rr)).1,(iQ (l1:=l1) (m:=m) (l2:=l2++rr)).2]
       ·refine r.EM ho ho1 hb (fun k hk=>setRow_other w b k _ hk) (by simp) rfl rfl rfl (.inr ?_)
        refine ⟨_,l1++cv.cells.toList++l2,rr,setRow_heap w b cells _ t' _ e1,by simp,?_,hrep.2⟩
        rw [← e3,hsize];simp [hlen];omega
      ·cases h
     ·cases h
    ·cases h
   ·cases h
  ·cases h
theorem yl {P:Program} {t:TypeId} {v:AV} {c:Value} (r:aE ι H w) (hv:ak ι v c) (ht:qQ v=true):
  ∃ ι' w' b,(newVar t c).run P w=.ok ⟨b,0,none⟩ w'∧Ext ι ι'∧aE ι' (H++[.cell true t v]) w'∧ak ι' (.ptr H.length []) (.pointer (some ⟨b,0,none⟩)):=by
 have hE:=Ext.add ι w.heap.size c.cells.size
 refine ⟨ι.add w.heap.size c.cells.size,w.alloc (.cells c.cells t),w.heap.size,rfl,hE,?_,?_⟩
 ·refine r.alloc _ _ _ ⟨c.cells,(0,0),c.cells.toList,[],heap_alloc_new,by simp,rfl,xl hE _ _ (hv.cells ht),by simp⟩
 ·refine an rfl ?_
  rw [aD]
  exact ⟨w.heap.size,c.cells.size,by rw [r.len];exact ι.fK _ _,rfl⟩
end Go.aA
end
section
namespace Go.aA
open Go.RowKit
variable {E:Env} {ι:aq} {T:List AV} {H:al} {a:Act} {w:World}
theorem RL {P:Program} {op:BinOp} {k:IntKind} {x y:Int} {q:List Prop} {v:AV} (t:TypeId) (h:VD op k x y=some (q,v)) (hq:holds q):
  ∃ c,(binOp op t (.int k x) (.int k y)).run P w=.ok c w∧ak ι v c:=by
 cases op<;>simp only [VD,Option.some.injEq,Prod.mk.injEq] at h<;>try (cases h;done)
 all_goals
  obtain ⟨rfl,rfl⟩:=h
  refine ⟨_,?_,by first | exact dv _ _ | exact dN _⟩
 all_goals first
  | (simp [binOp,Op.intArith,aJ,eG,cX];done)
  | (simp only [holds,and_true] at hq;simp [binOp,Op.intDiv,hq,X5,pf];done)
  | (simp [binOp,Op.intBits,av,dp,Uh,ic];done)
  | (simp [binOp,Op.intCmp,ae,cB,bd,bK];done)
theorem run_equal_bool {P:Program} {t:TypeId} (hu:P.underlying t=some .bool) (m n:Bool):(Op.equal t (.bool m) (.bool n)).run P w=.ok (m==n) w:=by
 have:∀ d,(Op.equalIn (d+1) t (.bool m) (.bool n)).run P w=.ok (m==n) w:=fun d=>by simp [Op.equalIn,run_underlying hu]
 exact this 9999
theorem jF {P:Program} {t e:TypeId} (hu:P.underlying t=some (.slice e)) (a:Option Addr) (n k:Nat):(Op.equal t (.slice a n k) (.slice none 0 0)).run P w=.ok a.isNone w:=by
 have:∀ d,(Op.equalIn (d+1) t (.slice a n k) (.slice none 0 0)).run P w=.ok a.isNone w:=fun d=>by
  cases a<;>simp [Op.equalIn,run_underlying hu]
 exact this 9999
theorem DG {x:AV} {q:List Prop} {b:Bool} {cx:Value} (h:FL x=some (q,b)) (hq:holds q) (hx:ak ι x cx):∃ a n k,cx=.slice a n k∧a.isNone=b:=by
 unfold FL at h
 split at h
 ·simp only [Option.some.injEq,Prod.mk.injEq] at h;obtain ⟨rfl,rfl⟩:=h
  exact ⟨none,0,0,hx.raw,rfl⟩
 ·simp only [Option.some.injEq,Prod.mk.injEq] at h;obtain ⟨rfl,rfl⟩:=h
  have:=hx.one rfl rfl
  rw [aD] at this
  obtain ⟨b',z,k,_,e,_⟩:=this
  simp only [List.cons.injEq,and_true] at e
  exact ⟨_,_,_,e,rfl⟩
 ·simp only [Option.some.injEq,Prod.mk.injEq] at h;obtain ⟨rfl,rfl⟩:=h
  have h0:=hq.1
  have:=hx.one rfl rfl
  rw [aD] at this
  obtain ⟨v,e,k⟩:=this
  simp only [List.cons.injEq,and_true] at e
  rcases k with ⟨e0,_⟩ | ⟨b',off,k',cells,t,fz,l,rfl,_⟩
  ·rw [e0] at h0;simp at h0
  ·exact ⟨_,_,_,e,rfl⟩
 ·cases h
theorem VB {P:Program} {op:BinOp} {t:TypeId} {d:Option ba} {x y v:AV} {q:List Prop} {cx cy:Value} (hd:∀ e,d=some e→e.ok P t) (h:bin op d x y=some (q,v)) (hq:holds q)
  (hx:ak ι x cx) (hy:ak ι y cy) (xo yo:Operand):∃ c,(do eqGuard op t xo yo cx cy;binOp op t cx cy:Sem Value).run P w=.ok c w∧ak ι v c:=by
 unfold bin at h
 split at h
 ·rename_i k m k' n
  rw [hx.int,hy.int]
  have hg:(eqGuard op t xo yo (.int k m) (.int k' n)).run P w=.ok () w:=by unfold eqGuard;split<;>rfl
  simp only [Sem.run_bind,hg,Result.andThen]
  split at h
  ·simp only [Option.some.injEq,Prod.mk.injEq] at h
   obtain ⟨rfl,rfl⟩:=h
   simp only [holds,and_true] at hq
   exact ⟨_,by simp [binOp,Op.shift,Int.not_lt.2 hq,b7],dv _ _⟩
  ·simp only [Option.some.injEq,Prod.mk.injEq] at h
   obtain ⟨rfl,rfl⟩:=h
   simp only [holds,and_true] at hq
   exact ⟨_,by simp [binOp,Op.shift,Int.not_lt.2 hq,a9],dv _ _⟩
  ·split at h
   ·rename_i e;subst e
    exact RL t h hq
   ·cases h
 ·rename_i m n
  rw [hx.bool,hy.bool]
  have hg:(eqGuard op t xo yo (.bool m) (.bool n)).run P w=.ok () w:=by unfold eqGuard;split<;>rfl
  simp only [Sem.run_bind,hg,Result.andThen]
  split at h
  ·rename_i e
   have hu:=(hd e rfl).1
   split at h
   ·rename_i hdesc
    rw [hdesc] at hu
    simp only [Option.some.injEq,Prod.mk.injEq] at h
    obtain ⟨rfl,rfl⟩:=h
    exact ⟨_,by simp only [binOp,Sem.run_bind,run_equal_bool hu,Result.andThen,Sem.run_pure],dN _⟩
   ·rename_i hdesc
    rw [hdesc] at hu
    simp only [Option.some.injEq,Prod.mk.injEq] at h
    obtain ⟨rfl,rfl⟩:=h
    exact ⟨_,by simp only [binOp,Sem.run_bind,run_equal_bool hu,Result.andThen,Sem.run_pure],dN _⟩
   ·cases h
  ·cases h
 ·rename_i s1 s2
  rw [hx.str,hy.str]
  have hg:(eqGuard op t xo yo (.string s1) (.string s2)).run P w=.ok () w:=by unfold eqGuard;split<;>rfl
  simp only [Sem.run_bind,hg,Result.andThen]
  split at h
  ·simp only [Option.some.injEq,Prod.mk.injEq] at h
   obtain ⟨rfl,rfl⟩:=h
   obtain ⟨hq,_⟩:=hq
   have hn:¬ ((9223372036854775807:Int) < (s1.size:Int)+(s2.size:Int)):=by omega
   exact ⟨.string (s1++s2),by simp [binOp,Op.stringOp,hn],mH _⟩
  ·cases h
 ·split at h
  ·rename_i e
   have hu:=(hd e rfl).1
   have hcy:=hy.raw
   subst hcy
   split at h
   ·rename_i el hdesc hn
    rw [hdesc] at hu
    simp only [Option.some.injEq,Prod.mk.injEq] at h
    obtain ⟨rfl,rfl⟩:=h
    obtain ⟨ad,n,k,rfl,rfl⟩:=DG hn hq hx
    have hg:(eqGuard .eql t xo yo (.slice ad n k) (.slice none 0 0)).run P w=.ok () w:=by unfold eqGuard;split<;>rfl
    simp only [Sem.run_bind,hg,Result.andThen]
    exact ⟨_,by simp only [binOp,Sem.run_bind,jF hu,Result.andThen,Sem.run_pure],dN _⟩
   ·rename_i el hdesc hn
    rw [hdesc] at hu
    simp only [Option.some.injEq,Prod.mk.injEq] at h
    obtain ⟨rfl,rfl⟩:=h
    obtain ⟨ad,n,k,rfl,rfl⟩:=DG hn hq hx
    have hg:(eqGuard .neq t xo yo (.slice ad n k) (.slice none 0 0)).run P w=.ok () w:=by unfold eqGuard;split<;>rfl
    simp only [Sem.run_bind,hg,Result.andThen]
    exact ⟨_,by simp only [binOp,Sem.run_bind,jF hu,Result.andThen,Sem.run_pure],dN _⟩
   ·cases h
  ·cases h
 ·cases h
theorem V0 {P:Program} {op:UnOp} {x v:AV} {cx:Value} (h:un op x=some v) (hx:ak ι x cx):∃ c,(Op.unary op cx).run P w=.ok c w∧ak ι v c:=by
 unfold un at h
 split at h<;>first
  | (cases h;rw [hx.int];exact ⟨_,rfl,dv _ _⟩)
  | (cases h;rw [hx.bool];exact ⟨_,rfl,dN _⟩)
  | cases h
theorem M1 {b:Bool} {x y:AV} {cx cy:Value} (hx:ak ι x cx) (hy:ak ι y cy):ak ι (pB b x y) (if b then cx else cy):=by
 unfold pB
 split
 ·split
  ·rename_i e;subst e
   rw [hx.int,hy.int];cases b<;>exact dv _ _
  ·cases b
   ·exact hy
   ·exact hx
 ·rw [hx.bool,hy.bool];cases b<;>exact dN _
 ·cases b
  ·exact hy
  ·exact hx
theorem sZ (p:List Step) (s:Step):aw (p++[s])=aw p+s.off:=by
 induction p with
 | nil=>simp [aw]
 | cons x p ih=>simp [aw,ih,Nat.add_assoc]
theorem Cy {o:Nat} {p:List Step} {c:Value} (s:Step) (h:ak ι (.ptr o p) c):∃ b,c=.pointer (some ⟨b,aw p,none⟩)∧ak ι (.ptr o (p++[s])) (.pointer (some ⟨b,aw p+s.off,none⟩)):=by
 obtain ⟨b,z,hb,rfl⟩:=o0 h
 refine ⟨b,rfl,an rfl ?_⟩
 rw [aD]
 exact ⟨b,z,hb,by rw [sZ]⟩
theorem Ct {v u:AV} {s:Step} {q:List Prop} {c:Value} (h:wo v s=some (q,u)) (hq:holds q) (hv:ak ι (.ref v) c):
  ∃ b off,c=.pointer (some ⟨b,off,none⟩)∧ak ι (.ref u) (.pointer (some ⟨b,off+s.off,none⟩)):=by
 obtain ⟨b,off,cells,t,fz,l,rfl,hp,hr,ha⟩:=BK hv
 obtain ⟨l1,m,l2,el,el1,hu,_⟩:=fF [s] v l q u h hq hr
 refine ⟨b,off,rfl,an rfl ?_⟩
 rw [aD]
 refine ⟨b,off+s.off,cells,t,fz,m,rfl,hp,hu,?_⟩
 have:s.off=l1.length:=by rw [el1];simp [aw]
 rw [this]
 exact At.sub (by rw [← el];exact ha)
theorem lI (hV:E.Valid) {d e:ba} {f off:Nat} (h:ox E d f=some (off,e)):
  ∃ fs fd,d.desc=.struct fs∧fs[f]?=some fd∧fd.offset=off∧e.ok E.P fd.type∧e.size≠0:=by
 unfold ox at h
 split at h
 ·rename_i fs hd
  split at h
  ·rename_i fd hf
   split at h
   ·rename_i x hx
    split at h
    ·cases h
    ·rename_i hs
     simp only [Option.some.injEq,Prod.mk.injEq] at h
     obtain ⟨rfl,rfl⟩:=h
     exact ⟨fs,fd,hd,hf,rfl,hV.ty _ _ hx,hs⟩
   ·cases h
  ·cases h
 ·cases h
theorem Bp (hV:E.Valid) {s:TypeId} {d:ba} {x v:AV} {f:Nat} {q:List Prop} {cx:Value} (hd:d.ok E.P s) (h:kN E d x f=some (q,v)) (hq:holds q) (hx:ak ι x cx):
  ∃ c,(Instr.fieldAt s cx f).run E.P w=.ok c w∧ak ι v c:=by
 unfold kN at h
 split at h
 ·rename_i off e hf
  obtain ⟨fs,fd,hdesc,hfd,rfl,he,hes⟩:=lI hV hf
  have hu:=hd.1
  rw [hdesc] at hu
  have key:∀ b o,(Instr.fieldAt s (.pointer (some ⟨b,o,none⟩)) f).run E.P w=.ok (.pointer (some ⟨b,o+fd.offset,none⟩)) w:=fun b o=>by
   simp [Instr.fieldAt,run_underlying hu,hfd,Instr.sureAddr,fieldPlace,bH he,hes,dG]
  split at h
  ·rename_i o p
   simp only [Option.some.injEq,Prod.mk.injEq] at h
   obtain ⟨rfl,rfl⟩:=h
   obtain ⟨b,rfl,hr⟩:=Cy (.Px fd.offset f) hx
   exact ⟨_,key _ _,hr⟩
  ·split at h
   ·rename_i q' u hg
    simp only [Option.some.injEq,Prod.mk.injEq] at h
    obtain ⟨rfl,rfl⟩:=h
    obtain ⟨b,o,rfl,hr⟩:=Ct hg hq hx
    exact ⟨_,key _ _,hr⟩
   ·cases h
  ·cases h
 ·cases h
theorem AT {P:Program} {t:TypeId} {e:ba} {x u:AV} {s:Step} {q:List Prop} {cx:Value} (he:e.ok P t) (h:wo x s=some (q,u)) (hq:holds q) (hs:nJ u=e.size) (ha:dJ u=e.agg)
  (hx:ak ι x cx):∃ cs,cx=.agg cs∧∃ c,(part t cs s.off).run P w=.ok c w∧ak ι u c:=by
 have hagg:dJ x=true:=by
  unfold wo jx at h
  split at h
  ·rfl
  ·rfl
  ·rfl
  ·cases h
 obtain ⟨l,hr,rfl⟩:=hx.agg hagg
 obtain ⟨l1,m,l2,el,el1,hu,_⟩:=fF [s] x l q u h hq hr
 have hoff:s.off=l1.length:=by rw [el1];simp [aw]
 have hl:=gg _ _ hu
 refine ⟨_,rfl,?_⟩
 unfold part
 simp only [Sem.run_bind,vI he,Result.andThen]
 cases hag:e.agg with
 | true=>
  refine ⟨.agg m.toArray,?_,gu (ha.trans hag) hu⟩
  simp only [if_true,Sem.run_bind,bH he,Result.andThen,Sem.run_pure]
  congr 2
  rw [hoff,← hs,← hl,el]
  simp [List.extract_eq_take_drop]
 | false=>
  have h1:m.length=1:=by
   rw [hl];cases u<;>first | rfl | (simp [dJ,hag] at ha;done) | (rw [aD] at hu;exact hu.elim)
  obtain ⟨c,rfl⟩:=List.length_eq_one_iff.1 h1
  refine ⟨c,?_,an (ha.trans hag) hu⟩
  simp [hoff,el]
theorem Oc (hV:E.Valid) {s:TypeId} {d:ba} {x v:AV} {f:Nat} {q:List Prop} {cx:Value} (hd:d.ok E.P s) (h:qe E d x f=some (q,v)) (hq:holds q) (hx:ak ι x cx):
  ∃ c,(Instr.field s cx f).run E.P w=.ok c w∧ak ι v c:=by
 unfold qe at h
 split at h
 ·rename_i off e hf
  obtain ⟨fs,fd,hdesc,hfd,rfl,he,hes⟩:=lI hV hf
  have hu:=hd.1
  rw [hdesc] at hu
  split at h
  ·rename_i q' u hg
   split at h
   ·rename_i hc
    simp only [Option.some.injEq,Prod.mk.injEq] at h
    obtain ⟨rfl,rfl⟩:=h
    obtain ⟨cs,rfl,c,hrun,hr⟩:=AT (w:=w) he hg hq hc.1 hc.2 hx
    exact ⟨c,by simp only [Instr.field,Sem.run_bind,run_underlying hu,Result.andThen,hfd,asAgg,Sem.run_pure];exact hrun,hr⟩
   ·cases h
  ·cases h
 ·cases h
theorem mr (hV:E.Valid) {d e:ba} {t:TypeId} (h:kO E d=some (t,e)):e.ok E.P t∧(d.desc=.slice t∨∃ n,d.desc=.array n t):=by
 unfold kO at h
 split at h
 ·rename_i hd
  split at h
  ·rename_i x hx
   simp only [Option.some.injEq,Prod.mk.injEq] at h
   obtain ⟨rfl,rfl⟩:=h
   exact ⟨hV.ty _ _ hx,.inl hd⟩
  ·cases h
 ·rename_i n _ hd
  split at h
  ·rename_i x hx
   simp only [Option.some.injEq,Prod.mk.injEq] at h
   obtain ⟨rfl,rfl⟩:=h
   exact ⟨hV.ty _ _ hx,.inr ⟨_,hd⟩⟩
  ·cases h
 ·cases h
theorem NC {t et:TypeId} {d e:ba} {x i v:AV} {q:List Prop} {cx ci:Value} (hd:d.ok E.P t) (he:e.ok E.P et) (hde:d.desc=.slice et∨∃ n,d.desc=.array n et)
  (h:sw d e x i=some (q,v)) (hq:holds q) (hx:ak ι x cx) (hi:ak ι i ci):∃ c,(Instr.index t cx ci).run E.P w=.ok c w∧ak ι v c:=by
 unfold sw at h
 split at h
 ·rename_i k i
  rw [hi.int]
  split at h
  ·rename_i n et' hdesc
   have het:et'=et:=by
    rcases hde with h' | ⟨m,h'⟩
    ·rw [hdesc] at h';cases h'
    ·rw [hdesc] at h';cases h';rfl
   subst het
   have hu:=hd.1
   rw [hdesc] at hu
   split at h
   ·rename_i q' u hg
    split at h
    ·rename_i hc
     simp only [Option.some.injEq,Prod.mk.injEq] at h
     obtain ⟨rfl,rfl⟩:=h
     obtain ⟨h0,hn,hq⟩:=hq
     obtain ⟨cs,rfl,c,hrun,hr⟩:=AT (w:=w) he hg hq hc.1 hc.2 hx
     refine ⟨c,?_,hr⟩
     simp only [Instr.index,asIntOf,Sem.run_bind,Sem.run_pure,Result.andThen,run_underlying hu]
     simp only [h0,hn,and_self,if_true,Sem.run_bind,bH he,Result.andThen]
     exact hrun
    ·cases h
   ·cases h
  ·cases h
 ·cases h
theorem gW {o s off len:Nat} {p:List Step} {cap:Option Nat} {c:Value} (h:ak ι (.aS o p s off len cap) c):∃ b z k,ι.bB[o]?=some (b,z)∧c=.slice (some ⟨b,aw p+off * s,none⟩) len k∧len≤k∧
  aw p+(off+k) * s≤z∧(∀ k',cap=some k'→k=k'):=by
 have:=h.one rfl rfl;rw [aD] at this
 obtain ⟨b,z,k,e,k1,k2⟩:=this
 exact ⟨b,z,k,e,by simpa using k1,k2⟩
theorem Bd {c:TC} {xs:List c.den} {v:Value} (h:ak ι (.dA c xs) v):(xs=[]∧(v=.slice none 0 0∨∃ a,v=.slice (some a) 0 0))∨
   ∃ b off k cells t fz l,v=.slice (some ⟨b,off,none⟩) xs.length k∧xs.length≤k∧ι.aM b=some (.cells cells t fz)∧bV (bD ι c) xs l∧At cells off l:=by
 have:=h.one rfl rfl;rw [aD] at this
 obtain ⟨u,e,k⟩:=this
 simp only [List.cons.injEq,and_true] at e;subst e;exact k
theorem A8 {t et:TypeId} {d e:ba} {x i v:AV} {q:List Prop} {cx ci:Value} (hd:d.ok E.P t) (he:e.ok E.P et) (hde:d.desc=.slice et∨∃ n,d.desc=.array n et)
  (h:jw d e.size x i=some (q,v)) (hq:holds q) (hx:ak ι x cx) (hi:ak ι i ci):∃ c,(Instr.indexAt t cx ci).run E.P w=.ok c w∧ak ι v c:=by
 unfold jw at h
 split at h
 ·rename_i k i
  rw [hi.int]
  have arr:∀ n b o,d.desc=.array n et→0≤i→i < n→(Instr.indexAt t (.pointer (some ⟨b,o,none⟩)) (.int k i)).run E.P w=.ok (.pointer (some ⟨b,o+i.toNat * e.size,none⟩)) w:=fun n b o hdesc h0 hn=>by
   have hu:=hd.1
   rw [hdesc] at hu
   simp [Instr.indexAt,run_underlying hu,asIntOf,Instr.sureAddr,h0,hn,bH he,dG]
  have slc:∀ (n k':Nat) b o,d.desc=.slice et→0≤i→i < n→(Instr.indexAt t (.slice (some ⟨b,o,none⟩) n k') (.int k i)).run E.P w=.ok (.pointer (some ⟨b,o+i.toNat * e.size,none⟩)) w:=fun n k' b o hdesc h0 hn=>by
   have hu:=hd.1
   rw [hdesc] at hu
   simp [Instr.indexAt,run_underlying hu,asIntOf,h0,hn,bH he,dG]
  have ds:∀ et',d.desc=.slice et'→et'=et:=fun et' h'=>by
   rcases hde with k' | ⟨m,k'⟩<;>rw [h'] at k'<;>cases k';rfl
  have da:∀ n et',d.desc=.array n et'→et'=et:=fun n et' h'=>by
   rcases hde with k' | ⟨m,k'⟩<;>rw [h'] at k'<;>cases k';rfl
  split at h
  ·rename_i n et' o p hdesc
   have:=da _ _ hdesc;subst this
   simp only [Option.some.injEq,Prod.mk.injEq] at h
   obtain ⟨rfl,rfl⟩:=h
   obtain ⟨h0,hn,_⟩:=hq
   obtain ⟨b,rfl,hr⟩:=Cy (.idx e.size i.toNat) hx
   exact ⟨_,arr _ _ _ hdesc h0 hn,hr⟩
  ·rename_i n et' u hdesc
   have:=da _ _ hdesc;subst this
   split at h
   ·rename_i q' u' hg
    simp only [Option.some.injEq,Prod.mk.injEq] at h
    obtain ⟨rfl,rfl⟩:=h
    obtain ⟨h0,hn,hq⟩:=hq
    obtain ⟨b,o,rfl,hr⟩:=Ct hg hq hx
    exact ⟨_,arr _ _ _ hdesc h0 hn,hr⟩
   ·cases h
  ·rename_i et' c xs hdesc
   have:=ds _ hdesc;subst this
   split at h
   ·rename_i hcs
    simp only [Option.some.injEq,Prod.mk.injEq] at h
    obtain ⟨rfl,rfl⟩:=h
    obtain ⟨h0,hn,_⟩:=hq
    rcases Bd hx with ⟨rfl,_⟩ | ⟨b,off,k',cells,ty,fz,l,rfl,hk,hp,hr,hat⟩
    ·simp at hn;omega
    ·refine ⟨_,slc _ _ _ _ hdesc h0 hn,an rfl ?_⟩
     obtain ⟨l1,m,l2,el,el1,hu,_⟩:=hr.at (aO c) i.toNat _ (Cu (by omega))
     rw [aD]
     refine ⟨b,off+i.toNat * e.size,cells,ty,fz,m,rfl,hp,eV.2 hu,?_⟩
     rw [← hcs,← el1]
     exact At.sub (by rw [← el];exact hat)
   ·cases h
  ·rename_i et' o p s' off len cap hdesc
   have:=ds _ hdesc;subst this
   split at h
   ·rename_i hs;subst hs
    simp only [Option.some.injEq,Prod.mk.injEq] at h
    obtain ⟨rfl,rfl⟩:=h
    obtain ⟨h0,hn,_⟩:=hq
    obtain ⟨b,z,k',hb,rfl,hk,_⟩:=gW hx
    refine ⟨_,slc _ _ _ _ hdesc h0 hn,an rfl ?_⟩
    rw [aD]
    refine ⟨b,z,hb,?_⟩
    rw [sZ,Step.off,Nat.add_mul,Nat.add_assoc]
   ·cases h
  ·rename_i et' o s' n hdesc
   have:=ds _ hdesc;subst this
   split at h
   ·rename_i hs;subst hs
    simp only [Option.some.injEq,Prod.mk.injEq] at h
    obtain ⟨rfl,rfl⟩:=h
    obtain ⟨h0,hn,_⟩:=hq
    have hx:=hx.one rfl rfl
    rw [aD] at hx
    obtain ⟨b,z,v0,hb,hv0,hv⟩:=hx
    simp only [List.cons.injEq,and_true] at hv0
    subst hv0
    rcases hv with ⟨e0,_⟩ | ⟨_,k',rfl,_⟩
    ·subst e0
     have:(i:Int) < ((0:Nat):Int):=hn
     omega
    ·refine ⟨_,slc _ _ _ _ hdesc h0 hn,an rfl ?_⟩
     rw [aD]
     exact ⟨b,z,hb,by simp [aw,Step.off]⟩
   ·cases h
  ·cases h
 ·cases h
end Go.aA
end
section
namespace Go.aA
open Go.RowKit
variable {E:Env} {ι:aq} {T:List AV} {H:al} {a:Act} {w:World}
theorem j3 {v:AV} (h:qQ v=true):qQ v=true:=h
theorem Le (off:Nat):∀ (l:List Value) (k:Nat) (cs:Array Value) (l1 m l2:List Value),cs.toList=l1++m++l2→l1.length=off+k→m.length=l.length→
  ((l.zipIdx k).foldl (fun (cs:Array Value) x=>cs.setIfInBounds (off+x.2) x.1) cs).toList=l1++l++l2
 | [],k,cs,l1,m,l2,h,_,hm=>by
  simp at hm;subst hm;simpa using h
 | c :: l,k,cs,l1,m,l2,h,h1,hm=>by
  obtain ⟨x,m,rfl⟩:∃ x m',m=x :: m':=by cases m with | nil=>simp at hm | cons x m=>exact ⟨x,m,rfl⟩
  simp only [List.zipIdx_cons,List.foldl_cons]
  have:=Le off l (k+1) (cs.setIfInBounds (off+k) c) (l1++[c]) m l2 (by
   rw [Array.toList_setIfInBounds,h,← h1];simp) (by simp [h1];omega) (by simpa using hm)
  rw [this];simp
theorem rn {st:Nat→Option (Step×Nat)} {place:Nat→Option (Nat×Nat)} (hst:∀ i s n,st i=some (s,n)→place i=some (s.off,n)):
  ∀ (l:List (Nat×AV)) (cl:List (Nat×Value)) (v v':AV) (q:List Prop) (cs:Array Value),pI st v l=some (q,v')→holds q→
   aL (fun (x:Nat×AV) (y:Nat×Value)=>x.1=y.1∧ak ι x.2 y.2) l cl→aD ι v cs.toList→∃ cs',Instr.fill place cs cl=some cs'∧aD ι v' cs'.toList
 | [],_,v,v',q,cs,h,_,hl,hr=>by
  cases hl
  simp only [pI,Option.some.injEq,Prod.mk.injEq] at h
  obtain ⟨_,rfl⟩:=h
  exact ⟨cs,rfl,hr⟩
 | (i,x) :: l,_,v,v',q,cs,h,hq,hl,hr=>by
  cases hl with
  | cons hx hl=>
   rename_i y cl
   obtain ⟨j,c⟩:=y
   obtain ⟨rfl,hx⟩:=hx
   simp only [pI] at h
   split at h
   ·rename_i s n hs
    split at h
    ·rename_i q1 u hg
     split at h
     ·rename_i hc
      obtain ⟨hu,hxn,hnt⟩:=hc
      split at h
      ·rename_i v1 hv1
       split at h
       ·rename_i q2 r hf
        simp only [Option.some.injEq,Prod.mk.injEq] at h
        obtain ⟨rfl,rfl⟩:=h
        rw [bu] at hq
        obtain ⟨l1,m,l2,el,el1,hum,hset⟩:=fF [s] v cs.toList q1 u hg hq.1 hr
        have hxc:=hx.cells (j3 hnt)
        have hxl:=gg _ _ hxc
        have hml:=gg _ _ hum
        have hoff:s.off=l1.length:=by rw [el1];simp [aw]
        have hcs:cs.size=l1.length+m.length+l2.length:=by rw [← Array.length_toList,el];simp [Nat.add_assoc]
        have hsz:c.cells.size=n:=by rw [← Array.length_toList,hxl,hxn]
        have hnew:=hset x c.cells.toList v1 hv1 hxc (by rw [hxl,hml,hxn,hu])
        have hfold:=Le s.off c.cells.toList 0 cs l1 m l2 el (by simp [hoff]) (by rw [hml,hxl,hxn,hu])
        have hfold':(c.cells.zipIdx.foldl (fun cs (x:Value×Nat)=>cs.setIfInBounds (s.off+x.2) x.1) cs).toList=l1++c.cells.toList++l2:=by
         rw [← hfold,← Array.foldl_toList,Array.toList_zipIdx]
        obtain ⟨cs',hfill,hrep⟩:=rn hst l cl v1 _ q2 (c.cells.zipIdx.foldl (fun cs (x:Value×Nat)=>cs.setIfInBounds (s.off+x.2) x.1) cs) hf hq.2 hl (by rw [hfold'];exact hnew)
        refine ⟨cs',?_,hrep⟩
        simp only [Instr.fill,hst _ _ _ hs]
        rw [if_neg]
        ·exact hfill
        ·simp only [hsz,ne_eq,not_true_eq_false,decide_false,Bool.false_or,gt_iff_lt,decide_eq_true_eq]
         rw [hcs,hoff,hml,hu];omega
       ·cases h
      ·cases h
     ·cases h
    ·cases h
   ·cases h
theorem jA:∀ {l:List (Nat×Operand)} {ps:List (Nat×AV)},lJ E T l=some ps→gi E ι T H a w→
  aL (fun (x:Nat×AV) (y:Nat×Value)=>x.1=y.1∧ak ι x.2 y.2) ps (l.map fun x=>(x.1,a.eval x.2))
 | [],_,h,_=>by cases h;exact .nil
 | (i,x) :: l,_,h,r=>by
  simp only [lJ] at h
  split at h
  ·rename_i v vs h1 h2;cases h;exact .cons ⟨rfl,bz h1 r⟩ (jA h2 r)
  ·cases h
def placeOf (f:Field):Sem (Nat×Nat):=do pure (f.offset,← sizeOf f.type)
theorem np {P:Program}:∀ (fs:List Field),(∀ f∈fs,∃ n,(sizeOf f.type).run P w=.ok n w)→
  ∃ l:List (Nat×Nat),(fs.mapM placeOf).run P w=.ok l w∧
   ∀ (i:Nat) (f:Field) n,fs[i]?=some f→(sizeOf f.type).run P w=.ok n w→l[i]?=some (f.offset,n)
 | [],_=>⟨[],rfl,by simp⟩
 | f :: fs,h=>by
  obtain ⟨n,hn⟩:=h f (by simp)
  obtain ⟨l,hl,hat⟩:=np fs (fun f hf=>h f (by simp [hf]))
  refine ⟨(f.offset,n) :: l,?_,?_⟩
  ·simp only [List.mapM_cons,Sem.run_bind,placeOf,hn,Result.andThen,Sem.run_pure]
   rw [hl]
  ·intro i f' n' e1 e2
   cases i with
   | zero=>simp at e1;subst e1;rw [hn] at e2;cases e2;rfl
   | succ i=>simp at e1 ⊢;exact hat i f' n' e1 e2
theorem PK {c:TC} {xs:List c.den} {l:List Value} (h:bV (bD ι c) xs l):cA ι (List.replicate xs.length c.size) (xs.map (tN c)) l:=by
 induction h with
 | nil=>rw [List.map_nil,cA];exact ⟨rfl,rfl⟩
 | cons h1 _ ih=>
  rw [List.map_cons,cA]
  exact ⟨c.size,_,_,_,rfl,rfl,aO c _ _ h1,eV.2 h1,ih⟩
theorem IH {z:AV} {parts:List (Nat×AV)} {l:List Value} (h:aD ι z l):aD ι (Ai z parts) l:=by
 unfold Ai
 split
 ·cases z with
  | arr n c xs=>
   rw [aD] at h
   simp only [spread]
   rw [aD]
   exact PK h.2
  | _=>exact h
 ·exact h
theorem Pa (hV:E.Valid) {t:TypeId} {d:ba} {ps:List (Nat×AV)} {cl:List (Nat×Value)} {q:List Prop} {v:AV} {s:Nat} (hd:d.ok E.P t)
  (hs:∀ n et,d.desc=.array n et→∃ e,E.ty et=some e∧e.size=s) (h:F6 E d s ps=some (q,v)) (hq:holds q)
  (hl:aL (fun (x:Nat×AV) (y:Nat×Value)=>x.1=y.1∧ak ι x.2 y.2) ps cl):
  ∃ cs:Array Value,(Instr.build t cl.toArray).run E.P w=.ok (.agg cs) w∧aD ι v cs.toList:=by
 obtain ⟨z,hz,hzr⟩:=kx hd w
 have hu:=hd.1
 have hzc:=(hzr ι).cells
 unfold F6 at h
 split at h
 ·rename_i fs hdesc
  rw [hdesc] at hu
  split at h
  ·rename_i hall
   have hsz:∀ f∈fs.toList,∃ n,(sizeOf f.type).run E.P w=.ok n w:=fun f hf=>by
    have:=List.all_eq_true.1 hall f hf
    obtain ⟨x,hx⟩:=Option.isSome_iff_exists.1 this
    exact ⟨x.size,bH (hV.ty _ _ hx) w⟩
   obtain ⟨pl,hpl,hat⟩:=np fs.toList hsz
   obtain ⟨cs',hfill,hrep⟩:=rn (place:=(pl.toArray[·]?)) (fun i s n e=>by
    split at e
    ·rename_i off e' hf
     simp only [Option.some.injEq,Prod.mk.injEq] at e
     obtain ⟨rfl,rfl⟩:=e
     obtain ⟨fs',fd,hdesc',hfd,rfl,he,_⟩:=lI hV hf
     rw [hdesc] at hdesc';cases hdesc'
     have:=hat i fd _ (by simpa using hfd) (bH he w)
     simpa [Step.off] using this
    ·cases e) ps cl d.zero v q z.cells h hq hl hzc
   refine ⟨cs',?_,hrep⟩
   have hpl':(fs.mapM placeOf).run E.P w=.ok pl.toArray w:=by
    rw [Array.mapM_eq_mapM_toList];simp only [Sem.run_map,hpl,Result.andThen]
   simp only [Instr.build,Sem.run_bind,hz,Result.andThen,run_underlying hu]
   have hpl2:(fs.mapM (fun f=>do pure (f.offset,← sizeOf f.type):Field→Sem (Nat×Nat))).run E.P w=.ok pl.toArray w:=hpl'
   simp only [hpl2,hfill,Sem.run_pure]
  ·cases h
 ·rename_i n et hdesc
  rw [hdesc] at hu
  obtain ⟨e,he,rfl⟩:=hs n et hdesc
  obtain ⟨cs',hfill,hrep⟩:=rn (place:=fun i=>some (i * e.size,e.size)) (fun i s n h=>by
   simp only [Option.some.injEq,Prod.mk.injEq] at h
   obtain ⟨rfl,rfl⟩:=h
   rfl) ps cl (Ai d.zero ps) v q z.cells h hq hl (IH hzc)
  refine ⟨cs',?_,hrep⟩
  simp only [Instr.build,Sem.run_bind,hz,Result.andThen,run_underlying hu,bH (hV.ty _ _ he) w]
  simp only [hfill,Sem.run_pure]
 ·cases h
end Go.aA
end
section
namespace Go.aA
open Go.RowKit
variable {E:Env} {ι:aq} {T:List AV} {H:al} {a:Act} {w:World}
theorem gq (z:Array Value):∀ (n:Nat),(List.range (n * z.size)).map (fun i=>z[i % z.size]!)=(List.replicate n z.toList).flatten
 | 0=>by simp
 | n+1=>by
  have ih:=gq z n
  rw [show (n+1) * z.size=z.size+n * z.size by rw [Nat.add_mul];omega,List.range_add,List.map_append,List.replicate_succ,List.flatten_cons,← ih]
  congr 1
  ·apply List.ext_getElem
   ·simp
   ·intro i h1 h2
    simp at h1
    simp [Nat.mod_eq_of_lt h1,h1]
  ·rw [List.map_map]
   apply List.map_congr_left
   intro i _
   simp
theorem cC {c:TC} {z:c.den} {l:List Value} (h:bD ι c z l):∀ n,bV (bD ι c) (List.replicate n z) (List.replicate n l).flatten
 | 0=>by simpa using .nil
 | n+1=>by rw [List.replicate_succ,List.replicate_succ,List.flatten_cons];exact .cons h (cC h n)
def uU (e:ba) (len:Nat) (s:AV):Prop:=∀ (ι:aq) (l:List Value),aD ι e.zero l→l.length=e.size→aD ι s (List.replicate len l).flatten
theorem qE {e:ba} {c:TC} {z:c.den} {len:Nat} (hz:toD c e.zero=some z) (hc:c.size=e.size):uU e len (.arr len c (List.replicate len z)):=by
 intro ι l h _
 rw [aD]
 exact ⟨by simp,cC (oZ hz h) len⟩
theorem pq {e:ba} {len:Nat}:uU e len (EG e len):=by
 intro ι l h hl
 unfold EG
 rw [aD]
 induction len with
 | zero=>rw [List.replicate_zero,List.replicate_zero,cA];exact ⟨rfl,rfl⟩
 | succ n ih=>
  rw [List.replicate_succ,List.replicate_succ,List.replicate_succ,List.flatten_cons,cA]
  exact ⟨_,_,_,_,rfl,rfl,hl,h,ih⟩
theorem kU {t et:TypeId} {d e:ba} {s:AV} {len:Nat} {ps:List (Nat×AV)} {cl:List (Nat×Value)} {q:List Prop} {v:AV}
  (hd:d.ok E.P t) (he:e.ok E.P et) (hdesc:d.desc=.slice et) (hs:uU e len s) (h:pI (fun i=>some (.idx e.size i,e.size)) s ps=some (q,v))
  (hq:holds q) (hl1:len * e.size≤2 ^ 24) (hl2:e.size≠0) (hl3:nJ v=len * e.size)
  (hl:aL (fun (x:Nat×AV) (y:Nat×Value)=>x.1=y.1∧ak ι x.2 y.2) ps cl):
  ∃ cs':Array Value,(Instr.buildSlice t len cl.toArray).run E.P w=.ok (.slice (some ⟨w.heap.size,0,none⟩) len len) (w.alloc (.cells cs' et))∧aD ι v cs'.toList∧cs'.size=len * e.size:=by
 obtain ⟨zv,hzr,hzv⟩:=kx he w
 have hu:=hd.1
 rw [hdesc] at hu
 have hzc:=(hzv ι).cells
 have hsz0:nJ e.zero=e.size:=he.2.elim fun i h=>h.elim fun z h=>h.2.2.2.2.2.2
 have hzl:zv.cells.size=e.size:=by rw [← Array.length_toList,gg _ _ hzc,hsz0]
 have hne:¬ len * e.size > 2 ^ 24:=by omega
 have hstart:∃ zs:Array Value,((len * e.size=0∧zs=#[])∨(len * e.size≠0∧zs=zv.cells))∧
   aD ι s ((Array.range (len * e.size)).map (zs[· % zs.size]!)).toList:=by
  by_cases h0:len * e.size=0
  ·have hlen:len=0:=by
    rcases Nat.mul_eq_zero.1 h0 with h | h
    ·exact h
    ·exact absurd h hl2
   subst hlen
   refine ⟨#[],.inl ⟨h0,rfl⟩,?_⟩
   have:=hs ι zv.cells.toList hzc (by rw [Array.length_toList,hzl])
   simpa using this
  ·refine ⟨zv.cells,.inr ⟨h0,rfl⟩,?_⟩
   have:=gq zv.cells len
   rw [hzl] at this
   rw [Array.toList_map,Array.toList_range,hzl,this]
   exact hs ι _ hzc (by rw [Array.length_toList,hzl])
 obtain ⟨zs,hzs,hrep0⟩:=hstart
 obtain ⟨cs',hfill,hrep⟩:=rn (place:=fun i=>some (i * e.size,e.size)) (fun i s n h=>by
  simp only [Option.some.injEq,Prod.mk.injEq] at h
  obtain ⟨rfl,rfl⟩:=h
  rfl) ps cl _ v q _ h hq hl hrep0
 have hcs:cs'.size=len * e.size:=by rw [← Array.length_toList,gg _ _ hrep,hl3]
 refine ⟨cs',?_,hrep,hcs⟩
 simp only [Instr.buildSlice,Sem.run_bind,run_underlying hu,Result.andThen,bH he]
 rw [if_neg hne]
 rcases hzs with ⟨h0,rfl⟩ | ⟨h0,rfl⟩
 ·rw [if_pos h0]
  simp only [Sem.run_bind,Sem.run_pure,Result.andThen,hfill]
  rfl
 ·rw [if_neg h0]
  simp only [Sem.run_bind,hzr,Sem.run_pure,Result.andThen,hfill]
  rfl
theorem pK {t et:TypeId} {d e:ba} {s:AV} {len:Nat} {ps:List (Nat×AV)} {cl:List (Nat×Value)} {q:List Prop} {v:AV}
  (hd:d.ok E.P t) (he:e.ok E.P et) (hdesc:d.desc=.slice et) (hs:uU e len s) (h:pI (fun i=>some (.idx e.size i,e.size)) s ps=some (q,v))
  (hq:holds q) (hl1:len * e.size≤2 ^ 24) (hl2:e.size≠0) (hl3:nJ v=len * e.size) (r:aE ι H w)
  (hl:aL (fun (x:Nat×AV) (y:Nat×Value)=>x.1=y.1∧ak ι x.2 y.2) ps cl):
  ∃ ι' w' u,(Instr.buildSlice t len cl.toArray).run E.P w=.ok u w'∧Ext ι ι'∧aE ι' (H++[.cell true et v]) w'∧ak ι' (.aS H.length [] e.size 0 len (some len)) u:=by
 obtain ⟨cs',hrun,hrep,hcs⟩:=kU (w:=w) hd he hdesc hs h hq hl1 hl2 hl3 hl
 have hE:=Ext.add ι w.heap.size cs'.size
 refine ⟨ι.add w.heap.size cs'.size,w.alloc (.cells cs' et),_,hrun,hE,?_,?_⟩
 ·exact r.alloc _ _ _ ⟨cs',(0,0),cs'.toList,[],heap_alloc_new,by simp,rfl,xl hE _ _ hrep,by simp⟩
 ·refine an rfl ?_
  rw [aD]
  refine ⟨w.heap.size,cs'.size,len,by rw [r.len];exact ι.fK _ _,by simp [aw],Nat.le_refl _,by simp [aw,hcs],by simp⟩
def VL (E:Env) (ι:aq) (a:Act) (w:World) (o:Oper) (v:AV) (H':al):Prop:=
 ∃ ι' w' c,Ext ι ι'∧aE ι' H' w'∧ak ι' v c∧((execOp a.eval o).run E.P w=.ok (.value c) w'∨((execOp a.eval o).run E.P w=.ok .skip w'∧c=undef))
theorem VL.same {o:Oper} {v:AV} {c:Value} (r:aE ι H w) (hv:ak ι v c) (h:(execOp a.eval o).run E.P w=.ok (.value c) w):VL E ι a w o v H:=
 ⟨ι,w,c,Ext.refl ι,r,hv,.inl h⟩
theorem aL.cons_inv {α β:Type} {R:α→β→Prop} {x:α} {l:List α} {m:List β} (h:aL R (x :: l) m):∃ y m',m=y :: m'∧R x y∧aL R l m':=by
 cases h with | cons h1 t=>exact ⟨_,_,rfl,h1,t⟩
theorem iv {b:Builtin} {o:Oper} {args:Array Operand} {ts:Array TypeId} (hop:o.op=.call {callee:=.builtin b,args,argTypes:=ts}):
  ∃ cs,(execOp a.eval o).run E.P w=(builtin b ts o.type cs (args.map a.eval)).run E.P w:=by
 refine ⟨args.map fun | .const _=>true | _=>false,?_⟩
 simp only [execOp,hop,resolve,Sem.run_bind,Sem.run_pure,Result.andThen,invoke]
 rfl
end Go.aA
end
section
namespace Go.aA
open Go.RowKit
variable {E:Env} {ι:aq} {T:List AV} {H:al} {a:Act} {w:World}
theorem Jl {P:Program} {t:TypeId} {d:ba} {x i v:AV} {q:List Prop} {cx ci:Value} (hd:d.ok P t) (h:FN d x i=some (q,v)) (hq:holds q) (hx:ak ι x cx) (hi:ak ι i ci):
  ∃ c,(Instr.index t cx ci).run P w=.ok c w∧ak ι v c:=by
 unfold FN at h
 split at h
 ·rename_i s k n hdesc
  simp only [Option.some.injEq,Prod.mk.injEq] at h;obtain ⟨rfl,rfl⟩:=h
  obtain ⟨h1,h2,_⟩:=hq
  have hu:=hd.1
  rw [hdesc] at hu
  have hs:cx=.string s:=by
   have:=hx.one rfl rfl;rw [aD] at this;simpa using this
  have hb:s[n.toNat]?=some s[n.toNat]:=by simp [h2]
  refine ⟨.int .u8 s[n.toNat].toNat,?_,?_⟩
  ·simp [Instr.index,hs,hi.int,asIntOf,run_underlying hu,h1,h2]
  ·have:Kr s n.toNat=(s[n.toNat].toNat:Int):=by unfold Kr;rw [hb]
   rw [this];exact dv _ _
 ·cases h
def YY (ι:aq) (o:Option AV) (c:Option Value):Prop:=(o=none∧c=none)∨∃ v u,o=some v∧c=some u∧ak ι v u
theorem Of {x:Option Operand} {o:Option AV} (h:Vr E T x=some o) (r:gi E ι T H a w):YY ι o (x.map a.eval):=by
 unfold Vr at h
 split at h
 ·cases h;exact .inl ⟨rfl,rfl⟩
 ·split at h
  ·rename_i v hv;cases h;exact .inr ⟨v,_,rfl,rfl,bz hv r⟩
  ·cases h
theorem kF {P:Program} (b:Bool) (len cap l m:Nat) (lo hi:Option Value) (hl:(lo=none∧l=0)∨∃ k n,lo=some (.int k n)∧0≤n∧l=n.toNat)
  (hm:(hi=none∧m=len)∨∃ k n,hi=some (.int k n)∧0≤n∧m=n.toNat) (h1:l≤m) (h2:m≤len) (h3:len≤cap):(Instr.sliceBounds b len cap lo hi none).run P w=.ok (l,m,cap) w:=by
 rcases hl with ⟨rfl,rfl⟩ | ⟨k,n,rfl,hn,rfl⟩<;>rcases hm with ⟨rfl,rfl⟩ | ⟨k',n',rfl,hn',rfl⟩
 ·simp [Instr.sliceBounds]
 ·have:n'≤(cap:Int):=by omega
  simp [Instr.sliceBounds,Instr.sliceBound,asIntOf,hn',this]
 ·have:n≤(m:Int):=by omega
  simp [Instr.sliceBounds,Instr.sliceBound,asIntOf,hn,this]
 ·have e1:n'≤(cap:Int):=by omega
  have e2:n≤(n'.toNat:Int):=by omega
  simp [Instr.sliceBounds,Instr.sliceBound,asIntOf,hn,hn',e1]
  intro hc;omega
theorem qa {lo:Option AV} {q:List Prop} {l:Nat} {c:Option Value} (h:loA lo=some (q,l)) (hq:holds q) (hb:YY ι lo c):(c=none∧l=0)∨∃ k n,c=some (.int k n)∧0≤n∧l=n.toNat:=by
 unfold loA at h
 split at h
 ·simp only [Option.some.injEq,Prod.mk.injEq] at h;obtain ⟨rfl,rfl⟩:=h
  rcases hb with ⟨_,rfl⟩ | ⟨v,u,e,_⟩
  ·exact .inl ⟨rfl,rfl⟩
  ·cases e
 ·rename_i k n
  simp only [Option.some.injEq,Prod.mk.injEq] at h;obtain ⟨rfl,rfl⟩:=h
  rcases hb with ⟨e,_⟩ | ⟨v,u,e,rfl,hr⟩
  ·cases e
  ·cases e
   exact .inr ⟨k,n,by rw [hr.int],hq.1,rfl⟩
 ·cases h
theorem CR {P:Program} {t e:TypeId} {de:ba} {c:TC} {xs:List c.den} {cx:Value} {l m:Nat} {lo hi:Option Value} (hu:P.underlying t=some (.slice e)) (he:de.ok P e) (hs:c.size=de.size) (hx:ak ι (.dA c xs) cx)
  (hl:(lo=none∧l=0)∨∃ k n,lo=some (.int k n)∧0≤n∧l=n.toNat) (hm:(hi=none∧m=xs.length)∨∃ k n,hi=some (.int k n)∧0≤n∧m=n.toNat) (h1:l≤m) (h2:m≤xs.length):
  ∃ u,(Instr.sliceAt t cx lo hi none).run P w=.ok u w∧ak ι (.dA c ((xs.drop l).take (m - l))) u:=by
 have hr:=hx.one rfl rfl
 rw [aD] at hr
 obtain ⟨v,e1,hv⟩:=hr
 simp only [List.cons.injEq,and_true] at e1
 subst e1
 rcases hv with ⟨rfl,rfl | ⟨a0,rfl⟩⟩ | ⟨b,off,k,cells,ty,fz,cs,rfl,hk,hp,hr,hat⟩
 ·simp only [List.length_nil,Nat.le_zero] at h2
  subst h2
  have:l=0:=by omega
  subst this
  have hm':(hi=none∧0=0)∨∃ k n,hi=some (.int k n)∧0≤n∧0=n.toNat:=by simpa using hm
  have hb:=kF (P:=P) (w:=w) true 0 0 0 0 lo hi hl hm' (Nat.le_refl _) (Nat.le_refl _) (Nat.le_refl _)
  refine ⟨.slice none 0 0,?_,an rfl (by rw [aD];exact ⟨_,rfl,.inl ⟨by simp,.inl rfl⟩⟩)⟩
  simp only [Instr.sliceAt,Sem.run_bind,run_underlying hu,Result.andThen,Instr.slice,hb,bH he,Sem.run_pure]
  simp
 ·simp only [List.length_nil,Nat.le_zero] at h2
  subst h2
  have:l=0:=by omega
  subst this
  have hm':(hi=none∧0=0)∨∃ k n,hi=some (.int k n)∧0≤n∧0=n.toNat:=by simpa using hm
  have hb:=kF (P:=P) (w:=w) true 0 0 0 0 lo hi hl hm' (Nat.le_refl _) (Nat.le_refl _) (Nat.le_refl _)
  refine ⟨.slice (some a0) 0 0,?_,an rfl (by rw [aD];exact ⟨_,rfl,.inl ⟨by simp,.inr ⟨a0,rfl⟩⟩⟩)⟩
  simp only [Instr.sliceAt,Sem.run_bind,run_underlying hu,Result.andThen,Instr.slice,hb,bH he,Sem.run_pure]
  simp
 ·have hb:=kF (P:=P) (w:=w) true xs.length k l m lo hi hl hm h1 h2 hk
  refine ⟨.slice (if k=l then some ⟨b,off,none⟩ else some ⟨b,off+l * de.size,none⟩) (m - l) (k - l),?_,an rfl ?_⟩
  ·simp only [Instr.sliceAt,Sem.run_bind,run_underlying hu,Result.andThen,Instr.slice,hb,bH he,Sem.run_pure,Option.map_some,dG]
  ·obtain ⟨m1,m2,em,em1,hr1,hr2⟩:=hr.split (aO c) l (by omega)
   obtain ⟨k1,k2,ek,ek1,hs1,hs2⟩:=hr2.split (aO c) (m - l) (by simp;omega)
   have hlen:((xs.drop l).take (m - l)).length=m - l:=by simp;omega
   rw [aD]
   by_cases hkl:k=l
   ·have hml:m - l=0:=by omega
    refine ⟨_,rfl,.inr ⟨b,off,k - l,cells,ty,fz,k1,?_,by rw [hlen];omega,hp,hs1,?_⟩⟩
    ·rw [if_pos hkl,hlen]
    ·have:k1=[]:=by
      have:=hs1.len (aO c)
      rw [hlen,hml] at this
      simpa using this
     rw [this]
     intro j v hj
     simp at hj
   ·refine ⟨_,rfl,.inr ⟨b,off+l * de.size,k - l,cells,ty,fz,k1,?_,by rw [hlen];omega,hp,hs1,?_⟩⟩
    ·rw [if_neg hkl,hlen]
    ·have:l * de.size=m1.length:=by rw [em1,hs]
     rw [this]
     refine At.sub (l2:=k2) ?_
     rw [em,ek] at hat
     rw [List.append_assoc]
     exact hat
theorem Cf {P:Program} (b:Bool) (len cap l m:Nat) (lo hi:Option Value) (hl:(lo=none∧l=0)∨∃ k n,lo=some (.int k n)∧0≤n∧l=n.toNat)
  (hm:(hi=none∧m=len)∨∃ k n,hi=some (.int k n)∧0≤n∧m=n.toNat) (h1:l≤m) (h2:m≤cap):(Instr.sliceBounds b len cap lo hi none).run P w=.ok (l,m,cap) w:=by
 rcases hl with ⟨rfl,rfl⟩ | ⟨k,n,rfl,hn,rfl⟩<;>rcases hm with ⟨rfl,rfl⟩ | ⟨k',n',rfl,hn',rfl⟩
 ·simp [Instr.sliceBounds]
 ·have:n'≤(cap:Int):=by omega
  simp [Instr.sliceBounds,Instr.sliceBound,asIntOf,hn',this]
 ·have:n≤(m:Int):=by omega
  simp [Instr.sliceBounds,Instr.sliceBound,asIntOf,hn,this]
 ·have e1:n'≤(cap:Int):=by omega
  have e2:n≤(n'.toNat:Int):=by omega
  simp [Instr.sliceBounds,Instr.sliceBound,asIntOf,hn,hn',e1]
  intro hc;omega
theorem CP {P:Program} {t e:TypeId} {de:ba} {o off len:Nat} {p:List Step} {cap:Option Nat} {cx:Value} {l m:Nat} {lo hi:Option Value} (hu:P.underlying t=some (.slice e)) (he:de.ok P e) (hx:ak ι (.aS o p de.size off len cap) cx)
  (hl:(lo=none∧l=0)∨∃ k n,lo=some (.int k n)∧0≤n∧l=n.toNat) (hm:(hi=none∧m=len)∨∃ k n,hi=some (.int k n)∧0≤n∧m=n.toNat) (h1:l≤m) (h2:m≤BA len cap) (h3:l=0∨l < BA len cap):
  ∃ u,(Instr.sliceAt t cx lo hi none).run P w=.ok u w∧ak ι (.aS o p de.size (off+l) (m - l) (cap.map fun k=>k - l)) u:=by
 obtain ⟨b,z,k,hb,rfl,hk,hkz,hcap⟩:=gW hx
 have hck:BA len cap≤k:=by
  unfold BA
  cases cap with
  | none=>exact hk
  | some k'=>exact Nat.le_of_eq (hcap k' rfl).symm
 have hbd:=Cf (P:=P) (w:=w) true len k l m lo hi hl hm h1 (by omega)
 refine ⟨.slice (some ⟨b,aw p+(off+l) * de.size,none⟩) (m - l) (k - l),?_,an rfl ?_⟩
 ·simp only [Instr.sliceAt,Sem.run_bind,run_underlying hu,Result.andThen,Instr.slice,hbd,bH he,Sem.run_pure,Option.map_some,dG]
  rcases h3 with rfl | h3
  ·have:aw p+off * de.size=aw p+(off+0) * de.size:=by simp
   by_cases hk0:k=0
   ·rw [if_pos hk0,this]
   ·rw [if_neg hk0];simp
  ·rw [if_neg (by omega),Nat.add_mul];simp [Nat.add_assoc]
 ·rw [aD]
  refine ⟨b,z,k - l,hb,rfl,by omega,?_,?_⟩
  ·have:off+l+(k - l)=off+k:=by omega
   rw [this];exact hkz
  ·intro k' hk'
   cases cap with
   | none=>cases hk'
   | some k0=>simp only [Option.map_some,Option.some.injEq] at hk';rw [hcap k0 rfl];exact hk'
theorem CQ {P:Program} {t e:TypeId} {de:ba} {lo hi:Option Value} (hu:P.underlying t=some (.slice e)) (he:de.ok P e)
  (hl:(lo=none∧0=0)∨∃ k n,lo=some (.int k n)∧0≤n∧0=n.toNat) (hm:(hi=none∧0=0)∨∃ k n,hi=some (.int k n)∧0≤n∧0=n.toNat):
  (Instr.sliceAt t (.slice none 0 0) lo hi none).run P w=.ok (.slice none 0 0) w:=by
 have hb:=kF (P:=P) (w:=w) true 0 0 0 0 lo hi hl hm (Nat.le_refl _) (Nat.le_refl _) (Nat.le_refl _)
 simp only [Instr.sliceAt,Sem.run_bind,run_underlying hu,Result.andThen,Instr.slice,hb,bH he,Sem.run_pure]
 simp
theorem IK (hV:E.Valid) {t:TypeId} {d:ba} {s:Nat} {x v:AV} {lo hi:Option AV} {q:List Prop} {cx:Value} {cl ch:Option Value} (hd:E.ty t=some d) (hs:oN E d=some s) (h:E3 d s x lo hi=some (q,v)) (hq:holds q)
  (hx:ak ι x cx) (hl:YY ι lo cl) (hh:YY ι hi ch):∃ u,(Instr.sliceAt t cx cl ch none).run E.P w=.ok u w∧ak ι v u:=by
 have hu:=(hV.ty _ _ hd).1
 unfold E3 at h
 split at h
 ·rename_i q1 l hlo
  split at h
  ·rename_i e c xs hdesc
   split at h
   ·rename_i hsz
    rw [hdesc] at hu
    unfold oN at hs
    rw [hdesc] at hs
    simp only at hs
    split at hs
    ·rename_i de hde
     simp only [Option.some.injEq] at hs
     subst hs
     have he:=hV.ty _ _ hde
     split at h
     ·simp only [Option.some.injEq,Prod.mk.injEq] at h;obtain ⟨rfl,rfl⟩:=h
      rw [bu] at hq
      rcases hh with ⟨_,rfl⟩ | ⟨v,u,e,_⟩
      ·have:=CR (w:=w) hu he hsz hx (qa hlo hq.1 hl) (.inl ⟨rfl,rfl⟩) hq.2.1 (Nat.le_refl _)
       have e:(xs.drop l).take (xs.length - l)=xs.drop l:=List.take_of_length_le (by simp)
       rw [e] at this
       exact this
      ·cases e
     ·rename_i k m
      simp only [Option.some.injEq,Prod.mk.injEq] at h;obtain ⟨rfl,rfl⟩:=h
      rw [bu] at hq
      obtain ⟨hq1,hq2,hq3,hq4,_⟩:=hq
      rcases hh with ⟨e,_⟩ | ⟨v,u,e,rfl,hr⟩
      ·cases e
      ·cases e
       exact CR (w:=w) hu he hsz hx (qa hlo hq1 hl) (.inr ⟨k,m,by rw [hr.int],hq2,rfl⟩) hq3 hq4
     ·cases h
    ·cases hs
   ·cases h
  ·rename_i e o p s' off len cap hdesc
   split at h
   ·rename_i hsz;subst hsz
    rw [hdesc] at hu
    unfold oN at hs
    rw [hdesc] at hs
    simp only at hs
    split at hs
    ·rename_i de hde
     simp only [Option.some.injEq] at hs
     subst hs
     have he:=hV.ty _ _ hde
     split at h
     ·simp only [Option.some.injEq,Prod.mk.injEq] at h;obtain ⟨rfl,rfl⟩:=h
      rw [bu] at hq
      rcases hh with ⟨_,rfl⟩ | ⟨v,u,e,_⟩
      ·obtain ⟨b,z,k,_,_,hk,_,hcap⟩:=gW hx
       have:len≤BA len cap:=by
        unfold BA
        cases cap with
        | none=>exact Nat.le_refl _
        | some k'=>have:=hcap k' rfl;simp only;omega
       exact CP (w:=w) hu he hx (qa hlo hq.1 hl) (.inl ⟨rfl,rfl⟩) hq.2.1 this hq.2.2.1
      ·cases e
     ·rename_i k m
      simp only [Option.some.injEq,Prod.mk.injEq] at h;obtain ⟨rfl,rfl⟩:=h
      rw [bu] at hq
      obtain ⟨hq1,hq2,hq3,hq4,hq5,_⟩:=hq
      rcases hh with ⟨e,_⟩ | ⟨v,u,e,rfl,hr⟩
      ·cases e
      ·cases e
       exact CP (w:=w) hu he hx (qa hlo hq1 hl) (.inr ⟨k,m,by rw [hr.int],hq2,rfl⟩) hq3 hq4 hq5
     ·cases h
    ·cases hs
   ·cases h
  ·rename_i e hdesc
   rw [hdesc] at hu
   unfold oN at hs
   rw [hdesc] at hs
   simp only at hs
   split at hs
   ·rename_i de hde
    have he:=hV.ty _ _ hde
    have hcx:=hx.raw;subst hcx
    split at h
    ·simp only [Option.some.injEq,Prod.mk.injEq] at h;obtain ⟨rfl,rfl⟩:=h
     rw [bu] at hq
     obtain ⟨hq1,hq2,_⟩:=hq
     have h0:l=0:=hq2
     subst h0
     rcases hh with ⟨_,rfl⟩ | ⟨v,u,e,_⟩
     ·exact ⟨_,CQ hu he (by simpa using qa hlo hq1 hl) (.inl ⟨rfl,rfl⟩),hx⟩
     ·cases e
    ·rename_i k m
     simp only [Option.some.injEq,Prod.mk.injEq] at h;obtain ⟨rfl,rfl⟩:=h
     rw [bu] at hq
     obtain ⟨hq1,hq2,hq3,_⟩:=hq
     have h0:l=0:=hq3
     have h1:m=0:=hq2
     subst h0
     subst h1
     rcases hh with ⟨e,_⟩ | ⟨v,u,e,rfl,hr⟩
     ·cases e
     ·cases e
      exact ⟨_,CQ hu he (by simpa using qa hlo hq1 hl) (.inr ⟨k,0,by rw [hr.int],by decide,rfl⟩),hx⟩
    ·cases h
   ·cases hs
  ·rename_i n e m c xs hdesc
   rw [hdesc] at hu
   unfold oN at hs
   rw [hdesc] at hs
   simp only at hs
   split at hs
   ·rename_i de hde
    simp only [Option.some.injEq] at hs
    subst hs
    have he:=hV.ty _ _ hde
    split at h
    ·split at h
     ·rename_i hc
      obtain ⟨rfl,hcs⟩:=hc
      simp only [Option.some.injEq,Prod.mk.injEq] at h;obtain ⟨rfl,rfl⟩:=h
      have hp:=hx.one rfl rfl
      rw [aD] at hp
      obtain ⟨b,off,cells,t',fz,l',hpe,hprot,hr,hat⟩:=hp
      simp only [List.cons.injEq,and_true] at hpe
      subst hpe
      rw [aD] at hr
      obtain ⟨hn,hrep⟩:=hr
      rcases hl with ⟨_,rfl⟩ | ⟨v,u,e,_⟩
      ·rcases hh with ⟨_,rfl⟩ | ⟨v,u,e,_⟩
       ·refine ⟨.slice (some ⟨b,off,none⟩) m m,?_,an rfl ?_⟩
        ·simp only [Instr.sliceAt,Sem.run_bind,run_underlying hu,bH he,Result.andThen,Instr.sureAddr,Sem.run_pure,Instr.sliceBounds,Option.map_none]
         simp
         intro _
         rfl
        ·rw [aD]
         exact ⟨_,rfl,.inr ⟨b,off,m,cells,t',fz,l',by rw [hn],by omega,hprot,hrep,hat⟩⟩
       ·cases e
      ·cases e
     ·cases h
    ·cases h
   ·cases hs
  ·rename_i b hdesc
   rw [hdesc] at hu
   have hcx:cx=.string b:=by
    have:=hx.one rfl rfl;rw [aD] at this;simpa using this
   have fin:∀ m,((ch=none∧m=b.size)∨∃ k n,ch=some (.int k n)∧0≤n∧m=n.toNat)→holds q1→l≤m→m≤b.size→∃ u,(Instr.sliceAt t cx cl ch none).run E.P w=.ok u w∧ak ι (.str (b.extract l m)) u:=by
    intro m hm hq1 h1 h2
    have hb:=kF (P:=E.P) (w:=w) false b.size b.size l m cl ch (qa hlo hq1 hl) hm h1 h2 (Nat.le_refl _)
    refine ⟨.string (b.extract l m),?_,an rfl (by rw [aD])⟩
    subst hcx
    simp only [Instr.sliceAt,Sem.run_bind,run_underlying hu,Result.andThen,Instr.slice,hb,Sem.run_pure,Option.isSome_none,Bool.false_eq_true,if_false]
   split at h
   ·simp only [Option.some.injEq,Prod.mk.injEq] at h;obtain ⟨rfl,rfl⟩:=h
    rw [bu] at hq
    rcases hh with ⟨_,rfl⟩ | ⟨v,u,e,_⟩
    ·exact fin _ (.inl ⟨rfl,rfl⟩) hq.1 hq.2.1 (Nat.le_refl _)
    ·cases e
   ·rename_i k m
    simp only [Option.some.injEq,Prod.mk.injEq] at h;obtain ⟨rfl,rfl⟩:=h
    rw [bu] at hq
    obtain ⟨hq1,hq2,hq3,hq4,_⟩:=hq
    rcases hh with ⟨e,_⟩ | ⟨v,u,e,rfl,hr⟩
    ·cases e
    ·cases e
     exact fin _ (.inr ⟨k,m,by rw [hr.int],hq2,rfl⟩) hq1 hq3 hq4
   ·cases h
  ·cases h
 ·cases h
end Go.aA
end
section
namespace Go.aA
open Go.RowKit
variable {E:Env} {ι:aq} {T:List AV} {H:al} {a:Act} {w:World}
theorem D6 {P:Program} {t:TypeId} {fs:Array Field} (h:P.underlying t=some (.struct fs)):P.fieldsOf t=fs:=by
 simp [Program.fieldsOf,h]
theorem Ib (hV:E.Valid) {eq:TypeId→AV→AV→Option Bool} {n:Nat} {d:ba} {x y:AV} {xs ys:Array Value} {all:Array Field} (hd:d.desc=.struct all)
  (heq:∀ t u v b cu cv,eq t u v=some b→ak ι u cu→ak ι v cv→(Op.equalIn n t cu cv).run E.P w=.ok b w) (hx:ak ι x (.agg xs)) (hy:ak ι y (.agg ys)):
  ∀ (fs:List Field) (i:Nat) (b:Bool),(∀ j f,fs[j]?=some f→all[i+j]?=some f)→(fs.all fun f=>f.name != "_")=true→Rq eq E d x y i fs=some b→(Op.eqFields n xs ys fs).run E.P w=.ok b w
 | [],_,_,_,_,h=>by cases h;rfl
 | f :: fs,i,b,hat,hnm,h=>by
  simp only [List.all_cons,Bool.and_eq_true] at hnm
  simp only [Rq] at h
  split at h
  ·rename_i u v hu hv
   split at h
   ·rename_i b1 r hb hr
    cases h
    have h0:=hat 0 f rfl
    have part:∀ {z u:AV} {zs:Array Value},qe E d z i=some ([],u)→ak ι z (.agg zs)→∃ c,(part f.type zs f.offset).run E.P w=.ok c w∧ak ι u c:=by
     intro z u zs hz hr
     unfold qe at hz
     split at hz
     ·rename_i off e hf
      obtain ⟨fs',fd,hdesc,hfd,rfl,he,hes⟩:=lI hV hf
      rw [hd] at hdesc;cases hdesc
      rw [Nat.add_zero] at h0
      rw [h0] at hfd;cases hfd
      split at hz
      ·rename_i q' u' hg
       split at hz
       ·rename_i hc
        simp only [Option.some.injEq,Prod.mk.injEq] at hz
        obtain ⟨rfl,rfl⟩:=hz
        obtain ⟨cs,e1,c,hrun,hr⟩:=AT (w:=w) he hg trivial hc.1 hc.2 hr
        cases e1
        exact ⟨c,hrun,hr⟩
       ·cases hz
      ·cases hz
     ·cases hz
    obtain ⟨cu,hru,ru⟩:=part hu hx
    obtain ⟨cv,hrv,rv⟩:=part hv hy
    have hb:=heq _ _ _ _ _ _ hb ru rv
    have ih:=Ib hV hd heq hx hy fs (i+1) r (fun j g e=>by have:=hat (j+1) g (by simpa using e);rwa [show i+(j+1)=i+1+j by omega] at this) hnm.2 hr
    have hne:f.name ≠ "_" := by simpa using hnm.1
    simp only [Op.eqFields,Sem.run_ite,Sem.run_bind]
    rw [if_pos hne,hru]
    simp only [Result.andThen_ok,hrv,hb]
    cases b1
    ·rfl
    ·simp only [Bool.true_and]
     exact ih
   ·cases h
  ·cases h
theorem nB:∀ (xs ys:List Bool),xs.length=ys.length→((List.range xs.length).all fun i=>xs.getD i false==ys.getD i false)=(xs==ys)
 | [],[],_=>rfl
 | x :: xs,y :: ys,h=>by
  have ih:=nB xs ys (by simpa using h)
  rw [List.length_cons,List.range_succ_eq_map,List.all_cons,List.all_map]
  simp only [List.getD_cons_zero,Function.comp_def,List.getD_cons_succ,ih,List.cons_beq_cons]
 | [],_ :: _,h=>by simp at h
 | _ :: _,[],h=>by simp at h
theorem qH {P:Program} (w:World) (d:Nat) (t e:TypeId) (n:Nat) (ht:P.underlying t=some (.array n e)) (he:P.underlying e=some .bool) (hsz:∀ w,(sizeOf e).run P w=.ok 1 w)
  (xs ys:List Bool) (hx:xs.length=n) (hy:ys.length=n):
  (Op.equalIn (d+2) t (.agg (xs.map Value.bool).toArray) (.agg (ys.map Value.bool).toArray)).run P w=.ok (xs==ys) w:=by
 rw [← nB xs ys (hx.trans hy.symm),hx,List.range_eq_range',Op.equalIn]
 simp only [Sem.run_bind,run_underlying ht,Result.andThen_ok,hsz,Std.Legacy.Range.forIn_eq_forIn_range',Std.Legacy.Range.size,Nat.sub_zero,Nat.add_sub_cancel,Nat.div_one]
 have hl:∀ i∈List.range' 0 n 1,i < n:=fun i hi=>by simpa using (List.mem_range'_1.1 hi).2
 generalize List.range' 0 n 1=l at hl ⊢
 induction l with
 | nil=>simp
 | cons i l ih=>
  have hi:i < n:=hl i (by simp)
  have px:(part e (xs.map Value.bool).toArray (i * 1)).run P w=.ok (.bool (xs.getD i false)) w:=by
   simp [part,isAgg,run_underlying he,List.getD,List.getElem?_eq_getElem (show i < xs.length by omega)]
  have py:(part e (ys.map Value.bool).toArray (i * 1)).run P w=.ok (.bool (ys.getD i false)) w:=by
   simp [part,isAgg,run_underlying he,List.getD,List.getElem?_eq_getElem (show i < ys.length by omega)]
  have pe:(Op.equalIn (d+1) e (.bool (xs.getD i false)) (.bool (ys.getD i false))).run P w=.ok (xs.getD i false==ys.getD i false) w:=run_equalIn_bool' w d e _ _ he
  simp only [List.forIn_cons,Sem.run_bind,px,py,pe,Result.andThen_ok,List.all_cons]
  cases hb:(xs.getD i false==ys.getD i false)
  ·simp
  ·simp only [Bool.not_true,Bool.false_eq_true,if_false,Sem.run_pure,Result.andThen_ok,Bool.true_and]
   exact ih fun j hj=>hl j (by simp [hj])
theorem Er {xs:List Bool} {l:List Value} (h:bV (bD ι .bool) xs l):l=xs.map Value.bool:=by
 induction h with
 | nil=>rfl
 | cons h1 _ ih=>rw [show _=[Value.bool _] from h1,ih];rfl
theorem Og (hV:E.Valid):∀ (n m:Nat) (t:TypeId) (x y:AV) (b:Bool) (cx cy:Value),Py E n t x y=some b→n≤m→ak ι x cx→ak ι y cy→(Op.equalIn m t cx cy).run E.P w=.ok b w
 | 0,_,_,_,_,_,_,_,h,_,_,_=>by cases h
 | n+1,0,_,_,_,_,_,_,_,hm,_,_=>absurd hm (by omega)
 | n+1,m+1,t,x,y,b,cx,cy,h,hm,hx,hy=>by
  simp only [Py] at h
  split at h
  ·rename_i d hd
   have hu:=(hV.ty _ _ hd).1
   split at h
   ·rename_i hdesc
    rw [hdesc] at hu
    split at h
    ·rename_i p q
     cases h
     rw [hx.bool,hy.bool];exact run_equalIn_bool' w m t p q hu
    ·cases h
   ·rename_i k0 hdesc
    rw [hdesc] at hu
    split at h
    ·rename_i k p k' q
     split at h
     ·rename_i e;subst e
      cases h
      rw [hx.int,hy.int];exact run_equalIn_int w m t k k0 p q hu
     ·cases h
    ·cases h
   ·rename_i hdesc
    rw [hdesc] at hu
    split at h
    ·rename_i p q
     cases h
     rw [hx.str,hy.str];simp [Op.equalIn,run_underlying hu]
    ·cases h
   ·rename_i fs hdesc
    rw [hdesc] at hu
    split at h
    ·rename_i hc
     obtain ⟨ha,hb,hs,hnm⟩:=hc
     obtain ⟨xs,_,rfl⟩:=hx.agg ha
     obtain ⟨ys,_,rfl⟩:=hy.agg hb
     have hf:=D6 hu
     rw [run_equalIn_struct w m t _ _ (by rw [hf];exact hu) hs,hf]
     exact Ib hV hdesc (fun t u v b cu cv e r1 r2=>Og hV n m t u v b cu cv e (by omega) r1 r2) hx hy fs.toList 0 b (fun j f e=>by simpa using e) hnm h
    ·cases h
   ·rename_i k el hdesc
    rw [hdesc] at hu
    split at h
    ·rename_i de hde
     split at h
     ·rename_i hdd
      split at h
      ·rename_i hc
       have he:=(hV.ty _ _ hde)
       have he1:=he.1
       rw [hdd] at he1
       unfold Ec at h
       split at h
       ·rename_i n1 xs n2 ys
        split at h
        ·rename_i hn
         obtain ⟨rfl,rfl⟩:=hn
         cases h
         obtain ⟨cx',hx',rfl⟩:=hx.agg rfl
         obtain ⟨cy',hy',rfl⟩:=hy.agg rfl
         rw [aD] at hx' hy'
         have ex:cx'=(xs:List Bool).map Value.bool:=Er hx'.2
         have ey:cy'=(ys:List Bool).map Value.bool:=Er hy'.2
         rw [ex,ey]
         obtain ⟨m',rfl⟩:∃ m',m=m'+1:=⟨m - 1,by omega⟩
         exact qH w m' t el _ hu he1 (fun w=>by rw [bH he];rw [hc.2]) xs ys hx'.1 hy'.1
        ·cases h
       ·cases h
      ·cases h
     ·cases h
    ·cases h
   ·cases h
  ·cases h
theorem JC {n:Nat} {t:TypeId} {x y:AV} {b:Bool} (h:Py E n t x y=some b):
  (dJ x=true∧dJ y=true)∨(∃ p q,x=.bool p∧y=.bool q)∨(∃ k p q,x=.int k p∧y=.int k q)∨(∃ p q,x=.str p∧y=.str q):=by
 cases n with
 | zero=>cases h
 | succ n=>
  simp only [Py] at h
  split at h
  ·split at h
   ·split at h
    ·exact .inr (.inl ⟨_,_,rfl,rfl⟩)
    ·cases h
   ·split at h
    ·split at h
     ·rename_i e;subst e;exact .inr (.inr (.inl ⟨_,_,_,rfl,rfl⟩))
     ·cases h
    ·cases h
   ·split at h
    ·exact .inr (.inr (.inr ⟨_,_,rfl,rfl⟩))
    ·cases h
   ·split at h
    ·rename_i hc;exact .inl ⟨hc.1,hc.2.1⟩
    ·cases h
   ·split at h
    ·split at h
     ·split at h
      ·unfold Ec at h
       split at h
       ·exact .inl ⟨rfl,rfl⟩
       ·cases h
      ·cases h
     ·cases h
    ·cases h
   ·cases h
  ·cases h
theorem Rp {n:Nat} {t:TypeId} {k:IntKind} {p q:Int} {b:Bool} (h:Py E n t (.int k p) (.int k q)=some b):b=(p==q):=by
 cases n with
 | zero=>cases h
 | succ n=>
  simp only [Py] at h
  split at h
  ·split at h
   ·cases h
   ·simp only [if_true,Option.some.injEq] at h;exact h.symm
   ·cases h
   ·split at h
    ·rename_i hc;cases hc.1
    ·cases h
   ·split at h
    ·split at h
     ·split at h
      ·simp [Ec] at h
      ·cases h
     ·cases h
    ·cases h
   ·cases h
  ·cases h
theorem Ro {n:Nat} {t:TypeId} {p q:ByteArray} {b:Bool} (h:Py E n t (.str p) (.str q)=some b):b=(p==q):=by
 cases n with
 | zero=>cases h
 | succ n=>
  simp only [Py] at h
  split at h
  ·split at h
   ·cases h
   ·cases h
   ·simp only [Option.some.injEq] at h;exact h.symm
   ·split at h
    ·rename_i hc;cases hc.1
    ·cases h
   ·split at h
    ·split at h
     ·split at h
      ·simp [Ec] at h
      ·cases h
     ·cases h
    ·cases h
   ·cases h
  ·cases h
theorem Ia {P:Program} {t:TypeId} {cx cy:Value} {b:Bool} (h:(Op.equal t cx cy).run P w=.ok b w) (hs:(∃ xs ys,cx=.agg xs∧cy=.agg ys)∨(∃ p q,cx=.bool p∧cy=.bool q)):
  (binOp .eql t cx cy).run P w=.ok (.bool b) w∧(binOp .neq t cx cy).run P w=.ok (.bool (!b)) w:=by
 rcases hs with ⟨xs,ys,rfl,rfl⟩ | ⟨p,q,rfl,rfl⟩<;>
  exact ⟨by simp only [binOp,Sem.run_bind,h,Result.andThen,Sem.run_pure],by simp only [binOp,Sem.run_bind,h,Result.andThen,Sem.run_pure]⟩
theorem RK (hV:E.Valid) {op:BinOp} {t:TypeId} {x y v:AV} {cx cy:Value} (h:VC E op t x y=some v) (hx:ak ι x cx) (hy:ak ι y cy) (xo yo:Operand):
  ∃ c,(do eqGuard op t xo yo cx cy;binOp op t cx cy:Sem Value).run E.P w=.ok c w∧ak ι v c:=by
 unfold VC at h
 split at h
 ·rename_i b hb
  split at h
  ·rename_i hg
   have heq:(Op.equal t cx cy).run E.P w=.ok b w:=Og hV (w:=w) 100 10000 t x y b cx cy hb (by decide) hx hy
   have key:(eqGuard op t xo yo cx cy).run E.P w=.ok () w∧(binOp .eql t cx cy).run E.P w=.ok (.bool b) w∧(binOp .neq t cx cy).run E.P w=.ok (.bool (!b)) w:=by
    rcases JC hb with ⟨hag,hay⟩ | ⟨p,q,rfl,rfl⟩ | ⟨k,p,q,rfl,rfl⟩ | ⟨p,q,rfl,rfl⟩
    ·rw [hag] at hg
     obtain ⟨xs,_,rfl⟩:=hx.agg hag
     obtain ⟨ys,_,rfl⟩:=hy.agg hay
     exact ⟨run_eqGuard_agg w op t xo yo _ _ (by simpa using hg),Ia heq (.inl ⟨_,_,rfl,rfl⟩)⟩
    ·rw [hx.bool,hy.bool] at heq ⊢
     exact ⟨by rw [eqGuard_at_bool];rfl,Ia heq (.inr ⟨_,_,rfl,rfl⟩)⟩
    ·rw [hx.int,hy.int] at heq ⊢
     have hbb:b=(p==q):=Rp hb
     subst hbb
     refine ⟨by rw [eqGuard_at_int];rfl,?_,?_⟩
     ·rw [binOp_eql];rfl
     ·rw [binOp_neq];rfl
    ·rw [hx.str,hy.str] at heq ⊢
     have hbb:b=(p==q):=Ro hb
     subst hbb
     exact ⟨by rw [eqGuard_at_string];rfl,by simp [binOp,Op.stringOp,beq_toListBytes],by simp [binOp,Op.stringOp,beq_toListBytes]⟩
   obtain ⟨k1,k2,k3⟩:=key
   split at h
   ·cases h
    exact ⟨.bool b,by simp only [Sem.run_bind,k1,Result.andThen,k2],dN _⟩
   ·cases h
    exact ⟨.bool (!b),by simp only [Sem.run_bind,k1,Result.andThen,k3],dN _⟩
   ·cases h
  ·cases h
 ·cases h
theorem mI {v:AV} {c:Value} (h:bW ι v c):ak ι v c:=by
 cases v
 case nk vs=>unfold bW at h;simp only [dJ,Bool.false_eq_true,if_false] at h;rw [aD] at h;exact h.elim
 case any=>trivial
 case oW=>trivial
 all_goals exact h
theorem BL {o:Nat} {c:Value} (h:ak ι (.mp o) c):∃ b z,ι.bB[o]?=some (b,z)∧c=.map (some b):=by
 have:=h.one rfl rfl;rw [aD] at this
 obtain ⟨b,z,e,k⟩:=this
 exact ⟨b,z,e,by simpa using k⟩
theorem tm {k0 kk:IntKind} {n:Int}:∀ {es:List (AV×AV)} {ents:List MapEntry} (i:Nat),aL (fun (e:AV×AV) (c:MapEntry)=>bW ι e.1 c.key∧bW ι e.2 c.val) es ents→wC kk n es=true→
  Instr.findNow (.int k0) (.int kk n) ents i=some none
 | [],_,_,h,_=>by cases h;rfl
 | e :: es,_,i,h,hn=>by
  obtain ⟨c,m,rfl,h1,h2⟩:=h.cons_inv
  simp only [wC,List.all_cons,Bool.and_eq_true] at hn
  obtain ⟨hn1,hn2⟩:=hn
  split at hn1
  ·rename_i k' n' he
   simp only [Bool.and_eq_true,decide_eq_true_eq,Bool.not_eq_true'] at hn1
   obtain ⟨rfl,hne⟩:=hn1
   rw [he] at h1
   have hkey:c.key=.int kk n':=ak.int (ι:=ι) ((fO rfl).2 h1.1)
   unfold Instr.findNow
   rw [hkey]
   have:Instr.sameNow (.int k0) (.int kk n) (.int kk n')=some false:=by
    simp only [Instr.sameNow,if_true]
    exact congrArg some hne
   rw [this]
   exact tm (i+1) h2 hn2
  ·cases hn1
theorem fH {P:Program} {kt:TypeId} {k0 kk:IntKind} {n:Int} (hk:P.underlying kt=some (.int k0)) (b:Bool):(Instr.checkKey b 10000 kt (.int kk n)).run P w=.ok () w:=by
 have:∀ d,(Instr.checkKey b (d+1) kt (.int kk n)).run P w=.ok () w:=fun d=>by
  simp only [Instr.checkKey,Sem.run_bind,run_underlying hk,Result.andThen];rfl
 exact this 9999
theorem yu {P:Program} {t kt et:TypeId} {k0 kk:IntKind} {n:Int} {o:Nat} {es:List (AV×AV)} {v:AV} {cm cv:Value} (ht:P.underlying t=some (.map kt et)) (hk:P.underlying kt=some (.int k0))
  (r:aE ι H w) (ho:H[o]?=some (.map es)) (hm:ak ι (.mp o) cm) (hv:ak ι v cv) (hnt:qQ v=true) (hn:wC kk n es=true):
  ∃ w',(Instr.mapUpdate t cm (.int kk n) cv).run P w=.ok () w'∧aE ι (H.set o (.map (es++[(.int kk n,v)]))) w':=by
 obtain ⟨b,z,hb,rfl⟩:=BL hm
 obtain ⟨ents,clock,hh,hes⟩:=r.obj _ _ _ _ ho hb
 have hlt:b < w.heap.size:=(r.own _ _ _ _ ho rfl hb).2.1
 have hget:(getObj b).run P w=.ok (.map ents clock) w:=by
  simp [getObj,Sem.run,hh]
 refine ⟨w.putObj b (.map (ents.push {key:=.int kk n,val:=cv,born:=clock}) (clock+1)),?_,?_⟩
 ·have hfk:(Instr.findKey kt (.int kk n) ents.toList).run P w=.ok none w:=by
   simp only [Instr.findKey,Sem.run_bind,run_underlying hk,Result.andThen,tm (k0:=k0) 0 hes hn]
   rfl
  simp only [Instr.mapUpdate,Sem.run_bind,run_underlying ht,Result.andThen,hget,fH hk,hfk]
  simp [setObj,Sem.run,hh,World.putObj]
 ·refine r.EM ho rfl hb (fun k hk'=>?_) (by simp [World.putObj]) rfl rfl rfl ⟨ents.push {key:=.int kk n,val:=cv,born:=clock},clock+1,?_,?_⟩
  ·simp only [World.putObj]
   rw [Array.getElem?_setIfInBounds_ne (by omega)]
  ·simp only [World.putObj]
   rw [Array.getElem?_setIfInBounds_self_of_lt hlt]
  ·rw [Array.toList_push]
   exact hes.app (.cons ⟨ku rfl (by rw [aD]),(fO hnt).1 hv⟩ .nil)
theorem yp {k0 kk:IntKind} {n:Int} {z:AV} {go:AV→Bool→Prop}:∀ {es:List (AV×AV)} {ents:List MapEntry} (i:Nat),aL (fun (e:AV×AV) (c:MapEntry)=>bW ι e.1 c.key∧bW ι e.2 c.val) es ents→lz n kk z go es→
  (∃ v c j,go v true∧bW ι v c∧Instr.findNow (.int k0) (.int kk n) ents i=some (some (j,c)))∨(go z false∧Instr.findNow (.int k0) (.int kk n) ents i=some none)
 | [],_,_,h,hl=>by cases h;exact .inr ⟨hl,rfl⟩
 | e :: es,_,i,h,hl=>by
  obtain ⟨c,m,rfl,h1,h2⟩:=h.cons_inv
  simp only [lz] at hl
  split at hl
  ·rename_i k' n' he
   split at hl
   ·rename_i hkk;subst hkk
    rw [he] at h1
    have hkey:c.key=.int kk n':=ak.int (ι:=ι) ((fO rfl).2 h1.1)
    have hs:Instr.sameNow (.int k0) (.int kk n) (.int kk n')=some (ae n n'):=by
     simp only [Instr.sameNow,if_true];rfl
    cases hq:ae n n' with
    | true=>
     rw [hq] at hl hs
     refine .inl ⟨e.2,c.val,i,hl,h1.2,?_⟩
     unfold Instr.findNow
     rw [hkey,hs]
    | false=>
     rw [hq] at hl hs
     have ih:=yp (k0:=k0) (i+1) h2 hl
     unfold Instr.findNow
     rw [hkey,hs]
     exact ih
   ·exact hl.elim
  ·exact hl.elim
theorem p8 {n:Int} {k:IntKind} {z:AV} {go:AV→Bool→Prop}:∀ {es:List (AV×AV)} {v:AV} {fl:Bool},wD n k z es=some (v,fl)→go v fl→lz n k z go es
 | [],_,_,h,hg=>by cases h;exact hg
 | e :: es,v,fl,h,hg=>by
  simp only [wD] at h
  simp only [lz]
  split at h
  ·rename_i k' n' v' b' he hm
   split at h
   ·rename_i hc
    obtain ⟨rfl,hs⟩:=hc
    cases h
    rw [he]
    simp only [if_true]
    cases hq:ae n n' with
    | true=>
     rw [hq] at hg
     have:pB true e.2 v'=e.2:=by
      unfold Li at hs
      split at hs
      ·rename_i e1
       simp only [decide_eq_true_eq] at hs;subst hs;rw [e1];simp [pB]
      ·rename_i e1
       rw [e1];simp [pB]
      ·cases hs
     rw [this] at hg
     exact hg
    | false=>
     rw [hq] at hg
     have:pB false e.2 v'=v':=by
      unfold Li at hs
      split at hs
      ·rename_i e1
       simp only [decide_eq_true_eq] at hs;subst hs;rw [e1];simp [pB]
      ·rename_i e1
       rw [e1];simp [pB]
      ·cases hs
     rw [this] at hg
     exact p8 hm hg
   ·cases h
  ·cases h
theorem Hv {n:Int} {k:IntKind} {z:AV} {go:AV→Bool→Prop}:∀ {es:List (AV×AV)},lz n k z go es→∃ v fl,s5 n k z es=some (v,fl)∧go v fl
 | [],h=>⟨z,false,rfl,h⟩
 | e :: es,h=>by
  simp only [lz] at h
  split at h
  ·rename_i k' n' he
   split at h
   ·rename_i hk
    cases hb:ae n n' with
    | true=>rw [hb] at h;exact ⟨e.2,true,by simp only [s5,he,if_pos hk,hb,cond_true],h⟩
    | false=>
     rw [hb] at h
     obtain ⟨v,fl,h1,h2⟩:=Hv (es:=es) h
     exact ⟨v,fl,by simp only [s5,he,if_pos hk,hb,cond_false,h1],h2⟩
   ·cases h
  ·cases h
theorem Hw {n:Int} {k:IntKind} {z:AV} {v:AV} {fl:Bool}:∀ {es:List (AV×AV)},s5 n k z es=some (v,fl)→lz n k z (fun v' fl'=>v'=v∧fl'=fl) es
 | [],h=>by
  simp only [s5,Option.some.injEq,Prod.mk.injEq] at h
  exact h
 | e :: es,h=>by
  simp only [s5] at h
  simp only [lz]
  split at h
  ·rename_i k' n' he
   split at h
   ·rename_i hk
    rw [if_pos hk]
    cases hb:ae n n' with
    | true=>
     rw [hb] at h
     simp only [cond_true,Option.some.injEq,Prod.mk.injEq] at h ⊢
     exact h
    | false=>
     rw [hb] at h
     simp only [cond_false] at h ⊢
     exact Hw (es:=es) h
   ·cases h
  ·cases h
theorem yn {P:Program} {t kt et:TypeId} {k0 kk:IntKind} {n:Int} {o:Nat} {de:ba} {es:List (AV×AV)} {cm:Value} {go:AV→Bool→Prop} {ok:Bool} (ht:P.underlying t=some (.map kt et)) (hk:P.underlying kt=some (.int k0)) (he:de.ok P et)
  (r:aE ι H w) (ho:H[o]?=some (.map es)) (hm:ak ι (.mp o) cm) (hl:lz n kk de.zero go es):
  ∃ v fl c,go v fl∧ak ι (ly ok v fl) c∧(Instr.lookup t cm (.int kk n) ok).run P w=.ok c w:=by
 obtain ⟨b,z,hb,rfl⟩:=BL hm
 obtain ⟨ents,clock,hh,hes⟩:=r.obj _ _ _ _ ho hb
 have hget:(getObj b).run P w=.ok (.map ents clock) w:=by
  simp [getObj,Sem.run,hh]
 have mk:∀ {v:AV} {c:Value} (fl:Bool),bW ι v c→ak ι (ly ok v fl) (if ok then .tuple #[c,.bool fl] else c):=by
  intro v c fl hr
  cases ok with
  | true=>exact ⟨[c,.bool fl],rfl,.cons hr (.cons (ku rfl (by rw [aD])) .nil)⟩
  | false=>exact mI hr
 rcases yp (k0:=k0) 0 hes hl with ⟨v,c,j,hg,hr,hf⟩ | ⟨hg,hf⟩
 ·refine ⟨v,true,_,hg,mk true hr,?_⟩
  simp only [Instr.lookup,Sem.run_bind,run_underlying ht,Result.andThen,hget,Sem.run_pure,fH hk,Instr.findKey,run_underlying hk,hf]
 ·obtain ⟨zc,hz,hzr⟩:=kx he w
  refine ⟨de.zero,false,_,hg,mk false (hzr ι),?_⟩
  simp only [Instr.lookup,Sem.run_bind,run_underlying ht,Result.andThen,hget,Sem.run_pure,fH hk,Instr.findKey,run_underlying hk,hf,hz]
def R0 (e:Int×Int) (c:MapEntry):Prop:=c.key=.int .i64 e.1∧c.val=.int .i64 e.2
theorem FX {k0:IntKind} {n:Int}:∀ {xs:List (Int×Int)} {ents:List MapEntry} (i:Nat),aL R0 xs ents→
  (FO n xs=true∧∃ j,Instr.findNow (.int k0) (.int .i64 n) ents i=some (some (i+j,.int .i64 (gM n xs)))∧(∃ e0,ents[j]?=some e0∧e0.key=.int .i64 n)∧
   ∀ m,aL R0 (pg n m xs) (ents.modify j fun e=>{e with key:=.int .i64 n,val:=.int .i64 m}))∨
  (FO n xs=false∧gM n xs=0∧Instr.findNow (.int k0) (.int .i64 n) ents i=some none∧∀ m clock,aL R0 (pg n m xs) (ents++[{key:=.int .i64 n,val:=.int .i64 m,born:=clock}]))
 | [],_,_,h=>by cases h;exact .inr ⟨rfl,rfl,rfl,fun m clock=>.cons ⟨rfl,rfl⟩ .nil⟩
 | e :: xs,_,i,h=>by
  obtain ⟨c,m,rfl,h1,h2⟩:=h.cons_inv
  have hs:Instr.sameNow (.int k0) (.int .i64 n) c.key=some (ae n e.1):=by
   rw [h1.1]
   simp only [Instr.sameNow,if_true];rfl
  cases hq:ae n e.1 with
  | true=>
   rw [hq] at hs
   refine .inl ⟨by simp only [FO,hq,cond_true],0,?_,⟨c,rfl,?_⟩,fun m'=>?_⟩
   ·unfold Instr.findNow
    rw [hs]
    simp only [gM,hq,cond_true,h1.2,Nat.add_zero]
   ·have:n=e.1:=by simpa [ae] using hq
    rw [h1.1,this]
   ·simp only [pg,hq,cond_true,List.modify_zero_cons]
    exact .cons ⟨rfl,rfl⟩ h2
  | false=>
   rw [hq] at hs
   rcases FX (k0:=k0) (n:=n) (i+1) h2 with ⟨g1,j,g2,⟨e0,g3,g4⟩,g5⟩ | ⟨g1,g0,g2,g3⟩
   ·refine .inl ⟨by simp only [FO,hq,cond_false];exact g1,j+1,?_,⟨e0,g3,g4⟩,fun m'=>?_⟩
    ·unfold Instr.findNow
     rw [hs]
     simp only [g2,gM,hq,cond_false]
     rw [show i+1+j=i+(j+1) by omega]
    ·simp only [pg,hq,cond_false,List.modify_succ_cons]
     exact .cons h1 (g5 m')
   ·refine .inr ⟨by simp only [FO,hq,cond_false];exact g1,by simp only [gM,hq,cond_false];exact g0,?_,fun m' clock=>?_⟩
    ·unfold Instr.findNow
     rw [hs]
     exact g2
    ·simp only [pg,hq,cond_false,List.cons_append]
     exact .cons h1 (g3 m' clock)
theorem C1 (hV:E.Valid) {t kt et:TypeId} {kk:IntKind} {n:Int} {o:Nat} {xs:List (Int×Int)} {cm:Value} {ok:Bool} {q:List Prop} {v:AV} {H':al} (ht:E.P.underlying t=some (.map kt et))
  (r:aE ι H w) (ho:H[o]?=some (.lX xs)) (hm:ak ι (.mp o) cm) (h:p9 E kt et kk n ok xs H=some (q,v,H')):
  q=[]∧H'=H∧∃ c,ak ι v c∧(Instr.lookup t cm (.int kk n) ok).run E.P w=.ok c w:=by
 unfold p9 at h
 split at h
 ·rename_i dk de hdk hde
  split at h
  ·rename_i k0 k z hkd hz
   split at h
   ·rename_i hc
    obtain ⟨rfl,rfl,rfl⟩:=hc
    simp only [Option.some.injEq,Prod.mk.injEq] at h;obtain ⟨rfl,rfl,rfl⟩:=h
    refine ⟨rfl,rfl,?_⟩
    have hk:=(hV.ty _ _ hdk).1
    rw [hkd] at hk
    obtain ⟨b,z,hb,rfl⟩:=BL hm
    obtain ⟨ents,clock,hh,hes⟩:=r.obj _ _ _ _ ho hb
    have hget:(getObj b).run E.P w=.ok (.map ents clock) w:=by
     simp [getObj,Sem.run,hh]
    have mk:∀ {v:AV} {c:Value} (fl:Bool),bW ι v c→ak ι (ly ok v fl) (if ok then .tuple #[c,.bool fl] else c):=by
     intro v c fl hr
     cases ok with
     | true=>exact ⟨[c,.bool fl],rfl,.cons hr (.cons (ku rfl (by rw [aD])) .nil)⟩
     | false=>exact mI hr
    rcases FX (k0:=k0) (n:=n) 0 hes with ⟨g1,j,g2,_,_⟩ | ⟨g1,g0,g2,_⟩
    ·rw [g1]
     refine ⟨_,mk true (ku (c:=.int .i64 (gM n xs)) rfl (by rw [aD])),?_⟩
     simp only [Instr.lookup,Sem.run_bind,run_underlying ht,Result.andThen,hget,Sem.run_pure,fH hk,Instr.findKey,run_underlying hk,g2]
    ·rw [g1,g0]
     obtain ⟨zc,hzr,hzz⟩:=kx (hV.ty _ _ hde) w
     have hz0:bW ι (.int .i64 0) zc:=by have:=hzz ι;rw [hz] at this;exact this
     refine ⟨_,mk false hz0,?_⟩
     simp only [Instr.lookup,Sem.run_bind,run_underlying ht,Result.andThen,hget,Sem.run_pure,fH hk,Instr.findKey,run_underlying hk,g2,hzr]
   ·cases h
  ·cases h
 ·cases h
theorem Qx (hV:E.Valid) {t kt et:TypeId} {kk:IntKind} {n:Int} {o:Nat} {xs:List (Int×Int)} {u v:AV} {cm cv:Value} {q:List Prop} {H':al} (ht:E.P.underlying t=some (.map kt et))
  (r:aE ι H w) (ho:H[o]?=some (.lX xs)) (hm:ak ι (.mp o) cm) (hv:ak ι u cv) (h:NB E kt kk n u xs o H=some (q,v,H')):
  v=.undef∧∃ w',(Instr.mapUpdate t cm (.int kk n) cv).run E.P w=.ok () w'∧aE ι H' w':=by
 unfold NB at h
 split at h
 ·rename_i dk hdk
  split at h
  ·rename_i k0 k m hkd
   split at h
   ·rename_i hc
    obtain ⟨rfl,rfl⟩:=hc
    simp only [Option.some.injEq,Prod.mk.injEq] at h;obtain ⟨rfl,rfl,rfl⟩:=h
    refine ⟨rfl,?_⟩
    have hk:=(hV.ty _ _ hdk).1
    rw [hkd] at hk
    have hv:=hv.int;subst hv
    obtain ⟨b,z,hb,rfl⟩:=BL hm
    obtain ⟨ents,clock,hh,hes⟩:=r.obj _ _ _ _ ho hb
    have hlt:b < w.heap.size:=(r.own _ _ _ _ ho rfl hb).2.1
    have hget:(getObj b).run E.P w=.ok (.map ents clock) w:=by
     simp [getObj,Sem.run,hh]
    have fin:∀ (ents':Array MapEntry) (clock':Nat),aL R0 (pg n m xs) ents'.toList→aE ι (H.set o (.lX (pg n m xs))) (w.putObj b (.map ents' clock')):=by
     intro ents' clock' hA
     refine r.EM ho rfl hb (fun k hk'=>?_) (by simp [World.putObj]) rfl rfl rfl ⟨ents',clock',?_,hA⟩
     ·simp only [World.putObj]
      rw [Array.getElem?_setIfInBounds_ne (by omega)]
     ·simp only [World.putObj]
      rw [Array.getElem?_setIfInBounds_self_of_lt hlt]
    rcases FX (k0:=k0) (n:=n) 0 hes with ⟨g1,j,g2,⟨e0,g3,g4⟩,g5⟩ | ⟨g1,g0,g2,g3⟩
    ·refine ⟨w.putObj b (.map (ents.modify j fun e=>{e with key:=.int .i64 n,val:=.int .i64 m}) clock),?_,fin _ _ (by rw [Array.toList_modify];exact g5 m)⟩
     have hfk:(Instr.findKey kt (.int .i64 n) ents.toList).run E.P w=.ok (some (j,.int .i64 (gM n xs))) w:=by
      simp only [Instr.findKey,Sem.run_bind,run_underlying hk,Result.andThen,g2,Nat.zero_add]
      rfl
     have g3':ents[j]?=some e0:=by simpa using g3
     have hst:(Instr.keyThatStays (((ents[j]?).map (·.key)).getD (.int .i64 n)) (.int .i64 n)).run E.P w=.ok (.int .i64 n) w:=by
      rw [g3']
      simp only [Option.map_some,Option.getD_some,g4,Instr.keyThatStays]
      have:Instr.sameBits 10000 (.int .i64 n) (.int .i64 n)=true:=by
       rw [Instr.sameBits];simp
      rw [this];rfl
     simp only [Instr.mapUpdate,Sem.run_bind,run_underlying ht,Result.andThen,hget,fH hk,hfk,hst]
     simp [setObj,Sem.run,hh,World.putObj]
    ·refine ⟨w.putObj b (.map (ents.push {key:=.int .i64 n,val:=.int .i64 m,born:=clock}) (clock+1)),?_,fin _ _ (by rw [Array.toList_push];exact g3 m clock)⟩
     have hfk:(Instr.findKey kt (.int .i64 n) ents.toList).run E.P w=.ok none w:=by
      simp only [Instr.findKey,Sem.run_bind,run_underlying hk,Result.andThen,g2]
      rfl
     simp only [Instr.mapUpdate,Sem.run_bind,run_underlying ht,Result.andThen,hget,fH hk,hfk]
     simp [setObj,Sem.run,hh,World.putObj]
   ·cases h
  ·cases h
 ·cases h
end Go.aA
end
section
namespace Go.aA
open Go.RowKit
variable {E:Env} {ι:aq} {T:List AV} {H:al} {a:Act} {w:World}
theorem ja {c:TC} {x:AV} {q:List Prop} {ys:List c.den} {cx:Value} (h:nI c H x=some (q,ys)) (hq:holds q) (r:aE ι H w) (hx:ak ι x cx):
  ∃ l:List Value,bV (bD ι c) ys l∧((ys=[]∧(cx=.slice none 0 0∨∃ a,cx=.slice (some a) 0 0))∨∃ b off k,cx=.slice (some ⟨b,off,none⟩) ys.length k∧∀ j u,l[j]?=some u→w.cell? ((⟨b,off,none⟩:Addr).add j)=some u):=by
 unfold nI at h
 split at h
 ·rename_i c' xs
  split at h
  ·rename_i e;subst e
   simp only [Option.some.injEq,Prod.mk.injEq] at h;obtain ⟨_,rfl⟩:=h
   rcases Bd hx with ⟨rfl,h0⟩ | ⟨b,off,k,cells,t,fz,l,rfl,hk,hp,hr,hat⟩
   ·exact ⟨[],.nil,.inl ⟨rfl,h0⟩⟩
   ·exact ⟨l,hr,.inr ⟨b,off,k,rfl,fun j u e=>by rw [dG,cell_of (r.aM _ _ hp)];exact hat j u e⟩⟩
  ·cases h
 ·simp only [Option.some.injEq,Prod.mk.injEq] at h;obtain ⟨_,rfl⟩:=h
  exact ⟨[],.nil,.inl ⟨rfl,.inl hx.raw⟩⟩
 ·rename_i o p s off len cap
  split at h
  ·rename_i own t v ho
   split at h
   ·rename_i q' n c' xs hg
    split at h
    ·rename_i e;subst e
     split at h
     ·rename_i hsz
      simp only [Option.some.injEq,Prod.mk.injEq] at h;obtain ⟨rfl,rfl⟩:=h
      rw [bu] at hq
      obtain ⟨hq1,hq2,_⟩:=hq
      obtain ⟨b,z,kk,hb,rfl,hk,hkz,_⟩:=gW hx
      obtain ⟨cells,fz,l,rr,e1,e2,e3,e4,e5⟩:=(r.obj _ _ _ _ ho hb).cell
      obtain ⟨l1,m,l2,el,el1,hu,_⟩:=fF p v l q' _ hg hq1 e4
      rw [aD] at hu
      obtain ⟨hn,hr⟩:=hu
      obtain ⟨m1,m2,em,em1,hr1,hr2⟩:=hr.split (aO c') off (by omega)
      obtain ⟨k1,k2,ek,ek1,hs1,hs2⟩:=hr2.split (aO c') len (by simp;omega)
      have hlen:((xs.drop off).take len).length=len:=by simp;omega
      refine ⟨k1,hs1,.inr ⟨b,aw p+off * s,kk,by rw [hlen],fun j u e=>?_⟩⟩
      rw [dG,cell_of e1]
      have:aw p+off * s=(l1++m1).length:=by simp [el1,em1,hsz]
      rw [this]
      exact At.xK (l2:=k2++l2++rr) (by rw [e2,el,em,ek];simp) j u e
     ·cases h
    ·cases h
   ·cases h
  ·cases h
 ·cases h
theorem pL {P:Program} {t:TypeId} {d:ba} (h:d.ok P t):∃ i z,P.info? t=some i∧i.size=d.size∧i.bytes=d.bytes∧i.zero=some z∧z.cells.size=d.size:=by
 obtain ⟨_,i,z,h1,h2,h3,h4,h5,_,h6⟩:=h
 refine ⟨i,z,h1,h2,h3,h4,?_⟩
 have:=(h5 ⟨default,fun _=>none,⟨[]⟩⟩).cells
 rw [← Array.length_toList,gg _ _ this,h6]
theorem O7 {xs:List Int} {l:List Value} (h:bV (bD ι (.int .u8)) xs l):l=xs.map (Value.int .u8):=by
 induction h with
 | nil=>rfl
 | cons h1 _ ih=>rw [show _=_ from h1,ih];rfl
theorem Gq (hV:E.Valid) {src dst:TypeId} {s d:ba} {v u:AV} {c:Value} (hs:s.ok E.P src) (hd:d.ok E.P dst) (h:PG E s d v=some u) (r:∀ b o,ι.aM b=some o→w.heap[b]?=some o) (hx:ak ι v c):
  ∃ c',(convert src dst c).run E.P w=.ok c' w∧∀ ι',ak ι' u c':=by
 have hs1:=hs.1
 have hd1:=hd.1
 unfold PG at h
 split at h
 ·rename_i e hse hde
  rw [hse] at hs1
  rw [hde] at hd1
  split at h
  ·rename_i de he
   have he1:=(hV.ty _ _ he).1
   split at h
   ·rename_i hk
    rw [hk] at he1
    split at h
    ·rename_i xs
     cases h
     rcases Bd hx with ⟨rfl,rfl | ⟨a0,rfl⟩⟩ | ⟨b,off,k,cells,t,fz,l,rfl,_,hp,hr,hat⟩
     ·exact ⟨_,run_convert_bytes_nil w src e hs1 he1 0 0 dst hd1,fun _=>mH _⟩
     ·exact ⟨_,run_convert_bytes_arg w src e hs1 he1 a0.block a0.off 0 0 [] rfl (fun i hi=>by omega) dst hd1 |> fun h=>by
       rw [run_convert_bytes_string w src dst e _ 0 0 hs1 he1 hd1]
       exact run_bytesToString w a0 0 0 [] (by simp [loadCells,loadCellsFrom]),fun _=>mH _⟩
     ·have hl:=O7 hr
      refine ⟨_,run_convert_bytes_arg w src e hs1 he1 b off xs.length k xs rfl (fun i hi=>?_) dst hd1,fun _=>mH _⟩
      rw [cell_of (r _ _ hp)]
      refine hat i _ ?_
      rw [hl]
      simp [List.getD,List.getElem?_eq_getElem hi]
    ·cases h
     have hc:=hx.raw;subst hc
     exact ⟨_,run_convert_bytes_nil w src e hs1 he1 0 0 dst hd1,fun _=>mH _⟩
    ·cases h
   ·cases h
  ·cases h
 ·cases h
theorem sR {α:Type} (xs:List α) (i:Nat):bL xs i []=xs:=by simp [bL]
theorem RB {P:Program} {ts:Array TypeId} {t1 ty e:TypeId} {de:ba} {d x v:AV} {q:List Prop} {H':al} {cd cx:Value} (h0:ts[0]?=some t1) (hu:P.underlying t1=some (.slice e)) (he:de.ok P e) (h:O2 de.size H d x=some (q,v,H')) (hq:holds q) (r:aE ι H w)
  (hd:ak ι d cd) (hx:ak ι x cx):∃ w' u,(Builtin.copy_ ts ty #[cd,cx]).run P w=.ok u w'∧aE ι H' w'∧ak ι v u:=by
 unfold O2 at h
 split at h
 case h_2=>cases h
 rename_i ob s off len cap
 split at h
 case h_2=>cases h
 rename_i t m c xs hob
 split at h
 case h_2=>cases h
 rename_i q1 ys happ
 split at h
 case isFalse=>cases h
 rename_i hsz
 obtain ⟨hs1,hs2⟩:=hsz
 subst hs1
 simp only [Option.some.injEq,Prod.mk.injEq] at h
 obtain ⟨rfl,rfl,rfl⟩:=h
 rw [bu] at hq
 obtain ⟨hq1,hm,_⟩:=hq
 obtain ⟨l,hl,hcx⟩:=ja happ hq1 r hx
 obtain ⟨b,z,k,hbk,rfl,hk,hkz,_⟩:=gW hd
 obtain ⟨cells,fz,lo,rr,e1,e2,e3,e4,e5⟩:=(r.obj _ _ _ _ hob hbk).cell
 have e5:=e5 rfl;subst e5
 rw [aD] at e4
 obtain ⟨hxs,hr⟩:=e4
 obtain ⟨_,i,zv,hi,hsi,_⟩:=he
 rcases hcx with ⟨rfl,hcx⟩ | ⟨b2,off2,k2,rfl,hcells⟩
 ·refine ⟨w,.int .i64 0,?_,?_,by simpa using dv _ _⟩
  ·rcases hcx with rfl | ⟨a0,rfl⟩
   ·simp [Builtin.copy_,h0,run_underlying hu,sizeOf,typeInfo,hi,Builtin.lenOf,Builtin.firstCells,storeCells,goInt]
   ·simp [Builtin.copy_,h0,run_underlying hu,sizeOf,typeInfo,hi,Builtin.lenOf,Builtin.firstCells,loadCells,loadCellsFrom,storeCells,goInt]
  ·refine r.EM (z:=z) hob rfl hbk (fun _ _=>rfl) rfl rfl rfl rfl ⟨cells,(0,0),lo,rr,e1,e2,e3,?_,by simp⟩
   rw [aD,List.take_nil,sR];exact ⟨hxs,hr⟩
 ·obtain ⟨l1,l2,el,el1,hr1,_⟩:=hl.split (aO c) (Nat.min ys.length len) (Nat.min_le_left _ _)
  have htk:ys.take (Nat.min ys.length len)=ys.take len:=by
   rcases Nat.le_total ys.length len with hle | hle
   ·rw [show Nat.min ys.length len=ys.length from Nat.min_eq_left hle,List.take_of_length_le (Nat.le_refl _),List.take_of_length_le hle]
   ·rw [show Nat.min ys.length len=len from Nat.min_eq_right hle]
  rw [htk] at hr1
  have hnl:(ys.take len).length=Nat.min ys.length len:=by rw [List.length_take];exact Nat.min_comm _ _
  have hmin:Nat.min ys.length len≤len:=Nat.min_le_right _ _
  obtain ⟨m1,m2,em,em1,hm1,hm2⟩:=hr.split (aO c) off (by omega)
  obtain ⟨k1,k3,ek,ek1,_,hk2⟩:=hm2.split (aO c) (Nat.min ys.length len) (by simp;omega)
  have hf:=run_firstCells_some (P:=P) w i.size (Nat.min ys.length len) ⟨b2,off2,none⟩ ys.length k2 l1 (by rw [hsi,hs2];exact el1) (fun j v hj=>hcells j v (by
   rw [el,List.getElem?_append_left (List.getElem?_eq_some_iff.1 hj).1];exact hj))
  have hlen:off * c.size+l1.length≤cells.size:=by
   rw [el1,← Array.length_toList,e2,em,ek];simp [em1,ek1]
  have hst:=run_storeCells_at P b (off * c.size) t l1 0 cells w e1 (by simpa using hlen) (hr1.mem (fun x m h=>jb c x m h))
  simp only [Nat.add_zero] at hst
  have hp0:aw []+off * c.size=off * c.size:=by simp [aw]
  refine ⟨w.setRow b (cells.toList.take (off * c.size)++l1++cells.toList.drop (off * c.size+l1.length)).toArray,goInt (Nat.min ys.length len),?_,?_,dv _ _⟩
  ·simp [Builtin.copy_,h0,run_underlying hu,sizeOf,typeInfo,hi,Builtin.lenOf,hf,hp0,hst]
  ·have hcs:cells.toList.take (off * c.size)++l1++cells.toList.drop (off * c.size+l1.length)=(m1++(l1++k3))++rr:=by
    have a1:off * c.size=m1.length:=em1.symm
    have a2:l1.length=k1.length:=by rw [el1,ek1]
    rw [a1,a2,e2,em,ek]
    simp only [List.append_assoc]
    rw [List.take_left' rfl,← List.length_append,← List.append_assoc m1 k1,List.drop_left' rfl]
   refine r.EM (z:=z) hob rfl hbk (fun k hk=>setRow_other w b k _ hk) (by simp) rfl rfl rfl
    ⟨_,(0,0),m1++(l1++k3),rr,setRow_heap w b cells _ t _ e1,by rw [hcs],?_,?_,by simp⟩
   ·have hz:cells.toList.length=z:=by rw [Array.length_toList];exact e3
    rw [e2,em,ek] at hz
    rw [hcs,← hz];simp;omega
   ·rw [aD]
    refine ⟨?_,?_⟩
    ·simp [bL];omega
    ·unfold bL
     refine hm1.app (hr1.app ?_)
     rw [hnl,← List.drop_drop]
     exact hk2
theorem Qp {P:Program} {t e:TypeId} {de:ba} {l c v:AV} {q:List Prop} {H':al} {cl cc:Value} (hu:P.underlying t=some (.slice e)) (he:de.ok P e) (h:Ht e de H l c=some (q,v,H')) (hq:holds q) (r:aE ι H w)
  (hl:ak ι l cl) (hc:ak ι c cc):∃ ι' w' u,(Instr.makeSlice t cl cc).run P w=.ok u w'∧Ext ι ι'∧aE ι' H' w'∧ak ι' v u:=by
 unfold Ht at h
 split at h
 case h_2=>cases h
 rename_i kl l kc c
 split at h
 case h_2=>cases h
 rename_i tc hcode
 split at h
 case h_2=>cases h
 rename_i z hz
 split at h
 case isFalse=>cases h
 rename_i hsz
 simp only [Option.some.injEq,Prod.mk.injEq] at h
 obtain ⟨rfl,rfl,rfl⟩:=h
 obtain ⟨q1,q2,q3,q4,_⟩:=hq
 rw [hl.int,hc.int]
 obtain ⟨hdesc,i,zv,hi,hsi,hby,hzv,hzr,hrest⟩:=he
 have hzl:∀ ι,bD ι tc z zv.cells.toList:=fun ι=>by
  have:=(hzr ι).cells
  exact eV.1 (eV.2 (oZ hz this))
 obtain ⟨n,rfl⟩:∃ n:Nat,c=n:=⟨c.toNat,by omega⟩
 have hb:(i.bytes:Int) * (n:Int)≤281474976710656:=by
  rw [← Int.natCast_mul,hby,Nat.mul_comm]
  simp only [Int.toNat_natCast] at q4
  omega
 have hrun:=run_make (P:=P) w t e i zv hu hi hzv kl kc l n q1 q2 hb (by omega)
 have hzs:zv.cells.size=de.size:=by rw [← Array.length_toList,aO _ _ _ (hzl ι),hsz]
 have hcl:(madeCells zv.cells (n * i.size)).toList=(List.replicate n zv.cells.toList).flatten:=by
  unfold madeCells
  rw [hsi,← hzs]
  simpa using gq zv.cells n
 have hE:=Ext.add ι w.heap.size (n * i.size)
 simp only [Int.toNat_natCast] at hrun ⊢
 refine ⟨ι.add w.heap.size (n * i.size),_,_,hrun,hE,?_,?_⟩
 ·refine r.alloc (.cells _ e) (n * i.size) _ ⟨_,(0,0),(List.replicate n zv.cells.toList).flatten,[],heap_alloc_new,by rw [hcl];simp,size_madeCells _ _,?_,by simp⟩
  rw [aD]
  exact ⟨by simp,cC (hzl _) n⟩
 ·refine an rfl ?_
  rw [aD]
  refine ⟨w.heap.size,n * i.size,n,by rw [r.len];exact ι.fK _ _,by simp [aw],by omega,by simp [aw,hsi],by simp⟩
end Go.aA
end
section
namespace Go.aA
open Go.RowKit
variable {E:Env} {ι:aq} {T:List AV} {H:al} {a:Act} {w:World}
def aq.all (ι:aq) (w:World):aq:={ι with aM:=fun b=>w.heap[b]?}
def Seen (ι ι':aq) (w:World) (H:al) (os:List Nat):Prop:=∀ o∈os,∀ own t v b z,H[o]?=some (.cell own t v)→ι.bB[o]?=some (b,z)→ι'.aM b=w.heap[b]?
mutual
theorem yU (r:aE ι H w) {ι':aq} (hE:Sub ι ι'):∀ (v u:AV) (q:List Prop) (cs:List Value),Seen ι ι' w H (lD v)→view H v=some (q,u)→holds q→aD ι v cs→aD ι' u cs
 | .ptr o p,u,q,cs,hs,h,hq,k=>by
  simp only [view] at h
  split at h
  ·rename_i own t v ho
   split at h
   ·rename_i q' u' hg
    simp only [Option.some.injEq,Prod.mk.injEq] at h;obtain ⟨rfl,rfl⟩:=h
    rw [aD] at k
    obtain ⟨b,z,hb,rfl⟩:=k
    obtain ⟨cells,fz,l,rr,e1,e2,e3,e4,e5⟩:=(r.obj _ _ _ _ ho hb).cell
    obtain ⟨l1,m,l2,el,el1,hu,_⟩:=fF p v l q' u' hg hq e4
    rw [aD]
    refine ⟨b,aw p,cells,t,fz,m,rfl,?_,bY hE _ _ hu,?_⟩
    ·rw [hs o (by simp [lD]) own t v b z ho hb,e1]
    ·rw [← el1];exact At.xK (l2:=l2++rr) (by rw [e2,el];simp)
   ·cases h
  ·cases h
 | .aS o p s off len cap,u,q,cs,hs,h,hq,k=>by
  simp only [view] at h
  split at h
  ·rename_i own t v ho
   split at h
   ·rename_i q' n c xs hg
    split at h
    ·rename_i hsz
     simp only [Option.some.injEq,Prod.mk.injEq] at h;obtain ⟨rfl,rfl⟩:=h
     rw [bu] at hq
     obtain ⟨hq1,hq2,_⟩:=hq
     rw [aD] at k
     obtain ⟨b,z,kk,hb,rfl,hk,hkz,_⟩:=k
     obtain ⟨cells,fz,l,rr,e1,e2,e3,e4,e5⟩:=(r.obj _ _ _ _ ho hb).cell
     obtain ⟨l1,m,l2,el,el1,hu,_⟩:=fF p v l q' _ hg hq1 e4
     rw [aD] at hu
     obtain ⟨hn,hr⟩:=hu
     obtain ⟨m1,m2,em,em1,hr1,hr2⟩:=hr.split (aO c) off (by omega)
     obtain ⟨k1,k2,ek,ek1,hs1,hs2⟩:=hr2.split (aO c) len (by simp;omega)
     rw [aD]
     refine ⟨_,rfl,.inr ⟨b,aw p+off * s,kk,cells,t,fz,k1,?_,?_,?_,hs1.mono (fun x l=>cr hE c x l),?_⟩⟩
     ·simp;omega
     ·simp;omega
     ·rw [hs o (by simp [lD]) own t v b z ho hb,e1]
     ·have:aw p+off * s=(l1++m1).length:=by simp [el1,em1,hsz]
      rw [this]
      exact At.xK (l2:=k2++l2++rr) (by rw [e2,el,em,ek];simp)
    ·cases h
   ·simp only [Option.some.injEq,Prod.mk.injEq] at h;obtain ⟨_,rfl⟩:=h
    rw [aD]
    exact rQ rfl k
   ·cases h
  ·cases h
 | .agg ss vs,u,q,cs,hs,h,hq,k=>by
  simp only [view] at h
  split at h
  ·rename_i q' us hv
   simp only [Option.some.injEq,Prod.mk.injEq] at h;obtain ⟨rfl,rfl⟩:=h
   rw [aD] at k ⊢
   exact xR r hE vs us q' ss cs hs hv hq k
  ·cases h
 | .int _ _,_,_,_,_,h,_,k=>by simp only [view,Option.some.injEq,Prod.mk.injEq] at h;obtain ⟨_,rfl⟩:=h;exact bY hE _ _ k
 | .bool _,_,_,_,_,h,_,k=>by simp only [view,Option.some.injEq,Prod.mk.injEq] at h;obtain ⟨_,rfl⟩:=h;exact bY hE _ _ k
 | .str _,_,_,_,_,h,_,k=>by simp only [view,Option.some.injEq,Prod.mk.injEq] at h;obtain ⟨_,rfl⟩:=h;exact bY hE _ _ k
 | .raw _,_,_,_,_,h,_,k=>by simp only [view,Option.some.injEq,Prod.mk.injEq] at h;obtain ⟨_,rfl⟩:=h;exact bY hE _ _ k
 | .arr _ _ _,_,_,_,_,h,_,k=>by simp only [view,Option.some.injEq,Prod.mk.injEq] at h;obtain ⟨_,rfl⟩:=h;exact bY hE _ _ k
 | .nk _,_,_,_,_,_,_,k=>by rw [aD] at k;exact k.elim
 | .any,_,_,_,_,_,_,k=>by rw [aD] at k;exact k.elim
 | .oW _,_,_,_,_,_,_,k=>by rw [aD] at k;exact k.elim
 | .a8,_,_,_,_,h,_,k=>by simp only [view,Option.some.injEq,Prod.mk.injEq] at h;obtain ⟨_,rfl⟩:=h;exact bY hE _ _ k
 | .ref _,_,_,_,_,h,_,k=>by simp only [view,Option.some.injEq,Prod.mk.injEq] at h;obtain ⟨_,rfl⟩:=h;exact bY hE _ _ k
 | .dA _ _,_,_,_,_,h,_,k=>by simp only [view,Option.some.injEq,Prod.mk.injEq] at h;obtain ⟨_,rfl⟩:=h;exact bY hE _ _ k
 | .fn _ _,_,_,_,_,h,_,k=>by simp only [view,Option.some.injEq,Prod.mk.injEq] at h;obtain ⟨_,rfl⟩:=h;exact bY hE _ _ k
 | .yO _ _,_,_,_,_,h,_,k=>by simp only [view,Option.some.injEq,Prod.mk.injEq] at h;obtain ⟨_,rfl⟩:=h;exact bY hE _ _ k
 | .jl _,_,_,_,_,h,_,k=>by simp only [view,Option.some.injEq,Prod.mk.injEq] at h;obtain ⟨_,rfl⟩:=h;exact bY hE _ _ k
 | .row _ _ _,_,_,_,_,h,_,k=>by simp only [view,Option.some.injEq,Prod.mk.injEq] at h;obtain ⟨_,rfl⟩:=h;exact bY hE _ _ k
 | .mp _,_,_,_,_,h,_,k=>by simp only [view,Option.some.injEq,Prod.mk.injEq] at h;obtain ⟨_,rfl⟩:=h;exact bY hE _ _ k
theorem xR (r:aE ι H w) {ι':aq} (hE:Sub ι ι'):∀ (vs us:List AV) (q:List Prop) (ss:List Nat) (cs:List Value),Seen ι ι' w H (cQ vs)→views H vs=some (q,us)→holds q→cA ι ss vs cs→cA ι' ss us cs
 | [],us,q,ss,cs,_,h,_,k=>by
  simp only [views,Option.some.injEq,Prod.mk.injEq] at h;obtain ⟨_,rfl⟩:=h
  rw [cA] at k ⊢;exact k
 | v :: vs,us,q,ss,cs,hs,h,hq,k=>by
  simp only [views] at h
  split at h
  ·rename_i q1 u1 q2 us2 h1 h2
   simp only [Option.some.injEq,Prod.mk.injEq] at h;obtain ⟨rfl,rfl⟩:=h
   rw [bu] at hq
   rw [cA] at k ⊢
   obtain ⟨s,ss',l,m,e1,e2,e3,k1,k2⟩:=k
   exact ⟨s,ss',l,m,e1,e2,e3,yU r hE v u1 q1 l (fun o ho=>hs o (by simp [cQ,ho])) h1 hq.1 k1,
    xR r hE vs us2 q2 ss' m (fun o ho=>hs o (by simp [cQ,ho])) h2 hq.2 k2⟩
  ·cases h
end
theorem J2 (v u:AV) (q:List Prop) (h:view H v=some (q,u)):dJ u=dJ v:=by
 cases v with
 | ptr o p=>
  simp only [view] at h
  split at h
  ·split at h
   ·simp only [Option.some.injEq,Prod.mk.injEq] at h;rw [← h.2];rfl
   ·cases h
  ·cases h
 | aS o p s off len cap=>
  simp only [view] at h
  split at h
  ·split at h
   ·split at h
    ·simp only [Option.some.injEq,Prod.mk.injEq] at h;rw [← h.2];rfl
    ·cases h
   ·simp only [Option.some.injEq,Prod.mk.injEq] at h;rw [← h.2];rfl
   ·cases h
  ·cases h
 | agg ss vs=>
  simp only [view] at h
  split at h
  ·simp only [Option.some.injEq,Prod.mk.injEq] at h;rw [← h.2];rfl
  ·cases h
 | _=>simp only [view,Option.some.injEq,Prod.mk.injEq] at h;rw [← h.2]
theorem uZ (r:aE ι H w) {ι':aq} (hE:Sub ι ι') {v u:AV} {q:List Prop} {c:Value} (hs:Seen ι ι' w H (lD v)) (h:view H v=some (q,u)) (hq:holds q) (k:ak ι v c):ak ι' u c:=by
 by_cases hnt:qQ v=true
 case neg=>
  cases v<;>first | exact absurd rfl hnt | skip
  all_goals
   simp only [view,Option.some.injEq,Prod.mk.injEq] at h;obtain ⟨_,rfl⟩:=h
   exact nj hE k
 case pos=>
  have hag:=J2 _ _ _ h
  cases ha:dJ v with
  | true=>
   obtain ⟨cs,hr,rfl⟩:=k.agg ha
   exact gu (hag.trans ha) (yU r hE _ _ _ _ hs h hq hr)
  | false=>exact an (hag.trans ha) (yU r hE _ _ _ _ hs h hq (k.one ha hnt))
theorem kC (r:aE ι H w) {ι':aq} (hE:Sub ι ι'):∀ (vs us:List AV) (q:List Prop) (cs:List Value),Seen ι ι' w H (cQ vs)→views H vs=some (q,us)→holds q→aL (ak ι) vs cs→aL (ak ι') us cs
 | [],us,q,cs,_,h,_,k=>by
  simp only [views,Option.some.injEq,Prod.mk.injEq] at h;obtain ⟨_,rfl⟩:=h
  cases k;exact .nil
 | v :: vs,us,q,cs,hs,h,hq,k=>by
  simp only [views] at h
  split at h
  ·rename_i q1 u1 q2 us2 h1 h2
   simp only [Option.some.injEq,Prod.mk.injEq] at h;obtain ⟨rfl,rfl⟩:=h
   rw [bu] at hq
   obtain ⟨c,cs',rfl,k1,k2⟩:=k.cons_inv
   exact .cons (uZ r hE (fun o ho=>hs o (by simp [cQ,ho])) h1 hq.1 k1) (kC r hE vs us2 q2 cs' (fun o ho=>hs o (by simp [cQ,ho])) h2 hq.2 k2)
  ·cases h
theorem gY:∀ (os:List Nat) {ι:aq} {H H':al} {w:World},eE H os=some H'→aE ι H w→
  ∃ ι',Ext ι ι'∧aE ι' H' w∧(∀ (o:Nat),(∃ t v,H[o]?=some (aG.cell false t v))→∃ t v,H'[o]?=some (aG.cell false t v))∧∀ o∈os,∃ t v,H'[o]?=some (aG.cell false t v)
 | [],ι,H,H',w,h,r=>by
  simp only [eE,Option.some.injEq] at h;subst h
  exact ⟨ι,Ext.refl ι,r,fun _ h=>h,by simp⟩
 | o :: os,ι,H,H',w,h,r=>by
  simp only [eE] at h
  split at h
  ·rename_i own t v ho
   have hlt:=(List.getElem?_eq_some_iff.1 ho).1
   have step:∃ ι1,Ext ι ι1∧aE ι1 (H.set o (.cell false t v)) w:=by
    cases own with
    | true=>
     obtain ⟨b,z,hb⟩:=r.gO ho
     obtain ⟨hE,hR⟩:=r.freeze ho hb
     exact ⟨_,hE,hR⟩
    | false=>
     have:H.set o (.cell false t v)=H:=by
      apply List.ext_getElem?
      intro i
      rw [List.getElem?_set]
      split
      ·rename_i e;subst e;simp [ho]
      ·rfl
     exact ⟨ι,Ext.refl ι,by rw [this];exact r⟩
   obtain ⟨ι1,hE1,hR1⟩:=step
   obtain ⟨ι2,hE2,hR2,hk,hos⟩:=gY os h hR1
   refine ⟨ι2,hE1.trans hE2,hR2,fun o' ho'=>hk o' ?_,fun o' ho'=>?_⟩
   ·by_cases hoo:o=o'
    ·subst hoo;exact ⟨t,v,by simp [hlt]⟩
    ·obtain ⟨t',v',e⟩:=ho';exact ⟨t',v',by rw [List.getElem?_set_ne hoo];exact e⟩
   ·rcases List.mem_cons.1 ho' with rfl | ho'
    ·exact hk _ ⟨t,v,by simp [hlt]⟩
    ·exact hos _ ho'
  ·cases h
theorem IN {ps ps':List (Nat×AV)} {q:List Prop} {H':al} {cl:List (Nat×Value)} (h:settle H ps=some (q,ps',H')) (hq:holds q) (r:aE ι H w)
  (hl:aL (fun (x:Nat×AV) (y:Nat×Value)=>x.1=y.1∧ak ι x.2 y.2) ps cl):
  ∃ ι',Ext ι ι'∧aE ι' H' w∧aL (fun (x:Nat×AV) (y:Nat×Value)=>x.1=y.1∧ak ι' x.2 y.2) ps' cl:=by
 unfold settle at h
 split at h
 ·simp only [Option.some.injEq,Prod.mk.injEq] at h;obtain ⟨_,rfl,rfl⟩:=h
  exact ⟨ι,Ext.refl ι,r,hl⟩
 ·split at h
  ·rename_i H1 hf
   split at h
   ·rename_i q' us hv
    simp only [Option.some.injEq,Prod.mk.injEq] at h;obtain ⟨rfl,rfl,rfl⟩:=h
    obtain ⟨ι1,hE1,r1,_,hfr⟩:=gY _ hf r
    have hseen:Seen ι1 ι1 w H1 (cQ (ps.map (·.2))):=by
     intro o ho own t v b z e1 e2
     obtain ⟨t',v',e⟩:=hfr o ho
     rw [e1] at e;cases e
     obtain ⟨cells,fz,l,rr,k1,k2,k3,k4,k5⟩:=r1.obj _ _ _ _ e1 e2
     have k5:ι1.aM b=some (.cells cells t fz):=k5
     rw [k5,k1]
    have h2:∀ {ps:List (Nat×AV)} {cl:List (Nat×Value)},aL (fun (x:Nat×AV) (y:Nat×Value)=>x.1=y.1∧ak ι x.2 y.2) ps cl→aL (ak ι) (ps.map (·.2)) (cl.map (·.2)):=by
     intro ps cl k
     induction k with
     | nil=>exact .nil
     | cons h1 _ ih=>exact .cons h1.2 ih
    have h3:=kC r1 (ι':=ι1) ⟨fun _ _ _ _ h=>h,fun _ _ h=>h⟩ _ us q' _ hseen hv hq (aL.imp (fun _ _=>cP hE1) (h2 hl))
    refine ⟨ι1,hE1,r1,?_⟩
    clear hv hseen hfr hf
    have h4:∀ {ps:List (Nat×AV)} {cl:List (Nat×Value)} {us:List AV},aL (fun (x:Nat×AV) (y:Nat×Value)=>x.1=y.1∧ak ι x.2 y.2) ps cl→aL (ak ι1) us (cl.map (·.2))→
      aL (fun (x:Nat×AV) (y:Nat×Value)=>x.1=y.1∧ak ι1 x.2 y.2) ((ps.map (·.1)).zip us) cl:=by
     intro ps cl us k
     induction k generalizing us with
     | nil=>intro k;cases k;exact .nil
     | cons h1 _ ih=>intro k;cases k with | cons k1 k2=>exact .cons ⟨h1.1,k1⟩ (ih k2)
    exact h4 hl h3
   ·cases h
  ·cases h
end Go.aA
end
