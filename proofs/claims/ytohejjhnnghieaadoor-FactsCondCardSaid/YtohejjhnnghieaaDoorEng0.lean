/- A part of the proof that the laws of this seat hold. Conditions: none beyond the row. -/
import Derived.RangeFuncRecord
import Derived.RangeFuncCalls
import Derived.Below
import Derived.Laws.BytesArg
import Derived.Orders
import Derived.Laws.Cells
import Derived.Laws.CopyRow
import Derived.Laws.Entries
import Derived.Calls
import Derived.Laws.StructEq
import Derived.Laws.MakeOwn
import Derived.Laws.AppendOwn
import Derived.Lib.AppendZerosOnto
import Derived.TacticsIn
import Derived.RangeFuncLeaves
import Derived.WideKeyArgs
import Derived.Deep.Slices
import Derived.OpenShut
import Derived.KernelRfl
import Derived.Lib.Overlaps
import Derived.Scope
import Derived.OrdersIn
import Derived.Still
set_option linter.unusedVariables false
set_option linter.unusedSimpArgs false
set_option linter.unusedSectionVars false
section
/- The abstract domain of the engine: codes of plain data, abstract values, and what it means that cells of memory read as them. -/
namespace Go.Eng
open Go.RowKit

/-! ### Codes of plain data -/
inductive TC where
  | int (k : IntKind) | bool | str | unit
  | st (a r : TC) | st1 (a : TC)
  | slice (c : TC) | arr (n : Nat) (c : TC) | ref (c : TC) | junk
  deriving DecidableEq

@[reducible] def TC.den : TC → Type
  | .int _ => Int | .bool => Bool | .str => ByteArray | .unit => Unit
  | .st a r => a.den × r.den | .st1 a => a.den
  | .slice c => List c.den | .arr _ c => List c.den | .ref c => c.den | .junk => Unit

def TC.dflt : (c : TC) → c.den
  | .int _ => (0 : Int) | .bool => false | .str => ByteArray.empty | .unit => ()
  | .st a r => (a.dflt, r.dflt) | .st1 a => a.dflt
  | .slice _ => [] | .arr n c => List.replicate n c.dflt | .ref c => c.dflt | .junk => ()

def TC.size : TC → Nat
  | .int _ => 1 | .bool => 1 | .str => 1 | .unit => 0
  | .st a r => a.size + r.size | .st1 a => a.size
  | .slice _ => 1 | .arr n c => n * c.size | .ref _ => 1 | .junk => 1

def TC.szs : TC → List Nat
  | .st a r => a.size :: r.szs
  | c => [match c with | .st1 a => a.size | c => c.size]

def rdc (c : TC) (xs : List c.den) (i : Nat) : c.den := xs.getD i c.dflt

/-! ### Abstract values -/
inductive Step where
  | fld (off i : Nat)
  | idx (s i : Nat)

def Step.off : Step → Nat
  | .fld off _ => off
  | .idx s i => i * s

def pathOff : List Step → Nat
  | [] => 0
  | s :: p => s.off + pathOff p

inductive AV where
  | int (k : IntKind) (n : Int)
  | bool (b : Bool)
  | str (s : ByteArray)
  | raw (v : Value)
  | agg (ss : List Nat) (vs : List AV)
  | arr (n : Nat) (c : TC) (xs : List c.den)
  | tup (vs : List AV)
  | ptr (o : Nat) (p : List Step)
  | ref (v : AV)
  | fsl (c : TC) (xs : List c.den)
  | osl (o : Nat) (p : List Step) (s off len : Nat) (cap : Option Nat)
  | fn (f : FuncId) (caps : List AV)
  | yld (l : Nat)
  | mp (o : Nat)
  | any
  | junk
  | bnd (f : FuncId) (fs : List AV)
  | row (o s n : Nat)

instance : Inhabited AV := ⟨.tup []⟩
def AV.undef : AV := .tup []

/-- The value, and the list of its parts (a struct's fields; else the value alone). -/
def TC.both : (c : TC) → c.den → AV × List AV
  | .int k, n => (.int k n, [.int k n])
  | .bool, b => (.bool b, [.bool b])
  | .str, s => (.str s, [.str s])
  | .unit, _ => (.agg [] [], [.agg [] []])
  | .st a r, x => let l := (a.both x.1).1 :: (r.both x.2).2; (.agg (TC.st a r).szs l, l)
  | .st1 a, x => let l := [(a.both x).1]; (.agg [a.size] l, l)
  | .slice c, xs => (.fsl c xs, [.fsl c xs])
  | .arr n c, xs => (.arr n c xs, [.arr n c xs])
  | .ref c, x => (.ref (c.both x).1, [.ref (c.both x).1])
  | .junk, _ => (.junk, [.junk])

/-- A value of one cell. -/
def oneB : AV → Bool
  | .agg _ _ => false
  | .arr _ _ _ => false
  | .tup _ => false
  | .any => false
  | _ => true

def ofD (c : TC) (x : c.den) : AV := (c.both x).1

def oneOf {α : Type} (f : AV → Option α) : List AV → Option α
  | [v] => f v
  | _ => none

def TC.back : (c : TC) → (AV → Option c.den) × (List AV → Option c.den)
  | .int k => let f : AV → Option Int := fun v => match v with | .int k' n => if k' = k then some n else none | _ => none; (f, oneOf f)
  | .bool => let f : AV → Option Bool := fun v => match v with | .bool b => some b | _ => none; (f, oneOf f)
  | .str => let f : AV → Option ByteArray := fun v => match v with | .str b => some b | _ => none; (f, oneOf f)
  | .unit => let f : AV → Option Unit := fun v => match v with | .agg [] [] => some () | _ => none; (f, oneOf f)
  | .st a r =>
    let g : List AV → Option (a.den × r.den) := fun l => match l with
      | v :: l => match a.back.1 v with
        | some x => match r.back.2 l with
          | some y => some (x, y)
          | none => none
        | none => none
      | [] => none
    (fun v => match v with | .agg ss vs => if ss = (TC.st a r).szs then g vs else none | _ => none, g)
  | .st1 a => (fun v => match v with | .agg ss vs => if ss = [a.size] then oneOf a.back.1 vs else none | _ => none, oneOf a.back.1)
  | .slice c =>
    let f : AV → Option (List c.den) := fun v => match v with
      | .fsl c' xs => if h : c' = c then some (h ▸ xs) else none
      | .raw (.slice none 0 0) => some []
      | _ => none
    (f, oneOf f)
  | .arr n c =>
    let f : AV → Option (List c.den) := fun v => match v with
      | .arr n' c' xs => if h : c' = c then (if n' = n then some (h ▸ xs) else none) else none
      | _ => none
    (f, oneOf f)
  | .ref c =>
    let f : AV → Option c.den := fun v => match v with
      | .ref u => c.back.1 u
      | _ => none
    (f, oneOf f)
  | .junk => let f : AV → Option Unit := fun v => if oneB v = true then some () else none; (f, oneOf f)

def toD (c : TC) (v : AV) : Option c.den := c.back.1 v

/-! ### Reading -/
structure Inst where
  w0 : World
  prot : Nat → Option Obj
  blk : List (Nat × Nat)

/-- The cells 'l' stand in the block from 'off' on. -/
def At (cells : Array Value) (off : Nat) (l : List Value) : Prop := ∀ j v, l[j]? = some v → cells[off + j]? = some v

inductive RepAll {α : Type} (R : α → List Value → Prop) : List α → List Value → Prop where
  | nil : RepAll R [] []
  | cons {x : α} {xs : List α} {l m : List Value} (h : R x l) (t : RepAll R xs m) : RepAll R (x :: xs) (l ++ m)

def RepD (ι : Inst) : (c : TC) → c.den → List Value → Prop
  | .int k, n, cs => cs = [.int k n]
  | .bool, b, cs => cs = [.bool b]
  | .str, s, cs => cs = [.string s]
  | .unit, _, cs => cs = []
  | .st a r, x, cs => ∃ l m, cs = l ++ m ∧ RepD ι a x.1 l ∧ RepD ι r x.2 m
  | .st1 a, x, cs => RepD ι a x cs
  | .slice c, xs, cs => ∃ v, cs = [v] ∧ ((xs = [] ∧ (v = .slice none 0 0 ∨ ∃ a, v = .slice (some a) 0 0)) ∨
      ∃ b off k cells t fz l, v = .slice (some ⟨b, off, none⟩) xs.length k ∧ xs.length ≤ k ∧ ι.prot b = some (.cells cells t fz) ∧ RepAll (RepD ι c) xs l ∧ At cells off l)
  | .arr n c, xs, cs => xs.length = n ∧ RepAll (RepD ι c) xs cs
  | .ref c, x, cs => ∃ b off cells t fz l, cs = [.pointer (some ⟨b, off, none⟩)] ∧ ι.prot b = some (.cells cells t fz) ∧ RepD ι c x l ∧ At cells off l
  | .junk, _, cs => ∃ v, cs = [v] ∧ v.oneCell' = true

def aggB : AV → Bool
  | .agg _ _ => true
  | .arr _ _ _ => true
  | _ => false

mutual
def Rep (ι : Inst) : AV → List Value → Prop
  | .int k n, cs => cs = [.int k n]
  | .bool b, cs => cs = [.bool b]
  | .str s, cs => cs = [.string s]
  | .raw v, cs => cs = [v] ∧ v.oneCell' = true
  | .agg ss vs, cs => RepL ι ss vs cs
  | .arr n c xs, cs => RepD ι (.arr n c) xs cs
  | .tup _, _ => False
  | .any, _ => False
  | .junk, cs => ∃ v, cs = [v] ∧ v.oneCell' = true
  | .ptr o p, cs => ∃ b z, ι.blk[o]? = some (b, z) ∧ cs = [.pointer (some ⟨b, pathOff p, none⟩)]
  | .ref v, cs => ∃ b off cells t fz l, cs = [.pointer (some ⟨b, off, none⟩)] ∧ ι.prot b = some (.cells cells t fz) ∧ Rep ι v l ∧ At cells off l
  | .fsl c xs, cs => RepD ι (.slice c) xs cs
  | .osl o p s off len cap, cs => ∃ b z k, ι.blk[o]? = some (b, z) ∧ cs = [.slice (some ⟨b, pathOff p + off * s, none⟩) len k] ∧ len ≤ k ∧ pathOff p + (off + k) * s ≤ z ∧ (∀ k', cap = some k' → k = k') 
  | .fn f caps, cs => caps.all (fun v => !aggB v) = true ∧ ∃ l, cs = [.func (.func f) #[] l.toArray] ∧ RepL ι (List.replicate caps.length 1) caps l
  | .bnd f fs, cs => fs.all (fun v => !aggB v) = true ∧ ∃ l, cs = [.func (.func f) l.toArray #[]] ∧ RepL ι (List.replicate fs.length 1) fs l
  | .yld l, cs => ∃ b z, ι.blk[l]? = some (b, z) ∧ cs = [.func (.yield b) #[] #[]]
  | .mp o, cs => ∃ b z, ι.blk[o]? = some (b, z) ∧ cs = [.map (some b)]
  | .row o s n, cs => ∃ b z v, ι.blk[o]? = some (b, z) ∧ cs = [v] ∧ ((n = 0 ∧ v = .slice none 0 0) ∨ (0 < n ∧ ∃ k, v = .slice (some ⟨b, 0, none⟩) n k ∧ n ≤ k ∧ k * s ≤ z))
def RepL (ι : Inst) : List Nat → List AV → List Value → Prop
  | ss, [], cs => ss = [] ∧ cs = []
  | ss, v :: vs, cs => ∃ s ss' l m, ss = s :: ss' ∧ cs = l ++ m ∧ l.length = s ∧ Rep ι v l ∧ RepL ι ss' vs m
end
end Go.Eng
end
section
/- Laws on reading: it lasts, its lengths, parts and stores by a path. -/
namespace Go.Eng
open Go.RowKit

structure Sub (ι ι' : Inst) : Prop where
  prot : ∀ b o, ι.prot b = some o → ι'.prot b = some o
  blk : ∀ (i : Nat) x, ι.blk[i]? = some x → ι'.blk[i]? = some x

structure Ext (ι ι' : Inst) : Prop where
  w0 : ι'.w0 = ι.w0
  prot : ∀ b o, ι.prot b = some o → ι'.prot b = some o
  blk : ∀ (i : Nat) x, ι.blk[i]? = some x → ι'.blk[i]? = some x
  old : ∀ b, b < ι.w0.heap.size → ι'.prot b = ι.prot b

theorem Ext.sub {ι ι' : Inst} (h : Ext ι ι') : Sub ι ι' := ⟨h.prot, h.blk⟩

theorem Ext.refl (ι : Inst) : Ext ι ι := ⟨rfl, fun _ _ h => h, fun _ _ h => h, fun _ _ => rfl⟩
theorem Ext.trans {a b c : Inst} (h : Ext a b) (k : Ext b c) : Ext a c :=
  ⟨k.w0.trans h.w0, fun x o e => k.prot x o (h.prot x o e), fun i x e => k.blk i x (h.blk i x e), fun x hx => (k.old x (by rw [h.w0]; exact hx)).trans (h.old x hx)⟩

theorem RepAll.mono {α : Type} {R R' : α → List Value → Prop} (h : ∀ x l, R x l → R' x l) {xs : List α} {l : List Value} (k : RepAll R xs l) : RepAll R' xs l := by
  induction k with
  | nil => exact .nil
  | cons h1 _ ih => exact .cons (h _ _ h1) ih

theorem RepAll.app {α : Type} {R : α → List Value → Prop} {xs ys : List α} {l m : List Value} (h : RepAll R xs l) (k : RepAll R ys m) : RepAll R (xs ++ ys) (l ++ m) := by
  induction h with
  | nil => exact k
  | cons h1 _ ih => rw [List.cons_append, List.append_assoc]; exact .cons h1 ih

theorem RepAll.len {α : Type} {R : α → List Value → Prop} {s : Nat} (hs : ∀ x l, R x l → l.length = s) {xs : List α} {l : List Value} (h : RepAll R xs l) : l.length = xs.length * s := by
  induction h with
  | nil => simp
  | cons h1 _ ih => simp [hs _ _ h1, ih, Nat.add_mul, Nat.add_comm]

theorem RepAll.split {α : Type} {R : α → List Value → Prop} {s : Nat} (hs : ∀ x l, R x l → l.length = s) {xs : List α} {l : List Value} (h : RepAll R xs l) :
    ∀ i, i ≤ xs.length → ∃ l1 l2, l = l1 ++ l2 ∧ l1.length = i * s ∧ RepAll R (xs.take i) l1 ∧ RepAll R (xs.drop i) l2 := by
  induction h with
  | nil => intro i hi; exact ⟨[], [], rfl, by simp at hi; simp [hi], by simpa using .nil, by simpa using .nil⟩
  | cons h1 t ih =>
    intro i hi
    cases i with
    | zero => exact ⟨[], _, rfl, by simp, by simpa using .nil, by simpa using .cons h1 t⟩
    | succ i =>
      obtain ⟨l1, l2, e, e1, r1, r2⟩ := ih i (by simpa using hi)
      exact ⟨_ ++ l1, l2, by rw [e, List.append_assoc], by simp [hs _ _ h1, e1, Nat.add_mul, Nat.add_comm], by simpa using .cons h1 r1, by simpa using r2⟩

theorem RepAll.at {α : Type} {R : α → List Value → Prop} {s : Nat} (hs : ∀ x l, R x l → l.length = s) {xs : List α} {l : List Value} (h : RepAll R xs l) (i : Nat) (x : α) (hx : xs[i]? = some x) :
    ∃ l1 m l2, l = l1 ++ m ++ l2 ∧ l1.length = i * s ∧ R x m ∧ ∀ y m', R y m' → RepAll R (xs.set i y) (l1 ++ m' ++ l2) := by
  have hi := (List.getElem?_eq_some_iff.1 hx).1
  obtain ⟨l1, l2, e, e1, r1, r2⟩ := h.split hs i (by omega)
  have hd : xs.drop i = x :: xs.drop (i + 1) := by
    rw [List.drop_eq_getElem_cons hi]; rw [(List.getElem?_eq_some_iff.1 hx).2]
  rw [hd] at r2
  cases r2 with
  | cons h1 t =>
    refine ⟨l1, _, _, by rw [e, List.append_assoc], e1, h1, fun y m' hy => ?_⟩
    rw [List.set_eq_take_append_cons_drop, if_pos hi, List.append_assoc]
    exact r1.app (.cons hy t)

theorem RepD_mono' {ι ι' : Inst} (h : Sub ι ι') : ∀ (c : TC) (x : c.den) (cs : List Value), RepD ι c x cs → RepD ι' c x cs
  | .int _, _, _, k => k
  | .bool, _, _, k => k
  | .str, _, _, k => k
  | .unit, _, _, k => k
  | .st a r, _, _, ⟨l, m, e, k1, k2⟩ => ⟨l, m, e, RepD_mono' h a _ _ k1, RepD_mono' h r _ _ k2⟩
  | .st1 a, _, _, k => RepD_mono' h a _ _ k
  | .slice _, _, _, ⟨v, e, .inl k⟩ => ⟨v, e, .inl k⟩
  | .slice c, _, _, ⟨v, e, .inr ⟨b, off, kk, cells, t, fz, l, e1, hk, hp, hr, ha⟩⟩ =>
    ⟨v, e, .inr ⟨b, off, kk, cells, t, fz, l, e1, hk, h.prot _ _ hp, hr.mono (fun x l => RepD_mono' h c x l), ha⟩⟩
  | .arr _ c, _, _, ⟨hn, hr⟩ => ⟨hn, hr.mono (fun x l => RepD_mono' h c x l)⟩
  | .ref c, _, _, ⟨b, off, cells, t, fz, l, e, hp, hr, ha⟩ => ⟨b, off, cells, t, fz, l, e, h.prot _ _ hp, RepD_mono' h c _ _ hr, ha⟩
  | .junk, _, _, k => k

theorem RepD_len {ι : Inst} : ∀ (c : TC) (x : c.den) (cs : List Value), RepD ι c x cs → cs.length = c.size
  | .int _, _, _, k => by rw [show _ = _ from k]; rfl
  | .bool, _, _, k => by rw [show _ = _ from k]; rfl
  | .str, _, _, k => by rw [show _ = _ from k]; rfl
  | .unit, _, _, k => by rw [show _ = _ from k]; rfl
  | .st a r, _, _, ⟨l, m, e, k1, k2⟩ => by rw [e, List.length_append, RepD_len a _ _ k1, RepD_len r _ _ k2]; rfl
  | .st1 a, _, _, k => RepD_len a _ _ k
  | .slice _, _, _, ⟨v, e, _⟩ => by rw [e]; rfl
  | .arr n c, _, _, ⟨hn, hr⟩ => by rw [hr.len (RepD_len c), hn]; rfl
  | .ref _, _, _, ⟨b, off, cells, t, fz, l, e, _⟩ => by rw [e]; rfl
  | .junk, _, _, ⟨v, e, _⟩ => by rw [e]; rfl

mutual
theorem Rep_mono' {ι ι' : Inst} (h : Sub ι ι') : ∀ (v : AV) (cs : List Value), Rep ι v cs → Rep ι' v cs
  | .int _ _, _, k => by rw [Rep] at *; exact k
  | .bool _, _, k => by rw [Rep] at *; exact k
  | .str _, _, k => by rw [Rep] at *; exact k
  | .raw _, _, k => by rw [Rep] at *; exact k
  | .agg _ vs, _, k => by rw [Rep] at *; exact RepL_mono' h _ vs _ k
  | .arr _ _ _, _, k => by rw [Rep] at *; exact RepD_mono' h _ _ _ k
  | .tup _, _, k => by rw [Rep] at *; exact k
  | .any, _, k => by rw [Rep] at *; exact k
  | .junk, _, k => by rw [Rep] at *; exact k
  | .ptr _ _, _, k => by rw [Rep] at *; obtain ⟨b, z, e, k⟩ := k; exact ⟨b, z, h.blk _ _ e, k⟩
  | .ref v, _, k => by
    rw [Rep] at *; obtain ⟨b, off, cells, t, fz, l, e, hp, hr, ha⟩ := k; exact ⟨b, off, cells, t, fz, l, e, h.prot _ _ hp, Rep_mono' h v _ hr, ha⟩
  | .fsl _ _, _, k => by rw [Rep] at *; exact RepD_mono' h _ _ _ k
  | .osl _ _ _ _ _ _, _, k => by rw [Rep] at *; obtain ⟨b, z, kk, e, k⟩ := k; exact ⟨b, z, kk, h.blk _ _ e, k⟩
  | .fn _ caps, _, k => by rw [Rep] at *; obtain ⟨hc, l, e, k⟩ := k; exact ⟨hc, l, e, RepL_mono' h _ caps _ k⟩
  | .bnd _ caps, _, k => by rw [Rep] at *; obtain ⟨hc, l, e, k⟩ := k; exact ⟨hc, l, e, RepL_mono' h _ caps _ k⟩
  | .yld _, _, k => by rw [Rep] at *; obtain ⟨b, z, e, k⟩ := k; exact ⟨b, z, h.blk _ _ e, k⟩
  | .mp _, _, k => by rw [Rep] at *; obtain ⟨b, z, e, k⟩ := k; exact ⟨b, z, h.blk _ _ e, k⟩
  | .row _ _ _, _, k => by rw [Rep] at *; obtain ⟨b, z, v, e, k⟩ := k; exact ⟨b, z, v, h.blk _ _ e, k⟩
theorem RepL_mono' {ι ι' : Inst} (h : Sub ι ι') : ∀ (ss : List Nat) (vs : List AV) (cs : List Value), RepL ι ss vs cs → RepL ι' ss vs cs
  | _, [], _, k => by rw [RepL] at *; exact k
  | _, v :: vs, _, k => by
    rw [RepL] at *; obtain ⟨s, ss', l, m, e1, e2, e3, k1, k2⟩ := k
    exact ⟨s, ss', l, m, e1, e2, e3, Rep_mono' h v _ k1, RepL_mono' h ss' vs _ k2⟩
end

theorem Rep_mono {ι ι' : Inst} (h : Ext ι ι') : ∀ (v : AV) (cs : List Value), Rep ι v cs → Rep ι' v cs := Rep_mono' h.sub

def szV : AV → Nat
  | .agg ss _ => ss.sum
  | .arr n c _ => n * c.size
  | .tup _ => 0
  | .any => 0
  | _ => 1

theorem RepL_len {ι : Inst} : ∀ (vs : List AV) (ss : List Nat) (cs : List Value), RepL ι ss vs cs → cs.length = ss.sum
  | [], _, _, k => by rw [RepL] at k; rw [k.1, k.2]; rfl
  | v :: vs, _, _, k => by
    rw [RepL] at k; obtain ⟨s, ss', l, m, e1, e2, e3, k1, k2⟩ := k
    rw [e1, e2, List.length_append, e3, RepL_len vs _ _ k2]; simp

theorem Rep_len {ι : Inst} : ∀ (v : AV) (cs : List Value), Rep ι v cs → cs.length = szV v
  | .int _ _, _, k => by rw [Rep] at k; rw [k]; rfl
  | .bool _, _, k => by rw [Rep] at k; rw [k]; rfl
  | .str _, _, k => by rw [Rep] at k; rw [k]; rfl
  | .raw _, _, k => by rw [Rep] at k; rw [k.1]; rfl
  | .agg _ vs, _, k => by rw [Rep] at k; exact RepL_len vs _ _ k
  | .arr n c _, _, k => by rw [Rep] at k; exact RepD_len (.arr n c) _ _ k
  | .tup _, _, k => by rw [Rep] at k; exact k.elim
  | .any, _, k => by rw [Rep] at k; exact k.elim
  | .junk, _, k => by rw [Rep] at k; obtain ⟨v, e, _⟩ := k; rw [e]; rfl
  | .ptr _ _, _, k => by rw [Rep] at k; obtain ⟨b, z, e, k⟩ := k; rw [k]; rfl
  | .ref v, _, k => by rw [Rep] at k; obtain ⟨b, off, cells, t, fz, l, e, _⟩ := k; rw [e]; rfl
  | .fsl _ _, _, k => by rw [Rep] at k; obtain ⟨v, e, _⟩ := k; rw [e]; rfl
  | .osl _ _ _ _ _ _, _, k => by rw [Rep] at k; obtain ⟨b, z, kk, e, k, _⟩ := k; rw [k]; rfl
  | .fn _ caps, _, k => by rw [Rep] at k; obtain ⟨_, l, e, k⟩ := k; rw [e]; rfl
  | .bnd _ caps, _, k => by rw [Rep] at k; obtain ⟨_, l, e, k⟩ := k; rw [e]; rfl
  | .yld _, _, k => by rw [Rep] at k; obtain ⟨b, z, e, k⟩ := k; rw [k]; rfl
  | .mp _, _, k => by rw [Rep] at k; obtain ⟨b, z, e, k⟩ := k; rw [k]; rfl
  | .row _ _ _, _, k => by rw [Rep] at k; obtain ⟨b, z, v, e, k, _⟩ := k; rw [k]; rfl

/-! ### Plain data as abstract values, and back -/
theorem RepL_one {ι : Inst} (s : Nat) (v : AV) (cs : List Value) : RepL ι [s] [v] cs ↔ cs.length = s ∧ Rep ι v cs := by
  simp only [RepL]
  constructor
  · rintro ⟨s', ss', l, m, e1, e2, e3, k1, rfl, rfl⟩
    cases e1; subst e2; simp; exact ⟨e3, k1⟩
  · rintro ⟨h, k⟩; exact ⟨s, [], cs, [], rfl, by simp, h, k, rfl, rfl⟩

theorem both_ok {ι : Inst} : ∀ (c : TC) (x : c.den) (cs : List Value), (Rep ι (c.both x).1 cs ↔ RepD ι c x cs) ∧ (RepL ι c.szs (c.both x).2 cs ↔ RepD ι c x cs)
  | .int k, _, cs => by
    have h : ∀ v, Rep ι (.int k v) cs ↔ RepD ι (.int k) v cs := fun v => by rw [Rep, RepD]
    exact ⟨h _, by simp only [TC.both, TC.szs, RepL_one]; rw [h]; exact ⟨fun k => k.2, fun k => ⟨RepD_len _ _ _ k, k⟩⟩⟩
  | .bool, _, cs => by
    have h : ∀ v, Rep ι (.bool v) cs ↔ RepD ι .bool v cs := fun v => by rw [Rep, RepD]
    exact ⟨h _, by simp only [TC.both, TC.szs, RepL_one]; rw [h]; exact ⟨fun k => k.2, fun k => ⟨RepD_len _ _ _ k, k⟩⟩⟩
  | .str, _, cs => by
    have h : ∀ v, Rep ι (.str v) cs ↔ RepD ι .str v cs := fun v => by rw [Rep, RepD]
    exact ⟨h _, by simp only [TC.both, TC.szs, RepL_one]; rw [h]; exact ⟨fun k => k.2, fun k => ⟨RepD_len _ _ _ k, k⟩⟩⟩
  | .unit, _, cs => by
    have h : Rep ι (.agg [] []) cs ↔ RepD ι .unit () cs := by rw [Rep, RepD, RepL]; simp
    exact ⟨h, by simp only [TC.both, TC.szs, RepL_one]; rw [h]; exact ⟨fun k => k.2, fun k => ⟨RepD_len _ _ _ k, k⟩⟩⟩
  | .st a r, x, cs => by
    have key : RepL ι (TC.st a r).szs ((TC.st a r).both x).2 cs ↔ RepD ι (.st a r) x cs := by
      simp only [TC.both, RepL, TC.szs, RepD]
      constructor
      · rintro ⟨s, ss', l, m, e1, e2, e3, k1, k2⟩
        cases e1
        exact ⟨l, m, e2, ((both_ok a x.1 l).1).1 k1, ((both_ok r x.2 m).2).1 k2⟩
      · rintro ⟨l, m, e, k1, k2⟩
        exact ⟨_, _, l, m, rfl, e, RepD_len _ _ _ k1, ((both_ok a x.1 l).1).2 k1, ((both_ok r x.2 m).2).2 k2⟩
    refine ⟨?_, key⟩
    rw [← key]; simp only [TC.both]; rw [Rep]
  | .st1 a, x, cs => by
    have key : RepL ι (TC.st1 a).szs ((TC.st1 a).both x).2 cs ↔ RepD ι (.st1 a) x cs := by
      simp only [TC.both, TC.szs, RepL_one, RepD, (both_ok a x cs).1]
      exact ⟨fun k => k.2, fun k => ⟨RepD_len _ _ _ k, k⟩⟩
    refine ⟨?_, key⟩
    rw [← key]; simp only [TC.both]; rw [Rep]; rfl
  | .slice c, xs, cs => by
    have h : Rep ι (.fsl c xs) cs ↔ RepD ι (.slice c) xs cs := by rw [Rep]
    exact ⟨h, by simp only [TC.both, TC.szs, RepL_one]; rw [h]; exact ⟨fun k => k.2, fun k => ⟨RepD_len (.slice c) _ _ k, k⟩⟩⟩
  | .arr n c, xs, cs => by
    have h : Rep ι (.arr n c xs) cs ↔ RepD ι (.arr n c) xs cs := by rw [Rep]
    exact ⟨h, by simp only [TC.both, TC.szs, RepL_one]; rw [h]; exact ⟨fun k => k.2, fun k => ⟨RepD_len (.arr n c) _ _ k, k⟩⟩⟩
  | .ref c, x, cs => by
    have h : Rep ι (.ref (c.both x).1) cs ↔ RepD ι (.ref c) x cs := by
      rw [Rep]; simp only [RepD]
      constructor
      · rintro ⟨b, off, cells, t, fz, l, e, hp, hr, ha⟩; exact ⟨b, off, cells, t, fz, l, e, hp, ((both_ok c x l).1).1 hr, ha⟩
      · rintro ⟨b, off, cells, t, fz, l, e, hp, hr, ha⟩; exact ⟨b, off, cells, t, fz, l, e, hp, ((both_ok c x l).1).2 hr, ha⟩
    exact ⟨h, by simp only [TC.both, TC.szs, RepL_one]; rw [h]; exact ⟨fun k => k.2, fun k => ⟨RepD_len (.ref c) _ _ k, k⟩⟩⟩
  | .junk, _, cs => by
    have h : Rep ι .junk cs ↔ RepD ι .junk () cs := by rw [Rep, RepD]
    exact ⟨h, by simp only [TC.both, TC.szs, RepL_one]; rw [h]; exact ⟨fun k => k.2, fun k => ⟨RepD_len .junk () _ k, k⟩⟩⟩

theorem Rep_oneB {ι : Inst} {v : AV} {cs : List Value} (h : oneB v = true) (k : Rep ι v cs) : ∃ c, cs = [c] ∧ c.oneCell' = true := by
  cases v <;> first | (simp [oneB] at h; done) | skip
  all_goals rw [Rep] at k
  case int => exact ⟨_, k, by simp [Value.oneCell']⟩
  case bool => exact ⟨_, k, by simp [Value.oneCell']⟩
  case str => exact ⟨_, k, by simp [Value.oneCell']⟩
  case raw => exact ⟨_, k⟩
  case ptr => obtain ⟨b, z, _, k⟩ := k; exact ⟨_, k, by simp [Value.oneCell']⟩
  case ref => obtain ⟨b, off, cells, t, fz, l, e, _⟩ := k; exact ⟨_, e, by simp [Value.oneCell']⟩
  case fsl =>
    obtain ⟨v, e, k⟩ := k
    refine ⟨v, e, ?_⟩
    rcases k with ⟨_, rfl | ⟨a, rfl⟩⟩ | ⟨b, off, kk, cells, t, fz, l, rfl, _⟩ <;> simp [Value.oneCell']
  case osl => obtain ⟨b, z, kk, _, k, _⟩ := k; exact ⟨_, k, by simp [Value.oneCell']⟩
  case fn => obtain ⟨_, l, k, _⟩ := k; exact ⟨_, k, by simp [Value.oneCell']⟩
  case bnd => obtain ⟨_, l, k, _⟩ := k; exact ⟨_, k, by simp [Value.oneCell']⟩
  case yld => obtain ⟨b, z, _, k⟩ := k; exact ⟨_, k, by simp [Value.oneCell']⟩
  case mp => obtain ⟨b, z, _, k⟩ := k; exact ⟨_, k, by simp [Value.oneCell']⟩
  case row =>
    obtain ⟨b, z, v, _, k, h⟩ := k
    refine ⟨v, k, ?_⟩
    rcases h with ⟨_, rfl⟩ | ⟨_, k, rfl, _⟩ <;> simp [Value.oneCell']
  case junk => exact k

theorem Rep_ofD {ι : Inst} {c : TC} {x : c.den} {cs : List Value} : Rep ι (ofD c x) cs ↔ RepD ι c x cs := (both_ok c x cs).1

theorem oneOf_some {α : Type} {f : AV → Option α} {l : List AV} {x : α} (h : oneOf f l = some x) : ∃ v, l = [v] ∧ f v = some x := by
  match l, h with
  | [v], h => exact ⟨v, rfl, h⟩

theorem back_ok {ι : Inst} : ∀ (c : TC), (∀ v x cs, c.back.1 v = some x → Rep ι v cs → RepD ι c x cs) ∧ (∀ vs x cs, c.back.2 vs = some x → RepL ι c.szs vs cs → RepD ι c x cs) := by
  have lone_ok : ∀ (c : TC) (s : Nat) (f : AV → Option c.den), (∀ v x cs, f v = some x → Rep ι v cs → RepD ι c x cs) → ∀ vs x cs, oneOf f vs = some x → RepL ι [s] vs cs → RepD ι c x cs := by
    intro c s f hf vs x cs h k
    obtain ⟨v, rfl, hv⟩ := oneOf_some h
    rw [RepL_one] at k
    exact hf _ _ _ hv k.2
  intro c
  induction c with
  | int k =>
    have h1 : ∀ v x cs, (TC.int k).back.1 v = some x → Rep ι v cs → RepD ι (.int k) x cs := by
      intro v x cs h r
      cases v <;> simp [TC.back] at h
      obtain ⟨h1, h2⟩ := h; subst h1; subst h2; rw [Rep] at r; exact r
    exact ⟨h1, lone_ok _ _ _ h1⟩
  | bool =>
    have h1 : ∀ v x cs, (TC.bool).back.1 v = some x → Rep ι v cs → RepD ι .bool x cs := by
      intro v x cs h r
      cases v <;> simp [TC.back] at h
      subst h; rw [Rep] at r; exact r
    exact ⟨h1, lone_ok _ _ _ h1⟩
  | str =>
    have h1 : ∀ v x cs, (TC.str).back.1 v = some x → Rep ι v cs → RepD ι .str x cs := by
      intro v x cs h r
      cases v <;> simp [TC.back] at h
      subst h; rw [Rep] at r; exact r
    exact ⟨h1, lone_ok _ _ _ h1⟩
  | unit =>
    have h1 : ∀ v x cs, (TC.unit).back.1 v = some x → Rep ι v cs → RepD ι .unit x cs := by
      intro v x cs h r
      simp only [TC.back] at h
      split at h
      · rw [Rep, RepL] at r; exact r.2
      · cases h
    exact ⟨h1, lone_ok _ _ _ h1⟩
  | st a r iha ihr =>
    have h2 : ∀ vs x cs, (TC.st a r).back.2 vs = some x → RepL ι (TC.st a r).szs vs cs → RepD ι (.st a r) x cs := by
      intro vs x cs h k
      simp only [TC.back] at h
      split at h
      · rename_i v l
        split at h
        · rename_i y hy
          split at h
          · rename_i z hz
            simp only [Option.some.injEq] at h; subst h
            rw [RepL] at k
            obtain ⟨s, ss', l', m, e1, e2, e3, k1, k2⟩ := k
            simp only [TC.szs, List.cons.injEq] at e1
            obtain ⟨e1, e1'⟩ := e1; subst e1; subst e1'
            exact ⟨l', m, e2, iha.1 _ _ _ hy k1, ihr.2 _ _ _ hz k2⟩
          · cases h
        · cases h
      · cases h
    refine ⟨fun v x cs h k => ?_, h2⟩
    simp only [TC.back] at h
    split at h
    · split at h
      · rename_i e
        rw [Rep, e] at k
        exact h2 _ _ _ (by simpa only [TC.back] using h) k
      · cases h
    · cases h
  | st1 a iha =>
    have h2 : ∀ vs x cs, (TC.st1 a).back.2 vs = some x → RepL ι (TC.st1 a).szs vs cs → RepD ι (.st1 a) x cs := fun vs x cs h k => lone_ok a _ _ iha.1 vs x cs h k
    refine ⟨fun v x cs h k => ?_, h2⟩
    simp only [TC.back] at h
    split at h
    · split at h
      · rename_i e
        rw [Rep, e] at k
        exact h2 _ _ _ h k
      · cases h
    · cases h
  | slice c _ =>
    have h1 : ∀ v x cs, (TC.slice c).back.1 v = some x → Rep ι v cs → RepD ι (.slice c) x cs := by
      intro v x cs h r
      simp only [TC.back] at h
      split at h
      · split at h
        · rename_i e; subst e
          simp only [Option.some.injEq] at h; subst h
          rw [Rep] at r; exact r
        · cases h
      · simp only [Option.some.injEq] at h; subst h
        rw [Rep] at r
        exact ⟨_, r.1, .inl ⟨rfl, .inl rfl⟩⟩
      · cases h
    exact ⟨h1, lone_ok _ _ _ h1⟩
  | arr n c _ =>
    have h1 : ∀ v x cs, (TC.arr n c).back.1 v = some x → Rep ι v cs → RepD ι (.arr n c) x cs := by
      intro v x cs h r
      simp only [TC.back] at h
      split at h
      · split at h
        · rename_i e; subst e
          split at h
          · rename_i e; subst e
            simp only [Option.some.injEq] at h; subst h
            rw [Rep] at r; exact r
          · cases h
        · cases h
      · cases h
    exact ⟨h1, lone_ok _ _ _ h1⟩
  | ref c ih =>
    have h1 : ∀ v x cs, (TC.ref c).back.1 v = some x → Rep ι v cs → RepD ι (.ref c) x cs := by
      intro v x cs h r
      simp only [TC.back] at h
      split at h
      · rw [Rep] at r
        obtain ⟨b, off, cells, t, fz, l, e, hp, hr, ha⟩ := r
        exact ⟨b, off, cells, t, fz, l, e, hp, ih.1 _ _ _ h hr, ha⟩
      · cases h
    exact ⟨h1, lone_ok _ _ _ h1⟩
  | junk =>
    have h1 : ∀ v x cs, (TC.junk).back.1 v = some x → Rep ι v cs → RepD ι .junk x cs := by
      intro v x cs h r
      simp only [TC.back] at h
      split at h
      · rename_i hv; exact Rep_oneB hv r
      · cases h
    exact ⟨h1, lone_ok _ _ _ h1⟩

theorem Rep_toD {ι : Inst} {c : TC} {v : AV} {x : c.den} {cs : List Value} (h : toD c v = some x) (k : Rep ι v cs) : RepD ι c x cs := (back_ok c).1 v x cs h k
end Go.Eng
end
section
/- Parts of values by a path; the abstract heap. -/
namespace Go.Eng
open Go.RowKit

/-- What must hold, one behind the other. -/
def holds : List Prop → Prop
  | [] => True
  | q :: qs => q ∧ holds qs

def obl : List Prop → Prop → Prop
  | [], p => p
  | q :: qs, p => q ∧ obl qs p

theorem obl_ok : ∀ {qs : List Prop} {p : Prop}, obl qs p → holds qs ∧ p
  | [], _, h => ⟨trivial, h⟩
  | _ :: _, _, h => ⟨⟨h.1, (obl_ok h.2).1⟩, (obl_ok h.2).2⟩

theorem holds_app : ∀ {qs ps : List Prop}, holds (qs ++ ps) ↔ holds qs ∧ holds ps
  | [], ps => by simp [holds]
  | q :: qs, ps => by simp [holds, holds_app (qs := qs), and_assoc]

/-- The part at a path, with what must hold for it to be there. -/
def getP : AV → List Step → Option (List Prop × AV)
  | v, [] => some ([], v)
  | v, s :: p => match v, s with
    | .agg ss vs, .fld off i => if off = (ss.take i).sum then (match vs[i]? with | some u => getP u p | none => none) else none
    | .agg ss vs, .idx s i => if i * s = (ss.take i).sum then (match vs[i]? with | some u => getP u p | none => none) else none
    | .arr n c xs, .idx s i => if s = c.size then (match getP (ofD c (rdc c xs i)) p with | some (q, u) => some ((i < n) :: q, u) | none => none) else none
    | _, _ => none

/-- The value with another part at a path. -/
def setP : AV → List Step → AV → Option AV
  | _, [], u => some u
  | v, s :: p, u => match v, s with
    | .agg ss vs, .fld _ i => (match vs[i]? with | some x => (match setP x p u with | some y => some (.agg ss (vs.set i y)) | none => none) | none => none)
    | .agg ss vs, .idx _ i => (match vs[i]? with | some x => (match setP x p u with | some y => some (.agg ss (vs.set i y)) | none => none) | none => none)
    | .arr n c xs, .idx _ i => (match setP (ofD c (rdc c xs i)) p u with | some y => (match toD c y with | some x => some (.arr n c (xs.set i x)) | none => none) | none => none)
    | _, _ => none

theorem RepL_at {ι : Inst} : ∀ (vs : List AV) (ss : List Nat) (cs : List Value) (i : Nat) (u : AV), RepL ι ss vs cs → vs[i]? = some u →
    ∃ l1 m l2, cs = l1 ++ m ++ l2 ∧ l1.length = (ss.take i).sum ∧ Rep ι u m ∧ ∀ y m', Rep ι y m' → m'.length = m.length → RepL ι ss (vs.set i y) (l1 ++ m' ++ l2)
  | [], _, _, _, _, _, h => by simp at h
  | v :: vs, ss, cs, i, u, k, h => by
    rw [RepL] at k
    obtain ⟨s, ss', l, m, rfl, rfl, e3, k1, k2⟩ := k
    cases i with
    | zero =>
      simp only [List.getElem?_cons_zero, Option.some.injEq] at h; subst h
      refine ⟨[], l, m, rfl, rfl, k1, fun y m' hy hl => ?_⟩
      rw [List.set_cons_zero, RepL]
      exact ⟨s, ss', m', m, rfl, rfl, hl.trans e3, hy, k2⟩
    | succ i =>
      simp only [List.getElem?_cons_succ] at h
      obtain ⟨l1, m1, l2, e, e1, hu, hs⟩ := RepL_at vs ss' m i u k2 h
      refine ⟨l ++ l1, m1, l2, by rw [e]; simp [List.append_assoc], by simp [e3, e1], hu, fun y m' hy hl => ?_⟩
      rw [List.set_cons_succ, RepL]
      exact ⟨s, ss', l, l1 ++ m' ++ l2, rfl, by simp [List.append_assoc], e3, k1, hs y m' hy hl⟩

theorem rdc_some {c : TC} {xs : List c.den} {i : Nat} (h : i < xs.length) : xs[i]? = some (rdc c xs i) := by
  simp [rdc, h]

theorem getP_ok {ι : Inst} : ∀ (p : List Step) (v : AV) (l : List Value) (q : List Prop) (u : AV), getP v p = some (q, u) → holds q → Rep ι v l →
    ∃ l1 m l2, l = l1 ++ m ++ l2 ∧ l1.length = pathOff p ∧ Rep ι u m ∧ ∀ y m' v', setP v p y = some v' → Rep ι y m' → m'.length = m.length → Rep ι v' (l1 ++ m' ++ l2)
  | [], v, l, q, u, h, hq, r => by
    simp only [getP, Option.some.injEq, Prod.mk.injEq] at h
    obtain ⟨rfl, rfl⟩ := h
    refine ⟨[], l, [], by simp, rfl, r, fun y m' v' hv hy _ => ?_⟩
    simp only [setP, Option.some.injEq] at hv; subst hv
    simpa using hy
  | s :: p, v, l, q, u, h, hq, r => by
    simp only [getP] at h
    split at h
    · rename_i ss vs off i
      split at h
      · rename_i hoff
        split at h
        · rename_i x hx
          rw [Rep] at r
          obtain ⟨l1, m, l2, e, e1, hu, hs⟩ := RepL_at vs ss l i x r hx
          obtain ⟨k1, m1, k2, e', e1', hu', hs'⟩ := getP_ok p x m q u h hq hu
          refine ⟨l1 ++ k1, m1, k2 ++ l2, by rw [e, e']; simp [List.append_assoc], by simp [e1, e1', pathOff, Step.off, hoff], hu', fun y m' v' hv hy hl => ?_⟩
          simp only [setP, hx] at hv
          split at hv
          · rename_i z hz
            simp only [Option.some.injEq] at hv; subst hv
            rw [Rep]
            have := hs z (k1 ++ m' ++ k2) (hs' y m' z hz hy hl) (by rw [e']; simp [hl])
            simpa [List.append_assoc] using this
          · cases hv
        · cases h
      · cases h
    · rename_i ss vs sz i
      split at h
      · rename_i hoff
        split at h
        · rename_i x hx
          rw [Rep] at r
          obtain ⟨l1, m, l2, e, e1, hu, hs⟩ := RepL_at vs ss l i x r hx
          obtain ⟨k1, m1, k2, e', e1', hu', hs'⟩ := getP_ok p x m q u h hq hu
          refine ⟨l1 ++ k1, m1, k2 ++ l2, by rw [e, e']; simp [List.append_assoc], by simp [e1, e1', pathOff, Step.off, hoff], hu', fun y m' v' hv hy hl => ?_⟩
          simp only [setP, hx] at hv
          split at hv
          · rename_i z hz
            simp only [Option.some.injEq] at hv; subst hv
            rw [Rep]
            have := hs z (k1 ++ m' ++ k2) (hs' y m' z hz hy hl) (by rw [e']; simp [hl])
            simpa [List.append_assoc] using this
          · cases hv
        · cases h
      · cases h
    · rename_i n c xs s i
      split at h
      · rename_i hsz
        split at h
        · rename_i q' u' hg
          simp only [Option.some.injEq, Prod.mk.injEq] at h
          obtain ⟨rfl, rfl⟩ := h
          obtain ⟨hi, hq'⟩ := hq
          rw [Rep] at r
          obtain ⟨hn, r⟩ := r
          obtain ⟨l1, m, l2, e, e1, hu, hs⟩ := r.at (RepD_len c) i _ (rdc_some (by omega))
          obtain ⟨k1, m1, k2, e', e1', hu', hs'⟩ := getP_ok p _ m q' u' hg hq' (Rep_ofD.2 hu)
          refine ⟨l1 ++ k1, m1, k2 ++ l2, by rw [e, e']; simp [List.append_assoc], by simp [e1, e1', pathOff, Step.off, hsz], hu', fun y m' v' hv hy hl => ?_⟩
          simp only [setP] at hv
          split at hv
          · rename_i z hz
            split at hv
            · rename_i x hx
              simp only [Option.some.injEq] at hv; subst hv
              rw [Rep]
              refine ⟨by simpa using hn, ?_⟩
              have := hs x (k1 ++ m' ++ k2) (Rep_toD hx (hs' y m' z hz hy hl))
              simpa [List.append_assoc] using this
            · cases hv
          · cases hv
        · cases h
      · cases h
    · cases h

/-! ### Two lists, side by side -/
inductive All2 {α β : Type} (R : α → β → Prop) : List α → List β → Prop where
  | nil : All2 R [] []
  | cons {a : α} {b : β} {l : List α} {m : List β} (h : R a b) (t : All2 R l m) : All2 R (a :: l) (b :: m)

theorem All2.imp {α β : Type} {R S : α → β → Prop} (h : ∀ a b, R a b → S a b) {l : List α} {m : List β} (k : All2 R l m) : All2 S l m := by
  induction k with
  | nil => exact .nil
  | cons h1 _ ih => exact .cons (h _ _ h1) ih

theorem All2.len {α β : Type} {R : α → β → Prop} {l : List α} {m : List β} (k : All2 R l m) : l.length = m.length := by
  induction k with
  | nil => rfl
  | cons _ _ ih => simp [ih]

theorem All2.at {α β : Type} {R : α → β → Prop} {l : List α} {m : List β} (k : All2 R l m) : ∀ (i : Nat) (a : α), l[i]? = some a → ∃ b, m[i]? = some b ∧ R a b := by
  induction k with
  | nil => intro i a h; simp at h
  | cons h1 _ ih =>
    intro i a h
    cases i with
    | zero => simp at h; subst h; exact ⟨_, by simp, h1⟩
    | succ i => simp at h; obtain ⟨b, e, r⟩ := ih i a h; exact ⟨b, by simpa using e, r⟩

theorem All2.set {α β : Type} {R : α → β → Prop} {l : List α} {m : List β} (k : All2 R l m) : ∀ (i : Nat) (a : α) (b : β), R a b → All2 R (l.set i a) (m.set i b) := by
  induction k with
  | nil => intro i a b _; simpa using .nil
  | cons h1 t ih =>
    intro i a b h
    cases i with
    | zero => exact .cons h t
    | succ i => exact .cons h1 (ih i a b h)

theorem All2.app {α β : Type} {R : α → β → Prop} {l l' : List α} {m m' : List β} (k : All2 R l m) (k' : All2 R l' m') : All2 R (l ++ l') (m ++ m') := by
  induction k with
  | nil => exact k'
  | cons h1 _ ih => exact .cons h1 ih

/-! ### The abstract heap -/
inductive AObj where
  | dead
  | cell (own : Bool) (t : TypeId) (v : AV)
  | map (es : List (AV × AV))
  | loop (s : LoopState) (pend : Option Code) (fn : FuncId) (T : List AV) (ps : List Nat) (asg body : Code) (dfr : Nat)
  | dfd
  | row (t : TypeId) (c : TC) (xs : List c.den)

instance : Inhabited AObj := ⟨.dead⟩

def AObj.owned : AObj → Bool
  | .dead => false
  | .cell own _ _ => own
  | .row _ _ xs => !xs.isEmpty
  | _ => true

/-- A value as it stands in a temporary. -/
def RepV0 (ι : Inst) (v : AV) (c : Value) : Prop := if aggB v then ∃ cs : List Value, Rep ι v cs ∧ c = .agg cs.toArray else Rep ι v [c]

def RepV (ι : Inst) : AV → Value → Prop
  | .tup vs, c => ∃ l : List Value, c = .tuple l.toArray ∧ All2 (RepV0 ι) vs l
  | .any, _ => True
  | v, c => RepV0 ι v c

def ObjRel (ι : Inst) (w : World) (b z : Nat) : AObj → Prop
  | .dead => True
  | .cell own t v => ∃ cells fz l r, w.heap[b]? = some (.cells cells t fz) ∧ cells.toList = l ++ r ∧ cells.size = z ∧ Rep ι v l ∧
      (if own then fz = (0, 0) else ι.prot b = some (.cells cells t fz))
  | .map es => ∃ ents clock, w.heap[b]? = some (.map ents clock) ∧ All2 (fun (e : AV × AV) (c : MapEntry) => RepV0 ι e.1 c.key ∧ RepV0 ι e.2 c.val) es ents.toList
  | .loop s pend _ T ps asg body dfr => ∃ tmps db dz fn, w.heap[b]? = some (.loop { state := s, pending := pend, fn, tmps, params := ps.toArray, assign := asg, body, defers := db }) ∧
      All2 (RepV ι) T tmps.toList ∧ ι.blk[dfr]? = some (db, dz)
  | .dfd => w.heap[b]? = some (.deferred (some []))
  | .row t c xs => xs = [] ∨ ∃ cells l r, w.heap[b]? = some (.cells cells t (0, 0)) ∧ cells.toList = l ++ r ∧ cells.size = z ∧ RepAll (RepD ι c) xs l

structure HRel (ι : Inst) (H : List AObj) (w : World) : Prop where
  len : H.length = ι.blk.length
  prot : ∀ b o, ι.prot b = some o → w.heap[b]? = some o
  obj : ∀ (i : Nat) (x : AObj) (b z : Nat), H[i]? = some x → ι.blk[i]? = some (b, z) → ObjRel ι w b z x
  own : ∀ (i : Nat) (x : AObj) (b z : Nat), H[i]? = some x → x.owned = true → ι.blk[i]? = some (b, z) → ι.prot b = none ∧ b < w.heap.size ∧ ι.w0.heap.size ≤ b
  sep : ∀ (i j : Nat) (x y : AObj) (b z z' : Nat), H[i]? = some x → x.owned = true → H[j]? = some y → y.owned = true → ι.blk[i]? = some (b, z) → ι.blk[j]? = some (b, z') → i = j
  base : Below ι.w0.heap.size ι.w0 w

theorem RepV0_mono' {ι ι' : Inst} (h : Sub ι ι') {v : AV} {c : Value} (k : RepV0 ι v c) : RepV0 ι' v c := by
  unfold RepV0 at *
  split
  · rename_i e; rw [if_pos e] at k; obtain ⟨cs, k, e⟩ := k; exact ⟨cs, Rep_mono' h _ _ k, e⟩
  · rename_i e; rw [if_neg e] at k; exact Rep_mono' h _ _ k

theorem RepV_mono' {ι ι' : Inst} (h : Sub ι ι') {v : AV} {c : Value} (k : RepV ι v c) : RepV ι' v c := by
  cases v
  case tup vs => obtain ⟨l, e, k⟩ := k; exact ⟨l, e, All2.imp (fun _ _ => RepV0_mono' h) k⟩
  case any => trivial
  all_goals exact RepV0_mono' h k

theorem RepV0_mono {ι ι' : Inst} (h : Ext ι ι') {v : AV} {c : Value} (k : RepV0 ι v c) : RepV0 ι' v c := RepV0_mono' h.sub k
theorem RepV_mono {ι ι' : Inst} (h : Ext ι ι') {v : AV} {c : Value} (k : RepV ι v c) : RepV ι' v c := RepV_mono' h.sub k

theorem ObjRel_mono {ι ι' : Inst} (h : Ext ι ι') {w w' : World} {b z : Nat} {x : AObj} (hb : x.owned = true → w'.heap[b]? = w.heap[b]?)
    (hp : ∀ b o, ι.prot b = some o → w'.heap[b]? = some o) (k : ObjRel ι w b z x) : ObjRel ι' w' b z x := by
  cases x with
  | dead => trivial
  | cell own t v =>
    obtain ⟨cells, fz, l, r, e1, e2, e3, e4, e5⟩ := k
    cases own with
    | true => exact ⟨cells, fz, l, r, (hb rfl).trans e1, e2, e3, Rep_mono h _ _ e4, e5⟩
    | false => exact ⟨cells, fz, l, r, hp _ _ e5, e2, e3, Rep_mono h _ _ e4, h.prot _ _ e5⟩
  | map es =>
    obtain ⟨ents, clock, e1, e2⟩ := k
    exact ⟨ents, clock, (hb rfl).trans e1, All2.imp (fun _ _ k => ⟨RepV0_mono h k.1, RepV0_mono h k.2⟩) e2⟩
  | loop s pend fn T ps asg body dfr =>
    obtain ⟨tmps, db, dz, fn', e1, e2, e3⟩ := k
    exact ⟨tmps, db, dz, fn', (hb rfl).trans e1, All2.imp (fun _ _ => RepV_mono h) e2, h.blk _ _ e3⟩
  | dfd => exact (hb rfl).trans k
  | row t c xs =>
    rcases k with k | ⟨cells, l, r, e1, e2, e3, e4⟩
    · exact .inl k
    · cases xs with
      | nil => exact .inl rfl
      | cons x xs => exact .inr ⟨cells, l, r, (hb rfl).trans e1, e2, e3, e4.mono fun x l => RepD_mono' h.sub c x l⟩
end Go.Eng
end
section
/- How the relation between the abstract heap and the world goes on. -/
namespace Go.Eng
open Go.RowKit

theorem HRel.size_prot {ι : Inst} {H : List AObj} {w : World} (h : HRel ι H w) {b : Nat} {o : Obj} (e : ι.prot b = some o) : b < w.heap.size :=
  (Array.getElem?_eq_some_iff.1 (h.prot _ _ e)).1

theorem HRel.blk_some {ι : Inst} {H : List AObj} {w : World} (h : HRel ι H w) {i : Nat} {x : AObj} (e : H[i]? = some x) : ∃ b z, ι.blk[i]? = some (b, z) := by
  have hi := (List.getElem?_eq_some_iff.1 e).1
  rw [h.len] at hi
  exact ⟨(ι.blk[i]).1, (ι.blk[i]).2, by simp [hi]⟩

def Inst.add (ι : Inst) (b z : Nat) : Inst := { ι with blk := ι.blk ++ [(b, z)] }

theorem Ext.add (ι : Inst) (b z : Nat) : Ext ι (ι.add b z) :=
  ⟨rfl, fun _ _ h => h, fun i x h => by
    have hi := (List.getElem?_eq_some_iff.1 h).1
    simp only [Inst.add, List.getElem?_append_left hi]; exact h, fun _ _ => rfl⟩

theorem Inst.add_at (ι : Inst) (b z : Nat) : (ι.add b z).blk[ι.blk.length]? = some (b, z) := by simp [Inst.add]

theorem heap_alloc_lt {w : World} {o : Obj} {k : Nat} (h : k < w.heap.size) : (w.alloc o).heap[k]? = w.heap[k]? := Below.heap_alloc w o k h
theorem heap_alloc_new {w : World} {o : Obj} : (w.alloc o).heap[w.heap.size]? = some o := World.alloc_heap_new w o

/-- A new block, owned. -/
theorem HRel.alloc {ι : Inst} {H : List AObj} {w : World} (h : HRel ι H w) (o : Obj) (z : Nat) (x : AObj)
    (hx : ObjRel (ι.add w.heap.size z) (w.alloc o) w.heap.size z x) : HRel (ι.add w.heap.size z) (H ++ [x]) (w.alloc o) := by
  have hE := Ext.add ι w.heap.size z
  have hnew : ι.prot w.heap.size = none := by
    cases hp : ι.prot w.heap.size with
    | none => rfl
    | some o => exact absurd (h.size_prot hp) (Nat.lt_irrefl _)
  have old : ∀ {i : Nat} {b z' : Nat} {y : AObj}, (H ++ [x])[i]? = some y → (ι.add w.heap.size z).blk[i]? = some (b, z') →
      (H[i]? = some y ∧ ι.blk[i]? = some (b, z')) ∨ (i = H.length ∧ y = x ∧ b = w.heap.size ∧ z' = z) := by
    intro i b z' y e1 e2
    rcases Nat.lt_or_ge i H.length with hi | hi
    · left
      rw [List.getElem?_append_left hi] at e1
      simp only [Inst.add] at e2
      rw [List.getElem?_append_left (h.len ▸ hi)] at e2
      exact ⟨e1, e2⟩
    · right
      have : i < (H ++ [x]).length := (List.getElem?_eq_some_iff.1 e1).1
      simp at this
      have hi' : i = H.length := by omega
      subst hi'
      simp at e1
      simp [Inst.add, h.len] at e2
      exact ⟨rfl, e1.symm, e2.1.symm, e2.2.symm⟩
  refine ⟨by simp [Inst.add, h.len], ?_, ?_, ?_, ?_, ?_⟩
  · intro b o' e
    have e' : ι.prot b = some o' := e
    rw [heap_alloc_lt (h.size_prot e')]; exact h.prot _ _ e'
  · intro i y b z' e1 e2
    rcases old e1 e2 with ⟨k1, k2⟩ | ⟨rfl, rfl, rfl, rfl⟩
    · exact ObjRel_mono hE (fun ho => heap_alloc_lt (h.own _ _ _ _ k1 ho k2).2.1) (fun b o e => by rw [heap_alloc_lt (h.size_prot e)]; exact h.prot _ _ e) (h.obj _ _ _ _ k1 k2)
    · exact hx
  · intro i y b z' e1 ho e2
    rcases old e1 e2 with ⟨k1, k2⟩ | ⟨rfl, rfl, rfl, rfl⟩
    · exact ⟨(h.own _ _ _ _ k1 ho k2).1, by have := (h.own _ _ _ _ k1 ho k2).2.1; simp; omega, (h.own _ _ _ _ k1 ho k2).2.2⟩
    · exact ⟨hnew, by simp, h.base.size⟩
  · intro i j y y' b z1 z2 e1 o1 e2 o2 b1 b2
    rcases old e1 b1 with ⟨k1, k2⟩ | ⟨rfl, rfl, hb, _⟩
    · rcases old e2 b2 with ⟨k3, k4⟩ | ⟨rfl, rfl, hb, _⟩
      · exact h.sep _ _ _ _ _ _ _ k1 o1 k3 o2 k2 k4
      · have := (h.own _ _ _ _ k1 o1 k2).2.1; omega
    · rcases old e2 b2 with ⟨k3, k4⟩ | ⟨rfl, rfl, _, _⟩
      · have := (h.own _ _ _ _ k3 o2 k4).2.1; omega
      · rfl
  · exact h.base.alloc h.base.size _

/-- An owned object turned: its block alone has changed. -/
theorem HRel.upd {ι : Inst} {H : List AObj} {w w' : World} (h : HRel ι H w) {i : Nat} {x x' : AObj} {b z : Nat} (hi : H[i]? = some x) (ho : x.owned = true) (hb : ι.blk[i]? = some (b, z))
    (hk : ∀ k, k ≠ b → w'.heap[k]? = w.heap[k]?) (hs : w'.heap.size = w.heap.size) (h1 : w'.os = w.os) (h2 : w'.tape = w.tape) (h3 : w'.output = w.output)
    (hx : ObjRel ι w' b z x') : HRel ι (H.set i x') w' := by
  have hlt := (List.getElem?_eq_some_iff.1 hi).1
  have hp : ∀ k o, ι.prot k = some o → k ≠ b := fun k o e e' => by subst e'; rw [(h.own _ _ _ _ hi ho hb).1] at e; cases e
  have hprot : ∀ k o, ι.prot k = some o → w'.heap[k]? = some o := fun k o e => by rw [hk k (hp k o e)]; exact h.prot _ _ e
  have old : ∀ {j : Nat} {y : AObj}, (H.set i x')[j]? = some y → (j = i ∧ y = x') ∨ (j ≠ i ∧ H[j]? = some y) := by
    intro j y e
    rw [List.getElem?_set] at e
    split at e
    · rename_i hij; subst hij; simp at e; exact .inl ⟨rfl, e.symm⟩
    · rename_i hij; exact .inr ⟨fun e => hij e.symm, e⟩
  refine ⟨by simp [h.len], hprot, ?_, ?_, ?_, ?_⟩
  · intro j y b' z' e1 e2
    rcases old e1 with ⟨rfl, rfl⟩ | ⟨hj, e⟩
    · rw [hb] at e2; cases e2; exact hx
    · refine ObjRel_mono (Ext.refl ι) (fun ho' => hk _ ?_) hprot (h.obj _ _ _ _ e e2)
      intro eb; subst eb
      exact hj (h.sep _ _ _ _ _ _ _ e ho' hi ho e2 hb)
  · intro j y b' z' e1 ho' e2
    rcases old e1 with ⟨rfl, rfl⟩ | ⟨hj, e⟩
    · rw [hb] at e2; cases e2
      have := h.own _ _ _ _ hi ho hb
      exact ⟨this.1, by omega, this.2.2⟩
    · have := h.own _ _ _ _ e ho' e2
      exact ⟨this.1, by omega, this.2.2⟩
  · intro j k y y' b' z1 z2 e1 o1 e2 o2 b1 b2
    have key : ∀ {j : Nat} {y : AObj}, (H.set i x')[j]? = some y → y.owned = true → ∃ y', H[j]? = some y' ∧ y'.owned = true := fun {j y} e o => by
      rcases old e with ⟨rfl, rfl⟩ | ⟨_, e⟩
      · exact ⟨_, hi, ho⟩
      · exact ⟨_, e, o⟩
    obtain ⟨_, e1', o1'⟩ := key e1 o1
    obtain ⟨_, e2', o2'⟩ := key e2 o2
    exact h.sep _ _ _ _ _ _ _ e1' o1' e2' o2' b1 b2
  · exact h.base.trans ⟨h1, h2, h3, by omega, fun k hk' => by
      refine hk k fun e => ?_
      subst e
      have := (h.own _ _ _ _ hi ho hb).2.2
      omega⟩

/-- The world's count of draws alone has moved. -/
theorem HRel.drew {ι : Inst} {H : List AObj} {w : World} (h : HRel ι H w) (n : Nat) : HRel ι H { w with drawn := n } :=
  ⟨h.len, h.prot, fun i x b z e1 e2 => ObjRel_mono (Ext.refl ι) (fun _ => rfl) h.prot (h.obj i x b z e1 e2), h.own, h.sep,
    ⟨h.base.os, h.base.tape, h.base.output, h.base.size, h.base.block⟩⟩

def Inst.grown (ι : Inst) (w w' : World) : Inst := { ι with prot := fun k => if k < w.heap.size then ι.prot k else w'.heap[k]? }

theorem HRel.ext_grown {ι : Inst} {H : List AObj} {w : World} (h : HRel ι H w) (w' : World) : Ext ι (ι.grown w w') :=
  ⟨rfl, fun b o e => by simp only [Inst.grown]; rw [if_pos (h.size_prot e)]; exact e, fun _ _ e => e, fun b hb => by simp only [Inst.grown]; rw [if_pos (Nat.lt_of_lt_of_le hb h.base.size)]⟩

/-- A callee has made blocks of its own: they are protected from now on. -/
theorem HRel.grown {ι : Inst} {H : List AObj} {w w' : World} (h : HRel ι H w) (hB : Below w.heap.size w w') : HRel (ι.grown w w') H w' := by
  have hprot : ∀ b o, ι.prot b = some o → w'.heap[b]? = some o := fun b o e => by rw [hB.block b (h.size_prot e)]; exact h.prot _ _ e
  refine ⟨h.len, ?_, ?_, ?_, h.sep, ?_⟩
  · intro b o e
    simp only [Inst.grown] at e
    split at e
    · exact hprot b o e
    · exact e
  · intro i x b z e1 e2
    exact ObjRel_mono (h.ext_grown w') (fun ho => hB.block _ (h.own _ _ _ _ e1 ho e2).2.1) hprot (h.obj _ _ _ _ e1 e2)
  · intro i x b z e1 ho e2
    have := h.own _ _ _ _ e1 ho e2
    refine ⟨by simp only [Inst.grown]; rw [if_pos this.2.1]; exact this.1, Nat.lt_of_lt_of_le this.2.1 hB.size, this.2.2⟩
  · exact h.base.trans (hB.mono h.base.size)

/-- An object that nobody owns any more. -/
theorem HRel.kill {ι : Inst} {H : List AObj} {w : World} (h : HRel ι H w) {i : Nat} : HRel ι (H.set i .dead) w := by
  have old : ∀ {j : Nat} {y : AObj}, (H.set i .dead)[j]? = some y → y = .dead ∨ H[j]? = some y := by
    intro j y e
    rw [List.getElem?_set] at e
    split at e
    · split at e
      · left; simpa using e.symm
      · cases e
    · exact .inr e
  refine ⟨by simp [h.len], h.prot, ?_, ?_, ?_, h.base⟩
  · intro j y b z e1 e2
    rcases old e1 with rfl | e
    · trivial
    · exact h.obj _ _ _ _ e e2
  · intro j y b z e1 ho e2
    rcases old e1 with rfl | e
    · cases ho
    · exact h.own _ _ _ _ e ho e2
  · intro j k y y' b z1 z2 e1 o1 e2 o2 b1 b2
    rcases old e1 with rfl | e1
    · cases o1
    · rcases old e2 with rfl | e2
      · cases o2
      · exact h.sep _ _ _ _ _ _ _ e1 o1 e2 o2 b1 b2

def Inst.freeze (ι : Inst) (w : World) (b : Nat) : Inst := { ι with prot := fun k => if k = b then w.heap[b]? else ι.prot k }

/-- An object frozen: its block is protected from now on. -/
theorem HRel.freeze {ι : Inst} {H : List AObj} {w : World} (h : HRel ι H w) {i b z : Nat} {t : TypeId} {v : AV} (hi : H[i]? = some (.cell true t v)) (hb : ι.blk[i]? = some (b, z)) :
    Ext ι (ι.freeze w b) ∧ HRel (ι.freeze w b) (H.set i (.cell false t v)) w := by
  have hlt := (List.getElem?_eq_some_iff.1 hi).1
  have hown := h.own _ _ _ _ hi rfl hb
  have hE : Ext ι (ι.freeze w b) := ⟨rfl, fun k o e => by
    simp only [Inst.freeze]; split
    · rename_i ek; subst ek; rw [hown.1] at e; cases e
    · exact e, fun _ _ e => e, fun k hk => by
      simp only [Inst.freeze]
      rw [if_neg (fun e => by have := hown.2.2; omega)]⟩
  have hprot : ∀ k o, (ι.freeze w b).prot k = some o → w.heap[k]? = some o := fun k o e => by
    simp only [Inst.freeze] at e
    split at e
    · rename_i ek; subst ek; exact e
    · exact h.prot _ _ e
  have old : ∀ {j : Nat} {y : AObj}, (H.set i (.cell false t v))[j]? = some y → (j = i ∧ y = .cell false t v) ∨ (j ≠ i ∧ H[j]? = some y) := by
    intro j y e
    rw [List.getElem?_set] at e
    split at e
    · rename_i hij; subst hij; simp at e; exact .inl ⟨rfl, e.symm⟩
    · rename_i hij; exact .inr ⟨fun e => hij e.symm, e⟩
  refine ⟨hE, by simp [Inst.freeze, h.len], hprot, ?_, ?_, ?_, h.base⟩
  · intro j y b' z' e1 e2
    have e2' : ι.blk[j]? = some (b', z') := e2
    rcases old e1 with ⟨rfl, rfl⟩ | ⟨hj, e⟩
    · rw [hb] at e2'; cases e2'
      obtain ⟨cells, fz, l, r, k1, k2, k3, k4, k5⟩ := h.obj _ _ _ _ hi hb
      refine ⟨cells, fz, l, r, k1, k2, k3, Rep_mono hE _ _ k4, ?_⟩
      simp only [Bool.false_eq_true, if_false, Inst.freeze, if_true]; exact k1
    · exact ObjRel_mono hE (fun _ => rfl) (fun b o e => h.prot _ _ e) (h.obj _ _ _ _ e e2')
  · intro j y b' z' e1 ho' e2
    have e2' : ι.blk[j]? = some (b', z') := e2
    rcases old e1 with ⟨rfl, rfl⟩ | ⟨hj, e⟩
    · cases ho'
    · have := h.own _ _ _ _ e ho' e2'
      refine ⟨?_, this.2⟩
      simp only [Inst.freeze]
      rw [if_neg]
      · exact this.1
      · intro eb; subst eb; exact hj (h.sep _ _ _ _ _ _ _ e ho' hi rfl e2' hb)
  · intro j k y y' b' z1 z2 e1 o1 e2 o2 b1 b2
    rcases old e1 with ⟨rfl, rfl⟩ | ⟨_, e1⟩
    · cases o1
    · rcases old e2 with ⟨rfl, rfl⟩ | ⟨_, e2⟩
      · cases o2
      · exact h.sep _ _ _ _ _ _ _ e1 o1 e2 o2 b1 b2
end Go.Eng
end
section
/- The evaluator: operations. -/
namespace Go.Eng
open Go.RowKit

structure ATy where
  desc : TypeDesc
  size : Nat
  bytes : Nat
  zero : AV
  code : Option TC

/-- What of a contract's answer is the caller's own: a row, of elements of a type; a map that has just been made, of known entries. -/
inductive Own where
  | row (e : TypeId)
  | mp (es : List (AV × AV))

structure Spec where
  dom : TC
  cod : TC
  n : Nat
  pre : dom.den → Prop
  f : dom.den → cod.den
  own : Option Own := none

/-- A function that sorts a row of one's own in place, by a function: of what code the elements are, by which function, what the row holds then, an element's cells. -/
structure SortD where
  c : TC
  cmp : Option FuncId
  f : List c.den → List c.den
  enc : c.den → List Value
  /-- Where an answer is handed back: the slice, so long. -/
  res : Option (List c.den → Nat) := none

/-- An order of a drawn region's steps; where two are ready and do not go by each other, both orders. -/
inductive Sch where
  | fin
  | one (k : Nat) (s : Sch)
  | two (j k : Nat) (s s' : Sch)

structure Env where
  P : Program
  ty : TypeId → Option ATy
  fns : FuncId → Option Func
  glob : Nat → Option AV
  spec : FuncId → Option Spec
  mask : FuncId → Nat → Option (List Nat)
  exact : FuncId → Bool := fun _ => false
  apart : FuncId → Bool := fun _ => false
  split : FuncId → Nat → Option (Nat × List Step × Nat) := fun _ _ => none
  sched : FuncId → Nat → Option Sch := fun _ _ => none
  sort : FuncId → Option SortD := fun _ => none
  cold : Bool := false
  frz : FuncId → Nat → Option Nat := fun _ _ => none
  tail : FuncId → Nat → Bool := fun _ _ => false
  rows : Bool := false
  rowf : FuncId → Bool := fun _ => false

def descAgg : TypeDesc → Bool
  | .struct _ => true
  | .array _ _ => true
  | _ => false

def ofV : Value → Option AV
  | .int k n => some (.int k n)
  | .bool b => some (.bool b)
  | .string s => some (.str s)
  | .pointer none => some (.raw (.pointer none))
  | .slice none 0 0 => some (.raw (.slice none 0 0))
  | .nilFunc => some (.raw .nilFunc)
  | .map none => some (.raw (.map none))
  | .nilIface => some (.raw .nilIface)
  | _ => none

def ev (E : Env) (T : List AV) : Operand → Option AV
  | .tmp t => T[t]?
  | .const v => ofV v
  | .global g => match E.glob g with | some v => some (.ref v) | none => none
  | .func f => some (.fn f [])

def evs (E : Env) (T : List AV) : List Operand → Option (List AV)
  | [] => some []
  | x :: l => match ev E T x, evs E T l with | some v, some vs => some (v :: vs) | _, _ => none

/-! ### Whole numbers -/
def iand (k : IntKind) (x y : Int) : Int := k.wrap ((BitVec.ofInt k.bits x &&& BitVec.ofInt k.bits y).toNat : Nat)
def ior (k : IntKind) (x y : Int) : Int := k.wrap ((BitVec.ofInt k.bits x ||| BitVec.ofInt k.bits y).toNat : Nat)
def ixor (k : IntKind) (x y : Int) : Int := k.wrap ((BitVec.ofInt k.bits x ^^^ BitVec.ofInt k.bits y).toNat : Nat)
def iandn (k : IntKind) (x y : Int) : Int := k.wrap ((BitVec.ofInt k.bits x &&& ~~~BitVec.ofInt k.bits y).toNat : Nat)
def iadd (k : IntKind) (x y : Int) : Int := k.wrap (x + y)
def isub (k : IntKind) (x y : Int) : Int := k.wrap (x - y)
def imul (k : IntKind) (x y : Int) : Int := k.wrap (x * y)
def iquo (k : IntKind) (x y : Int) : Int := k.wrap (x.tdiv y)
def irem (_k : IntKind) (x y : Int) : Int := x.tmod y
def ishl (k : IntKind) (x y : Int) : Int := k.wrap (x * 2 ^ (min y.toNat k.bits))
def ishr (k : IntKind) (x y : Int) : Int := x.fdiv (2 ^ (min y.toNat k.bits))
def iconv (k : IntKind) (x : Int) : Int := k.wrap x
def ineg (k : IntKind) (x : Int) : Int := k.wrap (0 - x)
def inot (k : IntKind) (x : Int) : Int := ixor k (if k.signed then -1 else k.max) x
def ieq (x y : Int) : Bool := x == y
def ine (x y : Int) : Bool := x != y
def ilt (x y : Int) : Bool := decide (x < y)
def ile (x y : Int) : Bool := decide (x ≤ y)
def imin (x y : Int) : Int := if y < x then y else x
def imax (x y : Int) : Int := if y > x then y else x

def binI (op : BinOp) (k : IntKind) (a b : Int) : Option (List Prop × AV) :=
  match op with
  | .add => some ([], .int k (iadd k a b))
  | .sub => some ([], .int k (isub k a b))
  | .mul => some ([], .int k (imul k a b))
  | .quo => some ([b ≠ 0], .int k (iquo k a b))
  | .rem => some ([b ≠ 0], .int k (irem k a b))
  | .and => some ([], .int k (iand k a b))
  | .or => some ([], .int k (ior k a b))
  | .xor => some ([], .int k (ixor k a b))
  | .andNot => some ([], .int k (iandn k a b))
  | .eql => some ([], .bool (ieq a b))
  | .neq => some ([], .bool (ine a b))
  | .lss => some ([], .bool (ilt a b))
  | .leq => some ([], .bool (ile a b))
  | .gtr => some ([], .bool (ilt b a))
  | .geq => some ([], .bool (ile b a))
  | _ => none

/-- Is a row nil? -/
def isNilA : AV → Option (List Prop × Bool)
  | .raw (.slice none 0 0) => some ([], true)
  | .osl _ _ _ _ _ _ => some ([], false)
  | .fsl _ xs => some ([0 < xs.length], false)
  | _ => none

def bin (op : BinOp) (t : Option ATy) (x y : AV) : Option (List Prop × AV) :=
  match x, y with
  | .int k a, .int k' b => match op with
    | .shl => some ([0 ≤ b], .int k (ishl k a b))
    | .shr => some ([0 ≤ b], .int k (ishr k a b))
    | op => if k = k' then binI op k a b else none
  | .bool a, .bool b => match t with
    | some t => match t.desc, op with
      | .bool, .eql => some ([], .bool (a == b))
      | .bool, .neq => some ([], .bool (!(a == b)))
      | _, _ => none
    | none => none
  | .str a, .str b => match op with
    | .add => some ([a.size + b.size ≤ 2 ^ 40], .str (a ++ b))
    | _ => none
  | x, .raw (.slice none 0 0) => match t with
    | some t => match t.desc, op, isNilA x with
      | .slice _, .eql, some (q, b) => some (q, .bool b)
      | .slice _, .neq, some (q, b) => some (q, .bool (!b))
      | _, _, _ => none
    | none => none
  | _, _ => none

def un (op : UnOp) (x : AV) : Option AV :=
  match op, x with
  | .neg, .int k n => some (.int k (ineg k n))
  | .xor, .int k n => some (.int k (inot k n))
  | .not, .bool b => some (.bool (!b))
  | _, _ => none

/-- One of two values, by a Bool. -/
def pickA (b : Bool) (x y : AV) : AV :=
  match x, y with
  | .int k m, .int k' n => if k = k' then .int k (cond b m n) else cond b x y
  | .bool m, .bool n => .bool (cond b m n)
  | x, y => cond b x y

abbrev Heap := List AObj

def ATy.agg (d : ATy) : Bool := descAgg d.desc

/-- What stands behind an address. -/
def loadA (H : Heap) : AV → Option (List Prop × AV)
  | .ptr o p => match H[o]? with
    | some (.cell _ _ v) => getP v p
    | _ => none
  | .ref v => some ([], v)
  | _ => none

def storeA (H : Heap) (a x : AV) : Option (List Prop × Heap) :=
  match a with
  | .ptr o p => match H[o]? with
    | some (.cell true t v) => match getP v p with
      | some (q, u) => if szV u = szV x then (match setP v p x with | some v' => some (q, H.set o (.cell true t v')) | none => none) else none
      | none => none
    | _ => none
  | _ => none

/-- A part of what stands in protected memory. -/
def partA (v : AV) (s : Step) : Option (List Prop × AV) := getP v [s]

/-- Where a field stands, and its type; fields without cells are not looked at. -/
def fieldOff (E : Env) (d : ATy) (f : Nat) : Option (Nat × ATy) :=
  match d.desc with
  | .struct fs => match fs[f]? with
    | some fd => match E.ty fd.type with
      | some x => if x.size = 0 then none else some (fd.offset, x)
      | none => none
    | none => none
  | _ => none

def fieldAddrA (E : Env) (d : ATy) (x : AV) (f : Nat) : Option (List Prop × AV) :=
  match fieldOff E d f with
  | some (off, _) => match x with
    | .ptr o p => some ([], .ptr o (p ++ [.fld off f]))
    | .ref v => match partA v (.fld off f) with | some (q, u) => some (q, .ref u) | none => none
    | _ => none
  | none => none

def fieldA (E : Env) (d : ATy) (x : AV) (f : Nat) : Option (List Prop × AV) :=
  match fieldOff E d f with
  | some (off, e) => match partA x (.fld off f) with
    | some (q, u) => if szV u = e.size ∧ aggB u = e.agg then some (q, u) else none
    | none => none
  | none => none

/-- d: of what is indexed; s: how many cells an element has. -/
def indexAddrA (d : ATy) (s : Nat) (x i : AV) : Option (List Prop × AV) :=
  match i with
  | .int _ i => match d.desc, x with
    | .array n _, .ptr o p => some ([0 ≤ i, i < n], .ptr o (p ++ [.idx s i.toNat]))
    | .array n _, .ref v => match partA v (.idx s i.toNat) with | some (q, u) => some ((0 ≤ i) :: (i < n) :: q, .ref u) | none => none
    | .slice _, .fsl c xs => if c.size = s then some ([0 ≤ i, i < xs.length], .ref (ofD c (rdc c xs i.toNat))) else none
    | .slice _, .osl o p s' off len _ => if s' = s then some ([0 ≤ i, i < len], .ptr o (p ++ [.idx s (off + i.toNat)])) else none
    | _, _ => none
  | _ => none

def indexA (d e : ATy) (x i : AV) : Option (List Prop × AV) :=
  match i with
  | .int _ i => match d.desc with
    | .array n _ => match partA x (.idx e.size i.toNat) with
      | some (q, u) => if szV u = e.size ∧ aggB u = e.agg then some ((0 ≤ i) :: (i < n) :: q, u) else none
      | none => none
    | _ => none
  | _ => none

def strAt (s : ByteArray) (n : Nat) : Int := match s[n]? with | some b => (b.toNat : Int) | none => 0

def indexS (d : ATy) (x i : AV) : Option (List Prop × AV) :=
  match d.desc, x, i with
  | .string, .str s, .int _ n => some ([0 ≤ n, n.toNat < s.size], .int .u8 (strAt s n.toNat))
  | _, _, _ => none

def loA : Option AV → Option (List Prop × Nat)
  | none => some ([], 0)
  | some (.int _ n) => some ([0 ≤ n], n.toNat)
  | _ => none

/-- What is known of an own slice's capacity. -/
def capA (len : Nat) (cap : Option Nat) : Nat := match cap with | some k => k | none => len

/-- A part of a slice of plain data, of a string, of an own slice. -/
def sliceA (d : ATy) (s : Nat) (x : AV) (lo hi : Option AV) : Option (List Prop × AV) :=
  match loA lo with
  | some (q, l) => match d.desc, x with
    | .slice _, .fsl c xs => if c.size = s then (match hi with
      | none => some (q ++ [l ≤ xs.length], .fsl c (xs.drop l))
      | some (.int _ m) => some (q ++ [0 ≤ m, l ≤ m.toNat, m.toNat ≤ xs.length], .fsl c ((xs.drop l).take (m.toNat - l)))
      | _ => none) else none
    | .slice _, .osl o p s' off len cap => if s' = s then (match hi with
      | none => some (q ++ [l ≤ len, l = 0 ∨ l < capA len cap], .osl o p s (off + l) (len - l) (cap.map fun k => k - l))
      | some (.int _ m) => some (q ++ [0 ≤ m, l ≤ m.toNat, m.toNat ≤ capA len cap, l = 0 ∨ l < capA len cap], .osl o p s (off + l) (m.toNat - l) (cap.map fun k => k - l))
      | _ => none) else none
    | .slice _, .raw (.slice none 0 0) => (match hi with
      | none => some (q ++ [l = 0], .raw (.slice none 0 0))
      | some (.int _ m) => some (q ++ [m = 0, l = 0], .raw (.slice none 0 0))
      | _ => none)
    | .array n _, .ref (.arr m c xs) => (match lo, hi with
      | none, none => if m = n ∧ c.size = s then some (q, .fsl c xs) else none
      | _, _ => none)
    | .string, .str b => (match hi with
      | none => some (q ++ [l ≤ b.size], .str (b.extract l b.size))
      | some (.int _ m) => some (q ++ [0 ≤ m, l ≤ m.toNat, m.toNat ≤ b.size], .str (b.extract l m.toNat))
      | _ => none)
    | _, _ => none
  | none => none

def evO (E : Env) (T : List AV) : Option Operand → Option (Option AV)
  | none => some none
  | some x => match ev E T x with | some v => some (some v) | none => none

/-- Two structs' fields, one behind the other: are they the same? -/
def eqFs (eq : TypeId → AV → AV → Option Bool) (E : Env) (d : ATy) (x y : AV) : Nat → List Field → Option Bool
  | _, [] => some true
  | i, f :: fs => match fieldA E d x i, fieldA E d y i with
    | some ([], u), some ([], v) => match eq f.type u v, eqFs eq E d x y (i + 1) fs with
      | some b, some r => some (b && r)
      | _, _ => none
    | _, _ => none

/-- Two values of one type: are they the same? -/
def eqS (E : Env) : Nat → TypeId → AV → AV → Option Bool
  | 0, _, _, _ => none
  | n + 1, t, x, y => match E.ty t with
    | some d => match d.desc with
      | .bool => match x, y with
        | .bool a, .bool b => some (a == b)
        | _, _ => none
      | .int _ => match x, y with
        | .int k a, .int k' b => if k = k' then some (ieq a b) else none
        | _, _ => none
      | .string => match x, y with
        | .str a, .str b => some (a == b)
        | _, _ => none
      | .struct fs => if aggB x = true ∧ aggB y = true ∧ E.P.stoodInHeld t = false ∧ (fs.toList.all fun f => f.name != "_") = true then eqFs (eqS E n) E d x y 0 fs.toList else none
      | _ => none
    | none => none

def binS (E : Env) (op : BinOp) (t : TypeId) (x y : AV) : Option AV :=
  match eqS E 100 t x y with
  | some b => if (!aggB x || !E.P.eqGuardType E.P.depth t) = true then (match op with
    | .eql => some (.bool b)
    | .neq => some (.bool (!b))
    | _ => none) else none
  | none => none

/-! ### Maps of whole numbers -/
def newKey (k : IntKind) (n : Int) (es : List (AV × AV)) : Bool := es.all fun e => match e.1 with
  | .int k' n' => decide (k = k') && !(ieq n n')
  | _ => false

def sameK : AV → AV → Bool
  | .int k _, .int k' _ => decide (k = k')
  | .bool _, .bool _ => true
  | _, _ => false

/-- What stands at a key, one value for all. -/
def mergeL (n : Int) (k : IntKind) (z : AV) : List (AV × AV) → Option (AV × Bool)
  | [] => some (z, false)
  | e :: es => match e.1, mergeL n k z es with
    | .int k' n', some (v, b) => if k = k' ∧ sameK e.2 v = true then some (pickA (ieq n n') e.2 v, cond (ieq n n') true b) else none
    | _, _ => none

/-- What stands at a key. -/
def lookF (n : Int) (k : IntKind) (z : AV) : List (AV × AV) → Option (AV × Bool)
  | [] => some (z, false)
  | e :: es => match e.1 with
    | .int k' n' => if k = k' then cond (ieq n n') (some (e.2, true)) (lookF n k z es) else none
    | _ => none

/-- What a look into a map gives, with or without the word whether it is there. -/
def lookV (ok : Bool) (v : AV) (fl : Bool) : AV := match ok with
  | true => .tup [v, .bool fl]
  | false => v

/-- What stands at a key, the way parted. -/
def lookA (n : Int) (k : IntKind) (z : AV) (go : AV → Bool → Prop) : List (AV × AV) → Prop
  | [] => go z false
  | e :: es => match e.1 with
    | .int k' n' => if k = k' then cond (ieq n n') (go e.2 true) (lookA n k z go es) else False
    | _ => False

def sliceSz (E : Env) (d : ATy) : Option Nat :=
  match d.desc with
  | .slice e => match E.ty e with | some x => some x.size | none => none
  | .array _ e => match E.ty e with | some x => some x.size | none => none
  | .string => some 0
  | _ => none

def ntB : AV → Bool
  | .tup _ => false
  | .any => false
  | _ => true

def boxA (d : ATy) (t : TypeId) (v : AV) (H : Heap) : Option (List Prop × AV × Heap) :=
  if szV v = d.size ∧ ntB v = true then some ([], .ptr H.length [], H ++ [.cell true t v]) else none

/-- Parts set one behind the other. -/
def fillA (st : Nat → Option (Step × Nat)) : AV → List (Nat × AV) → Option (List Prop × AV)
  | v, [] => some ([], v)
  | v, (i, x) :: l => match st i with
    | some (s, n) => match getP v [s] with
      | some (q, u) => if szV u = n ∧ szV x = n ∧ ntB x = true then (match setP v [s] x with
        | some v' => match fillA st v' l with
          | some (q', r) => some (q ++ q', r)
          | none => none
        | none => none) else none
      | none => none
    | none => none

def evParts (E : Env) (T : List AV) : List (Nat × Operand) → Option (List (Nat × AV))
  | [] => some []
  | (i, x) :: l => match ev E T x, evParts E T l with | some v, some vs => some ((i, v) :: vs) | _, _ => none

/-- A hand on something of one's own, or a function: no plain data. -/
def ownB : AV → Bool
  | .osl _ _ _ _ _ _ => true
  | .ptr _ _ => true
  | .fn _ _ => true
  | .bnd _ _ => true
  | _ => false

/-- An array's elements, one by one. -/
def spread : AV → AV
  | .arr _ c xs => .agg (List.replicate xs.length c.size) (xs.map (ofD c))
  | v => v

def startA (z : AV) (parts : List (Nat × AV)) : AV := if parts.any (fun p => ownB p.2) = true then spread z else z

def buildA (E : Env) (d : ATy) (s : Nat) (parts : List (Nat × AV)) : Option (List Prop × AV) :=
  match d.desc with
  | .struct fs => if fs.toList.all (fun f => (E.ty f.type).isSome) = true then fillA (fun i => match fieldOff E d i with | some (off, e) => some (.fld off i, e.size) | none => none) d.zero parts else none
  | .array _ _ => fillA (fun i => some (.idx s i, s)) (startA d.zero parts) parts
  | _ => none

/-- A list, a part of it set anew. -/
def spliceL {α : Type} (xs : List α) (i : Nat) (ys : List α) : List α := xs.take i ++ (ys ++ xs.drop (i + ys.length))

def appL (c : TC) (H : Heap) : AV → Option (List Prop × List c.den)
  | .fsl c' xs => if h : c' = c then some ([], h ▸ xs) else none
  | .raw (.slice none 0 0) => some ([], [])
  | .osl o p s off len _ => match H[o]? with
    | some (.cell _ _ v) => match getP v p with
      | some (q, .arr n c' xs) => if h : c' = c then (if s = c.size then some (q ++ [off + len ≤ n], ((h ▸ xs : List c.den).drop off).take len) else none) else none
      | _ => none
    | _ => none
  | _ => none

/-- Bytes as a string. -/
def strA (E : Env) (s d : ATy) (v : AV) : Option AV :=
  match s.desc, d.desc with
  | .slice e, .string => match E.ty e with
    | some de => match de.desc with
      | .int .u8 => match v with
        | .fsl (.int .u8) xs => some (.str (strOfNums xs))
        | .raw (.slice none 0 0) => some (.str (strOfNums []))
        | _ => none
      | _ => none
    | none => none
  | _, _ => none

/-- What is copied; s: how many cells an element has. -/
def copyA (s0 : Nat) (H : Heap) (d x : AV) : Option (List Prop × AV × Heap) :=
  match d with
  | .osl ob [] s off len _ => match H[ob]? with
    | some (.cell true t (.arr m c xs)) => match appL c H x with
      | some (q, ys) => if s = c.size ∧ s0 = s then some (q ++ [off + len ≤ m], .int .i64 ((min ys.length len : Nat) : Int), H.set ob (.cell true t (.arr m c (spliceL xs off (ys.take len))))) else none
      | none => none
    | _ => none
  | _ => none

/-- A new slice of zeros. -/
def makeA (e : TypeId) (de : ATy) (H : Heap) (len cap : AV) : Option (List Prop × AV × Heap) :=
  match len, cap with
  | .int _ l, .int _ c => match de.code with
    | some tc => match toD tc de.zero with
      | some z => if tc.size = de.size then
          some ([0 ≤ l, l ≤ c, c ≤ 2 ^ 40, c.toNat * de.bytes ≤ 2 ^ 40], .osl H.length [] de.size 0 l.toNat (some c.toNat), H ++ [.cell true e (.arr c.toNat tc (List.replicate c.toNat z))])
        else none
      | none => none
    | none => none
  | _, _ => none

/-- What is sorted: the arguments, less the function that compares (where there is one). -/
def sortArg (s : SortD) (as : List AV) : Option AV :=
  match s.cmp, as with
  | some g, [x, .fn g' []] => if g' = g then some x else none
  | none, [x] => some x
  | _, _ => none

/-- The arguments behind the slice. -/
def SortD.rest (s : SortD) : Array Value :=
  match s.cmp with
  | some g => #[.func (.func g) #[] #[]]
  | none => #[]

/-- What a sort hands back. -/
def SortD.ansA (s : SortD) (o z off : Nat) (xs : List s.c.den) (cap : Option Nat) : AV :=
  match s.res with
  | none => .tup []
  | some g => .osl o [] z off (g xs) cap

def SortD.ansN (s : SortD) : AV :=
  match s.res with
  | none => .tup []
  | some _ => .raw (.slice none 0 0)

/-- A row of one's own sorted in place. -/
def sortA (s : SortD) (H : Heap) (as : List AV) : Option (List Prop × AV × Heap) :=
  match sortArg s as with
  | some (.raw (.slice none 0 0)) => some ([], s.ansN, H)
  | some (.osl ob [] z off len cap) => match H[ob]? with
    | some (.cell true t (.arr m c xs)) =>
      if h : c = s.c then
        if z = s.c.size then some ([off + len ≤ m, len < 2 ^ 60], s.ansA ob z off (((h ▸ xs : List s.c.den).drop off).take len) cap, H.set ob (.cell true t (.arr m s.c (spliceL (h ▸ xs : List s.c.den) off (s.f (((h ▸ xs : List s.c.den).drop off).take len))))))
        else none
      else none
    | _ => none
  | _ => none
end Go.Eng
end
section
/- The evaluator: code, calls, loops over iterators. -/
namespace Go.Eng
open Go.RowKit

inductive FK where
  | top
  | call (dst : Option Tmp)
  | round (l : Nat) (dst : Option Tmp)
  | iter (l : Nat)

inductive It where
  | code (c : Code)
  | now (c : Code)
  | blk (id : Nat)
  | lp (c : Code)
  | ops (all rest : List Oper)
  | begin (l : Nat)
  | fin (l : Nat)
  | scp

structure Fr where
  id : FuncId
  kind : FK
  T : List AV
  items : List It
  D : List Nat
  base : Nat

/-- What is kept at a loop's head: of the temporaries, and of the temporaries of the callers' loops, those that are named; of the callers' objects those that are not named dead. -/
structure Cut where
  tmps : List Nat
  loops : List (Nat × List Nat)
  dead : List Nat
  stk : List (List Nat) := []

def keepL : List Nat → Nat → List AV → List AV
  | _, _, [] => []
  | [], i, _ :: T => .any :: keepL [] (i + 1) T
  | k :: ks, i, v :: T => if k == i then v :: keepL ks (i + 1) T else .any :: keepL (k :: ks) (i + 1) T

/-- The callers' temporaries that are kept. -/
def cutS : List (List Nat) → List Fr → List Fr
  | k :: ks, f :: fs => { f with T := keepL k 0 f.T } :: cutS ks fs
  | _, fs => fs

/-- Temporaries forgotten where a region begins. -/
def maskT (E : Env) (f : FuncId) (id : Nat) (T : List AV) : List AV :=
  match E.mask f id with
  | some ks => keepL ks 0 T
  | none => T

def posL : List Nat → Nat → Nat → Option Nat
  | [], _, _ => none
  | x :: l, i, o => if x == o then some i else posL l (i + 1) o

mutual
/-- The value, its objects numbered anew. -/
def renV (l : List Nat) : AV → Option AV
  | .agg ss vs => match renVs l vs with | some us => some (.agg ss us) | none => none
  | .tup vs => match renVs l vs with | some us => some (.tup us) | none => none
  | .ptr o p => match posL l 0 o with | some j => some (.ptr j p) | none => none
  | .osl o p s off len cap => match posL l 0 o with | some j => some (.osl j p s off len cap) | none => none
  | .fn f cs => match renVs l cs with | some us => some (.fn f us) | none => none
  | .bnd f cs => match renVs l cs with | some us => some (.bnd f us) | none => none
  | .yld o => match posL l 0 o with | some j => some (.yld j) | none => none
  | .mp o => match posL l 0 o with | some j => some (.mp j) | none => none
  | .row o s n => match posL l 0 o with | some j => some (.row j s n) | none => none
  | .ref v => match renV l v with | some u => some (.ref u) | none => none
  | v => some v
def renVs (l : List Nat) : List AV → Option (List AV)
  | [] => some []
  | v :: vs => match renV l v, renVs l vs with | some u, some us => some (u :: us) | _, _ => none
end

def renE (l : List Nat) : List (AV × AV) → Option (List (AV × AV))
  | [] => some []
  | e :: es => match renV l e.1, renV l e.2, renE l es with | some a, some b, some r => some ((a, b) :: r) | _, _, _ => none

def renO (l : List Nat) : AObj → Option AObj
  | .cell own t v => match renV l v with | some u => some (.cell own t u) | none => none
  | .map es => match renE l es with | some r => some (.map r) | none => none
  | .loop s p f T ps a b dd => match renVs l T, posL l 0 dd with | some T', some j => some (.loop s p f T' ps a b j) | _, _ => none
  | x => some x

def cutO (ks : List Nat) : AObj → AObj
  | .loop s p f T ps a b d => .loop s p f (keepL ks 0 T) ps a b d
  | x => x

def cutX (g : Cut) (o : Nat) (x : AObj) : AObj := if g.dead.contains o then .dead else match g.loops.lookup o with | some ks => cutO ks x | none => x

mutual
def refsV : AV → List Nat
  | .agg _ vs => refsVs vs
  | .tup vs => refsVs vs
  | .ptr o _ => [o]
  | .osl o _ _ _ _ _ => [o]
  | .fn _ cs => refsVs cs
  | .bnd _ cs => refsVs cs
  | .yld o => [o]
  | .mp o => [o]
  | .row o _ _ => [o]
  | .ref v => refsV v
  | _ => []
def refsVs : List AV → List Nat
  | [] => []
  | v :: vs => refsV v ++ refsVs vs
end

def refsO : AObj → List Nat
  | .cell _ _ v => refsV v
  | .map es => es.flatMap fun e => refsV e.1 ++ refsV e.2
  | .loop _ _ _ T _ _ _ d => d :: refsVs T
  | _ => []

/-- The objects reached, in the order in which they are met. -/
def visit (g : Cut) (H : List AObj) : Nat → List Nat → List Nat → List Nat
  | 0, seen, _ => seen
  | _ + 1, seen, [] => seen
  | n + 1, seen, o :: todo => if seen.contains o then visit g H n seen todo else match H[o]? with
    | some x => visit g H n (seen ++ [o]) (refsO (cutX g o x) ++ todo)
    | none => seen

def refsH (g : Cut) : Nat → Nat → List AObj → List Nat
  | n + 1, i, x :: H => refsO (cutX g i x) ++ refsH g n (i + 1) H
  | _, _, _ => []

def objsOf (g : Cut) (fr : Fr) (H : List AObj) : List Nat := visit g H 100000 (List.range fr.base) (fr.D.reverse ++ refsVs (keepL g.tmps 0 fr.T) ++ refsH g fr.base 0 H)

/-- The objects named, numbered anew. -/
def cutH (g : Cut) (l : List Nat) (H : List AObj) : List Nat → Option (List AObj)
  | [] => some []
  | o :: os => match H[o]? with
    | some x => match renO l (cutX g o x), cutH g l H os with
      | some y, some r => some (y :: r)
      | _, _ => none
    | none => none

def renD (l : List Nat) : List Nat → Option (List Nat)
  | [] => some []
  | d :: ds => match posL l 0 d, renD l ds with
    | some j, some r => some (j :: r)
    | _, _ => none

def fixB (l : List Nat) (o : Nat) : Bool := match posL l 0 o with | some j => j == o | none => false

def kindB (l : List Nat) : FK → Bool
  | .round o _ => fixB l o
  | _ => true

def itsB (l : List Nat) : List It → Bool
  | [] => true
  | .begin o :: k => fixB l o && itsB l k
  | .fin o :: k => fixB l o && itsB l k
  | _ :: k => itsB l k

def nodupB : List Nat → Bool
  | [] => true
  | x :: l => !l.contains x && nodupB l

def firstB : Nat → Nat → List Nat → Bool
  | 0, _, _ => true
  | n + 1, i, x :: l => x == i && firstB n (i + 1) l
  | _, _, _ => false

def cutWith (g : Cut) (l : List Nat) (fr : Fr) (H : List AObj) : Option (Fr × List AObj) :=
  if kindB l fr.kind && itsB l fr.items && nodupB l && firstB fr.base 0 l then
    match renVs l (keepL g.tmps 0 fr.T), renD l fr.D, cutH g l H l with
    | some T, some D, some H => some ({ fr with T, D }, H)
    | _, _, _ => none
  else none

/-- The frame and the heap that are kept. -/
def cutF (g : Cut) (fr : Fr) (H : List AObj) : Option (Fr × List AObj) := cutWith g (objsOf g fr H) fr H

/-- The items behind the block's end. -/
def toBlk (id : Nat) : List It → Option (List It)
  | [] => none
  | .blk j :: k => if j = id then some k else toBlk id k
  | .begin _ :: _ => none
  | .fin _ :: _ => none
  | _ :: k => toBlk id k

/-- No jump passes these items. -/
def through : List It → Bool
  | [] => true
  | .begin _ :: _ => false
  | .fin _ :: _ => false
  | _ :: k => through k

def resT (E : Env) (H : Heap) (T : List AV) : ResultVar → Option (List Prop × AV)
  | .tmp t => match T[t]? with | some v => some ([], v) | none => none
  | .cell a t => match T[a]?, E.ty t with
    | some a, some d => match loadA H a with
      | some (q, v) => if szV v = d.size ∧ aggB v = d.agg then some (q, v) else none
      | none => none
    | _, _ => none

def resTs (E : Env) (H : Heap) (T : List AV) : List ResultVar → Option (List Prop × List AV)
  | [] => some ([], [])
  | r :: l => match resT E H T r, resTs E H T l with
    | some (q, v), some (q', vs) => some (q ++ q', v :: vs)
    | _, _ => none

def resF (E : Env) (H : Heap) (T : List AV) (fn : Func) : Option (List Prop × AV) :=
  match resTs E H T fn.results.toList with
  | some (q, [v]) => some (q, v)
  | some (q, vs) => if vs.all ntB = true then some (q, .tup vs) else none
  | none => none

def setO (T : List AV) (d : Option Tmp) (v : AV) : List AV :=
  match d with | some d => T.set d v | none => T

def clearDs (H : Heap) : List Nat → Option Heap
  | [] => some H
  | d :: ds => match H[d]? with
    | some .dfd => clearDs (H.set d .dead) ds
    | _ => none

/-- One result, or several. -/
def resV (n : Nat) (c : TC) (x : c.den) : AV :=
  if n = 1 then ofD c x else if n = 0 then .tup [] else .tup (c.both x).2

def argsD (c : TC) (l : List AV) : Option c.den :=
  match c, l with
  | .unit, [] => some ()
  | .unit, _ => none
  | c, l => c.back.2 l

def TC.flat : TC → Bool
  | .st a r => a.flat && r.flat
  | .st1 a => a.flat
  | .slice _ => false
  | .arr _ c => c.flat
  | .ref _ => false
  | _ => true

mutual
/-- An argument seen as plain data for a while. -/
def view (H : Heap) : AV → Option (List Prop × AV)
  | .ptr o p => match H[o]? with
    | some (.cell _ _ v) => match getP v p with
      | some (q, u) => some (q, .ref u)
      | none => none
    | _ => none
  | .osl o p s off len _ => match H[o]? with
    | some (.cell _ _ v) => match getP v p with
      | some (q, .arr n c xs) => if s = c.size then some (q ++ [off + len ≤ n], .fsl c ((xs.drop off).take len)) else none
      | some _ => some ([], .junk)
      | none => none
    | _ => none
  | .agg ss vs => match views H vs with | some (q, us) => some (q, .agg ss us) | none => none
  | v => some ([], v)
def views (H : Heap) : List AV → Option (List Prop × List AV)
  | [] => some ([], [])
  | v :: vs => match view H v, views H vs with
    | some (q, u), some (q', us) => some (q ++ q', u :: us)
    | _, _ => none
end

mutual
/-- The objects that a value owns a hand on. -/
def handsOf : AV → List Nat
  | .ptr o _ => [o]
  | .osl o _ _ _ _ _ => [o]
  | .agg _ vs => handsOfL vs
  | _ => []
def handsOfL : List AV → List Nat
  | [] => []
  | v :: vs => handsOf v ++ handsOfL vs
end

def freezeA (H : Heap) : List Nat → Option Heap
  | [] => some H
  | o :: os => match H[o]? with
    | some (.cell _ t v) => freezeA (H.set o (.cell false t v)) os
    | _ => none

/-- What own things parts have a hand on: frozen, and seen as plain data. -/
def settle (H : Heap) (ps : List (Nat × AV)) : Option (List Prop × List (Nat × AV) × Heap) :=
  if (handsOfL (ps.map (·.2))).isEmpty = true then some ([], ps, H) else
    match freezeA H (handsOfL (ps.map (·.2))) with
    | some H' => match views H' (ps.map (·.2)) with
      | some (q, us) => some (q, (ps.map (·.1)).zip us, H')
      | none => none
    | none => none

/-- Where a slice's elements are no plain data: zeros, one by one. -/
def zerosL (de : ATy) (len : Nat) : AV := .agg (List.replicate len de.size) (List.replicate len de.zero)

/-- Two rows in two blocks of one's own: they share no memory. -/
def apartA (H : Heap) (as : List AV) : Option (List Prop) :=
  match as with
  | [.osl o _ _ _ _ _, .osl o' _ _ _ _ _] => if o = o' then none else match H[o]?, H[o']? with
    | some (.cell true _ _), some (.cell true _ v) => some [0 < szV v]
    | _, _ => none
  | _ => none

/-- What stands behind an address is a row of other things than plain data. -/
def manyA (H : Heap) : AV → Bool
  | .ptr ob p => match H[ob]? with
    | some (.cell _ _ v) => match getP v p with
      | some (_, .agg _ _) => true
      | _ => false
    | _ => false
  | .ref (.agg _ _) => true
  | _ => false

/-- The way parted by a number below n. -/
def partI (i : Int) : Nat → Nat → (Nat → Prop) → Prop
  | 0, _, _ => False
  | 1, j, go => go j
  | n + 2, j, go => cond (ieq i j) (go j) (partI i (n + 1) (j + 1) go)

/-- A row that has grown: whatever its capacity, its cells beyond being zeros. -/
def exactO (e : TypeId) (c : TC) (z : c.den) (H : Heap) (n : Nat) (xs : List c.den) (go : AV → Heap → Prop) : Prop :=
  ∀ j : Nat, go (.osl H.length [] c.size 0 n (some (n + j))) (H ++ [.cell true e (.arr (n + j) c (xs ++ List.replicate j z))])

def undefs (n : Nat) : List AV := List.replicate n AV.undef

def elemD (E : Env) (d : ATy) : Option (TypeId × ATy) :=
  match d.desc with
  | .slice e => match E.ty e with | some x => some (e, x) | none => none
  | .array _ e => match E.ty e with | some x => some (e, x) | none => none
  | _ => none

def elemSz (E : Env) (d : ATy) : Option Nat :=
  match d.desc with
  | .array _ e => match E.ty e with | some x => some x.size | none => none
  | _ => some 0

def isSl (d : ATy) : Bool := match d.desc with | .slice _ => true | _ => false

def isSlice (E : Env) (ts : Array TypeId) : Bool :=
  match ts[0]? with
  | some t => match E.ty t with
    | some d => match d.desc with | .slice _ => true | _ => false
    | none => false
  | none => false

/-- An append of some known elements, all of it decided. -/
def appD (E : Env) (H : Heap) (t1 : TypeId) (s x : AV) : Option (List Prop × AV × Heap) :=
  match E.ty t1 with
  | some d => match elemD E d with
    | some (e, de) => match isSl d, de.code with
      | true, some c => if c.size = de.size ∧ de.size ≠ 0 then
        match appL c H x with
        | some (q, ys) => match s, ys with
            | .raw (.slice none 0 0), [] => some (q, .raw (.slice none 0 0), H)
            | .raw (.slice none 0 0), y :: ys => some (q ++ [(y :: ys).length * de.bytes ≤ 2 ^ 40, (y :: ys).length ≤ 2 ^ 40], .osl H.length [] c.size 0 (y :: ys).length none, H ++ [.cell true e (.arr (y :: ys).length c (y :: ys))])
            | .osl ob [] s0 0 len none, ys => match H[ob]? with
              | some (.cell true t (.arr m c' xs)) =>
                if h : c' = c then
                  if s0 = c.size ∧ t = e then some (q ++ [len = m, (len + ys.length) * de.bytes ≤ 2 ^ 40, len + ys.length ≤ 2 ^ 40], .osl H.length [] s0 0 (len + ys.length) none,
                    H.set ob .dead ++ [.cell true e (.arr (len + ys.length) c ((h ▸ xs : List c.den) ++ ys))])
                  else none
                else none
              | _ => none
            | .osl ob [] s0 off len (some k), y :: ys => match H[ob]? with
              | some (.cell true t (.arr m c' xs)) =>
                if h : c' = c then
                  if s0 = c.size ∧ t = e ∧ k < len + (y :: ys).length then some (q ++ [off + len ≤ m, (len + (y :: ys).length) * de.bytes ≤ 2 ^ 40, len + (y :: ys).length ≤ 2 ^ 40], .osl H.length [] s0 0 (len + (y :: ys).length) none,
                    H ++ [.cell true e (.arr (len + (y :: ys).length) c ((((h ▸ xs : List c.den).drop off).take len) ++ y :: ys))])
                  else none
                else none
              | _ => none
            | _, _ => none
        | none => none
        else none
      | _, _ => none
    | none => none
  | none => none

/-- An append to a row of one's own that may be nil. -/
def appR (E : Env) (H : Heap) (t1 : TypeId) (s x : AV) : Option (List Prop × AV × Heap) :=
  match E.ty t1 with
  | some d => match elemD E d with
    | some (e, de) => match isSl d, de.code with
      | true, some c => if c.size = de.size ∧ de.size ≠ 0 then
        match appL c H x with
        | some (q, ys) => match s with
            | .raw (.slice none 0 0) => some (q ++ [ys.length * de.bytes ≤ 2 ^ 40, ys.length ≤ 2 ^ 40], .row H.length c.size ys.length, H ++ [.row e c ys])
            | .row ob s0 len => match H[ob]? with
              | some (.row t c' xs) =>
                if h : c' = c then
                  if s0 = c.size ∧ t = e then some (q ++ [len = xs.length, (len + ys.length) * de.bytes ≤ 2 ^ 40, len + ys.length ≤ 2 ^ 40], .row H.length s0 (len + ys.length),
                    H.set ob .dead ++ [.row e c ((h ▸ xs : List c.den) ++ ys)])
                  else none
                else none
              | _ => none
            | _ => none
        | none => none
        else none
      | _, _ => none
    | none => none
  | none => none

mutual
/-- Rows that may be nil, as plain data from now on. -/
def sealV (H : Heap) : AV → Option (List Prop × AV × Heap)
  | .row o s n => match H[o]? with
    | some (.row _ c xs) => if s = c.size then some ([n = xs.length], .fsl c xs, H.set o .dead) else none
    | _ => none
  | .agg ss vs => match sealL H vs with
    | some (q, us, H) => some (q, .agg ss us, H)
    | none => none
  | v => some ([], v, H)
def sealL (H : Heap) : List AV → Option (List Prop × List AV × Heap)
  | [] => some ([], [], H)
  | v :: vs => match sealV H v with
    | some (q, u, H) => match sealL H vs with
      | some (q', us, H) => some (q ++ q', u :: us, H)
      | none => none
    | none => none
end

/-- An append of zeros, some of them, past the capacity. -/
def zerosA (E : Env) (H : Heap) (t1 t2 : TypeId) (s x : AV) : Option (List Prop × AV × Heap) :=
  match E.ty t1, E.ty t2, x with
  | some d, some d2, .int _ n => match d2.desc, elemD E d with
    | .int _, some (e, de) => match isSl d, de.code with
      | true, some c => match toD c de.zero with
        | some z => if c.size = de.size ∧ de.size ≠ 0 then
            match s with
            | .raw (.slice none 0 0) => some ([0 < n, n.toNat * de.bytes ≤ 2 ^ 40, n.toNat ≤ 2 ^ 40], .osl H.length [] c.size 0 n.toNat none, H ++ [.cell true e (.arr n.toNat c (List.replicate n.toNat z))])
            | .osl ob [] s0 off len (some k) => match H[ob]? with
              | some (.cell true t (.arr m c' xs)) =>
                if h : c' = c then
                  if s0 = c.size ∧ t = e then some ([0 < n, k < len + n.toNat, off + len ≤ m, (len + n.toNat) * de.bytes ≤ 2 ^ 40, len + n.toNat ≤ 2 ^ 40], .osl H.length [] s0 0 (len + n.toNat) none,
                    H ++ [.cell true e (.arr (len + n.toNat) c ((((h ▸ xs : List c.den).drop off).take len) ++ List.replicate n.toNat z))])
                  else none
                else none
              | _ => none
            | _ => none
          else none
        | none => none
      | _, _ => none
    | _, _ => none
  | _, _, _ => none

/-- The operations that neither call nor part the way. -/
def aop (E : Env) (T : List AV) (H : Heap) (o : Oper) : Option (List Prop × AV × Heap) :=
  match o.op with
  | .move x | .assign x => match ev E T x with | some v => some ([], v, H) | none => none
  | .pick c a b => match ev E T c, ev E T a, ev E T b with | some (.bool c), some a, some b => some ([], pickA c a b, H) | _, _, _ => none
  | .alloc t => match E.ty t with | some d => boxA d t d.zero H | none => none
  | .box t x => match E.ty t, ev E T x with | some d, some v => boxA d t v H | _, _ => none
  | .build t parts => match E.ty t, evParts E T parts.toList with
    | some d, some ps => match elemSz E d with
      | some s => match buildA E d s ps with
        | some (q, v) => if aggB v = true then some (q, v, H) else none
        | none => none
      | none => none
    | _, _ => none
  | .buildSlice t len parts => match E.ty t, evParts E T parts.toList with
    | some d, some ps => match d.desc with
      | .slice e => match E.ty e with
        | some de => match de.code with
          | some c => match toD c de.zero with
            | some z => if c.size = de.size ∧ len * de.size ≤ 2 ^ 24 ∧ de.size ≠ 0 then
                match settle H ps with
                | some (q0, ps, H) => match fillA (fun i => some (.idx de.size i, de.size)) (.arr len c (List.replicate len z)) ps with
                  | some (q, v) => if szV v = len * de.size then some (q0 ++ q, .osl H.length [] de.size 0 len (some len), H ++ [.cell true e v]) else none
                  | none => none
                | none => none
              else none
            | none => none
          | none => if len * de.size ≤ 2 ^ 24 ∧ de.size ≠ 0 then
                match fillA (fun i => some (.idx de.size i, de.size)) (zerosL de len) ps with
                | some (q, v) => if szV v = len * de.size then some (q, .osl H.length [] de.size 0 len (some len), H ++ [.cell true e v]) else none
                | none => none
              else none
        | none => none
      | _ => none
    | _, _ => none
  | .load t a => match E.ty t, ev E T a with
    | some d, some a => match loadA H a with
      | some (q, v) => if szV v = d.size ∧ aggB v = d.agg then some (q, v, H) else none
      | none => none
    | _, _ => none
  | .store t a x => match E.ty t, ev E T a, ev E T x with
    | some d, some a, some x => if szV x = d.size ∧ ntB x = true then (match storeA H a x with | some (q, H') => some (q, .undef, H') | none => none) else none
    | _, _, _ => none
  | .nilCheck x => match ev E T x with
    | some (.ptr o p) => some ([], .ptr o p, H)
    | some (.ref v) => some ([], .ref v, H)
    | some (.fn f cs) => some ([], .fn f cs, H)
    | some (.yld l) => some ([], .yld l, H)
    | _ => none
  | .binOp op t x y _ => match ev E T x, ev E T y with
    | some x, some y => match bin op (E.ty t) x y with
      | some (q, v) => some (q, v, H)
      | none => match binS E op t x y with
        | some v => some ([], v, H)
        | none => none
    | _, _ => none
  | .unOp op _ x => match ev E T x with
    | some x => match un op x with | some v => some ([], v, H) | none => none
    | none => none
  | .convert src dst x => match E.ty src, E.ty dst, ev E T x with
    | some _, some d, some (.int _ n) => match d.desc with | .int k => some ([], .int k (iconv k n), H) | _ => none
    | some s, some d, some v => match strA E s d v with | some u => some ([], u, H) | none => none
    | _, _, _ => none
  | .makeFunc (.func f) first caps => match first.toList, evs E T caps.toList with
    | [], some cs => if cs.all (fun v => !aggB v && ntB v) = true then some ([], .fn f cs, H) else none
    | x :: l, some [] => match evs E T (x :: l) with
      | some cs => if cs.all (fun v => !aggB v && ntB v) = true then some ([], .bnd f cs, H) else none
      | none => none
    | _, _ => none
  | .fieldAddr s x f => match E.ty s, ev E T x with
    | some d, some x => match fieldAddrA E d x f with | some (q, v) => some (q, v, H) | none => none
    | _, _ => none
  | .field s x f => match E.ty s, ev E T x with
    | some d, some x => match fieldA E d x f with | some (q, v) => some (q, v, H) | none => none
    | _, _ => none
  | .indexAddr t x i => match E.ty t, ev E T x, ev E T i with
    | some d, some x, some i => match elemD E d with
      | some (_, e) => match indexAddrA d e.size x i with | some (q, v) => some (q, v, H) | none => none
      | none => none
    | _, _, _ => none
  | .index t x i => match E.ty t, ev E T x, ev E T i with
    | some d, some x, some i => match elemD E d with
      | some (_, e) => match indexA d e x i with | some (q, v) => some (q, v, H) | none => none
      | none => match indexS d x i with | some (q, v) => some (q, v, H) | none => none
    | _, _, _ => none
  | .slice t x lo hi none => match E.ty t, ev E T x, evO E T lo, evO E T hi with
    | some d, some x, some lo, some hi => match sliceSz E d with
      | some s => match sliceA d s x lo hi with | some (q, v) => some (q, v, H) | none => none
      | none => none
    | _, _, _, _ => none
  | .extract x i => match ev E T x with
    | some (.tup vs) => match vs[i]? with | some v => some ([], v, H) | none => none
    | _ => none
  | .call { callee := .builtin b, args, argTypes } => match b, evs E T args.toList with
    | .min, some [.int k a, .int k' b] => if k = k' then some ([], .int k (imin a b), H) else none
    | .max, some [.int k a, .int k' b] => if k = k' then some ([], .int k (imax a b), H) else none
    | .len, some [.fsl _ xs] => if isSlice E argTypes = true then some ([], .int .i64 xs.length, H) else none
    | .len, some [.osl _ _ _ _ len _] => if isSlice E argTypes = true then some ([], .int .i64 len, H) else none
    | .len, some [.raw (.slice none 0 0)] => if isSlice E argTypes = true then some ([], .int .i64 0, H) else none
    | .cap, some [.osl _ _ _ _ _ (some k)] => if isSlice E argTypes = true then some ([], .int .i64 k, H) else none
    | .cap, some [.raw (.slice none 0 0)] => if isSlice E argTypes = true then some ([], .int .i64 0, H) else none
    | .copy, some [d, x] => match argTypes[0]? with
      | some t => match E.ty t with
        | some dd => match elemD E dd with
          | some (_, de) => if isSl dd = true then copyA de.size H d x else none
          | none => none
        | none => none
      | none => none
    | _, _ => none
  | .makeSlice t len cap => match E.ty t, ev E T len, ev E T cap with
    | some d, some l, some c => match elemD E d with
      | some (e, de) => if isSl d = true then makeA e de H l c else none
      | none => none
    | _, _, _ => none
  | .makeMap _ none => some ([], .mp H.length, H ++ [.map []])
  | .insert t m k x => match E.ty t, ev E T m, ev E T k, ev E T x with
    | some d, some (.mp o), some (.int kk n), some v => match d.desc, H[o]? with
      | .map kt _, some (.map es) => match E.ty kt with
        | some dk => match dk.desc with
          | .int _ => if newKey kk n es = true ∧ ntB v = true then some ([], .undef, H.set o (.map (es ++ [(.int kk n, v)]))) else none
          | _ => none
        | none => none
      | _, _ => none
    | _, _, _, _ => none
  | .lookup t m k ok => match E.ty t, ev E T m, ev E T k with
    | some d, some (.mp ob), some (.int kk n) => match d.desc, H[ob]? with
      | .map kt et, some (.map es) => match E.ty kt, E.ty et with
        | some dk, some de => match dk.desc with
          | .int _ => match lookF n kk de.zero es with
            | some (v, fl) => some ([], lookV ok v fl, H)
            | none => none
          | _ => none
        | _, _ => none
      | _, _ => none
    | _, _, _ => none
  | .mapUpdate t m k x => match E.ty t, ev E T m, ev E T k, ev E T x with
    | some d, some (.mp o), some (.int kk n), some v => match d.desc, H[o]? with
      | .map kt _, some (.map es) => match E.ty kt with
        | some dk => match dk.desc with
          | .int _ => if newKey kk n es = true ∧ ntB v = true then some ([], .undef, H.set o (.map (es ++ [(.int kk n, v)]))) else none
          | _ => none
        | none => none
      | _, _ => none
    | _, _, _, _ => none
  | _ => none

/-- A look into a map, the way parted by the key. -/
def lookD (E : Env) (T : List AV) (H : Heap) (o : Oper) (go : AV → Prop) : Prop :=
  match o.op with
  | .lookup t m k ok => match E.ty t, ev E T m, ev E T k with
    | some d, some (.mp ob), some (.int kk n) => match d.desc, H[ob]? with
      | .map kt et, some (.map es) => match E.ty kt, E.ty et with
        | some dk, some de => match dk.desc with
          | .int _ => match mergeL n kk de.zero es with
            | some (v, fl) => go (lookV ok v fl)
            | none => lookA n kk de.zero (fun v fl => go (lookV ok v fl)) es
          | _ => False
        | _, _ => False
      | _, _ => False
    | _, _, _ => False
  | _ => False

/-- An append to nil of a row of which is not known whether it is empty, the way parted. -/
def appDD (E : Env) (T : List AV) (H : Heap) (o : Oper) (go : AV → Heap → Prop) : Prop :=
  match o.op with
  | .call { callee := .builtin .append, args, argTypes } => match argTypes.toList, evs E T args.toList with
    | [t1, t2], some [s, x] => if t1 = t2 then
      match E.ty t1 with
      | some d => match elemD E d with
        | some (e, de) => match isSl d, de.code with
          | true, some c => if c.size = de.size ∧ de.size ≠ 0 then
            match appL c H x with
            | some (q, ys) => match s with
              | .raw (.slice none 0 0) => obl q (cond (ieq ys.length 0) (go s H) (obl [ys.length * de.bytes ≤ 2 ^ 40, ys.length ≤ 2 ^ 40] (go (.osl H.length [] c.size 0 ys.length none) (H ++ [.cell true e (.arr ys.length c ys)]))))
              | _ => False
            | none => False
            else False
          | _, _ => False
        | none => False
      | none => False
      else False
    | _, _ => False
  | _ => False

def isLook : Op → Bool
  | .lookup .. => true
  | _ => false

/-- An append to nil? -/
def isApp (E : Env) (T : List AV) : Op → Bool
  | .call { callee := .builtin .append, args, .. } => match evs E T args.toList with
    | some [.raw (.slice none 0 0), _] => !E.rows
    | _ => false
  | _ => false

def entT (fn : Func) (args : List AV) : List AV := args ++ undefs (fn.ntmps - args.length)

def setPs (T : List AV) : List Nat → List AV → List AV
  | p :: ps, v :: vs => setPs (T.set p v) ps vs
  | _, _ => T

def condT (T : List AV) (c : Operand) (b : Bool) : List AV :=
  match c with
  | .tmp t => T.set t (.bool b)
  | _ => T

/-- An append whose capacities are told. -/
def appX (E : Env) (H : Heap) (t1 t2 : TypeId) (s x : AV) (go : AV → Heap → Prop) : Prop :=
  match E.ty t1, E.ty t2 with
  | some d, some d2 => match elemD E d with
    | some (e, de) => match isSl d, de.code with
      | true, some c => match toD c de.zero with
        | some z => if c.size = de.size ∧ de.size ≠ 0 then
            match d2.desc with
            | .int _ => match x with
              | .int _ n => match s with
                | .raw (.slice none 0 0) => obl [0 < n, n.toNat * de.bytes ≤ 2 ^ 40, n.toNat ≤ 2 ^ 40] (exactO e c z H n.toNat (List.replicate n.toNat z) go)
                | .osl ob [] s0 off len (some k) => match H[ob]? with
                  | some (.cell true t (.arr m c' xs)) =>
                    if h : c' = c then
                      if s0 = c.size ∧ t = e then obl [0 < n, k < len + n.toNat, off + len ≤ m, (len + n.toNat) * de.bytes ≤ 2 ^ 40, len + n.toNat ≤ 2 ^ 40]
                        (exactO e c z H (len + n.toNat) ((((h ▸ xs : List c.den).drop off).take len) ++ List.replicate n.toNat z) go)
                      else False
                    else False
                  | _ => False
                | _ => False
              | _ => False
            | _ => if t1 = t2 then match appL c H x with
              | some (q, ys) => match s with
                | .raw (.slice none 0 0) => obl q (cond (ieq ys.length 0) (go s H) (obl [ys.length * de.bytes ≤ 2 ^ 40, ys.length ≤ 2 ^ 40] (exactO e c z H ys.length ys go)))
                | .osl ob [] s0 off len (some k) => match H[ob]? with
                  | some (.cell true t (.arr m c' xs)) =>
                    if h : c' = c then
                      if s0 = c.size ∧ t = e then obl q (cond (ilt k ((len + ys.length : Nat) : Int))
                        (obl [off + len ≤ m, (len + ys.length) * de.bytes ≤ 2 ^ 40, len + ys.length ≤ 2 ^ 40] (exactO e c z H (len + ys.length) ((((h ▸ xs : List c.den).drop off).take len) ++ ys) go))
                        (obl [off + len + ys.length ≤ m] (go (.osl ob [] s0 off (len + ys.length) (some k)) (H.set ob (.cell true e (.arr m c (spliceL (h ▸ xs : List c.den) (off + len) ys)))))))
                      else False
                    else False
                  | _ => False
                | _ => False
              | none => False
              else False
          else False
        | none => False
      | _, _ => False
    | none => False
  | _, _ => False

abbrev Cfg := Fr → List Fr → Heap → Prop

def isRet : Option Code → Bool
  | none => true
  | some .ret => true
  | _ => false

/-- What is handed back, seen as plain data; what it has a hand on is frozen. -/
def viewT (H : Heap) (v : AV) : Option (List Prop × AV × Heap) :=
  match v with
  | .tup vs => match freezeA H (handsOfL vs) with
    | some H2 => match views H2 vs with
      | some (q, us) => if us.all ntB = true then some (q, .tup us, H2) else none
      | none => none
    | none => none
  | v => match freezeA H (handsOf v) with
    | some H2 => match view H2 v with
      | some (q, u) => some (q, u, H2)
      | none => none
    | none => none

/-- A frame is left: off its end, or by a jump. -/
def leave (E : Env) (Q : AV → Heap → Prop) (K : Cfg) (fr : Fr) (j : Option Code) (stk : List Fr) (H : Heap) : Prop :=
  match fr.kind, stk with
  | .round l dst, fr' :: stk' => match H[l]? with
    | some (.loop _ _ f T ps a b d) => if fr.D.isEmpty = true then K { fr' with T := setO fr'.T dst (.bool j.isNone) } stk' (H.set l (.loop (if j.isNone then .ready else .done) j f T ps a b d)) else False
    | _ => False
  | kind, stk => if isRet j then
      match E.fns fr.id with
      | some fn => match clearDs H fr.D with
        | some H' => match resF E H' fr.T fn with
         | some (q, v) => obl q (match kind, stk with
          | .top, [] => Q v H'
          | .call dst, fr' :: stk' => K { fr' with T := setO fr'.T dst v } stk' H'
          | .iter _, fr' :: stk' => K fr' stk' H'
          | _, _ => False)
         | none => False
        | none => False
      | none => False
    else False

def blkOf : List It → Nat
  | .blk id :: _ => id
  | _ => 0

/-- A contract's answer that is the caller's own. -/
def ownA (e : Own) (o : Nat) : (c : TC) → c.den → Option (AV × AObj)
  | .slice c, xs => (match e with
    | .row e => some (.osl o [] c.size 0 xs.length none, .cell true e (.arr xs.length c xs))
    | .mp _ => none)
  | .junk, _ => (match e with
    | .row _ => none
    | .mp es => some (.mp o, .map es))
  | _, _ => none

/-- An operation that neither calls nor parts the way. -/
def plainA (E : Env) (T : List AV) (H : Heap) (o : Oper) (go : List AV → Heap → Prop) : Prop :=
  match aop E T H o with
  | some (q, v, H') => obl q (go (setO T o.dst v) H')
  | none => False

/-- An operation is carried out; 'go' goes on. -/
def execA (E : Env) (K : Cfg) (go : List AV → Heap → Prop) (fr : Fr) (stk : List Fr) (H : Heap) (o : Oper) : Prop :=
  let T := fr.T
  match o.op with
  | .call { callee := .value f, args, .. } => match ev E T f, evs E T args.toList with
    | some (.fn f caps), some as =>
      if E.apart f = true then match apartA H (as ++ caps) with
        | some q => obl q (go (setO T o.dst (.bool false)) H)
        | none => False
      else match E.sort f with
      | some sd => match sortA sd H (as ++ caps) with
        | some (q, v, H') => obl q (go (setO T o.dst v) H')
        | none => False
      | none => match E.spec f with
      | some sp =>
        if sp.cod.flat then
          match views H (as ++ caps) with
          | some (q, us) => match argsD sp.dom us with
            | some x => obl q (sp.pre x ∧ go (setO T o.dst (resV sp.n sp.cod (sp.f x))) H)
            | none => False
          | none => False
        else
          match freezeA H (handsOfL (as ++ caps)) with
          | some H' => match views H' (as ++ caps) with
            | some (q, us) => match argsD sp.dom us with
              | some x => obl q (sp.pre x ∧ match sp.own with
                | none => go (setO T o.dst (resV sp.n sp.cod (sp.f x))) H'
                | some e => match ownA e H'.length sp.cod (sp.f x) with
                  | some (v, ob) => go (setO T o.dst v) (H' ++ [ob])
                  | none => False)
              | none => False
            | none => False
          | none => False
      | none => match E.fns f with
        | some fn => match fn.body with
          | some c => K { id := f, kind := .call o.dst, T := entT fn (as ++ caps), items := [.code c], D := [], base := H.length } (fr :: stk) H
          | none => False
        | none => False
    | some (.bnd f fs), some as => match E.fns f with
      | some fn => match fn.body with
        | some c => K { id := f, kind := .call o.dst, T := entT fn (fs ++ as), items := [.code c], D := [], base := H.length } (fr :: stk) H
        | none => False
      | none => False
    | some (.yld l), some as => match H[l]? with
      | some (.loop _ _ f T0 ps a b _) =>
        if as.length = ps.length then
          K { id := f, kind := .round l o.dst, T := setPs T0 ps as, items := [.code a, .begin l, .code b], D := [], base := H.length } (fr :: stk) H
        else False
      | _ => False
    | _, _ => False
  | .call { callee := .builtin .append, args, argTypes } => match argTypes.toList, evs E T args.toList with
    | [t1, t2], some [s, x] => if E.rowf fr.id = true then (if t1 = t2 then (match appR E H t1 s x with
      | some (q, v, H') => obl q (go (setO T o.dst v) H')
      | none => False) else False) else if E.exact fr.id = true then appX E H t1 t2 s x (fun v H => go (setO T o.dst v) H) else if t1 = t2 then
      match E.ty t1 with
      | some d => match elemD E d with
        | some (e, de) => match isSl d, de.code with
          | true, some c => if c.size = de.size ∧ de.size ≠ 0 then
            match appL c H x with
            | some (q, ys) => match s with
              | .raw (.slice none 0 0) => obl q (cond (ieq ys.length 0) (go (setO T o.dst s) H)
                  (ys.length * de.bytes ≤ 2 ^ 40 ∧ ys.length ≤ 2 ^ 40 ∧ go (setO T o.dst (.osl H.length [] c.size 0 ys.length none)) (H ++ [.cell true e (.arr ys.length c ys)])))
              | .osl ob [] s 0 len none => match H[ob]? with
                | some (.cell true t (.arr m c' xs)) =>
                  if h : c' = c then
                    if s = c.size ∧ t = e then obl q (len = m ∧ (len + ys.length) * de.bytes ≤ 2 ^ 40 ∧ len + ys.length ≤ 2 ^ 40 ∧
                      go (setO T o.dst (.osl H.length [] s 0 (len + ys.length) none)) (H.set ob .dead ++ [.cell true e (.arr (len + ys.length) c ((h ▸ xs : List c.den) ++ ys))]))
                    else False
                  else False
                | _ => False
              | .osl ob [] s off len (some k) => match H[ob]? with
                | some (.cell true t (.arr m c' xs)) =>
                  if h : c' = c then
                    if s = c.size ∧ t = e then obl q (cond (ilt k ((len + ys.length : Nat) : Int))
                      (off + len ≤ m ∧ (len + ys.length) * de.bytes ≤ 2 ^ 40 ∧ len + ys.length ≤ 2 ^ 40 ∧
                        go (setO T o.dst (.osl H.length [] s 0 (len + ys.length) none)) (H ++ [.cell true e (.arr (len + ys.length) c ((((h ▸ xs : List c.den).drop off).take len) ++ ys))]))
                      (off + len + ys.length ≤ m ∧
                        go (setO T o.dst (.osl ob [] s off (len + ys.length) (some k))) (H.set ob (.cell true e (.arr m c (spliceL (h ▸ xs : List c.den) (off + len) ys))))))
                    else False
                  else False
                | _ => False
              | _ => False
            | none => False
            else False
          | _, _ => False
        | none => False
      | none => False
      else match zerosA E H t1 t2 s x with
        | some (q, v, H') => obl q (go (setO T o.dst v) H')
        | none => False
    | _, _ => False
  | .lookup t m k ok => match E.ty t, ev E T m, ev E T k with
    | some d, some (.mp ob), some (.int kk n) => match d.desc, H[ob]? with
      | .map kt et, some (.map es) => match E.ty kt, E.ty et with
        | some dk, some de => match dk.desc with
          | .int _ => match mergeL n kk de.zero es with
            | some (v, fl) => go (setO T o.dst (lookV ok v fl)) H
            | none => lookA n kk de.zero (fun v fl => go (setO T o.dst (lookV ok v fl)) H) es
          | _ => False
        | _, _ => False
      | _, _ => False
    | _, _, _ => False
  | .indexAddr t x i => match E.ty t, ev E T x, ev E T i with
    | some d, some u, some (.int k n) => match d.desc, manyA H u, elemD E d with
      | .array m _, true, some (_, e) => obl [0 ≤ n, n < m] (partI n m 0 fun j => match indexAddrA d e.size u (.int k j) with
        | some (q, v) => obl q (go (setO T o.dst v) H)
        | none => False)
      | _, _, _ => plainA E T H o go
    | _, _, _ => plainA E T H o go
  | .slice t x none none none => match E.ty t, ev E T x with
    | some d, some (.ptr ob p) => match d.desc with
      | .array n el => match E.ty el, H[ob]? with
        | some ee, some (.cell _ _ v) => match getP v p with
          | some (q, .arr m c _) => if m = n ∧ c.size = ee.size then obl q (go (setO T o.dst (.osl ob p ee.size 0 n (some n))) H) else False
          | _ => False
        | _, _ => False
      | _ => False
    | _, _ => plainA E T H o go
  | .convert src dst x => match E.ty src, E.ty dst, ev E T x with
    | some s, some d, some (.osl ob p sz off len cap) => match view H (.osl ob p sz off len cap) with
      | some (q, u) => match strA E s d u with
        | some z => obl q (go (setO T o.dst z) H)
        | none => False
      | none => False
    | _, _, _ => plainA E T H o go
  | .index t x i => match E.ty t, ev E T x, ev E T i with
    | some d, some (.agg ss vs), some (.int k n) => match d.desc, elemD E d with
      | .array m _, some (_, e) => obl [0 ≤ n, n < m] (partI n m 0 fun j => match indexA d e (.agg ss vs) (.int k j) with
        | some (q, v) => obl q (go (setO T o.dst v) H)
        | none => False)
      | _, _ => plainA E T H o go
    | _, _, _ => plainA E T H o go
  | .binOp op t x y _ => match ev E T x, ev E T y with
    | some (.fsl _ xs), some (.raw (.slice none 0 0)) => match E.ty t with
      | some d => match d.desc, op with
        | .slice _, .eql => cond (ieq xs.length 0) (And (go (setO T o.dst (.bool true)) H) (go (setO T o.dst (.bool false)) H)) (go (setO T o.dst (.bool false)) H)
        | .slice _, .neq => cond (ieq xs.length 0) (And (go (setO T o.dst (.bool false)) H) (go (setO T o.dst (.bool true)) H)) (go (setO T o.dst (.bool true)) H)
        | _, _ => False
      | none => False
    | _, _ => plainA E T H o go
  | _ => plainA E T H o go

/-- Does an operation look at the heap, does it change it? -/
def readsH : Op → Bool
  | .load .. | .store .. | .alloc _ | .box .. | .buildSlice .. | .makeMap .. | .insert .. | .mapUpdate .. | .makeSlice .. | .lookup .. => true
  | .call { callee := .builtin .copy, .. } => true
  | .call { callee := .builtin .append, .. } => true
  | .call { callee := .value _, .. } => true
  | _ => false

def writesH : Op → Bool
  | .store .. | .alloc _ | .box .. | .buildSlice .. | .makeMap .. | .insert .. | .mapUpdate .. | .makeSlice .. => true
  | .call { callee := .builtin .copy, .. } => true
  | .call { callee := .builtin .append, .. } => true
  | _ => false

/-- A temporary that leads to this object, if to any. -/
def okT (ob : Nat) : Option AV → Bool
  | some (.ptr ob' _) => ob' == ob
  | some (.ref _) => false
  | _ => true

/-- The object that a temporary leads to: one that the region leaves alone, or that it makes of such a one. -/
def rootOf (T : List AV) (ops : Array Oper) : Nat → Nat → Option Nat
  | 0, _ => none
  | n + 1, a => if ops.all (fun x => x.dst != some a) = true then (match T[a]? with | some (.ptr ob _) => some ob | _ => none)
    else match ops.toList.filter (fun x => x.dst == some a) with
      | [o] => match (match o.op with
          | .fieldAddr _ (.tmp b) _ => rootOf T ops n b
          | .nilCheck (.tmp b) => rootOf T ops n b
          | _ => none) with
        | some ob => if okT ob T[a]? = true then some ob else none
        | none => none
      | _ => none

/-- The object that a load or a store looks at. -/
def objAt (T : List AV) (ops : Array Oper) (o : Oper) : Option Nat :=
  match o.op with
  | .load _ (.tmp a) => rootOf T ops 8 a
  | .store _ (.tmp a) _ => rootOf T ops 8 a
  | _ => none

def twoObjs (T : List AV) (ops : Array Oper) (x y : Oper) : Bool :=
  match objAt T ops x, objAt T ops y with
  | some a, some b => a != b
  | _, _ => false

/-- An operation that looks at the heap alone; one that makes new things alone. -/
def loadsB : Op → Bool
  | .load _ _ => true
  | .call { callee := .value _, .. } => true
  | _ => false

def growsB : Op → Bool
  | .alloc _ | .box .. | .buildSlice .. | .makeMap .. | .makeSlice .. => true
  | _ => false

/-- A call whose result is the caller's own. -/
def ownCall (E : Env) : Op → Bool
  | .call { callee := .value (.func f), .. } => match E.spec f with | some sp => sp.own.isSome | none => false
  | _ => false

def loadsE (E : Env) (o : Op) : Bool := loadsB o && !ownCall E o
def growsE (E : Env) (o : Op) : Bool := growsB o || ownCall E o
def writesE (E : Env) (o : Op) : Bool := writesH o || ownCall E o

def apartS (E : Env) (T : List AV) (ops : Array Oper) (x y : Oper) : Bool := x.apart ops y && (twoObjs T ops x y || (loadsE E x.op && growsE E y.op) || (!(writesE E x.op && readsH y.op) && !(writesE E y.op && readsH x.op)))

/-- The operations that wait for the i-th, one behind the other. -/
def depsFrom (ops : Array Oper) (i : Nat) : List Nat → List Nat → List Nat
  | [], acc => acc
  | j :: js, acc => depsFrom ops i js (match ops[j]? with
    | some oj => if oj.after.any (fun e => Region.binds .any e && (e.on == i || acc.contains e.on)) then j :: acc else acc
    | none => acc)

def deps (ops : Array Oper) (i : Nat) : List Nat := depsFrom ops i (List.range ops.size) []

def freeWith (E : Env) (T : List AV) (ops : Array Oper) (listed : Array Bool) (i : Nat) (D : List Nat) : Bool :=
  D.all (fun j => !listed.getD j true) && (match ops[i]? with
  | some oi => (List.range ops.size).all fun j => j == i || listed.getD j true || D.contains j || (match ops[j]? with
    | some oj => apartS E T ops oi oj
    | none => true)
  | none => true)

def freeS (E : Env) (T : List AV) (ops : Array Oper) (listed : Array Bool) (i : Nat) : Bool := freeWith E T ops listed i (deps ops i)

def lexFromS (E : Env) (T : List AV) (ops : Array Oper) : Nat → Nat → Array Bool → Bool
  | 0, _, listed => (Region.ready .any ops listed).isEmpty
  | f + 1, k, listed => (Region.ready .any ops listed).contains k && freeS E T ops listed k && lexFromS E T ops f (k + 1) (listed.setIfInBounds k true)

/-- One order stands for all. -/
def lexOK (E : Env) (T : List AV) (ops : Array Oper) : Bool := Region.noSelect ops && lexFromS E T ops ops.size 0 (Array.replicate ops.size false)

/-- Objects that are frozen already. -/
def frozenB (H : Heap) (os : List Nat) : Bool := os.all fun o => match H[o]? with | some (.cell false _ _) => true | _ => false

/-- What an operation makes, frozen at once (where the program's part says so). -/
def coldA (E : Env) (r : Option (List Prop × AV × Heap)) : Option (List Prop × AV × Heap) :=
  if E.cold = true then
    (match r with
    | some (q, v, H') => (match freezeA H' (handsOf v) with
      | some H2 => some (q, v, H2)
      | none => none)
    | none => none)
  else r

/-- An operation of a region that draws its order: a value, a heap. -/
def fexec0 (E : Env) (T : List AV) (H : Heap) (o : Oper) : Option (List Prop × AV × Heap) :=
  match o.op with
  | .call { callee := .value f, args, .. } => match ev E T f, evs E T args.toList with
    | some (.fn f caps), some as => match E.spec f with
      | some sp => if (sp.cod.flat || frozenB H (handsOfL (as ++ caps))) = true then
          match views H (as ++ caps) with
          | some (q, us) => match argsD sp.dom us with
            | some x => some (q ++ [sp.pre x], resV sp.n sp.cod (sp.f x), H)
            | none => none
          | none => none
        else none
      | none => none
    | _, _ => none
  | .call { callee := .builtin .append, args, argTypes } => match argTypes.toList, evs E T args.toList with
    | [t1, t2], some [s, x] => if t1 = t2 then (if E.rows = true then appR E H t1 s x else appD E H t1 s x) else none
    | _, _ => none
  | .buildSlice _ _ _ => coldA E (aop E T H o)
  | _ => aop E T H o

def fexecO (E : Env) (T : List AV) (H : Heap) (o : Oper) : Option (List Prop × AV × Heap) :=
  match o.op with
  | .call { callee := .value f, args, .. } => match ev E T f, evs E T args.toList with
    | some (.fn f caps), some as => match E.spec f with
      | some sp => match sp.own with
        | some e => if (handsOfL (as ++ caps)).isEmpty = true then
            match views H (as ++ caps) with
            | some (q, us) => match argsD sp.dom us with
              | some x => match ownA e H.length sp.cod (sp.f x) with
                | some (v, ob) => some (q ++ [sp.pre x], v, H ++ [ob])
                | none => none
              | none => none
            | none => none
          else none
        | none => none
      | none => none
    | _, _ => none
  | _ => none

/-- An operation of a region that draws its order: a value, a heap. -/
def fexec (E : Env) (T : List AV) (H : Heap) (o : Oper) : Option (List Prop × AV × Heap) := if ownCall E o.op = true then fexecO E T H o else fexec0 E T H o

def drawA (E : Env) (all : List Oper) : List Oper → List AV → Heap → (List AV → Heap → Prop) → Prop
  | [], T, H, go => go T H
  | o :: rest, T, H, go =>
    match o.guard with
    | none => if isLook o.op = true then lookD E T H o (fun v => drawA E all rest (setO T o.dst v) H go)
      else if isApp E T o.op = true then appDD E T H o (fun v H => drawA E all rest (setO T o.dst v) H go)
      else match fexec E T H o with
      | some (q, v, H') => obl q (drawA E all rest (setO T o.dst v) H' go)
      | none => False
    | some (j, want) => match (all[j]?).bind (·.dst) with
      | some t => match T[t]? with
        | some (.bool b) => cond (b == want)
            (match fexec E (T.set t (.bool want)) H o with
              | some (q, v, H') => obl q (drawA E all rest (setO (T.set t (.bool want)) o.dst v) H' go)
              | none => False)
            (drawA E all rest (setO (T.set t (.bool (!want))) o.dst .undef) H go)
        | some (.tup _) => drawA E all rest (setO T o.dst .undef) H go
        | _ => False
      | none => False

/-- A drawn region by a schedule. -/
def schA (E : Env) (T0 : List AV) (ops : Array Oper) (go : List AV → Heap → Prop) : Sch → Nat → Array Bool → List AV → Heap → Prop
  | .fin, _, listed, T, H => if (Region.ready .any ops listed).isEmpty = true then go T H else False
  | .one k s, fuel + 1, listed, T, H => match ops[k]? with
    | some o => if ((Region.ready .any ops listed).contains k && freeS E T0 ops listed k) = true then drawA E ops.toList [o] T H (schA E T0 ops go s fuel (listed.setIfInBounds k true)) else False
    | none => False
  | .two j k s s', fuel + 1, listed, T, H => match ops[j]?, ops[k]? with
    | some o, some o' => if (Region.ready .any ops listed == [j, k]) = true then
        And (drawA E ops.toList [o] T H (schA E T0 ops go s fuel (listed.setIfInBounds j true))) (drawA E ops.toList [o'] T H (schA E T0 ops go s' fuel (listed.setIfInBounds k true))) else False
    | _, _ => False
  | _, _, _, _, _ => False

/-- The way parted where a region begins, by a number that a temporary has, or that stands where it leads. -/
def splitA (sp : Option (Nat × List Step × Nat)) (T : List AV) (H : Heap) (go : List AV → Heap → Prop) : Prop :=
  match sp with
  | none => go T H
  | some (t, p, m) => match T[t]? with
    | some (.int k n) => obl [0 ≤ n, n < m] (partI n m 0 fun j => go (T.set t (.int k j)) H)
    | some (.ptr ob p0) => match H[ob]? with
      | some (.cell true ty v) => match getP v (p0 ++ p) with
        | some (q, .int k n) => obl (q ++ [0 ≤ n, n < m]) (partI n m 0 fun j => match setP v (p0 ++ p) (.int k j) with
          | some v' => go T (H.set ob (.cell true ty v'))
          | none => False)
        | _ => False
      | _ => False
    | _ => False

/-- An operation that does nothing. -/
def noOper (o : Oper) : Oper := { o with op := .move (.const (.bool false)), dst := none, guard := none }

/-- The operations, the last one doing nothing. -/
def tailOps (ops : Array Oper) : Array Oper :=
  match ops[ops.size - 1]? with
  | some o => ops.setIfInBounds (ops.size - 1) (noOper o)
  | none => ops

/-- The last operation waits for all others; none waits for one behind it. -/
def tailB (ops : Array Oper) : Bool := (List.range ops.size).all fun j => (j == ops.size - 1 || (deps ops j).contains (ops.size - 1)) && (match ops[j]? with
  | some o => o.after.all fun e => !Region.binds .any e || decide (e.on < j)
  | none => true)

def regionB (E : Env) (K : Cfg) (fr : Fr) (k : List It) (stk : List Fr) (H : Heap) (id : Nat) (ops : Array Oper) (draw : Bool) : Prop :=
  let T := maskT E fr.id id fr.T
  if draw then
    if E.tail fr.id id = true then
      match ops[ops.size - 1]? with
      | some o => if (o.guard.isNone && tailB ops && lexOK E T (tailOps ops)) = true then
          drawA E (tailOps ops).toList (tailOps ops).toList T H (fun T H => execA E K (fun T H => K { fr with T, items := k } stk H) { fr with T, items := k } stk H o)
        else False
      | none => False
    else match E.sched fr.id id with
    | some s => if Region.noSelect ops = true then schA E T ops (fun T H => K { fr with T, items := k } stk H) s ops.size (Array.replicate ops.size false) T H else False
    | none => if lexOK E T ops = true then drawA E ops.toList ops.toList T H (fun T H => K { fr with T, items := k } stk H) else False
    else K { fr with T, items := .ops ops.toList ops.toList :: k } stk H

/-- Where a region begins: the rows in what a temporary leads to, as plain data from now on. -/
def frzA (E : Env) (f : FuncId) (id : Nat) (T : List AV) (H : Heap) : Option (List Prop × Heap) :=
  match E.frz f id with
  | none => some ([], H)
  | some t => match T[t]? with
    | some (.ptr ob _) => match H[ob]? with
      | some (.cell true ty v) => match sealV H v with
        | some (q, u, H') => if szV u = szV v then some (q, H'.set ob (.cell true ty u)) else none
        | none => none
      | _ => none
    | _ => none

def regionA (E : Env) (K : Cfg) (fr : Fr) (k : List It) (stk : List Fr) (H : Heap) (id : Nat) (ops : Array Oper) (draw : Bool) : Prop :=
  match frzA E fr.id id fr.T H with
  | some (q, H) => obl q (splitA (E.split fr.id id) fr.T H fun T H => regionB E K { fr with T } k stk H id ops draw)
  | none => False

def stepR (E : Env) (stop : FuncId → Nat → Nat → Option Cut) (Q : AV → Heap → Prop) (W K : Cfg) (fr : Fr) (stk : List Fr) (H : Heap) : Prop :=
  match fr.items with
  | .lp c :: k => match stop fr.id (2 * blkOf k) fr.base with
    | some g => match cutF g fr H with
      | some (fr', H') => W fr' (cutS g.stk stk) H'
      | none => False
    | none => K { fr with items := .code c :: .lp c :: k } stk H
  | .blk _ :: k => K { fr with items := k } stk H
  | .scp :: k => K { fr with items := k } stk H
  | .begin l :: k => match H[l]? with
    | some (.loop .ready p f T ps a b d) => K { fr with items := k } stk (H.set l (.loop .busy p f T ps a b d))
    | _ => False
  | .fin l :: k => match H[l]? with
    | some (.loop s p f T ps a b d) =>
      if s == .busy then False else
        match p with
        | none => K { fr with items := k } stk (H.set l (.loop .exhausted p f T ps a b d))
        | some c => K { fr with items := .code c :: k } stk (H.set l (.loop .exhausted p f T ps a b d))
    | _ => False
  | .ops _ [] :: k => K { fr with items := k } stk H
  | .ops all (o :: rest) :: k =>
    match o.guard with
    | none => execA E K (fun T H => K { fr with T, items := .ops all rest :: k } stk H) { fr with items := .ops all rest :: k } stk H o
    | some (j, want) => match (all[j]?).bind (·.dst) with
      | some t => match fr.T[t]? with
        | some (.bool b) =>
          cond (b == want)
            (execA E K (fun T H => K { fr with T, items := .ops all rest :: k } stk H) { fr with T := fr.T.set t (.bool want), items := .ops all rest :: k } stk H o)
              (K { fr with T := setO (fr.T.set t (.bool (!want))) o.dst .undef, items := .ops all rest :: k } stk H)
        | some (.tup _) => K { fr with T := setO fr.T o.dst .undef, items := .ops all rest :: k } stk H
        | _ => False
      | none => False
  | .now c :: k => match c with
    | .region id ops draw => regionA E K fr k stk H id ops draw
    | _ => False
  | .code c :: k =>
    match c with
    | .skip => K { fr with items := k } stk H
    | .label _ => K { fr with items := k } stk H
    | .seq a b => K { fr with items := .code a :: .code b :: k } stk H
    | .cond c t e => match ev E fr.T c with
      | some (.bool b) => cond b (K { fr with T := condT fr.T c true, items := .code t :: k } stk H) (K { fr with T := condT fr.T c false, items := .code e :: k } stk H)
      | _ => False
    | .block id c => K { fr with items := .code c :: .blk id :: k } stk H
    | .scope c => K { fr with items := .code c :: .scp :: k } stk H
    | .loop b => K { fr with items := .lp b :: k } stk H
    | .region id ops draw => match stop fr.id (2 * id + 1) fr.base with
      | some g => match cutF g fr H with
        | some (fr', H') => W fr' (cutS g.stk stk) H'
        | none => False
      | none => regionA E K fr k stk H id ops draw
    | .rangeFunc f ps asg body => match ev E fr.T f with
      | some (.fn f caps) => match E.fns f with
        | some fn => match fn.body with
          | some c =>
            match fr.kind with
            | .round l0 _ => match H[l0]? with
              | some (.loop _ _ _ _ _ _ _ d) =>
                K { id := f, kind := .iter H.length, T := entT fn (.yld H.length :: caps), items := [.code c], D := [], base := H.length + 1 } ({ fr with items := .fin H.length :: k } :: stk)
                  (H ++ [.loop .ready none fr.id fr.T ps.toList asg body d])
              | _ => False
            | _ =>
              K { id := f, kind := .iter (H.length + 1), T := entT fn (.yld (H.length + 1) :: caps), items := [.code c], D := [], base := H.length + 2 } ({ fr with items := .fin (H.length + 1) :: k, D := H.length :: fr.D } :: stk)
                (H ++ [.dfd, .loop .ready none fr.id fr.T ps.toList asg body H.length])
          | none => False
        | none => False
      | _ => False
    | .exit id => match toBlk id k with
      | some k' => K { fr with items := k' } stk H
      | none => if through k = true then leave E Q K fr (some (.exit id)) stk H else False
    | .ret => if through k = true then leave E Q K fr (some .ret) stk H else False
    | _ => False
  | [] => leave E Q K fr none stk H

def run (E : Env) (stop : FuncId → Nat → Nat → Option Cut) (Q : AV → Heap → Prop) (W : Cfg) : Nat → Cfg
  | 0 => W
  | n + 1 => stepR E stop Q W (run E stop Q W n)
end Go.Eng
end
section
/- The operations are right: values. -/
namespace Go.Eng
open Go.RowKit

def ATy.ok (P : Program) (t : TypeId) (d : ATy) : Prop :=
  P.underlying t = some d.desc ∧ ∃ i z, P.info? t = some i ∧ i.size = d.size ∧ i.bytes = d.bytes ∧ i.zero = some z ∧ (∀ ι, RepV0 ι d.zero z) ∧ aggB d.zero = d.agg ∧ szV d.zero = d.size

/-- A function that tells whether two rows share memory says no where they stand in two blocks. -/
def ApartOk (P : Program) (f : FuncId) : Prop :=
  ∀ (w : World) (a b : Addr) (la ca lb cb : Nat), a.block ≠ b.block → (∃ cells t, w.heap[a.block]? = some (.cells cells t (0, 0))) → (∃ cells t fz, w.heap[b.block]? = some (.cells cells t fz) ∧ cells.size ≠ 0) →
    (callFunc f #[.slice (some a) la ca, .slice (some b) lb cb]).run P w = .ok (.value (.bool false)) w

/-- What a call of a function comes to: a value at once (a function without a body), or an activation that returns. -/
def CallOk (P : Program) (f : FuncId) (args : Array Value) (w : World) (R : Value → World → Prop) : Prop :=
  (∃ v, (callFunc f args).run P w = .ok (.value v) w ∧ R v w) ∨
  ((callFunc f args).run P w = .ok (.enter f args) w ∧ Calls P f args w fun e w' => ∃ v, e = .returned v ∧ R v w')

/-- What a sort hands back, at a slice; at nil. -/
def SortD.ansV (s : SortD) (p : Addr) (xs : List s.c.den) (cap : Nat) : Value :=
  match s.res with
  | none => .tuple #[]
  | some g => .slice (some p) (g xs) cap

def SortD.ansNV (s : SortD) : Value :=
  match s.res with
  | none => .tuple #[]
  | some _ => .slice none 0 0

/-- A function that sorts a row of one's own in place. -/
def SortOk (P : Program) (f : FuncId) (s : SortD) : Prop :=
  ((∀ ι x l, RepD ι s.c x l ↔ l = s.enc x) ∧ ∀ g, s.res = some g → ∀ xs, g xs ≤ xs.length) ∧ (∀ xs, (s.f xs).length = xs.length) ∧
  (∀ w, CallOk P f (#[.slice none 0 0] ++ s.rest) w fun c w' => c = s.ansNV ∧ Below w.heap.size w w') ∧
  ∀ (w : World) (blk off cap : Nat) (xs : List s.c.den) (cells : Array Value) (t : TypeId), xs.length < 2 ^ 60 → xs.length ≤ cap → w.heap[blk]? = some (.cells cells t (0, 0)) →
    (cells.toList.drop off).take (xs.length * s.c.size) = xs.flatMap s.enc →
    CallOk P f (#[.slice (some ⟨blk, off, none⟩) xs.length cap] ++ s.rest) w fun c w' => c = s.ansV ⟨blk, off, none⟩ xs cap ∧
      ∃ (w1 : World) (cells' : Array Value), w1.heap[blk]? = some (.cells cells' t (0, 0)) ∧ cells'.toList = cells.toList.take off ++ ((s.f xs).flatMap s.enc ++ cells.toList.drop (off + xs.length * s.c.size)) ∧
        (∀ k, k ≠ blk → w1.heap[k]? = w.heap[k]?) ∧ w1.heap.size = w.heap.size ∧ w1.os = w.os ∧ w1.tape = w.tape ∧ w1.output = w.output ∧ Below w1.heap.size w1 w'

structure Env.Valid (E : Env) : Prop where
  ty : ∀ t d, E.ty t = some d → d.ok E.P t
  fns : ∀ f fn, E.fns f = some fn → E.P.funcs[f]? = some fn ∧ (fn.name == "runtime.NumGoroutine") = false
  mixed : E.P.follows .mixedOrders = true
  apart : ∀ f, E.apart f = true → ApartOk E.P f
  sort : ∀ f s, E.sort f = some s → SortOk E.P f s

/-- The tables stand in protected memory. -/
def GlobRep (E : Env) (ι : Inst) : Prop := ∀ g v, E.glob g = some v → ∃ cells t fz l, ι.prot g = some (.cells cells t fz) ∧ (∀ ι', Rep ι' v l) ∧ At cells 0 l

theorem GlobRep.sub {E : Env} {ι ι' : Inst} (h : ∀ b o, ι.prot b = some o → ι'.prot b = some o) (k : GlobRep E ι) : GlobRep E ι' := fun g v e => by
  obtain ⟨cells, t, fz, l, e1, e2⟩ := k g v e
  exact ⟨cells, t, fz, l, h _ _ e1, e2⟩

theorem GlobRep.mono {E : Env} {ι ι' : Inst} (h : Ext ι ι') (k : GlobRep E ι) : GlobRep E ι' := k.sub h.prot

structure ARel (E : Env) (ι : Inst) (T : List AV) (H : Heap) (a : Act) (w : World) : Prop where
  heap : HRel ι H w
  tmps : All2 (RepV ι) T a.tmps.toList
  glob : GlobRep E ι

variable {E : Env} {ι : Inst} {T : List AV} {H : Heap} {a : Act} {w : World}

theorem RepV_iff {v : AV} {c : Value} (ht : ntB v = true) : RepV ι v c ↔ RepV0 ι v c := by
  cases v <;> first | exact Iff.rfl | cases ht

theorem RepAll.mem {α : Type} {R : α → List Value → Prop} {p : Value → Prop} (hp : ∀ x l, R x l → ∀ c ∈ l, p c) {xs : List α} {l : List Value} (h : RepAll R xs l) : ∀ c ∈ l, p c := by
  induction h with
  | nil => simp
  | cons h1 _ ih => intro c hc; rcases List.mem_append.1 hc with h | h; exact hp _ _ h1 c h; exact ih c h

theorem RepD_one : ∀ (c : TC) (x : c.den) (cs : List Value), RepD ι c x cs → ∀ v ∈ cs, v.oneCell' = true
  | .int _, _, _, k => by rw [show _ = _ from k]; simp [Value.oneCell']
  | .bool, _, _, k => by rw [show _ = _ from k]; simp [Value.oneCell']
  | .str, _, _, k => by rw [show _ = _ from k]; simp [Value.oneCell']
  | .unit, _, _, k => by rw [show _ = _ from k]; simp
  | .st a r, _, _, ⟨l, m, e, k1, k2⟩ => by
    rw [e]; intro v hv; rcases List.mem_append.1 hv with h | h
    · exact RepD_one a _ _ k1 v h
    · exact RepD_one r _ _ k2 v h
  | .st1 a, _, _, k => RepD_one a _ _ k
  | .slice _, _, _, ⟨v, e, k⟩ => by
    rw [e]; rcases k with ⟨_, rfl | ⟨a, rfl⟩⟩ | ⟨b, off, kk, cells, t, fz, l, rfl, _⟩ <;> simp [Value.oneCell']
  | .arr n c, _, _, ⟨hn, hr⟩ => hr.mem (fun x l h => RepD_one c x l h)
  | .ref _, _, _, ⟨b, off, cells, t, fz, l, e, _⟩ => by rw [e]; simp [Value.oneCell']
  | .junk, _, _, ⟨v, e, h⟩ => by rw [e]; simpa using h

mutual
theorem Rep_one : ∀ (v : AV) (cs : List Value), Rep ι v cs → ∀ c ∈ cs, c.oneCell' = true
  | .int _ _, _, k => by rw [Rep] at k; rw [k]; simp [Value.oneCell']
  | .bool _, _, k => by rw [Rep] at k; rw [k]; simp [Value.oneCell']
  | .str _, _, k => by rw [Rep] at k; rw [k]; simp [Value.oneCell']
  | .raw _, _, k => by rw [Rep] at k; rw [k.1]; simp [k.2]
  | .agg _ vs, _, k => by rw [Rep] at k; exact RepL_one' vs _ _ k
  | .arr n c _, _, k => by rw [Rep] at k; exact RepD_one (.arr n c) _ _ k
  | .tup _, _, k => by rw [Rep] at k; exact k.elim
  | .any, _, k => by rw [Rep] at k; exact k.elim
  | .junk, _, k => by rw [Rep] at k; obtain ⟨v, e, h⟩ := k; rw [e]; simpa using h
  | .ptr _ _, _, k => by rw [Rep] at k; obtain ⟨b, z, e, k⟩ := k; rw [k]; simp [Value.oneCell']
  | .ref v, _, k => by rw [Rep] at k; obtain ⟨b, off, cells, t, fz, l, e, _⟩ := k; rw [e]; simp [Value.oneCell']
  | .fsl c _, _, k => by rw [Rep] at k; exact RepD_one (.slice c) _ _ k
  | .osl _ _ _ _ _ _, _, k => by rw [Rep] at k; obtain ⟨b, z, kk, e, k, _⟩ := k; rw [k]; simp [Value.oneCell']
  | .fn _ caps, _, k => by rw [Rep] at k; obtain ⟨_, l, e, k⟩ := k; rw [e]; simp [Value.oneCell']
  | .bnd _ caps, _, k => by rw [Rep] at k; obtain ⟨_, l, e, k⟩ := k; rw [e]; simp [Value.oneCell']
  | .yld _, _, k => by rw [Rep] at k; obtain ⟨b, z, e, k⟩ := k; rw [k]; simp [Value.oneCell']
  | .mp _, _, k => by rw [Rep] at k; obtain ⟨b, z, e, k⟩ := k; rw [k]; simp [Value.oneCell']
  | .row _ _ _, _, k => by
    rw [Rep] at k; obtain ⟨b, z, v, e, k, h⟩ := k; rw [k]
    rcases h with ⟨_, rfl⟩ | ⟨_, k, rfl, _⟩ <;> simp [Value.oneCell']
theorem RepL_one' : ∀ (vs : List AV) (ss : List Nat) (cs : List Value), RepL ι ss vs cs → ∀ c ∈ cs, c.oneCell' = true
  | [], _, _, k => by rw [RepL] at k; rw [k.2]; simp
  | v :: vs, _, _, k => by
    rw [RepL] at k; obtain ⟨s, ss', l, m, e1, e2, e3, k1, k2⟩ := k
    rw [e2]; intro c hc; rcases List.mem_append.1 hc with h | h
    · exact Rep_one v _ k1 c h
    · exact RepL_one' vs _ _ k2 c h
end

theorem Rep_notTup {v : AV} {cs : List Value} (h : Rep ι v cs) : ntB v = true := by
  cases v <;> first | rfl | (rw [Rep] at h; exact h.elim)

theorem RepV_of_rep {v : AV} {c : Value} (ha : aggB v = false) (h : Rep ι v [c]) : RepV ι v c := by
  rw [RepV_iff (Rep_notTup h)]; unfold RepV0; rw [ha]; exact h

theorem RepV0_of_rep {v : AV} {c : Value} (ha : aggB v = false) (h : Rep ι v [c]) : RepV0 ι v c := by
  unfold RepV0; rw [ha]; exact h

theorem RepV_of_agg {v : AV} {cs : List Value} (ha : aggB v = true) (h : Rep ι v cs) : RepV ι v (.agg cs.toArray) := by
  rw [RepV_iff (Rep_notTup h)]; unfold RepV0; rw [ha]; exact ⟨cs, h, rfl⟩

theorem Value.cells_one {c : Value} (h : c.oneCell' = true) : c.cells = #[c] := by
  cases c <;> first | rfl | simp [Value.oneCell'] at h

/-- A value in a temporary, and in cells. -/
theorem RepV0.cells {v : AV} {c : Value} (h : RepV0 ι v c) : Rep ι v c.cells.toList := by
  unfold RepV0 at h
  split at h
  · obtain ⟨cs, k, rfl⟩ := h; simpa [Value.cells] using k
  · rw [Value.cells_one (Rep_one v [c] h c (by simp))]; exact h

theorem RepV.cells {v : AV} {c : Value} (h : RepV ι v c) (ht : ntB v = true) : Rep ι v c.cells.toList := ((RepV_iff ht).1 h).cells

theorem RepV.one {v : AV} {c : Value} (h : RepV ι v c) (ha : aggB v = false) (ht : ntB v = true) : Rep ι v [c] := by
  have h := (RepV_iff ht).1 h
  unfold RepV0 at h; rw [ha] at h; exact h

/-! ### What the abstract values say of the concrete ones -/
theorem RepV.int {k : IntKind} {n : Int} {c : Value} (h : RepV ι (.int k n) c) : c = .int k n := by
  have := h.one rfl rfl; rw [Rep] at this; simpa using this
theorem RepV.bool {b : Bool} {c : Value} (h : RepV ι (.bool b) c) : c = .bool b := by
  have := h.one rfl rfl; rw [Rep] at this; simpa using this
theorem RepV.str {s : ByteArray} {c : Value} (h : RepV ι (.str s) c) : c = .string s := by
  have := h.one rfl rfl; rw [Rep] at this; simpa using this
theorem RepV.raw {v c : Value} (h : RepV ι (.raw v) c) : c = v := by
  have := h.one rfl rfl; rw [Rep] at this; simpa using this.1
theorem RepV_int (k : IntKind) (n : Int) : RepV ι (.int k n) (.int k n) := RepV_of_rep rfl (by rw [Rep])
theorem RepV_bool (b : Bool) : RepV ι (.bool b) (.bool b) := RepV_of_rep rfl (by rw [Rep])
theorem RepV_str (s : ByteArray) : RepV ι (.str s) (.string s) := RepV_of_rep rfl (by rw [Rep])
theorem RepV_undef : RepV ι .undef undef := ⟨[], rfl, .nil⟩

theorem RepV.agg {v : AV} {c : Value} (h : RepV ι v c) (ha : aggB v = true) : ∃ cs : List Value, Rep ι v cs ∧ c = .agg cs.toArray := by
  cases v <;> first | (simp [aggB] at ha; done) | (have h : RepV0 ι _ _ := h; unfold RepV0 at h; rw [ha] at h; exact h)

theorem ofV_ok {v : Value} {u : AV} (h : ofV v = some u) : RepV ι u v := by
  unfold ofV at h
  split at h <;> first
    | (cases h; exact RepV_int _ _)
    | (cases h; exact RepV_bool _)
    | (cases h; exact RepV_str _)
    | (cases h; exact RepV_of_rep rfl (by rw [Rep]; exact ⟨rfl, rfl⟩))
    | cases h

theorem getD_toList {l : Array Value} {i : Nat} {c : Value} (h : l.toList[i]? = some c) (d : Value) : l.getD i d = c := by
  have h' : l[i]? = some c := by simpa using h
  simp [Array.getD_eq_getD_getElem?, h']

theorem ev_ok {x : Operand} {v : AV} (h : ev E T x = some v) (r : ARel E ι T H a w) : RepV ι v (a.eval x) := by
  cases x with
  | tmp t =>
    obtain ⟨c, e, k⟩ := r.tmps.at t v h
    simp only [Act.eval]; rw [getD_toList e]; exact k
  | const c => exact ofV_ok h
  | global g =>
    simp only [ev] at h
    split at h
    · rename_i u hu; cases h
      obtain ⟨cells, t, fz, l, e1, e2, e3⟩ := r.glob g u hu
      exact RepV_of_rep rfl (by rw [Rep]; exact ⟨g, 0, cells, t, fz, l, rfl, e1, e2 ι, e3⟩)
    · cases h
  | func f =>
    cases h
    refine RepV_of_rep rfl ?_
    rw [Rep]
    exact ⟨rfl, [], rfl, by rw [RepL]; exact ⟨rfl, rfl⟩⟩

theorem evs_ok : ∀ {xs : List Operand} {vs : List AV}, evs E T xs = some vs → ARel E ι T H a w → All2 (RepV ι) vs (xs.map a.eval)
  | [], _, h, _ => by cases h; exact .nil
  | x :: l, _, h, r => by
    simp only [evs] at h
    split at h
    · rename_i v vs h1 h2; cases h; exact .cons (ev_ok h1 r) (evs_ok h2 r)
    · cases h
end Go.Eng
end
section
/- The operations are right: memory. -/
namespace Go.Eng
open Go.RowKit
variable {E : Env} {ι : Inst} {T : List AV} {H : Heap} {a : Act} {w : World}

/-- A place in memory, and what stands there. -/
structure Stands (ι : Inst) (w : World) (u : AV) (b off : Nat) : Prop where
  ex : ∃ cells t fz m, w.heap[b]? = some (.cells cells t fz) ∧ Rep ι u m ∧ At cells off m

theorem At.mid {l1 m l2 : List Value} {cells : Array Value} (h : cells.toList = l1 ++ m ++ l2) : At cells l1.length m := by
  intro j v hv
  have hj := (List.getElem?_eq_some_iff.1 hv).1
  rw [← Array.getElem?_toList, h, List.append_assoc, List.getElem?_append_right (by omega), List.getElem?_append_left (by omega)]
  simpa using hv

theorem At.sub {cells : Array Value} {off : Nat} {l1 m l2 : List Value} (h : At cells off (l1 ++ m ++ l2)) : At cells (off + l1.length) m := by
  intro j v hv
  have hj := (List.getElem?_eq_some_iff.1 hv).1
  have := h (l1.length + j) v (by rw [List.append_assoc, List.getElem?_append_right (by omega), List.getElem?_append_left (by omega)]; simpa using hv)
  simpa [Nat.add_assoc] using this

theorem Rep_ptr {o : Nat} {p : List Step} {c : Value} (h : RepV ι (.ptr o p) c) : ∃ b z, ι.blk[o]? = some (b, z) ∧ c = .pointer (some ⟨b, pathOff p, none⟩) := by
  have := h.one rfl rfl; rw [Rep] at this
  obtain ⟨b, z, e, k⟩ := this
  exact ⟨b, z, e, by simpa using k⟩

theorem Rep_ref {v : AV} {c : Value} (h : RepV ι (.ref v) c) : ∃ b off cells t fz l, c = .pointer (some ⟨b, off, none⟩) ∧ ι.prot b = some (.cells cells t fz) ∧ Rep ι v l ∧ At cells off l := by
  have := h.one rfl rfl; rw [Rep] at this
  obtain ⟨b, off, cells, t, fz, l, e, k⟩ := this
  exact ⟨b, off, cells, t, fz, l, by simpa using e, k⟩

theorem ObjRel.cell {b z : Nat} {own : Bool} {t : TypeId} {v : AV} (h : ObjRel ι w b z (.cell own t v)) :
    ∃ cells fz l r, w.heap[b]? = some (.cells cells t fz) ∧ cells.toList = l ++ r ∧ cells.size = z ∧ Rep ι v l ∧ (own = true → fz = (0, 0)) := by
  obtain ⟨cells, fz, l, r, e1, e2, e3, e4, e5⟩ := h
  exact ⟨cells, fz, l, r, e1, e2, e3, e4, fun h => by rw [h] at e5; exact e5⟩

theorem loadA_ok {x u : AV} {q : List Prop} {c : Value} (h : loadA H x = some (q, u)) (hq : holds q) (r : HRel ι H w) (hx : RepV ι x c) :
    ∃ b off, c = .pointer (some ⟨b, off, none⟩) ∧ Stands ι w u b off := by
  cases x <;> simp only [loadA] at h <;> try (cases h; done)
  case ptr o p =>
    split at h
    · rename_i own t v ho
      obtain ⟨b, z, hb, rfl⟩ := Rep_ptr hx
      obtain ⟨cells, fz, l, rr, e1, e2, e3, e4, e5⟩ := (r.obj _ _ _ _ ho hb).cell
      obtain ⟨l1, m, l2, el, el1, hu, _⟩ := getP_ok p v l q u h hq e4
      refine ⟨b, _, rfl, ⟨cells, t, fz, m, e1, hu, ?_⟩⟩
      rw [← el1]
      exact At.mid (l2 := l2 ++ rr) (by rw [e2, el]; simp)
    · cases h
  case ref v =>
    simp only [Option.some.injEq, Prod.mk.injEq] at h
    obtain ⟨_, rfl⟩ := h
    obtain ⟨b, off, cells, t, fz, l, rfl, hp, hr, ha⟩ := Rep_ref hx
    exact ⟨b, off, rfl, ⟨cells, t, fz, l, r.prot _ _ hp, hr, ha⟩⟩

theorem run_sizeOf' {P : Program} {t : TypeId} {d : ATy} (h : d.ok P t) (w : World) : (sizeOf t).run P w = .ok d.size w := by
  obtain ⟨_, i, z, hi, hs, _⟩ := h
  simp [sizeOf, typeInfo, hi, hs]

theorem run_isAgg' {P : Program} {t : TypeId} {d : ATy} (h : d.ok P t) (w : World) : (isAgg t).run P w = .ok d.agg w := by
  obtain ⟨hu, _⟩ := h
  unfold isAgg
  simp only [Sem.run_bind, run_underlying hu, Result.andThen]
  unfold ATy.agg descAgg
  cases d.desc <;> rfl

theorem run_zero' {P : Program} {t : TypeId} {d : ATy} (h : d.ok P t) (w : World) : ∃ z, (zeroValue t).run P w = .ok z w ∧ ∀ ι, RepV0 ι d.zero z := by
  obtain ⟨_, i, z, hi, _, _, hz, hr, _⟩ := h
  exact ⟨z, by simp [zeroValue, typeInfo, hi, hz], hr⟩

theorem addr_add (b off j : Nat) : (⟨b, off, none⟩ : Addr).add j = ⟨b, off + j, none⟩ := by
  unfold Addr.add; split <;> simp_all

theorem cell_of {b off : Nat} {cells : Array Value} {t : TypeId} {fz : Nat × Nat} (h : w.heap[b]? = some (.cells cells t fz)) : w.cell? ⟨b, off, none⟩ = cells[off]? := by
  simp [World.cell?, h]

theorem loadVar_ok {P : Program} {t : TypeId} {d : ATy} {u : AV} {b off : Nat} (hd : d.ok P t) (hs : szV u = d.size) (ha : aggB u = d.agg) (h : Stands ι w u b off) :
    ∃ c, (loadVar t ⟨b, off, none⟩).run P w = .ok c w ∧ RepV ι u c := by
  obtain ⟨cells, ty, fz, m, hb, hr, hat⟩ := h.ex
  have hl := Rep_len _ _ hr
  have hcell : ∀ j v, m[j]? = some v → w.cell? ((⟨b, off, none⟩ : Addr).add j) = some v := fun j v e => by
    rw [addr_add, cell_of hb]; exact hat j v e
  unfold loadVar
  simp only [Sem.run_bind, run_isAgg' hd, Result.andThen]
  cases hagg : d.agg with
  | true =>
    refine ⟨.agg m.toArray, ?_, RepV_of_agg (ha.trans hagg) hr⟩
    simp only [if_true, Sem.run_bind, run_sizeOf' hd, Result.andThen]
    rw [← hs, ← hl, run_loadCells_list w _ m hcell]; rfl
  | false =>
    have h1 : m.length = 1 := by
      rw [hl]; cases u <;> first | rfl | (simp [aggB, hagg] at ha; done) | (rw [Rep] at hr; exact hr.elim)
    obtain ⟨c, rfl⟩ := List.length_eq_one_iff.1 h1
    refine ⟨c, ?_, RepV_of_rep (ha.trans hagg) hr⟩
    have := hcell 0 c rfl
    rw [addr_add] at this
    simp only [Nat.add_zero] at this
    simp [this]

theorem list_take_drop {l1 m l2 : List Value} : (l1 ++ m ++ l2).take l1.length = l1 ∧ (l1 ++ m ++ l2).drop (l1.length + m.length) = l2 := by
  constructor
  · rw [List.append_assoc, List.take_append_of_le_length (by omega)]; simp
  · rw [← List.length_append]; simp

theorem storeA_ok {P : Program} {t : TypeId} {d : ATy} {x y : AV} {q : List Prop} {H' : Heap} {c cv : Value} (hd : d.ok P t) (h : storeA H x y = some (q, H')) (hq : holds q) (hs : szV y = d.size)
    (r : HRel ι H w) (hx : RepV ι x c) (hy : RepV ι y cv) (ht : ntB y = true) :
    ∃ b off w', c = .pointer (some ⟨b, off, none⟩) ∧ (storeVar t ⟨b, off, none⟩ cv).run P w = .ok () w' ∧ HRel ι H' w' := by
  cases x <;> simp only [storeA] at h <;> try (cases h; done)
  case ptr o p =>
    split at h
    · rename_i t' v ho
      split at h
      · rename_i q' u hg
        split at h
        · rename_i hsz
          split at h
          · rename_i v' hv'
            simp only [Option.some.injEq, Prod.mk.injEq] at h
            obtain ⟨rfl, rfl⟩ := h
            obtain ⟨b, z, hb, rfl⟩ := Rep_ptr hx
            obtain ⟨cells, fz, l, rr, e1, e2, e3, e4, e5⟩ := (r.obj _ _ _ _ ho hb).cell
            have e5 := e5 rfl; subst e5
            obtain ⟨l1, m, l2, el, el1, hu, hset⟩ := getP_ok p v l q' u hg hq e4
            have hyc := hy.cells ht
            have hylen := Rep_len _ _ hyc
            have hlen : cv.cells.toList.length = m.length := by rw [hylen, Rep_len _ _ hu, hsz]
            have hrep := hset y cv.cells.toList v' hv' hyc hlen
            have hfull : cells.toList = l1 ++ m ++ (l2 ++ rr) := by rw [e2, el]; simp
            have hsize : cells.size = l1.length + m.length + (l2 ++ rr).length := by rw [← Array.length_toList, hfull]; simp [Nat.add_assoc]
            refine ⟨b, _, w.setRow b (l1 ++ cv.cells.toList ++ (l2 ++ rr)).toArray, rfl, ?_, ?_⟩
            · unfold storeVar
              simp only [Sem.run_bind, run_sizeOf' hd, Result.andThen]
              have hsz2 : cv.cells.size = d.size := by rw [← Array.length_toList, hylen, hs]
              rw [if_neg (by simp [hsz2])]
              have hst := run_storeCells_at (P := P) b (pathOff p) t' cv.cells.toList 0 cells w e1 (by rw [hsize, ← el1, hlen]; omega) (Rep_one _ _ hyc)
              rw [hst]
              congr 2
              rw [Nat.add_zero, ← el1, hfull, hlen]
              rw [(list_take_drop (l1 := l1) (m := m) (l2 := l2 ++ rr)).1, (list_take_drop (l1 := l1) (m := m) (l2 := l2 ++ rr)).2]
            · refine r.upd ho rfl hb (fun k hk => setRow_other w b k _ hk) (by simp) rfl rfl rfl ?_
              refine ⟨_, (0, 0), l1 ++ cv.cells.toList ++ l2, rr, setRow_heap w b cells _ t' _ e1, by simp, ?_, hrep, by simp⟩
              rw [← e3, hsize]; simp [hlen]; omega
          · cases h
        · cases h
      · cases h
    · cases h

/-- A variable in a block of its own. -/
theorem newVar_ok {P : Program} {t : TypeId} {v : AV} {c : Value} (r : HRel ι H w) (hv : RepV ι v c) (ht : ntB v = true) :
    ∃ ι' w' b, (newVar t c).run P w = .ok ⟨b, 0, none⟩ w' ∧ Ext ι ι' ∧ HRel ι' (H ++ [.cell true t v]) w' ∧ RepV ι' (.ptr H.length []) (.pointer (some ⟨b, 0, none⟩)) := by
  have hE := Ext.add ι w.heap.size c.cells.size
  refine ⟨ι.add w.heap.size c.cells.size, w.alloc (.cells c.cells t), w.heap.size, rfl, hE, ?_, ?_⟩
  · refine r.alloc _ _ _ ⟨c.cells, (0, 0), c.cells.toList, [], heap_alloc_new, by simp, rfl, Rep_mono hE _ _ (hv.cells ht), by simp⟩
  · refine RepV_of_rep rfl ?_
    rw [Rep]
    exact ⟨w.heap.size, c.cells.size, by rw [r.len]; exact ι.add_at _ _, rfl⟩
end Go.Eng
end
section
/- The operations are right: one by one. -/
namespace Go.Eng
open Go.RowKit
variable {E : Env} {ι : Inst} {T : List AV} {H : Heap} {a : Act} {w : World}

theorem binI_ok {P : Program} {op : BinOp} {k : IntKind} {x y : Int} {q : List Prop} {v : AV} (t : TypeId) (h : binI op k x y = some (q, v)) (hq : holds q) :
    ∃ c, (binOp op t (.int k x) (.int k y)).run P w = .ok c w ∧ RepV ι v c := by
  cases op <;> simp only [binI, Option.some.injEq, Prod.mk.injEq] at h <;> try (cases h; done)
  all_goals
    obtain ⟨rfl, rfl⟩ := h
    refine ⟨_, ?_, by first | exact RepV_int _ _ | exact RepV_bool _⟩
  all_goals first
    | (simp [binOp, Op.intArith, iadd, isub, imul]; done)
    | (simp only [holds, and_true] at hq; simp [binOp, Op.intDiv, hq, iquo, irem]; done)
    | (simp [binOp, Op.intBits, iand, ior, ixor, iandn]; done)
    | (simp [binOp, Op.intCmp, ieq, ine, ilt, ile]; done)

theorem run_equal_bool {P : Program} {t : TypeId} (hu : P.underlying t = some .bool) (m n : Bool) : (Op.equal t (.bool m) (.bool n)).run P w = .ok (m == n) w := by
  have : ∀ d, (Op.equalIn (d + 1) t (.bool m) (.bool n)).run P w = .ok (m == n) w := fun d => by simp [Op.equalIn, run_underlying hu]
  exact this 9999

theorem run_equal_nil {P : Program} {t e : TypeId} (hu : P.underlying t = some (.slice e)) (a : Option Addr) (n k : Nat) : (Op.equal t (.slice a n k) (.slice none 0 0)).run P w = .ok a.isNone w := by
  have : ∀ d, (Op.equalIn (d + 1) t (.slice a n k) (.slice none 0 0)).run P w = .ok a.isNone w := fun d => by
    cases a <;> simp [Op.equalIn, run_underlying hu]
  exact this 9999

theorem isNil_ok {x : AV} {q : List Prop} {b : Bool} {cx : Value} (h : isNilA x = some (q, b)) (hq : holds q) (hx : RepV ι x cx) : ∃ a n k, cx = .slice a n k ∧ a.isNone = b := by
  unfold isNilA at h
  split at h
  · simp only [Option.some.injEq, Prod.mk.injEq] at h; obtain ⟨rfl, rfl⟩ := h
    exact ⟨none, 0, 0, hx.raw, rfl⟩
  · simp only [Option.some.injEq, Prod.mk.injEq] at h; obtain ⟨rfl, rfl⟩ := h
    have := hx.one rfl rfl
    rw [Rep] at this
    obtain ⟨b', z, k, _, e, _⟩ := this
    simp only [List.cons.injEq, and_true] at e
    exact ⟨_, _, _, e, rfl⟩
  · simp only [Option.some.injEq, Prod.mk.injEq] at h; obtain ⟨rfl, rfl⟩ := h
    have h0 := hq.1
    have := hx.one rfl rfl
    rw [Rep] at this
    obtain ⟨v, e, k⟩ := this
    simp only [List.cons.injEq, and_true] at e
    rcases k with ⟨e0, _⟩ | ⟨b', off, k', cells, t, fz, l, rfl, _⟩
    · rw [e0] at h0; simp at h0
    · exact ⟨_, _, _, e, rfl⟩
  · cases h

theorem bin_ok {P : Program} {op : BinOp} {t : TypeId} {d : Option ATy} {x y v : AV} {q : List Prop} {cx cy : Value} (hd : ∀ e, d = some e → e.ok P t) (h : bin op d x y = some (q, v)) (hq : holds q)
    (hx : RepV ι x cx) (hy : RepV ι y cy) (xo yo : Operand) : ∃ c, (do eqGuard op t xo yo cx cy; binOp op t cx cy : Sem Value).run P w = .ok c w ∧ RepV ι v c := by
  unfold bin at h
  split at h
  · rename_i k m k' n
    rw [hx.int, hy.int]
    have hg : (eqGuard op t xo yo (.int k m) (.int k' n)).run P w = .ok () w := by unfold eqGuard; split <;> rfl
    simp only [Sem.run_bind, hg, Result.andThen]
    split at h
    · simp only [Option.some.injEq, Prod.mk.injEq] at h
      obtain ⟨rfl, rfl⟩ := h
      simp only [holds, and_true] at hq
      exact ⟨_, by simp [binOp, Op.shift, Int.not_lt.2 hq, ishl], RepV_int _ _⟩
    · simp only [Option.some.injEq, Prod.mk.injEq] at h
      obtain ⟨rfl, rfl⟩ := h
      simp only [holds, and_true] at hq
      exact ⟨_, by simp [binOp, Op.shift, Int.not_lt.2 hq, ishr], RepV_int _ _⟩
    · split at h
      · rename_i e; subst e
        exact binI_ok t h hq
      · cases h
  · rename_i m n
    rw [hx.bool, hy.bool]
    have hg : (eqGuard op t xo yo (.bool m) (.bool n)).run P w = .ok () w := by unfold eqGuard; split <;> rfl
    simp only [Sem.run_bind, hg, Result.andThen]
    split at h
    · rename_i e
      have hu := (hd e rfl).1
      split at h
      · rename_i hdesc
        rw [hdesc] at hu
        simp only [Option.some.injEq, Prod.mk.injEq] at h
        obtain ⟨rfl, rfl⟩ := h
        exact ⟨_, by simp only [binOp, Sem.run_bind, run_equal_bool hu, Result.andThen, Sem.run_pure], RepV_bool _⟩
      · rename_i hdesc
        rw [hdesc] at hu
        simp only [Option.some.injEq, Prod.mk.injEq] at h
        obtain ⟨rfl, rfl⟩ := h
        exact ⟨_, by simp only [binOp, Sem.run_bind, run_equal_bool hu, Result.andThen, Sem.run_pure], RepV_bool _⟩
      · cases h
    · cases h
  · rename_i s1 s2
    rw [hx.str, hy.str]
    have hg : (eqGuard op t xo yo (.string s1) (.string s2)).run P w = .ok () w := by unfold eqGuard; split <;> rfl
    simp only [Sem.run_bind, hg, Result.andThen]
    split at h
    · simp only [Option.some.injEq, Prod.mk.injEq] at h
      obtain ⟨rfl, rfl⟩ := h
      obtain ⟨hq, _⟩ := hq
      have hn : ¬ ((9223372036854775807 : Int) < (s1.size : Int) + (s2.size : Int)) := by omega
      exact ⟨.string (s1 ++ s2), by simp [binOp, Op.stringOp, hn], RepV_str _⟩
    · cases h
  · split at h
    · rename_i e
      have hu := (hd e rfl).1
      have hcy := hy.raw
      subst hcy
      split at h
      · rename_i el hdesc hn
        rw [hdesc] at hu
        simp only [Option.some.injEq, Prod.mk.injEq] at h
        obtain ⟨rfl, rfl⟩ := h
        obtain ⟨ad, n, k, rfl, rfl⟩ := isNil_ok hn hq hx
        have hg : (eqGuard .eql t xo yo (.slice ad n k) (.slice none 0 0)).run P w = .ok () w := by unfold eqGuard; split <;> rfl
        simp only [Sem.run_bind, hg, Result.andThen]
        exact ⟨_, by simp only [binOp, Sem.run_bind, run_equal_nil hu, Result.andThen, Sem.run_pure], RepV_bool _⟩
      · rename_i el hdesc hn
        rw [hdesc] at hu
        simp only [Option.some.injEq, Prod.mk.injEq] at h
        obtain ⟨rfl, rfl⟩ := h
        obtain ⟨ad, n, k, rfl, rfl⟩ := isNil_ok hn hq hx
        have hg : (eqGuard .neq t xo yo (.slice ad n k) (.slice none 0 0)).run P w = .ok () w := by unfold eqGuard; split <;> rfl
        simp only [Sem.run_bind, hg, Result.andThen]
        exact ⟨_, by simp only [binOp, Sem.run_bind, run_equal_nil hu, Result.andThen, Sem.run_pure], RepV_bool _⟩
      · cases h
    · cases h
  · cases h

theorem un_ok {P : Program} {op : UnOp} {x v : AV} {cx : Value} (h : un op x = some v) (hx : RepV ι x cx) : ∃ c, (Op.unary op cx).run P w = .ok c w ∧ RepV ι v c := by
  unfold un at h
  split at h <;> first
    | (cases h; rw [hx.int]; exact ⟨_, rfl, RepV_int _ _⟩)
    | (cases h; rw [hx.bool]; exact ⟨_, rfl, RepV_bool _⟩)
    | cases h

theorem pickA_ok {b : Bool} {x y : AV} {cx cy : Value} (hx : RepV ι x cx) (hy : RepV ι y cy) : RepV ι (pickA b x y) (if b then cx else cy) := by
  unfold pickA
  split
  · split
    · rename_i e; subst e
      rw [hx.int, hy.int]; cases b <;> exact RepV_int _ _
    · cases b
      · exact hy
      · exact hx
  · rw [hx.bool, hy.bool]; cases b <;> exact RepV_bool _
  · cases b
    · exact hy
    · exact hx

theorem pathOff_app (p : List Step) (s : Step) : pathOff (p ++ [s]) = pathOff p + s.off := by
  induction p with
  | nil => simp [pathOff]
  | cons x p ih => simp [pathOff, ih, Nat.add_assoc]

theorem ptr_step {o : Nat} {p : List Step} {c : Value} (s : Step) (h : RepV ι (.ptr o p) c) : ∃ b, c = .pointer (some ⟨b, pathOff p, none⟩) ∧ RepV ι (.ptr o (p ++ [s])) (.pointer (some ⟨b, pathOff p + s.off, none⟩)) := by
  obtain ⟨b, z, hb, rfl⟩ := Rep_ptr h
  refine ⟨b, rfl, RepV_of_rep rfl ?_⟩
  rw [Rep]
  exact ⟨b, z, hb, by rw [pathOff_app]⟩

theorem ref_step {v u : AV} {s : Step} {q : List Prop} {c : Value} (h : partA v s = some (q, u)) (hq : holds q) (hv : RepV ι (.ref v) c) :
    ∃ b off, c = .pointer (some ⟨b, off, none⟩) ∧ RepV ι (.ref u) (.pointer (some ⟨b, off + s.off, none⟩)) := by
  obtain ⟨b, off, cells, t, fz, l, rfl, hp, hr, ha⟩ := Rep_ref hv
  obtain ⟨l1, m, l2, el, el1, hu, _⟩ := getP_ok [s] v l q u h hq hr
  refine ⟨b, off, rfl, RepV_of_rep rfl ?_⟩
  rw [Rep]
  refine ⟨b, off + s.off, cells, t, fz, m, rfl, hp, hu, ?_⟩
  have : s.off = l1.length := by rw [el1]; simp [pathOff]
  rw [this]
  exact At.sub (by rw [← el]; exact ha)

theorem fieldOff_ok (hV : E.Valid) {d e : ATy} {f off : Nat} (h : fieldOff E d f = some (off, e)) :
    ∃ fs fd, d.desc = .struct fs ∧ fs[f]? = some fd ∧ fd.offset = off ∧ e.ok E.P fd.type ∧ e.size ≠ 0 := by
  unfold fieldOff at h
  split at h
  · rename_i fs hd
    split at h
    · rename_i fd hf
      split at h
      · rename_i x hx
        split at h
        · cases h
        · rename_i hs
          simp only [Option.some.injEq, Prod.mk.injEq] at h
          obtain ⟨rfl, rfl⟩ := h
          exact ⟨fs, fd, hd, hf, rfl, hV.ty _ _ hx, hs⟩
      · cases h
    · cases h
  · cases h

theorem fieldAddr_ok (hV : E.Valid) {s : TypeId} {d : ATy} {x v : AV} {f : Nat} {q : List Prop} {cx : Value} (hd : d.ok E.P s) (h : fieldAddrA E d x f = some (q, v)) (hq : holds q) (hx : RepV ι x cx) :
    ∃ c, (Instr.fieldAt s cx f).run E.P w = .ok c w ∧ RepV ι v c := by
  unfold fieldAddrA at h
  split at h
  · rename_i off e hf
    obtain ⟨fs, fd, hdesc, hfd, rfl, he, hes⟩ := fieldOff_ok hV hf
    have hu := hd.1
    rw [hdesc] at hu
    have key : ∀ b o, (Instr.fieldAt s (.pointer (some ⟨b, o, none⟩)) f).run E.P w = .ok (.pointer (some ⟨b, o + fd.offset, none⟩)) w := fun b o => by
      simp [Instr.fieldAt, run_underlying hu, hfd, Instr.sureAddr, fieldPlace, run_sizeOf' he, hes, addr_add]
    split at h
    · rename_i o p
      simp only [Option.some.injEq, Prod.mk.injEq] at h
      obtain ⟨rfl, rfl⟩ := h
      obtain ⟨b, rfl, hr⟩ := ptr_step (.fld fd.offset f) hx
      exact ⟨_, key _ _, hr⟩
    · split at h
      · rename_i q' u hg
        simp only [Option.some.injEq, Prod.mk.injEq] at h
        obtain ⟨rfl, rfl⟩ := h
        obtain ⟨b, o, rfl, hr⟩ := ref_step hg hq hx
        exact ⟨_, key _ _, hr⟩
      · cases h
    · cases h
  · cases h

/-- A part of a value that lies in a temporary. -/
theorem part_ok {P : Program} {t : TypeId} {e : ATy} {x u : AV} {s : Step} {q : List Prop} {cx : Value} (he : e.ok P t) (h : partA x s = some (q, u)) (hq : holds q) (hs : szV u = e.size) (ha : aggB u = e.agg)
    (hx : RepV ι x cx) : ∃ cs, cx = .agg cs ∧ ∃ c, (part t cs s.off).run P w = .ok c w ∧ RepV ι u c := by
  have hagg : aggB x = true := by
    unfold partA getP at h
    split at h
    · rfl
    · rfl
    · rfl
    · cases h
  obtain ⟨l, hr, rfl⟩ := hx.agg hagg
  obtain ⟨l1, m, l2, el, el1, hu, _⟩ := getP_ok [s] x l q u h hq hr
  have hoff : s.off = l1.length := by rw [el1]; simp [pathOff]
  have hl := Rep_len _ _ hu
  refine ⟨_, rfl, ?_⟩
  unfold part
  simp only [Sem.run_bind, run_isAgg' he, Result.andThen]
  cases hag : e.agg with
  | true =>
    refine ⟨.agg m.toArray, ?_, RepV_of_agg (ha.trans hag) hu⟩
    simp only [if_true, Sem.run_bind, run_sizeOf' he, Result.andThen, Sem.run_pure]
    congr 2
    rw [hoff, ← hs, ← hl, el]
    simp [List.extract_eq_take_drop]
  | false =>
    have h1 : m.length = 1 := by
      rw [hl]; cases u <;> first | rfl | (simp [aggB, hag] at ha; done) | (rw [Rep] at hu; exact hu.elim)
    obtain ⟨c, rfl⟩ := List.length_eq_one_iff.1 h1
    refine ⟨c, ?_, RepV_of_rep (ha.trans hag) hu⟩
    simp [hoff, el]

theorem field_ok (hV : E.Valid) {s : TypeId} {d : ATy} {x v : AV} {f : Nat} {q : List Prop} {cx : Value} (hd : d.ok E.P s) (h : fieldA E d x f = some (q, v)) (hq : holds q) (hx : RepV ι x cx) :
    ∃ c, (Instr.field s cx f).run E.P w = .ok c w ∧ RepV ι v c := by
  unfold fieldA at h
  split at h
  · rename_i off e hf
    obtain ⟨fs, fd, hdesc, hfd, rfl, he, hes⟩ := fieldOff_ok hV hf
    have hu := hd.1
    rw [hdesc] at hu
    split at h
    · rename_i q' u hg
      split at h
      · rename_i hc
        simp only [Option.some.injEq, Prod.mk.injEq] at h
        obtain ⟨rfl, rfl⟩ := h
        obtain ⟨cs, rfl, c, hrun, hr⟩ := part_ok (w := w) he hg hq hc.1 hc.2 hx
        exact ⟨c, by simp only [Instr.field, Sem.run_bind, run_underlying hu, Result.andThen, hfd, asAgg, Sem.run_pure]; exact hrun, hr⟩
      · cases h
    · cases h
  · cases h

theorem elemD_ok (hV : E.Valid) {d e : ATy} {t : TypeId} (h : elemD E d = some (t, e)) : e.ok E.P t ∧ (d.desc = .slice t ∨ ∃ n, d.desc = .array n t) := by
  unfold elemD at h
  split at h
  · rename_i hd
    split at h
    · rename_i x hx
      simp only [Option.some.injEq, Prod.mk.injEq] at h
      obtain ⟨rfl, rfl⟩ := h
      exact ⟨hV.ty _ _ hx, .inl hd⟩
    · cases h
  · rename_i n _ hd
    split at h
    · rename_i x hx
      simp only [Option.some.injEq, Prod.mk.injEq] at h
      obtain ⟨rfl, rfl⟩ := h
      exact ⟨hV.ty _ _ hx, .inr ⟨_, hd⟩⟩
    · cases h
  · cases h

theorem index_ok {t et : TypeId} {d e : ATy} {x i v : AV} {q : List Prop} {cx ci : Value} (hd : d.ok E.P t) (he : e.ok E.P et) (hde : d.desc = .slice et ∨ ∃ n, d.desc = .array n et)
    (h : indexA d e x i = some (q, v)) (hq : holds q) (hx : RepV ι x cx) (hi : RepV ι i ci) : ∃ c, (Instr.index t cx ci).run E.P w = .ok c w ∧ RepV ι v c := by
  unfold indexA at h
  split at h
  · rename_i k i
    rw [hi.int]
    split at h
    · rename_i n et' hdesc
      have het : et' = et := by
        rcases hde with h' | ⟨m, h'⟩
        · rw [hdesc] at h'; cases h'
        · rw [hdesc] at h'; cases h'; rfl
      subst het
      have hu := hd.1
      rw [hdesc] at hu
      split at h
      · rename_i q' u hg
        split at h
        · rename_i hc
          simp only [Option.some.injEq, Prod.mk.injEq] at h
          obtain ⟨rfl, rfl⟩ := h
          obtain ⟨h0, hn, hq⟩ := hq
          obtain ⟨cs, rfl, c, hrun, hr⟩ := part_ok (w := w) he hg hq hc.1 hc.2 hx
          refine ⟨c, ?_, hr⟩
          simp only [Instr.index, asIntOf, Sem.run_bind, Sem.run_pure, Result.andThen, run_underlying hu]
          simp only [h0, hn, and_self, if_true, Sem.run_bind, run_sizeOf' he, Result.andThen]
          exact hrun
        · cases h
      · cases h
    · cases h
  · cases h

theorem osl_of {o s off len : Nat} {p : List Step} {cap : Option Nat} {c : Value} (h : RepV ι (.osl o p s off len cap) c) : ∃ b z k, ι.blk[o]? = some (b, z) ∧ c = .slice (some ⟨b, pathOff p + off * s, none⟩) len k ∧ len ≤ k ∧
    pathOff p + (off + k) * s ≤ z ∧ (∀ k', cap = some k' → k = k') := by
  have := h.one rfl rfl; rw [Rep] at this
  obtain ⟨b, z, k, e, k1, k2⟩ := this
  exact ⟨b, z, k, e, by simpa using k1, k2⟩

theorem fsl_of {c : TC} {xs : List c.den} {v : Value} (h : RepV ι (.fsl c xs) v) : (xs = [] ∧ (v = .slice none 0 0 ∨ ∃ a, v = .slice (some a) 0 0)) ∨
      ∃ b off k cells t fz l, v = .slice (some ⟨b, off, none⟩) xs.length k ∧ xs.length ≤ k ∧ ι.prot b = some (.cells cells t fz) ∧ RepAll (RepD ι c) xs l ∧ At cells off l := by
  have := h.one rfl rfl; rw [Rep] at this
  obtain ⟨u, e, k⟩ := this
  simp only [List.cons.injEq, and_true] at e; subst e; exact k

theorem indexAddr_ok {t et : TypeId} {d e : ATy} {x i v : AV} {q : List Prop} {cx ci : Value} (hd : d.ok E.P t) (he : e.ok E.P et) (hde : d.desc = .slice et ∨ ∃ n, d.desc = .array n et)
    (h : indexAddrA d e.size x i = some (q, v)) (hq : holds q) (hx : RepV ι x cx) (hi : RepV ι i ci) : ∃ c, (Instr.indexAt t cx ci).run E.P w = .ok c w ∧ RepV ι v c := by
  unfold indexAddrA at h
  split at h
  · rename_i k i
    rw [hi.int]
    have arr : ∀ n b o, d.desc = .array n et → 0 ≤ i → i < n → (Instr.indexAt t (.pointer (some ⟨b, o, none⟩)) (.int k i)).run E.P w = .ok (.pointer (some ⟨b, o + i.toNat * e.size, none⟩)) w := fun n b o hdesc h0 hn => by
      have hu := hd.1
      rw [hdesc] at hu
      simp [Instr.indexAt, run_underlying hu, asIntOf, Instr.sureAddr, h0, hn, run_sizeOf' he, addr_add]
    have slc : ∀ (n k' : Nat) b o, d.desc = .slice et → 0 ≤ i → i < n → (Instr.indexAt t (.slice (some ⟨b, o, none⟩) n k') (.int k i)).run E.P w = .ok (.pointer (some ⟨b, o + i.toNat * e.size, none⟩)) w := fun n k' b o hdesc h0 hn => by
      have hu := hd.1
      rw [hdesc] at hu
      simp [Instr.indexAt, run_underlying hu, asIntOf, h0, hn, run_sizeOf' he, addr_add]
    have ds : ∀ et', d.desc = .slice et' → et' = et := fun et' h' => by
      rcases hde with k' | ⟨m, k'⟩ <;> rw [h'] at k' <;> cases k'; rfl
    have da : ∀ n et', d.desc = .array n et' → et' = et := fun n et' h' => by
      rcases hde with k' | ⟨m, k'⟩ <;> rw [h'] at k' <;> cases k'; rfl
    split at h
    · rename_i n et' o p hdesc
      have := da _ _ hdesc; subst this
      simp only [Option.some.injEq, Prod.mk.injEq] at h
      obtain ⟨rfl, rfl⟩ := h
      obtain ⟨h0, hn, _⟩ := hq
      obtain ⟨b, rfl, hr⟩ := ptr_step (.idx e.size i.toNat) hx
      exact ⟨_, arr _ _ _ hdesc h0 hn, hr⟩
    · rename_i n et' u hdesc
      have := da _ _ hdesc; subst this
      split at h
      · rename_i q' u' hg
        simp only [Option.some.injEq, Prod.mk.injEq] at h
        obtain ⟨rfl, rfl⟩ := h
        obtain ⟨h0, hn, hq⟩ := hq
        obtain ⟨b, o, rfl, hr⟩ := ref_step hg hq hx
        exact ⟨_, arr _ _ _ hdesc h0 hn, hr⟩
      · cases h
    · rename_i et' c xs hdesc
      have := ds _ hdesc; subst this
      split at h
      · rename_i hcs
        simp only [Option.some.injEq, Prod.mk.injEq] at h
        obtain ⟨rfl, rfl⟩ := h
        obtain ⟨h0, hn, _⟩ := hq
        rcases fsl_of hx with ⟨rfl, _⟩ | ⟨b, off, k', cells, ty, fz, l, rfl, hk, hp, hr, hat⟩
        · simp at hn; omega
        · refine ⟨_, slc _ _ _ _ hdesc h0 hn, RepV_of_rep rfl ?_⟩
          obtain ⟨l1, m, l2, el, el1, hu, _⟩ := hr.at (RepD_len c) i.toNat _ (rdc_some (by omega))
          rw [Rep]
          refine ⟨b, off + i.toNat * e.size, cells, ty, fz, m, rfl, hp, Rep_ofD.2 hu, ?_⟩
          rw [← hcs, ← el1]
          exact At.sub (by rw [← el]; exact hat)
      · cases h
    · rename_i et' o p s' off len cap hdesc
      have := ds _ hdesc; subst this
      split at h
      · rename_i hs; subst hs
        simp only [Option.some.injEq, Prod.mk.injEq] at h
        obtain ⟨rfl, rfl⟩ := h
        obtain ⟨h0, hn, _⟩ := hq
        obtain ⟨b, z, k', hb, rfl, hk, _⟩ := osl_of hx
        refine ⟨_, slc _ _ _ _ hdesc h0 hn, RepV_of_rep rfl ?_⟩
        rw [Rep]
        refine ⟨b, z, hb, ?_⟩
        rw [pathOff_app, Step.off, Nat.add_mul, Nat.add_assoc]
      · cases h
    · cases h
  · cases h
end Go.Eng
end
section
/- The operations are right: values built of parts; all of them. -/
namespace Go.Eng
open Go.RowKit
variable {E : Env} {ι : Inst} {T : List AV} {H : Heap} {a : Act} {w : World}

theorem ntB_ok {v : AV} (h : ntB v = true) : ntB v = true := h

theorem setSeg (off : Nat) : ∀ (l : List Value) (k : Nat) (cs : Array Value) (l1 m l2 : List Value), cs.toList = l1 ++ m ++ l2 → l1.length = off + k → m.length = l.length →
    ((l.zipIdx k).foldl (fun (cs : Array Value) x => cs.setIfInBounds (off + x.2) x.1) cs).toList = l1 ++ l ++ l2
  | [], k, cs, l1, m, l2, h, _, hm => by
    simp at hm; subst hm; simpa using h
  | c :: l, k, cs, l1, m, l2, h, h1, hm => by
    obtain ⟨x, m, rfl⟩ : ∃ x m', m = x :: m' := by cases m with | nil => simp at hm | cons x m => exact ⟨x, m, rfl⟩
    simp only [List.zipIdx_cons, List.foldl_cons]
    have := setSeg off l (k + 1) (cs.setIfInBounds (off + k) c) (l1 ++ [c]) m l2 (by
      rw [Array.toList_setIfInBounds, h, ← h1]; simp) (by simp [h1]; omega) (by simpa using hm)
    rw [this]; simp

theorem fillA_ok {st : Nat → Option (Step × Nat)} {place : Nat → Option (Nat × Nat)} (hst : ∀ i s n, st i = some (s, n) → place i = some (s.off, n)) :
    ∀ (l : List (Nat × AV)) (cl : List (Nat × Value)) (v v' : AV) (q : List Prop) (cs : Array Value), fillA st v l = some (q, v') → holds q →
      All2 (fun (x : Nat × AV) (y : Nat × Value) => x.1 = y.1 ∧ RepV ι x.2 y.2) l cl → Rep ι v cs.toList → ∃ cs', Instr.fill place cs cl = some cs' ∧ Rep ι v' cs'.toList
  | [], _, v, v', q, cs, h, _, hl, hr => by
    cases hl
    simp only [fillA, Option.some.injEq, Prod.mk.injEq] at h
    obtain ⟨_, rfl⟩ := h
    exact ⟨cs, rfl, hr⟩
  | (i, x) :: l, _, v, v', q, cs, h, hq, hl, hr => by
    cases hl with
    | cons hx hl =>
      rename_i y cl
      obtain ⟨j, c⟩ := y
      obtain ⟨rfl, hx⟩ := hx
      simp only [fillA] at h
      split at h
      · rename_i s n hs
        split at h
        · rename_i q1 u hg
          split at h
          · rename_i hc
            obtain ⟨hu, hxn, hnt⟩ := hc
            split at h
            · rename_i v1 hv1
              split at h
              · rename_i q2 r hf
                simp only [Option.some.injEq, Prod.mk.injEq] at h
                obtain ⟨rfl, rfl⟩ := h
                rw [holds_app] at hq
                obtain ⟨l1, m, l2, el, el1, hum, hset⟩ := getP_ok [s] v cs.toList q1 u hg hq.1 hr
                have hxc := hx.cells (ntB_ok hnt)
                have hxl := Rep_len _ _ hxc
                have hml := Rep_len _ _ hum
                have hoff : s.off = l1.length := by rw [el1]; simp [pathOff]
                have hcs : cs.size = l1.length + m.length + l2.length := by rw [← Array.length_toList, el]; simp [Nat.add_assoc]
                have hsz : c.cells.size = n := by rw [← Array.length_toList, hxl, hxn]
                have hnew := hset x c.cells.toList v1 hv1 hxc (by rw [hxl, hml, hxn, hu])
                have hfold := setSeg s.off c.cells.toList 0 cs l1 m l2 el (by simp [hoff]) (by rw [hml, hxl, hxn, hu])
                have hfold' : (c.cells.zipIdx.foldl (fun cs (x : Value × Nat) => cs.setIfInBounds (s.off + x.2) x.1) cs).toList = l1 ++ c.cells.toList ++ l2 := by
                  rw [← hfold, ← Array.foldl_toList, Array.toList_zipIdx]
                obtain ⟨cs', hfill, hrep⟩ := fillA_ok hst l cl v1 _ q2 (c.cells.zipIdx.foldl (fun cs (x : Value × Nat) => cs.setIfInBounds (s.off + x.2) x.1) cs) hf hq.2 hl (by rw [hfold']; exact hnew)
                refine ⟨cs', ?_, hrep⟩
                simp only [Instr.fill, hst _ _ _ hs]
                rw [if_neg]
                · exact hfill
                · simp only [hsz, ne_eq, not_true_eq_false, decide_false, Bool.false_or, gt_iff_lt, decide_eq_true_eq]
                  rw [hcs, hoff, hml, hu]; omega
              · cases h
            · cases h
          · cases h
        · cases h
      · cases h

theorem evParts_ok : ∀ {l : List (Nat × Operand)} {ps : List (Nat × AV)}, evParts E T l = some ps → ARel E ι T H a w →
    All2 (fun (x : Nat × AV) (y : Nat × Value) => x.1 = y.1 ∧ RepV ι x.2 y.2) ps (l.map fun x => (x.1, a.eval x.2))
  | [], _, h, _ => by cases h; exact .nil
  | (i, x) :: l, _, h, r => by
    simp only [evParts] at h
    split at h
    · rename_i v vs h1 h2; cases h; exact .cons ⟨rfl, ev_ok h1 r⟩ (evParts_ok h2 r)
    · cases h

def placeOf (f : Field) : Sem (Nat × Nat) := do pure (f.offset, ← sizeOf f.type)

theorem run_mapM_fields {P : Program} : ∀ (fs : List Field), (∀ f ∈ fs, ∃ n, (sizeOf f.type).run P w = .ok n w) →
    ∃ l : List (Nat × Nat), (fs.mapM placeOf).run P w = .ok l w ∧
      ∀ (i : Nat) (f : Field) n, fs[i]? = some f → (sizeOf f.type).run P w = .ok n w → l[i]? = some (f.offset, n)
  | [], _ => ⟨[], rfl, by simp⟩
  | f :: fs, h => by
    obtain ⟨n, hn⟩ := h f (by simp)
    obtain ⟨l, hl, hat⟩ := run_mapM_fields fs (fun f hf => h f (by simp [hf]))
    refine ⟨(f.offset, n) :: l, ?_, ?_⟩
    · simp only [List.mapM_cons, Sem.run_bind, placeOf, hn, Result.andThen, Sem.run_pure]
      rw [hl]
    · intro i f' n' e1 e2
      cases i with
      | zero => simp at e1; subst e1; rw [hn] at e2; cases e2; rfl
      | succ i => simp at e1 ⊢; exact hat i f' n' e1 e2

theorem spreadL {c : TC} {xs : List c.den} {l : List Value} (h : RepAll (RepD ι c) xs l) : RepL ι (List.replicate xs.length c.size) (xs.map (ofD c)) l := by
  induction h with
  | nil => rw [List.map_nil, RepL]; exact ⟨rfl, rfl⟩
  | cons h1 _ ih =>
    rw [List.map_cons, RepL]
    exact ⟨c.size, _, _, _, rfl, rfl, RepD_len c _ _ h1, Rep_ofD.2 h1, ih⟩

theorem startA_ok {z : AV} {parts : List (Nat × AV)} {l : List Value} (h : Rep ι z l) : Rep ι (startA z parts) l := by
  unfold startA
  split
  · cases z with
    | arr n c xs =>
      rw [Rep] at h
      simp only [spread]
      rw [Rep]
      exact spreadL h.2
    | _ => exact h
  · exact h

theorem build_ok (hV : E.Valid) {t : TypeId} {d : ATy} {ps : List (Nat × AV)} {cl : List (Nat × Value)} {q : List Prop} {v : AV} {s : Nat} (hd : d.ok E.P t)
    (hs : ∀ n et, d.desc = .array n et → ∃ e, E.ty et = some e ∧ e.size = s) (h : buildA E d s ps = some (q, v)) (hq : holds q)
    (hl : All2 (fun (x : Nat × AV) (y : Nat × Value) => x.1 = y.1 ∧ RepV ι x.2 y.2) ps cl) :
    ∃ cs : Array Value, (Instr.build t cl.toArray).run E.P w = .ok (.agg cs) w ∧ Rep ι v cs.toList := by
  obtain ⟨z, hz, hzr⟩ := run_zero' hd w
  have hu := hd.1
  have hzc := (hzr ι).cells
  unfold buildA at h
  split at h
  · rename_i fs hdesc
    rw [hdesc] at hu
    split at h
    · rename_i hall
      have hsz : ∀ f ∈ fs.toList, ∃ n, (sizeOf f.type).run E.P w = .ok n w := fun f hf => by
        have := List.all_eq_true.1 hall f hf
        obtain ⟨x, hx⟩ := Option.isSome_iff_exists.1 this
        exact ⟨x.size, run_sizeOf' (hV.ty _ _ hx) w⟩
      obtain ⟨pl, hpl, hat⟩ := run_mapM_fields fs.toList hsz
      obtain ⟨cs', hfill, hrep⟩ := fillA_ok (place := (pl.toArray[·]?)) (fun i s n e => by
        split at e
        · rename_i off e' hf
          simp only [Option.some.injEq, Prod.mk.injEq] at e
          obtain ⟨rfl, rfl⟩ := e
          obtain ⟨fs', fd, hdesc', hfd, rfl, he, _⟩ := fieldOff_ok hV hf
          rw [hdesc] at hdesc'; cases hdesc'
          have := hat i fd _ (by simpa using hfd) (run_sizeOf' he w)
          simpa [Step.off] using this
        · cases e) ps cl d.zero v q z.cells h hq hl hzc
      refine ⟨cs', ?_, hrep⟩
      have hpl' : (fs.mapM placeOf).run E.P w = .ok pl.toArray w := by
        rw [Array.mapM_eq_mapM_toList]; simp only [Sem.run_map, hpl, Result.andThen]
      simp only [Instr.build, Sem.run_bind, hz, Result.andThen, run_underlying hu]
      have hpl2 : (fs.mapM (fun f => do pure (f.offset, ← sizeOf f.type) : Field → Sem (Nat × Nat))).run E.P w = .ok pl.toArray w := hpl'
      simp only [hpl2, hfill, Sem.run_pure]
    · cases h
  · rename_i n et hdesc
    rw [hdesc] at hu
    obtain ⟨e, he, rfl⟩ := hs n et hdesc
    obtain ⟨cs', hfill, hrep⟩ := fillA_ok (place := fun i => some (i * e.size, e.size)) (fun i s n h => by
      simp only [Option.some.injEq, Prod.mk.injEq] at h
      obtain ⟨rfl, rfl⟩ := h
      rfl) ps cl (startA d.zero ps) v q z.cells h hq hl (startA_ok hzc)
    refine ⟨cs', ?_, hrep⟩
    simp only [Instr.build, Sem.run_bind, hz, Result.andThen, run_underlying hu, run_sizeOf' (hV.ty _ _ he) w]
    simp only [hfill, Sem.run_pure]
  · cases h
end Go.Eng
end
section
/- The operations are right: all that neither call nor part the way. -/
namespace Go.Eng
open Go.RowKit
variable {E : Env} {ι : Inst} {T : List AV} {H : Heap} {a : Act} {w : World}

theorem range_cells (z : Array Value) : ∀ (n : Nat), (List.range (n * z.size)).map (fun i => z[i % z.size]!) = (List.replicate n z.toList).flatten
  | 0 => by simp
  | n + 1 => by
    have ih := range_cells z n
    rw [show (n + 1) * z.size = z.size + n * z.size by rw [Nat.add_mul]; omega, List.range_add, List.map_append, List.replicate_succ, List.flatten_cons, ← ih]
    congr 1
    · apply List.ext_getElem
      · simp
      · intro i h1 h2
        simp at h1
        simp [Nat.mod_eq_of_lt h1, h1]
    · rw [List.map_map]
      apply List.map_congr_left
      intro i _
      simp

theorem RepAll_replicate {c : TC} {z : c.den} {l : List Value} (h : RepD ι c z l) : ∀ n, RepAll (RepD ι c) (List.replicate n z) (List.replicate n l).flatten
  | 0 => by simpa using .nil
  | n + 1 => by rw [List.replicate_succ, List.replicate_succ, List.flatten_cons]; exact .cons h (RepAll_replicate h n)

/-- What a new row's cells read as, where its element's zero reads as one. -/
def StartSl (e : ATy) (len : Nat) (s : AV) : Prop := ∀ (ι : Inst) (l : List Value), Rep ι e.zero l → l.length = e.size → Rep ι s (List.replicate len l).flatten

theorem startSl_code {e : ATy} {c : TC} {z : c.den} {len : Nat} (hz : toD c e.zero = some z) (hc : c.size = e.size) : StartSl e len (.arr len c (List.replicate len z)) := by
  intro ι l h _
  rw [Rep]
  exact ⟨by simp, RepAll_replicate (Rep_toD hz h) len⟩

theorem startSl_zeros {e : ATy} {len : Nat} : StartSl e len (zerosL e len) := by
  intro ι l h hl
  unfold zerosL
  rw [Rep]
  induction len with
  | zero => rw [List.replicate_zero, List.replicate_zero, RepL]; exact ⟨rfl, rfl⟩
  | succ n ih =>
    rw [List.replicate_succ, List.replicate_succ, List.replicate_succ, List.flatten_cons, RepL]
    exact ⟨_, _, _, _, rfl, rfl, hl, h, ih⟩

theorem buildSlice_ok {t et : TypeId} {d e : ATy} {s : AV} {len : Nat} {ps : List (Nat × AV)} {cl : List (Nat × Value)} {q : List Prop} {v : AV}
    (hd : d.ok E.P t) (he : e.ok E.P et) (hdesc : d.desc = .slice et) (hs : StartSl e len s) (h : fillA (fun i => some (.idx e.size i, e.size)) s ps = some (q, v))
    (hq : holds q) (hl1 : len * e.size ≤ 2 ^ 24) (hl2 : e.size ≠ 0) (hl3 : szV v = len * e.size) (r : HRel ι H w)
    (hl : All2 (fun (x : Nat × AV) (y : Nat × Value) => x.1 = y.1 ∧ RepV ι x.2 y.2) ps cl) :
    ∃ ι' w' u, (Instr.buildSlice t len cl.toArray).run E.P w = .ok u w' ∧ Ext ι ι' ∧ HRel ι' (H ++ [.cell true et v]) w' ∧ RepV ι' (.osl H.length [] e.size 0 len (some len)) u := by
  obtain ⟨zv, hzr, hzv⟩ := run_zero' he w
  have hu := hd.1
  rw [hdesc] at hu
  have hzc := (hzv ι).cells
  have hsz0 : szV e.zero = e.size := he.2.elim fun i h => h.elim fun z h => h.2.2.2.2.2.2
  have hzl : zv.cells.size = e.size := by rw [← Array.length_toList, Rep_len _ _ hzc, hsz0]
  have hne : ¬ len * e.size > 2 ^ 24 := by omega
  have hstart : ∃ zs : Array Value, ((len * e.size = 0 ∧ zs = #[]) ∨ (len * e.size ≠ 0 ∧ zs = zv.cells)) ∧
      Rep ι s ((Array.range (len * e.size)).map (zs[· % zs.size]!)).toList := by
    by_cases h0 : len * e.size = 0
    · have hlen : len = 0 := by
        rcases Nat.mul_eq_zero.1 h0 with h | h
        · exact h
        · exact absurd h hl2
      subst hlen
      refine ⟨#[], .inl ⟨h0, rfl⟩, ?_⟩
      have := hs ι zv.cells.toList hzc (by rw [Array.length_toList, hzl])
      simpa using this
    · refine ⟨zv.cells, .inr ⟨h0, rfl⟩, ?_⟩
      have := range_cells zv.cells len
      rw [hzl] at this
      rw [Array.toList_map, Array.toList_range, hzl, this]
      exact hs ι _ hzc (by rw [Array.length_toList, hzl])
  obtain ⟨zs, hzs, hrep0⟩ := hstart
  obtain ⟨cs', hfill, hrep⟩ := fillA_ok (place := fun i => some (i * e.size, e.size)) (fun i s n h => by
    simp only [Option.some.injEq, Prod.mk.injEq] at h
    obtain ⟨rfl, rfl⟩ := h
    rfl) ps cl _ v q _ h hq hl hrep0
  have hcs : cs'.size = len * e.size := by rw [← Array.length_toList, Rep_len _ _ hrep, hl3]
  have hE := Ext.add ι w.heap.size cs'.size
  refine ⟨ι.add w.heap.size cs'.size, w.alloc (.cells cs' et), .slice (some ⟨w.heap.size, 0, none⟩) len len, ?_, hE, ?_, ?_⟩
  · simp only [Instr.buildSlice, Sem.run_bind, run_underlying hu, Result.andThen, run_sizeOf' he]
    rw [if_neg hne]
    rcases hzs with ⟨h0, rfl⟩ | ⟨h0, rfl⟩
    · rw [if_pos h0]
      simp only [Sem.run_bind, Sem.run_pure, Result.andThen, hfill]
      rfl
    · rw [if_neg h0]
      simp only [Sem.run_bind, hzr, Sem.run_pure, Result.andThen, hfill]
      rfl
  · exact r.alloc _ _ _ ⟨cs', (0, 0), cs'.toList, [], heap_alloc_new, by simp, rfl, Rep_mono hE _ _ hrep, by simp⟩
  · refine RepV_of_rep rfl ?_
    rw [Rep]
    refine ⟨w.heap.size, cs'.size, len, by rw [r.len]; exact ι.add_at _ _, by simp [pathOff], Nat.le_refl _, by simp [pathOff, hcs], by simp⟩

/-- What an operation comes to. -/
def OpOk (E : Env) (ι : Inst) (a : Act) (w : World) (o : Oper) (v : AV) (H' : Heap) : Prop :=
  ∃ ι' w' c, Ext ι ι' ∧ HRel ι' H' w' ∧ RepV ι' v c ∧ ((execOp a.eval o).run E.P w = .ok (.value c) w' ∨ ((execOp a.eval o).run E.P w = .ok .skip w' ∧ c = undef))

theorem OpOk.same {o : Oper} {v : AV} {c : Value} (r : HRel ι H w) (hv : RepV ι v c) (h : (execOp a.eval o).run E.P w = .ok (.value c) w) : OpOk E ι a w o v H :=
  ⟨ι, w, c, Ext.refl ι, r, hv, .inl h⟩

theorem All2.cons_inv {α β : Type} {R : α → β → Prop} {x : α} {l : List α} {m : List β} (h : All2 R (x :: l) m) : ∃ y m', m = y :: m' ∧ R x y ∧ All2 R l m' := by
  cases h with | cons h1 t => exact ⟨_, _, rfl, h1, t⟩

theorem builtin_run {b : Builtin} {o : Oper} {args : Array Operand} {ts : Array TypeId} (hop : o.op = .call { callee := .builtin b, args, argTypes := ts }) :
    ∃ cs, (execOp a.eval o).run E.P w = (builtin b ts o.type cs (args.map a.eval)).run E.P w := by
  refine ⟨args.map fun | .const _ => true | _ => false, ?_⟩
  simp only [execOp, hop, resolve, Sem.run_bind, Sem.run_pure, Result.andThen, invoke]
  rfl
end Go.Eng
end
section
/- The operations are right: strings' bytes, parts of slices and strings. -/
namespace Go.Eng
open Go.RowKit
variable {E : Env} {ι : Inst} {T : List AV} {H : Heap} {a : Act} {w : World}

theorem indexS_ok {P : Program} {t : TypeId} {d : ATy} {x i v : AV} {q : List Prop} {cx ci : Value} (hd : d.ok P t) (h : indexS d x i = some (q, v)) (hq : holds q) (hx : RepV ι x cx) (hi : RepV ι i ci) :
    ∃ c, (Instr.index t cx ci).run P w = .ok c w ∧ RepV ι v c := by
  unfold indexS at h
  split at h
  · rename_i s k n hdesc
    simp only [Option.some.injEq, Prod.mk.injEq] at h; obtain ⟨rfl, rfl⟩ := h
    obtain ⟨h1, h2, _⟩ := hq
    have hu := hd.1
    rw [hdesc] at hu
    have hs : cx = .string s := by
      have := hx.one rfl rfl; rw [Rep] at this; simpa using this
    have hb : s[n.toNat]? = some s[n.toNat] := by simp [h2]
    refine ⟨.int .u8 s[n.toNat].toNat, ?_, ?_⟩
    · simp [Instr.index, hs, hi.int, asIntOf, run_underlying hu, h1, h2]
    · have : strAt s n.toNat = (s[n.toNat].toNat : Int) := by unfold strAt; rw [hb]
      rw [this]; exact RepV_int _ _
  · cases h

/-- A bound, and its value. -/
def Bnd (ι : Inst) (o : Option AV) (c : Option Value) : Prop := (o = none ∧ c = none) ∨ ∃ v u, o = some v ∧ c = some u ∧ RepV ι v u

theorem evO_ok {x : Option Operand} {o : Option AV} (h : evO E T x = some o) (r : ARel E ι T H a w) : Bnd ι o (x.map a.eval) := by
  unfold evO at h
  split at h
  · cases h; exact .inl ⟨rfl, rfl⟩
  · split at h
    · rename_i v hv; cases h; exact .inr ⟨v, _, rfl, rfl, ev_ok hv r⟩
    · cases h

theorem run_bounds {P : Program} (b : Bool) (len cap l m : Nat) (lo hi : Option Value) (hl : (lo = none ∧ l = 0) ∨ ∃ k n, lo = some (.int k n) ∧ 0 ≤ n ∧ l = n.toNat)
    (hm : (hi = none ∧ m = len) ∨ ∃ k n, hi = some (.int k n) ∧ 0 ≤ n ∧ m = n.toNat) (h1 : l ≤ m) (h2 : m ≤ len) (h3 : len ≤ cap) : (Instr.sliceBounds b len cap lo hi none).run P w = .ok (l, m, cap) w := by
  rcases hl with ⟨rfl, rfl⟩ | ⟨k, n, rfl, hn, rfl⟩ <;> rcases hm with ⟨rfl, rfl⟩ | ⟨k', n', rfl, hn', rfl⟩
  · simp [Instr.sliceBounds]
  · have : n' ≤ (cap : Int) := by omega
    simp [Instr.sliceBounds, Instr.sliceBound, asIntOf, hn', this]
  · have : n ≤ (m : Int) := by omega
    simp [Instr.sliceBounds, Instr.sliceBound, asIntOf, hn, this]
  · have e1 : n' ≤ (cap : Int) := by omega
    have e2 : n ≤ (n'.toNat : Int) := by omega
    simp [Instr.sliceBounds, Instr.sliceBound, asIntOf, hn, hn', e1]
    intro hc; omega

theorem loA_ok {lo : Option AV} {q : List Prop} {l : Nat} {c : Option Value} (h : loA lo = some (q, l)) (hq : holds q) (hb : Bnd ι lo c) : (c = none ∧ l = 0) ∨ ∃ k n, c = some (.int k n) ∧ 0 ≤ n ∧ l = n.toNat := by
  unfold loA at h
  split at h
  · simp only [Option.some.injEq, Prod.mk.injEq] at h; obtain ⟨rfl, rfl⟩ := h
    rcases hb with ⟨_, rfl⟩ | ⟨v, u, e, _⟩
    · exact .inl ⟨rfl, rfl⟩
    · cases e
  · rename_i k n
    simp only [Option.some.injEq, Prod.mk.injEq] at h; obtain ⟨rfl, rfl⟩ := h
    rcases hb with ⟨e, _⟩ | ⟨v, u, e, rfl, hr⟩
    · cases e
    · cases e
      exact .inr ⟨k, n, by rw [hr.int], hq.1, rfl⟩
  · cases h

theorem part_fsl {P : Program} {t e : TypeId} {de : ATy} {c : TC} {xs : List c.den} {cx : Value} {l m : Nat} {lo hi : Option Value} (hu : P.underlying t = some (.slice e)) (he : de.ok P e) (hs : c.size = de.size) (hx : RepV ι (.fsl c xs) cx)
    (hl : (lo = none ∧ l = 0) ∨ ∃ k n, lo = some (.int k n) ∧ 0 ≤ n ∧ l = n.toNat) (hm : (hi = none ∧ m = xs.length) ∨ ∃ k n, hi = some (.int k n) ∧ 0 ≤ n ∧ m = n.toNat) (h1 : l ≤ m) (h2 : m ≤ xs.length) :
    ∃ u, (Instr.sliceAt t cx lo hi none).run P w = .ok u w ∧ RepV ι (.fsl c ((xs.drop l).take (m - l))) u := by
  have hr := hx.one rfl rfl
  rw [Rep] at hr
  obtain ⟨v, e1, hv⟩ := hr
  simp only [List.cons.injEq, and_true] at e1
  subst e1
  rcases hv with ⟨rfl, rfl | ⟨a0, rfl⟩⟩ | ⟨b, off, k, cells, ty, fz, cs, rfl, hk, hp, hr, hat⟩
  · simp only [List.length_nil, Nat.le_zero] at h2
    subst h2
    have : l = 0 := by omega
    subst this
    have hm' : (hi = none ∧ 0 = 0) ∨ ∃ k n, hi = some (.int k n) ∧ 0 ≤ n ∧ 0 = n.toNat := by simpa using hm
    have hb := run_bounds (P := P) (w := w) true 0 0 0 0 lo hi hl hm' (Nat.le_refl _) (Nat.le_refl _) (Nat.le_refl _)
    refine ⟨.slice none 0 0, ?_, RepV_of_rep rfl (by rw [Rep]; exact ⟨_, rfl, .inl ⟨by simp, .inl rfl⟩⟩)⟩
    simp only [Instr.sliceAt, Sem.run_bind, run_underlying hu, Result.andThen, Instr.slice, hb, run_sizeOf' he, Sem.run_pure]
    simp
  · simp only [List.length_nil, Nat.le_zero] at h2
    subst h2
    have : l = 0 := by omega
    subst this
    have hm' : (hi = none ∧ 0 = 0) ∨ ∃ k n, hi = some (.int k n) ∧ 0 ≤ n ∧ 0 = n.toNat := by simpa using hm
    have hb := run_bounds (P := P) (w := w) true 0 0 0 0 lo hi hl hm' (Nat.le_refl _) (Nat.le_refl _) (Nat.le_refl _)
    refine ⟨.slice (some a0) 0 0, ?_, RepV_of_rep rfl (by rw [Rep]; exact ⟨_, rfl, .inl ⟨by simp, .inr ⟨a0, rfl⟩⟩⟩)⟩
    simp only [Instr.sliceAt, Sem.run_bind, run_underlying hu, Result.andThen, Instr.slice, hb, run_sizeOf' he, Sem.run_pure]
    simp
  · have hb := run_bounds (P := P) (w := w) true xs.length k l m lo hi hl hm h1 h2 hk
    refine ⟨.slice (if k = l then some ⟨b, off, none⟩ else some ⟨b, off + l * de.size, none⟩) (m - l) (k - l), ?_, RepV_of_rep rfl ?_⟩
    · simp only [Instr.sliceAt, Sem.run_bind, run_underlying hu, Result.andThen, Instr.slice, hb, run_sizeOf' he, Sem.run_pure, Option.map_some, addr_add]
    · obtain ⟨m1, m2, em, em1, hr1, hr2⟩ := hr.split (RepD_len c) l (by omega)
      obtain ⟨k1, k2, ek, ek1, hs1, hs2⟩ := hr2.split (RepD_len c) (m - l) (by simp; omega)
      have hlen : ((xs.drop l).take (m - l)).length = m - l := by simp; omega
      rw [Rep]
      by_cases hkl : k = l
      · have hml : m - l = 0 := by omega
        refine ⟨_, rfl, .inr ⟨b, off, k - l, cells, ty, fz, k1, ?_, by rw [hlen]; omega, hp, hs1, ?_⟩⟩
        · rw [if_pos hkl, hlen]
        · have : k1 = [] := by
            have := hs1.len (RepD_len c)
            rw [hlen, hml] at this
            simpa using this
          rw [this]
          intro j v hj
          simp at hj
      · refine ⟨_, rfl, .inr ⟨b, off + l * de.size, k - l, cells, ty, fz, k1, ?_, by rw [hlen]; omega, hp, hs1, ?_⟩⟩
        · rw [if_neg hkl, hlen]
        · have : l * de.size = m1.length := by rw [em1, hs]
          rw [this]
          refine At.sub (l2 := k2) ?_
          rw [em, ek] at hat
          rw [List.append_assoc]
          exact hat

theorem run_bounds' {P : Program} (b : Bool) (len cap l m : Nat) (lo hi : Option Value) (hl : (lo = none ∧ l = 0) ∨ ∃ k n, lo = some (.int k n) ∧ 0 ≤ n ∧ l = n.toNat)
    (hm : (hi = none ∧ m = len) ∨ ∃ k n, hi = some (.int k n) ∧ 0 ≤ n ∧ m = n.toNat) (h1 : l ≤ m) (h2 : m ≤ cap) : (Instr.sliceBounds b len cap lo hi none).run P w = .ok (l, m, cap) w := by
  rcases hl with ⟨rfl, rfl⟩ | ⟨k, n, rfl, hn, rfl⟩ <;> rcases hm with ⟨rfl, rfl⟩ | ⟨k', n', rfl, hn', rfl⟩
  · simp [Instr.sliceBounds]
  · have : n' ≤ (cap : Int) := by omega
    simp [Instr.sliceBounds, Instr.sliceBound, asIntOf, hn', this]
  · have : n ≤ (m : Int) := by omega
    simp [Instr.sliceBounds, Instr.sliceBound, asIntOf, hn, this]
  · have e1 : n' ≤ (cap : Int) := by omega
    have e2 : n ≤ (n'.toNat : Int) := by omega
    simp [Instr.sliceBounds, Instr.sliceBound, asIntOf, hn, hn', e1]
    intro hc; omega

theorem part_osl {P : Program} {t e : TypeId} {de : ATy} {o off len : Nat} {p : List Step} {cap : Option Nat} {cx : Value} {l m : Nat} {lo hi : Option Value} (hu : P.underlying t = some (.slice e)) (he : de.ok P e) (hx : RepV ι (.osl o p de.size off len cap) cx)
    (hl : (lo = none ∧ l = 0) ∨ ∃ k n, lo = some (.int k n) ∧ 0 ≤ n ∧ l = n.toNat) (hm : (hi = none ∧ m = len) ∨ ∃ k n, hi = some (.int k n) ∧ 0 ≤ n ∧ m = n.toNat) (h1 : l ≤ m) (h2 : m ≤ capA len cap) (h3 : l = 0 ∨ l < capA len cap) :
    ∃ u, (Instr.sliceAt t cx lo hi none).run P w = .ok u w ∧ RepV ι (.osl o p de.size (off + l) (m - l) (cap.map fun k => k - l)) u := by
  obtain ⟨b, z, k, hb, rfl, hk, hkz, hcap⟩ := osl_of hx
  have hck : capA len cap ≤ k := by
    unfold capA
    cases cap with
    | none => exact hk
    | some k' => exact Nat.le_of_eq (hcap k' rfl).symm
  have hbd := run_bounds' (P := P) (w := w) true len k l m lo hi hl hm h1 (by omega)
  refine ⟨.slice (some ⟨b, pathOff p + (off + l) * de.size, none⟩) (m - l) (k - l), ?_, RepV_of_rep rfl ?_⟩
  · simp only [Instr.sliceAt, Sem.run_bind, run_underlying hu, Result.andThen, Instr.slice, hbd, run_sizeOf' he, Sem.run_pure, Option.map_some, addr_add]
    rcases h3 with rfl | h3
    · have : pathOff p + off * de.size = pathOff p + (off + 0) * de.size := by simp
      by_cases hk0 : k = 0
      · rw [if_pos hk0, this]
      · rw [if_neg hk0]; simp
    · rw [if_neg (by omega), Nat.add_mul]; simp [Nat.add_assoc]
  · rw [Rep]
    refine ⟨b, z, k - l, hb, rfl, by omega, ?_, ?_⟩
    · have : off + l + (k - l) = off + k := by omega
      rw [this]; exact hkz
    · intro k' hk'
      cases cap with
      | none => cases hk'
      | some k0 => simp only [Option.map_some, Option.some.injEq] at hk'; rw [hcap k0 rfl]; exact hk'

theorem part_nil {P : Program} {t e : TypeId} {de : ATy} {lo hi : Option Value} (hu : P.underlying t = some (.slice e)) (he : de.ok P e)
    (hl : (lo = none ∧ 0 = 0) ∨ ∃ k n, lo = some (.int k n) ∧ 0 ≤ n ∧ 0 = n.toNat) (hm : (hi = none ∧ 0 = 0) ∨ ∃ k n, hi = some (.int k n) ∧ 0 ≤ n ∧ 0 = n.toNat) :
    (Instr.sliceAt t (.slice none 0 0) lo hi none).run P w = .ok (.slice none 0 0) w := by
  have hb := run_bounds (P := P) (w := w) true 0 0 0 0 lo hi hl hm (Nat.le_refl _) (Nat.le_refl _) (Nat.le_refl _)
  simp only [Instr.sliceAt, Sem.run_bind, run_underlying hu, Result.andThen, Instr.slice, hb, run_sizeOf' he, Sem.run_pure]
  simp

theorem sliceA_ok (hV : E.Valid) {t : TypeId} {d : ATy} {s : Nat} {x v : AV} {lo hi : Option AV} {q : List Prop} {cx : Value} {cl ch : Option Value} (hd : E.ty t = some d) (hs : sliceSz E d = some s) (h : sliceA d s x lo hi = some (q, v)) (hq : holds q)
    (hx : RepV ι x cx) (hl : Bnd ι lo cl) (hh : Bnd ι hi ch) : ∃ u, (Instr.sliceAt t cx cl ch none).run E.P w = .ok u w ∧ RepV ι v u := by
  have hu := (hV.ty _ _ hd).1
  unfold sliceA at h
  split at h
  · rename_i q1 l hlo
    split at h
    · rename_i e c xs hdesc
      split at h
      · rename_i hsz
        rw [hdesc] at hu
        unfold sliceSz at hs
        rw [hdesc] at hs
        simp only at hs
        split at hs
        · rename_i de hde
          simp only [Option.some.injEq] at hs
          subst hs
          have he := hV.ty _ _ hde
          split at h
          · simp only [Option.some.injEq, Prod.mk.injEq] at h; obtain ⟨rfl, rfl⟩ := h
            rw [holds_app] at hq
            rcases hh with ⟨_, rfl⟩ | ⟨v, u, e, _⟩
            · have := part_fsl (w := w) hu he hsz hx (loA_ok hlo hq.1 hl) (.inl ⟨rfl, rfl⟩) hq.2.1 (Nat.le_refl _)
              have e : (xs.drop l).take (xs.length - l) = xs.drop l := List.take_of_length_le (by simp)
              rw [e] at this
              exact this
            · cases e
          · rename_i k m
            simp only [Option.some.injEq, Prod.mk.injEq] at h; obtain ⟨rfl, rfl⟩ := h
            rw [holds_app] at hq
            obtain ⟨hq1, hq2, hq3, hq4, _⟩ := hq
            rcases hh with ⟨e, _⟩ | ⟨v, u, e, rfl, hr⟩
            · cases e
            · cases e
              exact part_fsl (w := w) hu he hsz hx (loA_ok hlo hq1 hl) (.inr ⟨k, m, by rw [hr.int], hq2, rfl⟩) hq3 hq4
          · cases h
        · cases hs
      · cases h
    · rename_i e o p s' off len cap hdesc
      split at h
      · rename_i hsz; subst hsz
        rw [hdesc] at hu
        unfold sliceSz at hs
        rw [hdesc] at hs
        simp only at hs
        split at hs
        · rename_i de hde
          simp only [Option.some.injEq] at hs
          subst hs
          have he := hV.ty _ _ hde
          split at h
          · simp only [Option.some.injEq, Prod.mk.injEq] at h; obtain ⟨rfl, rfl⟩ := h
            rw [holds_app] at hq
            rcases hh with ⟨_, rfl⟩ | ⟨v, u, e, _⟩
            · obtain ⟨b, z, k, _, _, hk, _, hcap⟩ := osl_of hx
              have : len ≤ capA len cap := by
                unfold capA
                cases cap with
                | none => exact Nat.le_refl _
                | some k' => have := hcap k' rfl; simp only; omega
              exact part_osl (w := w) hu he hx (loA_ok hlo hq.1 hl) (.inl ⟨rfl, rfl⟩) hq.2.1 this hq.2.2.1
            · cases e
          · rename_i k m
            simp only [Option.some.injEq, Prod.mk.injEq] at h; obtain ⟨rfl, rfl⟩ := h
            rw [holds_app] at hq
            obtain ⟨hq1, hq2, hq3, hq4, hq5, _⟩ := hq
            rcases hh with ⟨e, _⟩ | ⟨v, u, e, rfl, hr⟩
            · cases e
            · cases e
              exact part_osl (w := w) hu he hx (loA_ok hlo hq1 hl) (.inr ⟨k, m, by rw [hr.int], hq2, rfl⟩) hq3 hq4 hq5
          · cases h
        · cases hs
      · cases h
    · rename_i e hdesc
      rw [hdesc] at hu
      unfold sliceSz at hs
      rw [hdesc] at hs
      simp only at hs
      split at hs
      · rename_i de hde
        have he := hV.ty _ _ hde
        have hcx := hx.raw; subst hcx
        split at h
        · simp only [Option.some.injEq, Prod.mk.injEq] at h; obtain ⟨rfl, rfl⟩ := h
          rw [holds_app] at hq
          obtain ⟨hq1, hq2, _⟩ := hq
          have h0 : l = 0 := hq2
          subst h0
          rcases hh with ⟨_, rfl⟩ | ⟨v, u, e, _⟩
          · exact ⟨_, part_nil hu he (by simpa using loA_ok hlo hq1 hl) (.inl ⟨rfl, rfl⟩), hx⟩
          · cases e
        · rename_i k m
          simp only [Option.some.injEq, Prod.mk.injEq] at h; obtain ⟨rfl, rfl⟩ := h
          rw [holds_app] at hq
          obtain ⟨hq1, hq2, hq3, _⟩ := hq
          have h0 : l = 0 := hq3
          have h1 : m = 0 := hq2
          subst h0
          subst h1
          rcases hh with ⟨e, _⟩ | ⟨v, u, e, rfl, hr⟩
          · cases e
          · cases e
            exact ⟨_, part_nil hu he (by simpa using loA_ok hlo hq1 hl) (.inr ⟨k, 0, by rw [hr.int], by decide, rfl⟩), hx⟩
        · cases h
      · cases hs
    · rename_i n e m c xs hdesc
      rw [hdesc] at hu
      unfold sliceSz at hs
      rw [hdesc] at hs
      simp only at hs
      split at hs
      · rename_i de hde
        simp only [Option.some.injEq] at hs
        subst hs
        have he := hV.ty _ _ hde
        split at h
        · split at h
          · rename_i hc
            obtain ⟨rfl, hcs⟩ := hc
            simp only [Option.some.injEq, Prod.mk.injEq] at h; obtain ⟨rfl, rfl⟩ := h
            have hp := hx.one rfl rfl
            rw [Rep] at hp
            obtain ⟨b, off, cells, t', fz, l', hpe, hprot, hr, hat⟩ := hp
            simp only [List.cons.injEq, and_true] at hpe
            subst hpe
            rw [Rep] at hr
            obtain ⟨hn, hrep⟩ := hr
            rcases hl with ⟨_, rfl⟩ | ⟨v, u, e, _⟩
            · rcases hh with ⟨_, rfl⟩ | ⟨v, u, e, _⟩
              · refine ⟨.slice (some ⟨b, off, none⟩) m m, ?_, RepV_of_rep rfl ?_⟩
                · simp only [Instr.sliceAt, Sem.run_bind, run_underlying hu, run_sizeOf' he, Result.andThen, Instr.sureAddr, Sem.run_pure, Instr.sliceBounds, Option.map_none]
                  simp
                  intro _
                  rfl
                · rw [Rep]
                  exact ⟨_, rfl, .inr ⟨b, off, m, cells, t', fz, l', by rw [hn], by omega, hprot, hrep, hat⟩⟩
              · cases e
            · cases e
          · cases h
        · cases h
      · cases hs
    · rename_i b hdesc
      rw [hdesc] at hu
      have hcx : cx = .string b := by
        have := hx.one rfl rfl; rw [Rep] at this; simpa using this
      have fin : ∀ m, ((ch = none ∧ m = b.size) ∨ ∃ k n, ch = some (.int k n) ∧ 0 ≤ n ∧ m = n.toNat) → holds q1 → l ≤ m → m ≤ b.size → ∃ u, (Instr.sliceAt t cx cl ch none).run E.P w = .ok u w ∧ RepV ι (.str (b.extract l m)) u := by
        intro m hm hq1 h1 h2
        have hb := run_bounds (P := E.P) (w := w) false b.size b.size l m cl ch (loA_ok hlo hq1 hl) hm h1 h2 (Nat.le_refl _)
        refine ⟨.string (b.extract l m), ?_, RepV_of_rep rfl (by rw [Rep])⟩
        subst hcx
        simp only [Instr.sliceAt, Sem.run_bind, run_underlying hu, Result.andThen, Instr.slice, hb, Sem.run_pure, Option.isSome_none, Bool.false_eq_true, if_false]
      split at h
      · simp only [Option.some.injEq, Prod.mk.injEq] at h; obtain ⟨rfl, rfl⟩ := h
        rw [holds_app] at hq
        rcases hh with ⟨_, rfl⟩ | ⟨v, u, e, _⟩
        · exact fin _ (.inl ⟨rfl, rfl⟩) hq.1 hq.2.1 (Nat.le_refl _)
        · cases e
      · rename_i k m
        simp only [Option.some.injEq, Prod.mk.injEq] at h; obtain ⟨rfl, rfl⟩ := h
        rw [holds_app] at hq
        obtain ⟨hq1, hq2, hq3, hq4, _⟩ := hq
        rcases hh with ⟨e, _⟩ | ⟨v, u, e, rfl, hr⟩
        · cases e
        · cases e
          exact fin _ (.inr ⟨k, m, by rw [hr.int], hq2, rfl⟩) hq1 hq3 hq4
      · cases h
    · cases h
  · cases h
end Go.Eng
end
section
/- Structs held against each other; maps. -/
namespace Go.Eng
open Go.RowKit
variable {E : Env} {ι : Inst} {T : List AV} {H : Heap} {a : Act} {w : World}

theorem fieldsOf_eq {P : Program} {t : TypeId} {fs : Array Field} (h : P.underlying t = some (.struct fs)) : P.fieldsOf t = fs := by
  simp [Program.fieldsOf, h]

theorem eqFs_ok (hV : E.Valid) {eq : TypeId → AV → AV → Option Bool} {n : Nat} {d : ATy} {x y : AV} {xs ys : Array Value} {all : Array Field} (hd : d.desc = .struct all)
    (heq : ∀ t u v b cu cv, eq t u v = some b → RepV ι u cu → RepV ι v cv → (Op.equalIn n t cu cv).run E.P w = .ok b w) (hx : RepV ι x (.agg xs)) (hy : RepV ι y (.agg ys)) :
    ∀ (fs : List Field) (i : Nat) (b : Bool), (∀ j f, fs[j]? = some f → all[i + j]? = some f) → (fs.all fun f => f.name != "_") = true → eqFs eq E d x y i fs = some b → (Op.eqFields n xs ys fs).run E.P w = .ok b w
  | [], _, _, _, _, h => by cases h; rfl
  | f :: fs, i, b, hat, hnm, h => by
    simp only [List.all_cons, Bool.and_eq_true] at hnm
    simp only [eqFs] at h
    split at h
    · rename_i u v hu hv
      split at h
      · rename_i b1 r hb hr
        cases h
        have h0 := hat 0 f rfl
        have part : ∀ {z u : AV} {zs : Array Value}, fieldA E d z i = some ([], u) → RepV ι z (.agg zs) → ∃ c, (part f.type zs f.offset).run E.P w = .ok c w ∧ RepV ι u c := by
          intro z u zs hz hr
          unfold fieldA at hz
          split at hz
          · rename_i off e hf
            obtain ⟨fs', fd, hdesc, hfd, rfl, he, hes⟩ := fieldOff_ok hV hf
            rw [hd] at hdesc; cases hdesc
            rw [Nat.add_zero] at h0
            rw [h0] at hfd; cases hfd
            split at hz
            · rename_i q' u' hg
              split at hz
              · rename_i hc
                simp only [Option.some.injEq, Prod.mk.injEq] at hz
                obtain ⟨rfl, rfl⟩ := hz
                obtain ⟨cs, e1, c, hrun, hr⟩ := part_ok (w := w) he hg trivial hc.1 hc.2 hr
                cases e1
                exact ⟨c, hrun, hr⟩
              · cases hz
            · cases hz
          · cases hz
        obtain ⟨cu, hru, ru⟩ := part hu hx
        obtain ⟨cv, hrv, rv⟩ := part hv hy
        have hb := heq _ _ _ _ _ _ hb ru rv
        have ih := eqFs_ok hV hd heq hx hy fs (i + 1) r (fun j g e => by have := hat (j + 1) g (by simpa using e); rwa [show i + (j + 1) = i + 1 + j by omega] at this) hnm.2 hr
        have hne : f.name ≠ "_" := by simpa using hnm.1
        simp only [Op.eqFields, Sem.run_ite, Sem.run_bind]
        rw [if_pos hne, hru]
        simp only [Result.andThen_ok, hrv, hb]
        cases b1
        · rfl
        · simp only [Bool.true_and]
          exact ih
      · cases h
    · cases h

theorem eqS_ok (hV : E.Valid) : ∀ (n m : Nat) (t : TypeId) (x y : AV) (b : Bool) (cx cy : Value), eqS E n t x y = some b → n ≤ m → RepV ι x cx → RepV ι y cy → (Op.equalIn m t cx cy).run E.P w = .ok b w
  | 0, _, _, _, _, _, _, _, h, _, _, _ => by cases h
  | n + 1, 0, _, _, _, _, _, _, _, hm, _, _ => absurd hm (by omega)
  | n + 1, m + 1, t, x, y, b, cx, cy, h, hm, hx, hy => by
    simp only [eqS] at h
    split at h
    · rename_i d hd
      have hu := (hV.ty _ _ hd).1
      split at h
      · rename_i hdesc
        rw [hdesc] at hu
        split at h
        · rename_i p q
          cases h
          rw [hx.bool, hy.bool]; exact run_equalIn_bool' w m t p q hu
        · cases h
      · rename_i k0 hdesc
        rw [hdesc] at hu
        split at h
        · rename_i k p k' q
          split at h
          · rename_i e; subst e
            cases h
            rw [hx.int, hy.int]; exact run_equalIn_int w m t k k0 p q hu
          · cases h
        · cases h
      · rename_i hdesc
        rw [hdesc] at hu
        split at h
        · rename_i p q
          cases h
          rw [hx.str, hy.str]; simp [Op.equalIn, run_underlying hu]
        · cases h
      · rename_i fs hdesc
        rw [hdesc] at hu
        split at h
        · rename_i hc
          obtain ⟨ha, hb, hs, hnm⟩ := hc
          obtain ⟨xs, _, rfl⟩ := hx.agg ha
          obtain ⟨ys, _, rfl⟩ := hy.agg hb
          have hf := fieldsOf_eq hu
          rw [run_equalIn_struct w m t _ _ (by rw [hf]; exact hu) hs, hf]
          exact eqFs_ok hV hdesc (fun t u v b cu cv e r1 r2 => eqS_ok hV n m t u v b cu cv e (by omega) r1 r2) hx hy fs.toList 0 b (fun j f e => by simpa using e) hnm h
        · cases h
      · cases h
    · cases h

theorem eqS_cases {n : Nat} {t : TypeId} {x y : AV} {b : Bool} (h : eqS E n t x y = some b) :
    (aggB x = true ∧ aggB y = true) ∨ (∃ p q, x = .bool p ∧ y = .bool q) ∨ (∃ k p q, x = .int k p ∧ y = .int k q) ∨ (∃ p q, x = .str p ∧ y = .str q) := by
  cases n with
  | zero => cases h
  | succ n =>
    simp only [eqS] at h
    split at h
    · split at h
      · split at h
        · exact .inr (.inl ⟨_, _, rfl, rfl⟩)
        · cases h
      · split at h
        · split at h
          · rename_i e; subst e; exact .inr (.inr (.inl ⟨_, _, _, rfl, rfl⟩))
          · cases h
        · cases h
      · split at h
        · exact .inr (.inr (.inr ⟨_, _, rfl, rfl⟩))
        · cases h
      · split at h
        · rename_i hc; exact .inl ⟨hc.1, hc.2.1⟩
        · cases h
      · cases h
    · cases h

theorem eqS_int {n : Nat} {t : TypeId} {k : IntKind} {p q : Int} {b : Bool} (h : eqS E n t (.int k p) (.int k q) = some b) : b = (p == q) := by
  cases n with
  | zero => cases h
  | succ n =>
    simp only [eqS] at h
    split at h
    · split at h
      · cases h
      · simp only [if_true, Option.some.injEq] at h; exact h.symm
      · cases h
      · split at h
        · rename_i hc; cases hc.1
        · cases h
      · cases h
    · cases h

theorem eqS_str {n : Nat} {t : TypeId} {p q : ByteArray} {b : Bool} (h : eqS E n t (.str p) (.str q) = some b) : b = (p == q) := by
  cases n with
  | zero => cases h
  | succ n =>
    simp only [eqS] at h
    split at h
    · split at h
      · cases h
      · cases h
      · simp only [Option.some.injEq] at h; exact h.symm
      · split at h
        · rename_i hc; cases hc.1
        · cases h
      · cases h
    · cases h

theorem eql_run {P : Program} {t : TypeId} {cx cy : Value} {b : Bool} (h : (Op.equal t cx cy).run P w = .ok b w) (hs : (∃ xs ys, cx = .agg xs ∧ cy = .agg ys) ∨ (∃ p q, cx = .bool p ∧ cy = .bool q)) :
    (binOp .eql t cx cy).run P w = .ok (.bool b) w ∧ (binOp .neq t cx cy).run P w = .ok (.bool (!b)) w := by
  rcases hs with ⟨xs, ys, rfl, rfl⟩ | ⟨p, q, rfl, rfl⟩ <;>
    exact ⟨by simp only [binOp, Sem.run_bind, h, Result.andThen, Sem.run_pure], by simp only [binOp, Sem.run_bind, h, Result.andThen, Sem.run_pure]⟩

theorem binS_ok (hV : E.Valid) {op : BinOp} {t : TypeId} {x y v : AV} {cx cy : Value} (h : binS E op t x y = some v) (hx : RepV ι x cx) (hy : RepV ι y cy) (xo yo : Operand) :
    ∃ c, (do eqGuard op t xo yo cx cy; binOp op t cx cy : Sem Value).run E.P w = .ok c w ∧ RepV ι v c := by
  unfold binS at h
  split at h
  · rename_i b hb
    split at h
    · rename_i hg
      have heq : (Op.equal t cx cy).run E.P w = .ok b w := eqS_ok hV (w := w) 100 10000 t x y b cx cy hb (by decide) hx hy
      have key : (eqGuard op t xo yo cx cy).run E.P w = .ok () w ∧ (binOp .eql t cx cy).run E.P w = .ok (.bool b) w ∧ (binOp .neq t cx cy).run E.P w = .ok (.bool (!b)) w := by
        rcases eqS_cases hb with ⟨hag, hay⟩ | ⟨p, q, rfl, rfl⟩ | ⟨k, p, q, rfl, rfl⟩ | ⟨p, q, rfl, rfl⟩
        · rw [hag] at hg
          obtain ⟨xs, _, rfl⟩ := hx.agg hag
          obtain ⟨ys, _, rfl⟩ := hy.agg hay
          exact ⟨run_eqGuard_agg w op t xo yo _ _ (by simpa using hg), eql_run heq (.inl ⟨_, _, rfl, rfl⟩)⟩
        · rw [hx.bool, hy.bool] at heq ⊢
          exact ⟨by rw [eqGuard_at_bool]; rfl, eql_run heq (.inr ⟨_, _, rfl, rfl⟩)⟩
        · rw [hx.int, hy.int] at heq ⊢
          have hbb : b = (p == q) := eqS_int hb
          subst hbb
          refine ⟨by rw [eqGuard_at_int]; rfl, ?_, ?_⟩
          · rw [binOp_eql]; rfl
          · rw [binOp_neq]; rfl
        · rw [hx.str, hy.str] at heq ⊢
          have hbb : b = (p == q) := eqS_str hb
          subst hbb
          exact ⟨by rw [eqGuard_at_string]; rfl, by simp [binOp, Op.stringOp, beq_toListBytes], by simp [binOp, Op.stringOp, beq_toListBytes]⟩
      obtain ⟨k1, k2, k3⟩ := key
      split at h
      · cases h
        exact ⟨.bool b, by simp only [Sem.run_bind, k1, Result.andThen, k2], RepV_bool _⟩
      · cases h
        exact ⟨.bool (!b), by simp only [Sem.run_bind, k1, Result.andThen, k3], RepV_bool _⟩
      · cases h
    · cases h
  · cases h

theorem RepV_of0 {v : AV} {c : Value} (h : RepV0 ι v c) : RepV ι v c := by
  cases v
  case tup vs => unfold RepV0 at h; simp only [aggB, Bool.false_eq_true, if_false] at h; rw [Rep] at h; exact h.elim
  case any => trivial
  all_goals exact h

/-! ### Maps -/
theorem Rep_mp {o : Nat} {c : Value} (h : RepV ι (.mp o) c) : ∃ b z, ι.blk[o]? = some (b, z) ∧ c = .map (some b) := by
  have := h.one rfl rfl; rw [Rep] at this
  obtain ⟨b, z, e, k⟩ := this
  exact ⟨b, z, e, by simpa using k⟩

theorem findNow_new {k0 kk : IntKind} {n : Int} : ∀ {es : List (AV × AV)} {ents : List MapEntry} (i : Nat), All2 (fun (e : AV × AV) (c : MapEntry) => RepV0 ι e.1 c.key ∧ RepV0 ι e.2 c.val) es ents → newKey kk n es = true →
    Instr.findNow (.int k0) (.int kk n) ents i = some none
  | [], _, _, h, _ => by cases h; rfl
  | e :: es, _, i, h, hn => by
    obtain ⟨c, m, rfl, h1, h2⟩ := h.cons_inv
    simp only [newKey, List.all_cons, Bool.and_eq_true] at hn
    obtain ⟨hn1, hn2⟩ := hn
    split at hn1
    · rename_i k' n' he
      simp only [Bool.and_eq_true, decide_eq_true_eq, Bool.not_eq_true'] at hn1
      obtain ⟨rfl, hne⟩ := hn1
      rw [he] at h1
      have hkey : c.key = .int kk n' := RepV.int (ι := ι) ((RepV_iff rfl).2 h1.1)
      unfold Instr.findNow
      rw [hkey]
      have : Instr.sameNow (.int k0) (.int kk n) (.int kk n') = some false := by
        simp only [Instr.sameNow, if_true]
        exact congrArg some hne
      rw [this]
      exact findNow_new (i + 1) h2 hn2
    · cases hn1

theorem checkKey_int {P : Program} {kt : TypeId} {k0 kk : IntKind} {n : Int} (hk : P.underlying kt = some (.int k0)) (b : Bool) : (Instr.checkKey b 10000 kt (.int kk n)).run P w = .ok () w := by
  have : ∀ d, (Instr.checkKey b (d + 1) kt (.int kk n)).run P w = .ok () w := fun d => by
    simp only [Instr.checkKey, Sem.run_bind, run_underlying hk, Result.andThen]; rfl
  exact this 9999

theorem insert_ok {P : Program} {t kt et : TypeId} {k0 kk : IntKind} {n : Int} {o : Nat} {es : List (AV × AV)} {v : AV} {cm cv : Value} (ht : P.underlying t = some (.map kt et)) (hk : P.underlying kt = some (.int k0))
    (r : HRel ι H w) (ho : H[o]? = some (.map es)) (hm : RepV ι (.mp o) cm) (hv : RepV ι v cv) (hnt : ntB v = true) (hn : newKey kk n es = true) :
    ∃ w', (Instr.mapUpdate t cm (.int kk n) cv).run P w = .ok () w' ∧ HRel ι (H.set o (.map (es ++ [(.int kk n, v)]))) w' := by
  obtain ⟨b, z, hb, rfl⟩ := Rep_mp hm
  obtain ⟨ents, clock, hh, hes⟩ := r.obj _ _ _ _ ho hb
  have hlt : b < w.heap.size := (r.own _ _ _ _ ho rfl hb).2.1
  have hget : (getObj b).run P w = .ok (.map ents clock) w := by
    simp [getObj, Sem.run, hh]
  refine ⟨w.putObj b (.map (ents.push { key := .int kk n, val := cv, born := clock }) (clock + 1)), ?_, ?_⟩
  · have hfk : (Instr.findKey kt (.int kk n) ents.toList).run P w = .ok none w := by
      simp only [Instr.findKey, Sem.run_bind, run_underlying hk, Result.andThen, findNow_new (k0 := k0) 0 hes hn]
      rfl
    simp only [Instr.mapUpdate, Sem.run_bind, run_underlying ht, Result.andThen, hget, checkKey_int hk, hfk]
    simp [setObj, Sem.run, hh, World.putObj]
  · refine r.upd ho rfl hb (fun k hk' => ?_) (by simp [World.putObj]) rfl rfl rfl ⟨ents.push { key := .int kk n, val := cv, born := clock }, clock + 1, ?_, ?_⟩
    · simp only [World.putObj]
      rw [Array.getElem?_setIfInBounds_ne (by omega)]
    · simp only [World.putObj]
      rw [Array.getElem?_setIfInBounds_self_of_lt hlt]
    · rw [Array.toList_push]
      exact hes.app (.cons ⟨RepV0_of_rep rfl (by rw [Rep]), (RepV_iff hnt).1 hv⟩ .nil)

theorem look_find {k0 kk : IntKind} {n : Int} {z : AV} {go : AV → Bool → Prop} : ∀ {es : List (AV × AV)} {ents : List MapEntry} (i : Nat), All2 (fun (e : AV × AV) (c : MapEntry) => RepV0 ι e.1 c.key ∧ RepV0 ι e.2 c.val) es ents → lookA n kk z go es →
    (∃ v c j, go v true ∧ RepV0 ι v c ∧ Instr.findNow (.int k0) (.int kk n) ents i = some (some (j, c))) ∨ (go z false ∧ Instr.findNow (.int k0) (.int kk n) ents i = some none)
  | [], _, _, h, hl => by cases h; exact .inr ⟨hl, rfl⟩
  | e :: es, _, i, h, hl => by
    obtain ⟨c, m, rfl, h1, h2⟩ := h.cons_inv
    simp only [lookA] at hl
    split at hl
    · rename_i k' n' he
      split at hl
      · rename_i hkk; subst hkk
        rw [he] at h1
        have hkey : c.key = .int kk n' := RepV.int (ι := ι) ((RepV_iff rfl).2 h1.1)
        have hs : Instr.sameNow (.int k0) (.int kk n) (.int kk n') = some (ieq n n') := by
          simp only [Instr.sameNow, if_true]; rfl
        cases hq : ieq n n' with
        | true =>
          rw [hq] at hl hs
          refine .inl ⟨e.2, c.val, i, hl, h1.2, ?_⟩
          unfold Instr.findNow
          rw [hkey, hs]
        | false =>
          rw [hq] at hl hs
          have ih := look_find (k0 := k0) (i + 1) h2 hl
          unfold Instr.findNow
          rw [hkey, hs]
          exact ih
      · exact hl.elim
    · exact hl.elim

theorem look_merge {n : Int} {k : IntKind} {z : AV} {go : AV → Bool → Prop} : ∀ {es : List (AV × AV)} {v : AV} {fl : Bool}, mergeL n k z es = some (v, fl) → go v fl → lookA n k z go es
  | [], _, _, h, hg => by cases h; exact hg
  | e :: es, v, fl, h, hg => by
    simp only [mergeL] at h
    simp only [lookA]
    split at h
    · rename_i k' n' v' b' he hm
      split at h
      · rename_i hc
        obtain ⟨rfl, hs⟩ := hc
        cases h
        rw [he]
        simp only [if_true]
        cases hq : ieq n n' with
        | true =>
          rw [hq] at hg
          have : pickA true e.2 v' = e.2 := by
            unfold sameK at hs
            split at hs
            · rename_i e1
              simp only [decide_eq_true_eq] at hs; subst hs; rw [e1]; simp [pickA]
            · rename_i e1
              rw [e1]; simp [pickA]
            · cases hs
          rw [this] at hg
          exact hg
        | false =>
          rw [hq] at hg
          have : pickA false e.2 v' = v' := by
            unfold sameK at hs
            split at hs
            · rename_i e1
              simp only [decide_eq_true_eq] at hs; subst hs; rw [e1]; simp [pickA]
            · rename_i e1
              rw [e1]; simp [pickA]
            · cases hs
          rw [this] at hg
          exact look_merge hm hg
      · cases h
    · cases h

theorem lookF_A {n : Int} {k : IntKind} {z : AV} {go : AV → Bool → Prop} : ∀ {es : List (AV × AV)}, lookA n k z go es → ∃ v fl, lookF n k z es = some (v, fl) ∧ go v fl
  | [], h => ⟨z, false, rfl, h⟩
  | e :: es, h => by
    simp only [lookA] at h
    split at h
    · rename_i k' n' he
      split at h
      · rename_i hk
        cases hb : ieq n n' with
        | true => rw [hb] at h; exact ⟨e.2, true, by simp only [lookF, he, if_pos hk, hb, cond_true], h⟩
        | false =>
          rw [hb] at h
          obtain ⟨v, fl, h1, h2⟩ := lookF_A (es := es) h
          exact ⟨v, fl, by simp only [lookF, he, if_pos hk, hb, cond_false, h1], h2⟩
      · cases h
    · cases h

theorem lookA_F {n : Int} {k : IntKind} {z : AV} {v : AV} {fl : Bool} : ∀ {es : List (AV × AV)}, lookF n k z es = some (v, fl) → lookA n k z (fun v' fl' => v' = v ∧ fl' = fl) es
  | [], h => by
    simp only [lookF, Option.some.injEq, Prod.mk.injEq] at h
    exact h
  | e :: es, h => by
    simp only [lookF] at h
    simp only [lookA]
    split at h
    · rename_i k' n' he
      split at h
      · rename_i hk
        rw [if_pos hk]
        cases hb : ieq n n' with
        | true =>
          rw [hb] at h
          simp only [cond_true, Option.some.injEq, Prod.mk.injEq] at h ⊢
          exact h
        | false =>
          rw [hb] at h
          simp only [cond_false] at h ⊢
          exact lookA_F (es := es) h
      · cases h
    · cases h

theorem lookup_ok {P : Program} {t kt et : TypeId} {k0 kk : IntKind} {n : Int} {o : Nat} {de : ATy} {es : List (AV × AV)} {cm : Value} {go : AV → Bool → Prop} {ok : Bool} (ht : P.underlying t = some (.map kt et)) (hk : P.underlying kt = some (.int k0)) (he : de.ok P et)
    (r : HRel ι H w) (ho : H[o]? = some (.map es)) (hm : RepV ι (.mp o) cm) (hl : lookA n kk de.zero go es) :
    ∃ v fl c, go v fl ∧ RepV ι (lookV ok v fl) c ∧ (Instr.lookup t cm (.int kk n) ok).run P w = .ok c w := by
  obtain ⟨b, z, hb, rfl⟩ := Rep_mp hm
  obtain ⟨ents, clock, hh, hes⟩ := r.obj _ _ _ _ ho hb
  have hget : (getObj b).run P w = .ok (.map ents clock) w := by
    simp [getObj, Sem.run, hh]
  have mk : ∀ {v : AV} {c : Value} (fl : Bool), RepV0 ι v c → RepV ι (lookV ok v fl) (if ok then .tuple #[c, .bool fl] else c) := by
    intro v c fl hr
    cases ok with
    | true => exact ⟨[c, .bool fl], rfl, .cons hr (.cons (RepV0_of_rep rfl (by rw [Rep])) .nil)⟩
    | false => exact RepV_of0 hr
  rcases look_find (k0 := k0) 0 hes hl with ⟨v, c, j, hg, hr, hf⟩ | ⟨hg, hf⟩
  · refine ⟨v, true, _, hg, mk true hr, ?_⟩
    simp only [Instr.lookup, Sem.run_bind, run_underlying ht, Result.andThen, hget, Sem.run_pure, checkKey_int hk, Instr.findKey, run_underlying hk, hf]
  · obtain ⟨zc, hz, hzr⟩ := run_zero' he w
    refine ⟨de.zero, false, _, hg, mk false (hzr ι), ?_⟩
    simp only [Instr.lookup, Sem.run_bind, run_underlying ht, Result.andThen, hget, Sem.run_pure, checkKey_int hk, Instr.findKey, run_underlying hk, hf, hz]
end Go.Eng
end
section
/- Own slices: parts, copies, new ones. -/
namespace Go.Eng
open Go.RowKit
variable {E : Env} {ι : Inst} {T : List AV} {H : Heap} {a : Act} {w : World}

/-- What is appended: nothing, or cells that stand somewhere. -/
theorem appL_ok {c : TC} {x : AV} {q : List Prop} {ys : List c.den} {cx : Value} (h : appL c H x = some (q, ys)) (hq : holds q) (r : HRel ι H w) (hx : RepV ι x cx) :
    ∃ l : List Value, RepAll (RepD ι c) ys l ∧ ((ys = [] ∧ (cx = .slice none 0 0 ∨ ∃ a, cx = .slice (some a) 0 0)) ∨ ∃ b off k, cx = .slice (some ⟨b, off, none⟩) ys.length k ∧ ∀ j u, l[j]? = some u → w.cell? ((⟨b, off, none⟩ : Addr).add j) = some u) := by
  unfold appL at h
  split at h
  · rename_i c' xs
    split at h
    · rename_i e; subst e
      simp only [Option.some.injEq, Prod.mk.injEq] at h; obtain ⟨_, rfl⟩ := h
      rcases fsl_of hx with ⟨rfl, h0⟩ | ⟨b, off, k, cells, t, fz, l, rfl, hk, hp, hr, hat⟩
      · exact ⟨[], .nil, .inl ⟨rfl, h0⟩⟩
      · exact ⟨l, hr, .inr ⟨b, off, k, rfl, fun j u e => by rw [addr_add, cell_of (r.prot _ _ hp)]; exact hat j u e⟩⟩
    · cases h
  · simp only [Option.some.injEq, Prod.mk.injEq] at h; obtain ⟨_, rfl⟩ := h
    exact ⟨[], .nil, .inl ⟨rfl, .inl hx.raw⟩⟩
  · rename_i o p s off len cap
    split at h
    · rename_i own t v ho
      split at h
      · rename_i q' n c' xs hg
        split at h
        · rename_i e; subst e
          split at h
          · rename_i hsz
            simp only [Option.some.injEq, Prod.mk.injEq] at h; obtain ⟨rfl, rfl⟩ := h
            rw [holds_app] at hq
            obtain ⟨hq1, hq2, _⟩ := hq
            obtain ⟨b, z, kk, hb, rfl, hk, hkz, _⟩ := osl_of hx
            obtain ⟨cells, fz, l, rr, e1, e2, e3, e4, e5⟩ := (r.obj _ _ _ _ ho hb).cell
            obtain ⟨l1, m, l2, el, el1, hu, _⟩ := getP_ok p v l q' _ hg hq1 e4
            rw [Rep] at hu
            obtain ⟨hn, hr⟩ := hu
            obtain ⟨m1, m2, em, em1, hr1, hr2⟩ := hr.split (RepD_len c') off (by omega)
            obtain ⟨k1, k2, ek, ek1, hs1, hs2⟩ := hr2.split (RepD_len c') len (by simp; omega)
            have hlen : ((xs.drop off).take len).length = len := by simp; omega
            refine ⟨k1, hs1, .inr ⟨b, pathOff p + off * s, kk, by rw [hlen], fun j u e => ?_⟩⟩
            rw [addr_add, cell_of e1]
            have : pathOff p + off * s = (l1 ++ m1).length := by simp [el1, em1, hsz]
            rw [this]
            exact At.mid (l2 := k2 ++ l2 ++ rr) (by rw [e2, el, em, ek]; simp) j u e
          · cases h
        · cases h
      · cases h
    · cases h
  · cases h

theorem zero_cells {P : Program} {t : TypeId} {d : ATy} (h : d.ok P t) : ∃ i z, P.info? t = some i ∧ i.size = d.size ∧ i.bytes = d.bytes ∧ i.zero = some z ∧ z.cells.size = d.size := by
  obtain ⟨_, i, z, h1, h2, h3, h4, h5, _, h6⟩ := h
  refine ⟨i, z, h1, h2, h3, h4, ?_⟩
  have := (h5 ⟨default, fun _ => none, []⟩).cells
  rw [← Array.length_toList, Rep_len _ _ this, h6]

theorem bytes_at {xs : List Int} {l : List Value} (h : RepAll (RepD ι (.int .u8)) xs l) : l = xs.map (Value.int .u8) := by
  induction h with
  | nil => rfl
  | cons h1 _ ih => rw [show _ = _ from h1, ih]; rfl

theorem strA_ok (hV : E.Valid) {src dst : TypeId} {s d : ATy} {v u : AV} {c : Value} (hs : s.ok E.P src) (hd : d.ok E.P dst) (h : strA E s d v = some u) (r : ∀ b o, ι.prot b = some o → w.heap[b]? = some o) (hx : RepV ι v c) :
    ∃ c', (convert src dst c).run E.P w = .ok c' w ∧ ∀ ι', RepV ι' u c' := by
  have hs1 := hs.1
  have hd1 := hd.1
  unfold strA at h
  split at h
  · rename_i e hse hde
    rw [hse] at hs1
    rw [hde] at hd1
    split at h
    · rename_i de he
      have he1 := (hV.ty _ _ he).1
      split at h
      · rename_i hk
        rw [hk] at he1
        split at h
        · rename_i xs
          cases h
          rcases fsl_of hx with ⟨rfl, rfl | ⟨a0, rfl⟩⟩ | ⟨b, off, k, cells, t, fz, l, rfl, _, hp, hr, hat⟩
          · exact ⟨_, run_convert_bytes_nil w src e hs1 he1 0 0 dst hd1, fun _ => RepV_str _⟩
          · exact ⟨_, run_convert_bytes_arg w src e hs1 he1 a0.block a0.off 0 0 [] rfl (fun i hi => by omega) dst hd1 |> fun h => by
              rw [run_convert_bytes_string w src dst e _ 0 0 hs1 he1 hd1]
              exact run_bytesToString w a0 0 0 [] (by simp [loadCells, loadCellsFrom]), fun _ => RepV_str _⟩
          · have hl := bytes_at hr
            refine ⟨_, run_convert_bytes_arg w src e hs1 he1 b off xs.length k xs rfl (fun i hi => ?_) dst hd1, fun _ => RepV_str _⟩
            rw [cell_of (r _ _ hp)]
            refine hat i _ ?_
            rw [hl]
            simp [List.getD, List.getElem?_eq_getElem hi]
        · cases h
          have hc := hx.raw; subst hc
          exact ⟨_, run_convert_bytes_nil w src e hs1 he1 0 0 dst hd1, fun _ => RepV_str _⟩
        · cases h
      · cases h
    · cases h
  · cases h

theorem spliceL_nil {α : Type} (xs : List α) (i : Nat) : spliceL xs i [] = xs := by simp [spliceL]

theorem copy_ok {P : Program} {ts : Array TypeId} {t1 ty e : TypeId} {de : ATy} {d x v : AV} {q : List Prop} {H' : Heap} {cd cx : Value} (h0 : ts[0]? = some t1) (hu : P.underlying t1 = some (.slice e)) (he : de.ok P e) (h : copyA de.size H d x = some (q, v, H')) (hq : holds q) (r : HRel ι H w)
    (hd : RepV ι d cd) (hx : RepV ι x cx) : ∃ w' u, (Builtin.copy_ ts ty #[cd, cx]).run P w = .ok u w' ∧ HRel ι H' w' ∧ RepV ι v u := by
  unfold copyA at h
  split at h
  case h_2 => cases h
  rename_i ob s off len cap
  split at h
  case h_2 => cases h
  rename_i t m c xs hob
  split at h
  case h_2 => cases h
  rename_i q1 ys happ
  split at h
  case isFalse => cases h
  rename_i hsz
  obtain ⟨hs1, hs2⟩ := hsz
  subst hs1
  simp only [Option.some.injEq, Prod.mk.injEq] at h
  obtain ⟨rfl, rfl, rfl⟩ := h
  rw [holds_app] at hq
  obtain ⟨hq1, hm, _⟩ := hq
  obtain ⟨l, hl, hcx⟩ := appL_ok happ hq1 r hx
  obtain ⟨b, z, k, hbk, rfl, hk, hkz, _⟩ := osl_of hd
  obtain ⟨cells, fz, lo, rr, e1, e2, e3, e4, e5⟩ := (r.obj _ _ _ _ hob hbk).cell
  have e5 := e5 rfl; subst e5
  rw [Rep] at e4
  obtain ⟨hxs, hr⟩ := e4
  obtain ⟨_, i, zv, hi, hsi, _⟩ := he
  rcases hcx with ⟨rfl, hcx⟩ | ⟨b2, off2, k2, rfl, hcells⟩
  · refine ⟨w, .int .i64 0, ?_, ?_, by simpa using RepV_int _ _⟩
    · rcases hcx with rfl | ⟨a0, rfl⟩
      · simp [Builtin.copy_, h0, run_underlying hu, sizeOf, typeInfo, hi, Builtin.lenOf, Builtin.firstCells, storeCells, goInt]
      · simp [Builtin.copy_, h0, run_underlying hu, sizeOf, typeInfo, hi, Builtin.lenOf, Builtin.firstCells, loadCells, loadCellsFrom, storeCells, goInt]
    · refine r.upd (z := z) hob rfl hbk (fun _ _ => rfl) rfl rfl rfl rfl ⟨cells, (0, 0), lo, rr, e1, e2, e3, ?_, by simp⟩
      rw [Rep, List.take_nil, spliceL_nil]; exact ⟨hxs, hr⟩
  · obtain ⟨l1, l2, el, el1, hr1, _⟩ := hl.split (RepD_len c) (Nat.min ys.length len) (Nat.min_le_left _ _)
    have htk : ys.take (Nat.min ys.length len) = ys.take len := by
      rcases Nat.le_total ys.length len with hle | hle
      · rw [show Nat.min ys.length len = ys.length from Nat.min_eq_left hle, List.take_of_length_le (Nat.le_refl _), List.take_of_length_le hle]
      · rw [show Nat.min ys.length len = len from Nat.min_eq_right hle]
    rw [htk] at hr1
    have hnl : (ys.take len).length = Nat.min ys.length len := by rw [List.length_take]; exact Nat.min_comm _ _
    have hmin : Nat.min ys.length len ≤ len := Nat.min_le_right _ _
    obtain ⟨m1, m2, em, em1, hm1, hm2⟩ := hr.split (RepD_len c) off (by omega)
    obtain ⟨k1, k3, ek, ek1, _, hk2⟩ := hm2.split (RepD_len c) (Nat.min ys.length len) (by simp; omega)
    have hf := run_firstCells_some (P := P) w i.size (Nat.min ys.length len) ⟨b2, off2, none⟩ ys.length k2 l1 (by rw [hsi, hs2]; exact el1) (fun j v hj => hcells j v (by
      rw [el, List.getElem?_append_left (List.getElem?_eq_some_iff.1 hj).1]; exact hj))
    have hlen : off * c.size + l1.length ≤ cells.size := by
      rw [el1, ← Array.length_toList, e2, em, ek]; simp [em1, ek1]
    have hst := run_storeCells_at P b (off * c.size) t l1 0 cells w e1 (by simpa using hlen) (hr1.mem (fun x m h => RepD_one c x m h))
    simp only [Nat.add_zero] at hst
    have hp0 : pathOff [] + off * c.size = off * c.size := by simp [pathOff]
    refine ⟨w.setRow b (cells.toList.take (off * c.size) ++ l1 ++ cells.toList.drop (off * c.size + l1.length)).toArray, goInt (Nat.min ys.length len), ?_, ?_, RepV_int _ _⟩
    · simp [Builtin.copy_, h0, run_underlying hu, sizeOf, typeInfo, hi, Builtin.lenOf, hf, hp0, hst]
    · have hcs : cells.toList.take (off * c.size) ++ l1 ++ cells.toList.drop (off * c.size + l1.length) = (m1 ++ (l1 ++ k3)) ++ rr := by
        have a1 : off * c.size = m1.length := em1.symm
        have a2 : l1.length = k1.length := by rw [el1, ek1]
        rw [a1, a2, e2, em, ek]
        simp only [List.append_assoc]
        rw [List.take_left' rfl, ← List.length_append, ← List.append_assoc m1 k1, List.drop_left' rfl]
      refine r.upd (z := z) hob rfl hbk (fun k hk => setRow_other w b k _ hk) (by simp) rfl rfl rfl
        ⟨_, (0, 0), m1 ++ (l1 ++ k3), rr, setRow_heap w b cells _ t _ e1, by rw [hcs], ?_, ?_, by simp⟩
      · have hz : cells.toList.length = z := by rw [Array.length_toList]; exact e3
        rw [e2, em, ek] at hz
        rw [hcs, ← hz]; simp; omega
      · rw [Rep]
        refine ⟨?_, ?_⟩
        · simp [spliceL]; omega
        · unfold spliceL
          refine hm1.app (hr1.app ?_)
          rw [hnl, ← List.drop_drop]
          exact hk2

theorem make_ok {P : Program} {t e : TypeId} {de : ATy} {l c v : AV} {q : List Prop} {H' : Heap} {cl cc : Value} (hu : P.underlying t = some (.slice e)) (he : de.ok P e) (h : makeA e de H l c = some (q, v, H')) (hq : holds q) (r : HRel ι H w)
    (hl : RepV ι l cl) (hc : RepV ι c cc) : ∃ ι' w' u, (Instr.makeSlice t cl cc).run P w = .ok u w' ∧ Ext ι ι' ∧ HRel ι' H' w' ∧ RepV ι' v u := by
  unfold makeA at h
  split at h
  case h_2 => cases h
  rename_i kl l kc c
  split at h
  case h_2 => cases h
  rename_i tc hcode
  split at h
  case h_2 => cases h
  rename_i z hz
  split at h
  case isFalse => cases h
  rename_i hsz
  simp only [Option.some.injEq, Prod.mk.injEq] at h
  obtain ⟨rfl, rfl, rfl⟩ := h
  obtain ⟨q1, q2, q3, q4, _⟩ := hq
  rw [hl.int, hc.int]
  obtain ⟨hdesc, i, zv, hi, hsi, hby, hzv, hzr, hrest⟩ := he
  have hzl : ∀ ι, RepD ι tc z zv.cells.toList := fun ι => by
    have := (hzr ι).cells
    exact Rep_ofD.1 (Rep_ofD.2 (Rep_toD hz this))
  obtain ⟨n, rfl⟩ : ∃ n : Nat, c = n := ⟨c.toNat, by omega⟩
  have hb : (i.bytes : Int) * (n : Int) ≤ 281474976710656 := by
    rw [← Int.natCast_mul, hby, Nat.mul_comm]
    simp only [Int.toNat_natCast] at q4
    omega
  have hrun := run_make (P := P) w t e i zv hu hi hzv kl kc l n q1 q2 hb (by omega)
  have hzs : zv.cells.size = de.size := by rw [← Array.length_toList, RepD_len _ _ _ (hzl ι), hsz]
  have hcl : (madeCells zv.cells (n * i.size)).toList = (List.replicate n zv.cells.toList).flatten := by
    unfold madeCells
    rw [hsi, ← hzs]
    simpa using range_cells zv.cells n
  have hE := Ext.add ι w.heap.size (n * i.size)
  simp only [Int.toNat_natCast] at hrun ⊢
  refine ⟨ι.add w.heap.size (n * i.size), _, _, hrun, hE, ?_, ?_⟩
  · refine r.alloc (.cells _ e) (n * i.size) _ ⟨_, (0, 0), (List.replicate n zv.cells.toList).flatten, [], heap_alloc_new, by rw [hcl]; simp, size_madeCells _ _, ?_, by simp⟩
    rw [Rep]
    exact ⟨by simp, RepAll_replicate (hzl _) n⟩
  · refine RepV_of_rep rfl ?_
    rw [Rep]
    refine ⟨w.heap.size, n * i.size, n, by rw [r.len]; exact ι.add_at _ _, by simp [pathOff], by omega, by simp [pathOff, hsi], by simp⟩
end Go.Eng
end
section
/- What one has a hand on, seen as plain data; what is frozen. -/
namespace Go.Eng
open Go.RowKit
variable {E : Env} {ι : Inst} {T : List AV} {H : Heap} {a : Act} {w : World}

/-! ### Values seen as plain data -/
def Inst.all (ι : Inst) (w : World) : Inst := { ι with prot := fun b => w.heap[b]? }

/-- The blocks of the objects that a value has a hand on are protected. -/
def Seen (ι ι' : Inst) (w : World) (H : Heap) (os : List Nat) : Prop := ∀ o ∈ os, ∀ own t v b z, H[o]? = some (.cell own t v) → ι.blk[o]? = some (b, z) → ι'.prot b = w.heap[b]?

mutual
theorem view_ok (r : HRel ι H w) {ι' : Inst} (hE : Sub ι ι') : ∀ (v u : AV) (q : List Prop) (cs : List Value), Seen ι ι' w H (handsOf v) → view H v = some (q, u) → holds q → Rep ι v cs → Rep ι' u cs
  | .ptr o p, u, q, cs, hs, h, hq, k => by
    simp only [view] at h
    split at h
    · rename_i own t v ho
      split at h
      · rename_i q' u' hg
        simp only [Option.some.injEq, Prod.mk.injEq] at h; obtain ⟨rfl, rfl⟩ := h
        rw [Rep] at k
        obtain ⟨b, z, hb, rfl⟩ := k
        obtain ⟨cells, fz, l, rr, e1, e2, e3, e4, e5⟩ := (r.obj _ _ _ _ ho hb).cell
        obtain ⟨l1, m, l2, el, el1, hu, _⟩ := getP_ok p v l q' u' hg hq e4
        rw [Rep]
        refine ⟨b, pathOff p, cells, t, fz, m, rfl, ?_, Rep_mono' hE _ _ hu, ?_⟩
        · rw [hs o (by simp [handsOf]) own t v b z ho hb, e1]
        · rw [← el1]; exact At.mid (l2 := l2 ++ rr) (by rw [e2, el]; simp)
      · cases h
    · cases h
  | .osl o p s off len cap, u, q, cs, hs, h, hq, k => by
    simp only [view] at h
    split at h
    · rename_i own t v ho
      split at h
      · rename_i q' n c xs hg
        split at h
        · rename_i hsz
          simp only [Option.some.injEq, Prod.mk.injEq] at h; obtain ⟨rfl, rfl⟩ := h
          rw [holds_app] at hq
          obtain ⟨hq1, hq2, _⟩ := hq
          rw [Rep] at k
          obtain ⟨b, z, kk, hb, rfl, hk, hkz, _⟩ := k
          obtain ⟨cells, fz, l, rr, e1, e2, e3, e4, e5⟩ := (r.obj _ _ _ _ ho hb).cell
          obtain ⟨l1, m, l2, el, el1, hu, _⟩ := getP_ok p v l q' _ hg hq1 e4
          rw [Rep] at hu
          obtain ⟨hn, hr⟩ := hu
          obtain ⟨m1, m2, em, em1, hr1, hr2⟩ := hr.split (RepD_len c) off (by omega)
          obtain ⟨k1, k2, ek, ek1, hs1, hs2⟩ := hr2.split (RepD_len c) len (by simp; omega)
          rw [Rep]
          refine ⟨_, rfl, .inr ⟨b, pathOff p + off * s, kk, cells, t, fz, k1, ?_, ?_, ?_, hs1.mono (fun x l => RepD_mono' hE c x l), ?_⟩⟩
          · simp; omega
          · simp; omega
          · rw [hs o (by simp [handsOf]) own t v b z ho hb, e1]
          · have : pathOff p + off * s = (l1 ++ m1).length := by simp [el1, em1, hsz]
            rw [this]
            exact At.mid (l2 := k2 ++ l2 ++ rr) (by rw [e2, el, em, ek]; simp)
        · cases h
      · simp only [Option.some.injEq, Prod.mk.injEq] at h; obtain ⟨_, rfl⟩ := h
        rw [Rep]
        exact Rep_oneB rfl k
      · cases h
    · cases h
  | .agg ss vs, u, q, cs, hs, h, hq, k => by
    simp only [view] at h
    split at h
    · rename_i q' us hv
      simp only [Option.some.injEq, Prod.mk.injEq] at h; obtain ⟨rfl, rfl⟩ := h
      rw [Rep] at k ⊢
      exact views_okL r hE vs us q' ss cs hs hv hq k
    · cases h
  | .int _ _, _, _, _, _, h, _, k => by simp only [view, Option.some.injEq, Prod.mk.injEq] at h; obtain ⟨_, rfl⟩ := h; exact Rep_mono' hE _ _ k
  | .bool _, _, _, _, _, h, _, k => by simp only [view, Option.some.injEq, Prod.mk.injEq] at h; obtain ⟨_, rfl⟩ := h; exact Rep_mono' hE _ _ k
  | .str _, _, _, _, _, h, _, k => by simp only [view, Option.some.injEq, Prod.mk.injEq] at h; obtain ⟨_, rfl⟩ := h; exact Rep_mono' hE _ _ k
  | .raw _, _, _, _, _, h, _, k => by simp only [view, Option.some.injEq, Prod.mk.injEq] at h; obtain ⟨_, rfl⟩ := h; exact Rep_mono' hE _ _ k
  | .arr _ _ _, _, _, _, _, h, _, k => by simp only [view, Option.some.injEq, Prod.mk.injEq] at h; obtain ⟨_, rfl⟩ := h; exact Rep_mono' hE _ _ k
  | .tup _, _, _, _, _, _, _, k => by rw [Rep] at k; exact k.elim
  | .any, _, _, _, _, _, _, k => by rw [Rep] at k; exact k.elim
  | .junk, _, _, _, _, h, _, k => by simp only [view, Option.some.injEq, Prod.mk.injEq] at h; obtain ⟨_, rfl⟩ := h; exact Rep_mono' hE _ _ k
  | .ref _, _, _, _, _, h, _, k => by simp only [view, Option.some.injEq, Prod.mk.injEq] at h; obtain ⟨_, rfl⟩ := h; exact Rep_mono' hE _ _ k
  | .fsl _ _, _, _, _, _, h, _, k => by simp only [view, Option.some.injEq, Prod.mk.injEq] at h; obtain ⟨_, rfl⟩ := h; exact Rep_mono' hE _ _ k
  | .fn _ _, _, _, _, _, h, _, k => by simp only [view, Option.some.injEq, Prod.mk.injEq] at h; obtain ⟨_, rfl⟩ := h; exact Rep_mono' hE _ _ k
  | .bnd _ _, _, _, _, _, h, _, k => by simp only [view, Option.some.injEq, Prod.mk.injEq] at h; obtain ⟨_, rfl⟩ := h; exact Rep_mono' hE _ _ k
  | .yld _, _, _, _, _, h, _, k => by simp only [view, Option.some.injEq, Prod.mk.injEq] at h; obtain ⟨_, rfl⟩ := h; exact Rep_mono' hE _ _ k
  | .row _ _ _, _, _, _, _, h, _, k => by simp only [view, Option.some.injEq, Prod.mk.injEq] at h; obtain ⟨_, rfl⟩ := h; exact Rep_mono' hE _ _ k
  | .mp _, _, _, _, _, h, _, k => by simp only [view, Option.some.injEq, Prod.mk.injEq] at h; obtain ⟨_, rfl⟩ := h; exact Rep_mono' hE _ _ k
theorem views_okL (r : HRel ι H w) {ι' : Inst} (hE : Sub ι ι') : ∀ (vs us : List AV) (q : List Prop) (ss : List Nat) (cs : List Value), Seen ι ι' w H (handsOfL vs) → views H vs = some (q, us) → holds q → RepL ι ss vs cs → RepL ι' ss us cs
  | [], us, q, ss, cs, _, h, _, k => by
    simp only [views, Option.some.injEq, Prod.mk.injEq] at h; obtain ⟨_, rfl⟩ := h
    rw [RepL] at k ⊢; exact k
  | v :: vs, us, q, ss, cs, hs, h, hq, k => by
    simp only [views] at h
    split at h
    · rename_i q1 u1 q2 us2 h1 h2
      simp only [Option.some.injEq, Prod.mk.injEq] at h; obtain ⟨rfl, rfl⟩ := h
      rw [holds_app] at hq
      rw [RepL] at k ⊢
      obtain ⟨s, ss', l, m, e1, e2, e3, k1, k2⟩ := k
      exact ⟨s, ss', l, m, e1, e2, e3, view_ok r hE v u1 q1 l (fun o ho => hs o (by simp [handsOfL, ho])) h1 hq.1 k1,
        views_okL r hE vs us2 q2 ss' m (fun o ho => hs o (by simp [handsOfL, ho])) h2 hq.2 k2⟩
    · cases h
end

theorem view_agg (v u : AV) (q : List Prop) (h : view H v = some (q, u)) : aggB u = aggB v := by
  cases v with
  | ptr o p =>
    simp only [view] at h
    split at h
    · split at h
      · simp only [Option.some.injEq, Prod.mk.injEq] at h; rw [← h.2]; rfl
      · cases h
    · cases h
  | osl o p s off len cap =>
    simp only [view] at h
    split at h
    · split at h
      · split at h
        · simp only [Option.some.injEq, Prod.mk.injEq] at h; rw [← h.2]; rfl
        · cases h
      · simp only [Option.some.injEq, Prod.mk.injEq] at h; rw [← h.2]; rfl
      · cases h
    · cases h
  | agg ss vs =>
    simp only [view] at h
    split at h
    · simp only [Option.some.injEq, Prod.mk.injEq] at h; rw [← h.2]; rfl
    · cases h
  | _ => simp only [view, Option.some.injEq, Prod.mk.injEq] at h; rw [← h.2]

theorem viewV_ok (r : HRel ι H w) {ι' : Inst} (hE : Sub ι ι') {v u : AV} {q : List Prop} {c : Value} (hs : Seen ι ι' w H (handsOf v)) (h : view H v = some (q, u)) (hq : holds q) (k : RepV ι v c) : RepV ι' u c := by
  by_cases hnt : ntB v = true
  case neg =>
    cases v <;> first | exact absurd rfl hnt | skip
    all_goals
      simp only [view, Option.some.injEq, Prod.mk.injEq] at h; obtain ⟨_, rfl⟩ := h
      exact RepV_mono' hE k
  case pos =>
    have hag := view_agg _ _ _ h
    cases ha : aggB v with
    | true =>
      obtain ⟨cs, hr, rfl⟩ := k.agg ha
      exact RepV_of_agg (hag.trans ha) (view_ok r hE _ _ _ _ hs h hq hr)
    | false => exact RepV_of_rep (hag.trans ha) (view_ok r hE _ _ _ _ hs h hq (k.one ha hnt))

theorem views_ok (r : HRel ι H w) {ι' : Inst} (hE : Sub ι ι') : ∀ (vs us : List AV) (q : List Prop) (cs : List Value), Seen ι ι' w H (handsOfL vs) → views H vs = some (q, us) → holds q → All2 (RepV ι) vs cs → All2 (RepV ι') us cs
  | [], us, q, cs, _, h, _, k => by
    simp only [views, Option.some.injEq, Prod.mk.injEq] at h; obtain ⟨_, rfl⟩ := h
    cases k; exact .nil
  | v :: vs, us, q, cs, hs, h, hq, k => by
    simp only [views] at h
    split at h
    · rename_i q1 u1 q2 us2 h1 h2
      simp only [Option.some.injEq, Prod.mk.injEq] at h; obtain ⟨rfl, rfl⟩ := h
      rw [holds_app] at hq
      obtain ⟨c, cs', rfl, k1, k2⟩ := k.cons_inv
      exact .cons (viewV_ok r hE (fun o ho => hs o (by simp [handsOfL, ho])) h1 hq.1 k1) (views_ok r hE vs us2 q2 cs' (fun o ho => hs o (by simp [handsOfL, ho])) h2 hq.2 k2)
    · cases h

theorem freezeA_ok : ∀ (os : List Nat) {ι : Inst} {H H' : Heap} {w : World}, freezeA H os = some H' → HRel ι H w →
    ∃ ι', Ext ι ι' ∧ HRel ι' H' w ∧ (∀ (o : Nat), (∃ t v, H[o]? = some (AObj.cell false t v)) → ∃ t v, H'[o]? = some (AObj.cell false t v)) ∧ ∀ o ∈ os, ∃ t v, H'[o]? = some (AObj.cell false t v)
  | [], ι, H, H', w, h, r => by
    simp only [freezeA, Option.some.injEq] at h; subst h
    exact ⟨ι, Ext.refl ι, r, fun _ h => h, by simp⟩
  | o :: os, ι, H, H', w, h, r => by
    simp only [freezeA] at h
    split at h
    · rename_i own t v ho
      have hlt := (List.getElem?_eq_some_iff.1 ho).1
      have step : ∃ ι1, Ext ι ι1 ∧ HRel ι1 (H.set o (.cell false t v)) w := by
        cases own with
        | true =>
          obtain ⟨b, z, hb⟩ := r.blk_some ho
          obtain ⟨hE, hR⟩ := r.freeze ho hb
          exact ⟨_, hE, hR⟩
        | false =>
          have : H.set o (.cell false t v) = H := by
            apply List.ext_getElem?
            intro i
            rw [List.getElem?_set]
            split
            · rename_i e; subst e; simp [ho]
            · rfl
          exact ⟨ι, Ext.refl ι, by rw [this]; exact r⟩
      obtain ⟨ι1, hE1, hR1⟩ := step
      obtain ⟨ι2, hE2, hR2, hk, hos⟩ := freezeA_ok os h hR1
      refine ⟨ι2, hE1.trans hE2, hR2, fun o' ho' => hk o' ?_, fun o' ho' => ?_⟩
      · by_cases hoo : o = o'
        · subst hoo; exact ⟨t, v, by simp [hlt]⟩
        · obtain ⟨t', v', e⟩ := ho'; exact ⟨t', v', by rw [List.getElem?_set_ne hoo]; exact e⟩
      · rcases List.mem_cons.1 ho' with rfl | ho'
        · exact hk _ ⟨t, v, by simp [hlt]⟩
        · exact hos _ ho'
    · cases h

theorem settle_ok {ps ps' : List (Nat × AV)} {q : List Prop} {H' : Heap} {cl : List (Nat × Value)} (h : settle H ps = some (q, ps', H')) (hq : holds q) (r : HRel ι H w)
    (hl : All2 (fun (x : Nat × AV) (y : Nat × Value) => x.1 = y.1 ∧ RepV ι x.2 y.2) ps cl) :
    ∃ ι', Ext ι ι' ∧ HRel ι' H' w ∧ All2 (fun (x : Nat × AV) (y : Nat × Value) => x.1 = y.1 ∧ RepV ι' x.2 y.2) ps' cl := by
  unfold settle at h
  split at h
  · simp only [Option.some.injEq, Prod.mk.injEq] at h; obtain ⟨_, rfl, rfl⟩ := h
    exact ⟨ι, Ext.refl ι, r, hl⟩
  · split at h
    · rename_i H1 hf
      split at h
      · rename_i q' us hv
        simp only [Option.some.injEq, Prod.mk.injEq] at h; obtain ⟨rfl, rfl, rfl⟩ := h
        obtain ⟨ι1, hE1, r1, _, hfr⟩ := freezeA_ok _ hf r
        have hseen : Seen ι1 ι1 w H1 (handsOfL (ps.map (·.2))) := by
          intro o ho own t v b z e1 e2
          obtain ⟨t', v', e⟩ := hfr o ho
          rw [e1] at e; cases e
          obtain ⟨cells, fz, l, rr, k1, k2, k3, k4, k5⟩ := r1.obj _ _ _ _ e1 e2
          have k5 : ι1.prot b = some (.cells cells t fz) := k5
          rw [k5, k1]
        have h2 : ∀ {ps : List (Nat × AV)} {cl : List (Nat × Value)}, All2 (fun (x : Nat × AV) (y : Nat × Value) => x.1 = y.1 ∧ RepV ι x.2 y.2) ps cl → All2 (RepV ι) (ps.map (·.2)) (cl.map (·.2)) := by
          intro ps cl k
          induction k with
          | nil => exact .nil
          | cons h1 _ ih => exact .cons h1.2 ih
        have h3 := views_ok r1 (ι' := ι1) ⟨fun _ _ h => h, fun _ _ h => h⟩ _ us q' _ hseen hv hq (All2.imp (fun _ _ => RepV_mono hE1) (h2 hl))
        refine ⟨ι1, hE1, r1, ?_⟩
        clear hv hseen hfr hf
        have h4 : ∀ {ps : List (Nat × AV)} {cl : List (Nat × Value)} {us : List AV}, All2 (fun (x : Nat × AV) (y : Nat × Value) => x.1 = y.1 ∧ RepV ι x.2 y.2) ps cl → All2 (RepV ι1) us (cl.map (·.2)) →
            All2 (fun (x : Nat × AV) (y : Nat × Value) => x.1 = y.1 ∧ RepV ι1 x.2 y.2) ((ps.map (·.1)).zip us) cl := by
          intro ps cl us k
          induction k generalizing us with
          | nil => intro k; cases k; exact .nil
          | cons h1 _ ih => intro k; cases k with | cons k1 k2 => exact .cons ⟨h1.1, k1⟩ (ih k2)
        exact h4 hl h3
      · cases h
    · cases h
end Go.Eng
end
section
/- Every operation that neither calls nor parts the way is right. -/
namespace Go.Eng
open Go.RowKit
variable {E : Env} {ι : Inst} {T : List AV} {H : Heap} {a : Act} {w : World}

theorem fn_rep {f : FuncId} {cs : List AV} {l : List Value} (h : All2 (RepV ι) cs l) (h1 : cs.all (fun v => !aggB v && ntB v) = true) : RepV ι (.fn f cs) (.func (.func f) #[] l.toArray) := by
  refine RepV_of_rep rfl ?_
  rw [Rep]
  refine ⟨List.all_eq_true.2 fun x hx => by have := List.all_eq_true.1 h1 x hx; simp only [Bool.and_eq_true] at this; exact this.1, l, rfl, ?_⟩
  induction h with
  | nil => rw [RepL]; exact ⟨rfl, rfl⟩
  | cons h t ih =>
    rename_i v c vs m
    simp only [List.all_cons, Bool.and_eq_true] at h1
    rw [RepL]
    have hv := h.one (by simpa using h1.1.1) (ntB_ok h1.1.2)
    exact ⟨1, List.replicate vs.length 1, [c], m, by simp [List.replicate_succ], rfl, rfl, hv, ih (by simpa using h1.2)⟩

theorem bnd_rep {f : FuncId} {cs : List AV} {l : List Value} (h : All2 (RepV ι) cs l) (h1 : cs.all (fun v => !aggB v && ntB v) = true) : RepV ι (.bnd f cs) (.func (.func f) l.toArray #[]) := by
  have := (fn_rep (f := f) h h1).one rfl rfl
  rw [Rep] at this
  obtain ⟨hc, l', e, k⟩ := this
  refine RepV_of_rep rfl ?_
  rw [Rep]
  have : l = l' := by simpa using e
  subst this
  exact ⟨hc, l, rfl, k⟩

theorem isSlice_ok (hV : E.Valid) {ts : Array TypeId} (h : isSlice E ts = true) : ∃ t e, ts[0]? = some t ∧ E.P.underlying t = some (.slice e) := by
  unfold isSlice at h
  split at h
  · rename_i t ht
    split at h
    · rename_i d hd
      split at h
      · rename_i e hdesc
        have := (hV.ty _ _ hd).1
        rw [hdesc] at this
        exact ⟨t, e, ht, this⟩
      · cases h
    · cases h
  · cases h

theorem aop_ok (hV : E.Valid) {o : Oper} {q : List Prop} {v : AV} {H' : Heap} (h : aop E T H o = some (q, v, H')) (hq : holds q) (r : ARel E ι T H a w) : OpOk E ι a w o v H' := by
  unfold aop at h
  split at h
  case h_1 x hop =>
    split at h
    · rename_i u hu; simp only [Option.some.injEq, Prod.mk.injEq] at h; obtain ⟨_, rfl, rfl⟩ := h
      exact .same r.heap (ev_ok hu r) (by simp [execOp, hop])
    · cases h
  case h_2 x hop =>
    split at h
    · rename_i u hu; simp only [Option.some.injEq, Prod.mk.injEq] at h; obtain ⟨_, rfl, rfl⟩ := h
      exact .same r.heap (ev_ok hu r) (by simp [execOp, hop])
    · cases h
  case h_3 c x y hop =>
    split at h
    · rename_i b u1 u2 h1 h2 h3; simp only [Option.some.injEq, Prod.mk.injEq] at h; obtain ⟨_, rfl, rfl⟩ := h
      refine .same r.heap (pickA_ok (ev_ok h2 r) (ev_ok h3 r)) ?_
      simp only [execOp, hop, (ev_ok h1 r).bool, asBool, Sem.run_bind, Sem.run_pure, Result.andThen]
    · cases h
  case h_4 t hop =>
    split at h
    · rename_i d hd
      unfold boxA at h
      split at h
      · rename_i hc
        simp only [Option.some.injEq, Prod.mk.injEq] at h; obtain ⟨_, rfl, rfl⟩ := h
        obtain ⟨z, hz, hzr⟩ := run_zero' (hV.ty _ _ hd) w
        obtain ⟨ι', w', b, hrun, hE, hH, hp⟩ := newVar_ok (P := E.P) (t := t) r.heap ((RepV_iff (ntB_ok hc.2)).2 (hzr ι)) (ntB_ok hc.2)
        refine ⟨ι', w', _, hE, hH, hp, .inl ?_⟩
        simp only [execOp, hop, Instr.alloc, Sem.run_bind, hz, Result.andThen, hrun, Sem.run_pure]
      · cases h
    · cases h
  case h_5 t x hop =>
    split at h
    · rename_i d u hd hu
      unfold boxA at h
      split at h
      · rename_i hc
        simp only [Option.some.injEq, Prod.mk.injEq] at h; obtain ⟨_, rfl, rfl⟩ := h
        obtain ⟨ι', w', b, hrun, hE, hH, hp⟩ := newVar_ok (P := E.P) (t := t) r.heap (ev_ok hu r) (ntB_ok hc.2)
        refine ⟨ι', w', _, hE, hH, hp, .inl ?_⟩
        simp only [execOp, hop, Instr.box, Sem.run_bind, Result.andThen, hrun, Sem.run_pure]
      · cases h
    · cases h
  case h_6 t parts hop =>
    split at h
    · rename_i d ps hd hps
      split at h
      · rename_i s hs
        split at h
        · rename_i q' v' hb
          split at h
          · rename_i hagg
            simp only [Option.some.injEq, Prod.mk.injEq] at h; obtain ⟨rfl, rfl, rfl⟩ := h
            obtain ⟨cs, hrun, hrep⟩ := build_ok hV (w := w) (hV.ty _ _ hd) (fun n et hdesc => by
              unfold elemSz at hs
              rw [hdesc] at hs
              simp only at hs
              split at hs
              · rename_i x hx; cases hs; exact ⟨x, hx, rfl⟩
              · cases hs) hb hq (evParts_ok hps r)
            refine .same r.heap (RepV_of_agg hagg hrep) ?_
            simp only [execOp, hop, Sem.run_bind]
            have : (parts.map fun x => (x.1, a.eval x.2)) = (parts.toList.map fun x => (x.1, a.eval x.2)).toArray := Array.ext' (by simp)
            rw [show (parts.map fun (i, x) => (i, a.eval x)) = (parts.map fun x => (x.1, a.eval x.2)) from rfl, this, hrun]
            rfl
          · cases h
        · cases h
      · cases h
    · cases h
  case h_7 t len parts hop =>
    split at h
    · rename_i d ps hd hps
      split at h
      · rename_i e hdesc
        split at h
        · rename_i de hde
          split at h
          · rename_i c hc
            split at h
            · rename_i z hz
              split at h
              · rename_i hcond
                split at h
                · rename_i q0 ps2 H2 hset
                  split at h
                  · rename_i q' v' hf
                    split at h
                    · rename_i hsz
                      simp only [Option.some.injEq, Prod.mk.injEq] at h; obtain ⟨rfl, rfl, rfl⟩ := h
                      rw [holds_app] at hq
                      obtain ⟨ι1, hE1, r1, hl1⟩ := settle_ok hset hq.1 r.heap (evParts_ok hps r)
                      obtain ⟨ι', w', u, hrun, hE, hH, hr⟩ := buildSlice_ok (hV.ty _ _ hd) (hV.ty _ _ hde) hdesc (startSl_code hz hcond.1) hf hq.2 hcond.2.1 hcond.2.2 hsz r1 hl1
                      refine ⟨ι', w', u, hE1.trans hE, hH, hr, .inl ?_⟩
                      simp only [execOp, hop, Sem.run_bind]
                      have : (parts.map fun x => (x.1, a.eval x.2)) = (parts.toList.map fun x => (x.1, a.eval x.2)).toArray := Array.ext' (by simp)
                      rw [show (parts.map fun (i, x) => (i, a.eval x)) = (parts.map fun x => (x.1, a.eval x.2)) from rfl, this, hrun]
                      rfl
                    · cases h
                  · cases h
                · cases h
              · cases h
            · cases h
          · split at h
            · rename_i hcond
              split at h
              · rename_i q' v' hf
                split at h
                · rename_i hsz
                  simp only [Option.some.injEq, Prod.mk.injEq] at h; obtain ⟨rfl, rfl, rfl⟩ := h
                  obtain ⟨ι', w', u, hrun, hE, hH, hr⟩ := buildSlice_ok (hV.ty _ _ hd) (hV.ty _ _ hde) hdesc startSl_zeros hf hq hcond.1 hcond.2 hsz r.heap (evParts_ok hps r)
                  refine ⟨ι', w', u, hE, hH, hr, .inl ?_⟩
                  simp only [execOp, hop, Sem.run_bind]
                  have : (parts.map fun x => (x.1, a.eval x.2)) = (parts.toList.map fun x => (x.1, a.eval x.2)).toArray := Array.ext' (by simp)
                  rw [show (parts.map fun (i, x) => (i, a.eval x)) = (parts.map fun x => (x.1, a.eval x.2)) from rfl, this, hrun]
                  rfl
                · cases h
              · cases h
            · cases h
        · cases h
      · cases h
    · cases h
  case h_8 t x hop =>
    split at h
    · rename_i d u hd hu
      split at h
      · rename_i q' v' hl
        split at h
        · rename_i hc
          simp only [Option.some.injEq, Prod.mk.injEq] at h; obtain ⟨rfl, rfl, rfl⟩ := h
          obtain ⟨b, off, hb, hst⟩ := loadA_ok hl hq r.heap (ev_ok hu r)
          obtain ⟨c, hrun, hr⟩ := loadVar_ok (hV.ty _ _ hd) hc.1 hc.2 hst
          refine .same r.heap hr ?_
          simp only [execOp, hop, Instr.loadAt, hb, Instr.sureAddr, Sem.run_bind, Sem.run_pure, Result.andThen, hrun]
        · cases h
      · cases h
    · cases h
  case h_9 t x y hop =>
    split at h
    · rename_i d u uy hd hu huy
      split at h
      · rename_i hc
        split at h
        · rename_i q' H2 hs
          simp only [Option.some.injEq, Prod.mk.injEq] at h; obtain ⟨rfl, rfl, rfl⟩ := h
          obtain ⟨b, off, w', hb, hrun, hH⟩ := storeA_ok (hV.ty _ _ hd) hs hq hc.1 r.heap (ev_ok hu r) (ev_ok huy r) (ntB_ok hc.2)
          refine ⟨ι, w', undef, Ext.refl ι, hH, RepV_undef, .inr ⟨?_, rfl⟩⟩
          simp only [execOp, hop, Instr.storeAt, hb, Instr.sureAddr, Sem.run_bind, Sem.run_pure, Result.andThen, hrun]
        · cases h
      · cases h
    · cases h
  case h_10 x hop =>
    split at h
    · rename_i o' p hu
      simp only [Option.some.injEq, Prod.mk.injEq] at h; obtain ⟨_, rfl, rfl⟩ := h
      obtain ⟨b, z, hb, hc⟩ := Rep_ptr (ev_ok hu r)
      exact .same r.heap (ev_ok hu r) (by simp only [execOp, hop, hc, Sem.run_pure])
    · rename_i u hu
      simp only [Option.some.injEq, Prod.mk.injEq] at h; obtain ⟨_, rfl, rfl⟩ := h
      obtain ⟨b, off, cells, t, fz, l, hc, _⟩ := Rep_ref (ev_ok hu r)
      exact .same r.heap (ev_ok hu r) (by simp only [execOp, hop, hc, Sem.run_pure])
    · rename_i f cs hu
      simp only [Option.some.injEq, Prod.mk.injEq] at h; obtain ⟨_, rfl, rfl⟩ := h
      have hr := (ev_ok hu r).one rfl rfl
      rw [Rep] at hr
      obtain ⟨_, l, hc, _⟩ := hr
      simp only [List.cons.injEq, and_true] at hc
      exact .same r.heap (ev_ok hu r) (by simp only [execOp, hop, hc, Sem.run_pure])
    · rename_i l hu
      simp only [Option.some.injEq, Prod.mk.injEq] at h; obtain ⟨_, rfl, rfl⟩ := h
      have hr := (ev_ok hu r).one rfl rfl
      rw [Rep] at hr
      obtain ⟨b, z, _, hc⟩ := hr
      simp only [List.cons.injEq, and_true] at hc
      exact .same r.heap (ev_ok hu r) (by simp only [execOp, hop, hc, Sem.run_pure])
    · cases h
  case h_11 op t x y yt hop =>
    split at h
    · rename_i ux uy hx hy
      split at h
      · rename_i q' v' hb
        simp only [Option.some.injEq, Prod.mk.injEq] at h; obtain ⟨rfl, rfl, rfl⟩ := h
        obtain ⟨c, hrun, hr⟩ := bin_ok (P := E.P) (w := w) (t := t) (fun e he => hV.ty _ _ he) hb hq (ev_ok hx r) (ev_ok hy r) x y
        refine .same r.heap hr ?_
        simp only [execOp, hop, Sem.run_bind] at hrun ⊢
        rw [hrun]
        rfl
      · split at h
        · rename_i v' hb
          simp only [Option.some.injEq, Prod.mk.injEq] at h; obtain ⟨_, rfl, rfl⟩ := h
          obtain ⟨c, hrun, hr⟩ := binS_ok hV (w := w) hb (ev_ok hx r) (ev_ok hy r) x y
          refine .same r.heap hr ?_
          simp only [execOp, hop, Sem.run_bind] at hrun ⊢
          rw [hrun]
          rfl
        · cases h
    · cases h
  case h_12 op t x hop =>
    split at h
    · rename_i ux hx
      split at h
      · rename_i v' hb
        simp only [Option.some.injEq, Prod.mk.injEq] at h; obtain ⟨_, rfl, rfl⟩ := h
        obtain ⟨c, hrun, hr⟩ := un_ok (P := E.P) (w := w) hb (ev_ok hx r)
        refine .same r.heap hr ?_
        simp only [execOp, hop, Sem.run_bind, hrun, Result.andThen, Sem.run_pure]
      · cases h
    · cases h
  case h_13 src dst x hop =>
    split at h
    · rename_i ds d k n hs hd hx
      split at h
      · rename_i k' hdesc
        simp only [Option.some.injEq, Prod.mk.injEq] at h; obtain ⟨_, rfl, rfl⟩ := h
        refine .same r.heap (RepV_int _ _) ?_
        have h1 := (hV.ty _ _ hs).1
        have h2 := (hV.ty _ _ hd).1
        rw [hdesc] at h2
        simp only [execOp, hop, convert, (ev_ok hx r).int, Sem.run_bind, run_underlying h1, run_underlying h2, Result.andThen, Conv.intToInt, Sem.run_pure, iconv]
      · cases h
    · rename_i s d v _ hs hd hx
      split at h
      · rename_i u hsa
        simp only [Option.some.injEq, Prod.mk.injEq] at h; obtain ⟨_, rfl, rfl⟩ := h
        obtain ⟨c, hrun, hr⟩ := strA_ok hV (hV.ty _ _ hs) (hV.ty _ _ hd) hsa r.heap.prot (ev_ok hx r)
        have hr := hr ι
        refine .same r.heap hr ?_
        simp only [execOp, hop, Sem.run_bind, hrun, Result.andThen, Sem.run_pure]
      · cases h
    · cases h
  case h_14 f first caps hop =>
    split at h
    · rename_i cs hf hcs
      split at h
      · rename_i hall
        simp only [Option.some.injEq, Prod.mk.injEq] at h; obtain ⟨_, rfl, rfl⟩ := h
        have hl := evs_ok hcs r
        refine .same r.heap (fn_rep hl hall) ?_
        have hfe : first = #[] := by cases first; simpa using hf
        subst hfe
        have hcm : caps.map a.eval = (caps.toList.map a.eval).toArray := Array.ext' (by simp)
        simp only [execOp, hop, Instr.makeFunc, Sem.run_bind, Sem.run_pure, Result.andThen, hcm, Array.map_empty]
      · cases h
    · rename_i x0 l0 hf hcs
      split at h
      · rename_i cs hcs2
        split at h
        · rename_i hall
          simp only [Option.some.injEq, Prod.mk.injEq] at h; obtain ⟨_, rfl, rfl⟩ := h
          have hl0 := evs_ok hcs r
          have hl := evs_ok hcs2 r
          rw [← hf] at hl
          refine .same r.heap (bnd_rep hl hall) ?_
          have hce : caps = #[] := by
            cases hl1 : caps.toList with
            | nil => cases caps; simpa using hl1
            | cons y ys => rw [hl1] at hl0; cases hl0
          subst hce
          have hcm : first.map a.eval = (first.toList.map a.eval).toArray := Array.ext' (by simp)
          simp only [execOp, hop, Instr.makeFunc, Sem.run_bind, Sem.run_pure, Result.andThen, hcm, Array.map_empty]
        · cases h
      · cases h
    · cases h
  case h_15 s x f hop =>
    split at h
    · rename_i d u hd hu
      split at h
      · rename_i q' v' hb
        simp only [Option.some.injEq, Prod.mk.injEq] at h; obtain ⟨rfl, rfl, rfl⟩ := h
        obtain ⟨c, hrun, hr⟩ := fieldAddr_ok hV (w := w) (hV.ty _ _ hd) hb hq (ev_ok hu r)
        refine .same r.heap hr ?_
        simp only [execOp, hop, Sem.run_bind, hrun, Result.andThen, Sem.run_pure]
      · cases h
    · cases h
  case h_16 s x f hop =>
    split at h
    · rename_i d u hd hu
      split at h
      · rename_i q' v' hb
        simp only [Option.some.injEq, Prod.mk.injEq] at h; obtain ⟨rfl, rfl, rfl⟩ := h
        obtain ⟨c, hrun, hr⟩ := field_ok hV (w := w) (hV.ty _ _ hd) hb hq (ev_ok hu r)
        refine .same r.heap hr ?_
        simp only [execOp, hop, Sem.run_bind, hrun, Result.andThen, Sem.run_pure]
      · cases h
    · cases h
  case h_17 t x i hop =>
    split at h
    · rename_i d u ui hd hu hi
      split at h
      · rename_i et e he
        split at h
        · rename_i q' v' hb
          simp only [Option.some.injEq, Prod.mk.injEq] at h; obtain ⟨rfl, rfl, rfl⟩ := h
          obtain ⟨he1, he2⟩ := elemD_ok hV he
          obtain ⟨c, hrun, hr⟩ := indexAddr_ok (w := w) (hV.ty _ _ hd) he1 he2 hb hq (ev_ok hu r) (ev_ok hi r)
          refine .same r.heap hr ?_
          simp only [execOp, hop, Sem.run_bind, hrun, Result.andThen, Sem.run_pure]
        · cases h
      · cases h
    · cases h
  case h_18 t x i hop =>
    split at h
    · rename_i d u ui hd hu hi
      split at h
      · rename_i et e he
        split at h
        · rename_i q' v' hb
          simp only [Option.some.injEq, Prod.mk.injEq] at h; obtain ⟨rfl, rfl, rfl⟩ := h
          obtain ⟨he1, he2⟩ := elemD_ok hV he
          obtain ⟨c, hrun, hr⟩ := index_ok (w := w) (hV.ty _ _ hd) he1 he2 hb hq (ev_ok hu r) (ev_ok hi r)
          refine .same r.heap hr ?_
          simp only [execOp, hop, Sem.run_bind, hrun, Result.andThen, Sem.run_pure]
        · cases h
      · split at h
        · rename_i q' v' hb
          simp only [Option.some.injEq, Prod.mk.injEq] at h; obtain ⟨rfl, rfl, rfl⟩ := h
          obtain ⟨c, hrun, hr⟩ := indexS_ok (w := w) (hV.ty _ _ hd) hb hq (ev_ok hu r) (ev_ok hi r)
          refine .same r.heap hr ?_
          simp only [execOp, hop, Sem.run_bind, hrun, Result.andThen, Sem.run_pure]
        · cases h
    · cases h
  case h_19 t x lo hi hop =>
    split at h
    · rename_i d u ul uh hd hu hl hh
      split at h
      · rename_i s hs
        split at h
        · rename_i q' v' hb
          simp only [Option.some.injEq, Prod.mk.injEq] at h; obtain ⟨rfl, rfl, rfl⟩ := h
          obtain ⟨c, hrun, hr⟩ := sliceA_ok (w := w) hV hd hs hb hq (ev_ok hu r) (evO_ok hl r) (evO_ok hh r)
          refine .same r.heap hr ?_
          simp only [execOp, hop, Sem.run_bind, Option.map_none, hrun, Result.andThen, Sem.run_pure]
        · cases h
      · cases h
    · cases h
  case h_20 x i hop =>
    split at h
    · rename_i vs hu
      split at h
      · rename_i v' hi
        simp only [Option.some.injEq, Prod.mk.injEq] at h; obtain ⟨_, rfl, rfl⟩ := h
        obtain ⟨l, hc, hl⟩ := ev_ok hu r
        obtain ⟨c, hci, hr⟩ := hl.at i _ hi
        refine .same r.heap (c := c) ?_ ?_
        · cases hv : v' with
          | tup us => subst hv; unfold RepV0 at hr; simp only [aggB, Bool.false_eq_true, if_false] at hr; rw [Rep] at hr; exact hr.elim
          | any => trivial
          | _ => subst hv; exact hr
        · simp only [execOp, hop, Instr.extract, hc, List.getElem?_toArray, hci, Sem.run_bind, Sem.run_pure, Result.andThen]
      · cases h
    · cases h
  case h_21 b args ts hop =>
    obtain ⟨cs, hrun⟩ := builtin_run (E := E) (a := a) (w := w) hop
    have hargs : args.map a.eval = (args.toList.map a.eval).toArray := Array.ext' (by simp)
    split at h
    · rename_i k m k' n hev
      split at h
      · rename_i e; subst e
        simp only [Option.some.injEq, Prod.mk.injEq] at h; obtain ⟨_, rfl, rfl⟩ := h
        have hl := evs_ok hev r
        obtain ⟨c1, _, e1, h1, hl⟩ := hl.cons_inv
        obtain ⟨c2, _, e2, h2, hl⟩ := hl.cons_inv
        cases hl
        refine .same r.heap (RepV_int _ _) ?_
        rw [hrun, hargs, e1, e2, h1.int, h2.int]
        simp [builtin, Builtin.min_, Builtin.min2, imin]
      · cases h
    · rename_i k m k' n hev
      split at h
      · rename_i e; subst e
        simp only [Option.some.injEq, Prod.mk.injEq] at h; obtain ⟨_, rfl, rfl⟩ := h
        have hl := evs_ok hev r
        obtain ⟨c1, _, e1, h1, hl⟩ := hl.cons_inv
        obtain ⟨c2, _, e2, h2, hl⟩ := hl.cons_inv
        cases hl
        refine .same r.heap (RepV_int _ _) ?_
        rw [hrun, hargs, e1, e2, h1.int, h2.int]
        simp [builtin, Builtin.max_, Builtin.max2, imax]
      · cases h
    · rename_i c xs hev
      split at h
      · rename_i hsl
        simp only [Option.some.injEq, Prod.mk.injEq] at h; obtain ⟨_, rfl, rfl⟩ := h
        obtain ⟨t, e, e0, hu⟩ := isSlice_ok hV hsl
        obtain ⟨c1, _, e1, h1, hl⟩ := (evs_ok hev r).cons_inv
        cases hl
        refine .same r.heap (RepV_int _ _) ?_
        rw [hrun, hargs, e1]
        rcases fsl_of h1 with ⟨rfl, rfl | ⟨a0, rfl⟩⟩ | ⟨b, off, k, cells, ty, fz, l, rfl, _⟩
        · simp [builtin, Builtin.len_, e0, run_underlying hu, goInt]
        · simp [builtin, Builtin.len_, e0, run_underlying hu, goInt]
        · simp [builtin, Builtin.len_, e0, run_underlying hu, goInt]
      · cases h
    · rename_i o' p s off len cap hev
      split at h
      · rename_i hsl
        simp only [Option.some.injEq, Prod.mk.injEq] at h; obtain ⟨_, rfl, rfl⟩ := h
        obtain ⟨t, e, e0, hu⟩ := isSlice_ok hV hsl
        obtain ⟨c1, _, e1, h1, hl⟩ := (evs_ok hev r).cons_inv
        cases hl
        refine .same r.heap (RepV_int _ _) ?_
        rw [hrun, hargs, e1]
        obtain ⟨b, z, k, _, rfl, _⟩ := osl_of h1
        simp [builtin, Builtin.len_, e0, run_underlying hu, goInt]
      · cases h
    · rename_i hev
      split at h
      · rename_i hsl
        simp only [Option.some.injEq, Prod.mk.injEq] at h; obtain ⟨_, rfl, rfl⟩ := h
        obtain ⟨t, e, e0, hu⟩ := isSlice_ok hV hsl
        obtain ⟨c1, _, e1, h1, hl⟩ := (evs_ok hev r).cons_inv
        cases hl
        refine .same r.heap (RepV_int _ _) ?_
        rw [hrun, hargs, e1, h1.raw]
        simp [builtin, Builtin.len_, e0, run_underlying hu, goInt]
      · cases h
    · rename_i o' p s off len k0 hev
      split at h
      · rename_i hsl
        simp only [Option.some.injEq, Prod.mk.injEq] at h; obtain ⟨_, rfl, rfl⟩ := h
        obtain ⟨t, e, e0, hu⟩ := isSlice_ok hV hsl
        obtain ⟨c1, _, e1, h1, hl⟩ := (evs_ok hev r).cons_inv
        cases hl
        refine .same r.heap (RepV_int _ _) ?_
        rw [hrun, hargs, e1]
        obtain ⟨b, z, k, _, rfl, _, _, hk⟩ := osl_of h1
        rw [hk k0 rfl]
        simp [builtin, Builtin.cap_, e0, run_underlying hu, goInt]
      · cases h
    · rename_i hev
      split at h
      · rename_i hsl
        simp only [Option.some.injEq, Prod.mk.injEq] at h; obtain ⟨_, rfl, rfl⟩ := h
        obtain ⟨t, e, e0, hu⟩ := isSlice_ok hV hsl
        obtain ⟨c1, _, e1, h1, hl⟩ := (evs_ok hev r).cons_inv
        cases hl
        refine .same r.heap (RepV_int _ _) ?_
        rw [hrun, hargs, e1, h1.raw]
        simp [builtin, Builtin.cap_, e0, run_underlying hu, goInt]
      · cases h
    · rename_i d x hev
      split at h
      · rename_i t ht
        split at h
        · rename_i dd hdd
          split at h
          · rename_i et de hde
            split at h
            · rename_i hsl
              obtain ⟨he1, he2⟩ := elemD_ok hV hde
              have hdesc : dd.desc = .slice et := by
                rcases he2 with h' | ⟨m, h'⟩
                · exact h'
                · unfold isSl at hsl; rw [h'] at hsl; cases hsl
              have hu := (hV.ty _ _ hdd).1
              rw [hdesc] at hu
              obtain ⟨c1, _, e1, h1, hl⟩ := (evs_ok hev r).cons_inv
              obtain ⟨c2, _, e2, h2, hl⟩ := hl.cons_inv
              cases hl
              obtain ⟨w', u, hcr, hH, hR⟩ := copy_ok (ty := o.type) ht hu he1 h hq r.heap h1 h2
              refine ⟨ι, w', u, Ext.refl ι, hH, hR, .inl ?_⟩
              rw [hrun, hargs, e1, e2]
              simp only [builtin, Sem.run_bind, hcr, Result.andThen, Sem.run_pure]
            · cases h
          · cases h
        · cases h
      · cases h
    · cases h
  case h_22 t ln cp hop =>
    split at h
    · rename_i d l c hd hl hc
      split at h
      · rename_i et de hde
        split at h
        · rename_i hsl
          obtain ⟨he1, he2⟩ := elemD_ok hV hde
          have hdesc : d.desc = .slice et := by
            rcases he2 with h' | ⟨m, h'⟩
            · exact h'
            · unfold isSl at hsl; rw [h'] at hsl; cases hsl
          have hu := (hV.ty _ _ hd).1
          rw [hdesc] at hu
          obtain ⟨ι', w', u, hcr, hE, hH, hR⟩ := make_ok hu he1 h hq r.heap (ev_ok hl r) (ev_ok hc r)
          refine ⟨ι', w', u, hE, hH, hR, .inl ?_⟩
          simp only [execOp, hop, Sem.run_bind, hcr, Result.andThen, Sem.run_pure]
        · cases h
      · cases h
    · cases h
  case h_23 t hop =>
    simp only [Option.some.injEq, Prod.mk.injEq] at h; obtain ⟨_, rfl, rfl⟩ := h
    have hE := Ext.add ι w.heap.size 0
    refine ⟨ι.add w.heap.size 0, w.alloc (.map #[] 0), .map (some w.heap.size), hE, ?_, ?_, .inl ?_⟩
    · exact r.heap.alloc _ _ _ ⟨#[], 0, heap_alloc_new, .nil⟩
    · refine RepV_of_rep rfl ?_
      rw [Rep]
      exact ⟨w.heap.size, 0, by rw [r.heap.len]; exact ι.add_at _ _, rfl⟩
    · simp only [execOp, hop, Instr.makeMap, Option.map_none, Sem.run_bind, Sem.run_pure, Result.andThen]
      rfl
  case h_24 t m k x hop =>
    split at h
    · rename_i d o' kk n u hd hm hk hu
      split at h
      · rename_i kt et es hdesc ho
        split at h
        · rename_i dk hdk
          split at h
          · rename_i k0 hkd
            split at h
            · rename_i hc
              simp only [Option.some.injEq, Prod.mk.injEq] at h; obtain ⟨_, rfl, rfl⟩ := h
              have h1 := (hV.ty _ _ hd).1
              have h2 := (hV.ty _ _ hdk).1
              rw [hdesc] at h1
              rw [hkd] at h2
              obtain ⟨w', hrun, hH⟩ := insert_ok h1 h2 r.heap ho (ev_ok hm r) (ev_ok hu r) (ntB_ok hc.2) hc.1
              refine ⟨ι, w', undef, Ext.refl ι, hH, RepV_undef, .inr ⟨?_, rfl⟩⟩
              simp only [execOp, hop, (ev_ok hk r).int, Sem.run_bind, hrun, Result.andThen, Sem.run_pure]
            · cases h
          · cases h
        · cases h
      · cases h
    · cases h
  case h_25 t m k ok hop =>
    split at h
    · rename_i d ob kk n hd hm hk'
      split at h
      · rename_i kt et es hdesc ho
        split at h
        · rename_i dk de hdk hde
          split at h
          · rename_i k0 hkd
            split at h
            · rename_i v' fl' hlk
              simp only [Option.some.injEq, Prod.mk.injEq] at h; obtain ⟨_, rfl, rfl⟩ := h
              have h1 := (hV.ty _ _ hd).1
              have h2 := (hV.ty _ _ hdk).1
              rw [hdesc] at h1
              rw [hkd] at h2
              obtain ⟨v, fl, c, hg, hr, hrun⟩ := lookup_ok (ok := ok) h1 h2 (hV.ty _ _ hde) r.heap ho (ev_ok hm r) (lookA_F hlk)
              obtain ⟨rfl, rfl⟩ := hg
              refine .same r.heap hr ?_
              simp only [execOp, hop, (ev_ok hk' r).int, Sem.run_bind, hrun, Result.andThen, Sem.run_pure]
            · cases h
          · cases h
        · cases h
      · cases h
    · cases h
  case h_26 t m k x hop =>
    split at h
    · rename_i d o' kk n u hd hm hk hu
      split at h
      · rename_i kt et es hdesc ho
        split at h
        · rename_i dk hdk
          split at h
          · rename_i k0 hkd
            split at h
            · rename_i hc
              simp only [Option.some.injEq, Prod.mk.injEq] at h; obtain ⟨_, rfl, rfl⟩ := h
              have h1 := (hV.ty _ _ hd).1
              have h2 := (hV.ty _ _ hdk).1
              rw [hdesc] at h1
              rw [hkd] at h2
              obtain ⟨w', hrun, hH⟩ := insert_ok h1 h2 r.heap ho (ev_ok hm r) (ev_ok hu r) (ntB_ok hc.2) hc.1
              refine ⟨ι, w', undef, Ext.refl ι, hH, RepV_undef, .inr ⟨?_, rfl⟩⟩
              simp only [execOp, hop, (ev_ok hk r).int, Sem.run_bind, hrun, Result.andThen, Sem.run_pure]
            · cases h
          · cases h
        · cases h
      · cases h
    · cases h
  case h_27 => cases h

theorem lookD_ok {o : Oper} {go : AV → Prop} (h : lookD E T H o go) : ∃ v, aop E T H o = some ([], v, H) ∧ go v := by
  unfold lookD at h
  split at h
  · rename_i t m k ok hop
    split at h
    · rename_i d ob kk n hd hm hk'
      split at h
      · rename_i kt et es hdesc ho
        split at h
        · rename_i dk de hdk hde
          split at h
          · rename_i k0 hkd
            have hl : lookA n kk de.zero (fun v fl => go (lookV ok v fl)) es := by
              split at h
              · rename_i v fl hmg; exact look_merge (go := fun v fl => go (lookV ok v fl)) hmg h
              · exact h
            obtain ⟨v, fl, h1, h2⟩ := lookF_A hl
            exact ⟨lookV ok v fl, by simp only [aop, hop, hd, hm, hk', hdesc, ho, hdk, hde, hkd, h1], h2⟩
          · cases h
        · cases h
      · cases h
    · cases h
  · cases h
end Go.Eng
end
