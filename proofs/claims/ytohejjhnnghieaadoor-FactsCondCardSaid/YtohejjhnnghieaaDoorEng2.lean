/- A part of the proof that the laws of this seat hold. Conditions: none beyond the row. -/
import Derived.Test.YtohejjhnnghieaaDoorEng1
import Derived.KernelRfl
import Derived.WideKeyArgs
import Derived.Deep.Slices
import Derived.OpenShut
set_option linter.unusedVariables false
set_option linter.unusedSimpArgs false
set_option linter.unusedSectionVars false
section
/- Trees: what a stretch of code comes to, written out; contracts out of walks. -/
namespace Go.Eng
open Go.RowKit

inductive Tr (α : Type) where
  | ret (a : α)
  | need (p : Prop) (t : Tr α)
  | ite (b : Bool) (t e : Tr α)
  | fail (a : α)
  | all (f : Nat → Tr α)
  | both (t e : Tr α)

def Tr.wp {α : Type} : Tr α → (α → Prop) → Prop
  | .ret a, Q => Q a
  | .need p t, Q => p ∧ t.wp Q
  | .ite b t e, Q => cond b (t.wp Q) (e.wp Q)
  | .fail _, _ => False
  | .all f, Q => ∀ j, (f j).wp Q
  | .both t e, Q => t.wp Q ∧ e.wp Q

/-- The tree comes to 'a'. -/
def Tr.gives {α : Type} (t : Tr α) (a : α) : Prop := t.wp (fun x => x = a)

/-- The tree, and what is behind its jumps, comes to 'r'. -/
inductive Ends {J α : Type} (step : J → Tr (J ⊕ α)) (r : α) : Tr (J ⊕ α) → Prop where
  | ret : Ends step r (.ret (.inr r))
  | jump (j : J) (h : Ends step r (step j)) : Ends step r (.ret (.inl j))
  | need (p : Prop) (t : Tr (J ⊕ α)) (hp : p) (h : Ends step r t) : Ends step r (.need p t)
  | yes (t e : Tr (J ⊕ α)) (h : Ends step r t) : Ends step r (.ite true t e)
  | no (t e : Tr (J ⊕ α)) (h : Ends step r e) : Ends step r (.ite false t e)
  | all (f : Nat → Tr (J ⊕ α)) (h : ∀ j, Ends step r (f j)) : Ends step r (.all f)
  | both (t e : Tr (J ⊕ α)) (h : Ends step r t) (h' : Ends step r e) : Ends step r (.both t e)

structure Head where
  fr : Fr
  stk : List Fr
  H : Heap

/-- The head, its loop's body laid out once. -/
def Fr.enter (fr : Fr) : Fr :=
  match fr.items with
  | .lp c :: k => { fr with items := .code c :: .lp c :: k }
  | .code c :: k => { fr with items := .now c :: k }
  | _ => fr

theorem enter_ok {E : Env} {Q : AV → Heap → Prop} {fr : Fr} {stk : List Fr} {H : Heap} (h : WW E Q fr.enter stk H) : WW E Q fr stk H := by
  unfold Fr.enter at h
  split at h
  · rename_i c k hit; exact loop_unfold hit h
  · rename_i c k hit; exact now_ok hit h
  · exact h

def kont {J α : Type} (W : Cfg) (Q : α → Prop) (head : J → Head) : J ⊕ α → Prop
  | .inl j => W (head j).fr (head j).stk (head j).H
  | .inr r => Q r

def startFr (f : FuncId) (fn : Func) (c : Code) (args : List AV) : Fr := { id := f, kind := .top, T := entT fn args, items := [.code c], D := [], base := 0 }

theorem ends_walk {E : Env} {J α : Type} {Q : AV → Heap → Prop} {Qr : α → Prop} {step : J → Tr (J ⊕ α)} {head : J → Head} {r : α} (hr : Qr r)
    (hstep : ∀ j, (step j).wp (kont (WW E Q) Qr head) → WW E Q (head j).fr.enter (head j).stk (head j).H) : ∀ {t : Tr (J ⊕ α)}, Ends step r t → t.wp (kont (WW E Q) Qr head) := by
  intro t h
  induction h with
  | ret => exact hr
  | jump j _ ih => exact enter_ok (hstep j ih)
  | need p t hp _ ih => exact ⟨hp, ih⟩
  | yes t e _ ih => exact ih
  | no t e _ ih => exact ih
  | all f _ ih => exact ih
  | both t e _ _ ih ih' => exact ⟨ih, ih'⟩

/-- A contract out of its walk: no loops. -/
theorem spec_of_tree {E : Env} (hV : E.Valid) (hS : ∀ f sp, E.spec f = some sp → SpecOk E f sp) {f : FuncId} {sp : Spec} {fn : Func} {c : Code} (hf : E.fns f = some fn) (hc : fn.body = some c) {stop : FuncId → Nat → Nat → Option Cut} {N : Nat}
    (tree : sp.dom.den → Tr sp.cod.den) (hw : ∀ (W : Cfg) (Q : sp.cod.den → Prop) (x : sp.dom.den), run E stop (finS sp Q) W N (startFr f fn c (argsOf sp.dom x)) [] [] = (tree x).wp Q)
    (hx : ∀ x, sp.pre x → (tree x).gives (sp.f x)) : SpecOk E f sp :=
  spec_of_run hV hf hc fun x hp => run_ok (stop := stop) hV hS N _ _ _ (by
    have h := hw (WW E (finS sp fun r => r = sp.f x)) (fun r => r = sp.f x) x
    unfold startFr at h
    rw [h]
    exact hx x hp)

/-- A contract out of its walks: with loops. -/
theorem spec_of_trees {E : Env} (hV : E.Valid) (hS : ∀ f sp, E.spec f = some sp → SpecOk E f sp) {f : FuncId} {sp : Spec} {fn : Func} {c : Code} (hf : E.fns f = some fn) (hc : fn.body = some c) {stop : FuncId → Nat → Nat → Option Cut} {N : Nat} {J : Type}
    (entry : sp.dom.den → Tr (J ⊕ sp.cod.den)) (step : sp.dom.den → J → Tr (J ⊕ sp.cod.den)) (head : sp.dom.den → J → Head)
    (h1 : ∀ (W : Cfg) (Q : sp.cod.den → Prop) (x : sp.dom.den), run E stop (finS sp Q) W N (startFr f fn c (argsOf sp.dom x)) [] [] = (entry x).wp (kont W Q (head x)))
    (h2 : ∀ (W : Cfg) (Q : sp.cod.den → Prop) (x : sp.dom.den) (j : J), run E stop (finS sp Q) W N (head x j).fr.enter (head x j).stk (head x j).H = (step x j).wp (kont W Q (head x)))
    (hx : ∀ x, sp.pre x → Ends (step x) (sp.f x) (entry x)) : SpecOk E f sp :=
  spec_of_run hV hf hc fun x hp => run_ok (stop := stop) hV hS N _ _ _ (by
    have h := h1 (WW E (finS sp fun r => r = sp.f x)) (fun r => r = sp.f x) x
    unfold startFr at h
    rw [h]
    refine ends_walk (Q := finS sp fun r => r = sp.f x) (Qr := fun r => r = sp.f x) rfl (fun j hj => ?_) (hx x hp)
    refine run_ok (stop := stop) hV hS N _ _ _ ?_
    rw [h2 (WW E (finS sp fun r => r = sp.f x)) (fun r => r = sp.f x) x j]
    exact hj)

/-! ### Tables -/
theorem SpecOk.env {E E' : Env} (hP : E'.P = E.P) (hg : ∀ g v, E.glob g = some v → E'.glob g = some v) {f : FuncId} {sp : Spec} (h : SpecOk E f sp) : SpecOk E' f sp := by
  intro x w pr args hp hpr hgr ha
  rw [hP]
  exact h x w pr args hp hpr (fun g v e => hgr g v (hg g v e)) ha

/-! ### Functions out of trees -/
def Tr.val {α : Type} : Tr α → α
  | .ret a => a
  | .need _ t => t.val
  | .ite b t e => cond b t.val e.val
  | .fail a => a
  | .all f => (f 0).val
  | .both t _ => t.val

def Tr.ok {α : Type} : Tr α → Prop
  | .ret _ => True
  | .need p t => p ∧ t.ok
  | .ite b t e => cond b t.ok e.ok
  | .fail _ => False
  | .all f => ∀ j, (f j).ok ∧ (f j).val = (f 0).val
  | .both t e => t.ok ∧ e.ok ∧ e.val = t.val

theorem Tr.gives_val {α : Type} : ∀ {t : Tr α}, t.ok → t.gives t.val
  | .ret _, _ => rfl
  | .need _ t, h => ⟨h.1, Tr.gives_val (t := t) h.2⟩
  | .ite b t e, h => by
    cases b with
    | true => exact Tr.gives_val (t := t) h
    | false => exact Tr.gives_val (t := e) h
  | .fail _, h => h.elim
  | .all f, h => fun j => by
    have := Tr.gives_val (t := f j) (h j).1
    rw [Tr.gives, (h j).2] at this
    exact this
  | .both t e, h => by
    have h2 := Tr.gives_val (t := e) h.2.1
    rw [Tr.gives, h.2.2] at h2
    exact ⟨Tr.gives_val (t := t) h.1, h2⟩

theorem Ends.unique {J α : Type} {step : J → Tr (J ⊕ α)} {r r' : α} {t : Tr (J ⊕ α)} (h : Ends step r t) (h' : Ends step r' t) : r = r' := by
  induction h with
  | ret => cases h'; rfl
  | jump j _ ih => cases h' with | jump _ h' => exact ih h'
  | need p t hp _ ih => cases h' with | need _ _ _ h' => exact ih h'
  | yes t e _ ih => cases h' with | yes _ _ h' => exact ih h'
  | no t e _ ih => cases h' with | no _ _ h' => exact ih h'
  | all f _ ih => cases h' with | all _ h' => exact ih 0 (h' 0)
  | both t e _ _ ih _ => cases h' with | both _ _ h' _ => exact ih h'

open Classical in
noncomputable def endVal {J α : Type} (d : α) (step : J → Tr (J ⊕ α)) (t : Tr (J ⊕ α)) : α := if h : ∃ r, Ends step r t then h.choose else d

theorem endVal_ends {J α : Type} {d : α} {step : J → Tr (J ⊕ α)} {t : Tr (J ⊕ α)} (h : ∃ r, Ends step r t) : Ends step (endVal d step t) t := by
  unfold endVal; rw [dif_pos h]; exact h.choose_spec

theorem endVal_eq {J α : Type} {d : α} {step : J → Tr (J ⊕ α)} {t : Tr (J ⊕ α)} {r : α} (h : Ends step r t) : endVal d step t = r := (endVal_ends ⟨r, h⟩).unique h

/-! ### Places in code -/
def bodyOf (fn : Func) : Code := fn.body.getD .skip

def subc : List Nat → Code → Code
  | [], c => c
  | i :: p, c => match c with
    | .seq a b => subc p (if i == 0 then a else b)
    | .cond _ a b => subc p (if i == 0 then a else b)
    | .block _ a => subc p a
    | .loop a => subc p a
    | .scope a => subc p a
    | .rangeFunc _ _ a b => subc p (if i == 0 then a else b)
    | c => c

def opsOf : Code → List Oper
  | .region _ ops _ => ops.toList
  | _ => []

/-! ### Ground values: zeros, tables -/
def groundD : (c : TC) → c.den → Option (List Value)
  | .int k, n => some [.int k n]
  | .bool, b => some [.bool b]
  | .str, s => some [.string s]
  | .unit, _ => some []
  | .st a r, x => match groundD a x.1, groundD r x.2 with | some l, some m => some (l ++ m) | _, _ => none
  | .st1 a, x => groundD a x
  | .slice _, xs => match xs with | [] => some [.slice none 0 0] | _ => none
  | .arr n c, xs => if xs.length = n then groundAll (groundD c) xs else none
  | .ref _, _ => none
  | .junk, _ => none
where groundAll {α : Type} (f : α → Option (List Value)) : List α → Option (List Value)
  | [] => some []
  | x :: xs => match f x, groundAll f xs with | some l, some m => some (l ++ m) | _, _ => none

theorem groundAll_ok {α : Type} {f : α → Option (List Value)} {R : α → List Value → Prop} (h : ∀ x l, f x = some l → R x l) : ∀ {xs : List α} {l : List Value}, groundD.groundAll f xs = some l → RepAll R xs l
  | [], _, e => by cases e; exact .nil
  | x :: xs, _, e => by
    simp only [groundD.groundAll] at e
    split at e
    · rename_i l m h1 h2; cases e; exact .cons (h _ _ h1) (groundAll_ok h h2)
    · cases e

theorem groundD_ok (ι : Inst) : ∀ (c : TC) (x : c.den) (cs : List Value), groundD c x = some cs → RepD ι c x cs
  | .int _, _, _, h => by cases h; rfl
  | .bool, _, _, h => by cases h; rfl
  | .str, _, _, h => by cases h; rfl
  | .unit, _, _, h => by cases h; rfl
  | .st a r, x, _, h => by
    simp only [groundD] at h
    split at h
    · rename_i l m h1 h2; cases h; exact ⟨l, m, rfl, groundD_ok ι a _ _ h1, groundD_ok ι r _ _ h2⟩
    · cases h
  | .st1 a, x, _, h => groundD_ok ι a x _ h
  | .slice _, xs, _, h => by
    cases xs with
    | nil => cases h; exact ⟨_, rfl, .inl ⟨rfl, .inl rfl⟩⟩
    | cons => cases h
  | .arr n c, xs, _, h => by
    simp only [groundD] at h
    split at h
    · rename_i hn; exact ⟨hn, groundAll_ok (groundD_ok ι c) h⟩
    · cases h
  | .ref _, _, _, h => by cases h
  | .junk, _, _, h => by cases h

mutual
def ground : AV → Option (List Value)
  | .int k n => some [.int k n]
  | .bool b => some [.bool b]
  | .str s => some [.string s]
  | .raw v => if v.oneCell' = true then some [v] else none
  | .agg ss vs => groundL ss vs
  | .arr n c xs => groundD (.arr n c) xs
  | .fn f [] => some [.func (.func f) #[] #[]]
  | _ => none
def groundL : List Nat → List AV → Option (List Value)
  | [], [] => some []
  | s :: ss, v :: vs => match ground v, groundL ss vs with
    | some l, some m => if l.length = s then some (l ++ m) else none
    | _, _ => none
  | _, _ => none
end

mutual
theorem ground_ok (ι : Inst) : ∀ (v : AV) (cs : List Value), ground v = some cs → Rep ι v cs
  | .int _ _, _, h => by cases h; rw [Rep]
  | .bool _, _, h => by cases h; rw [Rep]
  | .str _, _, h => by cases h; rw [Rep]
  | .raw v, _, h => by
    simp only [ground] at h
    split at h
    · rename_i e; cases h; rw [Rep]; exact ⟨rfl, e⟩
    · cases h
  | .agg ss vs, _, h => by rw [Rep]; exact groundL_ok ι ss vs _ (by simpa only [ground] using h)
  | .arr n c xs, _, h => by rw [Rep]; exact groundD_ok ι (.arr n c) xs _ (by simpa only [ground] using h)
  | .tup _, _, h => by cases h
  | .ptr _ _, _, h => by cases h
  | .ref _, _, h => by cases h
  | .fsl _ _, _, h => by cases h
  | .osl _ _ _ _ _ _, _, h => by cases h
  | .fn f [], _, h => by cases h; rw [Rep]; exact ⟨rfl, [], rfl, by rw [RepL]; exact ⟨rfl, rfl⟩⟩
  | .fn _ (_ :: _), _, h => by cases h
  | .yld _, _, h => by cases h
  | .bnd _ _, _, h => by cases h
  | .mp _, _, h => by cases h
  | .row _ _ _, _, h => by cases h
  | .any, _, h => by cases h
  | .junk, _, h => by cases h
theorem groundL_ok (ι : Inst) : ∀ (ss : List Nat) (vs : List AV) (cs : List Value), groundL ss vs = some cs → RepL ι ss vs cs
  | [], [], _, h => by cases h; rw [RepL]; exact ⟨rfl, rfl⟩
  | s :: ss, v :: vs, _, h => by
    simp only [groundL] at h
    split at h
    · rename_i l m h1 h2
      split at h
      · rename_i hl; cases h
        rw [RepL]
        exact ⟨s, ss, l, m, rfl, rfl, hl, ground_ok ι v l h1, groundL_ok ι ss vs m h2⟩
      · cases h
    · cases h
  | [], _ :: _, _, h => by cases h
  | _ :: _, [], _, h => by cases h
end

def wrapV (v : AV) (cs : List Value) : Option Value := if aggB v then some (.agg cs.toArray) else match cs with | [c] => some c | _ => none

theorem wrapV_ok {ι : Inst} {v : AV} {cs : List Value} {z : Value} (h : ground v = some cs) (hz : wrapV v cs = some z) : RepV0 ι v z := by
  unfold wrapV at hz
  unfold RepV0
  split at hz
  · rename_i e; cases hz; rw [if_pos e]; exact ⟨cs, ground_ok ι v cs h, rfl⟩
  · rename_i e; rw [if_neg e]
    split at hz
    · cases hz; exact ground_ok ι v _ h
    · cases hz

def zeroOK (d : ATy) (i : TypeInfo) : Option Value := match ground d.zero with
  | some cs => if aggB d.zero = d.agg ∧ szV d.zero = d.size ∧ i.size = d.size ∧ i.bytes = d.bytes then wrapV d.zero cs else none
  | none => none

theorem ATy.ok_of {P : Program} {t : TypeId} {d : ATy} {i : TypeInfo} {z : Value} (h1 : P.underlying t = some d.desc) (h2 : P.info? t = some i) (h3 : i.zero = some z) (h4 : zeroOK d i = some z) : d.ok P t := by
  unfold zeroOK at h4
  split at h4
  · rename_i cs hg
    split at h4
    · rename_i hc
      exact ⟨h1, i, z, h2, hc.2.2.1, hc.2.2.2, h3, fun ι => wrapV_ok hg h4, hc.1, hc.2.1⟩
    · cases h4
  · cases h4
end Go.Eng
end
section
/- What a row's reading of the arguments says in the engine's own data; what was read stays. -/
namespace Go.Eng
open Go.RowKit Go.ChangeShapes Go.WideShapes Go.Deep

/-- Each number is of its kind, each length small. -/
def TC.wf : (c : TC) → c.den → Prop
  | .int k, n => (Lit.int k n).wf = true
  | .bool, _ => True
  | .str, s => s.size ≤ maxLen
  | .unit, _ => True
  | .st a r, x => a.wf x.1 ∧ r.wf x.2
  | .st1 a, x => a.wf x
  | .slice c, xs => xs.length ≤ maxLen ∧ ∀ x ∈ xs, c.wf x
  | .arr n c, xs => xs.length = n ∧ ∀ x ∈ xs, c.wf x
  | .ref c, x => c.wf x
  | .junk, _ => True

/-- The code is the type's; and of a struct's fields from one on. -/
def TC.okB (P : Program) : TC → (TypeId → Bool) × (List Field → Nat → Bool)
  | .int k => (fun t => match P.underlying t with | some (.int k') => decide (k = k') | _ => false, fun _ _ => false)
  | .bool => (fun t => match P.underlying t with | some .bool => true | _ => false, fun _ _ => false)
  | .str => (fun t => match P.underlying t with | some .string => true | _ => false, fun _ _ => false)
  | .unit => (fun _ => false, fun _ _ => false)
  | .st a r =>
    let g : List Field → Nat → Bool := fun fs off => match fs with
      | f :: fs => f.offset == off && (a.okB P).1 f.type && P.cellsOf f.type == a.size && (r.okB P).2 fs (off + a.size)
      | [] => false
    (fun t => match P.underlying t with | some (.struct fs) => g fs.toList 0 && P.cellsOf t == (TC.st a r).size | _ => false, g)
  | .st1 a =>
    let g : List Field → Nat → Bool := fun fs off => match fs with
      | [f] => f.offset == off && (a.okB P).1 f.type && P.cellsOf f.type == a.size
      | _ => false
    (fun t => match P.underlying t with | some (.struct fs) => g fs.toList 0 && P.cellsOf t == a.size | _ => false, g)
  | .slice c => (fun t => match P.underlying t with | some (.slice e) => (c.okB P).1 e && P.cellsOf e == c.size && c.size != 0 | _ => false, fun _ _ => false)
  | .arr n c => (fun t => match P.underlying t with | some (.array m e) => m == n && (c.okB P).1 e && P.cellsOf e == c.size && P.cellsOf t == n * c.size | _ => false, fun _ _ => false)
  | .ref _ => (fun _ => false, fun _ _ => false)
  | .junk => (fun _ => false, fun _ _ => false)

section
variable {H : Type} {enc : TypeId × Value → H} {P : Program} {w : World} {base : Nat} {held : Bool}

theorem cells_at {b off n : Nat} {cs' : List Value} {cells : Array Value} {t : TypeId} {fz : Nat × Nat} (hb : w.heap[b]? = some (.cells cells t fz)) (h : w.cells? base ⟨b, off, none⟩ n = some cs') : cs'.length = n ∧ At cells off cs' := by
  obtain ⟨_, hl, hat⟩ := World.cells?_some h
  refine ⟨hl, fun j v hj => ?_⟩
  have hjn : j < n := by rw [← hl]; exact (List.getElem?_eq_some_iff.1 hj).1
  have := hat j hjn
  rw [addr_add, cell_of hb] at this
  rw [this, hj]

theorem cell_inv {a : Addr} {v : Value} (h : w.cell? a = some v) : ∃ cells t fz, w.heap[a.block]? = some (.cells cells t fz) ∧ a = ⟨a.block, a.off, none⟩ := by
  unfold World.cell? at h
  split at h
  · rename_i c t fz hh
    split at h
    · cases h
    · rename_i hs
      refine ⟨c, t, fz, hh, ?_⟩
      cases a with
      | mk b o s => cases s with
        | none => rfl
        | some => exact absurd rfl hs
  · cases h

theorem rows_at {ι : Inst} {c : TC} {off len : Nat} {cells : Array Value} (h : ∀ i, i < len → ∃ (x : c.den) (l : List Value), RepD ι c x l ∧ c.wf x ∧ At cells (off + i * c.size) l) :
    ∃ (xs : List c.den) (l : List Value), xs.length = len ∧ RepAll (RepD ι c) xs l ∧ At cells off l ∧ ∀ x ∈ xs, c.wf x := by
  induction len with
  | zero => exact ⟨[], [], rfl, .nil, fun j v hj => by simp at hj, fun _ h => by cases h⟩
  | succ n ih =>
    obtain ⟨xs, l, hl, hr, hat, hw⟩ := ih fun i hi => h i (by omega)
    obtain ⟨x, m, hx, wx, hm⟩ := h n (by omega)
    refine ⟨xs ++ [x], l ++ m, by simp [hl], hr.app (by simpa using RepAll.cons hx .nil), ?_, ?_⟩
    · intro j v hj
      by_cases hjl : j < l.length
      · rw [List.getElem?_append_left hjl] at hj; exact hat j v hj
      · rw [List.getElem?_append_right (by omega)] at hj
        have := hm (j - l.length) v hj
        have e : l.length = n * c.size := by rw [hr.len (RepD_len c), hl]
        rwa [show off + n * c.size + (j - l.length) = off + j by omega] at this
    · intro y hy
      rcases List.mem_append.1 hy with h | h
      · exact hw y h
      · simp only [List.mem_singleton] at h; subst h; exact wx

theorem rows_in {ι : Inst} {c : TC} {cs : List Value} : ∀ (n : Nat), n * c.size ≤ cs.length → (∀ i, i < n → ∃ x : c.den, RepD ι c x ((cs.drop (i * c.size)).take c.size) ∧ c.wf x) →
    ∃ xs : List c.den, xs.length = n ∧ RepAll (RepD ι c) xs (cs.take (n * c.size)) ∧ ∀ x ∈ xs, c.wf x
  | 0, _, _ => ⟨[], rfl, by simpa using .nil, fun _ h => by cases h⟩
  | n + 1, hl, h => by
    obtain ⟨xs, hn, hr, hw⟩ := rows_in n (by rw [Nat.add_mul] at hl; omega) fun i hi => h i (by omega)
    obtain ⟨x, hx, wx⟩ := h n (by omega)
    refine ⟨xs ++ [x], by simp [hn], ?_, ?_⟩
    · rw [Nat.add_mul, Nat.one_mul, List.take_add]
      exact hr.app (by simpa using RepAll.cons hx .nil)
    · intro y hy
      rcases List.mem_append.1 hy with h | h
      · exact hw y h
      · simp only [List.mem_singleton] at h; subst h; exact wx

theorem read_ok {ι : Inst} (hprot : ∀ b, base ≤ b → ι.prot b = w.heap[b]?) : ∀ (c : TC),
    (∀ (t : TypeId) (fuel : Nat) (cs : List Value) (z : DataW H × List MemPlace), (c.okB P).1 t = true → DataW.trod enc P w base (fun _ => true) held fuel t cs = some z → ∃ x, RepD ι c x cs ∧ c.wf x) ∧
    (∀ (fs : List Field) (off n : Nat) (cs : List Value), (c.okB P).2 fs off = true → (∀ (i : Nat) (f : Field), fs[i]? = some f → ∃ z, DataW.trod enc P w base (fun _ => true) held n f.type ((cs.drop f.offset).take (P.cellsOf f.type)) = some z) →
      cs.length = off + c.size → ∃ x, RepD ι c x (cs.drop off) ∧ c.wf x) := by
  intro c
  induction c with
  | int k =>
    refine ⟨fun t fuel cs z h ht => ?_, fun _ _ _ _ h => by cases h⟩
    simp only [TC.okB] at h
    split at h
    · rename_i k' hu
      simp only [decide_eq_true_eq] at h; subst h
      obtain ⟨n, rfl, _, hw⟩ := DataW.trod_int hu ht
      exact ⟨n, rfl, hw⟩
    · cases h
  | bool =>
    refine ⟨fun t fuel cs z h ht => ?_, fun _ _ _ _ h => by cases h⟩
    simp only [TC.okB] at h
    split at h
    · rename_i hu
      obtain ⟨b, rfl, _⟩ := DataW.trod_bool hu ht
      exact ⟨b, rfl, trivial⟩
    · cases h
  | str =>
    refine ⟨fun t fuel cs z h ht => ?_, fun _ _ _ _ h => by cases h⟩
    simp only [TC.okB] at h
    split at h
    · rename_i hu
      obtain ⟨s, rfl, _, hs⟩ := DataW.trod_string hu ht
      exact ⟨s, rfl, hs⟩
    · cases h
  | unit => exact ⟨(fun _ _ _ _ h => by cases h), (fun _ _ _ _ h => by cases h)⟩
  | st a r iha ihr =>
    have h2 : ∀ (fs : List Field) (off n : Nat) (cs : List Value), ((TC.st a r).okB P).2 fs off = true → (∀ (i : Nat) (f : Field), fs[i]? = some f → ∃ z, DataW.trod enc P w base (fun _ => true) held n f.type ((cs.drop f.offset).take (P.cellsOf f.type)) = some z) →
        cs.length = off + (TC.st a r).size → ∃ x, RepD ι (.st a r) x (cs.drop off) ∧ (TC.st a r).wf x := by
      intro fs off n cs h hf hl
      simp only [TC.okB] at h
      split at h
      · rename_i f fs'
        simp only [Bool.and_eq_true, beq_iff_eq] at h
        obtain ⟨⟨⟨rfl, h1⟩, h3⟩, h4⟩ := h
        obtain ⟨z, hz⟩ := hf 0 f rfl
        obtain ⟨x, hx, wx⟩ := iha.1 _ _ _ _ h1 hz
        obtain ⟨y, hy, wy⟩ := ihr.2 fs' (f.offset + a.size) n cs h4 (fun i g e => hf (i + 1) g (by simpa using e)) (by rw [hl]; simp [TC.size]; omega)
        refine ⟨(x, y), ⟨(cs.drop f.offset).take a.size, cs.drop (f.offset + a.size), ?_, ?_, hy⟩, wx, wy⟩
        · rw [← List.drop_drop, List.take_append_drop]
        · rw [h3] at hx; exact hx
      · cases h
    refine ⟨fun t fuel cs z h ht => ?_, h2⟩
    simp only [TC.okB] at h
    split at h
    · rename_i fs hu
      simp only [Bool.and_eq_true, beq_iff_eq] at h
      obtain ⟨xs, n, _, _, hlen, hxl, hf⟩ := DataW.trod_struct hu ht
      have := h2 fs.toList 0 n cs (by simpa only [TC.okB] using h.1) (fun i f e => by
        have e' : fs[i]? = some f := by simpa using e
        have hi : i < xs.length := by rw [hxl]; exact (Array.getElem?_eq_some_iff.1 e').1
        exact ⟨xs[i], by rw [hf i f e', List.getElem?_eq_getElem hi]⟩) (by rw [hlen, h.2]; simp)
      simpa using this
    · cases h
  | st1 a iha =>
    have h2 : ∀ (fs : List Field) (off n : Nat) (cs : List Value), ((TC.st1 a).okB P).2 fs off = true → (∀ (i : Nat) (f : Field), fs[i]? = some f → ∃ z, DataW.trod enc P w base (fun _ => true) held n f.type ((cs.drop f.offset).take (P.cellsOf f.type)) = some z) →
        cs.length = off + (TC.st1 a).size → ∃ x, RepD ι (.st1 a) x (cs.drop off) ∧ (TC.st1 a).wf x := by
      intro fs off n cs h hf hl
      simp only [TC.okB] at h
      split at h
      · rename_i f
        simp only [Bool.and_eq_true, beq_iff_eq] at h
        obtain ⟨⟨rfl, h1⟩, h3⟩ := h
        obtain ⟨z, hz⟩ := hf 0 f rfl
        obtain ⟨x, hx, wx⟩ := iha.1 _ _ _ _ h1 hz
        refine ⟨x, ?_, wx⟩
        rw [h3, List.take_of_length_le (by simp [hl, TC.size])] at hx
        exact hx
      · cases h
    refine ⟨fun t fuel cs z h ht => ?_, h2⟩
    simp only [TC.okB] at h
    split at h
    · rename_i fs hu
      simp only [Bool.and_eq_true, beq_iff_eq] at h
      obtain ⟨xs, n, _, _, hlen, hxl, hf⟩ := DataW.trod_struct hu ht
      have := h2 fs.toList 0 n cs (by simpa only [TC.okB] using h.1) (fun i f e => by
        have e' : fs[i]? = some f := by simpa using e
        have hi : i < xs.length := by rw [hxl]; exact (Array.getElem?_eq_some_iff.1 e').1
        exact ⟨xs[i], by rw [hf i f e', List.getElem?_eq_getElem hi]⟩) (by rw [hlen, h.2]; simp [TC.size])
      simpa using this
    · cases h
  | slice c ih =>
    refine ⟨fun t fuel cs z h ht => ?_, fun _ _ _ _ h => by cases h⟩
    simp only [TC.okB] at h
    split at h
    · rename_i e hu
      simp only [Bool.and_eq_true, beq_iff_eq, bne_iff_ne, ne_eq] at h
      obtain ⟨⟨h1, h3⟩, h0⟩ := h
      rcases open_slice hu ht with ⟨rfl, _⟩ | ⟨a, len, cap, m, n, D, Pl, rfl, hb, hl, hm, hmm, _, hi⟩
      · exact ⟨[], ⟨_, rfl, .inl ⟨rfl, .inl rfl⟩⟩, Nat.zero_le _, fun _ h => by cases h⟩
      · rw [h3] at hi
        simp only [if_true] at hmm
        have hmm := hmm.symm
        subst hmm
        by_cases hc : cap = 0
        · subst hc
          have : len = 0 := by omega
          subst this
          exact ⟨[], ⟨_, rfl, .inl ⟨rfl, .inr ⟨a, rfl⟩⟩⟩, Nat.zero_le _, fun _ h => by cases h⟩
        · obtain ⟨cs0, hc0, _⟩ := hi 0 (by omega)
          obtain ⟨_, hl0, hat0⟩ := World.cells?_some hc0
          have hz : 0 < cs0.length := by omega
          have hcell := hat0 0 (by omega)
          rw [Nat.zero_mul, Addr.add_zero', Addr.add_zero', List.getElem?_eq_getElem hz] at hcell
          obtain ⟨cells, ty, fz, hh, ha⟩ := cell_inv hcell
          generalize a.block = b at *
          generalize a.off = off at *
          subst ha
          obtain ⟨xs, l, hxl, hr, hat, hw⟩ := rows_at (ι := ι) (c := c) (off := off) (len := len) (cells := cells) (by
            intro i hil
            obtain ⟨cs', hc', ht'⟩ := hi i (by omega)
            rw [addr_add] at hc'
            obtain ⟨hl', hat'⟩ := cells_at hh hc'
            obtain ⟨x, hx, wx⟩ := ih.1 _ _ _ _ h1 ht'
            exact ⟨x, cs', hx, wx, hat'⟩)
          refine ⟨xs, ⟨_, rfl, .inr ⟨b, off, cap, cells, ty, fz, l, by rw [hxl], by rw [hxl]; exact hl, ?_, hr, hat⟩⟩, by rw [hxl]; omega, hw⟩
          rw [hprot b hb, hh]
    · cases h
  | arr n c ih =>
    refine ⟨fun t fuel cs z h ht => ?_, fun _ _ _ _ h => by cases h⟩
    simp only [TC.okB] at h
    split at h
    · rename_i m e hu
      simp only [Bool.and_eq_true, beq_iff_eq] at h
      obtain ⟨⟨⟨rfl, h1⟩, h3⟩, h4⟩ := h
      obtain ⟨ys, k, _, _, hlen, hyl, hi⟩ := DataW.trod_array hu ht
      rw [h3] at hi
      rw [h4] at hlen
      obtain ⟨xs, hxl, hr, hw⟩ := rows_in (ι := ι) (c := c) (cs := cs) m (by omega) (by
        intro i him
        have := hi i him
        rw [List.getElem?_eq_getElem (by omega)] at this
        exact ih.1 _ _ _ _ h1 this)
      rw [List.take_of_length_le (by omega)] at hr
      exact ⟨xs, ⟨hxl, hr⟩, hxl, hw⟩
    · cases h
  | ref c _ => exact ⟨(fun _ _ _ _ h => by cases h), (fun _ _ _ _ h => by cases h)⟩
  | junk => exact ⟨(fun _ _ _ _ h => by cases h), (fun _ _ _ _ h => by cases h)⟩

/-- All arguments at once. -/
def TC.okAll (P : Program) : TC → List TypeId → Bool
  | .unit, [] => true
  | .st1 a, [t] => (a.okB P).1 t
  | .st a r, t :: ts => (a.okB P).1 t && !ts.isEmpty && r.okAll P ts
  | _, _ => false

theorem RepV_ofD {ι : Inst} {c : TC} {x : c.den} {v : Value} (h : RepD ι c x v.cells.toList) (hv : aggB (ofD c x) = true → ∃ cs, v = .agg cs) (hn : aggB (ofD c x) = false → v.cells = #[v]) : RepV ι (ofD c x) v := by
  have hr := Rep_ofD.2 h
  cases ha : aggB (ofD c x) with
  | true =>
    obtain ⟨cs, rfl⟩ := hv ha
    have := RepV_of_agg ha hr
    simpa [Value.cells] using this
  | false =>
    rw [hn ha] at hr
    exact RepV_of_rep ha hr

def TC.agg : TC → Bool
  | .st _ _ => true
  | .st1 _ => true
  | .unit => true
  | .arr _ _ => true
  | _ => false

theorem ofD_agg : ∀ (c : TC) (x : c.den), aggB (ofD c x) = c.agg := by intro c x; cases c <;> rfl

theorem okB_shape {c : TC} {t : TypeId} (h : (c.okB P).1 t = true) : (c.agg = true ↔ ((∃ fs, P.underlying t = some (.struct fs)) ∨ ∃ n e, P.underlying t = some (.array n e))) := by
  cases c <;> simp only [TC.okB] at h <;> (first | (cases h; done) | skip) <;> split at h <;> first
    | (cases h; done)
    | (rename_i hu; simp [TC.agg, hu])

theorem arg_ok {ι : Inst} (hprot : ∀ b, base ≤ b → ι.prot b = w.heap[b]?) {c : TC} {t : TypeId} {v : Value} {d : DataW H} {ps : List MemPlace} {r : Reach} {b0 : Nat} {w' : World} (hok : (c.okB P).1 t = true) (hval : Value.okWide P w' r b0 t v)
    (h : DataW.Trod enc P w base (fun _ => true) held t v d ps) : ∃ x : c.den, RepV ι (ofD c x) v ∧ c.wf x := by
  obtain ⟨fuel, h⟩ := h
  obtain ⟨x, hx, wx⟩ := (read_ok hprot c).1 _ _ _ _ hok h
  refine ⟨x, RepV_ofD hx (fun ha => ?_) (fun ha => ?_), wx⟩
  · rw [ofD_agg] at ha
    rcases (okB_shape hok).1 ha with ⟨fs, hu⟩ | ⟨n, e, hu⟩
    · simp only [Value.okWide, hu] at hval
      obtain ⟨cs, rfl, _⟩ := hval; exact ⟨cs, rfl⟩
    · simp only [Value.okWide, hu] at hval
      obtain ⟨cs, rfl, _⟩ := hval; exact ⟨cs, rfl⟩
  · have hr := Rep_ofD.2 hx
    have hl := Rep_len _ _ hr
    have h1 : szV (ofD c x) = 1 := by
      cases c <;> first | rfl | (rw [ofD_agg] at ha; cases ha; done)
    rw [h1] at hl
    have hc1 : v.cells.size = 1 := by simpa using hl
    cases v <;> first
      | rfl
      | (rename_i cs
         have hn : ¬ c.agg = true := by rw [← ofD_agg c x, ha]; simp
         exfalso
         have hnot := fun h => hn ((okB_shape hok).2 h)
         revert hval
         unfold Value.okWide
         split
         · rename_i fs hu; exact absurd (.inl ⟨fs, hu⟩) hnot
         · rename_i n e hu; exact absurd (.inr ⟨n, e, hu⟩) hnot
         · intro hval
           unfold Cell.okWide at hval
           split at hval <;> first | (rename_i hv; cases hv; done) | skip
           unfold Cell.ok at hval
           split at hval <;> first | (rename_i hv; cases hv; done) | exact hval)

theorem args_ok {ι : Inst} (hprot : ∀ b, base ≤ b → ι.prot b = w.heap[b]?) {r : Reach} {b0 : Nat} {w' : World} : ∀ (c : TC) (ts : List TypeId) (vs : List Value) (ds : List (DataW H)) (ps : List MemPlace), c.okAll P ts = true →
    (∀ (j : Nat) t v, ts[j]? = some t → vs[j]? = some v → Value.okWide P w' r b0 t v) → DataW.TrodAll enc P w base (fun _ => true) held ts vs ds ps → ∃ x : c.den, All2 (RepV ι) (argsOf c x) vs ∧ c.wf x
  | .unit, [], vs, _, _, _, _, h => by
    cases vs with
    | nil => exact ⟨(), .nil, trivial⟩
    | cons => simp [DataW.TrodAll] at h
  | .st1 a, [t], vs, ds, _, hok, hval, h => by
    match vs, ds, h with
    | v :: vs, d :: ds, ⟨p, q, h1, h2, _⟩ =>
      cases vs with
      | cons => cases ds <;> simp [DataW.TrodAll] at h2
      | nil =>
        obtain ⟨x, hx, wx⟩ := arg_ok hprot hok (hval 0 t v rfl rfl) h1
        exact ⟨x, .cons hx .nil, wx⟩
  | .st a r', t :: ts, vs, ds, _, hok, hval, h => by
    simp only [TC.okAll, Bool.and_eq_true] at hok
    match vs, ds, h with
    | v :: vs, d :: ds, ⟨p, q, h1, h2, _⟩ =>
      obtain ⟨x, hx, wx⟩ := arg_ok hprot hok.1.1 (hval 0 t v rfl rfl) h1
      obtain ⟨y, hy, wy⟩ := args_ok hprot r' ts vs ds q hok.2 (fun j t v e1 e2 => hval (j + 1) t v (by simpa using e1) (by simpa using e2)) h2
      refine ⟨(x, y), ?_, wx, wy⟩
      have e : argsOf (.st a r') (x, y) = ofD a x :: (r'.both y).2 := rfl
      rw [e]
      refine .cons hx ?_
      cases r' with
      | unit =>
        cases ts with
        | nil => simp at hok
        | cons => simp [TC.okAll] at hok
      | _ => exact hy

/-- What was read stays, where nothing that was has changed. -/
theorem trodAll_stays (hl : laidOutB P = true) {W W' : World} (hb : Below W.heap.size W W') : ∀ (ts : List TypeId) (vs : List Value) (ds : List (DataW H)) (ps : List MemPlace), (ts.all fun t => P.readableRec t && decide (t < P.types.size)) = true →
    DataW.TrodAll enc P W base (fun _ => true) true ts vs ds ps → DataW.TrodAll enc P W' base (fun b => decide (b < W.heap.size)) true ts vs ds ps
  | [], [], [], _, _, h => h
  | t :: ts, v :: vs, d :: ds, _, hr, ⟨p, q, h1, h2, e⟩ => by
    simp only [List.all_cons, Bool.and_eq_true, decide_eq_true_eq] at hr
    refine ⟨p, q, ?_, trodAll_stays hl hb ts vs ds q (by simpa using hr.2) h2, e⟩
    obtain ⟨n, hn⟩ := h1
    refine Go.WideElems.Trod_stays hl hr.1.1 hr.1.2 ⟨n, hn⟩ (fun p hp => hb.same (DataW.trod_lt n t _ _ hn p hp)) (fun p hp => decide_eq_true (DataW.trod_lt n t _ _ hn p hp))
  | [], _ :: _, _, _, _, h => h.elim
  | [], [], _ :: _, _, _, h => h.elim
  | _ :: _, [], _, _, _, h => h.elim
  | _ :: _, _ :: _, [], _, _, h => h.elim
end

theorem trodAll_len {H : Type} {enc : TypeId × Value → H} {P : Program} {W : World} {base : Nat} {sp : Nat → Bool} {held : Bool} : ∀ (ts : List TypeId) (vs : List Value) (ds : List (DataW H)) (ps : List MemPlace), DataW.TrodAll enc P W base sp held ts vs ds ps → ds.length = ts.length
  | [], [], [], _, _ => rfl
  | _ :: ts, _ :: vs, _ :: ds, _, ⟨_, q, _, h2, _⟩ => by simp [trodAll_len ts vs ds q h2]
  | [], _ :: _, _, _, h => h.elim
  | [], [], _ :: _, _, h => h.elim
  | _ :: _, [], _, _, h => h.elim
  | _ :: _, _ :: _, [], _, h => h.elim

theorem uncons {α : Type} {l : List α} {n : Nat} (h : l.length = n + 1) : ∃ a t, l = a :: t ∧ t.length = n := by
  cases l with
  | nil => cases h
  | cons a t => exact ⟨a, t, rfl, by simpa using h⟩

theorem unnil {α : Type} {l : List α} (h : l.length = 0) : l = [] := List.length_eq_zero_iff.1 h

/-! ### From a contract to a law's walk -/
/-- All of memory is protected. -/
def protAll (W : World) : Nat → Option Obj := fun b => W.heap[b]?

theorem law_walk {E : Env} (hV : E.Valid) {f : FuncId} {fn : Func} {c : Code} {sp : Spec} (hf : E.fns f = some fn) (hc : fn.body = some c) (h : SpecOk E f sp) {W : World} (hg : GlobRep E ⟨W, protAll W, []⟩) {x : sp.dom.den} (hp : sp.pre x) {args : List Value}
    (ha : All2 (RepV ⟨W, protAll W, []⟩) (argsOf sp.dom x) args) (hb : resV sp.n sp.cod (sp.f x) = .bool true) :
    Calls E.P f args.toArray W fun e W' => e = .returned (.bool true) ∧ Below W.heap.size W W' := by
  have h1 := h x W (protAll W) args hp (fun _ _ e => e) hg ha
  have h2 := callFunc_enter (E := E) (w := W) hV (f := f) (fn := fn) hf hc args.toArray
  rcases h1 with ⟨v, h3, _⟩ | ⟨_, h4⟩
  · rw [h2] at h3; cases h3
  · refine h4.mono fun e W' ⟨v, he, hB, hr⟩ => ⟨?_, hB⟩
    rw [hb] at hr
    rw [he, hr.1.bool]
end Go.Eng
end
section
/- Plain laws on trees and data: how a tree's end is told. -/
namespace Go.Eng

section
variable {J α : Type} {s : J → Tr (J ⊕ α)} {r : α}
theorem ends_need {p : Prop} {t : Tr (J ⊕ α)} : Ends s r (.need p t) ↔ p ∧ Ends s r t := ⟨fun h => by cases h; exact ⟨‹_›, ‹_›⟩, fun h => .need _ _ h.1 h.2⟩
theorem ends_ite {b : Bool} {t e : Tr (J ⊕ α)} : Ends s r (.ite b t e) ↔ (b = true → Ends s r t) ∧ (b = false → Ends s r e) := by
  cases b
  · exact ⟨fun h => ⟨fun h => (nomatch h), fun _ => by cases h; assumption⟩, fun h => .no _ _ (h.2 rfl)⟩
  · exact ⟨fun h => ⟨fun _ => by cases h; assumption, fun h => (nomatch h)⟩, fun h => .yes _ _ (h.1 rfl)⟩
theorem ends_jump {j : J} : Ends s r (.ret (.inl j)) ↔ Ends s r (s j) := ⟨fun h => by cases h; assumption, .jump _⟩
theorem ends_ret {a : α} : Ends s r (.ret (.inr a)) ↔ a = r := ⟨fun h => by cases h; rfl, fun h => h ▸ .ret⟩
end

theorem ok_ite {α : Type} {b : Bool} {t e : Tr α} : (Tr.ite b t e).ok ↔ (b = true → t.ok) ∧ (b = false → e.ok) := by
  cases b <;> simp [Tr.ok]
theorem ok_need {α : Type} {p : Prop} {t : Tr α} : (Tr.need p t).ok ↔ p ∧ t.ok := Iff.rfl
theorem ok_ret {α : Type} {a : α} : (Tr.ret a).ok ↔ True := Iff.rfl
theorem ok_all {α : Type} {f : Nat → Tr α} : (Tr.all f).ok ↔ ∀ j, (f j).ok ∧ (f j).val = (f 0).val := Iff.rfl
theorem ok_both {α : Type} {t e : Tr α} : (Tr.both t e).ok ↔ t.ok ∧ e.ok ∧ e.val = t.val := Iff.rfl
theorem val_both {α : Type} {t e : Tr α} : (Tr.both t e).val = t.val := rfl
theorem val_ret {α : Type} {a : α} : (Tr.ret a).val = a := rfl
theorem val_need {α : Type} {p : Prop} {t : Tr α} : (Tr.need p t).val = t.val := rfl
theorem val_ite {α : Type} {b : Bool} {t e : Tr α} : (Tr.ite b t e).val = cond b t.val e.val := rfl

theorem ieq_iff {a b : Int} : ieq a b = true ↔ a = b := by simp [ieq]
theorem ieq_no {a b : Int} : ieq a b = false ↔ a ≠ b := by simp [ieq]
theorem ine_no {a b : Int} : ine a b = false ↔ a = b := by simp [ine]
theorem ilt_iff {a b : Int} : ilt a b = true ↔ a < b := by simp [ilt]
theorem ilt_no {a b : Int} : ilt a b = false ↔ b ≤ a := by simp [ilt]
theorem ile_iff {a b : Int} : ile a b = true ↔ a ≤ b := by simp [ile]
theorem iadd_i64 {a b : Int} (h1 : -9223372036854775808 ≤ a + b) (h2 : a + b ≤ 9223372036854775807) : iadd .i64 a b = a + b := by
  simp only [iadd, IntKind.wrap, IntKind.signed, IntKind.bits]
  simp
  omega
end Go.Eng
end
